/-L-/
import Derived.Test.YtjnooagaghdkdaaGreatDoorZ30
set_option maxHeartbeats 10000000
set_option maxRecDepth 100000
set_option linter.all false
namespace Go.Proofs.YtjnooagaghdkdaaGreatDoor
section
open Go.RowKit Go.ChangeShapes Go.WideShapes Go.ChangeAt
theorem JjB:∀ ps:List ByteArray,(ps.flatMap JgI).length=ps.length*2
 | []=>rfl
 | p :: ps=>by
  rw [zG2,zA9,JjB ps,zD5];show 2+_=_;omega
theorem Jno (z:Int) (v v2:Value) (l:List Node) (ss:List Int) (x:Txn) (w:World) (h:Sl Jab 9 w v l) (h2:Sl cInt 1 w v2 ss) (hn:l.length*88<=140737488355328) (hn2:(ss.length+1)*8<=140737488355328) (hz:∀ n∈l,n.path.size<=9223372036854775807) (hp:x.path.size<=9223372036854775807)
  (hw:JbA ⟨z,l,ss⟩ x=0) (hop:x.op=2):Calls Tryz.prog 104 #[.agg #[.int .i64 z,v,v2],txnV x] w (Ja9 ⟨z,l,ss⟩ x w):=by
 obtain ⟨A,c,rfl,h1,h1b⟩:=h.form;obtain ⟨A2,c2,rfl,h3,h3b⟩:=h2.form;have HV:=zA0 h;have HS:=zA0 h2;have HWR:=zA0 (fun (W:World) (h:Sl Jab 9 W (.slice A l.length c) l) (h2:Sl cInt 1 W (.slice A2 ss.length c2) ss)=>Jfh z (.slice A l.length c) (.slice A2 ss.length c2) l ss x W h h2 qH1 qH1 hz hp)
 rw [hw] at HWR;have HCP:=zA0 (fun (W:World) (h:Sl Jab 9 W (.slice A l.length c) l) (h2:Sl cInt 1 W (.slice A2 ss.length c2) ss)=>JeF ⟨z,l,ss⟩ (.slice A l.length c) (.slice A2 ss.length c2) W h h2 hn qv0)
 obtain ⟨hgt,hgx,hzx,wi1,wi2,wi3,wi4,wi5⟩:=JbE hw;obtain ⟨hgw,hgf⟩:=JaP hgt;have HGW:=zA0 hgw;have HGF:=zA0 (Jdm.1 hgf);have hl4:l.length<=400:=hgw.len;have HLEN:=zA0 (Jb6 hw).len;have HYES:=zA0 (fun (W w':World) (b:Nat) (L:List Node) (S:List Int) (V:List Event) (nv sv vv:Value) (B:Nat) (hf:JbD L=false) (hL:doN ⟨z,l,ss⟩ x=L) (hS:doS ⟨z,l,ss⟩ x=S) (hV:doV ⟨z,l,ss⟩ x=V) (h:Hand W B b ⟨x.zxid,L,S⟩ V nv sv vv) (hB:w.heap.size<=B) (hn:Ow Jab 9 75 w' B nv L) (hs:Ow cInt 1 3 w' B sv S) (hv:Ow JaG 2 78 w' B vv V) (hb:Below w.heap.size w w')=>Jch hw hf hL hS hV h hB hn hs hv hb)
 have HNO:=zA0 (fun (w':World) (hf:JbD (doN ⟨z,l,ss⟩ x)=true) (hb:Below w.heap.size w w')=>Jb7 (Je5 hw hf) qG1 hb)
 clear h h2 hgt hgw hgf;obtain ⟨xz,xo,xs,xp,xd,xv,xw⟩:=x;simp only at *;subst hop;clear wi1 wi3 wi4 wi5;have HWI:=zA0 (wi2 (show (2:Int)≠1 by decide))
 clear wi2;have HXS:Hid (1<=xs):=zA0 (Jc2 hgx).2.2.1.1;go_enter Tryz.func104,Tryz.ntmps104
 go_upto_region 5 with (first | (go_at_call 132; refine zc (HWR.out _ (HV.out.below zR) (HS.out.below zR)) (fun ext1 d1=>?_)) | (go_at_call 133; refine (HCP.out _ (HV.out.below zR) (HS.out.below zR)).mono ?_; rintro e w2 hT; obtain ⟨X0,hX0,A5,c5,A6,c6,rfl,ho5,ho6,hb⟩:=JnU (P:=fun X=>TrIs ⟨z,l,ss⟩ X e w2) hT; have HO5:=zA0 ho5; have HO6:=zA0 ho6; clear ho5 ho6 hT; have HB2:=zA0 hb; clear hb))
 have hwX:Below w.heap.size w X0:=quE;have hXs:w.heap.size+1+1<X0.heap.size:=qnE;have q21:X0.cell? ⟨w.heap.size,1,none⟩=some (.slice A l.length c):=qBE;have q30:X0.cell? ⟨w.heap.size+1,0,none⟩=some (.int .i64 xz):=qBE;have q31:X0.cell? ⟨w.heap.size+1,1,none⟩=some (.int .i64 2):=qBE;have q32:X0.cell? ⟨w.heap.size+1,2,none⟩=some (.int .i64 xs):=qBE;have q33:X0.cell? ⟨w.heap.size+1,3,none⟩=some (.string xp):=qBE;have q34:X0.cell? ⟨w.heap.size+1,4,none⟩=some (.string xd):=qBE;have q35:X0.cell? ⟨w.heap.size+1,5,none⟩=some (.int .i64 xv):=qBE;have q36:X0.cell? ⟨w.heap.size+1,6,none⟩=some (.int .i64 xw):=qBE;have q40:X0.cell? ⟨w.heap.size+1+1,0,none⟩=some (.int .i64 0):=qBE;have q41:X0.cell? ⟨w.heap.size+1+1,1,none⟩=some (.slice none 0 0):=qBE;have q42:X0.cell? ⟨w.heap.size+1+1,2,none⟩=some (.slice none 0 0):=qBE;have r40:X0.frozen? ⟨w.heap.size+1+1,0,none⟩=false:=qBE;have r41:X0.frozen? ⟨w.heap.size+1+1,1,none⟩=false:=qBE;have r42:X0.frozen? ⟨w.heap.size+1+1,2,none⟩=false:=qBE;refine Jax (fun W1 hW1=>?_)
 have hb1:Below X0.heap.size X0 W1:=qYE;have H1:=zA0 (show Hand W1 X0.heap.size w2.heap.size ⟨z,l,ss⟩ [] (.slice A5 l.length c5) (.slice A6 ss.length c6) (.slice none 0 0) by
  rw [hW1.out];exact ⟨Bk.new w2 _ _ rfl,HO5.out.alloc _,HO6.out.alloc _,Ow.nil _ _ _ _ _,JcD HO5.out (zA3 _),JcD HO6.out (zA3 _),qp0,JdA HO5.out HO6.out qG1,(fun _ _=>by simp [Value.ownBlock]),(fun _ _=>by simp [Value.ownBlock]),HB2.out.size⟩)
 clear hW1 HO5 HO6 HB2 hX0 HWR HCP;generalize w2.heap.size=b at *;clear w2;obtain ⟨b0,b1,b2,b3,bf1,bf2,bf3,bf0,blt⟩:=H1.out.cells;have y0:=(hb1.cell (p:=⟨w.heap.size+1,0,none⟩) qv0).trans q30;go_upto_region 6 with fail
 refine Jax (fun W3 hW3=>?_)
 have hb3:Below X0.heap.size X0 W3:=qRE;have H3:=zA0 (show Hand W3 X0.heap.size b ⟨xz,l,ss⟩ [] _ _ _ from hW3.out▸H1.out.number)
 clear hW3 H1 hb1 y0 b0 b1 b2 b3 bf1 bf2 bf3 bf0 blt;have y0:=(hb3.cell (p:=⟨w.heap.size+1,0,none⟩) qv0).trans q30;have y1:=(hb3.cell (p:=⟨w.heap.size+1,1,none⟩) qv0).trans q31;have y2:=(hb3.cell (p:=⟨w.heap.size+1,2,none⟩) qv0).trans q32;have y3:=(hb3.cell (p:=⟨w.heap.size+1,3,none⟩) qv0).trans q33;have y4:=(hb3.cell (p:=⟨w.heap.size+1,4,none⟩) qv0).trans q34;have y5:=(hb3.cell (p:=⟨w.heap.size+1,5,none⟩) qv0).trans q35;have y6:=(hb3.cell (p:=⟨w.heap.size+1,6,none⟩) qv0).trans q36;have hBW:X0.heap.size<=W3.heap.size:=hb3.size;have hin:=HWI.out;have HBI:=zA0 (fun (W:World) (h:Sl cInt 1 W (.slice A6 ss.length c6) ss)=>bsI (.slice A6 ss.length c6) ss xs W h qH1)
 rw [hin] at HBI;have hql:posI ss xs<ss.length:=by
  have:ss[posI ss xs]?=some xs:=by unfold isI at hin; simpa using hin
  exact (zB3.1 this).1
 have hdd:delS ss xs=ss.take (posI ss xs) ++ ss.drop (posI ss xs+1):=rfl;have hSl:(delS ss xs).length=ss.length - 1:=by
  rw [hdd,zA9,zC2,zE5];omega
 obtain ⟨S1,hS1⟩:∃ S1,S1=delS ss xs:=⟨_,rfl⟩;rw [<-hS1] at hdd hSl;have HS1:=zA0 hS1;generalize posI ss xs=q at *;clear hS1 hin HWI;obtain ⟨b0,b1,b2,b3,bf1,bf2,bf3,bf0,blt⟩:=H3.out.cells;go_upto_region 11 with fail
 refine JbF qE1 qE1 ?_
 try simp only [List.append]
 repeat' (first | go_big_quiet_skip | (go_big_quiet_want; go_big_quiet_op; first | go_big_quiet_on | (apply Exists.intro; refine ⟨fun _=>?hqg1,?hqg2⟩; (case hqg1=>(go_at_call 40; refine Calls.grow_of (HBI.out _ (H3.out.sess.sl.below zR)))); go_big_quiet_on)))
 all_goals refine wpQuiet_nil ?_
 all_goals rintro _ ⟨⟨extq,dq⟩,rfl⟩
 all_goals dsimp only
 go_upto_region 12 with fail
 refine Jax (fun W4 hW4=>?_)
 have hbW:Below W3.heap.size W3 W4:=qeE;have hb4:Below X0.heap.size X0 W4:=hb3.trans (hbW.mono hBW);have H4:=zA0 (H3.out.below hbW);have hBW4:X0.heap.size<=W4.heap.size:=hb4.size;clear hW4 hbW H3 hb3 hBW b0 b1 b2 b3 bf1 bf2 bf3 bf0 blt y0 y1 y2 y3 y4 y5 y6 HBI;obtain ⟨b0,b1,b2,b3,bf1,bf2,bf3,bf0,blt⟩:=H4.out.cells;have h3c:c6<=9223372036854775807:=by
  obtain ⟨_,_,e,_,hc,_⟩:=H4.out.sess.form;injection e with _ _ e
  rw [e];simpa [maxLen] using hc
 go_upto_region 13 with (go_at_call 135; go_loud ((with_reducible refine (delInt _ _ _ _ ss _ X0.heap.size H4.out.sess hql h3c).mono ?_); rintro e w2 ⟨rfl,hd⟩; have HX:=zA0 (Jjx (w:=X0) (v2:=.slice A6 (ss.length - 1) c6) H4.out hb4 (zB6 _ _) hd.out.1 hd.out.2 (Or.inl (Jlh A6 _ _ _ _))); obtain ⟨_,_,hs3,hf3,hl3⟩:=HX.out; clear hd))
 refine Jax (fun W5 hW5=>?_)
 rw [<-hW5.out,<-hdd] at HX;have H5:=zA0 HX.out.1;have hb5:Below X0.heap.size X0 W5:=HX.out.2.1;clear hW5 HX hs3 hf3 hl3 H4 b0 b1 b2 b3 bf1 bf2 bf3 bf0 blt hb4 hdd hSl hBW4;have HVX:=zA0 (HV.out.below (w':=X0) hwX);have z21:=(hb5.cell (p:=⟨w.heap.size,1,none⟩) qv0).trans q21;have HG':Hid (GoodW xz l ss):=zA0 (HGW.out.later qH1 (Jc2 hgx).2.1.2);have hs0:xs≠0:=by have:=HXS.out; omega
 go_wp2_with fail;go_loopw [92] (fun i wr=>∃ (k:Nat),k<=l.length/\i=.int .i64 k/\Hid (∃ nv sv vv,Hand wr X0.heap.size b ⟨xz,Jdt l xz (JaJ (l.take k) xs),S1⟩ ((JaJ (l.take k) xs).flatMap JgI) nv sv vv)/\Below X0.heap.size X0 wr) (fun i _=>l.length - (intOf i).toNat)
 case atStart=>exact ⟨0,zB9 _,rfl,zA0 ⟨_,_,_,H5.out⟩,hb5⟩
 case round=>
  obtain ⟨k,hk,rfl,HK,hbr⟩:=hrel;obtain ⟨nv,sv,vv,hK⟩:=HK.out;have H6:=zA0 hK;clear hK HK;have y0:=(hbr.cell (p:=⟨w.heap.size+1,0,none⟩) qv0).trans q30;have y2:=(hbr.cell (p:=⟨w.heap.size+1,2,none⟩) qv0).trans q32;have hrs:w.heap.size+1<wr.heap.size:=by have:=hbr.size; omega
  have hrX:X0.heap.size<=wr.heap.size:=hbr.size
  by_cases hlt:k<l.length
  ·have hx:l[k]?=some (l[k]'hlt):=zA8 _
   obtain ⟨bk,off,rfl,hbw,c0,c1,c2',c3,c4,c5',c6',c7,c8⟩:=(HVX.out.below hbr).Node_at hx;have hzp:=hz _ (zD3 hx);generalize l[k]'hlt=x at *;obtain ⟨np,nd,n1,n2,n3,n4,n5,no,nk⟩:=x;simp only at *
   by_cases ho:no=xs
   ·have hown:=Jhj hx xs
    obtain ⟨g1,g2,g3⟩:=close_at HG'.out hs0 HGF.out hx ho;simp only at g2 hown;rw [if_pos ho] at hown;subst ho;have hel:(JaJ (l.take k) no).length<=400:=zB5 (Jlg _ _) (by rw [zC2]; omega)
    have hev:((JaJ (l.take k) no).flatMap JgI).length=(JaJ (l.take k) no).length*2:=JjB _;have hcl:(Jdt l xz (JaJ (l.take k) no)).length<=400:=g1.len;have HOW:=zA0 hown;clear hx hown;go_wp2_with (go_at_call 136; go_loud ((with_reducible refine (Jhr xz _ S1 _ np xz _ _ _ _ X0.heap.size b (H6.out.below zR) qB1 g2 hzp qH1 (by rw [hev]; omega) g3).mono ?_); rintro e w4 ⟨nv4,sv4,vv4,rfl,hh4,hb4⟩; have HH4:=zA0 hh4; have HB4:=zA0 hb4; clear hh4 hb4))
    go_roundw
    case rel=>exact ⟨k+1,by omega,by go_num,zA0 ⟨_,_,_,by rw [HOW.out,JkV,zF6]; simpa using HH4.out⟩,(hbr.trans (Below.mono (show Below wr.heap.size wr _ from zR) hrX)).trans HB4.out⟩
    case measure=>simp [intOf]; omega
   ·have hown:=Jhj hx xs
    simp only at hown;rw [if_neg ho,zE9] at hown;have hno:(no == xs)=false:=zB7.2 ho;have HOW:=zA0 hown;clear hx hown;go_wp2_with fail;go_roundw
    case rel=>exact ⟨k+1,by omega,by go_num,zA0 ⟨_,_,_,by rw [HOW.out]; exact H6.out.below zR⟩,hbr.trans (Below.mono (show Below wr.heap.size wr _ from zR) hrX)⟩
    case measure=>simp [intOf]; omega
  ·have hkl:k=l.length:=by omega
   subst hkl;rw [zG1] at H6;clear H5 hb5;obtain ⟨W5,hW5⟩:∃ W5,W5=wr:=⟨_,rfl⟩;subst hW5;have H5:=H6;have hb5:=hbr;rw [HS1.out,JmQ] at H5;clear H6 y0 y2 hbr HS1 HG' HVX z21;obtain ⟨d1,d2,d3⟩:=doN_2 (t:=⟨z,l,ss⟩) (x:=⟨xz,2,xs,xp,xd,xv,xw⟩) rfl;simp only at d1 d2 d3;obtain ⟨L,hLL⟩:∃ L,L=JfB l xs xz:=⟨_,rfl⟩;obtain ⟨S,hSS⟩:∃ S,S=delS ss xs:=⟨_,rfl⟩;obtain ⟨V,hVV⟩:∃ V,V=(JaJ l xs).flatMap JgI:=⟨_,rfl⟩;have HL:=zA0 (d1.trans hLL.symm);have HS7:=zA0 (d2.trans hSS.symm);have HV7:=zA0 (d3.trans hVV.symm);have HNO1:=HNO;clear HNO;have HNO:=zA0 (fun (w':World) (hf:JbD L=true) (hb:Below w.heap.size w w')=>HNO1.out w' qq0 hb)
   have hL7:L.length<=140737488355328:=by rw [<-HL.out]; exact zB5 HLEN.out qG1
   rw [<-hLL,<-hSS,<-hVV] at H5;clear hLL hSS hVV d1 d2 d3 HNO1;obtain ⟨nv5,sv5,vv5,H5⟩:=JjL H5;obtain ⟨A7,c7,rfl,h7,h7b,_⟩:=H5.out.nodes.form;obtain ⟨A8,c8,rfl,h8,h8b,_⟩:=H5.out.sess.form;obtain ⟨A9,c9,rfl,h9,h9b,_⟩:=H5.out.evs.form;have y40:=(hb5.cell (p:=⟨w.heap.size+1+1,0,none⟩) qv0).trans q40;have y41:=(hb5.cell (p:=⟨w.heap.size+1+1,1,none⟩) qv0).trans q41;have y42:=(hb5.cell (p:=⟨w.heap.size+1+1,2,none⟩) qv0).trans q42;have z40:=(hb5.frozen (p:=⟨w.heap.size+1+1,0,none⟩) qv0).trans r40;have z41:=(hb5.frozen (p:=⟨w.heap.size+1+1,1,none⟩) qv0).trans r41;have z42:=(hb5.frozen (p:=⟨w.heap.size+1+1,2,none⟩) qv0).trans r42;obtain ⟨b0,b1,b2,b3,bf1,bf2,bf3,bf0,blt⟩:=H5.out.cells;have hwb:w.heap.size+1+1<b:=zD0 hXs H5.out.base;have hw5:w.heap.size+1+1<W5.heap.size:=qCE;have hwW:Below w.heap.size w W5:=hwX.trans (hb5.mono qH1);have HFU:=zA0 (fun (W:World) (h:Below W5.heap.size W5 W)=>JiP _ _ W (H5.out.nodes.sl.below h) hL7)
   cases hf:JbD L with
   | true=>
    rw [hf] at HFU;have HNO2:=zA0 (fun (w':World) (hb:Below w.heap.size w w')=>HNO.out w' hf hb)
    clear hf HYES;go_wp2_with ((go_at_call 138; refine zc (HFU.out _ zR) (fun ext1 d1=>?_)))
    refine Ja3 (fun WF hWF=>?_)
    have hBF:Below w.heap.size w WF:=qtE;obtain ⟨s0,s1,s2⟩:=Jbc y40 y41 y42 (v0:=.int .i64 0) (v1:=.slice none 0 0) (v2:=.slice none 0 0);have f0:WF.cell? ⟨w.heap.size+1+1,0,none⟩=some (.int .i64 0):=qfE;have f1:WF.cell? ⟨w.heap.size+1+1,1,none⟩=some (.slice none 0 0):=qgE;have f2:WF.cell? ⟨w.heap.size+1+1,2,none⟩=some (.slice none 0 0):=qhE;clear hWF s0 s1 s2;refine zA1 (v:=.tuple #[.agg #[.int .i64 0,.slice none 0 0,.slice none 0 0],.slice none 0 0,.int .i64 6]) (by simp [results,Tryz.results104,go_sem,f0,f1,f2]) rfl (HNO2.out _ hBF)
   | false=>
    rw [hf] at HFU;have HYES2:=zA0 (fun (w':World) (hn:Ow Jab 9 75 w' X0.heap.size (.slice A7 (L).length c7) (L)) (hs:Ow cInt 1 3 w' X0.heap.size (.slice A8 (S).length c8) (S)) (hv:Ow JaG 2 78 w' X0.heap.size (.slice A9 (V).length c9) (V)) (hb:Below w.heap.size w w')=>HYES.out W5 w' b _ _ _ _ _ _ _ hf HL.out HS7.out HV7.out H5.out qH1 hn hs hv hb)
    clear hf HYES HNO;go_upto_region 30 with ((go_at_call 138; refine zc (HFU.out _ zR) (fun ext1 d1=>?_)))
    refine wp_region_noPanic ?_;refine zD8 qE1 (fun W hW=>?_)
    have cl0:W.cell? ⟨b,0,none⟩=some (.int .i64 xz):=qAE;have cl1:W.cell? ⟨b,1,none⟩=some (.slice A7 L.length c7):=qAE;have cl2:W.cell? ⟨b,2,none⟩=some (.slice A8 S.length c8):=qAE;have cl3:W.cell? ⟨b,3,none⟩=some (.slice A9 V.length c9):=qAE;have fz0:W.frozen? ⟨w.heap.size+1+1,0,none⟩=false:=qAE;have fz1:W.frozen? ⟨w.heap.size+1+1,1,none⟩=false:=qAE;have fz2:W.frozen? ⟨w.heap.size+1+1,2,none⟩=false:=qAE;have g40:W.cell? ⟨w.heap.size+1+1,0,none⟩=some (.int .i64 0):=qAE;have g41:W.cell? ⟨w.heap.size+1+1,1,none⟩=some (.slice none 0 0):=qAE;have g42:W.cell? ⟨w.heap.size+1+1,2,none⟩=some (.slice none 0 0):=qAE;have hWs:w.heap.size+1+1<W.heap.size:=qoE;have hWW5:Below W5.heap.size W5 W:=qIE;refine JaD (fun w'=>w'.cell? ⟨b,0,none⟩=some (.int .i64 xz)/\w'.cell? ⟨b,1,none⟩=some (.slice A7 L.length c7)/\w'.cell? ⟨b,2,none⟩=some (.slice A8 S.length c8)/\w'.cell? ⟨b,3,none⟩=some (.slice A9 V.length c9)) (fun i=>false) (by (try dsimp only); (refine ⟨?_,?_,?_,?_⟩ <;> go_simp)) (fun hHeld=>?_)
    refine tpP 0 ?_;refine tpP 1 ?_;refine tpP 2 ?_;refine tpA 3 ?_;refine tpP 4 ?_;refine tpP 5 ?_;refine tpP 6 ?_;refine tpA 7 ?_;refine zB1 (rs:=[8]) qE1 qI1 ?_;refine zB4 qQ0 (fun K hK=>?_) zB2
    go_simp;refine hK.out _ _ ?gT1_9 (fun hHeld=>?_)
    case gT1_9=>((try dsimp only); (refine ⟨?_,?_,?_,?_⟩ <;> go_simp))
    clear hK K
    try simp only [Act.put,zA6,zA4,zA5]
    refine tpP 9 ?_;refine tpP 10 ?_;refine zC4 qE1 ?_ _;refine NoPanic.normal ?_;refine Ja3 (fun WF hWF=>?_)
    obtain ⟨s0,s1,s2⟩:=Jbc g40 g41 g42 (v0:=.int .i64 xz) (v1:=.slice A7 L.length c7) (v2:=.slice A8 S.length c8);have f0:WF.cell? ⟨w.heap.size+1+1,0,none⟩=some (.int .i64 xz):=qqE;have f1:WF.cell? ⟨w.heap.size+1+1,1,none⟩=some (.slice A7 L.length c7):=qrE;have f2:WF.cell? ⟨w.heap.size+1+1,2,none⟩=some (.slice A8 S.length c8):=qsE;have hBF:Below w.heap.size w WF:=qFE;have HNF:Hid (Ow Jab 9 75 WF X0.heap.size (.slice A7 L.length c7) L):=zA0 qG0;have HSF:Hid (Ow cInt 1 3 WF X0.heap.size (.slice A8 S.length c8) S):=zA0 qI0;have HVF:Hid (Ow JaG 2 78 WF X0.heap.size (.slice A9 V.length c9) V):=zA0 qJ0;clear hWF s0 s1 s2;go_wp2_with fail;refine zA1 (v:=.tuple #[.agg #[.int .i64 xz,.slice A7 L.length c7,.slice A8 S.length c8],.slice A9 V.length c9,.int .i64 0]) (by simp [results,Tryz.results104,go_sem,f0,f1,f2]) rfl (HYES2.out _ HNF.out HSF.out HVF.out hBF)
theorem Jnn (z:Int) (v v2:Value) (l:List Node) (ss:List Int) (x:Txn) (w:World) (h:Sl Jab 9 w v l) (h2:Sl cInt 1 w v2 ss) (hn:l.length*88<=140737488355328) (hn2:(ss.length+1)*8<=140737488355328) (hz:∀ n∈l,n.path.size<=9223372036854775807) (hp:x.path.size<=9223372036854775807)
  (hw:JbA ⟨z,l,ss⟩ x=0) (hop:x.op=3):Calls Tryz.prog 104 #[.agg #[.int .i64 z,v,v2],txnV x] w (Ja9 ⟨z,l,ss⟩ x w):=by
 obtain ⟨A,c,rfl,h1,h1b⟩:=h.form;obtain ⟨A2,c2,rfl,h3,h3b⟩:=h2.form;have HV:=zA0 h;have HS:=zA0 h2;have HWR:=zA0 (fun (W:World) (h:Sl Jab 9 W (.slice A l.length c) l) (h2:Sl cInt 1 W (.slice A2 ss.length c2) ss)=>Jfh z (.slice A l.length c) (.slice A2 ss.length c2) l ss x W h h2 qH1 qH1 hz hp)
 rw [hw] at HWR;have HCP:=zA0 (fun (W:World) (h:Sl Jab 9 W (.slice A l.length c) l) (h2:Sl cInt 1 W (.slice A2 ss.length c2) ss)=>JeF ⟨z,l,ss⟩ (.slice A l.length c) (.slice A2 ss.length c2) W h h2 hn qv0)
 obtain ⟨hgt,hgx,hzx,wi1,wi2,wi3,wi4,wi5⟩:=JbE hw;obtain ⟨hgw,hgf⟩:=JaP hgt;have HGW:=zA0 hgw;have HGF:=zA0 (Jdm.1 hgf);have hl4:l.length<=400:=hgw.len;have HLEN:=zA0 (Jb6 hw).len;have HYES:=zA0 (fun (W w':World) (b:Nat) (L:List Node) (S:List Int) (V:List Event) (nv sv vv:Value) (B:Nat) (hf:JbD L=false) (hL:doN ⟨z,l,ss⟩ x=L) (hS:doS ⟨z,l,ss⟩ x=S) (hV:doV ⟨z,l,ss⟩ x=V) (h:Hand W B b ⟨x.zxid,L,S⟩ V nv sv vv) (hB:w.heap.size<=B) (hn:Ow Jab 9 75 w' B nv L) (hs:Ow cInt 1 3 w' B sv S) (hv:Ow JaG 2 78 w' B vv V) (hb:Below w.heap.size w w')=>Jch hw hf hL hS hV h hB hn hs hv hb)
 have HNO:=zA0 (fun (w':World) (hf:JbD (doN ⟨z,l,ss⟩ x)=true) (hb:Below w.heap.size w w')=>Jb7 (Je5 hw hf) qG1 hb)
 clear h h2 hgt hgw hgf;obtain ⟨xz,xo,xs,xp,xd,xv,xw⟩:=x;simp only at *;subst hop;go_enter Tryz.func104,Tryz.ntmps104
 go_upto_region 5 with (first | (go_at_call 132; refine zc (HWR.out _ (HV.out.below zR) (HS.out.below zR)) (fun ext1 d1=>?_)) | (go_at_call 133; refine (HCP.out _ (HV.out.below zR) (HS.out.below zR)).mono ?_; rintro e w2 hT; obtain ⟨X0,hX0,A5,c5,A6,c6,rfl,ho5,ho6,hb⟩:=JnU (P:=fun X=>TrIs ⟨z,l,ss⟩ X e w2) hT; have HO5:=zA0 ho5; have HO6:=zA0 ho6; clear ho5 ho6 hT; have HB2:=zA0 hb; clear hb))
 have hwX:Below w.heap.size w X0:=quE;have hXs:w.heap.size+1+1<X0.heap.size:=qnE;have q21:X0.cell? ⟨w.heap.size,1,none⟩=some (.slice A l.length c):=qBE;have q30:X0.cell? ⟨w.heap.size+1,0,none⟩=some (.int .i64 xz):=qBE;have q31:X0.cell? ⟨w.heap.size+1,1,none⟩=some (.int .i64 3):=qBE;have q32:X0.cell? ⟨w.heap.size+1,2,none⟩=some (.int .i64 xs):=qBE;have q33:X0.cell? ⟨w.heap.size+1,3,none⟩=some (.string xp):=qBE;have q34:X0.cell? ⟨w.heap.size+1,4,none⟩=some (.string xd):=qBE;have q35:X0.cell? ⟨w.heap.size+1,5,none⟩=some (.int .i64 xv):=qBE;have q36:X0.cell? ⟨w.heap.size+1,6,none⟩=some (.int .i64 xw):=qBE;have q40:X0.cell? ⟨w.heap.size+1+1,0,none⟩=some (.int .i64 0):=qBE;have q41:X0.cell? ⟨w.heap.size+1+1,1,none⟩=some (.slice none 0 0):=qBE;have q42:X0.cell? ⟨w.heap.size+1+1,2,none⟩=some (.slice none 0 0):=qBE;have r40:X0.frozen? ⟨w.heap.size+1+1,0,none⟩=false:=qBE;have r41:X0.frozen? ⟨w.heap.size+1+1,1,none⟩=false:=qBE;have r42:X0.frozen? ⟨w.heap.size+1+1,2,none⟩=false:=qBE;refine Jax (fun W1 hW1=>?_)
 have hb1:Below X0.heap.size X0 W1:=qYE;have H1:=zA0 (show Hand W1 X0.heap.size w2.heap.size ⟨z,l,ss⟩ [] (.slice A5 l.length c5) (.slice A6 ss.length c6) (.slice none 0 0) by
  rw [hW1.out];exact ⟨Bk.new w2 _ _ rfl,HO5.out.alloc _,HO6.out.alloc _,Ow.nil _ _ _ _ _,JcD HO5.out (zA3 _),JcD HO6.out (zA3 _),qp0,JdA HO5.out HO6.out qG1,(fun _ _=>by simp [Value.ownBlock]),(fun _ _=>by simp [Value.ownBlock]),HB2.out.size⟩)
 clear hW1 HO5 HO6 HB2 hX0 HWR HCP;generalize w2.heap.size=b at *;clear w2;obtain ⟨b0,b1,b2,b3,bf1,bf2,bf3,bf0,blt⟩:=H1.out.cells;have y0:=(hb1.cell (p:=⟨w.heap.size+1,0,none⟩) qv0).trans q30;go_upto_region 6 with fail
 refine Jax (fun W3 hW3=>?_)
 have hb3:Below X0.heap.size X0 W3:=qRE;have H3:=zA0 (show Hand W3 X0.heap.size b ⟨xz,l,ss⟩ [] _ _ _ from hW3.out▸H1.out.number)
 clear hW3 H1 hb1 y0 b0 b1 b2 b3 bf1 bf2 bf3 bf0 blt;have y0:=(hb3.cell (p:=⟨w.heap.size+1,0,none⟩) qv0).trans q30;have y1:=(hb3.cell (p:=⟨w.heap.size+1,1,none⟩) qv0).trans q31;have y2:=(hb3.cell (p:=⟨w.heap.size+1,2,none⟩) qv0).trans q32;have y3:=(hb3.cell (p:=⟨w.heap.size+1,3,none⟩) qv0).trans q33;have y4:=(hb3.cell (p:=⟨w.heap.size+1,4,none⟩) qv0).trans q34;have y5:=(hb3.cell (p:=⟨w.heap.size+1,5,none⟩) qv0).trans q35;have y6:=(hb3.cell (p:=⟨w.heap.size+1,6,none⟩) qv0).trans q36;have hBW:X0.heap.size<=W3.heap.size:=hb3.size;obtain ⟨l1,l2,l3,l4,l5⟩:=Jgx (wi3 trivial);simp only at l1 l5;have hbd:∀ n∈l,-4000000000<=n.kids/\n.kids<=4000000000/\-4000000000<=n.cversion/\n.cversion<=4000000000:=fun n hn=>by
  have a:=HGW.out.kids n hn;have b:=HGW.out.stat n hn;have c:=HGF.out n hn;have d:l.countP (kidB n.path)<=400:=zB5 zL9 hl4;omega
 go_upto_region 28 with (go_at_call 137; (with_reducible refine (Jmx xz l ss [] ⟨xz,3,xs,xp,xd,xv,xw⟩ _ _ _ W3 X0.heap.size b H3.out hBW l1 hp qH1 qI1 hbd).mono ?_); rintro e w4 ⟨nv4,sv4,vv4,rfl,hh4,hb4⟩; have HH4:=zA0 hh4; clear hh4; rw [zE0] at HH4)
 refine Jax (fun W5 hW5=>?_)
 have hb5:Below X0.heap.size X0 W5:=by rw [hW5.out]; exact hb3.trans hb4
 have H5:=HH4;rw [<-hW5.out] at H5;clear hW5 HH4 hb4 hb3 H3 y0 y1 y2 y3 y4 y5 y6 hbd;obtain ⟨d1,d2,d3⟩:=doN_3 (t:=⟨z,l,ss⟩) (x:=⟨xz,3,xs,xp,xd,xv,xw⟩) rfl;simp only at d1 d2 d3;obtain ⟨L,hLL⟩:∃ L,L=Jgt l ⟨xz,3,xs,xp,xd,xv,xw⟩:=⟨_,rfl⟩;obtain ⟨S,hSS⟩:∃ S,S=ss:=⟨_,rfl⟩;obtain ⟨V,hVV⟩:∃ V,V=Jn9 xp:=⟨_,rfl⟩;have HL:=zA0 (d1.trans hLL.symm);have HS7:=zA0 (d2.trans hSS.symm);have HV7:=zA0 (d3.trans hVV.symm);have HNO1:=HNO;clear HNO;have HNO:=zA0 (fun (w':World) (hf:JbD L=true) (hb:Below w.heap.size w w')=>HNO1.out w' qq0 hb)
 have hL7:L.length<=140737488355328:=by rw [<-HL.out]; exact zB5 HLEN.out qG1
 rw [<-hLL,<-hSS,<-hVV] at H5;clear hLL hSS hVV d1 d2 d3 HNO1;obtain ⟨nv5,sv5,vv5,H5⟩:=JjL H5;obtain ⟨A7,c7,rfl,h7,h7b,_⟩:=H5.out.nodes.form;obtain ⟨A8,c8,rfl,h8,h8b,_⟩:=H5.out.sess.form;obtain ⟨A9,c9,rfl,h9,h9b,_⟩:=H5.out.evs.form;have y40:=(hb5.cell (p:=⟨w.heap.size+1+1,0,none⟩) qv0).trans q40;have y41:=(hb5.cell (p:=⟨w.heap.size+1+1,1,none⟩) qv0).trans q41;have y42:=(hb5.cell (p:=⟨w.heap.size+1+1,2,none⟩) qv0).trans q42;have z40:=(hb5.frozen (p:=⟨w.heap.size+1+1,0,none⟩) qv0).trans r40;have z41:=(hb5.frozen (p:=⟨w.heap.size+1+1,1,none⟩) qv0).trans r41;have z42:=(hb5.frozen (p:=⟨w.heap.size+1+1,2,none⟩) qv0).trans r42;obtain ⟨b0,b1,b2,b3,bf1,bf2,bf3,bf0,blt⟩:=H5.out.cells;have hwb:w.heap.size+1+1<b:=zD0 hXs H5.out.base;have hw5:w.heap.size+1+1<W5.heap.size:=qCE;have hwW:Below w.heap.size w W5:=hwX.trans (hb5.mono qH1);have HFU:=zA0 (fun (W:World) (h:Below W5.heap.size W5 W)=>JiP _ _ W (H5.out.nodes.sl.below h) hL7)
 cases hf:JbD L with
 | true=>
  rw [hf] at HFU;have HNO2:=zA0 (fun (w':World) (hb:Below w.heap.size w w')=>HNO.out w' hf hb)
  clear hf HYES;go_wp2_with ((go_at_call 138; refine zc (HFU.out _ zR) (fun ext1 d1=>?_)))
  refine Ja3 (fun WF hWF=>?_)
  have hBF:Below w.heap.size w WF:=qtE;obtain ⟨s0,s1,s2⟩:=Jbc y40 y41 y42 (v0:=.int .i64 0) (v1:=.slice none 0 0) (v2:=.slice none 0 0);have f0:WF.cell? ⟨w.heap.size+1+1,0,none⟩=some (.int .i64 0):=qfE;have f1:WF.cell? ⟨w.heap.size+1+1,1,none⟩=some (.slice none 0 0):=qgE;have f2:WF.cell? ⟨w.heap.size+1+1,2,none⟩=some (.slice none 0 0):=qhE;clear hWF s0 s1 s2;refine zA1 (v:=.tuple #[.agg #[.int .i64 0,.slice none 0 0,.slice none 0 0],.slice none 0 0,.int .i64 6]) (by simp [results,Tryz.results104,go_sem,f0,f1,f2]) rfl (HNO2.out _ hBF)
 | false=>
  rw [hf] at HFU;have HYES2:=zA0 (fun (w':World) (hn:Ow Jab 9 75 w' X0.heap.size (.slice A7 (L).length c7) (L)) (hs:Ow cInt 1 3 w' X0.heap.size (.slice A8 (S).length c8) (S)) (hv:Ow JaG 2 78 w' X0.heap.size (.slice A9 (V).length c9) (V)) (hb:Below w.heap.size w w')=>HYES.out W5 w' b _ _ _ _ _ _ _ hf HL.out HS7.out HV7.out H5.out qH1 hn hs hv hb)
  clear hf HYES HNO;go_upto_region 30 with ((go_at_call 138; refine zc (HFU.out _ zR) (fun ext1 d1=>?_)))
  refine wp_region_noPanic ?_;refine zD8 qE1 (fun W hW=>?_)
  have cl0:W.cell? ⟨b,0,none⟩=some (.int .i64 xz):=qAE;have cl1:W.cell? ⟨b,1,none⟩=some (.slice A7 L.length c7):=qAE;have cl2:W.cell? ⟨b,2,none⟩=some (.slice A8 S.length c8):=qAE;have cl3:W.cell? ⟨b,3,none⟩=some (.slice A9 V.length c9):=qAE;have fz0:W.frozen? ⟨w.heap.size+1+1,0,none⟩=false:=qAE;have fz1:W.frozen? ⟨w.heap.size+1+1,1,none⟩=false:=qAE;have fz2:W.frozen? ⟨w.heap.size+1+1,2,none⟩=false:=qAE;have g40:W.cell? ⟨w.heap.size+1+1,0,none⟩=some (.int .i64 0):=qAE;have g41:W.cell? ⟨w.heap.size+1+1,1,none⟩=some (.slice none 0 0):=qAE;have g42:W.cell? ⟨w.heap.size+1+1,2,none⟩=some (.slice none 0 0):=qAE;have hWs:w.heap.size+1+1<W.heap.size:=qoE;have hWW5:Below W5.heap.size W5 W:=qIE;refine JaD (fun w'=>w'.cell? ⟨b,0,none⟩=some (.int .i64 xz)/\w'.cell? ⟨b,1,none⟩=some (.slice A7 L.length c7)/\w'.cell? ⟨b,2,none⟩=some (.slice A8 S.length c8)/\w'.cell? ⟨b,3,none⟩=some (.slice A9 V.length c9)) (fun i=>false) (by (try dsimp only); (refine ⟨?_,?_,?_,?_⟩ <;> go_simp)) (fun hHeld=>?_)
  refine tpP 0 ?_;refine tpP 1 ?_;refine tpP 2 ?_;refine tpA 3 ?_;refine tpP 4 ?_;refine tpP 5 ?_;refine tpP 6 ?_;refine tpA 7 ?_;refine zB1 (rs:=[8]) qE1 qI1 ?_;refine zB4 qQ0 (fun K hK=>?_) zB2
  go_simp;refine hK.out _ _ ?gT1_9 (fun hHeld=>?_)
  case gT1_9=>((try dsimp only); (refine ⟨?_,?_,?_,?_⟩ <;> go_simp))
  clear hK K
  try simp only [Act.put,zA6,zA4,zA5]
  refine tpP 9 ?_;refine tpP 10 ?_;refine zC4 qE1 ?_ _;refine NoPanic.normal ?_;refine Ja3 (fun WF hWF=>?_)
  obtain ⟨s0,s1,s2⟩:=Jbc g40 g41 g42 (v0:=.int .i64 xz) (v1:=.slice A7 L.length c7) (v2:=.slice A8 S.length c8);have f0:WF.cell? ⟨w.heap.size+1+1,0,none⟩=some (.int .i64 xz):=qqE;have f1:WF.cell? ⟨w.heap.size+1+1,1,none⟩=some (.slice A7 L.length c7):=qrE;have f2:WF.cell? ⟨w.heap.size+1+1,2,none⟩=some (.slice A8 S.length c8):=qsE;have hBF:Below w.heap.size w WF:=qFE;have HNF:Hid (Ow Jab 9 75 WF X0.heap.size (.slice A7 L.length c7) L):=zA0 qG0;have HSF:Hid (Ow cInt 1 3 WF X0.heap.size (.slice A8 S.length c8) S):=zA0 qI0;have HVF:Hid (Ow JaG 2 78 WF X0.heap.size (.slice A9 V.length c9) V):=zA0 qJ0;clear hWF s0 s1 s2;go_wp2_with fail;refine zA1 (v:=.tuple #[.agg #[.int .i64 xz,.slice A7 L.length c7,.slice A8 S.length c8],.slice A9 V.length c9,.int .i64 0]) (by simp [results,Tryz.results104,go_sem,f0,f1,f2]) rfl (HYES2.out _ HNF.out HSF.out HVF.out hBF)
end
end Go.Proofs.YtjnooagaghdkdaaGreatDoor

/-L-/
import Derived.Test.YtjnooagaghdkdaaGreatDoorZ17
import Derived.Test.YtjnooagaghdkdaaGreatDoorZ19
import Derived.Test.YtjnooagaghdkdaaGreatDoorZ27
set_option maxHeartbeats 10000000
set_option maxRecDepth 100000
set_option linter.all false
namespace Go.Proofs.YtjnooagaghdkdaaGreatDoor
section
open Go.RowKit Go.ChangeShapes Go.WideShapes Go.ChangeAt
theorem JdA {α β:Type} {f:α->List Value} {f':β->List Value} {s s':Nat} {e e':TypeId} {w:World} {B B':Nat} {v v':Value} {l:List α} {l':List β} (h:Ow f s e w B v l) (h':Ow f' s' e' w B' v' l') (hne:e≠e'):∀ q,v.ownBlock=some q->v'.ownBlock≠some q:=by
 intro q hq hq';rcases h.1.2 with ⟨rfl,_⟩ | ⟨g,cap,cur,rfl,hb,hg,_⟩
 ·cases hq
 ·rcases h'.1.2 with ⟨rfl,_⟩ | ⟨g',cap',cur',rfl,hb',hg',_⟩
  ·cases hq'
  ·have e1:g=q:=by simpa [Value.ownBlock] using hq
   have e2:g'=q:=by simpa [Value.ownBlock] using hq'
   subst e1;subst e2;rw [hg] at hg';injection hg' with hg'
   injection hg' with _ hg' _
   exact hne hg'
theorem Hand.number {w:World} {B b:Nat} {z z':Int} {l:List Node} {ss:List Int} {ev:List Event} {nv sv vv:Value} (h:Hand w B b ⟨z,l,ss⟩ ev nv sv vv):Hand (w.setCell ⟨b,0,none⟩ (.int .i64 z')) B b ⟨z',l,ss⟩ ev nv sv vv:=
 ⟨by simpa using h.bk.put 0 (.int .i64 z'),h.nodes.far2 h.nb,h.sess.far2 h.sb,h.evs.far2 h.vb,h.nb,h.sb,h.vb,h.ns,h.nv,h.sv,h.base⟩
theorem Ja3 {F:Exit->Act->World->Prop} {e:Exit} {a:Act} {w:World} (h:∀ W,Hid (W=w)->F e a W):F e a w:=h w (zA0 rfl)
theorem Jbc {W:World} {g:Nat} {u0 u1 u2 v0 v1 v2:Value} (c0:W.cell? ⟨g,0,none⟩=some u0) (c1:W.cell? ⟨g,1,none⟩=some u1) (c2:W.cell? ⟨g,2,none⟩=some u2) :
  (((W.setCell ⟨g,0,none⟩ v0).setCell ⟨g,1,none⟩ v1).setCell ⟨g,2,none⟩ v2).cell? ⟨g,0,none⟩=some v0/\(((W.setCell ⟨g,0,none⟩ v0).setCell ⟨g,1,none⟩ v1).setCell ⟨g,2,none⟩ v2).cell? ⟨g,1,none⟩=some v1/\(((W.setCell ⟨g,0,none⟩ v0).setCell ⟨g,1,none⟩ v1).setCell ⟨g,2,none⟩ v2).cell? ⟨g,2,none⟩=some v2:=by
 have n20:(⟨g,2,none⟩:Addr)≠⟨g,0,none⟩:=by simp
 have n21:(⟨g,2,none⟩:Addr)≠⟨g,1,none⟩:=by simp
 have n10:(⟨g,1,none⟩:Addr)≠⟨g,0,none⟩:=by simp
 have n01:(⟨g,0,none⟩:Addr)≠⟨g,1,none⟩:=by simp
 have n02:(⟨g,0,none⟩:Addr)≠⟨g,2,none⟩:=by simp
 have n12:(⟨g,1,none⟩:Addr)≠⟨g,2,none⟩:=by simp
 exact ⟨(World.cell?_setCell_other _ _ _ _ n20).trans ((World.cell?_setCell_other _ _ _ _ n10).trans (World.cell?_setCell_same _ _ _ c0)),
  (World.cell?_setCell_other _ _ _ _ n21).trans (World.cell?_setCell_same _ _ _ ((World.cell?_setCell_other _ _ _ _ n01).trans c1)),
  World.cell?_setCell_same _ _ _ ((World.cell?_setCell_other _ _ _ _ n12).trans ((World.cell?_setCell_other _ _ _ _ n02).trans c2))⟩
theorem JkG {W:World} {ext:Array Obj} {d:Nat} {p:Addr} {v:Value} (h:W.cell? p=some v):(grow W ext d).cell? p=some v:=(Jag W ext d p (by rw [h]; rfl)).trans h
theorem Ow.set_low {α:Type} {f:α->List Value} {s:Nat} {e:TypeId} {W:World} {B:Nat} {v:Value} {l:List α} (h:Ow f s e W B v l) {g:Nat} (hg:g<B) (v0 v1 v2:Value):Ow f s e (((W.setCell ⟨g,0,none⟩ v0).setCell ⟨g,1,none⟩ v1).setCell ⟨g,2,none⟩ v2) B v l:=((h.setBelow hg v0).setBelow hg v1).setBelow hg v2
def Ja9 (t:Tr) (x:Txn) (w:World) (e:Ending) (w':World):Prop:=∃ nv sv vv,e=.returned (.tuple #[.agg #[.int .i64 (JaO t x).zxid,nv,sv],vv,.int .i64 (Jaz t x)])/\Ow Jab 9 75 w' w.heap.size nv (JaO t x).nodes/\Ow cInt 1 3 w' w.heap.size sv (JaO t x).sess/\Ow JaG 2 78 w' w.heap.size vv (Jcg t x)/\Below w.heap.size w w'
theorem Jb7 {t:Tr} {x:Txn} {w w':World} {c:Int} (hc:Jaz t x=c) (h0:c≠0) (hb:Below w.heap.size w w'):Ja9 t x w (.returned (.tuple #[.agg #[.int .i64 0,.slice none 0 0,.slice none 0 0],.slice none 0 0,.int .i64 c])) w':=by
 subst hc;have hT:JaO t x=noTr:=by unfold JaO; rw [if_neg h0]
 have hV:Jcg t x=[]:=by unfold Jcg; rw [if_neg h0]
 refine ⟨.slice none 0 0,.slice none 0 0,.slice none 0 0,?_,?_,?_,?_,hb⟩
 ·rw [hT]; rfl
 ·rw [hT]; exact Ow.nil _ _ _ _ _
 ·rw [hT]; exact Ow.nil _ _ _ _ _
 ·rw [hV]; exact Ow.nil _ _ _ _ _
theorem JhV (z:Int) (v v2:Value) (l:List Node) (ss:List Int) (x:Txn) (w:World) (h:Sl Jab 9 w v l) (h2:Sl cInt 1 w v2 ss) (hn:l.length<=140737488355328) (hn2:ss.length<=140737488355328) (hz:∀ n∈l,n.path.size<=9223372036854775807) (hp:x.path.size<=9223372036854775807)
  (hw:JbA ⟨z,l,ss⟩ x≠0):Calls Tryz.prog 104 #[.agg #[.int .i64 z,v,v2],txnV x] w (Ja9 ⟨z,l,ss⟩ x w):=by
 obtain ⟨A,c,rfl,h1,h1b⟩:=h.form;obtain ⟨A2,c2,rfl,h3,h3b⟩:=h2.form;have HV:=zA0 h;have HS:=zA0 h2;have HWR:=zA0 (fun (W:World) (h:Sl Jab 9 W (.slice A l.length c) l) (h2:Sl cInt 1 W (.slice A2 ss.length c2) ss)=>Jfh z (.slice A l.length c) (.slice A2 ss.length c2) l ss x W h h2 hn hn2 hz hp)
 have HE:=zA0 (show Jaz ⟨z,l,ss⟩ x=JbA ⟨z,l,ss⟩ x by unfold Jaz; rw [if_neg hw])
 clear h h2;generalize JbA ⟨z,l,ss⟩ x=e at *;have he:(e == 0)=false:=zB7.2 hw;have he2:(e != 0)=true:=zC9.2 hw;obtain ⟨xz,xo,xs,xp,xd,xv,xw⟩:=x;simp only at *;go_enter Tryz.func104,Tryz.ntmps104
 go_wp2_with ((go_at_call 132; refine zc (HWR.out _ (HV.out.below zR) (HS.out.below zR)) (fun ext1 d1=>?_)))
 refine zA1 (v:=.tuple #[.agg #[.int .i64 0,.slice none 0 0,.slice none 0 0],.slice none 0 0,.int .i64 e]) (by simp [results,Tryz.results104,go_sem]) rfl (Jb7 HE.out hw zR)
theorem Jch {t:Tr} {x:Txn} {w W w':World} {b:Nat} {L:List Node} {S:List Int} {V:List Event} {nv sv vv:Value} {B:Nat} (hw:JbA t x=0) (hf:JbD L=false) (hL:doN t x=L) (hS:doS t x=S) (hV:doV t x=V) (h:Hand W B b ⟨x.zxid,L,S⟩ V nv sv vv) (hB:w.heap.size<=B)
  (hn:Ow Jab 9 75 w' B nv L) (hs:Ow cInt 1 3 w' B sv S) (hv:Ow JaG 2 78 w' B vv V) (hb:Below w.heap.size w w') :
  Ja9 t x w (.returned (.tuple #[.agg #[.int .i64 x.zxid,nv,sv],vv,.int .i64 0])) w':=by
 subst hL;subst hS;subst hV;have hE:Jaz t x=0:=by unfold Jaz; rw [if_pos hw,hf]; rfl
 obtain ⟨h1,h2⟩:=JfS hE;refine ⟨nv,sv,vv,by rw [h1,hE],?_,?_,?_,hb⟩
 ·rw [h1]; exact hn.mono hB
 ·rw [h1]; exact hs.mono hB
 ·rw [h2]; exact hv.mono hB
theorem Je5 {t:Tr} {x:Txn} (hw:JbA t x=0) (hf:JbD (doN t x)=true):Jaz t x=6:=by
 unfold Jaz;rw [if_pos hw,hf];rfl
theorem JjL {w:World} {B b:Nat} {t:Tr} {ev:List Event} {nv sv vv:Value} (h:Hid (Hand w B b t ev nv sv vv)):∃ nv sv vv,Hid (Hand w B b t ev nv sv vv):=⟨_,_,_,h⟩
theorem JnU {P:World->Prop} {w:World} (h:P w):∃ X,Hid (X=w)/\P X:=⟨w,zA0 rfl,h⟩
theorem Jnm (z:Int) (v v2:Value) (l:List Node) (ss:List Int) (x:Txn) (w:World) (h:Sl Jab 9 w v l) (h2:Sl cInt 1 w v2 ss) (hn:l.length*88<=140737488355328) (hn2:(ss.length+1)*8<=140737488355328) (hz:∀ n∈l,n.path.size<=9223372036854775807) (hp:x.path.size<=9223372036854775807)
  (hw:JbA ⟨z,l,ss⟩ x=0) (hop:x.op=4):Calls Tryz.prog 104 #[.agg #[.int .i64 z,v,v2],txnV x] w (Ja9 ⟨z,l,ss⟩ x w):=by
 obtain ⟨A,c,rfl,h1,h1b⟩:=h.form;obtain ⟨A2,c2,rfl,h3,h3b⟩:=h2.form;have HV:=zA0 h;have HS:=zA0 h2;have HWR:=zA0 (fun (W:World) (h:Sl Jab 9 W (.slice A l.length c) l) (h2:Sl cInt 1 W (.slice A2 ss.length c2) ss)=>Jfh z (.slice A l.length c) (.slice A2 ss.length c2) l ss x W h h2 qH1 qH1 hz hp)
 rw [hw] at HWR;have HCP:=zA0 (fun (W:World) (h:Sl Jab 9 W (.slice A l.length c) l) (h2:Sl cInt 1 W (.slice A2 ss.length c2) ss)=>JeF ⟨z,l,ss⟩ (.slice A l.length c) (.slice A2 ss.length c2) W h h2 hn qv0)
 obtain ⟨hgt,hgx,hzx,wi1,wi2,wi3,wi4,wi5⟩:=JbE hw;obtain ⟨hgw,hgf⟩:=JaP hgt;have HGW:=zA0 hgw;have HGF:=zA0 (Jdm.1 hgf);have hl4:l.length<=400:=hgw.len;have HLEN:=zA0 (Jb6 hw).len;have HYES:=zA0 (fun (W w':World) (b:Nat) (L:List Node) (S:List Int) (V:List Event) (nv sv vv:Value) (B:Nat) (hf:JbD L=false) (hL:doN ⟨z,l,ss⟩ x=L) (hS:doS ⟨z,l,ss⟩ x=S) (hV:doV ⟨z,l,ss⟩ x=V) (h:Hand W B b ⟨x.zxid,L,S⟩ V nv sv vv) (hB:w.heap.size<=B) (hn:Ow Jab 9 75 w' B nv L) (hs:Ow cInt 1 3 w' B sv S) (hv:Ow JaG 2 78 w' B vv V) (hb:Below w.heap.size w w')=>Jch hw hf hL hS hV h hB hn hs hv hb)
 have HNO:=zA0 (fun (w':World) (hf:JbD (doN ⟨z,l,ss⟩ x)=true) (hb:Below w.heap.size w w')=>Jb7 (Je5 hw hf) qG1 hb)
 clear h h2 hgt hgw hgf;obtain ⟨xz,xo,xs,xp,xd,xv,xw⟩:=x;simp only at *;subst hop;go_enter Tryz.func104,Tryz.ntmps104
 go_upto_region 5 with (first | (go_at_call 132; refine zc (HWR.out _ (HV.out.below zR) (HS.out.below zR)) (fun ext1 d1=>?_)) | (go_at_call 133; refine (HCP.out _ (HV.out.below zR) (HS.out.below zR)).mono ?_; rintro e w2 hT; obtain ⟨X0,hX0,A5,c5,A6,c6,rfl,ho5,ho6,hb⟩:=JnU (P:=fun X=>TrIs ⟨z,l,ss⟩ X e w2) hT; have HO5:=zA0 ho5; have HO6:=zA0 ho6; clear ho5 ho6 hT; have HB2:=zA0 hb; clear hb))
 have hwX:Below w.heap.size w X0:=quE;have hXs:w.heap.size+1+1<X0.heap.size:=qnE;have q21:X0.cell? ⟨w.heap.size,1,none⟩=some (.slice A l.length c):=qBE;have q30:X0.cell? ⟨w.heap.size+1,0,none⟩=some (.int .i64 xz):=qBE;have q31:X0.cell? ⟨w.heap.size+1,1,none⟩=some (.int .i64 4):=qBE;have q32:X0.cell? ⟨w.heap.size+1,2,none⟩=some (.int .i64 xs):=qBE;have q33:X0.cell? ⟨w.heap.size+1,3,none⟩=some (.string xp):=qBE;have q34:X0.cell? ⟨w.heap.size+1,4,none⟩=some (.string xd):=qBE;have q35:X0.cell? ⟨w.heap.size+1,5,none⟩=some (.int .i64 xv):=qBE;have q36:X0.cell? ⟨w.heap.size+1,6,none⟩=some (.int .i64 xw):=qBE;have q40:X0.cell? ⟨w.heap.size+1+1,0,none⟩=some (.int .i64 0):=qBE;have q41:X0.cell? ⟨w.heap.size+1+1,1,none⟩=some (.slice none 0 0):=qBE;have q42:X0.cell? ⟨w.heap.size+1+1,2,none⟩=some (.slice none 0 0):=qBE;have r40:X0.frozen? ⟨w.heap.size+1+1,0,none⟩=false:=qBE;have r41:X0.frozen? ⟨w.heap.size+1+1,1,none⟩=false:=qBE;have r42:X0.frozen? ⟨w.heap.size+1+1,2,none⟩=false:=qBE;refine Jax (fun W1 hW1=>?_)
 have hb1:Below X0.heap.size X0 W1:=qYE;have H1:=zA0 (show Hand W1 X0.heap.size w2.heap.size ⟨z,l,ss⟩ [] (.slice A5 l.length c5) (.slice A6 ss.length c6) (.slice none 0 0) by
  rw [hW1.out];exact ⟨Bk.new w2 _ _ rfl,HO5.out.alloc _,HO6.out.alloc _,Ow.nil _ _ _ _ _,JcD HO5.out (zA3 _),JcD HO6.out (zA3 _),qp0,JdA HO5.out HO6.out qG1,(fun _ _=>by simp [Value.ownBlock]),(fun _ _=>by simp [Value.ownBlock]),HB2.out.size⟩)
 clear hW1 HO5 HO6 HB2 hX0 HWR HCP;generalize w2.heap.size=b at *;clear w2;obtain ⟨b0,b1,b2,b3,bf1,bf2,bf3,bf0,blt⟩:=H1.out.cells;have y0:=(hb1.cell (p:=⟨w.heap.size+1,0,none⟩) qv0).trans q30;go_upto_region 6 with fail
 refine Jax (fun W3 hW3=>?_)
 have hb3:Below X0.heap.size X0 W3:=qRE;have H3:=zA0 (show Hand W3 X0.heap.size b ⟨xz,l,ss⟩ [] _ _ _ from hW3.out▸H1.out.number)
 clear hW3 H1 hb1 y0 b0 b1 b2 b3 bf1 bf2 bf3 bf0 blt;have y0:=(hb3.cell (p:=⟨w.heap.size+1,0,none⟩) qv0).trans q30;have y1:=(hb3.cell (p:=⟨w.heap.size+1,1,none⟩) qv0).trans q31;have y2:=(hb3.cell (p:=⟨w.heap.size+1,2,none⟩) qv0).trans q32;have y3:=(hb3.cell (p:=⟨w.heap.size+1,3,none⟩) qv0).trans q33;have y4:=(hb3.cell (p:=⟨w.heap.size+1,4,none⟩) qv0).trans q34;have y5:=(hb3.cell (p:=⟨w.heap.size+1,5,none⟩) qv0).trans q35;have y6:=(hb3.cell (p:=⟨w.heap.size+1,6,none⟩) qv0).trans q36;have hBW:X0.heap.size<=W3.heap.size:=hb3.size;obtain ⟨hk,hk0⟩:=wi4 trivial;have hbd:∀ n∈l,-4000000000<=n.kids/\n.kids<=4000000000/\-4000000000<=n.cversion/\n.cversion<=4000000000:=fun n hn=>by
  have a:=HGW.out.kids n hn;have b:=HGW.out.stat n hn;have c:=HGF.out n hn;have d:l.countP (kidB n.path)<=400:=zB5 zL9 hl4;omega
 go_upto_region 28 with (go_at_call 136; (with_reducible refine (Jhr xz l ss [] xp xz _ _ _ W3 X0.heap.size b H3.out hBW hk hp qH1 qI1 hbd).mono ?_); rintro e w4 ⟨nv4,sv4,vv4,rfl,hh4,hb4⟩; have HH4:=zA0 hh4; clear hh4; rw [zE0] at HH4)
 refine Jax (fun W5 hW5=>?_)
 have hb5:Below X0.heap.size X0 W5:=by rw [hW5.out]; exact hb3.trans hb4
 have H5:=HH4;rw [<-hW5.out] at H5;clear hW5 HH4 hb4 hb3 H3 y0 y1 y2 y3 y4 y5 y6 hbd;obtain ⟨d1,d2,d3⟩:=doN_4 (t:=⟨z,l,ss⟩) (x:=⟨xz,4,xs,xp,xd,xv,xw⟩) rfl;simp only at d1 d2 d3;obtain ⟨L,hLL⟩:∃ L,L=JcS l xp xz:=⟨_,rfl⟩;obtain ⟨S,hSS⟩:∃ S,S=ss:=⟨_,rfl⟩;obtain ⟨V,hVV⟩:∃ V,V=JgI xp:=⟨_,rfl⟩;have HL:=zA0 (d1.trans hLL.symm);have HS7:=zA0 (d2.trans hSS.symm);have HV7:=zA0 (d3.trans hVV.symm);have HNO1:=HNO;clear HNO;have HNO:=zA0 (fun (w':World) (hf:JbD L=true) (hb:Below w.heap.size w w')=>HNO1.out w' qq0 hb)
 have hL7:L.length<=140737488355328:=by rw [<-HL.out]; exact zB5 HLEN.out qG1
 rw [<-hLL,<-hSS,<-hVV] at H5;clear hLL hSS hVV d1 d2 d3 HNO1;obtain ⟨nv5,sv5,vv5,H5⟩:=JjL H5;obtain ⟨A7,c7,rfl,h7,h7b,_⟩:=H5.out.nodes.form;obtain ⟨A8,c8,rfl,h8,h8b,_⟩:=H5.out.sess.form;obtain ⟨A9,c9,rfl,h9,h9b,_⟩:=H5.out.evs.form;have y40:=(hb5.cell (p:=⟨w.heap.size+1+1,0,none⟩) qv0).trans q40;have y41:=(hb5.cell (p:=⟨w.heap.size+1+1,1,none⟩) qv0).trans q41;have y42:=(hb5.cell (p:=⟨w.heap.size+1+1,2,none⟩) qv0).trans q42;have z40:=(hb5.frozen (p:=⟨w.heap.size+1+1,0,none⟩) qv0).trans r40;have z41:=(hb5.frozen (p:=⟨w.heap.size+1+1,1,none⟩) qv0).trans r41;have z42:=(hb5.frozen (p:=⟨w.heap.size+1+1,2,none⟩) qv0).trans r42;obtain ⟨b0,b1,b2,b3,bf1,bf2,bf3,bf0,blt⟩:=H5.out.cells;have hwb:w.heap.size+1+1<b:=zD0 hXs H5.out.base;have hw5:w.heap.size+1+1<W5.heap.size:=qCE;have hwW:Below w.heap.size w W5:=hwX.trans (hb5.mono qH1);have HFU:=zA0 (fun (W:World) (h:Below W5.heap.size W5 W)=>JiP _ _ W (H5.out.nodes.sl.below h) hL7)
 cases hf:JbD L with
 | true=>
  rw [hf] at HFU;have HNO2:=zA0 (fun (w':World) (hb:Below w.heap.size w w')=>HNO.out w' hf hb)
  clear hf HYES;go_wp2_with ((go_at_call 138; refine zc (HFU.out _ zR) (fun ext1 d1=>?_)))
  refine Ja3 (fun WF hWF=>?_)
  have hBF:Below w.heap.size w WF:=qtE;obtain ⟨s0,s1,s2⟩:=Jbc y40 y41 y42 (v0:=.int .i64 0) (v1:=.slice none 0 0) (v2:=.slice none 0 0);have f0:WF.cell? ⟨w.heap.size+1+1,0,none⟩=some (.int .i64 0):=qfE;have f1:WF.cell? ⟨w.heap.size+1+1,1,none⟩=some (.slice none 0 0):=qgE;have f2:WF.cell? ⟨w.heap.size+1+1,2,none⟩=some (.slice none 0 0):=qhE;clear hWF s0 s1 s2;refine zA1 (v:=.tuple #[.agg #[.int .i64 0,.slice none 0 0,.slice none 0 0],.slice none 0 0,.int .i64 6]) (by simp [results,Tryz.results104,go_sem,f0,f1,f2]) rfl (HNO2.out _ hBF)
 | false=>
  rw [hf] at HFU;have HYES2:=zA0 (fun (w':World) (hn:Ow Jab 9 75 w' X0.heap.size (.slice A7 (L).length c7) (L)) (hs:Ow cInt 1 3 w' X0.heap.size (.slice A8 (S).length c8) (S)) (hv:Ow JaG 2 78 w' X0.heap.size (.slice A9 (V).length c9) (V)) (hb:Below w.heap.size w w')=>HYES.out W5 w' b _ _ _ _ _ _ _ hf HL.out HS7.out HV7.out H5.out qH1 hn hs hv hb)
  clear hf HYES HNO;go_upto_region 30 with ((go_at_call 138; refine zc (HFU.out _ zR) (fun ext1 d1=>?_)))
  refine wp_region_noPanic ?_;refine zD8 qE1 (fun W hW=>?_)
  have cl0:W.cell? ⟨b,0,none⟩=some (.int .i64 xz):=qAE;have cl1:W.cell? ⟨b,1,none⟩=some (.slice A7 L.length c7):=qAE;have cl2:W.cell? ⟨b,2,none⟩=some (.slice A8 S.length c8):=qAE;have cl3:W.cell? ⟨b,3,none⟩=some (.slice A9 V.length c9):=qAE;have fz0:W.frozen? ⟨w.heap.size+1+1,0,none⟩=false:=qAE;have fz1:W.frozen? ⟨w.heap.size+1+1,1,none⟩=false:=qAE;have fz2:W.frozen? ⟨w.heap.size+1+1,2,none⟩=false:=qAE;have g40:W.cell? ⟨w.heap.size+1+1,0,none⟩=some (.int .i64 0):=qAE;have g41:W.cell? ⟨w.heap.size+1+1,1,none⟩=some (.slice none 0 0):=qAE;have g42:W.cell? ⟨w.heap.size+1+1,2,none⟩=some (.slice none 0 0):=qAE;have hWs:w.heap.size+1+1<W.heap.size:=qoE;have hWW5:Below W5.heap.size W5 W:=qIE;refine JaD (fun w'=>w'.cell? ⟨b,0,none⟩=some (.int .i64 xz)/\w'.cell? ⟨b,1,none⟩=some (.slice A7 L.length c7)/\w'.cell? ⟨b,2,none⟩=some (.slice A8 S.length c8)/\w'.cell? ⟨b,3,none⟩=some (.slice A9 V.length c9)) (fun i=>false) (by (try dsimp only); (refine ⟨?_,?_,?_,?_⟩ <;> go_simp)) (fun hHeld=>?_)
  refine tpP 0 ?_;refine tpP 1 ?_;refine tpP 2 ?_;refine tpA 3 ?_;refine tpP 4 ?_;refine tpP 5 ?_;refine tpP 6 ?_;refine tpA 7 ?_;refine zB1 (rs:=[8]) qE1 qI1 ?_;refine zB4 qQ0 (fun K hK=>?_) zB2
  go_simp;refine hK.out _ _ ?gT1_9 (fun hHeld=>?_)
  case gT1_9=>((try dsimp only); (refine ⟨?_,?_,?_,?_⟩ <;> go_simp))
  clear hK K
  try simp only [Act.put,zA6,zA4,zA5]
  refine tpP 9 ?_;refine tpP 10 ?_;refine zC4 qE1 ?_ _;refine NoPanic.normal ?_;refine Ja3 (fun WF hWF=>?_)
  obtain ⟨s0,s1,s2⟩:=Jbc g40 g41 g42 (v0:=.int .i64 xz) (v1:=.slice A7 L.length c7) (v2:=.slice A8 S.length c8);have f0:WF.cell? ⟨w.heap.size+1+1,0,none⟩=some (.int .i64 xz):=qqE;have f1:WF.cell? ⟨w.heap.size+1+1,1,none⟩=some (.slice A7 L.length c7):=qrE;have f2:WF.cell? ⟨w.heap.size+1+1,2,none⟩=some (.slice A8 S.length c8):=qsE;have hBF:Below w.heap.size w WF:=qFE;have HNF:Hid (Ow Jab 9 75 WF X0.heap.size (.slice A7 L.length c7) L):=zA0 qG0;have HSF:Hid (Ow cInt 1 3 WF X0.heap.size (.slice A8 S.length c8) S):=zA0 qI0;have HVF:Hid (Ow JaG 2 78 WF X0.heap.size (.slice A9 V.length c9) V):=zA0 qJ0;clear hWF s0 s1 s2;go_wp2_with fail;refine zA1 (v:=.tuple #[.agg #[.int .i64 xz,.slice A7 L.length c7,.slice A8 S.length c8],.slice A9 V.length c9,.int .i64 0]) (by simp [results,Tryz.results104,go_sem,f0,f1,f2]) rfl (HYES2.out _ HNF.out HSF.out HVF.out hBF)
def Jfu (t:Tr) (r:Request) (zx op s:Int) (bx:Nat) (w:World) (e:Ending) (w':World):Prop:=
 e=.returned (.int .i64 (creR t r).2)/\Below bx w w'/\∃ (p d:ByteArray) (o:Int),Bk w' bx [.int .i64 zx,.int .i64 op,.int .i64 s,.string p,.string d,.int .i64 0,.int .i64 o] 39/\((creR t r).2=0->p=(creR t r).1/\d=r.data/\o=if ephF r.flags then r.session else 0)
theorem Jen (z:Int) (v v2:Value) (l:List Node) (ss:List Int) (r:Request) (zx op s:Int) (bx:Nat) (w0 w:World) (h:Sl Jab 9 w0 v l) (h2:Sl cInt 1 w0 v2 ss) (hB:Below w0.heap.size w0 w)
  (hk:Bk w bx [.int .i64 zx,.int .i64 op,.int .i64 s,.string ⟨#[]⟩,.string ⟨#[]⟩,.int .i64 0,.int .i64 0] 39) (hn2:ss.length*8<=140737488355328) (hp:r.path.size<=9223372036854775807)
  (hno:(r.flags<0\/3<r.flags)\/(Jac r.path).2.2≠0\/isI ss r.session=false) :
  Calls Tryz.prog 102 #[.agg #[.int .i64 z,v,v2],.pointer (some ⟨bx,0,none⟩),reqV r] w (Jfu ⟨z,l,ss⟩ r zx op s bx w):=by
 obtain ⟨A,c,rfl,h1,h1b⟩:=h.form;obtain ⟨A2,c2,rfl,h3,h3b⟩:=h2.form;have HV:=zA0 h;have HS:=zA0 h2;clear h h2;have hs:=hB.size;have hlt:=hk.lt;have HK:=zA0 hk;clear hk;obtain ⟨ro,rs,rp,rd,rv,rf⟩:=r;have HSP:=zA0 (fun (W:World)=>Jdz rp W hp)
 have HOP:=zA0 (fun (W:World) (h:Sl cInt 1 W (.slice A2 ss.length c2) ss)=>JiO z (.slice A2 ss.length c2) A l.length c ss rs W h qH1)
 have fin:∀ (E:Int) (w':World),creR ⟨z,l,ss⟩ ⟨ro,rs,rp,rd,rv,rf⟩=(⟨#[]⟩,E)->E≠0->Below w.heap.size w w'->Jfu ⟨z,l,ss⟩ ⟨ro,rs,rp,rd,rv,rf⟩ zx op s bx w (.returned (.int .i64 E)) w':=by
  intro E w' he hE hb;unfold Jfu;rw [he];exact ⟨rfl,hb.mono qH1,_,_,_,HK.out.below hb,fun e=>absurd e hE⟩
 have HF:=zA0 fin;clear fin;simp only at hno
 by_cases c1:rf<0\/3<rf
 ·have HF2:=zA0 (fun w'=>HF.out 3 w' (by unfold creR; rw [if_pos c1]) qG1)
  rcases c1 with c1 | c1
  ·have e1:decide (rf<0)=true:=zB0 c1
   clear c1 hno HF HK;go_enter Tryz.func102,Tryz.ntmps102
   go_wp2_with fail;go_ret;exact HF2.out _ zR
  ·have e1:decide (rf<0)=false:=zA7 qH1
   have e2:decide (3<rf)=true:=zB0 c1;clear c1 hno HF HK;go_enter Tryz.func102,Tryz.ntmps102
   go_wp2_with fail;go_ret;exact HF2.out _ zR
 ·have e1:decide (rf<0)=false:=zA7 qH1
  have e2:decide (3<rf)=false:=zA7 qH1
  by_cases c2':(Jac rp).2.2=0
  ·have c3:isI ss rs=false:=by
    rcases hno with hno | hno | hno
    ·exact absurd hno c1
    ·exact absurd c2' hno
    ·exact hno
   have HF2:=zA0 (fun w'=>HF.out 12 w' (by unfold creR; rw [if_neg c1]; simp only; rw [if_neg qH1,c3,if_pos rfl]) qG1)
   rw [c2'] at HSP;rw [c3] at HOP;generalize (Jac rp).2.1=st at *;generalize (Jac rp).1=dir at *;clear c1 hno HF HK c2' c3;go_enter Tryz.func102,Tryz.ntmps102
   go_wp2_with (first | (go_at_call 129; refine zc (HSP.out _) (fun ext1 d1=>?_)) | (go_at_call 29; refine zc (HOP.out _ (HS.out.below zR)) (fun ext2 d2=>?_)))
   go_ret;exact HF2.out _ zR
  ·have HF2:=zA0 (fun w'=>HF.out 2 w' (by unfold creR; rw [if_neg c1]; simp only; rw [if_pos c2']) qG1)
   generalize (Jac rp).2.2=se at *;generalize (Jac rp).2.1=st at *;generalize (Jac rp).1=dir at *;have e3:(se == 0)=false:=zB7.2 c2';have e4:(se != 0)=true:=zC9.2 c2';clear c1 hno HF HK c2';go_enter Tryz.func102,Tryz.ntmps102
   go_wp2_with (first | (go_at_call 129; refine zc (HSP.out _) (fun ext1 d1=>?_)) | (go_at_call 29; refine zc (HOP.out _ (HS.out.below zR)) (fun ext2 d2=>?_)))
   go_ret;exact HF2.out _ zR
theorem JnF (s:ByteArray) (n:Int):(serR s n).1.size<=s.size+10:=by
 unfold serR;split
 ·exact zB9 _
 ·split
  ·show (List.toArray (bs s ++ digs 10 n.toNat)).size<=_
   rw [zM9,zA9,JbL,zC1];exact zA3 _
  ·exact zB9 _
theorem JiQ (z:Int) (v v2:Value) (l:List Node) (ss:List Int) (r:Request) (zx op s:Int) (bx:Nat) (w0 w:World) (h:Sl Jab 9 w0 v l) (h2:Sl cInt 1 w0 v2 ss) (hB:Below w0.heap.size w0 w) (hbx:w0.heap.size<=bx)
  (hk:Bk w bx [.int .i64 zx,.int .i64 op,.int .i64 s,.string ⟨#[]⟩,.string ⟨#[]⟩,.int .i64 0,.int .i64 0] 39) (hn:l.length<=140737488355328) (hn2:ss.length*8<=140737488355328) (hp:r.path.size<=9223372036854775807)
  (hf1:¬ (r.flags<0\/3<r.flags)) (hf2:(Jac r.path).2.2=0) (hf3:isI ss r.session=true) :
  Calls Tryz.prog 102 #[.agg #[.int .i64 z,v,v2],.pointer (some ⟨bx,0,none⟩),reqV r] w (Jfu ⟨z,l,ss⟩ r zx op s bx w):=by
 obtain ⟨A,c,rfl,h1,h1b⟩:=h.form;obtain ⟨A2,c2,rfl,h3,h3b⟩:=h2.form;have HV:=zA0 h;have HS:=zA0 h2;clear h h2;have hs:=hB.size;have hlt:=hk.lt;have HK:=zA0 hk;clear hk;obtain ⟨ro,rs,rp,rd,rv,rf⟩:=r;have HSP:=zA0 (fun (W:World)=>Jdz rp W hp)
 have HOP:=zA0 (fun (W:World) (h:Sl cInt 1 W (.slice A2 ss.length c2) ss)=>JiO z (.slice A2 ss.length c2) A l.length c ss rs W h qH1)
 have HC:Hid (creR ⟨z,l,ss⟩ ⟨ro,rs,rp,rd,rv,rf⟩=if seqF rf then seqR ⟨z,l,ss⟩ rp else (rp,0)):=zA0 (by
  unfold creR;rw [if_neg hf1];simp only;rw [if_neg (fun e=>e hf2),hf3,if_neg qG1])
 simp only at hf1 hf2 hf3;have e1:decide (rf<0)=false:=zA7 qH1;have e2:decide (3<rf)=false:=zA7 qH1;obtain ⟨hgp,hps⟩:=Jla hf2;have hsz:=Ja6 hgp;obtain ⟨_,hgd,hnm,_⟩:=JdV hgp hps;have hsd:=Ja6 hgd;have hss:=(Jh9 hnm).2.2;rw [zC1] at hss;rw [hf2] at HSP;rw [hf3] at HOP;have HGT:=zA0 (fun (W:World) (h:Sl Jab 9 W (.slice A l.length c) l)=>Jl4 z (.slice A l.length c) A2 ss.length c2 l (Jac rp).1 W h qH1)
 have hbits:(bits .and .i64 rf 2=0/\seqF rf=false\/bits .and .i64 rf 2=2/\seqF rf=true)/\(bits .and .i64 rf 1=0/\ephF rf=false\/bits .and .i64 rf 1=1/\ephF rf=true):=by
  rcases (by omega:rf=0\/rf=1\/rf=2\/rf=3) with rfl | rfl | rfl | rfl <;> decide
 have HBT:=zA0 hbits;have HSQ:Hid (seqR ⟨z,l,ss⟩ rp=if hasN l (Jac rp).1 then (if (serR (Jac rp).2.1 (getN l (Jac rp).1).cversion).2≠0 then (⟨#[]⟩,(serR (Jac rp).2.1 (getN l (Jac rp).1).cversion).2) else JcR (Jac rp).1 (serR (Jac rp).2.1 (getN l (Jac rp).1).cversion).1) else (⟨#[]⟩,7)):=zA0 rfl
 generalize (Jac rp).2.1=st at *;generalize (Jac rp).1=dir at *;unfold getE at HGT;clear hf1 hf2 hf3 hgp hps hgd hnm hbits;go_enter Tryz.func102,Tryz.ntmps102
 go_upto_region 8 with (first | (go_at_call 129; refine zc (HSP.out _) (fun ext1 d1=>?_)) | (go_at_call 29; refine zc (HOP.out _ (HS.out.below zR)) (fun ext2 d2=>?_)))
 refine Jax (fun wa hwa=>?_)
 have hbwa:Below w.heap.size w wa:=by rw [hwa.out]; exact zR
 have hwa1:w.heap.size+1<wa.heap.size:=by rw [hwa.out]; simp <;> omega
 have t0:wa.cell? ⟨w.heap.size,0,none⟩=some (.int .i64 z):=qjE;have t1:wa.cell? ⟨w.heap.size,1,none⟩=some (.slice A l.length c):=qjE;have t2:wa.cell? ⟨w.heap.size,2,none⟩=some (.slice A2 ss.length c2):=qjE;have r1:wa.cell? ⟨w.heap.size+1,1,none⟩=some (.int .i64 rs):=qjE;have r2:wa.cell? ⟨w.heap.size+1,2,none⟩=some (.string rp):=qjE;have r3:wa.cell? ⟨w.heap.size+1,3,none⟩=some (.string rd):=qjE;have r5:wa.cell? ⟨w.heap.size+1,5,none⟩=some (.int .i64 rf):=qjE;clear hwa HSP HOP;refine wp_region_noPanic ?_;refine zD8 qE1 (fun W hW=>?_)
 have cl0:W.cell? ⟨w.heap.size+1,2,none⟩=some (.string rp):=qAE;have cl1:W.cell? ⟨w.heap.size+1,3,none⟩=some (.string rd):=qAE;have HBW:=zA0 (HK.out.below (w':=W) (by rw [hW.out]; exact hbwa.drew))
 have z3:W.cell? ⟨bx,3,none⟩=some (.string ⟨#[]⟩):=HBW.out.cell 3;have z4:W.cell? ⟨bx,4,none⟩=some (.string ⟨#[]⟩):=HBW.out.cell 4;have zf3:W.frozen? ⟨bx,3,none⟩=false:=HBW.out.frozen 3;have zf4:W.frozen? ⟨bx,4,none⟩=false:=HBW.out.frozen 4;have hWr:Below w.heap.size w W:=by rw [hW.out]; exact hbwa.drew
 have hWa:Below wa.heap.size wa W:=qIE;refine JaD (fun w'=>w'.cell? ⟨w.heap.size+1,2,none⟩=some (.string rp)/\w'.cell? ⟨w.heap.size+1,3,none⟩=some (.string rd)) (fun i=>false) (by (try dsimp only); (refine ⟨?_,?_⟩ <;> go_simp)) (fun hHeld=>?_)
 refine tpP 0 ?_;refine tpP 1 ?_;refine tpP 2 ?_;refine tpA 3 ?_;refine tpP 4 ?_;refine tpA 5 ?_;refine tpP 6 ?_;refine tpP 7 ?_;refine zB1 (rs:=[8]) qE1 qI1 ?_;refine zB4 qQ0 (fun K hK=>?_) zB2
 go_simp;refine hK.out _ _ ?gT1_9 (fun hHeld=>?_)
 case gT1_9=>((try dsimp only); (refine ⟨?_,?_⟩ <;> go_simp))
 clear hK K
 try simp only [Act.put,zA6,zA4,zA5]
 refine tpP 9 ?_;refine tpP 10 ?_;refine zB1 (rs:=[11]) qE1 qI1 ?_;refine zB4 qQ0 (fun K hK=>?_) zB2
 go_simp;refine hK.out _ _ ?gT1_12 (fun hHeld=>?_)
 case gT1_12=>((try dsimp only); (refine ⟨?_,?_⟩ <;> go_simp))
 clear hK K
 try simp only [Act.put,zA6,zA4,zA5]
 refine zC4 qE1 ?_ _;refine NoPanic.normal ?_;refine Ja3 (fun wb hwb=>?_)
 have hWb:Below bx W wb:=by rw [hwb.out]; exact Below.set_up (Below.set_up (zB6 _ _) (zA3 _)) (zA3 _)
 have hbwb:Below bx w wb:=(hWr.mono qH1).trans hWb;have hb0:Below w0.heap.size w0 wb:=(hB.trans (hWr.mono hs)).trans (hWb.mono hbx);have HB:=zA0 (show Bk wb bx [.int .i64 zx,.int .i64 op,.int .i64 s,.string rp,.string rd,.int .i64 0,.int .i64 0] 39 from hwb.out▸((HBW.out.put 3 (.string rp)).put 4 (.string rd)))
 have hwb1:w.heap.size+1<wb.heap.size:=zD0 hwa1 (zB5 hWa.size hWb.size);have w0:=Jof hWa t0;have w1:=Jof hWa t1;have w2:=Jof hWa t2;have w3:=Jof hWa r1;have w5:=Jof hWa r5;clear t0 t1 t2 r1 r2 r3 r5 cl0 cl1 hHeld z3 z4 zf3 zf4;have t0:wb.cell? ⟨w.heap.size,0,none⟩=some (.int .i64 z):=qwE;have t1:wb.cell? ⟨w.heap.size,1,none⟩=some (.slice A l.length c):=qwE;have t2:wb.cell? ⟨w.heap.size,2,none⟩=some (.slice A2 ss.length c2):=qwE;have r1:wb.cell? ⟨w.heap.size+1,1,none⟩=some (.int .i64 rs):=qwE;have r5:wb.cell? ⟨w.heap.size+1,5,none⟩=some (.int .i64 rf):=qwE;have b6:wb.cell? ⟨bx,6,none⟩=some (.int .i64 0):=HB.out.cell 6;have f6:wb.frozen? ⟨bx,6,none⟩=false:=HB.out.frozen 6;have hbx2:bx<wb.heap.size:=HB.out.lt;clear w0 w1 w2 w3 w5 hwb hW hWr hWa hWb HBW HK;rcases HBT.out.1 with ⟨a2,g2⟩ | ⟨a2,g2⟩
 ·have HCR:=HC
  rw [g2,if_neg qG1] at HCR;clear g2 HC HSQ HGT;rcases HBT.out.2 with ⟨a1,g1⟩ | ⟨a1,g1⟩
  ·have HG1:=zA0 g1
   clear g1;go_wp2_with fail;refine zA1 (v:=.int .i64 0) (by simp [results,Tryz.results102,go_sem]) rfl ?_
   unfold Jfu;rw [HCR.out];refine ⟨rfl,?_,rp,rd,0,?_,fun _=>⟨rfl,rfl,?_⟩⟩
   ·exact hbwb
   ·exact HB.out
   ·simp only; rw [HG1.out]; rfl
  ·have HG1:=zA0 g1
   clear g1;go_wp2_with fail;refine zA1 (v:=.int .i64 0) (by simp [results,Tryz.results102,go_sem]) rfl ?_
   unfold Jfu;rw [HCR.out];refine ⟨rfl,?_,rp,rd,rs,?_,fun _=>⟨rfl,rfl,?_⟩⟩
   ·exact Below.set_up hbwb (zA3 _)
   ·exact HB.out.put 6 (.int .i64 rs)
   ·simp only; rw [HG1.out]; rfl
 ·have HCR:=HC
  rw [g2,if_pos rfl,HSQ.out] at HCR;clear g2 HC HSQ;cases hh:hasN l dir with
  | false=>
   rw [hh,if_neg qG1] at HCR;rw [hh,if_neg qG1] at HGT;clear hh;go_wp2_with (go_at_call 78; refine zc (HGT.out _ (HV.out.below zR)) (fun ext3 d3=>?_))
   refine zA1 (v:=.int .i64 7) (by simp [results,Tryz.results102,go_sem]) rfl ?_
   unfold Jfu;rw [HCR.out];refine ⟨rfl,?_,rp,rd,0,HB.out.below zR,fun e=>absurd e qG1⟩
   exact hbwb.trans (Below.mono (show Below wb.heap.size wb _ from zR) qH1)
  | true=>
   rw [hh,if_pos rfl] at HCR;rw [hh,if_pos rfl] at HGT;clear hh;generalize getN l dir=n at *;obtain ⟨np,nd,n1,n2,n3,n4,n5,n6,n7⟩:=n;simp only at HCR HGT;have HSE:=zA0 (fun (W:World)=>trSerial st n5 W qH1)
   have hs1:=JnF st n5;generalize serR st n5=sr at *;obtain ⟨s1,s2⟩:=sr;simp only at HCR HSE hs1
   by_cases hs2:s2=0
   ·subst hs2
    rw [if_neg (fun e=>e rfl)] at HCR
    have HJN:=zA0 (fun (W:World)=>join_any dir s1 W qH1 qH1)
    generalize JcR dir s1=jr at *;obtain ⟨j1,j2⟩:=jr;simp only at HJN;have b3:wb.cell? ⟨bx,3,none⟩=some (.string rp):=HB.out.cell 3;have f3:wb.frozen? ⟨bx,3,none⟩=false:=HB.out.frozen 3;go_upto_region 17 with (first | (go_at_call 78; refine zc (HGT.out _ (HV.out.below zR)) (fun ext3 d3=>?_)) | (go_at_call 130; refine zc (HSE.out _) (fun ext4 d4=>?_)) | (go_at_call 131; refine zc (HJN.out _) (fun ext5 d5=>?_)))
    refine Jax (fun wc hwc=>?_)
    have hP9:Below (wb.setCell ⟨bx,3,none⟩ (.string j1)).heap.size (wb.setCell ⟨bx,3,none⟩ (.string j1)) wc:=by rw [hwc.out]; exact zR
    have hbc:Below bx wb wc:=(Below.set_up (zB6 bx wb) (zA3 _)).trans (hP9.mono qy0);have HP3:=zA0 (show Bk (wb.setCell ⟨bx,3,none⟩ (.string j1)) bx [.int .i64 zx,.int .i64 op,.int .i64 s,.string j1,.string rd,.int .i64 0,.int .i64 0] 39 from HB.out.put 3 (.string j1))
    have HB4:=zA0 (show Bk wc bx [.int .i64 zx,.int .i64 op,.int .i64 s,.string j1,.string rd,.int .i64 0,.int .i64 0] 39 from hwc.out▸(HP3.out.below zR))
    have r1':wc.cell? ⟨w.heap.size+1,1,none⟩=some (.int .i64 rs):=by rw [hwc.out]; go_simp
    have r5':wc.cell? ⟨w.heap.size+1,5,none⟩=some (.int .i64 rf):=by rw [hwc.out]; go_simp
    have hbwc:Below bx w wc:=hbwb.trans hbc;have hwc1:w.heap.size+1<wc.heap.size:=zD0 hwb1 hbc.size;clear hwc HP3 hP9 hbwb HB r1 r5 t0 t1 t2 b6 f6 b3 f3 hbx2 HGT HSE HJN hbc hwb1;have hbwb:=hbwc;have HB:=HB4;have b6:wc.cell? ⟨bx,6,none⟩=some (.int .i64 0):=HB.out.cell 6;have f6:wc.frozen? ⟨bx,6,none⟩=false:=HB.out.frozen 6;have hbx2:bx<wc.heap.size:=HB.out.lt;clear HB4 hbwc
    by_cases hj:j2=0
    ·subst hj
     rcases HBT.out.2 with ⟨a1,g1⟩ | ⟨a1,g1⟩
     ·have HG1:=zA0 g1
      clear g1;go_wp2_with fail;refine zA1 (v:=.int .i64 0) (by simp [results,Tryz.results102,go_sem]) rfl ?_
      unfold Jfu;rw [HCR.out];refine ⟨rfl,?_,j1,rd,0,?_,fun _=>⟨rfl,rfl,?_⟩⟩
      ·exact hbwb
      ·exact HB.out
      ·simp only; rw [HG1.out]; rfl
     ·have HG1:=zA0 g1
      clear g1;go_wp2_with fail;refine zA1 (v:=.int .i64 0) (by simp [results,Tryz.results102,go_sem]) rfl ?_
      unfold Jfu;rw [HCR.out];refine ⟨rfl,?_,j1,rd,rs,?_,fun _=>⟨rfl,rfl,?_⟩⟩
      ·exact Below.set_up hbwb (zA3 _)
      ·exact HB.out.put 6 (.int .i64 rs)
      ·simp only; rw [HG1.out]; rfl
    ·have b2:(j2 == 0)=false:=zB7.2 hj
     have b3:(j2 != 0)=true:=zC9.2 hj;have HN2:=zA0 hj;clear hj;go_wp2_with fail;refine zA1 (v:=.int .i64 j2) (by simp [results,Tryz.results102,go_sem]) rfl ?_
     unfold Jfu;rw [HCR.out];exact ⟨rfl,hbwb,j1,rd,0,HB.out,fun e=>absurd e HN2.out⟩
   ·rw [if_pos hs2] at HCR
    have b2:(s2 == 0)=false:=zB7.2 hs2;have b3:(s2 != 0)=true:=zC9.2 hs2;have HN2:=zA0 hs2;clear hs2;go_wp2_with (first | (go_at_call 78; refine zc (HGT.out _ (HV.out.below zR)) (fun ext3 d3=>?_)) | (go_at_call 130; refine zc (HSE.out _) (fun ext4 d4=>?_)))
    refine zA1 (v:=.int .i64 s2) (by simp [results,Tryz.results102,go_sem]) rfl ?_
    unfold Jfu;rw [HCR.out];refine ⟨rfl,?_,rp,rd,0,HB.out.below zR,fun e=>absurd e HN2.out⟩
    exact hbwb.trans (Below.mono (show Below wb.heap.size wb _ from zR) qH1)
theorem trCreate (z:Int) (v v2:Value) (l:List Node) (ss:List Int) (r:Request) (zx op s:Int) (bx:Nat) (w0 w:World) (h:Sl Jab 9 w0 v l) (h2:Sl cInt 1 w0 v2 ss) (hB:Below w0.heap.size w0 w) (hbx:w0.heap.size<=bx)
  (hk:Bk w bx [.int .i64 zx,.int .i64 op,.int .i64 s,.string ⟨#[]⟩,.string ⟨#[]⟩,.int .i64 0,.int .i64 0] 39) (hn:l.length<=140737488355328) (hn2:ss.length*8<=140737488355328) (hp:r.path.size<=9223372036854775807) :
  Calls Tryz.prog 102 #[.agg #[.int .i64 z,v,v2],.pointer (some ⟨bx,0,none⟩),reqV r] w (Jfu ⟨z,l,ss⟩ r zx op s bx w):=by
 by_cases h1:r.flags<0\/3<r.flags
 ·exact Jen z v v2 l ss r zx op s bx w0 w h h2 hB hk hn2 hp (.inl h1)
 by_cases h3:(Jac r.path).2.2=0
 ·cases h4:isI ss r.session with
  | false=>exact Jen z v v2 l ss r zx op s bx w0 w h h2 hB hk hn2 hp (.inr (.inr h4))
  | true=>exact JiQ z v v2 l ss r zx op s bx w0 w h h2 hB hbx hk hn hn2 hp h1 h3 h4
 ·exact Jen z v v2 l ss r zx op s bx w0 w h h2 hB hk hn2 hp (.inr (.inl h3))
end
end Go.Proofs.YtjnooagaghdkdaaGreatDoor

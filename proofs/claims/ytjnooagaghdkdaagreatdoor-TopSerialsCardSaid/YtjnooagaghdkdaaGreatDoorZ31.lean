/-L-/
import Derived.Test.YtjnooagaghdkdaaGreatDoorZ30
set_option maxHeartbeats 10000000
set_option maxRecDepth 100000
set_option linter.all false
namespace Go.Proofs.YtjnooagaghdkdaaGreatDoor
section
open Go.RowKit Go.ChangeShapes Go.WideShapes Go.ChangeAt
theorem Jnl (z:Int) (v v2:Value) (l:List Node) (ss:List Int) (x:Txn) (w:World) (h:Sl Jab 9 w v l) (h2:Sl cInt 1 w v2 ss) (hn:l.length*88<=140737488355328) (hn2:(ss.length+1)*8<=140737488355328) (hz:∀ n∈l,n.path.size<=9223372036854775807) (hp:x.path.size<=9223372036854775807)
  (hw:JbA ⟨z,l,ss⟩ x=0) (hop:x.op=5):Calls Tryz.prog 104 #[.agg #[.int .i64 z,v,v2],txnV x] w (Ja9 ⟨z,l,ss⟩ x w):=by
 obtain ⟨A,c,rfl,h1,h1b⟩:=h.form;obtain ⟨A2,c2,rfl,h3,h3b⟩:=h2.form;have HV:=zA0 h;have HS:=zA0 h2;have HWR:=zA0 (fun (W:World) (h:Sl Jab 9 W (.slice A l.length c) l) (h2:Sl cInt 1 W (.slice A2 ss.length c2) ss)=>Jfh z (.slice A l.length c) (.slice A2 ss.length c2) l ss x W h h2 qH1 qH1 hz hp)
 rw [hw] at HWR;have HCP:=zA0 (fun (W:World) (h:Sl Jab 9 W (.slice A l.length c) l) (h2:Sl cInt 1 W (.slice A2 ss.length c2) ss)=>JeF ⟨z,l,ss⟩ (.slice A l.length c) (.slice A2 ss.length c2) W h h2 hn qv0)
 obtain ⟨hgt,hgx,hzx,wi1,wi2,wi3,wi4,wi5⟩:=JbE hw;obtain ⟨hgw,hgf⟩:=JaP hgt;have HGW:=zA0 hgw;have HGF:=zA0 (Jdm.1 hgf);have hl4:l.length<=400:=hgw.len;have HLEN:=zA0 (Jb6 hw).len;have HYES:=zA0 (fun (W w':World) (b:Nat) (L:List Node) (S:List Int) (V:List Event) (nv sv vv:Value) (B:Nat) (hf:JbD L=false) (hL:doN ⟨z,l,ss⟩ x=L) (hS:doS ⟨z,l,ss⟩ x=S) (hV:doV ⟨z,l,ss⟩ x=V) (h:Hand W B b ⟨x.zxid,L,S⟩ V nv sv vv) (hB:w.heap.size<=B) (hn:Ow Jab 9 75 w' B nv L) (hs:Ow cInt 1 3 w' B sv S) (hv:Ow JaG 2 78 w' B vv V) (hb:Below w.heap.size w w')=>Jch hw hf hL hS hV h hB hn hs hv hb)
 have HNO:=zA0 (fun (w':World) (hf:JbD (doN ⟨z,l,ss⟩ x)=true) (hb:Below w.heap.size w w')=>Jb7 (Je5 hw hf) qG1 hb)
 clear h h2 hgt hgw hgf;obtain ⟨xz,xo,xs,xp,xd,xv,xw⟩:=x;simp only at *;subst hop;have HWI:=zA0 (wi5 rfl).1;clear wi1 wi2 wi3 wi4 wi5;go_enter Tryz.func104,Tryz.ntmps104
 go_upto_region 5 with (first | (go_at_call 132; refine zc (HWR.out _ (HV.out.below zR) (HS.out.below zR)) (fun ext1 d1=>?_)) | (go_at_call 133; refine (HCP.out _ (HV.out.below zR) (HS.out.below zR)).mono ?_; rintro e w2 hT; obtain ⟨X0,hX0,A5,c5,A6,c6,rfl,ho5,ho6,hb⟩:=JnU (P:=fun X=>TrIs ⟨z,l,ss⟩ X e w2) hT; have HO5:=zA0 ho5; have HO6:=zA0 ho6; clear ho5 ho6 hT; have HB2:=zA0 hb; clear hb))
 have hwX:Below w.heap.size w X0:=quE;have hXs:w.heap.size+1+1<X0.heap.size:=qnE;have q21:X0.cell? ⟨w.heap.size,1,none⟩=some (.slice A l.length c):=qBE;have q30:X0.cell? ⟨w.heap.size+1,0,none⟩=some (.int .i64 xz):=qBE;have q31:X0.cell? ⟨w.heap.size+1,1,none⟩=some (.int .i64 5):=qBE;have q32:X0.cell? ⟨w.heap.size+1,2,none⟩=some (.int .i64 xs):=qBE;have q33:X0.cell? ⟨w.heap.size+1,3,none⟩=some (.string xp):=qBE;have q34:X0.cell? ⟨w.heap.size+1,4,none⟩=some (.string xd):=qBE;have q35:X0.cell? ⟨w.heap.size+1,5,none⟩=some (.int .i64 xv):=qBE;have q36:X0.cell? ⟨w.heap.size+1,6,none⟩=some (.int .i64 xw):=qBE;have q40:X0.cell? ⟨w.heap.size+1+1,0,none⟩=some (.int .i64 0):=qBE;have q41:X0.cell? ⟨w.heap.size+1+1,1,none⟩=some (.slice none 0 0):=qBE;have q42:X0.cell? ⟨w.heap.size+1+1,2,none⟩=some (.slice none 0 0):=qBE;have r40:X0.frozen? ⟨w.heap.size+1+1,0,none⟩=false:=qBE;have r41:X0.frozen? ⟨w.heap.size+1+1,1,none⟩=false:=qBE;have r42:X0.frozen? ⟨w.heap.size+1+1,2,none⟩=false:=qBE;refine Jax (fun W1 hW1=>?_)
 have hb1:Below X0.heap.size X0 W1:=qYE;have H1:=zA0 (show Hand W1 X0.heap.size w2.heap.size ⟨z,l,ss⟩ [] (.slice A5 l.length c5) (.slice A6 ss.length c6) (.slice none 0 0) by
  rw [hW1.out];exact ⟨Bk.new w2 _ _ rfl,HO5.out.alloc _,HO6.out.alloc _,Ow.nil _ _ _ _ _,JcD HO5.out (zA3 _),JcD HO6.out (zA3 _),qp0,JdA HO5.out HO6.out qG1,(fun _ _=>by simp [Value.ownBlock]),(fun _ _=>by simp [Value.ownBlock]),HB2.out.size⟩)
 clear hW1 HO5 HO6 HB2 hX0 HWR HCP;generalize w2.heap.size=b at *;clear w2;obtain ⟨b0,b1,b2,b3,bf1,bf2,bf3,bf0,blt⟩:=H1.out.cells;have y0:=(hb1.cell (p:=⟨w.heap.size+1,0,none⟩) qv0).trans q30;go_upto_region 6 with fail
 refine Jax (fun W3 hW3=>?_)
 have hb3:Below X0.heap.size X0 W3:=qRE;have H3:=zA0 (show Hand W3 X0.heap.size b ⟨xz,l,ss⟩ [] _ _ _ from hW3.out▸H1.out.number)
 clear hW3 H1 hb1 y0 b0 b1 b2 b3 bf1 bf2 bf3 bf0 blt;have y0:=(hb3.cell (p:=⟨w.heap.size+1,0,none⟩) qv0).trans q30;have y1:=(hb3.cell (p:=⟨w.heap.size+1,1,none⟩) qv0).trans q31;have y2:=(hb3.cell (p:=⟨w.heap.size+1,2,none⟩) qv0).trans q32;have y3:=(hb3.cell (p:=⟨w.heap.size+1,3,none⟩) qv0).trans q33;have y4:=(hb3.cell (p:=⟨w.heap.size+1,4,none⟩) qv0).trans q34;have y5:=(hb3.cell (p:=⟨w.heap.size+1,5,none⟩) qv0).trans q35;have y6:=(hb3.cell (p:=⟨w.heap.size+1,6,none⟩) qv0).trans q36;have hBW:X0.heap.size<=W3.heap.size:=hb3.size;have hk:=HWI.out
 try simp only at hk
 have HFD:=zA0 (fun (W:World) (h:Sl Jab 9 W (.slice A5 l.length c5) l)=>JfX xz (.slice A5 l.length c5) A6 ss.length c6 l xp W h qH1)
 rw [hk] at HFD;have hql:=Jii hk;have hx:=JkI hk;have hset:setN l ⟨xz,5,xs,xp,xd,xv,xw⟩=l.set (posN l xp) { getN l xp with data:=xd,version:=xv,mzxid:=xz }:=by
  unfold setN;rw [zE6,hx];rfl
 obtain ⟨L1,hL1⟩:∃ L1,L1=setN l ⟨xz,5,xs,xp,xd,xv,xw⟩:=⟨_,rfl⟩;rw [<-hL1] at hset;have HL1:=zA0 hL1;clear hL1 hk HWI;generalize getN l xp=g at *;generalize posN l xp=q at *;obtain ⟨gp,gd,g1,g2,g3,g4,g5,go,gk⟩:=g;simp only at hset;obtain ⟨b0,b1,b2,b3,bf1,bf2,bf3,bf0,blt⟩:=H3.out.cells;go_upto_region 24 with fail
 refine JbF qE1 qE1 ?_
 try simp only [List.append]
 repeat' (first | go_big_quiet_skip | (go_big_quiet_want; go_big_quiet_op; first | go_big_quiet_on | (apply Exists.intro; refine ⟨fun _=>?hqg1,?hqg2⟩; (case hqg1=>(go_at_call 108; refine Calls.grow_of (HFD.out _ (H3.out.nodes.sl.below zR)))); go_big_quiet_on)))
 all_goals refine wpQuiet_nil ?_
 all_goals rintro _ ⟨⟨extq,dq⟩,rfl⟩
 all_goals dsimp only
 go_upto_region 25 with fail
 refine Jax (fun W4 hW4=>?_)
 have hbW:Below W3.heap.size W3 W4:=qeE;have hb4:Below X0.heap.size X0 W4:=hb3.trans (hbW.mono hBW);have H4:=zA0 (H3.out.below hbW);clear hW4 hbW H3 hb3 hBW b0 b1 b2 b3 bf1 bf2 bf3 bf0 blt y0 y1 y2 y3 y4 y5 y6 HFD;obtain ⟨b0,b1,b2,b3,bf1,bf2,bf3,bf0,blt⟩:=H4.out.cells;obtain ⟨gb,J,rfl,hBg,_,_,hnc,_,_⟩:=H4.out.nodes.blk qH1;have hgb:gb≠b:=fun e=>H4.out.nb (by rw [e]; rfl)
 have hqc:q<c5:=qCE;have y4:=(hb4.cell (p:=⟨w.heap.size+1,4,none⟩) qv0).trans q34;obtain ⟨e1,e1f⟩:=H4.out.nodes.at_cell (j:=1) (o:=q*9+1) hx rfl qH1;refine wp_region_noPanic ?_;refine zD8 qE1 (fun W hW=>?_)
 have cl0:W.cell? ⟨b,1,none⟩=some (.slice (some ⟨gb,0,none⟩) l.length c5):=qAE;have cl1:W.cell? ⟨w.heap.size+1,4,none⟩=some (.string xd):=qAE;have ge1:W.cell? ⟨gb,q*9+1,none⟩=some (.string gd):=qAE;have ge1f:W.frozen? ⟨gb,q*9+1,none⟩=false:=qAE;refine JaD (fun w'=>w'.cell? ⟨b,1,none⟩=some (.slice (some ⟨gb,0,none⟩) l.length c5)/\w'.cell? ⟨w.heap.size+1,4,none⟩=some (.string xd)) (fun i=>i == 10) (by (try dsimp only); (refine ⟨?_,?_⟩ <;> go_simp)) (fun hHeld=>?_)
 refine tpP 0 ?_;refine tpP 1 ?_;refine tpP 2 ?_;refine tpP 3 ?_;refine tpA 4 ?_;refine tpP 5 ?_;refine tpP 6 ?_;refine tpA 7 ?_;refine tpP 8 ?_;refine tpP 9 ?_;refine zB1 (rs:=[10]) qE1 qI1 ?_;refine zC8 qQ0 qE1 (fun K hK=>?_) zB2
 go_simp;refine hK.out _ _ ?_;clear hK K
 try simp only [Act.put,zA6,zA4,zA5]
 refine zC4 qE1 ?_ _;refine NoPanic.normal ?_;go_upto_region 26 with fail
 refine Jax (fun W6 hW6=>?_)
 have hWW:Below W4.heap.size W4 W:=qIE;have H6:=zA0 (show Hand W6 X0.heap.size b _ [] _ _ _ from hW6.out▸(H4.out.below hWW).put (k:=q) (j:=1) (x':=⟨gp,xd,g1,g2,g3,g4,g5,go,gk⟩) hx qH1 qH1 rfl)
 have hb6:Below X0.heap.size X0 W6:=by rw [hW6.out]; exact Below.set_up (hb4.trans (hWW.mono hb4.size)) hBg
 clear hW6 hWW ge1 ge1f e1 e1f H4 hb4 b0 b1 b2 b3 bf1 bf2 bf3 bf0 blt hW cl0 cl1 hHeld y4;have hx6:=zJ7 (a:=(⟨gp,xd,g1,g2,g3,g4,g5,go,gk⟩:Node)) hql;obtain ⟨b0,b1,b2,b3,bf1,bf2,bf3,bf0,blt⟩:=H6.out.cells;have y5:=(hb6.cell (p:=⟨w.heap.size+1,5,none⟩) qv0).trans q35;have y0:=(hb6.cell (p:=⟨w.heap.size+1,0,none⟩) qv0).trans q30;have hgw:gb≠w.heap.size+1:=qCE;have hbw0:b≠w.heap.size+1:=by have:=H6.out.base; omega
 obtain ⟨e5,e5f⟩:=H6.out.nodes.at_cell (j:=5) (o:=q*9+2+3) hx6 rfl qH1;obtain ⟨e3,e3f⟩:=H6.out.nodes.at_cell (j:=3) (o:=q*9+2+1) hx6 rfl qH1;have hll:(l.set q (⟨gp,xd,g1,g2,g3,g4,g5,go,gk⟩:Node)).length=l.length:=zF4;refine wp_region_noPanic ?_;refine zD8 qE1 (fun W hW=>?_)
 have cl0:W.cell? ⟨b,1,none⟩=some (.slice (some ⟨gb,0,none⟩) l.length c5):=qAE;have cl1:W.cell? ⟨w.heap.size+1,5,none⟩=some (.int .i64 xv):=qAE;have cl2:W.cell? ⟨w.heap.size+1,0,none⟩=some (.int .i64 xz):=qAE;have ge5:W.cell? ⟨gb,q*9+2+3,none⟩=some (.int .i64 g4):=qAE;have ge5f:W.frozen? ⟨gb,q*9+2+3,none⟩=false:=qAE;have ge3:W.cell? ⟨gb,q*9+2+1,none⟩=some (.int .i64 g2):=qAE;have ge3f:W.frozen? ⟨gb,q*9+2+1,none⟩=false:=qAE;refine JaD (fun w'=>w'.cell? ⟨b,1,none⟩=some (.slice (some ⟨gb,0,none⟩) l.length c5)/\w'.cell? ⟨w.heap.size+1,5,none⟩=some (.int .i64 xv)/\w'.cell? ⟨w.heap.size+1,0,none⟩=some (.int .i64 xz)) (fun i=>i == 23) (by (try dsimp only); (refine ⟨?_,?_,?_⟩ <;> go_simp)) (fun hHeld=>?_)
 refine tpP 0 ?_;refine tpP 1 ?_;refine tpP 2 ?_;refine tpP 3 ?_;refine tpA 4 ?_;refine tpP 5 ?_;refine tpP 6 ?_;refine tpP 7 ?_;refine tpP 8 ?_;refine tpP 9 ?_;refine tpA 10 ?_;refine tpP 11 ?_;refine tpP 12 ?_;refine tpA 13 ?_;refine tpP 14 ?_;refine tpA 15 ?_;refine tpP 16 ?_;refine tpP 17 ?_;refine tpP 18 ?_;refine zB1 (rs:=[19]) qE1 qI1 ?_;refine zB4 qQ0 (fun K hK=>?_) zB2
 go_simp;refine hK.out _ _ ?gT2_20 (fun hHeld=>?_)
 case gT2_20=>((try dsimp only); (refine ⟨?_,?_,?_⟩ <;> go_simp))
 clear hK K
 try simp only [Act.put,zA6,zA4,zA5]
 refine tpP 20 ?_;refine tpP 21 ?_;refine tpP 22 ?_;refine zB1 (rs:=[23]) qE1 qI1 ?_;refine zC8 qQ0 qE1 (fun K hK=>?_) zB2
 go_simp;refine hK.out _ _ ?_;clear hK K
 try simp only [Act.put,zA6,zA4,zA5]
 refine zC4 qE1 ?_ _;refine NoPanic.normal ?_;go_upto_region 27 with fail
 refine Jax (fun W7 hW7=>?_)
 have hWW:Below W6.heap.size W6 W:=qIE;have H7a:=zA0 ((H6.out.below hWW).put (k:=q) (j:=5) (o:=q*9+2+3) (u:=.int .i64 xv) (x':=⟨gp,xd,g1,g2,g3,xv,g5,go,gk⟩) hx6 qH1 qH1 rfl);rw [List.set_set] at H7a;have hx7:=zJ7 (a:=(⟨gp,xd,g1,g2,g3,xv,g5,go,gk⟩:Node)) hql;have H7:=zA0 (show Hand W7 X0.heap.size b _ [] _ _ _ from hW7.out▸H7a.out.put (k:=q) (j:=3) (o:=q*9+2+1) (u:=.int .i64 xz) (x':=⟨gp,xd,g1,xz,g3,xv,g5,go,gk⟩) hx7 qH1 qH1 rfl)
 rw [List.set_set,<-hset] at H7;have hb7:Below X0.heap.size X0 W7:=by rw [hW7.out]; exact Below.set_up (Below.set_up (hb6.trans (hWW.mono hb6.size)) hBg) hBg
 have hl1:L1.length=l.length:=by rw [hset,zF4]
 clear hW7 hWW ge5 ge5f ge3 ge3f e5 e5f e3 e3f H6 hb6 b0 b1 b2 b3 bf1 bf2 bf3 bf0 blt hW cl0 cl1 cl2 hHeld y5 y0 hx6 hx7 hset hx H7a hll;obtain ⟨b0,b1,b2,b3,bf1,bf2,bf3,bf0,blt⟩:=H7.out.cells;have y3:=(hb7.cell (p:=⟨w.heap.size+1,3,none⟩) qv0).trans q33;have hBW7:X0.heap.size<=W7.heap.size:=hb7.size;refine wp_region_noPanic ?_;refine zD8 qE1 (fun W hW=>?_)
 have cl0:W.cell? ⟨b,3,none⟩=some (.slice none 0 0):=qAE;have cl1:W.cell? ⟨w.heap.size+1,3,none⟩=some (.string xp):=qAE;refine JaD (fun w'=>w'.cell? ⟨b,3,none⟩=some (.slice none 0 0)/\w'.cell? ⟨w.heap.size+1,3,none⟩=some (.string xp)) (fun i=>i == 12) (by (try dsimp only); (refine ⟨?_,?_⟩ <;> go_simp)) (fun hHeld=>?_)
 refine tpP 0 ?_;refine tpP 1 ?_;refine tpP 2 ?_;refine tpP 3 ?_;refine tpA 4 ?_;refine tpP 5 ?_;refine tpA 6 ?_;refine tpP 7 ?_;refine zB1 (rs:=[8]) qE1 qI1 ?_;refine zB4 qQ0 (fun K hK=>?_) zB2
 go_simp;refine hK.out _ _ ?gT3_9 (fun hHeld=>?_)
 case gT3_9=>((try dsimp only); (refine ⟨?_,?_⟩ <;> go_simp))
 clear hK K
 try simp only [Act.put,zA6,zA4,zA5]
 refine zB1 (rs:=[9]) qE1 qI1 ?_;refine zB4 qQ0 (fun K hK=>?_) zB2
 (refine JbV qJ1 (.tmp 170) (.tmp 174) _ rfl JgR (B:=X0.heap.size) (l:=([]:List Event)) (m:=[⟨3,xp⟩]) rfl rfl (H7.out.evs.below qr0) (Sl.one_at JaG 2 _ _ _ rfl _ rfl qH1 qI1) Jda (by simp [maxLen]) qI1 qj0 ?_; intro v2 w2 hown2 hg2 hat2; obtain ⟨A4,c4,rfl,_⟩:=hown2.form; have HX3:=zA0 (JdF (w:=X0) H7.out hb7 qr0 hown2 hg2 hat2); have y22:w2.cell? ⟨w.heap.size+1,3,none⟩=some (.string xp):=((World.cell?_setCell_other _ _ _ _ (show (⟨b,3,none⟩:Addr)≠⟨w.heap.size+1,3,none⟩ by have:=H7.out.base; simp <;> omega)).symm.trans ((HX3.out.2.1.cell (p:=⟨w.heap.size+1,3,none⟩) qv0).trans q33)); obtain ⟨_,_,hs3,hf3,hl3⟩:=HX3.out; clear hown2 hg2 hat2)
 refine hK.out _ _ ?gT3_10 (fun hHeld=>?_)
 case gT3_10=>((try dsimp only); (refine ⟨?_,?_⟩ <;> go_simp))
 clear hK K
 try simp only [Act.put,zA6,zA4,zA5]
 refine tpP 10 ?_;refine tpP 11 ?_;refine zB1 (rs:=[12]) qE1 qI1 ?_;refine zC8 qQ0 qE1 (fun K hK=>?_) zB2
 go_simp;refine hK.out _ _ ?_;clear hK K
 try simp only [Act.put,zA6,zA4,zA5]
 refine zC4 qE1 ?_ _;refine NoPanic.normal ?_;go_upto_region 28 with fail
 refine Jax (fun W5 hW5=>?_)
 simp only [zA9,zD5,zG6,zG3,zE0] at HX3;rw [<-hW5.out] at HX3;have H5:=zA0 HX3.out.1;have hb5:Below X0.heap.size X0 W5:=HX3.out.2.1;rw [HL1.out] at H5;clear hW5 HX3 hs3 hf3 hl3 y22 H7 b0 b1 b2 b3 bf1 bf2 bf3 bf0 blt y3 hW cl0 cl1 hHeld hb7 hl1;obtain ⟨d1,d2,d3⟩:=doN_5 (t:=⟨z,l,ss⟩) (x:=⟨xz,5,xs,xp,xd,xv,xw⟩) rfl;simp only at d1 d2 d3;obtain ⟨L,hLL⟩:∃ L,L=setN l ⟨xz,5,xs,xp,xd,xv,xw⟩:=⟨_,rfl⟩;obtain ⟨S,hSS⟩:∃ S,S=ss:=⟨_,rfl⟩;obtain ⟨V,hVV⟩:∃ V,V=([⟨3,xp⟩]:List Event):=⟨_,rfl⟩;have HL:=zA0 (d1.trans hLL.symm);have HS7:=zA0 (d2.trans hSS.symm);have HV7:=zA0 (d3.trans hVV.symm);have HNO1:=HNO;clear HNO;have HNO:=zA0 (fun (w':World) (hf:JbD L=true) (hb:Below w.heap.size w w')=>HNO1.out w' qq0 hb)
 have hL7:L.length<=140737488355328:=by rw [<-HL.out]; exact zB5 HLEN.out qG1
 rw [<-hLL,<-hSS,<-hVV] at H5;clear hLL hSS hVV d1 d2 d3 HNO1;obtain ⟨nv5,sv5,vv5,H5⟩:=JjL H5;obtain ⟨A7,c7,rfl,h7,h7b,_⟩:=H5.out.nodes.form;obtain ⟨A8,c8,rfl,h8,h8b,_⟩:=H5.out.sess.form;obtain ⟨A9,c9,rfl,h9,h9b,_⟩:=H5.out.evs.form;have y40:=(hb5.cell (p:=⟨w.heap.size+1+1,0,none⟩) qv0).trans q40;have y41:=(hb5.cell (p:=⟨w.heap.size+1+1,1,none⟩) qv0).trans q41;have y42:=(hb5.cell (p:=⟨w.heap.size+1+1,2,none⟩) qv0).trans q42;have z40:=(hb5.frozen (p:=⟨w.heap.size+1+1,0,none⟩) qv0).trans r40;have z41:=(hb5.frozen (p:=⟨w.heap.size+1+1,1,none⟩) qv0).trans r41;have z42:=(hb5.frozen (p:=⟨w.heap.size+1+1,2,none⟩) qv0).trans r42;obtain ⟨b0,b1,b2,b3,bf1,bf2,bf3,bf0,blt⟩:=H5.out.cells;have hwb:w.heap.size+1+1<b:=zD0 hXs H5.out.base;have hw5:w.heap.size+1+1<W5.heap.size:=qCE;have hwW:Below w.heap.size w W5:=hwX.trans (hb5.mono qH1);have HFU:=zA0 (fun (W:World) (h:Below W5.heap.size W5 W)=>JiP _ _ W (H5.out.nodes.sl.below h) hL7)
 cases hf:JbD L with
 | true=>
  rw [hf] at HFU;have HNO2:=zA0 (fun (w':World) (hb:Below w.heap.size w w')=>HNO.out w' hf hb)
  clear hf HYES;go_wp2_with ((go_at_call 138; refine zc (HFU.out _ zR) (fun ext1 d1=>?_)))
  refine Ja3 (fun WF hWF=>?_)
  have hBF:Below w.heap.size w WF:=qtE;obtain ⟨s0,s1,s2⟩:=Jbc y40 y41 y42 (v0:=.int .i64 0) (v1:=.slice none 0 0) (v2:=.slice none 0 0);have f0:WF.cell? ⟨w.heap.size+1+1,0,none⟩=some (.int .i64 0):=qfE;have f1:WF.cell? ⟨w.heap.size+1+1,1,none⟩=some (.slice none 0 0):=qgE;have f2:WF.cell? ⟨w.heap.size+1+1,2,none⟩=some (.slice none 0 0):=qhE;clear hWF s0 s1 s2;refine zA1 (v:=.tuple #[.agg #[.int .i64 0,.slice none 0 0,.slice none 0 0],.slice none 0 0,.int .i64 6]) (by simp [results,Tryz.results104,go_sem,f0,f1,f2]) rfl (HNO2.out _ hBF)
 | false=>
  rw [hf] at HFU;have HYES2:=zA0 (fun (w':World) (hn:Ow Jab 9 75 w' X0.heap.size (.slice A7 (L).length c7) (L)) (hs:Ow cInt 1 3 w' X0.heap.size (.slice A8 (S).length c8) (S)) (hv:Ow JaG 2 78 w' X0.heap.size (.slice A9 (V).length c9) (V)) (hb:Below w.heap.size w w')=>HYES.out W5 w' b _ _ _ _ _ _ _ hf HL.out HS7.out HV7.out H5.out qH1 hn hs hv hb)
  clear hf HYES HNO;go_upto_region 30 with ((go_at_call 138; refine zc (HFU.out _ zR) (fun ext1 d1=>?_)))
  refine wp_region_noPanic ?_;refine zD8 qE1 (fun W hW=>?_)
  have cl0:W.cell? ⟨b,0,none⟩=some (.int .i64 xz):=qAE;have cl1:W.cell? ⟨b,1,none⟩=some (.slice A7 L.length c7):=qAE;have cl2:W.cell? ⟨b,2,none⟩=some (.slice A8 S.length c8):=qAE;have cl3:W.cell? ⟨b,3,none⟩=some (.slice A9 V.length c9):=qAE;have fz0:W.frozen? ⟨w.heap.size+1+1,0,none⟩=false:=qAE;have fz1:W.frozen? ⟨w.heap.size+1+1,1,none⟩=false:=qAE;have fz2:W.frozen? ⟨w.heap.size+1+1,2,none⟩=false:=qAE;have g40:W.cell? ⟨w.heap.size+1+1,0,none⟩=some (.int .i64 0):=qAE;have g41:W.cell? ⟨w.heap.size+1+1,1,none⟩=some (.slice none 0 0):=qAE;have g42:W.cell? ⟨w.heap.size+1+1,2,none⟩=some (.slice none 0 0):=qAE;have hWs:w.heap.size+1+1<W.heap.size:=qoE;have hWW5:Below W5.heap.size W5 W:=qIE;refine JaD (fun w'=>w'.cell? ⟨b,0,none⟩=some (.int .i64 xz)/\w'.cell? ⟨b,1,none⟩=some (.slice A7 L.length c7)/\w'.cell? ⟨b,2,none⟩=some (.slice A8 S.length c8)/\w'.cell? ⟨b,3,none⟩=some (.slice A9 V.length c9)) (fun i=>false) (by (try dsimp only); (refine ⟨?_,?_,?_,?_⟩ <;> go_simp)) (fun hHeld=>?_)
  refine tpP 0 ?_;refine tpP 1 ?_;refine tpP 2 ?_;refine tpA 3 ?_;refine tpP 4 ?_;refine tpP 5 ?_;refine tpP 6 ?_;refine tpA 7 ?_;refine zB1 (rs:=[8]) qE1 qI1 ?_;refine zB4 qQ0 (fun K hK=>?_) zB2
  go_simp;refine hK.out _ _ ?gT4_9 (fun hHeld=>?_)
  case gT4_9=>((try dsimp only); (refine ⟨?_,?_,?_,?_⟩ <;> go_simp))
  clear hK K
  try simp only [Act.put,zA6,zA4,zA5]
  refine tpP 9 ?_;refine tpP 10 ?_;refine zC4 qE1 ?_ _;refine NoPanic.normal ?_;refine Ja3 (fun WF hWF=>?_)
  obtain ⟨s0,s1,s2⟩:=Jbc g40 g41 g42 (v0:=.int .i64 xz) (v1:=.slice A7 L.length c7) (v2:=.slice A8 S.length c8);have f0:WF.cell? ⟨w.heap.size+1+1,0,none⟩=some (.int .i64 xz):=qqE;have f1:WF.cell? ⟨w.heap.size+1+1,1,none⟩=some (.slice A7 L.length c7):=qrE;have f2:WF.cell? ⟨w.heap.size+1+1,2,none⟩=some (.slice A8 S.length c8):=qsE;have hBF:Below w.heap.size w WF:=qFE;have HNF:Hid (Ow Jab 9 75 WF X0.heap.size (.slice A7 L.length c7) L):=zA0 qG0;have HSF:Hid (Ow cInt 1 3 WF X0.heap.size (.slice A8 S.length c8) S):=zA0 qI0;have HVF:Hid (Ow JaG 2 78 WF X0.heap.size (.slice A9 V.length c9) V):=zA0 qJ0;clear hWF s0 s1 s2;go_wp2_with fail;refine zA1 (v:=.tuple #[.agg #[.int .i64 xz,.slice A7 L.length c7,.slice A8 S.length c8],.slice A9 V.length c9,.int .i64 0]) (by simp [results,Tryz.results104,go_sem,f0,f1,f2]) rfl (HYES2.out _ HNF.out HSF.out HVF.out hBF)
end
end Go.Proofs.YtjnooagaghdkdaaGreatDoor

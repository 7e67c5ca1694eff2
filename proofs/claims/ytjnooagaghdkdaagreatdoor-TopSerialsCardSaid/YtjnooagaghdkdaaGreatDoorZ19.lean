/-L-/
import Derived.Test.YtjnooagaghdkdaaGreatDoorZ18
set_option maxHeartbeats 10000000
set_option maxRecDepth 100000
set_option linter.all false
namespace Go.Proofs.YtjnooagaghdkdaaGreatDoor
section
open Go.RowKit Go.ChangeShapes Go.WideShapes Go.ChangeAt
theorem Bk.new (w:World) (cs:Array Value) (t:TypeId) {g:Nat} (hg:g=w.heap.size):Bk (w.alloc (.cells cs t)) g cs.toList t:=by
 subst hg;unfold Bk;simp only [Array.toArray_toList];exact heap_alloc_new w _
theorem JcD {α:Type} {f:α->List Value} {s:Nat} {e:TypeId} {w:World} {B:Nat} {v:Value} {l:List α} (h:Ow f s e w B v l) {g:Nat} (hg:w.heap.size<=g):v.ownBlock≠some g:=fun e=>by have:=h.lt g e; omega
theorem Jmx (z:Int) (l:List Node) (ss:List Int) (ev:List Event) (x:Txn) (nv sv vv:Value) (w:World) (B b:Nat) (h:Hand w B b ⟨z,l,ss⟩ ev nv sv vv) (hB:B<=w.heap.size) (hk:hasN l x.path=false) (hp:x.path.size<=9223372036854775807) (hn:(l.length+1)*88<=140737488355328)
  (hev:(ev.length+2)*24<=140737488355328) (hbd:∀ n∈l,-4000000000<=n.kids/\n.kids<=4000000000/\-4000000000<=n.cversion/\n.cversion<=4000000000) :
  Calls Tryz.prog 137 #[.pointer (some ⟨b,0,none⟩),txnV x] w (Jk0 w B b ⟨z,Jgt l x,ss⟩ (ev ++ Jn9 x.path)):=by
 obtain ⟨A,c,rfl,h1,h1b,_⟩:=h.nodes.form;obtain ⟨A2,c2,rfl,h2,h2b,_⟩:=h.sess.form;obtain ⟨A3,c3,rfl,h3,h3b,_⟩:=h.evs.form;have HH:=zA0 h;have hne1:=JcD h.nodes (zA3 _);have hne3:=JcD h.evs (zA3 _);have HFD:=zA0 (fun (W:World) (h:Sl Jab 9 W (.slice A l.length c) l)=>JfX z (.slice A l.length c) A2 ss.length c2 l x.path W h qH1)
 rw [hk] at HFD;have hql:posN l x.path<=l.length:=by
  have:=posK_le' (l.map Node.path) x.path
  rwa [zG0] at this
 have hdd:insN l (Jbo x)=l.take (posN l x.path) ++ Jbo x :: l.drop (posN l x.path):=rfl;have HBD:Hid (∀ n∈insN l (Jbo x),-4000000000<=n.kids/\n.kids<=4000000000/\-4000000000<=n.cversion/\n.cversion<=4000000000):=zA0 (fun n hn=>by
  rw [hdd] at hn;rcases zE7.1 hn with hn | hn
  ·exact hbd n (zH7 hn)
  ·rcases zE2.1 hn with rfl | hn
   ·simp only [Jbo]; omega
   ·exact hbd n (zL0 hn))
 have hLl:(insN l (Jbo x)).length=l.length+1:=by
  rw [hdd,zA9,zD5,zC2,zE5];omega
 unfold Jgt Jn9 JaH;obtain ⟨xz,xo,xs,xp,xd,xv,xw⟩:=x;simp only at *;obtain ⟨L,hL⟩:∃ L,L=insN l (Jbo ⟨xz,xo,xs,xp,xd,xv,xw⟩):=⟨_,rfl⟩;rw [<-hL] at hdd HBD hLl ⊢;generalize posN l xp=q at *;obtain ⟨b0,b1,b2,b3,bf1,bf2,bf3,bf0,blt⟩:=h.cells;clear h hk hbd hL;go_enter Tryz.func137,Tryz.ntmps137
 go_upto_region 1 with fail
 refine JbF qE1 qE1 ?_
 try simp only [List.append]
 repeat' (first | go_big_quiet_skip | (go_big_quiet_want; go_big_quiet_op; first | go_big_quiet_on | (apply Exists.intro; refine ⟨fun _=>?hqg1,?hqg2⟩; (case hqg1=>(go_at_call 108; refine Calls.grow_of (HFD.out _ (HH.out.nodes.sl.below zR)))); go_big_quiet_on)))
 all_goals refine wpQuiet_nil ?_
 all_goals rintro _ ⟨⟨extq,dq⟩,rfl⟩
 all_goals dsimp only
 go_upto_region 2 with fail
 refine Jax (fun W1 hW1=>?_)
 have hbW1:Below w.heap.size w W1:=qNE;have H1:=zA0 (HH.out.below hbW1);have HX1:Hid (Bk W1 w.heap.size (cTxn ⟨xz,xo,xs,xp,xd,xv,xw⟩) 39):=zA0 (by rw [hW1.out]; exact (Bk.new w _ _ rfl).below zR)
 have hs1:w.heap.size<W1.heap.size:=HX1.out.lt;clear hW1 b0 b1 b2 b3 bf1 bf2 bf3 bf0 HFD HH;obtain ⟨b0,b1,b2,b3,bf1,bf2,bf3,bf0,blt1⟩:=H1.out.cells;have x0:=HX1.out.cell 0;have x1:=HX1.out.cell 1;have x2:=HX1.out.cell 2;have x3:=HX1.out.cell 3;have x4:=HX1.out.cell 4;have x5:=HX1.out.cell 5;have x6:=HX1.out.cell 6;simp only [cTxn,zL4,zP3] at x0 x1 x2 x3 x4 x5 x6;refine wp_region_noPanic ?_;refine zD8 qE1 (fun W hW=>?_)
 have cl0:W.cell? ⟨b,1,none⟩=some (.slice A l.length c):=qAE;have cl1:W.cell? ⟨w.heap.size,0,none⟩=some (.int .i64 xz):=qAE;have cl2:W.cell? ⟨w.heap.size,1,none⟩=some (.int .i64 xo):=qAE;have cl3:W.cell? ⟨w.heap.size,2,none⟩=some (.int .i64 xs):=qAE;have cl4:W.cell? ⟨w.heap.size,3,none⟩=some (.string xp):=qAE;have cl5:W.cell? ⟨w.heap.size,4,none⟩=some (.string xd):=qAE;have cl6:W.cell? ⟨w.heap.size,5,none⟩=some (.int .i64 xv):=qAE;have cl7:W.cell? ⟨w.heap.size,6,none⟩=some (.int .i64 xw):=qAE;refine JaD (fun w'=>w'.cell? ⟨b,1,none⟩=some (.slice A l.length c)/\w'.cell? ⟨w.heap.size,0,none⟩=some (.int .i64 xz)/\w'.cell? ⟨w.heap.size,1,none⟩=some (.int .i64 xo)/\w'.cell? ⟨w.heap.size,2,none⟩=some (.int .i64 xs)/\w'.cell? ⟨w.heap.size,3,none⟩=some (.string xp)/\w'.cell? ⟨w.heap.size,4,none⟩=some (.string xd)/\w'.cell? ⟨w.heap.size,5,none⟩=some (.int .i64 xv)/\w'.cell? ⟨w.heap.size,6,none⟩=some (.int .i64 xw)) (fun i=>i == 26) (by (try dsimp only); (refine ⟨?_,?_,?_,?_,?_,?_,?_,?_⟩ <;> go_simp)) (fun hHeld=>?_)
 refine tpP 0 ?_;refine tpP 1 ?_;refine tpP 2 ?_;refine tpP 3 ?_;refine tpP 4 ?_;refine tpA 5 ?_;refine tpP 6 ?_;refine tpP 7 ?_;refine tpA 8 ?_;refine tpP 9 ?_;refine tpA 10 ?_;refine tpP 11 ?_;refine tpA 12 ?_;refine tpP 13 ?_;refine tpA 14 ?_;refine tpP 15 ?_;refine tpA 16 ?_;refine tpP 17 ?_;refine tpA 18 ?_;refine tpP 19 ?_;refine tpP 20 ?_;refine zB1 (rs:=[21]) qE1 qI1 ?_;refine zB4 qQ0 (fun K hK=>?_) zB2
 go_simp;refine hK.out _ _ ?gT1_22 (fun hHeld=>?_)
 case gT1_22=>((try dsimp only); (refine ⟨?_,?_,?_,?_,?_,?_,?_,?_⟩ <;> go_simp))
 clear hK K
 try simp only [Act.put,zA6,zA4,zA5]
 refine zB1 (rs:=[22]) qE1 qI1 ?_;refine zB4 qQ0 (fun K hK=>?_) zB2
 go_simp
 (go_at_call 169; (with_reducible refine (insNode _ q l (Jbo ⟨xz,xo,xs,xp,xd,xv,xw⟩) _ B W.heap.size (H1.out.nodes.below qr0) hql (show Bk (W.alloc (.cells #[.string xp,.string xd,.int .i64 xz,.int .i64 xz,.int .i64 xz,.int .i64 0,.int .i64 0,.int .i64 xw,.int .i64 0] 75)) W.heap.size (Jab (Jbo ⟨xz,xo,xs,xp,xd,xv,xw⟩)) 75 from Bk.new W #[.string xp,.string xd,.int .i64 xz,.int .i64 xz,.int .i64 xz,.int .i64 0,.int .i64 0,.int .i64 xw,.int .i64 0] _ rfl) (JcD H1.out.nodes (by rw [hW.out]; simp)) qj0 hn).mono ?_); rintro e w2 ⟨A5,c5,rfl,hown5,hg5,hat5⟩; rw [<-hdd] at hown5; have HX:=zA0 (Jjy (l':=L) H1.out (hbW1.mono hB) qr0 hown5 hg5 hat5); have hB2:=(HX1.out.below qr0).grown hg5 (fun e=>hne1 e.symm); have y0:=hB2.cell 0; have y1:=hB2.cell 1; have y2:=hB2.cell 2; have y3:=hB2.cell 3; have y4:=hB2.cell 4; have y5:=hB2.cell 5; have y6:=hB2.cell 6; simp only [cTxn,zL4,zP3] at y0 y1 y2 y3 y4 y5 y6; have HBX:=zA0 (hB2.far (g2:=b) (j:=1) (v:=.slice A5 (l.length+1) c5) qH1); clear hB2; obtain ⟨_,_,hs3,hf3,hl3⟩:=HX.out; clear hown5 hg5 hat5)
 refine hK.out _ _ ?gT1_23 (fun hHeld=>?_)
 case gT1_23=>((try dsimp only); (refine ⟨?_,?_,?_,?_,?_,?_,?_,?_⟩ <;> go_simp))
 clear hK K
 try simp only [Act.put,zA6,zA4,zA5]
 refine tpP 23 ?_;refine tpP 24 ?_;refine tpP 25 ?_;refine zB1 (rs:=[26]) qE1 qI1 ?_;refine zC8 qQ0 qE1 (fun K hK=>?_) zB2
 go_simp;refine hK.out _ _ ?_;clear hK K
 try simp only [Act.put,zA6,zA4,zA5]
 refine zC4 qE1 ?_ _;refine NoPanic.normal ?_;go_upto_region 3 with fail
 refine Jax (fun W2 hW2=>?_)
 rw [<-hW2.out] at HX HBX;have H2:=zA0 HX.out.1;have hb2:Below B w W2:=HX.out.2.1;clear hW2 HX hs3 hf3 hl3 y0 y1 y2 y3 y4 y5 y6 H1 b0 b1 b2 b3 bf1 bf2 bf3 bf0 x0 x1 x2 x3 x4 x5 x6 HX1 hW cl0 cl1 cl2 cl3 cl4 cl5 cl6 cl7 hHeld;obtain ⟨b0,b1,b2,b3,bf1,bf2,bf3,bf0,blt2⟩:=H2.out.cells;have x3:=HBX.out.cell 3;have x0:=HBX.out.cell 0;have hs2:=HBX.out.lt;simp only [cTxn,zL4,zP3] at x0 x3;have hBW:B<=W2.heap.size:=zB5 H2.out.base (zG5 blt2);refine wp_region_noPanic ?_;refine zD8 qE1 (fun W hW=>?_)
 have cl0:W.cell? ⟨b,3,none⟩=some (.slice A3 ev.length c3):=qAE;have cl1:W.cell? ⟨w.heap.size,3,none⟩=some (.string xp):=qAE;refine JaD (fun w'=>w'.cell? ⟨b,3,none⟩=some (.slice A3 ev.length c3)/\w'.cell? ⟨w.heap.size,3,none⟩=some (.string xp)) (fun i=>i == 12) (by (try dsimp only); (refine ⟨?_,?_⟩ <;> go_simp)) (fun hHeld=>?_)
 refine tpP 0 ?_;refine tpP 1 ?_;refine tpP 2 ?_;refine tpP 3 ?_;refine tpA 4 ?_;refine tpP 5 ?_;refine tpA 6 ?_;refine tpP 7 ?_;refine zB1 (rs:=[8]) qE1 qI1 ?_;refine zB4 qQ0 (fun K hK=>?_) zB2
 go_simp;refine hK.out _ _ ?gT2_9 (fun hHeld=>?_)
 case gT2_9=>((try dsimp only); (refine ⟨?_,?_⟩ <;> go_simp))
 clear hK K
 try simp only [Act.put,zA6,zA4,zA5]
 refine zB1 (rs:=[9]) qE1 qI1 ?_;refine zB4 qQ0 (fun K hK=>?_) zB2
 (refine JbV qJ1 (.tmp 46) (.tmp 50) _ rfl JgR (B:=B) (l:=ev) (m:=[⟨1,xp⟩]) rfl rfl (H2.out.evs.below qr0) (Sl.one_at JaG 2 _ _ _ rfl _ rfl qH1 qI1) Jda qs0 qB1 qj0 ?_; intro v2 w2 hown2 hg2 hat2; obtain ⟨A4,c4,rfl,_⟩:=hown2.form; have HX3:=zA0 (JdF H2.out hb2 qr0 hown2 hg2 hat2); have hB3:=(HBX.out.below qr0).grown hg2 (fun e=>hne3 e.symm); have y3:=hB3.cell 3; simp only [cTxn,zL4,zP3] at y3; have HBX3:=zA0 (hB3.far (g2:=b) (j:=3) (v:=.slice A4 (ev ++ [(⟨1,xp⟩:Event)]).length c4) qH1); obtain ⟨_,_,hs3,hf3,hl3⟩:=HX3.out; clear hown2 hg2 hat2)
 refine hK.out _ _ ?gT2_10 (fun hHeld=>?_)
 case gT2_10=>((try dsimp only); (refine ⟨?_,?_⟩ <;> go_simp))
 clear hK K
 try simp only [Act.put,zA6,zA4,zA5]
 refine tpP 10 ?_;refine tpP 11 ?_;refine zB1 (rs:=[12]) qE1 qI1 ?_;refine zC8 qQ0 qE1 (fun K hK=>?_) zB2
 go_simp;refine hK.out _ _ ?_;clear hK K
 try simp only [Act.put,zA6,zA4,zA5]
 refine zC4 qE1 ?_ _;refine NoPanic.normal ?_;go_upto_region 4 with fail
 refine Jax (fun W3 hW3=>?_)
 simp only [zA9,zD5,zG6,zG3] at HX3 HBX3;rw [<-hW3.out] at HX3 HBX3;have H3:=zA0 HX3.out.1;have hb3:Below B w W3:=HX3.out.2.1;clear hW3 HX3 hs3 hf3 hl3 y3 H2 b0 b1 b2 b3 bf1 bf2 bf3 bf0 x0 x3 HBX hW cl0 cl1 hHeld;have x3:=HBX3.out.cell 3;have x0:=HBX3.out.cell 0;have hs3:=HBX3.out.lt;simp only [cTxn,zL4,zP3] at x0 x3;have hBW3:B<=W3.heap.size:=zB5 H3.out.base (zG5 H3.out.bk.lt);rw [<-hLl] at H3;go_wp2_with (go_at_call 168; (with_reducible refine (Jom z L ss (ev ++ [⟨1,xp⟩]) xp 1 xz _ _ _ W3 B b H3.out hBW3 hp qH1 qB1 (Or.inl rfl) HBD.out).mono ?_); rintro e w4 ⟨nv4,sv4,vv4,rfl,hh4,hb4⟩; have HH4:=zA0 hh4; clear hh4);go_end0;have hfin:=HH4.out;rw [zC0] at hfin;exact ⟨_,_,_,rfl,hfin,hb3.trans hb4⟩
end
end Go.Proofs.YtjnooagaghdkdaaGreatDoor

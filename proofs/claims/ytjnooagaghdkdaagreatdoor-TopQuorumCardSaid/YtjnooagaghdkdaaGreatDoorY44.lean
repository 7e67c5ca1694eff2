/-L-/
import Derived.Test.YtjnooagaghdkdaaGreatDoorY19
import Derived.Test.YtjnooagaghdkdaaGreatDoorY43
set_option maxHeartbeats 10000000
set_option maxRecDepth 100000
set_option linter.all false
namespace Go.Proofs.YtjnooagaghdkdaaGreatDoor
section
open Go.RowKit Go.ChangeShapes Go.WideShapes Go.ChangeAt
theorem Ow.keeps {α:Type} {f:α->List Value} {s:Nat} {e:TypeId} {w w':World} {B:Nat} {v:Value} {l:List α} {p:Nat->Prop} (h:Ow f s e w B v l) (hk:Keeps p w w') (hv:∀ q,p q->v.ownBlock≠some q):Ow f s e w' B v l:=by
 refine ⟨⟨h.1.1,?_⟩,h.2⟩;rcases h.1.2 with hn | ⟨g,cap,cur,rfl,hb,hg,r⟩
 ·exact .inl hn
 ·have hlt:g<w.heap.size:=by
   by_cases h0:g<w.heap.size
   ·exact h0
   ·rw [zL4 qI1] at hg
    cases hg
  exact .inr ⟨g,cap,cur,rfl,hb,(hk.block g hlt (fun e=>hv g e rfl)).trans hg,r⟩
theorem SrvIn.keeps {p r:Nat->Prop} {w w':World} {s:Srv} {v:SrvV} (h:SrvIn p w s v) (hk:Keeps r w w') (hr:∀ q,r q->p q):SrvIn p w' s v:=
 ⟨h.disk.keeps hk hr,h.log.keeps hk hr,h.nodes.keeps hk hr,h.sess.keeps hk hr,h.watches.keeps hk hr⟩
theorem WIn.keeps {p0:Nat->Prop} {b:Nat} {w w':World} {σ:Wd} {sv:Nat->SrvV} {cv:Nat->ClV} {dv:Value} (h:WIn p0 b w σ sv cv dv) (hk:Keeps p0 w w'):WIn p0 b w' σ sv cv dv:=
 { h with
  box:=by obtain ⟨cs,k⟩:=h.box; exact ⟨cs,{ k with bk:=k.bk.keeps hk h.bp }⟩
  srv:=fun i hi=>(h.srv i hi).keeps hk (fun _=>.inl)
  cl:=fun i hi=>(h.cl i hi).keeps hk (fun _=>.inl)
  dn:=h.dn.keeps hk h.dp }
theorem TabB.kept {b : Nat} {p : Nat → Prop} {w w' : World} (h : TabB b w) (hk : Keeps p w w') (hb : b ≤ w.heap.size) (hp : ∀ g, Tryz.prog.globalNamed "internal/strconv.uint64pow10" = some g → ¬ p g) : TabB b w' := by
 obtain ⟨⟨h1,g,hg⟩,h2⟩:=h;refine ⟨⟨?_,g,hg⟩,h2⟩;unfold Lib.TabIs World.var? at h1 ⊢;rw [hg] at h1 ⊢;simp only [Option.bind_some] at h1 ⊢;rw [hk.block g (zC7 (h2 g hg) hb) (hp g hg)];exact h1
structure StepIn (σ τ:Wd) (d:Deed) (r:Rp) (Reg Reg':List Txn) (E E':Int):Prop where
 inv:Inv Reg E σ.deeds σ
 eq:doW σ d=(τ,r)
 inv':Inv Reg' E' τ.deeds τ
 pre:Reg <+: Reg'
 le:E<=E'
 el:d.kind=5->r.code=0->E<E'
theorem step_ex {σ:Wd} {Reg:List Txn} {E:Int} (h:Inv Reg E σ.deeds σ) (d:Deed):∃ τ r Reg' E',StepIn σ τ d r Reg Reg' E E':=by
 obtain ⟨Reg',E',a,b,c,e,_⟩:=do_inv2 h d;exact ⟨_,_,Reg',E',h,rfl,c,a,b,e⟩
def LookIs (f:Nat) (caps:Array Value) (p0:Nat->Prop) (b:Nat) (P:Wd->List Txn->Int->World->Prop):Prop:=
 ∀ (W:World) (σ τ:Wd) (Reg Reg':List Txn) (E E':Int) (sv:Nat->SrvV) (cv:Nat->ClV) (dv:Value) (d:Deed) (r:Rp) (A:Option Addr) (c:Nat),
  StepIn σ τ d r Reg Reg' E E'->P σ Reg E W->WIn p0 b W τ sv cv dv->SlA (pW p0 b dv) JbM 3 W (.slice A r.notes.length c) r.notes->(∀ q,p0 q->q<W.heap.size)->
  Calls Tryz.prog f (#[.pointer (some ⟨b,0,none⟩),deedV d,rpV r A c] ++ caps) W (fun e w'=>e=.returned (.bool true)/\P τ Reg' E' w'/\Keeps p0 W w')
structure PlI (p0:Nat->Prop) (b:Nat) (P:Wd->List Txn->Int->World->Prop) (w wr:World) (σ:Wd) (Reg:List Txn) (E:Int) (sv:Nat->SrvV) (cv:Nat->ClV) (dv:Value):Prop where
 win:WIn p0 b wr σ sv cv dv
 inv:Inv Reg E σ.deeds σ
 hp:P σ Reg E wr
 keep:Keeps (fun q=>p0 q\/w.heap.size<=q) w wr
 tab:TabB b wr
theorem play_is (f:Nat) (caps:Array Value) (p0:Nat->Prop) (P:Wd->List Txn->Int->World->Prop) (v:Value) (l:List Deed) (w:World) (hl:SlA p0 Jmy 13 w v l) (hd:∀ d∈l,d.path.size<=4611686018427387904) (ht:TabB w.heap.size w) (hp0:∀ q,p0 q->q<w.heap.size)
  (hpt : ∀ g, Tryz.prog.globalNamed "internal/strconv.uint64pow10" = some g → ¬ p0 g) (hP : ∀ (σ : Wd) (Reg : List Txn) (E : Int) (W W' : World), (∀ q, p0 q → W'.heap[q]? = W.heap[q]?) → P σ Reg E W → P σ Reg E W') (h0 : P newW [] 0 w)
  (hcf:∀ (args:Array Value) (W:World),(callFunc f args).run Tryz.prog W=.ok (.enter f args) W) (hlook:∀ b,w.heap.size<=b->LookIs f caps p0 b P) :
  Calls Tryz.prog 12 #[v,.func (.func f) #[] caps] w (fun e w'=>∃ b σ Reg E sv cv dv,e=.returned (.tuple #[.pointer (some ⟨b,0,none⟩),.bool true])/\w.heap.size<=b/\PlI p0 b P w w' σ Reg E sv cv dv):=by
 obtain ⟨A,c,rfl,hl1,hl2⟩:=hl.1.form;have HL:=zA0 hl;have HD:=zA0 hd;have HP0:=zA0 hp0;have HPT:=zA0 hpt;have HP:=zA0 hP;have H0:=zA0 h0;have HLK:=zA0 hlook;have HCF:=zA0 hcf;have HT:=zA0 ht;have HA:=zA0 (alive_is w ht);clear hl hd ht hp0 hpt hP h0 hlook hcf;go_enter Tryz.func12,Tryz.ntmps12
 go_upto_region 3 with ((go_at_call 21; refine (HA.out).mono ?_; rintro e w1 ⟨rfl,hb1⟩; have HB1:=zA0 hb1; clear hb1))
 have hs1:=HB1.out.size;have HN:=zA0 (wNew p0 w1 (fun q hq=>by have:=HP0.out q hq; omega))
 go_upto_region 4 with ((go_at_call 37; refine (HN.out).mono ?_; rintro e w2 ⟨sv,cv,rfl,hin,hb⟩; skip))
 have H2:=zA0 hin;have HB2:=zA0 (HB1.out.trans (hb.mono hs1));have HTB:=zA0 (show TabB w1.heap.size w2 from by
  obtain ⟨t1,t2⟩:=(HT.out.low HB1.out).low (hb.mono hs1);exact ⟨t1,fun g hg=>by have:=t2 g hg; omega⟩)
 clear hin hb HN HA HB1 HT;generalize hbq:w1.heap.size=b at *;have hbs:w.heap.size<=b:=hs1;clear hbq hs1;have HPL:=zA0 (show PlI p0 b P w w2 newW [] 0 sv cv (.slice none 0 0) from ⟨H2.out,new_inv,HP.out _ _ _ _ _ (fun q hq=>HB2.out.block q (HP0.out q hq)) H0.out,zC3 HB2.out,HTB.out⟩)
 clear H2 HB2 HTB H0;go_wp2_with fail;go_loopw [7] (fun i wr=>∃ (m:Nat) (σ:Wd) (Reg:List Txn) (E:Int) (sv:Nat->SrvV) (cv:Nat->ClV) (dv:Value),m<=l.length/\m<=100/\i=.int .i64 m/\Hid (PlI p0 b P w wr σ Reg E sv cv dv)) (fun i _=>101 - (intOf i).toNat)
 case atStart=>exact ⟨0,_,_,_,_,_,_,zB9 _,zB9 _,rfl,HPL⟩
 case round=>
  clear HPL;obtain ⟨m,σ,Reg,E,sv,cv,dv,hm1,hm2,rfl,hx⟩:=hrel
  by_cases hlt:m<l.length/\m<100
  ·obtain ⟨hlt1,hlt2⟩:=hlt
   have hix:l[m]?=some (l[m]'hlt1):=zA7 _;have hdz:=HD.out _ (zD4 hix);generalize l[m]'hlt1=d at hix hdz;have HV:=zA0 (HL.out.more (p':=fun q=>p0 q\/w.heap.size<=q) (fun q e=>e))
   obtain ⟨bd,off,hA,hbd,x0,x1,x2,x3,x4,x5,x6,x7,x8,x9,x10,x11,x12⟩:=(HV.out.keeps hx.out.keep (fun _ e=>e)).1.Deed_at hix
   subst hA;have hp0r:∀ q,p0 q->q<wr.heap.size:=fun q hq=>zC7 (HP0.out q hq) hx.out.keep.size
   obtain ⟨τ,r,Reg',E',hst⟩:=step_ex hx.out.inv d;have HDO:=zA0 (wDo p0 b wr σ sv cv dv Reg E hx.out.win hp0r hx.out.inv hx.out.tab d hdz);rw [hst.eq] at HDO;unfold DoRes at HDO;have HST:=zA0 hst;have HIX:=zA0 hix;have hm0:(0:Int)<=(m:Int):=qCE;have hml:(m:Int)<(l.length:Int):=qCE;have hb1:decide ((m:Int)<(l.length:Int))=true:=zB0 hml;have hb2:decide ((m:Int)<100)=true:=zB0 qI1;clear hst hix hp0r;obtain ⟨rc,rz,rpa,rda,⟨s1,s2,s3,s4,s5,s6,s7⟩,rns⟩:=r;simp only [rpV] at HDO;go_upto_region 8 with ((go_at_call 38; (with_reducible refine (HDO.out).mono ?_); rintro e w3 ⟨sv3,cv3,dv3,A3,k3,rfl,hin,hsn,hk,hm⟩; have H3:=zA0 hin; have HS3:=zA0 hsn; have HK3:=zA0 hk; clear hin hsn hk hm))
   refine Jaq (fun W4 hW4=>?_)
   have hB4:Below w3.heap.size w3 W4:=qbE;have hbw:w.heap.size<=b:=hbs;have hK34:Keeps (fun q=>q=b\/dv.ownBlock=some q) wr W4:=HK3.out.trans (zC3 hB4 (p:=fun q=>q=b)) (fun _ _ e=>.inl e)
   have HK4:=zA0 (hx.out.keep.trans hK34 (fun q _ e=>by
    rcases e with e | e
    ·exact .inr qI1
    ·have:=(hx.out.win.dn.own_in e).1
     exact .inr qI1))
   have H4:=zA0 (H3.out.below hB4);have HS4:=zA0 (HS3.out.below hB4);have HX4:=zA0 (show Bk W4 w3.heap.size [.int .i64 rc,.int .i64 rz,.string rpa,.string rda,.int .i64 s1,.int .i64 s2,.int .i64 s3,.int .i64 s4,.int .i64 s5,.int .i64 s6,.int .i64 s7,.slice A3 rns.length k3] 35 from by rw [hW4.out]; exact Bk.new _ _ _ rfl)
   have HP4:=zA0 (HP.out σ Reg E wr W4 (fun q hq=>hK34.block q (zC7 (HP0.out q hq) hx.out.keep.size) (fun e=>by
    rcases e with e | e
    ·exact hx.out.win.bp (e▸hq)
    ·exact hx.out.win.dp q hq e)) hx.out.hp)
   have HT4:=zA0 ((hx.out.tab).low (hx.out.win.keepsB hK34));have hp04:=zA0 (show ∀ q,p0 q->q<W4.heap.size from fun q hq=>zC7 (HP0.out q hq) HK4.out.size)
   clear hW4 hB4 hK34 H3 HS3 HK3 HDO x0 x1 x2 x3 x4 x5 x6 x7 x8 x9 x10 x11 x12 hx hbd;obtain ⟨_,_,hA,hbd,x0,x1,x2,x3,x4,x5,x6,x7,x8,x9,x10,x11,x12⟩:=(HV.out.keeps HK4.out (fun _ e=>e)).1.Deed_at HIX.out
   injection hA with hA
   injection hA with e1 e2 _
   subst e1;subst e2;have y0:W4.cell? ⟨w3.heap.size,0,none⟩=some (.int .i64 rc):=HX4.out.cell 0;have y1:W4.cell? ⟨w3.heap.size,1,none⟩=some (.int .i64 rz):=HX4.out.cell 1;have y2:W4.cell? ⟨w3.heap.size,2,none⟩=some (.string rpa):=HX4.out.cell 2;have y3:W4.cell? ⟨w3.heap.size,3,none⟩=some (.string rda):=HX4.out.cell 3;have y4:W4.cell? ⟨w3.heap.size,4,none⟩=some (.int .i64 s1):=HX4.out.cell 4;have y5:W4.cell? ⟨w3.heap.size,5,none⟩=some (.int .i64 s2):=HX4.out.cell 5;have y6:W4.cell? ⟨w3.heap.size,6,none⟩=some (.int .i64 s3):=HX4.out.cell 6;have y7:W4.cell? ⟨w3.heap.size,7,none⟩=some (.int .i64 s4):=HX4.out.cell 7;have y8:W4.cell? ⟨w3.heap.size,8,none⟩=some (.int .i64 s5):=HX4.out.cell 8;have y9:W4.cell? ⟨w3.heap.size,9,none⟩=some (.int .i64 s6):=HX4.out.cell 9;have y10:W4.cell? ⟨w3.heap.size,10,none⟩=some (.int .i64 s7):=HX4.out.cell 10;have y11:W4.cell? ⟨w3.heap.size,11,none⟩=some (.slice A3 rns.length k3):=HX4.out.cell 11;have hltx:w3.heap.size<W4.heap.size:=HX4.out.lt;have HLO:=zA0 (fun (W:World) (hb:Below W4.heap.size W4 W)=>HLK.out b hbw W σ τ Reg Reg' E E' sv3 cv3 dv3 d ⟨rc,rz,rpa,rda,⟨s1,s2,s3,s4,s5,s6,s7⟩,rns⟩ A3 k3 HST.out (HP.out σ Reg E W4 W (fun q hq=>hb.block q (hp04.out q hq)) HP4.out) (H4.out.below hb) (HS4.out.below hb) (fun q hq=>zC7 (hp04.out q hq) hb.size))
   simp only [rpV] at HLO;refine wp_region_noPanic ?_;refine zD8 qE1 (fun W hW=>?_)
   have cl0:W.cell? ⟨bd,off+m*13,none⟩=some (.int .i64 d.kind):=qAE;have cl1:W.cell? ⟨bd,off+m*13+1,none⟩=some (.int .i64 d.client):=qAE;have cl2:W.cell? ⟨bd,off+m*13+2,none⟩=some (.int .i64 d.server):=qAE;have cl3:W.cell? ⟨bd,off+m*13+3,none⟩=some (.int .i64 d.op):=qAE;have cl4:W.cell? ⟨bd,off+m*13+4,none⟩=some (.int .i64 d.session):=qAE;have cl5:W.cell? ⟨bd,off+m*13+5,none⟩=some (.string d.path):=qAE;have cl6:W.cell? ⟨bd,off+m*13+6,none⟩=some (.string d.data):=qAE;have cl7:W.cell? ⟨bd,off+m*13+7,none⟩=some (.int .i64 d.version):=qAE;have cl8:W.cell? ⟨bd,off+m*13+8,none⟩=some (.int .i64 d.flags):=qAE;have cl9:W.cell? ⟨bd,off+m*13+9,none⟩=some (.int .i64 d.lost):=qAE;have cl10:W.cell? ⟨bd,off+m*13+10,none⟩=some (.int .i64 d.slow):=qAE;have cl11:W.cell? ⟨bd,off+m*13+11,none⟩=some (.int .i64 d.keep):=qAE;have cl12:W.cell? ⟨bd,off+m*13+12,none⟩=some (.bool d.watch):=qAE;have cl13:W.cell? ⟨w3.heap.size,0,none⟩=some (.int .i64 rc):=qAE;have cl14:W.cell? ⟨w3.heap.size,1,none⟩=some (.int .i64 rz):=qAE;have cl15:W.cell? ⟨w3.heap.size,2,none⟩=some (.string rpa):=qAE;have cl16:W.cell? ⟨w3.heap.size,3,none⟩=some (.string rda):=qAE;have cl17:W.cell? ⟨w3.heap.size,4,none⟩=some (.int .i64 s1):=qAE;have cl18:W.cell? ⟨w3.heap.size,5,none⟩=some (.int .i64 s2):=qAE;have cl19:W.cell? ⟨w3.heap.size,6,none⟩=some (.int .i64 s3):=qAE;have cl20:W.cell? ⟨w3.heap.size,7,none⟩=some (.int .i64 s4):=qAE;have cl21:W.cell? ⟨w3.heap.size,8,none⟩=some (.int .i64 s5):=qAE;have cl22:W.cell? ⟨w3.heap.size,9,none⟩=some (.int .i64 s6):=qAE;have cl23:W.cell? ⟨w3.heap.size,10,none⟩=some (.int .i64 s7):=qAE;have cl24:W.cell? ⟨w3.heap.size,11,none⟩=some (.slice A3 rns.length k3):=qAE;have hWs1:W.heap.size=W4.heap.size:=qXE;have hW1W:Below W4.heap.size W4 W:=qIE;have hbW:bd<W.heap.size:=qCE;have hgW:w3.heap.size<W.heap.size:=qCE;refine Jay (fun w'=>w'.cell? ⟨bd,off+m*13,none⟩=some (.int .i64 d.kind)/\w'.cell? ⟨bd,off+m*13+1,none⟩=some (.int .i64 d.client)/\w'.cell? ⟨bd,off+m*13+2,none⟩=some (.int .i64 d.server)/\w'.cell? ⟨bd,off+m*13+3,none⟩=some (.int .i64 d.op)/\w'.cell? ⟨bd,off+m*13+4,none⟩=some (.int .i64 d.session)/\w'.cell? ⟨bd,off+m*13+5,none⟩=some (.string d.path)/\w'.cell? ⟨bd,off+m*13+6,none⟩=some (.string d.data)/\w'.cell? ⟨bd,off+m*13+7,none⟩=some (.int .i64 d.version)/\w'.cell? ⟨bd,off+m*13+8,none⟩=some (.int .i64 d.flags)/\w'.cell? ⟨bd,off+m*13+9,none⟩=some (.int .i64 d.lost)/\w'.cell? ⟨bd,off+m*13+10,none⟩=some (.int .i64 d.slow)/\w'.cell? ⟨bd,off+m*13+11,none⟩=some (.int .i64 d.keep)/\w'.cell? ⟨bd,off+m*13+12,none⟩=some (.bool d.watch)/\w'.cell? ⟨w3.heap.size,0,none⟩=some (.int .i64 rc)/\w'.cell? ⟨w3.heap.size,1,none⟩=some (.int .i64 rz)/\w'.cell? ⟨w3.heap.size,2,none⟩=some (.string rpa)/\w'.cell? ⟨w3.heap.size,3,none⟩=some (.string rda)/\w'.cell? ⟨w3.heap.size,4,none⟩=some (.int .i64 s1)/\w'.cell? ⟨w3.heap.size,5,none⟩=some (.int .i64 s2)/\w'.cell? ⟨w3.heap.size,6,none⟩=some (.int .i64 s3)/\w'.cell? ⟨w3.heap.size,7,none⟩=some (.int .i64 s4)/\w'.cell? ⟨w3.heap.size,8,none⟩=some (.int .i64 s5)/\w'.cell? ⟨w3.heap.size,9,none⟩=some (.int .i64 s6)/\w'.cell? ⟨w3.heap.size,10,none⟩=some (.int .i64 s7)/\w'.cell? ⟨w3.heap.size,11,none⟩=some (.slice A3 rns.length k3)) (fun i=>i == 7) (by (try dsimp only); (refine ⟨?_,?_,?_,?_,?_,?_,?_,?_,?_,?_,?_,?_,?_,?_,?_,?_,?_,?_,?_,?_,?_,?_,?_,?_,?_⟩ <;> go_simp)) (fun hHeld=>?_)
   refine tpP 0 ?_;refine tpP 1 ?_;refine tpP 2 ?_;refine tpP 3 ?_;refine tpP 4 ?_;refine tpA 5 ?_;refine tpA 6 ?_;refine zB1 (rs:=[7]) qE1 qJ1 ?_;refine zD1 qQ0 qE1 (fun K hK=>?_) zB2
   go_simp
   (rw [HCF.out,Oper.upon_enter]; (with_reducible refine (HLO.out _ hW1W).mono ?_); rintro e w5 ⟨rfl,hp5,hk5⟩; have HP5:=zA0 hp5; have HK5:=zA0 hk5; clear hp5 hk5; go_simp)
   refine hK.out _ _ ?_;clear hK K
   try simp only [Act.put,zA6,zA4,zA5]
   refine tpQ 8 ?_;refine zC4 qE1 ?_ _;refine NoPanic.normal ?_;have HPL:=zA0 (show PlI p0 b P w w5 τ Reg' E' sv3 cv3 dv3 from ⟨(H4.out.below hW1W).keeps HK5.out,HST.out.inv',HP5.out,(HK4.out.trans (zC3 hW1W (p:=p0)) (fun _ _ e=>.inl e)).trans HK5.out (fun _ _ e=>.inl e),(HT4.out.low (hW1W.mono (zG4 H4.out.lt))).kept HK5.out (by have:=H4.out.lt; omega) HPT.out⟩)
   clear HP5 HK5;go_wp2_with fail;go_roundw
   case rel=>exact ⟨m+1,τ,Reg',E',sv3,cv3,dv3,by omega,by omega,by go_num,HPL⟩
   case measure=>simp [intOf]; omega
  ·by_cases hlt1:m<l.length
   ·have hb1:decide ((m:Int)<(l.length:Int))=true:=zB0 qI1
    have hb2:decide ((m:Int)<100)=false:=zA8 qI1;clear hlt hlt1;go_wp2_with fail
    all_goals exact zA1 (v:=.tuple #[.pointer (some ⟨b,0,none⟩),.bool true]) (by simp [results,Tryz.results12,go_sem]) rfl ⟨b,σ,Reg,E,sv,cv,dv,rfl,hbs,hx.out⟩
   ·have hb1:decide ((m:Int)<(l.length:Int))=false:=zA8 qI1
    have hn1:decide (m<l.length)=false:=zA8 hlt1;clear hlt;go_wp2_with fail
    all_goals exact zA1 (v:=.tuple #[.pointer (some ⟨b,0,none⟩),.bool true]) (by simp [results,Tryz.results12,go_sem]) rfl ⟨b,σ,Reg,E,sv,cv,dv,rfl,hbs,hx.out⟩
theorem JlP {W : World} {x y z u : String × DataW Unit} (h : laidMet Tryz.prog [x, y, ("internal/strconv.uint64pow10", Rows.laid_internal_strconv_uint64pow10), z, u] W) : Lib.TabIs Tryz.prog W "internal/strconv.uint64pow10" .u64 Lib.pow10Tab := by
 rw [pow_data] at h;obtain ⟨ps,⟨g0,t0,cs0,f0,p0,q0,_,_,_,_,⟨g1,t1,cs1,f1,p1,q1,_,_,_,_,⟨g2,t2,cs2,f2,p2,q2,hg2,ht2,hv2,hd2,_,_⟩,_⟩,_⟩,_⟩:=h;obtain rfl:=Option.some.inj (pow_global.symm.trans hg2);obtain rfl:=Option.some.inj ((show (Tryz.prog.globals[3]?).map (·.type)=some 267 by kernel_rfl).symm.trans ht2)
 unfold Lib.TabIs;rw [hv2,<-Lib.cells_of_tab (n:=20) (e:=261) Tryz.underlying267 Tryz.underlying261 qE1 qE1 hd2]
theorem tabB_of {W : World} (h : Lib.TabIs Tryz.prog W "internal/strconv.uint64pow10" .u64 Lib.pow10Tab) : TabB W.heap.size W := ⟨⟨h, _, pow_global⟩, fun g hg => by
 by_cases hlt:g<W.heap.size
 ·exact hlt
 ·exfalso
  unfold Lib.TabIs World.var? at h;rw [hg] at h;simp only [Option.bind_some] at h;rw [zL4 qI1] at h;cases h⟩
end
end Go.Proofs.YtjnooagaghdkdaaGreatDoor

/-L-/
import Derived.Test.YtjnooagaghdkdaaGreatDoorV19
import Derived.Test.YtjnooagaghdkdaaGreatDoorV43
set_option maxHeartbeats 10000000
set_option maxRecDepth 100000
set_option linter.all false
namespace Go.Proofs.YtjnooagaghdkdaaGreatDoor
section
open Go.RowKit Go.ChangeShapes Go.WideShapes Go.ChangeAt
theorem Ow.keeps {α:Type} {f:α->List Value} {s:Nat} {e:TypeId} {w w':World} {B:Nat} {v:Value} {l:List α} {p:Nat->Prop} (h:Ow f s e w B v l) (hk:Keeps p w w') (hv:∀ q,p q->v.ownBlock≠some q):Ow f s e w' B v l:=by
 refine ⟨⟨h.1.1,?_⟩,h.2⟩;rcases h.1.2 with hn | ⟨g,cap,cur,rfl,hb,hg,r⟩
 ·exact .inl hn
 ·have hlt:g<w.heap.size:=by
   by_cases h0:g<w.heap.size
   ·exact h0
   ·rw [zL6 qH1] at hg
    cases hg
  exact .inr ⟨g,cap,cur,rfl,hb,(hk.block g hlt (fun e=>hv g e rfl)).trans hg,r⟩
theorem SrvIn.keeps {p r:Nat->Prop} {w w':World} {s:Srv} {v:SrvV} (h:SrvIn p w s v) (hk:Keeps r w w') (hr:∀ q,r q->p q):SrvIn p w' s v:=
 ⟨h.disk.keeps hk hr,h.log.keeps hk hr,h.nodes.keeps hk hr,h.sess.keeps hk hr,h.watches.keeps hk hr⟩
theorem WIn.keeps {p0:Nat->Prop} {b:Nat} {w w':World} {σ:Wd} {sv:Nat->SrvV} {cv:Nat->ClV} {dv:Value} (h:WIn p0 b w σ sv cv dv) (hk:Keeps p0 w w'):WIn p0 b w' σ sv cv dv:=
 { h with
  box:=by obtain ⟨cs,k⟩:=h.box; exact ⟨cs,{ k with bk:=k.bk.keeps hk h.bp }⟩
  srv:=fun i hi=>(h.srv i hi).keeps hk (fun _=>.inl)
  cl:=fun i hi=>(h.cl i hi).keeps hk (fun _=>.inl)
  dn:=h.dn.keeps hk h.dp }
theorem TabB.kept {b : Nat} {p : Nat → Prop} {w w' : World} (h : TabB b w) (hk : Keeps p w w') (hb : b ≤ w.heap.size) (hp : ∀ g, Tryz.prog.globalNamed "internal/strconv.uint64pow10" = some g → ¬ p g) : TabB b w' := by
 obtain ⟨⟨h1,g,hg⟩,h2⟩:=h;refine ⟨⟨?_,g,hg⟩,h2⟩;unfold Lib.TabIs World.var? at h1 ⊢;rw [hg] at h1 ⊢;simp only [Option.bind_some] at h1 ⊢;rw [hk.block g (zC5 (h2 g hg) hb) (hp g hg)];exact h1
structure StepIn (σ τ:Wd) (d:Deed) (r:Rp) (Reg Reg':List Txn) (E E':Int):Prop where
 inv:Inv Reg E σ.deeds σ
 eq:doW σ d=(τ,r)
 inv':Inv Reg' E' τ.deeds τ
 pre:Reg <+: Reg'
 le:E<=E'
 el:d.kind=5->r.code=0->E<E'
theorem Jnh {σ:Wd} {Reg:List Txn} {E:Int} (h:Inv Reg E σ.deeds σ) (d:Deed):∃ τ r Reg' E',StepIn σ τ d r Reg Reg' E E':=by
 obtain ⟨Reg',E',a,b,c,e,_⟩:=do_inv2 h d;exact ⟨_,_,Reg',E',h,rfl,c,a,b,e⟩
def LookIs (f:Nat) (caps:Array Value) (p0:Nat->Prop) (b:Nat) (P:Wd->List Txn->Int->World->Prop):Prop:=
 ∀ (W:World) (σ τ:Wd) (Reg Reg':List Txn) (E E':Int) (sv:Nat->SrvV) (cv:Nat->ClV) (dv:Value) (d:Deed) (r:Rp) (A:Option Addr) (c:Nat),
  StepIn σ τ d r Reg Reg' E E'->P σ Reg E W->WIn p0 b W τ sv cv dv->SlA (pW p0 b dv) Jbl 3 W (.slice A r.notes.length c) r.notes->(∀ q,p0 q->q<W.heap.size)->
  Calls Tryz.prog f (#[.pointer (some ⟨b,0,none⟩),Jos d,rpV r A c] ++ caps) W (fun e w'=>e=.returned (.bool true)/\P τ Reg' E' w'/\Keeps p0 W w')
structure PlI (p0:Nat->Prop) (b:Nat) (P:Wd->List Txn->Int->World->Prop) (w wr:World) (σ:Wd) (Reg:List Txn) (E:Int) (sv:Nat->SrvV) (cv:Nat->ClV) (dv:Value):Prop where
 win:WIn p0 b wr σ sv cv dv
 inv:Inv Reg E σ.deeds σ
 hp:P σ Reg E wr
 keep:Keeps (fun q=>p0 q\/w.heap.size<=q) w wr
 tab:TabB b wr
theorem play_is (f:Nat) (caps:Array Value) (p0:Nat->Prop) (P:Wd->List Txn->Int->World->Prop) (v:Value) (l:List Deed) (w:World) (hl:SlA p0 Jei 13 w v l) (hd:∀ d∈l,d.path.size<=4611686018427387904) (ht:TabB w.heap.size w) (hp0:∀ q,p0 q->q<w.heap.size)
  (hpt : ∀ g, Tryz.prog.globalNamed "internal/strconv.uint64pow10" = some g → ¬ p0 g) (hP : ∀ (σ : Wd) (Reg : List Txn) (E : Int) (W W' : World), (∀ q, p0 q → W'.heap[q]? = W.heap[q]?) → P σ Reg E W → P σ Reg E W') (h0 : P newW [] 0 w)
  (hcf:∀ (args:Array Value) (W:World),(callFunc f args).run Tryz.prog W=.ok (.enter f args) W) (hlook:∀ b,w.heap.size<=b->LookIs f caps p0 b P) :
  Calls Tryz.prog 12 #[v,.func (.func f) #[] caps] w (fun e w'=>∃ b σ Reg E sv cv dv,e=.returned (.tuple #[.pointer (some ⟨b,0,none⟩),.bool true])/\w.heap.size<=b/\PlI p0 b P w w' σ Reg E sv cv dv):=by
 obtain ⟨A,c,rfl,hl1,hl2⟩:=hl.1.form;have HL:=zA0 hl;have HD:=zA0 hd;have HP0:=zA0 hp0;have HPT:=zA0 hpt;have HP:=zA0 hP;have H0:=zA0 h0;have HLK:=zA0 hlook;have HCF:=zA0 hcf;have HT:=zA0 ht;have HA:=zA0 (JlG w ht);clear hl hd ht hp0 hpt hP h0 hlook hcf;go_enter Tryz.func12,Tryz.ntmps12
 go_upto_region 3 with ((go_at_call 21; refine (HA.out).mono ?_; rintro e w1 ⟨rfl,hb1⟩; have HB1:=zA0 hb1; clear hb1))
 have hs1:=HB1.out.size;have HN:=zA0 (wNew p0 w1 (fun q hq=>by have:=HP0.out q hq; omega))
 go_upto_region 4 with ((go_at_call 37; refine (HN.out).mono ?_; rintro e w2 ⟨sv,cv,rfl,hin,hb⟩; skip))
 have H2:=zA0 hin;have HB2:=zA0 (HB1.out.trans (hb.mono hs1));have HTB:=zA0 (show TabB w1.heap.size w2 from by
  obtain ⟨t1,t2⟩:=(HT.out.low HB1.out).low (hb.mono hs1);exact ⟨t1,fun g hg=>by have:=t2 g hg; omega⟩)
 clear hin hb HN HA HB1 HT;generalize hbq:w1.heap.size=b at *;have hbs:w.heap.size<=b:=hs1;clear hbq hs1;have HPL:=zA0 (show PlI p0 b P w w2 newW [] 0 sv cv (.slice none 0 0) from ⟨H2.out,new_inv,HP.out _ _ _ _ _ (fun q hq=>HB2.out.block q (HP0.out q hq)) H0.out,zC2 HB2.out,HTB.out⟩)
 clear H2 HB2 HTB H0;go_wp2_with fail;go_loopw [7] (fun i wr=>∃ (m:Nat) (σ:Wd) (Reg:List Txn) (E:Int) (sv:Nat->SrvV) (cv:Nat->ClV) (dv:Value),m<=l.length/\m<=100/\i=.int .i64 m/\Hid (PlI p0 b P w wr σ Reg E sv cv dv)) (fun i _=>101 - (intOf i).toNat)
 case atStart=>exact ⟨0,_,_,_,_,_,_,zB7 _,zB7 _,rfl,HPL⟩
 case round=>
  clear HPL;obtain ⟨m,σ,Reg,E,sv,cv,dv,hm1,hm2,rfl,hx⟩:=hrel
  by_cases hlt:m<l.length/\m<100
  ·obtain ⟨hlt1,hlt2⟩:=hlt
   have hix:l[m]?=some (l[m]'hlt1):=zA4 _;have hdz:=HD.out _ (zC7 hix);generalize l[m]'hlt1=d at hix hdz;have HV:=zA0 (HL.out.more (p':=fun q=>p0 q\/w.heap.size<=q) (fun q e=>e))
   obtain ⟨bd,off,hA,hbd,x0,x1,x2,x3,x4,x5,x6,x7,x8,x9,x10,x11,x12⟩:=(HV.out.keeps hx.out.keep (fun _ e=>e)).1.Deed_at hix
   subst hA;have hp0r:∀ q,p0 q->q<wr.heap.size:=fun q hq=>zC5 (HP0.out q hq) hx.out.keep.size
   obtain ⟨τ,r,Reg',E',hst⟩:=Jnh hx.out.inv d;have HDO:=zA0 (wDo p0 b wr σ sv cv dv Reg E hx.out.win hp0r hx.out.inv hx.out.tab d hdz);rw [hst.eq] at HDO;unfold DoRes at HDO;have HST:=zA0 hst;have HIX:=zA0 hix;have hm0:(0:Int)<=(m:Int):=qCE;have hml:(m:Int)<(l.length:Int):=qCE;have hb1:decide ((m:Int)<(l.length:Int))=true:=zB2 hml;have hb2:decide ((m:Int)<100)=true:=zB2 qH1;clear hst hix hp0r;obtain ⟨rc,rz,rpa,rda,⟨s1,s2,s3,s4,s5,s6,s7⟩,rns⟩:=r;simp only [rpV] at HDO;go_upto_region 8 with ((go_at_call 38; (with_reducible refine (HDO.out).mono ?_); rintro e w3 ⟨sv3,cv3,dv3,A3,k3,rfl,hin,hsn,hk,hm⟩; have H3:=zA0 hin; have HS3:=zA0 hsn; have HK3:=zA0 hk; clear hin hsn hk hm))
   refine Jaq (fun W4 hW4=>?_)
   have hB4:Below w3.heap.size w3 W4:=qeE;have hbw:w.heap.size<=b:=hbs;have hK34:Keeps (fun q=>q=b\/dv.ownBlock=some q) wr W4:=HK3.out.trans (zC2 hB4 (p:=fun q=>q=b)) (fun _ _ e=>.inl e)
   have HK4:=zA0 (hx.out.keep.trans hK34 (fun q _ e=>by
    rcases e with e | e
    ·exact .inr qH1
    ·have:=(hx.out.win.dn.own_in e).1
     exact .inr qH1))
   have H4:=zA0 (H3.out.below hB4);have HS4:=zA0 (HS3.out.below hB4);have HX4:=zA0 (show Bk W4 w3.heap.size [.int .i64 rc,.int .i64 rz,.string rpa,.string rda,.int .i64 s1,.int .i64 s2,.int .i64 s3,.int .i64 s4,.int .i64 s5,.int .i64 s6,.int .i64 s7,.slice A3 rns.length k3] 35 from by rw [hW4.out]; exact Bk.new _ _ _ rfl)
   have HP4:=zA0 (HP.out σ Reg E wr W4 (fun q hq=>hK34.block q (zC5 (HP0.out q hq) hx.out.keep.size) (fun e=>by
    rcases e with e | e
    ·exact hx.out.win.bp (e▸hq)
    ·exact hx.out.win.dp q hq e)) hx.out.hp)
   have HT4:=zA0 ((hx.out.tab).low (hx.out.win.keepsB hK34));have hp04:=zA0 (show ∀ q,p0 q->q<W4.heap.size from fun q hq=>zC5 (HP0.out q hq) HK4.out.size)
   clear hW4 hB4 hK34 H3 HS3 HK3 HDO x0 x1 x2 x3 x4 x5 x6 x7 x8 x9 x10 x11 x12 hx hbd;obtain ⟨_,_,hA,hbd,x0,x1,x2,x3,x4,x5,x6,x7,x8,x9,x10,x11,x12⟩:=(HV.out.keeps HK4.out (fun _ e=>e)).1.Deed_at HIX.out
   injection hA with hA
   injection hA with e1 e2 _
   subst e1;subst e2;have y0:W4.cell? ⟨w3.heap.size,0,none⟩=some (.int .i64 rc):=HX4.out.cell 0;have y1:W4.cell? ⟨w3.heap.size,1,none⟩=some (.int .i64 rz):=HX4.out.cell 1;have y2:W4.cell? ⟨w3.heap.size,2,none⟩=some (.string rpa):=HX4.out.cell 2;have y3:W4.cell? ⟨w3.heap.size,3,none⟩=some (.string rda):=HX4.out.cell 3;have y4:W4.cell? ⟨w3.heap.size,4,none⟩=some (.int .i64 s1):=HX4.out.cell 4;have y5:W4.cell? ⟨w3.heap.size,5,none⟩=some (.int .i64 s2):=HX4.out.cell 5;have y6:W4.cell? ⟨w3.heap.size,6,none⟩=some (.int .i64 s3):=HX4.out.cell 6;have y7:W4.cell? ⟨w3.heap.size,7,none⟩=some (.int .i64 s4):=HX4.out.cell 7;have y8:W4.cell? ⟨w3.heap.size,8,none⟩=some (.int .i64 s5):=HX4.out.cell 8;have y9:W4.cell? ⟨w3.heap.size,9,none⟩=some (.int .i64 s6):=HX4.out.cell 9;have y10:W4.cell? ⟨w3.heap.size,10,none⟩=some (.int .i64 s7):=HX4.out.cell 10;have y11:W4.cell? ⟨w3.heap.size,11,none⟩=some (.slice A3 rns.length k3):=HX4.out.cell 11;have hltx:w3.heap.size<W4.heap.size:=HX4.out.lt;have HLO:=zA0 (fun (W:World) (hb:Below W4.heap.size W4 W)=>HLK.out b hbw W σ τ Reg Reg' E E' sv3 cv3 dv3 d ⟨rc,rz,rpa,rda,⟨s1,s2,s3,s4,s5,s6,s7⟩,rns⟩ A3 k3 HST.out (HP.out σ Reg E W4 W (fun q hq=>hb.block q (hp04.out q hq)) HP4.out) (H4.out.below hb) (HS4.out.below hb) (fun q hq=>zC5 (hp04.out q hq) hb.size))
   simp only [rpV] at HLO;refine wp_region_noPanic ?_;refine zD9 qE1 (fun W hW=>?_)
   have cl0:W.cell? ⟨bd,off+m*13,none⟩=some (.int .i64 d.kind):=qAE;have cl1:W.cell? ⟨bd,off+m*13+1,none⟩=some (.int .i64 d.client):=qAE;have cl2:W.cell? ⟨bd,off+m*13+2,none⟩=some (.int .i64 d.server):=qAE;have cl3:W.cell? ⟨bd,off+m*13+3,none⟩=some (.int .i64 d.op):=qAE;have cl4:W.cell? ⟨bd,off+m*13+4,none⟩=some (.int .i64 d.session):=qAE;have cl5:W.cell? ⟨bd,off+m*13+5,none⟩=some (.string d.path):=qAE;have cl6:W.cell? ⟨bd,off+m*13+6,none⟩=some (.string d.data):=qAE;have cl7:W.cell? ⟨bd,off+m*13+7,none⟩=some (.int .i64 d.version):=qAE;have cl8:W.cell? ⟨bd,off+m*13+8,none⟩=some (.int .i64 d.flags):=qAE;have cl9:W.cell? ⟨bd,off+m*13+9,none⟩=some (.int .i64 d.lost):=qAE;have cl10:W.cell? ⟨bd,off+m*13+10,none⟩=some (.int .i64 d.slow):=qAE;have cl11:W.cell? ⟨bd,off+m*13+11,none⟩=some (.int .i64 d.keep):=qAE;have cl12:W.cell? ⟨bd,off+m*13+12,none⟩=some (.bool d.watch):=qAE;have cl13:W.cell? ⟨w3.heap.size,0,none⟩=some (.int .i64 rc):=qAE;have cl14:W.cell? ⟨w3.heap.size,1,none⟩=some (.int .i64 rz):=qAE;have cl15:W.cell? ⟨w3.heap.size,2,none⟩=some (.string rpa):=qAE;have cl16:W.cell? ⟨w3.heap.size,3,none⟩=some (.string rda):=qAE;have cl17:W.cell? ⟨w3.heap.size,4,none⟩=some (.int .i64 s1):=qAE;have cl18:W.cell? ⟨w3.heap.size,5,none⟩=some (.int .i64 s2):=qAE;have cl19:W.cell? ⟨w3.heap.size,6,none⟩=some (.int .i64 s3):=qAE;have cl20:W.cell? ⟨w3.heap.size,7,none⟩=some (.int .i64 s4):=qAE;have cl21:W.cell? ⟨w3.heap.size,8,none⟩=some (.int .i64 s5):=qAE;have cl22:W.cell? ⟨w3.heap.size,9,none⟩=some (.int .i64 s6):=qAE;have cl23:W.cell? ⟨w3.heap.size,10,none⟩=some (.int .i64 s7):=qAE;have cl24:W.cell? ⟨w3.heap.size,11,none⟩=some (.slice A3 rns.length k3):=qAE;have hWs1:W.heap.size=W4.heap.size:=qTE;have hW1W:Below W4.heap.size W4 W:=qJE;have hbW:bd<W.heap.size:=qCE;have hgW:w3.heap.size<W.heap.size:=qCE;refine Jav (fun w'=>w'.cell? ⟨bd,off+m*13,none⟩=some (.int .i64 d.kind)/\w'.cell? ⟨bd,off+m*13+1,none⟩=some (.int .i64 d.client)/\w'.cell? ⟨bd,off+m*13+2,none⟩=some (.int .i64 d.server)/\w'.cell? ⟨bd,off+m*13+3,none⟩=some (.int .i64 d.op)/\w'.cell? ⟨bd,off+m*13+4,none⟩=some (.int .i64 d.session)/\w'.cell? ⟨bd,off+m*13+5,none⟩=some (.string d.path)/\w'.cell? ⟨bd,off+m*13+6,none⟩=some (.string d.data)/\w'.cell? ⟨bd,off+m*13+7,none⟩=some (.int .i64 d.version)/\w'.cell? ⟨bd,off+m*13+8,none⟩=some (.int .i64 d.flags)/\w'.cell? ⟨bd,off+m*13+9,none⟩=some (.int .i64 d.lost)/\w'.cell? ⟨bd,off+m*13+10,none⟩=some (.int .i64 d.slow)/\w'.cell? ⟨bd,off+m*13+11,none⟩=some (.int .i64 d.keep)/\w'.cell? ⟨bd,off+m*13+12,none⟩=some (.bool d.watch)/\w'.cell? ⟨w3.heap.size,0,none⟩=some (.int .i64 rc)/\w'.cell? ⟨w3.heap.size,1,none⟩=some (.int .i64 rz)/\w'.cell? ⟨w3.heap.size,2,none⟩=some (.string rpa)/\w'.cell? ⟨w3.heap.size,3,none⟩=some (.string rda)/\w'.cell? ⟨w3.heap.size,4,none⟩=some (.int .i64 s1)/\w'.cell? ⟨w3.heap.size,5,none⟩=some (.int .i64 s2)/\w'.cell? ⟨w3.heap.size,6,none⟩=some (.int .i64 s3)/\w'.cell? ⟨w3.heap.size,7,none⟩=some (.int .i64 s4)/\w'.cell? ⟨w3.heap.size,8,none⟩=some (.int .i64 s5)/\w'.cell? ⟨w3.heap.size,9,none⟩=some (.int .i64 s6)/\w'.cell? ⟨w3.heap.size,10,none⟩=some (.int .i64 s7)/\w'.cell? ⟨w3.heap.size,11,none⟩=some (.slice A3 rns.length k3)) (fun i=>i == 7) (by (try dsimp only); (refine ⟨?_,?_,?_,?_,?_,?_,?_,?_,?_,?_,?_,?_,?_,?_,?_,?_,?_,?_,?_,?_,?_,?_,?_,?_,?_⟩ <;> go_simp)) (fun hHeld=>?_)
   refine tpP 0 ?_;refine tpP 1 ?_;refine tpP 2 ?_;refine tpP 3 ?_;refine tpP 4 ?_;refine tpA 5 ?_;refine tpA 6 ?_;refine zB0 (rs:=[7]) qE1 qI1 ?_;refine zD0 qQ0 qE1 (fun K hK=>?_) zB1
   go_simp
   (rw [HCF.out,Oper.upon_enter]; (with_reducible refine (HLO.out _ hW1W).mono ?_); rintro e w5 ⟨rfl,hp5,hk5⟩; have HP5:=zA0 hp5; have HK5:=zA0 hk5; clear hp5 hk5; go_simp)
   refine hK.out _ _ ?_;clear hK K
   try simp only [Act.put,zA8,zA6,zA7]
   refine tpQ 8 ?_;refine zC4 qE1 ?_ _;refine NoPanic.normal ?_;have HPL:=zA0 (show PlI p0 b P w w5 τ Reg' E' sv3 cv3 dv3 from ⟨(H4.out.below hW1W).keeps HK5.out,HST.out.inv',HP5.out,(HK4.out.trans (zC2 hW1W (p:=p0)) (fun _ _ e=>.inl e)).trans HK5.out (fun _ _ e=>.inl e),(HT4.out.low (hW1W.mono (zG5 H4.out.lt))).kept HK5.out (by have:=H4.out.lt; omega) HPT.out⟩)
   clear HP5 HK5;go_wp2_with fail;go_roundw
   case rel=>exact ⟨m+1,τ,Reg',E',sv3,cv3,dv3,by omega,by omega,by go_num,HPL⟩
   case measure=>simp [intOf]; omega
  ·by_cases hlt1:m<l.length
   ·have hb1:decide ((m:Int)<(l.length:Int))=true:=zB2 qH1
    have hb2:decide ((m:Int)<100)=false:=zA5 qH1;clear hlt hlt1;go_wp2_with fail
    all_goals exact zA1 (v:=.tuple #[.pointer (some ⟨b,0,none⟩),.bool true]) (by simp [results,Tryz.results12,go_sem]) rfl ⟨b,σ,Reg,E,sv,cv,dv,rfl,hbs,hx.out⟩
   ·have hb1:decide ((m:Int)<(l.length:Int))=false:=zA5 qH1
    have hn1:decide (m<l.length)=false:=zA5 hlt1;clear hlt;go_wp2_with fail
    all_goals exact zA1 (v:=.tuple #[.pointer (some ⟨b,0,none⟩),.bool true]) (by simp [results,Tryz.results12,go_sem]) rfl ⟨b,σ,Reg,E,sv,cv,dv,rfl,hbs,hx.out⟩
theorem JgP {W : World} {x y z u : String × DataW Unit} (h : laidMet Tryz.prog [x, y, ("internal/strconv.uint64pow10", Rows.laid_internal_strconv_uint64pow10), z, u] W) : Lib.TabIs Tryz.prog W "internal/strconv.uint64pow10" .u64 Lib.pow10Tab := by
 rw [pow_data] at h;obtain ⟨ps,⟨g0,t0,cs0,f0,p0,q0,_,_,_,_,⟨g1,t1,cs1,f1,p1,q1,_,_,_,_,⟨g2,t2,cs2,f2,p2,q2,hg2,ht2,hv2,hd2,_,_⟩,_⟩,_⟩,_⟩:=h;obtain rfl:=Option.some.inj (pow_global.symm.trans hg2);obtain rfl:=Option.some.inj ((show (Tryz.prog.globals[3]?).map (·.type)=some 267 by kernel_rfl).symm.trans ht2)
 unfold Lib.TabIs;rw [hv2,<-Lib.cells_of_tab (n:=20) (e:=261) Tryz.underlying267 Tryz.underlying261 qE1 qE1 hd2]
theorem Jnb {W : World} (h : Lib.TabIs Tryz.prog W "internal/strconv.uint64pow10" .u64 Lib.pow10Tab) : TabB W.heap.size W := ⟨⟨h, _, pow_global⟩, fun g hg => by
 by_cases hlt:g<W.heap.size
 ·exact hlt
 ·exfalso
  unfold Lib.TabIs World.var? at h;rw [hg] at h;simp only [Option.bind_some] at h;rw [zL6 qH1] at h;cases h⟩
theorem TabB.up {b b':Nat} {w:World} (h:TabB b w) (hb:b<=b'):TabB b' w:=⟨h.1,fun g hg=>zC5 (h.2 g hg) hb⟩
theorem TabB.new {w w':World} (h:TabB w.heap.size w) (hb:Below w.heap.size w w'):TabB w'.heap.size w':=(h.low hb).up hb.size
theorem Sl.apart {α:Type} {f:α->List Value} {s:Nat} {w w':World} {v:Value} {l:List α} (h:Sl f s w v l) (hb:Below w.heap.size w w') {p:Nat->Prop} (hp:∀ q,p q->w.heap.size<=q):SlA p f s w' v l:=
 ((show SlA (fun _=>False) f s w v l from ⟨h,.inr (fun _ e=>e.elim)⟩).more (p':=p) (fun q e=>.inr (hp q e))).below hb
structure RpE where
 r:Rp
 na:Option Addr
 nc:Nat
def cRpE (x:RpE):List Value:=[.int .i64 x.r.code,.int .i64 x.r.zxid,.string x.r.path,.string x.r.data,.int .i64 x.r.st.cz,.int .i64 x.r.st.mz,.int .i64 x.r.st.pz,.int .i64 x.r.st.ver,.int .i64 x.r.st.cver,.int .i64 x.r.st.own,.int .i64 x.r.st.kids,.slice x.na x.r.notes.length x.nc]
theorem cRpE_one:∀ x:RpE,∀ u∈cRpE x,u.oneCell'=true:=by
 intro x u hu;simp [cRpE] at hu;rcases hu with rfl | rfl | rfl | rfl | rfl | rfl | rfl | rfl | rfl | rfl | rfl | rfl <;> rfl
theorem elRp:El Tryz.prog 55 35 (.agg #[.int .i64 0,.int .i64 0,.string ByteArray.empty,.string ByteArray.empty,.int .i64 0,.int .i64 0,.int .i64 0,.int .i64 0,.int .i64 0,.int .i64 0,.int .i64 0,.slice none 0 0]) 12 128:=⟨Tryz.underlying55,by kernel_rfl,rfl,by decide⟩
theorem Sl.RpE_at {w:World} {A:Option Addr} {n c:Nat} {l:List RpE} (h:Sl cRpE 12 w (.slice A n c) l) {i:Nat} {x:RpE} (hx:l[i]?=some x):∃ b off,A=some ⟨b,off,none⟩/\b<w.heap.size/\w.cell? ⟨b,off+i*12,none⟩=some (.int .i64 x.r.code)/\w.cell? ⟨b,off+i*12+1,none⟩=some (.int .i64 x.r.zxid)/\w.cell? ⟨b,off+i*12+2,none⟩=some (.string x.r.path)/\w.cell? ⟨b,off+i*12+3,none⟩=some (.string x.r.data)/\w.cell? ⟨b,off+i*12+4,none⟩=some (.int .i64 x.r.st.cz)/\w.cell? ⟨b,off+i*12+5,none⟩=some (.int .i64 x.r.st.mz)/\w.cell? ⟨b,off+i*12+6,none⟩=some (.int .i64 x.r.st.pz)/\w.cell? ⟨b,off+i*12+7,none⟩=some (.int .i64 x.r.st.ver)/\w.cell? ⟨b,off+i*12+8,none⟩=some (.int .i64 x.r.st.cver)/\w.cell? ⟨b,off+i*12+9,none⟩=some (.int .i64 x.r.st.own)/\w.cell? ⟨b,off+i*12+10,none⟩=some (.int .i64 x.r.st.kids)/\w.cell? ⟨b,off+i*12+11,none⟩=some (.slice x.na x.r.notes.length x.nc):=by
 obtain ⟨b,off,rfl,hb,hc⟩:=h.at_ hx;exact ⟨b,off,rfl,hb,hc 0 _ rfl,hc 1 _ rfl,hc 2 _ rfl,hc 3 _ rfl,hc 4 _ rfl,hc 5 _ rfl,hc 6 _ rfl,hc 7 _ rfl,hc 8 _ rfl,hc 9 _ rfl,hc 10 _ rfl,hc 11 _ rfl⟩
noncomputable def runF (p:Wd × List Rp) (d:Deed):Wd × List Rp:=((doW p.1 d).1,p.2 ++ [(doW p.1 d).2])
noncomputable def runW (l:List Deed):Wd × List Rp:=l.foldl runF (newW,[])
theorem Jnr {l:List Deed} {m:Nat} {d:Deed} (h:l[m]?=some d) {σ:Wd} {rs:List Rp} (e:runW (l.take m)=(σ,rs)):runW (l.take (m+1))=((doW σ d).1,rs ++ [(doW σ d).2]):=by
 unfold runW at e ⊢;rw [zF3,h,zH9,e];rfl
theorem Jfz (l:List Deed):(runW l).2.length=l.length:=by
 have:∀ (l:List Deed) (p:Wd × List Rp),(l.foldl runF p).2.length=p.2.length+l.length:=by
  intro l
  induction l with
  | nil=>intro p; rfl
  | cons d l ih=>intro p; rw [zI9,ih]; simp [runF]; omega
 have:=this l (newW,[]);simpa [runW] using this
theorem runF_pre (l:List Deed) (p:Wd × List Rp):p.2 <+: (l.foldl runF p).2:=by
 induction l generalizing p with
 | nil=>exact zI1 _
 | cons d l ih=>exact (List.prefix_append p.2 [(doW p.1 d).2]).trans (ih (runF p d))
theorem runW_pre (l:List Deed) (n:Nat):(runW (l.take n)).2=(runW l).2.take (l.take n).length:=by
 have h:(runW (l.take n)).2 <+: (runW l).2:=by
  have e:runW l=(l.drop n).foldl runF (runW (l.take n)):=by
   unfold runW;rw [<-zH9,zD6]
  rw [e];exact runF_pre _ _
 rw [List.prefix_iff_eq_take.1 h,Jfz]
abbrev pR (v:Value):Nat->Prop:=fun q=>(fun _:Nat=>False) q\/v.ownBlock=some q
structure RunI (w wr:World) (l:List Deed) (m:Nat) (σ:Wd) (Reg:List Txn) (E:Int) (sv:Nat->SrvV) (cv:Nat->ClV) (dv:Value) (A:Option Addr) (c:Nat) (rs:List RpE):Prop where
 win:WIn (pR (.slice A rs.length c)) w.heap.size wr σ sv cv dv
 inv:Inv Reg E σ.deeds σ
 own:Ow cRpE 12 35 wr w.heap.size (.slice A rs.length c) rs
 eq:runW (l.take m)=(σ,rs.map RpE.r)
 nt:∀ x∈rs,SlA (pW (pR (.slice A rs.length c)) w.heap.size dv) Jbl 3 wr (.slice x.na x.r.notes.length x.nc) x.r.notes
 below:Below w.heap.size w wr
theorem RunI.keep {w wr:World} {l:List Deed} {m:Nat} {σ:Wd} {Reg:List Txn} {E:Int} {sv:Nat->SrvV} {cv:Nat->ClV} {dv:Value} {A:Option Addr} {c:Nat} {rs:List RpE} (h:RunI w wr l m σ Reg E sv cv dv A c rs) {W1 w3:World} (hB1:Below wr.heap.size wr W1) (hk:Keeps (fun q=>q=w.heap.size\/dv.ownBlock=some q) W1 w3):Ow cRpE 12 35 w3 w.heap.size (.slice A rs.length c) rs:=
 (h.own.below hB1).keeps hk (fun q hq e=>by
  rcases hq with hq | hq
  ·exact h.win.bp (.inr (hq▸e))
  ·exact h.win.dp q (.inr e) hq)
theorem RunI.step {w wr:World} {l:List Deed} {m:Nat} {σ:Wd} {Reg:List Txn} {E:Int} {sv:Nat->SrvV} {cv:Nat->ClV} {dv:Value} {A:Option Addr} {c:Nat} {rs:List RpE} (h:RunI w wr l m σ Reg E sv cv dv A c rs) {W1:World} (hB1:Below wr.heap.size wr W1) {d:Deed} {τ:Wd} {r:Rp} {Reg':List Txn} {E':Int} (hix:l[m]?=some d) (hst:StepIn σ τ d r Reg Reg' E E')
  {w3:World} {sv3:Nat->SrvV} {cv3:Nat->ClV} {dv3:Value} {A3:Option Addr} {k3:Nat} (hin:WIn (pR (.slice A rs.length c)) w.heap.size w3 τ sv3 cv3 dv3) (hsn:SlA (pW (pR (.slice A rs.length c)) w.heap.size dv3) Jbl 3 w3 (.slice A3 r.notes.length k3) r.notes) (hk:Keeps (fun q=>q=w.heap.size\/dv.ownBlock=some q) W1 w3) (hm:Jh1 W1 dv dv3)
  {o:Obj} {w4:World} {A4:Option Addr} {c4:Nat} (hown:Ow cRpE 12 35 w4 w.heap.size (.slice A4 (rs ++ [RpE.mk r A3 k3]).length c4) (rs ++ [RpE.mk r A3 k3])) (hg:(w3.alloc o).grownBy w4 (Value.slice A rs.length c).ownBlock) (hat:(Value.slice A4 (rs ++ [RpE.mk r A3 k3]).length c4).ownBlock=(Value.slice A rs.length c).ownBlock\/(Value.slice A4 (rs ++ [RpE.mk r A3 k3]).length c4).ownBlock=some (w3.alloc o).heap.size) :
  RunI w w4 l (m+1) τ Reg' E' sv3 cv3 dv3 A4 c4 (rs ++ [RpE.mk r A3 k3]):=by
 have hal:Below w3.heap.size w3 (w3.alloc o):=zR;have hb3:Below w.heap.size W1 w3:=(h.win.below hB1).keepsB hk;have hBw:Below w.heap.size w w3:=(h.below.trans (hB1.mono h.below.size)).trans hb3;have hpp:∀ q,pW (pR (.slice A4 (rs ++ [RpE.mk r A3 k3]).length c4)) w.heap.size dv3 q->pW (pR (.slice A rs.length c)) w.heap.size dv3 q\/(w3.alloc o).heap.size<=q:=by
  intro q e;rcases e with (e | e) | e
  ·exact e.elim
  ·rcases hat with a | a
   ·exact .inl (.inl (.inr (a▸e)))
   ·rw [a] at e
    injection e with e
    exact .inr (zG7 e)
  ·exact .inl (.inr e)
 refine ⟨(hin.below hal).push hg hat,hst.inv',hown,?_,?_,?_⟩
 ·rw [Jnr hix h.eq,hst.eq,zK0]
  rfl
 ·intro x hx
  rcases zE5.1 hx with hx | hx
  ·have h1:=((h.nt x hx).below hB1).more (p':=fun q=>pW (pR (.slice A rs.length c)) w.heap.size dv q\/pW (pR (.slice A rs.length c)) w.heap.size dv3 q) (fun q e=>by
    rcases e with e | e | e | e
    ·exact .inl e
    ·exact .inl (.inl e)
    ·exact .inl (.inr (.inl e))
    ·rcases hm with a | ⟨q',a,hq'⟩
     ·exact .inl (.inr (.inr (a▸e)))
     ·rw [a] at e
      injection e with e
      exact .inr (e▸hq'))
   have h2:=h1.keeps hk (fun q e=>.inl (.inr e))
   exact SlA.push (v2:=.slice none 0 0) (h2.below hal) (fun q e=>.inl (.inl (.inr e))) hg (fun q e=>(hpp q e).imp .inr id)
  ·obtain rfl:=zE7.1 hx
   exact SlA.push (v2:=.slice none 0 0) (hsn.below hal) (fun q e=>.inl (.inr e)) hg hpp
 ·refine Below.grown (hBw.trans (hal.mono hBw.size)) hg (zB4 hBw.size hal.size) (fun g e=>?_)
  exact (Ow.own_in (h.keep hB1 hk) e).1
theorem run_is (v:Value) (l:List Deed) (w:World) (hl:Sl Jei 13 w v l) (hn:l.length<=300) (hd:∀ d∈l,d.path.size<=4611686018427387904) (ht:TabB w.heap.size w) :
  Calls Tryz.prog 23 #[v] w (fun e w'=>∃ A c rs,e=.returned (.tuple #[.slice A l.length c,.int .i64 0])/\Sl cRpE 12 w' (.slice A l.length c) rs/\rs.map RpE.r=(runW l).2/\(∀ x∈rs,Sl Jbl 3 w' (.slice x.na x.r.notes.length x.nc) x.r.notes)/\Below w.heap.size w w'):=by
 obtain ⟨A0,c0,rfl,hl1,hl2⟩:=hl.form;have HL:=zA0 hl;have HD:=zA0 hd;have HT:=zA0 ht;have HN:=zA0 (wNew (fun _=>False) w (fun q hq=>hq.elim))
 have hb0:decide ((300:Int)<(l.length:Int))=false:=zA5 qH1;clear hl hd ht;go_enter Tryz.func23,Tryz.ntmps23
 go_upto_region 5 with ((go_at_call 37; refine (HN.out).mono ?_; rintro e w2 ⟨sv,cv,rfl,hin,hb⟩; skip))
 have HR:=zA0 (show RunI w w2 l 0 newW [] 0 sv cv (.slice none 0 0) none 0 [] from ⟨hin.more (fun q e=>by rcases e with e | e; exact .inl e; cases e),new_inv,Ow.nil _ _ _ _ _,rfl,(fun x hx=>by cases hx),hb⟩)
 clear hin hb HN;go_wp2_with fail;go_loopw [5,14] (fun v i wr=>∃ (m:Nat) (σ:Wd) (Reg:List Txn) (E:Int) (sv:Nat->SrvV) (cv:Nat->ClV) (dv:Value) (A:Option Addr) (c:Nat) (rs:List RpE),m<=l.length/\i=.int .i64 m/\v=.slice A rs.length c/\Hid (RunI w wr l m σ Reg E sv cv dv A c rs)) (fun _ i _=>l.length - (intOf i).toNat)
 case atStart=>exact ⟨0,_,_,_,_,_,_,_,_,_,zB7 _,rfl,rfl,HR⟩
 case round=>
  clear HR;obtain ⟨m,σ,Reg,E,sv,cv,dv,A,c,rs,hm,rfl,rfl,hx⟩:=hrel;have hrl:rs.length=m:=by
   have h1:=Jfz (l.take m);rw [hx.out.eq] at h1;simp at h1;omega
  by_cases hlt:m<l.length
  ·have hix:l[m]?=some (l[m]'hlt):=zA4 _
   have hdz:=HD.out _ (zC7 hix);generalize l[m]'hlt=d at hix hdz;obtain ⟨bd,off,hA,hbd,x0,x1,x2,x3,x4,x5,x6,x7,x8,x9,x10,x11,x12⟩:=(HL.out.below hx.out.below).Deed_at hix;subst hA;obtain ⟨τ,r,Reg',E',hst⟩:=Jnh hx.out.inv d;have HST:=zA0 hst;have HIX:=zA0 hix;have HRL:=zA0 hrl;have hm0:(0:Int)<=(m:Int):=qCE;have hml:(m:Int)<(l.length:Int):=qCE;have hb1:decide ((m:Int)<(l.length:Int))=true:=zB2 hml;clear hst hix;go_upto_region 8 with fail
   refine Jaq (fun W1 hW1=>?_)
   have HB1:=zA0 (show Below wr.heap.size wr W1 by rw [hW1.out]; exact zR)
   have HDd:=zA0 (show Bk W1 wr.heap.size (Jei d) 29 by rw [hW1.out]; exact Bk.new _ _ _ rfl)
   have hrw:w.heap.size<=wr.heap.size:=hx.out.below.size;have HDO:=zA0 (wDo _ w.heap.size W1 σ sv cv dv Reg E (hx.out.win.below HB1.out) (fun q e=>by
    rcases e with e | e
    ·exact e.elim
    ·exact (Ow.own_in (hx.out.own.below HB1.out) e).2) hx.out.inv ((HT.out.low hx.out.below).low (HB1.out.mono hrw)) d hdz)
   rw [HST.out.eq] at HDO;unfold DoRes at HDO;have q0:W1.cell? ⟨wr.heap.size,0,none⟩=_:=HDd.out.cell 0;have q1:W1.cell? ⟨wr.heap.size,1,none⟩=_:=HDd.out.cell 1;have q2:W1.cell? ⟨wr.heap.size,2,none⟩=_:=HDd.out.cell 2;have q3:W1.cell? ⟨wr.heap.size,3,none⟩=_:=HDd.out.cell 3;have q4:W1.cell? ⟨wr.heap.size,4,none⟩=_:=HDd.out.cell 4;have q5:W1.cell? ⟨wr.heap.size,5,none⟩=_:=HDd.out.cell 5;have q6:W1.cell? ⟨wr.heap.size,6,none⟩=_:=HDd.out.cell 6;have q7:W1.cell? ⟨wr.heap.size,7,none⟩=_:=HDd.out.cell 7;have q8:W1.cell? ⟨wr.heap.size,8,none⟩=_:=HDd.out.cell 8;have q9:W1.cell? ⟨wr.heap.size,9,none⟩=_:=HDd.out.cell 9;have q10:W1.cell? ⟨wr.heap.size,10,none⟩=_:=HDd.out.cell 10;have q11:W1.cell? ⟨wr.heap.size,11,none⟩=_:=HDd.out.cell 11;have q12:W1.cell? ⟨wr.heap.size,12,none⟩=_:=HDd.out.cell 12;simp only [Jei,zK8,zJ6] at q0 q1 q2 q3 q4 q5 q6 q7 q8 q9 q10 q11 q12;clear hW1 x0 x1 x2 x3 x4 x5 x6 x7 x8 x9 x10 x11 x12 hbd;have HRS:=zA0 (fun (w3:World) (hk:Keeps (fun q=>q=w.heap.size\/dv.ownBlock=some q) W1 w3)=>hx.out.keep HB1.out hk)
   have hsz1:w.heap.size<=W1.heap.size:=zB4 hrw HB1.out.size;have h300:rs.length+1<=300:=qCE;clear hrl;obtain ⟨rc,rz,rpa,rda,⟨s1,s2,s3,s4,s5,s6,s7⟩,rns⟩:=r;simp only [rpV] at HDO;go_wp2_with (first | (go_at_call 38; (with_reducible refine (HDO.out).mono ?_); rintro e w3 ⟨sv3,cv3,dv3,A3,k3,rfl,hin,hsn,hk,hmv⟩; have H3:=zA0 hin; have HS3:=zA0 hsn; have HK3:=zA0 hk; have HM3:=zA0 hmv; have HO3:=zA0 (HRS.out _ hk); have hsz3:=hk.size; clear hin hsn hk hmv) | (at_builtin; refine Jab _ rfl (.tmp 18) (.tmp 22) _ rfl elRp (B:=w.heap.size) (v:=.slice A rs.length c) (l:=rs) (m:=[RpE.mk ⟨rc,rz,rpa,rda,⟨s1,s2,s3,s4,s5,s6,s7⟩,rns⟩ A3 k3]) rfl rfl (by exact (HO3.out.alloc _)) (by exact Sl.one_at cRpE 12 _ _ _ rfl _ rfl qH1 qI1) cRpE_one qm0 qy0 qy0 ?_; intro v4 w4 hown4 hg4 hat4; obtain ⟨A4,c4,rfl,_⟩:=hown4.form; have HR4:=zA0 (hx.out.step HB1.out HIX.out HST.out H3.out HS3.out HK3.out HM3.out hown4 hg4 hat4); clear hown4 hg4 hat4))
   go_roundw
   case rel=>exact ⟨m+1,_,_,_,_,_,_,_,_,_,by omega,by go_num,by rw [zA9]; rfl,HR4⟩
   case measure=>simp [intOf]; omega
  ·have hme:m=l.length:=by omega
   have hnl:decide ((m:Int)<(l.length:Int))=false:=zA5 qH1;subst hme;have HX:=zA0 hx.out;have HEQ:=zA0 (show rs.map RpE.r=(runW l).2 by have:=hx.out.eq; rw [zF7] at this; rw [this])
   clear hx;go_wp2_with fail;exact zA1 (v:=.tuple #[.slice A rs.length c,.int .i64 0]) (by simp [results,Tryz.results23,go_sem]) rfl ⟨A,c,rs,by rw [hrl],hrl▸HX.out.own.sl,HEQ.out,fun x hx=>(HX.out.nt x hx).1,HX.out.below⟩
end
section
open Go.RowKit Go.ChangeShapes Go.WideShapes Go.ChangeAt Go.Maps
def mapR (v:Value):Option (DataW Value × List MemPlace):=some (.held v,[])
abbrev vT0:Value:=.agg #[.int .i64 0,.int .i64 0,.int .i64 0,.string ByteArray.empty,.string ByteArray.empty,.int .i64 0,.int .i64 0]
abbrev kZ (z:Int):Lit:=.int .i64 z
theorem Jk5:Keyed Tryz.prog 3:=int_keyed Tryz.underlying3
theorem zeroTx (w:World):(zeroValue 39).run Tryz.prog w=.ok vT0 w:=by kernel_rfl
structure MapIn (Reg:List Txn) (D:DataW Value):Prop where
 tidy:Tidy D
 keys:∀ es,D=.map es->∀ p∈es,∃ x∈Reg,p.1=kZ x.zxid
 at_:∀ x∈Reg,has D (kZ x.zxid)=true->∀ zd,D.atKey (kZ x.zxid) zd=.held (vTxn x)
open Classical in
theorem Jlc {α:Type} (key:Txn->Lit):∀ (R:List Txn) (es:List (Lit × α)),es.Pairwise (fun p q=>p.1≠q.1)->(∀ p∈es,∃ x∈R,p.1=key x)->es.length<=R.length
 | [],es,_,h=>by
  cases es with
  | nil=>exact zA3 _
  | cons p r=>obtain ⟨x,hx,_⟩:=h p zG1; cases hx
 | x :: R,es,hp,h=>by
  have h1:=Jlc key R (es.filter (fun p=>decide (p.1≠key x))) (hp.filter _) (fun p hm=>by
   obtain ⟨h2,h3⟩:=zJ9.1 hm;obtain ⟨y,hy,e⟩:=h p h2;rcases zD8.1 hy with rfl | hy
   ·exact absurd e (of_decide_eq_true h3)
   ·exact ⟨y,hy,e⟩)
  have h2:∀ l:List (Lit × α),l.Pairwise (fun p q=>p.1≠q.1)->l.length<=(l.filter (fun p=>decide (p.1≠key x))).length+1:=by
   intro l
   induction l with
   | nil=>intro _; exact zB7 _
   | cons p r ih=>
    intro hl;obtain ⟨a,b⟩:=zG4.1 hl
    by_cases e:p.1=key x
    ·have hr:r.filter (fun p=>decide (p.1≠key x))=r:=List.filter_eq_self.2 (fun q hq=>zB2 (fun e2=>a q hq (e.trans e2.symm)))
     rw [zQ8 (by simp [e]),hr]
     exact zA3 _
    ·rw [zO9 (by simp [e])]
     have:=ih b;simp only [zD4];omega
  have:=h2 es hp;simp only [zD4];omega
theorem MapIn.size {Reg:List Txn} {D:DataW Value} (h:MapIn Reg D):Maps.size D<=Reg.length:=by
 obtain ⟨es,rfl,hp⟩:=h.tidy;rw [size_eq];exact Jlc (fun x=>kZ x.zxid) Reg es hp (h.keys es rfl)
theorem JnS (Reg:List Txn):MapIn Reg (.map []):=⟨tidy_empty,fun es e p hp=>(by cases e; cases hp),fun x _ hh=>(by cases hh)⟩
theorem MapIn.more {Reg Reg':List Txn} {D:DataW Value} (h:MapIn Reg D) (hr:LogP Reg') (hp:Reg <+: Reg'):MapIn Reg' D:=by
 refine ⟨h.tidy,fun es e p hm=>?_,fun x hx hh zd=>?_⟩
 ·obtain ⟨x,hx,e2⟩:=h.keys es e p hm
  exact ⟨x,hp.subset hx,e2⟩
 ·obtain ⟨es,rfl,_⟩:=h.tidy
  rw [has_eq] at hh;obtain ⟨p,hm,hs⟩:=List.any_eq_true.1 hh;obtain ⟨y,hy,e2⟩:=h.keys es rfl p hm;have e3:y.zxid=x.zxid:=by
   rw [e2] at hs
   by_cases e:kZ y.zxid=kZ x.zxid
   ·injection e
   ·rw [sameKey_ne e] at hs
    cases hs
  obtain rfl:=Jj5 hr (hp.subset hy) hx e3;exact h.at_ y hy (by rw [has_eq]; exact hh) zd
theorem keyLit (z:Int):WideAt.IsKeyLit (kZ z):=trivial
theorem MapIn.put {Reg:List Txn} {D:DataW Value} (h:MapIn Reg D) (hr:LogP Reg) {x:Txn} (hx:x∈Reg):MapIn Reg (D.put (kZ x.zxid) (.held (vTxn x))):=by
 have hm:=h.tidy.isMap;refine ⟨h.tidy.put (keyLit _) _,fun es e p hp=>?_,fun y hy hh zd=>?_⟩
 ·obtain ⟨es0,rfl,_⟩:=h.tidy
  have e2:DataW.insert (kZ x.zxid,.held (vTxn x)) (es0.filter fun p=>!p.1.sameKey (kZ x.zxid))=es:=by injection e
  subst e2;rcases zD8.1 ((insert_perm _ _).mem_iff.1 hp) with rfl | hp
  ·exact ⟨x,hx,rfl⟩
  ·exact h.keys es0 rfl p (zJ9.1 hp).1
 ·by_cases e:y.zxid=x.zxid
  ·obtain rfl:=Jj5 hr hy hx e
   exact atKey_put_same hm (keyLit _) _ _
  ·have hne:kZ y.zxid≠kZ x.zxid:=fun e2=>e (by injection e2)
   rw [has_put_other hne] at hh;rw [atKey_put_other hne];exact h.at_ y hy hh zd
theorem tight {w:World} {P:Program} {k:TypeId} {R:Value->Option (DataW Value × List MemPlace)} {b n:Nat} {D:DataW Value} (h:w.ownsMap P k R b n D):w.ownsMap P k R b (Maps.size D) D:=by
 obtain ⟨es,clock,hb,F,_,rfl⟩:=h;refine ⟨es,clock,hb,F,?_,rfl⟩;rw [size_eq,length_read];exact zA3 _
theorem Jd1 {P:Program} (w:World) {ops:Array Oper} {rest:List Oper} {o:Oper} {a:Act} {Q:Exit->Act->World->Prop} (hg:o.guard=none) (m x:Operand) (t:TypeId) (hop:o.op=Op.lookup t m x true)
  (k e:TypeId) (K:Keyed P k) (ht:P.underlying t=some (.map k e)) {z:Value} (hz:(zeroValue e).run P w=.ok z w) (b n:Nat) (D:DataW Value)
  (hm:a.eval m=.map (some b)) (hown:w.ownsMap P k mapR b n D) (key:Value) (kl:Lit) (hx:a.eval x=key) (hkey:keyOf P k key=some kl) (v0:Value) (b0:Bool) (hat:D.atKey kl (.held z)=.held v0) (hh:Maps.has D kl=b0)
  (hK:wpList P ops Q rest (a.put o.dst (.tuple #[v0,.bool b0])) w) :
  wpList P ops Q (o :: rest) a w:=
 wpList_lookup_own_ok w hg m x t hop k e K ht mapR hz (.held z) [] rfl b n D hm hown key kl hx hkey (fun v ps hv=>by
  rw [hat] at hv;injection hv with hv
  injection hv with e1 _
  injection e1 with e1
  rw [e1,hh];exact hK)
end
end Go.Proofs.YtjnooagaghdkdaaGreatDoor

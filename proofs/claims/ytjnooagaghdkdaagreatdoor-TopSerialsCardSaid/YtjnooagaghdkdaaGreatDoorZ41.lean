/-L-/
import Derived.Test.YtjnooagaghdkdaaGreatDoorZ40
set_option maxHeartbeats 10000000
set_option maxRecDepth 100000
set_option linter.all false
namespace Go.Proofs.YtjnooagaghdkdaaGreatDoor
section
open Go.RowKit Go.ChangeShapes Go.WideShapes Go.ChangeAt
abbrev JoL (d:Deed):Value:=.agg #[.int .i64 d.kind,.int .i64 d.client,.int .i64 d.server,.int .i64 d.op,.int .i64 d.session,.string d.path,.string d.data,.int .i64 d.version,.int .i64 d.flags,.int .i64 d.lost,.int .i64 d.slow,.int .i64 d.keep,.bool d.watch]
theorem WIn.putWatch {p0:Nat->Prop} {b:Nat} {w:World} {σ:Wd} {sv:Nat->SrvV} {cv:Nat->ClV} {dv:Value} (h:WIn p0 b w σ sv cv dv) {i:Nat} (hi:i<3) {A:Option Addr} {k:Nat} {ws:List Watch} (hs:SlA (pW p0 b dv) Jal 3 w (.slice A ws.length k) ws) :
  WIn p0 b (w.setCell ⟨b,i*10+9,none⟩ (.slice A ws.length k)) { σ with srv:=σ.srv.set i { σ.s i with watches:=ws } } (fun j=>if i=j then { sv i with wa:=A,wc:=k } else sv j) cv dv:=by
 have hg:=zD9 w b (i*10+9) (.slice A ws.length k);have hr:∀ q,some b=some q->pW p0 b dv q:=fun q e=>.inr (.inl qa0)
 have hS:∀ j,({ σ with srv:=σ.srv.set i { σ.s i with watches:=ws } }:Wd).s j=if i=j then { σ.s i with watches:=ws } else σ.s j:=fun j=>by
  show (σ.srv.set i _).getD j JcQ=_;rw [zE6,zK4,h.n3]
  by_cases e:i=j
  ·subst e
   simp [hi]
  ·simp [e,Wd.s]
 obtain ⟨cs,q⟩:=h.box;refine ⟨by simp [h.n3],h.f3,h.c16,⟨cs.set (i*10+9) _,q.bk.put _ _,by rw [zF4,q.len],?_,?_,?_⟩,?_,?_,h.dn.kept hg h.dnNe,h.bp,h.dp⟩
 ·intro j hj
  rw [hS]
  by_cases e:i=j
  ·subst e
   rw [if_pos rfl,if_pos rfl];exact (q.srv i hi).put (j:=9) (by show 9<10; decide) _
  ·rw [if_neg e,if_neg e]
   refine (q.srv j hj).far ?_ _;show i*10+9<j*10\/j*10+10<=i*10+9;omega
 ·intro j hj
  refine (q.cl j hj).far ?_ _;show i*10+9<30+j*3\/30+j*3+3<=i*10+9;omega
 ·refine q.rest.far ?_ _
  show i*10+9<78\/78+6<=i*10+9;omega
 ·intro j hj
  rw [hS]
  by_cases e:i=j
  ·subst e
   rw [if_pos rfl,if_pos rfl];have o:=(h.srv i hi).own hg hr;exact ⟨o.disk,o.log,o.nodes,o.sess,hs.grow hg hr (fun _=>.inl)⟩
  ·rw [if_neg e,if_neg e]
   exact (h.srv j hj).own hg hr
 ·intro j hj
  exact (h.cl j hj).grow hg hr (fun _=>.inl)
theorem bk_ne {w:World} {g g2:Nat} {p1 p2:List Value} {t1 t2:TypeId} (h:Bk w g p1 t1) (h2:Bk w g2 p2 t2) (ht:t1≠t2):g≠g2:=by
 intro e;subst e;have h1:=h.symm.trans h2;injection h1 with h1
 injection h1 with _ h1
 exact ht h1
theorem Jna {Reg:List Txn} {E:Int} {K:Nat} {σ:Wd} (h:Inv0 Reg E K σ) {i:Nat} (hi:i<3):(σ.s i).watches.length<=300:=by
 rcases h.srv i hi with u | u
 ·exact zB5 u.wl h.k300
 ·rw [u.eq]
  exact zB9 _
theorem wRead (p0:Nat->Prop) (b:Nat) (w:World) (σ:Wd) (sv:Nat->SrvV) (cv:Nat->ClV) (dv:Value) (Reg:List Txn) (E:Int) (K:Nat) (h:WIn p0 b w σ sv cv dv) (hp0:∀ q,p0 q->q<w.heap.size) (hI:Inv0 Reg E K σ) (d:Deed) (hpz:d.path.size<=9223372036854775807) :
  Calls Tryz.prog 51 #[.pointer (some ⟨b,0,none⟩),JoL d] w (DoRes p0 b dv (JcY σ d).1 (JcY σ d).2 w):=by
 have hltb:b<w.heap.size:=h.lt;have H:=zA0 (h.more (p1:=fun q=>(fun q=>p0 q\/q=w.heap.size) q\/q=w.heap.size+1) (fun q e=>by
  rcases e with (e | e) | e
  ·exact .inl e
  ·exact .inr qH1
  ·exact .inr qH1))
 have HP0:=zA0 hp0;have HI:=zA0 hI;clear h hp0 hI;obtain ⟨dk,dc,ds,dop,dse,dp,dd,dve,dfl,dlo,dsl,dke,dw⟩:=d;simp only at hpz;go_enter Tryz.func51,Tryz.ntmps51
 go_upto_region 1 with fail
 refine Jax (fun W0 hW0=>?_)
 have hB0:Below w.heap.size w W0:=qaE;have H0:=zA0 (H.out.below hB0);have HD0:=zA0 (show Bk W0 w.heap.size [.int .i64 dk,.int .i64 dc,.int .i64 ds,.int .i64 dop,.int .i64 dse,.string dp,.string dd,.int .i64 dve,.int .i64 dfl,.int .i64 dlo,.int .i64 dsl,.int .i64 dke,.bool dw] 29 by rw [hW0.out]; exact Bk.below (Bk.new _ _ _ rfl) zR)
 have HR0:=zA0 (show Bk W0 (w.heap.size+1) rpZ 35 by rw [hW0.out]; exact Bk.new _ _ _ qI1)
 clear hW0 H;have x1:W0.cell? ⟨w.heap.size,1,none⟩=some (.int .i64 dc):=HD0.out.cell 1;have x2:W0.cell? ⟨w.heap.size,2,none⟩=some (.int .i64 ds):=HD0.out.cell 2;have x5:W0.cell? ⟨w.heap.size,5,none⟩=some (.string dp):=HD0.out.cell 5;have x12:W0.cell? ⟨w.heap.size,12,none⟩=some (.bool dw):=HD0.out.cell 12
 by_cases hr:dc<0\/16<=dc\/ds<0\/3<=ds
 ·have HQ:=zA0 (show JcY σ ⟨dk,dc,ds,dop,dse,dp,dd,dve,dfl,dlo,dsl,dke,dw⟩=(σ,rp 3) from if_pos hr)
  have hbt:(decide (dc<0) || decide (16<=dc) || decide (ds<0) || decide (3<=ds))=true:=qXE;clear hr;have hff:∀ j,W0.frozen? ⟨w.heap.size+1,j,none⟩=false:=fun j=>HR0.out.frozen j
  obtain ⟨q0,q1,q2,q3,q4,q5,q6,q7,q8,q9,q10,q11⟩:=zD4 HR0.out;go_wp2_with fail
  all_goals
   refine zA1 (v:=rpV (rp 3) none 0) (by simp [results,Tryz.results51,go_sem,q0,q1,q2,q3,q4,q5,q6,q7,q8,q9,q10,q11]) rfl ?_
   rw [HQ.out];exact DoRes.sub (WIn.reply H0.out (zC6 _) (zC3 hB0) (.inl rfl) (rp 3) none 0 (SlA.nil _ _ _ _) (zD2 _ _ _ _ _ _ _ _ _ _ _ _ _ _)) (fun q e=>.inl e)
 ·obtain ⟨k,hk,rfl⟩:∃ k:Nat,k<16/\dc=(k:Int):=⟨dc.toNat,by omega,by omega⟩
  obtain ⟨i,hi,rfl⟩:∃ i:Nat,i<3/\ds=(i:Int):=⟨ds.toNat,by omega,by omega⟩
  have hb0:decide ((k:Int)<0)=false:=zA7 qH1;have hb1:decide (16<=(k:Int))=false:=zA7 qH1;have hb2:decide ((i:Int)<0)=false:=zA7 qH1;have hb3:decide (3<=(i:Int))=false:=zA7 qH1;have HE:Hid (JcY σ ⟨dk,k,i,dop,dse,dp,dd,dve,dfl,dlo,dsl,dke,dw⟩ =
   if (σ.s i).up=false then (σ,rp 14) else if (σ.s i).tz<(σ.c k).seen then (σ,rp 15) else
    if dw then if addE (σ.s i).watches ⟨(σ.c k).session,1,dp⟩≠0 then (σ,rp (addE (σ.s i).watches ⟨(σ.c k).session,1,dp⟩))
     else ({ σ with srv:=σ.srv.set i { σ.s i with watches:=addL (σ.s i).watches ⟨(σ.c k).session,1,dp⟩ },cl:=σ.cl.set k ⟨(σ.c k).session,(σ.s i).tz,JeZ (σ.c k).cache ⟨dp,(getN (σ.s i).nodes dp).data,decide (getE (σ.s i).nodes dp=0)⟩⟩ },⟨getE (σ.s i).nodes dp,(σ.s i).tz,(getN (σ.s i).nodes dp).path,(getN (σ.s i).nodes dp).data,stOf (getN (σ.s i).nodes dp),[]⟩)
    else ({ σ with cl:=σ.cl.set k ⟨(σ.c k).session,(σ.s i).tz,(σ.c k).cache⟩ },⟨getE (σ.s i).nodes dp,(σ.s i).tz,(getN (σ.s i).nodes dp).path,(getN (σ.s i).nodes dp).data,stOf (getN (σ.s i).nodes dp),[]⟩)):=zA0 (by
   unfold JcY;rw [if_neg hr];simp only [zG9])
  clear hr;have g0:(0:Int)<=(k:Int):=qCE;have g1:(k:Int)<16:=qCE;have g2:(0:Int)<=(i:Int):=qCE;have g3:(i:Int)<3:=qCE;go_upto_region 3 with fail
  go_region;refine Ja3 (fun W1 hW1=>?_)
  have hB1:Below W0.heap.size W0 W1:=qNE;have H1:=zA0 (H0.out.below hB1);have HD1:=zA0 (HD0.out.below hB1);have HR1:=zA0 (HR0.out.below hB1);have hbB1:=zA0 (zB8 hB0 hB1);clear hW1 H0 HD0 HR0 hB0 hB1 x1 x2 x5 x12 hb0 hb1 hb2 hb3;have x1:W1.cell? ⟨w.heap.size,1,none⟩=some (.int .i64 (k:Int)):=HD1.out.cell 1;have x5:W1.cell? ⟨w.heap.size,5,none⟩=some (.string dp):=HD1.out.cell 5;have x12:W1.cell? ⟨w.heap.size,12,none⟩=some (.bool dw):=HD1.out.cell 12;obtain ⟨c0,c1,c2,c3,c4,c5,c6,c7,c8,c9⟩:=H1.out.srvCells hi;have hlt1:b<W1.heap.size:=H1.out.lt
  by_cases hu:(σ.s i).up=false
  ·have HQ:=zA0 (HE.out.trans (if_pos hu))
   rw [hu] at c0;clear HE hu;have hff:∀ j,W1.frozen? ⟨w.heap.size+1,j,none⟩=false:=fun j=>HR1.out.frozen j
   obtain ⟨q0,q1,q2,q3,q4,q5,q6,q7,q8,q9,q10,q11⟩:=zD4 HR1.out;go_wp2_with fail;refine zA1 (v:=rpV (rp 14) none 0) (by simp [results,Tryz.results51,go_sem,q0,q1,q2,q3,q4,q5,q6,q7,q8,q9,q10,q11]) rfl ?_
   rw [HQ.out];exact DoRes.sub (WIn.reply H1.out (zC6 _) (zC3 hbB1.out) (.inl rfl) (rp 14) none 0 (SlA.nil _ _ _ _) (zD2 _ _ _ _ _ _ _ _ _ _ _ _ _ _)) (fun q e=>.inl e)
  have hu':(σ.s i).up=true:=by simpa using hu
  rw [hu'] at c0;have HE2:=zA0 (HE.out.trans (if_neg hu));clear HE hu hu';go_upto_region 6 with fail
  obtain ⟨e0,e1,e2⟩:=H1.out.clCells hk;have hlen:=zB5 (HI.out.cl k hk).len HI.out.k300
  by_cases hz:(σ.s i).tz<(σ.c k).seen
  ·have HQ:=zA0 (HE2.out.trans (if_pos hz))
   have HSN:=zA0 (fun (W:World)=>clSee_no (σ.c k).session (σ.c k).seen (σ.s i).tz W (cv k).a (σ.c k).cache.length (cv k).c hz)
   clear HE2 hz;go_cut [6,7] from 42 to 57 (fun s6 s7 wx=>∃ g:Nat,s6=.pointer (some ⟨g,0,none⟩)/\s7=.int .i64 15/\Below W1.heap.size W1 wx)
   case first=>
    refine wp_region_noPanic ?_;refine zD8 qE1 (fun W hW=>?_)
    have cl0:W.cell? ⟨b,30+k*3,none⟩=some (.int .i64 (σ.c k).session):=qAE;have cl1:W.cell? ⟨b,30+k*3+1,none⟩=some (.int .i64 (σ.c k).seen):=qAE;have cl2:W.cell? ⟨b,30+k*3+2,none⟩=some (.slice (cv k).a (σ.c k).cache.length (cv k).c):=qAE;have cl3:W.cell? ⟨b,i*10+6,none⟩=some (.int .i64 (σ.s i).tz):=qAE;have cl4:W.cell? ⟨w.heap.size,1,none⟩=some (.int .i64 (k:Int)):=qAE;have hWs1:W.heap.size=W1.heap.size:=qWE;have hW1W:Below W1.heap.size W1 W:=qIE;have hbW:b<W.heap.size:=qCE;refine JaD (fun w'=>w'.cell? ⟨b,30+k*3,none⟩=some (.int .i64 (σ.c k).session)/\w'.cell? ⟨b,30+k*3+1,none⟩=some (.int .i64 (σ.c k).seen)/\w'.cell? ⟨b,30+k*3+2,none⟩=some (.slice (cv k).a (σ.c k).cache.length (cv k).c)/\w'.cell? ⟨b,i*10+6,none⟩=some (.int .i64 (σ.s i).tz)/\w'.cell? ⟨w.heap.size,1,none⟩=some (.int .i64 (k:Int))) (fun i=>i == 17) (by (try dsimp only); (refine ⟨?_,?_,?_,?_,?_⟩ <;> go_simp)) (fun hHeld=>?_)
    refine tpP 0 ?_;refine tpP 1 ?_;refine tpA 2 ?_;refine tpP 3 ?_;refine tpP 4 ?_;refine tpP 5 ?_;refine tpA 6 ?_;refine tpP 7 ?_;refine tpP 8 ?_;refine tpP 9 ?_;refine tpP 10 ?_;refine tpA 11 ?_;refine zB1 (rs:=[12,16]) qE1 qI1 ?_;refine zB4 qQ0 (fun K hK=>?gO1_13) ?gL1_13
    case gO1_13=>
     go_simp
     (go_at_call 76; (with_reducible refine (HSN.out _).mono ?_); rintro e w3 ⟨rfl,hb3⟩; obtain ⟨ext3,d3,rfl⟩:=zA2 _ hb3; clear hb3)
     refine hK.out _ _ ?gT1_13 (fun hHeld=>?_)
     case gT1_13=>((try dsimp only); (refine ⟨?_,?_,?_,?_,?_⟩ <;> go_simp))
     clear hK K
     try simp only [Act.put,zA6,zA4,zA5]
     refine tpP 13 ?_;refine tpP 14 ?_;refine tpP 15 ?_;refine zB1 (rs:=[16]) qE1 qI1 ?_;refine zB4 qQ0 (fun K hK=>?_) zB2
     go_simp;refine hK.out _ _ ?gT1_17 (fun hHeld=>?_)
     case gT1_17=>((try dsimp only); (refine ⟨?_,?_,?_,?_,?_⟩ <;> go_simp))
     clear hK K
     try simp only [Act.put,zA6,zA4,zA5]
     refine zB1 (rs:=[17]) qE1 qI1 ?_;refine zC8 qQ0 qE1 (fun K hK=>?_) zB2
     go_simp;refine hK.out _ _ ?_;clear hK K
     try simp only [Act.put,zA6,zA4,zA5]
     refine tpQ 18 ?_;refine zC4 qE1 ?_ _;refine NoPanic.normal ?_;go_wp2_with fail;go_meet;exact ⟨_,rfl,rfl,zB8 hW1W zR⟩
    refine zB4 qQ0 (fun K hK=>?gO1_20) ?gL1_20
    case gO1_20=>
     go_simp;refine hK.out _ _ ?gT1_20 (fun hHeld=>?_)
     case gT1_20=>((try dsimp only); (refine ⟨?_,?_,?_,?_,?_⟩ <;> go_simp))
     clear hK K
     try simp only [Act.put,zA6,zA4,zA5]
     refine zB1 (rs:=[12]) qE1 qI1 ?_;refine zB4 qQ0 (fun K hK=>?_) zB2
     go_simp
     (go_at_call 76; (with_reducible refine (HSN.out _).mono ?_); rintro e w3 ⟨rfl,hb3⟩; obtain ⟨ext3,d3,rfl⟩:=zA2 _ hb3; clear hb3)
     refine hK.out _ _ ?gT1_21 (fun hHeld=>?_)
     case gT1_21=>((try dsimp only); (refine ⟨?_,?_,?_,?_,?_⟩ <;> go_simp))
     clear hK K
     try simp only [Act.put,zA6,zA4,zA5]
     refine tpP 13 ?_;refine tpP 14 ?_;refine tpP 15 ?_;refine zB1 (rs:=[17]) qE1 qI1 ?_;refine zC8 qQ0 qE1 (fun K hK=>?_) zB2
     go_simp;refine hK.out _ _ ?_;clear hK K
     try simp only [Act.put,zA6,zA4,zA5]
     refine tpQ 18 ?_;refine zC4 qE1 ?_ _;refine NoPanic.normal ?_;go_wp2_with fail;go_meet;exact ⟨_,rfl,rfl,zB8 hW1W zR⟩
    exact zB2
   case rest=>
    obtain ⟨g,rfl,rfl,hb6⟩:=hcut;obtain ⟨W6,rfl⟩:∃ W,W=wc:=⟨_,rfl⟩;have H6:=zA0 (H1.out.below hb6);have HR6:=zA0 (HR1.out.below hb6);have hbB6:=zA0 (zB8 hbB1.out hb6);clear hb6 H1 HR1 hbB1 c0 c1 c2 c3 c4 c5 c6 c7 c8 c9 e0 e1 e2 x1 x5 x12 HSN;have hff:∀ j,W6.frozen? ⟨w.heap.size+1,j,none⟩=false:=fun j=>HR6.out.frozen j
    obtain ⟨q0,q1,q2,q3,q4,q5,q6,q7,q8,q9,q10,q11⟩:=zD4 HR6.out;go_wp2_with fail;refine zA1 (v:=rpV (rp 15) none 0) (by simp [results,Tryz.results51,go_sem,q0,q1,q2,q3,q4,q5,q6,q7,q8,q9,q10,q11]) rfl ?_
    rw [HQ.out];exact DoRes.sub (WIn.reply H6.out (zC6 _) (zC3 hbB6.out) (.inl rfl) (rp 15) none 0 (SlA.nil _ _ _ _) (zD2 _ _ _ _ _ _ _ _ _ _ _ _ _ _)) (fun q e=>.inl e)
  ·have HE3:=zA0 (HE2.out.trans (if_neg hz))
   have hlo1:=zA0 (H1.out.low (fun q hq=>by
    have h1:=hbB1.out.size;have h2:=HR1.out.lt;rcases hq with (hq | hq) | hq
    ·have:=HP0.out q hq; omega
    ·omega
    ·omega))
   have HCL1:=zA0 (H1.out.cl k hk);have HSE:=zA0 (fun (W:World) (h:Sl Jae 3 W (.slice (cv k).a (σ.c k).cache.length (cv k).c) (σ.c k).cache)=>wSee (σ.c k).session (σ.c k).seen (σ.s i).tz _ (σ.c k).cache W h qH1 qs0 hz)
   clear HE2 hz;go_cut [6,7] from 42 to 57 (fun s6 s7 wx=>∃ (g:Nat) (A6:Option Addr) (k6:Nat),s6=.pointer (some ⟨g,0,none⟩)/\s7=.int .i64 0/\W1.heap.size<=g/\Below W1.heap.size W1 wx/\Hid (Bk wx g [.int .i64 (σ.c k).session,.int .i64 (σ.s i).tz,.slice A6 (σ.c k).cache.length k6] 51)/\Hid (SlA (pW (fun q=>(fun q=>p0 q\/q=w.heap.size) q\/q=w.heap.size+1) b dv) Jae 3 wx (.slice A6 (σ.c k).cache.length k6) (σ.c k).cache))
   case first=>
    refine wp_region_noPanic ?_;refine zD8 qE1 (fun W hW=>?_)
    have cl0:W.cell? ⟨b,30+k*3,none⟩=some (.int .i64 (σ.c k).session):=qAE;have cl1:W.cell? ⟨b,30+k*3+1,none⟩=some (.int .i64 (σ.c k).seen):=qAE;have cl2:W.cell? ⟨b,30+k*3+2,none⟩=some (.slice (cv k).a (σ.c k).cache.length (cv k).c):=qAE;have cl3:W.cell? ⟨b,i*10+6,none⟩=some (.int .i64 (σ.s i).tz):=qAE;have cl4:W.cell? ⟨w.heap.size,1,none⟩=some (.int .i64 (k:Int)):=qAE;have hWs1:W.heap.size=W1.heap.size:=qWE;have hW1W:Below W1.heap.size W1 W:=qIE;have hbW:b<W.heap.size:=qCE;have HCW:=zA0 (HCL1.out.1.below hW1W);refine JaD (fun w'=>w'.cell? ⟨b,30+k*3,none⟩=some (.int .i64 (σ.c k).session)/\w'.cell? ⟨b,30+k*3+1,none⟩=some (.int .i64 (σ.c k).seen)/\w'.cell? ⟨b,30+k*3+2,none⟩=some (.slice (cv k).a (σ.c k).cache.length (cv k).c)/\w'.cell? ⟨b,i*10+6,none⟩=some (.int .i64 (σ.s i).tz)/\w'.cell? ⟨w.heap.size,1,none⟩=some (.int .i64 (k:Int))) (fun i=>i == 17) (by (try dsimp only); (refine ⟨?_,?_,?_,?_,?_⟩ <;> go_simp)) (fun hHeld=>?_)
    refine tpP 0 ?_;refine tpP 1 ?_;refine tpA 2 ?_;refine tpP 3 ?_;refine tpP 4 ?_;refine tpP 5 ?_;refine tpA 6 ?_;refine tpP 7 ?_;refine tpP 8 ?_;refine tpP 9 ?_;refine tpP 10 ?_;refine tpA 11 ?_;refine zB1 (rs:=[12,16]) qE1 qI1 ?_;refine zB4 qQ0 (fun K hK=>?gO2_13) ?gL2_13
    case gO2_13=>
     go_simp
     (go_at_call 76; (with_reducible refine (HSE.out _ (HCW.out.below zR)).mono ?_); rintro e w3 ⟨A6,k6,rfl,ho3,hb3⟩; obtain ⟨ext3,d3,rfl⟩:=zA2 _ hb3; have HO3:=zA0 ho3; clear ho3 hb3)
     refine hK.out _ _ ?gT2_13 (fun hHeld=>?_)
     case gT2_13=>((try dsimp only); (refine ⟨?_,?_,?_,?_,?_⟩ <;> go_simp))
     clear hK K
     try simp only [Act.put,zA6,zA4,zA5]
     refine tpP 13 ?_;refine tpP 14 ?_;refine tpP 15 ?_;refine zB1 (rs:=[16]) qE1 qI1 ?_;refine zB4 qQ0 (fun K hK=>?_) zB2
     go_simp;refine hK.out _ _ ?gT2_17 (fun hHeld=>?_)
     case gT2_17=>((try dsimp only); (refine ⟨?_,?_,?_,?_,?_⟩ <;> go_simp))
     clear hK K
     try simp only [Act.put,zA6,zA4,zA5]
     refine zB1 (rs:=[17]) qE1 qI1 ?_;refine zC8 qQ0 qE1 (fun K hK=>?_) zB2
     go_simp;refine hK.out _ _ ?_;clear hK K
     try simp only [Act.put,zA6,zA4,zA5]
     refine tpQ 18 ?_;refine zC4 qE1 ?_ _;refine NoPanic.normal ?_;go_wp2_with fail;go_meet;refine ⟨_,A6,k6,rfl,rfl,?_,?_,zA0 ?b2_19,zA0 ?n2_19⟩
     ·first | omega | (simp <;> omega)
     ·exact zB8 hW1W zR
     case b2_19=>first | exact Bk.new _ _ _ qC1 | exact (Bk.new W _ _ hWs1.symm).below zR | exact (Bk.new (grow W ext3 d3) _ _ qC1).below zR
     case n2_19=>
      refine (Ow.moved (W':=?w92_19) (d':=?x92_19) HO3.out (zA3 _) ?b92_19 ?z92_19).sla (fun q hq=>by have:=hlo1.out q hq; simp <;> omega)
      case b92_19=>exact zR
      case z92_19=>simp
    refine zB4 qQ0 (fun K hK=>?gO2_20) ?gL2_20
    case gO2_20=>
     go_simp;refine hK.out _ _ ?gT2_20 (fun hHeld=>?_)
     case gT2_20=>((try dsimp only); (refine ⟨?_,?_,?_,?_,?_⟩ <;> go_simp))
     clear hK K
     try simp only [Act.put,zA6,zA4,zA5]
     refine zB1 (rs:=[12]) qE1 qI1 ?_;refine zB4 qQ0 (fun K hK=>?_) zB2
     go_simp
     (go_at_call 76; (with_reducible refine (HSE.out _ (HCW.out.below zR)).mono ?_); rintro e w3 ⟨A6,k6,rfl,ho3,hb3⟩; obtain ⟨ext3,d3,rfl⟩:=zA2 _ hb3; have HO3:=zA0 ho3; clear ho3 hb3)
     refine hK.out _ _ ?gT2_21 (fun hHeld=>?_)
     case gT2_21=>((try dsimp only); (refine ⟨?_,?_,?_,?_,?_⟩ <;> go_simp))
     clear hK K
     try simp only [Act.put,zA6,zA4,zA5]
     refine tpP 13 ?_;refine tpP 14 ?_;refine tpP 15 ?_;refine zB1 (rs:=[17]) qE1 qI1 ?_;refine zC8 qQ0 qE1 (fun K hK=>?_) zB2
     go_simp;refine hK.out _ _ ?_;clear hK K
     try simp only [Act.put,zA6,zA4,zA5]
     refine tpQ 18 ?_;refine zC4 qE1 ?_ _;refine NoPanic.normal ?_;go_wp2_with fail;go_meet;refine ⟨_,A6,k6,rfl,rfl,?_,?_,zA0 ?b2_26,zA0 ?n2_26⟩
     ·first | omega | (simp <;> omega)
     ·exact zB8 hW1W zR
     case b2_26=>first | exact Bk.new _ _ _ qC1 | exact (Bk.new W _ _ hWs1.symm).below zR | exact (Bk.new (grow W ext3 d3) _ _ qC1).below zR
     case n2_26=>
      refine (Ow.moved (W':=?w92_26) (d':=?x92_26) HO3.out (zA3 _) ?b92_26 ?z92_26).sla (fun q hq=>by have:=hlo1.out q hq; simp <;> omega)
      case b92_26=>exact zR
      case z92_26=>simp
    exact zB2
   case rest=>
    obtain ⟨g,A6,k6,rfl,rfl,hgg,hb6,HBX6,HSL6⟩:=hcut;have hgw:w.heap.size<=g:=by have:=hbB1.out.size; omega
    obtain ⟨W6,rfl⟩:∃ W,W=wc:=⟨_,rfl⟩;have H6:=zA0 (H1.out.below hb6);have H6g:=zA0 ((H1.out.more (p1:=fun q=>((fun q=>p0 q\/q=w.heap.size) q\/q=w.heap.size+1)\/q=g) (fun q e=>e.imp id (fun e=>by omega))).below hb6)
    have HD6:=zA0 (HD1.out.below hb6);have HR6:=zA0 (HR1.out.below hb6);have hbB6:=zA0 (zB8 hbB1.out hb6);have hlo6:=zA0 (fun q hq=>zD0 (hlo1.out q hq) hb6.size)
    clear hb6 H1 HR1 HD1 hbB1 hlo1 c0 c1 c2 c3 c4 c5 c6 c7 c8 c9 e0 e1 e2 x1 x5 x12 HSE HCL1 hlt1;have x1:W6.cell? ⟨w.heap.size,1,none⟩=some (.int .i64 (k:Int)):=HD6.out.cell 1;have x5:W6.cell? ⟨w.heap.size,5,none⟩=some (.string dp):=HD6.out.cell 5;have x12:W6.cell? ⟨w.heap.size,12,none⟩=some (.bool dw):=HD6.out.cell 12;have hnl:=Jjh HI.out hi;have HGT:=zA0 (fun (W:World) (h:Sl Jab 9 W (.slice (sv i).na (σ.s i).nodes.length (sv i).nc) (σ.s i).nodes)=>Jl4 (σ.s i).tz _ (sv i).sa (σ.s i).sess.length (sv i).sc (σ.s i).nodes dp W h qH1)
    cases dw with
    | false=>
     have HQ:=zA0 (HE3.out.trans (if_neg qG1));clear HE3;generalize getN (σ.s i).nodes dp=N at *;generalize getE (σ.s i).nodes dp=NE at *;obtain ⟨np,nd,n1,n2,n3,n4,n5,n6,n7⟩:=N;obtain ⟨c0,c1,c2,c3,c4,c5,c6,c7,c8,c9⟩:=H6.out.srvCells hi;have hlt6:b<W6.heap.size:=H6.out.lt;have hltx6:w.heap.size<W6.heap.size:=HD6.out.lt;have HND6:=zA0 (H6.out.srv i hi).nodes.1;go_upto_region 14 with fail
     go_cut [10,7] from 86 to 96 (fun s10 s7 wx=>∃ g2:Nat,s10=.pointer (some ⟨g2,0,none⟩)/\s7=.int .i64 NE/\Below W6.heap.size W6 wx/\Hid (Bk wx g2 [.string np,.string nd,.int .i64 n1,.int .i64 n2,.int .i64 n3,.int .i64 n4,.int .i64 n5,.int .i64 n6,.int .i64 n7] 75))
     case first=>
      refine wp_region_noPanic ?_;refine zD8 qE1 (fun W hW=>?_)
      have cl0:W.cell? ⟨b,i*10+6,none⟩=some (.int .i64 (σ.s i).tz):=qAE;have cl1:W.cell? ⟨b,i*10+7,none⟩=some (.slice (sv i).na (σ.s i).nodes.length (sv i).nc):=qAE;have cl2:W.cell? ⟨b,i*10+8,none⟩=some (.slice (sv i).sa (σ.s i).sess.length (sv i).sc):=qAE;have cl3:W.cell? ⟨w.heap.size,5,none⟩=some (.string dp):=qAE;have hWs1:W.heap.size=W6.heap.size:=qWE;have hW1W:Below W6.heap.size W6 W:=qIE;have hbW:b<W.heap.size:=qCE;have HNW:=zA0 (HND6.out.below hW1W);refine JaD (fun w'=>w'.cell? ⟨b,i*10+6,none⟩=some (.int .i64 (σ.s i).tz)/\w'.cell? ⟨b,i*10+7,none⟩=some (.slice (sv i).na (σ.s i).nodes.length (sv i).nc)/\w'.cell? ⟨b,i*10+8,none⟩=some (.slice (sv i).sa (σ.s i).sess.length (sv i).sc)/\w'.cell? ⟨w.heap.size,5,none⟩=some (.string dp)) (fun i=>i == 12) (by (try dsimp only); (refine ⟨?_,?_,?_,?_⟩ <;> go_simp)) (fun hHeld=>?_)
      refine tpP 0 ?_;refine tpP 1 ?_;refine tpP 2 ?_;refine tpA 3 ?_;refine tpP 4 ?_;refine tpP 5 ?_;refine tpA 6 ?_;refine zB1 (rs:=[7,11]) qE1 qI1 ?_;refine zB4 qQ0 (fun K hK=>?gO3_8) ?gL3_8
      case gO3_8=>
       go_simp
       (go_at_call 78; (with_reducible refine (HGT.out _ (HNW.out.below zR)).mono ?_); rintro e w3 ⟨rfl,hb3⟩; obtain ⟨ext3,d3,rfl⟩:=zA2 _ hb3; clear hb3)
       refine hK.out _ _ ?gT3_8 (fun hHeld=>?_)
       case gT3_8=>((try dsimp only); (refine ⟨?_,?_,?_,?_⟩ <;> go_simp))
       clear hK K
       try simp only [Act.put,zA6,zA4,zA5]
       refine tpP 8 ?_;refine tpP 9 ?_;refine tpP 10 ?_;refine zB1 (rs:=[11]) qE1 qI1 ?_;refine zB4 qQ0 (fun K hK=>?_) zB2
       go_simp;refine hK.out _ _ ?gT3_12 (fun hHeld=>?_)
       case gT3_12=>((try dsimp only); (refine ⟨?_,?_,?_,?_⟩ <;> go_simp))
       clear hK K
       try simp only [Act.put,zA6,zA4,zA5]
       refine zB1 (rs:=[12]) qE1 qI1 ?_;refine zC8 qQ0 qE1 (fun K hK=>?_) zB2
       go_simp;refine hK.out _ _ ?_;clear hK K
       try simp only [Act.put,zA6,zA4,zA5]
       refine tpQ 13 ?_;refine zC4 qE1 ?_ _;refine NoPanic.normal ?_;go_wp2_with fail;go_meet;refine ⟨_,rfl,rfl,?_,zA0 ?b3_14⟩
       ·exact zB8 hW1W zR
       case b3_14=>first | exact Bk.new _ _ _ qC1 | exact (Bk.new W _ _ hWs1.symm).below zR | exact (Bk.new (grow W ext3 d3) _ _ qC1).below zR
      refine zB4 qQ0 (fun K hK=>?gO3_15) ?gL3_15
      case gO3_15=>
       go_simp;refine hK.out _ _ ?gT3_15 (fun hHeld=>?_)
       case gT3_15=>((try dsimp only); (refine ⟨?_,?_,?_,?_⟩ <;> go_simp))
       clear hK K
       try simp only [Act.put,zA6,zA4,zA5]
       refine zB1 (rs:=[7]) qE1 qI1 ?_;refine zB4 qQ0 (fun K hK=>?_) zB2
       go_simp
       (go_at_call 78; (with_reducible refine (HGT.out _ (HNW.out.below zR)).mono ?_); rintro e w3 ⟨rfl,hb3⟩; obtain ⟨ext3,d3,rfl⟩:=zA2 _ hb3; clear hb3)
       refine hK.out _ _ ?gT3_16 (fun hHeld=>?_)
       case gT3_16=>((try dsimp only); (refine ⟨?_,?_,?_,?_⟩ <;> go_simp))
       clear hK K
       try simp only [Act.put,zA6,zA4,zA5]
       refine tpP 8 ?_;refine tpP 9 ?_;refine tpP 10 ?_;refine zB1 (rs:=[12]) qE1 qI1 ?_;refine zC8 qQ0 qE1 (fun K hK=>?_) zB2
       go_simp;refine hK.out _ _ ?_;clear hK K
       try simp only [Act.put,zA6,zA4,zA5]
       refine tpQ 13 ?_;refine zC4 qE1 ?_ _;refine NoPanic.normal ?_;go_wp2_with fail;go_meet;refine ⟨_,rfl,rfl,?_,zA0 ?b3_21⟩
       ·exact zB8 hW1W zR
       case b3_21=>first | exact Bk.new _ _ _ qC1 | exact (Bk.new W _ _ hWs1.symm).below zR | exact (Bk.new (grow W ext3 d3) _ _ qC1).below zR
      exact zB2
     case rest=>
      obtain ⟨g2,rfl,rfl,hb8,HBX8⟩:=hcut;obtain ⟨W8,rfl⟩:∃ W,W=wc:=⟨_,rfl⟩;have H8:=zA0 (H6.out.below hb8);have HD8:=zA0 (HD6.out.below hb8);have HR8:=zA0 (HR6.out.below hb8);have HB8:=zA0 (HBX6.out.below hb8);have HS8:=zA0 (HSL6.out.below hb8);have hbB8:=zA0 (zB8 hbB6.out hb8);clear hb8 H6 HD6 HR6 HBX6 HSL6 hbB6 c0 c1 c2 c3 c4 c5 c6 c7 c8 c9 x1 x5 x12 HGT HND6 hlt6 hltx6 hlo6;have x1:W8.cell? ⟨w.heap.size,1,none⟩=some (.int .i64 (k:Int)):=HD8.out.cell 1;have x12:W8.cell? ⟨w.heap.size,12,none⟩=some (.bool false):=HD8.out.cell 12;have d0:W8.cell? ⟨g,0,none⟩=some (.int .i64 (σ.c k).session):=HB8.out.cell 0;have d1:W8.cell? ⟨g,1,none⟩=some (.int .i64 (σ.s i).tz):=HB8.out.cell 1;have d2:W8.cell? ⟨g,2,none⟩=some (.slice A6 (σ.c k).cache.length k6):=HB8.out.cell 2;have hgW:g<W8.heap.size:=HB8.out.lt;obtain ⟨e0,e1,e2⟩:=H8.out.clCells hk;have hfb:∀ j,W8.frozen? ⟨b,j,none⟩=false:=fun j=>H8.out.frozen j
      have hlt8:b<W8.heap.size:=H8.out.lt;go_upto_region 17 with fail
      go_region;refine Ja3 (fun W9 hW9=>?_)
      obtain ⟨hp1,hp2⟩:=H8.out.putClC hk (c:=⟨(σ.c k).session,(σ.s i).tz,(σ.c k).cache⟩) (v:=⟨A6,k6⟩) HS8.out;have hp3:W8.grownBy W9 (some b):=hW9.out▸hp2.trans (zH6 (Below.drew (zB6 _ _)) b);have H9:=zA0 (show WIn _ b W9 _ _ _ _ from hW9.out▸hp1.below (Below.drew (zB6 _ _)))
      have HR9:=zA0 (HR8.out.grown hp3 (fun e=>by injection e with e; omega))
      have HX9:=zA0 (HBX8.out.grown hp3 (fun e=>by
       injection e with e
       rw [e] at HBX8;obtain ⟨cs,kk⟩:=H8.out.box;have h1:=kk.bk.symm.trans HBX8.out;injection h1 with h1
       injection h1 with h1 h2
       exact absurd h2 qG1))
      have hK9:=zA0 ((zC3 hbB8.out (p:=fun q=>q=b)).trans (zE8 (p:=fun q=>q=b) hp3 (fun q e=>by injection e with e; exact e.symm)) (fun _ _ e=>e) |>.more (q:=fun q=>q=b\/dv.ownBlock=some q\/w.heap.size<=q) (fun k _ e=>.inl e))
      clear hW9 hp1 hp2 hp3 H8 HR8 HBX8 HB8 HS8 hbB8 d0 d1 d2 e0 e1 e2 hfb hlt8 hgW x1 x12 HD8;have c6:W9.cell? ⟨b,i*10+6,none⟩=some (.int .i64 (σ.s i).tz):=(H9.out.srvCells hi).2.2.2.2.2.2.1;have y0:W9.cell? ⟨g2,0,none⟩=some (.string np):=HX9.out.cell 0;have y1:W9.cell? ⟨g2,1,none⟩=some (.string nd):=HX9.out.cell 1;have y2:W9.cell? ⟨g2,2,none⟩=some (.int .i64 n1):=HX9.out.cell 2;have y3:W9.cell? ⟨g2,3,none⟩=some (.int .i64 n2):=HX9.out.cell 3;have y4:W9.cell? ⟨g2,4,none⟩=some (.int .i64 n3):=HX9.out.cell 4;have y5:W9.cell? ⟨g2,5,none⟩=some (.int .i64 n4):=HX9.out.cell 5;have y6:W9.cell? ⟨g2,6,none⟩=some (.int .i64 n5):=HX9.out.cell 6;have y7:W9.cell? ⟨g2,7,none⟩=some (.int .i64 n6):=HX9.out.cell 7;have y8:W9.cell? ⟨g2,8,none⟩=some (.int .i64 n7):=HX9.out.cell 8;have hff:∀ j,W9.frozen? ⟨w.heap.size+1,j,none⟩=false:=fun j=>HR9.out.frozen j
      obtain ⟨q0,q1,q2,q3,q4,q5,q6,q7,q8,q9,q10,q11⟩:=zD4 HR9.out;have hlt9:b<W9.heap.size:=H9.out.lt;go_upto_region 18 with fail
      go_region;go_wp2_with fail;refine zA1 (v:=rpV ⟨NE,(σ.s i).tz,np,nd,⟨n1,n2,n3,n4,n5,n6,n7⟩,[]⟩ none 0) (by simp [results,Tryz.results51,go_sem,q0,q1,q2,q3,q4,q5,q6,q7,q8,q9,q10,q11]) rfl ?_
      rw [HQ.out];exact DoRes.sub (WIn.reply H9.out (zC6 _) hK9.out (.inl rfl) ⟨NE,(σ.s i).tz,np,nd,⟨n1,n2,n3,n4,n5,n6,n7⟩,[]⟩ none 0 (SlA.nil _ _ _ _) ((zD2 _ _ _ _ _ _ _ _ _ _ _ _ _ _).trans (zH6 (Below.drew (zB6 _ _)) _))) (fun q e=>.inl e)
    | true=>
     have hlo6g:=zA0 (H6g.out.low (fun q hq=>by
      have h1:=hbB6.out.size;have h2:=HR6.out.lt;have h3:=HBX6.out.lt;rcases hq with ((hq | hq) | hq) | hq
      ·have:=HP0.out q hq; omega
      ·omega
      ·omega
      ·omega))
     have HE4:=zA0 (HE3.out.trans (if_pos rfl));have hwl:=Jna HI.out hi;have HAD:=zA0 (fun (W:World) (h:Sl Jal 3 W (.slice (sv i).wa (σ.s i).watches.length (sv i).wc) (σ.s i).watches)=>add_any _ (σ.s i).watches ⟨(σ.c k).session,1,dp⟩ W h qH1 hpz)
     unfold WtRes at HAD;clear HE3;generalize addL (σ.s i).watches ⟨(σ.c k).session,1,dp⟩=WL at *;generalize addE (σ.s i).watches ⟨(σ.c k).session,1,dp⟩=AE at *;obtain ⟨c0,c1,c2,c3,c4,c5,c6,c7,c8,c9⟩:=H6.out.srvCells hi;have d0:W6.cell? ⟨g,0,none⟩=some (.int .i64 (σ.c k).session):=HBX6.out.cell 0;have hlt6:b<W6.heap.size:=H6.out.lt;have hltx6:w.heap.size<W6.heap.size:=HD6.out.lt;have hgW6:g<W6.heap.size:=HBX6.out.lt;have HWD6:=zA0 (H6.out.srv i hi).watches.1;go_upto_region 10 with fail
     go_cut [8,9] from 64 to 77 (fun s8 s9 wx=>∃ (A8:Option Addr) (k8:Nat),s8=.slice A8 WL.length k8/\s9=.int .i64 AE/\Below W6.heap.size W6 wx/\Hid (SlA (pW (fun q=>((fun q=>p0 q\/q=w.heap.size) q\/q=w.heap.size+1)\/q=g) b dv) Jal 3 wx (.slice A8 WL.length k8) WL))
     case first=>
      refine wp_region_noPanic ?_;refine zD8 qE1 (fun W hW=>?_)
      have cl0:W.cell? ⟨b,i*10+9,none⟩=some (.slice (sv i).wa (σ.s i).watches.length (sv i).wc):=qAE;have cl1:W.cell? ⟨g,0,none⟩=some (.int .i64 (σ.c k).session):=qAE;have cl2:W.cell? ⟨w.heap.size,5,none⟩=some (.string dp):=qAE;have hWs1:W.heap.size=W6.heap.size:=qWE;have hW1W:Below W6.heap.size W6 W:=qIE;have hbW:b<W.heap.size:=qCE;have HNW:=zA0 (HWD6.out.below hW1W);refine JaD (fun w'=>w'.cell? ⟨b,i*10+9,none⟩=some (.slice (sv i).wa (σ.s i).watches.length (sv i).wc)/\w'.cell? ⟨g,0,none⟩=some (.int .i64 (σ.c k).session)/\w'.cell? ⟨w.heap.size,5,none⟩=some (.string dp)) (fun i=>false) (by (try dsimp only); (refine ⟨?_,?_,?_⟩ <;> go_simp)) (fun hHeld=>?_)
      refine tpP 0 ?_;refine tpP 1 ?_;refine tpP 2 ?_;refine tpA 3 ?_;refine tpP 4 ?_;refine tpA 5 ?_;refine tpP 6 ?_;refine tpP 7 ?_;refine tpA 8 ?_;refine tpP 9 ?_;refine zB1 (rs:=[10]) qE1 qI1 ?_;refine zB4 qQ0 (fun K hK=>?_) zB2
      go_simp
      (go_at_call 77; (with_reducible refine (HAD.out _ (HNW.out.below zR)).mono ?_); rintro e w3 ⟨A8,k8,rfl,ho3,hb3⟩; obtain ⟨ext3,d3,rfl⟩:=zA2 _ hb3; have HO3:=zA0 ho3; clear ho3 hb3)
      refine hK.out _ _ ?gT4_11 (fun hHeld=>?_)
      case gT4_11=>((try dsimp only); (refine ⟨?_,?_,?_⟩ <;> go_simp))
      clear hK K
      try simp only [Act.put,zA6,zA4,zA5]
      refine tpP 11 ?_;refine tpP 12 ?_;refine tpP 13 ?_;refine tpP 14 ?_;refine tpP 15 ?_;refine zC4 qE1 ?_ _;refine NoPanic.normal ?_;go_wp2_with fail;go_meet;refine ⟨A8,k8,rfl,rfl,?_,zA0 ?n4_16⟩
      ·exact zB8 hW1W zR
      case n4_16=>
       refine (Ow.moved (W':=?w94_16) (d':=?x94_16) HO3.out (zA3 _) ?b94_16 ?z94_16).sla (fun q hq=>by have:=hlo6g.out q hq; simp <;> omega)
       case b94_16=>exact zR
       case z94_16=>simp
     case rest=>
      obtain ⟨A8,k8,rfl,rfl,hb7,HSW7⟩:=hcut;obtain ⟨W7,rfl⟩:∃ W,W=wc:=⟨_,rfl⟩;have H7g:=zA0 (H6g.out.below hb7);have H7:=zA0 (H6.out.below hb7);have HD7:=zA0 (HD6.out.below hb7);have HR7:=zA0 (HR6.out.below hb7);have HB7:=zA0 (HBX6.out.below hb7);have HS7:=zA0 (HSL6.out.below hb7);have hbB7:=zA0 (zB8 hbB6.out hb7);clear hb7 H6 H6g HD6 HR6 HBX6 HSL6 hbB6 c0 c1 c2 c3 c4 c5 c6 c7 c8 c9 d0 x1 x5 x12 HAD HWD6 hlt6 hltx6 hgW6
      by_cases hA:AE=0
      ·have HQ:=zA0 (HE4.out.trans (if_neg (fun e=>e hA)))
       subst hA;clear HE4 H7;generalize getN (σ.s i).nodes dp=N at *;generalize getE (σ.s i).nodes dp=NE at *;obtain ⟨np,nd,n1,n2,n3,n4,n5,n6,n7⟩:=N;obtain ⟨c0,c1,c2,c3,c4,c5,c6,c7,c8,c9⟩:=H7g.out.srvCells hi;have hfb:∀ j,W7.frozen? ⟨b,j,none⟩=false:=fun j=>H7g.out.frozen j
       have hlt7:b<W7.heap.size:=H7g.out.lt;go_upto_region 14 with fail
       refine Jax (fun W8 hW8=>?_)
       have hg8:W7.grownBy W8 (some b):=by rw [hW8.out]; exact zD9 _ _ _ _
       have hr8:∀ q,some b=some q->(pW (fun q=>((fun q=>p0 q\/q=w.heap.size) q\/q=w.heap.size+1)\/q=g) b dv) q:=fun q e=>.inr (.inl qa0)
       have H8:=zA0 (show WIn _ b W8 _ _ _ _ from hW8.out▸H7g.out.putWatch hi HSW7.out)
       have hbg:b≠g:=fun e=>H7g.out.bp (.inr e)
       have HD8:=zA0 (HD7.out.grown hg8 (fun e=>by injection e with e; omega))
       have HR8:=zA0 (HR7.out.grown hg8 (fun e=>by injection e with e; omega))
       have HB8:=zA0 (HB7.out.grown hg8 (fun e=>by injection e with e; exact hbg e.symm))
       have HS8:=zA0 (HS7.out.grow hg8 (p':=(pW (fun q=>(fun q=>p0 q\/q=w.heap.size) q\/q=w.heap.size+1) b dv)) (fun q e=>by injection e with e; exact .inr (.inl e.symm)) (fun _=>.inl)).1
       have HND8:=zA0 ((H7g.out.srv i hi).nodes.grow hg8 hr8 (p':=(pW (fun q=>((fun q=>p0 q\/q=w.heap.size) q\/q=w.heap.size+1)\/q=g) b dv)) (fun _=>.inl)).1
       have c6':W8.cell? ⟨b,i*10+6,none⟩=some (.int .i64 (σ.s i).tz):=by rw [hW8.out]; go_simp
       have c7':W8.cell? ⟨b,i*10+7,none⟩=some (.slice (sv i).na (σ.s i).nodes.length (sv i).nc):=by rw [hW8.out]; go_simp
       have c8':W8.cell? ⟨b,i*10+8,none⟩=some (.slice (sv i).sa (σ.s i).sess.length (sv i).sc):=by rw [hW8.out]; go_simp
       have hbB8:=zA0 ((zC3 hbB7.out (p:=fun q=>q=b)).trans (zE8 (p:=fun q=>q=b) hg8 (fun q e=>by injection e with e; exact e.symm)) (fun _ _ e=>e) |>.more (q:=fun q=>q=b\/dv.ownBlock=some q\/w.heap.size<=q) (fun k _ e=>.inl e))
       clear hW8 hg8 hr8 H7g HD7 HR7 HB7 HS7 HSW7 hbB7 c0 c1 c2 c3 c4 c5 c6 c7 c8 c9 hfb hlt7 hlo6g;have x1:W8.cell? ⟨w.heap.size,1,none⟩=some (.int .i64 (k:Int)):=HD8.out.cell 1;have x5:W8.cell? ⟨w.heap.size,5,none⟩=some (.string dp):=HD8.out.cell 5;have x12:W8.cell? ⟨w.heap.size,12,none⟩=some (.bool true):=HD8.out.cell 12;have hlt8:b<W8.heap.size:=H8.out.lt;have hltx8:w.heap.size<W8.heap.size:=HD8.out.lt;go_cut [10,7] from 86 to 96 (fun s10 s7 wx=>∃ g2:Nat,s10=.pointer (some ⟨g2,0,none⟩)/\s7=.int .i64 NE/\Below W8.heap.size W8 wx/\Hid (Bk wx g2 [.string np,.string nd,.int .i64 n1,.int .i64 n2,.int .i64 n3,.int .i64 n4,.int .i64 n5,.int .i64 n6,.int .i64 n7] 75))
       case first=>
        refine wp_region_noPanic ?_;refine zD8 qE1 (fun W hW=>?_)
        have cl0:W.cell? ⟨b,i*10+6,none⟩=some (.int .i64 (σ.s i).tz):=qAE;have cl1:W.cell? ⟨b,i*10+7,none⟩=some (.slice (sv i).na (σ.s i).nodes.length (sv i).nc):=qAE;have cl2:W.cell? ⟨b,i*10+8,none⟩=some (.slice (sv i).sa (σ.s i).sess.length (sv i).sc):=qAE;have cl3:W.cell? ⟨w.heap.size,5,none⟩=some (.string dp):=qAE;have hWs1:W.heap.size=W8.heap.size:=qWE;have hW1W:Below W8.heap.size W8 W:=qIE;have hbW:b<W.heap.size:=qCE;have HNW:=zA0 (HND8.out.below hW1W);refine JaD (fun w'=>w'.cell? ⟨b,i*10+6,none⟩=some (.int .i64 (σ.s i).tz)/\w'.cell? ⟨b,i*10+7,none⟩=some (.slice (sv i).na (σ.s i).nodes.length (sv i).nc)/\w'.cell? ⟨b,i*10+8,none⟩=some (.slice (sv i).sa (σ.s i).sess.length (sv i).sc)/\w'.cell? ⟨w.heap.size,5,none⟩=some (.string dp)) (fun i=>i == 12) (by (try dsimp only); (refine ⟨?_,?_,?_,?_⟩ <;> go_simp)) (fun hHeld=>?_)
        refine tpP 0 ?_;refine tpP 1 ?_;refine tpP 2 ?_;refine tpA 3 ?_;refine tpP 4 ?_;refine tpP 5 ?_;refine tpA 6 ?_;refine zB1 (rs:=[7,11]) qE1 qI1 ?_;refine zB4 qQ0 (fun K hK=>?gO5_8) ?gL5_8
        case gO5_8=>
         go_simp
         (go_at_call 78; (with_reducible refine (HGT.out _ (HNW.out.below zR)).mono ?_); rintro e w3 ⟨rfl,hb3⟩; obtain ⟨ext3,d3,rfl⟩:=zA2 _ hb3; clear hb3)
         refine hK.out _ _ ?gT5_8 (fun hHeld=>?_)
         case gT5_8=>((try dsimp only); (refine ⟨?_,?_,?_,?_⟩ <;> go_simp))
         clear hK K
         try simp only [Act.put,zA6,zA4,zA5]
         refine tpP 8 ?_;refine tpP 9 ?_;refine tpP 10 ?_;refine zB1 (rs:=[11]) qE1 qI1 ?_;refine zB4 qQ0 (fun K hK=>?_) zB2
         go_simp;refine hK.out _ _ ?gT5_12 (fun hHeld=>?_)
         case gT5_12=>((try dsimp only); (refine ⟨?_,?_,?_,?_⟩ <;> go_simp))
         clear hK K
         try simp only [Act.put,zA6,zA4,zA5]
         refine zB1 (rs:=[12]) qE1 qI1 ?_;refine zC8 qQ0 qE1 (fun K hK=>?_) zB2
         go_simp;refine hK.out _ _ ?_;clear hK K
         try simp only [Act.put,zA6,zA4,zA5]
         refine tpQ 13 ?_;refine zC4 qE1 ?_ _;refine NoPanic.normal ?_;go_wp2_with fail;go_meet;refine ⟨_,rfl,rfl,?_,zA0 ?b5_14⟩
         ·exact zB8 hW1W zR
         case b5_14=>first | exact Bk.new _ _ _ qC1 | exact (Bk.new W _ _ hWs1.symm).below zR | exact (Bk.new (grow W ext3 d3) _ _ qC1).below zR
        refine zB4 qQ0 (fun K hK=>?gO5_15) ?gL5_15
        case gO5_15=>
         go_simp;refine hK.out _ _ ?gT5_15 (fun hHeld=>?_)
         case gT5_15=>((try dsimp only); (refine ⟨?_,?_,?_,?_⟩ <;> go_simp))
         clear hK K
         try simp only [Act.put,zA6,zA4,zA5]
         refine zB1 (rs:=[7]) qE1 qI1 ?_;refine zB4 qQ0 (fun K hK=>?_) zB2
         go_simp
         (go_at_call 78; (with_reducible refine (HGT.out _ (HNW.out.below zR)).mono ?_); rintro e w3 ⟨rfl,hb3⟩; obtain ⟨ext3,d3,rfl⟩:=zA2 _ hb3; clear hb3)
         refine hK.out _ _ ?gT5_16 (fun hHeld=>?_)
         case gT5_16=>((try dsimp only); (refine ⟨?_,?_,?_,?_⟩ <;> go_simp))
         clear hK K
         try simp only [Act.put,zA6,zA4,zA5]
         refine tpP 8 ?_;refine tpP 9 ?_;refine tpP 10 ?_;refine zB1 (rs:=[12]) qE1 qI1 ?_;refine zC8 qQ0 qE1 (fun K hK=>?_) zB2
         go_simp;refine hK.out _ _ ?_;clear hK K
         try simp only [Act.put,zA6,zA4,zA5]
         refine tpQ 13 ?_;refine zC4 qE1 ?_ _;refine NoPanic.normal ?_;go_wp2_with fail;go_meet;refine ⟨_,rfl,rfl,?_,zA0 ?b5_21⟩
         ·exact zB8 hW1W zR
         case b5_21=>first | exact Bk.new _ _ _ qC1 | exact (Bk.new W _ _ hWs1.symm).below zR | exact (Bk.new (grow W ext3 d3) _ _ qC1).below zR
        exact zB2
       case rest=>
        obtain ⟨g2,rfl,rfl,hb9,HBX9⟩:=hcut;obtain ⟨W9,rfl⟩:∃ W,W=wc:=⟨_,rfl⟩;have H9:=zA0 (H8.out.below hb9);have HD9:=zA0 (HD8.out.below hb9);have HR9:=zA0 (HR8.out.below hb9);have HB9:=zA0 (HB8.out.below hb9);have HS9:=zA0 (HS8.out.below hb9);have hK9:=zA0 (hbB8.out.trans (zC3 hb9 (p:=fun q=>q=b)) (fun _ _ e=>.inl e))
        have f6:W9.cell? ⟨b,i*10+6,none⟩=some (.int .i64 (σ.s i).tz):=(hb9.cell (p:=⟨b,i*10+6,none⟩) qv0).trans c6';clear hb9 H8 HD8 HR8 HB8 HS8 hbB8 HND8 c6' c7' c8' x1 x5 x12 HGT hlt8 hltx8;have x1:W9.cell? ⟨w.heap.size,1,none⟩=some (.int .i64 (k:Int)):=HD9.out.cell 1;have x5:W9.cell? ⟨w.heap.size,5,none⟩=some (.string dp):=HD9.out.cell 5;have x12:W9.cell? ⟨w.heap.size,12,none⟩=some (.bool true):=HD9.out.cell 12;have d0:W9.cell? ⟨g,0,none⟩=some (.int .i64 (σ.c k).session):=HB9.out.cell 0;have d1:W9.cell? ⟨g,1,none⟩=some (.int .i64 (σ.s i).tz):=HB9.out.cell 1;have d2:W9.cell? ⟨g,2,none⟩=some (.slice A6 (σ.c k).cache.length k6):=HB9.out.cell 2;have hfg:∀ j,W9.frozen? ⟨g,j,none⟩=false:=fun j=>HB9.out.frozen j
        have y1:W9.cell? ⟨g2,1,none⟩=some (.string nd):=HBX9.out.cell 1;have HKP:=zA0 (clKeep (σ.c k).session (σ.s i).tz _ (σ.c k).cache ⟨dp,nd,decide (NE=0)⟩ W9 HS9.out qH1);unfold ClIs at HKP;generalize JeZ (σ.c k).cache ⟨dp,nd,decide (NE=0)⟩=KL at *;have hlo9:=H9.out.low (fun q hq=>by
         have h1:=hK9.out.size;have h2:=HR9.out.lt;have h3:=HB9.out.lt;rcases hq with ((hq | hq) | hq) | hq
         ·have:=HP0.out q hq; omega
         ·omega
         ·omega
         ·omega)
        have HLO9:=zA0 hlo9;clear hlo9;go_upto_region 17 with ((go_at_call 79; refine (HKP.out).mono ?_; rintro e w10 ⟨A9,k9,rfl,ho,hb⟩; obtain ⟨ext4,d4,rfl⟩:=zA2 _ hb; have HO:=zA0 ho; clear ho hb))
        refine Jax (fun W11 hW11=>?_)
        have hgW9:g<W9.heap.size:=HB9.out.lt;have hBc:Below W9.heap.size W9 (grow W9 ext4 d4):=zR;have hWc:W11=(((grow W9 ext4 d4).setCell ⟨g,0,none⟩ (.int .i64 (σ.c k).session)).setCell ⟨g,1,none⟩ (.int .i64 (σ.s i).tz)).setCell ⟨g,2,none⟩ (.slice A9 KL.length k9):=by
         rw [hW11.out];exact (Jgg hgW9 _ _ _ _ _ _).symm
        have hG11:(grow W9 ext4 d4).grownBy W11 (some g):=by rw [hWc]; exact zI9 g [.int .i64 (σ.c k).session,.int .i64 (σ.s i).tz,.slice A9 KL.length k9] 0 _
        have hr11:∀ q,some g=some q->(pW (fun q=>((fun q=>p0 q\/q=w.heap.size) q\/q=w.heap.size+1)\/q=g) b dv) q:=fun q e=>.inl (.inr qa0)
        have H11:=zA0 (((H9.out.below hBc).other hG11 (.inr rfl)).more (p1:=fun q=>(fun q=>p0 q\/q=w.heap.size) q\/q=w.heap.size+1) (fun q e=>.inl (.inl e)))
        have HS11:=zA0 (((HO.out.sla (p:=(pW (fun q=>((fun q=>p0 q\/q=w.heap.size) q\/q=w.heap.size+1)\/q=g) b dv)) HLO9.out).grow hG11 hr11 (fun _=>.inl)).more (p':=(pW (fun q=>(fun q=>p0 q\/q=w.heap.size) q\/q=w.heap.size+1) b dv)) (fun q e=>.inl (by
         rcases e with e | e
         ·exact .inl (.inl e)
         ·exact .inr e)))
        have HB11:=zA0 (show Bk W11 g [.int .i64 (σ.c k).session,.int .i64 (σ.s i).tz,.slice A9 KL.length k9] 51 by
         rw [hWc];exact (((HB9.out.below hBc).put 0 (.int .i64 (σ.c k).session)).put 1 (.int .i64 (σ.s i).tz)).put 2 (.slice A9 KL.length k9))
        have HX11:=zA0 ((HBX9.out.below hBc).grown hG11 (fun e=>bk_ne HBX9.out HB9.out qG1 qD1))
        have HD11:=zA0 ((HD9.out.below hBc).grown hG11 (fun e=>bk_ne HD9.out HB9.out qG1 qD1))
        have HR11:=zA0 ((HR9.out.below hBc).grown hG11 (fun e=>bk_ne HR9.out HB9.out qG1 qD1))
        have hK11:=zA0 ((hK9.out.trans (zC3 hBc (p:=fun q=>q=b)) (fun _ _ e=>.inl e)).trans (zE8 (p:=fun q=>q=g) hG11 (fun q e=>by injection e with e; exact e.symm)) (fun q _ e=>.inr (.inr qH1)))
        have hb9l:b<W9.heap.size:=H9.out.lt;have f11:W11.cell? ⟨b,i*10+6,none⟩=some (.int .i64 (σ.s i).tz):=(Jbz hG11 (b:=b) (zD0 hb9l hBc.size) (fun e=>hbg qD1) (i*10+6)).trans ((hBc.cell (p:=⟨b,i*10+6,none⟩) qv0).trans f6)
        clear hW11 hWc hBc hG11 hr11 HO HKP HLO9 H9 HD9 HR9 HB9 HS9 HBX9 hK9 f6 x1 x5 x12 d0 d1 d2 hfg y1 hgW9 hb9l;have x1:W11.cell? ⟨w.heap.size,1,none⟩=some (.int .i64 (k:Int)):=HD11.out.cell 1;have d0:W11.cell? ⟨g,0,none⟩=some (.int .i64 (σ.c k).session):=HB11.out.cell 0;have d1:W11.cell? ⟨g,1,none⟩=some (.int .i64 (σ.s i).tz):=HB11.out.cell 1;have d2:W11.cell? ⟨g,2,none⟩=some (.slice A9 KL.length k9):=HB11.out.cell 2;have hgW:g<W11.heap.size:=HB11.out.lt;obtain ⟨e0,e1,e2⟩:=H11.out.clCells hk;have hfb:∀ j,W11.frozen? ⟨b,j,none⟩=false:=fun j=>H11.out.frozen j
        have hlt11:b<W11.heap.size:=H11.out.lt;go_region;refine Ja3 (fun W12 hW12=>?_)
        obtain ⟨hp1,hp2⟩:=H11.out.putClC hk (c:=⟨(σ.c k).session,(σ.s i).tz,KL⟩) (v:=⟨A9,k9⟩) HS11.out;have hp3:W11.grownBy W12 (some b):=hW12.out▸hp2.trans (zH6 (Below.drew (zB6 _ _)) b);have H12:=zA0 (show WIn _ b W12 _ _ _ _ from hW12.out▸hp1.below (Below.drew (zB6 _ _)))
        have HR12:=zA0 (HR11.out.grown hp3 (fun e=>by injection e with e; omega))
        have HX12:=zA0 (HX11.out.grown hp3 (fun e=>by
         injection e with e
         obtain ⟨cs,kk⟩:=H11.out.box;exact bk_ne HX11.out kk.bk qG1 e))
        have hK12:=zA0 (hK11.out.trans (zE8 (p:=fun q=>q=b) hp3 (fun q e=>by injection e with e; exact e.symm)) (fun _ _ e=>.inl e))
        have f12:W12.cell? ⟨b,i*10+6,none⟩=some (.int .i64 (σ.s i).tz):=by rw [hW12.out]; go_simp
        clear hW12 hp1 hp2 hp3 H11 HR11 HX11 HB11 HS11 hK11 d0 d1 d2 e0 e1 e2 hfb hlt11 hgW x1 HD11 f11;have y0:W12.cell? ⟨g2,0,none⟩=some (.string np):=HX12.out.cell 0;have y1:W12.cell? ⟨g2,1,none⟩=some (.string nd):=HX12.out.cell 1;have y2:W12.cell? ⟨g2,2,none⟩=some (.int .i64 n1):=HX12.out.cell 2;have y3:W12.cell? ⟨g2,3,none⟩=some (.int .i64 n2):=HX12.out.cell 3;have y4:W12.cell? ⟨g2,4,none⟩=some (.int .i64 n3):=HX12.out.cell 4;have y5:W12.cell? ⟨g2,5,none⟩=some (.int .i64 n4):=HX12.out.cell 5;have y6:W12.cell? ⟨g2,6,none⟩=some (.int .i64 n5):=HX12.out.cell 6;have y7:W12.cell? ⟨g2,7,none⟩=some (.int .i64 n6):=HX12.out.cell 7;have y8:W12.cell? ⟨g2,8,none⟩=some (.int .i64 n7):=HX12.out.cell 8;have hff:∀ j,W12.frozen? ⟨w.heap.size+1,j,none⟩=false:=fun j=>HR12.out.frozen j
        obtain ⟨q0,q1,q2,q3,q4,q5,q6,q7,q8,q9,q10,q11⟩:=zD4 HR12.out;have hlt12:b<W12.heap.size:=H12.out.lt;go_upto_region 18 with fail
        go_region;go_wp2_with fail;refine zA1 (v:=rpV ⟨NE,(σ.s i).tz,np,nd,⟨n1,n2,n3,n4,n5,n6,n7⟩,[]⟩ none 0) (by simp [results,Tryz.results51,go_sem,q0,q1,q2,q3,q4,q5,q6,q7,q8,q9,q10,q11]) rfl ?_
        rw [HQ.out];exact DoRes.sub (WIn.reply H12.out (zC6 _) hK12.out (.inl rfl) ⟨NE,(σ.s i).tz,np,nd,⟨n1,n2,n3,n4,n5,n6,n7⟩,[]⟩ none 0 (SlA.nil _ _ _ _) ((zD2 _ _ _ _ _ _ _ _ _ _ _ _ _ _).trans (zH6 (Below.drew (zB6 _ _)) _))) (fun q e=>.inl e)
      ·have HQ:=zA0 (HE4.out.trans (if_pos hA))
       have b8:(AE == 0)=false:=zB7.2 hA;have b9:(AE != 0)=true:=zC9.2 hA;clear HE4;have hff:∀ j,W7.frozen? ⟨w.heap.size+1,j,none⟩=false:=fun j=>HR7.out.frozen j
       obtain ⟨q0,q1,q2,q3,q4,q5,q6,q7,q8,q9,q10,q11⟩:=zD4 HR7.out;go_wp2_with fail;refine zA1 (v:=rpV (rp AE) none 0) (by simp [results,Tryz.results51,go_sem,q0,q1,q2,q3,q4,q5,q6,q7,q8,q9,q10,q11]) rfl ?_
       rw [HQ.out];exact DoRes.sub (WIn.reply H7.out (zC6 _) (zC3 hbB7.out) (.inl rfl) (rp AE) none 0 (SlA.nil _ _ _ _) (zD2 _ _ _ _ _ _ _ _ _ _ _ _ _ _)) (fun q e=>.inl e)
end
end Go.Proofs.YtjnooagaghdkdaaGreatDoor

/- The law ZabMajority is true for every input; no conditions. -/
import Derived.Test.YtahcmfnpfepimaaMajority
namespace Go.Proofs.Ytahcmfnpfepimaa
open Go.RowKit Go.ChangeShapes Go.WideShapes Go.ChangeAt
theorem zabCommitted0 (A : Option Addr) (c : Nat) (w : World) : Calls Try.prog 38 #[.slice A 0 c] w fun e w' => e = .returned (.int .i64 0) ∧ w = w' := by
  go_enter Try.func38, Try.ntmps38
  go_wp2
  go_ret
  exact ⟨rfl, rfl⟩
def Log.v (p : Log) : Value := .slice p.la p.log.length p.lc
def OwnLogs (w : World) (B : Nat) (v : Value) (l : List Log) : Prop :=
  Ow cLog 1 49 w B v l ∧ ∀ p ∈ l, Ow cTxn 7 72 w B p.v p.log ∧ (p.v.ownBlock = none ∨ p.v.ownBlock ≠ v.ownBlock)
theorem OwnLogs.nil (w : World) (B : Nat) : OwnLogs w B (.slice none 0 0) [] := ⟨Ow.nil _ _ _ _ _, by simp⟩
theorem OwnLogs.below {w w' : World} {B : Nat} {v : Value} {l : List Log} (h : OwnLogs w B v l) (hb : Below w.heap.size w w') : OwnLogs w' B v l := ⟨h.1.below hb, fun p hp => ⟨(h.2 p hp).1.below hb, (h.2 p hp).2⟩⟩
theorem OwnLogs.add {w3 w4 : World} {B By : Nat} {v v' : Value} {l : List Log} {y : Log} (h : OwnLogs w3 B v l) (hy : Ow cTxn 7 72 w3 By y.v y.log) (hB : B ≤ By)
    (hv : ∀ g, v.ownBlock = some g → g < By) (h2 : Ow cLog 1 49 w4 B v' (l ++ [y])) (hg : w3.grownBy w4 v.ownBlock) (hat : v'.ownBlock = v.ownBlock ∨ v'.ownBlock = some w3.heap.size) : OwnLogs w4 B v' (l ++ [y]) := by
  have hall : ∀ p ∈ l ++ [y], Ow cTxn 7 72 w3 B p.v p.log ∧ (p.v.ownBlock = none ∨ p.v.ownBlock ≠ v.ownBlock) := by
    intro p hp
    rcases List.mem_append.1 hp with hp | hp
    · exact h.2 p hp
    · obtain rfl := List.mem_singleton.1 hp
      refine ⟨hy.mono hB, ?_⟩
      cases hb : p.v.ownBlock with
      | none => exact .inl rfl
      | some g =>
        refine .inr fun e => ?_
        have h1 := (hy.block_lt hb).1
        have h2 := hv g e.symm
        omega
  refine ⟨h2, fun p hp => ?_⟩
  obtain ⟨ha, hne⟩ := hall p hp
  refine ⟨ha.kept hg hne, ?_⟩
  rcases hat with e | e
  · rw [e]; exact hne
  · rw [e]
    cases hb : p.v.ownBlock with
    | none => exact .inl rfl
    | some g =>
      refine .inr fun e' => ?_
      injection e' with e'
      have := (ha.block_lt hb).2
      omega
theorem haveN_map {l m : List Log} (h : m.map Log.log = l.map Log.log) (i : Nat) (y : Txn) : haveN m i y = haveN l i y := by
  have key : ∀ q : List Log, haveN q i y = ((q.map Log.log).filter (fun t => hasT t i y)).length := by
    intro q
    unfold haveN
    rw [List.filter_map, List.length_map]
    rfl
  rw [key, key, h]
theorem comIs_map {l m : List Log} (h : m.map Log.log = l.map Log.log) {l0 : List Txn} {n : Nat} (hc : ComIs m l0 n) : ComIs l l0 n :=
  ⟨hc.1, fun i y hi hy => by rw [← haveN_map h]; exact hc.2.1 i y hi hy, fun y hy => by rw [← haveN_map h]; exact hc.2.2 y hy⟩
/-- with the first log twice all of it is committed -/
theorem comIs_twice {l : List Log} {x0 y0 : Log} {n : Nat} (h0 : l[0]? = some x0) (hy : y0.log = x0.log) (hc : ComIs (l ++ [y0]) x0.log n) : n = x0.log.length := by
  apply Classical.byContradiction
  intro hne
  have hlt : n < x0.log.length := by have := hc.1; omega
  have h2 := hc.2.2 _ (List.getElem?_eq_getElem hlt)
  have hx : hasT x0.log n (x0.log[n]'hlt) = true := by unfold hasT; rw [List.getElem?_eq_getElem hlt]; exact sameT_self _
  cases l with
  | nil => simp at h0
  | cons a r =>
    simp at h0
    subst h0
    unfold haveN at h2
    rw [List.cons_append, List.filter_cons, if_pos hx, List.filter_append, List.filter_cons, hy, if_pos hx] at h2
    simp at h2
    omega
theorem step_app {P : Program} {w : World} {ops : Array Oper} {o : Oper} {a : Act} {K : Act → World → Prop} {Q : Exit → Act → World → Prop} {EE : Prop} (hgd : o.guard = none) (sv x : Operand) (t : TypeId)
    (ho : o.op = .call { callee := .builtin .append, args := #[sv, x], argTypes := #[t, t] })
    {α : Type} {f : α → List Value} {s : Nat} {e : TypeId} {z : Value} {bytes : Nat} (E : El P t e z s bytes) {B : Nat} {v xv : Value} {l m : List α}
    (hs : a.eval sv = v) (hx : a.eval x = xv) (hown : Ow f s e w B v l) (hsrc : Sl f s w xv m) (h1 : ∀ x, ∀ u ∈ f x, u.oneCell' = true)
    (h63 : l.length + m.length ≤ maxLen) (hbytes : (l.length + m.length) * bytes ≤ 140737488355328) (hbase : B ≤ w.heap.size)
    (h : ∀ v' w', Ow f s e w' B v' (l ++ m) → w.grownBy w' v.ownBlock → (v'.ownBlock = v.ownBlock ∨ v'.ownBlock = some w.heap.size) → K (a.put o.dst v') w') : if Region.wanted o (yielded ops a.tmps) = true then Oper.wp P o a w K Q else EE := by
  have hw : Region.wanted o (yielded ops a.tmps) = true := by simp [Region.wanted, hgd]
  rw [if_pos hw]
  exact wp_app w sv x t ho E hs hx hown hsrc h1 h63 hbytes hbase h
theorem OwnLogs.in_ {w : World} {B : Nat} {v : Value} {m l : List Log} (h : OwnLogs w B v m) (hm : m.map Log.log = l.map Log.log) (hl : ∀ p ∈ l, p.log.length * 72 ≤ 140737488351232) : ∀ p ∈ m, p.In w := by
  intro p hp
  refine ⟨(h.2 p hp).1.sl, ?_⟩
  have h1 : p.log ∈ m.map Log.log := List.mem_map.2 ⟨p, hp, rfl⟩
  rw [hm] at h1
  obtain ⟨q, hq, e⟩ := List.mem_map.1 h1
  rw [← e]
  exact hl q hq
set_option maxHeartbeats 4000000 in
theorem zabMajority_ok (v : Value) (l : List Log) (w : World) (h : Sl cLog 1 w v l) (hin : ∀ p ∈ l, p.In w) (hn : l.length * 24 ≤ 140737488351232) :
    Calls Try.prog 11 #[v] w fun e w' => e = .returned (.bool true) ∧ Below w.heap.size w w' := by
  obtain ⟨A, c, rfl, hc1, hc2⟩ := h.form
  have H := Lib.hid h
  have HI := Lib.hid hin
  clear h hin
  go_enter Try.func11, Try.ntmps11
  go_wp2_with fail
  go_loopw [3, 4] (fun s i wr => ∃ (k : Nat) (A' : Option Addr) (c' : Nat) (l' : List Log) (ext : Array Obj) (d : Nat), k ≤ l.length ∧ i = .int .i64 k ∧ s = .slice A' k c' ∧ wr = grow w ext d ∧ Hid (l'.length = k ∧ l'.map Log.log = (l.take k).map Log.log) ∧ Hid (OwnLogs wr w.heap.size (.slice A' k c') l')) (fun _ i _ => l.length - (intOf i).toNat)
  case atStart => exact ⟨0, none, 0, [], _, _, Nat.zero_le _, rfl, rfl, grown_of (by repeat (first | exact Below.refl _ _ | assumption | refine Below.drew ?_ | refine Below.drewN' ?_ _ | refine below_grow0 _ _ ?_ | refine below_alloc0 _ ?_ | refine Below.alloc ?_ (by first | omega | (simp; done) | (simp; omega)) _ | refine Below.setCell ?_ (by first | omega | (simp; done) | (simp; omega)) _ | refine Below.grow _ _ _ ?_ (by first | omega | (simp; done) | (simp; omega)))), Lib.hid ⟨rfl, rfl⟩, Lib.hid (OwnLogs.nil _ _)⟩
  case round =>
    obtain ⟨k, A', c', l', ext, d, hk, rfl, rfl, rfl, ht, ho⟩ := hrel
    by_cases hlt : k < l.length
    · have hx : l[k]? = some (l[k]'hlt) := List.getElem?_eq_getElem _
      obtain ⟨b, off, rfl, hbw, c0⟩ := H.out.Log_at hx
      have HX := Lib.hid (HI.out _ (List.mem_of_getElem? hx))
      generalize hxe : l[k]'hlt = x at hx c0 HX
      have HTL : Hid (l'.length = k) := Lib.hid ht.out.1
      have hbl : ∀ g, (Value.slice A' k c').ownBlock = some g → g < w.heap.size + ext.size := fun g hg => by
        have := (ho.out.1.block_lt hg).2
        simp at this
        omega
      have HBL := Lib.hid hbl
      have HXE := Lib.hid hx
      clear hbl hx hxe
      go_wp2_with (first | (at_builtin; refine wpList_app _ rfl (.const (.slice none 0 0)) (.tmp 19) _ rfl elTxn (B := w.heap.size + ext.size) (m := x.log) rfl rfl (Ow.nil _ _ _ _ _) (HX.out.below (by repeat (first | exact Below.refl _ _ | assumption | refine Below.drew ?_ | refine Below.drewN' ?_ _ | refine below_grow0 _ _ ?_ | refine below_alloc0 _ ?_ | refine Below.alloc ?_ (by first | omega | (simp; done) | (simp; omega)) _ | refine Below.setCell ?_ (by first | omega | (simp; done) | (simp; omega)) _ | refine Below.grow _ _ _ ?_ (by first | omega | (simp; done) | (simp; omega))))).1 cTxn_one (by have := HX.out.2; simp [maxLen]; omega) (by have := HX.out.2; simp; omega) (by simp) ?_; intro v1 w1 hown1 hg1 _; rw [List.nil_append] at hown1; obtain ⟨A1, c1, rfl, _⟩ := hown1.form; have HO1 := Lib.hid hown1; obtain ⟨ext1, d1, rfl⟩ := Below.grown_eq _ (Below.of_grown hg1); clear hown1 hg1) | (at_builtin; refine wpList_app _ rfl (.tmp 15) (.tmp 21) _ rfl elLog (B := w.heap.size) (l := l') (m := [⟨A1, c1, x.log⟩]) rfl rfl (ho.out.1.below (by repeat (first | exact Below.refl _ _ | assumption | refine Below.drew ?_ | refine Below.drewN' ?_ _ | refine below_grow0 _ _ ?_ | refine below_alloc0 _ ?_ | refine Below.alloc ?_ (by first | omega | (simp; done) | (simp; omega)) _ | refine Below.setCell ?_ (by first | omega | (simp; done) | (simp; omega)) _ | refine Below.grow _ _ _ ?_ (by first | omega | (simp; done) | (simp; omega))))) (Sl.one_at cLog 1 _ _ _ rfl _ rfl (by omega) (by simp)) cLog_one (by have := HTL.out; simp [maxLen]; omega) (by have := HTL.out; simp; omega) (by simp <;> omega) ?_; intro v2 w2 hown2 hg2 hat2; obtain ⟨A2, c2, rfl, _⟩ := hown2.form; have HO2 := Lib.hid hown2; have HG2 : Hid (World.grownBy _ w2 (Value.slice A' k c').ownBlock) := Lib.hid hg2; have HA2 : Hid (_ = (Value.slice A' k c').ownBlock ∨ _ = some _) := Lib.hid hat2; clear hown2 hg2 hat2))
      have hwb : Below w.heap.size w w2 := Below.grown (by repeat (first | exact Below.refl _ _ | assumption | refine Below.drew ?_ | refine Below.drewN' ?_ _ | refine below_grow0 _ _ ?_ | refine below_alloc0 _ ?_ | refine Below.alloc ?_ (by first | omega | (simp; done) | (simp; omega)) _ | refine Below.setCell ?_ (by first | omega | (simp; done) | (simp; omega)) _ | refine Below.grow _ _ _ ?_ (by first | omega | (simp; done) | (simp; omega)))) HG2.out (by simp; omega) (fun g hg => (ho.out.1.block_lt hg).1)
      have hkl : (l' ++ [(⟨A1, c1, x.log⟩ : Log)]).length = k + 1 := by simp [HTL.out]
      have HN := Lib.hid (OwnLogs.add (ho.out.below (by repeat (first | exact Below.refl _ _ | assumption | refine Below.drew ?_ | refine Below.drewN' ?_ _ | refine below_grow0 _ _ ?_ | refine below_alloc0 _ ?_ | refine Below.alloc ?_ (by first | omega | (simp; done) | (simp; omega)) _ | refine Below.setCell ?_ (by first | omega | (simp; done) | (simp; omega)) _ | refine Below.grow _ _ _ ?_ (by first | omega | (simp; done) | (simp; omega))))) (y := ⟨A1, c1, x.log⟩) (HO1.out.alloc _) (by first | omega | (simp; done) | (simp; omega)) HBL.out HO2.out HG2.out HA2.out)
      go_roundw
      case rel => exact ⟨k + 1, A2, c2, _, _, _, by omega, by go_num, by rw [HTL.out], grown_of hwb, Lib.hid ⟨hkl, by rw [List.take_add_one, HXE.out, List.map_append, List.map_append, ht.out.2]; rfl⟩, Lib.hid (by rw [← hkl]; exact HN.out)⟩
      case measure => simp [intOf]; omega
    · have hk' : k = l.length := by omega
      subst hk'
      have ht2 := ht.out.2
      rw [List.take_length] at ht2
      have hlen' : l'.length = l.length := ht.out.1
      have HM := Lib.hid ht2
      clear ht2
      rcases Nat.eq_zero_or_pos l.length with h0 | h0
      · have hl0 : ((l.length : Int) == 0) = true := by rw [h0]; rfl
        clear ht ho HM H HI
        generalize l.length = n at *
        subst h0
        go_wp2_with (first | (go_at_call 38; refine (zabCommitted0 _ _ _).mono ?_; rintro e w1 ⟨rfl, rfl⟩; skip) | (go_at_call 31; refine (elects_any _).mono ?_; rintro e w3 ⟨rfl, hb⟩; obtain ⟨ext3, d3, rfl⟩ := Below.grown_eq w (Below.own (by repeat (first | exact Below.refl _ _ | assumption | refine Below.drew ?_ | refine Below.drewN' ?_ _ | refine below_grow0 _ _ ?_ | refine below_alloc0 _ ?_ | refine Below.alloc ?_ (by first | omega | (simp; done) | (simp; omega)) _ | refine Below.setCell ?_ (by first | omega | (simp; done) | (simp; omega)) _ | refine Below.grow _ _ _ ?_ (by first | omega | (simp; done) | (simp; omega)))) hb); clear hb))
        go_ret
        exact ⟨rfl, (by repeat (first | exact Below.refl _ _ | assumption | refine Below.drew ?_ | refine Below.drewN' ?_ _ | refine below_grow0 _ _ ?_ | refine below_alloc0 _ ?_ | refine Below.alloc ?_ (by first | omega | (simp; done) | (simp; omega)) _ | refine Below.setCell ?_ (by first | omega | (simp; done) | (simp; omega)) _ | refine Below.grow _ _ _ ?_ (by first | omega | (simp; done) | (simp; omega))))⟩
      · have hl0 : ((l.length : Int) == 0) = false := beq_eq_false_iff_ne.2 (by omega)
        have hx : l[0]? = some (l[0]'h0) := List.getElem?_eq_getElem _
        have hx' : l'[0]? = some (l'[0]'(by omega)) := List.getElem?_eq_getElem _
        obtain ⟨b, off, rfl, hbw0, c0⟩ := H.out.Log_at hx
        have HX := Lib.hid (HI.out _ (List.mem_of_getElem? hx))
        have hlog : (l'[0]'(by omega)).log = (l[0]'h0).log := by
          have := congrArg (fun q => q[0]?) HM.out
          simpa [hx, hx'] using this
        generalize l[0]'h0 = x0 at *
        generalize l'[0]'(by omega) = y0 at *
        have hin' := ho.out.in_ HM.out (fun p hp => (HI.out p hp).2)
        have hsl' := ho.out.1.sl
        rw [← hlen'] at hsl'
        have hcom := zabCommitted _ l' y0 _ hsl' hin' hx' (by omega)
        rw [hlog, hlen'] at hcom
        have HCOM := Lib.hid hcom
        have HX0 := Lib.hid hx
        rw [Nat.add_zero] at c0
        have HY0 := Lib.hid (And.intro hx' hlog)
        clear hin' hsl' hcom hx hx' hlog
        obtain ⟨xa, xc, xl⟩ := x0
        dsimp only at c0 HX HCOM HX0
        go_wp2_with fail
        refine HCOM.out.mono ?_
        rintro e w2 ⟨⟨n, rfl, hc⟩, hb2⟩
        have HC := Lib.hid (comIs_map HM.out hc)
        have hnle := HC.out.1
        have HO2 := Lib.hid (ho.out.below hb2)
        obtain ⟨ext2, d2, rfl⟩ := Below.grown_eq w (Below.own (by repeat (first | exact Below.refl _ _ | assumption | refine Below.drew ?_ | refine Below.drewN' ?_ _ | refine below_grow0 _ _ ?_ | refine below_alloc0 _ ?_ | refine Below.alloc ?_ (by first | omega | (simp; done) | (simp; omega)) _ | refine Below.setCell ?_ (by first | omega | (simp; done) | (simp; omega)) _ | refine Below.grow _ _ _ ?_ (by first | omega | (simp; done) | (simp; omega)))) hb2)
        clear hb2 hc HCOM ho
        go_wp2_with fail
        refine (elects_any _).mono ?_
        rintro e w3 ⟨rfl, hb3⟩
        have HO3 := Lib.hid (HO2.out.below hb3)
        obtain ⟨ext3, d3, rfl⟩ := Below.grown_eq w (Below.own (by repeat (first | exact Below.refl _ _ | assumption | refine Below.drew ?_ | refine Below.drewN' ?_ _ | refine below_grow0 _ _ ?_ | refine below_alloc0 _ ?_ | refine Below.alloc ?_ (by first | omega | (simp; done) | (simp; omega)) _ | refine Below.setCell ?_ (by first | omega | (simp; done) | (simp; omega)) _ | refine Below.grow _ _ _ ?_ (by first | omega | (simp; done) | (simp; omega)))) hb3)
        clear hb3 HO2
        have hnb : n ≤ 140737488355328 := by have := HX.out.2; simp only at this; omega
        have hnneg : (decide ((n : Int) < 0)) = false := by simp
        have hngt : (decide (xl.length < n)) = false := by simp; omega
        go_wp2_with fail
        go_loopw [6] (fun i wr => ∃ (k : Nat), k ≤ n + 1 ∧ i = .int .i64 k ∧ Hid (Below (grow w ext3 d3).heap.size (grow w ext3 d3) wr)) (fun i _ => n + 1 - (intOf i).toNat)
        case atStart => exact ⟨0, Nat.zero_le _, rfl, Lib.hid (Below.refl _ _)⟩
        case round =>
          obtain ⟨k, hk, rfl, hbw⟩ := hrel
          obtain ⟨wo, rfl⟩ : ∃ x, x = wr := ⟨_, rfl⟩
          have hbase : Below w.heap.size w wo := Below.own (show Below w.heap.size w (grow w ext3 d3) from (by repeat (first | exact Below.refl _ _ | assumption | refine Below.drew ?_ | refine Below.drewN' ?_ _ | refine below_grow0 _ _ ?_ | refine below_alloc0 _ ?_ | refine Below.alloc ?_ (by first | omega | (simp; done) | (simp; omega)) _ | refine Below.setCell ?_ (by first | omega | (simp; done) | (simp; omega)) _ | refine Below.grow _ _ _ ?_ (by first | omega | (simp; done) | (simp; omega))))) hbw.out
          have c0o := (hbase.cell (p := ⟨b, off, none⟩) hbw0).trans c0
          have HBO := Lib.hid hbase
          clear hbase
          by_cases hkn : k ≤ n
          · by_cases hlt : k < xl.length
            · have hy : xl[k]? = some (xl[k]'hlt) := List.getElem?_eq_getElem _
              have HY := Lib.hid hy
              have HC1 := Lib.hid (fun (h : k < n) => HC.out.2.1 k _ h hy)
              have HC2 := Lib.hid (fun (h : k = n) => by
                subst h
                exact HC.out.2.2 _ hy)
              generalize xl[k]'hlt = y at *
              clear hy
              go_wp2_with fail
              go_loopw [7, 8] (fun q i wr => ∃ (j : Nat), j ≤ l.length ∧ i = .int .i64 j ∧ q = .int .i64 (haveN (l.take j) k y) ∧ Hid (Below wo.heap.size wo wr)) (fun _ i _ => l.length - (intOf i).toNat)
              case atStart => exact ⟨0, Nat.zero_le _, rfl, rfl, Lib.hid (Below.refl _ _)⟩
              case round =>
                obtain ⟨j, hj, rfl, rfl, hbw2⟩ := hrel
                have hbase2 : Below w.heap.size w wr := Below.own HBO.out hbw2.out
                by_cases hlt2 : j < l.length
                · have hm : l[j]? = some (l[j]'hlt2) := List.getElem?_eq_getElem _
                  obtain ⟨b0, off0, rfl, _, t0, t1, t2, t3, t4, t5, t6⟩ := (HX.out.below hbase2).1.Txn_at HY.out
                  have c0w := (hbase2.cell (p := ⟨b, off, none⟩) hbw0).trans c0
                  obtain ⟨b2, off2, hA2, _, m0⟩ := (H.out.below hbase2).Log_at hm
                  injection hA2 with hA2
                  injection hA2 with e1 e2 _
                  subst e1
                  subst e2
                  have HMM := Lib.hid ((HI.out _ (List.mem_of_getElem? hm)).below hbase2)
                  have HSU := Lib.hid (haveN_succ (i := k) (y := y) hm)
                  have hle := haveN_le (l.take j) k y
                  rw [List.length_take] at hle
                  have hle2 : haveN (l.take j) k y ≤ j := by omega
                  generalize l[j]'hlt2 = m at *
                  generalize haveN (l.take j) k y = hv at *
                  clear hm hle hbase2
                  by_cases hmn : k < m.log.length
                  · have hz : m.log[k]? = some (m.log[k]'hmn) := List.getElem?_eq_getElem _
                    obtain ⟨b3, off3, hA3, _, s0, s1, s2, s3, s4, s5, s6⟩ := HMM.out.1.Txn_at hz
                    have hht : hasT m.log k y = sameT (m.log[k]'hmn) y := by unfold hasT; rw [hz]
                    generalize m.log[k]'hmn = z at *
                    have HT := Lib.hid hht
                    have qE := fun w => eql_txn z y w
                    generalize sameT z y = tb at *
                    clear hht hz
                    cases tb with
                    | true =>
                      go_wp2_with fail
                      go_quiet (fail)
                      go_wp2_with fail
                      go_roundw
                      case rel => exact ⟨j + 1, by omega, by go_num, by rw [HSU.out, HT.out]; go_num, Lib.hid (Below.drewN' hbw2.out _)⟩
                      case measure => simp [intOf]; omega
                    | false =>
                      go_wp2_with fail
                      go_quiet (fail)
                      go_wp2_with fail
                      go_roundw
                      case rel => exact ⟨j + 1, by omega, by go_num, by rw [HSU.out, HT.out]; go_num, Lib.hid (Below.drewN' hbw2.out _)⟩
                      case measure => simp [intOf]; omega
                  · have hht : hasT m.log k y = false := by unfold hasT; rw [List.getElem?_eq_none (by omega)]
                    have HT := Lib.hid hht
                    clear hht
                    go_wp2_with fail
                    go_quiet (fail)
                    go_wp2_with fail
                    go_roundw
                    case rel => exact ⟨j + 1, by omega, by go_num, by rw [HSU.out, HT.out]; go_num, Lib.hid (Below.drewN' hbw2.out _)⟩
                    case measure => simp [intOf]; omega
                · have hj' : j = l.length := by omega
                  subst hj'
                  rw [List.take_length]
                  clear hbase2
                  generalize haveN l k y = hv at *
                  by_cases hkl : k < n
                  · have h2 := HC1.out hkl
                    have hd1 : (decide ((2 : Int) ≤ (hv : Int))) = true := decide_eq_true (by omega)
                    have hd2 : (decide ((k : Int) < (n : Int))) = true := decide_eq_true (by omega)
                    go_wp2_with fail
                    go_roundw
                    case rel => exact ⟨k + 1, by omega, by go_num, Lib.hid (Below.own hbw.out hbw2.out)⟩
                    case measure => simp [intOf]; omega
                  · have h2 := HC2.out (by omega)
                    have hd1 : (decide ((2 : Int) ≤ (hv : Int))) = false := decide_eq_false (by omega)
                    have hd2 : (decide ((k : Int) < (n : Int))) = false := decide_eq_false (by omega)
                    go_wp2_with fail
                    go_roundw
                    case rel => exact ⟨k + 1, by omega, by go_num, Lib.hid (Below.own hbw.out hbw2.out)⟩
                    case measure => simp [intOf]; omega
            · go_wp2_with fail
              have HOo := Lib.hid (HO3.out.below hbw.out)
              have HTW := Lib.hid (fun (n' : Nat) (y0' : Log) (hy : y0'.log = xl) (hc : ComIs (l ++ [y0']) xl n') => show n' = xl.length from comIs_twice HX0.out hy hc)
              have HCM := Lib.hid (fun (A1 : Option Addr) (c1 : Nat) (W : World) (v : Value) (hn : OwnLogs W w.heap.size v (l' ++ [(⟨A1, c1, xl⟩ : Log)])) => show Calls Try.prog 38 #[v] W fun e w' => e = .returned (.int .i64 xl.length) ∧ Below W.heap.size W w' from by
                have hmap : (l' ++ [(⟨A1, c1, xl⟩ : Log)]).map Log.log = (l ++ [(⟨A1, c1, xl⟩ : Log)]).map Log.log := by rw [List.map_append, List.map_append, HM.out]
                have h00 : (l' ++ [(⟨A1, c1, xl⟩ : Log)])[0]? = some y0 := by rw [List.getElem?_append_left (by omega)]; exact HY0.out.1
                refine (zabCommitted v _ y0 W hn.1.sl (hn.in_ hmap (fun p hp => ?_)) h00 (by simp; omega)).mono ?_
                · rcases List.mem_append.1 hp with hp | hp
                  · exact (HI.out p hp).2
                  · obtain rfl := List.mem_singleton.1 hp
                    exact HX.out.2
                · rintro e w' ⟨⟨n', rfl, hc⟩, hb⟩
                  have hc' := comIs_map hmap hc
                  rw [show y0.log = xl from HY0.out.2] at hc'
                  rw [HTW.out n' _ rfl hc']
                  exact ⟨rfl, hb⟩)
              obtain ⟨exto, do_, rfl⟩ := Below.grown_eq w HBO.out
              have HOd : Hid (OwnLogs (grow w exto (do_ + 1)) w.heap.size (.slice A' l.length c') l') := Lib.hid ⟨HOo.out.1.regrow (Nat.le_refl _) rfl, fun p hp => ⟨(HOo.out.2 p hp).1.regrow (Nat.le_refl _) rfl, (HOo.out.2 p hp).2⟩⟩
              have hbl : ∀ g, (Value.slice A' l.length c').ownBlock = some g → g < w.heap.size + exto.size := fun g hg => by
                have := (HOo.out.1.block_lt hg).2
                simp at this
                omega
              have HBL := Lib.hid hbl
              clear hbl hbw HO3 HBO
              go_region_held3 (fun w' => w'.cell? ⟨b, off, none⟩ = some (.slice xa xl.length xc)) (go_simp) (first | ((refine step_app rfl (.const (.slice none 0 0)) (.tmp 100) _ rfl elTxn (B := w.heap.size + exto.size) (m := xl) (by simp [Act.eval]) (by simp [Act.eval]) (Ow.nil _ _ _ _ _) (HX.out.below (by repeat (first | exact Below.refl _ _ | assumption | refine Below.drew ?_ | refine Below.drewN' ?_ _ | refine below_grow0 _ _ ?_ | refine below_alloc0 _ ?_ | refine Below.alloc ?_ (by first | omega | (simp; done) | (simp; omega)) _ | refine Below.setCell ?_ (by first | omega | (simp; done) | (simp; omega)) _ | refine Below.grow _ _ _ ?_ (by first | omega | (simp; done) | (simp; omega))))).1 cTxn_one (by have := HX.out.2; simp [maxLen] at this ⊢; omega) (by have := HX.out.2; simp at this ⊢; omega) (by simp) ?_; intro v1 w1 hown1 hg1 _; rw [List.nil_append] at hown1; obtain ⟨A1, c1, rfl, _⟩ := hown1.form; have HO1 := Lib.hid hown1; obtain ⟨ext1, d1, rfl⟩ := Below.grown_eq _ (Below.of_grown hg1); clear hown1 hg1)) | ((refine step_app rfl (.tmp 97) (.tmp 102) _ rfl elLog (B := w.heap.size) (l := l') (m := [(⟨A1, c1, xl⟩ : Log)]) (by simp [Act.eval]) (by simp [Act.eval]) (HOd.out.1.below (by repeat (first | exact Below.refl _ _ | assumption | refine Below.drew ?_ | refine Below.drewN' ?_ _ | refine below_grow0 _ _ ?_ | refine below_alloc0 _ ?_ | refine Below.alloc ?_ (by first | omega | (simp; done) | (simp; omega)) _ | refine Below.setCell ?_ (by first | omega | (simp; done) | (simp; omega)) _ | refine Below.grow _ _ _ ?_ (by first | omega | (simp; done) | (simp; omega))))) (Sl.one_at (n := w.heap.size + exto.size + ext1.size) cLog 1 _ _ _ rfl _ rfl (by omega) (by simp)) cLog_one (by simp [maxLen]; omega) (by simp; omega) (by simp <;> omega) ?_; intro v2 w2 hown2 hg2 hat2; obtain ⟨A2, c2, rfl, _⟩ := hown2.form; have HO2 := Lib.hid hown2; have HG2 : Hid (World.grownBy _ w2 (Value.slice A' l.length c').ownBlock) := Lib.hid hg2; have HA2 : Hid (_ = (Value.slice A' l.length c').ownBlock ∨ _ = some _) := Lib.hid hat2; clear hown2 hg2 hat2; have hwb : Below w.heap.size w w2 := Below.grown (by repeat (first | exact Below.refl _ _ | assumption | refine Below.drew ?_ | refine Below.drewN' ?_ _ | refine below_grow0 _ _ ?_ | refine below_alloc0 _ ?_ | refine Below.alloc ?_ (by first | omega | (simp; done) | (simp; omega)) _ | refine Below.setCell ?_ (by first | omega | (simp; done) | (simp; omega)) _ | refine Below.grow _ _ _ ?_ (by first | omega | (simp; done) | (simp; omega)))) HG2.out (by simp; omega) (fun g hg => (HOd.out.1.block_lt hg).1); have hn0 := OwnLogs.add (HOd.out.below (by repeat (first | exact Below.refl _ _ | assumption | refine Below.drew ?_ | refine Below.drewN' ?_ _ | refine below_grow0 _ _ ?_ | refine below_alloc0 _ ?_ | refine Below.alloc ?_ (by first | omega | (simp; done) | (simp; omega)) _ | refine Below.setCell ?_ (by first | omega | (simp; done) | (simp; omega)) _ | refine Below.grow _ _ _ ?_ (by first | omega | (simp; done) | (simp; omega))))) (y := ⟨A1, c1, xl⟩) (HO1.out.alloc _) (by first | omega | (simp; done) | (simp; omega)) HBL.out HO2.out HG2.out HA2.out; rw [List.length_append, List.length_singleton, hlen'] at hn0; have HN := Lib.hid hn0; clear hn0; have cS : w2.cell? ⟨b, off, none⟩ = some (.slice xa xl.length xc) := (hwb.cell (p := ⟨b, off, none⟩) hbw0).trans c0; have HWB := Lib.hid hwb; clear hwb)) | (go_at_call 38; (refine (HCM.out A1 c1 _ _ HN.out).mono ?_; rintro e w5 ⟨rfl, hb5⟩; have cS5 : w5.cell? ⟨b, off, none⟩ = some (.slice xa xl.length xc) := (hb5.cell (p := ⟨b, off, none⟩) (by have := HWB.out.size; show b < _; omega)).trans cS; have HWB5 := Lib.hid (Below.own HWB.out hb5); clear hb5)))
              all_goals
                go_wp2_with fail
                go_ret
                exact ⟨rfl, HWB5.out⟩
          · go_wp2_with fail
            have HOo := Lib.hid (HO3.out.below hbw.out)
            have HTW := Lib.hid (fun (n' : Nat) (y0' : Log) (hy : y0'.log = xl) (hc : ComIs (l ++ [y0']) xl n') => show n' = xl.length from comIs_twice HX0.out hy hc)
            have HCM := Lib.hid (fun (A1 : Option Addr) (c1 : Nat) (W : World) (v : Value) (hn : OwnLogs W w.heap.size v (l' ++ [(⟨A1, c1, xl⟩ : Log)])) => show Calls Try.prog 38 #[v] W fun e w' => e = .returned (.int .i64 xl.length) ∧ Below W.heap.size W w' from by
              have hmap : (l' ++ [(⟨A1, c1, xl⟩ : Log)]).map Log.log = (l ++ [(⟨A1, c1, xl⟩ : Log)]).map Log.log := by rw [List.map_append, List.map_append, HM.out]
              have h00 : (l' ++ [(⟨A1, c1, xl⟩ : Log)])[0]? = some y0 := by rw [List.getElem?_append_left (by omega)]; exact HY0.out.1
              refine (zabCommitted v _ y0 W hn.1.sl (hn.in_ hmap (fun p hp => ?_)) h00 (by simp; omega)).mono ?_
              · rcases List.mem_append.1 hp with hp | hp
                · exact (HI.out p hp).2
                · obtain rfl := List.mem_singleton.1 hp
                  exact HX.out.2
              · rintro e w' ⟨⟨n', rfl, hc⟩, hb⟩
                have hc' := comIs_map hmap hc
                rw [show y0.log = xl from HY0.out.2] at hc'
                rw [HTW.out n' _ rfl hc']
                exact ⟨rfl, hb⟩)
            obtain ⟨exto, do_, rfl⟩ := Below.grown_eq w HBO.out
            have HOd : Hid (OwnLogs (grow w exto (do_ + 1)) w.heap.size (.slice A' l.length c') l') := Lib.hid ⟨HOo.out.1.regrow (Nat.le_refl _) rfl, fun p hp => ⟨(HOo.out.2 p hp).1.regrow (Nat.le_refl _) rfl, (HOo.out.2 p hp).2⟩⟩
            have hbl : ∀ g, (Value.slice A' l.length c').ownBlock = some g → g < w.heap.size + exto.size := fun g hg => by
              have := (HOo.out.1.block_lt hg).2
              simp at this
              omega
            have HBL := Lib.hid hbl
            clear hbl hbw HO3 HBO
            go_region_held3 (fun w' => w'.cell? ⟨b, off, none⟩ = some (.slice xa xl.length xc)) (go_simp) (first | ((refine step_app rfl (.const (.slice none 0 0)) (.tmp 100) _ rfl elTxn (B := w.heap.size + exto.size) (m := xl) (by simp [Act.eval]) (by simp [Act.eval]) (Ow.nil _ _ _ _ _) (HX.out.below (by repeat (first | exact Below.refl _ _ | assumption | refine Below.drew ?_ | refine Below.drewN' ?_ _ | refine below_grow0 _ _ ?_ | refine below_alloc0 _ ?_ | refine Below.alloc ?_ (by first | omega | (simp; done) | (simp; omega)) _ | refine Below.setCell ?_ (by first | omega | (simp; done) | (simp; omega)) _ | refine Below.grow _ _ _ ?_ (by first | omega | (simp; done) | (simp; omega))))).1 cTxn_one (by have := HX.out.2; simp [maxLen] at this ⊢; omega) (by have := HX.out.2; simp at this ⊢; omega) (by simp) ?_; intro v1 w1 hown1 hg1 _; rw [List.nil_append] at hown1; obtain ⟨A1, c1, rfl, _⟩ := hown1.form; have HO1 := Lib.hid hown1; obtain ⟨ext1, d1, rfl⟩ := Below.grown_eq _ (Below.of_grown hg1); clear hown1 hg1)) | ((refine step_app rfl (.tmp 97) (.tmp 102) _ rfl elLog (B := w.heap.size) (l := l') (m := [(⟨A1, c1, xl⟩ : Log)]) (by simp [Act.eval]) (by simp [Act.eval]) (HOd.out.1.below (by repeat (first | exact Below.refl _ _ | assumption | refine Below.drew ?_ | refine Below.drewN' ?_ _ | refine below_grow0 _ _ ?_ | refine below_alloc0 _ ?_ | refine Below.alloc ?_ (by first | omega | (simp; done) | (simp; omega)) _ | refine Below.setCell ?_ (by first | omega | (simp; done) | (simp; omega)) _ | refine Below.grow _ _ _ ?_ (by first | omega | (simp; done) | (simp; omega))))) (Sl.one_at (n := w.heap.size + exto.size + ext1.size) cLog 1 _ _ _ rfl _ rfl (by omega) (by simp)) cLog_one (by simp [maxLen]; omega) (by simp; omega) (by simp <;> omega) ?_; intro v2 w2 hown2 hg2 hat2; obtain ⟨A2, c2, rfl, _⟩ := hown2.form; have HO2 := Lib.hid hown2; have HG2 : Hid (World.grownBy _ w2 (Value.slice A' l.length c').ownBlock) := Lib.hid hg2; have HA2 : Hid (_ = (Value.slice A' l.length c').ownBlock ∨ _ = some _) := Lib.hid hat2; clear hown2 hg2 hat2; have hwb : Below w.heap.size w w2 := Below.grown (by repeat (first | exact Below.refl _ _ | assumption | refine Below.drew ?_ | refine Below.drewN' ?_ _ | refine below_grow0 _ _ ?_ | refine below_alloc0 _ ?_ | refine Below.alloc ?_ (by first | omega | (simp; done) | (simp; omega)) _ | refine Below.setCell ?_ (by first | omega | (simp; done) | (simp; omega)) _ | refine Below.grow _ _ _ ?_ (by first | omega | (simp; done) | (simp; omega)))) HG2.out (by simp; omega) (fun g hg => (HOd.out.1.block_lt hg).1); have hn0 := OwnLogs.add (HOd.out.below (by repeat (first | exact Below.refl _ _ | assumption | refine Below.drew ?_ | refine Below.drewN' ?_ _ | refine below_grow0 _ _ ?_ | refine below_alloc0 _ ?_ | refine Below.alloc ?_ (by first | omega | (simp; done) | (simp; omega)) _ | refine Below.setCell ?_ (by first | omega | (simp; done) | (simp; omega)) _ | refine Below.grow _ _ _ ?_ (by first | omega | (simp; done) | (simp; omega))))) (y := ⟨A1, c1, xl⟩) (HO1.out.alloc _) (by first | omega | (simp; done) | (simp; omega)) HBL.out HO2.out HG2.out HA2.out; rw [List.length_append, List.length_singleton, hlen'] at hn0; have HN := Lib.hid hn0; clear hn0; have cS : w2.cell? ⟨b, off, none⟩ = some (.slice xa xl.length xc) := (hwb.cell (p := ⟨b, off, none⟩) hbw0).trans c0; have HWB := Lib.hid hwb; clear hwb)) | (go_at_call 38; (refine (HCM.out A1 c1 _ _ HN.out).mono ?_; rintro e w5 ⟨rfl, hb5⟩; have cS5 : w5.cell? ⟨b, off, none⟩ = some (.slice xa xl.length xc) := (hb5.cell (p := ⟨b, off, none⟩) (by have := HWB.out.size; show b < _; omega)).trans cS; have HWB5 := Lib.hid (Below.own HWB.out hb5); clear hb5)))
            all_goals
              go_wp2_with fail
              go_ret
              exact ⟨rfl, HWB5.out⟩
theorem open_log {w : World} {n : Nat} {cs : List Value} (h : Deep Try.prog w (n + 10) 49 cs) : ∃ p : Log, cs = cLog p ∧ p.In w := by
  obtain ⟨v2, xs, e2, hr, hb, hx⟩ := deep_flats (ks := flatTxn) Try.underlying49 (by kernel_rfl) (by decide) h
  subst e2
  rw [show Try.prog.bytesOf 72 = 72 from by kernel_rfl] at hb
  obtain ⟨log, rfl, _⟩ := typed (fun x hxm => fitsTxn (hx x hxm))
  have hs : Sl cTxn 7 w v2 log := hr
  obtain ⟨A, c, rfl, _, _⟩ := hs.form
  exact ⟨⟨A, c, log⟩, rfl, hs, by simpa [reachBytes] using hb⟩
namespace zabMajority
theorem own : ownKnob Try.prog.godebug = none := by kernel_rfl
theorem laidOut : laidOutB Try.prog = true := by kernel_rfl
set_option maxRecDepth 100000 in
set_option maxHeartbeats 1000000 in
theorem lifted (os : Os) (started : os.Started) (H : Type) (enc : TypeId × Value → H) :
    ReturnsInHanded {} Try.checked os 11 .any (Rows.zabMajoritySpec.pre6 enc Try.prog Try.f11 Rows.zabMajorityRow.domain false) (Rows.zabMajoritySpec.post enc Try.prog Try.f11 false true false false) := by
  refine returnsInHanded_of_change_sized (C := Try.checked) own started (by kernel_rfl) Try.func11
    (ChangeSpec.witness6 (enc := enc) (C := Try.checked) false ⟨#[], #[.slice none 0 0], []⟩ 8 (by kernel_rfl) (by kernel_rfl) (by kernel_rfl) (by kernel_rfl)) ?_
  intro W base args ds gs before hval0 hW0 _ hsz0 _
  have hval : ∀ (j : Nat) t v, Try.f11.params[j]? = some t → args[j]? = some v → Value.okWide Try.prog W .any base t v := hval0
  have hW : DataW.Whole enc Try.prog Try.f11.params.toList Rows.zabMajoritySpec.vars false W args.toList ds gs before := hW0
  have hlt : ∀ p ∈ before, p.block < W.heap.size := fun p hp => hW.lt p hp
  have hW1 := hW
  obtain ⟨p, q, hA0, hV, rfl, hfz, hnd⟩ := hW1
  have hA : DataW.TrodAll enc Try.prog W 0 (fun _ => true) true Try.f11.params.toList args.toList ds p := hA0
  obtain ⟨rfl, rfl⟩ := trodVars_none hV
  rw [Try.params11] at hA hval
  obtain ⟨v0, vs0, d0, ds0, p0, q0, hargs, rfl, rfl, h0, r0⟩ := trodAll_cons hA
  obtain ⟨rfl, rfl, rfl⟩ := trodAll_nil r0
  obtain rfl : args = #[v0] := by cases args; simp_all
  have hsz : (DataW.weightsEach Try.prog [69] [d0]).all (· ≤ reachBytes) = true := hsz0
  have close : ∀ e W', (e = Ending.returned (.bool true) ∧ Below W.heap.size W W') → ∃ v, e = .returned v ∧ Rows.zabMajoritySpec.post enc Try.prog Try.f11 false true false false W #[v0] v W' :=
    fun e W' ⟨he, hb⟩ => ⟨_, he, law_post laidOut (of_decide_eq_true (by kernel_rfl)) rfl rfl Try.underlying4 hW rfl hb⟩
  clear hA0 hsz0 hval0 hW0 hA hV hW hfz hnd
  obtain ⟨A, len, cap, rfl⟩ := okWide_slice Try.underlying69 (hval 0 _ v0 rfl rfl)
  obtain ⟨v, xs, hv, hr, hb, hx⟩ := deep_slice Try.underlying69 (open_deep 11 h0 (sized_arg hsz 0 rfl rfl))
  rw [show Try.prog.cellsOf 49 = 1 from by kernel_rfl] at hr
  rw [show Try.prog.bytesOf 49 = 24 from by kernel_rfl] at hb
  obtain rfl : Value.slice A len cap = v := by simpa [Value.cells] using hv
  obtain ⟨l, rfl, hl⟩ := typed (f := cLog) (Q := fun p => p.In W) (fun x hxm => open_log (n := 0) (hx x hxm))
  have hs : Sl cLog 1 W (.slice A len cap) l := hr (by decide)
  exact (zabMajority_ok _ l W hs hl (by simpa [reachBytes] using hb)).mono close
theorem proved : Rows.ZabMajoritySaid :=
  OpenClaim.holds_of_wide 11 Try.f11 rfl rfl rfl rfl rfl rfl rfl ⟨rfl, rfl, rfl, rfl, rfl⟩ rfl rfl rfl rfl rfl (by kernel_rfl) Try.func11 (by kernel_rfl)
    (of_decide_eq_true (by kernel_rfl)) (by unfold Func.isWrapper; first | (rw [if_pos (by decide +kernel)]; kernel_rfl) | (rw [if_neg (by decide +kernel)]; exact ⟨rfl, rfl⟩))
    (fun os started H enc _ => lifted os started H enc)
end zabMajority
end Go.Proofs.Ytahcmfnpfepimaa

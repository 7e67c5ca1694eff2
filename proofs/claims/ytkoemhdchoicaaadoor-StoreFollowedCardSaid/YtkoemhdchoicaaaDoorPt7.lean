/- Lemmas for the statement: LogOf, Laid, Logs, Keep, Deep, DiskArg, WalKeeps. -/
import Derived.ChangeOld
import Derived.Deep.RegionHeld3
import Derived.Deep.DeepCutAuto
import Derived.Test.YtkoemhdchoicaaaDoorCards
import Derived.Test.YtkoemhdchoicaaaDoorTie
import Derived.Lay
import Derived.LaidMore
import Derived.SevenTiedAt
import Derived.Test.YtkoemhdchoicaaaDoorPt1
import Derived.Test.YtkoemhdchoicaaaDoorPt2
import Derived.Test.YtkoemhdchoicaaaDoorPt3
import Derived.Test.YtkoemhdchoicaaaDoorPt4
import Derived.Test.YtkoemhdchoicaaaDoorPt5
import Derived.Test.YtkoemhdchoicaaaDoorPt6
/- the laws' logOf: a list that can stand in a log. -/
namespace Go.Proofs.YtkoemhdchoicaaaDoor
open Go.RowKit Go.ChangeShapes Go.WideShapes Go.ChangeAt
def LogRes (w : World) (e : Ending) (w' : World) : Prop := ∃ A c m, e = .returned (.slice A (List.length (α := Txn) m) c) ∧ LogOk m ∧ m.length ≤ 40 ∧ Ow cTxn 7 47 w' w.heap.size (.slice A m.length c) m ∧ Below w.heap.size w w'
set_option maxHeartbeats 2000000 in
theorem logOf_any (v : Value) (l : List Txn) (w : World) (h : Sl cTxn 7 w v l) (hz : ∀ t ∈ l, t.path.size ≤ 9223372036854775807) :
    Calls Tryd.prog 16 #[v] w (LogRes w) := by
  obtain ⟨A, c, rfl, hc1, hc2⟩ := h.form
  have hn : l.length ≤ 9223372036854775807 := Nat.le_trans hc1 (Nat.le_trans hc2 (by decide))
  have H := Lib.hid h
  clear h
  go_enter Tryd.func16, Tryd.ntmps16
  go_wp2_with fail
  go_loopw [3, 4] (fun o i wr => ∃ (k : Nat) (m : List Txn) (A' : Option Addr) (c' : Nat) (ext : Array Obj) (d : Nat), k ≤ l.length ∧ m.length ≤ 40 ∧ i = .int .i64 k ∧ o = .slice A' m.length c' ∧ wr = grow w ext d ∧ Hid (LogOk m) ∧ Hid (Ow cTxn 7 47 wr w.heap.size (.slice A' m.length c') m)) (fun _ i _ => l.length - (intOf i).toNat)
  case atStart => exact ⟨0, [], none, 0, _, _, Nat.zero_le _, Nat.zero_le _, rfl, rfl, grown_of (by repeat (first | exact Below.refl _ _ | exact below_regrow _ _ _ _ | assumption | refine Below.drew ?_ | refine Below.drewN' ?_ _ | refine below_grow0 _ _ ?_ | refine below_alloc0 _ ?_ | refine Below.alloc ?_ (by first | omega | (simp; done) | (simp; omega)) _ | refine Below.setCell ?_ (by first | omega | (simp; done) | (simp; omega)) _ | refine Below.grow _ _ _ ?_ (by first | omega | (simp; done) | (simp; omega)))), Lib.hid ⟨by simp, List.Pairwise.nil⟩, Lib.hid (Ow.nil _ _ _ _ _)⟩
  case round =>
    obtain ⟨k, m, A', c', ext, d, hk, hm, rfl, rfl, rfl, hok, ho⟩ := hrel
    by_cases hlt : k < l.length
    · by_cases h40 : m.length < 40
      · have hx : l[k]? = some (l[k]'hlt) := List.getElem?_eq_getElem _
        obtain ⟨b, off, rfl, hb, x0, x1, x2, x3, x4, x5, x6⟩ := H.out.Txn_at hx
        have HG := Lib.hid (fun W => tgood_any (l[k]'hlt) W (hz _ (List.getElem_mem _)))
        by_cases hg : goodT (l[k]'hlt) = 0
        · rw [hg] at HG
          have hzx := hz _ (List.getElem_mem hlt)
          generalize l[k]'hlt = x at *
          rcases Classical.em (m = []) with h0 | h0
          · have HX := Lib.hid (logOk_snoc hok.out hg (.inl h0))
            clear hx hg
            subst h0
            simp only [List.length_nil] at *
            go_wp2_with fail
            refine wp_region_noPanic ?_
            refine wp_region_held_drew (S := (fun w' => w'.cell? ⟨b, off + k * 7, none⟩ = some (.int .i64 x.zxid) ∧ w'.cell? ⟨b, off + k * 7 + 1, none⟩ = some (.int .i64 x.op) ∧ w'.cell? ⟨b, off + k * 7 + 2, none⟩ = some (.int .i64 x.session) ∧ w'.cell? ⟨b, off + k * 7 + 3, none⟩ = some (.string x.path) ∧ w'.cell? ⟨b, off + k * 7 + 4, none⟩ = some (.string x.data) ∧ w'.cell? ⟨b, off + k * 7 + 5, none⟩ = some (.int .i64 x.version) ∧ w'.cell? ⟨b, off + k * 7 + 6, none⟩ = some (.int .i64 x.owner))) (by kernel_rfl) ?h1gS (fun hHeld => ?h1gW)
            case h1gS => ((try dsimp only); (refine ⟨?_, ?_, ?_, ?_, ?_, ?_, ?_⟩ <;> go_simp))
            first | (refine wpAnyH_take (i := 0) (v := ?h1gV0) (by simp only [List.getElem?_toArray]; rfl) (by kernel_rfl) (by kernel_rfl) (by kernel_rfl) (fun _ _ _ h => h) (Or.inl ⟨by rfl, ?h1gY0⟩) (by assumption) ?h1gR0; case h1gY0 => (intro w hSw; (try dsimp only at hSw); go_simp <;> with_reducible rfl)) | (refine wpAnyH_take (i := 0) (v := undef) (by simp only [List.getElem?_toArray]; rfl) (by kernel_rfl) (by kernel_rfl) (by kernel_rfl) (fun _ _ _ h => h) (Or.inr ⟨by rfl, rfl⟩) (by assumption) ?_)
            try simp only [Act.put, List.setIfInBounds_toArray, List.set_cons_zero, List.set_cons_succ]
            first | (refine wpAnyH_take (i := 1) (v := ?h1gV1) (by simp only [List.getElem?_toArray]; rfl) (by kernel_rfl) (by kernel_rfl) (by kernel_rfl) (fun _ _ _ h => h) (Or.inl ⟨by rfl, ?h1gY1⟩) (by assumption) ?h1gR1; case h1gY1 => (intro w hSw; (try dsimp only at hSw); go_simp <;> with_reducible rfl)) | (refine wpAnyH_take (i := 1) (v := undef) (by simp only [List.getElem?_toArray]; rfl) (by kernel_rfl) (by kernel_rfl) (by kernel_rfl) (fun _ _ _ h => h) (Or.inr ⟨by rfl, rfl⟩) (by assumption) ?_)
            try simp only [Act.put, List.setIfInBounds_toArray, List.set_cons_zero, List.set_cons_succ]
            first | (refine wpAnyH_take (i := 2) (v := ?h1gV2) (by simp only [List.getElem?_toArray]; rfl) (by kernel_rfl) (by kernel_rfl) (by kernel_rfl) (fun _ _ _ h => h) (Or.inl ⟨by rfl, ?h1gY2⟩) (by assumption) ?h1gR2; case h1gY2 => (intro w hSw; (try dsimp only at hSw); go_simp <;> with_reducible rfl)) | (refine wpAnyH_take (i := 2) (v := undef) (by simp only [List.getElem?_toArray]; rfl) (by kernel_rfl) (by kernel_rfl) (by kernel_rfl) (fun _ _ _ h => h) (Or.inr ⟨by rfl, rfl⟩) (by assumption) ?_)
            try simp only [Act.put, List.setIfInBounds_toArray, List.set_cons_zero, List.set_cons_succ]
            first | (refine wpAnyH_take (i := 3) (v := ?h1gV3) (by simp only [List.getElem?_toArray]; rfl) (by kernel_rfl) (by kernel_rfl) (by kernel_rfl) (fun _ _ _ h => h) (Or.inl ⟨by rfl, ?h1gY3⟩) (by assumption) ?h1gR3; case h1gY3 => (intro w hSw; (try dsimp only at hSw); go_simp <;> with_reducible rfl)) | (refine wpAnyH_take (i := 3) (v := undef) (by simp only [List.getElem?_toArray]; rfl) (by kernel_rfl) (by kernel_rfl) (by kernel_rfl) (fun _ _ _ h => h) (Or.inr ⟨by rfl, rfl⟩) (by assumption) ?_)
            try simp only [Act.put, List.setIfInBounds_toArray, List.set_cons_zero, List.set_cons_succ]
            refine wpAnyH_ready (rs := [4]) (by kernel_rfl) (by simp) ?_
            refine AllReadyH.cons (by simp only [List.getElem?_toArray]; rfl) (fun K hK => ?h1gN4) ?h1gM4
            case h1gM4 => exact AllReadyH.nil
            go_simp
            (go_at_call 23; refine (HG.out _).mono ?_; rintro e w1 ⟨rfl, hb1⟩; obtain ⟨ext1, d1, rfl⟩ := Below.grown_eq _ hb1; clear hb1 HG)
            refine hK.out _ _ ?h1gT4 (fun hHeld => ?h1gX4)
            case h1gT4 => ((try dsimp only); (refine ⟨?_, ?_, ?_, ?_, ?_, ?_, ?_⟩ <;> go_simp))
            clear hK K
            try simp only [Act.put, List.setIfInBounds_toArray, List.set_cons_zero, List.set_cons_succ]
            first | (refine wpAnyH_take (i := 5) (v := ?h1gV5) (by simp only [List.getElem?_toArray]; rfl) (by kernel_rfl) (by kernel_rfl) (by kernel_rfl) (fun _ _ _ h => h) (Or.inl ⟨by rfl, ?h1gY5⟩) (by assumption) ?h1gR5; case h1gY5 => (intro w hSw; (try dsimp only at hSw); go_simp <;> with_reducible rfl)) | (refine wpAnyH_take (i := 5) (v := undef) (by simp only [List.getElem?_toArray]; rfl) (by kernel_rfl) (by kernel_rfl) (by kernel_rfl) (fun _ _ _ h => h) (Or.inr ⟨by rfl, rfl⟩) (by assumption) ?_)
            try simp only [Act.put, List.setIfInBounds_toArray, List.set_cons_zero, List.set_cons_succ]
            first | (refine wpAnyH_take (i := 6) (v := ?h1gV6) (by simp only [List.getElem?_toArray]; rfl) (by kernel_rfl) (by kernel_rfl) (by kernel_rfl) (fun _ _ _ h => h) (Or.inl ⟨by rfl, ?h1gY6⟩) (by assumption) ?h1gR6; case h1gY6 => (intro w hSw; (try dsimp only at hSw); go_simp <;> with_reducible rfl)) | (refine wpAnyH_take (i := 6) (v := undef) (by simp only [List.getElem?_toArray]; rfl) (by kernel_rfl) (by kernel_rfl) (by kernel_rfl) (fun _ _ _ h => h) (Or.inr ⟨by rfl, rfl⟩) (by assumption) ?_)
            try simp only [Act.put, List.setIfInBounds_toArray, List.set_cons_zero, List.set_cons_succ]
            first | (refine wpAnyH_take (i := 7) (v := ?h1gV7) (by simp only [List.getElem?_toArray]; rfl) (by kernel_rfl) (by kernel_rfl) (by kernel_rfl) (fun _ _ _ h => h) (Or.inl ⟨by rfl, ?h1gY7⟩) (by assumption) ?h1gR7; case h1gY7 => (intro w hSw; (try dsimp only at hSw); go_simp <;> with_reducible rfl)) | (refine wpAnyH_take (i := 7) (v := undef) (by simp only [List.getElem?_toArray]; rfl) (by kernel_rfl) (by kernel_rfl) (by kernel_rfl) (fun _ _ _ h => h) (Or.inr ⟨by rfl, rfl⟩) (by assumption) ?_)
            try simp only [Act.put, List.setIfInBounds_toArray, List.set_cons_zero, List.set_cons_succ]
            first | (refine wpAnyH_take (i := 8) (v := ?h1gV8) (by simp only [List.getElem?_toArray]; rfl) (by kernel_rfl) (by kernel_rfl) (by kernel_rfl) (fun _ _ _ h => h) (Or.inl ⟨by rfl, ?h1gY8⟩) (by assumption) ?h1gR8; case h1gY8 => (intro w hSw; (try dsimp only at hSw); go_simp <;> with_reducible rfl)) | (refine wpAnyH_take (i := 8) (v := undef) (by simp only [List.getElem?_toArray]; rfl) (by kernel_rfl) (by kernel_rfl) (by kernel_rfl) (fun _ _ _ h => h) (Or.inr ⟨by rfl, rfl⟩) (by assumption) ?_)
            try simp only [Act.put, List.setIfInBounds_toArray, List.set_cons_zero, List.set_cons_succ]
            first | (refine wpAnyH_take (i := 9) (v := ?h1gV9) (by simp only [List.getElem?_toArray]; rfl) (by kernel_rfl) (by kernel_rfl) (by kernel_rfl) (fun _ _ _ h => h) (Or.inl ⟨by rfl, ?h1gY9⟩) (by assumption) ?h1gR9; case h1gY9 => (intro w hSw; (try dsimp only at hSw); go_simp <;> with_reducible rfl)) | (refine wpAnyH_take (i := 9) (v := undef) (by simp only [List.getElem?_toArray]; rfl) (by kernel_rfl) (by kernel_rfl) (by kernel_rfl) (fun _ _ _ h => h) (Or.inr ⟨by rfl, rfl⟩) (by assumption) ?_)
            try simp only [Act.put, List.setIfInBounds_toArray, List.set_cons_zero, List.set_cons_succ]
            first | (refine wpAnyH_take (i := 10) (v := ?h1gV10) (by simp only [List.getElem?_toArray]; rfl) (by kernel_rfl) (by kernel_rfl) (by kernel_rfl) (fun _ _ _ h => h) (Or.inl ⟨by rfl, ?h1gY10⟩) (by assumption) ?h1gR10; case h1gY10 => (intro w hSw; (try dsimp only at hSw); go_simp <;> with_reducible rfl)) | (refine wpAnyH_take (i := 10) (v := undef) (by simp only [List.getElem?_toArray]; rfl) (by kernel_rfl) (by kernel_rfl) (by kernel_rfl) (fun _ _ _ h => h) (Or.inr ⟨by rfl, rfl⟩) (by assumption) ?_)
            try simp only [Act.put, List.setIfInBounds_toArray, List.set_cons_zero, List.set_cons_succ]
            first | (refine wpAnyH_take (i := 11) (v := ?h1gV11) (by simp only [List.getElem?_toArray]; rfl) (by kernel_rfl) (by kernel_rfl) (by kernel_rfl) (fun _ _ _ h => h) (Or.inl ⟨by rfl, ?h1gY11⟩) (by assumption) ?h1gR11; case h1gY11 => (intro w hSw; (try dsimp only at hSw); go_simp <;> with_reducible rfl)) | (refine wpAnyH_take (i := 11) (v := undef) (by simp only [List.getElem?_toArray]; rfl) (by kernel_rfl) (by kernel_rfl) (by kernel_rfl) (fun _ _ _ h => h) (Or.inr ⟨by rfl, rfl⟩) (by assumption) ?_)
            try simp only [Act.put, List.setIfInBounds_toArray, List.set_cons_zero, List.set_cons_succ]
            first | (refine wpAnyH_take (i := 12) (v := ?h1gV12) (by simp only [List.getElem?_toArray]; rfl) (by kernel_rfl) (by kernel_rfl) (by kernel_rfl) (fun _ _ _ h => h) (Or.inl ⟨by rfl, ?h1gY12⟩) (by assumption) ?h1gR12; case h1gY12 => (intro w hSw; (try dsimp only at hSw); go_simp <;> with_reducible rfl)) | (refine wpAnyH_take (i := 12) (v := undef) (by simp only [List.getElem?_toArray]; rfl) (by kernel_rfl) (by kernel_rfl) (by kernel_rfl) (fun _ _ _ h => h) (Or.inr ⟨by rfl, rfl⟩) (by assumption) ?_)
            try simp only [Act.put, List.setIfInBounds_toArray, List.set_cons_zero, List.set_cons_succ]
            first | (refine wpAnyH_take (i := 13) (v := ?h1gV13) (by simp only [List.getElem?_toArray]; rfl) (by kernel_rfl) (by kernel_rfl) (by kernel_rfl) (fun _ _ _ h => h) (Or.inl ⟨by rfl, ?h1gY13⟩) (by assumption) ?h1gR13; case h1gY13 => (intro w hSw; (try dsimp only at hSw); go_simp <;> with_reducible rfl)) | (refine wpAnyH_take (i := 13) (v := undef) (by simp only [List.getElem?_toArray]; rfl) (by kernel_rfl) (by kernel_rfl) (by kernel_rfl) (fun _ _ _ h => h) (Or.inr ⟨by rfl, rfl⟩) (by assumption) ?_)
            try simp only [Act.put, List.setIfInBounds_toArray, List.set_cons_zero, List.set_cons_succ]
            first | (refine wpAnyH_take (i := 14) (v := ?h1gV14) (by simp only [List.getElem?_toArray]; rfl) (by kernel_rfl) (by kernel_rfl) (by kernel_rfl) (fun _ _ _ h => h) (Or.inl ⟨by rfl, ?h1gY14⟩) (by assumption) ?h1gR14; case h1gY14 => (intro w hSw; (try dsimp only at hSw); go_simp <;> with_reducible rfl)) | (refine wpAnyH_take (i := 14) (v := undef) (by simp only [List.getElem?_toArray]; rfl) (by kernel_rfl) (by kernel_rfl) (by kernel_rfl) (fun _ _ _ h => h) (Or.inr ⟨by rfl, rfl⟩) (by assumption) ?_)
            try simp only [Act.put, List.setIfInBounds_toArray, List.set_cons_zero, List.set_cons_succ]
            first | (refine wpAnyH_take (i := 15) (v := ?h1gV15) (by simp only [List.getElem?_toArray]; rfl) (by kernel_rfl) (by kernel_rfl) (by kernel_rfl) (fun _ _ _ h => h) (Or.inl ⟨by rfl, ?h1gY15⟩) (by assumption) ?h1gR15; case h1gY15 => (intro w hSw; (try dsimp only at hSw); go_simp <;> with_reducible rfl)) | (refine wpAnyH_take (i := 15) (v := undef) (by simp only [List.getElem?_toArray]; rfl) (by kernel_rfl) (by kernel_rfl) (by kernel_rfl) (fun _ _ _ h => h) (Or.inr ⟨by rfl, rfl⟩) (by assumption) ?_)
            try simp only [Act.put, List.setIfInBounds_toArray, List.set_cons_zero, List.set_cons_succ]
            first | (refine wpAnyH_take (i := 16) (v := ?h1gV16) (by simp only [List.getElem?_toArray]; rfl) (by kernel_rfl) (by kernel_rfl) (by kernel_rfl) (fun _ _ _ h => h) (Or.inl ⟨by rfl, ?h1gY16⟩) (by assumption) ?h1gR16; case h1gY16 => (intro w hSw; (try dsimp only at hSw); go_simp <;> with_reducible rfl)) | (refine wpAnyH_take (i := 16) (v := undef) (by simp only [List.getElem?_toArray]; rfl) (by kernel_rfl) (by kernel_rfl) (by kernel_rfl) (fun _ _ _ h => h) (Or.inr ⟨by rfl, rfl⟩) (by assumption) ?_)
            try simp only [Act.put, List.setIfInBounds_toArray, List.set_cons_zero, List.set_cons_succ]
            first | (refine wpAnyH_take (i := 17) (v := ?h1gV17) (by simp only [List.getElem?_toArray]; rfl) (by kernel_rfl) (by kernel_rfl) (by kernel_rfl) (fun _ _ _ h => h) (Or.inl ⟨by rfl, ?h1gY17⟩) (by assumption) ?h1gR17; case h1gY17 => (intro w hSw; (try dsimp only at hSw); go_simp <;> with_reducible rfl)) | (refine wpAnyH_take (i := 17) (v := undef) (by simp only [List.getElem?_toArray]; rfl) (by kernel_rfl) (by kernel_rfl) (by kernel_rfl) (fun _ _ _ h => h) (Or.inr ⟨by rfl, rfl⟩) (by assumption) ?_)
            try simp only [Act.put, List.setIfInBounds_toArray, List.set_cons_zero, List.set_cons_succ]
            first | (refine wpAnyH_take (i := 18) (v := ?h1gV18) (by simp only [List.getElem?_toArray]; rfl) (by kernel_rfl) (by kernel_rfl) (by kernel_rfl) (fun _ _ _ h => h) (Or.inl ⟨by rfl, ?h1gY18⟩) (by assumption) ?h1gR18; case h1gY18 => (intro w hSw; (try dsimp only at hSw); go_simp <;> with_reducible rfl)) | (refine wpAnyH_take (i := 18) (v := undef) (by simp only [List.getElem?_toArray]; rfl) (by kernel_rfl) (by kernel_rfl) (by kernel_rfl) (fun _ _ _ h => h) (Or.inr ⟨by rfl, rfl⟩) (by assumption) ?_)
            try simp only [Act.put, List.setIfInBounds_toArray, List.set_cons_zero, List.set_cons_succ]
            first | (refine wpAnyH_take (i := 19) (v := ?h1gV19) (by simp only [List.getElem?_toArray]; rfl) (by kernel_rfl) (by kernel_rfl) (by kernel_rfl) (fun _ _ _ h => h) (Or.inl ⟨by rfl, ?h1gY19⟩) (by assumption) ?h1gR19; case h1gY19 => (intro w hSw; (try dsimp only at hSw); go_simp <;> with_reducible rfl)) | (refine wpAnyH_take (i := 19) (v := undef) (by simp only [List.getElem?_toArray]; rfl) (by kernel_rfl) (by kernel_rfl) (by kernel_rfl) (fun _ _ _ h => h) (Or.inr ⟨by rfl, rfl⟩) (by assumption) ?_)
            try simp only [Act.put, List.setIfInBounds_toArray, List.set_cons_zero, List.set_cons_succ]
            first | (refine wpAnyH_take (i := 20) (v := ?h1gV20) (by simp only [List.getElem?_toArray]; rfl) (by kernel_rfl) (by kernel_rfl) (by kernel_rfl) (fun _ _ _ h => h) (Or.inl ⟨by rfl, ?h1gY20⟩) (by assumption) ?h1gR20; case h1gY20 => (intro w hSw; (try dsimp only at hSw); go_simp <;> with_reducible rfl)) | (refine wpAnyH_take (i := 20) (v := undef) (by simp only [List.getElem?_toArray]; rfl) (by kernel_rfl) (by kernel_rfl) (by kernel_rfl) (fun _ _ _ h => h) (Or.inr ⟨by rfl, rfl⟩) (by assumption) ?_)
            try simp only [Act.put, List.setIfInBounds_toArray, List.set_cons_zero, List.set_cons_succ]
            first | (refine wpAnyH_take (i := 21) (v := ?h1gV21) (by simp only [List.getElem?_toArray]; rfl) (by kernel_rfl) (by kernel_rfl) (by kernel_rfl) (fun _ _ _ h => h) (Or.inl ⟨by rfl, ?h1gY21⟩) (by assumption) ?h1gR21; case h1gY21 => (intro w hSw; (try dsimp only at hSw); go_simp <;> with_reducible rfl)) | (refine wpAnyH_take (i := 21) (v := undef) (by simp only [List.getElem?_toArray]; rfl) (by kernel_rfl) (by kernel_rfl) (by kernel_rfl) (fun _ _ _ h => h) (Or.inr ⟨by rfl, rfl⟩) (by assumption) ?_)
            try simp only [Act.put, List.setIfInBounds_toArray, List.set_cons_zero, List.set_cons_succ]
            first | (refine wpAnyH_take (i := 22) (v := ?h1gV22) (by simp only [List.getElem?_toArray]; rfl) (by kernel_rfl) (by kernel_rfl) (by kernel_rfl) (fun _ _ _ h => h) (Or.inl ⟨by rfl, ?h1gY22⟩) (by assumption) ?h1gR22; case h1gY22 => (intro w hSw; (try dsimp only at hSw); go_simp <;> with_reducible rfl)) | (refine wpAnyH_take (i := 22) (v := undef) (by simp only [List.getElem?_toArray]; rfl) (by kernel_rfl) (by kernel_rfl) (by kernel_rfl) (fun _ _ _ h => h) (Or.inr ⟨by rfl, rfl⟩) (by assumption) ?_)
            try simp only [Act.put, List.setIfInBounds_toArray, List.set_cons_zero, List.set_cons_succ]
            first | (refine wpAnyH_take (i := 23) (v := ?h1gV23) (by simp only [List.getElem?_toArray]; rfl) (by kernel_rfl) (by kernel_rfl) (by kernel_rfl) (fun _ _ _ h => h) (Or.inl ⟨by rfl, ?h1gY23⟩) (by assumption) ?h1gR23; case h1gY23 => (intro w hSw; (try dsimp only at hSw); go_simp <;> with_reducible rfl)) | (refine wpAnyH_take (i := 23) (v := undef) (by simp only [List.getElem?_toArray]; rfl) (by kernel_rfl) (by kernel_rfl) (by kernel_rfl) (fun _ _ _ h => h) (Or.inr ⟨by rfl, rfl⟩) (by assumption) ?_)
            try simp only [Act.put, List.setIfInBounds_toArray, List.set_cons_zero, List.set_cons_succ]
            first | (refine wpAnyH_take (i := 24) (v := ?h1gV24) (by simp only [List.getElem?_toArray]; rfl) (by kernel_rfl) (by kernel_rfl) (by kernel_rfl) (fun _ _ _ h => h) (Or.inl ⟨by rfl, ?h1gY24⟩) (by assumption) ?h1gR24; case h1gY24 => (intro w hSw; (try dsimp only at hSw); go_simp <;> with_reducible rfl)) | (refine wpAnyH_take (i := 24) (v := undef) (by simp only [List.getElem?_toArray]; rfl) (by kernel_rfl) (by kernel_rfl) (by kernel_rfl) (fun _ _ _ h => h) (Or.inr ⟨by rfl, rfl⟩) (by assumption) ?_)
            try simp only [Act.put, List.setIfInBounds_toArray, List.set_cons_zero, List.set_cons_succ]
            first | (refine wpAnyH_take (i := 25) (v := ?h1gV25) (by simp only [List.getElem?_toArray]; rfl) (by kernel_rfl) (by kernel_rfl) (by kernel_rfl) (fun _ _ _ h => h) (Or.inl ⟨by rfl, ?h1gY25⟩) (by assumption) ?h1gR25; case h1gY25 => (intro w hSw; (try dsimp only at hSw); go_simp <;> with_reducible rfl)) | (refine wpAnyH_take (i := 25) (v := undef) (by simp only [List.getElem?_toArray]; rfl) (by kernel_rfl) (by kernel_rfl) (by kernel_rfl) (fun _ _ _ h => h) (Or.inr ⟨by rfl, rfl⟩) (by assumption) ?_)
            try simp only [Act.put, List.setIfInBounds_toArray, List.set_cons_zero, List.set_cons_succ]
            refine wpAnyH_done (by kernel_rfl) ?_ _
            refine NoPanic.normal ?_
            go_wp2_with (at_builtin; refine wpList_app _ rfl (.tmp 42) (.tmp 47) _ rfl elTxn (B := w.heap.size) (l := []) (m := [x]) rfl rfl (ho.out.below (by repeat (first | exact Below.refl _ _ | exact below_regrow _ _ _ _ | assumption | refine Below.drew ?_ | refine Below.drewN' ?_ _ | refine below_grow0 _ _ ?_ | refine below_alloc0 _ ?_ | refine Below.alloc ?_ (by first | omega | (simp; done) | (simp; omega)) _ | refine Below.setCell ?_ (by first | omega | (simp; done) | (simp; omega)) _ | refine Below.grow _ _ _ ?_ (by first | omega | (simp; done) | (simp; omega))))) (Sl.one_at cTxn 7 _ _ _ rfl _ rfl (by omega) (by simp)) cTxn_one (by simp [maxLen] <;> omega) (by simp <;> omega) (by simp <;> omega) ?_; intro v2 w2 hown2 hg2 hat2; obtain ⟨A2, c2, rfl, _⟩ := hown2.form; have HO2 := Lib.hid hown2; have HG2 : Hid (World.grownBy _ w2 (Value.slice A' 0 c').ownBlock) := Lib.hid hg2; clear hown2 hg2 hat2)
            have hwb : Below w.heap.size w w2 := Below.grown (by repeat (first | exact Below.refl _ _ | exact below_regrow _ _ _ _ | assumption | refine Below.drew ?_ | refine Below.drewN' ?_ _ | refine below_grow0 _ _ ?_ | refine below_alloc0 _ ?_ | refine Below.alloc ?_ (by first | omega | (simp; done) | (simp; omega)) _ | refine Below.setCell ?_ (by first | omega | (simp; done) | (simp; omega)) _ | refine Below.grow _ _ _ ?_ (by first | omega | (simp; done) | (simp; omega)))) HG2.out (by simp; omega) (fun g hg => (Ow.own_in ho.out hg).1)
            go_wp2_with fail
            go_roundw
            case rel => exact ⟨k + 1, [] ++ [x], A2, c2, _, _, by omega, by simp <;> omega, by go_num, by simp, grown_of hwb, HX, HO2⟩
            case measure => simp [intOf]; omega
          · obtain ⟨j, hj⟩ : ∃ j, m.length = j + 1 := ⟨m.length - 1, by have := List.length_pos_iff.2 h0; omega⟩
            have hy : m[j]? = some (m[j]'(by omega)) := List.getElem?_eq_getElem _
            obtain ⟨b2, off2, rfl, hb2, y0, _⟩ := ho.out.sl.Txn_at hy
            have hlz := lastZ_at hj hy
            rw [← hlz] at y0
            by_cases hgt : lastZ m < x.zxid
            · have HX := Lib.hid (logOk_snoc hok.out hg (.inr hgt))
              have hd1 : decide (lastZ m < x.zxid) = true := decide_eq_true hgt
              have HJ := Lib.hid hj
              generalize lastZ m = y at *
              clear hx hg hy hlz hgt h0
              rw [hj]
              have y1 : ∀ d', (grow w ext d').cell? ⟨b2, off2 + j * 7, none⟩ = some (.int .i64 y) := fun _ => y0
              have hb3 : b2 < w.heap.size + ext.size := by simpa using hb2
              clear y0
              have hl0 : ((j : Int) + 1 == 0) = false := beq_eq_false_iff_ne.2 (by omega)
              have hjj : (j : Int) < (j : Int) + 1 := by omega
              have hwj : IntKind.i64.wrap (j : Int) = (j : Int) := by unfold IntKind.wrap; simp [IntKind.signed, IntKind.bits]; omega
              go_wp2_with fail
              refine wp_region_noPanic ?_
              refine wp_region_held_drew (S := (fun w' => w'.cell? ⟨b, off + k * 7, none⟩ = some (.int .i64 x.zxid) ∧ w'.cell? ⟨b, off + k * 7 + 1, none⟩ = some (.int .i64 x.op) ∧ w'.cell? ⟨b, off + k * 7 + 2, none⟩ = some (.int .i64 x.session) ∧ w'.cell? ⟨b, off + k * 7 + 3, none⟩ = some (.string x.path) ∧ w'.cell? ⟨b, off + k * 7 + 4, none⟩ = some (.string x.data) ∧ w'.cell? ⟨b, off + k * 7 + 5, none⟩ = some (.int .i64 x.version) ∧ w'.cell? ⟨b, off + k * 7 + 6, none⟩ = some (.int .i64 x.owner) ∧ w'.cell? ⟨b2, off2 + j * 7, none⟩ = some (.int .i64 y))) (by kernel_rfl) ?h2gS (fun hHeld => ?h2gW)
              case h2gS => ((try dsimp only); (refine ⟨?_, ?_, ?_, ?_, ?_, ?_, ?_, ?_⟩ <;> go_simp))
              first | (refine wpAnyH_take (i := 0) (v := ?h2gV0) (by simp only [List.getElem?_toArray]; rfl) (by kernel_rfl) (by kernel_rfl) (by kernel_rfl) (fun _ _ _ h => h) (Or.inl ⟨by rfl, ?h2gY0⟩) (by assumption) ?h2gR0; case h2gY0 => (intro w hSw; (try dsimp only at hSw); go_simp <;> with_reducible rfl)) | (refine wpAnyH_take (i := 0) (v := undef) (by simp only [List.getElem?_toArray]; rfl) (by kernel_rfl) (by kernel_rfl) (by kernel_rfl) (fun _ _ _ h => h) (Or.inr ⟨by rfl, rfl⟩) (by assumption) ?_)
              try simp only [Act.put, List.setIfInBounds_toArray, List.set_cons_zero, List.set_cons_succ]
              first | (refine wpAnyH_take (i := 1) (v := ?h2gV1) (by simp only [List.getElem?_toArray]; rfl) (by kernel_rfl) (by kernel_rfl) (by kernel_rfl) (fun _ _ _ h => h) (Or.inl ⟨by rfl, ?h2gY1⟩) (by assumption) ?h2gR1; case h2gY1 => (intro w hSw; (try dsimp only at hSw); go_simp <;> with_reducible rfl)) | (refine wpAnyH_take (i := 1) (v := undef) (by simp only [List.getElem?_toArray]; rfl) (by kernel_rfl) (by kernel_rfl) (by kernel_rfl) (fun _ _ _ h => h) (Or.inr ⟨by rfl, rfl⟩) (by assumption) ?_)
              try simp only [Act.put, List.setIfInBounds_toArray, List.set_cons_zero, List.set_cons_succ]
              first | (refine wpAnyH_take (i := 2) (v := ?h2gV2) (by simp only [List.getElem?_toArray]; rfl) (by kernel_rfl) (by kernel_rfl) (by kernel_rfl) (fun _ _ _ h => h) (Or.inl ⟨by rfl, ?h2gY2⟩) (by assumption) ?h2gR2; case h2gY2 => (intro w hSw; (try dsimp only at hSw); go_simp <;> with_reducible rfl)) | (refine wpAnyH_take (i := 2) (v := undef) (by simp only [List.getElem?_toArray]; rfl) (by kernel_rfl) (by kernel_rfl) (by kernel_rfl) (fun _ _ _ h => h) (Or.inr ⟨by rfl, rfl⟩) (by assumption) ?_)
              try simp only [Act.put, List.setIfInBounds_toArray, List.set_cons_zero, List.set_cons_succ]
              first | (refine wpAnyH_take (i := 3) (v := ?h2gV3) (by simp only [List.getElem?_toArray]; rfl) (by kernel_rfl) (by kernel_rfl) (by kernel_rfl) (fun _ _ _ h => h) (Or.inl ⟨by rfl, ?h2gY3⟩) (by assumption) ?h2gR3; case h2gY3 => (intro w hSw; (try dsimp only at hSw); go_simp <;> with_reducible rfl)) | (refine wpAnyH_take (i := 3) (v := undef) (by simp only [List.getElem?_toArray]; rfl) (by kernel_rfl) (by kernel_rfl) (by kernel_rfl) (fun _ _ _ h => h) (Or.inr ⟨by rfl, rfl⟩) (by assumption) ?_)
              try simp only [Act.put, List.setIfInBounds_toArray, List.set_cons_zero, List.set_cons_succ]
              refine wpAnyH_ready (rs := [4]) (by kernel_rfl) (by simp) ?_
              refine AllReadyH.cons (by simp only [List.getElem?_toArray]; rfl) (fun K hK => ?h2gN4) ?h2gM4
              case h2gM4 => exact AllReadyH.nil
              go_simp
              (go_at_call 23; refine (HG.out _).mono ?_; rintro e w1 ⟨rfl, hb1⟩; obtain ⟨ext1, d1, rfl⟩ := Below.grown_eq _ hb1; clear hb1 HG)
              refine hK.out _ _ ?h2gT4 (fun hHeld => ?h2gX4)
              case h2gT4 => ((try dsimp only); (refine ⟨?_, ?_, ?_, ?_, ?_, ?_, ?_, ?_⟩ <;> go_simp))
              clear hK K
              try simp only [Act.put, List.setIfInBounds_toArray, List.set_cons_zero, List.set_cons_succ]
              first | (refine wpAnyH_take (i := 5) (v := ?h2gV5) (by simp only [List.getElem?_toArray]; rfl) (by kernel_rfl) (by kernel_rfl) (by kernel_rfl) (fun _ _ _ h => h) (Or.inl ⟨by rfl, ?h2gY5⟩) (by assumption) ?h2gR5; case h2gY5 => (intro w hSw; (try dsimp only at hSw); go_simp <;> with_reducible rfl)) | (refine wpAnyH_take (i := 5) (v := undef) (by simp only [List.getElem?_toArray]; rfl) (by kernel_rfl) (by kernel_rfl) (by kernel_rfl) (fun _ _ _ h => h) (Or.inr ⟨by rfl, rfl⟩) (by assumption) ?_)
              try simp only [Act.put, List.setIfInBounds_toArray, List.set_cons_zero, List.set_cons_succ]
              first | (refine wpAnyH_take (i := 6) (v := ?h2gV6) (by simp only [List.getElem?_toArray]; rfl) (by kernel_rfl) (by kernel_rfl) (by kernel_rfl) (fun _ _ _ h => h) (Or.inl ⟨by rfl, ?h2gY6⟩) (by assumption) ?h2gR6; case h2gY6 => (intro w hSw; (try dsimp only at hSw); go_simp <;> with_reducible rfl)) | (refine wpAnyH_take (i := 6) (v := undef) (by simp only [List.getElem?_toArray]; rfl) (by kernel_rfl) (by kernel_rfl) (by kernel_rfl) (fun _ _ _ h => h) (Or.inr ⟨by rfl, rfl⟩) (by assumption) ?_)
              try simp only [Act.put, List.setIfInBounds_toArray, List.set_cons_zero, List.set_cons_succ]
              first | (refine wpAnyH_take (i := 7) (v := ?h2gV7) (by simp only [List.getElem?_toArray]; rfl) (by kernel_rfl) (by kernel_rfl) (by kernel_rfl) (fun _ _ _ h => h) (Or.inl ⟨by rfl, ?h2gY7⟩) (by assumption) ?h2gR7; case h2gY7 => (intro w hSw; (try dsimp only at hSw); go_simp <;> with_reducible rfl)) | (refine wpAnyH_take (i := 7) (v := undef) (by simp only [List.getElem?_toArray]; rfl) (by kernel_rfl) (by kernel_rfl) (by kernel_rfl) (fun _ _ _ h => h) (Or.inr ⟨by rfl, rfl⟩) (by assumption) ?_)
              try simp only [Act.put, List.setIfInBounds_toArray, List.set_cons_zero, List.set_cons_succ]
              first | (refine wpAnyH_take (i := 8) (v := ?h2gV8) (by simp only [List.getElem?_toArray]; rfl) (by kernel_rfl) (by kernel_rfl) (by kernel_rfl) (fun _ _ _ h => h) (Or.inl ⟨by rfl, ?h2gY8⟩) (by assumption) ?h2gR8; case h2gY8 => (intro w hSw; (try dsimp only at hSw); go_simp <;> with_reducible rfl)) | (refine wpAnyH_take (i := 8) (v := undef) (by simp only [List.getElem?_toArray]; rfl) (by kernel_rfl) (by kernel_rfl) (by kernel_rfl) (fun _ _ _ h => h) (Or.inr ⟨by rfl, rfl⟩) (by assumption) ?_)
              try simp only [Act.put, List.setIfInBounds_toArray, List.set_cons_zero, List.set_cons_succ]
              first | (refine wpAnyH_take (i := 9) (v := ?h2gV9) (by simp only [List.getElem?_toArray]; rfl) (by kernel_rfl) (by kernel_rfl) (by kernel_rfl) (fun _ _ _ h => h) (Or.inl ⟨by rfl, ?h2gY9⟩) (by assumption) ?h2gR9; case h2gY9 => (intro w hSw; (try dsimp only at hSw); go_simp <;> with_reducible rfl)) | (refine wpAnyH_take (i := 9) (v := undef) (by simp only [List.getElem?_toArray]; rfl) (by kernel_rfl) (by kernel_rfl) (by kernel_rfl) (fun _ _ _ h => h) (Or.inr ⟨by rfl, rfl⟩) (by assumption) ?_)
              try simp only [Act.put, List.setIfInBounds_toArray, List.set_cons_zero, List.set_cons_succ]
              first | (refine wpAnyH_take (i := 10) (v := ?h2gV10) (by simp only [List.getElem?_toArray]; rfl) (by kernel_rfl) (by kernel_rfl) (by kernel_rfl) (fun _ _ _ h => h) (Or.inl ⟨by rfl, ?h2gY10⟩) (by assumption) ?h2gR10; case h2gY10 => (intro w hSw; (try dsimp only at hSw); go_simp <;> with_reducible rfl)) | (refine wpAnyH_take (i := 10) (v := undef) (by simp only [List.getElem?_toArray]; rfl) (by kernel_rfl) (by kernel_rfl) (by kernel_rfl) (fun _ _ _ h => h) (Or.inr ⟨by rfl, rfl⟩) (by assumption) ?_)
              try simp only [Act.put, List.setIfInBounds_toArray, List.set_cons_zero, List.set_cons_succ]
              first | (refine wpAnyH_take (i := 11) (v := ?h2gV11) (by simp only [List.getElem?_toArray]; rfl) (by kernel_rfl) (by kernel_rfl) (by kernel_rfl) (fun _ _ _ h => h) (Or.inl ⟨by rfl, ?h2gY11⟩) (by assumption) ?h2gR11; case h2gY11 => (intro w hSw; (try dsimp only at hSw); go_simp <;> with_reducible rfl)) | (refine wpAnyH_take (i := 11) (v := undef) (by simp only [List.getElem?_toArray]; rfl) (by kernel_rfl) (by kernel_rfl) (by kernel_rfl) (fun _ _ _ h => h) (Or.inr ⟨by rfl, rfl⟩) (by assumption) ?_)
              try simp only [Act.put, List.setIfInBounds_toArray, List.set_cons_zero, List.set_cons_succ]
              first | (refine wpAnyH_take (i := 12) (v := ?h2gV12) (by simp only [List.getElem?_toArray]; rfl) (by kernel_rfl) (by kernel_rfl) (by kernel_rfl) (fun _ _ _ h => h) (Or.inl ⟨by rfl, ?h2gY12⟩) (by assumption) ?h2gR12; case h2gY12 => (intro w hSw; (try dsimp only at hSw); go_simp <;> with_reducible rfl)) | (refine wpAnyH_take (i := 12) (v := undef) (by simp only [List.getElem?_toArray]; rfl) (by kernel_rfl) (by kernel_rfl) (by kernel_rfl) (fun _ _ _ h => h) (Or.inr ⟨by rfl, rfl⟩) (by assumption) ?_)
              try simp only [Act.put, List.setIfInBounds_toArray, List.set_cons_zero, List.set_cons_succ]
              first | (refine wpAnyH_take (i := 13) (v := ?h2gV13) (by simp only [List.getElem?_toArray]; rfl) (by kernel_rfl) (by kernel_rfl) (by kernel_rfl) (fun _ _ _ h => h) (Or.inl ⟨by rfl, ?h2gY13⟩) (by assumption) ?h2gR13; case h2gY13 => (intro w hSw; (try dsimp only at hSw); go_simp <;> with_reducible rfl)) | (refine wpAnyH_take (i := 13) (v := undef) (by simp only [List.getElem?_toArray]; rfl) (by kernel_rfl) (by kernel_rfl) (by kernel_rfl) (fun _ _ _ h => h) (Or.inr ⟨by rfl, rfl⟩) (by assumption) ?_)
              try simp only [Act.put, List.setIfInBounds_toArray, List.set_cons_zero, List.set_cons_succ]
              first | (refine wpAnyH_take (i := 14) (v := ?h2gV14) (by simp only [List.getElem?_toArray]; rfl) (by kernel_rfl) (by kernel_rfl) (by kernel_rfl) (fun _ _ _ h => h) (Or.inl ⟨by rfl, ?h2gY14⟩) (by assumption) ?h2gR14; case h2gY14 => (intro w hSw; (try dsimp only at hSw); go_simp <;> with_reducible rfl)) | (refine wpAnyH_take (i := 14) (v := undef) (by simp only [List.getElem?_toArray]; rfl) (by kernel_rfl) (by kernel_rfl) (by kernel_rfl) (fun _ _ _ h => h) (Or.inr ⟨by rfl, rfl⟩) (by assumption) ?_)
              try simp only [Act.put, List.setIfInBounds_toArray, List.set_cons_zero, List.set_cons_succ]
              first | (refine wpAnyH_take (i := 15) (v := ?h2gV15) (by simp only [List.getElem?_toArray]; rfl) (by kernel_rfl) (by kernel_rfl) (by kernel_rfl) (fun _ _ _ h => h) (Or.inl ⟨by rfl, ?h2gY15⟩) (by assumption) ?h2gR15; case h2gY15 => (intro w hSw; (try dsimp only at hSw); go_simp <;> with_reducible rfl)) | (refine wpAnyH_take (i := 15) (v := undef) (by simp only [List.getElem?_toArray]; rfl) (by kernel_rfl) (by kernel_rfl) (by kernel_rfl) (fun _ _ _ h => h) (Or.inr ⟨by rfl, rfl⟩) (by assumption) ?_)
              try simp only [Act.put, List.setIfInBounds_toArray, List.set_cons_zero, List.set_cons_succ]
              first | (refine wpAnyH_take (i := 16) (v := ?h2gV16) (by simp only [List.getElem?_toArray]; rfl) (by kernel_rfl) (by kernel_rfl) (by kernel_rfl) (fun _ _ _ h => h) (Or.inl ⟨by rfl, ?h2gY16⟩) (by assumption) ?h2gR16; case h2gY16 => (intro w hSw; (try dsimp only at hSw); go_simp <;> with_reducible rfl)) | (refine wpAnyH_take (i := 16) (v := undef) (by simp only [List.getElem?_toArray]; rfl) (by kernel_rfl) (by kernel_rfl) (by kernel_rfl) (fun _ _ _ h => h) (Or.inr ⟨by rfl, rfl⟩) (by assumption) ?_)
              try simp only [Act.put, List.setIfInBounds_toArray, List.set_cons_zero, List.set_cons_succ]
              first | (refine wpAnyH_take (i := 17) (v := ?h2gV17) (by simp only [List.getElem?_toArray]; rfl) (by kernel_rfl) (by kernel_rfl) (by kernel_rfl) (fun _ _ _ h => h) (Or.inl ⟨by rfl, ?h2gY17⟩) (by assumption) ?h2gR17; case h2gY17 => (intro w hSw; (try dsimp only at hSw); go_simp <;> with_reducible rfl)) | (refine wpAnyH_take (i := 17) (v := undef) (by simp only [List.getElem?_toArray]; rfl) (by kernel_rfl) (by kernel_rfl) (by kernel_rfl) (fun _ _ _ h => h) (Or.inr ⟨by rfl, rfl⟩) (by assumption) ?_)
              try simp only [Act.put, List.setIfInBounds_toArray, List.set_cons_zero, List.set_cons_succ]
              first | (refine wpAnyH_take (i := 18) (v := ?h2gV18) (by simp only [List.getElem?_toArray]; rfl) (by kernel_rfl) (by kernel_rfl) (by kernel_rfl) (fun _ _ _ h => h) (Or.inl ⟨by rfl, ?h2gY18⟩) (by assumption) ?h2gR18; case h2gY18 => (intro w hSw; (try dsimp only at hSw); go_simp <;> with_reducible rfl)) | (refine wpAnyH_take (i := 18) (v := undef) (by simp only [List.getElem?_toArray]; rfl) (by kernel_rfl) (by kernel_rfl) (by kernel_rfl) (fun _ _ _ h => h) (Or.inr ⟨by rfl, rfl⟩) (by assumption) ?_)
              try simp only [Act.put, List.setIfInBounds_toArray, List.set_cons_zero, List.set_cons_succ]
              first | (refine wpAnyH_take (i := 19) (v := ?h2gV19) (by simp only [List.getElem?_toArray]; rfl) (by kernel_rfl) (by kernel_rfl) (by kernel_rfl) (fun _ _ _ h => h) (Or.inl ⟨by rfl, ?h2gY19⟩) (by assumption) ?h2gR19; case h2gY19 => (intro w hSw; (try dsimp only at hSw); go_simp <;> with_reducible rfl)) | (refine wpAnyH_take (i := 19) (v := undef) (by simp only [List.getElem?_toArray]; rfl) (by kernel_rfl) (by kernel_rfl) (by kernel_rfl) (fun _ _ _ h => h) (Or.inr ⟨by rfl, rfl⟩) (by assumption) ?_)
              try simp only [Act.put, List.setIfInBounds_toArray, List.set_cons_zero, List.set_cons_succ]
              first | (refine wpAnyH_take (i := 20) (v := ?h2gV20) (by simp only [List.getElem?_toArray]; rfl) (by kernel_rfl) (by kernel_rfl) (by kernel_rfl) (fun _ _ _ h => h) (Or.inl ⟨by rfl, ?h2gY20⟩) (by assumption) ?h2gR20; case h2gY20 => (intro w hSw; (try dsimp only at hSw); go_simp <;> with_reducible rfl)) | (refine wpAnyH_take (i := 20) (v := undef) (by simp only [List.getElem?_toArray]; rfl) (by kernel_rfl) (by kernel_rfl) (by kernel_rfl) (fun _ _ _ h => h) (Or.inr ⟨by rfl, rfl⟩) (by assumption) ?_)
              try simp only [Act.put, List.setIfInBounds_toArray, List.set_cons_zero, List.set_cons_succ]
              first | (refine wpAnyH_take (i := 21) (v := ?h2gV21) (by simp only [List.getElem?_toArray]; rfl) (by kernel_rfl) (by kernel_rfl) (by kernel_rfl) (fun _ _ _ h => h) (Or.inl ⟨by rfl, ?h2gY21⟩) (by assumption) ?h2gR21; case h2gY21 => (intro w hSw; (try dsimp only at hSw); go_simp <;> with_reducible rfl)) | (refine wpAnyH_take (i := 21) (v := undef) (by simp only [List.getElem?_toArray]; rfl) (by kernel_rfl) (by kernel_rfl) (by kernel_rfl) (fun _ _ _ h => h) (Or.inr ⟨by rfl, rfl⟩) (by assumption) ?_)
              try simp only [Act.put, List.setIfInBounds_toArray, List.set_cons_zero, List.set_cons_succ]
              first | (refine wpAnyH_take (i := 22) (v := ?h2gV22) (by simp only [List.getElem?_toArray]; rfl) (by kernel_rfl) (by kernel_rfl) (by kernel_rfl) (fun _ _ _ h => h) (Or.inl ⟨by rfl, ?h2gY22⟩) (by assumption) ?h2gR22; case h2gY22 => (intro w hSw; (try dsimp only at hSw); go_simp <;> with_reducible rfl)) | (refine wpAnyH_take (i := 22) (v := undef) (by simp only [List.getElem?_toArray]; rfl) (by kernel_rfl) (by kernel_rfl) (by kernel_rfl) (fun _ _ _ h => h) (Or.inr ⟨by rfl, rfl⟩) (by assumption) ?_)
              try simp only [Act.put, List.setIfInBounds_toArray, List.set_cons_zero, List.set_cons_succ]
              first | (refine wpAnyH_take (i := 23) (v := ?h2gV23) (by simp only [List.getElem?_toArray]; rfl) (by kernel_rfl) (by kernel_rfl) (by kernel_rfl) (fun _ _ _ h => h) (Or.inl ⟨by rfl, ?h2gY23⟩) (by assumption) ?h2gR23; case h2gY23 => (intro w hSw; (try dsimp only at hSw); go_simp <;> with_reducible rfl)) | (refine wpAnyH_take (i := 23) (v := undef) (by simp only [List.getElem?_toArray]; rfl) (by kernel_rfl) (by kernel_rfl) (by kernel_rfl) (fun _ _ _ h => h) (Or.inr ⟨by rfl, rfl⟩) (by assumption) ?_)
              try simp only [Act.put, List.setIfInBounds_toArray, List.set_cons_zero, List.set_cons_succ]
              first | (refine wpAnyH_take (i := 24) (v := ?h2gV24) (by simp only [List.getElem?_toArray]; rfl) (by kernel_rfl) (by kernel_rfl) (by kernel_rfl) (fun _ _ _ h => h) (Or.inl ⟨by rfl, ?h2gY24⟩) (by assumption) ?h2gR24; case h2gY24 => (intro w hSw; (try dsimp only at hSw); go_simp <;> with_reducible rfl)) | (refine wpAnyH_take (i := 24) (v := undef) (by simp only [List.getElem?_toArray]; rfl) (by kernel_rfl) (by kernel_rfl) (by kernel_rfl) (fun _ _ _ h => h) (Or.inr ⟨by rfl, rfl⟩) (by assumption) ?_)
              try simp only [Act.put, List.setIfInBounds_toArray, List.set_cons_zero, List.set_cons_succ]
              first | (refine wpAnyH_take (i := 25) (v := ?h2gV25) (by simp only [List.getElem?_toArray]; rfl) (by kernel_rfl) (by kernel_rfl) (by kernel_rfl) (fun _ _ _ h => h) (Or.inl ⟨by rfl, ?h2gY25⟩) (by assumption) ?h2gR25; case h2gY25 => (intro w hSw; (try dsimp only at hSw); go_simp <;> with_reducible rfl)) | (refine wpAnyH_take (i := 25) (v := undef) (by simp only [List.getElem?_toArray]; rfl) (by kernel_rfl) (by kernel_rfl) (by kernel_rfl) (fun _ _ _ h => h) (Or.inr ⟨by rfl, rfl⟩) (by assumption) ?_)
              try simp only [Act.put, List.setIfInBounds_toArray, List.set_cons_zero, List.set_cons_succ]
              refine wpAnyH_done (by kernel_rfl) ?_ _
              refine NoPanic.normal ?_
              go_wp2_with (at_builtin; refine wpList_app _ rfl (.tmp 42) (.tmp 47) _ rfl elTxn (B := w.heap.size) (l := m) (m := [x]) rfl rfl ((show Ow cTxn 7 47 (grow w ext d) w.heap.size (.slice (some ⟨b2, off2, none⟩) (j + 1) c') m from by rw [← HJ.out]; exact ho.out).below (by repeat (first | exact Below.refl _ _ | exact below_regrow _ _ _ _ | assumption | refine Below.drew ?_ | refine Below.drewN' ?_ _ | refine below_grow0 _ _ ?_ | refine below_alloc0 _ ?_ | refine Below.alloc ?_ (by first | omega | (simp; done) | (simp; omega)) _ | refine Below.setCell ?_ (by first | omega | (simp; done) | (simp; omega)) _ | refine Below.grow _ _ _ ?_ (by first | omega | (simp; done) | (simp; omega))))) (Sl.one_at cTxn 7 _ _ _ rfl _ rfl (by omega) (by simp)) cTxn_one (by have := HJ.out; simp [maxLen] <;> omega) (by have := HJ.out; simp <;> omega) (by simp <;> omega) ?_; intro v2 w2 hown2 hg2 hat2; obtain ⟨A2, c2, rfl, _⟩ := hown2.form; have HO2 := Lib.hid hown2; have HG2 : Hid (World.grownBy _ w2 (Value.slice (some ⟨b2, off2, none⟩) (j + 1) c').ownBlock) := Lib.hid hg2; clear hown2 hg2 hat2)
              have hwb : Below w.heap.size w w2 := Below.grown (by repeat (first | exact Below.refl _ _ | exact below_regrow _ _ _ _ | assumption | refine Below.drew ?_ | refine Below.drewN' ?_ _ | refine below_grow0 _ _ ?_ | refine below_alloc0 _ ?_ | refine Below.alloc ?_ (by first | omega | (simp; done) | (simp; omega)) _ | refine Below.setCell ?_ (by first | omega | (simp; done) | (simp; omega)) _ | refine Below.grow _ _ _ ?_ (by first | omega | (simp; done) | (simp; omega)))) HG2.out (by simp; omega) (fun g hg => (Ow.own_in ho.out hg).1)
              go_wp2_with fail
              go_roundw
              case rel => exact ⟨k + 1, m ++ [x], A2, c2, _, _, by omega, by have := HJ.out; simp <;> omega, by go_num, by rw [List.length_append, HJ.out]; rfl, grown_of hwb, HX, HO2⟩
              case measure => simp [intOf]; omega
            · have hd1 : decide (lastZ m < x.zxid) = false := decide_eq_false hgt
              have HJ := Lib.hid hj
              generalize lastZ m = y at *
              clear hx hg hy hlz hgt h0
              rw [hj]
              have y1 : ∀ d', (grow w ext d').cell? ⟨b2, off2 + j * 7, none⟩ = some (.int .i64 y) := fun _ => y0
              have hb3 : b2 < w.heap.size + ext.size := by simpa using hb2
              clear y0
              have hl0 : ((j : Int) + 1 == 0) = false := beq_eq_false_iff_ne.2 (by omega)
              have hjj : (j : Int) < (j : Int) + 1 := by omega
              have hwj : IntKind.i64.wrap (j : Int) = (j : Int) := by unfold IntKind.wrap; simp [IntKind.signed, IntKind.bits]; omega
              go_wp2_with fail
              refine wp_region_noPanic ?_
              refine wp_region_held_drew (S := (fun w' => w'.cell? ⟨b, off + k * 7, none⟩ = some (.int .i64 x.zxid) ∧ w'.cell? ⟨b, off + k * 7 + 1, none⟩ = some (.int .i64 x.op) ∧ w'.cell? ⟨b, off + k * 7 + 2, none⟩ = some (.int .i64 x.session) ∧ w'.cell? ⟨b, off + k * 7 + 3, none⟩ = some (.string x.path) ∧ w'.cell? ⟨b, off + k * 7 + 4, none⟩ = some (.string x.data) ∧ w'.cell? ⟨b, off + k * 7 + 5, none⟩ = some (.int .i64 x.version) ∧ w'.cell? ⟨b, off + k * 7 + 6, none⟩ = some (.int .i64 x.owner) ∧ w'.cell? ⟨b2, off2 + j * 7, none⟩ = some (.int .i64 y))) (by kernel_rfl) ?h3gS (fun hHeld => ?h3gW)
              case h3gS => ((try dsimp only); (refine ⟨?_, ?_, ?_, ?_, ?_, ?_, ?_, ?_⟩ <;> go_simp))
              first | (refine wpAnyH_take (i := 0) (v := ?h3gV0) (by simp only [List.getElem?_toArray]; rfl) (by kernel_rfl) (by kernel_rfl) (by kernel_rfl) (fun _ _ _ h => h) (Or.inl ⟨by rfl, ?h3gY0⟩) (by assumption) ?h3gR0; case h3gY0 => (intro w hSw; (try dsimp only at hSw); go_simp <;> with_reducible rfl)) | (refine wpAnyH_take (i := 0) (v := undef) (by simp only [List.getElem?_toArray]; rfl) (by kernel_rfl) (by kernel_rfl) (by kernel_rfl) (fun _ _ _ h => h) (Or.inr ⟨by rfl, rfl⟩) (by assumption) ?_)
              try simp only [Act.put, List.setIfInBounds_toArray, List.set_cons_zero, List.set_cons_succ]
              first | (refine wpAnyH_take (i := 1) (v := ?h3gV1) (by simp only [List.getElem?_toArray]; rfl) (by kernel_rfl) (by kernel_rfl) (by kernel_rfl) (fun _ _ _ h => h) (Or.inl ⟨by rfl, ?h3gY1⟩) (by assumption) ?h3gR1; case h3gY1 => (intro w hSw; (try dsimp only at hSw); go_simp <;> with_reducible rfl)) | (refine wpAnyH_take (i := 1) (v := undef) (by simp only [List.getElem?_toArray]; rfl) (by kernel_rfl) (by kernel_rfl) (by kernel_rfl) (fun _ _ _ h => h) (Or.inr ⟨by rfl, rfl⟩) (by assumption) ?_)
              try simp only [Act.put, List.setIfInBounds_toArray, List.set_cons_zero, List.set_cons_succ]
              first | (refine wpAnyH_take (i := 2) (v := ?h3gV2) (by simp only [List.getElem?_toArray]; rfl) (by kernel_rfl) (by kernel_rfl) (by kernel_rfl) (fun _ _ _ h => h) (Or.inl ⟨by rfl, ?h3gY2⟩) (by assumption) ?h3gR2; case h3gY2 => (intro w hSw; (try dsimp only at hSw); go_simp <;> with_reducible rfl)) | (refine wpAnyH_take (i := 2) (v := undef) (by simp only [List.getElem?_toArray]; rfl) (by kernel_rfl) (by kernel_rfl) (by kernel_rfl) (fun _ _ _ h => h) (Or.inr ⟨by rfl, rfl⟩) (by assumption) ?_)
              try simp only [Act.put, List.setIfInBounds_toArray, List.set_cons_zero, List.set_cons_succ]
              first | (refine wpAnyH_take (i := 3) (v := ?h3gV3) (by simp only [List.getElem?_toArray]; rfl) (by kernel_rfl) (by kernel_rfl) (by kernel_rfl) (fun _ _ _ h => h) (Or.inl ⟨by rfl, ?h3gY3⟩) (by assumption) ?h3gR3; case h3gY3 => (intro w hSw; (try dsimp only at hSw); go_simp <;> with_reducible rfl)) | (refine wpAnyH_take (i := 3) (v := undef) (by simp only [List.getElem?_toArray]; rfl) (by kernel_rfl) (by kernel_rfl) (by kernel_rfl) (fun _ _ _ h => h) (Or.inr ⟨by rfl, rfl⟩) (by assumption) ?_)
              try simp only [Act.put, List.setIfInBounds_toArray, List.set_cons_zero, List.set_cons_succ]
              refine wpAnyH_ready (rs := [4]) (by kernel_rfl) (by simp) ?_
              refine AllReadyH.cons (by simp only [List.getElem?_toArray]; rfl) (fun K hK => ?h3gN4) ?h3gM4
              case h3gM4 => exact AllReadyH.nil
              go_simp
              (go_at_call 23; refine (HG.out _).mono ?_; rintro e w1 ⟨rfl, hb1⟩; obtain ⟨ext1, d1, rfl⟩ := Below.grown_eq _ hb1; clear hb1 HG)
              refine hK.out _ _ ?h3gT4 (fun hHeld => ?h3gX4)
              case h3gT4 => ((try dsimp only); (refine ⟨?_, ?_, ?_, ?_, ?_, ?_, ?_, ?_⟩ <;> go_simp))
              clear hK K
              try simp only [Act.put, List.setIfInBounds_toArray, List.set_cons_zero, List.set_cons_succ]
              first | (refine wpAnyH_take (i := 5) (v := ?h3gV5) (by simp only [List.getElem?_toArray]; rfl) (by kernel_rfl) (by kernel_rfl) (by kernel_rfl) (fun _ _ _ h => h) (Or.inl ⟨by rfl, ?h3gY5⟩) (by assumption) ?h3gR5; case h3gY5 => (intro w hSw; (try dsimp only at hSw); go_simp <;> with_reducible rfl)) | (refine wpAnyH_take (i := 5) (v := undef) (by simp only [List.getElem?_toArray]; rfl) (by kernel_rfl) (by kernel_rfl) (by kernel_rfl) (fun _ _ _ h => h) (Or.inr ⟨by rfl, rfl⟩) (by assumption) ?_)
              try simp only [Act.put, List.setIfInBounds_toArray, List.set_cons_zero, List.set_cons_succ]
              first | (refine wpAnyH_take (i := 6) (v := ?h3gV6) (by simp only [List.getElem?_toArray]; rfl) (by kernel_rfl) (by kernel_rfl) (by kernel_rfl) (fun _ _ _ h => h) (Or.inl ⟨by rfl, ?h3gY6⟩) (by assumption) ?h3gR6; case h3gY6 => (intro w hSw; (try dsimp only at hSw); go_simp <;> with_reducible rfl)) | (refine wpAnyH_take (i := 6) (v := undef) (by simp only [List.getElem?_toArray]; rfl) (by kernel_rfl) (by kernel_rfl) (by kernel_rfl) (fun _ _ _ h => h) (Or.inr ⟨by rfl, rfl⟩) (by assumption) ?_)
              try simp only [Act.put, List.setIfInBounds_toArray, List.set_cons_zero, List.set_cons_succ]
              first | (refine wpAnyH_take (i := 7) (v := ?h3gV7) (by simp only [List.getElem?_toArray]; rfl) (by kernel_rfl) (by kernel_rfl) (by kernel_rfl) (fun _ _ _ h => h) (Or.inl ⟨by rfl, ?h3gY7⟩) (by assumption) ?h3gR7; case h3gY7 => (intro w hSw; (try dsimp only at hSw); go_simp <;> with_reducible rfl)) | (refine wpAnyH_take (i := 7) (v := undef) (by simp only [List.getElem?_toArray]; rfl) (by kernel_rfl) (by kernel_rfl) (by kernel_rfl) (fun _ _ _ h => h) (Or.inr ⟨by rfl, rfl⟩) (by assumption) ?_)
              try simp only [Act.put, List.setIfInBounds_toArray, List.set_cons_zero, List.set_cons_succ]
              first | (refine wpAnyH_take (i := 8) (v := ?h3gV8) (by simp only [List.getElem?_toArray]; rfl) (by kernel_rfl) (by kernel_rfl) (by kernel_rfl) (fun _ _ _ h => h) (Or.inl ⟨by rfl, ?h3gY8⟩) (by assumption) ?h3gR8; case h3gY8 => (intro w hSw; (try dsimp only at hSw); go_simp <;> with_reducible rfl)) | (refine wpAnyH_take (i := 8) (v := undef) (by simp only [List.getElem?_toArray]; rfl) (by kernel_rfl) (by kernel_rfl) (by kernel_rfl) (fun _ _ _ h => h) (Or.inr ⟨by rfl, rfl⟩) (by assumption) ?_)
              try simp only [Act.put, List.setIfInBounds_toArray, List.set_cons_zero, List.set_cons_succ]
              first | (refine wpAnyH_take (i := 9) (v := ?h3gV9) (by simp only [List.getElem?_toArray]; rfl) (by kernel_rfl) (by kernel_rfl) (by kernel_rfl) (fun _ _ _ h => h) (Or.inl ⟨by rfl, ?h3gY9⟩) (by assumption) ?h3gR9; case h3gY9 => (intro w hSw; (try dsimp only at hSw); go_simp <;> with_reducible rfl)) | (refine wpAnyH_take (i := 9) (v := undef) (by simp only [List.getElem?_toArray]; rfl) (by kernel_rfl) (by kernel_rfl) (by kernel_rfl) (fun _ _ _ h => h) (Or.inr ⟨by rfl, rfl⟩) (by assumption) ?_)
              try simp only [Act.put, List.setIfInBounds_toArray, List.set_cons_zero, List.set_cons_succ]
              first | (refine wpAnyH_take (i := 10) (v := ?h3gV10) (by simp only [List.getElem?_toArray]; rfl) (by kernel_rfl) (by kernel_rfl) (by kernel_rfl) (fun _ _ _ h => h) (Or.inl ⟨by rfl, ?h3gY10⟩) (by assumption) ?h3gR10; case h3gY10 => (intro w hSw; (try dsimp only at hSw); go_simp <;> with_reducible rfl)) | (refine wpAnyH_take (i := 10) (v := undef) (by simp only [List.getElem?_toArray]; rfl) (by kernel_rfl) (by kernel_rfl) (by kernel_rfl) (fun _ _ _ h => h) (Or.inr ⟨by rfl, rfl⟩) (by assumption) ?_)
              try simp only [Act.put, List.setIfInBounds_toArray, List.set_cons_zero, List.set_cons_succ]
              first | (refine wpAnyH_take (i := 11) (v := ?h3gV11) (by simp only [List.getElem?_toArray]; rfl) (by kernel_rfl) (by kernel_rfl) (by kernel_rfl) (fun _ _ _ h => h) (Or.inl ⟨by rfl, ?h3gY11⟩) (by assumption) ?h3gR11; case h3gY11 => (intro w hSw; (try dsimp only at hSw); go_simp <;> with_reducible rfl)) | (refine wpAnyH_take (i := 11) (v := undef) (by simp only [List.getElem?_toArray]; rfl) (by kernel_rfl) (by kernel_rfl) (by kernel_rfl) (fun _ _ _ h => h) (Or.inr ⟨by rfl, rfl⟩) (by assumption) ?_)
              try simp only [Act.put, List.setIfInBounds_toArray, List.set_cons_zero, List.set_cons_succ]
              first | (refine wpAnyH_take (i := 12) (v := ?h3gV12) (by simp only [List.getElem?_toArray]; rfl) (by kernel_rfl) (by kernel_rfl) (by kernel_rfl) (fun _ _ _ h => h) (Or.inl ⟨by rfl, ?h3gY12⟩) (by assumption) ?h3gR12; case h3gY12 => (intro w hSw; (try dsimp only at hSw); go_simp <;> with_reducible rfl)) | (refine wpAnyH_take (i := 12) (v := undef) (by simp only [List.getElem?_toArray]; rfl) (by kernel_rfl) (by kernel_rfl) (by kernel_rfl) (fun _ _ _ h => h) (Or.inr ⟨by rfl, rfl⟩) (by assumption) ?_)
              try simp only [Act.put, List.setIfInBounds_toArray, List.set_cons_zero, List.set_cons_succ]
              first | (refine wpAnyH_take (i := 13) (v := ?h3gV13) (by simp only [List.getElem?_toArray]; rfl) (by kernel_rfl) (by kernel_rfl) (by kernel_rfl) (fun _ _ _ h => h) (Or.inl ⟨by rfl, ?h3gY13⟩) (by assumption) ?h3gR13; case h3gY13 => (intro w hSw; (try dsimp only at hSw); go_simp <;> with_reducible rfl)) | (refine wpAnyH_take (i := 13) (v := undef) (by simp only [List.getElem?_toArray]; rfl) (by kernel_rfl) (by kernel_rfl) (by kernel_rfl) (fun _ _ _ h => h) (Or.inr ⟨by rfl, rfl⟩) (by assumption) ?_)
              try simp only [Act.put, List.setIfInBounds_toArray, List.set_cons_zero, List.set_cons_succ]
              first | (refine wpAnyH_take (i := 14) (v := ?h3gV14) (by simp only [List.getElem?_toArray]; rfl) (by kernel_rfl) (by kernel_rfl) (by kernel_rfl) (fun _ _ _ h => h) (Or.inl ⟨by rfl, ?h3gY14⟩) (by assumption) ?h3gR14; case h3gY14 => (intro w hSw; (try dsimp only at hSw); go_simp <;> with_reducible rfl)) | (refine wpAnyH_take (i := 14) (v := undef) (by simp only [List.getElem?_toArray]; rfl) (by kernel_rfl) (by kernel_rfl) (by kernel_rfl) (fun _ _ _ h => h) (Or.inr ⟨by rfl, rfl⟩) (by assumption) ?_)
              try simp only [Act.put, List.setIfInBounds_toArray, List.set_cons_zero, List.set_cons_succ]
              first | (refine wpAnyH_take (i := 15) (v := ?h3gV15) (by simp only [List.getElem?_toArray]; rfl) (by kernel_rfl) (by kernel_rfl) (by kernel_rfl) (fun _ _ _ h => h) (Or.inl ⟨by rfl, ?h3gY15⟩) (by assumption) ?h3gR15; case h3gY15 => (intro w hSw; (try dsimp only at hSw); go_simp <;> with_reducible rfl)) | (refine wpAnyH_take (i := 15) (v := undef) (by simp only [List.getElem?_toArray]; rfl) (by kernel_rfl) (by kernel_rfl) (by kernel_rfl) (fun _ _ _ h => h) (Or.inr ⟨by rfl, rfl⟩) (by assumption) ?_)
              try simp only [Act.put, List.setIfInBounds_toArray, List.set_cons_zero, List.set_cons_succ]
              first | (refine wpAnyH_take (i := 16) (v := ?h3gV16) (by simp only [List.getElem?_toArray]; rfl) (by kernel_rfl) (by kernel_rfl) (by kernel_rfl) (fun _ _ _ h => h) (Or.inl ⟨by rfl, ?h3gY16⟩) (by assumption) ?h3gR16; case h3gY16 => (intro w hSw; (try dsimp only at hSw); go_simp <;> with_reducible rfl)) | (refine wpAnyH_take (i := 16) (v := undef) (by simp only [List.getElem?_toArray]; rfl) (by kernel_rfl) (by kernel_rfl) (by kernel_rfl) (fun _ _ _ h => h) (Or.inr ⟨by rfl, rfl⟩) (by assumption) ?_)
              try simp only [Act.put, List.setIfInBounds_toArray, List.set_cons_zero, List.set_cons_succ]
              first | (refine wpAnyH_take (i := 17) (v := ?h3gV17) (by simp only [List.getElem?_toArray]; rfl) (by kernel_rfl) (by kernel_rfl) (by kernel_rfl) (fun _ _ _ h => h) (Or.inl ⟨by rfl, ?h3gY17⟩) (by assumption) ?h3gR17; case h3gY17 => (intro w hSw; (try dsimp only at hSw); go_simp <;> with_reducible rfl)) | (refine wpAnyH_take (i := 17) (v := undef) (by simp only [List.getElem?_toArray]; rfl) (by kernel_rfl) (by kernel_rfl) (by kernel_rfl) (fun _ _ _ h => h) (Or.inr ⟨by rfl, rfl⟩) (by assumption) ?_)
              try simp only [Act.put, List.setIfInBounds_toArray, List.set_cons_zero, List.set_cons_succ]
              first | (refine wpAnyH_take (i := 18) (v := ?h3gV18) (by simp only [List.getElem?_toArray]; rfl) (by kernel_rfl) (by kernel_rfl) (by kernel_rfl) (fun _ _ _ h => h) (Or.inl ⟨by rfl, ?h3gY18⟩) (by assumption) ?h3gR18; case h3gY18 => (intro w hSw; (try dsimp only at hSw); go_simp <;> with_reducible rfl)) | (refine wpAnyH_take (i := 18) (v := undef) (by simp only [List.getElem?_toArray]; rfl) (by kernel_rfl) (by kernel_rfl) (by kernel_rfl) (fun _ _ _ h => h) (Or.inr ⟨by rfl, rfl⟩) (by assumption) ?_)
              try simp only [Act.put, List.setIfInBounds_toArray, List.set_cons_zero, List.set_cons_succ]
              first | (refine wpAnyH_take (i := 19) (v := ?h3gV19) (by simp only [List.getElem?_toArray]; rfl) (by kernel_rfl) (by kernel_rfl) (by kernel_rfl) (fun _ _ _ h => h) (Or.inl ⟨by rfl, ?h3gY19⟩) (by assumption) ?h3gR19; case h3gY19 => (intro w hSw; (try dsimp only at hSw); go_simp <;> with_reducible rfl)) | (refine wpAnyH_take (i := 19) (v := undef) (by simp only [List.getElem?_toArray]; rfl) (by kernel_rfl) (by kernel_rfl) (by kernel_rfl) (fun _ _ _ h => h) (Or.inr ⟨by rfl, rfl⟩) (by assumption) ?_)
              try simp only [Act.put, List.setIfInBounds_toArray, List.set_cons_zero, List.set_cons_succ]
              first | (refine wpAnyH_take (i := 20) (v := ?h3gV20) (by simp only [List.getElem?_toArray]; rfl) (by kernel_rfl) (by kernel_rfl) (by kernel_rfl) (fun _ _ _ h => h) (Or.inl ⟨by rfl, ?h3gY20⟩) (by assumption) ?h3gR20; case h3gY20 => (intro w hSw; (try dsimp only at hSw); go_simp <;> with_reducible rfl)) | (refine wpAnyH_take (i := 20) (v := undef) (by simp only [List.getElem?_toArray]; rfl) (by kernel_rfl) (by kernel_rfl) (by kernel_rfl) (fun _ _ _ h => h) (Or.inr ⟨by rfl, rfl⟩) (by assumption) ?_)
              try simp only [Act.put, List.setIfInBounds_toArray, List.set_cons_zero, List.set_cons_succ]
              first | (refine wpAnyH_take (i := 21) (v := ?h3gV21) (by simp only [List.getElem?_toArray]; rfl) (by kernel_rfl) (by kernel_rfl) (by kernel_rfl) (fun _ _ _ h => h) (Or.inl ⟨by rfl, ?h3gY21⟩) (by assumption) ?h3gR21; case h3gY21 => (intro w hSw; (try dsimp only at hSw); go_simp <;> with_reducible rfl)) | (refine wpAnyH_take (i := 21) (v := undef) (by simp only [List.getElem?_toArray]; rfl) (by kernel_rfl) (by kernel_rfl) (by kernel_rfl) (fun _ _ _ h => h) (Or.inr ⟨by rfl, rfl⟩) (by assumption) ?_)
              try simp only [Act.put, List.setIfInBounds_toArray, List.set_cons_zero, List.set_cons_succ]
              first | (refine wpAnyH_take (i := 22) (v := ?h3gV22) (by simp only [List.getElem?_toArray]; rfl) (by kernel_rfl) (by kernel_rfl) (by kernel_rfl) (fun _ _ _ h => h) (Or.inl ⟨by rfl, ?h3gY22⟩) (by assumption) ?h3gR22; case h3gY22 => (intro w hSw; (try dsimp only at hSw); go_simp <;> with_reducible rfl)) | (refine wpAnyH_take (i := 22) (v := undef) (by simp only [List.getElem?_toArray]; rfl) (by kernel_rfl) (by kernel_rfl) (by kernel_rfl) (fun _ _ _ h => h) (Or.inr ⟨by rfl, rfl⟩) (by assumption) ?_)
              try simp only [Act.put, List.setIfInBounds_toArray, List.set_cons_zero, List.set_cons_succ]
              first | (refine wpAnyH_take (i := 23) (v := ?h3gV23) (by simp only [List.getElem?_toArray]; rfl) (by kernel_rfl) (by kernel_rfl) (by kernel_rfl) (fun _ _ _ h => h) (Or.inl ⟨by rfl, ?h3gY23⟩) (by assumption) ?h3gR23; case h3gY23 => (intro w hSw; (try dsimp only at hSw); go_simp <;> with_reducible rfl)) | (refine wpAnyH_take (i := 23) (v := undef) (by simp only [List.getElem?_toArray]; rfl) (by kernel_rfl) (by kernel_rfl) (by kernel_rfl) (fun _ _ _ h => h) (Or.inr ⟨by rfl, rfl⟩) (by assumption) ?_)
              try simp only [Act.put, List.setIfInBounds_toArray, List.set_cons_zero, List.set_cons_succ]
              first | (refine wpAnyH_take (i := 24) (v := ?h3gV24) (by simp only [List.getElem?_toArray]; rfl) (by kernel_rfl) (by kernel_rfl) (by kernel_rfl) (fun _ _ _ h => h) (Or.inl ⟨by rfl, ?h3gY24⟩) (by assumption) ?h3gR24; case h3gY24 => (intro w hSw; (try dsimp only at hSw); go_simp <;> with_reducible rfl)) | (refine wpAnyH_take (i := 24) (v := undef) (by simp only [List.getElem?_toArray]; rfl) (by kernel_rfl) (by kernel_rfl) (by kernel_rfl) (fun _ _ _ h => h) (Or.inr ⟨by rfl, rfl⟩) (by assumption) ?_)
              try simp only [Act.put, List.setIfInBounds_toArray, List.set_cons_zero, List.set_cons_succ]
              first | (refine wpAnyH_take (i := 25) (v := ?h3gV25) (by simp only [List.getElem?_toArray]; rfl) (by kernel_rfl) (by kernel_rfl) (by kernel_rfl) (fun _ _ _ h => h) (Or.inl ⟨by rfl, ?h3gY25⟩) (by assumption) ?h3gR25; case h3gY25 => (intro w hSw; (try dsimp only at hSw); go_simp <;> with_reducible rfl)) | (refine wpAnyH_take (i := 25) (v := undef) (by simp only [List.getElem?_toArray]; rfl) (by kernel_rfl) (by kernel_rfl) (by kernel_rfl) (fun _ _ _ h => h) (Or.inr ⟨by rfl, rfl⟩) (by assumption) ?_)
              try simp only [Act.put, List.setIfInBounds_toArray, List.set_cons_zero, List.set_cons_succ]
              refine wpAnyH_done (by kernel_rfl) ?_ _
              refine NoPanic.normal ?_
              go_wp2_with fail
              go_roundw
              case rel => exact ⟨k + 1, m, some ⟨b2, off2, none⟩, c', _, _, by omega, hm, by go_num, by rw [HJ.out], grown_of (by repeat (first | exact Below.refl _ _ | exact below_regrow _ _ _ _ | assumption | refine Below.drew ?_ | refine Below.drewN' ?_ _ | refine below_grow0 _ _ ?_ | refine below_alloc0 _ ?_ | refine Below.alloc ?_ (by first | omega | (simp; done) | (simp; omega)) _ | refine Below.setCell ?_ (by first | omega | (simp; done) | (simp; omega)) _ | refine Below.grow _ _ _ ?_ (by first | omega | (simp; done) | (simp; omega)))), hok, Lib.hid (ho.out.below (by repeat (first | exact Below.refl _ _ | exact below_regrow _ _ _ _ | assumption | refine Below.drew ?_ | refine Below.drewN' ?_ _ | refine below_grow0 _ _ ?_ | refine below_alloc0 _ ?_ | refine Below.alloc ?_ (by first | omega | (simp; done) | (simp; omega)) _ | refine Below.setCell ?_ (by first | omega | (simp; done) | (simp; omega)) _ | refine Below.grow _ _ _ ?_ (by first | omega | (simp; done) | (simp; omega)))))⟩
              case measure => simp [intOf]; omega
        · have hne : (goodT (l[k]'hlt) == 0) = false := beq_eq_false_iff_ne.2 hg
          generalize goodT (l[k]'hlt) = g at *
          generalize l[k]'hlt = x at *
          clear hx hg
          go_wp2_with fail
          refine wp_region_noPanic ?_
          refine wp_region_held_drew (S := (fun w' => w'.cell? ⟨b, off + k * 7, none⟩ = some (.int .i64 x.zxid) ∧ w'.cell? ⟨b, off + k * 7 + 1, none⟩ = some (.int .i64 x.op) ∧ w'.cell? ⟨b, off + k * 7 + 2, none⟩ = some (.int .i64 x.session) ∧ w'.cell? ⟨b, off + k * 7 + 3, none⟩ = some (.string x.path) ∧ w'.cell? ⟨b, off + k * 7 + 4, none⟩ = some (.string x.data) ∧ w'.cell? ⟨b, off + k * 7 + 5, none⟩ = some (.int .i64 x.version) ∧ w'.cell? ⟨b, off + k * 7 + 6, none⟩ = some (.int .i64 x.owner))) (by kernel_rfl) ?h4gS (fun hHeld => ?h4gW)
          case h4gS => ((try dsimp only); (refine ⟨?_, ?_, ?_, ?_, ?_, ?_, ?_⟩ <;> go_simp))
          first | (refine wpAnyH_take (i := 0) (v := ?h4gV0) (by simp only [List.getElem?_toArray]; rfl) (by kernel_rfl) (by kernel_rfl) (by kernel_rfl) (fun _ _ _ h => h) (Or.inl ⟨by rfl, ?h4gY0⟩) (by assumption) ?h4gR0; case h4gY0 => (intro w hSw; (try dsimp only at hSw); go_simp <;> with_reducible rfl)) | (refine wpAnyH_take (i := 0) (v := undef) (by simp only [List.getElem?_toArray]; rfl) (by kernel_rfl) (by kernel_rfl) (by kernel_rfl) (fun _ _ _ h => h) (Or.inr ⟨by rfl, rfl⟩) (by assumption) ?_)
          try simp only [Act.put, List.setIfInBounds_toArray, List.set_cons_zero, List.set_cons_succ]
          first | (refine wpAnyH_take (i := 1) (v := ?h4gV1) (by simp only [List.getElem?_toArray]; rfl) (by kernel_rfl) (by kernel_rfl) (by kernel_rfl) (fun _ _ _ h => h) (Or.inl ⟨by rfl, ?h4gY1⟩) (by assumption) ?h4gR1; case h4gY1 => (intro w hSw; (try dsimp only at hSw); go_simp <;> with_reducible rfl)) | (refine wpAnyH_take (i := 1) (v := undef) (by simp only [List.getElem?_toArray]; rfl) (by kernel_rfl) (by kernel_rfl) (by kernel_rfl) (fun _ _ _ h => h) (Or.inr ⟨by rfl, rfl⟩) (by assumption) ?_)
          try simp only [Act.put, List.setIfInBounds_toArray, List.set_cons_zero, List.set_cons_succ]
          first | (refine wpAnyH_take (i := 2) (v := ?h4gV2) (by simp only [List.getElem?_toArray]; rfl) (by kernel_rfl) (by kernel_rfl) (by kernel_rfl) (fun _ _ _ h => h) (Or.inl ⟨by rfl, ?h4gY2⟩) (by assumption) ?h4gR2; case h4gY2 => (intro w hSw; (try dsimp only at hSw); go_simp <;> with_reducible rfl)) | (refine wpAnyH_take (i := 2) (v := undef) (by simp only [List.getElem?_toArray]; rfl) (by kernel_rfl) (by kernel_rfl) (by kernel_rfl) (fun _ _ _ h => h) (Or.inr ⟨by rfl, rfl⟩) (by assumption) ?_)
          try simp only [Act.put, List.setIfInBounds_toArray, List.set_cons_zero, List.set_cons_succ]
          first | (refine wpAnyH_take (i := 3) (v := ?h4gV3) (by simp only [List.getElem?_toArray]; rfl) (by kernel_rfl) (by kernel_rfl) (by kernel_rfl) (fun _ _ _ h => h) (Or.inl ⟨by rfl, ?h4gY3⟩) (by assumption) ?h4gR3; case h4gY3 => (intro w hSw; (try dsimp only at hSw); go_simp <;> with_reducible rfl)) | (refine wpAnyH_take (i := 3) (v := undef) (by simp only [List.getElem?_toArray]; rfl) (by kernel_rfl) (by kernel_rfl) (by kernel_rfl) (fun _ _ _ h => h) (Or.inr ⟨by rfl, rfl⟩) (by assumption) ?_)
          try simp only [Act.put, List.setIfInBounds_toArray, List.set_cons_zero, List.set_cons_succ]
          refine wpAnyH_ready (rs := [4]) (by kernel_rfl) (by simp) ?_
          refine AllReadyH.cons (by simp only [List.getElem?_toArray]; rfl) (fun K hK => ?h4gN4) ?h4gM4
          case h4gM4 => exact AllReadyH.nil
          go_simp
          (go_at_call 23; refine (HG.out _).mono ?_; rintro e w1 ⟨rfl, hb1⟩; obtain ⟨ext1, d1, rfl⟩ := Below.grown_eq _ hb1; clear hb1 HG)
          refine hK.out _ _ ?h4gT4 (fun hHeld => ?h4gX4)
          case h4gT4 => ((try dsimp only); (refine ⟨?_, ?_, ?_, ?_, ?_, ?_, ?_⟩ <;> go_simp))
          clear hK K
          try simp only [Act.put, List.setIfInBounds_toArray, List.set_cons_zero, List.set_cons_succ]
          first | (refine wpAnyH_take (i := 5) (v := ?h4gV5) (by simp only [List.getElem?_toArray]; rfl) (by kernel_rfl) (by kernel_rfl) (by kernel_rfl) (fun _ _ _ h => h) (Or.inl ⟨by rfl, ?h4gY5⟩) (by assumption) ?h4gR5; case h4gY5 => (intro w hSw; (try dsimp only at hSw); go_simp <;> with_reducible rfl)) | (refine wpAnyH_take (i := 5) (v := undef) (by simp only [List.getElem?_toArray]; rfl) (by kernel_rfl) (by kernel_rfl) (by kernel_rfl) (fun _ _ _ h => h) (Or.inr ⟨by rfl, rfl⟩) (by assumption) ?_)
          try simp only [Act.put, List.setIfInBounds_toArray, List.set_cons_zero, List.set_cons_succ]
          first | (refine wpAnyH_take (i := 6) (v := ?h4gV6) (by simp only [List.getElem?_toArray]; rfl) (by kernel_rfl) (by kernel_rfl) (by kernel_rfl) (fun _ _ _ h => h) (Or.inl ⟨by rfl, ?h4gY6⟩) (by assumption) ?h4gR6; case h4gY6 => (intro w hSw; (try dsimp only at hSw); go_simp <;> with_reducible rfl)) | (refine wpAnyH_take (i := 6) (v := undef) (by simp only [List.getElem?_toArray]; rfl) (by kernel_rfl) (by kernel_rfl) (by kernel_rfl) (fun _ _ _ h => h) (Or.inr ⟨by rfl, rfl⟩) (by assumption) ?_)
          try simp only [Act.put, List.setIfInBounds_toArray, List.set_cons_zero, List.set_cons_succ]
          first | (refine wpAnyH_take (i := 7) (v := ?h4gV7) (by simp only [List.getElem?_toArray]; rfl) (by kernel_rfl) (by kernel_rfl) (by kernel_rfl) (fun _ _ _ h => h) (Or.inl ⟨by rfl, ?h4gY7⟩) (by assumption) ?h4gR7; case h4gY7 => (intro w hSw; (try dsimp only at hSw); go_simp <;> with_reducible rfl)) | (refine wpAnyH_take (i := 7) (v := undef) (by simp only [List.getElem?_toArray]; rfl) (by kernel_rfl) (by kernel_rfl) (by kernel_rfl) (fun _ _ _ h => h) (Or.inr ⟨by rfl, rfl⟩) (by assumption) ?_)
          try simp only [Act.put, List.setIfInBounds_toArray, List.set_cons_zero, List.set_cons_succ]
          first | (refine wpAnyH_take (i := 8) (v := ?h4gV8) (by simp only [List.getElem?_toArray]; rfl) (by kernel_rfl) (by kernel_rfl) (by kernel_rfl) (fun _ _ _ h => h) (Or.inl ⟨by rfl, ?h4gY8⟩) (by assumption) ?h4gR8; case h4gY8 => (intro w hSw; (try dsimp only at hSw); go_simp <;> with_reducible rfl)) | (refine wpAnyH_take (i := 8) (v := undef) (by simp only [List.getElem?_toArray]; rfl) (by kernel_rfl) (by kernel_rfl) (by kernel_rfl) (fun _ _ _ h => h) (Or.inr ⟨by rfl, rfl⟩) (by assumption) ?_)
          try simp only [Act.put, List.setIfInBounds_toArray, List.set_cons_zero, List.set_cons_succ]
          first | (refine wpAnyH_take (i := 9) (v := ?h4gV9) (by simp only [List.getElem?_toArray]; rfl) (by kernel_rfl) (by kernel_rfl) (by kernel_rfl) (fun _ _ _ h => h) (Or.inl ⟨by rfl, ?h4gY9⟩) (by assumption) ?h4gR9; case h4gY9 => (intro w hSw; (try dsimp only at hSw); go_simp <;> with_reducible rfl)) | (refine wpAnyH_take (i := 9) (v := undef) (by simp only [List.getElem?_toArray]; rfl) (by kernel_rfl) (by kernel_rfl) (by kernel_rfl) (fun _ _ _ h => h) (Or.inr ⟨by rfl, rfl⟩) (by assumption) ?_)
          try simp only [Act.put, List.setIfInBounds_toArray, List.set_cons_zero, List.set_cons_succ]
          first | (refine wpAnyH_take (i := 10) (v := ?h4gV10) (by simp only [List.getElem?_toArray]; rfl) (by kernel_rfl) (by kernel_rfl) (by kernel_rfl) (fun _ _ _ h => h) (Or.inl ⟨by rfl, ?h4gY10⟩) (by assumption) ?h4gR10; case h4gY10 => (intro w hSw; (try dsimp only at hSw); go_simp <;> with_reducible rfl)) | (refine wpAnyH_take (i := 10) (v := undef) (by simp only [List.getElem?_toArray]; rfl) (by kernel_rfl) (by kernel_rfl) (by kernel_rfl) (fun _ _ _ h => h) (Or.inr ⟨by rfl, rfl⟩) (by assumption) ?_)
          try simp only [Act.put, List.setIfInBounds_toArray, List.set_cons_zero, List.set_cons_succ]
          first | (refine wpAnyH_take (i := 11) (v := ?h4gV11) (by simp only [List.getElem?_toArray]; rfl) (by kernel_rfl) (by kernel_rfl) (by kernel_rfl) (fun _ _ _ h => h) (Or.inl ⟨by rfl, ?h4gY11⟩) (by assumption) ?h4gR11; case h4gY11 => (intro w hSw; (try dsimp only at hSw); go_simp <;> with_reducible rfl)) | (refine wpAnyH_take (i := 11) (v := undef) (by simp only [List.getElem?_toArray]; rfl) (by kernel_rfl) (by kernel_rfl) (by kernel_rfl) (fun _ _ _ h => h) (Or.inr ⟨by rfl, rfl⟩) (by assumption) ?_)
          try simp only [Act.put, List.setIfInBounds_toArray, List.set_cons_zero, List.set_cons_succ]
          first | (refine wpAnyH_take (i := 12) (v := ?h4gV12) (by simp only [List.getElem?_toArray]; rfl) (by kernel_rfl) (by kernel_rfl) (by kernel_rfl) (fun _ _ _ h => h) (Or.inl ⟨by rfl, ?h4gY12⟩) (by assumption) ?h4gR12; case h4gY12 => (intro w hSw; (try dsimp only at hSw); go_simp <;> with_reducible rfl)) | (refine wpAnyH_take (i := 12) (v := undef) (by simp only [List.getElem?_toArray]; rfl) (by kernel_rfl) (by kernel_rfl) (by kernel_rfl) (fun _ _ _ h => h) (Or.inr ⟨by rfl, rfl⟩) (by assumption) ?_)
          try simp only [Act.put, List.setIfInBounds_toArray, List.set_cons_zero, List.set_cons_succ]
          first | (refine wpAnyH_take (i := 13) (v := ?h4gV13) (by simp only [List.getElem?_toArray]; rfl) (by kernel_rfl) (by kernel_rfl) (by kernel_rfl) (fun _ _ _ h => h) (Or.inl ⟨by rfl, ?h4gY13⟩) (by assumption) ?h4gR13; case h4gY13 => (intro w hSw; (try dsimp only at hSw); go_simp <;> with_reducible rfl)) | (refine wpAnyH_take (i := 13) (v := undef) (by simp only [List.getElem?_toArray]; rfl) (by kernel_rfl) (by kernel_rfl) (by kernel_rfl) (fun _ _ _ h => h) (Or.inr ⟨by rfl, rfl⟩) (by assumption) ?_)
          try simp only [Act.put, List.setIfInBounds_toArray, List.set_cons_zero, List.set_cons_succ]
          first | (refine wpAnyH_take (i := 14) (v := ?h4gV14) (by simp only [List.getElem?_toArray]; rfl) (by kernel_rfl) (by kernel_rfl) (by kernel_rfl) (fun _ _ _ h => h) (Or.inl ⟨by rfl, ?h4gY14⟩) (by assumption) ?h4gR14; case h4gY14 => (intro w hSw; (try dsimp only at hSw); go_simp <;> with_reducible rfl)) | (refine wpAnyH_take (i := 14) (v := undef) (by simp only [List.getElem?_toArray]; rfl) (by kernel_rfl) (by kernel_rfl) (by kernel_rfl) (fun _ _ _ h => h) (Or.inr ⟨by rfl, rfl⟩) (by assumption) ?_)
          try simp only [Act.put, List.setIfInBounds_toArray, List.set_cons_zero, List.set_cons_succ]
          first | (refine wpAnyH_take (i := 15) (v := ?h4gV15) (by simp only [List.getElem?_toArray]; rfl) (by kernel_rfl) (by kernel_rfl) (by kernel_rfl) (fun _ _ _ h => h) (Or.inl ⟨by rfl, ?h4gY15⟩) (by assumption) ?h4gR15; case h4gY15 => (intro w hSw; (try dsimp only at hSw); go_simp <;> with_reducible rfl)) | (refine wpAnyH_take (i := 15) (v := undef) (by simp only [List.getElem?_toArray]; rfl) (by kernel_rfl) (by kernel_rfl) (by kernel_rfl) (fun _ _ _ h => h) (Or.inr ⟨by rfl, rfl⟩) (by assumption) ?_)
          try simp only [Act.put, List.setIfInBounds_toArray, List.set_cons_zero, List.set_cons_succ]
          first | (refine wpAnyH_take (i := 16) (v := ?h4gV16) (by simp only [List.getElem?_toArray]; rfl) (by kernel_rfl) (by kernel_rfl) (by kernel_rfl) (fun _ _ _ h => h) (Or.inl ⟨by rfl, ?h4gY16⟩) (by assumption) ?h4gR16; case h4gY16 => (intro w hSw; (try dsimp only at hSw); go_simp <;> with_reducible rfl)) | (refine wpAnyH_take (i := 16) (v := undef) (by simp only [List.getElem?_toArray]; rfl) (by kernel_rfl) (by kernel_rfl) (by kernel_rfl) (fun _ _ _ h => h) (Or.inr ⟨by rfl, rfl⟩) (by assumption) ?_)
          try simp only [Act.put, List.setIfInBounds_toArray, List.set_cons_zero, List.set_cons_succ]
          first | (refine wpAnyH_take (i := 17) (v := ?h4gV17) (by simp only [List.getElem?_toArray]; rfl) (by kernel_rfl) (by kernel_rfl) (by kernel_rfl) (fun _ _ _ h => h) (Or.inl ⟨by rfl, ?h4gY17⟩) (by assumption) ?h4gR17; case h4gY17 => (intro w hSw; (try dsimp only at hSw); go_simp <;> with_reducible rfl)) | (refine wpAnyH_take (i := 17) (v := undef) (by simp only [List.getElem?_toArray]; rfl) (by kernel_rfl) (by kernel_rfl) (by kernel_rfl) (fun _ _ _ h => h) (Or.inr ⟨by rfl, rfl⟩) (by assumption) ?_)
          try simp only [Act.put, List.setIfInBounds_toArray, List.set_cons_zero, List.set_cons_succ]
          first | (refine wpAnyH_take (i := 18) (v := ?h4gV18) (by simp only [List.getElem?_toArray]; rfl) (by kernel_rfl) (by kernel_rfl) (by kernel_rfl) (fun _ _ _ h => h) (Or.inl ⟨by rfl, ?h4gY18⟩) (by assumption) ?h4gR18; case h4gY18 => (intro w hSw; (try dsimp only at hSw); go_simp <;> with_reducible rfl)) | (refine wpAnyH_take (i := 18) (v := undef) (by simp only [List.getElem?_toArray]; rfl) (by kernel_rfl) (by kernel_rfl) (by kernel_rfl) (fun _ _ _ h => h) (Or.inr ⟨by rfl, rfl⟩) (by assumption) ?_)
          try simp only [Act.put, List.setIfInBounds_toArray, List.set_cons_zero, List.set_cons_succ]
          first | (refine wpAnyH_take (i := 19) (v := ?h4gV19) (by simp only [List.getElem?_toArray]; rfl) (by kernel_rfl) (by kernel_rfl) (by kernel_rfl) (fun _ _ _ h => h) (Or.inl ⟨by rfl, ?h4gY19⟩) (by assumption) ?h4gR19; case h4gY19 => (intro w hSw; (try dsimp only at hSw); go_simp <;> with_reducible rfl)) | (refine wpAnyH_take (i := 19) (v := undef) (by simp only [List.getElem?_toArray]; rfl) (by kernel_rfl) (by kernel_rfl) (by kernel_rfl) (fun _ _ _ h => h) (Or.inr ⟨by rfl, rfl⟩) (by assumption) ?_)
          try simp only [Act.put, List.setIfInBounds_toArray, List.set_cons_zero, List.set_cons_succ]
          first | (refine wpAnyH_take (i := 20) (v := ?h4gV20) (by simp only [List.getElem?_toArray]; rfl) (by kernel_rfl) (by kernel_rfl) (by kernel_rfl) (fun _ _ _ h => h) (Or.inl ⟨by rfl, ?h4gY20⟩) (by assumption) ?h4gR20; case h4gY20 => (intro w hSw; (try dsimp only at hSw); go_simp <;> with_reducible rfl)) | (refine wpAnyH_take (i := 20) (v := undef) (by simp only [List.getElem?_toArray]; rfl) (by kernel_rfl) (by kernel_rfl) (by kernel_rfl) (fun _ _ _ h => h) (Or.inr ⟨by rfl, rfl⟩) (by assumption) ?_)
          try simp only [Act.put, List.setIfInBounds_toArray, List.set_cons_zero, List.set_cons_succ]
          first | (refine wpAnyH_take (i := 21) (v := ?h4gV21) (by simp only [List.getElem?_toArray]; rfl) (by kernel_rfl) (by kernel_rfl) (by kernel_rfl) (fun _ _ _ h => h) (Or.inl ⟨by rfl, ?h4gY21⟩) (by assumption) ?h4gR21; case h4gY21 => (intro w hSw; (try dsimp only at hSw); go_simp <;> with_reducible rfl)) | (refine wpAnyH_take (i := 21) (v := undef) (by simp only [List.getElem?_toArray]; rfl) (by kernel_rfl) (by kernel_rfl) (by kernel_rfl) (fun _ _ _ h => h) (Or.inr ⟨by rfl, rfl⟩) (by assumption) ?_)
          try simp only [Act.put, List.setIfInBounds_toArray, List.set_cons_zero, List.set_cons_succ]
          first | (refine wpAnyH_take (i := 22) (v := ?h4gV22) (by simp only [List.getElem?_toArray]; rfl) (by kernel_rfl) (by kernel_rfl) (by kernel_rfl) (fun _ _ _ h => h) (Or.inl ⟨by rfl, ?h4gY22⟩) (by assumption) ?h4gR22; case h4gY22 => (intro w hSw; (try dsimp only at hSw); go_simp <;> with_reducible rfl)) | (refine wpAnyH_take (i := 22) (v := undef) (by simp only [List.getElem?_toArray]; rfl) (by kernel_rfl) (by kernel_rfl) (by kernel_rfl) (fun _ _ _ h => h) (Or.inr ⟨by rfl, rfl⟩) (by assumption) ?_)
          try simp only [Act.put, List.setIfInBounds_toArray, List.set_cons_zero, List.set_cons_succ]
          first | (refine wpAnyH_take (i := 23) (v := ?h4gV23) (by simp only [List.getElem?_toArray]; rfl) (by kernel_rfl) (by kernel_rfl) (by kernel_rfl) (fun _ _ _ h => h) (Or.inl ⟨by rfl, ?h4gY23⟩) (by assumption) ?h4gR23; case h4gY23 => (intro w hSw; (try dsimp only at hSw); go_simp <;> with_reducible rfl)) | (refine wpAnyH_take (i := 23) (v := undef) (by simp only [List.getElem?_toArray]; rfl) (by kernel_rfl) (by kernel_rfl) (by kernel_rfl) (fun _ _ _ h => h) (Or.inr ⟨by rfl, rfl⟩) (by assumption) ?_)
          try simp only [Act.put, List.setIfInBounds_toArray, List.set_cons_zero, List.set_cons_succ]
          first | (refine wpAnyH_take (i := 24) (v := ?h4gV24) (by simp only [List.getElem?_toArray]; rfl) (by kernel_rfl) (by kernel_rfl) (by kernel_rfl) (fun _ _ _ h => h) (Or.inl ⟨by rfl, ?h4gY24⟩) (by assumption) ?h4gR24; case h4gY24 => (intro w hSw; (try dsimp only at hSw); go_simp <;> with_reducible rfl)) | (refine wpAnyH_take (i := 24) (v := undef) (by simp only [List.getElem?_toArray]; rfl) (by kernel_rfl) (by kernel_rfl) (by kernel_rfl) (fun _ _ _ h => h) (Or.inr ⟨by rfl, rfl⟩) (by assumption) ?_)
          try simp only [Act.put, List.setIfInBounds_toArray, List.set_cons_zero, List.set_cons_succ]
          first | (refine wpAnyH_take (i := 25) (v := ?h4gV25) (by simp only [List.getElem?_toArray]; rfl) (by kernel_rfl) (by kernel_rfl) (by kernel_rfl) (fun _ _ _ h => h) (Or.inl ⟨by rfl, ?h4gY25⟩) (by assumption) ?h4gR25; case h4gY25 => (intro w hSw; (try dsimp only at hSw); go_simp <;> with_reducible rfl)) | (refine wpAnyH_take (i := 25) (v := undef) (by simp only [List.getElem?_toArray]; rfl) (by kernel_rfl) (by kernel_rfl) (by kernel_rfl) (fun _ _ _ h => h) (Or.inr ⟨by rfl, rfl⟩) (by assumption) ?_)
          try simp only [Act.put, List.setIfInBounds_toArray, List.set_cons_zero, List.set_cons_succ]
          refine wpAnyH_done (by kernel_rfl) ?_ _
          refine NoPanic.normal ?_
          go_wp2_with fail
          go_roundw
          case rel => exact ⟨k + 1, m, A', c', _, _, by omega, hm, by go_num, rfl, grown_of (by repeat (first | exact Below.refl _ _ | exact below_regrow _ _ _ _ | assumption | refine Below.drew ?_ | refine Below.drewN' ?_ _ | refine below_grow0 _ _ ?_ | refine below_alloc0 _ ?_ | refine Below.alloc ?_ (by first | omega | (simp; done) | (simp; omega)) _ | refine Below.setCell ?_ (by first | omega | (simp; done) | (simp; omega)) _ | refine Below.grow _ _ _ ?_ (by first | omega | (simp; done) | (simp; omega)))), hok, Lib.hid (ho.out.below (by repeat (first | exact Below.refl _ _ | exact below_regrow _ _ _ _ | assumption | refine Below.drew ?_ | refine Below.drewN' ?_ _ | refine below_grow0 _ _ ?_ | refine below_alloc0 _ ?_ | refine Below.alloc ?_ (by first | omega | (simp; done) | (simp; omega)) _ | refine Below.setCell ?_ (by first | omega | (simp; done) | (simp; omega)) _ | refine Below.grow _ _ _ ?_ (by first | omega | (simp; done) | (simp; omega)))))⟩
          case measure => simp [intOf]; omega
      · go_wp2_with fail
        refine bodyPost_ret (v := .slice A' m.length c') (by simp [results, Tryd.results16, go_sem]) rfl ⟨A', c', m, rfl, hok.out, hm, ho.out.below (by repeat (first | exact Below.refl _ _ | exact below_regrow _ _ _ _ | assumption | refine Below.drew ?_ | refine Below.drewN' ?_ _ | refine below_grow0 _ _ ?_ | refine below_alloc0 _ ?_ | refine Below.alloc ?_ (by first | omega | (simp; done) | (simp; omega)) _ | refine Below.setCell ?_ (by first | omega | (simp; done) | (simp; omega)) _ | refine Below.grow _ _ _ ?_ (by first | omega | (simp; done) | (simp; omega)))), (by repeat (first | exact Below.refl _ _ | exact below_regrow _ _ _ _ | assumption | refine Below.drew ?_ | refine Below.drewN' ?_ _ | refine below_grow0 _ _ ?_ | refine below_alloc0 _ ?_ | refine Below.alloc ?_ (by first | omega | (simp; done) | (simp; omega)) _ | refine Below.setCell ?_ (by first | omega | (simp; done) | (simp; omega)) _ | refine Below.grow _ _ _ ?_ (by first | omega | (simp; done) | (simp; omega))))⟩
    · go_wp2_with fail
      refine bodyPost_ret (v := .slice A' m.length c') (by simp [results, Tryd.results16, go_sem]) rfl ⟨A', c', m, rfl, hok.out, hm, ho.out.below (by repeat (first | exact Below.refl _ _ | exact below_regrow _ _ _ _ | assumption | refine Below.drew ?_ | refine Below.drewN' ?_ _ | refine below_grow0 _ _ ?_ | refine below_alloc0 _ ?_ | refine Below.alloc ?_ (by first | omega | (simp; done) | (simp; omega)) _ | refine Below.setCell ?_ (by first | omega | (simp; done) | (simp; omega)) _ | refine Below.grow _ _ _ ?_ (by first | omega | (simp; done) | (simp; omega)))), (by repeat (first | exact Below.refl _ _ | exact below_regrow _ _ _ _ | assumption | refine Below.drew ?_ | refine Below.drewN' ?_ _ | refine below_grow0 _ _ ?_ | refine below_alloc0 _ ?_ | refine Below.alloc ?_ (by first | omega | (simp; done) | (simp; omega)) _ | refine Below.setCell ?_ (by first | omega | (simp; done) | (simp; omega)) _ | refine Below.grow _ _ _ ?_ (by first | omega | (simp; done) | (simp; omega))))⟩
end Go.Proofs.YtkoemhdchoicaaaDoor

/- the laws' laid and logs: a disk with a log on it. -/
namespace Go.Proofs.YtkoemhdchoicaaaDoor
open Go.RowKit Go.ChangeShapes Go.WideShapes Go.ChangeAt
theorem logOk_take {l : List Txn} (h : LogOk l) (k : Nat) : LogOk (l.take k) := ⟨fun t ht => h.1 t (List.mem_of_mem_take ht), h.2.sublist (List.take_sublist k l)⟩
theorem recs_small {l : List Txn} (h : LogOk l) (hn : l.length ≤ 41) : (recs l).length ≤ 42271 := by
  have := (recs_len h.1).1
  omega
theorem good_path {t : Txn} (h : goodT t = 0) : t.path.size ≤ 9223372036854775807 := by
  have h2 := body_small t h
  rw [bodyL_length] at h2
  simp only [length_bs] at h2
  omega
def LaidRes (l : List Txn) (w : World) (e : Ending) (w' : World) : Prop := ∃ A c, e = .returned (.tuple #[.agg #[.slice A (logD l).length c], .bool true]) ∧ Ow cFile 3 70 w' w.heap.size (.slice A (logD l).length c) (logD l) ∧ Below w.heap.size w w'
theorem logD_sized (l : List Txn) (h : (recs l).length ≤ 42271) : ∀ x ∈ logD l, x.sized := by
  intro x hx
  unfold logD at hx
  split at hx
  · cases hx
  · rw [List.mem_singleton.1 hx]
    refine ⟨(by decide : logN.size ≤ _), ?_, (by decide : noB.size ≤ _)⟩
    show (bS (recs l)).size ≤ _
    rw [bS_size]
    omega
end Go.Proofs.YtkoemhdchoicaaaDoor

/- Recover at a log's disk; logs; crashes of a log's disk. -/
namespace Go.Proofs.YtkoemhdchoicaaaDoor
open Go.RowKit Go.ChangeShapes Go.WideShapes Go.ChangeAt
def RecD (m : List Txn) (f : List File) (w : World) (e : Ending) (w' : World) : Prop := ∃ A c B k, e = .returned (.tuple #[.slice A m.length c, .agg #[.slice B f.length k], .int .i64 0]) ∧ Ow cTxn 7 47 w' w.heap.size (.slice A m.length c) m ∧ Ow cFile 3 70 w' w.heap.size (.slice B f.length k) f ∧ Below w.heap.size w w'
abbrev logF (m : List Txn) : List File := [⟨logN, bS (recs m), noB⟩]
theorem recover_log (v : Value) (m : List Txn) (w : World) (h : Sl cFile 3 w v (logD m)) (hm : LogOk m) (hn : m.length ≤ 41) :
    Calls Tryd.prog 20 #[.agg #[v]] w (RecD m (logF m) w) := by
  have hs := recs_small hm hn
  refine (recover_any v (logD m) w h (logD_sized _ hs)).mono ?_
  rintro e w' ⟨A, c, L, B, k, f', code, rfl, hr, h1, h2, h3⟩
  obtain ⟨rfl, rfl, rfl⟩ := rec_log hm (by omega) hr
  exact ⟨A, c, B, k, rfl, h1, h2, h3⟩
theorem crash_log {m : List Txn} (hm : LogOk m) (hn : m.length ≤ 41) (n : Nat) : crashE (logD m) n = 0 ∧ crashL (logD m) n = logD m := by
  have hs := recs_small hm hn
  have h := crash_is (log_good (m := m) (by omega)) n
  refine ⟨h.1, h.2.trans ?_⟩
  unfold logD
  split
  · rfl
  · have e : ∀ S : ByteArray, S ++ noB = S := fun S => ByteArray.append_empty
    show [crashF n (⟨logN, bS (recs m), noB⟩ : File)] = _
    unfold crashF
    simp only [List.cons.injEq, and_true]
    show (⟨logN, bS (recs m) ++ noB.extract 0 (min n 0), noB⟩ : File) = _
    rw [show noB.extract 0 (min n 0) = noB from by rw [Nat.min_zero]; rfl, e]
theorem crashLog (v : Value) (m : List Txn) (n : Nat) (w : World) (h : Sl cFile 3 w v (logD m)) (hm : LogOk m) (hn : m.length ≤ 41) :
    Calls Tryd.prog 17 #[.agg #[v], .int .i64 n] w (DkRes (logD m) 0 w) := by
  have h1 := dkCrash v (logD m) n w h (logD_sized _ (recs_small hm hn))
  rw [(crash_log hm hn n).1, (crash_log hm hn n).2] at h1
  exact h1
theorem logOk_open : LogOk [open0] := ⟨fun t ht => by rw [List.mem_singleton.1 ht]; exact good_open, List.pairwise_singleton _ _⟩
end Go.Proofs.YtkoemhdchoicaaaDoor

/- wal.Keep. -/
namespace Go.Proofs.YtkoemhdchoicaaaDoor
open Go.RowKit Go.ChangeShapes Go.WideShapes Go.ChangeAt
/-- the transactions whose numbers are at most z, up to the first one that is above -/
def upZ (z : Int) (l : List Txn) : List Txn := l.takeWhile (fun t => decide (t.zxid ≤ z))
/-- the first k stand below z -/
theorem upZ_at {z : Int} {l : List Txn} {k : Nat} (hk : k ≤ l.length) (h : ∀ t ∈ l.take k, t.zxid ≤ z) (he : k = l.length ∨ ∃ t, l[k]? = some t ∧ ¬ t.zxid ≤ z) : upZ z l = l.take k := by
  unfold upZ
  have e : l = l.take k ++ l.drop k := (List.take_append_drop k l).symm
  conv => lhs; rw [e]
  rw [List.takeWhile_append_of_pos (by intro t ht; exact decide_eq_true (h t ht))]
  rcases he with rfl | ⟨t, ht, hn⟩
  · simp
  · have hd : l.drop k = t :: l.drop (k + 1) := by
      obtain ⟨h1, h2⟩ := List.getElem?_eq_some_iff.1 ht
      rw [← h2]
      exact List.drop_eq_getElem_cons h1
    rw [hd, List.takeWhile_cons_of_neg (by simpa using hn), List.append_nil]
def keepN (z : Int) (l : List Txn) : Nat := (recs (upZ z l)).length
def KeepIs (f : List File) (z : Int) (f' : List File) (e : Int) : Prop :=
  ∃ L d c, RecIs f L d c ∧ ((c ≠ 0 ∧ f' = [] ∧ e = c) ∨ (c = 0 ∧ f' = cutL d logN (keepN z L) ∧ e = cutE d logN (keepN z L)))
def KeepRes (f : List File) (z : Int) (w : World) (e : Ending) (w' : World) : Prop := ∃ B k f' code, e = .returned (.tuple #[.agg #[.slice B (List.length (α := File) f') k], .int .i64 code]) ∧ KeepIs f z f' code ∧ Ow cFile 3 70 w' w.heap.size (.slice B f'.length k) f' ∧ Below w.heap.size w w'
theorem take_recs {l : List Txn} {k : Nat} {t : Txn} (h : l[k]? = some t) : (recs (l.take (k + 1))).length = (recs (l.take k)).length + (recT t).length := by
  rw [List.take_add_one, h]
  simp only [Option.toList_some]
  rw [recs_app, recs_one, List.length_append]
theorem recs_take_le (l : List Txn) (k : Nat) : (recs (l.take k)).length ≤ (recs l).length := by
  have e : recs l = recs (l.take k) ++ recs (l.drop k) := by rw [← recs_app, List.take_append_drop]
  rw [e, List.length_append]
  omega
theorem rec_sized {f : List File} {a : List Txn} {b : List File} (h : RecIs f a b 0) : (∀ x ∈ b, x.sized) ∧ (recs a).length ≤ 1048576 := by
  obtain ⟨_, h2, h3, h4, _⟩ := rec_again h
  refine ⟨fun x hx => (goodD_sized h2 x hx).1, ?_⟩
  have := readS_size h3
  rw [h4, bS_size] at this
  exact this
set_option maxHeartbeats 2000000 in
theorem keep_any (v : Value) (f : List File) (z : Int) (w : World) (h : Sl cFile 3 w v f) (hz : ∀ x ∈ f, x.sized) :
    Calls Tryd.prog 26 #[.agg #[v], .int .i64 z] w (KeepRes f z w) := by
  obtain ⟨A, c, rfl, hc1, hc2⟩ := h.form
  have H := Lib.hid h
  have HR := Lib.hid (fun (W : World) (v : Value) (h : Sl cFile 3 W v f) => recover_any v f W h hz)
  clear h hz
  go_enter Tryd.func26, Tryd.ntmps26
  go_upto_region 2 with ((go_at_call 20; refine (HR.out _ _ (H.out.below (by repeat (first | exact Below.refl _ _ | assumption | refine Below.drew ?_ | refine Below.drewN' ?_ _ | refine below_grow0 _ _ ?_ | refine below_alloc0 _ ?_ | refine Below.alloc ?_ (by first | omega | (simp; done) | (simp; omega)) _ | refine Below.setCell ?_ (by first | omega | (simp; done) | (simp; omega)) _ | refine Below.grow _ _ _ ?_ (by first | omega | (simp; done) | (simp; omega)))))).mono ?_; rintro e w1 ⟨A2, c2, L, B, k, d, code, rfl, hr, ho2, ho3, hb1⟩; obtain ⟨ext1, d1, rfl⟩ := Below.grown_eq _ hb1; have HO2 := Lib.hid ho2; have HO3 := Lib.hid ho3; have HI := Lib.hid hr; clear ho2 ho3 hb1 hr HR))
  by_cases h0 : code = 0
  · subst h0
    have hl := rec_again HI.out
    have hs := rec_sized HI.out
    have HG := Lib.hid hl.1.1
    have hsz := hs.2
    have HC := Lib.hid (fun (n : Int) (W : World) (v : Value) (h : Sl cFile 3 W v d) => dkCut v d logN n W h hs.1)
    have hL : L.length ≤ 140737488355328 := by have := (recs_len hl.1.1).2; omega
    have HE := Lib.hid (fun (t : Txn) (ht : t ∈ L) (W : World) => by
      have h1 := encode_any t W (good_path (hl.1.1 t ht))
      rw [show encR t = bS (recT t) from if_pos (hl.1.1 t ht), hl.1.1 t ht] at h1
      exact h1)
    clear hl hs
    go_wp2_with fail
    go_loopw [8, 25] (fun n i wr => ∃ (k0 : Nat) (ext : Array Obj) (d' : Nat), k0 ≤ L.length ∧ Hid (∀ t ∈ L.take k0, t.zxid ≤ z) ∧ n = .int .i64 ((recs (L.take k0)).length : Nat) ∧ i = .int .i64 k0 ∧ wr = grow ((w.alloc (.cells #[.slice B d.length k] 26)).alloc (.cells #[.slice none 0 0] 26)) ext d' ∧ Hid (Sl cTxn 7 wr (.slice A2 L.length c2) L) ∧ Hid (Sl cFile 3 wr (.slice B d.length k) d)) (fun _ i _ => L.length - (intOf i).toNat)
    case atStart => exact ⟨0, _, _, Nat.zero_le _, Lib.hid (by simp), rfl, rfl, rfl, Lib.hid ((HO2.out.regrow (Nat.le_refl _) (by simp)).sl), Lib.hid ((HO3.out.regrow (Nat.le_refl _) (by simp)).sl)⟩
    case round =>
      obtain ⟨k0, ext, d', hk, hup, rfl, rfl, rfl, S2, S3⟩ := hrel
      clear HO2 HO3
      have hrk := recs_take_le L k0
      by_cases hlt : k0 < L.length
      · have hx : L[k0]? = some (L[k0]'hlt) := List.getElem?_eq_getElem _
        obtain ⟨bk, off, rfl, hbw, x0, x1, x2, x3, x4, x5, x6⟩ := S2.out.Txn_at hx
        have HEX := Lib.hid (HE.out _ (List.getElem_mem hlt))
        have htk := take_recs hx
        have hrk1 := recs_take_le L (k0 + 1)
        by_cases hle : (L[k0]'hlt).zxid ≤ z
        · have HUP : Hid (∀ t ∈ L.take (k0 + 1), t.zxid ≤ z) := Lib.hid (fun t ht => by
            rw [List.take_add_one, hx] at ht
            rcases List.mem_append.1 ht with ht | ht
            · exact hup.out t ht
            · simp at ht; rw [ht]; exact hle)
          generalize L[k0]'hlt = x at *
          have hgt : decide (z < x.zxid) = false := decide_eq_false (by omega)
          have hbs := bS_size (recT x)
          generalize hr : bS (recT x) = r at *
          have HTK : Hid ((recs (L.take (k0 + 1))).length = (recs (L.take k0)).length + r.size) := Lib.hid (by omega)
          have hrr : (recs (L.take k0)).length + r.size ≤ 1048576 := by omega
          generalize (recs (L.take k0)).length = m0 at *
          clear hx htk hrk1 hbs hr hle hrk
          go_wp2_with ((go_at_call 14; refine (HEX.out _).mono ?_; rintro e w1 ⟨rfl, hb1⟩; obtain ⟨ext2, d2, rfl⟩ := Below.grown_eq _ hb1; clear hb1))
          go_roundw
          case rel => exact ⟨k0 + 1, _, _, by omega, HUP, by rw [HTK.out]; simp, by go_num, grown_of (by repeat (first | exact Below.refl _ _ | assumption | refine Below.drew ?_ | refine Below.drewN' ?_ _ | refine below_grow0 _ _ ?_ | refine below_alloc0 _ ?_ | refine Below.alloc ?_ (by first | omega | (simp; done) | (simp; omega)) _ | refine Below.setCell ?_ (by first | omega | (simp; done) | (simp; omega)) _ | refine Below.grow _ _ _ ?_ (by first | omega | (simp; done) | (simp; omega)))), Lib.hid (S2.out.below (by repeat (first | exact Below.refl _ _ | assumption | refine Below.drew ?_ | refine Below.drewN' ?_ _ | refine below_grow0 _ _ ?_ | refine below_alloc0 _ ?_ | refine Below.alloc ?_ (by first | omega | (simp; done) | (simp; omega)) _ | refine Below.setCell ?_ (by first | omega | (simp; done) | (simp; omega)) _ | refine Below.grow _ _ _ ?_ (by first | omega | (simp; done) | (simp; omega))))), Lib.hid (S3.out.below (by repeat (first | exact Below.refl _ _ | assumption | refine Below.drew ?_ | refine Below.drewN' ?_ _ | refine below_grow0 _ _ ?_ | refine below_alloc0 _ ?_ | refine Below.alloc ?_ (by first | omega | (simp; done) | (simp; omega)) _ | refine Below.setCell ?_ (by first | omega | (simp; done) | (simp; omega)) _ | refine Below.grow _ _ _ ?_ (by first | omega | (simp; done) | (simp; omega)))))⟩
          case measure => simp [intOf]; omega
        · have hu := upZ_at hk hup.out (.inr ⟨_, hx, hle⟩)
          have HK : Hid (keepN z L = (recs (L.take k0)).length) := Lib.hid (by unfold keepN; rw [hu])
          generalize L[k0]'hlt = x at *
          have hgt : decide (z < x.zxid) = true := decide_eq_true (by omega)
          generalize (recs (L.take k0)).length = m0 at *
          clear hx htk hrk1 hle hu HEX
          go_wp2_with ((go_at_call 35; refine (HC.out _ _ _ (S3.out.below (by repeat (first | exact Below.refl _ _ | assumption | refine Below.drew ?_ | refine Below.drewN' ?_ _ | refine below_grow0 _ _ ?_ | refine below_alloc0 _ ?_ | refine Below.alloc ?_ (by first | omega | (simp; done) | (simp; omega)) _ | refine Below.setCell ?_ (by first | omega | (simp; done) | (simp; omega)) _ | refine Below.grow _ _ _ ?_ (by first | omega | (simp; done) | (simp; omega)))))).mono ?_; rintro e w1 ⟨A3, k3, rfl, ho3, hb3⟩; obtain ⟨ext3, d3, rfl⟩ := Below.grown_eq _ hb3; have HO3 := Lib.hid ho3; clear ho3 hb3))
          refine bodyPost_ret (v := .tuple #[.agg #[.slice A3 (cutL d logN (m0 : Int)).length k3], .int .i64 (cutE d logN (m0 : Int))]) (by simp [results, Tryd.results26, go_sem]) rfl ⟨A3, k3, _, _, rfl, ⟨L, d, 0, HI.out, .inr ⟨rfl, by rw [HK.out], by rw [HK.out]⟩⟩, ?_, (by repeat (first | exact Below.refl _ _ | assumption | refine Below.drew ?_ | refine Below.drewN' ?_ _ | refine below_grow0 _ _ ?_ | refine below_alloc0 _ ?_ | refine Below.alloc ?_ (by first | omega | (simp; done) | (simp; omega)) _ | refine Below.setCell ?_ (by first | omega | (simp; done) | (simp; omega)) _ | refine Below.grow _ _ _ ?_ (by first | omega | (simp; done) | (simp; omega))))⟩
          first | exact (HO3.out.regrow (Nat.le_refl _) (by simp)).mono (by simp; omega) | exact (HO3.out.below (by repeat (first | exact Below.refl _ _ | assumption | refine Below.drew ?_ | refine Below.drewN' ?_ _ | refine below_grow0 _ _ ?_ | refine below_alloc0 _ ?_ | refine Below.alloc ?_ (by first | omega | (simp; done) | (simp; omega)) _ | refine Below.setCell ?_ (by first | omega | (simp; done) | (simp; omega)) _ | refine Below.grow _ _ _ ?_ (by first | omega | (simp; done) | (simp; omega))))).mono (by simp; omega)
      · have hkl : k0 = L.length := by omega
        have hu := upZ_at hk hup.out (.inl hkl)
        have HK : Hid (keepN z L = (recs (L.take k0)).length) := Lib.hid (by unfold keepN; rw [hu])
        generalize (recs (L.take k0)).length = m0 at *
        clear hu
        subst hkl
        go_wp2_with ((go_at_call 35; refine (HC.out _ _ _ (S3.out.below (by repeat (first | exact Below.refl _ _ | assumption | refine Below.drew ?_ | refine Below.drewN' ?_ _ | refine below_grow0 _ _ ?_ | refine below_alloc0 _ ?_ | refine Below.alloc ?_ (by first | omega | (simp; done) | (simp; omega)) _ | refine Below.setCell ?_ (by first | omega | (simp; done) | (simp; omega)) _ | refine Below.grow _ _ _ ?_ (by first | omega | (simp; done) | (simp; omega)))))).mono ?_; rintro e w1 ⟨A3, k3, rfl, ho3, hb3⟩; obtain ⟨ext3, d3, rfl⟩ := Below.grown_eq _ hb3; have HO3 := Lib.hid ho3; clear ho3 hb3))
        refine bodyPost_ret (v := .tuple #[.agg #[.slice A3 (cutL d logN (m0 : Int)).length k3], .int .i64 (cutE d logN (m0 : Int))]) (by simp [results, Tryd.results26, go_sem]) rfl ⟨A3, k3, _, _, rfl, ⟨L, d, 0, HI.out, .inr ⟨rfl, by rw [HK.out], by rw [HK.out]⟩⟩, ?_, (by repeat (first | exact Below.refl _ _ | assumption | refine Below.drew ?_ | refine Below.drewN' ?_ _ | refine below_grow0 _ _ ?_ | refine below_alloc0 _ ?_ | refine Below.alloc ?_ (by first | omega | (simp; done) | (simp; omega)) _ | refine Below.setCell ?_ (by first | omega | (simp; done) | (simp; omega)) _ | refine Below.grow _ _ _ ?_ (by first | omega | (simp; done) | (simp; omega))))⟩
        first | exact (HO3.out.regrow (Nat.le_refl _) (by simp)).mono (by simp; omega) | exact (HO3.out.below (by repeat (first | exact Below.refl _ _ | assumption | refine Below.drew ?_ | refine Below.drewN' ?_ _ | refine below_grow0 _ _ ?_ | refine below_alloc0 _ ?_ | refine Below.alloc ?_ (by first | omega | (simp; done) | (simp; omega)) _ | refine Below.setCell ?_ (by first | omega | (simp; done) | (simp; omega)) _ | refine Below.grow _ _ _ ?_ (by first | omega | (simp; done) | (simp; omega))))).mono (by simp; omega)
  · have hne : (code != 0) = true := bne_iff_ne.2 h0
    have HN := Lib.hid h0
    clear h0
    go_wp2_with fail
    refine bodyPost_ret (v := .tuple #[.agg #[.slice none ([] : List File).length 0], .int .i64 code]) (by simp [results, Tryd.results26, go_sem]) rfl ⟨none, 0, [], code, rfl, ⟨L, d, code, HI.out, .inl ⟨HN.out, rfl, rfl⟩⟩, Ow.nil _ _ _ _ _, (by repeat (first | exact Below.refl _ _ | assumption | refine Below.drew ?_ | refine Below.drewN' ?_ _ | refine below_grow0 _ _ ?_ | refine below_alloc0 _ ?_ | refine Below.alloc ?_ (by first | omega | (simp; done) | (simp; omega)) _ | refine Below.setCell ?_ (by first | omega | (simp; done) | (simp; omega)) _ | refine Below.grow _ _ _ ?_ (by first | omega | (simp; done) | (simp; omega))))⟩
end Go.Proofs.YtkoemhdchoicaaaDoor

/- Arguments that hold slices in structs, or slices of slices: what a reading says of them, down to the leaves. No program is in sight but by variable. -/
namespace Go.Proofs.YtkoemhdchoicaaaDoor
open Go.RowKit Go.ChangeShapes Go.WideShapes Go.Deep
set_option linter.unusedVariables false
/-- cells of a type, down to 'n' levels -/
def Deep (P : Program) (w : World) : Nat → TypeId → List Value → Prop
  | 0, _, _ => True
  | n + 1, t, cs => match P.underlying t with
    | some .bool => ∃ b, cs = [.bool b]
    | some (.int k) => ∃ m, cs = [.int k m] ∧ (Lit.int k m).wf = true
    | some .string => ∃ s : ByteArray, cs = [.string s] ∧ s.size ≤ reachBytes
    | some (.struct fs) => cs.length = P.cellsOf t ∧ ∀ (i : Nat) (f : Field), fs[i]? = some f → Deep P w n f.type ((cs.drop f.offset).take (P.cellsOf f.type))
    | some (.slice e) => ∃ v xs, cs = [v] ∧ (0 < P.cellsOf e → Row w (P.cellsOf e) v xs) ∧ xs.length * P.bytesOf e ≤ reachBytes ∧ ∀ x ∈ xs, Deep P w n e x
    | _ => True
section
variable {H : Type} {enc : TypeId × Value → H} {P : Program} {w : World} {spare : Nat → Bool} {held : Bool}
theorem weightsAll_mem {e : TypeId} : ∀ {l : List (DataW H)} {d : DataW H}, d ∈ l → ∀ m ∈ d.weights P e, m ∈ DataW.weightsAll P e l
  | x :: l, d, h, m, hm => by
    simp only [DataW.weightsAll, List.mem_append]
    rcases List.mem_cons.1 h with rfl | h
    · exact .inl hm
    · exact .inr (weightsAll_mem h m hm)
/-- a row of cells, element by element -/
theorem row_of_cells {e : TypeId} {a : Addr} {len cap : Nat} {Q : List Value → Prop} (h0 : 0 < P.cellsOf e) (hl : len ≤ cap) (hm : cap ≤ maxLen) (ha : 0 < len → a.block < w.heap.size)
    (hex : ∀ i, i < len → ∃ cs', w.cells? 0 (a.add (i * P.cellsOf e)) (P.cellsOf e) = some cs' ∧ Q cs') :
    ∃ xs : List (List Value), xs.length = len ∧ Row w (P.cellsOf e) (.slice (some a) len cap) xs ∧ ∀ x ∈ xs, Q x := by
  have hch : ∃ g : Nat → List Value, ∀ i, i < len → w.cells? 0 (a.add (i * P.cellsOf e)) (P.cellsOf e) = some (g i) ∧ Q (g i) :=
    ⟨fun i => if h : i < len then Classical.choose (hex i h) else [], fun i hil => by simp only [hil, dif_pos]; exact Classical.choose_spec (hex i hil)⟩
  obtain ⟨g, hg⟩ := hch
  have hg1 : ∀ i, i < len → (g i).length = P.cellsOf e ∧ ∀ j u, (g i)[j]? = some u → w.cell? (a.add (i * P.cellsOf e + j)) = some u := by
    intro i hi
    obtain ⟨_, hcl, hat⟩ := World.cells?_some (hg i hi).1
    refine ⟨hcl, fun j u hu => ?_⟩
    have hj : j < P.cellsOf e := by have := (List.getElem?_eq_some_iff.1 hu).1; omega
    rw [← Go.Deep.add_add, hat j hj, hu]
  refine ⟨(List.range len).map g, by simp, ⟨some a, cap, by simp, by simpa using hl, hm, ?_, ?_⟩, ?_⟩
  · intro x hx
    simp at hx
    obtain ⟨i, hil, rfl⟩ := hx
    exact (hg1 i hil).1
  · intro hpos
    simp at hpos
    have h00 : ∃ u, w.cell? a = some u := by
      obtain ⟨h01, h02⟩ := hg1 0 hpos
      have hu : (g 0)[0]? = some ((g 0)[0]'(by omega)) := List.getElem?_eq_getElem _
      exact ⟨_, by simpa [add_zero'] using h02 0 _ hu⟩
    obtain ⟨u0, hu0⟩ := h00
    have hsp := spot_none hu0
    refine ⟨a.block, a.off, by rw [← hsp], ha hpos, ?_⟩
    intro i x hx j u hu
    have hil : i < len := by have := (List.getElem?_eq_some_iff.1 hx).1; simpa using this
    simp [hil] at hx
    subst hx
    have := (hg1 i hil).2 j u hu
    rw [hsp] at this
    have hadd : (⟨a.block, a.off, none⟩ : Addr).add (i * P.cellsOf e + j) = ⟨a.block, a.off + i * P.cellsOf e + j, none⟩ := by
      unfold Addr.add
      split
      · rename_i h0'; rw [Nat.add_assoc, h0']; rfl
      · rw [Nat.add_assoc]
    rwa [hadd] at this
  · intro x hx
    simp at hx
    obtain ⟨i, hil, rfl⟩ := hx
    exact (hg i hil).2
theorem deep_trod : ∀ (n : Nat) {t : TypeId} {fuel : Nat} {cs : List Value} {d : DataW H} {pl : List MemPlace}, DataW.trod enc P w 0 spare held fuel t cs = some (d, pl) →
    (∀ m ∈ d.weights P t, m ≤ reachBytes) → Deep P w n t cs
  | 0, _, _, _, _, _, _, _ => trivial
  | n + 1, t, fuel, cs, d, pl, hx, hw => by
    unfold Deep
    split
    · rename_i hu
      obtain ⟨b, rfl, _⟩ := DataW.trod_bool hu hx
      exact ⟨b, rfl⟩
    · rename_i k hu
      obtain ⟨m, rfl, _, hm⟩ := DataW.trod_int hu hx
      exact ⟨m, rfl, hm⟩
    · rename_i hu
      obtain ⟨s, rfl, hd, hm⟩ := DataW.trod_string hu hx
      injection hd with hd _
      subst hd
      exact ⟨s, rfl, by simpa [DataW.weights] using hw⟩
    · rename_i fs hu
      obtain ⟨xs, m, _, hd, hlen, hxl, hf⟩ := DataW.trod_struct hu hx
      injection hd with hd _
      subst hd
      refine ⟨hlen, fun i f hif => ?_⟩
      have hi : i < xs.length := by have := (Array.getElem?_eq_some_iff.1 hif).1; omega
      have hy : xs[i]? = some xs[i] := List.getElem?_eq_getElem hi
      have h1 := hf i f hif
      rw [hy] at h1
      refine deep_trod n (d := xs[i].1) (pl := xs[i].2) h1 fun m hm => hw m ?_
      simp only [DataW.weights, hu]
      exact DataW.weights_mem_each (j := i) (t := f.type) (d := xs[i].1) (by simp [hif]) (by simp [hy]) m hm
    · rename_i e hu
      rcases Go.Deep.open_slice hu hx with ⟨rfl, hx'⟩ | ⟨a, len, cap, m, fu, D, Pl, rfl, _, hl, hm, hmm, hx', hi⟩
      · exact ⟨_, [], rfl, fun _ => Row.nil _ _, by simp, by simp⟩
      · injection hx' with hd hpl
        subst hd
        have hml : len ≤ m := by rw [hmm]; split <;> omega
        have hwt : (len + (m - len)) * P.bytesOf e ≤ reachBytes := hw _ (by simp [DataW.weights, hu])
        have hwt' : len * P.bytesOf e ≤ reachBytes := Nat.le_trans (Nat.mul_le_mul_right _ (Nat.le_add_right _ _)) hwt
        have hel : ∀ i, i < len → ∃ cs', w.cells? 0 (a.add (i * P.cellsOf e)) (P.cellsOf e) = some cs' ∧ Deep P w n e cs' := by
          intro i hil
          obtain ⟨cs', hc', ht'⟩ := hi i (by omega)
          refine ⟨cs', hc', deep_trod n ht' fun q hq => hw q ?_⟩
          simp only [DataW.weights, hu]
          refine List.mem_cons_of_mem _ (List.mem_append.2 (.inl ?_))
          exact weightsAll_mem (List.mem_map.2 ⟨i, List.mem_range.2 hil, rfl⟩) q hq
        by_cases h0 : 0 < P.cellsOf e
        · have hb : 0 < len → a.block < w.heap.size := by
            intro hpos
            have hp : MemPlace.cell a.block a.off ∈ pl := by
              rw [hpl]
              refine List.mem_append.2 (.inl ?_)
              have hpos' : 0 < m * P.cellsOf e := Nat.mul_pos (by omega) h0
              simp only [MemPlace.row, List.mem_map, List.mem_range]
              exact ⟨0, hpos', by simp⟩
            exact DataW.trod_lt _ _ _ _ hx _ hp
          obtain ⟨xs, hxs, hrow, hall⟩ := row_of_cells h0 hl hm hb hel
          exact ⟨_, xs, rfl, fun _ => hrow, by rw [hxs]; exact hwt', hall⟩
        · exact ⟨_, [], rfl, fun h => absurd h h0, by simp, by simp⟩
    · trivial
/-- an argument -/
theorem open_deep {t : TypeId} {v : Value} {d : DataW H} {p : List MemPlace} (n : Nat) (h : DataW.Trod enc P w 0 spare held t v d p) (hw : ∀ m ∈ d.weights P t, m ≤ reachBytes) : Deep P w n t v.cells.toList := by
  obtain ⟨fuel, hf⟩ := h
  exact deep_trod n hf hw
theorem sized_arg {ts : List TypeId} {ds : List (DataW H)} (h : (DataW.weightsEach P ts ds).all (· ≤ reachBytes) = true) (j : Nat) {t : TypeId} {d : DataW H} (ht : ts[j]? = some t) (hd : ds[j]? = some d) :
    ∀ m ∈ d.weights P t, m ≤ reachBytes := fun m hm => by
  have := List.all_eq_true.1 h _ (DataW.weights_mem_each ht hd m hm)
  simpa using this
end
section
variable {P : Program} {w : World} {n : Nat} {t : TypeId} {cs : List Value}
theorem deep_int {k : IntKind} (hu : P.underlying t = some (.int k)) (h : Deep P w (n + 1) t cs) : ∃ m, cs = [.int k m] ∧ (Lit.int k m).wf = true := by unfold Deep at h; rw [hu] at h; exact h
theorem deep_bool (hu : P.underlying t = some .bool) (h : Deep P w (n + 1) t cs) : ∃ b, cs = [.bool b] := by unfold Deep at h; rw [hu] at h; exact h
theorem deep_string (hu : P.underlying t = some .string) (h : Deep P w (n + 1) t cs) : ∃ s : ByteArray, cs = [.string s] ∧ s.size ≤ reachBytes := by unfold Deep at h; rw [hu] at h; exact h
theorem deep_struct {fs : Array Field} (hu : P.underlying t = some (.struct fs)) (h : Deep P w (n + 1) t cs) : cs.length = P.cellsOf t ∧ ∀ (i : Nat) (f : Field), fs[i]? = some f → Deep P w n f.type ((cs.drop f.offset).take (P.cellsOf f.type)) := by unfold Deep at h; rw [hu] at h; exact h
theorem deep_slice {e : TypeId} (hu : P.underlying t = some (.slice e)) (h : Deep P w (n + 1) t cs) : ∃ v xs, cs = [v] ∧ (0 < P.cellsOf e → Row w (P.cellsOf e) v xs) ∧ xs.length * P.bytesOf e ≤ reachBytes ∧ ∀ x ∈ xs, Deep P w n e x := by unfold Deep at h; rw [hu] at h; exact h
end
theorem deep_at {P : Program} {w : World} {n : Nat} {cs : List Value} {fs : Array Field} (hf : ∀ (i : Nat) (f : Field), fs[i]? = some f → Deep P w n f.type ((cs.drop f.offset).take (P.cellsOf f.type))) (i : Nat) (t : TypeId) (off c : Nat)
    (ht : (fs[i]?).map (fun f => (f.type, f.offset)) = some (t, off)) (hc : P.cellsOf t = c) : Deep P w n t ((cs.drop off).take c) := by
  simp only [Option.map_eq_some_iff, Prod.mk.injEq] at ht
  obtain ⟨f, h0, rfl, rfl⟩ := ht
  subst hc
  exact hf i f h0
/-- what is flat fits its kinds -/
theorem deep_fits {P : Program} {w : World} : ∀ (n : Nat) {t : TypeId} {ks : List Kd} {cs : List Value}, flat P n t = some ks → Deep P w n t cs → Fits ks cs
  | 0, _, _, _, h, _ => by simp [flat] at h
  | n + 1, t, ks, cs, h, hd => by
    unfold flat at h
    split at h
    · rename_i hu
      obtain ⟨b, rfl⟩ := deep_bool hu hd
      split at h
      · simp at h; subst h; exact ⟨⟨b, rfl⟩, trivial⟩
      · simp at h
    · rename_i k hu
      obtain ⟨m, rfl, hm⟩ := deep_int hu hd
      split at h
      · simp at h; subst h; exact ⟨⟨m, rfl, hm⟩, trivial⟩
      · simp at h
    · rename_i hu
      obtain ⟨m, rfl, hm⟩ := deep_string hu hd
      split at h
      · simp at h; subst h; exact ⟨⟨m, rfl, Nat.le_trans hm (by decide)⟩, trivial⟩
      · simp at h
    · rename_i fs hu
      obtain ⟨hlen, hf⟩ := deep_struct hu hd
      split at h
      · rename_i ls hls
        split at h
        · rename_i hc
          simp only [Option.some.injEq] at h
          subst h
          have key : ∀ (l : List Field) (k off : Nat) (qs : List Kd), (∀ i f, l[i]? = some f → fs[k + i]? = some f) → flatAll (flat P n) off l = some qs → off + qs.length = cs.length → Fits qs (cs.drop off) := by
            intro l
            induction l with
            | nil =>
              intro k off qs _ hq ho
              simp [flatAll] at hq
              subst hq
              simp at ho
              rw [List.drop_eq_nil_of_le (by omega)]
              trivial
            | cons f l ih =>
              intro k off qs hi hq ho
              simp only [flatAll] at hq
              split at hq
              · rename_i rs hr
                split at hq
                · rename_i hoff
                  simp only [Option.map_eq_some_iff] at hq
                  obtain ⟨ts, hts, rfl⟩ := hq
                  have hcf := flat_length n hr
                  have h0 := hi 0 f rfl
                  rw [Nat.add_zero] at h0
                  have hfk := hf k f h0
                  rw [hoff, hcf] at hfk
                  have hfit := deep_fits n hr hfk
                  have hrest := ih (k + 1) (off + rs.length) ts (fun i g hg => by have := hi (i + 1) g (by simpa using hg); rwa [show k + 1 + i = k + (i + 1) from by omega]) hts (by simp at ho; omega)
                  have hsplit : cs.drop off = (cs.drop off).take rs.length ++ cs.drop (off + rs.length) := by
                    rw [← List.drop_drop, List.take_append_drop]
                  rw [hsplit]
                  exact hfit.append hrest
                · simp at hq
              · simp at hq
          simpa using key fs.toList 0 0 ls (fun i f hi => by simpa using hi) hls (by simp [hlen, hc])
        · simp at h
      · simp at h
    · simp at h
/-- a slice of flat elements within -/
theorem deep_flats {P : Program} {w : World} {n : Nat} {t e : TypeId} {cs : List Value} {ks : List Kd} (hu : P.underlying t = some (.slice e)) (hk : flat P n e = some ks) (h0 : 0 < ks.length) (h : Deep P w (n + 1) t cs) :
    ∃ v xs, cs = [v] ∧ Row w ks.length v xs ∧ xs.length * P.bytesOf e ≤ reachBytes ∧ ∀ x ∈ xs, Fits ks x := by
  obtain ⟨v, xs, rfl, hr, hb, hx⟩ := deep_slice hu h
  rw [flat_length n hk] at hr
  exact ⟨v, xs, rfl, hr h0, hb, fun x hxm => deep_fits n hk (hx x hxm)⟩
end Go.Proofs.YtkoemhdchoicaaaDoor

/- A disk that comes from outside, opened. -/
namespace Go.Proofs.YtkoemhdchoicaaaDoor
open Go.RowKit Go.ChangeShapes Go.WideShapes Go.ChangeAt
theorem Ow.regrow1 {α : Type} {f : α → List Value} {s : Nat} {e : TypeId} {W W' : World} {ext : Array Obj} {d d' B : Nat} {v : Value} {l : List α} (h : Ow f s e (grow W ext d) B v l) (hB : W.heap.size ≤ B) (hs : W'.heap.size = W.heap.size) : Sl f s (grow W' ext d') v l :=
  (h.regrow hB hs).sl
theorem Ow.regrow2 {α : Type} {f : α → List Value} {s : Nat} {e : TypeId} {W W' : World} {ext e1 : Array Obj} {d d' d1 B : Nat} {v : Value} {l : List α} (h : Ow f s e (grow W ext d) B v l) (hB : W.heap.size ≤ B) (hs : W'.heap.size = W.heap.size) : Sl f s (grow (grow W' ext d') e1 d1) v l :=
  ((h.regrow (W' := W') (d' := d') hB hs).below (below_grow0 _ _ (Below.refl _ _))).sl
set_option maxRecDepth 100000 in
theorem open_file {w : World} {n : Nat} {cs : List Value} (h : Deep Tryd.prog w (n + 2) 70 cs) : ∃ x : File, cs = cFile x ∧ x.sized := by
  obtain ⟨hl, hf⟩ := deep_struct Tryd.underlying70 h
  rw [show Tryd.prog.cellsOf 70 = 3 from by kernel_rfl] at hl
  obtain ⟨c0, c1, c2, rfl⟩ : ∃ a b c, cs = [a, b, c] := by
    rcases cs with _ | ⟨a, _ | ⟨b, _ | ⟨c, _ | ⟨d, cs⟩⟩⟩⟩ <;> simp at hl
    exact ⟨a, b, c, rfl⟩
  obtain ⟨m0, e0, s0⟩ := deep_string Tryd.underlying9 (deep_at hf 0 9 0 1 rfl (by kernel_rfl))
  obtain ⟨m1, e1, s1⟩ := deep_string Tryd.underlying9 (deep_at hf 1 9 1 1 rfl (by kernel_rfl))
  obtain ⟨m2, e2, s2⟩ := deep_string Tryd.underlying9 (deep_at hf 2 9 2 1 rfl (by kernel_rfl))
  simp only [List.drop_zero, List.drop_succ_cons, List.take_succ_cons, List.take_zero, List.cons.injEq, and_true] at e0 e1 e2
  subst e0 e1 e2
  simp only [reachBytes] at s0 s1 s2
  exact ⟨⟨m0, m1, m2⟩, rfl, by show m0.size ≤ _; omega, by show m1.size ≤ _; omega, by show m2.size ≤ _; omega⟩
set_option maxRecDepth 100000 in
theorem open_disk {w : World} {n : Nat} {cs : List Value} (h : Deep Tryd.prog w (n + 10) 26 cs) : ∃ (v : Value) (l : List File), cs = [v] ∧ Sl cFile 3 w v l ∧ (∀ x ∈ l, x.sized) ∧ l.length * 48 ≤ 140737488355328 := by
  obtain ⟨hl, hf⟩ := deep_struct Tryd.underlying26 h
  rw [show Tryd.prog.cellsOf 26 = 1 from by kernel_rfl] at hl
  obtain ⟨c0, rfl⟩ : ∃ a, cs = [a] := by
    rcases cs with _ | ⟨a, _ | ⟨b, cs⟩⟩ <;> simp at hl
    exact ⟨a, rfl⟩
  obtain ⟨v, xs, e, hr, hb, hx⟩ := deep_slice Tryd.underlying24 (deep_at hf 0 24 0 1 rfl (by kernel_rfl))
  simp only [List.drop_zero, List.take_succ_cons, List.take_zero, List.cons.injEq, and_true] at e
  subst e
  rw [show Tryd.prog.bytesOf 70 = 48 from by kernel_rfl] at hb
  rw [show Tryd.prog.cellsOf 70 = 3 from by kernel_rfl] at hr
  obtain ⟨l, rfl, hz⟩ := typed (fun x hxm => open_file (hx x hxm))
  have hs : Sl cFile 3 w c0 l := hr (by decide)
  exact ⟨c0, l, rfl, hs, hz, Nat.le_trans (by simpa [reachBytes] using hb) (by decide)⟩
end Go.Proofs.YtkoemhdchoicaaaDoor

/- The law WalKeeps is true for every input; no conditions. -/
namespace Go.Proofs.YtkoemhdchoicaaaDoor
open Go.RowKit Go.ChangeShapes Go.WideShapes Go.ChangeAt
theorem upZ_prefix (z : Int) (l : List Txn) : ∃ r, l = upZ z l ++ r := ⟨l.dropWhile (fun t => decide (t.zxid ≤ z)), (List.takeWhile_append_dropWhile (p := fun t : Txn => decide (t.zxid ≤ z)) (l := l)).symm⟩
theorem upZ_ok {z : Int} {l : List Txn} (h : LogOk l) : LogOk (upZ z l) := ⟨fun t ht => h.1 t ((List.takeWhile_sublist _).subset ht), h.2.sublist (List.takeWhile_sublist _)⟩
theorem upZ_length (z : Int) (l : List Txn) : (upZ z l).length ≤ l.length := (List.takeWhile_sublist _).length_le
theorem upZ_filter {z : Int} : ∀ {l : List Txn}, l.Pairwise (fun a b => a.zxid < b.zxid) → l.filter (fun t => decide (t.zxid ≤ z)) = upZ z l
  | [], _ => rfl
  | a :: r, h => by
    have h2 := List.pairwise_cons.1 h
    unfold upZ
    by_cases ha : a.zxid ≤ z
    · rw [List.filter_cons_of_pos (by simpa using ha), List.takeWhile_cons_of_pos (by simpa using ha)]
      exact congrArg _ (upZ_filter h2.2)
    · rw [List.filter_cons_of_neg (by simpa using ha), List.takeWhile_cons_of_neg (by simpa using ha)]
      refine List.filter_eq_nil_iff.2 (fun b hb => ?_)
      have := h2.1 b hb
      simp only [decide_eq_true_eq]
      omega
theorem keep_log {m : List Txn} {z : Int} {f' : List File} {e : Int} (hm : LogOk m) (hn : m.length ≤ 41) (h : KeepIs (logD m) z f' e) : e = 0 ∧ f' = logF (upZ z m) := by
  obtain ⟨L, d, c, hr, h⟩ := h
  have hs := recs_small hm hn
  obtain ⟨rfl, rfl, rfl⟩ := rec_log hm (by omega) hr
  rcases h with ⟨h0, _⟩ | ⟨_, h1, h2⟩
  · exact absurd rfl h0
  · have hrd := one_read (S := bS (recs L)) (T := noB) (by rw [bS_size]; show _ + 0 ≤ _; omega)
    have hrs : readS (logF L) logN = bS (recs L) := hrd.2.trans ByteArray.append_empty
    obtain ⟨r, hrr⟩ := upZ_prefix z L
    have hrec : recs L = recs (upZ z L) ++ recs r := by rw [← recs_app, ← hrr]
    have hle : keepN z L ≤ (readS (logF L) logN).size := by
      rw [hrs, bS_size, hrec, List.length_append]
      unfold keepN
      omega
    have hc := cut_is hrd.1 hle
    obtain ⟨_, _, _, c4, _⟩ := cut_ok hc
    refine ⟨h2.trans hc, ?_⟩
    rw [h1, c4, put_one]
    have hx : (readS (logF L) logN).extract 0 ((keepN z L : Nat) : Int).toNat = bS (recs (upZ z L)) := by
      apply bs_inj
      rw [bs_extractTD, List.drop_zero, Int.toNat_natCast, hrs, bs_bS, bs_bS, hrec]
      unfold keepN
      rw [List.take_left]
    rw [hx]
theorem keepLog (v : Value) (m : List Txn) (z : Int) (w : World) (h : Sl cFile 3 w v (logD m)) (hm : LogOk m) (hn : m.length ≤ 41) :
    Calls Tryd.prog 26 #[.agg #[v], .int .i64 z] w (DkRes (logF (upZ z m)) 0 w) := by
  refine (keep_any v (logD m) z w h (logD_sized _ (recs_small hm hn))).mono ?_
  rintro e w' ⟨B, k, f', code, rfl, hr, h1, h2⟩
  obtain ⟨rfl, rfl⟩ := keep_log hm hn hr
  exact ⟨B, k, rfl, h1, h2⟩
theorem logF_sized (l : List Txn) (h : (recs l).length ≤ 42271) : ∀ x ∈ logF l, x.sized := by
  intro x hx
  rw [List.mem_singleton.1 hx]
  refine ⟨(by decide : logN.size ≤ _), ?_, (by decide : noB.size ≤ _)⟩
  show (bS (recs l)).size ≤ _
  rw [bS_size]
  omega
theorem recover_logF (v : Value) (m : List Txn) (w : World) (h : Sl cFile 3 w v (logF m)) (hm : LogOk m) (hn : m.length ≤ 41) :
    Calls Tryd.prog 20 #[.agg #[v]] w (RecD m (logF m) w) := by
  have hs := recs_small hm hn
  refine (recover_any v (logF m) w h (logF_sized _ hs)).mono ?_
  rintro e w' ⟨A, c, L, B, k, f', code, rfl, hr, h1, h2, h3⟩
  obtain ⟨rfl, rfl, rfl⟩ := rec_one hm (S := bS (recs m)) (T := noB) (rest := []) (by rw [bS_size]; show _ + 0 ≤ _; omega) (by rw [bS_add]; rfl) (noNext_nil _) hr
  exact ⟨A, c, B, k, rfl, h1, h2, h3⟩
namespace walKeeps
theorem own : ownKnob Tryd.prog.godebug = none := by kernel_rfl
theorem laidOut : laidOutB Tryd.prog = true := by kernel_rfl
end walKeeps
end Go.Proofs.YtkoemhdchoicaaaDoor

/- Lemmas for the statement: TreeK, T4N, Clear, T5, T5N, QG, Hand, Lacks, BsI, Cnt. -/
import Derived.BigQuiet
import Derived.Maps.OwnOps
import Derived.Maps.OwnSet
import Derived.Maps.Views
import Derived.StringKeys
import Derived.Test.YteolglmifimnaaaDoorPt1
import Derived.Test.YteolglmifimnaaaDoorPt2
import Derived.Test.YteolglmifimnaaaDoorPt3
import Derived.Test.YteolglmifimnaaaDoorPt4
/- package tree: Kids. -/
namespace Go.Proofs.YteolglmifimnaaaDoor
open Go.RowKit Go.ChangeShapes Go.WideShapes Go.ChangeAt
theorem kidsL_nil (p : ByteArray) : kidsL [] p = [] := rfl
theorem kidsL_step {l : List Node} {k : Nat} {x : Node} (h : l[k]? = some x) (p : ByteArray) : kidsL (l.take (k + 1)) p = kidsL (l.take k) p ++ (if kidB p x then [(splitR x.path).2.1] else []) := by
  unfold kidsL
  rw [List.take_add_one, h]
  simp only [Option.toList_some, List.filter_append, List.map_append]
  by_cases hk : kidB p x = true
  · rw [if_pos hk, List.filter_cons_of_pos hk]; rfl
  · rw [if_neg hk, List.filter_cons_of_neg hk]; rfl
theorem kidsL_le (l : List Node) (p : ByteArray) : (kidsL l p).length ≤ l.length := by
  unfold kidsL
  rw [List.length_map]
  exact List.length_filter_le _ _
/-- what Kids answers -/
def kidsR (l : List Node) (p : ByteArray) : List ByteArray := if hasN l p then kidsL l p else []
def KidsRes (l : List Node) (p : ByteArray) (w : World) (e : Ending) (w' : World) : Prop := ∃ A c, e = .returned (.tuple #[.slice A (kidsR l p).length c, .int .i64 (getE l p)]) ∧ Ow cStr 1 9 w' w.heap.size (.slice A (kidsR l p).length c) (kidsR l p) ∧ Below w.heap.size w w'
set_option maxHeartbeats 1000000 in
theorem trKids (z : Int) (v : Value) (sa : Option Addr) (sn sc : Nat) (l : List Node) (p : ByteArray) (w : World) (h : Sl cNode 9 w v l) (hn : l.length * 16 ≤ 140737488355328) (hz : ∀ n ∈ l, n.path.size ≤ 9223372036854775807) :
    Calls Tryd.prog 26 #[.agg #[.int .i64 z, v, .slice sa sn sc], .string p] w (KidsRes l p w) := by
  obtain ⟨A, c, rfl, h1, h2⟩ := h.form
  have H := Lib.hid h
  have HF := Lib.hid (fun (W : World) (h : Sl cNode 9 W (.slice A l.length c) l) => trFind z (.slice A l.length c) sa sn sc l p W h (by omega))
  have HZ := Lib.hid (fun (x : Node) (k : Nat) (hx : l[k]? = some x) (W : World) => split_any x.path W (hz x (List.mem_of_getElem? hx)))
  have HN := Lib.hid hn
  clear h hz
  unfold KidsRes kidsR getE
  cases hk : hasN l p with
  | false =>
    rw [hk] at HF
    simp only [Bool.false_eq_true, if_false]
    generalize posN l p = q at *
    clear hk
    go_enter Tryd.func26, Tryd.ntmps26
    go_wp2_with (go_at_call 38; refine (HF.out _ (H.out.below (by repeat (first | with_reducible exact Below.refl _ _ | with_reducible assumption | with_reducible exact below_d1 _ _ _ _ _ | with_reducible exact below_d2 _ _ _ _ _ _ _ _ | with_reducible exact below_d3 _ _ _ _ _ | with_reducible exact below_d4 _ _ _ _ _ _ _ _ | with_reducible exact below_d5 _ _ | with_reducible refine Below.drew ?_ | with_reducible refine Below.drewN' ?_ _ | with_reducible refine below_grow0 _ _ ?_ | with_reducible refine below_alloc0 _ ?_ | with_reducible refine Below.setCell ?_ ?_ _ | with_reducible refine Below.alloc ?_ ?_ _ | with_reducible refine Below.grow _ _ _ ?_ ?_ | omega | (simp; done) | (simp; omega))))).mono ?_; rintro e w1 ⟨rfl, hb⟩; obtain ⟨ext, d, rfl⟩ := Below.grown_eq _ hb; clear hb)
    refine bodyPost_ret (v := .tuple #[.slice none 0 0, .int .i64 7]) (by simp [results, Tryd.results26, go_sem]) rfl ⟨none, 0, rfl, Ow.nil _ _ _ _ _, (by repeat (first | with_reducible exact Below.refl _ _ | with_reducible assumption | with_reducible exact below_d1 _ _ _ _ _ | with_reducible exact below_d2 _ _ _ _ _ _ _ _ | with_reducible exact below_d3 _ _ _ _ _ | with_reducible exact below_d4 _ _ _ _ _ _ _ _ | with_reducible exact below_d5 _ _ | with_reducible refine Below.drew ?_ | with_reducible refine Below.drewN' ?_ _ | with_reducible refine below_grow0 _ _ ?_ | with_reducible refine below_alloc0 _ ?_ | with_reducible refine Below.setCell ?_ ?_ _ | with_reducible refine Below.alloc ?_ ?_ _ | with_reducible refine Below.grow _ _ _ ?_ ?_ | omega | (simp; done) | (simp; omega)))⟩
  | true =>
    rw [hk] at HF
    simp only [if_true]
    generalize posN l p = q at *
    clear hk
    go_enter Tryd.func26, Tryd.ntmps26
    go_wp2_with (go_at_call 38; refine (HF.out _ (H.out.below (by repeat (first | with_reducible exact Below.refl _ _ | with_reducible assumption | with_reducible exact below_d1 _ _ _ _ _ | with_reducible exact below_d2 _ _ _ _ _ _ _ _ | with_reducible exact below_d3 _ _ _ _ _ | with_reducible exact below_d4 _ _ _ _ _ _ _ _ | with_reducible exact below_d5 _ _ | with_reducible refine Below.drew ?_ | with_reducible refine Below.drewN' ?_ _ | with_reducible refine below_grow0 _ _ ?_ | with_reducible refine below_alloc0 _ ?_ | with_reducible refine Below.setCell ?_ ?_ _ | with_reducible refine Below.alloc ?_ ?_ _ | with_reducible refine Below.grow _ _ _ ?_ ?_ | omega | (simp; done) | (simp; omega))))).mono ?_; rintro e w1 ⟨rfl, hb⟩; obtain ⟨ext0, d0, rfl⟩ := Below.grown_eq _ hb; clear hb HF)
    go_loopw [8, 25] (fun o i wr => ∃ (k : Nat) (A' : Option Addr) (c' : Nat) (ext : Array Obj) (d : Nat), k ≤ l.length ∧ i = .int .i64 k ∧ o = .slice A' (kidsL (l.take k) p).length c' ∧ wr = grow w ext d ∧ Hid (Ow cStr 1 9 wr w.heap.size (.slice A' (kidsL (l.take k) p).length c') (kidsL (l.take k) p))) (fun _ i _ => l.length - (intOf i).toNat)
    case atStart => exact ⟨0, none, 0, _, _, Nat.zero_le _, rfl, rfl, grown_of (by repeat (first | with_reducible exact Below.refl _ _ | with_reducible assumption | with_reducible exact below_d1 _ _ _ _ _ | with_reducible exact below_d2 _ _ _ _ _ _ _ _ | with_reducible exact below_d3 _ _ _ _ _ | with_reducible exact below_d4 _ _ _ _ _ _ _ _ | with_reducible exact below_d5 _ _ | with_reducible refine Below.drew ?_ | with_reducible refine Below.drewN' ?_ _ | with_reducible refine below_grow0 _ _ ?_ | with_reducible refine below_alloc0 _ ?_ | with_reducible refine Below.setCell ?_ ?_ _ | with_reducible refine Below.alloc ?_ ?_ _ | with_reducible refine Below.grow _ _ _ ?_ ?_ | omega | (simp; done) | (simp; omega))), Lib.hid (Ow.nil _ _ _ _ _)⟩
    case round =>
      obtain ⟨k, A', c', ext, d, hk, rfl, rfl, rfl, ho⟩ := hrel
      by_cases hlt : k < l.length
      · have hx : l[k]? = some (l[k]'hlt) := List.getElem?_eq_getElem _
        have hst := kidsL_step hx p
        have HS := Lib.hid (HZ.out _ k hx)
        have hkl : (kidsL (l.take k) p).length ≤ k := Nat.le_trans (kidsL_le _ _) (by rw [List.length_take]; omega)
        obtain ⟨bk, off, rfl, hbw, c0, c1, c2, c3, c4, c5, c6, c7, c8⟩ := (H.out.below (w' := grow w ext d) (by repeat (first | with_reducible exact Below.refl _ _ | with_reducible assumption | with_reducible exact below_d1 _ _ _ _ _ | with_reducible exact below_d2 _ _ _ _ _ _ _ _ | with_reducible exact below_d3 _ _ _ _ _ | with_reducible exact below_d4 _ _ _ _ _ _ _ _ | with_reducible exact below_d5 _ _ | with_reducible refine Below.drew ?_ | with_reducible refine Below.drewN' ?_ _ | with_reducible refine below_grow0 _ _ ?_ | with_reducible refine below_alloc0 _ ?_ | with_reducible refine Below.setCell ?_ ?_ _ | with_reducible refine Below.alloc ?_ ?_ _ | with_reducible refine Below.grow _ _ _ ?_ ?_ | omega | (simp; done) | (simp; omega)))).Node_at hx
        generalize l[k]'hlt = x at *
        have HST := Lib.hid hst
        clear hx hst
        unfold kidB at HST
        generalize kidsL (l.take k) p = K at *
        obtain ⟨xp, xd, xz, xm, xq, xv, xc, xo, xk⟩ := x
        simp only at *
        generalize splitR xp = sp at *
        obtain ⟨sd, st, se⟩ := sp
        simp only at *
        by_cases he : se = 0
        · subst he
          by_cases hd : sd = p
          · subst hd
            have HK1 := Lib.hid (show kidsL (l.take (k + 1)) sd = K ++ [st] from by have := HST.out; simpa using this)
            go_wp2_with (first | (go_at_call 25; refine (HS.out _).mono ?_; rintro e w1 ⟨rfl, hb⟩; obtain ⟨ext1, d1, rfl⟩ := Below.grown_eq _ hb; clear hb) | (at_builtin; refine wpList_app _ rfl (.tmp 43) (.tmp 45) _ rfl elStr (B := w.heap.size) (l := K) (m := [st]) rfl rfl (ho.out.below (by repeat (first | with_reducible exact Below.refl _ _ | with_reducible assumption | with_reducible exact below_d1 _ _ _ _ _ | with_reducible exact below_d2 _ _ _ _ _ _ _ _ | with_reducible exact below_d3 _ _ _ _ _ | with_reducible exact below_d4 _ _ _ _ _ _ _ _ | with_reducible exact below_d5 _ _ | with_reducible refine Below.drew ?_ | with_reducible refine Below.drewN' ?_ _ | with_reducible refine below_grow0 _ _ ?_ | with_reducible refine below_alloc0 _ ?_ | with_reducible refine Below.setCell ?_ ?_ _ | with_reducible refine Below.alloc ?_ ?_ _ | with_reducible refine Below.grow _ _ _ ?_ ?_ | omega | (simp; done) | (simp; omega)))) (Sl.one_at cStr 1 _ _ _ rfl _ rfl (by omega) (by simp)) cStr_one (by simp [maxLen]; omega) (by simp; omega) (by simp <;> omega) ?_; intro v2 w2 hown2 hg2 hat2; obtain ⟨A2, c2, rfl, _⟩ := hown2.form; have HO2 := Lib.hid hown2; have HG2 : Hid (World.grownBy _ w2 (Value.slice A' K.length c').ownBlock) := Lib.hid hg2; clear hown2 hg2 hat2))
            have hwb : Below w.heap.size w w2 := Below.grown (by repeat (first | with_reducible exact Below.refl _ _ | with_reducible assumption | with_reducible exact below_d1 _ _ _ _ _ | with_reducible exact below_d2 _ _ _ _ _ _ _ _ | with_reducible exact below_d3 _ _ _ _ _ | with_reducible exact below_d4 _ _ _ _ _ _ _ _ | with_reducible exact below_d5 _ _ | with_reducible refine Below.drew ?_ | with_reducible refine Below.drewN' ?_ _ | with_reducible refine below_grow0 _ _ ?_ | with_reducible refine below_alloc0 _ ?_ | with_reducible refine Below.setCell ?_ ?_ _ | with_reducible refine Below.alloc ?_ ?_ _ | with_reducible refine Below.grow _ _ _ ?_ ?_ | omega | (simp; done) | (simp; omega))) HG2.out (by simp; omega) (fun g hg => (Ow.own_in ho.out hg).1)
            go_wp2_with fail
            go_roundw
            case rel => exact ⟨k + 1, A2, c2, _, _, by omega, by go_num, by rw [HK1.out]; simp, grown_of hwb, by rw [HK1.out]; exact HO2⟩
            case measure => simp [intOf]; omega
          · have HK1 := Lib.hid (show kidsL (l.take (k + 1)) p = K from by have := HST.out; simpa [hd] using this)
            have hne := ne_bytes hd
            go_wp2_with ((go_at_call 25; refine (HS.out _).mono ?_; rintro e w1 ⟨rfl, hb⟩; obtain ⟨ext1, d1, rfl⟩ := Below.grown_eq _ hb; clear hb))
            go_roundw
            case rel => exact ⟨k + 1, A', c', _, _, by omega, by go_num, by rw [HK1.out], grown_of (by repeat (first | with_reducible exact Below.refl _ _ | with_reducible assumption | with_reducible exact below_d1 _ _ _ _ _ | with_reducible exact below_d2 _ _ _ _ _ _ _ _ | with_reducible exact below_d3 _ _ _ _ _ | with_reducible exact below_d4 _ _ _ _ _ _ _ _ | with_reducible exact below_d5 _ _ | with_reducible refine Below.drew ?_ | with_reducible refine Below.drewN' ?_ _ | with_reducible refine below_grow0 _ _ ?_ | with_reducible refine below_alloc0 _ ?_ | with_reducible refine Below.setCell ?_ ?_ _ | with_reducible refine Below.alloc ?_ ?_ _ | with_reducible refine Below.grow _ _ _ ?_ ?_ | omega | (simp; done) | (simp; omega))), by rw [HK1.out]; exact Lib.hid (ho.out.below (by repeat (first | with_reducible exact Below.refl _ _ | with_reducible assumption | with_reducible exact below_d1 _ _ _ _ _ | with_reducible exact below_d2 _ _ _ _ _ _ _ _ | with_reducible exact below_d3 _ _ _ _ _ | with_reducible exact below_d4 _ _ _ _ _ _ _ _ | with_reducible exact below_d5 _ _ | with_reducible refine Below.drew ?_ | with_reducible refine Below.drewN' ?_ _ | with_reducible refine below_grow0 _ _ ?_ | with_reducible refine below_alloc0 _ ?_ | with_reducible refine Below.setCell ?_ ?_ _ | with_reducible refine Below.alloc ?_ ?_ _ | with_reducible refine Below.grow _ _ _ ?_ ?_ | omega | (simp; done) | (simp; omega))))⟩
            case measure => simp [intOf]; omega
        · have HK1 := Lib.hid (show kidsL (l.take (k + 1)) p = K from by have := HST.out; simpa [he] using this)
          have hne : (se == 0) = false := beq_eq_false_iff_ne.2 he
          clear he
          go_wp2_with ((go_at_call 25; refine (HS.out _).mono ?_; rintro e w1 ⟨rfl, hb⟩; obtain ⟨ext1, d1, rfl⟩ := Below.grown_eq _ hb; clear hb))
          go_roundw
          case rel => exact ⟨k + 1, A', c', _, _, by omega, by go_num, by rw [HK1.out], grown_of (by repeat (first | with_reducible exact Below.refl _ _ | with_reducible assumption | with_reducible exact below_d1 _ _ _ _ _ | with_reducible exact below_d2 _ _ _ _ _ _ _ _ | with_reducible exact below_d3 _ _ _ _ _ | with_reducible exact below_d4 _ _ _ _ _ _ _ _ | with_reducible exact below_d5 _ _ | with_reducible refine Below.drew ?_ | with_reducible refine Below.drewN' ?_ _ | with_reducible refine below_grow0 _ _ ?_ | with_reducible refine below_alloc0 _ ?_ | with_reducible refine Below.setCell ?_ ?_ _ | with_reducible refine Below.alloc ?_ ?_ _ | with_reducible refine Below.grow _ _ _ ?_ ?_ | omega | (simp; done) | (simp; omega))), by rw [HK1.out]; exact Lib.hid (ho.out.below (by repeat (first | with_reducible exact Below.refl _ _ | with_reducible assumption | with_reducible exact below_d1 _ _ _ _ _ | with_reducible exact below_d2 _ _ _ _ _ _ _ _ | with_reducible exact below_d3 _ _ _ _ _ | with_reducible exact below_d4 _ _ _ _ _ _ _ _ | with_reducible exact below_d5 _ _ | with_reducible refine Below.drew ?_ | with_reducible refine Below.drewN' ?_ _ | with_reducible refine below_grow0 _ _ ?_ | with_reducible refine below_alloc0 _ ?_ | with_reducible refine Below.setCell ?_ ?_ _ | with_reducible refine Below.alloc ?_ ?_ _ | with_reducible refine Below.grow _ _ _ ?_ ?_ | omega | (simp; done) | (simp; omega))))⟩
          case measure => simp [intOf]; omega
      · have hkl : k = l.length := by omega
        subst hkl
        rw [List.take_length] at ho
        simp only [List.take_length]
        go_wp2_with fail
        refine bodyPost_ret (v := .tuple #[.slice A' (kidsL l p).length c', .int .i64 0]) (by simp [results, Tryd.results26, go_sem]) rfl ⟨A', c', rfl, ho.out, (by repeat (first | with_reducible exact Below.refl _ _ | with_reducible assumption | with_reducible exact below_d1 _ _ _ _ _ | with_reducible exact below_d2 _ _ _ _ _ _ _ _ | with_reducible exact below_d3 _ _ _ _ _ | with_reducible exact below_d4 _ _ _ _ _ _ _ _ | with_reducible exact below_d5 _ _ | with_reducible refine Below.drew ?_ | with_reducible refine Below.drewN' ?_ _ | with_reducible refine below_grow0 _ _ ?_ | with_reducible refine below_alloc0 _ ?_ | with_reducible refine Below.setCell ?_ ?_ _ | with_reducible refine Below.alloc ?_ ?_ _ | with_reducible refine Below.grow _ _ _ ?_ ?_ | omega | (simp; done) | (simp; omega)))⟩
end Go.Proofs.YteolglmifimnaaaDoor

/- made by geninst.py from XT4.src -/
namespace Go.Proofs.YteolglmifimnaaaDoor
open Go.RowKit
set_option maxHeartbeats 1000000 in
theorem insNode_end (A : Option Addr) (n c : Nat) (l : List Node) (x : Node) (w : World) (B vb : Nat) (hown : Ow cNode 9 40 w B (.slice A n c) l) (hl : n = l.length) (hv : Bk w vb (cNode x) 40)
    (hB : B ≤ w.heap.size) (hn : (n + 1) * 88 ≤ 140737488355328) :
    Calls Tryd.prog 71 #[.slice A n c, .int .i64 n, .slice (some ⟨vb, 0, none⟩) 1 1] w (Rowed cNode 9 40 B (n + 1) (l ++ [x]) (Value.slice A n c).ownBlock w) := by
  have H := Lib.hid hown
  obtain ⟨A', c', hf1, hf2, hf3, hf4, hf5⟩ := hown.form
  injection hf1 with e1 e2 e3
  subst e1; subst e3
  have HL := Lib.hid hl
  rw [← hl] at hf2
  have HN := Lib.hid hf4
  clear hl e2 hown hf4 hf5
  by_cases hcn : c = n
  · subst hcn
    go_enter Tryd.func71, Tryd.ntmps71
    go_wp2_with (at_builtin; refine wpList_app _ rfl (.tmp 23) (.tmp 24) _ rfl elNode (l := l) (m := [x]) rfl rfl H.out (Sl.blk rfl hv) cNode_one (by have := HL.out; simp [maxLen]; omega) (by have := HL.out; simp; omega) hB ?_; intro v' w1 hown1 hg1 hat1; obtain ⟨A1, c1, rfl⟩ := Ow.is_slice (m := c + 1) hown1 (by simpa using HL.out.symm); have HO := Lib.hid hown1; have HG := Lib.hid hg1; have HT := Lib.hid hat1; clear hown1 hg1 hat1)
    go_ret
    exact ⟨A1, c1, rfl, HO.out, HG.out, HT.out⟩
  · go_enter Tryd.func71, Tryd.ntmps71
    go_wp2_with (at_builtin; refine wpList_app _ rfl (.tmp 23) (.tmp 24) _ rfl elNode (l := l) (m := [x]) rfl rfl H.out (Sl.blk rfl hv) cNode_one (by have := HL.out; simp [maxLen]; omega) (by have := HL.out; simp; omega) hB ?_; intro v' w1 hown1 hg1 hat1; obtain ⟨A1, c1, rfl⟩ := Ow.is_slice (m := n + 1) hown1 (by simpa using HL.out.symm); have HO := Lib.hid hown1; have HG := Lib.hid hg1; have HT := Lib.hid hat1; clear hown1 hg1 hat1)
    go_ret
    exact ⟨A1, c1, rfl, HO.out, HG.out, HT.out⟩
set_option maxRecDepth 100000 in
set_option maxHeartbeats 1000000 in
theorem insNode_grow (A : Option Addr) (n k : Nat) (l : List Node) (x : Node) (w : World) (B vb : Nat) (hown : Ow cNode 9 40 w B (.slice A n n) l) (hk : k < n) (hv : Bk w vb (cNode x) 40)
    (hB : B ≤ w.heap.size) (hn : (n + 1) * 88 ≤ 140737488355328) :
    Calls Tryd.prog 71 #[.slice A n n, .int .i64 k, .slice (some ⟨vb, 0, none⟩) 1 1] w (Rowed cNode 9 40 B (n + 1) (l.take k ++ x :: l.drop k) (Value.slice A n n).ownBlock w) := by
  obtain ⟨g, J, rfl, hBg, hbk, hbl, _, hcm, hnl⟩ := hown.blk (by omega)
  have H2 := Lib.hid hown.2
  generalize hcur : l.flatMap cNode ++ J = cur at hbk hbl
  have HC := Lib.hid hcur
  have HL := Lib.hid hnl
  have HBL := Lib.hid hbl
  clear hcur hown hnl hbl
  have ecnt := Lib.hid (show (((n + 1 - k : Nat) : Nat) : Int) = (n : Int) + 1 - (k : Int) by omega)
  have hne : ((k : Int) == (n : Int)) = false := by simp; omega
  have F1 := Lib.hid (flatMap_split H2.out k)
  go_enter Tryd.func71, Tryd.ntmps71
  have hkc : k + (n + 1 - k) = n + 1 := by omega
  have hvg : g < w.heap.size := hbk.lt
  have hvv : vb < w.heap.size := hv.lt
  go_wp2_with (first | (with_reducible refine wpList_atcp ?_); go_loud (refine wpList_cp rfl (.tmp 43) (.tmp 44) _ _ rfl elNode (cs := cNode x) rfl rfl hb1 (by rw [show ∀ q, 1 ≤ q → Nat.min 1 q = 1 from fun q h => Nat.min_eq_left h] <;> first | rfl | omega) (fun j v hj => by show w1.cell? _ = _; rw [Addr.add_lit, Nat.zero_add, (hv.grown hg1 (by simp)).cell]; exact hj) (by have := HBL.out; simp [hz1, cNode]; omega) (cNode_one x) ?_; intro w2 hb2 hg2 hs2) | at_builtin; go_loud (refine wpList_appz rfl (.tmp 34) (.tmp 39) _ _ rfl elNode Tryd.underlying3 (k := k) (c := n) (cnt := n + 1 - k) rfl (by show Value.int _ _ = _; rw [ecnt.out]) hbk (by have := HBL.out; omega) (by omega) (by omega) (by simp [maxLen]; omega) (by omega) ?_; intro w1 Z cap hb1 hz1 hc1 hc2 hg1 hs1))
  have e1 : IntKind.i64.wrap ((k : Int) + 1) = (k : Int) + 1 := by rw [IntKind.wrap_i64]; simp [maxLen] at hcm; omega
  have e2 : ((k : Int) + 1).toNat = k + 1 := by omega
  have e3 : (0 : Int) ≤ (k : Int) + 1 := by omega
  have e4 : (k : Int) + 1 ≤ (n : Int) + 1 := by omega
  have e5 : ¬ cap = k + 1 := by omega
  have e6 : ¬ n = k := by omega
  have e7 : k ≤ n := by omega
  have hcsl : ((l.drop k).flatMap cNode).length = (n - k) * 9 := by rw [flatMap_length (fun y hy => H2.out y (List.mem_of_mem_drop hy)), List.length_drop, HL.out]
  have hcs1 : ∀ v ∈ (l.drop k).flatMap cNode, v.oneCell' = true := by intro v hv; obtain ⟨y, _, hy⟩ := List.mem_flatMap.1 hv; exact cNode_one y v hy
  have hlt : (cur.take (k * 9)).length = k * 9 := by rw [List.length_take, HBL.out]; omega
  have hsl : (splice (cur.take (k * 9) ++ Z) (k * 9) (cNode x)).length = k * 9 + (cap - k) * 9 := by rw [splice_length _ _ _ (by simp only [List.length_append, hlt, hz1]; show k * 9 + 9 ≤ _; omega), List.length_append, hlt, hz1]
  have hgs : Bk w2 g cur 40 := (hbk.grown hg1 (by simp)).grown hg2 (by simp; omega)
  have hsrc : ∀ (j : Nat) (v : Value), ((l.drop k).flatMap cNode)[j]? = some v → cur[k * 9 + j]? = some v := by
    intro j v hj
    rw [F1.out.2, List.getElem?_drop] at hj
    rw [← HC.out, List.getElem?_append_left (List.getElem?_eq_some_iff.1 hj).1]
    exact hj
  have HS := Lib.hid hsl
  have HSR := Lib.hid hsrc
  have HCL := Lib.hid hcsl
  clear hsl hsrc hcsl
  have hb2d : Bk w2.drew w.heap.size (splice (cur.take (k * 9) ++ Z) (k * 9) (cNode x)) 40 := hb2
  go_region_law (go_loud (refine step_cp rfl _ _ _ _ rfl elNode (cs := (l.drop k).flatMap cNode) (off := (k + 1) * 9) (dLen := n + 1 - (k + 1)) (dCap := cap - (k + 1)) (ad := ⟨g, k * 9, none⟩) (sLen := n - k) (sCap := n - k) (by simp [Act.eval, Act.put]) (by simp [Act.eval, Act.put]) hb2d (by rw [HCL.out, show Nat.min (n - k) (n + 1 - (k + 1)) = n - k from Nat.min_eq_left (by omega)]) (fun j v hj => by show w2.cell? _ = _; rw [Addr.add_lit, hgs.cell]; exact HSR.out j v hj) (by rw [HS.out, HCL.out]; omega) hcs1 ?_; intro w3 hb3 hg3 hs3))
  go_wp2
  go_ret
  refine ⟨some ⟨w.heap.size, 0, none⟩, cap, rfl, ?_, ((hg1.but _).andThen hg2 (by simp)).andThen (show w2.grownBy w3 (some w.heap.size) from ⟨hg3.os, hg3.tape, hg3.output, hg3.size, hg3.block⟩) (by simp), .inr rfl⟩
  have hta : cur.take (k * 9) = (l.take k).flatMap cNode := by rw [F1.out.1, ← HC.out, List.take_append_of_le_length (by rw [flatMap_length H2.out, ← HL.out]; omega)]
  have hall : ∀ y ∈ l.take k ++ x :: l.drop k, (cNode y).length = 9 := fun y _ => rfl
  have hlen : (l.take k ++ x :: l.drop k).length = n + 1 := by rw [List.length_append, List.length_take, List.length_cons, List.length_drop, ← HL.out]; omega
  have := Ow.of_blk (B := B) (g := w.heap.size) (c := cap) (J := Z.drop (9 + ((l.drop k).flatMap cNode).length)) hall hB hb3 (by
    have h := ins2 (cur.take (k * 9)) Z ((l.drop k).flatMap cNode) (cNode x)
    rw [hlt] at h
    rw [show (k + 1) * 9 = k * 9 + (cNode x).length from by show _ = k * 9 + 9; omega, h, hta, List.flatMap_append, List.flatMap_cons]
    simp only [List.append_assoc]
    rfl) (by rw [splice_length _ _ _ (by rw [HS.out, HCL.out]; omega), HS.out]; omega) (by rw [hlen]; omega) hc2
  rw [hlen] at this
  exact this
set_option maxRecDepth 100000 in
set_option maxHeartbeats 1000000 in
theorem insNode_room (A : Option Addr) (n k c : Nat) (l : List Node) (x : Node) (w : World) (B vb : Nat) (hown : Ow cNode 9 40 w B (.slice A n c) l) (hk : k < n) (hc : n < c) (hv : Bk w vb (cNode x) 40) (hvA : (Value.slice A n c).ownBlock ≠ some vb) :
    Calls Tryd.prog 71 #[.slice A n c, .int .i64 k, .slice (some ⟨vb, 0, none⟩) 1 1] w (Rowed cNode 9 40 B (n + 1) (l.take k ++ x :: l.drop k) (Value.slice A n c).ownBlock w) := by
  obtain ⟨g, J, rfl, hBg, hbk, hbl, _, hcm, hnl⟩ := hown.blk (by omega)
  have H2 := Lib.hid hown.2
  have hvg : vb ≠ g := by intro h; exact hvA (by rw [h]; rfl)
  generalize hcur : l.flatMap cNode ++ J = cur at hbk hbl
  have HC := Lib.hid hcur
  have HL := Lib.hid hnl
  have HBL := Lib.hid hbl
  clear hcur hown hnl hbl
  have hne : ((k : Int) == (n : Int)) = false := by simp; omega
  have F1 := Lib.hid (flatMap_split H2.out k)
  have d1 : IntKind.i64.wrap ((n : Int) + 1) = (n : Int) + 1 := by rw [IntKind.wrap_i64]; simp [maxLen] at hcm; omega
  have d2 : ((n : Int) + 1).toNat = n + 1 := by omega
  have d3 : (0 : Int) ≤ (n : Int) + 1 := by omega
  have d4 : (n : Int) + 1 ≤ (c : Int) := by omega
  have d5 : ¬ (c : Int) < (n : Int) + 1 := by omega
  have e1 : IntKind.i64.wrap ((k : Int) + 1) = (k : Int) + 1 := by rw [IntKind.wrap_i64]; simp [maxLen] at hcm; omega
  have e2 : ((k : Int) + 1).toNat = k + 1 := by omega
  have e3 : (0 : Int) ≤ (k : Int) + 1 := by omega
  have e4 : (k : Int) + 1 ≤ (n : Int) + 1 := by omega
  have e5 : ¬ c = k + 1 := by omega
  have e6 : ¬ c = k := by omega
  have e7 : (k : Int) ≤ (n : Int) + 1 := by omega
  have e8 : k ≤ n := by omega
  have hov := fun (off lb cb : Nat) => overlaps_no elNode Tryd.func81 (by kernel_rfl) (by kernel_rfl) (by kernel_rfl) (tB := 4) (by kernel_rfl) hv hbk hvg (by have := HBL.out; omega) off 1 1 lb cb
  go_enter Tryd.func71, Tryd.ntmps71
  go_wp2_with (simp only [hov])
  have hcsl : ((l.drop k).flatMap cNode).length = (n - k) * 9 := by rw [flatMap_length (fun y hy => H2.out y (List.mem_of_mem_drop hy)), List.length_drop, HL.out]
  have hcs1 : ∀ v ∈ (l.drop k).flatMap cNode, v.oneCell' = true := by intro v hv; obtain ⟨y, _, hy⟩ := List.mem_flatMap.1 hv; exact cNode_one y v hy
  have hsl : (splice cur ((k + 1) * 9) ((l.drop k).flatMap cNode)).length = c * 9 := by rw [splice_length _ _ _ (by rw [hcsl, HBL.out]; omega), HBL.out]
  have hsrc : ∀ (j : Nat) (v : Value), ((l.drop k).flatMap cNode)[j]? = some v → cur[k * 9 + j]? = some v := by
    intro j v hj
    rw [F1.out.2, List.getElem?_drop] at hj
    rw [← HC.out, List.getElem?_append_left (List.getElem?_eq_some_iff.1 hj).1]
    exact hj
  have HS := Lib.hid hsl
  have HSR := Lib.hid hsrc
  have HCL := Lib.hid hcsl
  clear hsl hsrc hcsl
  have hbd : Bk w.drew g cur 40 := hbk
  have hvd : Bk w.drew vb (cNode x) 40 := hv
  go_region_law (go_loud (refine step_cp rfl _ _ _ _ rfl elNode (cs := (l.drop k).flatMap cNode) (off := (k + 1) * 9) (dLen := n - k) (dCap := c - (k + 1)) (ad := ⟨g, k * 9, none⟩) (sLen := n + 1 - k) (sCap := c - k) (by simp [Act.eval, Act.put]) (by simp [Act.eval, Act.put]) hbd (by rw [HCL.out, show Nat.min (n + 1 - k) (n - k) = n - k from Nat.min_eq_right (by omega)]) (fun j v hj => by rw [Addr.add_lit, hbd.cell]; exact HSR.out j v hj) (by rw [HBL.out, HCL.out]; omega) hcs1 ?_; intro w3 hb3 hg3 hs3))
  go_wp2_with (first | (with_reducible refine wpList_atcp ?_); go_loud (refine wpList_cp rfl (.tmp 80) (.tmp 81) _ _ rfl elNode (cs := cNode x) (off := k * 9) (dLen := n + 1 - k) (dCap := c - k) rfl rfl hb3 (by rw [show ∀ q, 1 ≤ q → Nat.min 1 q = 1 from fun q h => Nat.min_eq_left h] <;> first | rfl | omega) (fun j v hj => by rw [Addr.add_lit, Nat.zero_add, (hvd.grown hg3 (by simp; exact hvg)).cell]; exact hj) (by rw [HS.out]; show k * 9 + 9 ≤ _; omega) (cNode_one x) ?_; intro w4 hb4 hg4 hs4))
  go_ret
  refine ⟨some ⟨g, 0, none⟩, c, rfl, ?_, (show w.grownBy w3 (some g) from ⟨hg3.os, hg3.tape, hg3.output, hg3.size, hg3.block⟩).trans hg4, .inl rfl⟩
  have hta : cur = (l.take k).flatMap cNode ++ (l.drop k).flatMap cNode ++ J := by rw [← List.flatMap_append, List.take_append_drop, HC.out]
  have hlt : ((l.take k).flatMap cNode).length = k * 9 := by rw [flatMap_length (fun y hy => H2.out y (List.mem_of_mem_take hy)), List.length_take, ← HL.out, Nat.min_eq_left (by omega)]
  have hJ : (cNode x).length ≤ J.length := by
    have h := HBL.out
    rw [hta, List.length_append, List.length_append, hlt, HCL.out] at h
    show 9 ≤ _
    omega
  have hall : ∀ y ∈ l.take k ++ x :: l.drop k, (cNode y).length = 9 := fun y _ => rfl
  have hlen : (l.take k ++ x :: l.drop k).length = n + 1 := by rw [List.length_append, List.length_take, List.length_cons, List.length_drop, ← HL.out]; omega
  have := Ow.of_blk (B := B) (g := g) (c := c) (J := J.drop (cNode x).length) hall hBg hb4 (by
    have h := ins1 ((l.take k).flatMap cNode) ((l.drop k).flatMap cNode) J (cNode x) hJ
    rw [hlt, ← hta] at h
    rw [show (k + 1) * 9 = k * 9 + (cNode x).length from by show _ = k * 9 + 9; omega, h, List.flatMap_append, List.flatMap_cons]
    simp only [List.append_assoc]) (by rw [splice_length _ _ _ (by rw [HS.out]; show k * 9 + 9 ≤ _; omega), HS.out]) (by rw [hlen]; omega) hcm
  rw [hlen] at this
  exact this
theorem insNode (v : Value) (k : Nat) (l : List Node) (x : Node) (w : World) (B vb : Nat) (hown : Ow cNode 9 40 w B v l) (hk : k ≤ l.length) (hv : Bk w vb (cNode x) 40) (hvA : v.ownBlock ≠ some vb)
    (hB : B ≤ w.heap.size) (hn : (l.length + 1) * 88 ≤ 140737488355328) :
    Calls Tryd.prog 71 #[v, .int .i64 k, .slice (some ⟨vb, 0, none⟩) 1 1] w (Rowed cNode 9 40 B (l.length + 1) (l.take k ++ x :: l.drop k) v.ownBlock w) := by
  obtain ⟨A, c, rfl, h2⟩ := hown.form
  rcases Nat.lt_or_ge k l.length with h | h
  · obtain ⟨g, J, rfl, _, _, _, hnc, _, _⟩ := hown.blk (by omega)
    by_cases hc : c = l.length
    · subst hc
      exact insNode_grow _ _ k l x w B vb hown h hv hB hn
    · exact insNode_room _ _ k c l x w B vb hown h (by omega) hv hvA
  · obtain rfl : k = l.length := by omega
    rw [List.take_length, List.drop_length]
    exact insNode_end _ _ c l x w B vb hown rfl hv hB hn
end Go.Proofs.YteolglmifimnaaaDoor

/- clear(s[i:]) on a row that is known whole. -/
namespace Go.Proofs.YteolglmifimnaaaDoor
open Go.RowKit
section
variable {P : Program}
theorem zeros_len {z : Value} {s : Nat} (hs : z.cells.size = s) (n : Nat) : (Builtin.zeroCells z.cells n).toList.length = n * s := by simp [size_zeroCells, hs]
theorem run_clear_blk {w : World} {t ty e : TypeId} {z : Value} {s bytes g o n c : Nat} {cur : List Value} {et : TypeId} (E : El P t e z s bytes) (hg : Bk w g cur et) (h1 : ∀ v ∈ z.cells, v.oneCell' = true) (hn : 0 < n) (hfit : o + n * s ≤ cur.length) :
    (Builtin.clear_ #[t] ty #[.slice (some ⟨g, o, none⟩) n c]).run P w = .ok (.tuple #[]) (w.setRow g (splice cur o (Builtin.zeroCells z.cells n).toList).toArray) := by
  obtain ⟨i, hi, hz, hsz, _⟩ := info_of E.info
  obtain ⟨m, rfl⟩ : ∃ m, n = m + 1 := ⟨n - 1, by omega⟩
  have hst := run_storeCells_at P g o et (Builtin.zeroCells z.cells (m + 1)).toList 0 cur.toArray w hg (by rw [zeros_len E.cells]; simpa using hfit) (by
    intro v hv
    rw [Array.mem_toList_iff] at hv
    simp only [Builtin.zeroCells, Array.mem_map, Array.mem_range] at hv
    obtain ⟨k, _, rfl⟩ := hv
    have hlt : k % z.cells.size < z.cells.size := Nat.mod_lt _ (by rw [E.cells]; exact E.pos)
    rw [getElem!_pos z.cells _ hlt]
    exact h1 _ (Array.getElem_mem _))
  simp [Builtin.clear_, run_underlying E.slice, zeroValue, typeInfo, hi, hz, hst, splice]
theorem run_clear_none {w : World} {t ty e : TypeId} {z : Value} {s bytes c : Nat} {A : Option Addr} (E : El P t e z s bytes) : (Builtin.clear_ #[t] ty #[.slice A 0 c]).run P w = .ok (.tuple #[]) w := by
  cases A <;> simp [Builtin.clear_, run_underlying E.slice]
theorem wp_clr {w : World} {o : Oper} {a : Act} {K : Act → World → Prop} {Q : Exit → Act → World → Prop} (d : Operand) (t : TypeId)
    (ho : o.op = .call { callee := .builtin .clear, args := #[d], argTypes := #[t] }) {e : TypeId} {z : Value} {s bytes : Nat} (E : El P t e z s bytes) {g off n c : Nat} {cur : List Value} {et : TypeId}
    (hd : a.eval d = .slice (some ⟨g, off, none⟩) n c) (hg : Bk w g cur et) (h1 : ∀ v ∈ z.cells, v.oneCell' = true) (hfit : off + n * s ≤ cur.length)
    (h : ∀ w' cur', Bk w' g cur' et → cur'.length = cur.length → cur'.take off = cur.take off → w.grownBy w' (some g) → w'.heap.size = w.heap.size → K (a.put o.dst (.tuple #[])) w') : o.wp P a w K Q := by
  rcases Nat.eq_zero_or_pos n with rfl | hn
  · have hr := run_clear_none (P := P) (w := w) (ty := o.type) (c := c) (A := some ⟨g, off, none⟩) E
    unfold Oper.wp execOp
    simp only [ho, resolve, invoke, builtin, Sem.run_bind, Sem.run_pure, Result.andThen_ok, List.map_toArray, List.map_cons, List.map_nil, hd, hr]
    exact h _ _ hg rfl rfl ⟨rfl, rfl, rfl, Nat.le_refl _, fun _ _ _ => rfl⟩ rfl
  · have hr := run_clear_blk (P := P) (ty := o.type) (c := c) E hg h1 hn hfit
    unfold Oper.wp execOp
    simp only [ho, resolve, invoke, builtin, Sem.run_bind, Sem.run_pure, Result.andThen_ok, List.map_toArray, List.map_cons, List.map_nil, hd, hr]
    have hz := zeros_len E.cells n
    refine h _ _ hg.setRow (splice_length _ _ _ (by rw [hz]; exact hfit)) ?_ (setRow_grown _ _ _) (by simp [World.setRow])
    unfold splice
    rw [List.take_append_of_le_length (by simp; omega), List.take_take, Nat.min_self]
theorem wpList_clr {w : World} {ops : Array Oper} {rest : List Oper} {o : Oper} {a : Act} {Q : Exit → Act → World → Prop} (hgd : o.guard = none) (d : Operand) (t : TypeId)
    (ho : o.op = .call { callee := .builtin .clear, args := #[d], argTypes := #[t] }) {e : TypeId} {z : Value} {s bytes : Nat} (E : El P t e z s bytes) {g off n c : Nat} {cur : List Value} {et : TypeId}
    (hd : a.eval d = .slice (some ⟨g, off, none⟩) n c) (hg : Bk w g cur et) (h1 : ∀ v ∈ z.cells, v.oneCell' = true) (hfit : off + n * s ≤ cur.length)
    (h : ∀ w' cur', Bk w' g cur' et → cur'.length = cur.length → cur'.take off = cur.take off → w.grownBy w' (some g) → w'.heap.size = w.heap.size → wpList P ops Q rest (a.put o.dst (.tuple #[])) w') : wpList P ops Q (o :: rest) a w :=
  wpList_plain hgd fun _ hK => wp_clr d t ho E hd hg h1 hfit fun w' cur' h2 h3 h4 h5 h6 => hK _ _ (h w' cur' h2 h3 h4 h5 h6)
theorem wpList_atclr {ops : Array Oper} {rest : List Oper} {d : Option Tmp} {args : Array Operand} {ts : Array TypeId} {ty : TypeId} {pos : String} {af : Array Edge} {g : Option (Nat × Bool)} {a : Act} {w : World} {Q : Exit → Act → World → Prop}
    (h : wpList P ops Q (⟨d, .call { callee := .builtin .clear, args := args, argTypes := ts }, ty, pos, af, g⟩ :: rest) a w) : wpList P ops Q (⟨d, .call { callee := .builtin .clear, args := args, argTypes := ts }, ty, pos, af, g⟩ :: rest) a w := h
end
end Go.Proofs.YteolglmifimnaaaDoor

/- slices.Delete of one element, at Entry: on a row of the call's own. -/
namespace Go.Proofs.YteolglmifimnaaaDoor
open Go.RowKit
theorem step_apr {P : Program} {w : World} {ops : Array Oper} {o : Oper} {a : Act} {K : Act → World → Prop} {Q : Exit → Act → World → Prop} {EE : Prop} (hgd : o.guard = none) (sv x : Operand) (t : TypeId)
    (ho : o.op = .call { callee := .builtin .append, args := #[sv, x], argTypes := #[t, t] }) {e : TypeId} {z : Value} {s bytes : Nat} (E : El P t e z s bytes) {g k c off m cc : Nat} {cur news : List Value} {et : TypeId}
    (hs : a.eval sv = .slice (some ⟨g, 0, none⟩) k c) (hx : a.eval x = .slice (some ⟨g, off, none⟩) m cc) (hg : Bk w g cur et) (hn : news.length = m * s) (hsrc : ∀ j v, news[j]? = some v → cur[off + j]? = some v)
    (hroom : k + m ≤ c) (hfit : k * s + news.length ≤ cur.length) (h1 : ∀ v ∈ news, v.oneCell' = true)
    (h : ∀ w', Bk w' g (splice cur (k * s) news) et → w.grownBy w' (some g) → w'.heap.size = w.heap.size → K (a.put o.dst (.slice (some ⟨g, 0, none⟩) (k + m) c)) w') : if Region.wanted o (yielded ops a.tmps) = true then Oper.wp P o a w K Q else EE := by
  obtain ⟨i, hi, _, hsz, _⟩ := info_of E.info
  refine step_append_room hgd sv x t ho e i s E.slice hi hsz g 0 k c hs ⟨g, off, none⟩ m cc news hx hn (fun j u hu => ?_) h1 hroom (fun j hj => ?_) ?_
  · rw [Addr.add_lit, hg.cell]
    exact hsrc j u hu
  · rw [Nat.zero_add, hg.cell, hg.frozen]
    refine ⟨?_, rfl⟩
    rw [List.getElem?_eq_getElem (by omega)]
    rfl
  · rw [Nat.zero_add]
    refine h _ (hg.puts news (k * s) hfit) (grownBy_setCells g news (k * s) w) ?_
    have key : ∀ (vs : List Value) (o : Nat) (w : World), (w.setCells g o vs).heap.size = w.heap.size := by
      intro vs
      induction vs with
      | nil => intro o w; rfl
      | cons v r ih => intro o w; rw [World.setCells, ih]; simp [World.setCell]
    exact key _ _ _
theorem drop_rows {α : Type} {f : α → List Value} {s : Nat} {l : List α} (hf : ∀ x ∈ l, (f x).length = s) (k : Nat) : (l.flatMap f).drop (k * s) = (l.drop k).flatMap f := by
  rcases Nat.lt_or_ge l.length k with h | h
  · rw [List.drop_eq_nil_of_le (by rw [flatMap_length hf]; exact Nat.mul_le_mul_right s (by omega)), List.drop_eq_nil_of_le (by omega)]
    rfl
  · have e : l.flatMap f = (l.take k).flatMap f ++ (l.drop k).flatMap f := by rw [← List.flatMap_append, List.take_append_drop]
    rw [e, ← show ((l.take k).flatMap f).length = k * s from by rw [flatMap_length (fun x hx => hf x (List.mem_of_mem_take hx)), List.length_take, Nat.min_eq_left h], List.drop_left]
theorem take_rows2 {α : Type} {f : α → List Value} {s : Nat} {l : List α} (hf : ∀ x ∈ l, (f x).length = s) {k : Nat} (h : k ≤ l.length) (J : List Value) : (l.flatMap f ++ J).take (k * s) = (l.take k).flatMap f := by
  have e : l.flatMap f = (l.take k).flatMap f ++ (l.drop k).flatMap f := by rw [← List.flatMap_append, List.take_append_drop]
  rw [e, List.append_assoc, ← show ((l.take k).flatMap f).length = k * s from by rw [flatMap_length (fun x hx => hf x (List.mem_of_mem_take hx)), List.length_take, Nat.min_eq_left h], List.take_left]
end Go.Proofs.YteolglmifimnaaaDoor

/- made by geninst.py from XT5.src -/
namespace Go.Proofs.YteolglmifimnaaaDoor
open Go.RowKit
set_option maxRecDepth 100000 in
set_option maxHeartbeats 1000000 in
theorem delNode_core (g n c k j m q : Nat) (cur news : List Value) (w : World) (hb : Bk w g cur 40) (hnews : news.length = m * 9) (hsrc : ∀ (i : Nat) (v : Value), news[i]? = some v → cur[j * 9 + i]? = some v)
    (hone : ∀ v ∈ news, v.oneCell' = true) (hlen : cur.length = c * 9) (hj : j = k + 1) (hm : k + m = q) (hn : n = q + 1) (hnc : n ≤ c) (hc : c ≤ 9223372036854775807) :
    Calls Tryd.prog 69 #[.slice (some ⟨g, 0, none⟩) n c, .int .i64 k, .int .i64 j] w fun e w' => e = .returned (.slice (some ⟨g, 0, none⟩) q c) ∧
      Hid (∃ cur', Bk w' g cur' 40 ∧ cur'.length = cur.length ∧ cur'.take (q * 9) = (splice cur (k * 9) news).take (q * 9) ∧ w.grownBy w' (some g)) := by
  have HB := Lib.hid hb
  have HO := Lib.hid hone
  have HN := Lib.hid hnews
  have HS := Lib.hid hsrc
  have HL := Lib.hid hlen
  have hkc : (k : Int) ≤ (c : Int) := by omega
  have hjn : (j : Int) ≤ (n : Int) := by omega
  have hnci : (n : Int) ≤ (c : Int) := by omega
  have hqn : (q : Int) ≤ (n : Int) := by omega
  have hqc : (q : Int) ≤ (c : Int) := by omega
  have hkj : (k : Int) ≤ (j : Int) := by omega
  have hkk : ((k : Int) == (j : Int)) = false := beq_eq_false_iff_ne.2 (by omega)
  have hnq : n - q = 1 := by omega
  have HQ := Lib.hid hn
  have HJ := Lib.hid hj
  have HBD : Hid (Bk w.drew g cur 40) := HB
  clear hb hone hnews hsrc hlen
  by_cases hcj : c = j
  · have hm0 : m = 0 := by omega
    subst hm0
    rw [Nat.add_zero] at hm
    subst hm
    have hn0 : news = [] := List.eq_nil_of_length_eq_zero (by simpa using HN.out)
    have HN0 := Lib.hid hn0
    have hnj : n = j := by omega
    subst hnj
    subst hcj
    clear hn hj hn0
    go_enter Tryd.func69, Tryd.ntmps69
    go_wp2_with fail
    go_region_law (first | (refine step_apr rfl (.tmp 22) (.tmp 25) _ rfl elNode (g := g) (k := k) (c := c) (off := 0) (m := 0) (cc := 0) (news := news) (by simp [Act.eval, Act.put]) (by simp [Act.eval, Act.put]) HBD.out (by rw [HN0.out]; rfl) (by rw [HN0.out]; simp) (by omega) (by rw [HN0.out, HL.out]; simp; omega) HO.out ?_; intro w2 hb2 hg2 hz2; have HB2 := Lib.hid hb2; have HG2 := Lib.hid hg2; have HZ2 := Lib.hid hz2; clear hb2 hg2 hz2))
    have hsl : (splice cur (k * 9) news).length = c * 9 := by rw [splice_length _ _ _ (by rw [HN0.out, HL.out]; simp; omega), HL.out]
    have HSL := Lib.hid hsl
    clear hsl
    go_wp2_with (first | (with_reducible refine wpList_atclr ?_); (refine wpList_clr rfl (.tmp 31) _ rfl elNode (off := k * 9) (n := 1) rfl HB2.out (by decide) (by rw [HSL.out]; omega) ?_; intro w3 cur3 hb3 hl3 ht3 hg3 _; have HB3 := Lib.hid hb3; have HL3 := Lib.hid hl3; have HT3 := Lib.hid ht3; have HG3 := Lib.hid hg3; clear hb3 hl3 ht3 hg3))
    refine bodyPost_ret (v := .slice (some ⟨g, 0, none⟩) k c) (by simp [results, Tryd.results69, go_sem]) rfl ⟨rfl, Lib.hid ⟨cur3, HB3.out, by rw [HL3.out, HSL.out, HL.out], HT3.out, ?_⟩⟩
    exact (show w.grownBy w2 (some g) from ⟨HG2.out.os, HG2.out.tape, HG2.out.output, HG2.out.size, HG2.out.block⟩).trans HG3.out
  · clear hn hj
    go_enter Tryd.func69, Tryd.ntmps69
    go_wp2_with fail
    go_region_law (first | (refine step_apr rfl (.tmp 22) (.tmp 25) _ rfl elNode (g := g) (k := k) (c := c) (off := j * 9) (m := m) (cc := c - j) (news := news) (by simp [Act.eval, Act.put]) (by simp [Act.eval, Act.put]; have := HQ.out; have := HJ.out; omega) HBD.out HN.out HS.out (by have := HQ.out; omega) (by rw [HN.out, HL.out]; have := HQ.out; omega) HO.out ?_; intro w2 hb2 hg2 hz2; have HB2 := Lib.hid hb2; have HG2 := Lib.hid hg2; have HZ2 := Lib.hid hz2; clear hb2 hg2 hz2))
    have hsl : (splice cur (k * 9) news).length = c * 9 := by rw [splice_length _ _ _ (by rw [HN.out, HL.out]; have := HQ.out; omega), HL.out]
    have HSL := Lib.hid hsl
    clear hsl
    go_wp2_with (first | (with_reducible refine wpList_atclr ?_); (refine wpList_clr rfl (.tmp 31) _ rfl elNode (off := q * 9) (n := 1) rfl HB2.out (by decide) (by rw [HSL.out]; have := HQ.out; omega) ?_; intro w3 cur3 hb3 hl3 ht3 hg3 _; have HB3 := Lib.hid hb3; have HL3 := Lib.hid hl3; have HT3 := Lib.hid ht3; have HG3 := Lib.hid hg3; clear hb3 hl3 ht3 hg3))
    refine bodyPost_ret (v := .slice (some ⟨g, 0, none⟩) q c) (by simp [results, Tryd.results69, go_sem]) rfl ⟨rfl, Lib.hid ⟨cur3, HB3.out, by rw [HL3.out, HSL.out, HL.out], HT3.out, ?_⟩⟩
    exact (show w.grownBy w2 (some g) from ⟨HG2.out.os, HG2.out.tape, HG2.out.output, HG2.out.size, HG2.out.block⟩).trans HG3.out
theorem delNode (A : Option Addr) (n c k : Nat) (l : List Node) (w : World) (B : Nat) (hown : Ow cNode 9 40 w B (.slice A n c) l) (hk : k < l.length) (hc : c ≤ 9223372036854775807) :
    Calls Tryd.prog 69 #[.slice A n c, .int .i64 k, .int .i64 (k + 1)] w fun e w' => e = .returned (.slice A (n - 1) c) ∧ Hid (Ow cNode 9 40 w' B (.slice A (n - 1) c) (l.take k ++ l.drop (k + 1)) ∧ w.grownBy w' (Value.slice A n c).ownBlock) := by
  have hnl : n = l.length := by obtain ⟨_, _, h, _⟩ := hown.form; injection h
  obtain ⟨g, J, rfl, hBg, hbk, hbl, hnc, hcm, _⟩ := hown.blk (by omega)
  have hf : ∀ x ∈ l, (cNode x).length = 9 := fun _ _ => rfl
  have hsp := drop_rows hf (k + 1)
  have hnews : ((l.drop (k + 1)).flatMap cNode).length = (n - (k + 1)) * 9 := by rw [flatMap_length (f := cNode) (s := 9) (fun _ _ => rfl), List.length_drop, hnl]
  have hsrc : ∀ (i : Nat) (v : Value), ((l.drop (k + 1)).flatMap cNode)[i]? = some v → (l.flatMap cNode ++ J)[(k + 1) * 9 + i]? = some v := by
    intro i v hj
    rw [← hsp, List.getElem?_drop] at hj
    rw [List.getElem?_append_left (List.getElem?_eq_some_iff.1 hj).1]
    exact hj
  have hone : ∀ v ∈ (l.drop (k + 1)).flatMap cNode, v.oneCell' = true := by intro v hv; obtain ⟨y, _, hy⟩ := List.mem_flatMap.1 hv; exact cNode_one y v hy
  have htake := take_rows2 hf (Nat.le_of_lt hk) J
  have hlen : (l.take k ++ l.drop (k + 1)).length = n - 1 := by rw [List.length_append, List.length_take, List.length_drop]; omega
  rw [show (k : Int) + 1 = ((k + 1 : Nat) : Int) from by omega]
  refine (delNode_core g n c k (k + 1) (n - (k + 1)) (n - 1) _ _ w hbk hnews hsrc hone hbl rfl (by omega) (by omega) hnc hc).mono ?_
  rintro e w' ⟨rfl, h⟩
  obtain ⟨cur', hb', hl', ht', hg'⟩ := h.out
  refine ⟨rfl, Lib.hid ⟨?_, hg'⟩⟩
  have hlt : ((l.take k).flatMap cNode).length = k * 9 := by rw [flatMap_length (f := cNode) (s := 9) (fun _ _ => rfl), List.length_take, Nat.min_eq_left (by omega)]
  have hpre : cur'.take ((n - 1) * 9) = (l.take k ++ l.drop (k + 1)).flatMap cNode := by
    rw [ht']
    unfold splice
    rw [htake, List.flatMap_append]
    have e : (n - 1) * 9 = ((l.take k).flatMap cNode ++ (l.drop (k + 1)).flatMap cNode).length := by rw [List.length_append, hlt, hnews]; omega
    rw [e, ← List.append_assoc, List.take_left]
  have hcur : cur' = (l.take k ++ l.drop (k + 1)).flatMap cNode ++ cur'.drop ((n - 1) * 9) := by rw [← hpre, List.take_append_drop]
  have := Ow.of_blk (f := cNode) (s := 9) (B := B) (fun _ _ => rfl) hBg hb' hcur (by rw [hl']; exact hbl) (by rw [hlen]; omega) hcm
  rw [hlen] at this
  exact this
end Go.Proofs.YteolglmifimnaaaDoor

/- Regions that draw their order, whose operations read, and whose calls leave the memory as it was but for what they made anew: the lexical walk serves every order. -/
namespace Go.Proofs.YteolglmifimnaaaDoor
open Go.RowKit
/-- how memory has grown: one datum, that a simp does not take apart -/
structure Grn where
  ext : Array Obj
  d : Nat
instance : Nonempty Grn := ⟨⟨#[], 0⟩⟩
theorem grow_nil (W : World) (d : Nat) : grow W #[] d = { W with drawn := d } := by simp [grow]
theorem wp_region_grow {P : Program} {id : Nat} {Q : Exit → Act → World → Prop} {a : Act} {w : World} {l : List Oper} (hm : P.follows .mixedOrders = true) (hB : Region.lexB .any l.toArray = true)
    (h : wpQuiet P l.toArray (fun w' => ∃ p : Grn, w' = grow w p.ext p.d) (fun a' => ∀ w', (∃ p : Grn, w' = grow w p.ext p.d) → Q .normal a' w') l a) : (Code.region id l.toArray true).wp P Q a w :=
  wp_region_quiet (C := fun w' => ∃ p : Grn, w' = grow w p.ext p.d) hm hB ⟨⟨#[], w.drawn + 1⟩, (grow_nil w _).symm⟩ (by simpa using h)
/-- a contract that lets memory grow, met in such a region -/
theorem Calls.grow_of {P : Program} {f : FuncId} {args : Array Value} {w : World} {p : Grn} {v : Value}
    (h : Calls P f args (grow w p.ext p.d) fun e w' => e = .returned v ∧ Below (grow w p.ext p.d).heap.size (grow w p.ext p.d) w') : Calls P f args (grow w p.ext p.d) fun e w'' => e = .returned v ∧ ∃ p : Grn, w'' = grow w p.ext p.d :=
  h.mono fun _ _ ⟨he, hb⟩ => ⟨he, by
    obtain ⟨ext, d, h⟩ := Below.grown_eq w (Below.own (Below.grow w p.ext p.d (Below.refl _ _) (Nat.le_refl _)) hb)
    exact ⟨⟨ext, d⟩, h⟩⟩
theorem Calls.grow_of_same {P : Program} {f : FuncId} {args : Array Value} {w : World} {p : Grn} {v : Value}
    (h : Calls P f args (grow w p.ext p.d) fun e w' => e = .returned v ∧ w' = grow w p.ext p.d) : Calls P f args (grow w p.ext p.d) fun e w'' => e = .returned v ∧ ∃ p : Grn, w'' = grow w p.ext p.d :=
  h.mono fun _ _ ⟨he, hb⟩ => ⟨he, p, hb⟩
/-! a cut inside such a walk: the scratch slots from lo on are forgotten, but for the last of them, that holds a Bool -/
def junk : Nat → Nat → (Nat → Value) → List Value
  | 0, _, _ => []
  | n + 1, i, m => m i :: junk n (i + 1) m
theorem junk_get (m : Nat → Value) : ∀ (n i k : Nat), (junk n i m)[k]? = if k < n then some (m (i + k)) else none
  | 0, i, k => by simp [junk]
  | n + 1, i, 0 => by simp [junk]
  | n + 1, i, k + 1 => by
    unfold junk
    rw [List.getElem?_cons_succ, junk_get m n (i + 1) k]
    by_cases h : k < n
    · rw [if_pos h, if_pos (by omega), show i + 1 + k = i + (k + 1) from by omega]
    · rw [if_neg h, if_neg (by omega)]
theorem junk_of (l : List Value) : junk l.length 0 (fun i => l.getD i undef) = l := by
  apply List.ext_getElem?
  intro k
  rw [junk_get]
  by_cases h : k < l.length
  · rw [if_pos h, Nat.zero_add, List.getD_eq_getElem?_getD, List.getElem?_eq_getElem h]
    rfl
  · rw [if_neg h, List.getElem?_eq_none (by omega)]
theorem act_of {a' : Act} {L : List Value} {ds : List Deferred} {lo len : Nat} {v : Value} (h0 : a'.defers = ds) (h1 : a'.tmps.toList.take lo = L.take lo) (h2 : a'.tmps.toList.drop (lo + len + 1) = L.drop (lo + len + 1)) (h3 : a'.tmps.toList[lo + len]? = some v) :
    ∃ m, a' = ⟨(L.take lo ++ (junk len 0 m ++ v :: L.drop (lo + len + 1))).toArray, ds⟩ := by
  have hlt := (List.getElem?_eq_some_iff.1 h3).1
  refine ⟨fun i => ((a'.tmps.toList.drop lo).take len).getD i undef, ?_⟩
  have hj := junk_of ((a'.tmps.toList.drop lo).take len)
  rw [List.length_take, List.length_drop, Nat.min_eq_left (by omega)] at hj
  rw [hj, ← h1, ← h2]
  have e1 : v :: a'.tmps.toList.drop (lo + len + 1) = a'.tmps.toList.drop (lo + len) := by
    rw [List.drop_eq_getElem_cons hlt]
    congr 1
    rw [List.getElem?_eq_getElem hlt] at h3
    injection h3 with h3
    exact h3.symm
  have e2 : (a'.tmps.toList.drop lo).take len ++ a'.tmps.toList.drop (lo + len) = a'.tmps.toList.drop lo := by
    rw [← List.drop_drop, List.take_append_drop]
  rw [e1, e2, List.take_append_drop]
  cases a'
  subst h0
  simp
section
variable {P : Program} {ops : Array Oper} {C : World → Prop}
theorem wpQuiet_two {Q R : Act → Prop} : ∀ (l1 l2 : List Oper) (a : Act), wpQuiet P ops C R l1 a → (∀ a', R a' → wpQuiet P ops C Q l2 a') → wpQuiet P ops C Q (l1 ++ l2) a
  | [], l2, a, h1, h2 => h2 a h1
  | o :: l1, l2, a, h1, h2 => by
    rw [List.cons_append]
    unfold wpQuiet at h1 ⊢
    split
    · rename_i hw
      rw [if_pos hw] at h1
      exact Oper.quiet_mono (fun a h => wpQuiet_two l1 l2 a h h2) h1
    · rename_i hw
      rw [if_neg hw] at h1
      exact wpQuiet_two l1 l2 _ h1 h2
theorem wpQuiet_cut {Q : Act → Prop} {l : List Oper} {L : List Value} {ds : List Deferred} (n lo len : Nat) (v : Bool)
    (h1 : wpQuiet P ops C (fun a' => a'.defers = ds ∧ a'.tmps.toList.take lo = L.take lo ∧ a'.tmps.toList.drop (lo + len + 1) = L.drop (lo + len + 1) ∧ a'.tmps.toList[lo + len]? = some (.bool v)) (l.take n) ⟨L.toArray, ds⟩)
    (h2 : ∀ m b, Hid (v = b) → wpQuiet P ops C Q (l.drop n) ⟨(L.take lo ++ (junk len 0 m ++ .bool b :: L.drop (lo + len + 1))).toArray, ds⟩) : wpQuiet P ops C Q l ⟨L.toArray, ds⟩ := by
  rw [← List.take_append_drop n l]
  refine wpQuiet_two _ _ _ h1 (fun a' h => ?_)
  obtain ⟨m, e⟩ := act_of h.1 h.2.1 h.2.2.1 h.2.2.2
  rw [e]
  exact h2 m v (Lib.hid rfl)
end
end Go.Proofs.YteolglmifimnaaaDoor

/- The hand of package tree: a tree that is its own, in a block, and its rows. -/
namespace Go.Proofs.YteolglmifimnaaaDoor
open Go.RowKit Go.ChangeShapes Go.WideShapes Go.ChangeAt
theorem Bk.far {w : World} {g g2 j : Nat} {cs : List Value} {t : TypeId} {v : Value} (h : Bk w g cs t) (hne : g ≠ g2) : Bk (w.setCell ⟨g2, j, none⟩ v) g cs t := h.grown (grownBy_setCell w g2 j v) (by simpa using hne)
section
variable {α : Type} {f : α → List Value} {s : Nat} {e : TypeId} {w : World} {B : Nat} {v : Value} {l : List α}
theorem Ow.far2 (h : Ow f s e w B v l) {g j : Nat} {u : Value} (hne : v.ownBlock ≠ some g) : Ow f s e (w.setCell ⟨g, j, none⟩ u) B v l := h.kept (grownBy_setCell w g j u) (.inr hne)
theorem flatMap_set1 {x x' : α} {j : Nat} {u : Value} (J : List Value) (hj : j < s) (hx' : f x' = (f x).set j u) : ∀ (l : List α) (k : Nat), (∀ x ∈ l, (f x).length = s) → l[k]? = some x → (l.flatMap f ++ J).set (k * s + j) u = (l.set k x').flatMap f ++ J
  | [], k, _, h => by simp at h
  | y :: l, 0, hf, h => by
    simp at h
    subst h
    have hy := hf y (by simp)
    rw [Nat.zero_mul, Nat.zero_add, List.flatMap_cons, List.append_assoc, List.set_append_left _ _ (by omega), List.set_cons_zero, List.flatMap_cons, hx', List.append_assoc]
  | y :: l, k + 1, hf, h => by
    have hy := hf y (by simp)
    have ih := flatMap_set1 J hj hx' l k (fun x hx => hf x (by simp [hx])) (by simpa using h)
    rw [List.flatMap_cons, List.append_assoc, List.set_append_right _ _ (by rw [hy, Nat.succ_mul]; omega), hy, show (k + 1) * s + j - s = k * s + j from by rw [Nat.succ_mul]; omega, ih, List.set_cons_succ, List.flatMap_cons, List.append_assoc]
/-- one cell of an element of an owned row is written -/
theorem Ow.cell1 {g n c : Nat} (h : Ow f s e w B (.slice (some ⟨g, 0, none⟩) n c) l) {k j o : Nat} {x x' : α} {u : Value} (hx : l[k]? = some x) (hj : j < s) (ho : o = k * s + j) (hx' : f x' = (f x).set j u) :
    Ow f s e (w.setCell ⟨g, o, none⟩ u) B (.slice (some ⟨g, 0, none⟩) n c) (l.set k x') := by
  subst ho
  have hk := (List.getElem?_eq_some_iff.1 hx).1
  have hnl : n = l.length := by obtain ⟨_, _, h, _⟩ := h.form; injection h
  obtain ⟨g', J, hg, hB, hb, hl, hn, hc, _⟩ := h.blk (by omega)
  injection hg with hg
  injection hg with hg
  subst hg
  have hset := flatMap_set1 J hj hx' l k h.2 hx
  have hlen : (l.set k x').length = n := by rw [List.length_set, hnl]
  have hff : ∀ y ∈ l.set k x', (f y).length = s := by
    intro y hy
    rcases List.mem_or_eq_of_mem_set hy with h' | rfl
    · exact h.2 y h'
    · rw [hx', List.length_set]
      exact h.2 x (List.mem_of_getElem? hx)
  have := Ow.of_blk (J := J) hff hB (hb.put (k * s + j) u) hset (by rw [List.length_set]; exact hl) (by omega) hc
  rw [hlen] at this
  exact this
end
/-- the cells of an element of an owned row -/
theorem Ow.at_cell {α : Type} {f : α → List Value} {s : Nat} {e : TypeId} {w : World} {B g n c : Nat} {l : List α} (h : Ow f s e w B (.slice (some ⟨g, 0, none⟩) n c) l) {k j o : Nat} {x : α} {u : Value} (hx : l[k]? = some x) (hu : (f x)[j]? = some u) (ho : o = k * s + j) : w.cell? ⟨g, o, none⟩ = some u ∧ w.frozen? ⟨g, o, none⟩ = false := by
  subst ho
  have hk := (List.getElem?_eq_some_iff.1 hx).1
  have hnl : n = l.length := by obtain ⟨_, _, h, _⟩ := h.form; injection h
  obtain ⟨g', J, hg, hB, hb, hl, hn, hc, _⟩ := h.blk (by omega)
  injection hg with hg
  injection hg with hg
  subst hg
  refine ⟨?_, hb.frozen _⟩
  rw [hb.cell]
  have h1 := flatMap_get h.2 hx hu
  rw [List.getElem?_append_left (List.getElem?_eq_some_iff.1 h1).1]
  exact h1
abbrev txnV (t : Txn) : Value := .agg #[.int .i64 t.zxid, .int .i64 t.op, .int .i64 t.session, .string t.path, .string t.data, .int .i64 t.version, .int .i64 t.owner]
structure Hand (w : World) (B b : Nat) (t : Tr) (ev : List Event) (nv sv vv : Value) : Prop where
  bk : Bk w b [.int .i64 t.zxid, nv, sv, vv] 90
  nodes : Ow cNode 9 40 w B nv t.nodes
  sess : Ow cInt 1 3 w B sv t.sess
  evs : Ow cEvent 2 55 w B vv ev
  nb : nv.ownBlock ≠ some b
  sb : sv.ownBlock ≠ some b
  vb : vv.ownBlock ≠ some b
  ns : ∀ q, nv.ownBlock = some q → sv.ownBlock ≠ some q
  nv : ∀ q, nv.ownBlock = some q → vv.ownBlock ≠ some q
  sv : ∀ q, sv.ownBlock = some q → vv.ownBlock ≠ some q
  base : B ≤ b
theorem Hand.below {w w' : World} {B b : Nat} {t : Tr} {ev : List Event} {nv sv vv : Value} (h : Hand w B b t ev nv sv vv) (hb : Below w.heap.size w w') : Hand w' B b t ev nv sv vv :=
  ⟨h.bk.below hb, h.nodes.below hb, h.sess.below hb, h.evs.below hb, h.nb, h.sb, h.vb, h.ns, h.nv, h.sv, h.base⟩
theorem Hand.cells {w : World} {B b : Nat} {t : Tr} {ev : List Event} {nv sv vv : Value} (h : Hand w B b t ev nv sv vv) :
    w.cell? ⟨b, 0, none⟩ = some (.int .i64 t.zxid) ∧ w.cell? ⟨b, 1, none⟩ = some nv ∧ w.cell? ⟨b, 2, none⟩ = some sv ∧ w.cell? ⟨b, 3, none⟩ = some vv ∧ w.frozen? ⟨b, 1, none⟩ = false ∧ w.frozen? ⟨b, 2, none⟩ = false ∧ w.frozen? ⟨b, 3, none⟩ = false ∧ w.frozen? ⟨b, 0, none⟩ = false ∧ b < w.heap.size :=
  ⟨h.bk.cell 0, h.bk.cell 1, h.bk.cell 2, h.bk.cell 3, h.bk.frozen 1, h.bk.frozen 2, h.bk.frozen 3, h.bk.frozen 0, h.bk.lt⟩
/-- one number of a node is written -/
theorem Hand.put {w : World} {B b g n c : Nat} {z : Int} {l : List Node} {ss : List Int} {ev : List Event} {sv vv : Value} (h : Hand w B b ⟨z, l, ss⟩ ev (.slice (some ⟨g, 0, none⟩) n c) sv vv) {k j o : Nat} {x x' : Node} {u : Value} (hx : l[k]? = some x) (hj : j < 9) (ho : o = k * 9 + j) (hx' : cNode x' = (cNode x).set j u) :
    Hand (w.setCell ⟨g, o, none⟩ u) B b ⟨z, l.set k x', ss⟩ ev (.slice (some ⟨g, 0, none⟩) n c) sv vv := by
  have hg : (Value.slice (some ⟨g, 0, none⟩) n c).ownBlock = some g := rfl
  exact ⟨h.bk.far (fun e => h.nb (by rw [hg, e])), h.nodes.cell1 hx hj ho hx', h.sess.far2 (h.ns g hg), h.evs.far2 (h.nv g hg), h.nb, h.sb, h.vb, h.ns, h.nv, h.sv, h.base⟩
/-- a row is written anew, and the field that holds it -/
theorem Hand.events {w w1 : World} {B b : Nat} {t : Tr} {ev ev' : List Event} {nv sv vv vv' : Value} (h : Hand w B b t ev nv sv vv) (hg : w.grownBy w1 vv.ownBlock) (ho : Ow cEvent 2 55 w1 B vv' ev') (ha : vv'.ownBlock = vv.ownBlock ∨ ∃ q, vv'.ownBlock = some q ∧ w.heap.size ≤ q) :
    Hand (w1.setCell ⟨b, 3, none⟩ vv') B b t ev' nv sv vv' := by
  have hb1 : Bk w1 b [.int .i64 t.zxid, nv, sv, vv] 90 := h.bk.grown hg (fun e => h.vb e.symm)
  have hlt := h.bk.lt
  have hvb : vv'.ownBlock ≠ some b := by
    rcases ha with e | ⟨q, e, hq⟩
    · rw [e]; exact h.vb
    · rw [e]; intro e2; injection e2 with e2; omega
  refine ⟨by simpa using hb1.put 3 vv', (h.nodes.kept hg ?_).far2 h.nb, (h.sess.kept hg ?_).far2 h.sb, ho.far2 hvb, h.nb, h.sb, hvb, h.ns, fun q hq => ?_, fun q hq => ?_, h.base⟩
  · cases hn : nv.ownBlock with
    | none => exact .inl rfl
    | some q => exact .inr (fun e => h.nv q hn e.symm)
  · cases hn : sv.ownBlock with
    | none => exact .inl rfl
    | some q => exact .inr (fun e => h.sv q hn e.symm)
  · rcases ha with e | ⟨r, e, hr⟩
    · rw [e]; exact h.nv q hq
    · have := (h.nodes.lt q hq)
      rw [e]; intro e2; injection e2 with e2; omega
  · rcases ha with e | ⟨r, e, hr⟩
    · rw [e]; exact h.sv q hq
    · have := (h.sess.lt q hq)
      rw [e]; intro e2; injection e2 with e2; omega
theorem Hand.rows {w w1 : World} {B b : Nat} {z : Int} {l l' : List Node} {ss : List Int} {ev : List Event} {nv sv vv nv' : Value} (h : Hand w B b ⟨z, l, ss⟩ ev nv sv vv) (hg : w.grownBy w1 nv.ownBlock) (ho : Ow cNode 9 40 w1 B nv' l') (ha : nv'.ownBlock = nv.ownBlock ∨ ∃ q, nv'.ownBlock = some q ∧ w.heap.size ≤ q) :
    Hand (w1.setCell ⟨b, 1, none⟩ nv') B b ⟨z, l', ss⟩ ev nv' sv vv := by
  have hb1 : Bk w1 b [.int .i64 z, nv, sv, vv] 90 := h.bk.grown hg (fun e => h.nb e.symm)
  have hlt := h.bk.lt
  have hvb : nv'.ownBlock ≠ some b := by
    rcases ha with e | ⟨q, e, hq⟩
    · rw [e]; exact h.nb
    · rw [e]; intro e2; injection e2 with e2; omega
  refine ⟨by simpa using hb1.put 1 nv', ho.far2 hvb, (h.sess.kept hg ?_).far2 h.sb, (h.evs.kept hg ?_).far2 h.vb, hvb, h.sb, h.vb, fun q hq => ?_, fun q hq => ?_, h.sv, h.base⟩
  · cases hn : sv.ownBlock with
    | none => exact .inl rfl
    | some q => exact .inr (fun e => h.ns q e.symm hn)
  · cases hn : vv.ownBlock with
    | none => exact .inl rfl
    | some q => exact .inr (fun e => h.nv q e.symm hn)
  · rcases ha with e | ⟨r, e, hr⟩
    · rw [e] at hq; exact h.ns q hq
    · intro e2
      have := (h.sess.lt q e2)
      rw [e] at hq; injection hq with hq; omega
  · rcases ha with e | ⟨r, e, hr⟩
    · rw [e] at hq; exact h.nv q hq
    · intro e2
      have := (h.evs.lt q e2)
      rw [e] at hq; injection hq with hq; omega
theorem Hand.sessions {w w1 : World} {B b : Nat} {z : Int} {l : List Node} {ss ss' : List Int} {ev : List Event} {nv sv vv sv' : Value} (h : Hand w B b ⟨z, l, ss⟩ ev nv sv vv) (hg : w.grownBy w1 sv.ownBlock) (ho : Ow cInt 1 3 w1 B sv' ss') (ha : sv'.ownBlock = sv.ownBlock ∨ ∃ q, sv'.ownBlock = some q ∧ w.heap.size ≤ q) :
    Hand (w1.setCell ⟨b, 2, none⟩ sv') B b ⟨z, l, ss'⟩ ev nv sv' vv := by
  have hb1 : Bk w1 b [.int .i64 z, nv, sv, vv] 90 := h.bk.grown hg (fun e => h.sb e.symm)
  have hlt := h.bk.lt
  have hvb : sv'.ownBlock ≠ some b := by
    rcases ha with e | ⟨q, e, hq⟩
    · rw [e]; exact h.sb
    · rw [e]; intro e2; injection e2 with e2; omega
  refine ⟨by simpa using hb1.put 2 sv', (h.nodes.kept hg ?_).far2 h.nb, ho.far2 hvb, (h.evs.kept hg ?_).far2 h.vb, h.nb, hvb, h.vb, fun q hq => ?_, h.nv, fun q hq => ?_, h.base⟩
  · cases hn : nv.ownBlock with
    | none => exact .inl rfl
    | some q => exact .inr (fun e => h.ns q hn e.symm)
  · cases hn : vv.ownBlock with
    | none => exact .inl rfl
    | some q => exact .inr (fun e => h.sv q e.symm hn)
  · rcases ha with e | ⟨r, e, hr⟩
    · rw [e]; exact h.ns q hq
    · have := (h.nodes.lt q hq)
      rw [e]; intro e2; injection e2 with e2; omega
  · rcases ha with e | ⟨r, e, hr⟩
    · rw [e] at hq; exact h.sv q hq
    · intro e2
      have := (h.evs.lt q e2)
      rw [e] at hq; injection hq with hq; omega
theorem Below.set_up {B : Nat} {w w1 : World} {g o : Nat} {v : Value} (h : Below B w w1) (hg : B ≤ g) : Below B w (w1.setCell ⟨g, o, none⟩ v) := h.setCell hg v
theorem Below.grown_up {B : Nat} {w w1 w2 : World} {row : Option Nat} (h : Below B w w1) (hB : B ≤ w1.heap.size) (hg : w1.grownBy w2 row) (hr : ∀ q, row = some q → B ≤ q) : Below B w w2 := by
  obtain ⟨g1, g2, g3, g4, g5⟩ := hg
  refine h.trans ⟨g1, g2, g3, g4, fun k hk => g5 k (by omega) ?_⟩
  cases row with
  | none => simp
  | some q => have := hr q rfl; simp; omega
theorem hand_push {w W X w2 : World} {B b : Nat} {t : Tr} {ev ev' : List Event} {nv sv vv v2 : Value} (HH : Hand W B b t ev nv sv vv) (HB : Below B w W) (hX : Below W.heap.size W X) (hown2 : Ow cEvent 2 55 w2 B v2 ev') (hg2 : X.grownBy w2 vv.ownBlock) (ha : v2.ownBlock = vv.ownBlock ∨ v2.ownBlock = some X.heap.size) :
    Hand (w2.setCell ⟨b, 3, none⟩ v2) B b t ev' nv sv v2 ∧ Below B w (w2.setCell ⟨b, 3, none⟩ v2) ∧ w2.cell? ⟨b, 3, none⟩ = some vv ∧ w2.frozen? ⟨b, 3, none⟩ = false ∧ b < w2.heap.size := by
  have hbl := HH.bk.lt
  have hbB := HH.base
  have hXs := hX.size
  have hk : Bk w2 b [.int .i64 t.zxid, nv, sv, vv] 90 := (HH.bk.below hX).grown hg2 (fun e => HH.vb e.symm)
  refine ⟨(HH.below hX).events hg2 hown2 (ha.imp id (fun e => ⟨_, e, Nat.le_refl _⟩)), ?_, hk.cell 3, hk.frozen 3, hk.lt⟩
  exact Below.set_up (Below.grown_up (HB.trans (hX.mono (by omega))) (by omega) hg2 (fun q hq => ((HH.evs.below hX).own_in hq).1)) hbB
theorem hand_rows {w W X w2 : World} {B b : Nat} {z : Int} {l l' : List Node} {ss : List Int} {ev : List Event} {nv sv vv v2 : Value} (HH : Hand W B b ⟨z, l, ss⟩ ev nv sv vv) (HB : Below B w W) (hX : Below W.heap.size W X) (hown2 : Ow cNode 9 40 w2 B v2 l') (hg2 : X.grownBy w2 nv.ownBlock) (ha : v2.ownBlock = nv.ownBlock ∨ v2.ownBlock = some X.heap.size) :
    Hand (w2.setCell ⟨b, 1, none⟩ v2) B b ⟨z, l', ss⟩ ev v2 sv vv ∧ Below B w (w2.setCell ⟨b, 1, none⟩ v2) ∧ w2.cell? ⟨b, 1, none⟩ = some nv ∧ w2.frozen? ⟨b, 1, none⟩ = false ∧ b < w2.heap.size := by
  have hbl := HH.bk.lt
  have hbB := HH.base
  have hXs := hX.size
  have hk : Bk w2 b [.int .i64 z, nv, sv, vv] 90 := (HH.bk.below hX).grown hg2 (fun e => HH.nb e.symm)
  refine ⟨(HH.below hX).rows hg2 hown2 (ha.imp id (fun e => ⟨_, e, Nat.le_refl _⟩)), ?_, hk.cell 1, hk.frozen 1, hk.lt⟩
  exact Below.set_up (Below.grown_up (HB.trans (hX.mono (by omega))) (by omega) hg2 (fun q hq => ((HH.nodes.below hX).own_in hq).1)) hbB
theorem hand_sess {w W X w2 : World} {B b : Nat} {z : Int} {l : List Node} {ss ss' : List Int} {ev : List Event} {nv sv vv v2 : Value} (HH : Hand W B b ⟨z, l, ss⟩ ev nv sv vv) (HB : Below B w W) (hX : Below W.heap.size W X) (hown2 : Ow cInt 1 3 w2 B v2 ss') (hg2 : X.grownBy w2 sv.ownBlock) (ha : v2.ownBlock = sv.ownBlock ∨ v2.ownBlock = some X.heap.size) :
    Hand (w2.setCell ⟨b, 2, none⟩ v2) B b ⟨z, l, ss'⟩ ev nv v2 vv ∧ Below B w (w2.setCell ⟨b, 2, none⟩ v2) ∧ w2.cell? ⟨b, 2, none⟩ = some sv ∧ w2.frozen? ⟨b, 2, none⟩ = false ∧ b < w2.heap.size := by
  have hbl := HH.bk.lt
  have hbB := HH.base
  have hXs := hX.size
  have hk : Bk w2 b [.int .i64 z, nv, sv, vv] 90 := (HH.bk.below hX).grown hg2 (fun e => HH.sb e.symm)
  refine ⟨(HH.below hX).sessions hg2 hown2 (ha.imp id (fun e => ⟨_, e, Nat.le_refl _⟩)), ?_, hk.cell 2, hk.frozen 2, hk.lt⟩
  exact Below.set_up (Below.grown_up (HB.trans (hX.mono (by omega))) (by omega) hg2 (fun q hq => ((HH.sess.below hX).own_in hq).1)) hbB
end Go.Proofs.YteolglmifimnaaaDoor

/- package tree: lacks. -/
namespace Go.Proofs.YteolglmifimnaaaDoor
open Go.RowKit Go.ChangeShapes Go.WideShapes Go.ChangeAt
def lacksX (l : List Node) (x : Txn) (th : Int) : Int := if th = 0 then 8 else if hasN l (parent x.path) then (if (getN l (parent x.path)).owner ≠ 0 then 11 else if x.owner ≠ 0 ∧ x.owner ≠ x.session then 12 else if 400 ≤ l.length then 6 else 0) else 7
theorem lacks_is (t : Tr) (x : Txn) : lacksX t.nodes x (getE t.nodes x.path) = lacksE t x := by
  unfold lacksX lacksE getE
  cases hasN t.nodes x.path <;> rfl
set_option maxRecDepth 100000 in
set_option maxHeartbeats 4000000 in
theorem trLacks (z : Int) (v v2 : Value) (l : List Node) (ss : List Int) (x : Txn) (th : Int) (w : World) (h : Sl cNode 9 w v l) (h2 : Sl cInt 1 w v2 ss) (hn : l.length ≤ 140737488355328) (hp : x.path.size ≤ 9223372036854775807) :
    Calls Tryd.prog 62 #[.agg #[.int .i64 z, v, v2], txnV x, .int .i64 th] w fun e w' => e = .returned (.int .i64 (lacksX l x th)) ∧ Below w.heap.size w w' := by
  obtain ⟨A, c, rfl, h1, h1b⟩ := h.form
  obtain ⟨A2, c2, rfl, h3, h3b⟩ := h2.form
  have HV := Lib.hid h
  have HSP := Lib.hid (fun (W : World) => split_any x.path W hp)
  have HGT := Lib.hid (fun (W : World) (h : Sl cNode 9 W (.slice A l.length c) l) => trGet z (.slice A l.length c) A2 ss.length c2 l (splitR x.path).1 W h hn)
  unfold lacksX parent
  obtain ⟨xz, xo, xs, xp, xd, xv, xw⟩ := x
  simp only at *
  generalize splitR xp = sp at *
  obtain ⟨sd, st, se⟩ := sp
  simp only at *
  clear h h2
  unfold getE at HGT
  generalize getN l sd = g at *
  obtain ⟨gp, gd, g1, g2, g3, g4, g5, go, gk⟩ := g
  simp only at *
  by_cases a1 : th = 0
  · rw [if_pos a1]
    subst a1
    cases hk : hasN l sd
    all_goals rw [hk] at HGT
    all_goals simp only [if_true, Bool.false_eq_true, if_false] at HGT
    all_goals clear hk
    case false =>
      go_enter Tryd.func62, Tryd.ntmps62
      go_wp2_with (first | (go_at_call 25; refine (HSP.out _).mono ?_; rintro e w1 ⟨rfl, hb⟩; obtain ⟨ext1, d1, rfl⟩ := Below.grown_eq _ hb; clear hb) | (go_at_call 19; refine (HGT.out _ (HV.out.below (by repeat (first | with_reducible exact Below.refl _ _ | with_reducible assumption | with_reducible exact below_d1 _ _ _ _ _ | with_reducible exact below_d2 _ _ _ _ _ _ _ _ | with_reducible exact below_d3 _ _ _ _ _ | with_reducible exact below_d4 _ _ _ _ _ _ _ _ | with_reducible exact below_d5 _ _ | with_reducible refine Below.drew ?_ | with_reducible refine Below.drewN' ?_ _ | with_reducible refine below_grow0 _ _ ?_ | with_reducible refine below_alloc0 _ ?_ | with_reducible refine Below.setCell ?_ ?_ _ | with_reducible refine Below.alloc ?_ ?_ _ | with_reducible refine Below.grow _ _ _ ?_ ?_ | omega | (simp; done) | (simp; omega))))).mono ?_; rintro e w1 ⟨rfl, hb⟩; obtain ⟨ext2, d2, rfl⟩ := Below.grown_eq _ hb; clear hb))
      go_ret
      exact ⟨rfl, (by repeat (first | with_reducible exact Below.refl _ _ | with_reducible assumption | with_reducible exact below_d1 _ _ _ _ _ | with_reducible exact below_d2 _ _ _ _ _ _ _ _ | with_reducible exact below_d3 _ _ _ _ _ | with_reducible exact below_d4 _ _ _ _ _ _ _ _ | with_reducible exact below_d5 _ _ | with_reducible refine Below.drew ?_ | with_reducible refine Below.drewN' ?_ _ | with_reducible refine below_grow0 _ _ ?_ | with_reducible refine below_alloc0 _ ?_ | with_reducible refine Below.setCell ?_ ?_ _ | with_reducible refine Below.alloc ?_ ?_ _ | with_reducible refine Below.grow _ _ _ ?_ ?_ | omega | (simp; done) | (simp; omega)))⟩
    case true =>
      go_enter Tryd.func62, Tryd.ntmps62
      go_wp2_with (first | (go_at_call 25; refine (HSP.out _).mono ?_; rintro e w1 ⟨rfl, hb⟩; obtain ⟨ext1, d1, rfl⟩ := Below.grown_eq _ hb; clear hb) | (go_at_call 19; refine (HGT.out _ (HV.out.below (by repeat (first | with_reducible exact Below.refl _ _ | with_reducible assumption | with_reducible exact below_d1 _ _ _ _ _ | with_reducible exact below_d2 _ _ _ _ _ _ _ _ | with_reducible exact below_d3 _ _ _ _ _ | with_reducible exact below_d4 _ _ _ _ _ _ _ _ | with_reducible exact below_d5 _ _ | with_reducible refine Below.drew ?_ | with_reducible refine Below.drewN' ?_ _ | with_reducible refine below_grow0 _ _ ?_ | with_reducible refine below_alloc0 _ ?_ | with_reducible refine Below.setCell ?_ ?_ _ | with_reducible refine Below.alloc ?_ ?_ _ | with_reducible refine Below.grow _ _ _ ?_ ?_ | omega | (simp; done) | (simp; omega))))).mono ?_; rintro e w1 ⟨rfl, hb⟩; obtain ⟨ext2, d2, rfl⟩ := Below.grown_eq _ hb; clear hb))
      go_ret
      exact ⟨rfl, (by repeat (first | with_reducible exact Below.refl _ _ | with_reducible assumption | with_reducible exact below_d1 _ _ _ _ _ | with_reducible exact below_d2 _ _ _ _ _ _ _ _ | with_reducible exact below_d3 _ _ _ _ _ | with_reducible exact below_d4 _ _ _ _ _ _ _ _ | with_reducible exact below_d5 _ _ | with_reducible refine Below.drew ?_ | with_reducible refine Below.drewN' ?_ _ | with_reducible refine below_grow0 _ _ ?_ | with_reducible refine below_alloc0 _ ?_ | with_reducible refine Below.setCell ?_ ?_ _ | with_reducible refine Below.alloc ?_ ?_ _ | with_reducible refine Below.grow _ _ _ ?_ ?_ | omega | (simp; done) | (simp; omega)))⟩
  · rw [if_neg a1]
    have q1 : (th == 0) = false := beq_eq_false_iff_ne.2 a1
    cases hk : hasN l sd with
    | false =>
      rw [hk] at HGT
      simp only [Bool.false_eq_true, if_false] at HGT ⊢
      clear hk
      go_enter Tryd.func62, Tryd.ntmps62
      go_wp2_with (first | (go_at_call 25; refine (HSP.out _).mono ?_; rintro e w1 ⟨rfl, hb⟩; obtain ⟨ext1, d1, rfl⟩ := Below.grown_eq _ hb; clear hb) | (go_at_call 19; refine (HGT.out _ (HV.out.below (by repeat (first | with_reducible exact Below.refl _ _ | with_reducible assumption | with_reducible exact below_d1 _ _ _ _ _ | with_reducible exact below_d2 _ _ _ _ _ _ _ _ | with_reducible exact below_d3 _ _ _ _ _ | with_reducible exact below_d4 _ _ _ _ _ _ _ _ | with_reducible exact below_d5 _ _ | with_reducible refine Below.drew ?_ | with_reducible refine Below.drewN' ?_ _ | with_reducible refine below_grow0 _ _ ?_ | with_reducible refine below_alloc0 _ ?_ | with_reducible refine Below.setCell ?_ ?_ _ | with_reducible refine Below.alloc ?_ ?_ _ | with_reducible refine Below.grow _ _ _ ?_ ?_ | omega | (simp; done) | (simp; omega))))).mono ?_; rintro e w1 ⟨rfl, hb⟩; obtain ⟨ext2, d2, rfl⟩ := Below.grown_eq _ hb; clear hb))
      go_ret
      exact ⟨rfl, (by repeat (first | with_reducible exact Below.refl _ _ | with_reducible assumption | with_reducible exact below_d1 _ _ _ _ _ | with_reducible exact below_d2 _ _ _ _ _ _ _ _ | with_reducible exact below_d3 _ _ _ _ _ | with_reducible exact below_d4 _ _ _ _ _ _ _ _ | with_reducible exact below_d5 _ _ | with_reducible refine Below.drew ?_ | with_reducible refine Below.drewN' ?_ _ | with_reducible refine below_grow0 _ _ ?_ | with_reducible refine below_alloc0 _ ?_ | with_reducible refine Below.setCell ?_ ?_ _ | with_reducible refine Below.alloc ?_ ?_ _ | with_reducible refine Below.grow _ _ _ ?_ ?_ | omega | (simp; done) | (simp; omega)))⟩
    | true =>
      rw [hk] at HGT
      simp only [if_true] at HGT ⊢
      clear hk
      by_cases a2 : go = 0
      · subst a2
        rw [if_neg (by simp)]
        by_cases a3 : xw = 0
        · subst a3
          rw [if_neg (by simp)]
          by_cases a4 : 400 ≤ l.length
          · rw [if_pos a4]
            have q4 : decide ((400 : Int) ≤ (l.length : Int)) = true := decide_eq_true (by omega)
            go_enter Tryd.func62, Tryd.ntmps62
            go_wp2_with (first | (go_at_call 25; refine (HSP.out _).mono ?_; rintro e w1 ⟨rfl, hb⟩; obtain ⟨ext1, d1, rfl⟩ := Below.grown_eq _ hb; clear hb) | (go_at_call 19; refine (HGT.out _ (HV.out.below (by repeat (first | with_reducible exact Below.refl _ _ | with_reducible assumption | with_reducible exact below_d1 _ _ _ _ _ | with_reducible exact below_d2 _ _ _ _ _ _ _ _ | with_reducible exact below_d3 _ _ _ _ _ | with_reducible exact below_d4 _ _ _ _ _ _ _ _ | with_reducible exact below_d5 _ _ | with_reducible refine Below.drew ?_ | with_reducible refine Below.drewN' ?_ _ | with_reducible refine below_grow0 _ _ ?_ | with_reducible refine below_alloc0 _ ?_ | with_reducible refine Below.setCell ?_ ?_ _ | with_reducible refine Below.alloc ?_ ?_ _ | with_reducible refine Below.grow _ _ _ ?_ ?_ | omega | (simp; done) | (simp; omega))))).mono ?_; rintro e w1 ⟨rfl, hb⟩; obtain ⟨ext2, d2, rfl⟩ := Below.grown_eq _ hb; clear hb))
            go_ret
            exact ⟨rfl, (by repeat (first | with_reducible exact Below.refl _ _ | with_reducible assumption | with_reducible exact below_d1 _ _ _ _ _ | with_reducible exact below_d2 _ _ _ _ _ _ _ _ | with_reducible exact below_d3 _ _ _ _ _ | with_reducible exact below_d4 _ _ _ _ _ _ _ _ | with_reducible exact below_d5 _ _ | with_reducible refine Below.drew ?_ | with_reducible refine Below.drewN' ?_ _ | with_reducible refine below_grow0 _ _ ?_ | with_reducible refine below_alloc0 _ ?_ | with_reducible refine Below.setCell ?_ ?_ _ | with_reducible refine Below.alloc ?_ ?_ _ | with_reducible refine Below.grow _ _ _ ?_ ?_ | omega | (simp; done) | (simp; omega)))⟩
          · rw [if_neg a4]
            have q4 : decide ((400 : Int) ≤ (l.length : Int)) = false := decide_eq_false (by omega)
            go_enter Tryd.func62, Tryd.ntmps62
            go_wp2_with (first | (go_at_call 25; refine (HSP.out _).mono ?_; rintro e w1 ⟨rfl, hb⟩; obtain ⟨ext1, d1, rfl⟩ := Below.grown_eq _ hb; clear hb) | (go_at_call 19; refine (HGT.out _ (HV.out.below (by repeat (first | with_reducible exact Below.refl _ _ | with_reducible assumption | with_reducible exact below_d1 _ _ _ _ _ | with_reducible exact below_d2 _ _ _ _ _ _ _ _ | with_reducible exact below_d3 _ _ _ _ _ | with_reducible exact below_d4 _ _ _ _ _ _ _ _ | with_reducible exact below_d5 _ _ | with_reducible refine Below.drew ?_ | with_reducible refine Below.drewN' ?_ _ | with_reducible refine below_grow0 _ _ ?_ | with_reducible refine below_alloc0 _ ?_ | with_reducible refine Below.setCell ?_ ?_ _ | with_reducible refine Below.alloc ?_ ?_ _ | with_reducible refine Below.grow _ _ _ ?_ ?_ | omega | (simp; done) | (simp; omega))))).mono ?_; rintro e w1 ⟨rfl, hb⟩; obtain ⟨ext2, d2, rfl⟩ := Below.grown_eq _ hb; clear hb))
            go_ret
            exact ⟨rfl, (by repeat (first | with_reducible exact Below.refl _ _ | with_reducible assumption | with_reducible exact below_d1 _ _ _ _ _ | with_reducible exact below_d2 _ _ _ _ _ _ _ _ | with_reducible exact below_d3 _ _ _ _ _ | with_reducible exact below_d4 _ _ _ _ _ _ _ _ | with_reducible exact below_d5 _ _ | with_reducible refine Below.drew ?_ | with_reducible refine Below.drewN' ?_ _ | with_reducible refine below_grow0 _ _ ?_ | with_reducible refine below_alloc0 _ ?_ | with_reducible refine Below.setCell ?_ ?_ _ | with_reducible refine Below.alloc ?_ ?_ _ | with_reducible refine Below.grow _ _ _ ?_ ?_ | omega | (simp; done) | (simp; omega)))⟩
        · have q3 : (xw == 0) = false := beq_eq_false_iff_ne.2 a3
          by_cases a5 : xw = xs
          · subst a5
            rw [if_neg (by simp)]
            by_cases a4 : 400 ≤ l.length
            · rw [if_pos a4]
              have q4 : decide ((400 : Int) ≤ (l.length : Int)) = true := decide_eq_true (by omega)
              go_enter Tryd.func62, Tryd.ntmps62
              go_wp2_with (first | (go_at_call 25; refine (HSP.out _).mono ?_; rintro e w1 ⟨rfl, hb⟩; obtain ⟨ext1, d1, rfl⟩ := Below.grown_eq _ hb; clear hb) | (go_at_call 19; refine (HGT.out _ (HV.out.below (by repeat (first | with_reducible exact Below.refl _ _ | with_reducible assumption | with_reducible exact below_d1 _ _ _ _ _ | with_reducible exact below_d2 _ _ _ _ _ _ _ _ | with_reducible exact below_d3 _ _ _ _ _ | with_reducible exact below_d4 _ _ _ _ _ _ _ _ | with_reducible exact below_d5 _ _ | with_reducible refine Below.drew ?_ | with_reducible refine Below.drewN' ?_ _ | with_reducible refine below_grow0 _ _ ?_ | with_reducible refine below_alloc0 _ ?_ | with_reducible refine Below.setCell ?_ ?_ _ | with_reducible refine Below.alloc ?_ ?_ _ | with_reducible refine Below.grow _ _ _ ?_ ?_ | omega | (simp; done) | (simp; omega))))).mono ?_; rintro e w1 ⟨rfl, hb⟩; obtain ⟨ext2, d2, rfl⟩ := Below.grown_eq _ hb; clear hb))
              go_ret
              exact ⟨rfl, (by repeat (first | with_reducible exact Below.refl _ _ | with_reducible assumption | with_reducible exact below_d1 _ _ _ _ _ | with_reducible exact below_d2 _ _ _ _ _ _ _ _ | with_reducible exact below_d3 _ _ _ _ _ | with_reducible exact below_d4 _ _ _ _ _ _ _ _ | with_reducible exact below_d5 _ _ | with_reducible refine Below.drew ?_ | with_reducible refine Below.drewN' ?_ _ | with_reducible refine below_grow0 _ _ ?_ | with_reducible refine below_alloc0 _ ?_ | with_reducible refine Below.setCell ?_ ?_ _ | with_reducible refine Below.alloc ?_ ?_ _ | with_reducible refine Below.grow _ _ _ ?_ ?_ | omega | (simp; done) | (simp; omega)))⟩
            · rw [if_neg a4]
              have q4 : decide ((400 : Int) ≤ (l.length : Int)) = false := decide_eq_false (by omega)
              go_enter Tryd.func62, Tryd.ntmps62
              go_wp2_with (first | (go_at_call 25; refine (HSP.out _).mono ?_; rintro e w1 ⟨rfl, hb⟩; obtain ⟨ext1, d1, rfl⟩ := Below.grown_eq _ hb; clear hb) | (go_at_call 19; refine (HGT.out _ (HV.out.below (by repeat (first | with_reducible exact Below.refl _ _ | with_reducible assumption | with_reducible exact below_d1 _ _ _ _ _ | with_reducible exact below_d2 _ _ _ _ _ _ _ _ | with_reducible exact below_d3 _ _ _ _ _ | with_reducible exact below_d4 _ _ _ _ _ _ _ _ | with_reducible exact below_d5 _ _ | with_reducible refine Below.drew ?_ | with_reducible refine Below.drewN' ?_ _ | with_reducible refine below_grow0 _ _ ?_ | with_reducible refine below_alloc0 _ ?_ | with_reducible refine Below.setCell ?_ ?_ _ | with_reducible refine Below.alloc ?_ ?_ _ | with_reducible refine Below.grow _ _ _ ?_ ?_ | omega | (simp; done) | (simp; omega))))).mono ?_; rintro e w1 ⟨rfl, hb⟩; obtain ⟨ext2, d2, rfl⟩ := Below.grown_eq _ hb; clear hb))
              go_ret
              exact ⟨rfl, (by repeat (first | with_reducible exact Below.refl _ _ | with_reducible assumption | with_reducible exact below_d1 _ _ _ _ _ | with_reducible exact below_d2 _ _ _ _ _ _ _ _ | with_reducible exact below_d3 _ _ _ _ _ | with_reducible exact below_d4 _ _ _ _ _ _ _ _ | with_reducible exact below_d5 _ _ | with_reducible refine Below.drew ?_ | with_reducible refine Below.drewN' ?_ _ | with_reducible refine below_grow0 _ _ ?_ | with_reducible refine below_alloc0 _ ?_ | with_reducible refine Below.setCell ?_ ?_ _ | with_reducible refine Below.alloc ?_ ?_ _ | with_reducible refine Below.grow _ _ _ ?_ ?_ | omega | (simp; done) | (simp; omega)))⟩
          · have q5 : (xw == xs) = false := beq_eq_false_iff_ne.2 a5
            rw [if_pos ⟨a3, a5⟩]
            have q3b : (xw != 0) = true := bne_iff_ne.2 a3
            have q5b : (xw != xs) = true := bne_iff_ne.2 a5
            go_enter Tryd.func62, Tryd.ntmps62
            go_wp2_with (first | (go_at_call 25; refine (HSP.out _).mono ?_; rintro e w1 ⟨rfl, hb⟩; obtain ⟨ext1, d1, rfl⟩ := Below.grown_eq _ hb; clear hb) | (go_at_call 19; refine (HGT.out _ (HV.out.below (by repeat (first | with_reducible exact Below.refl _ _ | with_reducible assumption | with_reducible exact below_d1 _ _ _ _ _ | with_reducible exact below_d2 _ _ _ _ _ _ _ _ | with_reducible exact below_d3 _ _ _ _ _ | with_reducible exact below_d4 _ _ _ _ _ _ _ _ | with_reducible exact below_d5 _ _ | with_reducible refine Below.drew ?_ | with_reducible refine Below.drewN' ?_ _ | with_reducible refine below_grow0 _ _ ?_ | with_reducible refine below_alloc0 _ ?_ | with_reducible refine Below.setCell ?_ ?_ _ | with_reducible refine Below.alloc ?_ ?_ _ | with_reducible refine Below.grow _ _ _ ?_ ?_ | omega | (simp; done) | (simp; omega))))).mono ?_; rintro e w1 ⟨rfl, hb⟩; obtain ⟨ext2, d2, rfl⟩ := Below.grown_eq _ hb; clear hb))
            go_ret
            exact ⟨rfl, (by repeat (first | with_reducible exact Below.refl _ _ | with_reducible assumption | with_reducible exact below_d1 _ _ _ _ _ | with_reducible exact below_d2 _ _ _ _ _ _ _ _ | with_reducible exact below_d3 _ _ _ _ _ | with_reducible exact below_d4 _ _ _ _ _ _ _ _ | with_reducible exact below_d5 _ _ | with_reducible refine Below.drew ?_ | with_reducible refine Below.drewN' ?_ _ | with_reducible refine below_grow0 _ _ ?_ | with_reducible refine below_alloc0 _ ?_ | with_reducible refine Below.setCell ?_ ?_ _ | with_reducible refine Below.alloc ?_ ?_ _ | with_reducible refine Below.grow _ _ _ ?_ ?_ | omega | (simp; done) | (simp; omega)))⟩
      · rw [if_pos a2]
        have q2 : (go == 0) = false := beq_eq_false_iff_ne.2 a2
        go_enter Tryd.func62, Tryd.ntmps62
        go_wp2_with (first | (go_at_call 25; refine (HSP.out _).mono ?_; rintro e w1 ⟨rfl, hb⟩; obtain ⟨ext1, d1, rfl⟩ := Below.grown_eq _ hb; clear hb) | (go_at_call 19; refine (HGT.out _ (HV.out.below (by repeat (first | with_reducible exact Below.refl _ _ | with_reducible assumption | with_reducible exact below_d1 _ _ _ _ _ | with_reducible exact below_d2 _ _ _ _ _ _ _ _ | with_reducible exact below_d3 _ _ _ _ _ | with_reducible exact below_d4 _ _ _ _ _ _ _ _ | with_reducible exact below_d5 _ _ | with_reducible refine Below.drew ?_ | with_reducible refine Below.drewN' ?_ _ | with_reducible refine below_grow0 _ _ ?_ | with_reducible refine below_alloc0 _ ?_ | with_reducible refine Below.setCell ?_ ?_ _ | with_reducible refine Below.alloc ?_ ?_ _ | with_reducible refine Below.grow _ _ _ ?_ ?_ | omega | (simp; done) | (simp; omega))))).mono ?_; rintro e w1 ⟨rfl, hb⟩; obtain ⟨ext2, d2, rfl⟩ := Below.grown_eq _ hb; clear hb))
        go_ret
        exact ⟨rfl, (by repeat (first | with_reducible exact Below.refl _ _ | with_reducible assumption | with_reducible exact below_d1 _ _ _ _ _ | with_reducible exact below_d2 _ _ _ _ _ _ _ _ | with_reducible exact below_d3 _ _ _ _ _ | with_reducible exact below_d4 _ _ _ _ _ _ _ _ | with_reducible exact below_d5 _ _ | with_reducible refine Below.drew ?_ | with_reducible refine Below.drewN' ?_ _ | with_reducible refine below_grow0 _ _ ?_ | with_reducible refine below_alloc0 _ ?_ | with_reducible refine Below.setCell ?_ ?_ _ | with_reducible refine Below.alloc ?_ ?_ _ | with_reducible refine Below.grow _ _ _ ?_ ?_ | omega | (simp; done) | (simp; omega)))⟩
end Go.Proofs.YteolglmifimnaaaDoor

/- slices.BinarySearch at []int. -/
namespace Go.Proofs.YteolglmifimnaaaDoor
open Go.RowKit
theorem Sl.Int_at {w : World} {A : Option Addr} {n c : Nat} {l : List Int} (h : Sl cInt 1 w (.slice A n c) l) {i : Nat} {x : Int} (hx : l[i]? = some x) : ∃ b off, A = some ⟨b, off, none⟩ ∧ b < w.heap.size ∧ w.cell? ⟨b, off + i, none⟩ = some (.int .i64 x) := by
  obtain ⟨b, off, hA, hb, hc⟩ := h.at_ hx
  have := hc 0 (.int .i64 x) rfl
  rw [show off + i * 1 + 0 = off + i from by omega] at this
  exact ⟨b, off, hA, hb, this⟩
set_option maxHeartbeats 1000000 in
theorem bsI (v : Value) (l : List Int) (s : Int) (w : World) (h : Sl cInt 1 w v l) (hn : l.length ≤ 140737488355328) :
    Calls Tryd.prog 45 #[v, .int .i64 s] w fun e w' => e = .returned (.tuple #[.int .i64 (posI l s), .bool (isI l s)]) ∧ Below w.heap.size w w' := by
  obtain ⟨A, c, rfl, hc1, hc2⟩ := h.form
  have H := Lib.hid h
  clear h
  go_enter Tryd.func45, Tryd.ntmps45
  go_wp2
  go_loopw [7, 8] (fun i j wr => ∃ (a b : Nat), a ≤ b ∧ b ≤ l.length ∧ i = .int .i64 a ∧ j = .int .i64 b ∧ Hid (bsr (ltI l s) a b = posI l s) ∧ Below w.heap.size w wr) (fun i j _ => (intOf j - intOf i).toNat)
  case atStart => exact ⟨0, l.length, Nat.zero_le _, Nat.le_refl _, rfl, rfl, (rfl : bsr (ltI l s) 0 l.length = posI l s), Below.refl _ _⟩
  case round =>
    obtain ⟨a, b, hab, hbl, rfl, rfl, hr, hb⟩ := hrel
    by_cases hlt : a < b
    · have hx : l[(a + b) / 2]? = some (l[(a + b) / 2]'(by omega)) := List.getElem?_eq_getElem _
      obtain ⟨bk, off, rfl, hbw, c0⟩ := (H.out.below hb).Int_at hx
      generalize hxe : l[(a + b) / 2]'(by omega) = x at hx c0
      have HX := Lib.hid hx
      clear hx hxe
      by_cases hlt2 : x < s
      · have hd : decide (x < s) = true := decide_eq_true hlt2
        go_wp2_with (go_at_call 65; refine (Tryd.cmp_Less_int2 _ _ _).mono ?_; rintro e w1 ⟨rfl, rfl⟩; skip)
        have hcmp := ltI_of HX.out s
        go_roundw
        case rel => exact ⟨(a + b) / 2 + 1, b, by omega, by omega, by go_num, rfl, Eq.trans (bsr_up _ _ _ hlt (by rw [hcmp]; exact hd)).symm hr.out, (by repeat (first | exact Below.refl _ _ | assumption | refine Below.drew ?_ | refine Below.drewN' ?_ _ | refine below_grow0 _ _ ?_ | refine below_alloc0 _ ?_ | refine Below.alloc ?_ (by first | omega | (simp; done) | (simp; omega)) _ | refine Below.setCell ?_ (by first | omega | (simp; done) | (simp; omega)) _ | refine Below.grow _ _ _ ?_ (by first | omega | (simp; done) | (simp; omega))))⟩
        case measure => simp [intOf]; omega
      · have hd : decide (x < s) = false := decide_eq_false hlt2
        go_wp2_with (go_at_call 65; refine (Tryd.cmp_Less_int2 _ _ _).mono ?_; rintro e w1 ⟨rfl, rfl⟩; skip)
        have hcmp := ltI_of HX.out s
        go_roundw
        case rel => exact ⟨a, (a + b) / 2, by omega, by omega, rfl, by go_num, Eq.trans (bsr_down _ _ _ hlt (by rw [hcmp]; exact hd)).symm hr.out, (by repeat (first | exact Below.refl _ _ | assumption | refine Below.drew ?_ | refine Below.drewN' ?_ _ | refine below_grow0 _ _ ?_ | refine below_alloc0 _ ?_ | refine Below.alloc ?_ (by first | omega | (simp; done) | (simp; omega)) _ | refine Below.setCell ?_ (by first | omega | (simp; done) | (simp; omega)) _ | refine Below.grow _ _ _ ?_ (by first | omega | (simp; done) | (simp; omega))))⟩
        case measure => simp [intOf]; omega
    · obtain rfl : a = b := by omega
      have hpos : posI l s = a := by rw [← hr.out]; exact bsr_end _ _ _ hlt
      have HP := Lib.hid hpos
      clear hpos hr
      by_cases han : a < l.length
      · have hx : l[a]? = some (l[a]'(by omega)) := List.getElem?_eq_getElem _
        obtain ⟨bk, off, rfl, hbw, c0⟩ := (H.out.below hb).Int_at hx
        generalize hxe : l[a]'(by omega) = x at hx c0
        have HX := Lib.hid hx
        clear hx hxe
        by_cases he : x = s
        · subst he
          go_wp2_with (go_at_call 66; refine (Tryd.slices_isNaN_int2 _ _).mono ?_; rintro e w1 ⟨rfl, rfl⟩; skip)
          go_ret2
          refine ⟨?_, (by repeat (first | exact Below.refl _ _ | assumption | refine Below.drew ?_ | refine Below.drewN' ?_ _ | refine below_grow0 _ _ ?_ | refine below_alloc0 _ ?_ | refine Below.alloc ?_ (by first | omega | (simp; done) | (simp; omega)) _ | refine Below.setCell ?_ (by first | omega | (simp; done) | (simp; omega)) _ | refine Below.grow _ _ _ ?_ (by first | omega | (simp; done) | (simp; omega))))⟩
          rw [isI_in HP.out HX.out, HP.out]
          simp
        · have hne : (x == s) = false := beq_eq_false_iff_ne.2 he
          go_wp2_with (go_at_call 66; refine (Tryd.slices_isNaN_int2 _ _).mono ?_; rintro e w1 ⟨rfl, rfl⟩; skip)
          go_ret2
          refine ⟨?_, (by repeat (first | exact Below.refl _ _ | assumption | refine Below.drew ?_ | refine Below.drewN' ?_ _ | refine below_grow0 _ _ ?_ | refine below_alloc0 _ ?_ | refine Below.alloc ?_ (by first | omega | (simp; done) | (simp; omega)) _ | refine Below.setCell ?_ (by first | omega | (simp; done) | (simp; omega)) _ | refine Below.grow _ _ _ ?_ (by first | omega | (simp; done) | (simp; omega))))⟩
          rw [isI_in HP.out HX.out, HP.out, decide_eq_false he]
          rfl
      · go_wp2
        go_ret2
        refine ⟨?_, (by repeat (first | exact Below.refl _ _ | assumption | refine Below.drew ?_ | refine Below.drewN' ?_ _ | refine below_grow0 _ _ ?_ | refine below_alloc0 _ ?_ | refine Below.alloc ?_ (by first | omega | (simp; done) | (simp; omega)) _ | refine Below.setCell ?_ (by first | omega | (simp; done) | (simp; omega)) _ | refine Below.grow _ _ _ ?_ (by first | omega | (simp; done) | (simp; omega))))⟩
        rw [isI_out HP.out han, HP.out]
        rfl
theorem trOpen (z : Int) (v2 : Value) (na : Option Addr) (nn nc : Nat) (l : List Int) (s : Int) (w : World) (h : Sl cInt 1 w v2 l) (hn : l.length ≤ 140737488355328) :
    Calls Tryd.prog 24 #[.agg #[.int .i64 z, .slice na nn nc, v2], .int .i64 s] w fun e w' => e = .returned (.bool (isI l s)) ∧ Below w.heap.size w w' := by
  obtain ⟨A, c, rfl, h1, h2⟩ := h.form
  have H := Lib.hid h
  clear h
  go_enter Tryd.func24, Tryd.ntmps24
  go_wp2_with (go_at_call 45; refine (bsI _ _ _ _ (H.out.alloc _) hn).mono ?_; rintro e w1 ⟨rfl, hb⟩; obtain ⟨ext, d, rfl⟩ := Below.grown_eq _ hb)
  go_ret
  exact ⟨rfl, (by repeat (first | exact Below.refl _ _ | assumption | refine Below.drew ?_ | refine Below.drewN' ?_ _ | refine below_grow0 _ _ ?_ | refine below_alloc0 _ ?_ | refine Below.alloc ?_ (by first | omega | (simp; done) | (simp; omega)) _ | refine Below.setCell ?_ (by first | omega | (simp; done) | (simp; omega)) _ | refine Below.grow _ _ _ ?_ (by first | omega | (simp; done) | (simp; omega))))⟩
end Go.Proofs.YteolglmifimnaaaDoor

/- A map of counts, that is the function's own. -/
namespace Go.Proofs.YteolglmifimnaaaDoor
open Go.RowKit Go.Maps
/-- the block b holds a map of at most n keys, that counts c -/
def Cnt (w : World) (b n : Nat) (c : ByteArray → Int) : Prop := ∃ D : DataW Unit, w.ownsMap Tryd.prog 9 (plainElem Tryd.prog 3) b n D ∧ ∀ s : ByteArray, D.atKey (.string s.data.toList) (.lit (.int .i64 0)) = .lit (.int .i64 (c s))
theorem Cnt.made (w : World) : Cnt (w.alloc (.map #[] 0)) w.heap.size 0 (fun _ => 0) := ⟨.map [], World.ownsMap_made _ _ _ _, fun _ => rfl⟩
theorem Cnt.below {w w' : World} {b n : Nat} {c : ByteArray → Int} (h : Cnt w b n c) (hb : Below w.heap.size w w') : Cnt w' b n c := by
  obtain ⟨D, h, hc⟩ := h
  have hlt := h.lt
  obtain ⟨es, clock, h1, F, hs, hD⟩ := h
  exact ⟨D, ⟨es, clock, (hb.block b hlt).trans h1, F, hs, hD⟩, hc⟩
theorem wpList_cntget {w : World} {ops : Array Oper} {rest : List Oper} {o : Oper} {a : Act} {Q : Exit → Act → World → Prop} (hg : o.guard = none) (m x : Operand) (hop : o.op = Op.lookup 81 m x false) {b n : Nat} {c : ByteArray → Int}
    (hm : a.eval m = .map (some b)) (h : Cnt w b n c) (s : ByteArray) (hx : a.eval x = .string s) (hs : s.size ≤ maxLen) (hK : wpList Tryd.prog ops Q rest (a.put o.dst (.int .i64 (c s))) w) : wpList Tryd.prog ops Q (o :: rest) a w := by
  obtain ⟨D, ho, hc⟩ := h
  refine wpList_lookup_own_int w hg m x _ hop 9 3 .i64 (string_keyed Tryd.underlying9) Tryd.underlying81 Tryd.underlying3 (by kernel_rfl) b n D hm ho _ _ hx (Go.WideMaps.keyOf_string_mk Tryd.underlying9 hs) ?_
  intro q hq _
  have e := hq.symm.trans (hc s)
  injection e with e
  injection e with _ e
  subst e
  exact hK
theorem wpList_cntput {w : World} {ops : Array Oper} {rest : List Oper} {o : Oper} {a : Act} {Q : Exit → Act → World → Prop} (hg : o.guard = none) (m x v : Operand) (hop : o.op = Op.mapUpdate 81 m x v) {b n : Nat} {c : ByteArray → Int}
    (hm : a.eval m = .map (some b)) (h : Cnt w b n c) (hn : n < maxLen) (s : ByteArray) (hx : a.eval x = .string s) (hs : s.size ≤ maxLen) (q : Int) (hv : a.eval v = .int .i64 q) (hq : (Lit.int .i64 q).wf = true)
    (hK : ∀ w', Cnt w' b (n + 1) (fun z => if z = s then q else c z) → w.grownBy w' (some b) → wpList Tryd.prog ops Q rest (a.put o.dst undef) w') : wpList Tryd.prog ops Q (o :: rest) a w := by
  obtain ⟨D, ho, hc⟩ := h
  refine wpList_mapUpdate_own w hg m x v _ hop 9 3 (string_keyed Tryd.underlying9) Tryd.underlying81 _ b n D hm ho hn _ _ _ hx hv (Go.WideMaps.keyOf_string_mk Tryd.underlying9 hs) _ [] (plainElem_int Tryd.underlying3 hq) ?_
  intro w' ho' hg'
  refine hK w' ⟨_, ho', fun z => ?_⟩ hg'
  show (D.put (.string s.data.toList) (.lit (.int .i64 q))).atKey (.string z.data.toList) (.lit (.int .i64 0)) = .lit (.int .i64 (if z = s then q else c z))
  by_cases hz : z = s
  · subst hz
    rw [if_pos rfl, atKey_put_same ho.isMap (by trivial)]
  · rw [if_neg hz, atKey_put_other (by intro e; injection e with e; exact hz (ByteArray.ext (Array.toList_inj.1 e)))]
    exact hc z
end Go.Proofs.YteolglmifimnaaaDoor

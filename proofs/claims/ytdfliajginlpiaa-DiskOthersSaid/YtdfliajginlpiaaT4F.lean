/- made by geninst.py from XT4.src -/
import Derived.Test.YtdfliajginlpiaaT4
namespace Go.Proofs.Ytdfliajginlpiaa
open Go.RowKit
set_option maxHeartbeats 1000000 in
theorem insFile_end (A : Option Addr) (n c : Nat) (l : List File) (x : File) (w : World) (B vb : Nat) (hown : Ow cFile 3 47 w B (.slice A n c) l) (hl : n = l.length) (hv : Bk w vb (cFile x) 47)
    (hB : B ≤ w.heap.size) (hn : (n + 1) * 48 ≤ 140737488355328) :
    Calls Try.prog 32 #[.slice A n c, .int .i64 n, .slice (some ⟨vb, 0, none⟩) 1 1] w (Rowed cFile 3 47 B (n + 1) (l ++ [x]) (Value.slice A n c).ownBlock w) := by
  have H := Lib.hid hown
  obtain ⟨A', c', hf1, hf2, hf3, hf4, hf5⟩ := hown.form
  injection hf1 with e1 e2 e3
  subst e1; subst e3
  have HL := Lib.hid hl
  rw [← hl] at hf2
  have HN := Lib.hid hf4
  clear hl e2 hown hf4 hf5
  by_cases hcn : c = n
  · subst hcn
    go_enter Try.func32, Try.ntmps32
    go_wp2_with (at_builtin; refine wpList_app _ rfl (.tmp 23) (.tmp 24) _ rfl elFile (l := l) (m := [x]) rfl rfl H.out (Sl.blk rfl hv) cFile_one (by have := HL.out; simp [maxLen]; omega) (by have := HL.out; simp; omega) hB ?_; intro v' w1 hown1 hg1 hat1; obtain ⟨A1, c1, rfl⟩ := Ow.is_slice (m := c + 1) hown1 (by simpa using HL.out.symm); have HO := Lib.hid hown1; have HG := Lib.hid hg1; have HT := Lib.hid hat1; clear hown1 hg1 hat1)
    go_ret
    exact ⟨A1, c1, rfl, HO.out, HG.out, HT.out⟩
  · go_enter Try.func32, Try.ntmps32
    go_wp2_with (at_builtin; refine wpList_app _ rfl (.tmp 23) (.tmp 24) _ rfl elFile (l := l) (m := [x]) rfl rfl H.out (Sl.blk rfl hv) cFile_one (by have := HL.out; simp [maxLen]; omega) (by have := HL.out; simp; omega) hB ?_; intro v' w1 hown1 hg1 hat1; obtain ⟨A1, c1, rfl⟩ := Ow.is_slice (m := n + 1) hown1 (by simpa using HL.out.symm); have HO := Lib.hid hown1; have HG := Lib.hid hg1; have HT := Lib.hid hat1; clear hown1 hg1 hat1)
    go_ret
    exact ⟨A1, c1, rfl, HO.out, HG.out, HT.out⟩
set_option maxRecDepth 100000 in
set_option maxHeartbeats 1000000 in
theorem insFile_grow (A : Option Addr) (n k : Nat) (l : List File) (x : File) (w : World) (B vb : Nat) (hown : Ow cFile 3 47 w B (.slice A n n) l) (hk : k < n) (hv : Bk w vb (cFile x) 47)
    (hB : B ≤ w.heap.size) (hn : (n + 1) * 48 ≤ 140737488355328) :
    Calls Try.prog 32 #[.slice A n n, .int .i64 k, .slice (some ⟨vb, 0, none⟩) 1 1] w (Rowed cFile 3 47 B (n + 1) (l.take k ++ x :: l.drop k) (Value.slice A n n).ownBlock w) := by
  obtain ⟨g, J, rfl, hBg, hbk, hbl, _, hcm, hnl⟩ := hown.blk (by omega)
  have H2 := Lib.hid hown.2
  generalize hcur : l.flatMap cFile ++ J = cur at hbk hbl
  have HC := Lib.hid hcur
  have HL := Lib.hid hnl
  have HBL := Lib.hid hbl
  clear hcur hown hnl hbl
  have ecnt := Lib.hid (show (((n + 1 - k : Nat) : Nat) : Int) = (n : Int) + 1 - (k : Int) by omega)
  have hne : ((k : Int) == (n : Int)) = false := by simp; omega
  have F1 := Lib.hid (flatMap_split H2.out k)
  go_enter Try.func32, Try.ntmps32
  have hkc : k + (n + 1 - k) = n + 1 := by omega
  have hvg : g < w.heap.size := hbk.lt
  have hvv : vb < w.heap.size := hv.lt
  go_wp2_with (first | (with_reducible refine wpList_atcp ?_); go_loud (refine wpList_cp rfl (.tmp 43) (.tmp 44) _ _ rfl elFile (cs := cFile x) rfl rfl hb1 (by rw [show ∀ q, 1 ≤ q → Nat.min 1 q = 1 from fun q h => Nat.min_eq_left h] <;> first | rfl | omega) (fun j v hj => by show w1.cell? _ = _; rw [Addr.add_lit, Nat.zero_add, (hv.grown hg1 (by simp)).cell]; exact hj) (by have := HBL.out; simp [hz1, cFile]; omega) (cFile_one x) ?_; intro w2 hb2 hg2 hs2) | at_builtin; go_loud (refine wpList_appz rfl (.tmp 34) (.tmp 39) _ _ rfl elFile Try.underlying3 (k := k) (c := n) (cnt := n + 1 - k) rfl (by show Value.int _ _ = _; rw [ecnt.out]) hbk (by have := HBL.out; omega) (by omega) (by omega) (by simp [maxLen]; omega) (by omega) ?_; intro w1 Z cap hb1 hz1 hc1 hc2 hg1 hs1))
  have e1 : IntKind.i64.wrap ((k : Int) + 1) = (k : Int) + 1 := by rw [IntKind.wrap_i64]; simp [maxLen] at hcm; omega
  have e2 : ((k : Int) + 1).toNat = k + 1 := by omega
  have e3 : (0 : Int) ≤ (k : Int) + 1 := by omega
  have e4 : (k : Int) + 1 ≤ (n : Int) + 1 := by omega
  have e5 : ¬ cap = k + 1 := by omega
  have e6 : ¬ n = k := by omega
  have e7 : k ≤ n := by omega
  have hcsl : ((l.drop k).flatMap cFile).length = (n - k) * 3 := by rw [flatMap_length (fun y hy => H2.out y (List.mem_of_mem_drop hy)), List.length_drop, HL.out]
  have hcs1 : ∀ v ∈ (l.drop k).flatMap cFile, v.oneCell' = true := by intro v hv; obtain ⟨y, _, hy⟩ := List.mem_flatMap.1 hv; exact cFile_one y v hy
  have hlt : (cur.take (k * 3)).length = k * 3 := by rw [List.length_take, HBL.out]; omega
  have hsl : (splice (cur.take (k * 3) ++ Z) (k * 3) (cFile x)).length = k * 3 + (cap - k) * 3 := by rw [splice_length _ _ _ (by simp only [List.length_append, hlt, hz1]; show k * 3 + 3 ≤ _; omega), List.length_append, hlt, hz1]
  have hgs : Bk w2 g cur 47 := (hbk.grown hg1 (by simp)).grown hg2 (by simp; omega)
  have hsrc : ∀ (j : Nat) (v : Value), ((l.drop k).flatMap cFile)[j]? = some v → cur[k * 3 + j]? = some v := by
    intro j v hj
    rw [F1.out.2, List.getElem?_drop] at hj
    rw [← HC.out, List.getElem?_append_left (List.getElem?_eq_some_iff.1 hj).1]
    exact hj
  have HS := Lib.hid hsl
  have HSR := Lib.hid hsrc
  have HCL := Lib.hid hcsl
  clear hsl hsrc hcsl
  have hb2d : Bk w2.drew w.heap.size (splice (cur.take (k * 3) ++ Z) (k * 3) (cFile x)) 47 := hb2
  go_region_law (go_loud (refine step_cp rfl _ _ _ _ rfl elFile (cs := (l.drop k).flatMap cFile) (off := (k + 1) * 3) (dLen := n + 1 - (k + 1)) (dCap := cap - (k + 1)) (ad := ⟨g, k * 3, none⟩) (sLen := n - k) (sCap := n - k) (by simp [Act.eval, Act.put]) (by simp [Act.eval, Act.put]) hb2d (by rw [HCL.out, show Nat.min (n - k) (n + 1 - (k + 1)) = n - k from Nat.min_eq_left (by omega)]) (fun j v hj => by show w2.cell? _ = _; rw [Addr.add_lit, hgs.cell]; exact HSR.out j v hj) (by rw [HS.out, HCL.out]; omega) hcs1 ?_; intro w3 hb3 hg3 hs3))
  go_wp2
  go_ret
  refine ⟨some ⟨w.heap.size, 0, none⟩, cap, rfl, ?_, ((hg1.but _).andThen hg2 (by simp)).andThen (show w2.grownBy w3 (some w.heap.size) from ⟨hg3.os, hg3.tape, hg3.output, hg3.size, hg3.block⟩) (by simp), .inr rfl⟩
  have hta : cur.take (k * 3) = (l.take k).flatMap cFile := by rw [F1.out.1, ← HC.out, List.take_append_of_le_length (by rw [flatMap_length H2.out, ← HL.out]; omega)]
  have hall : ∀ y ∈ l.take k ++ x :: l.drop k, (cFile y).length = 3 := fun y _ => rfl
  have hlen : (l.take k ++ x :: l.drop k).length = n + 1 := by rw [List.length_append, List.length_take, List.length_cons, List.length_drop, ← HL.out]; omega
  have := Ow.of_blk (B := B) (g := w.heap.size) (c := cap) (J := Z.drop (3 + ((l.drop k).flatMap cFile).length)) hall hB hb3 (by
    have h := ins2 (cur.take (k * 3)) Z ((l.drop k).flatMap cFile) (cFile x)
    rw [hlt] at h
    rw [show (k + 1) * 3 = k * 3 + (cFile x).length from by show _ = k * 3 + 3; omega, h, hta, List.flatMap_append, List.flatMap_cons]
    simp only [List.append_assoc]
    rfl) (by rw [splice_length _ _ _ (by rw [HS.out, HCL.out]; omega), HS.out]; omega) (by rw [hlen]; omega) hc2
  rw [hlen] at this
  exact this
set_option maxRecDepth 100000 in
set_option maxHeartbeats 1000000 in
theorem insFile_room (A : Option Addr) (n k c : Nat) (l : List File) (x : File) (w : World) (B vb : Nat) (hown : Ow cFile 3 47 w B (.slice A n c) l) (hk : k < n) (hc : n < c) (hv : Bk w vb (cFile x) 47) (hvA : (Value.slice A n c).ownBlock ≠ some vb) :
    Calls Try.prog 32 #[.slice A n c, .int .i64 k, .slice (some ⟨vb, 0, none⟩) 1 1] w (Rowed cFile 3 47 B (n + 1) (l.take k ++ x :: l.drop k) (Value.slice A n c).ownBlock w) := by
  obtain ⟨g, J, rfl, hBg, hbk, hbl, _, hcm, hnl⟩ := hown.blk (by omega)
  have H2 := Lib.hid hown.2
  have hvg : vb ≠ g := by intro h; exact hvA (by rw [h]; rfl)
  generalize hcur : l.flatMap cFile ++ J = cur at hbk hbl
  have HC := Lib.hid hcur
  have HL := Lib.hid hnl
  have HBL := Lib.hid hbl
  clear hcur hown hnl hbl
  have hne : ((k : Int) == (n : Int)) = false := by simp; omega
  have F1 := Lib.hid (flatMap_split H2.out k)
  have d1 : IntKind.i64.wrap ((n : Int) + 1) = (n : Int) + 1 := by rw [IntKind.wrap_i64]; simp [maxLen] at hcm; omega
  have d2 : ((n : Int) + 1).toNat = n + 1 := by omega
  have d3 : (0 : Int) ≤ (n : Int) + 1 := by omega
  have d4 : (n : Int) + 1 ≤ (c : Int) := by omega
  have d5 : ¬ (c : Int) < (n : Int) + 1 := by omega
  have e1 : IntKind.i64.wrap ((k : Int) + 1) = (k : Int) + 1 := by rw [IntKind.wrap_i64]; simp [maxLen] at hcm; omega
  have e2 : ((k : Int) + 1).toNat = k + 1 := by omega
  have e3 : (0 : Int) ≤ (k : Int) + 1 := by omega
  have e4 : (k : Int) + 1 ≤ (n : Int) + 1 := by omega
  have e5 : ¬ c = k + 1 := by omega
  have e6 : ¬ c = k := by omega
  have e7 : (k : Int) ≤ (n : Int) + 1 := by omega
  have e8 : k ≤ n := by omega
  have hov := fun (off lb cb : Nat) => overlaps_no elFile Try.func45 (by kernel_rfl) (by kernel_rfl) (by kernel_rfl) (tB := 4) (by kernel_rfl) hv hbk hvg (by have := HBL.out; omega) off 1 1 lb cb
  go_enter Try.func32, Try.ntmps32
  go_wp2_with (simp only [hov])
  have hcsl : ((l.drop k).flatMap cFile).length = (n - k) * 3 := by rw [flatMap_length (fun y hy => H2.out y (List.mem_of_mem_drop hy)), List.length_drop, HL.out]
  have hcs1 : ∀ v ∈ (l.drop k).flatMap cFile, v.oneCell' = true := by intro v hv; obtain ⟨y, _, hy⟩ := List.mem_flatMap.1 hv; exact cFile_one y v hy
  have hsl : (splice cur ((k + 1) * 3) ((l.drop k).flatMap cFile)).length = c * 3 := by rw [splice_length _ _ _ (by rw [hcsl, HBL.out]; omega), HBL.out]
  have hsrc : ∀ (j : Nat) (v : Value), ((l.drop k).flatMap cFile)[j]? = some v → cur[k * 3 + j]? = some v := by
    intro j v hj
    rw [F1.out.2, List.getElem?_drop] at hj
    rw [← HC.out, List.getElem?_append_left (List.getElem?_eq_some_iff.1 hj).1]
    exact hj
  have HS := Lib.hid hsl
  have HSR := Lib.hid hsrc
  have HCL := Lib.hid hcsl
  clear hsl hsrc hcsl
  have hbd : Bk w.drew g cur 47 := hbk
  have hvd : Bk w.drew vb (cFile x) 47 := hv
  go_region_law (go_loud (refine step_cp rfl _ _ _ _ rfl elFile (cs := (l.drop k).flatMap cFile) (off := (k + 1) * 3) (dLen := n - k) (dCap := c - (k + 1)) (ad := ⟨g, k * 3, none⟩) (sLen := n + 1 - k) (sCap := c - k) (by simp [Act.eval, Act.put]) (by simp [Act.eval, Act.put]) hbd (by rw [HCL.out, show Nat.min (n + 1 - k) (n - k) = n - k from Nat.min_eq_right (by omega)]) (fun j v hj => by rw [Addr.add_lit, hbd.cell]; exact HSR.out j v hj) (by rw [HBL.out, HCL.out]; omega) hcs1 ?_; intro w3 hb3 hg3 hs3))
  go_wp2_with (first | (with_reducible refine wpList_atcp ?_); go_loud (refine wpList_cp rfl (.tmp 80) (.tmp 81) _ _ rfl elFile (cs := cFile x) (off := k * 3) (dLen := n + 1 - k) (dCap := c - k) rfl rfl hb3 (by rw [show ∀ q, 1 ≤ q → Nat.min 1 q = 1 from fun q h => Nat.min_eq_left h] <;> first | rfl | omega) (fun j v hj => by rw [Addr.add_lit, Nat.zero_add, (hvd.grown hg3 (by simp; exact hvg)).cell]; exact hj) (by rw [HS.out]; show k * 3 + 3 ≤ _; omega) (cFile_one x) ?_; intro w4 hb4 hg4 hs4))
  go_ret
  refine ⟨some ⟨g, 0, none⟩, c, rfl, ?_, (show w.grownBy w3 (some g) from ⟨hg3.os, hg3.tape, hg3.output, hg3.size, hg3.block⟩).trans hg4, .inl rfl⟩
  have hta : cur = (l.take k).flatMap cFile ++ (l.drop k).flatMap cFile ++ J := by rw [← List.flatMap_append, List.take_append_drop, HC.out]
  have hlt : ((l.take k).flatMap cFile).length = k * 3 := by rw [flatMap_length (fun y hy => H2.out y (List.mem_of_mem_take hy)), List.length_take, ← HL.out, Nat.min_eq_left (by omega)]
  have hJ : (cFile x).length ≤ J.length := by
    have h := HBL.out
    rw [hta, List.length_append, List.length_append, hlt, HCL.out] at h
    show 3 ≤ _
    omega
  have hall : ∀ y ∈ l.take k ++ x :: l.drop k, (cFile y).length = 3 := fun y _ => rfl
  have hlen : (l.take k ++ x :: l.drop k).length = n + 1 := by rw [List.length_append, List.length_take, List.length_cons, List.length_drop, ← HL.out]; omega
  have := Ow.of_blk (B := B) (g := g) (c := c) (J := J.drop (cFile x).length) hall hBg hb4 (by
    have h := ins1 ((l.take k).flatMap cFile) ((l.drop k).flatMap cFile) J (cFile x) hJ
    rw [hlt, ← hta] at h
    rw [show (k + 1) * 3 = k * 3 + (cFile x).length from by show _ = k * 3 + 3; omega, h, List.flatMap_append, List.flatMap_cons]
    simp only [List.append_assoc]) (by rw [splice_length _ _ _ (by rw [HS.out]; show k * 3 + 3 ≤ _; omega), HS.out]) (by rw [hlen]; omega) hcm
  rw [hlen] at this
  exact this
theorem insFile (v : Value) (k : Nat) (l : List File) (x : File) (w : World) (B vb : Nat) (hown : Ow cFile 3 47 w B v l) (hk : k ≤ l.length) (hv : Bk w vb (cFile x) 47) (hvA : v.ownBlock ≠ some vb)
    (hB : B ≤ w.heap.size) (hn : (l.length + 1) * 48 ≤ 140737488355328) :
    Calls Try.prog 32 #[v, .int .i64 k, .slice (some ⟨vb, 0, none⟩) 1 1] w (Rowed cFile 3 47 B (l.length + 1) (l.take k ++ x :: l.drop k) v.ownBlock w) := by
  obtain ⟨A, c, rfl, h2⟩ := hown.form
  rcases Nat.lt_or_ge k l.length with h | h
  · obtain ⟨g, J, rfl, _, _, _, hnc, _, _⟩ := hown.blk (by omega)
    by_cases hc : c = l.length
    · subst hc
      exact insFile_grow _ _ k l x w B vb hown h hv hB hn
    · exact insFile_room _ _ k c l x w B vb hown h (by omega) hv hvA
  · obtain rfl : k = l.length := by omega
    rw [List.take_length, List.drop_length]
    exact insFile_end _ _ c l x w B vb hown rfl hv hB hn
end Go.Proofs.Ytdfliajginlpiaa

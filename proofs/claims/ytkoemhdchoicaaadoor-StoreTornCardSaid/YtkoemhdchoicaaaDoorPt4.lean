/- Lemmas for the statement: T4F, T5F, T3F, Disk, Disk2, Disk3, Disk4, Disk5, Disk6, DiskLaw. -/
import Derived.Test.YtkoemhdchoicaaaDoorPt1
import Derived.Test.YtkoemhdchoicaaaDoorPt2
import Derived.Test.YtkoemhdchoicaaaDoorPt3
/- made by geninst.py from XT4.src -/
namespace Go.Proofs.YtkoemhdchoicaaaDoor
open Go.RowKit
set_option maxHeartbeats 1000000 in
theorem insFile_end (A : Option Addr) (n c : Nat) (l : List File) (x : File) (w : World) (B vb : Nat) (hown : Ow cFile 3 70 w B (.slice A n c) l) (hl : n = l.length) (hv : Bk w vb (cFile x) 70)
    (hB : B ≤ w.heap.size) (hn : (n + 1) * 48 ≤ 140737488355328) :
    Calls Tryd.prog 47 #[.slice A n c, .int .i64 n, .slice (some ⟨vb, 0, none⟩) 1 1] w (Rowed cFile 3 70 B (n + 1) (l ++ [x]) (Value.slice A n c).ownBlock w) := by
  have H := Lib.hid hown
  obtain ⟨A', c', hf1, hf2, hf3, hf4, hf5⟩ := hown.form
  injection hf1 with e1 e2 e3
  subst e1; subst e3
  have HL := Lib.hid hl
  rw [← hl] at hf2
  have HN := Lib.hid hf4
  clear hl e2 hown hf4 hf5
  by_cases hcn : c = n
  · subst hcn
    go_enter Tryd.func47, Tryd.ntmps47
    go_wp2_with (at_builtin; refine wpList_app _ rfl (.tmp 23) (.tmp 24) _ rfl elFile (l := l) (m := [x]) rfl rfl H.out (Sl.blk rfl hv) cFile_one (by have := HL.out; simp [maxLen]; omega) (by have := HL.out; simp; omega) hB ?_; intro v' w1 hown1 hg1 hat1; obtain ⟨A1, c1, rfl⟩ := Ow.is_slice (m := c + 1) hown1 (by simpa using HL.out.symm); have HO := Lib.hid hown1; have HG := Lib.hid hg1; have HT := Lib.hid hat1; clear hown1 hg1 hat1)
    go_ret
    exact ⟨A1, c1, rfl, HO.out, HG.out, HT.out⟩
  · go_enter Tryd.func47, Tryd.ntmps47
    go_wp2_with (at_builtin; refine wpList_app _ rfl (.tmp 23) (.tmp 24) _ rfl elFile (l := l) (m := [x]) rfl rfl H.out (Sl.blk rfl hv) cFile_one (by have := HL.out; simp [maxLen]; omega) (by have := HL.out; simp; omega) hB ?_; intro v' w1 hown1 hg1 hat1; obtain ⟨A1, c1, rfl⟩ := Ow.is_slice (m := n + 1) hown1 (by simpa using HL.out.symm); have HO := Lib.hid hown1; have HG := Lib.hid hg1; have HT := Lib.hid hat1; clear hown1 hg1 hat1)
    go_ret
    exact ⟨A1, c1, rfl, HO.out, HG.out, HT.out⟩
set_option maxRecDepth 100000 in
set_option maxHeartbeats 1000000 in
theorem insFile_grow (A : Option Addr) (n k : Nat) (l : List File) (x : File) (w : World) (B vb : Nat) (hown : Ow cFile 3 70 w B (.slice A n n) l) (hk : k < n) (hv : Bk w vb (cFile x) 70)
    (hB : B ≤ w.heap.size) (hn : (n + 1) * 48 ≤ 140737488355328) :
    Calls Tryd.prog 47 #[.slice A n n, .int .i64 k, .slice (some ⟨vb, 0, none⟩) 1 1] w (Rowed cFile 3 70 B (n + 1) (l.take k ++ x :: l.drop k) (Value.slice A n n).ownBlock w) := by
  obtain ⟨g, J, rfl, hBg, hbk, hbl, _, hcm, hnl⟩ := hown.blk (by omega)
  have H2 := Lib.hid hown.2
  generalize hcur : l.flatMap cFile ++ J = cur at hbk hbl
  have HC := Lib.hid hcur
  have HL := Lib.hid hnl
  have HBL := Lib.hid hbl
  clear hcur hown hnl hbl
  have ecnt := Lib.hid (show (((n + 1 - k : Nat) : Nat) : Int) = (n : Int) + 1 - (k : Int) by omega)
  have hne : ((k : Int) == (n : Int)) = false := by simp; omega
  have F1 := Lib.hid (flatMap_split H2.out k)
  go_enter Tryd.func47, Tryd.ntmps47
  have hkc : k + (n + 1 - k) = n + 1 := by omega
  have hvg : g < w.heap.size := hbk.lt
  have hvv : vb < w.heap.size := hv.lt
  go_wp2_with (first | (with_reducible refine wpList_atcp ?_); go_loud (refine wpList_cp rfl (.tmp 43) (.tmp 44) _ _ rfl elFile (cs := cFile x) rfl rfl hb1 (by rw [show ∀ q, 1 ≤ q → Nat.min 1 q = 1 from fun q h => Nat.min_eq_left h] <;> first | rfl | omega) (fun j v hj => by show w1.cell? _ = _; rw [Addr.add_lit, Nat.zero_add, (hv.grown hg1 (by simp)).cell]; exact hj) (by have := HBL.out; simp [hz1, cFile]; omega) (cFile_one x) ?_; intro w2 hb2 hg2 hs2) | at_builtin; go_loud (refine wpList_appz rfl (.tmp 34) (.tmp 39) _ _ rfl elFile Tryd.underlying3 (k := k) (c := n) (cnt := n + 1 - k) rfl (by show Value.int _ _ = _; rw [ecnt.out]) hbk (by have := HBL.out; omega) (by omega) (by omega) (by simp [maxLen]; omega) (by omega) ?_; intro w1 Z cap hb1 hz1 hc1 hc2 hg1 hs1))
  have e1 : IntKind.i64.wrap ((k : Int) + 1) = (k : Int) + 1 := by rw [IntKind.wrap_i64]; simp [maxLen] at hcm; omega
  have e2 : ((k : Int) + 1).toNat = k + 1 := by omega
  have e3 : (0 : Int) ≤ (k : Int) + 1 := by omega
  have e4 : (k : Int) + 1 ≤ (n : Int) + 1 := by omega
  have e5 : ¬ cap = k + 1 := by omega
  have e6 : ¬ n = k := by omega
  have e7 : k ≤ n := by omega
  have hcsl : ((l.drop k).flatMap cFile).length = (n - k) * 3 := by rw [flatMap_length (fun y hy => H2.out y (List.mem_of_mem_drop hy)), List.length_drop, HL.out]
  have hcs1 : ∀ v ∈ (l.drop k).flatMap cFile, v.oneCell' = true := by intro v hv; obtain ⟨y, _, hy⟩ := List.mem_flatMap.1 hv; exact cFile_one y v hy
  have hlt : (cur.take (k * 3)).length = k * 3 := by rw [List.length_take, HBL.out]; omega
  have hsl : (splice (cur.take (k * 3) ++ Z) (k * 3) (cFile x)).length = k * 3 + (cap - k) * 3 := by rw [splice_length _ _ _ (by simp only [List.length_append, hlt, hz1]; show k * 3 + 3 ≤ _; omega), List.length_append, hlt, hz1]
  have hgs : Bk w2 g cur 70 := (hbk.grown hg1 (by simp)).grown hg2 (by simp; omega)
  have hsrc : ∀ (j : Nat) (v : Value), ((l.drop k).flatMap cFile)[j]? = some v → cur[k * 3 + j]? = some v := by
    intro j v hj
    rw [F1.out.2, List.getElem?_drop] at hj
    rw [← HC.out, List.getElem?_append_left (List.getElem?_eq_some_iff.1 hj).1]
    exact hj
  have HS := Lib.hid hsl
  have HSR := Lib.hid hsrc
  have HCL := Lib.hid hcsl
  clear hsl hsrc hcsl
  have hb2d : Bk w2.drew w.heap.size (splice (cur.take (k * 3) ++ Z) (k * 3) (cFile x)) 70 := hb2
  go_region_law (go_loud (refine step_cp rfl _ _ _ _ rfl elFile (cs := (l.drop k).flatMap cFile) (off := (k + 1) * 3) (dLen := n + 1 - (k + 1)) (dCap := cap - (k + 1)) (ad := ⟨g, k * 3, none⟩) (sLen := n - k) (sCap := n - k) (by simp [Act.eval, Act.put]) (by simp [Act.eval, Act.put]) hb2d (by rw [HCL.out, show Nat.min (n - k) (n + 1 - (k + 1)) = n - k from Nat.min_eq_left (by omega)]) (fun j v hj => by show w2.cell? _ = _; rw [Addr.add_lit, hgs.cell]; exact HSR.out j v hj) (by rw [HS.out, HCL.out]; omega) hcs1 ?_; intro w3 hb3 hg3 hs3))
  go_wp2
  go_ret
  refine ⟨some ⟨w.heap.size, 0, none⟩, cap, rfl, ?_, ((hg1.but _).andThen hg2 (by simp)).andThen (show w2.grownBy w3 (some w.heap.size) from ⟨hg3.os, hg3.tape, hg3.output, hg3.size, hg3.block⟩) (by simp), .inr rfl⟩
  have hta : cur.take (k * 3) = (l.take k).flatMap cFile := by rw [F1.out.1, ← HC.out, List.take_append_of_le_length (by rw [flatMap_length H2.out, ← HL.out]; omega)]
  have hall : ∀ y ∈ l.take k ++ x :: l.drop k, (cFile y).length = 3 := fun y _ => rfl
  have hlen : (l.take k ++ x :: l.drop k).length = n + 1 := by rw [List.length_append, List.length_take, List.length_cons, List.length_drop, ← HL.out]; omega
  have := Ow.of_blk (B := B) (g := w.heap.size) (c := cap) (J := Z.drop (3 + ((l.drop k).flatMap cFile).length)) hall hB hb3 (by
    have h := ins2 (cur.take (k * 3)) Z ((l.drop k).flatMap cFile) (cFile x)
    rw [hlt] at h
    rw [show (k + 1) * 3 = k * 3 + (cFile x).length from by show _ = k * 3 + 3; omega, h, hta, List.flatMap_append, List.flatMap_cons]
    simp only [List.append_assoc]
    rfl) (by rw [splice_length _ _ _ (by rw [HS.out, HCL.out]; omega), HS.out]; omega) (by rw [hlen]; omega) hc2
  rw [hlen] at this
  exact this
set_option maxRecDepth 100000 in
set_option maxHeartbeats 1000000 in
theorem insFile_room (A : Option Addr) (n k c : Nat) (l : List File) (x : File) (w : World) (B vb : Nat) (hown : Ow cFile 3 70 w B (.slice A n c) l) (hk : k < n) (hc : n < c) (hv : Bk w vb (cFile x) 70) (hvA : (Value.slice A n c).ownBlock ≠ some vb) :
    Calls Tryd.prog 47 #[.slice A n c, .int .i64 k, .slice (some ⟨vb, 0, none⟩) 1 1] w (Rowed cFile 3 70 B (n + 1) (l.take k ++ x :: l.drop k) (Value.slice A n c).ownBlock w) := by
  obtain ⟨g, J, rfl, hBg, hbk, hbl, _, hcm, hnl⟩ := hown.blk (by omega)
  have H2 := Lib.hid hown.2
  have hvg : vb ≠ g := by intro h; exact hvA (by rw [h]; rfl)
  generalize hcur : l.flatMap cFile ++ J = cur at hbk hbl
  have HC := Lib.hid hcur
  have HL := Lib.hid hnl
  have HBL := Lib.hid hbl
  clear hcur hown hnl hbl
  have hne : ((k : Int) == (n : Int)) = false := by simp; omega
  have F1 := Lib.hid (flatMap_split H2.out k)
  have d1 : IntKind.i64.wrap ((n : Int) + 1) = (n : Int) + 1 := by rw [IntKind.wrap_i64]; simp [maxLen] at hcm; omega
  have d2 : ((n : Int) + 1).toNat = n + 1 := by omega
  have d3 : (0 : Int) ≤ (n : Int) + 1 := by omega
  have d4 : (n : Int) + 1 ≤ (c : Int) := by omega
  have d5 : ¬ (c : Int) < (n : Int) + 1 := by omega
  have e1 : IntKind.i64.wrap ((k : Int) + 1) = (k : Int) + 1 := by rw [IntKind.wrap_i64]; simp [maxLen] at hcm; omega
  have e2 : ((k : Int) + 1).toNat = k + 1 := by omega
  have e3 : (0 : Int) ≤ (k : Int) + 1 := by omega
  have e4 : (k : Int) + 1 ≤ (n : Int) + 1 := by omega
  have e5 : ¬ c = k + 1 := by omega
  have e6 : ¬ c = k := by omega
  have e7 : (k : Int) ≤ (n : Int) + 1 := by omega
  have e8 : k ≤ n := by omega
  have hov := fun (off lb cb : Nat) => overlaps_no elFile Tryd.func61 (by kernel_rfl) (by kernel_rfl) (by kernel_rfl) (tB := 4) (by kernel_rfl) hv hbk hvg (by have := HBL.out; omega) off 1 1 lb cb
  go_enter Tryd.func47, Tryd.ntmps47
  go_wp2_with (simp only [hov])
  have hcsl : ((l.drop k).flatMap cFile).length = (n - k) * 3 := by rw [flatMap_length (fun y hy => H2.out y (List.mem_of_mem_drop hy)), List.length_drop, HL.out]
  have hcs1 : ∀ v ∈ (l.drop k).flatMap cFile, v.oneCell' = true := by intro v hv; obtain ⟨y, _, hy⟩ := List.mem_flatMap.1 hv; exact cFile_one y v hy
  have hsl : (splice cur ((k + 1) * 3) ((l.drop k).flatMap cFile)).length = c * 3 := by rw [splice_length _ _ _ (by rw [hcsl, HBL.out]; omega), HBL.out]
  have hsrc : ∀ (j : Nat) (v : Value), ((l.drop k).flatMap cFile)[j]? = some v → cur[k * 3 + j]? = some v := by
    intro j v hj
    rw [F1.out.2, List.getElem?_drop] at hj
    rw [← HC.out, List.getElem?_append_left (List.getElem?_eq_some_iff.1 hj).1]
    exact hj
  have HS := Lib.hid hsl
  have HSR := Lib.hid hsrc
  have HCL := Lib.hid hcsl
  clear hsl hsrc hcsl
  have hbd : Bk w.drew g cur 70 := hbk
  have hvd : Bk w.drew vb (cFile x) 70 := hv
  go_region_law (go_loud (refine step_cp rfl _ _ _ _ rfl elFile (cs := (l.drop k).flatMap cFile) (off := (k + 1) * 3) (dLen := n - k) (dCap := c - (k + 1)) (ad := ⟨g, k * 3, none⟩) (sLen := n + 1 - k) (sCap := c - k) (by simp [Act.eval, Act.put]) (by simp [Act.eval, Act.put]) hbd (by rw [HCL.out, show Nat.min (n + 1 - k) (n - k) = n - k from Nat.min_eq_right (by omega)]) (fun j v hj => by rw [Addr.add_lit, hbd.cell]; exact HSR.out j v hj) (by rw [HBL.out, HCL.out]; omega) hcs1 ?_; intro w3 hb3 hg3 hs3))
  go_wp2_with (first | (with_reducible refine wpList_atcp ?_); go_loud (refine wpList_cp rfl (.tmp 80) (.tmp 81) _ _ rfl elFile (cs := cFile x) (off := k * 3) (dLen := n + 1 - k) (dCap := c - k) rfl rfl hb3 (by rw [show ∀ q, 1 ≤ q → Nat.min 1 q = 1 from fun q h => Nat.min_eq_left h] <;> first | rfl | omega) (fun j v hj => by rw [Addr.add_lit, Nat.zero_add, (hvd.grown hg3 (by simp; exact hvg)).cell]; exact hj) (by rw [HS.out]; show k * 3 + 3 ≤ _; omega) (cFile_one x) ?_; intro w4 hb4 hg4 hs4))
  go_ret
  refine ⟨some ⟨g, 0, none⟩, c, rfl, ?_, (show w.grownBy w3 (some g) from ⟨hg3.os, hg3.tape, hg3.output, hg3.size, hg3.block⟩).trans hg4, .inl rfl⟩
  have hta : cur = (l.take k).flatMap cFile ++ (l.drop k).flatMap cFile ++ J := by rw [← List.flatMap_append, List.take_append_drop, HC.out]
  have hlt : ((l.take k).flatMap cFile).length = k * 3 := by rw [flatMap_length (fun y hy => H2.out y (List.mem_of_mem_take hy)), List.length_take, ← HL.out, Nat.min_eq_left (by omega)]
  have hJ : (cFile x).length ≤ J.length := by
    have h := HBL.out
    rw [hta, List.length_append, List.length_append, hlt, HCL.out] at h
    show 3 ≤ _
    omega
  have hall : ∀ y ∈ l.take k ++ x :: l.drop k, (cFile y).length = 3 := fun y _ => rfl
  have hlen : (l.take k ++ x :: l.drop k).length = n + 1 := by rw [List.length_append, List.length_take, List.length_cons, List.length_drop, ← HL.out]; omega
  have := Ow.of_blk (B := B) (g := g) (c := c) (J := J.drop (cFile x).length) hall hBg hb4 (by
    have h := ins1 ((l.take k).flatMap cFile) ((l.drop k).flatMap cFile) J (cFile x) hJ
    rw [hlt, ← hta] at h
    rw [show (k + 1) * 3 = k * 3 + (cFile x).length from by show _ = k * 3 + 3; omega, h, List.flatMap_append, List.flatMap_cons]
    simp only [List.append_assoc]) (by rw [splice_length _ _ _ (by rw [HS.out]; show k * 3 + 3 ≤ _; omega), HS.out]) (by rw [hlen]; omega) hcm
  rw [hlen] at this
  exact this
theorem insFile (v : Value) (k : Nat) (l : List File) (x : File) (w : World) (B vb : Nat) (hown : Ow cFile 3 70 w B v l) (hk : k ≤ l.length) (hv : Bk w vb (cFile x) 70) (hvA : v.ownBlock ≠ some vb)
    (hB : B ≤ w.heap.size) (hn : (l.length + 1) * 48 ≤ 140737488355328) :
    Calls Tryd.prog 47 #[v, .int .i64 k, .slice (some ⟨vb, 0, none⟩) 1 1] w (Rowed cFile 3 70 B (l.length + 1) (l.take k ++ x :: l.drop k) v.ownBlock w) := by
  obtain ⟨A, c, rfl, h2⟩ := hown.form
  rcases Nat.lt_or_ge k l.length with h | h
  · obtain ⟨g, J, rfl, _, _, _, hnc, _, _⟩ := hown.blk (by omega)
    by_cases hc : c = l.length
    · subst hc
      exact insFile_grow _ _ k l x w B vb hown h hv hB hn
    · exact insFile_room _ _ k c l x w B vb hown h (by omega) hv hvA
  · obtain rfl : k = l.length := by omega
    rw [List.take_length, List.drop_length]
    exact insFile_end _ _ c l x w B vb hown rfl hv hB hn
end Go.Proofs.YtkoemhdchoicaaaDoor

/- made by geninst.py from XT5.src -/
namespace Go.Proofs.YtkoemhdchoicaaaDoor
open Go.RowKit
set_option maxRecDepth 100000 in
set_option maxHeartbeats 1000000 in
theorem delFile_core (g n c k j m q : Nat) (cur news : List Value) (w : World) (hb : Bk w g cur 70) (hnews : news.length = m * 3) (hsrc : ∀ (i : Nat) (v : Value), news[i]? = some v → cur[j * 3 + i]? = some v)
    (hone : ∀ v ∈ news, v.oneCell' = true) (hlen : cur.length = c * 3) (hj : j = k + 1) (hm : k + m = q) (hn : n = q + 1) (hnc : n ≤ c) (hc : c ≤ 9223372036854775807) :
    Calls Tryd.prog 56 #[.slice (some ⟨g, 0, none⟩) n c, .int .i64 k, .int .i64 j] w fun e w' => e = .returned (.slice (some ⟨g, 0, none⟩) q c) ∧
      Hid (∃ cur', Bk w' g cur' 70 ∧ cur'.length = cur.length ∧ cur'.take (q * 3) = (splice cur (k * 3) news).take (q * 3) ∧ w.grownBy w' (some g)) := by
  have HB := Lib.hid hb
  have HO := Lib.hid hone
  have HN := Lib.hid hnews
  have HS := Lib.hid hsrc
  have HL := Lib.hid hlen
  have hkc : (k : Int) ≤ (c : Int) := by omega
  have hjn : (j : Int) ≤ (n : Int) := by omega
  have hnci : (n : Int) ≤ (c : Int) := by omega
  have hqn : (q : Int) ≤ (n : Int) := by omega
  have hqc : (q : Int) ≤ (c : Int) := by omega
  have hkj : (k : Int) ≤ (j : Int) := by omega
  have hkk : ((k : Int) == (j : Int)) = false := beq_eq_false_iff_ne.2 (by omega)
  have hnq : n - q = 1 := by omega
  have HQ := Lib.hid hn
  have HJ := Lib.hid hj
  have HBD : Hid (Bk w.drew g cur 70) := HB
  clear hb hone hnews hsrc hlen
  by_cases hcj : c = j
  · have hm0 : m = 0 := by omega
    subst hm0
    rw [Nat.add_zero] at hm
    subst hm
    have hn0 : news = [] := List.eq_nil_of_length_eq_zero (by simpa using HN.out)
    have HN0 := Lib.hid hn0
    have hnj : n = j := by omega
    subst hnj
    subst hcj
    clear hn hj hn0
    go_enter Tryd.func56, Tryd.ntmps56
    go_wp2_with fail
    go_region_law (first | (refine step_apr rfl (.tmp 22) (.tmp 25) _ rfl elFile (g := g) (k := k) (c := c) (off := 0) (m := 0) (cc := 0) (news := news) (by simp [Act.eval, Act.put]) (by simp [Act.eval, Act.put]) HBD.out (by rw [HN0.out]; rfl) (by rw [HN0.out]; simp) (by omega) (by rw [HN0.out, HL.out]; simp; omega) HO.out ?_; intro w2 hb2 hg2 hz2; have HB2 := Lib.hid hb2; have HG2 := Lib.hid hg2; have HZ2 := Lib.hid hz2; clear hb2 hg2 hz2))
    have hsl : (splice cur (k * 3) news).length = c * 3 := by rw [splice_length _ _ _ (by rw [HN0.out, HL.out]; simp; omega), HL.out]
    have HSL := Lib.hid hsl
    clear hsl
    go_wp2_with (first | (with_reducible refine wpList_atclr ?_); (refine wpList_clr rfl (.tmp 31) _ rfl elFile (off := k * 3) (n := 1) rfl HB2.out (by decide) (by rw [HSL.out]; omega) ?_; intro w3 cur3 hb3 hl3 ht3 hg3 _; have HB3 := Lib.hid hb3; have HL3 := Lib.hid hl3; have HT3 := Lib.hid ht3; have HG3 := Lib.hid hg3; clear hb3 hl3 ht3 hg3))
    refine bodyPost_ret (v := .slice (some ⟨g, 0, none⟩) k c) (by simp [results, Tryd.results56, go_sem]) rfl ⟨rfl, Lib.hid ⟨cur3, HB3.out, by rw [HL3.out, HSL.out, HL.out], HT3.out, ?_⟩⟩
    exact (show w.grownBy w2 (some g) from ⟨HG2.out.os, HG2.out.tape, HG2.out.output, HG2.out.size, HG2.out.block⟩).trans HG3.out
  · clear hn hj
    go_enter Tryd.func56, Tryd.ntmps56
    go_wp2_with fail
    go_region_law (first | (refine step_apr rfl (.tmp 22) (.tmp 25) _ rfl elFile (g := g) (k := k) (c := c) (off := j * 3) (m := m) (cc := c - j) (news := news) (by simp [Act.eval, Act.put]) (by simp [Act.eval, Act.put]; have := HQ.out; have := HJ.out; omega) HBD.out HN.out HS.out (by have := HQ.out; omega) (by rw [HN.out, HL.out]; have := HQ.out; omega) HO.out ?_; intro w2 hb2 hg2 hz2; have HB2 := Lib.hid hb2; have HG2 := Lib.hid hg2; have HZ2 := Lib.hid hz2; clear hb2 hg2 hz2))
    have hsl : (splice cur (k * 3) news).length = c * 3 := by rw [splice_length _ _ _ (by rw [HN.out, HL.out]; have := HQ.out; omega), HL.out]
    have HSL := Lib.hid hsl
    clear hsl
    go_wp2_with (first | (with_reducible refine wpList_atclr ?_); (refine wpList_clr rfl (.tmp 31) _ rfl elFile (off := q * 3) (n := 1) rfl HB2.out (by decide) (by rw [HSL.out]; have := HQ.out; omega) ?_; intro w3 cur3 hb3 hl3 ht3 hg3 _; have HB3 := Lib.hid hb3; have HL3 := Lib.hid hl3; have HT3 := Lib.hid ht3; have HG3 := Lib.hid hg3; clear hb3 hl3 ht3 hg3))
    refine bodyPost_ret (v := .slice (some ⟨g, 0, none⟩) q c) (by simp [results, Tryd.results56, go_sem]) rfl ⟨rfl, Lib.hid ⟨cur3, HB3.out, by rw [HL3.out, HSL.out, HL.out], HT3.out, ?_⟩⟩
    exact (show w.grownBy w2 (some g) from ⟨HG2.out.os, HG2.out.tape, HG2.out.output, HG2.out.size, HG2.out.block⟩).trans HG3.out
theorem delFile (A : Option Addr) (n c k : Nat) (l : List File) (w : World) (B : Nat) (hown : Ow cFile 3 70 w B (.slice A n c) l) (hk : k < l.length) (hc : c ≤ 9223372036854775807) :
    Calls Tryd.prog 56 #[.slice A n c, .int .i64 k, .int .i64 (k + 1)] w fun e w' => e = .returned (.slice A (n - 1) c) ∧ Hid (Ow cFile 3 70 w' B (.slice A (n - 1) c) (l.take k ++ l.drop (k + 1)) ∧ w.grownBy w' (Value.slice A n c).ownBlock) := by
  have hnl : n = l.length := by obtain ⟨_, _, h, _⟩ := hown.form; injection h
  obtain ⟨g, J, rfl, hBg, hbk, hbl, hnc, hcm, _⟩ := hown.blk (by omega)
  have hf : ∀ x ∈ l, (cFile x).length = 3 := fun _ _ => rfl
  have hsp := drop_rows hf (k + 1)
  have hnews : ((l.drop (k + 1)).flatMap cFile).length = (n - (k + 1)) * 3 := by rw [flatMap_length (f := cFile) (s := 3) (fun _ _ => rfl), List.length_drop, hnl]
  have hsrc : ∀ (i : Nat) (v : Value), ((l.drop (k + 1)).flatMap cFile)[i]? = some v → (l.flatMap cFile ++ J)[(k + 1) * 3 + i]? = some v := by
    intro i v hj
    rw [← hsp, List.getElem?_drop] at hj
    rw [List.getElem?_append_left (List.getElem?_eq_some_iff.1 hj).1]
    exact hj
  have hone : ∀ v ∈ (l.drop (k + 1)).flatMap cFile, v.oneCell' = true := by intro v hv; obtain ⟨y, _, hy⟩ := List.mem_flatMap.1 hv; exact cFile_one y v hy
  have htake := take_rows2 hf (Nat.le_of_lt hk) J
  have hlen : (l.take k ++ l.drop (k + 1)).length = n - 1 := by rw [List.length_append, List.length_take, List.length_drop]; omega
  rw [show (k : Int) + 1 = ((k + 1 : Nat) : Int) from by omega]
  refine (delFile_core g n c k (k + 1) (n - (k + 1)) (n - 1) _ _ w hbk hnews hsrc hone hbl rfl (by omega) (by omega) hnc hc).mono ?_
  rintro e w' ⟨rfl, h⟩
  obtain ⟨cur', hb', hl', ht', hg'⟩ := h.out
  refine ⟨rfl, Lib.hid ⟨?_, hg'⟩⟩
  have hlt : ((l.take k).flatMap cFile).length = k * 3 := by rw [flatMap_length (f := cFile) (s := 3) (fun _ _ => rfl), List.length_take, Nat.min_eq_left (by omega)]
  have hpre : cur'.take ((n - 1) * 3) = (l.take k ++ l.drop (k + 1)).flatMap cFile := by
    rw [ht']
    unfold splice
    rw [htake, List.flatMap_append]
    have e : (n - 1) * 3 = ((l.take k).flatMap cFile ++ (l.drop (k + 1)).flatMap cFile).length := by rw [List.length_append, hlt, hnews]; omega
    rw [e, ← List.append_assoc, List.take_left]
  have hcur : cur' = (l.take k ++ l.drop (k + 1)).flatMap cFile ++ cur'.drop ((n - 1) * 3) := by rw [← hpre, List.take_append_drop]
  have := Ow.of_blk (f := cFile) (s := 3) (B := B) (fun _ _ => rfl) hBg hb' hcur (by rw [hl']; exact hbl) (by rw [hlen]; omega) hcm
  rw [hlen] at this
  exact this
end Go.Proofs.YtkoemhdchoicaaaDoor

/- made by geninst.py from XT3.src -/
namespace Go.Proofs.YtkoemhdchoicaaaDoor
open Go.RowKit
theorem cmpFile (x : File) (p : ByteArray) (w : World) :
    Calls Tryd.prog 58 #[.agg #[.string x.name, .string x.safe, .string x.tail], .string p] w fun e w' => e = .returned (.int .i64 (cmpB x.name p)) ∧ Below w.heap.size w w' := by
  go_enter Tryd.func58, Tryd.ntmps58
  go_wp2_with (go_at_call 59; refine (Tryd.strings_Compare _ _ _).mono ?_; rintro e w1 ⟨rfl, rfl⟩)
  go_ret
  exact ⟨rfl, (by repeat (first | exact Below.refl _ _ | assumption | refine Below.drew ?_ | refine Below.drewN' ?_ _ | refine below_grow0 _ _ ?_ | refine below_alloc0 _ ?_ | refine Below.alloc ?_ (by first | omega | (simp; done) | (simp; omega)) _ | refine Below.setCell ?_ (by first | omega | (simp; done) | (simp; omega)) _ | refine Below.grow _ _ _ ?_ (by first | omega | (simp; done) | (simp; omega))))⟩

set_option maxHeartbeats 1000000 in
theorem bsfFile (v : Value) (l : List File) (p : ByteArray) (w : World) (h : Sl cFile 3 w v l) (hn : l.length ≤ 140737488355328) :
    Calls Tryd.prog 57 #[v, .string p, .func (.func 58) #[] #[]] w fun e w' => e = .returned (.tuple #[.int .i64 (posK (l.map File.name) p), .bool (isK (l.map File.name) p)]) ∧ Below w.heap.size w w' := by
  obtain ⟨A, c, rfl, hc1, hc2⟩ := h.form
  have H := Lib.hid h
  clear h
  go_enter Tryd.func57, Tryd.ntmps57
  go_wp2
  go_loopw [9, 10] (fun i j wr => ∃ (a b : Nat), a ≤ b ∧ b ≤ l.length ∧ i = .int .i64 a ∧ j = .int .i64 b ∧ Hid (bsr (ltK (l.map File.name) p) a b = posK (l.map File.name) p) ∧ Below w.heap.size w wr) (fun i j _ => (intOf j - intOf i).toNat)
  case atStart => exact ⟨0, l.length, Nat.zero_le _, Nat.le_refl _, rfl, rfl, (by simp [posK] : bsr (ltK (l.map File.name) p) 0 l.length = posK (l.map File.name) p), Below.refl _ _⟩
  case round =>
    obtain ⟨a, b, hab, hbl, rfl, rfl, hr, hb⟩ := hrel
    by_cases hlt : a < b
    · have hx : l[(a + b) / 2]? = some (l[(a + b) / 2]'(by omega)) := List.getElem?_eq_getElem _
      obtain ⟨bk, off, rfl, hbw, c0, c1, c2⟩ := (H.out.below hb).File_at hx
      generalize hxe : l[(a + b) / 2]'(by omega) = x at hx c0 c1 c2
      have HX := Lib.hid hx
      clear hx hxe
      go_wp2_with (go_at_call 58; refine (cmpFile _ _ _).mono ?_; rintro e w1 ⟨rfl, hb1⟩; obtain ⟨ext1, d1, rfl⟩ := Below.grown_eq _ hb1)
      all_goals
        have hcmp := ltK_of (g := File.name) HX.out p
        go_roundw
      case rel =>
        have hlt2 : cmpB x.name p < 0 := by assumption
        exact ⟨(a + b) / 2 + 1, b, by omega, by omega, by go_num, rfl, Eq.trans (bsr_up _ _ _ hlt (by rw [hcmp]; simpa using hlt2)).symm hr.out, (by repeat (first | exact Below.refl _ _ | assumption | refine Below.drew ?_ | refine Below.drewN' ?_ _ | refine below_grow0 _ _ ?_ | refine below_alloc0 _ ?_ | refine Below.alloc ?_ (by first | omega | (simp; done) | (simp; omega)) _ | refine Below.setCell ?_ (by first | omega | (simp; done) | (simp; omega)) _ | refine Below.grow _ _ _ ?_ (by first | omega | (simp; done) | (simp; omega))))⟩
      case measure => simp [intOf]; omega
      case rel =>
        have hge2 : 0 ≤ cmpB x.name p := by assumption
        exact ⟨a, (a + b) / 2, by omega, by omega, rfl, by go_num, Eq.trans (bsr_down _ _ _ hlt (by rw [hcmp]; simpa using hge2)).symm hr.out, (by repeat (first | exact Below.refl _ _ | assumption | refine Below.drew ?_ | refine Below.drewN' ?_ _ | refine below_grow0 _ _ ?_ | refine below_alloc0 _ ?_ | refine Below.alloc ?_ (by first | omega | (simp; done) | (simp; omega)) _ | refine Below.setCell ?_ (by first | omega | (simp; done) | (simp; omega)) _ | refine Below.grow _ _ _ ?_ (by first | omega | (simp; done) | (simp; omega))))⟩
      case measure => simp [intOf]; omega
    · obtain rfl : a = b := by omega
      have hpos : posK (l.map File.name) p = a := by rw [← hr.out]; exact bsr_end _ _ _ hlt
      have HP := Lib.hid hpos
      clear hpos hr
      by_cases han : a < l.length
      · have hx : l[a]? = some (l[a]'(by omega)) := List.getElem?_eq_getElem _
        obtain ⟨bk, off, rfl, hbw, c0, c1, c2⟩ := (H.out.below hb).File_at hx
        generalize hxe : l[a]'(by omega) = x at hx c0 c1 c2
        have HX := Lib.hid hx
        clear hx hxe
        go_wp2_with (go_at_call 58; refine (cmpFile _ _ _).mono ?_; rintro e w1 ⟨rfl, hb1⟩; obtain ⟨ext1, d1, rfl⟩ := Below.grown_eq _ hb1)
        go_ret2
        refine ⟨?_, (by repeat (first | exact Below.refl _ _ | assumption | refine Below.drew ?_ | refine Below.drewN' ?_ _ | refine below_grow0 _ _ ?_ | refine below_alloc0 _ ?_ | refine Below.alloc ?_ (by first | omega | (simp; done) | (simp; omega)) _ | refine Below.setCell ?_ (by first | omega | (simp; done) | (simp; omega)) _ | refine Below.grow _ _ _ ?_ (by first | omega | (simp; done) | (simp; omega))))⟩
        rw [isK_in HP.out HX.out, HP.out]
        rfl
      · go_wp2
        go_ret2
        refine ⟨?_, (by repeat (first | exact Below.refl _ _ | assumption | refine Below.drew ?_ | refine Below.drewN' ?_ _ | refine below_grow0 _ _ ?_ | refine below_alloc0 _ ?_ | refine Below.alloc ?_ (by first | omega | (simp; done) | (simp; omega)) _ | refine Below.setCell ?_ (by first | omega | (simp; done) | (simp; omega)) _ | refine Below.grow _ _ _ ?_ (by first | omega | (simp; done) | (simp; omega))))⟩
        rw [isK_out HP.out han, HP.out]
        rfl
end Go.Proofs.YtkoemhdchoicaaaDoor

/- package disk: find, copied, Good. -/
namespace Go.Proofs.YtkoemhdchoicaaaDoor
open Go.RowKit Go.ChangeShapes Go.WideShapes Go.ChangeAt
theorem dkFind (v : Value) (l : List File) (p : ByteArray) (w : World) (h : Sl cFile 3 w v l) (hn : l.length ≤ 140737488355328) :
    Calls Tryd.prog 44 #[.agg #[v], .string p] w fun e w' => e = .returned (.tuple #[.int .i64 (posK (l.map File.name) p), .bool (isK (l.map File.name) p)]) ∧ Below w.heap.size w w' := by
  obtain ⟨A, c, rfl, h1, h2⟩ := h.form
  have H := Lib.hid h
  clear h
  go_enter Tryd.func44, Tryd.ntmps44
  go_wp2_with (go_at_call 57; refine (bsfFile _ _ _ _ (H.out.alloc _) hn).mono ?_; rintro e w1 ⟨rfl, hb⟩; obtain ⟨ext, d, rfl⟩ := Below.grown_eq _ hb)
  go_ret2
  exact ⟨rfl, (by repeat (first | exact Below.refl _ _ | assumption | refine Below.drew ?_ | refine Below.drewN' ?_ _ | refine below_grow0 _ _ ?_ | refine below_alloc0 _ ?_ | refine Below.alloc ?_ (by first | omega | (simp; done) | (simp; omega)) _ | refine Below.setCell ?_ (by first | omega | (simp; done) | (simp; omega)) _ | refine Below.grow _ _ _ ?_ (by first | omega | (simp; done) | (simp; omega))))⟩
/-- a disk of the call's own -/
def DkIs (l : List File) (w : World) (e : Ending) (w' : World) : Prop := ∃ A c, e = .returned (.agg #[.slice A l.length c]) ∧ Ow cFile 3 70 w' w.heap.size (.slice A l.length c) l ∧ Below w.heap.size w w'
set_option maxHeartbeats 400000 in
theorem dkCopied (v : Value) (l : List File) (w : World) (h : Sl cFile 3 w v l) (hn : l.length * 48 ≤ 140737488355328) (hm : l.length ≤ maxLen) :
    Calls Tryd.prog 29 #[.agg #[v]] w (DkIs l w) := by
  obtain ⟨A, c, rfl, h1, h2⟩ := h.form
  have H := Lib.hid h
  clear h
  go_enter Tryd.func29, Tryd.ntmps29
  go_wp2_with (go_at_call 43; refine (cloneFile _ _ _ ((H.out.alloc _).alloc _) hn hm).mono ?_; rintro e w1 ⟨A', c', rfl, hown, hb⟩; obtain ⟨ext, d, rfl⟩ := Below.grown_eq _ hb)
  refine bodyPost_ret (v := .agg #[.slice A' l.length c']) (by simp [results, Tryd.results29, go_sem]) rfl ⟨A', c', rfl, ?_, ?_⟩
  · exact (hown.regrow (Nat.le_refl _) (by simp)).mono (by simp; omega)
  · exact (by repeat (first | exact Below.refl _ _ | assumption | refine Below.drew ?_ | refine Below.drewN' ?_ _ | refine below_grow0 _ _ ?_ | refine below_alloc0 _ ?_ | refine Below.alloc ?_ (by first | omega | (simp; done) | (simp; omega)) _ | refine Below.setCell ?_ (by first | omega | (simp; done) | (simp; omega)) _ | refine Below.grow _ _ _ ?_ (by first | omega | (simp; done) | (simp; omega))))
theorem not_less_of_cmp {a b : ByteArray} (h : ¬ cmpB a b < 0) : Op.bytesLess a.toList b.toList = false := by
  rw [ByteArray.toList_eq, ByteArray.toList_eq, less_of_cb]
  exact decide_eq_false h
theorem retB {a b : Bool} (h : a = b) : Ending.returned (.bool a) = Ending.returned (.bool b) := by rw [h]
def okF (x : File) : Bool := named (bs x.name) && decide (x.safe.size + x.tail.size ≤ 1048576)
def stepF (l : List File) (i : Nat) : Bool := match l[i]? with
  | none => true
  | some x => okF x && (match i with | 0 => true | j + 1 => match l[j]? with | some y => decide (cmpB y.name x.name < 0) | none => true)
def goodD (l : List File) : Bool := decide (l.length ≤ 16) && (List.range l.length).all (stepF l)
theorem goodD_no {l : List File} {i : Nat} (h : stepF l i = false) : goodD l = false := by
  have hi : i < l.length := by
    apply Classical.byContradiction
    intro hn
    unfold stepF at h
    rw [List.getElem?_eq_none (by omega)] at h
    cases h
  unfold goodD
  rw [Bool.and_eq_false_iff]
  refine .inr ?_
  rw [List.all_eq_false]
  exact ⟨i, List.mem_range.2 hi, by simp [h]⟩
theorem goodD_yes {l : List File} (h : ∀ i, i < l.length → stepF l i = true) (h16 : l.length ≤ 16) : goodD l = true := by
  unfold goodD
  rw [Bool.and_eq_true, List.all_eq_true]
  exact ⟨decide_eq_true h16, fun i hi => h i (List.mem_range.1 hi)⟩
def File.sized (x : File) : Prop := x.name.size ≤ 9223372036854775807 ∧ x.safe.size ≤ 140737488355328 ∧ x.tail.size ≤ 140737488355328
set_option maxHeartbeats 2000000 in
theorem dkGood (v : Value) (l : List File) (w : World) (h : Sl cFile 3 w v l) (hz : ∀ x ∈ l, x.sized) :
    Calls Tryd.prog 28 #[.agg #[v]] w fun e w' => e = .returned (.bool (goodD l)) ∧ Below w.heap.size w w' := by
  obtain ⟨A, c, rfl, hc1, hc2⟩ := h.form
  have H := Lib.hid h
  have HZ := Lib.hid hz
  clear h hz
  by_cases h16 : l.length ≤ 16
  · have h16i : (decide ((16 : Int) < (l.length : Int))) = false := decide_eq_false (by omega)
    go_enter Tryd.func28, Tryd.ntmps28
    go_wp2_with fail
    go_loopw [12] (fun i wr => ∃ (k : Nat) (ext : Array Obj) (d : Nat), k ≤ l.length ∧ i = .int .i64 k ∧ wr = grow (w.alloc (.cells #[.slice A l.length c] 26)) ext d ∧ Hid (∀ j, j < k → stepF l j = true)) (fun i _ => l.length - (intOf i).toNat)
    case atStart => exact ⟨0, _, _, Nat.zero_le _, rfl, grown_of (by repeat (first | exact Below.refl _ _ | assumption | refine Below.drew ?_ | refine Below.drewN' ?_ _ | refine below_grow0 _ _ ?_ | refine below_alloc0 _ ?_ | refine Below.alloc ?_ (by first | omega | (simp; done) | (simp; omega)) _ | refine Below.setCell ?_ (by first | omega | (simp; done) | (simp; omega)) _ | refine Below.grow _ _ _ ?_ (by first | omega | (simp; done) | (simp; omega)))), Lib.hid (fun j hj => absurd hj (by omega))⟩
    case round =>
      obtain ⟨k, ext, d, hk, rfl, rfl, hok⟩ := hrel
      by_cases hlt : k < l.length
      · have hx : l[k]? = some (l[k]'hlt) := List.getElem?_eq_getElem _
        obtain ⟨b, off, rfl, hbw, x0, x1, x2⟩ := H.out.File_at hx
        have hzx := HZ.out _ (List.mem_of_getElem? hx)
        generalize l[k]'hlt = x at *
        have HX := Lib.hid hx
        clear hx
        obtain ⟨z0, z1, z2⟩ := hzx
        have HN := Lib.hid (fun (W : World) => named_any x.name W z0)
        generalize hnm : named (bs x.name) = nm at HN
        have HNM := Lib.hid hnm
        clear hnm
        go_wp2_with fail
        cases nm with
        | false =>
          go_quiet (first | (go_at_call 42; with_reducible refine Calls.quiet_of_same ((HN.out _).mono fun e w' h => ⟨h.1, h.2.symm⟩)))
          go_wp2_with fail
          go_ret
          exact ⟨retB (goodD_no (i := k) (by unfold stepF; rw [HX.out]; simp [okF, HNM.out])).symm, (by repeat (first | exact Below.refl _ _ | assumption | refine Below.drew ?_ | refine Below.drewN' ?_ _ | refine below_grow0 _ _ ?_ | refine below_alloc0 _ ?_ | refine Below.alloc ?_ (by first | omega | (simp; done) | (simp; omega)) _ | refine Below.setCell ?_ (by first | omega | (simp; done) | (simp; omega)) _ | refine Below.grow _ _ _ ?_ (by first | omega | (simp; done) | (simp; omega))))⟩
        | true =>
          by_cases hsz : x.safe.size + x.tail.size ≤ 1048576
          · have hszi : (decide ((1048576 : Int) < (x.safe.size : Int) + (x.tail.size : Int))) = false := decide_eq_false (by omega)
            have hokx : okF x = true := by simp [okF, HNM.out, hsz]
            have HOK := Lib.hid hokx
            clear hokx
            cases k with
            | zero =>
              go_quiet (first | (go_at_call 42; with_reducible refine Calls.quiet_of_same ((HN.out _).mono fun e w' h => ⟨h.1, h.2.symm⟩)))
              go_wp2_with fail
              go_roundw
              case rel => exact ⟨0 + 1, _, _, by omega, by go_num, grown_of (by repeat (first | exact Below.refl _ _ | assumption | refine Below.drew ?_ | refine Below.drewN' ?_ _ | refine below_grow0 _ _ ?_ | refine below_alloc0 _ ?_ | refine Below.alloc ?_ (by first | omega | (simp; done) | (simp; omega)) _ | refine Below.setCell ?_ (by first | omega | (simp; done) | (simp; omega)) _ | refine Below.grow _ _ _ ?_ (by first | omega | (simp; done) | (simp; omega)))), Lib.hid (fun i hi => by
                rcases Nat.lt_or_ge i (0) with h | h
                · exact hok.out i h
                · obtain rfl : i = 0 := by omega
                  unfold stepF; rw [HX.out]; simp [HOK.out])⟩
              case measure => simp [intOf]; omega
            | succ j =>
              have hy : l[j]? = some (l[j]'(by omega)) := List.getElem?_eq_getElem _
              obtain ⟨b2, off2, hA2, _, y0, y1, y2⟩ := H.out.File_at hy
              injection hA2 with hA2
              injection hA2 with e1 e2 _
              subst e1
              subst e2
              generalize l[j]'(by omega) = y at *
              have HY := Lib.hid hy
              clear hy
              have hcmp := less_of_cb (bs3 y.name) (bs3 x.name)
              by_cases hlt2 : cmpB y.name x.name < 0
              · have HLT := Lib.hid hlt2
                have hls := less_of_cmp hlt2
                clear hlt2 hcmp
                go_quiet (first | (go_at_call 42; with_reducible refine Calls.quiet_of_same ((HN.out _).mono fun e w' h => ⟨h.1, h.2.symm⟩)))
                go_wp2_with fail
                go_roundw
                case rel => exact ⟨j + 1 + 1, _, _, by omega, by go_num, grown_of (by repeat (first | exact Below.refl _ _ | assumption | refine Below.drew ?_ | refine Below.drewN' ?_ _ | refine below_grow0 _ _ ?_ | refine below_alloc0 _ ?_ | refine Below.alloc ?_ (by first | omega | (simp; done) | (simp; omega)) _ | refine Below.setCell ?_ (by first | omega | (simp; done) | (simp; omega)) _ | refine Below.grow _ _ _ ?_ (by first | omega | (simp; done) | (simp; omega)))), Lib.hid (fun i hi => by
                  rcases Nat.lt_or_ge i (j + 1) with h | h
                  · exact hok.out i h
                  · obtain rfl : i = j + 1 := by omega
                    unfold stepF; rw [HX.out]; simp [HOK.out, HY.out, HLT.out])⟩
                case measure => simp [intOf]; omega
              · have HLT := Lib.hid hlt2
                have hls : Op.bytesLess y.name.toList x.name.toList = false := not_less_of_cmp hlt2
                clear hlt2 hcmp
                go_quiet (first | (go_at_call 42; with_reducible refine Calls.quiet_of_same ((HN.out _).mono fun e w' h => ⟨h.1, h.2.symm⟩)))
                go_wp2_with fail
                go_ret
                exact ⟨retB (goodD_no (i := j + 1) (by unfold stepF; rw [HX.out]; simp [HOK.out, HY.out]; have := HLT.out; omega)).symm, (by repeat (first | exact Below.refl _ _ | assumption | refine Below.drew ?_ | refine Below.drewN' ?_ _ | refine below_grow0 _ _ ?_ | refine below_alloc0 _ ?_ | refine Below.alloc ?_ (by first | omega | (simp; done) | (simp; omega)) _ | refine Below.setCell ?_ (by first | omega | (simp; done) | (simp; omega)) _ | refine Below.grow _ _ _ ?_ (by first | omega | (simp; done) | (simp; omega))))⟩
          · have hszi : (decide ((1048576 : Int) < (x.safe.size : Int) + (x.tail.size : Int))) = true := decide_eq_true (by omega)
            have hokx : okF x = false := by simp [okF, HNM.out, hsz]
            have HOK := Lib.hid hokx
            clear hokx
            cases k with
            | zero =>
              go_quiet (first | (go_at_call 42; with_reducible refine Calls.quiet_of_same ((HN.out _).mono fun e w' h => ⟨h.1, h.2.symm⟩)))
              go_wp2_with fail
              go_ret
              exact ⟨retB (goodD_no (i := 0) (by unfold stepF; rw [HX.out]; simp [HOK.out])).symm, (by repeat (first | exact Below.refl _ _ | assumption | refine Below.drew ?_ | refine Below.drewN' ?_ _ | refine below_grow0 _ _ ?_ | refine below_alloc0 _ ?_ | refine Below.alloc ?_ (by first | omega | (simp; done) | (simp; omega)) _ | refine Below.setCell ?_ (by first | omega | (simp; done) | (simp; omega)) _ | refine Below.grow _ _ _ ?_ (by first | omega | (simp; done) | (simp; omega))))⟩
            | succ j =>
              have hy : l[j]? = some (l[j]'(by omega)) := List.getElem?_eq_getElem _
              obtain ⟨b2, off2, hA2, _, y0, y1, y2⟩ := H.out.File_at hy
              injection hA2 with hA2
              injection hA2 with e1 e2 _
              subst e1
              subst e2
              generalize l[j]'(by omega) = y at *
              clear hy
              by_cases hlt2 : cmpB y.name x.name < 0
              · have hls := less_of_cmp hlt2
                clear hlt2
                go_quiet (first | (go_at_call 42; with_reducible refine Calls.quiet_of_same ((HN.out _).mono fun e w' h => ⟨h.1, h.2.symm⟩)))
                go_wp2_with fail
                go_ret
                exact ⟨retB (goodD_no (i := j + 1) (by unfold stepF; rw [HX.out]; simp [HOK.out])).symm, (by repeat (first | exact Below.refl _ _ | assumption | refine Below.drew ?_ | refine Below.drewN' ?_ _ | refine below_grow0 _ _ ?_ | refine below_alloc0 _ ?_ | refine Below.alloc ?_ (by first | omega | (simp; done) | (simp; omega)) _ | refine Below.setCell ?_ (by first | omega | (simp; done) | (simp; omega)) _ | refine Below.grow _ _ _ ?_ (by first | omega | (simp; done) | (simp; omega))))⟩
              · have hls : Op.bytesLess y.name.toList x.name.toList = false := not_less_of_cmp hlt2
                clear hlt2
                go_quiet (first | (go_at_call 42; with_reducible refine Calls.quiet_of_same ((HN.out _).mono fun e w' h => ⟨h.1, h.2.symm⟩)))
                go_wp2_with fail
                go_ret
                exact ⟨retB (goodD_no (i := j + 1) (by unfold stepF; rw [HX.out]; simp [HOK.out])).symm, (by repeat (first | exact Below.refl _ _ | assumption | refine Below.drew ?_ | refine Below.drewN' ?_ _ | refine below_grow0 _ _ ?_ | refine below_alloc0 _ ?_ | refine Below.alloc ?_ (by first | omega | (simp; done) | (simp; omega)) _ | refine Below.setCell ?_ (by first | omega | (simp; done) | (simp; omega)) _ | refine Below.grow _ _ _ ?_ (by first | omega | (simp; done) | (simp; omega))))⟩
      · go_wp2_with fail
        go_ret
        exact ⟨retB (goodD_yes (fun i hi => hok.out i (by omega)) h16).symm, (by repeat (first | exact Below.refl _ _ | assumption | refine Below.drew ?_ | refine Below.drewN' ?_ _ | refine below_grow0 _ _ ?_ | refine below_alloc0 _ ?_ | refine Below.alloc ?_ (by first | omega | (simp; done) | (simp; omega)) _ | refine Below.setCell ?_ (by first | omega | (simp; done) | (simp; omega)) _ | refine Below.grow _ _ _ ?_ (by first | omega | (simp; done) | (simp; omega))))⟩
  · have hg : goodD l = false := by unfold goodD; rw [decide_eq_false h16]; rfl
    have h16i : (decide ((16 : Int) < (l.length : Int))) = true := decide_eq_true (by omega)
    rw [hg]
    go_enter Tryd.func28, Tryd.ntmps28
    go_wp2_with fail
    go_ret
    exact ⟨rfl, (by repeat (first | exact Below.refl _ _ | assumption | refine Below.drew ?_ | refine Below.drewN' ?_ _ | refine below_grow0 _ _ ?_ | refine below_alloc0 _ ?_ | refine Below.alloc ?_ (by first | omega | (simp; done) | (simp; omega)) _ | refine Below.setCell ?_ (by first | omega | (simp; done) | (simp; omega)) _ | refine Below.grow _ _ _ ?_ (by first | omega | (simp; done) | (simp; omega))))⟩
end Go.Proofs.YtkoemhdchoicaaaDoor

/- package disk: Read. -/
namespace Go.Proofs.YtkoemhdchoicaaaDoor
open Go.RowKit Go.ChangeShapes Go.WideShapes Go.ChangeAt
def fileAt (l : List File) (p : ByteArray) : File := l.getD (posK (l.map File.name) p) ⟨ByteArray.empty, ByteArray.empty, ByteArray.empty⟩
def readE (l : List File) (p : ByteArray) : Int := if goodD l then (if isK (l.map File.name) p then 0 else 7) else 3
def readS (l : List File) (p : ByteArray) : ByteArray := if goodD l && isK (l.map File.name) p then (fileAt l p).safe ++ (fileAt l p).tail else ⟨#[]⟩
theorem isK_in_file {l : List File} {p : ByteArray} (h : isK (l.map File.name) p = true) : posK (l.map File.name) p < l.length := by
  unfold isK at h
  simp at h
  exact h.1
theorem goodD_len {l : List File} (h : goodD l = true) : l.length ≤ 16 := by
  unfold goodD at h
  simp at h
  exact h.1
set_option maxHeartbeats 1000000 in
theorem dkRead (v : Value) (l : List File) (p : ByteArray) (w : World) (h : Sl cFile 3 w v l) (hz : ∀ x ∈ l, x.sized) :
    Calls Tryd.prog 30 #[.agg #[v], .string p] w fun e w' => e = .returned (.tuple #[.string (readS l p), .int .i64 (readE l p)]) ∧ Below w.heap.size w w' := by
  obtain ⟨A, c, rfl, hc1, hc2⟩ := h.form
  have H := Lib.hid h
  have HG := Lib.hid (fun (W : World) (hs : Sl cFile 3 W (.slice A l.length c) l) => dkGood _ l W hs hz)
  unfold readS readE
  cases hg : goodD l with
  | false =>
    rw [hg] at HG
    clear h hz hg
    simp only [Bool.false_and, Bool.false_eq_true, if_false]
    go_enter Tryd.func30, Tryd.ntmps30
    go_wp2_with (first | (go_at_call 28; refine (HG.out _ (H.out.alloc _)).mono ?_; rintro e w1 ⟨rfl, hb⟩; obtain ⟨ext, d, rfl⟩ := Below.grown_eq _ hb; clear hb))
    go_ret2
    exact ⟨rfl, (by repeat (first | exact Below.refl _ _ | assumption | refine Below.drew ?_ | refine Below.drewN' ?_ _ | refine below_grow0 _ _ ?_ | refine below_alloc0 _ ?_ | refine Below.alloc ?_ (by first | omega | (simp; done) | (simp; omega)) _ | refine Below.setCell ?_ (by first | omega | (simp; done) | (simp; omega)) _ | refine Below.grow _ _ _ ?_ (by first | omega | (simp; done) | (simp; omega))))⟩
  | true =>
    rw [hg] at HG
    have hl16 := goodD_len hg
    have hfind := fun (W : World) (v : Value) (hs : Sl cFile 3 W v l) => dkFind v l p W hs (by omega)
    clear hg
    simp only [Bool.true_and, if_true]
    cases hk : isK (l.map File.name) p with
    | false =>
      rw [hk] at hfind
      have HF := Lib.hid hfind
      generalize posK (l.map File.name) p = q at *
      clear h hz hk hfind
      simp only [Bool.false_eq_true, if_false]
      go_enter Tryd.func30, Tryd.ntmps30
      go_wp2_with (first | (go_at_call 28; refine (HG.out _ (H.out.alloc _)).mono ?_; rintro e w1 ⟨rfl, hb⟩; obtain ⟨ext, d, rfl⟩ := Below.grown_eq _ hb; clear hb) | (go_at_call 44; refine (HF.out _ _ (H.out.below (by repeat (first | exact Below.refl _ _ | assumption | refine Below.drew ?_ | refine Below.drewN' ?_ _ | refine below_grow0 _ _ ?_ | refine below_alloc0 _ ?_ | refine Below.alloc ?_ (by first | omega | (simp; done) | (simp; omega)) _ | refine Below.setCell ?_ (by first | omega | (simp; done) | (simp; omega)) _ | refine Below.grow _ _ _ ?_ (by first | omega | (simp; done) | (simp; omega)))))).mono ?_; rintro e w1 ⟨rfl, hb⟩; obtain ⟨ext2, d2, rfl⟩ := Below.grown_eq _ hb; clear hb))
      go_ret2
      exact ⟨rfl, (by repeat (first | exact Below.refl _ _ | assumption | refine Below.drew ?_ | refine Below.drewN' ?_ _ | refine below_grow0 _ _ ?_ | refine below_alloc0 _ ?_ | refine Below.alloc ?_ (by first | omega | (simp; done) | (simp; omega)) _ | refine Below.setCell ?_ (by first | omega | (simp; done) | (simp; omega)) _ | refine Below.grow _ _ _ ?_ (by first | omega | (simp; done) | (simp; omega))))⟩
    | true =>
      rw [hk] at hfind
      have HF := Lib.hid hfind
      have hq := isK_in_file hk
      have hx : l[posK (l.map File.name) p]? = some (fileAt l p) := by
        unfold fileAt
        rw [List.getD_eq_getElem?_getD, List.getElem?_eq_getElem hq]
        rfl
      obtain ⟨z0, z1, z2⟩ := hz _ (List.mem_of_getElem? hx)
      obtain ⟨b, off, rfl, hbw, x0, x1, x2⟩ := H.out.File_at hx
      generalize fileAt l p = x at *
      generalize posK (l.map File.name) p = q at *
      clear h hz hk hfind hx
      simp only [if_true]
      go_enter Tryd.func30, Tryd.ntmps30
      go_wp2_with (first | (go_at_call 28; refine (HG.out _ (H.out.alloc _)).mono ?_; rintro e w1 ⟨rfl, hb⟩; obtain ⟨ext, d, rfl⟩ := Below.grown_eq _ hb; clear hb) | (go_at_call 44; refine (HF.out _ _ (H.out.below (by repeat (first | exact Below.refl _ _ | assumption | refine Below.drew ?_ | refine Below.drewN' ?_ _ | refine below_grow0 _ _ ?_ | refine below_alloc0 _ ?_ | refine Below.alloc ?_ (by first | omega | (simp; done) | (simp; omega)) _ | refine Below.setCell ?_ (by first | omega | (simp; done) | (simp; omega)) _ | refine Below.grow _ _ _ ?_ (by first | omega | (simp; done) | (simp; omega)))))).mono ?_; rintro e w1 ⟨rfl, hb⟩; obtain ⟨ext2, d2, rfl⟩ := Below.grown_eq _ hb; clear hb))
      go_quiet (fail)
      go_wp2_with fail
      go_ret2
      exact ⟨rfl, (by repeat (first | exact Below.refl _ _ | assumption | refine Below.drew ?_ | refine Below.drewN' ?_ _ | refine below_grow0 _ _ ?_ | refine below_alloc0 _ ?_ | refine Below.alloc ?_ (by first | omega | (simp; done) | (simp; omega)) _ | refine Below.setCell ?_ (by first | omega | (simp; done) | (simp; omega)) _ | refine Below.grow _ _ _ ?_ (by first | omega | (simp; done) | (simp; omega))))⟩
/-- a disk and an error's number -/
def DkRes (l : List File) (c : Int) (w : World) (e : Ending) (w' : World) : Prop := ∃ A k, e = .returned (.tuple #[.agg #[.slice A l.length k], .int .i64 c]) ∧ Ow cFile 3 70 w' w.heap.size (.slice A l.length k) l ∧ Below w.heap.size w w'
def removeL (l : List File) (p : ByteArray) : List File := if goodD l && isK (l.map File.name) p then l.take (posK (l.map File.name) p) ++ l.drop (posK (l.map File.name) p + 1) else []
set_option maxHeartbeats 2000000 in
theorem dkRemove (v : Value) (l : List File) (p : ByteArray) (w : World) (h : Sl cFile 3 w v l) (hz : ∀ x ∈ l, x.sized) :
    Calls Tryd.prog 41 #[.agg #[v], .string p] w (DkRes (removeL l p) (readE l p) w) := by
  obtain ⟨A, c, rfl, hc1, hc2⟩ := h.form
  have H := Lib.hid h
  have HG := Lib.hid (fun (W : World) (hs : Sl cFile 3 W (.slice A l.length c) l) => dkGood _ l W hs hz)
  unfold removeL readE
  cases hg : goodD l with
  | false =>
    rw [hg] at HG
    clear h hz hg
    simp only [Bool.false_and, Bool.false_eq_true, if_false]
    go_enter Tryd.func41, Tryd.ntmps41
    go_wp2_with
      (first | (go_at_call 28; refine (HG.out _ (H.out.below (by repeat (first | exact Below.refl _ _ | assumption | refine Below.drew ?_ | refine Below.drewN' ?_ _ | refine below_grow0 _ _ ?_ | refine below_alloc0 _ ?_ | refine Below.alloc ?_ (by first | omega | (simp; done) | (simp; omega)) _ | refine Below.setCell ?_ (by first | omega | (simp; done) | (simp; omega)) _ | refine Below.grow _ _ _ ?_ (by first | omega | (simp; done) | (simp; omega)))))).mono ?_; rintro e w1 ⟨rfl, hb⟩; obtain ⟨ext, d, rfl⟩ := Below.grown_eq _ hb; clear hb) | (go_at_call 44; refine (HF.out _ _ (H.out.below (by repeat (first | exact Below.refl _ _ | assumption | refine Below.drew ?_ | refine Below.drewN' ?_ _ | refine below_grow0 _ _ ?_ | refine below_alloc0 _ ?_ | refine Below.alloc ?_ (by first | omega | (simp; done) | (simp; omega)) _ | refine Below.setCell ?_ (by first | omega | (simp; done) | (simp; omega)) _ | refine Below.grow _ _ _ ?_ (by first | omega | (simp; done) | (simp; omega)))))).mono ?_; rintro e w1 ⟨rfl, hb⟩; obtain ⟨ext2, d2, rfl⟩ := Below.grown_eq _ hb; clear hb))
    refine bodyPost_ret (v := .tuple #[.agg #[.slice none 0 0], .int .i64 3]) (by simp [results, Tryd.results41, go_sem]) rfl ⟨none, 0, rfl, Ow.nil _ _ _ _ _, (by repeat (first | exact Below.refl _ _ | assumption | refine Below.drew ?_ | refine Below.drewN' ?_ _ | refine below_grow0 _ _ ?_ | refine below_alloc0 _ ?_ | refine Below.alloc ?_ (by first | omega | (simp; done) | (simp; omega)) _ | refine Below.setCell ?_ (by first | omega | (simp; done) | (simp; omega)) _ | refine Below.grow _ _ _ ?_ (by first | omega | (simp; done) | (simp; omega))))⟩
  | true =>
    rw [hg] at HG
    have hl16 := goodD_len hg
    have hfind := fun (W : World) (v : Value) (hs : Sl cFile 3 W v l) => dkFind v l p W hs (by omega)
    clear hg
    simp only [Bool.true_and, if_true]
    cases hk : isK (l.map File.name) p with
    | false =>
      rw [hk] at hfind
      have HF := Lib.hid hfind
      generalize posK (l.map File.name) p = q at *
      clear h hz hk hfind
      simp only [Bool.false_eq_true, if_false]
      go_enter Tryd.func41, Tryd.ntmps41
      go_wp2_with
        (first | (go_at_call 28; refine (HG.out _ (H.out.below (by repeat (first | exact Below.refl _ _ | assumption | refine Below.drew ?_ | refine Below.drewN' ?_ _ | refine below_grow0 _ _ ?_ | refine below_alloc0 _ ?_ | refine Below.alloc ?_ (by first | omega | (simp; done) | (simp; omega)) _ | refine Below.setCell ?_ (by first | omega | (simp; done) | (simp; omega)) _ | refine Below.grow _ _ _ ?_ (by first | omega | (simp; done) | (simp; omega)))))).mono ?_; rintro e w1 ⟨rfl, hb⟩; obtain ⟨ext, d, rfl⟩ := Below.grown_eq _ hb; clear hb) | (go_at_call 44; refine (HF.out _ _ (H.out.below (by repeat (first | exact Below.refl _ _ | assumption | refine Below.drew ?_ | refine Below.drewN' ?_ _ | refine below_grow0 _ _ ?_ | refine below_alloc0 _ ?_ | refine Below.alloc ?_ (by first | omega | (simp; done) | (simp; omega)) _ | refine Below.setCell ?_ (by first | omega | (simp; done) | (simp; omega)) _ | refine Below.grow _ _ _ ?_ (by first | omega | (simp; done) | (simp; omega)))))).mono ?_; rintro e w1 ⟨rfl, hb⟩; obtain ⟨ext2, d2, rfl⟩ := Below.grown_eq _ hb; clear hb))
      refine bodyPost_ret (v := .tuple #[.agg #[.slice none 0 0], .int .i64 7]) (by simp [results, Tryd.results41, go_sem]) rfl ⟨none, 0, rfl, Ow.nil _ _ _ _ _, (by repeat (first | exact Below.refl _ _ | assumption | refine Below.drew ?_ | refine Below.drewN' ?_ _ | refine below_grow0 _ _ ?_ | refine below_alloc0 _ ?_ | refine Below.alloc ?_ (by first | omega | (simp; done) | (simp; omega)) _ | refine Below.setCell ?_ (by first | omega | (simp; done) | (simp; omega)) _ | refine Below.grow _ _ _ ?_ (by first | omega | (simp; done) | (simp; omega))))⟩
    | true =>
      rw [hk] at hfind
      have HF := Lib.hid hfind
      have hq := isK_in_file hk
      generalize posK (l.map File.name) p = q at *
      clear h hz hk hfind
      simp only [if_true]
      have HQ := Lib.hid hq
      go_enter Tryd.func41, Tryd.ntmps41
      go_wp2_with
        (first | (go_at_call 28; refine (HG.out _ (H.out.below (by repeat (first | exact Below.refl _ _ | assumption | refine Below.drew ?_ | refine Below.drewN' ?_ _ | refine below_grow0 _ _ ?_ | refine below_alloc0 _ ?_ | refine Below.alloc ?_ (by first | omega | (simp; done) | (simp; omega)) _ | refine Below.setCell ?_ (by first | omega | (simp; done) | (simp; omega)) _ | refine Below.grow _ _ _ ?_ (by first | omega | (simp; done) | (simp; omega)))))).mono ?_; rintro e w1 ⟨rfl, hb⟩; obtain ⟨ext, d, rfl⟩ := Below.grown_eq _ hb; clear hb) | (go_at_call 44; refine (HF.out _ _ (H.out.below (by repeat (first | exact Below.refl _ _ | assumption | refine Below.drew ?_ | refine Below.drewN' ?_ _ | refine below_grow0 _ _ ?_ | refine below_alloc0 _ ?_ | refine Below.alloc ?_ (by first | omega | (simp; done) | (simp; omega)) _ | refine Below.setCell ?_ (by first | omega | (simp; done) | (simp; omega)) _ | refine Below.grow _ _ _ ?_ (by first | omega | (simp; done) | (simp; omega)))))).mono ?_; rintro e w1 ⟨rfl, hb⟩; obtain ⟨ext2, d2, rfl⟩ := Below.grown_eq _ hb; clear hb))
      refine (dkCopied _ l _ (H.out.below (by repeat (first | exact Below.refl _ _ | assumption | refine Below.drew ?_ | refine Below.drewN' ?_ _ | refine below_grow0 _ _ ?_ | refine below_alloc0 _ ?_ | refine Below.alloc ?_ (by first | omega | (simp; done) | (simp; omega)) _ | refine Below.setCell ?_ (by first | omega | (simp; done) | (simp; omega)) _ | refine Below.grow _ _ _ ?_ (by first | omega | (simp; done) | (simp; omega))))) (by omega) (by simp [maxLen]; omega)).mono ?_
      rintro e w3 ⟨A3, c3, rfl, ho3, hb3⟩
      obtain ⟨ext3, d3, rfl⟩ := Below.grown_eq _ hb3
      have HO3 := Lib.hid ho3
      have hc3 : c3 ≤ 9223372036854775807 := Nat.le_trans ho3.sl.cap_le (Nat.le_of_eq rfl)
      clear hb3 ho3
      go_wp2_with fail
      have HO4 := Lib.hid (HO3.out.regrow (W' := (grow (grow ((w.alloc (.cells #[.slice A3 l.length c3] 26)).alloc (.cells #[.slice none 0 0] 26)) ext d) ext2 d2)) (d' := d3) (Nat.le_refl _) (by simp))
      refine (delFile A3 l.length c3 q l _ _ HO4.out HQ.out hc3).mono ?_
      rintro e w4 ⟨rfl, hd⟩
      have hb4 : Below ((w.alloc (.cells #[.slice A3 l.length c3] 26)).alloc (.cells #[.slice none 0 0] 26)).heap.size ((w.alloc (.cells #[.slice A3 l.length c3] 26)).alloc (.cells #[.slice none 0 0] 26)) w4 :=
        Below.grown (by repeat (first | exact Below.refl _ _ | assumption | refine Below.drew ?_ | refine Below.drewN' ?_ _ | refine below_grow0 _ _ ?_ | refine below_alloc0 _ ?_ | refine Below.alloc ?_ (by first | omega | (simp; done) | (simp; omega)) _ | refine Below.setCell ?_ (by first | omega | (simp; done) | (simp; omega)) _ | refine Below.grow _ _ _ ?_ (by first | omega | (simp; done) | (simp; omega)))) hd.out.2 (by simp; omega) (fun g hg => by have := (Ow.own_in HO4.out hg).1; simp at this ⊢; omega)
      have HD := Lib.hid hd.out.1
      obtain ⟨ext5, d5, rfl⟩ := Below.grown_eq _ hb4
      have hgl : (l.take q ++ l.drop (q + 1)).length = l.length - 1 := by rw [List.length_append, List.length_take, List.length_drop]; have := HQ.out; omega
      have HGN := Lib.hid hgl
      clear hb4 hd hgl
      go_wp2_with fail
      refine bodyPost_ret (v := .tuple #[.agg #[.slice A3 (l.length - 1) c3], .int .i64 0]) (by simp [results, Tryd.results41, go_sem]) rfl ⟨A3, c3, by rw [HGN.out], ?_, (by repeat (first | exact Below.refl _ _ | assumption | refine Below.drew ?_ | refine Below.drewN' ?_ _ | refine below_grow0 _ _ ?_ | refine below_alloc0 _ ?_ | refine Below.alloc ?_ (by first | omega | (simp; done) | (simp; omega)) _ | refine Below.setCell ?_ (by first | omega | (simp; done) | (simp; omega)) _ | refine Below.grow _ _ _ ?_ (by first | omega | (simp; done) | (simp; omega))))⟩
      rw [HGN.out]
      exact (HD.out.regrow (by simp; omega) (by simp)).mono (by simp; omega)
end Go.Proofs.YtkoemhdchoicaaaDoor

/- package disk: Sync, Cut, Crash: under way. -/
namespace Go.Proofs.YtkoemhdchoicaaaDoor
open Go.RowKit Go.ChangeShapes Go.WideShapes Go.ChangeAt
set_option maxHeartbeats 1000000 in
theorem dkSync1 (g o : Nat) (x : File) (w : World) (c1 : w.cell? ⟨g, o + 1, none⟩ = some (.string x.safe)) (c2 : w.cell? ⟨g, o + 2, none⟩ = some (.string x.tail)) (f1 : w.frozen? ⟨g, o + 1, none⟩ = false) (f2 : w.frozen? ⟨g, o + 2, none⟩ = false)
    (z1 : x.safe.size ≤ 140737488355328) (z2 : x.tail.size ≤ 140737488355328) :
    Calls Tryd.prog 51 #[.pointer (some ⟨g, o, none⟩)] w fun e w' => e = .returned (.int .i64 0) ∧ w' = ((w.setCell ⟨g, o + 1, none⟩ (.string (x.safe ++ x.tail))).setCell ⟨g, o + 2, none⟩ (.string ⟨#[]⟩)).drew := by
  go_enter Tryd.func51, Tryd.ntmps51
  go_wp2_with fail
  go_region
  go_wp2_with fail
  go_ret
  exact ⟨rfl, rfl⟩
set_option maxHeartbeats 1000000 in
theorem dkCut1_no (g o bn : Nat) (n : Int) (x : File) (w : World) (c1 : w.cell? ⟨g, o + 1, none⟩ = some (.string x.safe)) (c2 : w.cell? ⟨g, o + 2, none⟩ = some (.string x.tail)) (cn : w.cell? ⟨bn, 0, none⟩ = some (.int .i64 n))
    (z1 : x.safe.size ≤ 140737488355328) (z2 : x.tail.size ≤ 140737488355328) (h : n < 0 ∨ ((x.safe ++ x.tail).size : Int) < n) :
    Calls Tryd.prog 50 #[.pointer (some ⟨g, o, none⟩), .pointer (some ⟨bn, 0, none⟩)] w fun e w' => e = .returned (.int .i64 3) ∧ w' = w.drew := by
  have hsz : (x.safe ++ x.tail).size = x.safe.size + x.tail.size := by simp
  generalize hall : x.safe ++ x.tail = all at *
  by_cases hn : n < 0
  · go_enter Tryd.func50, Tryd.ntmps50
    go_wp2_with fail
    go_region
    go_wp2_with fail
    go_ret
    exact ⟨rfl, rfl⟩
  · have hn2 : (all.size : Int) < n := by omega
    go_enter Tryd.func50, Tryd.ntmps50
    go_wp2_with fail
    go_region
    go_wp2_with fail
    go_ret
    exact ⟨rfl, rfl⟩
set_option maxHeartbeats 1000000 in
theorem dkCut1_ok (g o bn n : Nat) (x : File) (w : World) (c1 : w.cell? ⟨g, o + 1, none⟩ = some (.string x.safe)) (c2 : w.cell? ⟨g, o + 2, none⟩ = some (.string x.tail)) (f1 : w.frozen? ⟨g, o + 1, none⟩ = false) (f2 : w.frozen? ⟨g, o + 2, none⟩ = false) (cn : w.cell? ⟨bn, 0, none⟩ = some (.int .i64 n))
    (z1 : x.safe.size ≤ 140737488355328) (z2 : x.tail.size ≤ 140737488355328) (h : n ≤ (x.safe ++ x.tail).size) :
    Calls Tryd.prog 50 #[.pointer (some ⟨g, o, none⟩), .pointer (some ⟨bn, 0, none⟩)] w fun e w' => e = .returned (.int .i64 0) ∧ w' = ((w.setCell ⟨g, o + 1, none⟩ (.string ((x.safe ++ x.tail).extract 0 n))).setCell ⟨g, o + 2, none⟩ (.string ⟨#[]⟩)).drew := by
  have hsz : (x.safe ++ x.tail).size = x.safe.size + x.tail.size := by simp
  generalize hall : x.safe ++ x.tail = all at *
  go_enter Tryd.func50, Tryd.ntmps50
  go_wp2_with fail
  go_region
  go_wp2_with fail
  go_ret
  exact ⟨rfl, rfl⟩
theorem file_cells {W : World} {g k : Nat} {l : List File} {J : List Value} {t : TypeId} {x : File} (h : Bk W g (l.flatMap cFile ++ J) t) (hx : l[k]? = some x) :
    W.cell? ⟨g, k * 3, none⟩ = some (.string x.name) ∧ W.cell? ⟨g, k * 3 + 1, none⟩ = some (.string x.safe) ∧ W.cell? ⟨g, k * 3 + 2, none⟩ = some (.string x.tail) := by
  have key : ∀ j u, (cFile x)[j]? = some u → W.cell? ⟨g, k * 3 + j, none⟩ = some u := by
    intro j u hu
    have h0 : (l.flatMap cFile)[k * 3 + j]? = some u := flatMap_get (f := cFile) (s := 3) (fun y _ => rfl) hx hu
    rw [h.cell, List.getElem?_append_left (List.getElem?_eq_some_iff.1 h0).1, h0]
  exact ⟨key 0 _ rfl, key 1 _ rfl, key 2 _ rfl⟩
theorem splice1 (cs : List Value) (o : Nat) (v : Value) (r : List Value) (hl : o + (r.length + 1) ≤ cs.length) : splice (cs.set o v) (o + 1) r = splice cs o (v :: r) := by
  unfold splice
  have h1 : (cs.set o v).take (o + 1) = cs.take o ++ [v] := by
    rw [List.take_add_one, List.getElem?_set_self (by omega), List.take_set_of_le (by omega)]
    rfl
  rw [h1, List.drop_set_of_lt (by omega), List.length_cons, show o + (r.length + 1) = o + 1 + r.length from by omega]
  simp
/-- two cells of one file set anew -/
theorem set_file {l : List File} {J : List Value} {k : Nat} {x : File} (hx : l[k]? = some x) (s t : ByteArray) :
    (((l.flatMap cFile ++ J).set (k * 3 + 1) (.string s)).set (k * 3 + 2) (.string t)) = (l.set k ⟨x.name, s, t⟩).flatMap cFile ++ J := by
  have hk : k < l.length := (List.getElem?_eq_some_iff.1 hx).1
  have hlen : (l.flatMap cFile).length = l.length * 3 := flatMap_length (fun y _ => rfl)
  have hle : k * 3 + 3 ≤ (l.flatMap cFile ++ J).length := by rw [List.length_append, hlen]; omega
  have h0 : (l.flatMap cFile)[k * 3 + 0]? = some (.string x.name) := flatMap_get (f := cFile) (s := 3) (fun y _ => rfl) hx rfl
  have hself : (l.flatMap cFile ++ J).set (k * 3) (.string x.name) = l.flatMap cFile ++ J := by
    apply List.ext_getElem?
    intro i
    rw [List.getElem?_set]
    split
    · rename_i e
      subst e
      rw [if_pos (by omega), List.getElem?_append_left (by rw [hlen]; omega), ← Nat.add_zero (k * 3), h0]
    · rfl
  rw [← flatMap_set (f := cFile) (s := 3) (fun y _ => rfl) hk ⟨x.name, s, t⟩ rfl J]
  show _ = splice _ (k * 3) [Value.string x.name, Value.string s, Value.string t]
  rw [← splice1 _ _ _ _ (by simpa using hle), hself, ← splice1 _ _ _ _ (by simpa using hle), ← splice1 _ _ _ _ (by rw [List.length_set]; simpa using hle)]
  simp [splice]
def syncF (x : File) : File := ⟨x.name, x.safe ++ x.tail, ⟨#[]⟩⟩
def syncL (l : List File) (p : ByteArray) : List File := if goodD l && isK (l.map File.name) p then l.set (posK (l.map File.name) p) (syncF (fileAt l p)) else []
set_option maxHeartbeats 2000000 in
theorem dkChangeSync (v : Value) (l : List File) (p : ByteArray) (w : World) (h : Sl cFile 3 w v l) (hz : ∀ x ∈ l, x.sized) :
    Calls Tryd.prog 49 #[.agg #[v], .string p, .func (.func 51) #[] #[]] w (DkRes (syncL l p) (readE l p) w) := by
  obtain ⟨A, c, rfl, hc1, hc2⟩ := h.form
  have H := Lib.hid h
  have HG := Lib.hid (fun (W : World) (hs : Sl cFile 3 W (.slice A l.length c) l) => dkGood _ l W hs hz)
  unfold syncL readE
  cases hg : goodD l with
  | false =>
    rw [hg] at HG
    clear h hz hg
    simp only [Bool.false_and, Bool.false_eq_true, if_false]
    go_enter Tryd.func49, Tryd.ntmps49
    go_wp2_with
      (first | (go_at_call 28; refine (HG.out _ (H.out.below (by repeat (first | exact Below.refl _ _ | assumption | refine Below.drew ?_ | refine Below.drewN' ?_ _ | refine below_grow0 _ _ ?_ | refine below_alloc0 _ ?_ | refine Below.alloc ?_ (by first | omega | (simp; done) | (simp; omega)) _ | refine Below.setCell ?_ (by first | omega | (simp; done) | (simp; omega)) _ | refine Below.grow _ _ _ ?_ (by first | omega | (simp; done) | (simp; omega)))))).mono ?_; rintro e w1 ⟨rfl, hb⟩; obtain ⟨ext, d, rfl⟩ := Below.grown_eq _ hb; clear hb) | (go_at_call 44; refine (HF.out _ _ (H.out.below (by repeat (first | exact Below.refl _ _ | assumption | refine Below.drew ?_ | refine Below.drewN' ?_ _ | refine below_grow0 _ _ ?_ | refine below_alloc0 _ ?_ | refine Below.alloc ?_ (by first | omega | (simp; done) | (simp; omega)) _ | refine Below.setCell ?_ (by first | omega | (simp; done) | (simp; omega)) _ | refine Below.grow _ _ _ ?_ (by first | omega | (simp; done) | (simp; omega)))))).mono ?_; rintro e w1 ⟨rfl, hb⟩; obtain ⟨ext2, d2, rfl⟩ := Below.grown_eq _ hb; clear hb))
    refine bodyPost_ret (v := .tuple #[.agg #[.slice none 0 0], .int .i64 3]) (by simp [results, Tryd.results49, go_sem]) rfl ⟨none, 0, rfl, Ow.nil _ _ _ _ _, (by repeat (first | exact Below.refl _ _ | assumption | refine Below.drew ?_ | refine Below.drewN' ?_ _ | refine below_grow0 _ _ ?_ | refine below_alloc0 _ ?_ | refine Below.alloc ?_ (by first | omega | (simp; done) | (simp; omega)) _ | refine Below.setCell ?_ (by first | omega | (simp; done) | (simp; omega)) _ | refine Below.grow _ _ _ ?_ (by first | omega | (simp; done) | (simp; omega))))⟩
  | true =>
    rw [hg] at HG
    have hl16 := goodD_len hg
    have hfind := fun (W : World) (v : Value) (hs : Sl cFile 3 W v l) => dkFind v l p W hs (by omega)
    clear hg
    simp only [Bool.true_and, if_true]
    cases hk : isK (l.map File.name) p with
    | false =>
      rw [hk] at hfind
      have HF := Lib.hid hfind
      generalize posK (l.map File.name) p = q at *
      clear h hz hk hfind
      simp only [Bool.false_eq_true, if_false]
      go_enter Tryd.func49, Tryd.ntmps49
      go_wp2_with
        (first | (go_at_call 28; refine (HG.out _ (H.out.below (by repeat (first | exact Below.refl _ _ | assumption | refine Below.drew ?_ | refine Below.drewN' ?_ _ | refine below_grow0 _ _ ?_ | refine below_alloc0 _ ?_ | refine Below.alloc ?_ (by first | omega | (simp; done) | (simp; omega)) _ | refine Below.setCell ?_ (by first | omega | (simp; done) | (simp; omega)) _ | refine Below.grow _ _ _ ?_ (by first | omega | (simp; done) | (simp; omega)))))).mono ?_; rintro e w1 ⟨rfl, hb⟩; obtain ⟨ext, d, rfl⟩ := Below.grown_eq _ hb; clear hb) | (go_at_call 44; refine (HF.out _ _ (H.out.below (by repeat (first | exact Below.refl _ _ | assumption | refine Below.drew ?_ | refine Below.drewN' ?_ _ | refine below_grow0 _ _ ?_ | refine below_alloc0 _ ?_ | refine Below.alloc ?_ (by first | omega | (simp; done) | (simp; omega)) _ | refine Below.setCell ?_ (by first | omega | (simp; done) | (simp; omega)) _ | refine Below.grow _ _ _ ?_ (by first | omega | (simp; done) | (simp; omega)))))).mono ?_; rintro e w1 ⟨rfl, hb⟩; obtain ⟨ext2, d2, rfl⟩ := Below.grown_eq _ hb; clear hb))
      refine bodyPost_ret (v := .tuple #[.agg #[.slice none 0 0], .int .i64 7]) (by simp [results, Tryd.results49, go_sem]) rfl ⟨none, 0, rfl, Ow.nil _ _ _ _ _, (by repeat (first | exact Below.refl _ _ | assumption | refine Below.drew ?_ | refine Below.drewN' ?_ _ | refine below_grow0 _ _ ?_ | refine below_alloc0 _ ?_ | refine Below.alloc ?_ (by first | omega | (simp; done) | (simp; omega)) _ | refine Below.setCell ?_ (by first | omega | (simp; done) | (simp; omega)) _ | refine Below.grow _ _ _ ?_ (by first | omega | (simp; done) | (simp; omega))))⟩
    | true =>
      rw [hk] at hfind
      have HF := Lib.hid hfind
      have hq := isK_in_file hk
      have hx : l[posK (l.map File.name) p]? = some (fileAt l p) := by
        unfold fileAt
        rw [List.getD_eq_getElem?_getD, List.getElem?_eq_getElem hq]
        rfl
      obtain ⟨z0, z1, z2⟩ := hz _ (List.mem_of_getElem? hx)
      generalize fileAt l p = x at *
      generalize posK (l.map File.name) p = q at *
      have HX := Lib.hid hx
      clear h hz hk hfind hx
      simp only [if_true]
      go_enter Tryd.func49, Tryd.ntmps49
      go_wp2_with
        (first | (go_at_call 28; refine (HG.out _ (H.out.below (by repeat (first | exact Below.refl _ _ | assumption | refine Below.drew ?_ | refine Below.drewN' ?_ _ | refine below_grow0 _ _ ?_ | refine below_alloc0 _ ?_ | refine Below.alloc ?_ (by first | omega | (simp; done) | (simp; omega)) _ | refine Below.setCell ?_ (by first | omega | (simp; done) | (simp; omega)) _ | refine Below.grow _ _ _ ?_ (by first | omega | (simp; done) | (simp; omega)))))).mono ?_; rintro e w1 ⟨rfl, hb⟩; obtain ⟨ext, d, rfl⟩ := Below.grown_eq _ hb; clear hb) | (go_at_call 44; refine (HF.out _ _ (H.out.below (by repeat (first | exact Below.refl _ _ | assumption | refine Below.drew ?_ | refine Below.drewN' ?_ _ | refine below_grow0 _ _ ?_ | refine below_alloc0 _ ?_ | refine Below.alloc ?_ (by first | omega | (simp; done) | (simp; omega)) _ | refine Below.setCell ?_ (by first | omega | (simp; done) | (simp; omega)) _ | refine Below.grow _ _ _ ?_ (by first | omega | (simp; done) | (simp; omega)))))).mono ?_; rintro e w1 ⟨rfl, hb⟩; obtain ⟨ext2, d2, rfl⟩ := Below.grown_eq _ hb; clear hb))
      refine (dkCopied _ l _ (H.out.below (by repeat (first | exact Below.refl _ _ | assumption | refine Below.drew ?_ | refine Below.drewN' ?_ _ | refine below_grow0 _ _ ?_ | refine below_alloc0 _ ?_ | refine Below.alloc ?_ (by first | omega | (simp; done) | (simp; omega)) _ | refine Below.setCell ?_ (by first | omega | (simp; done) | (simp; omega)) _ | refine Below.grow _ _ _ ?_ (by first | omega | (simp; done) | (simp; omega))))) (by omega) (by simp [maxLen]; omega)).mono ?_
      rintro e w3 ⟨A3, c3, rfl, ho3, hb3⟩
      obtain ⟨ext3, d3, rfl⟩ := Below.grown_eq _ hb3
      obtain ⟨g3, J, rfl, hg3, hbk3, hcl, hlc, hcm, _⟩ := ho3.blk (by omega)
      have hbk4 : Bk (grow (grow (grow ((w.alloc (.cells #[.slice (some ⟨g3, 0, none⟩) l.length c3] 26)).alloc (.cells #[.slice none 0 0] 26)) ext d) ext2 d2) ext3 d3) g3 (l.flatMap cFile ++ J) 70 := hbk3.regrow (by simpa using hg3) (by simp)
      have hg4 : w.heap.size + 1 + 1 ≤ g3 := by simp at hg3; omega
      obtain ⟨r0, r1, r2⟩ := file_cells hbk4 HX.out
      have HBK := Lib.hid hbk4
      have HCL := Lib.hid hcl
      clear hb3 ho3 hbk3 hbk4 hg3 hcl
      go_wp2_with fail
      refine (dkSync1 g3 (q * 3) x _ r1 r2 (HBK.out.frozen _) (HBK.out.frozen _) z1 z2).mono ?_
      rintro e w4 ⟨rfl, rfl⟩
      have hb5 : Below ((w.alloc (.cells #[.slice (some ⟨g3, 0, none⟩) l.length c3] 26)).alloc (.cells #[.slice none 0 0] 26)).heap.size ((w.alloc (.cells #[.slice (some ⟨g3, 0, none⟩) l.length c3] 26)).alloc (.cells #[.slice none 0 0] 26)) ((((grow (grow (grow ((w.alloc (.cells #[.slice (some ⟨g3, 0, none⟩) l.length c3] 26)).alloc (.cells #[.slice none 0 0] 26)) ext d) ext2 d2) ext3 d3).setCell ⟨g3, q * 3 + 1, none⟩ (.string (x.safe ++ x.tail))).setCell ⟨g3, q * 3 + 2, none⟩ (.string ⟨#[]⟩)).drew) := Below.drew (Below.put (Below.put (by repeat (first | exact Below.refl _ _ | assumption | refine Below.drew ?_ | refine Below.drewN' ?_ _ | refine below_grow0 _ _ ?_ | refine below_alloc0 _ ?_ | refine Below.alloc ?_ (by first | omega | (simp; done) | (simp; omega)) _ | refine Below.setCell ?_ (by first | omega | (simp; done) | (simp; omega)) _ | refine Below.grow _ _ _ ?_ (by first | omega | (simp; done) | (simp; omega)))) (by simp; omega)) (by simp; omega))
      have hbk5 : Bk ((((grow (grow (grow ((w.alloc (.cells #[.slice (some ⟨g3, 0, none⟩) l.length c3] 26)).alloc (.cells #[.slice none 0 0] 26)) ext d) ext2 d2) ext3 d3).setCell ⟨g3, q * 3 + 1, none⟩ (.string (x.safe ++ x.tail))).setCell ⟨g3, q * 3 + 2, none⟩ (.string ⟨#[]⟩)).drew) g3 ((l.set q (syncF x)).flatMap cFile ++ J) 70 := by
        have := (HBK.out.put (q * 3 + 1) (.string (x.safe ++ x.tail))).put (q * 3 + 2) (.string ⟨#[]⟩)
        rw [set_file HX.out] at this
        exact this
      generalize ((((grow (grow (grow ((w.alloc (.cells #[.slice (some ⟨g3, 0, none⟩) l.length c3] 26)).alloc (.cells #[.slice none 0 0] 26)) ext d) ext2 d2) ext3 d3).setCell ⟨g3, q * 3 + 1, none⟩ (.string (x.safe ++ x.tail))).setCell ⟨g3, q * 3 + 2, none⟩ (.string ⟨#[]⟩)).drew) = w5 at hb5 hbk5 ⊢
      obtain ⟨ext5, d5, rfl⟩ := Below.grown_eq _ hb5
      have HBK5 := Lib.hid hbk5
      clear hb5 hbk5 HBK r0 r1 r2
      go_wp2_with fail
      have hlen : ((l.set q (syncF x)).flatMap cFile ++ J).length = c3 * 3 := by
        rw [← HCL.out, List.length_append, List.length_append, flatMap_length (f := cFile) (s := 3) (fun _ _ => rfl), flatMap_length (f := cFile) (s := 3) (fun _ _ => rfl), List.length_set]
      refine bodyPost_ret (v := .tuple #[.agg #[.slice (some ⟨g3, 0, none⟩) l.length c3], .int .i64 0]) (by simp [results, Tryd.results49, go_sem]) rfl ⟨some ⟨g3, 0, none⟩, c3, by rw [List.length_set], ?_, (by repeat (first | exact Below.refl _ _ | assumption | refine Below.drew ?_ | refine Below.drewN' ?_ _ | refine below_grow0 _ _ ?_ | refine below_alloc0 _ ?_ | refine Below.alloc ?_ (by first | omega | (simp; done) | (simp; omega)) _ | refine Below.setCell ?_ (by first | omega | (simp; done) | (simp; omega)) _ | refine Below.grow _ _ _ ?_ (by first | omega | (simp; done) | (simp; omega))))⟩
      exact Ow.of_blk (f := cFile) (s := 3) (B := w.heap.size) (fun _ _ => rfl) (by omega) (HBK5.out.regrow (by simp; omega) (by simp)) rfl hlen (by rw [List.length_set]; exact hlc) hcm
end Go.Proofs.YtkoemhdchoicaaaDoor
/- package disk: Sync. -/
namespace Go.Proofs.YtkoemhdchoicaaaDoor
open Go.RowKit Go.ChangeShapes Go.WideShapes Go.ChangeAt
set_option maxHeartbeats 1000000 in
theorem dkSync (v : Value) (l : List File) (p : ByteArray) (w : World) (h : Sl cFile 3 w v l) (hz : ∀ x ∈ l, x.sized) :
    Calls Tryd.prog 36 #[.agg #[v], .string p] w (DkRes (syncL l p) (readE l p) w) := by
  obtain ⟨A, c, rfl, hc1, hc2⟩ := h.form
  have H := Lib.hid h
  have HC := Lib.hid (fun (W : World) (hs : Sl cFile 3 W (.slice A l.length c) l) => dkChangeSync _ l p W hs hz)
  generalize syncL l p = L at *
  generalize readE l p = code at *
  clear h hz
  go_enter Tryd.func36, Tryd.ntmps36
  go_wp2_with (first | (go_at_call 49; refine (HC.out _ (H.out.below (by repeat (first | exact Below.refl _ _ | assumption | refine Below.drew ?_ | refine Below.drewN' ?_ _ | refine below_grow0 _ _ ?_ | refine below_alloc0 _ ?_ | refine Below.alloc ?_ (by first | omega | (simp; done) | (simp; omega)) _ | refine Below.setCell ?_ (by first | omega | (simp; done) | (simp; omega)) _ | refine Below.grow _ _ _ ?_ (by first | omega | (simp; done) | (simp; omega)))))).mono ?_; rintro e w1 ⟨A1, k1, rfl, hs1, hb1⟩; have HS1 := Lib.hid hs1; obtain ⟨ext, d, rfl⟩ := Below.grown_eq _ hb1; clear hs1 hb1))
  refine bodyPost_ret (v := .tuple #[.agg #[.slice A1 L.length k1], .int .i64 code]) (by simp [results, Tryd.results36, go_sem]) rfl ⟨A1, k1, rfl, ?_, (by repeat (first | exact Below.refl _ _ | assumption | refine Below.drew ?_ | refine Below.drewN' ?_ _ | refine below_grow0 _ _ ?_ | refine below_alloc0 _ ?_ | refine Below.alloc ?_ (by first | omega | (simp; done) | (simp; omega)) _ | refine Below.setCell ?_ (by first | omega | (simp; done) | (simp; omega)) _ | refine Below.grow _ _ _ ?_ (by first | omega | (simp; done) | (simp; omega))))⟩
  exact (HS1.out.regrow (Nat.le_refl _) (by simp)).mono (by simp; omega)
end Go.Proofs.YtkoemhdchoicaaaDoor

/- package disk: Cut. -/
namespace Go.Proofs.YtkoemhdchoicaaaDoor
open Go.RowKit Go.ChangeShapes Go.WideShapes Go.ChangeAt
def cutF (x : File) (n : Nat) : File := ⟨x.name, (x.safe ++ x.tail).extract 0 n, ⟨#[]⟩⟩
def cutL (l : List File) (p : ByteArray) (n : Int) : List File := if goodD l && isK (l.map File.name) p then (if 0 ≤ n ∧ n ≤ (((fileAt l p).safe ++ (fileAt l p).tail).size : Int) then l.set (posK (l.map File.name) p) (cutF (fileAt l p) n.toNat) else []) else []
def cutE (l : List File) (p : ByteArray) (n : Int) : Int := if goodD l then (if isK (l.map File.name) p then (if 0 ≤ n ∧ n ≤ (((fileAt l p).safe ++ (fileAt l p).tail).size : Int) then 0 else 3) else 7) else 3
set_option maxHeartbeats 2000000 in
theorem dkChangeCut (v : Value) (l : List File) (p : ByteArray) (bn : Nat) (n : Int) (w : World) (h : Sl cFile 3 w v l) (hz : ∀ x ∈ l, x.sized) (cn : w.cell? ⟨bn, 0, none⟩ = some (.int .i64 n)) (hbn : bn < w.heap.size) :
    Calls Tryd.prog 49 #[.agg #[v], .string p, .func (.func 50) #[] #[.pointer (some ⟨bn, 0, none⟩)]] w (DkRes (cutL l p n) (cutE l p n) w) := by
  obtain ⟨A, c, rfl, hc1, hc2⟩ := h.form
  have H := Lib.hid h
  have HG := Lib.hid (fun (W : World) (hs : Sl cFile 3 W (.slice A l.length c) l) => dkGood _ l W hs hz)
  unfold cutL cutE
  cases hg : goodD l with
  | false =>
    rw [hg] at HG
    clear h hz hg
    simp only [Bool.false_and, Bool.false_eq_true, if_false]
    go_enter Tryd.func49, Tryd.ntmps49
    go_wp2_with
      (first | (go_at_call 28; refine (HG.out _ (H.out.below (by repeat (first | exact Below.refl _ _ | assumption | refine Below.drew ?_ | refine Below.drewN' ?_ _ | refine below_grow0 _ _ ?_ | refine below_alloc0 _ ?_ | refine Below.alloc ?_ (by first | omega | (simp; done) | (simp; omega)) _ | refine Below.setCell ?_ (by first | omega | (simp; done) | (simp; omega)) _ | refine Below.grow _ _ _ ?_ (by first | omega | (simp; done) | (simp; omega)))))).mono ?_; rintro e w1 ⟨rfl, hb⟩; obtain ⟨ext, d, rfl⟩ := Below.grown_eq _ hb; clear hb) | (go_at_call 44; refine (HF.out _ _ (H.out.below (by repeat (first | exact Below.refl _ _ | assumption | refine Below.drew ?_ | refine Below.drewN' ?_ _ | refine below_grow0 _ _ ?_ | refine below_alloc0 _ ?_ | refine Below.alloc ?_ (by first | omega | (simp; done) | (simp; omega)) _ | refine Below.setCell ?_ (by first | omega | (simp; done) | (simp; omega)) _ | refine Below.grow _ _ _ ?_ (by first | omega | (simp; done) | (simp; omega)))))).mono ?_; rintro e w1 ⟨rfl, hb⟩; obtain ⟨ext2, d2, rfl⟩ := Below.grown_eq _ hb; clear hb))
    refine bodyPost_ret (v := .tuple #[.agg #[.slice none 0 0], .int .i64 3]) (by simp [results, Tryd.results49, go_sem]) rfl ⟨none, 0, rfl, Ow.nil _ _ _ _ _, (by repeat (first | exact Below.refl _ _ | assumption | refine Below.drew ?_ | refine Below.drewN' ?_ _ | refine below_grow0 _ _ ?_ | refine below_alloc0 _ ?_ | refine Below.alloc ?_ (by first | omega | (simp; done) | (simp; omega)) _ | refine Below.setCell ?_ (by first | omega | (simp; done) | (simp; omega)) _ | refine Below.grow _ _ _ ?_ (by first | omega | (simp; done) | (simp; omega))))⟩
  | true =>
    rw [hg] at HG
    have hl16 := goodD_len hg
    have hfind := fun (W : World) (v : Value) (hs : Sl cFile 3 W v l) => dkFind v l p W hs (by omega)
    clear hg
    simp only [Bool.true_and, if_true]
    cases hk : isK (l.map File.name) p with
    | false =>
      rw [hk] at hfind
      have HF := Lib.hid hfind
      generalize posK (l.map File.name) p = q at *
      clear h hz hk hfind
      simp only [Bool.false_eq_true, if_false]
      go_enter Tryd.func49, Tryd.ntmps49
      go_wp2_with
        (first | (go_at_call 28; refine (HG.out _ (H.out.below (by repeat (first | exact Below.refl _ _ | assumption | refine Below.drew ?_ | refine Below.drewN' ?_ _ | refine below_grow0 _ _ ?_ | refine below_alloc0 _ ?_ | refine Below.alloc ?_ (by first | omega | (simp; done) | (simp; omega)) _ | refine Below.setCell ?_ (by first | omega | (simp; done) | (simp; omega)) _ | refine Below.grow _ _ _ ?_ (by first | omega | (simp; done) | (simp; omega)))))).mono ?_; rintro e w1 ⟨rfl, hb⟩; obtain ⟨ext, d, rfl⟩ := Below.grown_eq _ hb; clear hb) | (go_at_call 44; refine (HF.out _ _ (H.out.below (by repeat (first | exact Below.refl _ _ | assumption | refine Below.drew ?_ | refine Below.drewN' ?_ _ | refine below_grow0 _ _ ?_ | refine below_alloc0 _ ?_ | refine Below.alloc ?_ (by first | omega | (simp; done) | (simp; omega)) _ | refine Below.setCell ?_ (by first | omega | (simp; done) | (simp; omega)) _ | refine Below.grow _ _ _ ?_ (by first | omega | (simp; done) | (simp; omega)))))).mono ?_; rintro e w1 ⟨rfl, hb⟩; obtain ⟨ext2, d2, rfl⟩ := Below.grown_eq _ hb; clear hb))
      refine bodyPost_ret (v := .tuple #[.agg #[.slice none 0 0], .int .i64 7]) (by simp [results, Tryd.results49, go_sem]) rfl ⟨none, 0, rfl, Ow.nil _ _ _ _ _, (by repeat (first | exact Below.refl _ _ | assumption | refine Below.drew ?_ | refine Below.drewN' ?_ _ | refine below_grow0 _ _ ?_ | refine below_alloc0 _ ?_ | refine Below.alloc ?_ (by first | omega | (simp; done) | (simp; omega)) _ | refine Below.setCell ?_ (by first | omega | (simp; done) | (simp; omega)) _ | refine Below.grow _ _ _ ?_ (by first | omega | (simp; done) | (simp; omega))))⟩
    | true =>
      rw [hk] at hfind
      have HF := Lib.hid hfind
      have hq := isK_in_file hk
      have hx : l[posK (l.map File.name) p]? = some (fileAt l p) := by
        unfold fileAt
        rw [List.getD_eq_getElem?_getD, List.getElem?_eq_getElem hq]
        rfl
      obtain ⟨z0, z1, z2⟩ := hz _ (List.mem_of_getElem? hx)
      generalize fileAt l p = x at *
      generalize posK (l.map File.name) p = q at *
      have HX := Lib.hid hx
      clear h hz hk hfind hx
      simp only [if_true]
      have hszx : (x.safe ++ x.tail).size = x.safe.size + x.tail.size := by simp
      by_cases hr : 0 ≤ n ∧ n ≤ ((x.safe ++ x.tail).size : Int)
      · simp only [if_pos hr]
        obtain ⟨m, rfl⟩ := Int.eq_ofNat_of_zero_le hr.1
        have HR : Hid (m ≤ (x.safe ++ x.tail).size) := Lib.hid (by have := hr.2; omega)
        clear hr hszx
        go_enter Tryd.func49, Tryd.ntmps49
        go_wp2_with
          (first | (go_at_call 28; refine (HG.out _ (H.out.below (by repeat (first | exact Below.refl _ _ | assumption | refine Below.drew ?_ | refine Below.drewN' ?_ _ | refine below_grow0 _ _ ?_ | refine below_alloc0 _ ?_ | refine Below.alloc ?_ (by first | omega | (simp; done) | (simp; omega)) _ | refine Below.setCell ?_ (by first | omega | (simp; done) | (simp; omega)) _ | refine Below.grow _ _ _ ?_ (by first | omega | (simp; done) | (simp; omega)))))).mono ?_; rintro e w1 ⟨rfl, hb⟩; obtain ⟨ext, d, rfl⟩ := Below.grown_eq _ hb; clear hb) | (go_at_call 44; refine (HF.out _ _ (H.out.below (by repeat (first | exact Below.refl _ _ | assumption | refine Below.drew ?_ | refine Below.drewN' ?_ _ | refine below_grow0 _ _ ?_ | refine below_alloc0 _ ?_ | refine Below.alloc ?_ (by first | omega | (simp; done) | (simp; omega)) _ | refine Below.setCell ?_ (by first | omega | (simp; done) | (simp; omega)) _ | refine Below.grow _ _ _ ?_ (by first | omega | (simp; done) | (simp; omega)))))).mono ?_; rintro e w1 ⟨rfl, hb⟩; obtain ⟨ext2, d2, rfl⟩ := Below.grown_eq _ hb; clear hb))
        refine (dkCopied _ l _ (H.out.below (by repeat (first | exact Below.refl _ _ | assumption | refine Below.drew ?_ | refine Below.drewN' ?_ _ | refine below_grow0 _ _ ?_ | refine below_alloc0 _ ?_ | refine Below.alloc ?_ (by first | omega | (simp; done) | (simp; omega)) _ | refine Below.setCell ?_ (by first | omega | (simp; done) | (simp; omega)) _ | refine Below.grow _ _ _ ?_ (by first | omega | (simp; done) | (simp; omega))))) (by omega) (by simp [maxLen]; omega)).mono ?_
        rintro e w3 ⟨A3, c3, rfl, ho3, hb3⟩
        obtain ⟨ext3, d3, rfl⟩ := Below.grown_eq _ hb3
        obtain ⟨g3, J, rfl, hg3, hbk3, hcl, hlc, hcm, _⟩ := ho3.blk (by omega)
        have hbk4 : Bk (grow (grow (grow ((w.alloc (.cells #[.slice (some ⟨g3, 0, none⟩) l.length c3] 26)).alloc (.cells #[.slice none 0 0] 26)) ext d) ext2 d2) ext3 d3) g3 (l.flatMap cFile ++ J) 70 := hbk3.regrow (by simpa using hg3) (by simp)
        have hg4 : w.heap.size + 1 + 1 ≤ g3 := by simp at hg3; omega
        obtain ⟨r0, r1, r2⟩ := file_cells hbk4 HX.out
        have HBK := Lib.hid hbk4
        have HCL := Lib.hid hcl
        clear hb3 ho3 hbk3 hbk4 hg3 hcl
        go_wp2_with fail
        refine (dkCut1_ok g3 (q * 3) bn m x _ r1 r2 (HBK.out.frozen _) (HBK.out.frozen _) ((show Below w.heap.size w _ from (by repeat (first | exact Below.refl _ _ | assumption | refine Below.drew ?_ | refine Below.drewN' ?_ _ | refine below_grow0 _ _ ?_ | refine below_alloc0 _ ?_ | refine Below.alloc ?_ (by first | omega | (simp; done) | (simp; omega)) _ | refine Below.setCell ?_ (by first | omega | (simp; done) | (simp; omega)) _ | refine Below.grow _ _ _ ?_ (by first | omega | (simp; done) | (simp; omega))))).cell (p := ⟨bn, 0, none⟩) hbn |>.trans cn) z1 z2 HR.out).mono ?_
        rintro e w4 ⟨rfl, rfl⟩
        have hb5 : Below ((w.alloc (.cells #[.slice (some ⟨g3, 0, none⟩) l.length c3] 26)).alloc (.cells #[.slice none 0 0] 26)).heap.size ((w.alloc (.cells #[.slice (some ⟨g3, 0, none⟩) l.length c3] 26)).alloc (.cells #[.slice none 0 0] 26)) ((((grow (grow (grow ((w.alloc (.cells #[.slice (some ⟨g3, 0, none⟩) l.length c3] 26)).alloc (.cells #[.slice none 0 0] 26)) ext d) ext2 d2) ext3 d3).setCell ⟨g3, q * 3 + 1, none⟩ (.string ((x.safe ++ x.tail).extract 0 m))).setCell ⟨g3, q * 3 + 2, none⟩ (.string ⟨#[]⟩)).drew) := Below.drew (Below.put (Below.put (by repeat (first | exact Below.refl _ _ | assumption | refine Below.drew ?_ | refine Below.drewN' ?_ _ | refine below_grow0 _ _ ?_ | refine below_alloc0 _ ?_ | refine Below.alloc ?_ (by first | omega | (simp; done) | (simp; omega)) _ | refine Below.setCell ?_ (by first | omega | (simp; done) | (simp; omega)) _ | refine Below.grow _ _ _ ?_ (by first | omega | (simp; done) | (simp; omega)))) (by simp; omega)) (by simp; omega))
        have hbk5 : Bk ((((grow (grow (grow ((w.alloc (.cells #[.slice (some ⟨g3, 0, none⟩) l.length c3] 26)).alloc (.cells #[.slice none 0 0] 26)) ext d) ext2 d2) ext3 d3).setCell ⟨g3, q * 3 + 1, none⟩ (.string ((x.safe ++ x.tail).extract 0 m))).setCell ⟨g3, q * 3 + 2, none⟩ (.string ⟨#[]⟩)).drew) g3 ((l.set q (cutF x m)).flatMap cFile ++ J) 70 := by
          have := (HBK.out.put (q * 3 + 1) (.string ((x.safe ++ x.tail).extract 0 m))).put (q * 3 + 2) (.string ⟨#[]⟩)
          rw [set_file HX.out] at this
          exact this
        generalize ((((grow (grow (grow ((w.alloc (.cells #[.slice (some ⟨g3, 0, none⟩) l.length c3] 26)).alloc (.cells #[.slice none 0 0] 26)) ext d) ext2 d2) ext3 d3).setCell ⟨g3, q * 3 + 1, none⟩ (.string ((x.safe ++ x.tail).extract 0 m))).setCell ⟨g3, q * 3 + 2, none⟩ (.string ⟨#[]⟩)).drew) = w5 at hb5 hbk5 ⊢
        obtain ⟨ext5, d5, rfl⟩ := Below.grown_eq _ hb5
        have HBK5 := Lib.hid hbk5
        clear hb5 hbk5 HBK r0 r1 r2
        go_wp2_with fail
        have hlen : ((l.set q (cutF x m)).flatMap cFile ++ J).length = c3 * 3 := by
          rw [← HCL.out, List.length_append, List.length_append, flatMap_length (f := cFile) (s := 3) (fun _ _ => rfl), flatMap_length (f := cFile) (s := 3) (fun _ _ => rfl), List.length_set]
        refine bodyPost_ret (v := .tuple #[.agg #[.slice (some ⟨g3, 0, none⟩) l.length c3], .int .i64 0]) (by simp [results, Tryd.results49, go_sem]) rfl ⟨some ⟨g3, 0, none⟩, c3, by rw [List.length_set], ?_, (by repeat (first | exact Below.refl _ _ | assumption | refine Below.drew ?_ | refine Below.drewN' ?_ _ | refine below_grow0 _ _ ?_ | refine below_alloc0 _ ?_ | refine Below.alloc ?_ (by first | omega | (simp; done) | (simp; omega)) _ | refine Below.setCell ?_ (by first | omega | (simp; done) | (simp; omega)) _ | refine Below.grow _ _ _ ?_ (by first | omega | (simp; done) | (simp; omega))))⟩
        exact Ow.of_blk (f := cFile) (s := 3) (B := w.heap.size) (fun _ _ => rfl) (by omega) (HBK5.out.regrow (by simp; omega) (by simp)) rfl hlen (by rw [List.length_set]; exact hlc) hcm
      · simp only [if_neg hr]
        have HR := Lib.hid (show n < 0 ∨ ((x.safe ++ x.tail).size : Int) < n by omega)
        clear hr hszx
        go_enter Tryd.func49, Tryd.ntmps49
        go_wp2_with
          (first | (go_at_call 28; refine (HG.out _ (H.out.below (by repeat (first | exact Below.refl _ _ | assumption | refine Below.drew ?_ | refine Below.drewN' ?_ _ | refine below_grow0 _ _ ?_ | refine below_alloc0 _ ?_ | refine Below.alloc ?_ (by first | omega | (simp; done) | (simp; omega)) _ | refine Below.setCell ?_ (by first | omega | (simp; done) | (simp; omega)) _ | refine Below.grow _ _ _ ?_ (by first | omega | (simp; done) | (simp; omega)))))).mono ?_; rintro e w1 ⟨rfl, hb⟩; obtain ⟨ext, d, rfl⟩ := Below.grown_eq _ hb; clear hb) | (go_at_call 44; refine (HF.out _ _ (H.out.below (by repeat (first | exact Below.refl _ _ | assumption | refine Below.drew ?_ | refine Below.drewN' ?_ _ | refine below_grow0 _ _ ?_ | refine below_alloc0 _ ?_ | refine Below.alloc ?_ (by first | omega | (simp; done) | (simp; omega)) _ | refine Below.setCell ?_ (by first | omega | (simp; done) | (simp; omega)) _ | refine Below.grow _ _ _ ?_ (by first | omega | (simp; done) | (simp; omega)))))).mono ?_; rintro e w1 ⟨rfl, hb⟩; obtain ⟨ext2, d2, rfl⟩ := Below.grown_eq _ hb; clear hb))
        refine (dkCopied _ l _ (H.out.below (by repeat (first | exact Below.refl _ _ | assumption | refine Below.drew ?_ | refine Below.drewN' ?_ _ | refine below_grow0 _ _ ?_ | refine below_alloc0 _ ?_ | refine Below.alloc ?_ (by first | omega | (simp; done) | (simp; omega)) _ | refine Below.setCell ?_ (by first | omega | (simp; done) | (simp; omega)) _ | refine Below.grow _ _ _ ?_ (by first | omega | (simp; done) | (simp; omega))))) (by omega) (by simp [maxLen]; omega)).mono ?_
        rintro e w3 ⟨A3, c3, rfl, ho3, hb3⟩
        obtain ⟨ext3, d3, rfl⟩ := Below.grown_eq _ hb3
        obtain ⟨g3, J, rfl, hg3, hbk3, hcl, hlc, hcm, _⟩ := ho3.blk (by omega)
        have hbk4 : Bk (grow (grow (grow ((w.alloc (.cells #[.slice (some ⟨g3, 0, none⟩) l.length c3] 26)).alloc (.cells #[.slice none 0 0] 26)) ext d) ext2 d2) ext3 d3) g3 (l.flatMap cFile ++ J) 70 := hbk3.regrow (by simpa using hg3) (by simp)
        have hg4 : w.heap.size + 1 + 1 ≤ g3 := by simp at hg3; omega
        obtain ⟨r0, r1, r2⟩ := file_cells hbk4 HX.out
        have HBK := Lib.hid hbk4
        have HCL := Lib.hid hcl
        clear hb3 ho3 hbk3 hbk4 hg3 hcl
        go_wp2_with fail
        refine (dkCut1_no g3 (q * 3) bn n x _ r1 r2 ((show Below w.heap.size w _ from (by repeat (first | exact Below.refl _ _ | assumption | refine Below.drew ?_ | refine Below.drewN' ?_ _ | refine below_grow0 _ _ ?_ | refine below_alloc0 _ ?_ | refine Below.alloc ?_ (by first | omega | (simp; done) | (simp; omega)) _ | refine Below.setCell ?_ (by first | omega | (simp; done) | (simp; omega)) _ | refine Below.grow _ _ _ ?_ (by first | omega | (simp; done) | (simp; omega))))).cell (p := ⟨bn, 0, none⟩) hbn |>.trans cn) z1 z2 HR.out).mono ?_
        rintro e w4 ⟨rfl, rfl⟩
        go_wp2_with fail
        refine bodyPost_ret (v := .tuple #[.agg #[.slice none 0 0], .int .i64 3]) (by simp [results, Tryd.results49, go_sem]) rfl ⟨none, 0, rfl, Ow.nil _ _ _ _ _, (by repeat (first | exact Below.refl _ _ | assumption | refine Below.drew ?_ | refine Below.drewN' ?_ _ | refine below_grow0 _ _ ?_ | refine below_alloc0 _ ?_ | refine Below.alloc ?_ (by first | omega | (simp; done) | (simp; omega)) _ | refine Below.setCell ?_ (by first | omega | (simp; done) | (simp; omega)) _ | refine Below.grow _ _ _ ?_ (by first | omega | (simp; done) | (simp; omega))))⟩
set_option maxHeartbeats 1000000 in
theorem dkCut (v : Value) (l : List File) (p : ByteArray) (n : Int) (w : World) (h : Sl cFile 3 w v l) (hz : ∀ x ∈ l, x.sized) :
    Calls Tryd.prog 35 #[.agg #[v], .string p, .int .i64 n] w (DkRes (cutL l p n) (cutE l p n) w) := by
  obtain ⟨A, c, rfl, hc1, hc2⟩ := h.form
  have H := Lib.hid h
  have HC := Lib.hid (fun (W : World) (bn : Nat) (hs : Sl cFile 3 W (.slice A l.length c) l) (cn : W.cell? ⟨bn, 0, none⟩ = some (.int .i64 n)) (hb : bn < W.heap.size) => dkChangeCut _ l p bn n W hs hz cn hb)
  generalize cutL l p n = L at *
  generalize cutE l p n = code at *
  clear h hz
  go_enter Tryd.func35, Tryd.ntmps35
  go_wp2_with (first | (go_at_call 49; refine (HC.out _ (w.heap.size + 1) (H.out.below (by repeat (first | exact Below.refl _ _ | assumption | refine Below.drew ?_ | refine Below.drewN' ?_ _ | refine below_grow0 _ _ ?_ | refine below_alloc0 _ ?_ | refine Below.alloc ?_ (by first | omega | (simp; done) | (simp; omega)) _ | refine Below.setCell ?_ (by first | omega | (simp; done) | (simp; omega)) _ | refine Below.grow _ _ _ ?_ (by first | omega | (simp; done) | (simp; omega))))) (by go_simp) (by simp)).mono ?_; rintro e w1 ⟨A1, k1, rfl, hs1, hb1⟩; have HS1 := Lib.hid hs1; obtain ⟨ext, d, rfl⟩ := Below.grown_eq _ hb1; clear hs1 hb1))
  refine bodyPost_ret (v := .tuple #[.agg #[.slice A1 L.length k1], .int .i64 code]) (by simp [results, Tryd.results35, go_sem]) rfl ⟨A1, k1, rfl, ?_, (by repeat (first | exact Below.refl _ _ | assumption | refine Below.drew ?_ | refine Below.drewN' ?_ _ | refine below_grow0 _ _ ?_ | refine below_alloc0 _ ?_ | refine Below.alloc ?_ (by first | omega | (simp; done) | (simp; omega)) _ | refine Below.setCell ?_ (by first | omega | (simp; done) | (simp; omega)) _ | refine Below.grow _ _ _ ?_ (by first | omega | (simp; done) | (simp; omega))))⟩
  exact (HS1.out.regrow (Nat.le_refl _) (by simp)).mono (by simp; omega)
end Go.Proofs.YtkoemhdchoicaaaDoor

/- package disk: Crash: under way. -/
namespace Go.Proofs.YtkoemhdchoicaaaDoor
open Go.RowKit Go.ChangeShapes Go.WideShapes Go.ChangeAt
def crashF (keep : Nat) (x : File) : File := ⟨x.name, x.safe ++ x.tail.extract 0 (min keep x.tail.size), ⟨#[]⟩⟩
def crashK (keep : Nat) (l : List File) (k : Nat) : List File := (l.take k).map (crashF keep) ++ l.drop k
theorem crashK_at {keep : Nat} {l : List File} {k : Nat} {x : File} (hx : l[k]? = some x) : (crashK keep l k)[k]? = some x ∧ (crashK keep l k).set k (crashF keep x) = crashK keep l (k + 1) := by
  have hk : k < l.length := (List.getElem?_eq_some_iff.1 hx).1
  have hl : ((l.take k).map (crashF keep)).length = k := by rw [List.length_map, List.length_take, Nat.min_eq_left (by omega)]
  have hd : l.drop k = x :: l.drop (k + 1) := by
    have : l[k] = x := (List.getElem?_eq_some_iff.1 hx).2
    rw [← this, List.getElem_cons_drop]
  unfold crashK
  constructor
  · rw [List.getElem?_append_right (by omega), hl, Nat.sub_self, hd]; rfl
  · rw [List.set_append_right _ _ (by omega), hl, Nat.sub_self, hd, List.take_add_one, hx]
    simp
theorem crashK_len (keep : Nat) (l : List File) (k : Nat) : (crashK keep l k).length = l.length := by unfold crashK; simp; omega
theorem crashK_all (keep : Nat) (l : List File) : crashK keep l l.length = l.map (crashF keep) := by unfold crashK; simp
def crashE (l : List File) (keep : Int) : Int := if goodD l then (if keep < 0 then 3 else 0) else 3
def crashL (l : List File) (keep : Int) : List File := if goodD l then (if keep < 0 then [] else l.map (crashF keep.toNat)) else []
set_option maxHeartbeats 2000000 in
theorem dkCrash (v : Value) (l : List File) (keep : Int) (w : World) (h : Sl cFile 3 w v l) (hz : ∀ x ∈ l, x.sized) :
    Calls Tryd.prog 17 #[.agg #[v], .int .i64 keep] w (DkRes (crashL l keep) (crashE l keep) w) := by
  obtain ⟨A, c, rfl, hc1, hc2⟩ := h.form
  have H := Lib.hid h
  have HG := Lib.hid (fun (W : World) (hs : Sl cFile 3 W (.slice A l.length c) l) => dkGood _ l W hs hz)
  have HZ := Lib.hid hz
  unfold crashL crashE
  cases hg : goodD l with
  | false =>
    rw [hg] at HG
    clear h hz hg
    simp only [Bool.false_eq_true, if_false]
    go_enter Tryd.func17, Tryd.ntmps17
    go_wp2_with
      (first | (go_at_call 28; refine (HG.out _ (H.out.below (by repeat (first | exact Below.refl _ _ | assumption | refine Below.drew ?_ | refine Below.drewN' ?_ _ | refine below_grow0 _ _ ?_ | refine below_alloc0 _ ?_ | refine Below.alloc ?_ (by first | omega | (simp; done) | (simp; omega)) _ | refine Below.setCell ?_ (by first | omega | (simp; done) | (simp; omega)) _ | refine Below.grow _ _ _ ?_ (by first | omega | (simp; done) | (simp; omega)))))).mono ?_; rintro e w1 ⟨rfl, hb⟩; obtain ⟨ext, d, rfl⟩ := Below.grown_eq _ hb; clear hb))
    refine bodyPost_ret (v := .tuple #[.agg #[.slice none 0 0], .int .i64 3]) (by simp [results, Tryd.results17, go_sem]) rfl ⟨none, 0, rfl, Ow.nil _ _ _ _ _, (by repeat (first | exact Below.refl _ _ | assumption | refine Below.drew ?_ | refine Below.drewN' ?_ _ | refine below_grow0 _ _ ?_ | refine below_alloc0 _ ?_ | refine Below.alloc ?_ (by first | omega | (simp; done) | (simp; omega)) _ | refine Below.setCell ?_ (by first | omega | (simp; done) | (simp; omega)) _ | refine Below.grow _ _ _ ?_ (by first | omega | (simp; done) | (simp; omega))))⟩
  | true =>
    rw [hg] at HG
    have hl16 := goodD_len hg
    clear h hz hg
    simp only [if_true]
    by_cases hk : keep < 0
    · simp only [if_pos hk]
      go_enter Tryd.func17, Tryd.ntmps17
      go_wp2_with
        (first | (go_at_call 28; refine (HG.out _ (H.out.below (by repeat (first | exact Below.refl _ _ | assumption | refine Below.drew ?_ | refine Below.drewN' ?_ _ | refine below_grow0 _ _ ?_ | refine below_alloc0 _ ?_ | refine Below.alloc ?_ (by first | omega | (simp; done) | (simp; omega)) _ | refine Below.setCell ?_ (by first | omega | (simp; done) | (simp; omega)) _ | refine Below.grow _ _ _ ?_ (by first | omega | (simp; done) | (simp; omega)))))).mono ?_; rintro e w1 ⟨rfl, hb⟩; obtain ⟨ext, d, rfl⟩ := Below.grown_eq _ hb; clear hb))
      refine bodyPost_ret (v := .tuple #[.agg #[.slice none 0 0], .int .i64 3]) (by simp [results, Tryd.results17, go_sem]) rfl ⟨none, 0, rfl, Ow.nil _ _ _ _ _, (by repeat (first | exact Below.refl _ _ | assumption | refine Below.drew ?_ | refine Below.drewN' ?_ _ | refine below_grow0 _ _ ?_ | refine below_alloc0 _ ?_ | refine Below.alloc ?_ (by first | omega | (simp; done) | (simp; omega)) _ | refine Below.setCell ?_ (by first | omega | (simp; done) | (simp; omega)) _ | refine Below.grow _ _ _ ?_ (by first | omega | (simp; done) | (simp; omega))))⟩
    · simp only [if_neg hk]
      obtain ⟨m, rfl⟩ := Int.eq_ofNat_of_zero_le (show 0 ≤ keep by omega)
      have hmn : (decide ((m : Int) < 0)) = false := by simp
      rw [Int.toNat_natCast]
      clear hk
      go_enter Tryd.func17, Tryd.ntmps17
      go_wp2_with
        (first | (go_at_call 28; refine (HG.out _ (H.out.below (by repeat (first | exact Below.refl _ _ | assumption | refine Below.drew ?_ | refine Below.drewN' ?_ _ | refine below_grow0 _ _ ?_ | refine below_alloc0 _ ?_ | refine Below.alloc ?_ (by first | omega | (simp; done) | (simp; omega)) _ | refine Below.setCell ?_ (by first | omega | (simp; done) | (simp; omega)) _ | refine Below.grow _ _ _ ?_ (by first | omega | (simp; done) | (simp; omega)))))).mono ?_; rintro e w1 ⟨rfl, hb⟩; obtain ⟨ext, d, rfl⟩ := Below.grown_eq _ hb; clear hb))
      refine (dkCopied _ l _ (H.out.below (by repeat (first | exact Below.refl _ _ | assumption | refine Below.drew ?_ | refine Below.drewN' ?_ _ | refine below_grow0 _ _ ?_ | refine below_alloc0 _ ?_ | refine Below.alloc ?_ (by first | omega | (simp; done) | (simp; omega)) _ | refine Below.setCell ?_ (by first | omega | (simp; done) | (simp; omega)) _ | refine Below.grow _ _ _ ?_ (by first | omega | (simp; done) | (simp; omega))))) (by omega) (by simp [maxLen]; omega)).mono ?_
      rintro e w3 ⟨A3, c3, rfl, ho3, hb3⟩
      obtain ⟨ext3, d3, rfl⟩ := Below.grown_eq _ hb3
      rcases Nat.eq_zero_or_pos l.length with h0 | h0
      · obtain rfl := List.eq_nil_of_length_eq_zero h0
        have HO3 := Lib.hid ho3
        clear hb3 ho3
        simp only [List.length_nil]
        go_wp2_with fail
        refine wp_loop_rounds 1 ?_
        rw [rounds_succ]
        go_wp2_with fail
        refine bodyPost_ret (v := .tuple #[.agg #[.slice A3 0 c3], .int .i64 0]) (by simp [results, Tryd.results17, go_sem]) rfl ⟨A3, c3, rfl, ?_, (by repeat (first | exact Below.refl _ _ | assumption | refine Below.drew ?_ | refine Below.drewN' ?_ _ | refine below_grow0 _ _ ?_ | refine below_alloc0 _ ?_ | refine Below.alloc ?_ (by first | omega | (simp; done) | (simp; omega)) _ | refine Below.setCell ?_ (by first | omega | (simp; done) | (simp; omega)) _ | refine Below.grow _ _ _ ?_ (by first | omega | (simp; done) | (simp; omega))))⟩
        exact (HO3.out.regrow (Nat.le_refl _) (by simp)).mono (by simp; omega)
      · obtain ⟨g3, J, rfl, hg3, hbk3, hcl, hlc, hcm, _⟩ := ho3.blk h0
        have hg4 : w.heap.size + 1 + 1 ≤ g3 := by simp at hg3; omega
        have HB3 := Lib.hid hbk3
        have HG3 := Lib.hid hg3
        have HCL := Lib.hid hcl
        clear hb3 ho3 hbk3 hg3 hcl
        go_wp2_with fail
        go_loopw [21] (fun i wr => ∃ (k : Nat) (ext : Array Obj) (d : Nat), k ≤ l.length ∧ i = .int .i64 k ∧ wr = grow ((w.alloc (.cells #[.slice (some ⟨g3, 0, none⟩) l.length c3] 26)).alloc (.cells #[.slice none 0 0] 26)) ext d ∧ Hid (Bk wr g3 ((crashK m l k).flatMap cFile ++ J) 70)) (fun i _ => l.length - (intOf i).toNat)
        case atStart => exact ⟨0, _, _, Nat.zero_le _, rfl, grown_of (by repeat (first | exact Below.refl _ _ | assumption | refine Below.drew ?_ | refine Below.drewN' ?_ _ | refine below_grow0 _ _ ?_ | refine below_alloc0 _ ?_ | refine Below.alloc ?_ (by first | omega | (simp; done) | (simp; omega)) _ | refine Below.setCell ?_ (by first | omega | (simp; done) | (simp; omega)) _ | refine Below.grow _ _ _ ?_ (by first | omega | (simp; done) | (simp; omega)))), Lib.hid (by simpa [crashK] using HB3.out.regrow HG3.out (by simp))⟩
        case round =>
          obtain ⟨k, ext5, d5, hk, rfl, rfl, hbk⟩ := hrel
          by_cases hlt : k < l.length
          · have hx : l[k]? = some (l[k]'hlt) := List.getElem?_eq_getElem _
            obtain ⟨z0, z1, z2⟩ := HZ.out _ (List.mem_of_getElem? hx)
            obtain ⟨hat, hset⟩ := crashK_at (keep := m) hx
            generalize l[k]'hlt = x at *
            have hbk1 : Bk (grow ((w.alloc (.cells #[.slice (some ⟨g3, 0, none⟩) l.length c3] 26)).alloc (.cells #[.slice none 0 0] 26)) ext5 (d5 + 1)) g3 ((crashK m l k).flatMap cFile ++ J) 70 := hbk.out
            obtain ⟨r0, r1, r2⟩ := file_cells hbk1 hat
            have f1 := hbk1.frozen (k * 3 + 1)
            have f2 := hbk1.frozen (k * 3 + 2)
            have HBK1 := Lib.hid hbk1
            clear hbk1
            have HAT := Lib.hid hat
            have HSET := Lib.hid hset
            clear hx hat hset
            go_wp2_with fail
            go_region
            have hb6 : Below ((w.alloc (.cells #[.slice (some ⟨g3, 0, none⟩) l.length c3] 26)).alloc (.cells #[.slice none 0 0] 26)).heap.size ((w.alloc (.cells #[.slice (some ⟨g3, 0, none⟩) l.length c3] 26)).alloc (.cells #[.slice none 0 0] 26)) (((grow ((w.alloc (.cells #[.slice (some ⟨g3, 0, none⟩) l.length c3] 26)).alloc (.cells #[.slice none 0 0] 26)) ext5 (d5 + 1)).setCell ⟨g3, k * 3 + 1, none⟩ (.string (x.safe ++ x.tail.extract 0 (min (m : Int) (x.tail.size : Int)).toNat))).setCell ⟨g3, k * 3 + 2, none⟩ (.string ⟨#[]⟩)) := Below.put (Below.put (by repeat (first | exact Below.refl _ _ | assumption | refine Below.drew ?_ | refine Below.drewN' ?_ _ | refine below_grow0 _ _ ?_ | refine below_alloc0 _ ?_ | refine Below.alloc ?_ (by first | omega | (simp; done) | (simp; omega)) _ | refine Below.setCell ?_ (by first | omega | (simp; done) | (simp; omega)) _ | refine Below.grow _ _ _ ?_ (by first | omega | (simp; done) | (simp; omega)))) (by simp; omega)) (by simp; omega)
            have hbk6 : Bk (((grow ((w.alloc (.cells #[.slice (some ⟨g3, 0, none⟩) l.length c3] 26)).alloc (.cells #[.slice none 0 0] 26)) ext5 (d5 + 1)).setCell ⟨g3, k * 3 + 1, none⟩ (.string (x.safe ++ x.tail.extract 0 (min (m : Int) (x.tail.size : Int)).toNat))).setCell ⟨g3, k * 3 + 2, none⟩ (.string ⟨#[]⟩)) g3 ((crashK m l (k + 1)).flatMap cFile ++ J) 70 := by
              have := (HBK1.out.put (k * 3 + 1) (.string (x.safe ++ x.tail.extract 0 (min (m : Int) (x.tail.size : Int)).toNat))).put (k * 3 + 2) (.string ⟨#[]⟩)
              rw [set_file HAT.out] at this
              rw [← HSET.out]
              unfold crashF
              rw [show (min (m : Int) (x.tail.size : Int)).toNat = min m x.tail.size from by omega] at this ⊢
              exact this
            generalize (((grow ((w.alloc (.cells #[.slice (some ⟨g3, 0, none⟩) l.length c3] 26)).alloc (.cells #[.slice none 0 0] 26)) ext5 (d5 + 1)).setCell ⟨g3, k * 3 + 1, none⟩ (.string (x.safe ++ x.tail.extract 0 (min (m : Int) (x.tail.size : Int)).toNat))).setCell ⟨g3, k * 3 + 2, none⟩ (.string ⟨#[]⟩)) = w6 at hb6 hbk6 ⊢
            obtain ⟨ext6, d6, rfl⟩ := Below.grown_eq _ hb6
            have HBK6 := Lib.hid hbk6
            clear hb6 hbk6 hbk HBK1 r0 r1 r2 f1 f2
            go_wp2_with fail
            go_roundw
            case rel => exact ⟨k + 1, _, _, by omega, by go_num, rfl, HBK6⟩
            case measure => simp [intOf]; omega
          · have hk' : k = l.length := by omega
            subst hk'
            have hbk' := hbk.out
            rw [crashK_all] at hbk'
            have HBK := Lib.hid hbk'
            clear hbk hbk'
            go_wp2_with fail
            have hlen : ((l.map (crashF m)).flatMap cFile ++ J).length = c3 * 3 := by
              rw [← HCL.out, List.length_append, List.length_append, flatMap_length (f := cFile) (s := 3) (fun _ _ => rfl), flatMap_length (f := cFile) (s := 3) (fun _ _ => rfl), List.length_map]
            refine bodyPost_ret (v := .tuple #[.agg #[.slice (some ⟨g3, 0, none⟩) l.length c3], .int .i64 0]) (by simp [results, Tryd.results17, go_sem]) rfl ⟨some ⟨g3, 0, none⟩, c3, by rw [List.length_map], ?_, (by repeat (first | exact Below.refl _ _ | assumption | refine Below.drew ?_ | refine Below.drewN' ?_ _ | refine below_grow0 _ _ ?_ | refine below_alloc0 _ ?_ | refine Below.alloc ?_ (by first | omega | (simp; done) | (simp; omega)) _ | refine Below.setCell ?_ (by first | omega | (simp; done) | (simp; omega)) _ | refine Below.grow _ _ _ ?_ (by first | omega | (simp; done) | (simp; omega))))⟩
            exact Ow.of_blk (f := cFile) (s := 3) (B := w.heap.size) (fun _ _ => rfl) (by omega) (HBK.out.regrow (by simp; omega) (by simp)) rfl hlen (by rw [List.length_map]; exact hlc) hcm
end Go.Proofs.YtkoemhdchoicaaaDoor

/- the laws' helpers on disks: copied, sameDisk, pick. -/
namespace Go.Proofs.YtkoemhdchoicaaaDoor
open Go.RowKit Go.ChangeShapes Go.WideShapes Go.ChangeAt
theorem retI {k : IntKind} {a b : Int} (h : a = b) : Ending.returned (.int k a) = Ending.returned (.int k b) := by rw [h]
theorem pick_is (k : Int) (n : Nat) (w : World) (h0 : 0 < n) (h1 : n ≤ 140737488355328) :
    Calls Tryd.prog 10 #[.int .i64 k, .int .i64 n] w fun e w' => ∃ f : Nat, f < n ∧ e = .returned (.int .i64 f) ∧ w = w' := by
  have ht1 : -(n : Int) < k.tmod n := by
    have := Int.tmod_lt_of_pos (-k) (show (0 : Int) < n by omega)
    rw [Int.neg_tmod] at this
    omega
  have ht2 : k.tmod n < (n : Int) := Int.tmod_lt_of_pos _ (by omega)
  generalize hq : k.tmod n = q at *
  by_cases hn : q < 0
  · go_enter Tryd.func10, Tryd.ntmps10
    go_wp2
    go_ret
    exact ⟨(q + n).toNat, by omega, retI (by omega), rfl⟩
  · go_enter Tryd.func10, Tryd.ntmps10
    go_wp2
    go_ret
    exact ⟨q.toNat, by omega, retI (by omega), rfl⟩
end Go.Proofs.YtkoemhdchoicaaaDoor

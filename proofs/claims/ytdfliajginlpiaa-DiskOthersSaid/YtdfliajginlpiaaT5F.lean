/- made by geninst.py from XT5.src -/
import Derived.Test.YtdfliajginlpiaaT5
import Derived.Test.YtdfliajginlpiaaT4F
namespace Go.Proofs.Ytdfliajginlpiaa
open Go.RowKit
set_option maxRecDepth 100000 in
set_option maxHeartbeats 1000000 in
theorem delFile_core (g n c k j m q : Nat) (cur news : List Value) (w : World) (hb : Bk w g cur 47) (hnews : news.length = m * 3) (hsrc : ∀ (i : Nat) (v : Value), news[i]? = some v → cur[j * 3 + i]? = some v)
    (hone : ∀ v ∈ news, v.oneCell' = true) (hlen : cur.length = c * 3) (hj : j = k + 1) (hm : k + m = q) (hn : n = q + 1) (hnc : n ≤ c) (hc : c ≤ 9223372036854775807) :
    Calls Try.prog 36 #[.slice (some ⟨g, 0, none⟩) n c, .int .i64 k, .int .i64 j] w fun e w' => e = .returned (.slice (some ⟨g, 0, none⟩) q c) ∧
      Hid (∃ cur', Bk w' g cur' 47 ∧ cur'.length = cur.length ∧ cur'.take (q * 3) = (splice cur (k * 3) news).take (q * 3) ∧ w.grownBy w' (some g)) := by
  have HB := Lib.hid hb
  have HO := Lib.hid hone
  have HN := Lib.hid hnews
  have HS := Lib.hid hsrc
  have HL := Lib.hid hlen
  have hkc : (k : Int) ≤ (c : Int) := by omega
  have hjn : (j : Int) ≤ (n : Int) := by omega
  have hnci : (n : Int) ≤ (c : Int) := by omega
  have hqn : (q : Int) ≤ (n : Int) := by omega
  have hqc : (q : Int) ≤ (c : Int) := by omega
  have hkj : (k : Int) ≤ (j : Int) := by omega
  have hkk : ((k : Int) == (j : Int)) = false := beq_eq_false_iff_ne.2 (by omega)
  have hnq : n - q = 1 := by omega
  have HQ := Lib.hid hn
  have HJ := Lib.hid hj
  have HBD : Hid (Bk w.drew g cur 47) := HB
  clear hb hone hnews hsrc hlen
  by_cases hcj : c = j
  · have hm0 : m = 0 := by omega
    subst hm0
    rw [Nat.add_zero] at hm
    subst hm
    have hn0 : news = [] := List.eq_nil_of_length_eq_zero (by simpa using HN.out)
    have HN0 := Lib.hid hn0
    have hnj : n = j := by omega
    subst hnj
    subst hcj
    clear hn hj hn0
    go_enter Try.func36, Try.ntmps36
    go_wp2_with fail
    go_region_law (first | (refine step_apr rfl (.tmp 22) (.tmp 25) _ rfl elFile (g := g) (k := k) (c := c) (off := 0) (m := 0) (cc := 0) (news := news) (by simp [Act.eval, Act.put]) (by simp [Act.eval, Act.put]) HBD.out (by rw [HN0.out]; rfl) (by rw [HN0.out]; simp) (by omega) (by rw [HN0.out, HL.out]; simp; omega) HO.out ?_; intro w2 hb2 hg2 hz2; have HB2 := Lib.hid hb2; have HG2 := Lib.hid hg2; have HZ2 := Lib.hid hz2; clear hb2 hg2 hz2))
    have hsl : (splice cur (k * 3) news).length = c * 3 := by rw [splice_length _ _ _ (by rw [HN0.out, HL.out]; simp; omega), HL.out]
    have HSL := Lib.hid hsl
    clear hsl
    go_wp2_with (first | (with_reducible refine wpList_atclr ?_); (refine wpList_clr rfl (.tmp 31) _ rfl elFile (off := k * 3) (n := 1) rfl HB2.out (by decide) (by rw [HSL.out]; omega) ?_; intro w3 cur3 hb3 hl3 ht3 hg3 _; have HB3 := Lib.hid hb3; have HL3 := Lib.hid hl3; have HT3 := Lib.hid ht3; have HG3 := Lib.hid hg3; clear hb3 hl3 ht3 hg3))
    refine bodyPost_ret (v := .slice (some ⟨g, 0, none⟩) k c) (by simp [results, Try.results36, go_sem]) rfl ⟨rfl, Lib.hid ⟨cur3, HB3.out, by rw [HL3.out, HSL.out, HL.out], HT3.out, ?_⟩⟩
    exact (show w.grownBy w2 (some g) from ⟨HG2.out.os, HG2.out.tape, HG2.out.output, HG2.out.size, HG2.out.block⟩).trans HG3.out
  · clear hn hj
    go_enter Try.func36, Try.ntmps36
    go_wp2_with fail
    go_region_law (first | (refine step_apr rfl (.tmp 22) (.tmp 25) _ rfl elFile (g := g) (k := k) (c := c) (off := j * 3) (m := m) (cc := c - j) (news := news) (by simp [Act.eval, Act.put]) (by simp [Act.eval, Act.put]; have := HQ.out; have := HJ.out; omega) HBD.out HN.out HS.out (by have := HQ.out; omega) (by rw [HN.out, HL.out]; have := HQ.out; omega) HO.out ?_; intro w2 hb2 hg2 hz2; have HB2 := Lib.hid hb2; have HG2 := Lib.hid hg2; have HZ2 := Lib.hid hz2; clear hb2 hg2 hz2))
    have hsl : (splice cur (k * 3) news).length = c * 3 := by rw [splice_length _ _ _ (by rw [HN.out, HL.out]; have := HQ.out; omega), HL.out]
    have HSL := Lib.hid hsl
    clear hsl
    go_wp2_with (first | (with_reducible refine wpList_atclr ?_); (refine wpList_clr rfl (.tmp 31) _ rfl elFile (off := q * 3) (n := 1) rfl HB2.out (by decide) (by rw [HSL.out]; have := HQ.out; omega) ?_; intro w3 cur3 hb3 hl3 ht3 hg3 _; have HB3 := Lib.hid hb3; have HL3 := Lib.hid hl3; have HT3 := Lib.hid ht3; have HG3 := Lib.hid hg3; clear hb3 hl3 ht3 hg3))
    refine bodyPost_ret (v := .slice (some ⟨g, 0, none⟩) q c) (by simp [results, Try.results36, go_sem]) rfl ⟨rfl, Lib.hid ⟨cur3, HB3.out, by rw [HL3.out, HSL.out, HL.out], HT3.out, ?_⟩⟩
    exact (show w.grownBy w2 (some g) from ⟨HG2.out.os, HG2.out.tape, HG2.out.output, HG2.out.size, HG2.out.block⟩).trans HG3.out
theorem delFile (A : Option Addr) (n c k : Nat) (l : List File) (w : World) (B : Nat) (hown : Ow cFile 3 47 w B (.slice A n c) l) (hk : k < l.length) (hc : c ≤ 9223372036854775807) :
    Calls Try.prog 36 #[.slice A n c, .int .i64 k, .int .i64 (k + 1)] w fun e w' => e = .returned (.slice A (n - 1) c) ∧ Hid (Ow cFile 3 47 w' B (.slice A (n - 1) c) (l.take k ++ l.drop (k + 1)) ∧ w.grownBy w' (Value.slice A n c).ownBlock) := by
  have hnl : n = l.length := by obtain ⟨_, _, h, _⟩ := hown.form; injection h
  obtain ⟨g, J, rfl, hBg, hbk, hbl, hnc, hcm, _⟩ := hown.blk (by omega)
  have hf : ∀ x ∈ l, (cFile x).length = 3 := fun _ _ => rfl
  have hsp := drop_rows hf (k + 1)
  have hnews : ((l.drop (k + 1)).flatMap cFile).length = (n - (k + 1)) * 3 := by rw [flatMap_length (f := cFile) (s := 3) (fun _ _ => rfl), List.length_drop, hnl]
  have hsrc : ∀ (i : Nat) (v : Value), ((l.drop (k + 1)).flatMap cFile)[i]? = some v → (l.flatMap cFile ++ J)[(k + 1) * 3 + i]? = some v := by
    intro i v hj
    rw [← hsp, List.getElem?_drop] at hj
    rw [List.getElem?_append_left (List.getElem?_eq_some_iff.1 hj).1]
    exact hj
  have hone : ∀ v ∈ (l.drop (k + 1)).flatMap cFile, v.oneCell' = true := by intro v hv; obtain ⟨y, _, hy⟩ := List.mem_flatMap.1 hv; exact cFile_one y v hy
  have htake := take_rows2 hf (Nat.le_of_lt hk) J
  have hlen : (l.take k ++ l.drop (k + 1)).length = n - 1 := by rw [List.length_append, List.length_take, List.length_drop]; omega
  rw [show (k : Int) + 1 = ((k + 1 : Nat) : Int) from by omega]
  refine (delFile_core g n c k (k + 1) (n - (k + 1)) (n - 1) _ _ w hbk hnews hsrc hone hbl rfl (by omega) (by omega) hnc hc).mono ?_
  rintro e w' ⟨rfl, h⟩
  obtain ⟨cur', hb', hl', ht', hg'⟩ := h.out
  refine ⟨rfl, Lib.hid ⟨?_, hg'⟩⟩
  have hlt : ((l.take k).flatMap cFile).length = k * 3 := by rw [flatMap_length (f := cFile) (s := 3) (fun _ _ => rfl), List.length_take, Nat.min_eq_left (by omega)]
  have hpre : cur'.take ((n - 1) * 3) = (l.take k ++ l.drop (k + 1)).flatMap cFile := by
    rw [ht']
    unfold splice
    rw [htake, List.flatMap_append]
    have e : (n - 1) * 3 = ((l.take k).flatMap cFile ++ (l.drop (k + 1)).flatMap cFile).length := by rw [List.length_append, hlt, hnews]; omega
    rw [e, ← List.append_assoc, List.take_left]
  have hcur : cur' = (l.take k ++ l.drop (k + 1)).flatMap cFile ++ cur'.drop ((n - 1) * 3) := by rw [← hpre, List.take_append_drop]
  have := Ow.of_blk (f := cFile) (s := 3) (B := B) (fun _ _ => rfl) hBg hb' hcur (by rw [hl']; exact hbl) (by rw [hlen]; omega) hcm
  rw [hlen] at this
  exact this
end Go.Proofs.Ytdfliajginlpiaa

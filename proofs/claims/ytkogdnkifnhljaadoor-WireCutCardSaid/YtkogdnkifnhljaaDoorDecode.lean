/- wire.Decode: the walk. -/
import Derived.Test.YtkogdnkifnhljaaDoorDecS
namespace Go.Proofs.YtkogdnkifnhljaaDoor
open Go.RowKit Go.ChangeShapes Go.WideShapes Go.ChangeAt
set_option maxHeartbeats 1000000 in
theorem decode_any (s : ByteArray) (w : World) (hs : s.size ≤ 281474976710656) :
    Calls Tryd.prog 27 #[.string s] w fun e w' => e = .returned (.tuple #[vTxn (decR s).1, .int .i64 (decR s).2.1, .int .i64 (decR s).2.2]) ∧ Below w.heap.size w w' := by
  have HSUM := Lib.hid (fun (s : ByteArray) (w : World) (h : s.size ≤ 9223372036854775807) => show Calls Tryd.prog 44 #[.string s] w fun e w' => ∃ n : Nat, e = .returned (.int .i64 n) ∧ n < 4294967296 ∧ Hid (sumN (bs s) = n) ∧ w = w' from (sum_any s w h).mono fun e w' h => ⟨_, h.1, sumN_lt _, Lib.hid rfl, h.2⟩)
  have D0 := Lib.hid (show DSt w ((w.alloc (.cells #[.int .i64 0, .int .i64 0, .int .i64 0, .string ⟨#[]⟩, .string ⟨#[]⟩, .int .i64 0, .int .i64 0] 42)).alloc (.cells #[.string s, .bool false] 73)) s false from ⟨(by repeat (first | exact Below.refl _ _ | assumption | refine Below.drew ?_ | refine Below.drewN' ?_ _ | refine below_grow0 _ _ ?_ | refine below_alloc0 _ ?_ | refine Below.alloc ?_ (by first | omega | (simp; done) | (simp; omega)) _ | refine Below.setCell ?_ (by first | omega | (simp; done) | (simp; omega)) _ | refine Below.grow _ _ _ ?_ (by first | omega | (simp; done) | (simp; omega)))), (Blk.new w _ _).alloc _, (by have h := cur_new (w.alloc (.cells #[.int .i64 0, .int .i64 0, .int .i64 0, .string ⟨#[]⟩, .string ⟨#[]⟩, .int .i64 0, .int .i64 0] 42)) s false 73; simpa using h)⟩)
  go_enter Tryd.func27, Tryd.ntmps27
  go_upto_region 2 with (fail)
  generalize ((w.alloc (.cells #[.int .i64 0, .int .i64 0, .int .i64 0, .string ⟨#[]⟩, .string ⟨#[]⟩, .int .i64 0, .int .i64 0] 42)).alloc (.cells #[.string s, .bool false] 73)) = W0 at *
  go_upto_region 5 with (first | (go_at_call 46; (refine (text_any _ s false 1 _ D0.out.c (by decide) (by omega)).mono ?_); rintro e W1 ⟨rfl, hc, hg⟩; have D1 := Lib.hid (D0.out.step hc hg); clear hc hg D0; have HR1 := Lib.hid (show decR s = dec1 s (takeT s false 1) (restT s false 1) (badT s false 1) from rfl); have hs1 := restT_size s false 1; generalize ht1 : takeT s false 1 = t1 at *; generalize hs1e : restT s false 1 = s1 at *; generalize hb1e : badT s false 1 = b1 at *; have z0 := D1.out.z.cell 0; have z1 := D1.out.z.cell 1; have z2 := D1.out.z.cell 2; have z3 := D1.out.z.cell 3; have z4 := D1.out.z.cell 4; have z5 := D1.out.z.cell 5; have z6 := D1.out.z.cell 6; have zf := D1.out.z.frozen) | (go_at_call 47; (refine (number_any _ s1 b1 2 _ D1.out.c (by decide) (by omega)).mono ?_); rintro e W2 ⟨rfl, hc, hg⟩; have D2 := Lib.hid (D1.out.step hc hg); clear hc hg D1; clear z0 z1 z2 z3 z4 z5 z6 zf; obtain ⟨n, hn, hnl⟩ := valT s1 b1 2 (by decide); have HR2 := Lib.hid (HR1.out.trans (dec1_ok ‹(!t1.toList == [84]) = false› hn)); clear HR1; generalize valI (bs (takeT s1 b1 2)) = x at *; subst hn; have hs2 := restT_size s1 b1 2; generalize hs2e : restT s1 b1 2 = s2 at *; generalize hb2e : badT s1 b1 2 = b2 at *; have zb := D2.out.c.2.1; have z0 := D2.out.z.cell 0; have z1 := D2.out.z.cell 1; have z2 := D2.out.z.cell 2; have z3 := D2.out.z.cell 3; have z4 := D2.out.z.cell 4; have z5 := D2.out.z.cell 5; have z6 := D2.out.z.cell 6; have zf := D2.out.z.frozen))
  all_goals try (exact dec_ret (t := txn0) (n := 0) (e := 2) (HR1.out.trans (dec1_bad ‹(!t1.toList == [84]) = true›)) D1.out.bel D1.out.z rfl rfl rfl rfl)
  go_upto_region 7 with (fail)
  all_goals try (exact dec_ret (t := txn0) (n := 0) (e := 2) (HR2.out.trans (dec2_bad ‹b2 = true›)) D2.out.bel D2.out.z rfl rfl rfl rfl)
  all_goals try (exact dec_ret (t := txn0) (n := 0) (e := 2) (HR2.out.trans (dec2_big ‹1024 < (n : Int)›)) D2.out.bel D2.out.z rfl rfl rfl rfl)
  go_upto_region 8 with (first | (go_at_call 46; (refine (text_any _ s2 b2 n _ D2.out.c (by omega) (by omega)).mono ?_); rintro e W3 ⟨rfl, hc, hg⟩; have D3 := Lib.hid (D2.out.step hc hg); clear hc hg D2 zb; clear z0 z1 z2 z3 z4 z5 z6 zf; have HR3 := Lib.hid (HR2.out.trans (dec2_ok ‹¬ b2 = true› ‹(n : Int) ≤ 1024›)); clear HR2; have ht3 := takeT_size s2 b2 n; have hs3 := restT_size s2 b2 n; generalize ht3 : takeT s2 b2 n = t3 at *; generalize hs3e : restT s2 b2 n = s3 at *; generalize hb3e : badT s2 b2 n = b3 at *))
  go_upto_region 11 with (first | (go_at_call 47; have HC3 := Lib.hid (cur_new W3 t3 false 73); have D3b := Lib.hid (D3.out.keep (show Below W3.heap.size W3 (World.alloc W3 (.cells #[.string t3, .bool false] 73)) from (by repeat (first | exact Below.refl _ _ | assumption | refine Below.drew ?_ | refine Below.drewN' ?_ _ | refine below_grow0 _ _ ?_ | refine below_alloc0 _ ?_ | refine Below.alloc ?_ (by first | omega | (simp; done) | (simp; omega)) _ | refine Below.setCell ?_ (by first | omega | (simp; done) | (simp; omega)) _ | refine Below.grow _ _ _ ?_ (by first | omega | (simp; done) | (simp; omega)))))); have hgt := D3.out.lt; (refine (number_any _ s3 b3 4 _ D3b.out.c (by decide) (by omega)).mono ?_); rintro e W4 ⟨rfl, hc, hg⟩; have D4 := Lib.hid (D3b.out.step hc hg); have HC4 := Lib.hid (cur_kept HC3.out hg (by simp; omega)); clear hc hg D3 D3b HC3; generalize W3.heap.size = g at *; obtain ⟨m, hm, hml⟩ := valT s3 b3 4 (by decide); have HR4 := Lib.hid (show decR s = dec4 s n t3 m (badT s3 b3 4) from HR3.out.trans (by unfold dec3; rw [hm])); clear HR3; generalize valI (bs (takeT s3 b3 4)) = x at *; subst hm; have hs4 := restT_size s3 b3 4; generalize hs4e : restT s3 b3 4 = s4 at *; generalize hb4e : badT s3 b3 4 = b4 at *; have zb := D4.out.c.2.1; have z0 := D4.out.z.cell 0; have z1 := D4.out.z.cell 1; have z2 := D4.out.z.cell 2; have z3 := D4.out.z.cell 3; have z4 := D4.out.z.cell 4; have z5 := D4.out.z.cell 5; have z6 := D4.out.z.cell 6; have zf := D4.out.z.frozen))
  all_goals try (exact dec_ret (t := txn0) (n := 0) (e := 2) (HR4.out.trans (dec4_bad ‹b4 = true›)) D4.out.bel D4.out.z rfl rfl rfl rfl)
  have hsz : n + 7 ≤ s.size := by
    have k4 := tk_ok (hb4e.trans ‹b4 = false›)
    have k3 := tk_ok (hb3e.trans k4.1)
    have k2 := tk_ok (hb2e.trans k3.1)
    have k1 := tk_ok (hb1e.trans k2.1)
    have l1 := length_bs s1
    rw [← hs1e, k1.2.2.1, List.length_drop, length_bs] at l1
    have l2 := length_bs s2
    rw [← hs2e, k2.2.2.1, List.length_drop, length_bs] at l2
    have l3 := length_bs s3
    rw [← hs3e, k3.2.2.1, List.length_drop, length_bs] at l3
    rw [hs1e] at l1
    rw [hs2e] at l2
    rw [hs3e] at l3
    omega
  go_upto_region 13 with ((go_at_call 44; (refine (HSUM.out _ _ (by rw [ByteArray.size_extract]; omega)).mono ?_); rintro e w13 ⟨sm, rfl, hsm, HSM, rfl⟩))
  all_goals try (exact dec_ret (t := txn0) (n := 0) (e := 5) (HR4.out.trans (dec4_sum ‹b4 = false› (by rw [HSM.out]; exact ‹((sm : Int) != (m : Int)) = true›))) D4.out.bel D4.out.z rfl rfl rfl rfl)
  have HQ0 := Lib.hid (HR4.out.trans (dec4_ok ‹b4 = false› (by rw [HSM.out]; exact ‹((sm : Int) != (m : Int)) = false›)))
  have E0 := Lib.hid (show DBt w W4 g t3 false from ⟨D4.out.bel, D4.out.z, HC4.out, by omega⟩)
  have hu0 : t3.size ≤ s.size := by omega
  clear HR4 D4 HC4 HSM hsz hs1 hs2 hs3 hs4 ht3 z0 z1 z2 z3 z4 z5 z6 zf zb hs1e hs2e hs3e hs4e hb1e hb2e hb3e hb4e HSUM
  clear ht1 ht3
  go_upto_region 14 with (first | (go_at_call 47; (refine (number_any _ t3 false 8 _ E0.out.c (by decide) (by omega)).mono ?_); rintro e X1 ⟨rfl, hc, hg⟩; have E1 := Lib.hid (E0.out.step hc hg); clear hc hg E0; have hu1 := restT_size t3 false 8; have HQ1 := Lib.hid (show decR s = dB2 n (valI (bs (takeT t3 false 8))) (restT t3 false 8) (badT t3 false 8) from HQ0.out); clear HQ0; generalize valI (bs (takeT t3 false 8)) = z at *; generalize restT t3 false 8 = u1 at *; generalize badT t3 false 8 = c1 at *) | (go_at_call 47; (refine (number_any _ u1 c1 1 _ E1.out.c (by decide) (by omega)).mono ?_); rintro e X2 ⟨rfl, hc, hg⟩; have E2 := Lib.hid (E1.out.step hc hg); clear hc hg E1; have hu2 := restT_size u1 c1 1; have HQ2 := Lib.hid (show decR s = dB3 n z (valI (bs (takeT u1 c1 1))) (restT u1 c1 1) (badT u1 c1 1) from HQ1.out); clear HQ1; generalize valI (bs (takeT u1 c1 1)) = o at *; generalize restT u1 c1 1 = u2 at *; generalize badT u1 c1 1 = c2 at *) | (go_at_call 47; (refine (number_any _ u2 c2 4 _ E2.out.c (by decide) (by omega)).mono ?_); rintro e X3 ⟨rfl, hc, hg⟩; have E3 := Lib.hid (E2.out.step hc hg); clear hc hg E2; have hu3 := restT_size u2 c2 4; have HQ3 := Lib.hid (show decR s = dB4 n z o (valI (bs (takeT u2 c2 4))) (restT u2 c2 4) (badT u2 c2 4) from HQ2.out); clear HQ2; generalize valI (bs (takeT u2 c2 4)) = ss at *; generalize restT u2 c2 4 = u3 at *; generalize badT u2 c2 4 = c3 at *) | (go_at_call 47; (refine (number_any _ u3 c3 4 _ E3.out.c (by decide) (by omega)).mono ?_); rintro e X4 ⟨rfl, hc, hg⟩; have E4 := Lib.hid (E3.out.step hc hg); clear hc hg E3; have hu4 := restT_size u3 c3 4; have HQ4 := Lib.hid (show decR s = dB5 n z o ss (valI (bs (takeT u3 c3 4))) (restT u3 c3 4) (badT u3 c3 4) from HQ3.out); clear HQ3; generalize valI (bs (takeT u3 c3 4)) = v at *; generalize restT u3 c3 4 = u4 at *; generalize badT u3 c3 4 = c4 at *) | (go_at_call 47; (refine (number_any _ u4 c4 4 _ E4.out.c (by decide) (by omega)).mono ?_); rintro e X5 ⟨rfl, hc, hg⟩; have E5 := Lib.hid (E4.out.step hc hg); clear hc hg E4; have hu5 := restT_size u4 c4 4; have HQ5 := Lib.hid (show decR s = dB6 n z o ss v (valI (bs (takeT u4 c4 4))) (restT u4 c4 4) (badT u4 c4 4) from HQ4.out); clear HQ4; generalize valI (bs (takeT u4 c4 4)) = ow at *; generalize restT u4 c4 4 = u5 at *; generalize badT u4 c4 4 = c5 at *))
  have E6 := Lib.hid (E5.out.keep (show Below X5.heap.size X5 (World.alloc X5 (.cells #[.int .i64 z, .int .i64 o, .int .i64 ss, .string ⟨#[]⟩, .string ⟨#[]⟩, .int .i64 v, .int .i64 ow] 42)) from (by repeat (first | exact Below.refl _ _ | assumption | refine Below.drew ?_ | refine Below.drewN' ?_ _ | refine below_grow0 _ _ ?_ | refine below_alloc0 _ ?_ | refine Below.alloc ?_ (by first | omega | (simp; done) | (simp; omega)) _ | refine Below.setCell ?_ (by first | omega | (simp; done) | (simp; omega)) _ | refine Below.grow _ _ _ ?_ (by first | omega | (simp; done) | (simp; omega))))))
  have F6 := Lib.hid (show Blk (World.alloc X5 (.cells #[.int .i64 z, .int .i64 o, .int .i64 ss, .string ⟨#[]⟩, .string ⟨#[]⟩, .int .i64 v, .int .i64 ow] 42)) X5.heap.size #[.int .i64 z, .int .i64 o, .int .i64 ss, .string ⟨#[]⟩, .string ⟨#[]⟩, .int .i64 v, .int .i64 ow] 42 from Blk.new _ _ _)
  have hgT := E5.out.lt
  clear E5
  generalize (World.alloc X5 (.cells #[.int .i64 z, .int .i64 o, .int .i64 ss, .string ⟨#[]⟩, .string ⟨#[]⟩, .int .i64 v, .int .i64 ow] 42)) = X6 at *
  generalize X5.heap.size = gT at *
  go_upto_region 15 with (first | (go_at_call 47; (refine (number_any _ u5 c5 1 _ E6.out.c (by decide) (by omega)).mono ?_); rintro e X7 ⟨rfl, hc, hg⟩; have E7 := Lib.hid (E6.out.step hc hg); have F7 := Lib.hid (F6.out.kept hg (by simp; omega)); clear hc hg E6 F6; have hu7 := restT_size u5 c5 1; obtain ⟨pl, hn, hlpl⟩ := valT u5 c5 1 (by decide); have HQ7 := Lib.hid (show decR s = dB7 n z o ss v ow pl (restT u5 c5 1) (badT u5 c5 1) from HQ5.out.trans (by unfold dB6; rw [hn]; rfl)); clear HQ5; generalize valI (bs (takeT u5 c5 1)) = x at *; subst hn; generalize restT u5 c5 1 = u7 at *; generalize badT u5 c5 1 = c7 at *) | (go_at_call 46; (refine (text_any _ u7 c7 pl _ E7.out.c (by omega) (by omega)).mono ?_); rintro e X8 ⟨rfl, hc, hg⟩; have E8 := Lib.hid (E7.out.step hc hg); have F8 := Lib.hid (F7.out.kept hg (by simp; omega)); clear hc hg E7 F7; have hu8 := restT_size u7 c7 pl; have ht8 := takeT_size u7 c7 pl; have HQ8 := Lib.hid (show decR s = dB8 n z o ss v ow (takeT u7 c7 pl) (restT u7 c7 pl) (badT u7 c7 pl) from HQ7.out); clear HQ7; generalize takeT u7 c7 pl = p at *; generalize restT u7 c7 pl = u8 at *; generalize badT u7 c7 pl = c8 at *; have y3 := F8.out.cell 3; have yf := F8.out.frozen))
  have E9 := Lib.hid (E8.out.other (grownBy_setCell X8 gT 3 (.string p)) hgT)
  have F9 := Lib.hid (F8.out.put 3 (.string p) #[.int .i64 z, .int .i64 o, .int .i64 ss, .string p, .string ⟨#[]⟩, .int .i64 v, .int .i64 ow] rfl)
  clear E8 F8 y3 yf
  generalize (World.setCell X8 ⟨gT, 3, none⟩ (.string p)) = X9 at *
  go_upto_region 16 with (first | (go_at_call 47; (refine (number_any _ u8 c8 2 _ E9.out.c (by decide) (by omega)).mono ?_); rintro e X10 ⟨rfl, hc, hg⟩; have E10 := Lib.hid (E9.out.step hc hg); have F10 := Lib.hid (F9.out.kept hg (by simp; omega)); clear hc hg E9 F9; have hu10 := restT_size u8 c8 2; obtain ⟨dl, hn, hldl⟩ := valT u8 c8 2 (by decide); have HQ10 := Lib.hid (show decR s = dB9 n z o ss v ow p dl (restT u8 c8 2) (badT u8 c8 2) from HQ8.out.trans (by unfold dB8; rw [hn]; rfl)); clear HQ8; generalize valI (bs (takeT u8 c8 2)) = x at *; subst hn; generalize restT u8 c8 2 = u10 at *; generalize badT u8 c8 2 = c10 at *) | (go_at_call 46; (refine (text_any _ u10 c10 dl _ E10.out.c (by omega) (by omega)).mono ?_); rintro e X11 ⟨rfl, hc, hg⟩; have E11 := Lib.hid (E10.out.step hc hg); have F11 := Lib.hid (F10.out.kept hg (by simp; omega)); clear hc hg E10 F10; have hu11 := restT_size u10 c10 dl; have ht11 := takeT_size u10 c10 dl; have HQ11 := Lib.hid (show decR s = dB10 n z o ss v ow p (takeT u10 c10 dl) (restT u10 c10 dl) (badT u10 c10 dl) from HQ10.out); clear HQ10; generalize takeT u10 c10 dl = d at *; generalize restT u10 c10 dl = u11 at *; generalize badT u10 c10 dl = c11 at *; have y4 := F11.out.cell 4; have yf := F11.out.frozen))
  have E12 := Lib.hid (E11.out.other (grownBy_setCell X11 gT 4 (.string d)) hgT)
  have F12 := Lib.hid (F11.out.put 4 (.string d) #[.int .i64 z, .int .i64 o, .int .i64 ss, .string p, .string d, .int .i64 v, .int .i64 ow] rfl)
  clear E11 F11 y4 yf
  generalize (World.setCell X11 ⟨gT, 4, none⟩ (.string d)) = X12 at *
  have zb := E12.out.c.2.1
  have za := E12.out.c.1
  have z0 := E12.out.z.cell 0
  have z1 := E12.out.z.cell 1
  have z2 := E12.out.z.cell 2
  have z3 := E12.out.z.cell 3
  have z4 := E12.out.z.cell 4
  have z5 := E12.out.z.cell 5
  have z6 := E12.out.z.cell 6
  have zf := E12.out.z.frozen
  go_upto_region 18 with (fail)
  all_goals try (exact dec_ret (t := txn0) (n := 0) (e := 2) (HQ11.out.trans (dB10_bad ‹c11 = true›)) E12.out.bel E12.out.z rfl rfl rfl rfl)
  all_goals try (exact dec_ret (t := txn0) (n := 0) (e := 2) (HQ11.out.trans (dB10_more ‹(!u11.toList.isEmpty) = true›)) E12.out.bel E12.out.z rfl rfl rfl rfl)
  have y0 := F12.out.cell 0
  have y1 := F12.out.cell 1
  have y2 := F12.out.cell 2
  have y3 := F12.out.cell 3
  have y4 := F12.out.cell 4
  have y5 := F12.out.cell 5
  have y6 := F12.out.cell 6
  have yf := F12.out.frozen
  have HG := Lib.hid (fun w => tgood_any ⟨z, o, ss, p, d, v, ow⟩ w (by show p.size ≤ _; omega))
  go_wp2_with (first | (go_at_call 26; (refine (HG.out _).mono ?_); rintro e X13 ⟨rfl, hb⟩; have E13 := Lib.hid (E12.out.keep hb); have F13 := Lib.hid (F12.out.below hb); clear hb E12 F12 HG z0 z1 z2 z3 z4 z5 z6 zf y0 y1 y2 y3 y4 y5 y6 yf za zb; have z0 := E13.out.z.cell 0; have z1 := E13.out.z.cell 1; have z2 := E13.out.z.cell 2; have z3 := E13.out.z.cell 3; have z4 := E13.out.z.cell 4; have z5 := E13.out.z.cell 5; have z6 := E13.out.z.cell 6; have zf := E13.out.z.frozen; have y0 := F13.out.cell 0; have y1 := F13.out.cell 1; have y2 := F13.out.cell 2; have y3 := F13.out.cell 3; have y4 := F13.out.cell 4; have y5 := F13.out.cell 5; have y6 := F13.out.cell 6; have yf := F13.out.frozen; generalize hgt0 : goodT ⟨z, o, ss, p, d, v, ow⟩ = gd at *))
  all_goals try (have hq := ‹(gd != 0) = true›; exact dec_ret (t := txn0) (n := 0) (e := gd) (by rw [← hgt0]; exact HQ11.out.trans (dB10_not ‹¬ c11 = true› ‹(!u11.toList.isEmpty) = false› (by rw [hgt0]; exact ‹(gd != 0) = true›))) E13.out.bel E13.out.z rfl rfl rfl rfl)
  all_goals try (have hq := ‹(gd != 0) = false›; exact dec_ret (t := ⟨z, o, ss, p, d, v, ow⟩) (n := (n : Int) + 7) (e := 0) (HQ11.out.trans (dB10_ok ‹¬ c11 = true› ‹(!u11.toList.isEmpty) = false› (by rw [hgt0]; exact ‹(gd != 0) = false›))) E13.out.bel E13.out.z rfl rfl rfl rfl)
end Go.Proofs.YtkogdnkifnhljaaDoor

/-
  cal: CalFormats: the walk, every call's result known; the statement.
-/
import Derived.Test.YteobeikcakoaaaaGreatDoorRfE
import Derived.Test.YteobeikcakoaaaaGreatDoorRfG
namespace Go.Proofs.YteobeikcakoaaaaGreatDoor.Pure
set_option linter.unusedSimpArgs false
set_option linter.unusedVariables false
open Go.RowKit Go.Shelf Go.Proofs.YteobeikcakoaaaaGreatDoor.Given Go.Proofs.YteobeikcakoaaaaGreatDoor.Cal Go.Proofs.YteobeikcakoaaaaGreatDoorW.PrintWords Go.Proofs.YteobeikcakoaaaaGreatDoorW.PrintLast Go.Proofs.YteobeikcakoaaaaGreatDoorW.PrintMore

theorem str_same (s : ByteArray) : (s.toList == s.toList) = true := beq_self_eq_true _
theorem int_same (n : Int) : (n == n) = true := beq_self_eq_true _
set_option maxRecDepth 100000 in
set_option maxHeartbeats 8000000 in
theorem fo_long (n o t : Int) (s : ByteArray) (hs : 100 < s.size) (w : World) (hT : Tb w) : Calls Tryz.prog 3 #[.int .i64 n, .int .u8 o, .string s, .int .i64 t] w fun e w' => e = .returned (.bool true) ∧ Below w.heap.size w w' := by
  have HT := Lib.hid hT
  have HB := Aside0.mk (Below.refl w.heap.size w)
  have H6 := Lib.hid sane_any
  have hs2 : (100 : Int) < (s.size : Int) := by omega
  clear hT hs
  go_enter Tryz.func3, Tryz.ntmps3
  go_wp2_with (fail)
  refine (H6.out _ (by first | exact HT.out.below HB.out | exact HT.out.below (Bel.alloc HB.out _))).mono ?_
  rintro e w1 ⟨rfl, hb⟩
  replace HB := Aside0.mk (by first | exact Bel.call HB.out hb | exact Bel.call (Bel.alloc HB.out _) hb : Below w.heap.size w w1)
  clear hb
  go_wp2_with (fail)
  go_ret
  exact ⟨rfl, HB.out⟩
set_option maxRecDepth 100000 in
set_option maxHeartbeats 8000000 in
theorem fo_all (n o t e1 a1 a2 b1 b2 : Int) (s u : ByteArray) (hs : s.size ≤ 100) (hu : u.size ≤ 100) (hoo : 0 ≤ o ∧ o < 256) (w : World) (hT : Tb w)
    (h1 : cal_Date.f n o = some (u, e1)) (h2 : cal_ReadDay.f s o t = some (a1, a2)) (h3 : cal_ReadDay.f u o t = some (b1, b2)) :
    Calls Tryz.prog 3 #[.int .i64 n, .int .u8 o, .string s, .int .i64 t] w fun e w' => e = .returned (.bool true) ∧ Below w.heap.size w w' := by
  have hu27 := Tryz.underlying27
  have hu32 := Tryz.underlying32
  have HT := Lib.hid hT
  have HB := Aside0.mk (Below.refl w.heap.size w)
  have G1 := Lib.hid fun w hT => cal_Date.calls _ _ _ _ w hT h1
  have G2 := Lib.hid fun w => rDate _ _ _ _ h1 w
  have G3 := Lib.hid fun w hT => cal_ReadDay.calls _ _ _ _ _ w hT h2
  have G4 := Lib.hid fun w => rRead _ _ _ _ _ hs hoo h2 w
  have G5 := Lib.hid fun w hT => cal_ReadDay.calls _ _ _ _ _ w hT h3
  have G6 := Lib.hid fun w => rRead _ _ _ _ _ hu hoo h3 w
  have H6 := Lib.hid sane_any
  have hs2 : (s.size : Int) ≤ 100 := by omega
  have z1 := str_same u
  have z2 := int_same e1
  have z3 := int_same a1
  have z4 := int_same a2
  have z5 := int_same b1
  have z6 := int_same b2
  clear hT h1 h2 h3 hs hu hoo
  go_enter Tryz.func3, Tryz.ntmps3
  go_wp2_with (fail)
  refine (G1.out _ (by first | exact HT.out.below HB.out | exact HT.out.below (Bel.alloc HB.out _))).mono ?_
  rintro e w1 ⟨rfl, hb⟩
  replace HB := Aside0.mk (by first | exact Bel.call HB.out hb | exact Bel.call (Bel.alloc HB.out _) hb : Below w.heap.size w w1)
  clear hb
  go_wp2_with (fail)
  refine (G2.out _).mono ?_
  rintro e w1 ⟨rfl, hb⟩
  replace HB := Aside0.mk (by first | exact Bel.call HB.out hb | exact Bel.call (Bel.alloc HB.out _) hb : Below w.heap.size w w1)
  clear hb
  go_wp2_with (fail)
  refine (G3.out _ (by first | exact HT.out.below HB.out | exact HT.out.below (Bel.alloc HB.out _))).mono ?_
  rintro e w1 ⟨rfl, hb⟩
  have HX := Aside0.mk (RC.call (RC.new _ _ _ _) hb)
  replace HB := Aside0.mk (by first | exact Bel.call HB.out hb | exact Bel.call (Bel.alloc HB.out _) hb : Below w.heap.size w w1)
  clear hb
  go_wp2_with (fail)
  refine (G4.out _).mono ?_
  rintro e w1 ⟨rfl, hb⟩
  replace HX := Aside0.mk (by first | exact HX.out.call hb | exact (HX.out.alloc _).call hb)
  replace HB := Aside0.mk (by first | exact Bel.call HB.out hb | exact Bel.call (Bel.alloc HB.out _) hb : Below w.heap.size w w1)
  clear hb
  obtain ⟨p1, q1, l1, m1, n1⟩ := HX.out
  go_wp2_with (fail)
  clear p1 q1 l1 m1 n1
  refine (G5.out _ (by first | exact HT.out.below HB.out | exact HT.out.below (Bel.alloc HB.out _))).mono ?_
  rintro e w1 ⟨rfl, hb⟩
  replace HX := Aside0.mk (by first | exact HX.out.call hb | exact (HX.out.alloc _).call hb)
  have HY := Aside0.mk (RC.call (RC.new _ _ _ _) hb)
  replace HB := Aside0.mk (by first | exact Bel.call HB.out hb | exact Bel.call (Bel.alloc HB.out _) hb : Below w.heap.size w w1)
  clear hb
  obtain ⟨p1, q1, l1, m1, n1⟩ := HX.out
  go_wp2_with (fail)
  clear p1 q1 l1 m1 n1
  refine (G6.out _).mono ?_
  rintro e w1 ⟨rfl, hb⟩
  replace HX := Aside0.mk (by first | exact HX.out.call hb | exact (HX.out.alloc _).call hb)
  replace HY := Aside0.mk (by first | exact HY.out.call hb | exact (HY.out.alloc _).call hb)
  replace HB := Aside0.mk (by first | exact Bel.call HB.out hb | exact Bel.call (Bel.alloc HB.out _) hb : Below w.heap.size w w1)
  clear hb
  go_wp2_with (fail)
  refine (H6.out _ (by first | exact HT.out.below HB.out | exact HT.out.below (Bel.alloc HB.out _))).mono ?_
  rintro e w1 ⟨rfl, hb⟩
  replace HX := Aside0.mk (by first | exact HX.out.call hb | exact (HX.out.alloc _).call hb)
  replace HY := Aside0.mk (by first | exact HY.out.call hb | exact (HY.out.alloc _).call hb)
  have HZ := Aside0.mk (RC.call (RC.new _ _ _ _) hb)
  replace HB := Aside0.mk (by first | exact Bel.call HB.out hb | exact Bel.call (Bel.alloc HB.out _) hb : Below w.heap.size w w1)
  clear hb
  obtain ⟨p1, q1, l1, m1, n1⟩ := HX.out
  obtain ⟨p2, q2, l2, m2, n2⟩ := HY.out
  obtain ⟨p3, q3, l3, m3, n3⟩ := HZ.out
  go_wp2_with (fail)
  go_ret
  exact ⟨rfl, HB.out⟩
theorem pad_short (n k : Nat) (h : n ≤ 100000000) (hk : k ≤ 4) : (padL n k).length ≤ 21 := by
  have := dec_len n (by omega)
  unfold padL
  rw [List.length_append, List.length_replicate]
  omega
theorem fm_size (n y m d : Nat) (o : Int) (hn : n ≤ 3652058) (hy : 1 ≤ y ∧ y ≤ 9999) (hm : 1 ≤ m ∧ m ≤ 12) (hd : d ≤ 31) (hb : bef y ≤ n) : (fmL n y m d o).length ≤ 100 := by
  have hb0 := bef_bd y (by omega) (by omega)
  have hb2 := bef_bd (max 1 ((y : Int) / 100 * 100)) (by omega) (by omega)
  have a1 := dec_len n (by omega)
  have a2 := dec_len ((n : Int) - bef (max 1 ((y : Int) / 100 * 100)) + 1).toNat (by omega)
  have a3 := dec_len ((n : Int) - bef y + 1).toNat (by omega)
  have a4 := dec_len d (by omega)
  have b1 := pad_short d 2 (by omega) (by omega)
  have b2 := pad_short m 2 (by omega) (by omega)
  have b3 := pad_short (y % 100) 2 (by omega) (by omega)
  have b4 := pad_short y 4 (by omega) (by omega)
  have c1 : (monL m).length ≤ 100 := by
    have : ∀ k : Fin 12, (namesM.getD k.val ⟨#[]⟩).data.toList.length ≤ 100 := by decide +kernel
    have h2 := this ⟨m - 1, by omega⟩
    unfold monL monthN
    rw [Int.toNat_natCast]
    exact h2
  have c2 : (dayL n).length ≤ 100 := by
    have : ∀ k : Fin 7, (namesD.getD k.val ⟨#[]⟩).data.toList.length ≤ 100 := by decide +kernel
    have h2 := this ⟨((n : Int) % 7).toNat, by omega⟩
    exact h2
  have c3 := (mon3 m hm).1
  unfold fmL
  repeat' split
  all_goals first | omega | (simp only [List.length_append, List.length_cons, List.length_nil]; omega)
theorem CalFormats (n o t : Int) (s : ByteArray) (hop : (Lit.int .u8 o).wf = true) (w : World) (hT : Tb w) : Calls Tryz.prog 3 #[.int .i64 n, .int .u8 o, .string s, .int .i64 t] w fun e w' => e = .returned (.bool true) ∧ Below w.heap.size w w' := by
  have hoo : 0 ≤ o ∧ o < 256 := by
    have : 0 ≤ o ∧ o ≤ 255 := by simpa [Lit.wf, IntKind.min, IntKind.max, IntKind.signed, IntKind.bits] using hop
    omega
  rcases Nat.lt_or_ge 100 s.size with hs | hs
  · exact fo_long n o t s hs w hT
  have tot : ∀ u : ByteArray, u.size ≤ 100 → ∃ a b, cal_ReadDay.f u o t = some (a, b) := by
    intro u hu
    by_cases ht : 0 ≤ t ∧ t ≤ 3652058
    · by_cases ho : dayOpts.contains o = true
      · obtain ⟨⟨v, f⟩, hr⟩ := readDay_tot u o t hu
        cases f
        · exact ⟨_, _, rd_bad ht ho hr⟩
        · exact ⟨_, _, rd_ok ht ho hr⟩
      · refine ⟨0, 1, ?_⟩
        unfold cal_ReadDay.f
        rw [if_pos ht, if_pos hoo, if_neg ho]
    · refine ⟨0, 1, ?_⟩
      unfold cal_ReadDay.f
      rw [if_neg ht]
  have hdate : ∃ u e, cal_Date.f n o = some (u, e) ∧ u.size ≤ 100 := by
    unfold cal_Date.f
    by_cases hn : 0 ≤ n ∧ n ≤ 3652058
    · rw [if_pos hn]
      by_cases ho : dateOpts.contains o = true
      · rw [if_pos ho]
        obtain ⟨y1, y2, y3, y4, b1, m1, m2, m3, m4⟩ := mf n hn.1 hn.2
        have hdd : dom n = n - bef (yr n) - cum (yr n) (mon n - 1) + 1 := rfl
        have cs := cum_step (yr n) (mon n) m1
        have hl := lenN_bd (yr n) (mon n - 1)
        obtain ⟨k, rfl⟩ : ∃ k : Nat, n = k := ⟨n.toNat, by omega⟩
        obtain ⟨y, hy⟩ : ∃ y : Nat, yr k = y := ⟨(yr k).toNat, by omega⟩
        obtain ⟨d, hd⟩ : ∃ d : Nat, dom k = d := ⟨(dom k).toNat, by omega⟩
        rw [hy] at y1 y3 y4
        rw [hy, hd, c_fmtW k y (mon k) d o (by omega) (by omega) ⟨m1, m2⟩ (by omega) y1, Option.bind_some]
        exact ⟨_, _, rfl, by rw [bs_size]; exact fm_size k y (mon k) d o (by omega) (by omega) ⟨m1, m2⟩ (by omega) y1⟩
      · rw [if_neg ho]
        exact ⟨_, _, rfl, by decide⟩
    · rw [if_neg hn]
      exact ⟨_, _, rfl, by decide⟩
  obtain ⟨u, e1, h1, hu⟩ := hdate
  obtain ⟨a1, a2, h2⟩ := tot s hs
  obtain ⟨b1, b2, h3⟩ := tot u hu
  exact fo_all n o t e1 a1 a2 b1 b2 s u hs hu hoo w hT h1 h2 h3
end Go.Proofs.YteobeikcakoaaaaGreatDoor.Pure

/-
  cal: CalFormats: Date of the reference answers as the program's Date.
-/
import Derived.Test.YteobeikcakoaaaaGreatDoorRfD
namespace Go.Proofs.YteobeikcakoaaaaGreatDoor.Pure
set_option linter.unusedSimpArgs false
set_option linter.unusedVariables false
open Go.RowKit Go.Shelf Go.Proofs.YteobeikcakoaaaaGreatDoor.Given Go.Proofs.YteobeikcakoaaaaGreatDoor.Cal Go.Proofs.YteobeikcakoaaaaGreatDoorW.PrintWords Go.Proofs.YteobeikcakoaaaaGreatDoorW.PrintLast Go.Proofs.YteobeikcakoaaaaGreatDoorW.PrintMore

theorem rDate (n o : Int) (r1 : ByteArray) (r2 : Int) (h : cal_Date.f n o = some (r1, r2)) (w : World) : Calls Tryz.prog 15 #[.int .i64 n, .int .u8 o] w fun e w' => e = .returned (.agg #[.string r1, .int .i64 r2]) ∧ Below w.heap.size w w' := by
  unfold cal_Date.f at h
  by_cases hn : 0 ≤ n ∧ n ≤ 3652058
  · obtain ⟨h0, hn⟩ := hn
    rw [if_pos ⟨h0, hn⟩] at h
    obtain ⟨y1, y2, y3, y4, b1, m1, m2, m3, m4⟩ := mf n h0 hn
    have hdd : dom n = n - bef (yr n) - cum (yr n) (mon n - 1) + 1 := rfl
    have cs := cum_step (yr n) (mon n) m1
    have hl := lenN_bd (yr n) (mon n - 1)
    have hD : qanatref04_DateOf.f 10200 n = some (yr n, (mon n : Int), dom n, 0) := by
      rw [r_DateOf n 10200 (by omega)]
      unfold cal_DateOf.f
      rw [if_pos ⟨h0, hn⟩]
    obtain ⟨N, rfl⟩ : ∃ N : Nat, n = N := ⟨n.toNat, by omega⟩
    obtain ⟨y, hy⟩ : ∃ y : Nat, yr N = y := ⟨(yr N).toNat, by omega⟩
    obtain ⟨d, hd⟩ : ∃ d : Nat, dom N = d := ⟨(dom N).toNat, by omega⟩
    generalize hm : mon N = m at *
    have d1 : 1 ≤ d ∧ d ≤ 31 := by omega
    rw [hy, hd] at hD h
    rw [hy] at y1 y2 y3 y4 b1
    clear hdd cs hl m3 m4 hm
    have hp2 := r_padded 10200 m 2 (by omega) (by omega) (by omega)
    have hp3 := r_padded 10200 d 2 (by omega) (by omega) (by omega)
    have hp4 : qanatref04_padded.f 10200 ((y : Int) % 100) 2 = some (bs (padL (y % 100) 2)) := by
      have := r_padded 10200 (y % 100) 2 (by omega) (by omega) (by omega)
      rw [show (y : Int) % 100 = ((y % 100 : Nat) : Int) by omega]
      exact this
    have hp5 := r_padded 10200 y 4 (by omega) (by omega) (by omega)
    have z1 : (bs (padL m 2)).size ≤ 200 := by rw [bs_size]; exact pad_le2 m 2 (by omega) (by omega)
    have z2 : (bs (padL d 2)).size ≤ 200 := by rw [bs_size]; exact pad_le2 d 2 (by omega) (by omega)
    have z3 : (bs (padL (y % 100) 2)).size ≤ 200 := by rw [bs_size]; exact pad_le2 (y % 100) 2 (by omega) (by omega)
    have z4 : (bs (padL y 4)).size ≤ 200 := by rw [bs_size]; exact pad_le2 y 4 (by omega) (by omega)
    have e47 : (⟨#[47]⟩ : ByteArray) = bs [47] := rfl
    have e45 : (⟨#[45]⟩ : ByteArray) = bs [45] := rfl
    have e32 : (⟨#[32]⟩ : ByteArray) = bs [32] := rfl
    by_cases ho : dateOpts.contains o = true
    · rw [if_pos ho, c_fmtW N y m d o (by omega) (by omega) ⟨m1, m2⟩ d1.2 y1, Option.bind_some] at h
      have h := Option.some.inj h
      obtain ⟨rfl, rfl⟩ := Prod.mk.inj h
      have ho : o = 66 ∨ o = 67 ∨ o = 68 ∨ o = 69 ∨ o = 73 ∨ o = 77 ∨ o = 78 ∨ o = 79 ∨ o = 83 ∨ o = 85 ∨ o = 87 := by simpa [dateOpts] using ho
      have hbd := bef_bd y (by omega) (by omega)
      rcases ho with rfl | rfl | rfl | rfl | rfl | rfl | rfl | rfl | rfl | rfl | rfl
      · exact rdate_66 _ _ _ _ _ _ _ _ _ ⟨y3, y4⟩ z1 z2 z3 z4 _ w hD hp2 hp3 hp4 hp5 (r_text 10200 N (by omega) (by omega))
      · have hc : (y : Int) - (y : Int) % 100 = (y : Int) / 100 * 100 := by omega
        have hmono := bef_mono (max 1 ((y : Int) / 100 * 100)) y (by omega)
        have hb2 := bef_bd (max 1 ((y : Int) / 100 * 100)) (by omega) (by omega)
        obtain ⟨x, hx⟩ : ∃ x : Nat, (N : Int) - bef (max 1 ((y : Int) / 100 * 100)) + 1 = x := ⟨((N : Int) - bef (max 1 ((y : Int) / 100 * 100)) + 1).toNat, by omega⟩
        have ef : fmL N y m d 67 = Lib.decDigits x := by
          show Lib.decDigits ((N : Int) - bef (max 1 ((y : Int) / 100 * 100)) + 1).toNat = _
          rw [hx, Int.toNat_natCast]
        have ht := r_text 10200 x (by omega) (by omega)
        rw [← hx] at ht
        rw [ef]
        by_cases hlow : (y : Int) < 100
        · rw [show max 1 ((y : Int) / 100 * 100) = 1 by omega] at ht hb2 hmono
          exact rdate_67a _ _ _ _ _ _ _ _ _ (bef 1) ⟨y3, y4⟩ z1 z2 z3 z4 _ w hD hp2 hp3 hp4 hp5 h0 hn (by omega) (by omega) hlow ht (r_before 1 (by omega) (by omega))
        · rw [show max 1 ((y : Int) / 100 * 100) = (y : Int) / 100 * 100 by omega] at ht hb2 hmono
          exact rdate_67b _ _ _ _ _ _ _ _ _ (bef ((y : Int) / 100 * 100)) _ ⟨y3, y4⟩ z1 z2 z3 z4 _ w hD hp2 hp3 hp4 hp5 h0 hn (by omega) (by omega) hc (eq_true (by omega)) ht (r_before _ (by omega) (by omega))
      · obtain ⟨x, hx⟩ : ∃ x : Nat, (N : Int) - bef y + 1 = x := ⟨((N : Int) - bef y + 1).toNat, by omega⟩
        have ef : fmL N y m d 68 = Lib.decDigits x := by
          show Lib.decDigits ((N : Int) - bef y + 1).toNat = _
          rw [hx, Int.toNat_natCast]
        have ht := r_text 10200 x (by omega) (by omega)
        rw [← hx] at ht
        rw [ef]
        exact rdate_68 _ _ _ _ _ _ _ _ _ (bef y) ⟨y3, y4⟩ z1 z2 z3 z4 _ w hD hp2 hp3 hp4 hp5 h0 hn (by omega) (by omega) ht (r_before _ (by omega) (by omega))
      · have := rdate_69 _ _ _ _ _ _ _ _ ⟨y3, y4⟩ z1 z2 z3 z4 _ w hD hp2 hp3 hp4 hp5
        rw [e47, bs_append, bs_append, bs_append, bs_append] at this
        exact this
      · have := rdate_73 _ _ _ _ _ _ _ _ ⟨y3, y4⟩ z1 z2 z3 z4 _ w hD hp2 hp3 hp4 hp5
        rw [e45, bs_append, bs_append, bs_append, bs_append] at this
        exact this
      · have := rdate_77 _ _ _ _ _ _ _ _ _ ⟨y3, y4⟩ z1 z2 z3 z4 _ w hD hp2 hp3 hp4 hp5 (r_month m (by omega))
        rw [← bs_self (monthN (m : Int))] at this
        exact this
      · have hz := monthN_size (m : Int) (by omega)
        have hz2 : (monthN (m : Int)).size ≤ 200 := by
          have : ∀ k : Fin 12, (namesM.getD k.val ⟨#[]⟩).size ≤ 200 := by decide +kernel
          have h2 := this ⟨m - 1, by omega⟩
          unfold monthN
          rw [Int.toNat_natCast]
          exact h2
        have hld := dec_len d (by omega)
        have := rdate_78 _ _ _ _ _ _ _ _ (bs (Lib.decDigits d)) _ ⟨y3, y4⟩ z1 z2 z3 z4 (by rw [bs_size]; omega) hz hz2 _ w hD hp2 hp3 hp4 hp5 (r_text 10200 d (by omega) (by omega)) (r_month m (by omega))
        have e3 : (monthN (m : Int)).extract 0 3 = bs ((monL m).take 3) := by
          rw [← bs_self (monthN (m : Int)), bs_extract]
          rfl
        rw [e3, e32, bs_append, bs_append, bs_append, bs_append] at this
        have ef : fmL N y m d 78 = Lib.decDigits d ++ [32] ++ (monL m).take 3 ++ [32] ++ padL y 4 := by
          show Lib.decDigits d ++ [32] ++ ((monL m).take 3 ++ [32] ++ padL y 4) = _
          simp
        rw [ef]
        exact this
      · have := rdate_79 _ _ _ _ _ _ _ _ ⟨y3, y4⟩ z1 z2 z3 z4 _ w hD hp2 hp3 hp4 hp5
        rw [e47, bs_append, bs_append, bs_append, bs_append] at this
        exact this
      · have := rdate_83 _ _ _ _ _ _ _ _ ⟨y3, y4⟩ z1 z2 z3 z4 _ w hD hp2 hp3 hp4 hp5
        rw [bs_append, bs_append] at this
        have ef : fmL N y m d 83 = padL y 4 ++ padL m 2 ++ padL d 2 := by
          show padL y 4 ++ [] ++ padL m 2 ++ [] ++ padL d 2 = _
          simp
        rw [ef]
        exact this
      · have := rdate_85 _ _ _ _ _ _ _ _ ⟨y3, y4⟩ z1 z2 z3 z4 _ w hD hp2 hp3 hp4 hp5
        rw [e47, bs_append, bs_append, bs_append, bs_append] at this
        exact this
      · have := rdate_87 _ _ _ _ _ _ _ _ _ ⟨y3, y4⟩ z1 z2 z3 z4 _ w hD hp2 hp3 hp4 hp5 h0 (r_weekday N)
        rw [← bs_self (dayN (N : Int))] at this
        exact this
    · rw [if_neg ho] at h
      have h := Option.some.inj h
      obtain ⟨rfl, rfl⟩ := Prod.mk.inj h
      have hne : ∀ i : Int, i ∈ dateOpts → (o == i) = false := by
        intro i hi
        rw [beq_eq_false_iff_ne]
        rintro rfl
        exact ho (by simpa using hi)
      exact rdate_none _ _ _ _ _ _ _ _ _ ⟨y3, y4⟩ z1 z2 z3 z4 _ w hD hp2 hp3 hp4 hp5 (hne _ (by simp [dateOpts])) (hne _ (by simp [dateOpts])) (hne _ (by simp [dateOpts])) (hne _ (by simp [dateOpts])) (hne _ (by simp [dateOpts])) (hne _ (by simp [dateOpts])) (hne _ (by simp [dateOpts])) (hne _ (by simp [dateOpts])) (hne _ (by simp [dateOpts])) (hne _ (by simp [dateOpts])) (hne _ (by simp [dateOpts]))
  · rw [if_neg hn] at h
    have h := Option.some.inj h
    obtain ⟨rfl, rfl⟩ := Prod.mk.inj h
    refine rdate_out n o 10200 w ?_
    rw [r_DateOf n 10200 (by omega)]
    unfold cal_DateOf.f
    rw [if_neg hn]
end Go.Proofs.YteobeikcakoaaaaGreatDoor.Pure

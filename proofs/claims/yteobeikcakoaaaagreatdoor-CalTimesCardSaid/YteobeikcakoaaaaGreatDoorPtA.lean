/-
  cal: the pure statement of CalTimes.
-/
import Derived.Test.YteobeikcakoaaaaGreatDoorTim3
import Derived.Test.YteobeikcakoaaaaGreatDoorTm
namespace Go.Proofs.YteobeikcakoaaaaGreatDoor.Pure
set_option linter.unusedSimpArgs false
set_option linter.unusedVariables false
open Go.RowKit Go.Proofs.YteobeikcakoaaaaGreatDoor.Given Go.Proofs.YteobeikcakoaaaaGreatDoor.Cal Go.Proofs.YteobeikcakoaaaaGreatDoorW.PrintWords Go.Proofs.YteobeikcakoaaaaGreatDoorW.PrintLast Go.Proofs.YteobeikcakoaaaaGreatDoorW.PrintMore

/-! ### numerals of the reference -/

theorem one_byte (n : Nat) (h : n < 10) : strOfNums ([wrap64 (48 + (n : Int)) % 256] : List Int) = bs (Lib.decDigits n) := by
  rw [Lib.decDigits_one h, wr (by omega), show (48 + (n : Int)) % 256 = ((48 + n : Nat) : Int) by omega]
  rfl
theorem r_text0 : ∀ (k n : Nat), n < 10 ^ (k + 1) → n ≤ 9223372036854775807 → qanatref04_text.f (k + 1) (n : Int) = some (bs (Lib.decDigits n))
  | 0, n, h, _ => by
    rw [qanatref04_text.f, if_pos (by omega), one_byte n (by omega)]
  | k + 1, n, h, hn => by
    by_cases h10 : n < 10
    · rw [qanatref04_text.f, if_pos (by omega), one_byte n h10]
    · rw [Nat.pow_succ] at h
      have h1 := dec_len (n / 10) (by omega)
      have h2 := dec_len (n % 10) (by omega)
      rw [qanatref04_text.f, if_neg (by omega)]
      rw [show wrap64 (Int.tdiv (n : Int) 10) = ((n / 10 : Nat) : Int) by rw [tdp _ (by omega), wr (by omega)]; omega, show Int.tmod (n : Int) 10 = ((n % 10 : Nat) : Int) by rw [tmp _ (by omega)]; omega]
      rw [r_text0 k (n / 10) (by omega) (by omega), Option.bind_some, r_text0 k (n % 10) (by
        have : 10 ≤ 10 ^ (k + 1) := by rw [Nat.pow_succ]; have := Nat.one_le_pow k 10 (by decide); omega
        omega) (by omega), Option.bind_some, if_pos (by rw [bs_size, bs_size]; omega), bs_append, dec_big h10, Lib.decDigits_one (show n % 10 < 10 by omega)]
theorem r_text (k n : Nat) (hk : 20 ≤ k) (hn : n ≤ 9223372036854775807) : qanatref04_text.f k (n : Int) = some (bs (Lib.decDigits n)) := by
  obtain ⟨q, rfl⟩ : ∃ q, k = q + 1 := ⟨k - 1, by omega⟩
  refine r_text0 q n ?_ hn
  have : 10 ^ 19 ≤ 10 ^ (q + 1) := Nat.pow_le_pow_right (by decide) (by omega)
  omega
theorem r_pad_l0 (w : Nat) (hw : w ≤ 100) : ∀ (d k : Nat) (l : List UInt8), w - l.length = d → d < k → qanatref04_padded.l0 k (w : Int) (bs l) = some (bs (List.replicate (w - l.length) 48 ++ l))
  | 0, k, l, hd, hk => by
    obtain ⟨q, rfl⟩ : ∃ q, k = q + 1 := ⟨k - 1, by omega⟩
    rw [qanatref04_padded.l0, if_neg (by rw [bs_size]; omega), hd]
    rfl
  | d + 1, k, l, hd, hk => by
    obtain ⟨q, rfl⟩ : ∃ q, k = q + 1 := ⟨k - 1, by omega⟩
    rw [qanatref04_padded.l0, if_pos (by rw [bs_size]; omega), if_pos (by rw [bs_size]; omega), show (⟨#[48]⟩ : ByteArray) = bs [48] from rfl, bs_append]
    rw [r_pad_l0 w hw d q ([48] ++ l) (by simp; omega) (by omega)]
    congr 2
    rw [show w - l.length = (w - ([48] ++ l).length) + 1 by simp; omega, List.replicate_succ']
    simp
theorem r_padded (k n w : Nat) (hk : 101 ≤ k) (hn : n ≤ 9223372036854775807) (hw : w ≤ 100) : qanatref04_padded.f k (n : Int) (w : Int) = some (bs (padL n w)) := by
  unfold qanatref04_padded.f
  rw [r_text k n (by omega) hn, Option.bind_some, r_pad_l0 w hw _ k _ rfl (by omega)]
  rfl
theorem tm_eqs (n : Nat) : (tmL n 67 = Lib.decDigits ((n / 3600000000 + 11) % 12 + 1) ++ [58] ++ padL (n / 60000000 % 60) 2 ++ (if 12 ≤ n / 3600000000 then [112, 109] else [97, 109])) ∧ tmL n 70 = Lib.decDigits n ∧ tmL n 72 = Lib.decDigits (n / 3600000000) ∧
    tmL n 76 = padL (n / 3600000000) 2 ++ [58] ++ padL (n / 60000000 % 60) 2 ++ [58] ++ padL (n / 1000000 % 60) 2 ++ [46] ++ padL (n % 1000000) 6 ∧ tmL n 77 = Lib.decDigits (n / 60000000) ∧
    tmL n 78 = padL (n / 3600000000) 2 ++ [58] ++ padL (n / 60000000 % 60) 2 ++ [58] ++ padL (n / 1000000 % 60) 2 ∧ tmL n 83 = Lib.decDigits (n / 1000000) :=
  ⟨by rw [← pad_one]; rfl, rfl, rfl, rfl, rfl, rfl, rfl⟩
theorem size_le (l : List UInt8) (h : l.length ≤ 2000) : (bs l).size + 1 ≤ 9223372036854775807 ∧ (bs l).size + 2 ≤ 9223372036854775807 := by
  rw [bs_size]; omega
theorem sizes_le (l m : List UInt8) (h : l.length ≤ 2000) (h2 : m.length ≤ 2000) : (bs l).size + (bs m).size ≤ 9223372036854775807 := by
  rw [bs_size, bs_size]; omega
theorem r_Time (k n : Nat) (o : Int) (hk : 102 ≤ k) (hn : n ≤ 86399999999) : qanatref04_Time.f k (n : Int) o = some (if timeOpts.contains o = true then (bs (tmL n o), 0) else (⟨#[]⟩, 1)) := by
  obtain ⟨q, rfl⟩ : ∃ q, k = q + 1 := ⟨k - 1, by omega⟩
  have hq : 101 ≤ q := by omega
  clear hk
  have eS : wrap64 (Int.tdiv (n : Int) 1000000) = ((n / 1000000 : Nat) : Int) := by rw [tdp _ (by omega), wr (by omega)]; omega
  have eM : wrap64 (Int.tdiv ((n / 1000000 : Nat) : Int) 60) = ((n / 60000000 : Nat) : Int) := by rw [tdp _ (by omega), wr (by omega)]; omega
  have eH : wrap64 (Int.tdiv ((n / 60000000 : Nat) : Int) 60) = ((n / 3600000000 : Nat) : Int) := by rw [tdp _ (by omega), wr (by omega)]; omega
  have tM : Int.tmod ((n / 60000000 : Nat) : Int) 60 = ((n / 60000000 % 60 : Nat) : Int) := by rw [tmp _ (by omega)]; omega
  have tS : Int.tmod ((n / 1000000 : Nat) : Int) 60 = ((n / 1000000 % 60 : Nat) : Int) := by rw [tmp _ (by omega)]; omega
  have tU : Int.tmod (n : Int) 1000000 = ((n % 1000000 : Nat) : Int) := by rw [tmp _ (by omega)]; omega
  have ed : decide ((n : Int) ≥ 86400000000) = false := decide_eq_false (by omega)
  have hH : n / 3600000000 ≤ 23 := by omega
  have hM : n / 60000000 % 60 ≤ 59 := by omega
  have hS : n / 1000000 % 60 ≤ 59 := by omega
  have hU : n % 1000000 ≤ 999999 := by omega
  have hMM : n / 60000000 ≤ 86399999999 := by omega
  have hSS : n / 1000000 ≤ 86399999999 := by omega
  obtain ⟨e67, e70, e72, e76, e77, e78, e83⟩ := tm_eqs n
  have en : ¬ ((n : Int) < 0) := by omega
  unfold qanatref04_Time.f
  rw [if_neg en, ed, qanatref04_Time.j0, if_neg (by decide), eS, eM, eH, tM, tS, tU]
  clear eS eM eH tM tS tU ed en
  generalize n / 3600000000 = H at *
  generalize n / 60000000 % 60 = M at *
  generalize n / 1000000 % 60 = S at *
  generalize n % 1000000 = U at *
  generalize n / 60000000 = MM at *
  generalize n / 1000000 = SS at *
  have p1 : qanatref04_padded.f q (H : Int) 2 = some (bs (padL H 2)) := r_padded q _ 2 hq (by omega) (by omega)
  have p2 : qanatref04_padded.f q (M : Int) 2 = some (bs (padL M 2)) := r_padded q _ 2 hq (by omega) (by omega)
  have p3 : qanatref04_padded.f q (S : Int) 2 = some (bs (padL S 2)) := r_padded q _ 2 hq (by omega) (by omega)
  have p4 : qanatref04_padded.f q (U : Int) 6 = some (bs (padL U 6)) := r_padded q _ 6 hq (by omega) (by omega)
  have t1 := r_text q ((H + 11) % 12 + 1) (by omega) (by omega)
  have t2 := r_text q n (by omega) (by omega)
  have t3 := r_text q H (by omega) (by omega)
  have t4 := r_text q MM (by omega) (by omega)
  have t5 := r_text q SS (by omega) (by omega)
  have l1 := pad_le H 2 (by omega) (by omega)
  have l2 := pad_le M 2 (by omega) (by omega)
  have l3 := pad_le S 2 (by omega) (by omega)
  have l4 := pad_le U 6 (by omega) (by omega)
  have l5 := dec_len ((H + 11) % 12 + 1) (by omega)
  have m1 : (padL H 2 ++ [58]).length ≤ 300 := by rw [List.length_append, List.length_singleton]; omega
  have m2 : (padL H 2 ++ [58] ++ padL M 2).length ≤ 600 := by rw [List.length_append]; omega
  have m3 : (padL H 2 ++ [58] ++ padL M 2 ++ [58]).length ≤ 700 := by rw [List.length_append, List.length_singleton]; omega
  have m4 : (padL H 2 ++ [58] ++ padL M 2 ++ [58] ++ padL S 2).length ≤ 1000 := by rw [List.length_append]; omega
  have m5 : (padL H 2 ++ [58] ++ padL M 2 ++ [58] ++ padL S 2 ++ [46]).length ≤ 1100 := by rw [List.length_append, List.length_singleton]; omega
  have m6 : (Lib.decDigits ((H + 11) % 12 + 1) ++ [58]).length ≤ 100 := by rw [List.length_append, List.length_singleton]; omega
  have m7 : (Lib.decDigits ((H + 11) % 12 + 1) ++ [58] ++ padL M 2).length ≤ 600 := by rw [List.length_append]; omega
  rw [half12 H hH, show (⟨#[58]⟩ : ByteArray) = bs [58] from rfl, show (⟨#[46]⟩ : ByteArray) = bs [46] from rfl, show (⟨#[112, 109]⟩ : ByteArray) = bs [112, 109] from rfl, show (⟨#[97, 109]⟩ : ByteArray) = bs [97, 109] from rfl]
  rw [p1, Option.bind_some, if_pos (size_le _ (by omega)).1, p2, Option.bind_some, bs_append, if_pos (sizes_le _ _ (by omega) (by omega)), bs_append, if_pos (size_le _ (by omega)).1, p3, Option.bind_some, bs_append, if_pos (sizes_le _ _ (by omega) (by omega)), bs_append]
  by_cases c1 : o = 67
  · subst c1
    rw [if_pos rfl]
    by_cases c : 12 ≤ H
    · rw [if_pos (by omega), t1, Option.bind_some, if_pos (size_le _ (by omega)).1, Option.bind_some, bs_append, if_pos (sizes_le _ _ (by omega) (by omega)), bs_append, if_pos (size_le _ (by omega)).2, bs_append, if_pos (by decide), e67, if_pos c]
    · rw [if_neg (by omega), t1, Option.bind_some, if_pos (size_le _ (by omega)).1, Option.bind_some, bs_append, if_pos (sizes_le _ _ (by omega) (by omega)), bs_append, if_pos (size_le _ (by omega)).2, bs_append, if_pos (by decide), e67, if_neg c]
  rw [if_neg c1]
  by_cases c2 : o = 70
  · subst c2
    rw [if_pos rfl, t2, Option.bind_some, if_pos (by decide), e70]
  rw [if_neg c2]
  by_cases c3 : o = 72
  · subst c3
    rw [if_pos rfl, t3, Option.bind_some, if_pos (by decide), e72]
  rw [if_neg c3]
  by_cases c4 : o = 76
  · subst c4
    rw [if_pos rfl, if_pos (size_le _ (by omega)).1, p4, Option.bind_some, bs_append, if_pos (sizes_le _ _ (by omega) (by omega)), bs_append, if_pos (by decide), e76]
  rw [if_neg c4]
  by_cases c5 : o = 77
  · subst c5
    rw [if_pos rfl, t4, Option.bind_some, if_pos (by decide), e77]
  rw [if_neg c5]
  by_cases c6 : o = 78
  · subst c6
    rw [if_pos rfl, if_pos (by decide), e78]
  rw [if_neg c6]
  by_cases c7 : o = 83
  · subst c7
    rw [if_pos rfl, t5, Option.bind_some, if_pos (by decide), e83]
  rw [if_neg c7, if_neg]
  simp [timeOpts]
  exact ⟨c1, c2, c3, c4, c5, c6, c7⟩
theorem r_Time_out (k : Nat) (n o : Int) (hk : 1 ≤ k) (hn : ¬ (0 ≤ n ∧ n ≤ 86399999999)) : qanatref04_Time.f k n o = some (⟨#[]⟩, 1) := by
  obtain ⟨q, rfl⟩ : ∃ q, k = q + 1 := ⟨k - 1, by omega⟩
  unfold qanatref04_Time.f
  split
  · rw [qanatref04_Time.j0, if_pos rfl]
  · rw [decide_eq_true (by omega), qanatref04_Time.j0, if_pos rfl]
theorem time_same (k : Nat) (n o : Int) (hk : 102 ≤ k) : qanatref04_Time.f k n o = cal_Time.f n o := by
  by_cases hn : 0 ≤ n ∧ n ≤ 86399999999
  · obtain ⟨m, rfl⟩ : ∃ m : Nat, n = m := ⟨n.toNat, by omega⟩
    rw [r_Time k m o hk (by omega)]
    by_cases ho : timeOpts.contains o = true
    · rw [if_pos ho, c_Time m o (by omega) ho]
    · rw [if_neg ho, c_Time_no m o (fun h => ho h.2)]
  · rw [r_Time_out k n o (by omega) hn, c_Time_no n o (fun h => hn h.1)]
theorem elapsed_same (k : Nat) (n : Int) (hk : 102 ≤ k) (hn : n ≤ 9223372036854775807) : ∃ r, qanatref04_Elapsed.f k n = some r ∧ Cal.cal_Elapsed.f n = some r := by
  unfold qanatref04_Elapsed.f Cal.cal_Elapsed.f
  by_cases h1 : n < 0
  · rw [if_pos h1, if_pos h1]
    exact ⟨_, rfl, rfl⟩
  rw [if_neg h1, if_neg h1]
  by_cases h2 : n = 0
  · rw [if_pos h2, if_pos h2]
    exact ⟨_, rfl, rfl⟩
  rw [if_neg h2, if_neg h2]
  obtain ⟨m, rfl⟩ : ∃ m : Nat, n = m := ⟨n.toNat, by omega⟩
  have eS : wrap64 (Int.tdiv (m : Int) 1000000) = ((m / 1000000 : Nat) : Int) := by rw [tdp _ (by omega), wr (by omega)]; omega
  have tU : Int.tmod (m : Int) 1000000 = ((m % 1000000 : Nat) : Int) := by rw [tmp _ (by omega)]; omega
  have p4 : qanatref04_padded.f k ((m % 1000000 : Nat) : Int) 6 = some (bs (padL (m % 1000000) 6)) := r_padded k _ 6 (by omega) (by omega) (by omega)
  have q4 : Cal.cal_padded.f ((m % 1000000 : Nat) : Int) 6 = some (bs (padL (m % 1000000) 6)) := c_padded (m % 1000000) 6 (by omega) (by omega)
  have l4 := pad_le (m % 1000000) 6 (by omega) (by omega)
  have l5 := dec_len (m / 1000000) (by omega)
  rw [eS, tU, r_text k _ (by omega) (by omega), Option.bind_some, c_Itoa _ (by omega), Option.bind_some, if_pos (by rw [bs_size]; omega), if_pos (by rw [bs_size]; omega), p4, Option.bind_some, q4, Option.bind_some]
  rw [show (⟨#[46]⟩ : ByteArray) = bs [46] from rfl, bs_append, if_pos (sizes_le _ _ (by rw [List.length_append, List.length_singleton]; omega) (by omega))]
  exact ⟨_, rfl, rfl⟩

end Go.Proofs.YteobeikcakoaaaaGreatDoor.Pure

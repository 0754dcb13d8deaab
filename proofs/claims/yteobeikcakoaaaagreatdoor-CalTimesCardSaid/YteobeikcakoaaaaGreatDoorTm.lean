/-
  cal: the formats of a time of day; what readTime makes of them.
-/
import Derived.Test.YteobeikcakoaaaaGreatDoorFm
namespace Go.Proofs.YteobeikcakoaaaaGreatDoor.Pure
set_option linter.unusedSimpArgs false
set_option linter.unusedVariables false
open Go.RowKit Go.Proofs.YteobeikcakoaaaaGreatDoor.Given Go.Proofs.YteobeikcakoaaaaGreatDoor.Aux Go.Proofs.YteobeikcakoaaaaGreatDoorW.PrintWords Go.Proofs.YteobeikcakoaaaaGreatDoorW.PrintLast Go.Proofs.YteobeikcakoaaaaGreatDoorW.PrintMore

theorem wr {x : Int} (h : -9223372036854775808 ≤ x ∧ x ≤ 9223372036854775807) : wrap64 x = x := by unfold wrap64; omega
theorem tdp {a : Int} (b : Int) (h : 0 ≤ a) : a.tdiv b = a / b := Int.tdiv_eq_ediv_of_nonneg h
theorem tmp {a : Int} (b : Int) (h : 0 ≤ a) : a.tmod b = a % b := Int.tmod_eq_emod_of_nonneg h

def hmsL (n : Nat) : List UInt8 := padL (n / 3600000000) 2 ++ [58] ++ padL (n / 60000000 % 60) 2 ++ [58] ++ padL (n / 1000000 % 60) 2
def halfL (n : Nat) : List UInt8 := if 12 ≤ n / 3600000000 then [112, 109] else [97, 109]
def tmL (n : Nat) (o : Int) : List UInt8 :=
  if o = 67 then padL ((n / 3600000000 + 11) % 12 + 1) 1 ++ [58] ++ padL (n / 60000000 % 60) 2 ++ halfL n
  else if o = 70 then Lib.decDigits n
  else if o = 72 then Lib.decDigits (n / 3600000000)
  else if o = 76 then hmsL n ++ [46] ++ padL (n % 1000000) 6
  else if o = 77 then Lib.decDigits (n / 60000000)
  else if o = 78 then hmsL n
  else Lib.decDigits (n / 1000000)
theorem sz_ok (a b : List UInt8) (ha : a.length ≤ 1000) (hb : b.length ≤ 1000) : (bs a).size + (bs b).size ≤ 9223372036854775807 := by
  rw [bs_size, bs_size]; omega
theorem pad_le (n k : Nat) (h : n ≤ 9223372036854775807) (hk : k ≤ 100) : (padL n k).length ≤ 200 := by
  have := dec_len n h
  simp [padL]
  omega
theorem c_norm (n : Nat) (hn : n ≤ 86399999999) : cal_clock_normal.f 10 (n : Int) = some (bs (hmsL n)) := by
  unfold cal_clock_normal.f
  have e1 : wrap64 (Int.tdiv (n : Int) 3600000000) = ((n / 3600000000 : Nat) : Int) := by rw [tdp _ (by omega), wr (by omega)]; omega
  have e2 : wrap64 (Int.tdiv (n : Int) 60000000) = ((n / 60000000 : Nat) : Int) := by rw [tdp _ (by omega), wr (by omega)]; omega
  have e3 : wrap64 (Int.tdiv (n : Int) 1000000) = ((n / 1000000 : Nat) : Int) := by rw [tdp _ (by omega), wr (by omega)]; omega
  have e4 : Int.tmod ((n / 60000000 : Nat) : Int) 60 = ((n / 60000000 % 60 : Nat) : Int) := by rw [tmp _ (by omega)]; omega
  have e5 : Int.tmod ((n / 1000000 : Nat) : Int) 60 = ((n / 1000000 % 60 : Nat) : Int) := by rw [tmp _ (by omega)]; omega
  rw [e1, e2, e3, e4, e5]
  have := c_joined3 [58] 2 (n / 3600000000) (n / 60000000 % 60) (n / 1000000 % 60) (by omega) (by omega) (by omega) (by omega) (by simp)
  rw [show (2 : Int) = ((2 : Nat) : Int) from rfl, show (⟨#[58]⟩ : ByteArray) = bs [58] from rfl, this]
  rfl
theorem hms_le (n : Nat) (hn : n ≤ 86399999999) : (hmsL n).length ≤ 700 := by
  have h1 := pad_le (n / 3600000000) 2 (by omega) (by omega)
  have h2 := pad_le (n / 60000000 % 60) 2 (by omega) (by omega)
  have h3 := pad_le (n / 1000000 % 60) 2 (by omega) (by omega)
  simp [hmsL]
  omega
theorem half12 (h : Nat) (hh : h ≤ 23) : wrap64 (Int.tmod (wrap64 ((h : Int) + 11)) 12 + 1) = (((h + 11) % 12 + 1 : Nat) : Int) := by
  rw [wr (x := (h : Int) + 11) (by omega), tmp _ (by omega), wr (by omega)]
  omega
theorem c_civ (n : Nat) (hn : n ≤ 86399999999) : cal_clock_civil.f 10 (n : Int) = some (bs (padL ((n / 3600000000 + 11) % 12 + 1) 1 ++ [58] ++ padL (n / 60000000 % 60) 2 ++ halfL n)) := by
  have e1 : wrap64 (Int.tdiv (n : Int) 3600000000) = ((n / 3600000000 : Nat) : Int) := by rw [tdp _ (by omega), wr (by omega)]; omega
  have e2 : wrap64 (Int.tdiv (n : Int) 60000000) = ((n / 60000000 : Nat) : Int) := by rw [tdp _ (by omega), wr (by omega)]; omega
  have e4 : Int.tmod ((n / 60000000 : Nat) : Int) 60 = ((n / 60000000 % 60 : Nat) : Int) := by rw [tmp _ (by omega)]; omega
  have hh : n / 3600000000 ≤ 23 := by omega
  have hm : n / 60000000 % 60 ≤ 59 := by omega
  unfold cal_clock_civil.f halfL
  rw [e1, e2, e4]
  clear e1 e2 e4
  generalize n / 3600000000 = h at *
  generalize n / 60000000 % 60 = m at *
  clear hn
  have hj := c_joined2 [58] 1 ((h + 11) % 12 + 1) m (by omega) (by omega) (by omega) (by simp)
  have h1 := pad_le ((h + 11) % 12 + 1) 1 (by omega) (by omega)
  have h2 := pad_le m 2 (by omega) (by omega)
  have hz : (bs (padL ((h + 11) % 12 + 1) 1 ++ [58] ++ padL m 2)).size + 2 ≤ 9223372036854775807 := by
    rw [bs_size, List.length_append, List.length_append]; simp only [List.length_singleton]; omega
  rw [half12 h hh]
  have hj : cal_joined.f 10 (⟨#[58]⟩ : ByteArray) 1 [(((h + 11) % 12 + 1 : Nat) : Int), (m : Int)] = some (bs (padL ((h + 11) % 12 + 1) 1 ++ [58] ++ padL m 2)) := hj
  rw [hj, Option.bind_some, Option.bind_some, if_pos hz, if_pos hz]
  by_cases c : 12 ≤ h
  · rw [if_pos (by omega), if_pos c, ← bs_append]; rfl
  · rw [if_neg (by omega), if_neg c, ← bs_append]; rfl
theorem c_long (n : Nat) (hn : n ≤ 86399999999) : cal_clock_long.f 10 (n : Int) = some (bs (hmsL n ++ [46] ++ padL (n % 1000000) 6)) := by
  have e6 : Int.tmod (n : Int) 1000000 = ((n % 1000000 : Nat) : Int) := by rw [tmp _ (by omega)]; omega
  have h0 := hms_le n hn
  have h1 := pad_le (n % 1000000) 6 (by omega) (by omega)
  have hp : cal_padded.f ((n % 1000000 : Nat) : Int) 6 = some (bs (padL (n % 1000000) 6)) := c_padded (n % 1000000) 6 (by omega) (by omega)
  unfold cal_clock_long.f
  rw [c_norm n hn, Option.bind_some, if_pos (by rw [bs_size]; omega), e6, hp, Option.bind_some]
  rw [show (⟨#[46]⟩ : ByteArray) = bs [46] from rfl, bs_append, if_pos (by rw [bs_size, bs_size, List.length_append]; simp only [List.length_singleton]; omega), bs_append]
theorem c_fmtC (n : Nat) (o : Int) (hn : n ≤ 86399999999) : fmtC (n : Int) o = some (bs (tmL n o)) := by
  have e1 : wrap64 (Int.tdiv (n : Int) 3600000000) = ((n / 3600000000 : Nat) : Int) := by rw [tdp _ (by omega), wr (by omega)]; omega
  have e2 : wrap64 (Int.tdiv (n : Int) 60000000) = ((n / 60000000 : Nat) : Int) := by rw [tdp _ (by omega), wr (by omega)]; omega
  have e3 : wrap64 (Int.tdiv (n : Int) 1000000) = ((n / 1000000 : Nat) : Int) := by rw [tdp _ (by omega), wr (by omega)]; omega
  have c1 := c_civ n hn
  have c2 := c_long n hn
  have c3 := c_norm n hn
  have i0 := c_Itoa n (by omega)
  have i1 := c_Itoa (n / 3600000000) (by omega)
  have i2 := c_Itoa (n / 60000000) (by omega)
  have i3 := c_Itoa (n / 1000000) (by omega)
  unfold fmtC tmL
  split
  · exact c1
  split
  · unfold cal_clock_full.f
    rw [i0]; rfl
  split
  · unfold cal_clock_hours.f
    rw [e1, i1]; rfl
  split
  · exact c2
  split
  · unfold cal_clock_minutes.f
    rw [e2, i2]; rfl
  split
  · exact c3
  · unfold cal_clock_seconds.f
    rw [e3, i3]; rfl
theorem c_Time (n : Nat) (o : Int) (hn : n ≤ 86399999999) (ho : timeOpts.contains o = true) : cal_Time.f (n : Int) o = some (bs (tmL n o), 0) := by
  unfold cal_Time.f
  rw [if_pos (by omega), if_pos ho, c_fmtC n o hn]
  rfl
theorem c_Time_no (n : Int) (o : Int) (h : ¬ ((0 ≤ n ∧ n ≤ 86399999999) ∧ timeOpts.contains o = true)) : cal_Time.f n o = some (⟨#[]⟩, 1) := by
  unfold cal_Time.f
  split
  · rename_i h1
    rw [if_neg (fun h2 => h ⟨h1, h2⟩)]
  · rfl
theorem c_Time_tot (n o : Int) : ∃ r, cal_Time.f n o = some r := by
  by_cases h : (0 ≤ n ∧ n ≤ 86399999999) ∧ timeOpts.contains o = true
  · obtain ⟨m, rfl⟩ : ∃ m : Nat, n = m := ⟨n.toNat, by omega⟩
    exact ⟨_, c_Time m o (by omega) h.2⟩
  · exact ⟨_, c_Time_no n o h⟩

/-- The smallest time of day with the format. -/
def flo (n : Nat) (o : Int) : Nat := if o = 67 ∨ o = 77 then n - n % 60000000 else if o = 72 then n - n % 3600000000 else if o = 78 ∨ o = 83 then n - n % 1000000 else n
theorem opts7 {o : Int} (h : timeOpts.contains o = true) : o = 67 ∨ o = 70 ∨ o = 72 ∨ o = 76 ∨ o = 77 ∨ o = 78 ∨ o = 83 := by simpa [timeOpts] using h
theorem flo_le (n : Nat) (o : Int) : flo n o ≤ n := by
  unfold flo
  repeat' split
  all_goals omega
theorem flo_fmt (n : Nat) (o : Int) (hn : n ≤ 86399999999) (ho : timeOpts.contains o = true) : tmL (flo n o) o = tmL n o := by
  rcases opts7 ho with rfl | rfl | rfl | rfl | rfl | rfl | rfl
  · have e : flo n 67 = n - n % 60000000 := rfl
    have e1 : (n - n % 60000000) / 3600000000 = n / 3600000000 := by omega
    have e2 : (n - n % 60000000) / 60000000 = n / 60000000 := by omega
    rw [e]
    show padL _ 1 ++ [58] ++ padL _ 2 ++ halfL _ = padL _ 1 ++ [58] ++ padL _ 2 ++ halfL _
    unfold halfL
    rw [e1, e2]
  · rfl
  · show Lib.decDigits ((n - n % 3600000000) / 3600000000) = Lib.decDigits (n / 3600000000)
    rw [show (n - n % 3600000000) / 3600000000 = n / 3600000000 by omega]
  · rfl
  · show Lib.decDigits ((n - n % 60000000) / 60000000) = Lib.decDigits (n / 60000000)
    rw [show (n - n % 60000000) / 60000000 = n / 60000000 by omega]
  · show hmsL (n - n % 1000000) = hmsL n
    have e1 : (n - n % 1000000) / 3600000000 = n / 3600000000 := by omega
    have e2 : (n - n % 1000000) / 60000000 = n / 60000000 := by omega
    have e3 : (n - n % 1000000) / 1000000 = n / 1000000 := by omega
    unfold hmsL
    rw [e1, e2, e3]
  · show Lib.decDigits ((n - n % 1000000) / 1000000) = Lib.decDigits (n / 1000000)
    rw [show (n - n % 1000000) / 1000000 = n / 1000000 by omega]
theorem atColon_of (x t : List UInt8) (h : x.all isDig = true) : atColon (bs (x ++ [58] ++ t)) = x.length := by
  unfold atColon
  rw [bs_data]
  induction x with
  | nil => simp [Lib.indexByte]
  | cons b x ih =>
    simp only [List.all_cons, Bool.and_eq_true] at h
    have hb := dig_val h.1
    have hi := ih h.2
    rw [List.cons_append, List.cons_append]
    unfold Lib.indexByte
    have hne : (b == 58) = false := by
      rw [beq_eq_false_iff_ne]
      intro e
      subst e
      have : (58 : UInt8).toNat = 58 := by decide
      omega
    rw [hne, hi]
    have h1 : ((x.length : Int) == -1) = false := by rw [beq_eq_false_iff_ne]; omega
    rw [h1]
    simp
theorem two_dig (n : Nat) (h : n < 60) : (padL n 2).length = 2 ∧ (padL n 2).all isDig = true ∧ numL (padL n 2) = n := ⟨pad_len n 2 (by omega) (by omega), pad_dig n 2, pad_num n 2⟩
theorem pad_one (n : Nat) : padL n 1 = Lib.decDigits n := by
  have := dec_pos n
  unfold padL
  rw [show 1 - (Lib.decDigits n).length = 0 by omega]
  rfl
theorem civil_fmt (n : Nat) (hn : n ≤ 86399999999) : civilF (bs (tmL n 67)) = some ((n - n % 60000000 : Nat) : Int) := by
  have e : tmL n 67 = Lib.decDigits ((n / 3600000000 + 11) % 12 + 1) ++ [58] ++ (padL (n / 60000000 % 60) 2 ++ halfL n) := by
    rw [← pad_one, ← List.append_assoc]; rfl
  obtain ⟨hl, hd, hv⟩ := two_dig (n / 60000000 % 60) (by omega)
  have hh : (halfL n).length = 2 := by unfold halfL; split <;> rfl
  have hx := dec_len_le ((n / 3600000000 + 11) % 12 + 1) 2 (by omega) (by omega)
  have hxp := dec_pos ((n / 3600000000 + 11) % 12 + 1)
  have ha := atColon_of (Lib.decDigits ((n / 3600000000 + 11) % 12 + 1)) (padL (n / 60000000 % 60) 2 ++ halfL n) (dec_dig _)
  generalize hX : Lib.decDigits ((n / 3600000000 + 11) % 12 + 1) = x at *
  generalize hM : padL (n / 60000000 % 60) 2 = m at *
  rw [e]
  have hsz : (bs (x ++ [58] ++ (m ++ halfL n))).size = x.length + 5 := by rw [bs_size]; simp; omega
  unfold civilF
  rw [ha, hsz, if_pos (by omega), if_neg (by omega)]
  have ex : (bs (x ++ [58] ++ (m ++ halfL n))).extract 0 ((x.length : Int)).toNat = bs x := by
    rw [Int.toNat_natCast, bs_extract, List.drop_zero, Nat.sub_zero, List.append_assoc, List.take_left]
  have em : (bs (x ++ [58] ++ (m ++ halfL n))).extract (((x.length : Int)).toNat + 1) (((x.length : Int)).toNat + 3) = bs m := by
    rw [Int.toNat_natCast, bs_extract, show x.length + 1 = (x ++ [58]).length by simp, List.drop_left, show x.length + 3 - (x ++ ([58] : List UInt8)).length = m.length by (simp only [List.length_append, List.length_singleton]; omega), List.take_left]
  have eb : ∀ b t, halfL n = b :: t → bt (bs (x ++ [58] ++ (m ++ halfL n))) ((x.length : Int) + 3) = (b.toNat : Int) := by
    intro b t hb
    have := bt_bs (x ++ [58] ++ (m ++ halfL n)) (x.length + 3) b (by
      rw [← List.append_assoc, show x.length + 3 = (x ++ [58] ++ m).length by simp; omega, List.getElem?_append_right (Nat.le_refl _), Nat.sub_self, hb]
      rfl)
    simpa using this
  have hp : cal_plain.f (bs x) 2 = some ((((n / 3600000000 + 11) % 12 + 1 : Nat) : Int), true) := by
    rw [← hX]
    exact plain_hit _ 2 (by omega) (by rw [hX]; exact hx)
  have hq : cal_digits.f (bs m) 2 = some (numL m, true) := digits_hit m 2 (by omega) hl hd
  rw [ex, em, hp, Option.bind_some, hq, Option.bind_some, hv]
  congr 1
  by_cases c : 12 ≤ n / 3600000000
  · have hh : halfL n = 112 :: [109] := by unfold halfL; rw [if_pos c]
    rw [eb 112 [109] hh, if_pos (by decide)]
    omega
  · have hh : halfL n = 97 :: [109] := by unfold halfL; rw [if_neg c]
    rw [eb 97 [109] hh, if_neg (by decide)]
    omega
theorem norm_fmt (n : Nat) (hn : n ≤ 86399999999) : normF (bs (hmsL n)) = some ((n - n % 1000000 : Nat) : Int) := by
  have a1 : (padL (n / 3600000000) 2).length = 2 := pad_len _ 2 (by omega) (by omega)
  obtain ⟨l2, d2, v2⟩ := two_dig (n / 60000000 % 60) (by omega)
  obtain ⟨l3, d3, v3⟩ := two_dig (n / 1000000 % 60) (by omega)
  have e : hmsL n = padL (n / 3600000000) 2 ++ [58] ++ (padL (n / 60000000 % 60) 2 ++ [58] ++ (padL (n / 1000000 % 60) 2 ++ [] ++ [])) := by
    unfold hmsL; simp
  unfold normF
  rw [e, show (⟨#[58]⟩ : ByteArray) = bs [58] from rfl, show (⟨#[]⟩ : ByteArray) = bs [] from rfl]
  rw [next_hit _ _ _ true 2 (by omega) a1 (pad_dig _ _), Option.bind_some]
  rw [next_hit _ _ _ true 2 (by omega) l2 d2, Option.bind_some]
  rw [next_hit _ _ _ true 2 (by omega) l3 d3, Option.bind_some, pad_num, v2, v3]
  congr 1
  omega
theorem long_fmt (n : Nat) (hn : n ≤ 86399999999) : longF (bs (hmsL n ++ [46] ++ padL (n % 1000000) 6)) = some (n : Int) := by
  have a1 : (padL (n / 3600000000) 2).length = 2 := pad_len _ 2 (by omega) (by omega)
  have a4 : (padL (n % 1000000) 6).length = 6 := pad_len _ 6 (by omega) (by omega)
  obtain ⟨l2, d2, v2⟩ := two_dig (n / 60000000 % 60) (by omega)
  obtain ⟨l3, d3, v3⟩ := two_dig (n / 1000000 % 60) (by omega)
  have e : hmsL n ++ [46] ++ padL (n % 1000000) 6 = padL (n / 3600000000) 2 ++ [58] ++ (padL (n / 60000000 % 60) 2 ++ [58] ++ (padL (n / 1000000 % 60) 2 ++ [46] ++ (padL (n % 1000000) 6 ++ [] ++ []))) := by
    unfold hmsL; simp
  unfold longF
  rw [e, show (⟨#[58]⟩ : ByteArray) = bs [58] from rfl, show (⟨#[46]⟩ : ByteArray) = bs [46] from rfl, show (⟨#[]⟩ : ByteArray) = bs [] from rfl]
  rw [next_hit _ _ _ true 2 (by omega) a1 (pad_dig _ _), Option.bind_some]
  rw [next_hit _ _ _ true 2 (by omega) l2 d2, Option.bind_some]
  rw [next_hit _ _ _ true 2 (by omega) l3 d3, Option.bind_some]
  rw [next_hit _ _ _ true 6 (by omega) a4 (pad_dig _ _), Option.bind_some, pad_num, v2, v3, pad_num]
  congr 1
  omega
/-- What readTime makes of a format. -/
theorem c_readTime (n : Nat) (o : Int) (hn : n ≤ 86399999999) (ho : timeOpts.contains o = true) : cal_readTime.f (bs (tmL n o)) o = some ((flo n o : Nat) : Int) := by
  rcases opts7 ho with rfl | rfl | rfl | rfl | rfl | rfl | rfl
  · exact civil_fmt n hn
  · show (cal_plain.f (bs (Lib.decDigits n)) 11).bind _ = _
    rw [show (11 : Int) = ((11 : Nat) : Int) from rfl, plain_hit n 11 (by omega) (dec_len_le n 11 (by omega) (by omega)), Option.bind_some]
    show some (wrap64 (min (n : Int) 86400000000 * 1)) = some (n : Int)
    rw [wr (by omega)]
    congr 1
    omega
  · show (cal_plain.f (bs (Lib.decDigits (n / 3600000000))) 11).bind _ = _
    rw [show (11 : Int) = ((11 : Nat) : Int) from rfl, plain_hit _ 11 (by omega) (dec_len_le _ 11 (by omega) (by omega)), Option.bind_some]
    show some (wrap64 (min ((n / 3600000000 : Nat) : Int) 86400000000 * 3600000000)) = some (((n - n % 3600000000 : Nat)) : Int)
    rw [wr (by omega)]
    congr 1
    omega
  · exact long_fmt n hn
  · show (cal_plain.f (bs (Lib.decDigits (n / 60000000))) 11).bind _ = _
    rw [show (11 : Int) = ((11 : Nat) : Int) from rfl, plain_hit _ 11 (by omega) (dec_len_le _ 11 (by omega) (by omega)), Option.bind_some]
    show some (wrap64 (min ((n / 60000000 : Nat) : Int) 86400000000 * 60000000)) = some (((n - n % 60000000 : Nat)) : Int)
    rw [wr (by omega)]
    congr 1
    omega
  · exact norm_fmt n hn
  · show (cal_plain.f (bs (Lib.decDigits (n / 1000000))) 11).bind _ = _
    rw [show (11 : Int) = ((11 : Nat) : Int) from rfl, plain_hit _ 11 (by omega) (dec_len_le _ 11 (by omega) (by omega)), Option.bind_some]
    show some (wrap64 (min ((n / 1000000 : Nat) : Int) 86400000000 * 1000000)) = some (((n - n % 1000000 : Nat)) : Int)
    rw [wr (by omega)]
    congr 1
    omega
theorem readTime_tot (s : ByteArray) (o : Int) (hs : s.size ≤ 100) : ∃ r, cal_readTime.f s o = some r := by
  have two : ∀ s f p, s.size ≤ 100 → ∃ r, nextF s f 2 p = some r ∧ r.2.1.size ≤ 100 := fun s f p h => by
    obtain ⟨r, h1, h2⟩ := next_tot s f 2 p (by omega) (by omega)
    exact ⟨r, h1, by omega⟩
  unfold cal_readTime.f
  split
  · unfold civilF
    have hc : atColon s ≤ 1000000000 := by
      rcases Int.lt_or_le (atColon s) 0 with h | h
      · omega
      · obtain ⟨a, ha⟩ : ∃ a : Nat, atColon s = a := ⟨(atColon s).toNat, by omega⟩
        have := (Lib.indexByte_some (l := s.data.toList) (c := 58) ha).1
        have := (List.getElem?_eq_some_iff.1 this).1
        rw [data_len] at this
        omega
    rw [if_pos ⟨by omega, hc⟩]
    split
    · exact ⟨_, rfl⟩
    · rename_i h
      obtain ⟨p, hp⟩ := plain_tot (s.extract 0 (atColon s).toNat) 2 (by rw [ByteArray.size_extract]; omega) (by omega)
      have hp : cal_plain.f (s.extract 0 (atColon s).toNat) 2 = some p := hp
      obtain ⟨q, hq⟩ := digits_tot (s.extract ((atColon s).toNat + 1) ((atColon s).toNat + 3)) 2 (by rw [ByteArray.size_extract]; omega) (by omega) (by omega)
      rw [hp, Option.bind_some, hq, Option.bind_some]
      exact ⟨_, rfl⟩
  · split
    · unfold longF
      obtain ⟨r1, h1, z1⟩ := two s true ⟨#[58]⟩ hs
      obtain ⟨r2, h2, z2⟩ := two r1.2.1 r1.2.2 ⟨#[58]⟩ z1
      obtain ⟨r3, h3, z3⟩ := two r2.2.1 r2.2.2 ⟨#[46]⟩ z2
      obtain ⟨r4, h4, z4⟩ := next_tot r3.2.1 r3.2.2 6 ⟨#[]⟩ (by omega) (by omega)
      rw [h1, Option.bind_some, h2, Option.bind_some, h3, Option.bind_some, h4]
      exact ⟨_, rfl⟩
    · split
      · unfold normF
        obtain ⟨r1, h1, z1⟩ := two s true ⟨#[58]⟩ hs
        obtain ⟨r2, h2, z2⟩ := two r1.2.1 r1.2.2 ⟨#[58]⟩ z1
        obtain ⟨r3, h3, z3⟩ := two r2.2.1 r2.2.2 ⟨#[]⟩ z2
        rw [h1, Option.bind_some, h2, Option.bind_some, h3]
        exact ⟨_, rfl⟩
      · obtain ⟨r, hr⟩ := plain_tot s 11 (by omega) (by omega)
        have hr : cal_plain.f s 11 = some r := hr
        rw [hr]
        exact ⟨_, rfl⟩
/-- ReadTime: the string that it reads is the one that Time returns. -/
theorem c_ReadTime_tot (s : ByteArray) (o : Int) (hs : s.size ≤ 100) : ∃ n e, cal_ReadTime.f s o = some (n, e) ∧ (e = 0 → timeOpts.contains o = true ∧ ∃ m : Nat, n = m ∧ m ≤ 86399999999 ∧ s = bs (tmL m o) ∧ flo m o = m) := by
  unfold cal_ReadTime.f
  split
  · rename_i ho
    obtain ⟨r, hr⟩ := readTime_tot s o hs
    rw [hr, Option.bind_some]
    by_cases h : 0 ≤ r ∧ r ≤ 86399999999
    · obtain ⟨m, rfl⟩ : ∃ m : Nat, r = m := ⟨r.toNat, by omega⟩
      rw [c_Time m o (by omega) ho, Option.bind_some]
      by_cases h2 : (bs (tmL m o)).toList = s.toList
      · rw [if_pos ⟨rfl, h2⟩]
        have e : s = bs (tmL m o) := by
          rw [bs_toList] at h2
          rw [← bs_self s, h2]
          congr 1
          exact (bs_toList s.data.toList).symm.trans (by rw [bs_self])
        have hf := c_readTime m o (by omega) ho
        rw [← e, hr] at hf
        exact ⟨_, _, rfl, fun _ => ⟨ho, m, rfl, by omega, e, by have := Option.some.inj hf; omega⟩⟩
      · rw [if_neg (fun h => h2 h.2)]
        exact ⟨_, _, rfl, fun h => by cases h⟩
    · rw [c_Time_no r o (fun e => h e.1), Option.bind_some, if_neg (fun h => by cases h.1)]
      exact ⟨_, _, rfl, fun h => by cases h⟩
  · exact ⟨_, _, rfl, fun h => by cases h⟩
theorem c_ReadTime_fmt (n : Nat) (o : Int) (hn : n ≤ 86399999999) (ho : timeOpts.contains o = true) : cal_ReadTime.f (bs (tmL n o)) o = some (((flo n o : Nat) : Int), 0) := by
  unfold cal_ReadTime.f
  have hle := flo_le n o
  rw [if_pos ho, c_readTime n o hn ho, Option.bind_some, c_Time _ o (by omega) ho, Option.bind_some, if_pos ⟨rfl, by rw [flo_fmt n o hn ho]⟩]
end Go.Proofs.YteobeikcakoaaaaGreatDoor.Pure

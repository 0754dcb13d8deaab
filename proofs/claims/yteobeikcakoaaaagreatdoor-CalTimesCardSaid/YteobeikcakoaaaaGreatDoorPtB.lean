/-
  cal: the readers of CalTimes.
-/
import Derived.Test.YteobeikcakoaaaaGreatDoorPtA
namespace Go.Proofs.YteobeikcakoaaaaGreatDoor.Pure
set_option linter.unusedSimpArgs false
set_option linter.unusedVariables false
open Go.RowKit Go.Proofs.YteobeikcakoaaaaGreatDoor.Given Go.Proofs.YteobeikcakoaaaaGreatDoor.Cal Go.Proofs.YteobeikcakoaaaaGreatDoorW.PrintWords Go.Proofs.YteobeikcakoaaaaGreatDoorW.PrintLast Go.Proofs.YteobeikcakoaaaaGreatDoorW.PrintMore

/-! ### readers of the reference -/

/-- The value of a row of digits, -1 if it is none. -/
def dgV (l : List UInt8) : Int := if l.all isDig = true ∧ 1 ≤ l.length ∧ l.length ≤ 12 then numL l else -1
theorem r_dig_bad (l : List UInt8) (hl : l.length ≤ 1000) : ∀ (d i k : Nat) (acc : Int), l.length - i = d → i ≤ l.length → d < k → ((l.drop i).all isDig = true → l.length = 0 ∨ 12 < l.length) → qanatref04_digits.l0 k (bs l) acc (i : Int) = some (-1)
  | 0, i, k, acc, hd, hi, hk, hc => by
    obtain ⟨q, rfl⟩ : ∃ q, k = q + 1 := ⟨k - 1, by omega⟩
    have := hc (by rw [List.drop_of_length_le (by omega)]; rfl)
    rw [qanatref04_digits.l0, if_neg (by rw [bs_size]; omega)]
    by_cases h0 : l.length = 0
    · rw [if_pos (by rw [bs_size]; omega)]
    · rw [if_neg (by rw [bs_size]; omega), if_pos (by rw [bs_size]; omega)]
  | d + 1, i, k, acc, hd, hi, hk, hc => by
    obtain ⟨q, rfl⟩ : ∃ q, k = q + 1 := ⟨k - 1, by omega⟩
    have hlt : i < l.length := by omega
    have hb : bt (bs l) (i : Int) = ((l[i]).toNat : Int) := bt_bs l i l[i] (List.getElem?_eq_getElem hlt)
    rw [qanatref04_digits.l0, if_pos (by rw [bs_size]; omega), if_pos (by omega), hb]
    by_cases c1 : ((l[i]).toNat : Int) < 48
    · rw [if_pos c1]
    rw [if_neg c1]
    by_cases c2 : ((l[i]).toNat : Int) > 57
    · rw [if_pos c2]
    rw [if_neg c2, show wrap64 ((i : Int) + 1) = ((i + 1 : Nat) : Int) by rw [wr (by omega)]; rfl]
    refine r_dig_bad l hl d (i + 1) q _ (by omega) (by omega) (by omega) fun h => hc ?_
    rw [List.drop_eq_getElem_cons hlt, List.all_cons, h]
    have : isDig l[i] = true := by unfold isDig; simp; omega
    rw [this]; rfl
theorem r_dig_ok (l : List UInt8) (hl : 1 ≤ l.length ∧ l.length ≤ 12) (ha : l.all isDig = true) : ∀ (d i k : Nat), l.length - i = d → i ≤ l.length → d < k → qanatref04_digits.l0 k (bs l) (numL (l.take i)) (i : Int) = some (numL l)
  | 0, i, k, hd, hi, hk => by
    obtain ⟨q, rfl⟩ : ∃ q, k = q + 1 := ⟨k - 1, by omega⟩
    rw [qanatref04_digits.l0, if_neg (by rw [bs_size]; omega), if_neg (by rw [bs_size]; omega), if_neg (by rw [bs_size]; omega), List.take_of_length_le (by omega)]
  | d + 1, i, k, hd, hi, hk => by
    obtain ⟨q, rfl⟩ : ∃ q, k = q + 1 := ⟨k - 1, by omega⟩
    have hlt : i < l.length := by omega
    have hb : bt (bs l) (i : Int) = ((l[i]).toNat : Int) := bt_bs l i l[i] (List.getElem?_eq_getElem hlt)
    have hv := dig_val (List.all_eq_true.1 ha l[i] (List.getElem_mem hlt))
    have ht : (l.take i).all isDig = true := by
      rw [List.all_eq_true] at ha ⊢
      exact fun x hx => ha x (List.mem_of_mem_take hx)
    have hn := numL_bd (l.take i) ht
    have hp : (10 : Int) ^ (l.take i).length ≤ 10 ^ 12 := by
      have : (10 : Nat) ^ (l.take i).length ≤ 10 ^ 12 := Nat.pow_le_pow_right (by decide) (by simp; omega)
      exact_mod_cast this
    rw [qanatref04_digits.l0, if_pos (by rw [bs_size]; omega), if_pos (by omega), hb, if_neg (by omega), if_neg (by omega)]
    rw [show wrap64 ((i : Int) + 1) = ((i + 1 : Nat) : Int) by rw [wr (by omega)]; rfl]
    have e : wrap64 (wrap64 (10 * numL (l.take i)) + ((((l[i]).toNat : Int) - 48) % 256)) = numL (l.take (i + 1)) := by
      rw [List.take_succ_eq_append_getElem hlt, numL_snoc, wr (x := 10 * numL (l.take i)) (by omega), wr (by omega)]
      omega
    rw [e]
    exact r_dig_ok l hl ha d (i + 1) q (by omega) (by omega) (by omega)
theorem r_digits (k : Nat) (l : List UInt8) (hl : l.length ≤ 1000) (hk : l.length < k) : qanatref04_digits.f k (bs l) = some (dgV l) := by
  unfold qanatref04_digits.f dgV
  by_cases h : l.all isDig = true ∧ 1 ≤ l.length ∧ l.length ≤ 12
  · rw [if_pos h]
    exact r_dig_ok l h.2 h.1 _ 0 k rfl (by omega) (by omega)
  · rw [if_neg h]
    refine r_dig_bad l hl _ 0 k 0 rfl (by omega) (by omega) fun h2 => ?_
    rw [List.drop_zero] at h2
    rcases Nat.eq_zero_or_pos l.length with e | e
    · exact .inl e
    · right
      rcases Nat.lt_or_ge 12 l.length with g | g
      · exact g
      · exact absurd ⟨h2, e, g⟩ h
theorem dgV_hit {l : List UInt8} (h : l.all isDig = true) (h1 : 1 ≤ l.length) (h2 : l.length ≤ 12) : dgV l = numL l := if_pos ⟨h, h1, h2⟩
theorem dgV_inv {l : List UInt8} (h : 0 ≤ dgV l) : l.all isDig = true ∧ 1 ≤ l.length ∧ l.length ≤ 12 ∧ dgV l = numL l := by
  unfold dgV at h ⊢
  split at h
  · rename_i hc
    rw [if_pos hc]
    exact ⟨hc.1, hc.2.1, hc.2.2, rfl⟩
  · omega
theorem dec_inj {a b : Nat} (h : Lib.decDigits a = Lib.decDigits b) : a = b := by
  have := congrArg numL h
  rw [dec_num, dec_num] at this
  omega
/-- plain: a numeral of at most m digits, or none. -/
theorem r_plain (k : Nat) (l : List UInt8) (m : Nat) (hm : m ≤ 12) (hl : l.length ≤ 1000) (hk : l.length < k) :
    (∃ n : Nat, l = Lib.decDigits n ∧ l.length ≤ m ∧ qanatref04_plain.f k (bs l) (m : Int) = some (n : Int)) ∨ (qanatref04_plain.f k (bs l) (m : Int) = some (-1) ∧ ∀ n, l = Lib.decDigits n → m < l.length) := by
  unfold qanatref04_plain.f
  by_cases h1 : m < l.length
  · right
    rw [if_pos (by rw [bs_size]; omega)]
    exact ⟨rfl, fun _ _ => h1⟩
  rw [if_neg (by rw [bs_size]; omega), r_digits k l hl hk]
  have low : 0 ≤ dgV l ∨ dgV l = -1 := by
    unfold dgV
    split
    · rename_i h
      exact .inl (numL_bd l h.1).1
    · exact .inr rfl
  have fin : ((∀ b t, l = b :: t → t ≠ [] → b ≠ 48) → (∃ n : Nat, l = Lib.decDigits n ∧ l.length ≤ m ∧ dgV l = (n : Int)) ∨ (dgV l = -1 ∧ ∀ n, l = Lib.decDigits n → m < l.length)) := by
    intro h0
    rcases low with h | h
    · left
      obtain ⟨a1, a2, a3, a4⟩ := dgV_inv h
      have e := dec_of l a1 (by intro e; rw [e] at a2; simp at a2) h0
      exact ⟨(numL l).toNat, e.symm, by omega, by rw [a4]; have := (numL_bd l a1).1; omega⟩
    · right
      refine ⟨h, fun n e => ?_⟩
      have := dec_pos n
      rw [← e] at this
      rw [dgV_hit (by rw [e]; exact dec_dig n) this (by omega)] at h
      have := (numL_bd l (by rw [e]; exact dec_dig n)).1
      omega
  by_cases h2 : 1 < l.length
  · rw [if_pos (by rw [bs_size]; omega), if_pos (by rw [bs_size]; omega)]
    cases hl2 : l with
    | nil => rw [hl2] at h2; simp at h2
    | cons b t =>
      have hb : bt (bs (b :: t)) 0 = (b.toNat : Int) := bt_bs (b :: t) 0 b rfl
      rw [hb]
      by_cases h3 : b = 48
      · right
        rw [if_pos (by rw [h3]; rfl)]
        refine ⟨rfl, fun n e => ?_⟩
        exact absurd h3 (dec_head n b t e.symm (by intro e2; rw [hl2, e2] at h2; simp at h2))
      · rw [if_neg (by
          intro e
          apply h3
          apply UInt8.toNat_inj.1
          have : (48 : UInt8).toNat = 48 := by decide
          omega)]
        rw [← hl2]
        have := fin (fun b' t' e _ => by rw [hl2] at e; cases e; exact h3)
        simpa using this
  · rw [if_neg (by rw [bs_size]; omega)]
    have := fin (fun b t e ht => by
      rw [e] at h2
      cases t with
      | nil => exact absurd rfl ht
      | cons => simp at h2)
    simpa using this
theorem r_unit (k : Nat) (l : List UInt8) (u : Nat) (hu : u = 1 ∨ u = 3600000000 ∨ u = 60000000 ∨ u = 1000000) (hl : l.length ≤ 1000) (hk : l.length < k) :
    (∃ q : Nat, l = Lib.decDigits q ∧ q * u ≤ 86399999999 ∧ qanatref04_unit.f k (bs l) (u : Int) = some ((q * u : Nat) : Int)) ∨ (qanatref04_unit.f k (bs l) (u : Int) = some (-1) ∧ ∀ q, l = Lib.decDigits q → 86399999999 < q * u) := by
  unfold qanatref04_unit.f
  rcases r_plain k l 11 (by omega) hl hk with ⟨n, e, hn, hp⟩ | ⟨hp, hno⟩
  · have hp : qanatref04_plain.f k (bs l) 11 = some (n : Int) := hp
    rw [hp, Option.bind_some, if_neg (by omega)]
    have hw : wrap64 ((86399999999 : Int) / (u : Int)) = ((86399999999 / u : Nat) : Int) := by
      rcases hu with rfl | rfl | rfl | rfl <;> (unfold wrap64; omega)
    have hdiv : n > 86399999999 / u ↔ 86399999999 < n * u := by
      rcases hu with rfl | rfl | rfl | rfl <;> omega
    rw [hw, if_neg (by rcases hu with rfl | rfl | rfl | rfl <;> decide)]
    by_cases c : n > 86399999999 / u
    · right
      rw [if_pos (by exact_mod_cast c)]
      refine ⟨rfl, fun q eq => ?_⟩
      obtain rfl : n = q := dec_inj (e.symm.trans eq)
      exact hdiv.1 c
    · left
      have c2 : n * u ≤ 86399999999 := by
        have := mt hdiv.2 c
        omega
      rw [if_neg (by intro h; exact c (by exact_mod_cast h))]
      refine ⟨n, e, c2, ?_⟩
      rw [show (n : Int) * (u : Int) = ((n * u : Nat) : Int) by simp, wr (by omega)]
  · right
    have hp : qanatref04_plain.f k (bs l) 11 = some (-1) := hp
    rw [hp, Option.bind_some, if_pos (by omega)]
    refine ⟨rfl, fun q eq => ?_⟩
    have h1 := hno q eq
    rw [eq] at h1
    rcases Nat.lt_or_ge q (10 ^ 11) with g | g
    · have := dec_len_le q 11 (by omega) g
      omega
    · have : q ≤ q * u := Nat.le_mul_of_pos_right q (by rcases hu with rfl | rfl | rfl | rfl <;> decide)
      omega
/-- The parts of a row of eight bytes. -/
theorem eight {l : List UInt8} (h : l.length = 8) : ∃ a b c d e f g i, l = [a, b, c, d, e, f, g, i] := by
  match l, h with
  | [a, b, c, d, e, f, g, i], _ => exact ⟨a, b, c, d, e, f, g, i, rfl⟩
theorem two {l : List UInt8} (h : l.length = 2) : ∃ a b, l = [a, b] := by
  match l, h with
  | [a, b], _ => exact ⟨a, b, rfl⟩
theorem byte_is {c : UInt8} {n : Nat} (hn : n < 256) : ((c.toNat : Int) = (n : Int)) ↔ c = UInt8.ofNat n := by
  constructor
  · intro h
    apply UInt8.toNat_inj.1
    rw [UInt8.toNat_ofNat']
    omega
  · rintro rfl
    rw [UInt8.toNat_ofNat']
    omega
theorem r_clock8 (k : Nat) (hk : 20 ≤ k) (a b c d e f g i : UInt8) : qanatref04_clock.f k (bs [a, b, c, d, e, f, g, i]) =
    some (if c = 58 ∧ f = 58 ∧ (0 ≤ dgV [a, b] ∧ dgV [a, b] ≤ 23) ∧ (0 ≤ dgV [d, e] ∧ dgV [d, e] ≤ 59) ∧ (0 ≤ dgV [g, i] ∧ dgV [g, i] ≤ 59) then 1000000 * (3600 * dgV [a, b] + 60 * dgV [d, e] + dgV [g, i]) else -1) := by
  obtain ⟨q, rfl⟩ : ∃ q, k = q + 1 := ⟨k - 1, by omega⟩
  have hz : (bs [a, b, c, d, e, f, g, i]).size = 8 := by rw [bs_size]; rfl
  have b2 : bt (bs [a, b, c, d, e, f, g, i]) 2 = (c.toNat : Int) := bt_bs [a, b, c, d, e, f, g, i] 2 c rfl
  have b5 : bt (bs [a, b, c, d, e, f, g, i]) 5 = (f.toNat : Int) := bt_bs [a, b, c, d, e, f, g, i] 5 f rfl
  have x1 : (bs [a, b, c, d, e, f, g, i]).extract 0 2 = bs [a, b] := by rw [bs_extract]; rfl
  have x2 : (bs [a, b, c, d, e, f, g, i]).extract 3 5 = bs [d, e] := by rw [bs_extract]; rfl
  have x3 : (bs [a, b, c, d, e, f, g, i]).extract 6 8 = bs [g, i] := by rw [bs_extract]; rfl
  have i2 : ((c.toNat : Int) = 58) ↔ c = 58 := byte_is (n := 58) (by decide)
  have i5 : ((f.toNat : Int) = 58) ↔ f = 58 := byte_is (n := 58) (by decide)
  unfold qanatref04_clock.f
  rw [hz, b2, b5, if_pos (by decide), if_pos (by decide)]
  by_cases c1 : c = 58
  · rw [if_pos (i2.2 c1), if_pos (by decide)]
    by_cases c2 : f = 58
    · have : ((f.toNat : Int) != 58) = false := by rw [i5.2 c2]; rfl
      rw [this, qanatref04_clock.j0, if_neg (by decide), hz, if_pos (by decide), if_pos (by decide), x1, r_digits q [a, b] (by simp) (by simp; omega), Option.bind_some, if_pos (by decide), if_pos (by decide), x2, r_digits q [d, e] (by simp) (by simp; omega), Option.bind_some, if_pos (by decide), x3, r_digits q [g, i] (by simp) (by simp; omega), Option.bind_some]
      by_cases h1 : dgV [a, b] < 0
      · rw [if_pos h1, if_neg (by omega)]
      rw [if_neg h1]
      by_cases h2 : dgV [a, b] > 23
      · rw [if_pos h2, if_neg (by omega)]
      rw [if_neg h2]
      by_cases h3 : dgV [d, e] < 0
      · rw [if_pos h3, if_neg (by omega)]
      rw [if_neg h3]
      by_cases h4 : dgV [d, e] > 59
      · rw [if_pos h4, if_neg (by omega)]
      rw [if_neg h4]
      by_cases h5 : dgV [g, i] < 0
      · rw [if_pos h5, if_neg (by omega)]
      rw [if_neg h5]
      by_cases h6 : dgV [g, i] > 59
      · rw [if_pos h6, if_neg (by omega)]
      rw [if_neg h6, if_pos ⟨c1, c2, by omega, by omega, by omega⟩]
      rw [wr (x := 3600 * dgV [a, b]) (by omega), wr (x := 60 * dgV [d, e]) (by omega), wr (x := 3600 * dgV [a, b] + 60 * dgV [d, e]) (by omega), wr (x := 3600 * dgV [a, b] + 60 * dgV [d, e] + dgV [g, i]) (by omega), wr (by omega)]
    · have : ((f.toNat : Int) != 58) = true := by rw [bne_iff_ne]; exact fun h => c2 (i5.1 h)
      rw [this, qanatref04_clock.j0, if_pos rfl, if_neg (fun h => c2 h.2.1)]
  · rw [if_neg (fun h => c1 (i2.1 h)), qanatref04_clock.j0, if_pos rfl, if_neg (fun h => c1 h.1)]
theorem hms_parts (n : Nat) (hn : n ≤ 86399999999) : ∃ a b d e g i, hmsL n = [a, b, 58, d, e, 58, g, i] ∧ dgV [a, b] = ((n / 3600000000 : Nat) : Int) ∧ dgV [d, e] = ((n / 60000000 % 60 : Nat) : Int) ∧ dgV [g, i] = ((n / 1000000 % 60 : Nat) : Int) := by
  have l1 : (padL (n / 3600000000) 2).length = 2 := pad_len _ 2 (by omega) (by omega)
  obtain ⟨l2, d2, v2⟩ := two_dig (n / 60000000 % 60) (by omega)
  obtain ⟨l3, d3, v3⟩ := two_dig (n / 1000000 % 60) (by omega)
  obtain ⟨a, b, e1⟩ := two l1
  obtain ⟨d, e, e2⟩ := two l2
  obtain ⟨g, i, e3⟩ := two l3
  refine ⟨a, b, d, e, g, i, ?_, ?_, ?_, ?_⟩
  · unfold hmsL
    rw [e1, e2, e3]
    rfl
  · rw [← e1, dgV_hit (pad_dig _ _) (by omega) (by omega), pad_num]
  · rw [← e2, dgV_hit d2 (by omega) (by omega), v2]
  · rw [← e3, dgV_hit d3 (by omega) (by omega), v3]
theorem r_clock_fmt (k n : Nat) (hk : 20 ≤ k) (hn : n ≤ 86399999999) : qanatref04_clock.f k (bs (hmsL n)) = some ((n - n % 1000000 : Nat) : Int) := by
  obtain ⟨a, b, d, e, g, i, e1, v1, v2, v3⟩ := hms_parts n hn
  rw [e1, r_clock8 k hk, v1, v2, v3, if_pos ⟨rfl, rfl, by omega, by omega, by omega⟩]
  congr 1
  omega
theorem r_clock (k : Nat) (l : List UInt8) (hk : 20 ≤ k) : (∃ n : Nat, n ≤ 86399999999 ∧ n % 1000000 = 0 ∧ l = hmsL n ∧ qanatref04_clock.f k (bs l) = some (n : Int)) ∨ (qanatref04_clock.f k (bs l) = some (-1) ∧ ∀ n, n ≤ 86399999999 → l ≠ hmsL n) := by
  have key : (∃ n : Nat, n ≤ 86399999999 ∧ n % 1000000 = 0 ∧ l = hmsL n ∧ qanatref04_clock.f k (bs l) = some (n : Int)) ∨ qanatref04_clock.f k (bs l) = some (-1) := by
    by_cases h8 : l.length = 8
    · obtain ⟨a, b, c, d, e, f, g, i, rfl⟩ := eight h8
      rw [r_clock8 k hk]
      by_cases h : c = 58 ∧ f = 58 ∧ (0 ≤ dgV [a, b] ∧ dgV [a, b] ≤ 23) ∧ (0 ≤ dgV [d, e] ∧ dgV [d, e] ≤ 59) ∧ (0 ≤ dgV [g, i] ∧ dgV [g, i] ≤ 59)
      · left
        rw [if_pos h]
        obtain ⟨rfl, rfl, h1, h2, h3⟩ := h
        obtain ⟨x, hx⟩ : ∃ x : Nat, dgV [a, b] = x := ⟨(dgV [a, b]).toNat, by omega⟩
        obtain ⟨y, hy⟩ : ∃ y : Nat, dgV [d, e] = y := ⟨(dgV [d, e]).toNat, by omega⟩
        obtain ⟨z, hz⟩ : ∃ z : Nat, dgV [g, i] = z := ⟨(dgV [g, i]).toNat, by omega⟩
        obtain ⟨a1, _, _, a4⟩ := dgV_inv h1.1
        obtain ⟨b1, _, _, b4⟩ := dgV_inv h2.1
        obtain ⟨c1, _, _, c4⟩ := dgV_inv h3.1
        have p1 := pad_of [a, b] a1 (by simp)
        have p2 := pad_of [d, e] b1 (by simp)
        have p3 := pad_of [g, i] c1 (by simp)
        rw [← a4, hx, Int.toNat_natCast] at p1
        rw [← b4, hy, Int.toNat_natCast] at p2
        rw [← c4, hz, Int.toNat_natCast] at p3
        rw [hx, hy, hz]
        refine ⟨1000000 * (3600 * x + 60 * y + z), by omega, by omega, ?_, ?_⟩
        · unfold hmsL
          rw [show 1000000 * (3600 * x + 60 * y + z) / 3600000000 = x by omega, show 1000000 * (3600 * x + 60 * y + z) / 60000000 % 60 = y by omega, show 1000000 * (3600 * x + 60 * y + z) / 1000000 % 60 = z by omega]
          rw [show (2 : Nat) = [a, b].length from rfl, p1, show [a, b].length = [d, e].length from rfl, p2, show [d, e].length = [g, i].length from rfl, p3]
          rfl
        · rfl
      · right
        rw [if_neg h]
    · right
      obtain ⟨q, rfl⟩ : ∃ q, k = q + 1 := ⟨k - 1, by omega⟩
      unfold qanatref04_clock.f
      rw [if_neg (by rw [bs_size]; omega), qanatref04_clock.j0, if_pos rfl]
  rcases key with h | h
  · exact .inl h
  · right
    refine ⟨h, fun n hn e => ?_⟩
    rw [e, r_clock_fmt k n hk hn] at h
    have := Option.some.inj h
    omega

def longL (n : Nat) : List UInt8 := hmsL n ++ [46] ++ padL (n % 1000000) 6
theorem hms_len (n : Nat) (hn : n ≤ 86399999999) : (hmsL n).length = 8 := by
  obtain ⟨a, b, d, e, g, i, e1, _⟩ := hms_parts n hn
  rw [e1]; rfl
theorem r_long (k : Nat) (l : List UInt8) (hk : 40 ≤ k) (hl : l.length ≤ 1000) : (∃ n : Nat, n ≤ 86399999999 ∧ l = longL n ∧ qanatref04_long.f k (bs l) = some (n : Int)) ∨ (qanatref04_long.f k (bs l) = some (-1) ∧ ∀ n, n ≤ 86399999999 → l ≠ longL n) := by
  obtain ⟨q, rfl⟩ : ∃ q, k = q + 1 := ⟨k - 1, by omega⟩
  have hll : ∀ n, n ≤ 86399999999 → (longL n).length = 15 := by
    intro n hn
    have h1 := hms_len n hn
    have h2 : (padL (n % 1000000) 6).length = 6 := pad_len _ 6 (by omega) (by omega)
    unfold longL
    simp
    omega
  by_cases h15 : l.length = 15
  · obtain ⟨p, c, t, rfl, hp, ht⟩ : ∃ p c t, l = p ++ [c] ++ t ∧ p.length = 8 ∧ t.length = 6 := by
      refine ⟨l.take 8, l[8], l.drop 9, ?_, by simp; omega, by simp; omega⟩
      have e1 := List.take_append_drop 8 l
      have e2 := List.drop_eq_getElem_cons (l := l) (i := 8) (by omega)
      rw [e2] at e1
      simp
    have hz : (bs (p ++ [c] ++ t)).size = 15 := by rw [bs_size]; exact h15
    have b8 : bt (bs (p ++ [c] ++ t)) 8 = (c.toNat : Int) := bt_bs (p ++ [c] ++ t) 8 c (by
      rw [List.getElem?_append_left (by simp; omega), ← hp, List.getElem?_concat_length])
    have x1 : (bs (p ++ [c] ++ t)).extract 0 8 = bs p := by
      rw [bs_extract, List.drop_zero, Nat.sub_zero, List.append_assoc, ← hp, List.take_left]
    have x2 : (bs (p ++ [c] ++ t)).extract 9 15 = bs t := by
      rw [bs_extract, show 9 = (p ++ [c]).length by simp; omega, List.drop_left, List.take_of_length_le (by simp; omega)]
    have i8 : ((c.toNat : Int) = 46) ↔ c = 46 := byte_is (n := 46) (by decide)
    have hinj : ∀ n, n ≤ 86399999999 → p ++ [c] ++ t = longL n → p = hmsL n ∧ c = 46 ∧ t = padL (n % 1000000) 6 := by
      intro n hn e
      unfold longL at e
      have hlen := hms_len n hn
      rw [List.append_assoc, List.append_assoc] at e
      obtain ⟨e1, e2⟩ := List.append_inj e (by omega)
      have e3 : c :: t = 46 :: padL (n % 1000000) 6 := e2
      injection e3 with e3 e4
      exact ⟨e1, e3, e4⟩
    unfold qanatref04_long.f
    rw [hz, if_pos (by decide), if_pos (by decide), b8]
    by_cases c1 : c = 46
    · have : ((c.toNat : Int) != 46) = false := by rw [i8.2 c1]; rfl
      rw [this, qanatref04_long.j0, if_neg (by decide), hz, if_pos (by decide), if_pos (by decide), x1]
      rcases r_clock q p (by omega) with ⟨n, hn, hm, hpn, hc⟩ | ⟨hc, hno⟩
      · rw [hc, Option.bind_some, if_pos (by decide), x2, r_digits q t (by omega) (by omega), Option.bind_some, if_neg (by omega)]
        by_cases h : dgV t < 0
        · right
          rw [if_pos h]
          refine ⟨rfl, fun n2 hn2 e => ?_⟩
          obtain ⟨_, _, e3⟩ := hinj n2 hn2 e
          rw [e3, dgV_hit (pad_dig _ _) (by rw [← e3]; omega) (by rw [← e3]; omega), pad_num] at h
          omega
        · left
          rw [if_neg h]
          obtain ⟨a1, a2, a3, a4⟩ := dgV_inv (l := t) (by omega)
          have hb := numL_bd t a1
          rw [ht] at hb
          obtain ⟨v, hv⟩ : ∃ v : Nat, dgV t = v := ⟨(dgV t).toNat, by omega⟩
          have p3 := pad_of t a1 (by intro e; rw [e] at a2; simp at a2)
          rw [← a4, hv, Int.toNat_natCast, ht] at p3
          refine ⟨n + v, by omega, ?_, ?_⟩
          · unfold longL hmsL
            have hp2 : p = padL (n / 3600000000) 2 ++ [58] ++ padL (n / 60000000 % 60) 2 ++ [58] ++ padL (n / 1000000 % 60) 2 := hpn
            rw [show (n + v) / 3600000000 = n / 3600000000 by omega, show (n + v) / 60000000 % 60 = n / 60000000 % 60 by omega, show (n + v) / 1000000 % 60 = n / 1000000 % 60 by omega, show (n + v) % 1000000 = v by omega, p3, ← hp2, c1]
          · rw [hv, wr (by omega)]
            rfl
      · right
        rw [hc, Option.bind_some, if_pos (by decide), x2, r_digits q t (by omega) (by omega), Option.bind_some, if_pos (by omega)]
        exact ⟨rfl, fun n hn e => hno n hn (hinj n hn e).1⟩
    · right
      have : ((c.toNat : Int) != 46) = true := by rw [bne_iff_ne]; exact fun h => c1 (i8.1 h)
      rw [this, qanatref04_long.j0, if_pos rfl]
      exact ⟨rfl, fun n hn e => c1 (hinj n hn e).2.1⟩
  · right
    unfold qanatref04_long.f
    rw [if_neg (by rw [bs_size]; omega), qanatref04_long.j0, if_pos rfl]
    exact ⟨rfl, fun n hn e => h15 (by rw [e]; exact hll n hn)⟩

/-! ### the format with am and pm -/

/-- civil at a row x ++ [c] ++ [d, e] ++ [f, g] with one or two bytes ahead. -/
theorem r_civil_x (k : Nat) (x : List UInt8) (c d e f g : UInt8) (hk : 40 ≤ k) (hx : x.length = 1 ∨ x.length = 2) :
    (∃ h : Nat, x = Lib.decDigits h ∧ 1 ≤ h ∧ h ≤ 12 ∧ c = 58 ∧ 0 ≤ dgV [d, e] ∧ dgV [d, e] ≤ 59 ∧ ((f = 97 ∧ g = 109 ∧ qanatref04_civil.f k (bs (x ++ [c, d, e, f, g])) = some (60000000 * (60 * ((h % 12 : Nat) : Int) + dgV [d, e]))) ∨ (f = 112 ∧ g = 109 ∧ qanatref04_civil.f k (bs (x ++ [c, d, e, f, g])) = some (60000000 * (60 * (((h % 12 : Nat) : Int) + 12) + dgV [d, e]))))) ∨
    (qanatref04_civil.f k (bs (x ++ [c, d, e, f, g])) = some (-1) ∧ ¬ (c = 58 ∧ 0 ≤ dgV [d, e] ∧ dgV [d, e] ≤ 59 ∧ (∃ h : Nat, x = Lib.decDigits h ∧ 1 ≤ h ∧ h ≤ 12) ∧ ((f = 97 ∧ g = 109) ∨ (f = 112 ∧ g = 109)))) := by
  obtain ⟨q, rfl⟩ : ∃ q, k = q + 1 + 1 := ⟨k - 2, by omega⟩
  have hz : (bs (x ++ [c, d, e, f, g])).size = x.length + 5 := by rw [bs_size]; simp
  have w5 : wrap64 (((bs (x ++ [c, d, e, f, g])).size : Int) - 5) = (x.length : Int) := by rw [hz, wr (by omega)]; omega
  have w1 : wrap64 ((x.length : Int) + 1) = ((x.length + 1 : Nat) : Int) := by rw [wr (by omega)]; rfl
  have w3 : wrap64 ((x.length : Int) + 3) = ((x.length + 3 : Nat) : Int) := by rw [wr (by omega)]; rfl
  have bc : bt (bs (x ++ [c, d, e, f, g])) (x.length : Int) = (c.toNat : Int) := bt_bs _ x.length c (by
    rw [List.getElem?_append_right (Nat.le_refl _), Nat.sub_self]; rfl)
  have x1 : (bs (x ++ [c, d, e, f, g])).extract 0 ((x.length : Int)).toNat = bs x := by
    rw [Int.toNat_natCast, bs_extract, List.drop_zero, Nat.sub_zero, List.take_left]
  have x2 : (bs (x ++ [c, d, e, f, g])).extract (((x.length + 1 : Nat) : Int)).toNat (((x.length + 3 : Nat) : Int)).toNat = bs [d, e] := by
    rw [Int.toNat_natCast, Int.toNat_natCast, bs_extract, show x ++ [c, d, e, f, g] = (x ++ [c]) ++ [d, e, f, g] by simp, show x.length + 1 = (x ++ [c]).length by simp, List.drop_left, show x.length + 3 - (x ++ [c]).length = 2 by (simp only [List.length_append, List.length_singleton]; omega)]
    rfl
  have x3 : ((bs (x ++ [c, d, e, f, g])).extract (((x.length + 3 : Nat) : Int)).toNat (bs (x ++ [c, d, e, f, g])).size).toList = [f, g] := by
    rw [Int.toNat_natCast, hz, bs_extract, show x ++ [c, d, e, f, g] = (x ++ [c, d, e]) ++ [f, g] by simp, show x.length + 3 = (x ++ [c, d, e]).length by simp, List.drop_left, show x.length + 5 - (x ++ [c, d, e]).length = 2 by (simp only [List.length_append, List.length_cons, List.length_nil]; omega), bs_toList]
    rfl
  have ic : ((c.toNat : Int) = 58) ↔ c = 58 := byte_is (n := 58) (by decide)
  have hl : x.length ≤ 2 := by omega
  unfold qanatref04_civil.f
  rw [w5, if_neg (by omega), if_neg (by omega), if_pos (by omega), if_pos (by rw [hz]; omega), bc]
  by_cases c1 : c = 58
  · have : ((c.toNat : Int) != 58) = false := by rw [ic.2 c1]; rfl
    rw [this, qanatref04_civil.j0, if_neg (by decide), if_pos (by omega), if_pos (by rw [hz]; omega), x1, w1, w3]
    have after : (0 : Int) ≤ ((x.length + 1 : Nat) : Int) ∧ ((x.length + 1 : Nat) : Int) ≤ ((x.length + 3 : Nat) : Int) ∧ ((x.length + 3 : Nat) : Int) ≤ ((bs (x ++ [c, d, e, f, g])).size : Int) := by rw [hz]; omega
    have rd2 := r_digits (q + 1) [d, e] (by simp) (by simp; omega)
    have j1t : ∀ a b, qanatref04_civil.j1 (q + 1) (bs (x ++ [c, d, e, f, g])) (x.length : Int) a b true = some (-1) := by
      intro a b
      rw [qanatref04_civil.j1, if_pos rfl]
    rcases r_plain (q + 1) x 2 (by omega) (by omega) (by omega) with ⟨h, e1, e2, hp⟩ | ⟨hp, hno⟩
    · have hp : qanatref04_plain.f (q + 1) (bs x) 2 = some (h : Int) := hp
      have uniq : ∀ h2 : Nat, x = Lib.decDigits h2 → h2 = h := fun h2 e => dec_inj (e.symm.trans e1)
      rw [hp, Option.bind_some, if_pos after.1, if_pos after.2.1, if_pos after.2.2, x2, rd2, Option.bind_some]
      by_cases h1 : (h : Int) < 1
      · right
        rw [if_pos h1, j1t]
        refine ⟨rfl, fun hh => ?_⟩
        obtain ⟨_, _, _, ⟨h2, e3, e4, _⟩, _⟩ := hh
        have := uniq h2 e3
        omega
      rw [if_neg h1]
      by_cases h2 : (h : Int) > 12
      · right
        rw [if_pos h2, j1t]
        refine ⟨rfl, fun hh => ?_⟩
        obtain ⟨_, _, _, ⟨h2, e3, e4, e5⟩, _⟩ := hh
        have := uniq h2 e3
        omega
      rw [if_neg h2]
      by_cases h3 : dgV [d, e] < 0
      · right
        rw [if_pos h3, j1t]
        exact ⟨rfl, fun hh => by omega⟩
      rw [if_neg h3]
      by_cases h4 : dgV [d, e] > 59
      · right
        rw [decide_eq_true h4, j1t]
        exact ⟨rfl, fun hh => by omega⟩
      rw [decide_eq_false h4, qanatref04_civil.j1, if_neg (by decide), w3, if_pos (by omega), if_pos (by rw [hz]; omega), x3]
      have tm : Int.tmod (h : Int) 12 = ((h % 12 : Nat) : Int) := by rw [tmp _ (by omega)]; rfl
      rw [tm]
      by_cases h5 : [f, g] = [97, 109]
      · left
        rw [if_pos h5]
        injection h5 with f1 f2
        injection f2 with f2 _
        refine ⟨h, e1, by omega, by omega, c1, by omega, by omega, .inl ⟨f1, f2, ?_⟩⟩
        rw [wr (x := 60 * ((h % 12 : Nat) : Int)) (by omega), wr (x := 60 * ((h % 12 : Nat) : Int) + dgV [d, e]) (by omega), wr (by omega)]
      rw [if_neg h5]
      by_cases h6 : [f, g] = [112, 109]
      · left
        rw [if_pos h6]
        injection h6 with f1 f2
        injection f2 with f2 _
        refine ⟨h, e1, by omega, by omega, c1, by omega, by omega, .inr ⟨f1, f2, ?_⟩⟩
        rw [wr (x := ((h % 12 : Nat) : Int) + 12) (by omega), wr (x := 60 * (((h % 12 : Nat) : Int) + 12)) (by omega), wr (x := 60 * (((h % 12 : Nat) : Int) + 12) + dgV [d, e]) (by omega), wr (by omega)]
      right
      rw [if_neg h6]
      refine ⟨rfl, fun hh => ?_⟩
      rcases hh.2.2.2.2 with ⟨rfl, rfl⟩ | ⟨rfl, rfl⟩
      · exact h5 rfl
      · exact h6 rfl
    · right
      have hp : qanatref04_plain.f (q + 1) (bs x) 2 = some (-1) := hp
      rw [hp, Option.bind_some, if_pos after.1, if_pos after.2.1, if_pos after.2.2, x2, rd2, Option.bind_some, if_pos (by omega), j1t]
      refine ⟨rfl, fun hh => ?_⟩
      obtain ⟨_, _, _, ⟨h2, e3, _, _⟩, _⟩ := hh
      have := hno h2 e3
      omega
  · right
    have : ((c.toNat : Int) != 58) = true := by rw [bne_iff_ne]; exact fun h => c1 (ic.1 h)
    rw [this, qanatref04_civil.j0, if_pos rfl]
    exact ⟨rfl, fun hh => c1 hh.1⟩
theorem civL (n : Nat) : tmL n 67 = Lib.decDigits ((n / 3600000000 + 11) % 12 + 1) ++ [58] ++ padL (n / 60000000 % 60) 2 ++ halfL n := by
  rw [← pad_one]; rfl
theorem r_civil (k : Nat) (l : List UInt8) (hk : 40 ≤ k) (hl : l.length ≤ 1000) : (∃ n : Nat, n ≤ 86399999999 ∧ n % 60000000 = 0 ∧ l = tmL n 67 ∧ qanatref04_civil.f k (bs l) = some (n : Int)) ∨ (qanatref04_civil.f k (bs l) = some (-1) ∧ ∀ n, n ≤ 86399999999 → l ≠ tmL n 67) := by
  by_cases h67 : l.length = 6 ∨ l.length = 7
  · obtain ⟨x, c, d, e, f, g, rfl, hx⟩ : ∃ x c d e f g, l = x ++ [c, d, e, f, g] ∧ (x.length = 1 ∨ x.length = 2) := by
      rcases h67 with h | h
      · match l, h with
        | [a, c, d, e, f, g], _ => exact ⟨[a], c, d, e, f, g, rfl, .inl rfl⟩
      · match l, h with
        | [a, b, c, d, e, f, g], _ => exact ⟨[a, b], c, d, e, f, g, rfl, .inr rfl⟩
    rcases r_civil_x k x c d e f g hk hx with ⟨h, e1, h1, h2, e2, h3, h4, hc⟩ | ⟨hc, hno⟩
    · left
      obtain ⟨a1, _, _, a4⟩ := dgV_inv h3
      obtain ⟨m, hm⟩ : ∃ m : Nat, dgV [d, e] = m := ⟨(dgV [d, e]).toNat, by omega⟩
      have p2 := pad_of [d, e] a1 (by simp)
      rw [← a4, hm, Int.toNat_natCast] at p2
      rw [hm] at hc h4
      rcases hc with ⟨rfl, rfl, hc⟩ | ⟨rfl, rfl, hc⟩
      · refine ⟨60000000 * (60 * (h % 12) + m), by omega, by omega, ?_, ?_⟩
        · rw [civL, show 60000000 * (60 * (h % 12) + m) / 3600000000 = h % 12 by omega, show (h % 12 + 11) % 12 + 1 = h by omega, show 60000000 * (60 * (h % 12) + m) / 60000000 % 60 = m by omega, ← e1, e2]
          rw [show (2 : Nat) = [d, e].length from rfl, p2]
          unfold halfL
          rw [if_neg (by omega)]
          simp
        · rw [hc]
          congr 1
      · refine ⟨60000000 * (60 * (h % 12 + 12) + m), by omega, by omega, ?_, ?_⟩
        · rw [civL, show 60000000 * (60 * (h % 12 + 12) + m) / 3600000000 = h % 12 + 12 by omega, show (h % 12 + 12 + 11) % 12 + 1 = h by omega, show 60000000 * (60 * (h % 12 + 12) + m) / 60000000 % 60 = m by omega, ← e1, e2]
          rw [show (2 : Nat) = [d, e].length from rfl, p2]
          unfold halfL
          rw [if_pos (by omega)]
          simp
        · rw [hc]
          congr 1
    · right
      refine ⟨hc, fun n hn e0 => hno ?_⟩
      obtain ⟨l2, d2, v2⟩ := two_dig (n / 60000000 % 60) (by omega)
      obtain ⟨a, b, e2⟩ := two l2
      rw [civL, e2] at e0
      obtain ⟨u, v, hh, huv⟩ : ∃ u v, halfL n = [u, v] ∧ ((u = 97 ∧ v = 109) ∨ (u = 112 ∧ v = 109)) := by
        unfold halfL
        split
        · exact ⟨_, _, rfl, .inr ⟨rfl, rfl⟩⟩
        · exact ⟨_, _, rfl, .inl ⟨rfl, rfl⟩⟩
      rw [hh] at e0
      have e0 : x ++ [c, d, e, f, g] = Lib.decDigits ((n / 3600000000 + 11) % 12 + 1) ++ [58, a, b, u, v] := by
        rw [e0]; simp
      obtain ⟨ex, et⟩ := List.append_inj' e0 rfl
      injection et with et1 et
      injection et with et2 et
      injection et with et3 et
      injection et with et4 et
      injection et with et5 et
      have hv : dgV [a, b] = ((n / 60000000 % 60 : Nat) : Int) := by rw [← e2, dgV_hit d2 (by omega) (by omega), v2]
      rw [et2, et3, hv, et4, et5]
      exact ⟨et1, by omega, by omega, ⟨_, ex, by omega, by omega⟩, huv⟩
  · right
    obtain ⟨q, rfl⟩ : ∃ q, k = q + 1 := ⟨k - 1, by omega⟩
    constructor
    · unfold qanatref04_civil.f
      rw [bs_size, wr (by omega)]
      have j0t : ∀ a, qanatref04_civil.j0 (q + 1) (bs l) a true = some (-1) := by
        intro a
        rw [qanatref04_civil.j0, if_pos rfl]
      rw [j0t]
      by_cases h1 : (l.length : Int) - 5 < 1
      · rw [if_pos h1]
      · rw [if_neg h1, if_pos (by omega)]
    · intro n hn e
      have h1 := dec_len_le ((n / 3600000000 + 11) % 12 + 1) 2 (by omega) (by omega)
      have h2 := dec_pos ((n / 3600000000 + 11) % 12 + 1)
      obtain ⟨l2, d2, v2⟩ := two_dig (n / 60000000 % 60) (by omega)
      have hh : (halfL n).length = 2 := by unfold halfL; split <;> rfl
      have := congrArg List.length e
      rw [civL] at this
      simp at this
      omega
theorem flo_c (n : Nat) : flo n 67 = n - n % 60000000 := rfl
theorem flo_m (n : Nat) : flo n 77 = n - n % 60000000 := rfl
theorem flo_h (n : Nat) : flo n 72 = n - n % 3600000000 := rfl
theorem flo_n (n : Nat) : flo n 78 = n - n % 1000000 := rfl
theorem flo_s (n : Nat) : flo n 83 = n - n % 1000000 := rfl
/-- ReadTime of the reference. -/
theorem r_ReadTime (k : Nat) (l : List UInt8) (o : Int) (hk : 1101 ≤ k) (hl : l.length ≤ 1000) (ho : timeOpts.contains o = true) :
    (∃ n : Nat, n ≤ 86399999999 ∧ l = tmL n o ∧ flo n o = n ∧ qanatref04_ReadTime.f k (bs l) o = some ((n : Int), 0)) ∨ (qanatref04_ReadTime.f k (bs l) o = some (0, 2) ∧ ∀ n, n ≤ 86399999999 → l ≠ tmL n o) := by
  have unit : ∀ u : Nat, (u = 1 ∨ u = 3600000000 ∨ u = 60000000 ∨ u = 1000000) → (∀ n : Nat, tmL n o = Lib.decDigits (n / u)) → (∀ q : Nat, flo (q * u) o = q * u) →
      qanatref04_ReadTime.f k (bs l) o = ((qanatref04_unit.f k (bs l) (u : Int)).bind fun t => if t < 0 then some (0, 2) else some (t, 0)) →
      (∃ n : Nat, n ≤ 86399999999 ∧ l = tmL n o ∧ flo n o = n ∧ qanatref04_ReadTime.f k (bs l) o = some ((n : Int), 0)) ∨ (qanatref04_ReadTime.f k (bs l) o = some (0, 2) ∧ ∀ n, n ≤ 86399999999 → l ≠ tmL n o) := by
    intro u hu ht hf he
    have hu1 : 1 ≤ u := by rcases hu with rfl | rfl | rfl | rfl <;> decide
    rw [he]
    rcases r_unit k l u hu hl (by omega) with ⟨q, e1, e2, e3⟩ | ⟨e3, hno⟩
    · left
      rw [e3, Option.bind_some, if_neg (by omega)]
      exact ⟨q * u, e2, by rw [ht, Nat.mul_div_cancel _ hu1]; exact e1, hf q, rfl⟩
    · right
      rw [e3, Option.bind_some, if_pos (by omega)]
      refine ⟨rfl, fun n hn e => ?_⟩
      rw [ht] at e
      have h1 := hno _ e
      have := Nat.div_mul_le_self n u
      omega
  rcases opts7 ho with rfl | rfl | rfl | rfl | rfl | rfl | rfl
  · have hR : qanatref04_ReadTime.f k (bs l) 67 = ((qanatref04_civil.f k (bs l)).bind fun t => if t < 0 then some (0, 2) else some (t, 0)) := by
      unfold qanatref04_ReadTime.f
      rw [if_pos rfl]
    rw [hR]
    rcases r_civil k l (by omega) hl with ⟨n, h1, h2, h3, h4⟩ | ⟨h4, hno⟩
    · left
      rw [h4, Option.bind_some, if_neg (by omega)]
      exact ⟨n, h1, h3, by rw [flo_c]; omega, rfl⟩
    · right
      rw [h4, Option.bind_some, if_pos (by omega)]
      exact ⟨rfl, hno⟩
  · exact unit 1 (by simp) (fun n => by rw [Nat.div_one]; rfl) (fun q => rfl) (by
      unfold qanatref04_ReadTime.f
      rw [if_neg (by decide), if_pos rfl]
      rfl)
  · exact unit 3600000000 (by simp) (fun n => rfl) (fun q => by rw [flo_h]; omega) (by
      unfold qanatref04_ReadTime.f
      rw [if_neg (by decide), if_neg (by decide), if_pos rfl]
      rfl)
  · have hR : qanatref04_ReadTime.f k (bs l) 76 = ((qanatref04_long.f k (bs l)).bind fun t => if t < 0 then some (0, 2) else some (t, 0)) := by
      unfold qanatref04_ReadTime.f
      rw [if_neg (by decide), if_neg (by decide), if_neg (by decide), if_pos rfl]
    rw [hR]
    rcases r_long k l (by omega) hl with ⟨n, h1, h3, h4⟩ | ⟨h4, hno⟩
    · left
      rw [h4, Option.bind_some, if_neg (by omega)]
      exact ⟨n, h1, h3, rfl, rfl⟩
    · right
      rw [h4, Option.bind_some, if_pos (by omega)]
      exact ⟨rfl, hno⟩
  · exact unit 60000000 (by simp) (fun n => rfl) (fun q => by rw [flo_m]; omega) (by
      unfold qanatref04_ReadTime.f
      rw [if_neg (by decide), if_neg (by decide), if_neg (by decide), if_neg (by decide), if_pos rfl]
      rfl)
  · have hR : qanatref04_ReadTime.f k (bs l) 78 = ((qanatref04_clock.f k (bs l)).bind fun t => if t < 0 then some (0, 2) else some (t, 0)) := by
      unfold qanatref04_ReadTime.f
      rw [if_neg (by decide), if_neg (by decide), if_neg (by decide), if_neg (by decide), if_neg (by decide), if_pos rfl]
    rw [hR]
    rcases r_clock k l (by omega) with ⟨n, h1, h2, h3, h4⟩ | ⟨h4, hno⟩
    · left
      rw [h4, Option.bind_some, if_neg (by omega)]
      exact ⟨n, h1, h3, by rw [flo_n]; omega, rfl⟩
    · right
      rw [h4, Option.bind_some, if_pos (by omega)]
      exact ⟨rfl, hno⟩
  · exact unit 1000000 (by simp) (fun n => rfl) (fun q => by rw [flo_s]; omega) (by
      unfold qanatref04_ReadTime.f
      rw [if_neg (by decide), if_neg (by decide), if_neg (by decide), if_neg (by decide), if_neg (by decide), if_neg (by decide), if_pos rfl]
      rfl)
theorem readTime_same (k : Nat) (s : ByteArray) (o : Int) (hk : 1101 ≤ k) (hs : s.size ≤ 100) : ∃ r, qanatref04_ReadTime.f k s o = some r ∧ cal_ReadTime.f s o = some r := by
  by_cases ho : timeOpts.contains o = true
  · have hl : s.data.toList.length ≤ 100 := by rw [data_len]; exact hs
    rcases r_ReadTime k s.data.toList o hk (by omega) ho with ⟨n, h1, h2, h3, h4⟩ | ⟨h4, hno⟩
    · rw [bs_self] at h4
      refine ⟨_, h4, ?_⟩
      rw [← bs_self s, h2, c_ReadTime_fmt n o h1 ho, h3]
    · rw [bs_self] at h4
      refine ⟨_, h4, ?_⟩
      obtain ⟨n, e, h5, h6⟩ := c_ReadTime_tot s o hs
      by_cases he : e = 0
      · obtain ⟨_, m, _, hm, hse, _⟩ := h6 he
        exact absurd (by rw [hse, bs_data]) (hno m hm)
      · unfold cal_ReadTime.f at h5 ⊢
        rw [if_pos ho] at h5 ⊢
        obtain ⟨r, hr⟩ := readTime_tot s o hs
        obtain ⟨p, hp⟩ := c_Time_tot r o
        rw [hr, Option.bind_some, hp, Option.bind_some] at h5 ⊢
        split at h5
        · exact absurd (Prod.mk.inj (Option.some.inj h5)).2.symm he
        · rename_i hc
          rw [if_neg hc]
  · refine ⟨(0, 1), ?_, ?_⟩
    · have hne : ¬ (o = 67 ∨ o = 70 ∨ o = 72 ∨ o = 76 ∨ o = 77 ∨ o = 78 ∨ o = 83) := fun h => ho (by simpa [timeOpts] using h)
      unfold qanatref04_ReadTime.f
      rw [if_neg (fun e => hne (by simp [e])), if_neg (fun e => hne (by simp [e])), if_neg (fun e => hne (by simp [e])), if_neg (fun e => hne (by simp [e])), if_neg (fun e => hne (by simp [e])), if_neg (fun e => hne (by simp [e])), if_neg (fun e => hne (by simp [e]))]
    · unfold cal_ReadTime.f
      rw [if_neg ho]
end Go.Proofs.YteobeikcakoaaaaGreatDoor.Pure

/-
  cal: CalFormats: what ReadDay of the reference reads, beside what the program reads.
-/
import Derived.Test.YteobeikcakoaaaaGreatDoorRfA
namespace Go.Proofs.YteobeikcakoaaaaGreatDoor.Pure
set_option linter.unusedSimpArgs false
set_option linter.unusedVariables false
open Go.RowKit Go.Proofs.YteobeikcakoaaaaGreatDoor.Given Go.Proofs.YteobeikcakoaaaaGreatDoor.Aux Go.Proofs.YteobeikcakoaaaaGreatDoor.Cal Go.Proofs.YteobeikcakoaaaaGreatDoorW.PrintWords Go.Proofs.YteobeikcakoaaaaGreatDoorW.PrintLast Go.Proofs.YteobeikcakoaaaaGreatDoorW.PrintMore

theorem made_of {y m d r e : Int} (h : cal_DayOf.f y m d = some (r, e)) : made.f y m d = (r, e == 0) := by
  unfold made.f
  rw [h]
  rfl
theorem made_inv {y m d r : Int} (h : made.f y m d = (r, true)) : cal_DayOf.f y m d = some (r, 0) := by
  obtain ⟨⟨a, e⟩, hr⟩ : ∃ r, cal_DayOf.f y m d = some r := ⟨_, rfl⟩
  rw [made_of hr] at h
  have h1 := (Prod.mk.inj h).1
  have h2 := (Prod.mk.inj h).2
  have h3 : e = 0 := by simpa using h2
  rw [hr, h1, h3]
theorem tmod_lo (x : Int) : -100 < Int.tmod x 100 ∧ Int.tmod x 100 < 100 ∧ (Int.tmod x 100 - x) % 100 = 0 := by
  rcases Int.lt_or_le x 0 with h | h
  · obtain ⟨y, rfl⟩ : ∃ y, x = -y := ⟨-x, by omega⟩
    rw [Int.neg_tmod, Int.tmod_eq_emod_of_nonneg (by omega)]
    omega
  · rw [Int.tmod_eq_emod_of_nonneg h]
    omega
theorem tmod100 (x : Int) : Int.tmod (Int.tmod x 100 + 100) 100 = x % 100 := by
  have h := tmod_lo x
  rw [Int.tmod_eq_emod_of_nonneg (a := Int.tmod x 100 + 100) (by omega)]
  omega
theorem near_is (n y : Int) (hn : 0 ≤ n ∧ n ≤ 99) (hy : 1 ≤ y ∧ y ≤ 9999) : nearV n y = y - 50 + (n - (y - 50)) % 100 := by
  have w : ∀ x : Int, -100000 ≤ x → x ≤ 100000 → wrap64 x = x := fun x h1 h2 => w64 (by omega)
  obtain ⟨h, h', _⟩ := tmod_lo (n - (y - 50))
  unfold nearV cal_near.f
  rw [w (y - 50) (by omega) (by omega), w (n - (y - 50)) (by omega) (by omega), w (Int.tmod (n - (y - 50)) 100 + 100) (by omega) (by omega), tmod100, w _ (by omega) (by omega)]
  rfl
theorem opts8 {o : Int} (h : dayOpts.contains o = true) : o = 66 ∨ o = 68 ∨ o = 69 ∨ o = 73 ∨ o = 78 ∨ o = 79 ∨ o = 83 ∨ o = 85 := by simpa [dayOpts] using h
theorem rd_ok {s : ByteArray} {o t n : Int} (ht : 0 ≤ t ∧ t ≤ 3652058) (ho : dayOpts.contains o = true) (h : readDay.f s o t = some (n, true)) : cal_ReadDay.f s o t = some (n, 0) := by
  have hr : 0 ≤ o ∧ o < 256 := by rcases opts8 ho with rfl | rfl | rfl | rfl | rfl | rfl | rfl | rfl <;> decide
  unfold cal_ReadDay.f
  rw [if_pos ht, if_pos hr, if_pos ho, h]
  rfl
theorem rd_bad {s : ByteArray} {o t n : Int} (ht : 0 ≤ t ∧ t ≤ 3652058) (ho : dayOpts.contains o = true) (h : readDay.f s o t = some (n, false)) : cal_ReadDay.f s o t = some (0, 2) := by
  have hr : 0 ≤ o ∧ o < 256 := by rcases opts8 ho with rfl | rfl | rfl | rfl | rfl | rfl | rfl | rfl <;> decide
  unfold cal_ReadDay.f
  rw [if_pos ht, if_pos hr, if_pos ho, h]
  rfl
theorem readDay_tot (s : ByteArray) (o t : Int) (hs : s.size ≤ 100) : ∃ r, readDay.f s o t = some r := by
  obtain ⟨p, hp⟩ := plain_tot s 7 (by omega) (by omega)
  have hp : cal_plain.f s 7 = some p := hp
  unfold readDay.f
  split
  · rw [hp]; exact ⟨_, rfl⟩
  split
  · rw [hp]; exact ⟨_, rfl⟩
  split
  · exact three_tot _ _ _ _ _ _ _ _ (by omega) (by omega) (by omega) hs
  split
  · exact three_tot _ _ _ _ _ _ _ _ (by omega) (by omega) (by omega) hs
  split
  · exact normal_tot s hs
  split
  · exact three_tot _ _ _ _ _ _ _ _ (by omega) (by omega) (by omega) hs
  split
  · exact three_tot _ _ _ _ _ _ _ _ (by omega) (by omega) (by omega) hs
  · exact three_tot _ _ _ _ _ _ _ _ (by omega) (by omega) (by omega) hs

/-- The day of a date that is read, or ErrForm. -/
def P3 (y m d : Int) : Int × Int := if (made.f y m d).2 = true then ((made.f y m d).1, 0) else (0, 2)
theorem r_parsed (k : Nat) (hk : 20 ≤ k) (y m d : Int) : qanatref04_parsed.f k y m d = some (P3 y m d) := by
  unfold qanatref04_parsed.f P3
  rw [r_DayOf _ _ _ k hk]
  obtain ⟨⟨r, e⟩, hr⟩ : ∃ r, cal_DayOf.f y m d = some r := ⟨_, rfl⟩
  rw [hr, Option.bind_some, made_of hr]
  show (if e = 0 then some (r, e) else some (0, 2)) = some (if (e == 0) = true then (r, 0) else (0, 2))
  by_cases c : e = 0
  · rw [if_pos c, if_pos (by simp [c]), c]
  · rw [if_neg c, if_neg (by simp [c])]
theorem P3_bad {y m d : Int} (h : y < 0 ∨ m < 1 ∨ d < 0) : P3 y m d = (0, 2) := by
  have : cal_DayOf.f y m d = some (0, 1) := by
    unfold cal_DayOf.f
    rw [if_neg (fun h2 => by omega)]
  unfold P3
  rw [made_of this]
  rfl
theorem mon_all : ∀ k : Fin 12, qanatref04_month.f ((k.val : Int) + 1) = some (monthN ((k.val : Int) + 1)) := by decide +kernel
theorem r_month (m : Int) (h : 1 ≤ m ∧ m ≤ 12) : qanatref04_month.f m = some (monthN m) := by
  have := mon_all ⟨m.toNat - 1, by omega⟩
  have e : (((⟨m.toNat - 1, by omega⟩ : Fin 12).val : Nat) : Int) + 1 = m := by
    show ((m.toNat - 1 : Nat) : Int) + 1 = m
    omega
  rw [e] at this
  exact this
theorem week_all : ∀ k : Fin 7, qanatref04_weekday.f (k.val : Int) = some (namesD.getD k.val ⟨#[]⟩) := by decide +kernel
theorem r_weekday (n : Int) : qanatref04_weekday.f (n % 7) = some (dayN n) := by
  have := week_all ⟨(n % 7).toNat, by omega⟩
  have e : (((⟨(n % 7).toNat, by omega⟩ : Fin 7).val : Nat) : Int) = n % 7 := by
    show (((n % 7).toNat : Nat) : Int) = n % 7
    omega
  rw [e] at this
  exact this
theorem r_near_l0 (n : Int) (hn : 0 ≤ n ∧ n ≤ 99) : ∀ (d k : Nat) (v x : Int), x + d = v → v % 100 = n → d ≤ 99 → (-1000 ≤ x ∧ v ≤ 100000) → d < k → qanatref04_near.l0 k n x = some v
  | 0, k, v, x, h1, h2, h3, h4, h5 => by
    obtain ⟨q, rfl⟩ : ∃ q, k = q + 1 := ⟨k - 1, by omega⟩
    have hl := tmod_lo x
    obtain rfl : x = v := by omega
    rw [qanatref04_near.l0, w64 (x := Int.tmod x 100 + 100) (by omega), tmod100, if_pos h2]
  | d + 1, k, v, x, h1, h2, h3, h4, h5 => by
    obtain ⟨q, rfl⟩ : ∃ q, k = q + 1 := ⟨k - 1, by omega⟩
    have hl := tmod_lo x
    rw [qanatref04_near.l0, w64 (x := Int.tmod x 100 + 100) (by omega), tmod100, if_neg (by omega), w64 (x := x + 1) (by omega)]
    exact r_near_l0 n hn d q v (x + 1) (by omega) h2 (by omega) (by omega) (by omega)
theorem r_near (k : Nat) (n y : Int) (hk : 101 ≤ k) (hn : 0 ≤ n ∧ n ≤ 99) (hy : 1 ≤ y ∧ y ≤ 9999) : qanatref04_near.f k n y = some (nearV n y) := by
  rw [near_is n y hn hy]
  unfold qanatref04_near.f
  rw [w64 (x := y - 50) (by omega)]
  exact r_near_l0 n hn ((n - (y - 50)) % 100).toNat k _ _ (by omega) (by omega) (by omega) (by omega) (by omega)
theorem r_numb_l0 (t : ByteArray) : ∀ (n k q : Nat), k + n = 12 → n < q → qanatref04_numbered.l0 q t ((k : Int) + 1) = some (idxM t n k + 1)
  | 0, k, q, h1, h2 => by
    obtain ⟨p, rfl⟩ : ∃ p, q = p + 1 := ⟨q - 1, by omega⟩
    rw [qanatref04_numbered.l0, if_neg (by omega)]
    rfl
  | n + 1, k, q, h1, h2 => by
    obtain ⟨p, rfl⟩ : ∃ p, q = p + 1 := ⟨q - 1, by omega⟩
    have hz := monthN_size ((k : Int) + 1) (by omega)
    rw [qanatref04_numbered.l0, if_pos (by omega), r_month _ (by omega), Option.bind_some, if_pos (by decide), if_pos (by omega)]
    have e : (((monthN ((k : Int) + 1)).extract 0 3).toList = t.toList) ↔ hitM t k = true := by
      have e2 : monthN ((k : Int) + 1) = namesM.getD k ⟨#[]⟩ := by unfold monthN; congr 1
      unfold hitM
      rw [e2, beq_iff_eq]
    by_cases c : hitM t k = true
    · rw [if_pos (e.2 c)]
      show some ((k : Int) + 1) = some ((if hitM t k = true then (k : Int) else idxM t n (k + 1)) + 1)
      rw [if_pos c]
    · rw [if_neg (fun h => c (e.1 h)), w64 (by omega)]
      have := r_numb_l0 t n (k + 1) p (by omega) (by omega)
      have e3 : ((k + 1 : Nat) : Int) + 1 = (k : Int) + 1 + 1 := by omega
      rw [e3] at this
      rw [this]
      show some (idxM t n (k + 1) + 1) = some ((if hitM t k = true then (k : Int) else idxM t n (k + 1)) + 1)
      rw [if_neg c]
theorem r_numbered (q : Nat) (t : ByteArray) (hq : 20 ≤ q) : qanatref04_numbered.f q t = some (idxM t 12 0 + 1) := by
  have := r_numb_l0 t 12 0 q (by omega) (by omega)
  exact this

/-! ### three numbers -/

/-- A row of three rows of digits with separators. -/
def Is3 (m1 m2 m3 : Nat) (p1 p2 p3 l X Y Z : List UInt8) : Prop := l = X ++ p1 ++ (Y ++ p2 ++ (Z ++ p3 ++ [])) ∧ X.length = m1 ∧ Y.length = m2 ∧ Z.length = m3 ∧ X.all isDig = true ∧ Y.all isDig = true ∧ Z.all isDig = true
theorem threeF_or (m1 m2 m3 : Nat) (p1 p2 p3 l : List UInt8) (g : Int → Int → Int → Int × Bool) (h1 : 1 ≤ m1 ∧ m1 ≤ 18) (h2 : 1 ≤ m2 ∧ m2 ≤ 18) (h3 : 1 ≤ m3 ∧ m3 ≤ 18) (hs : l.length ≤ 100) :
    (∃ X Y Z, Is3 m1 m2 m3 p1 p2 p3 l X Y Z ∧ threeF (bs l) m1 (bs p1) m2 (bs p2) m3 (bs p3) g = some (g (numL X) (numL Y) (numL Z))) ∨ ((∀ X Y Z, ¬ Is3 m1 m2 m3 p1 p2 p3 l X Y Z) ∧ ∃ r, threeF (bs l) m1 (bs p1) m2 (bs p2) m3 (bs p3) g = some (r, false)) := by
  by_cases h : ∃ X Y Z, Is3 m1 m2 m3 p1 p2 p3 l X Y Z
  · left
    obtain ⟨X, Y, Z, hx⟩ := h
    obtain ⟨e, l1, l2, l3, d1, d2, d3⟩ := hx
    refine ⟨X, Y, Z, ⟨e, l1, l2, l3, d1, d2, d3⟩, ?_⟩
    rw [e]
    exact three_hit _ _ _ _ _ _ g m1 m2 m3 h1 h2 h3 l1 l2 l3 d1 d2 d3
  · right
    refine ⟨fun X Y Z hx => h ⟨X, Y, Z, hx⟩, ?_⟩
    obtain ⟨⟨r, f⟩, hr⟩ := three_tot (bs l) (bs p1) (bs p2) (bs p3) g m1 m2 m3 h1 h2 h3 (by rw [bs_size]; exact hs)
    cases f
    · exact ⟨r, hr⟩
    · obtain ⟨X, Y, Z, e, l1, l2, l3, d1, d2, d3, _⟩ := three_inv hr
      exact absurd ⟨X, Y, Z, bs_inj e, l1, l2, l3, d1, d2, d3⟩ h
theorem made_back {y m d : Int} {t o : Int} {s : ByteArray} (ht : 0 ≤ t ∧ t ≤ 3652058) (ho : dayOpts.contains o = true) (h : readDay.f s o t = some (made.f y m d)) : cal_ReadDay.f s o t = some (P3 y m d) := by
  unfold P3
  rcases hm : made.f y m d with ⟨r, f⟩
  rw [hm] at h
  cases f
  · rw [rd_bad ht ho h]
    rfl
  · rw [rd_ok ht ho h]
    rfl
theorem r_three8 (k : Nat) (hk : 20 ≤ k) (a b c d e f g i : UInt8) : qanatref04_three.f k (bs [a, b, c, d, e, f, g, i]) =
    some (if c = 47 ∧ f = 47 then (dgV [a, b], dgV [d, e], dgV [g, i], decide (0 ≤ dgV [a, b] ∧ 0 ≤ dgV [d, e] ∧ 0 ≤ dgV [g, i])) else (0, 0, 0, false)) := by
  obtain ⟨q, rfl⟩ : ∃ q, k = q + 1 := ⟨k - 1, by omega⟩
  have hz : (bs [a, b, c, d, e, f, g, i]).size = 8 := by rw [bs_size]; rfl
  have b2 : bt (bs [a, b, c, d, e, f, g, i]) 2 = (c.toNat : Int) := bt_bs [a, b, c, d, e, f, g, i] 2 c rfl
  have b5 : bt (bs [a, b, c, d, e, f, g, i]) 5 = (f.toNat : Int) := bt_bs [a, b, c, d, e, f, g, i] 5 f rfl
  have x1 : (bs [a, b, c, d, e, f, g, i]).extract 0 2 = bs [a, b] := by rw [bs_extract]; rfl
  have x2 : (bs [a, b, c, d, e, f, g, i]).extract 3 5 = bs [d, e] := by rw [bs_extract]; rfl
  have x3 : (bs [a, b, c, d, e, f, g, i]).extract 6 8 = bs [g, i] := by rw [bs_extract]; rfl
  have i2 : ((c.toNat : Int) = 47) ↔ c = 47 := byte_is (n := 47) (by decide)
  have i5 : ((f.toNat : Int) = 47) ↔ f = 47 := byte_is (n := 47) (by decide)
  unfold qanatref04_three.f
  rw [hz, b2, b5, if_pos (by decide), if_pos (by decide)]
  by_cases c1 : c = 47
  · rw [if_pos (i2.2 c1), if_pos (by decide)]
    by_cases c2 : f = 47
    · have : ((f.toNat : Int) != 47) = false := by rw [i5.2 c2]; rfl
      rw [this, qanatref04_three.j0, if_neg (by decide), hz, if_pos (by decide), if_pos (by decide), x1, r_digits q [a, b] (by simp) (by simp; omega), Option.bind_some, if_pos (by decide), if_pos (by decide), x2, r_digits q [d, e] (by simp) (by simp; omega), Option.bind_some, if_pos (by decide), x3, r_digits q [g, i] (by simp) (by simp; omega), Option.bind_some, if_pos (show c = 47 ∧ f = 47 from ⟨c1, c2⟩)]
      by_cases h1 : dgV [a, b] ≥ 0
      · rw [if_pos h1]
        by_cases h2 : dgV [d, e] ≥ 0
        · rw [if_pos h2]
          congr 4
          by_cases h3 : dgV [g, i] ≥ 0
          · rw [decide_eq_true h3, decide_eq_true ⟨h1, h2, h3⟩]
          · rw [decide_eq_false h3, decide_eq_false (fun h => h3 h.2.2)]
        · rw [if_neg h2, decide_eq_false (fun h => h2 h.2.1)]
      · rw [if_neg h1, decide_eq_false (fun h => h1 h.1)]
    · have : ((f.toNat : Int) != 47) = true := by rw [bne_iff_ne]; exact fun h => c2 (i5.1 h)
      rw [this, qanatref04_three.j0, if_pos rfl, if_neg (fun h => c2 h.2)]
  · rw [if_neg (fun h => c1 (i2.1 h)), qanatref04_three.j0, if_pos rfl, if_neg (fun h => c1 h.1)]
theorem r_three_or (k : Nat) (hk : 20 ≤ k) (l : List UInt8) :
    (∃ X Y Z, Is3 2 2 2 [47] [47] [] l X Y Z ∧ qanatref04_three.f k (bs l) = some (numL X, numL Y, numL Z, true)) ∨ ((∀ X Y Z, ¬ Is3 2 2 2 [47] [47] [] l X Y Z) ∧ ∃ x y z, qanatref04_three.f k (bs l) = some (x, y, z, false)) := by
  by_cases h8 : l.length = 8
  · obtain ⟨a, b, c, d, e, f, g, i, rfl⟩ := eight h8
    rw [r_three8 k hk]
    by_cases h : (c = 47 ∧ f = 47) ∧ (0 ≤ dgV [a, b] ∧ 0 ≤ dgV [d, e] ∧ 0 ≤ dgV [g, i])
    · left
      obtain ⟨⟨rfl, rfl⟩, h1, h2, h3⟩ := h
      obtain ⟨a1, _, _, a4⟩ := dgV_inv h1
      obtain ⟨b1, _, _, b4⟩ := dgV_inv h2
      obtain ⟨c1, _, _, c4⟩ := dgV_inv h3
      refine ⟨[a, b], [d, e], [g, i], ⟨rfl, rfl, rfl, rfl, a1, b1, c1⟩, ?_⟩
      rw [if_pos ⟨rfl, rfl⟩, decide_eq_true ⟨h1, h2, h3⟩, a4, b4, c4]
    · right
      constructor
      · intro X Y Z hx
        obtain ⟨e0, l1, l2, l3, d1, d2, d3⟩ := hx
        obtain ⟨x1, x2, rfl⟩ := two l1
        obtain ⟨y1, y2, rfl⟩ := two l2
        obtain ⟨z1, z2, rfl⟩ := two l3
        simp only [List.cons_append, List.nil_append, List.append_nil, List.cons.injEq, and_true] at e0
        obtain ⟨rfl, rfl, rfl, rfl, rfl, rfl, rfl, rfl⟩ := e0
        refine h ⟨⟨rfl, rfl⟩, ?_, ?_, ?_⟩
        · rw [dgV_hit d1 (by simp) (by simp)]; exact (numL_bd _ d1).1
        · rw [dgV_hit d2 (by simp) (by simp)]; exact (numL_bd _ d2).1
        · rw [dgV_hit d3 (by simp) (by simp)]; exact (numL_bd _ d3).1
      · by_cases hc : c = 47 ∧ f = 47
        · rw [if_pos hc, decide_eq_false (fun h2 => h ⟨hc, h2⟩)]
          exact ⟨_, _, _, rfl⟩
        · rw [if_neg hc]
          exact ⟨_, _, _, rfl⟩
  · right
    obtain ⟨q, rfl⟩ : ∃ q, k = q + 1 := ⟨k - 1, by omega⟩
    constructor
    · intro X Y Z hx
      obtain ⟨e0, l1, l2, l3, _⟩ := hx
      apply h8
      rw [e0]
      simp
      omega
    · unfold qanatref04_three.f
      rw [if_neg (by rw [bs_size]; omega), qanatref04_three.j0, if_pos rfl]
      exact ⟨_, _, _, rfl⟩
theorem num_two {X : List UInt8} (h : X.length = 2) (hd : X.all isDig = true) : 0 ≤ numL X ∧ numL X ≤ 99 := by
  have := numL_bd X hd
  rw [h] at this
  omega
/-- The options E, O and U. -/
theorem rel_three (k : Nat) (hk : 20 ≤ k) (s : ByteArray) (hs : s.size ≤ 100) (t : Int) (ht : 0 ≤ t ∧ t ≤ 3652058) :
    (∃ x y z, qanatref04_three.f k s = some (x, y, z, true) ∧ (0 ≤ x ∧ x ≤ 99) ∧ (0 ≤ y ∧ y ≤ 99) ∧ (0 ≤ z ∧ z ≤ 99) ∧ cal_ReadDay.f s 69 t = some (P3 (nearV z (yr t)) y x) ∧ cal_ReadDay.f s 79 t = some (P3 (nearV x (yr t)) y z) ∧ cal_ReadDay.f s 85 t = some (P3 (nearV z (yr t)) x y)) ∨
    ((∃ x y z, qanatref04_three.f k s = some (x, y, z, false)) ∧ cal_ReadDay.f s 69 t = some (0, 2) ∧ cal_ReadDay.f s 79 t = some (0, 2) ∧ cal_ReadDay.f s 85 t = some (0, 2)) := by
  obtain ⟨l, rfl⟩ : ∃ l, s = bs l := ⟨_, (bs_self s).symm⟩
  rw [bs_size] at hs
  have u : ∀ {X Y Z X' Y' Z' : List UInt8}, Is3 2 2 2 [47] [47] [] l X Y Z → Is3 2 2 2 [47] [47] [] l X' Y' Z' → X = X' ∧ Y = Y' ∧ Z = Z' := by
    intro X Y Z X' Y' Z' h h'
    have e := h.1.symm.trans h'.1
    obtain ⟨e1, e2⟩ := List.append_inj e (by simp [h.2.1, h'.2.1])
    obtain ⟨e3, e4⟩ := List.append_inj e2 (by simp [h.2.2.1, h'.2.2.1])
    refine ⟨(List.append_inj e1 (by rw [h.2.1, h'.2.1])).1, (List.append_inj e3 (by rw [h.2.2.1, h'.2.2.1])).1, ?_⟩
    simpa using e4
  have key : ∀ o (g : Int → Int → Int → Int × Bool), dayOpts.contains o = true → readDay.f (bs l) o t = threeF (bs l) 2 (bs [47]) 2 (bs [47]) 2 (bs []) g → ∀ (F : Int → Int → Int → Int × Int × Int), (∀ a b c, g a b c = made.f (F a b c).1 (F a b c).2.1 (F a b c).2.2) →
      (∀ X Y Z, Is3 2 2 2 [47] [47] [] l X Y Z → cal_ReadDay.f (bs l) o t = some (P3 (F (numL X) (numL Y) (numL Z)).1 (F (numL X) (numL Y) (numL Z)).2.1 (F (numL X) (numL Y) (numL Z)).2.2)) ∧ ((∀ X Y Z, ¬ Is3 2 2 2 [47] [47] [] l X Y Z) → cal_ReadDay.f (bs l) o t = some (0, 2)) := by
    intro o g ho hr F hF
    constructor
    · intro X Y Z hx
      rcases threeF_or 2 2 2 [47] [47] [] l g (by omega) (by omega) (by omega) hs with ⟨X', Y', Z', hx', h3⟩ | ⟨hno, _⟩
      · obtain ⟨rfl, rfl, rfl⟩ := u hx hx'
        refine made_back ht ho ?_
        rw [hr, h3, hF]
      · exact absurd hx (hno X Y Z)
    · intro hno
      rcases threeF_or 2 2 2 [47] [47] [] l g (by omega) (by omega) (by omega) hs with ⟨X', Y', Z', hx', _⟩ | ⟨_, r, h3⟩
      · exact absurd hx' (hno _ _ _)
      · exact rd_bad ht ho (by rw [hr, h3])
  have k1 := key 69 (fun a b c => made.f (nearV c (yr t)) b a) rfl rfl (fun a b c => (nearV c (yr t), b, a)) (fun _ _ _ => rfl)
  have k2 := key 79 (fun a b c => made.f (nearV a (yr t)) b c) rfl rfl (fun a b c => (nearV a (yr t), b, c)) (fun _ _ _ => rfl)
  have k3 := key 85 (fun a b c => made.f (nearV c (yr t)) a b) rfl rfl (fun a b c => (nearV c (yr t), a, b)) (fun _ _ _ => rfl)
  rcases r_three_or k hk l with ⟨X, Y, Z, hx, h3⟩ | ⟨hno, h3⟩
  · left
    exact ⟨_, _, _, h3, num_two hx.2.1 hx.2.2.2.2.1, num_two hx.2.2.1 hx.2.2.2.2.2.1, num_two hx.2.2.2.1 hx.2.2.2.2.2.2, k1.1 X Y Z hx, k2.1 X Y Z hx, k3.1 X Y Z hx⟩
  · right
    exact ⟨h3, k1.2 hno, k2.2 hno, k3.2 hno⟩
/-- The options I and S: the pieces of a row that has the form but for its digits. -/
theorem rel_pieces (o t : Int) (p : List UInt8) (ho : o = 73 ∧ p = [45] ∨ o = 83 ∧ p = []) (ht : 0 ≤ t ∧ t ≤ 3652058) (X Y Z : List UInt8) (l1 : X.length = 4) (l2 : Y.length = 2) (l3 : Z.length = 2) :
    cal_ReadDay.f (bs (X ++ p ++ (Y ++ p ++ Z))) o t = some (P3 (dgV X) (dgV Y) (dgV Z)) := by
  have hp : p.length ≤ 1 := by rcases ho with ⟨_, rfl⟩ | ⟨_, rfl⟩ <;> simp
  have hd : dayOpts.contains o = true := by rcases ho with ⟨rfl, _⟩ | ⟨rfl, _⟩ <;> rfl
  have hr : ∀ s, readDay.f s o t = threeF s 4 (bs p) 2 (bs p) 2 (bs []) fun a b c => made.f a b c := by
    intro s
    rcases ho with ⟨rfl, rfl⟩ | ⟨rfl, rfl⟩ <;> rfl
  have e : X ++ p ++ (Y ++ p ++ Z) = X ++ p ++ (Y ++ p ++ (Z ++ [] ++ [])) := by simp
  by_cases h : X.all isDig = true ∧ Y.all isDig = true ∧ Z.all isDig = true
  · rw [dgV_hit h.1 (by omega) (by omega), dgV_hit h.2.1 (by omega) (by omega), dgV_hit h.2.2 (by omega) (by omega)]
    refine made_back ht hd ?_
    rw [hr, e]
    exact three_hit _ _ _ _ _ _ _ 4 2 2 (by omega) (by omega) (by omega) l1 l2 l3 h.1 h.2.1 h.2.2
  · have hb : P3 (dgV X) (dgV Y) (dgV Z) = (0, 2) := by
      apply P3_bad
      have hneg : ∀ {l : List UInt8}, ¬ l.all isDig = true → dgV l < 0 := by
        intro l hl
        unfold dgV
        rw [if_neg (fun h => hl h.1)]
        decide
      by_cases h1 : X.all isDig = true
      · by_cases h2 : Y.all isDig = true
        · exact .inr (.inr (hneg (fun h3 => h ⟨h1, h2, h3⟩)))
        · have := hneg h2
          exact .inr (.inl (by omega))
      · exact .inl (hneg h1)
    rw [hb]
    rcases threeF_or 4 2 2 p p [] (X ++ p ++ (Y ++ p ++ Z)) (fun a b c => made.f a b c) (by omega) (by omega) (by omega) (by simp; omega) with ⟨X', Y', Z', hx, _⟩ | ⟨_, r, h3⟩
    · exfalso
      obtain ⟨e0, m1, m2, m3, d1, d2, d3⟩ := hx
      rw [e] at e0
      obtain ⟨e1, e2⟩ := List.append_inj e0 (by simp [l1, m1])
      obtain ⟨e3, e4⟩ := List.append_inj e2 (by simp [l2, m2])
      have q1 := (List.append_inj e1 (by rw [l1, m1])).1
      have q2 := (List.append_inj e3 (by rw [l2, m2])).1
      have q3 : Z = Z' := by simpa using e4
      exact h ⟨by rw [q1]; exact d1, by rw [q2]; exact d2, by rw [q3]; exact d3⟩
    · exact rd_bad ht hd (by rw [hr, h3])
theorem rel_other (o t : Int) (p : List UInt8) (ho : o = 73 ∧ p = [45] ∨ o = 83 ∧ p = []) (ht : 0 ≤ t ∧ t ≤ 3652058) (l : List UInt8) (hl : l.length ≤ 100) (h : ∀ X Y Z : List UInt8, X.length = 4 → Y.length = 2 → Z.length = 2 → l ≠ X ++ p ++ (Y ++ p ++ Z)) :
    cal_ReadDay.f (bs l) o t = some (0, 2) := by
  have hd : dayOpts.contains o = true := by rcases ho with ⟨rfl, _⟩ | ⟨rfl, _⟩ <;> rfl
  have hr : ∀ s, readDay.f s o t = threeF s 4 (bs p) 2 (bs p) 2 (bs []) fun a b c => made.f a b c := by
    intro s
    rcases ho with ⟨rfl, rfl⟩ | ⟨rfl, rfl⟩ <;> rfl
  rcases threeF_or 4 2 2 p p [] l (fun a b c => made.f a b c) (by omega) (by omega) (by omega) hl with ⟨X', Y', Z', hx, _⟩ | ⟨_, r, h3⟩
  · exfalso
    obtain ⟨e0, m1, m2, m3, _⟩ := hx
    exact h X' Y' Z' m1 m2 m3 (by rw [e0]; simp)
  · exact rd_bad ht hd (by rw [hr, h3])
/-- The options B and D. -/
theorem rel_plain (k : Nat) (s : ByteArray) (hs : s.size ≤ 100) (hk : 101 ≤ k) (t : Int) (ht : 0 ≤ t ∧ t ≤ 3652058) :
    ∃ v, qanatref04_plain.f k s 7 = some v ∧ (-1 ≤ v ∧ v ≤ 9999999) ∧ cal_ReadDay.f s 66 t = some (if knownB v = true then (v, 0) else (0, 2)) ∧ cal_ReadDay.f s 68 t = some (if v < 1 ∨ v > bef (yr t + 1) - bef (yr t) then (0, 2) else (bef (yr t) + v - 1, 0)) := by
  obtain ⟨l, rfl⟩ : ∃ l, s = bs l := ⟨_, (bs_self s).symm⟩
  rw [bs_size] at hs
  have hb : readDay.f (bs l) 66 t = (cal_plain.f (bs l) 7).bind fun p => some (p.1, p.2 && knownB p.1) := rfl
  have hd : readDay.f (bs l) 68 t = (cal_plain.f (bs l) 7).bind fun p => some (bef (yr t) + p.1 - 1, p.2 && withinB p.1 1 (bef (yr t + 1) - bef (yr t))) := rfl
  rcases r_plain k l 7 (by omega) (by omega) (by omega) with ⟨n, e, hl, hp⟩ | ⟨hp, hno⟩
  · have hc : cal_plain.f (bs l) 7 = some ((n : Int), true) := by
      rw [e]
      exact plain_hit n 7 (by omega) (by rw [← e]; exact hl)
    have hn : (n : Int) ≤ 9999999 := by
      rcases Nat.lt_or_ge n (10 ^ 7) with g | g
      · have : (10 : Nat) ^ 7 = 10000000 := rfl
        omega
      · have := dec_len_gt n 7 g
        rw [← e] at this
        omega
    rw [hc, Option.bind_some] at hb hd
    refine ⟨n, hp, by omega, ?_, ?_⟩
    · by_cases c : knownB (n : Int) = true
      · rw [if_pos c]
        exact rd_ok ht rfl (by rw [hb, c]; rfl)
      · rw [if_neg c]
        have c : knownB (n : Int) = false := by simpa using c
        exact rd_bad (n := n) ht rfl (by rw [hb, c]; rfl)
    · by_cases c : (n : Int) < 1 ∨ (n : Int) > bef (yr t + 1) - bef (yr t)
      · rw [if_pos c]
        have c2 : withinB (n : Int) 1 (bef (yr t + 1) - bef (yr t)) = false := by
          unfold withinB
          rcases c with c | c
          · rw [decide_eq_false (by omega)]; rfl
          · rw [decide_eq_false (p := (n : Int) ≤ _) (by omega), Bool.and_false]
        exact rd_bad (n := bef (yr t) + n - 1) ht rfl (by rw [hd, c2]; rfl)
      · rw [if_neg c]
        have c2 : withinB (n : Int) 1 (bef (yr t + 1) - bef (yr t)) = true := by
          unfold withinB
          rw [decide_eq_true (by omega), decide_eq_true (by omega)]
          rfl
        exact rd_ok ht rfl (by rw [hd, c2]; rfl)
  · obtain ⟨⟨p, f⟩, hc⟩ := plain_tot (bs l) 7 (by rw [bs_size]; omega) (by omega)
    have hc : cal_plain.f (bs l) 7 = some (p, f) := hc
    have hf : f = false := by
      cases f
      · rfl
      · obtain ⟨m, _, e2, e3⟩ := plain_inv (k := 7) hc
        have e2 := bs_inj e2
        have := hno m e2
        rw [e2] at this
        omega
    subst hf
    rw [hc, Option.bind_some] at hb hd
    refine ⟨-1, hp, by omega, ?_, ?_⟩
    · rw [if_neg (by decide)]
      exact rd_bad (n := p) ht rfl (by rw [hb]; rfl)
    · rw [if_pos (by omega)]
      exact rd_bad (n := bef (yr t) + p - 1) ht rfl (by rw [hd]; rfl)
end Go.Proofs.YteobeikcakoaaaaGreatDoor.Pure

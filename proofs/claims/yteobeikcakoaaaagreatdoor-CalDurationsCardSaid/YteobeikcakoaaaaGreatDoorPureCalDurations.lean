/-
  cal: the pure statement of CalDurations.
-/
import Derived.Test.YteobeikcakoaaaaGreatDoorRb
import Derived.Test.YteobeikcakoaaaaGreatDoorDurW
import Derived.IntWalk
namespace Go.Proofs.YteobeikcakoaaaaGreatDoor.Pure
set_option linter.unusedSimpArgs false
set_option linter.unusedVariables false
open Go.RowKit Go.Proofs.YteobeikcakoaaaaGreatDoor.Given Go.Proofs.YteobeikcakoaaaaGreatDoor.Cal Go.Proofs.YteobeikcakoaaaaGreatDoorW.PrintWords Go.Proofs.YteobeikcakoaaaaGreatDoorW.PrintLast

theorem c_within (n a b : Int) : cal_within.f n a b = some (withinB n a b) := by
  unfold cal_within.f withinB
  by_cases h : a ≤ n <;> simp [h]
theorem c_known (n : Int) : cal_known.f n = some (knownB n) := by
  unfold cal_known.f
  rw [c_within]; rfl
def validB (d m : Int) : Bool := knownB d && withinB m 0 86399999999
theorem c_valid (d m : Int) : cal_valid.f d m = some (validB d m) := by
  unfold cal_valid.f cal_timed.f validB
  rw [c_known, Option.bind_some, c_within, Option.bind_some, Option.bind_some]
  cases knownB d <;> simp
theorem validB_iff (d m : Int) : validB d m = true ↔ (0 ≤ d ∧ d ≤ 3652058) ∧ 0 ≤ m ∧ m ≤ 86399999999 := by
  simp [validB, knownB, withinB]
def afterOk (d m n t : Int) : Prop := validB d m = true ∧ (0 ≤ n ∧ n ≤ 100000) ∧ 0 ≤ t ∧ t ≤ 1000000000000
theorem prod_bd {n t : Int} (hn : 0 ≤ n ∧ n ≤ 100000) (ht : 0 ≤ t ∧ t ≤ 1000000000000) : 0 ≤ n * t ∧ n * t ≤ 100000000000000000 := by
  refine ⟨Int.mul_nonneg hn.1 ht.1, ?_⟩
  have := Int.mul_le_mul hn.2 ht.2 ht.1 (by decide)
  simpa using this
theorem after_yes (q : Nat) (d m n t : Int) (h : afterOk d m n t) : cal_After.f (q + 1) d m n t = some (if d + (m + n * t) / 86400000000 ≤ 3652058 then (d + (m + n * t) / 86400000000, (m + n * t) % 86400000000, 0) else (0, 0, 8)) := by
  obtain ⟨hv, hn, ht⟩ := h
  have hb := (validB_iff d m).1 hv
  have hp := prod_bd hn ht
  have e1 : withinB n 0 100000 = true := by simp [withinB]; omega
  have e2 : withinB t 0 1000000000000 = true := by simp [withinB]; omega
  unfold cal_After.f
  rw [c_valid, Option.bind_some, if_pos hv, c_within, Option.bind_some, if_pos e1, c_within, Option.bind_some, e2, cal_After.j0, if_neg (by decide)]
  rw [w64 (x := n * t) (by omega), w64 (x := m + n * t) (by omega), tdiv_pos _ (by omega), tmod_pos _ (by omega), w64 (x := (m + n * t) / 86400000000) (by omega), w64 (by omega), c_known, Option.bind_some]
  by_cases c : d + (m + n * t) / 86400000000 ≤ 3652058
  · rw [if_pos c, if_pos (by simp [knownB]; omega)]
  · rw [if_neg c, if_neg (by simp [knownB]; omega)]
theorem after_no (q : Nat) (d m n t : Int) (h : ¬ afterOk d m n t) : cal_After.f (q + 1) d m n t = some (0, 0, 1) := by
  have hj : cal_After.j0 (q + 1) n t true d m = some (0, 0, 1) := by rw [cal_After.j0, if_pos rfl]
  unfold cal_After.f
  rw [c_valid, Option.bind_some]
  by_cases h1 : validB d m = true
  · rw [if_pos h1, c_within, Option.bind_some]
    by_cases h2 : withinB n 0 100000 = true
    · rw [if_pos h2, c_within, Option.bind_some]
      have h3 : withinB t 0 1000000000000 = false := by
        cases h3 : withinB t 0 1000000000000
        · rfl
        · exfalso
          exact h ⟨h1, by simpa [withinB] using h2, by simpa [withinB] using h3⟩
      rw [h3]
      exact hj
    · rw [if_neg h2]
      exact hj
  · rw [if_neg h1]
    exact hj
/-- Between, in whole microseconds. -/
def btw (d m e u : Int) : Int := (e * 86400000000 + u) - (d * 86400000000 + m)
theorem between_yes (q : Nat) (d m e u : Int) (h1 : validB d m = true) (h2 : validB e u = true) : cal_Between.f (q + 1) d m e u = some (btw d m e u / 86400000000, btw d m e u % 86400000000, 0) := by
  have b1 := (validB_iff d m).1 h1
  have b2 := (validB_iff e u).1 h2
  unfold cal_Between.f btw
  rw [c_valid, Option.bind_some, if_pos h1, c_valid, Option.bind_some, h2, cal_Between.j0, if_neg (by decide)]
  by_cases hs : (d == e && (m == u)) = true
  · rw [if_pos hs]
    have : d = e ∧ m = u := by simpa using hs
    obtain ⟨rfl, rfl⟩ := this
    rw [Int.sub_self]
    rfl
  · rw [if_neg hs, w64 (x := u - m) (by omega), w64 (x := e - d) (by omega)]
    by_cases hm : u - m < 0
    · rw [if_pos hm, w64 (by omega), w64 (by omega)]
      congr 2
      · omega
      · congr 1
        omega
    · rw [if_neg hm]
      congr 2
      · omega
      · congr 1
        omega
theorem between_no (q : Nat) (d m e u : Int) (h : ¬ (validB d m = true ∧ validB e u = true)) : cal_Between.f (q + 1) d m e u = some (0, 0, 1) := by
  have hj : cal_Between.j0 (q + 1) true d m e u = some (0, 0, 1) := by rw [cal_Between.j0, if_pos rfl]
  unfold cal_Between.f
  rw [c_valid, Option.bind_some]
  by_cases h1 : validB d m = true
  · rw [if_pos h1, c_valid, Option.bind_some]
    have h2 : validB e u = false := by
      cases h2 : validB e u
      · rfl
      · exact absurd ⟨h1, h2⟩ h
    rw [h2]
    exact hj
  · rw [if_neg h1]
    exact hj

/-! ### the order of strings -/

theorem less_app : ∀ (x x' y y' : List UInt8), x.length = x'.length → Op.bytesLess (x ++ y) (x' ++ y') = (Op.bytesLess x x' || (x == x' && Op.bytesLess y y'))
  | [], [], y, y', _ => by simp [Op.bytesLess]
  | a :: x, b :: x', y, y', h => by
    have ih := less_app x x' y y' (by simpa using h)
    simp only [List.cons_append, Op.bytesLess]
    rw [ih]
    by_cases h1 : a = b
    · subst h1
      have : ¬ (a < a) := UInt8.lt_irrefl a
      simp [this]
    · have e : (a :: x == b :: x') = false := by
        rw [beq_eq_false_iff_ne]
        intro e
        exact h1 (by injection e)
      have e2 : (a == b) = false := beq_eq_false_iff_ne.mpr h1
      rw [e, e2]
      simp
theorem less_self (x : List UInt8) : Op.bytesLess x x = false := by
  induction x with
  | nil => rfl
  | cons a x ih =>
    have : ¬ (a < a) := UInt8.lt_irrefl a
    simp [Op.bytesLess, ih, this]
theorem less_dig : ∀ (x y : List UInt8), x.length = y.length → x.all isDig = true → y.all isDig = true → Op.bytesLess x y = decide (numL x < numL y) ∧ ((x == y) = decide (numL x = numL y))
  | [], [], _, _, _ => by decide
  | a :: x, b :: y, h, hx, hy => by
    have hl : x.length = y.length := by simpa using h
    simp only [List.all_cons, Bool.and_eq_true] at hx hy
    have ih := less_dig x y hl hx.2 hy.2
    have ha := dig_val hx.1
    have hb := dig_val hy.1
    have nx := numL_bd x hx.2
    have ny := numL_bd y hy.2
    rw [hl] at nx
    simp only [Op.bytesLess]
    rw [numL_cons, numL_cons, hl, ih.1]
    generalize hp : (10 : Int) ^ y.length = P at *
    rcases Nat.lt_trichotomy a.toNat b.toNat with g | g | g
    · have h1 : (((a.toNat : Int) - 48) + 1) * P ≤ ((b.toNat : Int) - 48) * P := Int.mul_le_mul_of_nonneg_right (by omega) (by omega)
      rw [Int.add_mul] at h1
      have hlt : a < b := UInt8.lt_iff_toNat_lt.2 g
      constructor
      · rw [decide_eq_true hlt, Bool.true_or]
        exact (decide_eq_true (by omega)).symm
      · rw [decide_eq_false (by omega), beq_eq_false_iff_ne]
        intro e
        injection e with e _
        rw [e] at g
        omega
    · have e : a = b := UInt8.toNat_inj.1 g
      subst e
      have hlt : ¬ (a < a) := UInt8.lt_irrefl a
      constructor
      · rw [decide_eq_false hlt]
        simp
      · have e3 : (a :: x == a :: y) = (x == y) := by simp
        rw [e3, ih.2]
        by_cases c : numL x = numL y
        · rw [decide_eq_true c, decide_eq_true (by omega)]
        · rw [decide_eq_false c, decide_eq_false (by omega)]
    · have h1 : (((b.toNat : Int) - 48) + 1) * P ≤ ((a.toNat : Int) - 48) * P := Int.mul_le_mul_of_nonneg_right (by omega) (by omega)
      rw [Int.add_mul] at h1
      have hlt : ¬ (a < b) := fun h => by have := UInt8.lt_iff_toNat_lt.1 h; omega
      have hne : (a == b) = false := by
        rw [beq_eq_false_iff_ne]
        intro e
        rw [e] at g
        omega
      constructor
      · rw [decide_eq_false hlt, hne, Bool.false_and, Bool.or_false]
        exact (decide_eq_false (by omega)).symm
      · rw [decide_eq_false (by omega), beq_eq_false_iff_ne]
        intro e
        injection e with e _
        rw [e] at g
        omega
theorem less_pad (a b k : Nat) (hk : 1 ≤ k) (ha : a < 10 ^ k) (hb : b < 10 ^ k) : Op.bytesLess (padL a k) (padL b k) = decide (a < b) ∧ (padL a k == padL b k) = decide (a = b) := by
  have h := less_dig (padL a k) (padL b k) (by rw [pad_len a k hk ha, pad_len b k hk hb]) (pad_dig a k) (pad_dig b k)
  rw [pad_num, pad_num] at h
  rw [h.1, h.2]
  constructor
  · by_cases c : a < b
    · rw [decide_eq_true c, decide_eq_true (by omega)]
    · rw [decide_eq_false c, decide_eq_false (by omega)]
  · by_cases c : a = b
    · rw [decide_eq_true c, decide_eq_true (by omega)]
    · rw [decide_eq_false c, decide_eq_false (by omega)]
theorem less_sep (sep : List UInt8) (y m d y' m' d' : Nat) (hy : y < 10000) (hm : m < 100) (hd : d < 100) (hy' : y' < 10000) (hm' : m' < 100) (hd' : d' < 100) :
    Op.bytesLess (padL y 4 ++ sep ++ padL m 2 ++ sep ++ padL d 2) (padL y' 4 ++ sep ++ padL m' 2 ++ sep ++ padL d' 2) = decide (y < y' ∨ (y = y' ∧ (m < m' ∨ (m = m' ∧ d < d')))) := by
  have l4 : (padL y 4).length = (padL y' 4).length := by rw [pad_len y 4 (by omega) (by omega), pad_len y' 4 (by omega) (by omega)]
  have l2 : (padL m 2).length = (padL m' 2).length := by rw [pad_len m 2 (by omega) (by omega), pad_len m' 2 (by omega) (by omega)]
  obtain ⟨y1, y2⟩ := less_pad y y' 4 (by omega) (by omega) (by omega)
  obtain ⟨m1, m2⟩ := less_pad m m' 2 (by omega) (by omega) (by omega)
  obtain ⟨d1, d2⟩ := less_pad d d' 2 (by omega) (by omega) (by omega)
  have e : ∀ a b c : List UInt8, a ++ sep ++ b ++ sep ++ c = a ++ (sep ++ (b ++ (sep ++ c))) := by intro a b c; simp
  have hs : (sep == sep) = true := beq_self_eq_true _
  rw [e, e, less_app _ _ _ _ l4, less_app sep sep _ _ rfl, less_app _ _ _ _ l2, less_app sep sep _ _ rfl, less_self, hs, y1, y2, m1, m2, d1]
  rw [Bool.eq_iff_iff]
  simp
theorem date_order {n n' y m d y' m' d' : Nat} (hn : n ≤ 3652058) (hn' : n' ≤ 3652058) (h : DT n y m d) (h' : DT n' y' m' d') : (y < y' ∨ (y = y' ∧ (m < m' ∨ (m = m' ∧ d < d')))) ↔ n < n' := by
  have key : ∀ {n n' y m d y' m' d' : Nat}, n ≤ 3652058 → n' ≤ 3652058 → DT n y m d → DT n' y' m' d' → (y < y' ∨ (y = y' ∧ (m < m' ∨ (m = m' ∧ d < d')))) → n < n' := by
    intro n n' y m d y' m' d' hn hn' h h' hc
    have i1 := day_inv h.dy
    obtain ⟨y1, y2, y3, y4, b1, m1, m2, m3, m4⟩ := mf n (by omega) (by omega)
    obtain ⟨y1', y2', y3', y4', b1', m1', m2', m3', m4'⟩ := mf n' (by omega) (by omega)
    have hd : dom n = n - bef (yr n) - cum (yr n) (mon n - 1) + 1 := rfl
    have hd' : dom n' = n' - bef (yr n') - cum (yr n') (mon n' - 1) + 1 := rfl
    rw [h.ey] at y2 y1 m3 m4 hd
    rw [h'.ey] at y2' y1' m3' m4' hd'
    rw [h.em] at m3 m4 hd
    rw [h'.em] at m3' m4' hd'
    rw [h.ed] at hd
    rw [h'.ed] at hd'
    rcases hc with c | ⟨rfl, c | ⟨rfl, c⟩⟩
    · have := bef_mono ((y : Int) + 1) (y' : Int) (by omega)
      omega
    · have := cum_mono (y : Int) m (m' - 1 - m)
      rw [show m + (m' - 1 - m) = m' - 1 by omega] at this
      omega
    · omega
  constructor
  · exact key hn hn' h h'
  · intro hlt
    have back := key hn' hn h' h
    rcases Nat.lt_trichotomy y y' with c | c | c
    · exact .inl c
    · subst c
      rcases Nat.lt_trichotomy m m' with c2 | c2 | c2
      · exact .inr ⟨rfl, .inl c2⟩
      · subst c2
        rcases Nat.lt_trichotomy d d' with c3 | c3 | c3
        · exact .inr ⟨rfl, .inr ⟨rfl, c3⟩⟩
        · subst c3
          have e1 := h.dy
          rw [h'.dy] at e1
          have := (Prod.mk.inj (Option.some.inj e1)).1
          omega
        · have := back (.inr ⟨rfl, .inr ⟨rfl, c3⟩⟩)
          omega
      · have := back (.inr ⟨rfl, .inl c2⟩)
        omega
    · have := back (.inl c)
      omega
theorem order_is {n n' : Nat} (hn : n ≤ 3652058) (hn' : n' ≤ 3652058) (o : Int) (ho : o = 83 ∨ o = 73) : ∃ s t, cal_Date.f (n : Int) o = some (s, 0) ∧ cal_Date.f (n' : Int) o = some (t, 0) ∧ Op.bytesLess s.toList t.toList = decide ((n : Int) < n') := by
  obtain ⟨y, m, d, h⟩ := dt n hn
  obtain ⟨y', m', d', h'⟩ := dt n' hn'
  have y1 := h.y1
  have y1' := h'.y1
  have m1 := h.m1
  have m1' := h'.m1
  have d1 := h.d1
  have d1' := h'.d1
  have hd : dateOpts.contains o = true := by rcases ho with rfl | rfl <;> rfl
  refine ⟨_, _, c_Date hn h o hd, c_Date hn' h' o hd, ?_⟩
  rw [bs_toList, bs_toList]
  have e : decide ((n : Int) < n') = decide (y < y' ∨ (y = y' ∧ (m < m' ∨ (m = m' ∧ d < d')))) := by
    have := date_order hn hn' h h'
    by_cases c : n < n'
    · rw [decide_eq_true (this.2 c), decide_eq_true (by omega)]
    · rw [decide_eq_false (fun g => c (this.1 g)), decide_eq_false (by omega)]
  rw [e]
  rcases ho with rfl | rfl
  · exact less_sep [] y m d y' m' d' (by omega) (by omega) (by omega) (by omega) (by omega) (by omega)
  · exact less_sep [45] y m d y' m' d' (by omega) (by omega) (by omega) (by omega) (by omega) (by omega)

/-! ### the statement -/

theorem wrp {x : Int} (h : -9223372036854775808 ≤ x ∧ x ≤ 9223372036854775807) : IntKind.i64.wrap x = x := IntWalk.i64_in _ (by omega)
/-- The two ways of the second part, for each way of the first. -/
theorem part2 {d m e u n k t : Int} {R : Prop} (q : Nat)
    (hno : cal_Between.f (q + 1) d m e u = some (0, 0, 1) → cal_Between.f (q + 1) e u d m = some (0, 0, 1) → R)
    (hyes : ∀ (s1 s2 s3 s4 : ByteArray) (D1 U1 D2 U2 S1 S2 S3 : Int), 0 ≤ U1 → U1 < 86400000000 → IntKind.i64.wrap (D1 + D2) = S1 → IntKind.i64.wrap (S1 * 86400000000) = S2 → IntKind.i64.wrap (S2 + U1) = S3 → IntKind.i64.wrap (S3 + U2) = 0 →
      cal_Between.f (q + 1) d m e u = some (D1, U1, 0) → cal_Between.f (q + 1) e u d m = some (D2, U2, 0) → cal_Date.f d 83 = some (s1, 0) → cal_Date.f e 83 = some (s2, 0) → cal_Date.f d 73 = some (s3, 0) → cal_Date.f e 73 = some (s4, 0) →
      Op.bytesLess s1.toList s2.toList = decide (d < e) → Op.bytesLess s3.toList s4.toList = decide (d < e) → R) : R := by
  by_cases h : validB d m = true ∧ validB e u = true
  · have b1 := (validB_iff d m).1 h.1
    have b2 := (validB_iff e u).1 h.2
    have e0 : btw e u d m = - btw d m e u := by unfold btw; omega
    have hb : -400000000000000000 ≤ btw d m e u ∧ btw d m e u ≤ 400000000000000000 := by unfold btw; omega
    have hP := between_yes q d m e u h.1 h.2
    have hQ := between_yes q e u d m h.2 h.1
    obtain ⟨a, rfl⟩ : ∃ a : Nat, d = a := ⟨d.toNat, by omega⟩
    obtain ⟨b, rfl⟩ : ∃ b : Nat, e = b := ⟨e.toNat, by omega⟩
    obtain ⟨s1, s2, h1, h2, h3⟩ := order_is (n := a) (n' := b) (by omega) (by omega) 83 (.inl rfl)
    obtain ⟨s3, s4, h1', h2', h3'⟩ := order_is (n := a) (n' := b) (by omega) (by omega) 73 (.inr rfl)
    rw [e0] at hQ
    generalize btw a m b u = D at *
    exact hyes s1 s2 s3 s4 _ _ _ _ _ _ _ (by omega) (by omega) (wrp (x := D / 86400000000 + -D / 86400000000) (by omega)) (wrp (by omega)) (wrp (by omega)) (by rw [wrp (by omega)]; omega) hP hQ h1 h2 h1' h2' h3 h3'
  · exact hno (between_no q d m e u h) (between_no q e u d m (fun g => h ⟨g.2, g.1⟩))
theorem CalDurations (d m e u n k t : Int) (w : World) (hT : Tb w) : Calls Tryz.prog 12 #[.agg #[.int .i64 d, .int .i64 m], .agg #[.int .i64 e, .int .i64 u], .int .i64 n, .int .i64 k, .int .i64 t] w fun e w' => e = .returned (.bool true) ∧ Below w.heap.size w w' := by
  by_cases h : afterOk d m n t
  · have hA := after_yes 0 d m n t h
    have hp := prod_bd h.2.1 h.2.2
    have hb := (validB_iff d m).1 h.1
    obtain ⟨hn0, hn1⟩ := h.2.1
    by_cases c : d + (m + n * t) / 86400000000 ≤ 3652058
    · rw [if_pos c] at hA
      have hx : validB (d + (m + n * t) / 86400000000) ((m + n * t) % 86400000000) = true := (validB_iff _ _).2 ⟨⟨by omega, c⟩, by omega, by omega⟩
      have hbt : btw d m (d + (m + n * t) / 86400000000) ((m + n * t) % 86400000000) = n * t := by unfold btw; omega
      have hB := between_yes 0 d m _ _ h.1 hx
      rw [hbt] at hB
      have hD : 0 ≤ n * t / 86400000000 := by omega
      have v1 : IntKind.i64.wrap (n * t / 86400000000 * 86400000000) = n * t / 86400000000 * 86400000000 := wrp (by omega)
      have v2 : IntKind.i64.wrap (n * t / 86400000000 * 86400000000 + n * t % 86400000000) = n * t := by rw [wrp (by omega)]; omega
      have v3 : IntKind.i64.wrap (n * t) = n * t := wrp (by omega)
      by_cases hk : 0 ≤ k
      · by_cases hk2 : k ≤ n
        · have hkt := prod_bd (n := k) (t := t) ⟨hk, by omega⟩ h.2.2
          have hnk := prod_bd (n := n - k) (t := t) ⟨by omega, by omega⟩ h.2.2
          have hsum : n * t = k * t + (n - k) * t := by rw [Int.sub_mul]; omega
          have hY := after_yes 0 d m k t ⟨h.1, ⟨hk, by omega⟩, h.2.2⟩
          rw [if_pos (by omega)] at hY
          have hy : validB (d + (m + k * t) / 86400000000) ((m + k * t) % 86400000000) = true := (validB_iff _ _).2 ⟨⟨by omega, by omega⟩, by omega, by omega⟩
          have hZ := after_yes 0 _ _ (n - k) t ⟨hy, ⟨by omega, by omega⟩, h.2.2⟩
          rw [if_pos (by omega)] at hZ
          have e2 : d + (m + k * t) / 86400000000 + ((m + k * t) % 86400000000 + (n - k) * t) / 86400000000 = d + (m + n * t) / 86400000000 := by omega
          have e3 : ((m + k * t) % 86400000000 + (n - k) * t) % 86400000000 = (m + n * t) % 86400000000 := by omega
          rw [e2, e3] at hZ
          exact part2 (n := n) (k := k) (t := t) 0 (fun hP hQ => dur_io _ _ _ _ _ _ _ _ _ _ _ _ _ _ _ _ hD hk hk2 v1 v2 v3 (wrp (by omega)) w hT _ hA hB hY hZ hP hQ)
            (fun s1 s2 s3 s4 D1 U1 D2 U2 S1 S2 S3 g1 g2 g3 g4 g5 g6 hP hQ x1 x2 x3 x4 x5 x6 => dur_iw _ _ _ _ _ _ _ _ _ _ _ _ _ _ _ _ _ _ _ _ _ _ _ s1 s2 s3 s4 hD hk hk2 v1 v2 v3 (wrp (by omega)) g1 g2 g3 g4 g5 g6 w hT _ hA hB hY hZ hP hQ x1 x2 x3 x4 x5 x6)
        · exact part2 (n := n) (k := k) (t := t) 0 (fun hP hQ => dur_go _ _ _ _ _ _ _ _ _ _ _ _ _ hD hk (by omega) v1 v2 v3 w hT _ hA hB hP hQ)
            (fun s1 s2 s3 s4 D1 U1 D2 U2 S1 S2 S3 g1 g2 g3 g4 g5 g6 hP hQ x1 x2 x3 x4 x5 x6 => dur_gw _ _ _ _ _ _ _ _ _ _ _ _ _ _ _ _ _ _ _ _ s1 s2 s3 s4 hD hk (by omega) v1 v2 v3 g1 g2 g3 g4 g5 g6 w hT _ hA hB hP hQ x1 x2 x3 x4 x5 x6)
      · exact part2 (n := n) (k := k) (t := t) 0 (fun hP hQ => dur_lo _ _ _ _ _ _ _ _ _ _ _ _ _ hD (by omega) v1 v2 v3 w hT _ hA hB hP hQ)
          (fun s1 s2 s3 s4 D1 U1 D2 U2 S1 S2 S3 g1 g2 g3 g4 g5 g6 hP hQ x1 x2 x3 x4 x5 x6 => dur_lw _ _ _ _ _ _ _ _ _ _ _ _ _ _ _ _ _ _ _ _ s1 s2 s3 s4 hD (by omega) v1 v2 v3 g1 g2 g3 g4 g5 g6 w hT _ hA hB hP hQ x1 x2 x3 x4 x5 x6)
    · rw [if_neg c] at hA
      exact part2 (n := n) (k := k) (t := t) 0 (fun hP hQ => dur_no _ _ _ _ _ _ _ _ _ 8 rfl w hT _ hA hP hQ)
        (fun s1 s2 s3 s4 D1 U1 D2 U2 S1 S2 S3 g1 g2 g3 g4 g5 g6 hP hQ x1 x2 x3 x4 x5 x6 => dur_nw _ _ _ _ _ _ _ _ _ 8 _ _ _ _ _ _ _ s1 s2 s3 s4 rfl g1 g2 g3 g4 g5 g6 w hT _ hA hP hQ x1 x2 x3 x4 x5 x6)
  · have hA := after_no 0 d m n t h
    exact part2 (n := n) (k := k) (t := t) 0 (fun hP hQ => dur_no _ _ _ _ _ _ _ _ _ 1 rfl w hT _ hA hP hQ)
      (fun s1 s2 s3 s4 D1 U1 D2 U2 S1 S2 S3 g1 g2 g3 g4 g5 g6 hP hQ x1 x2 x3 x4 x5 x6 => dur_nw _ _ _ _ _ _ _ _ _ 1 _ _ _ _ _ _ _ s1 s2 s3 s4 rfl g1 g2 g3 g4 g5 g6 w hT _ hA hP hQ x1 x2 x3 x4 x5 x6)
end Go.Proofs.YteobeikcakoaaaaGreatDoor.Pure

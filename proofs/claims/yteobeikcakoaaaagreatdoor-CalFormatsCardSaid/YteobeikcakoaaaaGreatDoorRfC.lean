/-
  cal: CalFormats: the option N of ReadDay.
-/
import Derived.Test.YteobeikcakoaaaaGreatDoorRfB
namespace Go.Proofs.YteobeikcakoaaaaGreatDoor.Pure
set_option linter.unusedSimpArgs false
set_option linter.unusedVariables false
open Go.RowKit Go.Proofs.YteobeikcakoaaaaGreatDoor.Given Go.Proofs.YteobeikcakoaaaaGreatDoor.Aux Go.Proofs.YteobeikcakoaaaaGreatDoor.Cal Go.Proofs.YteobeikcakoaaaaGreatDoorW.PrintWords Go.Proofs.YteobeikcakoaaaaGreatDoorW.PrintLast Go.Proofs.YteobeikcakoaaaaGreatDoorW.PrintMore

/-- A row with two blanks at the places of the option N. -/
def IsN (l x y z : List UInt8) : Prop := l = x ++ [32] ++ (y ++ [32] ++ z) ∧ (x.length = 1 ∨ x.length = 2) ∧ y.length = 3 ∧ z.length = 4
theorem isN_uniq {l x y z x' y' z' : List UInt8} (h : IsN l x y z) (h' : IsN l x' y' z') : x = x' ∧ y = y' ∧ z = z' := by
  have hl : x.length = x'.length := by
    have e1 := congrArg List.length h.1
    have e2 := congrArg List.length h'.1
    simp [h.2.2.1, h.2.2.2] at e1
    simp [h'.2.2.1, h'.2.2.2] at e2
    omega
  have e := h.1.symm.trans h'.1
  obtain ⟨e1, e2⟩ := List.append_inj e (by simp [hl])
  obtain ⟨e3, e4⟩ := List.append_inj e2 (by simp [h.2.2.1, h'.2.2.1])
  exact ⟨(List.append_inj e1 hl).1, (List.append_inj e3 (by rw [h.2.2.1, h'.2.2.1])).1, e4⟩
/-- What named comes to at such a row. -/
theorem r_named_is (k : Nat) (hk : 130 ≤ k) (l x y z : List UInt8) (h : IsN l x y z) : ∃ v, qanatref04_plain.f (k - 2) (bs x) 2 = some v ∧ qanatref04_named.f k (bs l) = some (P3 (dgV z) (idxM (bs y) 12 0 + 1) v) := by
  obtain ⟨q, rfl⟩ : ∃ q, k = q + 1 + 1 := ⟨k - 2, by omega⟩
  obtain ⟨rfl, hx, hy, hz⟩ := h
  have hxl : x.length ≤ 2 := by omega
  have hp : ∃ v, qanatref04_plain.f q (bs x) 2 = some v := by
    rcases r_plain q x 2 (by omega) (by omega) (by omega) with ⟨n, _, _, hp⟩ | ⟨hp, _⟩
    · exact ⟨_, hp⟩
    · exact ⟨_, hp⟩
  obtain ⟨v, hp⟩ := hp
  refine ⟨v, hp, ?_⟩
  have hs : (bs (x ++ [32] ++ (y ++ [32] ++ z))).size = x.length + 9 := by rw [bs_size]; simp only [List.length_append, List.length_singleton]; omega
  have w9 : wrap64 ((x.length : Int) + 9) = ((x.length + 9 : Nat) : Int) := by rw [w64 (by omega)]; rfl
  have w4 : wrap64 ((x.length : Int) + 4) = ((x.length + 4 : Nat) : Int) := by rw [w64 (by omega)]; rfl
  have w5 : wrap64 ((x.length : Int) + 5) = ((x.length + 5 : Nat) : Int) := by rw [w64 (by omega)]; rfl
  have w1 : wrap64 ((x.length : Int) + 1) = ((x.length + 1 : Nat) : Int) := by rw [w64 (by omega)]; rfl
  have b1 : bt (bs (x ++ [32] ++ (y ++ [32] ++ z))) (x.length : Int) = 32 := bt_bs _ x.length 32 (by
    rw [List.append_assoc, List.getElem?_append_right (Nat.le_refl _), Nat.sub_self]; rfl)
  have b2 : bt (bs (x ++ [32] ++ (y ++ [32] ++ z))) ((x.length + 4 : Nat) : Int) = 32 := bt_bs _ (x.length + 4) 32 (by
    rw [show x ++ [32] ++ (y ++ [32] ++ z) = (x ++ [32] ++ y) ++ ([32] ++ z) by simp, List.getElem?_append_right (by simp [hy]), show x.length + 4 - (x ++ ([32] : List UInt8) ++ y).length = 0 by (simp only [List.length_append, List.length_singleton]; omega)]; rfl)
  have x1 : (bs (x ++ [32] ++ (y ++ [32] ++ z))).extract (((x.length + 5 : Nat) : Int)).toNat (bs (x ++ [32] ++ (y ++ [32] ++ z))).size = bs z := by
    rw [Int.toNat_natCast, hs, bs_extract, show x ++ [32] ++ (y ++ [32] ++ z) = (x ++ [32] ++ y ++ [32]) ++ z by simp, show x.length + 5 = (x ++ [32] ++ y ++ [32]).length by (simp only [List.length_append, List.length_singleton]; omega), List.drop_left, List.take_of_length_le (by simp only [List.length_append, List.length_singleton]; omega)]
  have x2 : (bs (x ++ [32] ++ (y ++ [32] ++ z))).extract (((x.length + 1 : Nat) : Int)).toNat (((x.length + 4 : Nat) : Int)).toNat = bs y := by
    rw [Int.toNat_natCast, Int.toNat_natCast, bs_extract, show x.length + 1 = (x ++ [32]).length by simp, List.drop_left, show x.length + 4 - (x ++ ([32] : List UInt8)).length = y.length by (simp only [List.length_append, List.length_singleton]; omega), List.append_assoc, List.take_left]
  have x3 : (bs (x ++ [32] ++ (y ++ [32] ++ z))).extract 0 ((x.length : Int)).toNat = bs x := by
    rw [Int.toNat_natCast, bs_extract, List.drop_zero, Nat.sub_zero, List.append_assoc, List.take_left]
  have hj : qanatref04_named.j0 (q + 1 + 1) (bs (x ++ [32] ++ (y ++ [32] ++ z))) (x.length : Int) = some (P3 (dgV z) (idxM (bs y) 12 0 + 1) v) := by
    rw [qanatref04_named.j0, w9, if_pos (by rw [hs]), if_pos (by omega), if_pos (by rw [hs]; omega), if_pos b1, w4, if_pos (by omega), if_pos (by rw [hs]; omega), b2]
    have : ((32 : Int) != 32) = false := by decide
    rw [this, qanatref04_named.j1, if_neg (by decide), w5, if_pos (by omega), if_pos (by rw [hs]; omega), x1, r_digits q z (by omega) (by omega), Option.bind_some, w1, w4, if_pos (by omega), if_pos (by omega), if_pos (by rw [hs]; omega), x2, r_numbered q _ (by omega), Option.bind_some, if_pos (by omega), if_pos (by rw [hs]; omega), x3, hp, Option.bind_some, r_parsed q (by omega), Option.bind_some]
  unfold qanatref04_named.f
  rw [hs]
  rcases hx with e | e
  · rw [if_neg (by omega)]
    rw [e] at hj
    exact hj
  · rw [if_pos (by omega)]
    rw [e] at hj
    exact hj
theorem r_named_not (k : Nat) (hk : 130 ≤ k) (l : List UInt8) (hl : l.length ≤ 100) (h : ∀ x y z, ¬ IsN l x y z) : qanatref04_named.f k (bs l) = some (0, 2) := by
  obtain ⟨q, rfl⟩ : ∃ q, k = q + 1 + 1 := ⟨k - 2, by omega⟩
  have j1t : ∀ a, qanatref04_named.j1 (q + 1) (bs l) a true = some (0, 2) := by
    intro a
    rw [qanatref04_named.j1, if_pos rfl]
  have key : ∀ c : Nat, (c = 1 ∨ c = 2) → qanatref04_named.j0 (q + 1 + 1) (bs l) (c : Int) = some (0, 2) := by
    intro c hc
    have w9 : wrap64 ((c : Int) + 9) = ((c + 9 : Nat) : Int) := by rw [w64 (by omega)]; rfl
    have w4 : wrap64 ((c : Int) + 4) = ((c + 4 : Nat) : Int) := by rw [w64 (by omega)]; rfl
    rw [qanatref04_named.j0, w9]
    by_cases hz : l.length = c + 9
    · have h1 : c < l.length := by omega
      have h4 : c + 4 < l.length := by omega
      have b1 : bt (bs l) (c : Int) = ((l[c]).toNat : Int) := bt_bs l c _ (List.getElem?_eq_getElem h1)
      have b2 : bt (bs l) ((c + 4 : Nat) : Int) = ((l[c + 4]).toNat : Int) := bt_bs l (c + 4) _ (List.getElem?_eq_getElem h4)
      rw [if_pos (by rw [bs_size, hz]), if_pos (by omega), if_pos (by rw [bs_size]; omega), b1]
      have i1 : (((l[c]).toNat : Int) = 32) ↔ l[c] = 32 := byte_is (n := 32) (by decide)
      have i2 : (((l[c + 4]).toNat : Int) = 32) ↔ l[c + 4] = 32 := byte_is (n := 32) (by decide)
      by_cases c1 : l[c] = 32
      · rw [if_pos (i1.2 c1), w4, if_pos (by omega), if_pos (by rw [bs_size]; omega), b2]
        by_cases c2 : l[c + 4] = 32
        · exfalso
          refine h (l.take c) ((l.drop (c + 1)).take 3) (l.drop (c + 5)) ⟨?_, by simp; omega, by simp; omega, by simp; omega⟩
          have e1 := List.take_append_drop c l
          have e2 := List.drop_eq_getElem_cons h1
          have e3 := List.take_append_drop 3 (l.drop (c + 1))
          rw [List.drop_drop] at e3
          have e4 := List.drop_eq_getElem_cons h4
          rw [show c + 1 + 3 = c + 4 by omega, e4, c2] at e3
          rw [e2, c1, ← e3] at e1
          refine e1.symm.trans ?_
          simp
        · have : (((l[c + 4]).toNat : Int) != 32) = true := by rw [bne_iff_ne]; exact fun e => c2 (i2.1 e)
          rw [this]
          exact j1t _
      · rw [if_neg (fun e => c1 (i1.1 e))]
        exact j1t _
    · rw [if_neg (by rw [bs_size]; omega)]
      exact j1t _
  unfold qanatref04_named.f
  split
  · exact key 2 (.inr rfl)
  · exact key 1 (.inl rfl)
theorem normal_false (l : List UInt8) (hl : l.length ≤ 100) (t : Int) (ht : 0 ≤ t ∧ t ≤ 3652058) (h : ∀ (dd m : Nat) (yl : List UInt8), l = Lib.decDigits dd ++ [32] ++ ((monL m).take 3 ++ [32] ++ yl) → (Lib.decDigits dd).length ≤ 2 → 1 ≤ m → m ≤ 12 → yl.length = 4 → yl.all isDig = true → False) : cal_ReadDay.f (bs l) 78 t = some (0, 2) := by
  obtain ⟨⟨r, f⟩, hr⟩ := normal_tot (bs l) (by rw [bs_size]; exact hl)
  cases f
  · exact rd_bad ht rfl (show readDay.f (bs l) 78 t = some (r, false) from hr)
  · obtain ⟨dd, m, yl, e, a1, a2, a3, a4, a5, _⟩ := normal_inv hr
    exact (h dd m yl (bs_inj e) a1 a2 a3 a4 a5).elim
/-- The option N. -/
theorem rel_named (k : Nat) (hk : 230 ≤ k) (s : ByteArray) (hs : s.size ≤ 100) (t : Int) (ht : 0 ≤ t ∧ t ≤ 3652058) : ∃ r, qanatref04_named.f k s = some r ∧ cal_ReadDay.f s 78 t = some r := by
  obtain ⟨l, rfl⟩ : ∃ l, s = bs l := ⟨_, (bs_self s).symm⟩
  rw [bs_size] at hs
  have back : ∀ (dd m : Nat) (yl : List UInt8), l = Lib.decDigits dd ++ [32] ++ ((monL m).take 3 ++ [32] ++ yl) → (Lib.decDigits dd).length ≤ 2 → 1 ≤ m → m ≤ 12 → yl.length = 4 → IsN l (Lib.decDigits dd) ((monL m).take 3) yl := by
    intro dd m yl e h1 h2 h3 h4
    have := dec_pos dd
    exact ⟨e, by omega, (mon3 m ⟨h2, h3⟩).1, h4⟩
  by_cases h : ∃ x y z, IsN l x y z
  · obtain ⟨x, y, z, hx⟩ := h
    obtain ⟨v, hp, hn⟩ := r_named_is k (by omega) l x y z hx
    refine ⟨_, hn, ?_⟩
    have hxl : x.length ≤ 2 := by have := hx.2.1; omega
    by_cases hd : ∃ dd : Nat, x = Lib.decDigits dd
    · obtain ⟨dd, rfl⟩ := hd
      have hv : v = dd := by
        rcases r_plain (k - 2) (Lib.decDigits dd) 2 (by omega) (by omega) (by omega) with ⟨n, e, _, hp2⟩ | ⟨_, hno⟩
        · have hp2 : qanatref04_plain.f (k - 2) (bs (Lib.decDigits dd)) 2 = some (n : Int) := hp2
          rw [hp] at hp2
          have := dec_inj e
          rw [Option.some.inj hp2, this]
        · have := hno dd rfl
          omega
      by_cases hm : 0 ≤ idxM (bs y) 12 0
      · obtain ⟨m, m1, m2, m3, m4⟩ := idx_is hm
        by_cases hz : z.all isDig = true
        · have hh := normal_hit dd m z hxl ⟨m1, m2⟩ hx.2.2.2 hz
          rw [← m4, ← hx.1] at hh
          rw [m3, hv, dgV_hit hz (by have := hx.2.2.2; omega) (by have := hx.2.2.2; omega), show (m : Int) - 1 + 1 = m by omega]
          exact made_back ht rfl hh
        · rw [P3_bad (.inl (by
            unfold dgV
            rw [if_neg (fun h => hz h.1)]
            decide))]
          refine normal_false l hs t ht fun dd' m' yl e h1 h2 h3 h4 h5 => hz ?_
          rw [(isN_uniq hx (back dd' m' yl e h1 h2 h3 h4)).2.2]
          exact h5
      · rw [P3_bad (.inr (.inl (by have := (idxM_bd (bs y) 12 0).1; omega)))]
        refine normal_false l hs t ht fun dd' m' yl e h1 h2 h3 h4 h5 => hm ?_
        rw [(isN_uniq hx (back dd' m' yl e h1 h2 h3 h4)).2.1, (mon3 m' ⟨h2, h3⟩).2.2]
        omega
    · have hv : v = -1 := by
        rcases r_plain (k - 2) x 2 (by omega) (by omega) (by omega) with ⟨n, e, _, _⟩ | ⟨hp2, _⟩
        · exact absurd ⟨n, e⟩ hd
        · have hp2 : qanatref04_plain.f (k - 2) (bs x) 2 = some (-1) := hp2
          rw [hp] at hp2
          exact Option.some.inj hp2
      rw [P3_bad (.inr (.inr (by omega)))]
      refine normal_false l hs t ht fun dd' m' yl e h1 h2 h3 h4 h5 => hd ⟨dd', ?_⟩
      exact (isN_uniq hx (back dd' m' yl e h1 h2 h3 h4)).1
  · refine ⟨_, r_named_not k (by omega) l hs (fun x y z hx => h ⟨x, y, z, hx⟩), ?_⟩
    exact normal_false l hs t ht fun dd' m' yl e h1 h2 h3 h4 h5 => h ⟨_, _, _, back dd' m' yl e h1 h2 h3 h4⟩
end Go.Proofs.YteobeikcakoaaaaGreatDoor.Pure

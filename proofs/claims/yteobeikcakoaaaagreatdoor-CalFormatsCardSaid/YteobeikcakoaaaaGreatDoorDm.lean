/-
  cal: the formats of a day; what reads them.
-/
import Derived.Test.YteobeikcakoaaaaGreatDoorFm
import Derived.Lib.SplitLaws
import Derived.Lib.IndexLaws
namespace Go.Proofs.YteobeikcakoaaaaGreatDoor.Pure
set_option linter.unusedSimpArgs false
set_option linter.unusedVariables false
open Go.RowKit Go.Proofs.YteobeikcakoaaaaGreatDoor.Given Go.Proofs.YteobeikcakoaaaaGreatDoor.Aux Go.Proofs.YteobeikcakoaaaaGreatDoorW.PrintWords Go.Proofs.YteobeikcakoaaaaGreatDoorW.PrintLast Go.Proofs.YteobeikcakoaaaaGreatDoorW.PrintMore

def monL (m : Nat) : List UInt8 := (monthN m).data.toList
def dayL (n : Nat) : List UInt8 := (dayN n).data.toList
def fmL (n y m d : Nat) (o : Int) : List UInt8 :=
  if o = 66 then Lib.decDigits n
  else if o = 67 then Lib.decDigits ((n : Int) - bef (max 1 ((y : Int) / 100 * 100)) + 1).toNat
  else if o = 68 then Lib.decDigits ((n : Int) - bef y + 1).toNat
  else if o = 69 then padL d 2 ++ [47] ++ padL m 2 ++ [47] ++ padL (y % 100) 2
  else if o = 73 then padL y 4 ++ [45] ++ padL m 2 ++ [45] ++ padL d 2
  else if o = 77 then monL m
  else if o = 78 then Lib.decDigits d ++ [32] ++ ((monL m).take 3 ++ [32] ++ padL y 4)
  else if o = 79 then padL (y % 100) 2 ++ [47] ++ padL m 2 ++ [47] ++ padL d 2
  else if o = 83 then padL y 4 ++ [] ++ padL m 2 ++ [] ++ padL d 2
  else if o = 85 then padL m 2 ++ [47] ++ padL d 2 ++ [47] ++ padL (y % 100) 2
  else dayL n
theorem mon_fin : ∀ k : Fin 12, ((namesM.getD k.val ⟨#[]⟩).data.toList.take 3).length = 3 ∧ ((namesM.getD k.val ⟨#[]⟩).data.toList.take 3).all (· != 32) = true ∧ idxM ((namesM.getD k.val ⟨#[]⟩).extract 0 3) 12 0 = k.val := by decide +kernel
theorem mon3 (m : Nat) (h : 1 ≤ m ∧ m ≤ 12) : ((monL m).take 3).length = 3 ∧ ((monL m).take 3).all (· != 32) = true ∧ idxM (bs ((monL m).take 3)) 12 0 = (m : Int) - 1 := by
  obtain ⟨h1, h2, h3⟩ := mon_fin ⟨m - 1, by omega⟩
  have e : monL m = (namesM.getD (m - 1) ⟨#[]⟩).data.toList := by
    unfold monL monthN
    rw [Int.toNat_natCast]
  have e2 : (namesM.getD (m - 1) ⟨#[]⟩).extract 0 3 = bs ((monL m).take 3) := by
    rw [← bs_self (namesM.getD (m - 1) ⟨#[]⟩), bs_extract, e]
    rfl
  rw [← e] at h1 h2
  refine ⟨h1, h2, ?_⟩
  rw [← e2, h3]
  show ((m - 1 : Nat) : Int) = _
  omega
theorem pad_le2 (n k : Nat) (h : n ≤ 100000) (hk : k ≤ 100) : (padL n k).length ≤ 200 := by
  have := dec_len n (by omega)
  unfold padL
  rw [List.length_append, List.length_replicate]
  omega
theorem c_fmtW (n y m d : Nat) (o : Int) (hn : n ≤ 3652058) (hy : 1 ≤ y ∧ y ≤ 9999) (hm : 1 ≤ m ∧ m ≤ 12) (hd : d ≤ 31) (hb : bef y ≤ n) : fmtW (n : Int) y m d o = some (bs (fmL n y m d o)) := by
  have hb0 := bef_bd y (by omega) (by omega)
  have hb1 := bef_mono (max 1 ((y : Int) / 100 * 100)) y (by omega)
  have hb2 := bef_bd (max 1 ((y : Int) / 100 * 100)) (by omega) (by omega)
  have ey : (y : Int) % 100 = ((y % 100 : Nat) : Int) := by omega
  have e47 : (⟨#[47]⟩ : ByteArray) = bs [47] := rfl
  have e45 : (⟨#[45]⟩ : ByteArray) = bs [45] := rfl
  unfold fmtW fmL
  by_cases c66 : o = 66
  · rw [if_pos c66, if_pos c66]
    exact c_Itoa n (by omega)
  rw [if_neg c66, if_neg c66]
  by_cases c67 : o = 67
  · rw [if_pos c67, if_pos c67]
    obtain ⟨x, hx⟩ : ∃ x : Nat, (n : Int) - bef (max 1 ((y : Int) / 100 * 100)) + 1 = x := ⟨((n : Int) - bef (max 1 ((y : Int) / 100 * 100)) + 1).toNat, by omega⟩
    rw [hx, Int.toNat_natCast]
    exact c_Itoa x (by omega)
  rw [if_neg c67, if_neg c67]
  by_cases c68 : o = 68
  · rw [if_pos c68, if_pos c68]
    obtain ⟨x, hx⟩ : ∃ x : Nat, (n : Int) - bef y + 1 = x := ⟨((n : Int) - bef y + 1).toNat, by omega⟩
    rw [hx, Int.toNat_natCast]
    exact c_Itoa x (by omega)
  rw [if_neg c68, if_neg c68]
  by_cases c69 : o = 69
  · rw [if_pos c69, if_pos c69]
    rw [ey, e47]
    exact c_joined3 [47] 2 d m (y % 100) (by omega) (by omega) (by omega) (by omega) (by simp)
  rw [if_neg c69, if_neg c69]
  by_cases c73 : o = 73
  · rw [if_pos c73, if_pos c73]
    rw [e45]
    exact c_joined3 [45] 4 y m d (by omega) (by omega) (by omega) (by omega) (by simp)
  rw [if_neg c73, if_neg c73]
  by_cases c77 : o = 77
  · rw [if_pos c77, if_pos c77]
    exact congrArg some (bs_self _).symm
  rw [if_neg c77, if_neg c77]
  by_cases c78 : o = 78
  · rw [if_pos c78, if_pos c78]
    have hp : cal_padded.f (y : Int) 4 = some (bs (padL y 4)) := c_padded y 4 (by omega) (by omega)
    rw [c_Itoa d (by omega), Option.bind_some, hp, Option.bind_some]
    have l1 := dec_len d (by omega)
    have l2 := pad_le2 y 4 (by omega) (by omega)
    have h3 := (mon3 m hm).1
    have e3 : (monthN m).extract 0 3 = bs ((monL m).take 3) := by
      rw [← bs_self (monthN m), bs_extract]
      rfl
    unfold strings_Join.f
    have e : Lib.join (List.map (fun x => x.data.toList) [bs (Lib.decDigits d), (monthN m).extract 0 3, bs (padL y 4)]) (⟨#[32]⟩ : ByteArray).data.toList = Lib.decDigits d ++ [32] ++ ((monL m).take 3 ++ [32] ++ padL y 4) := by
      rw [e3]
      simp [Lib.join_cons, Lib.joinTail, bs_data]
    rw [e, if_pos ⟨by simp, by
      simp
      simp at h3
      omega⟩]
    rfl
  rw [if_neg c78, if_neg c78]
  by_cases c79 : o = 79
  · rw [if_pos c79, if_pos c79]
    rw [ey, e47]
    exact c_joined3 [47] 2 (y % 100) m d (by omega) (by omega) (by omega) (by omega) (by simp)
  rw [if_neg c79, if_neg c79]
  by_cases c83 : o = 83
  · rw [if_pos c83, if_pos c83]
    exact c_joined3 [] 4 y m d (by omega) (by omega) (by omega) (by omega) (by simp)
  rw [if_neg c83, if_neg c83]
  by_cases c85 : o = 85
  · rw [if_pos c85, if_pos c85]
    rw [ey, e47]
    exact c_joined3 [47] 2 m d (y % 100) (by omega) (by omega) (by omega) (by omega) (by simp)
  rw [if_neg c85, if_neg c85]
  exact congrArg some (bs_self _).symm

/-! ### three numbers by the closures -/

theorem three_hit (x p1 y p2 z p3 : List UInt8) (g : Int → Int → Int → Int × Bool) (m1 m2 m3 : Nat) (h1 : 1 ≤ m1 ∧ m1 ≤ 18) (h2 : 1 ≤ m2 ∧ m2 ≤ 18) (h3 : 1 ≤ m3 ∧ m3 ≤ 18)
    (l1 : x.length = m1) (l2 : y.length = m2) (l3 : z.length = m3) (d1 : x.all isDig = true) (d2 : y.all isDig = true) (d3 : z.all isDig = true) :
    threeF (bs (x ++ p1 ++ (y ++ p2 ++ (z ++ p3 ++ [])))) m1 (bs p1) m2 (bs p2) m3 (bs p3) g = some (g (numL x) (numL y) (numL z)) := by
  unfold threeF
  rw [next_hit _ _ _ true m1 h1 l1 d1, Option.bind_some]
  rw [next_hit _ _ _ true m2 h2 l2 d2, Option.bind_some]
  rw [next_hit _ _ _ true m3 h3 l3 d3, Option.bind_some, bs_toList]
  simp
theorem three_inv {s : ByteArray} {p1 p2 p3 : List UInt8} {g : Int → Int → Int → Int × Bool} {m1 m2 m3 : Nat} {r : Int} (h : threeF s m1 (bs p1) m2 (bs p2) m3 (bs p3) g = some (r, true)) :
    ∃ x y z, s = bs (x ++ p1 ++ (y ++ p2 ++ (z ++ p3 ++ []))) ∧ x.length = m1 ∧ y.length = m2 ∧ z.length = m3 ∧ x.all isDig = true ∧ y.all isDig = true ∧ z.all isDig = true ∧ g (numL x) (numL y) (numL z) = (r, true) := by
  obtain ⟨n1, s1, f1, n2, s2, f2, n3, s3, f3, h1, h2, h3, hr⟩ := threeF_some h
  have e1 := (Prod.mk.inj hr).1
  have e2 := (Prod.mk.inj hr).2
  have e3 : (g n1 n2 n3).2 = true ∧ f3 = true ∧ s3.toList.isEmpty = true := by
    have := e2.symm
    simpa using this
  obtain ⟨eg, rfl, es⟩ := e3
  obtain ⟨rfl, z, rest3, rfl, rfl, l3, d3, rfl⟩ := next_inv h3
  obtain ⟨rfl, y, rest2, rfl, e4, l2, d2, rfl⟩ := next_inv h2
  obtain ⟨_, x, rest1, rfl, e5, l1, d1, rfl⟩ := next_inv h1
  have e4 := bs_inj e4
  have e5 := bs_inj e5
  rw [bs_toList] at es
  have : rest3 = [] := by simpa using es
  subst this
  subst e4 e5
  exact ⟨x, y, z, rfl, l1, l2, l3, d1, d2, d3, Prod.ext e1.symm eg⟩
theorem three_tot (s p1 p2 p3 : ByteArray) (g : Int → Int → Int → Int × Bool) (m1 m2 m3 : Nat) (h1 : 1 ≤ m1 ∧ m1 ≤ 18) (h2 : 1 ≤ m2 ∧ m2 ≤ 18) (h3 : 1 ≤ m3 ∧ m3 ≤ 18) (hs : s.size ≤ 100) :
    ∃ r, threeF s m1 p1 m2 p2 m3 p3 g = some r := by
  unfold threeF
  obtain ⟨r1, e1, z1⟩ := next_tot s true m1 p1 h1 (by omega)
  obtain ⟨r2, e2, z2⟩ := next_tot r1.2.1 r1.2.2 m2 p2 h2 (by omega)
  obtain ⟨r3, e3, z3⟩ := next_tot r2.2.1 r2.2.2 m3 p3 h3 (by omega)
  rw [e1, Option.bind_some, e2, Option.bind_some, e3, Option.bind_some]
  exact ⟨_, rfl⟩

/-! ### pieces between blanks -/

theorem pieces_one (l : List UInt8) (h : l.all (· != 32) = true) : pieces (bs l) = [bs l] := by
  have hi : Lib.indexB (bs l) ⟨#[32]⟩ = -1 := by
    show Lib.index (bs l).data.toList [32] = -1
    rw [bs_data]
    refine Lib.index_none fun j hj => ?_
    rcases ho : Lib.occAt l [32] j with _ | _
    · rfl
    · have := Lib.occAt_head rfl ho
      have hm := List.mem_of_getElem? this
      have := List.all_eq_true.1 h 32 hm
      simp at this
  unfold pieces
  exact Lib.splitB_miss _ _ _ _ hi
theorem pieces_cut (x r : List UInt8) (h : x.all (· != 32) = true) : pieces (bs (x ++ 32 :: r)) = bs x :: pieces (bs r) := by
  have hi : Lib.indexB (bs (x ++ 32 :: r)) ⟨#[32]⟩ = (x.length : Nat) := by
    show Lib.index (bs (x ++ 32 :: r)).data.toList [32] = _
    rw [bs_data]
    refine Lib.index_first (by simp) ?_ fun j hj => ?_
    · unfold Lib.occAt
      rw [List.drop_left]
      simp
    · rcases ho : Lib.occAt (x ++ 32 :: r) [32] j with _ | _
      · rfl
      · have := Lib.occAt_head rfl ho
        rw [List.getElem?_append_left hj] at this
        have hm := List.mem_of_getElem? this
        have := List.all_eq_true.1 h 32 hm
        simp at this
  have hc := Lib.countB_hit (bs (x ++ 32 :: r)) ⟨#[32]⟩ x.length (by decide) hi
  unfold pieces
  rw [hc, Nat.add_comm, Lib.splitB_hit _ _ _ _ _ hi]
  have e1 : (bs (x ++ 32 :: r)).extract 0 (x.length + 0) = bs x := by
    rw [bs_extract]
    simp
  have e2 : (bs (x ++ 32 :: r)).extract (x.length + (⟨#[32]⟩ : ByteArray).size) (bs (x ++ 32 :: r)).size = bs r := by
    rw [bs_extract, bs_size, show (⟨#[32]⟩ : ByteArray).size = 1 from rfl, show x ++ 32 :: r = (x ++ [32]) ++ r by simp, show x.length + 1 = (x ++ [32]).length by simp, List.drop_left, List.take_of_length_le (by simp only [List.length_append, List.length_cons, List.length_nil]; omega)]
  rw [e1, e2]
theorem blank_or (l : List UInt8) : l.all (· != 32) = true ∨ ∃ x r, l = x ++ 32 :: r ∧ x.all (· != 32) = true := by
  induction l with
  | nil => left; rfl
  | cons b t ih =>
    by_cases hb : b = 32
    · subst hb
      right
      exact ⟨[], t, rfl, rfl⟩
    · rcases ih with h | ⟨x, r, rfl, hx⟩
      · left; simp [hb]; simpa using h
      · right
        exact ⟨b :: x, r, rfl, by simp [hb]; simpa using hx⟩
theorem pieces_three {l : List UInt8} {a b c : ByteArray} (h : pieces (bs l) = [a, b, c]) : ∃ x y z, l = x ++ 32 :: (y ++ 32 :: z) ∧ a = bs x ∧ b = bs y ∧ c = bs z := by
  rcases blank_or l with h1 | ⟨x, r, rfl, hx⟩
  · rw [pieces_one l h1] at h
    simp at h
  · rw [pieces_cut x r hx] at h
    injection h with ha h
    rcases blank_or r with h2 | ⟨y, q, rfl, hy⟩
    · rw [pieces_one r h2] at h
      simp at h
    · rw [pieces_cut y q hy] at h
      injection h with hb h
      rcases blank_or q with h3 | ⟨z, t, rfl, hz⟩
      · rw [pieces_one q h3] at h
        injection h with hc h
        exact ⟨x, y, q, rfl, ha.symm, hb.symm, hc.symm⟩
      · rw [pieces_cut z t hz] at h
        injection h with hc h
        exfalso
        rcases blank_or t with h4 | ⟨u, v, rfl, hu⟩
        · rw [pieces_one t h4] at h; simp at h
        · rw [pieces_cut u v hu] at h; simp at h
theorem dig_nb {l : List UInt8} (h : l.all isDig = true) : l.all (· != 32) = true := by
  rw [List.all_eq_true] at h ⊢
  intro b hb
  have := dig_val (h b hb)
  rw [bne_iff_ne]
  intro e
  subst e
  have : (32 : UInt8).toNat = 32 := by decide
  omega
theorem idx_hit (t : ByteArray) : ∀ n k : Nat, 0 ≤ idxM t n k → ∃ j : Nat, idxM t n k = j ∧ k ≤ j ∧ j < n + k ∧ hitM t j = true
  | 0, k, h => by simp [idxM] at h
  | n + 1, k, h => by
    by_cases hh : hitM t k = true
    · exact ⟨k, by simp [idxM, hh], Nat.le_refl _, by omega, hh⟩
    · have e : idxM t (n + 1) k = idxM t n (k + 1) := by simp [idxM, hh]
      rw [e] at h ⊢
      obtain ⟨j, h1, h2, h3, h4⟩ := idx_hit t n (k + 1) h
      exact ⟨j, h1, by omega, by omega, h4⟩
/-- The month whose name begins so. -/
theorem idx_is {t : List UInt8} (h : 0 ≤ idxM (bs t) 12 0) : ∃ m : Nat, 1 ≤ m ∧ m ≤ 12 ∧ idxM (bs t) 12 0 = (m : Int) - 1 ∧ t = (monL m).take 3 := by
  obtain ⟨j, h1, h2, h3, h4⟩ := idx_hit _ _ _ h
  refine ⟨j + 1, by omega, by omega, by omega, ?_⟩
  unfold hitM at h4
  have h5 := eq_of_beq h4
  have e : monL (j + 1) = (namesM.getD j ⟨#[]⟩).data.toList := by
    unfold monL monthN
    rw [Int.toNat_natCast]
    rfl
  rw [← bs_self (namesM.getD j ⟨#[]⟩), bs_extract, bs_toList, bs_toList] at h5
  rw [e, ← h5]
  rfl
theorem normal_hit (dd m : Nat) (yl : List UInt8) (hd : (Lib.decDigits dd).length ≤ 2) (hm : 1 ≤ m ∧ m ≤ 12) (hy : yl.length = 4) (hyd : yl.all isDig = true) :
    normalDay.f (bs (Lib.decDigits dd ++ [32] ++ ((monL m).take 3 ++ [32] ++ yl))) = some (made.f (numL yl) m dd) := by
  obtain ⟨h1, h2, h3⟩ := mon3 m hm
  have hp : pieces (bs (Lib.decDigits dd ++ [32] ++ ((monL m).take 3 ++ [32] ++ yl))) = [bs (Lib.decDigits dd), bs ((monL m).take 3), bs yl] := by
    have e : Lib.decDigits dd ++ [32] ++ ((monL m).take 3 ++ [32] ++ yl) = Lib.decDigits dd ++ 32 :: ((monL m).take 3 ++ 32 :: yl) := by simp
    rw [e, pieces_cut _ _ (dig_nb (dec_dig dd)), pieces_cut _ _ h2, pieces_one _ (dig_nb hyd)]
  have p1 : cal_plain.f (bs (Lib.decDigits dd)) 2 = some ((dd : Int), true) := plain_hit dd 2 (by omega) hd
  have p2 : cal_digits.f (bs yl) 4 = some (numL yl, true) := digits_hit yl 4 (by omega) hy hyd
  unfold normalDay.f
  rw [if_pos (by rw [bs_size]; simp; simp at h1; omega), hp]
  show (cal_plain.f (bs (Lib.decDigits dd)) 2).bind _ = _
  rw [p1, Option.bind_some, p2, Option.bind_some, h3, if_pos ⟨rfl, rfl, by omega⟩]
  congr 2
  omega
theorem normal_inv {s : ByteArray} {r : Int} (h : normalDay.f s = some (r, true)) : ∃ (dd m : Nat) (yl : List UInt8), s = bs (Lib.decDigits dd ++ [32] ++ ((monL m).take 3 ++ [32] ++ yl)) ∧ (Lib.decDigits dd).length ≤ 2 ∧ 1 ≤ m ∧ m ≤ 12 ∧ yl.length = 4 ∧ yl.all isDig = true ∧ made.f (numL yl) m dd = (r, true) := by
  unfold normalDay.f at h
  split at h
  · split at h
    · rename_i a b c hl
      rw [← bs_self s] at hl
      obtain ⟨x, y, z, e, rfl, rfl, rfl⟩ := pieces_three hl
      obtain ⟨⟨p1, p2⟩, hp, h⟩ := Option.bind_eq_some_iff.1 h
      obtain ⟨⟨q1, q2⟩, hq, h⟩ := Option.bind_eq_some_iff.1 h
      have h := Option.some.inj h
      split at h
      · rename_i hc
        obtain ⟨c1, c2, c3⟩ := hc
        have c1 : p2 = true := c1
        have c2 : q2 = true := c2
        subst c1 c2
        obtain ⟨dd, e1, e2, e3⟩ := plain_inv (k := 2) hp
        obtain ⟨yl, f1, f2, f3, f4, _⟩ := digits_inv hq
        obtain ⟨m, m1, m2, m3, m4⟩ := idx_is c3
        have e2 := bs_inj e2
        have f1 := bs_inj f1
        refine ⟨dd, m, yl, ?_, e3, m1, m2, by omega, f3, ?_⟩
        · rw [← bs_self s, e, e2, f1, m4]
          simp
        · have h : made.f q1 (idxM (bs y) 12 0 + 1) p1 = (r, true) := h
          rw [m3, e1, f4, show (m : Int) - 1 + 1 = m by omega] at h
          exact h
      · cases h
    · cases h
  · cases h
theorem normal_tot (s : ByteArray) (hs : s.size ≤ 100) : ∃ r, normalDay.f s = some r := by
  unfold normalDay.f
  rw [if_pos (by omega)]
  split
  · rename_i a b c hl
    rw [← bs_self s] at hl
    obtain ⟨x, y, z, e, rfl, rfl, rfl⟩ := pieces_three hl
    have hz : s.size = x.length + (1 + (y.length + (1 + z.length))) := by
      rw [← bs_self s, e, bs_size]; simp; omega
    obtain ⟨p, hp⟩ := plain_tot (bs x) 2 (by rw [bs_size]; omega) (by omega)
    have hp : cal_plain.f (bs x) 2 = some p := hp
    obtain ⟨q, hq⟩ := digits_tot (bs z) 4 (by rw [bs_size]; omega) (by omega) (by omega)
    rw [hp, Option.bind_some, hq]
    exact ⟨_, rfl⟩
  · exact ⟨_, rfl⟩
end Go.Proofs.YteobeikcakoaaaaGreatDoor.Pure

/-
  cal: the formats as rows of bytes; what reads them.
-/
import Derived.Test.YteobeikcakoaaaaGreatDoorNu
namespace Go.Proofs.YteobeikcakoaaaaGreatDoor.Pure
set_option linter.unusedSimpArgs false
set_option linter.unusedVariables false
open Go.RowKit Go.Proofs.YteobeikcakoaaaaGreatDoor.Given Go.Proofs.YteobeikcakoaaaaGreatDoor.Aux Go.Proofs.YteobeikcakoaaaaGreatDoorW.PrintWords Go.Proofs.YteobeikcakoaaaaGreatDoorW.PrintLast Go.Proofs.YteobeikcakoaaaaGreatDoorW.PrintMore

/-- A list of bytes as a string. -/
def bs (l : List UInt8) : ByteArray := ⟨l.toArray⟩
theorem bs_size (l : List UInt8) : (bs l).size = l.length := by simp [bs, ByteArray.size]
theorem bs_append (a b : List UInt8) : bs a ++ bs b = bs (a ++ b) := by
  apply ByteArray.ext
  simp [bs]
theorem bs_data (l : List UInt8) : (bs l).data.toList = l := by simp [bs]
theorem bs_self (s : ByteArray) : bs s.data.toList = s := by
  apply ByteArray.ext
  simp [bs]
theorem bs_toList (l : List UInt8) : (bs l).toList = l := by
  rw [ByteArray.toList_eq]
  simp [bs]
theorem bs_extract (l : List UInt8) (i j : Nat) : (bs l).extract i j = bs ((l.drop i).take (j - i)) := by
  apply ByteArray.ext
  simp [bs, ByteArray.data_extract, List.extract_eq_take_drop]
theorem bs_inj {a b : List UInt8} (h : bs a = bs b) : a = b := by
  have := congrArg (fun s => s.data.toList) h
  simpa [bs_data] using this
theorem rep_zero : ∀ c, Lib.repeatL [48] c = List.replicate c 48
  | 0 => rfl
  | c + 1 => by simp [Lib.repeatL, rep_zero c, List.replicate_succ]
theorem dec_len (n : Nat) (h : n ≤ 9223372036854775807) : (Lib.decDigits n).length ≤ 21 := by
  have := Lib.itoa_length_le (n : Int) (by omega) (by omega)
  rw [Lib.itoa_nonneg] at this
  exact this
theorem c_Itoa (n : Nat) (h : n ≤ 9223372036854775807) : strconv_Itoa.f (n : Int) = some (bs (Lib.decDigits n)) := by
  unfold strconv_Itoa.f bs
  rw [if_pos (by omega), Lib.itoa_nonneg]
theorem c_padded (n k : Nat) (h : n ≤ 9223372036854775807) (hk : k ≤ 100) : cal_padded.f (n : Int) (k : Int) = some (bs (padL n k)) := by
  have hl := dec_len n h
  unfold cal_padded.f
  rw [c_Itoa n h, Option.bind_some]
  have e : mx 0 (wrap64 ((k : Int) - ((bs (Lib.decDigits n)).size : Int))) = ((k - (Lib.decDigits n).length : Nat) : Int) := by
    rw [bs_size]
    have : wrap64 ((k : Int) - ((Lib.decDigits n).length : Int)) = (k : Int) - ((Lib.decDigits n).length : Int) := by unfold wrap64; omega
    rw [this]
    unfold mx
    split <;> omega
  rw [e]
  unfold strings_Repeat.f
  rw [if_pos ⟨by omega, by omega, by decide⟩, Option.bind_some]
  have e2 : (⟨(Lib.repeatL (⟨#[48]⟩ : ByteArray).data.toList (((k - (Lib.decDigits n).length : Nat) : Int)).toNat).toArray⟩ : ByteArray) = bs (List.replicate (k - (Lib.decDigits n).length) 48) := by
    show bs (Lib.repeatL [48] _) = _
    rw [rep_zero, Int.toNat_natCast]
  rw [e2, if_pos (by rw [bs_size, bs_size]; simp; omega), bs_append]
  rfl
/-- Numerals joined by a separator: the first with a width of its own. -/
theorem c_joined3 (sep : List UInt8) (w : Nat) (a b c : Nat) (ha : a ≤ 9223372036854775807) (hb : b ≤ 9223372036854775807) (hc : c ≤ 9223372036854775807) (hw : w ≤ 100) (hs : sep.length ≤ 10) :
    cal_joined.f 10 (bs sep) w [(a : Int), (b : Int), (c : Int)] = some (bs (padL a w ++ sep ++ padL b 2 ++ sep ++ padL c 2)) := by
  have p1 := c_padded a w ha hw
  have p2 := c_padded b 2 hb (by omega)
  have p3 := c_padded c 2 hc (by omega)
  have l1 := dec_len a ha
  have l2 := dec_len b hb
  have l3 := dec_len c hc
  have q0 : rd [(a : Int), (b : Int), (c : Int)] 0 = (a : Int) := rfl
  have q1 : rd [(a : Int), (b : Int), (c : Int)] 1 = (b : Int) := rfl
  have q2 : rd [(a : Int), (b : Int), (c : Int)] 2 = (c : Int) := rfl
  have p2' : cal_padded.f (b : Int) 2 = some (bs (padL b 2)) := p2
  have p3' : cal_padded.f (c : Int) 2 = some (bs (padL c 2)) := p3
  show cal_joined.l0 (9 + 1) (bs sep) w [] [(a : Int), (b : Int), (c : Int)] 3 0 = _
  rw [cal_joined.l0, if_pos (by decide), if_pos (by decide), if_pos (by simp), if_pos rfl, q0, p1, Option.bind_some, if_pos (by simp), show wrap64 (0 + 1) = 1 by (unfold wrap64; omega)]
  rw [cal_joined.l0, if_pos (by decide), if_pos (by decide), if_pos (by simp), if_neg (by decide), q1, p2', Option.bind_some, if_pos (by simp), show wrap64 (1 + 1) = 2 by (unfold wrap64; omega)]
  rw [cal_joined.l0, if_pos (by decide), if_pos (by decide), if_pos (by simp), if_neg (by decide), q2, p3', Option.bind_some, if_pos (by simp), show wrap64 (2 + 1) = 3 by (unfold wrap64; omega)]
  rw [cal_joined.l0, if_neg (by decide)]
  unfold strings_Join.f
  have e : Lib.join (List.map (fun x => x.data.toList) ([] ++ [bs (padL a w)] ++ [bs (padL b 2)] ++ [bs (padL c 2)])) (bs sep).data.toList = padL a w ++ sep ++ padL b 2 ++ sep ++ padL c 2 := by
    simp [Lib.join_cons, Lib.joinTail, bs_data]
  rw [e, if_pos ⟨by simp, by
    simp [padL]
    omega⟩]
  rfl
theorem c_joined2 (sep : List UInt8) (w : Nat) (a b : Nat) (ha : a ≤ 9223372036854775807) (hb : b ≤ 9223372036854775807) (hw : w ≤ 100) (hs : sep.length ≤ 10) :
    cal_joined.f 10 (bs sep) w [(a : Int), (b : Int)] = some (bs (padL a w ++ sep ++ padL b 2)) := by
  have p1 := c_padded a w ha hw
  have p2 := c_padded b 2 hb (by omega)
  have l1 := dec_len a ha
  have l2 := dec_len b hb
  have q0 : rd [(a : Int), (b : Int)] 0 = (a : Int) := rfl
  have q1 : rd [(a : Int), (b : Int)] 1 = (b : Int) := rfl
  have p2' : cal_padded.f (b : Int) 2 = some (bs (padL b 2)) := p2
  show cal_joined.l0 (9 + 1) (bs sep) w [] [(a : Int), (b : Int)] 2 0 = _
  rw [cal_joined.l0, if_pos (by decide), if_pos (by decide), if_pos (by simp), if_pos rfl, q0, p1, Option.bind_some, if_pos (by simp), show wrap64 (0 + 1) = 1 by (unfold wrap64; omega)]
  rw [cal_joined.l0, if_pos (by decide), if_pos (by decide), if_pos (by simp), if_neg (by decide), q1, p2', Option.bind_some, if_pos (by simp), show wrap64 (1 + 1) = 2 by (unfold wrap64; omega)]
  rw [cal_joined.l0, if_neg (by decide)]
  unfold strings_Join.f
  have e : Lib.join (List.map (fun x => x.data.toList) ([] ++ [bs (padL a w)] ++ [bs (padL b 2)])) (bs sep).data.toList = padL a w ++ sep ++ padL b 2 := by
    simp [Lib.join_cons, Lib.joinTail, bs_data]
  rw [e, if_pos ⟨by simp, by
    simp [padL]
    omega⟩]
  rfl

/-! ### Readers of digits -/

theorem data_len (s : ByteArray) : s.data.toList.length = s.size := by
  rw [Array.length_toList]
  rfl
theorem digits_hit (x : List UInt8) (k : Nat) (hk : 1 ≤ k ∧ k ≤ 18) (hl : x.length = k) (hd : x.all isDig = true) : cal_digits.f (bs x) (k : Int) = some (numL x, true) := by
  unfold cal_digits.f
  rw [if_pos (by rw [bs_size, hl]), bs_data, if_pos hd, if_pos (by rw [bs_size, hl]; exact hk)]
theorem digits_inv {s : ByteArray} {k n : Int} (h : cal_digits.f s k = some (n, true)) : ∃ x, s = bs x ∧ (x.length : Int) = k ∧ x.all isDig = true ∧ n = numL x ∧ 1 ≤ x.length := by
  unfold cal_digits.f at h
  split at h
  · rename_i hk
    split at h
    · rename_i hd
      split at h
      · rename_i hz
        cases h
        have e : s.data.toList.length = s.size := data_len s
        exact ⟨s.data.toList, (bs_self s).symm, by rw [e, hk], hd, rfl, by omega⟩
      · cases h
    · split at h <;> cases h
  · cases h
theorem digits_tot (s : ByteArray) (k : Int) (hs : s.size ≤ 1000) (hk : k ≤ 18) (h1 : 1 ≤ k) : ∃ r, cal_digits.f s k = some r := by
  unfold cal_digits.f
  split
  · rename_i e
    split
    · rw [if_pos (by omega)]; exact ⟨_, rfl⟩
    · exact ⟨_, rfl⟩
  · exact ⟨_, rfl⟩
theorem bt_bs (l : List UInt8) (i : Nat) (b : UInt8) (h : l[i]? = some b) : bt (bs l) i = (b.toNat : Int) := by
  obtain ⟨hi, he⟩ := List.getElem?_eq_some_iff.1 h
  unfold bt
  rw [Int.toNat_natCast, dif_pos (by rw [bs_size]; exact hi)]
  have : (bs l)[i]'(by rw [bs_size]; exact hi) = l[i] := by
    simp [bs, ByteArray.getElem_eq_getElem_data]
  rw [this, he]
theorem plain_hit (n k : Nat) (hk : k ≤ 18) (hl : (Lib.decDigits n).length ≤ k) : cal_plain.f (bs (Lib.decDigits n)) (k : Int) = some ((n : Int), true) := by
  have hp := dec_pos n
  unfold cal_plain.f
  rw [if_neg (by rw [bs_size]; omega)]
  have hd : cal_digits.f (bs (Lib.decDigits n)) (mx 1 ((bs (Lib.decDigits n)).size : Int)) = some ((n : Int), true) := by
    have e : mx 1 ((bs (Lib.decDigits n)).size : Int) = ((Lib.decDigits n).length : Int) := by
      rw [bs_size]; unfold mx; split <;> omega
    rw [e, digits_hit _ _ ⟨hp, by omega⟩ rfl (dec_dig n), dec_num]
  split
  · rename_i h1
    rw [bs_size] at h1
    rw [if_pos (by rw [bs_size]; omega)]
    cases hl2 : Lib.decDigits n with
    | nil => rw [hl2] at hp; simp at hp
    | cons b t =>
      have hb := dec_head n b t hl2 (by intro e; rw [hl2, e] at h1; simp at h1)
      have hbt : bt (bs (b :: t)) 0 = (b.toNat : Int) := bt_bs (b :: t) 0 b rfl
      rw [if_neg (by
        rw [hbt]
        intro e
        apply hb
        apply UInt8.toNat_inj.1
        have : (48 : UInt8).toNat = 48 := by decide
        omega), ← hl2, hd]
      rfl
  · rw [hd]; rfl
theorem plain_inv {s : ByteArray} {k : Nat} {n : Int} (h : cal_plain.f s k = some (n, true)) : ∃ m : Nat, n = m ∧ s = bs (Lib.decDigits m) ∧ (Lib.decDigits m).length ≤ k := by
  unfold cal_plain.f at h
  split at h
  · cases h
  · rename_i hk
    have fin : ∀ {g}, (cal_digits.f s (mx 1 (s.size : Int))) = some (g, true) → (∀ b t, s.data.toList = b :: t → t ≠ [] → b ≠ 48) → ∃ m : Nat, g = m ∧ s = bs (Lib.decDigits m) ∧ (Lib.decDigits m).length ≤ k := by
      intro g hg h0
      obtain ⟨x, rfl, hx, hd, rfl, h1⟩ := digits_inv hg
      rw [bs_data] at h0
      have hb := numL_bd x hd
      have e := dec_of x hd (by intro e; rw [e] at h1; simp at h1) h0
      refine ⟨(numL x).toNat, by omega, by rw [e], ?_⟩
      rw [e]
      rw [bs_size] at hk
      omega
    split at h
    · rename_i h1
      rw [if_pos (by omega)] at h
      split at h
      · cases h
      · rename_i hb
        obtain ⟨⟨g, f⟩, hg, h⟩ := Option.bind_eq_some_iff.1 h
        cases h
        refine fin hg fun b t e ht e2 => hb ?_
        subst e2
        rw [← bs_self s, e]
        exact bt_bs (48 :: t) 0 48 rfl
    · rename_i h1
      obtain ⟨⟨g, f⟩, hg, h⟩ := Option.bind_eq_some_iff.1 h
      cases h
      refine fin hg fun b t e ht e2 => ?_
      have e3 : s.data.toList.length = s.size := data_len s
      rw [e] at e3
      cases t with
      | nil => exact ht rfl
      | cons => simp at e3; omega
theorem plain_tot (s : ByteArray) (k : Nat) (hs : s.size ≤ 1000) (hk : k ≤ 18) : ∃ r, cal_plain.f s k = some r := by
  unfold cal_plain.f
  split
  · exact ⟨_, rfl⟩
  · rename_i h
    obtain ⟨r, hr⟩ := digits_tot s (mx 1 (s.size : Int)) hs (by unfold mx; split <;> omega) (by unfold mx; split <;> omega)
    split
    · rename_i h1
      rw [if_pos (by omega)]
      split
      · exact ⟨_, rfl⟩
      · rw [hr]; exact ⟨_, rfl⟩
    · rw [hr]; exact ⟨_, rfl⟩
theorem plain_bad {s : ByteArray} {k n : Int} (h : cal_plain.f s k = some (n, false)) : n = 0 := by
  have hd : ∀ {j m}, cal_digits.f s j = some (m, false) → m = 0 := by
    intro j m h
    unfold cal_digits.f at h
    repeat' split at h
    all_goals first | (cases h; rfl) | cases h
  unfold cal_plain.f at h
  split at h
  · cases h; rfl
  · split at h
    · split at h
      · split at h
        · cases h; rfl
        · obtain ⟨⟨g, f⟩, hg, h⟩ := Option.bind_eq_some_iff.1 h
          cases h; exact hd hg
      · cases h
    · obtain ⟨⟨g, f⟩, hg, h⟩ := Option.bind_eq_some_iff.1 h
      cases h; exact hd hg

/-! ### The closure that reads piece by piece -/

theorem next_hit (x sep rest : List UInt8) (fine : Bool) (k : Nat) (hk : 1 ≤ k ∧ k ≤ 18) (hl : x.length = k) (hd : x.all isDig = true) : nextF (bs (x ++ sep ++ rest)) fine k (bs sep) = some (numL x, bs rest, fine) := by
  unfold nextF
  rw [if_neg (by rw [bs_size, bs_size]; simp; omega)]
  have e1 : (bs (x ++ sep ++ rest)).extract k (k + (bs sep).size) = bs sep := by
    rw [bs_extract, bs_size, List.append_assoc, ← hl, List.drop_left, show x.length + sep.length - x.length = sep.length by omega, List.take_left]
  have e2 : (bs (x ++ sep ++ rest)).extract 0 k = bs x := by
    rw [bs_extract, List.drop_zero, Nat.sub_zero, List.append_assoc, ← hl, List.take_left]
  have e3 : (bs (x ++ sep ++ rest)).extract (k + (bs sep).size) (bs (x ++ sep ++ rest)).size = bs rest := by
    rw [bs_extract, bs_size, bs_size, ← hl, show x.length + sep.length = (x ++ sep).length by simp, List.drop_left]
    rw [show (x ++ sep ++ rest).length - (x ++ sep).length = rest.length by simp; omega, List.take_length]
  rw [e1, if_pos rfl, e2, digits_hit x k hk hl hd, Option.bind_some, e3]
  simp
theorem next_inv {s s' : ByteArray} {sep : List UInt8} {fine : Bool} {k : Nat} {n : Int} (h : nextF s fine k (bs sep) = some (n, s', true)) :
    fine = true ∧ ∃ x rest, s = bs (x ++ sep ++ rest) ∧ s' = bs rest ∧ x.length = k ∧ x.all isDig = true ∧ n = numL x := by
  unfold nextF at h
  split at h
  · cases h
  · rename_i hz
    split at h
    · rename_i he
      obtain ⟨⟨m, f⟩, hm, h⟩ := Option.bind_eq_some_iff.1 h
      injection h with h
      injection h with h1 h
      injection h with h2 h3
      have hf : fine = true ∧ f = true := by simpa using h3
      obtain ⟨rfl, rfl⟩ := hf
      obtain ⟨x, hx, hxl, hd, rfl, _⟩ := digits_inv hm
      refine ⟨rfl, x, s'.data.toList, ?_, (bs_self s').symm, by omega, hd, h1.symm⟩
      rw [← bs_self s] at hx he h2 hz ⊢
      have hlen : s.data.toList.length = s.size := data_len s
      rw [bs_extract] at hx he h2
      rw [bs_size, bs_size] at hz
      have hx := bs_inj hx
      rw [bs_toList, bs_toList, bs_size] at he
      rw [← h2, bs_data]
      rw [bs_size, bs_size]
      congr 1
      rw [List.drop_zero, Nat.sub_zero] at hx
      rw [show k + sep.length - k = sep.length by omega] at he
      rw [List.take_of_length_le (l := List.drop (k + sep.length) s.data.toList) (by simp)]
      have a1 := List.take_append_drop k s.data.toList
      have a2 := List.take_append_drop sep.length (List.drop k s.data.toList)
      rw [List.drop_drop] at a2
      rw [he] at a2
      rw [← hx, List.append_assoc, a2, a1]
    · cases h
theorem next_tot (s : ByteArray) (fine : Bool) (k : Nat) (sep : ByteArray) (hk : 1 ≤ k ∧ k ≤ 18) (hs : s.size ≤ 1000) : ∃ r, nextF s fine k sep = some r ∧ r.2.1.size ≤ s.size := by
  unfold nextF
  split
  · exact ⟨_, rfl, Nat.le_refl _⟩
  · split
    · obtain ⟨r, hr⟩ := digits_tot (s.extract 0 k) k (by rw [ByteArray.size_extract]; omega) (by omega) (by omega)
      rw [hr]
      exact ⟨_, rfl, by rw [ByteArray.size_extract]; omega⟩
    · exact ⟨_, rfl, Nat.le_refl _⟩
end Go.Proofs.YteobeikcakoaaaaGreatDoor.Pure

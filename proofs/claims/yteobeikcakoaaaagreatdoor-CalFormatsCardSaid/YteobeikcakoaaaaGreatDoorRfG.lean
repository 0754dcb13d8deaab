/-
  cal: CalFormats: ReadDay of the reference answers as the program's ReadDay.
-/
import Derived.Test.YteobeikcakoaaaaGreatDoorRfF
namespace Go.Proofs.YteobeikcakoaaaaGreatDoor.Pure
set_option linter.unusedSimpArgs false
set_option linter.unusedVariables false
open Go.RowKit Go.Shelf Go.Proofs.YteobeikcakoaaaaGreatDoor.Given Go.Proofs.YteobeikcakoaaaaGreatDoor.Cal Go.Proofs.YteobeikcakoaaaaGreatDoorW.PrintWords Go.Proofs.YteobeikcakoaaaaGreatDoorW.PrintLast Go.Proofs.YteobeikcakoaaaaGreatDoorW.PrintMore

theorem bs_get (l : List UInt8) (i : Nat) (c : UInt8) (hc : l[i]? = some c) : ∀ h : i < (bs l).size, (((bs l)[i]'h).toNat : Int) = (c.toNat : Int) := by
  intro h
  obtain ⟨hi, he⟩ := List.getElem?_eq_some_iff.1 hc
  have : (bs l)[i]'h = l[i] := by
    simp [bs, ByteArray.getElem_eq_getElem_data]
  rw [this, he]
theorem byte_lit (c : UInt8) (n : Nat) (hn : n < 256) : ((c.toNat : Int) = (n : Int)) ↔ c = UInt8.ofNat n := byte_is hn
theorem rRead (s : ByteArray) (o t r1 r2 : Int) (hs : s.size ≤ 100) (hoo : 0 ≤ o ∧ o < 256) (h : cal_ReadDay.f s o t = some (r1, r2)) (w : World) :
    Calls Tryz.prog 17 #[.string s, .int .u8 o, .int .i64 t] w fun e w' => e = .returned (.agg #[.int .i64 r1, .int .i64 r2]) ∧ Below w.heap.size w w' := by
  by_cases ht : 0 ≤ t ∧ t ≤ 3652058
  · have hty := yr_spec t ht.1 ht.2
    have hD : qanatref04_DateOf.f 10200 t = some (yr t, (mon t : Int), dom t, 0) := by
      rw [r_DateOf t 10200 (by omega)]
      unfold cal_DateOf.f
      rw [if_pos ht]
    have yb : 1 ≤ yr t ∧ yr t ≤ 9999 := ⟨hty.2.2.1, hty.2.2.2⟩
    have inj : ∀ {a b : Int}, cal_ReadDay.f s o t = some (a, b) → a = r1 ∧ b = r2 := by
      intro a b e
      rw [h] at e
      have := Option.some.inj e
      exact ⟨(Prod.mk.inj this).1.symm, (Prod.mk.inj this).2.symm⟩
    by_cases ho : dayOpts.contains o = true
    · rcases opts8 ho with rfl | rfl | rfl | rfl | rfl | rfl | rfl | rfl
      · obtain ⟨v, hp, hvb, h66, _⟩ := rel_plain 10200 s hs (by omega) t ht
        by_cases c : knownB v = true
        · rw [if_pos c] at h66
          obtain ⟨rfl, rfl⟩ := inj h66
          exact rread_66a t _ _ _ s v 10200 hp (by rw [r_In, c]) w hD
        · rw [if_neg c] at h66
          obtain ⟨rfl, rfl⟩ := inj h66
          exact rread_66b t _ _ _ s v 10200 hp (by rw [r_In]; simpa using c) w hD
      · obtain ⟨v, hp, hvb, _, h68⟩ := rel_plain 10200 s hs (by omega) t ht
        have b1 := bef_bd (yr t) (by omega) (by omega)
        have b2 := bef_bd (yr t + 1) (by omega) (by omega)
        have bm := bef_mono (yr t + 1) 10000 (by omega)
        have h11 : bef 10000 = 3652059 := by decide
        have e1 := r_before (yr t) (by omega) (by omega)
        have e2 := r_before (yr t + 1) (by omega) (by omega)
        by_cases c1 : v < 1
        · rw [if_pos (.inl c1)] at h68
          obtain ⟨rfl, rfl⟩ := inj h68
          exact rread_68b t _ _ _ s v _ _ 10200 yb hvb.1 hvb.2 ⟨by omega, by omega⟩ ⟨by omega, by omega⟩ c1 hp e2 e1 w hD
        · by_cases c2 : v > bef (yr t + 1) - bef (yr t)
          · rw [if_pos (.inr c2)] at h68
            obtain ⟨rfl, rfl⟩ := inj h68
            exact rread_68c t _ _ _ s v _ _ 10200 yb hvb.1 hvb.2 ⟨by omega, by omega⟩ ⟨by omega, by omega⟩ (by omega) c2 hp e2 e1 w hD
          · rw [if_neg (by omega)] at h68
            obtain ⟨rfl, rfl⟩ := inj h68
            exact rread_68a t _ _ _ s v _ _ 10200 yb hvb.1 hvb.2 ⟨by omega, by omega⟩ ⟨by omega, by omega⟩ (by omega) (by omega) hp e2 e1 w hD
      · rcases rel_three 10200 (by omega) s hs t ht with ⟨x, y, z, h3, hx, hy, hz, k1, _, _⟩ | ⟨⟨x, y, z, h3⟩, k1, _, _⟩
        · rcases hP : P3 (nearV z (yr t)) y x with ⟨a, b⟩
          rw [hP] at k1
          obtain ⟨rfl, rfl⟩ := inj k1
          exact rread_eo t _ _ _ s x y z _ _ _ 10200 yb h3 (r_near 10200 z _ (by omega) hz yb) (by rw [r_parsed 10200 (by omega), hP]) w hD
        · obtain ⟨rfl, rfl⟩ := inj k1
          exact rread_en t _ _ _ s x y z 10200 h3 w hD
      · obtain ⟨l, rfl⟩ : ∃ l, s = bs l := ⟨_, (bs_self s).symm⟩
        rw [bs_size] at hs
        by_cases c1 : l.length = 10
        · have g4 : 4 < l.length := by omega
          have g7 : 7 < l.length := by omega
          have hz : ((bs l).size : Int) = 10 := by rw [bs_size]; omega
          obtain ⟨k4, hk4⟩ : ∃ c, l[4] = c := ⟨_, rfl⟩
          obtain ⟨k7, hk7⟩ : ∃ c, l[7] = c := ⟨_, rfl⟩
          have q4 : l[4]? = some k4 := by rw [List.getElem?_eq_getElem g4, hk4]
          have q7 : l[7]? = some k7 := by rw [List.getElem?_eq_getElem g7, hk7]
          have i4 := bs_get l 4 k4 q4
          have i7 := bs_get l 7 k7 q7
          have oth : (∀ X Y Z : List UInt8, X.length = 4 → Y.length = 2 → Z.length = 2 → l ≠ X ++ [45] ++ (Y ++ [45] ++ Z)) → 0 = r1 ∧ 2 = r2 := fun hh => inj (rel_other 73 t [45] (.inl ⟨rfl, rfl⟩) ht l hs hh)
          by_cases c2 : k4 = 45
          · have e4 : (k4.toNat : Int) = 45 := (byte_lit _ 45 (by decide)).2 c2
            rw [e4] at i4
            by_cases c3 : k7 = 45
            · have e7 : (k7.toNat : Int) = 45 := (byte_lit _ 45 (by decide)).2 c3
              rw [e7] at i7
              obtain ⟨X, Y, Z, el, l1, l2, l3⟩ : ∃ X Y Z : List UInt8, l = X ++ [45] ++ (Y ++ [45] ++ Z) ∧ X.length = 4 ∧ Y.length = 2 ∧ Z.length = 2 := by
                refine ⟨l.take 4, (l.drop 5).take 2, l.drop 8, ?_, by simp; omega, by simp; omega, by simp; omega⟩
                have a1 := List.take_append_drop 4 l
                have a2 := List.drop_eq_getElem_cons g4
                have a3 := List.take_append_drop 2 (l.drop 5)
                rw [List.drop_drop] at a3
                have a4 := List.drop_eq_getElem_cons g7
                rw [show 5 + 2 = 7 by omega, a4, hk7, c3] at a3
                rw [a2, hk4, c2, ← a3] at a1
                refine a1.symm.trans ?_
                simp
              have k1 := rel_pieces 73 t [45] (.inl ⟨rfl, rfl⟩) ht X Y Z l1 l2 l3
              rw [← el] at k1
              rcases hP : P3 (dgV X) (dgV Y) (dgV Z) with ⟨a, b⟩
              rw [hP] at k1
              obtain ⟨rfl, rfl⟩ := inj k1
              have x1 : (bs l).extract 0 4 = bs X := by rw [bs_extract, el, List.drop_zero, Nat.sub_zero, List.append_assoc, ← l1, List.take_left]
              have x2 : (bs l).extract 5 7 = bs Y := by
                rw [bs_extract, el, show 5 = (X ++ ([45] : List UInt8)).length by (simp only [List.length_append, List.length_singleton]; omega), List.drop_left, show 7 - (X ++ ([45] : List UInt8)).length = Y.length by (simp only [List.length_append, List.length_singleton]; omega), List.append_assoc, List.take_left]
              have x3 : (bs l).extract 8 10 = bs Z := by
                rw [bs_extract, el, show X ++ [45] ++ (Y ++ [45] ++ Z) = (X ++ [45] ++ Y ++ [45]) ++ Z by simp, show 8 = (X ++ ([45] : List UInt8) ++ Y ++ [45]).length by (simp only [List.length_append, List.length_singleton]; omega), List.drop_left, List.take_of_length_le (by simp only [List.length_append, List.length_singleton]; omega)]
              exact rread_id t _ _ _ (bs l) (dgV X) (dgV Y) (dgV Z) _ _ 10200 hz i4 i7 (by rw [x1]; exact r_digits 10200 X (by omega) (by omega)) (by rw [x2]; exact r_digits 10200 Y (by omega) (by omega)) (by rw [x3]; exact r_digits 10200 Z (by omega) (by omega)) (by rw [r_parsed 10200 (by omega), hP]) w hD
            · obtain ⟨rfl, rfl⟩ := oth (fun X Y Z l1 l2 l3 el => c3 (by
                have : l[7]? = some 45 := by
                  rw [el, show X ++ [45] ++ (Y ++ [45] ++ Z) = (X ++ [45] ++ Y) ++ ([45] ++ Z) by simp, List.getElem?_append_right (by simp only [List.length_append, List.length_singleton]; omega), show 7 - (X ++ ([45] : List UInt8) ++ Y).length = 0 by (simp only [List.length_append, List.length_singleton]; omega)]
                  rfl
                rw [q7] at this
                exact Option.some.inj this))
              exact rread_ic t _ _ _ (bs l) _ 10200 hz i4 i7 (beq_eq_false_iff_ne.mpr (fun e => c3 ((byte_lit _ 45 (by decide)).1 e))) w hD
          · obtain ⟨rfl, rfl⟩ := oth (fun X Y Z l1 l2 l3 el => c2 (by
              have : l[4]? = some 45 := by
                rw [el, List.append_assoc, List.getElem?_append_right (by omega), show 4 - X.length = 0 by omega]
                rfl
              rw [q4] at this
              exact Option.some.inj this))
            exact rread_ib t _ _ _ (bs l) _ 10200 hz i4 (beq_eq_false_iff_ne.mpr (fun e => c2 ((byte_lit _ 45 (by decide)).1 e))) w hD
        · obtain ⟨rfl, rfl⟩ := inj (rel_other 73 t [45] (.inl ⟨rfl, rfl⟩) ht l hs fun X Y Z l1 l2 l3 el => c1 (by rw [el]; simp only [List.length_append, List.length_singleton]; omega))
          exact rread_ia t _ _ _ (bs l) 10200 (by rw [bs_size]; exact c1) w hD
      · obtain ⟨⟨a, b⟩, hn, hc⟩ := rel_named 10200 (by omega) s hs t ht
        obtain ⟨rfl, rfl⟩ := inj hc
        exact rread_nn t _ _ _ s _ _ 10200 hn w hD
      · rcases rel_three 10200 (by omega) s hs t ht with ⟨x, y, z, h3, hx, hy, hz, _, k1, _⟩ | ⟨⟨x, y, z, h3⟩, _, k1, _⟩
        · rcases hP : P3 (nearV x (yr t)) y z with ⟨a, b⟩
          rw [hP] at k1
          obtain ⟨rfl, rfl⟩ := inj k1
          exact rread_oo t _ _ _ s x y z _ _ _ 10200 yb h3 (r_near 10200 x _ (by omega) hx yb) (by rw [r_parsed 10200 (by omega), hP]) w hD
        · obtain ⟨rfl, rfl⟩ := inj k1
          exact rread_on t _ _ _ s x y z 10200 h3 w hD
      · obtain ⟨l, rfl⟩ : ∃ l, s = bs l := ⟨_, (bs_self s).symm⟩
        rw [bs_size] at hs
        by_cases c1 : l.length = 8
        · have hz : ((bs l).size : Int) = 8 := by rw [bs_size]; omega
          obtain ⟨X, Y, Z, el, l1, l2, l3⟩ : ∃ X Y Z : List UInt8, l = X ++ [] ++ (Y ++ [] ++ Z) ∧ X.length = 4 ∧ Y.length = 2 ∧ Z.length = 2 := by
            refine ⟨l.take 4, (l.drop 4).take 2, l.drop 6, ?_, by simp; omega, by simp; omega, by simp; omega⟩
            have a1 := List.take_append_drop 4 l
            have a3 := List.take_append_drop 2 (l.drop 4)
            rw [List.drop_drop] at a3
            rw [← a3] at a1
            refine a1.symm.trans ?_
            simp
          have k1 := rel_pieces 83 t [] (.inr ⟨rfl, rfl⟩) ht X Y Z l1 l2 l3
          rw [← el] at k1
          rcases hP : P3 (dgV X) (dgV Y) (dgV Z) with ⟨a, b⟩
          rw [hP] at k1
          obtain ⟨rfl, rfl⟩ := inj k1
          have el2 : l = X ++ (Y ++ Z) := by rw [el]; simp
          have x1 : (bs l).extract 0 4 = bs X := by rw [bs_extract, el2, List.drop_zero, Nat.sub_zero, ← l1, List.take_left]
          have x2 : (bs l).extract 4 6 = bs Y := by
            rw [bs_extract, el2, ← l1, List.drop_left, show 6 - X.length = Y.length by omega, List.take_left]
          have x3 : (bs l).extract 6 8 = bs Z := by
            rw [bs_extract, el2, ← List.append_assoc, show 6 = (X ++ Y).length by (simp only [List.length_append]; omega), List.drop_left, List.take_of_length_le (by simp only [List.length_append]; omega)]
          exact rread_sd t _ _ _ (bs l) (dgV X) (dgV Y) (dgV Z) _ _ 10200 hz (by rw [x1]; exact r_digits 10200 X (by omega) (by omega)) (by rw [x2]; exact r_digits 10200 Y (by omega) (by omega)) (by rw [x3]; exact r_digits 10200 Z (by omega) (by omega)) (by rw [r_parsed 10200 (by omega), hP]) w hD
        · obtain ⟨rfl, rfl⟩ := inj (rel_other 83 t [] (.inr ⟨rfl, rfl⟩) ht l hs fun X Y Z l1 l2 l3 el => c1 (by rw [el]; simp only [List.length_append, List.length_nil]; omega))
          exact rread_sa t _ _ _ (bs l) 10200 (by rw [bs_size]; exact c1) w hD
      · rcases rel_three 10200 (by omega) s hs t ht with ⟨x, y, z, h3, hx, hy, hz, _, _, k1⟩ | ⟨⟨x, y, z, h3⟩, _, _, k1⟩
        · rcases hP : P3 (nearV z (yr t)) x y with ⟨a, b⟩
          rw [hP] at k1
          obtain ⟨rfl, rfl⟩ := inj k1
          exact rread_uo t _ _ _ s x y z _ _ _ 10200 yb h3 (r_near 10200 z _ (by omega) hz yb) (by rw [r_parsed 10200 (by omega), hP]) w hD
        · obtain ⟨rfl, rfl⟩ := inj k1
          exact rread_un t _ _ _ s x y z 10200 h3 w hD
    · have hc : cal_ReadDay.f s o t = some (0, 1) := by
        unfold cal_ReadDay.f
        rw [if_pos ht, if_pos hoo, if_neg ho]
      obtain ⟨rfl, rfl⟩ := inj hc
      have hne : ∀ i : Int, i ∈ dayOpts → (o == i) = false := by
        intro i hi
        rw [beq_eq_false_iff_ne]
        rintro rfl
        exact ho (by simpa using hi)
      exact rread_no t _ _ _ s o 10200 (hne _ (by simp [dayOpts])) (hne _ (by simp [dayOpts])) (hne _ (by simp [dayOpts])) (hne _ (by simp [dayOpts])) (hne _ (by simp [dayOpts])) (hne _ (by simp [dayOpts])) (hne _ (by simp [dayOpts])) (hne _ (by simp [dayOpts])) w hD
  · have hc : cal_ReadDay.f s o t = some (0, 1) := by
      unfold cal_ReadDay.f
      rw [if_neg ht]
    rw [h] at hc
    have hc := Option.some.inj hc
    obtain ⟨rfl, rfl⟩ := Prod.mk.inj hc
    refine rread_out t o s 10200 w ?_
    rw [r_DateOf t 10200 (by omega)]
    unfold cal_DateOf.f
    rw [if_neg ht]
end Go.Proofs.YteobeikcakoaaaaGreatDoor.Pure

-- Written by gprint.py (a patched run of the kit's print) for this claim. Not trusted: Lean checks it.
import Derived.Test.YteobeikcakoaaaaGreatDoorTim0
import Derived.Test.YteobeikcakoaaaaGreatDoorGa
namespace Go.Proofs.YteobeikcakoaaaaGreatDoor.Cal
open Go.RowKit Go.Proofs.YteobeikcakoaaaaGreatDoorW.PrintWords Go.Proofs.YteobeikcakoaaaaGreatDoorW.PrintLast Go.Proofs.YteobeikcakoaaaaGreatDoorW.PrintMore
attribute [local go_sem] max2_int min2_int max_two min_two max_three min_three max_four min_four   -- for this text's walks alone
open Go.Proofs.YteobeikcakoaaaaGreatDoor.Given
set_option linter.unusedVariables false
set_option linter.unusedSimpArgs false

/-! ### qanatref04_text: function 48 -/
def qanatref04_text.f : Nat → Int → Option (ByteArray)
  | 0, _ => none
  | k + 1, a0 => if a0 < 10 then (some (strOfNums (([(wrap64 (48 + a0)) % 256] : List Int)))) else ((qanatref04_text.f k (wrap64 (Int.tdiv a0 10))).bind fun t104 => ((qanatref04_text.f k (Int.tmod a0 10)).bind fun t105 => (if t104.size + t105.size ≤ 9223372036854775807 then (some (t104 ++ t105)) else (none))))
theorem qanatref04_text.mono_l : ∀ k, (∀ y0, LeO (qanatref04_text.f k y0) (qanatref04_text.f (k + 1) y0))
  | 0 => fun _ r h => by simp [qanatref04_text.f] at h
  | k + 1 => by
    have ih0 := qanatref04_text.mono_l k
    · intro y0
      unfold qanatref04_text.f
      repeat' first
      | (with_reducible exact ih0 _)
      | (with_reducible exact LeO.refl _)
      | (with_reducible exact LeO.none _)
      | (with_reducible refine LeO.ite ?_ ?_)
      | (with_reducible refine LeO.bind ?_ (fun _ => ?_))
      | exact ih0 _
      | exact LeO.none _
      | refine LeO.ite ?_ ?_
      | refine LeO.bind ?_ (fun _ => ?_)
theorem qanatref04_text.mono : ∀ a0 k, LeO (qanatref04_text.f k a0) (qanatref04_text.f (k + 1) a0) := by
  intro a0 k
  have ih0 := qanatref04_text.mono_l k
  exact ih0 a0
set_option maxHeartbeats 8000000 in
set_option maxRecDepth 100000 in
theorem qanatref04_text.calls (k : Nat) : ∀ (a0 : Int) (r : ByteArray) (w : World) (h : qanatref04_text.f k a0 = some r),
    Calls Tryz.prog 48 #[.int .i64 a0] w fun e w' => e = .returned (.string r) ∧ Below w.heap.size w w' := by
  induction k using Nat.strongRecOn with
  | _ k ih =>
  intro a0 r w h
  cases k with
  | zero => exact absurd h (by simp [qanatref04_text.f])
  | succ k =>
  simp only [qanatref04_text.f] at h
  have HB := Aside0.mk (Below.refl w.heap.size w)
  have H : (if a0 < 10 then (some (strOfNums (([(wrap64 (48 + a0)) % 256] : List Int)))) else ((qanatref04_text.f k (wrap64 (Int.tdiv a0 10))).bind fun t104 => ((qanatref04_text.f k (Int.tmod a0 10)).bind fun t105 => (if t104.size + t105.size ≤ 9223372036854775807 then (some (t104 ++ t105)) else (none))))) = some r := h
  clear h
  by_cases c2 : a0 < 10
  · rw [if_pos c2] at H
    have c2b0 : decide (a0 < 10) = true := decide_eq_true c2
    clear c2
    obtain ⟨y101, hy101⟩ : ∃ y_ : List Int, y_ = (([(wrap64 (48 + a0)) % 256] : List Int)) := ⟨_, rfl⟩
    replace H : (some (strOfNums y101)) = some r := by first | (rw [hy101]; with_reducible exact H) | (have H2_ := (Option.bind_some _ _).symm.trans H; rw [hy101]; with_reducible exact H2_) | (have H2_ := (Option.bind_some _ _).symm.trans H; with_reducible exact H2_) | with_reducible exact H | (rw [hy101]; exact H) | exact H
    have Ny101 := Aside0.mk hy101
    clear hy101
    obtain rfl := Option.some.inj H
    go_enter Tryz.func48, Tryz.ntmps48
    go_wp2_with (first | ((with_reducible refine gate_dst (N := 8) rfl ?_); refine Kd.R_lit (Kd.int .u8) _ 5 ?hg (N := 8) ?hd (xs := ([(wrap64 (48 + a0)) % 256] : List Int)) (inner := [.int .u8 ((wrap64 (48 + a0)) % 256)]) (ok := fun _ => True) (okp := fun _ => True) ?hr ?hp (fun _ hk => hk) trivial (Below.refl _ _) (Nat.le_refl _) (by simp) ?_; (case hd => rfl); (case hg => rfl); (case hr => first | (go_simp; done) | (go_simp; rfl)); (case hp => exact (Reps.one (show Kd.M (Kd.int .u8) _ _ _ ((wrap64 (48 + a0)) % 256) [.int .u8 ((wrap64 (48 + a0)) % 256)] from rfl) (Reps.none _ _))); intro v102 w3 ho4 hb hg_ hnew_; clear hg_ hnew_; (first | rw [← Ny101.out] at ho4 | (simp only [Int.reduceToNat] at ho4; rw [← Ny101.out] at ho4)); have n0_ := Aside0.mk (Kd.R_lower ho4 (below_size (by repeat (first | (with_reducible first | exact HB.out | apply below_alloc | apply pw_below_drewN | apply below_drew1) | exact HB.out)))); have n1_ := Aside0.mk (below_step (by repeat (first | (with_reducible first | exact HB.out | apply below_alloc | apply pw_below_drewN | apply below_drew1) | exact HB.out)) hb); clear HB; have HO103 := n0_; have HB := n1_; clear n0_ n1_; clear hb ho4; have hcv5 := own_string (P := Tryz.prog) Tryz.underlying45 Tryz.underlying5 Tryz.underlying9 (Kd.own_of_R HO103.out)))
    go_ret
    exact ⟨by first | rfl | (simp [errW_none, errW_some] <;> rfl) | (simp [*, errW_none, errW_some] <;> rfl), by repeat (first | (with_reducible first | exact HB.out | apply below_alloc | apply pw_below_drewN | apply below_drew1) | exact HB.out)⟩
  · rw [if_neg c2] at H
    have c2b0 : decide (a0 < 10) = false := decide_eq_false c2
    clear c2
    replace H := Option.bind_eq_some_iff.mp H
    obtain ⟨t104, A60, H⟩ := H
    replace H : ((qanatref04_text.f k (Int.tmod a0 10)).bind fun t105 => (if t104.size + t105.size ≤ 9223372036854775807 then (some (t104 ++ t105)) else (none))) = some r := H
    have A6 := Aside0.mk A60
    clear A60
    replace H := Option.bind_eq_some_iff.mp H
    obtain ⟨t105, A70, H⟩ := H
    replace H : (if t104.size + t105.size ≤ 9223372036854775807 then (some (t104 ++ t105)) else (none)) = some r := H
    have A7 := Aside0.mk A70
    clear A70
    by_cases c8 : t104.size + t105.size ≤ 9223372036854775807
    · rw [if_pos c8] at H
      have c8b0 := eq_true c8
      have c8b1 : decide (t104.size + t105.size ≤ 9223372036854775807) = true := decide_eq_true c8
      try have c8b2 : (9223372036854775807 < t104.size + t105.size) = False := eq_false (Nat.not_lt.2 c8)
      try (have c8b3 := c8; simp only [ByteArray.size_append] at c8b3; have c8b4 := eq_false (Nat.not_lt.2 c8b3); try (have c8b5 := c8b3; simp only [ByteArray.size_extract, Nat.sub_zero] at c8b5; have c8b6 := eq_false (Nat.not_lt.2 c8b5)))
      obtain rfl := Option.some.inj H
      go_enter Tryz.func48, Tryz.ntmps48
      go_wp2_with (first | ((with_reducible refine gate_callee (f := 48) rfl ?_); refine goesL_ (some 12) rfl rfl Tryz.func48 (by kernel_rfl) rfl #[.int .i64 (wrap64 (Int.tdiv a0 10))] rfl (by (try simp only [List.map_toArray, List.map_cons, List.map_nil]); first | done | rfl | (simp only [List.length_drop, List.length_take]; rfl)) ?_; (with_reducible refine (ih k (by omega) (wrap64 (Int.tdiv a0 10)) t104 _ A6.out).mono ?_); rintro e w9 ⟨rfl, hb⟩; refine ⟨_, rfl, ?_⟩; have n0_ := Aside0.mk (below_step (by repeat (first | (with_reducible first | exact HB.out | apply below_alloc | apply pw_below_drewN | apply below_drew1) | exact HB.out)) hb); clear HB; have HB := n0_; clear n0_; (try clear hb); (try clear hb2); (try clear hk); (try clear hi)) | ((with_reducible refine gate_callee (f := 48) rfl ?_); refine goesL_ (some 15) rfl rfl Tryz.func48 (by kernel_rfl) rfl #[.int .i64 (Int.tmod a0 10)] rfl (by (try simp only [List.map_toArray, List.map_cons, List.map_nil]); first | done | rfl | (simp only [List.length_drop, List.length_take]; rfl)) ?_; (with_reducible refine (ih k (by omega) (Int.tmod a0 10) t105 _ A7.out).mono ?_); rintro e w10 ⟨rfl, hb⟩; refine ⟨_, rfl, ?_⟩; have n0_ := Aside0.mk (below_step (by repeat (first | (with_reducible first | exact HB.out | apply below_alloc | apply pw_below_drewN | apply below_drew1) | exact HB.out)) hb); clear HB; have HB := n0_; clear n0_; (try clear hb); (try clear hb2); (try clear hk); (try clear hi)))
      go_ret
      exact ⟨by first | rfl | (simp [errW_none, errW_some] <;> rfl) | (simp [*, errW_none, errW_some] <;> rfl), by repeat (first | (with_reducible first | exact HB.out | apply below_alloc | apply pw_below_drewN | apply below_drew1) | exact HB.out)⟩
    · rw [if_neg c8] at H
      exact absurd H (by simp)

/-! ### qanatref04_padded: function 47 -/
def qanatref04_padded.l0 : Nat → Int → ByteArray → Option (ByteArray)
  | 0, _, _ => none
  | k + 1, x1, x5 => if (x5.size : Int) < x1 then (if 1 + x5.size ≤ 9223372036854775807 then (qanatref04_padded.l0 k x1 ((⟨#[48]⟩ : ByteArray) ++ x5)) else (none)) else (some x5)
def qanatref04_padded.f (k : Nat) (a0 : Int) (a1 : Int) : Option (ByteArray) := (qanatref04_text.f k a0).bind fun t106 => (qanatref04_padded.l0 k a1 t106)
theorem qanatref04_padded.mono_l : ∀ k, (∀ y0 y1, LeO (qanatref04_padded.l0 k y0 y1) (qanatref04_padded.l0 (k + 1) y0 y1))
  | 0 => fun _ _ r h => by simp [qanatref04_padded.l0] at h
  | k + 1 => by
    have ih0 := qanatref04_padded.mono_l k
    · intro y0 y1
      unfold qanatref04_padded.l0
      repeat' first
      | (with_reducible exact ih0 _ _)
      | (with_reducible exact qanatref04_text.mono _ _)
      | (with_reducible exact LeO.refl _)
      | (with_reducible exact LeO.none _)
      | (with_reducible refine LeO.ite ?_ ?_)
      | (with_reducible refine LeO.bind ?_ (fun _ => ?_))
      | exact ih0 _ _
      | exact qanatref04_text.mono _ _
      | exact LeO.none _
      | refine LeO.ite ?_ ?_
      | refine LeO.bind ?_ (fun _ => ?_)
theorem qanatref04_padded.mono : ∀ a0 a1 k, LeO (qanatref04_padded.f k a0 a1) (qanatref04_padded.f (k + 1) a0 a1) := by
  intro a0 a1 k
  have ih0 := qanatref04_padded.mono_l k
  unfold qanatref04_padded.f
  repeat' first
      | (with_reducible exact ih0 _ _)
      | (with_reducible exact qanatref04_text.mono _ _)
      | (with_reducible exact LeO.refl _)
      | (with_reducible exact LeO.none _)
      | (with_reducible refine LeO.ite ?_ ?_)
      | (with_reducible refine LeO.bind ?_ (fun _ => ?_))
      | exact ih0 _ _
      | exact qanatref04_text.mono _ _
      | exact LeO.none _
      | refine LeO.ite ?_ ?_
      | refine LeO.bind ?_ (fun _ => ?_)
set_option maxHeartbeats 8000000 in
set_option maxRecDepth 100000 in
theorem qanatref04_padded.calls (k : Nat) (a0 : Int) (a1 : Int) (r : ByteArray) (w : World) (h : qanatref04_padded.f k a0 a1 = some r) :
    Calls Tryz.prog 47 #[.int .i64 a0, .int .i64 a1] w fun e w' => e = .returned (.string r) ∧ Below w.heap.size w w' := by
  have HB := Aside0.mk (Below.refl w.heap.size w)
  have H : ((qanatref04_text.f k a0).bind fun t106 => (qanatref04_padded.l0 k a1 t106)) = some r := h
  clear h
  replace H := Option.bind_eq_some_iff.mp H
  obtain ⟨t106, A30, H⟩ := H
  replace H : (qanatref04_padded.l0 k a1 t106) = some r := H
  have A3 := Aside0.mk A30
  clear A30
  have H' := Aside0.mk H
  clear H
  go_enter Tryz.func47, Tryz.ntmps47
  go_wp2_with (first | ((with_reducible refine gate_callee (f := 48) rfl ?_); refine goesL_ (some 7) rfl rfl Tryz.func48 (by kernel_rfl) rfl #[.int .i64 a0] rfl (by (try simp only [List.map_toArray, List.map_cons, List.map_nil]); first | done | rfl | (simp only [List.length_drop, List.length_take]; rfl)) ?_; (with_reducible refine (qanatref04_text.calls k a0 t106 _ A3.out).mono ?_); rintro e w4 ⟨rfl, hb⟩; refine ⟨_, rfl, ?_⟩; have n0_ := Aside0.mk (below_step (by repeat (first | (with_reducible first | exact HB.out | apply below_alloc | apply pw_below_drewN | apply below_drew1) | exact HB.out)) hb); clear HB; have HB := n0_; clear n0_; (try clear hb); (try clear hb2); (try clear hk); (try clear hi)))
  go_loopg [5] k (fun kq v5 w' => ∃ (x5_1 : ByteArray), v5 = .string x5_1 ∧ Aside0 (qanatref04_padded.l0 kq a1 x5_1 = some r) ∧ Aside0 (kq ≤ k) ∧ Aside0 (Below w.heap.size w w'))
  case atStart => exact ⟨(t106), (by first | rfl | (simp; done) | (simp [*]; done)), H', ⟨Nat.le_refl _⟩, ⟨by repeat (first | (with_reducible first | exact HB.out | apply below_alloc | apply pw_below_drewN | apply below_drew1) | exact HB.out)⟩⟩
  case round =>
    clear H'
    try clear p2
    try clear c4
    obtain ⟨x5_1, rfl, HA, HK1, HB⟩ := hrel
    cases gk with
    | zero => exact absurd HA.out (by simp [qanatref04_padded.l0])
    | succ k1 =>
      have H := HA.out
      clear HA
      simp only [qanatref04_padded.l0] at H
      by_cases c5 : (x5_1.size : Int) < a1
      · rw [if_pos c5] at H
        have c5b0 : decide ((x5_1.size : Int) < a1) = true := decide_eq_true c5
        clear c5
        by_cases c6 : 1 + x5_1.size ≤ 9223372036854775807
        · rw [if_pos c6] at H
          have c6b0 := eq_true c6
          have c6b1 : decide (1 + x5_1.size ≤ 9223372036854775807) = true := decide_eq_true c6
          try have c6b2 : (9223372036854775807 < 1 + x5_1.size) = False := eq_false (Nat.not_lt.2 c6)
          try (have c6b3 := c6; simp only [ByteArray.size_append] at c6b3; have c6b4 := eq_false (Nat.not_lt.2 c6b3); try (have c6b5 := c6b3; simp only [ByteArray.size_extract, Nat.sub_zero] at c6b5; have c6b6 := eq_false (Nat.not_lt.2 c6b5)))
          have H' := Aside0.mk H
          clear H
          go_wp2
          go_roundg k1
          case measure => have := HK1.out; omega
          case rel => exact ⟨((⟨#[48]⟩ : ByteArray) ++ x5_1), (by first | rfl | (simp; done) | (simp [*]; done)), H', ⟨by have := HK1.out; omega⟩, ⟨by repeat (first | (with_reducible first | exact HB.out | apply below_alloc | apply pw_below_drewN | apply below_drew1) | exact HB.out)⟩⟩
        · rw [if_neg c6] at H
          exact absurd H (by simp)
      · rw [if_neg c5] at H
        have c5b0 : decide ((x5_1.size : Int) < a1) = false := decide_eq_false c5
        clear c5
        obtain rfl := Option.some.inj H
        go_wp2
        go_ret
        exact ⟨by first | rfl | (simp [errW_none, errW_some] <;> rfl) | (simp [*, errW_none, errW_some] <;> rfl), by repeat (first | (with_reducible first | exact HB.out | apply below_alloc | apply pw_below_drewN | apply below_drew1) | exact HB.out)⟩

/-! ### qanatref04_Time: function 19 -/
def qanatref04_Time.j0 : Nat → Int → Int → Bool → Option (ByteArray × Int)
  | 0, _, _, _ => none
  | k + 1, x0, x1, x15 => if x15 = true then (some ((⟨#[]⟩ : ByteArray), 1)) else ((qanatref04_padded.f k (wrap64 (Int.tdiv (wrap64 (Int.tdiv (wrap64 (Int.tdiv x0 1000000)) 60)) 60)) 2).bind fun t108 => (if t108.size + 1 ≤ 9223372036854775807 then ((qanatref04_padded.f k (Int.tmod (wrap64 (Int.tdiv (wrap64 (Int.tdiv x0 1000000)) 60)) 60) 2).bind fun t109 => (if (t108 ++ (⟨#[58]⟩ : ByteArray)).size + t109.size ≤ 9223372036854775807 then (if ((t108 ++ (⟨#[58]⟩ : ByteArray)) ++ t109).size + 1 ≤ 9223372036854775807 then ((qanatref04_padded.f k (Int.tmod (wrap64 (Int.tdiv x0 1000000)) 60) 2).bind fun t110 => (if (((t108 ++ (⟨#[58]⟩ : ByteArray)) ++ t109) ++ (⟨#[58]⟩ : ByteArray)).size + t110.size ≤ 9223372036854775807 then (if x1 = 67 then (if (wrap64 (Int.tdiv (wrap64 (Int.tdiv (wrap64 (Int.tdiv x0 1000000)) 60)) 60)) ≥ 12 then ((qanatref04_text.f k (wrap64 ((Int.tmod (wrap64 ((wrap64 (Int.tdiv (wrap64 (Int.tdiv (wrap64 (Int.tdiv x0 1000000)) 60)) 60)) + 11)) 12) + 1))).bind fun t111 => (if t111.size + 1 ≤ 9223372036854775807 then ((qanatref04_padded.f k (Int.tmod (wrap64 (Int.tdiv (wrap64 (Int.tdiv x0 1000000)) 60)) 60) 2).bind fun t112 => (if (t111 ++ (⟨#[58]⟩ : ByteArray)).size + t112.size ≤ 9223372036854775807 then (if ((t111 ++ (⟨#[58]⟩ : ByteArray)) ++ t112).size + 2 ≤ 9223372036854775807 then (some (((t111 ++ (⟨#[58]⟩ : ByteArray)) ++ t112) ++ (⟨#[112, 109]⟩ : ByteArray), 0)) else (none)) else (none))) else (none))) else ((qanatref04_text.f k (wrap64 ((Int.tmod (wrap64 ((wrap64 (Int.tdiv (wrap64 (Int.tdiv (wrap64 (Int.tdiv x0 1000000)) 60)) 60)) + 11)) 12) + 1))).bind fun t113 => (if t113.size + 1 ≤ 9223372036854775807 then ((qanatref04_padded.f k (Int.tmod (wrap64 (Int.tdiv (wrap64 (Int.tdiv x0 1000000)) 60)) 60) 2).bind fun t114 => (if (t113 ++ (⟨#[58]⟩ : ByteArray)).size + t114.size ≤ 9223372036854775807 then (if ((t113 ++ (⟨#[58]⟩ : ByteArray)) ++ t114).size + 2 ≤ 9223372036854775807 then (some (((t113 ++ (⟨#[58]⟩ : ByteArray)) ++ t114) ++ (⟨#[97, 109]⟩ : ByteArray), 0)) else (none)) else (none))) else (none)))) else (if x1 = 70 then ((qanatref04_text.f k x0).bind fun t115 => (some (t115, 0))) else (if x1 = 72 then ((qanatref04_text.f k (wrap64 (Int.tdiv (wrap64 (Int.tdiv (wrap64 (Int.tdiv x0 1000000)) 60)) 60))).bind fun t116 => (some (t116, 0))) else (if x1 = 76 then (if ((((t108 ++ (⟨#[58]⟩ : ByteArray)) ++ t109) ++ (⟨#[58]⟩ : ByteArray)) ++ t110).size + 1 ≤ 9223372036854775807 then ((qanatref04_padded.f k (Int.tmod x0 1000000) 6).bind fun t117 => (if (((((t108 ++ (⟨#[58]⟩ : ByteArray)) ++ t109) ++ (⟨#[58]⟩ : ByteArray)) ++ t110) ++ (⟨#[46]⟩ : ByteArray)).size + t117.size ≤ 9223372036854775807 then (some ((((((t108 ++ (⟨#[58]⟩ : ByteArray)) ++ t109) ++ (⟨#[58]⟩ : ByteArray)) ++ t110) ++ (⟨#[46]⟩ : ByteArray)) ++ t117, 0)) else (none))) else (none)) else (if x1 = 77 then ((qanatref04_text.f k (wrap64 (Int.tdiv (wrap64 (Int.tdiv x0 1000000)) 60))).bind fun t118 => (some (t118, 0))) else (if x1 = 78 then (some ((((t108 ++ (⟨#[58]⟩ : ByteArray)) ++ t109) ++ (⟨#[58]⟩ : ByteArray)) ++ t110, 0)) else (if x1 = 83 then ((qanatref04_text.f k (wrap64 (Int.tdiv x0 1000000))).bind fun t119 => (some (t119, 0))) else (some ((⟨#[]⟩ : ByteArray), 1))))))))) else (none))) else (none)) else (none))) else (none)))
def qanatref04_Time.f (k : Nat) (a0 : Int) (a1 : Int) : Option (ByteArray × Int) := if a0 < 0 then (qanatref04_Time.j0 k a0 a1 true) else (qanatref04_Time.j0 k a0 a1 (decide (a0 ≥ 86400000000)))
theorem qanatref04_Time.mono_l : ∀ k, (∀ y0 y1 y2, LeO (qanatref04_Time.j0 k y0 y1 y2) (qanatref04_Time.j0 (k + 1) y0 y1 y2))
  | 0 => fun _ _ _ r h => by simp [qanatref04_Time.j0] at h
  | k + 1 => by
    have ih0 := qanatref04_Time.mono_l k
    · intro y0 y1 y2
      unfold qanatref04_Time.j0
      repeat' first
      | (with_reducible exact ih0 _ _ _)
      | (with_reducible exact qanatref04_padded.mono _ _ _)
      | (with_reducible exact qanatref04_text.mono _ _)
      | (with_reducible exact LeO.refl _)
      | (with_reducible exact LeO.none _)
      | (with_reducible refine LeO.ite ?_ ?_)
      | (with_reducible refine LeO.bind ?_ (fun _ => ?_))
      | exact ih0 _ _ _
      | exact qanatref04_padded.mono _ _ _
      | exact qanatref04_text.mono _ _
      | exact LeO.none _
      | refine LeO.ite ?_ ?_
      | refine LeO.bind ?_ (fun _ => ?_)
theorem qanatref04_Time.mono : ∀ a0 a1 k, LeO (qanatref04_Time.f k a0 a1) (qanatref04_Time.f (k + 1) a0 a1) := by
  intro a0 a1 k
  have ih0 := qanatref04_Time.mono_l k
  unfold qanatref04_Time.f
  repeat' first
      | (with_reducible exact ih0 _ _ _)
      | (with_reducible exact qanatref04_padded.mono _ _ _)
      | (with_reducible exact qanatref04_text.mono _ _)
      | (with_reducible exact LeO.refl _)
      | (with_reducible exact LeO.none _)
      | (with_reducible refine LeO.ite ?_ ?_)
      | (with_reducible refine LeO.bind ?_ (fun _ => ?_))
      | exact ih0 _ _ _
      | exact qanatref04_padded.mono _ _ _
      | exact qanatref04_text.mono _ _
      | exact LeO.none _
      | refine LeO.ite ?_ ?_
      | refine LeO.bind ?_ (fun _ => ?_)
set_option maxHeartbeats 8000000 in
set_option maxRecDepth 100000 in
theorem qanatref04_Time.calls (k : Nat) (a0 : Int) (a1 : Int) (r1 : ByteArray) (r2 : Int) (w : World) (h : qanatref04_Time.f k a0 a1 = some (r1, r2)) :
    Calls Tryz.prog 19 #[.int .i64 a0, .int .u8 a1] w fun e w' => e = .returned (.agg #[.string r1, .int .i64 r2]) ∧ Below w.heap.size w w' := by
  have hu27 := Tryz.underlying27
  have HB := Aside0.mk (Below.refl w.heap.size w)
  have H : (if a0 < 0 then (qanatref04_Time.j0 k a0 a1 true) else (qanatref04_Time.j0 k a0 a1 (decide (a0 ≥ 86400000000)))) = some (r1, r2) := h
  clear h
  have HC3 := Aside0.mk H
  clear H
  go_enter Tryz.func19, Tryz.ntmps19
  go_upto_region 1 with (first | ((with_reducible refine gate_dst (N := 4) rfl ?_); refine box_event ?hg (N := 4) ?hd (cs := #[.string (⟨#[]⟩ : ByteArray), .int .i64 0]) (t := 27) ?hr ?_; (case hd => rfl); (case hg => rfl); (case hr => first | (go_simp; done) | (go_simp; rfl)); intro gb107 hg w4 hbox hb; have n0_ := Aside0.mk (below_step (by repeat (first | (with_reducible first | exact HB.out | apply below_alloc | apply pw_below_drewN | apply below_drew1) | exact HB.out)) hb); have n1_ := Aside0.mk (hbox); have n2_ := Aside0.mk ((by rw [hg]; exact (below_size (by repeat (first | (with_reducible first | exact HB.out | apply below_alloc | apply pw_below_drewN | apply below_drew1) | exact HB.out))) : w.heap.size ≤ gb107)); have n3_ := Aside0.mk ((by rw [hg]; exact (below_size (by repeat (first | (with_reducible first | exact HB.out | apply below_alloc | apply pw_below_drewN | apply below_drew1) | exact HB.out))) : w.heap.size ≤ gb107)); clear HB; have HB := n0_; have BK107 := n1_; have GW107 := n2_; have GE107 := n3_; clear n0_ n1_ n2_ n3_; clear hb hbox hg))
  (try simp only [Act.put, List.setIfInBounds_toArray, List.set_cons_zero, List.set_cons_succ])
  go_cut [15] (fun v15 wc => ∃ (kq : Nat) (x15_2 : Bool), v15 = .bool x15_2 ∧ Aside0 (qanatref04_Time.j0 kq a0 a1 x15_2 = some (r1, r2)) ∧ Aside0 (kq ≤ k) ∧ Aside0 (wc.heap[gb107]? = some (.cells #[.string (⟨#[]⟩ : ByteArray), .int .i64 0] 27 (0, 0))) ∧ Aside0 (Below w.heap.size w wc))
  case first =>
    have H := HC3.out
    clear HC3
    by_cases c5 : a0 < 0
    · rw [if_pos c5] at H
      have c5b0 : decide (a0 < 0) = true := decide_eq_true c5
      clear c5
      (first | rw [c5b0] | (simp only [i64_w, i32_w]; rw [c5b0]) | skip)
      have H' := Aside0.mk H
      clear H
      go_wp2
      go_meet
      case rel => exact ⟨_, (true), (by first | rfl | (simp; done) | (simp [*]; done)), H', ⟨by first | omega | exact Nat.le_refl _⟩, ⟨by (with_reducible repeat (first | refine blk_drewN ?_ _ | refine blk_drew ?_ | refine blk_alloc ?_ _)); exact BK107.out⟩, ⟨by repeat (first | (with_reducible first | exact HB.out | apply below_alloc | apply pw_below_drewN | apply below_drew1 | refine below_set ?_ GE107.out) | exact HB.out)⟩⟩
    · rw [if_neg c5] at H
      have c5b0 : decide (a0 < 0) = false := decide_eq_false c5
      clear c5
      (first | rw [c5b0] | (simp only [i64_w, i32_w]; rw [c5b0]) | skip)
      have H' := Aside0.mk H
      clear H
      go_wp2
      go_meet
      case rel => exact ⟨_, (decide (a0 ≥ 86400000000)), (by first | rfl | (simp; done) | (simp [*]; done)), H', ⟨by first | omega | exact Nat.le_refl _⟩, ⟨by (with_reducible repeat (first | refine blk_drewN ?_ _ | refine blk_drew ?_ | refine blk_alloc ?_ _)); exact BK107.out⟩, ⟨by repeat (first | (with_reducible first | exact HB.out | apply below_alloc | apply pw_below_drewN | apply below_drew1 | refine below_set ?_ GE107.out) | exact HB.out)⟩⟩
  case rest =>
    clear HC3
    try clear c1
    try clear p2
    try clear c5
    try clear c5b0
    obtain ⟨kq, x15_2, rfl, HA, HJ2, BK107, HB⟩ := hcut
    cases kq with
    | zero => exact absurd HA.out (by simp [qanatref04_Time.j0])
    | succ kj2 =>
      have H := HA.out
      clear HA
      simp only [qanatref04_Time.j0] at H
      by_cases c6 : x15_2 = true
      · subst c6
        have H1 : (some ((⟨#[]⟩ : ByteArray), 1)) = some (r1, r2) := by rw [if_pos rfl] at H; exact H
        clear H
        have H := H1
        clear H1
        simp only [Option.some.injEq, Prod.mk.injEq] at H
        obtain ⟨rfl, rfl⟩ := H
        have hcz7_0 : wc.cell? ⟨gb107, 0, none⟩ = some (.string (⟨#[]⟩ : ByteArray)) := (blk_cell BK107.out 0).trans rfl
        have hcz7_1 : wc.cell? ⟨gb107, 1, none⟩ = some (.int .i64 0) := (blk_cell BK107.out 1).trans rfl
        have hfz7_0 := blk_frozen BK107.out 0
        have hfz7_1 := blk_frozen BK107.out 1
        go_wp2
        refine bodyPost_ret (results_cell_row rfl _ _ gb107 27 #[.string (⟨#[]⟩ : ByteArray), .int .i64 1] (0, 0) _ rfl (by (with_reducible repeat (first | refine blk_drewN ?_ _ | refine blk_drew ?_ | refine blk_alloc ?_ _)); refine blk_put (cs := #[.string (⟨#[]⟩ : ByteArray), .int .i64 0]) ?_ 1 _ rfl; (with_reducible repeat (first | refine blk_drewN ?_ _ | refine blk_drew ?_ | refine blk_alloc ?_ _)); refine blk_put (cs := #[.string (⟨#[]⟩ : ByteArray), .int .i64 0]) ?_ 0 _ rfl; (with_reducible repeat (first | refine blk_drewN ?_ _ | refine blk_drew ?_ | refine blk_alloc ?_ _)); exact BK107.out) Tryz.underlying27 rfl (by kernel_rfl)) rfl ?_
        exact ⟨by first | rfl | (simp [errW_none, errW_some] <;> rfl) | (simp [*, errW_none, errW_some] <;> rfl), by repeat (first | (with_reducible first | exact HB.out | apply below_alloc | apply pw_below_drewN | apply below_drew1 | refine below_set ?_ GE107.out) | exact HB.out)⟩
      · replace c6 := Bool.eq_false_iff.mpr c6
        subst c6
        have H1 : ((qanatref04_padded.f kj2 (wrap64 (Int.tdiv (wrap64 (Int.tdiv (wrap64 (Int.tdiv a0 1000000)) 60)) 60)) 2).bind fun t108 => (if t108.size + 1 ≤ 9223372036854775807 then ((qanatref04_padded.f kj2 (Int.tmod (wrap64 (Int.tdiv (wrap64 (Int.tdiv a0 1000000)) 60)) 60) 2).bind fun t109 => (if (t108 ++ (⟨#[58]⟩ : ByteArray)).size + t109.size ≤ 9223372036854775807 then (if ((t108 ++ (⟨#[58]⟩ : ByteArray)) ++ t109).size + 1 ≤ 9223372036854775807 then ((qanatref04_padded.f kj2 (Int.tmod (wrap64 (Int.tdiv a0 1000000)) 60) 2).bind fun t110 => (if (((t108 ++ (⟨#[58]⟩ : ByteArray)) ++ t109) ++ (⟨#[58]⟩ : ByteArray)).size + t110.size ≤ 9223372036854775807 then (if a1 = 67 then (if (wrap64 (Int.tdiv (wrap64 (Int.tdiv (wrap64 (Int.tdiv a0 1000000)) 60)) 60)) ≥ 12 then ((qanatref04_text.f kj2 (wrap64 ((Int.tmod (wrap64 ((wrap64 (Int.tdiv (wrap64 (Int.tdiv (wrap64 (Int.tdiv a0 1000000)) 60)) 60)) + 11)) 12) + 1))).bind fun t111 => (if t111.size + 1 ≤ 9223372036854775807 then ((qanatref04_padded.f kj2 (Int.tmod (wrap64 (Int.tdiv (wrap64 (Int.tdiv a0 1000000)) 60)) 60) 2).bind fun t112 => (if (t111 ++ (⟨#[58]⟩ : ByteArray)).size + t112.size ≤ 9223372036854775807 then (if ((t111 ++ (⟨#[58]⟩ : ByteArray)) ++ t112).size + 2 ≤ 9223372036854775807 then (some (((t111 ++ (⟨#[58]⟩ : ByteArray)) ++ t112) ++ (⟨#[112, 109]⟩ : ByteArray), 0)) else (none)) else (none))) else (none))) else ((qanatref04_text.f kj2 (wrap64 ((Int.tmod (wrap64 ((wrap64 (Int.tdiv (wrap64 (Int.tdiv (wrap64 (Int.tdiv a0 1000000)) 60)) 60)) + 11)) 12) + 1))).bind fun t113 => (if t113.size + 1 ≤ 9223372036854775807 then ((qanatref04_padded.f kj2 (Int.tmod (wrap64 (Int.tdiv (wrap64 (Int.tdiv a0 1000000)) 60)) 60) 2).bind fun t114 => (if (t113 ++ (⟨#[58]⟩ : ByteArray)).size + t114.size ≤ 9223372036854775807 then (if ((t113 ++ (⟨#[58]⟩ : ByteArray)) ++ t114).size + 2 ≤ 9223372036854775807 then (some (((t113 ++ (⟨#[58]⟩ : ByteArray)) ++ t114) ++ (⟨#[97, 109]⟩ : ByteArray), 0)) else (none)) else (none))) else (none)))) else (if a1 = 70 then ((qanatref04_text.f kj2 a0).bind fun t115 => (some (t115, 0))) else (if a1 = 72 then ((qanatref04_text.f kj2 (wrap64 (Int.tdiv (wrap64 (Int.tdiv (wrap64 (Int.tdiv a0 1000000)) 60)) 60))).bind fun t116 => (some (t116, 0))) else (if a1 = 76 then (if ((((t108 ++ (⟨#[58]⟩ : ByteArray)) ++ t109) ++ (⟨#[58]⟩ : ByteArray)) ++ t110).size + 1 ≤ 9223372036854775807 then ((qanatref04_padded.f kj2 (Int.tmod a0 1000000) 6).bind fun t117 => (if (((((t108 ++ (⟨#[58]⟩ : ByteArray)) ++ t109) ++ (⟨#[58]⟩ : ByteArray)) ++ t110) ++ (⟨#[46]⟩ : ByteArray)).size + t117.size ≤ 9223372036854775807 then (some ((((((t108 ++ (⟨#[58]⟩ : ByteArray)) ++ t109) ++ (⟨#[58]⟩ : ByteArray)) ++ t110) ++ (⟨#[46]⟩ : ByteArray)) ++ t117, 0)) else (none))) else (none)) else (if a1 = 77 then ((qanatref04_text.f kj2 (wrap64 (Int.tdiv (wrap64 (Int.tdiv a0 1000000)) 60))).bind fun t118 => (some (t118, 0))) else (if a1 = 78 then (some ((((t108 ++ (⟨#[58]⟩ : ByteArray)) ++ t109) ++ (⟨#[58]⟩ : ByteArray)) ++ t110, 0)) else (if a1 = 83 then ((qanatref04_text.f kj2 (wrap64 (Int.tdiv a0 1000000))).bind fun t119 => (some (t119, 0))) else (some ((⟨#[]⟩ : ByteArray), 1))))))))) else (none))) else (none)) else (none))) else (none))) = some (r1, r2) := by rw [if_neg (show ¬ (false = true) by decide)] at H; exact H
        clear H
        have H := H1
        clear H1
        replace H := Option.bind_eq_some_iff.mp H
        obtain ⟨t108, A80, H⟩ := H
        replace H : (if t108.size + 1 ≤ 9223372036854775807 then ((qanatref04_padded.f kj2 (Int.tmod (wrap64 (Int.tdiv (wrap64 (Int.tdiv a0 1000000)) 60)) 60) 2).bind fun t109 => (if (t108 ++ (⟨#[58]⟩ : ByteArray)).size + t109.size ≤ 9223372036854775807 then (if ((t108 ++ (⟨#[58]⟩ : ByteArray)) ++ t109).size + 1 ≤ 9223372036854775807 then ((qanatref04_padded.f kj2 (Int.tmod (wrap64 (Int.tdiv a0 1000000)) 60) 2).bind fun t110 => (if (((t108 ++ (⟨#[58]⟩ : ByteArray)) ++ t109) ++ (⟨#[58]⟩ : ByteArray)).size + t110.size ≤ 9223372036854775807 then (if a1 = 67 then (if (wrap64 (Int.tdiv (wrap64 (Int.tdiv (wrap64 (Int.tdiv a0 1000000)) 60)) 60)) ≥ 12 then ((qanatref04_text.f kj2 (wrap64 ((Int.tmod (wrap64 ((wrap64 (Int.tdiv (wrap64 (Int.tdiv (wrap64 (Int.tdiv a0 1000000)) 60)) 60)) + 11)) 12) + 1))).bind fun t111 => (if t111.size + 1 ≤ 9223372036854775807 then ((qanatref04_padded.f kj2 (Int.tmod (wrap64 (Int.tdiv (wrap64 (Int.tdiv a0 1000000)) 60)) 60) 2).bind fun t112 => (if (t111 ++ (⟨#[58]⟩ : ByteArray)).size + t112.size ≤ 9223372036854775807 then (if ((t111 ++ (⟨#[58]⟩ : ByteArray)) ++ t112).size + 2 ≤ 9223372036854775807 then (some (((t111 ++ (⟨#[58]⟩ : ByteArray)) ++ t112) ++ (⟨#[112, 109]⟩ : ByteArray), 0)) else (none)) else (none))) else (none))) else ((qanatref04_text.f kj2 (wrap64 ((Int.tmod (wrap64 ((wrap64 (Int.tdiv (wrap64 (Int.tdiv (wrap64 (Int.tdiv a0 1000000)) 60)) 60)) + 11)) 12) + 1))).bind fun t113 => (if t113.size + 1 ≤ 9223372036854775807 then ((qanatref04_padded.f kj2 (Int.tmod (wrap64 (Int.tdiv (wrap64 (Int.tdiv a0 1000000)) 60)) 60) 2).bind fun t114 => (if (t113 ++ (⟨#[58]⟩ : ByteArray)).size + t114.size ≤ 9223372036854775807 then (if ((t113 ++ (⟨#[58]⟩ : ByteArray)) ++ t114).size + 2 ≤ 9223372036854775807 then (some (((t113 ++ (⟨#[58]⟩ : ByteArray)) ++ t114) ++ (⟨#[97, 109]⟩ : ByteArray), 0)) else (none)) else (none))) else (none)))) else (if a1 = 70 then ((qanatref04_text.f kj2 a0).bind fun t115 => (some (t115, 0))) else (if a1 = 72 then ((qanatref04_text.f kj2 (wrap64 (Int.tdiv (wrap64 (Int.tdiv (wrap64 (Int.tdiv a0 1000000)) 60)) 60))).bind fun t116 => (some (t116, 0))) else (if a1 = 76 then (if ((((t108 ++ (⟨#[58]⟩ : ByteArray)) ++ t109) ++ (⟨#[58]⟩ : ByteArray)) ++ t110).size + 1 ≤ 9223372036854775807 then ((qanatref04_padded.f kj2 (Int.tmod a0 1000000) 6).bind fun t117 => (if (((((t108 ++ (⟨#[58]⟩ : ByteArray)) ++ t109) ++ (⟨#[58]⟩ : ByteArray)) ++ t110) ++ (⟨#[46]⟩ : ByteArray)).size + t117.size ≤ 9223372036854775807 then (some ((((((t108 ++ (⟨#[58]⟩ : ByteArray)) ++ t109) ++ (⟨#[58]⟩ : ByteArray)) ++ t110) ++ (⟨#[46]⟩ : ByteArray)) ++ t117, 0)) else (none))) else (none)) else (if a1 = 77 then ((qanatref04_text.f kj2 (wrap64 (Int.tdiv (wrap64 (Int.tdiv a0 1000000)) 60))).bind fun t118 => (some (t118, 0))) else (if a1 = 78 then (some ((((t108 ++ (⟨#[58]⟩ : ByteArray)) ++ t109) ++ (⟨#[58]⟩ : ByteArray)) ++ t110, 0)) else (if a1 = 83 then ((qanatref04_text.f kj2 (wrap64 (Int.tdiv a0 1000000))).bind fun t119 => (some (t119, 0))) else (some ((⟨#[]⟩ : ByteArray), 1))))))))) else (none))) else (none)) else (none))) else (none)) = some (r1, r2) := H
        have A8 := Aside0.mk A80
        clear A80
        by_cases c9 : t108.size + 1 ≤ 9223372036854775807
        · rw [if_pos c9] at H
          have c9b0 := eq_true c9
          have c9b1 : decide (t108.size + 1 ≤ 9223372036854775807) = true := decide_eq_true c9
          try have c9b2 : (9223372036854775807 < t108.size + 1) = False := eq_false (Nat.not_lt.2 c9)
          try (have c9b3 := c9; simp only [ByteArray.size_append] at c9b3; have c9b4 := eq_false (Nat.not_lt.2 c9b3); try (have c9b5 := c9b3; simp only [ByteArray.size_extract, Nat.sub_zero] at c9b5; have c9b6 := eq_false (Nat.not_lt.2 c9b5)))
          replace H := Option.bind_eq_some_iff.mp H
          obtain ⟨t109, A100, H⟩ := H
          replace H : (if (t108 ++ (⟨#[58]⟩ : ByteArray)).size + t109.size ≤ 9223372036854775807 then (if ((t108 ++ (⟨#[58]⟩ : ByteArray)) ++ t109).size + 1 ≤ 9223372036854775807 then ((qanatref04_padded.f kj2 (Int.tmod (wrap64 (Int.tdiv a0 1000000)) 60) 2).bind fun t110 => (if (((t108 ++ (⟨#[58]⟩ : ByteArray)) ++ t109) ++ (⟨#[58]⟩ : ByteArray)).size + t110.size ≤ 9223372036854775807 then (if a1 = 67 then (if (wrap64 (Int.tdiv (wrap64 (Int.tdiv (wrap64 (Int.tdiv a0 1000000)) 60)) 60)) ≥ 12 then ((qanatref04_text.f kj2 (wrap64 ((Int.tmod (wrap64 ((wrap64 (Int.tdiv (wrap64 (Int.tdiv (wrap64 (Int.tdiv a0 1000000)) 60)) 60)) + 11)) 12) + 1))).bind fun t111 => (if t111.size + 1 ≤ 9223372036854775807 then ((qanatref04_padded.f kj2 (Int.tmod (wrap64 (Int.tdiv (wrap64 (Int.tdiv a0 1000000)) 60)) 60) 2).bind fun t112 => (if (t111 ++ (⟨#[58]⟩ : ByteArray)).size + t112.size ≤ 9223372036854775807 then (if ((t111 ++ (⟨#[58]⟩ : ByteArray)) ++ t112).size + 2 ≤ 9223372036854775807 then (some (((t111 ++ (⟨#[58]⟩ : ByteArray)) ++ t112) ++ (⟨#[112, 109]⟩ : ByteArray), 0)) else (none)) else (none))) else (none))) else ((qanatref04_text.f kj2 (wrap64 ((Int.tmod (wrap64 ((wrap64 (Int.tdiv (wrap64 (Int.tdiv (wrap64 (Int.tdiv a0 1000000)) 60)) 60)) + 11)) 12) + 1))).bind fun t113 => (if t113.size + 1 ≤ 9223372036854775807 then ((qanatref04_padded.f kj2 (Int.tmod (wrap64 (Int.tdiv (wrap64 (Int.tdiv a0 1000000)) 60)) 60) 2).bind fun t114 => (if (t113 ++ (⟨#[58]⟩ : ByteArray)).size + t114.size ≤ 9223372036854775807 then (if ((t113 ++ (⟨#[58]⟩ : ByteArray)) ++ t114).size + 2 ≤ 9223372036854775807 then (some (((t113 ++ (⟨#[58]⟩ : ByteArray)) ++ t114) ++ (⟨#[97, 109]⟩ : ByteArray), 0)) else (none)) else (none))) else (none)))) else (if a1 = 70 then ((qanatref04_text.f kj2 a0).bind fun t115 => (some (t115, 0))) else (if a1 = 72 then ((qanatref04_text.f kj2 (wrap64 (Int.tdiv (wrap64 (Int.tdiv (wrap64 (Int.tdiv a0 1000000)) 60)) 60))).bind fun t116 => (some (t116, 0))) else (if a1 = 76 then (if ((((t108 ++ (⟨#[58]⟩ : ByteArray)) ++ t109) ++ (⟨#[58]⟩ : ByteArray)) ++ t110).size + 1 ≤ 9223372036854775807 then ((qanatref04_padded.f kj2 (Int.tmod a0 1000000) 6).bind fun t117 => (if (((((t108 ++ (⟨#[58]⟩ : ByteArray)) ++ t109) ++ (⟨#[58]⟩ : ByteArray)) ++ t110) ++ (⟨#[46]⟩ : ByteArray)).size + t117.size ≤ 9223372036854775807 then (some ((((((t108 ++ (⟨#[58]⟩ : ByteArray)) ++ t109) ++ (⟨#[58]⟩ : ByteArray)) ++ t110) ++ (⟨#[46]⟩ : ByteArray)) ++ t117, 0)) else (none))) else (none)) else (if a1 = 77 then ((qanatref04_text.f kj2 (wrap64 (Int.tdiv (wrap64 (Int.tdiv a0 1000000)) 60))).bind fun t118 => (some (t118, 0))) else (if a1 = 78 then (some ((((t108 ++ (⟨#[58]⟩ : ByteArray)) ++ t109) ++ (⟨#[58]⟩ : ByteArray)) ++ t110, 0)) else (if a1 = 83 then ((qanatref04_text.f kj2 (wrap64 (Int.tdiv a0 1000000))).bind fun t119 => (some (t119, 0))) else (some ((⟨#[]⟩ : ByteArray), 1))))))))) else (none))) else (none)) else (none)) = some (r1, r2) := H
          have A10 := Aside0.mk A100
          clear A100
          by_cases c11 : (t108 ++ (⟨#[58]⟩ : ByteArray)).size + t109.size ≤ 9223372036854775807
          · rw [if_pos c11] at H
            have c11b0 := eq_true c11
            have c11b1 : decide ((t108 ++ (⟨#[58]⟩ : ByteArray)).size + t109.size ≤ 9223372036854775807) = true := decide_eq_true c11
            try have c11b2 : (9223372036854775807 < (t108 ++ (⟨#[58]⟩ : ByteArray)).size + t109.size) = False := eq_false (Nat.not_lt.2 c11)
            try (have c11b3 := c11; simp only [ByteArray.size_append, show (⟨#[58]⟩ : ByteArray).size = 1 from rfl] at c11b3; have c11b4 := eq_false (Nat.not_lt.2 c11b3); try (have c11b5 := c11b3; simp only [ByteArray.size_extract, Nat.sub_zero] at c11b5; have c11b6 := eq_false (Nat.not_lt.2 c11b5)))
            by_cases c12 : ((t108 ++ (⟨#[58]⟩ : ByteArray)) ++ t109).size + 1 ≤ 9223372036854775807
            · rw [if_pos c12] at H
              have c12b0 := eq_true c12
              have c12b1 : decide (((t108 ++ (⟨#[58]⟩ : ByteArray)) ++ t109).size + 1 ≤ 9223372036854775807) = true := decide_eq_true c12
              try have c12b2 : (9223372036854775807 < ((t108 ++ (⟨#[58]⟩ : ByteArray)) ++ t109).size + 1) = False := eq_false (Nat.not_lt.2 c12)
              try (have c12b3 := c12; simp only [ByteArray.size_append, show (⟨#[58]⟩ : ByteArray).size = 1 from rfl] at c12b3; have c12b4 := eq_false (Nat.not_lt.2 c12b3); try (have c12b5 := c12b3; simp only [ByteArray.size_extract, Nat.sub_zero] at c12b5; have c12b6 := eq_false (Nat.not_lt.2 c12b5)))
              replace H := Option.bind_eq_some_iff.mp H
              obtain ⟨t110, A130, H⟩ := H
              replace H : (if (((t108 ++ (⟨#[58]⟩ : ByteArray)) ++ t109) ++ (⟨#[58]⟩ : ByteArray)).size + t110.size ≤ 9223372036854775807 then (if a1 = 67 then (if (wrap64 (Int.tdiv (wrap64 (Int.tdiv (wrap64 (Int.tdiv a0 1000000)) 60)) 60)) ≥ 12 then ((qanatref04_text.f kj2 (wrap64 ((Int.tmod (wrap64 ((wrap64 (Int.tdiv (wrap64 (Int.tdiv (wrap64 (Int.tdiv a0 1000000)) 60)) 60)) + 11)) 12) + 1))).bind fun t111 => (if t111.size + 1 ≤ 9223372036854775807 then ((qanatref04_padded.f kj2 (Int.tmod (wrap64 (Int.tdiv (wrap64 (Int.tdiv a0 1000000)) 60)) 60) 2).bind fun t112 => (if (t111 ++ (⟨#[58]⟩ : ByteArray)).size + t112.size ≤ 9223372036854775807 then (if ((t111 ++ (⟨#[58]⟩ : ByteArray)) ++ t112).size + 2 ≤ 9223372036854775807 then (some (((t111 ++ (⟨#[58]⟩ : ByteArray)) ++ t112) ++ (⟨#[112, 109]⟩ : ByteArray), 0)) else (none)) else (none))) else (none))) else ((qanatref04_text.f kj2 (wrap64 ((Int.tmod (wrap64 ((wrap64 (Int.tdiv (wrap64 (Int.tdiv (wrap64 (Int.tdiv a0 1000000)) 60)) 60)) + 11)) 12) + 1))).bind fun t113 => (if t113.size + 1 ≤ 9223372036854775807 then ((qanatref04_padded.f kj2 (Int.tmod (wrap64 (Int.tdiv (wrap64 (Int.tdiv a0 1000000)) 60)) 60) 2).bind fun t114 => (if (t113 ++ (⟨#[58]⟩ : ByteArray)).size + t114.size ≤ 9223372036854775807 then (if ((t113 ++ (⟨#[58]⟩ : ByteArray)) ++ t114).size + 2 ≤ 9223372036854775807 then (some (((t113 ++ (⟨#[58]⟩ : ByteArray)) ++ t114) ++ (⟨#[97, 109]⟩ : ByteArray), 0)) else (none)) else (none))) else (none)))) else (if a1 = 70 then ((qanatref04_text.f kj2 a0).bind fun t115 => (some (t115, 0))) else (if a1 = 72 then ((qanatref04_text.f kj2 (wrap64 (Int.tdiv (wrap64 (Int.tdiv (wrap64 (Int.tdiv a0 1000000)) 60)) 60))).bind fun t116 => (some (t116, 0))) else (if a1 = 76 then (if ((((t108 ++ (⟨#[58]⟩ : ByteArray)) ++ t109) ++ (⟨#[58]⟩ : ByteArray)) ++ t110).size + 1 ≤ 9223372036854775807 then ((qanatref04_padded.f kj2 (Int.tmod a0 1000000) 6).bind fun t117 => (if (((((t108 ++ (⟨#[58]⟩ : ByteArray)) ++ t109) ++ (⟨#[58]⟩ : ByteArray)) ++ t110) ++ (⟨#[46]⟩ : ByteArray)).size + t117.size ≤ 9223372036854775807 then (some ((((((t108 ++ (⟨#[58]⟩ : ByteArray)) ++ t109) ++ (⟨#[58]⟩ : ByteArray)) ++ t110) ++ (⟨#[46]⟩ : ByteArray)) ++ t117, 0)) else (none))) else (none)) else (if a1 = 77 then ((qanatref04_text.f kj2 (wrap64 (Int.tdiv (wrap64 (Int.tdiv a0 1000000)) 60))).bind fun t118 => (some (t118, 0))) else (if a1 = 78 then (some ((((t108 ++ (⟨#[58]⟩ : ByteArray)) ++ t109) ++ (⟨#[58]⟩ : ByteArray)) ++ t110, 0)) else (if a1 = 83 then ((qanatref04_text.f kj2 (wrap64 (Int.tdiv a0 1000000))).bind fun t119 => (some (t119, 0))) else (some ((⟨#[]⟩ : ByteArray), 1))))))))) else (none)) = some (r1, r2) := H
              have A13 := Aside0.mk A130
              clear A130
              by_cases c14 : (((t108 ++ (⟨#[58]⟩ : ByteArray)) ++ t109) ++ (⟨#[58]⟩ : ByteArray)).size + t110.size ≤ 9223372036854775807
              · rw [if_pos c14] at H
                have c14b0 := eq_true c14
                have c14b1 : decide ((((t108 ++ (⟨#[58]⟩ : ByteArray)) ++ t109) ++ (⟨#[58]⟩ : ByteArray)).size + t110.size ≤ 9223372036854775807) = true := decide_eq_true c14
                try have c14b2 : (9223372036854775807 < (((t108 ++ (⟨#[58]⟩ : ByteArray)) ++ t109) ++ (⟨#[58]⟩ : ByteArray)).size + t110.size) = False := eq_false (Nat.not_lt.2 c14)
                try (have c14b3 := c14; simp only [ByteArray.size_append, show (⟨#[58]⟩ : ByteArray).size = 1 from rfl] at c14b3; have c14b4 := eq_false (Nat.not_lt.2 c14b3); try (have c14b5 := c14b3; simp only [ByteArray.size_extract, Nat.sub_zero] at c14b5; have c14b6 := eq_false (Nat.not_lt.2 c14b5)))
                by_cases c15 : a1 = 67
                · rw [if_pos c15] at H
                  have c15b0 : (a1 == 67) = true := beq_iff_eq.mpr c15
                  have c15b1 : (a1 != 67) = false := bne_eq_false_iff_eq.mpr c15
                  clear c15
                  by_cases c16 : (wrap64 (Int.tdiv (wrap64 (Int.tdiv (wrap64 (Int.tdiv a0 1000000)) 60)) 60)) ≥ 12
                  · rw [if_pos c16] at H
                    have c16b0 : decide (12 ≤ (wrap64 (Int.tdiv (wrap64 (Int.tdiv (wrap64 (Int.tdiv a0 1000000)) 60)) 60))) = true := decide_eq_true c16
                    clear c16
                    replace H := Option.bind_eq_some_iff.mp H
                    obtain ⟨t111, A170, H⟩ := H
                    replace H : (if t111.size + 1 ≤ 9223372036854775807 then ((qanatref04_padded.f kj2 (Int.tmod (wrap64 (Int.tdiv (wrap64 (Int.tdiv a0 1000000)) 60)) 60) 2).bind fun t112 => (if (t111 ++ (⟨#[58]⟩ : ByteArray)).size + t112.size ≤ 9223372036854775807 then (if ((t111 ++ (⟨#[58]⟩ : ByteArray)) ++ t112).size + 2 ≤ 9223372036854775807 then (some (((t111 ++ (⟨#[58]⟩ : ByteArray)) ++ t112) ++ (⟨#[112, 109]⟩ : ByteArray), 0)) else (none)) else (none))) else (none)) = some (r1, r2) := H
                    have A17 := Aside0.mk A170
                    clear A170
                    by_cases c18 : t111.size + 1 ≤ 9223372036854775807
                    · rw [if_pos c18] at H
                      have c18b0 := eq_true c18
                      have c18b1 : decide (t111.size + 1 ≤ 9223372036854775807) = true := decide_eq_true c18
                      try have c18b2 : (9223372036854775807 < t111.size + 1) = False := eq_false (Nat.not_lt.2 c18)
                      try (have c18b3 := c18; simp only [ByteArray.size_append] at c18b3; have c18b4 := eq_false (Nat.not_lt.2 c18b3); try (have c18b5 := c18b3; simp only [ByteArray.size_extract, Nat.sub_zero] at c18b5; have c18b6 := eq_false (Nat.not_lt.2 c18b5)))
                      replace H := Option.bind_eq_some_iff.mp H
                      obtain ⟨t112, A190, H⟩ := H
                      replace H : (if (t111 ++ (⟨#[58]⟩ : ByteArray)).size + t112.size ≤ 9223372036854775807 then (if ((t111 ++ (⟨#[58]⟩ : ByteArray)) ++ t112).size + 2 ≤ 9223372036854775807 then (some (((t111 ++ (⟨#[58]⟩ : ByteArray)) ++ t112) ++ (⟨#[112, 109]⟩ : ByteArray), 0)) else (none)) else (none)) = some (r1, r2) := H
                      have A19 := Aside0.mk A190
                      clear A190
                      by_cases c20 : (t111 ++ (⟨#[58]⟩ : ByteArray)).size + t112.size ≤ 9223372036854775807
                      · rw [if_pos c20] at H
                        have c20b0 := eq_true c20
                        have c20b1 : decide ((t111 ++ (⟨#[58]⟩ : ByteArray)).size + t112.size ≤ 9223372036854775807) = true := decide_eq_true c20
                        try have c20b2 : (9223372036854775807 < (t111 ++ (⟨#[58]⟩ : ByteArray)).size + t112.size) = False := eq_false (Nat.not_lt.2 c20)
                        try (have c20b3 := c20; simp only [ByteArray.size_append, show (⟨#[58]⟩ : ByteArray).size = 1 from rfl] at c20b3; have c20b4 := eq_false (Nat.not_lt.2 c20b3); try (have c20b5 := c20b3; simp only [ByteArray.size_extract, Nat.sub_zero] at c20b5; have c20b6 := eq_false (Nat.not_lt.2 c20b5)))
                        by_cases c21 : ((t111 ++ (⟨#[58]⟩ : ByteArray)) ++ t112).size + 2 ≤ 9223372036854775807
                        · rw [if_pos c21] at H
                          have c21b0 := eq_true c21
                          have c21b1 : decide (((t111 ++ (⟨#[58]⟩ : ByteArray)) ++ t112).size + 2 ≤ 9223372036854775807) = true := decide_eq_true c21
                          try have c21b2 : (9223372036854775807 < ((t111 ++ (⟨#[58]⟩ : ByteArray)) ++ t112).size + 2) = False := eq_false (Nat.not_lt.2 c21)
                          try (have c21b3 := c21; simp only [ByteArray.size_append, show (⟨#[58]⟩ : ByteArray).size = 1 from rfl] at c21b3; have c21b4 := eq_false (Nat.not_lt.2 c21b3); try (have c21b5 := c21b3; simp only [ByteArray.size_extract, Nat.sub_zero] at c21b5; have c21b6 := eq_false (Nat.not_lt.2 c21b5)))
                          simp only [Option.some.injEq, Prod.mk.injEq] at H
                          obtain ⟨rfl, rfl⟩ := H
                          go_wp2_with (first | ((with_reducible refine gate_callee (f := 47) rfl ?_); refine goesL_ (some 24) rfl rfl Tryz.func47 (by kernel_rfl) rfl #[.int .i64 (wrap64 (Int.tdiv (wrap64 (Int.tdiv (wrap64 (Int.tdiv a0 1000000)) 60)) 60)), .int .i64 2] rfl (by (try simp only [List.map_toArray, List.map_cons, List.map_nil]); first | done | rfl | (simp only [List.length_drop, List.length_take]; rfl)) ?_; (with_reducible refine (qanatref04_padded.calls kj2 (wrap64 (Int.tdiv (wrap64 (Int.tdiv (wrap64 (Int.tdiv a0 1000000)) 60)) 60)) 2 t108 _ A8.out).mono ?_); rintro e w22 ⟨rfl, hb⟩; refine ⟨_, rfl, ?_⟩; have n0_ := Aside0.mk (blk_below (g := gb107) (o := .cells #[.string (⟨#[]⟩ : ByteArray), .int .i64 0] 27 (0, 0)) (by (with_reducible repeat (first | refine blk_drewN ?_ _ | refine blk_drew ?_ | refine blk_alloc ?_ _)); exact BK107.out) hb); have n1_ := Aside0.mk (below_step (by repeat (first | (with_reducible first | exact HB.out | apply below_alloc | apply pw_below_drewN | apply below_drew1 | refine below_set ?_ GE107.out) | exact HB.out)) hb); clear BK107; clear HB; have BK107 := n0_; have HB := n1_; clear n0_ n1_; (try clear hb); (try clear hb2); (try clear hk); (try clear hi)) | ((with_reducible refine gate_callee (f := 47) rfl ?_); refine goesL_ (some 28) rfl rfl Tryz.func47 (by kernel_rfl) rfl #[.int .i64 (Int.tmod (wrap64 (Int.tdiv (wrap64 (Int.tdiv a0 1000000)) 60)) 60), .int .i64 2] rfl (by (try simp only [List.map_toArray, List.map_cons, List.map_nil]); first | done | rfl | (simp only [List.length_drop, List.length_take]; rfl)) ?_; (with_reducible refine (qanatref04_padded.calls kj2 (Int.tmod (wrap64 (Int.tdiv (wrap64 (Int.tdiv a0 1000000)) 60)) 60) 2 t109 _ A10.out).mono ?_); rintro e w23 ⟨rfl, hb⟩; refine ⟨_, rfl, ?_⟩; have n0_ := Aside0.mk (blk_below (g := gb107) (o := .cells #[.string (⟨#[]⟩ : ByteArray), .int .i64 0] 27 (0, 0)) (by (with_reducible repeat (first | refine blk_drewN ?_ _ | refine blk_drew ?_ | refine blk_alloc ?_ _)); exact BK107.out) hb); have n1_ := Aside0.mk (below_step (by repeat (first | (with_reducible first | exact HB.out | apply below_alloc | apply pw_below_drewN | apply below_drew1 | refine below_set ?_ GE107.out) | exact HB.out)) hb); clear BK107; clear HB; have BK107 := n0_; have HB := n1_; clear n0_ n1_; (try clear hb); (try clear hb2); (try clear hk); (try clear hi)) | ((with_reducible refine gate_callee (f := 47) rfl ?_); refine goesL_ (some 33) rfl rfl Tryz.func47 (by kernel_rfl) rfl #[.int .i64 (Int.tmod (wrap64 (Int.tdiv a0 1000000)) 60), .int .i64 2] rfl (by (try simp only [List.map_toArray, List.map_cons, List.map_nil]); first | done | rfl | (simp only [List.length_drop, List.length_take]; rfl)) ?_; (with_reducible refine (qanatref04_padded.calls kj2 (Int.tmod (wrap64 (Int.tdiv a0 1000000)) 60) 2 t110 _ A13.out).mono ?_); rintro e w24 ⟨rfl, hb⟩; refine ⟨_, rfl, ?_⟩; have n0_ := Aside0.mk (blk_below (g := gb107) (o := .cells #[.string (⟨#[]⟩ : ByteArray), .int .i64 0] 27 (0, 0)) (by (with_reducible repeat (first | refine blk_drewN ?_ _ | refine blk_drew ?_ | refine blk_alloc ?_ _)); exact BK107.out) hb); have n1_ := Aside0.mk (below_step (by repeat (first | (with_reducible first | exact HB.out | apply below_alloc | apply pw_below_drewN | apply below_drew1 | refine below_set ?_ GE107.out) | exact HB.out)) hb); clear BK107; clear HB; have BK107 := n0_; have HB := n1_; clear n0_ n1_; (try clear hb); (try clear hb2); (try clear hk); (try clear hi)) | ((with_reducible refine gate_callee (f := 48) rfl ?_); refine goesL_ (some 44) rfl rfl Tryz.func48 (by kernel_rfl) rfl #[.int .i64 (wrap64 ((Int.tmod (wrap64 ((wrap64 (Int.tdiv (wrap64 (Int.tdiv (wrap64 (Int.tdiv a0 1000000)) 60)) 60)) + 11)) 12) + 1))] rfl (by (try simp only [List.map_toArray, List.map_cons, List.map_nil]); first | done | rfl | (simp only [List.length_drop, List.length_take]; rfl)) ?_; (with_reducible refine (qanatref04_text.calls kj2 (wrap64 ((Int.tmod (wrap64 ((wrap64 (Int.tdiv (wrap64 (Int.tdiv (wrap64 (Int.tdiv a0 1000000)) 60)) 60)) + 11)) 12) + 1)) t111 _ A17.out).mono ?_); rintro e w25 ⟨rfl, hb⟩; refine ⟨_, rfl, ?_⟩; have n0_ := Aside0.mk (blk_below (g := gb107) (o := .cells #[.string (⟨#[]⟩ : ByteArray), .int .i64 0] 27 (0, 0)) (by (with_reducible repeat (first | refine blk_drewN ?_ _ | refine blk_drew ?_ | refine blk_alloc ?_ _)); exact BK107.out) hb); have n1_ := Aside0.mk (below_step (by repeat (first | (with_reducible first | exact HB.out | apply below_alloc | apply pw_below_drewN | apply below_drew1 | refine below_set ?_ GE107.out) | exact HB.out)) hb); clear BK107; clear HB; have BK107 := n0_; have HB := n1_; clear n0_ n1_; (try clear hb); (try clear hb2); (try clear hk); (try clear hi)) | ((with_reducible refine gate_callee (f := 47) rfl ?_); refine goesL_ (some 48) rfl rfl Tryz.func47 (by kernel_rfl) rfl #[.int .i64 (Int.tmod (wrap64 (Int.tdiv (wrap64 (Int.tdiv a0 1000000)) 60)) 60), .int .i64 2] rfl (by (try simp only [List.map_toArray, List.map_cons, List.map_nil]); first | done | rfl | (simp only [List.length_drop, List.length_take]; rfl)) ?_; (with_reducible refine (qanatref04_padded.calls kj2 (Int.tmod (wrap64 (Int.tdiv (wrap64 (Int.tdiv a0 1000000)) 60)) 60) 2 t112 _ A19.out).mono ?_); rintro e w26 ⟨rfl, hb⟩; refine ⟨_, rfl, ?_⟩; have n0_ := Aside0.mk (blk_below (g := gb107) (o := .cells #[.string (⟨#[]⟩ : ByteArray), .int .i64 0] 27 (0, 0)) (by (with_reducible repeat (first | refine blk_drewN ?_ _ | refine blk_drew ?_ | refine blk_alloc ?_ _)); exact BK107.out) hb); have n1_ := Aside0.mk (below_step (by repeat (first | (with_reducible first | exact HB.out | apply below_alloc | apply pw_below_drewN | apply below_drew1 | refine below_set ?_ GE107.out) | exact HB.out)) hb); clear BK107; clear HB; have BK107 := n0_; have HB := n1_; clear n0_ n1_; (try clear hb); (try clear hb2); (try clear hk); (try clear hi); have hcz27_0 : w26.cell? ⟨gb107, 0, none⟩ = some (.string (⟨#[]⟩ : ByteArray)) := (blk_cell BK107.out 0).trans rfl; have hcz27_1 : w26.cell? ⟨gb107, 1, none⟩ = some (.int .i64 0) := (blk_cell BK107.out 1).trans rfl; have hfz27_0 := blk_frozen BK107.out 0; have hfz27_1 := blk_frozen BK107.out 1))
                          refine bodyPost_ret (results_cell_row rfl _ _ gb107 27 #[.string (((t111 ++ (⟨#[58]⟩ : ByteArray)) ++ t112) ++ (⟨#[112, 109]⟩ : ByteArray)), .int .i64 0] (0, 0) _ rfl (by (with_reducible repeat (first | refine blk_drewN ?_ _ | refine blk_drew ?_ | refine blk_alloc ?_ _)); refine blk_put (cs := #[.string (((t111 ++ (⟨#[58]⟩ : ByteArray)) ++ t112) ++ (⟨#[112, 109]⟩ : ByteArray)), .int .i64 0]) ?_ 1 _ rfl; (with_reducible repeat (first | refine blk_drewN ?_ _ | refine blk_drew ?_ | refine blk_alloc ?_ _)); refine blk_put (cs := #[.string (⟨#[]⟩ : ByteArray), .int .i64 0]) ?_ 0 _ rfl; (with_reducible repeat (first | refine blk_drewN ?_ _ | refine blk_drew ?_ | refine blk_alloc ?_ _)); exact BK107.out) Tryz.underlying27 rfl (by kernel_rfl)) rfl ?_
                          exact ⟨by first | rfl | (simp [errW_none, errW_some] <;> rfl) | (simp [*, errW_none, errW_some] <;> rfl), by repeat (first | (with_reducible first | exact HB.out | apply below_alloc | apply pw_below_drewN | apply below_drew1 | refine below_set ?_ GE107.out) | exact HB.out)⟩
                        · rw [if_neg c21] at H
                          exact absurd H (by simp)
                      · rw [if_neg c20] at H
                        exact absurd H (by simp)
                    · rw [if_neg c18] at H
                      exact absurd H (by simp)
                  · rw [if_neg c16] at H
                    have c16b0 : decide (12 ≤ (wrap64 (Int.tdiv (wrap64 (Int.tdiv (wrap64 (Int.tdiv a0 1000000)) 60)) 60))) = false := decide_eq_false c16
                    clear c16
                    replace H := Option.bind_eq_some_iff.mp H
                    obtain ⟨t113, A280, H⟩ := H
                    replace H : (if t113.size + 1 ≤ 9223372036854775807 then ((qanatref04_padded.f kj2 (Int.tmod (wrap64 (Int.tdiv (wrap64 (Int.tdiv a0 1000000)) 60)) 60) 2).bind fun t114 => (if (t113 ++ (⟨#[58]⟩ : ByteArray)).size + t114.size ≤ 9223372036854775807 then (if ((t113 ++ (⟨#[58]⟩ : ByteArray)) ++ t114).size + 2 ≤ 9223372036854775807 then (some (((t113 ++ (⟨#[58]⟩ : ByteArray)) ++ t114) ++ (⟨#[97, 109]⟩ : ByteArray), 0)) else (none)) else (none))) else (none)) = some (r1, r2) := H
                    have A28 := Aside0.mk A280
                    clear A280
                    by_cases c29 : t113.size + 1 ≤ 9223372036854775807
                    · rw [if_pos c29] at H
                      have c29b0 := eq_true c29
                      have c29b1 : decide (t113.size + 1 ≤ 9223372036854775807) = true := decide_eq_true c29
                      try have c29b2 : (9223372036854775807 < t113.size + 1) = False := eq_false (Nat.not_lt.2 c29)
                      try (have c29b3 := c29; simp only [ByteArray.size_append] at c29b3; have c29b4 := eq_false (Nat.not_lt.2 c29b3); try (have c29b5 := c29b3; simp only [ByteArray.size_extract, Nat.sub_zero] at c29b5; have c29b6 := eq_false (Nat.not_lt.2 c29b5)))
                      replace H := Option.bind_eq_some_iff.mp H
                      obtain ⟨t114, A300, H⟩ := H
                      replace H : (if (t113 ++ (⟨#[58]⟩ : ByteArray)).size + t114.size ≤ 9223372036854775807 then (if ((t113 ++ (⟨#[58]⟩ : ByteArray)) ++ t114).size + 2 ≤ 9223372036854775807 then (some (((t113 ++ (⟨#[58]⟩ : ByteArray)) ++ t114) ++ (⟨#[97, 109]⟩ : ByteArray), 0)) else (none)) else (none)) = some (r1, r2) := H
                      have A30 := Aside0.mk A300
                      clear A300
                      by_cases c31 : (t113 ++ (⟨#[58]⟩ : ByteArray)).size + t114.size ≤ 9223372036854775807
                      · rw [if_pos c31] at H
                        have c31b0 := eq_true c31
                        have c31b1 : decide ((t113 ++ (⟨#[58]⟩ : ByteArray)).size + t114.size ≤ 9223372036854775807) = true := decide_eq_true c31
                        try have c31b2 : (9223372036854775807 < (t113 ++ (⟨#[58]⟩ : ByteArray)).size + t114.size) = False := eq_false (Nat.not_lt.2 c31)
                        try (have c31b3 := c31; simp only [ByteArray.size_append, show (⟨#[58]⟩ : ByteArray).size = 1 from rfl] at c31b3; have c31b4 := eq_false (Nat.not_lt.2 c31b3); try (have c31b5 := c31b3; simp only [ByteArray.size_extract, Nat.sub_zero] at c31b5; have c31b6 := eq_false (Nat.not_lt.2 c31b5)))
                        by_cases c32 : ((t113 ++ (⟨#[58]⟩ : ByteArray)) ++ t114).size + 2 ≤ 9223372036854775807
                        · rw [if_pos c32] at H
                          have c32b0 := eq_true c32
                          have c32b1 : decide (((t113 ++ (⟨#[58]⟩ : ByteArray)) ++ t114).size + 2 ≤ 9223372036854775807) = true := decide_eq_true c32
                          try have c32b2 : (9223372036854775807 < ((t113 ++ (⟨#[58]⟩ : ByteArray)) ++ t114).size + 2) = False := eq_false (Nat.not_lt.2 c32)
                          try (have c32b3 := c32; simp only [ByteArray.size_append, show (⟨#[58]⟩ : ByteArray).size = 1 from rfl] at c32b3; have c32b4 := eq_false (Nat.not_lt.2 c32b3); try (have c32b5 := c32b3; simp only [ByteArray.size_extract, Nat.sub_zero] at c32b5; have c32b6 := eq_false (Nat.not_lt.2 c32b5)))
                          simp only [Option.some.injEq, Prod.mk.injEq] at H
                          obtain ⟨rfl, rfl⟩ := H
                          go_wp2_with (first | ((with_reducible refine gate_callee (f := 47) rfl ?_); refine goesL_ (some 24) rfl rfl Tryz.func47 (by kernel_rfl) rfl #[.int .i64 (wrap64 (Int.tdiv (wrap64 (Int.tdiv (wrap64 (Int.tdiv a0 1000000)) 60)) 60)), .int .i64 2] rfl (by (try simp only [List.map_toArray, List.map_cons, List.map_nil]); first | done | rfl | (simp only [List.length_drop, List.length_take]; rfl)) ?_; (with_reducible refine (qanatref04_padded.calls kj2 (wrap64 (Int.tdiv (wrap64 (Int.tdiv (wrap64 (Int.tdiv a0 1000000)) 60)) 60)) 2 t108 _ A8.out).mono ?_); rintro e w33 ⟨rfl, hb⟩; refine ⟨_, rfl, ?_⟩; have n0_ := Aside0.mk (blk_below (g := gb107) (o := .cells #[.string (⟨#[]⟩ : ByteArray), .int .i64 0] 27 (0, 0)) (by (with_reducible repeat (first | refine blk_drewN ?_ _ | refine blk_drew ?_ | refine blk_alloc ?_ _)); exact BK107.out) hb); have n1_ := Aside0.mk (below_step (by repeat (first | (with_reducible first | exact HB.out | apply below_alloc | apply pw_below_drewN | apply below_drew1 | refine below_set ?_ GE107.out) | exact HB.out)) hb); clear BK107; clear HB; have BK107 := n0_; have HB := n1_; clear n0_ n1_; (try clear hb); (try clear hb2); (try clear hk); (try clear hi)) | ((with_reducible refine gate_callee (f := 47) rfl ?_); refine goesL_ (some 28) rfl rfl Tryz.func47 (by kernel_rfl) rfl #[.int .i64 (Int.tmod (wrap64 (Int.tdiv (wrap64 (Int.tdiv a0 1000000)) 60)) 60), .int .i64 2] rfl (by (try simp only [List.map_toArray, List.map_cons, List.map_nil]); first | done | rfl | (simp only [List.length_drop, List.length_take]; rfl)) ?_; (with_reducible refine (qanatref04_padded.calls kj2 (Int.tmod (wrap64 (Int.tdiv (wrap64 (Int.tdiv a0 1000000)) 60)) 60) 2 t109 _ A10.out).mono ?_); rintro e w34 ⟨rfl, hb⟩; refine ⟨_, rfl, ?_⟩; have n0_ := Aside0.mk (blk_below (g := gb107) (o := .cells #[.string (⟨#[]⟩ : ByteArray), .int .i64 0] 27 (0, 0)) (by (with_reducible repeat (first | refine blk_drewN ?_ _ | refine blk_drew ?_ | refine blk_alloc ?_ _)); exact BK107.out) hb); have n1_ := Aside0.mk (below_step (by repeat (first | (with_reducible first | exact HB.out | apply below_alloc | apply pw_below_drewN | apply below_drew1 | refine below_set ?_ GE107.out) | exact HB.out)) hb); clear BK107; clear HB; have BK107 := n0_; have HB := n1_; clear n0_ n1_; (try clear hb); (try clear hb2); (try clear hk); (try clear hi)) | ((with_reducible refine gate_callee (f := 47) rfl ?_); refine goesL_ (some 33) rfl rfl Tryz.func47 (by kernel_rfl) rfl #[.int .i64 (Int.tmod (wrap64 (Int.tdiv a0 1000000)) 60), .int .i64 2] rfl (by (try simp only [List.map_toArray, List.map_cons, List.map_nil]); first | done | rfl | (simp only [List.length_drop, List.length_take]; rfl)) ?_; (with_reducible refine (qanatref04_padded.calls kj2 (Int.tmod (wrap64 (Int.tdiv a0 1000000)) 60) 2 t110 _ A13.out).mono ?_); rintro e w35 ⟨rfl, hb⟩; refine ⟨_, rfl, ?_⟩; have n0_ := Aside0.mk (blk_below (g := gb107) (o := .cells #[.string (⟨#[]⟩ : ByteArray), .int .i64 0] 27 (0, 0)) (by (with_reducible repeat (first | refine blk_drewN ?_ _ | refine blk_drew ?_ | refine blk_alloc ?_ _)); exact BK107.out) hb); have n1_ := Aside0.mk (below_step (by repeat (first | (with_reducible first | exact HB.out | apply below_alloc | apply pw_below_drewN | apply below_drew1 | refine below_set ?_ GE107.out) | exact HB.out)) hb); clear BK107; clear HB; have BK107 := n0_; have HB := n1_; clear n0_ n1_; (try clear hb); (try clear hb2); (try clear hk); (try clear hi)) | ((with_reducible refine gate_callee (f := 48) rfl ?_); refine goesL_ (some 44) rfl rfl Tryz.func48 (by kernel_rfl) rfl #[.int .i64 (wrap64 ((Int.tmod (wrap64 ((wrap64 (Int.tdiv (wrap64 (Int.tdiv (wrap64 (Int.tdiv a0 1000000)) 60)) 60)) + 11)) 12) + 1))] rfl (by (try simp only [List.map_toArray, List.map_cons, List.map_nil]); first | done | rfl | (simp only [List.length_drop, List.length_take]; rfl)) ?_; (with_reducible refine (qanatref04_text.calls kj2 (wrap64 ((Int.tmod (wrap64 ((wrap64 (Int.tdiv (wrap64 (Int.tdiv (wrap64 (Int.tdiv a0 1000000)) 60)) 60)) + 11)) 12) + 1)) t113 _ A28.out).mono ?_); rintro e w36 ⟨rfl, hb⟩; refine ⟨_, rfl, ?_⟩; have n0_ := Aside0.mk (blk_below (g := gb107) (o := .cells #[.string (⟨#[]⟩ : ByteArray), .int .i64 0] 27 (0, 0)) (by (with_reducible repeat (first | refine blk_drewN ?_ _ | refine blk_drew ?_ | refine blk_alloc ?_ _)); exact BK107.out) hb); have n1_ := Aside0.mk (below_step (by repeat (first | (with_reducible first | exact HB.out | apply below_alloc | apply pw_below_drewN | apply below_drew1 | refine below_set ?_ GE107.out) | exact HB.out)) hb); clear BK107; clear HB; have BK107 := n0_; have HB := n1_; clear n0_ n1_; (try clear hb); (try clear hb2); (try clear hk); (try clear hi)) | ((with_reducible refine gate_callee (f := 47) rfl ?_); refine goesL_ (some 48) rfl rfl Tryz.func47 (by kernel_rfl) rfl #[.int .i64 (Int.tmod (wrap64 (Int.tdiv (wrap64 (Int.tdiv a0 1000000)) 60)) 60), .int .i64 2] rfl (by (try simp only [List.map_toArray, List.map_cons, List.map_nil]); first | done | rfl | (simp only [List.length_drop, List.length_take]; rfl)) ?_; (with_reducible refine (qanatref04_padded.calls kj2 (Int.tmod (wrap64 (Int.tdiv (wrap64 (Int.tdiv a0 1000000)) 60)) 60) 2 t114 _ A30.out).mono ?_); rintro e w37 ⟨rfl, hb⟩; refine ⟨_, rfl, ?_⟩; have n0_ := Aside0.mk (blk_below (g := gb107) (o := .cells #[.string (⟨#[]⟩ : ByteArray), .int .i64 0] 27 (0, 0)) (by (with_reducible repeat (first | refine blk_drewN ?_ _ | refine blk_drew ?_ | refine blk_alloc ?_ _)); exact BK107.out) hb); have n1_ := Aside0.mk (below_step (by repeat (first | (with_reducible first | exact HB.out | apply below_alloc | apply pw_below_drewN | apply below_drew1 | refine below_set ?_ GE107.out) | exact HB.out)) hb); clear BK107; clear HB; have BK107 := n0_; have HB := n1_; clear n0_ n1_; (try clear hb); (try clear hb2); (try clear hk); (try clear hi); have hcz38_0 : w37.cell? ⟨gb107, 0, none⟩ = some (.string (⟨#[]⟩ : ByteArray)) := (blk_cell BK107.out 0).trans rfl; have hcz38_1 : w37.cell? ⟨gb107, 1, none⟩ = some (.int .i64 0) := (blk_cell BK107.out 1).trans rfl; have hfz38_0 := blk_frozen BK107.out 0; have hfz38_1 := blk_frozen BK107.out 1))
                          refine bodyPost_ret (results_cell_row rfl _ _ gb107 27 #[.string (((t113 ++ (⟨#[58]⟩ : ByteArray)) ++ t114) ++ (⟨#[97, 109]⟩ : ByteArray)), .int .i64 0] (0, 0) _ rfl (by (with_reducible repeat (first | refine blk_drewN ?_ _ | refine blk_drew ?_ | refine blk_alloc ?_ _)); refine blk_put (cs := #[.string (((t113 ++ (⟨#[58]⟩ : ByteArray)) ++ t114) ++ (⟨#[97, 109]⟩ : ByteArray)), .int .i64 0]) ?_ 1 _ rfl; (with_reducible repeat (first | refine blk_drewN ?_ _ | refine blk_drew ?_ | refine blk_alloc ?_ _)); refine blk_put (cs := #[.string (⟨#[]⟩ : ByteArray), .int .i64 0]) ?_ 0 _ rfl; (with_reducible repeat (first | refine blk_drewN ?_ _ | refine blk_drew ?_ | refine blk_alloc ?_ _)); exact BK107.out) Tryz.underlying27 rfl (by kernel_rfl)) rfl ?_
                          exact ⟨by first | rfl | (simp [errW_none, errW_some] <;> rfl) | (simp [*, errW_none, errW_some] <;> rfl), by repeat (first | (with_reducible first | exact HB.out | apply below_alloc | apply pw_below_drewN | apply below_drew1 | refine below_set ?_ GE107.out) | exact HB.out)⟩
                        · rw [if_neg c32] at H
                          exact absurd H (by simp)
                      · rw [if_neg c31] at H
                        exact absurd H (by simp)
                    · rw [if_neg c29] at H
                      exact absurd H (by simp)
                · rw [if_neg c15] at H
                  have c15b0 : (a1 == 67) = false := beq_eq_false_iff_ne.mpr c15
                  have c15b1 : (a1 != 67) = true := bne_iff_ne.mpr c15
                  by_cases c39 : a1 = 70
                  · rw [if_pos c39] at H
                    have c39b0 : (a1 == 70) = true := beq_iff_eq.mpr c39
                    have c39b1 : (a1 != 70) = false := bne_eq_false_iff_eq.mpr c39
                    clear c39
                    replace H := Option.bind_eq_some_iff.mp H
                    obtain ⟨t115, A400, H⟩ := H
                    replace H : (some (t115, 0)) = some (r1, r2) := H
                    have A40 := Aside0.mk A400
                    clear A400
                    simp only [Option.some.injEq, Prod.mk.injEq] at H
                    obtain ⟨rfl, rfl⟩ := H
                    go_wp2_with (first | ((with_reducible refine gate_callee (f := 47) rfl ?_); refine goesL_ (some 24) rfl rfl Tryz.func47 (by kernel_rfl) rfl #[.int .i64 (wrap64 (Int.tdiv (wrap64 (Int.tdiv (wrap64 (Int.tdiv a0 1000000)) 60)) 60)), .int .i64 2] rfl (by (try simp only [List.map_toArray, List.map_cons, List.map_nil]); first | done | rfl | (simp only [List.length_drop, List.length_take]; rfl)) ?_; (with_reducible refine (qanatref04_padded.calls kj2 (wrap64 (Int.tdiv (wrap64 (Int.tdiv (wrap64 (Int.tdiv a0 1000000)) 60)) 60)) 2 t108 _ A8.out).mono ?_); rintro e w41 ⟨rfl, hb⟩; refine ⟨_, rfl, ?_⟩; have n0_ := Aside0.mk (blk_below (g := gb107) (o := .cells #[.string (⟨#[]⟩ : ByteArray), .int .i64 0] 27 (0, 0)) (by (with_reducible repeat (first | refine blk_drewN ?_ _ | refine blk_drew ?_ | refine blk_alloc ?_ _)); exact BK107.out) hb); have n1_ := Aside0.mk (below_step (by repeat (first | (with_reducible first | exact HB.out | apply below_alloc | apply pw_below_drewN | apply below_drew1 | refine below_set ?_ GE107.out) | exact HB.out)) hb); clear BK107; clear HB; have BK107 := n0_; have HB := n1_; clear n0_ n1_; (try clear hb); (try clear hb2); (try clear hk); (try clear hi)) | ((with_reducible refine gate_callee (f := 47) rfl ?_); refine goesL_ (some 28) rfl rfl Tryz.func47 (by kernel_rfl) rfl #[.int .i64 (Int.tmod (wrap64 (Int.tdiv (wrap64 (Int.tdiv a0 1000000)) 60)) 60), .int .i64 2] rfl (by (try simp only [List.map_toArray, List.map_cons, List.map_nil]); first | done | rfl | (simp only [List.length_drop, List.length_take]; rfl)) ?_; (with_reducible refine (qanatref04_padded.calls kj2 (Int.tmod (wrap64 (Int.tdiv (wrap64 (Int.tdiv a0 1000000)) 60)) 60) 2 t109 _ A10.out).mono ?_); rintro e w42 ⟨rfl, hb⟩; refine ⟨_, rfl, ?_⟩; have n0_ := Aside0.mk (blk_below (g := gb107) (o := .cells #[.string (⟨#[]⟩ : ByteArray), .int .i64 0] 27 (0, 0)) (by (with_reducible repeat (first | refine blk_drewN ?_ _ | refine blk_drew ?_ | refine blk_alloc ?_ _)); exact BK107.out) hb); have n1_ := Aside0.mk (below_step (by repeat (first | (with_reducible first | exact HB.out | apply below_alloc | apply pw_below_drewN | apply below_drew1 | refine below_set ?_ GE107.out) | exact HB.out)) hb); clear BK107; clear HB; have BK107 := n0_; have HB := n1_; clear n0_ n1_; (try clear hb); (try clear hb2); (try clear hk); (try clear hi)) | ((with_reducible refine gate_callee (f := 47) rfl ?_); refine goesL_ (some 33) rfl rfl Tryz.func47 (by kernel_rfl) rfl #[.int .i64 (Int.tmod (wrap64 (Int.tdiv a0 1000000)) 60), .int .i64 2] rfl (by (try simp only [List.map_toArray, List.map_cons, List.map_nil]); first | done | rfl | (simp only [List.length_drop, List.length_take]; rfl)) ?_; (with_reducible refine (qanatref04_padded.calls kj2 (Int.tmod (wrap64 (Int.tdiv a0 1000000)) 60) 2 t110 _ A13.out).mono ?_); rintro e w43 ⟨rfl, hb⟩; refine ⟨_, rfl, ?_⟩; have n0_ := Aside0.mk (blk_below (g := gb107) (o := .cells #[.string (⟨#[]⟩ : ByteArray), .int .i64 0] 27 (0, 0)) (by (with_reducible repeat (first | refine blk_drewN ?_ _ | refine blk_drew ?_ | refine blk_alloc ?_ _)); exact BK107.out) hb); have n1_ := Aside0.mk (below_step (by repeat (first | (with_reducible first | exact HB.out | apply below_alloc | apply pw_below_drewN | apply below_drew1 | refine below_set ?_ GE107.out) | exact HB.out)) hb); clear BK107; clear HB; have BK107 := n0_; have HB := n1_; clear n0_ n1_; (try clear hb); (try clear hb2); (try clear hk); (try clear hi)) | ((with_reducible refine gate_callee (f := 48) rfl ?_); refine goesL_ (some 56) rfl rfl Tryz.func48 (by kernel_rfl) rfl #[.int .i64 a0] rfl (by (try simp only [List.map_toArray, List.map_cons, List.map_nil]); first | done | rfl | (simp only [List.length_drop, List.length_take]; rfl)) ?_; (with_reducible refine (qanatref04_text.calls kj2 a0 t115 _ A40.out).mono ?_); rintro e w44 ⟨rfl, hb⟩; refine ⟨_, rfl, ?_⟩; have n0_ := Aside0.mk (blk_below (g := gb107) (o := .cells #[.string (⟨#[]⟩ : ByteArray), .int .i64 0] 27 (0, 0)) (by (with_reducible repeat (first | refine blk_drewN ?_ _ | refine blk_drew ?_ | refine blk_alloc ?_ _)); exact BK107.out) hb); have n1_ := Aside0.mk (below_step (by repeat (first | (with_reducible first | exact HB.out | apply below_alloc | apply pw_below_drewN | apply below_drew1 | refine below_set ?_ GE107.out) | exact HB.out)) hb); clear BK107; clear HB; have BK107 := n0_; have HB := n1_; clear n0_ n1_; (try clear hb); (try clear hb2); (try clear hk); (try clear hi); have hcz45_0 : w44.cell? ⟨gb107, 0, none⟩ = some (.string (⟨#[]⟩ : ByteArray)) := (blk_cell BK107.out 0).trans rfl; have hcz45_1 : w44.cell? ⟨gb107, 1, none⟩ = some (.int .i64 0) := (blk_cell BK107.out 1).trans rfl; have hfz45_0 := blk_frozen BK107.out 0; have hfz45_1 := blk_frozen BK107.out 1))
                    refine bodyPost_ret (results_cell_row rfl _ _ gb107 27 #[.string t115, .int .i64 0] (0, 0) _ rfl (by (with_reducible repeat (first | refine blk_drewN ?_ _ | refine blk_drew ?_ | refine blk_alloc ?_ _)); refine blk_put (cs := #[.string t115, .int .i64 0]) ?_ 1 _ rfl; (with_reducible repeat (first | refine blk_drewN ?_ _ | refine blk_drew ?_ | refine blk_alloc ?_ _)); refine blk_put (cs := #[.string (⟨#[]⟩ : ByteArray), .int .i64 0]) ?_ 0 _ rfl; (with_reducible repeat (first | refine blk_drewN ?_ _ | refine blk_drew ?_ | refine blk_alloc ?_ _)); exact BK107.out) Tryz.underlying27 rfl (by kernel_rfl)) rfl ?_
                    exact ⟨by first | rfl | (simp [errW_none, errW_some] <;> rfl) | (simp [*, errW_none, errW_some] <;> rfl), by repeat (first | (with_reducible first | exact HB.out | apply below_alloc | apply pw_below_drewN | apply below_drew1 | refine below_set ?_ GE107.out) | exact HB.out)⟩
                  · rw [if_neg c39] at H
                    have c39b0 : (a1 == 70) = false := beq_eq_false_iff_ne.mpr c39
                    have c39b1 : (a1 != 70) = true := bne_iff_ne.mpr c39
                    by_cases c46 : a1 = 72
                    · rw [if_pos c46] at H
                      have c46b0 : (a1 == 72) = true := beq_iff_eq.mpr c46
                      have c46b1 : (a1 != 72) = false := bne_eq_false_iff_eq.mpr c46
                      clear c46
                      replace H := Option.bind_eq_some_iff.mp H
                      obtain ⟨t116, A470, H⟩ := H
                      replace H : (some (t116, 0)) = some (r1, r2) := H
                      have A47 := Aside0.mk A470
                      clear A470
                      simp only [Option.some.injEq, Prod.mk.injEq] at H
                      obtain ⟨rfl, rfl⟩ := H
                      go_wp2_with (first | ((with_reducible refine gate_callee (f := 47) rfl ?_); refine goesL_ (some 24) rfl rfl Tryz.func47 (by kernel_rfl) rfl #[.int .i64 (wrap64 (Int.tdiv (wrap64 (Int.tdiv (wrap64 (Int.tdiv a0 1000000)) 60)) 60)), .int .i64 2] rfl (by (try simp only [List.map_toArray, List.map_cons, List.map_nil]); first | done | rfl | (simp only [List.length_drop, List.length_take]; rfl)) ?_; (with_reducible refine (qanatref04_padded.calls kj2 (wrap64 (Int.tdiv (wrap64 (Int.tdiv (wrap64 (Int.tdiv a0 1000000)) 60)) 60)) 2 t108 _ A8.out).mono ?_); rintro e w48 ⟨rfl, hb⟩; refine ⟨_, rfl, ?_⟩; have n0_ := Aside0.mk (blk_below (g := gb107) (o := .cells #[.string (⟨#[]⟩ : ByteArray), .int .i64 0] 27 (0, 0)) (by (with_reducible repeat (first | refine blk_drewN ?_ _ | refine blk_drew ?_ | refine blk_alloc ?_ _)); exact BK107.out) hb); have n1_ := Aside0.mk (below_step (by repeat (first | (with_reducible first | exact HB.out | apply below_alloc | apply pw_below_drewN | apply below_drew1 | refine below_set ?_ GE107.out) | exact HB.out)) hb); clear BK107; clear HB; have BK107 := n0_; have HB := n1_; clear n0_ n1_; (try clear hb); (try clear hb2); (try clear hk); (try clear hi)) | ((with_reducible refine gate_callee (f := 47) rfl ?_); refine goesL_ (some 28) rfl rfl Tryz.func47 (by kernel_rfl) rfl #[.int .i64 (Int.tmod (wrap64 (Int.tdiv (wrap64 (Int.tdiv a0 1000000)) 60)) 60), .int .i64 2] rfl (by (try simp only [List.map_toArray, List.map_cons, List.map_nil]); first | done | rfl | (simp only [List.length_drop, List.length_take]; rfl)) ?_; (with_reducible refine (qanatref04_padded.calls kj2 (Int.tmod (wrap64 (Int.tdiv (wrap64 (Int.tdiv a0 1000000)) 60)) 60) 2 t109 _ A10.out).mono ?_); rintro e w49 ⟨rfl, hb⟩; refine ⟨_, rfl, ?_⟩; have n0_ := Aside0.mk (blk_below (g := gb107) (o := .cells #[.string (⟨#[]⟩ : ByteArray), .int .i64 0] 27 (0, 0)) (by (with_reducible repeat (first | refine blk_drewN ?_ _ | refine blk_drew ?_ | refine blk_alloc ?_ _)); exact BK107.out) hb); have n1_ := Aside0.mk (below_step (by repeat (first | (with_reducible first | exact HB.out | apply below_alloc | apply pw_below_drewN | apply below_drew1 | refine below_set ?_ GE107.out) | exact HB.out)) hb); clear BK107; clear HB; have BK107 := n0_; have HB := n1_; clear n0_ n1_; (try clear hb); (try clear hb2); (try clear hk); (try clear hi)) | ((with_reducible refine gate_callee (f := 47) rfl ?_); refine goesL_ (some 33) rfl rfl Tryz.func47 (by kernel_rfl) rfl #[.int .i64 (Int.tmod (wrap64 (Int.tdiv a0 1000000)) 60), .int .i64 2] rfl (by (try simp only [List.map_toArray, List.map_cons, List.map_nil]); first | done | rfl | (simp only [List.length_drop, List.length_take]; rfl)) ?_; (with_reducible refine (qanatref04_padded.calls kj2 (Int.tmod (wrap64 (Int.tdiv a0 1000000)) 60) 2 t110 _ A13.out).mono ?_); rintro e w50 ⟨rfl, hb⟩; refine ⟨_, rfl, ?_⟩; have n0_ := Aside0.mk (blk_below (g := gb107) (o := .cells #[.string (⟨#[]⟩ : ByteArray), .int .i64 0] 27 (0, 0)) (by (with_reducible repeat (first | refine blk_drewN ?_ _ | refine blk_drew ?_ | refine blk_alloc ?_ _)); exact BK107.out) hb); have n1_ := Aside0.mk (below_step (by repeat (first | (with_reducible first | exact HB.out | apply below_alloc | apply pw_below_drewN | apply below_drew1 | refine below_set ?_ GE107.out) | exact HB.out)) hb); clear BK107; clear HB; have BK107 := n0_; have HB := n1_; clear n0_ n1_; (try clear hb); (try clear hb2); (try clear hk); (try clear hi)) | ((with_reducible refine gate_callee (f := 48) rfl ?_); refine goesL_ (some 61) rfl rfl Tryz.func48 (by kernel_rfl) rfl #[.int .i64 (wrap64 (Int.tdiv (wrap64 (Int.tdiv (wrap64 (Int.tdiv a0 1000000)) 60)) 60))] rfl (by (try simp only [List.map_toArray, List.map_cons, List.map_nil]); first | done | rfl | (simp only [List.length_drop, List.length_take]; rfl)) ?_; (with_reducible refine (qanatref04_text.calls kj2 (wrap64 (Int.tdiv (wrap64 (Int.tdiv (wrap64 (Int.tdiv a0 1000000)) 60)) 60)) t116 _ A47.out).mono ?_); rintro e w51 ⟨rfl, hb⟩; refine ⟨_, rfl, ?_⟩; have n0_ := Aside0.mk (blk_below (g := gb107) (o := .cells #[.string (⟨#[]⟩ : ByteArray), .int .i64 0] 27 (0, 0)) (by (with_reducible repeat (first | refine blk_drewN ?_ _ | refine blk_drew ?_ | refine blk_alloc ?_ _)); exact BK107.out) hb); have n1_ := Aside0.mk (below_step (by repeat (first | (with_reducible first | exact HB.out | apply below_alloc | apply pw_below_drewN | apply below_drew1 | refine below_set ?_ GE107.out) | exact HB.out)) hb); clear BK107; clear HB; have BK107 := n0_; have HB := n1_; clear n0_ n1_; (try clear hb); (try clear hb2); (try clear hk); (try clear hi); have hcz52_0 : w51.cell? ⟨gb107, 0, none⟩ = some (.string (⟨#[]⟩ : ByteArray)) := (blk_cell BK107.out 0).trans rfl; have hcz52_1 : w51.cell? ⟨gb107, 1, none⟩ = some (.int .i64 0) := (blk_cell BK107.out 1).trans rfl; have hfz52_0 := blk_frozen BK107.out 0; have hfz52_1 := blk_frozen BK107.out 1))
                      refine bodyPost_ret (results_cell_row rfl _ _ gb107 27 #[.string t116, .int .i64 0] (0, 0) _ rfl (by (with_reducible repeat (first | refine blk_drewN ?_ _ | refine blk_drew ?_ | refine blk_alloc ?_ _)); refine blk_put (cs := #[.string t116, .int .i64 0]) ?_ 1 _ rfl; (with_reducible repeat (first | refine blk_drewN ?_ _ | refine blk_drew ?_ | refine blk_alloc ?_ _)); refine blk_put (cs := #[.string (⟨#[]⟩ : ByteArray), .int .i64 0]) ?_ 0 _ rfl; (with_reducible repeat (first | refine blk_drewN ?_ _ | refine blk_drew ?_ | refine blk_alloc ?_ _)); exact BK107.out) Tryz.underlying27 rfl (by kernel_rfl)) rfl ?_
                      exact ⟨by first | rfl | (simp [errW_none, errW_some] <;> rfl) | (simp [*, errW_none, errW_some] <;> rfl), by repeat (first | (with_reducible first | exact HB.out | apply below_alloc | apply pw_below_drewN | apply below_drew1 | refine below_set ?_ GE107.out) | exact HB.out)⟩
                    · rw [if_neg c46] at H
                      have c46b0 : (a1 == 72) = false := beq_eq_false_iff_ne.mpr c46
                      have c46b1 : (a1 != 72) = true := bne_iff_ne.mpr c46
                      by_cases c53 : a1 = 76
                      · rw [if_pos c53] at H
                        have c53b0 : (a1 == 76) = true := beq_iff_eq.mpr c53
                        have c53b1 : (a1 != 76) = false := bne_eq_false_iff_eq.mpr c53
                        clear c53
                        by_cases c54 : ((((t108 ++ (⟨#[58]⟩ : ByteArray)) ++ t109) ++ (⟨#[58]⟩ : ByteArray)) ++ t110).size + 1 ≤ 9223372036854775807
                        · rw [if_pos c54] at H
                          have c54b0 := eq_true c54
                          have c54b1 : decide (((((t108 ++ (⟨#[58]⟩ : ByteArray)) ++ t109) ++ (⟨#[58]⟩ : ByteArray)) ++ t110).size + 1 ≤ 9223372036854775807) = true := decide_eq_true c54
                          try have c54b2 : (9223372036854775807 < ((((t108 ++ (⟨#[58]⟩ : ByteArray)) ++ t109) ++ (⟨#[58]⟩ : ByteArray)) ++ t110).size + 1) = False := eq_false (Nat.not_lt.2 c54)
                          try (have c54b3 := c54; simp only [ByteArray.size_append, show (⟨#[58]⟩ : ByteArray).size = 1 from rfl] at c54b3; have c54b4 := eq_false (Nat.not_lt.2 c54b3); try (have c54b5 := c54b3; simp only [ByteArray.size_extract, Nat.sub_zero] at c54b5; have c54b6 := eq_false (Nat.not_lt.2 c54b5)))
                          replace H := Option.bind_eq_some_iff.mp H
                          obtain ⟨t117, A550, H⟩ := H
                          replace H : (if (((((t108 ++ (⟨#[58]⟩ : ByteArray)) ++ t109) ++ (⟨#[58]⟩ : ByteArray)) ++ t110) ++ (⟨#[46]⟩ : ByteArray)).size + t117.size ≤ 9223372036854775807 then (some ((((((t108 ++ (⟨#[58]⟩ : ByteArray)) ++ t109) ++ (⟨#[58]⟩ : ByteArray)) ++ t110) ++ (⟨#[46]⟩ : ByteArray)) ++ t117, 0)) else (none)) = some (r1, r2) := H
                          have A55 := Aside0.mk A550
                          clear A550
                          by_cases c56 : (((((t108 ++ (⟨#[58]⟩ : ByteArray)) ++ t109) ++ (⟨#[58]⟩ : ByteArray)) ++ t110) ++ (⟨#[46]⟩ : ByteArray)).size + t117.size ≤ 9223372036854775807
                          · rw [if_pos c56] at H
                            have c56b0 := eq_true c56
                            have c56b1 : decide ((((((t108 ++ (⟨#[58]⟩ : ByteArray)) ++ t109) ++ (⟨#[58]⟩ : ByteArray)) ++ t110) ++ (⟨#[46]⟩ : ByteArray)).size + t117.size ≤ 9223372036854775807) = true := decide_eq_true c56
                            try have c56b2 : (9223372036854775807 < (((((t108 ++ (⟨#[58]⟩ : ByteArray)) ++ t109) ++ (⟨#[58]⟩ : ByteArray)) ++ t110) ++ (⟨#[46]⟩ : ByteArray)).size + t117.size) = False := eq_false (Nat.not_lt.2 c56)
                            try (have c56b3 := c56; simp only [ByteArray.size_append, show (⟨#[46]⟩ : ByteArray).size = 1 from rfl, show (⟨#[58]⟩ : ByteArray).size = 1 from rfl] at c56b3; have c56b4 := eq_false (Nat.not_lt.2 c56b3); try (have c56b5 := c56b3; simp only [ByteArray.size_extract, Nat.sub_zero] at c56b5; have c56b6 := eq_false (Nat.not_lt.2 c56b5)))
                            simp only [Option.some.injEq, Prod.mk.injEq] at H
                            obtain ⟨rfl, rfl⟩ := H
                            go_wp2_with (first | ((with_reducible refine gate_callee (f := 47) rfl ?_); refine goesL_ (some 24) rfl rfl Tryz.func47 (by kernel_rfl) rfl #[.int .i64 (wrap64 (Int.tdiv (wrap64 (Int.tdiv (wrap64 (Int.tdiv a0 1000000)) 60)) 60)), .int .i64 2] rfl (by (try simp only [List.map_toArray, List.map_cons, List.map_nil]); first | done | rfl | (simp only [List.length_drop, List.length_take]; rfl)) ?_; (with_reducible refine (qanatref04_padded.calls kj2 (wrap64 (Int.tdiv (wrap64 (Int.tdiv (wrap64 (Int.tdiv a0 1000000)) 60)) 60)) 2 t108 _ A8.out).mono ?_); rintro e w57 ⟨rfl, hb⟩; refine ⟨_, rfl, ?_⟩; have n0_ := Aside0.mk (blk_below (g := gb107) (o := .cells #[.string (⟨#[]⟩ : ByteArray), .int .i64 0] 27 (0, 0)) (by (with_reducible repeat (first | refine blk_drewN ?_ _ | refine blk_drew ?_ | refine blk_alloc ?_ _)); exact BK107.out) hb); have n1_ := Aside0.mk (below_step (by repeat (first | (with_reducible first | exact HB.out | apply below_alloc | apply pw_below_drewN | apply below_drew1 | refine below_set ?_ GE107.out) | exact HB.out)) hb); clear BK107; clear HB; have BK107 := n0_; have HB := n1_; clear n0_ n1_; (try clear hb); (try clear hb2); (try clear hk); (try clear hi)) | ((with_reducible refine gate_callee (f := 47) rfl ?_); refine goesL_ (some 28) rfl rfl Tryz.func47 (by kernel_rfl) rfl #[.int .i64 (Int.tmod (wrap64 (Int.tdiv (wrap64 (Int.tdiv a0 1000000)) 60)) 60), .int .i64 2] rfl (by (try simp only [List.map_toArray, List.map_cons, List.map_nil]); first | done | rfl | (simp only [List.length_drop, List.length_take]; rfl)) ?_; (with_reducible refine (qanatref04_padded.calls kj2 (Int.tmod (wrap64 (Int.tdiv (wrap64 (Int.tdiv a0 1000000)) 60)) 60) 2 t109 _ A10.out).mono ?_); rintro e w58 ⟨rfl, hb⟩; refine ⟨_, rfl, ?_⟩; have n0_ := Aside0.mk (blk_below (g := gb107) (o := .cells #[.string (⟨#[]⟩ : ByteArray), .int .i64 0] 27 (0, 0)) (by (with_reducible repeat (first | refine blk_drewN ?_ _ | refine blk_drew ?_ | refine blk_alloc ?_ _)); exact BK107.out) hb); have n1_ := Aside0.mk (below_step (by repeat (first | (with_reducible first | exact HB.out | apply below_alloc | apply pw_below_drewN | apply below_drew1 | refine below_set ?_ GE107.out) | exact HB.out)) hb); clear BK107; clear HB; have BK107 := n0_; have HB := n1_; clear n0_ n1_; (try clear hb); (try clear hb2); (try clear hk); (try clear hi)) | ((with_reducible refine gate_callee (f := 47) rfl ?_); refine goesL_ (some 33) rfl rfl Tryz.func47 (by kernel_rfl) rfl #[.int .i64 (Int.tmod (wrap64 (Int.tdiv a0 1000000)) 60), .int .i64 2] rfl (by (try simp only [List.map_toArray, List.map_cons, List.map_nil]); first | done | rfl | (simp only [List.length_drop, List.length_take]; rfl)) ?_; (with_reducible refine (qanatref04_padded.calls kj2 (Int.tmod (wrap64 (Int.tdiv a0 1000000)) 60) 2 t110 _ A13.out).mono ?_); rintro e w59 ⟨rfl, hb⟩; refine ⟨_, rfl, ?_⟩; have n0_ := Aside0.mk (blk_below (g := gb107) (o := .cells #[.string (⟨#[]⟩ : ByteArray), .int .i64 0] 27 (0, 0)) (by (with_reducible repeat (first | refine blk_drewN ?_ _ | refine blk_drew ?_ | refine blk_alloc ?_ _)); exact BK107.out) hb); have n1_ := Aside0.mk (below_step (by repeat (first | (with_reducible first | exact HB.out | apply below_alloc | apply pw_below_drewN | apply below_drew1 | refine below_set ?_ GE107.out) | exact HB.out)) hb); clear BK107; clear HB; have BK107 := n0_; have HB := n1_; clear n0_ n1_; (try clear hb); (try clear hb2); (try clear hk); (try clear hi)) | ((with_reducible refine gate_callee (f := 47) rfl ?_); refine goesL_ (some 69) rfl rfl Tryz.func47 (by kernel_rfl) rfl #[.int .i64 (Int.tmod a0 1000000), .int .i64 6] rfl (by (try simp only [List.map_toArray, List.map_cons, List.map_nil]); first | done | rfl | (simp only [List.length_drop, List.length_take]; rfl)) ?_; (with_reducible refine (qanatref04_padded.calls kj2 (Int.tmod a0 1000000) 6 t117 _ A55.out).mono ?_); rintro e w60 ⟨rfl, hb⟩; refine ⟨_, rfl, ?_⟩; have n0_ := Aside0.mk (blk_below (g := gb107) (o := .cells #[.string (⟨#[]⟩ : ByteArray), .int .i64 0] 27 (0, 0)) (by (with_reducible repeat (first | refine blk_drewN ?_ _ | refine blk_drew ?_ | refine blk_alloc ?_ _)); exact BK107.out) hb); have n1_ := Aside0.mk (below_step (by repeat (first | (with_reducible first | exact HB.out | apply below_alloc | apply pw_below_drewN | apply below_drew1 | refine below_set ?_ GE107.out) | exact HB.out)) hb); clear BK107; clear HB; have BK107 := n0_; have HB := n1_; clear n0_ n1_; (try clear hb); (try clear hb2); (try clear hk); (try clear hi); have hcz61_0 : w60.cell? ⟨gb107, 0, none⟩ = some (.string (⟨#[]⟩ : ByteArray)) := (blk_cell BK107.out 0).trans rfl; have hcz61_1 : w60.cell? ⟨gb107, 1, none⟩ = some (.int .i64 0) := (blk_cell BK107.out 1).trans rfl; have hfz61_0 := blk_frozen BK107.out 0; have hfz61_1 := blk_frozen BK107.out 1))
                            refine bodyPost_ret (results_cell_row rfl _ _ gb107 27 #[.string ((((((t108 ++ (⟨#[58]⟩ : ByteArray)) ++ t109) ++ (⟨#[58]⟩ : ByteArray)) ++ t110) ++ (⟨#[46]⟩ : ByteArray)) ++ t117), .int .i64 0] (0, 0) _ rfl (by (with_reducible repeat (first | refine blk_drewN ?_ _ | refine blk_drew ?_ | refine blk_alloc ?_ _)); refine blk_put (cs := #[.string ((((((t108 ++ (⟨#[58]⟩ : ByteArray)) ++ t109) ++ (⟨#[58]⟩ : ByteArray)) ++ t110) ++ (⟨#[46]⟩ : ByteArray)) ++ t117), .int .i64 0]) ?_ 1 _ rfl; (with_reducible repeat (first | refine blk_drewN ?_ _ | refine blk_drew ?_ | refine blk_alloc ?_ _)); refine blk_put (cs := #[.string (⟨#[]⟩ : ByteArray), .int .i64 0]) ?_ 0 _ rfl; (with_reducible repeat (first | refine blk_drewN ?_ _ | refine blk_drew ?_ | refine blk_alloc ?_ _)); exact BK107.out) Tryz.underlying27 rfl (by kernel_rfl)) rfl ?_
                            exact ⟨by first | rfl | (simp [errW_none, errW_some] <;> rfl) | (simp [*, errW_none, errW_some] <;> rfl), by repeat (first | (with_reducible first | exact HB.out | apply below_alloc | apply pw_below_drewN | apply below_drew1 | refine below_set ?_ GE107.out) | exact HB.out)⟩
                          · rw [if_neg c56] at H
                            exact absurd H (by simp)
                        · rw [if_neg c54] at H
                          exact absurd H (by simp)
                      · rw [if_neg c53] at H
                        have c53b0 : (a1 == 76) = false := beq_eq_false_iff_ne.mpr c53
                        have c53b1 : (a1 != 76) = true := bne_iff_ne.mpr c53
                        by_cases c62 : a1 = 77
                        · rw [if_pos c62] at H
                          have c62b0 : (a1 == 77) = true := beq_iff_eq.mpr c62
                          have c62b1 : (a1 != 77) = false := bne_eq_false_iff_eq.mpr c62
                          clear c62
                          replace H := Option.bind_eq_some_iff.mp H
                          obtain ⟨t118, A630, H⟩ := H
                          replace H : (some (t118, 0)) = some (r1, r2) := H
                          have A63 := Aside0.mk A630
                          clear A630
                          simp only [Option.some.injEq, Prod.mk.injEq] at H
                          obtain ⟨rfl, rfl⟩ := H
                          go_wp2_with (first | ((with_reducible refine gate_callee (f := 47) rfl ?_); refine goesL_ (some 24) rfl rfl Tryz.func47 (by kernel_rfl) rfl #[.int .i64 (wrap64 (Int.tdiv (wrap64 (Int.tdiv (wrap64 (Int.tdiv a0 1000000)) 60)) 60)), .int .i64 2] rfl (by (try simp only [List.map_toArray, List.map_cons, List.map_nil]); first | done | rfl | (simp only [List.length_drop, List.length_take]; rfl)) ?_; (with_reducible refine (qanatref04_padded.calls kj2 (wrap64 (Int.tdiv (wrap64 (Int.tdiv (wrap64 (Int.tdiv a0 1000000)) 60)) 60)) 2 t108 _ A8.out).mono ?_); rintro e w64 ⟨rfl, hb⟩; refine ⟨_, rfl, ?_⟩; have n0_ := Aside0.mk (blk_below (g := gb107) (o := .cells #[.string (⟨#[]⟩ : ByteArray), .int .i64 0] 27 (0, 0)) (by (with_reducible repeat (first | refine blk_drewN ?_ _ | refine blk_drew ?_ | refine blk_alloc ?_ _)); exact BK107.out) hb); have n1_ := Aside0.mk (below_step (by repeat (first | (with_reducible first | exact HB.out | apply below_alloc | apply pw_below_drewN | apply below_drew1 | refine below_set ?_ GE107.out) | exact HB.out)) hb); clear BK107; clear HB; have BK107 := n0_; have HB := n1_; clear n0_ n1_; (try clear hb); (try clear hb2); (try clear hk); (try clear hi)) | ((with_reducible refine gate_callee (f := 47) rfl ?_); refine goesL_ (some 28) rfl rfl Tryz.func47 (by kernel_rfl) rfl #[.int .i64 (Int.tmod (wrap64 (Int.tdiv (wrap64 (Int.tdiv a0 1000000)) 60)) 60), .int .i64 2] rfl (by (try simp only [List.map_toArray, List.map_cons, List.map_nil]); first | done | rfl | (simp only [List.length_drop, List.length_take]; rfl)) ?_; (with_reducible refine (qanatref04_padded.calls kj2 (Int.tmod (wrap64 (Int.tdiv (wrap64 (Int.tdiv a0 1000000)) 60)) 60) 2 t109 _ A10.out).mono ?_); rintro e w65 ⟨rfl, hb⟩; refine ⟨_, rfl, ?_⟩; have n0_ := Aside0.mk (blk_below (g := gb107) (o := .cells #[.string (⟨#[]⟩ : ByteArray), .int .i64 0] 27 (0, 0)) (by (with_reducible repeat (first | refine blk_drewN ?_ _ | refine blk_drew ?_ | refine blk_alloc ?_ _)); exact BK107.out) hb); have n1_ := Aside0.mk (below_step (by repeat (first | (with_reducible first | exact HB.out | apply below_alloc | apply pw_below_drewN | apply below_drew1 | refine below_set ?_ GE107.out) | exact HB.out)) hb); clear BK107; clear HB; have BK107 := n0_; have HB := n1_; clear n0_ n1_; (try clear hb); (try clear hb2); (try clear hk); (try clear hi)) | ((with_reducible refine gate_callee (f := 47) rfl ?_); refine goesL_ (some 33) rfl rfl Tryz.func47 (by kernel_rfl) rfl #[.int .i64 (Int.tmod (wrap64 (Int.tdiv a0 1000000)) 60), .int .i64 2] rfl (by (try simp only [List.map_toArray, List.map_cons, List.map_nil]); first | done | rfl | (simp only [List.length_drop, List.length_take]; rfl)) ?_; (with_reducible refine (qanatref04_padded.calls kj2 (Int.tmod (wrap64 (Int.tdiv a0 1000000)) 60) 2 t110 _ A13.out).mono ?_); rintro e w66 ⟨rfl, hb⟩; refine ⟨_, rfl, ?_⟩; have n0_ := Aside0.mk (blk_below (g := gb107) (o := .cells #[.string (⟨#[]⟩ : ByteArray), .int .i64 0] 27 (0, 0)) (by (with_reducible repeat (first | refine blk_drewN ?_ _ | refine blk_drew ?_ | refine blk_alloc ?_ _)); exact BK107.out) hb); have n1_ := Aside0.mk (below_step (by repeat (first | (with_reducible first | exact HB.out | apply below_alloc | apply pw_below_drewN | apply below_drew1 | refine below_set ?_ GE107.out) | exact HB.out)) hb); clear BK107; clear HB; have BK107 := n0_; have HB := n1_; clear n0_ n1_; (try clear hb); (try clear hb2); (try clear hk); (try clear hi)) | ((with_reducible refine gate_callee (f := 48) rfl ?_); refine goesL_ (some 75) rfl rfl Tryz.func48 (by kernel_rfl) rfl #[.int .i64 (wrap64 (Int.tdiv (wrap64 (Int.tdiv a0 1000000)) 60))] rfl (by (try simp only [List.map_toArray, List.map_cons, List.map_nil]); first | done | rfl | (simp only [List.length_drop, List.length_take]; rfl)) ?_; (with_reducible refine (qanatref04_text.calls kj2 (wrap64 (Int.tdiv (wrap64 (Int.tdiv a0 1000000)) 60)) t118 _ A63.out).mono ?_); rintro e w67 ⟨rfl, hb⟩; refine ⟨_, rfl, ?_⟩; have n0_ := Aside0.mk (blk_below (g := gb107) (o := .cells #[.string (⟨#[]⟩ : ByteArray), .int .i64 0] 27 (0, 0)) (by (with_reducible repeat (first | refine blk_drewN ?_ _ | refine blk_drew ?_ | refine blk_alloc ?_ _)); exact BK107.out) hb); have n1_ := Aside0.mk (below_step (by repeat (first | (with_reducible first | exact HB.out | apply below_alloc | apply pw_below_drewN | apply below_drew1 | refine below_set ?_ GE107.out) | exact HB.out)) hb); clear BK107; clear HB; have BK107 := n0_; have HB := n1_; clear n0_ n1_; (try clear hb); (try clear hb2); (try clear hk); (try clear hi); have hcz68_0 : w67.cell? ⟨gb107, 0, none⟩ = some (.string (⟨#[]⟩ : ByteArray)) := (blk_cell BK107.out 0).trans rfl; have hcz68_1 : w67.cell? ⟨gb107, 1, none⟩ = some (.int .i64 0) := (blk_cell BK107.out 1).trans rfl; have hfz68_0 := blk_frozen BK107.out 0; have hfz68_1 := blk_frozen BK107.out 1))
                          refine bodyPost_ret (results_cell_row rfl _ _ gb107 27 #[.string t118, .int .i64 0] (0, 0) _ rfl (by (with_reducible repeat (first | refine blk_drewN ?_ _ | refine blk_drew ?_ | refine blk_alloc ?_ _)); refine blk_put (cs := #[.string t118, .int .i64 0]) ?_ 1 _ rfl; (with_reducible repeat (first | refine blk_drewN ?_ _ | refine blk_drew ?_ | refine blk_alloc ?_ _)); refine blk_put (cs := #[.string (⟨#[]⟩ : ByteArray), .int .i64 0]) ?_ 0 _ rfl; (with_reducible repeat (first | refine blk_drewN ?_ _ | refine blk_drew ?_ | refine blk_alloc ?_ _)); exact BK107.out) Tryz.underlying27 rfl (by kernel_rfl)) rfl ?_
                          exact ⟨by first | rfl | (simp [errW_none, errW_some] <;> rfl) | (simp [*, errW_none, errW_some] <;> rfl), by repeat (first | (with_reducible first | exact HB.out | apply below_alloc | apply pw_below_drewN | apply below_drew1 | refine below_set ?_ GE107.out) | exact HB.out)⟩
                        · rw [if_neg c62] at H
                          have c62b0 : (a1 == 77) = false := beq_eq_false_iff_ne.mpr c62
                          have c62b1 : (a1 != 77) = true := bne_iff_ne.mpr c62
                          by_cases c69 : a1 = 78
                          · rw [if_pos c69] at H
                            have c69b0 : (a1 == 78) = true := beq_iff_eq.mpr c69
                            have c69b1 : (a1 != 78) = false := bne_eq_false_iff_eq.mpr c69
                            clear c69
                            simp only [Option.some.injEq, Prod.mk.injEq] at H
                            obtain ⟨rfl, rfl⟩ := H
                            go_wp2_with (first | ((with_reducible refine gate_callee (f := 47) rfl ?_); refine goesL_ (some 24) rfl rfl Tryz.func47 (by kernel_rfl) rfl #[.int .i64 (wrap64 (Int.tdiv (wrap64 (Int.tdiv (wrap64 (Int.tdiv a0 1000000)) 60)) 60)), .int .i64 2] rfl (by (try simp only [List.map_toArray, List.map_cons, List.map_nil]); first | done | rfl | (simp only [List.length_drop, List.length_take]; rfl)) ?_; (with_reducible refine (qanatref04_padded.calls kj2 (wrap64 (Int.tdiv (wrap64 (Int.tdiv (wrap64 (Int.tdiv a0 1000000)) 60)) 60)) 2 t108 _ A8.out).mono ?_); rintro e w70 ⟨rfl, hb⟩; refine ⟨_, rfl, ?_⟩; have n0_ := Aside0.mk (blk_below (g := gb107) (o := .cells #[.string (⟨#[]⟩ : ByteArray), .int .i64 0] 27 (0, 0)) (by (with_reducible repeat (first | refine blk_drewN ?_ _ | refine blk_drew ?_ | refine blk_alloc ?_ _)); exact BK107.out) hb); have n1_ := Aside0.mk (below_step (by repeat (first | (with_reducible first | exact HB.out | apply below_alloc | apply pw_below_drewN | apply below_drew1 | refine below_set ?_ GE107.out) | exact HB.out)) hb); clear BK107; clear HB; have BK107 := n0_; have HB := n1_; clear n0_ n1_; (try clear hb); (try clear hb2); (try clear hk); (try clear hi)) | ((with_reducible refine gate_callee (f := 47) rfl ?_); refine goesL_ (some 28) rfl rfl Tryz.func47 (by kernel_rfl) rfl #[.int .i64 (Int.tmod (wrap64 (Int.tdiv (wrap64 (Int.tdiv a0 1000000)) 60)) 60), .int .i64 2] rfl (by (try simp only [List.map_toArray, List.map_cons, List.map_nil]); first | done | rfl | (simp only [List.length_drop, List.length_take]; rfl)) ?_; (with_reducible refine (qanatref04_padded.calls kj2 (Int.tmod (wrap64 (Int.tdiv (wrap64 (Int.tdiv a0 1000000)) 60)) 60) 2 t109 _ A10.out).mono ?_); rintro e w71 ⟨rfl, hb⟩; refine ⟨_, rfl, ?_⟩; have n0_ := Aside0.mk (blk_below (g := gb107) (o := .cells #[.string (⟨#[]⟩ : ByteArray), .int .i64 0] 27 (0, 0)) (by (with_reducible repeat (first | refine blk_drewN ?_ _ | refine blk_drew ?_ | refine blk_alloc ?_ _)); exact BK107.out) hb); have n1_ := Aside0.mk (below_step (by repeat (first | (with_reducible first | exact HB.out | apply below_alloc | apply pw_below_drewN | apply below_drew1 | refine below_set ?_ GE107.out) | exact HB.out)) hb); clear BK107; clear HB; have BK107 := n0_; have HB := n1_; clear n0_ n1_; (try clear hb); (try clear hb2); (try clear hk); (try clear hi)) | ((with_reducible refine gate_callee (f := 47) rfl ?_); refine goesL_ (some 33) rfl rfl Tryz.func47 (by kernel_rfl) rfl #[.int .i64 (Int.tmod (wrap64 (Int.tdiv a0 1000000)) 60), .int .i64 2] rfl (by (try simp only [List.map_toArray, List.map_cons, List.map_nil]); first | done | rfl | (simp only [List.length_drop, List.length_take]; rfl)) ?_; (with_reducible refine (qanatref04_padded.calls kj2 (Int.tmod (wrap64 (Int.tdiv a0 1000000)) 60) 2 t110 _ A13.out).mono ?_); rintro e w72 ⟨rfl, hb⟩; refine ⟨_, rfl, ?_⟩; have n0_ := Aside0.mk (blk_below (g := gb107) (o := .cells #[.string (⟨#[]⟩ : ByteArray), .int .i64 0] 27 (0, 0)) (by (with_reducible repeat (first | refine blk_drewN ?_ _ | refine blk_drew ?_ | refine blk_alloc ?_ _)); exact BK107.out) hb); have n1_ := Aside0.mk (below_step (by repeat (first | (with_reducible first | exact HB.out | apply below_alloc | apply pw_below_drewN | apply below_drew1 | refine below_set ?_ GE107.out) | exact HB.out)) hb); clear BK107; clear HB; have BK107 := n0_; have HB := n1_; clear n0_ n1_; (try clear hb); (try clear hb2); (try clear hk); (try clear hi); have hcz73_0 : w72.cell? ⟨gb107, 0, none⟩ = some (.string (⟨#[]⟩ : ByteArray)) := (blk_cell BK107.out 0).trans rfl; have hcz73_1 : w72.cell? ⟨gb107, 1, none⟩ = some (.int .i64 0) := (blk_cell BK107.out 1).trans rfl; have hfz73_0 := blk_frozen BK107.out 0; have hfz73_1 := blk_frozen BK107.out 1))
                            refine bodyPost_ret (results_cell_row rfl _ _ gb107 27 #[.string ((((t108 ++ (⟨#[58]⟩ : ByteArray)) ++ t109) ++ (⟨#[58]⟩ : ByteArray)) ++ t110), .int .i64 0] (0, 0) _ rfl (by (with_reducible repeat (first | refine blk_drewN ?_ _ | refine blk_drew ?_ | refine blk_alloc ?_ _)); refine blk_put (cs := #[.string ((((t108 ++ (⟨#[58]⟩ : ByteArray)) ++ t109) ++ (⟨#[58]⟩ : ByteArray)) ++ t110), .int .i64 0]) ?_ 1 _ rfl; (with_reducible repeat (first | refine blk_drewN ?_ _ | refine blk_drew ?_ | refine blk_alloc ?_ _)); refine blk_put (cs := #[.string (⟨#[]⟩ : ByteArray), .int .i64 0]) ?_ 0 _ rfl; (with_reducible repeat (first | refine blk_drewN ?_ _ | refine blk_drew ?_ | refine blk_alloc ?_ _)); exact BK107.out) Tryz.underlying27 rfl (by kernel_rfl)) rfl ?_
                            exact ⟨by first | rfl | (simp [errW_none, errW_some] <;> rfl) | (simp [*, errW_none, errW_some] <;> rfl), by repeat (first | (with_reducible first | exact HB.out | apply below_alloc | apply pw_below_drewN | apply below_drew1 | refine below_set ?_ GE107.out) | exact HB.out)⟩
                          · rw [if_neg c69] at H
                            have c69b0 : (a1 == 78) = false := beq_eq_false_iff_ne.mpr c69
                            have c69b1 : (a1 != 78) = true := bne_iff_ne.mpr c69
                            by_cases c74 : a1 = 83
                            · rw [if_pos c74] at H
                              have c74b0 : (a1 == 83) = true := beq_iff_eq.mpr c74
                              have c74b1 : (a1 != 83) = false := bne_eq_false_iff_eq.mpr c74
                              clear c74
                              replace H := Option.bind_eq_some_iff.mp H
                              obtain ⟨t119, A750, H⟩ := H
                              replace H : (some (t119, 0)) = some (r1, r2) := H
                              have A75 := Aside0.mk A750
                              clear A750
                              simp only [Option.some.injEq, Prod.mk.injEq] at H
                              obtain ⟨rfl, rfl⟩ := H
                              go_wp2_with (first | ((with_reducible refine gate_callee (f := 47) rfl ?_); refine goesL_ (some 24) rfl rfl Tryz.func47 (by kernel_rfl) rfl #[.int .i64 (wrap64 (Int.tdiv (wrap64 (Int.tdiv (wrap64 (Int.tdiv a0 1000000)) 60)) 60)), .int .i64 2] rfl (by (try simp only [List.map_toArray, List.map_cons, List.map_nil]); first | done | rfl | (simp only [List.length_drop, List.length_take]; rfl)) ?_; (with_reducible refine (qanatref04_padded.calls kj2 (wrap64 (Int.tdiv (wrap64 (Int.tdiv (wrap64 (Int.tdiv a0 1000000)) 60)) 60)) 2 t108 _ A8.out).mono ?_); rintro e w76 ⟨rfl, hb⟩; refine ⟨_, rfl, ?_⟩; have n0_ := Aside0.mk (blk_below (g := gb107) (o := .cells #[.string (⟨#[]⟩ : ByteArray), .int .i64 0] 27 (0, 0)) (by (with_reducible repeat (first | refine blk_drewN ?_ _ | refine blk_drew ?_ | refine blk_alloc ?_ _)); exact BK107.out) hb); have n1_ := Aside0.mk (below_step (by repeat (first | (with_reducible first | exact HB.out | apply below_alloc | apply pw_below_drewN | apply below_drew1 | refine below_set ?_ GE107.out) | exact HB.out)) hb); clear BK107; clear HB; have BK107 := n0_; have HB := n1_; clear n0_ n1_; (try clear hb); (try clear hb2); (try clear hk); (try clear hi)) | ((with_reducible refine gate_callee (f := 47) rfl ?_); refine goesL_ (some 28) rfl rfl Tryz.func47 (by kernel_rfl) rfl #[.int .i64 (Int.tmod (wrap64 (Int.tdiv (wrap64 (Int.tdiv a0 1000000)) 60)) 60), .int .i64 2] rfl (by (try simp only [List.map_toArray, List.map_cons, List.map_nil]); first | done | rfl | (simp only [List.length_drop, List.length_take]; rfl)) ?_; (with_reducible refine (qanatref04_padded.calls kj2 (Int.tmod (wrap64 (Int.tdiv (wrap64 (Int.tdiv a0 1000000)) 60)) 60) 2 t109 _ A10.out).mono ?_); rintro e w77 ⟨rfl, hb⟩; refine ⟨_, rfl, ?_⟩; have n0_ := Aside0.mk (blk_below (g := gb107) (o := .cells #[.string (⟨#[]⟩ : ByteArray), .int .i64 0] 27 (0, 0)) (by (with_reducible repeat (first | refine blk_drewN ?_ _ | refine blk_drew ?_ | refine blk_alloc ?_ _)); exact BK107.out) hb); have n1_ := Aside0.mk (below_step (by repeat (first | (with_reducible first | exact HB.out | apply below_alloc | apply pw_below_drewN | apply below_drew1 | refine below_set ?_ GE107.out) | exact HB.out)) hb); clear BK107; clear HB; have BK107 := n0_; have HB := n1_; clear n0_ n1_; (try clear hb); (try clear hb2); (try clear hk); (try clear hi)) | ((with_reducible refine gate_callee (f := 47) rfl ?_); refine goesL_ (some 33) rfl rfl Tryz.func47 (by kernel_rfl) rfl #[.int .i64 (Int.tmod (wrap64 (Int.tdiv a0 1000000)) 60), .int .i64 2] rfl (by (try simp only [List.map_toArray, List.map_cons, List.map_nil]); first | done | rfl | (simp only [List.length_drop, List.length_take]; rfl)) ?_; (with_reducible refine (qanatref04_padded.calls kj2 (Int.tmod (wrap64 (Int.tdiv a0 1000000)) 60) 2 t110 _ A13.out).mono ?_); rintro e w78 ⟨rfl, hb⟩; refine ⟨_, rfl, ?_⟩; have n0_ := Aside0.mk (blk_below (g := gb107) (o := .cells #[.string (⟨#[]⟩ : ByteArray), .int .i64 0] 27 (0, 0)) (by (with_reducible repeat (first | refine blk_drewN ?_ _ | refine blk_drew ?_ | refine blk_alloc ?_ _)); exact BK107.out) hb); have n1_ := Aside0.mk (below_step (by repeat (first | (with_reducible first | exact HB.out | apply below_alloc | apply pw_below_drewN | apply below_drew1 | refine below_set ?_ GE107.out) | exact HB.out)) hb); clear BK107; clear HB; have BK107 := n0_; have HB := n1_; clear n0_ n1_; (try clear hb); (try clear hb2); (try clear hk); (try clear hi)) | ((with_reducible refine gate_callee (f := 48) rfl ?_); refine goesL_ (some 84) rfl rfl Tryz.func48 (by kernel_rfl) rfl #[.int .i64 (wrap64 (Int.tdiv a0 1000000))] rfl (by (try simp only [List.map_toArray, List.map_cons, List.map_nil]); first | done | rfl | (simp only [List.length_drop, List.length_take]; rfl)) ?_; (with_reducible refine (qanatref04_text.calls kj2 (wrap64 (Int.tdiv a0 1000000)) t119 _ A75.out).mono ?_); rintro e w79 ⟨rfl, hb⟩; refine ⟨_, rfl, ?_⟩; have n0_ := Aside0.mk (blk_below (g := gb107) (o := .cells #[.string (⟨#[]⟩ : ByteArray), .int .i64 0] 27 (0, 0)) (by (with_reducible repeat (first | refine blk_drewN ?_ _ | refine blk_drew ?_ | refine blk_alloc ?_ _)); exact BK107.out) hb); have n1_ := Aside0.mk (below_step (by repeat (first | (with_reducible first | exact HB.out | apply below_alloc | apply pw_below_drewN | apply below_drew1 | refine below_set ?_ GE107.out) | exact HB.out)) hb); clear BK107; clear HB; have BK107 := n0_; have HB := n1_; clear n0_ n1_; (try clear hb); (try clear hb2); (try clear hk); (try clear hi); have hcz80_0 : w79.cell? ⟨gb107, 0, none⟩ = some (.string (⟨#[]⟩ : ByteArray)) := (blk_cell BK107.out 0).trans rfl; have hcz80_1 : w79.cell? ⟨gb107, 1, none⟩ = some (.int .i64 0) := (blk_cell BK107.out 1).trans rfl; have hfz80_0 := blk_frozen BK107.out 0; have hfz80_1 := blk_frozen BK107.out 1))
                              refine bodyPost_ret (results_cell_row rfl _ _ gb107 27 #[.string t119, .int .i64 0] (0, 0) _ rfl (by (with_reducible repeat (first | refine blk_drewN ?_ _ | refine blk_drew ?_ | refine blk_alloc ?_ _)); refine blk_put (cs := #[.string t119, .int .i64 0]) ?_ 1 _ rfl; (with_reducible repeat (first | refine blk_drewN ?_ _ | refine blk_drew ?_ | refine blk_alloc ?_ _)); refine blk_put (cs := #[.string (⟨#[]⟩ : ByteArray), .int .i64 0]) ?_ 0 _ rfl; (with_reducible repeat (first | refine blk_drewN ?_ _ | refine blk_drew ?_ | refine blk_alloc ?_ _)); exact BK107.out) Tryz.underlying27 rfl (by kernel_rfl)) rfl ?_
                              exact ⟨by first | rfl | (simp [errW_none, errW_some] <;> rfl) | (simp [*, errW_none, errW_some] <;> rfl), by repeat (first | (with_reducible first | exact HB.out | apply below_alloc | apply pw_below_drewN | apply below_drew1 | refine below_set ?_ GE107.out) | exact HB.out)⟩
                            · rw [if_neg c74] at H
                              have c74b0 : (a1 == 83) = false := beq_eq_false_iff_ne.mpr c74
                              have c74b1 : (a1 != 83) = true := bne_iff_ne.mpr c74
                              simp only [Option.some.injEq, Prod.mk.injEq] at H
                              obtain ⟨rfl, rfl⟩ := H
                              go_wp2_with (first | ((with_reducible refine gate_callee (f := 47) rfl ?_); refine goesL_ (some 24) rfl rfl Tryz.func47 (by kernel_rfl) rfl #[.int .i64 (wrap64 (Int.tdiv (wrap64 (Int.tdiv (wrap64 (Int.tdiv a0 1000000)) 60)) 60)), .int .i64 2] rfl (by (try simp only [List.map_toArray, List.map_cons, List.map_nil]); first | done | rfl | (simp only [List.length_drop, List.length_take]; rfl)) ?_; (with_reducible refine (qanatref04_padded.calls kj2 (wrap64 (Int.tdiv (wrap64 (Int.tdiv (wrap64 (Int.tdiv a0 1000000)) 60)) 60)) 2 t108 _ A8.out).mono ?_); rintro e w81 ⟨rfl, hb⟩; refine ⟨_, rfl, ?_⟩; have n0_ := Aside0.mk (blk_below (g := gb107) (o := .cells #[.string (⟨#[]⟩ : ByteArray), .int .i64 0] 27 (0, 0)) (by (with_reducible repeat (first | refine blk_drewN ?_ _ | refine blk_drew ?_ | refine blk_alloc ?_ _)); exact BK107.out) hb); have n1_ := Aside0.mk (below_step (by repeat (first | (with_reducible first | exact HB.out | apply below_alloc | apply pw_below_drewN | apply below_drew1 | refine below_set ?_ GE107.out) | exact HB.out)) hb); clear BK107; clear HB; have BK107 := n0_; have HB := n1_; clear n0_ n1_; (try clear hb); (try clear hb2); (try clear hk); (try clear hi)) | ((with_reducible refine gate_callee (f := 47) rfl ?_); refine goesL_ (some 28) rfl rfl Tryz.func47 (by kernel_rfl) rfl #[.int .i64 (Int.tmod (wrap64 (Int.tdiv (wrap64 (Int.tdiv a0 1000000)) 60)) 60), .int .i64 2] rfl (by (try simp only [List.map_toArray, List.map_cons, List.map_nil]); first | done | rfl | (simp only [List.length_drop, List.length_take]; rfl)) ?_; (with_reducible refine (qanatref04_padded.calls kj2 (Int.tmod (wrap64 (Int.tdiv (wrap64 (Int.tdiv a0 1000000)) 60)) 60) 2 t109 _ A10.out).mono ?_); rintro e w82 ⟨rfl, hb⟩; refine ⟨_, rfl, ?_⟩; have n0_ := Aside0.mk (blk_below (g := gb107) (o := .cells #[.string (⟨#[]⟩ : ByteArray), .int .i64 0] 27 (0, 0)) (by (with_reducible repeat (first | refine blk_drewN ?_ _ | refine blk_drew ?_ | refine blk_alloc ?_ _)); exact BK107.out) hb); have n1_ := Aside0.mk (below_step (by repeat (first | (with_reducible first | exact HB.out | apply below_alloc | apply pw_below_drewN | apply below_drew1 | refine below_set ?_ GE107.out) | exact HB.out)) hb); clear BK107; clear HB; have BK107 := n0_; have HB := n1_; clear n0_ n1_; (try clear hb); (try clear hb2); (try clear hk); (try clear hi)) | ((with_reducible refine gate_callee (f := 47) rfl ?_); refine goesL_ (some 33) rfl rfl Tryz.func47 (by kernel_rfl) rfl #[.int .i64 (Int.tmod (wrap64 (Int.tdiv a0 1000000)) 60), .int .i64 2] rfl (by (try simp only [List.map_toArray, List.map_cons, List.map_nil]); first | done | rfl | (simp only [List.length_drop, List.length_take]; rfl)) ?_; (with_reducible refine (qanatref04_padded.calls kj2 (Int.tmod (wrap64 (Int.tdiv a0 1000000)) 60) 2 t110 _ A13.out).mono ?_); rintro e w83 ⟨rfl, hb⟩; refine ⟨_, rfl, ?_⟩; have n0_ := Aside0.mk (blk_below (g := gb107) (o := .cells #[.string (⟨#[]⟩ : ByteArray), .int .i64 0] 27 (0, 0)) (by (with_reducible repeat (first | refine blk_drewN ?_ _ | refine blk_drew ?_ | refine blk_alloc ?_ _)); exact BK107.out) hb); have n1_ := Aside0.mk (below_step (by repeat (first | (with_reducible first | exact HB.out | apply below_alloc | apply pw_below_drewN | apply below_drew1 | refine below_set ?_ GE107.out) | exact HB.out)) hb); clear BK107; clear HB; have BK107 := n0_; have HB := n1_; clear n0_ n1_; (try clear hb); (try clear hb2); (try clear hk); (try clear hi); have hcz84_0 : w83.cell? ⟨gb107, 0, none⟩ = some (.string (⟨#[]⟩ : ByteArray)) := (blk_cell BK107.out 0).trans rfl; have hcz84_1 : w83.cell? ⟨gb107, 1, none⟩ = some (.int .i64 0) := (blk_cell BK107.out 1).trans rfl; have hfz84_0 := blk_frozen BK107.out 0; have hfz84_1 := blk_frozen BK107.out 1))
                              refine bodyPost_ret (results_cell_row rfl _ _ gb107 27 #[.string (⟨#[]⟩ : ByteArray), .int .i64 1] (0, 0) _ rfl (by (with_reducible repeat (first | refine blk_drewN ?_ _ | refine blk_drew ?_ | refine blk_alloc ?_ _)); refine blk_put (cs := #[.string (⟨#[]⟩ : ByteArray), .int .i64 0]) ?_ 1 _ rfl; (with_reducible repeat (first | refine blk_drewN ?_ _ | refine blk_drew ?_ | refine blk_alloc ?_ _)); refine blk_put (cs := #[.string (⟨#[]⟩ : ByteArray), .int .i64 0]) ?_ 0 _ rfl; (with_reducible repeat (first | refine blk_drewN ?_ _ | refine blk_drew ?_ | refine blk_alloc ?_ _)); exact BK107.out) Tryz.underlying27 rfl (by kernel_rfl)) rfl ?_
                              exact ⟨by first | rfl | (simp [errW_none, errW_some] <;> rfl) | (simp [*, errW_none, errW_some] <;> rfl), by repeat (first | (with_reducible first | exact HB.out | apply below_alloc | apply pw_below_drewN | apply below_drew1 | refine below_set ?_ GE107.out) | exact HB.out)⟩
              · rw [if_neg c14] at H
                exact absurd H (by simp)
            · rw [if_neg c12] at H
              exact absurd H (by simp)
          · rw [if_neg c11] at H
            exact absurd H (by simp)
        · rw [if_neg c9] at H
          exact absurd H (by simp)

/-! ### qanatref04_digits: function 58 -/
def qanatref04_digits.l0 : Nat → ByteArray → Int → Int → Option (Int)
  | 0, _, _, _ => none
  | k + 1, x0, x3, x4 => if x4 < (x0.size : Int) then (if 0 ≤ x4 then (if (bt x0 x4) < 48 then (some (-1)) else (if (bt x0 x4) > 57 then (some (-1)) else (qanatref04_digits.l0 k x0 (wrap64 ((wrap64 (10 * x3)) + (((bt x0 x4) - 48) % 256))) (wrap64 (x4 + 1))))) else (none)) else (if (x0.size : Int) = 0 then (some (-1)) else (if (x0.size : Int) > 12 then (some (-1)) else (some x3)))
def qanatref04_digits.f (k : Nat) (a0 : ByteArray) : Option (Int) := qanatref04_digits.l0 k a0 0 0
theorem qanatref04_digits.mono_l : ∀ k, (∀ y0 y1 y2, LeO (qanatref04_digits.l0 k y0 y1 y2) (qanatref04_digits.l0 (k + 1) y0 y1 y2))
  | 0 => fun _ _ _ r h => by simp [qanatref04_digits.l0] at h
  | k + 1 => by
    have ih0 := qanatref04_digits.mono_l k
    · intro y0 y1 y2
      unfold qanatref04_digits.l0
      repeat' first
      | (with_reducible exact ih0 _ _ _)
      | (with_reducible exact LeO.refl _)
      | (with_reducible exact LeO.none _)
      | (with_reducible refine LeO.ite ?_ ?_)
      | (with_reducible refine LeO.bind ?_ (fun _ => ?_))
      | exact ih0 _ _ _
      | exact LeO.none _
      | refine LeO.ite ?_ ?_
      | refine LeO.bind ?_ (fun _ => ?_)
theorem qanatref04_digits.mono : ∀ a0 k, LeO (qanatref04_digits.f k a0) (qanatref04_digits.f (k + 1) a0) := by
  intro a0 k
  have ih0 := qanatref04_digits.mono_l k
  unfold qanatref04_digits.f
  repeat' first
      | (with_reducible exact ih0 _ _ _)
      | (with_reducible exact LeO.refl _)
      | (with_reducible exact LeO.none _)
      | (with_reducible refine LeO.ite ?_ ?_)
      | (with_reducible refine LeO.bind ?_ (fun _ => ?_))
      | exact ih0 _ _ _
      | exact LeO.none _
      | refine LeO.ite ?_ ?_
      | refine LeO.bind ?_ (fun _ => ?_)
set_option maxHeartbeats 8000000 in
set_option maxRecDepth 100000 in
theorem qanatref04_digits.calls (k : Nat) (a0 : ByteArray) (r : Int) (w : World) (h : qanatref04_digits.f k a0 = some r) :
    Calls Tryz.prog 58 #[.string a0] w fun e w' => e = .returned (.int .i64 r) ∧ Drawn0 w w' := by
  have H : (qanatref04_digits.l0 k a0 0 0) = some r := h
  clear h
  have H' := Aside0.mk H
  clear H
  go_enter Tryz.func58, Tryz.ntmps58
  go_wp2
  go_loopg [3, 4] k (fun kq v3 v4 w' => ∃ (x3_1 : Int) (x4_1 : Int), v3 = .int .i64 x3_1 ∧ v4 = .int .i64 x4_1 ∧ Aside0 (qanatref04_digits.l0 kq a0 x3_1 x4_1 = some r) ∧ Aside0 (kq ≤ k) ∧ Drawn0 w w')
  case atStart => exact ⟨(0), (0), (by first | rfl | (simp; done) | (simp [*]; done)), (by first | rfl | (simp; done) | (simp [*]; done)), H', ⟨Nat.le_refl _⟩, by repeat (first | exact Drawn0.refl _ | apply Drawn0.step)⟩
  case round =>
    clear H'
    obtain ⟨x3_1, x4_1, rfl, rfl, HA, HK1, ⟨m1, rfl⟩⟩ := hrel
    cases gk with
    | zero => exact absurd HA.out (by simp [qanatref04_digits.l0])
    | succ k1 =>
      have H := HA.out
      clear HA
      simp only [qanatref04_digits.l0] at H
      by_cases c2 : x4_1 < (a0.size : Int)
      · rw [if_pos c2] at H
        have c2b0 : decide (x4_1 < (a0.size : Int)) = true := decide_eq_true c2
        clear c2
        by_cases c3 : 0 ≤ x4_1
        · rw [if_pos c3] at H
          have c3b0 : decide (0 ≤ x4_1) = true := decide_eq_true c3
          clear c3
          by_cases c5 : (bt a0 x4_1) < 48
          · rw [if_pos c5] at H
            have c5b0 : decide ((bt a0 x4_1) < 48) = true := decide_eq_true c5
            clear c5
            obtain rfl := Option.some.inj H
            have p4 : 0 ≤ (x4_1 : Int) := of_decide_eq_true (by first | (with_reducible assumption) | assumption)
            have q4 : x4_1 < (a0.size : Int) := of_decide_eq_true (by first | (with_reducible assumption) | assumption)
            have hx4 := bt_at a0 x4_1
            replace p4 := eq_true p4
            replace q4 := eq_true q4
            go_wp2
            go_ret
            exact ⟨by first | rfl | (simp; done) | (simp [*]; done), by repeat (first | exact Drawn0.refl _ | apply Drawn0.step)⟩
          · rw [if_neg c5] at H
            have c5b0 : decide ((bt a0 x4_1) < 48) = false := decide_eq_false c5
            clear c5
            by_cases c7 : (bt a0 x4_1) > 57
            · rw [if_pos c7] at H
              have c7b0 : decide (57 < (bt a0 x4_1)) = true := decide_eq_true c7
              clear c7
              obtain rfl := Option.some.inj H
              have p4 : 0 ≤ (x4_1 : Int) := of_decide_eq_true (by first | (with_reducible assumption) | assumption)
              have q4 : x4_1 < (a0.size : Int) := of_decide_eq_true (by first | (with_reducible assumption) | assumption)
              have hx4 := bt_at a0 x4_1
              replace p4 := eq_true p4
              replace q4 := eq_true q4
              have p6 : 0 ≤ (x4_1 : Int) := of_decide_eq_true (by first | (with_reducible assumption) | assumption)
              have q6 : x4_1 < (a0.size : Int) := of_decide_eq_true (by first | (with_reducible assumption) | assumption)
              have hx6 := bt_at a0 x4_1
              replace p6 := eq_true p6
              replace q6 := eq_true q6
              go_wp2
              go_ret
              exact ⟨by first | rfl | (simp; done) | (simp [*]; done), by repeat (first | exact Drawn0.refl _ | apply Drawn0.step)⟩
            · rw [if_neg c7] at H
              have c7b0 : decide (57 < (bt a0 x4_1)) = false := decide_eq_false c7
              clear c7
              have H' := Aside0.mk H
              clear H
              have p4 : 0 ≤ (x4_1 : Int) := of_decide_eq_true (by first | (with_reducible assumption) | assumption)
              have q4 : x4_1 < (a0.size : Int) := of_decide_eq_true (by first | (with_reducible assumption) | assumption)
              have hx4 := bt_at a0 x4_1
              replace p4 := eq_true p4
              replace q4 := eq_true q4
              have p6 : 0 ≤ (x4_1 : Int) := of_decide_eq_true (by first | (with_reducible assumption) | assumption)
              have q6 : x4_1 < (a0.size : Int) := of_decide_eq_true (by first | (with_reducible assumption) | assumption)
              have hx6 := bt_at a0 x4_1
              replace p6 := eq_true p6
              replace q6 := eq_true q6
              have p8 : 0 ≤ (x4_1 : Int) := of_decide_eq_true (by first | (with_reducible assumption) | assumption)
              have q8 : x4_1 < (a0.size : Int) := of_decide_eq_true (by first | (with_reducible assumption) | assumption)
              have hx8 := bt_at a0 x4_1
              replace p8 := eq_true p8
              replace q8 := eq_true q8
              go_wp2
              go_roundg k1
              case measure => have := HK1.out; omega
              case rel => exact ⟨(wrap64 ((wrap64 (10 * x3_1)) + (((bt a0 x4_1) - 48) % 256))), (wrap64 (x4_1 + 1)), (by first | rfl | (simp; done) | (simp [*]; done)), (by first | rfl | (simp; done) | (simp [*]; done)), H', ⟨by have := HK1.out; omega⟩, by repeat (first | exact Drawn0.refl _ | apply Drawn0.step)⟩
        · rw [if_neg c3] at H
          exact absurd H (by simp)
      · rw [if_neg c2] at H
        have c2b0 : decide (x4_1 < (a0.size : Int)) = false := decide_eq_false c2
        clear c2
        by_cases c9 : (a0.size : Int) = 0
        · rw [if_pos c9] at H
          have c9b0 : ((a0.size : Int) == 0) = true := beq_iff_eq.mpr c9
          have c9b1 : ((a0.size : Int) != 0) = false := bne_eq_false_iff_eq.mpr c9
          clear c9
          obtain rfl := Option.some.inj H
          go_wp2
          go_ret
          exact ⟨by first | rfl | (simp; done) | (simp [*]; done), by repeat (first | exact Drawn0.refl _ | apply Drawn0.step)⟩
        · rw [if_neg c9] at H
          have c9b0 : ((a0.size : Int) == 0) = false := beq_eq_false_iff_ne.mpr c9
          have c9b1 : ((a0.size : Int) != 0) = true := bne_iff_ne.mpr c9
          by_cases c10 : (a0.size : Int) > 12
          · rw [if_pos c10] at H
            have c10b0 : decide (12 < (a0.size : Int)) = true := decide_eq_true c10
            have c10b1 : decide (12 < a0.size) = true := decide_eq_true (by omega)
            clear c10
            obtain rfl := Option.some.inj H
            go_wp2
            go_ret
            exact ⟨by first | rfl | (simp; done) | (simp [*]; done), by repeat (first | exact Drawn0.refl _ | apply Drawn0.step)⟩
          · rw [if_neg c10] at H
            have c10b0 : decide (12 < (a0.size : Int)) = false := decide_eq_false c10
            have c10b1 : decide (12 < a0.size) = false := decide_eq_false (by omega)
            clear c10
            obtain rfl := Option.some.inj H
            go_wp2
            go_ret
            exact ⟨by first | rfl | (simp; done) | (simp [*]; done), by repeat (first | exact Drawn0.refl _ | apply Drawn0.step)⟩

/-! ### qanatref04_plain: function 54 -/
def qanatref04_plain.f (k : Nat) (a0 : ByteArray) (a1 : Int) : Option (Int) := if (a0.size : Int) > a1 then (some (-1)) else (if (a0.size : Int) > 1 then (if 0 < (a0.size : Int) then (if (bt a0 0) = 48 then (some (-1)) else ((qanatref04_digits.f k a0).bind fun t120 => (some t120))) else (none)) else ((qanatref04_digits.f k a0).bind fun t121 => (some t121)))
theorem qanatref04_plain.mono : ∀ a0 a1 k, LeO (qanatref04_plain.f k a0 a1) (qanatref04_plain.f (k + 1) a0 a1) := by
  intro a0 a1 k
  unfold qanatref04_plain.f
  repeat' first
      | (with_reducible exact qanatref04_digits.mono _ _)
      | (with_reducible exact LeO.refl _)
      | (with_reducible exact LeO.none _)
      | (with_reducible refine LeO.ite ?_ ?_)
      | (with_reducible refine LeO.bind ?_ (fun _ => ?_))
      | exact qanatref04_digits.mono _ _
      | exact LeO.none _
      | refine LeO.ite ?_ ?_
      | refine LeO.bind ?_ (fun _ => ?_)
set_option maxHeartbeats 8000000 in
set_option maxRecDepth 100000 in
theorem qanatref04_plain.calls (k : Nat) (a0 : ByteArray) (a1 : Int) (r : Int) (w : World) (h : qanatref04_plain.f k a0 a1 = some r) :
    Calls Tryz.prog 54 #[.string a0, .int .i64 a1] w fun e w' => e = .returned (.int .i64 r) ∧ Drawn0 w w' := by
  have H : (if (a0.size : Int) > a1 then (some (-1)) else (if (a0.size : Int) > 1 then (if 0 < (a0.size : Int) then (if (bt a0 0) = 48 then (some (-1)) else ((qanatref04_digits.f k a0).bind fun t120 => (some t120))) else (none)) else ((qanatref04_digits.f k a0).bind fun t121 => (some t121)))) = some r := h
  clear h
  by_cases c3 : (a0.size : Int) > a1
  · rw [if_pos c3] at H
    have c3b0 : decide (a1 < (a0.size : Int)) = true := decide_eq_true c3
    clear c3
    obtain rfl := Option.some.inj H
    go_enter Tryz.func54, Tryz.ntmps54
    go_wp2
    go_ret
    exact ⟨by first | rfl | (simp; done) | (simp [*]; done), by repeat (first | exact Drawn0.refl _ | apply Drawn0.step)⟩
  · rw [if_neg c3] at H
    have c3b0 : decide (a1 < (a0.size : Int)) = false := decide_eq_false c3
    clear c3
    by_cases c4 : (a0.size : Int) > 1
    · rw [if_pos c4] at H
      have c4b0 : decide (1 < (a0.size : Int)) = true := decide_eq_true c4
      have c4b1 : decide (1 < a0.size) = true := decide_eq_true (by omega)
      clear c4
      by_cases c5 : 0 < (a0.size : Int)
      · rw [if_pos c5] at H
        have c5b0 : decide (0 < (a0.size : Int)) = true := decide_eq_true c5
        have c5b1 : decide (0 < a0.size) = true := decide_eq_true (by omega)
        clear c5
        by_cases c7 : (bt a0 0) = 48
        · rw [if_pos c7] at H
          have c7b0 : ((bt a0 0) == 48) = true := beq_iff_eq.mpr c7
          have c7b1 : ((bt a0 0) != 48) = false := bne_eq_false_iff_eq.mpr c7
          clear c7
          obtain rfl := Option.some.inj H
          have p6 : 0 ≤ (0 : Int) := (by omega)
          have q6 : 0 < a0.size := (by have : (0 : Int) < (a0.size : Int) := of_decide_eq_true (by first | (with_reducible assumption) | assumption); omega)
          have hx6 : ∀ h : 0 < a0.size, ((a0[0]'h).toNat : Int) = bt a0 0 := bt_at a0 0
          clear p6
          have qi6 : (0 < (a0.size : Int)) = True := eq_true (of_decide_eq_true (by first | (with_reducible assumption) | assumption))
          replace q6 := eq_true q6
          go_enter Tryz.func54, Tryz.ntmps54
          go_wp2
          go_ret
          exact ⟨by first | rfl | (simp; done) | (simp [*]; done), by repeat (first | exact Drawn0.refl _ | apply Drawn0.step)⟩
        · rw [if_neg c7] at H
          have c7b0 : ((bt a0 0) == 48) = false := beq_eq_false_iff_ne.mpr c7
          have c7b1 : ((bt a0 0) != 48) = true := bne_iff_ne.mpr c7
          replace H := Option.bind_eq_some_iff.mp H
          obtain ⟨t120, A80, H⟩ := H
          replace H : (some t120) = some r := H
          have A8 := Aside0.mk A80
          clear A80
          obtain rfl := Option.some.inj H
          have p6 : 0 ≤ (0 : Int) := (by omega)
          have q6 : 0 < a0.size := (by have : (0 : Int) < (a0.size : Int) := of_decide_eq_true (by first | (with_reducible assumption) | assumption); omega)
          have hx6 : ∀ h : 0 < a0.size, ((a0[0]'h).toNat : Int) = bt a0 0 := bt_at a0 0
          clear p6
          have qi6 : (0 < (a0.size : Int)) = True := eq_true (of_decide_eq_true (by first | (with_reducible assumption) | assumption))
          replace q6 := eq_true q6
          go_enter Tryz.func54, Tryz.ntmps54
          go_wp2_with (first | ((with_reducible refine gate_callee (f := 58) rfl ?_); refine goesL_ (some 20) rfl rfl Tryz.func58 (by kernel_rfl) rfl #[.string a0] rfl (by (try simp only [List.map_toArray, List.map_cons, List.map_nil]); first | done | rfl | (simp only [List.length_drop, List.length_take]; rfl)) ?_; (with_reducible refine (qanatref04_digits.calls k a0 t120 _ A8.out).mono ?_); rintro e w' ⟨rfl, ⟨nd, rfl⟩⟩; refine ⟨_, rfl, ?_⟩))
          go_ret
          exact ⟨by first | rfl | (simp; done) | (simp [*]; done), by repeat (first | exact Drawn0.refl _ | apply Drawn0.step)⟩
      · rw [if_neg c5] at H
        exact absurd H (by simp)
    · rw [if_neg c4] at H
      have c4b0 : decide (1 < (a0.size : Int)) = false := decide_eq_false c4
      have c4b1 : decide (1 < a0.size) = false := decide_eq_false (by omega)
      clear c4
      replace H := Option.bind_eq_some_iff.mp H
      obtain ⟨t121, A90, H⟩ := H
      replace H : (some t121) = some r := H
      have A9 := Aside0.mk A90
      clear A90
      obtain rfl := Option.some.inj H
      go_enter Tryz.func54, Tryz.ntmps54
      go_wp2_with (first | ((with_reducible refine gate_callee (f := 58) rfl ?_); refine goesL_ (some 20) rfl rfl Tryz.func58 (by kernel_rfl) rfl #[.string a0] rfl (by (try simp only [List.map_toArray, List.map_cons, List.map_nil]); first | done | rfl | (simp only [List.length_drop, List.length_take]; rfl)) ?_; (with_reducible refine (qanatref04_digits.calls k a0 t121 _ A9.out).mono ?_); rintro e w' ⟨rfl, ⟨nd, rfl⟩⟩; refine ⟨_, rfl, ?_⟩))
      go_ret
      exact ⟨by first | rfl | (simp; done) | (simp [*]; done), by repeat (first | exact Drawn0.refl _ | apply Drawn0.step)⟩

end Go.Proofs.YteobeikcakoaaaaGreatDoor.Cal

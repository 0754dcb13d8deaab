/-
  cal: ReadDay reads what Date wrote, and Date writes what ReadDay read.
-/
import Derived.Test.YteobeikcakoaaaaGreatDoorDm
import Derived.Test.YteobeikcakoaaaaGreatDoorBn
namespace Go.Proofs.YteobeikcakoaaaaGreatDoor.Pure
set_option linter.unusedSimpArgs false
set_option linter.unusedVariables false
open Go.RowKit Go.Proofs.YteobeikcakoaaaaGreatDoor.Given Go.Proofs.YteobeikcakoaaaaGreatDoor.Aux Go.Proofs.YteobeikcakoaaaaGreatDoorW.PrintWords Go.Proofs.YteobeikcakoaaaaGreatDoorW.PrintLast Go.Proofs.YteobeikcakoaaaaGreatDoorW.PrintMore

/-- The date of a day, in naturals. -/
structure DT (n y m d : Nat) : Prop where
  ey : yr n = y
  em : mon n = m
  ed : dom n = d
  y1 : 1 ≤ y ∧ y ≤ 9999
  m1 : 1 ≤ m ∧ m ≤ 12
  d1 : 1 ≤ d ∧ d ≤ 31
  b1 : bef y ≤ n
  b2 : (n : Int) < bef (y + 1)
  dy : cal_DayOf.f y m d = some ((n : Int), 0)
theorem dt (n : Nat) (hn : n ≤ 3652058) : ∃ y m d, DT n y m d := by
  obtain ⟨y1, y2, y3, y4, b1, m1, m2, m3, m4⟩ := mf n (by omega) (by omega)
  have hd : dom n = n - bef (yr n) - cum (yr n) (mon n - 1) + 1 := rfl
  have cs := cum_step (yr n) (mon n) m1
  have hl := lenN_bd (yr n) (mon n - 1)
  obtain ⟨y, hy⟩ : ∃ y : Nat, yr n = y := ⟨(yr n).toNat, by omega⟩
  obtain ⟨d, hdd⟩ : ∃ d : Nat, dom n = d := ⟨(dom n).toNat, by omega⟩
  refine ⟨y, mon n, d, hy, rfl, hdd, by omega, ⟨m1, m2⟩, by omega, by rw [← hy]; exact y1, by rw [← hy]; exact y2, ?_⟩
  have e : ((mon n : Nat) : Int).toNat - 1 = mon n - 1 := by omega
  rw [← hy, ← hdd]
  unfold cal_DayOf.f num
  rw [e, if_pos ⟨⟨⟨y3, y4⟩, by omega, by omega⟩, by omega, by omega⟩, hd]
  congr 2
  omega
theorem day_inv {y m d r : Int} (h : cal_DayOf.f y m d = some (r, 0)) : 0 ≤ r ∧ r ≤ 3652058 ∧ yr r = y ∧ (mon r : Int) = m ∧ dom r = d := by
  unfold cal_DayOf.f at h
  split at h
  · rename_i hc
    obtain ⟨⟨⟨y1, y2⟩, m1, m2⟩, d1, d2⟩ := hc
    have h := Option.some.inj h
    have hr : num y m d = r := (Prod.mk.inj h).1
    unfold num at hr
    obtain ⟨k, hk⟩ : ∃ k : Nat, m = k := ⟨m.toNat, by omega⟩
    subst hk
    have e : ((k : Int)).toNat - 1 = k - 1 := by omega
    rw [e] at hr d2
    have cs := cum_step y k (by omega)
    have cb := cum_bd y (k - 1)
    have hb := bef_bd y (by omega) (by omega)
    have cm := cum_mono y k (12 - k)
    rw [show k + (12 - k) = 12 by omega, cum12] at cm
    have bn := bef_next y (by omega)
    have bm := bef_mono (y + 1) 10000 (by omega)
    have h11 : bef 10000 = 3652059 := by decide
    have u := date_uniq r y k (by omega) (by omega) (by omega) (by omega) (by omega) (by omega) (by omega) (by omega)
    refine ⟨by omega, by omega, u.1, by rw [u.2.1], by rw [u.2.2]; omega⟩
  · have h := Option.some.inj h
    have := (Prod.mk.inj h).2
    omega
theorem made_of {y m d r e : Int} (h : cal_DayOf.f y m d = some (r, e)) : made.f y m d = (r, e == 0) := by
  unfold made.f
  rw [h]
  rfl
theorem made_inv {y m d r : Int} (h : made.f y m d = (r, true)) : cal_DayOf.f y m d = some (r, 0) := by
  obtain ⟨⟨a, e⟩, hr⟩ : ∃ r, cal_DayOf.f y m d = some r := ⟨_, rfl⟩
  rw [made_of hr] at h
  have h1 := (Prod.mk.inj h).1
  have h2 := (Prod.mk.inj h).2
  have h3 : e = 0 := by simpa using h2
  rw [hr, h1, h3]
theorem tmod_lo (x : Int) : -100 < Int.tmod x 100 ∧ Int.tmod x 100 < 100 ∧ (Int.tmod x 100 - x) % 100 = 0 := by
  rcases Int.lt_or_le x 0 with h | h
  · obtain ⟨y, rfl⟩ : ∃ y, x = -y := ⟨-x, by omega⟩
    rw [Int.neg_tmod, Int.tmod_eq_emod_of_nonneg (by omega)]
    omega
  · rw [Int.tmod_eq_emod_of_nonneg h]
    omega
theorem tmod100 (x : Int) : Int.tmod (Int.tmod x 100 + 100) 100 = x % 100 := by
  have h := tmod_lo x
  rw [Int.tmod_eq_emod_of_nonneg (a := Int.tmod x 100 + 100) (by omega)]
  omega
theorem near_is (n y : Int) (hn : 0 ≤ n ∧ n ≤ 99) (hy : 1 ≤ y ∧ y ≤ 9999) : nearV n y = y - 50 + (n - (y - 50)) % 100 := by
  have w : ∀ x : Int, -100000 ≤ x → x ≤ 100000 → wrap64 x = x := fun x h1 h2 => w64 (by omega)
  obtain ⟨h, h', _⟩ := tmod_lo (n - (y - 50))
  unfold nearV cal_near.f
  rw [w (y - 50) (by omega) (by omega), w (n - (y - 50)) (by omega) (by omega), w (Int.tmod (n - (y - 50)) 100 + 100) (by omega) (by omega), tmod100, w _ (by omega) (by omega)]
  rfl
theorem near_hit (v y : Int) (hv : y - 50 ≤ v ∧ v ≤ y + 49) (h1 : 1 ≤ v) (hy : 1 ≤ y ∧ y ≤ 9999) : nearV (v % 100) y = v := by
  rw [near_is _ _ (by omega) hy]
  omega
theorem near_mod (n y : Int) (hn : 0 ≤ n ∧ n ≤ 99) (hy : 1 ≤ y ∧ y ≤ 9999) : nearV n y % 100 = n := by
  rw [near_is _ _ hn hy]
  omega

/-- Date, in rows of bytes. -/
theorem c_Date {n y m d : Nat} (hn : n ≤ 3652058) (h : DT n y m d) (o : Int) (ho : dateOpts.contains o = true) : cal_Date.f (n : Int) o = some (bs (fmL n y m d o), 0) := by
  unfold cal_Date.f
  rw [if_pos (by omega), if_pos ho, h.ey, h.em, h.ed, c_fmtW n y m d o hn h.y1 h.m1 h.d1.2 h.b1]
  rfl
theorem opts8 {o : Int} (h : dayOpts.contains o = true) : o = 66 ∨ o = 68 ∨ o = 69 ∨ o = 73 ∨ o = 78 ∨ o = 79 ∨ o = 83 ∨ o = 85 := by simpa [dayOpts] using h
theorem day_date {o : Int} (h : dayOpts.contains o = true) : dateOpts.contains o = true := by
  rcases opts8 h with rfl | rfl | rfl | rfl | rfl | rfl | rfl | rfl <;> rfl
theorem rd_ok {s : ByteArray} {o t n : Int} (ht : 0 ≤ t ∧ t ≤ 3652058) (ho : dayOpts.contains o = true) (h : readDay.f s o t = some (n, true)) : cal_ReadDay.f s o t = some (n, 0) := by
  have hr : 0 ≤ o ∧ o < 256 := by rcases opts8 ho with rfl | rfl | rfl | rfl | rfl | rfl | rfl | rfl <;> decide
  unfold cal_ReadDay.f
  rw [if_pos ht, if_pos hr, if_pos ho, h]
  rfl
theorem rd_bad {s : ByteArray} {o t n : Int} (ht : 0 ≤ t ∧ t ≤ 3652058) (ho : dayOpts.contains o = true) (h : readDay.f s o t = some (n, false)) : cal_ReadDay.f s o t = some (0, 2) := by
  have hr : 0 ≤ o ∧ o < 256 := by rcases opts8 ho with rfl | rfl | rfl | rfl | rfl | rfl | rfl | rfl <;> decide
  unfold cal_ReadDay.f
  rw [if_pos ht, if_pos hr, if_pos ho, h]
  rfl
theorem readDay_tot (s : ByteArray) (o t : Int) (hs : s.size ≤ 100) : ∃ r, readDay.f s o t = some r := by
  obtain ⟨p, hp⟩ := plain_tot s 7 (by omega) (by omega)
  have hp : cal_plain.f s 7 = some p := hp
  unfold readDay.f
  split
  · rw [hp]; exact ⟨_, rfl⟩
  split
  · rw [hp]; exact ⟨_, rfl⟩
  split
  · exact three_tot _ _ _ _ _ _ _ _ (by omega) (by omega) (by omega) hs
  split
  · exact three_tot _ _ _ _ _ _ _ _ (by omega) (by omega) (by omega) hs
  split
  · exact normal_tot s hs
  split
  · exact three_tot _ _ _ _ _ _ _ _ (by omega) (by omega) (by omega) hs
  split
  · exact three_tot _ _ _ _ _ _ _ _ (by omega) (by omega) (by omega) hs
  · exact three_tot _ _ _ _ _ _ _ _ (by omega) (by omega) (by omega) hs
theorem pad2 (n : Nat) (h : n < 100) : (padL n 2).length = 2 := pad_len n 2 (by omega) (by omega)
theorem pad4 (n : Nat) (h : n < 10000) : (padL n 4).length = 4 := pad_len n 4 (by omega) (by omega)
/-- What is asked of the years of a day and of today, by option. -/
def yearsOk (o : Int) (y t : Int) : Prop := (o = 69 ∨ o = 79 ∨ o = 85 → y - t ≤ 49 ∧ t - y ≤ 49) ∧ (o = 68 → y = t)
theorem rd_fmt {n y m d : Nat} (hn : n ≤ 3652058) (h : DT n y m d) (t : Int) (ht : 0 ≤ t ∧ t ≤ 3652058) (o : Int) (ho : dayOpts.contains o = true) (hyt : yearsOk o y (yr t)) : readDay.f (bs (fmL n y m d o)) o t = some ((n : Int), true) := by
  have hty := yr_spec t ht.1 ht.2
  have hm := made_of h.dy
  have hy := h.y1
  have hmm := h.m1
  have hdd := h.d1
  have ey : ((y % 100 : Nat) : Int) = (y : Int) % 100 := by omega
  have b1 := h.b1
  have b2 := h.b2
  rcases opts8 ho with rfl | rfl | rfl | rfl | rfl | rfl | rfl | rfl
  · show (cal_plain.f (bs (Lib.decDigits n)) 7).bind _ = _
    rw [show (7 : Int) = ((7 : Nat) : Int) from rfl, plain_hit n 7 (by omega) (dec_len_le n 7 (by omega) (by omega)), Option.bind_some]
    have : knownB (n : Int) = true := by simp [knownB]; omega
    rw [this]; rfl
  · have e := hyt.2 rfl
    have hbd := bef_bd y (by omega) (by omega)
    obtain ⟨x, hx⟩ : ∃ x : Nat, (n : Int) - bef y + 1 = x := ⟨((n : Int) - bef y + 1).toNat, by omega⟩
    have ef : fmL n y m d 68 = Lib.decDigits x := by
      show Lib.decDigits ((n : Int) - bef y + 1).toNat = _
      rw [hx, Int.toNat_natCast]
    show (cal_plain.f (bs (fmL n y m d 68)) 7).bind _ = _
    rw [ef, show (7 : Int) = ((7 : Nat) : Int) from rfl, plain_hit x 7 (by omega) (dec_len_le x 7 (by omega) (by omega)), Option.bind_some, ← e]
    have : withinB (x : Int) 1 (bef (y + 1) - bef y) = true := by simp [withinB]; omega
    rw [this]
    congr 2
    omega
  · have e := hyt.1 (by simp)
    show threeF (bs (padL d 2 ++ [47] ++ padL m 2 ++ [47] ++ padL (y % 100) 2)) 2 (bs [47]) 2 (bs [47]) 2 (bs []) (fun a b c => made.f (nearV c (yr t)) b a) = _
    rw [show padL d 2 ++ [47] ++ padL m 2 ++ [47] ++ padL (y % 100) 2 = padL d 2 ++ [47] ++ (padL m 2 ++ [47] ++ (padL (y % 100) 2 ++ [] ++ [])) by simp]
    rw [three_hit _ _ _ _ _ _ _ 2 2 2 (by omega) (by omega) (by omega) (pad2 _ (by omega)) (pad2 _ (by omega)) (pad2 _ (by omega)) (pad_dig _ _) (pad_dig _ _) (pad_dig _ _), pad_num, pad_num, pad_num, ey, near_hit _ _ (by omega) (by omega) (by omega), hm]
    rfl
  · show threeF (bs (padL y 4 ++ [45] ++ padL m 2 ++ [45] ++ padL d 2)) 4 (bs [45]) 2 (bs [45]) 2 (bs []) _ = _
    rw [show padL y 4 ++ [45] ++ padL m 2 ++ [45] ++ padL d 2 = padL y 4 ++ [45] ++ (padL m 2 ++ [45] ++ (padL d 2 ++ [] ++ [])) by simp]
    rw [three_hit _ _ _ _ _ _ _ 4 2 2 (by omega) (by omega) (by omega) (pad4 _ (by omega)) (pad2 _ (by omega)) (pad2 _ (by omega)) (pad_dig _ _) (pad_dig _ _) (pad_dig _ _), pad_num, pad_num, pad_num, hm]
    rfl
  · show normalDay.f (bs (Lib.decDigits d ++ [32] ++ ((monL m).take 3 ++ [32] ++ padL y 4))) = _
    rw [normal_hit d m _ (dec_len_le d 2 (by omega) (by omega)) hmm (pad4 y (by omega)) (pad_dig _ _), pad_num, hm]
    rfl
  · have e := hyt.1 (by simp)
    show threeF (bs (padL (y % 100) 2 ++ [47] ++ padL m 2 ++ [47] ++ padL d 2)) 2 (bs [47]) 2 (bs [47]) 2 (bs []) (fun a b c => made.f (nearV a (yr t)) b c) = _
    rw [show padL (y % 100) 2 ++ [47] ++ padL m 2 ++ [47] ++ padL d 2 = padL (y % 100) 2 ++ [47] ++ (padL m 2 ++ [47] ++ (padL d 2 ++ [] ++ [])) by simp]
    rw [three_hit _ _ _ _ _ _ _ 2 2 2 (by omega) (by omega) (by omega) (pad2 _ (by omega)) (pad2 _ (by omega)) (pad2 _ (by omega)) (pad_dig _ _) (pad_dig _ _) (pad_dig _ _), pad_num, pad_num, pad_num, ey, near_hit _ _ (by omega) (by omega) (by omega), hm]
    rfl
  · show threeF (bs (padL y 4 ++ [] ++ padL m 2 ++ [] ++ padL d 2)) 4 (bs []) 2 (bs []) 2 (bs []) _ = _
    rw [show padL y 4 ++ [] ++ padL m 2 ++ [] ++ padL d 2 = padL y 4 ++ [] ++ (padL m 2 ++ [] ++ (padL d 2 ++ [] ++ [])) by simp]
    rw [three_hit _ _ _ _ _ _ _ 4 2 2 (by omega) (by omega) (by omega) (pad4 _ (by omega)) (pad2 _ (by omega)) (pad2 _ (by omega)) (pad_dig _ _) (pad_dig _ _) (pad_dig _ _), pad_num, pad_num, pad_num, hm]
    rfl
  · have e := hyt.1 (by simp)
    show threeF (bs (padL m 2 ++ [47] ++ padL d 2 ++ [47] ++ padL (y % 100) 2)) 2 (bs [47]) 2 (bs [47]) 2 (bs []) (fun a b c => made.f (nearV c (yr t)) a b) = _
    rw [show padL m 2 ++ [47] ++ padL d 2 ++ [47] ++ padL (y % 100) 2 = padL m 2 ++ [47] ++ (padL d 2 ++ [47] ++ (padL (y % 100) 2 ++ [] ++ [])) by simp]
    rw [three_hit _ _ _ _ _ _ _ 2 2 2 (by omega) (by omega) (by omega) (pad2 _ (by omega)) (pad2 _ (by omega)) (pad2 _ (by omega)) (pad_dig _ _) (pad_dig _ _) (pad_dig _ _), pad_num, pad_num, pad_num, ey, near_hit _ _ (by omega) (by omega) (by omega), hm]
    rfl
theorem pad_back {x : List UInt8} {k : Nat} {v : Nat} (hl : x.length = k) (hk : 1 ≤ k) (hd : x.all isDig = true) (hv : numL x = v) : x = padL v k := by
  have := pad_of x hd (by intro e; subst e; simp at hl; omega)
  rw [hv, Int.toNat_natCast, hl] at this
  exact this.symm
theorem num2 {x : List UInt8} (hl : x.length = 2) (hd : x.all isDig = true) : 0 ≤ numL x ∧ numL x ≤ 99 := by
  have := numL_bd x hd
  rw [hl] at this
  omega
theorem rd_back {s : ByteArray} {o t r : Int} (ht : 0 ≤ t ∧ t ≤ 3652058) (ho : dayOpts.contains o = true) (h : readDay.f s o t = some (r, true)) : 0 ≤ r ∧ r ≤ 3652058 ∧ cal_Date.f r o = some (s, 0) := by
  have hty := yr_spec t ht.1 ht.2
  have fin : ∀ {y m d : Int} (n : Int), cal_DayOf.f y m d = some (n, 0) → (∀ a b c k : Nat, n = k → y = a → m = b → d = c → s = bs (fmL k a b c o)) → 0 ≤ n ∧ n ≤ 3652058 ∧ cal_Date.f n o = some (s, 0) := by
    intro y m d n hn hs
    obtain ⟨n0, n1, ey, em, ed⟩ := day_inv hn
    obtain ⟨k, rfl⟩ : ∃ k : Nat, n = k := ⟨n.toNat, by omega⟩
    obtain ⟨a, b, c, hd⟩ := dt k (by omega)
    refine ⟨n0, n1, ?_⟩
    rw [c_Date (by omega) hd o (day_date ho), hs a b c k rfl (by rw [← ey, hd.ey]) (by rw [← em, hd.em]) (by rw [← ed, hd.ed])]
  rcases opts8 ho with rfl | rfl | rfl | rfl | rfl | rfl | rfl | rfl
  · obtain ⟨⟨p, f⟩, hp, h⟩ := Option.bind_eq_some_iff.1 (show ((cal_plain.f s 7).bind fun p => some (p.1, p.2 && knownB p.1)) = some (r, true) from h)
    have h := Option.some.inj h
    have h1 : p = r := (Prod.mk.inj h).1
    have h2 : f = true ∧ knownB p = true := by simpa using (Prod.mk.inj h).2
    obtain ⟨rfl, h3⟩ := h2
    subst h1
    obtain ⟨n, rfl, rfl, _⟩ := plain_inv (k := 7) hp
    have h4 : 0 ≤ (n : Int) ∧ (n : Int) ≤ 3652058 := by simpa [knownB] using h3
    obtain ⟨a, b, c, hd⟩ := dt n (by omega)
    exact ⟨h4.1, h4.2, by rw [c_Date (by omega) hd 66 rfl]; rfl⟩
  · obtain ⟨⟨p, f⟩, hp, h⟩ := Option.bind_eq_some_iff.1 (show ((cal_plain.f s 7).bind fun p => some (bef (yr t) + p.1 - 1, p.2 && withinB p.1 1 (bef (yr t + 1) - bef (yr t)))) = some (r, true) from h)
    have h := Option.some.inj h
    have h1 : bef (yr t) + p - 1 = r := (Prod.mk.inj h).1
    have h2 : f = true ∧ withinB p 1 (bef (yr t + 1) - bef (yr t)) = true := by simpa using (Prod.mk.inj h).2
    obtain ⟨rfl, h3⟩ := h2
    obtain ⟨n, rfl, rfl, _⟩ := plain_inv (k := 7) hp
    have h4 : 1 ≤ (n : Int) ∧ (n : Int) ≤ bef (yr t + 1) - bef (yr t) := by simpa [withinB] using h3
    have hb := bef_bd (yr t) (by omega) (by omega)
    have bm := bef_mono (yr t + 1) 10000 (by omega)
    have h11 : bef 10000 = 3652059 := by decide
    obtain ⟨k, rfl⟩ : ∃ k : Nat, r = k := ⟨r.toNat, by omega⟩
    obtain ⟨a, b, c, hd⟩ := dt k (by omega)
    have hk := yr_spec k (by omega) (by omega)
    have ey : yr k = yr t := yr_uniq k _ _ hk.1 hk.2.1 (by omega) (by omega)
    refine ⟨by omega, by omega, ?_⟩
    rw [c_Date (by omega) hd 68 rfl]
    show some (bs (Lib.decDigits ((k : Int) - bef a + 1).toNat), (0 : Int)) = _
    rw [← hd.ey, ey, show (k : Int) - bef (yr t) + 1 = n by omega, Int.toNat_natCast]
  · obtain ⟨x, y, z, rfl, l1, l2, l3, d1, d2, d3, hg⟩ := three_inv (p1 := [47]) (p2 := [47]) (p3 := []) (show threeF s 2 ⟨#[47]⟩ 2 ⟨#[47]⟩ 2 ⟨#[]⟩ (fun a b c => made.f (nearV c (yr t)) b a) = some (r, true) from h)
    refine fin r (made_inv hg) fun a b c k e ea eb ec => ?_
    have hz := near_mod (numL z) (yr t) (num2 l3 d3) (by omega)
    rw [ea] at hz
    have e1 := pad_back l1 (by omega) d1 ec
    have e2 := pad_back l2 (by omega) d2 eb
    have e3 := pad_back (v := a % 100) l3 (by omega) d3 (by omega)
    congr 1
    show _ = padL c 2 ++ [47] ++ padL b 2 ++ [47] ++ padL (a % 100) 2
    rw [← e1, ← e2, ← e3]
    simp
  · obtain ⟨x, y, z, rfl, l1, l2, l3, d1, d2, d3, hg⟩ := three_inv (p1 := [45]) (p2 := [45]) (p3 := []) (show threeF s 4 ⟨#[45]⟩ 2 ⟨#[45]⟩ 2 ⟨#[]⟩ (fun a b c => made.f a b c) = some (r, true) from h)
    refine fin r (made_inv hg) fun a b c k e ea eb ec => ?_
    have e1 := pad_back l1 (by omega) d1 ea
    have e2 := pad_back l2 (by omega) d2 eb
    have e3 := pad_back l3 (by omega) d3 ec
    congr 1
    show _ = padL a 4 ++ [45] ++ padL b 2 ++ [45] ++ padL c 2
    rw [← e1, ← e2, ← e3]
    simp
  · obtain ⟨dd, m, yl, rfl, hd, m1, m2, hy, hyd, hg⟩ := normal_inv (show normalDay.f s = some (r, true) from h)
    refine fin r (made_inv hg) fun a b c k e ea eb ec => ?_
    have e1 := pad_back hy (by omega) hyd ea
    obtain rfl : m = b := by omega
    obtain rfl : dd = c := by omega
    rw [e1]
    rfl
  · obtain ⟨x, y, z, rfl, l1, l2, l3, d1, d2, d3, hg⟩ := three_inv (p1 := [47]) (p2 := [47]) (p3 := []) (show threeF s 2 ⟨#[47]⟩ 2 ⟨#[47]⟩ 2 ⟨#[]⟩ (fun a b c => made.f (nearV a (yr t)) b c) = some (r, true) from h)
    refine fin r (made_inv hg) fun a b c k e ea eb ec => ?_
    have hz := near_mod (numL x) (yr t) (num2 l1 d1) (by omega)
    rw [ea] at hz
    have e1 := pad_back (v := a % 100) l1 (by omega) d1 (by omega)
    have e2 := pad_back l2 (by omega) d2 eb
    have e3 := pad_back l3 (by omega) d3 ec
    congr 1
    show _ = padL (a % 100) 2 ++ [47] ++ padL b 2 ++ [47] ++ padL c 2
    rw [← e1, ← e2, ← e3]
    simp
  · obtain ⟨x, y, z, rfl, l1, l2, l3, d1, d2, d3, hg⟩ := three_inv (p1 := []) (p2 := []) (p3 := []) (show threeF s 4 ⟨#[]⟩ 2 ⟨#[]⟩ 2 ⟨#[]⟩ (fun a b c => made.f a b c) = some (r, true) from h)
    refine fin r (made_inv hg) fun a b c k e ea eb ec => ?_
    have e1 := pad_back l1 (by omega) d1 ea
    have e2 := pad_back l2 (by omega) d2 eb
    have e3 := pad_back l3 (by omega) d3 ec
    congr 1
    show _ = padL a 4 ++ [] ++ padL b 2 ++ [] ++ padL c 2
    rw [← e1, ← e2, ← e3]
    simp
  · obtain ⟨x, y, z, rfl, l1, l2, l3, d1, d2, d3, hg⟩ := three_inv (p1 := [47]) (p2 := [47]) (p3 := []) (show threeF s 2 ⟨#[47]⟩ 2 ⟨#[47]⟩ 2 ⟨#[]⟩ (fun a b c => made.f (nearV c (yr t)) a b) = some (r, true) from h)
    refine fin r (made_inv hg) fun a b c k e ea eb ec => ?_
    have hz := near_mod (numL z) (yr t) (num2 l3 d3) (by omega)
    rw [ea] at hz
    have e1 := pad_back l1 (by omega) d1 eb
    have e2 := pad_back l2 (by omega) d2 ec
    have e3 := pad_back (v := a % 100) l3 (by omega) d3 (by omega)
    congr 1
    show _ = padL b 2 ++ [47] ++ padL c 2 ++ [47] ++ padL (a % 100) 2
    rw [← e1, ← e2, ← e3]
    simp
end Go.Proofs.YteobeikcakoaaaaGreatDoor.Pure

/- Part 7 of a proof layer and of the contracts of the functions (XL1 XL2 XL3 XL4 XV6). -/
import Derived.Test.YtcaecieigoplbaaGreatW6
set_option linter.unusedVariables false
set_option linter.unusedSimpArgs false
namespace Go.AL
/-- the int that is returned for a number, whether or not there is one -/
def smallV (x : Int) : Int := if 18446744073709551616 ≤ x.natAbs then 0 else if 0 ≤ x then x % 9223372036854775808 else if x < -9223372036854775808 then 0 else x
theorem smallV_eq {x : Int} (h : I64 x) : smallV x = x := by
  unfold I64 at h
  unfold smallV
  rw [if_neg (by omega)]
  split
  · omega
  · rw [if_neg (by omega)]
theorem big_of_len {x : Int} (h : 2 < (toW x.natAbs).length) : 18446744073709551616 ≤ x.natAbs := by
  have h1 := BB_len_le (z := x.natAbs) (by
    rcases Nat.eq_zero_or_pos x.natAbs with h0 | h0
    · rw [h0, show ((0 : Nat) : Int) = 0 from rfl, toW_zero] at h; simp at h
    · omega)
  have h2 := BB_le (show 2 ≤ (toW x.natAbs).length - 1 by omega)
  rw [BB_2] at h2
  omega
theorem bitN_and63 {a : Int} (h : 0 ≤ a) : bitN .and a 9223372036854775807 = a % 9223372036854775808 := by
  show ((a.toNat &&& 9223372036854775807 : Nat) : Int) = _
  have : a.toNat &&& 9223372036854775807 = a.toNat % 2 ^ 63 := Nat.and_two_pow_sub_one_eq_mod a.toNat 63
  rw [this]
  omega
end Go.AL
namespace Go.Proofs.YtcaecieigoplbaaGreat
open Go.AL

theorem rSmall_ok (x : Int) : PureFn Tryz.prog 26 [aX x] (.tup [aN (smallV x), aB (decide (I64 x))]) := by
  refine PureFn.of_body Tryz.func26 rfl Tryz.ntmps26 rfl rfl ?_
  have wx := toW_ok x.natAbs
  have vx := val_toW (show (0 : Int) ≤ x.natAbs by omega)
  repeat' (first |refine Fl.v rfl rfl rfl ?_ |refine Fl.nilF ?_ |refine AWP.seq ?_ |refine AWP.region ?_ |refine Fl.b rfl rfl rfl rfl ?_ |refine AWP.block ?_ |fail)
  refine AWP.loop (G := Nat × Int) (fun (i, m) => i ≤ (toW x.natAbs).length ∧ i ≤ 2 ∧ m = val ((toW x.natAbs).take i) ∧ 0 ≤ m ∧ m < BB i ∧ m ≤ 18446744073709551615)
      (fun (i, m) => St.of [] [(1, .ptr 1 0), (4, .v (.int .u64 m)), (5, aN i)] [(1, .cells (eX x) 35)])
      (fun (i, m) => (toW x.natAbs).length - i) (0, 0) ⟨by omega, by omega, by simp [val], by omega, by rw [BB_zero]; omega, by omega⟩ ?_ ?_
  · refine Ent.of [] ?_ ?_ rfl rfl
    repeat' (first | exact True.intro |refine ⟨⟨AV.Le.refl _, rfl⟩, ?_⟩ |refine ⟨⟨AV.Le.any _, rfl⟩, ?_⟩ |refine ⟨⟨⟨_, rfl, BLe.cells (LeL.refl _)⟩, rfl⟩, ?_⟩ |refine ⟨⟨⟨_, rfl, BLe.row rfl⟩, rfl⟩, ?_⟩ |refine ⟨⟨⟨_, rfl, BLe.row ?_⟩, rfl⟩, ?_⟩ |refine ⟨⟨⟨_, rfl, BLe.cells ?_⟩, rfl⟩, ?_⟩ |refine ⟨⟨AV.Le.int ?_, rfl⟩, ?_⟩ |refine ⟨⟨AV.Le.bool ?_, rfl⟩, ?_⟩ |refine ⟨⟨AV.Le.sl ?_, rfl⟩, ?_⟩ |refine ⟨⟨AV.Le.of_eq ?_, rfl⟩, ?_⟩ | fail)
  · intro (i, m) ⟨k0, k5, k1, k2, k3, k4⟩
    by_cases hi : i < (toW x.natAbs).length
    · by_cases hi2 : i < 2
      · obtain ⟨u, hu⟩ : ∃ u, (toW x.natAbs)[i]? = some u := ⟨_, List.getElem?_eq_getElem hi⟩
        have hub := wx u (List.mem_of_getElem? hu)
        have hb : BB (i + 1) ≤ BB 2 := BB_le (by omega)
        rw [BB_2] at hb
        have hlt : m + BB i * u < BB (i + 1) := by
          rw [BB_succ]
          have h5 := BB_pos i
          have h6 : BB i * u ≤ BB i * 4294967295 := Int.mul_le_mul_of_nonneg_left (by omega) (by omega)
          omega
        have h0 : 0 ≤ BB i * u := Int.mul_nonneg (Int.le_of_lt (BB_pos i)) hub.1
        have hsh : u * 2 ^ (32 * (i : Int)).toNat % 18446744073709551616 = BB i * u := by
          rcases (show i = 0 ∨ i = 1 by omega) with rfl | rfl
          · rw [BB_zero, show (32 * ((0 : Nat) : Int)).toNat = 0 from rfl]; omega
          · rw [show BB 1 = 4294967296 by rw [BB_succ, BB_zero]; rfl, show (32 * ((1 : Nat) : Int)).toNat = 32 from rfl]; omega
        repeat' (first |refine Fl.v rfl rfl rfl ?_ |refine Fl.nilF ?_ |refine AWP.seq ?_ |refine AWP.region ?_ |refine Fl.w rfl rfl rfl (by first | exact True.intro | omega) ?_ |(refine AWP.condD rfl ?_ ?_ <;> intro _ <;> try (exfalso; omega)) |refine AWP.block ?_ |refine AWP.skip ?_ |refine Fl.elK rfl rfl rfl rfl rfl rfl rfl rfl (by assumption) (by omega) ?_ |fail)
        refine LoopEnd.of (i + 1, m + BB i * u) ⟨by omega, by omega, by rw [k1, val_take_succ hu], by omega, hlt, by omega⟩ (show (toW x.natAbs).length - (i + 1) < (toW x.natAbs).length - i by omega) ?_
        refine Ent.of [] ?_ ?_ rfl rfl
        repeat' (first | exact True.intro |refine ⟨⟨AV.Le.refl _, rfl⟩, ?_⟩ |refine ⟨⟨AV.Le.any _, rfl⟩, ?_⟩ |refine ⟨⟨⟨_, rfl, BLe.cells (LeL.refl _)⟩, rfl⟩, ?_⟩ |refine ⟨⟨⟨_, rfl, BLe.row rfl⟩, rfl⟩, ?_⟩ |refine ⟨⟨⟨_, rfl, BLe.row ?_⟩, rfl⟩, ?_⟩ |refine ⟨⟨⟨_, rfl, BLe.cells ?_⟩, rfl⟩, ?_⟩ |refine ⟨⟨AV.Le.int ?_, rfl⟩, ?_⟩ |refine ⟨⟨AV.Le.bool ?_, rfl⟩, ?_⟩ |refine ⟨⟨AV.Le.sl ?_, rfl⟩, ?_⟩ |refine ⟨⟨AV.Le.of_eq ?_, rfl⟩, ?_⟩ | fail)
        rw [hsh]
      · have hbig := big_of_len (x := x) (by omega)
        repeat' (first |refine Fl.v rfl rfl rfl ?_ |refine Fl.nilF ?_ |refine AWP.seq ?_ |refine AWP.region ?_ |(refine AWP.condD rfl ?_ ?_ <;> intro _ <;> try (exfalso; omega)) |refine AWP.block ?_ |refine AWP.skip ?_ |refine AWP.ret ?_ |fail)
        refine RetOk.of rfl (AV.Le.tup (LeL.cons (AV.Le.int ?_) (LeL.cons (AV.Le.bool ?_) LeL.nil)))
        · unfold smallV; rw [if_pos hbig]
        · exact (decide_eq_false (by unfold I64; omega)).symm
    · have hm : m = x.natAbs := by rw [k1, show i = (toW x.natAbs).length by omega, List.take_length, vx]
      by_cases hx0 : x < 0
      · by_cases hxb : 9223372036854775808 < m
        · repeat' (first |refine Fl.v rfl rfl rfl ?_ |refine Fl.nilF ?_ |refine AWP.seq ?_ |refine AWP.region ?_ |(refine AWP.condD rfl ?_ ?_ <;> intro _ <;> try (exfalso; omega)) |(refine AWP.condN rfl ?_ ?_ <;> intro _ <;> try (exfalso; omega)) |refine AWP.skip ?_ |refine AWP.exit ?_ |refine AWP.ret ?_ |fail)
          refine RetOk.of rfl (AV.Le.tup (LeL.cons (AV.Le.int ?_) (LeL.cons (AV.Le.bool ?_) LeL.nil)))
          · unfold smallV; rw [if_neg (by omega), if_neg (by omega), if_pos (by omega)]
          · exact (decide_eq_false (by unfold I64; omega)).symm
        · repeat' (first |refine Fl.v rfl rfl rfl ?_ |refine Fl.nilF ?_ |refine AWP.seq ?_ |refine AWP.region ?_ |refine Fl.w rfl rfl rfl (by first | exact True.intro | omega) ?_ |(refine AWP.condD rfl ?_ ?_ <;> intro _ <;> try (exfalso; omega)) |(refine AWP.condN rfl ?_ ?_ <;> intro _ <;> try (exfalso; omega)) |refine AWP.skip ?_ |refine AWP.exit ?_ |refine AWP.ret ?_ |refine Fl.cvS rfl rfl rfl rfl rfl rfl ?_ |fail)
          refine RetOk.of rfl (AV.Le.tup (LeL.cons (AV.Le.int ?_) (LeL.cons (AV.Le.bool ?_) LeL.nil)))
          · rw [smallV_eq (by unfold I64; omega)]; omega
          · exact (decide_eq_true (by unfold I64; omega)).symm
      · repeat' (first |refine Fl.v rfl rfl rfl ?_ |refine Fl.nilF ?_ |refine AWP.seq ?_ |refine AWP.region ?_ |refine Fl.w rfl rfl rfl (by first | exact True.intro | omega) ?_ |(refine AWP.condD rfl ?_ ?_ <;> intro _ <;> try (exfalso; omega)) |(refine AWP.condN rfl ?_ ?_ <;> intro _ <;> try (exfalso; omega)) |refine AWP.exit ?_ |refine AWP.ret ?_ |refine Fl.cvS rfl rfl rfl rfl rfl rfl ?_ |fail)
        refine RetOk.of rfl (AV.Le.tup (LeL.cons (AV.Le.int ?_) (LeL.cons (AV.Le.bool ?_) LeL.nil)))
        · rw [bitN_and63 k2]; unfold smallV; rw [if_neg (by omega), if_pos (by omega)]; omega
        · rw [decide_eq_decide]; unfold I64; omega
theorem rfew_ok (x : Int) : PureFn Tryz.prog 104 [aX x] (.tup [aN (smallV x), aB (decide (0 ≤ x ∧ x ≤ 163840))]) := by
  refine PureFn.of_body Tryz.func104 rfl Tryz.ntmps104 rfl rfl ?_
  have hs := rSmall_ok x
  by_cases h : I64 x
  · rw [decide_eq_true h, smallV_eq h] at hs
    rw [smallV_eq h]
    by_cases h1 : 0 ≤ x ∧ x ≤ 163840
    · rw [decide_eq_true h1]
      repeat' (first |refine Fl.v rfl rfl rfl ?_ |refine Fl.nilF ?_ |refine AWP.seq ?_ |refine AWP.region ?_ |refine Fl.b rfl rfl rfl rfl ?_ |fail)
      refine Fl.call rfl (hs) rfl rfl rfl (LeL.refl _) ?_
      repeat' (first |refine Fl.v rfl rfl rfl ?_ |refine Fl.nilF ?_ |refine AWP.seq ?_ |refine AWP.region ?_ |refine AWP.ret ?_ |(refine Fl.splitD rfl rfl ?_ ?_ <;> intro _ <;> try (exfalso; omega)) |fail)
      exact RetOk.of rfl (AV.Le.tup (LeL.cons (AV.Le.refl _) (LeL.cons (AV.Le.bool (decide_eq_true (by omega))) LeL.nil)))
    · rw [decide_eq_false h1]
      repeat' (first |refine Fl.v rfl rfl rfl ?_ |refine Fl.nilF ?_ |refine AWP.seq ?_ |refine AWP.region ?_ |refine Fl.b rfl rfl rfl rfl ?_ |fail)
      refine Fl.call rfl (hs) rfl rfl rfl (LeL.refl _) ?_
      repeat' (first |refine Fl.v rfl rfl rfl ?_ |refine Fl.nilF ?_ |refine AWP.seq ?_ |refine AWP.region ?_ |refine Fl.skip rfl rfl ?_ |refine AWP.ret ?_ |(refine Fl.splitD rfl rfl ?_ ?_ <;> intro _ <;> try (exfalso; omega)) |fail)
      all_goals exact RetOk.of rfl (AV.Le.tup (LeL.cons (AV.Le.refl _) (LeL.cons (AV.Le.bool (by first | rfl | exact decide_eq_false (by omega))) LeL.nil)))
  · rw [decide_eq_false h] at hs
    rw [decide_eq_false (show ¬ (0 ≤ x ∧ x ≤ 163840) by unfold I64 at h; omega)]
    repeat' (first |refine Fl.v rfl rfl rfl ?_ |refine Fl.nilF ?_ |refine AWP.seq ?_ |refine AWP.region ?_ |refine Fl.b rfl rfl rfl rfl ?_ |fail)
    refine Fl.call rfl (hs) rfl rfl rfl (LeL.refl _) ?_
    repeat' (first |refine Fl.v rfl rfl rfl ?_ |refine Fl.nilF ?_ |refine AWP.seq ?_ |refine AWP.region ?_ |refine Fl.skip rfl rfl ?_ |refine AWP.ret ?_ |fail)
    exact RetOk.of rfl (AV.Le.refl _)
end Go.Proofs.YtcaecieigoplbaaGreat
namespace Go.AL
/-- how many binary digits -/
def bitl (n : Nat) : Nat := if n = 0 then 0 else Nat.log2 n + 1
theorem bitl_eq {n k : Nat} (h1 : 2 ^ k ≤ n) (h2 : n < 2 ^ (k + 1)) : bitl n = k + 1 := by
  have := Nat.two_pow_pos k
  rw [bitl, if_neg (by omega), (Nat.log2_eq_iff (by omega)).2 ⟨h1, h2⟩]
theorem bitl_lt (n : Nat) : n < 2 ^ bitl n := by
  unfold bitl
  split
  · omega
  · exact Nat.lt_log2_self
theorem bitl_ge {n : Nat} (h : n ≠ 0) : 1 ≤ bitl n ∧ 2 ^ (bitl n - 1) ≤ n := by
  unfold bitl
  rw [if_neg h]
  exact ⟨by omega, Nat.log2_self_le h⟩
theorem bitl_le {n k : Nat} (h : n < 2 ^ k) : bitl n ≤ k := by
  rcases Nat.eq_zero_or_pos n with h0 | h0
  · rw [bitl, if_pos h0]; omega
  · have h1 := bitl_ge (n := n) (by omega)
    have h2 : 2 ^ (bitl n - 1) < 2 ^ k := by omega
    have := (Nat.pow_lt_pow_iff_right (by omega : 1 < 2)).1 h2
    omega
/-- the words, and the digits of the last one -/
theorem bitl_words {m n k : Nat} {u lo : Int} (hk : 1 ≤ k) (hlo : 0 ≤ lo) (hlo2 : lo < BB n) (hm : (m : Int) = lo + BB n * u) (h1 : 2 ^ (k - 1) ≤ u.toNat) (h2 : u.toNat < 2 ^ k) : bitl m = 32 * n + k := by
  have hB : BB n = ((2 ^ (32 * n) : Nat) : Int) := by rw [BB_pow]; simp
  have hup : u = (u.toNat : Int) := by
    have := Nat.two_pow_pos (k - 1)
    omega
  have hlt : ∃ l : Nat, lo = (l : Int) := ⟨lo.toNat, by omega⟩
  obtain ⟨l, rfl⟩ := hlt
  have hm' : m = l + 2 ^ (32 * n) * u.toNat := by
    rw [hB, hup] at hm
    exact_mod_cast hm
  have hl : l < 2 ^ (32 * n) := by rw [hB] at hlo2; exact_mod_cast hlo2
  have e : 32 * n + k = (32 * n + (k - 1)) + 1 := by omega
  rw [e]
  refine bitl_eq ?_ ?_
  · rw [Nat.pow_add, hm']
    have := Nat.mul_le_mul_left (2 ^ (32 * n)) h1
    omega
  · rw [← e, Nat.pow_add, hm']
    have h3 : u.toNat + 1 ≤ 2 ^ k := h2
    have := Nat.mul_le_mul_left (2 ^ (32 * n)) h3
    rw [Nat.mul_add] at this
    omega
end Go.AL
namespace Go.Proofs.YtcaecieigoplbaaGreat
open Go.AL

theorem rBits_ok (x : Int) (hx : lenI x ≤ 100000) : PureFn Tryz.prog 105 [aX x] (aN (bitl x.natAbs)) := by
  refine PureFn.of_body Tryz.func105 rfl Tryz.ntmps105 rfl rfl ?_
  have wx := toW_ok x.natAbs
  have vx := val_toW (show (0 : Int) ≤ x.natAbs by omega)
  obtain ⟨n, hn⟩ : ∃ n, n = (toW x.natAbs).length := ⟨_, rfl⟩
  have hx' : n ≤ 100000 := by rw [hn]; exact hx
  by_cases h0 : n = 0
  · have hx0 : x.natAbs = 0 := by
      have : toW x.natAbs = [] := List.eq_nil_of_length_eq_zero (by omega)
      rw [this, val_nil] at vx
      omega
    repeat' (first |refine Fl.v rfl rfl rfl ?_ |refine Fl.nilF ?_ |refine AWP.seq ?_ |refine AWP.region ?_ |refine Fl.b rfl rfl rfl rfl ?_ |(refine AWP.condD rfl ?_ ?_ <;> intro _ <;> try (exfalso; omega)) |refine AWP.ret ?_ |fail)
    exact RetOk.of rfl (AV.Le.int (by rw [hx0]; rfl))
  · obtain ⟨u, hu⟩ : ∃ u, (toW x.natAbs)[n - 1]? = some u := ⟨_, List.getElem?_eq_getElem (by omega)⟩
    have hu' : (toW x.natAbs)[(((toW x.natAbs).length : Int) - 1).toNat]? = some u := by rwa [show (((toW x.natAbs).length : Int) - 1).toNat = n - 1 by omega]
    have hub := wx u (List.mem_of_getElem? hu)
    have hval := val_take_succ hu
    rw [show n - 1 + 1 = n by omega, hn, List.take_length, vx, ← hn] at hval
    have wt : WOk ((toW x.natAbs).take (n - 1)) := fun y hy => wx y (List.mem_of_mem_take hy)
    have hlo := val_nonneg wt
    have hlo2 := val_lt wt
    rw [List.length_take_of_le (by omega)] at hlo2
    have hx1 : x.natAbs ≠ 0 := by
      intro h
      rw [h, show ((0 : Nat) : Int) = 0 from rfl, toW_zero] at hn
      exact h0 hn
    have hge := BB_len_le (z := x.natAbs) (by omega)
    rw [← hn] at hge
    have hu1 : 1 ≤ u := by
      rcases Int.lt_or_le u 1 with h | h
      · have : u = 0 := by omega
        subst this
        omega
      · exact h
    repeat' (first |refine Fl.v rfl rfl rfl ?_ |refine Fl.nilF ?_ |refine AWP.seq ?_ |refine AWP.region ?_ |refine Fl.w rfl rfl rfl (by first | exact True.intro | omega) ?_ |refine Fl.b rfl rfl rfl rfl ?_ |(refine AWP.condD rfl ?_ ?_ <;> intro _ <;> try (exfalso; omega)) |refine AWP.block ?_ |refine AWP.skip ?_ |refine Fl.elK rfl rfl rfl rfl rfl rfl rfl rfl (by assumption) (by omega) ?_ |fail)
    refine AWP.loop (G := Nat) (fun k => k ≤ 32 ∧ (k = 0 ∨ 2 ^ (k - 1) ≤ u.toNat)) (fun k => St.of [] [(3, aN (toW x.natAbs).length), (4, aN k), (5, .v (.int .u32 ((u.toNat / 2 ^ k : Nat) : Int)))] []) (fun k => u.toNat / 2 ^ k) 0 ⟨by omega, .inl rfl⟩ ?_ ?_
    · refine Ent.of [] ?_ ?_ rfl rfl
      repeat' (first | exact True.intro |refine ⟨⟨AV.Le.refl _, rfl⟩, ?_⟩ |refine ⟨⟨AV.Le.any _, rfl⟩, ?_⟩ |refine ⟨⟨⟨_, rfl, BLe.cells (LeL.refl _)⟩, rfl⟩, ?_⟩ |refine ⟨⟨⟨_, rfl, BLe.row rfl⟩, rfl⟩, ?_⟩ |refine ⟨⟨⟨_, rfl, BLe.row ?_⟩, rfl⟩, ?_⟩ |refine ⟨⟨⟨_, rfl, BLe.cells ?_⟩, rfl⟩, ?_⟩ |refine ⟨⟨AV.Le.int ?_, rfl⟩, ?_⟩ |refine ⟨⟨AV.Le.bool ?_, rfl⟩, ?_⟩ |refine ⟨⟨AV.Le.sl ?_, rfl⟩, ?_⟩ |refine ⟨⟨AV.Le.of_eq ?_, rfl⟩, ?_⟩ | fail)
      rw [Nat.pow_zero, Nat.div_one]; omega
    · intro k ⟨k0, k1⟩
      obtain ⟨q, hq⟩ : ∃ q, q = u.toNat / 2 ^ k := ⟨_, rfl⟩
      have hq1 : u.toNat / 2 ^ (k + 1) = q / 2 := by rw [hq, Nat.pow_succ, ← Nat.div_div_eq_div_mul]
      rw [← hq]
      by_cases hw : 0 < q
      · have h2k : 2 ^ k ≤ u.toNat := by
          rcases Nat.lt_or_ge u.toNat (2 ^ k) with h | h
          · rw [Nat.div_eq_of_lt h] at hq; omega
          · exact h
        have hk32 : k < 32 := by
          have h3 : 2 ^ k < 2 ^ 32 := by omega
          exact (Nat.pow_lt_pow_iff_right (by omega : 1 < 2)).1 h3
        have hhi : hiK .u32 = 4294967295 := rfl
        have hqu : q ≤ u.toNat := by rw [hq]; exact Nat.div_le_self _ _
        repeat' (first |refine Fl.v rfl rfl rfl ?_ |refine Fl.nilF ?_ |refine AWP.seq ?_ |refine AWP.region ?_ |refine Fl.w rfl rfl rfl (by first | exact True.intro | omega) ?_ |(refine AWP.condD rfl ?_ ?_ <;> intro _ <;> try (exfalso; omega)) |refine AWP.block ?_ |refine AWP.skip ?_ |fail)
        refine LoopEnd.of (k + 1) ⟨by omega, .inr (by simpa using h2k)⟩ (by rw [hq1, ← hq]; omega) ?_
        refine Ent.of [] ?_ ?_ rfl rfl
        repeat' (first | exact True.intro |refine ⟨⟨AV.Le.refl _, rfl⟩, ?_⟩ |refine ⟨⟨AV.Le.any _, rfl⟩, ?_⟩ |refine ⟨⟨⟨_, rfl, BLe.cells (LeL.refl _)⟩, rfl⟩, ?_⟩ |refine ⟨⟨⟨_, rfl, BLe.row rfl⟩, rfl⟩, ?_⟩ |refine ⟨⟨⟨_, rfl, BLe.row ?_⟩, rfl⟩, ?_⟩ |refine ⟨⟨⟨_, rfl, BLe.cells ?_⟩, rfl⟩, ?_⟩ |refine ⟨⟨AV.Le.int ?_, rfl⟩, ?_⟩ |refine ⟨⟨AV.Le.bool ?_, rfl⟩, ?_⟩ |refine ⟨⟨AV.Le.sl ?_, rfl⟩, ?_⟩ |refine ⟨⟨AV.Le.of_eq ?_, rfl⟩, ?_⟩ | fail)
        rw [hq1]; omega
      · have hlt : u.toNat < 2 ^ k := by
          rcases Nat.lt_or_ge u.toNat (2 ^ k) with h | h
          · exact h
          · have := Nat.div_pos h (Nat.two_pow_pos k); omega
        have hk1 : 1 ≤ k := by
          rcases k1 with h | h
          · subst h; simp at hlt; omega
          · rcases Nat.eq_zero_or_pos k with h' | h'
            · subst h'; simp at hlt; omega
            · exact h'
        have hb := bitl_words hk1 hlo hlo2 hval (k1.resolve_left (by omega)) hlt
        repeat' (first |refine Fl.v rfl rfl rfl ?_ |refine Fl.nilF ?_ |refine AWP.seq ?_ |refine AWP.region ?_ |refine Fl.w rfl rfl rfl (by first | exact True.intro | omega) ?_ |(refine AWP.condD rfl ?_ ?_ <;> intro _ <;> try (exfalso; omega)) |refine AWP.exit ?_ |refine AWP.ret ?_ |fail)
        exact RetOk.of rfl (AV.Le.int (by rw [hb]; omega))
end Go.Proofs.YtcaecieigoplbaaGreat
namespace Go.AL
theorem pow_ge_one {x : Int} (h : 1 ≤ x) : ∀ k : Nat, 1 ≤ x ^ k
  | 0 => by rw [Int.pow_zero]; omega
  | k + 1 => by
    rw [Int.pow_succ]
    have h1 := pow_ge_one h k
    have := Int.mul_le_mul h1 h (by omega) (by omega)
    omega
theorem le_mul_one {a b : Int} (ha : 1 ≤ a) (hb : 0 ≤ b) : b ≤ b * a := by
  have := Int.mul_le_mul_of_nonneg_left ha hb
  omega
theorem sq_pow (x : Int) (k : Nat) : (x * x) ^ k = x ^ (2 * k) := by
  rw [Int.mul_pow, ← Int.pow_add]; congr 1; omega
theorem lt_BB {m k n : Nat} (h : m ≤ 2 ^ k) (hk : k < 32 * n) : (m : Int) < BB n := by
  have h3 : 2 ^ k < 2 ^ (32 * n) := Nat.pow_lt_pow_right (by omega) hk
  have h4 : m < 2 ^ (32 * n) := Nat.lt_of_le_of_lt h h3
  rw [BB_pow]
  exact_mod_cast h4
theorem bitl_BB {m n : Nat} (h : (m : Int) < BB n) : bitl m ≤ 32 * n := bitl_le (by
  rw [BB_pow] at h
  exact_mod_cast h)
/-- what is returned is not too long -/
theorem pow_small {p n b : Int} (hp : 2 ≤ p) (h0 : 0 ≤ n) (hb : b = (bitl p.natAbs : Int)) (h : n * (b - 1) ≤ 131072) : p ^ n.toNat < BB 8193 := by
  have hb2 : 2 ≤ b := by
    have h1 := bitl_ge (n := p.natAbs) (by omega)
    have h2 := bitl_lt p.natAbs
    rcases Nat.lt_or_ge (bitl p.natAbs) 2 with h3 | h3
    · have : bitl p.natAbs = 1 := by omega
      rw [this] at h2; omega
    · omega
  have h1 : p.natAbs ^ n.toNat ≤ (2 ^ bitl p.natAbs) ^ n.toNat := Nat.pow_le_pow_left (Nat.le_of_lt (bitl_lt _)) _
  rw [← Nat.pow_mul] at h1
  have h2 : bitl p.natAbs * n.toNat ≤ 262144 := by
    have e1 : n * b ≤ n * (2 * (b - 1)) := Int.mul_le_mul_of_nonneg_left (by omega) h0
    have e2 : n * (2 * (b - 1)) = 2 * (n * (b - 1)) := by rw [← Int.mul_assoc, Int.mul_comm n 2, Int.mul_assoc]
    have e3 : ((bitl p.natAbs * n.toNat : Nat) : Int) = n * b := by
      rw [Int.natCast_mul, hb, Int.mul_comm, show ((n.toNat : Nat) : Int) = n by omega]
    omega
  have h5 : p ^ n.toNat = ((p.natAbs ^ n.toNat : Nat) : Int) := by
    rw [Int.natCast_pow, show ((p.natAbs : Nat) : Int) = p by omega]
  rw [h5]
  exact lt_BB h1 (by omega)
end Go.AL
namespace Go.Proofs.YtcaecieigoplbaaGreat
open Go.AL

set_option maxHeartbeats 1000000 in
theorem rPower_ok (p n : Int) (hp : 2 ≤ p) (hpf : Fit p) (h0 : 0 ≤ n) (h1 : n ≤ 163840) (b : Int) (hb : b = (bitl p.natAbs : Int)) (h : n * (b - 1) ≤ 131072) : PureFn Tryz.prog 36 [aX p, aN n] (.tup [aX (p ^ n.toNat), aB true]) := by
  refine PureFn.of_body Tryz.func36 rfl Tryz.ntmps36 rfl rfl ?_
  have hlp := hpf.len
  have hb2 : 2 ≤ b := by
    have h1 := bitl_ge (n := p.natAbs) (by omega)
    have h2 := bitl_lt p.natAbs
    rcases Nat.lt_or_ge (bitl p.natAbs) 2 with h3 | h3
    · have : bitl p.natAbs = 1 := by omega
      rw [this] at h2; omega
    · omega
  have hbu : b ≤ 131072 := by
    have h3 : bitl p.natAbs ≤ 32 * 4096 := bitl_BB (by have := hpf; unfold Fit at this; exact this)
    omega
  have hsmall := pow_small hp h0 hb h
  have hbits := rBits_ok p (show lenI p ≤ 100000 by unfold lenI; omega)
  rw [← hb] at hbits
  have hhi : hiK .i64 = 9223372036854775807 := rfl
  have hquo : n ≤ 262144 / (b - 1) := (Int.le_ediv_iff_mul_le (by omega)).2 (by omega)
  obtain ⟨T, hT⟩ : ∃ T, T = p ^ n.toNat := ⟨_, rfl⟩
  have hp8 : p < BB 8193 := by
    have := hpf
    unfold Fit at this
    have h3 := BB_le (show 4096 ≤ 8193 by omega)
    omega
  rw [← hT] at hsmall ⊢
  repeat' (first |refine Fl.v rfl rfl rfl ?_ |refine Fl.nilF ?_ |refine AWP.seq ?_ |refine AWP.region ?_ |refine Fl.b rfl rfl rfl rfl ?_ |fail)
  refine Fl.call rfl (hbits) rfl rfl rfl (LeL.refl _) ?_
  repeat' (first |refine Fl.v rfl rfl rfl ?_ |refine Fl.nilF ?_ |refine AWP.seq ?_ |refine AWP.region ?_ |refine Fl.w rfl rfl rfl (by first | exact True.intro | omega) ?_ |(refine AWP.condD rfl ?_ ?_ <;> intro _ <;> try (exfalso; omega)) |refine AWP.skip ?_ |fail)
  refine Fl.call rfl (rOf_ok 1 (by omega) (by omega)) rfl rfl rfl (LeL.refl _) ?_
  repeat' (first |refine Fl.v rfl rfl rfl ?_ |refine Fl.nilF ?_ |refine AWP.seq ?_ |refine AWP.region ?_ |refine Fl.b rfl rfl rfl rfl ?_ |refine AWP.block ?_ |fail)
  refine AWP.loop (G := Int × Int × Int) (fun (m, o, x) => (0 ≤ m ∧ m ≤ n) ∧ (1 ≤ o ∧ o < BB 8193) ∧ (1 ≤ x ∧ x < BB 8193) ∧ o * x ^ m.toNat = T)
    (fun (m, o, x) => St.of [] [(1, aN m), (4, .ptr 4 0), (7, .ptr 7 0), (8, .ptr 700 0)] [(4, .cells [aB false, .v (.slice none 0 0)] 35), (7, .cells (eX o) 35), (700, .cells (eX x) 35)])
    (fun (m, o, x) => m.toNat) (n, 1, p) ⟨⟨h0, by omega⟩, ⟨by omega, by have := BB_le (show 1 ≤ 8193 by omega); rw [BB_succ 0, BB_zero] at this; omega⟩, ⟨by omega, hp8⟩, by rw [Int.one_mul]; exact hT.symm⟩ ?_ ?_
  · refine Ent.of [(700, 8)] ?_ ?_ rfl rfl
    repeat' (first | exact True.intro |refine ⟨⟨AV.Le.refl _, rfl⟩, ?_⟩ |refine ⟨⟨AV.Le.any _, rfl⟩, ?_⟩ |refine ⟨⟨⟨_, rfl, BLe.cells (LeL.refl _)⟩, rfl⟩, ?_⟩ |refine ⟨⟨⟨_, rfl, BLe.row rfl⟩, rfl⟩, ?_⟩ |refine ⟨⟨⟨_, rfl, BLe.row ?_⟩, rfl⟩, ?_⟩ |refine ⟨⟨⟨_, rfl, BLe.cells ?_⟩, rfl⟩, ?_⟩ |refine ⟨⟨AV.Le.int ?_, rfl⟩, ?_⟩ |refine ⟨⟨AV.Le.bool ?_, rfl⟩, ?_⟩ |refine ⟨⟨AV.Le.sl ?_, rfl⟩, ?_⟩ |refine ⟨⟨AV.Le.of_eq ?_, rfl⟩, ?_⟩ | fail)
  · intro (m, o, x) ⟨⟨k0, k1⟩, ⟨k2, k3⟩, ⟨k4, k5⟩, k6⟩
    have lo : lenI o ≤ 8193 := lenI_le.2 (by omega)
    have lx : lenI x ≤ 8193 := lenI_le.2 (by omega)
    have hmo := rMul_ok o x (show lenI o ≤ 40000 by omega) (show lenI x ≤ 40000 by omega)
    have hmx := rMul_ok x x (show lenI x ≤ 40000 by omega) (show lenI x ≤ 40000 by omega)
    have hox : 1 ≤ o * x := by have := le_mul_one k4 (show 0 ≤ o by omega); omega
    have hxx : 1 ≤ x * x := by have := le_mul_one k4 (show 0 ≤ x by omega); omega
    by_cases hm : 0 < m
    · have hodd : m % 2 = 1 → o * x ≤ T ∧ o * x * (x * x) ^ (m / 2).toNat = T := fun hmo => by
        have e : x ^ m.toNat = x * (x * x) ^ (m / 2).toNat := by
          rw [sq_pow, Int.mul_comm, ← Int.pow_succ]; congr 1; omega
        rw [e, ← Int.mul_assoc] at k6
        exact ⟨by rw [← k6]; exact le_mul_one (pow_ge_one hxx _) (by omega), k6⟩
      have heven : m % 2 ≠ 1 → o * (x * x) ^ (m / 2).toNat = T := fun hmo => by
        have e : x ^ m.toNat = (x * x) ^ (m / 2).toNat := by
          rw [sq_pow]; congr 1; omega
        rw [e] at k6
        exact k6
      have hsq : 1 < m → x * x ≤ T := fun hm1 => by
        have e : x ^ m.toNat = (x * x) * x ^ (m.toNat - 2) := by
          rw [show x * x = x ^ 2 by rw [Int.pow_succ, Int.pow_succ, Int.pow_zero, Int.one_mul], ← Int.pow_add]; congr 1; omega
        rw [e, ← Int.mul_assoc] at k6
        rw [← k6]
        have g1 := le_mul_one (pow_ge_one k4 (m.toNat - 2)) (show 0 ≤ o * (x * x) from Int.mul_nonneg (by omega) (by omega))
        have g2 := Int.mul_le_mul_of_nonneg_right k2 (show 0 ≤ x * x by omega)
        omega
      by_cases hr : m % 2 = 1
      · obtain ⟨q1, q2⟩ := hodd hr
        by_cases hm1 : 1 < m
        · repeat' (first |refine Fl.v rfl rfl rfl ?_ |refine Fl.nilF ?_ |refine AWP.seq ?_ |refine AWP.region ?_ |refine Fl.w rfl rfl rfl (by first | exact True.intro | omega) ?_ |(refine AWP.condD rfl ?_ ?_ <;> intro _ <;> try (exfalso; omega)) |refine AWP.block ?_ |refine AWP.skip ?_ |fail)
          refine Fl.call rfl (hmo) rfl rfl rfl (LeL.refl _) ?_
          repeat' (first |refine Fl.v rfl rfl rfl ?_ |refine Fl.nilF ?_ |refine AWP.seq ?_ |refine AWP.region ?_ |refine Fl.b rfl rfl rfl rfl ?_ |(refine AWP.condD rfl ?_ ?_ <;> intro _ <;> try (exfalso; omega)) |fail)
          refine Fl.call rfl (hmx) rfl rfl rfl (LeL.refl _) ?_
          repeat' (first |refine Fl.v rfl rfl rfl ?_ |refine Fl.nilF ?_ |refine AWP.seq ?_ |refine AWP.region ?_ |refine Fl.w rfl rfl rfl (by first | exact True.intro | omega) ?_ |refine Fl.b rfl rfl rfl rfl ?_ |fail)
          refine LoopEnd.of (m / 2, o * x, x * x) ⟨⟨by omega, by omega⟩, ⟨by omega, by omega⟩, ⟨by omega, by have := hsq hm1; omega⟩, q2⟩ (show (m / 2).toNat < m.toNat by omega) ?_
          refine Ent.of [(700, 8)] ?_ ?_ rfl rfl
          repeat' (first | exact True.intro |refine ⟨⟨AV.Le.refl _, rfl⟩, ?_⟩ |refine ⟨⟨AV.Le.any _, rfl⟩, ?_⟩ |refine ⟨⟨⟨_, rfl, BLe.cells (LeL.refl _)⟩, rfl⟩, ?_⟩ |refine ⟨⟨⟨_, rfl, BLe.row rfl⟩, rfl⟩, ?_⟩ |refine ⟨⟨⟨_, rfl, BLe.row ?_⟩, rfl⟩, ?_⟩ |refine ⟨⟨⟨_, rfl, BLe.cells ?_⟩, rfl⟩, ?_⟩ |refine ⟨⟨AV.Le.int ?_, rfl⟩, ?_⟩ |refine ⟨⟨AV.Le.bool ?_, rfl⟩, ?_⟩ |refine ⟨⟨AV.Le.sl ?_, rfl⟩, ?_⟩ |refine ⟨⟨AV.Le.of_eq ?_, rfl⟩, ?_⟩ | fail)
        · have hm2 : m = 1 := by omega
          subst hm2
          repeat' (first |refine Fl.v rfl rfl rfl ?_ |refine Fl.nilF ?_ |refine AWP.seq ?_ |refine AWP.region ?_ |refine Fl.w rfl rfl rfl (by first | exact True.intro | omega) ?_ |refine AWP.condT rfl ?_ |refine AWP.block ?_ |refine AWP.skip ?_ |fail)
          refine Fl.call rfl (hmo) rfl rfl rfl (LeL.refl _) ?_
          repeat' (first |refine Fl.v rfl rfl rfl ?_ |refine Fl.nilF ?_ |refine AWP.seq ?_ |refine AWP.region ?_ |refine Fl.w rfl rfl rfl (by first | exact True.intro | omega) ?_ |refine Fl.b rfl rfl rfl rfl ?_ |refine AWP.condF rfl ?_ |refine AWP.skip ?_ |fail)
          refine LoopEnd.of (0, o * x, x) ⟨⟨by omega, by omega⟩, ⟨by omega, by omega⟩, ⟨by omega, k5⟩, by simpa using q2⟩ (show (0 : Int).toNat < (1 : Int).toNat by decide) ?_
          refine Ent.of [(700, 8)] ?_ ?_ rfl rfl
          repeat' (first | exact True.intro |refine ⟨⟨AV.Le.refl _, rfl⟩, ?_⟩ |refine ⟨⟨AV.Le.any _, rfl⟩, ?_⟩ |refine ⟨⟨⟨_, rfl, BLe.cells (LeL.refl _)⟩, rfl⟩, ?_⟩ |refine ⟨⟨⟨_, rfl, BLe.row rfl⟩, rfl⟩, ?_⟩ |refine ⟨⟨⟨_, rfl, BLe.row ?_⟩, rfl⟩, ?_⟩ |refine ⟨⟨⟨_, rfl, BLe.cells ?_⟩, rfl⟩, ?_⟩ |refine ⟨⟨AV.Le.int ?_, rfl⟩, ?_⟩ |refine ⟨⟨AV.Le.bool ?_, rfl⟩, ?_⟩ |refine ⟨⟨AV.Le.sl ?_, rfl⟩, ?_⟩ |refine ⟨⟨AV.Le.of_eq ?_, rfl⟩, ?_⟩ | fail)
      · have q2 := heven hr
        repeat' (first |refine Fl.v rfl rfl rfl ?_ |refine Fl.nilF ?_ |refine AWP.seq ?_ |refine AWP.region ?_ |refine Fl.w rfl rfl rfl (by first | exact True.intro | omega) ?_ |(refine AWP.condD rfl ?_ ?_ <;> intro _ <;> try (exfalso; omega)) |refine AWP.block ?_ |refine AWP.skip ?_ |fail)
        refine Fl.call rfl (hmx) rfl rfl rfl (LeL.refl _) ?_
        repeat' (first |refine Fl.v rfl rfl rfl ?_ |refine Fl.nilF ?_ |refine AWP.seq ?_ |refine AWP.region ?_ |refine Fl.w rfl rfl rfl (by first | exact True.intro | omega) ?_ |refine Fl.b rfl rfl rfl rfl ?_ |fail)
        refine LoopEnd.of (m / 2, o, x * x) ⟨⟨by omega, by omega⟩, ⟨by omega, by omega⟩, ⟨by omega, by have := hsq (by omega); omega⟩, q2⟩ (show (m / 2).toNat < m.toNat by omega) ?_
        refine Ent.of [(700, 8)] ?_ ?_ rfl rfl
        repeat' (first | exact True.intro |refine ⟨⟨AV.Le.refl _, rfl⟩, ?_⟩ |refine ⟨⟨AV.Le.any _, rfl⟩, ?_⟩ |refine ⟨⟨⟨_, rfl, BLe.cells (LeL.refl _)⟩, rfl⟩, ?_⟩ |refine ⟨⟨⟨_, rfl, BLe.row rfl⟩, rfl⟩, ?_⟩ |refine ⟨⟨⟨_, rfl, BLe.row ?_⟩, rfl⟩, ?_⟩ |refine ⟨⟨⟨_, rfl, BLe.cells ?_⟩, rfl⟩, ?_⟩ |refine ⟨⟨AV.Le.int ?_, rfl⟩, ?_⟩ |refine ⟨⟨AV.Le.bool ?_, rfl⟩, ?_⟩ |refine ⟨⟨AV.Le.sl ?_, rfl⟩, ?_⟩ |refine ⟨⟨AV.Le.of_eq ?_, rfl⟩, ?_⟩ | fail)
    · rw [show m.toNat = 0 by omega, Int.pow_zero, Int.mul_one] at k6
      rw [← k6]
      repeat' (first |refine Fl.v rfl rfl rfl ?_ |refine Fl.nilF ?_ |refine AWP.seq ?_ |refine AWP.region ?_ |refine Fl.b rfl rfl rfl rfl ?_ |(refine AWP.condD rfl ?_ ?_ <;> intro _ <;> try (exfalso; omega)) |refine AWP.exit ?_ |refine AWP.ret ?_ |fail)
      exact RetOk.of rfl (AV.Le.refl _)
end Go.Proofs.YtcaecieigoplbaaGreat
namespace Go.AL
theorem pow_gt {x z : Int} {y : Int} {bx bz : Int} (hx : 2 ≤ x) (hz : 1 ≤ z) (hy : 0 ≤ y) (hbx : bx = (bitl x.natAbs : Int)) (hbz : bz = (bitl z.natAbs : Int)) (h : bz < y * (bx - 1)) : z < x ^ y.toNat := by
  have h1 := bitl_ge (n := x.natAbs) (by omega)
  have h2 := bitl_lt z.natAbs
  have h3 : (2 ^ (bitl x.natAbs - 1)) ^ y.toNat ≤ x.natAbs ^ y.toNat := Nat.pow_le_pow_left h1.2 _
  rw [← Nat.pow_mul] at h3
  have h4 : bitl z.natAbs ≤ (bitl x.natAbs - 1) * y.toNat := by
    have e : (((bitl x.natAbs - 1) * y.toNat : Nat) : Int) = y * (bx - 1) := by
      rw [Int.natCast_mul, hbx, Int.mul_comm, show ((y.toNat : Nat) : Int) = y by omega, Int.natCast_sub h1.1]
      rfl
    omega
  have h5 : 2 ^ bitl z.natAbs ≤ 2 ^ ((bitl x.natAbs - 1) * y.toNat) := Nat.pow_le_pow_right (by omega) h4
  have h6 : z.natAbs < x.natAbs ^ y.toNat := by omega
  have h7 : x ^ y.toNat = ((x.natAbs ^ y.toNat : Nat) : Int) := by
    rw [Int.natCast_pow, show ((x.natAbs : Nat) : Int) = x by omega]
  rw [h7]
  omega
end Go.AL
namespace Go.Proofs.YtcaecieigoplbaaGreat
open Go.AL

set_option maxHeartbeats 1000000 in
theorem rIsPower_ok (x y z : Int) (hx : Fit x) (hy : Fit y) (hz : Fit z) (b : Bool) (hb : b = true ↔ 1 ≤ x ∧ 0 ≤ y ∧ x ^ y.toNat = z) : PureFn Tryz.prog 35 [aX x, aX y, aX z] (aB b) := by
  refine PureFn.of_body Tryz.func35 rfl Tryz.ntmps35 rfl rfl ?_
  have hfalse : ¬ (1 ≤ x ∧ 0 ≤ y ∧ x ^ y.toNat = z) → false = b := fun h => by cases b with | false => rfl | true => exact absurd (hb.1 rfl) h
  have lx : lenI x ≤ 4096 := hx.len
  have lz : lenI z ≤ 4096 := hz.len
  have l1 : lenI 1 ≤ 4096 := fit_one.len
  have hfew := rfew_ok y
  have hcmp := rCmp_ok x 1 (by omega) (by omega)
  have c2 := cmpI_cases x 1
  have hs1 := rSame_ok x 1 (show lenI x ≤ 1000000 by omega)
  by_cases h1 : 1 ≤ x ∧ 0 ≤ y
  · by_cases hx1 : x = 1
    · rw [decide_eq_true hx1] at hs1
      have hzx := rSame_ok z x (show lenI z ≤ 1000000 by omega)
      repeat' (first |refine Fl.v rfl rfl rfl ?_ |refine Fl.nilF ?_ |refine AWP.seq ?_ |refine AWP.region ?_ |refine Fl.b rfl rfl rfl rfl ?_ |fail)
      refine Fl.call rfl (rOf_ok 1 (by omega) (by omega)) rfl rfl rfl (LeL.refl _) ?_
      skip
      refine Fl.call rfl (hcmp) rfl rfl rfl (LeL.refl _) ?_
      repeat' (first |refine Fl.v rfl rfl rfl ?_ |refine Fl.nil (fun _ => by kernel_rfl) ?_ |refine AWP.seq ?_ |refine AWP.region ?_ |(refine AWP.condD rfl ?_ ?_ <;> intro _ <;> try (exfalso; omega)) |refine AWP.skip ?_ |(refine Fl.splitD rfl rfl ?_ ?_ <;> intro _ <;> try (exfalso; omega)) |fail)
      refine Fl.call rfl (rOf_ok 1 (by omega) (by omega)) rfl rfl rfl (LeL.refl _) ?_
      skip
      refine Fl.call rfl (hs1) rfl rfl rfl (LeL.refl _) ?_
      repeat' (first |refine Fl.v rfl rfl rfl ?_ |refine Fl.nil (fun _ => by kernel_rfl) ?_ |refine AWP.seq ?_ |refine AWP.region ?_ |refine AWP.condT rfl ?_ |fail)
      refine Fl.call rfl (hzx) rfl rfl rfl (LeL.refl _) ?_
      repeat' (first |refine Fl.v rfl rfl rfl ?_ |refine Fl.nilF ?_ |refine AWP.ret ?_ |fail)
      refine RetOk.of rfl (AV.Le.bool ?_)
      subst hx1
      cases b with
      | false => exact decide_eq_false fun k => by have := hb.2 ⟨by omega, by omega, by rw [Int.one_pow, k]⟩; cases this
      | true => exact decide_eq_true (by have := (hb.1 rfl).2.2; rw [Int.one_pow] at this; exact this.symm)
    · rw [decide_eq_false hx1] at hs1
      by_cases hfe : 0 ≤ y ∧ y ≤ 163840
      · rw [decide_eq_true hfe, smallV_eq (by unfold I64; omega)] at hfew
        by_cases hz0 : z ≤ 0
        · have hbad := hfalse fun k => by
            have := pow_ge_one (x := x) (by omega) y.toNat
            omega
          repeat' (first |refine Fl.v rfl rfl rfl ?_ |refine Fl.nilF ?_ |refine AWP.seq ?_ |refine AWP.region ?_ |refine Fl.b rfl rfl rfl rfl ?_ |fail)
          refine Fl.call rfl (rOf_ok 1 (by omega) (by omega)) rfl rfl rfl (LeL.refl _) ?_
          skip
          refine Fl.call rfl (hcmp) rfl rfl rfl (LeL.refl _) ?_
          repeat' (first |refine Fl.v rfl rfl rfl ?_ |refine Fl.nil (fun _ => by kernel_rfl) ?_ |refine AWP.seq ?_ |refine AWP.region ?_ |(refine AWP.condD rfl ?_ ?_ <;> intro _ <;> try (exfalso; omega)) |refine AWP.skip ?_ |(refine Fl.splitD rfl rfl ?_ ?_ <;> intro _ <;> try (exfalso; omega)) |fail)
          refine Fl.call rfl (rOf_ok 1 (by omega) (by omega)) rfl rfl rfl (LeL.refl _) ?_
          skip
          refine Fl.call rfl (hs1) rfl rfl rfl (LeL.refl _) ?_
          repeat' (first |refine Fl.v rfl rfl rfl ?_ |refine Fl.nil (fun _ => by kernel_rfl) ?_ |refine AWP.seq ?_ |refine AWP.region ?_ |refine AWP.condF rfl ?_ |refine AWP.skip ?_ |fail)
          refine Fl.call rfl (hfew) rfl rfl rfl (LeL.refl _) ?_
          repeat' (first |refine Fl.v rfl rfl rfl ?_ |refine Fl.nilF ?_ |refine AWP.seq ?_ |refine AWP.region ?_ |refine Fl.skip rfl rfl ?_ |refine AWP.condT rfl ?_ |refine AWP.ret ?_ |(refine Fl.splitD rfl rfl ?_ ?_ <;> intro _ <;> try (exfalso; omega)) |fail)
          · exact RetOk.of rfl (AV.Le.bool hbad)
          · have hzz := rZeroX_ok z
            rw [decide_eq_true (show z = 0 by omega)] at hzz
            refine Fl.call rfl (hzz) rfl rfl rfl (LeL.refl _) ?_
            repeat' (first |refine Fl.v rfl rfl rfl ?_ |refine Fl.nilF ?_ |refine AWP.seq ?_ |refine AWP.region ?_ |refine AWP.condT rfl ?_ |refine AWP.ret ?_ |fail)
            exact RetOk.of rfl (AV.Le.bool hbad)
        · obtain ⟨bx, hbx⟩ : ∃ bx : Int, bx = bitl x.natAbs := ⟨_, rfl⟩
          obtain ⟨bz, hbz⟩ : ∃ bz : Int, bz = bitl z.natAbs := ⟨_, rfl⟩
          have hbitx := rBits_ok x (by omega)
          have hbitz := rBits_ok z (by omega)
          rw [← hbx] at hbitx
          rw [← hbz] at hbitz
          have ux : bitl x.natAbs ≤ 32 * 4096 := bitl_BB (by have := hx; unfold Fit at this; exact this)
          have uz : bitl z.natAbs ≤ 32 * 4096 := bitl_BB (by have := hz; unfold Fit at this; exact this)
          have gx := (bitl_ge (n := x.natAbs) (by omega)).1
          have m0 : 0 ≤ y * (bx - 1) := Int.mul_nonneg (by omega) (by omega)
          have m1 : y * (bx - 1) ≤ 163840 * (bx - 1) := Int.mul_le_mul_of_nonneg_right (by omega) (by omega)
          have hzz := rZeroX_ok z
          rw [decide_eq_false (show ¬ z = 0 by omega)] at hzz
          repeat' (first |refine Fl.v rfl rfl rfl ?_ |refine Fl.nilF ?_ |refine AWP.seq ?_ |refine AWP.region ?_ |refine Fl.b rfl rfl rfl rfl ?_ |fail)
          refine Fl.call rfl (rOf_ok 1 (by omega) (by omega)) rfl rfl rfl (LeL.refl _) ?_
          skip
          refine Fl.call rfl (hcmp) rfl rfl rfl (LeL.refl _) ?_
          repeat' (first |refine Fl.v rfl rfl rfl ?_ |refine Fl.nil (fun _ => by kernel_rfl) ?_ |refine AWP.seq ?_ |refine AWP.region ?_ |(refine AWP.condD rfl ?_ ?_ <;> intro _ <;> try (exfalso; omega)) |refine AWP.skip ?_ |(refine Fl.splitD rfl rfl ?_ ?_ <;> intro _ <;> try (exfalso; omega)) |fail)
          refine Fl.call rfl (rOf_ok 1 (by omega) (by omega)) rfl rfl rfl (LeL.refl _) ?_
          skip
          refine Fl.call rfl (hs1) rfl rfl rfl (LeL.refl _) ?_
          repeat' (first |refine Fl.v rfl rfl rfl ?_ |refine Fl.nil (fun _ => by kernel_rfl) ?_ |refine AWP.seq ?_ |refine AWP.region ?_ |refine AWP.condF rfl ?_ |refine AWP.skip ?_ |fail)
          refine Fl.call rfl (hfew) rfl rfl rfl (LeL.refl _) ?_
          repeat' (first |refine Fl.v rfl rfl rfl ?_ |refine Fl.nilF ?_ |refine AWP.seq ?_ |refine AWP.region ?_ |(refine Fl.splitD rfl rfl ?_ ?_ <;> intro _ <;> try (exfalso; omega)) |fail)
          refine Fl.call rfl (hzz) rfl rfl rfl (LeL.refl _) ?_
          repeat' (first |refine Fl.v rfl rfl rfl ?_ |refine Fl.nilF ?_ |refine AWP.seq ?_ |refine AWP.region ?_ |refine AWP.condF rfl ?_ |refine AWP.skip ?_ |fail)
          refine Fl.call rfl (hbitx) rfl rfl rfl (LeL.refl _) ?_
          repeat' (first |refine Fl.v rfl rfl rfl ?_ |refine Fl.w rfl rfl rfl (by first | exact True.intro | omega) ?_ |fail)
          refine Fl.call rfl (hbitz) rfl rfl rfl (LeL.refl _) ?_
          repeat' (first |refine Fl.v rfl rfl rfl ?_ |refine Fl.nilF ?_ |refine Fl.nil (fun _ => by kernel_rfl) ?_ |refine AWP.seq ?_ |refine AWP.region ?_ |(refine AWP.condD rfl ?_ ?_ <;> intro _ <;> try (exfalso; omega)) |refine AWP.skip ?_ |refine AWP.ret ?_ |fail)
          · rename_i hgt
            have := pow_gt (x := x) (z := z) (y := y) (by omega) (by omega) (by omega) hbx hbz hgt
            exact RetOk.of rfl (AV.Le.bool (hfalse fun k => by omega))
          · rename_i hgt
            have hsm := pow_small (p := x) (n := y) (by omega) (by omega) hbx (by omega)
            have hT := pow_ge_one (x := x) (by omega) y.toNat
            have hsame := rSame_ok (x ^ y.toNat) z (show lenI (x ^ y.toNat) ≤ 1000000 by
              have : lenI (x ^ y.toNat) ≤ 8193 := lenI_le.2 (by omega)
              omega)
            refine Fl.call rfl (rPower_ok x y (by omega) hx (by omega) (by omega) bx hbx (by omega)) rfl rfl rfl (LeL.refl _) ?_
            repeat' (first |refine Fl.v rfl rfl rfl ?_ |refine Fl.nilF ?_ |refine AWP.seq ?_ |refine AWP.region ?_ |refine Fl.b rfl rfl rfl rfl ?_ |fail)
            refine Fl.call rfl (hsame) rfl rfl rfl (LeL.refl _) ?_
            repeat' (first |refine Fl.v rfl rfl rfl ?_ |refine Fl.nilF ?_ |refine AWP.ret ?_ |fail)
            refine RetOk.of rfl (AV.Le.bool ?_)
            cases b with
            | false => exact decide_eq_false fun k => by have := hb.2 ⟨by omega, by omega, k⟩; cases this
            | true => exact decide_eq_true (hb.1 rfl).2.2
      · rw [decide_eq_false hfe] at hfew
        have hbad := hfalse fun k => by
          refine pow_not_fit (x := x) (n := y.toNat) (by omega) ?_ (by rw [k.2.2]; exact hz)
          omega
        repeat' (first |refine Fl.v rfl rfl rfl ?_ |refine Fl.nilF ?_ |refine AWP.seq ?_ |refine AWP.region ?_ |refine Fl.b rfl rfl rfl rfl ?_ |fail)
        refine Fl.call rfl (rOf_ok 1 (by omega) (by omega)) rfl rfl rfl (LeL.refl _) ?_
        skip
        refine Fl.call rfl (hcmp) rfl rfl rfl (LeL.refl _) ?_
        repeat' (first |refine Fl.v rfl rfl rfl ?_ |refine Fl.nil (fun _ => by kernel_rfl) ?_ |refine AWP.seq ?_ |refine AWP.region ?_ |(refine AWP.condD rfl ?_ ?_ <;> intro _ <;> try (exfalso; omega)) |refine AWP.skip ?_ |(refine Fl.splitD rfl rfl ?_ ?_ <;> intro _ <;> try (exfalso; omega)) |fail)
        refine Fl.call rfl (rOf_ok 1 (by omega) (by omega)) rfl rfl rfl (LeL.refl _) ?_
        skip
        refine Fl.call rfl (hs1) rfl rfl rfl (LeL.refl _) ?_
        repeat' (first |refine Fl.v rfl rfl rfl ?_ |refine Fl.nil (fun _ => by kernel_rfl) ?_ |refine AWP.seq ?_ |refine AWP.region ?_ |refine AWP.condF rfl ?_ |refine AWP.skip ?_ |fail)
        refine Fl.call rfl (hfew) rfl rfl rfl (LeL.refl _) ?_
        repeat' (first |refine Fl.v rfl rfl rfl ?_ |refine Fl.nilF ?_ |refine AWP.seq ?_ |refine AWP.region ?_ |refine Fl.skip rfl rfl ?_ |refine AWP.condT rfl ?_ |refine AWP.ret ?_ |fail)
        exact RetOk.of rfl (AV.Le.bool hbad)
  · have hbad := hfalse fun k => h1 ⟨k.1, k.2.1⟩
    repeat' (first |refine Fl.v rfl rfl rfl ?_ |refine Fl.nilF ?_ |refine AWP.seq ?_ |refine AWP.region ?_ |refine Fl.b rfl rfl rfl rfl ?_ |fail)
    refine Fl.call rfl (rOf_ok 1 (by omega) (by omega)) rfl rfl rfl (LeL.refl _) ?_
    skip
    refine Fl.call rfl (hcmp) rfl rfl rfl (LeL.refl _) ?_
    repeat' (first |refine Fl.v rfl rfl rfl ?_ |refine Fl.nilF ?_ |refine Fl.nil (fun _ => by kernel_rfl) ?_ |refine AWP.seq ?_ |refine AWP.region ?_ |refine Fl.skip rfl rfl ?_ |refine AWP.condT rfl ?_ |(refine AWP.condD rfl ?_ ?_ <;> intro _ <;> try (exfalso; omega)) |refine AWP.ret ?_ |(refine Fl.splitD rfl rfl ?_ ?_ <;> intro _ <;> try (exfalso; omega)) |fail)
    all_goals exact RetOk.of rfl (AV.Le.bool hbad)
end Go.Proofs.YtcaecieigoplbaaGreat
/- PowerOnly; PowerFound. -/
namespace Go.Proofs.YtcaecieigoplbaaGreat
open Go.AL
theorem PowerOnlyX_ok (b e c A Y X M z y w : Int) (hX : ∀ x ∈ [b, e, c, A, Y, X, M, z, y, w], Fit x) (h0 : ∀ x ∈ [b, e, c, A, Y, X, M, z, y, w], 0 ≤ x) (h : PowEq b e c A Y X M z y w) (hH : PureFn Tryz.prog 25 [aS pwS, .sl 2 eX [b, e, c, A, Y, X, M, z, y, w]] (.tup [aB true, aN 0])) : PureFn Tryz.prog 7 [.sl 2 eX [b, e, c, A, Y, X, M, z, y, w]] (aB true) := by
  refine PureFn.of_body Tryz.func7 rfl Tryz.ntmps7 rfl rfl ?_
  obtain ⟨he2, hW⟩ := pWitness_eq h0 hX h
  obtain ⟨hb, hc, _⟩ := pw_only h0 h
  have fb := hX b (by simp)
  have fe := hX e (by simp)
  have fc := hX c (by simp)
  have ne := h0 e (by simp)
  obtain ⟨L, hL⟩ : ∃ L, L = [b, e, c, A, Y, X, M, z, y, w] := ⟨_, rfl⟩
  have hLl : L.length = 10 := by rw [hL]; rfl
  have g0 : L[(0 : Int).toNat]? = some b := by rw [hL]; rfl
  have g1 : L[(1 : Int).toNat]? = some e := by rw [hL]; rfl
  have g2 : L[(2 : Int).toNat]? = some c := by rw [hL]; rfl
  rw [← hL] at hH hX hW ⊢
  have hI := rIsPower_ok b e c fb fe fc true ⟨fun _ => ⟨hb, ne, hc.symm⟩, fun _ => rfl⟩
  have hSA : PureFn Tryz.prog 24 [.sl 2 eX L, .sl 2 eX L] (aB true) := by
    have := rSameAll_ok L L (fun x hx => by have := (hX x hx).len; omega) (by omega)
    rw [decide_eq_true rfl] at this
    exact this
  have s1 := rSmall_ok e
  rw [decide_eq_true (show I64 e from ⟨by omega, by omega⟩), smallV_eq ⟨by omega, by omega⟩] at s1
  refine AWP.seqS ?_
  repeat' (first |refine Fl.v rfl rfl rfl ?_ |refine Fl.nilF ?_ |refine AWP.region ?_ |fail)
  refine ⟨AWP.seqS ?_⟩
  repeat' (first |refine AWP.region ?_ |fail)
  refine Fl.call rfl (powerLinks_ok) rfl rfl rfl (LeL.refl _) ?_
  repeat' (first |refine Fl.v rfl rfl rfl ?_ |fail)
  refine Fl.call rfl (hH) rfl rfl rfl (LeL.refl _) ?_
  repeat' (first |refine Fl.v rfl rfl rfl ?_ |refine Fl.nilF ?_ |fail)
  refine ⟨AWP.seqS ?_⟩
  repeat' (first |refine Fl.v rfl rfl rfl ?_ |refine Fl.nilF ?_ |refine AWP.seq ?_ |refine AWP.region ?_ |refine AWP.condF rfl ?_ |refine AWP.skip ?_ |fail)
  refine ⟨AWP.seqS ?_⟩
  repeat' (first |refine Fl.v rfl rfl rfl ?_ |refine Fl.nilF ?_ |refine AWP.seq ?_ |refine AWP.region ?_ |(refine AWP.condN rfl ?_ ?_ <;> intro _ <;> try (exfalso; omega)) |refine AWP.skip ?_ |fail)
  refine ⟨AWP.seqS ?_⟩
  repeat' (first |refine Fl.v rfl rfl rfl ?_ |refine AWP.region ?_ |refine Fl.elK rfl rfl rfl rfl rfl rfl rfl rfl (by assumption) (by omega) ?_ |fail)
  refine Fl.call rfl (s1) rfl rfl rfl (LeL.refl _) ?_
  repeat' (first |refine Fl.v rfl rfl rfl ?_ |refine Fl.nilF ?_ |fail)
  refine ⟨AWP.seqS ?_⟩
  repeat' (first |refine Fl.v rfl rfl rfl ?_ |refine AWP.region ?_ |refine Fl.elK rfl rfl rfl rfl rfl rfl rfl rfl (by assumption) (by omega) ?_ |fail)
  refine Fl.call rfl (hW) rfl rfl rfl (LeL.refl _) ?_
  repeat' (first |refine Fl.v rfl rfl rfl ?_ |refine Fl.nilF ?_ |fail)
  refine ⟨?_⟩
  repeat' (first |refine Fl.v rfl rfl rfl ?_ |refine AWP.seq ?_ |refine AWP.region ?_ |refine Fl.elK rfl rfl rfl rfl rfl rfl rfl rfl (by assumption) (by omega) ?_ |fail)
  refine Fl.call rfl (hI) rfl rfl rfl (LeL.refl _) ?_
  repeat' (first |refine Fl.v rfl rfl rfl ?_ |(refine Fl.splitD rfl rfl ?_ ?_ <;> intro _ <;> try (exfalso; omega)) |fail)
  refine Fl.call rfl (hSA) rfl rfl rfl (LeL.refl _) ?_
  repeat' (first |refine Fl.v rfl rfl rfl ?_ |fail)
  refine Fl.call rfl (awake11_ok) rfl rfl rfl (LeL.refl _) ?_
  repeat' (first |refine Fl.v rfl rfl rfl ?_ |refine Fl.nil (fun _ => by kernel_rfl) ?_ |refine AWP.ret ?_ |fail)
  exact RetOk.of rfl (AV.Le.refl _)
theorem PowerOnly_ok (zs : List Z) (hz : ∀ z ∈ zs, WOk z.w) (hl : zs.length ≤ 9223372036854775807) : PureFn Tryz.prog 7 [.sl 2 eZ zs] (aB true) := by
  obtain ⟨b, e, hH, hHb⟩ := Holds_gen pwS zs pwS_w pwS_ok hz hl
  have direct : ¬ (b = true ∧ e = 0) → PureFn Tryz.prog 7 [.sl 2 eZ zs] (aB true) := fun hn => by
    refine PureFn.of_body Tryz.func7 rfl Tryz.ntmps7 rfl rfl ?_
    refine AWP.seqS ?_
    repeat' (first |refine Fl.v rfl rfl rfl ?_ |refine Fl.nilF ?_ |refine AWP.region ?_ |fail)
    refine ⟨AWP.seqS ?_⟩
    repeat' (first |refine AWP.region ?_ |fail)
    refine Fl.call rfl (powerLinks_ok) rfl rfl rfl (LeL.refl _) ?_
    repeat' (first |refine Fl.v rfl rfl rfl ?_ |fail)
    refine Fl.call rfl (hH) rfl rfl rfl (LeL.refl _) ?_
    repeat' (first |refine Fl.v rfl rfl rfl ?_ |refine Fl.nilF ?_ |fail)
    refine ⟨AWP.seqS ?_⟩
    cases b with
    | true =>
      have he : e ≠ 0 := fun k => hn ⟨rfl, k⟩
      repeat' (first |refine Fl.v rfl rfl rfl ?_ |refine Fl.nilF ?_ |refine AWP.seq ?_ |refine AWP.region ?_ |refine Fl.skip rfl rfl ?_ |refine AWP.condT rfl ?_ |(refine Fl.splitN rfl rfl ?_ ?_ <;> intro _ <;> try (exfalso; omega)) |fail)
      refine Fl.call rfl (awake11_ok) rfl rfl rfl (LeL.refl _) ?_
      repeat' (first |refine Fl.v rfl rfl rfl ?_ |refine Fl.nilF ?_ |refine AWP.ret ?_ |fail)
      exact RetOk.of rfl (AV.Le.refl _)
    | false =>
      repeat' (first |refine Fl.v rfl rfl rfl ?_ |refine Fl.nilF ?_ |refine AWP.seq ?_ |refine AWP.region ?_ |refine Fl.skip rfl rfl ?_ |refine AWP.condT rfl ?_ |(refine Fl.splitN rfl rfl ?_ ?_ <;> intro _ <;> try (exfalso; omega)) |fail)
      all_goals
        refine Fl.call rfl (awake11_ok) rfl rfl rfl (LeL.refl _) ?_
        repeat' (first |refine Fl.v rfl rfl rfl ?_ |refine Fl.nilF ?_ |refine AWP.ret ?_ |fail)
        exact RetOk.of rfl (AV.Le.refl _)
  by_cases hbe : b = true ∧ e = 0
  · obtain ⟨rfl, rfl⟩ := hbe
    obtain ⟨X, rfl, hX, hXl, h0, hho⟩ := hHb rfl
    have hH' : PureFn Tryz.prog 25 [aS pwS, .sl 2 eX X] (.tup [aB true, aN 0]) := hH.le (LeL.cons (AV.Le.refl _) (LeL.cons (AV.Le.slUnmap (enc := eZ) (f := zOf)) LeL.nil)) (AV.Le.refl _)
    have hlen : X.length = 10 := by
      have : (X.length : Int) = 10 := hXl
      omega
    match X, hlen with
    | [x0, x1, x2, x3, x4, x5, x6, x7, x8, x9], _ =>
      exact (PowerOnlyX_ok x0 x1 x2 x3 x4 x5 x6 x7 x8 x9 hX h0 ((pw_hol _ _ _ _ _ _ _ _ _ _).1 hho) hH').le (LeL.cons (AV.Le.slMap (enc := eZ) (f := zOf)) LeL.nil) (AV.Le.refl _)
  · exact direct hbe
end Go.Proofs.YtcaecieigoplbaaGreat

/- Part 4 of a proof layer and of the contracts of the functions (XE5 XM6 XE6 XE7 XE8 XE9 XF0 XF1 XF2 XF3 XG0 XG1 XG2 XG3 XG4 XG5 XG6 XG7 XG8 XH0 XH1 XRT XY0 XY1 XY2 XY3 XY4 XY5 XY6 XY7 XY8 XY9 XR1 XR4 XR5 XR7 XR8). -/
import Derived.ProofKit
import Derived.OpenShut
import Derived.Carry
import Derived.ChangeSame
import Derived.ReadAgain
import Derived.Test.YtcaecieigoplbaaGreatRows
import Derived.RangeFuncIn
import Derived.RangeFuncCalls
import Derived.RangeFuncFrom
import Derived.OrdersIn
import Derived.RangeFuncLeaves
import Derived.RangeFuncBound
import Derived.Sort.LoopGhostIn
import Derived.Test.YtcaecieigoplbaaGreatW3
set_option linter.unusedVariables false
set_option linter.unusedSimpArgs false
namespace Go.AL
/-- doubling, as it is reckoned -/
def dbF (e c p : Int) : Int × Int × Int :=
  let r1 := mulL e 1 [2, c, c]
  let r2 := mulL (cE r1.2 (r1.1 - 1)) 1 [2, c, p]
  (cV r1.2 (r1.1 - 1), r2.1, r2.2)
/-- one more, as it is reckoned -/
def upF (a : Int) (s : Int × Int × Int) : Int × Int × Int :=
  let r1 := chF a s.2.2 s.1 s.2.1
  let r2 := psF a r1.2 s.1 s.2.1
  (r1.1, r2.1, r2.2)
def atL (a n : Int) : Nat → Int × Int × Int → Int × Int × Int
  | 0, s => s
  | j + 1, s => if s.2.2 = 0 then atL a n j (if n / 2 ^ j % 2 = 1 then upF a (dbF s.2.2 s.1 s.2.1) else dbF s.2.2 s.1 s.2.1) else s
theorem dbF_fit (e c p : Int) : Fit (dbF e c p).1 ∧ Fit (dbF e c p).2.1 := ⟨cV_fit _ _, mulL_fit _ _ _ fit_one⟩
theorem upF_fit (a : Int) (s : Int × Int × Int) : Fit (upF a s).1 ∧ Fit (upF a s).2.1 := ⟨cV_fit _ _, cV_fit _ _⟩
theorem leP2_zero {σ : List (Id × Id)} : LeL [aB (decide ((1 : Int) < 0)), aW (toW ((1 : Int).natAbs)), aB false, .v (.slice none 0 0)] (renL (renI σ) [aB (decide ((1 : Int) < 0)), aW (toW ((1 : Int).natAbs)), aB (decide ((0 : Int) < 0)), aW (toW ((0 : Int).natAbs))]) :=
  LeL.cons (AV.Le.refl _) (LeL.cons (AV.Le.refl _) (LeL.cons (AV.Le.bool rfl) (LeL.cons (by show (AV.v (.slice none 0 0)).Le (aW (toW ((0 : Int).natAbs))); rw [show ((Int.natAbs 0 : Nat) : Int) = 0 from rfl, toW_zero]; exact AV.Le.nil 1 eW) LeL.nil)))
theorem fit_two : Fit 2 := fit_small (by omega) (by omega)
end Go.AL
namespace Go.Proofs.YtcaecieigoplbaaGreat
open Go.AL

set_option maxHeartbeats 1000000 in
theorem at_ok (a n : Int) (ha : Fit a) (h0 : 0 ≤ n) (h1 : n ≤ 9223372036854775807) : IoFn Tryz.prog 205 [.ptr 900 0, aN n] (wB a 0) (.ret (aP2 (atL a n 63 (1, 0, 0)).1 (atL a n 63 (1, 0, 0)).2.1)) (wB a (atL a n 63 (1, 0, 0)).2.2) := by
  refine IoFn.of_body Tryz.func205 rfl Tryz.ntmps205 rfl rfl rfl ?_
  refine AWP.seqS ?_
  repeat' (first |refine Fl.nilF ?_ |refine AWP.region ?_ |refine Fl.b rfl rfl rfl rfl ?_ |fail)
  refine ⟨?_⟩
  refine AWP.seqS ?_
  refine AWP.regionJ [(900, 3, [.fn 229 []])] (InvJ.cons ⟨_, _, rfl, rfl⟩ (InvJ.nil _)) ?_
  repeat' (first |refine Fl.ldJ rfl rfl rfl rfl rfl rfl rfl rfl ?_ |refine Fl.v rfl rfl rfl ?_ |fail)
  refine Fl.call rfl (Of_ok 1 (by omega) (by omega)) rfl rfl rfl (LeL.refl _) ?_
  skip
  refine Fl.callV rfl rfl (walk1_ok _) rfl rfl rfl (LeL.refl _) ?_
  repeat' (first |refine Fl.nil (fun _ => by kernel_rfl) ?_ |refine Fl.b rfl rfl rfl rfl ?_ |fail)
  refine ⟨?_⟩
  repeat' (first |refine Fl.v rfl rfl rfl ?_ |refine Fl.nilF ?_ |refine AWP.seq ?_ |refine AWP.region ?_ |refine AWP.block ?_ |fail)
  refine AWP.loop (G := Nat × Int × Int × Int) (fun g => g.1 ≤ 63 ∧ Fit g.2.1 ∧ Fit g.2.2.1 ∧ atL a n g.1 g.2 = atL a n 63 (1, 0, 0)) (fun g => St.of [900] [(0, .ptr 900 0), (1, aN n), (4, .ptr 4 0), (5, .ptr 5 0), (6, aN ((g.1 : Int) - 1))] [(4, .cells [aB false, .v (.slice none 0 0), aB false, .v (.slice none 0 0)] 188), (5, .cells [aB (decide (g.2.1 < 0)), aW (toW g.2.1.natAbs), aB (decide (g.2.2.1 < 0)), aW (toW g.2.2.1.natAbs)] 188), (900, chB (some a) g.2.2.2)]) (fun g => g.1) (63, 1, 0, 0) ⟨by omega, fit_one, Fit.zero, rfl⟩ ?_ ?_
  · refine Ent.of [] ?_ ?_ rfl rfl
    repeat' (first | exact True.intro |refine ⟨⟨AV.Le.refl _, rfl⟩, ?_⟩ |refine ⟨⟨AV.Le.any _, rfl⟩, ?_⟩ |refine ⟨⟨⟨_, rfl, BLe.cells (LeL.refl _)⟩, rfl⟩, ?_⟩ |refine ⟨⟨⟨_, rfl, BLe.row rfl⟩, rfl⟩, ?_⟩ |refine ⟨⟨⟨_, rfl, BLe.row ?_⟩, rfl⟩, ?_⟩ |refine ⟨⟨⟨_, rfl, BLe.cells ?_⟩, rfl⟩, ?_⟩ |refine ⟨⟨AV.Le.int ?_, rfl⟩, ?_⟩ |refine ⟨⟨AV.Le.bool ?_, rfl⟩, ?_⟩ |refine ⟨⟨AV.Le.sl ?_, rfl⟩, ?_⟩ |refine ⟨⟨AV.Le.of_eq ?_, rfl⟩, ?_⟩ | fail)
    exact leP2_zero
  · intro ⟨j, c, p, e⟩ ⟨k0, k1, k2, k3⟩
    refine AWP.seqS ?_
    repeat' (first |refine Fl.v rfl rfl rfl ?_ |refine Fl.nilF ?_ |refine AWP.seq ?_ |refine AWP.region ?_ |refine Fl.b rfl rfl rfl rfl ?_ |refine Fl.skip rfl rfl ?_ |refine AWP.condF rfl ?_ |(refine AWP.condD rfl ?_ ?_ <;> intro _ <;> try (exfalso; omega)) |refine AWP.skip ?_ |refine AWP.exit ?_ |refine AWP.ret ?_ |(refine Fl.splitD rfl rfl ?_ ?_ <;> intro _ <;> try (exfalso; omega)) |fail)
    · rename_i hj he
      dsimp only at k0 k1 k2 k3 hj he
      subst he
      cases j with
      | zero => exfalso; omega
      | succ j =>
      have hs : ∀ s', s' = (if n / 2 ^ j % 2 = 1 then upF a (dbF 0 c p) else dbF 0 c p) → atL a n j s' = atL a n 63 (1, 0, 0) := fun s' h => by rw [← k3, h]; simp only [atL, if_true]
      have d1 := mulL_fit [2, c, c] 0 1 fit_one
      have d2 := mulL_fit [2, c, p] (cE (mulL 0 1 [2, c, c]).2 ((mulL 0 1 [2, c, c]).1 - 1)) 1 fit_one
      refine ⟨?_⟩
      refine AWP.seq ?_
      refine AWP.block ?_
      refine AWP.seqS ?_
      refine AWP.regionJ [(900, 3, [.fn 229 []])] (InvJ.cons ⟨_, _, rfl, rfl⟩ (InvJ.nil _)) ?_
      repeat' (first |refine Fl.ldJ rfl rfl rfl rfl rfl rfl rfl rfl ?_ |refine Fl.v rfl rfl rfl ?_ |fail)
      refine Fl.call rfl (Of_ok 2 (by omega) (by omega)) rfl rfl rfl (LeL.refl _) ?_
      repeat' (first |refine Fl.v rfl rfl rfl ?_ |fail)
      refine Fl.lit rfl rfl rfl rfl rfl eX [2, c, c] rfl rfl rfl rfl (by intro _ _; rfl) rfl ?_
      skip
      refine Fl.io rfl [] (chMul_ok (some a) 0 [2, c, c] (by simp [k1, fit_two]) (by simp)) rfl rfl (LeL.refl _) rfl ⟨⟨⟨_, rfl, BLe.cells (LeL.refl _)⟩, rfl⟩, trivial⟩ rfl rfl rfl rfl rfl ?_
      skip
      refine Fl.call rfl (Of_ok 1 (by omega) (by omega)) rfl rfl rfl (LeL.refl _) ?_
      skip
      refine Fl.io rfl [] (chSub_ok (some a) _ _ _ d1 fit_one) rfl rfl (LeL.refl _) rfl ⟨⟨⟨_, rfl, BLe.cells (LeL.refl _)⟩, rfl⟩, trivial⟩ rfl rfl rfl rfl rfl ?_
      skip
      refine Fl.callV rfl rfl (walk1_ok _) rfl rfl rfl (LeL.refl _) ?_
      repeat' (first |refine Fl.ldJ rfl rfl rfl rfl rfl rfl rfl rfl ?_ |refine Fl.v rfl rfl rfl ?_ |fail)
      refine Fl.call rfl (Of_ok 2 (by omega) (by omega)) rfl rfl rfl (LeL.refl _) ?_
      repeat' (first |refine Fl.v rfl rfl rfl ?_ |fail)
      refine Fl.lit rfl rfl rfl rfl rfl eX [2, c, p] rfl rfl rfl rfl (by intro _ _; rfl) rfl ?_
      skip
      refine Fl.io rfl [] (chMul_ok (some a) _ [2, c, p] (by simp [k1, k2, fit_two]) (by simp)) rfl rfl (LeL.refl _) rfl ⟨⟨⟨_, rfl, BLe.cells (LeL.refl _)⟩, rfl⟩, trivial⟩ rfl rfl rfl rfl rfl ?_
      skip
      refine Fl.callV rfl rfl (walk1_ok _) rfl rfl rfl (LeL.refl _) ?_
      repeat' (first |refine Fl.nil (fun _ => by kernel_rfl) ?_ |refine Fl.b rfl rfl rfl rfl ?_ |fail)
      refine ⟨?_⟩
      repeat' (first |refine Fl.v rfl rfl rfl ?_ |refine AWP.seq ?_ |refine AWP.region ?_ |refine Fl.w rfl rfl rfl (by first | exact True.intro | omega) ?_ |fail)
      have q0 : 0 ≤ n / 2 ^ (((j + 1 : Nat) : Int) - 1).toNat := Int.ediv_nonneg h0 (Int.le_of_lt (Int.pow_pos (by omega)))
      have q1 : n / 2 ^ (((j + 1 : Nat) : Int) - 1).toNat ≤ n := Int.ediv_le_self _ h0
      refine Fl.w rfl rfl rfl ⟨q0, Int.le_trans q1 h1, by omega, by omega⟩ ?_
      have qj : (((j + 1 : Nat) : Int) - 1).toNat = j := by omega
      have hb := bitN_and1 q0
      repeat' (first |refine Fl.v rfl rfl rfl ?_ |refine Fl.nilF ?_ |refine AWP.region ?_ |refine Fl.w rfl rfl rfl (by first | exact True.intro | omega) ?_ |(refine AWP.condD rfl ?_ ?_ <;> intro _ <;> try (exfalso; omega)) |refine AWP.skip ?_ |fail)
      · rename_i hbit
        have hbit2 : n / 2 ^ j % 2 = 1 := by rw [← qj, ← hb]; exact hbit
        have hd := dbF_fit 0 c p
        refine Fl.io rfl [] (chiS_ok a (dbF 0 c p).2.2 (dbF 0 c p).1 (dbF 0 c p).2.1 ha hd.1 hd.2) rfl rfl (LeL.refl _) rfl ⟨⟨⟨_, rfl, BLe.cells (LeL.refl _)⟩, rfl⟩, trivial⟩ rfl rfl rfl rfl rfl ?_
        repeat' (first |refine Fl.v rfl rfl rfl ?_ |fail)
        refine Fl.io rfl [] (psiS_ok a (chF a (dbF 0 c p).2.2 (dbF 0 c p).1 (dbF 0 c p).2.1).2 (dbF 0 c p).1 (dbF 0 c p).2.1 ha hd.1 hd.2) rfl rfl (LeL.refl _) rfl ⟨⟨⟨_, rfl, BLe.cells (LeL.refl _)⟩, rfl⟩, trivial⟩ rfl rfl rfl rfl rfl ?_
        repeat' (first |refine Fl.v rfl rfl rfl ?_ |refine Fl.nilF ?_ |refine Fl.nil (fun _ => by kernel_rfl) ?_ |refine AWP.region ?_ |refine Fl.w rfl rfl rfl (by first | exact True.intro | omega) ?_ |refine Fl.b rfl rfl rfl rfl ?_ |fail)
        refine LoopEnd.of (j, upF a (dbF 0 c p)) ⟨by dsimp only; omega, (upF_fit _ _).1, (upF_fit _ _).2, hs _ (if_pos hbit2).symm⟩ (by dsimp only; omega) ?_
        refine Ent.of [] ?_ ?_ rfl rfl
        repeat' (first | exact True.intro |refine ⟨⟨AV.Le.refl _, rfl⟩, ?_⟩ |refine ⟨⟨AV.Le.any _, rfl⟩, ?_⟩ |refine ⟨⟨⟨_, rfl, BLe.cells (LeL.refl _)⟩, rfl⟩, ?_⟩ |refine ⟨⟨⟨_, rfl, BLe.row rfl⟩, rfl⟩, ?_⟩ |refine ⟨⟨⟨_, rfl, BLe.row ?_⟩, rfl⟩, ?_⟩ |refine ⟨⟨⟨_, rfl, BLe.cells ?_⟩, rfl⟩, ?_⟩ |refine ⟨⟨AV.Le.int ?_, rfl⟩, ?_⟩ |refine ⟨⟨AV.Le.bool ?_, rfl⟩, ?_⟩ |refine ⟨⟨AV.Le.sl ?_, rfl⟩, ?_⟩ |refine ⟨⟨AV.Le.of_eq ?_, rfl⟩, ?_⟩ | fail)
        show ((j + 1 : Nat) : Int) - 1 - 1 = (j : Int) - 1
        omega
      · rename_i hbit
        have hbit2 : ¬ n / 2 ^ j % 2 = 1 := by rw [← qj, ← hb]; exact hbit
        have hd := dbF_fit 0 c p
        refine LoopEnd.of (j, dbF 0 c p) ⟨by dsimp only; omega, hd.1, hd.2, hs _ (if_neg hbit2).symm⟩ (by dsimp only; omega) ?_
        refine Ent.of [] ?_ ?_ rfl rfl
        repeat' (first | exact True.intro |refine ⟨⟨AV.Le.refl _, rfl⟩, ?_⟩ |refine ⟨⟨AV.Le.any _, rfl⟩, ?_⟩ |refine ⟨⟨⟨_, rfl, BLe.cells (LeL.refl _)⟩, rfl⟩, ?_⟩ |refine ⟨⟨⟨_, rfl, BLe.row rfl⟩, rfl⟩, ?_⟩ |refine ⟨⟨⟨_, rfl, BLe.row ?_⟩, rfl⟩, ?_⟩ |refine ⟨⟨⟨_, rfl, BLe.cells ?_⟩, rfl⟩, ?_⟩ |refine ⟨⟨AV.Le.int ?_, rfl⟩, ?_⟩ |refine ⟨⟨AV.Le.bool ?_, rfl⟩, ?_⟩ |refine ⟨⟨AV.Le.sl ?_, rfl⟩, ?_⟩ |refine ⟨⟨AV.Le.of_eq ?_, rfl⟩, ?_⟩ | fail)
        show ((j + 1 : Nat) : Int) - 1 - 1 = (j : Int) - 1
        omega
    · rename_i hj he
      dsimp only at k0 k1 k2 k3 hj he
      cases j with
      | zero => exfalso; omega
      | succ j =>
      have k4 : atL a n (j + 1) (c, p, e) = (c, p, e) := by rw [atL]; exact if_neg he
      rw [← k3, k4]
      exact ⟨⟨[], _, _, Ent.refl _ _ _, rfl, AV.Le.refl _, rfl, ⟨⟨⟨_, rfl, BLe.cells (LeL.refl _)⟩, rfl⟩, trivial⟩, rfl, rfl⟩⟩
    · rename_i hj
      dsimp only at k0 k1 k2 k3 hj
      cases j with
      | succ j => exfalso; omega
      | zero =>
      have k4 : atL a n 0 (c, p, e) = (c, p, e) := rfl
      rw [← k3, k4]
      exact ⟨⟨[], _, _, Ent.refl _ _ _, rfl, AV.Le.refl _, rfl, ⟨⟨⟨_, rfl, BLe.cells (LeL.refl _)⟩, rfl⟩, trivial⟩, rfl, rfl⟩⟩
end Go.Proofs.YtcaecieigoplbaaGreat
/- What the walk through a number's digits yields. -/
namespace Go.AL
theorem fit_of {x T : Int} (h : Fit T) (h0 : 0 ≤ x) (h1 : x ≤ T) : Fit x := h.le (by omega)
theorem cV_of_cE {e x : Int} (h : cE e x ≠ 0) : cV e x = 0 := by
  unfold cE at h; unfold cV
  split at h
  · rename_i he
    rw [if_neg]
    exact fun k => h (szErr_eq.2 k.2)
  · rename_i he
    exact if_neg fun k => he k.1
section
variable {a : Int} {N : Nat}
/-- psi's next element is a number -/
abbrev FN (a : Int) (N : Nat) : Prop := Fit (psiN a (N + 1))
theorem dbF_ok (ha : 2 ≤ a) {m : Nat} (hm : 2 * m ≤ N) : (dbF 0 (chiN a m) (psiN a m) = (chiN a (2 * m), psiN a (2 * m), 0)) ∨ ((dbF 0 (chiN a m) (psiN a m)).2.2 = 4 ∧ ¬ FN a N) := by
  obtain ⟨p1, p2, p3⟩ := cp_pos ha m
  have hc := chi_dbl a m
  have hp := psi_dbl a m
  have b1 : 2 * chiN a m * 1 ≤ 2 * chiN a m * chiN a m := Int.mul_le_mul_of_nonneg_left p1 (by omega)
  have b0 : FN a N → Fit (2 * chiN a m * chiN a m) := by
    intro hF
    by_cases hN : N = 0
    · have : m = 0 := by omega
      subst this
      rw [chi_zero]; exact fit_two
    · refine fit_of hF (by omega) ?_
      have h1 := chi_mono ha hm
      have h2 := psi_pos ha (n := N) (by omega)
      have h3 : 2 * psiN a N ≤ a * psiN a N := Int.mul_le_mul_of_nonneg_right ha (by omega)
      rw [psi_succ]; omega
  have b2 : FN a N → Fit (2 * chiN a m) := fun hF => fit_of (b0 hF) (by omega) (by omega)
  have b3 : FN a N → Fit (2 * chiN a m * chiN a m - 1) := fun hF => fit_of (b0 hF) (by omega) (by omega)
  have b4 : FN a N → Fit (2 * chiN a m * psiN a m) := fun hF => fit_of hF (by rw [← hp]; exact (cp_pos ha _).2.1) (by rw [← hp]; exact psi_mono ha (by omega))
  unfold dbF
  rcases CS.mul3 (F := FN a N) fit_two b2 b0 with ⟨e1, _⟩ | ⟨e1, n1⟩
  · simp only [e1]
    rcases CS.one (F := FN a N) b3 with ⟨e2, _⟩ | ⟨e2, n2⟩
    · injection e2 with e2 e3
      simp only [e2, e3]
      rcases CS.mul3 (F := FN a N) fit_two b2 b4 with ⟨e5, _⟩ | ⟨e5, n5⟩
      · simp only [e5]; left; rw [hc, hp]
      · exact .inr ⟨e5, n5⟩
    · have e2 : cE 0 (2 * chiN a m * chiN a m - 1) = 4 := e2
      refine .inr ⟨?_, n2⟩
      simp only [e2, mulL_err]
  · refine .inr ⟨?_, n1⟩
    simp only [e1, cE4, mulL_err]
theorem upF_ok (ha : 2 ≤ a) (hf : Fit a) {m : Nat} (hm : m + 1 ≤ N) : (upF a (chiN a m, psiN a m, 0) = (chiN a (m + 1), psiN a (m + 1), 0)) ∨ ((upF a (chiN a m, psiN a m, 0)).2.2 = 4 ∧ ¬ FN a N) := by
  obtain ⟨p1, p2, p3⟩ := cp_pos ha m
  obtain ⟨c1, c2, c3, c4, c5⟩ := chi_step ha m
  have b0 : chiN a (m + 1) ≤ psiN a (N + 1) := by
    have h1 := chi_mono ha hm
    have h2 := (psi_step ha N).2.1
    omega
  have e1 : 0 ≤ a * psiN a m := Int.mul_nonneg (by omega) p2
  have e2 : 0 ≤ a * (a * psiN a m) := Int.mul_nonneg (by omega) e1
  have e3 : 0 ≤ a * chiN a m := Int.mul_nonneg (by omega) (by omega)
  have e4 : 2 * (a * psiN a m) ≤ a * (a * psiN a m) := Int.mul_le_mul_of_nonneg_right ha e1
  have e5 : 2 * psiN a m ≤ a * psiN a m := Int.mul_le_mul_of_nonneg_right ha p2
  have hs : a * chiN a m + (a * (a * psiN a m) - psiN a m) = chiN a (m + 1) := by rw [chi_succ]; grind
  have hq : chiN a m + a * psiN a m = psiN a (m + 1) := (psi_succ a m).symm
  unfold upF
  rcases chF_ok (F := FN a N) (a := a) (c := chiN a m) (p := psiN a m) hf (fun F => fit_of F e1 (by omega)) (fun F => fit_of F e2 (by omega)) (fun F => fit_of F (by omega) (by omega)) (fun F => fit_of F e3 (by omega)) (fun F => fit_of F (by omega) (by omega)) with ⟨k1, _⟩ | ⟨k1, n1⟩
  · simp only [k1]
    rcases psF_ok (F := FN a N) (a := a) (c := chiN a m) (p := psiN a m) hf (fun F => fit_of F e1 (by omega)) (fun F => fit_of F (by omega) (by rw [hq]; exact psi_mono ha (by omega))) with ⟨k2, _⟩ | ⟨k2, n2⟩
    · left; simp only [k2]; rw [hs, hq]
    · exact .inr ⟨k2, n2⟩
  · refine .inr ⟨?_, n1⟩
    simp only [k1, psF_err]
/-- the state when the digits from j on have been gone through -/
def AtI (a : Int) (N j : Nat) (s : Int × Int × Int) : Prop := s = (chiN a (N / 2 ^ j), psiN a (N / 2 ^ j), 0) ∨ (s.2.2 = 4 ∧ ¬ FN a N)
theorem atL_ok (ha : 2 ≤ a) (hf : Fit a) : ∀ (j : Nat) (s : Int × Int × Int), AtI a N j s → AtI a N 0 (atL a N j s)
  | 0, s, h => h
  | j + 1, s, h => by
    rcases h with rfl | ⟨h1, h2⟩
    · rw [atL, if_pos rfl]
      refine atL_ok ha hf j _ ?_
      have hd : N / 2 ^ (j + 1) = N / 2 ^ j / 2 := by rw [Nat.pow_succ, Nat.div_div_eq_div_mul]
      have hle : N / 2 ^ j ≤ N := Nat.div_le_self _ _
      have hbit : ((N : Int) / 2 ^ j % 2 = 1) ↔ N / 2 ^ j % 2 = 1 := by
        have : (N : Int) / 2 ^ j = ((N / 2 ^ j : Nat) : Int) := by rw [Int.natCast_ediv, Int.natCast_pow]; rfl
        rw [this]; omega
      dsimp only
      rw [hd]
      generalize hq : N / 2 ^ j = q at *
      rcases dbF_ok ha (N := N) (m := q / 2) (by omega) with e1 | ⟨e1, n1⟩
      · rw [e1]
        by_cases hb : (N : Int) / 2 ^ j % 2 = 1
        · rw [if_pos hb]
          have hb2 := hbit.1 hb
          rcases upF_ok ha hf (N := N) (m := 2 * (q / 2)) (by omega) with e2 | ⟨e2, n2⟩
          · left
            rw [e2, hq, show 2 * (q / 2) + 1 = q by omega]
          · exact .inr ⟨e2, n2⟩
        · rw [if_neg hb]
          left
          have : q % 2 ≠ 1 := fun h => hb (hbit.2 h)
          rw [hq, show 2 * (q / 2) = q by omega]
      · split
        · refine .inr ⟨?_, n1⟩
          unfold upF
          simp only [e1, chF_err, psF_err]
        · exact .inr ⟨e1, n1⟩
    · rw [atL, if_neg (by omega)]
      exact .inr ⟨h1, h2⟩
/-- Psi's result. -/
theorem psi_res (ha : 2 ≤ a) (hf : Fit a) (hN : N < 2 ^ 63) {r : Int × Int} (hr : r = psF a (atL a N 63 (1, 0, 0)).2.2 (atL a N 63 (1, 0, 0)).1 (atL a N 63 (1, 0, 0)).2.1) : r.1 = clip (psiN a (N + 1)) ∧ r.2 = szErr (psiN a (N + 1)) := by
  have h := atL_ok ha hf (N := N) 63 (1, 0, 0) (.inl (by rw [Nat.div_eq_of_lt hN, chi_zero, psi_zero]))
  have hz : r.2 ≠ 0 → r.1 = 0 := by
    rw [hr]; unfold psF; exact fun h => cV_of_cE h
  have fin : r.2 = 4 → ¬ FN a N → r.1 = clip (psiN a (N + 1)) ∧ r.2 = szErr (psiN a (N + 1)) := fun h1 h2 => by
    rw [clip_not h2, szErr_not h2]
    exact ⟨hz (by omega), h1⟩
  rcases h with h | ⟨h1, h2⟩
  · rw [h] at hr
    simp only [Nat.pow_zero, Nat.div_one] at hr
    obtain ⟨p1, p2, p3⟩ := cp_pos ha N
    have e1 : 0 ≤ a * psiN a N := Int.mul_nonneg (by omega) p2
    have hq : chiN a N + a * psiN a N = psiN a (N + 1) := (psi_succ a N).symm
    rcases psF_ok (F := FN a N) (a := a) (c := chiN a N) (p := psiN a N) hf (fun F => fit_of F e1 (psi_step ha N).2.2) (fun F => by rw [hq]; exact F) with ⟨k2, kf⟩ | ⟨k2, n2⟩
    · rw [hr, k2, hq]
      rw [hq] at kf
      rw [clip_fit kf, szErr_fit kf]; exact ⟨rfl, rfl⟩
    · rw [← hr] at k2
      exact fin k2 n2
  · refine fin ?_ h2
    rw [hr, h1, psF_err]
end
end Go.AL
namespace Go.AL
theorem atL_fit (a n : Int) : ∀ (j : Nat) (s : Int × Int × Int), Fit s.1 → Fit s.2.1 → Fit (atL a n j s).1 ∧ Fit (atL a n j s).2.1
  | 0, s, h1, h2 => ⟨h1, h2⟩
  | j + 1, s, h1, h2 => by
    rw [atL]
    split
    · split
      · exact atL_fit a n j _ (upF_fit _ _).1 (upF_fit _ _).2
      · exact atL_fit a n j _ (dbF_fit _ _ _).1 (dbF_fit _ _ _).2
    · exact ⟨h1, h2⟩
end Go.AL
namespace Go.Proofs.YtcaecieigoplbaaGreat
open Go.AL

theorem element_ok (a n : Int) (ha : Fit a) (h2 : 2 ≤ a) (h0 : 1 ≤ n) (h1 : n ≤ 9223372036854775807) : PureFn Tryz.prog 163 [aX a, aN n, aN 0, .fn 164 []] (aR (psiN a n.toNat)) := by
  refine PureFn.of_body Tryz.func163 rfl Tryz.ntmps163 rfl rfl ?_
  repeat' (first |refine Fl.v rfl rfl rfl ?_ |refine Fl.nilF ?_ |refine AWP.seq ?_ |refine AWP.region ?_ |refine Fl.b rfl rfl rfl rfl ?_ |fail)
  refine Fl.call rfl (fits_ok a ha h2) rfl rfl rfl (LeL.refl _) ?_
  repeat' (first |refine Fl.v rfl rfl rfl ?_ |refine Fl.nilF ?_ |refine AWP.seq ?_ |refine AWP.region ?_ |refine Fl.b rfl rfl rfl rfl ?_ |refine AWP.condF rfl ?_ |(refine AWP.condD rfl ?_ ?_ <;> intro _ <;> try (exfalso; omega)) |refine AWP.block ?_ |refine AWP.skip ?_ |refine AWP.ret ?_ |fail)
  · rename_i h
    refine RetOk.of rfl ?_
    rw [aR_not (psi_not_fit h2 (by omega))]
    exact AV.Le.tup (LeL.cons aX_zero (LeL.refl _))
  · rename_i h
    refine Fl.io rfl [(900, 33)] (walk_ok a) rfl rfl (LeL.refl _) rfl trivial rfl rfl rfl rfl rfl ?_
    repeat' (first |refine Fl.v rfl rfl rfl ?_ |refine Fl.nilF ?_ |refine AWP.seq ?_ |refine AWP.region ?_ |refine Fl.w rfl rfl rfl (by first | exact True.intro | omega) ?_ |fail)
    refine Fl.io rfl [(900, 33)] (at_ok a (n - 1) ha (by omega) (by omega)) rfl rfl (LeL.refl _) rfl ⟨⟨⟨_, rfl, BLe.cells (LeL.refl _)⟩, rfl⟩, trivial⟩ rfl rfl rfl rfl rfl ?_
    skip
    have hN : (((n - 1).toNat : Nat) : Int) = n - 1 := by omega
    have hfc : Fit (atL a (n - 1) 63 (1, 0, 0)).1 ∧ Fit (atL a (n - 1) 63 (1, 0, 0)).2.1 := atL_fit a (n - 1) 63 _ fit_one Fit.zero
    refine Fl.ioV rfl rfl [(900, 33)] (psiS_ok a _ _ _ ha hfc.1 hfc.2) rfl rfl (LeL.refl _) rfl ⟨⟨⟨_, rfl, BLe.cells (LeL.refl _)⟩, rfl⟩, trivial⟩ rfl rfl rfl rfl rfl ?_
    repeat' (first |refine Fl.v rfl rfl rfl ?_ |refine Fl.nilF ?_ |refine Fl.nil (fun _ => by kernel_rfl) ?_ |refine AWP.seq ?_ |refine AWP.region ?_ |refine Fl.b rfl rfl rfl rfl ?_ |refine AWP.ret ?_ |fail)
    have hr := psi_res (a := a) (N := (n - 1).toNat) h2 ha (by omega) rfl
    rw [hN, show (n - 1).toNat + 1 = n.toNat by omega] at hr
    refine RetOk.of rfl (AV.Le.tup (LeL.cons (AV.Le.agg ?_) (LeL.cons (AV.Le.int hr.2) LeL.nil)))
    exact leX (σ := []) hr.1
theorem Psi_ok (a n : Int) (ha : Fit a) (h2 : 2 ≤ a) (h0 : 1 ≤ n) (h1 : n ≤ 9223372036854775807) : PureFn Tryz.prog 99 [aX a, aN n] (aR (psiN a n.toNat)) := by
  refine PureFn.of_body Tryz.func99 rfl Tryz.ntmps99 rfl rfl ?_
  repeat' (first |refine Fl.v rfl rfl rfl ?_ |refine Fl.nilF ?_ |refine AWP.seq ?_ |refine AWP.region ?_ |refine Fl.b rfl rfl rfl rfl ?_ |fail)
  refine Fl.call rfl (element_ok a n ha h2 h0 h1) rfl rfl rfl (LeL.refl _) ?_
  repeat' (first |refine Fl.v rfl rfl rfl ?_ |refine Fl.nilF ?_ |refine Fl.b rfl rfl rfl rfl ?_ |refine AWP.ret ?_ |fail)
  exact RetOk.of rfl (AV.Le.refl _)
end Go.Proofs.YtcaecieigoplbaaGreat
namespace Go.AL
/-- how many polynomials a link has -/
def needI (k : Int) : Int := if k = 0 then 1 else if k = 1 then 3 else if k = 2 then 3 else if k = 3 then 2 else 0
/-- increasing, above a bound, below another -/
def incB (last top : Int) : List Int → Prop
  | [] => True
  | v :: l => last < v ∧ v < top ∧ incB v top l
/-- the link is valid -/
structure OkL (vars : Int) (l : LZ) : Prop where
  kind : needI l.kind ≠ 0
  len : (l.polys.length : Int) = needI l.kind
  vlen : l.vars.length ≤ 32
  inc : incB (-1) vars l.vars
  polys : ∀ p ∈ l.polys, p.vars = l.vars.length ∧ OkP p
def WL (l : LZ) : Prop := ∀ p ∈ l.polys, WP p
structure OkS (s : SZ) : Prop where
  v0 : 0 ≤ s.vars
  v1 : s.vars ≤ 20000
  len : s.links.length ≤ 20000
  links : ∀ l ∈ s.links, OkL s.vars l
def WS (s : SZ) : Prop := ∀ l ∈ s.links, WL l
/-- the first element that a function picks -/
def idxI {α : Type} (f : α → Bool) : List α → Int → Int
  | [], _ => -1
  | x :: l, k => if f x then k else idxI f l (k + 1)
theorem idxI_any {α : Type} (f : α → Bool) : ∀ (l : List α) (k : Int), 0 ≤ k → decide (0 ≤ idxI f l k) = l.any f
  | [], k, h => by simp [idxI]
  | x :: l, k, h => by
    simp only [idxI, List.any_cons]
    by_cases hx : f x = true
    · simp [hx, h]
    · have := idxI_any f l (k + 1) (by omega)
      simp only [hx, Bool.false_or]
      simpa using this
theorem idxI_drop {α : Type} {f : α → Bool} {l : List α} {i : Nat} {x : α} (h : l[i]? = some x) : idxI f (l.drop i) i = if f x then (i : Int) else idxI f (l.drop (i + 1)) ((i + 1 : Nat) : Int) := by
  have hi := (List.getElem?_eq_some_iff.1 h).1
  rw [List.drop_eq_getElem_cons hi, (List.getElem?_eq_some_iff.1 h).2]
  simp only [idxI]
  congr 2
end Go.AL
namespace Go.Proofs.YtcaecieigoplbaaGreat
open Go.AL

theorem needs_ok (k : Int) : PureFn Tryz.prog 195 [aN k] (aN (needI k)) := by
  refine PureFn.of_body Tryz.func195 rfl Tryz.ntmps195 rfl rfl ?_
  repeat' (first |refine Fl.v rfl rfl rfl ?_ |refine Fl.nilF ?_ |refine AWP.seq ?_ |refine AWP.region ?_ |refine Fl.skip rfl rfl ?_ |refine AWP.condT rfl ?_ |(refine AWP.condD rfl ?_ ?_ <;> intro _ <;> try (exfalso; omega)) |refine AWP.skip ?_ |refine AWP.ret ?_ |(refine Fl.splitD rfl rfl ?_ ?_ <;> intro _ <;> try (exfalso; omega)) |fail)
  · exact RetOk.of rfl (AV.Le.int (by unfold needI; repeat rw [if_neg (by omega)]))
  · exact RetOk.of rfl (AV.Le.int (by unfold needI; repeat rw [if_neg (by omega)]))
  · rename_i h0 h1
    obtain rfl | rfl | rfl | rfl : k = 0 ∨ k = 1 ∨ k = 2 ∨ k = 3 := by omega
    all_goals
      refine Fl.bArr rfl rfl rfl rfl ?_
      repeat' (first |refine Fl.v rfl rfl rfl ?_ |fail)
      refine Fl.ixA rfl rfl rfl rfl rfl rfl rfl rfl rfl rfl ?_ ?_ ?_
      · exact by decide
      · exact by decide
      repeat' (first |refine Fl.v rfl rfl rfl ?_ |refine Fl.nilF ?_ |refine AWP.ret ?_ |fail)
      exact RetOk.of rfl (AV.Le.refl _)

abbrev lB (l : LZ) : List (AL.Id × Bx) := [(900, .cells (eL l) 82)]
theorem link1_ok (l : LZ) (p : PZ) (hw : WP p) (b : Bool) (hb : b = true ↔ p.vars = l.vars.length ∧ OkP p) : IoFn Tryz.prog 196 [aP p, .ptr 900 0] (lB l) (.ret (aB !b)) (lB l) := by
  refine IoFn.of_body Tryz.func196 rfl Tryz.ntmps196 rfl rfl rfl ?_
  repeat' (first |refine Fl.v rfl rfl rfl ?_ |refine Fl.nilF ?_ |refine AWP.seq ?_ |refine AWP.region ?_ |refine Fl.b rfl rfl rfl rfl ?_ |refine Fl.skip rfl rfl ?_ |refine AWP.ret ?_ |(refine Fl.splitN rfl rfl ?_ ?_ <;> intro _ <;> try (exfalso; omega)) |fail)
  · rename_i h
    refine ⟨⟨[], _, _, Ent.refl _ _ _, rfl, AV.Le.bool ?_, rfl, ⟨⟨⟨_, rfl, BLe.cells (LeL.refl _)⟩, rfl⟩, trivial⟩, rfl, rfl⟩⟩
    cases b with
    | false => rfl
    | true => exact absurd (hb.1 rfl).1 h
  · rename_i h
    refine Fl.call rfl (pValid_ok p hw b ⟨fun k => (hb.1 k).2, fun k => hb.2 ⟨h, k⟩⟩) rfl rfl rfl (LeL.refl _) ?_
    repeat' (first |refine Fl.v rfl rfl rfl ?_ |refine Fl.nilF ?_ |refine AWP.ret ?_ |fail)
    exact ⟨⟨[], _, _, Ent.refl _ _ _, rfl, AV.Le.refl _, rfl, ⟨⟨⟨_, rfl, BLe.cells (LeL.refl _)⟩, rfl⟩, trivial⟩, rfl, rfl⟩⟩

theorem indexP_ok (o : LZ) (f : PZ → Bool) (ps : List PZ) (hl : ps.length ≤ 1000000) (hf : ∀ p ∈ ps, IoFn Tryz.prog 196 ([aP p] ++ [.ptr 900 0]) (lB o) (.ret (aB (f p))) (lB o)) :
    IoFn Tryz.prog 188 [.sl 2 eP ps, .fn 196 [.ptr 900 0]] (lB o) (.ret (aN (idxI f ps 0))) (lB o) := by
  refine IoFn.of_body Tryz.func188 rfl Tryz.ntmps188 rfl rfl rfl ?_
  repeat' (first |refine Fl.v rfl rfl rfl ?_ |refine Fl.nilF ?_ |refine AWP.seq ?_ |refine AWP.region ?_ |refine AWP.block ?_ |fail)
  refine AWP.loop (G := Nat) (fun i => i ≤ ps.length ∧ idxI f (ps.drop i) i = idxI f ps 0) (fun i => St.of [900] [(0, .sl 2 eP ps), (1, .fn 196 [.ptr 900 0]), (7, aN ps.length), (8, aN i)] [(900, .cells (eL o) 82)]) (fun i => ps.length - i) 0 ⟨by omega, by simp⟩ ?_ ?_
  · refine Ent.of [] ?_ ?_ rfl rfl
    repeat' (first | exact True.intro |refine ⟨⟨AV.Le.refl _, rfl⟩, ?_⟩ |refine ⟨⟨AV.Le.any _, rfl⟩, ?_⟩ |refine ⟨⟨⟨_, rfl, BLe.cells (LeL.refl _)⟩, rfl⟩, ?_⟩ |refine ⟨⟨⟨_, rfl, BLe.row rfl⟩, rfl⟩, ?_⟩ |refine ⟨⟨⟨_, rfl, BLe.row ?_⟩, rfl⟩, ?_⟩ |refine ⟨⟨⟨_, rfl, BLe.cells ?_⟩, rfl⟩, ?_⟩ |refine ⟨⟨AV.Le.int ?_, rfl⟩, ?_⟩ |refine ⟨⟨AV.Le.bool ?_, rfl⟩, ?_⟩ |refine ⟨⟨AV.Le.sl ?_, rfl⟩, ?_⟩ |refine ⟨⟨AV.Le.of_eq ?_, rfl⟩, ?_⟩ | fail)
  · intro i ⟨k0, k1⟩
    repeat' (first |refine Fl.v rfl rfl rfl ?_ |refine Fl.nilF ?_ |refine AWP.seq ?_ |refine AWP.region ?_ |(refine AWP.condD rfl ?_ ?_ <;> intro _ <;> try (exfalso; omega)) |refine AWP.block ?_ |refine AWP.skip ?_ |refine AWP.exit ?_ |refine AWP.ret ?_ |(refine Fl.el rfl rfl rfl rfl rfl rfl rfl rfl (by omega) (by omega) ?_; intro _ _) |fail)
    · rename_i hi p hp
      rw [Int.toNat_natCast] at hp
      have hd := idxI_drop (f := f) hp
      refine Fl.ioV rfl rfl [] (hf p (List.mem_of_getElem? hp)) rfl rfl (LeL.refl _) rfl ⟨⟨⟨_, rfl, BLe.cells (LeL.refl _)⟩, rfl⟩, trivial⟩ rfl rfl rfl rfl rfl ?_
      repeat' (first |refine Fl.v rfl rfl rfl ?_ |refine Fl.nilF ?_ |refine AWP.seq ?_ |refine AWP.region ?_ |refine Fl.w rfl rfl rfl (by first | exact True.intro | omega) ?_ |refine AWP.skip ?_ |refine AWP.ret ?_ |(refine AWP.condB rfl ?_ ?_ <;> intro _) |fail)
      · rename_i hb
        rw [if_pos hb] at hd
        refine ⟨⟨[], _, _, Ent.refl _ _ _, rfl, AV.Le.int ?_, rfl, ⟨⟨⟨_, rfl, BLe.cells (LeL.refl _)⟩, rfl⟩, trivial⟩, rfl, rfl⟩⟩
        rw [← k1, hd]
      · rename_i hb
        rw [if_neg (by rw [hb]; simp)] at hd
        refine LoopEnd.of (i + 1) ⟨by omega, by rw [← k1, hd]⟩ (by omega) ?_
        refine Ent.of [] ?_ ?_ rfl rfl
        repeat' (first | exact True.intro |refine ⟨⟨AV.Le.refl _, rfl⟩, ?_⟩ |refine ⟨⟨AV.Le.any _, rfl⟩, ?_⟩ |refine ⟨⟨⟨_, rfl, BLe.cells (LeL.refl _)⟩, rfl⟩, ?_⟩ |refine ⟨⟨⟨_, rfl, BLe.row rfl⟩, rfl⟩, ?_⟩ |refine ⟨⟨⟨_, rfl, BLe.row ?_⟩, rfl⟩, ?_⟩ |refine ⟨⟨⟨_, rfl, BLe.cells ?_⟩, rfl⟩, ?_⟩ |refine ⟨⟨AV.Le.int ?_, rfl⟩, ?_⟩ |refine ⟨⟨AV.Le.bool ?_, rfl⟩, ?_⟩ |refine ⟨⟨AV.Le.sl ?_, rfl⟩, ?_⟩ |refine ⟨⟨AV.Le.of_eq ?_, rfl⟩, ?_⟩ | fail)
    · refine ⟨⟨[], _, _, Ent.refl _ _ _, rfl, AV.Le.int ?_, rfl, ⟨⟨⟨_, rfl, BLe.cells (LeL.refl _)⟩, rfl⟩, trivial⟩, rfl, rfl⟩⟩
      rw [← k1, List.drop_of_length_le (by omega)]; rfl
theorem containsP_ok (o : LZ) (f : PZ → Bool) (ps : List PZ) (hl : ps.length ≤ 1000000) (hf : ∀ p ∈ ps, IoFn Tryz.prog 196 ([aP p] ++ [.ptr 900 0]) (lB o) (.ret (aB (f p))) (lB o)) :
    IoFn Tryz.prog 139 [.sl 2 eP ps, .fn 196 [.ptr 900 0]] (lB o) (.ret (aB (ps.any f))) (lB o) := by
  refine IoFn.of_body Tryz.func139 rfl Tryz.ntmps139 rfl rfl rfl ?_
  have h := indexP_ok o f ps hl hf
  have he := idxI_any f ps 0 (by omega)
  repeat' (first |refine Fl.v rfl rfl rfl ?_ |refine Fl.nilF ?_ |refine AWP.seq ?_ |refine AWP.region ?_ |fail)
  refine Fl.io rfl [] h rfl rfl (LeL.refl _) rfl ⟨⟨⟨_, rfl, BLe.cells (LeL.refl _)⟩, rfl⟩, trivial⟩ rfl rfl rfl rfl rfl ?_
  repeat' (first |refine Fl.v rfl rfl rfl ?_ |refine Fl.nilF ?_ |refine AWP.ret ?_ |fail)
  exact ⟨⟨[], _, _, Ent.refl _ _ _, rfl, AV.Le.bool he, rfl, ⟨⟨⟨_, rfl, BLe.cells (LeL.refl _)⟩, rfl⟩, trivial⟩, rfl, rfl⟩⟩
abbrev sB (s : SZ) : List (AL.Id × Bx) := [(900, .cells [aN s.vars, .sl 3 eL s.links] 25)]
theorem indexL_ok (o : SZ) (f : LZ → Bool) (ps : List LZ) (hl : ps.length ≤ 1000000) (hf : ∀ p ∈ ps, IoFn Tryz.prog 156 ([aL p] ++ [.ptr 900 0]) (sB o) (.ret (aB (f p))) (sB o)) :
    IoFn Tryz.prog 194 [.sl 3 eL ps, .fn 156 [.ptr 900 0]] (sB o) (.ret (aN (idxI f ps 0))) (sB o) := by
  refine IoFn.of_body Tryz.func194 rfl Tryz.ntmps194 rfl rfl rfl ?_
  repeat' (first |refine Fl.v rfl rfl rfl ?_ |refine Fl.nilF ?_ |refine AWP.seq ?_ |refine AWP.region ?_ |refine AWP.block ?_ |fail)
  refine AWP.loop (G := Nat) (fun i => i ≤ ps.length ∧ idxI f (ps.drop i) i = idxI f ps 0) (fun i => St.of [900] [(0, .sl 3 eL ps), (1, .fn 156 [.ptr 900 0]), (7, aN ps.length), (8, aN i)] [(900, .cells [aN o.vars, .sl 3 eL o.links] 25)]) (fun i => ps.length - i) 0 ⟨by omega, by simp⟩ ?_ ?_
  · refine Ent.of [] ?_ ?_ rfl rfl
    repeat' (first | exact True.intro |refine ⟨⟨AV.Le.refl _, rfl⟩, ?_⟩ |refine ⟨⟨AV.Le.any _, rfl⟩, ?_⟩ |refine ⟨⟨⟨_, rfl, BLe.cells (LeL.refl _)⟩, rfl⟩, ?_⟩ |refine ⟨⟨⟨_, rfl, BLe.row rfl⟩, rfl⟩, ?_⟩ |refine ⟨⟨⟨_, rfl, BLe.row ?_⟩, rfl⟩, ?_⟩ |refine ⟨⟨⟨_, rfl, BLe.cells ?_⟩, rfl⟩, ?_⟩ |refine ⟨⟨AV.Le.int ?_, rfl⟩, ?_⟩ |refine ⟨⟨AV.Le.bool ?_, rfl⟩, ?_⟩ |refine ⟨⟨AV.Le.sl ?_, rfl⟩, ?_⟩ |refine ⟨⟨AV.Le.of_eq ?_, rfl⟩, ?_⟩ | fail)
  · intro i ⟨k0, k1⟩
    repeat' (first |refine Fl.v rfl rfl rfl ?_ |refine Fl.nilF ?_ |refine AWP.seq ?_ |refine AWP.region ?_ |(refine AWP.condD rfl ?_ ?_ <;> intro _ <;> try (exfalso; omega)) |refine AWP.block ?_ |refine AWP.skip ?_ |refine AWP.exit ?_ |refine AWP.ret ?_ |(refine Fl.el rfl rfl rfl rfl rfl rfl rfl rfl (by omega) (by omega) ?_; intro _ _) |fail)
    · rename_i hi p hp
      rw [Int.toNat_natCast] at hp
      have hd := idxI_drop (f := f) hp
      refine Fl.ioV rfl rfl [] (hf p (List.mem_of_getElem? hp)) rfl rfl (LeL.refl _) rfl ⟨⟨⟨_, rfl, BLe.cells (LeL.refl _)⟩, rfl⟩, trivial⟩ rfl rfl rfl rfl rfl ?_
      repeat' (first |refine Fl.v rfl rfl rfl ?_ |refine Fl.nilF ?_ |refine AWP.seq ?_ |refine AWP.region ?_ |refine Fl.w rfl rfl rfl (by first | exact True.intro | omega) ?_ |refine AWP.skip ?_ |refine AWP.ret ?_ |(refine AWP.condB rfl ?_ ?_ <;> intro _) |fail)
      · rename_i hb
        rw [if_pos hb] at hd
        refine ⟨⟨[], _, _, Ent.refl _ _ _, rfl, AV.Le.int ?_, rfl, ⟨⟨⟨_, rfl, BLe.cells (LeL.refl _)⟩, rfl⟩, trivial⟩, rfl, rfl⟩⟩
        rw [← k1, hd]
      · rename_i hb
        rw [if_neg (by rw [hb]; simp)] at hd
        refine LoopEnd.of (i + 1) ⟨by omega, by rw [← k1, hd]⟩ (by omega) ?_
        refine Ent.of [] ?_ ?_ rfl rfl
        repeat' (first | exact True.intro |refine ⟨⟨AV.Le.refl _, rfl⟩, ?_⟩ |refine ⟨⟨AV.Le.any _, rfl⟩, ?_⟩ |refine ⟨⟨⟨_, rfl, BLe.cells (LeL.refl _)⟩, rfl⟩, ?_⟩ |refine ⟨⟨⟨_, rfl, BLe.row rfl⟩, rfl⟩, ?_⟩ |refine ⟨⟨⟨_, rfl, BLe.row ?_⟩, rfl⟩, ?_⟩ |refine ⟨⟨⟨_, rfl, BLe.cells ?_⟩, rfl⟩, ?_⟩ |refine ⟨⟨AV.Le.int ?_, rfl⟩, ?_⟩ |refine ⟨⟨AV.Le.bool ?_, rfl⟩, ?_⟩ |refine ⟨⟨AV.Le.sl ?_, rfl⟩, ?_⟩ |refine ⟨⟨AV.Le.of_eq ?_, rfl⟩, ?_⟩ | fail)
    · refine ⟨⟨[], _, _, Ent.refl _ _ _, rfl, AV.Le.int ?_, rfl, ⟨⟨⟨_, rfl, BLe.cells (LeL.refl _)⟩, rfl⟩, trivial⟩, rfl, rfl⟩⟩
      rw [← k1, List.drop_of_length_le (by omega)]; rfl
theorem containsL_ok (o : SZ) (f : LZ → Bool) (ps : List LZ) (hl : ps.length ≤ 1000000) (hf : ∀ p ∈ ps, IoFn Tryz.prog 156 ([aL p] ++ [.ptr 900 0]) (sB o) (.ret (aB (f p))) (sB o)) :
    IoFn Tryz.prog 155 [.sl 3 eL ps, .fn 156 [.ptr 900 0]] (sB o) (.ret (aB (ps.any f))) (sB o) := by
  refine IoFn.of_body Tryz.func155 rfl Tryz.ntmps155 rfl rfl rfl ?_
  have h := indexL_ok o f ps hl hf
  have he := idxI_any f ps 0 (by omega)
  repeat' (first |refine Fl.v rfl rfl rfl ?_ |refine Fl.nilF ?_ |refine AWP.seq ?_ |refine AWP.region ?_ |fail)
  refine Fl.io rfl [] h rfl rfl (LeL.refl _) rfl ⟨⟨⟨_, rfl, BLe.cells (LeL.refl _)⟩, rfl⟩, trivial⟩ rfl rfl rfl rfl rfl ?_
  repeat' (first |refine Fl.v rfl rfl rfl ?_ |refine Fl.nilF ?_ |refine AWP.ret ?_ |fail)
  exact ⟨⟨[], _, _, Ent.refl _ _ _, rfl, AV.Le.bool he, rfl, ⟨⟨⟨_, rfl, BLe.cells (LeL.refl _)⟩, rfl⟩, trivial⟩, rfl, rfl⟩⟩
end Go.Proofs.YtcaecieigoplbaaGreat
namespace Go.AL
/-- the last element, or another number -/
def lastI (d : Int) : List Int → Int
  | [] => d
  | x :: l => lastI x l
theorem incB_drop {last top : Int} : ∀ {l : List Int} {i : Nat} {v : Int}, l[i]? = some v → (incB (lastI last (l.take i)) top (l.drop i) ↔ lastI last (l.take i) < v ∧ v < top ∧ incB (lastI last (l.take (i + 1))) top (l.drop (i + 1)))
  | [], _, _, h => by simp at h
  | x :: l, 0, v, h => by simp at h; subst h; simp [lastI, incB]
  | x :: l, i + 1, v, h => by
    simp only [List.take_succ_cons, List.drop_succ_cons, lastI]
    exact incB_drop (last := x) (by simpa using h)
theorem lastI_snoc {d : Int} : ∀ {l : List Int} {i : Nat} {v : Int}, l[i]? = some v → lastI d (l.take (i + 1)) = v
  | [], _, _, h => by simp at h
  | x :: l, 0, v, h => by simp at h; subst h; simp [lastI]
  | x :: l, i + 1, v, h => by
    simp only [List.take_succ_cons, lastI]
    exact lastI_snoc (d := x) (by simpa using h)
end Go.AL
namespace Go.Proofs.YtcaecieigoplbaaGreat
open Go.AL

set_option maxHeartbeats 1000000 in
theorem link_ok (l : LZ) (vars : Int) (hw : WL l) (f : PZ → Bool) (hf : ∀ p ∈ l.polys, f p = true ↔ p.vars = l.vars.length ∧ OkP p) (b : Bool) (hb : b = true ↔ OkL vars l) : PureFn Tryz.prog 157 [aL l, aN vars] (aB b) := by
  refine PureFn.of_body Tryz.func157 rfl Tryz.ntmps157 rfl rfl ?_
  have hfalse : ¬ OkL vars l → false = b := fun h => by cases b with | false => rfl | true => exact absurd (hb.1 rfl) h
  have hn3 : needI l.kind ≤ 3 ∧ 0 ≤ needI l.kind := by unfold needI; repeat' split <;> omega
  repeat' (first |refine Fl.v rfl rfl rfl ?_ |refine Fl.nilF ?_ |refine AWP.seq ?_ |refine AWP.region ?_ |refine Fl.b rfl rfl rfl rfl ?_ |fail)
  refine Fl.call rfl (needs_ok l.kind) rfl rfl rfl (LeL.refl _) ?_
  repeat' (first |refine Fl.v rfl rfl rfl ?_ |refine Fl.nilF ?_ |refine Fl.nil (fun _ => by kernel_rfl) ?_ |refine AWP.seq ?_ |refine AWP.region ?_ |refine Fl.skip rfl rfl ?_ |refine AWP.condT rfl ?_ |refine AWP.ret ?_ |(refine Fl.splitD rfl rfl ?_ ?_ <;> intro _ <;> try (exfalso; omega)) |fail)
  · rename_i h; exact RetOk.of rfl (AV.Le.bool (hfalse fun k => k.kind h))
  refine Fl.call rfl (needs_ok l.kind) rfl rfl rfl (LeL.refl _) ?_
  repeat' (first |refine Fl.v rfl rfl rfl ?_ |refine Fl.nilF ?_ |refine Fl.nil (fun _ => by kernel_rfl) ?_ |refine AWP.seq ?_ |refine AWP.region ?_ |refine Fl.skip rfl rfl ?_ |refine AWP.condT rfl ?_ |(refine AWP.condD rfl ?_ ?_ <;> intro _ <;> try (exfalso; omega)) |refine AWP.block ?_ |refine AWP.skip ?_ |refine AWP.ret ?_ |(refine Fl.splitN rfl rfl ?_ ?_ <;> intro _ <;> try (exfalso; omega)) |fail)
  · rename_i h; exact RetOk.of rfl (AV.Le.bool (hfalse fun k => h k.len))
  · rename_i h; exact RetOk.of rfl (AV.Le.bool (hfalse fun k => by have := k.vlen; omega))
  rename_i hk hlen hvl
  refine AWP.loop (G := Nat) (fun i => i ≤ l.vars.length ∧ (incB (lastI (-1) (l.vars.take i)) vars (l.vars.drop i) ↔ incB (-1) vars l.vars)) (fun i => St.of [] [(1, aN vars), (2, .ptr 2 0), (5, aN (lastI (-1) (l.vars.take i))), (28, aI l.vars), (29, aN l.vars.length), (30, aN i)] [(2, .cells (eL l) 82)]) (fun i => l.vars.length - i) 0 ⟨by omega, by simp [lastI]⟩ ?_ ?_
  · refine Ent.of [] ?_ ?_ rfl rfl
    repeat' (first | exact True.intro |refine ⟨⟨AV.Le.refl _, rfl⟩, ?_⟩ |refine ⟨⟨AV.Le.any _, rfl⟩, ?_⟩ |refine ⟨⟨⟨_, rfl, BLe.cells (LeL.refl _)⟩, rfl⟩, ?_⟩ |refine ⟨⟨⟨_, rfl, BLe.row rfl⟩, rfl⟩, ?_⟩ |refine ⟨⟨⟨_, rfl, BLe.row ?_⟩, rfl⟩, ?_⟩ |refine ⟨⟨⟨_, rfl, BLe.cells ?_⟩, rfl⟩, ?_⟩ |refine ⟨⟨AV.Le.int ?_, rfl⟩, ?_⟩ |refine ⟨⟨AV.Le.bool ?_, rfl⟩, ?_⟩ |refine ⟨⟨AV.Le.sl ?_, rfl⟩, ?_⟩ |refine ⟨⟨AV.Le.of_eq ?_, rfl⟩, ?_⟩ | fail)
  · intro i ⟨k0, k1⟩
    repeat' (first |refine Fl.v rfl rfl rfl ?_ |refine Fl.nilF ?_ |refine AWP.seq ?_ |refine AWP.region ?_ |refine Fl.w rfl rfl rfl (by first | exact True.intro | omega) ?_ |refine Fl.skip rfl rfl ?_ |refine AWP.condT rfl ?_ |(refine AWP.condD rfl ?_ ?_ <;> intro _ <;> try (exfalso; omega)) |refine AWP.block ?_ |refine AWP.skip ?_ |refine AWP.exit ?_ |refine AWP.ret ?_ |(refine Fl.el rfl rfl rfl rfl rfl rfl rfl rfl (by omega) (by omega) ?_; intro _ _) |(refine Fl.splitD rfl rfl ?_ ?_ <;> intro _ <;> try (exfalso; omega)) |fail)
    · rename_i hi v hv h1
      rw [Int.toNat_natCast] at hv
      rw [incB_drop hv] at k1
      refine RetOk.of rfl (AV.Le.bool (hfalse fun k => ?_))
      have := k1.2 k.inc
      omega
    · rename_i hi v hv h1 h2
      rw [Int.toNat_natCast] at hv
      rw [incB_drop hv] at k1
      refine RetOk.of rfl (AV.Le.bool (hfalse fun k => ?_))
      have := k1.2 k.inc
      omega
    · rename_i hi v hv h1 h2
      rw [Int.toNat_natCast] at hv
      rw [incB_drop hv] at k1
      refine LoopEnd.of (i + 1) ⟨by omega, ?_⟩ (by omega) ?_
      · rw [← k1]
        exact ⟨fun h => ⟨by omega, by omega, h⟩, fun h => h.2.2⟩
      · refine Ent.of [] ?_ ?_ rfl rfl
        repeat' (first | exact True.intro |refine ⟨⟨AV.Le.refl _, rfl⟩, ?_⟩ |refine ⟨⟨AV.Le.any _, rfl⟩, ?_⟩ |refine ⟨⟨⟨_, rfl, BLe.cells (LeL.refl _)⟩, rfl⟩, ?_⟩ |refine ⟨⟨⟨_, rfl, BLe.row rfl⟩, rfl⟩, ?_⟩ |refine ⟨⟨⟨_, rfl, BLe.row ?_⟩, rfl⟩, ?_⟩ |refine ⟨⟨⟨_, rfl, BLe.cells ?_⟩, rfl⟩, ?_⟩ |refine ⟨⟨AV.Le.int ?_, rfl⟩, ?_⟩ |refine ⟨⟨AV.Le.bool ?_, rfl⟩, ?_⟩ |refine ⟨⟨AV.Le.sl ?_, rfl⟩, ?_⟩ |refine ⟨⟨AV.Le.of_eq ?_, rfl⟩, ?_⟩ | fail)
        exact (lastI_snoc hv).symm
    · rename_i hi
      have hd : l.vars.drop i = [] := List.drop_of_length_le (by omega)
      rw [hd] at k1
      have hinc : incB (-1) vars l.vars := k1.1 trivial
      have hc := containsP_ok l (fun p => !f p) l.polys (by omega) (fun p hp => link1_ok l p (hw p hp) (f p) (hf p hp))
      refine Fl.io rfl [(900, 2)] hc rfl rfl (LeL.refl _) rfl ⟨⟨⟨_, rfl, BLe.cells (LeL.refl _)⟩, rfl⟩, trivial⟩ rfl rfl rfl rfl rfl ?_
      repeat' (first |refine Fl.v rfl rfl rfl ?_ |refine Fl.nilF ?_ |refine AWP.ret ?_ |fail)
      refine RetOk.of rfl (AV.Le.bool ?_)
      have : (!l.polys.any fun p => !f p) = true ↔ OkL vars l := by
        rw [Bool.not_eq_true', List.any_eq_false]
        refine ⟨fun h => ⟨hk, hlen, by omega, hinc, fun p hp => (hf p hp).1 ?_⟩, fun k p hp => ?_⟩
        · have := h p hp
          simpa using this
        · have := (hf p hp).2 (k.polys p hp)
          simp [this]
      cases b with
      | true => exact this.2 (hb.1 rfl)
      | false => exact Bool.eq_false_iff.2 fun h => by have := hb.2 (this.1 h); cases this
end Go.Proofs.YtcaecieigoplbaaGreat
namespace Go.AL
theorem boolOf {α : Type} (p : α → Prop) : ∃ f : α → Bool, ∀ a, f a = true ↔ p a := ⟨fun a => @decide (p a) (Classical.propDecidable _), fun a => @decide_eq_true_iff _ (Classical.propDecidable _)⟩
/-- the variables' numbers -/
def atOf (X : List Int) (vs : List Int) : List Int := vs.map fun v => X.getD v.toNat 0
theorem atOf_fit {X : List Int} (h : ∀ x ∈ X, Fit x) (vs : List Int) : ∀ x ∈ atOf X vs, Fit x := fun x hx => by
  obtain ⟨v, _, rfl⟩ := List.mem_map.1 hx
  show Fit (X.getD v.toNat 0)
  rw [List.getD_eq_getElem?_getD]
  cases hq : X[v.toNat]? with
  | none => exact Fit.zero
  | some y => exact h y (List.mem_of_getElem? hq)
theorem incB_mem {last top : Int} : ∀ {l : List Int} {v : Int}, incB last top l → v ∈ l → last < v ∧ v < top
  | [], _, _, h => by simp at h
  | x :: l, v, ⟨h1, h2, h3⟩, h => by
    rcases List.mem_cons.1 h with rfl | h
    · exact ⟨h1, h2⟩
    · have := incB_mem h3 h
      omega
theorem atOf_snoc {X vs : List Int} {i : Nat} {v x : Int} (h : vs[i]? = some v) (hx : X[v.toNat]? = some x) : atOf X (vs.take (i + 1)) = atOf X (vs.take i) ++ [x] := by
  rw [take_snoc h]
  simp [atOf, hx]
end Go.AL
namespace Go.Proofs.YtcaecieigoplbaaGreat
open Go.AL

theorem Valid1_ok (s : SZ) (l : LZ) (hw : WL l) (b : Bool) (hb : b = true ↔ OkL s.vars l) : IoFn Tryz.prog 156 [aL l, .ptr 900 0] (sB s) (.ret (aB !b)) (sB s) := by
  refine IoFn.of_body Tryz.func156 rfl Tryz.ntmps156 rfl rfl rfl ?_
  obtain ⟨f, hf⟩ := boolOf (fun p : PZ => p.vars = l.vars.length ∧ OkP p)
  repeat' (first |refine Fl.v rfl rfl rfl ?_ |refine Fl.nilF ?_ |refine AWP.seq ?_ |refine AWP.region ?_ |refine Fl.b rfl rfl rfl rfl ?_ |fail)
  refine Fl.call rfl (link_ok l s.vars hw f (fun p _ => hf p) b hb) rfl rfl rfl (LeL.refl _) ?_
  repeat' (first |refine Fl.v rfl rfl rfl ?_ |refine Fl.nilF ?_ |refine AWP.ret ?_ |fail)
  exact ⟨⟨[], _, _, Ent.refl _ _ _, rfl, AV.Le.refl _, rfl, ⟨⟨⟨_, rfl, BLe.cells (LeL.refl _)⟩, rfl⟩, trivial⟩, rfl, rfl⟩⟩
theorem sValid_ok (s : SZ) (hw : WS s) (b : Bool) (hb : b = true ↔ OkS s) : PureFn Tryz.prog 86 [aS s] (aB b) := by
  refine PureFn.of_body Tryz.func86 rfl Tryz.ntmps86 rfl rfl ?_
  have hfalse : ¬ OkS s → false = b := fun h => by cases b with | false => rfl | true => exact absurd (hb.1 rfl) h
  obtain ⟨f, hf⟩ := boolOf (fun l : LZ => OkL s.vars l)
  repeat' (first |refine Fl.v rfl rfl rfl ?_ |refine Fl.nilF ?_ |refine AWP.seq ?_ |refine AWP.region ?_ |refine Fl.b rfl rfl rfl rfl ?_ |refine Fl.skip rfl rfl ?_ |refine AWP.ret ?_ |(refine Fl.splitD rfl rfl ?_ ?_ <;> intro _ <;> try (exfalso; omega)) |fail)
  · rename_i h0 h1 h2
    refine Fl.io rfl [(900, 1)] (containsL_ok s (fun l => !f l) s.links (by omega) (fun l hl => Valid1_ok s l (hw l hl) (f l) (hf l))) rfl rfl (LeL.refl _) rfl ⟨⟨⟨_, rfl, BLe.cells (LeL.refl _)⟩, rfl⟩, trivial⟩ rfl rfl rfl rfl rfl ?_
    repeat' (first |refine Fl.v rfl rfl rfl ?_ |refine Fl.nilF ?_ |refine AWP.ret ?_ |fail)
    refine RetOk.of rfl (AV.Le.bool ?_)
    have : (!s.links.any fun l => !f l) = true ↔ OkS s := by
      rw [Bool.not_eq_true', List.any_eq_false]
      refine ⟨fun h => ⟨h0, h1, by omega, fun l hl => (hf l).1 ?_⟩, fun k l hl => ?_⟩
      · have := h l hl
        simpa using this
      · have := (hf l).2 (k.links l hl)
        simp [this]
    cases b with
    | true => exact this.2 (hb.1 rfl)
    | false => exact Bool.eq_false_iff.2 fun h => by have := hb.2 (this.1 h); cases this
  · rename_i h0 h1 h2; exact RetOk.of rfl (AV.Le.bool (hfalse fun k => by have := k.len; omega))
  · rename_i h0 h1; exact RetOk.of rfl (AV.Le.bool (hfalse fun k => by have := k.v1; omega))
  · rename_i h0; exact RetOk.of rfl (AV.Le.bool (hfalse fun k => by have := k.v0; omega))

theorem Values_ok (l : LZ) (X : List Int) (hw : WL l) (hL : OkL X.length l) (hX : ∀ x ∈ X, Fit x) (r : AV) (hr1 : (∀ p ∈ l.polys, EvOk (atOf X l.vars) p) → r = .tup [.sl 2 eX (l.polys.map (pv (atOf X l.vars))), aN 0]) (hr2 : ¬ (∀ p ∈ l.polys, EvOk (atOf X l.vars) p) → r = .tup [.v (.slice none 0 0), aN 4]) :
    PureFn Tryz.prog 89 [aL l, .sl 2 eX X] r := by
  refine PureFn.of_body Tryz.func89 rfl Tryz.ntmps89 rfl rfl ?_
  have hvl := hL.vlen
  have hn3 : needI l.kind ≤ 3 := by unfold needI; repeat' split <;> omega
  have hpl := hL.len
  have hfa := atOf_fit hX l.vars
  have hla : (atOf X l.vars).length = l.vars.length := by simp [atOf]
  repeat' (first |refine Fl.v rfl rfl rfl ?_ |refine Fl.nilF ?_ |refine AWP.seq ?_ |refine AWP.region ?_ |refine Fl.b rfl rfl rfl rfl ?_ |refine AWP.block ?_ |fail)
  refine AWP.ent (Ent.nilrow 6 806 rfl rfl 2 eX 35) ?_
  refine AWP.loop (G := Nat) (fun i => i ≤ l.vars.length) (fun i => St.of [] [(1, .sl 2 eX X), (2, .ptr 2 0), (6, .row 6), (7, .v (.slice none 0 0)), (15, aI l.vars), (16, aN l.vars.length), (17, aN i)] [(2, .cells (eL l) 82), (6, .row 2 eX (atOf X (l.vars.take i)) 35)]) (fun i => l.vars.length - i) 0 (by omega) ?_ ?_
  · refine Ent.of [(6, 806)] ?_ ?_ rfl rfl
    repeat' (first | exact True.intro |refine ⟨⟨AV.Le.refl _, rfl⟩, ?_⟩ |refine ⟨⟨AV.Le.any _, rfl⟩, ?_⟩ |refine ⟨⟨⟨_, rfl, BLe.cells (LeL.refl _)⟩, rfl⟩, ?_⟩ |refine ⟨⟨⟨_, rfl, BLe.row rfl⟩, rfl⟩, ?_⟩ |refine ⟨⟨⟨_, rfl, BLe.row ?_⟩, rfl⟩, ?_⟩ |refine ⟨⟨⟨_, rfl, BLe.cells ?_⟩, rfl⟩, ?_⟩ |refine ⟨⟨AV.Le.int ?_, rfl⟩, ?_⟩ |refine ⟨⟨AV.Le.bool ?_, rfl⟩, ?_⟩ |refine ⟨⟨AV.Le.sl ?_, rfl⟩, ?_⟩ |refine ⟨⟨AV.Le.of_eq ?_, rfl⟩, ?_⟩ | fail)
  · intro i k0
    have hli : (atOf X (l.vars.take i)).length = i := by simp [atOf]; omega
    repeat' (first |refine Fl.v rfl rfl rfl ?_ |refine Fl.nilF ?_ |refine AWP.seq ?_ |refine AWP.region ?_ |(refine AWP.condD rfl ?_ ?_ <;> intro _ <;> try (exfalso; omega)) |refine AWP.block ?_ |refine AWP.skip ?_ |refine AWP.exit ?_ |(refine Fl.el rfl rfl rfl rfl rfl rfl rfl rfl (by omega) (by omega) ?_; intro _ _) |fail)
    · rename_i hi v hv
      rw [Int.toNat_natCast] at hv
      have hvb := incB_mem hL.inc (List.mem_of_getElem? hv)
      repeat' (first |refine Fl.v rfl rfl rfl ?_ |(refine Fl.el rfl rfl rfl rfl rfl rfl rfl rfl (by omega) (by omega) ?_; intro _ _) |fail)
      rename_i x hx
      refine Fl.lit rfl rfl rfl rfl rfl eX [x] rfl rfl rfl rfl (by intro _ _; rfl) rfl ?_
      skip
      refine Fl.ap rfl rfl rfl rfl rfl rfl rfl rfl rfl rfl rfl rfl rfl (fun _ => rfl) (fun _ => rfl) (AV.Le.refl _) (by dsimp only [List.length_nil, List.length_cons]; omega) (by simp; omega) ?_
      repeat' (first |refine Fl.v rfl rfl rfl ?_ |refine Fl.nilF ?_ |refine AWP.region ?_ |refine Fl.w rfl rfl rfl (by first | exact True.intro | omega) ?_ |fail)
      refine LoopEnd.of (i + 1) (by omega) (by omega) ?_
      refine Ent.of [(6, 27)] ?_ ?_ rfl rfl
      repeat' (first | exact True.intro |refine ⟨⟨AV.Le.refl _, rfl⟩, ?_⟩ |refine ⟨⟨AV.Le.any _, rfl⟩, ?_⟩ |refine ⟨⟨⟨_, rfl, BLe.cells (LeL.refl _)⟩, rfl⟩, ?_⟩ |refine ⟨⟨⟨_, rfl, BLe.row rfl⟩, rfl⟩, ?_⟩ |refine ⟨⟨⟨_, rfl, BLe.row ?_⟩, rfl⟩, ?_⟩ |refine ⟨⟨⟨_, rfl, BLe.cells ?_⟩, rfl⟩, ?_⟩ |refine ⟨⟨AV.Le.int ?_, rfl⟩, ?_⟩ |refine ⟨⟨AV.Le.bool ?_, rfl⟩, ?_⟩ |refine ⟨⟨AV.Le.sl ?_, rfl⟩, ?_⟩ |refine ⟨⟨AV.Le.of_eq ?_, rfl⟩, ?_⟩ | fail)
      exact (atOf_snoc hv hx).symm
    · rename_i hi
      have hti : l.vars.take i = l.vars := List.take_of_length_le (by omega)
      refine AWP.ent (Ent.freeze 6 rfl) ?_
      refine AWP.ent (Ent.nilrow 7 807 rfl rfl 2 eX 35) ?_
      refine AWP.loop (G := Nat) (fun j => j ≤ l.polys.length ∧ ∀ p ∈ l.polys.take j, EvOk (atOf X l.vars) p) (fun j => St.of [] [(2, .ptr 2 0), (6, .sl 2 eX (atOf X l.vars)), (7, .row 7), (30, .sl 2 eP l.polys), (31, aN l.polys.length), (32, aN j)] [(2, .cells (eL l) 82), (7, .row 2 eX ((l.polys.take j).map (pv (atOf X l.vars))) 35)]) (fun j => l.polys.length - j) 0 ⟨by omega, by simp⟩ ?_ ?_
      · refine Ent.of [(7, 807)] ?_ ?_ rfl rfl
        repeat' (first | exact True.intro |refine ⟨⟨AV.Le.refl _, rfl⟩, ?_⟩ |refine ⟨⟨AV.Le.any _, rfl⟩, ?_⟩ |refine ⟨⟨⟨_, rfl, BLe.cells (LeL.refl _)⟩, rfl⟩, ?_⟩ |refine ⟨⟨⟨_, rfl, BLe.row rfl⟩, rfl⟩, ?_⟩ |refine ⟨⟨⟨_, rfl, BLe.row ?_⟩, rfl⟩, ?_⟩ |refine ⟨⟨⟨_, rfl, BLe.cells ?_⟩, rfl⟩, ?_⟩ |refine ⟨⟨AV.Le.int ?_, rfl⟩, ?_⟩ |refine ⟨⟨AV.Le.bool ?_, rfl⟩, ?_⟩ |refine ⟨⟨AV.Le.sl ?_, rfl⟩, ?_⟩ |refine ⟨⟨AV.Le.of_eq ?_, rfl⟩, ?_⟩ | fail)
        rw [hti]
      · clear hi hti hli k0 i; intro j ⟨k0, k1⟩
        have hlj : ((l.polys.take j).map (pv (atOf X l.vars))).length = j := by simp; omega
        repeat' (first |refine Fl.v rfl rfl rfl ?_ |refine Fl.nilF ?_ |refine AWP.seq ?_ |refine AWP.region ?_ |refine Fl.b rfl rfl rfl rfl ?_ |(refine AWP.condD rfl ?_ ?_ <;> intro _ <;> try (exfalso; omega)) |refine AWP.block ?_ |refine AWP.skip ?_ |refine AWP.exit ?_ |refine AWP.ret ?_ |(refine Fl.el rfl rfl rfl rfl rfl rfl rfl rfl (by omega) (by omega) ?_; intro _ _) |fail)
        · rename_i hj p hp
          rw [Int.toNat_natCast] at hp
          have hpm := List.mem_of_getElem? hp
          have hpo := hL.polys p hpm
          have hev := fun r h1 h2 => Eval_ok p (atOf X l.vars) (hw p hpm) hpo.2 (by rw [hla]; exact hpo.1.symm) hfa r h1 h2
          by_cases he : EvOk (atOf X l.vars) p
          · have hev1 := hev _ (fun _ => rfl) (fun h => absurd he h)
            refine Fl.call rfl (hev1) rfl rfl rfl (LeL.refl _) ?_
            repeat' (first |refine Fl.v rfl rfl rfl ?_ |refine Fl.nilF ?_ |refine AWP.seq ?_ |refine AWP.region ?_ |refine Fl.b rfl rfl rfl rfl ?_ |refine AWP.condF rfl ?_ |refine AWP.skip ?_ |fail)
            refine Fl.lit rfl rfl rfl rfl rfl eX [pv (atOf X l.vars) p] rfl rfl rfl rfl (by intro _ _; rfl) rfl ?_
            skip
            refine Fl.ap rfl rfl rfl rfl rfl rfl rfl rfl rfl rfl rfl rfl rfl (fun _ => rfl) (fun _ => rfl) (AV.Le.refl _) (by dsimp only [List.length_nil, List.length_cons]; omega) (by simp; omega) ?_
            repeat' (first |refine Fl.v rfl rfl rfl ?_ |refine Fl.nilF ?_ |refine AWP.region ?_ |refine Fl.w rfl rfl rfl (by first | exact True.intro | omega) ?_ |fail)
            refine LoopEnd.of (j + 1) ⟨by omega, all_take_succ hp k1 he⟩ (by omega) ?_
            refine Ent.of [(7, 48)] ?_ ?_ rfl rfl
            repeat' (first | exact True.intro |refine ⟨⟨AV.Le.refl _, rfl⟩, ?_⟩ |refine ⟨⟨AV.Le.any _, rfl⟩, ?_⟩ |refine ⟨⟨⟨_, rfl, BLe.cells (LeL.refl _)⟩, rfl⟩, ?_⟩ |refine ⟨⟨⟨_, rfl, BLe.row rfl⟩, rfl⟩, ?_⟩ |refine ⟨⟨⟨_, rfl, BLe.row ?_⟩, rfl⟩, ?_⟩ |refine ⟨⟨⟨_, rfl, BLe.cells ?_⟩, rfl⟩, ?_⟩ |refine ⟨⟨AV.Le.int ?_, rfl⟩, ?_⟩ |refine ⟨⟨AV.Le.bool ?_, rfl⟩, ?_⟩ |refine ⟨⟨AV.Le.sl ?_, rfl⟩, ?_⟩ |refine ⟨⟨AV.Le.of_eq ?_, rfl⟩, ?_⟩ | fail)
            rw [take_snoc hp, List.map_append]; rfl
          · have hev1 := hev _ (fun h => absurd h he) (fun _ => rfl)
            rw [hr2 fun h => he (h p hpm)]
            refine Fl.call rfl (hev1) rfl rfl rfl (LeL.refl _) ?_
            repeat' (first |refine Fl.v rfl rfl rfl ?_ |refine Fl.nilF ?_ |refine AWP.seq ?_ |refine AWP.region ?_ |refine Fl.b rfl rfl rfl rfl ?_ |refine AWP.condT rfl ?_ |refine AWP.ret ?_ |fail)
            exact RetOk.of rfl (AV.Le.refl _)
        · rename_i hj
          have htj : l.polys.take j = l.polys := List.take_of_length_le (by omega)
          rw [htj] at k1
          rw [hr1 k1]
          refine RetOk.ent (Ent.freeze 7 rfl) ?_
          refine RetOk.of rfl ?_
          rw [htj]
          exact AV.Le.refl _
end Go.Proofs.YtcaecieigoplbaaGreat
namespace Go.AL
theorem I64.iff {x : Int} : I64 x ↔ -9223372036854775808 ≤ x ∧ x ≤ 9223372036854775807 := Iff.rfl
/-- the link holds for its polynomials' values -/
def holdP (k : Int) (vs : List Int) : Prop :=
  if k = 1 then 2 ≤ vs.getD 0 0 ∧ 1 ≤ vs.getD 1 0 ∧ psiN (vs.getD 0 0) (vs.getD 1 0).toNat = vs.getD 2 0
  else if k = 2 then 1 ≤ vs.getD 0 0 ∧ 0 ≤ vs.getD 1 0 ∧ (vs.getD 0 0) ^ (vs.getD 1 0).toNat = vs.getD 2 0
  else if k = 3 then 0 ≤ vs.getD 0 0 ∧ 0 ≤ vs.getD 1 0 ∧ undI (vs.getD 0 0) (vs.getD 1 0)
  else vs.getD 0 0 = 0
end Go.AL
namespace Go.Proofs.YtcaecieigoplbaaGreat
open Go.AL

theorem isPsi_ok (x y z : Int) (hx : Fit x) (hy : Fit y) (hz : Fit z) (b : Bool) (hb : b = true ↔ 2 ≤ x ∧ 1 ≤ y ∧ psiN x y.toNat = z) : PureFn Tryz.prog 159 [.sl 2 eX [x, y, z]] (aB b) := by
  refine PureFn.of_body Tryz.func159 rfl Tryz.ntmps159 rfl rfl ?_
  have hfalse : ¬ (2 ≤ x ∧ 1 ≤ y ∧ psiN x y.toNat = z) → false = b := fun h => by cases b with | false => rfl | true => exact absurd (hb.1 rfl) h
  have g0 : [x, y, z][(0 : Int).toNat]? = some x := rfl
  have g1 : [x, y, z][(1 : Int).toNat]? = some y := rfl
  have g2 : [x, y, z][(2 : Int).toNat]? = some z := rfl
  have hl : [x, y, z].length = 3 := rfl
  repeat' (first |refine Fl.v rfl rfl rfl ?_ |refine Fl.nilF ?_ |refine AWP.seq ?_ |refine AWP.region ?_ |refine Fl.elK rfl rfl rfl rfl rfl rfl rfl rfl (by assumption) (by omega) ?_ |fail)
  refine Fl.call rfl (Of_ok 2 (by omega) (by omega)) rfl rfl rfl (LeL.refl _) ?_
  skip
  refine Fl.call rfl (Less_ok x 2 hx fit_two) rfl rfl rfl (LeL.refl _) ?_
  repeat' (first |refine Fl.v rfl rfl rfl ?_ |refine Fl.nilF ?_ |refine Fl.nil (fun _ => by kernel_rfl) ?_ |refine AWP.seq ?_ |refine AWP.region ?_ |refine Fl.skip rfl rfl ?_ |refine AWP.condT rfl ?_ |refine AWP.ret ?_ |refine Fl.elK rfl rfl rfl rfl rfl rfl rfl rfl (by assumption) (by omega) ?_ |(refine Fl.splitD rfl rfl ?_ ?_ <;> intro _ <;> try (exfalso; omega)) |fail)
  · rename_i h
    exact RetOk.of rfl (AV.Le.bool (hfalse fun k => by omega))
  · rename_i h
    refine Fl.call rfl (Of_ok 1 (by omega) (by omega)) rfl rfl rfl (LeL.refl _) ?_
    skip
    refine Fl.call rfl (Less_ok y 1 hy fit_one) rfl rfl rfl (LeL.refl _) ?_
    repeat' (first |refine Fl.v rfl rfl rfl ?_ |refine Fl.nilF ?_ |refine Fl.nil (fun _ => by kernel_rfl) ?_ |refine AWP.seq ?_ |refine AWP.region ?_ |(refine AWP.condD rfl ?_ ?_ <;> intro _ <;> try (exfalso; omega)) |refine AWP.skip ?_ |refine AWP.ret ?_ |refine Fl.elK rfl rfl rfl rfl rfl rfl rfl rfl (by assumption) (by omega) ?_ |fail)
    · exact RetOk.of rfl (AV.Le.bool (hfalse fun k => by omega))
    · rename_i h1
      have hsm := Small_ok y hy
      by_cases hI : I64 y
      · have hI2 := I64.iff.1 hI
        rw [if_pos hI, decide_eq_true hI] at hsm
        refine Fl.call rfl (hsm) rfl rfl rfl (LeL.refl _) ?_
        repeat' (first |refine Fl.v rfl rfl rfl ?_ |refine Fl.nilF ?_ |refine AWP.seq ?_ |refine AWP.region ?_ |refine AWP.condF rfl ?_ |refine AWP.skip ?_ |refine Fl.elK rfl rfl rfl rfl rfl rfl rfl rfl (by assumption) (by omega) ?_ |fail)
        have hps := Psi_ok x y hx (by omega) (by omega) (by omega)
        by_cases hf : Fit (psiN x y.toNat)
        · rw [aR_fit hf] at hps
          refine Fl.call rfl (hps) rfl rfl rfl (LeL.refl _) ?_
          repeat' (first |refine Fl.v rfl rfl rfl ?_ |refine Fl.nilF ?_ |refine AWP.seq ?_ |refine AWP.region ?_ |refine Fl.b rfl rfl rfl rfl ?_ |refine Fl.elK rfl rfl rfl rfl rfl rfl rfl rfl (by assumption) (by omega) ?_ |(refine Fl.splitD rfl rfl ?_ ?_ <;> intro _ <;> try (exfalso; omega)) |fail)
          refine Fl.call rfl (Same_ok _ z hf hz) rfl rfl rfl (LeL.refl _) ?_
          repeat' (first |refine Fl.v rfl rfl rfl ?_ |refine Fl.nil (fun _ => by kernel_rfl) ?_ |refine AWP.ret ?_ |fail)
          refine RetOk.of rfl (AV.Le.bool ?_)
          cases b with
          | false => exact decide_eq_false fun k => by have := hb.2 ⟨by omega, by omega, k⟩; cases this
          | true => exact decide_eq_true (hb.1 rfl).2.2
        · rw [aR_not hf] at hps
          refine Fl.call rfl (hps) rfl rfl rfl (LeL.refl _) ?_
          repeat' (first |refine Fl.v rfl rfl rfl ?_ |refine Fl.nilF ?_ |refine Fl.nil (fun _ => by kernel_rfl) ?_ |refine AWP.seq ?_ |refine AWP.region ?_ |refine Fl.b rfl rfl rfl rfl ?_ |refine Fl.skip rfl rfl ?_ |refine AWP.ret ?_ |fail)
          exact RetOk.of rfl (AV.Le.bool (hfalse fun k => hf (by rw [k.2.2]; exact hz)))
      · rw [if_neg hI, decide_eq_false hI] at hsm
        refine Fl.call rfl (hsm) rfl rfl rfl (LeL.refl _) ?_
        repeat' (first |refine Fl.v rfl rfl rfl ?_ |refine Fl.nilF ?_ |refine AWP.seq ?_ |refine AWP.region ?_ |refine AWP.condT rfl ?_ |refine AWP.ret ?_ |fail)
        refine RetOk.of rfl (AV.Le.bool (hfalse fun k => ?_))
        refine psi_not_fit (a := x) (n := y.toNat) (by omega) ?_ (by rw [k.2.2]; exact hz)
        rw [I64.iff] at hI
        omega
theorem isPower_ok (x y z : Int) (hx : Fit x) (hy : Fit y) (hz : Fit z) (b : Bool) (hb : b = true ↔ 1 ≤ x ∧ 0 ≤ y ∧ x ^ y.toNat = z) : PureFn Tryz.prog 160 [.sl 2 eX [x, y, z]] (aB b) := by
  refine PureFn.of_body Tryz.func160 rfl Tryz.ntmps160 rfl rfl ?_
  have hfalse : ¬ (1 ≤ x ∧ 0 ≤ y ∧ x ^ y.toNat = z) → false = b := fun h => by cases b with | false => rfl | true => exact absurd (hb.1 rfl) h
  have g0 : [x, y, z][(0 : Int).toNat]? = some x := rfl
  have g1 : [x, y, z][(1 : Int).toNat]? = some y := rfl
  have g2 : [x, y, z][(2 : Int).toNat]? = some z := rfl
  have hl : [x, y, z].length = 3 := rfl
  repeat' (first |refine Fl.v rfl rfl rfl ?_ |refine Fl.nilF ?_ |refine AWP.seq ?_ |refine AWP.region ?_ |fail)
  refine Fl.call rfl (Of_ok 1 (by omega) (by omega)) rfl rfl rfl (LeL.refl _) ?_
  repeat' (first |refine Fl.v rfl rfl rfl ?_ |refine Fl.nilF ?_ |refine AWP.seq ?_ |refine AWP.region ?_ |refine Fl.b rfl rfl rfl rfl ?_ |refine Fl.elK rfl rfl rfl rfl rfl rfl rfl rfl (by assumption) (by omega) ?_ |fail)
  refine Fl.call rfl (Less_ok x 1 hx fit_one) rfl rfl rfl (LeL.refl _) ?_
  repeat' (first |refine Fl.v rfl rfl rfl ?_ |refine Fl.nilF ?_ |refine Fl.nil (fun _ => by kernel_rfl) ?_ |refine AWP.seq ?_ |refine AWP.region ?_ |refine Fl.skip rfl rfl ?_ |refine AWP.condT rfl ?_ |(refine AWP.condD rfl ?_ ?_ <;> intro _ <;> try (exfalso; omega)) |refine AWP.skip ?_ |refine AWP.ret ?_ |refine Fl.elK rfl rfl rfl rfl rfl rfl rfl rfl (by assumption) (by omega) ?_ |(refine Fl.splitD rfl rfl ?_ ?_ <;> intro _ <;> try (exfalso; omega)) |fail)
  · rename_i h
    exact RetOk.of rfl (AV.Le.bool (hfalse fun k => by omega))
  · rename_i h h1
    exact RetOk.of rfl (AV.Le.bool (hfalse fun k => by omega))
  · rename_i h h1
    refine Fl.call rfl (Same_ok x 1 hx fit_one) rfl rfl rfl (LeL.refl _) ?_
    repeat' (first |refine Fl.v rfl rfl rfl ?_ |refine Fl.nil (fun _ => by kernel_rfl) ?_ |refine AWP.seq ?_ |refine AWP.region ?_ |(refine AWP.condD rfl ?_ ?_ <;> intro _ <;> try (exfalso; omega)) |refine AWP.skip ?_ |refine Fl.elK rfl rfl rfl rfl rfl rfl rfl rfl (by assumption) (by omega) ?_ |fail)
    · rename_i h2
      refine Fl.call rfl (Same_ok z 1 hz fit_one) rfl rfl rfl (LeL.refl _) ?_
      repeat' (first |refine Fl.v rfl rfl rfl ?_ |refine Fl.nil (fun _ => by kernel_rfl) ?_ |refine AWP.ret ?_ |fail)
      refine RetOk.of rfl (AV.Le.bool ?_)
      subst h2
      cases b with
      | false => exact decide_eq_false fun k => by have := hb.2 ⟨by omega, by omega, by rw [Int.one_pow, k]⟩; cases this
      | true => exact decide_eq_true (by have := (hb.1 rfl).2.2; rw [Int.one_pow] at this; exact this.symm)
    · rename_i h2
      have hsm := Small_ok y hy
      have hbig : 131072 < y → ¬ (1 ≤ x ∧ 0 ≤ y ∧ x ^ y.toNat = z) := fun h k => pow_not_fit (x := x) (n := y.toNat) (by omega) (by omega) (by rw [k.2.2]; exact hz)
      by_cases hI : I64 y
      · have hI2 := I64.iff.1 hI
        rw [if_pos hI, decide_eq_true hI] at hsm
        refine Fl.call rfl (hsm) rfl rfl rfl (LeL.refl _) ?_
        repeat' (first |refine Fl.v rfl rfl rfl ?_ |refine Fl.nilF ?_ |refine AWP.seq ?_ |refine AWP.region ?_ |(refine AWP.condD rfl ?_ ?_ <;> intro _ <;> try (exfalso; omega)) |refine AWP.skip ?_ |refine AWP.ret ?_ |refine Fl.elK rfl rfl rfl rfl rfl rfl rfl rfl (by assumption) (by omega) ?_ |fail)
        · rename_i h3
          exact RetOk.of rfl (AV.Le.bool (hfalse (hbig h3)))
        · have hps := Power_ok x y hx (by omega) (by omega)
          by_cases hf : Fit (x ^ y.toNat)
          · rw [aR_fit hf] at hps
            refine Fl.call rfl (hps) rfl rfl rfl (LeL.refl _) ?_
            repeat' (first |refine Fl.v rfl rfl rfl ?_ |refine Fl.nilF ?_ |refine AWP.seq ?_ |refine AWP.region ?_ |refine Fl.b rfl rfl rfl rfl ?_ |refine Fl.elK rfl rfl rfl rfl rfl rfl rfl rfl (by assumption) (by omega) ?_ |(refine Fl.splitD rfl rfl ?_ ?_ <;> intro _ <;> try (exfalso; omega)) |fail)
            refine Fl.call rfl (Same_ok _ z hf hz) rfl rfl rfl (LeL.refl _) ?_
            repeat' (first |refine Fl.v rfl rfl rfl ?_ |refine Fl.nil (fun _ => by kernel_rfl) ?_ |refine AWP.ret ?_ |fail)
            refine RetOk.of rfl (AV.Le.bool ?_)
            cases b with
            | false => exact decide_eq_false fun k => by have := hb.2 ⟨by omega, by omega, k⟩; cases this
            | true => exact decide_eq_true (hb.1 rfl).2.2
          · rw [aR_not hf] at hps
            refine Fl.call rfl (hps) rfl rfl rfl (LeL.refl _) ?_
            repeat' (first |refine Fl.v rfl rfl rfl ?_ |refine Fl.nilF ?_ |refine Fl.nil (fun _ => by kernel_rfl) ?_ |refine AWP.seq ?_ |refine AWP.region ?_ |refine Fl.b rfl rfl rfl rfl ?_ |refine Fl.skip rfl rfl ?_ |refine AWP.ret ?_ |fail)
            exact RetOk.of rfl (AV.Le.bool (hfalse fun k => hf (by rw [k.2.2]; exact hz)))
      · rw [if_neg hI, decide_eq_false hI] at hsm
        refine Fl.call rfl (hsm) rfl rfl rfl (LeL.refl _) ?_
        repeat' (first |refine Fl.v rfl rfl rfl ?_ |refine Fl.nilF ?_ |refine AWP.seq ?_ |refine AWP.region ?_ |refine Fl.skip rfl rfl ?_ |refine AWP.condT rfl ?_ |refine AWP.ret ?_ |fail)
        refine RetOk.of rfl (AV.Le.bool (hfalse (hbig ?_)))
        rw [I64.iff] at hI
        omega

theorem holds_ok (k : Int) (vs : List Int) (hk : needI k ≠ 0) (hl : (vs.length : Int) = needI k) (hX : ∀ x ∈ vs, Fit x) (b : Bool) (hb : b = true ↔ holdP k vs) : PureFn Tryz.prog 90 [aN k, .sl 2 eX vs] (aB b) := by
  refine PureFn.of_body Tryz.func90 rfl Tryz.ntmps90 rfl rfl ?_
  have hk4 : k = 0 ∨ k = 1 ∨ k = 2 ∨ k = 3 := by
    unfold needI at hk
    by_cases h0 : k = 0
    · omega
    by_cases h1 : k = 1
    · omega
    by_cases h2 : k = 2
    · omega
    by_cases h3 : k = 3
    · omega
    simp [h0, h1, h2, h3] at hk
  rcases hk4 with rfl | rfl | rfl | rfl
  · have hl : vs.length = 1 := by simp [needI] at hl; omega
    obtain ⟨x, rfl⟩ : ∃ x, vs = [x] := by
      match vs, hl with
      | [x], _ => exact ⟨x, rfl⟩
    have g0 : [x][(0 : Int).toNat]? = some x := rfl
    have hll : [x].length = 1 := rfl
    repeat' (first |refine Fl.v rfl rfl rfl ?_ |refine Fl.nilF ?_ |refine AWP.seq ?_ |refine AWP.region ?_ |refine AWP.condF rfl ?_ |refine AWP.block ?_ |refine AWP.skip ?_ |refine AWP.ret ?_ |refine Fl.elK rfl rfl rfl rfl rfl rfl rfl rfl (by assumption) (by omega) ?_ |fail)
    refine RetOk.of rfl (AV.Le.bool ?_)
    have hx0 : ((toW x.natAbs).length : Int) = 0 ↔ x = 0 := by
      have := toW_nil_iff (z := x.natAbs) (by omega)
      rw [← List.length_eq_zero_iff] at this
      omega
    have hb2 : b = true ↔ x = 0 := hb
    cases b with
    | false => exact decide_eq_false fun k => by have := hb2.2 (hx0.1 k); cases this
    | true => exact decide_eq_true (hx0.2 (hb2.1 rfl))
  · have hl : vs.length = 3 := by simp [needI] at hl; omega
    obtain ⟨x, y, z, rfl⟩ : ∃ x y z, vs = [x, y, z] := by
      match vs, hl with
      | [x, y, z], _ => exact ⟨x, y, z, rfl⟩
    repeat' (first |refine Fl.v rfl rfl rfl ?_ |refine Fl.nilF ?_ |refine AWP.seq ?_ |refine AWP.region ?_ |refine AWP.condT rfl ?_ |refine AWP.block ?_ |fail)
    refine Fl.call rfl (isPsi_ok x y z (hX x (by simp)) (hX y (by simp)) (hX z (by simp)) b hb) rfl rfl rfl (LeL.refl _) ?_
    repeat' (first |refine Fl.v rfl rfl rfl ?_ |refine Fl.nilF ?_ |refine AWP.ret ?_ |fail)
    exact RetOk.of rfl (AV.Le.refl _)
  · have hl : vs.length = 3 := by simp [needI] at hl; omega
    obtain ⟨x, y, z, rfl⟩ : ∃ x y z, vs = [x, y, z] := by
      match vs, hl with
      | [x, y, z], _ => exact ⟨x, y, z, rfl⟩
    repeat' (first |refine Fl.v rfl rfl rfl ?_ |refine Fl.nilF ?_ |refine AWP.seq ?_ |refine AWP.region ?_ |refine AWP.condT rfl ?_ |refine AWP.condF rfl ?_ |refine AWP.block ?_ |fail)
    refine Fl.call rfl (isPower_ok x y z (hX x (by simp)) (hX y (by simp)) (hX z (by simp)) b hb) rfl rfl rfl (LeL.refl _) ?_
    repeat' (first |refine Fl.v rfl rfl rfl ?_ |refine Fl.nilF ?_ |refine AWP.ret ?_ |fail)
    exact RetOk.of rfl (AV.Le.refl _)
  · have hl : vs.length = 2 := by simp [needI] at hl; omega
    obtain ⟨x, y, rfl⟩ : ∃ x y, vs = [x, y] := by
      match vs, hl with
      | [x, y], _ => exact ⟨x, y, rfl⟩
    have g0 : [x, y][(0 : Int).toNat]? = some x := rfl
    have g1 : [x, y][(1 : Int).toNat]? = some y := rfl
    have hll : [x, y].length = 2 := rfl
    have hx := hX x (by simp)
    have hy := hX y (by simp)
    repeat' (first |refine Fl.v rfl rfl rfl ?_ |refine Fl.nilF ?_ |refine AWP.seq ?_ |refine AWP.region ?_ |refine AWP.condT rfl ?_ |refine AWP.condF rfl ?_ |refine AWP.block ?_ |refine Fl.elK rfl rfl rfl rfl rfl rfl rfl rfl (by assumption) (by omega) ?_ |fail)
    refine Fl.call rfl (Under_ok x y hx hy) rfl rfl rfl (LeL.refl _) ?_
    repeat' (first |refine Fl.v rfl rfl rfl ?_ |refine Fl.nilF ?_ |refine Fl.nil (fun _ => by kernel_rfl) ?_ |refine AWP.seq ?_ |refine AWP.region ?_ |refine Fl.skip rfl rfl ?_ |refine AWP.ret ?_ |(refine Fl.splitD rfl rfl ?_ ?_ <;> intro _ <;> try (exfalso; omega)) |fail)
    · rename_i h
      refine RetOk.of rfl (AV.Le.bool ?_)
      have hbt : b = true := hb.2 h
      rw [hbt]
      exact decide_eq_true (if_neg (by omega))
    · rename_i h
      refine RetOk.of rfl (AV.Le.bool ?_)
      cases b with
      | false => rfl
      | true => exact absurd (hb.1 rfl) h
end Go.Proofs.YtcaecieigoplbaaGreat
namespace Go.AL
/-- whether the links hold, or the error -/
def holdsR (f g : LZ → Bool) : List LZ → Bool × Int
  | [] => (true, 0)
  | l :: ls => if f l then (if g l then holdsR f g ls else (false, 0)) else (false, 4)
/-- a link's polynomials have values -/
def EvL (X : List Int) (l : LZ) : Prop := ∀ p ∈ l.polys, EvOk (atOf X l.vars) p
def lvals (X : List Int) (l : LZ) : List Int := l.polys.map (pv (atOf X l.vars))
def HoL (X : List Int) (l : LZ) : Prop := holdP l.kind (lvals X l)
theorem pv_fit {X : List Int} {p : PZ} (h : EvOk X p) : Fit (pv X p) := by
  have b1 := PS_take X p.terms p.terms.length
  have b2 := OS_take X p.terms p.terms.length
  rw [List.take_length] at b1 b2
  exact fit_sum h.1 h.2 b1.1 b2.1
theorem lvals_fit {X : List Int} {l : LZ} (h : EvL X l) : ∀ x ∈ lvals X l, Fit x := fun x hx => by
  obtain ⟨p, hp, rfl⟩ := List.mem_map.1 hx
  exact pv_fit (h p hp)
theorem holdsR_drop {f g : LZ → Bool} {ls : List LZ} {i : Nat} {l : LZ} (h : ls[i]? = some l) : holdsR f g (ls.drop i) = if f l then (if g l then holdsR f g (ls.drop (i + 1)) else (false, 0)) else (false, 4) := by
  have hi := (List.getElem?_eq_some_iff.1 h).1
  rw [List.drop_eq_getElem_cons hi, (List.getElem?_eq_some_iff.1 h).2]
  rfl
end Go.AL
namespace Go.Proofs.YtcaecieigoplbaaGreat
open Go.AL

theorem Holds_ok (s : SZ) (X : List Int) (hw : WS s) (hs : OkS s) (hX : ∀ x ∈ X, Fit x) (hlen : (X.length : Int) = s.vars) (hnat : ∀ x ∈ X, 0 ≤ x) (f g : LZ → Bool) (hf : ∀ l, f l = true ↔ EvL X l) (hg : ∀ l, g l = true ↔ HoL X l) : PureFn Tryz.prog 25 [aS s, .sl 2 eX X] (.tup [aB (holdsR f g s.links).1, aN (holdsR f g s.links).2]) := by
  refine PureFn.of_body Tryz.func25 rfl Tryz.ntmps25 rfl rfl ?_
  have hv1 := hs.v1
  have hsl := hs.len
  repeat' (first |refine Fl.v rfl rfl rfl ?_ |refine Fl.nilF ?_ |refine AWP.seq ?_ |refine AWP.region ?_ |refine Fl.b rfl rfl rfl rfl ?_ |fail)
  refine Fl.call rfl (sValid_ok s hw true ⟨fun _ => hs, fun _ => rfl⟩) rfl rfl rfl (LeL.refl _) ?_
  repeat' (first |refine Fl.v rfl rfl rfl ?_ |fail)
  refine Fl.call rfl (chValidX_ok X hX (by omega)) rfl rfl rfl (LeL.refl _) ?_
  repeat' (first |refine Fl.v rfl rfl rfl ?_ |refine Fl.nilF ?_ |refine AWP.seq ?_ |refine AWP.region ?_ |refine AWP.condF rfl ?_ |refine AWP.skip ?_ |(refine Fl.splitN rfl rfl ?_ ?_ <;> intro _ <;> try (exfalso; omega)) |fail)
  have hv := chNatural_ok X (by omega)
  rw [decide_eq_true hnat] at hv
  refine Fl.call rfl (hv) rfl rfl rfl (LeL.refl _) ?_
  repeat' (first |refine Fl.v rfl rfl rfl ?_ |refine Fl.nilF ?_ |refine AWP.seq ?_ |refine AWP.region ?_ |refine AWP.condF rfl ?_ |refine AWP.block ?_ |refine AWP.skip ?_ |fail)
  refine AWP.loop (G := Nat) (fun i => i ≤ s.links.length ∧ holdsR f g (s.links.drop i) = holdsR f g s.links) (fun i => St.of [] [(1, .sl 2 eX X), (29, .sl 3 eL s.links), (30, aN s.links.length), (31, aN i)] []) (fun i => s.links.length - i) 0 ⟨by omega, rfl⟩ ?_ ?_
  · refine Ent.of [] ?_ ?_ rfl rfl
    repeat' (first | exact True.intro |refine ⟨⟨AV.Le.refl _, rfl⟩, ?_⟩ |refine ⟨⟨AV.Le.any _, rfl⟩, ?_⟩ |refine ⟨⟨⟨_, rfl, BLe.cells (LeL.refl _)⟩, rfl⟩, ?_⟩ |refine ⟨⟨⟨_, rfl, BLe.row rfl⟩, rfl⟩, ?_⟩ |refine ⟨⟨⟨_, rfl, BLe.row ?_⟩, rfl⟩, ?_⟩ |refine ⟨⟨⟨_, rfl, BLe.cells ?_⟩, rfl⟩, ?_⟩ |refine ⟨⟨AV.Le.int ?_, rfl⟩, ?_⟩ |refine ⟨⟨AV.Le.bool ?_, rfl⟩, ?_⟩ |refine ⟨⟨AV.Le.sl ?_, rfl⟩, ?_⟩ |refine ⟨⟨AV.Le.of_eq ?_, rfl⟩, ?_⟩ | fail)
  · intro i ⟨k0, k1⟩
    repeat' (first |refine Fl.v rfl rfl rfl ?_ |refine Fl.nilF ?_ |refine AWP.seq ?_ |refine AWP.region ?_ |refine Fl.b rfl rfl rfl rfl ?_ |(refine AWP.condD rfl ?_ ?_ <;> intro _ <;> try (exfalso; omega)) |refine AWP.block ?_ |refine AWP.skip ?_ |refine AWP.exit ?_ |refine AWP.ret ?_ |(refine Fl.el rfl rfl rfl rfl rfl rfl rfl rfl (by omega) (by omega) ?_; intro _ _) |fail)
    · rename_i hi l hl
      rw [Int.toNat_natCast] at hl
      have hlm := List.mem_of_getElem? hl
      rw [holdsR_drop hl] at k1
      have hL := hs.links l hlm
      rw [← hlen] at hL
      have hvs := fun r h1 h2 => Values_ok l X (hw l hlm) hL hX r h1 h2
      by_cases he : EvL X l
      · rw [if_pos ((hf l).2 he)] at k1
        have hvs1 := hvs _ (fun _ => rfl) (fun h => absurd he h)
        refine Fl.call rfl (hvs1) rfl rfl rfl (LeL.refl _) ?_
        repeat' (first |refine Fl.v rfl rfl rfl ?_ |refine Fl.nilF ?_ |refine AWP.seq ?_ |refine AWP.region ?_ |refine AWP.condF rfl ?_ |refine AWP.skip ?_ |fail)
        have hho := holds_ok l.kind (lvals X l) hL.kind (by rw [lvals, List.length_map]; exact hL.len) (lvals_fit he) (g l) (hg l)
        refine Fl.call rfl (hho) rfl rfl rfl (LeL.refl _) ?_
        repeat' (first |refine Fl.v rfl rfl rfl ?_ |refine Fl.nilF ?_ |refine AWP.seq ?_ |refine AWP.region ?_ |refine Fl.w rfl rfl rfl (by first | exact True.intro | omega) ?_ |refine AWP.skip ?_ |refine AWP.ret ?_ |(refine AWP.condB rfl ?_ ?_ <;> intro _) |fail)
        · rename_i hb
          rw [if_neg (by simpa using hb)] at k1
          rw [← k1]
          exact RetOk.of rfl (AV.Le.refl _)
        · rename_i hb
          rw [if_pos (by simpa using hb)] at k1
          refine LoopEnd.of (i + 1) ⟨by omega, k1⟩ (by omega) ?_
          refine Ent.of [] ?_ ?_ rfl rfl
          repeat' (first | exact True.intro |refine ⟨⟨AV.Le.refl _, rfl⟩, ?_⟩ |refine ⟨⟨AV.Le.any _, rfl⟩, ?_⟩ |refine ⟨⟨⟨_, rfl, BLe.cells (LeL.refl _)⟩, rfl⟩, ?_⟩ |refine ⟨⟨⟨_, rfl, BLe.row rfl⟩, rfl⟩, ?_⟩ |refine ⟨⟨⟨_, rfl, BLe.row ?_⟩, rfl⟩, ?_⟩ |refine ⟨⟨⟨_, rfl, BLe.cells ?_⟩, rfl⟩, ?_⟩ |refine ⟨⟨AV.Le.int ?_, rfl⟩, ?_⟩ |refine ⟨⟨AV.Le.bool ?_, rfl⟩, ?_⟩ |refine ⟨⟨AV.Le.sl ?_, rfl⟩, ?_⟩ |refine ⟨⟨AV.Le.of_eq ?_, rfl⟩, ?_⟩ | fail)
      · rw [if_neg (fun h => he ((hf l).1 h))] at k1
        have hvs1 := hvs _ (fun h => absurd h he) (fun _ => rfl)
        refine Fl.call rfl (hvs1) rfl rfl rfl (LeL.refl _) ?_
        repeat' (first |refine Fl.v rfl rfl rfl ?_ |refine Fl.nilF ?_ |refine AWP.seq ?_ |refine AWP.region ?_ |refine AWP.condT rfl ?_ |refine AWP.ret ?_ |fail)
        rw [← k1]
        exact RetOk.of rfl (AV.Le.refl _)
    · rename_i hi
      rw [List.drop_of_length_le (by omega)] at k1
      rw [← k1]
      exact RetOk.of rfl (AV.Le.refl _)
end Go.Proofs.YtcaecieigoplbaaGreat
namespace Go.AL
structure CT where
  v : Int
  e : Int
  p : Int
  w : Int
  u : Int
  d : Int
/-- one more link is counted -/
def stepC (c : CT) (l : LZ) : CT :=
  if l.kind = 0 then { c with e := c.e + 1, d := match l.polys with | [] => c.d | p :: _ => if pdeg p > c.d then pdeg p else c.d }
  else if l.kind = 1 then { c with p := c.p + 1 }
  else if l.kind = 2 then { c with w := c.w + 1 }
  else { c with u := c.u + 1 }
def CTb (i : Int) (c : CT) : Prop := 0 ≤ c.e ∧ c.e ≤ i ∧ 0 ≤ c.p ∧ c.p ≤ i ∧ 0 ≤ c.w ∧ c.w ≤ i ∧ 0 ≤ c.u ∧ c.u ≤ i
theorem CTb.step {i : Int} {c : CT} (h : CTb i c) (l : LZ) : CTb (i + 1) (stepC c l) := by
  obtain ⟨h1, h2, h3, h4, h5, h6, h7, h8⟩ := h
  unfold stepC
  repeat' split
  all_goals exact ⟨by dsimp only; omega, by dsimp only; omega, by dsimp only; omega, by dsimp only; omega, by dsimp only; omega, by dsimp only; omega, by dsimp only; omega, by dsimp only; omega⟩
theorem kinds {k : Int} (hk : needI k ≠ 0) : k = 0 ∨ k = 1 ∨ k = 2 ∨ k = 3 := by
  unfold needI at hk
  by_cases h0 : k = 0
  · omega
  by_cases h1 : k = 1
  · omega
  by_cases h2 : k = 2
  · omega
  by_cases h3 : k = 3
  · omega
  simp [h0, h1, h2, h3] at hk
end Go.AL
namespace Go.Proofs.YtcaecieigoplbaaGreat
open Go.AL

end Go.Proofs.YtcaecieigoplbaaGreat
namespace Go.AL
end Go.AL
namespace Go.Proofs.YtcaecieigoplbaaGreat
open Go.AL

end Go.Proofs.YtcaecieigoplbaaGreat
namespace Go.AL
theorem bitN_and32 {a : Int} (h : 0 ≤ a) : bitN .and a 4294967295 = a % 4294967296 := by
  show ((a.toNat &&& (4294967295 : Int).toNat : Nat) : Int) = a % 4294967296
  rw [show (4294967295 : Int).toNat = 2 ^ 32 - 1 from rfl, Nat.and_two_pow_sub_one_eq_mod]
  omega
end Go.AL
namespace Go.Proofs.YtcaecieigoplbaaGreat
open Go.AL

theorem rZero_ok (z : Z) : PureFn Tryz.prog 38 [aZ z] (aB (decide (z.w.length = 0))) := by
  refine PureFn.of_body Tryz.func38 rfl Tryz.ntmps38 rfl rfl ?_
  repeat' (first |refine Fl.v rfl rfl rfl ?_ |refine Fl.nilF ?_ |refine AWP.seq ?_ |refine AWP.region ?_ |refine Fl.b rfl rfl rfl rfl ?_ |refine AWP.ret ?_ |fail)
  refine RetOk.of rfl (AV.Le.bool ?_)
  simp
theorem rZeroX_ok (x : Int) : PureFn Tryz.prog 38 [aX x] (aB (decide (x = 0))) := by
  have h := rZero_ok (zOf x)
  have e : decide ((zOf x).w.length = 0) = decide (x = 0) := by
    rw [decide_eq_decide]
    show (toW x.natAbs).length = 0 ↔ x = 0
    have := toW_nil_iff (z := x.natAbs) (by omega)
    rw [List.length_eq_zero_iff, this]; omega
  rwa [e] at h
theorem rMake_ok (neg : Bool) (l : List Int) (hl : WOk l) (hb : l.length ≤ 100000) : PureFn Tryz.prog 83 [aB neg, aW l] (aX (sg neg (val l))) := by
  refine PureFn.of_body Tryz.func83 rfl Tryz.ntmps83 rfl rfl ?_
  have hv := val_nonneg hl
  have hab : ((sg neg (val l)).natAbs : Int) = val l := sg_abs _ hv
  refine AWP.seqS ?_
  repeat' (first |refine Fl.nilF ?_ |refine AWP.region ?_ |refine Fl.b rfl rfl rfl rfl ?_ |fail)
  refine ⟨AWP.seqS ?_⟩
  repeat' (first |refine Fl.v rfl rfl rfl ?_ |refine Fl.nilF ?_ |refine AWP.region ?_ |fail)
  refine ⟨?_⟩
  refine AWP.seqJ (G := Int) (fun n => 0 ≤ n ∧ n ≤ l.length ∧ l.take n.toNat = toW (val l)) (fun n => St.of [] [(0, aB neg), (1, aW l), (4, .ptr 4 0), (5, aN n)] [(4, .cells [aB false, .v (.slice none 0 0)] 35)]) ?_ ?_
  · repeat' (first |refine AWP.block ?_ |fail)
    refine AWP.loop (G := Int) (fun n => 0 ≤ n ∧ n ≤ l.length ∧ trimL (l.take n.toNat) = trimL l) (fun n => St.of [] [(0, aB neg), (1, aW l), (4, .ptr 4 0), (5, aN n)] [(4, .cells [aB false, .v (.slice none 0 0)] 35)]) (fun n => n.toNat) (l.length : Int) ⟨by omega, by omega, by simp⟩ ?_ ?_
    · refine Ent.of [] ?_ ?_ rfl rfl
      repeat' (first | exact True.intro |refine ⟨⟨AV.Le.refl _, rfl⟩, ?_⟩ |refine ⟨⟨AV.Le.any _, rfl⟩, ?_⟩ |refine ⟨⟨⟨_, rfl, BLe.cells (LeL.refl _)⟩, rfl⟩, ?_⟩ |refine ⟨⟨⟨_, rfl, BLe.row rfl⟩, rfl⟩, ?_⟩ |refine ⟨⟨⟨_, rfl, BLe.row ?_⟩, rfl⟩, ?_⟩ |refine ⟨⟨⟨_, rfl, BLe.cells ?_⟩, rfl⟩, ?_⟩ |refine ⟨⟨AV.Le.int ?_, rfl⟩, ?_⟩ |refine ⟨⟨AV.Le.bool ?_, rfl⟩, ?_⟩ |refine ⟨⟨AV.Le.sl ?_, rfl⟩, ?_⟩ |refine ⟨⟨AV.Le.of_eq ?_, rfl⟩, ?_⟩ | fail)
    · intro n ⟨h0, h1, h2⟩
      repeat' (first |refine Fl.v rfl rfl rfl ?_ |refine Fl.nilF ?_ |refine AWP.seq ?_ |refine AWP.region ?_ |refine Fl.w rfl rfl rfl (by first | exact True.intro | omega) ?_ |refine Fl.skip rfl rfl ?_ |refine AWP.condF rfl ?_ |(refine AWP.condD rfl ?_ ?_ <;> intro _ <;> try (exfalso; omega)) |refine AWP.block ?_ |refine AWP.skip ?_ |refine AWP.exit ?_ |(refine Fl.elW rfl rfl rfl rfl rfl rfl rfl rfl (by omega) (by omega) (by assumption) ?_; intro _ _ _ _) |(refine Fl.splitD rfl rfl ?_ ?_ <;> intro _ <;> try (exfalso; omega)) |fail)
      · rename_i hn e he he0 he1 hz
        subst hz
        refine LoopEnd.of (n - 1) ⟨by omega, by omega, ?_⟩ (by omega) ?_
        · rw [← h2, trimL_take0 (by omega) he]
        · refine Ent.of [] ?_ ?_ rfl rfl
          repeat' (first | exact True.intro |refine ⟨⟨AV.Le.refl _, rfl⟩, ?_⟩ |refine ⟨⟨AV.Le.any _, rfl⟩, ?_⟩ |refine ⟨⟨⟨_, rfl, BLe.cells (LeL.refl _)⟩, rfl⟩, ?_⟩ |refine ⟨⟨⟨_, rfl, BLe.row rfl⟩, rfl⟩, ?_⟩ |refine ⟨⟨⟨_, rfl, BLe.row ?_⟩, rfl⟩, ?_⟩ |refine ⟨⟨⟨_, rfl, BLe.cells ?_⟩, rfl⟩, ?_⟩ |refine ⟨⟨AV.Le.int ?_, rfl⟩, ?_⟩ |refine ⟨⟨AV.Le.bool ?_, rfl⟩, ?_⟩ |refine ⟨⟨AV.Le.sl ?_, rfl⟩, ?_⟩ |refine ⟨⟨AV.Le.of_eq ?_, rfl⟩, ?_⟩ | fail)
      · rename_i hn e he he0 he1 hz
        refine JoinOk.of n ⟨h0, h1, ?_⟩ ?_
        · rw [← trimL_eq hl, ← h2, trimL_take1 (by omega) he hz]
        · refine Ent.of [] ?_ ?_ rfl rfl
          repeat' (first | exact True.intro |refine ⟨⟨AV.Le.refl _, rfl⟩, ?_⟩ |refine ⟨⟨AV.Le.any _, rfl⟩, ?_⟩ |refine ⟨⟨⟨_, rfl, BLe.cells (LeL.refl _)⟩, rfl⟩, ?_⟩ |refine ⟨⟨⟨_, rfl, BLe.row rfl⟩, rfl⟩, ?_⟩ |refine ⟨⟨⟨_, rfl, BLe.row ?_⟩, rfl⟩, ?_⟩ |refine ⟨⟨⟨_, rfl, BLe.cells ?_⟩, rfl⟩, ?_⟩ |refine ⟨⟨AV.Le.int ?_, rfl⟩, ?_⟩ |refine ⟨⟨AV.Le.bool ?_, rfl⟩, ?_⟩ |refine ⟨⟨AV.Le.sl ?_, rfl⟩, ?_⟩ |refine ⟨⟨AV.Le.of_eq ?_, rfl⟩, ?_⟩ | fail)
      · rename_i hn
        refine JoinOk.of n ⟨h0, h1, ?_⟩ ?_
        · have : n = 0 := by omega
          subst this
          rw [← trimL_eq hl, ← h2]; simp [trimL]
        · refine Ent.of [] ?_ ?_ rfl rfl
          repeat' (first | exact True.intro |refine ⟨⟨AV.Le.refl _, rfl⟩, ?_⟩ |refine ⟨⟨AV.Le.any _, rfl⟩, ?_⟩ |refine ⟨⟨⟨_, rfl, BLe.cells (LeL.refl _)⟩, rfl⟩, ?_⟩ |refine ⟨⟨⟨_, rfl, BLe.row rfl⟩, rfl⟩, ?_⟩ |refine ⟨⟨⟨_, rfl, BLe.row ?_⟩, rfl⟩, ?_⟩ |refine ⟨⟨⟨_, rfl, BLe.cells ?_⟩, rfl⟩, ?_⟩ |refine ⟨⟨AV.Le.int ?_, rfl⟩, ?_⟩ |refine ⟨⟨AV.Le.bool ?_, rfl⟩, ?_⟩ |refine ⟨⟨AV.Le.sl ?_, rfl⟩, ?_⟩ |refine ⟨⟨AV.Le.of_eq ?_, rfl⟩, ?_⟩ | fail)
  · intro n ⟨h0, h1, h2⟩
    have h3 : (l.take n.toNat).length = n := by rw [List.length_take]; omega
    repeat' (first |refine Fl.v rfl rfl rfl ?_ |refine Fl.nilF ?_ |refine AWP.seq ?_ |refine AWP.region ?_ |refine Fl.w rfl rfl rfl (by first | exact True.intro | omega) ?_ |refine Fl.b rfl rfl rfl rfl ?_ |refine Fl.skip rfl rfl ?_ |(refine Fl.splitB rfl rfl ?_ ?_ <;> (fail_if_success (intro hb_; exact absurd hb_ (by decide))) <;> intro _) |fail)
    all_goals
      rename_i hneg
      refine Fl.ap0 rfl rfl rfl rfl rfl rfl rfl rfl eW rfl rfl (fun _ => rfl) (fun _ => rfl) (AV.Le.refl _) (by dsimp only [List.length_nil]; omega) (by omega) ?_
      repeat' (first |refine Fl.v rfl rfl rfl ?_ |refine Fl.nilF ?_ |refine Fl.nil (fun _ => by kernel_rfl) ?_ |refine AWP.seq ?_ |refine AWP.region ?_ |refine Fl.b rfl rfl rfl rfl ?_ |refine AWP.ret ?_ |fail)
      refine RetOk.ent (Ent.freeze 32 rfl) ?_
      refine RetOk.of rfl (AV.Le.of_eq (aX_of ?_ ?_))
    · subst hneg
      simp only [sg, if_true]
      have := toW_nil_iff hv
      rw [h2] at h3
      by_cases h0 : val l = 0
      · rw [h0, toW_zero] at h3
        simp at h3
        rw [h0, ← h3]; rfl
      · have h4 : (toW (val l)).length ≠ 0 := fun h => h0 (this.1 (List.eq_nil_of_length_eq_zero h))
        rw [decide_eq_decide]; omega
    · rw [hab, h2]
    · subst hneg
      simp [sg]; omega
    · rw [hab, h2]
theorem sameWords_ok (a b : List Int) (ha : a.length ≤ 1000000) (wa : WOk a) (wb : WOk b) : PureFn Tryz.prog 91 [aW a, aW b] (aB (decide (a = b))) := by
  refine PureFn.of_body Tryz.func91 rfl Tryz.ntmps91 rfl rfl ?_
  repeat' (first |refine Fl.v rfl rfl rfl ?_ |refine Fl.nilF ?_ |refine AWP.seq ?_ |refine AWP.region ?_ |(refine AWP.condN rfl ?_ ?_ <;> intro _ <;> try (exfalso; omega)) |refine AWP.block ?_ |refine AWP.skip ?_ |refine AWP.ret ?_ |fail)
  · rename_i h
    exact RetOk.of rfl (AV.Le.bool (Eq.symm (decide_eq_false fun k => h (by rw [k]))))
  · rename_i hlen
    refine AWP.loop (G := Nat) (fun i => i ≤ a.length ∧ a.take i = b.take i) (fun i => St.of [] [(0, aW a), (1, aW b), (5, aN i)] []) (fun i => a.length - i) 0 ⟨by omega, by simp⟩ ?_ ?_
    · refine Ent.of [] ?_ ?_ rfl rfl
      repeat' (first | exact True.intro |refine ⟨⟨AV.Le.refl _, rfl⟩, ?_⟩ |refine ⟨⟨AV.Le.any _, rfl⟩, ?_⟩ |refine ⟨⟨⟨_, rfl, BLe.cells (LeL.refl _)⟩, rfl⟩, ?_⟩ |refine ⟨⟨⟨_, rfl, BLe.row rfl⟩, rfl⟩, ?_⟩ |refine ⟨⟨⟨_, rfl, BLe.row ?_⟩, rfl⟩, ?_⟩ |refine ⟨⟨⟨_, rfl, BLe.cells ?_⟩, rfl⟩, ?_⟩ |refine ⟨⟨AV.Le.int ?_, rfl⟩, ?_⟩ |refine ⟨⟨AV.Le.bool ?_, rfl⟩, ?_⟩ |refine ⟨⟨AV.Le.sl ?_, rfl⟩, ?_⟩ |refine ⟨⟨AV.Le.of_eq ?_, rfl⟩, ?_⟩ | fail)
    · intro i ⟨h0, h1⟩
      repeat' (first |refine Fl.v rfl rfl rfl ?_ |refine Fl.nilF ?_ |refine Fl.nil (fun _ => by kernel_rfl) ?_ |refine AWP.seq ?_ |refine AWP.region ?_ |refine Fl.w rfl rfl rfl (by first | exact True.intro | omega) ?_ |(refine AWP.condD rfl ?_ ?_ <;> intro _ <;> try (exfalso; omega)) |(refine AWP.condN rfl ?_ ?_ <;> intro _ <;> try (exfalso; omega)) |refine AWP.block ?_ |refine AWP.skip ?_ |refine AWP.exit ?_ |refine AWP.ret ?_ |(refine Fl.elW rfl rfl rfl rfl rfl rfl rfl rfl (by omega) (by omega) (by assumption) ?_; intro _ _ _ _) |fail)
      · rename_i hi x hx _ _ y hy _ _ hne
        rw [Int.toNat_natCast] at hx hy
        refine RetOk.of rfl (AV.Le.bool (Eq.symm (decide_eq_false fun k => ?_)))
        subst k
        rw [hx] at hy; cases hy
        exact hne rfl
      · rename_i hi x hx _ _ y hy _ _ heq
        rw [Int.toNat_natCast] at hx hy
        refine LoopEnd.of (i + 1) ⟨by omega, ?_⟩ (by omega) ?_
        · rw [take_snoc hx, take_snoc hy, h1, heq]
        · refine Ent.of [] ?_ ?_ rfl rfl
          repeat' (first | exact True.intro |refine ⟨⟨AV.Le.refl _, rfl⟩, ?_⟩ |refine ⟨⟨AV.Le.any _, rfl⟩, ?_⟩ |refine ⟨⟨⟨_, rfl, BLe.cells (LeL.refl _)⟩, rfl⟩, ?_⟩ |refine ⟨⟨⟨_, rfl, BLe.row rfl⟩, rfl⟩, ?_⟩ |refine ⟨⟨⟨_, rfl, BLe.row ?_⟩, rfl⟩, ?_⟩ |refine ⟨⟨⟨_, rfl, BLe.cells ?_⟩, rfl⟩, ?_⟩ |refine ⟨⟨AV.Le.int ?_, rfl⟩, ?_⟩ |refine ⟨⟨AV.Le.bool ?_, rfl⟩, ?_⟩ |refine ⟨⟨AV.Le.sl ?_, rfl⟩, ?_⟩ |refine ⟨⟨AV.Le.of_eq ?_, rfl⟩, ?_⟩ | fail)
      · refine RetOk.of rfl (AV.Le.bool (Eq.symm (decide_eq_true ?_)))
        rwa [List.take_of_length_le (by omega), List.take_of_length_le (by omega)] at h1
theorem rSame_ok (x y : Int) (hx : (toW x.natAbs).length ≤ 1000000) : PureFn Tryz.prog 27 [aX x, aX y] (aB (decide (x = y))) := by
  refine PureFn.of_body Tryz.func27 rfl Tryz.ntmps27 rfl rfl ?_
  repeat' (first |refine Fl.v rfl rfl rfl ?_ |refine Fl.nilF ?_ |refine AWP.seq ?_ |refine AWP.region ?_ |refine Fl.b rfl rfl rfl rfl ?_ |refine Fl.skip rfl rfl ?_ |refine AWP.ret ?_ |(refine Fl.splitD rfl rfl ?_ ?_ <;> intro _ <;> try (exfalso; omega)) |fail)
  · rename_i h
    refine Fl.call rfl (sameWords_ok (toW x.natAbs) (toW y.natAbs) hx (toW_ok _) (toW_ok _)) rfl rfl rfl (LeL.refl _) ?_
    repeat' (first |refine Fl.v rfl rfl rfl ?_ |refine Fl.nilF ?_ |refine AWP.ret ?_ |fail)
    refine RetOk.of rfl (AV.Le.bool ?_)
    rw [decide_eq_decide]
    rw [decide_eq_decide] at h
    refine ⟨fun k => ?_, fun k => by rw [k]⟩
    have := toW_inj (by omega) (by omega) k
    omega
  · rename_i h
    exact RetOk.of rfl (AV.Le.bool (Eq.symm (decide_eq_false fun k => h (by rw [k]))))
theorem rOf_ok (n : Int) (h0 : -9223372036854775808 ≤ n) (h1 : n ≤ 9223372036854775807) : PureFn Tryz.prog 21 [aN n] (aX n) := by
  refine PureFn.of_body Tryz.func21 rfl Tryz.ntmps21 rfl rfl ?_
  repeat' (first |refine Fl.v rfl rfl rfl ?_ |refine Fl.nilF ?_ |refine AWP.seq ?_ |refine AWP.region ?_ |refine Fl.w rfl rfl rfl (by first | exact True.intro | omega) ?_ |refine Fl.b rfl rfl rfl rfl ?_ |(refine AWP.condD rfl ?_ ?_ <;> intro _ <;> try (exfalso; omega)) |refine AWP.skip ?_ |refine Fl.cvU rfl rfl rfl rfl rfl rfl ?_ |fail)
  all_goals
    refine Fl.lit rfl rfl rfl rfl rfl eW [_, _] rfl rfl rfl rfl (by intro _ _; rfl) rfl ?_
    skip
    refine Fl.call rfl (rMake_ok (decide (n < 0)) _ (WOk.cons (by omega) (by omega) (WOk.cons (by omega) (by omega) WOk.nil)) (by simp)) rfl rfl rfl (LeL.refl _) ?_
    repeat' (first |refine Fl.nilF ?_ |refine Fl.b rfl rfl rfl rfl ?_ |refine AWP.ret ?_ |fail)
    refine RetOk.of rfl (AV.Le.agg (leX (σ := []) ?_))
    simp only [val, p32]
    rw [bitN_and32 (by omega)]
    simp only [sg]; simp; split <;> omega
end Go.Proofs.YtcaecieigoplbaaGreat
namespace Go.AL
/-- a number's words, so many of them -/
def padW : Nat → Int → List Int
  | 0, _ => []
  | n + 1, v => v % 4294967296 :: padW n (v / 4294967296)
theorem padW_ok : ∀ (n : Nat) (v : Int), WOk (padW n v)
  | 0, _ => WOk.nil
  | n + 1, v => WOk.cons (by omega) (by omega) (padW_ok n _)
theorem padW_len : ∀ (n : Nat) (v : Int), (padW n v).length = n
  | 0, _ => rfl
  | n + 1, v => by simp [padW, padW_len n]
theorem padW_of : ∀ {l : List Int}, WOk l → l = padW l.length (val l)
  | [], _ => rfl
  | x :: l, h => by
    have h1 := h.head
    have h2 := padW_of h.tail
    simp only [List.length_cons, padW, val]
    rw [show (x + 4294967296 * val l) % 4294967296 = x by omega, show (x + 4294967296 * val l) / 4294967296 = val l by omega, ← h2]
theorem padW_val : ∀ {n : Nat} {v : Int}, 0 ≤ v → v < BB n → val (padW n v) = v
  | 0, v, h0, h1 => by rw [BB_zero] at h1; simp [padW, val]; omega
  | n + 1, v, h0, h1 => by
    rw [BB_succ] at h1
    simp only [padW, val]
    rw [padW_val (by omega) (by omega)]
    omega
theorem plus_step2 {os A B : List Int} {c x y s : Int} (hA : val (A.take (os.length + 1)) = val (A.take os.length) + BB os.length * x) (hB : val (B.take (os.length + 1)) = val (B.take os.length) + BB os.length * y)
    (h : val os + BB os.length * c = val (A.take os.length) + val (B.take os.length)) (hs : s = c + x + y) :
    val (os ++ [s % 4294967296]) + BB (os.length + 1) * (s / 4294967296) = val (A.take (os.length + 1)) + val (B.take (os.length + 1)) := by
  rw [val_snoc, hA, hB, BB_succ]
  have h1 : s = s % 4294967296 + 4294967296 * (s / 4294967296) := by omega
  generalize s % 4294967296 = p at h1
  generalize s / 4294967296 = q at h1
  subst hs
  grind
end Go.AL
namespace Go.Proofs.YtcaecieigoplbaaGreat
open Go.AL

theorem rorder_ok (x y : Int) (hx : 0 ≤ x) (hy : 0 ≤ y) (hxl : (toW x).length ≤ 100000) (hyl : (toW y).length ≤ 100000) : PureFn Tryz.prog 102 [aW (toW x), aW (toW y)] (aN (cmpI x y)) := by
  refine PureFn.of_body Tryz.func102 rfl Tryz.ntmps102 rfl rfl ?_
  have wx := toW_ok x
  have wy := toW_ok y
  repeat' (first |refine Fl.v rfl rfl rfl ?_ |refine Fl.nilF ?_ |refine AWP.seq ?_ |refine AWP.region ?_ |refine Fl.w rfl rfl rfl (by first | exact True.intro | omega) ?_ |(refine AWP.condD rfl ?_ ?_ <;> intro _ <;> try (exfalso; omega)) |(refine AWP.condN rfl ?_ ?_ <;> intro _ <;> try (exfalso; omega)) |refine AWP.block ?_ |refine AWP.skip ?_ |refine AWP.ret ?_ |fail)
  · refine RetOk.of rfl (AV.Le.of_eq ?_)
    rw [cmpI_lt (toW_len_lt hx hy (by omega))]
  · refine RetOk.of rfl (AV.Le.of_eq ?_)
    rw [cmpI_gt (toW_len_lt hy hx (by omega))]
  · rename_i hl
    refine AWP.loop (G := Int) (fun i => -1 ≤ i ∧ i < (toW x).length ∧ (toW x).drop (i + 1).toNat = (toW y).drop (i + 1).toNat) (fun i => St.of [] [(0, aW (toW x)), (1, aW (toW y)), (5, aN i)] []) (fun i => (i + 1).toNat) ((toW x).length - 1 : Int) ⟨by omega, by omega, by rw [List.drop_of_length_le (by omega), List.drop_of_length_le (by omega)]⟩ ?_ ?_
    · refine Ent.of [] ?_ ?_ rfl rfl
      repeat' (first | exact True.intro |refine ⟨⟨AV.Le.refl _, rfl⟩, ?_⟩ |refine ⟨⟨AV.Le.any _, rfl⟩, ?_⟩ |refine ⟨⟨⟨_, rfl, BLe.cells (LeL.refl _)⟩, rfl⟩, ?_⟩ |refine ⟨⟨⟨_, rfl, BLe.row rfl⟩, rfl⟩, ?_⟩ |refine ⟨⟨⟨_, rfl, BLe.row ?_⟩, rfl⟩, ?_⟩ |refine ⟨⟨⟨_, rfl, BLe.cells ?_⟩, rfl⟩, ?_⟩ |refine ⟨⟨AV.Le.int ?_, rfl⟩, ?_⟩ |refine ⟨⟨AV.Le.bool ?_, rfl⟩, ?_⟩ |refine ⟨⟨AV.Le.sl ?_, rfl⟩, ?_⟩ |refine ⟨⟨AV.Le.of_eq ?_, rfl⟩, ?_⟩ | fail)
    · intro i ⟨h0, h1, h2⟩
      have hsx := val_toW hx
      have hsy := val_toW hy
      repeat' (first |refine Fl.v rfl rfl rfl ?_ |refine Fl.nilF ?_ |refine Fl.nil (fun _ => by kernel_rfl) ?_ |refine AWP.seq ?_ |refine AWP.region ?_ |refine Fl.w rfl rfl rfl (by first | exact True.intro | omega) ?_ |(refine AWP.condD rfl ?_ ?_ <;> intro _ <;> try (exfalso; omega)) |refine AWP.block ?_ |refine AWP.skip ?_ |refine AWP.exit ?_ |refine AWP.ret ?_ |refine Fl.elK rfl rfl rfl rfl rfl rfl rfl rfl (by assumption) (by omega) ?_ |(refine Fl.elW rfl rfl rfl rfl rfl rfl rfl rfl (by omega) (by omega) (by assumption) ?_; intro _ _ _ _) |fail)
      · rename_i hi u hu _ _ v hv _ _ huv
        refine RetOk.of rfl (AV.Le.of_eq ?_)
        have := val_lt_at wx wy hu hv (by rw [show i.toNat + 1 = (i + 1).toNat by omega]; exact h2) huv
        rw [cmpI_lt (by omega)]
      · rename_i hi u hu _ _ v hv _ _ _ huv
        refine RetOk.of rfl (AV.Le.of_eq ?_)
        have := val_lt_at wy wx hv hu (by rw [show i.toNat + 1 = (i + 1).toNat by omega]; exact h2.symm) huv
        rw [cmpI_gt (by omega)]
      · rename_i hi u hu _ _ v hv _ _ huv hvu
        refine LoopEnd.of (i - 1) ⟨by omega, by omega, ?_⟩ (by omega) ?_
        · have := drop_eq_of hu hv (by rw [show i.toNat + 1 = (i + 1).toNat by omega]; exact h2) (by omega)
          rwa [show (i - 1 + 1).toNat = i.toNat by omega]
        · refine Ent.of [] ?_ ?_ rfl rfl
          repeat' (first | exact True.intro |refine ⟨⟨AV.Le.refl _, rfl⟩, ?_⟩ |refine ⟨⟨AV.Le.any _, rfl⟩, ?_⟩ |refine ⟨⟨⟨_, rfl, BLe.cells (LeL.refl _)⟩, rfl⟩, ?_⟩ |refine ⟨⟨⟨_, rfl, BLe.row rfl⟩, rfl⟩, ?_⟩ |refine ⟨⟨⟨_, rfl, BLe.row ?_⟩, rfl⟩, ?_⟩ |refine ⟨⟨⟨_, rfl, BLe.cells ?_⟩, rfl⟩, ?_⟩ |refine ⟨⟨AV.Le.int ?_, rfl⟩, ?_⟩ |refine ⟨⟨AV.Le.bool ?_, rfl⟩, ?_⟩ |refine ⟨⟨AV.Le.sl ?_, rfl⟩, ?_⟩ |refine ⟨⟨AV.Le.of_eq ?_, rfl⟩, ?_⟩ | fail)
      · refine RetOk.of rfl (AV.Le.of_eq ?_)
        have : i = -1 := by omega
        subst this
        rw [show ((-1 : Int) + 1).toNat = 0 from rfl, List.drop_zero, List.drop_zero] at h2
        rw [cmpI_eq (by rw [← hsx, ← hsy, h2])]

theorem rplus_ok (A B : List Int) (wA : WOk A) (wB : WOk B) (hA : A.length ≤ 50000) (hB : B.length ≤ 50000) (N : Nat) (hN : N = (if B.length > A.length then B.length else A.length) + 1) : PureFn Tryz.prog 110 [aW A, aW B] (aW (padW N (val A + val B))) := by
  refine PureFn.of_body Tryz.func110 rfl Tryz.ntmps110 rfl rfl ?_
  have hN1 : (if (B.length : Int) > (A.length : Int) then (B.length : Int) else (A.length : Int)) + 1 = (N : Int) := by
    rw [hN]; split <;> split <;> omega
  have hNa : A.length < N ∧ B.length < N ∧ N ≤ 50001 := by rw [hN]; split <;> omega
  repeat' (first |refine Fl.v rfl rfl rfl ?_ |refine Fl.nilF ?_ |refine AWP.seq ?_ |refine AWP.region ?_ |refine Fl.w rfl rfl rfl (by first | exact True.intro | omega) ?_ |refine AWP.block ?_ |refine Fl.make rfl rfl rfl rfl rfl rfl rfl rfl rfl rfl eW 0 (by exact LeL.refl _) (by rfl) (by first | omega | (dsimp only; omega)) (by first | omega | (dsimp only; omega)) (by first | omega | (dsimp only; omega)) ?_ |fail)
  refine AWP.loop (G := List Int × Int) (fun (os, c) => os.length ≤ N ∧ WOk os ∧ 0 ≤ c ∧ c ≤ 1 ∧ val os + BB os.length * c = val (A.take os.length) + val (B.take os.length))
    (fun (os, c) => St.of [] [(0, aW A), (1, aW B), (5, aN N), (6, .row 16), (7, aU c), (8, aN os.length)] [(16, .row 1 eW (os ++ List.replicate (N - os.length) 0) 62)])
    (fun (os, c) => N - os.length) ([], 0) ⟨by simp, WOk.nil, by omega, by omega, by simp [val, BB]⟩ ?_ ?_
  · refine Ent.of [] ?_ ?_ rfl rfl
    repeat' (first | exact True.intro |refine ⟨⟨AV.Le.refl _, rfl⟩, ?_⟩ |refine ⟨⟨AV.Le.any _, rfl⟩, ?_⟩ |refine ⟨⟨⟨_, rfl, BLe.cells (LeL.refl _)⟩, rfl⟩, ?_⟩ |refine ⟨⟨⟨_, rfl, BLe.row rfl⟩, rfl⟩, ?_⟩ |refine ⟨⟨⟨_, rfl, BLe.row ?_⟩, rfl⟩, ?_⟩ |refine ⟨⟨⟨_, rfl, BLe.cells ?_⟩, rfl⟩, ?_⟩ |refine ⟨⟨AV.Le.int ?_, rfl⟩, ?_⟩ |refine ⟨⟨AV.Le.bool ?_, rfl⟩, ?_⟩ |refine ⟨⟨AV.Le.sl ?_, rfl⟩, ?_⟩ |refine ⟨⟨AV.Le.of_eq ?_, rfl⟩, ?_⟩ | fail)
    · exact hN1
    · rw [hN1]; simp
  · intro ⟨os, c⟩ ⟨h0, h1, h2, h3, h4⟩
    have hl : (os ++ List.replicate (N - os.length) 0).length = N := by simp; omega
    repeat' (first |refine Fl.v rfl rfl rfl ?_ |refine Fl.nilF ?_ |refine AWP.seq ?_ |refine AWP.region ?_ |refine Fl.w rfl rfl rfl (by first | exact True.intro | omega) ?_ |(refine AWP.condD rfl ?_ ?_ <;> intro _ <;> try (exfalso; omega)) |refine AWP.block ?_ |refine AWP.skip ?_ |refine AWP.exit ?_ |refine AWP.ret ?_ |(refine Fl.elW rfl rfl rfl rfl rfl rfl rfl rfl (by omega) (by omega) (by assumption) ?_; intro _ _ _ _) |refine Fl.rel rfl rfl rfl rfl rfl rfl rfl rfl (by omega) (by first | omega | (simp; omega)) ?_ |refine Fl.rst rfl rfl rfl rfl rfl rfl rfl rfl rfl rfl rfl (LeL.refl _) rfl (by first | omega | (simp; omega)) ?_ |fail)
    · rename_i hi hiA u hu hu0 hu1 hiB v hv hv0 hv1
      rw [Int.toNat_natCast] at hu
      rw [Int.toNat_natCast] at hv
      have hstep := plus_step2 (x := u) (y := v) (val_take_succ hu) (val_take_succ hv) h4 rfl
      refine LoopEnd.of (os ++ [(c + u + v) % 4294967296], (c + u + v) / 4294967296) ⟨by simp; omega, h1.append (WOk.cons (by omega) (by omega) WOk.nil), by omega, by omega, by rw [List.length_append]; exact hstep⟩ (by simp only [List.length_append, List.length_cons, List.length_nil]; omega) ?_
      refine Ent.of [] ?_ ?_ rfl rfl
      repeat' (first | exact True.intro |refine ⟨⟨AV.Le.refl _, rfl⟩, ?_⟩ |refine ⟨⟨AV.Le.any _, rfl⟩, ?_⟩ |refine ⟨⟨⟨_, rfl, BLe.cells (LeL.refl _)⟩, rfl⟩, ?_⟩ |refine ⟨⟨⟨_, rfl, BLe.row rfl⟩, rfl⟩, ?_⟩ |refine ⟨⟨⟨_, rfl, BLe.row ?_⟩, rfl⟩, ?_⟩ |refine ⟨⟨⟨_, rfl, BLe.cells ?_⟩, rfl⟩, ?_⟩ |refine ⟨⟨AV.Le.int ?_, rfl⟩, ?_⟩ |refine ⟨⟨AV.Le.bool ?_, rfl⟩, ?_⟩ |refine ⟨⟨AV.Le.sl ?_, rfl⟩, ?_⟩ |refine ⟨⟨AV.Le.of_eq ?_, rfl⟩, ?_⟩ | fail)
      all_goals first
        | exact set_rep (by simp) (by simp; omega) (by rw [bitN_and32 (by omega)]; omega)
        | (rw [p32]; omega)
        | (simp; done)
    · rename_i hi hiA u hu hu0 hu1 hiB
      rw [Int.toNat_natCast] at hu
      have hstep := plus_step2 (x := u) (y := 0) (val_take_succ hu) (val_take_end (by omega)) h4 rfl
      refine LoopEnd.of (os ++ [(c + u + 0) % 4294967296], (c + u + 0) / 4294967296) ⟨by simp; omega, h1.append (WOk.cons (by omega) (by omega) WOk.nil), by omega, by omega, by rw [List.length_append]; exact hstep⟩ (by simp only [List.length_append, List.length_cons, List.length_nil]; omega) ?_
      refine Ent.of [] ?_ ?_ rfl rfl
      repeat' (first | exact True.intro |refine ⟨⟨AV.Le.refl _, rfl⟩, ?_⟩ |refine ⟨⟨AV.Le.any _, rfl⟩, ?_⟩ |refine ⟨⟨⟨_, rfl, BLe.cells (LeL.refl _)⟩, rfl⟩, ?_⟩ |refine ⟨⟨⟨_, rfl, BLe.row rfl⟩, rfl⟩, ?_⟩ |refine ⟨⟨⟨_, rfl, BLe.row ?_⟩, rfl⟩, ?_⟩ |refine ⟨⟨⟨_, rfl, BLe.cells ?_⟩, rfl⟩, ?_⟩ |refine ⟨⟨AV.Le.int ?_, rfl⟩, ?_⟩ |refine ⟨⟨AV.Le.bool ?_, rfl⟩, ?_⟩ |refine ⟨⟨AV.Le.sl ?_, rfl⟩, ?_⟩ |refine ⟨⟨AV.Le.of_eq ?_, rfl⟩, ?_⟩ | fail)
      all_goals first
        | exact set_rep (by simp) (by simp; omega) (by rw [bitN_and32 (by omega)]; omega)
        | (rw [p32]; omega)
        | (simp; done)
    · rename_i hi hiA hiB v hv hv0 hv1
      rw [Int.toNat_natCast] at hv
      have hstep := plus_step2 (x := 0) (y := v) (val_take_end (by omega)) (val_take_succ hv) h4 rfl
      refine LoopEnd.of (os ++ [(c + 0 + v) % 4294967296], (c + 0 + v) / 4294967296) ⟨by simp; omega, h1.append (WOk.cons (by omega) (by omega) WOk.nil), by omega, by omega, by rw [List.length_append]; exact hstep⟩ (by simp only [List.length_append, List.length_cons, List.length_nil]; omega) ?_
      refine Ent.of [] ?_ ?_ rfl rfl
      repeat' (first | exact True.intro |refine ⟨⟨AV.Le.refl _, rfl⟩, ?_⟩ |refine ⟨⟨AV.Le.any _, rfl⟩, ?_⟩ |refine ⟨⟨⟨_, rfl, BLe.cells (LeL.refl _)⟩, rfl⟩, ?_⟩ |refine ⟨⟨⟨_, rfl, BLe.row rfl⟩, rfl⟩, ?_⟩ |refine ⟨⟨⟨_, rfl, BLe.row ?_⟩, rfl⟩, ?_⟩ |refine ⟨⟨⟨_, rfl, BLe.cells ?_⟩, rfl⟩, ?_⟩ |refine ⟨⟨AV.Le.int ?_, rfl⟩, ?_⟩ |refine ⟨⟨AV.Le.bool ?_, rfl⟩, ?_⟩ |refine ⟨⟨AV.Le.sl ?_, rfl⟩, ?_⟩ |refine ⟨⟨AV.Le.of_eq ?_, rfl⟩, ?_⟩ | fail)
      all_goals first
        | exact set_rep (by simp) (by simp; omega) (by rw [bitN_and32 (by omega)]; omega)
        | (rw [p32]; omega)
        | (simp; done)
    · rename_i hi hiA hiB
      have hstep := plus_step2 (x := 0) (y := 0) (val_take_end (by omega)) (val_take_end (by omega)) h4 rfl
      refine LoopEnd.of (os ++ [(c + 0 + 0) % 4294967296], (c + 0 + 0) / 4294967296) ⟨by simp; omega, h1.append (WOk.cons (by omega) (by omega) WOk.nil), by omega, by omega, by rw [List.length_append]; exact hstep⟩ (by simp only [List.length_append, List.length_cons, List.length_nil]; omega) ?_
      refine Ent.of [] ?_ ?_ rfl rfl
      repeat' (first | exact True.intro |refine ⟨⟨AV.Le.refl _, rfl⟩, ?_⟩ |refine ⟨⟨AV.Le.any _, rfl⟩, ?_⟩ |refine ⟨⟨⟨_, rfl, BLe.cells (LeL.refl _)⟩, rfl⟩, ?_⟩ |refine ⟨⟨⟨_, rfl, BLe.row rfl⟩, rfl⟩, ?_⟩ |refine ⟨⟨⟨_, rfl, BLe.row ?_⟩, rfl⟩, ?_⟩ |refine ⟨⟨⟨_, rfl, BLe.cells ?_⟩, rfl⟩, ?_⟩ |refine ⟨⟨AV.Le.int ?_, rfl⟩, ?_⟩ |refine ⟨⟨AV.Le.bool ?_, rfl⟩, ?_⟩ |refine ⟨⟨AV.Le.sl ?_, rfl⟩, ?_⟩ |refine ⟨⟨AV.Le.of_eq ?_, rfl⟩, ?_⟩ | fail)
      all_goals first
        | exact set_rep (by simp) (by simp; omega) (by rw [bitN_and32 (by omega)]; omega)
        | (rw [p32]; omega)
        | (simp; done)
    · rename_i hi
      have hlen : os.length = N := by omega
      rw [hlen, List.take_of_length_le (by omega), List.take_of_length_le (by omega)] at h4
      refine RetOk.ent (Ent.freeze 16 rfl) ?_
      refine RetOk.of rfl (AV.Le.sl ?_)
      have b1 := val_lt wA
      have b2 := val_lt wB
      have b3 := BB_le (show A.length ≤ N - 1 by omega)
      have b4 := BB_le (show B.length ≤ N - 1 by omega)
      have b5 : BB N = 4294967296 * BB (N - 1) := by rw [← BB_succ]; congr 1; omega
      have b6 := BB_pos (N - 1)
      have b7 := val_nonneg h1
      have hc : c = 0 := by
        have : c = 0 ∨ c = 1 := by omega
        rcases this with h | h
        · exact h
        · subst h; omega
      subst hc
      rw [hlen, Nat.sub_self, List.replicate_zero, List.append_nil, padW_of h1, hlen]
      congr 1
      omega
end Go.Proofs.YtcaecieigoplbaaGreat
namespace Go.Proofs.YtcaecieigoplbaaGreat
open Go.AL

theorem rminus_ok (A B : List Int) (wA : WOk A) (wB : WOk B) (hA : A.length ≤ 50000) (hlB : B.length ≤ A.length) (hle : val B ≤ val A) : PureFn Tryz.prog 111 [aW A, aW B] (aW (padW A.length (val A - val B))) := by
  refine PureFn.of_body Tryz.func111 rfl Tryz.ntmps111 rfl rfl ?_
  repeat' (first |refine Fl.v rfl rfl rfl ?_ |refine Fl.nilF ?_ |refine AWP.seq ?_ |refine AWP.region ?_ |refine AWP.block ?_ |refine Fl.make rfl rfl rfl rfl rfl rfl rfl rfl rfl rfl eW 0 (by exact LeL.refl _) (by rfl) (by first | omega | (dsimp only; omega)) (by first | omega | (dsimp only; omega)) (by first | omega | (dsimp only; omega)) ?_ |fail)
  refine AWP.loop (G := List Int × Int) (fun (os, c) => os.length ≤ A.length ∧ WOk os ∧ 0 ≤ c ∧ c ≤ 1 ∧ val os = val (A.take os.length) - val (B.take os.length) + BB os.length * c)
    (fun (os, c) => St.of [] [(0, aW A), (1, aW B), (5, .row 11), (6, aU c), (7, aN os.length)] [(11, .row 1 eW (os ++ List.replicate (A.length - os.length) 0) 62)])
    (fun (os, c) => A.length - os.length) ([], 0) ⟨by simp, WOk.nil, by omega, by omega, by simp [val, BB]⟩ ?_ ?_
  · refine Ent.of [] ?_ ?_ rfl rfl
    repeat' (first | exact True.intro |refine ⟨⟨AV.Le.refl _, rfl⟩, ?_⟩ |refine ⟨⟨AV.Le.any _, rfl⟩, ?_⟩ |refine ⟨⟨⟨_, rfl, BLe.cells (LeL.refl _)⟩, rfl⟩, ?_⟩ |refine ⟨⟨⟨_, rfl, BLe.row rfl⟩, rfl⟩, ?_⟩ |refine ⟨⟨⟨_, rfl, BLe.row ?_⟩, rfl⟩, ?_⟩ |refine ⟨⟨⟨_, rfl, BLe.cells ?_⟩, rfl⟩, ?_⟩ |refine ⟨⟨AV.Le.int ?_, rfl⟩, ?_⟩ |refine ⟨⟨AV.Le.bool ?_, rfl⟩, ?_⟩ |refine ⟨⟨AV.Le.sl ?_, rfl⟩, ?_⟩ |refine ⟨⟨AV.Le.of_eq ?_, rfl⟩, ?_⟩ | fail)
  · intro ⟨os, c⟩ ⟨h0, h1, h2, h3, h4⟩
    have hl : (os ++ List.replicate (A.length - os.length) 0).length = A.length := by simp; omega
    repeat' (first |refine Fl.v rfl rfl rfl ?_ |refine Fl.nilF ?_ |refine AWP.seq ?_ |refine AWP.region ?_ |refine Fl.w rfl rfl rfl (by first | exact True.intro | omega) ?_ |(refine AWP.condD rfl ?_ ?_ <;> intro _ <;> try (exfalso; omega)) |refine AWP.block ?_ |refine AWP.skip ?_ |refine AWP.exit ?_ |refine AWP.ret ?_ |(refine Fl.elW rfl rfl rfl rfl rfl rfl rfl rfl (by omega) (by omega) (by assumption) ?_; intro _ _ _ _) |refine Fl.rel rfl rfl rfl rfl rfl rfl rfl rfl (by omega) (by first | omega | (simp; omega)) ?_ |refine Fl.rst rfl rfl rfl rfl rfl rfl rfl rfl rfl rfl rfl (LeL.refl _) rfl (by first | omega | (simp; omega)) ?_ |refine Fl.sumM rfl rfl rfl rfl rfl rfl ?_ |fail)
    · rename_i hi u hu hu0 hu1 hiB v hv hv0 hv1
      rw [Int.toNat_natCast] at hu hv
      have hstep := minus_step (p := (u + 4294967296 - c - v) % 4294967296) (q := 1 - (u + 4294967296 - c - v) / 4294967296) hu (val_take_succ hv) h4 (by omega)
      refine LoopEnd.of (os ++ [(u + 4294967296 - c - v) % 4294967296], 1 - (u + 4294967296 - c - v) / 4294967296) ⟨by simp; omega, h1.append (WOk.cons (by omega) (by omega) WOk.nil), by omega, by omega, by rw [List.length_append]; exact hstep⟩ (by simp only [List.length_append, List.length_cons, List.length_nil]; omega) ?_
      refine Ent.of [] ?_ ?_ rfl rfl
      repeat' (first | exact True.intro |refine ⟨⟨AV.Le.refl _, rfl⟩, ?_⟩ |refine ⟨⟨AV.Le.any _, rfl⟩, ?_⟩ |refine ⟨⟨⟨_, rfl, BLe.cells (LeL.refl _)⟩, rfl⟩, ?_⟩ |refine ⟨⟨⟨_, rfl, BLe.row rfl⟩, rfl⟩, ?_⟩ |refine ⟨⟨⟨_, rfl, BLe.row ?_⟩, rfl⟩, ?_⟩ |refine ⟨⟨⟨_, rfl, BLe.cells ?_⟩, rfl⟩, ?_⟩ |refine ⟨⟨AV.Le.int ?_, rfl⟩, ?_⟩ |refine ⟨⟨AV.Le.bool ?_, rfl⟩, ?_⟩ |refine ⟨⟨AV.Le.sl ?_, rfl⟩, ?_⟩ |refine ⟨⟨AV.Le.of_eq ?_, rfl⟩, ?_⟩ | fail)
      all_goals first
        | exact set_rep (by simp) (by simp; omega) (by rw [bitN_and32 (by omega)]; omega)
        | (rw [p32]; omega)
        | (simp; done)
    · rename_i hi u hu hu0 hu1 hiB
      rw [Int.toNat_natCast] at hu
      have hstep := minus_step (p := (u + 4294967296 - c - 0) % 4294967296) (q := 1 - (u + 4294967296 - c - 0) / 4294967296) hu (val_take_end (by omega)) h4 (by omega)
      refine LoopEnd.of (os ++ [(u + 4294967296 - c - 0) % 4294967296], 1 - (u + 4294967296 - c - 0) / 4294967296) ⟨by simp; omega, h1.append (WOk.cons (by omega) (by omega) WOk.nil), by omega, by omega, by rw [List.length_append]; exact hstep⟩ (by simp only [List.length_append, List.length_cons, List.length_nil]; omega) ?_
      refine Ent.of [] ?_ ?_ rfl rfl
      repeat' (first | exact True.intro |refine ⟨⟨AV.Le.refl _, rfl⟩, ?_⟩ |refine ⟨⟨AV.Le.any _, rfl⟩, ?_⟩ |refine ⟨⟨⟨_, rfl, BLe.cells (LeL.refl _)⟩, rfl⟩, ?_⟩ |refine ⟨⟨⟨_, rfl, BLe.row rfl⟩, rfl⟩, ?_⟩ |refine ⟨⟨⟨_, rfl, BLe.row ?_⟩, rfl⟩, ?_⟩ |refine ⟨⟨⟨_, rfl, BLe.cells ?_⟩, rfl⟩, ?_⟩ |refine ⟨⟨AV.Le.int ?_, rfl⟩, ?_⟩ |refine ⟨⟨AV.Le.bool ?_, rfl⟩, ?_⟩ |refine ⟨⟨AV.Le.sl ?_, rfl⟩, ?_⟩ |refine ⟨⟨AV.Le.of_eq ?_, rfl⟩, ?_⟩ | fail)
      all_goals first
        | exact set_rep (by simp) (by simp; omega) (by rw [bitN_and32 (by omega)]; omega)
        | (rw [p32]; omega)
        | (simp; done)
    · rename_i hi
      have hlen : os.length = A.length := by omega
      rw [hlen, List.take_of_length_le (by omega), List.take_of_length_le (by omega)] at h4
      refine RetOk.ent (Ent.freeze 11 rfl) ?_
      refine RetOk.of rfl (AV.Le.sl ?_)
      have b7 := val_lt h1
      rw [hlen] at b7
      have hc : c = 0 := by
        have : c = 0 ∨ c = 1 := by omega
        rcases this with h | h
        · exact h
        · subst h; omega
      subst hc
      rw [hlen, Nat.sub_self, List.replicate_zero, List.append_nil, padW_of h1, hlen]
      congr 1
      omega
theorem rAdd_ok (x y : Int) (hxl : (toW x.natAbs).length ≤ 40000) (hyl : (toW y.natAbs).length ≤ 40000) : PureFn Tryz.prog 44 [aX x, aX y] (aX (x + y)) := by
  refine PureFn.of_body Tryz.func44 rfl Tryz.ntmps44 rfl rfl ?_
  have wx := toW_ok x.natAbs
  have wy := toW_ok y.natAbs
  have hsx := val_toW (show 0 ≤ (x.natAbs : Int) by omega)
  have hsy := val_toW (show 0 ≤ (y.natAbs : Int) by omega)
  have bx := val_lt wx
  have by' := val_lt wy
  have hord := rorder_ok x.natAbs y.natAbs (by omega) (by omega) (by omega) (by omega)
  have hlen : ∀ a b : Int, 0 ≤ b → b ≤ a → (toW b).length ≤ (toW a).length := fun a b hb h => by
    rcases Nat.lt_or_ge (toW a).length (toW b).length with k | k
    · have := toW_len_lt (by omega) hb k; omega
    · exact k
  repeat' (first |refine Fl.v rfl rfl rfl ?_ |refine Fl.nilF ?_ |refine AWP.seq ?_ |refine AWP.region ?_ |refine Fl.b rfl rfl rfl rfl ?_ |(refine AWP.condD rfl ?_ ?_ <;> intro _ <;> try (exfalso; omega)) |refine AWP.skip ?_ |fail)
  · rename_i hsg
    rw [decide_eq_decide] at hsg
    obtain ⟨N, hN⟩ : ∃ N : Nat, N = (if (toW y.natAbs).length > (toW x.natAbs).length then (toW y.natAbs).length else (toW x.natAbs).length) + 1 := ⟨_, rfl⟩
    refine Fl.call rfl (rplus_ok _ _ wx wy (by omega) (by omega) N hN) rfl rfl rfl (LeL.refl _) ?_
    skip
    refine Fl.call rfl (rMake_ok (decide (x < 0)) _ (padW_ok _ _) (by rw [padW_len]; split at hN <;> omega)) rfl rfl rfl (LeL.refl _) ?_
    repeat' (first |refine Fl.nil (fun _ => by kernel_rfl) ?_ |refine Fl.b rfl rfl rfl rfl ?_ |refine AWP.ret ?_ |fail)
    refine RetOk.of rfl (AV.Le.agg (leX (σ := []) ?_))
    have b3 := BB_le (show (toW x.natAbs).length ≤ N - 1 by split at hN <;> omega)
    have b4 := BB_le (show (toW y.natAbs).length ≤ N - 1 by split at hN <;> omega)
    have b5 : BB N = 4294967296 * BB (N - 1) := by rw [← BB_succ]; congr 1; omega
    have b6 := BB_pos (N - 1)
    rw [padW_val (by omega) (by omega), hsx, hsy]
    simp only [sg]; simp; split <;> omega
  · rename_i hsg
    rw [decide_eq_decide] at hsg
    refine Fl.call rfl (hord) rfl rfl rfl (LeL.refl _) ?_
    repeat' (first |refine Fl.v rfl rfl rfl ?_ |refine Fl.nilF ?_ |refine AWP.seq ?_ |refine AWP.region ?_ |(refine AWP.condD rfl ?_ ?_ <;> intro _ <;> try (exfalso; omega)) |refine AWP.skip ?_ |fail)
    · rename_i hge
      have hge2 : (y.natAbs : Int) ≤ x.natAbs := by unfold cmpI at hge; split at hge <;> omega
      refine Fl.call rfl (rminus_ok _ _ wx wy (by omega) (hlen _ _ (by omega) hge2) (by omega)) rfl rfl rfl (LeL.refl _) ?_
      skip
      refine Fl.call rfl (rMake_ok (decide (x < 0)) _ (padW_ok _ _) (by rw [padW_len]; omega)) rfl rfl rfl (LeL.refl _) ?_
      repeat' (first |refine Fl.nil (fun _ => by kernel_rfl) ?_ |refine Fl.b rfl rfl rfl rfl ?_ |refine AWP.ret ?_ |fail)
      refine RetOk.of rfl (AV.Le.agg (leX (σ := []) ?_))
      rw [padW_val (by omega) (by omega), hsx, hsy]
      simp only [sg]; simp; split <;> omega
    · rename_i hge
      have hge2 : (x.natAbs : Int) ≤ y.natAbs := by
        unfold cmpI at hge
        split at hge
        · omega
        · split at hge <;> omega
      refine Fl.call rfl (rminus_ok _ _ wy wx (by omega) (hlen _ _ (by omega) hge2) (by omega)) rfl rfl rfl (LeL.refl _) ?_
      skip
      refine Fl.call rfl (rMake_ok (decide (y < 0)) _ (padW_ok _ _) (by rw [padW_len]; omega)) rfl rfl rfl (LeL.refl _) ?_
      repeat' (first |refine Fl.nil (fun _ => by kernel_rfl) ?_ |refine Fl.b rfl rfl rfl rfl ?_ |refine AWP.ret ?_ |fail)
      refine RetOk.of rfl (AV.Le.agg (leX (σ := []) ?_))
      rw [padW_val (by omega) (by omega), hsx, hsy]
      simp only [sg]; simp; split <;> omega
end Go.Proofs.YtcaecieigoplbaaGreat
namespace Go.AL
/-- how many words a number has -/
def lenI (x : Int) : Nat := (toW x.natAbs).length
def AS (X : List Int) (l : List TZ) : Int := sumL (l.map fun t => ((tv X t).natAbs : Int))
end Go.AL
namespace Go.Proofs.YtcaecieigoplbaaGreat
open Go.AL

end Go.Proofs.YtcaecieigoplbaaGreat
namespace Go.AL
end Go.AL
namespace Go.Proofs.YtcaecieigoplbaaGreat
open Go.AL

end Go.Proofs.YtcaecieigoplbaaGreat
namespace Go.AL
theorem Fit.lenI {x : Int} (h : Fit x) : lenI x ≤ 4096 := h.len
end Go.AL
namespace Go.Proofs.YtcaecieigoplbaaGreat
open Go.AL

end Go.Proofs.YtcaecieigoplbaaGreat
namespace Go.AL
/-- terms that can be brought together -/
structure TermsOk (n : Nat) (M : Nat) (l : List TZ) : Prop where
  w : ∀ t ∈ l, WT t
  c : ∀ t ∈ l, t.c = zOf (zval t.c)
  e : ∀ t ∈ l, EOk t.e ∧ t.e.length = n
  m : ∀ t ∈ l, lenI (zval t.c) ≤ M
end Go.AL
namespace Go.Proofs.YtcaecieigoplbaaGreat
open Go.AL

end Go.Proofs.YtcaecieigoplbaaGreat
namespace Go.AL
theorem zval_zOf (x : Int) : zval (zOf x) = x := by
  unfold zval zOf
  simp only
  rw [val_toW (by omega)]
  simp only [sg]
  split
  · rename_i h; simp at h; omega
  · rename_i h; simp at h; omega
theorem EOk.zeros (n : Nat) : EOk (List.replicate n 0) := fun e he => by rw [List.eq_of_mem_replicate he]; omega
theorem TermsOk.one {n M : Nat} {x : Int} {e : List Int} (h1 : lenI x ≤ M) (h2 : EOk e) (h3 : e.length = n) : TermsOk n M [⟨zOf x, e⟩] := by
  refine ⟨?_, ?_, ?_, ?_⟩ <;> (intro t ht; simp only [List.mem_singleton] at ht; subst ht)
  · exact toW_ok _
  · rw [zval_zOf]
  · exact ⟨h2, h3⟩
  · rw [zval_zOf]; exact h1
theorem TermsOk.nil (n M : Nat) : TermsOk n M [] := by constructor <;> (intro t h; cases h)
theorem toW_len0 (x : Int) : (toW x.natAbs).length = 0 ↔ x = 0 := by
  have := toW_nil_iff (z := x.natAbs) (by omega)
  rw [List.length_eq_zero_iff, this]; omega
end Go.AL
namespace Go.Proofs.YtcaecieigoplbaaGreat
open Go.AL

end Go.Proofs.YtcaecieigoplbaaGreat
namespace Go.AL
theorem EOk.set {l : List Int} (h : EOk l) (i : Nat) {v : Int} (h0 : 0 ≤ v) (h1 : v ≤ 120) : EOk (l.set i v) := fun e he => by
  rcases List.mem_or_eq_of_mem_set he with k | k
  · exact h e k
  · subst k; exact ⟨h0, h1⟩
theorem OkP.one {n : Nat} {x : Int} {e : List Int} (hn : n ≤ 32) (hx : Fit x) (h0 : x ≠ 0) (he : EOk e) (hl : e.length = n) (hd : sumL e ≤ 120) : OkP ⟨n, [⟨zOf x, e⟩]⟩ := by
  refine ⟨by simp, by simp only; omega, by simp, fun t ht => ?_, fun i a b h1 h2 => by simp at h2⟩
  simp only [List.mem_singleton] at ht
  subst ht
  exact ⟨okZ_zOf hx, fun h => h0 ((toW_len0 x).1 h), by simp only; omega, he, hd⟩
theorem WP.one {n : Int} {x : Int} {e : List Int} : WP ⟨n, [⟨zOf x, e⟩]⟩ := fun t ht => by
  simp only [List.mem_singleton] at ht; subst ht; exact toW_ok _
end Go.AL
namespace Go.Proofs.YtcaecieigoplbaaGreat
open Go.AL

end Go.Proofs.YtcaecieigoplbaaGreat
/- From what a claim's arguments read as to abstract values over the memory as it stands. -/
namespace Go.AL
/-- all cells of a world -/
def hpOf (w : World) : Hp := fun b => match w.heap[b]? with | some (.cells cs _ _) => some cs | _ => none
theorem hpOf_has (w : World) : Has w (hpOf w) := fun b cs h => by
  unfold hpOf at h
  split at h
  · rename_i cs' t fr hb
    injection h with h; subst h
    exact ⟨t, fr, hb⟩
  · cases h
section
variable {H : Type} {enc : TypeId × Value → H} {P : Program} {w : World} {base : Nat} {spare : Nat → Bool} {held : Bool}
theorem trodInt {t : TypeId} {k : IntKind} {fuel : Nat} {cs : List Value} {x : DataW H × List MemPlace} (ht : P.underlying t = some (.int k)) (h : DataW.trod enc P w base spare held fuel t cs = some x) : ∃ n, cs = [.int k n] ∧ (Lit.int k n).wf = true := by
  cases fuel with
  | zero => simp [DataW.trod] at h
  | succ fuel =>
    simp only [DataW.trod, ht] at h
    split at h <;> simp_all
end
end Go.AL
namespace Go.AL
end Go.AL
namespace Go.Proofs.YtcaecieigoplbaaGreat
open Go.AL Go.ChangeShapes Go.WideShapes Go.ChangeAt Go.RowKit

section
variable {H : Type} {enc : TypeId × Value → H} {w : World} {base : Nat} {spare : Nat → Bool} {held : Bool}
theorem wfI64 {n : Int} (h : (Lit.int .i64 n).wf = true) : -9223372036854775808 ≤ n ∧ n ≤ 9223372036854775807 := by
  simp [Lit.wf] at h
  have h1 : IntKind.i64.min = -9223372036854775808 := rfl
  have h2 : IntKind.i64.max = 9223372036854775807 := rfl
  omega
end
theorem below_of {W W' : World} {h h' : Hp} (e : Evo never W h W' h') : Below W.heap.size W W' := ⟨e.os, e.tape, e.output.1, e.size, fun k hk => e.block k hk (fun x => x)⟩
theorem own : ownKnob Tryz.prog.godebug = none := by kernel_rfl
theorem lb : laidOutB Tryz.prog = true := by kernel_rfl
end Go.Proofs.YtcaecieigoplbaaGreat
/- Arguments that are lists of numbers. -/
namespace Go.Proofs.YtcaecieigoplbaaGreat
open Go.AL Go.ChangeShapes Go.WideShapes Go.ChangeAt Go.RowKit
section
variable {H : Type} {enc : TypeId × Value → H} {w : World} {base : Nat} {spare : Nat → Bool} {held : Bool}
end
end Go.Proofs.YtcaecieigoplbaaGreat
/- Code in a round of a range over a function: over abstract states. -/
namespace Go.AL
abbrev Rf (l : Nat) : Fence := Fence.wide.inRound l
/-- no operation of a region defers -/
def noDefer (ops : Array Oper) : Bool := ops.toList.all fun o => match o.op with | .defer _ => false | _ => true
theorem noDefer_ok {ops : Array Oper} (h : noDefer ops = true) {i : Nat} {o : Oper} (ho : ops[i]? = some o) : ∀ c, o.op ≠ .defer c := by
  intro c hc
  have hm : o ∈ ops.toList := by
    have : ops.toList[i]? = some o := by simpa using ho
    exact List.mem_of_getElem? this
  have := List.all_eq_true.1 h o hm
  rw [hc] at this
  cases this
section
variable {P : Program} {n : Nat} {l : Nat}
theorem opIn {o : Oper} {a : Act} {w : World} {next next' : Act → World → Prop} {Q : Exit → Act → World → Prop} (hnd : ∀ c, o.op ≠ .defer c) (hn : ∀ a w, next a w → next' a w) (h : o.wp P a w next Q) : o.wpIn (Rf l) 0 P a w next' Q := by
  refine ⟨fun _ _ => trivial, ?_⟩
  show o.uponIn (Rf l) 0 P a next' Q ((o.semAt (some l) a.eval).run P w)
  rw [Oper.semAt_eq _ _ _ hnd]
  unfold Oper.wp at h
  cases hr : (execOp a.eval o).run P w with
  | ok r w' =>
    rw [hr] at h
    cases r with
    | value v => exact hn _ _ h
    | skip => exact hn _ _ h
    | defer d => exact hn _ _ h
    | enter f args =>
      refine ⟨fun hd => (by cases hd), ?_⟩
      refine CallsIn.inRound l (callsIn_wide.2 (Calls.mono h fun e w'' hh => ?_))
      cases e with
      | returned v => exact hn _ _ hh
      | panicked ch => exact hh
      | outgrown => exact hh
    | row row args =>
      refine ⟨fun hd => (by cases hd), ?_⟩
      exact fun c cs _ => let ⟨v, w'', r, st⟩ := h c cs; ⟨v, w'', hn _ _ r, stepsIn_wide.2 st⟩
    | _ => exact h.elim
  | halt r w' =>
    rw [hr] at h
    cases r with
    | panic v => exact h
    | _ => exact h.elim
theorem wpOps_in {ops : Array Oper} {Q : Exit → Act → World → Prop} (hnd : noDefer ops = true) (hQ : ¬ LetsOut Q) : ∀ (is : List Nat) (a : Act) (w : World), wpOps P ops Q is a w → wpOpsIn (Rf l) 0 P ops Q is a w
  | [], a, w, h => h
  | i :: is, a, w, h => by
    unfold wpOps at h
    unfold wpOpsIn
    cases ho : ops[i]? with
    | none => rw [ho] at h; exact wpOps_in hnd hQ is a w h
    | some o =>
      rw [ho] at h
      dsimp only at h ⊢
      split
      · rename_i hw
        rw [if_pos hw] at h
        rcases h with h | ⟨_, h⟩
        · exact opIn (noDefer_ok hnd ho) (fun a w => wpOps_in hnd hQ is a w) h
        · exact absurd h hQ
      · rename_i hw
        rw [if_neg hw] at h
        exact ⟨fun _ _ => trivial, wpOps_in hnd hQ is _ w h⟩
end
end Go.AL
/- Code in a round, over abstract states; code that leaves marks of loops behind. -/
namespace Go.AL
/-- the blocks of a state's boxes -/
def ownM (s : St) (β : Bt) : Nat → Prop := fun g => ∃ id B, s.bx id = some B ∧ blk (β id) = some g
section
variable {P : Program} {tab : Tab} {n : Nat} {I : List Id} {Q : Exit → St → Prop} {s s' : St} {C : Cx} {a a' : Act} {w w' : World} {h h' : Hp} {β β' : Bt}
theorem Base.reroot (k : Base C n s a w h β) (d : List Deferred) {β0 : Bt} (hb : β0.le β) : Base ⟨w, h, β0, ownM s β, d⟩ n s { a with defers := d } w h β :=
  ⟨Evo.refl _ k.evo.has, hb, k.slot, k.box, k.apart, fun id B _ h1 h2 => .inl ⟨id, B, h1, h2⟩, k.dom, k.size, rfl⟩
theorem Base.unroot (k : Base C n s a w h β) {d : List Deferred} {β0 : Bt} (h0 : C.β0.le β0) (r : Base ⟨w, h, β0, ownM s β, d⟩ n s' a' w' h' β') : Base { C with dfr := d } n s' a' w' h' β' := by
  have hown : ∀ g, ownM s β g → C.M g ∨ C.w0.heap.size ≤ g := fun g ⟨id, B, h1, h2⟩ => k.own id B g h1 h2
  refine ⟨k.evo.trans r.evo hown, Bt.le.trans h0 r.b0, r.slot, r.box, r.apart, fun id B g h1 h2 => ?_, r.dom, r.size, r.defers⟩
  rcases r.own id B g h1 h2 with hg | hg
  · exact hown g hg
  · exact .inr (Nat.le_trans k.evo.size hg)
/-- a block of a box holds no mark, no loop's record -/
theorem BoxAt.obj {id : Id} {B : Bx} (k : BoxAt w h β id B) {g : Nat} (hg : blk (β id) = some g) : (∀ ds, w.heap[g]? ≠ some (.deferred ds)) ∧ (∀ r, w.heap[g]? ≠ some (.loop r)) := by
  cases B with
  | cells cs t =>
    obtain ⟨g', us, e1, e2, _⟩ := k
    rw [e1] at hg; simp only [blk] at hg; injection hg with hg; subst hg
    rw [e2]; exact ⟨fun _ h => (by cases h), fun _ h => (by cases h)⟩
  | row sz enc xs t =>
    obtain ⟨v, vals, e1, ⟨_, e2 | ⟨g', cap, cur, e2, _, e3, _⟩⟩, _⟩ := k
    · rw [e1, e2.1] at hg; simp [blk] at hg
    · rw [e1, e2] at hg; simp only [blk] at hg; injection hg with hg; subst hg
      rw [e3]; exact ⟨fun _ h => (by cases h), fun _ h => (by cases h)⟩
  | map ek av xs clock =>
    obtain ⟨g', es, e1, e2, _⟩ := k
    rw [e1] at hg; simp only [blk] at hg; injection hg with hg; subst hg
    rw [e2]; exact ⟨fun _ h => (by cases h), fun _ h => (by cases h)⟩
  | iter m since seen last =>
    obtain ⟨r, g', e1, _, e2, _⟩ := k
    rw [e1] at hg; simp only [blk] at hg; injection hg with hg; subst hg
    rw [e2]; exact ⟨fun _ h => (by cases h), fun _ h => (by cases h)⟩
theorem Base.not_own (k : Base C n s a w h β) {D : Nat} (hD : (∃ ds, w.heap[D]? = some (.deferred ds)) ∨ (∃ r, w.heap[D]? = some (.loop r))) : ¬ ownM s β D := by
  rintro ⟨id, B, h1, h2⟩
  obtain ⟨h3, h4⟩ := (k.box id B h1).obj h2
  rcases hD with ⟨ds, hd⟩ | ⟨r, hd⟩
  · exact h3 _ hd
  · exact h4 _ hd
/-! ### In a round -/
structure RWP (P : Program) (n : Nat) (I : List Id) (l : Nat) (c : Code) (Q : Exit → St → Prop) (s : St) : Prop where
  out : ∀ (C : Cx) (a : Act) (w : World) (h : Hp) (β : Bt), IniOk C I → Base C n s a w h β → c.wpIn (Rf l) 0 P (fun e a' w' => ∃ s' h' β', Base C n s' a' w' h' β' ∧ Q e s') a w
variable {l : Nat}
theorem RWP.ent {c : Code} (he : Ent n I s s') (k : RWP P n I l c Q s') : RWP P n I l c Q s :=
  ⟨fun C a w hp β hi b => let ⟨h', β', b'⟩ := he C a w hp β hi b; k.out C a w h' β' hi b'⟩
theorem RWP.seq {c d : Code} (k : RWP P n I l c (AThen (fun s => RWP P n I l d Q s) Q) s) : RWP P n I l (.seq c d) Q s :=
  ⟨fun C a w hp β hi b => wpIn_seq (wpIn_mono (k.out C a w hp β hi b) fun e a w ⟨s', h', β', b, q⟩ => by
    cases e with
    | normal => exact q.out C a w h' β' hi b
    | _ => exact ⟨s', h', β', b, q⟩)⟩
theorem RWP.skip (k : Q .normal s) : RWP P n I l .skip Q s := ⟨fun _ _ _ hp β _ b => wpIn_skip ⟨s, hp, β, b, k⟩⟩
theorem RWP.ret (k : Q .ret s) : RWP P n I l .ret Q s := ⟨fun _ _ _ hp β _ b => wpIn_ret ⟨s, hp, β, b, k⟩⟩
theorem RWP.exit {id : Nat} (k : Q (.exit id) s) : RWP P n I l (.exit id) Q s := ⟨fun _ _ _ hp β _ b => wpIn_exit ⟨s, hp, β, b, k⟩⟩
theorem RWP.block {id : Nat} {c : Code} (k : RWP P n I l c (AIn id Q) s) : RWP P n I l (.block id c) Q s :=
  ⟨fun C a w hp β hi b => wpIn_block (wpIn_mono (k.out C a w hp β hi b) fun e a w ⟨s', h', β', b, q⟩ => by
    cases e with
    | exit id' =>
      simp only [Exit.inBlock]
      by_cases he : id' = id
      · subst he
        rw [if_pos rfl]
        simp only [AIn, Nat.beq_refl] at q
        exact ⟨s', h', β', b, q⟩
      · rw [if_neg he]
        simp only [AIn, beq_ne he] at q
        exact ⟨s', h', β', b, q⟩
    | _ => exact ⟨s', h', β', b, q⟩)⟩
theorem RWP.condD {c : Operand} {x y : Code} {p : Prop} [Decidable p] (hc : opd s c = .v (.bool (decide p))) (ht : p → RWP P n I l x Q s) (hf : ¬ p → RWP P n I l y Q s) : RWP P n I l (.cond c x y) Q s :=
  ⟨fun C a w hp β hi b => wpIn_cond_split (eval_bool b hc) (fun e => (ht (of_decide_eq_true e)).out C a w hp β hi b) (fun e => (hf (of_decide_eq_false e)).out C a w hp β hi b)⟩
theorem RWP.region [f : Facts P tab] {id : Nat} {ops : Array Oper} {draw : Bool} {K : St → Prop} (hnd : noDefer ops = true) (hQ : ∀ s, K s → Q .normal s) (k : Fl P n ops ⟨draw, []⟩ ops.toList s [] (fun e s => e = .normal ∧ K s)) : RWP P n I l (.region id ops draw) Q s := by
  have hno : ∀ (l : List Oper) (Es : List Eff) (i : Nat) (s : St), appAll (fun i => (Array.replicate ops.size false).getD i false) i l Es s = s := by
    intro l Es i s
    refine appAll_none _ l Es i s fun k _ => ?_
    by_cases hk : k < ops.size <;> simp [Array.getD_eq_getD_getElem?, hk]
  have hclo : Closed ops (fun i => (Array.replicate ops.size false).getD i false) := by
    intro j o hj hd
    have : j < ops.size := (Array.getElem?_eq_some_iff.1 hj).1
    simp [Array.getD_eq_getD_getElem?, this] at hd
  have hcnt : cnt ops.size (fun i => (Array.replicate ops.size false).getD i false) ≤ ops.size := by
    have : ∀ (m : Nat) (D : Nat → Bool), cnt m D ≤ m := by
      intro m D
      induction m with
      | zero => simp [cnt]
      | succ m ih => simp only [cnt]; cases D m <;> simp <;> omega
    exact this _ _
  rcases k.out with ⟨Es, s', hch, hck, _, hK⟩ | ⟨l1, o, l2, Es, s', E, chain, hl, hch, hg, hthr, hck, hQt, hQf⟩
  · refine ⟨fun C a w hp β hi b => ?_⟩
    have hlo : ¬ LetsOut (fun (e : Exit) (a' : Act) (w' : World) => e = .normal ∧ ∃ h' β', Base C n s' a' w' h' β') := fun ⟨_, _, e, _⟩ => by cases e
    have fin : ∀ (e : Exit) (a' : Act) (w' : World), (e = .normal ∧ ∃ h' β', Base C n s' a' w' h' β') → ∃ s' h' β', Base C n s' a' w' h' β' ∧ Q e s' := fun e a' w' ⟨he, h', β', b'⟩ => ⟨s', h', β', b', by rw [he]; exact hQ _ hK⟩
    cases draw with
    | false =>
      refine wpIn_mono (wpIn_region (wpOps_in hnd hlo _ _ _ ?_)) fin
      have := wp_seq_ops (C := C) (Q := fun (e : Exit) (a' : Act) (w' : World) => e = .normal ∧ ∃ h' β', Base C n s' a' w' h' β') hch [] (InvJ.nil _) (List.range ops.size) a w hp β (by simp) (fun j i o h1 h2 => ?_) b (fun a w h β _ b => ⟨rfl, h, β, b⟩)
      · rwa [List.append_nil] at this
      · have hji : j = i ∧ j < ops.size := by
          rw [List.getElem?_range] at h1
          · injection h1 with h1; exact ⟨h1, by
              have := (List.getElem?_eq_some_iff.1 h2).1
              simpa using this⟩
          · have := (List.getElem?_eq_some_iff.1 h2).1
            simpa using this
        rw [← hji.1]; simpa using h2
    | true =>
      refine wpIn_mono (wpIn_region_draw fun t => wpOps_in hnd hlo _ _ _ ?_) fin
      simp only [Region.schedule, f.mixed, Bool.true_or, if_true]
      refine wpAny_sound ops.size t _ a _ (any_sound (C := C) (s' := s') (InvJ.nil _) hch (by simpa using hck rfl) (fun a w h β b => ⟨rfl, h, β, b⟩) ops.size _ a _ hp β (by simp) hclo hcnt ?_)
      rw [hno]
      exact b.drew
  · cases draw with
    | false => exact absurd (hQf rfl).1 (by simp)
    | true => exact absurd (hQt rfl s).1 (by simp)
end
end Go.AL
/- Functions whose loops leave marks behind. -/
namespace Go.AL
section
variable {P : Program} {tab : Tab} {n : Nat} {I : List Id} {Q : Exit → St → Prop} {s s' : St} {C : Cx} {a a' : Act} {w w' : World} {h h' : Hp} {β β' : Bt}
theorem Base.stepN (k : Base C n s a w h β) {N : Nat → Prop} (e : Evo N w h w' h') (hN : ∀ g, N g → C.M g ∨ C.w0.heap.size ≤ g) (hd : ∀ g, N g → ¬ ownM s β g) : Base C n s a w' h' β := by
  refine ⟨k.evo.trans e hN, k.b0, fun i => (k.slot i).mono e.le (Bt.le.refl β), fun id B hb => ?_, k.apart, k.own, k.dom, k.size, k.defers⟩
  refine (k.box id B hb).keep e.le (Bt.le.refl β) fun g hg => ?_
  obtain ⟨h1, h2⟩ := k.blk_lt hb hg
  have hng : ¬ N g := fun hn => hd g hn ⟨id, B, hb, hg⟩
  refine ⟨e.block g h1 hng, ?_⟩
  cases hh : h' g with
  | none => rfl
  | some cs =>
    exfalso
    rcases e.fresh g (by rw [hh]; simp) with h3 | h3 | h3
    · exact h3 h2
    · omega
    · exact hng h3
theorem evo_mark {D : Nat} {o o' : Obj} (hw : Has w h) (hD : w.heap[D]? = some o) (ho : ∀ us t f, o ≠ .cells us t f) : Evo (fun g => g = D) w h (w.putObj D o') h := by
  have hlt : D < w.heap.size := (Array.getElem?_eq_some_iff.1 hD).1
  have hn : h D = none := by
    cases hh : h D with
    | none => rfl
    | some cs =>
      obtain ⟨t, f, h1⟩ := hw D cs hh
      rw [hD] at h1
      injection h1 with h1
      exact absurd h1 (ho _ _ _)
  refine ⟨rfl, rfl, ⟨rfl, Nat.le_refl _⟩, by simp, fun i _ hi => World.putObj_heap_other hi, Hp.le.refl h, fun _ hb => .inl hb, fun b cs hb => ?_⟩
  obtain ⟨t, f, h1⟩ := hw b cs hb
  have hne : b ≠ D := fun e => by rw [e, hn] at hb; cases hb
  exact ⟨t, f, by rw [World.putObj_heap_other hne]; exact h1⟩
abbrev coll (D : Nat) : Deferred := { target := .collected D, args := #[] }
def MarksOk (w0 w : World) (ds : List Nat) : Prop := ds.Nodup ∧ ∀ D ∈ ds, w.heap[D]? = some (.deferred (some [])) ∧ w0.heap.size ≤ D
structure FWP (P : Program) (n : Nat) (I : List Id) (c : Code) (Q : Exit → St → Prop) (s : St) : Prop where
  out : ∀ (C : Cx) (a : Act) (w : World) (h : Hp) (β : Bt) (ds : List Nat), IniOk C I → Base { C with dfr := ds.map coll } n s a w h β → MarksOk C.w0 w ds →
    c.wp P (fun e a' w' => ∃ s' h' β' ds', Base { C with dfr := ds'.map coll } n s' a' w' h' β' ∧ MarksOk C.w0 w' ds' ∧ Q e s') a w
theorem FWP.lift {c : Code} (k : AWP P n I c Q s) : FWP P n I c Q s := ⟨fun C a w h β ds hi b hm => by
  have hr := b.reroot (ds.map coll) b.b0
  have ha : { a with defers := ds.map coll } = a := by cases a; simp only [Act.mk.injEq, true_and]; exact b.defers.symm
  rw [ha] at hr
  refine wp_mono (k.out ⟨w, h, C.β0, ownM s β, ds.map coll⟩ a w h β hi hr) fun e a' w' ⟨s', h', β', r, q⟩ => ?_
  have hu := b.unroot (β0 := C.β0) (Bt.le.refl _) r
  refine ⟨s', h', β', ds, hu, ⟨hm.1, fun D hD => ?_⟩, q⟩
  obtain ⟨h1, h2⟩ := hm.2 D hD
  exact ⟨by rw [r.evo.block D (Array.getElem?_eq_some_iff.1 h1).1 (b.not_own (.inl ⟨_, h1⟩))]; exact h1, h2⟩⟩
theorem FWP.ent {c : Code} (he : Ent n I s s') (k : FWP P n I c Q s') : FWP P n I c Q s :=
  ⟨fun C a w h β ds hi b hm => let ⟨h', β', b'⟩ := he { C with dfr := ds.map coll } a w h β hi b; k.out C a w h' β' ds hi b' hm⟩
theorem FWP.seq {c d : Code} (k : FWP P n I c (AThen (fun s => FWP P n I d Q s) Q) s) : FWP P n I (.seq c d) Q s :=
  ⟨fun C a w h β ds hi b hm => wp_seq (wp_mono (k.out C a w h β ds hi b hm) fun e a w ⟨s', h', β', ds', b, m, q⟩ => by
    cases e with
    | normal => exact q.out C a w h' β' ds' hi b m
    | _ => exact ⟨s', h', β', ds', b, m, q⟩)⟩
theorem FWP.block {id : Nat} {c : Code} (k : FWP P n I c (AIn id Q) s) : FWP P n I (.block id c) Q s :=
  ⟨fun C a w h β ds hi b hm => wp_block (wp_mono (k.out C a w h β ds hi b hm) fun e a w ⟨s', h', β', ds', b, m, q⟩ => by
    cases e with
    | exit id' =>
      simp only [Exit.inBlock]
      by_cases he : id' = id
      · subst he
        rw [if_pos rfl]
        simp only [AIn, Nat.beq_refl] at q
        exact ⟨s', h', β', ds', b, m, q⟩
      · rw [if_neg he]
        simp only [AIn, beq_ne he] at q
        exact ⟨s', h', β', ds', b, m, q⟩
    | _ => exact ⟨s', h', β', ds', b, m, q⟩)⟩
theorem leavesM {fn : Func} {R : Ending → World → Prop} {xs : List Deferred} : ∀ (ds : List Nat) (w : World) (h : Hp) (β : Bt), Base { C with dfr := xs } n s a w h β → MarksOk C.w0 w ds →
    (∀ w' h' β', Base { C with dfr := xs } n s a w' h' β' → ∃ v, (results fn a.tmps).run P w' = .ok v w' ∧ R (.returned v) w') → LeavesInM Fence.wide 0 P fn a.tmps R (ds.map coll) .returning w
  | [], w, h, β, b, _, fin => fin w h β b
  | D :: ds, w, h, β, b, m, fin => by
    obtain ⟨h1, h2⟩ := m.2 D (by simp)
    have hnd := List.nodup_cons.1 m.1
    have e := evo_mark (o' := .deferred none) b.evo.has h1 (fun _ _ _ e => by cases e)
    have b' := b.stepN e (fun g hg => .inr (by rw [hg]; exact h2)) (fun g hg => by rw [hg]; exact b.not_own (.inl ⟨_, h1⟩))
    refine ⟨by simp, .inl ⟨D, _, rfl, run_takeDeferred h1, leavesM ds _ h β b' ⟨hnd.2, fun D' hD' => ?_⟩ fin⟩⟩
    obtain ⟨k1, k2⟩ := m.2 D' (by simp [hD'])
    refine ⟨?_, k2⟩
    have hne : D' ≠ D := fun e => hnd.1 (by rw [← e]; exact hD')
    rw [World.putObj_heap_other hne]
    exact k1
/-- A contract, out of what the body does, whose loops leave marks behind. -/
theorem PureFn.of_bodyF [f : Facts P tab] {k : FuncId} {fn : Func} {c : Code} {args : List AV} {r : AV} (hf : P.funcs[k]? = some fn) (hb : fn.body = some c) (hn : fn.ntmps = n) (hname : (fn.name == "runtime.NumGoroutine") = false) (hl : Nat.ble args.length n = true)
    (hk : FWP P n [] c (RetQ n tab fn.results.toList r) (St.init args)) : PureFn P k args r := by
  have hl := Nat.le_of_ble_eq_true hl
  refine ⟨⟨fn, hf, hname, by rw [hb]; rfl⟩, fun w hp us hw hr => ?_⟩
  refine callsIn_wide.1 (callsIn_of_wp_marks (F := Fence.wide) (n := 0) hf hb trivial (wpIn_wide.2 ?_) rfl)
  have hus : us.size = args.length := by rw [← Array.length_toList]; exact hr.length
  have hbase : Base ⟨w, hp, noB, never, []⟩ n (St.init args) { tmps := us ++ Array.replicate (fn.ntmps - us.size) undef, defers := [] } w hp noB := by
    refine ⟨Evo.refl _ hw, Bt.le.refl _, fun i => ?_, fun id B hB => by simp [St.init] at hB, fun _ _ _ _ hB => by simp [St.init] at hB, fun _ _ _ hB => by simp [St.init] at hB, fun _ _ => rfl, by simp; omega, rfl⟩
    simp only [St.init]
    by_cases hi : i < us.size
    · have hget : (us ++ Array.replicate (fn.ntmps - us.size) undef).getD i undef = us[i] := by
        simp [Array.getD_eq_getD_getElem?, Array.getElem?_append, hi]
      rw [hget]
      have : ∀ (azs : List AV) (vs : List Value) (i : Nat) (v : Value), RepL hp noB azs vs → vs[i]? = some v → Rep hp noB (initE azs i) v := by
        intro azs
        induction azs with
        | nil => intro vs i v hr hv; simp only [RepL] at hr; subst hr; simp at hv
        | cons a azs ih =>
          intro vs i v hr hv
          simp only [RepL] at hr
          obtain ⟨u, r', rfl, h1, h2⟩ := hr
          cases i with
          | zero => simp at hv; subst hv; exact h1
          | succ i => exact ih r' i v h2 (by simpa using hv)
      exact this args us.toList i _ hr (by simp [hi])
    · have : ∀ (azs : List AV) (i : Nat), azs.length ≤ i → initE azs i = .any := by
        intro azs
        induction azs with
        | nil => intro i _; rfl
        | cons a azs ih => intro i hi; cases i with
          | zero => simp at hi
          | succ i => exact ih i (by simpa using hi)
      rw [this args i (by omega)]
      simp only [Rep]
  refine wp_mono (hk.out ⟨w, hp, noB, never, []⟩ _ w hp noB [] (fun id hid => (hid rfl).elim) hbase ⟨List.nodup_nil, by simp⟩) fun e a' w' ⟨s', h', β', ds, b, m, q⟩ => ?_
  have fin : RetOk n tab fn.results.toList r s' → LeavesInM Fence.wide 0 P fn a'.tmps (fun e w' => ∃ u h', e = .returned u ∧ Evo never w hp w' h' ∧ Rep h' noB r u) a'.defers .returning w' := by
    intro hq
    obtain ⟨s2, r', hent, h1, h2, h3⟩ := hq.out
    obtain ⟨h', β', b⟩ := hent _ _ _ _ _ (fun id hid => (hid rfl).elim) b
    rw [b.defers]
    refine leavesM (C := ⟨w, hp, noB, never, []⟩) ds w' h' β' b m fun w3 h3' β3 b3 => ?_
    obtain ⟨v, hv1, hv2⟩ := results_ok (P := P) b3 h1
    exact ⟨v, hv1, v, h3', rfl, b3.evo, h3 _ _ _ (hv2.closed _ _ h2)⟩
  cases e with
  | normal => exact fin q
  | ret => exact fin q
  | _ => exact q.elim
end
end Go.AL
/- A range over a function, at its caller. -/
namespace Go.AL
/-- What an iterator does: it yields e 0, e 1, .. (values over fixed memory), till e says none, or a round said no; no more than N rounds go on. 'T': the blocks that are the iterator's own. -/
structure IterFn (P : Program) (gf : FuncId) (caps : List AV) (e : Nat → Option (List AV)) (N : Nat) : Prop where
  fn : ∃ fn, P.funcs[gf]? = some fn ∧ (fn.name == "runtime.NumGoroutine") = false ∧ fn.body.isNone = false
  calls : ∀ (W : World) (h : Hp) (us : Array Value) (l : Nat) (J : Nat → World → Hp → (Nat → Prop) → Prop) (Jx : World → Hp → (Nat → Prop) → Prop),
    Has W h → RepL h noB caps us.toList →
    (∀ i A hA T B hB T', J i A hA T → Evo T A hA B hB → (∀ g, T' g → (T g ∨ A.heap.size ≤ g) ∧ g < B.heap.size) → J i B hB T') →
    (∀ A hA T B hB T', Jx A hA T → Evo T A hA B hB → (∀ g, T' g → (T g ∨ A.heap.size ≤ g) ∧ g < B.heap.size) → Jx B hB T') →
    (∀ i xs A hA T (args : Array Value), e i = some xs → Has A hA → J i A hA T → RepL hA noB xs args.toList →
      YieldAt Fence.wide 0 P l args A fun en B => ∃ hB, Evo (fun g => ¬ T g) A hA B hB ∧ ((en = .returned (.bool true) ∧ J (i + 1) B hB T) ∨ (en = .returned (.bool false) ∧ Jx B hB T))) →
    (∀ i A hA T, J i A hA T → i < N) →
    J 0 W h never →
    Calls P gf (#[.func (.yield l) #[] #[]] ++ us) W fun en B => ∃ v hB T, en = .returned v ∧ ((∃ i, e i = none ∧ J i B hB T) ∨ Jx B hB T)
section
variable {P : Program} {tab : Tab} {n : Nat} {I : List Id} {Q : Exit → St → Prop} {s s' : St} {C : Cx} {a a' : Act} {w w' : World} {h h' : Hp} {β β' : Bt}
def anyS (s : St) : St := ⟨fun _ => .any, s.bx, s.al⟩
/-- another world, in which the boxes lie as they lay: a new root -/
theorem Base.rerootN (k : Base C n s a w h β) {N : Nat → Prop} (e : Evo N w h w' h') (hd : ∀ g, N g → ¬ ownM s β g) (d : List Deferred) {β0 : Bt} (hb : β0.le β) : Base ⟨w', h', β0, ownM s β, d⟩ n s { a with defers := d } w' h' β := by
  refine ⟨Evo.refl _ e.has, hb, fun i => (k.slot i).mono e.le (Bt.le.refl β), fun id B hb => ?_, k.apart, fun id B _ h1 h2 => .inl ⟨id, B, h1, h2⟩, k.dom, k.size, rfl⟩
  refine (k.box id B hb).keep e.le (Bt.le.refl β) fun g hg => ?_
  obtain ⟨h1, h2⟩ := k.blk_lt hb hg
  have hng : ¬ N g := fun hn => hd g hn ⟨id, B, hb, hg⟩
  refine ⟨e.block g h1 hng, ?_⟩
  cases hh : h' g with
  | none => rfl
  | some cs =>
    exfalso
    rcases e.fresh g (by rw [hh]; simp) with h3 | h3 | h3
    · exact h3 h2
    · omega
    · exact hng h3
/-- the caller's part in an iterator's run: boxes, the loop's record, the block for deferred calls -/
structure JB (C0 : Cx) (n : Nat) (sx : St) (a : Act) (l D : Nat) (o : Obj) (W : World) (hW : Hp) (T : Nat → Prop) : Prop where
  out : ∃ β', Base C0 n sx a W hW β' ∧ (∀ g, T g → g < W.heap.size ∧ ¬ ownM sx β' g ∧ C0.w0.heap.size ≤ g ∧ g ≠ l ∧ g ≠ D) ∧ W.heap[l]? = some o ∧ W.heap[D]? = some (.deferred (some []))
theorem JB.stab {C0 : Cx} {sx : St} {l D : Nat} {o : Obj} {W B : World} {hW hB : Hp} {T T' : Nat → Prop} (k : JB C0 n sx a l D o W hW T) (e : Evo T W hW B hB) (hT : ∀ g, T' g → (T g ∨ W.heap.size ≤ g) ∧ g < B.heap.size) : JB C0 n sx a l D o B hB T' := by
  obtain ⟨β', b, ht, hl, hD⟩ := k.out
  have ll : l < W.heap.size := (Array.getElem?_eq_some_iff.1 hl).1
  have lD : D < W.heap.size := (Array.getElem?_eq_some_iff.1 hD).1
  refine ⟨β', b.stepN e (fun g hg => .inr (ht g hg).2.2.1) (fun g hg => (ht g hg).2.1), fun g hg => ?_, ?_, ?_⟩
  · obtain ⟨h1, h2⟩ := hT g hg
    rcases h1 with h1 | h1
    · obtain ⟨_, k2, k3, k4, k5⟩ := ht g h1
      exact ⟨h2, k2, k3, k4, k5⟩
    · refine ⟨h2, ?_, Nat.le_trans b.evo.size h1, by omega, by omega⟩
      rintro ⟨id, Bx', h3, h4⟩
      have := (b.blk_lt h3 h4).1
      omega
  · rw [e.block l ll fun hn => (ht l hn).2.2.2.1 rfl]; exact hl
  · rw [e.block D lD fun hn => (ht D hn).2.2.2.2 rfl]; exact hD
end
end Go.AL
/- A range over a function, at its caller: the rule. -/
namespace Go.AL
section
variable {P : Program} {tab : Tab} {n : Nat} {I : List Id} {Q : Exit → St → Prop} {s s' : St} {C : Cx} {a a' : Act} {w w' : World} {h h' : Hp} {β β' : Bt}
theorem Base.redfr (k : Base C n s a w h β) (d : List Deferred) : Base { C with dfr := d } n s { a with defers := d } w h β := ⟨k.evo, k.b0, k.slot, k.box, k.apart, k.own, k.dom, k.size, rfl⟩
theorem Base.act (k : Base C n s a w h β) : { a with defers := C.dfr } = a := by cases a; simp only [Act.mk.injEq, true_and]; exact k.defers.symm
/-- how a round may be left: on to the next one, or out of the loop -/
def RoundQ (n : Nat) (Ip : List Id) (s : St) (Q : Exit → St → Prop) (sn : St) (ok : Prop) : Exit → St → Prop
  | .normal, s' => ok ∧ Ent n Ip s' (anyS sn)
  | .ret, s' => ∃ sx, sx.env = s.env ∧ Ent n Ip s' (anyS sx) ∧ Q .ret sx
  | .exit id, s' => ∃ sx, sx.env = s.env ∧ Ent n Ip s' (anyS sx) ∧ Q (.exit id) sx
  | _, _ => False
def setPs (p q : Tmp) (x y : AV) (s : St) : St := (Eff.mk y [] [] [] []).app (some q) ((Eff.mk x [] [] [] []).app (some p) s)
/-- behind the loop -/
theorem rangeEnd {e : Exit} {ds : List Nat} {βp : Bt} {sx : St} {l D : Nat} {r r' : Loop} {W : World} {hW : Hp} {T : Nat → Prop} (b : Base { C with dfr := ds.map coll } n s a w h β) (hm : MarksOk C.w0 w ds) (hC : C.β0.le βp) (hD : D = w.heap.size) (hl : l = w.heap.size + 1)
    (k : JB ⟨w, h, βp, ownM s β, ds.map coll⟩ n sx a l D (.loop r) W hW T) (q : Q e sx) :
    ∃ s' h' β' ds', Base { C with dfr := ds'.map coll } n s' { a with defers := [coll D] ++ a.defers } (W.putObj l (.loop r')) h' β' ∧ MarksOk C.w0 (W.putObj l (.loop r')) ds' ∧ Q e s' := by
  obtain ⟨β', bJ, _, h1, h2⟩ := k.out
  have hev := evo_mark (o' := .loop r') bJ.evo.has h1 (fun _ _ _ e => by cases e)
  have bJ' := bJ.stepN hev (fun g hg => .inr (by show w.heap.size ≤ g; omega)) (fun g hg => by rw [hg]; exact bJ.not_own (.inr ⟨_, h1⟩))
  have bu := (b.unroot (β0 := βp) hC bJ').redfr ((D :: ds).map coll)
  have ha : ({ a with defers := [coll D] ++ a.defers } : Act) = { a with defers := (D :: ds).map coll } := by rw [b.defers]; rfl
  rw [ha]
  have hne : D ≠ l := by omega
  refine ⟨sx, hW, β', D :: ds, bu, ⟨List.nodup_cons.2 ⟨fun hd => ?_, hm.1⟩, fun D' hD' => ?_⟩, q⟩
  · have := (Array.getElem?_eq_some_iff.1 (hm.2 D hd).1).1
    omega
  · rcases List.mem_cons.1 hD' with rfl | hd
    · exact ⟨by rw [World.putObj_heap_other hne]; exact h2, by rw [hD]; exact b.evo.size⟩
    · obtain ⟨k1, k2⟩ := hm.2 D' hd
      exact ⟨by rw [bJ'.evo.block D' (Array.getElem?_eq_some_iff.1 k1).1 (b.not_own (.inl ⟨_, k1⟩))]; exact k1, k2⟩
theorem roundEnd {dd : List Deferred} {βp : Bt} {si s1 sx : St} {a1 a3 : Act} {l D : Nat} {A A1 A3 : World} {hA h1 h4 : Hp} {β1 β4 : Bt} {oA ob r : Loop} {T : Nat → Prop}
    (hslot : ∀ i, Rep h βp (s.env i) (a.tmps.getD i undef)) (bJ : Base ⟨w, h, βp, ownM s β, dd⟩ n si a A hA β') (ht : ∀ g, T g → g < A.heap.size ∧ ¬ ownM si β' g ∧ w.heap.size ≤ g ∧ g ≠ l ∧ g ≠ D) (hlD : D ≠ l) (hlw : w.heap.size ≤ l)
    (hl : A.heap[l]? = some (.loop oA)) (hD : A.heap[D]? = some (.deferred (some []))) (b1 : Base ⟨A, hA, βp, ownM si β', []⟩ n s1 a1 A1 h1 β1) (b4 : Base ⟨A1.putObj l (.loop ob), h1, βp, ownM s1 β1, []⟩ n (anyS sx) a3 A3 h4 β4) (hse : sx.env = s.env) :
    A3.heap[l]? = some (.loop ob) ∧ Evo (fun g => ¬ T g) A hA (A3.putObj l (.loop r)) h4 ∧ JB ⟨w, h, βp, ownM s β, dd⟩ n sx a l D (.loop r) (A3.putObj l (.loop r)) h4 T := by
  have ll : l < A.heap.size := (Array.getElem?_eq_some_iff.1 hl).1
  have lD : D < A.heap.size := (Array.getElem?_eq_some_iff.1 hD).1
  have e1 := b1.evo
  have hl1 : A1.heap[l]? = some (.loop oA) := by rw [e1.block l ll (bJ.not_own (.inr ⟨_, hl⟩))]; exact hl
  have hD1 : A1.heap[D]? = some (.deferred (some [])) := by rw [e1.block D lD (bJ.not_own (.inl ⟨_, hD⟩))]; exact hD
  have e2 := evo_mark (o' := .loop ob) e1.has hl1 (fun _ _ _ e => by cases e)
  have e4 := b4.evo
  have ll1 : l < A1.heap.size := (Array.getElem?_eq_some_iff.1 hl1).1
  have lD1 : D < A1.heap.size := (Array.getElem?_eq_some_iff.1 hD1).1
  have hs2 : (A1.putObj l (.loop ob)).heap.size = A1.heap.size := by simp
  have hl3 : A3.heap[l]? = some (.loop ob) := by rw [e4.block l (by rw [hs2]; exact ll1) (b1.not_own (.inr ⟨_, hl1⟩))]; exact World.putObj_heap_same ll1
  have hD3 : A3.heap[D]? = some (.deferred (some [])) := by rw [e4.block D (by rw [hs2]; exact lD1) (b1.not_own (.inl ⟨_, hD1⟩)), World.putObj_heap_other hlD]; exact hD1
  have e5 := evo_mark (o' := .loop r) e4.has hl3 (fun _ _ _ e => by cases e)
  have b5 := b4.rerootN e5 (fun g hg => by rw [hg]; exact b4.not_own (.inr ⟨_, hl3⟩)) [] b4.b0
  have own1 : ∀ g, ownM s1 β1 g → ownM si β' g ∨ A.heap.size ≤ g := fun g ⟨id, B, k1, k2⟩ => b1.own id B g k1 k2
  have own4 : ∀ g, ownM (anyS sx) β4 g → ownM si β' g ∨ A.heap.size ≤ g := fun g ⟨id, B, k1, k2⟩ => by
    rcases b4.own id B g k1 k2 with k | k
    · exact own1 g k
    · have : A1.heap.size ≤ g := by rw [← hs2]; exact k
      exact .inr (Nat.le_trans e1.size this)
  have ownJ : ∀ g, ownM si β' g → ownM s β g ∨ w.heap.size ≤ g := fun g ⟨id, B, k1, k2⟩ => bJ.own id B g k1 k2
  have up : ∀ g, ownM si β' g ∨ A.heap.size ≤ g → ownM s β g ∨ w.heap.size ≤ g := fun g k => k.elim (ownJ g) fun k => .inr (Nat.le_trans bJ.evo.size k)
  have nT : ∀ g, ownM si β' g ∨ A.heap.size ≤ g → ¬ T g ∨ A.heap.size ≤ g := fun g k => k.elim (fun k => .inl fun t => (ht g t).2.1 k) .inr
  have lT : ∀ g, g = l → ¬ T g := fun g hg t => (ht g t).2.2.2.1 hg
  refine ⟨hl3, (((Evo.refl _ bJ.evo.has).trans e1 fun g k => nT g (.inl k)).trans e2 fun g hg => .inl (lT g hg)).trans e4 (fun g k => nT g (own1 g k)) |>.trans e5 fun g hg => .inl (lT g hg), ⟨β4, ⟨?_, b4.b0, fun i => ?_, b5.box, b5.apart, fun id B g k1 k2 => up g (own4 g ⟨id, B, k1, k2⟩), b5.dom, bJ.size, bJ.defers⟩, fun g t => ?_, ?_, ?_⟩⟩
  · exact (((bJ.evo.trans e1 fun g k => ownJ g k).trans e2 fun g hg => .inr (by rw [hg]; exact hlw)).trans e4 fun g k => up g (own1 g k)).trans e5 fun g hg => .inr (by rw [hg]; exact hlw)
  · rw [hse]
    have hle : h.le h4 := (bJ.evo.le.trans e1.le).trans e4.le
    exact (hslot i).mono hle b4.b0 _ _
  · obtain ⟨t1, t2, t3, t4, t5⟩ := ht g t
    refine ⟨?_, fun k => ?_, t3, t4, t5⟩
    · have k1 : A.heap.size ≤ A1.heap.size := e1.size
      have k2 : A1.heap.size ≤ A3.heap.size := by rw [← hs2]; exact e4.size
      rw [World.putObj_size]
      omega
    · rcases own4 g k with k | k
      · exact t2 k
      · omega
  · exact World.putObj_heap_same (Array.getElem?_eq_some_iff.1 hl3).1
  · rw [World.putObj_heap_other hlD]; exact hD3
end
end Go.AL
/- A range over a function of two variables: the rule at the caller. -/
namespace Go.AL
mutual
theorem AV.ren_id : ∀ c : AV, c.ren (fun i => i) = c
  | .v _ => rfl
  | .agg cs => by simp only [AV.ren, renL_id cs]
  | .tup cs => by simp only [AV.ren, renL_id cs]
  | .sl _ _ _ => rfl
  | .cptr _ => rfl
  | .ptr _ _ => rfl
  | .row _ => rfl
  | .rptr _ _ => rfl
  | .mp _ => rfl
  | .sub _ _ _ => rfl
  | .fn _ cs => by simp only [AV.ren, renL_id cs]
  | .any => rfl
theorem renL_id : ∀ cs : List AV, renL (fun i => i) cs = cs
  | [] => rfl
  | c :: cs => by simp only [renL, AV.ren_id c, renL_id cs]
end
section
variable {P : Program} {tab : Tab} {n : Nat} {I : List Id} {Q : Exit → St → Prop} {s : St}
theorem FWP.rangeFunc {g : Operand} {p q : Tmp} {assign body : Code} {gf : FuncId} {caps : List AV} {e : Nat → Option (List AV)} {N : Nat} (it : IterFn P gf caps e N) (hN0 : 0 < N) (hg : opd s g = .fn gf caps) (hcl : closedL caps = true) (hpn : Nat.blt p n = true) (hqn : Nat.blt q n = true)
    (Ip : List Id) (hI : ∀ id ∈ I, id ∈ Ip) (hin : ∀ t, (s.env t).within Ip = true) (S : Nat → St) (hSe : ∀ i, (S i).env = s.env) (h0 : S 0 = s) (h2 : ∀ i xs, e i = some xs → ∃ x y, xs = [x, y])
    (hround : ∀ i x y l, i < N → e i = some [x, y] → RWP P n Ip l assign (AThen (fun s1 => RWP P n Ip l body (RoundQ n Ip s Q (S (i + 1)) (i + 1 < N)) s1) (fun _ _ => False)) (setPs p q x y (S i)))
    (hdone : ∀ i, e i = none → Q .normal (S i)) : FWP P n I (.rangeFunc g #[p, q] assign body) Q s := by
  have hpn : p < n := Nat.le_of_ble_eq_true hpn
  have hqn : q < n := Nat.le_of_ble_eq_true hqn
  refine ⟨fun C a w h β ds hi b hm => wpIn_wide (n := 0) |>.1 (wpIn_rangeFunc (F := Fence.wide) (n := 0) fun fn _ => ?_)⟩
  obtain ⟨βp, hβ⟩ : ∃ βp : Bt, βp = fun id => match memI Ip id with | true => β id | false => none := ⟨_, rfl⟩
  have hle : βp.le β := fun id v hv => by
    rw [hβ] at hv
    dsimp only at hv
    split at hv
    · exact hv
    · cases hv
  have hIp : ∀ id, βp id ≠ none → id ∈ Ip := fun id hv => by
    rw [hβ] at hv
    dsimp only at hv
    cases hmm : memI Ip id with
    | true => exact (memI_mem _ _).1 hmm
    | false => rw [hmm] at hv; exact absurd rfl hv
  have hC : C.β0.le βp := fun id v hv => by
    have h1 : id ∈ Ip := hI id (hi id (by show C.β0 id ≠ none; rw [hv]; simp))
    rw [hβ]
    dsimp only
    rw [(memI_mem _ _).2 h1]
    exact b.b0 id v hv
  have hslot : ∀ i, Rep h βp (s.env i) (a.tmps.getD i undef) := fun i => by
    refine Rep.within (σ := fun i => i) (ids := Ip) (fun id v h1 h2 => ?_) (s.env i) _ (hin i) (by rw [AV.ren_id]; exact b.slot i)
    rw [hβ]
    dsimp only
    rw [(memI_mem _ _).2 h1]
    exact h2
  have hgr := opd_rep b g
  rw [hg] at hgr
  simp only [Rep] at hgr
  obtain ⟨cu, hcu, hcr⟩ := hgr
  have hcr : RepL h noB caps cu.toList := RepL.closed _ _ hcl hcr
  have b0 := b.reroot (ds.map coll) (β0 := βp) hle
  have ha : { a with defers := ds.map coll } = a := b.act
  rw [ha] at b0
  obtain ⟨rec, hrec⟩ : ∃ rec : LoopState → Option Code → Loop, rec = fun st pe => { state := st, pending := pe, fn, tmps := a.tmps, params := #[p, q], assign, body, defers := w.heap.size } := ⟨_, rfl⟩
  obtain ⟨W1, hW1⟩ : ∃ W1, (w.alloc (.deferred (some []))).alloc (.loop (rec .ready none)) = W1 := ⟨_, rfl⟩
  have ev1 : Evo never w h W1 h := by
    rw [← hW1]
    exact (evo_alloc b.evo.has _).trans (evo_alloc (evo_alloc b.evo.has _).has _) fun _ h => h.elim
  have hL1 : W1.heap[w.heap.size + 1]? = some (.loop (rec .ready none)) := by
    rw [← hW1]; have := World.alloc_heap_new (w.alloc (.deferred (some []))) (.loop (rec .ready none)); rwa [World.size_alloc] at this
  have hK1 : W1.heap[w.heap.size]? = some (.deferred (some [])) := by
    rw [← hW1, heap_alloc_old _ _ (by simp)]; exact World.alloc_heap_new w _
  have hJ0 : JB ⟨w, h, βp, ownM s β, ds.map coll⟩ n (S 0) a (w.heap.size + 1) w.heap.size (.loop (rec .ready none)) W1 h never := by
    rw [h0]
    exact ⟨β, b0.step ev1, fun g hg => hg.elim, hL1, hK1⟩
  refine ⟨w.heap.size + 1, [coll w.heap.size], W1, { target := .fn (.func gf) cu, args := #[.func (.yield (w.heap.size + 1)) #[] #[]] }, W1, gf, #[.func (.yield (w.heap.size + 1)) #[] #[]] ++ cu, W1, ?_, ?_, fun _ _ => trivial, ?_, fun hd => (by cases hd), ?_⟩
  · rw [← hW1, hrec]; exact run_enterLoop_outer _ _ _ _ _
  · simp only [resolve, hcu]
    simp [go_sem]
  · simp only [invoke]
    exact run_callFunc it.fn _ W1
  subst hrec
  refine callsIn_wide.2 ((it.calls W1 h cu (w.heap.size + 1) (fun i W hW T => i < N ∧ JB ⟨w, h, βp, ownM s β, ds.map coll⟩ n (S i) a (w.heap.size + 1) w.heap.size (.loop { state := .ready, pending := none, fn, tmps := a.tmps, params := #[p, q], assign, body, defers := w.heap.size }) W hW T)
    (fun W hW T => ∃ (c : Code) (sx : St), sx.env = s.env ∧ ((c = .ret ∧ Q .ret sx) ∨ ∃ id, c = .exit id ∧ Q (.exit id) sx) ∧ JB ⟨w, h, βp, ownM s β, ds.map coll⟩ n sx a (w.heap.size + 1) w.heap.size (.loop { state := .done, pending := some c, fn, tmps := a.tmps, params := #[p, q], assign, body, defers := w.heap.size }) W hW T)
    ev1.has hcr (fun i A hA T B hB T' k e hT => ⟨k.1, k.2.stab e hT⟩) (by rintro A hA T B hB T' ⟨c, sx, h1, h2, k⟩ e hT; exact ⟨c, sx, h1, h2, k.stab e hT⟩) ?_ (fun i A hA T k => k.1) ⟨hN0, hJ0⟩).mono ?_)
  · intro i xs A hA T args hei hasA k hargs
    obtain ⟨x, y, rfl⟩ := h2 i xs hei
    simp only [RepL] at hargs
    obtain ⟨ux, r1, e1, hx, uy, r2, e2, hy, e3⟩ := hargs
    obtain rfl : args = #[ux, uy] := by
      apply Array.ext'
      rw [e1, e2, e3]
    obtain ⟨β', bJ, ht, hl, hD⟩ := k.2.out
    have hyd : (Instr.yield (w.heap.size + 1) #[ux, uy]).run P A = .ok (.round (w.heap.size + 1) fn ((a.tmps.setIfInBounds p ux).setIfInBounds q uy) assign body) A := by
      rw [run_yield (P := P) (args := #[ux, uy]) hl rfl]
      simp
    refine ⟨fn, _, assign, body, hyd, roundIn_of_wpIn trivial ?_⟩
    have b1 := bJ.reroot [] (β0 := βp) bJ.b0
    have b2 := (b1.val (some p) (fun t ht => by cases ht; exact hpn) (hx.mono (Hp.le.refl hA) (noB_le β') _ _) []).val (some q) (fun t ht => by cases ht; exact hqn) (hy.mono (Hp.le.refl hA) (noB_le β') _ _) []
    refine wpIn_mono ((hround i x y (w.heap.size + 1) k.1 hei).out ⟨A, hA, βp, ownM (S i) β', []⟩ _ A hA β' hIp b2) ?_
    intro e1 a1 A1 ⟨s1, h1, β1, bb, qq⟩
    cases e1 with
    | normal =>
      have hl1 := bb.evo.block _ (Array.getElem?_eq_some_iff.1 hl).1 (bJ.not_own (.inr ⟨_, hl⟩))
      rw [hl] at hl1
      refine ⟨_, run_beginRound hl1 rfl, ?_⟩
      have ev2 := evo_mark (o' := .loop { state := .busy, pending := none, fn, tmps := a.tmps, params := #[p, q], assign, body, defers := w.heap.size }) bb.evo.has hl1 (fun _ _ _ e => by cases e)
      have b3 := bb.rerootN ev2 (fun g hg => by rw [hg]; exact bb.not_own (.inr ⟨_, hl1⟩)) [] bb.b0
      have hact : { a1 with defers := [] } = a1 := bb.act
      rw [hact] at b3
      refine wpIn_mono (qq.out ⟨A1.putObj (w.heap.size + 1) _, h1, βp, ownM s1 β1, []⟩ a1 _ h1 β1 hIp b3) ?_
      intro e3 a3 A3 ⟨s3, h3, β3, b4, q3⟩
      have fin : ∀ (sx : St) (r : Loop), Ent n Ip s3 (anyS sx) → sx.env = s.env → ∃ h4, A3.heap[w.heap.size + 1]? = some (.loop { state := .busy, pending := none, fn, tmps := a.tmps, params := #[p, q], assign, body, defers := w.heap.size }) ∧ Evo (fun g => ¬ T g) A hA (A3.putObj (w.heap.size + 1) (.loop r)) h4 ∧ JB ⟨w, h, βp, ownM s β, ds.map coll⟩ n sx a (w.heap.size + 1) w.heap.size (.loop r) (A3.putObj (w.heap.size + 1) (.loop r)) h4 T := fun sx r he hse => by
        obtain ⟨h4, β4, b5⟩ := he ⟨A1.putObj (w.heap.size + 1) _, h1, βp, ownM s1 β1, []⟩ a3 A3 h3 β3 hIp b4
        obtain ⟨k1, k2, k3⟩ := roundEnd (r := r) hslot bJ ht (by omega) (by omega) hl hD bb b5 hse
        exact ⟨h4, k1, k2, k3⟩
      cases e3 with
      | normal =>
        obtain ⟨h4, k1, k2, k3⟩ := fin (S (i + 1)) { state := .ready, pending := none, fn, tmps := a.tmps, params := #[p, q], assign, body, defers := w.heap.size } q3.2 (hSe _)
        exact ⟨_, _, run_endRound none k1, h4, k2, .inl ⟨rfl, q3.1, k3⟩⟩
      | ret =>
        obtain ⟨sx, hse, he, hq⟩ := q3
        obtain ⟨h4, k1, k2, k3⟩ := fin sx { state := .done, pending := some .ret, fn, tmps := a.tmps, params := #[p, q], assign, body, defers := w.heap.size } he hse
        exact ⟨_, _, run_endRound (some .ret) k1, h4, k2, .inr ⟨rfl, .ret, sx, hse, .inl ⟨rfl, hq⟩, k3⟩⟩
      | exit id =>
        obtain ⟨sx, hse, he, hq⟩ := q3
        obtain ⟨h4, k1, k2, k3⟩ := fin sx { state := .done, pending := some (.exit id), fn, tmps := a.tmps, params := #[p, q], assign, body, defers := w.heap.size } he hse
        exact ⟨_, _, run_endRound (some (.exit id)) k1, h4, k2, .inr ⟨rfl, .exit id, sx, hse, .inr ⟨id, rfl, hq⟩, k3⟩⟩
      | _ => exact q3.elim
    | _ => exact qq.elim
  · rintro en B ⟨v, hB, T, rfl, ⟨i, hei, k⟩ | ⟨c, sx, hse, hq, k⟩⟩
    · obtain ⟨_, _, _, hl, _⟩ := k.2.out
      exact ⟨none, _, run_endLoop hl (by simp), rangeEnd b hm hC rfl rfl k.2 (hdone i hei)⟩
    · obtain ⟨_, _, _, hl, _⟩ := k.out
      refine ⟨some c, _, run_endLoop hl (by simp), ?_⟩
      rcases hq with ⟨rfl, hq⟩ | ⟨id, rfl, hq⟩
      · exact wpIn_ret (rangeEnd b hm hC rfl rfl k hq)
      · exact wpIn_exit (rangeEnd b hm hC rfl rfl k hq)
end
end Go.AL
/- Iterators: code that yields. -/
namespace Go.AL
/-- what an iterator may count on -/
structure ItEnv (P : Program) (l : Nat) (e : Nat → Option (List AV)) (N : Nat) (J : Nat → World → Hp → (Nat → Prop) → Prop) (Jx : World → Hp → (Nat → Prop) → Prop) : Prop where
  stab : ∀ i A hA T B hB T', J i A hA T → Evo T A hA B hB → (∀ g, T' g → (T g ∨ A.heap.size ≤ g) ∧ g < B.heap.size) → J i B hB T'
  stabx : ∀ A hA T B hB T', Jx A hA T → Evo T A hA B hB → (∀ g, T' g → (T g ∨ A.heap.size ≤ g) ∧ g < B.heap.size) → Jx B hB T'
  round : ∀ i xs A hA T (args : Array Value), e i = some xs → Has A hA → J i A hA T → RepL hA noB xs args.toList →
      YieldAt Fence.wide 0 P l args A fun en B => ∃ hB, Evo (fun g => ¬ T g) A hA B hB ∧ ((en = .returned (.bool true) ∧ J (i + 1) B hB T) ∨ (en = .returned (.bool false) ∧ Jx B hB T))
  bound : ∀ i A hA T, J i A hA T → i < N
/-- where the iterator stands: i elements have been taken (some i), or it has been told to stop -/
def Hold (J : Nat → World → Hp → (Nat → Prop) → Prop) (Jx : World → Hp → (Nat → Prop) → Prop) : Option Nat → World → Hp → (Nat → Prop) → Prop
  | some i => J i
  | none => Jx
structure IWP (P : Program) (n : Nat) (I : List Id) (l : Nat) (e : Nat → Option (List AV)) (N : Nat) (c : Code) (Q : Exit → Option Nat → St → Prop) (ph : Option Nat) (s : St) : Prop where
  out : ∀ J Jx, ItEnv P l e N J Jx → ∀ (C : Cx) (a : Act) (w : World) (h : Hp) (β : Bt), IniOk C I → C.dfr = [] → Base C n s a w h β → Hold J Jx ph w h (ownM s β) →
    c.wpIn Fence.wide 0 P (fun ex a' w' => ∃ C' ph' s' h' β', IniOk C' I ∧ C'.dfr = [] ∧ Base C' n s' a' w' h' β' ∧ Hold J Jx ph' w' h' (ownM s' β') ∧ Q ex ph' s') a w
section
variable {P : Program} {tab : Tab} {n : Nat} {I : List Id} {l : Nat} {e : Nat → Option (List AV)} {N : Nat} {Q : Exit → Option Nat → St → Prop} {ph : Option Nat} {s s' : St} {C : Cx} {a a' : Act} {w w' : World} {h h' : Hp} {β β' : Bt}
variable {J : Nat → World → Hp → (Nat → Prop) → Prop} {Jx : World → Hp → (Nat → Prop) → Prop}
theorem ItEnv.hold (E : ItEnv P l e N J Jx) {T T' : Nat → Prop} (k : Hold J Jx ph w h T) (ev : Evo T w h w' h') (hT : ∀ g, T' g → (T g ∨ w.heap.size ≤ g) ∧ g < w'.heap.size) : Hold J Jx ph w' h' T' := by
  cases ph with
  | none => exact E.stabx _ _ _ _ _ _ k ev hT
  | some i => exact E.stab _ _ _ _ _ _ _ k ev hT
theorem own_step {β0 : Bt} {d : List Deferred} {T : Nat → Prop} (r : Base ⟨w, h, β0, T, d⟩ n s' a' w' h' β') : ∀ g, ownM s' β' g → (T g ∨ w.heap.size ≤ g) ∧ g < w'.heap.size :=
  fun g ⟨id, B, k1, k2⟩ => ⟨r.own id B g k1 k2, (r.blk_lt k1 k2).1⟩
theorem IWP.lift {c : Code} {Q' : Exit → St → Prop} (k : AWP P n I c Q' s) (hQ : ∀ ex s, Q' ex s → Q ex ph s) : IWP P n I l e N c Q ph s := ⟨fun J Jx E C a w h β hi hd b hh => by
  have hr := b.reroot [] (β0 := C.β0) b.b0
  have ha : { a with defers := [] } = a := by cases a; simp only [Act.mk.injEq, true_and]; exact (b.defers.trans hd).symm
  rw [ha] at hr
  exact wpIn_wide.2 (wp_mono (k.out ⟨w, h, C.β0, ownM s β, []⟩ a w h β hi hr) fun ex a' w' ⟨s', h', β', r, q⟩ => ⟨⟨w, h, C.β0, ownM s β, []⟩, ph, s', h', β', hi, rfl, r, E.hold hh r.evo (own_step r), hQ _ _ q⟩)⟩
theorem IWP.ent {c : Code} (he : Ent n I s s') (k : IWP P n I l e N c Q ph s') : IWP P n I l e N c Q ph s := ⟨fun J Jx E C a w h β hi hd b hh => by
  have hr := b.reroot [] (β0 := C.β0) b.b0
  have ha : { a with defers := [] } = a := by cases a; simp only [Act.mk.injEq, true_and]; exact (b.defers.trans hd).symm
  rw [ha] at hr
  obtain ⟨h', β', r⟩ := he ⟨w, h, C.β0, ownM s β, []⟩ a w h β hi hr
  exact k.out J Jx E ⟨w, h, C.β0, ownM s β, []⟩ a w h' β' hi rfl r (E.hold hh r.evo (own_step r))⟩
def AThenI (K : Option Nat → St → Prop) (Q : Exit → Option Nat → St → Prop) : Exit → Option Nat → St → Prop
  | .normal, ph, s => K ph s
  | ex, ph, s => Q ex ph s
def AInI (id : Nat) (Q : Exit → Option Nat → St → Prop) : Exit → Option Nat → St → Prop
  | .exit id', ph, s => match Nat.beq id' id with | true => Q .normal ph s | false => Q (.exit id') ph s
  | ex, ph, s => Q ex ph s
theorem IWP.seq {c d : Code} (k : IWP P n I l e N c (AThenI (fun ph s => IWP P n I l e N d Q ph s) Q) ph s) : IWP P n I l e N (.seq c d) Q ph s :=
  ⟨fun J Jx E C a w h β hi hd b hh => wpIn_seq (wpIn_mono (k.out J Jx E C a w h β hi hd b hh) fun ex a w ⟨C', ph', s', h', β', i1, i2, b, hh, q⟩ => by
    cases ex with
    | normal => exact q.out J Jx E C' a w h' β' i1 i2 b hh
    | _ => exact ⟨C', ph', s', h', β', i1, i2, b, hh, q⟩)⟩
theorem IWP.skip (k : Q .normal ph s) : IWP P n I l e N .skip Q ph s := ⟨fun _ _ _ C _ _ h β i1 i2 b hh => wpIn_skip ⟨C, ph, s, h, β, i1, i2, b, hh, k⟩⟩
theorem IWP.exit {id : Nat} (k : Q (.exit id) ph s) : IWP P n I l e N (.exit id) Q ph s := ⟨fun _ _ _ C _ _ h β i1 i2 b hh => wpIn_exit ⟨C, ph, s, h, β, i1, i2, b, hh, k⟩⟩
theorem IWP.block {id : Nat} {c : Code} (k : IWP P n I l e N c (AInI id Q) ph s) : IWP P n I l e N (.block id c) Q ph s :=
  ⟨fun J Jx E C a w h β hi hd b hh => wpIn_block (wpIn_mono (k.out J Jx E C a w h β hi hd b hh) fun ex a w ⟨C', ph', s', h', β', i1, i2, b, hh, q⟩ => by
    cases ex with
    | exit id' =>
      simp only [Exit.inBlock]
      by_cases he : id' = id
      · subst he
        rw [if_pos rfl]
        simp only [AInI, Nat.beq_refl] at q
        exact ⟨C', ph', s', h', β', i1, i2, b, hh, q⟩
      · rw [if_neg he]
        simp only [AInI, beq_ne he] at q
        exact ⟨C', ph', s', h', β', i1, i2, b, hh, q⟩
    | _ => exact ⟨C', ph', s', h', β', i1, i2, b, hh, q⟩)⟩
theorem IWP.condB {c : Operand} {x y : Code} {t : Bool} (hc : opd s c = .v (.bool t)) (ht : t = true → IWP P n I l e N x Q ph s) (hf : t = false → IWP P n I l e N y Q ph s) : IWP P n I l e N (.cond c x y) Q ph s :=
  ⟨fun J Jx E C a w h β i1 i2 b hh => wpIn_cond_split (eval_bool b hc) (fun k => (ht k).out J Jx E C a w h β i1 i2 b hh) (fun k => (hf k).out J Jx E C a w h β i1 i2 b hh)⟩
end
end Go.AL
/- Iterators: loops, the yield itself, the contract. -/
namespace Go.AL
section
variable {P : Program} {tab : Tab} {n : Nat} {I : List Id} {l : Nat} {e : Nat → Option (List AV)} {N : Nat} {Q : Exit → Option Nat → St → Prop} {ph : Option Nat} {s s' : St} {C : Cx} {a a' : Act} {w w' : World} {h h' : Hp} {β β' : Bt}
variable {J : Nat → World → Hp → (Nat → Prop) → Prop} {Jx : World → Hp → (Nat → Prop) → Prop}
structure LoopEndI {G : Type} (n : Nat) (I : List Id) (N : Nat) (K : G → Prop) (S : G → St) (ph : G → Option Nat) (μ : G → Nat) (g : G) (p : Option Nat) (s : St) : Prop where
  out : ∃ g', K g' ∧ ph g' = p ∧ ((∀ i, p = some i → i < N) → μ g' < μ g) ∧ Ent n I s (S g')
def LoopQI {G : Type} (n : Nat) (I : List Id) (N : Nat) (K : G → Prop) (S : G → St) (ph : G → Option Nat) (μ : G → Nat) (g : G) (Q : Exit → Option Nat → St → Prop) : Exit → Option Nat → St → Prop
  | .normal, p, s => LoopEndI n I N K S ph μ g p s
  | ex, p, s => Q ex p s
theorem IWP.loop {c : Code} {G : Type} (K : G → Prop) (S : G → St) (pg : G → Option Nat) (μ : G → Nat) (g0 : G) (hg0 : pg g0 = ph) (hk : K g0) (he : Ent n I s (S g0))
    (round : ∀ g, K g → (∀ i, pg g = some i → i < N) → IWP P n I l e N c (LoopQI n I N K S pg μ g Q) (pg g) (S g)) : IWP P n I l e N (.loop c) Q ph s := by
  refine IWP.ent he ⟨fun J Jx E C a w h β hi hd b hh => ?_⟩
  refine wpIn_loop_ghost (fun m a w => ∃ g C h β, K g ∧ μ g = m ∧ IniOk C I ∧ C.dfr = [] ∧ Base C n (S g) a w h β ∧ Hold J Jx (pg g) w h (ownM (S g) β)) (μ g0) ⟨g0, C, h, β, hk, rfl, hi, hd, b, by rw [hg0]; exact hh⟩ ?_
  intro m a w ⟨g, C, h, β, hkg, hm, hi, hd, b, hh⟩
  have hN : ∀ i, pg g = some i → i < N := fun i hi => by rw [hi] at hh; exact E.bound _ _ _ _ hh
  refine wpIn_mono ((round g hkg hN).out J Jx E C a w h β hi hd b hh) fun ex a w ⟨C', p, s', h', β', i1, i2, b, hh, q⟩ => ?_
  cases ex with
  | normal =>
    obtain ⟨g', hkg', hp, hμ, hent⟩ := q.out
    have hr := b.reroot [] (β0 := C'.β0) b.b0
    have ha : { a with defers := [] } = a := by cases a; simp only [Act.mk.injEq, true_and]; exact (b.defers.trans i2).symm
    rw [ha] at hr
    obtain ⟨h2, β2, r⟩ := hent ⟨w, h', C'.β0, ownM s' β', []⟩ a w h' β' i1 hr
    have hN' : ∀ i, p = some i → i < N := fun i hi => by rw [hi] at hh; exact E.bound _ _ _ _ hh
    exact ⟨μ g', hm ▸ hμ hN', g', ⟨w, h', C'.β0, ownM s' β', []⟩, h2, β2, hkg', rfl, i1, rfl, r, by rw [hp]; exact E.hold hh r.evo (own_step r)⟩
  | _ => exact ⟨C', p, s', h', β', i1, i2, b, hh, q⟩
/-- an operation, in the fenced form -/
theorem opW {o : Oper} {next next' : Act → World → Prop} {Q : Exit → Act → World → Prop} (hn : ∀ a w, next a w → next' a w) (k : o.wp P a w next Q) : o.wpIn Fence.wide 0 P a w next' Q := by
  refine ⟨fun _ _ => trivial, ?_⟩
  show o.uponIn Fence.wide 0 P a next' Q ((execOp a.eval o).run P w)
  unfold Oper.wp at k
  cases hr : (execOp a.eval o).run P w with
  | ok r w' =>
    rw [hr] at k
    cases r with
    | value v => exact hn _ _ k
    | skip => exact hn _ _ k
    | defer d => exact hn _ _ k
    | enter f args =>
      refine ⟨fun hd => (by cases hd), ?_⟩
      refine callsIn_wide.2 (Calls.mono k fun e w'' hh => ?_)
      cases e with
      | returned v => exact hn _ _ hh
      | panicked ch => exact hh
      | outgrown => exact hh
    | row row args =>
      refine ⟨fun hd => (by cases hd), ?_⟩
      exact fun c cs _ => let ⟨v, w'', r, st⟩ := k c cs; ⟨v, w'', hn _ _ r, stepsIn_wide.2 st⟩
    | _ => exact k.elim
  | halt r w' =>
    rw [hr] at k
    cases r with
    | panic v => exact k
    | _ => exact k.elim
theorem wp_seq_opsW {ops : Array Oper} {Q : Exit → Act → World → Prop} {l : List Oper} {s s' : St} {Es : List Eff} (c : Ch P n [] ops l s Es s') :
    ∀ (rest is : List Nat) (a : Act) (w : World) (h : Hp) (β : Bt), is.length = l.length → (∀ (k i : Nat) (o : Oper), is[k]? = some i → l[k]? = some o → ops[i]? = some o) → Base C n s a w h β →
      (∀ a w h β, Base C n s' a w h β → wpOpsIn Fence.wide 0 P ops Q rest a w) → wpOpsIn Fence.wide 0 P ops Q (is ++ rest) a w := by
  induction c with
  | nil s =>
    intro rest is a w h β hl _ k K
    have : is = [] := List.eq_nil_of_length_eq_zero (by simpa using hl)
    subst this
    exact K _ _ _ _ k
  | @op o l s s' E Es hg hj hn hp r ih =>
    intro rest is a w h β hl hi k K
    cases is with
    | nil => simp at hl
    | cons i is =>
      have ho : ops[i]? = some o := hi 0 i o (by simp) (by simp)
      simp only [List.cons_append, wpOpsIn, ho]
      have hw : Region.wanted o (yielded ops a.tmps) = true := by simp [Region.wanted, hg]
      simp only [hw, if_true]
      exact opW (fun a w k => k) (hj.2 C s a w h β Q _ (InvJ.nil _) (fun _ _ => rfl) (fun _ _ => rfl) hn k (fun a' w' h' β' k' => ih rest is a' w' h' β' (by simpa using hl) (fun j i' o' h1 h2 => hi (j + 1) i' o' (by simpa using h1) (by simpa using h2)) k' K))
  | @guarded o l s s' E Es d b hg hs hj hn hp r ih =>
    intro rest is a w h β hl hi k K
    cases is with
    | nil => simp at hl
    | cons i is =>
      have ho : ops[i]? = some o := hi 0 i o (by simp) (by simp)
      simp only [List.cons_append, wpOpsIn, ho]
      have hw : Region.wanted o (yielded ops a.tmps) = true := by rw [yielded_of k hg hs]; simp
      simp only [hw, if_true]
      exact opW (fun a w k => k) (hj.2 C s a w h β Q _ (InvJ.nil _) (fun _ _ => rfl) (fun _ _ => rfl) hn k (fun a' w' h' β' k' => ih rest is a' w' h' β' (by simpa using hl) (fun j i' o' h1 h2 => hi (j + 1) i' o' (by simpa using h1) (by simpa using h2)) k' K))
  | @skip o l s s' Es d b hg hs hd r ih =>
    intro rest is a w h β hl hi k K
    cases is with
    | nil => simp at hl
    | cons i is =>
      have ho : ops[i]? = some o := hi 0 i o (by simp) (by simp)
      simp only [List.cons_append, wpOpsIn, ho]
      have hw : Region.wanted o (yielded ops a.tmps) = false := unwanted_of k hg hs
      simp only [hw, Bool.false_eq_true, if_false]
      exact ⟨fun _ _ => trivial, ih rest is _ w h β (by simpa using hl) (fun j i' o' h1 h2 => hi (j + 1) i' o' (by simpa using h1) (by simpa using h2)) (k.skip o.dst hd) K⟩
end
end Go.AL
/- Iterators: the yield itself, the contract. -/
namespace Go.AL
section
variable {P : Program} {tab : Tab} {n : Nat} {I : List Id} {l : Nat} {e : Nat → Option (List AV)} {N : Nat} {Q : Exit → Option Nat → St → Prop} {ph : Option Nat} {s s' : St} {C : Cx} {a a' : Act} {w w' : World} {h h' : Hp} {β β' : Bt}
variable {J : Nat → World → Hp → (Nat → Prop) → Prop} {Jx : World → Hp → (Nat → Prop) → Prop}
/-- at the yield: what it is handed; what comes behind it in its region -/
structure YieldQ (P : Program) (n l : Nat) (e : Nat → Option (List AV)) (N i : Nat) (ops : Array Oper) (o : Oper) (l2 : List Oper) (Q : Exit → Option Nat → St → Prop) (s : St) : Prop where
  out : (o.guard = none ∨ ∃ d b, gslot ops o = some (d, b) ∧ s.env d = .v (.bool b)) ∧ (∃ x args ts xs, o.op = .call { callee := .value x, args := ⟨args⟩, argTypes := ts } ∧ opd s x = .v (.func (.yield l) #[] #[]) ∧ e i = some xs ∧ LeL (opds s args) xs ∧ closedL (opds s args) = true) ∧
    (∀ d, o.dst = some d → d < n) ∧ (Fl P n ops ⟨false, []⟩ l2 ((Eff.mk (.v (.bool true)) [] [] [] []).app o.dst s) [] (fun ex s2 => ex = .normal ∧ (i + 1 < N → Q .normal (some (i + 1)) s2))) ∧
    Fl P n ops ⟨false, []⟩ l2 ((Eff.mk (.v (.bool false)) [] [] [] []).app o.dst s) [] (fun ex s2 => ex = .normal ∧ Q .normal none s2)
theorem fl_ok {ops : Array Oper} {l : List Oper} {s : St} {K : St → Prop} (k : Fl P n ops ⟨false, []⟩ l s [] (fun ex s => ex = .normal ∧ K s)) : ∃ Es s', Ch P n [] ops l s Es s' ∧ K s' := by
  rcases k.out with ⟨Es, s', hch, _, _, hK⟩ | ⟨_, _, _, _, _, _, _, _, _, _, _, _, _, hQf⟩
  · exact ⟨Es, s', hch, hK⟩
  · exact absurd (hQf rfl).1 (by simp)
theorem IWP.yieldR {id i : Nat} {ops : Array Oper} {o : Oper} {l1 l2 : List Oper} (hs : ops.toList = l1 ++ o :: l2)
    (k : Fl P n ops ⟨false, []⟩ l1 s [] (fun ex s1 => ex = .normal ∧ YieldQ P n l e N i ops o l2 Q s1)) : IWP P n I l e N (.region id ops false) Q (some i) s := ⟨fun J Jx E C a w h β hi hd b hh => by
  obtain ⟨Es, s1, hch, yq⟩ := fl_ok k
  obtain ⟨hgd, ⟨x, args, ts, xs, hop, hx, hei, hle, hcl⟩, hdst, kt, kf⟩ := yq.out
  obtain ⟨Et, st, cht, qt⟩ := fl_ok kt
  obtain ⟨Ef, sf, chf, qf⟩ := fl_ok kf
  have hr := b.reroot [] (β0 := C.β0) b.b0
  have ha : { a with defers := [] } = a := by cases a; simp only [Act.mk.injEq, true_and]; exact (b.defers.trans hd).symm
  rw [ha] at hr
  have hsz : ops.size = l1.length + (1 + l2.length) := by rw [← Array.length_toList, hs]; simp; omega
  have hlt : l1.length < ops.size := by omega
  have ho : ops[l1.length]? = some o := by
    have : ops.toList[l1.length]? = some o := by rw [hs, List.getElem?_append_right (Nat.le_refl _), Nat.sub_self]; rfl
    simpa using this
  have hrg : List.range ops.size = List.range l1.length ++ (l1.length :: List.range' (l1.length + 1) l2.length) := by
    rw [List.range_eq_range', List.range_eq_range', hsz, ← List.range'_append_1, Nat.zero_add, Nat.add_comm 1, List.range'_succ]
  refine wpIn_region ?_
  rw [hrg]
  refine wp_seq_opsW hch _ (List.range l1.length) a w h β (by simp) (fun j i o h1 h2 => ?_) hr (fun A0 A hA β1 b1 => ?_)
  · have hj : j < l1.length := (List.getElem?_eq_some_iff.1 h2).1
    rw [List.getElem?_range hj] at h1
    injection h1 with h1
    subst h1
    have : ops.toList[j]? = some o := by rw [hs, List.getElem?_append_left hj]; exact h2
    simpa using this
  have hh1 := E.hold hh b1.evo (own_step b1)
  simp only [wpOpsIn, ho]
  have hw : Region.wanted o (yielded ops A0.tmps) = true := by
    rcases hgd with hg | ⟨d, b', hg, hsb⟩
    · simp [Region.wanted, hg]
    · rw [yielded_of b1 hg hsb]; simp
  simp only [hw, if_true]
  have hxr := opd_rep b1 x
  rw [hx] at hxr
  simp only [Rep] at hxr
  have har : RepL hA noB xs (args.map A0.eval) := hle _ _ _ (RepL.closed _ _ hcl (opds_rep b1 args))
  obtain ⟨fn, tmps, asg, body, hyd, hR⟩ := E.round i xs A hA (ownM s1 β1) (args.map A0.eval).toArray hei b1.evo.has hh1 (by simpa using har)
  refine ⟨fun _ _ => trivial, ?_⟩
  show o.uponIn Fence.wide 0 P A0 _ _ ((execOp A0.eval o).run P A)
  have hex : (execOp A0.eval o).run P A = .ok (.round l fn tmps asg body) A := by
    simp only [execOp, hop, resolve, hxr, Deferred.ofValue, Sem.run_bind, Sem.run_pure, Result.andThen, invoke, List.map_toArray]
    simpa using hyd
  rw [hex]
  refine ⟨fun hd => (by cases hd), hR.mono fun en B hB => ?_⟩
  have tail : ∀ (t : Bool) (hB : Hp) (ph' : Option Nat) (s2 : St) (E2 : List Eff), Evo (fun g => ¬ ownM s1 β1 g) A hA B hB → Hold J Jx ph' B hB (ownM s1 β1) → Ch P n [] ops l2 ((Eff.mk (.v (.bool t)) [] [] [] []).app o.dst s1) E2 s2 →
      (∀ w' h' T, Hold J Jx ph' w' h' T → Q .normal ph' s2) → wpOpsIn Fence.wide 0 P ops (fun ex a' w' => ∃ C' ph' s' h' β', IniOk C' I ∧ C'.dfr = [] ∧ Base C' n s' a' w' h' β' ∧ Hold J Jx ph' w' h' (ownM s' β') ∧ Q ex ph' s') (List.range' (l1.length + 1) l2.length) (A0.put o.dst (.bool t)) B := by
    intro t hB ph' s2 E2 ev hh2 c2 q2
    have b2 := b1.rerootN ev (fun g hn ho => hn ho) [] (β0 := C.β0) b1.b0
    have ha2 : { A0 with defers := [] } = A0 := by cases A0; simp only [Act.mk.injEq, true_and]; exact b1.defers.symm
    rw [ha2] at b2
    have b3 := b2.val (v := .v (.bool t)) (u := .bool t) o.dst hdst rfl []
    have := wp_seq_opsW (Q := fun ex a' w' => ∃ C' ph' s' h' β', IniOk C' I ∧ C'.dfr = [] ∧ Base C' n s' a' w' h' β' ∧ Hold J Jx ph' w' h' (ownM s' β') ∧ Q ex ph' s') c2 [] (List.range' (l1.length + 1) l2.length) _ B hB β1 (by simp) (fun j i o h1 h2 => ?_) b3 (fun a' w' h' β' b4 => ⟨⟨B, hB, C.β0, ownM s1 β1, []⟩, ph', s2, h', β', hi, rfl, b4, E.hold hh2 b4.evo (own_step b4), q2 _ _ _ hh2⟩)
    · rwa [List.append_nil] at this
    · have hj : j < l2.length := (List.getElem?_eq_some_iff.1 h2).1
      rw [List.getElem?_range' hj] at h1
      injection h1 with h1
      subst h1
      have : ops.toList[l1.length + 1 + j]? = some o := by
        rw [hs, List.getElem?_append_right (by omega), show l1.length + 1 + j - l1.length = j + 1 by omega]; exact h2
      simpa using this
  obtain ⟨h2, ev, ⟨rfl, hJ⟩ | ⟨rfl, hJ⟩⟩ := hB
  · exact tail true h2 (some (i + 1)) st Et ev hJ cht fun w' h' T k => qt (E.bound _ _ _ _ k)
  · exact tail false h2 none sf Ef ev hJ chf fun w' h' T k => qf⟩
theorem base_init {args : List AV} {us : Array Value} {hp : Hp} (hw : Has w hp) (hr : RepL hp noB args us.toList) (hl : args.length ≤ n) : Base ⟨w, hp, noB, never, []⟩ n (St.init args) { tmps := us ++ Array.replicate (n - us.size) undef, defers := [] } w hp noB := by
  have hus : us.size = args.length := by rw [← Array.length_toList]; exact hr.length
  refine ⟨Evo.refl _ hw, Bt.le.refl _, fun i => ?_, fun id B hB => by simp [St.init] at hB, fun _ _ _ _ hB => by simp [St.init] at hB, fun _ _ _ hB => by simp [St.init] at hB, fun _ _ => rfl, by simp; omega, rfl⟩
  simp only [St.init]
  by_cases hi : i < us.size
  · have hget : (us ++ Array.replicate (n - us.size) undef).getD i undef = us[i] := by
      simp [Array.getD_eq_getD_getElem?, Array.getElem?_append, hi]
    rw [hget]
    have : ∀ (azs : List AV) (vs : List Value) (i : Nat) (v : Value), RepL hp noB azs vs → vs[i]? = some v → Rep hp noB (initE azs i) v := by
      intro azs
      induction azs with
      | nil => intro vs i v hr hv; simp only [RepL] at hr; subst hr; simp at hv
      | cons a azs ih =>
        intro vs i v hr hv
        simp only [RepL] at hr
        obtain ⟨u, r', rfl, h1, h2⟩ := hr
        cases i with
        | zero => simp at hv; subst hv; exact h1
        | succ i => exact ih r' i v h2 (by simpa using hv)
    exact this args us.toList i _ hr (by simp [hi])
  · have : ∀ (azs : List AV) (i : Nat), azs.length ≤ i → initE azs i = .any := by
      intro azs
      induction azs with
      | nil => intro i _; rfl
      | cons a azs ih => intro i hi; cases i with
        | zero => simp at hi
        | succ i => exact ih i (by simpa using hi)
    rw [this args i (by omega)]
    simp only [Rep]
/-- An iterator's contract, out of its body. -/
theorem IterFn.of_body [f : Facts P tab] {k : FuncId} {fn : Func} {c : Code} {caps : List AV} (hf : P.funcs[k]? = some fn) (hb : fn.body = some c) (hn : fn.ntmps = n) (hname : (fn.name == "runtime.NumGoroutine") = false) (hl : Nat.ble (caps.length + 1) n = true) (hres : fn.results.toList = [])
    (hk : ∀ l, IWP P n [] l e N c (fun ex ph _ => (ex = .normal ∨ ex = .ret) ∧ ∀ i, ph = some i → e i = none) (some 0) (St.init (.v (.func (.yield l) #[] #[]) :: caps))) : IterFn P k caps e N := by
  have hl := Nat.le_of_ble_eq_true hl
  refine ⟨⟨fn, hf, hname, by rw [hb]; rfl⟩, fun W h us l J Jx hw hr stab stabx round bound h0 => ?_⟩
  refine callsIn_wide.1 (callsIn_of_wp (F := Fence.wide) (n := 0) hf hb trivial ?_ rfl)
  have hr2 : RepL h noB (.v (.func (.yield l) #[] #[]) :: caps) (#[Value.func (.yield l) #[] #[]] ++ us).toList := by
    simp only [RepL, Array.toList_append]
    exact ⟨_, us.toList, rfl, rfl, hr⟩
  have hbase := base_init hw hr2 (n := n) (by simp; omega)
  subst hn
  have E : ItEnv P l e N J Jx := ⟨stab, stabx, round, bound⟩
  have hh : Hold J Jx (some 0) W h (ownM (St.init (.v (.func (.yield l) #[] #[]) :: caps)) noB) := E.hold (ph := some 0) h0 (Evo.refl never hw) fun g ⟨id, B, k, _⟩ => by simp [St.init] at k
  refine wpIn_mono ((hk l).out J Jx E _ _ W h noB (fun id hid => (hid rfl).elim) rfl hbase hh) fun ex a' w' ⟨C', ph', s', h', β', i1, i2, b, hh, q1, q2⟩ => ?_
  have fin : a'.defers = [] ∧ ∃ v, (results fn a'.tmps).run P w' = .ok v w' ∧ ∃ v' hB T, Ending.returned v = .returned v' ∧ ((∃ i, e i = none ∧ J i w' hB T) ∨ Jx w' hB T) := by
    obtain ⟨v, hv, _⟩ := results_ok (P := P) (fn := fn) b (r := .tup []) (by rw [hres]; rfl)
    refine ⟨b.defers.trans i2, v, hv, v, h', ownM s' β', rfl, ?_⟩
    cases ph' with
    | none => exact .inr hh
    | some i => exact .inl ⟨i, q2 i rfl, hh⟩
  rcases q1 with rfl | rfl
  · exact fin
  · exact fin
end
end Go.AL
/- Iterators, rounds, functions with loops: joined to the walk of regions. -/
namespace Go.AL
section
variable {P : Program} {tab : Tab} {n : Nat} {I : List Id} {l : Nat} {e : Nat → Option (List AV)} {N : Nat} {ph : Option Nat} {s : St}
theorem IWP.seqL {c d : Code} {Q : Exit → Option Nat → St → Prop} (k : AWP P n I c (AThen (fun s => Stop (IWP P n I l e N d Q ph s)) (fun ex s => Q ex ph s)) s) : IWP P n I l e N (.seq c d) Q ph s :=
  IWP.seq (IWP.lift k fun ex s q => by
    cases ex with
    | normal => exact q.out
    | _ => exact q)
theorem FWP.seqL {c d : Code} {Q : Exit → St → Prop} (k : AWP P n I c (AThen (fun s => Stop (FWP P n I d Q s)) Q) s) : FWP P n I (.seq c d) Q s :=
  FWP.seq (FWP.lift (k.mono fun ex s q => by
    cases ex with
    | normal => exact q.out
    | _ => exact q))
theorem RWP.seqR [f : Facts P tab] {id : Nat} {ops : Array Oper} {draw : Bool} {d : Code} {Q : Exit → St → Prop} (hnd : noDefer ops = true) (k : Fl P n ops ⟨draw, []⟩ ops.toList s [] (fun ex s => ex = .normal ∧ RWP P n I l d Q s)) : RWP P n I l (.seq (.region id ops draw) d) Q s :=
  RWP.seq (RWP.region (K := fun s => RWP P n I l d Q s) hnd (fun s k => k) k)
theorem IWP.yieldT {Q : Exit → Option Nat → St → Prop} {id i : Nat} {ops : Array Oper} {o : Oper} {l2 : List Oper} (m : Nat) (hs : ops.toList.drop m = o :: l2)
    (k : Fl P n ops ⟨false, []⟩ (ops.toList.take m) s [] (fun ex s1 => ex = .normal ∧ YieldQ P n l e N i ops o l2 Q s1)) : IWP P n I l e N (.region id ops false) Q (some i) s :=
  IWP.yieldR (by rw [← hs, List.take_append_drop]) k
theorem IWP.last {c : Code} {Q : Exit → Option Nat → St → Prop} (k : AWP P n I c (fun ex s => Q ex ph s) s) : IWP P n I l e N c Q ph s := IWP.lift k fun _ _ q => q
theorem Ent.anyS {s' : St} (he : Ent n I s s') : Ent n I s (Go.AL.anyS s') := fun C a w hp β hi b =>
  let ⟨h', β', b'⟩ := he C a w hp β hi b
  ⟨h', β', ⟨b'.evo, b'.b0, fun _ => by simp only [Go.AL.anyS, Rep], b'.box, b'.apart, b'.own, b'.dom, b'.size, b'.defers⟩⟩
theorem lookE_within {ids : List Id} : ∀ {m : List (Nat × AV)}, (m.all fun p => p.2.within ids) = true → ∀ t, (lookE m t).within ids = true
  | [], _, _ => rfl
  | (j, v) :: m, h, t => by
    simp only [List.all_cons, Bool.and_eq_true] at h
    rw [lookE]
    cases Nat.beq t j with
    | true => exact h.1
    | false => exact lookE_within h.2 t
end
end Go.AL
/- Division by words: plain. -/
namespace Go.AL
/-- a quotient's digit: what the estimate keeps -/
theorem kn_step {q r v1 v2 top u2 un V U Q Bn : Int} (hqr : q * v1 + r = top) (hr : 0 ≤ r) (hBn : 0 < Bn) (hV : (v1 * 4294967296 + v2) * Bn ≤ V) (hU : U < (top * 4294967296 + u2 + 1) * Bn) (hQ : Q * V ≤ U) (hQB : Q < 4294967296) (hV0 : 0 < V) (hv1 : 0 < v1) (hv2 : 0 ≤ v2) (hq0 : 0 ≤ q)
    (h : 4294967296 ≤ q ∨ r * 4294967296 + u2 < q * v2) : Q ≤ q - 1 := by
  rcases h with h | h
  · omega
  · have h1 : (q * v1 * 4294967296 + q * v2) * Bn ≤ q * V := by
      have e : (q * v1 * 4294967296 + q * v2) * Bn = q * ((v1 * 4294967296 + v2) * Bn) := by grind
      rw [e]
      exact Int.mul_le_mul_of_nonneg_left hV hq0
    have h2 : (top * 4294967296 + u2 + 1) * Bn ≤ (q * v1 * 4294967296 + q * v2) * Bn := by
      refine Int.mul_le_mul_of_nonneg_right ?_ (by omega)
      have : top * 4294967296 = q * v1 * 4294967296 + r * 4294967296 := by rw [← hqr]; grind
      omega
    have h3 : Q * V < q * V := by omega
    have h4 : Q < q := Int.lt_of_mul_lt_mul_right h3 (by omega)
    omega
/-- when the estimate stops, it is one too great at most -/
theorem kn_stop {q r v1 v2 top u2 V U Q Bn : Int} (hqr : q * v1 + r = top) (hBn : 0 < Bn) (hV : V < (v1 * 4294967296 + v2 + 1) * Bn) (hVB : 4294967296 * Bn ≤ V) (hU : (top * 4294967296 + u2) * Bn ≤ U) (hQ : U < (Q + 1) * V) (hV0 : 0 < V) (hq0 : 0 ≤ q) (hqB : q < 4294967296)
    (h : q * v2 ≤ r * 4294967296 + u2) (hQ0 : 0 ≤ Q) : q ≤ Q + 1 := by
  have h1 : q * V ≤ q * ((v1 * 4294967296 + v2 + 1) * Bn) := Int.mul_le_mul_of_nonneg_left (by omega) hq0
  have h2 : q * ((v1 * 4294967296 + v2 + 1) * Bn) ≤ (top * 4294967296 + u2) * Bn + 4294967296 * Bn := by
    have e : q * ((v1 * 4294967296 + v2 + 1) * Bn) = (q * v1 * 4294967296 + q * v2 + q) * Bn := by grind
    rw [e, ← Int.add_mul]
    refine Int.mul_le_mul_of_nonneg_right ?_ (by omega)
    have : top * 4294967296 = q * v1 * 4294967296 + r * 4294967296 := by rw [← hqr]; grind
    omega
  have h3 : q * V ≤ U + V := by omega
  have h4 : q * V < (Q + 1) * V + V := by omega
  have h5 : q * V < (Q + 2) * V := by
    have : (Q + 2) * V = (Q + 1) * V + V := by grind
    omega
  have h6 : q < Q + 2 := Int.lt_of_mul_lt_mul_right h5 (by omega)
  omega
end Go.AL
/- Division by words: a digit's subtraction; words of a given number. -/
namespace Go.AL
/-- so many words of a number -/
def wdW : Nat → Int → List Int
  | 0, _ => []
  | n + 1, z => z % 4294967296 :: wdW n (z / 4294967296)
theorem wdW_length : ∀ (n : Nat) (z : Int), (wdW n z).length = n
  | 0, _ => rfl
  | n + 1, z => by simp [wdW, wdW_length n]
theorem wdW_ok : ∀ (n : Nat) (z : Int), WOk (wdW n z)
  | 0, _ => WOk.nil
  | n + 1, z => WOk.cons (by omega) (by omega) (wdW_ok n _)
theorem val_wdW : ∀ (n : Nat) (z : Int), 0 ≤ z → z < BB n → val (wdW n z) = z
  | 0, z, h0, h1 => by simp only [BB_zero] at h1; simp only [wdW, val]; omega
  | n + 1, z, h0, h1 => by
    rw [BB_succ] at h1
    have := val_wdW n (z / 4294967296) (by omega) (by omega)
    simp only [wdW, val, this]; omega
theorem wdW_eq : ∀ {l : List Int}, WOk l → l = wdW l.length (val l)
  | [], _ => rfl
  | x :: l, h => by
    have h1 := h.head
    have ih := wdW_eq h.tail
    simp only [List.length_cons, wdW, val]
    have e1 : (x + 4294967296 * val l) % 4294967296 = x := by omega
    have e2 : (x + 4294967296 * val l) / 4294967296 = val l := by omega
    rw [e1, e2, ← ih]
/-- one word of the subtraction of a multiple -/
theorem sub_step {lo m v : List Int} {i : Nat} {q b x y w b' : Int} (hlo : lo.length = i) (hm : m[i]? = some y) (hv : v[i]? = some x) (hval : val lo = val (m.take i) - q * val (v.take i) + b * BB i) (hw : w + (q * x + b) = y + 4294967296 * b') :
    val (lo ++ [w]) = val (m.take (i + 1)) - q * val (v.take (i + 1)) + b' * BB (i + 1) := by
  have hmi : (m.take i).length = i := by have := (List.getElem?_eq_some_iff.1 hm).1; simp; omega
  have hvi : (v.take i).length = i := by have := (List.getElem?_eq_some_iff.1 hv).1; simp; omega
  have t1 : m.take (i + 1) = m.take i ++ [y] := by rw [List.take_add_one, hm]; rfl
  have t2 : v.take (i + 1) = v.take i ++ [x] := by rw [List.take_add_one, hv]; rfl
  rw [val_snoc, t1, t2, val_snoc, val_snoc, hmi, hvi, hlo, hval, BB_succ]
  have : w = y + 4294967296 * b' - (q * x + b) := by omega
  rw [this]
  grind
/-- one word of an addition -/
theorem add_step {lo m v : List Int} {i : Nat} {c x y w c' : Int} (hlo : lo.length = i) (hm : m[i]? = some y) (hv : v[i]? = some x) (hval : val lo + c * BB i = val (m.take i) + val (v.take i)) (hw : w + 4294967296 * c' = y + x + c) :
    val (lo ++ [w]) + c' * BB (i + 1) = val (m.take (i + 1)) + val (v.take (i + 1)) := by
  have hmi : (m.take i).length = i := by have := (List.getElem?_eq_some_iff.1 hm).1; simp; omega
  have hvi : (v.take i).length = i := by have := (List.getElem?_eq_some_iff.1 hv).1; simp; omega
  have t1 : m.take (i + 1) = m.take i ++ [y] := by rw [List.take_add_one, hm]; rfl
  have t2 : v.take (i + 1) = v.take i ++ [x] := by rw [List.take_add_one, hv]; rfl
  rw [val_snoc, t1, t2, val_snoc, val_snoc, hmi, hvi, hlo, BB_succ]
  have : w = y + x + c - 4294967296 * c' := by omega
  rw [this]
  have h2 : val lo = val (m.take i) + val (v.take i) - c * BB i := by omega
  rw [h2]
  grind
end Go.AL
/- Division by words: the highest words; a digit's end. -/
namespace Go.AL
theorem take_top {l : List Int} {k : Nat} {x : Int} (h : l[k]? = some x) : l.take (k + 1) = l.take k ++ [x] := by rw [List.take_add_one, h]; rfl
theorem val_top {l : List Int} {k : Nat} {x : Int} (h : l[k]? = some x) : val (l.take (k + 1)) = val (l.take k) + BB k * x := by
  have hl : (l.take k).length = k := by have := (List.getElem?_eq_some_iff.1 h).1; simp; omega
  rw [take_top h, val_snoc, hl]
theorem val_bounds {l : List Int} {k : Nat} (w : WOk l) (h : k ≤ l.length) : 0 ≤ val (l.take k) ∧ val (l.take k) < BB k := by
  refine ⟨val_nonneg (w.take k), ?_⟩
  have := val_lt (w.take k)
  rwa [List.length_take, Nat.min_eq_left h] at this
/-- the three highest words of m, the two highest ones of v -/
theorem dig_facts {m v : List Int} {k : Nat} (hm : m.length = k + 3) (hv : v.length = k + 2) (wm : WOk m) (wv : WOk v) {un u1 u2 v1 v2 : Int} (e0 : m[k + 2]? = some un) (e1 : m[k + 1]? = some u1) (e2 : m[k]? = some u2) (f1 : v[k + 1]? = some v1) (f2 : v[k]? = some v2) :
    (v1 * 4294967296 + v2) * BB k ≤ val v ∧ val v < (v1 * 4294967296 + v2 + 1) * BB k ∧ ((un * 4294967296 + u1) * 4294967296 + u2) * BB k ≤ val m ∧ val m < ((un * 4294967296 + u1) * 4294967296 + u2 + 1) * BB k := by
  have h1 : val v = val (v.take k) + BB k * v2 + BB (k + 1) * v1 := by
    have a := val_top f1
    rw [show k + 1 + 1 = k + 2 from rfl, ← hv, List.take_length, val_top f2] at a
    exact a
  have h2 : val m = val (m.take k) + BB k * u2 + BB (k + 1) * u1 + BB (k + 2) * un := by
    have a := val_top e0
    rw [show k + 2 + 1 = k + 3 from rfl, ← hm, List.take_length, show k + 2 = k + 1 + 1 from rfl, val_top e1, val_top e2] at a
    exact a
  have b1 := val_bounds (k := k) wv (by omega)
  have b2 := val_bounds (k := k) wm (by omega)
  rw [show k + 2 = k + 1 + 1 from rfl] at h2
  simp only [BB_succ] at h1 h2
  rw [h1, h2]
  refine ⟨?_, ?_, ?_, ?_⟩ <;> grind
/-- the quotient of numbers, by what it is between -/
theorem quo_between {U V q : Int} (hV : 0 < V) (h1 : q * V ≤ U) (h2 : U < (q + 1) * V) : q = U / V := by
  have a : U / V * V ≤ U := by have := Int.mul_ediv_add_emod U V; have := Int.emod_nonneg U (show V ≠ 0 by omega); have e : V * (U / V) = U / V * V := Int.mul_comm _ _; omega
  have b : U < (U / V + 1) * V := by
    have := Int.mul_ediv_add_emod U V
    have := Int.emod_lt_of_pos U hV
    have e : V * (U / V) = U / V * V := Int.mul_comm _ _
    rw [Int.add_mul]; omega
  have c : q < U / V + 1 := Int.lt_of_mul_lt_mul_right (Int.lt_of_le_of_lt h1 b) (by omega)
  have d : U / V < q + 1 := Int.lt_of_mul_lt_mul_right (Int.lt_of_le_of_lt a h2) (by omega)
  omega
theorem quo_spec {U V : Int} (hV : 0 < V) (hU : 0 ≤ U) : U / V * V ≤ U ∧ U < (U / V + 1) * V ∧ 0 ≤ U / V ∧ U % V = U - U / V * V := by
  have h1 := Int.mul_ediv_add_emod U V
  have h2 := Int.emod_nonneg U (show V ≠ 0 by omega)
  have h3 := Int.emod_lt_of_pos U hV
  have e : V * (U / V) = U / V * V := Int.mul_comm _ _
  refine ⟨by omega, by rw [Int.add_mul]; omega, Int.ediv_nonneg hU (by omega), by omega⟩
/-- the estimate served -/
theorem dig_end0 {U V q : Int} (hV : 0 < V) (hU : 0 ≤ U) (h1 : U / V ≤ q) (h2 : q ≤ U / V + 1) (h : 0 ≤ U - q * V) : q = U / V ∧ U - q * V = U % V := by
  obtain ⟨a, b, c, d⟩ := quo_spec hV hU
  have hq : q = U / V := by
    rcases (show q = U / V ∨ q = U / V + 1 by omega) with h3 | h3
    · exact h3
    · rw [h3] at h; omega
  exact ⟨hq, by rw [d, hq]⟩
/-- it was one too great -/
theorem dig_end1 {U V q : Int} (hV : 0 < V) (hU : 0 ≤ U) (h1 : U / V ≤ q) (h2 : q ≤ U / V + 1) (h : U - q * V < 0) : q - 1 = U / V ∧ U - q * V + V = U % V := by
  obtain ⟨a, b, c, d⟩ := quo_spec hV hU
  have hq : q = U / V + 1 := by
    rcases (show q = U / V ∨ q = U / V + 1 by omega) with h3 | h3
    · rw [h3] at h; omega
    · exact h3
  refine ⟨by omega, ?_⟩
  rw [d, hq, Int.add_mul]; omega
end Go.AL
/- Division by a word, shifts by binary digits: plain. -/
namespace Go.AL
/-- one word of a division by a word, from the highest one down -/
theorem over_step {A os : List Int} {i : Nat} {b r x : Int} (hx : A[i]? = some x) (h : val (A.drop (i + 1)) = val os * b + r) :
    val (A.drop i) = val ((r * 4294967296 + x) / b :: os) * b + (r * 4294967296 + x) % b := by
  have hd : A.drop i = x :: A.drop (i + 1) := by
    have hi := (List.getElem?_eq_some_iff.1 hx)
    rw [List.drop_eq_getElem_cons hi.1, hi.2]
  have hm := Int.mul_ediv_add_emod (r * 4294967296 + x) b
  rw [hd]
  simp only [val]
  rw [h]
  grind
theorem over_word {b r x : Int} (hb : 0 < b) (h0 : 0 ≤ r) (h1 : r < b) (h2 : 0 ≤ x) (h3 : x < 4294967296) : 0 ≤ (r * 4294967296 + x) / b ∧ (r * 4294967296 + x) / b < 4294967296 := by
  refine ⟨Int.ediv_nonneg (by omega) (by omega), Int.ediv_lt_of_lt_mul hb ?_⟩
  have : r * 4294967296 + x < (r + 1) * 4294967296 := by omega
  have h4 : (r + 1) * 4294967296 ≤ b * 4294967296 := Int.mul_le_mul_of_nonneg_right (by omega) (by omega)
  rw [Int.mul_comm]; omega
theorem over_end {V Q b r : Int} (h : V = Q * b + r) (h0 : 0 ≤ r) (h1 : r < b) : Q = V / b ∧ r = V % b := by
  have hq : Q = V / b := quo_between (by omega) (by omega) (by rw [Int.add_mul]; omega)
  refine ⟨hq, ?_⟩
  have := Int.mul_ediv_add_emod V b
  have e : b * (V / b) = V / b * b := Int.mul_comm _ _
  rw [← hq] at e
  rw [← hq] at this
  omega
theorem or_low {r x : Int} (h0 : 0 ≤ r) (h1 : r < 4294967296) (h2 : 0 ≤ x) (h3 : x < 4294967296) : bitN .or (r * 4294967296 % 18446744073709551616) x = r * 4294967296 + x := by
  show (((r * 4294967296 % 18446744073709551616).toNat ||| x.toNat : Nat) : Int) = _
  have e : (r * 4294967296 % 18446744073709551616).toNat = r.toNat <<< 32 := by rw [Nat.shiftLeft_eq]; omega
  rw [e, ← Nat.shiftLeft_add_eq_or_of_lt (by omega : x.toNat < 2 ^ 32), Nat.shiftLeft_eq]
  omega
/-- the carry of a shift to the left fits below -/
theorem or_carry {c x : Int} {k : Nat} (hk : k < 32) (h0 : 0 ≤ c) (h1 : c < 2 ^ k) (h2 : 0 ≤ x) (h3 : x < 4294967296) : bitN .or c (x * 2 ^ k % 4294967296) = c + x * 2 ^ k % 4294967296 ∧ c + x * 2 ^ k % 4294967296 < 4294967296 := by
  have hp : (2 : Int) ^ k = ((2 ^ k : Nat) : Int) := by norm_cast
  have hs : (2 : Int) ^ 32 = 2 ^ k * 2 ^ (32 - k) := by rw [← Int.pow_add]; congr 1; omega
  have hs' : (4294967296 : Int) = 2 ^ k * 2 ^ (32 - k) := by rw [← hs]; rfl
  have e : x * 2 ^ k % 4294967296 = (x % 2 ^ (32 - k)) * 2 ^ k := by
    rw [hs', Int.mul_comm x, Int.mul_emod_mul_of_pos _ _ (Int.pow_pos (by omega)), Int.mul_comm]
  have hx := Int.emod_nonneg x (show (2 : Int) ^ (32 - k) ≠ 0 from Int.ne_of_gt (Int.pow_pos (by omega)))
  have hx2 := Int.emod_lt_of_pos x (show (0 : Int) < 2 ^ (32 - k) from Int.pow_pos (by omega))
  obtain ⟨m, hm⟩ : ∃ m : Nat, x % 2 ^ (32 - k) = m := ⟨_, (Int.toNat_of_nonneg hx).symm⟩
  obtain ⟨d, hd⟩ : ∃ d : Nat, c = d := ⟨_, (Int.toNat_of_nonneg h0).symm⟩
  rw [e, hm, hd]
  rw [hd, hp] at h1
  rw [hm] at hx2
  constructor
  · show (((d : Int).toNat ||| ((m : Int) * 2 ^ k).toNat : Nat) : Int) = _
    have e2 : ((m : Int) * 2 ^ k).toNat = m <<< k := by rw [Nat.shiftLeft_eq, hp, ← Int.natCast_mul, Int.toNat_natCast]
    rw [e2, Int.toNat_natCast, Nat.or_comm, ← Nat.shiftLeft_add_eq_or_of_lt (by exact_mod_cast h1), Nat.shiftLeft_eq, hp, ← Int.natCast_mul, ← Int.natCast_add, Nat.add_comm]
  · have h4 : ((m : Int) + 1) * 2 ^ k ≤ 2 ^ (32 - k) * 2 ^ k := Int.mul_le_mul_of_nonneg_right (by omega) (Int.le_of_lt (Int.pow_pos (by omega)))
    rw [Int.mul_comm (2 ^ (32 - k)), ← hs'] at h4
    rw [hp] at h4 ⊢
    rw [Int.add_mul] at h4
    omega
/-- one word of a shift to the left -/
theorem left_step {A P : List Int} {i : Nat} {c x B w c' S : Int} (hx : A[i]? = some x) (hB : BB P.length = B * BB i) (h : val P + BB P.length * c = B * S * val (A.take i)) (hw : w + 4294967296 * c' = c + x * S) :
    val (P ++ [w]) + BB (P ++ [w]).length * c' = B * S * val (A.take (i + 1)) := by
  have e : (P ++ [w]).length = P.length + 1 := by simp
  rw [e, val_snoc, val_take_succ hx, BB_succ]
  have e2 : w = c + x * S - 4294967296 * c' := by omega
  rw [e2]
  have e3 : B * S * (val (A.take i) + BB i * x) = B * S * val (A.take i) + (B * BB i) * (x * S) := by grind
  rw [e3, ← h, ← hB]
  grind
/-- a shift to the right, word by word -/
theorem right_step {A os : List Int} {i : Nat} {k : Nat} {w V : Int} (hk : k < 32) (wA : WOk A) (hV : V = val A) (hlen : os.length = i) (h : val os = V / 2 ^ k % BB i) (hi : i < A.length)
    (hw : w = val (A.drop i) / 2 ^ k % 4294967296) : val (os ++ [w]) = V / 2 ^ k % BB (i + 1) := by
  have hsp : V = val (A.take i) + BB i * val (A.drop i) := by
    rw [hV]
    conv => lhs; rw [← List.take_append_drop i A, val_append]
    rw [List.length_take, Nat.min_eq_left (by omega)]
  have hb := val_bounds (k := i) wA (by omega)
  have hB := BB_pos i
  have h2 : (0 : Int) < 2 ^ k := Int.pow_pos (by omega)
  have e1 : V / BB i = val (A.drop i) := by
    rw [hsp, Int.add_mul_ediv_left _ _ (by omega), Int.ediv_eq_zero_of_lt hb.1 hb.2]; omega
  have e2 : V / 2 ^ k / BB i = val (A.drop i) / 2 ^ k := by
    rw [← e1, Int.ediv_ediv_of_nonneg (by omega), Int.ediv_ediv_of_nonneg (by omega), Int.mul_comm]
  rw [val_snoc, hlen, h, hw, ← e2, BB_succ]
  generalize V / 2 ^ k = U
  have a1 := Int.mul_ediv_add_emod U (BB i)
  have a2 := Int.mul_ediv_add_emod (U / BB i) 4294967296
  have a3 := Int.emod_nonneg U (show BB i ≠ 0 by omega)
  have a4 := Int.emod_lt_of_pos U hB
  have a5 := Int.emod_nonneg (U / BB i) (show (4294967296 : Int) ≠ 0 by omega)
  have a6 := Int.emod_lt_of_pos (U / BB i) (show (0 : Int) < 4294967296 by omega)
  have e : U = U % BB i + BB i * (U / BB i % 4294967296) + 4294967296 * BB i * (U / BB i / 4294967296) := by
    conv => lhs; rw [← a1, ← a2]
    grind
  have hlt : U % BB i + BB i * (U / BB i % 4294967296) < 4294967296 * BB i := by
    have : BB i * (U / BB i % 4294967296) ≤ BB i * 4294967295 := Int.mul_le_mul_of_nonneg_left (by omega) (by omega)
    omega
  have hnn : 0 ≤ U % BB i + BB i * (U / BB i % 4294967296) := Int.add_nonneg a3 (Int.mul_nonneg (by omega) a5)
  conv => rhs; rw [e]
  rw [Int.add_mul_emod_self_left, Int.emod_eq_of_lt hnn hlt]
end Go.AL
/- A byte of a fixed string; bits.Len32, bits.LeadingZeros32. -/
namespace Go.AL
section
variable {P : Program} {tab : Tab} {n : Nat} {s : St}
variable {ops : Array Oper} {draw : Dr} {o : Oper} {l : List Oper} {acc : List Eff} {K : Exit → St → Prop}
theorem Fl.ixS [f : Facts P tab] {t : TypeId} {x y : Operand} (hop : o.op = .index t x y) {sz' by' : Nat} {z : List Value} (hts : tab t = some ⟨.string, sz', by', z⟩) {d : ByteArray} (hx : opd s x = .v (.string d)) {k : IntKind} {m : Int} (hy : opd s y = .v (.int k m)) (q : Nat) (hg : gOk ops s o = true) (hd : dOk n o.dst = true) (h0 : 0 ≤ m) (hv : (d[m.toNat]?).map (·.toNat) = some q)
    (r : Fl P n ops draw l ((Eff.mk (.v (.int .u8 q)) [] [] [] []).app o.dst s) (Eff.mk (.v (.int .u8 q)) [] [] [] [] :: acc) K) : Fl P n ops draw (o :: l) s acc K := by
  refine Fl.opv hg (OpJ.of_run (dOk_lt hd) fun C s' a w h β ho _ b => ?_) r
  have hxr := opd_rep b x
  have hyr := opd_rep b y
  rw [ho x (by simp [hop, Op.operands]), hx] at hxr
  rw [ho y (by simp [hop, Op.operands]), hy] at hyr
  simp only [Rep] at hxr hyr
  have hu := (f.tabOk _ _ hts).und
  simp only at hu
  obtain ⟨c, hc, hq⟩ := Option.map_eq_some_iff.1 hv
  refine ⟨.int .u8 q, ?_, by simp only [Rep]⟩
  simp only [execOp, hop, hxr, hyr, Instr.index, asIntOf, Sem.run_bind, Sem.run_pure, Result.andThen, run_underlying hu]
  rw [if_pos h0, hc]
  simp only [Sem.run_pure, hq]
end
/-- how many binary digits -/
def lenB (n : Nat) : Nat := if n = 0 then 0 else Nat.log2 n + 1
theorem lenB_shift {n k : Nat} (h : 2 ^ k ≤ n) : lenB n = lenB (n / 2 ^ k) + k := by
  have h2 : 0 < 2 ^ k := Nat.two_pow_pos k
  have hq : n / 2 ^ k ≠ 0 := by have := Nat.div_pos h h2; omega
  have hn : n ≠ 0 := by omega
  unfold lenB
  rw [if_neg hn, if_neg hq]
  have : n.log2 = (n / 2 ^ k).log2 + k := by
    rw [Nat.log2_eq_iff hn]
    have a1 := Nat.log2_self_le hq
    have a2 := @Nat.lt_log2_self (n / 2 ^ k)
    constructor
    · rw [Nat.pow_add]
      have := Nat.mul_le_mul_right (2 ^ k) a1
      have := Nat.div_mul_le_self n (2 ^ k)
      omega
    · have b1 : n / 2 ^ k < 2 ^ ((n / 2 ^ k).log2 + 1) := a2
      have := (Nat.div_lt_iff_lt_mul h2).1 b1
      rw [show (n / 2 ^ k).log2 + k + 1 = (n / 2 ^ k).log2 + 1 + k by omega, Nat.pow_add]
      exact this
  omega
theorem lenB_spec {n : Nat} (h : n ≠ 0) : 1 ≤ lenB n ∧ 2 ^ (lenB n - 1) ≤ n ∧ n < 2 ^ lenB n := by
  unfold lenB
  rw [if_neg h]
  exact ⟨by omega, Nat.log2_self_le h, Nat.lt_log2_self⟩
theorem lenB_le {n k : Nat} (h : n < 2 ^ k) : lenB n ≤ k := by
  rcases Nat.eq_zero_or_pos n with h0 | h0
  · subst h0; simp [lenB]
  · obtain ⟨a, b, c⟩ := lenB_spec (n := n) (by omega)
    have := (Nat.pow_lt_pow_iff_right (a := 2) (by omega)).1 (Nat.lt_of_le_of_lt b h)
    omega
theorem tab_of {d : ByteArray} {f : Nat → Nat} (h : (List.range 256).all (fun y => match d[y]? with | some b => Nat.beq b.toNat (f y) | none => false) = true) {y : Nat} (hy : y < 256) : (d[(y : Int).toNat]?).map (·.toNat) = some (f y) := by
  have := List.all_eq_true.1 h y (List.mem_range.2 hy)
  rw [Int.toNat_natCast]
  split at this
  · rename_i b hb
    rw [hb]
    exact congrArg some (Nat.eq_of_beq_eq_true this)
  · cases this
end Go.AL
namespace Go.Proofs.YtcaecieigoplbaaGreat
open Go.AL
set_option maxRecDepth 100000 in
theorem Len32_ok (x : Nat) (h : x < 4294967296) : PureFn Tryz.prog 210 [.v (.int .u32 x)] (aN (lenB x)) := by
  refine PureFn.of_body Tryz.func210 rfl Tryz.ntmps210 rfl rfl ?_
  refine AWP.seqS ?_
  repeat' (first |refine Fl.v rfl rfl rfl ?_ |refine Fl.nilF ?_ |refine AWP.region ?_ |fail)
  refine ⟨?_⟩
  refine AWP.seqJ (G := Nat × Nat) (fun (y, k) => y < 65536 ∧ k ≤ 16 ∧ lenB x = lenB y + k) (fun (y, k) => St.of [] [(0, .v (.int .u32 y)), (2, aN k)] []) ?_ ?_
  · repeat' (first |refine Fl.v rfl rfl rfl ?_ |refine Fl.nilF ?_ |refine AWP.seq ?_ |refine AWP.region ?_ |refine Fl.w rfl rfl rfl (by first | exact True.intro | omega) ?_ |(refine AWP.condD rfl ?_ ?_ <;> intro _ <;> try (exfalso; omega)) |refine AWP.skip ?_ |fail)
    · refine JoinOk.of (x / 65536, 16) ⟨by omega, by omega, lenB_shift (k := 16) (by omega)⟩ ?_
      refine Ent.of [] ?_ ?_ rfl rfl
      repeat' (first | exact True.intro |refine ⟨⟨AV.Le.refl _, rfl⟩, ?_⟩ |refine ⟨⟨AV.Le.any _, rfl⟩, ?_⟩ |refine ⟨⟨⟨_, rfl, BLe.cells (LeL.refl _)⟩, rfl⟩, ?_⟩ |refine ⟨⟨⟨_, rfl, BLe.row rfl⟩, rfl⟩, ?_⟩ |refine ⟨⟨⟨_, rfl, BLe.row ?_⟩, rfl⟩, ?_⟩ |refine ⟨⟨⟨_, rfl, BLe.cells ?_⟩, rfl⟩, ?_⟩ |refine ⟨⟨AV.Le.int ?_, rfl⟩, ?_⟩ |refine ⟨⟨AV.Le.bool ?_, rfl⟩, ?_⟩ |refine ⟨⟨AV.Le.sl ?_, rfl⟩, ?_⟩ |refine ⟨⟨AV.Le.of_eq ?_, rfl⟩, ?_⟩ | fail)
    · refine JoinOk.of (x, 0) ⟨by omega, by omega, rfl⟩ ?_
      refine Ent.of [] ?_ ?_ rfl rfl
      repeat' (first | exact True.intro |refine ⟨⟨AV.Le.refl _, rfl⟩, ?_⟩ |refine ⟨⟨AV.Le.any _, rfl⟩, ?_⟩ |refine ⟨⟨⟨_, rfl, BLe.cells (LeL.refl _)⟩, rfl⟩, ?_⟩ |refine ⟨⟨⟨_, rfl, BLe.row rfl⟩, rfl⟩, ?_⟩ |refine ⟨⟨⟨_, rfl, BLe.row ?_⟩, rfl⟩, ?_⟩ |refine ⟨⟨⟨_, rfl, BLe.cells ?_⟩, rfl⟩, ?_⟩ |refine ⟨⟨AV.Le.int ?_, rfl⟩, ?_⟩ |refine ⟨⟨AV.Le.bool ?_, rfl⟩, ?_⟩ |refine ⟨⟨AV.Le.sl ?_, rfl⟩, ?_⟩ |refine ⟨⟨AV.Le.of_eq ?_, rfl⟩, ?_⟩ | fail)
  · intro ⟨y, k⟩ ⟨h0, h1, h2⟩
    refine AWP.seqJ (G := Nat × Nat) (fun (y, k) => y < 256 ∧ k ≤ 24 ∧ lenB x = lenB y + k) (fun (y, k) => St.of [] [(0, .v (.int .u32 y)), (2, aN k)] []) ?_ ?_
    · repeat' (first |refine Fl.v rfl rfl rfl ?_ |refine Fl.nilF ?_ |refine AWP.seq ?_ |refine AWP.region ?_ |refine Fl.w rfl rfl rfl (by first | exact True.intro | omega) ?_ |(refine AWP.condD rfl ?_ ?_ <;> intro _ <;> try (exfalso; omega)) |refine AWP.skip ?_ |fail)
      · refine JoinOk.of (y / 256, k + 8) ⟨by omega, by omega, by have e := lenB_shift (n := y) (k := 8) (by omega); rw [show 2 ^ 8 = 256 from rfl] at e; show _ = lenB (y / 256) + (k + 8); omega⟩ ?_
        refine Ent.of [] ?_ ?_ rfl rfl
        repeat' (first | exact True.intro |refine ⟨⟨AV.Le.refl _, rfl⟩, ?_⟩ |refine ⟨⟨AV.Le.any _, rfl⟩, ?_⟩ |refine ⟨⟨⟨_, rfl, BLe.cells (LeL.refl _)⟩, rfl⟩, ?_⟩ |refine ⟨⟨⟨_, rfl, BLe.row rfl⟩, rfl⟩, ?_⟩ |refine ⟨⟨⟨_, rfl, BLe.row ?_⟩, rfl⟩, ?_⟩ |refine ⟨⟨⟨_, rfl, BLe.cells ?_⟩, rfl⟩, ?_⟩ |refine ⟨⟨AV.Le.int ?_, rfl⟩, ?_⟩ |refine ⟨⟨AV.Le.bool ?_, rfl⟩, ?_⟩ |refine ⟨⟨AV.Le.sl ?_, rfl⟩, ?_⟩ |refine ⟨⟨AV.Le.of_eq ?_, rfl⟩, ?_⟩ | fail)
      · refine JoinOk.of (y, k) ⟨by omega, by omega, h2⟩ ?_
        refine Ent.of [] ?_ ?_ rfl rfl
        repeat' (first | exact True.intro |refine ⟨⟨AV.Le.refl _, rfl⟩, ?_⟩ |refine ⟨⟨AV.Le.any _, rfl⟩, ?_⟩ |refine ⟨⟨⟨_, rfl, BLe.cells (LeL.refl _)⟩, rfl⟩, ?_⟩ |refine ⟨⟨⟨_, rfl, BLe.row rfl⟩, rfl⟩, ?_⟩ |refine ⟨⟨⟨_, rfl, BLe.row ?_⟩, rfl⟩, ?_⟩ |refine ⟨⟨⟨_, rfl, BLe.cells ?_⟩, rfl⟩, ?_⟩ |refine ⟨⟨AV.Le.int ?_, rfl⟩, ?_⟩ |refine ⟨⟨AV.Le.bool ?_, rfl⟩, ?_⟩ |refine ⟨⟨AV.Le.sl ?_, rfl⟩, ?_⟩ |refine ⟨⟨AV.Le.of_eq ?_, rfl⟩, ?_⟩ | fail)
    · intro ⟨y, k⟩ ⟨h0, h1, h2⟩
      have hl8 := lenB_le (k := 8) h0
      repeat' (first |refine Fl.v rfl rfl rfl ?_ |refine AWP.seq ?_ |refine AWP.region ?_ |fail)
      refine Fl.ixS rfl rfl rfl rfl (lenB y) rfl rfl (by omega) ?_ ?_
      · have e : ((y : Int) % 256) = y := by omega
        rw [e]
        refine tab_of (f := lenB) ?_ h0
        kernel_rfl
      repeat' (first |refine Fl.v rfl rfl rfl ?_ |refine Fl.nilF ?_ |refine Fl.w rfl rfl rfl (by first | exact True.intro | omega) ?_ |refine AWP.ret ?_ |refine Fl.cvS rfl rfl rfl rfl rfl rfl ?_ |fail)
      refine RetOk.of rfl (AV.Le.int ?_)
      omega
theorem LeadingZeros32_ok (x : Nat) (h : x < 4294967296) : PureFn Tryz.prog 212 [.v (.int .u32 x)] (aN (32 - lenB x)) := by
  have hl := lenB_le (k := 32) h
  refine PureFn.of_body Tryz.func212 rfl Tryz.ntmps212 rfl rfl ?_
  repeat' (first |refine Fl.v rfl rfl rfl ?_ |refine Fl.nilF ?_ |refine AWP.seq ?_ |refine AWP.region ?_ |fail)
  refine Fl.call rfl (Len32_ok x h) rfl rfl rfl (LeL.refl _) ?_
  repeat' (first |refine Fl.v rfl rfl rfl ?_ |refine Fl.nilF ?_ |refine Fl.w rfl rfl rfl (by first | exact True.intro | omega) ?_ |refine AWP.ret ?_ |fail)
  exact RetOk.of rfl (AV.Le.refl _)
end Go.Proofs.YtcaecieigoplbaaGreat

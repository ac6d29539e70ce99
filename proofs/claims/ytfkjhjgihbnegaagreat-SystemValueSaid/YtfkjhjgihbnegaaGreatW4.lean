/- Part 4 of a proof layer and of the contracts of the functions (XE4 XE5 XM6 XE6 XE7 XE8 XE9 XF0 XF1 XF2 XF3 XG0 XG1 XG2 XG3 XG4 XG5 XG6 XG7). -/
import Derived.Test.YtfkjhjgihbnegaaGreatW3
set_option linter.unusedVariables false
set_option linter.unusedSimpArgs false
namespace Go.Proofs.YtfkjhjgihbnegaaGreat
open Go.AL

theorem walk1_ok (x : Int) : PureFn Tryz.prog 156 [aX x] (aX x) := by
  refine PureFn.of_body Tryz.func156 rfl Tryz.ntmps156 rfl rfl ?_
  repeat' (first |refine Fl.v rfl rfl rfl ?_ |refine Fl.nilF ?_ |refine AWP.seq ?_ |refine AWP.region ?_ |refine Fl.b rfl rfl rfl rfl ?_ |refine AWP.ret ?_ |fail)
  exact RetOk.of rfl (AV.Le.refl _)
theorem walk_ok (a : Int) : IoFn Tryz.prog 151 [aX a] [] (.ret (.ptr 900 0)) [(900, chB (some a) 0)] := by
  refine IoFn.of_body Tryz.func151 rfl Tryz.ntmps151 rfl rfl rfl ?_
  repeat' (first |refine Fl.v rfl rfl rfl ?_ |refine Fl.nilF ?_ |refine AWP.seq ?_ |refine AWP.region ?_ |refine Fl.b rfl rfl rfl rfl ?_ |refine AWP.ret ?_ |fail)
  exact ⟨⟨[(900, 5)], _, _, Ent.refl _ _ _, rfl, AV.Le.refl _, rfl, ⟨⟨⟨_, rfl, BLe.cells (LeL.refl _)⟩, rfl⟩, trivial⟩, rfl, rfl⟩⟩
theorem fits_ok (a : Int) (ha : Fit a) (h2 : 2 ≤ a) : PureFn Tryz.prog 150 [aX a, .v (.slice none 0 0)] (aN 0) := by
  refine PureFn.of_body Tryz.func150 rfl Tryz.ntmps150 rfl rfl ?_
  repeat' (first |refine Fl.v rfl rfl rfl ?_ |refine Fl.nilF ?_ |refine AWP.seq ?_ |refine AWP.region ?_ |refine Fl.b rfl rfl rfl rfl ?_ |fail)
  refine Fl.lit rfl rfl rfl rfl rfl eX [a] rfl rfl rfl rfl (by intro _ _; rfl) rfl ?_
  skip
  refine Fl.call rfl (chValidX_ok [a] (by simp [ha]) (by simp)) rfl rfl rfl (LeL.refl _) ?_
  repeat' (first |refine Fl.v rfl rfl rfl ?_ |fail)
  refine Fl.call rfl (chValidX_ok [] (by simp) (by simp)) rfl rfl rfl (LeL.cons (AV.Le.nil 2 eX) LeL.nil) ?_
  repeat' (first |refine Fl.v rfl rfl rfl ?_ |refine Fl.nilF ?_ |refine AWP.seq ?_ |refine AWP.region ?_ |refine AWP.condF rfl ?_ |refine AWP.skip ?_ |fail)
  refine Fl.call rfl (Of_ok 2 (by omega) (by omega)) rfl rfl rfl (LeL.refl _) ?_
  skip
  have hl := Less_ok a 2 ha (fit_small (by omega) (by omega))
  rw [decide_eq_false (by omega)] at hl
  refine Fl.call rfl (hl) rfl rfl rfl (LeL.refl _) ?_
  repeat' (first |refine Fl.v rfl rfl rfl ?_ |refine Fl.nilF ?_ |refine Fl.nil (fun _ => by kernel_rfl) ?_ |refine AWP.seq ?_ |refine AWP.region ?_ |refine AWP.condF rfl ?_ |refine AWP.skip ?_ |refine AWP.ret ?_ |fail)
  exact RetOk.of rfl (AV.Le.refl _)

abbrev aP2 (c p : Int) : AV := .agg [aB (decide (c < 0)), aW (toW c.natAbs), aB (decide (p < 0)), aW (toW p.natAbs)]
abbrev wB (a e : Int) : List (AL.Id × Bx) := [(900, chB (some a) e)]
theorem psiS_ok (a e c p : Int) (ha : Fit a) (hc : Fit c) (hp : Fit p) : IoFn Tryz.prog 141 [.ptr 900 0, aP2 c p] (wB a e) (.ret (aX (psF a e c p).1)) (wB a (psF a e c p).2) := by
  refine IoFn.of_body Tryz.func141 rfl Tryz.ntmps141 rfl rfl rfl ?_
  have f1 := mulL_fit [a, p] e 1 fit_one
  refine AWP.seqS ?_
  repeat' (first |refine Fl.nilF ?_ |refine AWP.region ?_ |refine Fl.b rfl rfl rfl rfl ?_ |fail)
  refine ⟨?_⟩
  refine AWP.seq ?_
  refine AWP.regionJ [(900, 1, [aB (decide (a < 0)), aW (toW a.natAbs)]), (900, 3, [.fn 156 []])] (InvJ.cons ⟨_, _, rfl, rfl⟩ (InvJ.cons ⟨_, _, rfl, rfl⟩ (InvJ.nil _))) ?_
  repeat' (first |refine Fl.ldJ rfl rfl rfl rfl rfl rfl rfl rfl ?_ |refine Fl.v rfl rfl rfl ?_ |fail)
  refine Fl.lit rfl rfl rfl rfl rfl eX [a, p] rfl rfl rfl rfl (by intro _ _; rfl) rfl ?_
  skip
  refine Fl.io rfl [] (chMul_ok (some a) e [a, p] (by simp [ha, hp]) (by simp)) rfl rfl (LeL.refl _) rfl ⟨⟨⟨_, rfl, BLe.cells (LeL.refl _)⟩, rfl⟩, trivial⟩ rfl rfl rfl rfl rfl ?_
  skip
  refine Fl.io rfl [] (chAdd_ok (some a) _ _ _ hc f1) rfl rfl (LeL.refl _) rfl ⟨⟨⟨_, rfl, BLe.cells (LeL.refl _)⟩, rfl⟩, trivial⟩ rfl rfl rfl rfl rfl ?_
  skip
  refine Fl.callV rfl rfl (walk1_ok _) rfl rfl rfl (LeL.refl _) ?_
  repeat' (first |refine Fl.nil (fun _ => by kernel_rfl) ?_ |refine Fl.b rfl rfl rfl rfl ?_ |refine AWP.ret ?_ |fail)
  exact ⟨⟨[], _, _, Ent.refl _ _ _, rfl, AV.Le.refl _, rfl, ⟨⟨⟨_, rfl, BLe.cells (LeL.refl _)⟩, rfl⟩, trivial⟩, rfl, rfl⟩⟩
theorem chiS_ok (a e c p : Int) (ha : Fit a) (hc : Fit c) (hp : Fit p) : IoFn Tryz.prog 158 [.ptr 900 0, aP2 c p] (wB a e) (.ret (aX (chF a e c p).1)) (wB a (chF a e c p).2) := by
  refine IoFn.of_body Tryz.func158 rfl Tryz.ntmps158 rfl rfl rfl ?_
  have f1 := mulL_fit [a, p] e 1 fit_one
  have f2 := mulL_fit [a, (mulL e 1 [a, p]).1] (mulL e 1 [a, p]).2 1 fit_one
  have f4 := mulL_fit [a, c] (cE (mulL (mulL e 1 [a, p]).2 1 [a, (mulL e 1 [a, p]).1]).2 ((mulL (mulL e 1 [a, p]).2 1 [a, (mulL e 1 [a, p]).1]).1 - p)) 1 fit_one
  refine AWP.seqS ?_
  repeat' (first |refine Fl.nilF ?_ |refine AWP.region ?_ |refine Fl.b rfl rfl rfl rfl ?_ |fail)
  refine ⟨?_⟩
  refine AWP.seqS ?_
  refine AWP.regionJ [(900, 1, [aB (decide (a < 0)), aW (toW a.natAbs)]), (900, 3, [.fn 156 []])] (InvJ.cons ⟨_, _, rfl, rfl⟩ (InvJ.cons ⟨_, _, rfl, rfl⟩ (InvJ.nil _))) ?_
  repeat' (first |refine Fl.ldJ rfl rfl rfl rfl rfl rfl rfl rfl ?_ |refine Fl.v rfl rfl rfl ?_ |fail)
  refine Fl.lit rfl rfl rfl rfl rfl eX [a, p] rfl rfl rfl rfl (by intro _ _; rfl) rfl ?_
  skip
  refine Fl.io rfl [] (chMul_ok (some a) e [a, p] (by simp [ha, hp]) (by simp)) rfl rfl (LeL.refl _) rfl ⟨⟨⟨_, rfl, BLe.cells (LeL.refl _)⟩, rfl⟩, trivial⟩ rfl rfl rfl rfl rfl ?_
  skip
  refine Fl.callV rfl rfl (walk1_ok _) rfl rfl rfl (LeL.refl _) ?_
  skip
  refine Fl.lit rfl rfl rfl rfl rfl eX [a, (mulL e 1 [a, p]).1] rfl rfl rfl rfl (by intro _ _; rfl) rfl ?_
  skip
  refine Fl.io rfl [] (chMul_ok (some a) _ [a, (mulL e 1 [a, p]).1] (by simp [ha, f1]) (by simp)) rfl rfl (LeL.refl _) rfl ⟨⟨⟨_, rfl, BLe.cells (LeL.refl _)⟩, rfl⟩, trivial⟩ rfl rfl rfl rfl rfl ?_
  repeat' (first |refine Fl.v rfl rfl rfl ?_ |fail)
  refine Fl.io rfl [] (chSub_ok (some a) _ _ p f2 hp) rfl rfl (LeL.refl _) rfl ⟨⟨⟨_, rfl, BLe.cells (LeL.refl _)⟩, rfl⟩, trivial⟩ rfl rfl rfl rfl rfl ?_
  repeat' (first |refine Fl.nil (fun _ => by kernel_rfl) ?_ |refine Fl.b rfl rfl rfl rfl ?_ |fail)
  refine ⟨?_⟩
  refine AWP.seq ?_
  refine AWP.regionJ [(900, 1, [aB (decide (a < 0)), aW (toW a.natAbs)]), (900, 3, [.fn 156 []])] (InvJ.cons ⟨_, _, rfl, rfl⟩ (InvJ.cons ⟨_, _, rfl, rfl⟩ (InvJ.nil _))) ?_
  repeat' (first |refine Fl.ldJ rfl rfl rfl rfl rfl rfl rfl rfl ?_ |refine Fl.v rfl rfl rfl ?_ |fail)
  refine Fl.lit rfl rfl rfl rfl rfl eX [a, c] rfl rfl rfl rfl (by intro _ _; rfl) rfl ?_
  skip
  refine Fl.io rfl [] (chMul_ok (some a) _ [a, c] (by simp [ha, hc]) (by simp)) rfl rfl (LeL.refl _) rfl ⟨⟨⟨_, rfl, BLe.cells (LeL.refl _)⟩, rfl⟩, trivial⟩ rfl rfl rfl rfl rfl ?_
  repeat' (first |refine Fl.v rfl rfl rfl ?_ |fail)
  refine Fl.io rfl [] (chAdd_ok (some a) _ _ _ f4 (cV_fit _ _)) rfl rfl (LeL.refl _) rfl ⟨⟨⟨_, rfl, BLe.cells (LeL.refl _)⟩, rfl⟩, trivial⟩ rfl rfl rfl rfl rfl ?_
  skip
  refine Fl.callV rfl rfl (walk1_ok _) rfl rfl rfl (LeL.refl _) ?_
  repeat' (first |refine Fl.nil (fun _ => by kernel_rfl) ?_ |refine Fl.b rfl rfl rfl rfl ?_ |refine AWP.ret ?_ |fail)
  exact ⟨⟨[], _, _, Ent.refl _ _ _, rfl, AV.Le.refl _, rfl, ⟨⟨⟨_, rfl, BLe.cells (LeL.refl _)⟩, rfl⟩, trivial⟩, rfl, rfl⟩⟩
end Go.Proofs.YtfkjhjgihbnegaaGreat
namespace Go.AL
/-- doubling, as it is reckoned -/
def dbF (e c p : Int) : Int × Int × Int :=
  let r1 := mulL e 1 [2, c, c]
  let r2 := mulL (cE r1.2 (r1.1 - 1)) 1 [2, c, p]
  (cV r1.2 (r1.1 - 1), r2.1, r2.2)
/-- one more, as it is reckoned -/
def upF (a : Int) (s : Int × Int × Int) : Int × Int × Int :=
  let r1 := chF a s.2.2 s.1 s.2.1
  let r2 := psF a r1.2 s.1 s.2.1
  (r1.1, r2.1, r2.2)
def atL (a n : Int) : Nat → Int × Int × Int → Int × Int × Int
  | 0, s => s
  | j + 1, s => if s.2.2 = 0 then atL a n j (if n / 2 ^ j % 2 = 1 then upF a (dbF s.2.2 s.1 s.2.1) else dbF s.2.2 s.1 s.2.1) else s
theorem dbF_fit (e c p : Int) : Fit (dbF e c p).1 ∧ Fit (dbF e c p).2.1 := ⟨cV_fit _ _, mulL_fit _ _ _ fit_one⟩
theorem upF_fit (a : Int) (s : Int × Int × Int) : Fit (upF a s).1 ∧ Fit (upF a s).2.1 := ⟨cV_fit _ _, cV_fit _ _⟩
theorem leP2_zero {σ : List (Id × Id)} : LeL [aB (decide ((1 : Int) < 0)), aW (toW ((1 : Int).natAbs)), aB false, .v (.slice none 0 0)] (renL (renI σ) [aB (decide ((1 : Int) < 0)), aW (toW ((1 : Int).natAbs)), aB (decide ((0 : Int) < 0)), aW (toW ((0 : Int).natAbs))]) :=
  LeL.cons (AV.Le.refl _) (LeL.cons (AV.Le.refl _) (LeL.cons (AV.Le.bool rfl) (LeL.cons (by show (AV.v (.slice none 0 0)).Le (aW (toW ((0 : Int).natAbs))); rw [show ((Int.natAbs 0 : Nat) : Int) = 0 from rfl, toW_zero]; exact AV.Le.nil 1 eW) LeL.nil)))
theorem fit_two : Fit 2 := fit_small (by omega) (by omega)
end Go.AL
namespace Go.Proofs.YtfkjhjgihbnegaaGreat
open Go.AL

set_option maxHeartbeats 1000000 in
theorem at_ok (a n : Int) (ha : Fit a) (h0 : 0 ≤ n) (h1 : n ≤ 9223372036854775807) : IoFn Tryz.prog 152 [.ptr 900 0, aN n] (wB a 0) (.ret (aP2 (atL a n 63 (1, 0, 0)).1 (atL a n 63 (1, 0, 0)).2.1)) (wB a (atL a n 63 (1, 0, 0)).2.2) := by
  refine IoFn.of_body Tryz.func152 rfl Tryz.ntmps152 rfl rfl rfl ?_
  refine AWP.seqS ?_
  repeat' (first |refine Fl.nilF ?_ |refine AWP.region ?_ |refine Fl.b rfl rfl rfl rfl ?_ |fail)
  refine ⟨?_⟩
  refine AWP.seqS ?_
  refine AWP.regionJ [(900, 3, [.fn 156 []])] (InvJ.cons ⟨_, _, rfl, rfl⟩ (InvJ.nil _)) ?_
  repeat' (first |refine Fl.ldJ rfl rfl rfl rfl rfl rfl rfl rfl ?_ |refine Fl.v rfl rfl rfl ?_ |fail)
  refine Fl.call rfl (Of_ok 1 (by omega) (by omega)) rfl rfl rfl (LeL.refl _) ?_
  skip
  refine Fl.callV rfl rfl (walk1_ok _) rfl rfl rfl (LeL.refl _) ?_
  repeat' (first |refine Fl.nil (fun _ => by kernel_rfl) ?_ |refine Fl.b rfl rfl rfl rfl ?_ |fail)
  refine ⟨?_⟩
  repeat' (first |refine Fl.v rfl rfl rfl ?_ |refine Fl.nilF ?_ |refine AWP.seq ?_ |refine AWP.region ?_ |refine AWP.block ?_ |fail)
  refine AWP.loop (G := Nat × Int × Int × Int) (fun g => g.1 ≤ 63 ∧ Fit g.2.1 ∧ Fit g.2.2.1 ∧ atL a n g.1 g.2 = atL a n 63 (1, 0, 0)) (fun g => St.of [900] [(0, .ptr 900 0), (1, aN n), (4, .ptr 4 0), (5, .ptr 5 0), (6, aN ((g.1 : Int) - 1))] [(4, .cells [aB false, .v (.slice none 0 0), aB false, .v (.slice none 0 0)] 171), (5, .cells [aB (decide (g.2.1 < 0)), aW (toW g.2.1.natAbs), aB (decide (g.2.2.1 < 0)), aW (toW g.2.2.1.natAbs)] 171), (900, chB (some a) g.2.2.2)]) (fun g => g.1) (63, 1, 0, 0) ⟨by omega, fit_one, Fit.zero, rfl⟩ ?_ ?_
  · refine Ent.of [] ?_ ?_ rfl rfl
    repeat' (first | exact True.intro |refine ⟨⟨AV.Le.refl _, rfl⟩, ?_⟩ |refine ⟨⟨⟨_, rfl, BLe.cells (LeL.refl _)⟩, rfl⟩, ?_⟩ |refine ⟨⟨⟨_, rfl, BLe.row rfl⟩, rfl⟩, ?_⟩ |refine ⟨⟨⟨_, rfl, BLe.row ?_⟩, rfl⟩, ?_⟩ |refine ⟨⟨⟨_, rfl, BLe.cells ?_⟩, rfl⟩, ?_⟩ |refine ⟨⟨AV.Le.int ?_, rfl⟩, ?_⟩ |refine ⟨⟨AV.Le.bool ?_, rfl⟩, ?_⟩ |refine ⟨⟨AV.Le.sl ?_, rfl⟩, ?_⟩ |refine ⟨⟨AV.Le.of_eq ?_, rfl⟩, ?_⟩ | fail)
    exact leP2_zero
  · intro ⟨j, c, p, e⟩ ⟨k0, k1, k2, k3⟩
    refine AWP.seqS ?_
    repeat' (first |refine Fl.v rfl rfl rfl ?_ |refine Fl.nilF ?_ |refine AWP.seq ?_ |refine AWP.region ?_ |refine Fl.b rfl rfl rfl rfl ?_ |refine Fl.skip rfl rfl ?_ |refine AWP.condF rfl ?_ |(refine AWP.condD rfl ?_ ?_ <;> intro _ <;> try (exfalso; omega)) |refine AWP.skip ?_ |refine AWP.exit ?_ |refine AWP.ret ?_ |(refine Fl.splitD rfl rfl ?_ ?_ <;> intro _ <;> try (exfalso; omega)) |fail)
    · rename_i hj he
      dsimp only at k0 k1 k2 k3 hj he
      subst he
      cases j with
      | zero => exfalso; omega
      | succ j =>
      have hs : ∀ s', s' = (if n / 2 ^ j % 2 = 1 then upF a (dbF 0 c p) else dbF 0 c p) → atL a n j s' = atL a n 63 (1, 0, 0) := fun s' h => by rw [← k3, h]; simp only [atL, if_true]
      have d1 := mulL_fit [2, c, c] 0 1 fit_one
      have d2 := mulL_fit [2, c, p] (cE (mulL 0 1 [2, c, c]).2 ((mulL 0 1 [2, c, c]).1 - 1)) 1 fit_one
      refine ⟨?_⟩
      refine AWP.seq ?_
      refine AWP.block ?_
      refine AWP.seqS ?_
      refine AWP.regionJ [(900, 3, [.fn 156 []])] (InvJ.cons ⟨_, _, rfl, rfl⟩ (InvJ.nil _)) ?_
      repeat' (first |refine Fl.ldJ rfl rfl rfl rfl rfl rfl rfl rfl ?_ |refine Fl.v rfl rfl rfl ?_ |fail)
      refine Fl.call rfl (Of_ok 2 (by omega) (by omega)) rfl rfl rfl (LeL.refl _) ?_
      repeat' (first |refine Fl.v rfl rfl rfl ?_ |fail)
      refine Fl.lit rfl rfl rfl rfl rfl eX [2, c, c] rfl rfl rfl rfl (by intro _ _; rfl) rfl ?_
      skip
      refine Fl.io rfl [] (chMul_ok (some a) 0 [2, c, c] (by simp [k1, fit_two]) (by simp)) rfl rfl (LeL.refl _) rfl ⟨⟨⟨_, rfl, BLe.cells (LeL.refl _)⟩, rfl⟩, trivial⟩ rfl rfl rfl rfl rfl ?_
      skip
      refine Fl.call rfl (Of_ok 1 (by omega) (by omega)) rfl rfl rfl (LeL.refl _) ?_
      skip
      refine Fl.io rfl [] (chSub_ok (some a) _ _ _ d1 fit_one) rfl rfl (LeL.refl _) rfl ⟨⟨⟨_, rfl, BLe.cells (LeL.refl _)⟩, rfl⟩, trivial⟩ rfl rfl rfl rfl rfl ?_
      skip
      refine Fl.callV rfl rfl (walk1_ok _) rfl rfl rfl (LeL.refl _) ?_
      repeat' (first |refine Fl.ldJ rfl rfl rfl rfl rfl rfl rfl rfl ?_ |refine Fl.v rfl rfl rfl ?_ |fail)
      refine Fl.call rfl (Of_ok 2 (by omega) (by omega)) rfl rfl rfl (LeL.refl _) ?_
      repeat' (first |refine Fl.v rfl rfl rfl ?_ |fail)
      refine Fl.lit rfl rfl rfl rfl rfl eX [2, c, p] rfl rfl rfl rfl (by intro _ _; rfl) rfl ?_
      skip
      refine Fl.io rfl [] (chMul_ok (some a) _ [2, c, p] (by simp [k1, k2, fit_two]) (by simp)) rfl rfl (LeL.refl _) rfl ⟨⟨⟨_, rfl, BLe.cells (LeL.refl _)⟩, rfl⟩, trivial⟩ rfl rfl rfl rfl rfl ?_
      skip
      refine Fl.callV rfl rfl (walk1_ok _) rfl rfl rfl (LeL.refl _) ?_
      repeat' (first |refine Fl.nil (fun _ => by kernel_rfl) ?_ |refine Fl.b rfl rfl rfl rfl ?_ |fail)
      refine ⟨?_⟩
      repeat' (first |refine Fl.v rfl rfl rfl ?_ |refine AWP.seq ?_ |refine AWP.region ?_ |refine Fl.w rfl rfl rfl (by first | exact True.intro | omega) ?_ |fail)
      have q0 : 0 ≤ n / 2 ^ (((j + 1 : Nat) : Int) - 1).toNat := Int.ediv_nonneg h0 (Int.le_of_lt (Int.pow_pos (by omega)))
      have q1 : n / 2 ^ (((j + 1 : Nat) : Int) - 1).toNat ≤ n := Int.ediv_le_self _ h0
      refine Fl.w rfl rfl rfl ⟨q0, Int.le_trans q1 h1, by omega, by omega⟩ ?_
      have qj : (((j + 1 : Nat) : Int) - 1).toNat = j := by omega
      have hb := bitN_and1 q0
      repeat' (first |refine Fl.v rfl rfl rfl ?_ |refine Fl.nilF ?_ |refine AWP.region ?_ |refine Fl.w rfl rfl rfl (by first | exact True.intro | omega) ?_ |(refine AWP.condD rfl ?_ ?_ <;> intro _ <;> try (exfalso; omega)) |refine AWP.skip ?_ |fail)
      · rename_i hbit
        have hbit2 : n / 2 ^ j % 2 = 1 := by rw [← qj, ← hb]; exact hbit
        have hd := dbF_fit 0 c p
        refine Fl.io rfl [] (chiS_ok a (dbF 0 c p).2.2 (dbF 0 c p).1 (dbF 0 c p).2.1 ha hd.1 hd.2) rfl rfl (LeL.refl _) rfl ⟨⟨⟨_, rfl, BLe.cells (LeL.refl _)⟩, rfl⟩, trivial⟩ rfl rfl rfl rfl rfl ?_
        repeat' (first |refine Fl.v rfl rfl rfl ?_ |fail)
        refine Fl.io rfl [] (psiS_ok a (chF a (dbF 0 c p).2.2 (dbF 0 c p).1 (dbF 0 c p).2.1).2 (dbF 0 c p).1 (dbF 0 c p).2.1 ha hd.1 hd.2) rfl rfl (LeL.refl _) rfl ⟨⟨⟨_, rfl, BLe.cells (LeL.refl _)⟩, rfl⟩, trivial⟩ rfl rfl rfl rfl rfl ?_
        repeat' (first |refine Fl.v rfl rfl rfl ?_ |refine Fl.nilF ?_ |refine Fl.nil (fun _ => by kernel_rfl) ?_ |refine AWP.region ?_ |refine Fl.w rfl rfl rfl (by first | exact True.intro | omega) ?_ |refine Fl.b rfl rfl rfl rfl ?_ |fail)
        refine LoopEnd.of (j, upF a (dbF 0 c p)) ⟨by dsimp only; omega, (upF_fit _ _).1, (upF_fit _ _).2, hs _ (if_pos hbit2).symm⟩ (by dsimp only; omega) ?_
        refine Ent.of [] ?_ ?_ rfl rfl
        repeat' (first | exact True.intro |refine ⟨⟨AV.Le.refl _, rfl⟩, ?_⟩ |refine ⟨⟨⟨_, rfl, BLe.cells (LeL.refl _)⟩, rfl⟩, ?_⟩ |refine ⟨⟨⟨_, rfl, BLe.row rfl⟩, rfl⟩, ?_⟩ |refine ⟨⟨⟨_, rfl, BLe.row ?_⟩, rfl⟩, ?_⟩ |refine ⟨⟨⟨_, rfl, BLe.cells ?_⟩, rfl⟩, ?_⟩ |refine ⟨⟨AV.Le.int ?_, rfl⟩, ?_⟩ |refine ⟨⟨AV.Le.bool ?_, rfl⟩, ?_⟩ |refine ⟨⟨AV.Le.sl ?_, rfl⟩, ?_⟩ |refine ⟨⟨AV.Le.of_eq ?_, rfl⟩, ?_⟩ | fail)
        show ((j + 1 : Nat) : Int) - 1 - 1 = (j : Int) - 1
        omega
      · rename_i hbit
        have hbit2 : ¬ n / 2 ^ j % 2 = 1 := by rw [← qj, ← hb]; exact hbit
        have hd := dbF_fit 0 c p
        refine LoopEnd.of (j, dbF 0 c p) ⟨by dsimp only; omega, hd.1, hd.2, hs _ (if_neg hbit2).symm⟩ (by dsimp only; omega) ?_
        refine Ent.of [] ?_ ?_ rfl rfl
        repeat' (first | exact True.intro |refine ⟨⟨AV.Le.refl _, rfl⟩, ?_⟩ |refine ⟨⟨⟨_, rfl, BLe.cells (LeL.refl _)⟩, rfl⟩, ?_⟩ |refine ⟨⟨⟨_, rfl, BLe.row rfl⟩, rfl⟩, ?_⟩ |refine ⟨⟨⟨_, rfl, BLe.row ?_⟩, rfl⟩, ?_⟩ |refine ⟨⟨⟨_, rfl, BLe.cells ?_⟩, rfl⟩, ?_⟩ |refine ⟨⟨AV.Le.int ?_, rfl⟩, ?_⟩ |refine ⟨⟨AV.Le.bool ?_, rfl⟩, ?_⟩ |refine ⟨⟨AV.Le.sl ?_, rfl⟩, ?_⟩ |refine ⟨⟨AV.Le.of_eq ?_, rfl⟩, ?_⟩ | fail)
        show ((j + 1 : Nat) : Int) - 1 - 1 = (j : Int) - 1
        omega
    · rename_i hj he
      dsimp only at k0 k1 k2 k3 hj he
      cases j with
      | zero => exfalso; omega
      | succ j =>
      have k4 : atL a n (j + 1) (c, p, e) = (c, p, e) := by rw [atL]; exact if_neg he
      rw [← k3, k4]
      exact ⟨⟨[], _, _, Ent.refl _ _ _, rfl, AV.Le.refl _, rfl, ⟨⟨⟨_, rfl, BLe.cells (LeL.refl _)⟩, rfl⟩, trivial⟩, rfl, rfl⟩⟩
    · rename_i hj
      dsimp only at k0 k1 k2 k3 hj
      cases j with
      | succ j => exfalso; omega
      | zero =>
      have k4 : atL a n 0 (c, p, e) = (c, p, e) := rfl
      rw [← k3, k4]
      exact ⟨⟨[], _, _, Ent.refl _ _ _, rfl, AV.Le.refl _, rfl, ⟨⟨⟨_, rfl, BLe.cells (LeL.refl _)⟩, rfl⟩, trivial⟩, rfl, rfl⟩⟩
end Go.Proofs.YtfkjhjgihbnegaaGreat
/- What the walk through a number's digits yields. -/
namespace Go.AL
theorem fit_of {x T : Int} (h : Fit T) (h0 : 0 ≤ x) (h1 : x ≤ T) : Fit x := h.le (by omega)
theorem cV_of_cE {e x : Int} (h : cE e x ≠ 0) : cV e x = 0 := by
  unfold cE at h; unfold cV
  split at h
  · rename_i he
    rw [if_neg]
    exact fun k => h (szErr_eq.2 k.2)
  · rename_i he
    exact if_neg fun k => he k.1
section
variable {a : Int} {N : Nat}
/-- psi's next element is a number -/
abbrev FN (a : Int) (N : Nat) : Prop := Fit (psiN a (N + 1))
theorem dbF_ok (ha : 2 ≤ a) {m : Nat} (hm : 2 * m ≤ N) : (dbF 0 (chiN a m) (psiN a m) = (chiN a (2 * m), psiN a (2 * m), 0)) ∨ ((dbF 0 (chiN a m) (psiN a m)).2.2 = 4 ∧ ¬ FN a N) := by
  obtain ⟨p1, p2, p3⟩ := cp_pos ha m
  have hc := chi_dbl a m
  have hp := psi_dbl a m
  have b1 : 2 * chiN a m * 1 ≤ 2 * chiN a m * chiN a m := Int.mul_le_mul_of_nonneg_left p1 (by omega)
  have b0 : FN a N → Fit (2 * chiN a m * chiN a m) := by
    intro hF
    by_cases hN : N = 0
    · have : m = 0 := by omega
      subst this
      rw [chi_zero]; exact fit_two
    · refine fit_of hF (by omega) ?_
      have h1 := chi_mono ha hm
      have h2 := psi_pos ha (n := N) (by omega)
      have h3 : 2 * psiN a N ≤ a * psiN a N := Int.mul_le_mul_of_nonneg_right ha (by omega)
      rw [psi_succ]; omega
  have b2 : FN a N → Fit (2 * chiN a m) := fun hF => fit_of (b0 hF) (by omega) (by omega)
  have b3 : FN a N → Fit (2 * chiN a m * chiN a m - 1) := fun hF => fit_of (b0 hF) (by omega) (by omega)
  have b4 : FN a N → Fit (2 * chiN a m * psiN a m) := fun hF => fit_of hF (by rw [← hp]; exact (cp_pos ha _).2.1) (by rw [← hp]; exact psi_mono ha (by omega))
  unfold dbF
  rcases CS.mul3 (F := FN a N) fit_two b2 b0 with ⟨e1, _⟩ | ⟨e1, n1⟩
  · simp only [e1]
    rcases CS.one (F := FN a N) b3 with ⟨e2, _⟩ | ⟨e2, n2⟩
    · injection e2 with e2 e3
      simp only [e2, e3]
      rcases CS.mul3 (F := FN a N) fit_two b2 b4 with ⟨e5, _⟩ | ⟨e5, n5⟩
      · simp only [e5]; left; rw [hc, hp]
      · exact .inr ⟨e5, n5⟩
    · have e2 : cE 0 (2 * chiN a m * chiN a m - 1) = 4 := e2
      refine .inr ⟨?_, n2⟩
      simp only [e2, mulL_err]
  · refine .inr ⟨?_, n1⟩
    simp only [e1, cE4, mulL_err]
theorem upF_ok (ha : 2 ≤ a) (hf : Fit a) {m : Nat} (hm : m + 1 ≤ N) : (upF a (chiN a m, psiN a m, 0) = (chiN a (m + 1), psiN a (m + 1), 0)) ∨ ((upF a (chiN a m, psiN a m, 0)).2.2 = 4 ∧ ¬ FN a N) := by
  obtain ⟨p1, p2, p3⟩ := cp_pos ha m
  obtain ⟨c1, c2, c3, c4, c5⟩ := chi_step ha m
  have b0 : chiN a (m + 1) ≤ psiN a (N + 1) := by
    have h1 := chi_mono ha hm
    have h2 := (psi_step ha N).2.1
    omega
  have e1 : 0 ≤ a * psiN a m := Int.mul_nonneg (by omega) p2
  have e2 : 0 ≤ a * (a * psiN a m) := Int.mul_nonneg (by omega) e1
  have e3 : 0 ≤ a * chiN a m := Int.mul_nonneg (by omega) (by omega)
  have e4 : 2 * (a * psiN a m) ≤ a * (a * psiN a m) := Int.mul_le_mul_of_nonneg_right ha e1
  have e5 : 2 * psiN a m ≤ a * psiN a m := Int.mul_le_mul_of_nonneg_right ha p2
  have hs : a * chiN a m + (a * (a * psiN a m) - psiN a m) = chiN a (m + 1) := by rw [chi_succ]; grind
  have hq : chiN a m + a * psiN a m = psiN a (m + 1) := (psi_succ a m).symm
  unfold upF
  rcases chF_ok (F := FN a N) (a := a) (c := chiN a m) (p := psiN a m) hf (fun F => fit_of F e1 (by omega)) (fun F => fit_of F e2 (by omega)) (fun F => fit_of F (by omega) (by omega)) (fun F => fit_of F e3 (by omega)) (fun F => fit_of F (by omega) (by omega)) with ⟨k1, _⟩ | ⟨k1, n1⟩
  · simp only [k1]
    rcases psF_ok (F := FN a N) (a := a) (c := chiN a m) (p := psiN a m) hf (fun F => fit_of F e1 (by omega)) (fun F => fit_of F (by omega) (by rw [hq]; exact psi_mono ha (by omega))) with ⟨k2, _⟩ | ⟨k2, n2⟩
    · left; simp only [k2]; rw [hs, hq]
    · exact .inr ⟨k2, n2⟩
  · refine .inr ⟨?_, n1⟩
    simp only [k1, psF_err]
/-- the state when the digits from j on have been gone through -/
def AtI (a : Int) (N j : Nat) (s : Int × Int × Int) : Prop := s = (chiN a (N / 2 ^ j), psiN a (N / 2 ^ j), 0) ∨ (s.2.2 = 4 ∧ ¬ FN a N)
theorem atL_ok (ha : 2 ≤ a) (hf : Fit a) : ∀ (j : Nat) (s : Int × Int × Int), AtI a N j s → AtI a N 0 (atL a N j s)
  | 0, s, h => h
  | j + 1, s, h => by
    rcases h with rfl | ⟨h1, h2⟩
    · rw [atL, if_pos rfl]
      refine atL_ok ha hf j _ ?_
      have hd : N / 2 ^ (j + 1) = N / 2 ^ j / 2 := by rw [Nat.pow_succ, Nat.div_div_eq_div_mul]
      have hle : N / 2 ^ j ≤ N := Nat.div_le_self _ _
      have hbit : ((N : Int) / 2 ^ j % 2 = 1) ↔ N / 2 ^ j % 2 = 1 := by
        have : (N : Int) / 2 ^ j = ((N / 2 ^ j : Nat) : Int) := by rw [Int.natCast_ediv, Int.natCast_pow]; rfl
        rw [this]; omega
      dsimp only
      rw [hd]
      generalize hq : N / 2 ^ j = q at *
      rcases dbF_ok ha (N := N) (m := q / 2) (by omega) with e1 | ⟨e1, n1⟩
      · rw [e1]
        by_cases hb : (N : Int) / 2 ^ j % 2 = 1
        · rw [if_pos hb]
          have hb2 := hbit.1 hb
          rcases upF_ok ha hf (N := N) (m := 2 * (q / 2)) (by omega) with e2 | ⟨e2, n2⟩
          · left
            rw [e2, hq, show 2 * (q / 2) + 1 = q by omega]
          · exact .inr ⟨e2, n2⟩
        · rw [if_neg hb]
          left
          have : q % 2 ≠ 1 := fun h => hb (hbit.2 h)
          rw [hq, show 2 * (q / 2) = q by omega]
      · split
        · refine .inr ⟨?_, n1⟩
          unfold upF
          simp only [e1, chF_err, psF_err]
        · exact .inr ⟨e1, n1⟩
    · rw [atL, if_neg (by omega)]
      exact .inr ⟨h1, h2⟩
/-- Psi's result. -/
theorem psi_res (ha : 2 ≤ a) (hf : Fit a) (hN : N < 2 ^ 63) {r : Int × Int} (hr : r = psF a (atL a N 63 (1, 0, 0)).2.2 (atL a N 63 (1, 0, 0)).1 (atL a N 63 (1, 0, 0)).2.1) : r.1 = clip (psiN a (N + 1)) ∧ r.2 = szErr (psiN a (N + 1)) := by
  have h := atL_ok ha hf (N := N) 63 (1, 0, 0) (.inl (by rw [Nat.div_eq_of_lt hN, chi_zero, psi_zero]))
  have hz : r.2 ≠ 0 → r.1 = 0 := by
    rw [hr]; unfold psF; exact fun h => cV_of_cE h
  have fin : r.2 = 4 → ¬ FN a N → r.1 = clip (psiN a (N + 1)) ∧ r.2 = szErr (psiN a (N + 1)) := fun h1 h2 => by
    rw [clip_not h2, szErr_not h2]
    exact ⟨hz (by omega), h1⟩
  rcases h with h | ⟨h1, h2⟩
  · rw [h] at hr
    simp only [Nat.pow_zero, Nat.div_one] at hr
    obtain ⟨p1, p2, p3⟩ := cp_pos ha N
    have e1 : 0 ≤ a * psiN a N := Int.mul_nonneg (by omega) p2
    have hq : chiN a N + a * psiN a N = psiN a (N + 1) := (psi_succ a N).symm
    rcases psF_ok (F := FN a N) (a := a) (c := chiN a N) (p := psiN a N) hf (fun F => fit_of F e1 (psi_step ha N).2.2) (fun F => by rw [hq]; exact F) with ⟨k2, kf⟩ | ⟨k2, n2⟩
    · rw [hr, k2, hq]
      rw [hq] at kf
      rw [clip_fit kf, szErr_fit kf]; exact ⟨rfl, rfl⟩
    · rw [← hr] at k2
      exact fin k2 n2
  · refine fin ?_ h2
    rw [hr, h1, psF_err]
end
end Go.AL
namespace Go.AL
theorem atL_fit (a n : Int) : ∀ (j : Nat) (s : Int × Int × Int), Fit s.1 → Fit s.2.1 → Fit (atL a n j s).1 ∧ Fit (atL a n j s).2.1
  | 0, s, h1, h2 => ⟨h1, h2⟩
  | j + 1, s, h1, h2 => by
    rw [atL]
    split
    · split
      · exact atL_fit a n j _ (upF_fit _ _).1 (upF_fit _ _).2
      · exact atL_fit a n j _ (dbF_fit _ _ _).1 (dbF_fit _ _ _).2
    · exact ⟨h1, h2⟩
end Go.AL
namespace Go.Proofs.YtfkjhjgihbnegaaGreat
open Go.AL

theorem element_ok (a n : Int) (ha : Fit a) (h2 : 2 ≤ a) (h0 : 1 ≤ n) (h1 : n ≤ 9223372036854775807) : PureFn Tryz.prog 140 [aX a, aN n, aN 0, .fn 141 []] (aR (psiN a n.toNat)) := by
  refine PureFn.of_body Tryz.func140 rfl Tryz.ntmps140 rfl rfl ?_
  repeat' (first |refine Fl.v rfl rfl rfl ?_ |refine Fl.nilF ?_ |refine AWP.seq ?_ |refine AWP.region ?_ |refine Fl.b rfl rfl rfl rfl ?_ |fail)
  refine Fl.call rfl (fits_ok a ha h2) rfl rfl rfl (LeL.refl _) ?_
  repeat' (first |refine Fl.v rfl rfl rfl ?_ |refine Fl.nilF ?_ |refine AWP.seq ?_ |refine AWP.region ?_ |refine Fl.b rfl rfl rfl rfl ?_ |refine AWP.condF rfl ?_ |(refine AWP.condD rfl ?_ ?_ <;> intro _ <;> try (exfalso; omega)) |refine AWP.block ?_ |refine AWP.skip ?_ |refine AWP.ret ?_ |fail)
  · rename_i h
    refine RetOk.of rfl ?_
    rw [aR_not (psi_not_fit h2 (by omega))]
    exact AV.Le.tup (LeL.cons aX_zero (LeL.refl _))
  · rename_i h
    refine Fl.io rfl [(900, 33)] (walk_ok a) rfl rfl (LeL.refl _) rfl trivial rfl rfl rfl rfl rfl ?_
    repeat' (first |refine Fl.v rfl rfl rfl ?_ |refine Fl.nilF ?_ |refine AWP.seq ?_ |refine AWP.region ?_ |refine Fl.w rfl rfl rfl (by first | exact True.intro | omega) ?_ |fail)
    refine Fl.io rfl [(900, 33)] (at_ok a (n - 1) ha (by omega) (by omega)) rfl rfl (LeL.refl _) rfl ⟨⟨⟨_, rfl, BLe.cells (LeL.refl _)⟩, rfl⟩, trivial⟩ rfl rfl rfl rfl rfl ?_
    skip
    have hN : (((n - 1).toNat : Nat) : Int) = n - 1 := by omega
    have hfc : Fit (atL a (n - 1) 63 (1, 0, 0)).1 ∧ Fit (atL a (n - 1) 63 (1, 0, 0)).2.1 := atL_fit a (n - 1) 63 _ fit_one Fit.zero
    refine Fl.ioV rfl rfl [(900, 33)] (psiS_ok a _ _ _ ha hfc.1 hfc.2) rfl rfl (LeL.refl _) rfl ⟨⟨⟨_, rfl, BLe.cells (LeL.refl _)⟩, rfl⟩, trivial⟩ rfl rfl rfl rfl rfl ?_
    repeat' (first |refine Fl.v rfl rfl rfl ?_ |refine Fl.nilF ?_ |refine Fl.nil (fun _ => by kernel_rfl) ?_ |refine AWP.seq ?_ |refine AWP.region ?_ |refine Fl.b rfl rfl rfl rfl ?_ |refine AWP.ret ?_ |fail)
    have hr := psi_res (a := a) (N := (n - 1).toNat) h2 ha (by omega) rfl
    rw [hN, show (n - 1).toNat + 1 = n.toNat by omega] at hr
    refine RetOk.of rfl (AV.Le.tup (LeL.cons (AV.Le.agg ?_) (LeL.cons (AV.Le.int hr.2) LeL.nil)))
    exact leX (σ := []) hr.1
theorem Psi_ok (a n : Int) (ha : Fit a) (h2 : 2 ≤ a) (h0 : 1 ≤ n) (h1 : n ≤ 9223372036854775807) : PureFn Tryz.prog 118 [aX a, aN n] (aR (psiN a n.toNat)) := by
  refine PureFn.of_body Tryz.func118 rfl Tryz.ntmps118 rfl rfl ?_
  repeat' (first |refine Fl.v rfl rfl rfl ?_ |refine Fl.nilF ?_ |refine AWP.seq ?_ |refine AWP.region ?_ |refine Fl.b rfl rfl rfl rfl ?_ |fail)
  refine Fl.call rfl (element_ok a n ha h2 h0 h1) rfl rfl rfl (LeL.refl _) ?_
  repeat' (first |refine Fl.v rfl rfl rfl ?_ |refine Fl.nilF ?_ |refine Fl.b rfl rfl rfl rfl ?_ |refine AWP.ret ?_ |fail)
  exact RetOk.of rfl (AV.Le.refl _)
end Go.Proofs.YtfkjhjgihbnegaaGreat
namespace Go.AL
/-- how many polynomials a link has -/
def needI (k : Int) : Int := if k = 0 then 1 else if k = 1 then 3 else if k = 2 then 3 else if k = 3 then 2 else 0
/-- increasing, above a bound, below another -/
def incB (last top : Int) : List Int → Prop
  | [] => True
  | v :: l => last < v ∧ v < top ∧ incB v top l
/-- the link is valid -/
structure OkL (vars : Int) (l : LZ) : Prop where
  kind : needI l.kind ≠ 0
  len : (l.polys.length : Int) = needI l.kind
  vlen : l.vars.length ≤ 32
  inc : incB (-1) vars l.vars
  polys : ∀ p ∈ l.polys, p.vars = l.vars.length ∧ OkP p
def WL (l : LZ) : Prop := ∀ p ∈ l.polys, WP p
structure OkS (s : SZ) : Prop where
  v0 : 0 ≤ s.vars
  v1 : s.vars ≤ 20000
  len : s.links.length ≤ 20000
  links : ∀ l ∈ s.links, OkL s.vars l
def WS (s : SZ) : Prop := ∀ l ∈ s.links, WL l
/-- the first element that a function picks -/
def idxI {α : Type} (f : α → Bool) : List α → Int → Int
  | [], _ => -1
  | x :: l, k => if f x then k else idxI f l (k + 1)
theorem idxI_any {α : Type} (f : α → Bool) : ∀ (l : List α) (k : Int), 0 ≤ k → decide (0 ≤ idxI f l k) = l.any f
  | [], k, h => by simp [idxI]
  | x :: l, k, h => by
    simp only [idxI, List.any_cons]
    by_cases hx : f x = true
    · simp [hx, h]
    · have := idxI_any f l (k + 1) (by omega)
      simp only [hx, Bool.false_or]
      simpa using this
theorem idxI_drop {α : Type} {f : α → Bool} {l : List α} {i : Nat} {x : α} (h : l[i]? = some x) : idxI f (l.drop i) i = if f x then (i : Int) else idxI f (l.drop (i + 1)) ((i + 1 : Nat) : Int) := by
  have hi := (List.getElem?_eq_some_iff.1 h).1
  rw [List.drop_eq_getElem_cons hi, (List.getElem?_eq_some_iff.1 h).2]
  simp only [idxI]
  congr 2
end Go.AL
namespace Go.Proofs.YtfkjhjgihbnegaaGreat
open Go.AL

theorem needs_ok (k : Int) : PureFn Tryz.prog 80 [aN k] (aN (needI k)) := by
  refine PureFn.of_body Tryz.func80 rfl Tryz.ntmps80 rfl rfl ?_
  repeat' (first |refine Fl.v rfl rfl rfl ?_ |refine Fl.nilF ?_ |refine AWP.seq ?_ |refine AWP.region ?_ |refine Fl.skip rfl rfl ?_ |refine AWP.condT rfl ?_ |(refine AWP.condD rfl ?_ ?_ <;> intro _ <;> try (exfalso; omega)) |refine AWP.skip ?_ |refine AWP.ret ?_ |(refine Fl.splitD rfl rfl ?_ ?_ <;> intro _ <;> try (exfalso; omega)) |fail)
  · exact RetOk.of rfl (AV.Le.int (by unfold needI; repeat rw [if_neg (by omega)]))
  · exact RetOk.of rfl (AV.Le.int (by unfold needI; repeat rw [if_neg (by omega)]))
  · rename_i h0 h1
    obtain rfl | rfl | rfl | rfl : k = 0 ∨ k = 1 ∨ k = 2 ∨ k = 3 := by omega
    all_goals
      refine Fl.bArr rfl rfl rfl rfl ?_
      repeat' (first |refine Fl.v rfl rfl rfl ?_ |fail)
      refine Fl.ixA rfl rfl rfl rfl rfl rfl rfl rfl rfl rfl ?_ ?_ ?_
      · exact by decide
      · exact by decide
      repeat' (first |refine Fl.v rfl rfl rfl ?_ |refine Fl.nilF ?_ |refine AWP.ret ?_ |fail)
      exact RetOk.of rfl (AV.Le.refl _)

abbrev lB (l : LZ) : List (AL.Id × Bx) := [(900, .cells (eL l) 51)]
theorem link1_ok (l : LZ) (p : PZ) (hw : WP p) (b : Bool) (hb : b = true ↔ p.vars = l.vars.length ∧ OkP p) : IoFn Tryz.prog 82 [aP p, .ptr 900 0] (lB l) (.ret (aB !b)) (lB l) := by
  refine IoFn.of_body Tryz.func82 rfl Tryz.ntmps82 rfl rfl rfl ?_
  repeat' (first |refine Fl.v rfl rfl rfl ?_ |refine Fl.nilF ?_ |refine AWP.seq ?_ |refine AWP.region ?_ |refine Fl.b rfl rfl rfl rfl ?_ |refine Fl.skip rfl rfl ?_ |refine AWP.ret ?_ |(refine Fl.splitN rfl rfl ?_ ?_ <;> intro _ <;> try (exfalso; omega)) |fail)
  · rename_i h
    refine ⟨⟨[], _, _, Ent.refl _ _ _, rfl, AV.Le.bool ?_, rfl, ⟨⟨⟨_, rfl, BLe.cells (LeL.refl _)⟩, rfl⟩, trivial⟩, rfl, rfl⟩⟩
    cases b with
    | false => rfl
    | true => exact absurd (hb.1 rfl).1 h
  · rename_i h
    refine Fl.call rfl (pValid_ok p hw b ⟨fun k => (hb.1 k).2, fun k => hb.2 ⟨h, k⟩⟩) rfl rfl rfl (LeL.refl _) ?_
    repeat' (first |refine Fl.v rfl rfl rfl ?_ |refine Fl.nilF ?_ |refine AWP.ret ?_ |fail)
    exact ⟨⟨[], _, _, Ent.refl _ _ _, rfl, AV.Le.refl _, rfl, ⟨⟨⟨_, rfl, BLe.cells (LeL.refl _)⟩, rfl⟩, trivial⟩, rfl, rfl⟩⟩

theorem indexP_ok (o : LZ) (f : PZ → Bool) (ps : List PZ) (hl : ps.length ≤ 1000000) (hf : ∀ p ∈ ps, IoFn Tryz.prog 82 ([aP p] ++ [.ptr 900 0]) (lB o) (.ret (aB (f p))) (lB o)) :
    IoFn Tryz.prog 122 [.sl 2 eP ps, .fn 82 [.ptr 900 0]] (lB o) (.ret (aN (idxI f ps 0))) (lB o) := by
  refine IoFn.of_body Tryz.func122 rfl Tryz.ntmps122 rfl rfl rfl ?_
  repeat' (first |refine Fl.v rfl rfl rfl ?_ |refine Fl.nilF ?_ |refine AWP.seq ?_ |refine AWP.region ?_ |refine AWP.block ?_ |fail)
  refine AWP.loop (G := Nat) (fun i => i ≤ ps.length ∧ idxI f (ps.drop i) i = idxI f ps 0) (fun i => St.of [900] [(0, .sl 2 eP ps), (1, .fn 82 [.ptr 900 0]), (7, aN ps.length), (8, aN i)] [(900, .cells (eL o) 51)]) (fun i => ps.length - i) 0 ⟨by omega, by simp⟩ ?_ ?_
  · refine Ent.of [] ?_ ?_ rfl rfl
    repeat' (first | exact True.intro |refine ⟨⟨AV.Le.refl _, rfl⟩, ?_⟩ |refine ⟨⟨⟨_, rfl, BLe.cells (LeL.refl _)⟩, rfl⟩, ?_⟩ |refine ⟨⟨⟨_, rfl, BLe.row rfl⟩, rfl⟩, ?_⟩ |refine ⟨⟨⟨_, rfl, BLe.row ?_⟩, rfl⟩, ?_⟩ |refine ⟨⟨⟨_, rfl, BLe.cells ?_⟩, rfl⟩, ?_⟩ |refine ⟨⟨AV.Le.int ?_, rfl⟩, ?_⟩ |refine ⟨⟨AV.Le.bool ?_, rfl⟩, ?_⟩ |refine ⟨⟨AV.Le.sl ?_, rfl⟩, ?_⟩ |refine ⟨⟨AV.Le.of_eq ?_, rfl⟩, ?_⟩ | fail)
  · intro i ⟨k0, k1⟩
    repeat' (first |refine Fl.v rfl rfl rfl ?_ |refine Fl.nilF ?_ |refine AWP.seq ?_ |refine AWP.region ?_ |(refine AWP.condD rfl ?_ ?_ <;> intro _ <;> try (exfalso; omega)) |refine AWP.block ?_ |refine AWP.skip ?_ |refine AWP.exit ?_ |refine AWP.ret ?_ |(refine Fl.el rfl rfl rfl rfl rfl rfl rfl rfl (by omega) (by omega) ?_; intro _ _) |fail)
    · rename_i hi p hp
      rw [Int.toNat_natCast] at hp
      have hd := idxI_drop (f := f) hp
      refine Fl.ioV rfl rfl [] (hf p (List.mem_of_getElem? hp)) rfl rfl (LeL.refl _) rfl ⟨⟨⟨_, rfl, BLe.cells (LeL.refl _)⟩, rfl⟩, trivial⟩ rfl rfl rfl rfl rfl ?_
      repeat' (first |refine Fl.v rfl rfl rfl ?_ |refine Fl.nilF ?_ |refine AWP.seq ?_ |refine AWP.region ?_ |refine Fl.w rfl rfl rfl (by first | exact True.intro | omega) ?_ |refine AWP.skip ?_ |refine AWP.ret ?_ |(refine AWP.condB rfl ?_ ?_ <;> intro _) |fail)
      · rename_i hb
        rw [if_pos hb] at hd
        refine ⟨⟨[], _, _, Ent.refl _ _ _, rfl, AV.Le.int ?_, rfl, ⟨⟨⟨_, rfl, BLe.cells (LeL.refl _)⟩, rfl⟩, trivial⟩, rfl, rfl⟩⟩
        rw [← k1, hd]
      · rename_i hb
        rw [if_neg (by rw [hb]; simp)] at hd
        refine LoopEnd.of (i + 1) ⟨by omega, by rw [← k1, hd]⟩ (by omega) ?_
        refine Ent.of [] ?_ ?_ rfl rfl
        repeat' (first | exact True.intro |refine ⟨⟨AV.Le.refl _, rfl⟩, ?_⟩ |refine ⟨⟨⟨_, rfl, BLe.cells (LeL.refl _)⟩, rfl⟩, ?_⟩ |refine ⟨⟨⟨_, rfl, BLe.row rfl⟩, rfl⟩, ?_⟩ |refine ⟨⟨⟨_, rfl, BLe.row ?_⟩, rfl⟩, ?_⟩ |refine ⟨⟨⟨_, rfl, BLe.cells ?_⟩, rfl⟩, ?_⟩ |refine ⟨⟨AV.Le.int ?_, rfl⟩, ?_⟩ |refine ⟨⟨AV.Le.bool ?_, rfl⟩, ?_⟩ |refine ⟨⟨AV.Le.sl ?_, rfl⟩, ?_⟩ |refine ⟨⟨AV.Le.of_eq ?_, rfl⟩, ?_⟩ | fail)
    · refine ⟨⟨[], _, _, Ent.refl _ _ _, rfl, AV.Le.int ?_, rfl, ⟨⟨⟨_, rfl, BLe.cells (LeL.refl _)⟩, rfl⟩, trivial⟩, rfl, rfl⟩⟩
      rw [← k1, List.drop_of_length_le (by omega)]; rfl
theorem containsP_ok (o : LZ) (f : PZ → Bool) (ps : List PZ) (hl : ps.length ≤ 1000000) (hf : ∀ p ∈ ps, IoFn Tryz.prog 82 ([aP p] ++ [.ptr 900 0]) (lB o) (.ret (aB (f p))) (lB o)) :
    IoFn Tryz.prog 81 [.sl 2 eP ps, .fn 82 [.ptr 900 0]] (lB o) (.ret (aB (ps.any f))) (lB o) := by
  refine IoFn.of_body Tryz.func81 rfl Tryz.ntmps81 rfl rfl rfl ?_
  have h := indexP_ok o f ps hl hf
  have he := idxI_any f ps 0 (by omega)
  repeat' (first |refine Fl.v rfl rfl rfl ?_ |refine Fl.nilF ?_ |refine AWP.seq ?_ |refine AWP.region ?_ |fail)
  refine Fl.io rfl [] h rfl rfl (LeL.refl _) rfl ⟨⟨⟨_, rfl, BLe.cells (LeL.refl _)⟩, rfl⟩, trivial⟩ rfl rfl rfl rfl rfl ?_
  repeat' (first |refine Fl.v rfl rfl rfl ?_ |refine Fl.nilF ?_ |refine AWP.ret ?_ |fail)
  exact ⟨⟨[], _, _, Ent.refl _ _ _, rfl, AV.Le.bool he, rfl, ⟨⟨⟨_, rfl, BLe.cells (LeL.refl _)⟩, rfl⟩, trivial⟩, rfl, rfl⟩⟩
abbrev sB (s : SZ) : List (AL.Id × Bx) := [(900, .cells [aN s.vars, .sl 3 eL s.links] 24)]
theorem indexL_ok (o : SZ) (f : LZ → Bool) (ps : List LZ) (hl : ps.length ≤ 1000000) (hf : ∀ p ∈ ps, IoFn Tryz.prog 39 ([aL p] ++ [.ptr 900 0]) (sB o) (.ret (aB (f p))) (sB o)) :
    IoFn Tryz.prog 79 [.sl 3 eL ps, .fn 39 [.ptr 900 0]] (sB o) (.ret (aN (idxI f ps 0))) (sB o) := by
  refine IoFn.of_body Tryz.func79 rfl Tryz.ntmps79 rfl rfl rfl ?_
  repeat' (first |refine Fl.v rfl rfl rfl ?_ |refine Fl.nilF ?_ |refine AWP.seq ?_ |refine AWP.region ?_ |refine AWP.block ?_ |fail)
  refine AWP.loop (G := Nat) (fun i => i ≤ ps.length ∧ idxI f (ps.drop i) i = idxI f ps 0) (fun i => St.of [900] [(0, .sl 3 eL ps), (1, .fn 39 [.ptr 900 0]), (7, aN ps.length), (8, aN i)] [(900, .cells [aN o.vars, .sl 3 eL o.links] 24)]) (fun i => ps.length - i) 0 ⟨by omega, by simp⟩ ?_ ?_
  · refine Ent.of [] ?_ ?_ rfl rfl
    repeat' (first | exact True.intro |refine ⟨⟨AV.Le.refl _, rfl⟩, ?_⟩ |refine ⟨⟨⟨_, rfl, BLe.cells (LeL.refl _)⟩, rfl⟩, ?_⟩ |refine ⟨⟨⟨_, rfl, BLe.row rfl⟩, rfl⟩, ?_⟩ |refine ⟨⟨⟨_, rfl, BLe.row ?_⟩, rfl⟩, ?_⟩ |refine ⟨⟨⟨_, rfl, BLe.cells ?_⟩, rfl⟩, ?_⟩ |refine ⟨⟨AV.Le.int ?_, rfl⟩, ?_⟩ |refine ⟨⟨AV.Le.bool ?_, rfl⟩, ?_⟩ |refine ⟨⟨AV.Le.sl ?_, rfl⟩, ?_⟩ |refine ⟨⟨AV.Le.of_eq ?_, rfl⟩, ?_⟩ | fail)
  · intro i ⟨k0, k1⟩
    repeat' (first |refine Fl.v rfl rfl rfl ?_ |refine Fl.nilF ?_ |refine AWP.seq ?_ |refine AWP.region ?_ |(refine AWP.condD rfl ?_ ?_ <;> intro _ <;> try (exfalso; omega)) |refine AWP.block ?_ |refine AWP.skip ?_ |refine AWP.exit ?_ |refine AWP.ret ?_ |(refine Fl.el rfl rfl rfl rfl rfl rfl rfl rfl (by omega) (by omega) ?_; intro _ _) |fail)
    · rename_i hi p hp
      rw [Int.toNat_natCast] at hp
      have hd := idxI_drop (f := f) hp
      refine Fl.ioV rfl rfl [] (hf p (List.mem_of_getElem? hp)) rfl rfl (LeL.refl _) rfl ⟨⟨⟨_, rfl, BLe.cells (LeL.refl _)⟩, rfl⟩, trivial⟩ rfl rfl rfl rfl rfl ?_
      repeat' (first |refine Fl.v rfl rfl rfl ?_ |refine Fl.nilF ?_ |refine AWP.seq ?_ |refine AWP.region ?_ |refine Fl.w rfl rfl rfl (by first | exact True.intro | omega) ?_ |refine AWP.skip ?_ |refine AWP.ret ?_ |(refine AWP.condB rfl ?_ ?_ <;> intro _) |fail)
      · rename_i hb
        rw [if_pos hb] at hd
        refine ⟨⟨[], _, _, Ent.refl _ _ _, rfl, AV.Le.int ?_, rfl, ⟨⟨⟨_, rfl, BLe.cells (LeL.refl _)⟩, rfl⟩, trivial⟩, rfl, rfl⟩⟩
        rw [← k1, hd]
      · rename_i hb
        rw [if_neg (by rw [hb]; simp)] at hd
        refine LoopEnd.of (i + 1) ⟨by omega, by rw [← k1, hd]⟩ (by omega) ?_
        refine Ent.of [] ?_ ?_ rfl rfl
        repeat' (first | exact True.intro |refine ⟨⟨AV.Le.refl _, rfl⟩, ?_⟩ |refine ⟨⟨⟨_, rfl, BLe.cells (LeL.refl _)⟩, rfl⟩, ?_⟩ |refine ⟨⟨⟨_, rfl, BLe.row rfl⟩, rfl⟩, ?_⟩ |refine ⟨⟨⟨_, rfl, BLe.row ?_⟩, rfl⟩, ?_⟩ |refine ⟨⟨⟨_, rfl, BLe.cells ?_⟩, rfl⟩, ?_⟩ |refine ⟨⟨AV.Le.int ?_, rfl⟩, ?_⟩ |refine ⟨⟨AV.Le.bool ?_, rfl⟩, ?_⟩ |refine ⟨⟨AV.Le.sl ?_, rfl⟩, ?_⟩ |refine ⟨⟨AV.Le.of_eq ?_, rfl⟩, ?_⟩ | fail)
    · refine ⟨⟨[], _, _, Ent.refl _ _ _, rfl, AV.Le.int ?_, rfl, ⟨⟨⟨_, rfl, BLe.cells (LeL.refl _)⟩, rfl⟩, trivial⟩, rfl, rfl⟩⟩
      rw [← k1, List.drop_of_length_le (by omega)]; rfl
theorem containsL_ok (o : SZ) (f : LZ → Bool) (ps : List LZ) (hl : ps.length ≤ 1000000) (hf : ∀ p ∈ ps, IoFn Tryz.prog 39 ([aL p] ++ [.ptr 900 0]) (sB o) (.ret (aB (f p))) (sB o)) :
    IoFn Tryz.prog 38 [.sl 3 eL ps, .fn 39 [.ptr 900 0]] (sB o) (.ret (aB (ps.any f))) (sB o) := by
  refine IoFn.of_body Tryz.func38 rfl Tryz.ntmps38 rfl rfl rfl ?_
  have h := indexL_ok o f ps hl hf
  have he := idxI_any f ps 0 (by omega)
  repeat' (first |refine Fl.v rfl rfl rfl ?_ |refine Fl.nilF ?_ |refine AWP.seq ?_ |refine AWP.region ?_ |fail)
  refine Fl.io rfl [] h rfl rfl (LeL.refl _) rfl ⟨⟨⟨_, rfl, BLe.cells (LeL.refl _)⟩, rfl⟩, trivial⟩ rfl rfl rfl rfl rfl ?_
  repeat' (first |refine Fl.v rfl rfl rfl ?_ |refine Fl.nilF ?_ |refine AWP.ret ?_ |fail)
  exact ⟨⟨[], _, _, Ent.refl _ _ _, rfl, AV.Le.bool he, rfl, ⟨⟨⟨_, rfl, BLe.cells (LeL.refl _)⟩, rfl⟩, trivial⟩, rfl, rfl⟩⟩
theorem indexE_ok (f : LZ → Bool) (ps : List LZ) (hl : ps.length ≤ 1000000) (hf : ∀ p ∈ ps, IoFn Tryz.prog 92 ([aL p] ++ []) [] (.ret (aB (f p))) []) :
    IoFn Tryz.prog 79 [.sl 3 eL ps, .fn 92 []] [] (.ret (aN (idxI f ps 0))) [] := by
  refine IoFn.of_body Tryz.func79 rfl Tryz.ntmps79 rfl rfl rfl ?_
  repeat' (first |refine Fl.v rfl rfl rfl ?_ |refine Fl.nilF ?_ |refine AWP.seq ?_ |refine AWP.region ?_ |refine AWP.block ?_ |fail)
  refine AWP.loop (G := Nat) (fun i => i ≤ ps.length ∧ idxI f (ps.drop i) i = idxI f ps 0) (fun i => St.of [] [(0, .sl 3 eL ps), (1, .fn 92 []), (7, aN ps.length), (8, aN i)] []) (fun i => ps.length - i) 0 ⟨by omega, by simp⟩ ?_ ?_
  · refine Ent.of [] ?_ ?_ rfl rfl
    repeat' (first | exact True.intro |refine ⟨⟨AV.Le.refl _, rfl⟩, ?_⟩ |refine ⟨⟨⟨_, rfl, BLe.cells (LeL.refl _)⟩, rfl⟩, ?_⟩ |refine ⟨⟨⟨_, rfl, BLe.row rfl⟩, rfl⟩, ?_⟩ |refine ⟨⟨⟨_, rfl, BLe.row ?_⟩, rfl⟩, ?_⟩ |refine ⟨⟨⟨_, rfl, BLe.cells ?_⟩, rfl⟩, ?_⟩ |refine ⟨⟨AV.Le.int ?_, rfl⟩, ?_⟩ |refine ⟨⟨AV.Le.bool ?_, rfl⟩, ?_⟩ |refine ⟨⟨AV.Le.sl ?_, rfl⟩, ?_⟩ |refine ⟨⟨AV.Le.of_eq ?_, rfl⟩, ?_⟩ | fail)
  · intro i ⟨k0, k1⟩
    repeat' (first |refine Fl.v rfl rfl rfl ?_ |refine Fl.nilF ?_ |refine AWP.seq ?_ |refine AWP.region ?_ |(refine AWP.condD rfl ?_ ?_ <;> intro _ <;> try (exfalso; omega)) |refine AWP.block ?_ |refine AWP.skip ?_ |refine AWP.exit ?_ |refine AWP.ret ?_ |(refine Fl.el rfl rfl rfl rfl rfl rfl rfl rfl (by omega) (by omega) ?_; intro _ _) |fail)
    · rename_i hi p hp
      rw [Int.toNat_natCast] at hp
      have hd := idxI_drop (f := f) hp
      refine Fl.ioV rfl rfl [] (hf p (List.mem_of_getElem? hp)) rfl rfl (LeL.refl _) rfl trivial rfl rfl rfl rfl rfl ?_
      repeat' (first |refine Fl.v rfl rfl rfl ?_ |refine Fl.nilF ?_ |refine AWP.seq ?_ |refine AWP.region ?_ |refine Fl.w rfl rfl rfl (by first | exact True.intro | omega) ?_ |refine AWP.skip ?_ |refine AWP.ret ?_ |(refine AWP.condB rfl ?_ ?_ <;> intro _) |fail)
      · rename_i hb
        rw [if_pos hb] at hd
        refine ⟨⟨[], _, _, Ent.refl _ _ _, rfl, AV.Le.int ?_, rfl, trivial, rfl, rfl⟩⟩
        rw [← k1, hd]
      · rename_i hb
        rw [if_neg (by rw [hb]; simp)] at hd
        refine LoopEnd.of (i + 1) ⟨by omega, by rw [← k1, hd]⟩ (by omega) ?_
        refine Ent.of [] ?_ ?_ rfl rfl
        repeat' (first | exact True.intro |refine ⟨⟨AV.Le.refl _, rfl⟩, ?_⟩ |refine ⟨⟨⟨_, rfl, BLe.cells (LeL.refl _)⟩, rfl⟩, ?_⟩ |refine ⟨⟨⟨_, rfl, BLe.row rfl⟩, rfl⟩, ?_⟩ |refine ⟨⟨⟨_, rfl, BLe.row ?_⟩, rfl⟩, ?_⟩ |refine ⟨⟨⟨_, rfl, BLe.cells ?_⟩, rfl⟩, ?_⟩ |refine ⟨⟨AV.Le.int ?_, rfl⟩, ?_⟩ |refine ⟨⟨AV.Le.bool ?_, rfl⟩, ?_⟩ |refine ⟨⟨AV.Le.sl ?_, rfl⟩, ?_⟩ |refine ⟨⟨AV.Le.of_eq ?_, rfl⟩, ?_⟩ | fail)
    · refine ⟨⟨[], _, _, Ent.refl _ _ _, rfl, AV.Le.int ?_, rfl, trivial, rfl, rfl⟩⟩
      rw [← k1, List.drop_of_length_le (by omega)]; rfl
theorem containsE_ok (f : LZ → Bool) (ps : List LZ) (hl : ps.length ≤ 1000000) (hf : ∀ p ∈ ps, IoFn Tryz.prog 92 ([aL p] ++ []) [] (.ret (aB (f p))) []) :
    IoFn Tryz.prog 38 [.sl 3 eL ps, .fn 92 []] [] (.ret (aB (ps.any f))) [] := by
  refine IoFn.of_body Tryz.func38 rfl Tryz.ntmps38 rfl rfl rfl ?_
  have h := indexE_ok f ps hl hf
  have he := idxI_any f ps 0 (by omega)
  repeat' (first |refine Fl.v rfl rfl rfl ?_ |refine Fl.nilF ?_ |refine AWP.seq ?_ |refine AWP.region ?_ |fail)
  refine Fl.io rfl [] h rfl rfl (LeL.refl _) rfl trivial rfl rfl rfl rfl rfl ?_
  repeat' (first |refine Fl.v rfl rfl rfl ?_ |refine Fl.nilF ?_ |refine AWP.ret ?_ |fail)
  exact ⟨⟨[], _, _, Ent.refl _ _ _, rfl, AV.Le.bool he, rfl, trivial, rfl, rfl⟩⟩
end Go.Proofs.YtfkjhjgihbnegaaGreat
namespace Go.AL
/-- the last element, or another number -/
def lastI (d : Int) : List Int → Int
  | [] => d
  | x :: l => lastI x l
theorem incB_drop {last top : Int} : ∀ {l : List Int} {i : Nat} {v : Int}, l[i]? = some v → (incB (lastI last (l.take i)) top (l.drop i) ↔ lastI last (l.take i) < v ∧ v < top ∧ incB (lastI last (l.take (i + 1))) top (l.drop (i + 1)))
  | [], _, _, h => by simp at h
  | x :: l, 0, v, h => by simp at h; subst h; simp [lastI, incB]
  | x :: l, i + 1, v, h => by
    simp only [List.take_succ_cons, List.drop_succ_cons, lastI]
    exact incB_drop (last := x) (by simpa using h)
theorem lastI_snoc {d : Int} : ∀ {l : List Int} {i : Nat} {v : Int}, l[i]? = some v → lastI d (l.take (i + 1)) = v
  | [], _, _, h => by simp at h
  | x :: l, 0, v, h => by simp at h; subst h; simp [lastI]
  | x :: l, i + 1, v, h => by
    simp only [List.take_succ_cons, lastI]
    exact lastI_snoc (d := x) (by simpa using h)
end Go.AL
namespace Go.Proofs.YtfkjhjgihbnegaaGreat
open Go.AL

set_option maxHeartbeats 1000000 in
theorem link_ok (l : LZ) (vars : Int) (hw : WL l) (f : PZ → Bool) (hf : ∀ p ∈ l.polys, f p = true ↔ p.vars = l.vars.length ∧ OkP p) (b : Bool) (hb : b = true ↔ OkL vars l) : PureFn Tryz.prog 40 [aL l, aN vars] (aB b) := by
  refine PureFn.of_body Tryz.func40 rfl Tryz.ntmps40 rfl rfl ?_
  have hfalse : ¬ OkL vars l → false = b := fun h => by cases b with | false => rfl | true => exact absurd (hb.1 rfl) h
  have hn3 : needI l.kind ≤ 3 ∧ 0 ≤ needI l.kind := by unfold needI; repeat' split <;> omega
  repeat' (first |refine Fl.v rfl rfl rfl ?_ |refine Fl.nilF ?_ |refine AWP.seq ?_ |refine AWP.region ?_ |refine Fl.b rfl rfl rfl rfl ?_ |fail)
  refine Fl.call rfl (needs_ok l.kind) rfl rfl rfl (LeL.refl _) ?_
  repeat' (first |refine Fl.v rfl rfl rfl ?_ |refine Fl.nilF ?_ |refine Fl.nil (fun _ => by kernel_rfl) ?_ |refine AWP.seq ?_ |refine AWP.region ?_ |refine Fl.skip rfl rfl ?_ |refine AWP.condT rfl ?_ |refine AWP.ret ?_ |(refine Fl.splitD rfl rfl ?_ ?_ <;> intro _ <;> try (exfalso; omega)) |fail)
  · rename_i h; exact RetOk.of rfl (AV.Le.bool (hfalse fun k => k.kind h))
  refine Fl.call rfl (needs_ok l.kind) rfl rfl rfl (LeL.refl _) ?_
  repeat' (first |refine Fl.v rfl rfl rfl ?_ |refine Fl.nilF ?_ |refine Fl.nil (fun _ => by kernel_rfl) ?_ |refine AWP.seq ?_ |refine AWP.region ?_ |refine Fl.skip rfl rfl ?_ |refine AWP.condT rfl ?_ |(refine AWP.condD rfl ?_ ?_ <;> intro _ <;> try (exfalso; omega)) |refine AWP.block ?_ |refine AWP.skip ?_ |refine AWP.ret ?_ |(refine Fl.splitN rfl rfl ?_ ?_ <;> intro _ <;> try (exfalso; omega)) |fail)
  · rename_i h; exact RetOk.of rfl (AV.Le.bool (hfalse fun k => h k.len))
  · rename_i h; exact RetOk.of rfl (AV.Le.bool (hfalse fun k => by have := k.vlen; omega))
  rename_i hk hlen hvl
  refine AWP.loop (G := Nat) (fun i => i ≤ l.vars.length ∧ (incB (lastI (-1) (l.vars.take i)) vars (l.vars.drop i) ↔ incB (-1) vars l.vars)) (fun i => St.of [] [(1, aN vars), (2, .ptr 2 0), (5, aN (lastI (-1) (l.vars.take i))), (28, aI l.vars), (29, aN l.vars.length), (30, aN i)] [(2, .cells (eL l) 51)]) (fun i => l.vars.length - i) 0 ⟨by omega, by simp [lastI]⟩ ?_ ?_
  · refine Ent.of [] ?_ ?_ rfl rfl
    repeat' (first | exact True.intro |refine ⟨⟨AV.Le.refl _, rfl⟩, ?_⟩ |refine ⟨⟨⟨_, rfl, BLe.cells (LeL.refl _)⟩, rfl⟩, ?_⟩ |refine ⟨⟨⟨_, rfl, BLe.row rfl⟩, rfl⟩, ?_⟩ |refine ⟨⟨⟨_, rfl, BLe.row ?_⟩, rfl⟩, ?_⟩ |refine ⟨⟨⟨_, rfl, BLe.cells ?_⟩, rfl⟩, ?_⟩ |refine ⟨⟨AV.Le.int ?_, rfl⟩, ?_⟩ |refine ⟨⟨AV.Le.bool ?_, rfl⟩, ?_⟩ |refine ⟨⟨AV.Le.sl ?_, rfl⟩, ?_⟩ |refine ⟨⟨AV.Le.of_eq ?_, rfl⟩, ?_⟩ | fail)
  · intro i ⟨k0, k1⟩
    repeat' (first |refine Fl.v rfl rfl rfl ?_ |refine Fl.nilF ?_ |refine AWP.seq ?_ |refine AWP.region ?_ |refine Fl.w rfl rfl rfl (by first | exact True.intro | omega) ?_ |refine Fl.skip rfl rfl ?_ |refine AWP.condT rfl ?_ |(refine AWP.condD rfl ?_ ?_ <;> intro _ <;> try (exfalso; omega)) |refine AWP.block ?_ |refine AWP.skip ?_ |refine AWP.exit ?_ |refine AWP.ret ?_ |(refine Fl.el rfl rfl rfl rfl rfl rfl rfl rfl (by omega) (by omega) ?_; intro _ _) |(refine Fl.splitD rfl rfl ?_ ?_ <;> intro _ <;> try (exfalso; omega)) |fail)
    · rename_i hi v hv h1
      rw [Int.toNat_natCast] at hv
      rw [incB_drop hv] at k1
      refine RetOk.of rfl (AV.Le.bool (hfalse fun k => ?_))
      have := k1.2 k.inc
      omega
    · rename_i hi v hv h1 h2
      rw [Int.toNat_natCast] at hv
      rw [incB_drop hv] at k1
      refine RetOk.of rfl (AV.Le.bool (hfalse fun k => ?_))
      have := k1.2 k.inc
      omega
    · rename_i hi v hv h1 h2
      rw [Int.toNat_natCast] at hv
      rw [incB_drop hv] at k1
      refine LoopEnd.of (i + 1) ⟨by omega, ?_⟩ (by omega) ?_
      · rw [← k1]
        exact ⟨fun h => ⟨by omega, by omega, h⟩, fun h => h.2.2⟩
      · refine Ent.of [] ?_ ?_ rfl rfl
        repeat' (first | exact True.intro |refine ⟨⟨AV.Le.refl _, rfl⟩, ?_⟩ |refine ⟨⟨⟨_, rfl, BLe.cells (LeL.refl _)⟩, rfl⟩, ?_⟩ |refine ⟨⟨⟨_, rfl, BLe.row rfl⟩, rfl⟩, ?_⟩ |refine ⟨⟨⟨_, rfl, BLe.row ?_⟩, rfl⟩, ?_⟩ |refine ⟨⟨⟨_, rfl, BLe.cells ?_⟩, rfl⟩, ?_⟩ |refine ⟨⟨AV.Le.int ?_, rfl⟩, ?_⟩ |refine ⟨⟨AV.Le.bool ?_, rfl⟩, ?_⟩ |refine ⟨⟨AV.Le.sl ?_, rfl⟩, ?_⟩ |refine ⟨⟨AV.Le.of_eq ?_, rfl⟩, ?_⟩ | fail)
        exact (lastI_snoc hv).symm
    · rename_i hi
      have hd : l.vars.drop i = [] := List.drop_of_length_le (by omega)
      rw [hd] at k1
      have hinc : incB (-1) vars l.vars := k1.1 trivial
      have hc := containsP_ok l (fun p => !f p) l.polys (by omega) (fun p hp => link1_ok l p (hw p hp) (f p) (hf p hp))
      refine Fl.io rfl [(900, 2)] hc rfl rfl (LeL.refl _) rfl ⟨⟨⟨_, rfl, BLe.cells (LeL.refl _)⟩, rfl⟩, trivial⟩ rfl rfl rfl rfl rfl ?_
      repeat' (first |refine Fl.v rfl rfl rfl ?_ |refine Fl.nilF ?_ |refine AWP.ret ?_ |fail)
      refine RetOk.of rfl (AV.Le.bool ?_)
      have : (!l.polys.any fun p => !f p) = true ↔ OkL vars l := by
        rw [Bool.not_eq_true', List.any_eq_false]
        refine ⟨fun h => ⟨hk, hlen, by omega, hinc, fun p hp => (hf p hp).1 ?_⟩, fun k p hp => ?_⟩
        · have := h p hp
          simpa using this
        · have := (hf p hp).2 (k.polys p hp)
          simp [this]
      cases b with
      | true => exact this.2 (hb.1 rfl)
      | false => exact Bool.eq_false_iff.2 fun h => by have := hb.2 (this.1 h); cases this
end Go.Proofs.YtfkjhjgihbnegaaGreat
namespace Go.AL
theorem boolOf {α : Type} (p : α → Prop) : ∃ f : α → Bool, ∀ a, f a = true ↔ p a := ⟨fun a => @decide (p a) (Classical.propDecidable _), fun a => @decide_eq_true_iff _ (Classical.propDecidable _)⟩
/-- the variables' numbers -/
def atOf (X : List Int) (vs : List Int) : List Int := vs.map fun v => X.getD v.toNat 0
theorem atOf_fit {X : List Int} (h : ∀ x ∈ X, Fit x) (vs : List Int) : ∀ x ∈ atOf X vs, Fit x := fun x hx => by
  obtain ⟨v, _, rfl⟩ := List.mem_map.1 hx
  show Fit (X.getD v.toNat 0)
  rw [List.getD_eq_getElem?_getD]
  cases hq : X[v.toNat]? with
  | none => exact Fit.zero
  | some y => exact h y (List.mem_of_getElem? hq)
theorem incB_mem {last top : Int} : ∀ {l : List Int} {v : Int}, incB last top l → v ∈ l → last < v ∧ v < top
  | [], _, _, h => by simp at h
  | x :: l, v, ⟨h1, h2, h3⟩, h => by
    rcases List.mem_cons.1 h with rfl | h
    · exact ⟨h1, h2⟩
    · have := incB_mem h3 h
      omega
theorem atOf_snoc {X vs : List Int} {i : Nat} {v x : Int} (h : vs[i]? = some v) (hx : X[v.toNat]? = some x) : atOf X (vs.take (i + 1)) = atOf X (vs.take i) ++ [x] := by
  rw [take_snoc h]
  simp [atOf, hx]
end Go.AL
namespace Go.Proofs.YtfkjhjgihbnegaaGreat
open Go.AL

theorem Valid1_ok (s : SZ) (l : LZ) (hw : WL l) (b : Bool) (hb : b = true ↔ OkL s.vars l) : IoFn Tryz.prog 39 [aL l, .ptr 900 0] (sB s) (.ret (aB !b)) (sB s) := by
  refine IoFn.of_body Tryz.func39 rfl Tryz.ntmps39 rfl rfl rfl ?_
  obtain ⟨f, hf⟩ := boolOf (fun p : PZ => p.vars = l.vars.length ∧ OkP p)
  repeat' (first |refine Fl.v rfl rfl rfl ?_ |refine Fl.nilF ?_ |refine AWP.seq ?_ |refine AWP.region ?_ |refine Fl.b rfl rfl rfl rfl ?_ |fail)
  refine Fl.call rfl (link_ok l s.vars hw f (fun p _ => hf p) b hb) rfl rfl rfl (LeL.refl _) ?_
  repeat' (first |refine Fl.v rfl rfl rfl ?_ |refine Fl.nilF ?_ |refine AWP.ret ?_ |fail)
  exact ⟨⟨[], _, _, Ent.refl _ _ _, rfl, AV.Le.refl _, rfl, ⟨⟨⟨_, rfl, BLe.cells (LeL.refl _)⟩, rfl⟩, trivial⟩, rfl, rfl⟩⟩
theorem sValid_ok (s : SZ) (hw : WS s) (b : Bool) (hb : b = true ↔ OkS s) : PureFn Tryz.prog 11 [aS s] (aB b) := by
  refine PureFn.of_body Tryz.func11 rfl Tryz.ntmps11 rfl rfl ?_
  have hfalse : ¬ OkS s → false = b := fun h => by cases b with | false => rfl | true => exact absurd (hb.1 rfl) h
  obtain ⟨f, hf⟩ := boolOf (fun l : LZ => OkL s.vars l)
  repeat' (first |refine Fl.v rfl rfl rfl ?_ |refine Fl.nilF ?_ |refine AWP.seq ?_ |refine AWP.region ?_ |refine Fl.b rfl rfl rfl rfl ?_ |refine Fl.skip rfl rfl ?_ |refine AWP.ret ?_ |(refine Fl.splitD rfl rfl ?_ ?_ <;> intro _ <;> try (exfalso; omega)) |fail)
  · rename_i h0 h1 h2
    refine Fl.io rfl [(900, 1)] (containsL_ok s (fun l => !f l) s.links (by omega) (fun l hl => Valid1_ok s l (hw l hl) (f l) (hf l))) rfl rfl (LeL.refl _) rfl ⟨⟨⟨_, rfl, BLe.cells (LeL.refl _)⟩, rfl⟩, trivial⟩ rfl rfl rfl rfl rfl ?_
    repeat' (first |refine Fl.v rfl rfl rfl ?_ |refine Fl.nilF ?_ |refine AWP.ret ?_ |fail)
    refine RetOk.of rfl (AV.Le.bool ?_)
    have : (!s.links.any fun l => !f l) = true ↔ OkS s := by
      rw [Bool.not_eq_true', List.any_eq_false]
      refine ⟨fun h => ⟨h0, h1, by omega, fun l hl => (hf l).1 ?_⟩, fun k l hl => ?_⟩
      · have := h l hl
        simpa using this
      · have := (hf l).2 (k.links l hl)
        simp [this]
    cases b with
    | true => exact this.2 (hb.1 rfl)
    | false => exact Bool.eq_false_iff.2 fun h => by have := hb.2 (this.1 h); cases this
  · rename_i h0 h1 h2; exact RetOk.of rfl (AV.Le.bool (hfalse fun k => by have := k.len; omega))
  · rename_i h0 h1; exact RetOk.of rfl (AV.Le.bool (hfalse fun k => by have := k.v1; omega))
  · rename_i h0; exact RetOk.of rfl (AV.Le.bool (hfalse fun k => by have := k.v0; omega))

theorem Values_ok (l : LZ) (X : List Int) (hw : WL l) (hL : OkL X.length l) (hX : ∀ x ∈ X, Fit x) (r : AV) (hr1 : (∀ p ∈ l.polys, EvOk (atOf X l.vars) p) → r = .tup [.sl 2 eX (l.polys.map (pv (atOf X l.vars))), aN 0]) (hr2 : ¬ (∀ p ∈ l.polys, EvOk (atOf X l.vars) p) → r = .tup [.v (.slice none 0 0), aN 4]) :
    PureFn Tryz.prog 36 [aL l, .sl 2 eX X] r := by
  refine PureFn.of_body Tryz.func36 rfl Tryz.ntmps36 rfl rfl ?_
  have hvl := hL.vlen
  have hn3 : needI l.kind ≤ 3 := by unfold needI; repeat' split <;> omega
  have hpl := hL.len
  have hfa := atOf_fit hX l.vars
  have hla : (atOf X l.vars).length = l.vars.length := by simp [atOf]
  repeat' (first |refine Fl.v rfl rfl rfl ?_ |refine Fl.nilF ?_ |refine AWP.seq ?_ |refine AWP.region ?_ |refine Fl.b rfl rfl rfl rfl ?_ |refine AWP.block ?_ |fail)
  refine AWP.ent (Ent.nilrow 6 806 rfl rfl 2 eX 58) ?_
  refine AWP.loop (G := Nat) (fun i => i ≤ l.vars.length) (fun i => St.of [] [(1, .sl 2 eX X), (2, .ptr 2 0), (6, .row 6), (7, .v (.slice none 0 0)), (15, aI l.vars), (16, aN l.vars.length), (17, aN i)] [(2, .cells (eL l) 51), (6, .row 2 eX (atOf X (l.vars.take i)) 58)]) (fun i => l.vars.length - i) 0 (by omega) ?_ ?_
  · refine Ent.of [(6, 806)] ?_ ?_ rfl rfl
    repeat' (first | exact True.intro |refine ⟨⟨AV.Le.refl _, rfl⟩, ?_⟩ |refine ⟨⟨⟨_, rfl, BLe.cells (LeL.refl _)⟩, rfl⟩, ?_⟩ |refine ⟨⟨⟨_, rfl, BLe.row rfl⟩, rfl⟩, ?_⟩ |refine ⟨⟨⟨_, rfl, BLe.row ?_⟩, rfl⟩, ?_⟩ |refine ⟨⟨⟨_, rfl, BLe.cells ?_⟩, rfl⟩, ?_⟩ |refine ⟨⟨AV.Le.int ?_, rfl⟩, ?_⟩ |refine ⟨⟨AV.Le.bool ?_, rfl⟩, ?_⟩ |refine ⟨⟨AV.Le.sl ?_, rfl⟩, ?_⟩ |refine ⟨⟨AV.Le.of_eq ?_, rfl⟩, ?_⟩ | fail)
  · intro i k0
    have hli : (atOf X (l.vars.take i)).length = i := by simp [atOf]; omega
    repeat' (first |refine Fl.v rfl rfl rfl ?_ |refine Fl.nilF ?_ |refine AWP.seq ?_ |refine AWP.region ?_ |(refine AWP.condD rfl ?_ ?_ <;> intro _ <;> try (exfalso; omega)) |refine AWP.block ?_ |refine AWP.skip ?_ |refine AWP.exit ?_ |(refine Fl.el rfl rfl rfl rfl rfl rfl rfl rfl (by omega) (by omega) ?_; intro _ _) |fail)
    · rename_i hi v hv
      rw [Int.toNat_natCast] at hv
      have hvb := incB_mem hL.inc (List.mem_of_getElem? hv)
      repeat' (first |refine Fl.v rfl rfl rfl ?_ |(refine Fl.el rfl rfl rfl rfl rfl rfl rfl rfl (by omega) (by omega) ?_; intro _ _) |fail)
      rename_i x hx
      refine Fl.lit rfl rfl rfl rfl rfl eX [x] rfl rfl rfl rfl (by intro _ _; rfl) rfl ?_
      skip
      refine Fl.ap rfl rfl rfl rfl rfl rfl rfl rfl rfl rfl rfl rfl rfl (fun _ => rfl) (fun _ => rfl) (AV.Le.refl _) (by dsimp only [List.length_nil, List.length_cons]; omega) (by simp; omega) ?_
      repeat' (first |refine Fl.v rfl rfl rfl ?_ |refine Fl.nilF ?_ |refine AWP.region ?_ |refine Fl.w rfl rfl rfl (by first | exact True.intro | omega) ?_ |fail)
      refine LoopEnd.of (i + 1) (by omega) (by omega) ?_
      refine Ent.of [(6, 27)] ?_ ?_ rfl rfl
      repeat' (first | exact True.intro |refine ⟨⟨AV.Le.refl _, rfl⟩, ?_⟩ |refine ⟨⟨⟨_, rfl, BLe.cells (LeL.refl _)⟩, rfl⟩, ?_⟩ |refine ⟨⟨⟨_, rfl, BLe.row rfl⟩, rfl⟩, ?_⟩ |refine ⟨⟨⟨_, rfl, BLe.row ?_⟩, rfl⟩, ?_⟩ |refine ⟨⟨⟨_, rfl, BLe.cells ?_⟩, rfl⟩, ?_⟩ |refine ⟨⟨AV.Le.int ?_, rfl⟩, ?_⟩ |refine ⟨⟨AV.Le.bool ?_, rfl⟩, ?_⟩ |refine ⟨⟨AV.Le.sl ?_, rfl⟩, ?_⟩ |refine ⟨⟨AV.Le.of_eq ?_, rfl⟩, ?_⟩ | fail)
      exact (atOf_snoc hv hx).symm
    · rename_i hi
      have hti : l.vars.take i = l.vars := List.take_of_length_le (by omega)
      refine AWP.ent (Ent.freeze 6 rfl) ?_
      refine AWP.ent (Ent.nilrow 7 807 rfl rfl 2 eX 58) ?_
      refine AWP.loop (G := Nat) (fun j => j ≤ l.polys.length ∧ ∀ p ∈ l.polys.take j, EvOk (atOf X l.vars) p) (fun j => St.of [] [(2, .ptr 2 0), (6, .sl 2 eX (atOf X l.vars)), (7, .row 7), (30, .sl 2 eP l.polys), (31, aN l.polys.length), (32, aN j)] [(2, .cells (eL l) 51), (7, .row 2 eX ((l.polys.take j).map (pv (atOf X l.vars))) 58)]) (fun j => l.polys.length - j) 0 ⟨by omega, by simp⟩ ?_ ?_
      · refine Ent.of [(7, 807)] ?_ ?_ rfl rfl
        repeat' (first | exact True.intro |refine ⟨⟨AV.Le.refl _, rfl⟩, ?_⟩ |refine ⟨⟨⟨_, rfl, BLe.cells (LeL.refl _)⟩, rfl⟩, ?_⟩ |refine ⟨⟨⟨_, rfl, BLe.row rfl⟩, rfl⟩, ?_⟩ |refine ⟨⟨⟨_, rfl, BLe.row ?_⟩, rfl⟩, ?_⟩ |refine ⟨⟨⟨_, rfl, BLe.cells ?_⟩, rfl⟩, ?_⟩ |refine ⟨⟨AV.Le.int ?_, rfl⟩, ?_⟩ |refine ⟨⟨AV.Le.bool ?_, rfl⟩, ?_⟩ |refine ⟨⟨AV.Le.sl ?_, rfl⟩, ?_⟩ |refine ⟨⟨AV.Le.of_eq ?_, rfl⟩, ?_⟩ | fail)
        rw [hti]
      · clear hi hti hli k0 i; intro j ⟨k0, k1⟩
        have hlj : ((l.polys.take j).map (pv (atOf X l.vars))).length = j := by simp; omega
        repeat' (first |refine Fl.v rfl rfl rfl ?_ |refine Fl.nilF ?_ |refine AWP.seq ?_ |refine AWP.region ?_ |refine Fl.b rfl rfl rfl rfl ?_ |(refine AWP.condD rfl ?_ ?_ <;> intro _ <;> try (exfalso; omega)) |refine AWP.block ?_ |refine AWP.skip ?_ |refine AWP.exit ?_ |refine AWP.ret ?_ |(refine Fl.el rfl rfl rfl rfl rfl rfl rfl rfl (by omega) (by omega) ?_; intro _ _) |fail)
        · rename_i hj p hp
          rw [Int.toNat_natCast] at hp
          have hpm := List.mem_of_getElem? hp
          have hpo := hL.polys p hpm
          have hev := fun r h1 h2 => Eval_ok p (atOf X l.vars) (hw p hpm) hpo.2 (by rw [hla]; exact hpo.1.symm) hfa r h1 h2
          by_cases he : EvOk (atOf X l.vars) p
          · have hev1 := hev _ (fun _ => rfl) (fun h => absurd he h)
            refine Fl.call rfl (hev1) rfl rfl rfl (LeL.refl _) ?_
            repeat' (first |refine Fl.v rfl rfl rfl ?_ |refine Fl.nilF ?_ |refine AWP.seq ?_ |refine AWP.region ?_ |refine Fl.b rfl rfl rfl rfl ?_ |refine AWP.condF rfl ?_ |refine AWP.skip ?_ |fail)
            refine Fl.lit rfl rfl rfl rfl rfl eX [pv (atOf X l.vars) p] rfl rfl rfl rfl (by intro _ _; rfl) rfl ?_
            skip
            refine Fl.ap rfl rfl rfl rfl rfl rfl rfl rfl rfl rfl rfl rfl rfl (fun _ => rfl) (fun _ => rfl) (AV.Le.refl _) (by dsimp only [List.length_nil, List.length_cons]; omega) (by simp; omega) ?_
            repeat' (first |refine Fl.v rfl rfl rfl ?_ |refine Fl.nilF ?_ |refine AWP.region ?_ |refine Fl.w rfl rfl rfl (by first | exact True.intro | omega) ?_ |fail)
            refine LoopEnd.of (j + 1) ⟨by omega, all_take_succ hp k1 he⟩ (by omega) ?_
            refine Ent.of [(7, 48)] ?_ ?_ rfl rfl
            repeat' (first | exact True.intro |refine ⟨⟨AV.Le.refl _, rfl⟩, ?_⟩ |refine ⟨⟨⟨_, rfl, BLe.cells (LeL.refl _)⟩, rfl⟩, ?_⟩ |refine ⟨⟨⟨_, rfl, BLe.row rfl⟩, rfl⟩, ?_⟩ |refine ⟨⟨⟨_, rfl, BLe.row ?_⟩, rfl⟩, ?_⟩ |refine ⟨⟨⟨_, rfl, BLe.cells ?_⟩, rfl⟩, ?_⟩ |refine ⟨⟨AV.Le.int ?_, rfl⟩, ?_⟩ |refine ⟨⟨AV.Le.bool ?_, rfl⟩, ?_⟩ |refine ⟨⟨AV.Le.sl ?_, rfl⟩, ?_⟩ |refine ⟨⟨AV.Le.of_eq ?_, rfl⟩, ?_⟩ | fail)
            rw [take_snoc hp, List.map_append]; rfl
          · have hev1 := hev _ (fun h => absurd h he) (fun _ => rfl)
            rw [hr2 fun h => he (h p hpm)]
            refine Fl.call rfl (hev1) rfl rfl rfl (LeL.refl _) ?_
            repeat' (first |refine Fl.v rfl rfl rfl ?_ |refine Fl.nilF ?_ |refine AWP.seq ?_ |refine AWP.region ?_ |refine Fl.b rfl rfl rfl rfl ?_ |refine AWP.condT rfl ?_ |refine AWP.ret ?_ |fail)
            exact RetOk.of rfl (AV.Le.refl _)
        · rename_i hj
          have htj : l.polys.take j = l.polys := List.take_of_length_le (by omega)
          rw [htj] at k1
          rw [hr1 k1]
          refine RetOk.ent (Ent.freeze 7 rfl) ?_
          refine RetOk.of rfl ?_
          rw [htj]
          exact AV.Le.refl _
end Go.Proofs.YtfkjhjgihbnegaaGreat
namespace Go.AL
theorem I64.iff {x : Int} : I64 x ↔ -9223372036854775808 ≤ x ∧ x ≤ 9223372036854775807 := Iff.rfl
/-- the link holds for its polynomials' values -/
def holdP (k : Int) (vs : List Int) : Prop :=
  if k = 1 then 2 ≤ vs.getD 0 0 ∧ 1 ≤ vs.getD 1 0 ∧ psiN (vs.getD 0 0) (vs.getD 1 0).toNat = vs.getD 2 0
  else if k = 2 then 1 ≤ vs.getD 0 0 ∧ 0 ≤ vs.getD 1 0 ∧ (vs.getD 0 0) ^ (vs.getD 1 0).toNat = vs.getD 2 0
  else if k = 3 then 0 ≤ vs.getD 0 0 ∧ 0 ≤ vs.getD 1 0 ∧ undI (vs.getD 0 0) (vs.getD 1 0)
  else vs.getD 0 0 = 0
end Go.AL
namespace Go.Proofs.YtfkjhjgihbnegaaGreat
open Go.AL

theorem isPsi_ok (x y z : Int) (hx : Fit x) (hy : Fit y) (hz : Fit z) (b : Bool) (hb : b = true ↔ 2 ≤ x ∧ 1 ≤ y ∧ psiN x y.toNat = z) : PureFn Tryz.prog 76 [.sl 2 eX [x, y, z]] (aB b) := by
  refine PureFn.of_body Tryz.func76 rfl Tryz.ntmps76 rfl rfl ?_
  have hfalse : ¬ (2 ≤ x ∧ 1 ≤ y ∧ psiN x y.toNat = z) → false = b := fun h => by cases b with | false => rfl | true => exact absurd (hb.1 rfl) h
  have g0 : [x, y, z][(0 : Int).toNat]? = some x := rfl
  have g1 : [x, y, z][(1 : Int).toNat]? = some y := rfl
  have g2 : [x, y, z][(2 : Int).toNat]? = some z := rfl
  have hl : [x, y, z].length = 3 := rfl
  repeat' (first |refine Fl.v rfl rfl rfl ?_ |refine Fl.nilF ?_ |refine AWP.seq ?_ |refine AWP.region ?_ |refine Fl.elK rfl rfl rfl rfl rfl rfl rfl rfl (by assumption) (by omega) ?_ |fail)
  refine Fl.call rfl (Of_ok 2 (by omega) (by omega)) rfl rfl rfl (LeL.refl _) ?_
  skip
  refine Fl.call rfl (Less_ok x 2 hx fit_two) rfl rfl rfl (LeL.refl _) ?_
  repeat' (first |refine Fl.v rfl rfl rfl ?_ |refine Fl.nilF ?_ |refine Fl.nil (fun _ => by kernel_rfl) ?_ |refine AWP.seq ?_ |refine AWP.region ?_ |refine Fl.skip rfl rfl ?_ |refine AWP.condT rfl ?_ |refine AWP.ret ?_ |refine Fl.elK rfl rfl rfl rfl rfl rfl rfl rfl (by assumption) (by omega) ?_ |(refine Fl.splitD rfl rfl ?_ ?_ <;> intro _ <;> try (exfalso; omega)) |fail)
  · rename_i h
    exact RetOk.of rfl (AV.Le.bool (hfalse fun k => by omega))
  · rename_i h
    refine Fl.call rfl (Of_ok 1 (by omega) (by omega)) rfl rfl rfl (LeL.refl _) ?_
    skip
    refine Fl.call rfl (Less_ok y 1 hy fit_one) rfl rfl rfl (LeL.refl _) ?_
    repeat' (first |refine Fl.v rfl rfl rfl ?_ |refine Fl.nilF ?_ |refine Fl.nil (fun _ => by kernel_rfl) ?_ |refine AWP.seq ?_ |refine AWP.region ?_ |(refine AWP.condD rfl ?_ ?_ <;> intro _ <;> try (exfalso; omega)) |refine AWP.skip ?_ |refine AWP.ret ?_ |refine Fl.elK rfl rfl rfl rfl rfl rfl rfl rfl (by assumption) (by omega) ?_ |fail)
    · exact RetOk.of rfl (AV.Le.bool (hfalse fun k => by omega))
    · rename_i h1
      have hsm := Small_ok y hy
      by_cases hI : I64 y
      · have hI2 := I64.iff.1 hI
        rw [if_pos hI, decide_eq_true hI] at hsm
        refine Fl.call rfl (hsm) rfl rfl rfl (LeL.refl _) ?_
        repeat' (first |refine Fl.v rfl rfl rfl ?_ |refine Fl.nilF ?_ |refine AWP.seq ?_ |refine AWP.region ?_ |refine AWP.condF rfl ?_ |refine AWP.skip ?_ |refine Fl.elK rfl rfl rfl rfl rfl rfl rfl rfl (by assumption) (by omega) ?_ |fail)
        have hps := Psi_ok x y hx (by omega) (by omega) (by omega)
        by_cases hf : Fit (psiN x y.toNat)
        · rw [aR_fit hf] at hps
          refine Fl.call rfl (hps) rfl rfl rfl (LeL.refl _) ?_
          repeat' (first |refine Fl.v rfl rfl rfl ?_ |refine Fl.nilF ?_ |refine AWP.seq ?_ |refine AWP.region ?_ |refine Fl.b rfl rfl rfl rfl ?_ |refine Fl.elK rfl rfl rfl rfl rfl rfl rfl rfl (by assumption) (by omega) ?_ |(refine Fl.splitD rfl rfl ?_ ?_ <;> intro _ <;> try (exfalso; omega)) |fail)
          refine Fl.call rfl (Same_ok _ z hf hz) rfl rfl rfl (LeL.refl _) ?_
          repeat' (first |refine Fl.v rfl rfl rfl ?_ |refine Fl.nil (fun _ => by kernel_rfl) ?_ |refine AWP.ret ?_ |fail)
          refine RetOk.of rfl (AV.Le.bool ?_)
          cases b with
          | false => exact decide_eq_false fun k => by have := hb.2 ⟨by omega, by omega, k⟩; cases this
          | true => exact decide_eq_true (hb.1 rfl).2.2
        · rw [aR_not hf] at hps
          refine Fl.call rfl (hps) rfl rfl rfl (LeL.refl _) ?_
          repeat' (first |refine Fl.v rfl rfl rfl ?_ |refine Fl.nilF ?_ |refine Fl.nil (fun _ => by kernel_rfl) ?_ |refine AWP.seq ?_ |refine AWP.region ?_ |refine Fl.b rfl rfl rfl rfl ?_ |refine Fl.skip rfl rfl ?_ |refine AWP.ret ?_ |fail)
          exact RetOk.of rfl (AV.Le.bool (hfalse fun k => hf (by rw [k.2.2]; exact hz)))
      · rw [if_neg hI, decide_eq_false hI] at hsm
        refine Fl.call rfl (hsm) rfl rfl rfl (LeL.refl _) ?_
        repeat' (first |refine Fl.v rfl rfl rfl ?_ |refine Fl.nilF ?_ |refine AWP.seq ?_ |refine AWP.region ?_ |refine AWP.condT rfl ?_ |refine AWP.ret ?_ |fail)
        refine RetOk.of rfl (AV.Le.bool (hfalse fun k => ?_))
        refine psi_not_fit (a := x) (n := y.toNat) (by omega) ?_ (by rw [k.2.2]; exact hz)
        rw [I64.iff] at hI
        omega
theorem isPower_ok (x y z : Int) (hx : Fit x) (hy : Fit y) (hz : Fit z) (b : Bool) (hb : b = true ↔ 1 ≤ x ∧ 0 ≤ y ∧ x ^ y.toNat = z) : PureFn Tryz.prog 77 [.sl 2 eX [x, y, z]] (aB b) := by
  refine PureFn.of_body Tryz.func77 rfl Tryz.ntmps77 rfl rfl ?_
  have hfalse : ¬ (1 ≤ x ∧ 0 ≤ y ∧ x ^ y.toNat = z) → false = b := fun h => by cases b with | false => rfl | true => exact absurd (hb.1 rfl) h
  have g0 : [x, y, z][(0 : Int).toNat]? = some x := rfl
  have g1 : [x, y, z][(1 : Int).toNat]? = some y := rfl
  have g2 : [x, y, z][(2 : Int).toNat]? = some z := rfl
  have hl : [x, y, z].length = 3 := rfl
  repeat' (first |refine Fl.v rfl rfl rfl ?_ |refine Fl.nilF ?_ |refine AWP.seq ?_ |refine AWP.region ?_ |fail)
  refine Fl.call rfl (Of_ok 1 (by omega) (by omega)) rfl rfl rfl (LeL.refl _) ?_
  repeat' (first |refine Fl.v rfl rfl rfl ?_ |refine Fl.nilF ?_ |refine AWP.seq ?_ |refine AWP.region ?_ |refine Fl.b rfl rfl rfl rfl ?_ |refine Fl.elK rfl rfl rfl rfl rfl rfl rfl rfl (by assumption) (by omega) ?_ |fail)
  refine Fl.call rfl (Less_ok x 1 hx fit_one) rfl rfl rfl (LeL.refl _) ?_
  repeat' (first |refine Fl.v rfl rfl rfl ?_ |refine Fl.nilF ?_ |refine Fl.nil (fun _ => by kernel_rfl) ?_ |refine AWP.seq ?_ |refine AWP.region ?_ |refine Fl.skip rfl rfl ?_ |refine AWP.condT rfl ?_ |(refine AWP.condD rfl ?_ ?_ <;> intro _ <;> try (exfalso; omega)) |refine AWP.skip ?_ |refine AWP.ret ?_ |refine Fl.elK rfl rfl rfl rfl rfl rfl rfl rfl (by assumption) (by omega) ?_ |(refine Fl.splitD rfl rfl ?_ ?_ <;> intro _ <;> try (exfalso; omega)) |fail)
  · rename_i h
    exact RetOk.of rfl (AV.Le.bool (hfalse fun k => by omega))
  · rename_i h h1
    exact RetOk.of rfl (AV.Le.bool (hfalse fun k => by omega))
  · rename_i h h1
    refine Fl.call rfl (Same_ok x 1 hx fit_one) rfl rfl rfl (LeL.refl _) ?_
    repeat' (first |refine Fl.v rfl rfl rfl ?_ |refine Fl.nil (fun _ => by kernel_rfl) ?_ |refine AWP.seq ?_ |refine AWP.region ?_ |(refine AWP.condD rfl ?_ ?_ <;> intro _ <;> try (exfalso; omega)) |refine AWP.skip ?_ |refine Fl.elK rfl rfl rfl rfl rfl rfl rfl rfl (by assumption) (by omega) ?_ |fail)
    · rename_i h2
      refine Fl.call rfl (Same_ok z 1 hz fit_one) rfl rfl rfl (LeL.refl _) ?_
      repeat' (first |refine Fl.v rfl rfl rfl ?_ |refine Fl.nil (fun _ => by kernel_rfl) ?_ |refine AWP.ret ?_ |fail)
      refine RetOk.of rfl (AV.Le.bool ?_)
      subst h2
      cases b with
      | false => exact decide_eq_false fun k => by have := hb.2 ⟨by omega, by omega, by rw [Int.one_pow, k]⟩; cases this
      | true => exact decide_eq_true (by have := (hb.1 rfl).2.2; rw [Int.one_pow] at this; exact this.symm)
    · rename_i h2
      have hsm := Small_ok y hy
      have hbig : 131072 < y → ¬ (1 ≤ x ∧ 0 ≤ y ∧ x ^ y.toNat = z) := fun h k => pow_not_fit (x := x) (n := y.toNat) (by omega) (by omega) (by rw [k.2.2]; exact hz)
      by_cases hI : I64 y
      · have hI2 := I64.iff.1 hI
        rw [if_pos hI, decide_eq_true hI] at hsm
        refine Fl.call rfl (hsm) rfl rfl rfl (LeL.refl _) ?_
        repeat' (first |refine Fl.v rfl rfl rfl ?_ |refine Fl.nilF ?_ |refine AWP.seq ?_ |refine AWP.region ?_ |(refine AWP.condD rfl ?_ ?_ <;> intro _ <;> try (exfalso; omega)) |refine AWP.skip ?_ |refine AWP.ret ?_ |refine Fl.elK rfl rfl rfl rfl rfl rfl rfl rfl (by assumption) (by omega) ?_ |fail)
        · rename_i h3
          exact RetOk.of rfl (AV.Le.bool (hfalse (hbig h3)))
        · have hps := Power_ok x y hx (by omega) (by omega)
          by_cases hf : Fit (x ^ y.toNat)
          · rw [aR_fit hf] at hps
            refine Fl.call rfl (hps) rfl rfl rfl (LeL.refl _) ?_
            repeat' (first |refine Fl.v rfl rfl rfl ?_ |refine Fl.nilF ?_ |refine AWP.seq ?_ |refine AWP.region ?_ |refine Fl.b rfl rfl rfl rfl ?_ |refine Fl.elK rfl rfl rfl rfl rfl rfl rfl rfl (by assumption) (by omega) ?_ |(refine Fl.splitD rfl rfl ?_ ?_ <;> intro _ <;> try (exfalso; omega)) |fail)
            refine Fl.call rfl (Same_ok _ z hf hz) rfl rfl rfl (LeL.refl _) ?_
            repeat' (first |refine Fl.v rfl rfl rfl ?_ |refine Fl.nil (fun _ => by kernel_rfl) ?_ |refine AWP.ret ?_ |fail)
            refine RetOk.of rfl (AV.Le.bool ?_)
            cases b with
            | false => exact decide_eq_false fun k => by have := hb.2 ⟨by omega, by omega, k⟩; cases this
            | true => exact decide_eq_true (hb.1 rfl).2.2
          · rw [aR_not hf] at hps
            refine Fl.call rfl (hps) rfl rfl rfl (LeL.refl _) ?_
            repeat' (first |refine Fl.v rfl rfl rfl ?_ |refine Fl.nilF ?_ |refine Fl.nil (fun _ => by kernel_rfl) ?_ |refine AWP.seq ?_ |refine AWP.region ?_ |refine Fl.b rfl rfl rfl rfl ?_ |refine Fl.skip rfl rfl ?_ |refine AWP.ret ?_ |fail)
            exact RetOk.of rfl (AV.Le.bool (hfalse fun k => hf (by rw [k.2.2]; exact hz)))
      · rw [if_neg hI, decide_eq_false hI] at hsm
        refine Fl.call rfl (hsm) rfl rfl rfl (LeL.refl _) ?_
        repeat' (first |refine Fl.v rfl rfl rfl ?_ |refine Fl.nilF ?_ |refine AWP.seq ?_ |refine AWP.region ?_ |refine Fl.skip rfl rfl ?_ |refine AWP.condT rfl ?_ |refine AWP.ret ?_ |fail)
        refine RetOk.of rfl (AV.Le.bool (hfalse (hbig ?_)))
        rw [I64.iff] at hI
        omega

theorem holds_ok (k : Int) (vs : List Int) (hk : needI k ≠ 0) (hl : (vs.length : Int) = needI k) (hX : ∀ x ∈ vs, Fit x) (b : Bool) (hb : b = true ↔ holdP k vs) : PureFn Tryz.prog 37 [aN k, .sl 2 eX vs] (aB b) := by
  refine PureFn.of_body Tryz.func37 rfl Tryz.ntmps37 rfl rfl ?_
  have hk4 : k = 0 ∨ k = 1 ∨ k = 2 ∨ k = 3 := by
    unfold needI at hk
    by_cases h0 : k = 0
    · omega
    by_cases h1 : k = 1
    · omega
    by_cases h2 : k = 2
    · omega
    by_cases h3 : k = 3
    · omega
    simp [h0, h1, h2, h3] at hk
  rcases hk4 with rfl | rfl | rfl | rfl
  · have hl : vs.length = 1 := by simp [needI] at hl; omega
    obtain ⟨x, rfl⟩ : ∃ x, vs = [x] := by
      match vs, hl with
      | [x], _ => exact ⟨x, rfl⟩
    have g0 : [x][(0 : Int).toNat]? = some x := rfl
    have hll : [x].length = 1 := rfl
    repeat' (first |refine Fl.v rfl rfl rfl ?_ |refine Fl.nilF ?_ |refine AWP.seq ?_ |refine AWP.region ?_ |refine AWP.condF rfl ?_ |refine AWP.block ?_ |refine AWP.skip ?_ |refine AWP.ret ?_ |refine Fl.elK rfl rfl rfl rfl rfl rfl rfl rfl (by assumption) (by omega) ?_ |fail)
    refine RetOk.of rfl (AV.Le.bool ?_)
    have hx0 : ((toW x.natAbs).length : Int) = 0 ↔ x = 0 := by
      have := toW_nil_iff (z := x.natAbs) (by omega)
      rw [← List.length_eq_zero_iff] at this
      omega
    have hb2 : b = true ↔ x = 0 := hb
    cases b with
    | false => exact decide_eq_false fun k => by have := hb2.2 (hx0.1 k); cases this
    | true => exact decide_eq_true (hx0.2 (hb2.1 rfl))
  · have hl : vs.length = 3 := by simp [needI] at hl; omega
    obtain ⟨x, y, z, rfl⟩ : ∃ x y z, vs = [x, y, z] := by
      match vs, hl with
      | [x, y, z], _ => exact ⟨x, y, z, rfl⟩
    repeat' (first |refine Fl.v rfl rfl rfl ?_ |refine Fl.nilF ?_ |refine AWP.seq ?_ |refine AWP.region ?_ |refine AWP.condT rfl ?_ |refine AWP.block ?_ |fail)
    refine Fl.call rfl (isPsi_ok x y z (hX x (by simp)) (hX y (by simp)) (hX z (by simp)) b hb) rfl rfl rfl (LeL.refl _) ?_
    repeat' (first |refine Fl.v rfl rfl rfl ?_ |refine Fl.nilF ?_ |refine AWP.ret ?_ |fail)
    exact RetOk.of rfl (AV.Le.refl _)
  · have hl : vs.length = 3 := by simp [needI] at hl; omega
    obtain ⟨x, y, z, rfl⟩ : ∃ x y z, vs = [x, y, z] := by
      match vs, hl with
      | [x, y, z], _ => exact ⟨x, y, z, rfl⟩
    repeat' (first |refine Fl.v rfl rfl rfl ?_ |refine Fl.nilF ?_ |refine AWP.seq ?_ |refine AWP.region ?_ |refine AWP.condT rfl ?_ |refine AWP.condF rfl ?_ |refine AWP.block ?_ |fail)
    refine Fl.call rfl (isPower_ok x y z (hX x (by simp)) (hX y (by simp)) (hX z (by simp)) b hb) rfl rfl rfl (LeL.refl _) ?_
    repeat' (first |refine Fl.v rfl rfl rfl ?_ |refine Fl.nilF ?_ |refine AWP.ret ?_ |fail)
    exact RetOk.of rfl (AV.Le.refl _)
  · have hl : vs.length = 2 := by simp [needI] at hl; omega
    obtain ⟨x, y, rfl⟩ : ∃ x y, vs = [x, y] := by
      match vs, hl with
      | [x, y], _ => exact ⟨x, y, rfl⟩
    have g0 : [x, y][(0 : Int).toNat]? = some x := rfl
    have g1 : [x, y][(1 : Int).toNat]? = some y := rfl
    have hll : [x, y].length = 2 := rfl
    have hx := hX x (by simp)
    have hy := hX y (by simp)
    repeat' (first |refine Fl.v rfl rfl rfl ?_ |refine Fl.nilF ?_ |refine AWP.seq ?_ |refine AWP.region ?_ |refine AWP.condT rfl ?_ |refine AWP.condF rfl ?_ |refine AWP.block ?_ |refine Fl.elK rfl rfl rfl rfl rfl rfl rfl rfl (by assumption) (by omega) ?_ |fail)
    refine Fl.call rfl (Under_ok x y hx hy) rfl rfl rfl (LeL.refl _) ?_
    repeat' (first |refine Fl.v rfl rfl rfl ?_ |refine Fl.nilF ?_ |refine Fl.nil (fun _ => by kernel_rfl) ?_ |refine AWP.seq ?_ |refine AWP.region ?_ |refine Fl.skip rfl rfl ?_ |refine AWP.ret ?_ |(refine Fl.splitD rfl rfl ?_ ?_ <;> intro _ <;> try (exfalso; omega)) |fail)
    · rename_i h
      refine RetOk.of rfl (AV.Le.bool ?_)
      have hbt : b = true := hb.2 h
      rw [hbt]
      exact decide_eq_true (if_neg (by omega))
    · rename_i h
      refine RetOk.of rfl (AV.Le.bool ?_)
      cases b with
      | false => rfl
      | true => exact absurd (hb.1 rfl) h
end Go.Proofs.YtfkjhjgihbnegaaGreat
namespace Go.AL
/-- whether the links hold, or the error -/
def holdsR (f g : LZ → Bool) : List LZ → Bool × Int
  | [] => (true, 0)
  | l :: ls => if f l then (if g l then holdsR f g ls else (false, 0)) else (false, 4)
/-- a link's polynomials have values -/
def EvL (X : List Int) (l : LZ) : Prop := ∀ p ∈ l.polys, EvOk (atOf X l.vars) p
def lvals (X : List Int) (l : LZ) : List Int := l.polys.map (pv (atOf X l.vars))
def HoL (X : List Int) (l : LZ) : Prop := holdP l.kind (lvals X l)
theorem pv_fit {X : List Int} {p : PZ} (h : EvOk X p) : Fit (pv X p) := by
  have b1 := PS_take X p.terms p.terms.length
  have b2 := OS_take X p.terms p.terms.length
  rw [List.take_length] at b1 b2
  exact fit_sum h.1 h.2 b1.1 b2.1
theorem lvals_fit {X : List Int} {l : LZ} (h : EvL X l) : ∀ x ∈ lvals X l, Fit x := fun x hx => by
  obtain ⟨p, hp, rfl⟩ := List.mem_map.1 hx
  exact pv_fit (h p hp)
theorem holdsR_drop {f g : LZ → Bool} {ls : List LZ} {i : Nat} {l : LZ} (h : ls[i]? = some l) : holdsR f g (ls.drop i) = if f l then (if g l then holdsR f g (ls.drop (i + 1)) else (false, 0)) else (false, 4) := by
  have hi := (List.getElem?_eq_some_iff.1 h).1
  rw [List.drop_eq_getElem_cons hi, (List.getElem?_eq_some_iff.1 h).2]
  rfl
end Go.AL
namespace Go.Proofs.YtfkjhjgihbnegaaGreat
open Go.AL

theorem Holds_form (s : SZ) (zs : List Z) (hw : WS s) (hz : ∀ z ∈ zs, WOk z.w) (hl : zs.length ≤ 1000000000) (h : ¬ (OkS s ∧ ∀ z ∈ zs, OkZ z)) : PureFn Tryz.prog 10 [aS s, .sl 2 eZ zs] (.tup [aB false, aN 1]) := by
  refine PureFn.of_body Tryz.func10 rfl Tryz.ntmps10 rfl rfl ?_
  repeat' (first |refine Fl.v rfl rfl rfl ?_ |refine Fl.nilF ?_ |refine AWP.seq ?_ |refine AWP.region ?_ |refine Fl.b rfl rfl rfl rfl ?_ |fail)
  by_cases hs : OkS s
  · refine Fl.call rfl (sValid_ok s hw true ⟨fun _ => hs, fun _ => rfl⟩) rfl rfl rfl (LeL.refl _) ?_
    repeat' (first |refine Fl.v rfl rfl rfl ?_ |fail)
    have hv := chValid_ok zs hz hl
    rw [decide_eq_false fun k => h ⟨hs, k⟩] at hv
    refine Fl.call rfl (hv) rfl rfl rfl (LeL.refl _) ?_
    repeat' (first |refine Fl.v rfl rfl rfl ?_ |refine Fl.nilF ?_ |refine AWP.seq ?_ |refine AWP.region ?_ |refine AWP.condT rfl ?_ |refine AWP.ret ?_ |fail)
    exact RetOk.of rfl (AV.Le.refl _)
  · refine Fl.call rfl (sValid_ok s hw false ⟨fun k => (by cases k), fun k => absurd k hs⟩) rfl rfl rfl (LeL.refl _) ?_
    repeat' (first |refine Fl.v rfl rfl rfl ?_ |refine Fl.nilF ?_ |refine AWP.seq ?_ |refine AWP.region ?_ |refine Fl.skip rfl rfl ?_ |refine AWP.condT rfl ?_ |refine AWP.ret ?_ |fail)
    exact RetOk.of rfl (AV.Le.refl _)
theorem Holds_arg (s : SZ) (X : List Int) (hw : WS s) (hs : OkS s) (hX : ∀ x ∈ X, Fit x) (hl : X.length ≤ 1000000000) (h : ¬ ((X.length : Int) = s.vars ∧ ∀ x ∈ X, 0 ≤ x)) : PureFn Tryz.prog 10 [aS s, .sl 2 eX X] (.tup [aB false, aN 2]) := by
  refine PureFn.of_body Tryz.func10 rfl Tryz.ntmps10 rfl rfl ?_
  repeat' (first |refine Fl.v rfl rfl rfl ?_ |refine Fl.nilF ?_ |refine AWP.seq ?_ |refine AWP.region ?_ |refine Fl.b rfl rfl rfl rfl ?_ |fail)
  refine Fl.call rfl (sValid_ok s hw true ⟨fun _ => hs, fun _ => rfl⟩) rfl rfl rfl (LeL.refl _) ?_
  repeat' (first |refine Fl.v rfl rfl rfl ?_ |fail)
  refine Fl.call rfl (chValidX_ok X hX hl) rfl rfl rfl (LeL.refl _) ?_
  repeat' (first |refine Fl.v rfl rfl rfl ?_ |refine Fl.nilF ?_ |refine AWP.seq ?_ |refine AWP.region ?_ |refine Fl.skip rfl rfl ?_ |refine AWP.condT rfl ?_ |refine AWP.condF rfl ?_ |refine AWP.skip ?_ |refine AWP.ret ?_ |(refine Fl.splitN rfl rfl ?_ ?_ <;> intro _ <;> try (exfalso; omega)) |fail)
  · exact RetOk.of rfl (AV.Le.refl _)
  · rename_i hlen
    have hv := chNatural_ok X hl
    rw [decide_eq_false fun k => h ⟨hlen, k⟩] at hv
    refine Fl.call rfl (hv) rfl rfl rfl (LeL.refl _) ?_
    repeat' (first |refine Fl.v rfl rfl rfl ?_ |refine Fl.nilF ?_ |refine AWP.seq ?_ |refine AWP.region ?_ |refine AWP.condT rfl ?_ |refine AWP.ret ?_ |fail)
    exact RetOk.of rfl (AV.Le.refl _)
theorem Holds_ok (s : SZ) (X : List Int) (hw : WS s) (hs : OkS s) (hX : ∀ x ∈ X, Fit x) (hlen : (X.length : Int) = s.vars) (hnat : ∀ x ∈ X, 0 ≤ x) (f g : LZ → Bool) (hf : ∀ l, f l = true ↔ EvL X l) (hg : ∀ l, g l = true ↔ HoL X l) : PureFn Tryz.prog 10 [aS s, .sl 2 eX X] (.tup [aB (holdsR f g s.links).1, aN (holdsR f g s.links).2]) := by
  refine PureFn.of_body Tryz.func10 rfl Tryz.ntmps10 rfl rfl ?_
  have hv1 := hs.v1
  have hsl := hs.len
  repeat' (first |refine Fl.v rfl rfl rfl ?_ |refine Fl.nilF ?_ |refine AWP.seq ?_ |refine AWP.region ?_ |refine Fl.b rfl rfl rfl rfl ?_ |fail)
  refine Fl.call rfl (sValid_ok s hw true ⟨fun _ => hs, fun _ => rfl⟩) rfl rfl rfl (LeL.refl _) ?_
  repeat' (first |refine Fl.v rfl rfl rfl ?_ |fail)
  refine Fl.call rfl (chValidX_ok X hX (by omega)) rfl rfl rfl (LeL.refl _) ?_
  repeat' (first |refine Fl.v rfl rfl rfl ?_ |refine Fl.nilF ?_ |refine AWP.seq ?_ |refine AWP.region ?_ |refine AWP.condF rfl ?_ |refine AWP.skip ?_ |(refine Fl.splitN rfl rfl ?_ ?_ <;> intro _ <;> try (exfalso; omega)) |fail)
  have hv := chNatural_ok X (by omega)
  rw [decide_eq_true hnat] at hv
  refine Fl.call rfl (hv) rfl rfl rfl (LeL.refl _) ?_
  repeat' (first |refine Fl.v rfl rfl rfl ?_ |refine Fl.nilF ?_ |refine AWP.seq ?_ |refine AWP.region ?_ |refine AWP.condF rfl ?_ |refine AWP.block ?_ |refine AWP.skip ?_ |fail)
  refine AWP.loop (G := Nat) (fun i => i ≤ s.links.length ∧ holdsR f g (s.links.drop i) = holdsR f g s.links) (fun i => St.of [] [(1, .sl 2 eX X), (29, .sl 3 eL s.links), (30, aN s.links.length), (31, aN i)] []) (fun i => s.links.length - i) 0 ⟨by omega, rfl⟩ ?_ ?_
  · refine Ent.of [] ?_ ?_ rfl rfl
    repeat' (first | exact True.intro |refine ⟨⟨AV.Le.refl _, rfl⟩, ?_⟩ |refine ⟨⟨⟨_, rfl, BLe.cells (LeL.refl _)⟩, rfl⟩, ?_⟩ |refine ⟨⟨⟨_, rfl, BLe.row rfl⟩, rfl⟩, ?_⟩ |refine ⟨⟨⟨_, rfl, BLe.row ?_⟩, rfl⟩, ?_⟩ |refine ⟨⟨⟨_, rfl, BLe.cells ?_⟩, rfl⟩, ?_⟩ |refine ⟨⟨AV.Le.int ?_, rfl⟩, ?_⟩ |refine ⟨⟨AV.Le.bool ?_, rfl⟩, ?_⟩ |refine ⟨⟨AV.Le.sl ?_, rfl⟩, ?_⟩ |refine ⟨⟨AV.Le.of_eq ?_, rfl⟩, ?_⟩ | fail)
  · intro i ⟨k0, k1⟩
    repeat' (first |refine Fl.v rfl rfl rfl ?_ |refine Fl.nilF ?_ |refine AWP.seq ?_ |refine AWP.region ?_ |refine Fl.b rfl rfl rfl rfl ?_ |(refine AWP.condD rfl ?_ ?_ <;> intro _ <;> try (exfalso; omega)) |refine AWP.block ?_ |refine AWP.skip ?_ |refine AWP.exit ?_ |refine AWP.ret ?_ |(refine Fl.el rfl rfl rfl rfl rfl rfl rfl rfl (by omega) (by omega) ?_; intro _ _) |fail)
    · rename_i hi l hl
      rw [Int.toNat_natCast] at hl
      have hlm := List.mem_of_getElem? hl
      rw [holdsR_drop hl] at k1
      have hL := hs.links l hlm
      rw [← hlen] at hL
      have hvs := fun r h1 h2 => Values_ok l X (hw l hlm) hL hX r h1 h2
      by_cases he : EvL X l
      · rw [if_pos ((hf l).2 he)] at k1
        have hvs1 := hvs _ (fun _ => rfl) (fun h => absurd he h)
        refine Fl.call rfl (hvs1) rfl rfl rfl (LeL.refl _) ?_
        repeat' (first |refine Fl.v rfl rfl rfl ?_ |refine Fl.nilF ?_ |refine AWP.seq ?_ |refine AWP.region ?_ |refine AWP.condF rfl ?_ |refine AWP.skip ?_ |fail)
        have hho := holds_ok l.kind (lvals X l) hL.kind (by rw [lvals, List.length_map]; exact hL.len) (lvals_fit he) (g l) (hg l)
        refine Fl.call rfl (hho) rfl rfl rfl (LeL.refl _) ?_
        repeat' (first |refine Fl.v rfl rfl rfl ?_ |refine Fl.nilF ?_ |refine AWP.seq ?_ |refine AWP.region ?_ |refine Fl.w rfl rfl rfl (by first | exact True.intro | omega) ?_ |refine AWP.skip ?_ |refine AWP.ret ?_ |(refine AWP.condB rfl ?_ ?_ <;> intro _) |fail)
        · rename_i hb
          rw [if_neg (by simpa using hb)] at k1
          rw [← k1]
          exact RetOk.of rfl (AV.Le.refl _)
        · rename_i hb
          rw [if_pos (by simpa using hb)] at k1
          refine LoopEnd.of (i + 1) ⟨by omega, k1⟩ (by omega) ?_
          refine Ent.of [] ?_ ?_ rfl rfl
          repeat' (first | exact True.intro |refine ⟨⟨AV.Le.refl _, rfl⟩, ?_⟩ |refine ⟨⟨⟨_, rfl, BLe.cells (LeL.refl _)⟩, rfl⟩, ?_⟩ |refine ⟨⟨⟨_, rfl, BLe.row rfl⟩, rfl⟩, ?_⟩ |refine ⟨⟨⟨_, rfl, BLe.row ?_⟩, rfl⟩, ?_⟩ |refine ⟨⟨⟨_, rfl, BLe.cells ?_⟩, rfl⟩, ?_⟩ |refine ⟨⟨AV.Le.int ?_, rfl⟩, ?_⟩ |refine ⟨⟨AV.Le.bool ?_, rfl⟩, ?_⟩ |refine ⟨⟨AV.Le.sl ?_, rfl⟩, ?_⟩ |refine ⟨⟨AV.Le.of_eq ?_, rfl⟩, ?_⟩ | fail)
      · rw [if_neg (fun h => he ((hf l).1 h))] at k1
        have hvs1 := hvs _ (fun h => absurd h he) (fun _ => rfl)
        refine Fl.call rfl (hvs1) rfl rfl rfl (LeL.refl _) ?_
        repeat' (first |refine Fl.v rfl rfl rfl ?_ |refine Fl.nilF ?_ |refine AWP.seq ?_ |refine AWP.region ?_ |refine AWP.condT rfl ?_ |refine AWP.ret ?_ |fail)
        rw [← k1]
        exact RetOk.of rfl (AV.Le.refl _)
    · rename_i hi
      rw [List.drop_of_length_le (by omega)] at k1
      rw [← k1]
      exact RetOk.of rfl (AV.Le.refl _)
end Go.Proofs.YtfkjhjgihbnegaaGreat
namespace Go.AL
structure CT where
  v : Int
  e : Int
  p : Int
  w : Int
  u : Int
  d : Int
def eC : CT → List AV := fun c => [aN c.v, aN c.e, aN c.p, aN c.w, aN c.u, aN c.d]
abbrev aC (c : CT) : AV := .agg [aN c.v, aN c.e, aN c.p, aN c.w, aN c.u, aN c.d]
/-- one more link is counted -/
def stepC (c : CT) (l : LZ) : CT :=
  if l.kind = 0 then { c with e := c.e + 1, d := match l.polys with | [] => c.d | p :: _ => if pdeg p > c.d then pdeg p else c.d }
  else if l.kind = 1 then { c with p := c.p + 1 }
  else if l.kind = 2 then { c with w := c.w + 1 }
  else { c with u := c.u + 1 }
def cntR (vars : Int) (ls : List LZ) : CT := ls.foldl stepC ⟨vars, 0, 0, 0, 0, 0⟩
theorem cntR_snoc {vars : Int} {ls : List LZ} {i : Nat} {l : LZ} (h : ls[i]? = some l) : cntR vars (ls.take (i + 1)) = stepC (cntR vars (ls.take i)) l := by
  rw [take_snoc h]; simp [cntR]
def CTb (i : Int) (c : CT) : Prop := 0 ≤ c.e ∧ c.e ≤ i ∧ 0 ≤ c.p ∧ c.p ≤ i ∧ 0 ≤ c.w ∧ c.w ≤ i ∧ 0 ≤ c.u ∧ c.u ≤ i
theorem CTb.step {i : Int} {c : CT} (h : CTb i c) (l : LZ) : CTb (i + 1) (stepC c l) := by
  obtain ⟨h1, h2, h3, h4, h5, h6, h7, h8⟩ := h
  unfold stepC
  repeat' split
  all_goals exact ⟨by dsimp only; omega, by dsimp only; omega, by dsimp only; omega, by dsimp only; omega, by dsimp only; omega, by dsimp only; omega, by dsimp only; omega, by dsimp only; omega⟩
theorem leC {c c' : CT} {σ : List (Id × Id)} (h : c = c') : LeL (eC c) (renL (renI σ) (eC c')) := by subst h; exact LeL.refl _
theorem kinds {k : Int} (hk : needI k ≠ 0) : k = 0 ∨ k = 1 ∨ k = 2 ∨ k = 3 := by
  unfold needI at hk
  by_cases h0 : k = 0
  · omega
  by_cases h1 : k = 1
  · omega
  by_cases h2 : k = 2
  · omega
  by_cases h3 : k = 3
  · omega
  simp [h0, h1, h2, h3] at hk
end Go.AL
namespace Go.Proofs.YtfkjhjgihbnegaaGreat
open Go.AL

theorem Counts_form (s : SZ) (hw : WS s) (h : ¬ OkS s) : PureFn Tryz.prog 9 [aS s] (.tup [aC ⟨0, 0, 0, 0, 0, 0⟩, aN 1]) := by
  refine PureFn.of_body Tryz.func9 rfl Tryz.ntmps9 rfl rfl ?_
  repeat' (first |refine Fl.v rfl rfl rfl ?_ |refine Fl.nilF ?_ |refine AWP.seq ?_ |refine AWP.region ?_ |refine Fl.b rfl rfl rfl rfl ?_ |fail)
  refine Fl.call rfl (sValid_ok s hw false ⟨fun k => (by cases k), fun k => absurd k h⟩) rfl rfl rfl (LeL.refl _) ?_
  repeat' (first |refine Fl.v rfl rfl rfl ?_ |refine Fl.nilF ?_ |refine AWP.seq ?_ |refine AWP.region ?_ |refine Fl.b rfl rfl rfl rfl ?_ |refine AWP.condT rfl ?_ |refine AWP.ret ?_ |fail)
  exact RetOk.of rfl (AV.Le.refl _)
set_option maxHeartbeats 1000000 in
theorem Counts_ok (s : SZ) (hw : WS s) (hs : OkS s) : PureFn Tryz.prog 9 [aS s] (.tup [aC (cntR s.vars s.links), aN 0]) := by
  refine PureFn.of_body Tryz.func9 rfl Tryz.ntmps9 rfl rfl ?_
  have hsl := hs.len
  repeat' (first |refine Fl.v rfl rfl rfl ?_ |refine Fl.nilF ?_ |refine AWP.seq ?_ |refine AWP.region ?_ |refine Fl.b rfl rfl rfl rfl ?_ |fail)
  refine Fl.call rfl (sValid_ok s hw true ⟨fun _ => hs, fun _ => rfl⟩) rfl rfl rfl (LeL.refl _) ?_
  repeat' (first |refine Fl.v rfl rfl rfl ?_ |refine Fl.nilF ?_ |refine AWP.seq ?_ |refine AWP.region ?_ |refine Fl.b rfl rfl rfl rfl ?_ |refine AWP.condF rfl ?_ |refine AWP.skip ?_ |fail)
  refine Fl.bArr rfl rfl rfl rfl ?_
  repeat' (first |refine Fl.v rfl rfl rfl ?_ |refine Fl.nilF ?_ |refine AWP.seq ?_ |refine AWP.region ?_ |refine Fl.b rfl rfl rfl rfl ?_ |refine AWP.block ?_ |fail)
  refine AWP.loop (G := Nat) (fun i => i ≤ s.links.length ∧ CTb i (cntR s.vars (s.links.take i))) (fun i => St.of [] [(2, .ptr 2 0), (4, .ptr 4 0), (5, .ptr 5 0), (21, .sl 3 eL s.links), (22, aN s.links.length), (23, aN i)] [(2, .cells (eC ⟨0, 0, 0, 0, 0, 0⟩) 29), (4, .cells (eC (cntR s.vars (s.links.take i))) 29), (5, .cells [.ptr 4 1, .ptr 4 2, .ptr 4 3, .ptr 4 4] 73)]) (fun i => s.links.length - i) 0 ⟨by omega, by refine ⟨?_, ?_, ?_, ?_, ?_, ?_, ?_, ?_⟩ <;> (simp [cntR])⟩ ?_ ?_
  · refine Ent.of [] ?_ ?_ rfl rfl
    repeat' (first | exact True.intro |refine ⟨⟨AV.Le.refl _, rfl⟩, ?_⟩ |refine ⟨⟨⟨_, rfl, BLe.cells (LeL.refl _)⟩, rfl⟩, ?_⟩ |refine ⟨⟨⟨_, rfl, BLe.row rfl⟩, rfl⟩, ?_⟩ |refine ⟨⟨⟨_, rfl, BLe.row ?_⟩, rfl⟩, ?_⟩ |refine ⟨⟨⟨_, rfl, BLe.cells ?_⟩, rfl⟩, ?_⟩ |refine ⟨⟨AV.Le.int ?_, rfl⟩, ?_⟩ |refine ⟨⟨AV.Le.bool ?_, rfl⟩, ?_⟩ |refine ⟨⟨AV.Le.sl ?_, rfl⟩, ?_⟩ |refine ⟨⟨AV.Le.of_eq ?_, rfl⟩, ?_⟩ | fail)
  · intro i ⟨k0, k1⟩
    repeat' (first |refine Fl.v rfl rfl rfl ?_ |refine Fl.nilF ?_ |refine AWP.seq ?_ |refine AWP.region ?_ |refine Fl.b rfl rfl rfl rfl ?_ |(refine AWP.condD rfl ?_ ?_ <;> intro _ <;> try (exfalso; omega)) |refine AWP.block ?_ |refine AWP.skip ?_ |refine AWP.exit ?_ |refine AWP.ret ?_ |(refine Fl.el rfl rfl rfl rfl rfl rfl rfl rfl (by omega) (by omega) ?_; intro _ _) |fail)
    · rename_i hi l hl
      rw [Int.toNat_natCast] at hl
      have hlm := List.mem_of_getElem? hl
      have hL := hs.links l hlm
      have hwl := hw l hlm
      have hsn := cntR_snoc (vars := s.vars) hl
      have hst := k1.step l
      obtain ⟨q1, q2, q3, q4, q5, q6, q7, q8⟩ := k1
      have hpl := hL.len
      rcases kinds hL.kind with hk | hk | hk | hk
      · rw [hk] at hpl
        have hpl : l.polys.length = 1 := by have : (l.polys.length : Int) = 1 := hpl; omega
        refine Fl.ixP rfl rfl rfl rfl rfl 0 hk rfl rfl rfl (by decide) ?_
        repeat' (first |refine Fl.v rfl rfl rfl ?_ |refine Fl.nilF ?_ |refine AWP.seq ?_ |refine AWP.region ?_ |refine Fl.w rfl rfl rfl (by first | exact True.intro | omega) ?_ |refine Fl.b rfl rfl rfl rfl ?_ |(refine AWP.condD rfl ?_ ?_ <;> intro _ <;> try (exfalso; omega)) |(refine Fl.el rfl rfl rfl rfl rfl rfl rfl rfl (by omega) (by omega) ?_; intro _ _) |fail)
        rename_i p hp
        have hpm : p ∈ l.polys := List.mem_of_getElem? hp
        have hop := (hL.polys p hpm).2
        obtain ⟨ps, hps⟩ : ∃ ps, l.polys = p :: ps := by
          cases hq : l.polys with
          | nil => rw [hq] at hpl; simp at hpl
          | cons a t =>
            have hp : l.polys[0]? = some p := hp
            rw [hq] at hp; simp at hp; exact ⟨t, by rw [hp]⟩
        refine Fl.call rfl (Degree_ok p (hwl p hpm) hop) rfl rfl rfl (LeL.refl _) ?_
        repeat' (first |refine Fl.v rfl rfl rfl ?_ |refine Fl.nilF ?_ |refine Fl.nil (fun _ => by kernel_rfl) ?_ |refine AWP.region ?_ |refine Fl.w rfl rfl rfl (by first | exact True.intro | omega) ?_ |refine Fl.b rfl rfl rfl rfl ?_ |fail)
        have he : stepC (cntR s.vars (s.links.take i)) l = { cntR s.vars (s.links.take i) with e := (cntR s.vars (s.links.take i)).e + 1, d := if pdeg p > (cntR s.vars (s.links.take i)).d then pdeg p else (cntR s.vars (s.links.take i)).d } := by simp [stepC, hk, hps]
        refine LoopEnd.of (i + 1) ⟨by omega, by rw [hsn]; exact hst⟩ (by omega) ?_
        refine Ent.of [] ?_ ?_ rfl rfl
        repeat' (first | exact True.intro |refine ⟨⟨AV.Le.refl _, rfl⟩, ?_⟩ |refine ⟨⟨⟨_, rfl, BLe.cells (LeL.refl _)⟩, rfl⟩, ?_⟩ |refine ⟨⟨⟨_, rfl, BLe.row rfl⟩, rfl⟩, ?_⟩ |refine ⟨⟨⟨_, rfl, BLe.row ?_⟩, rfl⟩, ?_⟩ |refine ⟨⟨⟨_, rfl, BLe.cells ?_⟩, rfl⟩, ?_⟩ |refine ⟨⟨AV.Le.int ?_, rfl⟩, ?_⟩ |refine ⟨⟨AV.Le.bool ?_, rfl⟩, ?_⟩ |refine ⟨⟨AV.Le.sl ?_, rfl⟩, ?_⟩ |refine ⟨⟨AV.Le.of_eq ?_, rfl⟩, ?_⟩ | fail)
        exact leC (hsn.trans he).symm
      · refine Fl.ixP rfl rfl rfl rfl rfl 1 hk rfl rfl rfl (by decide) ?_
        repeat' (first |refine Fl.v rfl rfl rfl ?_ |refine Fl.nilF ?_ |refine AWP.seq ?_ |refine AWP.region ?_ |refine Fl.w rfl rfl rfl (by first | exact True.intro | omega) ?_ |refine Fl.b rfl rfl rfl rfl ?_ |(refine AWP.condD rfl ?_ ?_ <;> intro _ <;> try (exfalso; omega)) |refine AWP.skip ?_ |fail)
        have he : stepC (cntR s.vars (s.links.take i)) l = { cntR s.vars (s.links.take i) with p := (cntR s.vars (s.links.take i)).p + 1 } := by simp [stepC, hk]
        refine LoopEnd.of (i + 1) ⟨by omega, by rw [hsn]; exact hst⟩ (by omega) ?_
        refine Ent.of [] ?_ ?_ rfl rfl
        repeat' (first | exact True.intro |refine ⟨⟨AV.Le.refl _, rfl⟩, ?_⟩ |refine ⟨⟨⟨_, rfl, BLe.cells (LeL.refl _)⟩, rfl⟩, ?_⟩ |refine ⟨⟨⟨_, rfl, BLe.row rfl⟩, rfl⟩, ?_⟩ |refine ⟨⟨⟨_, rfl, BLe.row ?_⟩, rfl⟩, ?_⟩ |refine ⟨⟨⟨_, rfl, BLe.cells ?_⟩, rfl⟩, ?_⟩ |refine ⟨⟨AV.Le.int ?_, rfl⟩, ?_⟩ |refine ⟨⟨AV.Le.bool ?_, rfl⟩, ?_⟩ |refine ⟨⟨AV.Le.sl ?_, rfl⟩, ?_⟩ |refine ⟨⟨AV.Le.of_eq ?_, rfl⟩, ?_⟩ | fail)
        exact leC (hsn.trans he).symm
      · refine Fl.ixP rfl rfl rfl rfl rfl 2 hk rfl rfl rfl (by decide) ?_
        repeat' (first |refine Fl.v rfl rfl rfl ?_ |refine Fl.nilF ?_ |refine AWP.seq ?_ |refine AWP.region ?_ |refine Fl.w rfl rfl rfl (by first | exact True.intro | omega) ?_ |refine Fl.b rfl rfl rfl rfl ?_ |(refine AWP.condD rfl ?_ ?_ <;> intro _ <;> try (exfalso; omega)) |refine AWP.skip ?_ |fail)
        have he : stepC (cntR s.vars (s.links.take i)) l = { cntR s.vars (s.links.take i) with w := (cntR s.vars (s.links.take i)).w + 1 } := by simp [stepC, hk]
        refine LoopEnd.of (i + 1) ⟨by omega, by rw [hsn]; exact hst⟩ (by omega) ?_
        refine Ent.of [] ?_ ?_ rfl rfl
        repeat' (first | exact True.intro |refine ⟨⟨AV.Le.refl _, rfl⟩, ?_⟩ |refine ⟨⟨⟨_, rfl, BLe.cells (LeL.refl _)⟩, rfl⟩, ?_⟩ |refine ⟨⟨⟨_, rfl, BLe.row rfl⟩, rfl⟩, ?_⟩ |refine ⟨⟨⟨_, rfl, BLe.row ?_⟩, rfl⟩, ?_⟩ |refine ⟨⟨⟨_, rfl, BLe.cells ?_⟩, rfl⟩, ?_⟩ |refine ⟨⟨AV.Le.int ?_, rfl⟩, ?_⟩ |refine ⟨⟨AV.Le.bool ?_, rfl⟩, ?_⟩ |refine ⟨⟨AV.Le.sl ?_, rfl⟩, ?_⟩ |refine ⟨⟨AV.Le.of_eq ?_, rfl⟩, ?_⟩ | fail)
        exact leC (hsn.trans he).symm
      · refine Fl.ixP rfl rfl rfl rfl rfl 3 hk rfl rfl rfl (by decide) ?_
        repeat' (first |refine Fl.v rfl rfl rfl ?_ |refine Fl.nilF ?_ |refine AWP.seq ?_ |refine AWP.region ?_ |refine Fl.w rfl rfl rfl (by first | exact True.intro | omega) ?_ |refine Fl.b rfl rfl rfl rfl ?_ |(refine AWP.condD rfl ?_ ?_ <;> intro _ <;> try (exfalso; omega)) |refine AWP.skip ?_ |fail)
        have he : stepC (cntR s.vars (s.links.take i)) l = { cntR s.vars (s.links.take i) with u := (cntR s.vars (s.links.take i)).u + 1 } := by simp [stepC, hk]
        refine LoopEnd.of (i + 1) ⟨by omega, by rw [hsn]; exact hst⟩ (by omega) ?_
        refine Ent.of [] ?_ ?_ rfl rfl
        repeat' (first | exact True.intro |refine ⟨⟨AV.Le.refl _, rfl⟩, ?_⟩ |refine ⟨⟨⟨_, rfl, BLe.cells (LeL.refl _)⟩, rfl⟩, ?_⟩ |refine ⟨⟨⟨_, rfl, BLe.row rfl⟩, rfl⟩, ?_⟩ |refine ⟨⟨⟨_, rfl, BLe.row ?_⟩, rfl⟩, ?_⟩ |refine ⟨⟨⟨_, rfl, BLe.cells ?_⟩, rfl⟩, ?_⟩ |refine ⟨⟨AV.Le.int ?_, rfl⟩, ?_⟩ |refine ⟨⟨AV.Le.bool ?_, rfl⟩, ?_⟩ |refine ⟨⟨AV.Le.sl ?_, rfl⟩, ?_⟩ |refine ⟨⟨AV.Le.of_eq ?_, rfl⟩, ?_⟩ | fail)
        exact leC (hsn.trans he).symm
    · rename_i hi
      rw [show s.links.take i = s.links from List.take_of_length_le (by omega)]
      exact RetOk.of rfl (AV.Le.refl _)
end Go.Proofs.YtfkjhjgihbnegaaGreat
namespace Go.AL
/-- the sum of the squares of the values of the links' first polynomials -/
def fv (X : List Int) (l : LZ) : Int := (lvals X l).getD 0 0
def sqS (X : List Int) (ls : List LZ) : Int := sumL (ls.map fun l => fv X l * fv X l)
theorem sq_nonneg (x : Int) : 0 ≤ x * x := by
  rcases Int.le_total 0 x with h | h
  · exact Int.mul_nonneg h h
  · exact Int.mul_nonneg_of_nonpos_of_nonpos h h
theorem sqS_succ {X : List Int} {ls : List LZ} {i : Nat} {l : LZ} (h : ls[i]? = some l) : sqS X (ls.take (i + 1)) = sqS X (ls.take i) + fv X l * fv X l := by
  unfold sqS; rw [List.map_take, List.map_take]; exact sumL_take_succ (by rw [List.getElem?_map, h]; rfl)
theorem sqS_take (X : List Int) (ls : List LZ) (i : Nat) : 0 ≤ sqS X (ls.take i) ∧ sqS X (ls.take i) ≤ sqS X ls := by
  unfold sqS; rw [List.map_take]
  refine sumL_take_le (fun x hx => ?_) i
  obtain ⟨l, _, rfl⟩ := List.mem_map.1 hx
  exact sq_nonneg _
/-- a square, then a sum, in a chain without error -/
theorem chain_sq {s x : Int} (hs : Fit s) (hx : Fit x) (h0 : 0 ≤ s) : (Fit (s + x * x) ∧ cE (mulL 0 1 [x, x]).2 (s + (mulL 0 1 [x, x]).1) = 0 ∧ cV (mulL 0 1 [x, x]).2 (s + (mulL 0 1 [x, x]).1) = s + x * x) ∨ (¬ Fit (s + x * x) ∧ cE (mulL 0 1 [x, x]).2 (s + (mulL 0 1 [x, x]).1) = 4) := by
  have hq := sq_nonneg x
  rw [mul2 hx]
  by_cases hm : Fit (x * x)
  · rw [if_pos hm]
    dsimp only
    by_cases hf : Fit (s + x * x)
    · exact .inl ⟨hf, cE_ok hf, cV_ok hf⟩
    · exact .inr ⟨hf, cE_not hf⟩
  · rw [if_neg hm]
    refine .inr ⟨fun h => hm (h.le (by omega)), cE4 _⟩
end Go.AL
namespace Go.Proofs.YtfkjhjgihbnegaaGreat
open Go.AL

theorem eq1_ok (l : LZ) : PureFn Tryz.prog 92 [aL l] (aB (!decide (l.kind = 0))) := by
  refine PureFn.of_body Tryz.func92 rfl Tryz.ntmps92 rfl rfl ?_
  repeat' (first |refine Fl.v rfl rfl rfl ?_ |refine Fl.nilF ?_ |refine AWP.seq ?_ |refine AWP.region ?_ |refine Fl.b rfl rfl rfl rfl ?_ |refine AWP.ret ?_ |fail)
  exact RetOk.of rfl (AV.Le.refl _)
theorem equations_ok (s : SZ) (hl : s.links.length ≤ 1000000) (b : Bool) (hb : b = true ↔ ∀ l ∈ s.links, l.kind = 0) : PureFn Tryz.prog 50 [aS s] (aB b) := by
  refine PureFn.of_body Tryz.func50 rfl Tryz.ntmps50 rfl rfl ?_
  have h := (containsE_ok (fun l => !decide (l.kind = 0)) s.links hl (fun l _ => (eq1_ok l).toIo)).toPure rfl
  repeat' (first |refine Fl.v rfl rfl rfl ?_ |refine Fl.nilF ?_ |refine AWP.seq ?_ |refine AWP.region ?_ |refine Fl.b rfl rfl rfl rfl ?_ |fail)
  refine Fl.call rfl (h) rfl rfl rfl (LeL.refl _) ?_
  repeat' (first |refine Fl.v rfl rfl rfl ?_ |refine Fl.nilF ?_ |refine AWP.ret ?_ |fail)
  refine RetOk.of rfl (AV.Le.bool ?_)
  have : (!s.links.any fun l => !decide (l.kind = 0)) = true ↔ ∀ l ∈ s.links, l.kind = 0 := by
    rw [Bool.not_eq_true', List.any_eq_false]
    refine ⟨fun h l hl => ?_, fun k l hl => ?_⟩
    · have := h l hl
      simpa using this
    · simp [k l hl]
  cases b with
  | true => exact this.2 (hb.1 rfl)
  | false => exact Bool.eq_false_iff.2 fun h => by have := hb.2 (this.1 h); cases this

theorem sValue_form (s : SZ) (zs : List Z) (hw : WS s) (hz : ∀ z ∈ zs, WOk z.w) (hl : zs.length ≤ 1000000000) (h : ¬ (OkS s ∧ ∀ z ∈ zs, OkZ z)) : PureFn Tryz.prog 26 [aS s, .sl 2 eZ zs] (.tup [aX 0, aN 1]) := by
  refine PureFn.of_body Tryz.func26 rfl Tryz.ntmps26 rfl rfl ?_
  repeat' (first |refine Fl.v rfl rfl rfl ?_ |refine Fl.nilF ?_ |refine AWP.seq ?_ |refine AWP.region ?_ |refine Fl.b rfl rfl rfl rfl ?_ |refine AWP.block ?_ |fail)
  by_cases hs : OkS s
  · refine Fl.call rfl (sValid_ok s hw true ⟨fun _ => hs, fun _ => rfl⟩) rfl rfl rfl (LeL.refl _) ?_
    repeat' (first |refine Fl.v rfl rfl rfl ?_ |fail)
    have hv := chValid_ok zs hz hl
    rw [decide_eq_false fun k => h ⟨hs, k⟩] at hv
    refine Fl.call rfl (hv) rfl rfl rfl (LeL.refl _) ?_
    repeat' (first |refine Fl.v rfl rfl rfl ?_ |refine Fl.nilF ?_ |refine AWP.seq ?_ |refine AWP.region ?_ |refine Fl.b rfl rfl rfl rfl ?_ |refine AWP.condT rfl ?_ |refine AWP.ret ?_ |fail)
    exact RetOk.of rfl (AV.Le.tup (LeL.cons aX_zero (LeL.refl _)))
  · refine Fl.call rfl (sValid_ok s hw false ⟨fun k => (by cases k), fun k => absurd k hs⟩) rfl rfl rfl (LeL.refl _) ?_
    repeat' (first |refine Fl.v rfl rfl rfl ?_ |refine Fl.nilF ?_ |refine AWP.seq ?_ |refine AWP.region ?_ |refine Fl.b rfl rfl rfl rfl ?_ |refine Fl.skip rfl rfl ?_ |refine AWP.condT rfl ?_ |refine AWP.ret ?_ |fail)
    exact RetOk.of rfl (AV.Le.tup (LeL.cons aX_zero (LeL.refl _)))
theorem sValue_arg (s : SZ) (X : List Int) (hw : WS s) (hs : OkS s) (hX : ∀ x ∈ X, Fit x) (hl : X.length ≤ 1000000000) (h : ¬ ((∀ l ∈ s.links, l.kind = 0) ∧ (X.length : Int) = s.vars ∧ ∀ x ∈ X, 0 ≤ x)) : PureFn Tryz.prog 26 [aS s, .sl 2 eX X] (.tup [aX 0, aN 2]) := by
  refine PureFn.of_body Tryz.func26 rfl Tryz.ntmps26 rfl rfl ?_
  have hsl := hs.len
  repeat' (first |refine Fl.v rfl rfl rfl ?_ |refine Fl.nilF ?_ |refine AWP.seq ?_ |refine AWP.region ?_ |refine Fl.b rfl rfl rfl rfl ?_ |refine AWP.block ?_ |fail)
  refine Fl.call rfl (sValid_ok s hw true ⟨fun _ => hs, fun _ => rfl⟩) rfl rfl rfl (LeL.refl _) ?_
  repeat' (first |refine Fl.v rfl rfl rfl ?_ |fail)
  refine Fl.call rfl (chValidX_ok X hX hl) rfl rfl rfl (LeL.refl _) ?_
  repeat' (first |refine Fl.v rfl rfl rfl ?_ |refine Fl.nilF ?_ |refine AWP.seq ?_ |refine AWP.region ?_ |refine AWP.condF rfl ?_ |fail)
  by_cases hk : ∀ l ∈ s.links, l.kind = 0
  · refine Fl.call rfl (equations_ok s (by omega) true ⟨fun _ => hk, fun _ => rfl⟩) rfl rfl rfl (LeL.refl _) ?_
    repeat' (first |refine Fl.v rfl rfl rfl ?_ |refine Fl.nilF ?_ |refine AWP.seq ?_ |refine AWP.region ?_ |refine Fl.b rfl rfl rfl rfl ?_ |refine Fl.skip rfl rfl ?_ |refine AWP.condT rfl ?_ |refine AWP.ret ?_ |(refine Fl.splitN rfl rfl ?_ ?_ <;> intro _ <;> try (exfalso; omega)) |fail)
    · exact RetOk.of rfl (AV.Le.tup (LeL.cons aX_zero (LeL.refl _)))
    · rename_i hlen
      have hv := chNatural_ok X hl
      rw [decide_eq_false fun k => h ⟨hk, hlen, k⟩] at hv
      refine Fl.call rfl (hv) rfl rfl rfl (LeL.refl _) ?_
      repeat' (first |refine Fl.v rfl rfl rfl ?_ |refine Fl.nilF ?_ |refine AWP.seq ?_ |refine AWP.region ?_ |refine Fl.b rfl rfl rfl rfl ?_ |refine AWP.condT rfl ?_ |refine AWP.ret ?_ |fail)
      exact RetOk.of rfl (AV.Le.tup (LeL.cons aX_zero (LeL.refl _)))
  · refine Fl.call rfl (equations_ok s (by omega) false ⟨fun k => (by cases k), fun k => absurd k hk⟩) rfl rfl rfl (LeL.refl _) ?_
    repeat' (first |refine Fl.v rfl rfl rfl ?_ |refine Fl.nilF ?_ |refine AWP.seq ?_ |refine AWP.region ?_ |refine Fl.b rfl rfl rfl rfl ?_ |refine Fl.skip rfl rfl ?_ |refine AWP.condT rfl ?_ |refine AWP.ret ?_ |fail)
    exact RetOk.of rfl (AV.Le.tup (LeL.cons aX_zero (LeL.refl _)))
set_option maxHeartbeats 1000000 in
theorem sValue_ok (s : SZ) (X : List Int) (hw : WS s) (hs : OkS s) (hX : ∀ x ∈ X, Fit x) (hk : ∀ l ∈ s.links, l.kind = 0) (hlen : (X.length : Int) = s.vars) (hnat : ∀ x ∈ X, 0 ≤ x) (r : AV) (hr1 : (∀ l ∈ s.links, EvL X l) → Fit (sqS X s.links) → r = .tup [aX (sqS X s.links), aN 0]) (hr2 : ¬ ((∀ l ∈ s.links, EvL X l) ∧ Fit (sqS X s.links)) → r = .tup [aX 0, aN 4]) :
    PureFn Tryz.prog 26 [aS s, .sl 2 eX X] r := by
  refine PureFn.of_body Tryz.func26 rfl Tryz.ntmps26 rfl rfl ?_
  have hsl := hs.len
  have hv1 := hs.v1
  repeat' (first |refine Fl.v rfl rfl rfl ?_ |refine Fl.nilF ?_ |refine AWP.seq ?_ |refine AWP.region ?_ |refine Fl.b rfl rfl rfl rfl ?_ |refine AWP.block ?_ |fail)
  refine Fl.call rfl (sValid_ok s hw true ⟨fun _ => hs, fun _ => rfl⟩) rfl rfl rfl (LeL.refl _) ?_
  repeat' (first |refine Fl.v rfl rfl rfl ?_ |fail)
  refine Fl.call rfl (chValidX_ok X hX (by omega)) rfl rfl rfl (LeL.refl _) ?_
  repeat' (first |refine Fl.v rfl rfl rfl ?_ |refine Fl.nilF ?_ |refine AWP.seq ?_ |refine AWP.region ?_ |refine AWP.condF rfl ?_ |fail)
  refine Fl.call rfl (equations_ok s (by omega) true ⟨fun _ => hk, fun _ => rfl⟩) rfl rfl rfl (LeL.refl _) ?_
  repeat' (first |refine Fl.v rfl rfl rfl ?_ |(refine Fl.splitN rfl rfl ?_ ?_ <;> intro _ <;> try (exfalso; omega)) |fail)
  have hv := chNatural_ok X (by omega)
  rw [decide_eq_true hnat] at hv
  refine Fl.call rfl (hv) rfl rfl rfl (LeL.refl _) ?_
  repeat' (first |refine Fl.v rfl rfl rfl ?_ |refine Fl.nilF ?_ |refine AWP.seq ?_ |refine AWP.region ?_ |refine Fl.b rfl rfl rfl rfl ?_ |refine AWP.condF rfl ?_ |refine AWP.skip ?_ |fail)
  refine Fl.call rfl (Of_ok 0 (by omega) (by omega)) rfl rfl rfl (LeL.refl _) ?_
  repeat' (first |refine Fl.v rfl rfl rfl ?_ |refine Fl.nilF ?_ |refine AWP.seq ?_ |refine AWP.region ?_ |refine Fl.b rfl rfl rfl rfl ?_ |refine AWP.block ?_ |fail)
  refine AWP.loop (G := Nat) (fun i => i ≤ s.links.length ∧ (∀ l ∈ s.links.take i, EvL X l) ∧ Fit (sqS X (s.links.take i))) (fun i => St.of [] [(1, .sl 2 eX X), (4, .ptr 4 0), (6, .ptr 40 0), (7, .ptr 7 0), (43, .sl 3 eL s.links), (44, aN s.links.length), (45, aN i)] [(4, .cells [aB false, .v (.slice none 0 0)] 58), (7, .cells (eX (sqS X (s.links.take i))) 58), (40, chB none 0)]) (fun i => s.links.length - i) 0 ⟨by omega, by simp, by simp [sqS, sumL, Fit.zero]⟩ ?_ ?_
  · refine Ent.of [] ?_ ?_ rfl rfl
    repeat' (first | exact True.intro |refine ⟨⟨AV.Le.refl _, rfl⟩, ?_⟩ |refine ⟨⟨⟨_, rfl, BLe.cells (LeL.refl _)⟩, rfl⟩, ?_⟩ |refine ⟨⟨⟨_, rfl, BLe.row rfl⟩, rfl⟩, ?_⟩ |refine ⟨⟨⟨_, rfl, BLe.row ?_⟩, rfl⟩, ?_⟩ |refine ⟨⟨⟨_, rfl, BLe.cells ?_⟩, rfl⟩, ?_⟩ |refine ⟨⟨AV.Le.int ?_, rfl⟩, ?_⟩ |refine ⟨⟨AV.Le.bool ?_, rfl⟩, ?_⟩ |refine ⟨⟨AV.Le.sl ?_, rfl⟩, ?_⟩ |refine ⟨⟨AV.Le.of_eq ?_, rfl⟩, ?_⟩ | fail)
  · intro i ⟨k0, k1, k2⟩
    have hst := sqS_take X s.links
    repeat' (first |refine Fl.v rfl rfl rfl ?_ |refine Fl.nilF ?_ |refine AWP.seq ?_ |refine AWP.region ?_ |refine Fl.b rfl rfl rfl rfl ?_ |(refine AWP.condD rfl ?_ ?_ <;> intro _ <;> try (exfalso; omega)) |refine AWP.block ?_ |refine AWP.skip ?_ |refine AWP.exit ?_ |refine AWP.ret ?_ |(refine Fl.el rfl rfl rfl rfl rfl rfl rfl rfl (by omega) (by omega) ?_; intro _ _) |fail)
    · rename_i hi l hl
      rw [Int.toNat_natCast] at hl
      have hlm := List.mem_of_getElem? hl
      have hL := hs.links l hlm
      rw [← hlen] at hL
      have hsn := sqS_succ (X := X) hl
      have hvs := fun r h1 h2 => Values_ok l X (hw l hlm) hL hX r h1 h2
      by_cases he : EvL X l
      · have hvs1 := hvs _ (fun _ => rfl) (fun h => absurd he h)
        have hpl := hL.len
        rw [hk l hlm] at hpl
        have hpl : (lvals X l).length = 1 := by rw [lvals, List.length_map]; have : (l.polys.length : Int) = 1 := hpl; omega
        have hg0 : (lvals X l)[(0 : Int).toNat]? = some (fv X l) := by
          show (lvals X l)[0]? = some (fv X l)
          unfold fv
          rw [List.getD_eq_getElem?_getD, List.getElem?_eq_getElem (show 0 < (lvals X l).length by omega)]; rfl
        have hfx : Fit (fv X l) := lvals_fit he _ (List.mem_of_getElem? hg0)
        have hfm := mulL_fit [fv X l, fv X l] 0 1 fit_one
        have hcs := chain_sq k2 hfx (hst i).1
        have hvs1 : PureFn Tryz.prog 36 [aL l, .sl 2 eX X] (.tup [.sl 2 eX (lvals X l), aN 0]) := hvs1
        refine Fl.call rfl (hvs1) rfl rfl rfl (LeL.refl _) ?_
        repeat' (first |refine Fl.v rfl rfl rfl ?_ |refine Fl.nilF ?_ |refine AWP.seq ?_ |refine AWP.region ?_ |refine AWP.condF rfl ?_ |refine AWP.skip ?_ |refine Fl.elK rfl rfl rfl rfl rfl rfl rfl rfl (by assumption) (by omega) ?_ |fail)
        refine Fl.io rfl [(900, 40)] (chSquare_ok none 0 _ hfx) rfl rfl (LeL.refl _) rfl ⟨⟨⟨_, rfl, BLe.cells (LeL.refl _)⟩, rfl⟩, trivial⟩ rfl rfl rfl rfl rfl ?_
        skip
        refine Fl.io rfl [(900, 40)] (chAdd_ok none _ _ _ k2 hfm) rfl rfl (LeL.refl _) rfl ⟨⟨⟨_, rfl, BLe.cells (LeL.refl _)⟩, rfl⟩, trivial⟩ rfl rfl rfl rfl rfl ?_
        repeat' (first |refine Fl.v rfl rfl rfl ?_ |refine Fl.nilF ?_ |refine Fl.nil (fun _ => by kernel_rfl) ?_ |refine AWP.seq ?_ |refine AWP.region ?_ |refine Fl.w rfl rfl rfl (by first | exact True.intro | omega) ?_ |refine Fl.b rfl rfl rfl rfl ?_ |(refine AWP.condN rfl ?_ ?_ <;> intro _ <;> try (exfalso; omega)) |refine AWP.skip ?_ |refine AWP.ret ?_ |fail)
        · rename_i herr
          rcases hcs with ⟨c1, c2, c3⟩ | ⟨c1, c2⟩
          · exact absurd c2 herr
          · rw [hr2 fun h => c1 (h.2.le (by rw [← hsn]; have := hst (i + 1); omega))]
            exact RetOk.of rfl (AV.Le.tup (LeL.cons aX_zero (LeL.cons (AV.Le.int c2) LeL.nil)))
        · rename_i herr
          rcases hcs with ⟨c1, c2, c3⟩ | ⟨c1, c2⟩
          · refine LoopEnd.of (i + 1) ⟨by omega, all_take_succ hl k1 he, by rw [hsn]; exact c1⟩ (by omega) ?_
            refine Ent.of [] ?_ ?_ rfl rfl
            repeat' (first | exact True.intro |refine ⟨⟨AV.Le.refl _, rfl⟩, ?_⟩ |refine ⟨⟨⟨_, rfl, BLe.cells (LeL.refl _)⟩, rfl⟩, ?_⟩ |refine ⟨⟨⟨_, rfl, BLe.row rfl⟩, rfl⟩, ?_⟩ |refine ⟨⟨⟨_, rfl, BLe.row ?_⟩, rfl⟩, ?_⟩ |refine ⟨⟨⟨_, rfl, BLe.cells ?_⟩, rfl⟩, ?_⟩ |refine ⟨⟨AV.Le.int ?_, rfl⟩, ?_⟩ |refine ⟨⟨AV.Le.bool ?_, rfl⟩, ?_⟩ |refine ⟨⟨AV.Le.sl ?_, rfl⟩, ?_⟩ |refine ⟨⟨AV.Le.of_eq ?_, rfl⟩, ?_⟩ | fail)
            · exact leX (c3.trans hsn.symm)
            · exact LeL.cons (AV.Le.int c2) LeL.nil
          · rw [c2] at herr; cases herr
      · have hvs1 := hvs _ (fun h => absurd h he) (fun _ => rfl)
        refine Fl.call rfl (hvs1) rfl rfl rfl (LeL.refl _) ?_
        repeat' (first |refine Fl.v rfl rfl rfl ?_ |refine Fl.nilF ?_ |refine AWP.seq ?_ |refine AWP.region ?_ |refine Fl.b rfl rfl rfl rfl ?_ |refine AWP.condT rfl ?_ |refine AWP.ret ?_ |fail)
        rw [hr2 fun h => he (h.1 l hlm)]
        exact RetOk.of rfl (AV.Le.tup (LeL.cons aX_zero (LeL.refl _)))
    · rename_i hi
      have ht : s.links.take i = s.links := List.take_of_length_le (by omega)
      rw [ht] at k1 k2
      rw [hr1 k1 k2, ht]
      exact RetOk.of rfl (AV.Le.refl _)
end Go.Proofs.YtfkjhjgihbnegaaGreat
namespace Go.AL
theorem bitN_and32 {a : Int} (h : 0 ≤ a) : bitN .and a 4294967295 = a % 4294967296 := by
  show ((a.toNat &&& (4294967295 : Int).toNat : Nat) : Int) = a % 4294967296
  rw [show (4294967295 : Int).toNat = 2 ^ 32 - 1 from rfl, Nat.and_two_pow_sub_one_eq_mod]
  omega
end Go.AL
namespace Go.Proofs.YtfkjhjgihbnegaaGreat
open Go.AL

theorem rValid_ok (z : Z) (hz : WOk z.w) (hl : z.w.length ≤ 9223372036854775807) : PureFn Tryz.prog 42 [aZ z] (aB (decide (OkZ z))) := by
  refine PureFn.of_body Tryz.func42 rfl Tryz.ntmps42 rfl rfl ?_
  repeat' (first |refine Fl.v rfl rfl rfl ?_ |refine Fl.nilF ?_ |refine AWP.seq ?_ |refine AWP.region ?_ |refine Fl.w rfl rfl rfl (by first | exact True.intro | omega) ?_ |refine Fl.b rfl rfl rfl rfl ?_ |refine Fl.skip rfl rfl ?_ |(refine AWP.condD rfl ?_ ?_ <;> intro _ <;> try (exfalso; omega)) |refine AWP.skip ?_ |refine AWP.ret ?_ |(refine Fl.elW rfl rfl rfl rfl rfl rfl rfl rfl (by omega) (by omega) (by assumption) ?_; intro _ _ _ _) |(refine Fl.splitD rfl rfl ?_ ?_ <;> intro _ <;> try (exfalso; omega)) |fail)
  · rename_i h
    refine RetOk.of rfl (AV.Le.bool ?_)
    have := okZ_none (z := z) (by omega)
    by_cases hn : z.neg = false
    · rw [decide_eq_true (this.2 hn), hn]; rfl
    · rw [decide_eq_false fun k => hn (this.1 k)]
      simpa using hn
  · rename_i h h1 e he hb0 hb1
    refine RetOk.of rfl (AV.Le.bool ?_)
    have := okZ_last (z := z) (e := e) (k := z.w.length - 1) (by omega) (by rw [← he]; congr 1; omega) (by omega)
    by_cases h0 : e = 0
    · rw [decide_eq_false fun k => this.1 k h0, h0]; rfl
    · rw [decide_eq_true (this.2 h0)]; simpa using h0
  · rename_i h h1
    refine RetOk.of rfl (AV.Le.bool (Eq.symm (decide_eq_false fun k => ?_)))
    have := k.1
    omega
theorem rFits_ok (x : Int) : PureFn Tryz.prog 63 [aX x] (aB (decide (Fit x))) := by
  refine PureFn.of_body Tryz.func63 rfl Tryz.ntmps63 rfl rfl ?_
  repeat' (first |refine Fl.v rfl rfl rfl ?_ |refine Fl.nilF ?_ |refine AWP.seq ?_ |refine AWP.region ?_ |refine Fl.b rfl rfl rfl rfl ?_ |refine AWP.ret ?_ |fail)
  refine RetOk.of rfl (AV.Le.bool ?_)
  rw [decide_eq_decide, Fit.iff]
  omega
theorem rZero_ok (z : Z) : PureFn Tryz.prog 25 [aZ z] (aB (decide (z.w.length = 0))) := by
  refine PureFn.of_body Tryz.func25 rfl Tryz.ntmps25 rfl rfl ?_
  repeat' (first |refine Fl.v rfl rfl rfl ?_ |refine Fl.nilF ?_ |refine AWP.seq ?_ |refine AWP.region ?_ |refine Fl.b rfl rfl rfl rfl ?_ |refine AWP.ret ?_ |fail)
  refine RetOk.of rfl (AV.Le.bool ?_)
  simp
theorem rZeroX_ok (x : Int) : PureFn Tryz.prog 25 [aX x] (aB (decide (x = 0))) := by
  have h := rZero_ok (zOf x)
  have e : decide ((zOf x).w.length = 0) = decide (x = 0) := by
    rw [decide_eq_decide]
    show (toW x.natAbs).length = 0 ↔ x = 0
    have := toW_nil_iff (z := x.natAbs) (by omega)
    rw [List.length_eq_zero_iff, this]; omega
  rwa [e] at h
theorem rMake_ok (neg : Bool) (l : List Int) (hl : WOk l) (hb : l.length ≤ 100000) : PureFn Tryz.prog 71 [aB neg, aW l] (aX (sg neg (val l))) := by
  refine PureFn.of_body Tryz.func71 rfl Tryz.ntmps71 rfl rfl ?_
  have hv := val_nonneg hl
  have hab : ((sg neg (val l)).natAbs : Int) = val l := sg_abs _ hv
  refine AWP.seqS ?_
  repeat' (first |refine Fl.nilF ?_ |refine AWP.region ?_ |refine Fl.b rfl rfl rfl rfl ?_ |fail)
  refine ⟨AWP.seqS ?_⟩
  repeat' (first |refine Fl.v rfl rfl rfl ?_ |refine Fl.nilF ?_ |refine AWP.region ?_ |fail)
  refine ⟨?_⟩
  refine AWP.seqJ (G := Int) (fun n => 0 ≤ n ∧ n ≤ l.length ∧ l.take n.toNat = toW (val l)) (fun n => St.of [] [(0, aB neg), (1, aW l), (4, .ptr 4 0), (5, aN n)] [(4, .cells [aB false, .v (.slice none 0 0)] 58)]) ?_ ?_
  · repeat' (first |refine AWP.block ?_ |fail)
    refine AWP.loop (G := Int) (fun n => 0 ≤ n ∧ n ≤ l.length ∧ trimL (l.take n.toNat) = trimL l) (fun n => St.of [] [(0, aB neg), (1, aW l), (4, .ptr 4 0), (5, aN n)] [(4, .cells [aB false, .v (.slice none 0 0)] 58)]) (fun n => n.toNat) (l.length : Int) ⟨by omega, by omega, by simp⟩ ?_ ?_
    · refine Ent.of [] ?_ ?_ rfl rfl
      repeat' (first | exact True.intro |refine ⟨⟨AV.Le.refl _, rfl⟩, ?_⟩ |refine ⟨⟨⟨_, rfl, BLe.cells (LeL.refl _)⟩, rfl⟩, ?_⟩ |refine ⟨⟨⟨_, rfl, BLe.row rfl⟩, rfl⟩, ?_⟩ |refine ⟨⟨⟨_, rfl, BLe.row ?_⟩, rfl⟩, ?_⟩ |refine ⟨⟨⟨_, rfl, BLe.cells ?_⟩, rfl⟩, ?_⟩ |refine ⟨⟨AV.Le.int ?_, rfl⟩, ?_⟩ |refine ⟨⟨AV.Le.bool ?_, rfl⟩, ?_⟩ |refine ⟨⟨AV.Le.sl ?_, rfl⟩, ?_⟩ |refine ⟨⟨AV.Le.of_eq ?_, rfl⟩, ?_⟩ | fail)
    · intro n ⟨h0, h1, h2⟩
      repeat' (first |refine Fl.v rfl rfl rfl ?_ |refine Fl.nilF ?_ |refine AWP.seq ?_ |refine AWP.region ?_ |refine Fl.w rfl rfl rfl (by first | exact True.intro | omega) ?_ |refine Fl.skip rfl rfl ?_ |refine AWP.condF rfl ?_ |(refine AWP.condD rfl ?_ ?_ <;> intro _ <;> try (exfalso; omega)) |refine AWP.block ?_ |refine AWP.skip ?_ |refine AWP.exit ?_ |(refine Fl.elW rfl rfl rfl rfl rfl rfl rfl rfl (by omega) (by omega) (by assumption) ?_; intro _ _ _ _) |(refine Fl.splitD rfl rfl ?_ ?_ <;> intro _ <;> try (exfalso; omega)) |fail)
      · rename_i hn e he he0 he1 hz
        subst hz
        refine LoopEnd.of (n - 1) ⟨by omega, by omega, ?_⟩ (by omega) ?_
        · rw [← h2, trimL_take0 (by omega) he]
        · refine Ent.of [] ?_ ?_ rfl rfl
          repeat' (first | exact True.intro |refine ⟨⟨AV.Le.refl _, rfl⟩, ?_⟩ |refine ⟨⟨⟨_, rfl, BLe.cells (LeL.refl _)⟩, rfl⟩, ?_⟩ |refine ⟨⟨⟨_, rfl, BLe.row rfl⟩, rfl⟩, ?_⟩ |refine ⟨⟨⟨_, rfl, BLe.row ?_⟩, rfl⟩, ?_⟩ |refine ⟨⟨⟨_, rfl, BLe.cells ?_⟩, rfl⟩, ?_⟩ |refine ⟨⟨AV.Le.int ?_, rfl⟩, ?_⟩ |refine ⟨⟨AV.Le.bool ?_, rfl⟩, ?_⟩ |refine ⟨⟨AV.Le.sl ?_, rfl⟩, ?_⟩ |refine ⟨⟨AV.Le.of_eq ?_, rfl⟩, ?_⟩ | fail)
      · rename_i hn e he he0 he1 hz
        refine JoinOk.of n ⟨h0, h1, ?_⟩ ?_
        · rw [← trimL_eq hl, ← h2, trimL_take1 (by omega) he hz]
        · refine Ent.of [] ?_ ?_ rfl rfl
          repeat' (first | exact True.intro |refine ⟨⟨AV.Le.refl _, rfl⟩, ?_⟩ |refine ⟨⟨⟨_, rfl, BLe.cells (LeL.refl _)⟩, rfl⟩, ?_⟩ |refine ⟨⟨⟨_, rfl, BLe.row rfl⟩, rfl⟩, ?_⟩ |refine ⟨⟨⟨_, rfl, BLe.row ?_⟩, rfl⟩, ?_⟩ |refine ⟨⟨⟨_, rfl, BLe.cells ?_⟩, rfl⟩, ?_⟩ |refine ⟨⟨AV.Le.int ?_, rfl⟩, ?_⟩ |refine ⟨⟨AV.Le.bool ?_, rfl⟩, ?_⟩ |refine ⟨⟨AV.Le.sl ?_, rfl⟩, ?_⟩ |refine ⟨⟨AV.Le.of_eq ?_, rfl⟩, ?_⟩ | fail)
      · rename_i hn
        refine JoinOk.of n ⟨h0, h1, ?_⟩ ?_
        · have : n = 0 := by omega
          subst this
          rw [← trimL_eq hl, ← h2]; simp [trimL]
        · refine Ent.of [] ?_ ?_ rfl rfl
          repeat' (first | exact True.intro |refine ⟨⟨AV.Le.refl _, rfl⟩, ?_⟩ |refine ⟨⟨⟨_, rfl, BLe.cells (LeL.refl _)⟩, rfl⟩, ?_⟩ |refine ⟨⟨⟨_, rfl, BLe.row rfl⟩, rfl⟩, ?_⟩ |refine ⟨⟨⟨_, rfl, BLe.row ?_⟩, rfl⟩, ?_⟩ |refine ⟨⟨⟨_, rfl, BLe.cells ?_⟩, rfl⟩, ?_⟩ |refine ⟨⟨AV.Le.int ?_, rfl⟩, ?_⟩ |refine ⟨⟨AV.Le.bool ?_, rfl⟩, ?_⟩ |refine ⟨⟨AV.Le.sl ?_, rfl⟩, ?_⟩ |refine ⟨⟨AV.Le.of_eq ?_, rfl⟩, ?_⟩ | fail)
  · intro n ⟨h0, h1, h2⟩
    have h3 : (l.take n.toNat).length = n := by rw [List.length_take]; omega
    repeat' (first |refine Fl.v rfl rfl rfl ?_ |refine Fl.nilF ?_ |refine AWP.seq ?_ |refine AWP.region ?_ |refine Fl.w rfl rfl rfl (by first | exact True.intro | omega) ?_ |refine Fl.b rfl rfl rfl rfl ?_ |refine Fl.skip rfl rfl ?_ |(refine Fl.splitB rfl rfl ?_ ?_ <;> (fail_if_success (intro hb_; exact absurd hb_ (by decide))) <;> intro _) |fail)
    all_goals
      rename_i hneg
      refine Fl.ap0 rfl rfl rfl rfl rfl rfl rfl rfl eW rfl rfl (fun _ => rfl) (fun _ => rfl) (AV.Le.refl _) (by dsimp only [List.length_nil]; omega) (by omega) ?_
      repeat' (first |refine Fl.v rfl rfl rfl ?_ |refine Fl.nilF ?_ |refine Fl.nil (fun _ => by kernel_rfl) ?_ |refine AWP.seq ?_ |refine AWP.region ?_ |refine Fl.b rfl rfl rfl rfl ?_ |refine AWP.ret ?_ |fail)
      refine RetOk.ent (Ent.freeze 32 rfl) ?_
      refine RetOk.of rfl (AV.Le.of_eq (aX_of ?_ ?_))
    · subst hneg
      simp only [sg, if_true]
      have := toW_nil_iff hv
      rw [h2] at h3
      by_cases h0 : val l = 0
      · rw [h0, toW_zero] at h3
        simp at h3
        rw [h0, ← h3]; rfl
      · have h4 : (toW (val l)).length ≠ 0 := fun h => h0 (this.1 (List.eq_nil_of_length_eq_zero h))
        rw [decide_eq_decide]; omega
    · rw [hab, h2]
    · subst hneg
      simp [sg]; omega
    · rw [hab, h2]
theorem sameWords_ok (a b : List Int) (ha : a.length ≤ 1000000) (wa : WOk a) (wb : WOk b) : PureFn Tryz.prog 67 [aW a, aW b] (aB (decide (a = b))) := by
  refine PureFn.of_body Tryz.func67 rfl Tryz.ntmps67 rfl rfl ?_
  repeat' (first |refine Fl.v rfl rfl rfl ?_ |refine Fl.nilF ?_ |refine AWP.seq ?_ |refine AWP.region ?_ |(refine AWP.condN rfl ?_ ?_ <;> intro _ <;> try (exfalso; omega)) |refine AWP.block ?_ |refine AWP.skip ?_ |refine AWP.ret ?_ |fail)
  · rename_i h
    exact RetOk.of rfl (AV.Le.bool (Eq.symm (decide_eq_false fun k => h (by rw [k]))))
  · rename_i hlen
    refine AWP.loop (G := Nat) (fun i => i ≤ a.length ∧ a.take i = b.take i) (fun i => St.of [] [(0, aW a), (1, aW b), (5, aN i)] []) (fun i => a.length - i) 0 ⟨by omega, by simp⟩ ?_ ?_
    · refine Ent.of [] ?_ ?_ rfl rfl
      repeat' (first | exact True.intro |refine ⟨⟨AV.Le.refl _, rfl⟩, ?_⟩ |refine ⟨⟨⟨_, rfl, BLe.cells (LeL.refl _)⟩, rfl⟩, ?_⟩ |refine ⟨⟨⟨_, rfl, BLe.row rfl⟩, rfl⟩, ?_⟩ |refine ⟨⟨⟨_, rfl, BLe.row ?_⟩, rfl⟩, ?_⟩ |refine ⟨⟨⟨_, rfl, BLe.cells ?_⟩, rfl⟩, ?_⟩ |refine ⟨⟨AV.Le.int ?_, rfl⟩, ?_⟩ |refine ⟨⟨AV.Le.bool ?_, rfl⟩, ?_⟩ |refine ⟨⟨AV.Le.sl ?_, rfl⟩, ?_⟩ |refine ⟨⟨AV.Le.of_eq ?_, rfl⟩, ?_⟩ | fail)
    · intro i ⟨h0, h1⟩
      repeat' (first |refine Fl.v rfl rfl rfl ?_ |refine Fl.nilF ?_ |refine Fl.nil (fun _ => by kernel_rfl) ?_ |refine AWP.seq ?_ |refine AWP.region ?_ |refine Fl.w rfl rfl rfl (by first | exact True.intro | omega) ?_ |(refine AWP.condD rfl ?_ ?_ <;> intro _ <;> try (exfalso; omega)) |(refine AWP.condN rfl ?_ ?_ <;> intro _ <;> try (exfalso; omega)) |refine AWP.block ?_ |refine AWP.skip ?_ |refine AWP.exit ?_ |refine AWP.ret ?_ |(refine Fl.elW rfl rfl rfl rfl rfl rfl rfl rfl (by omega) (by omega) (by assumption) ?_; intro _ _ _ _) |fail)
      · rename_i hi x hx _ _ y hy _ _ hne
        rw [Int.toNat_natCast] at hx hy
        refine RetOk.of rfl (AV.Le.bool (Eq.symm (decide_eq_false fun k => ?_)))
        subst k
        rw [hx] at hy; cases hy
        exact hne rfl
      · rename_i hi x hx _ _ y hy _ _ heq
        rw [Int.toNat_natCast] at hx hy
        refine LoopEnd.of (i + 1) ⟨by omega, ?_⟩ (by omega) ?_
        · rw [take_snoc hx, take_snoc hy, h1, heq]
        · refine Ent.of [] ?_ ?_ rfl rfl
          repeat' (first | exact True.intro |refine ⟨⟨AV.Le.refl _, rfl⟩, ?_⟩ |refine ⟨⟨⟨_, rfl, BLe.cells (LeL.refl _)⟩, rfl⟩, ?_⟩ |refine ⟨⟨⟨_, rfl, BLe.row rfl⟩, rfl⟩, ?_⟩ |refine ⟨⟨⟨_, rfl, BLe.row ?_⟩, rfl⟩, ?_⟩ |refine ⟨⟨⟨_, rfl, BLe.cells ?_⟩, rfl⟩, ?_⟩ |refine ⟨⟨AV.Le.int ?_, rfl⟩, ?_⟩ |refine ⟨⟨AV.Le.bool ?_, rfl⟩, ?_⟩ |refine ⟨⟨AV.Le.sl ?_, rfl⟩, ?_⟩ |refine ⟨⟨AV.Le.of_eq ?_, rfl⟩, ?_⟩ | fail)
      · refine RetOk.of rfl (AV.Le.bool (Eq.symm (decide_eq_true ?_)))
        rwa [List.take_of_length_le (by omega), List.take_of_length_le (by omega)] at h1
theorem rSame_ok (x y : Int) (hx : (toW x.natAbs).length ≤ 1000000) : PureFn Tryz.prog 28 [aX x, aX y] (aB (decide (x = y))) := by
  refine PureFn.of_body Tryz.func28 rfl Tryz.ntmps28 rfl rfl ?_
  repeat' (first |refine Fl.v rfl rfl rfl ?_ |refine Fl.nilF ?_ |refine AWP.seq ?_ |refine AWP.region ?_ |refine Fl.b rfl rfl rfl rfl ?_ |refine Fl.skip rfl rfl ?_ |refine AWP.ret ?_ |(refine Fl.splitD rfl rfl ?_ ?_ <;> intro _ <;> try (exfalso; omega)) |fail)
  · rename_i h
    refine Fl.call rfl (sameWords_ok (toW x.natAbs) (toW y.natAbs) hx (toW_ok _) (toW_ok _)) rfl rfl rfl (LeL.refl _) ?_
    repeat' (first |refine Fl.v rfl rfl rfl ?_ |refine Fl.nilF ?_ |refine AWP.ret ?_ |fail)
    refine RetOk.of rfl (AV.Le.bool ?_)
    rw [decide_eq_decide]
    rw [decide_eq_decide] at h
    refine ⟨fun k => ?_, fun k => by rw [k]⟩
    have := toW_inj (by omega) (by omega) k
    omega
  · rename_i h
    exact RetOk.of rfl (AV.Le.bool (Eq.symm (decide_eq_false fun k => h (by rw [k]))))
theorem rAbs_ok (x : Int) (hx : (toW x.natAbs).length ≤ 100000) : PureFn Tryz.prog 62 [aX x] (aX (x.natAbs : Int)) := by
  refine PureFn.of_body Tryz.func62 rfl Tryz.ntmps62 rfl rfl ?_
  repeat' (first |refine Fl.v rfl rfl rfl ?_ |refine Fl.nilF ?_ |refine AWP.seq ?_ |refine AWP.region ?_ |refine Fl.b rfl rfl rfl rfl ?_ |fail)
  refine Fl.call rfl (rMake_ok false _ (toW_ok _) hx) rfl rfl rfl (LeL.refl _) ?_
  repeat' (first |refine Fl.nilF ?_ |refine Fl.b rfl rfl rfl rfl ?_ |refine AWP.ret ?_ |fail)
  refine RetOk.of rfl (AV.Le.agg (leX (σ := []) ?_))
  rw [val_toW (by omega)]
  simp [sg]
theorem rOf_ok (n : Int) (h0 : -9223372036854775808 ≤ n) (h1 : n ≤ 9223372036854775807) : PureFn Tryz.prog 32 [aN n] (aX n) := by
  refine PureFn.of_body Tryz.func32 rfl Tryz.ntmps32 rfl rfl ?_
  repeat' (first |refine Fl.v rfl rfl rfl ?_ |refine Fl.nilF ?_ |refine AWP.seq ?_ |refine AWP.region ?_ |refine Fl.w rfl rfl rfl (by first | exact True.intro | omega) ?_ |refine Fl.b rfl rfl rfl rfl ?_ |(refine AWP.condD rfl ?_ ?_ <;> intro _ <;> try (exfalso; omega)) |refine AWP.skip ?_ |refine Fl.cvU rfl rfl rfl rfl rfl rfl ?_ |fail)
  all_goals
    refine Fl.lit rfl rfl rfl rfl rfl eW [_, _] rfl rfl rfl rfl (by intro _ _; rfl) rfl ?_
    skip
    refine Fl.call rfl (rMake_ok (decide (n < 0)) _ (WOk.cons (by omega) (by omega) (WOk.cons (by omega) (by omega) WOk.nil)) (by simp)) rfl rfl rfl (LeL.refl _) ?_
    repeat' (first |refine Fl.nilF ?_ |refine Fl.b rfl rfl rfl rfl ?_ |refine AWP.ret ?_ |fail)
    refine RetOk.of rfl (AV.Le.agg (leX (σ := []) ?_))
    simp only [val, p32]
    rw [bitN_and32 (by omega)]
    simp only [sg]; simp; split <;> omega
end Go.Proofs.YtfkjhjgihbnegaaGreat
namespace Go.AL
/-- a number's words, so many of them -/
def padW : Nat → Int → List Int
  | 0, _ => []
  | n + 1, v => v % 4294967296 :: padW n (v / 4294967296)
theorem padW_ok : ∀ (n : Nat) (v : Int), WOk (padW n v)
  | 0, _ => WOk.nil
  | n + 1, v => WOk.cons (by omega) (by omega) (padW_ok n _)
theorem padW_len : ∀ (n : Nat) (v : Int), (padW n v).length = n
  | 0, _ => rfl
  | n + 1, v => by simp [padW, padW_len n]
theorem padW_of : ∀ {l : List Int}, WOk l → l = padW l.length (val l)
  | [], _ => rfl
  | x :: l, h => by
    have h1 := h.head
    have h2 := padW_of h.tail
    simp only [List.length_cons, padW, val]
    rw [show (x + 4294967296 * val l) % 4294967296 = x by omega, show (x + 4294967296 * val l) / 4294967296 = val l by omega, ← h2]
theorem padW_val : ∀ {n : Nat} {v : Int}, 0 ≤ v → v < BB n → val (padW n v) = v
  | 0, v, h0, h1 => by rw [BB_zero] at h1; simp [padW, val]; omega
  | n + 1, v, h0, h1 => by
    rw [BB_succ] at h1
    simp only [padW, val]
    rw [padW_val (by omega) (by omega)]
    omega
theorem plus_step2 {os A B : List Int} {c x y s : Int} (hA : val (A.take (os.length + 1)) = val (A.take os.length) + BB os.length * x) (hB : val (B.take (os.length + 1)) = val (B.take os.length) + BB os.length * y)
    (h : val os + BB os.length * c = val (A.take os.length) + val (B.take os.length)) (hs : s = c + x + y) :
    val (os ++ [s % 4294967296]) + BB (os.length + 1) * (s / 4294967296) = val (A.take (os.length + 1)) + val (B.take (os.length + 1)) := by
  rw [val_snoc, hA, hB, BB_succ]
  have h1 : s = s % 4294967296 + 4294967296 * (s / 4294967296) := by omega
  generalize s % 4294967296 = p at h1
  generalize s / 4294967296 = q at h1
  subst hs
  grind
end Go.AL
namespace Go.Proofs.YtfkjhjgihbnegaaGreat
open Go.AL

theorem rorder_ok (x y : Int) (hx : 0 ≤ x) (hy : 0 ≤ y) (hxl : (toW x).length ≤ 100000) (hyl : (toW y).length ≤ 100000) : PureFn Tryz.prog 104 [aW (toW x), aW (toW y)] (aN (cmpI x y)) := by
  refine PureFn.of_body Tryz.func104 rfl Tryz.ntmps104 rfl rfl ?_
  have wx := toW_ok x
  have wy := toW_ok y
  repeat' (first |refine Fl.v rfl rfl rfl ?_ |refine Fl.nilF ?_ |refine AWP.seq ?_ |refine AWP.region ?_ |refine Fl.w rfl rfl rfl (by first | exact True.intro | omega) ?_ |(refine AWP.condD rfl ?_ ?_ <;> intro _ <;> try (exfalso; omega)) |(refine AWP.condN rfl ?_ ?_ <;> intro _ <;> try (exfalso; omega)) |refine AWP.block ?_ |refine AWP.skip ?_ |refine AWP.ret ?_ |fail)
  · refine RetOk.of rfl (AV.Le.of_eq ?_)
    rw [cmpI_lt (toW_len_lt hx hy (by omega))]
  · refine RetOk.of rfl (AV.Le.of_eq ?_)
    rw [cmpI_gt (toW_len_lt hy hx (by omega))]
  · rename_i hl
    refine AWP.loop (G := Int) (fun i => -1 ≤ i ∧ i < (toW x).length ∧ (toW x).drop (i + 1).toNat = (toW y).drop (i + 1).toNat) (fun i => St.of [] [(0, aW (toW x)), (1, aW (toW y)), (5, aN i)] []) (fun i => (i + 1).toNat) ((toW x).length - 1 : Int) ⟨by omega, by omega, by rw [List.drop_of_length_le (by omega), List.drop_of_length_le (by omega)]⟩ ?_ ?_
    · refine Ent.of [] ?_ ?_ rfl rfl
      repeat' (first | exact True.intro |refine ⟨⟨AV.Le.refl _, rfl⟩, ?_⟩ |refine ⟨⟨⟨_, rfl, BLe.cells (LeL.refl _)⟩, rfl⟩, ?_⟩ |refine ⟨⟨⟨_, rfl, BLe.row rfl⟩, rfl⟩, ?_⟩ |refine ⟨⟨⟨_, rfl, BLe.row ?_⟩, rfl⟩, ?_⟩ |refine ⟨⟨⟨_, rfl, BLe.cells ?_⟩, rfl⟩, ?_⟩ |refine ⟨⟨AV.Le.int ?_, rfl⟩, ?_⟩ |refine ⟨⟨AV.Le.bool ?_, rfl⟩, ?_⟩ |refine ⟨⟨AV.Le.sl ?_, rfl⟩, ?_⟩ |refine ⟨⟨AV.Le.of_eq ?_, rfl⟩, ?_⟩ | fail)
    · intro i ⟨h0, h1, h2⟩
      have hsx := val_toW hx
      have hsy := val_toW hy
      repeat' (first |refine Fl.v rfl rfl rfl ?_ |refine Fl.nilF ?_ |refine Fl.nil (fun _ => by kernel_rfl) ?_ |refine AWP.seq ?_ |refine AWP.region ?_ |refine Fl.w rfl rfl rfl (by first | exact True.intro | omega) ?_ |(refine AWP.condD rfl ?_ ?_ <;> intro _ <;> try (exfalso; omega)) |refine AWP.block ?_ |refine AWP.skip ?_ |refine AWP.exit ?_ |refine AWP.ret ?_ |refine Fl.elK rfl rfl rfl rfl rfl rfl rfl rfl (by assumption) (by omega) ?_ |(refine Fl.elW rfl rfl rfl rfl rfl rfl rfl rfl (by omega) (by omega) (by assumption) ?_; intro _ _ _ _) |fail)
      · rename_i hi u hu _ _ v hv _ _ huv
        refine RetOk.of rfl (AV.Le.of_eq ?_)
        have := val_lt_at wx wy hu hv (by rw [show i.toNat + 1 = (i + 1).toNat by omega]; exact h2) huv
        rw [cmpI_lt (by omega)]
      · rename_i hi u hu _ _ v hv _ _ _ huv
        refine RetOk.of rfl (AV.Le.of_eq ?_)
        have := val_lt_at wy wx hv hu (by rw [show i.toNat + 1 = (i + 1).toNat by omega]; exact h2.symm) huv
        rw [cmpI_gt (by omega)]
      · rename_i hi u hu _ _ v hv _ _ huv hvu
        refine LoopEnd.of (i - 1) ⟨by omega, by omega, ?_⟩ (by omega) ?_
        · have := drop_eq_of hu hv (by rw [show i.toNat + 1 = (i + 1).toNat by omega]; exact h2) (by omega)
          rwa [show (i - 1 + 1).toNat = i.toNat by omega]
        · refine Ent.of [] ?_ ?_ rfl rfl
          repeat' (first | exact True.intro |refine ⟨⟨AV.Le.refl _, rfl⟩, ?_⟩ |refine ⟨⟨⟨_, rfl, BLe.cells (LeL.refl _)⟩, rfl⟩, ?_⟩ |refine ⟨⟨⟨_, rfl, BLe.row rfl⟩, rfl⟩, ?_⟩ |refine ⟨⟨⟨_, rfl, BLe.row ?_⟩, rfl⟩, ?_⟩ |refine ⟨⟨⟨_, rfl, BLe.cells ?_⟩, rfl⟩, ?_⟩ |refine ⟨⟨AV.Le.int ?_, rfl⟩, ?_⟩ |refine ⟨⟨AV.Le.bool ?_, rfl⟩, ?_⟩ |refine ⟨⟨AV.Le.sl ?_, rfl⟩, ?_⟩ |refine ⟨⟨AV.Le.of_eq ?_, rfl⟩, ?_⟩ | fail)
      · refine RetOk.of rfl (AV.Le.of_eq ?_)
        have : i = -1 := by omega
        subst this
        rw [show ((-1 : Int) + 1).toNat = 0 from rfl, List.drop_zero, List.drop_zero] at h2
        rw [cmpI_eq (by rw [← hsx, ← hsy, h2])]

theorem rplus_ok (A B : List Int) (wA : WOk A) (wB : WOk B) (hA : A.length ≤ 50000) (hB : B.length ≤ 50000) (N : Nat) (hN : N = (if B.length > A.length then B.length else A.length) + 1) : PureFn Tryz.prog 103 [aW A, aW B] (aW (padW N (val A + val B))) := by
  refine PureFn.of_body Tryz.func103 rfl Tryz.ntmps103 rfl rfl ?_
  have hN1 : (if (B.length : Int) > (A.length : Int) then (B.length : Int) else (A.length : Int)) + 1 = (N : Int) := by
    rw [hN]; split <;> split <;> omega
  have hNa : A.length < N ∧ B.length < N ∧ N ≤ 50001 := by rw [hN]; split <;> omega
  repeat' (first |refine Fl.v rfl rfl rfl ?_ |refine Fl.nilF ?_ |refine AWP.seq ?_ |refine AWP.region ?_ |refine Fl.w rfl rfl rfl (by first | exact True.intro | omega) ?_ |refine AWP.block ?_ |refine Fl.make rfl rfl rfl rfl rfl rfl rfl rfl rfl rfl eW 0 (by exact LeL.refl _) (by rfl) (by first | omega | (dsimp only; omega)) (by first | omega | (dsimp only; omega)) (by first | omega | (dsimp only; omega)) ?_ |fail)
  refine AWP.loop (G := List Int × Int) (fun (os, c) => os.length ≤ N ∧ WOk os ∧ 0 ≤ c ∧ c ≤ 1 ∧ val os + BB os.length * c = val (A.take os.length) + val (B.take os.length))
    (fun (os, c) => St.of [] [(0, aW A), (1, aW B), (5, aN N), (6, .row 16), (7, aU c), (8, aN os.length)] [(16, .row 1 eW (os ++ List.replicate (N - os.length) 0) 105)])
    (fun (os, c) => N - os.length) ([], 0) ⟨by simp, WOk.nil, by omega, by omega, by simp [val, BB]⟩ ?_ ?_
  · refine Ent.of [] ?_ ?_ rfl rfl
    repeat' (first | exact True.intro |refine ⟨⟨AV.Le.refl _, rfl⟩, ?_⟩ |refine ⟨⟨⟨_, rfl, BLe.cells (LeL.refl _)⟩, rfl⟩, ?_⟩ |refine ⟨⟨⟨_, rfl, BLe.row rfl⟩, rfl⟩, ?_⟩ |refine ⟨⟨⟨_, rfl, BLe.row ?_⟩, rfl⟩, ?_⟩ |refine ⟨⟨⟨_, rfl, BLe.cells ?_⟩, rfl⟩, ?_⟩ |refine ⟨⟨AV.Le.int ?_, rfl⟩, ?_⟩ |refine ⟨⟨AV.Le.bool ?_, rfl⟩, ?_⟩ |refine ⟨⟨AV.Le.sl ?_, rfl⟩, ?_⟩ |refine ⟨⟨AV.Le.of_eq ?_, rfl⟩, ?_⟩ | fail)
    · exact hN1
    · rw [hN1]; simp
  · intro ⟨os, c⟩ ⟨h0, h1, h2, h3, h4⟩
    have hl : (os ++ List.replicate (N - os.length) 0).length = N := by simp; omega
    repeat' (first |refine Fl.v rfl rfl rfl ?_ |refine Fl.nilF ?_ |refine AWP.seq ?_ |refine AWP.region ?_ |refine Fl.w rfl rfl rfl (by first | exact True.intro | omega) ?_ |(refine AWP.condD rfl ?_ ?_ <;> intro _ <;> try (exfalso; omega)) |refine AWP.block ?_ |refine AWP.skip ?_ |refine AWP.exit ?_ |refine AWP.ret ?_ |(refine Fl.elW rfl rfl rfl rfl rfl rfl rfl rfl (by omega) (by omega) (by assumption) ?_; intro _ _ _ _) |refine Fl.rel rfl rfl rfl rfl rfl rfl rfl rfl (by omega) (by first | omega | (simp; omega)) ?_ |refine Fl.rst rfl rfl rfl rfl rfl rfl rfl rfl rfl rfl rfl (LeL.refl _) rfl (by first | omega | (simp; omega)) ?_ |fail)
    · rename_i hi hiA u hu hu0 hu1 hiB v hv hv0 hv1
      rw [Int.toNat_natCast] at hu
      rw [Int.toNat_natCast] at hv
      have hstep := plus_step2 (x := u) (y := v) (val_take_succ hu) (val_take_succ hv) h4 rfl
      refine LoopEnd.of (os ++ [(c + u + v) % 4294967296], (c + u + v) / 4294967296) ⟨by simp; omega, h1.append (WOk.cons (by omega) (by omega) WOk.nil), by omega, by omega, by rw [List.length_append]; exact hstep⟩ (by simp only [List.length_append, List.length_cons, List.length_nil]; omega) ?_
      refine Ent.of [] ?_ ?_ rfl rfl
      repeat' (first | exact True.intro |refine ⟨⟨AV.Le.refl _, rfl⟩, ?_⟩ |refine ⟨⟨⟨_, rfl, BLe.cells (LeL.refl _)⟩, rfl⟩, ?_⟩ |refine ⟨⟨⟨_, rfl, BLe.row rfl⟩, rfl⟩, ?_⟩ |refine ⟨⟨⟨_, rfl, BLe.row ?_⟩, rfl⟩, ?_⟩ |refine ⟨⟨⟨_, rfl, BLe.cells ?_⟩, rfl⟩, ?_⟩ |refine ⟨⟨AV.Le.int ?_, rfl⟩, ?_⟩ |refine ⟨⟨AV.Le.bool ?_, rfl⟩, ?_⟩ |refine ⟨⟨AV.Le.sl ?_, rfl⟩, ?_⟩ |refine ⟨⟨AV.Le.of_eq ?_, rfl⟩, ?_⟩ | fail)
      all_goals first
        | exact set_rep (by simp) (by simp; omega) (by rw [bitN_and32 (by omega)]; omega)
        | (rw [p32]; omega)
        | (simp; done)
    · rename_i hi hiA u hu hu0 hu1 hiB
      rw [Int.toNat_natCast] at hu
      have hstep := plus_step2 (x := u) (y := 0) (val_take_succ hu) (val_take_end (by omega)) h4 rfl
      refine LoopEnd.of (os ++ [(c + u + 0) % 4294967296], (c + u + 0) / 4294967296) ⟨by simp; omega, h1.append (WOk.cons (by omega) (by omega) WOk.nil), by omega, by omega, by rw [List.length_append]; exact hstep⟩ (by simp only [List.length_append, List.length_cons, List.length_nil]; omega) ?_
      refine Ent.of [] ?_ ?_ rfl rfl
      repeat' (first | exact True.intro |refine ⟨⟨AV.Le.refl _, rfl⟩, ?_⟩ |refine ⟨⟨⟨_, rfl, BLe.cells (LeL.refl _)⟩, rfl⟩, ?_⟩ |refine ⟨⟨⟨_, rfl, BLe.row rfl⟩, rfl⟩, ?_⟩ |refine ⟨⟨⟨_, rfl, BLe.row ?_⟩, rfl⟩, ?_⟩ |refine ⟨⟨⟨_, rfl, BLe.cells ?_⟩, rfl⟩, ?_⟩ |refine ⟨⟨AV.Le.int ?_, rfl⟩, ?_⟩ |refine ⟨⟨AV.Le.bool ?_, rfl⟩, ?_⟩ |refine ⟨⟨AV.Le.sl ?_, rfl⟩, ?_⟩ |refine ⟨⟨AV.Le.of_eq ?_, rfl⟩, ?_⟩ | fail)
      all_goals first
        | exact set_rep (by simp) (by simp; omega) (by rw [bitN_and32 (by omega)]; omega)
        | (rw [p32]; omega)
        | (simp; done)
    · rename_i hi hiA hiB v hv hv0 hv1
      rw [Int.toNat_natCast] at hv
      have hstep := plus_step2 (x := 0) (y := v) (val_take_end (by omega)) (val_take_succ hv) h4 rfl
      refine LoopEnd.of (os ++ [(c + 0 + v) % 4294967296], (c + 0 + v) / 4294967296) ⟨by simp; omega, h1.append (WOk.cons (by omega) (by omega) WOk.nil), by omega, by omega, by rw [List.length_append]; exact hstep⟩ (by simp only [List.length_append, List.length_cons, List.length_nil]; omega) ?_
      refine Ent.of [] ?_ ?_ rfl rfl
      repeat' (first | exact True.intro |refine ⟨⟨AV.Le.refl _, rfl⟩, ?_⟩ |refine ⟨⟨⟨_, rfl, BLe.cells (LeL.refl _)⟩, rfl⟩, ?_⟩ |refine ⟨⟨⟨_, rfl, BLe.row rfl⟩, rfl⟩, ?_⟩ |refine ⟨⟨⟨_, rfl, BLe.row ?_⟩, rfl⟩, ?_⟩ |refine ⟨⟨⟨_, rfl, BLe.cells ?_⟩, rfl⟩, ?_⟩ |refine ⟨⟨AV.Le.int ?_, rfl⟩, ?_⟩ |refine ⟨⟨AV.Le.bool ?_, rfl⟩, ?_⟩ |refine ⟨⟨AV.Le.sl ?_, rfl⟩, ?_⟩ |refine ⟨⟨AV.Le.of_eq ?_, rfl⟩, ?_⟩ | fail)
      all_goals first
        | exact set_rep (by simp) (by simp; omega) (by rw [bitN_and32 (by omega)]; omega)
        | (rw [p32]; omega)
        | (simp; done)
    · rename_i hi hiA hiB
      have hstep := plus_step2 (x := 0) (y := 0) (val_take_end (by omega)) (val_take_end (by omega)) h4 rfl
      refine LoopEnd.of (os ++ [(c + 0 + 0) % 4294967296], (c + 0 + 0) / 4294967296) ⟨by simp; omega, h1.append (WOk.cons (by omega) (by omega) WOk.nil), by omega, by omega, by rw [List.length_append]; exact hstep⟩ (by simp only [List.length_append, List.length_cons, List.length_nil]; omega) ?_
      refine Ent.of [] ?_ ?_ rfl rfl
      repeat' (first | exact True.intro |refine ⟨⟨AV.Le.refl _, rfl⟩, ?_⟩ |refine ⟨⟨⟨_, rfl, BLe.cells (LeL.refl _)⟩, rfl⟩, ?_⟩ |refine ⟨⟨⟨_, rfl, BLe.row rfl⟩, rfl⟩, ?_⟩ |refine ⟨⟨⟨_, rfl, BLe.row ?_⟩, rfl⟩, ?_⟩ |refine ⟨⟨⟨_, rfl, BLe.cells ?_⟩, rfl⟩, ?_⟩ |refine ⟨⟨AV.Le.int ?_, rfl⟩, ?_⟩ |refine ⟨⟨AV.Le.bool ?_, rfl⟩, ?_⟩ |refine ⟨⟨AV.Le.sl ?_, rfl⟩, ?_⟩ |refine ⟨⟨AV.Le.of_eq ?_, rfl⟩, ?_⟩ | fail)
      all_goals first
        | exact set_rep (by simp) (by simp; omega) (by rw [bitN_and32 (by omega)]; omega)
        | (rw [p32]; omega)
        | (simp; done)
    · rename_i hi
      have hlen : os.length = N := by omega
      rw [hlen, List.take_of_length_le (by omega), List.take_of_length_le (by omega)] at h4
      refine RetOk.ent (Ent.freeze 16 rfl) ?_
      refine RetOk.of rfl (AV.Le.sl ?_)
      have b1 := val_lt wA
      have b2 := val_lt wB
      have b3 := BB_le (show A.length ≤ N - 1 by omega)
      have b4 := BB_le (show B.length ≤ N - 1 by omega)
      have b5 : BB N = 4294967296 * BB (N - 1) := by rw [← BB_succ]; congr 1; omega
      have b6 := BB_pos (N - 1)
      have b7 := val_nonneg h1
      have hc : c = 0 := by
        have : c = 0 ∨ c = 1 := by omega
        rcases this with h | h
        · exact h
        · subst h; omega
      subst hc
      rw [hlen, Nat.sub_self, List.replicate_zero, List.append_nil, padW_of h1, hlen]
      congr 1
      omega
end Go.Proofs.YtfkjhjgihbnegaaGreat
namespace Go.Proofs.YtfkjhjgihbnegaaGreat
open Go.AL

theorem rminus_ok (A B : List Int) (wA : WOk A) (wB : WOk B) (hA : A.length ≤ 50000) (hlB : B.length ≤ A.length) (hle : val B ≤ val A) : PureFn Tryz.prog 105 [aW A, aW B] (aW (padW A.length (val A - val B))) := by
  refine PureFn.of_body Tryz.func105 rfl Tryz.ntmps105 rfl rfl ?_
  repeat' (first |refine Fl.v rfl rfl rfl ?_ |refine Fl.nilF ?_ |refine AWP.seq ?_ |refine AWP.region ?_ |refine AWP.block ?_ |refine Fl.make rfl rfl rfl rfl rfl rfl rfl rfl rfl rfl eW 0 (by exact LeL.refl _) (by rfl) (by first | omega | (dsimp only; omega)) (by first | omega | (dsimp only; omega)) (by first | omega | (dsimp only; omega)) ?_ |fail)
  refine AWP.loop (G := List Int × Int) (fun (os, c) => os.length ≤ A.length ∧ WOk os ∧ 0 ≤ c ∧ c ≤ 1 ∧ val os = val (A.take os.length) - val (B.take os.length) + BB os.length * c)
    (fun (os, c) => St.of [] [(0, aW A), (1, aW B), (5, .row 11), (6, aU c), (7, aN os.length)] [(11, .row 1 eW (os ++ List.replicate (A.length - os.length) 0) 105)])
    (fun (os, c) => A.length - os.length) ([], 0) ⟨by simp, WOk.nil, by omega, by omega, by simp [val, BB]⟩ ?_ ?_
  · refine Ent.of [] ?_ ?_ rfl rfl
    repeat' (first | exact True.intro |refine ⟨⟨AV.Le.refl _, rfl⟩, ?_⟩ |refine ⟨⟨⟨_, rfl, BLe.cells (LeL.refl _)⟩, rfl⟩, ?_⟩ |refine ⟨⟨⟨_, rfl, BLe.row rfl⟩, rfl⟩, ?_⟩ |refine ⟨⟨⟨_, rfl, BLe.row ?_⟩, rfl⟩, ?_⟩ |refine ⟨⟨⟨_, rfl, BLe.cells ?_⟩, rfl⟩, ?_⟩ |refine ⟨⟨AV.Le.int ?_, rfl⟩, ?_⟩ |refine ⟨⟨AV.Le.bool ?_, rfl⟩, ?_⟩ |refine ⟨⟨AV.Le.sl ?_, rfl⟩, ?_⟩ |refine ⟨⟨AV.Le.of_eq ?_, rfl⟩, ?_⟩ | fail)
  · intro ⟨os, c⟩ ⟨h0, h1, h2, h3, h4⟩
    have hl : (os ++ List.replicate (A.length - os.length) 0).length = A.length := by simp; omega
    repeat' (first |refine Fl.v rfl rfl rfl ?_ |refine Fl.nilF ?_ |refine AWP.seq ?_ |refine AWP.region ?_ |refine Fl.w rfl rfl rfl (by first | exact True.intro | omega) ?_ |(refine AWP.condD rfl ?_ ?_ <;> intro _ <;> try (exfalso; omega)) |refine AWP.block ?_ |refine AWP.skip ?_ |refine AWP.exit ?_ |refine AWP.ret ?_ |(refine Fl.elW rfl rfl rfl rfl rfl rfl rfl rfl (by omega) (by omega) (by assumption) ?_; intro _ _ _ _) |refine Fl.rel rfl rfl rfl rfl rfl rfl rfl rfl (by omega) (by first | omega | (simp; omega)) ?_ |refine Fl.rst rfl rfl rfl rfl rfl rfl rfl rfl rfl rfl rfl (LeL.refl _) rfl (by first | omega | (simp; omega)) ?_ |refine Fl.sumM rfl rfl rfl rfl rfl rfl ?_ |fail)
    · rename_i hi u hu hu0 hu1 hiB v hv hv0 hv1
      rw [Int.toNat_natCast] at hu hv
      have hstep := minus_step (p := (u + 4294967296 - c - v) % 4294967296) (q := 1 - (u + 4294967296 - c - v) / 4294967296) hu (val_take_succ hv) h4 (by omega)
      refine LoopEnd.of (os ++ [(u + 4294967296 - c - v) % 4294967296], 1 - (u + 4294967296 - c - v) / 4294967296) ⟨by simp; omega, h1.append (WOk.cons (by omega) (by omega) WOk.nil), by omega, by omega, by rw [List.length_append]; exact hstep⟩ (by simp only [List.length_append, List.length_cons, List.length_nil]; omega) ?_
      refine Ent.of [] ?_ ?_ rfl rfl
      repeat' (first | exact True.intro |refine ⟨⟨AV.Le.refl _, rfl⟩, ?_⟩ |refine ⟨⟨⟨_, rfl, BLe.cells (LeL.refl _)⟩, rfl⟩, ?_⟩ |refine ⟨⟨⟨_, rfl, BLe.row rfl⟩, rfl⟩, ?_⟩ |refine ⟨⟨⟨_, rfl, BLe.row ?_⟩, rfl⟩, ?_⟩ |refine ⟨⟨⟨_, rfl, BLe.cells ?_⟩, rfl⟩, ?_⟩ |refine ⟨⟨AV.Le.int ?_, rfl⟩, ?_⟩ |refine ⟨⟨AV.Le.bool ?_, rfl⟩, ?_⟩ |refine ⟨⟨AV.Le.sl ?_, rfl⟩, ?_⟩ |refine ⟨⟨AV.Le.of_eq ?_, rfl⟩, ?_⟩ | fail)
      all_goals first
        | exact set_rep (by simp) (by simp; omega) (by rw [bitN_and32 (by omega)]; omega)
        | (rw [p32]; omega)
        | (simp; done)
    · rename_i hi u hu hu0 hu1 hiB
      rw [Int.toNat_natCast] at hu
      have hstep := minus_step (p := (u + 4294967296 - c - 0) % 4294967296) (q := 1 - (u + 4294967296 - c - 0) / 4294967296) hu (val_take_end (by omega)) h4 (by omega)
      refine LoopEnd.of (os ++ [(u + 4294967296 - c - 0) % 4294967296], 1 - (u + 4294967296 - c - 0) / 4294967296) ⟨by simp; omega, h1.append (WOk.cons (by omega) (by omega) WOk.nil), by omega, by omega, by rw [List.length_append]; exact hstep⟩ (by simp only [List.length_append, List.length_cons, List.length_nil]; omega) ?_
      refine Ent.of [] ?_ ?_ rfl rfl
      repeat' (first | exact True.intro |refine ⟨⟨AV.Le.refl _, rfl⟩, ?_⟩ |refine ⟨⟨⟨_, rfl, BLe.cells (LeL.refl _)⟩, rfl⟩, ?_⟩ |refine ⟨⟨⟨_, rfl, BLe.row rfl⟩, rfl⟩, ?_⟩ |refine ⟨⟨⟨_, rfl, BLe.row ?_⟩, rfl⟩, ?_⟩ |refine ⟨⟨⟨_, rfl, BLe.cells ?_⟩, rfl⟩, ?_⟩ |refine ⟨⟨AV.Le.int ?_, rfl⟩, ?_⟩ |refine ⟨⟨AV.Le.bool ?_, rfl⟩, ?_⟩ |refine ⟨⟨AV.Le.sl ?_, rfl⟩, ?_⟩ |refine ⟨⟨AV.Le.of_eq ?_, rfl⟩, ?_⟩ | fail)
      all_goals first
        | exact set_rep (by simp) (by simp; omega) (by rw [bitN_and32 (by omega)]; omega)
        | (rw [p32]; omega)
        | (simp; done)
    · rename_i hi
      have hlen : os.length = A.length := by omega
      rw [hlen, List.take_of_length_le (by omega), List.take_of_length_le (by omega)] at h4
      refine RetOk.ent (Ent.freeze 11 rfl) ?_
      refine RetOk.of rfl (AV.Le.sl ?_)
      have b7 := val_lt h1
      rw [hlen] at b7
      have hc : c = 0 := by
        have : c = 0 ∨ c = 1 := by omega
        rcases this with h | h
        · exact h
        · subst h; omega
      subst hc
      rw [hlen, Nat.sub_self, List.replicate_zero, List.append_nil, padW_of h1, hlen]
      congr 1
      omega
theorem rMul_ok (x y : Int) (hxl : (toW x.natAbs).length ≤ 40000) (hyl : (toW y.natAbs).length ≤ 40000) : PureFn Tryz.prog 60 [aX x, aX y] (aX (x * y)) := by
  refine PureFn.of_body Tryz.func60 rfl Tryz.ntmps60 rfl rfl ?_
  have wx := toW_ok x.natAbs
  have wy := toW_ok y.natAbs
  have hsx := val_toW (show 0 ≤ (x.natAbs : Int) by omega)
  have hsy := val_toW (show 0 ≤ (y.natAbs : Int) by omega)
  delta aX
  generalize toW x.natAbs = A at *
  generalize toW y.natAbs = B at *
  repeat' (first |refine Fl.v rfl rfl rfl ?_ |refine Fl.nilF ?_ |refine AWP.seq ?_ |refine AWP.region ?_ |refine Fl.w rfl rfl rfl (by first | exact True.intro | omega) ?_ |refine Fl.b rfl rfl rfl rfl ?_ |refine AWP.block ?_ |refine Fl.make rfl rfl rfl rfl rfl rfl rfl rfl rfl rfl eW 0 (by exact LeL.refl _) (by rfl) (by first | omega | (dsimp only; omega)) (by first | omega | (dsimp only; omega)) (by first | omega | (dsimp only; omega)) ?_ |fail)
  refine AWP.loop (G := Nat × List Int) (fun (i, os) => i ≤ A.length ∧ os.length = i + B.length ∧ WOk os ∧ val os = val (A.take i) * val B)
    (fun (i, os) => St.of [] [(2, .ptr 2 0), (3, .ptr 3 0), (4, .ptr 4 0), (5, .row 16), (6, aN i)] [(2, .cells [aB (decide (x < 0)), aW A] 58), (3, .cells [aB (decide (y < 0)), aW B] 58), (4, .cells [aB false, .v (.slice none 0 0)] 58), (16, .row 1 eW (os ++ List.replicate (A.length - i) 0) 105)])
    (fun (i, os) => A.length - i) (0, List.replicate B.length 0) ⟨by omega, by simp, WOk.zeros _, by simp [val, val_zeros]⟩ ?_ ?_
  · refine Ent.of [] ?_ ?_ rfl rfl
    repeat' (first | exact True.intro |refine ⟨⟨AV.Le.refl _, rfl⟩, ?_⟩ |refine ⟨⟨⟨_, rfl, BLe.cells (LeL.refl _)⟩, rfl⟩, ?_⟩ |refine ⟨⟨⟨_, rfl, BLe.row rfl⟩, rfl⟩, ?_⟩ |refine ⟨⟨⟨_, rfl, BLe.row ?_⟩, rfl⟩, ?_⟩ |refine ⟨⟨⟨_, rfl, BLe.cells ?_⟩, rfl⟩, ?_⟩ |refine ⟨⟨AV.Le.int ?_, rfl⟩, ?_⟩ |refine ⟨⟨AV.Le.bool ?_, rfl⟩, ?_⟩ |refine ⟨⟨AV.Le.sl ?_, rfl⟩, ?_⟩ |refine ⟨⟨AV.Le.of_eq ?_, rfl⟩, ?_⟩ | fail)
    rw [List.replicate_append_replicate]; congr 1; omega
  · intro ⟨i, os⟩ ⟨h0, h1, h2, h3⟩
    repeat' (first |refine Fl.v rfl rfl rfl ?_ |refine Fl.nilF ?_ |refine AWP.seq ?_ |refine AWP.region ?_ |(refine AWP.condD rfl ?_ ?_ <;> intro _ <;> try (exfalso; omega)) |refine AWP.block ?_ |refine AWP.skip ?_ |refine AWP.exit ?_ |fail)
    · rename_i hi
      obtain ⟨u, hu⟩ : ∃ u, A[i]? = some u := ⟨_, List.getElem?_eq_getElem (by omega)⟩
      obtain ⟨hu0, hu1⟩ := wx.get hu
      obtain ⟨D, hD⟩ : ∃ D, D = os ++ List.replicate (A.length - i) 0 := ⟨_, rfl⟩
      have hDl : D.length = A.length + B.length := by rw [hD, List.length_append, List.length_replicate]; omega
      have hDw : WOk D := by rw [hD]; exact h2.append (WOk.zeros _)
      refine AWP.loop (G := Nat × List Int × Int) (fun (k, ps, c) => k ≤ B.length ∧ ps.length = i + k ∧ WOk ps ∧ WOk (ps ++ D.drop ps.length) ∧ 0 ≤ c ∧ c < 4294967296 ∧ val ps + BB ps.length * c = val (D.take ps.length) + BB i * (u * val (B.take k)))
        (fun (k, ps, c) => St.of [] [(2, .ptr 2 0), (3, .ptr 3 0), (4, .ptr 4 0), (5, .row 16), (6, aN i), (7, aU c), (8, aN k)] [(2, .cells [aB (decide (x < 0)), aW A] 58), (3, .cells [aB (decide (y < 0)), aW B] 58), (4, .cells [aB false, .v (.slice none 0 0)] 58), (16, .row 1 eW (ps ++ D.drop ps.length) 105)])
        (fun (k, ps, c) => B.length - k) (0, D.take i, 0) ⟨by omega, by rw [List.length_take]; omega, hDw.take i, by rw [List.length_take, Nat.min_eq_left (by omega), List.take_append_drop]; exact hDw, by omega, by omega, by rw [List.length_take, Nat.min_eq_left (by omega)]; simp [val]⟩ ?_ ?_
      · refine Ent.of [] ?_ ?_ rfl rfl
        repeat' (first | exact True.intro |refine ⟨⟨AV.Le.refl _, rfl⟩, ?_⟩ |refine ⟨⟨⟨_, rfl, BLe.cells (LeL.refl _)⟩, rfl⟩, ?_⟩ |refine ⟨⟨⟨_, rfl, BLe.row rfl⟩, rfl⟩, ?_⟩ |refine ⟨⟨⟨_, rfl, BLe.row ?_⟩, rfl⟩, ?_⟩ |refine ⟨⟨⟨_, rfl, BLe.cells ?_⟩, rfl⟩, ?_⟩ |refine ⟨⟨AV.Le.int ?_, rfl⟩, ?_⟩ |refine ⟨⟨AV.Le.bool ?_, rfl⟩, ?_⟩ |refine ⟨⟨AV.Le.sl ?_, rfl⟩, ?_⟩ |refine ⟨⟨AV.Le.of_eq ?_, rfl⟩, ?_⟩ | fail)
        rw [List.length_take, Nat.min_eq_left (by omega), List.take_append_drop, hD]
      · intro ⟨k, ps, c⟩ ⟨k0, k1, k2, k3, k4, k5, k6⟩
        have hkl : (ps ++ D.drop ps.length).length = A.length + B.length := by rw [List.length_append, List.length_drop]; omega
        repeat' (first |refine Fl.v rfl rfl rfl ?_ |refine Fl.nilF ?_ |refine Fl.nil (fun _ => by kernel_rfl) ?_ |refine AWP.seq ?_ |refine AWP.region ?_ |refine Fl.w rfl rfl rfl (by first | exact True.intro | omega) ?_ |(refine Fl.mulW rfl rfl rfl rfl rfl (by omega) (by omega) (by omega) (by omega) ?_; intro _ _) |(refine AWP.condD rfl ?_ ?_ <;> intro _ <;> try (exfalso; omega)) |refine AWP.block ?_ |refine AWP.skip ?_ |refine AWP.exit ?_ |refine Fl.elK rfl rfl rfl rfl rfl rfl rfl rfl (by assumption) (by omega) ?_ |(refine Fl.elW rfl rfl rfl rfl rfl rfl rfl rfl (by omega) (by omega) (by assumption) ?_; intro _ _ _ _) |refine Fl.rel rfl rfl rfl rfl rfl rfl rfl rfl (by omega) (by first | omega | (simp; omega)) ?_ |(refine Fl.rldW rfl rfl rfl rfl rfl rfl rfl (fun _ => rfl) (fun _ => rfl) (by first | omega | (simp; omega)) (by assumption) ?_; intro _ _ _ _) |refine Fl.rst rfl rfl rfl rfl rfl rfl rfl rfl rfl rfl rfl (LeL.refl _) rfl (by first | omega | (simp; omega)) ?_ |fail)
        · rename_i hk v hv hv0 hv1 hp0 hp1 w hw hw0 hw1
          rw [Int.toNat_natCast] at hv
          have hw2 : D[ps.length]? = some w := by rw [← get_drop (os := ps) (k := (↑i + ↑k : Int).toNat) (by omega)]; exact hw
          have hstep := times_step k1 hw2 hv k6 rfl
          refine LoopEnd.of (k + 1, ps ++ [(c + (u * v + w)) % 4294967296], (c + (u * v + w)) / 4294967296) ⟨by omega, by rw [List.length_append, k1]; rfl, k2.append (WOk.cons (by omega) (by omega) WOk.nil), ?_, by omega, by omega, by rw [List.length_append]; exact hstep⟩ (by simp only; omega) ?_
          · rw [List.length_append]
            exact (k2.append (WOk.cons (by omega) (by omega) WOk.nil)).append (hDw.drop _)
          · refine Ent.of [] ?_ ?_ rfl rfl
            repeat' (first | exact True.intro |refine ⟨⟨AV.Le.refl _, rfl⟩, ?_⟩ |refine ⟨⟨⟨_, rfl, BLe.cells (LeL.refl _)⟩, rfl⟩, ?_⟩ |refine ⟨⟨⟨_, rfl, BLe.row rfl⟩, rfl⟩, ?_⟩ |refine ⟨⟨⟨_, rfl, BLe.row ?_⟩, rfl⟩, ?_⟩ |refine ⟨⟨⟨_, rfl, BLe.cells ?_⟩, rfl⟩, ?_⟩ |refine ⟨⟨AV.Le.int ?_, rfl⟩, ?_⟩ |refine ⟨⟨AV.Le.bool ?_, rfl⟩, ?_⟩ |refine ⟨⟨AV.Le.sl ?_, rfl⟩, ?_⟩ |refine ⟨⟨AV.Le.of_eq ?_, rfl⟩, ?_⟩ | fail)
            all_goals first
              | (rw [List.length_append]; exact set_drop (by omega) (by omega) (by rw [bitN_and32 (by omega)]; omega))
              | (rw [p32]; omega)
        · rename_i hk
          have hkk : k = B.length := by omega
          refine LoopEnd.of (i + 1, ps ++ [c]) ⟨by omega, by simp; omega, k2.append (WOk.cons k4 k5 WOk.nil), ?_⟩ (by simp only; omega) ?_
          · rw [val_snoc, k6, val_take_succ hu, show ps.length = os.length by omega, hD, List.take_left, h3, hkk, List.take_length]
            grind
          · refine Ent.of [] ?_ ?_ rfl rfl
            repeat' (first | exact True.intro |refine ⟨⟨AV.Le.refl _, rfl⟩, ?_⟩ |refine ⟨⟨⟨_, rfl, BLe.cells (LeL.refl _)⟩, rfl⟩, ?_⟩ |refine ⟨⟨⟨_, rfl, BLe.row rfl⟩, rfl⟩, ?_⟩ |refine ⟨⟨⟨_, rfl, BLe.row ?_⟩, rfl⟩, ?_⟩ |refine ⟨⟨⟨_, rfl, BLe.cells ?_⟩, rfl⟩, ?_⟩ |refine ⟨⟨AV.Le.int ?_, rfl⟩, ?_⟩ |refine ⟨⟨AV.Le.bool ?_, rfl⟩, ?_⟩ |refine ⟨⟨AV.Le.sl ?_, rfl⟩, ?_⟩ |refine ⟨⟨AV.Le.of_eq ?_, rfl⟩, ?_⟩ | fail)
            rw [show D.drop ps.length = List.replicate (A.length - i) 0 by rw [hD, show ps.length = os.length by omega, List.drop_left]]
            exact set_rep (by omega) (by omega) (by omega)
    · rename_i hi
      have hii : i = A.length := by omega
      refine Fl.callF rfl 16 rfl (rMake_ok _ os h2 (by omega)) rfl rfl rfl (LeL.cons (AV.Le.refl _) (LeL.cons (AV.Le.sl ?_) LeL.nil)) ?_
      · rw [hii, Nat.sub_self]; simp
      repeat' (first |refine Fl.nilF ?_ |refine Fl.b rfl rfl rfl rfl ?_ |refine AWP.ret ?_ |fail)
      refine RetOk.of rfl (AV.Le.agg (leX (σ := []) ?_))
      rw [h3, hii, List.take_length, hsx, hsy, ← sg_mul x y]
theorem rAdd_ok (x y : Int) (hxl : (toW x.natAbs).length ≤ 40000) (hyl : (toW y.natAbs).length ≤ 40000) : PureFn Tryz.prog 61 [aX x, aX y] (aX (x + y)) := by
  refine PureFn.of_body Tryz.func61 rfl Tryz.ntmps61 rfl rfl ?_
  have wx := toW_ok x.natAbs
  have wy := toW_ok y.natAbs
  have hsx := val_toW (show 0 ≤ (x.natAbs : Int) by omega)
  have hsy := val_toW (show 0 ≤ (y.natAbs : Int) by omega)
  have bx := val_lt wx
  have by' := val_lt wy
  have hord := rorder_ok x.natAbs y.natAbs (by omega) (by omega) (by omega) (by omega)
  have hlen : ∀ a b : Int, 0 ≤ b → b ≤ a → (toW b).length ≤ (toW a).length := fun a b hb h => by
    rcases Nat.lt_or_ge (toW a).length (toW b).length with k | k
    · have := toW_len_lt (by omega) hb k; omega
    · exact k
  repeat' (first |refine Fl.v rfl rfl rfl ?_ |refine Fl.nilF ?_ |refine AWP.seq ?_ |refine AWP.region ?_ |refine Fl.b rfl rfl rfl rfl ?_ |(refine AWP.condD rfl ?_ ?_ <;> intro _ <;> try (exfalso; omega)) |refine AWP.skip ?_ |fail)
  · rename_i hsg
    rw [decide_eq_decide] at hsg
    obtain ⟨N, hN⟩ : ∃ N : Nat, N = (if (toW y.natAbs).length > (toW x.natAbs).length then (toW y.natAbs).length else (toW x.natAbs).length) + 1 := ⟨_, rfl⟩
    refine Fl.call rfl (rplus_ok _ _ wx wy (by omega) (by omega) N hN) rfl rfl rfl (LeL.refl _) ?_
    skip
    refine Fl.call rfl (rMake_ok (decide (x < 0)) _ (padW_ok _ _) (by rw [padW_len]; split at hN <;> omega)) rfl rfl rfl (LeL.refl _) ?_
    repeat' (first |refine Fl.nil (fun _ => by kernel_rfl) ?_ |refine Fl.b rfl rfl rfl rfl ?_ |refine AWP.ret ?_ |fail)
    refine RetOk.of rfl (AV.Le.agg (leX (σ := []) ?_))
    have b3 := BB_le (show (toW x.natAbs).length ≤ N - 1 by split at hN <;> omega)
    have b4 := BB_le (show (toW y.natAbs).length ≤ N - 1 by split at hN <;> omega)
    have b5 : BB N = 4294967296 * BB (N - 1) := by rw [← BB_succ]; congr 1; omega
    have b6 := BB_pos (N - 1)
    rw [padW_val (by omega) (by omega), hsx, hsy]
    simp only [sg]; simp; split <;> omega
  · rename_i hsg
    rw [decide_eq_decide] at hsg
    refine Fl.call rfl (hord) rfl rfl rfl (LeL.refl _) ?_
    repeat' (first |refine Fl.v rfl rfl rfl ?_ |refine Fl.nilF ?_ |refine AWP.seq ?_ |refine AWP.region ?_ |(refine AWP.condD rfl ?_ ?_ <;> intro _ <;> try (exfalso; omega)) |refine AWP.skip ?_ |fail)
    · rename_i hge
      have hge2 : (y.natAbs : Int) ≤ x.natAbs := by unfold cmpI at hge; split at hge <;> omega
      refine Fl.call rfl (rminus_ok _ _ wx wy (by omega) (hlen _ _ (by omega) hge2) (by omega)) rfl rfl rfl (LeL.refl _) ?_
      skip
      refine Fl.call rfl (rMake_ok (decide (x < 0)) _ (padW_ok _ _) (by rw [padW_len]; omega)) rfl rfl rfl (LeL.refl _) ?_
      repeat' (first |refine Fl.nil (fun _ => by kernel_rfl) ?_ |refine Fl.b rfl rfl rfl rfl ?_ |refine AWP.ret ?_ |fail)
      refine RetOk.of rfl (AV.Le.agg (leX (σ := []) ?_))
      rw [padW_val (by omega) (by omega), hsx, hsy]
      simp only [sg]; simp; split <;> omega
    · rename_i hge
      have hge2 : (x.natAbs : Int) ≤ y.natAbs := by
        unfold cmpI at hge
        split at hge
        · omega
        · split at hge <;> omega
      refine Fl.call rfl (rminus_ok _ _ wy wx (by omega) (hlen _ _ (by omega) hge2) (by omega)) rfl rfl rfl (LeL.refl _) ?_
      skip
      refine Fl.call rfl (rMake_ok (decide (y < 0)) _ (padW_ok _ _) (by rw [padW_len]; omega)) rfl rfl rfl (LeL.refl _) ?_
      repeat' (first |refine Fl.nil (fun _ => by kernel_rfl) ?_ |refine Fl.b rfl rfl rfl rfl ?_ |refine AWP.ret ?_ |fail)
      refine RetOk.of rfl (AV.Le.agg (leX (σ := []) ?_))
      rw [padW_val (by omega) (by omega), hsx, hsy]
      simp only [sg]; simp; split <;> omega
end Go.Proofs.YtfkjhjgihbnegaaGreat
namespace Go.AL
/-- how many words a number has -/
def lenI (x : Int) : Nat := (toW x.natAbs).length
theorem lenI_le {x : Int} {n : Nat} : lenI x ≤ n ↔ (x.natAbs : Int) < BB n := toW_len_le (by omega) n
theorem lenI_lt (x : Int) : (x.natAbs : Int) < BB (lenI x) := lenI_le.1 (Nat.le_refl _)
theorem lenI_mul (x y : Int) : lenI (x * y) ≤ lenI x + lenI y := by
  rw [lenI_le, Int.natAbs_mul, BB_add, Int.natCast_mul]
  have h1 := lenI_lt x
  have h2 := lenI_lt y
  have p1 := BB_pos (lenI x)
  have p2 := BB_pos (lenI y)
  have e1 : (x.natAbs : Int) * y.natAbs ≤ x.natAbs * BB (lenI y) := Int.mul_le_mul_of_nonneg_left (by omega) (by omega)
  have e2 : (x.natAbs : Int) * BB (lenI y) < BB (lenI x) * BB (lenI y) := Int.mul_lt_mul_of_pos_right h1 p2
  omega
theorem lenI_pow (x : Int) : ∀ n : Nat, lenI (x ^ n) ≤ 1 + n * lenI x
  | 0 => by
    rw [lenI_le]
    simp
    rw [show (1 : Nat) = 0 + 1 from rfl, BB_succ, BB_zero]; omega
  | n + 1 => by
    rw [Int.pow_succ]
    have h1 := lenI_mul (x ^ n) x
    have h2 := lenI_pow x n
    have : (n + 1) * lenI x = n * lenI x + lenI x := by rw [Nat.add_mul]; omega
    omega
theorem lenI_mulpow (v x : Int) : ∀ n : Nat, lenI (v * x ^ n) ≤ lenI v + n * lenI x
  | 0 => by simp
  | n + 1 => by
    rw [Int.pow_succ, ← Int.mul_assoc]
    have h1 := lenI_mul (v * x ^ n) x
    have h2 := lenI_mulpow v x n
    have : (n + 1) * lenI x = n * lenI x + lenI x := by rw [Nat.add_mul]; omega
    omega
/-- a term's load: words of what it multiplies -/
def loadE : List Int → List Int → Nat
  | x :: X, e :: E => e.toNat * lenI x + loadE X E
  | _, _ => 0
theorem loadE_take : ∀ (X E : List Int) (k : Nat), loadE (X.take k) (E.take k) ≤ loadE X E
  | [], E, k => by simp [loadE]
  | _ :: _, [], k => by simp [loadE]
  | x :: X, e :: E, 0 => by simp [loadE]
  | x :: X, e :: E, k + 1 => by simp only [List.take_succ_cons, loadE]; have := loadE_take X E k; omega
theorem loadE_snoc : ∀ {X E : List Int} {k : Nat} {x e : Int}, X[k]? = some x → E[k]? = some e → loadE (X.take (k + 1)) (E.take (k + 1)) = loadE (X.take k) (E.take k) + e.toNat * lenI x
  | [], _, _, _, _, h, _ => by simp at h
  | _ :: _, [], _, _, _, _, h => by simp at h
  | y :: X, d :: E, 0, x, e, h1, h2 => by simp at h1 h2; subst h1 h2; simp [loadE]
  | y :: X, d :: E, k + 1, x, e, h1, h2 => by
    simp only [List.take_succ_cons, loadE]
    rw [loadE_snoc (X := X) (E := E) (k := k) (by simpa using h1) (by simpa using h2)]; omega
theorem lenI_prodE (c : Int) : ∀ (X E : List Int), lenI (c * prodE X E) ≤ lenI c + loadE X E
  | [], E => by simp [prodE, loadE]
  | _ :: _, [] => by simp [prodE, loadE]
  | x :: X, e :: E => by
    simp only [prodE, loadE]
    rw [← Int.mul_assoc]
    have h1 := lenI_prodE (c * x ^ e.toNat) X E
    have h2 := lenI_mulpow c x e.toNat
    omega
/-- the sum of the terms, of their absolute values -/
def TS (X : List Int) (l : List TZ) : Int := sumL (l.map (tv X))
def AS (X : List Int) (l : List TZ) : Int := sumL (l.map fun t => ((tv X t).natAbs : Int))
theorem TS_succ {X : List Int} {l : List TZ} {i : Nat} {t : TZ} (h : l[i]? = some t) : TS X (l.take (i + 1)) = TS X (l.take i) + tv X t := by
  unfold TS; rw [List.map_take, List.map_take]; exact sumL_take_succ (by rw [List.getElem?_map, h]; rfl)
theorem AS_succ {X : List Int} {l : List TZ} {i : Nat} {t : TZ} (h : l[i]? = some t) : AS X (l.take (i + 1)) = AS X (l.take i) + ((tv X t).natAbs : Int) := by
  unfold AS; rw [List.map_take, List.map_take]; exact sumL_take_succ (by rw [List.getElem?_map, h]; rfl)
theorem AS_take (X : List Int) (l : List TZ) (i : Nat) : 0 ≤ AS X (l.take i) ∧ AS X (l.take i) ≤ AS X l := by
  unfold AS; rw [List.map_take]
  refine sumL_take_le (fun x hx => ?_) i
  obtain ⟨t, _, rfl⟩ := List.mem_map.1 hx
  show (0 : Int) ≤ ((tv X t).natAbs : Int)
  omega
theorem TS_eq (X : List Int) (p : PZ) : TS X p.terms = pv X p := by
  unfold pv PS OS TS
  induction p.terms with
  | nil => rfl
  | cons t l ih =>
    simp only [List.map_cons, sumL]
    have : tv X t = plI (tv X t) + opI (tv X t) := by unfold plI opI; split <;> omega
    omega
theorem TS_le (X : List Int) : ∀ l : List TZ, (TS X l).natAbs ≤ (AS X l).natAbs ∧ 0 ≤ AS X l
  | [] => by simp [TS, AS, sumL]
  | t :: l => by
    have := TS_le X l
    simp only [TS, AS, List.map_cons, sumL] at this ⊢
    omega
theorem AS_lt {X : List Int} {B : Int} (hB : 0 < B) : ∀ {l : List TZ}, (∀ t ∈ l, ((tv X t).natAbs : Int) < B) → AS X l ≤ l.length * B
  | [], _ => by simp [AS, sumL]
  | t :: l, h => by
    have h1 := AS_lt hB (l := l) fun t ht => h t (by simp [ht])
    have h2 := h t (by simp)
    simp only [AS, List.map_cons, sumL, List.length_cons] at h1 ⊢
    have : ((l.length + 1 : Nat) : Int) * B = l.length * B + B := by rw [Int.natCast_add, Int.add_mul]; omega
    omega
theorem AS_len {X : List Int} {l : List TZ} {M : Nat} (hl : l.length ≤ 3000) (h : ∀ t ∈ l, lenI (tv X t) ≤ M) (i : Nat) : lenI (AS X (l.take i)) ≤ M + 1 ∧ lenI (TS X (l.take i)) ≤ M + 1 := by
  have hb : ∀ t ∈ l.take i, ((tv X t).natAbs : Int) < BB M := fun t ht => lenI_le.1 (h t (List.mem_of_mem_take ht))
  have h1 := AS_lt (BB_pos M) hb
  have h2 := TS_le X (l.take i)
  have h3 : ((l.take i).length : Int) ≤ 3000 := by rw [List.length_take]; omega
  have h4 : ((l.take i).length : Int) * BB M ≤ 3000 * BB M := Int.mul_le_mul_of_nonneg_right h3 (by have := BB_pos M; omega)
  have h5 := BB_succ M
  have h6 := BB_pos M
  constructor
  · rw [lenI_le]; omega
  · rw [lenI_le]; omega
end Go.AL
namespace Go.Proofs.YtfkjhjgihbnegaaGreat
open Go.AL

set_option maxHeartbeats 1000000 in
theorem rEval_ok (p : PZ) (X : List Int) (hw : WP p) (hp : OkP p) (hl : (X.length : Int) = p.vars) (M : Nat) (hM : M ≤ 30000) (hload : ∀ t ∈ p.terms, lenI (zval t.c) + loadE X t.e ≤ M) : PureFn Tryz.prog 24 [aP p, .sl 2 eX X] (.tup [aX (TS X p.terms), aB (!decide (Fit (AS X p.terms)))]) := by
  refine PureFn.of_body Tryz.func24 rfl Tryz.ntmps24 rfl rfl ?_
  have hv0 := hp.v0
  have hv1 := hp.v1
  have hlen := hp.len
  have htl : ∀ t ∈ p.terms, lenI (tv X t) ≤ M := fun t ht => Nat.le_trans (lenI_prodE _ _ _) (hload t ht)
  have hsl := AS_len (X := X) hlen htl
  repeat' (first |refine Fl.v rfl rfl rfl ?_ |refine Fl.nilF ?_ |refine AWP.seq ?_ |refine AWP.region ?_ |refine Fl.b rfl rfl rfl rfl ?_ |refine AWP.block ?_ |fail)
  refine AWP.loop (G := Nat) (fun i => i ≤ p.terms.length) (fun i => St.of [] [(1, .sl 2 eX X), (2, .ptr 2 0), (4, .ptr 4 0), (6, .ptr 6 0), (7, .ptr 7 0), (8, aB (!decide (Fit (AS X (p.terms.take i))))), (9, aN i)] [(2, .cells (eP p) 45), (4, .cells [aB false, .v (.slice none 0 0)] 58), (6, .cells (eX (TS X (p.terms.take i))) 58), (7, .cells (eX (AS X (p.terms.take i))) 58)]) (fun i => p.terms.length - i) 0 (by omega) ?_ ?_
  · refine Ent.of [] ?_ ?_ rfl rfl
    repeat' (first | exact True.intro |refine ⟨⟨AV.Le.refl _, rfl⟩, ?_⟩ |refine ⟨⟨⟨_, rfl, BLe.cells (LeL.refl _)⟩, rfl⟩, ?_⟩ |refine ⟨⟨⟨_, rfl, BLe.row rfl⟩, rfl⟩, ?_⟩ |refine ⟨⟨⟨_, rfl, BLe.row ?_⟩, rfl⟩, ?_⟩ |refine ⟨⟨⟨_, rfl, BLe.cells ?_⟩, rfl⟩, ?_⟩ |refine ⟨⟨AV.Le.int ?_, rfl⟩, ?_⟩ |refine ⟨⟨AV.Le.bool ?_, rfl⟩, ?_⟩ |refine ⟨⟨AV.Le.sl ?_, rfl⟩, ?_⟩ |refine ⟨⟨AV.Le.of_eq ?_, rfl⟩, ?_⟩ | fail)
    · simp [AS, sumL, Fit.zero]
    · exact leX_zero (by simp [TS, sumL])
    · exact leX_zero (by simp [AS, sumL])
  · intro i k0
    repeat' (first |refine Fl.v rfl rfl rfl ?_ |refine Fl.nilF ?_ |refine AWP.seq ?_ |refine AWP.region ?_ |refine Fl.b rfl rfl rfl rfl ?_ |(refine AWP.condD rfl ?_ ?_ <;> intro _ <;> try (exfalso; omega)) |refine AWP.block ?_ |refine AWP.skip ?_ |refine AWP.exit ?_ |refine AWP.ret ?_ |(refine Fl.el rfl rfl rfl rfl rfl rfl rfl rfl (by omega) (by omega) ?_; intro _ _) |fail)
    · rename_i hi t ht
      rw [Int.toNat_natCast] at ht
      have htm := List.mem_of_getElem? ht
      have hot := hp.terms t htm
      have hte : t.e.length = X.length := by have := hot.len; omega
      have hzc := zval_aZ (hw t htm) hot.coef
      have hld := hload t htm
      refine AWP.loop (G := Nat) (fun k => k ≤ X.length) (fun k => St.of [] [(1, .sl 2 eX X), (2, .ptr 2 0), (4, .ptr 4 0), (6, .ptr 6 0), (7, .ptr 7 0), (8, aB (!decide (Fit (AS X (p.terms.take i))))), (9, aN i), (10, .ptr 10 0), (11, .ptr 11 0), (12, aN k)] [(2, .cells (eP p) 45), (4, .cells [aB false, .v (.slice none 0 0)] 58), (6, .cells (eX (TS X (p.terms.take i))) 58), (7, .cells (eX (AS X (p.terms.take i))) 58), (10, .cells (eT t) 68), (11, .cells (eX (zval t.c * prodE (X.take k) (t.e.take k))) 58)]) (fun k => X.length - k) 0 (by omega) ?_ ?_
      · refine Ent.of [] ?_ ?_ rfl rfl
        repeat' (first | exact True.intro |refine ⟨⟨AV.Le.refl _, rfl⟩, ?_⟩ |refine ⟨⟨⟨_, rfl, BLe.cells (LeL.refl _)⟩, rfl⟩, ?_⟩ |refine ⟨⟨⟨_, rfl, BLe.row rfl⟩, rfl⟩, ?_⟩ |refine ⟨⟨⟨_, rfl, BLe.row ?_⟩, rfl⟩, ?_⟩ |refine ⟨⟨⟨_, rfl, BLe.cells ?_⟩, rfl⟩, ?_⟩ |refine ⟨⟨AV.Le.int ?_, rfl⟩, ?_⟩ |refine ⟨⟨AV.Le.bool ?_, rfl⟩, ?_⟩ |refine ⟨⟨AV.Le.sl ?_, rfl⟩, ?_⟩ |refine ⟨⟨AV.Le.of_eq ?_, rfl⟩, ?_⟩ | fail)
        exact leZ (by simp only [List.take_zero, prodE, Int.mul_one]; exact hzc)
      · intro k q0
        repeat' (first |refine Fl.v rfl rfl rfl ?_ |refine Fl.nilF ?_ |refine AWP.seq ?_ |refine AWP.region ?_ |(refine AWP.condD rfl ?_ ?_ <;> intro _ <;> try (exfalso; omega)) |refine AWP.block ?_ |refine AWP.skip ?_ |refine AWP.exit ?_ |fail)
        · rename_i hk
          obtain ⟨x, hx⟩ : ∃ x, X[k]? = some x := ⟨_, List.getElem?_eq_getElem (by omega)⟩
          obtain ⟨e, he⟩ : ∃ e, t.e[k]? = some e := ⟨_, List.getElem?_eq_getElem (by omega)⟩
          have heb := hot.exps.get he
          have hstep := prodE_snoc hx he
          have hlo := loadE_snoc hx he
          have hlt := loadE_take X t.e (k + 1)
          have hlv := lenI_prodE (zval t.c) (X.take k) (t.e.take k)
          have hek : k < t.e.length := by omega
          refine AWP.loop (G := Nat) (fun n => (n : Int) ≤ e) (fun n => St.of [] [(1, .sl 2 eX X), (2, .ptr 2 0), (4, .ptr 4 0), (6, .ptr 6 0), (7, .ptr 7 0), (8, aB (!decide (Fit (AS X (p.terms.take i))))), (9, aN i), (10, .ptr 10 0), (11, .ptr 11 0), (12, aN k), (13, aN n)] [(2, .cells (eP p) 45), (4, .cells [aB false, .v (.slice none 0 0)] 58), (6, .cells (eX (TS X (p.terms.take i))) 58), (7, .cells (eX (AS X (p.terms.take i))) 58), (10, .cells (eT t) 68), (11, .cells (eX (zval t.c * prodE (X.take k) (t.e.take k) * x ^ n)) 58)]) (fun n => e.toNat - n) 0 (by omega) ?_ ?_
          · refine Ent.of [] ?_ ?_ rfl rfl
            repeat' (first | exact True.intro |refine ⟨⟨AV.Le.refl _, rfl⟩, ?_⟩ |refine ⟨⟨⟨_, rfl, BLe.cells (LeL.refl _)⟩, rfl⟩, ?_⟩ |refine ⟨⟨⟨_, rfl, BLe.row rfl⟩, rfl⟩, ?_⟩ |refine ⟨⟨⟨_, rfl, BLe.row ?_⟩, rfl⟩, ?_⟩ |refine ⟨⟨⟨_, rfl, BLe.cells ?_⟩, rfl⟩, ?_⟩ |refine ⟨⟨AV.Le.int ?_, rfl⟩, ?_⟩ |refine ⟨⟨AV.Le.bool ?_, rfl⟩, ?_⟩ |refine ⟨⟨AV.Le.sl ?_, rfl⟩, ?_⟩ |refine ⟨⟨AV.Le.of_eq ?_, rfl⟩, ?_⟩ | fail)
            exact leX (by simp)
          · intro n n0
            repeat' (first |refine Fl.v rfl rfl rfl ?_ |refine Fl.nilF ?_ |refine AWP.seq ?_ |refine AWP.region ?_ |refine Fl.w rfl rfl rfl (by first | exact True.intro | omega) ?_ |(refine AWP.condD rfl ?_ ?_ <;> intro _ <;> try (exfalso; omega)) |refine AWP.block ?_ |refine AWP.skip ?_ |refine AWP.exit ?_ |refine Fl.elK rfl rfl rfl rfl rfl rfl rfl rfl (by assumption) (by omega) ?_ |fail)
            · rename_i hn
              have hl2 := lenI_mulpow (zval t.c * prodE (X.take k) (t.e.take k)) x n
              have hm : n * lenI x ≤ e.toNat * lenI x := Nat.mul_le_mul_right _ (by omega)
              have hm1 : 1 * lenI x ≤ e.toNat * lenI x := Nat.mul_le_mul_right _ (by omega)
              refine Fl.call rfl (rMul_ok (zval t.c * prodE (X.take k) (t.e.take k) * x ^ n) x (show lenI _ ≤ _ by omega) (show lenI _ ≤ _ by omega)) rfl rfl rfl (LeL.refl _) ?_
              repeat' (first |refine Fl.v rfl rfl rfl ?_ |refine Fl.nilF ?_ |refine Fl.nil (fun _ => by kernel_rfl) ?_ |refine AWP.region ?_ |refine Fl.w rfl rfl rfl (by first | exact True.intro | omega) ?_ |refine Fl.b rfl rfl rfl rfl ?_ |fail)
              refine LoopEnd.of (n + 1) (by omega) (by omega) ?_
              refine Ent.of [] ?_ ?_ rfl rfl
              repeat' (first | exact True.intro |refine ⟨⟨AV.Le.refl _, rfl⟩, ?_⟩ |refine ⟨⟨⟨_, rfl, BLe.cells (LeL.refl _)⟩, rfl⟩, ?_⟩ |refine ⟨⟨⟨_, rfl, BLe.row rfl⟩, rfl⟩, ?_⟩ |refine ⟨⟨⟨_, rfl, BLe.row ?_⟩, rfl⟩, ?_⟩ |refine ⟨⟨⟨_, rfl, BLe.cells ?_⟩, rfl⟩, ?_⟩ |refine ⟨⟨AV.Le.int ?_, rfl⟩, ?_⟩ |refine ⟨⟨AV.Le.bool ?_, rfl⟩, ?_⟩ |refine ⟨⟨AV.Le.sl ?_, rfl⟩, ?_⟩ |refine ⟨⟨AV.Le.of_eq ?_, rfl⟩, ?_⟩ | fail)
              exact leX (by rw [Int.pow_succ, Int.mul_assoc])
            · rename_i hn
              refine LoopEnd.of (k + 1) (by omega) (by omega) ?_
              refine Ent.of [] ?_ ?_ rfl rfl
              repeat' (first | exact True.intro |refine ⟨⟨AV.Le.refl _, rfl⟩, ?_⟩ |refine ⟨⟨⟨_, rfl, BLe.cells (LeL.refl _)⟩, rfl⟩, ?_⟩ |refine ⟨⟨⟨_, rfl, BLe.row rfl⟩, rfl⟩, ?_⟩ |refine ⟨⟨⟨_, rfl, BLe.row ?_⟩, rfl⟩, ?_⟩ |refine ⟨⟨⟨_, rfl, BLe.cells ?_⟩, rfl⟩, ?_⟩ |refine ⟨⟨AV.Le.int ?_, rfl⟩, ?_⟩ |refine ⟨⟨AV.Le.bool ?_, rfl⟩, ?_⟩ |refine ⟨⟨AV.Le.sl ?_, rfl⟩, ?_⟩ |refine ⟨⟨AV.Le.of_eq ?_, rfl⟩, ?_⟩ | fail)
              exact leX (by rw [hstep, Int.mul_assoc, show n = e.toNat by omega])
        · rename_i hk
          have hc1 : X.take k = X := List.take_of_length_le (by omega)
          have hc2 : t.e.take k = t.e := List.take_of_length_le (by omega)
          have hv : zval t.c * prodE (X.take k) (t.e.take k) = tv X t := by rw [hc1, hc2]; rfl
          have hvl := htl t htm
          have hts := TS_succ (X := X) ht
          have has := AS_succ (X := X) ht
          have hl0 := hsl i
          have hb1 := AS_take X p.terms i
          have hb2 := AS_take X p.terms (i + 1)
          refine Fl.call rfl (rAdd_ok (TS X (p.terms.take i)) _ (show lenI _ ≤ _ by omega) (show lenI _ ≤ _ by rw [hv]; omega)) rfl rfl rfl (LeL.refl _) ?_
          repeat' (first |refine Fl.v rfl rfl rfl ?_ |fail)
          refine Fl.call rfl (rAbs_ok (zval t.c * prodE (X.take k) (t.e.take k)) (show lenI _ ≤ _ by rw [hv]; omega)) rfl rfl rfl (LeL.refl _) ?_
          skip
          refine Fl.call rfl (rAdd_ok (AS X (p.terms.take i)) _ (show lenI _ ≤ _ by omega) (show lenI _ ≤ _ by rw [hv]; unfold lenI at hvl ⊢; rw [Int.natAbs_natCast]; omega)) rfl rfl rfl (LeL.refl _) ?_
          repeat' (first |refine Fl.v rfl rfl rfl ?_ |refine Fl.nilF ?_ |refine Fl.nil (fun _ => by kernel_rfl) ?_ |refine AWP.region ?_ |refine Fl.w rfl rfl rfl (by first | exact True.intro | omega) ?_ |refine Fl.b rfl rfl rfl rfl ?_ |refine Fl.skip rfl rfl ?_ |(refine Fl.splitN rfl rfl ?_ ?_ <;> intro _ <;> try (exfalso; omega)) |fail)
          · rename_i hnf
            have hnf2 : ¬ Fit (AS X (p.terms.take (i + 1))) := fun h => hnf (h.le (by omega))
            refine LoopEnd.of (i + 1) (by omega) (by omega) ?_
            refine Ent.of [] ?_ ?_ rfl rfl
            repeat' (first | exact True.intro |refine ⟨⟨AV.Le.refl _, rfl⟩, ?_⟩ |refine ⟨⟨⟨_, rfl, BLe.cells (LeL.refl _)⟩, rfl⟩, ?_⟩ |refine ⟨⟨⟨_, rfl, BLe.row rfl⟩, rfl⟩, ?_⟩ |refine ⟨⟨⟨_, rfl, BLe.row ?_⟩, rfl⟩, ?_⟩ |refine ⟨⟨⟨_, rfl, BLe.cells ?_⟩, rfl⟩, ?_⟩ |refine ⟨⟨AV.Le.int ?_, rfl⟩, ?_⟩ |refine ⟨⟨AV.Le.bool ?_, rfl⟩, ?_⟩ |refine ⟨⟨AV.Le.sl ?_, rfl⟩, ?_⟩ |refine ⟨⟨AV.Le.of_eq ?_, rfl⟩, ?_⟩ | fail)
            · rw [decide_eq_false hnf2]; rfl
            · exact leX (by rw [hts, hv])
            · exact leX (by rw [has, hv])
          · rename_i hf
            refine Fl.call rfl (rFits_ok (AS X (p.terms.take i) + ((zval t.c * prodE (X.take k) (t.e.take k)).natAbs : Int))) rfl rfl rfl (LeL.refl _) ?_
            repeat' (first |refine Fl.v rfl rfl rfl ?_ |refine Fl.nilF ?_ |refine AWP.region ?_ |refine Fl.w rfl rfl rfl (by first | exact True.intro | omega) ?_ |fail)
            refine LoopEnd.of (i + 1) (by omega) (by omega) ?_
            refine Ent.of [] ?_ ?_ rfl rfl
            repeat' (first | exact True.intro |refine ⟨⟨AV.Le.refl _, rfl⟩, ?_⟩ |refine ⟨⟨⟨_, rfl, BLe.cells (LeL.refl _)⟩, rfl⟩, ?_⟩ |refine ⟨⟨⟨_, rfl, BLe.row rfl⟩, rfl⟩, ?_⟩ |refine ⟨⟨⟨_, rfl, BLe.row ?_⟩, rfl⟩, ?_⟩ |refine ⟨⟨⟨_, rfl, BLe.cells ?_⟩, rfl⟩, ?_⟩ |refine ⟨⟨AV.Le.int ?_, rfl⟩, ?_⟩ |refine ⟨⟨AV.Le.bool ?_, rfl⟩, ?_⟩ |refine ⟨⟨AV.Le.sl ?_, rfl⟩, ?_⟩ |refine ⟨⟨AV.Le.of_eq ?_, rfl⟩, ?_⟩ | fail)
            · rw [has, hv]
            · exact leX (by rw [hts, hv])
            · exact leX (by rw [has, hv])
    · rename_i hi
      have hti : p.terms.take i = p.terms := List.take_of_length_le (by omega)
      rw [hti]
      exact RetOk.of rfl (AV.Le.refl _)
end Go.Proofs.YtfkjhjgihbnegaaGreat
namespace Go.AL
/-- the reference finds values -/
def AsL (X : List Int) (l : LZ) : Prop := ∀ p ∈ l.polys, Fit (AS (atOf X l.vars) p.terms)
def LoadL (M : Nat) (X : List Int) (l : LZ) : Prop := ∀ p ∈ l.polys, ∀ t ∈ p.terms, lenI (zval t.c) + loadE (atOf X l.vars) t.e ≤ M
def rvR (f : LZ → Bool) (X : List Int) : List LZ → Int → Int × Bool
  | [], o => (o, true)
  | l :: ls, o => if f l then (if Fit (fv X l * fv X l) ∧ Fit (o + fv X l * fv X l) then rvR f X ls (o + fv X l * fv X l) else (o + fv X l * fv X l, false)) else (o, false)
theorem rvR_drop {f : LZ → Bool} {X : List Int} {ls : List LZ} {i : Nat} {l : LZ} (h : ls[i]? = some l) (o : Int) : rvR f X (ls.drop i) o = if f l then (if Fit (fv X l * fv X l) ∧ Fit (o + fv X l * fv X l) then rvR f X (ls.drop (i + 1)) (o + fv X l * fv X l) else (o + fv X l * fv X l, false)) else (o, false) := by
  have hi := (List.getElem?_eq_some_iff.1 h).1
  rw [List.drop_eq_getElem_cons hi, (List.getElem?_eq_some_iff.1 h).2]
  rfl
end Go.AL
namespace Go.Proofs.YtfkjhjgihbnegaaGreat
open Go.AL

theorem rvalues_ok (l : LZ) (X : List Int) (hw : WL l) (hL : OkL X.length l) (M : Nat) (hM : M ≤ 30000) (hload : LoadL M X l) (r : AV) (hr1 : AsL X l → r = .tup [.sl 2 eX (lvals X l), aB true]) (hr2 : ¬ AsL X l → r = .tup [.v (.slice none 0 0), aB false]) :
    PureFn Tryz.prog 43 [aL l, .sl 2 eX X] r := by
  refine PureFn.of_body Tryz.func43 rfl Tryz.ntmps43 rfl rfl ?_
  have hvl := hL.vlen
  have hn3 : needI l.kind ≤ 3 := by unfold needI; repeat' split <;> omega
  have hpl := hL.len
  have hla : (atOf X l.vars).length = l.vars.length := by simp [atOf]
  repeat' (first |refine Fl.v rfl rfl rfl ?_ |refine Fl.nilF ?_ |refine AWP.seq ?_ |refine AWP.region ?_ |refine Fl.b rfl rfl rfl rfl ?_ |refine AWP.block ?_ |fail)
  refine AWP.ent (Ent.nilrow 6 806 rfl rfl 2 eX 58) ?_
  refine AWP.loop (G := Nat) (fun i => i ≤ l.vars.length) (fun i => St.of [] [(1, .sl 2 eX X), (2, .ptr 2 0), (6, .row 6), (7, .v (.slice none 0 0)), (8, aN i)] [(2, .cells (eL l) 51), (6, .row 2 eX (atOf X (l.vars.take i)) 58)]) (fun i => l.vars.length - i) 0 (by omega) ?_ ?_
  · refine Ent.of [(6, 806)] ?_ ?_ rfl rfl
    repeat' (first | exact True.intro |refine ⟨⟨AV.Le.refl _, rfl⟩, ?_⟩ |refine ⟨⟨⟨_, rfl, BLe.cells (LeL.refl _)⟩, rfl⟩, ?_⟩ |refine ⟨⟨⟨_, rfl, BLe.row rfl⟩, rfl⟩, ?_⟩ |refine ⟨⟨⟨_, rfl, BLe.row ?_⟩, rfl⟩, ?_⟩ |refine ⟨⟨⟨_, rfl, BLe.cells ?_⟩, rfl⟩, ?_⟩ |refine ⟨⟨AV.Le.int ?_, rfl⟩, ?_⟩ |refine ⟨⟨AV.Le.bool ?_, rfl⟩, ?_⟩ |refine ⟨⟨AV.Le.sl ?_, rfl⟩, ?_⟩ |refine ⟨⟨AV.Le.of_eq ?_, rfl⟩, ?_⟩ | fail)
  · intro i k0
    have hli : (atOf X (l.vars.take i)).length = i := by simp [atOf]; omega
    by_cases hi : i < l.vars.length
    · obtain ⟨v, hv⟩ : ∃ v, l.vars[i]? = some v := ⟨_, List.getElem?_eq_getElem hi⟩
      have hvb := incB_mem hL.inc (List.mem_of_getElem? hv)
      repeat' (first |refine Fl.v rfl rfl rfl ?_ |refine Fl.nilF ?_ |refine AWP.seq ?_ |refine AWP.region ?_ |(refine AWP.condD rfl ?_ ?_ <;> intro _ <;> try (exfalso; omega)) |refine AWP.block ?_ |refine AWP.skip ?_ |refine Fl.elK rfl rfl rfl rfl rfl rfl rfl rfl (by assumption) (by omega) ?_ |(refine Fl.el rfl rfl rfl rfl rfl rfl rfl rfl (by omega) (by omega) ?_; intro _ _) |fail)
      rename_i x hx
      refine Fl.lit rfl rfl rfl rfl rfl eX [x] rfl rfl rfl rfl (by intro _ _; rfl) rfl ?_
      skip
      refine Fl.ap rfl rfl rfl rfl rfl rfl rfl rfl rfl rfl rfl rfl rfl (fun _ => rfl) (fun _ => rfl) (AV.Le.refl _) (by dsimp only [List.length_nil, List.length_cons]; omega) (by simp; omega) ?_
      repeat' (first |refine Fl.v rfl rfl rfl ?_ |refine Fl.nilF ?_ |refine AWP.region ?_ |refine Fl.w rfl rfl rfl (by first | exact True.intro | omega) ?_ |fail)
      refine LoopEnd.of (i + 1) (by omega) (by omega) ?_
      refine Ent.of [(6, 29)] ?_ ?_ rfl rfl
      repeat' (first | exact True.intro |refine ⟨⟨AV.Le.refl _, rfl⟩, ?_⟩ |refine ⟨⟨⟨_, rfl, BLe.cells (LeL.refl _)⟩, rfl⟩, ?_⟩ |refine ⟨⟨⟨_, rfl, BLe.row rfl⟩, rfl⟩, ?_⟩ |refine ⟨⟨⟨_, rfl, BLe.row ?_⟩, rfl⟩, ?_⟩ |refine ⟨⟨⟨_, rfl, BLe.cells ?_⟩, rfl⟩, ?_⟩ |refine ⟨⟨AV.Le.int ?_, rfl⟩, ?_⟩ |refine ⟨⟨AV.Le.bool ?_, rfl⟩, ?_⟩ |refine ⟨⟨AV.Le.sl ?_, rfl⟩, ?_⟩ |refine ⟨⟨AV.Le.of_eq ?_, rfl⟩, ?_⟩ | fail)
      exact (atOf_snoc hv hx).symm
    · repeat' (first |refine Fl.v rfl rfl rfl ?_ |refine Fl.nilF ?_ |refine AWP.seq ?_ |refine AWP.region ?_ |(refine AWP.condD rfl ?_ ?_ <;> intro _ <;> try (exfalso; omega)) |refine AWP.block ?_ |refine AWP.exit ?_ |fail)
      rename_i hi2
      have hti : l.vars.take i = l.vars := List.take_of_length_le (by omega)
      refine AWP.ent (Ent.freeze 6 rfl) ?_
      refine AWP.ent (Ent.nilrow 7 807 rfl rfl 2 eX 58) ?_
      refine AWP.loop (G := Nat) (fun j => j ≤ l.polys.length ∧ ∀ p ∈ l.polys.take j, Fit (AS (atOf X l.vars) p.terms)) (fun j => St.of [] [(2, .ptr 2 0), (6, .sl 2 eX (atOf X l.vars)), (7, .row 7), (9, aN j)] [(2, .cells (eL l) 51), (7, .row 2 eX ((l.polys.take j).map (pv (atOf X l.vars))) 58)]) (fun j => l.polys.length - j) 0 ⟨by omega, by simp⟩ ?_ ?_
      · refine Ent.of [(7, 807)] ?_ ?_ rfl rfl
        repeat' (first | exact True.intro |refine ⟨⟨AV.Le.refl _, rfl⟩, ?_⟩ |refine ⟨⟨⟨_, rfl, BLe.cells (LeL.refl _)⟩, rfl⟩, ?_⟩ |refine ⟨⟨⟨_, rfl, BLe.row rfl⟩, rfl⟩, ?_⟩ |refine ⟨⟨⟨_, rfl, BLe.row ?_⟩, rfl⟩, ?_⟩ |refine ⟨⟨⟨_, rfl, BLe.cells ?_⟩, rfl⟩, ?_⟩ |refine ⟨⟨AV.Le.int ?_, rfl⟩, ?_⟩ |refine ⟨⟨AV.Le.bool ?_, rfl⟩, ?_⟩ |refine ⟨⟨AV.Le.sl ?_, rfl⟩, ?_⟩ |refine ⟨⟨AV.Le.of_eq ?_, rfl⟩, ?_⟩ | fail)
        rw [hti]
      · clear hi hi2 hti hli k0 i; intro j ⟨k0, k1⟩
        have hlj : ((l.polys.take j).map (pv (atOf X l.vars))).length = j := by simp; omega
        repeat' (first |refine Fl.v rfl rfl rfl ?_ |refine Fl.nilF ?_ |refine AWP.seq ?_ |refine AWP.region ?_ |(refine AWP.condD rfl ?_ ?_ <;> intro _ <;> try (exfalso; omega)) |refine AWP.block ?_ |refine AWP.skip ?_ |refine AWP.exit ?_ |refine AWP.ret ?_ |(refine Fl.el rfl rfl rfl rfl rfl rfl rfl rfl (by omega) (by omega) ?_; intro _ _) |fail)
        · rename_i hj p hp
          rw [Int.toNat_natCast] at hp
          have hpm := List.mem_of_getElem? hp
          have hpo := hL.polys p hpm
          have hev := rEval_ok p (atOf X l.vars) (hw p hpm) hpo.2 (by rw [hla]; exact hpo.1.symm) M hM (hload p hpm)
          rw [TS_eq] at hev
          by_cases he : Fit (AS (atOf X l.vars) p.terms)
          · rw [decide_eq_true he] at hev
            have hft : Fit (pv (atOf X l.vars) p) := by rw [← TS_eq]; exact he.le (TS_le _ _).1
            refine Fl.call rfl (hev) rfl rfl rfl (LeL.refl _) ?_
            repeat' (first |refine Fl.v rfl rfl rfl ?_ |refine Fl.nilF ?_ |refine AWP.seq ?_ |refine AWP.region ?_ |refine Fl.b rfl rfl rfl rfl ?_ |fail)
            have hfi := rFits_ok (pv (atOf X l.vars) p)
            rw [decide_eq_true hft] at hfi
            refine Fl.call rfl (hfi) rfl rfl rfl (LeL.refl _) ?_
            repeat' (first |refine Fl.v rfl rfl rfl ?_ |refine Fl.nilF ?_ |refine AWP.region ?_ |refine AWP.condF rfl ?_ |refine AWP.skip ?_ |fail)
            refine Fl.lit rfl rfl rfl rfl rfl eX [pv (atOf X l.vars) p] rfl rfl rfl rfl (by intro _ _; rfl) rfl ?_
            skip
            refine Fl.ap rfl rfl rfl rfl rfl rfl rfl rfl rfl rfl rfl rfl rfl (fun _ => rfl) (fun _ => rfl) (AV.Le.refl _) (by dsimp only [List.length_nil, List.length_cons]; omega) (by simp; omega) ?_
            repeat' (first |refine Fl.v rfl rfl rfl ?_ |refine Fl.nilF ?_ |refine AWP.region ?_ |refine Fl.w rfl rfl rfl (by first | exact True.intro | omega) ?_ |fail)
            refine LoopEnd.of (j + 1) ⟨by omega, all_take_succ hp k1 he⟩ (by omega) ?_
            refine Ent.of [(7, 56)] ?_ ?_ rfl rfl
            repeat' (first | exact True.intro |refine ⟨⟨AV.Le.refl _, rfl⟩, ?_⟩ |refine ⟨⟨⟨_, rfl, BLe.cells (LeL.refl _)⟩, rfl⟩, ?_⟩ |refine ⟨⟨⟨_, rfl, BLe.row rfl⟩, rfl⟩, ?_⟩ |refine ⟨⟨⟨_, rfl, BLe.row ?_⟩, rfl⟩, ?_⟩ |refine ⟨⟨⟨_, rfl, BLe.cells ?_⟩, rfl⟩, ?_⟩ |refine ⟨⟨AV.Le.int ?_, rfl⟩, ?_⟩ |refine ⟨⟨AV.Le.bool ?_, rfl⟩, ?_⟩ |refine ⟨⟨AV.Le.sl ?_, rfl⟩, ?_⟩ |refine ⟨⟨AV.Le.of_eq ?_, rfl⟩, ?_⟩ | fail)
            rw [take_snoc hp, List.map_append]; rfl
          · rw [decide_eq_false he] at hev
            rw [hr2 fun h => he (h p hpm)]
            refine Fl.call rfl (hev) rfl rfl rfl (LeL.refl _) ?_
            repeat' (first |refine Fl.v rfl rfl rfl ?_ |refine Fl.nilF ?_ |refine AWP.seq ?_ |refine AWP.region ?_ |refine Fl.b rfl rfl rfl rfl ?_ |refine Fl.skip rfl rfl ?_ |refine AWP.condT rfl ?_ |refine AWP.ret ?_ |fail)
            exact RetOk.of rfl (AV.Le.refl _)
        · rename_i hj
          have htj : l.polys.take j = l.polys := List.take_of_length_le (by omega)
          rw [htj] at k1
          rw [hr1 k1]
          refine RetOk.ent (Ent.freeze 7 rfl) ?_
          refine RetOk.of rfl ?_
          rw [htj]
          exact AV.Le.refl _
end Go.Proofs.YtfkjhjgihbnegaaGreat
namespace Go.AL
theorem Fit.lenI {x : Int} (h : Fit x) : lenI x ≤ 4096 := h.len
theorem lvals_fitA {X : List Int} {l : LZ} (h : AsL X l) : ∀ x ∈ lvals X l, Fit x := fun x hx => by
  obtain ⟨p, hp, rfl⟩ := List.mem_map.1 hx
  rw [← TS_eq]
  exact (h p hp).le (TS_le _ _).1
end Go.AL
namespace Go.Proofs.YtfkjhjgihbnegaaGreat
open Go.AL

theorem rValue_ok (s : SZ) (X : List Int) (hw : WS s) (hL : ∀ l ∈ s.links, OkL X.length l ∧ l.kind = 0) (hsl : s.links.length ≤ 1000000) (M : Nat) (hM : M ≤ 30000) (hload : ∀ l ∈ s.links, LoadL M X l) (f : LZ → Bool) (hf : ∀ l, f l = true ↔ AsL X l) :
    PureFn Tryz.prog 27 [aS s, .sl 2 eX X] (.tup [aX (rvR f X s.links 0).1, aB (rvR f X s.links 0).2]) := by
  refine PureFn.of_body Tryz.func27 rfl Tryz.ntmps27 rfl rfl ?_
  repeat' (first |refine Fl.v rfl rfl rfl ?_ |refine Fl.nilF ?_ |refine AWP.seq ?_ |refine AWP.region ?_ |refine Fl.b rfl rfl rfl rfl ?_ |refine AWP.block ?_ |fail)
  refine AWP.loop (G := Nat × Int) (fun (i, o) => i ≤ s.links.length ∧ Fit o ∧ rvR f X (s.links.drop i) o = rvR f X s.links 0) (fun (i, o) => St.of [] [(1, .sl 2 eX X), (2, .ptr 2 0), (4, .ptr 4 0), (6, .ptr 6 0), (7, aN i)] [(2, .cells [aN s.vars, .sl 3 eL s.links] 24), (4, .cells [aB false, .v (.slice none 0 0)] 58), (6, .cells (eX o) 58)]) (fun (i, o) => s.links.length - i) (0, 0) ⟨by omega, Fit.zero, rfl⟩ ?_ ?_
  · refine Ent.of [] ?_ ?_ rfl rfl
    repeat' (first | exact True.intro |refine ⟨⟨AV.Le.refl _, rfl⟩, ?_⟩ |refine ⟨⟨⟨_, rfl, BLe.cells (LeL.refl _)⟩, rfl⟩, ?_⟩ |refine ⟨⟨⟨_, rfl, BLe.row rfl⟩, rfl⟩, ?_⟩ |refine ⟨⟨⟨_, rfl, BLe.row ?_⟩, rfl⟩, ?_⟩ |refine ⟨⟨⟨_, rfl, BLe.cells ?_⟩, rfl⟩, ?_⟩ |refine ⟨⟨AV.Le.int ?_, rfl⟩, ?_⟩ |refine ⟨⟨AV.Le.bool ?_, rfl⟩, ?_⟩ |refine ⟨⟨AV.Le.sl ?_, rfl⟩, ?_⟩ |refine ⟨⟨AV.Le.of_eq ?_, rfl⟩, ?_⟩ | fail)
    exact leX_zero rfl
  · intro ⟨i, o⟩ ⟨k0, k1, k2⟩
    repeat' (first |refine Fl.v rfl rfl rfl ?_ |refine Fl.nilF ?_ |refine AWP.seq ?_ |refine AWP.region ?_ |refine Fl.b rfl rfl rfl rfl ?_ |(refine AWP.condD rfl ?_ ?_ <;> intro _ <;> try (exfalso; omega)) |refine AWP.block ?_ |refine AWP.skip ?_ |refine AWP.exit ?_ |refine AWP.ret ?_ |(refine Fl.el rfl rfl rfl rfl rfl rfl rfl rfl (by omega) (by omega) ?_; intro _ _) |fail)
    · rename_i hi l hl
      rw [Int.toNat_natCast] at hl
      have hlm := List.mem_of_getElem? hl
      obtain ⟨hLl, hk⟩ := hL l hlm
      rw [rvR_drop hl] at k2
      have hvs := fun r h1 h2 => rvalues_ok l X (hw l hlm) hLl M hM (hload l hlm) r h1 h2
      by_cases he : AsL X l
      · rw [if_pos ((hf l).2 he)] at k2
        have hvs1 := hvs _ (fun _ => rfl) (fun h => absurd he h)
        have hpl := hLl.len
        rw [hk] at hpl
        have hpl : (lvals X l).length = 1 := by rw [lvals, List.length_map]; have : (l.polys.length : Int) = 1 := hpl; omega
        have hg0 : (lvals X l)[(0 : Int).toNat]? = some (fv X l) := by
          show (lvals X l)[0]? = some (fv X l)
          unfold fv
          rw [List.getD_eq_getElem?_getD, List.getElem?_eq_getElem (show 0 < (lvals X l).length by omega)]; rfl
        have hfx : Fit (fv X l) := lvals_fitA he _ (List.mem_of_getElem? hg0)
        have l1 := hfx.lenI
        have l2 := lenI_mul (fv X l) (fv X l)
        have l3 := k1.lenI
        refine Fl.call rfl (hvs1) rfl rfl rfl (LeL.refl _) ?_
        repeat' (first |refine Fl.v rfl rfl rfl ?_ |refine Fl.nilF ?_ |refine AWP.seq ?_ |refine AWP.region ?_ |refine AWP.condF rfl ?_ |refine AWP.skip ?_ |refine Fl.elK rfl rfl rfl rfl rfl rfl rfl rfl (by assumption) (by omega) ?_ |fail)
        refine Fl.call rfl (rMul_ok (fv X l) (fv X l) (show lenI _ ≤ _ by omega) (show lenI _ ≤ _ by omega)) rfl rfl rfl (LeL.refl _) ?_
        repeat' (first |refine Fl.v rfl rfl rfl ?_ |refine Fl.nil (fun _ => by kernel_rfl) ?_ |refine AWP.seq ?_ |refine AWP.region ?_ |refine Fl.b rfl rfl rfl rfl ?_ |fail)
        refine Fl.call rfl (rAdd_ok o (fv X l * fv X l) (show lenI _ ≤ _ by omega) (show lenI _ ≤ _ by omega)) rfl rfl rfl (LeL.refl _) ?_
        repeat' (first |refine Fl.v rfl rfl rfl ?_ |refine Fl.nilF ?_ |refine AWP.seq ?_ |refine AWP.region ?_ |refine Fl.b rfl rfl rfl rfl ?_ |fail)
        have hf1 := rFits_ok (fv X l * fv X l)
        have hf2 := rFits_ok (o + fv X l * fv X l)
        by_cases h1 : Fit (fv X l * fv X l)
        · rw [decide_eq_true h1] at hf1
          refine Fl.call rfl (hf1) rfl rfl rfl (LeL.refl _) ?_
          repeat' (first |refine Fl.v rfl rfl rfl ?_ |fail)
          by_cases h2 : Fit (o + fv X l * fv X l)
          · rw [decide_eq_true h2] at hf2
            rw [if_pos ⟨h1, h2⟩] at k2
            refine Fl.call rfl (hf2) rfl rfl rfl (LeL.refl _) ?_
            repeat' (first |refine Fl.v rfl rfl rfl ?_ |refine Fl.nilF ?_ |refine AWP.region ?_ |refine Fl.w rfl rfl rfl (by first | exact True.intro | omega) ?_ |refine AWP.condF rfl ?_ |refine AWP.skip ?_ |fail)
            refine LoopEnd.of (i + 1, o + fv X l * fv X l) ⟨by omega, h2, k2⟩ (by simp only; omega) ?_
            refine Ent.of [] ?_ ?_ rfl rfl
            repeat' (first | exact True.intro |refine ⟨⟨AV.Le.refl _, rfl⟩, ?_⟩ |refine ⟨⟨⟨_, rfl, BLe.cells (LeL.refl _)⟩, rfl⟩, ?_⟩ |refine ⟨⟨⟨_, rfl, BLe.row rfl⟩, rfl⟩, ?_⟩ |refine ⟨⟨⟨_, rfl, BLe.row ?_⟩, rfl⟩, ?_⟩ |refine ⟨⟨⟨_, rfl, BLe.cells ?_⟩, rfl⟩, ?_⟩ |refine ⟨⟨AV.Le.int ?_, rfl⟩, ?_⟩ |refine ⟨⟨AV.Le.bool ?_, rfl⟩, ?_⟩ |refine ⟨⟨AV.Le.sl ?_, rfl⟩, ?_⟩ |refine ⟨⟨AV.Le.of_eq ?_, rfl⟩, ?_⟩ | fail)
          · rw [decide_eq_false h2] at hf2
            rw [if_neg fun h => h2 h.2] at k2
            rw [← k2]
            refine Fl.call rfl (hf2) rfl rfl rfl (LeL.refl _) ?_
            repeat' (first |refine Fl.v rfl rfl rfl ?_ |refine Fl.nilF ?_ |refine AWP.seq ?_ |refine AWP.region ?_ |refine Fl.b rfl rfl rfl rfl ?_ |refine AWP.condT rfl ?_ |refine AWP.ret ?_ |fail)
            exact RetOk.of rfl (AV.Le.refl _)
        · rw [decide_eq_false h1] at hf1
          rw [if_neg fun h => h1 h.1] at k2
          rw [← k2]
          refine Fl.call rfl (hf1) rfl rfl rfl (LeL.refl _) ?_
          repeat' (first |refine Fl.v rfl rfl rfl ?_ |refine Fl.nilF ?_ |refine AWP.seq ?_ |refine AWP.region ?_ |refine Fl.b rfl rfl rfl rfl ?_ |refine Fl.skip rfl rfl ?_ |refine AWP.condT rfl ?_ |refine AWP.ret ?_ |fail)
          exact RetOk.of rfl (AV.Le.refl _)
      · rw [if_neg (fun h => he ((hf l).1 h))] at k2
        have hvs1 := hvs _ (fun h => absurd h he) (fun _ => rfl)
        refine Fl.call rfl (hvs1) rfl rfl rfl (LeL.refl _) ?_
        repeat' (first |refine Fl.v rfl rfl rfl ?_ |refine Fl.nilF ?_ |refine AWP.seq ?_ |refine AWP.region ?_ |refine Fl.b rfl rfl rfl rfl ?_ |refine AWP.condT rfl ?_ |refine AWP.ret ?_ |fail)
        rw [← k2]
        exact RetOk.of rfl (AV.Le.refl _)
    · rename_i hi
      rw [List.drop_of_length_le (by omega)] at k2
      rw [← k2]
      exact RetOk.of rfl (AV.Le.refl _)

/-- a variable's exponents -/
def unitE (n i : Nat) : List Int := (List.replicate n 0).set i 1
def pVar (n i : Nat) : PZ := ⟨n, [⟨zOf 1, unitE n i⟩]⟩
theorem rVar_ok (n i : Nat) (hi : i < n) (hn : n ≤ 1000) : PureFn Tryz.prog 69 [aN n, aN i] (aP (pVar n i)) := by
  refine PureFn.of_body Tryz.func69 rfl Tryz.ntmps69 rfl rfl ?_
  refine AWP.seqS ?_
  repeat' (first |refine Fl.nilF ?_ |refine AWP.region ?_ |refine Fl.b rfl rfl rfl rfl ?_ |fail)
  refine ⟨AWP.seqS ?_⟩
  repeat' (first |refine Fl.v rfl rfl rfl ?_ |refine Fl.nilF ?_ |refine AWP.region ?_ |refine Fl.make rfl rfl rfl rfl rfl rfl rfl rfl rfl rfl eI 0 (by exact LeL.refl _) (by rfl) (by first | omega | (dsimp only; omega)) (by first | omega | (dsimp only; omega)) (by first | omega | (dsimp only; omega)) ?_ |fail)
  refine ⟨AWP.seqS ?_⟩
  repeat' (first |refine Fl.v rfl rfl rfl ?_ |refine Fl.nilF ?_ |refine AWP.region ?_ |refine Fl.rel rfl rfl rfl rfl rfl rfl rfl rfl (by omega) (by first | omega | (simp; omega)) ?_ |refine Fl.rst rfl rfl rfl rfl rfl rfl rfl rfl rfl rfl rfl (LeL.refl _) rfl (by first | omega | (simp; omega)) ?_ |fail)
  refine ⟨?_⟩
  refine AWP.ent (Ent.freeze 7 rfl) ?_
  repeat' (first |refine Fl.v rfl rfl rfl ?_ |refine AWP.seq ?_ |refine AWP.region ?_ |fail)
  refine Fl.call rfl (rOf_ok 1 (by omega) (by omega)) rfl rfl rfl (LeL.refl _) ?_
  repeat' (first |refine Fl.v rfl rfl rfl ?_ |refine Fl.b rfl rfl rfl rfl ?_ |fail)
  refine Fl.lit rfl rfl rfl rfl rfl eT [⟨zOf 1, unitE n i⟩] rfl rfl rfl rfl (by intro _ _; rfl) rfl ?_
  repeat' (first |refine Fl.nilF ?_ |refine Fl.b rfl rfl rfl rfl ?_ |refine AWP.ret ?_ |fail)
  exact RetOk.of rfl (AV.Le.refl _)
end Go.Proofs.YtfkjhjgihbnegaaGreat
namespace Go.AL
/-- the reference's order of exponents -/
def ordX (x y : Int) : List Int → List Int → Int
  | a :: l, b :: m => if x = y then ordX a b l m else cmpI x y
  | _, _ => cmpI x y
def rOrd (a b : List Int) : Int := ordX (sumL a) (sumL b) a b
theorem ordX_drop {x y : Int} {a b : List Int} {i : Nat} {u v : Int} (ha : a[i]? = some u) (hb : b[i]? = some v) : ordX x y (a.drop i) (b.drop i) = if x = y then ordX u v (a.drop (i + 1)) (b.drop (i + 1)) else cmpI x y := by
  rw [List.drop_eq_getElem_cons (List.getElem?_eq_some_iff.1 ha).1, List.drop_eq_getElem_cons (List.getElem?_eq_some_iff.1 hb).1, (List.getElem?_eq_some_iff.1 ha).2, (List.getElem?_eq_some_iff.1 hb).2]
  rfl
theorem ordX_ne {x y : Int} (h : x ≠ y) : ∀ (a b : List Int), ordX x y a b = cmpI x y
  | [], _ => rfl
  | _ :: _, [] => rfl
  | _ :: _, _ :: _ => if_neg h
theorem ordX_nil {x y : Int} (b : List Int) : ordX x y [] b = cmpI x y := rfl
/-- terms brought together -/
def keepT (t : TZ) (l : List TZ) : List TZ := if t.c.w.length = 0 then l else t :: l
def sumT (a b : TZ) : TZ := ⟨zOf (zval a.c + zval b.c), a.e⟩
def mergeT : List TZ → List TZ → List TZ
  | [], [] => []
  | a :: l, [] => keepT a (mergeT l [])
  | [], b :: m => keepT b (mergeT [] m)
  | a :: l, b :: m => if rOrd a.e b.e = 1 then keepT a (mergeT l (b :: m)) else if rOrd a.e b.e = -1 then keepT b (mergeT (a :: l) m) else keepT (sumT a b) (mergeT l m)
  termination_by a b => a.length + b.length
theorem mergeT_a {a b : List TZ} {i k : Nat} {t : TZ} (h : a[i]? = some t) (hk : b.length ≤ k) : mergeT (a.drop i) (b.drop k) = keepT t (mergeT (a.drop (i + 1)) (b.drop k)) := by
  rw [List.drop_eq_getElem_cons (List.getElem?_eq_some_iff.1 h).1, (List.getElem?_eq_some_iff.1 h).2, List.drop_of_length_le hk, mergeT]
theorem mergeT_b {a b : List TZ} {i k : Nat} {t : TZ} (h : b[k]? = some t) (hk : a.length ≤ i) : mergeT (a.drop i) (b.drop k) = keepT t (mergeT (a.drop i) (b.drop (k + 1))) := by
  rw [List.drop_eq_getElem_cons (List.getElem?_eq_some_iff.1 h).1, (List.getElem?_eq_some_iff.1 h).2, List.drop_of_length_le hk, mergeT]
theorem mergeT_c {a b : List TZ} {i k : Nat} {t u : TZ} (h : a[i]? = some t) (h2 : b[k]? = some u) : mergeT (a.drop i) (b.drop k) = if rOrd t.e u.e = 1 then keepT t (mergeT (a.drop (i + 1)) (b.drop k)) else if rOrd t.e u.e = -1 then keepT u (mergeT (a.drop i) (b.drop (k + 1))) else keepT (sumT t u) (mergeT (a.drop (i + 1)) (b.drop (k + 1))) := by
  rw [List.drop_eq_getElem_cons (List.getElem?_eq_some_iff.1 h).1, (List.getElem?_eq_some_iff.1 h).2, List.drop_eq_getElem_cons (List.getElem?_eq_some_iff.1 h2).1, (List.getElem?_eq_some_iff.1 h2).2, mergeT]
theorem keepT_0 {t : TZ} {l : List TZ} (h : t.c.w.length = 0) : keepT t l = l := if_pos h
theorem keepT_1 {t : TZ} {l : List TZ} (h : ¬ t.c.w.length = 0) : keepT t l = t :: l := if_neg h
/-- terms that can be brought together -/
structure TermsOk (n : Nat) (M : Nat) (l : List TZ) : Prop where
  w : ∀ t ∈ l, WT t
  c : ∀ t ∈ l, t.c = zOf (zval t.c)
  e : ∀ t ∈ l, EOk t.e ∧ t.e.length = n
  m : ∀ t ∈ l, lenI (zval t.c) ≤ M
end Go.AL
namespace Go.Proofs.YtfkjhjgihbnegaaGreat
open Go.AL

theorem rdegree_ok (l : List Int) (he : EOk l) (hl : l.length ≤ 100000) : PureFn Tryz.prog 59 [aI l] (aN (sumL l)) := by
  refine PureFn.of_body Tryz.func59 rfl Tryz.ntmps59 rfl rfl ?_
  repeat' (first |refine Fl.v rfl rfl rfl ?_ |refine Fl.nilF ?_ |refine AWP.seq ?_ |refine AWP.region ?_ |refine AWP.block ?_ |fail)
  refine AWP.loop (G := Nat) (fun i => i ≤ l.length) (fun i => St.of [] [(0, aI l), (3, aN (sumL (l.take i))), (4, aN i)] []) (fun i => l.length - i) 0 (by omega) ?_ ?_
  · refine Ent.of [] ?_ ?_ rfl rfl
    repeat' (first | exact True.intro |refine ⟨⟨AV.Le.refl _, rfl⟩, ?_⟩ |refine ⟨⟨⟨_, rfl, BLe.cells (LeL.refl _)⟩, rfl⟩, ?_⟩ |refine ⟨⟨⟨_, rfl, BLe.row rfl⟩, rfl⟩, ?_⟩ |refine ⟨⟨⟨_, rfl, BLe.row ?_⟩, rfl⟩, ?_⟩ |refine ⟨⟨⟨_, rfl, BLe.cells ?_⟩, rfl⟩, ?_⟩ |refine ⟨⟨AV.Le.int ?_, rfl⟩, ?_⟩ |refine ⟨⟨AV.Le.bool ?_, rfl⟩, ?_⟩ |refine ⟨⟨AV.Le.sl ?_, rfl⟩, ?_⟩ |refine ⟨⟨AV.Le.of_eq ?_, rfl⟩, ?_⟩ | fail)
  · intro i h0
    have hs := sumL_bound (he.take i)
    have hi := List.length_take (l := l) (i := i)
    repeat' (first |refine Fl.v rfl rfl rfl ?_ |refine Fl.nilF ?_ |refine AWP.seq ?_ |refine AWP.region ?_ |(refine AWP.condD rfl ?_ ?_ <;> intro _ <;> try (exfalso; omega)) |refine AWP.block ?_ |refine AWP.skip ?_ |refine AWP.exit ?_ |refine AWP.ret ?_ |(refine Fl.el rfl rfl rfl rfl rfl rfl rfl rfl (by omega) (by omega) ?_; intro _ _) |fail)
    · rename_i hlt x hx
      rw [Int.toNat_natCast] at hx
      have hb := he.get hx
      repeat' (first |refine Fl.v rfl rfl rfl ?_ |refine Fl.nilF ?_ |refine AWP.region ?_ |refine Fl.w rfl rfl rfl (by first | exact True.intro | omega) ?_ |fail)
      refine LoopEnd.of (i + 1) (by omega) (by omega) ?_
      refine Ent.of [] ?_ ?_ rfl rfl
      repeat' (first | exact True.intro |refine ⟨⟨AV.Le.refl _, rfl⟩, ?_⟩ |refine ⟨⟨⟨_, rfl, BLe.cells (LeL.refl _)⟩, rfl⟩, ?_⟩ |refine ⟨⟨⟨_, rfl, BLe.row rfl⟩, rfl⟩, ?_⟩ |refine ⟨⟨⟨_, rfl, BLe.row ?_⟩, rfl⟩, ?_⟩ |refine ⟨⟨⟨_, rfl, BLe.cells ?_⟩, rfl⟩, ?_⟩ |refine ⟨⟨AV.Le.int ?_, rfl⟩, ?_⟩ |refine ⟨⟨AV.Le.bool ?_, rfl⟩, ?_⟩ |refine ⟨⟨AV.Le.sl ?_, rfl⟩, ?_⟩ |refine ⟨⟨AV.Le.of_eq ?_, rfl⟩, ?_⟩ | fail)
      exact (sumL_take_succ hx).symm
    · refine RetOk.of rfl (AV.Le.int ?_)
      rw [show i = l.length by omega, List.take_length]
theorem rOrder_ok (a b : List Int) (ha : EOk a) (hb : EOk b) (hal : a.length ≤ 100000) (hbl : b.length = a.length) : PureFn Tryz.prog 102 [aI a, aI b] (aN (rOrd a b)) := by
  refine PureFn.of_body Tryz.func102 rfl Tryz.ntmps102 rfl rfl ?_
  repeat' (first |refine Fl.v rfl rfl rfl ?_ |refine Fl.nilF ?_ |refine AWP.seq ?_ |refine AWP.region ?_ |fail)
  refine Fl.call rfl (rdegree_ok a ha hal) rfl rfl rfl (LeL.refl _) ?_
  repeat' (first |refine Fl.v rfl rfl rfl ?_ |fail)
  refine Fl.call rfl (rdegree_ok b hb (by omega)) rfl rfl rfl (LeL.refl _) ?_
  repeat' (first |refine Fl.v rfl rfl rfl ?_ |refine Fl.nilF ?_ |refine AWP.seq ?_ |refine AWP.region ?_ |refine AWP.block ?_ |fail)
  refine AWP.loop (G := Nat × Int × Int) (fun (i, x, y) => i ≤ a.length ∧ ordX x y (a.drop i) (b.drop i) = rOrd a b) (fun (i, x, y) => St.of [] [(0, aI a), (1, aI b), (5, aN x), (6, aN y), (7, aN i)] []) (fun (i, x, y) => a.length - i) (0, sumL a, sumL b) ⟨by omega, rfl⟩ ?_ ?_
  · refine Ent.of [] ?_ ?_ rfl rfl
    repeat' (first | exact True.intro |refine ⟨⟨AV.Le.refl _, rfl⟩, ?_⟩ |refine ⟨⟨⟨_, rfl, BLe.cells (LeL.refl _)⟩, rfl⟩, ?_⟩ |refine ⟨⟨⟨_, rfl, BLe.row rfl⟩, rfl⟩, ?_⟩ |refine ⟨⟨⟨_, rfl, BLe.row ?_⟩, rfl⟩, ?_⟩ |refine ⟨⟨⟨_, rfl, BLe.cells ?_⟩, rfl⟩, ?_⟩ |refine ⟨⟨AV.Le.int ?_, rfl⟩, ?_⟩ |refine ⟨⟨AV.Le.bool ?_, rfl⟩, ?_⟩ |refine ⟨⟨AV.Le.sl ?_, rfl⟩, ?_⟩ |refine ⟨⟨AV.Le.of_eq ?_, rfl⟩, ?_⟩ | fail)
  · intro ⟨i, x, y⟩ ⟨h0, h1⟩
    have hfin : (x ≠ y ∨ a.length ≤ i) → cmpI x y = rOrd a b := fun h => by
      rw [← h1]
      rcases h with h | h
      · exact (ordX_ne h _ _).symm
      · rw [List.drop_of_length_le h]; rfl
    repeat' (first |refine Fl.v rfl rfl rfl ?_ |refine Fl.nilF ?_ |refine Fl.nil (fun _ => by kernel_rfl) ?_ |refine AWP.seq ?_ |refine AWP.region ?_ |refine Fl.w rfl rfl rfl (by first | exact True.intro | omega) ?_ |refine Fl.skip rfl rfl ?_ |refine AWP.condF rfl ?_ |(refine AWP.condD rfl ?_ ?_ <;> intro _ <;> try (exfalso; omega)) |refine AWP.block ?_ |refine AWP.skip ?_ |refine AWP.exit ?_ |refine AWP.ret ?_ |(refine Fl.el rfl rfl rfl rfl rfl rfl rfl rfl (by omega) (by omega) ?_; intro _ _) |(refine Fl.splitD rfl rfl ?_ ?_ <;> intro _ <;> try (exfalso; omega)) |fail)
    · rename_i hi hxy u hu v hv
      rw [Int.toNat_natCast] at hu hv
      refine LoopEnd.of (i + 1, u, v) ⟨by omega, ?_⟩ (by simp only; omega) ?_
      · rw [← h1, ordX_drop hu hv, if_pos hxy]
      · refine Ent.of [] ?_ ?_ rfl rfl
        repeat' (first | exact True.intro |refine ⟨⟨AV.Le.refl _, rfl⟩, ?_⟩ |refine ⟨⟨⟨_, rfl, BLe.cells (LeL.refl _)⟩, rfl⟩, ?_⟩ |refine ⟨⟨⟨_, rfl, BLe.row rfl⟩, rfl⟩, ?_⟩ |refine ⟨⟨⟨_, rfl, BLe.row ?_⟩, rfl⟩, ?_⟩ |refine ⟨⟨⟨_, rfl, BLe.cells ?_⟩, rfl⟩, ?_⟩ |refine ⟨⟨AV.Le.int ?_, rfl⟩, ?_⟩ |refine ⟨⟨AV.Le.bool ?_, rfl⟩, ?_⟩ |refine ⟨⟨AV.Le.sl ?_, rfl⟩, ?_⟩ |refine ⟨⟨AV.Le.of_eq ?_, rfl⟩, ?_⟩ | fail)
    · rename_i hi hxy hgt
      exact RetOk.of rfl (AV.Le.int (by rw [← hfin (.inl hxy), cmpI_gt hgt]))
    · rename_i hi hxy hgt hlt
      exact RetOk.of rfl (AV.Le.int (by rw [← hfin (.inl hxy), cmpI_lt hlt]))
    · rename_i hi hgt
      exact RetOk.of rfl (AV.Le.int (by rw [← hfin (.inr (by omega)), cmpI_gt hgt]))
    · rename_i hi hgt hlt
      exact RetOk.of rfl (AV.Le.int (by rw [← hfin (.inr (by omega)), cmpI_lt hlt]))
    · rename_i hi hgt hlt
      exact RetOk.of rfl (AV.Le.int (by rw [← hfin (.inr (by omega)), cmpI_eq (by omega)]))
set_option maxHeartbeats 2000000 in
theorem merged_ok (n M : Nat) (hn : n ≤ 1000) (hM : M ≤ 30000) (a b : List TZ) (ha : TermsOk n M a) (hb : TermsOk n M b) (hal : a.length ≤ 100000) (hbl : b.length ≤ 100000) : PureFn Tryz.prog 99 [.sl 3 eT a, .sl 3 eT b] (.sl 3 eT (mergeT a b)) := by
  refine PureFn.of_body Tryz.func99 rfl Tryz.ntmps99 rfl rfl ?_
  repeat' (first |refine Fl.v rfl rfl rfl ?_ |refine Fl.nilF ?_ |refine AWP.seq ?_ |refine AWP.region ?_ |refine AWP.block ?_ |fail)
  refine AWP.ent (Ent.nilrow 5 805 rfl rfl 3 eT 68) ?_
  refine AWP.loop (G := Nat × Nat × List TZ) (fun (i, k, os) => i ≤ a.length ∧ k ≤ b.length ∧ os.length ≤ i + k ∧ os ++ mergeT (a.drop i) (b.drop k) = mergeT a b) (fun (i, k, os) => St.of [] [(0, .sl 3 eT a), (1, .sl 3 eT b), (5, .row 5), (6, aN i), (7, aN k)] [(5, .row 3 eT os 68)]) (fun (i, k, os) => a.length - i + (b.length - k)) (0, 0, []) ⟨by omega, by omega, by simp, rfl⟩ ?_ ?_
  · refine Ent.of [(5, 805)] ?_ ?_ rfl rfl
    repeat' (first | exact True.intro |refine ⟨⟨AV.Le.refl _, rfl⟩, ?_⟩ |refine ⟨⟨⟨_, rfl, BLe.cells (LeL.refl _)⟩, rfl⟩, ?_⟩ |refine ⟨⟨⟨_, rfl, BLe.row rfl⟩, rfl⟩, ?_⟩ |refine ⟨⟨⟨_, rfl, BLe.row ?_⟩, rfl⟩, ?_⟩ |refine ⟨⟨⟨_, rfl, BLe.cells ?_⟩, rfl⟩, ?_⟩ |refine ⟨⟨AV.Le.int ?_, rfl⟩, ?_⟩ |refine ⟨⟨AV.Le.bool ?_, rfl⟩, ?_⟩ |refine ⟨⟨AV.Le.sl ?_, rfl⟩, ?_⟩ |refine ⟨⟨AV.Le.of_eq ?_, rfl⟩, ?_⟩ | fail)
  · intro ⟨i, k, os⟩ ⟨h0, h1, h2, h3⟩
    by_cases hi : i < a.length
    · obtain ⟨t, ht⟩ : ∃ t, a[i]? = some t := ⟨_, List.getElem?_eq_getElem hi⟩
      have htm := List.mem_of_getElem? ht
      by_cases hk : k < b.length
      · obtain ⟨u, hu⟩ : ∃ u, b[k]? = some u := ⟨_, List.getElem?_eq_getElem hk⟩
        have hum := List.mem_of_getElem? hu
        have hord := rOrder_ok t.e u.e (ha.e t htm).1 (hb.e u hum).1 (by have := (ha.e t htm).2; omega) (by rw [(ha.e t htm).2, (hb.e u hum).2])
        have hmc := mergeT_c ht hu
        repeat' (first |refine Fl.v rfl rfl rfl ?_ |refine Fl.nilF ?_ |refine AWP.seq ?_ |refine AWP.region ?_ |refine Fl.skip rfl rfl ?_ |refine AWP.condT rfl ?_ |(refine AWP.condD rfl ?_ ?_ <;> intro _ <;> try (exfalso; omega)) |refine AWP.block ?_ |refine AWP.skip ?_ |refine Fl.elK rfl rfl rfl rfl rfl rfl rfl rfl (by assumption) (by omega) ?_ |(refine Fl.splitD rfl rfl ?_ ?_ <;> intro _ <;> try (exfalso; omega)) |fail)
        refine Fl.call rfl (hord) rfl rfl rfl (LeL.refl _) ?_
        repeat' (first |refine Fl.v rfl rfl rfl ?_ |refine Fl.nilF ?_ |refine Fl.nil (fun _ => by kernel_rfl) ?_ |refine AWP.seq ?_ |refine AWP.region ?_ |refine Fl.w rfl rfl rfl (by first | exact True.intro | omega) ?_ |refine Fl.b rfl rfl rfl rfl ?_ |(refine AWP.condD rfl ?_ ?_ <;> intro _ <;> try (exfalso; omega)) |refine AWP.block ?_ |refine Fl.elK rfl rfl rfl rfl rfl rfl rfl rfl (by assumption) (by omega) ?_ |fail)
        · rename_i ho
          rw [if_pos ho] at hmc
          have heq := hmc
          refine Fl.call rfl (rZero_ok t.c) rfl rfl rfl (LeL.refl _) ?_
          repeat' (first |refine Fl.v rfl rfl rfl ?_ |refine Fl.nilF ?_ |refine AWP.region ?_ |(refine AWP.condN rfl ?_ ?_ <;> intro _ <;> try (exfalso; omega)) |refine AWP.skip ?_ |fail)
          · rename_i hz
            rw [keepT_1 hz] at heq
            refine Fl.lit rfl rfl rfl rfl rfl eT [t] rfl rfl rfl rfl (by intro _ _; rfl) rfl ?_
            skip
            refine Fl.ap rfl rfl rfl rfl rfl rfl rfl rfl rfl rfl rfl rfl rfl (fun _ => rfl) (fun _ => rfl) (AV.Le.refl _) (by dsimp only [List.length_nil, List.length_cons]; omega) (by simp; omega) ?_
            repeat' (first |refine Fl.v rfl rfl rfl ?_ |refine Fl.nilF ?_ |fail)
            refine LoopEnd.of (i + 1, k, os ++ [t]) ⟨by omega, by omega, by simp; omega, by rw [← h3, heq, List.append_assoc]; rfl⟩ (by simp only; omega) ?_
            refine Ent.of [(5, 87)] ?_ ?_ rfl rfl
            repeat' (first | exact True.intro |refine ⟨⟨AV.Le.refl _, rfl⟩, ?_⟩ |refine ⟨⟨⟨_, rfl, BLe.cells (LeL.refl _)⟩, rfl⟩, ?_⟩ |refine ⟨⟨⟨_, rfl, BLe.row rfl⟩, rfl⟩, ?_⟩ |refine ⟨⟨⟨_, rfl, BLe.row ?_⟩, rfl⟩, ?_⟩ |refine ⟨⟨⟨_, rfl, BLe.cells ?_⟩, rfl⟩, ?_⟩ |refine ⟨⟨AV.Le.int ?_, rfl⟩, ?_⟩ |refine ⟨⟨AV.Le.bool ?_, rfl⟩, ?_⟩ |refine ⟨⟨AV.Le.sl ?_, rfl⟩, ?_⟩ |refine ⟨⟨AV.Le.of_eq ?_, rfl⟩, ?_⟩ | fail)
          · rename_i hz
            rw [keepT_0 hz] at heq
            refine LoopEnd.of (i + 1, k, os) ⟨by omega, by omega, by omega, by rw [← h3, heq]⟩ (by simp only; omega) ?_
            refine Ent.of [] ?_ ?_ rfl rfl
            repeat' (first | exact True.intro |refine ⟨⟨AV.Le.refl _, rfl⟩, ?_⟩ |refine ⟨⟨⟨_, rfl, BLe.cells (LeL.refl _)⟩, rfl⟩, ?_⟩ |refine ⟨⟨⟨_, rfl, BLe.row rfl⟩, rfl⟩, ?_⟩ |refine ⟨⟨⟨_, rfl, BLe.row ?_⟩, rfl⟩, ?_⟩ |refine ⟨⟨⟨_, rfl, BLe.cells ?_⟩, rfl⟩, ?_⟩ |refine ⟨⟨AV.Le.int ?_, rfl⟩, ?_⟩ |refine ⟨⟨AV.Le.bool ?_, rfl⟩, ?_⟩ |refine ⟨⟨AV.Le.sl ?_, rfl⟩, ?_⟩ |refine ⟨⟨AV.Le.of_eq ?_, rfl⟩, ?_⟩ | fail)
        · rename_i ho ho2
          rw [if_neg ho, if_pos ho2] at hmc
          have heq := hmc
          refine Fl.call rfl (rZero_ok u.c) rfl rfl rfl (LeL.refl _) ?_
          repeat' (first |refine Fl.v rfl rfl rfl ?_ |refine Fl.nilF ?_ |refine AWP.region ?_ |(refine AWP.condN rfl ?_ ?_ <;> intro _ <;> try (exfalso; omega)) |refine AWP.skip ?_ |fail)
          · rename_i hz
            rw [keepT_1 hz] at heq
            refine Fl.lit rfl rfl rfl rfl rfl eT [u] rfl rfl rfl rfl (by intro _ _; rfl) rfl ?_
            skip
            refine Fl.ap rfl rfl rfl rfl rfl rfl rfl rfl rfl rfl rfl rfl rfl (fun _ => rfl) (fun _ => rfl) (AV.Le.refl _) (by dsimp only [List.length_nil, List.length_cons]; omega) (by simp; omega) ?_
            repeat' (first |refine Fl.v rfl rfl rfl ?_ |refine Fl.nilF ?_ |fail)
            refine LoopEnd.of (i, k + 1, os ++ [u]) ⟨by omega, by omega, by simp; omega, by rw [← h3, heq, List.append_assoc]; rfl⟩ (by simp only; omega) ?_
            refine Ent.of [(5, 87)] ?_ ?_ rfl rfl
            repeat' (first | exact True.intro |refine ⟨⟨AV.Le.refl _, rfl⟩, ?_⟩ |refine ⟨⟨⟨_, rfl, BLe.cells (LeL.refl _)⟩, rfl⟩, ?_⟩ |refine ⟨⟨⟨_, rfl, BLe.row rfl⟩, rfl⟩, ?_⟩ |refine ⟨⟨⟨_, rfl, BLe.row ?_⟩, rfl⟩, ?_⟩ |refine ⟨⟨⟨_, rfl, BLe.cells ?_⟩, rfl⟩, ?_⟩ |refine ⟨⟨AV.Le.int ?_, rfl⟩, ?_⟩ |refine ⟨⟨AV.Le.bool ?_, rfl⟩, ?_⟩ |refine ⟨⟨AV.Le.sl ?_, rfl⟩, ?_⟩ |refine ⟨⟨AV.Le.of_eq ?_, rfl⟩, ?_⟩ | fail)
          · rename_i hz
            rw [keepT_0 hz] at heq
            refine LoopEnd.of (i, k + 1, os) ⟨by omega, by omega, by omega, by rw [← h3, heq]⟩ (by simp only; omega) ?_
            refine Ent.of [] ?_ ?_ rfl rfl
            repeat' (first | exact True.intro |refine ⟨⟨AV.Le.refl _, rfl⟩, ?_⟩ |refine ⟨⟨⟨_, rfl, BLe.cells (LeL.refl _)⟩, rfl⟩, ?_⟩ |refine ⟨⟨⟨_, rfl, BLe.row rfl⟩, rfl⟩, ?_⟩ |refine ⟨⟨⟨_, rfl, BLe.row ?_⟩, rfl⟩, ?_⟩ |refine ⟨⟨⟨_, rfl, BLe.cells ?_⟩, rfl⟩, ?_⟩ |refine ⟨⟨AV.Le.int ?_, rfl⟩, ?_⟩ |refine ⟨⟨AV.Le.bool ?_, rfl⟩, ?_⟩ |refine ⟨⟨AV.Le.sl ?_, rfl⟩, ?_⟩ |refine ⟨⟨AV.Le.of_eq ?_, rfl⟩, ?_⟩ | fail)
        · rename_i ho ho2
          rw [if_neg ho, if_neg ho2] at hmc
          have l1 := ha.m t htm
          have l2 := hb.m u hum
          refine Fl.call rfl (rAdd_ok (zval t.c) (zval u.c) (show lenI _ ≤ _ by omega) (show lenI _ ≤ _ by omega)) rfl rfl rfl (LeL.cons (AV.Le.agg (leZ (σ := []) (ha.c t htm))) (LeL.cons (AV.Le.agg (leZ (σ := []) (hb.c u hum))) LeL.nil)) ?_
          repeat' (first |refine Fl.v rfl rfl rfl ?_ |refine Fl.nilF ?_ |refine Fl.nil (fun _ => by kernel_rfl) ?_ |refine AWP.seq ?_ |refine AWP.region ?_ |refine Fl.w rfl rfl rfl (by first | exact True.intro | omega) ?_ |refine Fl.b rfl rfl rfl rfl ?_ |refine Fl.elK rfl rfl rfl rfl rfl rfl rfl rfl (by assumption) (by omega) ?_ |fail)
          have heq := hmc
          refine Fl.call rfl (rZero_ok (sumT t u).c) rfl rfl rfl (LeL.refl _) ?_
          repeat' (first |refine Fl.v rfl rfl rfl ?_ |refine Fl.nilF ?_ |refine AWP.region ?_ |(refine AWP.condN rfl ?_ ?_ <;> intro _ <;> try (exfalso; omega)) |refine AWP.skip ?_ |fail)
          · rename_i hz
            rw [keepT_1 hz] at heq
            refine Fl.lit rfl rfl rfl rfl rfl eT [(sumT t u)] rfl rfl rfl rfl (by intro _ _; rfl) rfl ?_
            skip
            refine Fl.ap rfl rfl rfl rfl rfl rfl rfl rfl rfl rfl rfl rfl rfl (fun _ => rfl) (fun _ => rfl) (AV.Le.refl _) (by dsimp only [List.length_nil, List.length_cons]; omega) (by simp; omega) ?_
            repeat' (first |refine Fl.v rfl rfl rfl ?_ |refine Fl.nilF ?_ |fail)
            refine LoopEnd.of (i + 1, k + 1, os ++ [(sumT t u)]) ⟨by omega, by omega, by simp; omega, by rw [← h3, heq, List.append_assoc]; rfl⟩ (by simp only; omega) ?_
            refine Ent.of [(5, 87)] ?_ ?_ rfl rfl
            repeat' (first | exact True.intro |refine ⟨⟨AV.Le.refl _, rfl⟩, ?_⟩ |refine ⟨⟨⟨_, rfl, BLe.cells (LeL.refl _)⟩, rfl⟩, ?_⟩ |refine ⟨⟨⟨_, rfl, BLe.row rfl⟩, rfl⟩, ?_⟩ |refine ⟨⟨⟨_, rfl, BLe.row ?_⟩, rfl⟩, ?_⟩ |refine ⟨⟨⟨_, rfl, BLe.cells ?_⟩, rfl⟩, ?_⟩ |refine ⟨⟨AV.Le.int ?_, rfl⟩, ?_⟩ |refine ⟨⟨AV.Le.bool ?_, rfl⟩, ?_⟩ |refine ⟨⟨AV.Le.sl ?_, rfl⟩, ?_⟩ |refine ⟨⟨AV.Le.of_eq ?_, rfl⟩, ?_⟩ | fail)
          · rename_i hz
            rw [keepT_0 hz] at heq
            refine LoopEnd.of (i + 1, k + 1, os) ⟨by omega, by omega, by omega, by rw [← h3, heq]⟩ (by simp only; omega) ?_
            refine Ent.of [] ?_ ?_ rfl rfl
            repeat' (first | exact True.intro |refine ⟨⟨AV.Le.refl _, rfl⟩, ?_⟩ |refine ⟨⟨⟨_, rfl, BLe.cells (LeL.refl _)⟩, rfl⟩, ?_⟩ |refine ⟨⟨⟨_, rfl, BLe.row rfl⟩, rfl⟩, ?_⟩ |refine ⟨⟨⟨_, rfl, BLe.row ?_⟩, rfl⟩, ?_⟩ |refine ⟨⟨⟨_, rfl, BLe.cells ?_⟩, rfl⟩, ?_⟩ |refine ⟨⟨AV.Le.int ?_, rfl⟩, ?_⟩ |refine ⟨⟨AV.Le.bool ?_, rfl⟩, ?_⟩ |refine ⟨⟨AV.Le.sl ?_, rfl⟩, ?_⟩ |refine ⟨⟨AV.Le.of_eq ?_, rfl⟩, ?_⟩ | fail)
      · have hma := mergeT_a ht (b := b) (k := k) (by omega)
        repeat' (first |refine Fl.v rfl rfl rfl ?_ |refine Fl.nilF ?_ |refine AWP.seq ?_ |refine AWP.region ?_ |refine Fl.w rfl rfl rfl (by first | exact True.intro | omega) ?_ |refine Fl.b rfl rfl rfl rfl ?_ |refine Fl.skip rfl rfl ?_ |refine AWP.condT rfl ?_ |(refine AWP.condD rfl ?_ ?_ <;> intro _ <;> try (exfalso; omega)) |refine AWP.block ?_ |refine AWP.skip ?_ |refine Fl.elK rfl rfl rfl rfl rfl rfl rfl rfl (by assumption) (by omega) ?_ |(refine Fl.splitD rfl rfl ?_ ?_ <;> intro _ <;> try (exfalso; omega)) |fail)
        have heq := hma
        refine Fl.call rfl (rZero_ok t.c) rfl rfl rfl (LeL.refl _) ?_
        repeat' (first |refine Fl.v rfl rfl rfl ?_ |refine Fl.nilF ?_ |refine AWP.region ?_ |(refine AWP.condN rfl ?_ ?_ <;> intro _ <;> try (exfalso; omega)) |refine AWP.skip ?_ |fail)
        · rename_i hz
          rw [keepT_1 hz] at heq
          refine Fl.lit rfl rfl rfl rfl rfl eT [t] rfl rfl rfl rfl (by intro _ _; rfl) rfl ?_
          skip
          refine Fl.ap rfl rfl rfl rfl rfl rfl rfl rfl rfl rfl rfl rfl rfl (fun _ => rfl) (fun _ => rfl) (AV.Le.refl _) (by dsimp only [List.length_nil, List.length_cons]; omega) (by simp; omega) ?_
          repeat' (first |refine Fl.v rfl rfl rfl ?_ |refine Fl.nilF ?_ |fail)
          refine LoopEnd.of (i + 1, k, os ++ [t]) ⟨by omega, by omega, by simp; omega, by rw [← h3, heq, List.append_assoc]; rfl⟩ (by simp only; omega) ?_
          refine Ent.of [(5, 87)] ?_ ?_ rfl rfl
          repeat' (first | exact True.intro |refine ⟨⟨AV.Le.refl _, rfl⟩, ?_⟩ |refine ⟨⟨⟨_, rfl, BLe.cells (LeL.refl _)⟩, rfl⟩, ?_⟩ |refine ⟨⟨⟨_, rfl, BLe.row rfl⟩, rfl⟩, ?_⟩ |refine ⟨⟨⟨_, rfl, BLe.row ?_⟩, rfl⟩, ?_⟩ |refine ⟨⟨⟨_, rfl, BLe.cells ?_⟩, rfl⟩, ?_⟩ |refine ⟨⟨AV.Le.int ?_, rfl⟩, ?_⟩ |refine ⟨⟨AV.Le.bool ?_, rfl⟩, ?_⟩ |refine ⟨⟨AV.Le.sl ?_, rfl⟩, ?_⟩ |refine ⟨⟨AV.Le.of_eq ?_, rfl⟩, ?_⟩ | fail)
        · rename_i hz
          rw [keepT_0 hz] at heq
          refine LoopEnd.of (i + 1, k, os) ⟨by omega, by omega, by omega, by rw [← h3, heq]⟩ (by simp only; omega) ?_
          refine Ent.of [] ?_ ?_ rfl rfl
          repeat' (first | exact True.intro |refine ⟨⟨AV.Le.refl _, rfl⟩, ?_⟩ |refine ⟨⟨⟨_, rfl, BLe.cells (LeL.refl _)⟩, rfl⟩, ?_⟩ |refine ⟨⟨⟨_, rfl, BLe.row rfl⟩, rfl⟩, ?_⟩ |refine ⟨⟨⟨_, rfl, BLe.row ?_⟩, rfl⟩, ?_⟩ |refine ⟨⟨⟨_, rfl, BLe.cells ?_⟩, rfl⟩, ?_⟩ |refine ⟨⟨AV.Le.int ?_, rfl⟩, ?_⟩ |refine ⟨⟨AV.Le.bool ?_, rfl⟩, ?_⟩ |refine ⟨⟨AV.Le.sl ?_, rfl⟩, ?_⟩ |refine ⟨⟨AV.Le.of_eq ?_, rfl⟩, ?_⟩ | fail)
    · by_cases hk : k < b.length
      · obtain ⟨u, hu⟩ : ∃ u, b[k]? = some u := ⟨_, List.getElem?_eq_getElem hk⟩
        have hmb := mergeT_b hu (a := a) (i := i) (by omega)
        repeat' (first |refine Fl.v rfl rfl rfl ?_ |refine Fl.nilF ?_ |refine AWP.seq ?_ |refine AWP.region ?_ |refine Fl.w rfl rfl rfl (by first | exact True.intro | omega) ?_ |refine Fl.b rfl rfl rfl rfl ?_ |refine AWP.condT rfl ?_ |refine AWP.condF rfl ?_ |(refine AWP.condD rfl ?_ ?_ <;> intro _ <;> try (exfalso; omega)) |refine AWP.block ?_ |refine AWP.skip ?_ |refine Fl.elK rfl rfl rfl rfl rfl rfl rfl rfl (by assumption) (by omega) ?_ |(refine Fl.splitD rfl rfl ?_ ?_ <;> intro _ <;> try (exfalso; omega)) |fail)
        have heq := hmb
        refine Fl.call rfl (rZero_ok u.c) rfl rfl rfl (LeL.refl _) ?_
        repeat' (first |refine Fl.v rfl rfl rfl ?_ |refine Fl.nilF ?_ |refine AWP.region ?_ |(refine AWP.condN rfl ?_ ?_ <;> intro _ <;> try (exfalso; omega)) |refine AWP.skip ?_ |fail)
        · rename_i hz
          rw [keepT_1 hz] at heq
          refine Fl.lit rfl rfl rfl rfl rfl eT [u] rfl rfl rfl rfl (by intro _ _; rfl) rfl ?_
          skip
          refine Fl.ap rfl rfl rfl rfl rfl rfl rfl rfl rfl rfl rfl rfl rfl (fun _ => rfl) (fun _ => rfl) (AV.Le.refl _) (by dsimp only [List.length_nil, List.length_cons]; omega) (by simp; omega) ?_
          repeat' (first |refine Fl.v rfl rfl rfl ?_ |refine Fl.nilF ?_ |fail)
          refine LoopEnd.of (i, k + 1, os ++ [u]) ⟨by omega, by omega, by simp; omega, by rw [← h3, heq, List.append_assoc]; rfl⟩ (by simp only; omega) ?_
          refine Ent.of [(5, 87)] ?_ ?_ rfl rfl
          repeat' (first | exact True.intro |refine ⟨⟨AV.Le.refl _, rfl⟩, ?_⟩ |refine ⟨⟨⟨_, rfl, BLe.cells (LeL.refl _)⟩, rfl⟩, ?_⟩ |refine ⟨⟨⟨_, rfl, BLe.row rfl⟩, rfl⟩, ?_⟩ |refine ⟨⟨⟨_, rfl, BLe.row ?_⟩, rfl⟩, ?_⟩ |refine ⟨⟨⟨_, rfl, BLe.cells ?_⟩, rfl⟩, ?_⟩ |refine ⟨⟨AV.Le.int ?_, rfl⟩, ?_⟩ |refine ⟨⟨AV.Le.bool ?_, rfl⟩, ?_⟩ |refine ⟨⟨AV.Le.sl ?_, rfl⟩, ?_⟩ |refine ⟨⟨AV.Le.of_eq ?_, rfl⟩, ?_⟩ | fail)
        · rename_i hz
          rw [keepT_0 hz] at heq
          refine LoopEnd.of (i, k + 1, os) ⟨by omega, by omega, by omega, by rw [← h3, heq]⟩ (by simp only; omega) ?_
          refine Ent.of [] ?_ ?_ rfl rfl
          repeat' (first | exact True.intro |refine ⟨⟨AV.Le.refl _, rfl⟩, ?_⟩ |refine ⟨⟨⟨_, rfl, BLe.cells (LeL.refl _)⟩, rfl⟩, ?_⟩ |refine ⟨⟨⟨_, rfl, BLe.row rfl⟩, rfl⟩, ?_⟩ |refine ⟨⟨⟨_, rfl, BLe.row ?_⟩, rfl⟩, ?_⟩ |refine ⟨⟨⟨_, rfl, BLe.cells ?_⟩, rfl⟩, ?_⟩ |refine ⟨⟨AV.Le.int ?_, rfl⟩, ?_⟩ |refine ⟨⟨AV.Le.bool ?_, rfl⟩, ?_⟩ |refine ⟨⟨AV.Le.sl ?_, rfl⟩, ?_⟩ |refine ⟨⟨AV.Le.of_eq ?_, rfl⟩, ?_⟩ | fail)
      · repeat' (first |refine Fl.v rfl rfl rfl ?_ |refine Fl.nilF ?_ |refine AWP.seq ?_ |refine AWP.region ?_ |(refine AWP.condD rfl ?_ ?_ <;> intro _ <;> try (exfalso; omega)) |refine AWP.exit ?_ |refine AWP.ret ?_ |(refine Fl.splitD rfl rfl ?_ ?_ <;> intro _ <;> try (exfalso; omega)) |fail)
        refine RetOk.ent (Ent.freeze 5 rfl) ?_
        refine RetOk.of rfl (AV.Le.sl ?_)
        rw [← h3, List.drop_of_length_le (by omega), List.drop_of_length_le (by omega), mergeT, List.append_nil]
end Go.Proofs.YtfkjhjgihbnegaaGreat
namespace Go.AL
theorem zval_zOf (x : Int) : zval (zOf x) = x := by
  unfold zval zOf
  simp only
  rw [val_toW (by omega)]
  simp only [sg]
  split
  · rename_i h; simp at h; omega
  · rename_i h; simp at h; omega
theorem EOk.zeros (n : Nat) : EOk (List.replicate n 0) := fun e he => by rw [List.eq_of_mem_replicate he]; omega
theorem TermsOk.one {n M : Nat} {x : Int} {e : List Int} (h1 : lenI x ≤ M) (h2 : EOk e) (h3 : e.length = n) : TermsOk n M [⟨zOf x, e⟩] := by
  refine ⟨?_, ?_, ?_, ?_⟩ <;> (intro t ht; simp only [List.mem_singleton] at ht; subst ht)
  · exact toW_ok _
  · rw [zval_zOf]
  · exact ⟨h2, h3⟩
  · rw [zval_zOf]; exact h1
theorem TermsOk.nil (n M : Nat) : TermsOk n M [] := by constructor <;> (intro t h; cases h)
/-- a constant's polynomial -/
def pConst (n : Nat) (x : Int) : PZ := ⟨n, [⟨zOf x, List.replicate n 0⟩]⟩
theorem toW_len0 (x : Int) : (toW x.natAbs).length = 0 ↔ x = 0 := by
  have := toW_nil_iff (z := x.natAbs) (by omega)
  rw [List.length_eq_zero_iff, this]; omega
theorem mergeT_one {x : Int} {e : List Int} (h : x ≠ 0) : mergeT [⟨zOf x, e⟩] [] = [⟨zOf x, e⟩] := by
  rw [mergeT, mergeT]
  exact keepT_1 fun k => h ((toW_len0 x).1 k)
end Go.AL
namespace Go.Proofs.YtfkjhjgihbnegaaGreat
open Go.AL

theorem rSorted_short (n M : Nat) (hn : n ≤ 1000) (hM : M ≤ 30000) (l : List TZ) (hl : TermsOk n M l) (h2 : l.length < 2) : PureFn Tryz.prog 54 [.sl 3 eT l] (.sl 3 eT (mergeT l [])) := by
  refine PureFn.of_body Tryz.func54 rfl Tryz.ntmps54 rfl rfl ?_
  repeat' (first |refine Fl.v rfl rfl rfl ?_ |refine Fl.nilF ?_ |refine AWP.seq ?_ |refine AWP.region ?_ |(refine AWP.condD rfl ?_ ?_ <;> intro _ <;> try (exfalso; omega)) |fail)
  refine Fl.call rfl (merged_ok n M hn hM l [] hl (TermsOk.nil n M) (by omega) (by simp)) rfl rfl rfl (LeL.cons (AV.Le.refl _) (LeL.cons (AV.Le.nil 3 eT) LeL.nil)) ?_
  repeat' (first |refine Fl.v rfl rfl rfl ?_ |refine Fl.nilF ?_ |refine AWP.ret ?_ |fail)
  exact RetOk.of rfl (AV.Le.refl _)
theorem rConst_ok (n : Nat) (x : Int) (hn : n ≤ 1000) (hx : lenI x ≤ 30000) (h0 : x ≠ 0) : PureFn Tryz.prog 70 [aN n, aX x] (aP (pConst n x)) := by
  refine PureFn.of_body Tryz.func70 rfl Tryz.ntmps70 rfl rfl ?_
  have hs := rSorted_short n 30000 hn (by omega) [⟨zOf x, List.replicate n 0⟩] (TermsOk.one hx (EOk.zeros n) (by simp)) (by simp)
  rw [mergeT_one h0] at hs
  refine AWP.seqS ?_
  repeat' (first |refine Fl.nilF ?_ |refine AWP.region ?_ |refine Fl.b rfl rfl rfl rfl ?_ |fail)
  refine ⟨AWP.seq (AWP.region ?_)⟩
  refine Fl.v rfl rfl rfl ?_
  refine Fl.v rfl rfl rfl ?_
  refine Fl.v rfl rfl rfl ?_
  refine Fl.makeC rfl rfl rfl rfl rfl rfl rfl rfl rfl eI 0 (by exact LeL.refl _) (by rfl) (by omega) (by first | omega | (dsimp only; omega)) (by omega) ?_
  repeat' (first |refine Fl.b rfl rfl rfl rfl ?_ |fail)
  refine Fl.lit rfl rfl rfl rfl rfl eT [⟨zOf x, List.replicate n 0⟩] rfl rfl rfl rfl (by intro _ _; rfl) rfl ?_
  skip
  refine Fl.call rfl (hs) rfl rfl rfl (LeL.refl _) ?_
  repeat' (first |refine Fl.nil (fun _ => by kernel_rfl) ?_ |refine Fl.b rfl rfl rfl rfl ?_ |refine AWP.ret ?_ |fail)
  exact RetOk.of rfl (AV.Le.refl _)

theorem powers1_ok (i : Nat) (hi : i < 2) : PureFn Tryz.prog 68 [aN i] (aP (pVar 2 i)) := by
  refine PureFn.of_body Tryz.func68 rfl Tryz.ntmps68 rfl rfl ?_
  have h := rVar_ok 2 i hi (by omega)
  repeat' (first |refine Fl.v rfl rfl rfl ?_ |refine Fl.nilF ?_ |refine AWP.seq ?_ |refine AWP.region ?_ |refine Fl.b rfl rfl rfl rfl ?_ |fail)
  refine Fl.call rfl (h) rfl rfl rfl (LeL.refl _) ?_
  repeat' (first |refine Fl.nilF ?_ |refine Fl.b rfl rfl rfl rfl ?_ |refine AWP.ret ?_ |fail)
  exact RetOk.of rfl (AV.Le.refl _)
/-- the first example's system -/
def sPow : SZ := ⟨2, [⟨2, [0, 1], [pConst 2 2, pVar 2 0, pVar 2 1]⟩]⟩
theorem lenI_small {x : Int} (h : x.natAbs < 4294967296) : lenI x ≤ 1 := by
  rw [lenI_le, show (1 : Nat) = 0 + 1 from rfl, BB_succ, BB_zero]; omega
theorem powers_ok : PureFn Tryz.prog 31 [] (aS sPow) := by
  refine PureFn.of_body Tryz.func31 rfl Tryz.ntmps31 rfl rfl ?_
  have h0 := powers1_ok 0 (by omega)
  have h1 := powers1_ok 1 (by omega)
  have hc := rConst_ok 2 2 (by omega) (Nat.le_trans (lenI_small (by decide)) (by omega)) (by omega)
  repeat' (first |refine Fl.v rfl rfl rfl ?_ |refine Fl.nilF ?_ |refine AWP.seq ?_ |refine AWP.region ?_ |refine Fl.b rfl rfl rfl rfl ?_ |fail)
  refine Fl.lit rfl rfl rfl rfl rfl eI [0, 1] rfl rfl rfl rfl (by intro _ _; rfl) rfl ?_
  skip
  refine Fl.call rfl (rOf_ok 2 (by omega) (by omega)) rfl rfl rfl (LeL.refl _) ?_
  skip
  refine Fl.call rfl (hc) rfl rfl rfl (LeL.refl _) ?_
  repeat' (first |refine Fl.v rfl rfl rfl ?_ |fail)
  refine Fl.callV rfl rfl (h0) rfl rfl rfl (LeL.refl _) ?_
  repeat' (first |refine Fl.v rfl rfl rfl ?_ |fail)
  refine Fl.callV rfl rfl (h1) rfl rfl rfl (LeL.refl _) ?_
  skip
  refine Fl.lit rfl rfl rfl rfl rfl eP [pConst 2 2, pVar 2 0, pVar 2 1] rfl rfl rfl rfl (by intro _ _; rfl) rfl ?_
  repeat' (first |refine Fl.b rfl rfl rfl rfl ?_ |fail)
  refine Fl.lit rfl rfl rfl rfl rfl eL [⟨2, [0, 1], [pConst 2 2, pVar 2 0, pVar 2 1]⟩] rfl rfl rfl rfl (by intro _ _; rfl) rfl ?_
  repeat' (first |refine Fl.nilF ?_ |refine Fl.b rfl rfl rfl rfl ?_ |refine AWP.ret ?_ |fail)
  exact RetOk.of rfl (AV.Le.refl _)
end Go.Proofs.YtfkjhjgihbnegaaGreat

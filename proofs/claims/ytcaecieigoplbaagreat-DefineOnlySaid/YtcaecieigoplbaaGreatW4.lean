/- Part 4 of a proof layer and of the contracts of the functions (XG2 XG3 XG4 XG5 XG6 XG7 XG8 XH0 XH1 XRT XY0 XY1 XY2 XY3 XY4 XY5 XY6 XY7 XY8 XY9 XV2 XU1 XR1 XR4 XR5 XR7 XR8 XR9 XK0 XK1 XK2 XK3 XXS XN2 XP0 XP1 XP2 XP3 XP4 XP5 XP6). -/
import Derived.ProofKit
import Derived.OpenShut
import Derived.Carry
import Derived.ChangeSame
import Derived.ReadAgain
import Derived.Test.YtcaecieigoplbaaGreatRows
import Derived.RangeFuncIn
import Derived.RangeFuncCalls
import Derived.RangeFuncFrom
import Derived.OrdersIn
import Derived.RangeFuncLeaves
import Derived.RangeFuncBound
import Derived.Sort.LoopGhostIn
import Derived.Shelf.SlSortCmp.WholeK
import Derived.Test.YtcaecieigoplbaaGreatProg
import Derived.Maps.RangeRun
import Derived.Shelf.SlSortCmp.NoneTotal
import Derived.ChangeKeysEq
import Derived.Test.YtcaecieigoplbaaGreatW3
set_option linter.unusedVariables false
set_option linter.unusedSimpArgs false
namespace Go.Proofs.YtcaecieigoplbaaGreat
open Go.AL

theorem rminus_ok (A B : List Int) (wA : WOk A) (wB : WOk B) (hA : A.length ≤ 50000) (hlB : B.length ≤ A.length) (hle : val B ≤ val A) : PureFn Tryz.prog 111 [aW A, aW B] (aW (padW A.length (val A - val B))) := by
 refine PureFn.of_body Tryz.func111 rfl Tryz.ntmps111 rfl rfl ?_;(repeat' (first |refine qv ?_ |apply qn |apply qs |apply qr |apply qb |refine Fl.make rfl rfl rfl rfl rfl rfl rfl rfl rfl rfl eW 0 (by exact LeL.refl _) (by rfl) (by first | omega | (dsimp only; omega)) (by first | omega | (dsimp only; omega)) (by first | omega | (dsimp only; omega)) ?_|fail));refine AWP.loop (G := List Int × Int) (fun (os, c) => os.length ≤ A.length ∧ WOk os ∧ 0 ≤ c ∧ c ≤ 1 ∧ val os = val (A.take os.length) - val (B.take os.length) + BB os.length * c)
  (fun (os, c) => St.of [] [(0, aW A), (1, aW B), (5, .row 11), (6, aU c), (7, aN os.length)] [(11, .row 1 eW (os ++ List.replicate (A.length - os.length) 0) 62)])
  (fun (os, c) => A.length - os.length) ([], 0) ⟨by simp, WOk.nil, by omega, by omega, by simp [val, BB]⟩ ?_ ?_
 ·refine Ent.of [] ?_ ?_ rfl rfl;(repeat' (first |exact True.intro |refine ⟨⟨AV.Le.refl _, rfl⟩, ?_⟩ |refine ⟨⟨⟨_, rfl, BLe.row rfl⟩, rfl⟩, ?_⟩|fail))
 ·intro ⟨os, c⟩ ⟨h0, h1, h2, h3, h4⟩
  have hl : (os ++ List.replicate (A.length - os.length) 0).length = A.length := by simp; omega
  (repeat' (first |refine qv ?_ |apply qn |apply qs |apply qr |refine qw ?_ |(refine AWP.condD rfl ?_ ?_ <;> intro _ <;> try (exfalso; omega)) |apply qb |apply qk |apply qx |apply qt |(refine Fl.elW rfl rfl rfl rfl rfl rfl rfl rfl (by omega) (by omega) (by assumption) ?_; intro _ _ _ _) |refine Fl.rel rfl rfl rfl rfl rfl rfl rfl rfl (by omega) (by first | omega | (simp; omega)) ?_ |refine Fl.rst rfl rfl rfl rfl rfl rfl rfl rfl rfl rfl rfl (LeL.refl _) rfl (by first | omega | (simp; omega)) ?_ |refine Fl.sumM rfl rfl rfl rfl rfl rfl ?_))
  ·rename_i hi u hu hu0 hu1 hiB v hv hv0 hv1;rw [Int.toNat_natCast] at hu hv;have hstep := minus_step (p := (u + 4294967296 - c - v) % 4294967296) (q := 1 - (u + 4294967296 - c - v) / 4294967296) hu (val_take_succ hv) h4 (by omega);refine LoopEnd.of (os ++ [(u + 4294967296 - c - v) % 4294967296], 1 - (u + 4294967296 - c - v) / 4294967296) ⟨by simp; omega, h1.append (WOk.cons (by omega) (by omega) WOk.nil), by omega, by omega, by rw [List.length_append]; exact hstep⟩ (by simp only [List.length_append, List.length_cons, List.length_nil]; omega) ?_;refine Ent.of [] ?_ ?_ rfl rfl;(repeat' (first |exact True.intro |refine ⟨⟨AV.Le.refl _, rfl⟩, ?_⟩ |refine ⟨⟨⟨_, rfl, BLe.row ?_⟩, rfl⟩, ?_⟩ |refine ⟨⟨AV.Le.int ?_, rfl⟩, ?_⟩|fail))
   all_goals first
    | exact set_rep (by simp) (by simp; omega) (by rw [bitN_and32 (by omega)]; omega)
    | (rw [p32]; omega)
    | (simp; done)
  ·rename_i hi u hu hu0 hu1 hiB;rw [Int.toNat_natCast] at hu;have hstep := minus_step (p := (u + 4294967296 - c - 0) % 4294967296) (q := 1 - (u + 4294967296 - c - 0) / 4294967296) hu (val_take_end (by omega)) h4 (by omega);refine LoopEnd.of (os ++ [(u + 4294967296 - c - 0) % 4294967296], 1 - (u + 4294967296 - c - 0) / 4294967296) ⟨by simp; omega, h1.append (WOk.cons (by omega) (by omega) WOk.nil), by omega, by omega, by rw [List.length_append]; exact hstep⟩ (by simp only [List.length_append, List.length_cons, List.length_nil]; omega) ?_;refine Ent.of [] ?_ ?_ rfl rfl;(repeat' (first |exact True.intro |refine ⟨⟨AV.Le.refl _, rfl⟩, ?_⟩ |refine ⟨⟨⟨_, rfl, BLe.row ?_⟩, rfl⟩, ?_⟩ |refine ⟨⟨AV.Le.int ?_, rfl⟩, ?_⟩|fail))
   all_goals first
    | exact set_rep (by simp) (by simp; omega) (by rw [bitN_and32 (by omega)]; omega)
    | (rw [p32]; omega)
    | (simp; done)
  ·rename_i hi
   have hlen : os.length = A.length := by omega
   rw [hlen, List.take_of_length_le (by omega), List.take_of_length_le (by omega)] at h4;refine RetOk.ent (Ent.freeze 11 rfl) ?_;refine RetOk.of rfl (AV.Le.sl ?_);have b7 := val_lt h1;rw [hlen] at b7
   have hc : c = 0 := by
    have : c = 0 ∨ c = 1 := by omega
    rcases this with h | h
    ·exact h
    ·subst h; omega
   subst hc;rw [hlen, Nat.sub_self, List.replicate_zero, List.append_nil, padW_of h1, hlen];congr 1;omega
theorem rMul_ok (x y : Int) (hxl : (toW x.natAbs).length ≤ 40000) (hyl : (toW y.natAbs).length ≤ 40000) : PureFn Tryz.prog 103 [aX x, aX y] (aX (x * y)) := by
 refine PureFn.of_body Tryz.func103 rfl Tryz.ntmps103 rfl rfl ?_;have wx := toW_ok x.natAbs;have wy := toW_ok y.natAbs;have hsx := val_toW (show 0 ≤ (x.natAbs : Int) by omega);have hsy := val_toW (show 0 ≤ (y.natAbs : Int) by omega);delta aX
 generalize toW x.natAbs = A at *
 generalize toW y.natAbs = B at *
 (repeat' (first |refine qv ?_ |apply qn |apply qs |apply qr |refine qw ?_ |refine qe ?_ |apply qb |refine Fl.make rfl rfl rfl rfl rfl rfl rfl rfl rfl rfl eW 0 (by exact LeL.refl _) (by rfl) (by first | omega | (dsimp only; omega)) (by first | omega | (dsimp only; omega)) (by first | omega | (dsimp only; omega)) ?_|fail));refine AWP.loop (G := Nat × List Int) (fun (i, os) => i ≤ A.length ∧ os.length = i + B.length ∧ WOk os ∧ val os = val (A.take i) * val B)
  (fun (i, os) => St.of [] [(2, .ptr 2 0), (3, .ptr 3 0), (4, .ptr 4 0), (5, .row 16), (6, aN i)] [(2, .cells [aB (decide (x < 0)), aW A] 35), (3, .cells [aB (decide (y < 0)), aW B] 35), (4, .cells [aB false, .v (.slice none 0 0)] 35), (16, .row 1 eW (os ++ List.replicate (A.length - i) 0) 62)])
  (fun (i, os) => A.length - i) (0, List.replicate B.length 0) ⟨by omega, by simp, WOk.zeros _, by simp [val, val_zeros]⟩ ?_ ?_
 ·refine Ent.of [] ?_ ?_ rfl rfl;(repeat' (first |exact True.intro |refine ⟨⟨AV.Le.refl _, rfl⟩, ?_⟩ |refine ⟨⟨⟨_, rfl, BLe.cells (LeL.refl _)⟩, rfl⟩, ?_⟩ |refine ⟨⟨⟨_, rfl, BLe.row ?_⟩, rfl⟩, ?_⟩|fail));rw [List.replicate_append_replicate]; congr 1; omega
 ·intro ⟨i, os⟩ ⟨h0, h1, h2, h3⟩;(repeat' (first |refine qv ?_ |apply qn |apply qs |apply qr |(refine AWP.condD rfl ?_ ?_ <;> intro _ <;> try (exfalso; omega)) |apply qb |apply qk |apply qx))
  ·rename_i hi;obtain ⟨u, hu⟩ : ∃ u, A[i]? = some u := ⟨_, List.getElem?_eq_getElem (by omega)⟩;obtain ⟨hu0, hu1⟩ := wx.get hu;obtain ⟨D, hD⟩ : ∃ D, D = os ++ List.replicate (A.length - i) 0 := ⟨_, rfl⟩
   have hDl : D.length = A.length + B.length := by rw [hD, List.length_append, List.length_replicate]; omega
   have hDw : WOk D := by rw [hD]; exact h2.append (WOk.zeros _)
   refine AWP.loop (G := Nat × List Int × Int) (fun (k, ps, c) => k ≤ B.length ∧ ps.length = i + k ∧ WOk ps ∧ WOk (ps ++ D.drop ps.length) ∧ 0 ≤ c ∧ c < 4294967296 ∧ val ps + BB ps.length * c = val (D.take ps.length) + BB i * (u * val (B.take k)))
    (fun (k, ps, c) => St.of [] [(2, .ptr 2 0), (3, .ptr 3 0), (4, .ptr 4 0), (5, .row 16), (6, aN i), (7, aU c), (8, aN k)] [(2, .cells [aB (decide (x < 0)), aW A] 35), (3, .cells [aB (decide (y < 0)), aW B] 35), (4, .cells [aB false, .v (.slice none 0 0)] 35), (16, .row 1 eW (ps ++ D.drop ps.length) 62)])
    (fun (k, ps, c) => B.length - k) (0, D.take i, 0) ⟨by omega, by rw [List.length_take]; omega, hDw.take i, by rw [List.length_take, Nat.min_eq_left (by omega), List.take_append_drop]; exact hDw, by omega, by omega, by rw [List.length_take, Nat.min_eq_left (by omega)]; simp [val]⟩ ?_ ?_
   ·refine Ent.of [] ?_ ?_ rfl rfl;(repeat' (first |exact True.intro |refine ⟨⟨AV.Le.refl _, rfl⟩, ?_⟩ |refine ⟨⟨⟨_, rfl, BLe.cells (LeL.refl _)⟩, rfl⟩, ?_⟩ |refine ⟨⟨⟨_, rfl, BLe.row ?_⟩, rfl⟩, ?_⟩|fail));rw [List.length_take, Nat.min_eq_left (by omega), List.take_append_drop, hD]
   ·intro ⟨k, ps, c⟩ ⟨k0, k1, k2, k3, k4, k5, k6⟩
    have hkl : (ps ++ D.drop ps.length).length = A.length + B.length := by rw [List.length_append, List.length_drop]; omega
    (repeat' (first |refine qv ?_ |apply qn |refine Fl.nil (fun _ => by kernel_rfl) ?_ |apply qs |apply qr |refine qw ?_ |(refine Fl.mulW rfl rfl rfl rfl rfl (by omega) (by omega) (by omega) (by omega) ?_; intro _ _) |(refine AWP.condD rfl ?_ ?_ <;> intro _ <;> try (exfalso; omega)) |apply qb |apply qk |apply qx |refine qK ?_ |(refine Fl.elW rfl rfl rfl rfl rfl rfl rfl rfl (by omega) (by omega) (by assumption) ?_; intro _ _ _ _) |refine Fl.rel rfl rfl rfl rfl rfl rfl rfl rfl (by omega) (by first | omega | (simp; omega)) ?_ |(refine Fl.rldW rfl rfl rfl rfl rfl rfl rfl (fun _ => rfl) (fun _ => rfl) (by first | omega | (simp; omega)) (by assumption) ?_; intro _ _ _ _) |refine Fl.rst rfl rfl rfl rfl rfl rfl rfl rfl rfl rfl rfl (LeL.refl _) rfl (by first | omega | (simp; omega)) ?_|fail))
    ·rename_i hk v hv hv0 hv1 hp0 hp1 w hw hw0 hw1;rw [Int.toNat_natCast] at hv
     have hw2 : D[ps.length]? = some w := by rw [← get_drop (os := ps) (k := (↑i + ↑k : Int).toNat) (by omega)]; exact hw
     have hstep := times_step k1 hw2 hv k6 rfl;refine LoopEnd.of (k + 1, ps ++ [(c + (u * v + w)) % 4294967296], (c + (u * v + w)) / 4294967296) ⟨by omega, by rw [List.length_append, k1]; rfl, k2.append (WOk.cons (by omega) (by omega) WOk.nil), ?_, by omega, by omega, by rw [List.length_append]; exact hstep⟩ (by simp only; omega) ?_
     ·rw [List.length_append];exact (k2.append (WOk.cons (by omega) (by omega) WOk.nil)).append (hDw.drop _)
     ·refine Ent.of [] ?_ ?_ rfl rfl;(repeat' (first |exact True.intro |refine ⟨⟨AV.Le.refl _, rfl⟩, ?_⟩ |refine ⟨⟨⟨_, rfl, BLe.cells (LeL.refl _)⟩, rfl⟩, ?_⟩ |refine ⟨⟨⟨_, rfl, BLe.row ?_⟩, rfl⟩, ?_⟩|fail))
      all_goals first
       | (rw [List.length_append]; exact set_drop (by omega) (by omega) (by rw [bitN_and32 (by omega)]; omega))
       | (rw [p32]; omega)
    ·rename_i hk
     have hkk : k = B.length := by omega
     refine LoopEnd.of (i + 1, ps ++ [c]) ⟨by omega, by simp; omega, k2.append (WOk.cons k4 k5 WOk.nil), ?_⟩ (by simp only; omega) ?_
     ·rw [val_snoc, k6, val_take_succ hu, show ps.length = os.length by omega, hD, List.take_left, h3, hkk, List.take_length];grind
     ·refine Ent.of [] ?_ ?_ rfl rfl;(repeat' (first |exact True.intro |refine ⟨⟨AV.Le.refl _, rfl⟩, ?_⟩ |refine ⟨⟨⟨_, rfl, BLe.cells (LeL.refl _)⟩, rfl⟩, ?_⟩ |refine ⟨⟨⟨_, rfl, BLe.row ?_⟩, rfl⟩, ?_⟩|fail));rw [show D.drop ps.length = List.replicate (A.length - i) 0 by rw [hD, show ps.length = os.length by omega, List.drop_left]];exact set_rep (by omega) (by omega) (by omega)
  ·rename_i hi
   have hii : i = A.length := by omega
   refine Fl.callF rfl 16 rfl (rMake_ok _ os h2 (by omega)) rfl rfl rfl (LeL.cons (AV.Le.refl _) (LeL.cons (AV.Le.sl ?_) LeL.nil)) ?_
   ·rw [hii, Nat.sub_self]; simp
   (repeat' (first |apply qn |refine qe ?_ |apply qt));refine RetOk.of rfl (AV.Le.agg (leX (σ := []) ?_));rw [h3, hii, List.take_length, hsx, hsy, ← sg_mul x y]
theorem rAdd_ok (x y : Int) (hxl : (toW x.natAbs).length ≤ 40000) (hyl : (toW y.natAbs).length ≤ 40000) : PureFn Tryz.prog 44 [aX x, aX y] (aX (x + y)) := by
 refine PureFn.of_body Tryz.func44 rfl Tryz.ntmps44 rfl rfl ?_;have wx := toW_ok x.natAbs;have wy := toW_ok y.natAbs;have hsx := val_toW (show 0 ≤ (x.natAbs : Int) by omega);have hsy := val_toW (show 0 ≤ (y.natAbs : Int) by omega);have bx := val_lt wx;have by' := val_lt wy;have hord := rorder_ok x.natAbs y.natAbs (by omega) (by omega) (by omega) (by omega)
 have hlen : ∀ a b : Int, 0 ≤ b → b ≤ a → (toW b).length ≤ (toW a).length := fun a b hb h => by
  rcases Nat.lt_or_ge (toW a).length (toW b).length with k | k
  ·have := toW_len_lt (by omega) hb k; omega
  ·exact k
 (repeat' (first |refine qv ?_ |apply qn |apply qs |apply qr |refine qe ?_ |(refine AWP.condD rfl ?_ ?_ <;> intro _ <;> try (exfalso; omega)) |apply qk))
 ·rename_i hsg;rw [decide_eq_decide] at hsg;obtain ⟨N, hN⟩ : ∃ N : Nat, N = (if (toW y.natAbs).length > (toW x.natAbs).length then (toW y.natAbs).length else (toW x.natAbs).length) + 1 := ⟨_, rfl⟩;refine Fl.call rfl (rplus_ok _ _ wx wy (by omega) (by omega) N hN) rfl rfl rfl (LeL.refl _) ?_;skip;refine Fl.call rfl (rMake_ok (decide (x < 0)) _ (padW_ok _ _) (by rw [padW_len]; split at hN <;> omega)) rfl rfl rfl (LeL.refl _) ?_;(repeat' (first |refine Fl.nil (fun _ => by kernel_rfl) ?_ |refine qe ?_ |apply qt));refine RetOk.of rfl (AV.Le.agg (leX (σ := []) ?_));have b3 := BB_le (show (toW x.natAbs).length ≤ N - 1 by split at hN <;> omega);have b4 := BB_le (show (toW y.natAbs).length ≤ N - 1 by split at hN <;> omega)
  have b5 : BB N = 4294967296 * BB (N - 1) := by rw [← BB_succ]; congr 1; omega
  have b6 := BB_pos (N - 1);rw [padW_val (by omega) (by omega), hsx, hsy];simp only [sg]; simp; split <;> omega
 ·rename_i hsg;rw [decide_eq_decide] at hsg;refine qc (hord) ?_;(repeat' (first |refine qv ?_ |apply qn |apply qs |apply qr |(refine AWP.condD rfl ?_ ?_ <;> intro _ <;> try (exfalso; omega)) |apply qk))
  ·rename_i hge
   have hge2 : (y.natAbs : Int) ≤ x.natAbs := by unfold cmpI at hge; split at hge <;> omega
   refine Fl.call rfl (rminus_ok _ _ wx wy (by omega) (hlen _ _ (by omega) hge2) (by omega)) rfl rfl rfl (LeL.refl _) ?_;skip;refine Fl.call rfl (rMake_ok (decide (x < 0)) _ (padW_ok _ _) (by rw [padW_len]; omega)) rfl rfl rfl (LeL.refl _) ?_;(repeat' (first |refine Fl.nil (fun _ => by kernel_rfl) ?_ |refine qe ?_ |apply qt));refine RetOk.of rfl (AV.Le.agg (leX (σ := []) ?_));rw [padW_val (by omega) (by omega), hsx, hsy];simp only [sg]; simp; split <;> omega
  ·rename_i hge
   have hge2 : (x.natAbs : Int) ≤ y.natAbs := by
    unfold cmpI at hge;split at hge
    ·omega
    ·split at hge <;> omega
   refine Fl.call rfl (rminus_ok _ _ wy wx (by omega) (hlen _ _ (by omega) hge2) (by omega)) rfl rfl rfl (LeL.refl _) ?_;skip;refine Fl.call rfl (rMake_ok (decide (y < 0)) _ (padW_ok _ _) (by rw [padW_len]; omega)) rfl rfl rfl (LeL.refl _) ?_;(repeat' (first |refine Fl.nil (fun _ => by kernel_rfl) ?_ |refine qe ?_ |apply qt));refine RetOk.of rfl (AV.Le.agg (leX (σ := []) ?_));rw [padW_val (by omega) (by omega), hsx, hsy];simp only [sg]; simp; split <;> omega
end Go.Proofs.YtcaecieigoplbaaGreat
namespace Go.AL
def lenI (x : Int) : Nat := (toW x.natAbs).length
theorem lenI_le {x : Int} {n : Nat} : lenI x ≤ n ↔ (x.natAbs : Int) < BB n := toW_len_le (by omega) n
theorem lenI_lt (x : Int) : (x.natAbs : Int) < BB (lenI x) := lenI_le.1 (Nat.le_refl _)
theorem lenI_mul (x y : Int) : lenI (x * y) ≤ lenI x + lenI y := by
 rw [lenI_le, Int.natAbs_mul, BB_add, Int.natCast_mul];have h1 := lenI_lt x;have h2 := lenI_lt y;have p1 := BB_pos (lenI x);have p2 := BB_pos (lenI y);have e1 : (x.natAbs : Int) * y.natAbs ≤ x.natAbs * BB (lenI y) := Int.mul_le_mul_of_nonneg_left (by omega) (by omega);have e2 : (x.natAbs : Int) * BB (lenI y) < BB (lenI x) * BB (lenI y) := Int.mul_lt_mul_of_pos_right h1 p2;omega
def AS (X : List Int) (l : List TZ) : Int := sumL (l.map fun t => ((tv X t).natAbs : Int))
end Go.AL
namespace Go.Proofs.YtcaecieigoplbaaGreat
open Go.AL

end Go.Proofs.YtcaecieigoplbaaGreat
namespace Go.AL
end Go.AL
namespace Go.Proofs.YtcaecieigoplbaaGreat
open Go.AL

end Go.Proofs.YtcaecieigoplbaaGreat
namespace Go.AL
theorem Fit.lenI {x : Int} (h : Fit x) : lenI x ≤ 4096 := h.len
end Go.AL
namespace Go.Proofs.YtcaecieigoplbaaGreat
open Go.AL

end Go.Proofs.YtcaecieigoplbaaGreat
namespace Go.AL
structure TermsOk (n : Nat) (M : Nat) (l : List TZ) : Prop where
  w : ∀ t ∈ l, WT t
  c : ∀ t ∈ l, t.c = zOf (zval t.c)
  e : ∀ t ∈ l, EOk t.e ∧ t.e.length = n
  m : ∀ t ∈ l, lenI (zval t.c) ≤ M
end Go.AL
namespace Go.Proofs.YtcaecieigoplbaaGreat
open Go.AL

end Go.Proofs.YtcaecieigoplbaaGreat
namespace Go.AL
theorem zval_zOf (x : Int) : zval (zOf x) = x := by
 unfold zval zOf;simp only;rw [val_toW (by omega)];simp only [sg];split
 ·rename_i h; simp at h; omega
 ·rename_i h; simp at h; omega
theorem EOk.zeros (n : Nat) : EOk (List.replicate n 0) := fun e he => by rw [List.eq_of_mem_replicate he]; omega
theorem TermsOk.one {n M : Nat} {x : Int} {e : List Int} (h1 : lenI x ≤ M) (h2 : EOk e) (h3 : e.length = n) : TermsOk n M [⟨zOf x, e⟩] := by
 refine ⟨?_, ?_, ?_, ?_⟩ <;> (intro t ht; simp only [List.mem_singleton] at ht; subst ht)
 ·exact toW_ok _
 ·rw [zval_zOf]
 ·exact ⟨h2, h3⟩
 ·rw [zval_zOf]; exact h1
theorem TermsOk.nil (n M : Nat) : TermsOk n M [] := by constructor <;> (intro t h; cases h)
theorem toW_len0 (x : Int) : (toW x.natAbs).length = 0 ↔ x = 0 := by
 have := toW_nil_iff (z := x.natAbs) (by omega);rw [List.length_eq_zero_iff, this]; omega
end Go.AL
namespace Go.Proofs.YtcaecieigoplbaaGreat
open Go.AL

theorem lenI_small {x : Int} (h : x.natAbs < 4294967296) : lenI x ≤ 1 := by
 rw [lenI_le, show (1 : Nat) = 0 + 1 from rfl, BB_succ, BB_zero]; omega
end Go.Proofs.YtcaecieigoplbaaGreat
namespace Go.AL
theorem EOk.set {l : List Int} (h : EOk l) (i : Nat) {v : Int} (h0 : 0 ≤ v) (h1 : v ≤ 120) : EOk (l.set i v) := fun e he => by
 rcases List.mem_or_eq_of_mem_set he with k | k
 ·exact h e k
 ·subst k; exact ⟨h0, h1⟩
theorem OkP.one {n : Nat} {x : Int} {e : List Int} (hn : n ≤ 32) (hx : Fit x) (h0 : x ≠ 0) (he : EOk e) (hl : e.length = n) (hd : sumL e ≤ 120) : OkP ⟨n, [⟨zOf x, e⟩]⟩ := by
 refine ⟨by simp, by simp only; omega, by simp, fun t ht => ?_, fun i a b h1 h2 => by simp at h2⟩;simp only [List.mem_singleton] at ht;subst ht;exact ⟨okZ_zOf hx, fun h => h0 ((toW_len0 x).1 h), by simp only; omega, he, hd⟩
theorem WP.one {n : Int} {x : Int} {e : List Int} : WP ⟨n, [⟨zOf x, e⟩]⟩ := fun t ht => by
 simp only [List.mem_singleton] at ht; subst ht; exact toW_ok _
end Go.AL
namespace Go.Proofs.YtcaecieigoplbaaGreat
open Go.AL

end Go.Proofs.YtcaecieigoplbaaGreat
/- From what a claim's arguments read az to abstract values over the memory az it stands. -/
namespace Go.AL
def hpOf (w : World) : Hp := fun b => match w.heap[b]? with | some (.cells cs _ _) => some cs | _ => none
theorem hpOf_has (w : World) : Has w (hpOf w) := fun b cs h => by
 unfold hpOf at h;split at h
 ·rename_i cs' t fr hb;injection h with h; subst h;exact ⟨t, fr, hb⟩
 ·cases h
theorem hcell_of {w : World} {a : Addr} {u : Value} (h : w.cell? a = some u) : hcell (hpOf w) a u := by
 unfold World.cell? at h;split at h
 ·rename_i c t fr hb;split at h
  ·cases h
  ·rename_i hs;exact ⟨by simpa using hs, c, by simp [hpOf, hb], h⟩
 ·cases h
theorem mapM_get {α β : Type} {f : α → Option β} : ∀ {l : List α} {r : List β}, l.mapM f = some r → r.length = l.length ∧ ∀ (i : Nat) (x : α) (y : β), l[i]? = some x → r[i]? = some y → f x = some y
 | [], r, h => by
  simp at h; subst h; simp
 | x :: l, r, h => by
  simp only [List.mapM_cons, Option.bind_eq_bind, Option.bind_eq_some_iff, Option.pure_def, Option.some.injEq] at h;obtain ⟨y, h1, ys, h2, rfl⟩ := h;obtain ⟨h3, h4⟩ := mapM_get h2;refine ⟨by simp [h3], fun i a b ha hb => ?_⟩
  cases i with
  | zero => simp at ha hb; subst ha hb; exact h1
  | succ i => exact h4 i a b (by simpa using ha) (by simpa using hb)
theorem cells_of {w : World} {base : Nat} {a : Addr} {n : Nat} {cs : List Value} (h : w.cells? base a n = some cs) : cs.length = n ∧ ∀ (j : Nat) (u : Value), cs[j]? = some u → hcell (hpOf w) (a.add j) u := by
 unfold World.cells? at h;split at h
 ·obtain ⟨h1, h2⟩ := mapM_get h;rw [List.length_range] at h1;refine ⟨h1, fun j u hu => hcell_of ?_⟩
  have hj : j < n := by rw [← h1]; exact (List.getElem?_eq_some_iff.1 hu).1
  exact h2 j j u (by simp [hj]) hu
 ·cases h
section
variable {H : Type} {enc : TypeId × Value → H} {P : Program} {w : World} {base : Nat} {spare : Nat → Bool} {held : Bool}
theorem trodInt {t : TypeId} {k : IntKind} {fuel : Nat} {cs : List Value} {x : DataW H × List MemPlace} (ht : P.underlying t = some (.int k)) (h : DataW.trod enc P w base spare held fuel t cs = some x) : ∃ n, cs = [.int k n] ∧ (Lit.int k n).wf = true := by
 cases fuel with
 | zero => simp [DataW.trod] at h
 | succ fuel =>
  simp only [DataW.trod, ht] at h;split at h <;> simp_all
theorem trodBool {t : TypeId} {fuel : Nat} {cs : List Value} {x : DataW H × List MemPlace} (ht : P.underlying t = some .bool) (h : DataW.trod enc P w base spare held fuel t cs = some x) : ∃ b, cs = [.bool b] := by
 cases fuel with
 | zero => simp [DataW.trod] at h
 | succ fuel =>
  simp only [DataW.trod, ht] at h;split at h <;> simp_all
theorem trodSlice {α : Type} (sz : Nat) (en : α → List AV) (Q : α → Prop) {t e : TypeId} {fuel : Nat} {cs : List Value} {x : DataW H × List MemPlace} (ht : P.underlying t = some (.slice e)) (hsz : P.cellsOf e = sz)
  (hel : ∀ (fuel : Nat) (us : List Value) (y : DataW H × List MemPlace), us.length = sz → DataW.trod enc P w base spare held fuel e us = some y → ∃ a, RepL (hpOf w) noB (en a) us ∧ Q a)
  (h : DataW.trod enc P w base spare held fuel t cs = some x) : ∃ (xs : List α) (u : Value), cs = [u] ∧ Rep (hpOf w) noB (.sl sz en xs) u ∧ (∀ a ∈ xs, Q a) ∧ xs.length ≤ maxLen := by
 cases fuel with
 | zero => simp [DataW.trod] at h
 | succ fuel =>
  simp only [DataW.trod, ht] at h;split at h <;> try (simp_all; done)
  ·refine ⟨[], _, rfl, ?_, by simp, by simp [maxLen]⟩;simp only [Rep];exact ⟨none, 0, rfl, by simp, by simp [maxLen], fun i y hy => by simp at hy⟩
  ·rename_i e' a len cap heq;injection heq with heq; injection heq with heq; subst heq;split at h
   ·rename_i hc;simp only [Option.bind_eq_some_iff] at h;obtain ⟨elems, h1, _⟩ := h;obtain ⟨h2, h3⟩ := mapM_get h1;rw [List.length_range] at h2
    have hall : ∀ i, i < len → ∃ (us : List Value) (a' : α), us.length = sz ∧ (∀ (j : Nat) (u : Value), us[j]? = some u → hcell (hpOf w) ((a.add (i * sz)).add j) u) ∧ RepL (hpOf w) noB (en a') us ∧ Q a' := by
     intro i hi;have := h3 i i (elems[i]'(by omega)) (by simp [hi]) (List.getElem?_eq_getElem _);simp only [Option.bind_eq_some_iff] at this;obtain ⟨us, hu1, hu2⟩ := this;rw [hsz] at hu1;obtain ⟨hu3, hu4⟩ := cells_of hu1;obtain ⟨a', ha1, ha2⟩ := hel fuel us _ hu3 hu2;exact ⟨us, a', hu3, hu4, ha1, ha2⟩
    have hex : ∃ xs : List α, xs.length = len ∧ ∀ (i : Nat) (y : α), xs[i]? = some y → ∃ us : List Value, us.length = sz ∧ (∀ (j : Nat) (u : Value), us[j]? = some u → hcell (hpOf w) ((a.add (i * sz)).add j) u) ∧ RepL (hpOf w) noB (en y) us ∧ Q y := by
     have : ∀ n, n ≤ len → ∃ xs : List α, xs.length = n ∧ ∀ (i : Nat) (y : α), xs[i]? = some y → ∃ us : List Value, us.length = sz ∧ (∀ (j : Nat) (u : Value), us[j]? = some u → hcell (hpOf w) ((a.add (i * sz)).add j) u) ∧ RepL (hpOf w) noB (en y) us ∧ Q y := by
      intro n
      induction n with
      | zero => exact fun _ => ⟨[], rfl, fun i y hy => by simp at hy⟩
      | succ n ih =>
       intro hn;obtain ⟨xs, hx1, hx2⟩ := ih (by omega);obtain ⟨us, a', q1, q2, q3, q4⟩ := hall n (by omega);refine ⟨xs ++ [a'], by simp [hx1], fun i y hy => ?_⟩;rw [List.getElem?_append] at hy;split at hy
       ·exact hx2 i y hy
       ·rename_i hi
        have hin : i = n := by
         have := (List.getElem?_eq_some_iff.1 hy).1;simp at this; omega
        subst hin;rw [hx1, Nat.sub_self] at hy;simp at hy; subst hy;exact ⟨us, q1, q2, q3, q4⟩
     exact this len (Nat.le_refl _)
    obtain ⟨xs, hx1, hx2⟩ := hex;refine ⟨xs, _, rfl, ?_, fun y hy => ?_, by omega⟩
    ·simp only [Rep];refine ⟨some a, cap, by rw [hx1], by omega, by omega, fun i y hy => ?_⟩;obtain ⟨us, q1, q2, q3, _⟩ := hx2 i y hy;refine ⟨a, us, rfl, q1, q3, fun j u hu => ?_⟩;have := q2 j u hu
     have hadd : (a.add (i * sz)).add j = a.add (i * sz + j) := by
      unfold Addr.add;by_cases k1 : i * sz = 0
      ·rw [k1]; simp
      ·by_cases k2 : j = 0
       ·subst k2; simp [k1]
       ·simp [k1, k2, Nat.add_assoc]
     rwa [hadd] at this
    ·obtain ⟨i, hi, rfl⟩ := List.mem_iff_getElem.1 hy;obtain ⟨_, _, _, _, hq⟩ := hx2 i _ (List.getElem?_eq_getElem hi);exact hq
   ·cases h
end
end Go.AL
namespace Go.AL
def ZB (z : Z) : Prop := WOk z.w ∧ z.w.length ≤ maxLen
theorem list2 {α : Type} {l : List α} (h : l.length = 2) : ∃ a b, l = [a, b] := by
 match l, h with
 | [a, b], _ => exact ⟨a, b, rfl⟩
end Go.AL
namespace Go.Proofs.YtcaecieigoplbaaGreat
open Go.AL Go.ChangeShapes Go.WideShapes Go.ChangeAt Go.RowKit

section
variable {H : Type} {enc : TypeId × Value → H} {w : World} {base : Nat} {spare : Nat → Bool} {held : Bool}
theorem wfU32 {n : Int} (h : (Lit.int .u32 n).wf = true) : 0 ≤ n ∧ n < 4294967296 := by
 simp [Lit.wf] at h;have h1 : IntKind.u32.min = 0 := rfl;have h2 : IntKind.u32.max = 4294967295 := rfl;omega
theorem trodW {fuel : Nat} {cs : List Value} {x : DataW H × List MemPlace} (h : DataW.trod enc Tryz.prog w base spare held fuel 33 cs = some x) : ∃ (xs : List Int) (u : Value), cs = [u] ∧ Rep (hpOf w) noB (aW xs) u ∧ WOk xs ∧ xs.length ≤ maxLen := by
 refine trodSlice 1 eW (fun n => 0 ≤ n ∧ n < 4294967296) Tryz.underlying33 (by kernel_rfl) (fun fuel us y _ hy => ?_) h;obtain ⟨n, rfl, hn⟩ := trodInt Tryz.underlying62 hy;exact ⟨n, ⟨_, _, rfl, by simp only [Rep], rfl⟩, wfU32 hn⟩
theorem trodZ {fuel : Nat} {cs : List Value} {x : DataW H × List MemPlace} (h : DataW.trod enc Tryz.prog w base spare held fuel 35 cs = some x) : ∃ z : Z, RepL (hpOf w) noB (eZ z) cs ∧ ZB z := by
 obtain ⟨y0, y1, n, _, hl, h0, h1⟩ := trod_struct2 Tryz.underlying35 h
 have hc : Tryz.prog.cellsOf 35 = 2 := by kernel_rfl
 have hb : Tryz.prog.cellsOf 4 = 1 := by kernel_rfl
 have hs : Tryz.prog.cellsOf 33 = 1 := by kernel_rfl
 rw [hc] at hl;obtain ⟨c0, c1, rfl⟩ := list2 hl;simp only [hb, hs, List.drop_zero, List.take_succ_cons, List.take_zero, List.drop_succ_cons] at h0 h1;obtain ⟨b, e0⟩ := trodBool Tryz.underlying4 h0;obtain ⟨xs, u, e1, hr, hw, hm⟩ := trodW h1;injection e0 with e0; injection e1 with e1; subst e0 e1;exact ⟨⟨b, xs⟩, ⟨_, _, rfl, by simp only [Rep], ⟨_, _, rfl, hr, rfl⟩⟩, hw, hm⟩
end
theorem below_of {W W' : World} {h h' : Hp} (e : Evo never W h W' h') : Below W.heap.size W W' := ⟨e.os, e.tape, e.output.1, e.size, fun k hk => e.block k hk (fun x => x)⟩
theorem own : ownKnob Tryz.prog.godebug = none := by kernel_rfl
theorem lb : laidOutB Tryz.prog = true := by kernel_rfl
end Go.Proofs.YtcaecieigoplbaaGreat
/- Arguments that are lists of numbers. -/
namespace Go.Proofs.YtcaecieigoplbaaGreat
open Go.AL Go.ChangeShapes Go.WideShapes Go.ChangeAt Go.RowKit
section
variable {H : Type} {enc : TypeId × Value → H} {w : World} {base : Nat} {spare : Nat → Bool} {held : Bool}
theorem trodXs1 {fuel : Nat} {cs : List Value} {x : DataW H × List MemPlace} (h : DataW.trod enc Tryz.prog w base spare held fuel 27 cs = some x) : ∃ (xs : List Z) (u : Value), cs = [u] ∧ Rep (hpOf w) noB (.sl 2 eZ xs) u ∧ (∀ z ∈ xs, ZB z) ∧ xs.length ≤ maxLen :=
 trodSlice 2 eZ ZB Tryz.underlying27 (by kernel_rfl) (fun fuel us y _ hy => trodZ hy) h
end
end Go.Proofs.YtcaecieigoplbaaGreat
/- Code in a round of a range over a function: over abstract states. -/
namespace Go.AL
abbrev Rf (l : Nat) : Fence := Fence.wide.inRound l
def noDefer (ops : Array Oper) : Bool := ops.toList.all fun o => match o.op with | .defer _ => false | _ => true
theorem noDefer_ok {ops : Array Oper} (h : noDefer ops = true) {i : Nat} {o : Oper} (ho : ops[i]? = some o) : ∀ c, o.op ≠ .defer c := by
 intro c hc
 have hm : o ∈ ops.toList := by
  have : ops.toList[i]? = some o := by simpa using ho
  exact List.mem_of_getElem? this
 have := List.all_eq_true.1 h o hm;rw [hc] at this
 cases this
section
variable {P : Program} {n : Nat} {l : Nat}
theorem opIn {o : Oper} {a : Act} {w : World} {next next' : Act → World → Prop} {Q : Exit → Act → World → Prop} (hnd : ∀ c, o.op ≠ .defer c) (hn : ∀ a w, next a w → next' a w) (h : o.wp P a w next Q) : o.wpIn (Rf l) 0 P a w next' Q := by
 refine ⟨fun _ _ => trivial, ?_⟩;show o.uponIn (Rf l) 0 P a next' Q ((o.semAt (some l) a.eval).run P w);rw [Oper.semAt_eq _ _ _ hnd];unfold Oper.wp at h
 cases hr : (execOp a.eval o).run P w with
 | ok r w' =>
  rw [hr] at h
  cases r with
  | value v => exact hn _ _ h
  | skip => exact hn _ _ h
  | defer d => exact hn _ _ h
  | enter f args =>
   refine ⟨fun hd => (by cases hd), ?_⟩;refine CallsIn.inRound l (callsIn_wide.2 (Calls.mono h fun e w'' hh => ?_))
   cases e with
   | returned v => exact hn _ _ hh
   | panicked ch => exact hh
   | outgrown => exact hh
  | row row args =>
   refine ⟨fun hd => (by cases hd), ?_⟩;exact fun c cs _ => let ⟨v, w'', r, st⟩ := h c cs; ⟨v, w'', hn _ _ r, stepsIn_wide.2 st⟩
  | _ => exact h.elim
 | halt r w' =>
  rw [hr] at h
  cases r with
  | panic v => exact h
  | _ => exact h.elim
theorem wpOps_in {ops : Array Oper} {Q : Exit → Act → World → Prop} (hnd : noDefer ops = true) (hQ : ¬ LetsOut Q) : ∀ (is : List Nat) (a : Act) (w : World), wpOps P ops Q is a w → wpOpsIn (Rf l) 0 P ops Q is a w
 | [], a, w, h => h
 | i :: is, a, w, h => by
  unfold wpOps at h;unfold wpOpsIn
  cases ho : ops[i]? with
  | none => rw [ho] at h; exact wpOps_in hnd hQ is a w h
  | some o =>
   rw [ho] at h;dsimp only at h ⊢;split
   ·rename_i hw;rw [if_pos hw] at h;rcases h with h | ⟨_, h⟩
    ·exact opIn (noDefer_ok hnd ho) (fun a w => wpOps_in hnd hQ is a w) h
    ·exact absurd h hQ
   ·rename_i hw;rw [if_neg hw] at h;exact ⟨fun _ _ => trivial, wpOps_in hnd hQ is _ w h⟩
end
end Go.AL
/- Code in a round, over abstract states; code that leaves marks of loops behind. -/
namespace Go.AL
def ownM (s : St) (β : Bt) : Nat → Prop := fun g => ∃ id B, s.bx id = some B ∧ blk (β id) = some g
section
variable {P : Program} {tab : Tab} {n : Nat} {I : List Id} {Q : Exit → St → Prop} {s s' : St} {C : Cx} {a a' : Act} {w w' : World} {h h' : Hp} {β β' : Bt}
theorem Base.reroot (k : Base C n s a w h β) (d : List Deferred) {β0 : Bt} (hb : β0.le β) : Base ⟨w, h, β0, ownM s β, d⟩ n s { a with defers := d } w h β :=
 ⟨Evo.refl _ k.evo.has, hb, k.slot, k.box, k.apart, fun id B _ h1 h2 => .inl ⟨id, B, h1, h2⟩, k.dom, k.size, rfl⟩
theorem Base.unroot (k : Base C n s a w h β) {d : List Deferred} {β0 : Bt} (h0 : C.β0.le β0) (r : Base ⟨w, h, β0, ownM s β, d⟩ n s' a' w' h' β') : Base { C with dfr := d } n s' a' w' h' β' := by
 have hown : ∀ g, ownM s β g → C.M g ∨ C.w0.heap.size ≤ g := fun g ⟨id, B, h1, h2⟩ => k.own id B g h1 h2;refine ⟨k.evo.trans r.evo hown, Bt.le.trans h0 r.b0, r.slot, r.box, r.apart, fun id B g h1 h2 => ?_, r.dom, r.size, r.defers⟩;rcases r.own id B g h1 h2 with hg | hg
 ·exact hown g hg
 ·exact .inr (Nat.le_trans k.evo.size hg)
theorem BoxAt.obj {id : Id} {B : Bx} (k : BoxAt w h β id B) {g : Nat} (hg : blk (β id) = some g) : (∀ ds, w.heap[g]? ≠ some (.deferred ds)) ∧ (∀ r, w.heap[g]? ≠ some (.loop r)) := by
 cases B with
 | cells cs t =>
  obtain ⟨g', us, e1, e2, _⟩ := k;rw [e1] at hg; simp only [blk] at hg; injection hg with hg; subst hg;rw [e2]; exact ⟨fun _ h => (by cases h), fun _ h => (by cases h)⟩
 | row sz enc xs t =>
  obtain ⟨v, vals, e1, ⟨_, e2 | ⟨g', cap, cur, e2, _, e3, _⟩⟩, _⟩ := k
  ·rw [e1, e2.1] at hg; simp [blk] at hg
  ·rw [e1, e2] at hg; simp only [blk] at hg; injection hg with hg; subst hg;rw [e3]; exact ⟨fun _ h => (by cases h), fun _ h => (by cases h)⟩
 | map ek av xs clock =>
  obtain ⟨g', es, e1, e2, _⟩ := k;rw [e1] at hg; simp only [blk] at hg; injection hg with hg; subst hg;rw [e2]; exact ⟨fun _ h => (by cases h), fun _ h => (by cases h)⟩
 | iter m since seen last =>
  obtain ⟨r, g', e1, _, e2, _⟩ := k;rw [e1] at hg; simp only [blk] at hg; injection hg with hg; subst hg;rw [e2]; exact ⟨fun _ h => (by cases h), fun _ h => (by cases h)⟩
theorem Base.not_own (k : Base C n s a w h β) {D : Nat} (hD : (∃ ds, w.heap[D]? = some (.deferred ds)) ∨ (∃ r, w.heap[D]? = some (.loop r))) : ¬ ownM s β D := by
 rintro ⟨id, B, h1, h2⟩;obtain ⟨h3, h4⟩ := (k.box id B h1).obj h2;rcases hD with ⟨ds, hd⟩ | ⟨r, hd⟩
 ·exact h3 _ hd
 ·exact h4 _ hd
/-! ### In a round -/
structure RWP (P : Program) (n : Nat) (I : List Id) (l : Nat) (c : Code) (Q : Exit → St → Prop) (s : St) : Prop where
  out : ∀ (C : Cx) (a : Act) (w : World) (h : Hp) (β : Bt), IniOk C I → Base C n s a w h β → c.wpIn (Rf l) 0 P (fun e a' w' => ∃ s' h' β', Base C n s' a' w' h' β' ∧ Q e s') a w
variable {l : Nat}
theorem RWP.ent {c : Code} (he : Ent n I s s') (k : RWP P n I l c Q s') : RWP P n I l c Q s :=
 ⟨fun C a w hp β hi b => let ⟨h', β', b'⟩ := he C a w hp β hi b; k.out C a w h' β' hi b'⟩
theorem RWP.seq {c d : Code} (k : RWP P n I l c (AThen (fun s => RWP P n I l d Q s) Q) s) : RWP P n I l (.seq c d) Q s :=
 ⟨fun C a w hp β hi b => wpIn_seq (wpIn_mono (k.out C a w hp β hi b) fun e a w ⟨s', h', β', b, q⟩ => by
  cases e with
  | normal => exact q.out C a w h' β' hi b
  | _ => exact ⟨s', h', β', b, q⟩)⟩
theorem RWP.skip (k : Q .normal s) : RWP P n I l .skip Q s := ⟨fun _ _ _ hp β _ b => wpIn_skip ⟨s, hp, β, b, k⟩⟩
theorem RWP.ret (k : Q .ret s) : RWP P n I l .ret Q s := ⟨fun _ _ _ hp β _ b => wpIn_ret ⟨s, hp, β, b, k⟩⟩
theorem RWP.exit {id : Nat} (k : Q (.exit id) s) : RWP P n I l (.exit id) Q s := ⟨fun _ _ _ hp β _ b => wpIn_exit ⟨s, hp, β, b, k⟩⟩
theorem RWP.block {id : Nat} {c : Code} (k : RWP P n I l c (AIn id Q) s) : RWP P n I l (.block id c) Q s :=
 ⟨fun C a w hp β hi b => wpIn_block (wpIn_mono (k.out C a w hp β hi b) fun e a w ⟨s', h', β', b, q⟩ => by
  cases e with
  | exit id' =>
   simp only [Exit.inBlock];by_cases he : id' = id
   ·subst he;rw [if_pos rfl];simp only [AIn, Nat.beq_refl] at q;exact ⟨s', h', β', b, q⟩
   ·rw [if_neg he];simp only [AIn, beq_ne he] at q;exact ⟨s', h', β', b, q⟩
  | _ => exact ⟨s', h', β', b, q⟩)⟩
theorem RWP.condD {c : Operand} {x y : Code} {p : Prop} [Decidable p] (hc : opd s c = .v (.bool (decide p))) (ht : p → RWP P n I l x Q s) (hf : ¬ p → RWP P n I l y Q s) : RWP P n I l (.cond c x y) Q s :=
 ⟨fun C a w hp β hi b => wpIn_cond_split (eval_bool b hc) (fun e => (ht (of_decide_eq_true e)).out C a w hp β hi b) (fun e => (hf (of_decide_eq_false e)).out C a w hp β hi b)⟩
theorem RWP.region [f : Facts P tab] {id : Nat} {ops : Array Oper} {draw : Bool} {K : St → Prop} (hnd : noDefer ops = true) (hQ : ∀ s, K s → Q .normal s) (k : Fl P n ops ⟨draw, []⟩ ops.toList s [] (fun e s => e = .normal ∧ K s)) : RWP P n I l (.region id ops draw) Q s := by
 have hno : ∀ (l : List Oper) (Es : List Eff) (i : Nat) (s : St), appAll (fun i => (Array.replicate ops.size false).getD i false) i l Es s = s := by
  intro l Es i s;refine appAll_none _ l Es i s fun k _ => ?_;by_cases hk : k < ops.size <;> simp [Array.getD_eq_getD_getElem?, hk]
 have hclo : Closed ops (fun i => (Array.replicate ops.size false).getD i false) := by
  intro j o hj hd;have : j < ops.size := (Array.getElem?_eq_some_iff.1 hj).1;simp [Array.getD_eq_getD_getElem?, this] at hd
 have hcnt : cnt ops.size (fun i => (Array.replicate ops.size false).getD i false) ≤ ops.size := by
  have : ∀ (m : Nat) (D : Nat → Bool), cnt m D ≤ m := by
   intro m D
   induction m with
   | zero => simp [cnt]
   | succ m ih => simp only [cnt]; cases D m <;> simp <;> omega
  exact this _ _
 rcases k.out with ⟨Es, s', hch, hck, _, hK⟩ | ⟨l1, o, l2, Es, s', E, chain, hl, hch, hg, hthr, hck, hQt, hQf⟩
 ·refine ⟨fun C a w hp β hi b => ?_⟩
  have hlo : ¬ LetsOut (fun (e : Exit) (a' : Act) (w' : World) => e = .normal ∧ ∃ h' β', Base C n s' a' w' h' β') := fun ⟨_, _, e, _⟩ => by cases e
  have fin : ∀ (e : Exit) (a' : Act) (w' : World), (e = .normal ∧ ∃ h' β', Base C n s' a' w' h' β') → ∃ s' h' β', Base C n s' a' w' h' β' ∧ Q e s' := fun e a' w' ⟨he, h', β', b'⟩ => ⟨s', h', β', b', by rw [he]; exact hQ _ hK⟩
  cases draw with
  | false =>
   refine wpIn_mono (wpIn_region (wpOps_in hnd hlo _ _ _ ?_)) fin;have := wp_seq_ops (C := C) (Q := fun (e : Exit) (a' : Act) (w' : World) => e = .normal ∧ ∃ h' β', Base C n s' a' w' h' β') hch [] (InvJ.nil _) (List.range ops.size) a w hp β (by simp) (fun j i o h1 h2 => ?_) b (fun a w h β _ b => ⟨rfl, h, β, b⟩)
   ·rwa [List.append_nil] at this
   ·have hji : j = i ∧ j < ops.size := by
     rw [List.getElem?_range] at h1
     ·injection h1 with h1; exact ⟨h1, by
       have := (List.getElem?_eq_some_iff.1 h2).1
       simpa using this⟩
     ·have := (List.getElem?_eq_some_iff.1 h2).1;simpa using this
    rw [← hji.1]; simpa using h2
  | true =>
   refine wpIn_mono (wpIn_region_draw fun t => wpOps_in hnd hlo _ _ _ ?_) fin;simp only [Region.schedule, f.mixed, Bool.true_or, if_true];refine wpAny_sound ops.size t _ a _ (any_sound (C := C) (s' := s') (InvJ.nil _) hch (by simpa using hck rfl) (fun a w h β b => ⟨rfl, h, β, b⟩) ops.size _ a _ hp β (by simp) hclo hcnt ?_);rw [hno];exact b.drew
 ·cases draw with
  | false => exact absurd (hQf rfl).1 (by simp)
  | true => exact absurd (hQt rfl s).1 (by simp)
end
end Go.AL
/- Functions whose loops leave marks behind. -/
namespace Go.AL
section
variable {P : Program} {tab : Tab} {n : Nat} {I : List Id} {Q : Exit → St → Prop} {s s' : St} {C : Cx} {a a' : Act} {w w' : World} {h h' : Hp} {β β' : Bt}
theorem Base.stepN (k : Base C n s a w h β) {N : Nat → Prop} (e : Evo N w h w' h') (hN : ∀ g, N g → C.M g ∨ C.w0.heap.size ≤ g) (hd : ∀ g, N g → ¬ ownM s β g) : Base C n s a w' h' β := by
 refine ⟨k.evo.trans e hN, k.b0, fun i => (k.slot i).mono e.le (Bt.le.refl β), fun id B hb => ?_, k.apart, k.own, k.dom, k.size, k.defers⟩;refine (k.box id B hb).keep e.le (Bt.le.refl β) fun g hg => ?_;obtain ⟨h1, h2⟩ := k.blk_lt hb hg;have hng : ¬ N g := fun hn => hd g hn ⟨id, B, hb, hg⟩;refine ⟨e.block g h1 hng, ?_⟩
 cases hh : h' g with
 | none => rfl
 | some cs =>
  exfalso;rcases e.fresh g (by rw [hh]; simp) with h3 | h3 | h3
  ·exact h3 h2
  ·omega
  ·exact hng h3
theorem evo_mark {D : Nat} {o o' : Obj} (hw : Has w h) (hD : w.heap[D]? = some o) (ho : ∀ us t f, o ≠ .cells us t f) : Evo (fun g => g = D) w h (w.putObj D o') h := by
 have hlt : D < w.heap.size := (Array.getElem?_eq_some_iff.1 hD).1
 have hn : h D = none := by
  cases hh : h D with
  | none => rfl
  | some cs =>
   obtain ⟨t, f, h1⟩ := hw D cs hh;rw [hD] at h1;injection h1 with h1;exact absurd h1 (ho _ _ _)
 refine ⟨rfl, rfl, ⟨rfl, Nat.le_refl _⟩, by simp, fun i _ hi => World.putObj_heap_other hi, Hp.le.refl h, fun _ hb => .inl hb, fun b cs hb => ?_⟩;obtain ⟨t, f, h1⟩ := hw b cs hb
 have hne : b ≠ D := fun e => by rw [e, hn] at hb; cases hb
 exact ⟨t, f, by rw [World.putObj_heap_other hne]; exact h1⟩
abbrev coll (D : Nat) : Deferred := { target := .collected D, args := #[] }
def MarksOk (w0 w : World) (ds : List Nat) : Prop := ds.Nodup ∧ ∀ D ∈ ds, w.heap[D]? = some (.deferred (some [])) ∧ w0.heap.size ≤ D
structure FWP (P : Program) (n : Nat) (I : List Id) (c : Code) (Q : Exit → St → Prop) (s : St) : Prop where
  out : ∀ (C : Cx) (a : Act) (w : World) (h : Hp) (β : Bt) (ds : List Nat), IniOk C I → Base { C with dfr := ds.map coll } n s a w h β → MarksOk C.w0 w ds →
    c.wp P (fun e a' w' => ∃ s' h' β' ds', Base { C with dfr := ds'.map coll } n s' a' w' h' β' ∧ MarksOk C.w0 w' ds' ∧ Q e s') a w
theorem FWP.lift {c : Code} (k : AWP P n I c Q s) : FWP P n I c Q s := ⟨fun C a w h β ds hi b hm => by
 have hr := b.reroot (ds.map coll) b.b0
 have ha : { a with defers := ds.map coll } = a := by cases a; simp only [Act.mk.injEq, true_and]; exact b.defers.symm
 rw [ha] at hr;refine wp_mono (k.out ⟨w, h, C.β0, ownM s β, ds.map coll⟩ a w h β hi hr) fun e a' w' ⟨s', h', β', r, q⟩ => ?_;have hu := b.unroot (β0 := C.β0) (Bt.le.refl _) r;refine ⟨s', h', β', ds, hu, ⟨hm.1, fun D hD => ?_⟩, q⟩;obtain ⟨h1, h2⟩ := hm.2 D hD
 exact ⟨by rw [r.evo.block D (Array.getElem?_eq_some_iff.1 h1).1 (b.not_own (.inl ⟨_, h1⟩))]; exact h1, h2⟩⟩
theorem FWP.ent {c : Code} (he : Ent n I s s') (k : FWP P n I c Q s') : FWP P n I c Q s :=
 ⟨fun C a w h β ds hi b hm => let ⟨h', β', b'⟩ := he { C with dfr := ds.map coll } a w h β hi b; k.out C a w h' β' ds hi b' hm⟩
theorem FWP.seq {c d : Code} (k : FWP P n I c (AThen (fun s => FWP P n I d Q s) Q) s) : FWP P n I (.seq c d) Q s :=
 ⟨fun C a w h β ds hi b hm => wp_seq (wp_mono (k.out C a w h β ds hi b hm) fun e a w ⟨s', h', β', ds', b, m, q⟩ => by
  cases e with
  | normal => exact q.out C a w h' β' ds' hi b m
  | _ => exact ⟨s', h', β', ds', b, m, q⟩)⟩
theorem FWP.block {id : Nat} {c : Code} (k : FWP P n I c (AIn id Q) s) : FWP P n I (.block id c) Q s :=
 ⟨fun C a w h β ds hi b hm => wp_block (wp_mono (k.out C a w h β ds hi b hm) fun e a w ⟨s', h', β', ds', b, m, q⟩ => by
  cases e with
  | exit id' =>
   simp only [Exit.inBlock];by_cases he : id' = id
   ·subst he;rw [if_pos rfl];simp only [AIn, Nat.beq_refl] at q;exact ⟨s', h', β', ds', b, m, q⟩
   ·rw [if_neg he];simp only [AIn, beq_ne he] at q;exact ⟨s', h', β', ds', b, m, q⟩
  | _ => exact ⟨s', h', β', ds', b, m, q⟩)⟩
theorem leavesM {fn : Func} {R : Ending → World → Prop} {xs : List Deferred} : ∀ (ds : List Nat) (w : World) (h : Hp) (β : Bt), Base { C with dfr := xs } n s a w h β → MarksOk C.w0 w ds →
  (∀ w' h' β', Base { C with dfr := xs } n s a w' h' β' → ∃ v, (results fn a.tmps).run P w' = .ok v w' ∧ R (.returned v) w') → LeavesInM Fence.wide 0 P fn a.tmps R (ds.map coll) .returning w
 | [], w, h, β, b, _, fin => fin w h β b
 | D :: ds, w, h, β, b, m, fin => by
  obtain ⟨h1, h2⟩ := m.2 D (by simp);have hnd := List.nodup_cons.1 m.1;have e := evo_mark (o' := .deferred none) b.evo.has h1 (fun _ _ _ e => by cases e);have b' := b.stepN e (fun g hg => .inr (by rw [hg]; exact h2)) (fun g hg => by rw [hg]; exact b.not_own (.inl ⟨_, h1⟩));refine ⟨by simp, .inl ⟨D, _, rfl, run_takeDeferred h1, leavesM ds _ h β b' ⟨hnd.2, fun D' hD' => ?_⟩ fin⟩⟩;obtain ⟨k1, k2⟩ := m.2 D' (by simp [hD']);refine ⟨?_, k2⟩;have hne : D' ≠ D := fun e => hnd.1 (by rw [← e]; exact hD');rw [World.putObj_heap_other hne];exact k1
theorem PureFn.of_bodyF [f : Facts P tab] {k : FuncId} {fn : Func} {c : Code} {args : List AV} {r : AV} (hf : P.funcs[k]? = some fn) (hb : fn.body = some c) (hn : fn.ntmps = n) (hname : (fn.name == "runtime.NumGoroutine") = false) (hl : Nat.ble args.length n = true)
  (hk : FWP P n [] c (RetQ n tab fn.results.toList r) (St.init args)) : PureFn P k args r := by
 have hl := Nat.le_of_ble_eq_true hl;refine ⟨⟨fn, hf, hname, by rw [hb]; rfl⟩, fun w hp us hw hr => ?_⟩;refine callsIn_wide.1 (callsIn_of_wp_marks (F := Fence.wide) (n := 0) hf hb trivial (wpIn_wide.2 ?_) rfl)
 have hus : us.size = args.length := by rw [← Array.length_toList]; exact hr.length
 have hbase : Base ⟨w, hp, noB, never, []⟩ n (St.init args) { tmps := us ++ Array.replicate (fn.ntmps - us.size) undef, defers := [] } w hp noB := by
  refine ⟨Evo.refl _ hw, Bt.le.refl _, fun i => ?_, fun id B hB => by simp [St.init] at hB, fun _ _ _ _ hB => by simp [St.init] at hB, fun _ _ _ hB => by simp [St.init] at hB, fun _ _ => rfl, by simp; omega, rfl⟩;simp only [St.init];by_cases hi : i < us.size
  ·have hget : (us ++ Array.replicate (fn.ntmps - us.size) undef).getD i undef = us[i] := by
    simp [Array.getD_eq_getD_getElem?, Array.getElem?_append, hi]
   rw [hget]
   have : ∀ (azs : List AV) (vs : List Value) (i : Nat) (v : Value), RepL hp noB azs vs → vs[i]? = some v → Rep hp noB (initE azs i) v := by
    intro azs
    induction azs with
    | nil => intro vs i v hr hv; simp only [RepL] at hr; subst hr; simp at hv
    | cons a azs ih =>
     intro vs i v hr hv;simp only [RepL] at hr;obtain ⟨u, r', rfl, h1, h2⟩ := hr
     cases i with
     | zero => simp at hv; subst hv; exact h1
     | succ i => exact ih r' i v h2 (by simpa using hv)
   exact this args us.toList i _ hr (by simp [hi])
  ·have : ∀ (azs : List AV) (i : Nat), azs.length ≤ i → initE azs i = .any := by
    intro azs
    induction azs with
    | nil => intro i _; rfl
    | cons a azs ih => intro i hi; cases i with
     | zero => simp at hi
     | succ i => exact ih i (by simpa using hi)
   rw [this args i (by omega)];simp only [Rep]
 refine wp_mono (hk.out ⟨w, hp, noB, never, []⟩ _ w hp noB [] (fun id hid => (hid rfl).elim) hbase ⟨List.nodup_nil, by simp⟩) fun e a' w' ⟨s', h', β', ds, b, m, q⟩ => ?_
 have fin : RetOk n tab fn.results.toList r s' → LeavesInM Fence.wide 0 P fn a'.tmps (fun e w' => ∃ u h', e = .returned u ∧ Evo never w hp w' h' ∧ Rep h' noB r u) a'.defers .returning w' := by
  intro hq;obtain ⟨s2, r', hent, h1, h2, h3⟩ := hq.out;obtain ⟨h', β', b⟩ := hent _ _ _ _ _ (fun id hid => (hid rfl).elim) b;rw [b.defers];refine leavesM (C := ⟨w, hp, noB, never, []⟩) ds w' h' β' b m fun w3 h3' β3 b3 => ?_;obtain ⟨v, hv1, hv2⟩ := results_ok (P := P) b3 h1;exact ⟨v, hv1, v, h3', rfl, b3.evo, h3 _ _ _ (hv2.closed _ _ h2)⟩
 cases e with
 | normal => exact fin q
 | ret => exact fin q
 | _ => exact q.elim
end
end Go.AL
/- A range over a function, at its caller. -/
namespace Go.AL
structure IterFn (P : Program) (gf : FuncId) (caps : List AV) (e : Nat → Option (List AV)) (N : Nat) : Prop where
  fn : ∃ fn, P.funcs[gf]? = some fn ∧ (fn.name == "runtime.NumGoroutine") = false ∧ fn.body.isNone = false
  calls : ∀ (W : World) (h : Hp) (us : Array Value) (l : Nat) (J : Nat → World → Hp → (Nat → Prop) → Prop) (Jx : World → Hp → (Nat → Prop) → Prop),
    Has W h → RepL h noB caps us.toList →
    (∀ i A hA T B hB T', J i A hA T → Evo T A hA B hB → (∀ g, T' g → (T g ∨ A.heap.size ≤ g) ∧ g < B.heap.size) → J i B hB T') →
    (∀ A hA T B hB T', Jx A hA T → Evo T A hA B hB → (∀ g, T' g → (T g ∨ A.heap.size ≤ g) ∧ g < B.heap.size) → Jx B hB T') →
    (∀ i xs A hA T (args : Array Value), e i = some xs → Has A hA → J i A hA T → RepL hA noB xs args.toList →
      YieldAt Fence.wide 0 P l args A fun en B => ∃ hB, Evo (fun g => ¬ T g) A hA B hB ∧ ((en = .returned (.bool true) ∧ J (i + 1) B hB T) ∨ (en = .returned (.bool false) ∧ Jx B hB T))) →
    (∀ i A hA T, J i A hA T → i < N) →
    J 0 W h never →
    Calls P gf (#[.func (.yield l) #[] #[]] ++ us) W fun en B => ∃ v hB T, en = .returned v ∧ ((∃ i, e i = none ∧ J i B hB T) ∨ Jx B hB T)
section
variable {P : Program} {tab : Tab} {n : Nat} {I : List Id} {Q : Exit → St → Prop} {s s' : St} {C : Cx} {a a' : Act} {w w' : World} {h h' : Hp} {β β' : Bt}
def anyS (s : St) : St := ⟨fun _ => .any, s.bx, s.al⟩
theorem Base.rerootN (k : Base C n s a w h β) {N : Nat → Prop} (e : Evo N w h w' h') (hd : ∀ g, N g → ¬ ownM s β g) (d : List Deferred) {β0 : Bt} (hb : β0.le β) : Base ⟨w', h', β0, ownM s β, d⟩ n s { a with defers := d } w' h' β := by
 refine ⟨Evo.refl _ e.has, hb, fun i => (k.slot i).mono e.le (Bt.le.refl β), fun id B hb => ?_, k.apart, fun id B _ h1 h2 => .inl ⟨id, B, h1, h2⟩, k.dom, k.size, rfl⟩;refine (k.box id B hb).keep e.le (Bt.le.refl β) fun g hg => ?_;obtain ⟨h1, h2⟩ := k.blk_lt hb hg;have hng : ¬ N g := fun hn => hd g hn ⟨id, B, hb, hg⟩;refine ⟨e.block g h1 hng, ?_⟩
 cases hh : h' g with
 | none => rfl
 | some cs =>
  exfalso;rcases e.fresh g (by rw [hh]; simp) with h3 | h3 | h3
  ·exact h3 h2
  ·omega
  ·exact hng h3
structure JB (C0 : Cx) (n : Nat) (sx : St) (a : Act) (l D : Nat) (o : Obj) (W : World) (hW : Hp) (T : Nat → Prop) : Prop where
  out : ∃ β', Base C0 n sx a W hW β' ∧ (∀ g, T g → g < W.heap.size ∧ ¬ ownM sx β' g ∧ C0.w0.heap.size ≤ g ∧ g ≠ l ∧ g ≠ D) ∧ W.heap[l]? = some o ∧ W.heap[D]? = some (.deferred (some []))
theorem JB.stab {C0 : Cx} {sx : St} {l D : Nat} {o : Obj} {W B : World} {hW hB : Hp} {T T' : Nat → Prop} (k : JB C0 n sx a l D o W hW T) (e : Evo T W hW B hB) (hT : ∀ g, T' g → (T g ∨ W.heap.size ≤ g) ∧ g < B.heap.size) : JB C0 n sx a l D o B hB T' := by
 obtain ⟨β', b, ht, hl, hD⟩ := k.out;have ll : l < W.heap.size := (Array.getElem?_eq_some_iff.1 hl).1;have lD : D < W.heap.size := (Array.getElem?_eq_some_iff.1 hD).1;refine ⟨β', b.stepN e (fun g hg => .inr (ht g hg).2.2.1) (fun g hg => (ht g hg).2.1), fun g hg => ?_, ?_, ?_⟩
 ·obtain ⟨h1, h2⟩ := hT g hg;rcases h1 with h1 | h1
  ·obtain ⟨_, k2, k3, k4, k5⟩ := ht g h1;exact ⟨h2, k2, k3, k4, k5⟩
  ·refine ⟨h2, ?_, Nat.le_trans b.evo.size h1, by omega, by omega⟩;rintro ⟨id, Bx', h3, h4⟩;have := (b.blk_lt h3 h4).1;omega
 ·rw [e.block l ll fun hn => (ht l hn).2.2.2.1 rfl]; exact hl
 ·rw [e.block D lD fun hn => (ht D hn).2.2.2.2 rfl]; exact hD
end
end Go.AL
/- A range over a function, at its caller: the rule. -/
namespace Go.AL
section
variable {P : Program} {tab : Tab} {n : Nat} {I : List Id} {Q : Exit → St → Prop} {s s' : St} {C : Cx} {a a' : Act} {w w' : World} {h h' : Hp} {β β' : Bt}
theorem Base.redfr (k : Base C n s a w h β) (d : List Deferred) : Base { C with dfr := d } n s { a with defers := d } w h β := ⟨k.evo, k.b0, k.slot, k.box, k.apart, k.own, k.dom, k.size, rfl⟩
theorem Base.act (k : Base C n s a w h β) : { a with defers := C.dfr } = a := by cases a; simp only [Act.mk.injEq, true_and]; exact k.defers.symm
def RoundQ (n : Nat) (Ip : List Id) (s : St) (Q : Exit → St → Prop) (sn : St) (ok : Prop) : Exit → St → Prop
  | .normal, s' => ok ∧ Ent n Ip s' (anyS sn)
  | .ret, s' => ∃ sx, sx.env = s.env ∧ Ent n Ip s' (anyS sx) ∧ Q .ret sx
  | .exit id, s' => ∃ sx, sx.env = s.env ∧ Ent n Ip s' (anyS sx) ∧ Q (.exit id) sx
  | _, _ => False
def setPs (p q : Tmp) (x y : AV) (s : St) : St := (Eff.mk y [] [] [] []).app (some q) ((Eff.mk x [] [] [] []).app (some p) s)
theorem rangeEnd {e : Exit} {ds : List Nat} {βp : Bt} {sx : St} {l D : Nat} {r r' : Loop} {W : World} {hW : Hp} {T : Nat → Prop} (b : Base { C with dfr := ds.map coll } n s a w h β) (hm : MarksOk C.w0 w ds) (hC : C.β0.le βp) (hD : D = w.heap.size) (hl : l = w.heap.size + 1)
  (k : JB ⟨w, h, βp, ownM s β, ds.map coll⟩ n sx a l D (.loop r) W hW T) (q : Q e sx) :
  ∃ s' h' β' ds', Base { C with dfr := ds'.map coll } n s' { a with defers := [coll D] ++ a.defers } (W.putObj l (.loop r')) h' β' ∧ MarksOk C.w0 (W.putObj l (.loop r')) ds' ∧ Q e s' := by
 obtain ⟨β', bJ, _, h1, h2⟩ := k.out;have hev := evo_mark (o' := .loop r') bJ.evo.has h1 (fun _ _ _ e => by cases e);have bJ' := bJ.stepN hev (fun g hg => .inr (by show w.heap.size ≤ g; omega)) (fun g hg => by rw [hg]; exact bJ.not_own (.inr ⟨_, h1⟩));have bu := (b.unroot (β0 := βp) hC bJ').redfr ((D :: ds).map coll)
 have ha : ({ a with defers := [coll D] ++ a.defers } : Act) = { a with defers := (D :: ds).map coll } := by rw [b.defers]; rfl
 rw [ha]
 have hne : D ≠ l := by omega
 refine ⟨sx, hW, β', D :: ds, bu, ⟨List.nodup_cons.2 ⟨fun hd => ?_, hm.1⟩, fun D' hD' => ?_⟩, q⟩
 ·have := (Array.getElem?_eq_some_iff.1 (hm.2 D hd).1).1;omega
 ·rcases List.mem_cons.1 hD' with rfl | hd
  ·exact ⟨by rw [World.putObj_heap_other hne]; exact h2, by rw [hD]; exact b.evo.size⟩
  ·obtain ⟨k1, k2⟩ := hm.2 D' hd;exact ⟨by rw [bJ'.evo.block D' (Array.getElem?_eq_some_iff.1 k1).1 (b.not_own (.inl ⟨_, k1⟩))]; exact k1, k2⟩
theorem roundEnd {dd : List Deferred} {βp : Bt} {si s1 sx : St} {a1 a3 : Act} {l D : Nat} {A A1 A3 : World} {hA h1 h4 : Hp} {β1 β4 : Bt} {oA ob r : Loop} {T : Nat → Prop}
  (hslot : ∀ i, Rep h βp (s.env i) (a.tmps.getD i undef)) (bJ : Base ⟨w, h, βp, ownM s β, dd⟩ n si a A hA β') (ht : ∀ g, T g → g < A.heap.size ∧ ¬ ownM si β' g ∧ w.heap.size ≤ g ∧ g ≠ l ∧ g ≠ D) (hlD : D ≠ l) (hlw : w.heap.size ≤ l)
  (hl : A.heap[l]? = some (.loop oA)) (hD : A.heap[D]? = some (.deferred (some []))) (b1 : Base ⟨A, hA, βp, ownM si β', []⟩ n s1 a1 A1 h1 β1) (b4 : Base ⟨A1.putObj l (.loop ob), h1, βp, ownM s1 β1, []⟩ n (anyS sx) a3 A3 h4 β4) (hse : sx.env = s.env) :
  A3.heap[l]? = some (.loop ob) ∧ Evo (fun g => ¬ T g) A hA (A3.putObj l (.loop r)) h4 ∧ JB ⟨w, h, βp, ownM s β, dd⟩ n sx a l D (.loop r) (A3.putObj l (.loop r)) h4 T := by
 have ll : l < A.heap.size := (Array.getElem?_eq_some_iff.1 hl).1;have lD : D < A.heap.size := (Array.getElem?_eq_some_iff.1 hD).1;have e1 := b1.evo
 have hl1 : A1.heap[l]? = some (.loop oA) := by rw [e1.block l ll (bJ.not_own (.inr ⟨_, hl⟩))]; exact hl
 have hD1 : A1.heap[D]? = some (.deferred (some [])) := by rw [e1.block D lD (bJ.not_own (.inl ⟨_, hD⟩))]; exact hD
 have e2 := evo_mark (o' := .loop ob) e1.has hl1 (fun _ _ _ e => by cases e);have e4 := b4.evo;have ll1 : l < A1.heap.size := (Array.getElem?_eq_some_iff.1 hl1).1;have lD1 : D < A1.heap.size := (Array.getElem?_eq_some_iff.1 hD1).1
 have hs2 : (A1.putObj l (.loop ob)).heap.size = A1.heap.size := by simp
 have hl3 : A3.heap[l]? = some (.loop ob) := by rw [e4.block l (by rw [hs2]; exact ll1) (b1.not_own (.inr ⟨_, hl1⟩))]; exact World.putObj_heap_same ll1
 have hD3 : A3.heap[D]? = some (.deferred (some [])) := by rw [e4.block D (by rw [hs2]; exact lD1) (b1.not_own (.inl ⟨_, hD1⟩)), World.putObj_heap_other hlD]; exact hD1
 have e5 := evo_mark (o' := .loop r) e4.has hl3 (fun _ _ _ e => by cases e);have b5 := b4.rerootN e5 (fun g hg => by rw [hg]; exact b4.not_own (.inr ⟨_, hl3⟩)) [] b4.b0;have own1 : ∀ g, ownM s1 β1 g → ownM si β' g ∨ A.heap.size ≤ g := fun g ⟨id, B, k1, k2⟩ => b1.own id B g k1 k2
 have own4 : ∀ g, ownM (anyS sx) β4 g → ownM si β' g ∨ A.heap.size ≤ g := fun g ⟨id, B, k1, k2⟩ => by
  rcases b4.own id B g k1 k2 with k | k
  ·exact own1 g k
  ·have : A1.heap.size ≤ g := by rw [← hs2]; exact k
   exact .inr (Nat.le_trans e1.size this)
 have ownJ : ∀ g, ownM si β' g → ownM s β g ∨ w.heap.size ≤ g := fun g ⟨id, B, k1, k2⟩ => bJ.own id B g k1 k2;have up : ∀ g, ownM si β' g ∨ A.heap.size ≤ g → ownM s β g ∨ w.heap.size ≤ g := fun g k => k.elim (ownJ g) fun k => .inr (Nat.le_trans bJ.evo.size k);have nT : ∀ g, ownM si β' g ∨ A.heap.size ≤ g → ¬ T g ∨ A.heap.size ≤ g := fun g k => k.elim (fun k => .inl fun t => (ht g t).2.1 k) .inr;have lT : ∀ g, g = l → ¬ T g := fun g hg t => (ht g t).2.2.2.1 hg;refine ⟨hl3, (((Evo.refl _ bJ.evo.has).trans e1 fun g k => nT g (.inl k)).trans e2 fun g hg => .inl (lT g hg)).trans e4 (fun g k => nT g (own1 g k)) |>.trans e5 fun g hg => .inl (lT g hg), ⟨β4, ⟨?_, b4.b0, fun i => ?_, b5.box, b5.apart, fun id B g k1 k2 => up g (own4 g ⟨id, B, k1, k2⟩), b5.dom, bJ.size, bJ.defers⟩, fun g t => ?_, ?_, ?_⟩⟩
 ·exact (((bJ.evo.trans e1 fun g k => ownJ g k).trans e2 fun g hg => .inr (by rw [hg]; exact hlw)).trans e4 fun g k => up g (own1 g k)).trans e5 fun g hg => .inr (by rw [hg]; exact hlw)
 ·rw [hse];have hle : h.le h4 := (bJ.evo.le.trans e1.le).trans e4.le;exact (hslot i).mono hle b4.b0 _ _
 ·obtain ⟨t1, t2, t3, t4, t5⟩ := ht g t;refine ⟨?_, fun k => ?_, t3, t4, t5⟩
  ·have k1 : A.heap.size ≤ A1.heap.size := e1.size
   have k2 : A1.heap.size ≤ A3.heap.size := by rw [← hs2]; exact e4.size
   rw [World.putObj_size];omega
  ·rcases own4 g k with k | k
   ·exact t2 k
   ·omega
 ·exact World.putObj_heap_same (Array.getElem?_eq_some_iff.1 hl3).1
 ·rw [World.putObj_heap_other hlD]; exact hD3
end
end Go.AL
/- A range over a function of two variables: the rule at the caller. -/
namespace Go.AL
mutual
theorem AV.ren_id : ∀ c : AV, c.ren (fun i => i) = c
 | .v _ => rfl
 | .agg cs => by simp only [AV.ren, renL_id cs]
 | .tup cs => by simp only [AV.ren, renL_id cs]
 | .sl _ _ _ => rfl
 | .cptr _ => rfl
 | .ptr _ _ => rfl
 | .row _ => rfl
 | .rptr _ _ => rfl
 | .mp _ => rfl
 | .sub _ _ _ => rfl
 | .fn _ cs => by simp only [AV.ren, renL_id cs]
 | .any => rfl
theorem renL_id : ∀ cs : List AV, renL (fun i => i) cs = cs
 | [] => rfl
 | c :: cs => by simp only [renL, AV.ren_id c, renL_id cs]
end
section
variable {P : Program} {tab : Tab} {n : Nat} {I : List Id} {Q : Exit → St → Prop} {s : St}
theorem FWP.rangeFunc {g : Operand} {p q : Tmp} {assign body : Code} {gf : FuncId} {caps : List AV} {e : Nat → Option (List AV)} {N : Nat} (it : IterFn P gf caps e N) (hN0 : 0 < N) (hg : opd s g = .fn gf caps) (hcl : closedL caps = true) (hpn : Nat.blt p n = true) (hqn : Nat.blt q n = true)
  (Ip : List Id) (hI : ∀ id ∈ I, id ∈ Ip) (hin : ∀ t, (s.env t).within Ip = true) (S : Nat → St) (hSe : ∀ i, (S i).env = s.env) (h0 : S 0 = s) (h2 : ∀ i xs, e i = some xs → ∃ x y, xs = [x, y])
  (hround : ∀ i x y l, i < N → e i = some [x, y] → RWP P n Ip l assign (AThen (fun s1 => RWP P n Ip l body (RoundQ n Ip s Q (S (i + 1)) (i + 1 < N)) s1) (fun _ _ => False)) (setPs p q x y (S i)))
  (hdone : ∀ i, i < N → e i = none → Q .normal (S i)) : FWP P n I (.rangeFunc g #[p, q] assign body) Q s := by
 have hpn : p < n := Nat.le_of_ble_eq_true hpn;have hqn : q < n := Nat.le_of_ble_eq_true hqn;refine ⟨fun C a w h β ds hi b hm => wpIn_wide (n := 0) |>.1 (wpIn_rangeFunc (F := Fence.wide) (n := 0) fun fn _ => ?_)⟩
 obtain ⟨βp, hβ⟩ : ∃ βp : Bt, βp = fun id => match memI Ip id with | true => β id | false => none := ⟨_, rfl⟩
 have hle : βp.le β := fun id v hv => by
  rw [hβ] at hv;dsimp only at hv;split at hv
  ·exact hv
  ·cases hv
 have hIp : ∀ id, βp id ≠ none → id ∈ Ip := fun id hv => by
  rw [hβ] at hv;dsimp only at hv
  cases hmm : memI Ip id with
  | true => exact (memI_mem _ _).1 hmm
  | false => rw [hmm] at hv; exact absurd rfl hv
 have hC : C.β0.le βp := fun id v hv => by
  have h1 : id ∈ Ip := hI id (hi id (by show C.β0 id ≠ none; rw [hv]; simp));rw [hβ];dsimp only;rw [(memI_mem _ _).2 h1];exact b.b0 id v hv
 have hslot : ∀ i, Rep h βp (s.env i) (a.tmps.getD i undef) := fun i => by
  refine Rep.within (σ := fun i => i) (ids := Ip) (fun id v h1 h2 => ?_) (s.env i) _ (hin i) (by rw [AV.ren_id]; exact b.slot i);rw [hβ];dsimp only;rw [(memI_mem _ _).2 h1];exact h2
 have hgr := opd_rep b g;rw [hg] at hgr;simp only [Rep] at hgr;obtain ⟨cu, hcu, hcr⟩ := hgr;have hcr : RepL h noB caps cu.toList := RepL.closed _ _ hcl hcr;have b0 := b.reroot (ds.map coll) (β0 := βp) hle;have ha : { a with defers := ds.map coll } = a := b.act;rw [ha] at b0;obtain ⟨rec, hrec⟩ : ∃ rec : LoopState → Option Code → Loop, rec = fun st pe => { state := st, pending := pe, fn, tmps := a.tmps, params := #[p, q], assign, body, defers := w.heap.size } := ⟨_, rfl⟩;obtain ⟨W1, hW1⟩ : ∃ W1, (w.alloc (.deferred (some []))).alloc (.loop (rec .ready none)) = W1 := ⟨_, rfl⟩
 have ev1 : Evo never w h W1 h := by
  rw [← hW1];exact (evo_alloc b.evo.has _).trans (evo_alloc (evo_alloc b.evo.has _).has _) fun _ h => h.elim
 have hL1 : W1.heap[w.heap.size + 1]? = some (.loop (rec .ready none)) := by
  rw [← hW1]; have := World.alloc_heap_new (w.alloc (.deferred (some []))) (.loop (rec .ready none)); rwa [World.size_alloc] at this
 have hK1 : W1.heap[w.heap.size]? = some (.deferred (some [])) := by
  rw [← hW1]; exact (show ((w.alloc (.deferred (some []))).alloc (.loop (rec .ready none))).heap[w.heap.size]? = (w.alloc (.deferred (some []))).heap[w.heap.size]? by first | exact heap_alloc_old _ _ (by simp) | exact heap_alloc_old _ _ _ (by simp)).trans (World.alloc_heap_new w _)
 have hJ0 : JB ⟨w, h, βp, ownM s β, ds.map coll⟩ n (S 0) a (w.heap.size + 1) w.heap.size (.loop (rec .ready none)) W1 h never := by
  rw [h0];exact ⟨β, b0.step ev1, fun g hg => hg.elim, hL1, hK1⟩
 refine ⟨w.heap.size + 1, [coll w.heap.size], W1, { target := .fn (.func gf) cu, args := #[.func (.yield (w.heap.size + 1)) #[] #[]] }, W1, gf, #[.func (.yield (w.heap.size + 1)) #[] #[]] ++ cu, W1, ?_, ?_, fun _ _ => trivial, ?_, fun hd => (by cases hd), ?_⟩
 ·rw [← hW1, hrec]; exact run_enterLoop_outer _ _ _ _ _
 ·simp only [resolve, hcu];simp [go_sem]
 ·simp only [invoke];exact run_callFunc it.fn _ W1
 subst hrec
 refine callsIn_wide.2 ((it.calls W1 h cu (w.heap.size + 1) (fun i W hW T => i < N ∧ JB ⟨w, h, βp, ownM s β, ds.map coll⟩ n (S i) a (w.heap.size + 1) w.heap.size (.loop { state := .ready, pending := none, fn, tmps := a.tmps, params := #[p, q], assign, body, defers := w.heap.size }) W hW T)
  (fun W hW T => ∃ (c : Code) (sx : St), sx.env = s.env ∧ ((c = .ret ∧ Q .ret sx) ∨ ∃ id, c = .exit id ∧ Q (.exit id) sx) ∧ JB ⟨w, h, βp, ownM s β, ds.map coll⟩ n sx a (w.heap.size + 1) w.heap.size (.loop { state := .done, pending := some c, fn, tmps := a.tmps, params := #[p, q], assign, body, defers := w.heap.size }) W hW T)
  ev1.has hcr (fun i A hA T B hB T' k e hT => ⟨k.1, k.2.stab e hT⟩) (by rintro A hA T B hB T' ⟨c, sx, h1, h2, k⟩ e hT; exact ⟨c, sx, h1, h2, k.stab e hT⟩) ?_ (fun i A hA T k => k.1) ⟨hN0, hJ0⟩).mono ?_)
 ·intro i xs A hA T args hei hasA k hargs;obtain ⟨x, y, rfl⟩ := h2 i xs hei;simp only [RepL] at hargs;obtain ⟨ux, r1, e1, hx, uy, r2, e2, hy, e3⟩ := hargs
  obtain rfl : args = #[ux, uy] := by
   apply Array.ext';rw [e1, e2, e3]
  obtain ⟨β', bJ, ht, hl, hD⟩ := k.2.out
  have hyd : (Instr.yield (w.heap.size + 1) #[ux, uy]).run P A = .ok (.round (w.heap.size + 1) fn ((a.tmps.setIfInBounds p ux).setIfInBounds q uy) assign body) A := by
   rw [run_yield (P := P) (args := #[ux, uy]) hl rfl];simp
  refine ⟨fn, _, assign, body, hyd, roundIn_of_wpIn trivial ?_⟩;have b1 := bJ.reroot [] (β0 := βp) bJ.b0;have b2 := (b1.val (some p) (fun t ht => by cases ht; exact hpn) (hx.mono (Hp.le.refl hA) (noB_le β') _ _) []).val (some q) (fun t ht => by cases ht; exact hqn) (hy.mono (Hp.le.refl hA) (noB_le β') _ _) [];refine wpIn_mono ((hround i x y (w.heap.size + 1) k.1 hei).out ⟨A, hA, βp, ownM (S i) β', []⟩ _ A hA β' hIp b2) ?_;intro e1 a1 A1 ⟨s1, h1, β1, bb, qq⟩
  cases e1 with
  | normal =>
   have hl1 := bb.evo.block _ (Array.getElem?_eq_some_iff.1 hl).1 (bJ.not_own (.inr ⟨_, hl⟩));rw [hl] at hl1;refine ⟨_, run_beginRound hl1 rfl, ?_⟩;have ev2 := evo_mark (o' := .loop { state := .busy, pending := none, fn, tmps := a.tmps, params := #[p, q], assign, body, defers := w.heap.size }) bb.evo.has hl1 (fun _ _ _ e => by cases e);have b3 := bb.rerootN ev2 (fun g hg => by rw [hg]; exact bb.not_own (.inr ⟨_, hl1⟩)) [] bb.b0;have hact : { a1 with defers := [] } = a1 := bb.act;rw [hact] at b3;refine wpIn_mono (qq.out ⟨A1.putObj (w.heap.size + 1) _, h1, βp, ownM s1 β1, []⟩ a1 _ h1 β1 hIp b3) ?_;intro e3 a3 A3 ⟨s3, h3, β3, b4, q3⟩
   have fin : ∀ (sx : St) (r : Loop), Ent n Ip s3 (anyS sx) → sx.env = s.env → ∃ h4, A3.heap[w.heap.size + 1]? = some (.loop { state := .busy, pending := none, fn, tmps := a.tmps, params := #[p, q], assign, body, defers := w.heap.size }) ∧ Evo (fun g => ¬ T g) A hA (A3.putObj (w.heap.size + 1) (.loop r)) h4 ∧ JB ⟨w, h, βp, ownM s β, ds.map coll⟩ n sx a (w.heap.size + 1) w.heap.size (.loop r) (A3.putObj (w.heap.size + 1) (.loop r)) h4 T := fun sx r he hse => by
    obtain ⟨h4, β4, b5⟩ := he ⟨A1.putObj (w.heap.size + 1) _, h1, βp, ownM s1 β1, []⟩ a3 A3 h3 β3 hIp b4;obtain ⟨k1, k2, k3⟩ := roundEnd (r := r) hslot bJ ht (by omega) (by omega) hl hD bb b5 hse;exact ⟨h4, k1, k2, k3⟩
   cases e3 with
   | normal =>
    obtain ⟨h4, k1, k2, k3⟩ := fin (S (i + 1)) { state := .ready, pending := none, fn, tmps := a.tmps, params := #[p, q], assign, body, defers := w.heap.size } q3.2 (hSe _);exact ⟨_, _, run_endRound none k1, h4, k2, .inl ⟨rfl, q3.1, k3⟩⟩
   | ret =>
    obtain ⟨sx, hse, he, hq⟩ := q3;obtain ⟨h4, k1, k2, k3⟩ := fin sx { state := .done, pending := some .ret, fn, tmps := a.tmps, params := #[p, q], assign, body, defers := w.heap.size } he hse;exact ⟨_, _, run_endRound (some .ret) k1, h4, k2, .inr ⟨rfl, .ret, sx, hse, .inl ⟨rfl, hq⟩, k3⟩⟩
   | exit id =>
    obtain ⟨sx, hse, he, hq⟩ := q3;obtain ⟨h4, k1, k2, k3⟩ := fin sx { state := .done, pending := some (.exit id), fn, tmps := a.tmps, params := #[p, q], assign, body, defers := w.heap.size } he hse;exact ⟨_, _, run_endRound (some (.exit id)) k1, h4, k2, .inr ⟨rfl, .exit id, sx, hse, .inr ⟨id, rfl, hq⟩, k3⟩⟩
   | _ => exact q3.elim
  | _ => exact qq.elim
 ·rintro en B ⟨v, hB, T, rfl, ⟨i, hei, k⟩ | ⟨c, sx, hse, hq, k⟩⟩
  ·obtain ⟨_, _, _, hl, _⟩ := k.2.out;exact ⟨none, _, run_endLoop hl (by simp), rangeEnd b hm hC rfl rfl k.2 (hdone i k.1 hei)⟩
  ·obtain ⟨_, _, _, hl, _⟩ := k.out;refine ⟨some c, _, run_endLoop hl (by simp), ?_⟩;rcases hq with ⟨rfl, hq⟩ | ⟨id, rfl, hq⟩
   ·exact wpIn_ret (rangeEnd b hm hC rfl rfl k hq)
   ·exact wpIn_exit (rangeEnd b hm hC rfl rfl k hq)
end
end Go.AL
/- Iterators: code that yields. -/
namespace Go.AL
structure ItEnv (P : Program) (l : Nat) (e : Nat → Option (List AV)) (N : Nat) (J : Nat → World → Hp → (Nat → Prop) → Prop) (Jx : World → Hp → (Nat → Prop) → Prop) : Prop where
  stab : ∀ i A hA T B hB T', J i A hA T → Evo T A hA B hB → (∀ g, T' g → (T g ∨ A.heap.size ≤ g) ∧ g < B.heap.size) → J i B hB T'
  stabx : ∀ A hA T B hB T', Jx A hA T → Evo T A hA B hB → (∀ g, T' g → (T g ∨ A.heap.size ≤ g) ∧ g < B.heap.size) → Jx B hB T'
  round : ∀ i xs A hA T (args : Array Value), e i = some xs → Has A hA → J i A hA T → RepL hA noB xs args.toList →
      YieldAt Fence.wide 0 P l args A fun en B => ∃ hB, Evo (fun g => ¬ T g) A hA B hB ∧ ((en = .returned (.bool true) ∧ J (i + 1) B hB T) ∨ (en = .returned (.bool false) ∧ Jx B hB T))
  bound : ∀ i A hA T, J i A hA T → i < N
def Hold (J : Nat → World → Hp → (Nat → Prop) → Prop) (Jx : World → Hp → (Nat → Prop) → Prop) : Option Nat → World → Hp → (Nat → Prop) → Prop
  | some i => J i
  | none => Jx
structure IWP (P : Program) (n : Nat) (I : List Id) (l : Nat) (e : Nat → Option (List AV)) (N : Nat) (c : Code) (Q : Exit → Option Nat → St → Prop) (ph : Option Nat) (s : St) : Prop where
  out : ∀ J Jx, ItEnv P l e N J Jx → ∀ (C : Cx) (a : Act) (w : World) (h : Hp) (β : Bt), IniOk C I → C.dfr = [] → Base C n s a w h β → Hold J Jx ph w h (ownM s β) →
    c.wpIn Fence.wide 0 P (fun ex a' w' => ∃ C' ph' s' h' β', IniOk C' I ∧ C'.dfr = [] ∧ Base C' n s' a' w' h' β' ∧ Hold J Jx ph' w' h' (ownM s' β') ∧ Q ex ph' s') a w
section
variable {P : Program} {tab : Tab} {n : Nat} {I : List Id} {l : Nat} {e : Nat → Option (List AV)} {N : Nat} {Q : Exit → Option Nat → St → Prop} {ph : Option Nat} {s s' : St} {C : Cx} {a a' : Act} {w w' : World} {h h' : Hp} {β β' : Bt}
variable {J : Nat → World → Hp → (Nat → Prop) → Prop} {Jx : World → Hp → (Nat → Prop) → Prop}
theorem ItEnv.hold (E : ItEnv P l e N J Jx) {T T' : Nat → Prop} (k : Hold J Jx ph w h T) (ev : Evo T w h w' h') (hT : ∀ g, T' g → (T g ∨ w.heap.size ≤ g) ∧ g < w'.heap.size) : Hold J Jx ph w' h' T' := by
 cases ph with
 | none => exact E.stabx _ _ _ _ _ _ k ev hT
 | some i => exact E.stab _ _ _ _ _ _ _ k ev hT
theorem own_step {β0 : Bt} {d : List Deferred} {T : Nat → Prop} (r : Base ⟨w, h, β0, T, d⟩ n s' a' w' h' β') : ∀ g, ownM s' β' g → (T g ∨ w.heap.size ≤ g) ∧ g < w'.heap.size :=
 fun g ⟨id, B, k1, k2⟩ => ⟨r.own id B g k1 k2, (r.blk_lt k1 k2).1⟩
theorem IWP.lift {c : Code} {Q' : Exit → St → Prop} (k : AWP P n I c Q' s) (hQ : ∀ ex s, Q' ex s → Q ex ph s) : IWP P n I l e N c Q ph s := ⟨fun J Jx E C a w h β hi hd b hh => by
 have hr := b.reroot [] (β0 := C.β0) b.b0
 have ha : { a with defers := [] } = a := by cases a; simp only [Act.mk.injEq, true_and]; exact (b.defers.trans hd).symm
 rw [ha] at hr
 exact wpIn_wide.2 (wp_mono (k.out ⟨w, h, C.β0, ownM s β, []⟩ a w h β hi hr) fun ex a' w' ⟨s', h', β', r, q⟩ => ⟨⟨w, h, C.β0, ownM s β, []⟩, ph, s', h', β', hi, rfl, r, E.hold hh r.evo (own_step r), hQ _ _ q⟩)⟩
theorem IWP.ent {c : Code} (he : Ent n I s s') (k : IWP P n I l e N c Q ph s') : IWP P n I l e N c Q ph s := ⟨fun J Jx E C a w h β hi hd b hh => by
 have hr := b.reroot [] (β0 := C.β0) b.b0
 have ha : { a with defers := [] } = a := by cases a; simp only [Act.mk.injEq, true_and]; exact (b.defers.trans hd).symm
 rw [ha] at hr;obtain ⟨h', β', r⟩ := he ⟨w, h, C.β0, ownM s β, []⟩ a w h β hi hr
 exact k.out J Jx E ⟨w, h, C.β0, ownM s β, []⟩ a w h' β' hi rfl r (E.hold hh r.evo (own_step r))⟩
def AThenI (K : Option Nat → St → Prop) (Q : Exit → Option Nat → St → Prop) : Exit → Option Nat → St → Prop
  | .normal, ph, s => K ph s
  | ex, ph, s => Q ex ph s
def AInI (id : Nat) (Q : Exit → Option Nat → St → Prop) : Exit → Option Nat → St → Prop
  | .exit id', ph, s => match Nat.beq id' id with | true => Q .normal ph s | false => Q (.exit id') ph s
  | ex, ph, s => Q ex ph s
theorem IWP.seq {c d : Code} (k : IWP P n I l e N c (AThenI (fun ph s => IWP P n I l e N d Q ph s) Q) ph s) : IWP P n I l e N (.seq c d) Q ph s :=
 ⟨fun J Jx E C a w h β hi hd b hh => wpIn_seq (wpIn_mono (k.out J Jx E C a w h β hi hd b hh) fun ex a w ⟨C', ph', s', h', β', i1, i2, b, hh, q⟩ => by
  cases ex with
  | normal => exact q.out J Jx E C' a w h' β' i1 i2 b hh
  | _ => exact ⟨C', ph', s', h', β', i1, i2, b, hh, q⟩)⟩
theorem IWP.skip (k : Q .normal ph s) : IWP P n I l e N .skip Q ph s := ⟨fun _ _ _ C _ _ h β i1 i2 b hh => wpIn_skip ⟨C, ph, s, h, β, i1, i2, b, hh, k⟩⟩
theorem IWP.exit {id : Nat} (k : Q (.exit id) ph s) : IWP P n I l e N (.exit id) Q ph s := ⟨fun _ _ _ C _ _ h β i1 i2 b hh => wpIn_exit ⟨C, ph, s, h, β, i1, i2, b, hh, k⟩⟩
theorem IWP.block {id : Nat} {c : Code} (k : IWP P n I l e N c (AInI id Q) ph s) : IWP P n I l e N (.block id c) Q ph s :=
 ⟨fun J Jx E C a w h β hi hd b hh => wpIn_block (wpIn_mono (k.out J Jx E C a w h β hi hd b hh) fun ex a w ⟨C', ph', s', h', β', i1, i2, b, hh, q⟩ => by
  cases ex with
  | exit id' =>
   simp only [Exit.inBlock];by_cases he : id' = id
   ·subst he;rw [if_pos rfl];simp only [AInI, Nat.beq_refl] at q;exact ⟨C', ph', s', h', β', i1, i2, b, hh, q⟩
   ·rw [if_neg he];simp only [AInI, beq_ne he] at q;exact ⟨C', ph', s', h', β', i1, i2, b, hh, q⟩
  | _ => exact ⟨C', ph', s', h', β', i1, i2, b, hh, q⟩)⟩
theorem IWP.condB {c : Operand} {x y : Code} {t : Bool} (hc : opd s c = .v (.bool t)) (ht : t = true → IWP P n I l e N x Q ph s) (hf : t = false → IWP P n I l e N y Q ph s) : IWP P n I l e N (.cond c x y) Q ph s :=
 ⟨fun J Jx E C a w h β i1 i2 b hh => wpIn_cond_split (eval_bool b hc) (fun k => (ht k).out J Jx E C a w h β i1 i2 b hh) (fun k => (hf k).out J Jx E C a w h β i1 i2 b hh)⟩
end
end Go.AL
/- Iterators: loops, the yield itself, the contract. -/
namespace Go.AL
section
variable {P : Program} {tab : Tab} {n : Nat} {I : List Id} {l : Nat} {e : Nat → Option (List AV)} {N : Nat} {Q : Exit → Option Nat → St → Prop} {ph : Option Nat} {s s' : St} {C : Cx} {a a' : Act} {w w' : World} {h h' : Hp} {β β' : Bt}
variable {J : Nat → World → Hp → (Nat → Prop) → Prop} {Jx : World → Hp → (Nat → Prop) → Prop}
structure LoopEndI {G : Type} (n : Nat) (I : List Id) (N : Nat) (K : G → Prop) (S : G → St) (ph : G → Option Nat) (μ : G → Nat) (g : G) (p : Option Nat) (s : St) : Prop where
  out : ∃ g', K g' ∧ ph g' = p ∧ ((∀ i, p = some i → i < N) → μ g' < μ g) ∧ Ent n I s (S g')
def LoopQI {G : Type} (n : Nat) (I : List Id) (N : Nat) (K : G → Prop) (S : G → St) (ph : G → Option Nat) (μ : G → Nat) (g : G) (Q : Exit → Option Nat → St → Prop) : Exit → Option Nat → St → Prop
  | .normal, p, s => LoopEndI n I N K S ph μ g p s
  | ex, p, s => Q ex p s
theorem IWP.loop {c : Code} {G : Type} (K : G → Prop) (S : G → St) (pg : G → Option Nat) (μ : G → Nat) (g0 : G) (hg0 : pg g0 = ph) (hk : K g0) (he : Ent n I s (S g0))
  (round : ∀ g, K g → (∀ i, pg g = some i → i < N) → IWP P n I l e N c (LoopQI n I N K S pg μ g Q) (pg g) (S g)) : IWP P n I l e N (.loop c) Q ph s := by
 refine IWP.ent he ⟨fun J Jx E C a w h β hi hd b hh => ?_⟩;refine wpIn_loop_ghost (fun m a w => ∃ g C h β, K g ∧ μ g = m ∧ IniOk C I ∧ C.dfr = [] ∧ Base C n (S g) a w h β ∧ Hold J Jx (pg g) w h (ownM (S g) β)) (μ g0) ⟨g0, C, h, β, hk, rfl, hi, hd, b, by rw [hg0]; exact hh⟩ ?_;intro m a w ⟨g, C, h, β, hkg, hm, hi, hd, b, hh⟩
 have hN : ∀ i, pg g = some i → i < N := fun i hi => by rw [hi] at hh; exact E.bound _ _ _ _ hh
 refine wpIn_mono ((round g hkg hN).out J Jx E C a w h β hi hd b hh) fun ex a w ⟨C', p, s', h', β', i1, i2, b, hh, q⟩ => ?_
 cases ex with
 | normal =>
  obtain ⟨g', hkg', hp, hμ, hent⟩ := q.out;have hr := b.reroot [] (β0 := C'.β0) b.b0
  have ha : { a with defers := [] } = a := by cases a; simp only [Act.mk.injEq, true_and]; exact (b.defers.trans i2).symm
  rw [ha] at hr;obtain ⟨h2, β2, r⟩ := hent ⟨w, h', C'.β0, ownM s' β', []⟩ a w h' β' i1 hr
  have hN' : ∀ i, p = some i → i < N := fun i hi => by rw [hi] at hh; exact E.bound _ _ _ _ hh
  exact ⟨μ g', hm ▸ hμ hN', g', ⟨w, h', C'.β0, ownM s' β', []⟩, h2, β2, hkg', rfl, i1, rfl, r, by rw [hp]; exact E.hold hh r.evo (own_step r)⟩
 | _ => exact ⟨C', p, s', h', β', i1, i2, b, hh, q⟩
theorem opW {o : Oper} {next next' : Act → World → Prop} {Q : Exit → Act → World → Prop} (hn : ∀ a w, next a w → next' a w) (k : o.wp P a w next Q) : o.wpIn Fence.wide 0 P a w next' Q := by
 refine ⟨fun _ _ => trivial, ?_⟩;show o.uponIn Fence.wide 0 P a next' Q ((execOp a.eval o).run P w);unfold Oper.wp at k
 cases hr : (execOp a.eval o).run P w with
 | ok r w' =>
  rw [hr] at k
  cases r with
  | value v => exact hn _ _ k
  | skip => exact hn _ _ k
  | defer d => exact hn _ _ k
  | enter f args =>
   refine ⟨fun hd => (by cases hd), ?_⟩;refine callsIn_wide.2 (Calls.mono k fun e w'' hh => ?_)
   cases e with
   | returned v => exact hn _ _ hh
   | panicked ch => exact hh
   | outgrown => exact hh
  | row row args =>
   refine ⟨fun hd => (by cases hd), ?_⟩;exact fun c cs _ => let ⟨v, w'', r, st⟩ := k c cs; ⟨v, w'', hn _ _ r, stepsIn_wide.2 st⟩
  | _ => exact k.elim
 | halt r w' =>
  rw [hr] at k
  cases r with
  | panic v => exact k
  | _ => exact k.elim
theorem wp_seq_opsW {ops : Array Oper} {Q : Exit → Act → World → Prop} {l : List Oper} {s s' : St} {Es : List Eff} (c : Ch P n [] ops l s Es s') :
  ∀ (rest is : List Nat) (a : Act) (w : World) (h : Hp) (β : Bt), is.length = l.length → (∀ (k i : Nat) (o : Oper), is[k]? = some i → l[k]? = some o → ops[i]? = some o) → Base C n s a w h β →
   (∀ a w h β, Base C n s' a w h β → wpOpsIn Fence.wide 0 P ops Q rest a w) → wpOpsIn Fence.wide 0 P ops Q (is ++ rest) a w := by
 induction c with
 | nil s =>
  intro rest is a w h β hl _ k K;have : is = [] := List.eq_nil_of_length_eq_zero (by simpa using hl);subst this;exact K _ _ _ _ k
 | @op o l s s' E Es hg hj hn hp r ih =>
  intro rest is a w h β hl hi k K
  cases is with
  | nil => simp at hl
  | cons i is =>
   have ho : ops[i]? = some o := hi 0 i o (by simp) (by simp);simp only [List.cons_append, wpOpsIn, ho]
   have hw : Region.wanted o (yielded ops a.tmps) = true := by simp [Region.wanted, hg]
   simp only [hw, if_true];exact opW (fun a w k => k) (hj.2 C s a w h β Q _ (InvJ.nil _) (fun _ _ => rfl) (fun _ _ => rfl) hn k (fun a' w' h' β' k' => ih rest is a' w' h' β' (by simpa using hl) (fun j i' o' h1 h2 => hi (j + 1) i' o' (by simpa using h1) (by simpa using h2)) k' K))
 | @guarded o l s s' E Es d b hg hs hj hn hp r ih =>
  intro rest is a w h β hl hi k K
  cases is with
  | nil => simp at hl
  | cons i is =>
   have ho : ops[i]? = some o := hi 0 i o (by simp) (by simp);simp only [List.cons_append, wpOpsIn, ho]
   have hw : Region.wanted o (yielded ops a.tmps) = true := by rw [yielded_of k hg hs]; simp
   simp only [hw, if_true];exact opW (fun a w k => k) (hj.2 C s a w h β Q _ (InvJ.nil _) (fun _ _ => rfl) (fun _ _ => rfl) hn k (fun a' w' h' β' k' => ih rest is a' w' h' β' (by simpa using hl) (fun j i' o' h1 h2 => hi (j + 1) i' o' (by simpa using h1) (by simpa using h2)) k' K))
 | @skip o l s s' Es d b hg hs hd r ih =>
  intro rest is a w h β hl hi k K
  cases is with
  | nil => simp at hl
  | cons i is =>
   have ho : ops[i]? = some o := hi 0 i o (by simp) (by simp);simp only [List.cons_append, wpOpsIn, ho];have hw : Region.wanted o (yielded ops a.tmps) = false := unwanted_of k hg hs;simp only [hw, Bool.false_eq_true, if_false];exact ⟨fun _ _ => trivial, ih rest is _ w h β (by simpa using hl) (fun j i' o' h1 h2 => hi (j + 1) i' o' (by simpa using h1) (by simpa using h2)) (k.skip o.dst hd) K⟩
end
end Go.AL
/- Iterators: the yield itself, the contract. -/
namespace Go.AL
section
variable {P : Program} {tab : Tab} {n : Nat} {I : List Id} {l : Nat} {e : Nat → Option (List AV)} {N : Nat} {Q : Exit → Option Nat → St → Prop} {ph : Option Nat} {s s' : St} {C : Cx} {a a' : Act} {w w' : World} {h h' : Hp} {β β' : Bt}
variable {J : Nat → World → Hp → (Nat → Prop) → Prop} {Jx : World → Hp → (Nat → Prop) → Prop}
structure YieldQ (P : Program) (n l : Nat) (e : Nat → Option (List AV)) (N i : Nat) (ops : Array Oper) (o : Oper) (l2 : List Oper) (Q : Exit → Option Nat → St → Prop) (s : St) : Prop where
  out : (o.guard = none ∨ ∃ d b, gslot ops o = some (d, b) ∧ s.env d = .v (.bool b)) ∧ (∃ x args ts xs, o.op = .call { callee := .value x, args := ⟨args⟩, argTypes := ts } ∧ opd s x = .v (.func (.yield l) #[] #[]) ∧ e i = some xs ∧ LeL (opds s args) xs ∧ closedL (opds s args) = true) ∧
    (∀ d, o.dst = some d → d < n) ∧ (Fl P n ops ⟨false, []⟩ l2 ((Eff.mk (.v (.bool true)) [] [] [] []).app o.dst s) [] (fun ex s2 => ex = .normal ∧ (i + 1 < N → Q .normal (some (i + 1)) s2))) ∧
    Fl P n ops ⟨false, []⟩ l2 ((Eff.mk (.v (.bool false)) [] [] [] []).app o.dst s) [] (fun ex s2 => ex = .normal ∧ Q .normal none s2)
theorem fl_ok {ops : Array Oper} {l : List Oper} {s : St} {K : St → Prop} (k : Fl P n ops ⟨false, []⟩ l s [] (fun ex s => ex = .normal ∧ K s)) : ∃ Es s', Ch P n [] ops l s Es s' ∧ K s' := by
 rcases k.out with ⟨Es, s', hch, _, _, hK⟩ | ⟨_, _, _, _, _, _, _, _, _, _, _, _, _, hQf⟩
 ·exact ⟨Es, s', hch, hK⟩
 ·exact absurd (hQf rfl).1 (by simp)
theorem IWP.yieldR {id i : Nat} {ops : Array Oper} {o : Oper} {l1 l2 : List Oper} (hs : ops.toList = l1 ++ o :: l2)
  (k : Fl P n ops ⟨false, []⟩ l1 s [] (fun ex s1 => ex = .normal ∧ YieldQ P n l e N i ops o l2 Q s1)) : IWP P n I l e N (.region id ops false) Q (some i) s := ⟨fun J Jx E C a w h β hi hd b hh => by
 obtain ⟨Es, s1, hch, yq⟩ := fl_ok k;obtain ⟨hgd, ⟨x, args, ts, xs, hop, hx, hei, hle, hcl⟩, hdst, kt, kf⟩ := yq.out;obtain ⟨Et, st, cht, qt⟩ := fl_ok kt;obtain ⟨Ef, sf, chf, qf⟩ := fl_ok kf;have hr := b.reroot [] (β0 := C.β0) b.b0
 have ha : { a with defers := [] } = a := by cases a; simp only [Act.mk.injEq, true_and]; exact (b.defers.trans hd).symm
 rw [ha] at hr
 have hsz : ops.size = l1.length + (1 + l2.length) := by rw [← Array.length_toList, hs]; simp; omega
 have hlt : l1.length < ops.size := by omega
 have ho : ops[l1.length]? = some o := by
  have : ops.toList[l1.length]? = some o := by rw [hs, List.getElem?_append_right (Nat.le_refl _), Nat.sub_self]; rfl
  simpa using this
 have hrg : List.range ops.size = List.range l1.length ++ (l1.length :: List.range' (l1.length + 1) l2.length) := by
  rw [List.range_eq_range', List.range_eq_range', hsz, ← List.range'_append_1, Nat.zero_add, Nat.add_comm 1, List.range'_succ]
 refine wpIn_region ?_;rw [hrg];refine wp_seq_opsW hch _ (List.range l1.length) a w h β (by simp) (fun j i o h1 h2 => ?_) hr (fun A0 A hA β1 b1 => ?_)
 ·have hj : j < l1.length := (List.getElem?_eq_some_iff.1 h2).1;rw [List.getElem?_range hj] at h1;injection h1 with h1;subst h1
  have : ops.toList[j]? = some o := by rw [hs, List.getElem?_append_left hj]; exact h2
  simpa using this
 have hh1 := E.hold hh b1.evo (own_step b1);simp only [wpOpsIn, ho]
 have hw : Region.wanted o (yielded ops A0.tmps) = true := by
  rcases hgd with hg | ⟨d, b', hg, hsb⟩
  ·simp [Region.wanted, hg]
  ·rw [yielded_of b1 hg hsb]; simp
 simp only [hw, if_true];have hxr := opd_rep b1 x;rw [hx] at hxr;simp only [Rep] at hxr;have har : RepL hA noB xs (args.map A0.eval) := hle _ _ _ (RepL.closed _ _ hcl (opds_rep b1 args));obtain ⟨fn, tmps, asg, body, hyd, hR⟩ := E.round i xs A hA (ownM s1 β1) (args.map A0.eval).toArray hei b1.evo.has hh1 (by simpa using har);refine ⟨fun _ _ => trivial, ?_⟩;show o.uponIn Fence.wide 0 P A0 _ _ ((execOp A0.eval o).run P A)
 have hex : (execOp A0.eval o).run P A = .ok (.round l fn tmps asg body) A := by
  simp only [execOp, hop, resolve, hxr, Deferred.ofValue, Sem.run_bind, Sem.run_pure, Result.andThen, invoke, List.map_toArray];simpa using hyd
 rw [hex];refine ⟨fun hd => (by cases hd), hR.mono fun en B hB => ?_⟩
 have tail : ∀ (t : Bool) (hB : Hp) (ph' : Option Nat) (s2 : St) (E2 : List Eff), Evo (fun g => ¬ ownM s1 β1 g) A hA B hB → Hold J Jx ph' B hB (ownM s1 β1) → Ch P n [] ops l2 ((Eff.mk (.v (.bool t)) [] [] [] []).app o.dst s1) E2 s2 →
   (∀ w' h' T, Hold J Jx ph' w' h' T → Q .normal ph' s2) → wpOpsIn Fence.wide 0 P ops (fun ex a' w' => ∃ C' ph' s' h' β', IniOk C' I ∧ C'.dfr = [] ∧ Base C' n s' a' w' h' β' ∧ Hold J Jx ph' w' h' (ownM s' β') ∧ Q ex ph' s') (List.range' (l1.length + 1) l2.length) (A0.put o.dst (.bool t)) B := by
  intro t hB ph' s2 E2 ev hh2 c2 q2;have b2 := b1.rerootN ev (fun g hn ho => hn ho) [] (β0 := C.β0) b1.b0
  have ha2 : { A0 with defers := [] } = A0 := by cases A0; simp only [Act.mk.injEq, true_and]; exact b1.defers.symm
  rw [ha2] at b2;have b3 := b2.val (v := .v (.bool t)) (u := .bool t) o.dst hdst rfl [];have := wp_seq_opsW (Q := fun ex a' w' => ∃ C' ph' s' h' β', IniOk C' I ∧ C'.dfr = [] ∧ Base C' n s' a' w' h' β' ∧ Hold J Jx ph' w' h' (ownM s' β') ∧ Q ex ph' s') c2 [] (List.range' (l1.length + 1) l2.length) _ B hB β1 (by simp) (fun j i o h1 h2 => ?_) b3 (fun a' w' h' β' b4 => ⟨⟨B, hB, C.β0, ownM s1 β1, []⟩, ph', s2, h', β', hi, rfl, b4, E.hold hh2 b4.evo (own_step b4), q2 _ _ _ hh2⟩)
  ·rwa [List.append_nil] at this
  ·have hj : j < l2.length := (List.getElem?_eq_some_iff.1 h2).1;rw [List.getElem?_range' hj] at h1;injection h1 with h1;subst h1
   have : ops.toList[l1.length + 1 + j]? = some o := by
    rw [hs, List.getElem?_append_right (by omega), show l1.length + 1 + j - l1.length = j + 1 by omega]; exact h2
   simpa using this
 obtain ⟨h2, ev, ⟨rfl, hJ⟩ | ⟨rfl, hJ⟩⟩ := hB
 ·exact tail true h2 (some (i + 1)) st Et ev hJ cht fun w' h' T k => qt (E.bound _ _ _ _ k)
 ·exact tail false h2 none sf Ef ev hJ chf fun w' h' T k => qf⟩
theorem base_init {args : List AV} {us : Array Value} {hp : Hp} (hw : Has w hp) (hr : RepL hp noB args us.toList) (hl : args.length ≤ n) : Base ⟨w, hp, noB, never, []⟩ n (St.init args) { tmps := us ++ Array.replicate (n - us.size) undef, defers := [] } w hp noB := by
 have hus : us.size = args.length := by rw [← Array.length_toList]; exact hr.length
 refine ⟨Evo.refl _ hw, Bt.le.refl _, fun i => ?_, fun id B hB => by simp [St.init] at hB, fun _ _ _ _ hB => by simp [St.init] at hB, fun _ _ _ hB => by simp [St.init] at hB, fun _ _ => rfl, by simp; omega, rfl⟩;simp only [St.init];by_cases hi : i < us.size
 ·have hget : (us ++ Array.replicate (n - us.size) undef).getD i undef = us[i] := by
   simp [Array.getD_eq_getD_getElem?, Array.getElem?_append, hi]
  rw [hget]
  have : ∀ (azs : List AV) (vs : List Value) (i : Nat) (v : Value), RepL hp noB azs vs → vs[i]? = some v → Rep hp noB (initE azs i) v := by
   intro azs
   induction azs with
   | nil => intro vs i v hr hv; simp only [RepL] at hr; subst hr; simp at hv
   | cons a azs ih =>
    intro vs i v hr hv;simp only [RepL] at hr;obtain ⟨u, r', rfl, h1, h2⟩ := hr
    cases i with
    | zero => simp at hv; subst hv; exact h1
    | succ i => exact ih r' i v h2 (by simpa using hv)
  exact this args us.toList i _ hr (by simp [hi])
 ·have : ∀ (azs : List AV) (i : Nat), azs.length ≤ i → initE azs i = .any := by
   intro azs
   induction azs with
   | nil => intro i _; rfl
   | cons a azs ih => intro i hi; cases i with
    | zero => simp at hi
    | succ i => exact ih i (by simpa using hi)
  rw [this args i (by omega)];simp only [Rep]
theorem IterFn.of_body [f : Facts P tab] {k : FuncId} {fn : Func} {c : Code} {caps : List AV} (hf : P.funcs[k]? = some fn) (hb : fn.body = some c) (hn : fn.ntmps = n) (hname : (fn.name == "runtime.NumGoroutine") = false) (hl : Nat.ble (caps.length + 1) n = true) (hres : fn.results.toList = [])
  (hk : ∀ l, IWP P n [] l e N c (fun ex ph _ => (ex = .normal ∨ ex = .ret) ∧ ∀ i, ph = some i → e i = none) (some 0) (St.init (.v (.func (.yield l) #[] #[]) :: caps))) : IterFn P k caps e N := by
 have hl := Nat.le_of_ble_eq_true hl;refine ⟨⟨fn, hf, hname, by rw [hb]; rfl⟩, fun W h us l J Jx hw hr stab stabx round bound h0 => ?_⟩;refine callsIn_wide.1 (callsIn_of_wp (F := Fence.wide) (n := 0) hf hb trivial ?_ rfl)
 have hr2 : RepL h noB (.v (.func (.yield l) #[] #[]) :: caps) (#[Value.func (.yield l) #[] #[]] ++ us).toList := by
  simp only [RepL, Array.toList_append];exact ⟨_, us.toList, rfl, rfl, hr⟩
 have hbase := base_init hw hr2 (n := n) (by simp; omega);subst hn;have E : ItEnv P l e N J Jx := ⟨stab, stabx, round, bound⟩
 have hh : Hold J Jx (some 0) W h (ownM (St.init (.v (.func (.yield l) #[] #[]) :: caps)) noB) := E.hold (ph := some 0) h0 (Evo.refl never hw) fun g ⟨id, B, k, _⟩ => by simp [St.init] at k
 refine wpIn_mono ((hk l).out J Jx E _ _ W h noB (fun id hid => (hid rfl).elim) rfl hbase hh) fun ex a' w' ⟨C', ph', s', h', β', i1, i2, b, hh, q1, q2⟩ => ?_
 have fin : a'.defers = [] ∧ ∃ v, (results fn a'.tmps).run P w' = .ok v w' ∧ ∃ v' hB T, Ending.returned v = .returned v' ∧ ((∃ i, e i = none ∧ J i w' hB T) ∨ Jx w' hB T) := by
  obtain ⟨v, hv, _⟩ := results_ok (P := P) (fn := fn) b (r := .tup []) (by rw [hres]; rfl);refine ⟨b.defers.trans i2, v, hv, v, h', ownM s' β', rfl, ?_⟩
  cases ph' with
  | none => exact .inr hh
  | some i => exact .inl ⟨i, q2 i rfl, hh⟩
 rcases q1 with rfl | rfl
 ·exact fin
 ·exact fin
end
end Go.AL
/- Iterators, rounds, functions with loops: joined to the walk of regions. -/
namespace Go.AL
section
variable {P : Program} {tab : Tab} {n : Nat} {I : List Id} {l : Nat} {e : Nat → Option (List AV)} {N : Nat} {ph : Option Nat} {s : St}
theorem IWP.seqL {c d : Code} {Q : Exit → Option Nat → St → Prop} (k : AWP P n I c (AThen (fun s => Stop (IWP P n I l e N d Q ph s)) (fun ex s => Q ex ph s)) s) : IWP P n I l e N (.seq c d) Q ph s :=
 IWP.seq (IWP.lift k fun ex s q => by
  cases ex with
  | normal => exact q.out
  | _ => exact q)
theorem FWP.seqL {c d : Code} {Q : Exit → St → Prop} (k : AWP P n I c (AThen (fun s => Stop (FWP P n I d Q s)) Q) s) : FWP P n I (.seq c d) Q s :=
 FWP.seq (FWP.lift (k.mono fun ex s q => by
  cases ex with
  | normal => exact q.out
  | _ => exact q))
theorem RWP.seqR [f : Facts P tab] {id : Nat} {ops : Array Oper} {draw : Bool} {d : Code} {Q : Exit → St → Prop} (hnd : noDefer ops = true) (k : Fl P n ops ⟨draw, []⟩ ops.toList s [] (fun ex s => ex = .normal ∧ RWP P n I l d Q s)) : RWP P n I l (.seq (.region id ops draw) d) Q s :=
 RWP.seq (RWP.region (K := fun s => RWP P n I l d Q s) hnd (fun s k => k) k)
theorem IWP.yieldT {Q : Exit → Option Nat → St → Prop} {id i : Nat} {ops : Array Oper} {o : Oper} {l2 : List Oper} (m : Nat) (hs : ops.toList.drop m = o :: l2)
  (k : Fl P n ops ⟨false, []⟩ (ops.toList.take m) s [] (fun ex s1 => ex = .normal ∧ YieldQ P n l e N i ops o l2 Q s1)) : IWP P n I l e N (.region id ops false) Q (some i) s :=
 IWP.yieldR (by rw [← hs, List.take_append_drop]) k
theorem IWP.last {c : Code} {Q : Exit → Option Nat → St → Prop} (k : AWP P n I c (fun ex s => Q ex ph s) s) : IWP P n I l e N c Q ph s := IWP.lift k fun _ _ q => q
theorem Ent.anyS {s' : St} (he : Ent n I s s') : Ent n I s (Go.AL.anyS s') := fun C a w hp β hi b =>
 let ⟨h', β', b'⟩ := he C a w hp β hi b
 ⟨h', β', ⟨b'.evo, b'.b0, fun _ => by simp only [Go.AL.anyS, Rep], b'.box, b'.apart, b'.own, b'.dom, b'.size, b'.defers⟩⟩
theorem lookE_within {ids : List Id} : ∀ {m : List (Nat × AV)}, (m.all fun p => p.2.within ids) = true → ∀ t, (lookE m t).within ids = true
 | [], _, _ => rfl
 | (j, v) :: m, h, t => by
  simp only [List.all_cons, Bool.and_eq_true] at h;rw [lookE]
  cases Nat.beq t j with
  | true => exact h.1
  | false => exact lookE_within h.2 t
end
end Go.AL
/- lucas.Chi, where its result is a number. -/
namespace Go.AL
theorem psi_le_chi {a : Int} (ha : 2 ≤ a) (N : Nat) : psiN a (N + 1) ≤ chiN a (N + 1) := by
 obtain ⟨p1, p2, p3⟩ := cp_pos ha N;have h4 : 3 * psiN a N ≤ (a * a - 1) * psiN a N := Int.mul_le_mul_of_nonneg_right (by have := Int.mul_le_mul ha ha (by omega) (by omega); omega) p2;have h5 : 2 * chiN a N ≤ a * chiN a N := Int.mul_le_mul_of_nonneg_right ha (by omega);have h6 : (a - 2) * (psiN a N) ≤ (a - 2) * chiN a N := Int.mul_le_mul_of_nonneg_left p3 (by omega);have h7 : a * psiN a N ≤ a * (a * psiN a N) := Int.mul_le_mul_of_nonneg_left (by have := Int.mul_le_mul_of_nonneg_right (show 1 ≤ a by omega) p2; omega) (by omega);rw [psi_succ, chi_succ]
 have e1 : (a - 2) * (psiN a N) = a * psiN a N - 2 * psiN a N := by grind
 have e2 : (a - 2) * (chiN a N) = a * chiN a N - 2 * chiN a N := by grind
 have e3 : (a * a - 1) * psiN a N = a * (a * psiN a N) - psiN a N := by grind
 omega
end Go.AL
namespace Go.Proofs.YtcaecieigoplbaaGreat
open Go.AL
end Go.Proofs.YtcaecieigoplbaaGreat
/- Powers by psi: plain. -/
namespace Go.AL
theorem chips_pos {a : Int} (ha : 1 ≤ a) : ∀ n : Nat, 1 ≤ chiN a n ∧ 0 ≤ psiN a n ∧ a ^ n ≤ chiN a n
 | 0 => by simp [chi_zero, psi_zero]
 | n + 1 => by
  obtain ⟨h1, h2, h3⟩ := chips_pos ha n;have h4 : 0 ≤ (a * a - 1) * psiN a n := Int.mul_nonneg (by have := Int.mul_le_mul ha ha (by omega) (by omega); omega) h2;have h5 : 0 ≤ a * psiN a n := Int.mul_nonneg (by omega) h2;have h6 : a * a ^ n ≤ a * chiN a n := Int.mul_le_mul_of_nonneg_left h3 (by omega);have h7 : 1 * chiN a n ≤ a * chiN a n := Int.mul_le_mul_of_nonneg_right ha (by omega);rw [chi_succ, psi_succ, Int.pow_succ, Int.mul_comm (a ^ n) a];refine ⟨by omega, by omega, by omega⟩
theorem psi_ge {a : Int} (ha : 1 ≤ a) (n : Nat) : a ^ n ≤ psiN a (n + 1) := by
 obtain ⟨h1, h2, h3⟩ := chips_pos ha n;have h5 : 0 ≤ a * psiN a n := Int.mul_nonneg (by omega) h2;rw [psi_succ]; omega
end Go.AL
/- Division by words: plain. -/
namespace Go.AL
theorem kn_step {q r v1 v2 top u2 un V U Q Bn : Int} (hqr : q * v1 + r = top) (hr : 0 ≤ r) (hBn : 0 < Bn) (hV : (v1 * 4294967296 + v2) * Bn ≤ V) (hU : U < (top * 4294967296 + u2 + 1) * Bn) (hQ : Q * V ≤ U) (hQB : Q < 4294967296) (hV0 : 0 < V) (hv1 : 0 < v1) (hv2 : 0 ≤ v2) (hq0 : 0 ≤ q)
  (h : 4294967296 ≤ q ∨ r * 4294967296 + u2 < q * v2) : Q ≤ q - 1 := by
 rcases h with h | h
 ·omega
 ·have h1 : (q * v1 * 4294967296 + q * v2) * Bn ≤ q * V := by
   have e : (q * v1 * 4294967296 + q * v2) * Bn = q * ((v1 * 4294967296 + v2) * Bn) := by grind
   rw [e];exact Int.mul_le_mul_of_nonneg_left hV hq0
  have h2 : (top * 4294967296 + u2 + 1) * Bn ≤ (q * v1 * 4294967296 + q * v2) * Bn := by
   refine Int.mul_le_mul_of_nonneg_right ?_ (by omega)
   have : top * 4294967296 = q * v1 * 4294967296 + r * 4294967296 := by rw [← hqr]; grind
   omega
  have h3 : Q * V < q * V := by omega
  have h4 : Q < q := Int.lt_of_mul_lt_mul_right h3 (by omega);omega
theorem kn_stop {q r v1 v2 top u2 V U Q Bn : Int} (hqr : q * v1 + r = top) (hBn : 0 < Bn) (hV : V < (v1 * 4294967296 + v2 + 1) * Bn) (hVB : 4294967296 * Bn ≤ V) (hU : (top * 4294967296 + u2) * Bn ≤ U) (hQ : U < (Q + 1) * V) (hV0 : 0 < V) (hq0 : 0 ≤ q) (hqB : q < 4294967296)
  (h : q * v2 ≤ r * 4294967296 + u2) (hQ0 : 0 ≤ Q) : q ≤ Q + 1 := by
 have h1 : q * V ≤ q * ((v1 * 4294967296 + v2 + 1) * Bn) := Int.mul_le_mul_of_nonneg_left (by omega) hq0
 have h2 : q * ((v1 * 4294967296 + v2 + 1) * Bn) ≤ (top * 4294967296 + u2) * Bn + 4294967296 * Bn := by
  have e : q * ((v1 * 4294967296 + v2 + 1) * Bn) = (q * v1 * 4294967296 + q * v2 + q) * Bn := by grind
  rw [e, ← Int.add_mul];refine Int.mul_le_mul_of_nonneg_right ?_ (by omega)
  have : top * 4294967296 = q * v1 * 4294967296 + r * 4294967296 := by rw [← hqr]; grind
  omega
 have h3 : q * V ≤ U + V := by omega
 have h4 : q * V < (Q + 1) * V + V := by omega
 have h5 : q * V < (Q + 2) * V := by
  have : (Q + 2) * V = (Q + 1) * V + V := by grind
  omega
 have h6 : q < Q + 2 := Int.lt_of_mul_lt_mul_right h5 (by omega);omega
end Go.AL
/- Division by words: a digit's subtraction; words of a given number. -/
namespace Go.AL
def wdW : Nat → Int → List Int
  | 0, _ => []
  | n + 1, z => z % 4294967296 :: wdW n (z / 4294967296)
theorem wdW_length : ∀ (n : Nat) (z : Int), (wdW n z).length = n
 | 0, _ => rfl
 | n + 1, z => by simp [wdW, wdW_length n]
theorem wdW_ok : ∀ (n : Nat) (z : Int), WOk (wdW n z)
 | 0, _ => WOk.nil
 | n + 1, z => WOk.cons (by omega) (by omega) (wdW_ok n _)
theorem val_wdW : ∀ (n : Nat) (z : Int), 0 ≤ z → z < BB n → val (wdW n z) = z
 | 0, z, h0, h1 => by simp only [BB_zero] at h1; simp only [wdW, val]; omega
 | n + 1, z, h0, h1 => by
  rw [BB_succ] at h1;have := val_wdW n (z / 4294967296) (by omega) (by omega);simp only [wdW, val, this]; omega
theorem wdW_eq : ∀ {l : List Int}, WOk l → l = wdW l.length (val l)
 | [], _ => rfl
 | x :: l, h => by
  have h1 := h.head;have ih := wdW_eq h.tail;simp only [List.length_cons, wdW, val]
  have e1 : (x + 4294967296 * val l) % 4294967296 = x := by omega
  have e2 : (x + 4294967296 * val l) / 4294967296 = val l := by omega
  rw [e1, e2, ← ih]
theorem sub_step {lo m v : List Int} {i : Nat} {q b x y w b' : Int} (hlo : lo.length = i) (hm : m[i]? = some y) (hv : v[i]? = some x) (hval : val lo = val (m.take i) - q * val (v.take i) + b * BB i) (hw : w + (q * x + b) = y + 4294967296 * b') :
  val (lo ++ [w]) = val (m.take (i + 1)) - q * val (v.take (i + 1)) + b' * BB (i + 1) := by
 have hmi : (m.take i).length = i := by have := (List.getElem?_eq_some_iff.1 hm).1; simp; omega
 have hvi : (v.take i).length = i := by have := (List.getElem?_eq_some_iff.1 hv).1; simp; omega
 have t1 : m.take (i + 1) = m.take i ++ [y] := by rw [List.take_add_one, hm]; rfl
 have t2 : v.take (i + 1) = v.take i ++ [x] := by rw [List.take_add_one, hv]; rfl
 rw [val_snoc, t1, t2, val_snoc, val_snoc, hmi, hvi, hlo, hval, BB_succ]
 have : w = y + 4294967296 * b' - (q * x + b) := by omega
 rw [this];grind
theorem add_step {lo m v : List Int} {i : Nat} {c x y w c' : Int} (hlo : lo.length = i) (hm : m[i]? = some y) (hv : v[i]? = some x) (hval : val lo + c * BB i = val (m.take i) + val (v.take i)) (hw : w + 4294967296 * c' = y + x + c) :
  val (lo ++ [w]) + c' * BB (i + 1) = val (m.take (i + 1)) + val (v.take (i + 1)) := by
 have hmi : (m.take i).length = i := by have := (List.getElem?_eq_some_iff.1 hm).1; simp; omega
 have hvi : (v.take i).length = i := by have := (List.getElem?_eq_some_iff.1 hv).1; simp; omega
 have t1 : m.take (i + 1) = m.take i ++ [y] := by rw [List.take_add_one, hm]; rfl
 have t2 : v.take (i + 1) = v.take i ++ [x] := by rw [List.take_add_one, hv]; rfl
 rw [val_snoc, t1, t2, val_snoc, val_snoc, hmi, hvi, hlo, BB_succ]
 have : w = y + x + c - 4294967296 * c' := by omega
 rw [this]
 have h2 : val lo = val (m.take i) + val (v.take i) - c * BB i := by omega
 rw [h2];grind
end Go.AL
/- Division by words: the highest words; a digit's end. -/
namespace Go.AL
theorem take_top {l : List Int} {k : Nat} {x : Int} (h : l[k]? = some x) : l.take (k + 1) = l.take k ++ [x] := by rw [List.take_add_one, h]; rfl
theorem val_top {l : List Int} {k : Nat} {x : Int} (h : l[k]? = some x) : val (l.take (k + 1)) = val (l.take k) + BB k * x := by
 have hl : (l.take k).length = k := by have := (List.getElem?_eq_some_iff.1 h).1; simp; omega
 rw [take_top h, val_snoc, hl]
theorem val_bounds {l : List Int} {k : Nat} (w : WOk l) (h : k ≤ l.length) : 0 ≤ val (l.take k) ∧ val (l.take k) < BB k := by
 refine ⟨val_nonneg (w.take k), ?_⟩;have := val_lt (w.take k);rwa [List.length_take, Nat.min_eq_left h] at this
theorem dig_facts {m v : List Int} {k : Nat} (hm : m.length = k + 3) (hv : v.length = k + 2) (wm : WOk m) (wv : WOk v) {un u1 u2 v1 v2 : Int} (e0 : m[k + 2]? = some un) (e1 : m[k + 1]? = some u1) (e2 : m[k]? = some u2) (f1 : v[k + 1]? = some v1) (f2 : v[k]? = some v2) :
  (v1 * 4294967296 + v2) * BB k ≤ val v ∧ val v < (v1 * 4294967296 + v2 + 1) * BB k ∧ ((un * 4294967296 + u1) * 4294967296 + u2) * BB k ≤ val m ∧ val m < ((un * 4294967296 + u1) * 4294967296 + u2 + 1) * BB k := by
 have h1 : val v = val (v.take k) + BB k * v2 + BB (k + 1) * v1 := by
  have a := val_top f1;rw [show k + 1 + 1 = k + 2 from rfl, ← hv, List.take_length, val_top f2] at a;exact a
 have h2 : val m = val (m.take k) + BB k * u2 + BB (k + 1) * u1 + BB (k + 2) * un := by
  have a := val_top e0;rw [show k + 2 + 1 = k + 3 from rfl, ← hm, List.take_length, show k + 2 = k + 1 + 1 from rfl, val_top e1, val_top e2] at a;exact a
 have b1 := val_bounds (k := k) wv (by omega);have b2 := val_bounds (k := k) wm (by omega);rw [show k + 2 = k + 1 + 1 from rfl] at h2;simp only [BB_succ] at h1 h2;rw [h1, h2];refine ⟨?_, ?_, ?_, ?_⟩ <;> grind
theorem quo_between {U V q : Int} (hV : 0 < V) (h1 : q * V ≤ U) (h2 : U < (q + 1) * V) : q = U / V := by
 have a : U / V * V ≤ U := by have := Int.mul_ediv_add_emod U V; have := Int.emod_nonneg U (show V ≠ 0 by omega); have e : V * (U / V) = U / V * V := Int.mul_comm _ _; omega
 have b : U < (U / V + 1) * V := by
  have := Int.mul_ediv_add_emod U V;have := Int.emod_lt_of_pos U hV;have e : V * (U / V) = U / V * V := Int.mul_comm _ _;rw [Int.add_mul]; omega
 have c : q < U / V + 1 := Int.lt_of_mul_lt_mul_right (Int.lt_of_le_of_lt h1 b) (by omega);have d : U / V < q + 1 := Int.lt_of_mul_lt_mul_right (Int.lt_of_le_of_lt a h2) (by omega);omega
theorem quo_spec {U V : Int} (hV : 0 < V) (hU : 0 ≤ U) : U / V * V ≤ U ∧ U < (U / V + 1) * V ∧ 0 ≤ U / V ∧ U % V = U - U / V * V := by
 have h1 := Int.mul_ediv_add_emod U V;have h2 := Int.emod_nonneg U (show V ≠ 0 by omega);have h3 := Int.emod_lt_of_pos U hV;have e : V * (U / V) = U / V * V := Int.mul_comm _ _;refine ⟨by omega, by rw [Int.add_mul]; omega, Int.ediv_nonneg hU (by omega), by omega⟩
theorem dig_end0 {U V q : Int} (hV : 0 < V) (hU : 0 ≤ U) (h1 : U / V ≤ q) (h2 : q ≤ U / V + 1) (h : 0 ≤ U - q * V) : q = U / V ∧ U - q * V = U % V := by
 obtain ⟨a, b, c, d⟩ := quo_spec hV hU
 have hq : q = U / V := by
  rcases (show q = U / V ∨ q = U / V + 1 by omega) with h3 | h3
  ·exact h3
  ·rw [h3] at h; omega
 exact ⟨hq, by rw [d, hq]⟩
theorem dig_end1 {U V q : Int} (hV : 0 < V) (hU : 0 ≤ U) (h1 : U / V ≤ q) (h2 : q ≤ U / V + 1) (h : U - q * V < 0) : q - 1 = U / V ∧ U - q * V + V = U % V := by
 obtain ⟨a, b, c, d⟩ := quo_spec hV hU
 have hq : q = U / V + 1 := by
  rcases (show q = U / V ∨ q = U / V + 1 by omega) with h3 | h3
  ·rw [h3] at h; omega
  ·exact h3
 refine ⟨by omega, ?_⟩;rw [d, hq, Int.add_mul]; omega
end Go.AL
/- Division by a word, shifts by binary digits: plain. -/
namespace Go.AL
theorem over_step {A os : List Int} {i : Nat} {b r x : Int} (hx : A[i]? = some x) (h : val (A.drop (i + 1)) = val os * b + r) :
  val (A.drop i) = val ((r * 4294967296 + x) / b :: os) * b + (r * 4294967296 + x) % b := by
 have hd : A.drop i = x :: A.drop (i + 1) := by
  have hi := (List.getElem?_eq_some_iff.1 hx);rw [List.drop_eq_getElem_cons hi.1, hi.2]
 have hm := Int.mul_ediv_add_emod (r * 4294967296 + x) b;rw [hd];simp only [val];rw [h];grind
theorem over_word {b r x : Int} (hb : 0 < b) (h0 : 0 ≤ r) (h1 : r < b) (h2 : 0 ≤ x) (h3 : x < 4294967296) : 0 ≤ (r * 4294967296 + x) / b ∧ (r * 4294967296 + x) / b < 4294967296 := by
 refine ⟨Int.ediv_nonneg (by omega) (by omega), Int.ediv_lt_of_lt_mul hb ?_⟩
 have : r * 4294967296 + x < (r + 1) * 4294967296 := by omega
 have h4 : (r + 1) * 4294967296 ≤ b * 4294967296 := Int.mul_le_mul_of_nonneg_right (by omega) (by omega);rw [Int.mul_comm]; omega
theorem over_end {V Q b r : Int} (h : V = Q * b + r) (h0 : 0 ≤ r) (h1 : r < b) : Q = V / b ∧ r = V % b := by
 have hq : Q = V / b := quo_between (by omega) (by omega) (by rw [Int.add_mul]; omega);refine ⟨hq, ?_⟩;have := Int.mul_ediv_add_emod V b;have e : b * (V / b) = V / b * b := Int.mul_comm _ _;rw [← hq] at e;rw [← hq] at this;omega
theorem or_low {r x : Int} (h0 : 0 ≤ r) (h1 : r < 4294967296) (h2 : 0 ≤ x) (h3 : x < 4294967296) : bitN .or (r * 4294967296 % 18446744073709551616) x = r * 4294967296 + x := by
 show (((r * 4294967296 % 18446744073709551616).toNat ||| x.toNat : Nat) : Int) = _
 have e : (r * 4294967296 % 18446744073709551616).toNat = r.toNat <<< 32 := by rw [Nat.shiftLeft_eq]; omega
 rw [e, ← Nat.shiftLeft_add_eq_or_of_lt (by omega : x.toNat < 2 ^ 32), Nat.shiftLeft_eq];omega
theorem or_carry {c x : Int} {k : Nat} (hk : k < 32) (h0 : 0 ≤ c) (h1 : c < 2 ^ k) (h2 : 0 ≤ x) (h3 : x < 4294967296) : bitN .or c (x * 2 ^ k % 4294967296) = c + x * 2 ^ k % 4294967296 ∧ c + x * 2 ^ k % 4294967296 < 4294967296 := by
 have hp : (2 : Int) ^ k = ((2 ^ k : Nat) : Int) := by norm_cast
 have hs : (2 : Int) ^ 32 = 2 ^ k * 2 ^ (32 - k) := by rw [← Int.pow_add]; congr 1; omega
 have hs' : (4294967296 : Int) = 2 ^ k * 2 ^ (32 - k) := by rw [← hs]; rfl
 have e : x * 2 ^ k % 4294967296 = (x % 2 ^ (32 - k)) * 2 ^ k := by
  rw [hs', Int.mul_comm x, Int.mul_emod_mul_of_pos _ _ (Int.pow_pos (by omega)), Int.mul_comm]
 have hx := Int.emod_nonneg x (show (2 : Int) ^ (32 - k) ≠ 0 from Int.ne_of_gt (Int.pow_pos (by omega)));have hx2 := Int.emod_lt_of_pos x (show (0 : Int) < 2 ^ (32 - k) from Int.pow_pos (by omega));obtain ⟨m, hm⟩ : ∃ m : Nat, x % 2 ^ (32 - k) = m := ⟨_, (Int.toNat_of_nonneg hx).symm⟩;obtain ⟨d, hd⟩ : ∃ d : Nat, c = d := ⟨_, (Int.toNat_of_nonneg h0).symm⟩;rw [e, hm, hd];rw [hd, hp] at h1;rw [hm] at hx2;constructor
 ·show (((d : Int).toNat ||| ((m : Int) * 2 ^ k).toNat : Nat) : Int) = _
  have e2 : ((m : Int) * 2 ^ k).toNat = m <<< k := by rw [Nat.shiftLeft_eq, hp, ← Int.natCast_mul, Int.toNat_natCast]
  rw [e2, Int.toNat_natCast, Nat.or_comm, ← Nat.shiftLeft_add_eq_or_of_lt (by exact_mod_cast h1), Nat.shiftLeft_eq, hp, ← Int.natCast_mul, ← Int.natCast_add, Nat.add_comm]
 ·have h4 : ((m : Int) + 1) * 2 ^ k ≤ 2 ^ (32 - k) * 2 ^ k := Int.mul_le_mul_of_nonneg_right (by omega) (Int.le_of_lt (Int.pow_pos (by omega)));rw [Int.mul_comm (2 ^ (32 - k)), ← hs'] at h4;rw [hp] at h4 ⊢;rw [Int.add_mul] at h4;omega
theorem left_step {A P : List Int} {i : Nat} {c x B w c' S : Int} (hx : A[i]? = some x) (hB : BB P.length = B * BB i) (h : val P + BB P.length * c = B * S * val (A.take i)) (hw : w + 4294967296 * c' = c + x * S) :
  val (P ++ [w]) + BB (P ++ [w]).length * c' = B * S * val (A.take (i + 1)) := by
 have e : (P ++ [w]).length = P.length + 1 := by simp
 rw [e, val_snoc, val_take_succ hx, BB_succ]
 have e2 : w = c + x * S - 4294967296 * c' := by omega
 rw [e2]
 have e3 : B * S * (val (A.take i) + BB i * x) = B * S * val (A.take i) + (B * BB i) * (x * S) := by grind
 rw [e3, ← h, ← hB];grind
theorem right_step {A os : List Int} {i : Nat} {k : Nat} {w V : Int} (hk : k < 32) (wA : WOk A) (hV : V = val A) (hlen : os.length = i) (h : val os = V / 2 ^ k % BB i) (hi : i < A.length)
  (hw : w = val (A.drop i) / 2 ^ k % 4294967296) : val (os ++ [w]) = V / 2 ^ k % BB (i + 1) := by
 have hsp : V = val (A.take i) + BB i * val (A.drop i) := by
  rw [hV]
  conv => lhs; rw [← List.take_append_drop i A, val_append]
  rw [List.length_take, Nat.min_eq_left (by omega)]
 have hb := val_bounds (k := i) wA (by omega);have hB := BB_pos i;have h2 : (0 : Int) < 2 ^ k := Int.pow_pos (by omega)
 have e1 : V / BB i = val (A.drop i) := by
  rw [hsp, Int.add_mul_ediv_left _ _ (by omega), Int.ediv_eq_zero_of_lt hb.1 hb.2]; omega
 have e2 : V / 2 ^ k / BB i = val (A.drop i) / 2 ^ k := by
  rw [← e1, Int.ediv_ediv_of_nonneg (by omega), Int.ediv_ediv_of_nonneg (by omega), Int.mul_comm]
 rw [val_snoc, hlen, h, hw, ← e2, BB_succ];generalize V / 2 ^ k = U;have a1 := Int.mul_ediv_add_emod U (BB i);have a2 := Int.mul_ediv_add_emod (U / BB i) 4294967296;have a3 := Int.emod_nonneg U (show BB i ≠ 0 by omega);have a4 := Int.emod_lt_of_pos U hB;have a5 := Int.emod_nonneg (U / BB i) (show (4294967296 : Int) ≠ 0 by omega);have a6 := Int.emod_lt_of_pos (U / BB i) (show (0 : Int) < 4294967296 by omega)
 have e : U = U % BB i + BB i * (U / BB i % 4294967296) + 4294967296 * BB i * (U / BB i / 4294967296) := by
  conv => lhs; rw [← a1, ← a2]
  grind
 have hlt : U % BB i + BB i * (U / BB i % 4294967296) < 4294967296 * BB i := by
  have : BB i * (U / BB i % 4294967296) ≤ BB i * 4294967295 := Int.mul_le_mul_of_nonneg_left (by omega) (by omega);omega
 have hnn : 0 ≤ U % BB i + BB i * (U / BB i % 4294967296) := Int.add_nonneg a3 (Int.mul_nonneg (by omega) a5)
 conv => rhs; rw [e]
 rw [Int.add_mul_emod_self_left, Int.emod_eq_of_lt hnn hlt]
end Go.AL
/- A byte of a fixed string; bits.Len32, bits.LeadingZeros32. -/
namespace Go.AL
section
variable {P : Program} {tab : Tab} {n : Nat} {s : St}
variable {ops : Array Oper} {draw : Dr} {o : Oper} {l : List Oper} {acc : List Eff} {K : Exit → St → Prop}
theorem Fl.ixS [f : Facts P tab] {t : TypeId} {x y : Operand} (hop : o.op = .index t x y) {sz' by' : Nat} {z : List Value} (hts : tab t = some ⟨.string, sz', by', z⟩) {d : ByteArray} (hx : opd s x = .v (.string d)) {k : IntKind} {m : Int} (hy : opd s y = .v (.int k m)) (q : Nat) (hg : gOk ops s o = true) (hd : dOk n o.dst = true) (h0 : 0 ≤ m) (hv : (d[m.toNat]?).map (·.toNat) = some q)
  (r : Fl P n ops draw l ((Eff.mk (.v (.int .u8 q)) [] [] [] []).app o.dst s) (Eff.mk (.v (.int .u8 q)) [] [] [] [] :: acc) K) : Fl P n ops draw (o :: l) s acc K := by
 refine Fl.opv hg (OpJ.of_run (dOk_lt hd) fun C s' a w h β ho _ b => ?_) r;have hxr := opd_rep b x;have hyr := opd_rep b y;rw [ho x (by simp [hop, Op.operands]), hx] at hxr;rw [ho y (by simp [hop, Op.operands]), hy] at hyr;simp only [Rep] at hxr hyr;have hu := (f.tabOk _ _ hts).und;simp only at hu;obtain ⟨c, hc, hq⟩ := Option.map_eq_some_iff.1 hv;refine ⟨.int .u8 q, ?_, by simp only [Rep]⟩;simp only [execOp, hop, hxr, hyr, Instr.index, asIntOf, Sem.run_bind, Sem.run_pure, Result.andThen, run_underlying hu];rw [if_pos h0, hc];simp only [Sem.run_pure, hq]
end
def lenB (n : Nat) : Nat := if n = 0 then 0 else Nat.log2 n + 1
theorem lenB_shift {n k : Nat} (h : 2 ^ k ≤ n) : lenB n = lenB (n / 2 ^ k) + k := by
 have h2 : 0 < 2 ^ k := Nat.two_pow_pos k
 have hq : n / 2 ^ k ≠ 0 := by have := Nat.div_pos h h2; omega
 have hn : n ≠ 0 := by omega
 unfold lenB;rw [if_neg hn, if_neg hq]
 have : n.log2 = (n / 2 ^ k).log2 + k := by
  rw [Nat.log2_eq_iff hn];have a1 := Nat.log2_self_le hq;have a2 := @Nat.lt_log2_self (n / 2 ^ k);constructor
  ·rw [Nat.pow_add];have := Nat.mul_le_mul_right (2 ^ k) a1;have := Nat.div_mul_le_self n (2 ^ k);omega
  ·have b1 : n / 2 ^ k < 2 ^ ((n / 2 ^ k).log2 + 1) := a2;have := (Nat.div_lt_iff_lt_mul h2).1 b1;rw [show (n / 2 ^ k).log2 + k + 1 = (n / 2 ^ k).log2 + 1 + k by omega, Nat.pow_add];exact this
 omega
theorem lenB_spec {n : Nat} (h : n ≠ 0) : 1 ≤ lenB n ∧ 2 ^ (lenB n - 1) ≤ n ∧ n < 2 ^ lenB n := by
 unfold lenB;rw [if_neg h];exact ⟨by omega, Nat.log2_self_le h, Nat.lt_log2_self⟩
theorem lenB_le {n k : Nat} (h : n < 2 ^ k) : lenB n ≤ k := by
 rcases Nat.eq_zero_or_pos n with h0 | h0
 ·subst h0; simp [lenB]
 ·obtain ⟨a, b, c⟩ := lenB_spec (n := n) (by omega);have := (Nat.pow_lt_pow_iff_right (a := 2) (by omega)).1 (Nat.lt_of_le_of_lt b h);omega
theorem tab_of {d : ByteArray} {f : Nat → Nat} (h : (List.range 256).all (fun y => match d[y]? with | some b => Nat.beq b.toNat (f y) | none => false) = true) {y : Nat} (hy : y < 256) : (d[(y : Int).toNat]?).map (·.toNat) = some (f y) := by
 have := List.all_eq_true.1 h y (List.mem_range.2 hy);rw [Int.toNat_natCast];split at this
 ·rename_i b hb;rw [hb];exact congrArg some (Nat.eq_of_beq_eq_true this)
 ·cases this
end Go.AL
namespace Go.Proofs.YtcaecieigoplbaaGreat
open Go.AL
set_option maxRecDepth 100000 in
theorem Len32_ok (x : Nat) (h : x < 4294967296) : PureFn Tryz.prog 210 [.v (.int .u32 x)] (aN (lenB x)) := by
 refine PureFn.of_body Tryz.func210 rfl Tryz.ntmps210 rfl rfl ?_;refine AWP.seqS ?_;(repeat' (first |refine qv ?_ |apply qn |apply qr));refine ⟨?_⟩;refine AWP.seqJ (G := Nat × Nat) (fun (y, k) => y < 65536 ∧ k ≤ 16 ∧ lenB x = lenB y + k) (fun (y, k) => St.of [] [(0, .v (.int .u32 y)), (2, aN k)] []) ?_ ?_
 ·(repeat' (first |refine qv ?_ |apply qn |apply qs |apply qr |refine qw ?_ |(refine AWP.condD rfl ?_ ?_ <;> intro _ <;> try (exfalso; omega)) |apply qk))
  ·refine JoinOk.of (x / 65536, 16) ⟨by omega, by omega, lenB_shift (k := 16) (by omega)⟩ ?_;refine Ent.of [] ?_ ?_ rfl rfl;(repeat' (first |exact True.intro |refine ⟨⟨AV.Le.refl _, rfl⟩, ?_⟩|fail))
  ·refine JoinOk.of (x, 0) ⟨by omega, by omega, rfl⟩ ?_;refine Ent.of [] ?_ ?_ rfl rfl;(repeat' (first |exact True.intro |refine ⟨⟨AV.Le.refl _, rfl⟩, ?_⟩|fail))
 ·intro ⟨y, k⟩ ⟨h0, h1, h2⟩;refine AWP.seqJ (G := Nat × Nat) (fun (y, k) => y < 256 ∧ k ≤ 24 ∧ lenB x = lenB y + k) (fun (y, k) => St.of [] [(0, .v (.int .u32 y)), (2, aN k)] []) ?_ ?_
  ·(repeat' (first |refine qv ?_ |apply qn |apply qs |apply qr |refine qw ?_ |(refine AWP.condD rfl ?_ ?_ <;> intro _ <;> try (exfalso; omega)) |apply qk))
   ·refine JoinOk.of (y / 256, k + 8) ⟨by omega, by omega, by have e := lenB_shift (n := y) (k := 8) (by omega); rw [show 2 ^ 8 = 256 from rfl] at e; show _ = lenB (y / 256) + (k + 8); omega⟩ ?_;refine Ent.of [] ?_ ?_ rfl rfl;(repeat' (first |exact True.intro |refine ⟨⟨AV.Le.refl _, rfl⟩, ?_⟩|fail))
   ·refine JoinOk.of (y, k) ⟨by omega, by omega, h2⟩ ?_;refine Ent.of [] ?_ ?_ rfl rfl;(repeat' (first |exact True.intro |refine ⟨⟨AV.Le.refl _, rfl⟩, ?_⟩|fail))
  ·intro ⟨y, k⟩ ⟨h0, h1, h2⟩;have hl8 := lenB_le (k := 8) h0;(repeat' (first |refine qv ?_ |apply qs |apply qr));refine Fl.ixS rfl rfl rfl rfl (lenB y) rfl rfl (by omega) ?_ ?_
   ·have e : ((y : Int) % 256) = y := by omega
    rw [e];refine tab_of (f := lenB) ?_ h0;kernel_rfl
   (repeat' (first |refine qv ?_ |apply qn |refine qw ?_ |apply qt |refine Fl.cvS rfl rfl rfl rfl rfl rfl ?_));refine RetOk.of rfl (AV.Le.int ?_);omega
theorem LeadingZeros32_ok (x : Nat) (h : x < 4294967296) : PureFn Tryz.prog 212 [.v (.int .u32 x)] (aN (32 - lenB x)) := by
 have hl := lenB_le (k := 32) h;refine PureFn.of_body Tryz.func212 rfl Tryz.ntmps212 rfl rfl ?_;(repeat' (first |refine qv ?_ |apply qn |apply qs |apply qr));refine qc (Len32_ok x h) ?_;(repeat' (first |refine qv ?_ |apply qn |refine qw ?_ |apply qt));exact RetOk.of rfl (AV.Le.refl _)
end Go.Proofs.YtcaecieigoplbaaGreat
/- large.over, large.left, large.right (by less than a word). -/
namespace Go.AL
theorem set_zeros {i m : Nat} {q q' : Int} {os : List Int} {k : Nat} (hk : k = m) (hm : m + 1 = i) (hq : q = q') : (List.replicate i 0 ++ os).set k q = List.replicate m 0 ++ q' :: os := by
 subst hk hm hq;rw [List.replicate_succ', List.append_assoc];simp
end Go.AL
namespace Go.Proofs.YtcaecieigoplbaaGreat
open Go.AL

theorem over_ok (x b : Int) (hx : 0 ≤ x) (hxl : (toW x).length ≤ 50000) (hb : 0 < b) (hb1 : b < 4294967296) : PureFn Tryz.prog 211 [aW (toW x), .v (.int .u32 b)] (.tup [aW (toW (x / b)), .v (.int .u32 (x % b))]) := by
 refine PureFn.of_body Tryz.func211 rfl Tryz.ntmps211 rfl rfl ?_;have wx := toW_ok x;have hsx := val_toW hx
 generalize toW x = A at *
 subst hsx;(repeat' (first |refine qv ?_ |apply qn |apply qs |apply qr |refine qw ?_ |apply qb |refine Fl.make rfl rfl rfl rfl rfl rfl rfl rfl rfl rfl eW 0 (by exact LeL.refl _) (by rfl) (by first | omega | (dsimp only; omega)) (by first | omega | (dsimp only; omega)) (by first | omega | (dsimp only; omega)) ?_|fail));refine AWP.loop (G := Nat × List Int × Int) (fun (i, os, r) => os.length + i = A.length ∧ WOk os ∧ 0 ≤ r ∧ r < b ∧ val (A.drop i) = val os * b + r)
  (fun (i, os, r) => St.of [] [(0, aW A), (1, .v (.int .u32 b)), (6, .row 11), (7, aU r), (8, aN ((i : Int) - 1))] [(11, .row 1 eW (List.replicate i 0 ++ os) 62)])
  (fun (i, os, r) => i) (A.length, [], 0) ⟨by simp, WOk.nil, by omega, by omega, by simp [val]⟩ ?_ ?_
 ·refine Ent.of [] ?_ ?_ rfl rfl;(repeat' (first |exact True.intro |refine ⟨⟨AV.Le.refl _, rfl⟩, ?_⟩ |refine ⟨⟨⟨_, rfl, BLe.row ?_⟩, rfl⟩, ?_⟩|fail));simp
 ·intro ⟨i, os, r⟩ ⟨h0, h1, h2, h3, h4⟩;refine AWP.seqS ?_;(repeat' (first |refine qv ?_ |apply qn |apply qs |apply qr |(refine AWP.condD rfl ?_ ?_ <;> intro _ <;> try (exfalso; omega)) |apply qk |apply qx))
  ·refine ⟨?_⟩;refine AWP.seq (AWP.block (AWP.seqJ (G := Int) (fun y => A[i - 1]? = some y ∧ 0 ≤ y ∧ y < 4294967296) (fun y => St.of [] [(0, aW A), (1, .v (.int .u32 b)), (6, .row 11), (7, aU (r * 4294967296 + y)), (8, aN ((i : Int) - 1))] [(11, .row 1 eW (List.replicate i 0 ++ os) 62)]) ?_ ?_))
   ·(repeat' (first |refine qv ?_ |apply qn |apply qr |refine qw ?_ |(refine Fl.elW rfl rfl rfl rfl rfl rfl rfl rfl (by omega) (by omega) (by assumption) ?_; intro _ _ _ _)|fail));rename_i hi y hy hy0 hy1;rw [show ((i : Int) - 1).toNat = i - 1 by omega] at hy;refine JoinOk.of y ⟨hy, hy0, hy1⟩ ?_;refine Ent.of [] ?_ ?_ rfl rfl;(repeat' (first |exact True.intro |refine ⟨⟨AV.Le.refl _, rfl⟩, ?_⟩ |refine ⟨⟨⟨_, rfl, BLe.row rfl⟩, rfl⟩, ?_⟩ |refine ⟨⟨AV.Le.int ?_, rfl⟩, ?_⟩|fail));rw [show (2 : Int) ^ (32 : Int).toNat = 4294967296 from rfl];exact or_low h2 (by omega) hy0 hy1
   ·intro y ⟨hy, hy0, hy1⟩
    have hi : 0 < i := by
     rcases Nat.eq_zero_or_pos i with h | h
     ·subst h; omega
     ·exact h
    obtain ⟨q, hq⟩ : ∃ q, q = (r * 4294967296 + y) / b := ⟨_, rfl⟩;obtain ⟨r', hr'⟩ : ∃ r', r' = (r * 4294967296 + y) % b := ⟨_, rfl⟩;have hw := over_word hb h2 h3 hy0 hy1;have hm0 := Int.emod_nonneg (r * 4294967296 + y) (show b ≠ 0 by omega);have hm1 := Int.emod_lt_of_pos (r * 4294967296 + y) hb;have hst := over_step (i := i - 1) hy (by rw [show i - 1 + 1 = i by omega]; exact h4);rw [← hq] at hw hst;rw [← hr'] at hm0 hm1 hst;(repeat' (first |refine qv ?_ |apply qn |apply qs |apply qr |refine qw ?_ |refine Fl.w rfl rfl rfl ⟨by omega, by omega, by dsimp only [hiK]; omega⟩ ?_ |refine Fl.rel rfl rfl rfl rfl rfl rfl rfl rfl (by omega) (by first | omega | (simp; omega)) ?_ |refine Fl.rst rfl rfl rfl rfl rfl rfl rfl rfl rfl rfl rfl (LeL.refl _) rfl (by first | omega | (simp; omega)) ?_|fail));refine LoopEnd.of (i - 1, q :: os, r') ⟨by simp only [List.length_cons]; omega, WOk.cons hw.1 hw.2 h1, hm0, hm1, hst⟩ (by simp only; omega) ?_;refine Ent.of [] ?_ ?_ rfl rfl;(repeat' (first |exact True.intro |refine ⟨⟨AV.Le.refl _, rfl⟩, ?_⟩ |refine ⟨⟨⟨_, rfl, BLe.row ?_⟩, rfl⟩, ?_⟩ |refine ⟨⟨AV.Le.int ?_, rfl⟩, ?_⟩|fail))
    ·exact hr'.symm
    ·omega
    ·refine set_zeros (by omega) (by omega) ?_;rw [← hq]; omega
  ·rename_i hi
   have hi0 : i = 0 := by omega
   subst hi0;rw [List.drop_zero] at h4;obtain ⟨e1, e2⟩ := over_end h4 h2 h3;refine Fl.callF rfl 11 rfl (trim_ok os h1 (by omega)) rfl rfl rfl (LeL.refl _) ?_;(repeat' (first |refine qv ?_ |apply qn |apply qt));refine RetOk.of rfl ?_;rw [← e1, ← e2];exact AV.Le.tup (LeL.cons (AV.Le.refl _) (LeL.cons (AV.Le.int (by omega)) LeL.nil))

theorem set_carry {P : List Int} {c w w' v v' : Int} {m M : Nat} {i j : Nat} (hi : i = P.length) (hj : j = P.length + 1) (hM : M = m + 1) (hv : v = v') (hw : w = w') : ((P ++ c :: List.replicate M 0).set i v).set j w = (P ++ [v']) ++ w' :: List.replicate m 0 := by
 subst hi hj hM hv hw;rw [List.replicate_succ];simp
theorem get_carry {P R : List Int} {c : Int} {i : Nat} (hi : i = P.length) : (P ++ c :: R)[i]? = some c := by subst hi; simp

theorem left_ok (x : Int) (k n : Nat) (hx : 0 ≤ x) (hxl : (toW x).length ≤ 40000) (hk : k < 32) (hn : n ≤ 200000) (hd : n % 32 = k) : PureFn Tryz.prog 175 [aW (toW x), aN n] (aW (toW (x * 2 ^ n))) := by
 refine PureFn.of_body Tryz.func175 rfl Tryz.ntmps175 rfl rfl ?_;have wx := toW_ok x;have hsx := val_toW hx;obtain ⟨d, hdn⟩ : ∃ d, d = n / 32 := ⟨_, rfl⟩;have h2 : (0 : Int) < 2 ^ k := Int.pow_pos (by omega)
 have hpw : (2 : Int) ^ n = BB d * 2 ^ k := by rw [BB_pow, ← Int.pow_add]; congr 1; omega
 rw [hpw];refine AWP.seqS ?_;(repeat' (first |refine qv ?_ |apply qn |apply qr));refine ⟨AWP.seqS ?_⟩;(repeat' (first |refine qv ?_ |apply qn |apply qs |apply qr |(refine AWP.condD rfl ?_ ?_ <;> intro _ <;> try (exfalso; omega)) |apply qk |apply qt))
 ·rename_i h0;have hx0 : x = 0 := (toW_nil_iff hx).1 (List.eq_nil_of_length_eq_zero (by omega));refine RetOk.of rfl ?_;rw [hx0, Int.zero_mul, toW_zero];exact AV.Le.nil 1 eW
 rename_i hne
 generalize toW x = A at *
 subst hsx;refine ⟨AWP.seqS ?_⟩;(repeat' (first |refine qv ?_ |apply qn |apply qr |refine qw ?_ |refine Fl.w rfl rfl rfl ⟨by omega, by omega, by dsimp only [hiK]; omega⟩ ?_ |refine Fl.make rfl rfl rfl rfl rfl rfl rfl rfl rfl rfl eW 0 (by exact LeL.refl _) (by rfl) (by first | omega | (dsimp only; omega)) (by first | omega | (dsimp only; omega)) (by first | omega | (dsimp only; omega)) ?_|fail));refine ⟨AWP.seqS ?_⟩;(repeat' (first |refine qv ?_ |apply qn |apply qr |refine qw ?_|fail));refine ⟨?_⟩;refine AWP.seqJ (G := List Int) (fun os => WOk os ∧ os.length ≤ 90000 ∧ val os = val A * (BB d * 2 ^ k)) (fun os => St.of [] [(5, .row 19)] [(19, .row 1 eW os 62)]) ?_ ?_
 ·(repeat' (first |refine qv ?_ |apply qn |apply qs |apply qr |apply qb));refine AWP.loop (G := Nat × List Int × Int) (fun (i, P, c) => i ≤ A.length ∧ P.length = d + i ∧ WOk P ∧ 0 ≤ c ∧ c < 2 ^ k ∧ val P + BB P.length * c = BB d * 2 ^ k * val (A.take i))
   (fun (i, P, c) => St.of [] [(1, aN n), (5, .row 19), (6, .v (.int .u64 k)), (23, aW A), (24, aN A.length), (25, aN i)] [(19, .row 1 eW (P ++ c :: List.replicate (A.length - i) 0) 62)])
   (fun (i, P, c) => A.length - i) (0, List.replicate d 0, 0) ⟨by omega, by simp, WOk.zeros _, by omega, h2, by simp [val, val_zeros]⟩ ?_ ?_
  ·refine Ent.of [] ?_ ?_ rfl rfl;(repeat' (first |exact True.intro |refine ⟨⟨AV.Le.refl _, rfl⟩, ?_⟩ |refine ⟨⟨⟨_, rfl, BLe.row ?_⟩, rfl⟩, ?_⟩ |refine ⟨⟨AV.Le.int ?_, rfl⟩, ?_⟩|fail))
   ·omega
   ·rw [← List.replicate_succ, List.replicate_append_replicate]; congr 1; omega
  ·intro ⟨i, P, c⟩ ⟨h0, h1, h3, h4, h5, h6⟩
   have h5' : c < 4294967296 := Int.lt_of_lt_of_le h5 (by
    have : (2 : Int) ^ k ≤ 2 ^ 32 := pow_le_r (by omega) (by omega)
    rw [show (2 : Int) ^ 32 = 4294967296 from rfl] at this; exact this)
   have hW : WOk (P ++ c :: List.replicate (A.length - i) 0) := h3.append (WOk.cons h4 h5' (WOk.zeros _));(repeat' (first |refine qv ?_ |apply qn |apply qs |apply qr |refine qw ?_ |refine Fl.w rfl rfl rfl ⟨by omega, by omega, by dsimp only [hiK]; omega⟩ ?_ |(refine AWP.condD rfl ?_ ?_ <;> intro _ <;> try (exfalso; omega)) |apply qb |apply qk |apply qx |(refine Fl.elW rfl rfl rfl rfl rfl rfl rfl rfl (by omega) (by omega) (by assumption) ?_; intro _ _ _ _) |refine Fl.rel rfl rfl rfl rfl rfl rfl rfl rfl (by omega) (by first | omega | (simp; omega)) ?_ |(refine Fl.rldW rfl rfl rfl rfl rfl rfl rfl (fun _ => rfl) (fun _ => rfl) (by first | omega | (simp; omega)) (by assumption) ?_; intro _ _ _ _) |refine Fl.rst rfl rfl rfl rfl rfl rfl rfl rfl rfl rfl rfl (LeL.refl _) rfl (by first | omega | (simp; omega)) ?_|fail))
   ·rename_i hi y hy hy0 hy1 x hx hx0 hx1;rw [Int.toNat_natCast] at hy;rw [get_carry (by omega)] at hx;injection hx with hx;subst hx;have hb := or_carry hk h4 h5 hy0 hy1
    have hp : (2 : Int) ^ k ≤ 2147483648 := by
     have : (2 : Int) ^ k ≤ 2 ^ 31 := pow_le_r (by omega) (by omega);rw [show (2 : Int) ^ 31 = 2147483648 from rfl] at this; exact this
    obtain ⟨Y, hY⟩ : ∃ Y, Y = y * 2 ^ k := ⟨_, rfl⟩
    have hY0 : 0 ≤ Y := by rw [hY]; exact Int.mul_nonneg hy0 (by omega)
    have hY1 : Y ≤ 4294967295 * 2 ^ k := by rw [hY]; exact Int.mul_le_mul_of_nonneg_right (by omega) (by omega)
    have hY2 : Y / 4294967296 < 2 ^ k := by omega
    have hst := left_step (S := 2 ^ k) (B := BB d) (w := c + Y % 4294967296) (c' := Y / 4294967296) hy (by rw [h1, BB_add]) h6 (by rw [← hY]; omega);rw [← hY] at hb;refine LoopEnd.of (i + 1, P ++ [c + Y % 4294967296], Y / 4294967296) ⟨by omega, by simp; omega, h3.append (WOk.cons (by omega) hb.2 WOk.nil), by omega, hY2, hst⟩ (by simp only; omega) ?_;refine Ent.of [] ?_ ?_ rfl rfl;(repeat' (first |exact True.intro |refine ⟨⟨AV.Le.refl _, rfl⟩, ?_⟩ |refine ⟨⟨⟨_, rfl, BLe.row ?_⟩, rfl⟩, ?_⟩|fail));refine set_carry (by omega) (by omega) (by omega) ?_ ?_
    ·rw [show ((k : Int)).toNat = k from Int.toNat_natCast k, ← hY];rw [← hb.1, show Y % 18446744073709551616 % 4294967296 = Y % 4294967296 by omega]
    ·rw [show ((k : Int)).toNat = k from Int.toNat_natCast k, ← hY];rw [p32];omega
   ·have hi : i = A.length := by omega
    subst hi;refine JoinOk.of (P ++ [c]) ⟨h3.append (WOk.cons h4 h5' WOk.nil), by simp; omega, ?_⟩ ?_
    ·rw [val_snoc, h6, List.take_length, Int.mul_comm]
    ·refine Ent.of [] ?_ ?_ rfl rfl;(repeat' (first |exact True.intro |refine ⟨⟨AV.Le.refl _, rfl⟩, ?_⟩ |refine ⟨⟨⟨_, rfl, BLe.row ?_⟩, rfl⟩, ?_⟩|fail));simp
 ·intro os ⟨h0, h1, h3⟩;(repeat' (first |refine qv ?_ |apply qs |apply qr));refine Fl.callF rfl 19 rfl (trim_ok os h0 (by omega)) rfl rfl rfl (LeL.refl _) ?_;(repeat' (first |refine qv ?_ |apply qn |apply qt));refine RetOk.of rfl ?_;rw [h3];exact AV.Le.refl _

theorem rightF_ok (s : List Int) (hs : s = []) : PureFn Tryz.prog 231 [aW s, .fn 215 []] (aN (-1)) := by
 refine PureFn.of_body Tryz.func231 rfl Tryz.ntmps231 rfl rfl ?_;subst hs;(repeat' (first |refine qv ?_ |apply qn |apply qs |apply qr |apply qb));refine AWP.loop (G := Unit) (fun _ => True) (fun _ => St.of [] [(7, aN 0), (8, aN 0)] []) (fun _ => 0) () trivial ?_ ?_
 ·refine Ent.of [] ?_ ?_ rfl rfl;(repeat' (first |exact True.intro |refine ⟨⟨AV.Le.refl _, rfl⟩, ?_⟩|fail))
 ·intro _ _;(repeat' (first |refine qv ?_ |apply qn |apply qs |apply qr |refine AWP.condF rfl ?_ |apply qx |apply qt));exact RetOk.of rfl (AV.Le.refl _)
theorem rightC_ok (s : List Int) (hs : s = []) : PureFn Tryz.prog 214 [aW s, .fn 215 []] (aB false) := by
 refine PureFn.of_body Tryz.func214 rfl Tryz.ntmps214 rfl rfl ?_;(repeat' (first |refine qv ?_ |apply qn |apply qs |apply qr));refine qc (rightF_ok s hs) ?_;(repeat' (first |refine qv ?_ |apply qn |apply qt));exact RetOk.of rfl (AV.Le.refl _)
theorem right_word {A : List Int} {i k : Nat} {x y : Int} (hk : k < 32) (hx : A[i]? = some x) (hy : A[i + 1]? = some y ∨ (A.length ≤ i + 1 ∧ y = 0)) : (x + 4294967296 * y) / 2 ^ k % 4294967296 = val (A.drop i) / 2 ^ k % 4294967296 := by
 have hd : ∀ (j : Nat) (z : Int), A[j]? = some z → A.drop j = z :: A.drop (j + 1) := fun j z hz => by
  have hi := List.getElem?_eq_some_iff.1 hz;rw [List.drop_eq_getElem_cons hi.1, hi.2]
 obtain ⟨R, hR⟩ : ∃ R, val (A.drop (i + 1)) = y + 4294967296 * R := by
  rcases hy with hy | ⟨h1, h2⟩
  ·exact ⟨val (A.drop (i + 1 + 1)), by rw [hd _ _ hy]; simp only [val]⟩
  ·exact ⟨0, by rw [List.drop_eq_nil_of_le h1, h2]; simp [val]⟩
 rw [hd i x hx, val, hR];have h2 : (0 : Int) < 2 ^ k := Int.pow_pos (by omega)
 have hs : (4294967296 : Int) = 2 ^ k * 2 ^ (32 - k) := by rw [← Int.pow_add, show k + (32 - k) = 32 by omega]; rfl
 have e : x + 4294967296 * (y + 4294967296 * R) = x + 4294967296 * y + 2 ^ k * (2 ^ (32 - k) * R * 4294967296) := by
  have : (4294967296 : Int) * (4294967296 * R) = 2 ^ k * (2 ^ (32 - k) * R * 4294967296) := by
   conv => lhs; arg 1; rw [hs]
   grind
  rw [← this]; grind
 rw [e, Int.add_mul_ediv_left _ _ (by omega), Int.add_mul_emod_self_right]
theorem or_high {x y : Int} (h0 : 0 ≤ x) (h1 : x < 4294967296) (h2 : 0 ≤ y) (h3 : y < 4294967296) : bitN .or x (y * 2 ^ (32 : Int).toNat % 18446744073709551616) = x + 4294967296 * y := by
 have := or_shift (m := x) (u := y) (i := 1) h0 (by rw [BB_succ, BB_zero]; omega) h2 h3 (by omega);rw [BB_succ, BB_zero] at this;exact this
theorem right_next {A os : List Int} {i k : Nat} {x y : Int} (hk : k < 32) (wA : WOk A) (hl : os.length = i) (h : val os = val A / 2 ^ k % BB i) (hi : i < A.length) (hx : A[i]? = some x) (hy : A[i + 1]? = some y ∨ (A.length ≤ i + 1 ∧ y = 0)) :
  val (os ++ [(x + 4294967296 * y) / 2 ^ k % 4294967296]) = val A / 2 ^ k % BB (i + 1) :=
 right_step hk wA rfl hl h hi (right_word hk hx hy)
set_option maxHeartbeats 400000 in
theorem right_ok (x : Int) (k : Nat) (hx : 0 ≤ x) (hxl : (toW x).length ≤ 100000) (hk : k < 32) : PureFn Tryz.prog 177 [aW (toW x), aN k] (.tup [aW (toW (x / 2 ^ k)), .any]) := by
 refine PureFn.of_body Tryz.func177 rfl Tryz.ntmps177 rfl rfl ?_;have wx := toW_ok x;have hsx := val_toW hx;have h2 : (0 : Int) < 2 ^ k := Int.pow_pos (by omega)
 have hp : (2 : Int) ^ k ≤ 2147483648 := by
  have : (2 : Int) ^ k ≤ 2 ^ 31 := pow_le_r (by omega) (by omega);rw [show (2 : Int) ^ 31 = 2147483648 from rfl] at this; exact this
 refine AWP.seqS ?_;(repeat' (first |refine qv ?_ |apply qn |apply qr));refine ⟨AWP.seqS ?_⟩;(repeat' (first |refine qv ?_ |apply qn |apply qs |apply qr |refine Fl.w rfl rfl rfl ⟨by omega, by omega, by dsimp only [hiK]; omega⟩ ?_ |(refine AWP.condD rfl ?_ ?_ <;> intro _ <;> try (exfalso; omega)) |apply qk |apply qt))
 ·rename_i h0;have hx0 : x = 0 := (toW_nil_iff hx).1 (List.eq_nil_of_length_eq_zero (by omega));refine RetOk.of rfl (AV.Le.tup (LeL.cons ?_ (LeL.cons (AV.Le.any _) LeL.nil)));rw [hx0, Int.zero_ediv, toW_zero];exact AV.Le.nil 1 eW
 rename_i hne
 generalize toW x = A at *
 subst hsx;refine ⟨AWP.seqS ?_⟩;(repeat' (first |refine qv ?_ |apply qr |refine qw ?_ |refine Fl.w rfl rfl rfl ⟨by omega, by omega, by dsimp only [hiK]; omega⟩ ?_|fail));refine qc (rightC_ok (A.take ((k : Int) / 32).toNat) (by rw [show ((k : Int) / 32).toNat = 0 by omega]; rfl)) ?_;(repeat' (first |refine qv ?_ |apply qn));refine ⟨AWP.seqS ?_⟩;(repeat' (first |refine qv ?_ |apply qn |apply qr |refine qw ?_|fail));refine ⟨AWP.seqJ (G := Unit) (fun _ => True) (fun _ => St.of [] [(0, aW A), (6, aB false), (7, .v (.int .u64 k))] []) ?_ ?_⟩
 ·(repeat' (first |refine qv ?_ |apply qn |apply qr |refine qw ?_ |refine Fl.w rfl rfl rfl ⟨by omega, by omega, by dsimp only [hiK]; omega⟩ ?_|fail));refine JoinOk.of () trivial ?_;refine Ent.of [] ?_ ?_ rfl rfl;(repeat' (first |exact True.intro |refine ⟨⟨AV.Le.refl _, rfl⟩, ?_⟩ |refine ⟨⟨AV.Le.int ?_, rfl⟩, ?_⟩ |refine ⟨⟨AV.Le.sl ?_, rfl⟩, ?_⟩|fail))
  ·rw [show ((k : Int) / 32).toNat = 0 by omega]; rfl
  ·omega
 intro _ _;refine AWP.seqJ (G := Unit) (fun _ => True) (fun _ => St.of [] [(0, aW A), (6, .any), (7, .v (.int .u64 k))] []) ?_ ?_
 ·(repeat' (first |refine qv ?_ |apply qn |apply qr |refine qw ?_ |(refine Fl.elW rfl rfl rfl rfl rfl rfl rfl rfl (by omega) (by omega) (by assumption) ?_; intro _ _ _ _)|fail));refine JoinOk.of () trivial ?_;refine Ent.of [] ?_ ?_ rfl rfl;(repeat' (first |exact True.intro |refine ⟨⟨AV.Le.refl _, rfl⟩, ?_⟩ |refine ⟨⟨AV.Le.any _, rfl⟩, ?_⟩|fail))
 intro _ _;refine AWP.seqS ?_;(repeat' (first |refine qv ?_ |apply qn |apply qr |refine Fl.make rfl rfl rfl rfl rfl rfl rfl rfl rfl rfl eW 0 (by exact LeL.refl _) (by rfl) (by first | omega | (dsimp only; omega)) (by first | omega | (dsimp only; omega)) (by first | omega | (dsimp only; omega)) ?_|fail));refine ⟨?_⟩;refine AWP.seqJ (G := List Int) (fun os => os.length = A.length ∧ WOk os ∧ val os = val A / 2 ^ k) (fun os => St.of [] [(6, .any), (8, .row 45)] [(45, .row 1 eW os 62)]) ?_ ?_
 ·(repeat' (first |refine qv ?_ |apply qn |apply qs |apply qr |apply qb));refine AWP.loop (G := Nat × List Int) (fun (i, os) => i ≤ A.length ∧ os.length = i ∧ WOk os ∧ val os = val A / 2 ^ k % BB i)
   (fun (i, os) => St.of [] [(0, aW A), (6, .any), (7, .v (.int .u64 k)), (8, .row 45), (46, aW A), (47, aN A.length), (48, aN i)] [(45, .row 1 eW (os ++ List.replicate (A.length - i) 0) 62)])
   (fun (i, os) => A.length - i) (0, []) ⟨by omega, rfl, WOk.nil, by simp [val, BB_zero]⟩ ?_ ?_
  ·refine Ent.of [] ?_ ?_ rfl rfl;(repeat' (first |exact True.intro |refine ⟨⟨AV.Le.refl _, rfl⟩, ?_⟩ |refine ⟨⟨⟨_, rfl, BLe.row rfl⟩, rfl⟩, ?_⟩|fail))
  ·intro ⟨i, os⟩ ⟨h0, h1, h3, h4⟩;refine AWP.seq ?_;(repeat' (first |refine qv ?_ |apply qn |apply qs |apply qr |refine qw ?_ |(refine AWP.condD rfl ?_ ?_ <;> intro _ <;> try (exfalso; omega)) |apply qb |apply qk |apply qx |(refine Fl.elW rfl rfl rfl rfl rfl rfl rfl rfl (by omega) (by omega) (by assumption) ?_; intro _ _ _ _) |refine Fl.rel rfl rfl rfl rfl rfl rfl rfl rfl (by omega) (by first | omega | (simp; omega)) ?_ |refine Fl.rst rfl rfl rfl rfl rfl rfl rfl rfl rfl rfl rfl (LeL.refl _) rfl (by first | omega | (simp; omega)) ?_|fail))
   ·rename_i hi x hx hx0 hx1 hi2 y hy hy0 hy1;rw [Int.toNat_natCast] at hx;rw [show ((i : Int) + 1).toNat = i + 1 by omega] at hy;have hst := right_next hk wx h1 h4 (by omega) hx (.inl hy);refine LoopEnd.of (i + 1, os ++ [(x + 4294967296 * y) / 2 ^ k % 4294967296]) ⟨by omega, by simp; omega, h3.append (WOk.cons (by omega) (by omega) WOk.nil), hst⟩ (by simp only; omega) ?_;refine Ent.of [] ?_ ?_ rfl rfl;(repeat' (first |exact True.intro |refine ⟨⟨AV.Le.refl _, rfl⟩, ?_⟩ |refine ⟨⟨⟨_, rfl, BLe.row ?_⟩, rfl⟩, ?_⟩|fail));refine set_rep (by omega) (by omega) ?_;rw [show ((k : Int)).toNat = k from Int.toNat_natCast k, or_high hx0 hx1 hy0 hy1]
   ·rename_i hi x hx hx0 hx1 hi2;rw [Int.toNat_natCast] at hx;have hst := right_next (y := 0) hk wx h1 h4 (by omega) hx (.inr ⟨by omega, rfl⟩);refine LoopEnd.of (i + 1, os ++ [(x + 4294967296 * 0) / 2 ^ k % 4294967296]) ⟨by omega, by simp; omega, h3.append (WOk.cons (by omega) (by omega) WOk.nil), hst⟩ (by simp only; omega) ?_;refine Ent.of [] ?_ ?_ rfl rfl;(repeat' (first |exact True.intro |refine ⟨⟨AV.Le.refl _, rfl⟩, ?_⟩ |refine ⟨⟨⟨_, rfl, BLe.row ?_⟩, rfl⟩, ?_⟩|fail));refine set_rep (by omega) (by omega) ?_;rw [show ((k : Int)).toNat = k from Int.toNat_natCast k, show x + 4294967296 * 0 = x by omega]
   ·have hi : i = A.length := by omega
    refine JoinOk.of os ⟨by omega, h3, ?_⟩ ?_
    ·rw [h4, hi];refine Int.emod_eq_of_lt (Int.ediv_nonneg hx (by omega)) ?_;have := val_lt wx;exact Int.lt_of_le_of_lt (Int.ediv_le_self _ hx) this
    ·refine Ent.of [] ?_ ?_ rfl rfl;(repeat' (first |exact True.intro |refine ⟨⟨AV.Le.refl _, rfl⟩, ?_⟩ |refine ⟨⟨⟨_, rfl, BLe.row ?_⟩, rfl⟩, ?_⟩|fail));rw [hi, Nat.sub_self];simp
 ·intro os ⟨h0, h1, h3⟩;(repeat' (first |refine qv ?_ |apply qs |apply qr));refine Fl.callF rfl 45 rfl (trim_ok os h1 (by omega)) rfl rfl rfl (LeL.refl _) ?_;(repeat' (first |refine qv ?_ |apply qn |apply qt));refine RetOk.of rfl ?_;rw [h3];exact AV.Le.refl _
end Go.Proofs.YtcaecieigoplbaaGreat
namespace Go.AL
section
variable {P : Program} {tab : Tab} {n : Nat} {s : St}
variable {ops : Array Oper} {draw : Dr} {o : Oper} {l : List Oper} {acc : List Eff} {K : Exit → St → Prop}
end
theorem cmpI_cases (x y : Int) : cmpI x y = 1 ∧ y < x ∨ cmpI x y = 0 ∧ x = y ∨ cmpI x y = -1 ∧ x < y := by
 unfold cmpI;split
 ·exact .inr (.inr ⟨rfl, by omega⟩)
 ·split
  ·exact .inl ⟨rfl, by omega⟩
  ·exact .inr (.inl ⟨rfl, by omega⟩)
theorem cmpI_swap (x y : Int) : cmpI x y = - cmpI y x := by
 have h1 := cmpI_cases x y;have h2 := cmpI_cases y x;omega
theorem cmpL_range : ∀ (a b : List Int), cmpL a b = 1 ∨ cmpL a b = 0 ∨ cmpL a b = -1
 | [], [] => .inr (.inl rfl)
 | [], _ :: _ => .inr (.inr rfl)
 | _ :: _, [] => .inl rfl
 | x :: a, y :: b => by
  simp only [cmpL];split
  ·exact cmpL_range a b
  ·rcases cmpI_cases x y with h | h | h <;> omega
end Go.AL
namespace Go.Proofs.YtcaecieigoplbaaGreat
open Go.AL

end Go.Proofs.YtcaecieigoplbaaGreat
namespace Go.AL
end Go.AL
namespace Go.Proofs.YtcaecieigoplbaaGreat
open Go.AL

end Go.Proofs.YtcaecieigoplbaaGreat
namespace Go.AL
end Go.AL
namespace Go.Proofs.YtcaecieigoplbaaGreat
open Go.AL

end Go.Proofs.YtcaecieigoplbaaGreat
namespace Go.AL
end Go.AL
namespace Go.Proofs.YtcaecieigoplbaaGreat
open Go.AL

end Go.Proofs.YtcaecieigoplbaaGreat
namespace Go.Proofs.YtcaecieigoplbaaGreat
open Go.Shelf
def sortL_ren : Go.Shelf.Ren := ⟨fun | 6 => 234 | 15 => 238 | 14 => 237 | 28 => 210 | 29 => 248 | 20 => 240 | 21 => 241 | 22 => 242 | 23 => 243 | 24 => 244 | 25 => 245 | 26 => 246 | 27 => 247 | 46 => 250 | 47 => 251 | 48 => 252 | 49 => 253 | 50 => 254 | 57 => 255 | n => n, fun | 22 => 68 | 24 => 124 | 25 => 208 | 3 => 3 | 39 => 98 | 0 => 0 | 53 => 62 | 55 => 96 | 4 => 4 | 46 => 225 | 45 => 224 | 50 => 43 | 5 => 5 | 9 => 9 | 66 => 231 | 70 => 235 | 76 => 237 | 77 => 238 | n => n, fun | n => n⟩
theorem sortL : Go.Proofs.SlLaysF0.n6 Tryz.prog sortL_ren := {
 mixed := by kernel_rfl
 f6 := ⟨Tryz.f234.name, by decide, Tryz.func234.trans (congrArg some (by kernel_rfl))⟩
 f14 := ⟨Tryz.f237.name, by decide, Tryz.func237.trans (congrArg some (by kernel_rfl))⟩
 f15 := Tryz.func238.trans (congrArg some (by kernel_rfl))
 f20 := ⟨Tryz.f240.name, by decide, Tryz.func240.trans (congrArg some (by kernel_rfl))⟩
 f21 := ⟨Tryz.f241.name, by decide, Tryz.func241.trans (congrArg some (by kernel_rfl))⟩
 f22 := ⟨Tryz.f242.name, by decide, Tryz.func242.trans (congrArg some (by kernel_rfl))⟩
 f23 := ⟨Tryz.f243.name, by decide, Tryz.func243.trans (congrArg some (by kernel_rfl))⟩
 f24 := ⟨Tryz.f244.name, by decide, Tryz.func244.trans (congrArg some (by kernel_rfl))⟩
 f25 := ⟨Tryz.f245.name, by decide, Tryz.func245.trans (congrArg some (by kernel_rfl))⟩
 f26 := ⟨Tryz.f246.name, by decide, Tryz.func246.trans (congrArg some (by kernel_rfl))⟩
 f27 := ⟨Tryz.f247.name, by decide, Tryz.func247.trans (congrArg some (by kernel_rfl))⟩
 f28 := Tryz.func210.trans (congrArg some (by kernel_rfl))
 f29 := Tryz.func248.trans (congrArg some (by kernel_rfl))
 f46 := ⟨Tryz.f250.name, by decide, Tryz.func250.trans (congrArg some (by kernel_rfl))⟩
 f47 := Tryz.func251.trans (congrArg some (by kernel_rfl))
 f48 := Tryz.func252.trans (congrArg some (by kernel_rfl))
 f49 := ⟨Tryz.f253.name, by decide, Tryz.func253.trans (congrArg some (by kernel_rfl))⟩
 f50 := ⟨Tryz.f254.name, by decide, Tryz.func254.trans (congrArg some (by kernel_rfl))⟩
 f57 := ⟨Tryz.f255.name, by decide, Tryz.func255.trans (congrArg some (by kernel_rfl))⟩
 t0 := Tryz.underlying0
 a0 := Tryz.isAgg0
 z0 := Tryz.sizeOf0
 v0 := Tryz.zeroValue0
 t3 := Tryz.underlying3
 a3 := Tryz.isAgg3
 z3 := Tryz.sizeOf3
 v3 := Tryz.zeroValue3
 t4 := Tryz.underlying4
 a4 := Tryz.isAgg4
 z4 := Tryz.sizeOf4
 v4 := Tryz.zeroValue4
 t5 := Tryz.underlying5
 a5 := Tryz.isAgg5
 z5 := Tryz.sizeOf5
 v5 := Tryz.zeroValue5
 t9 := Tryz.underlying9
 a9 := Tryz.isAgg9
 z9 := Tryz.sizeOf9
 v9 := Tryz.zeroValue9
 t22 := Tryz.underlying68
 a22 := Tryz.isAgg68
 z22 := Tryz.sizeOf68
 v22 := Tryz.zeroValue68
 t25 := Tryz.underlying208
 a25 := Tryz.isAgg208
 z25 := Tryz.sizeOf208
 v25 := Tryz.zeroValue208
 t39 := Tryz.underlying98
 a39 := Tryz.isAgg98
 z39 := Tryz.sizeOf98
 v39 := Tryz.zeroValue98
 t45 := Tryz.underlying224
 a45 := Tryz.isAgg224
 z45 := Tryz.sizeOf224
 v45 := Tryz.zeroValue224
 t46 := Tryz.underlying225
 a46 := Tryz.isAgg225
 z46 := Tryz.sizeOf225
 v46 := Tryz.zeroValue225
 t50 := Tryz.underlying43
 a50 := Tryz.isAgg43
 z50 := Tryz.sizeOf43
 v50 := Tryz.zeroValue43
 t53 := Tryz.underlying62
 a53 := Tryz.isAgg62
 z53 := Tryz.sizeOf62
 v53 := Tryz.zeroValue62
 t55 := Tryz.underlying96
 a55 := Tryz.isAgg96
 z55 := Tryz.sizeOf96
 v55 := Tryz.zeroValue96
 t66 := Tryz.underlying231
 a66 := Tryz.isAgg231
 z66 := Tryz.sizeOf231
 v66 := Tryz.zeroValue231
 t70 := Tryz.underlying235
 a70 := Tryz.isAgg235
 z70 := Tryz.sizeOf235
 v70 := Tryz.zeroValue235
 t76 := Tryz.underlying237
 a76 := Tryz.isAgg237
 z76 := Tryz.sizeOf237
 v76 := Tryz.zeroValue237
 t77 := Tryz.underlying238
 a77 := Tryz.isAgg238
 z77 := Tryz.sizeOf238
 v77 := Tryz.zeroValue238 }
end Go.Proofs.YtcaecieigoplbaaGreat
namespace Go.AL
theorem repL_set {h : Hp} {β β' : Bt} (hb : β.le β') : ∀ (cs : List AV) (us : List Value) (j : Nat) (v : AV) (u : Value), RepL h β cs us → us[j]? = some u → Rep h β' v u → RepL h β' (cs.set j v) us
 | [], us, j, v, u, hr, hj, hv => by simp only [RepL] at hr; subst hr; simp at hj
 | c :: cs, us, 0, v, u, hr, hj, hv => by
  simp only [RepL] at hr;obtain ⟨u0, r, rfl, h1, h2⟩ := hr;simp at hj; subst hj;exact RepL.cons hv (h2.mono (Hp.le.refl h) hb)
 | c :: cs, us, j + 1, v, u, hr, hj, hv => by
  simp only [RepL] at hr;obtain ⟨u0, r, rfl, h1, h2⟩ := hr;exact RepL.cons (h1.mono (Hp.le.refl h) hb) (repL_set hb cs r j v u h2 (by simpa using hj) hv)
theorem Ent.nilcell {n : Nat} {I : List Id} {s : St} (id : Id) (j : Nat) (b : Id) {cs : List AV} {t : TypeId} (hb : s.bx id = some (.cells cs t)) (hj : cs[j]? = some (.v (.slice none 0 0))) (hal : s.al b = false) {α : Type} (sz : Nat) (enc : α → List AV) (t' : TypeId) :
  Ent n I s ((Eff.mk .any [(id, .cells (cs.set j (.row b)) t)] [] [] []).app none ((Eff.mk .any [(b, .row sz enc ([] : List α) t')] [] [b] []).app none s)) := by
 intro C a w h β hi k
 have hB : BoxAt w h (β.set b (.slice none 0 0)) b (.row sz enc ([] : List α) t') :=
  ⟨_, [], Bt.set_same _ _ _, World.ownsRow_nil w 0 t' sz, RepL.nil, (fun x hx => by cases hx), (fun g hg => by simp [Value.ownBlock] at hg)⟩
 have k1 := k.addbox hal (bv := .slice none 0 0) hB (fun g hg => by simp [blk] at hg) none (fun t ht => by cases ht) (v := .any) (u := undef) (by simp only [Rep]) []
 have hne : id ≠ b := fun e => by
  subst e;obtain ⟨g, us, e, _⟩ := k.box id _ hb;rw [k.dom id hal] at e; cases e
 have hb1 : ((Eff.mk AV.any [(b, .row sz enc ([] : List α) t')] [] [b] []).app none s).bx id = some (.cells cs t) := by
  simp [Eff.app, updB, delB, beq_ne hne, hb]
 obtain ⟨g, us, e, hh, hr, hn⟩ := k1.box id _ hb1;obtain ⟨u, hu1, hu2⟩ := hr.get j _ hj
 have hu2 : u = .slice none 0 0 := by simpa only [Rep] using hu2
 subst hu2;exact ⟨h, _, k1.setbox (B' := .cells (cs.set j (.row b)) t) hb1 rfl rfl ⟨rfl, Nat.le_refl _⟩ rfl (fun _ _ => rfl) ⟨g, us, e, hh, repL_set (Bt.le.refl _) _ _ j _ _ hr hu1 (by simp only [Rep]; exact ⟨Bt.set_same _ _ _, _, _, _, rfl⟩), hn⟩ ⟨g, by simp [e, blk]⟩ none (fun t ht => by cases ht) (v := .any) (u := undef) (by simp only [Rep]) []⟩
end Go.AL
namespace Go.Proofs.YtcaecieigoplbaaGreat
open Go.AL

theorem cloneI_ok (l : List Int) (hl : l.length ≤ 100000) : PureFn Tryz.prog 233 [aI l] (aI l) := by
 refine PureFn.of_body Tryz.func233 rfl Tryz.ntmps233 rfl rfl ?_;refine AWP.seqS ?_;(repeat' (first |refine qv ?_ |apply qn |apply qr));refine ⟨AWP.seq (AWP.seq (AWP.nilTest rfl rfl rfl rfl rfl rfl rfl rfl rfl rfl ?_))⟩;intro b hb
 cases b with
 | true =>
  (repeat' (first |refine qv ?_ |apply qn |apply qs |apply qr |refine AWP.condT rfl ?_ |apply qt));rw [hb rfl];exact RetOk.of rfl (AV.Le.nil 1 eI)
 | false =>
  (repeat' (first |apply qs |apply qr |refine AWP.condF rfl ?_ |apply qk));refine Fl.litrow rfl rfl rfl rfl rfl rfl rfl eI [] rfl rfl rfl rfl (by simp) (LeL.refl _) ?_;(repeat' (first |refine qv ?_|fail));refine qa (hby := (by dsimp only [List.length_nil]; omega)) (hm := (by simp; omega)) (r := ?_);(repeat' (first |refine qv ?_ |apply qn |apply qt));refine RetOk.ent (Ent.freeze 7 rfl) ?_;exact RetOk.of rfl (AV.Le.refl _)
end Go.Proofs.YtcaecieigoplbaaGreat
/- Maps: the rules of their operations. -/
namespace Go.AL
open Go.ChangeMaps (setBlock)
section
variable {κ α : Type} {h : Hp} {ek : κ → Value} {av : α → AV}
theorem MapRep.len : ∀ {xs : List (κ × α × Nat)} {es : List MapEntry}, MapRep h ek av xs es → es.length = xs.length
 | [], es, k => by simp only [MapRep] at k; simp [k]
 | _ :: _, es, ⟨e, r, h1, _, _, _, h5⟩ => by rw [h1]; simp [h5.len]
theorem MapRep.stamps : ∀ {xs : List (κ × α × Nat)} {es : List MapEntry}, MapRep h ek av xs es → es.map (·.born) = xs.map (·.2.2)
 | [], es, k => by simp only [MapRep] at k; simp [k]
 | _ :: _, es, ⟨e, r, h1, _, _, h4, h5⟩ => by rw [h1]; simp [h4, h5.stamps]
theorem MapRep.mem : ∀ {xs : List (κ × α × Nat)} {es : List MapEntry}, MapRep h ek av xs es → ∀ e ∈ es, ∃ p ∈ xs, e.key = ek p.1 ∧ Rep h noB (av p.2.1) e.val ∧ e.born = p.2.2
 | [], es, k, e, he => by simp only [MapRep] at k; subst k; cases he
 | p :: xs, es, ⟨e, r, h1, h2, h3, h4, h5⟩, e', he => by
  subst h1;rcases List.mem_cons.1 he with rfl | he
  ·exact ⟨p, by simp, h2, h3, h4⟩
  ·obtain ⟨q, hq, h⟩ := h5.mem e' he;exact ⟨q, by simp [hq], h⟩
theorem MapRep.mem' : ∀ {xs : List (κ × α × Nat)} {es : List MapEntry}, MapRep h ek av xs es → ∀ p ∈ xs, ∃ e ∈ es, e.key = ek p.1 ∧ Rep h noB (av p.2.1) e.val ∧ e.born = p.2.2
 | [], es, k, e, he => by cases he
 | p :: xs, es, ⟨e, r, h1, h2, h3, h4, h5⟩, p', he => by
  subst h1;rcases List.mem_cons.1 he with rfl | he
  ·exact ⟨e, by simp, h2, h3, h4⟩
  ·obtain ⟨q, hq, h⟩ := h5.mem' p' he;exact ⟨q, by simp [hq], h⟩
theorem MapRep.push {k : κ} {x : α} {c : Nat} {v : Value} (hv : Rep h noB (av x) v) : ∀ {xs : List (κ × α × Nat)} {es : List MapEntry}, MapRep h ek av xs es → MapRep h ek av (xs ++ [(k, x, c)]) (es ++ [⟨ek k, v, c⟩])
 | [], es, m => by simp only [MapRep] at m; subst m; exact ⟨_, [], rfl, rfl, hv, rfl, rfl⟩
 | p :: xs, es, ⟨e, r, h1, h2, h3, h4, h5⟩ => by subst h1; exact ⟨e, _, rfl, h2, h3, h4, h5.push hv⟩
theorem MapRep.set {k : κ} {x : α} {v : Value} (hv : Rep h noB (av x) v) : ∀ {xs : List (κ × α × Nat)} {es : List MapEntry} (j : Nat) (p : κ × α × Nat), MapRep h ek av xs es → xs[j]? = some p → MapRep h ek av (xs.set j (k, x, p.2.2)) (es.modify j fun e => { e with key := ek k, val := v })
 | [], es, j, p, m, hp => by simp at hp
 | q :: xs, es, 0, p, ⟨e, r, h1, h2, h3, h4, h5⟩, hp => by
  subst h1; simp at hp; subst hp;exact ⟨_, r, rfl, rfl, hv, h4, h5⟩
 | q :: xs, es, j + 1, p, ⟨e, r, h1, h2, h3, h4, h5⟩, hp => by
  subst h1;exact ⟨e, _, rfl, h2, h3, h4, MapRep.set hv j p h5 (by simpa using hp)⟩
theorem MapRep.erase : ∀ {xs : List (κ × α × Nat)} {es : List MapEntry} (j : Nat), MapRep h ek av xs es → MapRep h ek av (xs.eraseIdx j) (es.eraseIdx j)
 | [], es, j, m => by simp only [MapRep] at m; subst m; simp [MapRep]
 | q :: xs, es, 0, ⟨e, r, h1, h2, h3, h4, h5⟩ => by subst h1; exact h5
 | q :: xs, es, j + 1, ⟨e, r, h1, h2, h3, h4, h5⟩ => by subst h1; exact ⟨e, _, rfl, h2, h3, h4, MapRep.erase j h5⟩
variable [DecidableEq κ]
def findM (k : κ) : List (κ × α × Nat) → Nat → Option (Nat × (κ × α × Nat))
  | [], _ => none
  | p :: xs, i => if k = p.1 then some (i, p) else findM k xs (i + 1)
def putM (k : κ) (x : α) (c : Nat) (xs : List (κ × α × Nat)) : List (κ × α × Nat) := match findM k xs 0 with | some (j, p) => xs.set j (k, x, p.2.2) | none => xs ++ [(k, x, c)]
def putC (k : κ) (c : Nat) (xs : List (κ × α × Nat)) : Nat := match findM k xs 0 with | some _ => c | none => c + 1
def delM (k : κ) (xs : List (κ × α × Nat)) : List (κ × α × Nat) := match findM k xs 0 with | some (j, _) => xs.eraseIdx j | none => xs
theorem findM_get {k : κ} : ∀ {xs : List (κ × α × Nat)} {i j : Nat} {p : κ × α × Nat}, findM k xs i = some (j, p) → i ≤ j ∧ xs[j - i]? = some p ∧ p.1 = k
 | [], i, j, p, hf => by simp [findM] at hf
 | q :: xs, i, j, p, hf => by
  unfold findM at hf;split at hf
  ·rename_i hk;injection hf with hf; injection hf with h1 h2; subst h1 h2;exact ⟨Nat.le_refl _, by simp, hk.symm⟩
  ·obtain ⟨h1, h2, h3⟩ := findM_get hf;refine ⟨by omega, ?_, h3⟩;rw [show j - i = (j - (i + 1)) + 1 by omega];simpa using h2
def FindRes (h : Hp) (av : α → AV) : Option (Nat × (κ × α × Nat)) → Option (Nat × Value) → Prop
  | none, r => r = none
  | some (j, p), r => ∃ u, r = some (j, u) ∧ Rep h noB (av p.2.1) u
end
theorem findM_put {κ α : Type} [DecidableEq κ] (k : κ) (x : α) (c : Nat) (xs : List (κ × α × Nat)) : ∃ j p, findM k (putM k x c xs) 0 = some (j, p) ∧ p.2.1 = x := by
 have app : ∀ (xs : List (κ × α × Nat)) (i : Nat), findM k xs i = none → findM k (xs ++ [(k, x, c)]) i = some (i + xs.length, (k, x, c)) := by
  intro xs
  induction xs with
  | nil => intro i _; simp [findM]
  | cons q xs ih =>
   intro i h;unfold findM at h;split at h
   ·cases h
   ·rename_i hk;rw [List.cons_append];unfold findM;rw [if_neg hk, ih (i + 1) h];simp only [List.length_cons];congr 2; omega
 have st : ∀ (xs : List (κ × α × Nat)) (i j : Nat) (p : κ × α × Nat) (c' : Nat), findM k xs i = some (j, p) → findM k (xs.set (j - i) (k, x, c')) i = some (j, (k, x, c')) := by
  intro xs
  induction xs with
  | nil => intro i j p c' h; simp [findM] at h
  | cons q xs ih =>
   intro i j p c' h;have h0 := findM_get h;unfold findM at h;split at h
   ·injection h with h; injection h with h1 h2; subst h1;rw [Nat.sub_self];simp [findM]
   ·rename_i hk;have h1 := findM_get h;rw [show j - i = (j - (i + 1)) + 1 by omega, List.set_cons_succ];unfold findM;rw [if_neg hk];exact ih (i + 1) j p c' h
 unfold putM
 cases hf : findM k xs 0 with
 | none => exact ⟨_, _, app xs 0 hf, rfl⟩
 | some q => obtain ⟨j, p⟩ := q; exact ⟨_, _, by have := st xs 0 j p p.2.2 hf; rwa [Nat.sub_zero] at this, rfl⟩
structure KeyLaw (P : Program) (kt : TypeId) {κ : Type} [DecidableEq κ] (ek : κ → Value) (kc : κ → AV) : Prop where
  rep : ∀ (h : Hp) (β : Bt) (k : κ) (u : Value), Rep h β (kc k) u → u = ek k
  back : ∀ (h : Hp) (β : Bt) (k : κ), Rep h β (kc k) (ek k)
  check : ∀ (e : Bool) (k : κ) (w : World), (Instr.checkKey e 10000 kt (ek k)).run P w = .ok () w
  find : ∀ (h : Hp) {α : Type} (av : α → AV) (k : κ) (xs : List (κ × α × Nat)) (es : List MapEntry) (w : World), MapRep h ek av xs es → ∃ r, (Instr.findKey kt (ek k) es).run P w = .ok r w ∧ FindRes h av (findM k xs 0) r
  bits : ∀ k : κ, Instr.sameBits 10000 (ek k) (ek k) = true
theorem findAsking_run {P : Program} {kt : TypeId} {κ : Type} [DecidableEq κ] {ek : κ → Value} (heq : ∀ (a b : κ) (w : World), (Op.equal kt (ek a) (ek b)).run P w = .ok (decide (a = b)) w) (h : Hp) {α : Type} (av : α → AV) (k : κ) (w : World) :
  ∀ (xs : List (κ × α × Nat)) (es : List MapEntry) (i : Nat), MapRep h ek av xs es → ∃ r, (Instr.findAsking kt (ek k) es i).run P w = .ok r w ∧ FindRes h av (findM k xs i) r
 | [], es, i, m => by simp only [MapRep] at m; subst m; exact ⟨none, by simp [Instr.findAsking], rfl⟩
 | p :: xs, es, i, ⟨e, r, h1, h2, h3, h4, h5⟩ => by
  subst h1;simp only [Instr.findAsking, Sem.run_bind, h2, heq k p.1 w, Result.andThen, findM];by_cases hk : k = p.1
  ·simp only [hk, decide_true, if_true];exact ⟨_, rfl, e.val, rfl, h3⟩
  ·simp only [hk, decide_false, Bool.false_eq_true, if_false];exact findAsking_run heq h av k w xs r (i + 1) h5
theorem setBlock_size (w : World) (b : Nat) (o : Obj) : (setBlock w b o).heap.size = w.heap.size := by simp [setBlock]
theorem setBlock_other (w : World) (b i : Nat) (o : Obj) (hi : i ≠ b) : (setBlock w b o).heap[i]? = w.heap[i]? := by
 simp [setBlock, Array.getElem?_setIfInBounds, Ne.symm hi]
theorem setBlock_same (w : World) (b : Nat) (o o' : Obj) (hb : w.heap[b]? = some o') : (setBlock w b o).heap[b]? = some o := by
 have := (Array.getElem?_eq_some_iff.1 hb).1;simp [setBlock, Array.getElem?_setIfInBounds, this]
section
variable {P : Program} {tab : Tab} {n : Nat} {s : St}
variable {ops : Array Oper} {draw : Dr} {o : Oper} {l : List Oper} {acc : List Eff} {K : Exit → St → Prop}
theorem opd_tmp {s s' : St} {z : Operand} (hs : ∀ t, z = .tmp t → s'.env t = s.env t) : opd s' z = opd s z := by
 cases z with
 | tmp t => exact hs t rfl
 | _ => rfl
theorem getMap_run {w : World} {g : Nat} {es : Array MapEntry} {c : Nat} (hh : w.heap[g]? = some (.map es c)) : (getObj g).run P w = .ok (.map es c) w := by simp [getObj, Sem.run, hh]
theorem setMap_run {w : World} {g : Nat} {es : Array MapEntry} {c : Nat} (hh : w.heap[g]? = some (.map es c)) (o : Obj) : (setObj g o).run P w = .ok () (setBlock w g o) := by simp [setObj, Sem.run, hh, setBlock]
theorem Fl.mkmap {t : TypeId} (hop : o.op = .makeMap t none) (hg : gOk ops s o = true) {d : Tmp} (hdst : o.dst = some d) (hd : Nat.blt d n = true) {κ α : Type} (ek : κ → Value) (av : α → AV) (hn : s.al d = false)
  (r : Fl P n ops draw l ((Eff.mk (.mp d) [(d, .map ek av ([] : List (κ × α × Nat)) 0)] [] [d] []).app o.dst s) (Eff.mk (.mp d) [(d, .map ek av ([] : List (κ × α × Nat)) 0)] [] [d] [] :: acc) K)
  (hJ : presOk draw.J (Eff.mk (.mp d) [(d, .map ek av ([] : List (κ × α × Nat)) 0)] [] [d] []) := by repeat' (first | exact True.intro | exact rfl | refine ⟨?_, ?_⟩ | fail)) : Fl P n ops draw (o :: l) s acc K := by
 refine Fl.op hg ⟨fun t ht => (by rw [hdst] at ht; injection ht with ht; subst ht; exact ltOf hd), fun C s' a w h β Q K hs hb hal k hK => ?_⟩ (newOk1 hn) hJ r
 have hrun : (execOp a.eval o).run P w = .ok (.value (.map (some w.heap.size))) (w.alloc (.map #[] 0)) := by
  simp only [execOp, hop, Instr.makeMap, Sem.run_bind, Result.andThen];rfl
 unfold Oper.wp;rw [hrun];simp only [Oper.upon];refine hK _ _ h (β.set d (.map (some w.heap.size))) ?_;have k1 := k.step (evo_alloc k.evo.has (.map #[] 0));rw [hdst];refine k1.addbox (hal d (by simp)) ?_ ?_ (some d) (fun t ht => by injection ht with ht; subst ht; exact ltOf hd) ?_ []
 ·exact ⟨w.heap.size, #[], Bt.set_same _ _ _, heap_alloc_new w _, rfl, has_none k.evo.has (Nat.le_refl _)⟩
 ·intro g hg;simp [blk] at hg;subst hg;refine ⟨fun id' B' hb' e => ?_, .inr k.evo.size⟩;have := (k.blk_lt hb' e).1;omega
 ·simp only [Rep]; exact ⟨_, Bt.set_same _ _ _, rfl⟩
theorem Fl.lookup [f : Facts P tab] {t kt e : TypeId} {x y : Operand} (hop : o.op = .lookup t x y false) {m : Id} (hx : opd s x = .mp m) {sz' by' : Nat} {z' : List Value} (hts : tab t = some ⟨.map kt e, sz', by', z'⟩) {i : TI} (hti : tab e = some i) (hag : Nat.blt 1 i.size = true)
  {κ α : Type} [DecidableEq κ] {ek : κ → Value} {av : α → AV} {xs : List (κ × α × Nat)} {clock : Nat} (hb : s.bx m = some (.map ek av xs clock)) {kc : κ → AV} (law : KeyLaw P kt ek kc) (k0 : κ) (hy : (opd s y).Le (kc k0)) (hyc : (opd s y).closed = true)
  {v : AV} (hv : match findM k0 xs 0 with | some (_, p) => (av p.2.1).Le v | none => (AV.agg (vL i.zero)).Le v) (hvc : ∀ a, (av a).closed = true) (hg : gOk ops s o = true) (hd : dOk n o.dst = true)
  (r : Fl P n ops draw l ((Eff.mk v [] [] [] [m]).app o.dst s) (Eff.mk v [] [] [] [m] :: acc) K) : Fl P n ops draw (o :: l) s acc K := by
 refine Fl.opv hg (OpJ.of_run (tb := [m]) (dOk_lt hd) fun C s' a w h β ho hbs k => ?_) r;have hxr := opd_rep k x;have hyr := opd_rep k y;rw [ho x (by rw [hop]; simp [Op.operands]), hx] at hxr;rw [ho y (by rw [hop]; simp [Op.operands])] at hyr;simp only [Rep] at hxr;obtain ⟨g, e1, e2⟩ := hxr;obtain ⟨g', es, e3, hh, hm, _⟩ := k.box m _ ((hbs m (by simp)).trans hb);rw [e1] at e3; injection e3 with e3; injection e3 with e3; injection e3 with e3; subst e3;have hyk := law.rep _ _ _ _ (hy _ _ _ hyr);obtain ⟨res, hf, hfr⟩ := law.find h av k0 xs es.toList w hm;obtain ⟨inf, zv, h1, h2, h3, h4, h5⟩ := (f.tabOk e i hti).info;have hu := (f.tabOk _ _ hts).und;simp only at hu
 have hz : (zeroValue e).run P w = .ok zv w := by simp [zeroValue, typeInfo, h1, h4]
 have hzv : ∃ us, zv = .agg us ∧ us.toList = i.zero := by
  cases zv with
  | agg us => exact ⟨us, rfl, h5⟩
  | _ =>
   have hs := (f.tabOk e i hti).zs;have := ltOf hag;simp [Value.cells] at h5;rw [← h5] at hs; simp at hs; omega
 have hgo : (getObj g).run P w = .ok (.map es clock) w := getMap_run hh
 cases hfm : findM k0 xs 0 with
 | none =>
  rw [hfm] at hv hfr;have hfr : res = none := hfr;subst hfr;obtain ⟨us, rfl, hus⟩ := hzv;refine ⟨.agg us, ?_, hv _ _ _ (by simp only [Rep]; exact ⟨us, rfl, by rw [← hus]; exact vL_rep _⟩)⟩;simp only [execOp, hop, e2, hyk, Instr.lookup, Sem.run_bind, run_underlying hu, Result.andThen, hgo, Sem.run_pure, law.check, hf, hz, Bool.false_eq_true, if_false]
 | some q =>
  obtain ⟨j, p⟩ := q;rw [hfm] at hv hfr;obtain ⟨u, rfl, hur⟩ := hfr;have hv : (av p.2.1).Le v := hv;refine ⟨u, ?_, hv _ _ _ (hur.closed _ _ (hvc _))⟩;simp only [execOp, hop, e2, hyk, Instr.lookup, Sem.run_bind, run_underlying hu, Result.andThen, hgo, Sem.run_pure, law.check, hf, Bool.false_eq_true, if_false]
theorem Fl.mupd [f : Facts P tab] {t kt e : TypeId} {x y z : Operand} (hop : o.op = .mapUpdate t x y z) {m : Id} (hx : opd s x = .mp m) {sz' by' : Nat} {z' : List Value} (hts : tab t = some ⟨.map kt e, sz', by', z'⟩)
  {κ α : Type} [DecidableEq κ] {ek : κ → Value} {av : α → AV} {xs : List (κ × α × Nat)} {clock : Nat} (hb : s.bx m = some (.map ek av xs clock)) {kc : κ → AV} (law : KeyLaw P kt ek kc) (k0 : κ) (hy : (opd s y).Le (kc k0)) (hyc : (opd s y).closed = true) (x0 : α) (hz : (opd s z).Le (av x0)) (hzc : (opd s z).closed = true) (hg : gOk ops s o = true) (hdst : o.dst = none)
  (r : Fl P n ops draw l ((Eff.mk .any [(m, .map ek av (putM k0 x0 clock xs) (putC k0 clock xs))] [] [] [m]).app o.dst s) (Eff.mk .any [(m, .map ek av (putM k0 x0 clock xs) (putC k0 clock xs))] [] [] [m] :: acc) K)
  (hJ : presOk draw.J (Eff.mk .any [(m, .map ek av (putM k0 x0 clock xs) (putC k0 clock xs))] [] [] [m]) := by repeat' (first | exact True.intro | exact rfl | refine ⟨?_, ?_⟩ | fail)) : Fl P n ops draw (o :: l) s acc K := by
 refine Fl.op hg ⟨fun t ht => (by rw [hdst] at ht; cases ht), fun C s' a w h β Q K hs hbs hal k hK => ?_⟩ rfl hJ r;have same : ∀ q : Operand, q ∈ o.op.operands → opd s' q = opd s q := fun q hq => opd_tmp fun t ht => hs t (by rw [← ht]; exact hq);have hxr := opd_rep k x;have hyr := opd_rep k y;have hzr := opd_rep k z;rw [same x (by rw [hop]; simp [Op.operands]), hx] at hxr;rw [same y (by rw [hop]; simp [Op.operands])] at hyr;rw [same z (by rw [hop]; simp [Op.operands])] at hzr;simp only [Rep] at hxr;obtain ⟨g, e1, e2⟩ := hxr;have hb' : s'.bx m = some (.map ek av xs clock) := (hbs m (by simp [Eff.ts])).trans hb;obtain ⟨g', es, e3, hh, hm, hnone⟩ := k.box m _ hb';rw [e1] at e3; injection e3 with e3; injection e3 with e3; injection e3 with e3; subst e3;have hyk := law.rep _ _ _ _ (hy _ _ _ hyr);have hzk : Rep h noB (av x0) (a.eval z) := hz _ _ _ (hzr.closed _ _ hzc);obtain ⟨res, hf, hfr⟩ := law.find h av k0 xs es.toList w hm;have hu := (f.tabOk _ _ hts).und;simp only at hu;have hgo : (getObj g).run P w = .ok (.map es clock) w := getMap_run hh
 have key : ∃ es', (execOp a.eval o).run P w = .ok .skip (setBlock w g (.map es' (putC k0 clock xs))) ∧ MapRep h ek av (putM k0 x0 clock xs) es'.toList := by
  unfold putM putC
  cases hfm : findM k0 xs 0 with
  | none =>
   rw [hfm] at hfr;have hfr : res = none := hfr;subst hfr;refine ⟨es.push ⟨ek k0, a.eval z, clock⟩, ?_, by rw [Array.toList_push]; exact hm.push hzk⟩;simp only [execOp, hop, e2, hyk, Instr.mapUpdate, Sem.run_bind, run_underlying hu, Result.andThen, hgo, law.check, hf, setMap_run hh, Sem.run_pure]
  | some q =>
   obtain ⟨j, p⟩ := q;rw [hfm] at hfr;obtain ⟨u, rfl, hur⟩ := hfr;obtain ⟨_, hget, hpk⟩ := findM_get hfm;rw [Nat.sub_zero] at hget
   have hold : ((es[j]?).map (·.key)).getD (ek k0) = ek k0 := by
    have hjl : j < es.toList.length := by rw [hm.len]; exact (List.getElem?_eq_some_iff.1 hget).1
    have hall : ∀ (xs : List (κ × α × Nat)) (es : List MapEntry) (j : Nat) (p : κ × α × Nat) (e : MapEntry), MapRep h ek av xs es → xs[j]? = some p → es[j]? = some e → e.key = ek p.1 := by
     intro xs
     induction xs with
     | nil => intro es j p e _ hp; simp at hp
     | cons q xs ih =>
      intro es j p e hm hp he;obtain ⟨e0, r0, q1, q2, _, _, q5⟩ := hm;subst q1
      cases j with
      | zero => simp at hp he; subst hp he; exact q2
      | succ j => exact ih r0 j p e q5 (by simpa using hp) (by simpa using he)
    have := hall xs es.toList j p es.toList[j] hm hget (List.getElem?_eq_getElem hjl);rw [← Array.getElem?_toList, List.getElem?_eq_getElem hjl, Option.map_some, Option.getD_some, this, hpk]
   refine ⟨es.modify j fun e => { e with key := ek k0, val := a.eval z }, ?_, by rw [Array.toList_modify]; exact hm.set hzk j p hget⟩;simp only [execOp, hop, e2, hyk, Instr.mapUpdate, Sem.run_bind, run_underlying hu, Result.andThen, hgo, law.check, hf, hold, Instr.keyThatStays, law.bits, if_true, setMap_run hh, Sem.run_pure]
 obtain ⟨es', hrun, hm'⟩ := key;unfold Oper.wp;rw [hrun];simp only [Oper.upon];refine hK _ _ h β ?_;refine k.setbox (B' := .map ek av (putM k0 x0 clock xs) (putC k0 clock xs)) (w' := setBlock w g (.map es' (putC k0 clock xs))) hb' rfl rfl ⟨rfl, Nat.le_refl _⟩ (setBlock_size _ _ _) (fun j hj => setBlock_other w g j _ (fun e => hj (by simp [e1, blk, e]))) ⟨g, es', e1, setBlock_same w g _ _ hh, hm', hnone⟩ ⟨g, by simp [e1, blk]⟩ o.dst (fun t ht => by rw [hdst] at ht; cases ht) (v := .any) (u := undef) (by simp only [Rep]) [m]
theorem Fl.mdel [f : Facts P tab] {t kt e : TypeId} {ty2 : TypeId} {x y : Operand} (hop : o.op = .call { callee := .builtin .delete, args := ⟨[x, y]⟩, argTypes := ⟨[t, ty2]⟩ }) {m : Id} (hx : opd s x = .mp m) {sz' by' : Nat} {z' : List Value} (hts : tab t = some ⟨.map kt e, sz', by', z'⟩)
  {κ α : Type} [DecidableEq κ] {ek : κ → Value} {av : α → AV} {xs : List (κ × α × Nat)} {clock : Nat} (hb : s.bx m = some (.map ek av xs clock)) {kc : κ → AV} (law : KeyLaw P kt ek kc) (k0 : κ) (hy : (opd s y).Le (kc k0)) (hyc : (opd s y).closed = true) (hg : gOk ops s o = true) (hdst : o.dst = none)
  (r : Fl P n ops draw l ((Eff.mk .any [(m, .map ek av (delM k0 xs) clock)] [] [] [m]).app o.dst s) (Eff.mk .any [(m, .map ek av (delM k0 xs) clock)] [] [] [m] :: acc) K)
  (hJ : presOk draw.J (Eff.mk .any [(m, .map ek av (delM k0 xs) clock)] [] [] [m]) := by repeat' (first | exact True.intro | exact rfl | refine ⟨?_, ?_⟩ | fail)) : Fl P n ops draw (o :: l) s acc K := by
 refine Fl.op hg ⟨fun t ht => (by rw [hdst] at ht; cases ht), fun C s' a w h β Q K hs hbs hal k hK => ?_⟩ rfl hJ r;have same : ∀ q : Operand, q ∈ o.op.operands → opd s' q = opd s q := fun q hq => opd_tmp fun t ht => hs t (by rw [← ht]; exact hq);have hxr := opd_rep k x;have hyr := opd_rep k y;rw [same x (by rw [hop]; simp [Op.operands, Call.operands]), hx] at hxr;rw [same y (by rw [hop]; simp [Op.operands, Call.operands])] at hyr;simp only [Rep] at hxr;obtain ⟨g, e1, e2⟩ := hxr;have hb' : s'.bx m = some (.map ek av xs clock) := (hbs m (by simp [Eff.ts])).trans hb;obtain ⟨g', es, e3, hh, hm, hnone⟩ := k.box m _ hb';rw [e1] at e3; injection e3 with e3; injection e3 with e3; injection e3 with e3; subst e3;have hyk := law.rep _ _ _ _ (hy _ _ _ hyr);obtain ⟨res, hf, hfr⟩ := law.find h av k0 xs es.toList w hm;have hu := (f.tabOk _ _ hts).und;simp only at hu;have hgo : (getObj g).run P w = .ok (.map es clock) w := getMap_run hh
 have key : ∃ es', (execOp a.eval o).run P w = .ok (.value (.tuple #[])) (setBlock w g (.map es' clock)) ∧ MapRep h ek av (delM k0 xs) es'.toList := by
  unfold delM
  cases hfm : findM k0 xs 0 with
  | none =>
   rw [hfm] at hfr;have hfr : res = none := hfr;subst hfr;refine ⟨es, ?_, hm⟩;simp [execOp, hop, resolve, invoke, builtin, e2, hyk, Builtin.delete_, run_underlying hu, Result.andThen, hgo, law.check, hf, setMap_run hh]
  | some q =>
   obtain ⟨j, p⟩ := q;rw [hfm] at hfr;obtain ⟨u, rfl, hur⟩ := hfr;refine ⟨es.eraseIdxIfInBounds j, ?_, by rw [Array.toList_eraseIdxIfInBounds]; exact hm.erase j⟩;simp [execOp, hop, resolve, invoke, builtin, e2, hyk, Builtin.delete_, run_underlying hu, Result.andThen, hgo, law.check, hf, setMap_run hh]
 obtain ⟨es', hrun, hm'⟩ := key;unfold Oper.wp;rw [hrun];simp only [Oper.upon];refine hK _ _ h β ?_;have := k.setbox (B' := .map ek av (delM k0 xs) clock) (w' := setBlock w g (.map es' clock)) hb' rfl rfl ⟨rfl, Nat.le_refl _⟩ (setBlock_size _ _ _) (fun j hj => setBlock_other w g j _ (fun e => hj (by simp [e1, blk, e]))) ⟨g, es', e1, setBlock_same w g _ _ hh, hm', hnone⟩ ⟨g, by simp [e1, blk]⟩ o.dst (fun t ht => by rw [hdst] at ht; cases ht) (v := .any) (u := .tuple #[]) (by simp only [Rep]) [m];exact this
theorem Fl.range [f : Facts P tab] {t kt e : TypeId} {x : Operand} (hop : o.op = .range t x) {m : Id} (hx : opd s x = .mp m) {sz' by' : Nat} {z' : List Value} (hts : tab t = some ⟨.map kt e, sz', by', z'⟩)
  {κ α : Type} {ek : κ → Value} {av : α → AV} {xs : List (κ × α × Nat)} {clock : Nat} (hb : s.bx m = some (.map ek av xs clock)) (hg : gOk ops s o = true) {d : Tmp} (hdst : o.dst = some d) (hd : Nat.blt d n = true) (hn : s.al d = false)
  (r : Fl P n ops draw l ((Eff.mk (.ptr d 0) [(d, .iter m clock [] clock)] [] [d] [m]).app o.dst s) (Eff.mk (.ptr d 0) [(d, .iter m clock [] clock)] [] [d] [m] :: acc) K)
  (hJ : presOk draw.J (Eff.mk (.ptr d 0) [(d, .iter m clock [] clock)] [] [d] [m]) := by repeat' (first | exact True.intro | exact rfl | refine ⟨?_, ?_⟩ | fail)) : Fl P n ops draw (o :: l) s acc K := by
 refine Fl.op hg ⟨fun t ht => (by rw [hdst] at ht; injection ht with ht; subst ht; exact ltOf hd), fun C s' a w h β Q K hs hbs hal k hK => ?_⟩ (newOk1 hn) hJ r;have same : ∀ q : Operand, q ∈ o.op.operands → opd s' q = opd s q := fun q hq => opd_tmp fun t ht => hs t (by rw [← ht]; exact hq);have hxr := opd_rep k x;rw [same x (by rw [hop]; simp [Op.operands]), hx] at hxr;simp only [Rep] at hxr;obtain ⟨g, e1, e2⟩ := hxr;obtain ⟨g', es, e3, hh, hm, hnone⟩ := k.box m _ ((hbs m (by simp [Eff.ts])).trans hb);rw [e1] at e3; injection e3 with e3; injection e3 with e3; injection e3 with e3; subst e3;have hu := (f.tabOk _ _ hts).und;simp only at hu;have hgo : (getObj g).run P w = .ok (.map es clock) w := getMap_run hh
 have hrun : (execOp a.eval o).run P w = .ok (.value (.pointer (some ⟨w.heap.size, 0, none⟩))) (w.alloc (.mapIter (some g) clock #[] clock)) := by
  simp only [execOp, hop, e2, Instr.range, Sem.run_bind, run_underlying hu, Result.andThen, hgo, Sem.run_pure];rfl
 unfold Oper.wp;rw [hrun];simp only [Oper.upon];refine hK _ _ h (β.set d (.pointer (some ⟨w.heap.size, 0, none⟩))) ?_;have k1 := k.step (evo_alloc k.evo.has (.mapIter (some g) clock #[] clock));have hdn := k.dom d (hal d (by simp))
 have hmd : m ≠ d := fun e => by rw [e, hdn] at e1; cases e1
 rw [hdst];refine k1.addbox (hal d (by simp)) ?_ ?_ (some d) (fun t ht => by injection ht with ht; subst ht; exact ltOf hd) ?_ [m]
 ·exact ⟨w.heap.size, g, Bt.set_same _ _ _, by rw [Bt.set_ne _ _ _ _ hmd]; exact e1, heap_alloc_new w _, has_none k.evo.has (Nat.le_refl _)⟩
 ·intro g hg;simp [blk] at hg;subst hg;refine ⟨fun id' B' hb' e => ?_, .inr k.evo.size⟩;have := (k.blk_lt hb' e).1;omega
 ·simp only [Rep]; exact ⟨_, Bt.set_same _ _ _, rfl⟩
end
end Go.AL
/- Maps: ranges over them; arrays: slices of them. -/
namespace Go.AL
open Go.ChangeMaps (setBlock)
section
variable {P : Program} {tab : Tab} {n : Nat} {s : St}
variable {ops : Array Oper} {draw : Dr} {o : Oper} {l : List Oper} {acc : List Eff} {K : Exit → St → Prop}
theorem Fl.entry {x : Operand} (hop : o.op = .entry x) {r m : Id} (hx : opd s x = .ptr r 0) {since : Nat} {seen : List Nat} {st last : Nat} (hr : s.bx r = some (.iter m since (seen ++ [st]) last))
  {κ α : Type} {ek : κ → Value} {av : α → AV} {xs : List (κ × α × Nat)} (hb : s.bx m = some (.map ek av xs last)) {kc : κ → AV} (hkc : ∀ (h : Hp) (β : Bt) (k : κ), Rep h β (kc k) (ek k)) (hvc : ∀ a, (av a).closed = true) {p : κ × α × Nat} (hp : p ∈ xs) (hst : p.2.2 = st) (hnd : (xs.map (·.2.2)).Nodup) (hg : gOk ops s o = true) (hd : dOk n o.dst = true)
  (k : Fl P n ops draw l ((Eff.mk (.tup [kc p.1, av p.2.1]) [] [] [] [r, m]).app o.dst s) (Eff.mk (.tup [kc p.1, av p.2.1]) [] [] [] [r, m] :: acc) K) : Fl P n ops draw (o :: l) s acc K := by
 refine Fl.opv hg (OpJ.of_run (tb := [r, m]) (dOk_lt hd) fun C s' a w h β ho hbs q => ?_) k;have hxr := opd_rep q x;rw [ho x (by rw [hop]; simp [Op.operands]), hx] at hxr;simp only [Rep] at hxr;obtain ⟨gr, e1, e2⟩ := hxr;obtain ⟨gr', g, e3, e4, hh, _⟩ := q.box r _ ((hbs r (by simp)).trans hr);rw [e1] at e3; injection e3 with e3; injection e3 with e3; injection e3 with e3; injection e3 with e3; subst e3;obtain ⟨g', es, e5, hh2, hm, _⟩ := q.box m _ ((hbs m (by simp)).trans hb);rw [e4] at e5; injection e5 with e5; injection e5 with e5; injection e5 with e5; subst e5
 have hseen : (seen ++ [st]).toArray = seen.toArray.push st := by simp
 obtain ⟨e, he, k1, k2, k3⟩ := hm.mem' p hp;rw [hseen, ← hst, ← k3] at hh;have hrun := run_entry_at (P := P) w gr g since seen.toArray es last e hh hh2 he (by rw [hm.stamps]; exact hnd);refine ⟨.tuple #[e.key, e.val], ?_, ?_⟩
 ·simp only [execOp, hop, e2, Sem.run_bind, hrun, Result.andThen, Sem.run_pure]
 ·simp only [Rep];exact ⟨_, rfl, ⟨_, _, rfl, by rw [k1]; exact hkc _ _ _, ⟨_, _, rfl, k2.closed _ _ (hvc _), rfl⟩⟩⟩
theorem AWP.next {I : List Id} {Q : Exit → St → Prop} {id : Nat} {o1 o2 : Oper} {d1 d2 : Tmp} {x : Operand} (h1 : o1.op = .next x false) (g1 : o1.guard = none) (e1 : o1.dst = some d1) (l1 : Nat.blt d1 n = true) (h2 : o2.op = .extract (.tmp d1) 0) (g2 : o2.guard = none) (e2 : o2.dst = some d2) (l2 : Nat.blt d2 n = true)
  {r m : Id} (hx : opd s x = .ptr r 0) {since : Nat} {seen : List Nat} (hr : s.bx r = some (.iter m since seen since)) {κ α : Type} {ek : κ → Value} {av : α → AV} {xs : List (κ × α × Nat)} (hb : s.bx m = some (.map ek av xs since)) (hold : ∀ p ∈ xs, p.2.2 < since)
  (q1 : (∀ p ∈ xs, p.2.2 ∈ seen) → Q .normal ((Eff.mk (.v (.bool false)) [] [] [] []).app (some d2) ((Eff.mk .any [] [] [] []).app (some d1) s)))
  (q2 : ∀ p ∈ xs, p.2.2 ∉ seen → Q .normal ((Eff.mk (.v (.bool true)) [] [] [] []).app (some d2) ((Eff.mk .any [(r, .iter m since (seen ++ [p.2.2]) since)] [] [] [r]).app (some d1) s))) : AWP P n I (.region id ⟨[o1, o2]⟩ false) Q s := by
 refine ⟨fun C a w hp β hi k => ?_⟩;refine wp_region ?_;have hrg : List.range (Array.size ⟨[o1, o2]⟩) = [0, 1] := rfl;rw [hrg]
 have hw1 : Region.wanted o1 (yielded ⟨[o1, o2]⟩ a.tmps) = true := by simp [Region.wanted, g1]
 simp only [wpOps, List.getElem?_toArray, List.getElem?_cons_zero, hw1, if_true];left;have hxr := opd_rep k x;rw [hx] at hxr;simp only [Rep] at hxr;obtain ⟨gr, b1, b2⟩ := hxr;obtain ⟨gr', g, b3, b4, hh, hnone⟩ := k.box r _ hr;rw [b1] at b3; injection b3 with b3; injection b3 with b3; injection b3 with b3; injection b3 with b3; subst b3;obtain ⟨g', es, b5, hh2, hm, _⟩ := k.box m _ hb;rw [b4] at b5; injection b5 with b5; injection b5 with b5; injection b5 with b5; subst b5
 have hold' : ∀ y ∈ es.toList, y.born < since := fun y hy => by
  obtain ⟨p, hp, _, _, h3⟩ := hm.mem y hy;rw [h3]; exact hold p hp
 have hd1 : d1 < a.tmps.size := by rw [k.size]; exact ltOf l1
 have ext : ∀ (tl : List Value) (b : Bool) (a1 : Act) (w1 : World), a1.tmps.getD d1 undef = .tuple (.bool b :: tl).toArray → (execOp a1.eval o2).run P w1 = .ok (.value (.bool b)) w1 := by
  intro tl b a1 w1 ht;have hev : a1.eval (.tmp d1) = .tuple (.bool b :: tl).toArray := ht;simp [execOp, h2, hev, Instr.extract, Sem.run_bind, Result.andThen, Sem.run_pure]
 have second : ∀ (tl : List Value) (b : Bool) (w1 : World) (hp1 : Hp) (β1 : Bt) (s1 : St), Base C n s1 (a.put (some d1) (.tuple (.bool b :: tl).toArray)) w1 hp1 β1 → Q .normal ((Eff.mk (.v (.bool b)) [] [] [] []).app (some d2) s1) →
   wpOps P ⟨[o1, o2]⟩ (fun e a' w' => ∃ s' h' β', Base C n s' a' w' h' β' ∧ Q e s') [1] (a.put (some d1) (.tuple (.bool b :: tl).toArray)) w1 := by
  intro tl b w1 hp1 β1 s1 k1 hq
  have hw2 : Region.wanted o2 (yielded ⟨[o1, o2]⟩ (a.put (some d1) (.tuple (.bool b :: tl).toArray)).tmps) = true := by simp [Region.wanted, g2]
  simp only [wpOps, List.getElem?_toArray, List.getElem?_cons_succ, List.getElem?_cons_zero, hw2, if_true];left;unfold Oper.wp;rw [ext tl b _ w1 (by simp [Act.put, hd1])];simp only [Oper.upon, e2, wpOps];exact ⟨_, hp1, β1, k1.val (some d2) (fun t ht => by injection ht with ht; subst ht; exact ltOf l2) (v := .v (.bool b)) (by simp only [Rep]) [], hq⟩
 rcases run_next_at (P := P) w o1.type gr g since since seen.toArray es since hh hh2 hold' (Nat.le_refl _) with ⟨hz, hrun⟩ | ⟨e, he, w1, hw1', hrun⟩
 ·unfold Oper.wp
  have hex : (execOp a.eval o1).run P w = .ok (.value (.tuple #[.bool false])) w := by simp only [execOp, h1, b2, Sem.run_bind, hrun, Result.andThen, Sem.run_pure]
  rw [hex];simp only [Oper.upon, e1];refine second [] false w hp β _ (k.val (some d1) (fun t ht => by injection ht with ht; subst ht; exact ltOf l1) (v := .any) (by simp only [Rep]) []) (q1 fun p hpx => ?_);obtain ⟨e, he, _, _, h3⟩ := hm.mem' p hpx;have hempty : leftOf es seen.toArray = #[] := Array.eq_empty_of_size_eq_zero hz;unfold leftOf at hempty;rw [Array.filter_eq_empty_iff] at hempty;have := hempty e (by simpa using he);rw [← h3]; simpa using this
 ·have he' : e ∈ es.toList ∧ e.born ∉ seen := by
   unfold leftOf at he;simpa using he
  obtain ⟨p, hp1, h3, h4, h5⟩ := hm.mem e he'.1;unfold Oper.wp
  have hex : (execOp a.eval o1).run P w = .ok (.value (.tuple #[.bool true, e.key, e.val])) (setBlock w1 gr (.mapIter (some g) since (seen.toArray.push e.born) since)) := by simp only [execOp, h1, b2, Sem.run_bind, hrun, Result.andThen, Sem.run_pure]
  rw [hex];simp only [Oper.upon, e1]
  have kd : Base C n s a w1 hp β := by
   rcases hw1' with rfl | rfl
   ·exact k
   ·exact k.drew
  have hh1 : w1.heap[gr]? = some (.mapIter (some g) since seen.toArray since) := by rcases hw1' with rfl | rfl <;> exact hh
  have k2 := kd.setbox (B' := .iter m since (seen ++ [p.2.2]) since) (w' := setBlock w1 gr (.mapIter (some g) since (seen.toArray.push e.born) since)) hr rfl rfl ⟨rfl, Nat.le_refl _⟩ (setBlock_size _ _ _) (fun j hj => setBlock_other w1 gr j _ (fun q => hj (by simp [b1, blk, q]))) ⟨gr, g, b1, b4, by rw [setBlock_same w1 gr _ _ hh1, h5]; simp, hnone⟩ ⟨gr, by simp [b1, blk]⟩ (some d1) (fun t ht => by injection ht with ht; subst ht; exact ltOf l1) (v := .any) (u := .tuple #[.bool true, e.key, e.val]) (by simp only [Rep]) [r];exact second [e.key, e.val] true _ hp β _ k2 (q2 p hp1 (by rw [← h5]; exact he'.2))
theorem AWP.arrCopy [f : Facts P tab] {I : List Id} {Q : Exit → St → Prop} {id : Nat} {o1 o2 o3 : Oper} {d1 d2 d3 : Tmp} {t e t1 t2 : TypeId} {x y : Operand} (h1 : o1.op = .slice t x none none none) (g1 : o1.guard = none) (e1 : o1.dst = some d1) (l1 : Nat.blt d1 n = true) (h2 : o2.op = .move y) (g2 : o2.guard = none) (e2 : o2.dst = some d2) (l2 : Nat.blt d2 n = true) (h3 : o3.op = .call { callee := .builtin .copy, args := ⟨[.tmp d1, .tmp d2]⟩, argTypes := ⟨[t1, t2]⟩ }) (g3 : o3.guard = none) (e3 : o3.dst = some d3) (l3 : Nat.blt d3 n = true) (hne : Nat.beq d1 d2 = false)
  {N sz' by' sz2 by2 : Nat} {z' z2 : List Value} (hts : tab t = some ⟨.array N e, sz', by', z'⟩) (hts1 : tab t1 = some ⟨.slice e, sz2, by2, z2⟩) {i : TI} (hti : tab e = some i) (hi1 : Nat.beq i.size 1 = true) {b : Id} (hx : opd s x = .ptr b 0) {cs : List AV} {bt : TypeId} (hb : s.bx b = some (.cells cs bt)) (hN : Nat.beq cs.length N = true) (hNm : Nat.ble N 1000000 = true) (hN0 : Nat.blt 0 N = true) {α : Type} {enc : α → List AV} {ys : List α} (hy : opd s y = .sl 1 enc ys) (hyd : y ≠ .tmp d1) (hone : ∀ y, allOne (enc y) = true) (hel : ∀ y, (enc y).length = 1) (hl : ys.length ≤ N) {cs' : List AV} (hcs : ys.flatMap enc ++ cs.drop ys.length = cs')
  (q : Q .normal ((Eff.mk .any [(b, .cells cs' bt)] [] [] [b]).app (some d3) ((Eff.mk (.sl 1 enc ys) [] [] [] []).app (some d2) ((Eff.mk .any [] [] [] []).app (some d1) s)))) : AWP P n I (.region id ⟨[o1, o2, o3]⟩ false) Q s := by
 subst hcs;have hi1 := Nat.eq_of_beq_eq_true hi1;have hN := Nat.eq_of_beq_eq_true hN;have hNm := Nat.le_of_ble_eq_true hNm;have hN0 := ltOf hN0
 have hd12 : d1 ≠ d2 := fun e => by rw [e, Nat.beq_refl] at hne; cases hne
 refine ⟨fun C a w hp β hi k => ?_⟩;refine wp_region ?_;have hrg : List.range (Array.size ⟨[o1, o2, o3]⟩) = [0, 1, 2] := rfl;rw [hrg];refine wpOps_cons (ops := ⟨[o1, o2, o3]⟩) (i := 0) (o := o1) rfl g1 ?_;have hxr := opd_rep k x;rw [hx] at hxr;simp only [Rep] at hxr;obtain ⟨g, b1, b2⟩ := hxr;have hu := (f.tabOk _ _ hts).und;simp only at hu;have hu1 := (f.tabOk _ _ hts1).und;simp only at hu1;have hd1 : d1 < n := ltOf l1;have hd2 : d2 < n := ltOf l2
 have hr1 : (execOp a.eval o1).run P w = .ok (.value (.slice (some ⟨g, 0, none⟩) N N)) w := by
  have hN0' : ¬ N = 0 := by omega
  simp only [execOp, h1, b2, Option.map_none, Instr.sliceAt, Instr.sureAddr, Sem.run_bind, run_underlying hu, Result.andThen, Instr.sliceBounds, Sem.run_pure, size_ok (f.tabOk _ _ hti), Nat.zero_mul, Addr.add, if_true, Nat.sub_zero, if_neg hN0']
 unfold Oper.wp;rw [hr1];simp only [Oper.upon, e1];have k1 := k.val (some d1) (fun t ht => by injection ht with ht; subst ht; exact hd1) (v := .any) (u := .slice (some ⟨g, 0, none⟩) N N) (by simp only [Rep]) [];refine wpOps_cons (ops := ⟨[o1, o2, o3]⟩) (i := 1) (o := o2) rfl g2 ?_
 have hys : opd ((Eff.mk AV.any [] [] [] []).app (some d1) s) y = .sl 1 enc ys := by
  rw [← hy];refine opd_tmp fun t ht => ?_;simp only [Eff.app];exact putE_ne _ _ _ _ (fun h => hyd (by injection h with h; rw [ht, h]))
 have hyr := opd_rep k1 y;rw [hys] at hyr
 have hr2 : (execOp (a.put (some d1) (.slice (some ⟨g, 0, none⟩) N N)).eval o2).run P w = .ok (.value ((a.put (some d1) (.slice (some ⟨g, 0, none⟩) N N)).eval y)) w := by
  simp only [execOp, h2, Sem.run_pure]
 unfold Oper.wp;rw [hr2];simp only [Oper.upon, e2];have k2 := k1.val (some d2) (fun t ht => by injection ht with ht; subst ht; exact hd2) (v := .sl 1 enc ys) hyr [];generalize hyv : (a.put (some d1) (.slice (some ⟨g, 0, none⟩) N N)).eval y = yv at hyr k2 ⊢;refine wpOps_cons (ops := ⟨[o1, o2, o3]⟩) (i := 2) (o := o3) rfl g3 ?_
 have hsz : d1 < a.tmps.size ∧ d2 < a.tmps.size := by rw [k.size]; exact ⟨hd1, hd2⟩
 have ev1 : ((a.put (some d1) (.slice (some ⟨g, 0, none⟩) N N)).put (some d2) yv).eval (.tmp d1) = .slice (some ⟨g, 0, none⟩) N N := by
  simp [Act.eval, Act.put, Array.getElem?_setIfInBounds, hsz.1, Ne.symm hd12]
 have ev2 : ((a.put (some d1) (.slice (some ⟨g, 0, none⟩) N N)).put (some d2) yv).eval (.tmp d2) = yv := by
  simp [Act.eval, Act.put, hsz.2]
 have hb2 : ((Eff.mk (.sl 1 enc ys) [] [] [] []).app (some d2) ((Eff.mk AV.any [] [] [] []).app (some d1) s)).bx b = some (.cells cs bt) := hb;obtain ⟨g', us, b3, hh, hr, hnone⟩ := k2.box b _ hb2;rw [b1] at b3; injection b3 with b3; injection b3 with b3; injection b3 with b3; injection b3 with b3; subst b3
 have hul : us.size = N := by rw [← Array.length_toList, hr.length, hN]
 have his : (P.info? e).map (·.size) = some 1 := by
  obtain ⟨inf, zv, i1, i2, _⟩ := (f.tabOk e i hti).info;rw [i1]; simp [i2, hi1]
 simp only [Rep] at hyr;obtain ⟨B, cB, rfl, hcB, hmB, hall⟩ := hyr
 have key : ∃ (r : Int) (w' : World) (us' : Array Value), (Builtin.copy_ #[t1, t2] o3.type #[.slice (some ⟨g, 0, none⟩) N N, .slice B ys.length cB]).run P w = .ok (goInt r) w' ∧ w'.os = w.os ∧ w'.tape = w.tape ∧ (w'.output = w.output ∧ w.drawn ≤ w'.drawn) ∧ w'.heap.size = w.heap.size ∧
   (∀ j, j ≠ g → w'.heap[j]? = w.heap[j]?) ∧ w'.heap[g]? = some (.cells us' bt (0, 0)) ∧ RepL hp β (ys.flatMap enc ++ cs.drop ys.length) us'.toList := by
  by_cases hy0 : ys = []
  ·subst hy0;exact ⟨0, w, us, run_copy_none w t1 t2 o3.type e _ B N N 0 cB hu1 his (by simp [Nat.min_def]), rfl, rfl, ⟨rfl, Nat.le_refl _⟩, rfl, fun _ _ => rfl, hh, by simpa using hr⟩
  ·have hyp : 0 < ys.length := List.length_pos_iff.2 hy0;obtain ⟨adB, _, eB, _⟩ := hall 0 ys[0] (by simp [hyp]);subst eB
   obtain ⟨news, n1, n2, n3⟩ := sl_cells (h := hp) (sz := 1) (enc := enc) (A := adB) ys 0 (fun i x hx => by
    obtain ⟨ad', us, e, q1, q2, q3⟩ := hall i x hx
    exact ⟨ad', us, e, q1, q2, fun j u hu => by have := q3 j u hu; rwa [Nat.zero_add]⟩)
   have hmn : Nat.min ys.length N = min ys.length N := rfl
   have hnl : news.length = Nat.min ys.length N := by rw [n2, hmn]; omega
   have hrun := run_copy_row (P := P) w t1 t2 o3.type e g 0 N N adB ys.length cB us bt news hu1 his hh hnl (fun j u hu => by
    have := (n3 j u hu).cell k.evo.has
    rwa [Nat.zero_mul, Nat.zero_add] at this) (by rw [hnl, hmn]; omega) (flat_one hone _ news n1)
   refine ⟨_, w.setRow g (us.toList.take 0 ++ news ++ us.toList.drop (0 + news.length)).toArray, _, hrun, rfl, rfl, ⟨rfl, Nat.le_refl _⟩, by simp, fun j hj => setRow_other w g j _ (fun q => hj q), setRow_heap w g us _ bt _ hh, ?_⟩;simp only [List.take_zero, List.nil_append, Nat.zero_add];rw [show news.length = ys.length by rw [hnl, hmn]; omega];exact (n1.mono (Hp.le.refl _) (noB_le β)).append (hr.drop _)
 obtain ⟨r, w', us', hrun, q1, q2, q3, q4, q5, q6, q7⟩ := key
 have hex : (execOp ((a.put (some d1) (.slice (some ⟨g, 0, none⟩) N N)).put (some d2) (.slice B ys.length cB)).eval o3).run P w = .ok (.value (goInt r)) w' := by
  simp only [execOp, h3, resolve, invoke, builtin, Sem.run_bind, Sem.run_pure, Result.andThen, List.map_toArray, List.map_cons, List.map_nil, ev1, ev2];rw [show (Builtin.copy_ { toList := [t1, t2] } o3.type { toList := [.slice (some ⟨g, 0, none⟩) N N, .slice B ys.length cB] }).run P w = .ok (goInt r) w' from hrun]
 unfold Oper.wp;rw [hex];simp only [Oper.upon, e3, wpOps];exact ⟨_, hp, β, k2.setbox (B' := .cells (ys.flatMap enc ++ cs.drop ys.length) bt) (w' := w') hb2 q1 q2 q3 q4 (fun j hj => q5 j (fun q => hj (by simp [b1, blk, q]))) ⟨g, us', b1, q6, q7, hnone⟩ ⟨g, by simp [b1, blk]⟩ (some d3) (fun t ht => by injection ht with ht; subst ht; exact ltOf l3) (v := .any) (u := goInt r) (by simp only [Rep]) [b], q⟩
theorem Ent.freezeC {I : List Id} (b : Id) (d : Tmp) {cs : List AV} {t : TypeId} (hb : s.bx b = some (.cells cs t)) (hd : s.env d = .ptr b 0) (hdn : Nat.blt d n = true) (hcl : closedL cs = true) : Ent n I s ⟨putE s.env (some d) (.cptr cs), delB [b] s.bx, s.al⟩ := by
 intro C a w h β hi k;obtain ⟨g, us, e1, hh, hr, hnone⟩ := k.box b _ hb
 have hbx : ∀ x Bx', delB [b] s.bx x = some Bx' → x ≠ b ∧ s.bx x = some Bx' := by
  intro x Bx' hx;by_cases he : x = b
  ·subst he; simp [delB] at hx
  ·simp only [delB, beq_ne he] at hx; exact ⟨he, hx⟩
 have hle : h.le (h.set g us) := fun c cs hc => by
  by_cases he : c = g
  ·subst he; rw [hnone] at hc; cases hc
  ·rw [Hp.set_ne _ _ _ _ he]; exact hc
 have hhas : Has w (h.set g us) := fun c cs hc => by
  by_cases he : c = g
  ·subst he; rw [Hp.set_same] at hc; injection hc with hc; subst hc; exact ⟨t, (0, 0), hh⟩
  ·rw [Hp.set_ne _ _ _ _ he] at hc; exact k.evo.has c cs hc
 have hfr : ∀ c, h.set g us c ≠ none → h c ≠ none ∨ c = g := fun c hc => by
  by_cases he : c = g
  ·exact .inr he
  ·rw [Hp.set_ne _ _ _ _ he] at hc; exact .inl hc
 have hcp : Rep (h.set g us) β (.cptr cs) (.pointer (some ⟨g, 0, none⟩)) := by
  simp only [Rep];refine ⟨⟨g, 0, none⟩, us.toList, rfl, RepL.closed _ _ hcl (hr.mono hle (Bt.le.refl _)), fun j u hu => ?_⟩
  have hadd : (⟨g, 0, none⟩ : Addr).add j = ⟨g, j, none⟩ := by unfold Addr.add; split <;> simp_all
  rw [hadd];exact ⟨rfl, us, Hp.set_same _ _ _, by simpa using hu⟩
 refine ⟨h.set g us, β, ⟨k.evo.os, k.evo.tape, k.evo.output, k.evo.size, k.evo.block, k.evo.le.trans hle, fun c hc => ?_, hhas⟩, k.b0, fun i => ?_, fun x Bx' hx => ?_, fun x y B1 B2 h1 h2 hne => k.apart x y B1 B2 (hbx x B1 h1).2 (hbx y B2 h2).2 hne, fun x B1 c hx hc => k.own x B1 c (hbx x B1 hx).2 hc, k.dom, k.size, k.defers⟩
 ·rcases hfr c hc with h1 | h1
  ·exact k.evo.fresh c h1
  ·subst h1;rcases k.own b _ c hb (by simp [e1, blk]) with h2 | h2
   ·exact .inr (.inr h2)
   ·exact .inr (.inl h2)
 ·by_cases hid : i = d
  ·subst hid;show Rep _ β (putE s.env (some i) (.cptr cs) i) _;rw [putE_same];have hs := k.slot i;rw [hd] at hs;simp only [Rep] at hs;obtain ⟨g', e2, e3⟩ := hs;rw [e1] at e2; injection e2 with e2; injection e2 with e2; injection e2 with e2; injection e2 with e2; subst e2;rw [e3]; exact hcp
  ·show Rep _ β (putE s.env (some d) (.cptr cs) i) _;rw [putE_ne _ _ _ _ (fun e => hid (by injection e with e; exact e.symm))];exact (k.slot i).mono hle (Bt.le.refl β)
 ·obtain ⟨hne, h1⟩ := hbx x Bx' hx;refine (k.box x Bx' h1).keep hle (Bt.le.refl β) fun c hc => ⟨rfl, ?_⟩
  cases hq : h.set g us c with
  | none => rfl
  | some cs' =>
   rcases hfr c (by simp [hq]) with h2 | h2
   ·exact absurd (k.blk_lt h1 hc).2 h2
   ·exact absurd (show blk (β b) = some c by simp [e1, blk, h2]) (k.apart x b Bx' _ h1 hb hne c hc)
theorem Fl.cutArr [f : Facts P tab] {t : TypeId} {x z : Operand} (hop : o.op = .slice t x none (some z) none) {N : Nat} {e : TypeId} {sz' by' : Nat} {z' : List Value} (hts : tab t = some ⟨.array N e, sz', by', z'⟩) {i : TI} (hti : tab e = some i) (hi1 : Nat.beq i.size 1 = true) {cs : List AV} (hx : opd s x = .cptr cs) (hN : Nat.beq cs.length N = true) (hNm : Nat.ble N 1000000 = true) (hN0 : Nat.blt 0 N = true) {k' : IntKind} {m : Int} (hz : opd s z = .v (.int k' m)) (h0 : 0 ≤ m) (h2 : m ≤ N) {α : Type} {enc : α → List AV} {ys : List α} (hys : cs.take m.toNat = ys.flatMap enc) (hyl : (ys.length : Int) = m) (hel : ∀ y, (enc y).length = 1) (hg : gOk ops s o = true) (hd : dOk n o.dst = true)
  (r : Fl P n ops draw l ((Eff.mk (.sl 1 enc ys) [] [] [] []).app o.dst s) (Eff.mk (.sl 1 enc ys) [] [] [] [] :: acc) K) : Fl P n ops draw (o :: l) s acc K := by
 have hi1 := Nat.eq_of_beq_eq_true hi1;have hN := Nat.eq_of_beq_eq_true hN;have hNm := Nat.le_of_ble_eq_true hNm;have hN0 := ltOf hN0;refine Fl.opv hg (OpJ.of_run (tb := []) (dOk_lt hd) fun C s' a w h β ho _ k => ?_) r;have hxr := opd_rep k x;have hzr := opd_rep k z;rw [ho x (by simp [hop, Op.operands]), hx] at hxr;rw [ho z (by simp [hop, Op.operands]), hz] at hzr;simp only [Rep] at hxr hzr;obtain ⟨ad, us, e1, hr, hall⟩ := hxr;have hu := (f.tabOk _ _ hts).und;simp only at hu
 have hul : us.length = N := by rw [hr.length, hN]
 have hsp : ad.spot = none := by
  obtain ⟨u, hu0⟩ : ∃ u, us[0]? = some u := ⟨_, List.getElem?_eq_getElem (by omega)⟩;have h1 := (hall 0 u hu0).1;simpa [Addr.add] using h1
 have b1 := run_sliceBound (P := P) w k' m N .sliceAlen (by omega) (by omega);refine ⟨.slice (some ad) m.toNat N, ?_, ?_⟩
 ·have hN0' : ¬ N = 0 := by omega
  have hsa : (Instr.sureAddr (.pointer (some ad))).run P w = .ok ad w := by simp [Instr.sureAddr]
  simp only [execOp, hop, e1, hzr, Option.map_some, Option.map_none, Instr.sliceAt, Sem.run_bind, run_underlying hu, Result.andThen, hsa, Instr.sliceBounds, Bool.false_eq_true, if_false, Sem.run_pure, b1, Option.isSome_none, size_ok (f.tabOk _ _ hti), Nat.zero_mul, Nat.sub_zero, if_neg hN0', Addr.add, if_true]
 ·simp only [Rep];refine ⟨some ad, N, by rw [← hyl]; simp, by omega, by simp only [maxLen]; omega, fun j y hj => ?_⟩;have hjl := (List.getElem?_eq_some_iff.1 hj).1
  have hcj : ∀ (ys : List α) (cs : List AV) (us : List Value) (j : Nat) (y : α), RepL h noB cs us → cs = ys.flatMap enc → ys[j]? = some y → ∃ c u, enc y = [c] ∧ us[j]? = some u ∧ Rep h noB c u := by
   intro ys
   induction ys with
   | nil => intro cs us j y _ _ hy; simp at hy
   | cons y0 ys ih =>
    intro cs us j y hr hc hy;have h1 := hel y0
    obtain ⟨c, hcc⟩ : ∃ c, enc y0 = [c] := by
     cases hq : enc y0 with
     | nil => rw [hq] at h1; simp at h1
     | cons c r => rw [hq] at h1; simp at h1; exact ⟨c, by rw [h1]⟩
    rw [hc, List.flatMap_cons, hcc, List.singleton_append] at hr;simp only [RepL] at hr;obtain ⟨u, r, rfl, r1, r2⟩ := hr
    cases j with
    | zero => simp at hy; subst hy; exact ⟨c, u, hcc, rfl, r1⟩
    | succ j =>
     obtain ⟨c', u', e1, e2, e3⟩ := ih _ r j y r2 rfl (by simpa using hy);exact ⟨c', u', e1, by simpa using e2, e3⟩
  obtain ⟨c, u, q1, q2, q3⟩ := hcj ys _ _ j y (hr.take m.toNat) hys hj
  have hq2 : us[j]? = some u := by
   rw [List.getElem?_take] at q2;split at q2
   ·exact q2
   ·cases q2
  refine ⟨ad, [u], rfl, rfl, by rw [q1]; exact RepL.cons q3 RepL.nil, fun j' u' hu' => ?_⟩
  cases j' with
  | zero =>
   simp at hu'; subst hu';rw [Nat.mul_one, Nat.add_zero];exact hall j u hq2
  | succ j' => simp at hu'
end
end Go.AL
/- Terms put in order by Go's own sort. -/
namespace Go.AL
theorem cmpL_refl : ∀ a : List Int, cmpL a a = 0
 | [] => rfl
 | x :: a => by simp only [cmpL]; rw [if_pos (cmpI_zero.2 rfl)]; exact cmpL_refl a
theorem cmpL_sw : ∀ a b : List Int, cmpL a b = - cmpL b a
 | [], [] => rfl
 | [], _ :: _ => rfl
 | _ :: _, [] => rfl
 | x :: a, y :: b => by
  simp only [cmpL];have hs := cmpI_swap x y;by_cases hz : cmpI x y = 0
  ·rw [if_pos hz, if_pos (by omega)]; exact cmpL_sw a b
  ·rw [if_neg hz, if_neg (by omega)]; exact hs
theorem cmpL_eq : ∀ {a b : List Int}, cmpL a b = 0 → a = b
 | [], [], _ => rfl
 | [], _ :: _, k => by simp [cmpL] at k
 | _ :: _, [], k => by simp [cmpL] at k
 | x :: a, y :: b, k => by
  simp only [cmpL] at k;split at k
  ·rename_i hz; rw [cmpI_zero.1 hz, cmpL_eq k]
  ·rename_i hz; exact absurd k hz
theorem cmpL_trans : ∀ {a b c : List Int}, cmpL a b = 1 → cmpL b c = 1 → cmpL a c = 1
 | [], [], _, k, _ => by simp [cmpL] at k
 | [], _ :: _, _, k, _ => by simp [cmpL] at k
 | _ :: _, [], [], _, _ => rfl
 | _ :: _, [], _ :: _, _, k => by simp [cmpL] at k
 | _ :: _, _ :: _, [], _, _ => rfl
 | x :: a, y :: b, z :: c, k1, k2 => by
  simp only [cmpL] at k1 k2 ⊢;have c1 := cmpI_cases x y;have c2 := cmpI_cases y z;have c3 := cmpI_cases x z;by_cases e1 : cmpI x y = 0
  ·rw [if_pos e1] at k1;by_cases e2 : cmpI y z = 0
   ·rw [if_pos e2] at k2;rw [if_pos (by omega)];exact cmpL_trans k1 k2
   ·rw [if_neg e2] at k2;rw [if_neg (by omega)]; omega
  ·rw [if_neg e1] at k1;by_cases e2 : cmpI y z = 0
   ·rw [if_neg (by omega)]; omega
   ·rw [if_neg e2] at k2;rw [if_neg (by omega)]; omega
theorem ordI_lt {a b : List Int} : ordI a b < 0 ↔ sumL b < sumL a ∨ (sumL a = sumL b ∧ cmpL a b = 1) := by
 unfold ordI;have hs := cmpL_sw a b;have hr := cmpL_range a b;by_cases hz : sumL b - sumL a = 0
 ·rw [if_pos hz]; omega
 ·rw [if_neg hz]; omega
theorem ordI_eq {a b : List Int} (k : ordI a b = 0) : a = b := by
 unfold ordI at k;by_cases hz : sumL b - sumL a = 0
 ·rw [if_pos hz] at k; exact (cmpL_eq k).symm
 ·rw [if_neg hz] at k; omega
theorem ordI_refl (a : List Int) : ordI a a = 0 := by unfold ordI; rw [if_pos (by omega)]; exact cmpL_refl a
theorem ordI_trans {a b c : List Int} (k1 : ordI a b < 0) (k2 : ordI b c < 0) : ordI a c < 0 := by
 rw [ordI_lt] at k1 k2 ⊢;rcases k1 with k1 | ⟨k1, k1'⟩ <;> rcases k2 with k2 | ⟨k2, k2'⟩
 ·left; omega
 ·left; omega
 ·left; omega
 ·right; exact ⟨by omega, cmpL_trans k1' k2'⟩
theorem ordI_total (a b : List Int) : ordI a b < 0 ∨ a = b ∨ ordI b a < 0 := by
 rw [ordI_lt, ordI_lt];have hs := cmpL_sw a b;rcases cmpL_range a b with k | k | k
 ·by_cases e : sumL a = sumL b
  ·exact .inl (.inr ⟨e, k⟩)
  ·omega
 ·exact .inr (.inl (cmpL_eq k))
 ·by_cases e : sumL a = sumL b
  ·exact .inr (.inr (.inr ⟨e.symm, by omega⟩))
  ·omega
def leT (a b : TZ) : Bool := decide (ordI a.e b.e ≤ 0)
def sortT (xs : List TZ) : List TZ := xs.mergeSort leT
theorem sortT_perm (xs : List TZ) : (sortT xs).Perm xs := List.mergeSort_perm _ _
theorem leT_iff {a b : TZ} : leT a b = true ↔ ordI a.e b.e < 0 ∨ a.e = b.e := by
 simp only [leT, decide_eq_true_eq];constructor
 ·intro h;rcases ordI_total a.e b.e with k | k | k
  ·exact .inl k
  ·exact .inr k
  ·by_cases h0 : ordI a.e b.e = 0
   ·exact .inr (ordI_eq h0)
   ·omega
 ·rintro (h | h)
  ·omega
  ·rw [h, ordI_refl]; omega
theorem leT_trans (a b c : TZ) (h1 : leT a b = true) (h2 : leT b c = true) : leT a c = true := by
 rw [leT_iff] at h1 h2 ⊢;rcases h1 with h1 | h1 <;> rcases h2 with h2 | h2
 ·exact .inl (ordI_trans h1 h2)
 ·exact .inl (by rw [← h2]; exact h1)
 ·exact .inl (by rw [h1]; exact h2)
 ·exact .inr (h1.trans h2)
theorem leT_total (a b : TZ) : (leT a b || leT b a) = true := by
 rw [Bool.or_eq_true, leT_iff, leT_iff];rcases ordI_total a.e b.e with k | k | k
 ·exact .inl (.inl k)
 ·exact .inl (.inr k)
 ·exact .inr (.inl k)
theorem sortT_sorted (xs : List TZ) : (sortT xs).Pairwise fun a b => leT a b = true := List.pairwise_mergeSort leT_trans leT_total xs
theorem sortT_unique {xs ys : List TZ} (hnd : xs.Pairwise fun a b => a.e ≠ b.e) (hp : ys.Perm xs) (hs : ys.Pairwise fun a b => leT a b = true) : ys = sortT xs := by
 refine List.Perm.eq_of_pairwise (le := fun a b => leT a b = true) (fun a b ha hb h1 h2 => ?_) hs (sortT_sorted xs) (hp.trans (sortT_perm xs).symm)
 have he : a.e = b.e := by
  rw [leT_iff] at h1 h2;rcases h1 with h1 | h1
  ·rcases h2 with h2 | h2
   ·have := ordI_trans h1 h2; rw [ordI_refl] at this; omega
   ·exact h2.symm
  ·exact h1
 have ha' : a ∈ xs := hp.mem_iff.1 ha;have hb' : b ∈ xs := (sortT_perm xs).mem_iff.1 hb
 have key : ∀ l : List TZ, l.Pairwise (fun a b => a.e ≠ b.e) → a ∈ l → b ∈ l → a = b := by
  intro l
  induction l with
  | nil => intro _ h; cases h
  | cons x l ih =>
   intro hl h1 h2;rw [List.pairwise_cons] at hl;rcases List.mem_cons.1 h1 with e1 | h1
   ·rcases List.mem_cons.1 h2 with e2 | h2
    ·rw [e1, e2]
    ·exact absurd (by rw [← e1]; exact he) (hl.1 b h2)
   ·rcases List.mem_cons.1 h2 with e2 | h2
    ·exact absurd (by rw [← e2]; exact he.symm) (hl.1 a h1)
    ·exact ih hl.2 h1 h2
 exact key xs hnd ha' hb'
structure AT (h : Hp) (n : Nat) : Type where
  t : TZ
  v : List Value
  rep : RepL h noB (eT t) v
  ok : EOk t.e
  len : t.e.length = n
theorem at_list {h : Hp} {n : Nat} : ∀ (xs : List TZ) (vals : List Value), RepL h noB (xs.flatMap eT) vals → (∀ t ∈ xs, EOk t.e ∧ t.e.length = n) → ∃ l : List (AT h n), l.map (·.t) = xs ∧ l.flatMap (·.v) = vals
 | [], vals, hr, _ => by simp only [List.flatMap_nil, RepL] at hr; subst hr; exact ⟨[], rfl, rfl⟩
 | t :: xs, vals, hr, hx => by
  rw [List.flatMap_cons] at hr;obtain ⟨h1, h2⟩ := hr.split;obtain ⟨l, e1, e2⟩ := at_list xs _ h2 fun q hq => hx q (by simp [hq]);refine ⟨⟨t, vals.take (eT t).length, h1, (hx t (by simp)).1, (hx t (by simp)).2⟩ :: l, by simp [e1], ?_⟩;rw [List.flatMap_cons, e2];exact List.take_append_drop _ _
theorem at_rep {h : Hp} {n : Nat} : ∀ l : List (AT h n), RepL h noB ((l.map (·.t)).flatMap eT) (l.flatMap (·.v))
 | [] => RepL.nil
 | x :: l => by simp only [List.map_cons, List.flatMap_cons]; exact x.rep.append (at_rep l)
theorem flatK_list {α : Type} [Inhabited α] (enc : α → List Value) (k : Nat) (hk : ∀ x, (enc x).length = k) : ∀ l : List α, (Go.Sort.flatK enc k l.toArray).toList = l.flatMap enc := by
  intro l;apply List.ext_getElem?;intro t
  have hlen : ∀ l : List α, (l.flatMap enc).length = l.length * k := by
    intro l
    induction l with
    | nil => simp
    | cons x l ih => simp [List.flatMap_cons, hk, ih, Nat.succ_mul, Nat.add_comm]
  have hget : ∀ (l : List α) (t : Nat), t < l.length * k → (l.flatMap enc)[t]? = some (enc l[t / k]!)[t % k]! := by
    intro l
    induction l with
    | nil => intro t ht; simp at ht
    | cons x l ih =>
      intro t ht;rw [List.flatMap_cons];by_cases h1 : t < k
      · rw [List.getElem?_append_left (by rw [hk]; exact h1), Nat.div_eq_of_lt h1, Nat.mod_eq_of_lt h1];simp [hk, h1]
      · have hk0 : 0 < k := by rcases Nat.eq_zero_or_pos k with h | h
                               · subst h; simp at ht
                               · exact h
        rw [List.getElem?_append_right (by rw [hk]; omega), hk]
        have ht2 : t < l.length * k + k := by rw [← Nat.succ_mul]; exact ht
        have h2 := ih (t - k) (by omega);rw [h2]
        have e1 : t / k = (t - k) / k + 1 := by rw [← Nat.add_div_right _ hk0]; congr 1; omega
        have e2 : t % k = (t - k) % k := by
          have := Nat.add_mod_right (t - k) k;rwa [show t - k + k = t by omega] at this
        rw [e1, e2];simp
  by_cases ht : t < l.length * k
  · rw [hget l t ht, Array.getElem?_toList, Array.getElem?_eq_getElem (by simpa using ht)];have := Go.Sort.get_flatK enc k l.toArray t (by simpa using ht);rw [getElem!_pos _ t (by simpa using ht)] at this;rw [this];simp
  · rw [List.getElem?_eq_none (by simp; omega), List.getElem?_eq_none (by rw [hlen]; omega)]
theorem evo_grow {W w' : World} {h h' : Hp} (e : Evo never W h w' h') : ∃ q os, w' = Go.Sort.grow (W.drewN q) os := by
 refine ⟨w'.drawn - W.drawn, w'.heap.extract W.heap.size w'.heap.size, ?_⟩;have h1 := e.output.2
 have hheap : w'.heap = W.heap ++ w'.heap.extract W.heap.size w'.heap.size := by
  apply Array.ext_getElem?;intro i;by_cases hi : i < W.heap.size
  ·rw [e.block i hi (fun x => x), Array.getElem?_append_left hi]
  ·rw [Array.getElem?_append_right (by omega)];by_cases hi2 : i < w'.heap.size
   ·rw [Array.getElem?_eq_getElem hi2, Array.getElem?_eq_getElem (by simp; omega)];congr 1;simp [show W.heap.size + (i - W.heap.size) = i by omega]
   ·rw [Array.getElem?_eq_none (by omega), Array.getElem?_eq_none (by simp; omega)]
 have h0 : w' = ⟨w'.heap, w'.tape, w'.drawn, w'.os, w'.output⟩ := rfl;rw [h0];simp only [Go.Sort.grow, World.drewN];rw [← hheap, e.os, e.tape, e.output.1, show W.drawn + (w'.drawn - W.drawn) = w'.drawn by omega]
end Go.AL
namespace Go.Proofs.YtcaecieigoplbaaGreat
open Go.AL

set_option maxHeartbeats 4000000 in
set_option maxRecDepth 100000 in
theorem sort_calls {w : World} {h : Hp} (hw : Has w h) (n : Nat) (hn : n ≤ 100000) (xs : List TZ) (hx : ∀ t ∈ xs, EOk t.e ∧ t.e.length = n) (hnd : xs.Pairwise fun a b => a.e ≠ b.e) (hne : xs ≠ []) (g cap : Nat) (cur : Array Value) (T : TypeId) (hg : w.heap[g]? = some (.cells cur T (0, 0))) (hgn : h g = none) (vals : List Value) (hv : RepL h noB (xs.flatMap eT) vals) (hc : cur.toList.take (xs.length * 3) = vals) (hle : xs.length ≤ cap) (hsz : cur.size = cap * 3) (hbig : xs.length < 4611686018427387904) :
  Calls Tryz.prog 234 #[.slice (some ⟨g, 0, none⟩) xs.length cap, .func (.func 225) #[] #[]] w fun e w' => e = .returned (.tuple #[]) ∧
   ∃ vals' cur', RepL h noB ((sortT xs).flatMap eT) vals' ∧ w'.os = w.os ∧ w'.tape = w.tape ∧ (w'.output = w.output ∧ w.drawn ≤ w'.drawn) ∧ w.heap.size ≤ w'.heap.size ∧ (∀ i, i < w.heap.size → i ≠ g → w'.heap[i]? = w.heap[i]?) ∧ w'.heap[g]? = some (.cells cur' T (0, 0)) ∧ cur'.size = cap * 3 ∧ cur'.toList.take (xs.length * 3) = vals' := by
 obtain ⟨l, e1, e2⟩ := at_list (n := n) xs vals hv hx
 obtain ⟨x0, l0, hl0⟩ : ∃ x0 l0, l = x0 :: l0 := by
  cases l with
  | nil => simp at e1; exact absurd e1 hne
  | cons a b => exact ⟨a, b, rfl⟩
 haveI : Inhabited (AT h n) := ⟨x0⟩
 have hlen : l.length = xs.length := by rw [← e1]; simp
 let enc : AT h n → List Value := fun x => x.v
 have hk : ∀ x : AT h n, (enc x).length = 3 := fun x => by rw [x.rep.length]; rfl
 have h1 : ∀ x : AT h n, ∀ v ∈ enc x, v.oneCell' = true := fun x v hvv => allOne_cells (h := h) (β := noB) (cs := eT x.t) rfl x.rep v hvv
 have hO : Go.Sort.SWO (Go.Proofs.ltOf fun x y : AT h n => ordI x.t.e y.t.e) := by
  refine ⟨fun x => ?_, fun x y z k1 k2 => ?_, fun x y z k1 k2 => ?_⟩
  ·simp only [Go.Proofs.ltOf, decide_eq_false_iff_not]; rw [ordI_refl]; omega
  ·simp only [Go.Proofs.ltOf, decide_eq_true_eq] at k1 k2 ⊢;exact ordI_trans k1 k2
  ·simp only [Go.Proofs.ltOf, decide_eq_false_iff_not] at k1 k2 ⊢;intro k3;rcases ordI_total y.t.e x.t.e with k | k | k
   ·exact k2 (ordI_trans k k3)
   ·exact k2 (by rw [k]; exact k3)
   ·exact k1 k
 have hcell : ∀ i, (⟨g, i, none⟩ : Addr).block = g := fun _ => rfl
 have hH : Go.Sort.HoldsK enc 3 w g 0 l.toArray := by
  intro j hj;have hflat := flatK_list enc 3 hk l
  have hjl : j < xs.length * 3 := by simpa [hlen] using hj
  have hget : (Go.Sort.flatK enc 3 l.toArray)[j]! = (cur[j]?).getD default := by
   rw [getElem!_pos _ j hj, ← Array.getElem_toList (h := by simpa using hj)]
   have h2 : (Go.Sort.flatK enc 3 l.toArray).toList = cur.toList.take (xs.length * 3) := by rw [hflat, hc]; exact e2
   have h3 : (Go.Sort.flatK enc 3 l.toArray).toList[j]? = cur.toList[j]? := by
    rw [h2, List.getElem?_take_of_lt hjl]
   rw [List.getElem?_eq_getElem (by simpa using hj)] at h3;rw [← Array.getElem?_toList, ← h3]; rfl
  have hjc : j < cur.size := by omega
  refine ⟨?_, ?_⟩
  ·simp only [Nat.zero_add, World.cell?, hg, hget, id];simp [hjc]
  ·simp [World.frozen?, hg]
 have hblk : g < w.heap.size := (Array.getElem?_eq_some_iff.1 hg).1
 have hthere : ∀ (m : Nat) (os : Array Obj) (dk : Array (AT h n)) (i : Nat), i < w.heap.size → i ≠ g → (Go.Proofs.sortWorldK enc 3 w g 0 m dk os).heap[i]? = w.heap[i]? := by
  intro m os dk i hi hig;simp only [Go.Proofs.sortWorldK, Go.Sort.grow, Go.Sort.putRowK, Go.Sort.putRow, Go.Sort.mapBlock, Go.Sort.ahead];rw [Array.getElem?_append_left (by simpa using hi), Array.getElem?_modify, if_neg (Ne.symm hig)]
 have hcmp : Go.Proofs.CmpLays Tryz.prog 225 #[] enc 3 (fun x y : AT h n => ordI x.t.e y.t.e) g 0 l.toArray.size w := by
  intro m os dk hdk x y
  have hW : Has (Go.Proofs.sortWorldK enc 3 w g 0 m dk os) h := fun b cs hb => by
   obtain ⟨t, fr, hh⟩ := hw b cs hb;refine ⟨t, fr, ?_⟩;rw [hthere m os dk b (Array.getElem?_eq_some_iff.1 hh).1 (fun e => by subst e; rw [hgn] at hb; cases hb)];exact hh
  have hord := order_ok x.t y.t x.ok y.ok (by rw [x.len]; omega) (by rw [y.len]; omega);rw [Array.append_empty];have hrl : RepL h noB [aT x.t, aT y.t] [.agg (enc x).toArray, .agg (enc y).toArray] := RepL.cons (by simp only [Rep]; exact ⟨_, rfl, x.rep⟩) (RepL.cons (by simp only [Rep]; exact ⟨_, rfl, y.rep⟩) RepL.nil);have hcl := hord.calls _ h #[.agg (enc x).toArray, .agg (enc y).toArray] hW hrl;refine hcl.mono fun e w' ⟨u, h', he, hev, hrep⟩ => ?_;simp only [Rep] at hrep;subst hrep;exact ⟨he, evo_grow hev⟩
 have hA : ∀ w, (isAgg (sortL_ren.t 24)).run Tryz.prog w = .ok true w := Tryz.isAgg124;have hZ : ∀ w, (Go.sizeOf (sortL_ren.t 24)).run Tryz.prog w = .ok 3 w := Tryz.sizeOf124;have hS := Go.Proofs.AnyQ.slices_SortFunc sortL 3 hA hZ enc hk h1 (fun x y : AT h n => ordI x.t.e y.t.e) hO 225 #[] g 0 cap l.toArray w (enters_of Tryz.func225 (by kernel_rfl) rfl) hcmp hH hblk (by simp; omega);change Calls Tryz.prog 234 _ _ _ at hS;simp only [List.size_toArray] at hS;rw [hlen] at hS;refine Calls.mono hS fun e w' ⟨he, d', m, os, hp, hs, hw'⟩ => ?_;subst hw';obtain ⟨hd1, hd2, hd3⟩ := hp
 have hd1 : d'.size = xs.length := by rw [hd1]; simp [hlen]
 have hperm : d'.toList.Perm l := by
  have q1 : d'.extract 0 xs.length = d' := by rw [← hd1]; simp
  have q2 : l.toArray.extract 0 xs.length = l.toArray := by rw [← hlen]; simp
  rw [q1, q2] at hd3;simpa using hd3
 have hsorted : (d'.toList.map (·.t)).Pairwise fun a b => leT a b = true := by
  rw [List.pairwise_map];rw [List.pairwise_iff_getElem];intro i j hi hj hij;have := hs i j (Nat.zero_le _) hij (by rw [← hd1]; simpa using hj)
  have hi' : i < d'.size := by simpa using hi
  have hj' : j < d'.size := by simpa using hj
  rw [getElem!_pos d' i hi', getElem!_pos d' j hj'] at this;simp only [Go.Proofs.ltOf, decide_eq_false_iff_not] at this;rw [Array.getElem_toList, Array.getElem_toList];rw [leT_iff];rcases ordI_total (d'[i]).t.e (d'[j]).t.e with k | k | k
  ·exact .inl k
  ·exact .inr k
  ·exact absurd k this
 have hys : d'.toList.map (·.t) = sortT xs := sortT_unique hnd (by rw [← e1]; exact hperm.map _) hsorted;have hrep := at_rep d'.toList;rw [hys] at hrep
 have hfl : (Go.Sort.flatK enc 3 d').toList = d'.toList.flatMap (·.v) := by
  have := flatK_list enc 3 hk d'.toList;simpa using this
 refine ⟨he, d'.toList.flatMap (·.v), Go.Sort.putCells id 0 (Go.Sort.flatK enc 3 d') cur, hrep, rfl, rfl, ⟨rfl, Nat.le_add_right _ _⟩, ?_, fun i hi hig => hthere m os d' i hi hig, ?_, by simp [Go.Sort.putCells, hsz], ?_⟩
 ·simp only [Go.Proofs.sortWorldK, Go.Sort.grow, Go.Sort.putRowK, Go.Sort.putRow, Go.Sort.mapBlock, Go.Sort.ahead, Array.size_append, Array.size_modify];omega
 ·simp only [Go.Proofs.sortWorldK, Go.Sort.grow, Go.Sort.putRowK, Go.Sort.putRow, Go.Sort.mapBlock, Go.Sort.ahead];rw [Array.getElem?_append_left (by simpa using hblk), Array.getElem?_modify, if_pos rfl, hg];rfl
 ·rw [← hfl];apply List.ext_getElem?;intro t;by_cases ht : t < xs.length * 3
  ·have htc : t < cur.size := by omega
   rw [List.getElem?_take_of_lt ht, Array.getElem?_toList, Array.getElem?_toList];simp only [Go.Sort.putCells, Array.getElem?_mapIdx, Array.getElem?_eq_getElem htc, Option.map_some, Nat.zero_le, true_and, Nat.zero_add, Go.Sort.size_flatK, hd1, if_pos ht, Nat.sub_zero, id];rw [getElem!_pos _ t (by simpa [hd1] using ht), Array.getElem?_eq_getElem (by simpa [hd1] using ht)]
  ·rw [List.getElem?_eq_none (by simp; omega), List.getElem?_eq_none (by simp [hd1]; omega)]
end Go.Proofs.YtcaecieigoplbaaGreat
/- slices.SortFunc on terms: a contract with a box. -/
namespace Go.Proofs.YtcaecieigoplbaaGreat
open Go.AL

set_option maxHeartbeats 4000000 in
set_option maxRecDepth 100000 in
theorem sort_ok (n : Nat) (hn : n ≤ 100000) (xs : List TZ) (hx : ∀ t ∈ xs, EOk t.e ∧ t.e.length = n) (hnd : xs.Pairwise fun a b => a.e ≠ b.e) (hlen : xs.length ≤ 1000000000000) (T : TypeId) :
  IoFn Tryz.prog 234 [.row 900, .fn 225 []] [(900, .row 3 eT xs T)] (.ret .any) [(900, .row 3 eT (sortT xs) T)] := by
 refine ⟨⟨_, Tryz.func234, by kernel_rfl, by kernel_rfl⟩, fun w h β us hw hbx hβ hr => ?_⟩;obtain ⟨v, vals, hv, ⟨hl, ho⟩, hrv, hsz3, hno⟩ := hbx.box 900 (.row 3 eT xs T) rfl
 have hus : us = #[v, .func (.func 225) #[] #[]] := by
  simp only [RepL, Rep] at hr;obtain ⟨u0, r0, e0, ⟨e1, _⟩, u1, r1, e2, ⟨us2, e3, e4⟩, e5⟩ := hr;rw [hv] at e1; injection e1 with e1; subst e1;have : us2 = #[] := Array.toList_inj.1 e4;subst this;rw [e2, e3, e5] at e0;exact Array.toList_inj.1 e0
 subst hus
 have fin : ∀ (w' : World) (vals' : List Value), w'.os = w.os → w'.tape = w.tape → (w'.output = w.output ∧ w.drawn ≤ w'.drawn) → w.heap.size ≤ w'.heap.size → (∀ i, i < w.heap.size → v.ownBlock ≠ some i → w'.heap[i]? = w.heap[i]?) → w'.ownsRow 0 T 3 v (sortT xs).length vals' → RepL h noB ((sortT xs).flatMap eT) vals' →
   ∃ h' β', β.le β' ∧ Evo (blksOf [(900, .row 3 eT xs T)] β) w h w' h' ∧ ∃ u, Ending.returned (.tuple #[]) = .returned u ∧ BoxesAt w' h' β' [(900, .row 3 eT (sortT xs) T)] ∧ Rep h' β' .any u ∧ ∀ id g, id ∉ idsB [(900, .row 3 eT xs T)] → blk (β' id) = some g → w.heap.size ≤ g := by
  intro w' vals' q1 q2 q3 q4 q5 q6 q7;have hbk : ∀ g, blk (some v) = some g ↔ v.ownBlock = some g := blk_own q6;refine ⟨h, β, Bt.le.refl _, evo_of hw q1 q2 q3 q4 (fun i hi hm => q5 i hi fun e => hm ⟨900, _, rfl, by rw [hv]; exact (hbk i).2 e⟩) (fun g ⟨id, B, hB, hg⟩ => ?_), .tuple #[], rfl, ⟨fun id B hB => ?_, fun id id' B B' h1 h2 hne => ?_⟩, by simp only [Rep], fun id g hid hg => ?_⟩
  ·by_cases hid : id = 900
   ·subst hid; rw [hv] at hg; exact hno g ((hbk g).1 hg)
   ·simp [lookB, beq_ne hid] at hB
  ·by_cases hid : id = 900
   ·subst hid;simp only [lookB, Nat.beq_refl] at hB;injection hB with hB; subst hB;exact ⟨v, vals', hv, q6, q7, fun _ _ => rfl, hno⟩
   ·simp [lookB, beq_ne hid] at hB
  ·by_cases hid : id = 900
   ·by_cases hid' : id' = 900
    ·exact absurd (hid.trans hid'.symm) hne
    ·simp [lookB, beq_ne hid'] at h2
   ·simp [lookB, beq_ne hid] at h1
  ·rw [hβ id hid] at hg; simp [blk] at hg
 have hsl : (sortT xs).length = xs.length := (sortT_perm xs).length_eq;by_cases hne : xs = []
 ·subst hne
  have hs0 : sortT [] = [] := by simp [sortT]
  have hvs : ∃ p c, v = .slice p 0 c := by
   rcases ho with ⟨e, _⟩ | ⟨g, cap, cur, e, _⟩
   ·exact ⟨none, 0, e⟩
   ·exact ⟨_, cap, by simpa using e⟩
  obtain ⟨p, c, hvp⟩ := hvs;have hS := Go.Proofs.AnyF.slices_SortFunc_none (P := Tryz.prog) (ρ := sortL_ren) { sortL with } p c (.func (.func 225) #[] #[]) w;change Calls Tryz.prog 234 _ _ _ at hS;rw [hvp];refine Calls.mono hS fun e w' ⟨he, hw'⟩ => ?_;subst he hw';have hr0 : RepL h noB (([] : List TZ).flatMap eT) [] := RepL.nil;have hvals : vals = [] := List.eq_nil_of_length_eq_zero (by simpa using hl);have := fin w' vals rfl rfl ⟨rfl, Nat.le_refl _⟩ (Nat.le_refl _) (fun _ _ _ => rfl) (by rw [hs0]; exact ⟨hl, ho⟩) (by rw [hs0]; exact hrv);exact this
 ·have hpos : 0 < xs.length := List.length_pos_iff.2 hne;rcases ho with ⟨_, e⟩ | ⟨g, cap, cur, e, _, hh, h1, h2, h3, h4⟩
  ·omega
  ·subst e;have hgn : h g = none := hno g rfl
   have hb : xs.length < 4611686018427387904 := by omega
   refine Calls.mono (sort_calls hw n hn xs hx hnd hne g cap cur T hh hgn vals hrv h4 h1 h3 hb) fun e w' ⟨he, vals', cur', p1, p2, p3, p4, p5, p6, p7, p8, p9⟩ => ?_;subst he;refine fin w' vals' p2 p3 p4 p5 (fun i hi hm => p6 i hi fun e => hm (by rw [e]; rfl)) ?_ p1;rw [hsl];have hln := p1.length
   have hk : ((sortT xs).flatMap eT).length = xs.length * 3 := by
    rw [← hsl];generalize sortT xs = l
    induction l with
    | nil => rfl
    | cons t l ih => rw [List.flatMap_cons, List.length_append, ih, List.length_cons]; simp [eT]; omega
   exact ⟨by rw [hln, hk], .inr ⟨g, cap, cur', rfl, Nat.zero_le _, p7, h1, h2, p8, p9⟩⟩
end Go.Proofs.YtcaecieigoplbaaGreat
/- The keys of the program's sums: lists of 32 exponents. -/
namespace Go.AL
abbrev Key := {l : List Int // l.length = 32}
def kg (k : Key) (i : Nat) : Int := k.1.getD i 0
def keyC (k : Key) : List AV := [aN (kg k 0), aN (kg k 1), aN (kg k 2), aN (kg k 3), aN (kg k 4), aN (kg k 5), aN (kg k 6), aN (kg k 7), aN (kg k 8), aN (kg k 9), aN (kg k 10), aN (kg k 11), aN (kg k 12), aN (kg k 13), aN (kg k 14), aN (kg k 15), aN (kg k 16), aN (kg k 17), aN (kg k 18), aN (kg k 19), aN (kg k 20), aN (kg k 21), aN (kg k 22), aN (kg k 23), aN (kg k 24), aN (kg k 25), aN (kg k 26), aN (kg k 27), aN (kg k 28), aN (kg k 29), aN (kg k 30), aN (kg k 31)]
def keyV (k : Key) : List Value := [.int .i64 (kg k 0), .int .i64 (kg k 1), .int .i64 (kg k 2), .int .i64 (kg k 3), .int .i64 (kg k 4), .int .i64 (kg k 5), .int .i64 (kg k 6), .int .i64 (kg k 7), .int .i64 (kg k 8), .int .i64 (kg k 9), .int .i64 (kg k 10), .int .i64 (kg k 11), .int .i64 (kg k 12), .int .i64 (kg k 13), .int .i64 (kg k 14), .int .i64 (kg k 15), .int .i64 (kg k 16), .int .i64 (kg k 17), .int .i64 (kg k 18), .int .i64 (kg k 19), .int .i64 (kg k 20), .int .i64 (kg k 21), .int .i64 (kg k 22), .int .i64 (kg k 23), .int .i64 (kg k 24), .int .i64 (kg k 25), .int .i64 (kg k 26), .int .i64 (kg k 27), .int .i64 (kg k 28), .int .i64 (kg k 29), .int .i64 (kg k 30), .int .i64 (kg k 31)]
def ekK (k : Key) : Value := .agg ⟨keyV k⟩
abbrev kcK (k : Key) : AV := .agg (keyC k)
theorem keyC_eq (k : Key) : keyC k = k.1.map aN := by
 obtain ⟨l, hl⟩ := k;have e : keyC ⟨l, hl⟩ = (List.range 32).map fun i => aN (l.getD i 0) := rfl;rw [e];apply List.ext_getElem?;intro i;by_cases h : i < 32
 ·simp [h, hl]
 ·rw [List.getElem?_eq_none (by simp; omega), List.getElem?_eq_none (by simp; omega)]
theorem keyV_eq (k : Key) : keyV k = k.1.map (Value.int .i64) := by
 obtain ⟨l, hl⟩ := k;have e : keyV ⟨l, hl⟩ = (List.range 32).map fun i => Value.int .i64 (l.getD i 0) := rfl;rw [e];apply List.ext_getElem?;intro i;by_cases h : i < 32
 ·simp [h, hl]
 ·rw [List.getElem?_eq_none (by simp; omega), List.getElem?_eq_none (by simp; omega)]
theorem repN (h : Hp) (β : Bt) : ∀ (l : List Int) (us : List Value), RepL h β (l.map aN) us ↔ us = l.map (Value.int .i64)
 | [], us => by simp [RepL]
 | x :: l, us => by
  simp only [List.map_cons, RepL, Rep, repN h β l];constructor
  ·rintro ⟨u, r, rfl, rfl, rfl⟩; rfl
  ·rintro rfl; exact ⟨_, _, rfl, rfl, rfl⟩
def expK (e : List Int) (he : e.length ≤ 32) : Key := ⟨e ++ List.replicate (32 - e.length) 0, by simp; omega⟩
theorem expK_cells (e : List Int) (he : e.length ≤ 32) : e.flatMap eI ++ (List.replicate 32 (aN 0)).drop e.length = keyC (expK e he) := by
 rw [keyC_eq];simp only [expK, List.map_append, List.map_replicate, List.drop_replicate];congr 1
 induction e with
 | nil => rfl
 | cons x e ih => simp [eI, List.flatMap_cons] at ih ⊢; exact ih (by simp at he; omega)
theorem expK_inj {a b : List Int} {ha : a.length ≤ 32} {hb : b.length ≤ 32} (hl : a.length = b.length) (h : expK a ha = expK b hb) : a = b := by
 have h1 : a ++ List.replicate (32 - a.length) 0 = b ++ List.replicate (32 - b.length) 0 := congrArg Subtype.val h;exact (List.append_inj h1 hl).1
end Go.AL
namespace Go.Proofs.YtcaecieigoplbaaGreat
open Go.AL
theorem und_key : Tryz.prog.underlying 218 = some (.array 32 3) := by kernel_rfl
theorem und_int : Tryz.prog.underlying 3 = some (.int .i64) := by kernel_rfl
theorem key_items (a b : Key) (w : World) (d : Nat) : ∀ is : List Nat, (∀ i ∈ is, i < 32) → (Op.eqItems (d + 1) 3 1 ⟨keyV a⟩ ⟨keyV b⟩ is).run Tryz.prog w = .ok (is.all fun i => kg a i == kg b i) w
 | [], _ => by simp [Op.eqItems]
 | i :: is, h => by
  have hp : Tryz.prog.plainKey 3 = true := by kernel_rfl
  have hg : ∀ k : Key, (⟨keyV k⟩ : Array Value)[i * 1]? = some (.int .i64 (kg k i)) := fun k => by
   rw [Nat.mul_one, List.getElem?_toArray, keyV_eq, List.getElem?_map]
   have hi : i < k.1.length := by rw [k.2]; exact h i (by simp)
   simp [kg, hi]
  simp only [Op.eqItems, Sem.run_bind, run_part_plain w hp (hg a), run_part_plain w hp (hg b), Result.andThen_ok, run_equalIn_int w d 3 .i64 .i64 _ _ und_int, List.all_cons]
  cases hq : (kg a i == kg b i) with
  | false => simp
  | true => simp [key_items a b w d is fun j hj => h j (by simp [hj])]
theorem key_eq (a b : Key) (w : World) : (Op.equal 218 (ekK a) (ekK b)).run Tryz.prog w = .ok (decide (a = b)) w := by
 obtain ⟨i, hi⟩ := info_of_underlying und_int
 have hc : Tryz.prog.cellsOf 3 = 1 := by kernel_rfl
 have h := run_equalIn_array w 9999 ⟨keyV a⟩ ⟨keyV b⟩ und_key hi;rw [hc, key_items a b w 9998 _ (fun i hi => List.mem_range.1 hi)] at h;have h2 : (Op.equal 218 (ekK a) (ekK b)).run Tryz.prog w = .ok ((List.range 32).all fun i => kg a i == kg b i) w := h;rw [h2];refine congrArg (fun b => Result.ok b w) ?_;rw [Bool.eq_iff_iff, List.all_eq_true, decide_eq_true_eq];constructor
 ·intro hall;apply Subtype.ext;apply List.ext_getElem
  ·rw [a.2, b.2]
  ·intro i h1 h2;have := hall i (List.mem_range.2 (by rw [a.2] at h1; exact h1));simp only [kg, beq_iff_eq, List.getD_eq_getElem?_getD, List.getElem?_eq_getElem h1, List.getElem?_eq_getElem h2, Option.getD_some] at this;exact this
 ·rintro rfl i _; simp
theorem key_part (k : Key) (w : World) (i : Nat) (h : i < 32) : (part 3 ⟨keyV k⟩ (i * 1)).run Tryz.prog w = .ok (.int .i64 (kg k i)) w := by
 have hp : Tryz.prog.plainKey 3 = true := by kernel_rfl
 refine run_part_plain w hp ?_;rw [Nat.mul_one, List.getElem?_toArray, keyV_eq, List.getElem?_map]
 have hi : i < k.1.length := by rw [k.2]; exact h
 simp [kg, hi]
theorem key_check (e : Bool) (k : Key) (w : World) : (Instr.checkKey e 10000 218 (ekK k)).run Tryz.prog w = .ok () w := by
 obtain ⟨inf, hi⟩ := info_of_underlying und_int
 have hc : Tryz.prog.cellsOf 3 = 1 := by kernel_rfl
 have one : ∀ x, (Instr.checkKey e 9999 3 (.int .i64 x)).run Tryz.prog w = .ok () w := fun x => by
  rw [show 9999 = 9998 + 1 from rfl];unfold Instr.checkKey;simp [Sem.run_bind, run_underlying und_int]
 rw [show 10000 = 9999 + 1 from rfl, Instr.checkKey, ekK];simp only [Sem.run_bind, run_underlying und_key, Result.andThen_ok];simp only [Std.Legacy.Range.forIn_eq_forIn_range', Std.Legacy.Range.size, Nat.sub_zero, Nat.add_one_sub_one, Nat.div_one]
 have each : ∀ i ∈ List.range' 0 32, i < 32 := fun i hi => by simpa using hi
 generalize List.range' 0 32 = is at each
 induction is with
 | nil => simp
 | cons j is ih =>
  simp only [List.forIn_cons, Sem.run_bind, run_sizeOf w hi, hc, Result.andThen_ok, key_part k w j (each j (by simp)), one, Sem.run_pure];exact ih (fun y hy => each y (by simp [hy]))
theorem key_law : KeyLaw Tryz.prog 218 ekK kcK where
 rep h β k u hr := by
  simp only [Rep] at hr;obtain ⟨us, rfl, hr⟩ := hr;rw [keyC_eq, repN, ← keyV_eq] at hr;rw [ekK, ← hr]
 back h β k := by
  simp only [Rep];refine ⟨_, rfl, ?_⟩;rw [keyC_eq, repN, ← keyV_eq]
 check := key_check
 find h α av k xs es w hm := by
  obtain ⟨r, h1, h2⟩ := findAsking_run (fun a b w => key_eq a b w) h av k w xs es 0 hm;refine ⟨r, ?_, h2⟩;simp only [Instr.findKey, Sem.run_bind, run_underlying und_key, Result.andThen]
  have hn : es = [] ∨ Instr.findNow (.array 32 3) (ekK k) es 0 = none := by
   cases es with
   | nil => exact .inl rfl
   | cons e es =>
    right;simp only [Instr.findNow]
    cases he : e.key <;> simp [Instr.sameNow]
  rcases hn with rfl | hn
  ·simp only [Instr.findNow];simp only [Instr.findAsking, Sem.run_pure] at h1;exact h1
  ·rw [hn]; exact h1
 bits k := by
  have : ∀ x : Int, (Instr.sameBits 9999 (.int .i64 x) (.int .i64 x)) = true := fun x => by simp [Instr.sameBits]
  simp only [ekK, Instr.sameBits, beq_self_eq_true, Bool.true_and, keyV];simp [this]
end Go.Proofs.YtcaecieigoplbaaGreat
/- poly.empty, (*sums).add. -/
namespace Go.AL
abbrev ME := Key × Int × Nat
def getM (k : Key) (xs : List ME) : Int := match findM k xs 0 with | some (_, p) => p.2.1 | none => 0
def setM (k : Key) (y : Int) (c : Nat) (xs : List ME) : List ME := if y = 0 then delM k (putM k y c xs) else putM k y c xs
abbrev bM (xs : List ME) (c : Nat) : Bx := .map ekK aX xs c
end Go.AL
namespace Go.Proofs.YtcaecieigoplbaaGreat
open Go.AL
abbrev smB (V : Int) (xs : List ME) (c : Nat) : List (AL.Id × Bx) := [(900, .cells [aN V, .mp 901] 216), (901, bM xs c)]

theorem empty_ok (V : Int) : IoFn Tryz.prog 219 [aN V] [] (.ret (.ptr 900 0)) (smB V [] 0) := by
 refine IoFn.of_body Tryz.func219 rfl Tryz.ntmps219 rfl rfl rfl ?_;(repeat' (first |refine qv ?_ |apply qn |apply qs |apply qr));refine Fl.mkmap rfl rfl rfl rfl ekK aX rfl ?_;(repeat' (first |refine qv ?_ |apply qn |refine qe ?_ |apply qt));exact ⟨⟨[(900, 6), (901, 4)], _, _, Ent.refl _ _ _, rfl, AV.Le.refl _, rfl, ⟨⟨⟨_, rfl, BLe.cells (LeL.refl _)⟩, rfl⟩, ⟨⟨_, rfl, BLe.map rfl rfl⟩, rfl⟩, trivial⟩, rfl, rfl⟩⟩

theorem sAdd_io (V : Int) (xs : List ME) (clock : Nat) (c : Int) (e : List Int) (hc : Fit c) (hxs : ∀ p ∈ xs, Fit p.2.1) (he : e.length ≤ 32) (res : Res) (bx' : List (AL.Id × Bx))
  (hr1 : Fit (getM (expK e he) xs + c) → res = .ret (.tup []) ∧ bx' = smB V (setM (expK e he) (getM (expK e he) xs + c) clock xs) (putC (expK e he) clock xs))
  (hr2 : ¬ Fit (getM (expK e he) xs + c) → res = .thr (thrown 4) ∧ bx' = smB V xs clock) :
  IoFn Tryz.prog 220 [.ptr 900 0, aX c, aI e] (smB V xs clock) res bx' := by
 have hg : Fit (getM (expK e he) xs) := by
  unfold getM
  cases hf : findM (expK e he) xs 0 with
  | none => exact Fit.zero
  | some q => obtain ⟨j, p⟩ := q; exact hxs p (List.mem_of_getElem? (findM_get hf).2.1)
 have hle : match findM (expK e he) xs 0 with | some (_, p) => (aX p.2.1).Le (aX (getM (expK e he) xs)) | none => (AV.agg [aB false, .v (.slice none 0 0)]).Le (aX (getM (expK e he) xs)) := by
  unfold getM
  cases hf : findM (expK e he) xs 0 with
  | none => exact aX_zero
  | some q => exact AV.Le.refl _
 by_cases hfit : Fit (getM (expK e he) xs + c)
 ·obtain ⟨rfl, rfl⟩ := hr1 hfit;refine IoFn.of_body Tryz.func220 rfl Tryz.ntmps220 rfl rfl rfl ?_;refine AWP.seqS ?_;(repeat' (first |apply qn |apply qr |refine qe ?_|fail));refine ⟨?_⟩;refine AWP.seqS ?_;(repeat' (first |apply qn |apply qr |refine qe ?_|fail));refine ⟨?_⟩;refine AWP.seq ?_;refine AWP.arrCopy rfl rfl rfl rfl rfl rfl rfl rfl rfl rfl rfl rfl rfl rfl rfl rfl rfl rfl rfl rfl rfl rfl rfl (by intro h; cases h) (fun _ => rfl) (fun _ => rfl) (by omega) (expK_cells e he) ?_;refine AWP.seq ?_;(repeat' (first |refine qv ?_ |apply qr));refine Fl.lookup (v := aX (getM (expK e he) xs)) rfl rfl rfl rfl rfl rfl key_law (expK e he) (AV.Le.refl _) rfl ?_ (fun _ => rfl) rfl rfl ?_
  ·revert hle; generalize findM (expK e he) xs 0 = r; cases r <;> exact id
  (repeat' (first |refine qv ?_|fail));refine qc (xAdd_ret _ _ hg hc hfit) ?_;skip;refine Fl.mupd rfl rfl rfl rfl key_law (expK e he) (AV.Le.refl _) rfl (getM (expK e he) xs + c) (AV.Le.refl _) rfl rfl rfl ?_;(repeat' (first |refine qv ?_ |refine Fl.nil (fun _ => by kernel_rfl) ?_ |apply qs |apply qr));refine Fl.lookup (v := aX (getM (expK e he) xs + c)) rfl rfl rfl rfl rfl rfl key_law (expK e he) (AV.Le.refl _) rfl ?_ (fun _ => rfl) rfl rfl ?_
  ·obtain ⟨j, p, h1, h2⟩ := findM_put (expK e he) (getM (expK e he) xs + c) clock xs;rw [h1];exact AV.Le.of_eq (by rw [h2])
  skip;refine qc (ZeroX_ok _) ?_;(repeat' (first |refine qv ?_ |refine Fl.nil (fun _ => by kernel_rfl) ?_ |apply qr |(refine AWP.condD rfl ?_ ?_ <;> intro _ <;> try (exfalso; omega)) |apply qk))
  ·rename_i h0;refine Fl.mdel rfl rfl rfl rfl key_law (expK e he) (AV.Le.refl _) rfl rfl rfl ?_;(repeat' (first |refine Fl.nil (fun _ => by kernel_rfl) ?_|fail));refine ⟨⟨[], _, _, Ent.refl _ _ _, rfl, AV.Le.refl _, rfl, ⟨⟨⟨_, rfl, BLe.cells (LeL.refl _)⟩, rfl⟩, ⟨⟨_, rfl, BLe.map ?_ rfl⟩, rfl⟩, trivial⟩, rfl, rfl⟩⟩;unfold setM; rw [if_pos h0]
  ·rename_i h0;refine ⟨⟨[], _, _, Ent.refl _ _ _, rfl, AV.Le.refl _, rfl, ⟨⟨⟨_, rfl, BLe.cells (LeL.refl _)⟩, rfl⟩, ⟨⟨_, rfl, BLe.map ?_ rfl⟩, rfl⟩, trivial⟩, rfl, rfl⟩⟩;unfold setM; rw [if_neg h0]
 ·obtain ⟨rfl, rfl⟩ := hr2 hfit;refine IoFn.of_body Tryz.func220 rfl Tryz.ntmps220 rfl rfl rfl ?_;refine AWP.seqS ?_;(repeat' (first |apply qn |apply qr |refine qe ?_|fail));refine ⟨?_⟩;refine AWP.seqS ?_;(repeat' (first |apply qn |apply qr |refine qe ?_|fail));refine ⟨?_⟩;refine AWP.seq ?_;refine AWP.arrCopy rfl rfl rfl rfl rfl rfl rfl rfl rfl rfl rfl rfl rfl rfl rfl rfl rfl rfl rfl rfl rfl rfl rfl (by intro h; cases h) (fun _ => rfl) (fun _ => rfl) (by omega) (expK_cells e he) ?_;refine AWP.seq ?_;(repeat' (first |refine qv ?_ |apply qr));refine Fl.lookup (v := aX (getM (expK e he) xs)) rfl rfl rfl rfl rfl rfl key_law (expK e he) (AV.Le.refl _) rfl ?_ (fun _ => rfl) rfl rfl ?_
  ·revert hle; generalize findM (expK e he) xs 0 = r; cases r <;> exact id
  (repeat' (first |refine qv ?_|fail));exact Fl.thrC rfl [] (xAdd_thr _ _ hg hc hfit) rfl (LeL.refl _) rfl trivial rfl (fun _ => by kernel_rfl) (fun _ => rfl)
end Go.Proofs.YtcaecieigoplbaaGreat
/- (*sums).poly. -/
namespace Go.AL
structure MOk (V : Nat) (xs : List ME) (c : Nat) : Prop where
  nd : (xs.map (·.2.2)).Nodup
  lt : ∀ p ∈ xs, p.2.2 < c
  keys : xs.Pairwise fun a b => a.1 ≠ b.1
  fit : ∀ p ∈ xs, Fit p.2.1
  nz : ∀ p ∈ xs, p.2.1 ≠ 0
  exp : ∀ p ∈ xs, ∃ (e : List Int) (he : e.length ≤ 32), p.1 = expK e he ∧ e.length = V ∧ EOk e
def tmM (V : Nat) (p : ME) : TZ := ⟨zOf p.2.1, p.1.1.take V⟩
theorem tmM_exp {V : Nat} {p : ME} {e : List Int} {he : e.length ≤ 32} (h : p.1 = expK e he) (hl : e.length = V) : (tmM V p).e = e := by
 show p.1.1.take V = e;rw [h];show (e ++ List.replicate (32 - e.length) 0).take V = e;rw [← hl]; simp
theorem MOk.eok {V : Nat} {xs : List ME} {c : Nat} (m : MOk V xs c) : ∀ t ∈ xs.map (tmM V), EOk t.e ∧ t.e.length = V := by
 intro t ht;obtain ⟨p, hp, rfl⟩ := List.mem_map.1 ht;obtain ⟨e, he, h1, h2, h3⟩ := m.exp p hp;rw [tmM_exp h1 h2]; exact ⟨h3, h2⟩
theorem MOk.parts {V : Nat} {xs : List ME} {c : Nat} (m : MOk V xs c) : (xs.map (tmM V)).Pairwise fun a b => a.e ≠ b.e := by
 rw [List.pairwise_map];refine m.keys.imp_of_mem fun {a b} ha hb hne h => hne ?_;obtain ⟨e, he, h1, h2, h3⟩ := m.exp a ha;obtain ⟨e', he', h1', h2', h3'⟩ := m.exp b hb;rw [tmM_exp h1 h2, tmM_exp h1' h2'] at h;subst h;rw [h1, h1']
theorem keyC_take (k : Key) (V : Nat) : (keyC k).take V = (k.1.take V).flatMap eI := by
 rw [keyC_eq, ← List.map_take]
 induction k.1.take V with
 | nil => rfl
 | cons x l ih => simp only [List.map_cons, ih, List.flatMap_cons]; rfl
theorem seen_perm : ∀ (ys xs : List ME), (xs.map (·.2.2)).Nodup → (ys.map (·.2.2)).Nodup → (∀ p ∈ ys, p ∈ xs) → ys.length ≤ xs.length ∧ ((∀ p ∈ xs, p.2.2 ∈ ys.map (·.2.2)) → ys.Perm xs)
 | [], xs, _, _, _ => ⟨Nat.zero_le _, fun h => by
  cases xs with
  | nil => exact List.Perm.nil
  | cons p xs => have := h p (by simp); simp at this⟩
 | p :: ys, xs, hx, hy, hsub => by
  obtain ⟨A, B, rfl⟩ := List.append_of_mem (hsub p (by simp));have hm : (A ++ p :: B).Perm (p :: (A ++ B)) := List.perm_middle;have hx2 : ((p :: (A ++ B)).map (·.2.2)).Nodup := (hm.map _).nodup_iff.1 hx;rw [List.map_cons, List.nodup_cons] at hx2 hy
  have ih := seen_perm ys (A ++ B) hx2.2 hy.2 fun q hq => by
   have h1 := hm.mem_iff.1 (hsub q (by simp [hq]));rcases List.mem_cons.1 h1 with h1 | h1
   ·subst h1; exact absurd (List.mem_map.2 ⟨q, hq, rfl⟩) hy.1
   ·exact h1
  refine ⟨by have := ih.1; simp at this ⊢; omega, fun hall => ((ih.2 fun q hq => ?_).cons p).trans hm.symm⟩;have h1 := hall q (hm.mem_iff.2 (by simp [List.mem_append.1 hq]));rw [List.map_cons, List.mem_cons] at h1;rcases h1 with h1 | h1
  ·exact absurd (List.mem_map.2 ⟨q, hq, h1⟩) hx2.1
  ·exact h1
theorem sortT_perm_eq {xs ys : List TZ} (hnd : xs.Pairwise fun a b => a.e ≠ b.e) (hp : ys.Perm xs) : sortT ys = sortT xs :=
 sortT_unique hnd ((sortT_perm ys).trans hp) (sortT_sorted ys)
end Go.AL
namespace Go.Proofs.YtcaecieigoplbaaGreat
open Go.AL

set_option maxHeartbeats 1000000 in
theorem sPoly_io (V : Nat) (xs : List ME) (clock : Nat) (m : MOk V xs clock) (hV : V ≤ 32) (hl : xs.length ≤ 1000000000) (res : Res) (bx' : List (AL.Id × Bx))
  (hr1 : OkP ⟨V, sortT (xs.map (tmM V))⟩ → res = .ret (aP ⟨V, sortT (xs.map (tmM V))⟩) ∧ bx' = smB V xs clock)
  (hr2 : ¬ OkP ⟨V, sortT (xs.map (tmM V))⟩ → res = .thr (thrown 4) ∧ bx' = smB V xs clock) :
  IoFn Tryz.prog 222 [.ptr 900 0] (smB V xs clock) res bx' := by
 have hb' : bx' = smB V xs clock := (Classical.em (OkP ⟨V, sortT (xs.map (tmM V))⟩)).elim (fun h => (hr1 h).2) (fun h => (hr2 h).2);subst hb';refine IoFn.of_body Tryz.func222 rfl Tryz.ntmps222 rfl rfl rfl ?_;refine AWP.seqS ?_;(repeat' (first |apply qn |apply qr |refine qe ?_|fail));refine ⟨?_⟩;refine AWP.seqS ?_;(repeat' (first |refine qv ?_ |apply qn |apply qr |refine qe ?_|fail));refine ⟨?_⟩;refine AWP.ent (Ent.nilcell 3 1 703 rfl rfl rfl 3 eT 124) ?_;refine AWP.seq ?_;refine AWP.seq ?_;(repeat' (first |refine qv ?_ |apply qr));refine Fl.range rfl rfl rfl rfl rfl rfl rfl rfl ?_;(repeat' (first |apply qn |apply qb));refine AWP.loop (G := List ME) (fun ys => (ys.map (·.2.2)).Nodup ∧ ∀ p ∈ ys, p ∈ xs) (fun ys => St.of [900, 901] [(0, .ptr 900 0), (2, .ptr 2 0), (3, .ptr 3 0), (15, .ptr 15 0)] [(900, .cells [aN V, .mp 901] 216), (901, bM xs clock), (2, .cells [aN 0, .v (.slice none 0 0)] 70), (3, .cells [aN V, .row 700] 70), (700, .row 3 eT (ys.map (tmM V)) 124), (15, .iter 901 clock (ys.map (·.2.2)) clock)]) (fun ys => xs.length - ys.length) [] ⟨by simp, by simp⟩ ?_ ?_
 ·refine Ent.of [(700, 703)] ?_ ?_ rfl rfl;(repeat' (first |exact True.intro |refine ⟨⟨AV.Le.refl _, rfl⟩, ?_⟩ |refine ⟨⟨⟨_, rfl, BLe.cells (LeL.refl _)⟩, rfl⟩, ?_⟩ |refine ⟨⟨⟨_, rfl, BLe.row rfl⟩, rfl⟩, ?_⟩ |refine ⟨⟨⟨_, rfl, BLe.map rfl rfl⟩, rfl⟩, ?_⟩ |refine ⟨⟨⟨_, rfl, BLe.iter rfl rfl rfl rfl⟩, rfl⟩, ?_⟩|fail))
 ·intro ys ⟨k0, k1⟩;obtain ⟨q1, q2⟩ := seen_perm ys xs m.nd k0 k1;refine AWP.seq ?_;refine AWP.next rfl rfl rfl rfl rfl rfl rfl rfl rfl rfl rfl m.lt (fun hall => ?_) (fun p hp hps => ?_)
  ·have hperm := (q2 hall).map (tmM V);have hse := sortT_perm_eq m.parts hperm;have hl2 := q1;(repeat' (first |refine qv ?_ |apply qs |apply qr |refine AWP.condF rfl ?_ |apply qx));refine Fl.io rfl [(900, 700)] (sort_ok V (by omega) (ys.map (tmM V)) (fun t ht => m.eok t (hperm.mem_iff.1 ht)) ((List.Perm.pairwise_iff (fun h => Ne.symm h) hperm).2 m.parts) (by simp; omega) _) rfl rfl (LeL.refl _) rfl ⟨⟨⟨_, rfl, BLe.row rfl⟩, rfl⟩, trivial⟩ rfl rfl rfl rfl rfl ?_;refine Fl.nilF ?_;rw [hse];refine AWP.ent (Ent.freeze 700 rfl) ?_;(repeat' (first |refine qv ?_ |apply qs |apply qr))
   have hW : WP ⟨V, sortT (xs.map (tmM V))⟩ := by
    intro t ht;obtain ⟨p, hp, rfl⟩ := List.mem_map.1 ((sortT_perm _).mem_iff.1 ht);exact toW_ok _
   by_cases hok : OkP ⟨V, sortT (xs.map (tmM V))⟩
   ·obtain ⟨rfl, _⟩ := hr1 hok;refine qc (pValid_ok ⟨V, sortT (xs.map (tmM V))⟩ hW true (by simp [hok])) ?_;(repeat' (first |refine qv ?_ |apply qn |apply qs |apply qr |refine qe ?_ |refine AWP.condF rfl ?_ |apply qk |apply qt));exact ⟨⟨[], _, _, Ent.refl _ _ _, rfl, AV.Le.refl _, rfl, ⟨⟨⟨_, rfl, BLe.cells (LeL.refl _)⟩, rfl⟩, ⟨⟨_, rfl, BLe.map rfl rfl⟩, rfl⟩, trivial⟩, rfl, rfl⟩⟩
   ·obtain ⟨rfl, _⟩ := hr2 hok;refine qc (pValid_ok ⟨V, sortT (xs.map (tmM V))⟩ hW false (by simp [hok])) ?_;(repeat' (first |refine qv ?_ |apply qn |apply qr |refine AWP.condT rfl ?_));exact Fl.thrC rfl [] (Throw_ok 4) rfl (LeL.refl _) rfl trivial rfl (fun _ => by kernel_rfl) (fun _ => rfl)
  ·obtain ⟨e, he, hpe, hel, heo⟩ := m.exp p hp;have h32 := p.1.2
   have htl : (p.1.1.take V).length = V := by rw [List.length_take]; omega
   have hlt : ys.length < xs.length := by
    have := (seen_perm (ys ++ [p]) xs m.nd (by rw [List.map_append, List.nodup_append]; exact ⟨k0, by simp, fun a ha b hb => by simp at hb; subst hb; exact fun e => hps (e ▸ ha)⟩) (fun q hq => by rcases List.mem_append.1 hq with h | h; exact k1 q h; simp at h; exact h ▸ hp)).1;simp at this; omega
   refine AWP.seqS ?_;(repeat' (first |refine AWP.condT rfl ?_ |apply qk));refine ⟨?_⟩;refine AWP.block ?_;refine AWP.seqS ?_;(repeat' (first |apply qr));refine Fl.entry rfl rfl rfl rfl key_law.back (fun _ => rfl) hp rfl m.nd rfl rfl ?_;(repeat' (first |refine qv ?_ |apply qn |refine qe ?_|fail));refine ⟨?_⟩;refine AWP.ent (Ent.freezeC 4 4 rfl rfl rfl rfl) ?_;(repeat' (first |refine qv ?_ |apply qr));refine Fl.cutArr rfl rfl rfl rfl rfl rfl rfl rfl rfl (by omega) (by omega) (keyC_take p.1 V) (by omega) (fun _ => rfl) rfl rfl ?_;skip;refine qc (cloneI_ok (p.1.1.take V) (by omega)) ?_;(repeat' (first |refine qe ?_|fail));refine ql eT [tmM V p] ?_;skip;refine qa (hby := (by dsimp only [List.length_nil, List.length_cons]; simp; omega)) (hm := (by simp; omega)) (r := ?_);(repeat' (first |refine qv ?_ |refine Fl.nil (fun _ => by kernel_rfl) ?_ |refine qe ?_|fail));refine LoopEnd.of (ys ++ [p]) ⟨?_, ?_⟩ (by simp; omega) ?_
   ·rw [List.map_append, List.nodup_append]; exact ⟨k0, by simp, fun a ha b hb => by simp at hb; subst hb; exact fun e => hps (e ▸ ha)⟩
   ·intro q hq;rcases List.mem_append.1 hq with h | h
    ·exact k1 q h
    ·simp at h; exact h ▸ hp
   ·refine Ent.of [(700, 32)] ?_ ?_ rfl rfl;(repeat' (first |exact True.intro |refine ⟨⟨AV.Le.refl _, rfl⟩, ?_⟩ |refine ⟨⟨⟨_, rfl, BLe.cells (LeL.refl _)⟩, rfl⟩, ?_⟩ |refine ⟨⟨⟨_, rfl, BLe.map rfl rfl⟩, rfl⟩, ?_⟩ |refine ⟨⟨⟨_, rfl, BLe.iter rfl rfl ?_ rfl⟩, rfl⟩, ?_⟩ |refine ⟨⟨⟨_, rfl, BLe.row ?_⟩, rfl⟩, ?_⟩|fail))
    all_goals simp
end Go.Proofs.YtcaecieigoplbaaGreat

/- Part 4 of a proof layer and of the contracts of the functions. -/
import Derived.ProofKit
import Derived.OpenShut
import Derived.Carry
import Derived.ChangeSame
import Derived.ReadAgain
import Derived.Test.YtcaecieigoplbaaGreatRows
import Derived.Shelf.SlSortCmp.WholeK
import Derived.Test.YtcaecieigoplbaaGreatProg
import Derived.Maps.RangeRun
import Derived.Shelf.SlSortCmp.NoneTotal
import Derived.ChangeKeysEq
import Derived.Test.YtcaecieigoplbaaGreatW3
set_option linter.unusedVariables false
set_option linter.unusedSimpArgs false
namespace Go.Proofs.YtcaecieigoplbaaGreat
open Go.AL
theorem rminus_ok (A B : List Int) (wA : WOk A) (wB : WOk B) (hA : A.length ≤ 50000) (hlB : B.length ≤ A.length) (hle : val B ≤ val A) : PureFn Tryz.prog 111 [aW A, aW B] (aW (padW A.length (val A - val B))) := by
 refine PureFn.of_body Tryz.func111 rfl Tryz.ntmps111 rfl rfl ?_;(repeat' (first |refine qv ?_ |apply qn |apply qs |apply qr |apply qb |refine Fl.make rfl rfl rfl rfl rfl rfl rfl rfl rfl rfl eW 0 (by exact LeL.refl _) (by rfl) (by first | omega | (dsimp only; omega)) (by first | omega | (dsimp only; omega)) (by first | omega | (dsimp only; omega)) ?_|fail));refine AWP.loop (G := List Int × Int) (fun (os, c) => os.length ≤ A.length ∧ WOk os ∧ 0 ≤ c ∧ c ≤ 1 ∧ val os = val (A.take os.length) - val (B.take os.length) + BB os.length * c)
  (fun (os, c) => St.of [] [(0, aW A), (1, aW B), (5, .row 11), (6, aU c), (7, aN os.length)] [(11, .row 1 eW (os ++ List.replicate (A.length - os.length) 0) 62)])
  (fun (os, c) => A.length - os.length) ([], 0) ⟨by simp, WOk.nil, by omega, by omega, by simp [val, BB]⟩ ?_ ?_
 ·refine Ent.of [] ?_ ?_ rfl rfl;(repeat' (first |exact True.intro |refine ⟨⟨AV.Le.refl _, rfl⟩, ?_⟩ |refine ⟨⟨⟨_, rfl, BLe.row rfl⟩, rfl⟩, ?_⟩|fail))
 ·intro ⟨os, c⟩ ⟨h0, h1, h2, h3, h4⟩
  have hl : (os ++ List.replicate (A.length - os.length) 0).length = A.length := by simp; omega
  (repeat' (first |refine qv ?_ |apply qn |apply qs |apply qr |refine qw ?_ |(refine AWP.condD rfl ?_ ?_ <;> intro _ <;> try (exfalso; omega)) |apply qb |apply qk |apply qx |apply qt |(refine Fl.elW rfl rfl rfl rfl rfl rfl rfl rfl (by omega) (by omega) (by assumption) ?_; intro _ _ _ _) |refine Fl.rel rfl rfl rfl rfl rfl rfl rfl rfl (by omega) (by first | omega | (simp; omega)) ?_ |refine Fl.rst rfl rfl rfl rfl rfl rfl rfl rfl rfl rfl rfl (LeL.refl _) rfl (by first | omega | (simp; omega)) ?_ |refine Fl.sumM rfl rfl rfl rfl rfl rfl ?_))
  ·rename_i hi u hu hu0 hu1 hiB v hv hv0 hv1;rw [Int.toNat_natCast] at hu hv;have hstep := minus_step (p := (u + 4294967296 - c - v) % 4294967296) (q := 1 - (u + 4294967296 - c - v) / 4294967296) hu (val_take_succ hv) h4 (by omega);refine LoopEnd.of (os ++ [(u + 4294967296 - c - v) % 4294967296], 1 - (u + 4294967296 - c - v) / 4294967296) ⟨by simp; omega, h1.append (WOk.cons (by omega) (by omega) WOk.nil), by omega, by omega, by rw [List.length_append]; exact hstep⟩ (by simp only [List.length_append, List.length_cons, List.length_nil]; omega) ?_;refine Ent.of [] ?_ ?_ rfl rfl;(repeat' (first |exact True.intro |refine ⟨⟨AV.Le.refl _, rfl⟩, ?_⟩ |refine ⟨⟨⟨_, rfl, BLe.row ?_⟩, rfl⟩, ?_⟩ |refine ⟨⟨AV.Le.int ?_, rfl⟩, ?_⟩|fail))
   all_goals first
    | exact set_rep (by simp) (by simp; omega) (by rw [bitN_and32 (by omega)]; omega)
    | (rw [p32]; omega)
    | (simp; done)
  ·rename_i hi u hu hu0 hu1 hiB;rw [Int.toNat_natCast] at hu;have hstep := minus_step (p := (u + 4294967296 - c - 0) % 4294967296) (q := 1 - (u + 4294967296 - c - 0) / 4294967296) hu (val_take_end (by omega)) h4 (by omega);refine LoopEnd.of (os ++ [(u + 4294967296 - c - 0) % 4294967296], 1 - (u + 4294967296 - c - 0) / 4294967296) ⟨by simp; omega, h1.append (WOk.cons (by omega) (by omega) WOk.nil), by omega, by omega, by rw [List.length_append]; exact hstep⟩ (by simp only [List.length_append, List.length_cons, List.length_nil]; omega) ?_;refine Ent.of [] ?_ ?_ rfl rfl;(repeat' (first |exact True.intro |refine ⟨⟨AV.Le.refl _, rfl⟩, ?_⟩ |refine ⟨⟨⟨_, rfl, BLe.row ?_⟩, rfl⟩, ?_⟩ |refine ⟨⟨AV.Le.int ?_, rfl⟩, ?_⟩|fail))
   all_goals first
    | exact set_rep (by simp) (by simp; omega) (by rw [bitN_and32 (by omega)]; omega)
    | (rw [p32]; omega)
    | (simp; done)
  ·rename_i hi
   have hlen : os.length = A.length := by omega
   rw [hlen, List.take_of_length_le (by omega), List.take_of_length_le (by omega)] at h4;refine RetOk.ent (Ent.freeze 11 rfl) ?_;refine RetOk.of rfl (AV.Le.sl ?_);have b7 := val_lt h1;rw [hlen] at b7
   have hc : c = 0 := by
    have : c = 0 ∨ c = 1 := by omega
    rcases this with h | h
    ·exact h
    ·subst h; omega
   subst hc;rw [hlen, Nat.sub_self, List.replicate_zero, List.append_nil, padW_of h1, hlen];congr 1;omega
theorem rMul_ok (x y : Int) (hxl : (toW x.natAbs).length ≤ 40000) (hyl : (toW y.natAbs).length ≤ 40000) : PureFn Tryz.prog 103 [aX x, aX y] (aX (x * y)) := by
 refine PureFn.of_body Tryz.func103 rfl Tryz.ntmps103 rfl rfl ?_;have wx := toW_ok x.natAbs;have wy := toW_ok y.natAbs;have hsx := val_toW (show 0 ≤ (x.natAbs : Int) by omega);have hsy := val_toW (show 0 ≤ (y.natAbs : Int) by omega);delta aX
 generalize toW x.natAbs = A at *
 generalize toW y.natAbs = B at *
 (repeat' (first |refine qv ?_ |apply qn |apply qs |apply qr |refine qw ?_ |refine qe ?_ |apply qb |refine Fl.make rfl rfl rfl rfl rfl rfl rfl rfl rfl rfl eW 0 (by exact LeL.refl _) (by rfl) (by first | omega | (dsimp only; omega)) (by first | omega | (dsimp only; omega)) (by first | omega | (dsimp only; omega)) ?_|fail));refine AWP.loop (G := Nat × List Int) (fun (i, os) => i ≤ A.length ∧ os.length = i + B.length ∧ WOk os ∧ val os = val (A.take i) * val B)
  (fun (i, os) => St.of [] [(2, .ptr 2 0), (3, .ptr 3 0), (4, .ptr 4 0), (5, .row 16), (6, aN i)] [(2, .cells [aB (decide (x < 0)), aW A] 35), (3, .cells [aB (decide (y < 0)), aW B] 35), (4, .cells [aB false, .v (.slice none 0 0)] 35), (16, .row 1 eW (os ++ List.replicate (A.length - i) 0) 62)])
  (fun (i, os) => A.length - i) (0, List.replicate B.length 0) ⟨by omega, by simp, WOk.zeros _, by simp [val, val_zeros]⟩ ?_ ?_
 ·refine Ent.of [] ?_ ?_ rfl rfl;(repeat' (first |exact True.intro |refine ⟨⟨AV.Le.refl _, rfl⟩, ?_⟩ |refine ⟨⟨⟨_, rfl, BLe.cells (LeL.refl _)⟩, rfl⟩, ?_⟩ |refine ⟨⟨⟨_, rfl, BLe.row ?_⟩, rfl⟩, ?_⟩|fail));rw [List.replicate_append_replicate]; congr 1; omega
 ·intro ⟨i, os⟩ ⟨h0, h1, h2, h3⟩;(repeat' (first |refine qv ?_ |apply qn |apply qs |apply qr |(refine AWP.condD rfl ?_ ?_ <;> intro _ <;> try (exfalso; omega)) |apply qb |apply qk |apply qx))
  ·rename_i hi;obtain ⟨u, hu⟩ : ∃ u, A[i]? = some u := ⟨_, List.getElem?_eq_getElem (by omega)⟩;obtain ⟨hu0, hu1⟩ := wx.get hu;obtain ⟨D, hD⟩ : ∃ D, D = os ++ List.replicate (A.length - i) 0 := ⟨_, rfl⟩
   have hDl : D.length = A.length + B.length := by rw [hD, List.length_append, List.length_replicate]; omega
   have hDw : WOk D := by rw [hD]; exact h2.append (WOk.zeros _)
   refine AWP.loop (G := Nat × List Int × Int) (fun (k, ps, c) => k ≤ B.length ∧ ps.length = i + k ∧ WOk ps ∧ WOk (ps ++ D.drop ps.length) ∧ 0 ≤ c ∧ c < 4294967296 ∧ val ps + BB ps.length * c = val (D.take ps.length) + BB i * (u * val (B.take k)))
    (fun (k, ps, c) => St.of [] [(2, .ptr 2 0), (3, .ptr 3 0), (4, .ptr 4 0), (5, .row 16), (6, aN i), (7, aU c), (8, aN k)] [(2, .cells [aB (decide (x < 0)), aW A] 35), (3, .cells [aB (decide (y < 0)), aW B] 35), (4, .cells [aB false, .v (.slice none 0 0)] 35), (16, .row 1 eW (ps ++ D.drop ps.length) 62)])
    (fun (k, ps, c) => B.length - k) (0, D.take i, 0) ⟨by omega, by rw [List.length_take]; omega, hDw.take i, by rw [List.length_take, Nat.min_eq_left (by omega), List.take_append_drop]; exact hDw, by omega, by omega, by rw [List.length_take, Nat.min_eq_left (by omega)]; simp [val]⟩ ?_ ?_
   ·refine Ent.of [] ?_ ?_ rfl rfl;(repeat' (first |exact True.intro |refine ⟨⟨AV.Le.refl _, rfl⟩, ?_⟩ |refine ⟨⟨⟨_, rfl, BLe.cells (LeL.refl _)⟩, rfl⟩, ?_⟩ |refine ⟨⟨⟨_, rfl, BLe.row ?_⟩, rfl⟩, ?_⟩|fail));rw [List.length_take, Nat.min_eq_left (by omega), List.take_append_drop, hD]
   ·intro ⟨k, ps, c⟩ ⟨k0, k1, k2, k3, k4, k5, k6⟩
    have hkl : (ps ++ D.drop ps.length).length = A.length + B.length := by rw [List.length_append, List.length_drop]; omega
    (repeat' (first |refine qv ?_ |apply qn |refine Fl.nil (fun _ => by kernel_rfl) ?_ |apply qs |apply qr |refine qw ?_ |(refine Fl.mulW rfl rfl rfl rfl rfl (by omega) (by omega) (by omega) (by omega) ?_; intro _ _) |(refine AWP.condD rfl ?_ ?_ <;> intro _ <;> try (exfalso; omega)) |apply qb |apply qk |apply qx |refine qK ?_ |(refine Fl.elW rfl rfl rfl rfl rfl rfl rfl rfl (by omega) (by omega) (by assumption) ?_; intro _ _ _ _) |refine Fl.rel rfl rfl rfl rfl rfl rfl rfl rfl (by omega) (by first | omega | (simp; omega)) ?_ |(refine Fl.rldW rfl rfl rfl rfl rfl rfl rfl (fun _ => rfl) (fun _ => rfl) (by first | omega | (simp; omega)) (by assumption) ?_; intro _ _ _ _) |refine Fl.rst rfl rfl rfl rfl rfl rfl rfl rfl rfl rfl rfl (LeL.refl _) rfl (by first | omega | (simp; omega)) ?_|fail))
    ·rename_i hk v hv hv0 hv1 hp0 hp1 w hw hw0 hw1;rw [Int.toNat_natCast] at hv
     have hw2 : D[ps.length]? = some w := by rw [← get_drop (os := ps) (k := (↑i + ↑k : Int).toNat) (by omega)]; exact hw
     have hstep := times_step k1 hw2 hv k6 rfl;refine LoopEnd.of (k + 1, ps ++ [(c + (u * v + w)) % 4294967296], (c + (u * v + w)) / 4294967296) ⟨by omega, by rw [List.length_append, k1]; rfl, k2.append (WOk.cons (by omega) (by omega) WOk.nil), ?_, by omega, by omega, by rw [List.length_append]; exact hstep⟩ (by simp only; omega) ?_
     ·rw [List.length_append];exact (k2.append (WOk.cons (by omega) (by omega) WOk.nil)).append (hDw.drop _)
     ·refine Ent.of [] ?_ ?_ rfl rfl;(repeat' (first |exact True.intro |refine ⟨⟨AV.Le.refl _, rfl⟩, ?_⟩ |refine ⟨⟨⟨_, rfl, BLe.cells (LeL.refl _)⟩, rfl⟩, ?_⟩ |refine ⟨⟨⟨_, rfl, BLe.row ?_⟩, rfl⟩, ?_⟩|fail))
      all_goals first
       | (rw [List.length_append]; exact set_drop (by omega) (by omega) (by rw [bitN_and32 (by omega)]; omega))
       | (rw [p32]; omega)
    ·rename_i hk
     have hkk : k = B.length := by omega
     refine LoopEnd.of (i + 1, ps ++ [c]) ⟨by omega, by simp; omega, k2.append (WOk.cons k4 k5 WOk.nil), ?_⟩ (by simp only; omega) ?_
     ·rw [val_snoc, k6, val_take_succ hu, show ps.length = os.length by omega, hD, List.take_left, h3, hkk, List.take_length];grind
     ·refine Ent.of [] ?_ ?_ rfl rfl;(repeat' (first |exact True.intro |refine ⟨⟨AV.Le.refl _, rfl⟩, ?_⟩ |refine ⟨⟨⟨_, rfl, BLe.cells (LeL.refl _)⟩, rfl⟩, ?_⟩ |refine ⟨⟨⟨_, rfl, BLe.row ?_⟩, rfl⟩, ?_⟩|fail));rw [show D.drop ps.length = List.replicate (A.length - i) 0 by rw [hD, show ps.length = os.length by omega, List.drop_left]];exact set_rep (by omega) (by omega) (by omega)
  ·rename_i hi
   have hii : i = A.length := by omega
   refine Fl.callF rfl 16 rfl (rMake_ok _ os h2 (by omega)) rfl rfl rfl (LeL.cons (AV.Le.refl _) (LeL.cons (AV.Le.sl ?_) LeL.nil)) ?_
   ·rw [hii, Nat.sub_self]; simp
   (repeat' (first |apply qn |refine qe ?_ |apply qt));refine RetOk.of rfl (AV.Le.agg (leX (σ := []) ?_));rw [h3, hii, List.take_length, hsx, hsy, ← sg_mul x y]
theorem rAdd_ok (x y : Int) (hxl : (toW x.natAbs).length ≤ 40000) (hyl : (toW y.natAbs).length ≤ 40000) : PureFn Tryz.prog 44 [aX x, aX y] (aX (x + y)) := by
 refine PureFn.of_body Tryz.func44 rfl Tryz.ntmps44 rfl rfl ?_;have wx := toW_ok x.natAbs;have wy := toW_ok y.natAbs;have hsx := val_toW (show 0 ≤ (x.natAbs : Int) by omega);have hsy := val_toW (show 0 ≤ (y.natAbs : Int) by omega);have bx := val_lt wx;have by' := val_lt wy;have hord := rorder_ok x.natAbs y.natAbs (by omega) (by omega) (by omega) (by omega)
 have hlen : ∀ a b : Int, 0 ≤ b → b ≤ a → (toW b).length ≤ (toW a).length := fun a b hb h => by
  rcases Nat.lt_or_ge (toW a).length (toW b).length with k | k
  ·have := toW_len_lt (by omega) hb k; omega
  ·exact k
 (repeat' (first |refine qv ?_ |apply qn |apply qs |apply qr |refine qe ?_ |(refine AWP.condD rfl ?_ ?_ <;> intro _ <;> try (exfalso; omega)) |apply qk))
 ·rename_i hsg;rw [decide_eq_decide] at hsg;obtain ⟨N, hN⟩ : ∃ N : Nat, N = (if (toW y.natAbs).length > (toW x.natAbs).length then (toW y.natAbs).length else (toW x.natAbs).length) + 1 := ⟨_, rfl⟩;refine Fl.call rfl (rplus_ok _ _ wx wy (by omega) (by omega) N hN) rfl rfl rfl (LeL.refl _) ?_;skip;refine Fl.call rfl (rMake_ok (decide (x < 0)) _ (padW_ok _ _) (by rw [padW_len]; split at hN <;> omega)) rfl rfl rfl (LeL.refl _) ?_;(repeat' (first |refine Fl.nil (fun _ => by kernel_rfl) ?_ |refine qe ?_ |apply qt));refine RetOk.of rfl (AV.Le.agg (leX (σ := []) ?_));have b3 := BB_le (show (toW x.natAbs).length ≤ N - 1 by split at hN <;> omega);have b4 := BB_le (show (toW y.natAbs).length ≤ N - 1 by split at hN <;> omega)
  have b5 : BB N = 4294967296 * BB (N - 1) := by rw [← BB_succ]; congr 1; omega
  have b6 := BB_pos (N - 1);rw [padW_val (by omega) (by omega), hsx, hsy];simp only [sg]; simp; split <;> omega
 ·rename_i hsg;rw [decide_eq_decide] at hsg;refine qc (hord) ?_;(repeat' (first |refine qv ?_ |apply qn |apply qs |apply qr |(refine AWP.condD rfl ?_ ?_ <;> intro _ <;> try (exfalso; omega)) |apply qk))
  ·rename_i hge
   have hge2 : (y.natAbs : Int) ≤ x.natAbs := by unfold cmpI at hge; split at hge <;> omega
   refine Fl.call rfl (rminus_ok _ _ wx wy (by omega) (hlen _ _ (by omega) hge2) (by omega)) rfl rfl rfl (LeL.refl _) ?_;skip;refine Fl.call rfl (rMake_ok (decide (x < 0)) _ (padW_ok _ _) (by rw [padW_len]; omega)) rfl rfl rfl (LeL.refl _) ?_;(repeat' (first |refine Fl.nil (fun _ => by kernel_rfl) ?_ |refine qe ?_ |apply qt));refine RetOk.of rfl (AV.Le.agg (leX (σ := []) ?_));rw [padW_val (by omega) (by omega), hsx, hsy];simp only [sg]; simp; split <;> omega
  ·rename_i hge
   have hge2 : (x.natAbs : Int) ≤ y.natAbs := by
    unfold cmpI at hge;split at hge
    ·omega
    ·split at hge <;> omega
   refine Fl.call rfl (rminus_ok _ _ wy wx (by omega) (hlen _ _ (by omega) hge2) (by omega)) rfl rfl rfl (LeL.refl _) ?_;skip;refine Fl.call rfl (rMake_ok (decide (y < 0)) _ (padW_ok _ _) (by rw [padW_len]; omega)) rfl rfl rfl (LeL.refl _) ?_;(repeat' (first |refine Fl.nil (fun _ => by kernel_rfl) ?_ |refine qe ?_ |apply qt));refine RetOk.of rfl (AV.Le.agg (leX (σ := []) ?_));rw [padW_val (by omega) (by omega), hsx, hsy];simp only [sg]; simp; split <;> omega
end Go.Proofs.YtcaecieigoplbaaGreat
namespace Go.AL
def lenI (x : Int) : Nat := (toW x.natAbs).length
theorem lenI_le {x : Int} {n : Nat} : lenI x ≤ n ↔ (x.natAbs : Int) < BB n := toW_len_le (by omega) n
theorem lenI_lt (x : Int) : (x.natAbs : Int) < BB (lenI x) := lenI_le.1 (Nat.le_refl _)
theorem lenI_mul (x y : Int) : lenI (x * y) ≤ lenI x + lenI y := by
 rw [lenI_le, Int.natAbs_mul, BB_add, Int.natCast_mul];have h1 := lenI_lt x;have h2 := lenI_lt y;have p1 := BB_pos (lenI x);have p2 := BB_pos (lenI y);have e1 : (x.natAbs : Int) * y.natAbs ≤ x.natAbs * BB (lenI y) := Int.mul_le_mul_of_nonneg_left (by omega) (by omega);have e2 : (x.natAbs : Int) * BB (lenI y) < BB (lenI x) * BB (lenI y) := Int.mul_lt_mul_of_pos_right h1 p2;omega
theorem lenI_mulpow (v x : Int) : ∀ n : Nat, lenI (v * x ^ n) ≤ lenI v + n * lenI x
 | 0 => by simp
 | n + 1 => by
  rw [Int.pow_succ, ← Int.mul_assoc];have h1 := lenI_mul (v * x ^ n) x;have h2 := lenI_mulpow v x n
  have : (n + 1) * lenI x = n * lenI x + lenI x := by rw [Nat.add_mul]; omega
  omega
def loadE : List Int → List Int → Nat
  | x :: X, e :: E => e.toNat * lenI x + loadE X E
  | _, _ => 0
theorem loadE_take : ∀ (X E : List Int) (k : Nat), loadE (X.take k) (E.take k) ≤ loadE X E
 | [], E, k => by simp [loadE]
 | _ :: _, [], k => by simp [loadE]
 | x :: X, e :: E, 0 => by simp [loadE]
 | x :: X, e :: E, k + 1 => by simp only [List.take_succ_cons, loadE]; have := loadE_take X E k; omega
theorem loadE_snoc : ∀ {X E : List Int} {k : Nat} {x e : Int}, X[k]? = some x → E[k]? = some e → loadE (X.take (k + 1)) (E.take (k + 1)) = loadE (X.take k) (E.take k) + e.toNat * lenI x
 | [], _, _, _, _, h, _ => by simp at h
 | _ :: _, [], _, _, _, _, h => by simp at h
 | y :: X, d :: E, 0, x, e, h1, h2 => by simp at h1 h2; subst h1 h2; simp [loadE]
 | y :: X, d :: E, k + 1, x, e, h1, h2 => by
  simp only [List.take_succ_cons, loadE];rw [loadE_snoc (X := X) (E := E) (k := k) (by simpa using h1) (by simpa using h2)]; omega
theorem lenI_prodE (c : Int) : ∀ (X E : List Int), lenI (c * prodE X E) ≤ lenI c + loadE X E
 | [], E => by simp [prodE, loadE]
 | _ :: _, [] => by simp [prodE, loadE]
 | x :: X, e :: E => by
  simp only [prodE, loadE];rw [← Int.mul_assoc];have h1 := lenI_prodE (c * x ^ e.toNat) X E;have h2 := lenI_mulpow c x e.toNat;omega
def TS (X : List Int) (l : List TZ) : Int := sumL (l.map (tv X))
def AS (X : List Int) (l : List TZ) : Int := sumL (l.map fun t => ((tv X t).natAbs : Int))
theorem TS_succ {X : List Int} {l : List TZ} {i : Nat} {t : TZ} (h : l[i]? = some t) : TS X (l.take (i + 1)) = TS X (l.take i) + tv X t := by
 unfold TS; rw [List.map_take, List.map_take]; exact sumL_take_succ (by rw [List.getElem?_map, h]; rfl)
theorem AS_succ {X : List Int} {l : List TZ} {i : Nat} {t : TZ} (h : l[i]? = some t) : AS X (l.take (i + 1)) = AS X (l.take i) + ((tv X t).natAbs : Int) := by
 unfold AS; rw [List.map_take, List.map_take]; exact sumL_take_succ (by rw [List.getElem?_map, h]; rfl)
theorem AS_take (X : List Int) (l : List TZ) (i : Nat) : 0 ≤ AS X (l.take i) ∧ AS X (l.take i) ≤ AS X l := by
 unfold AS; rw [List.map_take];refine sumL_take_le (fun x hx => ?_) i;obtain ⟨t, _, rfl⟩ := List.mem_map.1 hx;show (0 : Int) ≤ ((tv X t).natAbs : Int);omega
theorem TS_eq (X : List Int) (p : PZ) : TS X p.terms = pv X p := by
 unfold pv PS OS TS
 induction p.terms with
 | nil => rfl
 | cons t l ih =>
  simp only [List.map_cons, sumL]
  have : tv X t = plI (tv X t) + opI (tv X t) := by unfold plI opI; split <;> omega
  omega
theorem TS_le (X : List Int) : ∀ l : List TZ, (TS X l).natAbs ≤ (AS X l).natAbs ∧ 0 ≤ AS X l
 | [] => by simp [TS, AS, sumL]
 | t :: l => by
  have := TS_le X l;simp only [TS, AS, List.map_cons, sumL] at this ⊢;omega
theorem AS_lt {X : List Int} {B : Int} (hB : 0 < B) : ∀ {l : List TZ}, (∀ t ∈ l, ((tv X t).natAbs : Int) < B) → AS X l ≤ l.length * B
 | [], _ => by simp [AS, sumL]
 | t :: l, h => by
  have h1 := AS_lt hB (l := l) fun t ht => h t (by simp [ht]);have h2 := h t (by simp);simp only [AS, List.map_cons, sumL, List.length_cons] at h1 ⊢
  have : ((l.length + 1 : Nat) : Int) * B = l.length * B + B := by rw [Int.natCast_add, Int.add_mul]; omega
  omega
theorem AS_len {X : List Int} {l : List TZ} {M : Nat} (hl : l.length ≤ 3000) (h : ∀ t ∈ l, lenI (tv X t) ≤ M) (i : Nat) : lenI (AS X (l.take i)) ≤ M + 1 ∧ lenI (TS X (l.take i)) ≤ M + 1 := by
 have hb : ∀ t ∈ l.take i, ((tv X t).natAbs : Int) < BB M := fun t ht => lenI_le.1 (h t (List.mem_of_mem_take ht));have h1 := AS_lt (BB_pos M) hb;have h2 := TS_le X (l.take i)
 have h3 : ((l.take i).length : Int) ≤ 3000 := by rw [List.length_take]; omega
 have h4 : ((l.take i).length : Int) * BB M ≤ 3000 * BB M := Int.mul_le_mul_of_nonneg_right h3 (by have := BB_pos M; omega);have h5 := BB_succ M;have h6 := BB_pos M;constructor
 ·rw [lenI_le]; omega
 ·rw [lenI_le]; omega
end Go.AL
namespace Go.Proofs.YtcaecieigoplbaaGreat
open Go.AL
set_option maxHeartbeats 1000000 in
theorem rEval_ok (p : PZ) (X : List Int) (hw : WP p) (hp : OkP p) (hl : (X.length : Int) = p.vars) (M : Nat) (hM : M ≤ 30000) (hload : ∀ t ∈ p.terms, lenI (zval t.c) + loadE X t.e ≤ M) : PureFn Tryz.prog 57 [aP p, .sl 2 eX X] (.tup [aX (TS X p.terms), aB (!decide (Fit (AS X p.terms)))]) := by
 refine PureFn.of_body Tryz.func57 rfl Tryz.ntmps57 rfl rfl ?_;have hv0 := hp.v0;have hv1 := hp.v1;have hlen := hp.len;have htl : ∀ t ∈ p.terms, lenI (tv X t) ≤ M := fun t ht => Nat.le_trans (lenI_prodE _ _ _) (hload t ht);have hsl := AS_len (X := X) hlen htl;(repeat' (first |refine qv ?_ |apply qn |apply qs |apply qr |refine qe ?_ |apply qb));refine AWP.loop (G := Nat) (fun i => i ≤ p.terms.length) (fun i => St.of [] [(1, .sl 2 eX X), (2, .ptr 2 0), (4, .ptr 4 0), (6, .ptr 6 0), (7, .ptr 7 0), (8, aB (!decide (Fit (AS X (p.terms.take i))))), (9, aN i)] [(2, .cells (eP p) 70), (4, .cells [aB false, .v (.slice none 0 0)] 35), (6, .cells (eX (TS X (p.terms.take i))) 35), (7, .cells (eX (AS X (p.terms.take i))) 35)]) (fun i => p.terms.length - i) 0 (by omega) ?_ ?_
 ·refine Ent.of [] ?_ ?_ rfl rfl;(repeat' (first |exact True.intro |refine ⟨⟨AV.Le.refl _, rfl⟩, ?_⟩ |refine ⟨⟨⟨_, rfl, BLe.cells (LeL.refl _)⟩, rfl⟩, ?_⟩ |refine ⟨⟨⟨_, rfl, BLe.cells ?_⟩, rfl⟩, ?_⟩ |refine ⟨⟨AV.Le.bool ?_, rfl⟩, ?_⟩|fail))
  ·simp [AS, sumL, Fit.zero]
  ·exact leX_zero (by simp [TS, sumL])
  ·exact leX_zero (by simp [AS, sumL])
 ·intro i k0;(repeat' (first |refine qv ?_ |apply qn |apply qs |apply qr |refine qe ?_ |(refine AWP.condD rfl ?_ ?_ <;> intro _ <;> try (exfalso; omega)) |apply qb |apply qk |apply qx |apply qt |(refine Fl.el rfl rfl rfl rfl rfl rfl rfl rfl (by omega) (by omega) ?_; intro _ _)|fail))
  ·rename_i hi t ht;rw [Int.toNat_natCast] at ht;have htm := List.mem_of_getElem? ht;have hot := hp.terms t htm
   have hte : t.e.length = X.length := by have := hot.len; omega
   have hzc := zval_aZ (hw t htm) hot.coef;have hld := hload t htm;refine AWP.loop (G := Nat) (fun k => k ≤ X.length) (fun k => St.of [] [(1, .sl 2 eX X), (2, .ptr 2 0), (4, .ptr 4 0), (6, .ptr 6 0), (7, .ptr 7 0), (8, aB (!decide (Fit (AS X (p.terms.take i))))), (9, aN i), (10, .ptr 10 0), (11, .ptr 11 0), (12, aN k)] [(2, .cells (eP p) 70), (4, .cells [aB false, .v (.slice none 0 0)] 35), (6, .cells (eX (TS X (p.terms.take i))) 35), (7, .cells (eX (AS X (p.terms.take i))) 35), (10, .cells (eT t) 124), (11, .cells (eX (zval t.c * prodE (X.take k) (t.e.take k))) 35)]) (fun k => X.length - k) 0 (by omega) ?_ ?_
   ·refine Ent.of [] ?_ ?_ rfl rfl;(repeat' (first |exact True.intro |refine ⟨⟨AV.Le.refl _, rfl⟩, ?_⟩ |refine ⟨⟨⟨_, rfl, BLe.cells (LeL.refl _)⟩, rfl⟩, ?_⟩ |refine ⟨⟨⟨_, rfl, BLe.cells ?_⟩, rfl⟩, ?_⟩|fail));exact leZ (by simp only [List.take_zero, prodE, Int.mul_one]; exact hzc)
   ·intro k q0;(repeat' (first |refine qv ?_ |apply qn |apply qs |apply qr |(refine AWP.condD rfl ?_ ?_ <;> intro _ <;> try (exfalso; omega)) |apply qb |apply qk |apply qx))
    ·rename_i hk;obtain ⟨x, hx⟩ : ∃ x, X[k]? = some x := ⟨_, List.getElem?_eq_getElem (by omega)⟩;obtain ⟨e, he⟩ : ∃ e, t.e[k]? = some e := ⟨_, List.getElem?_eq_getElem (by omega)⟩;have heb := hot.exps.get he;have hstep := prodE_snoc hx he;have hlo := loadE_snoc hx he;have hlt := loadE_take X t.e (k + 1);have hlv := lenI_prodE (zval t.c) (X.take k) (t.e.take k)
     have hek : k < t.e.length := by omega
     refine AWP.loop (G := Nat) (fun n => (n : Int) ≤ e) (fun n => St.of [] [(1, .sl 2 eX X), (2, .ptr 2 0), (4, .ptr 4 0), (6, .ptr 6 0), (7, .ptr 7 0), (8, aB (!decide (Fit (AS X (p.terms.take i))))), (9, aN i), (10, .ptr 10 0), (11, .ptr 11 0), (12, aN k), (13, aN n)] [(2, .cells (eP p) 70), (4, .cells [aB false, .v (.slice none 0 0)] 35), (6, .cells (eX (TS X (p.terms.take i))) 35), (7, .cells (eX (AS X (p.terms.take i))) 35), (10, .cells (eT t) 124), (11, .cells (eX (zval t.c * prodE (X.take k) (t.e.take k) * x ^ n)) 35)]) (fun n => e.toNat - n) 0 (by omega) ?_ ?_
     ·refine Ent.of [] ?_ ?_ rfl rfl;(repeat' (first |exact True.intro |refine ⟨⟨AV.Le.refl _, rfl⟩, ?_⟩ |refine ⟨⟨⟨_, rfl, BLe.cells (LeL.refl _)⟩, rfl⟩, ?_⟩ |refine ⟨⟨⟨_, rfl, BLe.cells ?_⟩, rfl⟩, ?_⟩|fail));exact leX (by simp)
     ·intro n n0;(repeat' (first |refine qv ?_ |apply qn |apply qs |apply qr |refine qw ?_ |(refine AWP.condD rfl ?_ ?_ <;> intro _ <;> try (exfalso; omega)) |apply qb |apply qk |apply qx |refine qK ?_|fail))
      ·rename_i hn;have hl2 := lenI_mulpow (zval t.c * prodE (X.take k) (t.e.take k)) x n;have hm : n * lenI x ≤ e.toNat * lenI x := Nat.mul_le_mul_right _ (by omega);have hm1 : 1 * lenI x ≤ e.toNat * lenI x := Nat.mul_le_mul_right _ (by omega);refine Fl.call rfl (rMul_ok (zval t.c * prodE (X.take k) (t.e.take k) * x ^ n) x (show lenI _ ≤ _ by omega) (show lenI _ ≤ _ by omega)) rfl rfl rfl (LeL.refl _) ?_;(repeat' (first |refine qv ?_ |apply qn |refine Fl.nil (fun _ => by kernel_rfl) ?_ |apply qr |refine qw ?_ |refine qe ?_|fail));refine LoopEnd.of (n + 1) (by omega) (by omega) ?_;refine Ent.of [] ?_ ?_ rfl rfl;(repeat' (first |exact True.intro |refine ⟨⟨AV.Le.refl _, rfl⟩, ?_⟩ |refine ⟨⟨⟨_, rfl, BLe.cells (LeL.refl _)⟩, rfl⟩, ?_⟩ |refine ⟨⟨⟨_, rfl, BLe.cells ?_⟩, rfl⟩, ?_⟩|fail));exact leX (by rw [Int.pow_succ, Int.mul_assoc])
      ·rename_i hn;refine LoopEnd.of (k + 1) (by omega) (by omega) ?_;refine Ent.of [] ?_ ?_ rfl rfl;(repeat' (first |exact True.intro |refine ⟨⟨AV.Le.refl _, rfl⟩, ?_⟩ |refine ⟨⟨⟨_, rfl, BLe.cells (LeL.refl _)⟩, rfl⟩, ?_⟩ |refine ⟨⟨⟨_, rfl, BLe.cells ?_⟩, rfl⟩, ?_⟩|fail));exact leX (by rw [hstep, Int.mul_assoc, show n = e.toNat by omega])
    ·rename_i hk;have hc1 : X.take k = X := List.take_of_length_le (by omega);have hc2 : t.e.take k = t.e := List.take_of_length_le (by omega)
     have hv : zval t.c * prodE (X.take k) (t.e.take k) = tv X t := by rw [hc1, hc2]; rfl
     have hvl := htl t htm;have hts := TS_succ (X := X) ht;have has := AS_succ (X := X) ht;have hl0 := hsl i;have hb1 := AS_take X p.terms i;have hb2 := AS_take X p.terms (i + 1);refine Fl.call rfl (rAdd_ok (TS X (p.terms.take i)) _ (show lenI _ ≤ _ by omega) (show lenI _ ≤ _ by rw [hv]; omega)) rfl rfl rfl (LeL.refl _) ?_;(repeat' (first |refine qv ?_|fail));refine Fl.call rfl (rAbs_ok (zval t.c * prodE (X.take k) (t.e.take k)) (show lenI _ ≤ _ by rw [hv]; omega)) rfl rfl rfl (LeL.refl _) ?_;skip;refine Fl.call rfl (rAdd_ok (AS X (p.terms.take i)) _ (show lenI _ ≤ _ by omega) (show lenI _ ≤ _ by rw [hv]; unfold lenI at hvl ⊢; rw [Int.natAbs_natCast]; omega)) rfl rfl rfl (LeL.refl _) ?_;(repeat' (first |refine qv ?_ |apply qn |refine Fl.nil (fun _ => by kernel_rfl) ?_ |apply qr |refine qw ?_ |refine qe ?_ |refine Fl.skip rfl rfl ?_ |(refine Fl.splitN rfl rfl ?_ ?_ <;> intro _ <;> try (exfalso; omega))))
     ·rename_i hnf;have hnf2 : ¬ Fit (AS X (p.terms.take (i + 1))) := fun h => hnf (h.le (by omega));refine LoopEnd.of (i + 1) (by omega) (by omega) ?_;refine Ent.of [] ?_ ?_ rfl rfl;(repeat' (first |exact True.intro |refine ⟨⟨AV.Le.refl _, rfl⟩, ?_⟩ |refine ⟨⟨⟨_, rfl, BLe.cells (LeL.refl _)⟩, rfl⟩, ?_⟩ |refine ⟨⟨⟨_, rfl, BLe.cells ?_⟩, rfl⟩, ?_⟩ |refine ⟨⟨AV.Le.bool ?_, rfl⟩, ?_⟩|fail))
      ·rw [decide_eq_false hnf2]; rfl
      ·exact leX (by rw [hts, hv])
      ·exact leX (by rw [has, hv])
     ·rename_i hf;refine qc (rFits_ok (AS X (p.terms.take i) + ((zval t.c * prodE (X.take k) (t.e.take k)).natAbs : Int))) ?_;(repeat' (first |refine qv ?_ |apply qn |apply qr |refine qw ?_|fail));refine LoopEnd.of (i + 1) (by omega) (by omega) ?_;refine Ent.of [] ?_ ?_ rfl rfl;(repeat' (first |exact True.intro |refine ⟨⟨AV.Le.refl _, rfl⟩, ?_⟩ |refine ⟨⟨⟨_, rfl, BLe.cells (LeL.refl _)⟩, rfl⟩, ?_⟩ |refine ⟨⟨⟨_, rfl, BLe.cells ?_⟩, rfl⟩, ?_⟩ |refine ⟨⟨AV.Le.bool ?_, rfl⟩, ?_⟩|fail))
      ·rw [has, hv]
      ·exact leX (by rw [hts, hv])
      ·exact leX (by rw [has, hv])
  ·rename_i hi;have hti : p.terms.take i = p.terms := List.take_of_length_le (by omega);rw [hti];exact RetOk.of rfl (AV.Le.refl _)
end Go.Proofs.YtcaecieigoplbaaGreat
namespace Go.AL
end Go.AL
namespace Go.Proofs.YtcaecieigoplbaaGreat
open Go.AL
end Go.Proofs.YtcaecieigoplbaaGreat
namespace Go.AL
theorem Fit.lenI {x : Int} (h : Fit x) : lenI x ≤ 4096 := h.len
end Go.AL
namespace Go.Proofs.YtcaecieigoplbaaGreat
open Go.AL
def unitE (n i : Nat) : List Int := (List.replicate n 0).set i 1
def pVar (n i : Nat) : PZ := ⟨n, [⟨zOf 1, unitE n i⟩]⟩
theorem rVar_ok (n i : Nat) (hi : i < n) (hn : n ≤ 1000) : PureFn Tryz.prog 143 [aN n, aN i] (aP (pVar n i)) := by
 refine PureFn.of_body Tryz.func143 rfl Tryz.ntmps143 rfl rfl ?_;refine AWP.seqS ?_;(repeat' (first |apply qn |apply qr |refine qe ?_|fail));refine ⟨AWP.seqS ?_⟩;(repeat' (first |refine qv ?_ |apply qn |apply qr |refine Fl.make rfl rfl rfl rfl rfl rfl rfl rfl rfl rfl eI 0 (by exact LeL.refl _) (by rfl) (by first | omega | (dsimp only; omega)) (by first | omega | (dsimp only; omega)) (by first | omega | (dsimp only; omega)) ?_|fail));refine ⟨AWP.seqS ?_⟩;(repeat' (first |refine qv ?_ |apply qn |apply qr |refine Fl.rel rfl rfl rfl rfl rfl rfl rfl rfl (by omega) (by first | omega | (simp; omega)) ?_ |refine Fl.rst rfl rfl rfl rfl rfl rfl rfl rfl rfl rfl rfl (LeL.refl _) rfl (by first | omega | (simp; omega)) ?_|fail));refine ⟨?_⟩;refine AWP.ent (Ent.freeze 7 rfl) ?_;(repeat' (first |refine qv ?_ |apply qs |apply qr));refine qc (rOf_ok 1 (by omega) (by omega)) ?_;(repeat' (first |refine qv ?_ |refine qe ?_|fail));refine ql eT [⟨zOf 1, unitE n i⟩] ?_;(repeat' (first |apply qn |refine qe ?_ |apply qt));exact RetOk.of rfl (AV.Le.refl _)
end Go.Proofs.YtcaecieigoplbaaGreat
namespace Go.AL
def ordX (x y : Int) : List Int → List Int → Int
  | a :: l, b :: m => if x = y then ordX a b l m else cmpI x y
  | _, _ => cmpI x y
def rOrd (a b : List Int) : Int := ordX (sumL a) (sumL b) a b
theorem ordX_drop {x y : Int} {a b : List Int} {i : Nat} {u v : Int} (ha : a[i]? = some u) (hb : b[i]? = some v) : ordX x y (a.drop i) (b.drop i) = if x = y then ordX u v (a.drop (i + 1)) (b.drop (i + 1)) else cmpI x y := by
 rw [List.drop_eq_getElem_cons (List.getElem?_eq_some_iff.1 ha).1, List.drop_eq_getElem_cons (List.getElem?_eq_some_iff.1 hb).1, (List.getElem?_eq_some_iff.1 ha).2, (List.getElem?_eq_some_iff.1 hb).2];rfl
theorem ordX_ne {x y : Int} (h : x ≠ y) : ∀ (a b : List Int), ordX x y a b = cmpI x y
 | [], _ => rfl
 | _ :: _, [] => rfl
 | _ :: _, _ :: _ => if_neg h
def keepT (t : TZ) (l : List TZ) : List TZ := if t.c.w.length = 0 then l else t :: l
def sumT (a b : TZ) : TZ := ⟨zOf (zval a.c + zval b.c), a.e⟩
def mergeT : List TZ → List TZ → List TZ
  | [], [] => []
  | a :: l, [] => keepT a (mergeT l [])
  | [], b :: m => keepT b (mergeT [] m)
  | a :: l, b :: m => if rOrd a.e b.e = 1 then keepT a (mergeT l (b :: m)) else if rOrd a.e b.e = -1 then keepT b (mergeT (a :: l) m) else keepT (sumT a b) (mergeT l m)
  termination_by a b => a.length + b.length
theorem mergeT_a {a b : List TZ} {i k : Nat} {t : TZ} (h : a[i]? = some t) (hk : b.length ≤ k) : mergeT (a.drop i) (b.drop k) = keepT t (mergeT (a.drop (i + 1)) (b.drop k)) := by
 rw [List.drop_eq_getElem_cons (List.getElem?_eq_some_iff.1 h).1, (List.getElem?_eq_some_iff.1 h).2, List.drop_of_length_le hk, mergeT]
theorem mergeT_b {a b : List TZ} {i k : Nat} {t : TZ} (h : b[k]? = some t) (hk : a.length ≤ i) : mergeT (a.drop i) (b.drop k) = keepT t (mergeT (a.drop i) (b.drop (k + 1))) := by
 rw [List.drop_eq_getElem_cons (List.getElem?_eq_some_iff.1 h).1, (List.getElem?_eq_some_iff.1 h).2, List.drop_of_length_le hk, mergeT]
theorem mergeT_c {a b : List TZ} {i k : Nat} {t u : TZ} (h : a[i]? = some t) (h2 : b[k]? = some u) : mergeT (a.drop i) (b.drop k) = if rOrd t.e u.e = 1 then keepT t (mergeT (a.drop (i + 1)) (b.drop k)) else if rOrd t.e u.e = -1 then keepT u (mergeT (a.drop i) (b.drop (k + 1))) else keepT (sumT t u) (mergeT (a.drop (i + 1)) (b.drop (k + 1))) := by
 rw [List.drop_eq_getElem_cons (List.getElem?_eq_some_iff.1 h).1, (List.getElem?_eq_some_iff.1 h).2, List.drop_eq_getElem_cons (List.getElem?_eq_some_iff.1 h2).1, (List.getElem?_eq_some_iff.1 h2).2, mergeT]
theorem keepT_0 {t : TZ} {l : List TZ} (h : t.c.w.length = 0) : keepT t l = l := if_pos h
theorem keepT_1 {t : TZ} {l : List TZ} (h : ¬ t.c.w.length = 0) : keepT t l = t :: l := if_neg h
structure TermsOk (n : Nat) (M : Nat) (l : List TZ) : Prop where
  w : ∀ t ∈ l, WT t
  c : ∀ t ∈ l, t.c = zOf (zval t.c)
  e : ∀ t ∈ l, EOk t.e ∧ t.e.length = n
  m : ∀ t ∈ l, lenI (zval t.c) ≤ M
end Go.AL
namespace Go.Proofs.YtcaecieigoplbaaGreat
open Go.AL
theorem rdegree_ok (l : List Int) (he : EOk l) (hl : l.length ≤ 100000) : PureFn Tryz.prog 209 [aI l] (aN (sumL l)) := by
 refine PureFn.of_body Tryz.func209 rfl Tryz.ntmps209 rfl rfl ?_;(repeat' (first |refine qv ?_ |apply qn |apply qs |apply qr |apply qb));refine AWP.loop (G := Nat) (fun i => i ≤ l.length) (fun i => St.of [] [(0, aI l), (3, aN (sumL (l.take i))), (4, aN i)] []) (fun i => l.length - i) 0 (by omega) ?_ ?_
 ·refine Ent.of [] ?_ ?_ rfl rfl;(repeat' (first |exact True.intro |refine ⟨⟨AV.Le.refl _, rfl⟩, ?_⟩|fail))
 ·intro i h0;have hs := sumL_bound (he.take i);have hi := List.length_take (l := l) (i := i);(repeat' (first |refine qv ?_ |apply qn |apply qs |apply qr |(refine AWP.condD rfl ?_ ?_ <;> intro _ <;> try (exfalso; omega)) |apply qb |apply qk |apply qx |apply qt |(refine Fl.el rfl rfl rfl rfl rfl rfl rfl rfl (by omega) (by omega) ?_; intro _ _)|fail))
  ·rename_i hlt x hx;rw [Int.toNat_natCast] at hx;have hb := he.get hx;(repeat' (first |refine qv ?_ |apply qn |apply qr |refine qw ?_|fail));refine LoopEnd.of (i + 1) (by omega) (by omega) ?_;refine Ent.of [] ?_ ?_ rfl rfl;(repeat' (first |exact True.intro |refine ⟨⟨AV.Le.refl _, rfl⟩, ?_⟩ |refine ⟨⟨AV.Le.int ?_, rfl⟩, ?_⟩|fail));exact (sumL_take_succ hx).symm
  ·refine RetOk.of rfl (AV.Le.int ?_);rw [show i = l.length by omega, List.take_length]
theorem rOrder_ok (a b : List Int) (ha : EOk a) (hb : EOk b) (hal : a.length ≤ 100000) (hbl : b.length = a.length) : PureFn Tryz.prog 173 [aI a, aI b] (aN (rOrd a b)) := by
 refine PureFn.of_body Tryz.func173 rfl Tryz.ntmps173 rfl rfl ?_;(repeat' (first |refine qv ?_ |apply qn |apply qs |apply qr));refine qc (rdegree_ok a ha hal) ?_;(repeat' (first |refine qv ?_|fail));refine qc (rdegree_ok b hb (by omega)) ?_;(repeat' (first |refine qv ?_ |apply qn |apply qs |apply qr |apply qb));refine AWP.loop (G := Nat × Int × Int) (fun (i, x, y) => i ≤ a.length ∧ ordX x y (a.drop i) (b.drop i) = rOrd a b) (fun (i, x, y) => St.of [] [(0, aI a), (1, aI b), (5, aN x), (6, aN y), (7, aN i)] []) (fun (i, x, y) => a.length - i) (0, sumL a, sumL b) ⟨by omega, rfl⟩ ?_ ?_
 ·refine Ent.of [] ?_ ?_ rfl rfl;(repeat' (first |exact True.intro |refine ⟨⟨AV.Le.refl _, rfl⟩, ?_⟩|fail))
 ·intro ⟨i, x, y⟩ ⟨h0, h1⟩
  have hfin : (x ≠ y ∨ a.length ≤ i) → cmpI x y = rOrd a b := fun h => by
   rw [← h1];rcases h with h | h
   ·exact (ordX_ne h _ _).symm
   ·rw [List.drop_of_length_le h]; rfl
  (repeat' (first |refine qv ?_ |apply qn |refine Fl.nil (fun _ => by kernel_rfl) ?_ |apply qs |apply qr |refine qw ?_ |refine Fl.skip rfl rfl ?_ |refine AWP.condF rfl ?_ |(refine AWP.condD rfl ?_ ?_ <;> intro _ <;> try (exfalso; omega)) |apply qb |apply qk |apply qx |apply qt |(refine Fl.el rfl rfl rfl rfl rfl rfl rfl rfl (by omega) (by omega) ?_; intro _ _) |(refine Fl.splitD rfl rfl ?_ ?_ <;> intro _ <;> try (exfalso; omega))))
  ·rename_i hi hxy u hu v hv;rw [Int.toNat_natCast] at hu hv;refine LoopEnd.of (i + 1, u, v) ⟨by omega, ?_⟩ (by simp only; omega) ?_
   ·rw [← h1, ordX_drop hu hv, if_pos hxy]
   ·refine Ent.of [] ?_ ?_ rfl rfl;(repeat' (first |exact True.intro |refine ⟨⟨AV.Le.refl _, rfl⟩, ?_⟩|fail))
  ·rename_i hi hxy hgt;exact RetOk.of rfl (AV.Le.int (by rw [← hfin (.inl hxy), cmpI_gt hgt]))
  ·rename_i hi hxy hgt hlt;exact RetOk.of rfl (AV.Le.int (by rw [← hfin (.inl hxy), cmpI_lt hlt]))
  ·rename_i hi hgt;exact RetOk.of rfl (AV.Le.int (by rw [← hfin (.inr (by omega)), cmpI_gt hgt]))
  ·rename_i hi hgt hlt;exact RetOk.of rfl (AV.Le.int (by rw [← hfin (.inr (by omega)), cmpI_lt hlt]))
  ·rename_i hi hgt hlt;exact RetOk.of rfl (AV.Le.int (by rw [← hfin (.inr (by omega)), cmpI_eq (by omega)]))
set_option maxHeartbeats 2000000 in
theorem merged_ok (n M : Nat) (hn : n ≤ 1000) (hM : M ≤ 30000) (a b : List TZ) (ha : TermsOk n M a) (hb : TermsOk n M b) (hal : a.length ≤ 100000) (hbl : b.length ≤ 100000) : PureFn Tryz.prog 144 [.sl 3 eT a, .sl 3 eT b] (.sl 3 eT (mergeT a b)) := by
 refine PureFn.of_body Tryz.func144 rfl Tryz.ntmps144 rfl rfl ?_;(repeat' (first |refine qv ?_ |apply qn |apply qs |apply qr |apply qb));refine AWP.ent (Ent.nilrow 5 805 rfl rfl 3 eT 124) ?_;refine AWP.loop (G := Nat × Nat × List TZ) (fun (i, k, os) => i ≤ a.length ∧ k ≤ b.length ∧ os.length ≤ i + k ∧ os ++ mergeT (a.drop i) (b.drop k) = mergeT a b) (fun (i, k, os) => St.of [] [(0, .sl 3 eT a), (1, .sl 3 eT b), (5, .row 5), (6, aN i), (7, aN k)] [(5, .row 3 eT os 124)]) (fun (i, k, os) => a.length - i + (b.length - k)) (0, 0, []) ⟨by omega, by omega, by simp, rfl⟩ ?_ ?_
 ·refine Ent.of [(5, 805)] ?_ ?_ rfl rfl;(repeat' (first |exact True.intro |refine ⟨⟨AV.Le.refl _, rfl⟩, ?_⟩ |refine ⟨⟨⟨_, rfl, BLe.row rfl⟩, rfl⟩, ?_⟩|fail))
 ·intro ⟨i, k, os⟩ ⟨h0, h1, h2, h3⟩;by_cases hi : i < a.length
  ·obtain ⟨t, ht⟩ : ∃ t, a[i]? = some t := ⟨_, List.getElem?_eq_getElem hi⟩;have htm := List.mem_of_getElem? ht;by_cases hk : k < b.length
   ·obtain ⟨u, hu⟩ : ∃ u, b[k]? = some u := ⟨_, List.getElem?_eq_getElem hk⟩;have hum := List.mem_of_getElem? hu;have hord := rOrder_ok t.e u.e (ha.e t htm).1 (hb.e u hum).1 (by have := (ha.e t htm).2; omega) (by rw [(ha.e t htm).2, (hb.e u hum).2]);have hmc := mergeT_c ht hu;(repeat' (first |refine qv ?_ |apply qn |apply qs |apply qr |refine Fl.skip rfl rfl ?_ |refine AWP.condT rfl ?_ |(refine AWP.condD rfl ?_ ?_ <;> intro _ <;> try (exfalso; omega)) |apply qb |apply qk |refine qK ?_ |(refine Fl.splitD rfl rfl ?_ ?_ <;> intro _ <;> try (exfalso; omega))));refine qc (hord) ?_;(repeat' (first |refine qv ?_ |apply qn |refine Fl.nil (fun _ => by kernel_rfl) ?_ |apply qs |apply qr |refine qw ?_ |refine qe ?_ |(refine AWP.condD rfl ?_ ?_ <;> intro _ <;> try (exfalso; omega)) |apply qb |refine qK ?_|fail))
    ·rename_i ho;rw [if_pos ho] at hmc;have heq := hmc;refine qc (rZero_ok t.c) ?_;(repeat' (first |refine qv ?_ |apply qn |apply qr |(refine AWP.condN rfl ?_ ?_ <;> intro _ <;> try (exfalso; omega)) |apply qk))
     ·rename_i hz;rw [keepT_1 hz] at heq;refine ql eT [t] ?_;skip;refine qa (hby := (by dsimp only [List.length_nil, List.length_cons]; omega)) (hm := (by simp; omega)) (r := ?_);(repeat' (first |refine qv ?_ |apply qn));refine LoopEnd.of (i + 1, k, os ++ [t]) ⟨by omega, by omega, by simp; omega, by rw [← h3, heq, List.append_assoc]; rfl⟩ (by simp only; omega) ?_;refine Ent.of [(5, 87)] ?_ ?_ rfl rfl;(repeat' (first |exact True.intro |refine ⟨⟨AV.Le.refl _, rfl⟩, ?_⟩ |refine ⟨⟨⟨_, rfl, BLe.row rfl⟩, rfl⟩, ?_⟩|fail))
     ·rename_i hz;rw [keepT_0 hz] at heq;refine LoopEnd.of (i + 1, k, os) ⟨by omega, by omega, by omega, by rw [← h3, heq]⟩ (by simp only; omega) ?_;refine Ent.of [] ?_ ?_ rfl rfl;(repeat' (first |exact True.intro |refine ⟨⟨AV.Le.refl _, rfl⟩, ?_⟩ |refine ⟨⟨⟨_, rfl, BLe.row rfl⟩, rfl⟩, ?_⟩|fail))
    ·rename_i ho ho2;rw [if_neg ho, if_pos ho2] at hmc;have heq := hmc;refine qc (rZero_ok u.c) ?_;(repeat' (first |refine qv ?_ |apply qn |apply qr |(refine AWP.condN rfl ?_ ?_ <;> intro _ <;> try (exfalso; omega)) |apply qk))
     ·rename_i hz;rw [keepT_1 hz] at heq;refine ql eT [u] ?_;skip;refine qa (hby := (by dsimp only [List.length_nil, List.length_cons]; omega)) (hm := (by simp; omega)) (r := ?_);(repeat' (first |refine qv ?_ |apply qn));refine LoopEnd.of (i, k + 1, os ++ [u]) ⟨by omega, by omega, by simp; omega, by rw [← h3, heq, List.append_assoc]; rfl⟩ (by simp only; omega) ?_;refine Ent.of [(5, 87)] ?_ ?_ rfl rfl;(repeat' (first |exact True.intro |refine ⟨⟨AV.Le.refl _, rfl⟩, ?_⟩ |refine ⟨⟨⟨_, rfl, BLe.row rfl⟩, rfl⟩, ?_⟩|fail))
     ·rename_i hz;rw [keepT_0 hz] at heq;refine LoopEnd.of (i, k + 1, os) ⟨by omega, by omega, by omega, by rw [← h3, heq]⟩ (by simp only; omega) ?_;refine Ent.of [] ?_ ?_ rfl rfl;(repeat' (first |exact True.intro |refine ⟨⟨AV.Le.refl _, rfl⟩, ?_⟩ |refine ⟨⟨⟨_, rfl, BLe.row rfl⟩, rfl⟩, ?_⟩|fail))
    ·rename_i ho ho2;rw [if_neg ho, if_neg ho2] at hmc;have l1 := ha.m t htm;have l2 := hb.m u hum;refine Fl.call rfl (rAdd_ok (zval t.c) (zval u.c) (show lenI _ ≤ _ by omega) (show lenI _ ≤ _ by omega)) rfl rfl rfl (LeL.cons (AV.Le.agg (leZ (σ := []) (ha.c t htm))) (LeL.cons (AV.Le.agg (leZ (σ := []) (hb.c u hum))) LeL.nil)) ?_;(repeat' (first |refine qv ?_ |apply qn |refine Fl.nil (fun _ => by kernel_rfl) ?_ |apply qs |apply qr |refine qw ?_ |refine qe ?_ |refine qK ?_|fail));have heq := hmc;refine qc (rZero_ok (sumT t u).c) ?_;(repeat' (first |refine qv ?_ |apply qn |apply qr |(refine AWP.condN rfl ?_ ?_ <;> intro _ <;> try (exfalso; omega)) |apply qk))
     ·rename_i hz;rw [keepT_1 hz] at heq;refine ql eT [(sumT t u)] ?_;skip;refine qa (hby := (by dsimp only [List.length_nil, List.length_cons]; omega)) (hm := (by simp; omega)) (r := ?_);(repeat' (first |refine qv ?_ |apply qn));refine LoopEnd.of (i + 1, k + 1, os ++ [(sumT t u)]) ⟨by omega, by omega, by simp; omega, by rw [← h3, heq, List.append_assoc]; rfl⟩ (by simp only; omega) ?_;refine Ent.of [(5, 87)] ?_ ?_ rfl rfl;(repeat' (first |exact True.intro |refine ⟨⟨AV.Le.refl _, rfl⟩, ?_⟩ |refine ⟨⟨⟨_, rfl, BLe.row rfl⟩, rfl⟩, ?_⟩|fail))
     ·rename_i hz;rw [keepT_0 hz] at heq;refine LoopEnd.of (i + 1, k + 1, os) ⟨by omega, by omega, by omega, by rw [← h3, heq]⟩ (by simp only; omega) ?_;refine Ent.of [] ?_ ?_ rfl rfl;(repeat' (first |exact True.intro |refine ⟨⟨AV.Le.refl _, rfl⟩, ?_⟩ |refine ⟨⟨⟨_, rfl, BLe.row rfl⟩, rfl⟩, ?_⟩|fail))
   ·have hma := mergeT_a ht (b := b) (k := k) (by omega);(repeat' (first |refine qv ?_ |apply qn |apply qs |apply qr |refine qw ?_ |refine qe ?_ |refine Fl.skip rfl rfl ?_ |refine AWP.condT rfl ?_ |(refine AWP.condD rfl ?_ ?_ <;> intro _ <;> try (exfalso; omega)) |apply qb |apply qk |refine qK ?_ |(refine Fl.splitD rfl rfl ?_ ?_ <;> intro _ <;> try (exfalso; omega))));have heq := hma;refine qc (rZero_ok t.c) ?_;(repeat' (first |refine qv ?_ |apply qn |apply qr |(refine AWP.condN rfl ?_ ?_ <;> intro _ <;> try (exfalso; omega)) |apply qk))
    ·rename_i hz;rw [keepT_1 hz] at heq;refine ql eT [t] ?_;skip;refine qa (hby := (by dsimp only [List.length_nil, List.length_cons]; omega)) (hm := (by simp; omega)) (r := ?_);(repeat' (first |refine qv ?_ |apply qn));refine LoopEnd.of (i + 1, k, os ++ [t]) ⟨by omega, by omega, by simp; omega, by rw [← h3, heq, List.append_assoc]; rfl⟩ (by simp only; omega) ?_;refine Ent.of [(5, 87)] ?_ ?_ rfl rfl;(repeat' (first |exact True.intro |refine ⟨⟨AV.Le.refl _, rfl⟩, ?_⟩ |refine ⟨⟨⟨_, rfl, BLe.row rfl⟩, rfl⟩, ?_⟩|fail))
    ·rename_i hz;rw [keepT_0 hz] at heq;refine LoopEnd.of (i + 1, k, os) ⟨by omega, by omega, by omega, by rw [← h3, heq]⟩ (by simp only; omega) ?_;refine Ent.of [] ?_ ?_ rfl rfl;(repeat' (first |exact True.intro |refine ⟨⟨AV.Le.refl _, rfl⟩, ?_⟩ |refine ⟨⟨⟨_, rfl, BLe.row rfl⟩, rfl⟩, ?_⟩|fail))
  ·by_cases hk : k < b.length
   ·obtain ⟨u, hu⟩ : ∃ u, b[k]? = some u := ⟨_, List.getElem?_eq_getElem hk⟩;have hmb := mergeT_b hu (a := a) (i := i) (by omega);(repeat' (first |refine qv ?_ |apply qn |apply qs |apply qr |refine qw ?_ |refine qe ?_ |refine AWP.condT rfl ?_ |refine AWP.condF rfl ?_ |(refine AWP.condD rfl ?_ ?_ <;> intro _ <;> try (exfalso; omega)) |apply qb |apply qk |refine qK ?_ |(refine Fl.splitD rfl rfl ?_ ?_ <;> intro _ <;> try (exfalso; omega))));have heq := hmb;refine qc (rZero_ok u.c) ?_;(repeat' (first |refine qv ?_ |apply qn |apply qr |(refine AWP.condN rfl ?_ ?_ <;> intro _ <;> try (exfalso; omega)) |apply qk))
    ·rename_i hz;rw [keepT_1 hz] at heq;refine ql eT [u] ?_;skip;refine qa (hby := (by dsimp only [List.length_nil, List.length_cons]; omega)) (hm := (by simp; omega)) (r := ?_);(repeat' (first |refine qv ?_ |apply qn));refine LoopEnd.of (i, k + 1, os ++ [u]) ⟨by omega, by omega, by simp; omega, by rw [← h3, heq, List.append_assoc]; rfl⟩ (by simp only; omega) ?_;refine Ent.of [(5, 87)] ?_ ?_ rfl rfl;(repeat' (first |exact True.intro |refine ⟨⟨AV.Le.refl _, rfl⟩, ?_⟩ |refine ⟨⟨⟨_, rfl, BLe.row rfl⟩, rfl⟩, ?_⟩|fail))
    ·rename_i hz;rw [keepT_0 hz] at heq;refine LoopEnd.of (i, k + 1, os) ⟨by omega, by omega, by omega, by rw [← h3, heq]⟩ (by simp only; omega) ?_;refine Ent.of [] ?_ ?_ rfl rfl;(repeat' (first |exact True.intro |refine ⟨⟨AV.Le.refl _, rfl⟩, ?_⟩ |refine ⟨⟨⟨_, rfl, BLe.row rfl⟩, rfl⟩, ?_⟩|fail))
   ·(repeat' (first |refine qv ?_ |apply qn |apply qs |apply qr |(refine AWP.condD rfl ?_ ?_ <;> intro _ <;> try (exfalso; omega)) |apply qx |apply qt |(refine Fl.splitD rfl rfl ?_ ?_ <;> intro _ <;> try (exfalso; omega))));refine RetOk.ent (Ent.freeze 5 rfl) ?_;refine RetOk.of rfl (AV.Le.sl ?_);rw [← h3, List.drop_of_length_le (by omega), List.drop_of_length_le (by omega), mergeT, List.append_nil]
end Go.Proofs.YtcaecieigoplbaaGreat
namespace Go.AL
theorem zval_zOf (x : Int) : zval (zOf x) = x := by
 unfold zval zOf;simp only;rw [val_toW (by omega)];simp only [sg];split
 ·rename_i h; simp at h; omega
 ·rename_i h; simp at h; omega
theorem EOk.zeros (n : Nat) : EOk (List.replicate n 0) := fun e he => by rw [List.eq_of_mem_replicate he]; omega
theorem TermsOk.one {n M : Nat} {x : Int} {e : List Int} (h1 : lenI x ≤ M) (h2 : EOk e) (h3 : e.length = n) : TermsOk n M [⟨zOf x, e⟩] := by
 refine ⟨?_, ?_, ?_, ?_⟩ <;> (intro t ht; simp only [List.mem_singleton] at ht; subst ht)
 ·exact toW_ok _
 ·rw [zval_zOf]
 ·exact ⟨h2, h3⟩
 ·rw [zval_zOf]; exact h1
theorem TermsOk.nil (n M : Nat) : TermsOk n M [] := by constructor <;> (intro t h; cases h)
theorem toW_len0 (x : Int) : (toW x.natAbs).length = 0 ↔ x = 0 := by
 have := toW_nil_iff (z := x.natAbs) (by omega);rw [List.length_eq_zero_iff, this]; omega
end Go.AL
namespace Go.Proofs.YtcaecieigoplbaaGreat
open Go.AL
theorem rSorted_short (n M : Nat) (hn : n ≤ 1000) (hM : M ≤ 30000) (l : List TZ) (hl : TermsOk n M l) (h2 : l.length < 2) : PureFn Tryz.prog 121 [.sl 3 eT l] (.sl 3 eT (mergeT l [])) := by
 refine PureFn.of_body Tryz.func121 rfl Tryz.ntmps121 rfl rfl ?_;(repeat' (first |refine qv ?_ |apply qn |apply qs |apply qr |(refine AWP.condD rfl ?_ ?_ <;> intro _ <;> try (exfalso; omega))));refine Fl.call rfl (merged_ok n M hn hM l [] hl (TermsOk.nil n M) (by omega) (by simp)) rfl rfl rfl (LeL.cons (AV.Le.refl _) (LeL.cons (AV.Le.nil 3 eT) LeL.nil)) ?_;(repeat' (first |refine qv ?_ |apply qn |apply qt));exact RetOk.of rfl (AV.Le.refl _)
theorem lenI_small {x : Int} (h : x.natAbs < 4294967296) : lenI x ≤ 1 := by
 rw [lenI_le, show (1 : Nat) = 0 + 1 from rfl, BB_succ, BB_zero]; omega
end Go.Proofs.YtcaecieigoplbaaGreat
namespace Go.AL
theorem EOk.set {l : List Int} (h : EOk l) (i : Nat) {v : Int} (h0 : 0 ≤ v) (h1 : v ≤ 120) : EOk (l.set i v) := fun e he => by
 rcases List.mem_or_eq_of_mem_set he with k | k
 ·exact h e k
 ·subst k; exact ⟨h0, h1⟩
theorem OkP.one {n : Nat} {x : Int} {e : List Int} (hn : n ≤ 32) (hx : Fit x) (h0 : x ≠ 0) (he : EOk e) (hl : e.length = n) (hd : sumL e ≤ 120) : OkP ⟨n, [⟨zOf x, e⟩]⟩ := by
 refine ⟨by simp, by simp only; omega, by simp, fun t ht => ?_, fun i a b h1 h2 => by simp at h2⟩;simp only [List.mem_singleton] at ht;subst ht;exact ⟨okZ_zOf hx, fun h => h0 ((toW_len0 x).1 h), by simp only; omega, he, hd⟩
theorem WP.one {n : Int} {x : Int} {e : List Int} : WP ⟨n, [⟨zOf x, e⟩]⟩ := fun t ht => by
 simp only [List.mem_singleton] at ht; subst ht; exact toW_ok _
end Go.AL
namespace Go.Proofs.YtcaecieigoplbaaGreat
open Go.AL
end Go.Proofs.YtcaecieigoplbaaGreat
/- From what a claim's arguments read az to abstract values over the memory az it stands. -/
namespace Go.AL
def hpOf (w : World) : Hp := fun b => match w.heap[b]? with | some (.cells cs _ _) => some cs | _ => none
theorem hpOf_has (w : World) : Has w (hpOf w) := fun b cs h => by
 unfold hpOf at h;split at h
 ·rename_i cs' t fr hb;injection h with h; subst h;exact ⟨t, fr, hb⟩
 ·cases h
theorem hcell_of {w : World} {a : Addr} {u : Value} (h : w.cell? a = some u) : hcell (hpOf w) a u := by
 unfold World.cell? at h;split at h
 ·rename_i c t fr hb;split at h
  ·cases h
  ·rename_i hs;exact ⟨by simpa using hs, c, by simp [hpOf, hb], h⟩
 ·cases h
theorem mapM_get {α β : Type} {f : α → Option β} : ∀ {l : List α} {r : List β}, l.mapM f = some r → r.length = l.length ∧ ∀ (i : Nat) (x : α) (y : β), l[i]? = some x → r[i]? = some y → f x = some y
 | [], r, h => by
  simp at h; subst h; simp
 | x :: l, r, h => by
  simp only [List.mapM_cons, Option.bind_eq_bind, Option.bind_eq_some_iff, Option.pure_def, Option.some.injEq] at h;obtain ⟨y, h1, ys, h2, rfl⟩ := h;obtain ⟨h3, h4⟩ := mapM_get h2;refine ⟨by simp [h3], fun i a b ha hb => ?_⟩
  cases i with
  | zero => simp at ha hb; subst ha hb; exact h1
  | succ i => exact h4 i a b (by simpa using ha) (by simpa using hb)
theorem cells_of {w : World} {base : Nat} {a : Addr} {n : Nat} {cs : List Value} (h : w.cells? base a n = some cs) : cs.length = n ∧ ∀ (j : Nat) (u : Value), cs[j]? = some u → hcell (hpOf w) (a.add j) u := by
 unfold World.cells? at h;split at h
 ·obtain ⟨h1, h2⟩ := mapM_get h;rw [List.length_range] at h1;refine ⟨h1, fun j u hu => hcell_of ?_⟩
  have hj : j < n := by rw [← h1]; exact (List.getElem?_eq_some_iff.1 hu).1
  exact h2 j j u (by simp [hj]) hu
 ·cases h
section
variable {H : Type} {enc : TypeId × Value → H} {P : Program} {w : World} {base : Nat} {spare : Nat → Bool} {held : Bool}
theorem trodInt {t : TypeId} {k : IntKind} {fuel : Nat} {cs : List Value} {x : DataW H × List MemPlace} (ht : P.underlying t = some (.int k)) (h : DataW.trod enc P w base spare held fuel t cs = some x) : ∃ n, cs = [.int k n] ∧ (Lit.int k n).wf = true := by
 cases fuel with
 | zero => simp [DataW.trod] at h
 | succ fuel =>
  simp only [DataW.trod, ht] at h;split at h <;> simp_all
theorem trodBool {t : TypeId} {fuel : Nat} {cs : List Value} {x : DataW H × List MemPlace} (ht : P.underlying t = some .bool) (h : DataW.trod enc P w base spare held fuel t cs = some x) : ∃ b, cs = [.bool b] := by
 cases fuel with
 | zero => simp [DataW.trod] at h
 | succ fuel =>
  simp only [DataW.trod, ht] at h;split at h <;> simp_all
theorem trodSlice {α : Type} (sz : Nat) (en : α → List AV) (Q : α → Prop) {t e : TypeId} {fuel : Nat} {cs : List Value} {x : DataW H × List MemPlace} (ht : P.underlying t = some (.slice e)) (hsz : P.cellsOf e = sz)
  (hel : ∀ (fuel : Nat) (us : List Value) (y : DataW H × List MemPlace), us.length = sz → DataW.trod enc P w base spare held fuel e us = some y → ∃ a, RepL (hpOf w) noB (en a) us ∧ Q a)
  (h : DataW.trod enc P w base spare held fuel t cs = some x) : ∃ (xs : List α) (u : Value), cs = [u] ∧ Rep (hpOf w) noB (.sl sz en xs) u ∧ (∀ a ∈ xs, Q a) ∧ xs.length ≤ maxLen := by
 cases fuel with
 | zero => simp [DataW.trod] at h
 | succ fuel =>
  simp only [DataW.trod, ht] at h;split at h <;> try (simp_all; done)
  ·refine ⟨[], _, rfl, ?_, by simp, by simp [maxLen]⟩;simp only [Rep];exact ⟨none, 0, rfl, by simp, by simp [maxLen], fun i y hy => by simp at hy⟩
  ·rename_i e' a len cap heq;injection heq with heq; injection heq with heq; subst heq;split at h
   ·rename_i hc;simp only [Option.bind_eq_some_iff] at h;obtain ⟨elems, h1, _⟩ := h;obtain ⟨h2, h3⟩ := mapM_get h1;rw [List.length_range] at h2
    have hall : ∀ i, i < len → ∃ (us : List Value) (a' : α), us.length = sz ∧ (∀ (j : Nat) (u : Value), us[j]? = some u → hcell (hpOf w) ((a.add (i * sz)).add j) u) ∧ RepL (hpOf w) noB (en a') us ∧ Q a' := by
     intro i hi;have := h3 i i (elems[i]'(by omega)) (by simp [hi]) (List.getElem?_eq_getElem _);simp only [Option.bind_eq_some_iff] at this;obtain ⟨us, hu1, hu2⟩ := this;rw [hsz] at hu1;obtain ⟨hu3, hu4⟩ := cells_of hu1;obtain ⟨a', ha1, ha2⟩ := hel fuel us _ hu3 hu2;exact ⟨us, a', hu3, hu4, ha1, ha2⟩
    have hex : ∃ xs : List α, xs.length = len ∧ ∀ (i : Nat) (y : α), xs[i]? = some y → ∃ us : List Value, us.length = sz ∧ (∀ (j : Nat) (u : Value), us[j]? = some u → hcell (hpOf w) ((a.add (i * sz)).add j) u) ∧ RepL (hpOf w) noB (en y) us ∧ Q y := by
     have : ∀ n, n ≤ len → ∃ xs : List α, xs.length = n ∧ ∀ (i : Nat) (y : α), xs[i]? = some y → ∃ us : List Value, us.length = sz ∧ (∀ (j : Nat) (u : Value), us[j]? = some u → hcell (hpOf w) ((a.add (i * sz)).add j) u) ∧ RepL (hpOf w) noB (en y) us ∧ Q y := by
      intro n
      induction n with
      | zero => exact fun _ => ⟨[], rfl, fun i y hy => by simp at hy⟩
      | succ n ih =>
       intro hn;obtain ⟨xs, hx1, hx2⟩ := ih (by omega);obtain ⟨us, a', q1, q2, q3, q4⟩ := hall n (by omega);refine ⟨xs ++ [a'], by simp [hx1], fun i y hy => ?_⟩;rw [List.getElem?_append] at hy;split at hy
       ·exact hx2 i y hy
       ·rename_i hi
        have hin : i = n := by
         have := (List.getElem?_eq_some_iff.1 hy).1;simp at this; omega
        subst hin;rw [hx1, Nat.sub_self] at hy;simp at hy; subst hy;exact ⟨us, q1, q2, q3, q4⟩
     exact this len (Nat.le_refl _)
    obtain ⟨xs, hx1, hx2⟩ := hex;refine ⟨xs, _, rfl, ?_, fun y hy => ?_, by omega⟩
    ·simp only [Rep];refine ⟨some a, cap, by rw [hx1], by omega, by omega, fun i y hy => ?_⟩;obtain ⟨us, q1, q2, q3, _⟩ := hx2 i y hy;refine ⟨a, us, rfl, q1, q3, fun j u hu => ?_⟩;have := q2 j u hu
     have hadd : (a.add (i * sz)).add j = a.add (i * sz + j) := by
      unfold Addr.add;by_cases k1 : i * sz = 0
      ·rw [k1]; simp
      ·by_cases k2 : j = 0
       ·subst k2; simp [k1]
       ·simp [k1, k2, Nat.add_assoc]
     rwa [hadd] at this
    ·obtain ⟨i, hi, rfl⟩ := List.mem_iff_getElem.1 hy;obtain ⟨_, _, _, _, hq⟩ := hx2 i _ (List.getElem?_eq_getElem hi);exact hq
   ·cases h
end
end Go.AL
namespace Go.AL
def ZB (z : Z) : Prop := WOk z.w ∧ z.w.length ≤ maxLen
theorem list2 {α : Type} {l : List α} (h : l.length = 2) : ∃ a b, l = [a, b] := by
 match l, h with
 | [a, b], _ => exact ⟨a, b, rfl⟩
end Go.AL
namespace Go.Proofs.YtcaecieigoplbaaGreat
open Go.AL Go.ChangeShapes Go.WideShapes Go.ChangeAt Go.RowKit
section
variable {H : Type} {enc : TypeId × Value → H} {w : World} {base : Nat} {spare : Nat → Bool} {held : Bool}
theorem wfU32 {n : Int} (h : (Lit.int .u32 n).wf = true) : 0 ≤ n ∧ n < 4294967296 := by
 simp [Lit.wf] at h;have h1 : IntKind.u32.min = 0 := rfl;have h2 : IntKind.u32.max = 4294967295 := rfl;omega
theorem trodW {fuel : Nat} {cs : List Value} {x : DataW H × List MemPlace} (h : DataW.trod enc Tryz.prog w base spare held fuel 33 cs = some x) : ∃ (xs : List Int) (u : Value), cs = [u] ∧ Rep (hpOf w) noB (aW xs) u ∧ WOk xs ∧ xs.length ≤ maxLen := by
 refine trodSlice 1 eW (fun n => 0 ≤ n ∧ n < 4294967296) Tryz.underlying33 (by kernel_rfl) (fun fuel us y _ hy => ?_) h;obtain ⟨n, rfl, hn⟩ := trodInt Tryz.underlying62 hy;exact ⟨n, ⟨_, _, rfl, by simp only [Rep], rfl⟩, wfU32 hn⟩
theorem trodZ {fuel : Nat} {cs : List Value} {x : DataW H × List MemPlace} (h : DataW.trod enc Tryz.prog w base spare held fuel 35 cs = some x) : ∃ z : Z, RepL (hpOf w) noB (eZ z) cs ∧ ZB z := by
 obtain ⟨y0, y1, n, _, hl, h0, h1⟩ := trod_struct2 Tryz.underlying35 h
 have hc : Tryz.prog.cellsOf 35 = 2 := by kernel_rfl
 have hb : Tryz.prog.cellsOf 4 = 1 := by kernel_rfl
 have hs : Tryz.prog.cellsOf 33 = 1 := by kernel_rfl
 rw [hc] at hl;obtain ⟨c0, c1, rfl⟩ := list2 hl;simp only [hb, hs, List.drop_zero, List.take_succ_cons, List.take_zero, List.drop_succ_cons] at h0 h1;obtain ⟨b, e0⟩ := trodBool Tryz.underlying4 h0;obtain ⟨xs, u, e1, hr, hw, hm⟩ := trodW h1;injection e0 with e0; injection e1 with e1; subst e0 e1;exact ⟨⟨b, xs⟩, ⟨_, _, rfl, by simp only [Rep], ⟨_, _, rfl, hr, rfl⟩⟩, hw, hm⟩
end
theorem below_of {W W' : World} {h h' : Hp} (e : Evo never W h W' h') : Below W.heap.size W W' := ⟨e.os, e.tape, e.output.1, e.size, fun k hk => e.block k hk (fun x => x)⟩
theorem own : ownKnob Tryz.prog.godebug = none := by kernel_rfl
theorem lb : laidOutB Tryz.prog = true := by kernel_rfl
end Go.Proofs.YtcaecieigoplbaaGreat
/- Arguments that are lists of numbers. -/
namespace Go.Proofs.YtcaecieigoplbaaGreat
open Go.AL Go.ChangeShapes Go.WideShapes Go.ChangeAt Go.RowKit
section
variable {H : Type} {enc : TypeId × Value → H} {w : World} {base : Nat} {spare : Nat → Bool} {held : Bool}
theorem trodXs1 {fuel : Nat} {cs : List Value} {x : DataW H × List MemPlace} (h : DataW.trod enc Tryz.prog w base spare held fuel 27 cs = some x) : ∃ (xs : List Z) (u : Value), cs = [u] ∧ Rep (hpOf w) noB (.sl 2 eZ xs) u ∧ (∀ z ∈ xs, ZB z) ∧ xs.length ≤ maxLen :=
 trodSlice 2 eZ ZB Tryz.underlying27 (by kernel_rfl) (fun fuel us y _ hy => trodZ hy) h
end
end Go.Proofs.YtcaecieigoplbaaGreat
namespace Go.AL
section
variable {P : Program} {tab : Tab} {n : Nat} {s : St}
variable {ops : Array Oper} {draw : Dr} {o : Oper} {l : List Oper} {acc : List Eff} {K : Exit → St → Prop}
end
theorem ordX_eq : ∀ (a b : List Int) (x y : Int), a.length = b.length → ordX x y a b = if x = y then cmpL a b else cmpI x y
 | [], [], x, y, _ => by
  simp only [ordX, cmpL];split
  ·rename_i h; rw [cmpI_eq h]
  ·rfl
 | [], _ :: _, _, _, h => by simp at h
 | _ :: _, [], _, _, h => by simp at h
 | a :: l, b :: m, x, y, h => by
  simp only [ordX, cmpL];split
  ·rw [ordX_eq l m a b (by simpa using h)];by_cases hab : a = b
   ·rw [if_pos hab, if_pos (cmpI_zero.2 hab)]
   ·rw [if_neg hab, if_neg fun k => hab (cmpI_zero.1 k)]
  ·rfl
theorem cmpI_cases (x y : Int) : cmpI x y = 1 ∧ y < x ∨ cmpI x y = 0 ∧ x = y ∨ cmpI x y = -1 ∧ x < y := by
 unfold cmpI;split
 ·exact .inr (.inr ⟨rfl, by omega⟩)
 ·split
  ·exact .inl ⟨rfl, by omega⟩
  ·exact .inr (.inl ⟨rfl, by omega⟩)
theorem cmpI_swap (x y : Int) : cmpI x y = - cmpI y x := by
 have h1 := cmpI_cases x y;have h2 := cmpI_cases y x;omega
theorem cmpL_swap : ∀ (a b : List Int), a.length = b.length → cmpL a b = - cmpL b a
 | [], [], _ => rfl
 | [], _ :: _, h => by simp at h
 | _ :: _, [], h => by simp at h
 | x :: a, y :: b, h => by
  simp only [cmpL];have hs := cmpI_swap x y;by_cases hz : cmpI x y = 0
  ·rw [if_pos hz, if_pos (by omega)]; exact cmpL_swap a b (by simpa using h)
  ·rw [if_neg hz, if_neg (by omega)]; exact hs
theorem cmpL_range : ∀ (a b : List Int), cmpL a b = 1 ∨ cmpL a b = 0 ∨ cmpL a b = -1
 | [], [] => .inr (.inl rfl)
 | [], _ :: _ => .inr (.inr rfl)
 | _ :: _, [] => .inl rfl
 | x :: a, y :: b => by
  simp only [cmpL];split
  ·exact cmpL_range a b
  ·rcases cmpI_cases x y with h | h | h <;> omega
theorem rOrd_one {a b : List Int} (h : a.length = b.length) : rOrd a b = 1 ↔ ordI a b < 0 := by
 unfold rOrd ordI;rw [ordX_eq a b _ _ h];have hs := cmpL_swap a b h;have hr := cmpL_range a b;by_cases hz : sumL a = sumL b
 ·rw [if_pos hz, if_pos (by omega)]; omega
 ·rw [if_neg hz, if_neg (by omega)];rcases cmpI_cases (sumL a) (sumL b) with k | k | k <;> omega
def WLP (p : PZ) : Prop := p.terms.length ≤ 9223372036854775807 ∧ ∀ t ∈ p.terms, t.c.w.length ≤ 9223372036854775807
end Go.AL
namespace Go.Proofs.YtcaecieigoplbaaGreat
open Go.AL
theorem rterm_ok (t : TZ) (vars : Int) (hw : WT t) (hl : t.c.w.length ≤ 9223372036854775807) (hv : vars ≤ 32) (b : Bool) (hb : b = true ↔ OkT vars t) : PureFn Tryz.prog 172 [aT t, aN vars] (aB b) := by
 refine PureFn.of_body Tryz.func172 rfl Tryz.ntmps172 rfl rfl ?_
 have hfalse : ¬ OkT vars t → false = b := fun h => by cases b with | false => rfl | true => exact absurd (hb.1 rfl) h
 (repeat' (first |refine qv ?_ |apply qn |apply qs |apply qr |refine qe ?_|fail));refine qc (rValid_ok t.c hw hl) ?_;(repeat' (first |refine qv ?_ |apply qn |apply qs |apply qr |refine Fl.skip rfl rfl ?_ |refine AWP.condT rfl ?_ |apply qt |(refine Fl.splitN rfl rfl ?_ ?_ <;> intro _ <;> try (exfalso; omega))))
 ·rename_i h; exact RetOk.of rfl (AV.Le.bool (hfalse fun k => h k.coef))
 refine qc (rZero_ok t.c) ?_;(repeat' (first |refine qv ?_ |apply qn |apply qs |apply qr |refine Fl.skip rfl rfl ?_ |refine AWP.condT rfl ?_ |(refine AWP.condN rfl ?_ ?_ <;> intro _ <;> try (exfalso; omega)) |apply qb |apply qk |apply qt |(refine Fl.splitD rfl rfl ?_ ?_ <;> intro _ <;> try (exfalso; omega))))
 ·rename_i h; exact RetOk.of rfl (AV.Le.bool (hfalse fun k => k.nz h))
 ·rename_i h; exact RetOk.of rfl (AV.Le.bool (hfalse fun k => h k.len))
 rename_i hc hz hlen;refine AWP.loop (G := Nat) (fun i => i ≤ t.e.length ∧ EOk (t.e.take i)) (fun i => St.of [] [(1, aN vars), (2, .ptr 2 0), (5, aN i)] [(2, .cells (eT t) 124)]) (fun i => t.e.length - i) 0 ⟨by omega, fun e he => by simp at he⟩ ?_ ?_
 ·refine Ent.of [] ?_ ?_ rfl rfl;(repeat' (first |exact True.intro |refine ⟨⟨AV.Le.refl _, rfl⟩, ?_⟩ |refine ⟨⟨⟨_, rfl, BLe.cells (LeL.refl _)⟩, rfl⟩, ?_⟩|fail))
 ·intro i ⟨k0, k1⟩;(repeat' (first |refine qv ?_ |apply qn |apply qs |apply qr |refine qw ?_ |refine Fl.skip rfl rfl ?_ |refine AWP.condT rfl ?_ |(refine AWP.condD rfl ?_ ?_ <;> intro _ <;> try (exfalso; omega)) |apply qb |apply qk |apply qx |apply qt |refine qK ?_ |(refine Fl.el rfl rfl rfl rfl rfl rfl rfl rfl (by omega) (by omega) ?_; intro _ _) |(refine Fl.splitD rfl rfl ?_ ?_ <;> intro _ <;> try (exfalso; omega))))
  ·rename_i hi e he h0;rw [Int.toNat_natCast] at he;exact RetOk.of rfl (AV.Le.bool (hfalse fun k => by have := k.exps.get he; omega))
  ·rename_i hi e he h0 h1;rw [Int.toNat_natCast] at he;exact RetOk.of rfl (AV.Le.bool (hfalse fun k => by have := k.exps.get he; omega))
  ·rename_i hi e he h0 h1;rw [Int.toNat_natCast] at he;refine LoopEnd.of (i + 1) ⟨by omega, ?_⟩ (by omega) ?_
   ·rw [take_snoc he];intro x hx;rcases List.mem_append.1 hx with hx | hx
    ·exact k1 x hx
    ·simp only [List.mem_singleton] at hx; subst hx; omega
   ·refine Ent.of [] ?_ ?_ rfl rfl;(repeat' (first |exact True.intro |refine ⟨⟨AV.Le.refl _, rfl⟩, ?_⟩ |refine ⟨⟨⟨_, rfl, BLe.cells (LeL.refl _)⟩, rfl⟩, ?_⟩|fail))
  ·rename_i hi
   have hee : EOk t.e := by rwa [List.take_of_length_le (by omega)] at k1
   refine qc (rdegree_ok t.e hee (by omega)) ?_;(repeat' (first |refine qv ?_ |apply qn |apply qt));refine RetOk.of rfl (AV.Le.bool ?_)
   cases b with
   | true => exact decide_eq_true (hb.1 rfl).deg
   | false => exact decide_eq_false fun k => by have := hb.2 ⟨hc, hz, hlen, hee, k⟩; cases this
theorem rpValid_ok (p : PZ) (hw : WP p) (hl : WLP p) (b : Bool) (hb : b = true ↔ OkP p) : PureFn Tryz.prog 122 [aP p] (aB b) := by
 refine PureFn.of_body Tryz.func122 rfl Tryz.ntmps122 rfl rfl ?_
 have hfalse : ¬ OkP p → false = b := fun h => by cases b with | false => rfl | true => exact absurd (hb.1 rfl) h
 obtain ⟨f, hf⟩ := boolOf (fun t : TZ => OkT p.vars t);(repeat' (first |refine qv ?_ |apply qn |apply qs |apply qr |refine qe ?_ |refine Fl.skip rfl rfl ?_ |refine AWP.condT rfl ?_ |(refine AWP.condD rfl ?_ ?_ <;> intro _ <;> try (exfalso; omega)) |apply qb |apply qk |apply qt |(refine Fl.splitD rfl rfl ?_ ?_ <;> intro _ <;> try (exfalso; omega))))
 ·rename_i h; exact RetOk.of rfl (AV.Le.bool (hfalse fun k => by have := k.v0; omega))
 ·rename_i h; exact RetOk.of rfl (AV.Le.bool (hfalse fun k => by have := k.v1; omega))
 ·rename_i h; exact RetOk.of rfl (AV.Le.bool (hfalse fun k => by have := k.len; omega))
 rename_i hv0 hv1 hlen;refine AWP.loop (G := Nat) (fun i => i ≤ p.terms.length ∧ (∀ t ∈ p.terms.take i, OkT p.vars t) ∧ ∀ (j : Nat) (a b : TZ), j + 1 < i → p.terms[j]? = some a → p.terms[j + 1]? = some b → ordI a.e b.e < 0)
  (fun i => St.of [] [(1, .ptr 1 0), (3, aN i)] [(1, .cells [aN p.vars, .sl 3 eT p.terms] 70)]) (fun i => p.terms.length - i) 0 ⟨by omega, by simp, fun j a b h => by omega⟩ ?_ ?_
 ·refine Ent.of [] ?_ ?_ rfl rfl;(repeat' (first |exact True.intro |refine ⟨⟨AV.Le.refl _, rfl⟩, ?_⟩ |refine ⟨⟨⟨_, rfl, BLe.cells (LeL.refl _)⟩, rfl⟩, ?_⟩|fail))
 ·intro i ⟨k0, k1, k2⟩;by_cases hi : i < p.terms.length
  ·obtain ⟨t, ht⟩ : ∃ t, p.terms[i]? = some t := ⟨_, List.getElem?_eq_getElem hi⟩;have htm := List.mem_of_getElem? ht;have hall : ¬ OkT p.vars t → ¬ OkP p := fun h k => h (k.terms t htm);have hte := rterm_ok t p.vars (hw t htm) (hl.2 t htm) (by omega) (f t) (hf t);by_cases hot : OkT p.vars t
   ·rw [(hf t).2 hot] at hte;by_cases hi0 : 0 < i
    ·obtain ⟨a, ha⟩ : ∃ a, p.terms[i - 1]? = some a := ⟨_, List.getElem?_eq_getElem (by omega)⟩
     have ha' : p.terms[((i : Int) - 1).toNat]? = some a := by rwa [show ((i : Int) - 1).toNat = i - 1 by omega]
     have hoa := k1 a (List.mem_of_getElem? (i := i - 1) (by rw [List.getElem?_take_of_lt (by omega)]; exact ha))
     have hleq : a.e.length = t.e.length := by have := hoa.len; have := hot.len; omega
     have hord := rOrder_ok a.e t.e hoa.exps hot.exps (by have := hoa.len; omega) hleq.symm;have hone := rOrd_one hleq;(repeat' (first |refine qv ?_ |apply qn |apply qs |apply qr |(refine AWP.condD rfl ?_ ?_ <;> intro _ <;> try (exfalso; omega)) |apply qb |apply qk |refine qK ?_|fail));refine qc (hte) ?_;(repeat' (first |refine qv ?_ |refine qw ?_ |refine qK ?_ |(refine Fl.splitD rfl rfl ?_ ?_ <;> intro _ <;> try (exfalso; omega))));refine qc (hord) ?_;(repeat' (first |refine qv ?_ |apply qn |refine Fl.nil (fun _ => by kernel_rfl) ?_ |apply qs |apply qr |refine qw ?_ |(refine AWP.condN rfl ?_ ?_ <;> intro _ <;> try (exfalso; omega)) |apply qk |apply qt))
     ·rename_i ho;refine RetOk.of rfl (AV.Le.bool (hfalse fun k => ho (hone.2 (k.ord (i - 1) a t ha (by rwa [show i - 1 + 1 = i by omega])))))
     ·rename_i ho;refine LoopEnd.of (i + 1) ⟨by omega, all_take_succ ht k1 hot, fun j a' b' hj h1 h2 => ?_⟩ (by omega) ?_
      ·by_cases hji : j + 1 < i
       ·exact k2 j a' b' hji h1 h2
       ·have hj' : j = i - 1 := by omega
        subst hj';rw [ha] at h1; cases h1;rw [show i - 1 + 1 = i by omega, ht] at h2; cases h2;exact hone.1 ho
      ·refine Ent.of [] ?_ ?_ rfl rfl;(repeat' (first |exact True.intro |refine ⟨⟨AV.Le.refl _, rfl⟩, ?_⟩ |refine ⟨⟨⟨_, rfl, BLe.cells (LeL.refl _)⟩, rfl⟩, ?_⟩|fail))
    ·(repeat' (first |refine qv ?_ |apply qn |apply qs |apply qr |(refine AWP.condD rfl ?_ ?_ <;> intro _ <;> try (exfalso; omega)) |apply qb |apply qk |refine qK ?_|fail));refine qc (hte) ?_;(repeat' (first |refine qv ?_ |apply qn |refine Fl.nil (fun _ => by kernel_rfl) ?_ |apply qr |refine qw ?_ |refine Fl.skip rfl rfl ?_ |refine AWP.condF rfl ?_ |apply qk |(refine Fl.splitD rfl rfl ?_ ?_ <;> intro _ <;> try (exfalso; omega))));refine LoopEnd.of (i + 1) ⟨by omega, all_take_succ ht k1 hot, fun j a' b' hj h1 h2 => by omega⟩ (by omega) ?_;refine Ent.of [] ?_ ?_ rfl rfl;(repeat' (first |exact True.intro |refine ⟨⟨AV.Le.refl _, rfl⟩, ?_⟩ |refine ⟨⟨⟨_, rfl, BLe.cells (LeL.refl _)⟩, rfl⟩, ?_⟩|fail))
   ·rw [show f t = false from Bool.eq_false_iff.2 fun h => hot ((hf t).1 h)] at hte;(repeat' (first |refine qv ?_ |apply qn |apply qs |apply qr |(refine AWP.condD rfl ?_ ?_ <;> intro _ <;> try (exfalso; omega)) |apply qb |apply qk |refine qK ?_|fail));refine qc (hte) ?_;(repeat' (first |refine qv ?_ |apply qn |refine Fl.nil (fun _ => by kernel_rfl) ?_ |apply qs |apply qr |refine Fl.skip rfl rfl ?_ |refine AWP.condT rfl ?_ |apply qt));exact RetOk.of rfl (AV.Le.bool (hfalse (hall hot)))
  ·(repeat' (first |refine qv ?_ |apply qn |apply qs |apply qr |(refine AWP.condD rfl ?_ ?_ <;> intro _ <;> try (exfalso; omega)) |apply qx |apply qt));refine RetOk.of rfl (AV.Le.bool (Eq.symm (hb.2 ⟨by omega, by omega, by omega, fun t ht => k1 t ?_, fun j a b ha hb => k2 j a b ?_ ha hb⟩)))
   ·rwa [show i = p.terms.length by omega, List.take_length]
   ·have := (List.getElem?_eq_some_iff.1 hb).1;omega
end Go.Proofs.YtcaecieigoplbaaGreat
namespace Go.AL
end Go.AL
namespace Go.Proofs.YtcaecieigoplbaaGreat
open Go.AL
end Go.Proofs.YtcaecieigoplbaaGreat
namespace Go.AL
end Go.AL
namespace Go.Proofs.YtcaecieigoplbaaGreat
open Go.AL
end Go.Proofs.YtcaecieigoplbaaGreat
namespace Go.AL
end Go.AL
namespace Go.Proofs.YtcaecieigoplbaaGreat
open Go.AL
end Go.Proofs.YtcaecieigoplbaaGreat
namespace Go.Proofs.YtcaecieigoplbaaGreat
open Go.Shelf
def sortL_ren : Go.Shelf.Ren := ⟨fun | 6 => 234 | 15 => 238 | 14 => 237 | 28 => 210 | 29 => 248 | 20 => 240 | 21 => 241 | 22 => 242 | 23 => 243 | 24 => 244 | 25 => 245 | 26 => 246 | 27 => 247 | 46 => 250 | 47 => 251 | 48 => 252 | 49 => 253 | 50 => 254 | 57 => 255 | n => n, fun | 22 => 68 | 24 => 124 | 25 => 208 | 3 => 3 | 39 => 98 | 0 => 0 | 53 => 62 | 55 => 96 | 4 => 4 | 46 => 225 | 45 => 224 | 50 => 43 | 5 => 5 | 9 => 9 | 66 => 231 | 70 => 235 | 76 => 237 | 77 => 238 | n => n, fun | n => n⟩
theorem sortL : Go.Proofs.SlLaysF0.n6 Tryz.prog sortL_ren := {
 mixed := by kernel_rfl
 f6 := ⟨Tryz.f234.name, by decide, Tryz.func234.trans (congrArg some (by kernel_rfl))⟩
 f14 := ⟨Tryz.f237.name, by decide, Tryz.func237.trans (congrArg some (by kernel_rfl))⟩
 f15 := Tryz.func238.trans (congrArg some (by kernel_rfl))
 f20 := ⟨Tryz.f240.name, by decide, Tryz.func240.trans (congrArg some (by kernel_rfl))⟩
 f21 := ⟨Tryz.f241.name, by decide, Tryz.func241.trans (congrArg some (by kernel_rfl))⟩
 f22 := ⟨Tryz.f242.name, by decide, Tryz.func242.trans (congrArg some (by kernel_rfl))⟩
 f23 := ⟨Tryz.f243.name, by decide, Tryz.func243.trans (congrArg some (by kernel_rfl))⟩
 f24 := ⟨Tryz.f244.name, by decide, Tryz.func244.trans (congrArg some (by kernel_rfl))⟩
 f25 := ⟨Tryz.f245.name, by decide, Tryz.func245.trans (congrArg some (by kernel_rfl))⟩
 f26 := ⟨Tryz.f246.name, by decide, Tryz.func246.trans (congrArg some (by kernel_rfl))⟩
 f27 := ⟨Tryz.f247.name, by decide, Tryz.func247.trans (congrArg some (by kernel_rfl))⟩
 f28 := Tryz.func210.trans (congrArg some (by kernel_rfl))
 f29 := Tryz.func248.trans (congrArg some (by kernel_rfl))
 f46 := ⟨Tryz.f250.name, by decide, Tryz.func250.trans (congrArg some (by kernel_rfl))⟩
 f47 := Tryz.func251.trans (congrArg some (by kernel_rfl))
 f48 := Tryz.func252.trans (congrArg some (by kernel_rfl))
 f49 := ⟨Tryz.f253.name, by decide, Tryz.func253.trans (congrArg some (by kernel_rfl))⟩
 f50 := ⟨Tryz.f254.name, by decide, Tryz.func254.trans (congrArg some (by kernel_rfl))⟩
 f57 := ⟨Tryz.f255.name, by decide, Tryz.func255.trans (congrArg some (by kernel_rfl))⟩
 t0 := Tryz.underlying0
 a0 := Tryz.isAgg0
 z0 := Tryz.sizeOf0
 v0 := Tryz.zeroValue0
 t3 := Tryz.underlying3
 a3 := Tryz.isAgg3
 z3 := Tryz.sizeOf3
 v3 := Tryz.zeroValue3
 t4 := Tryz.underlying4
 a4 := Tryz.isAgg4
 z4 := Tryz.sizeOf4
 v4 := Tryz.zeroValue4
 t5 := Tryz.underlying5
 a5 := Tryz.isAgg5
 z5 := Tryz.sizeOf5
 v5 := Tryz.zeroValue5
 t9 := Tryz.underlying9
 a9 := Tryz.isAgg9
 z9 := Tryz.sizeOf9
 v9 := Tryz.zeroValue9
 t22 := Tryz.underlying68
 a22 := Tryz.isAgg68
 z22 := Tryz.sizeOf68
 v22 := Tryz.zeroValue68
 t25 := Tryz.underlying208
 a25 := Tryz.isAgg208
 z25 := Tryz.sizeOf208
 v25 := Tryz.zeroValue208
 t39 := Tryz.underlying98
 a39 := Tryz.isAgg98
 z39 := Tryz.sizeOf98
 v39 := Tryz.zeroValue98
 t45 := Tryz.underlying224
 a45 := Tryz.isAgg224
 z45 := Tryz.sizeOf224
 v45 := Tryz.zeroValue224
 t46 := Tryz.underlying225
 a46 := Tryz.isAgg225
 z46 := Tryz.sizeOf225
 v46 := Tryz.zeroValue225
 t50 := Tryz.underlying43
 a50 := Tryz.isAgg43
 z50 := Tryz.sizeOf43
 v50 := Tryz.zeroValue43
 t53 := Tryz.underlying62
 a53 := Tryz.isAgg62
 z53 := Tryz.sizeOf62
 v53 := Tryz.zeroValue62
 t55 := Tryz.underlying96
 a55 := Tryz.isAgg96
 z55 := Tryz.sizeOf96
 v55 := Tryz.zeroValue96
 t66 := Tryz.underlying231
 a66 := Tryz.isAgg231
 z66 := Tryz.sizeOf231
 v66 := Tryz.zeroValue231
 t70 := Tryz.underlying235
 a70 := Tryz.isAgg235
 z70 := Tryz.sizeOf235
 v70 := Tryz.zeroValue235
 t76 := Tryz.underlying237
 a76 := Tryz.isAgg237
 z76 := Tryz.sizeOf237
 v76 := Tryz.zeroValue237
 t77 := Tryz.underlying238
 a77 := Tryz.isAgg238
 z77 := Tryz.sizeOf238
 v77 := Tryz.zeroValue238 }
end Go.Proofs.YtcaecieigoplbaaGreat
namespace Go.AL
theorem repL_set {h : Hp} {β β' : Bt} (hb : β.le β') : ∀ (cs : List AV) (us : List Value) (j : Nat) (v : AV) (u : Value), RepL h β cs us → us[j]? = some u → Rep h β' v u → RepL h β' (cs.set j v) us
 | [], us, j, v, u, hr, hj, hv => by simp only [RepL] at hr; subst hr; simp at hj
 | c :: cs, us, 0, v, u, hr, hj, hv => by
  simp only [RepL] at hr;obtain ⟨u0, r, rfl, h1, h2⟩ := hr;simp at hj; subst hj;exact RepL.cons hv (h2.mono (Hp.le.refl h) hb)
 | c :: cs, us, j + 1, v, u, hr, hj, hv => by
  simp only [RepL] at hr;obtain ⟨u0, r, rfl, h1, h2⟩ := hr;exact RepL.cons (h1.mono (Hp.le.refl h) hb) (repL_set hb cs r j v u h2 (by simpa using hj) hv)
theorem Ent.nilcell {n : Nat} {I : List Id} {s : St} (id : Id) (j : Nat) (b : Id) {cs : List AV} {t : TypeId} (hb : s.bx id = some (.cells cs t)) (hj : cs[j]? = some (.v (.slice none 0 0))) (hal : s.al b = false) {α : Type} (sz : Nat) (enc : α → List AV) (t' : TypeId) :
  Ent n I s ((Eff.mk .any [(id, .cells (cs.set j (.row b)) t)] [] [] []).app none ((Eff.mk .any [(b, .row sz enc ([] : List α) t')] [] [b] []).app none s)) := by
 intro C a w h β hi k
 have hB : BoxAt w h (β.set b (.slice none 0 0)) b (.row sz enc ([] : List α) t') :=
  ⟨_, [], Bt.set_same _ _ _, World.ownsRow_nil w 0 t' sz, RepL.nil, (fun x hx => by cases hx), (fun g hg => by simp [Value.ownBlock] at hg)⟩
 have k1 := k.addbox hal (bv := .slice none 0 0) hB (fun g hg => by simp [blk] at hg) none (fun t ht => by cases ht) (v := .any) (u := undef) (by simp only [Rep]) []
 have hne : id ≠ b := fun e => by
  subst e;obtain ⟨g, us, e, _⟩ := k.box id _ hb;rw [k.dom id hal] at e; cases e
 have hb1 : ((Eff.mk AV.any [(b, .row sz enc ([] : List α) t')] [] [b] []).app none s).bx id = some (.cells cs t) := by
  simp [Eff.app, updB, delB, beq_ne hne, hb]
 obtain ⟨g, us, e, hh, hr, hn⟩ := k1.box id _ hb1;obtain ⟨u, hu1, hu2⟩ := hr.get j _ hj
 have hu2 : u = .slice none 0 0 := by simpa only [Rep] using hu2
 subst hu2;exact ⟨h, _, k1.setbox (B' := .cells (cs.set j (.row b)) t) hb1 rfl rfl ⟨rfl, Nat.le_refl _⟩ rfl (fun _ _ => rfl) ⟨g, us, e, hh, repL_set (Bt.le.refl _) _ _ j _ _ hr hu1 (by simp only [Rep]; exact ⟨Bt.set_same _ _ _, _, _, _, rfl⟩), hn⟩ ⟨g, by simp [e, blk]⟩ none (fun t ht => by cases ht) (v := .any) (u := undef) (by simp only [Rep]) []⟩
end Go.AL
namespace Go.Proofs.YtcaecieigoplbaaGreat
open Go.AL
theorem cloneI_ok (l : List Int) (hl : l.length ≤ 100000) : PureFn Tryz.prog 233 [aI l] (aI l) := by
 refine PureFn.of_body Tryz.func233 rfl Tryz.ntmps233 rfl rfl ?_;refine AWP.seqS ?_;(repeat' (first |refine qv ?_ |apply qn |apply qr));refine ⟨AWP.seq (AWP.seq (AWP.nilTest rfl rfl rfl rfl rfl rfl rfl rfl rfl rfl ?_))⟩;intro b hb
 cases b with
 | true =>
  (repeat' (first |refine qv ?_ |apply qn |apply qs |apply qr |refine AWP.condT rfl ?_ |apply qt));rw [hb rfl];exact RetOk.of rfl (AV.Le.nil 1 eI)
 | false =>
  (repeat' (first |apply qs |apply qr |refine AWP.condF rfl ?_ |apply qk));refine Fl.litrow rfl rfl rfl rfl rfl rfl rfl eI [] rfl rfl rfl rfl (by simp) (LeL.refl _) ?_;(repeat' (first |refine qv ?_|fail));refine qa (hby := (by dsimp only [List.length_nil]; omega)) (hm := (by simp; omega)) (r := ?_);(repeat' (first |refine qv ?_ |apply qn |apply qt));refine RetOk.ent (Ent.freeze 7 rfl) ?_;exact RetOk.of rfl (AV.Le.refl _)
end Go.Proofs.YtcaecieigoplbaaGreat
/- Maps: the rules of their operations. -/
namespace Go.AL
open Go.ChangeMaps (setBlock)
section
variable {κ α : Type} {h : Hp} {ek : κ → Value} {av : α → AV}
theorem MapRep.len : ∀ {xs : List (κ × α × Nat)} {es : List MapEntry}, MapRep h ek av xs es → es.length = xs.length
 | [], es, k => by simp only [MapRep] at k; simp [k]
 | _ :: _, es, ⟨e, r, h1, _, _, _, h5⟩ => by rw [h1]; simp [h5.len]
theorem MapRep.stamps : ∀ {xs : List (κ × α × Nat)} {es : List MapEntry}, MapRep h ek av xs es → es.map (·.born) = xs.map (·.2.2)
 | [], es, k => by simp only [MapRep] at k; simp [k]
 | _ :: _, es, ⟨e, r, h1, _, _, h4, h5⟩ => by rw [h1]; simp [h4, h5.stamps]
theorem MapRep.mem : ∀ {xs : List (κ × α × Nat)} {es : List MapEntry}, MapRep h ek av xs es → ∀ e ∈ es, ∃ p ∈ xs, e.key = ek p.1 ∧ Rep h noB (av p.2.1) e.val ∧ e.born = p.2.2
 | [], es, k, e, he => by simp only [MapRep] at k; subst k; cases he
 | p :: xs, es, ⟨e, r, h1, h2, h3, h4, h5⟩, e', he => by
  subst h1;rcases List.mem_cons.1 he with rfl | he
  ·exact ⟨p, by simp, h2, h3, h4⟩
  ·obtain ⟨q, hq, h⟩ := h5.mem e' he;exact ⟨q, by simp [hq], h⟩
theorem MapRep.mem' : ∀ {xs : List (κ × α × Nat)} {es : List MapEntry}, MapRep h ek av xs es → ∀ p ∈ xs, ∃ e ∈ es, e.key = ek p.1 ∧ Rep h noB (av p.2.1) e.val ∧ e.born = p.2.2
 | [], es, k, e, he => by cases he
 | p :: xs, es, ⟨e, r, h1, h2, h3, h4, h5⟩, p', he => by
  subst h1;rcases List.mem_cons.1 he with rfl | he
  ·exact ⟨e, by simp, h2, h3, h4⟩
  ·obtain ⟨q, hq, h⟩ := h5.mem' p' he;exact ⟨q, by simp [hq], h⟩
theorem MapRep.push {k : κ} {x : α} {c : Nat} {v : Value} (hv : Rep h noB (av x) v) : ∀ {xs : List (κ × α × Nat)} {es : List MapEntry}, MapRep h ek av xs es → MapRep h ek av (xs ++ [(k, x, c)]) (es ++ [⟨ek k, v, c⟩])
 | [], es, m => by simp only [MapRep] at m; subst m; exact ⟨_, [], rfl, rfl, hv, rfl, rfl⟩
 | p :: xs, es, ⟨e, r, h1, h2, h3, h4, h5⟩ => by subst h1; exact ⟨e, _, rfl, h2, h3, h4, h5.push hv⟩
theorem MapRep.set {k : κ} {x : α} {v : Value} (hv : Rep h noB (av x) v) : ∀ {xs : List (κ × α × Nat)} {es : List MapEntry} (j : Nat) (p : κ × α × Nat), MapRep h ek av xs es → xs[j]? = some p → MapRep h ek av (xs.set j (k, x, p.2.2)) (es.modify j fun e => { e with key := ek k, val := v })
 | [], es, j, p, m, hp => by simp at hp
 | q :: xs, es, 0, p, ⟨e, r, h1, h2, h3, h4, h5⟩, hp => by
  subst h1; simp at hp; subst hp;exact ⟨_, r, rfl, rfl, hv, h4, h5⟩
 | q :: xs, es, j + 1, p, ⟨e, r, h1, h2, h3, h4, h5⟩, hp => by
  subst h1;exact ⟨e, _, rfl, h2, h3, h4, MapRep.set hv j p h5 (by simpa using hp)⟩
theorem MapRep.erase : ∀ {xs : List (κ × α × Nat)} {es : List MapEntry} (j : Nat), MapRep h ek av xs es → MapRep h ek av (xs.eraseIdx j) (es.eraseIdx j)
 | [], es, j, m => by simp only [MapRep] at m; subst m; simp [MapRep]
 | q :: xs, es, 0, ⟨e, r, h1, h2, h3, h4, h5⟩ => by subst h1; exact h5
 | q :: xs, es, j + 1, ⟨e, r, h1, h2, h3, h4, h5⟩ => by subst h1; exact ⟨e, _, rfl, h2, h3, h4, MapRep.erase j h5⟩
variable [DecidableEq κ]
def findM (k : κ) : List (κ × α × Nat) → Nat → Option (Nat × (κ × α × Nat))
  | [], _ => none
  | p :: xs, i => if k = p.1 then some (i, p) else findM k xs (i + 1)
def putM (k : κ) (x : α) (c : Nat) (xs : List (κ × α × Nat)) : List (κ × α × Nat) := match findM k xs 0 with | some (j, p) => xs.set j (k, x, p.2.2) | none => xs ++ [(k, x, c)]
def putC (k : κ) (c : Nat) (xs : List (κ × α × Nat)) : Nat := match findM k xs 0 with | some _ => c | none => c + 1
def delM (k : κ) (xs : List (κ × α × Nat)) : List (κ × α × Nat) := match findM k xs 0 with | some (j, _) => xs.eraseIdx j | none => xs
theorem findM_get {k : κ} : ∀ {xs : List (κ × α × Nat)} {i j : Nat} {p : κ × α × Nat}, findM k xs i = some (j, p) → i ≤ j ∧ xs[j - i]? = some p ∧ p.1 = k
 | [], i, j, p, hf => by simp [findM] at hf
 | q :: xs, i, j, p, hf => by
  unfold findM at hf;split at hf
  ·rename_i hk;injection hf with hf; injection hf with h1 h2; subst h1 h2;exact ⟨Nat.le_refl _, by simp, hk.symm⟩
  ·obtain ⟨h1, h2, h3⟩ := findM_get hf;refine ⟨by omega, ?_, h3⟩;rw [show j - i = (j - (i + 1)) + 1 by omega];simpa using h2
def FindRes (h : Hp) (av : α → AV) : Option (Nat × (κ × α × Nat)) → Option (Nat × Value) → Prop
  | none, r => r = none
  | some (j, p), r => ∃ u, r = some (j, u) ∧ Rep h noB (av p.2.1) u
end
theorem findM_put {κ α : Type} [DecidableEq κ] (k : κ) (x : α) (c : Nat) (xs : List (κ × α × Nat)) : ∃ j p, findM k (putM k x c xs) 0 = some (j, p) ∧ p.2.1 = x := by
 have app : ∀ (xs : List (κ × α × Nat)) (i : Nat), findM k xs i = none → findM k (xs ++ [(k, x, c)]) i = some (i + xs.length, (k, x, c)) := by
  intro xs
  induction xs with
  | nil => intro i _; simp [findM]
  | cons q xs ih =>
   intro i h;unfold findM at h;split at h
   ·cases h
   ·rename_i hk;rw [List.cons_append];unfold findM;rw [if_neg hk, ih (i + 1) h];simp only [List.length_cons];congr 2; omega
 have st : ∀ (xs : List (κ × α × Nat)) (i j : Nat) (p : κ × α × Nat) (c' : Nat), findM k xs i = some (j, p) → findM k (xs.set (j - i) (k, x, c')) i = some (j, (k, x, c')) := by
  intro xs
  induction xs with
  | nil => intro i j p c' h; simp [findM] at h
  | cons q xs ih =>
   intro i j p c' h;have h0 := findM_get h;unfold findM at h;split at h
   ·injection h with h; injection h with h1 h2; subst h1;rw [Nat.sub_self];simp [findM]
   ·rename_i hk;have h1 := findM_get h;rw [show j - i = (j - (i + 1)) + 1 by omega, List.set_cons_succ];unfold findM;rw [if_neg hk];exact ih (i + 1) j p c' h
 unfold putM
 cases hf : findM k xs 0 with
 | none => exact ⟨_, _, app xs 0 hf, rfl⟩
 | some q => obtain ⟨j, p⟩ := q; exact ⟨_, _, by have := st xs 0 j p p.2.2 hf; rwa [Nat.sub_zero] at this, rfl⟩
structure KeyLaw (P : Program) (kt : TypeId) {κ : Type} [DecidableEq κ] (ek : κ → Value) (kc : κ → AV) : Prop where
  rep : ∀ (h : Hp) (β : Bt) (k : κ) (u : Value), Rep h β (kc k) u → u = ek k
  back : ∀ (h : Hp) (β : Bt) (k : κ), Rep h β (kc k) (ek k)
  check : ∀ (e : Bool) (k : κ) (w : World), (Instr.checkKey e 10000 kt (ek k)).run P w = .ok () w
  find : ∀ (h : Hp) {α : Type} (av : α → AV) (k : κ) (xs : List (κ × α × Nat)) (es : List MapEntry) (w : World), MapRep h ek av xs es → ∃ r, (Instr.findKey kt (ek k) es).run P w = .ok r w ∧ FindRes h av (findM k xs 0) r
  bits : ∀ k : κ, Instr.sameBits 10000 (ek k) (ek k) = true
theorem findAsking_run {P : Program} {kt : TypeId} {κ : Type} [DecidableEq κ] {ek : κ → Value} (heq : ∀ (a b : κ) (w : World), (Op.equal kt (ek a) (ek b)).run P w = .ok (decide (a = b)) w) (h : Hp) {α : Type} (av : α → AV) (k : κ) (w : World) :
  ∀ (xs : List (κ × α × Nat)) (es : List MapEntry) (i : Nat), MapRep h ek av xs es → ∃ r, (Instr.findAsking kt (ek k) es i).run P w = .ok r w ∧ FindRes h av (findM k xs i) r
 | [], es, i, m => by simp only [MapRep] at m; subst m; exact ⟨none, by simp [Instr.findAsking], rfl⟩
 | p :: xs, es, i, ⟨e, r, h1, h2, h3, h4, h5⟩ => by
  subst h1;simp only [Instr.findAsking, Sem.run_bind, h2, heq k p.1 w, Result.andThen, findM];by_cases hk : k = p.1
  ·simp only [hk, decide_true, if_true];exact ⟨_, rfl, e.val, rfl, h3⟩
  ·simp only [hk, decide_false, Bool.false_eq_true, if_false];exact findAsking_run heq h av k w xs r (i + 1) h5
theorem setBlock_size (w : World) (b : Nat) (o : Obj) : (setBlock w b o).heap.size = w.heap.size := by simp [setBlock]
theorem setBlock_other (w : World) (b i : Nat) (o : Obj) (hi : i ≠ b) : (setBlock w b o).heap[i]? = w.heap[i]? := by
 simp [setBlock, Array.getElem?_setIfInBounds, Ne.symm hi]
theorem setBlock_same (w : World) (b : Nat) (o o' : Obj) (hb : w.heap[b]? = some o') : (setBlock w b o).heap[b]? = some o := by
 have := (Array.getElem?_eq_some_iff.1 hb).1;simp [setBlock, Array.getElem?_setIfInBounds, this]
section
variable {P : Program} {tab : Tab} {n : Nat} {s : St}
variable {ops : Array Oper} {draw : Dr} {o : Oper} {l : List Oper} {acc : List Eff} {K : Exit → St → Prop}
theorem opd_tmp {s s' : St} {z : Operand} (hs : ∀ t, z = .tmp t → s'.env t = s.env t) : opd s' z = opd s z := by
 cases z with
 | tmp t => exact hs t rfl
 | _ => rfl
theorem getMap_run {w : World} {g : Nat} {es : Array MapEntry} {c : Nat} (hh : w.heap[g]? = some (.map es c)) : (getObj g).run P w = .ok (.map es c) w := by simp [getObj, Sem.run, hh]
theorem setMap_run {w : World} {g : Nat} {es : Array MapEntry} {c : Nat} (hh : w.heap[g]? = some (.map es c)) (o : Obj) : (setObj g o).run P w = .ok () (setBlock w g o) := by simp [setObj, Sem.run, hh, setBlock]
theorem Fl.mkmap {t : TypeId} (hop : o.op = .makeMap t none) (hg : gOk ops s o = true) {d : Tmp} (hdst : o.dst = some d) (hd : Nat.blt d n = true) {κ α : Type} (ek : κ → Value) (av : α → AV) (hn : s.al d = false)
  (r : Fl P n ops draw l ((Eff.mk (.mp d) [(d, .map ek av ([] : List (κ × α × Nat)) 0)] [] [d] []).app o.dst s) (Eff.mk (.mp d) [(d, .map ek av ([] : List (κ × α × Nat)) 0)] [] [d] [] :: acc) K)
  (hJ : presOk draw.J (Eff.mk (.mp d) [(d, .map ek av ([] : List (κ × α × Nat)) 0)] [] [d] []) := by repeat' (first | exact True.intro | exact rfl | refine ⟨?_, ?_⟩ | fail)) : Fl P n ops draw (o :: l) s acc K := by
 refine Fl.op hg ⟨fun t ht => (by rw [hdst] at ht; injection ht with ht; subst ht; exact ltOf hd), fun C s' a w h β Q K hs hb hal k hK => ?_⟩ (newOk1 hn) hJ r
 have hrun : (execOp a.eval o).run P w = .ok (.value (.map (some w.heap.size))) (w.alloc (.map #[] 0)) := by
  simp only [execOp, hop, Instr.makeMap, Sem.run_bind, Result.andThen];rfl
 unfold Oper.wp;rw [hrun];simp only [Oper.upon];refine hK _ _ h (β.set d (.map (some w.heap.size))) ?_;have k1 := k.step (evo_alloc k.evo.has (.map #[] 0));rw [hdst];refine k1.addbox (hal d (by simp)) ?_ ?_ (some d) (fun t ht => by injection ht with ht; subst ht; exact ltOf hd) ?_ []
 ·exact ⟨w.heap.size, #[], Bt.set_same _ _ _, heap_alloc_new w _, rfl, has_none k.evo.has (Nat.le_refl _)⟩
 ·intro g hg;simp [blk] at hg;subst hg;refine ⟨fun id' B' hb' e => ?_, .inr k.evo.size⟩;have := (k.blk_lt hb' e).1;omega
 ·simp only [Rep]; exact ⟨_, Bt.set_same _ _ _, rfl⟩
theorem Fl.lookup [f : Facts P tab] {t kt e : TypeId} {x y : Operand} (hop : o.op = .lookup t x y false) {m : Id} (hx : opd s x = .mp m) {sz' by' : Nat} {z' : List Value} (hts : tab t = some ⟨.map kt e, sz', by', z'⟩) {i : TI} (hti : tab e = some i) (hag : Nat.blt 1 i.size = true)
  {κ α : Type} [DecidableEq κ] {ek : κ → Value} {av : α → AV} {xs : List (κ × α × Nat)} {clock : Nat} (hb : s.bx m = some (.map ek av xs clock)) {kc : κ → AV} (law : KeyLaw P kt ek kc) (k0 : κ) (hy : (opd s y).Le (kc k0)) (hyc : (opd s y).closed = true)
  {v : AV} (hv : match findM k0 xs 0 with | some (_, p) => (av p.2.1).Le v | none => (AV.agg (vL i.zero)).Le v) (hvc : ∀ a, (av a).closed = true) (hg : gOk ops s o = true) (hd : dOk n o.dst = true)
  (r : Fl P n ops draw l ((Eff.mk v [] [] [] [m]).app o.dst s) (Eff.mk v [] [] [] [m] :: acc) K) : Fl P n ops draw (o :: l) s acc K := by
 refine Fl.opv hg (OpJ.of_run (tb := [m]) (dOk_lt hd) fun C s' a w h β ho hbs k => ?_) r;have hxr := opd_rep k x;have hyr := opd_rep k y;rw [ho x (by rw [hop]; simp [Op.operands]), hx] at hxr;rw [ho y (by rw [hop]; simp [Op.operands])] at hyr;simp only [Rep] at hxr;obtain ⟨g, e1, e2⟩ := hxr;obtain ⟨g', es, e3, hh, hm, _⟩ := k.box m _ ((hbs m (by simp)).trans hb);rw [e1] at e3; injection e3 with e3; injection e3 with e3; injection e3 with e3; subst e3;have hyk := law.rep _ _ _ _ (hy _ _ _ hyr);obtain ⟨res, hf, hfr⟩ := law.find h av k0 xs es.toList w hm;obtain ⟨inf, zv, h1, h2, h3, h4, h5⟩ := (f.tabOk e i hti).info;have hu := (f.tabOk _ _ hts).und;simp only at hu
 have hz : (zeroValue e).run P w = .ok zv w := by simp [zeroValue, typeInfo, h1, h4]
 have hzv : ∃ us, zv = .agg us ∧ us.toList = i.zero := by
  cases zv with
  | agg us => exact ⟨us, rfl, h5⟩
  | _ =>
   have hs := (f.tabOk e i hti).zs;have := ltOf hag;simp [Value.cells] at h5;rw [← h5] at hs; simp at hs; omega
 have hgo : (getObj g).run P w = .ok (.map es clock) w := getMap_run hh
 cases hfm : findM k0 xs 0 with
 | none =>
  rw [hfm] at hv hfr;have hfr : res = none := hfr;subst hfr;obtain ⟨us, rfl, hus⟩ := hzv;refine ⟨.agg us, ?_, hv _ _ _ (by simp only [Rep]; exact ⟨us, rfl, by rw [← hus]; exact vL_rep _⟩)⟩;simp only [execOp, hop, e2, hyk, Instr.lookup, Sem.run_bind, run_underlying hu, Result.andThen, hgo, Sem.run_pure, law.check, hf, hz, Bool.false_eq_true, if_false]
 | some q =>
  obtain ⟨j, p⟩ := q;rw [hfm] at hv hfr;obtain ⟨u, rfl, hur⟩ := hfr;have hv : (av p.2.1).Le v := hv;refine ⟨u, ?_, hv _ _ _ (hur.closed _ _ (hvc _))⟩;simp only [execOp, hop, e2, hyk, Instr.lookup, Sem.run_bind, run_underlying hu, Result.andThen, hgo, Sem.run_pure, law.check, hf, Bool.false_eq_true, if_false]
theorem Fl.mupd [f : Facts P tab] {t kt e : TypeId} {x y z : Operand} (hop : o.op = .mapUpdate t x y z) {m : Id} (hx : opd s x = .mp m) {sz' by' : Nat} {z' : List Value} (hts : tab t = some ⟨.map kt e, sz', by', z'⟩)
  {κ α : Type} [DecidableEq κ] {ek : κ → Value} {av : α → AV} {xs : List (κ × α × Nat)} {clock : Nat} (hb : s.bx m = some (.map ek av xs clock)) {kc : κ → AV} (law : KeyLaw P kt ek kc) (k0 : κ) (hy : (opd s y).Le (kc k0)) (hyc : (opd s y).closed = true) (x0 : α) (hz : (opd s z).Le (av x0)) (hzc : (opd s z).closed = true) (hg : gOk ops s o = true) (hdst : o.dst = none)
  (r : Fl P n ops draw l ((Eff.mk .any [(m, .map ek av (putM k0 x0 clock xs) (putC k0 clock xs))] [] [] [m]).app o.dst s) (Eff.mk .any [(m, .map ek av (putM k0 x0 clock xs) (putC k0 clock xs))] [] [] [m] :: acc) K)
  (hJ : presOk draw.J (Eff.mk .any [(m, .map ek av (putM k0 x0 clock xs) (putC k0 clock xs))] [] [] [m]) := by repeat' (first | exact True.intro | exact rfl | refine ⟨?_, ?_⟩ | fail)) : Fl P n ops draw (o :: l) s acc K := by
 refine Fl.op hg ⟨fun t ht => (by rw [hdst] at ht; cases ht), fun C s' a w h β Q K hs hbs hal k hK => ?_⟩ rfl hJ r;have same : ∀ q : Operand, q ∈ o.op.operands → opd s' q = opd s q := fun q hq => opd_tmp fun t ht => hs t (by rw [← ht]; exact hq);have hxr := opd_rep k x;have hyr := opd_rep k y;have hzr := opd_rep k z;rw [same x (by rw [hop]; simp [Op.operands]), hx] at hxr;rw [same y (by rw [hop]; simp [Op.operands])] at hyr;rw [same z (by rw [hop]; simp [Op.operands])] at hzr;simp only [Rep] at hxr;obtain ⟨g, e1, e2⟩ := hxr;have hb' : s'.bx m = some (.map ek av xs clock) := (hbs m (by simp [Eff.ts])).trans hb;obtain ⟨g', es, e3, hh, hm, hnone⟩ := k.box m _ hb';rw [e1] at e3; injection e3 with e3; injection e3 with e3; injection e3 with e3; subst e3;have hyk := law.rep _ _ _ _ (hy _ _ _ hyr);have hzk : Rep h noB (av x0) (a.eval z) := hz _ _ _ (hzr.closed _ _ hzc);obtain ⟨res, hf, hfr⟩ := law.find h av k0 xs es.toList w hm;have hu := (f.tabOk _ _ hts).und;simp only at hu;have hgo : (getObj g).run P w = .ok (.map es clock) w := getMap_run hh
 have key : ∃ es', (execOp a.eval o).run P w = .ok .skip (setBlock w g (.map es' (putC k0 clock xs))) ∧ MapRep h ek av (putM k0 x0 clock xs) es'.toList := by
  unfold putM putC
  cases hfm : findM k0 xs 0 with
  | none =>
   rw [hfm] at hfr;have hfr : res = none := hfr;subst hfr;refine ⟨es.push ⟨ek k0, a.eval z, clock⟩, ?_, by rw [Array.toList_push]; exact hm.push hzk⟩;simp only [execOp, hop, e2, hyk, Instr.mapUpdate, Sem.run_bind, run_underlying hu, Result.andThen, hgo, law.check, hf, setMap_run hh, Sem.run_pure]
  | some q =>
   obtain ⟨j, p⟩ := q;rw [hfm] at hfr;obtain ⟨u, rfl, hur⟩ := hfr;obtain ⟨_, hget, hpk⟩ := findM_get hfm;rw [Nat.sub_zero] at hget
   have hold : ((es[j]?).map (·.key)).getD (ek k0) = ek k0 := by
    have hjl : j < es.toList.length := by rw [hm.len]; exact (List.getElem?_eq_some_iff.1 hget).1
    have hall : ∀ (xs : List (κ × α × Nat)) (es : List MapEntry) (j : Nat) (p : κ × α × Nat) (e : MapEntry), MapRep h ek av xs es → xs[j]? = some p → es[j]? = some e → e.key = ek p.1 := by
     intro xs
     induction xs with
     | nil => intro es j p e _ hp; simp at hp
     | cons q xs ih =>
      intro es j p e hm hp he;obtain ⟨e0, r0, q1, q2, _, _, q5⟩ := hm;subst q1
      cases j with
      | zero => simp at hp he; subst hp he; exact q2
      | succ j => exact ih r0 j p e q5 (by simpa using hp) (by simpa using he)
    have := hall xs es.toList j p es.toList[j] hm hget (List.getElem?_eq_getElem hjl);rw [← Array.getElem?_toList, List.getElem?_eq_getElem hjl, Option.map_some, Option.getD_some, this, hpk]
   refine ⟨es.modify j fun e => { e with key := ek k0, val := a.eval z }, ?_, by rw [Array.toList_modify]; exact hm.set hzk j p hget⟩;simp only [execOp, hop, e2, hyk, Instr.mapUpdate, Sem.run_bind, run_underlying hu, Result.andThen, hgo, law.check, hf, hold, Instr.keyThatStays, law.bits, if_true, setMap_run hh, Sem.run_pure]
 obtain ⟨es', hrun, hm'⟩ := key;unfold Oper.wp;rw [hrun];simp only [Oper.upon];refine hK _ _ h β ?_;refine k.setbox (B' := .map ek av (putM k0 x0 clock xs) (putC k0 clock xs)) (w' := setBlock w g (.map es' (putC k0 clock xs))) hb' rfl rfl ⟨rfl, Nat.le_refl _⟩ (setBlock_size _ _ _) (fun j hj => setBlock_other w g j _ (fun e => hj (by simp [e1, blk, e]))) ⟨g, es', e1, setBlock_same w g _ _ hh, hm', hnone⟩ ⟨g, by simp [e1, blk]⟩ o.dst (fun t ht => by rw [hdst] at ht; cases ht) (v := .any) (u := undef) (by simp only [Rep]) [m]
theorem Fl.mdel [f : Facts P tab] {t kt e : TypeId} {ty2 : TypeId} {x y : Operand} (hop : o.op = .call { callee := .builtin .delete, args := ⟨[x, y]⟩, argTypes := ⟨[t, ty2]⟩ }) {m : Id} (hx : opd s x = .mp m) {sz' by' : Nat} {z' : List Value} (hts : tab t = some ⟨.map kt e, sz', by', z'⟩)
  {κ α : Type} [DecidableEq κ] {ek : κ → Value} {av : α → AV} {xs : List (κ × α × Nat)} {clock : Nat} (hb : s.bx m = some (.map ek av xs clock)) {kc : κ → AV} (law : KeyLaw P kt ek kc) (k0 : κ) (hy : (opd s y).Le (kc k0)) (hyc : (opd s y).closed = true) (hg : gOk ops s o = true) (hdst : o.dst = none)
  (r : Fl P n ops draw l ((Eff.mk .any [(m, .map ek av (delM k0 xs) clock)] [] [] [m]).app o.dst s) (Eff.mk .any [(m, .map ek av (delM k0 xs) clock)] [] [] [m] :: acc) K)
  (hJ : presOk draw.J (Eff.mk .any [(m, .map ek av (delM k0 xs) clock)] [] [] [m]) := by repeat' (first | exact True.intro | exact rfl | refine ⟨?_, ?_⟩ | fail)) : Fl P n ops draw (o :: l) s acc K := by
 refine Fl.op hg ⟨fun t ht => (by rw [hdst] at ht; cases ht), fun C s' a w h β Q K hs hbs hal k hK => ?_⟩ rfl hJ r;have same : ∀ q : Operand, q ∈ o.op.operands → opd s' q = opd s q := fun q hq => opd_tmp fun t ht => hs t (by rw [← ht]; exact hq);have hxr := opd_rep k x;have hyr := opd_rep k y;rw [same x (by rw [hop]; simp [Op.operands, Call.operands]), hx] at hxr;rw [same y (by rw [hop]; simp [Op.operands, Call.operands])] at hyr;simp only [Rep] at hxr;obtain ⟨g, e1, e2⟩ := hxr;have hb' : s'.bx m = some (.map ek av xs clock) := (hbs m (by simp [Eff.ts])).trans hb;obtain ⟨g', es, e3, hh, hm, hnone⟩ := k.box m _ hb';rw [e1] at e3; injection e3 with e3; injection e3 with e3; injection e3 with e3; subst e3;have hyk := law.rep _ _ _ _ (hy _ _ _ hyr);obtain ⟨res, hf, hfr⟩ := law.find h av k0 xs es.toList w hm;have hu := (f.tabOk _ _ hts).und;simp only at hu;have hgo : (getObj g).run P w = .ok (.map es clock) w := getMap_run hh
 have key : ∃ es', (execOp a.eval o).run P w = .ok (.value (.tuple #[])) (setBlock w g (.map es' clock)) ∧ MapRep h ek av (delM k0 xs) es'.toList := by
  unfold delM
  cases hfm : findM k0 xs 0 with
  | none =>
   rw [hfm] at hfr;have hfr : res = none := hfr;subst hfr;refine ⟨es, ?_, hm⟩;simp [execOp, hop, resolve, invoke, builtin, e2, hyk, Builtin.delete_, run_underlying hu, Result.andThen, hgo, law.check, hf, setMap_run hh]
  | some q =>
   obtain ⟨j, p⟩ := q;rw [hfm] at hfr;obtain ⟨u, rfl, hur⟩ := hfr;refine ⟨es.eraseIdxIfInBounds j, ?_, by rw [Array.toList_eraseIdxIfInBounds]; exact hm.erase j⟩;simp [execOp, hop, resolve, invoke, builtin, e2, hyk, Builtin.delete_, run_underlying hu, Result.andThen, hgo, law.check, hf, setMap_run hh]
 obtain ⟨es', hrun, hm'⟩ := key;unfold Oper.wp;rw [hrun];simp only [Oper.upon];refine hK _ _ h β ?_;have := k.setbox (B' := .map ek av (delM k0 xs) clock) (w' := setBlock w g (.map es' clock)) hb' rfl rfl ⟨rfl, Nat.le_refl _⟩ (setBlock_size _ _ _) (fun j hj => setBlock_other w g j _ (fun e => hj (by simp [e1, blk, e]))) ⟨g, es', e1, setBlock_same w g _ _ hh, hm', hnone⟩ ⟨g, by simp [e1, blk]⟩ o.dst (fun t ht => by rw [hdst] at ht; cases ht) (v := .any) (u := .tuple #[]) (by simp only [Rep]) [m];exact this
theorem Fl.range [f : Facts P tab] {t kt e : TypeId} {x : Operand} (hop : o.op = .range t x) {m : Id} (hx : opd s x = .mp m) {sz' by' : Nat} {z' : List Value} (hts : tab t = some ⟨.map kt e, sz', by', z'⟩)
  {κ α : Type} {ek : κ → Value} {av : α → AV} {xs : List (κ × α × Nat)} {clock : Nat} (hb : s.bx m = some (.map ek av xs clock)) (hg : gOk ops s o = true) {d : Tmp} (hdst : o.dst = some d) (hd : Nat.blt d n = true) (hn : s.al d = false)
  (r : Fl P n ops draw l ((Eff.mk (.ptr d 0) [(d, .iter m clock [] clock)] [] [d] [m]).app o.dst s) (Eff.mk (.ptr d 0) [(d, .iter m clock [] clock)] [] [d] [m] :: acc) K)
  (hJ : presOk draw.J (Eff.mk (.ptr d 0) [(d, .iter m clock [] clock)] [] [d] [m]) := by repeat' (first | exact True.intro | exact rfl | refine ⟨?_, ?_⟩ | fail)) : Fl P n ops draw (o :: l) s acc K := by
 refine Fl.op hg ⟨fun t ht => (by rw [hdst] at ht; injection ht with ht; subst ht; exact ltOf hd), fun C s' a w h β Q K hs hbs hal k hK => ?_⟩ (newOk1 hn) hJ r;have same : ∀ q : Operand, q ∈ o.op.operands → opd s' q = opd s q := fun q hq => opd_tmp fun t ht => hs t (by rw [← ht]; exact hq);have hxr := opd_rep k x;rw [same x (by rw [hop]; simp [Op.operands]), hx] at hxr;simp only [Rep] at hxr;obtain ⟨g, e1, e2⟩ := hxr;obtain ⟨g', es, e3, hh, hm, hnone⟩ := k.box m _ ((hbs m (by simp [Eff.ts])).trans hb);rw [e1] at e3; injection e3 with e3; injection e3 with e3; injection e3 with e3; subst e3;have hu := (f.tabOk _ _ hts).und;simp only at hu;have hgo : (getObj g).run P w = .ok (.map es clock) w := getMap_run hh
 have hrun : (execOp a.eval o).run P w = .ok (.value (.pointer (some ⟨w.heap.size, 0, none⟩))) (w.alloc (.mapIter (some g) clock #[] clock)) := by
  simp only [execOp, hop, e2, Instr.range, Sem.run_bind, run_underlying hu, Result.andThen, hgo, Sem.run_pure];rfl
 unfold Oper.wp;rw [hrun];simp only [Oper.upon];refine hK _ _ h (β.set d (.pointer (some ⟨w.heap.size, 0, none⟩))) ?_;have k1 := k.step (evo_alloc k.evo.has (.mapIter (some g) clock #[] clock));have hdn := k.dom d (hal d (by simp))
 have hmd : m ≠ d := fun e => by rw [e, hdn] at e1; cases e1
 rw [hdst];refine k1.addbox (hal d (by simp)) ?_ ?_ (some d) (fun t ht => by injection ht with ht; subst ht; exact ltOf hd) ?_ [m]
 ·exact ⟨w.heap.size, g, Bt.set_same _ _ _, by rw [Bt.set_ne _ _ _ _ hmd]; exact e1, heap_alloc_new w _, has_none k.evo.has (Nat.le_refl _)⟩
 ·intro g hg;simp [blk] at hg;subst hg;refine ⟨fun id' B' hb' e => ?_, .inr k.evo.size⟩;have := (k.blk_lt hb' e).1;omega
 ·simp only [Rep]; exact ⟨_, Bt.set_same _ _ _, rfl⟩
end
end Go.AL
/- Maps: ranges over them; arrays: slices of them. -/
namespace Go.AL
open Go.ChangeMaps (setBlock)
section
variable {P : Program} {tab : Tab} {n : Nat} {s : St}
variable {ops : Array Oper} {draw : Dr} {o : Oper} {l : List Oper} {acc : List Eff} {K : Exit → St → Prop}
theorem Fl.entry {x : Operand} (hop : o.op = .entry x) {r m : Id} (hx : opd s x = .ptr r 0) {since : Nat} {seen : List Nat} {st last : Nat} (hr : s.bx r = some (.iter m since (seen ++ [st]) last))
  {κ α : Type} {ek : κ → Value} {av : α → AV} {xs : List (κ × α × Nat)} (hb : s.bx m = some (.map ek av xs last)) {kc : κ → AV} (hkc : ∀ (h : Hp) (β : Bt) (k : κ), Rep h β (kc k) (ek k)) (hvc : ∀ a, (av a).closed = true) {p : κ × α × Nat} (hp : p ∈ xs) (hst : p.2.2 = st) (hnd : (xs.map (·.2.2)).Nodup) (hg : gOk ops s o = true) (hd : dOk n o.dst = true)
  (k : Fl P n ops draw l ((Eff.mk (.tup [kc p.1, av p.2.1]) [] [] [] [r, m]).app o.dst s) (Eff.mk (.tup [kc p.1, av p.2.1]) [] [] [] [r, m] :: acc) K) : Fl P n ops draw (o :: l) s acc K := by
 refine Fl.opv hg (OpJ.of_run (tb := [r, m]) (dOk_lt hd) fun C s' a w h β ho hbs q => ?_) k;have hxr := opd_rep q x;rw [ho x (by rw [hop]; simp [Op.operands]), hx] at hxr;simp only [Rep] at hxr;obtain ⟨gr, e1, e2⟩ := hxr;obtain ⟨gr', g, e3, e4, hh, _⟩ := q.box r _ ((hbs r (by simp)).trans hr);rw [e1] at e3; injection e3 with e3; injection e3 with e3; injection e3 with e3; injection e3 with e3; subst e3;obtain ⟨g', es, e5, hh2, hm, _⟩ := q.box m _ ((hbs m (by simp)).trans hb);rw [e4] at e5; injection e5 with e5; injection e5 with e5; injection e5 with e5; subst e5
 have hseen : (seen ++ [st]).toArray = seen.toArray.push st := by simp
 obtain ⟨e, he, k1, k2, k3⟩ := hm.mem' p hp;rw [hseen, ← hst, ← k3] at hh;have hrun := run_entry_at (P := P) w gr g since seen.toArray es last e hh hh2 he (by rw [hm.stamps]; exact hnd);refine ⟨.tuple #[e.key, e.val], ?_, ?_⟩
 ·simp only [execOp, hop, e2, Sem.run_bind, hrun, Result.andThen, Sem.run_pure]
 ·simp only [Rep];exact ⟨_, rfl, ⟨_, _, rfl, by rw [k1]; exact hkc _ _ _, ⟨_, _, rfl, k2.closed _ _ (hvc _), rfl⟩⟩⟩
theorem AWP.next {I : List Id} {Q : Exit → St → Prop} {id : Nat} {o1 o2 : Oper} {d1 d2 : Tmp} {x : Operand} (h1 : o1.op = .next x false) (g1 : o1.guard = none) (e1 : o1.dst = some d1) (l1 : Nat.blt d1 n = true) (h2 : o2.op = .extract (.tmp d1) 0) (g2 : o2.guard = none) (e2 : o2.dst = some d2) (l2 : Nat.blt d2 n = true)
  {r m : Id} (hx : opd s x = .ptr r 0) {since : Nat} {seen : List Nat} (hr : s.bx r = some (.iter m since seen since)) {κ α : Type} {ek : κ → Value} {av : α → AV} {xs : List (κ × α × Nat)} (hb : s.bx m = some (.map ek av xs since)) (hold : ∀ p ∈ xs, p.2.2 < since)
  (q1 : (∀ p ∈ xs, p.2.2 ∈ seen) → Q .normal ((Eff.mk (.v (.bool false)) [] [] [] []).app (some d2) ((Eff.mk .any [] [] [] []).app (some d1) s)))
  (q2 : ∀ p ∈ xs, p.2.2 ∉ seen → Q .normal ((Eff.mk (.v (.bool true)) [] [] [] []).app (some d2) ((Eff.mk .any [(r, .iter m since (seen ++ [p.2.2]) since)] [] [] [r]).app (some d1) s))) : AWP P n I (.region id ⟨[o1, o2]⟩ false) Q s := by
 refine ⟨fun C a w hp β hi k => ?_⟩;refine wp_region ?_;have hrg : List.range (Array.size ⟨[o1, o2]⟩) = [0, 1] := rfl;rw [hrg]
 have hw1 : Region.wanted o1 (yielded ⟨[o1, o2]⟩ a.tmps) = true := by simp [Region.wanted, g1]
 simp only [wpOps, List.getElem?_toArray, List.getElem?_cons_zero, hw1, if_true];left;have hxr := opd_rep k x;rw [hx] at hxr;simp only [Rep] at hxr;obtain ⟨gr, b1, b2⟩ := hxr;obtain ⟨gr', g, b3, b4, hh, hnone⟩ := k.box r _ hr;rw [b1] at b3; injection b3 with b3; injection b3 with b3; injection b3 with b3; injection b3 with b3; subst b3;obtain ⟨g', es, b5, hh2, hm, _⟩ := k.box m _ hb;rw [b4] at b5; injection b5 with b5; injection b5 with b5; injection b5 with b5; subst b5
 have hold' : ∀ y ∈ es.toList, y.born < since := fun y hy => by
  obtain ⟨p, hp, _, _, h3⟩ := hm.mem y hy;rw [h3]; exact hold p hp
 have hd1 : d1 < a.tmps.size := by rw [k.size]; exact ltOf l1
 have ext : ∀ (tl : List Value) (b : Bool) (a1 : Act) (w1 : World), a1.tmps.getD d1 undef = .tuple (.bool b :: tl).toArray → (execOp a1.eval o2).run P w1 = .ok (.value (.bool b)) w1 := by
  intro tl b a1 w1 ht;have hev : a1.eval (.tmp d1) = .tuple (.bool b :: tl).toArray := ht;simp [execOp, h2, hev, Instr.extract, Sem.run_bind, Result.andThen, Sem.run_pure]
 have second : ∀ (tl : List Value) (b : Bool) (w1 : World) (hp1 : Hp) (β1 : Bt) (s1 : St), Base C n s1 (a.put (some d1) (.tuple (.bool b :: tl).toArray)) w1 hp1 β1 → Q .normal ((Eff.mk (.v (.bool b)) [] [] [] []).app (some d2) s1) →
   wpOps P ⟨[o1, o2]⟩ (fun e a' w' => ∃ s' h' β', Base C n s' a' w' h' β' ∧ Q e s') [1] (a.put (some d1) (.tuple (.bool b :: tl).toArray)) w1 := by
  intro tl b w1 hp1 β1 s1 k1 hq
  have hw2 : Region.wanted o2 (yielded ⟨[o1, o2]⟩ (a.put (some d1) (.tuple (.bool b :: tl).toArray)).tmps) = true := by simp [Region.wanted, g2]
  simp only [wpOps, List.getElem?_toArray, List.getElem?_cons_succ, List.getElem?_cons_zero, hw2, if_true];left;unfold Oper.wp;rw [ext tl b _ w1 (by simp [Act.put, hd1])];simp only [Oper.upon, e2, wpOps];exact ⟨_, hp1, β1, k1.val (some d2) (fun t ht => by injection ht with ht; subst ht; exact ltOf l2) (v := .v (.bool b)) (by simp only [Rep]) [], hq⟩
 rcases run_next_at (P := P) w o1.type gr g since since seen.toArray es since hh hh2 hold' (Nat.le_refl _) with ⟨hz, hrun⟩ | ⟨e, he, w1, hw1', hrun⟩
 ·unfold Oper.wp
  have hex : (execOp a.eval o1).run P w = .ok (.value (.tuple #[.bool false])) w := by simp only [execOp, h1, b2, Sem.run_bind, hrun, Result.andThen, Sem.run_pure]
  rw [hex];simp only [Oper.upon, e1];refine second [] false w hp β _ (k.val (some d1) (fun t ht => by injection ht with ht; subst ht; exact ltOf l1) (v := .any) (by simp only [Rep]) []) (q1 fun p hpx => ?_);obtain ⟨e, he, _, _, h3⟩ := hm.mem' p hpx;have hempty : leftOf es seen.toArray = #[] := Array.eq_empty_of_size_eq_zero hz;unfold leftOf at hempty;rw [Array.filter_eq_empty_iff] at hempty;have := hempty e (by simpa using he);rw [← h3]; simpa using this
 ·have he' : e ∈ es.toList ∧ e.born ∉ seen := by
   unfold leftOf at he;simpa using he
  obtain ⟨p, hp1, h3, h4, h5⟩ := hm.mem e he'.1;unfold Oper.wp
  have hex : (execOp a.eval o1).run P w = .ok (.value (.tuple #[.bool true, e.key, e.val])) (setBlock w1 gr (.mapIter (some g) since (seen.toArray.push e.born) since)) := by simp only [execOp, h1, b2, Sem.run_bind, hrun, Result.andThen, Sem.run_pure]
  rw [hex];simp only [Oper.upon, e1]
  have kd : Base C n s a w1 hp β := by
   rcases hw1' with rfl | rfl
   ·exact k
   ·exact k.drew
  have hh1 : w1.heap[gr]? = some (.mapIter (some g) since seen.toArray since) := by rcases hw1' with rfl | rfl <;> exact hh
  have k2 := kd.setbox (B' := .iter m since (seen ++ [p.2.2]) since) (w' := setBlock w1 gr (.mapIter (some g) since (seen.toArray.push e.born) since)) hr rfl rfl ⟨rfl, Nat.le_refl _⟩ (setBlock_size _ _ _) (fun j hj => setBlock_other w1 gr j _ (fun q => hj (by simp [b1, blk, q]))) ⟨gr, g, b1, b4, by rw [setBlock_same w1 gr _ _ hh1, h5]; simp, hnone⟩ ⟨gr, by simp [b1, blk]⟩ (some d1) (fun t ht => by injection ht with ht; subst ht; exact ltOf l1) (v := .any) (u := .tuple #[.bool true, e.key, e.val]) (by simp only [Rep]) [r];exact second [e.key, e.val] true _ hp β _ k2 (q2 p hp1 (by rw [← h5]; exact he'.2))
theorem AWP.arrCopy [f : Facts P tab] {I : List Id} {Q : Exit → St → Prop} {id : Nat} {o1 o2 o3 : Oper} {d1 d2 d3 : Tmp} {t e t1 t2 : TypeId} {x y : Operand} (h1 : o1.op = .slice t x none none none) (g1 : o1.guard = none) (e1 : o1.dst = some d1) (l1 : Nat.blt d1 n = true) (h2 : o2.op = .move y) (g2 : o2.guard = none) (e2 : o2.dst = some d2) (l2 : Nat.blt d2 n = true) (h3 : o3.op = .call { callee := .builtin .copy, args := ⟨[.tmp d1, .tmp d2]⟩, argTypes := ⟨[t1, t2]⟩ }) (g3 : o3.guard = none) (e3 : o3.dst = some d3) (l3 : Nat.blt d3 n = true) (hne : Nat.beq d1 d2 = false)
  {N sz' by' sz2 by2 : Nat} {z' z2 : List Value} (hts : tab t = some ⟨.array N e, sz', by', z'⟩) (hts1 : tab t1 = some ⟨.slice e, sz2, by2, z2⟩) {i : TI} (hti : tab e = some i) (hi1 : Nat.beq i.size 1 = true) {b : Id} (hx : opd s x = .ptr b 0) {cs : List AV} {bt : TypeId} (hb : s.bx b = some (.cells cs bt)) (hN : Nat.beq cs.length N = true) (hNm : Nat.ble N 1000000 = true) (hN0 : Nat.blt 0 N = true) {α : Type} {enc : α → List AV} {ys : List α} (hy : opd s y = .sl 1 enc ys) (hyd : y ≠ .tmp d1) (hone : ∀ y, allOne (enc y) = true) (hel : ∀ y, (enc y).length = 1) (hl : ys.length ≤ N) {cs' : List AV} (hcs : ys.flatMap enc ++ cs.drop ys.length = cs')
  (q : Q .normal ((Eff.mk .any [(b, .cells cs' bt)] [] [] [b]).app (some d3) ((Eff.mk (.sl 1 enc ys) [] [] [] []).app (some d2) ((Eff.mk .any [] [] [] []).app (some d1) s)))) : AWP P n I (.region id ⟨[o1, o2, o3]⟩ false) Q s := by
 subst hcs;have hi1 := Nat.eq_of_beq_eq_true hi1;have hN := Nat.eq_of_beq_eq_true hN;have hNm := Nat.le_of_ble_eq_true hNm;have hN0 := ltOf hN0
 have hd12 : d1 ≠ d2 := fun e => by rw [e, Nat.beq_refl] at hne; cases hne
 refine ⟨fun C a w hp β hi k => ?_⟩;refine wp_region ?_;have hrg : List.range (Array.size ⟨[o1, o2, o3]⟩) = [0, 1, 2] := rfl;rw [hrg];refine wpOps_cons (ops := ⟨[o1, o2, o3]⟩) (i := 0) (o := o1) rfl g1 ?_;have hxr := opd_rep k x;rw [hx] at hxr;simp only [Rep] at hxr;obtain ⟨g, b1, b2⟩ := hxr;have hu := (f.tabOk _ _ hts).und;simp only at hu;have hu1 := (f.tabOk _ _ hts1).und;simp only at hu1;have hd1 : d1 < n := ltOf l1;have hd2 : d2 < n := ltOf l2
 have hr1 : (execOp a.eval o1).run P w = .ok (.value (.slice (some ⟨g, 0, none⟩) N N)) w := by
  have hN0' : ¬ N = 0 := by omega
  simp only [execOp, h1, b2, Option.map_none, Instr.sliceAt, Instr.sureAddr, Sem.run_bind, run_underlying hu, Result.andThen, Instr.sliceBounds, Sem.run_pure, size_ok (f.tabOk _ _ hti), Nat.zero_mul, Addr.add, if_true, Nat.sub_zero, if_neg hN0']
 unfold Oper.wp;rw [hr1];simp only [Oper.upon, e1];have k1 := k.val (some d1) (fun t ht => by injection ht with ht; subst ht; exact hd1) (v := .any) (u := .slice (some ⟨g, 0, none⟩) N N) (by simp only [Rep]) [];refine wpOps_cons (ops := ⟨[o1, o2, o3]⟩) (i := 1) (o := o2) rfl g2 ?_
 have hys : opd ((Eff.mk AV.any [] [] [] []).app (some d1) s) y = .sl 1 enc ys := by
  rw [← hy];refine opd_tmp fun t ht => ?_;simp only [Eff.app];exact putE_ne _ _ _ _ (fun h => hyd (by injection h with h; rw [ht, h]))
 have hyr := opd_rep k1 y;rw [hys] at hyr
 have hr2 : (execOp (a.put (some d1) (.slice (some ⟨g, 0, none⟩) N N)).eval o2).run P w = .ok (.value ((a.put (some d1) (.slice (some ⟨g, 0, none⟩) N N)).eval y)) w := by
  simp only [execOp, h2, Sem.run_pure]
 unfold Oper.wp;rw [hr2];simp only [Oper.upon, e2];have k2 := k1.val (some d2) (fun t ht => by injection ht with ht; subst ht; exact hd2) (v := .sl 1 enc ys) hyr [];generalize hyv : (a.put (some d1) (.slice (some ⟨g, 0, none⟩) N N)).eval y = yv at hyr k2 ⊢;refine wpOps_cons (ops := ⟨[o1, o2, o3]⟩) (i := 2) (o := o3) rfl g3 ?_
 have hsz : d1 < a.tmps.size ∧ d2 < a.tmps.size := by rw [k.size]; exact ⟨hd1, hd2⟩
 have ev1 : ((a.put (some d1) (.slice (some ⟨g, 0, none⟩) N N)).put (some d2) yv).eval (.tmp d1) = .slice (some ⟨g, 0, none⟩) N N := by
  simp [Act.eval, Act.put, Array.getElem?_setIfInBounds, hsz.1, Ne.symm hd12]
 have ev2 : ((a.put (some d1) (.slice (some ⟨g, 0, none⟩) N N)).put (some d2) yv).eval (.tmp d2) = yv := by
  simp [Act.eval, Act.put, hsz.2]
 have hb2 : ((Eff.mk (.sl 1 enc ys) [] [] [] []).app (some d2) ((Eff.mk AV.any [] [] [] []).app (some d1) s)).bx b = some (.cells cs bt) := hb;obtain ⟨g', us, b3, hh, hr, hnone⟩ := k2.box b _ hb2;rw [b1] at b3; injection b3 with b3; injection b3 with b3; injection b3 with b3; injection b3 with b3; subst b3
 have hul : us.size = N := by rw [← Array.length_toList, hr.length, hN]
 have his : (P.info? e).map (·.size) = some 1 := by
  obtain ⟨inf, zv, i1, i2, _⟩ := (f.tabOk e i hti).info;rw [i1]; simp [i2, hi1]
 simp only [Rep] at hyr;obtain ⟨B, cB, rfl, hcB, hmB, hall⟩ := hyr
 have key : ∃ (r : Int) (w' : World) (us' : Array Value), (Builtin.copy_ #[t1, t2] o3.type #[.slice (some ⟨g, 0, none⟩) N N, .slice B ys.length cB]).run P w = .ok (goInt r) w' ∧ w'.os = w.os ∧ w'.tape = w.tape ∧ (w'.output = w.output ∧ w.drawn ≤ w'.drawn) ∧ w'.heap.size = w.heap.size ∧
   (∀ j, j ≠ g → w'.heap[j]? = w.heap[j]?) ∧ w'.heap[g]? = some (.cells us' bt (0, 0)) ∧ RepL hp β (ys.flatMap enc ++ cs.drop ys.length) us'.toList := by
  by_cases hy0 : ys = []
  ·subst hy0;exact ⟨0, w, us, run_copy_none w t1 t2 o3.type e _ B N N 0 cB hu1 his (by simp [Nat.min_def]), rfl, rfl, ⟨rfl, Nat.le_refl _⟩, rfl, fun _ _ => rfl, hh, by simpa using hr⟩
  ·have hyp : 0 < ys.length := List.length_pos_iff.2 hy0;obtain ⟨adB, _, eB, _⟩ := hall 0 ys[0] (by simp [hyp]);subst eB
   obtain ⟨news, n1, n2, n3⟩ := sl_cells (h := hp) (sz := 1) (enc := enc) (A := adB) ys 0 (fun i x hx => by
    obtain ⟨ad', us, e, q1, q2, q3⟩ := hall i x hx
    exact ⟨ad', us, e, q1, q2, fun j u hu => by have := q3 j u hu; rwa [Nat.zero_add]⟩)
   have hmn : Nat.min ys.length N = min ys.length N := rfl
   have hnl : news.length = Nat.min ys.length N := by rw [n2, hmn]; omega
   have hrun := run_copy_row (P := P) w t1 t2 o3.type e g 0 N N adB ys.length cB us bt news hu1 his hh hnl (fun j u hu => by
    have := (n3 j u hu).cell k.evo.has
    rwa [Nat.zero_mul, Nat.zero_add] at this) (by rw [hnl, hmn]; omega) (flat_one hone _ news n1)
   refine ⟨_, w.setRow g (us.toList.take 0 ++ news ++ us.toList.drop (0 + news.length)).toArray, _, hrun, rfl, rfl, ⟨rfl, Nat.le_refl _⟩, by simp, fun j hj => setRow_other w g j _ (fun q => hj q), setRow_heap w g us _ bt _ hh, ?_⟩;simp only [List.take_zero, List.nil_append, Nat.zero_add];rw [show news.length = ys.length by rw [hnl, hmn]; omega];exact (n1.mono (Hp.le.refl _) (noB_le β)).append (hr.drop _)
 obtain ⟨r, w', us', hrun, q1, q2, q3, q4, q5, q6, q7⟩ := key
 have hex : (execOp ((a.put (some d1) (.slice (some ⟨g, 0, none⟩) N N)).put (some d2) (.slice B ys.length cB)).eval o3).run P w = .ok (.value (goInt r)) w' := by
  simp only [execOp, h3, resolve, invoke, builtin, Sem.run_bind, Sem.run_pure, Result.andThen, List.map_toArray, List.map_cons, List.map_nil, ev1, ev2];rw [show (Builtin.copy_ { toList := [t1, t2] } o3.type { toList := [.slice (some ⟨g, 0, none⟩) N N, .slice B ys.length cB] }).run P w = .ok (goInt r) w' from hrun]
 unfold Oper.wp;rw [hex];simp only [Oper.upon, e3, wpOps];exact ⟨_, hp, β, k2.setbox (B' := .cells (ys.flatMap enc ++ cs.drop ys.length) bt) (w' := w') hb2 q1 q2 q3 q4 (fun j hj => q5 j (fun q => hj (by simp [b1, blk, q]))) ⟨g, us', b1, q6, q7, hnone⟩ ⟨g, by simp [b1, blk]⟩ (some d3) (fun t ht => by injection ht with ht; subst ht; exact ltOf l3) (v := .any) (u := goInt r) (by simp only [Rep]) [b], q⟩
theorem Ent.freezeC {I : List Id} (b : Id) (d : Tmp) {cs : List AV} {t : TypeId} (hb : s.bx b = some (.cells cs t)) (hd : s.env d = .ptr b 0) (hdn : Nat.blt d n = true) (hcl : closedL cs = true) : Ent n I s ⟨putE s.env (some d) (.cptr cs), delB [b] s.bx, s.al⟩ := by
 intro C a w h β hi k;obtain ⟨g, us, e1, hh, hr, hnone⟩ := k.box b _ hb
 have hbx : ∀ x Bx', delB [b] s.bx x = some Bx' → x ≠ b ∧ s.bx x = some Bx' := by
  intro x Bx' hx;by_cases he : x = b
  ·subst he; simp [delB] at hx
  ·simp only [delB, beq_ne he] at hx; exact ⟨he, hx⟩
 have hle : h.le (h.set g us) := fun c cs hc => by
  by_cases he : c = g
  ·subst he; rw [hnone] at hc; cases hc
  ·rw [Hp.set_ne _ _ _ _ he]; exact hc
 have hhas : Has w (h.set g us) := fun c cs hc => by
  by_cases he : c = g
  ·subst he; rw [Hp.set_same] at hc; injection hc with hc; subst hc; exact ⟨t, (0, 0), hh⟩
  ·rw [Hp.set_ne _ _ _ _ he] at hc; exact k.evo.has c cs hc
 have hfr : ∀ c, h.set g us c ≠ none → h c ≠ none ∨ c = g := fun c hc => by
  by_cases he : c = g
  ·exact .inr he
  ·rw [Hp.set_ne _ _ _ _ he] at hc; exact .inl hc
 have hcp : Rep (h.set g us) β (.cptr cs) (.pointer (some ⟨g, 0, none⟩)) := by
  simp only [Rep];refine ⟨⟨g, 0, none⟩, us.toList, rfl, RepL.closed _ _ hcl (hr.mono hle (Bt.le.refl _)), fun j u hu => ?_⟩
  have hadd : (⟨g, 0, none⟩ : Addr).add j = ⟨g, j, none⟩ := by unfold Addr.add; split <;> simp_all
  rw [hadd];exact ⟨rfl, us, Hp.set_same _ _ _, by simpa using hu⟩
 refine ⟨h.set g us, β, ⟨k.evo.os, k.evo.tape, k.evo.output, k.evo.size, k.evo.block, k.evo.le.trans hle, fun c hc => ?_, hhas⟩, k.b0, fun i => ?_, fun x Bx' hx => ?_, fun x y B1 B2 h1 h2 hne => k.apart x y B1 B2 (hbx x B1 h1).2 (hbx y B2 h2).2 hne, fun x B1 c hx hc => k.own x B1 c (hbx x B1 hx).2 hc, k.dom, k.size, k.defers⟩
 ·rcases hfr c hc with h1 | h1
  ·exact k.evo.fresh c h1
  ·subst h1;rcases k.own b _ c hb (by simp [e1, blk]) with h2 | h2
   ·exact .inr (.inr h2)
   ·exact .inr (.inl h2)
 ·by_cases hid : i = d
  ·subst hid;show Rep _ β (putE s.env (some i) (.cptr cs) i) _;rw [putE_same];have hs := k.slot i;rw [hd] at hs;simp only [Rep] at hs;obtain ⟨g', e2, e3⟩ := hs;rw [e1] at e2; injection e2 with e2; injection e2 with e2; injection e2 with e2; injection e2 with e2; subst e2;rw [e3]; exact hcp
  ·show Rep _ β (putE s.env (some d) (.cptr cs) i) _;rw [putE_ne _ _ _ _ (fun e => hid (by injection e with e; exact e.symm))];exact (k.slot i).mono hle (Bt.le.refl β)
 ·obtain ⟨hne, h1⟩ := hbx x Bx' hx;refine (k.box x Bx' h1).keep hle (Bt.le.refl β) fun c hc => ⟨rfl, ?_⟩
  cases hq : h.set g us c with
  | none => rfl
  | some cs' =>
   rcases hfr c (by simp [hq]) with h2 | h2
   ·exact absurd (k.blk_lt h1 hc).2 h2
   ·exact absurd (show blk (β b) = some c by simp [e1, blk, h2]) (k.apart x b Bx' _ h1 hb hne c hc)
theorem Fl.cutArr [f : Facts P tab] {t : TypeId} {x z : Operand} (hop : o.op = .slice t x none (some z) none) {N : Nat} {e : TypeId} {sz' by' : Nat} {z' : List Value} (hts : tab t = some ⟨.array N e, sz', by', z'⟩) {i : TI} (hti : tab e = some i) (hi1 : Nat.beq i.size 1 = true) {cs : List AV} (hx : opd s x = .cptr cs) (hN : Nat.beq cs.length N = true) (hNm : Nat.ble N 1000000 = true) (hN0 : Nat.blt 0 N = true) {k' : IntKind} {m : Int} (hz : opd s z = .v (.int k' m)) (h0 : 0 ≤ m) (h2 : m ≤ N) {α : Type} {enc : α → List AV} {ys : List α} (hys : cs.take m.toNat = ys.flatMap enc) (hyl : (ys.length : Int) = m) (hel : ∀ y, (enc y).length = 1) (hg : gOk ops s o = true) (hd : dOk n o.dst = true)
  (r : Fl P n ops draw l ((Eff.mk (.sl 1 enc ys) [] [] [] []).app o.dst s) (Eff.mk (.sl 1 enc ys) [] [] [] [] :: acc) K) : Fl P n ops draw (o :: l) s acc K := by
 have hi1 := Nat.eq_of_beq_eq_true hi1;have hN := Nat.eq_of_beq_eq_true hN;have hNm := Nat.le_of_ble_eq_true hNm;have hN0 := ltOf hN0;refine Fl.opv hg (OpJ.of_run (tb := []) (dOk_lt hd) fun C s' a w h β ho _ k => ?_) r;have hxr := opd_rep k x;have hzr := opd_rep k z;rw [ho x (by simp [hop, Op.operands]), hx] at hxr;rw [ho z (by simp [hop, Op.operands]), hz] at hzr;simp only [Rep] at hxr hzr;obtain ⟨ad, us, e1, hr, hall⟩ := hxr;have hu := (f.tabOk _ _ hts).und;simp only at hu
 have hul : us.length = N := by rw [hr.length, hN]
 have hsp : ad.spot = none := by
  obtain ⟨u, hu0⟩ : ∃ u, us[0]? = some u := ⟨_, List.getElem?_eq_getElem (by omega)⟩;have h1 := (hall 0 u hu0).1;simpa [Addr.add] using h1
 have b1 := run_sliceBound (P := P) w k' m N .sliceAlen (by omega) (by omega);refine ⟨.slice (some ad) m.toNat N, ?_, ?_⟩
 ·have hN0' : ¬ N = 0 := by omega
  have hsa : (Instr.sureAddr (.pointer (some ad))).run P w = .ok ad w := by simp [Instr.sureAddr]
  simp only [execOp, hop, e1, hzr, Option.map_some, Option.map_none, Instr.sliceAt, Sem.run_bind, run_underlying hu, Result.andThen, hsa, Instr.sliceBounds, Bool.false_eq_true, if_false, Sem.run_pure, b1, Option.isSome_none, size_ok (f.tabOk _ _ hti), Nat.zero_mul, Nat.sub_zero, if_neg hN0', Addr.add, if_true]
 ·simp only [Rep];refine ⟨some ad, N, by rw [← hyl]; simp, by omega, by simp only [maxLen]; omega, fun j y hj => ?_⟩;have hjl := (List.getElem?_eq_some_iff.1 hj).1
  have hcj : ∀ (ys : List α) (cs : List AV) (us : List Value) (j : Nat) (y : α), RepL h noB cs us → cs = ys.flatMap enc → ys[j]? = some y → ∃ c u, enc y = [c] ∧ us[j]? = some u ∧ Rep h noB c u := by
   intro ys
   induction ys with
   | nil => intro cs us j y _ _ hy; simp at hy
   | cons y0 ys ih =>
    intro cs us j y hr hc hy;have h1 := hel y0
    obtain ⟨c, hcc⟩ : ∃ c, enc y0 = [c] := by
     cases hq : enc y0 with
     | nil => rw [hq] at h1; simp at h1
     | cons c r => rw [hq] at h1; simp at h1; exact ⟨c, by rw [h1]⟩
    rw [hc, List.flatMap_cons, hcc, List.singleton_append] at hr;simp only [RepL] at hr;obtain ⟨u, r, rfl, r1, r2⟩ := hr
    cases j with
    | zero => simp at hy; subst hy; exact ⟨c, u, hcc, rfl, r1⟩
    | succ j =>
     obtain ⟨c', u', e1, e2, e3⟩ := ih _ r j y r2 rfl (by simpa using hy);exact ⟨c', u', e1, by simpa using e2, e3⟩
  obtain ⟨c, u, q1, q2, q3⟩ := hcj ys _ _ j y (hr.take m.toNat) hys hj
  have hq2 : us[j]? = some u := by
   rw [List.getElem?_take] at q2;split at q2
   ·exact q2
   ·cases q2
  refine ⟨ad, [u], rfl, rfl, by rw [q1]; exact RepL.cons q3 RepL.nil, fun j' u' hu' => ?_⟩
  cases j' with
  | zero =>
   simp at hu'; subst hu';rw [Nat.mul_one, Nat.add_zero];exact hall j u hq2
  | succ j' => simp at hu'
end
end Go.AL
/- Terms put in order by Go's own sort. -/
namespace Go.AL
theorem cmpL_refl : ∀ a : List Int, cmpL a a = 0
 | [] => rfl
 | x :: a => by simp only [cmpL]; rw [if_pos (cmpI_zero.2 rfl)]; exact cmpL_refl a
theorem cmpL_sw : ∀ a b : List Int, cmpL a b = - cmpL b a
 | [], [] => rfl
 | [], _ :: _ => rfl
 | _ :: _, [] => rfl
 | x :: a, y :: b => by
  simp only [cmpL];have hs := cmpI_swap x y;by_cases hz : cmpI x y = 0
  ·rw [if_pos hz, if_pos (by omega)]; exact cmpL_sw a b
  ·rw [if_neg hz, if_neg (by omega)]; exact hs
theorem cmpL_eq : ∀ {a b : List Int}, cmpL a b = 0 → a = b
 | [], [], _ => rfl
 | [], _ :: _, k => by simp [cmpL] at k
 | _ :: _, [], k => by simp [cmpL] at k
 | x :: a, y :: b, k => by
  simp only [cmpL] at k;split at k
  ·rename_i hz; rw [cmpI_zero.1 hz, cmpL_eq k]
  ·rename_i hz; exact absurd k hz
theorem cmpL_trans : ∀ {a b c : List Int}, cmpL a b = 1 → cmpL b c = 1 → cmpL a c = 1
 | [], [], _, k, _ => by simp [cmpL] at k
 | [], _ :: _, _, k, _ => by simp [cmpL] at k
 | _ :: _, [], [], _, _ => rfl
 | _ :: _, [], _ :: _, _, k => by simp [cmpL] at k
 | _ :: _, _ :: _, [], _, _ => rfl
 | x :: a, y :: b, z :: c, k1, k2 => by
  simp only [cmpL] at k1 k2 ⊢;have c1 := cmpI_cases x y;have c2 := cmpI_cases y z;have c3 := cmpI_cases x z;by_cases e1 : cmpI x y = 0
  ·rw [if_pos e1] at k1;by_cases e2 : cmpI y z = 0
   ·rw [if_pos e2] at k2;rw [if_pos (by omega)];exact cmpL_trans k1 k2
   ·rw [if_neg e2] at k2;rw [if_neg (by omega)]; omega
  ·rw [if_neg e1] at k1;by_cases e2 : cmpI y z = 0
   ·rw [if_neg (by omega)]; omega
   ·rw [if_neg e2] at k2;rw [if_neg (by omega)]; omega
theorem ordI_lt {a b : List Int} : ordI a b < 0 ↔ sumL b < sumL a ∨ (sumL a = sumL b ∧ cmpL a b = 1) := by
 unfold ordI;have hs := cmpL_sw a b;have hr := cmpL_range a b;by_cases hz : sumL b - sumL a = 0
 ·rw [if_pos hz]; omega
 ·rw [if_neg hz]; omega
theorem ordI_eq {a b : List Int} (k : ordI a b = 0) : a = b := by
 unfold ordI at k;by_cases hz : sumL b - sumL a = 0
 ·rw [if_pos hz] at k; exact (cmpL_eq k).symm
 ·rw [if_neg hz] at k; omega
theorem ordI_refl (a : List Int) : ordI a a = 0 := by unfold ordI; rw [if_pos (by omega)]; exact cmpL_refl a
theorem ordI_trans {a b c : List Int} (k1 : ordI a b < 0) (k2 : ordI b c < 0) : ordI a c < 0 := by
 rw [ordI_lt] at k1 k2 ⊢;rcases k1 with k1 | ⟨k1, k1'⟩ <;> rcases k2 with k2 | ⟨k2, k2'⟩
 ·left; omega
 ·left; omega
 ·left; omega
 ·right; exact ⟨by omega, cmpL_trans k1' k2'⟩
theorem ordI_total (a b : List Int) : ordI a b < 0 ∨ a = b ∨ ordI b a < 0 := by
 rw [ordI_lt, ordI_lt];have hs := cmpL_sw a b;rcases cmpL_range a b with k | k | k
 ·by_cases e : sumL a = sumL b
  ·exact .inl (.inr ⟨e, k⟩)
  ·omega
 ·exact .inr (.inl (cmpL_eq k))
 ·by_cases e : sumL a = sumL b
  ·exact .inr (.inr (.inr ⟨e.symm, by omega⟩))
  ·omega
def leT (a b : TZ) : Bool := decide (ordI a.e b.e ≤ 0)
def sortT (xs : List TZ) : List TZ := xs.mergeSort leT
theorem sortT_perm (xs : List TZ) : (sortT xs).Perm xs := List.mergeSort_perm _ _
theorem leT_iff {a b : TZ} : leT a b = true ↔ ordI a.e b.e < 0 ∨ a.e = b.e := by
 simp only [leT, decide_eq_true_eq];constructor
 ·intro h;rcases ordI_total a.e b.e with k | k | k
  ·exact .inl k
  ·exact .inr k
  ·by_cases h0 : ordI a.e b.e = 0
   ·exact .inr (ordI_eq h0)
   ·omega
 ·rintro (h | h)
  ·omega
  ·rw [h, ordI_refl]; omega
theorem leT_trans (a b c : TZ) (h1 : leT a b = true) (h2 : leT b c = true) : leT a c = true := by
 rw [leT_iff] at h1 h2 ⊢;rcases h1 with h1 | h1 <;> rcases h2 with h2 | h2
 ·exact .inl (ordI_trans h1 h2)
 ·exact .inl (by rw [← h2]; exact h1)
 ·exact .inl (by rw [h1]; exact h2)
 ·exact .inr (h1.trans h2)
theorem leT_total (a b : TZ) : (leT a b || leT b a) = true := by
 rw [Bool.or_eq_true, leT_iff, leT_iff];rcases ordI_total a.e b.e with k | k | k
 ·exact .inl (.inl k)
 ·exact .inl (.inr k)
 ·exact .inr (.inl k)
theorem sortT_sorted (xs : List TZ) : (sortT xs).Pairwise fun a b => leT a b = true := List.pairwise_mergeSort leT_trans leT_total xs
theorem sortT_unique {xs ys : List TZ} (hnd : xs.Pairwise fun a b => a.e ≠ b.e) (hp : ys.Perm xs) (hs : ys.Pairwise fun a b => leT a b = true) : ys = sortT xs := by
 refine List.Perm.eq_of_pairwise (le := fun a b => leT a b = true) (fun a b ha hb h1 h2 => ?_) hs (sortT_sorted xs) (hp.trans (sortT_perm xs).symm)
 have he : a.e = b.e := by
  rw [leT_iff] at h1 h2;rcases h1 with h1 | h1
  ·rcases h2 with h2 | h2
   ·have := ordI_trans h1 h2; rw [ordI_refl] at this; omega
   ·exact h2.symm
  ·exact h1
 have ha' : a ∈ xs := hp.mem_iff.1 ha;have hb' : b ∈ xs := (sortT_perm xs).mem_iff.1 hb
 have key : ∀ l : List TZ, l.Pairwise (fun a b => a.e ≠ b.e) → a ∈ l → b ∈ l → a = b := by
  intro l
  induction l with
  | nil => intro _ h; cases h
  | cons x l ih =>
   intro hl h1 h2;rw [List.pairwise_cons] at hl;rcases List.mem_cons.1 h1 with e1 | h1
   ·rcases List.mem_cons.1 h2 with e2 | h2
    ·rw [e1, e2]
    ·exact absurd (by rw [← e1]; exact he) (hl.1 b h2)
   ·rcases List.mem_cons.1 h2 with e2 | h2
    ·exact absurd (by rw [← e2]; exact he.symm) (hl.1 a h1)
    ·exact ih hl.2 h1 h2
 exact key xs hnd ha' hb'
structure AT (h : Hp) (n : Nat) : Type where
  t : TZ
  v : List Value
  rep : RepL h noB (eT t) v
  ok : EOk t.e
  len : t.e.length = n
theorem at_list {h : Hp} {n : Nat} : ∀ (xs : List TZ) (vals : List Value), RepL h noB (xs.flatMap eT) vals → (∀ t ∈ xs, EOk t.e ∧ t.e.length = n) → ∃ l : List (AT h n), l.map (·.t) = xs ∧ l.flatMap (·.v) = vals
 | [], vals, hr, _ => by simp only [List.flatMap_nil, RepL] at hr; subst hr; exact ⟨[], rfl, rfl⟩
 | t :: xs, vals, hr, hx => by
  rw [List.flatMap_cons] at hr;obtain ⟨h1, h2⟩ := hr.split;obtain ⟨l, e1, e2⟩ := at_list xs _ h2 fun q hq => hx q (by simp [hq]);refine ⟨⟨t, vals.take (eT t).length, h1, (hx t (by simp)).1, (hx t (by simp)).2⟩ :: l, by simp [e1], ?_⟩;rw [List.flatMap_cons, e2];exact List.take_append_drop _ _
theorem at_rep {h : Hp} {n : Nat} : ∀ l : List (AT h n), RepL h noB ((l.map (·.t)).flatMap eT) (l.flatMap (·.v))
 | [] => RepL.nil
 | x :: l => by simp only [List.map_cons, List.flatMap_cons]; exact x.rep.append (at_rep l)
theorem flatK_list {α : Type} [Inhabited α] (enc : α → List Value) (k : Nat) (hk : ∀ x, (enc x).length = k) : ∀ l : List α, (Go.Sort.flatK enc k l.toArray).toList = l.flatMap enc := by
  intro l;apply List.ext_getElem?;intro t
  have hlen : ∀ l : List α, (l.flatMap enc).length = l.length * k := by
    intro l
    induction l with
    | nil => simp
    | cons x l ih => simp [List.flatMap_cons, hk, ih, Nat.succ_mul, Nat.add_comm]
  have hget : ∀ (l : List α) (t : Nat), t < l.length * k → (l.flatMap enc)[t]? = some (enc l[t / k]!)[t % k]! := by
    intro l
    induction l with
    | nil => intro t ht; simp at ht
    | cons x l ih =>
      intro t ht;rw [List.flatMap_cons];by_cases h1 : t < k
      · rw [List.getElem?_append_left (by rw [hk]; exact h1), Nat.div_eq_of_lt h1, Nat.mod_eq_of_lt h1];simp [hk, h1]
      · have hk0 : 0 < k := by rcases Nat.eq_zero_or_pos k with h | h
                               · subst h; simp at ht
                               · exact h
        rw [List.getElem?_append_right (by rw [hk]; omega), hk]
        have ht2 : t < l.length * k + k := by rw [← Nat.succ_mul]; exact ht
        have h2 := ih (t - k) (by omega);rw [h2]
        have e1 : t / k = (t - k) / k + 1 := by rw [← Nat.add_div_right _ hk0]; congr 1; omega
        have e2 : t % k = (t - k) % k := by
          have := Nat.add_mod_right (t - k) k;rwa [show t - k + k = t by omega] at this
        rw [e1, e2];simp
  by_cases ht : t < l.length * k
  · rw [hget l t ht, Array.getElem?_toList, Array.getElem?_eq_getElem (by simpa using ht)];have := Go.Sort.get_flatK enc k l.toArray t (by simpa using ht);rw [getElem!_pos _ t (by simpa using ht)] at this;rw [this];simp
  · rw [List.getElem?_eq_none (by simp; omega), List.getElem?_eq_none (by rw [hlen]; omega)]
theorem evo_grow {W w' : World} {h h' : Hp} (e : Evo never W h w' h') : ∃ q os, w' = Go.Sort.grow (W.drewN q) os := by
 refine ⟨w'.drawn - W.drawn, w'.heap.extract W.heap.size w'.heap.size, ?_⟩;have h1 := e.output.2
 have hheap : w'.heap = W.heap ++ w'.heap.extract W.heap.size w'.heap.size := by
  apply Array.ext_getElem?;intro i;by_cases hi : i < W.heap.size
  ·rw [e.block i hi (fun x => x), Array.getElem?_append_left hi]
  ·rw [Array.getElem?_append_right (by omega)];by_cases hi2 : i < w'.heap.size
   ·rw [Array.getElem?_eq_getElem hi2, Array.getElem?_eq_getElem (by simp; omega)];congr 1;simp [show W.heap.size + (i - W.heap.size) = i by omega]
   ·rw [Array.getElem?_eq_none (by omega), Array.getElem?_eq_none (by simp; omega)]
 have h0 : w' = ⟨w'.heap, w'.tape, w'.drawn, w'.os, w'.output⟩ := rfl;rw [h0];simp only [Go.Sort.grow, World.drewN];rw [← hheap, e.os, e.tape, e.output.1, show W.drawn + (w'.drawn - W.drawn) = w'.drawn by omega]
end Go.AL
namespace Go.Proofs.YtcaecieigoplbaaGreat
open Go.AL
set_option maxHeartbeats 4000000 in
set_option maxRecDepth 100000 in
theorem sort_calls {w : World} {h : Hp} (hw : Has w h) (n : Nat) (hn : n ≤ 100000) (xs : List TZ) (hx : ∀ t ∈ xs, EOk t.e ∧ t.e.length = n) (hnd : xs.Pairwise fun a b => a.e ≠ b.e) (hne : xs ≠ []) (g cap : Nat) (cur : Array Value) (T : TypeId) (hg : w.heap[g]? = some (.cells cur T (0, 0))) (hgn : h g = none) (vals : List Value) (hv : RepL h noB (xs.flatMap eT) vals) (hc : cur.toList.take (xs.length * 3) = vals) (hle : xs.length ≤ cap) (hsz : cur.size = cap * 3) (hbig : xs.length < 4611686018427387904) :
  Calls Tryz.prog 234 #[.slice (some ⟨g, 0, none⟩) xs.length cap, .func (.func 225) #[] #[]] w fun e w' => e = .returned (.tuple #[]) ∧
   ∃ vals' cur', RepL h noB ((sortT xs).flatMap eT) vals' ∧ w'.os = w.os ∧ w'.tape = w.tape ∧ (w'.output = w.output ∧ w.drawn ≤ w'.drawn) ∧ w.heap.size ≤ w'.heap.size ∧ (∀ i, i < w.heap.size → i ≠ g → w'.heap[i]? = w.heap[i]?) ∧ w'.heap[g]? = some (.cells cur' T (0, 0)) ∧ cur'.size = cap * 3 ∧ cur'.toList.take (xs.length * 3) = vals' := by
 obtain ⟨l, e1, e2⟩ := at_list (n := n) xs vals hv hx
 obtain ⟨x0, l0, hl0⟩ : ∃ x0 l0, l = x0 :: l0 := by
  cases l with
  | nil => simp at e1; exact absurd e1 hne
  | cons a b => exact ⟨a, b, rfl⟩
 haveI : Inhabited (AT h n) := ⟨x0⟩
 have hlen : l.length = xs.length := by rw [← e1]; simp
 let enc : AT h n → List Value := fun x => x.v
 have hk : ∀ x : AT h n, (enc x).length = 3 := fun x => by rw [x.rep.length]; rfl
 have h1 : ∀ x : AT h n, ∀ v ∈ enc x, v.oneCell' = true := fun x v hvv => allOne_cells (h := h) (β := noB) (cs := eT x.t) rfl x.rep v hvv
 have hO : Go.Sort.SWO (Go.Proofs.ltOf fun x y : AT h n => ordI x.t.e y.t.e) := by
  refine ⟨fun x => ?_, fun x y z k1 k2 => ?_, fun x y z k1 k2 => ?_⟩
  ·simp only [Go.Proofs.ltOf, decide_eq_false_iff_not]; rw [ordI_refl]; omega
  ·simp only [Go.Proofs.ltOf, decide_eq_true_eq] at k1 k2 ⊢;exact ordI_trans k1 k2
  ·simp only [Go.Proofs.ltOf, decide_eq_false_iff_not] at k1 k2 ⊢;intro k3;rcases ordI_total y.t.e x.t.e with k | k | k
   ·exact k2 (ordI_trans k k3)
   ·exact k2 (by rw [k]; exact k3)
   ·exact k1 k
 have hcell : ∀ i, (⟨g, i, none⟩ : Addr).block = g := fun _ => rfl
 have hH : Go.Sort.HoldsK enc 3 w g 0 l.toArray := by
  intro j hj;have hflat := flatK_list enc 3 hk l
  have hjl : j < xs.length * 3 := by simpa [hlen] using hj
  have hget : (Go.Sort.flatK enc 3 l.toArray)[j]! = (cur[j]?).getD default := by
   rw [getElem!_pos _ j hj, ← Array.getElem_toList (h := by simpa using hj)]
   have h2 : (Go.Sort.flatK enc 3 l.toArray).toList = cur.toList.take (xs.length * 3) := by rw [hflat, hc]; exact e2
   have h3 : (Go.Sort.flatK enc 3 l.toArray).toList[j]? = cur.toList[j]? := by
    rw [h2, List.getElem?_take_of_lt hjl]
   rw [List.getElem?_eq_getElem (by simpa using hj)] at h3;rw [← Array.getElem?_toList, ← h3]; rfl
  have hjc : j < cur.size := by omega
  refine ⟨?_, ?_⟩
  ·simp only [Nat.zero_add, World.cell?, hg, hget, id];simp [hjc]
  ·simp [World.frozen?, hg]
 have hblk : g < w.heap.size := (Array.getElem?_eq_some_iff.1 hg).1
 have hthere : ∀ (m : Nat) (os : Array Obj) (dk : Array (AT h n)) (i : Nat), i < w.heap.size → i ≠ g → (Go.Proofs.sortWorldK enc 3 w g 0 m dk os).heap[i]? = w.heap[i]? := by
  intro m os dk i hi hig;simp only [Go.Proofs.sortWorldK, Go.Sort.grow, Go.Sort.putRowK, Go.Sort.putRow, Go.Sort.mapBlock, Go.Sort.ahead];rw [Array.getElem?_append_left (by simpa using hi), Array.getElem?_modify, if_neg (Ne.symm hig)]
 have hcmp : Go.Proofs.CmpLays Tryz.prog 225 #[] enc 3 (fun x y : AT h n => ordI x.t.e y.t.e) g 0 l.toArray.size w := by
  intro m os dk hdk x y
  have hW : Has (Go.Proofs.sortWorldK enc 3 w g 0 m dk os) h := fun b cs hb => by
   obtain ⟨t, fr, hh⟩ := hw b cs hb;refine ⟨t, fr, ?_⟩;rw [hthere m os dk b (Array.getElem?_eq_some_iff.1 hh).1 (fun e => by subst e; rw [hgn] at hb; cases hb)];exact hh
  have hord := order_ok x.t y.t x.ok y.ok (by rw [x.len]; omega) (by rw [y.len]; omega);rw [Array.append_empty];have hrl : RepL h noB [aT x.t, aT y.t] [.agg (enc x).toArray, .agg (enc y).toArray] := RepL.cons (by simp only [Rep]; exact ⟨_, rfl, x.rep⟩) (RepL.cons (by simp only [Rep]; exact ⟨_, rfl, y.rep⟩) RepL.nil);have hcl := hord.calls _ h #[.agg (enc x).toArray, .agg (enc y).toArray] hW hrl;refine hcl.mono fun e w' ⟨u, h', he, hev, hrep⟩ => ?_;simp only [Rep] at hrep;subst hrep;exact ⟨he, evo_grow hev⟩
 have hA : ∀ w, (isAgg (sortL_ren.t 24)).run Tryz.prog w = .ok true w := Tryz.isAgg124;have hZ : ∀ w, (Go.sizeOf (sortL_ren.t 24)).run Tryz.prog w = .ok 3 w := Tryz.sizeOf124;have hS := Go.Proofs.AnyQ.slices_SortFunc sortL 3 hA hZ enc hk h1 (fun x y : AT h n => ordI x.t.e y.t.e) hO 225 #[] g 0 cap l.toArray w (enters_of Tryz.func225 (by kernel_rfl) rfl) hcmp hH hblk (by simp; omega);change Calls Tryz.prog 234 _ _ _ at hS;simp only [List.size_toArray] at hS;rw [hlen] at hS;refine Calls.mono hS fun e w' ⟨he, d', m, os, hp, hs, hw'⟩ => ?_;subst hw';obtain ⟨hd1, hd2, hd3⟩ := hp
 have hd1 : d'.size = xs.length := by rw [hd1]; simp [hlen]
 have hperm : d'.toList.Perm l := by
  have q1 : d'.extract 0 xs.length = d' := by rw [← hd1]; simp
  have q2 : l.toArray.extract 0 xs.length = l.toArray := by rw [← hlen]; simp
  rw [q1, q2] at hd3;simpa using hd3
 have hsorted : (d'.toList.map (·.t)).Pairwise fun a b => leT a b = true := by
  rw [List.pairwise_map];rw [List.pairwise_iff_getElem];intro i j hi hj hij;have := hs i j (Nat.zero_le _) hij (by rw [← hd1]; simpa using hj)
  have hi' : i < d'.size := by simpa using hi
  have hj' : j < d'.size := by simpa using hj
  rw [getElem!_pos d' i hi', getElem!_pos d' j hj'] at this;simp only [Go.Proofs.ltOf, decide_eq_false_iff_not] at this;rw [Array.getElem_toList, Array.getElem_toList];rw [leT_iff];rcases ordI_total (d'[i]).t.e (d'[j]).t.e with k | k | k
  ·exact .inl k
  ·exact .inr k
  ·exact absurd k this
 have hys : d'.toList.map (·.t) = sortT xs := sortT_unique hnd (by rw [← e1]; exact hperm.map _) hsorted;have hrep := at_rep d'.toList;rw [hys] at hrep
 have hfl : (Go.Sort.flatK enc 3 d').toList = d'.toList.flatMap (·.v) := by
  have := flatK_list enc 3 hk d'.toList;simpa using this
 refine ⟨he, d'.toList.flatMap (·.v), Go.Sort.putCells id 0 (Go.Sort.flatK enc 3 d') cur, hrep, rfl, rfl, ⟨rfl, Nat.le_add_right _ _⟩, ?_, fun i hi hig => hthere m os d' i hi hig, ?_, by simp [Go.Sort.putCells, hsz], ?_⟩
 ·simp only [Go.Proofs.sortWorldK, Go.Sort.grow, Go.Sort.putRowK, Go.Sort.putRow, Go.Sort.mapBlock, Go.Sort.ahead, Array.size_append, Array.size_modify];omega
 ·simp only [Go.Proofs.sortWorldK, Go.Sort.grow, Go.Sort.putRowK, Go.Sort.putRow, Go.Sort.mapBlock, Go.Sort.ahead];rw [Array.getElem?_append_left (by simpa using hblk), Array.getElem?_modify, if_pos rfl, hg];rfl
 ·rw [← hfl];apply List.ext_getElem?;intro t;by_cases ht : t < xs.length * 3
  ·have htc : t < cur.size := by omega
   rw [List.getElem?_take_of_lt ht, Array.getElem?_toList, Array.getElem?_toList];simp only [Go.Sort.putCells, Array.getElem?_mapIdx, Array.getElem?_eq_getElem htc, Option.map_some, Nat.zero_le, true_and, Nat.zero_add, Go.Sort.size_flatK, hd1, if_pos ht, Nat.sub_zero, id];rw [getElem!_pos _ t (by simpa [hd1] using ht), Array.getElem?_eq_getElem (by simpa [hd1] using ht)]
  ·rw [List.getElem?_eq_none (by simp; omega), List.getElem?_eq_none (by simp [hd1]; omega)]
end Go.Proofs.YtcaecieigoplbaaGreat
/- slices.SortFunc on terms: a contract with a box. -/
namespace Go.Proofs.YtcaecieigoplbaaGreat
open Go.AL
set_option maxHeartbeats 4000000 in
set_option maxRecDepth 100000 in
theorem sort_ok (n : Nat) (hn : n ≤ 100000) (xs : List TZ) (hx : ∀ t ∈ xs, EOk t.e ∧ t.e.length = n) (hnd : xs.Pairwise fun a b => a.e ≠ b.e) (hlen : xs.length ≤ 1000000000000) (T : TypeId) :
  IoFn Tryz.prog 234 [.row 900, .fn 225 []] [(900, .row 3 eT xs T)] (.ret .any) [(900, .row 3 eT (sortT xs) T)] := by
 refine ⟨⟨_, Tryz.func234, by kernel_rfl, by kernel_rfl⟩, fun w h β us hw hbx hβ hr => ?_⟩;obtain ⟨v, vals, hv, ⟨hl, ho⟩, hrv, hsz3, hno⟩ := hbx.box 900 (.row 3 eT xs T) rfl
 have hus : us = #[v, .func (.func 225) #[] #[]] := by
  simp only [RepL, Rep] at hr;obtain ⟨u0, r0, e0, ⟨e1, _⟩, u1, r1, e2, ⟨us2, e3, e4⟩, e5⟩ := hr;rw [hv] at e1; injection e1 with e1; subst e1;have : us2 = #[] := Array.toList_inj.1 e4;subst this;rw [e2, e3, e5] at e0;exact Array.toList_inj.1 e0
 subst hus
 have fin : ∀ (w' : World) (vals' : List Value), w'.os = w.os → w'.tape = w.tape → (w'.output = w.output ∧ w.drawn ≤ w'.drawn) → w.heap.size ≤ w'.heap.size → (∀ i, i < w.heap.size → v.ownBlock ≠ some i → w'.heap[i]? = w.heap[i]?) → w'.ownsRow 0 T 3 v (sortT xs).length vals' → RepL h noB ((sortT xs).flatMap eT) vals' →
   ∃ h' β', β.le β' ∧ Evo (blksOf [(900, .row 3 eT xs T)] β) w h w' h' ∧ ∃ u, Ending.returned (.tuple #[]) = .returned u ∧ BoxesAt w' h' β' [(900, .row 3 eT (sortT xs) T)] ∧ Rep h' β' .any u ∧ ∀ id g, id ∉ idsB [(900, .row 3 eT xs T)] → blk (β' id) = some g → w.heap.size ≤ g := by
  intro w' vals' q1 q2 q3 q4 q5 q6 q7;have hbk : ∀ g, blk (some v) = some g ↔ v.ownBlock = some g := blk_own q6;refine ⟨h, β, Bt.le.refl _, evo_of hw q1 q2 q3 q4 (fun i hi hm => q5 i hi fun e => hm ⟨900, _, rfl, by rw [hv]; exact (hbk i).2 e⟩) (fun g ⟨id, B, hB, hg⟩ => ?_), .tuple #[], rfl, ⟨fun id B hB => ?_, fun id id' B B' h1 h2 hne => ?_⟩, by simp only [Rep], fun id g hid hg => ?_⟩
  ·by_cases hid : id = 900
   ·subst hid; rw [hv] at hg; exact hno g ((hbk g).1 hg)
   ·simp [lookB, beq_ne hid] at hB
  ·by_cases hid : id = 900
   ·subst hid;simp only [lookB, Nat.beq_refl] at hB;injection hB with hB; subst hB;exact ⟨v, vals', hv, q6, q7, fun _ _ => rfl, hno⟩
   ·simp [lookB, beq_ne hid] at hB
  ·by_cases hid : id = 900
   ·by_cases hid' : id' = 900
    ·exact absurd (hid.trans hid'.symm) hne
    ·simp [lookB, beq_ne hid'] at h2
   ·simp [lookB, beq_ne hid] at h1
  ·rw [hβ id hid] at hg; simp [blk] at hg
 have hsl : (sortT xs).length = xs.length := (sortT_perm xs).length_eq;by_cases hne : xs = []
 ·subst hne
  have hs0 : sortT [] = [] := by simp [sortT]
  have hvs : ∃ p c, v = .slice p 0 c := by
   rcases ho with ⟨e, _⟩ | ⟨g, cap, cur, e, _⟩
   ·exact ⟨none, 0, e⟩
   ·exact ⟨_, cap, by simpa using e⟩
  obtain ⟨p, c, hvp⟩ := hvs;have hS := Go.Proofs.AnyF.slices_SortFunc_none (P := Tryz.prog) (ρ := sortL_ren) { sortL with } p c (.func (.func 225) #[] #[]) w;change Calls Tryz.prog 234 _ _ _ at hS;rw [hvp];refine Calls.mono hS fun e w' ⟨he, hw'⟩ => ?_;subst he hw';have hr0 : RepL h noB (([] : List TZ).flatMap eT) [] := RepL.nil;have hvals : vals = [] := List.eq_nil_of_length_eq_zero (by simpa using hl);have := fin w' vals rfl rfl ⟨rfl, Nat.le_refl _⟩ (Nat.le_refl _) (fun _ _ _ => rfl) (by rw [hs0]; exact ⟨hl, ho⟩) (by rw [hs0]; exact hrv);exact this
 ·have hpos : 0 < xs.length := List.length_pos_iff.2 hne;rcases ho with ⟨_, e⟩ | ⟨g, cap, cur, e, _, hh, h1, h2, h3, h4⟩
  ·omega
  ·subst e;have hgn : h g = none := hno g rfl
   have hb : xs.length < 4611686018427387904 := by omega
   refine Calls.mono (sort_calls hw n hn xs hx hnd hne g cap cur T hh hgn vals hrv h4 h1 h3 hb) fun e w' ⟨he, vals', cur', p1, p2, p3, p4, p5, p6, p7, p8, p9⟩ => ?_;subst he;refine fin w' vals' p2 p3 p4 p5 (fun i hi hm => p6 i hi fun e => hm (by rw [e]; rfl)) ?_ p1;rw [hsl];have hln := p1.length
   have hk : ((sortT xs).flatMap eT).length = xs.length * 3 := by
    rw [← hsl];generalize sortT xs = l
    induction l with
    | nil => rfl
    | cons t l ih => rw [List.flatMap_cons, List.length_append, ih, List.length_cons]; simp [eT]; omega
   exact ⟨by rw [hln, hk], .inr ⟨g, cap, cur', rfl, Nat.zero_le _, p7, h1, h2, p8, p9⟩⟩
end Go.Proofs.YtcaecieigoplbaaGreat
/- The keys of the program's sums: lists of 32 exponents. -/
namespace Go.AL
abbrev Key := {l : List Int // l.length = 32}
def kg (k : Key) (i : Nat) : Int := k.1.getD i 0
def keyC (k : Key) : List AV := [aN (kg k 0), aN (kg k 1), aN (kg k 2), aN (kg k 3), aN (kg k 4), aN (kg k 5), aN (kg k 6), aN (kg k 7), aN (kg k 8), aN (kg k 9), aN (kg k 10), aN (kg k 11), aN (kg k 12), aN (kg k 13), aN (kg k 14), aN (kg k 15), aN (kg k 16), aN (kg k 17), aN (kg k 18), aN (kg k 19), aN (kg k 20), aN (kg k 21), aN (kg k 22), aN (kg k 23), aN (kg k 24), aN (kg k 25), aN (kg k 26), aN (kg k 27), aN (kg k 28), aN (kg k 29), aN (kg k 30), aN (kg k 31)]
def keyV (k : Key) : List Value := [.int .i64 (kg k 0), .int .i64 (kg k 1), .int .i64 (kg k 2), .int .i64 (kg k 3), .int .i64 (kg k 4), .int .i64 (kg k 5), .int .i64 (kg k 6), .int .i64 (kg k 7), .int .i64 (kg k 8), .int .i64 (kg k 9), .int .i64 (kg k 10), .int .i64 (kg k 11), .int .i64 (kg k 12), .int .i64 (kg k 13), .int .i64 (kg k 14), .int .i64 (kg k 15), .int .i64 (kg k 16), .int .i64 (kg k 17), .int .i64 (kg k 18), .int .i64 (kg k 19), .int .i64 (kg k 20), .int .i64 (kg k 21), .int .i64 (kg k 22), .int .i64 (kg k 23), .int .i64 (kg k 24), .int .i64 (kg k 25), .int .i64 (kg k 26), .int .i64 (kg k 27), .int .i64 (kg k 28), .int .i64 (kg k 29), .int .i64 (kg k 30), .int .i64 (kg k 31)]
def ekK (k : Key) : Value := .agg ⟨keyV k⟩
abbrev kcK (k : Key) : AV := .agg (keyC k)
theorem keyC_eq (k : Key) : keyC k = k.1.map aN := by
 obtain ⟨l, hl⟩ := k;have e : keyC ⟨l, hl⟩ = (List.range 32).map fun i => aN (l.getD i 0) := rfl;rw [e];apply List.ext_getElem?;intro i;by_cases h : i < 32
 ·simp [h, hl]
 ·rw [List.getElem?_eq_none (by simp; omega), List.getElem?_eq_none (by simp; omega)]
theorem keyV_eq (k : Key) : keyV k = k.1.map (Value.int .i64) := by
 obtain ⟨l, hl⟩ := k;have e : keyV ⟨l, hl⟩ = (List.range 32).map fun i => Value.int .i64 (l.getD i 0) := rfl;rw [e];apply List.ext_getElem?;intro i;by_cases h : i < 32
 ·simp [h, hl]
 ·rw [List.getElem?_eq_none (by simp; omega), List.getElem?_eq_none (by simp; omega)]
theorem repN (h : Hp) (β : Bt) : ∀ (l : List Int) (us : List Value), RepL h β (l.map aN) us ↔ us = l.map (Value.int .i64)
 | [], us => by simp [RepL]
 | x :: l, us => by
  simp only [List.map_cons, RepL, Rep, repN h β l];constructor
  ·rintro ⟨u, r, rfl, rfl, rfl⟩; rfl
  ·rintro rfl; exact ⟨_, _, rfl, rfl, rfl⟩
def expK (e : List Int) (he : e.length ≤ 32) : Key := ⟨e ++ List.replicate (32 - e.length) 0, by simp; omega⟩
theorem expK_cells (e : List Int) (he : e.length ≤ 32) : e.flatMap eI ++ (List.replicate 32 (aN 0)).drop e.length = keyC (expK e he) := by
 rw [keyC_eq];simp only [expK, List.map_append, List.map_replicate, List.drop_replicate];congr 1
 induction e with
 | nil => rfl
 | cons x e ih => simp [eI, List.flatMap_cons] at ih ⊢; exact ih (by simp at he; omega)
theorem expK_inj {a b : List Int} {ha : a.length ≤ 32} {hb : b.length ≤ 32} (hl : a.length = b.length) (h : expK a ha = expK b hb) : a = b := by
 have h1 : a ++ List.replicate (32 - a.length) 0 = b ++ List.replicate (32 - b.length) 0 := congrArg Subtype.val h;exact (List.append_inj h1 hl).1
end Go.AL
namespace Go.Proofs.YtcaecieigoplbaaGreat
open Go.AL
theorem und_key : Tryz.prog.underlying 218 = some (.array 32 3) := by kernel_rfl
theorem und_int : Tryz.prog.underlying 3 = some (.int .i64) := by kernel_rfl
theorem key_items (a b : Key) (w : World) (d : Nat) : ∀ is : List Nat, (∀ i ∈ is, i < 32) → (Op.eqItems (d + 1) 3 1 ⟨keyV a⟩ ⟨keyV b⟩ is).run Tryz.prog w = .ok (is.all fun i => kg a i == kg b i) w
 | [], _ => by simp [Op.eqItems]
 | i :: is, h => by
  have hp : Tryz.prog.plainKey 3 = true := by kernel_rfl
  have hg : ∀ k : Key, (⟨keyV k⟩ : Array Value)[i * 1]? = some (.int .i64 (kg k i)) := fun k => by
   rw [Nat.mul_one, List.getElem?_toArray, keyV_eq, List.getElem?_map]
   have hi : i < k.1.length := by rw [k.2]; exact h i (by simp)
   simp [kg, hi]
  simp only [Op.eqItems, Sem.run_bind, run_part_plain w hp (hg a), run_part_plain w hp (hg b), Result.andThen_ok, run_equalIn_int w d 3 .i64 .i64 _ _ und_int, List.all_cons]
  cases hq : (kg a i == kg b i) with
  | false => simp
  | true => simp [key_items a b w d is fun j hj => h j (by simp [hj])]
theorem key_eq (a b : Key) (w : World) : (Op.equal 218 (ekK a) (ekK b)).run Tryz.prog w = .ok (decide (a = b)) w := by
 obtain ⟨i, hi⟩ := info_of_underlying und_int
 have hc : Tryz.prog.cellsOf 3 = 1 := by kernel_rfl
 have h := run_equalIn_array w 9999 ⟨keyV a⟩ ⟨keyV b⟩ und_key hi;rw [hc, key_items a b w 9998 _ (fun i hi => List.mem_range.1 hi)] at h;have h2 : (Op.equal 218 (ekK a) (ekK b)).run Tryz.prog w = .ok ((List.range 32).all fun i => kg a i == kg b i) w := h;rw [h2];refine congrArg (fun b => Result.ok b w) ?_;rw [Bool.eq_iff_iff, List.all_eq_true, decide_eq_true_eq];constructor
 ·intro hall;apply Subtype.ext;apply List.ext_getElem
  ·rw [a.2, b.2]
  ·intro i h1 h2;have := hall i (List.mem_range.2 (by rw [a.2] at h1; exact h1));simp only [kg, beq_iff_eq, List.getD_eq_getElem?_getD, List.getElem?_eq_getElem h1, List.getElem?_eq_getElem h2, Option.getD_some] at this;exact this
 ·rintro rfl i _; simp
theorem key_part (k : Key) (w : World) (i : Nat) (h : i < 32) : (part 3 ⟨keyV k⟩ (i * 1)).run Tryz.prog w = .ok (.int .i64 (kg k i)) w := by
 have hp : Tryz.prog.plainKey 3 = true := by kernel_rfl
 refine run_part_plain w hp ?_;rw [Nat.mul_one, List.getElem?_toArray, keyV_eq, List.getElem?_map]
 have hi : i < k.1.length := by rw [k.2]; exact h
 simp [kg, hi]
theorem key_check (e : Bool) (k : Key) (w : World) : (Instr.checkKey e 10000 218 (ekK k)).run Tryz.prog w = .ok () w := by
 obtain ⟨inf, hi⟩ := info_of_underlying und_int
 have hc : Tryz.prog.cellsOf 3 = 1 := by kernel_rfl
 have one : ∀ x, (Instr.checkKey e 9999 3 (.int .i64 x)).run Tryz.prog w = .ok () w := fun x => by
  rw [show 9999 = 9998 + 1 from rfl];unfold Instr.checkKey;simp [Sem.run_bind, run_underlying und_int]
 rw [show 10000 = 9999 + 1 from rfl, Instr.checkKey, ekK];simp only [Sem.run_bind, run_underlying und_key, Result.andThen_ok];simp only [Std.Legacy.Range.forIn_eq_forIn_range', Std.Legacy.Range.size, Nat.sub_zero, Nat.add_one_sub_one, Nat.div_one]
 have each : ∀ i ∈ List.range' 0 32, i < 32 := fun i hi => by simpa using hi
 generalize List.range' 0 32 = is at each
 induction is with
 | nil => simp
 | cons j is ih =>
  simp only [List.forIn_cons, Sem.run_bind, run_sizeOf w hi, hc, Result.andThen_ok, key_part k w j (each j (by simp)), one, Sem.run_pure];exact ih (fun y hy => each y (by simp [hy]))
theorem key_law : KeyLaw Tryz.prog 218 ekK kcK where
 rep h β k u hr := by
  simp only [Rep] at hr;obtain ⟨us, rfl, hr⟩ := hr;rw [keyC_eq, repN, ← keyV_eq] at hr;rw [ekK, ← hr]
 back h β k := by
  simp only [Rep];refine ⟨_, rfl, ?_⟩;rw [keyC_eq, repN, ← keyV_eq]
 check := key_check
 find h α av k xs es w hm := by
  obtain ⟨r, h1, h2⟩ := findAsking_run (fun a b w => key_eq a b w) h av k w xs es 0 hm;refine ⟨r, ?_, h2⟩;simp only [Instr.findKey, Sem.run_bind, run_underlying und_key, Result.andThen]
  have hn : es = [] ∨ Instr.findNow (.array 32 3) (ekK k) es 0 = none := by
   cases es with
   | nil => exact .inl rfl
   | cons e es =>
    right;simp only [Instr.findNow]
    cases he : e.key <;> simp [Instr.sameNow]
  rcases hn with rfl | hn
  ·simp only [Instr.findNow];simp only [Instr.findAsking, Sem.run_pure] at h1;exact h1
  ·rw [hn]; exact h1
 bits k := by
  have : ∀ x : Int, (Instr.sameBits 9999 (.int .i64 x) (.int .i64 x)) = true := fun x => by simp [Instr.sameBits]
  simp only [ekK, Instr.sameBits, beq_self_eq_true, Bool.true_and, keyV];simp [this]
end Go.Proofs.YtcaecieigoplbaaGreat
/- poly.empty, (*sums).add. -/
namespace Go.AL
abbrev ME := Key × Int × Nat
def getM (k : Key) (xs : List ME) : Int := match findM k xs 0 with | some (_, p) => p.2.1 | none => 0
def setM (k : Key) (y : Int) (c : Nat) (xs : List ME) : List ME := if y = 0 then delM k (putM k y c xs) else putM k y c xs
abbrev bM (xs : List ME) (c : Nat) : Bx := .map ekK aX xs c
end Go.AL
namespace Go.Proofs.YtcaecieigoplbaaGreat
open Go.AL
abbrev smB (V : Int) (xs : List ME) (c : Nat) : List (AL.Id × Bx) := [(900, .cells [aN V, .mp 901] 216), (901, bM xs c)]
theorem empty_ok (V : Int) : IoFn Tryz.prog 219 [aN V] [] (.ret (.ptr 900 0)) (smB V [] 0) := by
 refine IoFn.of_body Tryz.func219 rfl Tryz.ntmps219 rfl rfl rfl ?_;(repeat' (first |refine qv ?_ |apply qn |apply qs |apply qr));refine Fl.mkmap rfl rfl rfl rfl ekK aX rfl ?_;(repeat' (first |refine qv ?_ |apply qn |refine qe ?_ |apply qt));exact ⟨⟨[(900, 6), (901, 4)], _, _, Ent.refl _ _ _, rfl, AV.Le.refl _, rfl, ⟨⟨⟨_, rfl, BLe.cells (LeL.refl _)⟩, rfl⟩, ⟨⟨_, rfl, BLe.map rfl rfl⟩, rfl⟩, trivial⟩, rfl, rfl⟩⟩
theorem sAdd_io (V : Int) (xs : List ME) (clock : Nat) (c : Int) (e : List Int) (hc : Fit c) (hxs : ∀ p ∈ xs, Fit p.2.1) (he : e.length ≤ 32) (res : Res) (bx' : List (AL.Id × Bx))
  (hr1 : Fit (getM (expK e he) xs + c) → res = .ret (.tup []) ∧ bx' = smB V (setM (expK e he) (getM (expK e he) xs + c) clock xs) (putC (expK e he) clock xs))
  (hr2 : ¬ Fit (getM (expK e he) xs + c) → res = .thr (thrown 4) ∧ bx' = smB V xs clock) :
  IoFn Tryz.prog 220 [.ptr 900 0, aX c, aI e] (smB V xs clock) res bx' := by
 have hg : Fit (getM (expK e he) xs) := by
  unfold getM
  cases hf : findM (expK e he) xs 0 with
  | none => exact Fit.zero
  | some q => obtain ⟨j, p⟩ := q; exact hxs p (List.mem_of_getElem? (findM_get hf).2.1)
 have hle : match findM (expK e he) xs 0 with | some (_, p) => (aX p.2.1).Le (aX (getM (expK e he) xs)) | none => (AV.agg [aB false, .v (.slice none 0 0)]).Le (aX (getM (expK e he) xs)) := by
  unfold getM
  cases hf : findM (expK e he) xs 0 with
  | none => exact aX_zero
  | some q => exact AV.Le.refl _
 by_cases hfit : Fit (getM (expK e he) xs + c)
 ·obtain ⟨rfl, rfl⟩ := hr1 hfit;refine IoFn.of_body Tryz.func220 rfl Tryz.ntmps220 rfl rfl rfl ?_;refine AWP.seqS ?_;(repeat' (first |apply qn |apply qr |refine qe ?_|fail));refine ⟨?_⟩;refine AWP.seqS ?_;(repeat' (first |apply qn |apply qr |refine qe ?_|fail));refine ⟨?_⟩;refine AWP.seq ?_;refine AWP.arrCopy rfl rfl rfl rfl rfl rfl rfl rfl rfl rfl rfl rfl rfl rfl rfl rfl rfl rfl rfl rfl rfl rfl rfl (by intro h; cases h) (fun _ => rfl) (fun _ => rfl) (by omega) (expK_cells e he) ?_;refine AWP.seq ?_;(repeat' (first |refine qv ?_ |apply qr));refine Fl.lookup (v := aX (getM (expK e he) xs)) rfl rfl rfl rfl rfl rfl key_law (expK e he) (AV.Le.refl _) rfl ?_ (fun _ => rfl) rfl rfl ?_
  ·revert hle; generalize findM (expK e he) xs 0 = r; cases r <;> exact id
  (repeat' (first |refine qv ?_|fail));refine qc (xAdd_ret _ _ hg hc hfit) ?_;skip;refine Fl.mupd rfl rfl rfl rfl key_law (expK e he) (AV.Le.refl _) rfl (getM (expK e he) xs + c) (AV.Le.refl _) rfl rfl rfl ?_;(repeat' (first |refine qv ?_ |refine Fl.nil (fun _ => by kernel_rfl) ?_ |apply qs |apply qr));refine Fl.lookup (v := aX (getM (expK e he) xs + c)) rfl rfl rfl rfl rfl rfl key_law (expK e he) (AV.Le.refl _) rfl ?_ (fun _ => rfl) rfl rfl ?_
  ·obtain ⟨j, p, h1, h2⟩ := findM_put (expK e he) (getM (expK e he) xs + c) clock xs;rw [h1];exact AV.Le.of_eq (by rw [h2])
  skip;refine qc (ZeroX_ok _) ?_;(repeat' (first |refine qv ?_ |refine Fl.nil (fun _ => by kernel_rfl) ?_ |apply qr |(refine AWP.condD rfl ?_ ?_ <;> intro _ <;> try (exfalso; omega)) |apply qk))
  ·rename_i h0;refine Fl.mdel rfl rfl rfl rfl key_law (expK e he) (AV.Le.refl _) rfl rfl rfl ?_;(repeat' (first |refine Fl.nil (fun _ => by kernel_rfl) ?_|fail));refine ⟨⟨[], _, _, Ent.refl _ _ _, rfl, AV.Le.refl _, rfl, ⟨⟨⟨_, rfl, BLe.cells (LeL.refl _)⟩, rfl⟩, ⟨⟨_, rfl, BLe.map ?_ rfl⟩, rfl⟩, trivial⟩, rfl, rfl⟩⟩;unfold setM; rw [if_pos h0]
  ·rename_i h0;refine ⟨⟨[], _, _, Ent.refl _ _ _, rfl, AV.Le.refl _, rfl, ⟨⟨⟨_, rfl, BLe.cells (LeL.refl _)⟩, rfl⟩, ⟨⟨_, rfl, BLe.map ?_ rfl⟩, rfl⟩, trivial⟩, rfl, rfl⟩⟩;unfold setM; rw [if_neg h0]
 ·obtain ⟨rfl, rfl⟩ := hr2 hfit;refine IoFn.of_body Tryz.func220 rfl Tryz.ntmps220 rfl rfl rfl ?_;refine AWP.seqS ?_;(repeat' (first |apply qn |apply qr |refine qe ?_|fail));refine ⟨?_⟩;refine AWP.seqS ?_;(repeat' (first |apply qn |apply qr |refine qe ?_|fail));refine ⟨?_⟩;refine AWP.seq ?_;refine AWP.arrCopy rfl rfl rfl rfl rfl rfl rfl rfl rfl rfl rfl rfl rfl rfl rfl rfl rfl rfl rfl rfl rfl rfl rfl (by intro h; cases h) (fun _ => rfl) (fun _ => rfl) (by omega) (expK_cells e he) ?_;refine AWP.seq ?_;(repeat' (first |refine qv ?_ |apply qr));refine Fl.lookup (v := aX (getM (expK e he) xs)) rfl rfl rfl rfl rfl rfl key_law (expK e he) (AV.Le.refl _) rfl ?_ (fun _ => rfl) rfl rfl ?_
  ·revert hle; generalize findM (expK e he) xs 0 = r; cases r <;> exact id
  (repeat' (first |refine qv ?_|fail));exact Fl.thrC rfl [] (xAdd_thr _ _ hg hc hfit) rfl (LeL.refl _) rfl trivial rfl (fun _ => by kernel_rfl) (fun _ => rfl)
end Go.Proofs.YtcaecieigoplbaaGreat
/- (*sums).poly. -/
namespace Go.AL
structure MOk (V : Nat) (xs : List ME) (c : Nat) : Prop where
  nd : (xs.map (·.2.2)).Nodup
  lt : ∀ p ∈ xs, p.2.2 < c
  keys : xs.Pairwise fun a b => a.1 ≠ b.1
  fit : ∀ p ∈ xs, Fit p.2.1
  nz : ∀ p ∈ xs, p.2.1 ≠ 0
  exp : ∀ p ∈ xs, ∃ (e : List Int) (he : e.length ≤ 32), p.1 = expK e he ∧ e.length = V ∧ EOk e
def tmM (V : Nat) (p : ME) : TZ := ⟨zOf p.2.1, p.1.1.take V⟩
theorem tmM_exp {V : Nat} {p : ME} {e : List Int} {he : e.length ≤ 32} (h : p.1 = expK e he) (hl : e.length = V) : (tmM V p).e = e := by
 show p.1.1.take V = e;rw [h];show (e ++ List.replicate (32 - e.length) 0).take V = e;rw [← hl]; simp
theorem MOk.eok {V : Nat} {xs : List ME} {c : Nat} (m : MOk V xs c) : ∀ t ∈ xs.map (tmM V), EOk t.e ∧ t.e.length = V := by
 intro t ht;obtain ⟨p, hp, rfl⟩ := List.mem_map.1 ht;obtain ⟨e, he, h1, h2, h3⟩ := m.exp p hp;rw [tmM_exp h1 h2]; exact ⟨h3, h2⟩
theorem MOk.parts {V : Nat} {xs : List ME} {c : Nat} (m : MOk V xs c) : (xs.map (tmM V)).Pairwise fun a b => a.e ≠ b.e := by
 rw [List.pairwise_map];refine m.keys.imp_of_mem fun {a b} ha hb hne h => hne ?_;obtain ⟨e, he, h1, h2, h3⟩ := m.exp a ha;obtain ⟨e', he', h1', h2', h3'⟩ := m.exp b hb;rw [tmM_exp h1 h2, tmM_exp h1' h2'] at h;subst h;rw [h1, h1']
theorem keyC_take (k : Key) (V : Nat) : (keyC k).take V = (k.1.take V).flatMap eI := by
 rw [keyC_eq, ← List.map_take]
 induction k.1.take V with
 | nil => rfl
 | cons x l ih => simp only [List.map_cons, ih, List.flatMap_cons]; rfl
theorem seen_perm : ∀ (ys xs : List ME), (xs.map (·.2.2)).Nodup → (ys.map (·.2.2)).Nodup → (∀ p ∈ ys, p ∈ xs) → ys.length ≤ xs.length ∧ ((∀ p ∈ xs, p.2.2 ∈ ys.map (·.2.2)) → ys.Perm xs)
 | [], xs, _, _, _ => ⟨Nat.zero_le _, fun h => by
  cases xs with
  | nil => exact List.Perm.nil
  | cons p xs => have := h p (by simp); simp at this⟩
 | p :: ys, xs, hx, hy, hsub => by
  obtain ⟨A, B, rfl⟩ := List.append_of_mem (hsub p (by simp));have hm : (A ++ p :: B).Perm (p :: (A ++ B)) := List.perm_middle;have hx2 : ((p :: (A ++ B)).map (·.2.2)).Nodup := (hm.map _).nodup_iff.1 hx;rw [List.map_cons, List.nodup_cons] at hx2 hy
  have ih := seen_perm ys (A ++ B) hx2.2 hy.2 fun q hq => by
   have h1 := hm.mem_iff.1 (hsub q (by simp [hq]));rcases List.mem_cons.1 h1 with h1 | h1
   ·subst h1; exact absurd (List.mem_map.2 ⟨q, hq, rfl⟩) hy.1
   ·exact h1
  refine ⟨by have := ih.1; simp at this ⊢; omega, fun hall => ((ih.2 fun q hq => ?_).cons p).trans hm.symm⟩;have h1 := hall q (hm.mem_iff.2 (by simp [List.mem_append.1 hq]));rw [List.map_cons, List.mem_cons] at h1;rcases h1 with h1 | h1
  ·exact absurd (List.mem_map.2 ⟨q, hq, h1⟩) hx2.1
  ·exact h1
theorem sortT_perm_eq {xs ys : List TZ} (hnd : xs.Pairwise fun a b => a.e ≠ b.e) (hp : ys.Perm xs) : sortT ys = sortT xs :=
 sortT_unique hnd ((sortT_perm ys).trans hp) (sortT_sorted ys)
end Go.AL
namespace Go.Proofs.YtcaecieigoplbaaGreat
open Go.AL
set_option maxHeartbeats 1000000 in
theorem sPoly_io (V : Nat) (xs : List ME) (clock : Nat) (m : MOk V xs clock) (hV : V ≤ 32) (hl : xs.length ≤ 1000000000) (res : Res) (bx' : List (AL.Id × Bx))
  (hr1 : OkP ⟨V, sortT (xs.map (tmM V))⟩ → res = .ret (aP ⟨V, sortT (xs.map (tmM V))⟩) ∧ bx' = smB V xs clock)
  (hr2 : ¬ OkP ⟨V, sortT (xs.map (tmM V))⟩ → res = .thr (thrown 4) ∧ bx' = smB V xs clock) :
  IoFn Tryz.prog 222 [.ptr 900 0] (smB V xs clock) res bx' := by
 have hb' : bx' = smB V xs clock := (Classical.em (OkP ⟨V, sortT (xs.map (tmM V))⟩)).elim (fun h => (hr1 h).2) (fun h => (hr2 h).2);subst hb';refine IoFn.of_body Tryz.func222 rfl Tryz.ntmps222 rfl rfl rfl ?_;refine AWP.seqS ?_;(repeat' (first |apply qn |apply qr |refine qe ?_|fail));refine ⟨?_⟩;refine AWP.seqS ?_;(repeat' (first |refine qv ?_ |apply qn |apply qr |refine qe ?_|fail));refine ⟨?_⟩;refine AWP.ent (Ent.nilcell 3 1 703 rfl rfl rfl 3 eT 124) ?_;refine AWP.seq ?_;refine AWP.seq ?_;(repeat' (first |refine qv ?_ |apply qr));refine Fl.range rfl rfl rfl rfl rfl rfl rfl rfl ?_;(repeat' (first |apply qn |apply qb));refine AWP.loop (G := List ME) (fun ys => (ys.map (·.2.2)).Nodup ∧ ∀ p ∈ ys, p ∈ xs) (fun ys => St.of [900, 901] [(0, .ptr 900 0), (2, .ptr 2 0), (3, .ptr 3 0), (15, .ptr 15 0)] [(900, .cells [aN V, .mp 901] 216), (901, bM xs clock), (2, .cells [aN 0, .v (.slice none 0 0)] 70), (3, .cells [aN V, .row 700] 70), (700, .row 3 eT (ys.map (tmM V)) 124), (15, .iter 901 clock (ys.map (·.2.2)) clock)]) (fun ys => xs.length - ys.length) [] ⟨by simp, by simp⟩ ?_ ?_
 ·refine Ent.of [(700, 703)] ?_ ?_ rfl rfl;(repeat' (first |exact True.intro |refine ⟨⟨AV.Le.refl _, rfl⟩, ?_⟩ |refine ⟨⟨⟨_, rfl, BLe.cells (LeL.refl _)⟩, rfl⟩, ?_⟩ |refine ⟨⟨⟨_, rfl, BLe.row rfl⟩, rfl⟩, ?_⟩ |refine ⟨⟨⟨_, rfl, BLe.map rfl rfl⟩, rfl⟩, ?_⟩ |refine ⟨⟨⟨_, rfl, BLe.iter rfl rfl rfl rfl⟩, rfl⟩, ?_⟩|fail))
 ·intro ys ⟨k0, k1⟩;obtain ⟨q1, q2⟩ := seen_perm ys xs m.nd k0 k1;refine AWP.seq ?_;refine AWP.next rfl rfl rfl rfl rfl rfl rfl rfl rfl rfl rfl m.lt (fun hall => ?_) (fun p hp hps => ?_)
  ·have hperm := (q2 hall).map (tmM V);have hse := sortT_perm_eq m.parts hperm;have hl2 := q1;(repeat' (first |refine qv ?_ |apply qs |apply qr |refine AWP.condF rfl ?_ |apply qx));refine Fl.io rfl [(900, 700)] (sort_ok V (by omega) (ys.map (tmM V)) (fun t ht => m.eok t (hperm.mem_iff.1 ht)) ((List.Perm.pairwise_iff (fun h => Ne.symm h) hperm).2 m.parts) (by simp; omega) _) rfl rfl (LeL.refl _) rfl ⟨⟨⟨_, rfl, BLe.row rfl⟩, rfl⟩, trivial⟩ rfl rfl rfl rfl rfl ?_;refine Fl.nilF ?_;rw [hse];refine AWP.ent (Ent.freeze 700 rfl) ?_;(repeat' (first |refine qv ?_ |apply qs |apply qr))
   have hW : WP ⟨V, sortT (xs.map (tmM V))⟩ := by
    intro t ht;obtain ⟨p, hp, rfl⟩ := List.mem_map.1 ((sortT_perm _).mem_iff.1 ht);exact toW_ok _
   by_cases hok : OkP ⟨V, sortT (xs.map (tmM V))⟩
   ·obtain ⟨rfl, _⟩ := hr1 hok;refine qc (pValid_ok ⟨V, sortT (xs.map (tmM V))⟩ hW true (by simp [hok])) ?_;(repeat' (first |refine qv ?_ |apply qn |apply qs |apply qr |refine qe ?_ |refine AWP.condF rfl ?_ |apply qk |apply qt));exact ⟨⟨[], _, _, Ent.refl _ _ _, rfl, AV.Le.refl _, rfl, ⟨⟨⟨_, rfl, BLe.cells (LeL.refl _)⟩, rfl⟩, ⟨⟨_, rfl, BLe.map rfl rfl⟩, rfl⟩, trivial⟩, rfl, rfl⟩⟩
   ·obtain ⟨rfl, _⟩ := hr2 hok;refine qc (pValid_ok ⟨V, sortT (xs.map (tmM V))⟩ hW false (by simp [hok])) ?_;(repeat' (first |refine qv ?_ |apply qn |apply qr |refine AWP.condT rfl ?_));exact Fl.thrC rfl [] (Throw_ok 4) rfl (LeL.refl _) rfl trivial rfl (fun _ => by kernel_rfl) (fun _ => rfl)
  ·obtain ⟨e, he, hpe, hel, heo⟩ := m.exp p hp;have h32 := p.1.2
   have htl : (p.1.1.take V).length = V := by rw [List.length_take]; omega
   have hlt : ys.length < xs.length := by
    have := (seen_perm (ys ++ [p]) xs m.nd (by rw [List.map_append, List.nodup_append]; exact ⟨k0, by simp, fun a ha b hb => by simp at hb; subst hb; exact fun e => hps (e ▸ ha)⟩) (fun q hq => by rcases List.mem_append.1 hq with h | h; exact k1 q h; simp at h; exact h ▸ hp)).1;simp at this; omega
   refine AWP.seqS ?_;(repeat' (first |refine AWP.condT rfl ?_ |apply qk));refine ⟨?_⟩;refine AWP.block ?_;refine AWP.seqS ?_;(repeat' (first |apply qr));refine Fl.entry rfl rfl rfl rfl key_law.back (fun _ => rfl) hp rfl m.nd rfl rfl ?_;(repeat' (first |refine qv ?_ |apply qn |refine qe ?_|fail));refine ⟨?_⟩;refine AWP.ent (Ent.freezeC 4 4 rfl rfl rfl rfl) ?_;(repeat' (first |refine qv ?_ |apply qr));refine Fl.cutArr rfl rfl rfl rfl rfl rfl rfl rfl rfl (by omega) (by omega) (keyC_take p.1 V) (by omega) (fun _ => rfl) rfl rfl ?_;skip;refine qc (cloneI_ok (p.1.1.take V) (by omega)) ?_;(repeat' (first |refine qe ?_|fail));refine ql eT [tmM V p] ?_;skip;refine qa (hby := (by dsimp only [List.length_nil, List.length_cons]; simp; omega)) (hm := (by simp; omega)) (r := ?_);(repeat' (first |refine qv ?_ |refine Fl.nil (fun _ => by kernel_rfl) ?_ |refine qe ?_|fail));refine LoopEnd.of (ys ++ [p]) ⟨?_, ?_⟩ (by simp; omega) ?_
   ·rw [List.map_append, List.nodup_append]; exact ⟨k0, by simp, fun a ha b hb => by simp at hb; subst hb; exact fun e => hps (e ▸ ha)⟩
   ·intro q hq;rcases List.mem_append.1 hq with h | h
    ·exact k1 q h
    ·simp at h; exact h ▸ hp
   ·refine Ent.of [(700, 32)] ?_ ?_ rfl rfl;(repeat' (first |exact True.intro |refine ⟨⟨AV.Le.refl _, rfl⟩, ?_⟩ |refine ⟨⟨⟨_, rfl, BLe.cells (LeL.refl _)⟩, rfl⟩, ?_⟩ |refine ⟨⟨⟨_, rfl, BLe.map rfl rfl⟩, rfl⟩, ?_⟩ |refine ⟨⟨⟨_, rfl, BLe.iter rfl rfl ?_ rfl⟩, rfl⟩, ?_⟩ |refine ⟨⟨⟨_, rfl, BLe.row ?_⟩, rfl⟩, ?_⟩|fail))
    all_goals simp
end Go.Proofs.YtcaecieigoplbaaGreat
/- Sums of terms, az the map collects them. -/
namespace Go.AL
theorem findM_none {k : Key} : ∀ {xs : List ME} {i : Nat}, findM k xs i = none → ∀ q ∈ xs, q.1 ≠ k
 | [], _, _, q, hq => by cases hq
 | p :: xs, i, h, q, hq => by
  unfold findM at h;split at h
  ·cases h
  ·rename_i hk;rcases List.mem_cons.1 hq with rfl | hq
   ·exact fun e => hk e.symm
   ·exact findM_none h q hq
theorem findM_miss {k : Key} : ∀ {xs : List ME} (i : Nat), (∀ q ∈ xs, q.1 ≠ k) → findM k xs i = none
 | [], _, _ => rfl
 | p :: xs, i, h => by
  unfold findM;rw [if_neg (fun e => h p (by simp) e.symm)];exact findM_miss (i + 1) fun q hq => h q (by simp [hq])
theorem findM_split {k : Key} : ∀ {xs : List ME} {i j : Nat} {p : ME}, findM k xs i = some (j, p) → ∃ A B, xs = A ++ p :: B ∧ A.length + i = j ∧ p.1 = k ∧ ∀ q ∈ A, q.1 ≠ k
 | [], _, _, _, h => by simp [findM] at h
 | q :: xs, i, j, p, h => by
  unfold findM at h;split at h
  ·rename_i hk;injection h with h; injection h with h1 h2; subst h1 h2;exact ⟨[], xs, rfl, by simp, hk.symm, by simp⟩
  ·rename_i hk;obtain ⟨A, B, h1, h2, h3, h4⟩ := findM_split h;refine ⟨q :: A, B, by rw [h1]; rfl, by simp; omega, h3, fun r hr => ?_⟩;rcases List.mem_cons.1 hr with rfl | hr
   ·exact fun e => hk e.symm
   ·exact h4 r hr
theorem findM_hit {k : Key} {p : ME} (hk : p.1 = k) : ∀ {A B : List ME} (i : Nat), (∀ q ∈ A, q.1 ≠ k) → findM k (A ++ p :: B) i = some (A.length + i, p)
 | [], B, i, _ => by simp [findM, hk]
 | q :: A, B, i, h => by
  rw [List.cons_append];unfold findM;rw [if_neg (fun e => h q (by simp) e.symm), findM_hit hk (i + 1) fun r hr => h r (by simp [hr])];simp only [List.length_cons];congr 2; omega
theorem setM_cases (k : Key) (y : Int) (c : Nat) (xs : List ME) :
  (findM k xs 0 = none ∧ putC k c xs = c + 1 ∧ ((y = 0 ∧ setM k y c xs = xs) ∨ (y ≠ 0 ∧ setM k y c xs = xs ++ [(k, y, c)]))) ∨
  (∃ A p B, findM k xs 0 = some (A.length, p) ∧ xs = A ++ p :: B ∧ p.1 = k ∧ (∀ q ∈ A, q.1 ≠ k) ∧ putC k c xs = c ∧ ((y = 0 ∧ setM k y c xs = A ++ B) ∨ (y ≠ 0 ∧ setM k y c xs = A ++ (k, y, p.2.2) :: B))) := by
 cases hf : findM k xs 0 with
 | none =>
  left;refine ⟨rfl, by unfold putC; rw [hf], ?_⟩
  have hp : putM k y c xs = xs ++ [(k, y, c)] := by unfold putM; rw [hf]
  by_cases hy : y = 0
  ·left;refine ⟨hy, ?_⟩;unfold setM;have hh := findM_hit (k := k) (p := (k, y, c)) rfl (A := xs) (B := []) 0 (findM_none hf);rw [if_pos hy, hp];unfold delM;rw [hh];simp only [Nat.add_zero];rw [List.eraseIdx_append_of_length_le (Nat.le_refl _)];simp
  ·right; exact ⟨hy, by unfold setM; rw [if_neg hy, hp]⟩
 | some q =>
  obtain ⟨j, p⟩ := q;obtain ⟨A, B, h1, h2, h3, h4⟩ := findM_split hf
  have h2 : A.length = j := by omega
  subst h2;right;refine ⟨A, p, B, rfl, h1, h3, h4, by unfold putC; rw [hf], ?_⟩
  have hp : putM k y c xs = A ++ (k, y, p.2.2) :: B := by unfold putM; rw [hf, h1]; simp
  by_cases hy : y = 0
  ·left;refine ⟨hy, ?_⟩;unfold setM;have hh := findM_hit (k := k) (p := (k, y, p.2.2)) rfl (A := A) (B := B) 0 h4;rw [if_pos hy, hp];unfold delM;rw [hh];simp only [Nat.add_zero];rw [List.eraseIdx_append_of_length_le (Nat.le_refl _)];simp
  ·right; exact ⟨hy, by unfold setM; rw [if_neg hy, hp]⟩
def exK (e : List Int) : Key := if h : e.length ≤ 32 then expK e h else ⟨List.replicate 32 0, by simp⟩
theorem exK_eq {e : List Int} (h : e.length ≤ 32) : exK e = expK e h := dif_pos h
abbrev UT := Int × List Int
abbrev MS := List ME × Nat
def stepM (s : MS) (u : UT) : MS := (setM (exK u.2) (getM (exK u.2) s.1 + u.1) s.2 s.1, putC (exK u.2) s.2 s.1)
noncomputable def runM : List UT → MS → Option MS
  | [], s => some s
  | u :: us, s => @ite _ (Fit (getM (exK u.2) s.1 + u.1)) (Classical.propDecidable _) (runM us (stepM s u)) none
theorem runM_append : ∀ (a b : List UT) (s : MS), runM (a ++ b) s = (runM a s).bind (runM b)
 | [], b, s => rfl
 | u :: a, b, s => by
  rw [List.cons_append];unfold runM;split
  ·exact runM_append a b _
  ·rfl
theorem runM_snoc {a : List UT} {u : UT} {s s' : MS} (h : runM a s = some s') (hf : Fit (getM (exK u.2) s'.1 + u.1)) : runM (a ++ [u]) s = some (stepM s' u) := by
 rw [runM_append, h];simp [runM, hf]
theorem runM_stop {a b : List UT} {u : UT} {s s' : MS} (h : runM a s = some s') (hf : ¬ Fit (getM (exK u.2) s'.1 + u.1)) : runM (a ++ u :: b) s = none := by
 rw [runM_append, h];simp [runM, hf]
def UOk (V : Nat) (us : List UT) : Prop := ∀ u ∈ us, u.2.length = V ∧ EOk u.2
theorem MOk.step {V : Nat} {xs : List ME} {c : Nat} (m : MOk V xs c) (hV : V ≤ 32) {a : Int} {e : List Int} (hl : e.length = V) (he : EOk e) (hf : Fit (getM (exK e) xs + a)) : MOk V (stepM (xs, c) (a, e)).1 (stepM (xs, c) (a, e)).2 := by
 have h32 : e.length ≤ 32 := by omega
 show MOk V (setM (exK e) (getM (exK e) xs + a) c xs) (putC (exK e) c xs);have hexp : ∀ (p : ME), p.1 = exK e → ∃ (e : List Int) (he : e.length ≤ 32), p.1 = expK e he ∧ e.length = V ∧ EOk e := fun p hp => ⟨e, h32, by rw [hp, exK_eq h32], hl, he⟩;rcases setM_cases (exK e) (getM (exK e) xs + a) c xs with ⟨h1, h2, h3⟩ | ⟨A, p, B, h1, h2, h3, h4, h5, h6⟩
 ·rw [h2];rcases h3 with ⟨_, h3⟩ | ⟨hy, h3⟩
  ·rw [h3];exact ⟨m.nd, fun p hp => Nat.lt_succ_of_lt (m.lt p hp), m.keys, m.fit, m.nz, m.exp⟩
  ·rw [h3]
   have hm : ∀ {Q : ME → Prop}, (∀ p ∈ xs, Q p) → Q (exK e, getM (exK e) xs + a, c) → ∀ p ∈ xs ++ [(exK e, getM (exK e) xs + a, c)], Q p := fun hq h p hp => by
    rcases List.mem_append.1 hp with hp | hp
    ·exact hq p hp
    ·simp at hp; subst hp; exact h
   refine ⟨?_, hm (fun p hp => Nat.lt_succ_of_lt (m.lt p hp)) (Nat.lt_succ_self c), ?_, hm m.fit hf, hm m.nz hy, hm m.exp (hexp _ rfl)⟩
   ·rw [List.map_append, List.nodup_append];refine ⟨m.nd, by simp, fun x hx y hy' => ?_⟩;obtain ⟨p, hp, rfl⟩ := List.mem_map.1 hx;simp at hy'; subst hy';have := m.lt p hp; omega
   ·rw [List.pairwise_append];refine ⟨m.keys, by simp, fun x hx y hy' => ?_⟩;simp at hy'; subst hy';exact findM_none h1 x hx
 ·rw [h5];subst h2;rcases h6 with ⟨_, h6⟩ | ⟨hy, h6⟩
  ·rw [h6];have hsub : (A ++ B).Sublist (A ++ p :: B) := List.Sublist.append_left (List.sublist_cons_self p B) A;have hm : ∀ q ∈ A ++ B, q ∈ A ++ p :: B := fun q hq => hsub.mem hq;exact ⟨(hsub.map _).nodup m.nd, fun q hq => m.lt q (hm q hq), m.keys.sublist hsub, fun q hq => m.fit q (hm q hq), fun q hq => m.nz q (hm q hq), fun q hq => m.exp q (hm q hq)⟩
  ·rw [h6]
   have hm : ∀ {Q : ME → Prop}, (∀ q ∈ A ++ p :: B, Q q) → Q (exK e, getM (exK e) (A ++ p :: B) + a, p.2.2) → ∀ q ∈ A ++ (exK e, getM (exK e) (A ++ p :: B) + a, p.2.2) :: B, Q q := fun hq h q hq' => by
    rcases List.mem_append.1 hq' with hq' | hq'
    ·exact hq q (by simp [hq'])
    ·rcases List.mem_cons.1 hq' with rfl | hq'
     ·exact h
     ·exact hq q (by simp [hq'])
   refine ⟨by have := m.nd; simpa using this, hm m.lt (m.lt p (by simp)), ?_, hm m.fit hf, hm m.nz hy, hm m.exp (hexp _ rfl)⟩;have hk := m.keys;rw [List.pairwise_append, List.pairwise_cons] at hk ⊢;obtain ⟨k1, ⟨k2, k3⟩, k4⟩ := hk;rw [h3] at k2
   exact ⟨k1, ⟨k2, k3⟩, fun x hx y hy' => by
    rcases List.mem_cons.1 hy' with rfl | hy'
    ·exact h4 x hx
    ·exact k4 x hx y (by simp [hy'])⟩
theorem runM_ok {V : Nat} (hV : V ≤ 32) : ∀ {us : List UT} {xs : List ME} {c : Nat} {s' : MS}, MOk V xs c → UOk V us → runM us (xs, c) = some s' → MOk V s'.1 s'.2 ∧ s'.1.length ≤ xs.length + us.length
 | [], xs, c, s', m, _, h => by
  simp only [runM] at h; injection h with h; subst h; exact ⟨m, by simp⟩
 | (a, e) :: us, xs, c, s', m, hu, h => by
  unfold runM at h;split at h
  ·rename_i hf;have hu1 := hu (a, e) (by simp);have hs := m.step hV hu1.1 hu1.2 hf
   have hlen : (stepM (xs, c) (a, e)).1.length ≤ xs.length + 1 := by
    show (setM (exK e) (getM (exK e) xs + a) c xs).length ≤ _;rcases setM_cases (exK e) (getM (exK e) xs + a) c xs with ⟨h1, h2, h3⟩ | ⟨A, p, B, h1, h2, h3, h4, h5, h6⟩
    ·rcases h3 with ⟨_, h3⟩ | ⟨_, h3⟩ <;> rw [h3] <;> simp
    ·rcases h6 with ⟨_, h6⟩ | ⟨_, h6⟩ <;> rw [h6, h2] <;> simp <;> omega
   have := runM_ok hV (xs := (stepM (xs, c) (a, e)).1) (c := (stepM (xs, c) (a, e)).2) hs (fun u hu' => hu u (by simp [hu'])) h;refine ⟨this.1, ?_⟩;have h2 := this.2;simp only [List.length_cons]; omega
  ·cases h
theorem MOk.nil (V : Nat) : MOk V [] 0 := ⟨by simp, by simp, by simp, by simp, by simp, by simp⟩
end Go.AL
/- poly.plus. -/
namespace Go.AL
abbrev u1 (t : TZ) : UT := (zval t.c, t.e)
abbrev u2 (b : Int) (t : TZ) : UT := (zval t.c * b, t.e)
def plusU (b : Int) (p q : PZ) : List UT := p.terms.map u1 ++ q.terms.map (u2 b)
def SumOk (V : Nat) (us : List UT) (r : PZ) : Prop := ∃ s, runM us ([], 0) = some s ∧ r = ⟨V, sortT (s.1.map (tmM V))⟩ ∧ OkP r
theorem OkP.uok {p : PZ} {V : Nat} (hp : OkP p) (hV : p.vars = V) {t : TZ} (ht : t ∈ p.terms) : t.e.length = V ∧ EOk t.e := by
 have := hp.terms t ht;have h2 := this.len;exact ⟨by omega, this.exps⟩
theorem take_map_snoc {α β : Type} (f : α → β) {l : List α} {i : Nat} {x : α} (h : l[i]? = some x) : (l.map f).take (i + 1) = (l.map f).take i ++ [f x] := take_snoc (by rw [List.getElem?_map, h]; rfl)
theorem map_split {α β : Type} (f : α → β) {l : List α} {i : Nat} {x : α} (h : l[i]? = some x) : l.map f = (l.map f).take i ++ f x :: (l.map f).drop (i + 1) := by
 have hi := (List.getElem?_eq_some_iff.1 h).1
 have h2 : (l.map f)[i]'(by simpa using hi) = f x := by
  have := (List.getElem?_eq_some_iff.1 h).2;rw [List.getElem_map, this]
 rw [← h2, List.getElem_cons_drop, List.take_append_drop]
end Go.AL
namespace Go.Proofs.YtcaecieigoplbaaGreat
open Go.AL
theorem sAdd_ret (V : Nat) (hV : V ≤ 32) (s : MS) (m : MOk V s.1 s.2) (u : UT) (hc : Fit u.1) (he : u.2.length = V) (hf : Fit (getM (exK u.2) s.1 + u.1)) :
  IoFn Tryz.prog 220 [.ptr 900 0, aX u.1, aI u.2] (smB V s.1 s.2) (.ret (.tup [])) (smB V (stepM s u).1 (stepM s u).2) := by
 have h32 : u.2.length ≤ 32 := by omega
 rw [exK_eq h32] at hf;exact sAdd_io V s.1 s.2 u.1 u.2 hc m.fit h32 _ _ (fun _ => ⟨rfl, by simp only [stepM, exK_eq h32]⟩) (fun h => absurd hf h)
theorem sAdd_thr (V : Nat) (hV : V ≤ 32) (s : MS) (m : MOk V s.1 s.2) (u : UT) (hc : Fit u.1) (he : u.2.length = V) (hf : ¬ Fit (getM (exK u.2) s.1 + u.1)) :
  IoFn Tryz.prog 220 [.ptr 900 0, aX u.1, aI u.2] (smB V s.1 s.2) (.thr (thrown 4)) (smB V s.1 s.2) := by
 have h32 : u.2.length ≤ 32 := by omega
 rw [exK_eq h32] at hf;exact sAdd_io V s.1 s.2 u.1 u.2 hc m.fit h32 _ _ (fun h => absurd h hf) (fun _ => ⟨rfl, rfl⟩)
set_option maxHeartbeats 1000000 in
theorem plus_io (V : Nat) (hV : V ≤ 32) (p q : PZ) (b : Int) (hb : Fit b) (hwp : WP p) (hwq : WP q) (hp : OkP p) (hq : OkP q) (hpv : p.vars = V) (hqv : q.vars = V) (hmul : ∀ t ∈ q.terms, Fit (zval t.c * b)) (res : Res)
  (hr1 : ∀ r, SumOk V (plusU b p q) r → res = .ret (aP r)) (hr2 : (¬ ∃ r, SumOk V (plusU b p q) r) → res = .thr (thrown 4)) :
  IoFn Tryz.prog 185 [aP p, aP q, aX b] [] res [] := by
 have hfp : ∀ t ∈ p.terms, Fit (zval t.c) ∧ t.c = zOf (zval t.c) := fun t ht => by
  have := okZ_eq (hwp t ht) (hp.terms t ht).coef; exact ⟨this.2, this.1⟩
 have hfq : ∀ t ∈ q.terms, Fit (zval t.c) ∧ t.c = zOf (zval t.c) := fun t ht => by
  have := okZ_eq (hwq t ht) (hq.terms t ht).coef; exact ⟨this.2, this.1⟩
 have hup : UOk V (p.terms.map u1) := fun u hu => by
  obtain ⟨t, ht, rfl⟩ := List.mem_map.1 hu; exact hp.uok hpv ht
 have huq : UOk V (q.terms.map (u2 b)) := fun u hu => by
  obtain ⟨t, ht, rfl⟩ := List.mem_map.1 hu; exact hq.uok hqv ht
 have hplen := hp.len;have hqlen := hq.len;refine IoFn.of_body Tryz.func185 rfl Tryz.ntmps185 rfl rfl rfl ?_;(repeat' (first |refine qv ?_ |apply qn |apply qs |apply qr |refine qe ?_|fail));refine Fl.io rfl [(900, 710), (901, 711)] (empty_ok V) rfl rfl (LeL.cons (AV.Le.int hpv) LeL.nil) rfl trivial rfl rfl rfl rfl rfl ?_;(repeat' (first |refine qv ?_ |apply qn |apply qs |apply qr |apply qb));refine AWP.loop (G := Nat × MS) (fun (i, s) => i ≤ p.terms.length ∧ runM ((p.terms.map u1).take i) ([], 0) = some s)
  (fun (i, s) => St.of [] [(3, .ptr 3 0), (4, .ptr 4 0), (5, .ptr 5 0), (6, .ptr 6 0), (7, .ptr 710 0), (16, .sl 3 eT p.terms), (17, aN p.terms.length), (18, aN i)] [(3, .cells (eP p) 70), (4, .cells (eP q) 70), (5, .cells (eX b) 35), (6, .cells [aN 0, .v (.slice none 0 0)] 70), (710, .cells [aN V, .mp 711] 216), (711, bM s.1 s.2)]) (fun (i, s) => p.terms.length - i) (0, ([], 0)) ⟨by omega, by simp [runM]⟩ ?_ ?_
 ·refine Ent.of [] ?_ ?_ rfl rfl;(repeat' (first |exact True.intro |refine ⟨⟨AV.Le.refl _, rfl⟩, ?_⟩ |refine ⟨⟨⟨_, rfl, BLe.cells (LeL.refl _)⟩, rfl⟩, ?_⟩ |refine ⟨⟨⟨_, rfl, BLe.map rfl rfl⟩, rfl⟩, ?_⟩|fail))
 ·intro ⟨i, s⟩ ⟨k0, k1⟩;have hm := (runM_ok hV (MOk.nil V) (fun u hu => hup u (List.mem_of_mem_take hu)) k1);by_cases hi : i < p.terms.length
  ·obtain ⟨t, ht⟩ : ∃ t, p.terms[i]? = some t := ⟨_, List.getElem?_eq_getElem hi⟩;have htm := List.mem_of_getElem? ht;by_cases hf : Fit (getM (exK t.e) s.1 + zval t.c)
   ·(repeat' (first |refine qv ?_ |apply qn |apply qs |apply qr |refine qe ?_ |(refine AWP.condD rfl ?_ ?_ <;> intro _ <;> try (exfalso; omega)) |apply qb |apply qk |refine qK ?_|fail));refine Fl.io rfl [(900, 710), (901, 711)] (sAdd_ret V hV s hm.1 (u1 t) (hfp t htm).1 (hp.uok hpv htm).1 hf) rfl rfl (LeL.cons (AV.Le.refl _) (LeL.cons (AV.Le.agg (leZ (hfp t htm).2)) (LeL.refl _))) rfl ⟨⟨⟨_, rfl, BLe.cells (LeL.refl _)⟩, rfl⟩, ⟨⟨_, rfl, BLe.map rfl rfl⟩, rfl⟩, trivial⟩ rfl rfl rfl rfl rfl ?_;(repeat' (first |refine qv ?_ |apply qn |apply qr |refine qw ?_|fail));refine LoopEnd.of (i + 1, stepM s (u1 t)) ⟨by omega, by rw [take_map_snoc u1 ht]; exact runM_snoc k1 hf⟩ (by simp only; omega) ?_;refine Ent.of [] ?_ ?_ rfl rfl;(repeat' (first |exact True.intro |refine ⟨⟨AV.Le.refl _, rfl⟩, ?_⟩ |refine ⟨⟨⟨_, rfl, BLe.cells (LeL.refl _)⟩, rfl⟩, ?_⟩ |refine ⟨⟨⟨_, rfl, BLe.map rfl rfl⟩, rfl⟩, ?_⟩|fail))
   ·have e1 := hr2 (by
     rintro ⟨r, s', h1, _⟩;have := runM_stop (u := u1 t) (b := (p.terms.map u1).drop (i + 1)) k1 hf;rw [show (p.terms.map u1).take i ++ (zval t.c, t.e) :: (p.terms.map u1).drop (i + 1) = p.terms.map u1 from (map_split u1 ht).symm] at this;unfold plusU at h1;rw [runM_append, this] at h1
     cases h1)
    subst e1;(repeat' (first |refine qv ?_ |apply qn |apply qs |apply qr |refine qe ?_ |(refine AWP.condD rfl ?_ ?_ <;> intro _ <;> try (exfalso; omega)) |apply qb |apply qk |refine qK ?_|fail));exact Fl.thrC rfl [(900, 710), (901, 711)] (sAdd_thr V hV s hm.1 (u1 t) (hfp t htm).1 (hp.uok hpv htm).1 hf) rfl (LeL.cons (AV.Le.refl _) (LeL.cons (AV.Le.agg (leZ (hfp t htm).2)) (LeL.refl _))) rfl ⟨⟨⟨_, rfl, BLe.cells (LeL.refl _)⟩, rfl⟩, ⟨⟨_, rfl, BLe.map rfl rfl⟩, rfl⟩, trivial⟩ rfl (fun _ => by kernel_rfl) (fun _ => rfl)
  ·have hti : (p.terms.map u1).take i = p.terms.map u1 := List.take_of_length_le (by simp; omega);rw [hti] at k1;clear hti hm;(repeat' (first |refine qv ?_ |apply qn |apply qs |apply qr |(refine AWP.condD rfl ?_ ?_ <;> intro _ <;> try (exfalso; omega)) |apply qb |apply qx));rename_i hi9; clear hi hi9 k0;refine AWP.loop (G := Nat × MS) (fun (i, s') => i ≤ q.terms.length ∧ runM ((q.terms.map (u2 b)).take i) s = some s')
    (fun (i, s') => St.of [] [(3, .ptr 3 0), (4, .ptr 4 0), (5, .ptr 5 0), (6, .ptr 6 0), (7, .ptr 710 0), (30, .sl 3 eT q.terms), (31, aN q.terms.length), (32, aN i)] [(3, .cells (eP p) 70), (4, .cells (eP q) 70), (5, .cells (eX b) 35), (6, .cells [aN 0, .v (.slice none 0 0)] 70), (710, .cells [aN V, .mp 711] 216), (711, bM s'.1 s'.2)]) (fun (i, s') => q.terms.length - i) (0, s) ⟨by omega, by simp [runM]⟩ ?_ ?_
   ·refine Ent.of [] ?_ ?_ rfl rfl;(repeat' (first |exact True.intro |refine ⟨⟨AV.Le.refl _, rfl⟩, ?_⟩ |refine ⟨⟨⟨_, rfl, BLe.cells (LeL.refl _)⟩, rfl⟩, ?_⟩ |refine ⟨⟨⟨_, rfl, BLe.map rfl rfl⟩, rfl⟩, ?_⟩|fail))
   ·have hm0 := runM_ok hV (MOk.nil V) hup k1;intro ⟨i, s'⟩ ⟨k0, k2⟩;have hm := (runM_ok hV hm0.1 (fun u hu => huq u (List.mem_of_mem_take hu)) k2);by_cases hi : i < q.terms.length
    ·obtain ⟨t, ht⟩ : ∃ t, q.terms[i]? = some t := ⟨_, List.getElem?_eq_getElem hi⟩;have htm := List.mem_of_getElem? ht;by_cases hf : Fit (getM (exK t.e) s'.1 + zval t.c * b)
     ·(repeat' (first |refine qv ?_ |apply qn |apply qs |apply qr |refine qe ?_ |(refine AWP.condD rfl ?_ ?_ <;> intro _ <;> try (exfalso; omega)) |apply qb |apply qk |refine qK ?_|fail));refine Fl.call rfl (xMul_ret _ _ (hfq t htm).1 hb (hmul t htm)) rfl rfl rfl (LeL.cons (AV.Le.agg (leZ (σ := []) (hfq t htm).2)) (LeL.refl _)) ?_;(repeat' (first |refine qv ?_|fail));refine Fl.io rfl [(900, 710), (901, 711)] (sAdd_ret V hV s' hm.1 (u2 b t) (hmul t htm) (hq.uok hqv htm).1 hf) rfl rfl (LeL.refl _) rfl ⟨⟨⟨_, rfl, BLe.cells (LeL.refl _)⟩, rfl⟩, ⟨⟨_, rfl, BLe.map rfl rfl⟩, rfl⟩, trivial⟩ rfl rfl rfl rfl rfl ?_;(repeat' (first |refine qv ?_ |apply qn |refine Fl.nil (fun _ => by kernel_rfl) ?_ |apply qr |refine qw ?_|fail));refine LoopEnd.of (i + 1, stepM s' (u2 b t)) ⟨by omega, by rw [take_map_snoc (u2 b) ht]; exact runM_snoc k2 hf⟩ (by simp only; omega) ?_;refine Ent.of [] ?_ ?_ rfl rfl;(repeat' (first |exact True.intro |refine ⟨⟨AV.Le.refl _, rfl⟩, ?_⟩ |refine ⟨⟨⟨_, rfl, BLe.cells (LeL.refl _)⟩, rfl⟩, ?_⟩ |refine ⟨⟨⟨_, rfl, BLe.map rfl rfl⟩, rfl⟩, ?_⟩|fail))
     ·have e1 := hr2 (by
       rintro ⟨r, s2, h1, _⟩;have := runM_stop (u := u2 b t) (b := (q.terms.map (u2 b)).drop (i + 1)) k2 hf;rw [show (q.terms.map (u2 b)).take i ++ u2 b t :: (q.terms.map (u2 b)).drop (i + 1) = q.terms.map (u2 b) from (map_split (u2 b) ht).symm] at this;unfold plusU at h1;rw [runM_append, k1] at h1;change runM _ s = _ at h1;rw [this] at h1
       cases h1)
      subst e1;(repeat' (first |refine qv ?_ |apply qn |apply qs |apply qr |refine qe ?_ |(refine AWP.condD rfl ?_ ?_ <;> intro _ <;> try (exfalso; omega)) |apply qb |apply qk |refine qK ?_|fail));refine Fl.call rfl (xMul_ret _ _ (hfq t htm).1 hb (hmul t htm)) rfl rfl rfl (LeL.cons (AV.Le.agg (leZ (σ := []) (hfq t htm).2)) (LeL.refl _)) ?_;(repeat' (first |refine qv ?_|fail));exact Fl.thrC rfl [(900, 710), (901, 711)] (sAdd_thr V hV s' hm.1 (u2 b t) (hmul t htm) (hq.uok hqv htm).1 hf) rfl (LeL.refl _) rfl ⟨⟨⟨_, rfl, BLe.cells (LeL.refl _)⟩, rfl⟩, ⟨⟨_, rfl, BLe.map rfl rfl⟩, rfl⟩, trivial⟩ rfl (fun _ => by kernel_rfl) (fun _ => rfl)
    ·have hti : (q.terms.map (u2 b)).take i = q.terms.map (u2 b) := List.take_of_length_le (by simp; omega);rw [hti] at k2
     have hall : runM (plusU b p q) ([], 0) = some s' := by
      unfold plusU;rw [runM_append, k1];exact k2
     have hln := (runM_ok hV (MOk.nil V) (us := plusU b p q) (fun u hu => (List.mem_append.1 hu).elim (hup u) (huq u)) hall).2
     have hlu : (plusU b p q).length = p.terms.length + q.terms.length := by simp [plusU]
     simp only [List.length_nil] at hln;by_cases hok : OkP ⟨V, sortT (s'.1.map (tmM V))⟩
     ·have e1 := hr1 _ ⟨s', hall, rfl, hok⟩;subst e1;(repeat' (first |refine qv ?_ |apply qn |apply qs |apply qr |(refine AWP.condD rfl ?_ ?_ <;> intro _ <;> try (exfalso; omega)) |apply qx));refine Fl.io rfl [(900, 710), (901, 711)] (sPoly_io V s'.1 s'.2 hm.1 hV (by omega) _ _ (fun _ => ⟨rfl, rfl⟩) (fun h => absurd hok h)) rfl rfl (LeL.refl _) rfl ⟨⟨⟨_, rfl, BLe.cells (LeL.refl _)⟩, rfl⟩, ⟨⟨_, rfl, BLe.map rfl rfl⟩, rfl⟩, trivial⟩ rfl rfl rfl rfl rfl ?_;(repeat' (first |apply qn |refine qe ?_ |apply qt));exact ⟨⟨[], _, _, Ent.refl _ _ _, rfl, AV.Le.refl _, rfl, trivial, rfl, rfl⟩⟩
     ·have e1 := hr2 (by
       rintro ⟨r, s2, h1, h2, h3⟩;rw [hall] at h1;injection h1 with h1;subst h1
       exact hok (h2 ▸ h3))
      subst e1;(repeat' (first |refine qv ?_ |apply qn |apply qs |apply qr |(refine AWP.condD rfl ?_ ?_ <;> intro _ <;> try (exfalso; omega)) |apply qx));exact Fl.thrC rfl [(900, 710), (901, 711)] (sPoly_io V s'.1 s'.2 hm.1 hV (by omega) _ _ (fun h => absurd h hok) (fun _ => ⟨rfl, rfl⟩)) rfl (LeL.refl _) rfl ⟨⟨⟨_, rfl, BLe.cells (LeL.refl _)⟩, rfl⟩, ⟨⟨_, rfl, BLe.map rfl rfl⟩, rfl⟩, trivial⟩ rfl (fun _ => by kernel_rfl) (fun _ => rfl)
end Go.Proofs.YtcaecieigoplbaaGreat
/- The same of a row that is still written. -/
namespace Go.AL
open Go.ChangeMaps (setBlock)
section
variable {P : Program} {tab : Tab} {n : Nat} {s : St}
theorem AWP.arrCopyR [f : Facts P tab] {I : List Id} {Q : Exit → St → Prop} {id : Nat} {o1 o2 o3 : Oper} {d1 d2 d3 : Tmp} {t e t1 t2 : TypeId} {x y : Operand} (h1 : o1.op = .slice t x none none none) (g1 : o1.guard = none) (e1 : o1.dst = some d1) (l1 : Nat.blt d1 n = true) (h2 : o2.op = .move y) (g2 : o2.guard = none) (e2 : o2.dst = some d2) (l2 : Nat.blt d2 n = true) (h3 : o3.op = .call { callee := .builtin .copy, args := ⟨[.tmp d1, .tmp d2]⟩, argTypes := ⟨[t1, t2]⟩ }) (g3 : o3.guard = none) (e3 : o3.dst = some d3) (l3 : Nat.blt d3 n = true) (hne : Nat.beq d1 d2 = false)
  {N sz' by' sz2 by2 : Nat} {z' z2 : List Value} (hts : tab t = some ⟨.array N e, sz', by', z'⟩) (hts1 : tab t1 = some ⟨.slice e, sz2, by2, z2⟩) {i : TI} (hti : tab e = some i) (hi1 : Nat.beq i.size 1 = true) {b : Id} (hx : opd s x = .ptr b 0) {cs : List AV} {bt : TypeId} (hb : s.bx b = some (.cells cs bt)) (hN : Nat.beq cs.length N = true) (hNm : Nat.ble N 1000000 = true) (hN0 : Nat.blt 0 N = true) {α : Type} {enc : α → List AV} {ys : List α} {r2 : Id} {bt2 : TypeId} (hy : opd s y = .row r2) (hb2 : s.bx r2 = some (.row 1 enc ys bt2)) (hyd : y ≠ .tmp d1) (hone : ∀ y, allOne (enc y) = true) (hel : ∀ y, (enc y).length = 1) (hl : ys.length ≤ N) {cs' : List AV} (hcs : ys.flatMap enc ++ cs.drop ys.length = cs')
  (q : Q .normal ((Eff.mk .any [(b, .cells cs' bt)] [] [] [b]).app (some d3) ((Eff.mk (.row r2) [] [] [] []).app (some d2) ((Eff.mk .any [] [] [] []).app (some d1) s)))) : AWP P n I (.region id ⟨[o1, o2, o3]⟩ false) Q s := by
 subst hcs;have hi1 := Nat.eq_of_beq_eq_true hi1;have hN := Nat.eq_of_beq_eq_true hN;have hNm := Nat.le_of_ble_eq_true hNm;have hN0 := ltOf hN0
 have hd12 : d1 ≠ d2 := fun e => by rw [e, Nat.beq_refl] at hne; cases hne
 refine ⟨fun C a w hp β hi k => ?_⟩;refine wp_region ?_;have hrg : List.range (Array.size ⟨[o1, o2, o3]⟩) = [0, 1, 2] := rfl;rw [hrg];refine wpOps_cons (ops := ⟨[o1, o2, o3]⟩) (i := 0) (o := o1) rfl g1 ?_;have hxr := opd_rep k x;rw [hx] at hxr;simp only [Rep] at hxr;obtain ⟨g, b1, b2⟩ := hxr;have hu := (f.tabOk _ _ hts).und;simp only at hu;have hu1 := (f.tabOk _ _ hts1).und;simp only at hu1;have hd1 : d1 < n := ltOf l1;have hd2 : d2 < n := ltOf l2
 have hr1 : (execOp a.eval o1).run P w = .ok (.value (.slice (some ⟨g, 0, none⟩) N N)) w := by
  have hN0' : ¬ N = 0 := by omega
  simp only [execOp, h1, b2, Option.map_none, Instr.sliceAt, Instr.sureAddr, Sem.run_bind, run_underlying hu, Result.andThen, Instr.sliceBounds, Sem.run_pure, size_ok (f.tabOk _ _ hti), Nat.zero_mul, Addr.add, if_true, Nat.sub_zero, if_neg hN0']
 unfold Oper.wp;rw [hr1];simp only [Oper.upon, e1];have k1 := k.val (some d1) (fun t ht => by injection ht with ht; subst ht; exact hd1) (v := .any) (u := .slice (some ⟨g, 0, none⟩) N N) (by simp only [Rep]) [];refine wpOps_cons (ops := ⟨[o1, o2, o3]⟩) (i := 1) (o := o2) rfl g2 ?_
 have hys : opd ((Eff.mk AV.any [] [] [] []).app (some d1) s) y = .row r2 := by
  rw [← hy];refine opd_tmp fun t ht => ?_;simp only [Eff.app];exact putE_ne _ _ _ _ (fun h => hyd (by injection h with h; rw [ht, h]))
 have hyr := opd_rep k1 y;rw [hys] at hyr
 have hr2 : (execOp (a.put (some d1) (.slice (some ⟨g, 0, none⟩) N N)).eval o2).run P w = .ok (.value ((a.put (some d1) (.slice (some ⟨g, 0, none⟩) N N)).eval y)) w := by
  simp only [execOp, h2, Sem.run_pure]
 unfold Oper.wp;rw [hr2];simp only [Oper.upon, e2];have k2 := k1.val (some d2) (fun t ht => by injection ht with ht; subst ht; exact hd2) (v := .row r2) hyr [];generalize hyv : (a.put (some d1) (.slice (some ⟨g, 0, none⟩) N N)).eval y = yv at hyr k2 ⊢;refine wpOps_cons (ops := ⟨[o1, o2, o3]⟩) (i := 2) (o := o3) rfl g3 ?_
 have hsz : d1 < a.tmps.size ∧ d2 < a.tmps.size := by rw [k.size]; exact ⟨hd1, hd2⟩
 have ev1 : ((a.put (some d1) (.slice (some ⟨g, 0, none⟩) N N)).put (some d2) yv).eval (.tmp d1) = .slice (some ⟨g, 0, none⟩) N N := by
  simp [Act.eval, Act.put, Array.getElem?_setIfInBounds, hsz.1, Ne.symm hd12]
 have ev2 : ((a.put (some d1) (.slice (some ⟨g, 0, none⟩) N N)).put (some d2) yv).eval (.tmp d2) = yv := by
  simp [Act.eval, Act.put, hsz.2]
 have hb3 : ((Eff.mk (.row r2) [] [] [] []).app (some d2) ((Eff.mk AV.any [] [] [] []).app (some d1) s)).bx b = some (.cells cs bt) := hb;obtain ⟨g', us, b3, hh, hr, hnone⟩ := k2.box b _ hb3;rw [b1] at b3; injection b3 with b3; injection b3 with b3; injection b3 with b3; injection b3 with b3; subst b3
 have hul : us.size = N := by rw [← Array.length_toList, hr.length, hN]
 have his : (P.info? e).map (·.size) = some 1 := by
  obtain ⟨inf, zv, i1, i2, _⟩ := (f.tabOk e i hti).info;rw [i1]; simp [i2, hi1]
 simp only [Rep] at hyr;obtain ⟨v2, vals, e4, ⟨hvl, hown⟩, hrv, hsz2, hno2⟩ := k2.box r2 _ (show _ = some (.row 1 enc ys bt2) from hb2)
 have hyv2 : yv = v2 := by
  have := hyr.1;rw [e4] at this; injection this with this; exact this.symm
 obtain ⟨B, cB, hv2, hcells⟩ : ∃ B cB, yv = .slice B ys.length cB ∧ (ys ≠ [] → ∃ adB, B = some adB ∧ ∀ (j : Nat) (u : Value), vals[j]? = some u → w.cell? (adB.add j) = some u) := by
  rw [hyv2];rcases hown with ⟨h1, h2⟩ | ⟨g2, cap, cur, h1, h2, h3, h4, h5, h6, h7⟩
  ·have hy0 : ys = [] := List.eq_nil_of_length_eq_zero h2;subst hy0;exact ⟨none, 0, h1, fun h => absurd rfl h⟩
  ·refine ⟨_, _, h1, fun _ => ⟨_, rfl, fun j u hu => ?_⟩⟩
   have hadd : (⟨g2, 0, none⟩ : Addr).add j = ⟨g2, j, none⟩ := by unfold Addr.add; split <;> simp_all
   rw [hadd];rw [← h7, List.getElem?_take] at hu;split at hu
   ·simp only [World.cell?, h3];rw [← Array.getElem?_toList]; simpa using hu
   ·cases hu
 subst hv2
 have key : ∃ (r : Int) (w' : World) (us' : Array Value), (Builtin.copy_ #[t1, t2] o3.type #[.slice (some ⟨g, 0, none⟩) N N, .slice B ys.length cB]).run P w = .ok (goInt r) w' ∧ w'.os = w.os ∧ w'.tape = w.tape ∧ (w'.output = w.output ∧ w.drawn ≤ w'.drawn) ∧ w'.heap.size = w.heap.size ∧
   (∀ j, j ≠ g → w'.heap[j]? = w.heap[j]?) ∧ w'.heap[g]? = some (.cells us' bt (0, 0)) ∧ RepL hp β (ys.flatMap enc ++ cs.drop ys.length) us'.toList := by
  by_cases hy0 : ys = []
  ·subst hy0;exact ⟨0, w, us, run_copy_none w t1 t2 o3.type e _ B N N 0 cB hu1 his (by simp [Nat.min_def]), rfl, rfl, ⟨rfl, Nat.le_refl _⟩, rfl, fun _ _ => rfl, hh, by simpa using hr⟩
  ·have hyp : 0 < ys.length := List.length_pos_iff.2 hy0;obtain ⟨adB, eB, hcl⟩ := hcells hy0;subst eB;have hmn : Nat.min ys.length N = min ys.length N := rfl
   have hnl : vals.length = Nat.min ys.length N := by rw [hvl, hmn]; omega
   have hrun := run_copy_row (P := P) w t1 t2 o3.type e g 0 N N adB ys.length cB us bt vals hu1 his hh hnl (fun j u hu => by
    exact hcl j u hu) (by rw [hnl, hmn]; omega) (flat_one hone _ vals hrv)
   refine ⟨_, w.setRow g (us.toList.take 0 ++ vals ++ us.toList.drop (0 + vals.length)).toArray, _, hrun, rfl, rfl, ⟨rfl, Nat.le_refl _⟩, by simp, fun j hj => setRow_other w g j _ (fun q => hj q), setRow_heap w g us _ bt _ hh, ?_⟩;simp only [List.take_zero, List.nil_append, Nat.zero_add];rw [show vals.length = ys.length by rw [hnl, hmn]; omega];exact (hrv.mono (Hp.le.refl _) (noB_le β)).append (hr.drop _)
 obtain ⟨r, w', us', hrun, q1, q2, q3, q4, q5, q6, q7⟩ := key
 have hex : (execOp ((a.put (some d1) (.slice (some ⟨g, 0, none⟩) N N)).put (some d2) (.slice B ys.length cB)).eval o3).run P w = .ok (.value (goInt r)) w' := by
  simp only [execOp, h3, resolve, invoke, builtin, Sem.run_bind, Sem.run_pure, Result.andThen, List.map_toArray, List.map_cons, List.map_nil, ev1, ev2];rw [show (Builtin.copy_ { toList := [t1, t2] } o3.type { toList := [.slice (some ⟨g, 0, none⟩) N N, .slice B ys.length cB] }).run P w = .ok (goInt r) w' from hrun]
 unfold Oper.wp;rw [hex];simp only [Oper.upon, e3, wpOps];exact ⟨_, hp, β, k2.setbox (B' := .cells (ys.flatMap enc ++ cs.drop ys.length) bt) (w' := w') hb3 q1 q2 q3 q4 (fun j hj => q5 j (fun q => hj (by simp [b1, blk, q]))) ⟨g, us', b1, q6, q7, hnone⟩ ⟨g, by simp [b1, blk]⟩ (some d3) (fun t ht => by injection ht with ht; subst ht; exact ltOf l3) (v := .any) (u := goInt r) (by simp only [Rep]) [b], q⟩
end
end Go.AL
/- poly.times. -/
namespace Go.AL
def addE (a b : List Int) : List Int := List.zipWith (· + ·) a b
abbrev uM (t u : TZ) : UT := (zval t.c * zval u.c, addE t.e u.e)
def rowU (q : List TZ) (t : TZ) : List UT := q.map (uM t)
def timesU (p q : PZ) : List UT := p.terms.flatMap (rowU q.terms)
def DegOk (p q : PZ) : Prop := ∀ t u, p.terms[0]? = some t → q.terms[0]? = some u → sumL t.e + sumL u.e ≤ 120
def ProdOk (V : Nat) (p q : PZ) (r : PZ) : Prop := DegOk p q ∧ (∀ t ∈ p.terms, ∀ u ∈ q.terms, Fit (zval t.c * zval u.c)) ∧ SumOk V (timesU p q) r
theorem flatMap_take_succ {α β : Type} (f : α → List β) {l : List α} {i : Nat} {x : α} (h : l[i]? = some x) : (l.take (i + 1)).flatMap f = (l.take i).flatMap f ++ f x := by
 rw [take_snoc h]; simp
theorem addE_length {a b : List Int} (h : a.length = b.length) : (addE a b).length = a.length := by simp [addE, h]
theorem addE_get {a b : List Int} {k : Nat} {x y : Int} (ha : a[k]? = some x) (hb : b[k]? = some y) : (addE a b)[k]? = some (x + y) := by simp [addE, List.getElem?_zipWith, ha, hb]
theorem sumL_addE : ∀ {a b : List Int}, a.length = b.length → sumL (addE a b) = sumL a + sumL b
 | [], [], _ => rfl
 | [], _ :: _, h => by simp at h
 | _ :: _, [], h => by simp at h
 | x :: a, y :: b, h => by
  have := sumL_addE (a := a) (b := b) (by simpa using h);simp only [addE, List.zipWith_cons_cons, sumL] at this ⊢;omega
theorem EOk.addE {a b : List Int} (ha : EOk a) (hb : EOk b) (hl : a.length = b.length) (hs : sumL a + sumL b ≤ 120) : EOk (addE a b) := by
 intro e he
 have h0 : ∀ x ∈ AL.addE a b, 0 ≤ x := by
  intro x hx;obtain ⟨k, hk⟩ := List.mem_iff_getElem?.1 hx;simp only [AL.addE, List.getElem?_zipWith] at hk;split at hk
  ·rename_i x1 y1 h1 h2;injection hk with hk; subst hk;have := ha.get h1; have := hb.get h2; omega
  ·cases hk
 refine ⟨h0 e he, ?_⟩
 have h1 : ∀ (l : List Int), (∀ x ∈ l, 0 ≤ x) → ∀ x ∈ l, x ≤ sumL l := by
  intro l
  induction l with
  | nil => intro _ x hx; cases hx
  | cons y l ih =>
   intro hp x hx;have h2 := sumL_nonneg (l := l) fun z hz => hp z (by simp [hz]);simp only [sumL];rcases List.mem_cons.1 hx with rfl | hx
   ·omega
   ·have := ih (fun z hz => hp z (by simp [hz])) x hx;have := hp y (by simp); omega
 have := h1 _ h0 e he;rw [sumL_addE hl] at this; omega
theorem OkP.top {p : PZ} (hp : OkP p) {t0 : TZ} (h0 : p.terms[0]? = some t0) : ∀ (j : Nat) (t : TZ), p.terms[j]? = some t → sumL t.e ≤ sumL t0.e
 | 0, t, h => by rw [h0] at h; injection h with h; subst h; exact Int.le_refl _
 | j + 1, t, h => by
  have hj := (List.getElem?_eq_some_iff.1 h).1;have h1 : p.terms[j]? = some (p.terms[j]'(by omega)) := List.getElem?_eq_getElem _;have h2 := OkP.top hp h0 j _ h1;have h3 := hp.ord j _ _ h1 h;rw [ordI_lt] at h3;omega
theorem OkP.topm {p : PZ} (hp : OkP p) {t0 t : TZ} (h0 : p.terms[0]? = some t0) (h : t ∈ p.terms) : sumL t.e ≤ sumL t0.e := by
 obtain ⟨j, hj⟩ := List.mem_iff_getElem?.1 h;exact hp.top h0 j t hj
theorem timesU_ok {p q : PZ} {V : Nat} (hp : OkP p) (hq : OkP q) (hpv : p.vars = V) (hqv : q.vars = V) (hd : DegOk p q) {t u : TZ} (ht : t ∈ p.terms) (hu : u ∈ q.terms) : (addE t.e u.e).length = V ∧ EOk (addE t.e u.e) := by
 have h1 := hp.uok hpv ht;have h2 := hq.uok hqv hu
 have hl : t.e.length = u.e.length := by rw [h1.1, h2.1]
 refine ⟨by rw [addE_length hl, h1.1], h1.2.addE h2.2 hl ?_⟩
 obtain ⟨t0, ht0⟩ : ∃ t0, p.terms[0]? = some t0 := by
  cases h : p.terms with
  | nil => rw [h] at ht; cases ht
  | cons a l => exact ⟨a, rfl⟩
 obtain ⟨u0, hu0⟩ : ∃ u0, q.terms[0]? = some u0 := by
  cases h : q.terms with
  | nil => rw [h] at hu; cases hu
  | cons a l => exact ⟨a, rfl⟩
 have := hd t0 u0 ht0 hu0;have := hp.topm ht0 ht;have := hq.topm hu0 hu;omega
end Go.AL
namespace Go.Proofs.YtcaecieigoplbaaGreat
open Go.AL
abbrev smR (V : Int) (e : List Int) (xs : List ME) (c : Nat) : List (AL.Id × Bx) := [(900, .cells [aN V, .mp 901] 216), (901, bM xs c), (902, .row 1 eI e 3)]
theorem sAddR_io (V : Int) (xs : List ME) (clock : Nat) (c : Int) (e : List Int) (hc : Fit c) (hxs : ∀ p ∈ xs, Fit p.2.1) (he : e.length ≤ 32) (res : Res) (bx' : List (AL.Id × Bx))
  (hr1 : Fit (getM (expK e he) xs + c) → res = .ret (.tup []) ∧ bx' = smR V e (setM (expK e he) (getM (expK e he) xs + c) clock xs) (putC (expK e he) clock xs))
  (hr2 : ¬ Fit (getM (expK e he) xs + c) → res = .thr (thrown 4) ∧ bx' = smR V e xs clock) :
  IoFn Tryz.prog 220 [.ptr 900 0, aX c, .row 902] (smR V e xs clock) res bx' := by
 have hg : Fit (getM (expK e he) xs) := by
  unfold getM
  cases hf : findM (expK e he) xs 0 with
  | none => exact Fit.zero
  | some q => obtain ⟨j, p⟩ := q; exact hxs p (List.mem_of_getElem? (findM_get hf).2.1)
 have hle : match findM (expK e he) xs 0 with | some (_, p) => (aX p.2.1).Le (aX (getM (expK e he) xs)) | none => (AV.agg [aB false, .v (.slice none 0 0)]).Le (aX (getM (expK e he) xs)) := by
  unfold getM
  cases hf : findM (expK e he) xs 0 with
  | none => exact aX_zero
  | some q => exact AV.Le.refl _
 by_cases hfit : Fit (getM (expK e he) xs + c)
 ·obtain ⟨rfl, rfl⟩ := hr1 hfit;refine IoFn.of_body Tryz.func220 rfl Tryz.ntmps220 rfl rfl rfl ?_;refine AWP.seqS ?_;(repeat' (first |apply qn |apply qr |refine qe ?_|fail));refine ⟨?_⟩;refine AWP.seqS ?_;(repeat' (first |apply qn |apply qr |refine qe ?_|fail));refine ⟨?_⟩;refine AWP.seq ?_;refine AWP.arrCopyR rfl rfl rfl rfl rfl rfl rfl rfl rfl rfl rfl rfl rfl rfl rfl rfl rfl rfl rfl rfl rfl rfl rfl rfl (by intro h; cases h) (fun _ => rfl) (fun _ => rfl) (by omega) (expK_cells e he) ?_;refine AWP.seq ?_;(repeat' (first |refine qv ?_ |apply qr));refine Fl.lookup (v := aX (getM (expK e he) xs)) rfl rfl rfl rfl rfl rfl key_law (expK e he) (AV.Le.refl _) rfl ?_ (fun _ => rfl) rfl rfl ?_
  ·revert hle; generalize findM (expK e he) xs 0 = r; cases r <;> exact id
  (repeat' (first |refine qv ?_|fail));refine qc (xAdd_ret _ _ hg hc hfit) ?_;skip;refine Fl.mupd rfl rfl rfl rfl key_law (expK e he) (AV.Le.refl _) rfl (getM (expK e he) xs + c) (AV.Le.refl _) rfl rfl rfl ?_;(repeat' (first |refine qv ?_ |refine Fl.nil (fun _ => by kernel_rfl) ?_ |apply qs |apply qr));refine Fl.lookup (v := aX (getM (expK e he) xs + c)) rfl rfl rfl rfl rfl rfl key_law (expK e he) (AV.Le.refl _) rfl ?_ (fun _ => rfl) rfl rfl ?_
  ·obtain ⟨j, p, h1, h2⟩ := findM_put (expK e he) (getM (expK e he) xs + c) clock xs;rw [h1];exact AV.Le.of_eq (by rw [h2])
  skip;refine qc (ZeroX_ok _) ?_;(repeat' (first |refine qv ?_ |refine Fl.nil (fun _ => by kernel_rfl) ?_ |apply qr |(refine AWP.condD rfl ?_ ?_ <;> intro _ <;> try (exfalso; omega)) |apply qk))
  ·rename_i h0;refine Fl.mdel rfl rfl rfl rfl key_law (expK e he) (AV.Le.refl _) rfl rfl rfl ?_;(repeat' (first |refine Fl.nil (fun _ => by kernel_rfl) ?_|fail));refine ⟨⟨[], _, _, Ent.refl _ _ _, rfl, AV.Le.refl _, rfl, ⟨⟨⟨_, rfl, BLe.cells (LeL.refl _)⟩, rfl⟩, ⟨⟨_, rfl, BLe.map ?_ rfl⟩, rfl⟩, ⟨⟨_, rfl, BLe.row rfl⟩, rfl⟩, trivial⟩, rfl, rfl⟩⟩;unfold setM; rw [if_pos h0]
  ·rename_i h0;refine ⟨⟨[], _, _, Ent.refl _ _ _, rfl, AV.Le.refl _, rfl, ⟨⟨⟨_, rfl, BLe.cells (LeL.refl _)⟩, rfl⟩, ⟨⟨_, rfl, BLe.map ?_ rfl⟩, rfl⟩, ⟨⟨_, rfl, BLe.row rfl⟩, rfl⟩, trivial⟩, rfl, rfl⟩⟩;unfold setM; rw [if_neg h0]
 ·obtain ⟨rfl, rfl⟩ := hr2 hfit;refine IoFn.of_body Tryz.func220 rfl Tryz.ntmps220 rfl rfl rfl ?_;refine AWP.seqS ?_;(repeat' (first |apply qn |apply qr |refine qe ?_|fail));refine ⟨?_⟩;refine AWP.seqS ?_;(repeat' (first |apply qn |apply qr |refine qe ?_|fail));refine ⟨?_⟩;refine AWP.seq ?_;refine AWP.arrCopyR rfl rfl rfl rfl rfl rfl rfl rfl rfl rfl rfl rfl rfl rfl rfl rfl rfl rfl rfl rfl rfl rfl rfl rfl (by intro h; cases h) (fun _ => rfl) (fun _ => rfl) (by omega) (expK_cells e he) ?_;refine AWP.seq ?_;(repeat' (first |refine qv ?_ |apply qr));refine Fl.lookup (v := aX (getM (expK e he) xs)) rfl rfl rfl rfl rfl rfl key_law (expK e he) (AV.Le.refl _) rfl ?_ (fun _ => rfl) rfl rfl ?_
  ·revert hle; generalize findM (expK e he) xs 0 = r; cases r <;> exact id
  (repeat' (first |refine qv ?_|fail));exact Fl.thrC rfl [] (xAdd_thr _ _ hg hc hfit) rfl (LeL.refl _) rfl trivial rfl (fun _ => by kernel_rfl) (fun _ => rfl)
theorem sAddR_ret (V : Nat) (hV : V ≤ 32) (s : MS) (m : MOk V s.1 s.2) (u : UT) (hc : Fit u.1) (he : u.2.length = V) (hf : Fit (getM (exK u.2) s.1 + u.1)) :
  IoFn Tryz.prog 220 [.ptr 900 0, aX u.1, .row 902] (smR V u.2 s.1 s.2) (.ret (.tup [])) (smR V u.2 (stepM s u).1 (stepM s u).2) := by
 have h32 : u.2.length ≤ 32 := by omega
 rw [exK_eq h32] at hf;exact sAddR_io V s.1 s.2 u.1 u.2 hc m.fit h32 _ _ (fun _ => ⟨rfl, by simp only [stepM, exK_eq h32]⟩) (fun h => absurd hf h)
theorem sAddR_thr (V : Nat) (hV : V ≤ 32) (s : MS) (m : MOk V s.1 s.2) (u : UT) (hc : Fit u.1) (he : u.2.length = V) (hf : ¬ Fit (getM (exK u.2) s.1 + u.1)) :
  IoFn Tryz.prog 220 [.ptr 900 0, aX u.1, .row 902] (smR V u.2 s.1 s.2) (.thr (thrown 4)) (smR V u.2 s.1 s.2) := by
 have h32 : u.2.length ≤ 32 := by omega
 rw [exK_eq h32] at hf;exact sAddR_io V s.1 s.2 u.1 u.2 hc m.fit h32 _ _ (fun h => absurd h hf) (fun _ => ⟨rfl, rfl⟩)
end Go.Proofs.YtcaecieigoplbaaGreat
/- poly.times: the walk. -/
namespace Go.Proofs.YtcaecieigoplbaaGreat
open Go.AL
theorem set_mid {a b : List Int} {k : Nat} (v : Int) (m : Nat) (ha : a.length = k) (hb : k < b.length) (hm : m = k := by omega) : (a ++ b.drop k).set m v = a ++ ([v] ++ b.drop (k + 1)) := by
 subst hm;rw [List.set_append_right _ _ (by omega), ha, Nat.sub_self];congr 1;rw [List.drop_eq_getElem_cons hb];rfl
set_option maxHeartbeats 2000000 in
theorem times_io (V : Nat) (hV : V ≤ 32) (p q : PZ) (hwp : WP p) (hwq : WP q) (hp : OkP p) (hq : OkP q) (hpv : p.vars = V) (hqv : q.vars = V) (res : Res)
  (hr1 : ∀ r, ProdOk V p q r → res = .ret (aP r)) (hr2 : (¬ ∃ r, ProdOk V p q r) → res = .thr (thrown 4)) :
  IoFn Tryz.prog 187 [aP p, aP q] [] res [] := by
 have hfp : ∀ t ∈ p.terms, Fit (zval t.c) ∧ t.c = zOf (zval t.c) := fun t ht => by
  have := okZ_eq (hwp t ht) (hp.terms t ht).coef; exact ⟨this.2, this.1⟩
 have hfq : ∀ t ∈ q.terms, Fit (zval t.c) ∧ t.c = zOf (zval t.c) := fun t ht => by
  have := okZ_eq (hwq t ht) (hq.terms t ht).coef; exact ⟨this.2, this.1⟩
 have hplen := hp.len;have hqlen := hq.len;refine IoFn.of_body Tryz.func187 rfl Tryz.ntmps187 rfl rfl rfl ?_;refine AWP.seqS ?_;(repeat' (first |apply qn |apply qr |refine qe ?_|fail));refine ⟨?_⟩;refine AWP.seqS ?_;(repeat' (first |refine qv ?_ |apply qr));refine Fl.io rfl [(900, 710), (901, 711)] (empty_ok V) rfl rfl (LeL.cons (AV.Le.int hpv) LeL.nil) rfl trivial rfl rfl rfl rfl rfl ?_;(repeat' (first |refine qv ?_ |apply qn));refine ⟨?_⟩;refine AWP.seqS ?_;(repeat' (first |refine qv ?_ |apply qn |apply qr |refine Fl.make rfl rfl rfl rfl rfl rfl rfl rfl rfl rfl eI 0 (by exact LeL.refl _) (by rfl) (by first | omega | (dsimp only; omega)) (by first | omega | (dsimp only; omega)) (by first | omega | (dsimp only; omega)) ?_|fail));refine ⟨?_⟩;refine AWP.seqJ (G := Unit) (fun _ => DegOk p q) (fun _ => St.of [] [(2, .ptr 2 0), (3, .ptr 3 0), (4, .ptr 4 0), (5, .ptr 710 0), (6, .row 712)] [(2, .cells (eP p) 70), (3, .cells (eP q) 70), (4, .cells [aN 0, .v (.slice none 0 0)] 70), (710, .cells [aN V, .mp 711] 216), (711, bM [] 0), (712, .row 1 eI (List.replicate V 0) 3)]) ?_ ?_
 ·have hrep : List.replicate p.vars.toNat (0 : Int) = List.replicate V 0 := by rw [show p.vars.toNat = V by omega]
  (repeat' (first |refine qv ?_ |refine Fl.nil (fun _ => by kernel_rfl) ?_ |apply qs |apply qr |refine Fl.skip rfl rfl ?_ |refine AWP.condF rfl ?_ |apply qk |(refine Fl.el rfl rfl rfl rfl rfl rfl rfl rfl (by omega) (by omega) ?_; intro _ _) |(refine Fl.splitD rfl rfl ?_ ?_ <;> intro _ <;> try (exfalso; omega))))
  ·rename_i h1 h2 t ht;have ht : p.terms[0]? = some t := ht;have hot := hp.terms t (List.mem_of_getElem? ht);have hb1 := hot.deg;have hb2 := (sumL_bound hot.exps).1;have hb3 := hot.len;refine qc (degree_ok t hot.exps (by omega)) ?_;(repeat' (first |refine qv ?_ |(refine Fl.el rfl rfl rfl rfl rfl rfl rfl rfl (by omega) (by omega) ?_; intro _ _)|fail))
   all_goals
    rename_i u hu;have hu : q.terms[0]? = some u := hu;have hou := hq.terms u (List.mem_of_getElem? hu);have hc1 := hou.deg;have hc2 := (sumL_bound hou.exps).1;have hc3 := hou.len;refine qc (degree_ok u hou.exps (by omega)) ?_;(repeat' (first |refine qv ?_ |refine Fl.nil (fun _ => by kernel_rfl) ?_ |apply qr |refine qw ?_ |(refine AWP.condD rfl ?_ ?_ <;> intro _ <;> try (exfalso; omega)) |apply qk))
   ·rename_i hgt;have e1 := hr2 (by rintro ⟨r, hdd, _⟩; have := hdd t u ht hu; omega);subst e1;exact Fl.thrC rfl [] (Throw_ok 4) rfl (LeL.refl _) rfl trivial rfl (fun _ => by kernel_rfl) (fun _ => rfl)
   ·rename_i hgt;refine JoinOk.of () (fun t' u' h1' h2' => ?_) ?_
    ·rw [ht] at h1'; rw [hu] at h2'; injection h1' with h1'; injection h2' with h2'; subst h1' h2'; omega
    ·refine Ent.of [(712, 17)] ?_ ?_ rfl rfl;(repeat' (first |exact True.intro |refine ⟨⟨AV.Le.refl _, rfl⟩, ?_⟩ |refine ⟨⟨⟨_, rfl, BLe.cells (LeL.refl _)⟩, rfl⟩, ?_⟩ |refine ⟨⟨⟨_, rfl, BLe.map rfl rfl⟩, rfl⟩, ?_⟩ |refine ⟨⟨⟨_, rfl, BLe.row ?_⟩, rfl⟩, ?_⟩|fail));exact hrep
  ·rename_i h1 h2;refine JoinOk.of () (fun t' u' h1' h2' => ?_) ?_
   ·have := (List.getElem?_eq_some_iff.1 h2').1; omega
   ·refine Ent.of [(712, 17)] ?_ ?_ rfl rfl;(repeat' (first |exact True.intro |refine ⟨⟨AV.Le.refl _, rfl⟩, ?_⟩ |refine ⟨⟨⟨_, rfl, BLe.cells (LeL.refl _)⟩, rfl⟩, ?_⟩ |refine ⟨⟨⟨_, rfl, BLe.map rfl rfl⟩, rfl⟩, ?_⟩ |refine ⟨⟨⟨_, rfl, BLe.row ?_⟩, rfl⟩, ?_⟩|fail));exact hrep
  ·rename_i h1;refine JoinOk.of () (fun t' u' h1' h2' => ?_) ?_
   ·have := (List.getElem?_eq_some_iff.1 h1').1; omega
   ·refine Ent.of [(712, 17)] ?_ ?_ rfl rfl;(repeat' (first |exact True.intro |refine ⟨⟨AV.Le.refl _, rfl⟩, ?_⟩ |refine ⟨⟨⟨_, rfl, BLe.cells (LeL.refl _)⟩, rfl⟩, ?_⟩ |refine ⟨⟨⟨_, rfl, BLe.map rfl rfl⟩, rfl⟩, ?_⟩ |refine ⟨⟨⟨_, rfl, BLe.row ?_⟩, rfl⟩, ?_⟩|fail));exact hrep
 ·intro _ hd;(repeat' (first |refine qv ?_ |apply qn |apply qs |apply qr |apply qb))
  have hrowU : ∀ t ∈ p.terms, UOk V (rowU q.terms t) := fun t ht u hu => by
   obtain ⟨v, hv, rfl⟩ := List.mem_map.1 hu; exact timesU_ok hp hq hpv hqv hd ht hv
  have htU : ∀ i, UOk V ((p.terms.take i).flatMap (rowU q.terms)) := fun i u hu => by
   obtain ⟨t, ht, hu⟩ := List.mem_flatMap.1 hu;exact hrowU t (List.mem_of_mem_take ht) u hu
  refine AWP.loop (G := Nat × MS × List Int) (fun (i, s, ex) => i ≤ p.terms.length ∧ runM ((p.terms.take i).flatMap (rowU q.terms)) ([], 0) = some s ∧ ex.length = V ∧ ∀ j, j < i → ∀ t ∈ p.terms[j]?, ∀ u ∈ q.terms, Fit (zval t.c * zval u.c))
   (fun (i, s, ex) => St.of [] [(2, .ptr 2 0), (3, .ptr 3 0), (4, .ptr 4 0), (5, .ptr 710 0), (6, .row 712), (44, .sl 3 eT p.terms), (45, aN p.terms.length), (46, aN i)] [(2, .cells (eP p) 70), (3, .cells (eP q) 70), (4, .cells [aN 0, .v (.slice none 0 0)] 70), (710, .cells [aN V, .mp 711] 216), (711, bM s.1 s.2), (712, .row 1 eI ex 3)]) (fun (i, s, ex) => p.terms.length - i) (0, ([], 0), List.replicate V 0) ⟨by omega, by simp [runM], by simp, fun j hj => by omega⟩ ?_ ?_
  ·refine Ent.of [] ?_ ?_ rfl rfl;(repeat' (first |exact True.intro |refine ⟨⟨AV.Le.refl _, rfl⟩, ?_⟩ |refine ⟨⟨⟨_, rfl, BLe.cells (LeL.refl _)⟩, rfl⟩, ?_⟩ |refine ⟨⟨⟨_, rfl, BLe.row rfl⟩, rfl⟩, ?_⟩ |refine ⟨⟨⟨_, rfl, BLe.map rfl rfl⟩, rfl⟩, ?_⟩|fail))
  ·intro ⟨i, s, ex⟩ ⟨k0, k1, k2, k3⟩;by_cases hi : i < p.terms.length
   ·obtain ⟨t, ht⟩ : ∃ t, p.terms[i]? = some t := ⟨_, List.getElem?_eq_getElem hi⟩;have htm := List.mem_of_getElem? ht;have hot := hp.terms t htm;(repeat' (first |refine qv ?_ |apply qn |apply qs |apply qr |refine qe ?_ |(refine AWP.condD rfl ?_ ?_ <;> intro _ <;> try (exfalso; omega)) |apply qb |apply qk |refine qK ?_|fail));refine AWP.loop (G := Nat × MS × List Int) (fun (j, s', ex) => j ≤ q.terms.length ∧ runM ((rowU q.terms t).take j) s = some s' ∧ ex.length = V ∧ ∀ k, k < j → ∀ u ∈ q.terms[k]?, Fit (zval t.c * zval u.c))
     (fun (j, s', ex) => St.of [] [(2, .ptr 2 0), (3, .ptr 3 0), (4, .ptr 4 0), (5, .ptr 710 0), (6, .row 712), (44, .sl 3 eT p.terms), (45, aN p.terms.length), (46, aN i), (8, .ptr 8 0), (51, .sl 3 eT q.terms), (52, aN q.terms.length), (53, aN j)] [(2, .cells (eP p) 70), (3, .cells (eP q) 70), (4, .cells [aN 0, .v (.slice none 0 0)] 70), (710, .cells [aN V, .mp 711] 216), (711, bM s'.1 s'.2), (712, .row 1 eI ex 3), (8, .cells (eT t) 124)]) (fun (j, s', ex) => q.terms.length - j) (0, s, ex) ⟨by omega, by simp [runM], k2, fun j hj => by omega⟩ ?_ ?_
    ·refine Ent.of [] ?_ ?_ rfl rfl;(repeat' (first |exact True.intro |refine ⟨⟨AV.Le.refl _, rfl⟩, ?_⟩ |refine ⟨⟨⟨_, rfl, BLe.cells (LeL.refl _)⟩, rfl⟩, ?_⟩ |refine ⟨⟨⟨_, rfl, BLe.row rfl⟩, rfl⟩, ?_⟩ |refine ⟨⟨⟨_, rfl, BLe.map rfl rfl⟩, rfl⟩, ?_⟩|fail))
    ·intro ⟨j, s', ex'⟩ ⟨m0, m1, m2, m3⟩
     have hs1 : runM ((p.terms.take i).flatMap (rowU q.terms) ++ (rowU q.terms t).take j) ([], 0) = some s' := by rw [runM_append, k1]; exact m1
     have hmok := (runM_ok hV (MOk.nil V) (fun u hu => (List.mem_append.1 hu).elim (htU i u) (fun h => hrowU t htm u (List.mem_of_mem_take h))) hs1).1;by_cases hj : j < q.terms.length
     ·obtain ⟨u, hu⟩ : ∃ u, q.terms[j]? = some u := ⟨_, List.getElem?_eq_getElem hj⟩;have hum := List.mem_of_getElem? hu;have hou := hq.terms u hum;have htl := (hp.uok hpv htm).1;have hul := (hq.uok hqv hum).1
      have hadl : (addE t.e u.e).length = V := by rw [addE_length (by omega), htl]
      have hstop : ∀ b, timesU p q = (p.terms.take i).flatMap (rowU q.terms) ++ (rowU q.terms t).take j ++ uM t u :: ((rowU q.terms t).drop (j + 1) ++ b) → ¬ Fit (getM (exK (addE t.e u.e)) s'.1 + zval t.c * zval u.c) → ¬ ∃ r, ProdOk V p q r := by
       intro b he hf ⟨r, _, _, s2, h1, _⟩;rw [he, runM_stop hs1 hf] at h1
       cases h1
      have hsplit : timesU p q = (p.terms.take i).flatMap (rowU q.terms) ++ (rowU q.terms t).take j ++ uM t u :: ((rowU q.terms t).drop (j + 1) ++ (p.terms.drop (i + 1)).flatMap (rowU q.terms)) := by
       have e1 : p.terms = p.terms.take i ++ t :: p.terms.drop (i + 1) := by
        have := map_split id ht;simpa using this
       have e2 : rowU q.terms t = (rowU q.terms t).take j ++ uM t u :: (rowU q.terms t).drop (j + 1) := map_split (uM t) hu;unfold timesU
       conv => lhs; rw [e1, List.flatMap_append, List.flatMap_cons, e2]
       simp
      (repeat' (first |refine qv ?_ |apply qn |apply qs |apply qr |refine qe ?_ |(refine AWP.condD rfl ?_ ?_ <;> intro _ <;> try (exfalso; omega)) |apply qb |apply qk |refine qK ?_|fail));refine AWP.loop (G := Nat) (fun k => k ≤ V) (fun k => St.of [] [(2, .ptr 2 0), (3, .ptr 3 0), (4, .ptr 4 0), (5, .ptr 710 0), (6, .row 712), (44, .sl 3 eT p.terms), (45, aN p.terms.length), (46, aN i), (8, .ptr 8 0), (51, .sl 3 eT q.terms), (52, aN q.terms.length), (53, aN j), (10, .ptr 10 0), (58, aN V), (59, aN k)] [(2, .cells (eP p) 70), (3, .cells (eP q) 70), (4, .cells [aN 0, .v (.slice none 0 0)] 70), (710, .cells [aN V, .mp 711] 216), (711, bM s'.1 s'.2), (712, .row 1 eI ((addE t.e u.e).take k ++ ex'.drop k) 3), (8, .cells (eT t) 124), (10, .cells (eT u) 124)]) (fun k => V - k) 0 (by omega) ?_ ?_
      ·refine Ent.of [] ?_ ?_ rfl rfl;(repeat' (first |exact True.intro |refine ⟨⟨AV.Le.refl _, rfl⟩, ?_⟩ |refine ⟨⟨⟨_, rfl, BLe.cells (LeL.refl _)⟩, rfl⟩, ?_⟩ |refine ⟨⟨⟨_, rfl, BLe.row rfl⟩, rfl⟩, ?_⟩ |refine ⟨⟨⟨_, rfl, BLe.map rfl rfl⟩, rfl⟩, ?_⟩ |refine ⟨⟨AV.Le.int ?_, rfl⟩, ?_⟩|fail));omega
      ·intro k kk
       have hlk : ((addE t.e u.e).take k ++ ex'.drop k).length = V := by simp; omega
       by_cases hk : k < V
       ·obtain ⟨x, hx⟩ : ∃ x, t.e[k]? = some x := ⟨_, List.getElem?_eq_getElem (by omega)⟩;obtain ⟨y, hy⟩ : ∃ y, u.e[k]? = some y := ⟨_, List.getElem?_eq_getElem (by omega)⟩;have hx1 := hot.exps.get hx;have hy1 := hou.exps.get hy;(repeat' (first |refine qv ?_ |apply qn |refine Fl.nil (fun _ => by kernel_rfl) ?_ |apply qs |apply qr |refine qw ?_ |(refine AWP.condD rfl ?_ ?_ <;> intro _ <;> try (exfalso; omega)) |apply qb |apply qk |refine qK ?_ |refine Fl.rel rfl rfl rfl rfl rfl rfl rfl rfl (by omega) (by first | omega | (simp; omega)) ?_ |refine Fl.rst rfl rfl rfl rfl rfl rfl rfl rfl rfl rfl rfl (LeL.refl _) rfl (by first | omega | (simp; omega)) ?_|fail));refine LoopEnd.of (k + 1) (by omega) (by omega) ?_;refine Ent.of [] ?_ ?_ rfl rfl;(repeat' (first |exact True.intro |refine ⟨⟨AV.Le.refl _, rfl⟩, ?_⟩ |refine ⟨⟨⟨_, rfl, BLe.cells (LeL.refl _)⟩, rfl⟩, ?_⟩ |refine ⟨⟨⟨_, rfl, BLe.map rfl rfl⟩, rfl⟩, ?_⟩ |refine ⟨⟨⟨_, rfl, BLe.row ?_⟩, rfl⟩, ?_⟩|fail));have hg := addE_get hx hy;rw [take_snoc hg, List.append_assoc];exact set_mid _ _ (by rw [List.length_take]; omega) (by omega)
       ·have hrow : (addE t.e u.e).take k ++ ex'.drop k = addE t.e u.e := by
         rw [List.take_of_length_le (by omega), List.drop_of_length_le (by omega), List.append_nil]
        rw [hrow];clear hlk hrow;by_cases hmu : Fit (zval t.c * zval u.c)
        ·by_cases hf : Fit (getM (exK (addE t.e u.e)) s'.1 + zval t.c * zval u.c)
         ·(repeat' (first |refine qv ?_ |apply qn |apply qs |apply qr |(refine AWP.condD rfl ?_ ?_ <;> intro _ <;> try (exfalso; omega)) |apply qx));refine Fl.call rfl (xMul_ret _ _ (hfp t htm).1 (hfq u hum).1 hmu) rfl rfl rfl (LeL.cons (AV.Le.agg (leZ (σ := []) (hfp t htm).2)) (LeL.cons (AV.Le.agg (leZ (σ := []) (hfq u hum).2)) LeL.nil)) ?_;(repeat' (first |refine qv ?_|fail));refine Fl.io rfl [(900, 710), (901, 711), (902, 712)] (sAddR_ret V hV s' hmok (uM t u) hmu hadl hf) rfl rfl (LeL.refl _) rfl ⟨⟨⟨_, rfl, BLe.cells (LeL.refl _)⟩, rfl⟩, ⟨⟨_, rfl, BLe.map rfl rfl⟩, rfl⟩, ⟨⟨_, rfl, BLe.row rfl⟩, rfl⟩, trivial⟩ rfl rfl rfl rfl rfl ?_;(repeat' (first |refine qv ?_ |apply qn |apply qr |refine qw ?_|fail));refine LoopEnd.of (j + 1, stepM s' (uM t u), addE t.e u.e) ⟨by omega, by rw [show (rowU q.terms t).take (j + 1) = _ from take_map_snoc (uM t) hu]; exact runM_snoc m1 hf, hadl, fun k' hk' v hv => ?_⟩ (by simp only; omega) ?_
          ·rcases Nat.lt_succ_iff_lt_or_eq.1 hk' with h | h
           ·exact m3 k' h v hv
           ·subst h;rw [hu] at hv;injection hv with hv; subst hv; exact hmu
          ·refine Ent.of [] ?_ ?_ rfl rfl;(repeat' (first |exact True.intro |refine ⟨⟨AV.Le.refl _, rfl⟩, ?_⟩ |refine ⟨⟨⟨_, rfl, BLe.cells (LeL.refl _)⟩, rfl⟩, ?_⟩ |refine ⟨⟨⟨_, rfl, BLe.row rfl⟩, rfl⟩, ?_⟩ |refine ⟨⟨⟨_, rfl, BLe.map rfl rfl⟩, rfl⟩, ?_⟩|fail))
         ·have e1 := hr2 (hstop _ hsplit hf);subst e1;(repeat' (first |refine qv ?_ |apply qn |apply qs |apply qr |(refine AWP.condD rfl ?_ ?_ <;> intro _ <;> try (exfalso; omega)) |apply qx));refine Fl.call rfl (xMul_ret _ _ (hfp t htm).1 (hfq u hum).1 hmu) rfl rfl rfl (LeL.cons (AV.Le.agg (leZ (σ := []) (hfp t htm).2)) (LeL.cons (AV.Le.agg (leZ (σ := []) (hfq u hum).2)) LeL.nil)) ?_;(repeat' (first |refine qv ?_|fail));exact Fl.thrC rfl [(900, 710), (901, 711), (902, 712)] (sAddR_thr V hV s' hmok (uM t u) hmu hadl hf) rfl (LeL.refl _) rfl ⟨⟨⟨_, rfl, BLe.cells (LeL.refl _)⟩, rfl⟩, ⟨⟨_, rfl, BLe.map rfl rfl⟩, rfl⟩, ⟨⟨_, rfl, BLe.row rfl⟩, rfl⟩, trivial⟩ rfl (fun _ => by kernel_rfl) (fun _ => rfl)
        ·have e1 := hr2 (by rintro ⟨r, _, hall, _⟩; exact hmu (hall t htm u hum));subst e1;(repeat' (first |refine qv ?_ |apply qn |apply qs |apply qr |(refine AWP.condD rfl ?_ ?_ <;> intro _ <;> try (exfalso; omega)) |apply qx));exact Fl.thrC rfl [] (xMul_thr _ _ (hfp t htm).1 (hfq u hum).1 hmu) rfl (LeL.cons (AV.Le.agg (leZ (hfp t htm).2)) (LeL.cons (AV.Le.agg (leZ (hfq u hum).2)) LeL.nil)) rfl trivial rfl (fun h => by cases h) (fun _ => rfl)
     ·have hti : (rowU q.terms t).take j = rowU q.terms t := List.take_of_length_le (by simp [rowU]; omega);rw [hti] at m1;(repeat' (first |refine qv ?_ |apply qn |apply qs |apply qr |refine qw ?_ |(refine AWP.condD rfl ?_ ?_ <;> intro _ <;> try (exfalso; omega)) |apply qx));refine LoopEnd.of (i + 1, s', ex') ⟨by omega, by rw [flatMap_take_succ _ ht, runM_append, k1]; exact m1, m2, fun j' hj' t' ht' u hu => ?_⟩ (by simp only; omega) ?_
      ·rcases Nat.lt_succ_iff_lt_or_eq.1 hj' with h | h
       ·exact k3 j' h t' ht' u hu
       ·subst h;rw [ht] at ht';injection ht' with ht'; subst ht';obtain ⟨k, hk⟩ := List.mem_iff_getElem?.1 hu;exact m3 k (by have := (List.getElem?_eq_some_iff.1 hk).1; omega) u hk
      ·refine Ent.of [] ?_ ?_ rfl rfl;(repeat' (first |exact True.intro |refine ⟨⟨AV.Le.refl _, rfl⟩, ?_⟩ |refine ⟨⟨⟨_, rfl, BLe.cells (LeL.refl _)⟩, rfl⟩, ?_⟩ |refine ⟨⟨⟨_, rfl, BLe.row rfl⟩, rfl⟩, ?_⟩ |refine ⟨⟨⟨_, rfl, BLe.map rfl rfl⟩, rfl⟩, ?_⟩|fail))
   ·have hti : p.terms.take i = p.terms := List.take_of_length_le (by omega);rw [hti] at k1;have hall : runM (timesU p q) ([], 0) = some s := k1
    have hprods : ∀ t ∈ p.terms, ∀ u ∈ q.terms, Fit (zval t.c * zval u.c) := fun t ht u hu => by
     obtain ⟨j, hj⟩ := List.mem_iff_getElem?.1 ht;exact k3 j (by have := (List.getElem?_eq_some_iff.1 hj).1; omega) t hj u hu
    have hmok := runM_ok hV (MOk.nil V) (us := timesU p q) (fun u hu => by
     obtain ⟨t, ht, hu⟩ := List.mem_flatMap.1 hu
     exact hrowU t ht u hu) hall
    have hlu : (timesU p q).length ≤ 3000 * 3000 := by
     have : (timesU p q).length = p.terms.length * q.terms.length := by
      unfold timesU;generalize p.terms = l
      induction l with
      | nil => simp
      | cons a l ih => rw [List.flatMap_cons, List.length_append, ih, List.length_cons]; simp [rowU, Nat.succ_mul]; omega
     rw [this];exact Nat.mul_le_mul hplen hqlen
    have hln := hmok.2;simp only [List.length_nil] at hln;by_cases hok : OkP ⟨V, sortT (s.1.map (tmM V))⟩
    ·have e1 := hr1 _ ⟨hd, hprods, s, hall, rfl, hok⟩;subst e1;(repeat' (first |refine qv ?_ |apply qn |apply qs |apply qr |(refine AWP.condD rfl ?_ ?_ <;> intro _ <;> try (exfalso; omega)) |apply qx));refine Fl.io rfl [(900, 710), (901, 711)] (sPoly_io V s.1 s.2 hmok.1 hV (by omega) _ _ (fun _ => ⟨rfl, rfl⟩) (fun h => absurd hok h)) rfl rfl (LeL.refl _) rfl ⟨⟨⟨_, rfl, BLe.cells (LeL.refl _)⟩, rfl⟩, ⟨⟨_, rfl, BLe.map rfl rfl⟩, rfl⟩, trivial⟩ rfl rfl rfl rfl rfl ?_;(repeat' (first |apply qn |refine qe ?_ |apply qt));exact ⟨⟨[], _, _, Ent.refl _ _ _, rfl, AV.Le.refl _, rfl, trivial, rfl, rfl⟩⟩
    ·have e1 := hr2 (by
      rintro ⟨r, _, _, s2, h1, h2, h3⟩;rw [hall] at h1;injection h1 with h1;subst h1
      exact hok (h2 ▸ h3))
     subst e1;(repeat' (first |refine qv ?_ |apply qn |apply qs |apply qr |(refine AWP.condD rfl ?_ ?_ <;> intro _ <;> try (exfalso; omega)) |apply qx));exact Fl.thrC rfl [(900, 710), (901, 711)] (sPoly_io V s.1 s.2 hmok.1 hV (by omega) _ _ (fun h => absurd h hok) (fun _ => ⟨rfl, rfl⟩)) rfl (LeL.refl _) rfl ⟨⟨⟨_, rfl, BLe.cells (LeL.refl _)⟩, rfl⟩, ⟨⟨_, rfl, BLe.map rfl rfl⟩, rfl⟩, trivial⟩ rfl (fun _ => by kernel_rfl) (fun _ => rfl)
end Go.Proofs.YtcaecieigoplbaaGreat

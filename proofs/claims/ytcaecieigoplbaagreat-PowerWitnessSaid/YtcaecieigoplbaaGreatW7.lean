/- Part 7 of a proof layer and of the contracts of the functions (XV5 XV7 XT2 XZ6 XRQ XZ7 XU0 XU2 XRS XN3 XK5 XN4 XZ8 XT3). -/
import Derived.Deep.Strs
import Derived.Test.YtcaecieigoplbaaGreatW6
set_option linter.unusedVariables false
set_option linter.unusedSimpArgs false
/- power: small witnesses; awake; a power of 1. -/
namespace Go.AL
theorem cp_ub {a : Int} (ha : 1 ≤ a) : ∀ n : Nat, chiN a n ≤ (2 * (a * a)) ^ n ∧ psiN a n ≤ (2 * (a * a)) ^ n
 | 0 => by simp [chi_zero, psi_zero]
 | n + 1 => by
  obtain ⟨h1, h2⟩ := cp_ub ha n;obtain ⟨p1, p2, _⟩ := chips_pos ha n;have ha2 : 1 * a ≤ a * a := Int.mul_le_mul_of_nonneg_right ha (by omega);rw [chi_succ, psi_succ, Int.pow_succ]
  generalize (2 * (a * a)) ^ n = T at *
  have e1 : a * chiN a n ≤ a * T := Int.mul_le_mul_of_nonneg_left h1 (by omega);have e2 : (a * a - 1) * psiN a n ≤ (a * a - 1) * T := Int.mul_le_mul_of_nonneg_left h2 (by omega);have e3 : a * psiN a n ≤ a * T := Int.mul_le_mul_of_nonneg_left h2 (by omega);have e4 : a * T ≤ (a * a) * T := Int.mul_le_mul_of_nonneg_right (by omega) (by omega);have e5 : 1 * T ≤ (a * a) * T := Int.mul_le_mul_of_nonneg_right (by omega) (by omega)
  have e6 : (a * a - 1) * T = (a * a) * T - T := by grind
  have e7 : T * (2 * (a * a)) = (a * a) * T + (a * a) * T := by grind
  omega
theorem pw_small {b e : Int} (hb : 1 ≤ b) (hb2 : b ≤ 1000) (he : 0 ≤ e) (he2 : e ≤ 5) : ∃ E : Nat, E ≤ 32000 ∧ ∀ x ∈ (pw b e).L b e, x.natAbs ≤ 2 ^ E ∧ Fit x := by
 obtain ⟨h1, h2⟩ := pw_found hb he;have hL : (pw b e).L b e = [b, e, (pw b e).c, (pw b e).A, (pw b e).Y, (pw b e).X, (pw b e).M, (pw b e).z, (pw b e).y, b - 1] := rfl;rw [hL] at h2 ⊢
 generalize pw b e = w at *
 obtain ⟨c, A, Y, X, M, z, y⟩ := w;simp only at h1 h2 ⊢;have hX0 := (power_only hb he (by have := h2 c (by simp); omega) (by have := h2 z (by simp); omega) (by have := h2 y (by simp); omega) (by have := h2 X (by simp); omega) (by rw [← h1.2.1.2.2, show (e + 2).toNat = e.toNat + 2 by omega]) (by rw [← h1.2.2.1.2.2, show (e + 1).toNat = e.toNat + 1 by omega]) h1.2.2.2.1 h1.2.2.2.2.1 h1.2.2.2.2.2.1 h1.2.2.2.2.2.2).2;obtain ⟨_, ⟨_, _, l2⟩, ⟨hA2, _, l3⟩, l4, l5, l6, l7⟩ := h1;simp only [List.forall_mem_cons] at h2;obtain ⟨g0, g1, g2, g3, g4, g5, g6, g7, g8, g9, _⟩ := h2;rw [show (e + 2).toNat = e.toNat + 2 by omega] at l2;rw [show (e + 1).toNat = e.toNat + 1 by omega] at l3;obtain ⟨F, hF⟩ : ∃ F : Nat, F = 147 := ⟨_, rfl⟩;obtain ⟨E, hE⟩ : ∃ E : Nat, E = 2000 := ⟨_, rfl⟩
 have hA : A ≤ 2 ^ F := by
  rw [← l2];refine Int.le_trans (cp_ub (by omega) _).2 ?_;have k1 : (b + 2) * (b + 2) ≤ 1002 * 1002 := Int.mul_le_mul (by omega) (by omega) (by omega) (by omega);have k0 : 0 ≤ (b + 2) * (b + 2) := Int.mul_nonneg (by omega) (by omega)
  have k2 : 2 * ((b + 2) * (b + 2)) ≤ 2 ^ 21 := by omega
  refine Int.le_trans (pow_le_l (by omega) k2 _) ?_;rw [← Int.pow_mul];exact pow_le_r (by omega) (by omega)
 have hA2 : 2 * (A * A) ≤ 2 ^ (2 * F + 1) := by
  have k1 : A * A ≤ 2 ^ F * 2 ^ F := Int.mul_le_mul hA hA g3 (by omega);rw [show 2 * F + 1 = F + F + 1 by omega, Int.pow_succ, Int.pow_add];omega
 have hub := cp_ub (a := A) (by omega) (e.toNat + 1)
 have hT : (2 * (A * A)) ^ (e.toNat + 1) ≤ 2 ^ E := by
  refine Int.le_trans (pow_le_l (by have := Int.mul_nonneg g3 g3; omega) hA2 _) ?_;rw [← Int.pow_mul];refine pow_le_r (by omega) ?_;have : (2 * F + 1) * (e.toNat + 1) ≤ (2 * F + 1) * 6 := Nat.mul_le_mul_left _ (by omega);omega
 have hX : X ≤ 2 ^ E := by rw [hX0]; exact Int.le_trans hub.1 hT
 have hY : Y ≤ 2 ^ E := by rw [← l3]; exact Int.le_trans hub.2 hT
 have hAE : 2048 * A ≤ 2 ^ E := by
  refine Int.le_trans (Int.mul_le_mul_of_nonneg_left hA (by omega)) ?_;rw [show (2048 : Int) = 2 ^ 11 by decide, ← Int.pow_add];exact pow_le_r (by omega) (by omega)
 have hM : M ≤ 2 ^ E := by
  have k1 : A * b ≤ A * 1000 := Int.mul_le_mul_of_nonneg_left hb2 g3;have k2 : 0 ≤ b * b := Int.mul_nonneg g0 g0
  have k3 : 2 * A * b = 2 * (A * b) := by grind
  omega
 have hM1 : 1 ≤ M := by have := Int.mul_nonneg g2 g0; omega
 have hc : c ≤ M := by
  have : c * 1 ≤ c * b := Int.mul_le_mul_of_nonneg_left hb g2;omega
 have hz : z ≤ X := by
  have k1 : 1 * z ≤ M * z := Int.mul_le_mul_of_nonneg_right hM1 g7;have k2 := Int.mul_nonneg g2 g0;have k3 : b + 2 ≤ A := (pw_base (n := e.toNat) hb l2.symm).1;have k4 : 0 ≤ (A - b) * Y := Int.mul_nonneg (by omega) g4;omega
 have hc2 : (2048 : Int) ≤ 2 ^ E := Int.le_trans (by decide : (2048 : Int) ≤ 2 ^ 11) (pow_le_r (by omega) (by omega));have hcb := Int.mul_nonneg g2 g0
 have hle : ∀ x ∈ [b, e, c, A, Y, X, M, z, y, b - 1], 0 ≤ x ∧ x ≤ 2 ^ E := by
  simp only [List.forall_mem_cons];exact ⟨⟨g0, by omega⟩, ⟨g1, by omega⟩, ⟨g2, by omega⟩, ⟨g3, by omega⟩, ⟨g4, hY⟩, ⟨g5, hX⟩, ⟨g6, hM⟩, ⟨g7, by omega⟩, ⟨g8, by omega⟩, ⟨g9, by omega⟩, by simp⟩
 refine ⟨E, by omega, fun x hx => ?_⟩;obtain ⟨k0, k1⟩ := hle x hx;refine ⟨?_, fit_pow2 k0 k1 (by omega)⟩
 have : ((x.natAbs : Nat) : Int) ≤ ((2 ^ E : Nat) : Int) := by
  rw [Int.natCast_pow];show ((x.natAbs : Nat) : Int) ≤ (2 : Int) ^ E;omega
 exact Int.ofNat_le.1 this
end Go.AL
namespace Go.Proofs.YtcaecieigoplbaaGreat
open Go.AL
theorem pWitness_eq {b e c A Y X M z y w : Int} (h0 : ∀ x ∈ [b, e, c, A, Y, X, M, z, y, w], 0 ≤ x) (hf : ∀ x ∈ [b, e, c, A, Y, X, M, z, y, w], Fit x) (h : PowEq b e c A Y X M z y w) : e + 2 ≤ 131072 ∧ PureFn Tryz.prog 31 [aX b, aN e] (.tup [.sl 2 eX [b, e, c, A, Y, X, M, z, y, w], aN 0]) := by
 obtain ⟨hb, hc, hA2, hpw, hL⟩ := pw_only h0 h;obtain ⟨f1, f2, f3⟩ := pw_fit h0 hf h;refine ⟨f3, ?_⟩;rw [hL];refine pWitness_ok b e hb (h0 e (by simp)) (by omega) (by rw [hpw]; exact f1) (by rw [hpw]; exact f2) (by rw [hpw]; simp only; omega)
theorem pWitness_small (b e : Int) (hb : 1 ≤ b) (hb2 : b ≤ 1000) (he : 0 ≤ e) (he2 : e ≤ 5) : PureFn Tryz.prog 31 [aX b, aN e] (.tup [.sl 2 eX ((pw b e).L b e), aN 0]) ∧ PureFn Tryz.prog 25 [aS pwS, .sl 2 eX ((pw b e).L b e)] (.tup [aB true, aN 0]) := by
 obtain ⟨h1, h2⟩ := pw_found hb he;obtain ⟨E, hE, hs⟩ := pw_small hb hb2 he he2;exact ⟨(pWitness_eq h2 (fun x hx => (hs x hx).2) h1).2, Holds_yes pwS _ pwS_w pwS_ok (fun x hx => (hs x hx).2) rfl h2 (pw_ev hE rfl fun x hx => (hs x hx).1) ((pw_hol _ _ _ _ _ _ _ _ _ _).2 h1)⟩
theorem awake11_ok : PureFn Tryz.prog 28 [] (aB true) := by
 refine PureFn.of_body Tryz.func28 rfl Tryz.ntmps28 rfl rfl ?_;obtain ⟨c1, c2⟩ := pWitness_small 1 0 (by omega) (by omega) (by omega) (by omega);obtain ⟨L, hL⟩ : ∃ L, L = (pw 1 0).L 1 0 := ⟨_, rfl⟩
 have hLl : L.length = 10 := by rw [hL]; rfl
 have g3 : L[(3 : Int).toNat]? = some 6 := by rw [hL]; rfl
 have g6 : L[(6 : Int).toNat]? = some 10 := by rw [hL]; rfl
 have g8 : L[(8 : Int).toNat]? = some 8 := by rw [hL]; rfl
 rw [← hL] at c1 c2;have len1 : ∀ x : Int, 0 ≤ x → x < 4294967296 → (toW x.natAbs).length ≤ 1000000 := fun x h0 h1 => Nat.le_trans ((toW_len_le (by omega) 1).2 (by rw [BB_succ, BB_zero]; omega)) (by omega);refine AWP.seqS ?_;(repeat' (first |refine qv ?_ |apply qn |apply qr));refine ⟨AWP.seqS ?_⟩;(repeat' (first |apply qr));refine qc (rOf_ok 1 (by omega) (by omega)) ?_;skip;refine qc (c1) ?_;(repeat' (first |refine qv ?_ |apply qn));refine ⟨AWP.seqS ?_⟩;(repeat' (first |apply qr));refine qc (powerLinks_ok) ?_;(repeat' (first |refine qv ?_|fail));refine qc (c2) ?_;(repeat' (first |refine qv ?_ |apply qn));refine ⟨?_⟩;(repeat' (first |refine qv ?_ |apply qs |apply qr |refine qK ?_ |(refine Fl.splitD rfl rfl ?_ ?_ <;> intro _ <;> try (exfalso; omega))));refine qc (rOf_ok 6 (by omega) (by omega)) ?_;skip;refine qc (rSame_ok 6 6 (len1 6 (by omega) (by omega))) ?_;(repeat' (first |refine qv ?_ |refine qK ?_ |(refine Fl.splitD rfl rfl ?_ ?_ <;> intro _ <;> try (exfalso; omega))));refine qc (rOf_ok 10 (by omega) (by omega)) ?_;skip;refine qc (rSame_ok 10 10 (len1 10 (by omega) (by omega))) ?_;(repeat' (first |refine qv ?_ |refine qK ?_ |(refine Fl.splitD rfl rfl ?_ ?_ <;> intro _ <;> try (exfalso; omega))));refine qc (rOf_ok 8 (by omega) (by omega)) ?_;skip;refine qc (rSame_ok 8 8 (len1 8 (by omega) (by omega))) ?_;(repeat' (first |refine qv ?_ |refine Fl.nil (fun _ => by kernel_rfl) ?_ |apply qt));exact RetOk.of rfl (AV.Le.refl _)
end Go.Proofs.YtcaecieigoplbaaGreat
/- PowerFound. -/
namespace Go.AL
end Go.AL
namespace Go.Proofs.YtcaecieigoplbaaGreat
open Go.AL
theorem rPower1_ok (n : Int) (h0 : 0 ≤ n) : PureFn Tryz.prog 36 [aX 1, aN n] (.tup [aX 1, aB true]) := by
 refine PureFn.of_body Tryz.func36 rfl Tryz.ntmps36 rfl rfl ?_;have hb := rBits_ok 1 (by rw [lenI]; exact Nat.le_trans ((toW_len_le (by omega) 1).2 (by rw [BB_succ, BB_zero]; omega)) (by omega))
 have hb1 : (bitl (1 : Int).natAbs : Int) = 1 := by decide
 rw [hb1] at hb;refine AWP.seqS ?_;(repeat' (first |refine qv ?_ |apply qn |apply qr |refine qe ?_|fail));refine ⟨AWP.seqS ?_⟩;(repeat' (first |refine qv ?_ |apply qr));refine qc (hb) ?_;(repeat' (first |refine qv ?_ |apply qn));refine ⟨AWP.seqS ?_⟩;(repeat' (first |refine qv ?_ |apply qn |apply qs |apply qr |refine qe ?_ |refine Fl.skip rfl rfl ?_ |refine AWP.condT rfl ?_ |refine AWP.condF rfl ?_ |(refine AWP.condD rfl ?_ ?_ <;> intro _ <;> try (exfalso; omega)) |apply qb |apply qk |apply qt))
 ·refine qc (rOf_ok 1 (by omega) (by omega)) ?_;(repeat' (first |refine qv ?_ |apply qn |refine qe ?_ |apply qt));exact RetOk.of rfl (AV.Le.refl _)
 ·exact RetOk.of rfl (AV.Le.refl _)
end Go.Proofs.YtcaecieigoplbaaGreat
/- power.Witness, all ways; the reference's numbers of a power. -/
namespace Go.AL
theorem BB_powm (k : Nat) : ∀ n : Nat, BB k ^ n = BB (k * n)
 | 0 => by simp [BB_zero]
 | n + 1 => by rw [Int.pow_succ, BB_powm k n, ← BB_add]; congr 1
theorem pw_sizes {b e : Int} (hb : 1 ≤ b) (hbl : lenI b ≤ 40) (he : 0 ≤ e) (he2 : e ≤ 60) : Fit b ∧ Fit (pw b e).c ∧ lenI (pw b e).c ≤ 2440 ∧ Fit (pw b e).A ∧ 2 ≤ (pw b e).A ∧ lenI (pw b e).M ≤ 4000 ∧ lenI (pw b e).A ≤ 2502 ∧ 0 < (pw b e).M := by
 have hb1 : b < BB 40 := (lenI_nonneg (by omega)).1 hbl;have h40 := BB_pos 40;have hs : BB 41 = 4294967296 * BB 40 := BB_succ 40;obtain ⟨n, hn⟩ : ∃ n : Nat, n = e.toNat := ⟨_, rfl⟩
 have hc : (pw b e).c = b ^ n := by rw [hn]; rfl
 have hA : (pw b e).A = psiN (b + 2) (n + 2) := by rw [hn]; rfl
 have hM : (pw b e).M = (pw b e).A * b + (((pw b e).A - b) * b - 1) := rfl;have hc0 : 0 ≤ b ^ n := Int.pow_nonneg (by omega)
 have hcB : b ^ n ≤ BB 2400 := by
  have h1 : b ^ n ≤ BB 40 ^ n := pow_le_l (by omega) (by omega) n;rw [BB_powm] at h1;exact Int.le_trans h1 (BB_le (by omega))
 have hAB : (pw b e).A ≤ BB 2501 := by
  rw [hA];have h1 := psi_ub (a := b + 2) (by omega) (n + 1);have h2 : (2 * (b + 2)) ^ (n + 1) ≤ BB 41 ^ (n + 1) := pow_le_l (by omega) (by omega) _;rw [BB_powm] at h2;exact Int.le_trans (Int.le_trans h1 h2) (BB_le (by omega))
 obtain ⟨hA2, hbig⟩ := pw_base (b := b) (A := (pw b e).A) (n := n) hb hA
 have hMe : (pw b e).M = 2 * (pw b e).A * b - b * b - 1 := by rw [hM]; grind
 have hp1 : 1 ≤ b ^ (n + 1) := by have := Int.pow_pos (n := b) (m := n + 1) (by omega); omega
 have hM0 : 0 < (pw b e).M := by rw [hMe]; omega
 have hAb : (pw b e).A * b ≤ BB 2501 * BB 40 := Int.mul_le_mul hAB (by omega) (by omega) (Int.le_of_lt (BB_pos _));rw [← BB_add] at hAb;have hbb : 0 ≤ b * b := Int.mul_nonneg (by omega) (by omega)
 have hMB : (pw b e).M < BB 4000 := by
  have h1 : BB (2501 + 40) * 4294967296 ≤ BB 4000 := by
   have := BB_le (show 2501 + 40 + 1 ≤ 4000 by omega);rw [BB_succ] at this; omega
  have h2 := BB_pos (2501 + 40)
  have h3 : 2 * (pw b e).A * b = 2 * ((pw b e).A * b) := by rw [Int.mul_assoc]
  rw [hMe, h3]; omega
 have fit : ∀ {x : Int} {k : Nat}, 0 ≤ x → x ≤ BB k → k ≤ 4095 → Fit x := fun h0 h1 hk => by
  refine Fit.mk ?_;have a1 := BB_le (show _ ≤ 4095 from hk);have a2 : BB 4096 = 4294967296 * BB 4095 := BB_succ 4095;have := BB_pos 4095;omega
 have len : ∀ {x : Int} {k : Nat}, 0 ≤ x → x ≤ BB k → lenI x ≤ k + 1 := fun {x k} h0 h1 => by
  refine (lenI_nonneg h0).2 ?_;have := BB_pos k;rw [BB_succ]; omega
 rw [hc];exact ⟨fit (k := 40) (by omega) (by omega) (by omega), fit hc0 hcB (by omega), Nat.le_trans (len hc0 hcB) (by omega), fit (by omega) hAB (by omega), by omega, (lenI_nonneg (by omega)).2 hMB, len (by omega) hAB, hM0⟩
theorem pw_all {b e : Int} (hb : 1 ≤ b) (hbl : lenI b ≤ 40) (he : 0 ≤ e) (he2 : e ≤ 60) (hX : Fit (pw b e).X) : ∀ x ∈ (pw b e).L b e, Fit x := by
 obtain ⟨s1, s2, s3, s4, s5, s6, s7, s8⟩ := pw_sizes hb hbl he he2;obtain ⟨hP, h0⟩ := pw_found hb he;have fM : Fit (pw b e).M := Fit.mk (lenI_le.1 (Nat.le_trans s6 (show 4000 ≤ 4096 by omega)));have fY : Fit (pw b e).Y := fit_of hX (cp_pos s5 (e.toNat + 1)).2.1 (psi_le_chi s5 e.toNat);obtain ⟨l1, ⟨_, _, l2⟩, ⟨_, _, l3⟩, l4, l5, l6, l7⟩ := hP
 generalize pw b e = w at *
 obtain ⟨c, A, Y, X, M, z, y⟩ := w
 simp only at *
 simp only [PW.L, List.forall_mem_cons] at h0 ⊢;obtain ⟨g0, g1, g2, g3, g4, g5, g6, g7, g8, g9, _⟩ := h0;have k1 : 0 ≤ c * b := Int.mul_nonneg g2 g0
 have k5 : 0 ≤ (A - b) * Y := Int.mul_nonneg (by
  have := (pw_base (b := b) (A := A) (n := e.toNat) hb (by rw [← l2, show (e + 2).toNat = e.toNat + 2 by omega])).1
  omega) g4
 have k2 : 1 * z ≤ M * z := Int.mul_le_mul_of_nonneg_right (by omega) g7;refine ⟨s1, fit_small (by omega) (by omega), s2, s4, fY, hX, fM, fit_of hX g7 (by omega), fit_of fM g8 (by omega), fit_of s1 (by omega) (by omega), by simp⟩
end Go.AL
namespace Go.Proofs.YtcaecieigoplbaaGreat
open Go.AL
theorem pWitness_form (z : Z) (hz : WOk z.w) (h : ¬ OkZ z) (e : Int) : PureFn Tryz.prog 31 [aZ z, aN e] (.tup [.v (.slice none 0 0), aN 1]) := by
 refine PureFn.of_body Tryz.func31 rfl Tryz.ntmps31 rfl rfl ?_;have hv := Valid_ok z hz;rw [decide_eq_false h] at hv;refine AWP.seqS ?_;(repeat' (first |refine qv ?_ |apply qn |apply qr |refine qe ?_|fail));refine ⟨AWP.seqS ?_⟩;(repeat' (first |refine qv ?_ |apply qs |apply qr |apply qb));refine qc (hv) ?_;(repeat' (first |refine qv ?_ |apply qn |apply qs |apply qr |refine AWP.condT rfl ?_ |apply qt));exact RetOk.of rfl (AV.Le.refl _)
theorem pWitness_arg (b e : Int) (hb : Fit b) (h : b < 1 ∨ e < 0) : PureFn Tryz.prog 31 [aX b, aN e] (.tup [.v (.slice none 0 0), aN 2]) := by
 refine PureFn.of_body Tryz.func31 rfl Tryz.ntmps31 rfl rfl ?_;refine AWP.seqS ?_;(repeat' (first |refine qv ?_ |apply qn |apply qr |refine qe ?_|fail));refine ⟨AWP.seqS ?_⟩;(repeat' (first |refine qv ?_ |apply qs |apply qr |apply qb));refine qc (Valid_int b hb) ?_;(repeat' (first |refine qv ?_ |apply qn |apply qs |apply qr |refine AWP.condF rfl ?_));refine qc (Of_ok 1 (by omega) (by omega)) ?_;skip;refine qc (Less_ok b 1 hb fit_one) ?_;(repeat' (first |refine qv ?_ |apply qn |refine Fl.nil (fun _ => by kernel_rfl) ?_ |apply qs |apply qr |refine Fl.skip rfl rfl ?_ |refine AWP.condT rfl ?_ |(refine AWP.condD rfl ?_ ?_ <;> intro _ <;> try (exfalso; omega)) |apply qt |(refine Fl.splitD rfl rfl ?_ ?_ <;> intro _ <;> try (exfalso; omega))))
 all_goals first | exact RetOk.of rfl (AV.Le.refl _) | (exfalso; omega)
theorem pWitness_big (b e : Int) (hb : Fit b) (h : 1 ≤ b) (he : 131072 < e) : PureFn Tryz.prog 31 [aX b, aN e] (.tup [.v (.slice none 0 0), aN 4]) := by
 refine PureFn.of_body Tryz.func31 rfl Tryz.ntmps31 rfl rfl ?_;refine AWP.seqS ?_;(repeat' (first |refine qv ?_ |apply qn |apply qr |refine qe ?_|fail));refine ⟨AWP.seqS ?_⟩;(repeat' (first |refine qv ?_ |apply qs |apply qr |apply qb));refine qc (Valid_int b hb) ?_;(repeat' (first |refine qv ?_ |apply qn |apply qs |apply qr |refine AWP.condF rfl ?_));refine qc (Of_ok 1 (by omega) (by omega)) ?_;skip;refine qc (Less_ok b 1 hb fit_one) ?_;(repeat' (first |refine qv ?_ |apply qn |refine Fl.nil (fun _ => by kernel_rfl) ?_ |apply qs |apply qr |(refine AWP.condD rfl ?_ ?_ <;> intro _ <;> try (exfalso; omega)) |apply qt |(refine Fl.splitD rfl rfl ?_ ?_ <;> intro _ <;> try (exfalso; omega))))
 all_goals first | exact RetOk.of rfl (AV.Le.refl _) | (exfalso; omega)
set_option maxHeartbeats 1000000 in
theorem pWitness_no (b e : Int) (hb : 1 ≤ b) (he : 0 ≤ e) (he2 : e ≤ 131070) (fb : Fit b) (fb2 : Fit (b + 2)) (fc : Fit (pw b e).c) (fA : Fit (pw b e).A) (hA2 : 2 ≤ (pw b e).A) (fX : ¬ Fit (pw b e).X) : PureFn Tryz.prog 31 [aX b, aN e] (.tup [.v (.slice none 0 0), aN 4]) := by
 refine PureFn.of_body Tryz.func31 rfl Tryz.ntmps31 rfl rfl ?_;have hc : b ^ e.toNat = (pw b e).c := rfl
 have hA : psiN (b + 2) (e + 2).toNat = (pw b e).A := by rw [show (e + 2).toNat = e.toNat + 2 by omega]; rfl
 have hY : psiN (pw b e).A (e + 1).toNat = (pw b e).Y := by rw [show (e + 1).toNat = e.toNat + 1 by omega]; rfl
 have hX : chiN (pw b e).A (e + 1).toNat = (pw b e).X := by rw [show (e + 1).toNat = e.toNat + 1 by omega]; rfl
 generalize pw b e = w at *
 obtain ⟨c, A, Y, X, M, z, y⟩ := w
 simp only at *
 have fb1 : Fit (b - 1) := fit_of fb (by omega) (by omega);have e1 := chainOk (o := none) (x := b + 0) (by rw [Int.add_zero]; exact fb) (chAdd_ok none 0 b 0 fb Fit.zero);rw [Int.add_zero] at e1;have e2 := chainOk (o := none) fb1 (chSub_ok none 0 b 1 fb fit_one);have e3 := chainOk (o := none) (by rw [hc]; exact fc) (chPower_ok none 0 b e fb he (by omega));rw [hc] at e3;have e4 := chainOk (o := none) fb2 (chAdd_ok none 0 b 2 fb fit_two);have e5 := Psi_ok (b + 2) (e + 2) fb2 (by omega) (by omega) (by omega);rw [hA, aR_fit fA] at e5;obtain ⟨y0, s0, e6⟩ : ∃ y0 s0 : Int, PureFn Tryz.prog 99 [aX A, aN (e + 1)] (.tup [aX y0, aN s0]) := ⟨_, _, Psi_ok A (e + 1) fA hA2 (by omega) (by omega)⟩;have e7 := Chi2_ok A (e + 1) fA hA2 (by omega) (by omega);rw [hX, aR_not fX] at e7;clear hc hA hY hX;refine AWP.seqS ?_;(repeat' (first |refine qv ?_ |apply qn |apply qr |refine qe ?_|fail));refine ⟨AWP.seqS ?_⟩;(repeat' (first |refine qv ?_ |apply qs |apply qr |apply qb));refine qc (Valid_int b fb) ?_;(repeat' (first |refine qv ?_ |apply qn |apply qs |apply qr |refine AWP.condF rfl ?_));refine qc (Of_ok 1 (by omega) (by omega)) ?_;skip;refine qc (Less_ok b 1 fb fit_one) ?_;(repeat' (first |refine qv ?_ |apply qn |refine Fl.nil (fun _ => by kernel_rfl) ?_ |apply qs |apply qr |(refine AWP.condD rfl ?_ ?_ <;> intro _ <;> try (exfalso; omega)) |apply qk |(refine Fl.splitD rfl rfl ?_ ?_ <;> intro _ <;> try (exfalso; omega))));refine ⟨AWP.seqS ?_⟩;(repeat' (first |refine qv ?_ |apply qn |apply qr |refine qe ?_|fail));refine ⟨AWP.seqS ?_⟩;(repeat' (first |apply qr));refine Fl.make rfl rfl rfl rfl rfl rfl rfl rfl rfl rfl eX 0 (by exact leX_zero (σ := []) rfl) (by rfl) (by omega) (by dsimp only; omega) (by omega) ?_;(repeat' (first |refine qv ?_ |apply qn));refine ⟨AWP.seqS ?_⟩;(repeat' (first |refine qv ?_ |apply qr));refine qc (Of_ok 0 (by omega) (by omega)) ?_;skip;refine qi [(900, 28)] (e1) ?_;(repeat' (first |refine qv ?_|fail));refine qc (Of_ok e (by omega) (by omega)) ?_;(repeat' (first |refine qv ?_|fail));refine qc (Of_ok 1 (by omega) (by omega)) ?_;skip;refine qi [(900, 28)] (e2) ?_;(repeat' (first |refine Fl.relK rfl rfl rfl rfl rfl rfl rfl rfl rfl ?_ |refine Fl.rstK rfl rfl rfl rfl rfl rfl rfl rfl rfl rfl rfl (LeL.refl _) rfl rfl ?_ |refine Fl.nil (fun _ => by kernel_rfl) ?_|fail));refine ⟨AWP.seqS ?_⟩;(repeat' (first |refine qv ?_ |apply qr));refine qi [(900, 28)] (e3) ?_;(repeat' (first |refine Fl.relK rfl rfl rfl rfl rfl rfl rfl rfl rfl ?_ |refine Fl.rstK rfl rfl rfl rfl rfl rfl rfl rfl rfl rfl rfl (LeL.refl _) rfl rfl ?_ |apply qn));refine ⟨AWP.seqS ?_⟩;(repeat' (first |refine qv ?_ |apply qn |apply qs |apply qr |refine AWP.condF rfl ?_ |apply qk));refine ⟨AWP.seqS ?_⟩;(repeat' (first |refine qv ?_ |apply qr));refine qc (Of_ok 2 (by omega) (by omega)) ?_;skip;refine qi [(900, 28)] (e4) ?_;(repeat' (first |refine Fl.nil (fun _ => by kernel_rfl) ?_ |refine qe ?_|fail));refine ⟨AWP.seqS ?_⟩;(repeat' (first |apply qn |apply qr |refine qe ?_|fail));refine ⟨AWP.seqS ?_⟩;(repeat' (first |refine qv ?_ |apply qn |apply qs |apply qr |refine qw ?_ |refine AWP.condT rfl ?_));refine qc (e5) ?_;(repeat' (first |refine Fl.relK rfl rfl rfl rfl rfl rfl rfl rfl rfl ?_ |refine Fl.rstK rfl rfl rfl rfl rfl rfl rfl rfl rfl rfl rfl (LeL.refl _) rfl rfl ?_ |refine qv ?_|fail));refine Fl.ixP rfl rfl rfl rfl rfl 0 rfl rfl rfl rfl (by decide) ?_;(repeat' (first |apply qn |refine qe ?_|fail));refine ⟨AWP.seqS ?_⟩;(repeat' (first |refine qv ?_ |apply qs |apply qr |(refine Fl.splitN rfl rfl ?_ ?_ <;> intro _ <;> try (exfalso; omega))));refine Fl.ixP rfl rfl rfl rfl rfl 0 rfl rfl rfl rfl (by decide) ?_;(repeat' (first |refine qv ?_ |apply qn |refine AWP.condF rfl ?_ |apply qk));refine ⟨AWP.seqS ?_⟩;(repeat' (first |refine Fl.rldK rfl rfl rfl rfl rfl rfl rfl (fun _ => rfl) (fun _ => rfl) rfl ?_ |refine Fl.relK rfl rfl rfl rfl rfl rfl rfl rfl rfl ?_ |refine qv ?_ |apply qr |refine qw ?_|fail));refine qc (e6) ?_;(repeat' (first |refine Fl.relK rfl rfl rfl rfl rfl rfl rfl rfl rfl ?_ |refine Fl.rstK rfl rfl rfl rfl rfl rfl rfl rfl rfl rfl rfl (LeL.refl _) rfl rfl ?_ |refine qv ?_|fail));refine Fl.ixP rfl rfl rfl rfl rfl 1 rfl rfl rfl rfl (by decide) ?_;(repeat' (first |apply qn |refine qe ?_|fail));refine ⟨AWP.seqS ?_⟩;(repeat' (first |refine Fl.rldK rfl rfl rfl rfl rfl rfl rfl (fun _ => rfl) (fun _ => rfl) rfl ?_ |refine Fl.relK rfl rfl rfl rfl rfl rfl rfl rfl rfl ?_ |refine qv ?_ |apply qr |refine qw ?_|fail));refine qc (e7) ?_;(repeat' (first |refine Fl.relK rfl rfl rfl rfl rfl rfl rfl rfl rfl ?_ |refine Fl.rstK rfl rfl rfl rfl rfl rfl rfl rfl rfl rfl rfl (LeL.refl _) rfl rfl ?_ |refine qv ?_|fail));refine Fl.ixP rfl rfl rfl rfl rfl 2 rfl rfl rfl rfl (by decide) ?_;(repeat' (first |apply qn |refine qe ?_|fail));refine ⟨?_⟩;(repeat' (first |apply qs |apply qr));refine Fl.ixP rfl rfl rfl rfl rfl 1 rfl rfl rfl rfl (by decide) ?_;(repeat' (first |refine qv ?_ |apply qn |apply qs |apply qr |refine Fl.skip rfl rfl ?_ |refine AWP.condT rfl ?_ |apply qt |(refine Fl.splitN rfl rfl ?_ ?_ <;> intro _ <;> try (exfalso; omega))))
 ·exact RetOk.of rfl (AV.Le.refl _)
 ·refine Fl.ixP rfl rfl rfl rfl rfl 2 rfl rfl rfl rfl (by decide) ?_;(repeat' (first |refine qv ?_ |apply qn |apply qs |apply qr |refine AWP.condT rfl ?_ |apply qt));exact RetOk.of rfl (AV.Le.refl _)

set_option maxHeartbeats 1000000 in
theorem rW11_ok (b e : Int) (hb : 1 ≤ b) (hbl : lenI b ≤ 40) (he : 0 ≤ e) (he2 : e ≤ 60) (r : AV) (hr1 : Fit (pw b e).X → r = .tup [.sl 2 eX ((pw b e).L b e), aB true]) (hr2 : ¬ Fit (pw b e).X → r = .tup [.v (.slice none 0 0), aB false]) : PureFn Tryz.prog 34 [aX b, aN e] r := by
 refine PureFn.of_body Tryz.func34 rfl Tryz.ntmps34 rfl rfl ?_;obtain ⟨s1, s2, s3, s4, s5, s6, s7, s8⟩ := pw_sizes hb hbl he he2;have hall := pw_all hb hbl he he2;have hc : b ^ e.toNat = (pw b e).c := rfl;have hA : psiN (b + 2) (e.toNat + 2) = (pw b e).A := rfl;have hY : psiN (pw b e).A (e.toNat + 1) = (pw b e).Y := rfl;have hX : chiN (pw b e).A (e.toNat + 1) = (pw b e).X := rfl
 have hM : 2 * (pw b e).A * b - b * b - 1 = (pw b e).M := by
  show _ = (pw b e).A * b + (((pw b e).A - b) * b - 1);grind
 have hz : ((pw b e).X - ((pw b e).A - b) * (pw b e).Y - (pw b e).c * b) / (pw b e).M = (pw b e).z := rfl;have hy : (pw b e).M - (pw b e).c * b - 1 = (pw b e).y := rfl;have hL : (pw b e).L b e = [b, e, (pw b e).c, (pw b e).A, (pw b e).Y, (pw b e).X, (pw b e).M, (pw b e).z, (pw b e).y, b - 1] := rfl;have hYX := psi_le_chi s5 e.toNat;have hY0 := (cp_pos s5 (e.toNat + 1)).2.1;have hX0 := (cp_pos s5 (e.toNat + 1)).1;have hXP := psi_bound s5 s4 (n := e.toNat + 1) (by omega) (k := 8192);have hXP2 := chi_lt_psi s5 (e.toNat + 1);rw [hY] at hYX hY0 hXP;rw [hX] at hYX hX0 hXP2;rw [hL] at hall hr1
 generalize pw b e = w at *
 obtain ⟨c, A, Y, X, M, z, y⟩ := w
 simp only at *
 have lb := s1.lenI;have lc := s2.lenI;have lA := s4.lenI;have l1 : lenI 1 ≤ 1 := lenI_small (by decide);have l2 : lenI 2 ≤ 1 := lenI_small (by decide)
 have fb2 : Fit (b + 2) := by
  refine Fit.mk ?_;have a1 := (lenI_nonneg (x := b) (by omega)).1 hbl;have a2 := BB_le (show 41 ≤ 4096 by omega);have a3 := BB_succ 40;have a4 := BB_pos 40;rw [show (41 : Nat) = 40 + 1 from rfl] at a2;omega
 have lb2 := fb2.lenI;have e1 := rAdd_ok b 2 (show lenI b ≤ _ by omega) (show lenI 2 ≤ _ by omega)
 have lA2 : lenI (psiN (b + 2) (e.toNat + 2)) ≤ 8192 := by rw [hA]; omega
 have e2 := rPair_ok (b + 2) (e.toNat + 2) fb2 (by omega) (by omega) _ (fun _ => rfl) (fun k => absurd lA2 k);rw [hA] at e2;obtain ⟨x0, hx0⟩ : ∃ x, x = chiN (b + 2) (e.toNat + 2) := ⟨_, rfl⟩;rw [← hx0] at e2;have cf := rFits_ok A;rw [decide_eq_true s4] at cf
 have en : (((e.toNat + 2 : Nat)) : Int) = e + 2 := by omega
 have en1 : (((e.toNat + 1 : Nat)) : Int) = e + 1 := by omega
 rw [en] at e2;clear hA lA2 hx0;refine AWP.seqS ?_;(repeat' (first |refine qv ?_ |apply qn |apply qr |refine qe ?_|fail));refine ⟨AWP.seqS ?_⟩;(repeat' (first |refine qv ?_ |apply qn |apply qs |apply qr |(refine AWP.condD rfl ?_ ?_ <;> intro _ <;> try (exfalso; omega)) |apply qk));refine ⟨AWP.seqS ?_⟩;(repeat' (first |refine qv ?_ |apply qr));refine qc (rOf_ok 2 (by omega) (by omega)) ?_;skip;refine qc (e1) ?_;(repeat' (first |refine qv ?_ |refine qw ?_|fail));refine qc (e2) ?_;(repeat' (first |refine qv ?_ |refine Fl.nil (fun _ => by kernel_rfl) ?_ |refine qe ?_|fail));refine ⟨AWP.seqS ?_⟩;(repeat' (first |refine qv ?_ |apply qs |apply qr));refine qc (cf) ?_;(repeat' (first |refine qv ?_ |apply qn |refine AWP.condF rfl ?_ |apply qk));by_cases hY8 : lenI Y ≤ 8192
 ·have e3 := rPair_ok A (e.toNat + 1) s4 s5 (by omega) _ (fun _ => rfl) (fun k => absurd (by rw [hY]; exact hY8) k);rw [hY, hX, en1] at e3;have bX : X < BB 12289 := Int.lt_of_le_of_lt hXP2 (hXP ((lenI_nonneg hY0).1 hY8));have lX : lenI X ≤ 12289 := (lenI_nonneg (by omega)).2 bX
  have e4 : PureFn Tryz.prog 36 [aX b, aN e] (.tup [aX c, aB true]) := by
   rcases (show b = 1 ∨ 2 ≤ b by omega) with h1 | h1
   ·subst h1;have := rPower1_ok e he;rw [← hc, Int.one_pow];exact this
   ·have hbb : bitl b.natAbs ≤ 1280 := bitl_BB (n := 40) (by
     have := (lenI_nonneg (x := b) (by omega)).1 hbl
     omega)
    have hb1 := (bitl_ge (n := b.natAbs) (by omega)).1
    have := rPower_ok b e h1 s1 he (by omega) (bitl b.natAbs : Int) rfl (by
     have h2 : e * ((bitl b.natAbs : Int) - 1) ≤ 60 * ((bitl b.natAbs : Int) - 1) := Int.mul_le_mul_of_nonneg_right he2 (by omega)
     omega)
    rwa [hc] at this
  have m1 := lenI_mul 2 A;have m2 := lenI_mul (2 * A) b;have m3 := lenI_mul b b;have m4 := lenI_mul c b;have e5 := rMul_ok 2 A (show lenI _ ≤ _ by omega) (show lenI _ ≤ _ by omega);have e6 := rMul_ok (2 * A) b (show lenI _ ≤ _ by omega) (show lenI _ ≤ _ by omega);have e7 := rMul_ok b b (show lenI _ ≤ _ by omega) (show lenI _ ≤ _ by omega);have s9 := lenI_add (x := 2 * A * b) (y := -(b * b)) (M := 10000) (by omega) (by rw [lenI_neg]; omega);rw [← Int.sub_eq_add_neg] at s9;have e8 := rSub_ok (2 * A * b) (b * b) (by omega) (by omega);have e9 := rSub_ok (2 * A * b - b * b) 1 (by omega) (by omega);rw [hM] at e9;have e10 := rMul_ok c b (show lenI _ ≤ _ by omega) (show lenI _ ≤ _ by omega);have e11 := rSub_ok A b (by omega) (by omega);have s10 := lenI_add (x := A) (y := -b) (M := 4096) (by omega) (by rw [lenI_neg]; omega);rw [← Int.sub_eq_add_neg] at s10;have m5 := lenI_mul (A - b) Y;have e12 := rMul_ok (A - b) Y (show lenI _ ≤ _ by omega) (show lenI _ ≤ _ by omega);have e13 := rSub_ok X ((A - b) * Y) (by omega) (by omega);have s11 := lenI_add (x := X) (y := -((A - b) * Y)) (M := 13000) (by omega) (by rw [lenI_neg]; omega);rw [← Int.sub_eq_add_neg] at s11;have e14 := rSub_ok (X - (A - b) * Y) (c * b) (by omega) (by omega);have s12 := lenI_add (x := X - (A - b) * Y) (y := -(c * b)) (M := 13001) (by omega) (by rw [lenI_neg]; omega);rw [← Int.sub_eq_add_neg] at s12;have e15 := rDiv_ok (X - (A - b) * Y - c * b) M (by omega) (by omega) (by omega);rw [hz] at e15;have e16 := rSub_ok M (c * b) (by omega) (by omega);have s13 := lenI_add (x := M) (y := -(c * b)) (M := 13001) (by omega) (by rw [lenI_neg]; omega);rw [← Int.sub_eq_add_neg] at s13;have e17 := rSub_ok (M - c * b) 1 (by omega) (by omega);rw [hy] at e17;have e18 := rSub_ok b 1 (by omega) (by omega);clear hc hY hX hM hz hy hL;refine ⟨AWP.seqS ?_⟩;(repeat' (first |refine qv ?_ |apply qr |refine qw ?_|fail));refine qc (e3) ?_;(repeat' (first |refine qv ?_ |apply qn |refine qe ?_|fail));refine ⟨AWP.seqS ?_⟩;(repeat' (first |refine qv ?_ |apply qn |apply qs |apply qr |refine AWP.condF rfl ?_ |apply qk));refine ⟨AWP.seqS ?_⟩;(repeat' (first |refine qv ?_ |apply qr));refine qc (e4) ?_;(repeat' (first |refine qv ?_ |apply qn |refine qe ?_|fail));refine ⟨AWP.seqS ?_⟩;(repeat' (first |refine qv ?_ |apply qn |apply qs |apply qr |refine AWP.condF rfl ?_ |apply qk));refine ⟨AWP.seqS ?_⟩;(repeat' (first |apply qr));refine qc (rOf_ok 2 (by omega) (by omega)) ?_;(repeat' (first |refine qv ?_|fail));refine qc (e5) ?_;(repeat' (first |refine qv ?_|fail));refine qc (e6) ?_;(repeat' (first |refine qv ?_|fail));refine qc (e7) ?_;skip;refine qc (e8) ?_;skip;refine qc (rOf_ok 1 (by omega) (by omega)) ?_;skip;refine qc (e9) ?_;(repeat' (first |refine Fl.nil (fun _ => by kernel_rfl) ?_ |refine qe ?_|fail));refine ⟨AWP.seqS ?_⟩;(repeat' (first |refine qv ?_ |apply qr));refine qc (e10) ?_;(repeat' (first |apply qn |refine qe ?_|fail));refine ⟨AWP.seqS ?_⟩;(repeat' (first |refine qv ?_ |apply qr));refine qc (e11) ?_;(repeat' (first |refine qv ?_|fail));refine qc (e12) ?_;skip;refine qc (e13) ?_;(repeat' (first |refine qv ?_|fail));refine qc (e14) ?_;(repeat' (first |refine qv ?_|fail));refine qc (e15) ?_;(repeat' (first |refine qv ?_ |refine Fl.nil (fun _ => by kernel_rfl) ?_ |refine qe ?_|fail));refine ⟨?_⟩;obtain ⟨L, hL⟩ : ∃ L, L = [b, e, c, A, Y, X, M, z, y, b - 1] := ⟨_, rfl⟩
  have hLl : L.length = 10 := by rw [hL]; rfl
  have hL5 : L[5]? = some X := by rw [hL]; rfl
  rw [← hL] at hall hr1;refine AWP.seqJ (G := Unit) (fun _ => True) (fun _ => St.of [] [(16, .sl 2 eX L)] []) ?_ ?_
  ·(repeat' (first |refine qv ?_ |apply qr));refine qc (rOf_ok e (by omega) (by omega)) ?_;(repeat' (first |refine qv ?_|fail));refine qc (e16) ?_;skip;refine qc (rOf_ok 1 (by omega) (by omega)) ?_;skip;refine qc (e17) ?_;(repeat' (first |refine qv ?_|fail));refine qc (rOf_ok 1 (by omega) (by omega)) ?_;skip;refine qc (e18) ?_;skip;refine ql eX [b, e, c, A, Y, X, M, z, y, b - 1] ?_;(repeat' (first |refine qv ?_ |refine Fl.nil (fun _ => by kernel_rfl) ?_|fail));refine JoinOk.of () trivial ?_;refine Ent.of [] ?_ ?_ rfl rfl;(repeat' (first |exact True.intro |refine ⟨⟨AV.Le.sl ?_, rfl⟩, ?_⟩|fail));exact hL.symm
  intro _ _;(repeat' (first |refine qv ?_ |apply qn |apply qs |apply qr |apply qb));refine AWP.loop (G := Nat) (fun i => i ≤ 10 ∧ (5 < i → Fit X)) (fun i => St.of [] [(16, .sl 2 eX L), (17, aN i)] []) (fun i => 10 - i) 0 ⟨by omega, by omega⟩ ?_ ?_
  ·refine Ent.of [] ?_ ?_ rfl rfl;(repeat' (first |exact True.intro |refine ⟨⟨AV.Le.refl _, rfl⟩, ?_⟩|fail))
  ·intro i ⟨hi, hf⟩;(repeat' (first |refine qv ?_ |apply qn |apply qs |apply qr |(refine AWP.condD rfl ?_ ?_ <;> intro _ <;> try (exfalso; omega)) |apply qb |apply qk |apply qx |apply qt |(refine Fl.el rfl rfl rfl rfl rfl rfl rfl rfl (by omega) (by omega) ?_; intro _ _)|fail))
   ·rename_i hi2 x hx;rw [Int.toNat_natCast] at hx;have hfx := rFits_ok x;by_cases hxf : Fit x
    ·rw [decide_eq_true hxf] at hfx;refine qc (hfx) ?_;(repeat' (first |refine qv ?_ |apply qn |apply qr |refine qw ?_ |refine AWP.condF rfl ?_ |apply qk));refine LoopEnd.of (i + 1) ⟨by omega, fun h5 => ?_⟩ (by omega) ?_
     ·rcases (show i = 5 ∨ 5 < i by omega) with h | h
      ·subst h;rw [hL5] at hx;injection hx with hx;rwa [hx]
      ·exact hf h
     ·refine Ent.of [] ?_ ?_ rfl rfl;(repeat' (first |exact True.intro |refine ⟨⟨AV.Le.refl _, rfl⟩, ?_⟩|fail))
    ·rw [decide_eq_false hxf] at hfx;have hXn : ¬ Fit X := fun k => hxf (hall k x (List.mem_of_getElem? hx));refine qc (hfx) ?_;(repeat' (first |refine qv ?_ |apply qn |apply qs |apply qr |refine AWP.condT rfl ?_ |apply qt));rw [hr2 hXn];exact RetOk.of rfl (AV.Le.refl _)
   ·rw [hr1 (hf (by omega))];exact RetOk.of rfl (AV.Le.refl _)
 ·have e3 := rPair_ok A (e.toNat + 1) s4 s5 (by omega) _ (fun k => absurd k (by rw [hY]; exact hY8)) (fun _ => rfl);rw [en1] at e3
  have hXn : ¬ Fit X := fun k => hY8 (by
   have := (fit_of k hY0 hYX).lenI
   omega)
  rw [hr2 hXn];refine ⟨AWP.seqS ?_⟩;(repeat' (first |refine qv ?_ |apply qr |refine qw ?_|fail));refine qc (e3) ?_;(repeat' (first |refine qv ?_ |apply qn |refine qe ?_|fail));refine ⟨AWP.seqS ?_⟩;(repeat' (first |refine qv ?_ |apply qn |apply qs |apply qr |refine AWP.condT rfl ?_ |apply qt));exact RetOk.of rfl (AV.Le.refl _)
end Go.Proofs.YtcaecieigoplbaaGreat
/- The reference's links of masking. -/
namespace Go.Proofs.YtcaecieigoplbaaGreat
open Go.AL
end Go.Proofs.YtcaecieigoplbaaGreat
/- ref01: Under, Small; mask.Witness where there is none. -/
namespace Go.AL
end Go.AL
namespace Go.Proofs.YtcaecieigoplbaaGreat
open Go.AL

end Go.Proofs.YtcaecieigoplbaaGreat
/- The reference's numbers of masking. -/
namespace Go.AL
end Go.AL
namespace Go.Proofs.YtcaecieigoplbaaGreat
open Go.AL

end Go.Proofs.YtcaecieigoplbaaGreat
/- Binomial coefficients: plain. -/
namespace Go.AL
end Go.AL
/- Digits of binomial coefficients under digits: plain. -/
namespace Go.AL
end Go.AL
/- MaskOnly, MaskFound. -/
namespace Go.AL
end Go.AL
namespace Go.Proofs.YtcaecieigoplbaaGreat
open Go.AL
end Go.Proofs.YtcaecieigoplbaaGreat
namespace Go.Proofs.YtcaecieigoplbaaGreat
open Go.AL

end Go.Proofs.YtcaecieigoplbaaGreat
namespace Go.AL
def TB (t : TZ) : Prop := ZB t.c
def PB (p : PZ) : Prop := (∀ t ∈ p.terms, TB t) ∧ p.terms.length ≤ maxLen
def LB (l : LZ) : Prop := (∀ p ∈ l.polys, PB p) ∧ l.polys.length ≤ maxLen
def SB (s : SZ) : Prop := ∀ l ∈ s.links, LB l
theorem SB.ws {s : SZ} (h : SB s) : WS s := fun l hl p hp t ht => (((h l hl).1 p hp).1 t ht).1
end Go.AL
namespace Go.Proofs.YtcaecieigoplbaaGreat
open Go.AL Go.ChangeShapes Go.WideShapes Go.ChangeAt Go.RowKit

section
variable {H : Type} {enc : TypeId × Value → H} {w : World} {base : Nat} {spare : Nat → Bool} {held : Bool}
end
end Go.Proofs.YtcaecieigoplbaaGreat
namespace Go.AL
theorem get_eq {α : Type} {a b : List α} (hl : a.length = b.length) (h : ∀ (i : Nat) (x y : α), i < a.length → a[i]? = some x → b[i]? = some y → x = y) : a = b := by
 refine List.ext_getElem? fun i => ?_;by_cases hi : i < a.length
 ·rw [List.getElem?_eq_getElem hi, List.getElem?_eq_getElem (by omega)];exact congrArg some (h i _ _ hi (List.getElem?_eq_getElem hi) (List.getElem?_eq_getElem (by omega)))
 ·rw [List.getElem?_eq_none (by omega), List.getElem?_eq_none (by omega)]
theorem t_eq {x y : TZ} (h1 : x.c = y.c) (h2 : x.e = y.e) : x = y := by cases x; cases y; simp_all
theorem p_eq {x y : PZ} (h1 : x.vars = y.vars) (h2 : x.terms = y.terms) : x = y := by cases x; cases y; simp_all
theorem l_eq {x y : LZ} (h1 : x.kind = y.kind) (h2 : x.vars = y.vars) (h3 : x.polys = y.polys) : x = y := by cases x; cases y; simp_all
theorem s_eq {x y : SZ} (h1 : x.vars = y.vars) (h2 : x.links = y.links) : x = y := by cases x; cases y; simp_all
def SmZ (z : Z) : Prop := WOk z.w ∧ z.w.length ≤ 1000000
def SmT (t : TZ) : Prop := SmZ t.c ∧ t.e.length ≤ 1000000
def SmP (p : PZ) : Prop := p.terms.length ≤ 1000000 ∧ ∀ t ∈ p.terms, SmT t
def SmL (l : LZ) : Prop := l.vars.length ≤ 1000000 ∧ l.polys.length ≤ 1000000 ∧ ∀ p ∈ l.polys, SmP p
def SmS (s : SZ) : Prop := s.links.length ≤ 1000000 ∧ ∀ l ∈ s.links, SmL l
end Go.AL
namespace Go.Proofs.YtcaecieigoplbaaGreat
open Go.AL

theorem rSameZ_ok (x y : Z) (hx : SmZ x) (hy : WOk y.w) (b : Bool) (hb : b = true ↔ x = y) : PureFn Tryz.prog 27 [aZ x, aZ y] (aB b) := by
 refine PureFn.of_body Tryz.func27 rfl Tryz.ntmps27 rfl rfl ?_;obtain ⟨n, w⟩ := x;obtain ⟨m, v⟩ := y;have hsw := sameWords_ok w v hx.2 hx.1 hy
 have hbb : b = (decide (n = m) && decide (w = v)) := by
  rw [Bool.eq_iff_iff, hb]; simp
 (repeat' (first |refine qv ?_ |apply qn |apply qs |apply qr |refine qe ?_ |refine Fl.skip rfl rfl ?_ |apply qt |(refine Fl.splitD rfl rfl ?_ ?_ <;> intro _ <;> try (exfalso; omega))))
 ·rename_i h;have h : n = m := h;refine qc (hsw) ?_;(repeat' (first |refine qv ?_ |apply qn |apply qt));exact RetOk.of rfl (AV.Le.bool (by rw [hbb, decide_eq_true h, Bool.true_and]))
 ·rename_i h;have h : ¬ n = m := h;exact RetOk.of rfl (AV.Le.bool (by rw [hbb, decide_eq_false h, Bool.false_and]))
theorem rSameE_ok (a b : List Int) (ha : a.length ≤ 1000000) : PureFn Tryz.prog 127 [aI a, aI b] (aB (decide (a = b))) := by
 refine PureFn.of_body Tryz.func127 rfl Tryz.ntmps127 rfl rfl ?_;by_cases hl : a.length = b.length
 ·(repeat' (first |refine qv ?_ |apply qn |apply qs |apply qr |(refine AWP.condN rfl ?_ ?_ <;> intro _ <;> try (exfalso; omega)) |apply qb |apply qk));refine AWP.loop (G := Nat) (fun i => i ≤ a.length ∧ ∀ (j : Nat) (x y : Int), j < i → a[j]? = some x → b[j]? = some y → x = y) (fun i => St.of [] [(0, aI a), (1, aI b), (5, aN i)] []) (fun i => a.length - i) 0 ⟨by omega, fun j x y h => by omega⟩ ?_ ?_
  ·refine Ent.of [] ?_ ?_ rfl rfl;(repeat' (first |exact True.intro |refine ⟨⟨AV.Le.refl _, rfl⟩, ?_⟩|fail))
  ·intro i ⟨k0, k1⟩;by_cases hi : i < a.length
   ·obtain ⟨x, hx⟩ : ∃ x, a[i]? = some x := ⟨_, List.getElem?_eq_getElem hi⟩;obtain ⟨y, hy⟩ : ∃ y, b[i]? = some y := ⟨_, List.getElem?_eq_getElem (by omega)⟩;(repeat' (first |refine qv ?_ |apply qn |refine Fl.nil (fun _ => by kernel_rfl) ?_ |apply qs |apply qr |refine qw ?_ |(refine AWP.condD rfl ?_ ?_ <;> intro _ <;> try (exfalso; omega)) |(refine AWP.condN rfl ?_ ?_ <;> intro _ <;> try (exfalso; omega)) |apply qb |apply qk |apply qt |refine qK ?_|fail))
    ·rename_i h;refine RetOk.of rfl (AV.Le.bool (Eq.symm (decide_eq_false fun e => h ?_)));subst e; rw [hx] at hy; injection hy
    ·rename_i h;refine LoopEnd.of (i + 1) ⟨by omega, fun j u v hj hu hv => ?_⟩ (by omega) ?_
     ·by_cases hji : j < i
      ·exact k1 j u v hji hu hv
      ·have : j = i := by omega
       subst this;rw [hx] at hu; rw [hy] at hv; cases hu; cases hv; exact h
     ·refine Ent.of [] ?_ ?_ rfl rfl;(repeat' (first |exact True.intro |refine ⟨⟨AV.Le.refl _, rfl⟩, ?_⟩|fail))
   ·(repeat' (first |refine qv ?_ |apply qn |apply qs |apply qr |(refine AWP.condD rfl ?_ ?_ <;> intro _ <;> try (exfalso; omega)) |apply qx |apply qt));exact RetOk.of rfl (AV.Le.bool (Eq.symm (decide_eq_true (get_eq hl fun j x y hj => k1 j x y (by omega)))))
 ·(repeat' (first |refine qv ?_ |apply qn |apply qs |apply qr |(refine AWP.condN rfl ?_ ?_ <;> intro _ <;> try (exfalso; omega)) |apply qt));exact RetOk.of rfl (AV.Le.bool (Eq.symm (decide_eq_false fun e => hl (by rw [e]))))
theorem rSameP_ok (p q : PZ) (hp : SmP p) (hq : WP q) (b : Bool) (hb : b = true ↔ p = q) : PureFn Tryz.prog 54 [aP p, aP q] (aB b) := by
 refine PureFn.of_body Tryz.func54 rfl Tryz.ntmps54 rfl rfl ?_
 have hfalse : ¬ p = q → false = b := fun h => by cases b with | false => rfl | true => exact absurd (hb.1 rfl) h
 have hpl := hp.1;by_cases hv : p.vars = q.vars
 ·by_cases hl : p.terms.length = q.terms.length
  ·(repeat' (first |refine qv ?_ |apply qn |apply qs |apply qr |refine qe ?_ |(refine AWP.condN rfl ?_ ?_ <;> intro _ <;> try (exfalso; omega)) |apply qb |apply qk |(refine Fl.splitN rfl rfl ?_ ?_ <;> intro _ <;> try (exfalso; omega))));refine AWP.loop (G := Nat) (fun i => i ≤ p.terms.length ∧ ∀ (j : Nat) (x y : TZ), j < i → p.terms[j]? = some x → q.terms[j]? = some y → x = y) (fun i => St.of [] [(2, .ptr 2 0), (3, .ptr 3 0), (5, aN i)] [(2, .cells [aN p.vars, .sl 3 eT p.terms] 70), (3, .cells [aN q.vars, .sl 3 eT q.terms] 70)]) (fun i => p.terms.length - i) 0 ⟨by omega, fun j x y h => by omega⟩ ?_ ?_
   ·refine Ent.of [] ?_ ?_ rfl rfl;(repeat' (first |exact True.intro |refine ⟨⟨AV.Le.refl _, rfl⟩, ?_⟩ |refine ⟨⟨⟨_, rfl, BLe.cells (LeL.refl _)⟩, rfl⟩, ?_⟩|fail))
   ·intro i ⟨k0, k1⟩;by_cases hi : i < p.terms.length
    ·obtain ⟨x, hx⟩ : ∃ x, p.terms[i]? = some x := ⟨_, List.getElem?_eq_getElem hi⟩;obtain ⟨y, hy⟩ : ∃ y, q.terms[i]? = some y := ⟨_, List.getElem?_eq_getElem (by omega)⟩;have hxm := hp.2 x (List.mem_of_getElem? hx);have hym := hq y (List.mem_of_getElem? hy);have hbad : ¬ x = y → false = b := fun h => hfalse fun e => h (by subst e; rw [hx] at hy; injection hy);obtain ⟨f, hf⟩ := boolOf (fun u : Z × Z => u.1 = u.2);have hz := rSameZ_ok x.c y.c hxm.1 hym (f (x.c, y.c)) (hf _);have he := rSameE_ok x.e y.e hxm.2;by_cases hc : x.c = y.c
     ·rw [(hf (x.c, y.c)).2 hc] at hz;by_cases hee : x.e = y.e
      ·rw [decide_eq_true hee] at he;(repeat' (first |refine qv ?_ |apply qn |apply qs |apply qr |(refine AWP.condD rfl ?_ ?_ <;> intro _ <;> try (exfalso; omega)) |apply qb |apply qk |refine qK ?_|fail));refine qc (hz) ?_;(repeat' (first |refine qv ?_ |refine qK ?_|fail));refine qc (he) ?_;(repeat' (first |refine qv ?_ |apply qn |refine Fl.nil (fun _ => by kernel_rfl) ?_ |apply qr |refine qw ?_ |refine AWP.condF rfl ?_ |apply qk));refine LoopEnd.of (i + 1) ⟨by omega, fun j u v hj hu hv => ?_⟩ (by omega) ?_
       ·by_cases hji : j < i
        ·exact k1 j u v hji hu hv
        ·have : j = i := by omega
         subst this;rw [hx] at hu; rw [hy] at hv; cases hu; cases hv; exact t_eq hc hee
       ·refine Ent.of [] ?_ ?_ rfl rfl;(repeat' (first |exact True.intro |refine ⟨⟨AV.Le.refl _, rfl⟩, ?_⟩ |refine ⟨⟨⟨_, rfl, BLe.cells (LeL.refl _)⟩, rfl⟩, ?_⟩|fail))
      ·rw [decide_eq_false hee] at he;(repeat' (first |refine qv ?_ |apply qn |apply qs |apply qr |(refine AWP.condD rfl ?_ ?_ <;> intro _ <;> try (exfalso; omega)) |apply qb |apply qk |refine qK ?_|fail));refine qc (hz) ?_;(repeat' (first |refine qv ?_ |refine qK ?_|fail));refine qc (he) ?_;(repeat' (first |refine qv ?_ |apply qn |refine Fl.nil (fun _ => by kernel_rfl) ?_ |apply qs |apply qr |refine AWP.condT rfl ?_ |apply qt));exact RetOk.of rfl (AV.Le.bool (hbad fun e => hee (by rw [e])))
     ·rw [show f (x.c, y.c) = false from Bool.eq_false_iff.2 fun h => hc ((hf _).1 h)] at hz;(repeat' (first |refine qv ?_ |apply qn |apply qs |apply qr |(refine AWP.condD rfl ?_ ?_ <;> intro _ <;> try (exfalso; omega)) |apply qb |apply qk |refine qK ?_|fail));refine qc (hz) ?_;(repeat' (first |refine qv ?_ |apply qn |refine Fl.nil (fun _ => by kernel_rfl) ?_ |apply qs |apply qr |refine Fl.skip rfl rfl ?_ |refine AWP.condT rfl ?_ |apply qt));exact RetOk.of rfl (AV.Le.bool (hbad fun e => hc (by rw [e])))
    ·(repeat' (first |refine qv ?_ |apply qn |apply qs |apply qr |(refine AWP.condD rfl ?_ ?_ <;> intro _ <;> try (exfalso; omega)) |apply qx |apply qt));exact RetOk.of rfl (AV.Le.bool (Eq.symm (hb.2 (p_eq hv (get_eq hl fun j x y hj => k1 j x y (by omega))))))
  ·(repeat' (first |refine qv ?_ |apply qn |apply qs |apply qr |refine qe ?_ |(refine AWP.condN rfl ?_ ?_ <;> intro _ <;> try (exfalso; omega)) |apply qt |(refine Fl.splitN rfl rfl ?_ ?_ <;> intro _ <;> try (exfalso; omega))));exact RetOk.of rfl (AV.Le.bool (hfalse fun e => hl (by rw [e])))
 ·(repeat' (first |refine qv ?_ |apply qn |apply qs |apply qr |refine qe ?_ |refine Fl.skip rfl rfl ?_ |refine AWP.condT rfl ?_ |apply qt |(refine Fl.splitN rfl rfl ?_ ?_ <;> intro _ <;> try (exfalso; omega))));exact RetOk.of rfl (AV.Le.bool (hfalse fun e => hv (by rw [e])))
theorem rSameL_ok (p q : LZ) (hp : SmL p) (hq : WL q) (b : Bool) (hb : b = true ↔ p = q) : PureFn Tryz.prog 62 [aL p, aL q] (aB b) := by
 refine PureFn.of_body Tryz.func62 rfl Tryz.ntmps62 rfl rfl ?_
 have hfalse : ¬ p = q → false = b := fun h => by cases b with | false => rfl | true => exact absurd (hb.1 rfl) h
 obtain ⟨g1, g2, g3⟩ := hp;have he := rSameE_ok p.vars q.vars g1;by_cases hk : p.kind = q.kind
 ·by_cases hv : p.vars = q.vars
  ·rw [decide_eq_true hv] at he;by_cases hl : p.polys.length = q.polys.length
   ·(repeat' (first |refine qv ?_ |apply qn |apply qs |apply qr |refine qe ?_ |(refine Fl.splitN rfl rfl ?_ ?_ <;> intro _ <;> try (exfalso; omega))));refine qc (he) ?_;(repeat' (first |refine qv ?_ |apply qn |apply qs |apply qr |(refine AWP.condN rfl ?_ ?_ <;> intro _ <;> try (exfalso; omega)) |apply qb |apply qk));refine AWP.loop (G := Nat) (fun i => i ≤ p.polys.length ∧ ∀ (j : Nat) (x y : PZ), j < i → p.polys[j]? = some x → q.polys[j]? = some y → x = y) (fun i => St.of [] [(2, .ptr 2 0), (3, .ptr 3 0), (5, aN i)] [(2, .cells (eL p) 82), (3, .cells (eL q) 82)]) (fun i => p.polys.length - i) 0 ⟨by omega, fun j x y h => by omega⟩ ?_ ?_
    ·refine Ent.of [] ?_ ?_ rfl rfl;(repeat' (first |exact True.intro |refine ⟨⟨AV.Le.refl _, rfl⟩, ?_⟩ |refine ⟨⟨⟨_, rfl, BLe.cells (LeL.refl _)⟩, rfl⟩, ?_⟩|fail))
    ·intro i ⟨k0, k1⟩;by_cases hi : i < p.polys.length
     ·obtain ⟨x, hx⟩ : ∃ x, p.polys[i]? = some x := ⟨_, List.getElem?_eq_getElem hi⟩;obtain ⟨y, hy⟩ : ∃ y, q.polys[i]? = some y := ⟨_, List.getElem?_eq_getElem (by omega)⟩;have hxm := g3 x (List.mem_of_getElem? hx);have hym := hq y (List.mem_of_getElem? hy);obtain ⟨f, hf⟩ := boolOf (fun u : PZ × PZ => u.1 = u.2);have hz := rSameP_ok x y hxm hym (f (x, y)) (hf _);by_cases hc : x = y
      ·rw [(hf (x, y)).2 hc] at hz;(repeat' (first |refine qv ?_ |apply qn |apply qs |apply qr |(refine AWP.condD rfl ?_ ?_ <;> intro _ <;> try (exfalso; omega)) |apply qb |apply qk |refine qK ?_|fail));refine qc (hz) ?_;(repeat' (first |refine qv ?_ |apply qn |refine Fl.nil (fun _ => by kernel_rfl) ?_ |apply qr |refine qw ?_ |refine AWP.condF rfl ?_ |apply qk));refine LoopEnd.of (i + 1) ⟨by omega, fun j u v hj hu hv => ?_⟩ (by omega) ?_
       ·by_cases hji : j < i
        ·exact k1 j u v hji hu hv
        ·have : j = i := by omega
         subst this;rw [hx] at hu; rw [hy] at hv; cases hu; cases hv; exact hc
       ·refine Ent.of [] ?_ ?_ rfl rfl;(repeat' (first |exact True.intro |refine ⟨⟨AV.Le.refl _, rfl⟩, ?_⟩ |refine ⟨⟨⟨_, rfl, BLe.cells (LeL.refl _)⟩, rfl⟩, ?_⟩|fail))
      ·rw [show f (x, y) = false from Bool.eq_false_iff.2 fun h => hc ((hf _).1 h)] at hz;(repeat' (first |refine qv ?_ |apply qn |apply qs |apply qr |(refine AWP.condD rfl ?_ ?_ <;> intro _ <;> try (exfalso; omega)) |apply qb |apply qk |refine qK ?_|fail));refine qc (hz) ?_;(repeat' (first |refine qv ?_ |apply qn |refine Fl.nil (fun _ => by kernel_rfl) ?_ |apply qs |apply qr |refine AWP.condT rfl ?_ |apply qt));exact RetOk.of rfl (AV.Le.bool (hfalse fun e => hc (by subst e; rw [hx] at hy; injection hy)))
     ·(repeat' (first |refine qv ?_ |apply qn |apply qs |apply qr |(refine AWP.condD rfl ?_ ?_ <;> intro _ <;> try (exfalso; omega)) |apply qx |apply qt));exact RetOk.of rfl (AV.Le.bool (Eq.symm (hb.2 (l_eq hk hv (get_eq hl fun j x y hj => k1 j x y (by omega))))))
   ·(repeat' (first |refine qv ?_ |apply qn |apply qs |apply qr |refine qe ?_ |(refine Fl.splitN rfl rfl ?_ ?_ <;> intro _ <;> try (exfalso; omega))));refine qc (he) ?_;(repeat' (first |refine qv ?_ |apply qn |apply qs |apply qr |(refine AWP.condN rfl ?_ ?_ <;> intro _ <;> try (exfalso; omega)) |apply qt));exact RetOk.of rfl (AV.Le.bool (hfalse fun e => hl (by rw [e])))
  ·rw [decide_eq_false hv] at he;(repeat' (first |refine qv ?_ |apply qn |apply qs |apply qr |refine qe ?_ |(refine Fl.splitN rfl rfl ?_ ?_ <;> intro _ <;> try (exfalso; omega))));refine qc (he) ?_;(repeat' (first |refine qv ?_ |apply qn |apply qs |apply qr |refine Fl.skip rfl rfl ?_ |refine AWP.condT rfl ?_ |apply qt));exact RetOk.of rfl (AV.Le.bool (hfalse fun e => hv (by rw [e])))
 ·(repeat' (first |refine qv ?_ |apply qn |apply qs |apply qr |refine qe ?_ |refine Fl.skip rfl rfl ?_ |refine AWP.condT rfl ?_ |apply qt |(refine Fl.splitN rfl rfl ?_ ?_ <;> intro _ <;> try (exfalso; omega))));exact RetOk.of rfl (AV.Le.bool (hfalse fun e => hk (by rw [e])))
theorem rSameS_ok (p q : SZ) (hp : SmS p) (hq : WS q) (b : Bool) (hb : b = true ↔ p = q) : PureFn Tryz.prog 15 [aS p, aS q] (aB b) := by
 refine PureFn.of_body Tryz.func15 rfl Tryz.ntmps15 rfl rfl ?_
 have hfalse : ¬ p = q → false = b := fun h => by cases b with | false => rfl | true => exact absurd (hb.1 rfl) h
 have hpl := hp.1;by_cases hv : p.vars = q.vars
 ·by_cases hl : p.links.length = q.links.length
  ·(repeat' (first |refine qv ?_ |apply qn |apply qs |apply qr |refine qe ?_ |(refine AWP.condN rfl ?_ ?_ <;> intro _ <;> try (exfalso; omega)) |apply qb |apply qk |(refine Fl.splitN rfl rfl ?_ ?_ <;> intro _ <;> try (exfalso; omega))));refine AWP.loop (G := Nat) (fun i => i ≤ p.links.length ∧ ∀ (j : Nat) (x y : LZ), j < i → p.links[j]? = some x → q.links[j]? = some y → x = y) (fun i => St.of [] [(2, .ptr 2 0), (3, .ptr 3 0), (5, aN i)] [(2, .cells [aN p.vars, .sl 3 eL p.links] 25), (3, .cells [aN q.vars, .sl 3 eL q.links] 25)]) (fun i => p.links.length - i) 0 ⟨by omega, fun j x y h => by omega⟩ ?_ ?_
   ·refine Ent.of [] ?_ ?_ rfl rfl;(repeat' (first |exact True.intro |refine ⟨⟨AV.Le.refl _, rfl⟩, ?_⟩ |refine ⟨⟨⟨_, rfl, BLe.cells (LeL.refl _)⟩, rfl⟩, ?_⟩|fail))
   ·intro i ⟨k0, k1⟩;by_cases hi : i < p.links.length
    ·obtain ⟨x, hx⟩ : ∃ x, p.links[i]? = some x := ⟨_, List.getElem?_eq_getElem hi⟩;obtain ⟨y, hy⟩ : ∃ y, q.links[i]? = some y := ⟨_, List.getElem?_eq_getElem (by omega)⟩;have hxm := hp.2 x (List.mem_of_getElem? hx);have hym := hq y (List.mem_of_getElem? hy);obtain ⟨f, hf⟩ := boolOf (fun u : LZ × LZ => u.1 = u.2);have hz := rSameL_ok x y hxm hym (f (x, y)) (hf _);by_cases hc : x = y
     ·rw [(hf (x, y)).2 hc] at hz;(repeat' (first |refine qv ?_ |apply qn |apply qs |apply qr |(refine AWP.condD rfl ?_ ?_ <;> intro _ <;> try (exfalso; omega)) |apply qb |apply qk |refine qK ?_|fail));refine qc (hz) ?_;(repeat' (first |refine qv ?_ |apply qn |refine Fl.nil (fun _ => by kernel_rfl) ?_ |apply qr |refine qw ?_ |refine AWP.condF rfl ?_ |apply qk));refine LoopEnd.of (i + 1) ⟨by omega, fun j u v hj hu hv => ?_⟩ (by omega) ?_
      ·by_cases hji : j < i
       ·exact k1 j u v hji hu hv
       ·have : j = i := by omega
        subst this;rw [hx] at hu; rw [hy] at hv; cases hu; cases hv; exact hc
      ·refine Ent.of [] ?_ ?_ rfl rfl;(repeat' (first |exact True.intro |refine ⟨⟨AV.Le.refl _, rfl⟩, ?_⟩ |refine ⟨⟨⟨_, rfl, BLe.cells (LeL.refl _)⟩, rfl⟩, ?_⟩|fail))
     ·rw [show f (x, y) = false from Bool.eq_false_iff.2 fun h => hc ((hf _).1 h)] at hz;(repeat' (first |refine qv ?_ |apply qn |apply qs |apply qr |(refine AWP.condD rfl ?_ ?_ <;> intro _ <;> try (exfalso; omega)) |apply qb |apply qk |refine qK ?_|fail));refine qc (hz) ?_;(repeat' (first |refine qv ?_ |apply qn |refine Fl.nil (fun _ => by kernel_rfl) ?_ |apply qs |apply qr |refine AWP.condT rfl ?_ |apply qt));exact RetOk.of rfl (AV.Le.bool (hfalse fun e => hc (by subst e; rw [hx] at hy; injection hy)))
    ·(repeat' (first |refine qv ?_ |apply qn |apply qs |apply qr |(refine AWP.condD rfl ?_ ?_ <;> intro _ <;> try (exfalso; omega)) |apply qx |apply qt));exact RetOk.of rfl (AV.Le.bool (Eq.symm (hb.2 (s_eq hv (get_eq hl fun j x y hj => k1 j x y (by omega))))))
  ·(repeat' (first |refine qv ?_ |apply qn |apply qs |apply qr |refine qe ?_ |(refine AWP.condN rfl ?_ ?_ <;> intro _ <;> try (exfalso; omega)) |apply qt |(refine Fl.splitN rfl rfl ?_ ?_ <;> intro _ <;> try (exfalso; omega))));exact RetOk.of rfl (AV.Le.bool (hfalse fun e => hl (by rw [e])))
 ·(repeat' (first |refine qv ?_ |apply qn |apply qs |apply qr |refine qe ?_ |refine Fl.skip rfl rfl ?_ |refine AWP.condT rfl ?_ |apply qt |(refine Fl.splitN rfl rfl ?_ ?_ <;> intro _ <;> try (exfalso; omega))));exact RetOk.of rfl (AV.Le.bool (hfalse fun e => hv (by rw [e])))
end Go.Proofs.YtcaecieigoplbaaGreat
/- MaskWitness. -/
namespace Go.AL
def smU (ls : List (List UT)) : Bool := ls.all (fun p => p.all fun u => decide (u.1.natAbs < 4294967296))
end Go.AL
namespace Go.Proofs.YtcaecieigoplbaaGreat
open Go.AL
theorem SmL_linkU {V : Nat} {kind : Int} {ls : List (List UT)} (hV : V ≤ 1000) (h1 : okLk V ls = true) (h2 : smU ls = true) (h3 : ls.length ≤ 1000) : SmL (linkU V kind ls) := by
 have hk := okLk_ok h1;simp only [smU, List.all_eq_true, decide_eq_true_eq] at h2
 have ho : (occL V ls).length ≤ V := by
  have := List.length_filter_le (fun i => ls.any fun p => p.any fun u => decide (0 < u.2.getD i 0)) (List.range V);rw [List.length_range] at this;exact this
 refine ⟨by simp only [linkU, List.length_map]; omega, by simp only [linkU, List.length_map]; omega, fun p hp => ?_⟩;obtain ⟨q, hq, rfl⟩ := List.mem_map.1 hp;refine ⟨by simp only [mkP, pickU, List.length_map]; have := (hk q hq).1; omega, fun t ht => ?_⟩;obtain ⟨u, hu, rfl⟩ := List.mem_map.1 ht;obtain ⟨w, hw, rfl⟩ := List.mem_map.1 hu;refine ⟨⟨toW_ok _, ?_⟩, by show (pickE (occL V ls) w.2).length ≤ _; simp only [pickE, List.length_map]; omega⟩;have := lenI_small (h2 q hq w hw);show lenI w.1 ≤ 1000000;omega
end Go.Proofs.YtcaecieigoplbaaGreat
/- PowerWitness. -/
namespace Go.AL
end Go.AL
namespace Go.Proofs.YtcaecieigoplbaaGreat
open Go.AL
theorem pwS_sm : SmS pwS := by
 refine ⟨by decide, fun l hl => ?_⟩;simp only [pwS, List.mem_cons, List.not_mem_nil, or_false] at hl;rcases hl with rfl | rfl | rfl | rfl | rfl | rfl | rfl <;> exact SmL_linkU (by omega) (by kernel_rfl) (by kernel_rfl) (by simp)
theorem rW11_big (b e : Int) (he : 200000 < e) : PureFn Tryz.prog 34 [aX b, aN e] (.tup [.v (.slice none 0 0), aB false]) := by
 refine PureFn.of_body Tryz.func34 rfl Tryz.ntmps34 rfl rfl ?_;refine AWP.seqS ?_;(repeat' (first |refine qv ?_ |apply qn |apply qr |refine qe ?_|fail));refine ⟨?_⟩;(repeat' (first |refine qv ?_ |apply qn |apply qs |apply qr |(refine AWP.condD rfl ?_ ?_ <;> intro _ <;> try (exfalso; omega)) |apply qt));exact RetOk.of rfl (AV.Le.refl _)
theorem PowerWitnessA_ok (z : Z) (e : Int) (h : 40 < z.w.length ∨ (60 < e ∧ e ≤ 200000)) : PureFn Tryz.prog 6 [aZ z, aN e] (aB true) := by
 refine PureFn.of_body Tryz.func6 rfl Tryz.ntmps6 rfl rfl ?_;refine AWP.seqS ?_;(repeat' (first |refine qv ?_ |apply qn |apply qr |refine qe ?_|fail));refine ⟨?_⟩;(repeat' (first |refine qv ?_ |apply qn |apply qs |apply qr |refine Fl.skip rfl rfl ?_ |refine AWP.condT rfl ?_ |(refine AWP.condD rfl ?_ ?_ <;> intro _ <;> try (exfalso; omega)) |(refine Fl.splitD rfl rfl ?_ ?_ <;> intro _ <;> try (exfalso; omega))))
 ·refine qc (awake11_ok) ?_;(repeat' (first |refine qv ?_ |apply qn |apply qt));exact RetOk.of rfl (AV.Le.refl _)
 ·refine qc (awake11_ok) ?_;(repeat' (first |refine qv ?_ |apply qn |apply qt));exact RetOk.of rfl (AV.Le.refl _)
 all_goals (exfalso; omega)
theorem PowerWitnessF_ok (z : Z) (hz : WOk z.w) (e : Int) (h1 : z.w.length ≤ 40) (h2 : ¬ (60 < e ∧ e ≤ 200000)) (h : ¬ OkZ z) : PureFn Tryz.prog 6 [aZ z, aN e] (aB true) := by
 refine PureFn.of_body Tryz.func6 rfl Tryz.ntmps6 rfl rfl ?_;have cs := rSameS_ok pwS pwS pwS_sm pwS_w true ⟨fun _ => rfl, fun _ => rfl⟩;have cv := rValid_ok z hz (by omega);rw [decide_eq_false h] at cv;refine AWP.seqS ?_;(repeat' (first |refine qv ?_ |apply qn |apply qr |refine qe ?_|fail));refine ⟨?_⟩;refine AWP.seqJ (G := Unit) (fun _ => True) (fun _ => St.of [] [(1, aN e), (2, .ptr 2 0), (4, aB false)] [(2, .cells (eZ z) 35)]) ?_ ?_
 ·(repeat' (first |refine qv ?_ |apply qn |apply qs |apply qr |refine Fl.skip rfl rfl ?_ |refine AWP.condF rfl ?_ |(refine AWP.condD rfl ?_ ?_ <;> intro _ <;> try (exfalso; omega)) |apply qk |(refine Fl.splitD rfl rfl ?_ ?_ <;> intro _ <;> try (exfalso; omega))))
  ·refine JoinOk.of () trivial ?_;refine Ent.of [] ?_ ?_ rfl rfl;(repeat' (first |exact True.intro |refine ⟨⟨AV.Le.refl _, rfl⟩, ?_⟩ |refine ⟨⟨⟨_, rfl, BLe.cells (LeL.refl _)⟩, rfl⟩, ?_⟩|fail))
  ·refine JoinOk.of () trivial ?_;refine Ent.of [] ?_ ?_ rfl rfl;(repeat' (first |exact True.intro |refine ⟨⟨AV.Le.refl _, rfl⟩, ?_⟩ |refine ⟨⟨⟨_, rfl, BLe.cells (LeL.refl _)⟩, rfl⟩, ?_⟩|fail))
 intro _ _;(repeat' (first |apply qs |apply qr));refine qc (powerLinks_ok) ?_;skip;refine qc (rPowerLinks_ok) ?_;skip;refine qc (cs) ?_;(repeat' (first |refine qv ?_ |apply qn |apply qs |apply qr |refine AWP.condF rfl ?_ |apply qk));refine qc (pWitness_form z hz h e) ?_;(repeat' (first |refine qv ?_ |apply qn |apply qs |apply qr |apply qb));refine qc (cv) ?_;(repeat' (first |refine qv ?_ |apply qn |apply qs |apply qr |refine AWP.condT rfl ?_ |(refine Fl.splitD rfl rfl ?_ ?_ <;> intro _ <;> try (exfalso; omega))));refine qc (awake11_ok) ?_;(repeat' (first |refine qv ?_ |apply qn |apply qt));exact RetOk.of rfl (AV.Le.refl _)
set_option maxHeartbeats 2000000 in
theorem PowerWitnessX_ok (b : Int) (hb : Fit b) (e : Int) (h1 : lenI b ≤ 40) (h2 : ¬ (60 < e ∧ e ≤ 200000)) : PureFn Tryz.prog 6 [aX b, aN e] (aB true) := by
 refine PureFn.of_body Tryz.func6 rfl Tryz.ntmps6 rfl rfl ?_;have cs := rSameS_ok pwS pwS pwS_sm pwS_w true ⟨fun _ => rfl, fun _ => rfl⟩;have hlb : (toW (b.natAbs : Int)).length ≤ 40 := h1;have cv := rValid_ok (zOf b) (toW_ok _) (show (toW (b.natAbs : Int)).length ≤ _ by omega);rw [decide_eq_true (okZ_zOf hb)] at cv;have l1 : lenI 1 ≤ 1 := lenI_small (by decide);have cc := rCmp_ok b 1 (by omega) (by omega);refine AWP.seqS ?_;(repeat' (first |refine qv ?_ |apply qn |apply qr |refine qe ?_|fail));refine ⟨?_⟩;refine AWP.seqJ (G := Unit) (fun _ => True) (fun _ => St.of [] [(1, aN e), (2, .ptr 2 0), (4, aB false)] [(2, .cells (eX b) 35)]) ?_ ?_
 ·(repeat' (first |refine qv ?_ |apply qn |apply qs |apply qr |refine Fl.skip rfl rfl ?_ |refine AWP.condF rfl ?_ |(refine AWP.condD rfl ?_ ?_ <;> intro _ <;> try (exfalso; omega)) |apply qk |(refine Fl.splitD rfl rfl ?_ ?_ <;> intro _ <;> try (exfalso; omega))))
  ·refine JoinOk.of () trivial ?_;refine Ent.of [] ?_ ?_ rfl rfl;(repeat' (first |exact True.intro |refine ⟨⟨AV.Le.refl _, rfl⟩, ?_⟩ |refine ⟨⟨⟨_, rfl, BLe.cells (LeL.refl _)⟩, rfl⟩, ?_⟩|fail))
  ·refine JoinOk.of () trivial ?_;refine Ent.of [] ?_ ?_ rfl rfl;(repeat' (first |exact True.intro |refine ⟨⟨AV.Le.refl _, rfl⟩, ?_⟩ |refine ⟨⟨⟨_, rfl, BLe.cells (LeL.refl _)⟩, rfl⟩, ?_⟩|fail))
 intro _ _;(repeat' (first |apply qs |apply qr));refine qc (powerLinks_ok) ?_;skip;refine qc (rPowerLinks_ok) ?_;skip;refine qc (cs) ?_;(repeat' (first |refine qv ?_ |apply qn |apply qs |apply qr |refine AWP.condF rfl ?_ |apply qk));rcases Int.lt_or_le b 1 with hb1 | hb1
 ·have hcm : cmpI b 1 < 0 := by rw [cmpI_lt hb1]; omega
  refine qc (pWitness_arg b e hb (.inl hb1)) ?_;(repeat' (first |refine qv ?_ |apply qn |apply qs |apply qr |apply qb));refine qc (cv) ?_;(repeat' (first |refine qv ?_ |apply qn |apply qs |apply qr |refine AWP.condF rfl ?_));refine qc (rOf_ok 1 (by omega) (by omega)) ?_;skip;refine qc (cc) ?_;(repeat' (first |refine qv ?_ |apply qn |refine Fl.nil (fun _ => by kernel_rfl) ?_ |apply qs |apply qr |refine Fl.skip rfl rfl ?_ |refine AWP.condT rfl ?_ |(refine Fl.splitD rfl rfl ?_ ?_ <;> intro _ <;> try (exfalso; omega))));refine qc (awake11_ok) ?_;(repeat' (first |refine qv ?_ |apply qn |apply qt));exact RetOk.of rfl (AV.Le.refl _)
 have hcm : ¬ cmpI b 1 < 0 := by
  rcases Int.lt_or_eq_of_le hb1 with k | k
  ·rw [cmpI_gt k]; omega
  ·rw [cmpI_eq k.symm]; omega
 rcases Int.lt_or_le e 0 with he0 | he0
 ·refine qc (pWitness_arg b e hb (.inr he0)) ?_;(repeat' (first |refine qv ?_ |apply qn |apply qs |apply qr |apply qb));refine qc (cv) ?_;(repeat' (first |refine qv ?_ |apply qn |apply qs |apply qr |refine AWP.condF rfl ?_));refine qc (rOf_ok 1 (by omega) (by omega)) ?_;skip;refine qc (cc) ?_;(repeat' (first |refine qv ?_ |apply qn |refine Fl.nil (fun _ => by kernel_rfl) ?_ |apply qs |apply qr |refine AWP.condT rfl ?_ |(refine AWP.condD rfl ?_ ?_ <;> intro _ <;> try (exfalso; omega)) |(refine Fl.splitD rfl rfl ?_ ?_ <;> intro _ <;> try (exfalso; omega))));refine qc (awake11_ok) ?_;(repeat' (first |refine qv ?_ |apply qn |apply qt));exact RetOk.of rfl (AV.Le.refl _)
 ·skip;by_cases he : 60 < e
  ·refine qc (pWitness_big b e hb hb1 (by omega)) ?_;(repeat' (first |refine qv ?_ |apply qn |apply qs |apply qr |apply qb));refine qc (cv) ?_;(repeat' (first |refine qv ?_ |apply qn |apply qs |apply qr |refine AWP.condF rfl ?_));refine qc (rOf_ok 1 (by omega) (by omega)) ?_;skip;refine qc (cc) ?_;(repeat' (first |refine qv ?_ |apply qn |refine Fl.nil (fun _ => by kernel_rfl) ?_ |apply qs |apply qr |refine AWP.condF rfl ?_ |(refine AWP.condD rfl ?_ ?_ <;> intro _ <;> try (exfalso; omega)) |apply qk |(refine Fl.splitD rfl rfl ?_ ?_ <;> intro _ <;> try (exfalso; omega))));refine qc (rW11_big b e (by omega)) ?_;(repeat' (first |refine qv ?_ |apply qn |apply qs |apply qr |refine AWP.condT rfl ?_ |(refine Fl.splitD rfl rfl ?_ ?_ <;> intro _ <;> try (exfalso; omega))));refine qc (awake11_ok) ?_;(repeat' (first |refine qv ?_ |apply qn |apply qt));exact RetOk.of rfl (AV.Le.refl _)
  ·obtain ⟨s1, s2, s3, s4, s5, s6, s7, s8⟩ := pw_sizes hb1 h1 he0 (by omega);by_cases hX : Fit (pw b e).X
   ·have hall := pw_all hb1 h1 he0 (by omega) hX;obtain ⟨hP, h0⟩ := pw_found hb1 he0;obtain ⟨f1, f2, f3⟩ := pw_fit h0 hall hP;have c1 := pWitness_ok b e hb1 he0 (by omega) f1 f2 s5;have c2 := rW11_ok b e hb1 h1 he0 (by omega) _ (fun _ => rfl) (fun k => absurd hX k);have hsa := rSameAll_ok ((pw b e).L b e) ((pw b e).L b e) (fun x hx => by have := (hall x hx).len; omega) (by show (10 : Nat) ≤ _; omega);rw [decide_eq_true rfl] at hsa;have hLl : ((pw b e).L b e).length = 10 := rfl
    generalize (pw b e).L b e = L at *
    refine qc (c1) ?_;(repeat' (first |refine qv ?_ |apply qn |apply qs |apply qr |apply qb));refine qc (cv) ?_;(repeat' (first |refine qv ?_ |apply qn |apply qs |apply qr |refine AWP.condF rfl ?_));refine qc (rOf_ok 1 (by omega) (by omega)) ?_;skip;refine qc (cc) ?_;(repeat' (first |refine qv ?_ |apply qn |refine Fl.nil (fun _ => by kernel_rfl) ?_ |apply qs |apply qr |refine AWP.condF rfl ?_ |(refine AWP.condD rfl ?_ ?_ <;> intro _ <;> try (exfalso; omega)) |apply qk |(refine Fl.splitD rfl rfl ?_ ?_ <;> intro _ <;> try (exfalso; omega))));refine qc (c2) ?_;(repeat' (first |refine qv ?_ |apply qn |apply qs |apply qr |refine AWP.condF rfl ?_ |apply qk |(refine Fl.splitD rfl rfl ?_ ?_ <;> intro _ <;> try (exfalso; omega))));refine qc (hsa) ?_;(repeat' (first |refine qv ?_|fail));refine qc (awake11_ok) ?_;(repeat' (first |refine qv ?_ |apply qn |apply qt));exact RetOk.of rfl (AV.Le.refl _)
   ·have fb2 : Fit (b + 2) := by
     refine Fit.mk ?_;have a1 := (lenI_nonneg (x := b) (by omega)).1 h1;have a2 := BB_le (show 41 ≤ 4096 by omega);have a3 := BB_succ 40;have a4 := BB_pos 40;rw [show (41 : Nat) = 40 + 1 from rfl] at a2;omega
    have c1 := pWitness_no b e hb1 he0 (by omega) hb fb2 s2 s4 s5 hX;have c2 := rW11_ok b e hb1 h1 he0 (by omega) _ (fun k => absurd k hX) (fun _ => rfl);refine qc (c1) ?_;(repeat' (first |refine qv ?_ |apply qn |apply qs |apply qr |apply qb));refine qc (cv) ?_;(repeat' (first |refine qv ?_ |apply qn |apply qs |apply qr |refine AWP.condF rfl ?_));refine qc (rOf_ok 1 (by omega) (by omega)) ?_;skip;refine qc (cc) ?_;(repeat' (first |refine qv ?_ |apply qn |refine Fl.nil (fun _ => by kernel_rfl) ?_ |apply qs |apply qr |refine AWP.condF rfl ?_ |(refine AWP.condD rfl ?_ ?_ <;> intro _ <;> try (exfalso; omega)) |apply qk |(refine Fl.splitD rfl rfl ?_ ?_ <;> intro _ <;> try (exfalso; omega))));refine qc (c2) ?_;(repeat' (first |refine qv ?_ |apply qn |apply qs |apply qr |refine AWP.condT rfl ?_ |(refine Fl.splitD rfl rfl ?_ ?_ <;> intro _ <;> try (exfalso; omega))));refine qc (awake11_ok) ?_;(repeat' (first |refine qv ?_ |apply qn |apply qt));exact RetOk.of rfl (AV.Le.refl _)
theorem PowerWitness_ok (z : Z) (e : Int) (hz : WOk z.w) (hl : z.w.length ≤ 9223372036854775807) (he0 : -9223372036854775808 ≤ e) (he1 : e ≤ 9223372036854775807) : PureFn Tryz.prog 6 [aZ z, aN e] (aB true) := by
 by_cases h : 40 < z.w.length ∨ (60 < e ∧ e ≤ 200000)
 ·exact PowerWitnessA_ok z e h
 ·by_cases ho : OkZ z
  ·obtain ⟨e1, e2⟩ := okZ_eq hz ho;rw [e1]
   have hlen : lenI (zval z) ≤ 40 := by
    have : (zOf (zval z)).w.length ≤ 40 := by rw [← e1]; omega
    exact this
   exact PowerWitnessX_ok (zval z) e2 e hlen (fun k => h (.inr k))
  ·exact PowerWitnessF_ok z hz e (by omega) (fun k => h (.inr k)) ho
end Go.Proofs.YtcaecieigoplbaaGreat

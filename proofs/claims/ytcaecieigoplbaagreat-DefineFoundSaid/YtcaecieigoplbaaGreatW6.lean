/- Part 6 of a proof layer and of the contracts of the functions (XT0 XZ0 XZ1 XT5 XT6 XT7 XT8 XT9 XU4 XU5 XTB XTA XTE XTF XU6 XU7 XTC XTD XRV XRP XTG XRU XTH XTJ). -/
import Derived.Test.YtcaecieigoplbaaGreatW5
set_option linter.unusedVariables false
set_option linter.unusedSimpArgs false
/- lucas.Chi in full; the reference's Pair. -/
namespace Go.AL
theorem chi_res2 {a : Int} {N : Nat} (ha : 2 ≤ a) (hf : Fit a) (hN : N < 2 ^ 63) {r : Int × Int} (hr : r = chF a (atL a N 63 (1, 0, 0)).2.2 (atL a N 63 (1, 0, 0)).1 (atL a N 63 (1, 0, 0)).2.1) : r.1 = clip (chiN a (N + 1)) ∧ r.2 = szErr (chiN a (N + 1)) := by
 have h := atL_ok ha hf (N := N) 63 (1, 0, 0) (.inl (by rw [Nat.div_eq_of_lt hN, chi_zero, psi_zero]))
 have hz : r.2 ≠ 0 → r.1 = 0 := by
  rw [hr]; unfold chF; exact fun h => cV_of_cE h
 have fin : r.2 = 4 → ¬ Fit (chiN a (N + 1)) → r.1 = clip (chiN a (N + 1)) ∧ r.2 = szErr (chiN a (N + 1)) := fun h1 h2 => by
  rw [clip_not h2, szErr_not h2];exact ⟨hz (by omega), h1⟩
 obtain ⟨p1, p2, p3⟩ := cp_pos ha N;rcases h with h | ⟨h1, h2⟩
 ·rw [h] at hr;simp only [Nat.pow_zero, Nat.div_one] at hr;have e1 : 0 ≤ a * psiN a N := Int.mul_nonneg (by omega) p2;have e2 : 0 ≤ a * (a * psiN a N) := Int.mul_nonneg (by omega) e1;have e3 : 0 ≤ a * chiN a N := Int.mul_nonneg (by omega) (by omega);have e4 : 2 * (a * psiN a N) ≤ a * (a * psiN a N) := Int.mul_le_mul_of_nonneg_right ha e1;have e5 : 2 * psiN a N ≤ a * psiN a N := Int.mul_le_mul_of_nonneg_right ha p2;have e6 : 2 * chiN a N ≤ a * chiN a N := Int.mul_le_mul_of_nonneg_right ha (by omega)
  have hs : a * chiN a N + (a * (a * psiN a N) - psiN a N) = chiN a (N + 1) := by rw [chi_succ]; grind
  rcases chF_ok (F := Fit (chiN a (N + 1))) (a := a) (c := chiN a N) (p := psiN a N) hf (fun hc => fit_of hc e1 (by omega)) (fun hc => fit_of hc e2 (by omega)) (fun hc => fit_of hc (by omega) (by omega)) (fun hc => fit_of hc e3 (by omega)) (fun hc => by rw [hs]; exact hc) with ⟨k1, kf⟩ | ⟨k2, n1⟩
  ·rw [hr, k1, hs];rw [hs] at kf;rw [clip_fit kf, szErr_fit kf]; exact ⟨rfl, rfl⟩
  ·rw [← hr] at k2;exact fin k2 n1
 ·refine fin ?_ fun hc => h2 (fit_of hc (cp_pos ha (N + 1)).2.1 (psi_le_chi ha N));rw [hr, h1, chF_err]
theorem chi_not_fit {a : Int} (ha : 2 ≤ a) {n : Nat} (h : 131072 < n) : ¬ Fit (chiN a n) := fun hc => by
 obtain ⟨m, rfl⟩ : ∃ m, n = m + 1 := ⟨n - 1, by omega⟩;exact psi_not_fit ha h (fit_of hc (cp_pos ha (m + 1)).2.1 (psi_le_chi ha m))
theorem chi_rec (a : Int) (n : Nat) : (a + a) * chiN a (n + 1) - chiN a n = chiN a (n + 2) := by
 rw [chi_succ a (n + 1), psi_succ, chi_succ];grind
theorem chi_lt_psi {a : Int} (ha : 2 ≤ a) (n : Nat) : chiN a n ≤ psiN a (n + 1) := (psi_step ha n).2.1
theorem psi_ub {a : Int} (ha : 2 ≤ a) : ∀ n : Nat, psiN a (n + 1) ≤ (2 * a) ^ n
 | 0 => by rw [psi_one]; simp
 | n + 1 => by
  have ih := psi_ub ha n;rcases psi_up ha (n + 1) with h | h
  ·have h2 : (a + a) * psiN a (n + 1) ≤ (a + a) * (2 * a) ^ n := Int.mul_le_mul_of_nonneg_left ih (by omega)
   have e : (2 * a) ^ (n + 1) = (a + a) * (2 * a) ^ n := by rw [Int.pow_succ, Int.mul_comm]; congr 1; omega
   omega
  ·omega
theorem lenI_nonneg {x : Int} {k : Nat} (h : 0 ≤ x) : lenI x ≤ k ↔ x < BB k := by
 rw [lenI_le]
 have : ((x.natAbs : Nat) : Int) = x := by omega
 rw [this]
end Go.AL
namespace Go.Proofs.YtcaecieigoplbaaGreat
open Go.AL
theorem elementC2_ok (a n : Int) (ha : Fit a) (h2 : 2 ≤ a) (h0 : 1 ≤ n) (h1 : n ≤ 9223372036854775807) : PureFn Tryz.prog 163 [aX a, aN n, aN 1, .fn 165 []] (aR (chiN a n.toNat)) := by
 refine PureFn.of_body Tryz.func163 rfl Tryz.ntmps163 rfl rfl ?_;(repeat' (first |refine qv ?_ |apply qn |apply qs |apply qr |refine qe ?_|fail));refine qc (fits_ok a ha h2) ?_;(repeat' (first |refine qv ?_ |apply qn |apply qs |apply qr |refine qe ?_ |refine AWP.condF rfl ?_ |(refine AWP.condD rfl ?_ ?_ <;> intro _ <;> try (exfalso; omega)) |apply qb |apply qk |apply qt))
 ·rename_i h;refine RetOk.of rfl ?_;rw [aR_not (chi_not_fit h2 (by omega))];exact AV.Le.tup (LeL.cons aX_zero (LeL.refl _))
 ·rename_i h;refine Fl.io rfl [(900, 33)] (walk_ok a) rfl rfl (LeL.refl _) rfl trivial rfl rfl rfl rfl rfl ?_;(repeat' (first |refine qv ?_ |apply qn |apply qs |apply qr |refine qw ?_|fail));refine qi [(900, 33)] (at_ok a (n - 1) ha (by omega) (by omega)) ?_;skip
  have hN : (((n - 1).toNat : Nat) : Int) = n - 1 := by omega
  have hfc : Fit (atL a (n - 1) 63 (1, 0, 0)).1 ∧ Fit (atL a (n - 1) 63 (1, 0, 0)).2.1 := atL_fit a (n - 1) 63 _ fit_one Fit.zero;refine Fl.ioV rfl rfl [(900, 33)] (chiS_ok a _ _ _ ha hfc.1 hfc.2) rfl rfl (LeL.refl _) rfl ⟨⟨⟨_, rfl, BLe.cells (LeL.refl _)⟩, rfl⟩, trivial⟩ rfl rfl rfl rfl rfl ?_;(repeat' (first |refine qv ?_ |apply qn |refine Fl.nil (fun _ => by kernel_rfl) ?_ |apply qs |apply qr |refine qe ?_ |apply qt));have hr := chi_res2 (a := a) (N := (n - 1).toNat) h2 ha (by omega) rfl;rw [hN, show (n - 1).toNat + 1 = n.toNat by omega] at hr;refine RetOk.of rfl (AV.Le.tup (LeL.cons (AV.Le.agg ?_) (LeL.cons (AV.Le.int hr.2) LeL.nil)));exact leX (σ := []) hr.1
theorem Chi2_ok (a n : Int) (ha : Fit a) (h2 : 2 ≤ a) (h0 : 1 ≤ n) (h1 : n ≤ 9223372036854775807) : PureFn Tryz.prog 100 [aX a, aN n] (aR (chiN a n.toNat)) := by
 refine PureFn.of_body Tryz.func100 rfl Tryz.ntmps100 rfl rfl ?_;(repeat' (first |refine qv ?_ |apply qn |apply qs |apply qr |refine qe ?_|fail));refine qc (elementC2_ok a n ha h2 h0 h1) ?_;(repeat' (first |refine qv ?_ |apply qn |refine qe ?_ |apply qt));exact RetOk.of rfl (AV.Le.refl _)

theorem rPair_ok (a : Int) (n : Nat) (ha : Fit a) (h2 : 2 ≤ a) (hn : n ≤ 1000000000) (r : AV) (hr1 : lenI (psiN a n) ≤ 8192 → r = .tup [aX (chiN a n), aX (psiN a n), aB true]) (hr2 : ¬ lenI (psiN a n) ≤ 8192 → r = .tup [aX 0, aX 0, aB false]) : PureFn Tryz.prog 50 [aX a, aN n] r := by
 refine PureFn.of_body Tryz.func50 rfl Tryz.ntmps50 rfl rfl ?_;have la := ha.lenI;have l1 : lenI 1 ≤ 1 := lenI_small (by decide);have e1 := rAdd_ok a a (show lenI a ≤ _ by omega) (show lenI a ≤ _ by omega);have hpos := fun n => (cp_pos h2 n).2.1;have hpos2 := fun n => (cp_pos h2 n).1;refine AWP.seqS ?_;(repeat' (first |refine qv ?_ |apply qn |apply qr |refine qe ?_|fail));refine ⟨AWP.seqS ?_⟩;(repeat' (first |apply qr));refine qc (rOf_ok 1 (by omega) (by omega)) ?_;(repeat' (first |apply qn |refine qe ?_|fail));refine ⟨AWP.seqS ?_⟩;(repeat' (first |refine qv ?_ |apply qr));refine qc (rOf_ok 1 (by omega) (by omega)) ?_;(repeat' (first |refine Fl.nil (fun _ => by kernel_rfl) ?_ |refine qe ?_|fail));refine ⟨AWP.seqS ?_⟩;(repeat' (first |refine qv ?_ |apply qr));refine qc (e1) ?_;(repeat' (first |apply qn |refine qe ?_|fail));refine ⟨?_⟩;(repeat' (first |refine qv ?_ |apply qn |apply qs |apply qr |apply qb));refine AWP.loop (G := Nat) (fun i => i ≤ n ∧ lenI (psiN a i) ≤ 8192) (fun i => St.of [] [(1, aN n), (4, .ptr 4 0), (5, .ptr 5 0), (6, aB false), (7, .ptr 7 0), (8, .ptr 8 0), (9, .ptr 9 0), (10, .ptr 10 0), (11, .ptr 11 0), (12, aN i)] [(4, .cells [aB false, .v (.slice none 0 0)] 35), (5, .cells [aB false, .v (.slice none 0 0)] 35), (7, .cells (eX (chiN a i)) 35), (8, .cells (eX (psiN a i)) 35), (9, .cells (eX (chiN a (i + 1))) 35), (10, .cells (eX (psiN a (i + 1))) 35), (11, .cells (eX (a + a)) 35)]) (fun i => n - i) 0 ⟨by omega, by rw [psi_zero]; have := (lenI_le (x := 0) (n := 0)).2 (by simp [BB_zero]); omega⟩ ?_ ?_
 ·refine Ent.of [] ?_ ?_ rfl rfl;(repeat' (first |exact True.intro |refine ⟨⟨AV.Le.refl _, rfl⟩, ?_⟩ |refine ⟨⟨⟨_, rfl, BLe.cells (LeL.refl _)⟩, rfl⟩, ?_⟩ |refine ⟨⟨⟨_, rfl, BLe.cells ?_⟩, rfl⟩, ?_⟩|fail))
  ·exact leX_zero (σ := []) (psi_zero a).symm
  ·exact leX (σ := []) (by rw [chi_succ, chi_zero, psi_zero]; omega)
  ·exact leX (σ := []) (psi_one a).symm
 ·intro i ⟨hi, hl⟩;have p0 := hpos i;have p1 := hpos (i + 1);have c0 := hpos2 i;have c1 := hpos2 (i + 1)
  have b1 : psiN a (i + 1) < BB 12289 := by
   rcases Nat.eq_zero_or_pos i with h | h
   ·subst h;rw [psi_one];exact Int.lt_of_lt_of_le ((lenI_nonneg (x := 1) (by omega)).1 l1) (BB_le (by omega))
   ·exact psi_bound h2 ha (by omega) ((lenI_nonneg p0).1 hl)
  have b2 : psiN a (i + 2) < BB 16386 := psi_bound h2 ha (by omega) b1;have lp1 : lenI (psiN a (i + 1)) ≤ 12289 := (lenI_nonneg p1).2 b1;have lc1 : lenI (chiN a (i + 1)) ≤ 16386 := (lenI_nonneg (by omega)).2 (Int.lt_of_le_of_lt (chi_lt_psi h2 (i + 1)) b2);have lc0 : lenI (chiN a i) ≤ 12289 := (lenI_nonneg (by omega)).2 (Int.lt_of_le_of_lt (chi_lt_psi h2 i) b1);have laa : lenI (a + a) ≤ 4097 := (lenI_nonneg (by omega)).2 (twice_lt ha (by omega));have lm1 := lenI_mul (a + a) (chiN a (i + 1));have lm2 := lenI_mul (a + a) (psiN a (i + 1));have m1 := rMul_ok (a + a) (chiN a (i + 1)) (show lenI _ ≤ _ by omega) (show lenI _ ≤ _ by omega);have m2 := rMul_ok (a + a) (psiN a (i + 1)) (show lenI _ ≤ _ by omega) (show lenI _ ≤ _ by omega);have s1 := rSub_ok ((a + a) * chiN a (i + 1)) (chiN a i) (by omega) (by omega);have s2 := rSub_ok ((a + a) * psiN a (i + 1)) (psiN a i) (by omega) (by omega);rw [chi_rec] at s1;rw [psi_rec] at s2;(repeat' (first |refine qv ?_ |apply qn |refine Fl.nil (fun _ => by kernel_rfl) ?_ |apply qs |apply qr |refine qe ?_ |(refine AWP.condD rfl ?_ ?_ <;> intro _ <;> try (exfalso; omega)) |apply qb |apply qk |apply qx |apply qt))
  ·refine qc (m1) ?_;(repeat' (first |refine qv ?_|fail));refine qc (s1) ?_;(repeat' (first |refine qv ?_ |refine Fl.nil (fun _ => by kernel_rfl) ?_ |apply qs |apply qr |refine qe ?_|fail));refine qc (m2) ?_;(repeat' (first |refine qv ?_|fail));refine qc (s2) ?_;(repeat' (first |refine qv ?_ |apply qn |refine Fl.nil (fun _ => by kernel_rfl) ?_ |apply qs |apply qr |refine qw ?_ |refine qe ?_ |(refine AWP.condD rfl ?_ ?_ <;> intro _ <;> try (exfalso; omega)) |apply qk |apply qt))
   ·rename_i hlt hgt
    have hgt' : 8192 < lenI (psiN a (i + 1)) := by unfold lenI; omega
    have hno : ¬ lenI (psiN a n) ≤ 8192 := fun k => by
     have := (lenI_nonneg (hpos n)).1 k;have hm := psi_mono h2 (show i + 1 ≤ n by omega);have := (lenI_nonneg p1 (k := 8192)).2 (by omega);omega
    rw [hr2 hno];refine RetOk.of rfl (AV.Le.tup (LeL.cons aX_zero (LeL.cons aX_zero (LeL.refl _))))
   ·rename_i hlt hgt
    have hle : lenI (psiN a (i + 1)) ≤ 8192 := by unfold lenI; omega
    refine LoopEnd.of (i + 1) ⟨by omega, hle⟩ (by omega) ?_;refine Ent.of [] ?_ ?_ rfl rfl;(repeat' (first |exact True.intro |refine ⟨⟨AV.Le.refl _, rfl⟩, ?_⟩ |refine ⟨⟨⟨_, rfl, BLe.cells (LeL.refl _)⟩, rfl⟩, ?_⟩|fail))
  ·rename_i hlt
   have hin : i = n := by omega
   subst hin;rw [hr1 hl];exact RetOk.of rfl (AV.Le.refl _)
end Go.Proofs.YtcaecieigoplbaaGreat
/- Polynomials by their coefficients: what is ordered and without zeros is told by them. -/
namespace Go.AL
structure CanU (l : List UT) : Prop where
  nz : ∀ u ∈ l, u.1 ≠ 0
  pw : l.Pairwise fun u v => ordI u.2 v.2 < 0
theorem CanU.nil : CanU [] := ⟨by simp, List.Pairwise.nil⟩
theorem CanU.tail {u : UT} {l : List UT} (h : CanU (u :: l)) : CanU l := ⟨fun v hv => h.nz v (by simp [hv]), (List.pairwise_cons.1 h.pw).2⟩
theorem CanU.head {u : UT} {l : List UT} (h : CanU (u :: l)) : ∀ v ∈ l, ordI u.2 v.2 < 0 := (List.pairwise_cons.1 h.pw).1
theorem CanU.cons {u : UT} {l : List UT} (h : CanU l) (h1 : u.1 ≠ 0) (h2 : ∀ v ∈ l, ordI u.2 v.2 < 0) : CanU (u :: l) := ⟨fun v hv => by
 rcases List.mem_cons.1 hv with rfl | hv
 ·exact h1
 ·exact h.nz v hv, List.pairwise_cons.2 ⟨h2, h.pw⟩⟩
theorem insU_mem {u v : UT} : ∀ {l : List UT}, v ∈ insU u l → v.2 = u.2 ∨ ∃ w ∈ l, v.2 = w.2
 | [], h => by
  unfold insU at h;split at h
  ·simp at h
  ·simp at h; exact .inl (by rw [h])
 | w :: l, h => by
  unfold insU at h;split at h
  ·split at h
   ·exact .inr ⟨v, h, rfl⟩
   ·rcases List.mem_cons.1 h with rfl | h
    ·exact .inl rfl
    ·exact .inr ⟨v, h, rfl⟩
  ·split at h
   ·split at h
    ·exact .inr ⟨v, by simp [h], rfl⟩
    ·rcases List.mem_cons.1 h with rfl | h
     ·exact .inl rfl
     ·exact .inr ⟨v, by simp [h], rfl⟩
   ·rcases List.mem_cons.1 h with rfl | h
    ·exact .inr ⟨v, by simp, rfl⟩
    ·rcases insU_mem h with h | ⟨x, hx, e⟩
     ·exact .inl h
     ·exact .inr ⟨x, by simp [hx], e⟩
theorem insU_can {u : UT} : ∀ {l : List UT}, CanU l → CanU (insU u l)
 | [], h => by
  unfold insU;split
  ·exact CanU.nil
  ·rename_i hz; exact CanU.nil.cons hz (by simp)
 | w :: l, h => by
  unfold insU;split
  ·rename_i ho;split
   ·exact h
   ·rename_i hz;refine h.cons hz fun v hv => ?_;rcases List.mem_cons.1 hv with rfl | hv
    ·exact ho
    ·exact ordI_trans ho (h.head v hv)
  ·rename_i ho;split
   ·rename_i he;split
    ·exact h.tail
    ·rename_i hz
     exact h.tail.cons hz fun v hv => by show ordI u.2 v.2 < 0; rw [he]; exact h.head v hv
   ·rename_i he;refine (insU_can h.tail).cons (h.nz w (by simp)) fun v hv => ?_;rcases insU_mem hv with h1 | ⟨x, hx, e⟩
    ·rw [h1];rcases ordI_total u.2 w.2 with k | k | k
     ·exact absurd k ho
     ·exact absurd k he
     ·exact k
    ·rw [e]; exact h.head x hx
theorem cfU_insU (u : UT) (e : List Int) : ∀ l : List UT, cfU (insU u l) e = (if u.2 = e then u.1 else 0) + cfU l e
 | [] => by
  unfold insU;split
  ·rename_i hz; simp [cfU, hz]
  ·simp [cfU]
 | w :: l => by
  unfold insU;split
  ·split
   ·rename_i hz; simp only [cfU]; rw [hz]; split <;> omega
   ·simp only [cfU]
  ·split
   ·rename_i he;split
    ·rename_i hz;simp only [cfU];rw [he];split <;> omega
    ·simp only [cfU];rw [he];split <;> omega
   ·simp only [cfU];rw [cfU_insU u e l];omega
theorem canU_can : ∀ us : List UT, CanU (canU us)
 | [] => CanU.nil
 | u :: us => insU_can (canU_can us)
theorem cfU_canU (e : List Int) : ∀ us : List UT, cfU (canU us) e = cfU us e
 | [] => rfl
 | u :: us => by
  show cfU (insU u (canU us)) e = _;rw [cfU_insU, cfU_canU e us];rfl
theorem canU_mem {v : UT} : ∀ {us : List UT}, v ∈ canU us → ∃ w ∈ us, v.2 = w.2
 | [], h => by simp [canU] at h
 | u :: us, h => by
  have h' : v ∈ insU u (canU us) := h;rcases insU_mem h' with h1 | ⟨x, hx, e⟩
  ·exact ⟨u, by simp, h1⟩
  ·obtain ⟨w, hw, e2⟩ := canU_mem hx;exact ⟨w, by simp [hw], by rw [e, e2]⟩
theorem zOf_inj {x y : Int} (h : zOf x = zOf y) : x = y := by
 have := congrArg zval h;rwa [zval_zOf, zval_zOf] at this
theorem tz_inj {u v : UT} (h : tz u = tz v) : u = v := by
 obtain ⟨a, e⟩ := u;obtain ⟨b, f⟩ := v;injection h with h1 h2;have h3 := zOf_inj h1;dsimp only at h2 h3;subst h2 h3;rfl
theorem CanU.mem_iff {l : List UT} (h : CanU l) (u : UT) : u ∈ l ↔ u.1 ≠ 0 ∧ cfU l u.2 = u.1 := by
 refine ⟨fun k => ⟨h.nz u k, cfU_one h.pw k⟩, fun ⟨k1, k2⟩ => ?_⟩;obtain ⟨v, hv, e⟩ := cfU_mem (us := l) (e := u.2) (by rw [k2]; exact k1);have := cfU_one h.pw hv;rw [e, k2] at this
 have : u = v := by cases u; cases v; simp_all
 rwa [this]
theorem CanU.pw_tz {l : List UT} (h : CanU l) : (l.map tz).Pairwise fun x y => ordI x.e y.e < 0 := List.pairwise_map.2 h.pw
theorem CanU.ext {a b : List UT} (ha : CanU a) (hb : CanU b) (h : ∀ e, cfU a e = cfU b e) : a = b := by
 have key : a.map tz = b.map tz := sorted_ext ha.pw_tz hb.pw_tz fun t => by
  simp only [List.mem_map];constructor
  ·rintro ⟨u, hu, rfl⟩;exact ⟨u, (hb.mem_iff u).2 (by rw [← h]; exact (ha.mem_iff u).1 hu), rfl⟩
  ·rintro ⟨u, hu, rfl⟩;exact ⟨u, (ha.mem_iff u).2 (by rw [h]; exact (hb.mem_iff u).1 hu), rfl⟩
 have inj : ∀ {a b : List UT}, a.map tz = b.map tz → a = b := by
  intro a
  induction a with
  | nil => intro b h; cases b with
   | nil => rfl
   | cons x b => simp at h
  | cons x a ih => intro b h; cases b with
   | nil => simp at h
   | cons y b =>
    simp only [List.map_cons, List.cons.injEq] at h;rw [tz_inj (u := x) (v := y) (by rw [tz, tz]; simpa using h.1), ih h.2]
 exact inj key
theorem CanU.eq_can {l us : List UT} (h : CanU l) (he : ∀ e, cfU l e = cfU us e) : l = canU us := h.ext (canU_can us) fun e => by rw [he, cfU_canU]
theorem CanU.can {l : List UT} (h : CanU l) : canU l = l := (h.eq_can fun _ => rfl).symm
end Go.AL
/- Lists of terms az the reference holds them: bounds. -/
namespace Go.AL
theorem lenI_neg (x : Int) : lenI (-x) = lenI x := by unfold lenI; rw [Int.natAbs_neg]
theorem lenI_add {x y : Int} {M : Nat} (hx : lenI x ≤ M) (hy : lenI y ≤ M) : lenI (x + y) ≤ M + 1 := by
 rw [lenI_le] at *
 rw [BB_succ];have := BB_pos M;omega
theorem lenI_zero : lenI 0 = 0 := by
 have := (lenI_le (x := 0) (n := 0)).2 (by simp [BB_zero]);omega
def okT (V M : Nat) (l : List UT) : Prop := ∀ u ∈ l, u.2.length = V ∧ EOk u.2 ∧ lenI u.1 ≤ M
theorem okT.nil (V M : Nat) : okT V M [] := fun u h => by simp at h
theorem okT.mono {V M N : Nat} {l : List UT} (h : okT V M l) (hm : M ≤ N) : okT V N l := fun u hu => ⟨(h u hu).1, (h u hu).2.1, Nat.le_trans (h u hu).2.2 hm⟩
theorem okT.append {V M : Nat} {a b : List UT} (ha : okT V M a) (hb : okT V M b) : okT V M (a ++ b) := fun u hu => (List.mem_append.1 hu).elim (ha u) (hb u)
theorem okT.sub {V M : Nat} {a b : List UT} (h : okT V M a) (hs : ∀ u ∈ b, u ∈ a) : okT V M b := fun u hu => h u (hs u hu)
theorem okT.terms {V M : Nat} {l : List UT} (h : okT V M l) : TermsOk V M (l.map tz) := by
 refine ⟨?_, ?_, ?_, ?_⟩ <;> (intro t ht; obtain ⟨u, hu, rfl⟩ := List.mem_map.1 ht)
 ·exact toW_ok _
 ·show zOf u.1 = zOf (zval (zOf u.1)); rw [zval_zOf]
 ·exact ⟨(h u hu).2.1, (h u hu).1⟩
 ·show lenI (zval (zOf u.1)) ≤ M; rw [zval_zOf]; exact (h u hu).2.2
theorem cfU_len {V M : Nat} {l : List UT} (hc : CanU l) (h : okT V M l) (e : List Int) : lenI (cfU l e) ≤ M := by
 by_cases hz : cfU l e = 0
 ·rw [hz, lenI_zero]; omega
 ·obtain ⟨u, hu, he⟩ := cfU_mem hz;rw [← he, cfU_one hc.pw hu];exact (h u hu).2.2
theorem okT.can {V M : Nat} {a b : List UT} (ca : CanU a) (cb : CanU b) (ha : okT V M a) (hb : okT V M b) : okT V (M + 1) (canU (a ++ b)) := fun u hu => by
 obtain ⟨w, hw, he⟩ := canU_mem hu;have h1 := (ha.append hb) w hw;refine ⟨by rw [he]; exact h1.1, by rw [he]; exact h1.2.1, ?_⟩;have := ((canU_can (a ++ b)).mem_iff u).1 hu;rw [← this.2, cfU_canU, cfU_append];exact lenI_add (cfU_len ca ha _) (cfU_len cb hb _)
theorem CanU.one {u : UT} (h : u.1 ≠ 0) : CanU [u] := CanU.nil.cons h (by simp)
theorem EOk.unU (V i : Nat) : EOk (unU V i) := fun e he => by
 unfold Go.AL.unU at he;rcases List.mem_or_eq_of_mem_set he with h | h
 ·rw [List.eq_of_mem_replicate h]; omega
 ·omega
end Go.AL
/- The reference's rests and Rank. -/
namespace Go.AL
def RankIs (a m : Int) (most n : Nat) : Prop := 1 ≤ n ∧ n ≤ most ∧ m ∣ psiN a n ∧ ∀ k, 1 ≤ k → k < n → ¬ m ∣ psiN a k
def NoRank (a m : Int) (most : Nat) : Prop := ∀ k, 1 ≤ k → k ≤ most → ¬ m ∣ psiN a k
theorem psi_mod (a m : Int) (n : Nat) : ((a + a) % m * (psiN a (n + 1) % m) - psiN a n % m) % m = psiN a (n + 2) % m := by
 rw [← psi_rec, Int.sub_emod, Int.mul_emod, Int.emod_emod, Int.emod_emod, ← Int.mul_emod, Int.emod_emod, ← Int.sub_emod]
theorem mod_len {x m : Int} {k : Nat} (hm : 0 < m) (h : lenI m ≤ k) : lenI (x % m) ≤ k := by
 have h0 := Int.emod_nonneg x (show m ≠ 0 by omega);have h1 := Int.emod_lt_of_pos x hm;have := (lenI_nonneg (x := m) (by omega)).1 h;exact (lenI_nonneg h0).2 (by omega)
end Go.AL
namespace Go.Proofs.YtcaecieigoplbaaGreat
open Go.AL
end Go.Proofs.YtcaecieigoplbaaGreat
/- lucas.rests: the rests of psi, an iterator with variables of its own. -/
namespace Go.AL
theorem twice_mod (a m : Int) : 2 * (a % m) % m = (a + a) % m := by
 rw [Int.mul_emod, Int.emod_emod, ← Int.mul_emod]; congr 1; omega
end Go.AL
namespace Go.Proofs.YtcaecieigoplbaaGreat
open Go.AL
def restE (a m : Int) (most i : Nat) : Option (List AV) := if i < most then some [aN ((i : Int) + 1), aX (psiN a (i + 1) % m)] else none
abbrev rsC (a m : Int) (most : Nat) : List AV := [.cptr (eX a), .cptr (eX m), .cptr [aN most]]
def rsS (l : Nat) (a m : Int) (most i : Nat) : St := St.of [] [(0, .v (.func (.yield l) #[] #[])), (1, .cptr (eX a)), (2, .cptr (eX m)), (3, .cptr [aN most]), (5, .ptr 11 0), (6, .ptr 6 0), (7, .ptr 7 0), (8, .ptr 8 0), (9, aN ((i : Int) + 1))] [(11, .cells [aN 0] 95), (6, .cells (eX ((a + a) % m)) 35), (7, .cells (eX (psiN a i % m)) 35), (8, .cells (eX (psiN a (i + 1) % m)) 35)]
theorem rests1_ok (a m : Int) (most N : Nat) (ha : Fit a) (hm : 0 < m) (hl : lenI m ≤ 2000) (hmo : most ≤ 1000000) : IterFn Tryz.prog 230 (rsC a m most) (restE a m most) N := by
 refine IterFn.of_body Tryz.func230 rfl Tryz.ntmps230 rfl rfl rfl fun l => ?_;have fm : Fit m := Fit.mk (lenI_le.1 (Nat.le_trans hl (by omega)));have hlen : ∀ x : Int, lenI (x % m) ≤ 2000 := fun x => mod_len hm hl;have hf : ∀ x : Int, Fit (x % m) := fun x => Fit.mk (lenI_le.1 (Nat.le_trans (hlen x) (by omega)));have hmul : ∀ x y : Int, lenI x ≤ 2001 → lenI y ≤ 2001 → Fit (x * y) := fun x y h1 h2 => Fit.mk (lenI_le.1 (Nat.le_trans (lenI_mul x y) (by omega)));have l2 : lenI 2 ≤ 1 := lenI_small (by decide);have l1 : lenI 1 ≤ 1 := lenI_small (by decide);have e1 := chainOk (o := none) (hf a) (chRest_ok none 0 a m ha fm (by omega));have f2 : Fit (2 * (a % m)) := hmul 2 (a % m) (by omega) (by have := hlen a; omega);have e2 := chMul2 2 (a % m) fit_two (hf a) f2;have e3 := chainOk (o := none) (hf (2 * (a % m))) (chRest_ok none 0 (2 * (a % m)) m f2 fm (by omega));rw [twice_mod] at e3;have e4 := chainOk (o := none) (hf 1) (chRest_ok none 0 1 m fit_one fm (by omega));refine IWP.seqL ?_;(repeat' (first |refine qv ?_ |apply qn |apply qr |refine qe ?_|fail));refine ⟨IWP.seqL ?_⟩;(repeat' (first |refine qv ?_ |apply qr));refine qc (Of_ok 2 (by omega) (by omega)) ?_;(repeat' (first |refine qv ?_|fail));refine qi [(900, 11)] (e1) ?_;skip;refine ql eX [2, a % m] ?_;skip;refine qi [(900, 11)] (e2) ?_;(repeat' (first |refine qv ?_|fail));refine qi [(900, 11)] (e3) ?_;(repeat' (first |refine Fl.nil (fun _ => by kernel_rfl) ?_ |refine qe ?_|fail));refine ⟨IWP.seqL ?_⟩;(repeat' (first |refine qv ?_ |apply qr |refine qe ?_|fail));refine qc (Of_ok 1 (by omega) (by omega)) ?_;(repeat' (first |refine qv ?_|fail));refine qi [(900, 11)] (e4) ?_;(repeat' (first |refine Fl.nil (fun _ => by kernel_rfl) ?_ |refine qe ?_|fail));refine ⟨IWP.seqL ?_⟩;(repeat' (first |refine qv ?_ |apply qn |apply qr));refine ⟨?_⟩;refine IWP.block ?_;refine IWP.loop (G := Nat) (fun i => i ≤ most) (fun i => rsS l a m most i) (fun i => some i) (fun i => most + 1 - i) 0 rfl (by omega) ?_ ?_
 ·unfold rsS;refine Ent.of [] ?_ ?_ rfl rfl;(repeat' (first |exact True.intro |refine ⟨⟨AV.Le.refl _, rfl⟩, ?_⟩ |refine ⟨⟨⟨_, rfl, BLe.cells (LeL.refl _)⟩, rfl⟩, ?_⟩ |refine ⟨⟨⟨_, rfl, BLe.cells ?_⟩, rfl⟩, ?_⟩|fail))
  ·exact leX_zero (σ := []) (by rw [psi_zero, Int.zero_emod])
  ·exact leX (σ := []) (by rw [psi_one])
 intro i hi hN;unfold rsS;by_cases him : i < most
 ·refine IWP.seq ?_;refine IWP.seq ?_;refine IWP.yieldT 7 rfl ?_;show Fl _ _ _ _ [_, _, _, _, _, _, _] _ _ _;(repeat' (first |refine qv ?_ |apply qn |(refine Fl.splitD rfl rfl ?_ ?_ <;> intro _ <;> try (exfalso; omega))));refine ⟨rfl, ⟨.inr ⟨_, _, rfl, rfl⟩, ⟨_, _, _, [aN ((i : Int) + 1), aX (psiN a (i + 1) % m)], rfl, rfl, if_pos him, LeL.refl _, rfl⟩, (fun d hd => by cases hd; decide), ?_, ?_⟩⟩
  ·(repeat' (first | refine Fl.v rfl rfl rfl ?_ | refine Fl.b rfl rfl rfl rfl ?_ | fail));refine Fl.nil (fun h => (by cases h)) ⟨rfl, fun hi1 => ?_⟩;refine IWP.condB (t := true) rfl (fun _ => IWP.skip ?_) (fun h => (by cases h));have f5 := hmul ((a + a) % m) (psiN a (i + 1) % m) (by have := hlen (a + a); omega) (by have := hlen (psiN a (i + 1)); omega);have e5 := chMul2 ((a + a) % m) (psiN a (i + 1) % m) (hf _) (hf _) f5;have g0 := lenI_mul ((a + a) % m) (psiN a (i + 1) % m);have g1 := hlen (a + a);have g2 := hlen (psiN a (i + 1));have g3 := hlen (psiN a i);have g4 := lenI_add (x := (a + a) % m * (psiN a (i + 1) % m)) (y := -(psiN a i % m)) (M := 4000) (by omega) (by rw [lenI_neg]; omega);rw [← Int.sub_eq_add_neg] at g4;have f6 : Fit ((a + a) % m * (psiN a (i + 1) % m) - psiN a i % m) := Fit.mk (lenI_le.1 (Nat.le_trans g4 (by omega)));have e6 := chainOk (o := none) f6 (chSub_ok none 0 ((a + a) % m * (psiN a (i + 1) % m)) (psiN a i % m) f5 (hf _));have e7 := chainOk (o := none) (hf _) (chRest_ok none 0 ((a + a) % m * (psiN a (i + 1) % m) - psiN a i % m) m f6 fm (by omega));rw [psi_mod] at e7;refine IWP.seqL ?_;(repeat' (first |refine qv ?_ |apply qr |apply qb));refine ql eX [(a + a) % m, psiN a (i + 1) % m] ?_;skip;refine qi [(900, 11)] (e5) ?_;(repeat' (first |refine qv ?_|fail));refine qi [(900, 11)] (e6) ?_;(repeat' (first |refine qv ?_|fail));refine qi [(900, 11)] (e7) ?_;(repeat' (first |refine Fl.nil (fun _ => by kernel_rfl) ?_ |refine qe ?_|fail));refine ⟨IWP.last ?_⟩;(repeat' (first |refine qv ?_ |apply qn |apply qr |refine qw ?_|fail));refine ⟨i + 1, by omega, rfl, fun _ => by show most + 1 - (i + 1) < most + 1 - i; omega, ?_⟩;refine Ent.of [] ?_ ?_ rfl rfl;(repeat' (first |exact True.intro |refine ⟨⟨AV.Le.refl _, rfl⟩, ?_⟩ |refine ⟨⟨⟨_, rfl, BLe.cells (LeL.refl _)⟩, rfl⟩, ?_⟩|fail))
  ·(repeat' (first | refine Fl.v rfl rfl rfl ?_ | refine Fl.b rfl rfl rfl rfl ?_ | fail));refine Fl.nil (fun h => (by cases h)) ⟨rfl, ?_⟩;refine IWP.condB (t := false) rfl (fun h => (by cases h)) (fun _ => IWP.exit ?_);exact ⟨.inl rfl, fun i h => (by cases h)⟩
 ·refine IWP.seq ?_;refine IWP.seqL ?_;(repeat' (first |refine qv ?_ |apply qn |apply qr |refine Fl.skip rfl rfl ?_ |(refine Fl.splitD rfl rfl ?_ ?_ <;> intro _ <;> try (exfalso; omega))));refine ⟨?_⟩;refine IWP.condB (t := false) rfl (fun h => (by cases h)) (fun _ => IWP.exit ?_);refine ⟨.inl rfl, fun j h => ?_⟩;injection h with h;subst h;exact if_neg him
end Go.Proofs.YtcaecieigoplbaaGreat
/- large.Bits, lucas.modulus, lucas.Rank. -/
namespace Go.AL
theorem top_facts {x : Int} (h0 : 0 < x) : ∃ (n : Nat) (u lo : Int), (toW x).length = n + 1 ∧ (toW x)[n]? = some u ∧ 0 ≤ lo ∧ lo < BB n ∧ x = lo + BB n * u ∧ 1 ≤ u ∧ u < 4294967296 := by
 have hne := toW_ne_nil h0;have wx := toW_ok x;have vx := val_toW (show 0 ≤ x by omega);obtain ⟨n, hn⟩ : ∃ n, (toW x).length = n + 1 := ⟨(toW x).length - 1, by have := List.length_pos_iff.2 hne; omega⟩;obtain ⟨u, hu⟩ : ∃ u, (toW x)[n]? = some u := ⟨_, List.getElem?_eq_getElem (by omega)⟩;have hub := wx.get hu;have hval := val_top hu;rw [← hn, List.take_length, vx] at hval;have hb := val_bounds (k := n) wx (by omega);have hge := BB_len_le (z := x) h0;rw [show (toW x).length - 1 = n by omega] at hge;refine ⟨n, u, val ((toW x).take n), hn, hu, hb.1, hb.2, hval, ?_, hub.2⟩;rcases Int.lt_or_le u 1 with h | h
 ·have : u = 0 := by omega
  subst this;omega
 ·exact h
theorem rank_ex {a m : Int} {most : Nat} (h : ¬ NoRank a m most) : ∃ n, RankIs a m most n := by
 have h1 : ∃ k, 1 ≤ k ∧ k ≤ most ∧ m ∣ psiN a k := Classical.byContradiction fun hc => h fun k k1 k2 k3 => hc ⟨k, k1, k2, k3⟩;obtain ⟨k, hk⟩ := h1
 induction k using Nat.strongRecOn with
 | ind k ih =>
  by_cases hs : ∃ j, 1 ≤ j ∧ j < k ∧ m ∣ psiN a j
  ·obtain ⟨j, j1, j2, j3⟩ := hs;exact ih j j2 ⟨j1, by omega, j3⟩
  ·exact ⟨k, hk.1, hk.2.1, hk.2.2, fun j j1 j2 j3 => hs ⟨j, j1, j2, j3⟩⟩
end Go.AL
namespace Go.Proofs.YtcaecieigoplbaaGreat
open Go.AL
theorem size_ok (x : Int) (h0 : 0 ≤ x) (hx : (toW x).length ≤ 100000) : PureFn Tryz.prog 174 [aW (toW x)] (aN (bitl x.natAbs)) := by
 refine PureFn.of_body Tryz.func174 rfl Tryz.ntmps174 rfl rfl ?_;have wx := toW_ok x;rcases Int.lt_or_eq_of_le h0 with h | h
 ·obtain ⟨n, u, lo, hn, hu, hlo, hlo2, hval, hu1, hu2⟩ := top_facts h;have hl := lenB_spec (n := u.toNat) (by omega);have hbw := bitl_words (m := x.natAbs) (n := n) (k := lenB u.toNat) (u := u) (lo := lo) hl.1 hlo hlo2 (by omega) hl.2.1 hl.2.2;have hL := Len32_ok u.toNat (by omega)
  have hu' : (toW x)[(((toW x).length : Int) - 1).toNat]? = some u := by rwa [show (((toW x).length : Int) - 1).toNat = n by omega]
  have hl32 : lenB u.toNat ≤ 32 := lenB_le (by omega);(repeat' (first |refine qv ?_ |apply qn |apply qs |apply qr |refine qw ?_ |(refine AWP.condD rfl ?_ ?_ <;> intro _ <;> try (exfalso; omega)) |apply qk |refine qK ?_|fail));refine Fl.call rfl hL rfl rfl rfl (LeL.cons (AV.Le.int (by omega)) LeL.nil) ?_;(repeat' (first |refine qv ?_ |apply qn |refine qw ?_ |apply qt));refine RetOk.of rfl (AV.Le.int ?_);rw [hbw]; omega
 ·subst h
  have : (toW 0).length = 0 := by rw [toW_zero]; rfl
  (repeat' (first |refine qv ?_ |apply qn |apply qs |apply qr |(refine AWP.condD rfl ?_ ?_ <;> intro _ <;> try (exfalso; omega)) |apply qt));exact RetOk.of rfl (AV.Le.refl _)
theorem Bits_ok (x : Int) (hx : Fit x) : PureFn Tryz.prog 132 [aX x] (aN (bitl x.natAbs)) := by
 refine PureFn.of_body Tryz.func132 rfl Tryz.ntmps132 rfl rfl ?_;have hs := size_ok (x.natAbs : Int) (by omega) (by have := hx.lenI; unfold lenI at this; omega);rw [show ((x.natAbs : Nat) : Int).natAbs = x.natAbs from rfl] at hs;(repeat' (first |refine qv ?_ |apply qn |apply qs |apply qr |refine qe ?_|fail));refine qc (Valid_int x hx) ?_;(repeat' (first |refine qv ?_ |apply qn |apply qs |apply qr |refine AWP.condF rfl ?_ |apply qk));refine qc (hs) ?_;(repeat' (first |refine qv ?_ |apply qn |apply qt));exact RetOk.of rfl (AV.Le.refl _)
theorem modulus_ok (m : Int) (hm : Fit m) (b : Bool) (hb : b = true ↔ 1 ≤ m ∧ bitl m.natAbs ≤ 4000) : PureFn Tryz.prog 206 [aX m] (aB b) := by
 refine PureFn.of_body Tryz.func206 rfl Tryz.ntmps206 rfl rfl ?_;(repeat' (first |refine qv ?_ |apply qn |apply qs |apply qr |refine qe ?_|fail));refine qc (Of_ok 1 (by omega) (by omega)) ?_;skip;refine qc (Less_ok m 1 hm fit_one) ?_;(repeat' (first |refine qv ?_ |refine Fl.nil (fun _ => by kernel_rfl) ?_ |refine Fl.skip rfl rfl ?_ |apply qt |(refine Fl.splitN rfl rfl ?_ ?_ <;> intro _ <;> try (exfalso; omega))))
 ·rename_i h;refine qc (Bits_ok m hm) ?_;(repeat' (first |refine qv ?_ |refine Fl.nil (fun _ => by kernel_rfl) ?_ |apply qt));refine RetOk.of rfl (AV.Le.bool ?_)
  cases b with
  | true => exact decide_eq_true (by have := (hb.1 rfl).2; omega)
  | false => exact decide_eq_false fun k => by have := hb.2 ⟨by omega, by omega⟩; cases this
 ·rename_i h;refine RetOk.of rfl (AV.Le.bool ?_)
  cases b with
  | true => have := (hb.1 rfl).1; omega
  | false => rfl
theorem rests_ok (a m : Int) (most : Nat) : PureFn Tryz.prog 207 [aX a, aX m, aN most] (.fn 230 (rsC a m most)) := by
 refine PureFn.of_body Tryz.func207 rfl Tryz.ntmps207 rfl rfl ?_;refine AWP.seqS ?_;(repeat' (first |refine qv ?_ |apply qn |apply qr |refine qe ?_|fail));refine ⟨?_⟩;refine AWP.ent (Ent.freezeC 3 3 rfl rfl rfl rfl) ?_;refine AWP.ent (Ent.freezeC 4 4 rfl rfl rfl rfl) ?_;refine AWP.ent (Ent.freezeC 5 5 rfl rfl rfl rfl) ?_;(repeat' (first |refine qv ?_ |apply qn |apply qs |apply qr |apply qt));exact RetOk.of rfl (AV.Le.refl _)
theorem fits2_ok (a m : Int) (ha : Fit a) (hm : Fit m) (h2 : 2 ≤ a) : PureFn Tryz.prog 129 [aX a, .sl 2 eX [m]] (aN 0) := by
 refine PureFn.of_body Tryz.func129 rfl Tryz.ntmps129 rfl rfl ?_;(repeat' (first |refine qv ?_ |apply qn |apply qs |apply qr |refine qe ?_|fail));refine ql eX [a] ?_;skip;refine qc (chValidX_ok [a] (by simp [ha]) (by simp)) ?_;(repeat' (first |refine qv ?_|fail));refine qc (chValidX_ok [m] (by simp [hm]) (by simp)) ?_;(repeat' (first |refine qv ?_ |apply qn |apply qs |apply qr |refine AWP.condF rfl ?_ |apply qk));refine qc (Of_ok 2 (by omega) (by omega)) ?_;skip;have hl := Less_ok a 2 ha (fit_small (by omega) (by omega));rw [decide_eq_false (by omega)] at hl;refine qc (hl) ?_;(repeat' (first |refine qv ?_ |apply qn |refine Fl.nil (fun _ => by kernel_rfl) ?_ |apply qs |apply qr |refine AWP.condF rfl ?_ |apply qk |apply qt));exact RetOk.of rfl (AV.Le.refl _)
def rkS (a m : Int) (most : Nat) (x : Int) : St := St.of [] [(6, .ptr 6 0), (7, .ptr 7 0), (32, .fn 230 (rsC a m most))] [(6, .cells [aN x] 3), (7, .cells [aN 0] 28)]
theorem rkS_eq (a m : Int) (most : Nat) (x : Int) : rkS a m most x = St.of [6, 7] [(6, .ptr 6 0), (7, .ptr 7 0), (32, .fn 230 (rsC a m most))] [(6, .cells [aN x] 3), (7, .cells [aN 0] 28)] := by
 unfold rkS St.of;congr 1;funext id;show (memI [6, 7] id || memI [] id) = (memI [6, 7] id || memI [6, 7] id)
 cases memI [6, 7] id <;> rfl
theorem lRank_ok (a m : Int) (most : Nat) (ha : Fit a) (h2 : 2 ≤ a) (hm : Fit m) (hm0 : 1 ≤ m) (hmb : bitl m.natAbs ≤ 4000) (hmo : 1 ≤ most) (hmo2 : most ≤ 20000) (r : AV) (hr1 : ∀ n : Nat, RankIs a m most n → r = .tup [aN n, aN 0]) (hr2 : NoRank a m most → r = .tup [aN 0, aN 6]) : PureFn Tryz.prog 168 [aX a, aX m, aN most] r := by
 refine PureFn.of_bodyF Tryz.func168 rfl Tryz.ntmps168 rfl rfl ?_
 have hml : lenI m ≤ 2000 := by
  refine lenI_le.2 ?_;rw [BB_pow];have h3 := bitl_lt m.natAbs;obtain ⟨E, hE⟩ : ∃ E, E = 32 * 2000 := ⟨_, rfl⟩;rw [← hE];have h4 : 2 ^ bitl m.natAbs ≤ 2 ^ E := Nat.pow_le_pow_right (by omega) (by omega)
  have h5 : ((m.natAbs : Nat) : Int) < ((2 ^ E : Nat) : Int) := by exact_mod_cast Nat.lt_of_lt_of_le h3 h4
  rwa [Int.natCast_pow] at h5
 obtain ⟨N, hN0, hNr⟩ : ∃ N : Nat, 0 < N ∧ ((RankIs a m most N) ∨ (N = most + 1 ∧ NoRank a m most)) := by
  rcases Classical.em (NoRank a m most) with h | h
  ·exact ⟨most + 1, by omega, .inr ⟨rfl, h⟩⟩
  ·obtain ⟨n, hn⟩ := rank_ex h;exact ⟨n, hn.1, .inl hn⟩
 have it := rests1_ok a m most N ha (by omega) hml (by omega);have cm := modulus_ok m hm true ⟨fun _ => ⟨hm0, hmb⟩, fun _ => rfl⟩;refine FWP.seqL ?_;(repeat' (first |apply qn |apply qr |refine qe ?_|fail));refine ⟨FWP.seqL ?_⟩;(repeat' (first |refine qv ?_ |apply qs |apply qr));refine ql eX [m] ?_;skip;refine qc (fits2_ok a m ha hm h2) ?_;(repeat' (first |refine qv ?_ |apply qn |apply qs |apply qr |refine AWP.condF rfl ?_ |apply qk));refine ⟨FWP.seqL ?_⟩;(repeat' (first |refine qv ?_ |apply qs |apply qr));refine qc (cm) ?_;(repeat' (first |refine qv ?_ |apply qn |(refine AWP.condD rfl ?_ ?_ <;> intro _ <;> try (exfalso; omega)) |apply qk |(refine Fl.splitD rfl rfl ?_ ?_ <;> intro _ <;> try (exfalso; omega))));refine ⟨FWP.seq (FWP.seqL ?_)⟩;(repeat' (first |refine qv ?_ |apply qr));refine qc (rests_ok a m most) ?_;(repeat' (first |apply qn));refine ⟨FWP.block ?_⟩;refine FWP.ent (s' := rkS a m most 0) ?_ ?_
 ·unfold rkS;refine Ent.of [] ?_ ?_ rfl rfl;(repeat' (first |exact True.intro |refine ⟨⟨AV.Le.refl _, rfl⟩, ?_⟩ |refine ⟨⟨⟨_, rfl, BLe.cells (LeL.refl _)⟩, rfl⟩, ?_⟩|fail))
 refine FWP.rangeFunc it hN0 rfl rfl rfl rfl [6, 7] (by simp) ?_ (fun _ => rkS a m most 0) (fun _ => rfl) rfl ?_ ?_ ?_
 ·exact lookE_within rfl
 ·intro i xs h;unfold restE at h;split at h
  ·injection h with h;exact ⟨_, _, h.symm⟩
  ·cases h
 ·intro i x y l hi he;unfold restE at he;split at he
  ·rename_i him;injection he with he;injection he with h1 he;injection he with h2 _;subst h1 h2;refine RWP.seqR rfl ?_;(repeat' (first |refine qv ?_ |apply qn));refine ⟨rfl, RWP.region (K := fun s1 => RWP _ _ _ _ _ _ s1) rfl (fun s k => k) ?_⟩;(repeat' (first |apply qn |refine qe ?_|fail));refine ⟨rfl, RWP.block (RWP.seqR rfl ?_)⟩;(repeat' (first |refine qv ?_ |apply qn))
   have hzi : ((toW (((psiN a (i + 1) % m).natAbs : Nat) : Int)).length : Int) = 0 ↔ m ∣ psiN a (i + 1) := by
    refine ⟨fun h => ?_, fun h => ?_⟩
    ·have h1 : ((psiN a (i + 1) % m).natAbs : Int) = 0 := (toW_nil_iff (by omega)).1 (List.eq_nil_of_length_eq_zero (by omega));exact Int.dvd_of_emod_eq_zero (by omega)
    ·rw [Int.emod_eq_zero_of_dvd h];show ((toW 0).length : Int) = 0;rw [toW_zero]; rfl
   refine ⟨rfl, RWP.condD rfl (fun hz => ?_) (fun hz => RWP.skip ?_)⟩
   ·have hd := hzi.1 hz
    have hr : RankIs a m most (i + 1) := by
     rcases hNr with k | ⟨_, k⟩
     ·rcases (show i + 1 = N ∨ i + 1 < N by omega) with e | e
      ·rw [e]; exact k
      ·exact absurd hd (k.2.2.2 (i + 1) (by omega) e)
     ·exact absurd hd (k (i + 1) (by omega) (by omega))
    rw [hr1 (i + 1) hr];refine RWP.seqR rfl ?_;(repeat' (first |refine qv ?_ |apply qn |refine qe ?_|fail));refine ⟨rfl, RWP.ret ?_⟩;refine ⟨rkS a m most ((i : Int) + 1), rfl, Ent.anyS ?_, ?_⟩
    ·rw [rkS_eq a m most ((i : Int) + 1)];refine Ent.of [] ?_ ?_ rfl rfl;(repeat' (first |exact True.intro |refine ⟨⟨AV.Le.refl _, rfl⟩, ?_⟩ |refine ⟨⟨⟨_, rfl, BLe.cells (LeL.refl _)⟩, rfl⟩, ?_⟩|fail))
    ·unfold rkS;exact RetOk.of rfl (AV.Le.refl _)
   ·have hd : ¬ m ∣ psiN a (i + 1) := fun k => hz (hzi.2 k);refine ⟨?_, Ent.anyS ?_⟩
    ·rcases hNr with k | ⟨k1, _⟩
     ·rcases (show i + 1 = N ∨ i + 1 < N by omega) with e | e
      ·rw [e] at hd; exact absurd k.2.2.1 hd
      ·exact e
     ·omega
    ·rw [rkS_eq];refine Ent.of [] ?_ ?_ rfl rfl;(repeat' (first |exact True.intro |refine ⟨⟨AV.Le.refl _, rfl⟩, ?_⟩ |refine ⟨⟨⟨_, rfl, BLe.cells (LeL.refl _)⟩, rfl⟩, ?_⟩|fail))
  ·cases he
 ·intro i hiN h
  have hno : NoRank a m most := by
   rcases hNr with k | ⟨_, k⟩
   ·unfold restE at h;split at h
    ·cases h
    ·exfalso; have := k.2.1; omega
   ·exact k
  refine FWP.lift ?_;unfold rkS;rw [hr2 hno];(repeat' (first |apply qn |apply qs |apply qr |refine qe ?_ |apply qt));exact RetOk.of rfl (AV.Le.refl _)
end Go.Proofs.YtcaecieigoplbaaGreat
/- The chain inside define's finder. -/
namespace Go.Proofs.YtcaecieigoplbaaGreat
open Go.AL

abbrev finB (s : Bool) (a : List Int) (e : Int) : Bx := .cells [.v (.int .i64 e), aB s, aW a] 118
theorem fkeep_ok (s : Bool) (a : List Int) (e x : Int) : IoFn Tryz.prog 148 [.ptr 900 0, aX (clip x), aN (szErr x)] [(900, finB s a e)] (.ret (aX (cV e x))) [(900, finB s a (cE e x))] := by
 refine IoFn.of_body Tryz.func148 rfl Tryz.ntmps148 rfl rfl rfl ?_;(repeat' (first |refine qv ?_ |apply qn |apply qs |apply qr |refine qe ?_ |(refine AWP.condD rfl ?_ ?_ <;> intro _ <;> try (exfalso; omega)) |(refine AWP.condN rfl ?_ ?_ <;> intro _ <;> try (exfalso; omega)) |apply qk |apply qt))
 ·rename_i h0 h1;subst h0;have hf : ¬ Fit x := fun h => h1 (szErr_eq.2 h);exact ⟨⟨[], _, _, Ent.refl _ _ _, rfl, AV.Le.agg (leX_zero (cV_not hf)), rfl, ⟨⟨⟨_, rfl, BLe.cells (LeL.cons (AV.Le.int (by unfold cE; rw [if_pos rfl])) (LeL.refl _))⟩, rfl⟩, trivial⟩, rfl, rfl⟩⟩
 ·rename_i h0 h1;subst h0;have hf := szErr_eq.1 h1;exact ⟨⟨[], _, _, Ent.refl _ _ _, rfl, AV.Le.agg (leX (by rw [cV_ok hf, clip_fit hf])), rfl, ⟨⟨⟨_, rfl, BLe.cells (LeL.cons (AV.Le.int (by unfold cE; rw [if_pos rfl])) (LeL.refl _))⟩, rfl⟩, trivial⟩, rfl, rfl⟩⟩
 ·rename_i h0 h1;exact ⟨⟨[], _, _, Ent.refl _ _ _, rfl, AV.Le.agg (leX_zero (cV_err h0)), rfl, ⟨⟨⟨_, rfl, BLe.cells (LeL.cons (AV.Le.int ((cE_err h0).symm)) (LeL.refl _))⟩, rfl⟩, trivial⟩, rfl, rfl⟩⟩
theorem fchAdd_ok (s : Bool) (a : List Int) (e x y : Int) (hx : Fit x) (hy : Fit y) : IoFn Tryz.prog 79 [.ptr 900 0, aX x, aX y] [(900, finB s a e)] (.ret (aX (cV e (x + y)))) [(900, finB s a (cE e (x + y)))] := by
 have hk := fkeep_ok s a e (x + y);refine IoFn.of_body Tryz.func79 rfl Tryz.ntmps79 rfl rfl rfl ?_;(repeat' (first |refine qv ?_ |apply qn |apply qs |apply qr |refine qe ?_|fail));refine qc (Add_ok x y hx hy) ?_;(repeat' (first |refine qv ?_|fail));refine qi [] hk ?_;(repeat' (first |apply qn |refine qe ?_ |apply qt));exact ⟨⟨[], _, _, Ent.refl _ _ _, rfl, AV.Le.refl _, rfl, ⟨⟨⟨_, rfl, BLe.cells (LeL.refl _)⟩, rfl⟩, trivial⟩, rfl, rfl⟩⟩
theorem fchSub_ok (s : Bool) (a : List Int) (e x y : Int) (hx : Fit x) (hy : Fit y) : IoFn Tryz.prog 82 [.ptr 900 0, aX x, aX y] [(900, finB s a e)] (.ret (aX (cV e (x - y)))) [(900, finB s a (cE e (x - y)))] := by
 have hk := fkeep_ok s a e (x - y);refine IoFn.of_body Tryz.func82 rfl Tryz.ntmps82 rfl rfl rfl ?_;(repeat' (first |refine qv ?_ |apply qn |apply qs |apply qr |refine qe ?_|fail));refine qc (Sub_ok x y hx hy) ?_;(repeat' (first |refine qv ?_|fail));refine qi [] hk ?_;(repeat' (first |apply qn |refine qe ?_ |apply qt));exact ⟨⟨[], _, _, Ent.refl _ _ _, rfl, AV.Le.refl _, rfl, ⟨⟨⟨_, rfl, BLe.cells (LeL.refl _)⟩, rfl⟩, trivial⟩, rfl, rfl⟩⟩
theorem fchMul_ok (s : Bool) (a : List Int) (e : Int) (l : List Int) (hl : ∀ x ∈ l, Fit x) (hn : l.length ≤ 1000) : IoFn Tryz.prog 101 [.ptr 900 0, .sl 2 eX l] [(900, finB s a e)] (.ret (aX (mulL e 1 l).1)) [(900, finB s a (mulL e 1 l).2)] := by
 have hk := fkeep_ok s a;refine IoFn.of_body Tryz.func101 rfl Tryz.ntmps101 rfl rfl rfl ?_;(repeat' (first |apply qn |apply qs |apply qr |refine qe ?_|fail));refine qc (Of_ok 1 (by omega) (by omega)) ?_;(repeat' (first |refine qv ?_ |apply qn |apply qs |apply qr |refine qe ?_ |apply qb));refine AWP.loop (G := Nat × Int × Int) (fun g => g.1 ≤ l.length ∧ Fit g.2.1 ∧ mulL g.2.2 g.2.1 (l.drop g.1) = mulL e 1 l) (fun g => St.of [900] [(0, .ptr 900 0), (4, .ptr 4 0), (5, .ptr 5 0), (9, .sl 2 eX l), (10, aN l.length), (11, aN g.1)] [(4, .cells [aB false, .v (.slice none 0 0)] 35), (5, .cells (eX g.2.1) 35), (900, finB s a g.2.2)]) (fun g => l.length - g.1) (0, 1, e) ⟨by omega, fit_one, rfl⟩ ?_ ?_
 ·refine Ent.of [] ?_ ?_ rfl rfl;(repeat' (first |exact True.intro |refine ⟨⟨AV.Le.refl _, rfl⟩, ?_⟩ |refine ⟨⟨⟨_, rfl, BLe.cells (LeL.refl _)⟩, rfl⟩, ?_⟩|fail))
 ·intro ⟨i, out, e'⟩ ⟨k0, k1, k2⟩;(repeat' (first |refine qv ?_ |apply qn |apply qs |apply qr |refine qe ?_ |(refine AWP.condD rfl ?_ ?_ <;> intro _ <;> try (exfalso; omega)) |apply qb |apply qk |apply qx |apply qt |(refine Fl.el rfl rfl rfl rfl rfl rfl rfl rfl (by omega) (by omega) ?_; intro _ _)|fail))
  ·rename_i hi c hc0;rw [Int.toNat_natCast] at hc0;have hk := hk e' (out * c);refine qc (Mul_ok out c k1 (hl c (List.mem_of_getElem? hc0))) ?_;(repeat' (first |refine qv ?_|fail));refine qi [] hk ?_;(repeat' (first |refine qv ?_ |apply qn |apply qr |refine qw ?_ |refine qe ?_|fail));refine LoopEnd.of (i + 1, cV e' (out * c), cE e' (out * c)) ⟨by omega, cV_fit _ _, ?_⟩ (by dsimp only; omega) ?_
   ·rw [← k2];dsimp only;rw [List.drop_eq_getElem_cons (show i < l.length by omega), (List.getElem?_eq_some_iff.1 hc0).2];rfl
   ·refine Ent.of [] ?_ ?_ rfl rfl;(repeat' (first |exact True.intro |refine ⟨⟨AV.Le.refl _, rfl⟩, ?_⟩ |refine ⟨⟨⟨_, rfl, BLe.cells (LeL.refl _)⟩, rfl⟩, ?_⟩|fail))
  ·rename_i hi;have hd : l.drop i = [] := List.drop_of_length_le (by omega);rw [hd] at k2;have k2 : (out, e') = mulL e 1 l := k2;rw [← k2];exact ⟨⟨[], _, _, Ent.refl _ _ _, rfl, AV.Le.refl _, rfl, ⟨⟨⟨_, rfl, BLe.cells (LeL.refl _)⟩, rfl⟩, trivial⟩, rfl, rfl⟩⟩
theorem fchSquare_ok (s : Bool) (a : List Int) (e x : Int) (hx : Fit x) : IoFn Tryz.prog 114 [.ptr 900 0, aX x] [(900, finB s a e)] (.ret (aX (mulL e 1 [x, x]).1)) [(900, finB s a (mulL e 1 [x, x]).2)] := by
 have hk := fchMul_ok s a e [x, x] (by simp [hx]) (by simp);refine IoFn.of_body Tryz.func114 rfl Tryz.ntmps114 rfl rfl rfl ?_;(repeat' (first |refine qv ?_ |apply qn |apply qs |apply qr |refine qe ?_|fail));refine ql eX [x, x] ?_;skip;refine qi [] hk ?_;(repeat' (first |apply qn |refine qe ?_ |apply qt));exact ⟨⟨[], _, _, Ent.refl _ _ _, rfl, AV.Le.refl _, rfl, ⟨⟨⟨_, rfl, BLe.cells (LeL.refl _)⟩, rfl⟩, trivial⟩, rfl, rfl⟩⟩
theorem fchQuo_ok (s : Bool) (a : List Int) (e x y : Int) (hx : Fit x) (hy : Fit y) (h : e = 0 → y ≠ 0) : IoFn Tryz.prog 80 [.ptr 900 0, aX x, aX y] [(900, finB s a e)] (.ret (aX (cV e (x / y)))) [(900, finB s a (cE e (x / y)))] := by
 have hk := fkeep_ok s a e (x / y);refine IoFn.of_body Tryz.func80 rfl Tryz.ntmps80 rfl rfl rfl ?_;refine AWP.seqS ?_;(repeat' (first |apply qn |apply qr |refine qe ?_|fail));refine ⟨AWP.seqS ?_⟩;(repeat' (first |refine qv ?_ |apply qn |apply qs |apply qr |refine qe ?_ |(refine AWP.condN rfl ?_ ?_ <;> intro _ <;> try (exfalso; omega)) |apply qk |apply qt))
 ·rename_i he;refine ⟨⟨[], _, _, Ent.refl _ _ _, rfl, AV.Le.agg (leX_zero (cV_err he)), rfl, ⟨⟨⟨_, rfl, BLe.cells (LeL.cons (AV.Le.int (cE_err he).symm) (LeL.refl _))⟩, rfl⟩, trivial⟩, rfl, rfl⟩⟩
 ·rename_i he;obtain ⟨f1, f2⟩ := div_fit hx hy (h he);rw [clip_fit f1, szErr_fit f1] at hk;refine ⟨AWP.seqS ?_⟩;(repeat' (first |refine qv ?_ |apply qr));refine qc (Div_ok x y hx hy (h he)) ?_;(repeat' (first |refine qv ?_ |apply qn |refine qe ?_|fail));refine ⟨?_⟩;(repeat' (first |refine qv ?_ |apply qs |apply qr));refine qi [] hk ?_;(repeat' (first |apply qn |refine qe ?_ |apply qt));exact ⟨⟨[], _, _, Ent.refl _ _ _, rfl, AV.Le.refl _, rfl, ⟨⟨⟨_, rfl, BLe.cells (LeL.refl _)⟩, rfl⟩, trivial⟩, rfl, rfl⟩⟩
end Go.Proofs.YtcaecieigoplbaaGreat
/- The finder's own methods. -/
namespace Go.AL
theorem RankIs.fun {a m : Int} {N n n' : Nat} (h : RankIs a m N n) (h' : RankIs a m N n') : n = n' := by
 rcases Nat.lt_trichotomy n n' with k | k | k
 ·exact absurd h.2.2.1 (h'.2.2.2 n h.1 k)
 ·exact k
 ·exact absurd h'.2.2.1 (h.2.2.2 n' h'.1 k)
end Go.AL
namespace Go.Proofs.YtcaecieigoplbaaGreat
open Go.AL

theorem fdo_ok (s : Bool) (a : List Int) (e x k : Int) : IoFn Tryz.prog 167 [.ptr 900 0, aX x, aN k] [(900, finB s a e)] (.ret (aX x)) [(900, finB s a (if e = 0 then k else e))] := by
 refine IoFn.of_body Tryz.func167 rfl Tryz.ntmps167 rfl rfl rfl ?_;(repeat' (first |refine qv ?_ |apply qn |apply qs |apply qr |refine qe ?_ |(refine AWP.condD rfl ?_ ?_ <;> intro _ <;> try (exfalso; omega)) |apply qk |apply qt))
 ·rename_i h;exact ⟨⟨[], _, _, Ent.refl _ _ _, rfl, AV.Le.refl _, rfl, ⟨⟨⟨_, rfl, BLe.cells (LeL.cons (AV.Le.int (by rw [if_pos h])) (LeL.refl _))⟩, rfl⟩, trivial⟩, rfl, rfl⟩⟩
 ·rename_i h;exact ⟨⟨[], _, _, Ent.refl _ _ _, rfl, AV.Le.refl _, rfl, ⟨⟨⟨_, rfl, BLe.cells (LeL.cons (AV.Le.int (by rw [if_neg h])) (LeL.refl _))⟩, rfl⟩, trivial⟩, rfl, rfl⟩⟩
theorem fpsi_ok (s : Bool) (b : List Int) (e a n : Int) (ha : Fit a) (h2 : 2 ≤ a) (h0 : 1 ≤ n) (h1 : n ≤ 9223372036854775807) : IoFn Tryz.prog 112 [.ptr 900 0, aX a, aN n] [(900, finB s b e)] (.ret (aX (clip (psiN a n.toNat)))) [(900, finB s b (cE e (psiN a n.toNat)))] := by
 have hk := fdo_ok s b e (clip (psiN a n.toNat)) (szErr (psiN a n.toNat));refine IoFn.of_body Tryz.func112 rfl Tryz.ntmps112 rfl rfl rfl ?_;(repeat' (first |refine qv ?_ |apply qn |apply qs |apply qr |refine qe ?_|fail));refine qc (Psi_ok a n ha h2 h0 h1) ?_;(repeat' (first |refine qv ?_|fail));refine qi [] hk ?_;(repeat' (first |apply qn |refine qe ?_ |apply qt));exact ⟨⟨[], _, _, Ent.refl _ _ _, rfl, AV.Le.refl _, rfl, ⟨⟨⟨_, rfl, BLe.cells (LeL.refl _)⟩, rfl⟩, trivial⟩, rfl, rfl⟩⟩
theorem fchi_ok (s : Bool) (b : List Int) (e a n : Int) (ha : Fit a) (h2 : 2 ≤ a) (h0 : 1 ≤ n) (h1 : n ≤ 9223372036854775807) : IoFn Tryz.prog 113 [.ptr 900 0, aX a, aN n] [(900, finB s b e)] (.ret (aX (clip (chiN a n.toNat)))) [(900, finB s b (cE e (chiN a n.toNat)))] := by
 have hk := fdo_ok s b e (clip (chiN a n.toNat)) (szErr (chiN a n.toNat));refine IoFn.of_body Tryz.func113 rfl Tryz.ntmps113 rfl rfl rfl ?_;(repeat' (first |refine qv ?_ |apply qn |apply qs |apply qr |refine qe ?_|fail));refine qc (Chi2_ok a n ha h2 h0 h1) ?_;(repeat' (first |refine qv ?_|fail));refine qi [] hk ?_;(repeat' (first |apply qn |refine qe ?_ |apply qt));exact ⟨⟨[], _, _, Ent.refl _ _ _, rfl, AV.Le.refl _, rfl, ⟨⟨⟨_, rfl, BLe.cells (LeL.refl _)⟩, rfl⟩, trivial⟩, rfl, rfl⟩⟩
theorem frank_ok (a m : Int) (n : Nat) (ha : Fit a) (h2 : 2 ≤ a) (hm : Fit m) (hm0 : 1 ≤ m) (hmb : bitl m.natAbs ≤ 4000) (hr : RankIs a m 20000 n) : IoFn Tryz.prog 115 [.ptr 900 0, aX m] [(900, finB (decide (a < 0)) (toW a.natAbs) 0)] (.ret (aN n)) [(900, finB (decide (a < 0)) (toW a.natAbs) 0)] := by
 have hk := lRank_ok a m 20000 ha h2 hm hm0 hmb (by omega) (by omega) (.tup [aN n, aN 0]) (fun n' h => by rw [hr.fun h]) (fun h => absurd hr.2.2.1 (h n hr.1 hr.2.1));refine IoFn.of_body Tryz.func115 rfl Tryz.ntmps115 rfl rfl rfl ?_;(repeat' (first |refine qv ?_ |apply qn |apply qs |apply qr |refine qe ?_ |refine AWP.condF rfl ?_ |apply qk));refine qc (hk) ?_;(repeat' (first |refine qv ?_ |apply qn |refine Fl.nil (fun _ => by kernel_rfl) ?_ |apply qs |apply qr |refine AWP.condF rfl ?_ |apply qk |apply qt));exact ⟨⟨[], _, _, Ent.refl _ _ _, rfl, AV.Le.refl _, rfl, ⟨⟨⟨_, rfl, BLe.cells (LeL.refl _)⟩, rfl⟩, trivial⟩, rfl, rfl⟩⟩
theorem frank_none (a m : Int) (ha : Fit a) (h2 : 2 ≤ a) (hm : Fit m) (hm0 : 1 ≤ m) (hmb : bitl m.natAbs ≤ 4000) (hr : NoRank a m 20000) : IoFn Tryz.prog 115 [.ptr 900 0, aX m] [(900, finB (decide (a < 0)) (toW a.natAbs) 0)] (.ret (aN 0)) [(900, finB (decide (a < 0)) (toW a.natAbs) 4)] := by
 have hk := lRank_ok a m 20000 ha h2 hm hm0 hmb (by omega) (by omega) (.tup [aN 0, aN 6]) (fun n h => absurd h.2.2.1 (hr n h.1 h.2.1)) (fun _ => rfl);refine IoFn.of_body Tryz.func115 rfl Tryz.ntmps115 rfl rfl rfl ?_;(repeat' (first |refine qv ?_ |apply qn |apply qs |apply qr |refine qe ?_ |refine AWP.condF rfl ?_ |apply qk));refine qc (hk) ?_;(repeat' (first |refine qv ?_ |apply qn |refine Fl.nil (fun _ => by kernel_rfl) ?_ |apply qs |apply qr |refine qe ?_ |refine AWP.condT rfl ?_ |apply qt));exact ⟨⟨[], _, _, Ent.refl _ _ _, rfl, AV.Le.refl _, rfl, ⟨⟨⟨_, rfl, BLe.cells (LeL.refl _)⟩, rfl⟩, trivial⟩, rfl, rfl⟩⟩
theorem lRank_big (a m : Int) (most : Nat) (ha : Fit a) (h2 : 2 ≤ a) (hm : Fit m) (hmb : ¬ (1 ≤ m ∧ bitl m.natAbs ≤ 4000)) (hmo2 : most ≤ 20000) : PureFn Tryz.prog 168 [aX a, aX m, aN most] (.tup [aN 0, aN 2]) := by
 refine PureFn.of_body Tryz.func168 rfl Tryz.ntmps168 rfl rfl ?_;have cm := modulus_ok m hm false ⟨fun h => absurd h (by simp), fun h => absurd h hmb⟩;refine AWP.seqS ?_;(repeat' (first |apply qn |apply qr |refine qe ?_|fail));refine ⟨AWP.seqS ?_⟩;(repeat' (first |refine qv ?_ |apply qs |apply qr));refine ql eX [m] ?_;skip;refine qc (fits2_ok a m ha hm h2) ?_;(repeat' (first |refine qv ?_ |apply qn |apply qs |apply qr |refine AWP.condF rfl ?_ |apply qk));refine ⟨AWP.seqS ?_⟩;(repeat' (first |refine qv ?_ |apply qs |apply qr));refine qc (cm) ?_;(repeat' (first |refine qv ?_ |apply qn |apply qs |apply qr |refine qe ?_ |refine Fl.skip rfl rfl ?_ |refine AWP.condT rfl ?_ |apply qt));exact RetOk.of rfl (AV.Le.refl _)
theorem frank_big (a m : Int) (ha : Fit a) (h2 : 2 ≤ a) (hm : Fit m) (hmb : ¬ (1 ≤ m ∧ bitl m.natAbs ≤ 4000)) : IoFn Tryz.prog 115 [.ptr 900 0, aX m] [(900, finB (decide (a < 0)) (toW a.natAbs) 0)] (.ret (aN 0)) [(900, finB (decide (a < 0)) (toW a.natAbs) 4)] := by
 have hk := lRank_big a m 20000 ha h2 hm hmb (by omega);refine IoFn.of_body Tryz.func115 rfl Tryz.ntmps115 rfl rfl rfl ?_;(repeat' (first |refine qv ?_ |apply qn |apply qs |apply qr |refine qe ?_ |refine AWP.condF rfl ?_ |apply qk));refine qc (hk) ?_;(repeat' (first |refine qv ?_ |apply qn |refine Fl.nil (fun _ => by kernel_rfl) ?_ |apply qs |apply qr |refine qe ?_ |refine AWP.condT rfl ?_ |apply qt));exact ⟨⟨[], _, _, Ent.refl _ _ _, rfl, AV.Le.refl _, rfl, ⟨⟨⟨_, rfl, BLe.cells (LeL.refl _)⟩, rfl⟩, trivial⟩, rfl, rfl⟩⟩
theorem frank_err (s : Bool) (b : List Int) (m e : Int) (he : e ≠ 0) : IoFn Tryz.prog 115 [.ptr 900 0, aX m] [(900, finB s b e)] (.ret (aN 0)) [(900, finB s b e)] := by
 refine IoFn.of_body Tryz.func115 rfl Tryz.ntmps115 rfl rfl rfl ?_;(repeat' (first |refine qv ?_ |apply qn |apply qs |apply qr |refine qe ?_ |(refine AWP.condN rfl ?_ ?_ <;> intro _ <;> try (exfalso; omega)) |apply qt));exact ⟨⟨[], _, _, Ent.refl _ _ _, rfl, AV.Le.refl _, rfl, ⟨⟨⟨_, rfl, BLe.cells (LeL.refl _)⟩, rfl⟩, trivial⟩, rfl, rfl⟩⟩
end Go.Proofs.YtcaecieigoplbaaGreat
/- Pell's equation: every solution; divisions of psi: plain. -/
namespace Go.AL
theorem psi_mul_dvd (a : Int) (p : Nat) : ∀ k : Nat, psiN a p ∣ psiN a (p * k)
 | 0 => by rw [Nat.mul_zero, psi_zero]; exact Int.dvd_zero _
 | k + 1 => by
  rw [Nat.mul_succ, (cp_add a (p * k) p).2];exact Int.dvd_add (Int.dvd_mul_left _ _) (Int.dvd_mul_of_dvd_left (psi_mul_dvd a p k))
end Go.AL
/- Which psi divide which: plain. -/
namespace Go.AL
theorem psi_lt {a : Int} (ha : 2 ≤ a) {m n : Nat} (h : m < n) : psiN a m < psiN a n := by
 have h1 := psi_mono ha (show m + 1 ≤ n from h);have h2 := (psi_step ha m).2.2;have h3 := (cp_pos ha m).1;have h4 := (cp_pos ha m).2.1;rw [psi_succ] at h1;have h5 : 1 * psiN a m ≤ a * psiN a m := Int.mul_le_mul_of_nonneg_right (by omega) h4;omega
end Go.AL
/- define.Witness's numbers: when they are all numbers of at most 4096 words. Plain. -/
namespace Go.AL
theorem clip_fits (x : Int) : Fit (clip x) := by
 unfold clip;split
 ·assumption
 ·exact Fit.zero
theorem cE_zero {e x : Int} : cE e x = 0 ↔ e = 0 ∧ Fit x := by
 unfold cE;split
 ·rename_i h; rw [szErr_eq]; exact ⟨fun k => ⟨h, k⟩, fun k => k.2⟩
 ·rename_i h; exact ⟨fun k => absurd k h, fun k => absurd k.1 h⟩
theorem cVE {e x v E : Int} (hv : v = cV e x) (hE : E = cE e x) : (E = 0 ↔ e = 0 ∧ Fit x) ∧ (E = 0 → v = x) := by
 subst hv; subst hE;refine ⟨cE_zero, fun h => ?_⟩;obtain ⟨rfl, h'⟩ := cE_zero.1 h;exact cV_ok h'
theorem clipE {e x v E : Int} (hv : v = clip x) (hE : E = cE e x) : (E = 0 ↔ e = 0 ∧ Fit x) ∧ (E = 0 → v = x) := by
 subst hv; subst hE;refine ⟨cE_zero, fun h => ?_⟩;obtain ⟨rfl, h'⟩ := cE_zero.1 h;exact clip_fit h'
def PF (o : Int) : List Int → Prop
  | [] => True
  | x :: l => Fit (o * x) ∧ PF (o * x) l
def prI (o : Int) : List Int → Int
  | [] => o
  | x :: l => prI (o * x) l
theorem mulL_iff : ∀ (l : List Int) (e o : Int), ((mulL e o l).2 = 0 ↔ e = 0 ∧ PF o l) ∧ ((mulL e o l).2 = 0 → (mulL e o l).1 = prI o l)
 | [], e, o => ⟨⟨fun h => ⟨h, trivial⟩, fun h => h.1⟩, fun _ => rfl⟩
 | x :: l, e, o => by
  rw [mulL];obtain ⟨i1, i2⟩ := mulL_iff l (cE e (o * x)) (cV e (o * x));refine ⟨⟨fun h => ?_, fun h => ?_⟩, fun h => ?_⟩
  ·obtain ⟨h1, h2⟩ := i1.1 h;obtain ⟨h3, h4⟩ := cE_zero.1 h1;subst h3;rw [cV_ok h4] at h2;exact ⟨rfl, h4, h2⟩
  ·obtain ⟨h1, h2, h3⟩ := h;subst h1;refine i1.2 ⟨cE_ok h2, ?_⟩;rw [cV_ok h2]; exact h3
  ·obtain ⟨h1, h2⟩ := i1.1 h;obtain ⟨h3, h4⟩ := cE_zero.1 h1;rw [i2 h];subst h3;rw [cV_ok h4]; rfl
theorem mulE {l : List Int} {e v E : Int} (h : mulL e 1 l = (v, E)) : (E = 0 ↔ e = 0 ∧ PF 1 l) ∧ (E = 0 → v = prI 1 l) := by
 have := mulL_iff l e 1;rw [h] at this;exact this
theorem mulE_fit {l : List Int} {e v E : Int} (h : mulL e 1 l = (v, E)) : Fit v := by
 have := mulL_fit l e 1 fit_one;rwa [h] at this
structure DN where
  (c x d u e s f G h p I i j t v w : Int)
def dn (a b : Int) (n : Nat) : DN :=
  let c := psiN a b.toNat
  let x := chiN a b.toNat
  let d := x * x
  let u := 2 * c * c * d
  let e := psiN a n
  let s := chiN a n
  let f := s * s
  let G := a + f * (f - a)
  let h := psiN G b.toNat
  let p := chiN G b.toNat
  ⟨c, x, d, u, e, s, f, G, h, p, p * p, e / u - 1, (h - b) / (2 * c), (h - c) / f, c - b, x * s * p⟩
def DN.L (w : DN) (a b : Int) : List Int := [a, b, w.c, w.d, w.e, w.f, w.G, w.h, w.I, w.i, w.j, w.t, w.v, w.w, a - 2, b - 1]
theorem dn_L {a b : Int} {n : Nat} {c d e f G h I i j t v w k : Int} (hDc : (dn a b n).c = c) (hDd : (dn a b n).d = d) (hDe : (dn a b n).e = e) (hDf : (dn a b n).f = f) (hDG : (dn a b n).G = G) (m1 : h = (dn a b n).h) (m2 : I = (dn a b n).I) (m3 : i = (dn a b n).i) (m4 : j = (dn a b n).j) (m5 : t = (dn a b n).t) (m6 : v = (dn a b n).v) (m7 : w = (dn a b n).w) (m8 : k = a - 2) : (dn a b n).L a b = [a, b, c, d, e, f, G, h, I, i, j, t, v, w, k, b - 1] := by
 subst hDc hDd hDe hDf hDG m1 m2 m3 m4 m5 m6 m7 m8;rfl
def dU (a b : Int) : Int := 2 * psiN a b.toNat * psiN a b.toNat * (chiN a b.toNat * chiN a b.toNat)
def DOK (a b : Int) (n : Nat) : Prop := bitl (dU a b).natAbs ≤ 4000 ∧ RankIs a (dU a b) 20000 n ∧ ∀ x ∈ (dn a b n).L a b, Fit x
theorem dn_u (a b : Int) (n : Nat) : (dn a b n).u = dU a b := rfl
theorem fit_bitl {x : Int} (h : bitl x.natAbs ≤ 4000) : Fit x := by
 refine Fit.mk ?_;obtain ⟨N, hN⟩ : ∃ N : Nat, N = 4000 := ⟨_, rfl⟩;have h1 := bitl_lt x.natAbs;have h2 : (2 : Nat) ^ bitl x.natAbs ≤ 2 ^ N := Nat.pow_le_pow_right (by omega) (by omega)
 have h3 : (2 : Int) ^ N ≤ BB 4096 := by rw [BB_pow]; exact pow_le_r (by omega) (by omega)
 have h4 : ((x.natAbs : Nat) : Int) < ((2 ^ N : Nat) : Int) := Int.ofNat_lt.2 (by omega);rw [Int.natCast_pow] at h4;exact Int.lt_of_lt_of_le h4 h3
theorem mul_ge {x y : Int} (hx : 0 ≤ x) (hy : 1 ≤ y) : x ≤ x * y := by
 have := Int.mul_le_mul_of_nonneg_left hy hx;omega
theorem dn_pos1 {a b : Int} {n : Nat} (h2 : 2 ≤ a) (hb : 1 ≤ b) (hn : 1 ≤ n) : 1 ≤ (dn a b n).c ∧ 1 ≤ (dn a b n).x ∧ 1 ≤ (dn a b n).e ∧ a ≤ (dn a b n).s ∧ a ≤ (dn a b n).f ∧ 2 ≤ (dn a b n).G ∧ 1 ≤ (dn a b n).u := by
 have e1 : 1 ≤ psiN a b.toNat := psi_pos h2 (by omega);have e2 := (cp_pos h2 b.toNat).1;have e3 : 1 ≤ psiN a n := psi_pos h2 hn;obtain ⟨m, rfl⟩ : ∃ m, n = m + 1 := ⟨n - 1, by omega⟩;have e4 := (chi_step h2 m).2.2.2.2;have e5 : a ≤ chiN a (m + 1) * chiN a (m + 1) := Int.le_trans e4 (mul_ge (by omega) (by omega));have e6 : 0 ≤ chiN a (m + 1) * chiN a (m + 1) * (chiN a (m + 1) * chiN a (m + 1) - a) := Int.mul_nonneg (by omega) (by omega);have e7 : 1 ≤ 2 * psiN a b.toNat * psiN a b.toNat := Int.le_trans (by omega) (mul_ge (x := 2 * psiN a b.toNat) (by omega) e1);have e8 : 1 ≤ chiN a b.toNat * chiN a b.toNat := Int.le_trans e2 (mul_ge (by omega) e2);have e9 := Int.le_trans e7 (mul_ge (x := 2 * psiN a b.toNat * psiN a b.toNat) (by omega) e8);exact ⟨e1, e2, e3, e4, e5, by show 2 ≤ a + chiN a (m + 1) * chiN a (m + 1) * (chiN a (m + 1) * chiN a (m + 1) - a); omega, e9⟩
theorem dn_pos2 {a b : Int} {n : Nat} (hb : 1 ≤ b) (hG : 2 ≤ (dn a b n).G) : 1 ≤ (dn a b n).h ∧ 1 ≤ (dn a b n).p := by
 exact ⟨psi_pos hG (by omega), (cp_pos hG b.toNat).1⟩
theorem d_first {a b : Int} {c x d u E1 E2 E3 E4 : Int} (hc : c = clip (psiN a b.toNat)) (hx : x = clip (chiN a b.toNat)) (hE1 : E1 = cE 0 (psiN a b.toNat)) (hE2 : E2 = cE E1 (chiN a b.toNat)) (hd : mulL E2 1 [x, x] = (d, E3)) (hu : mulL E3 1 [2, c, c, d] = (u, E4)) (hE : E4 = 0) : c = psiN a b.toNat ∧ x = chiN a b.toNat ∧ d = x * x ∧ u = 2 * c * c * d ∧ u = dU a b := by
 obtain ⟨u1, u2⟩ := mulE hu;obtain ⟨d1, d2⟩ := mulE hd;obtain ⟨x1, x2⟩ := clipE hx hE2;obtain ⟨c1, c2⟩ := clipE hc hE1;have h3 := (u1.1 hE).1;have h2 := (d1.1 h3).1;have h1 := (x1.1 h2).1;have k1 := c2 h1;have k2 := x2 h2;have k3 := d2 h3;have k4 := u2 hE;simp only [prI, Int.one_mul] at k3 k4;refine ⟨k1, k2, k3, k4, ?_⟩;rw [k4, k3, k1, k2]; rfl
theorem d_first' {a b : Int} {n : Nat} {c x d u E1 E2 E3 E4 : Int} (h2 : 2 ≤ a) (hb : 1 ≤ b) (hc : c = clip (psiN a b.toNat)) (hx : x = clip (chiN a b.toNat)) (hE1 : E1 = cE 0 (psiN a b.toNat)) (hE2 : E2 = cE E1 (chiN a b.toNat)) (hd : mulL E2 1 [x, x] = (d, E3)) (hu : mulL E3 1 [2, c, c, d] = (u, E4)) (hk : DOK a b n) : E4 = 0 := by
 obtain ⟨k1, k2, k3⟩ := hk;simp only [DN.L, List.forall_mem_cons] at k3;obtain ⟨_, _, f1, f2, _⟩ := k3;have e1 : 1 ≤ psiN a b.toNat := psi_pos h2 (by omega);have e2 := (cp_pos h2 b.toNat).1;have f1 : Fit (psiN a b.toNat) := f1;have f2 : Fit (chiN a b.toNat * chiN a b.toNat) := f2;have f3 : Fit (dU a b) := fit_bitl k1;have f4 : Fit (chiN a b.toNat) := fit_of f2 (by omega) (mul_ge (by omega) e2);have g1 : 1 ≤ chiN a b.toNat * chiN a b.toNat := Int.le_trans e2 (mul_ge (by omega) e2);have g2 : 2 * psiN a b.toNat ≤ 2 * psiN a b.toNat * psiN a b.toNat := mul_ge (by omega) e1;have f5 : Fit (2 * psiN a b.toNat * psiN a b.toNat) := fit_of f3 (by omega) (mul_ge (by omega) g1);have f6 : Fit (2 * psiN a b.toNat) := fit_of f5 (by omega) g2;obtain ⟨u1, u2⟩ := mulE hu;obtain ⟨d1, d2⟩ := mulE hd;obtain ⟨x1, x2⟩ := clipE hx hE2;obtain ⟨c1, c2⟩ := clipE hc hE1;have h1 : E1 = 0 := c1.2 ⟨rfl, f1⟩;have h2' : E2 = 0 := x1.2 ⟨h1, f4⟩;have hc' := c2 h1;have hx' := x2 h2';have h3 : E3 = 0 := d1.2 ⟨h2', by simp only [PF, Int.one_mul, hx']; exact ⟨f4, f2, trivial⟩⟩;have hd' := d2 h3;simp only [prI, Int.one_mul] at hd';refine u1.2 ⟨h3, ?_⟩;simp only [PF, Int.one_mul, hd', hc', hx'];exact ⟨fit_two, f6, f5, f3, trivial⟩
theorem d_second {a : Int} {n : Nat} {e s f g1 g2 G E5 E6 E7 E8 E9 E10 : Int} (he : e = clip (psiN a n)) (hE5 : E5 = cE 0 (psiN a n)) (hs : s = clip (chiN a n)) (hE6 : E6 = cE E5 (chiN a n)) (hf : mulL E6 1 [s, s] = (f, E7)) (hg1 : g1 = cV E7 (f - a)) (hE8 : E8 = cE E7 (f - a)) (hg2 : mulL E8 1 [f, g1] = (g2, E9)) (hG : G = cV E9 (a + g2)) (hE10 : E10 = cE E9 (a + g2)) (hE : E10 = 0) : e = psiN a n ∧ s = chiN a n ∧ f = s * s ∧ G = a + f * (f - a) := by
 obtain ⟨p1, p2⟩ := cVE hG hE10;obtain ⟨q1, q2⟩ := mulE hg2;obtain ⟨r1, r2⟩ := cVE hg1 hE8;obtain ⟨s1, s2⟩ := mulE hf;obtain ⟨t1, t2⟩ := clipE hs hE6;obtain ⟨v1, v2⟩ := clipE he hE5;have h9 := (p1.1 hE).1;have h8 := (q1.1 h9).1;have h7 := (r1.1 h8).1;have h6 := (s1.1 h7).1;have h5 := (t1.1 h6).1;have k1 := p2 hE;have k2 := q2 h9;have k3 := r2 h8;have k4 := s2 h7;simp only [prI, Int.one_mul] at k2 k4;exact ⟨v2 h5, t2 h6, k4, by rw [k1, k2, k3]⟩
theorem d_second' {a b : Int} {n : Nat} {e s f g1 g2 G E5 E6 E7 E8 E9 E10 : Int} (h2 : 2 ≤ a) (hb : 1 ≤ b) (he : e = clip (psiN a n)) (hE5 : E5 = cE 0 (psiN a n)) (hs : s = clip (chiN a n)) (hE6 : E6 = cE E5 (chiN a n)) (hf : mulL E6 1 [s, s] = (f, E7)) (hg1 : g1 = cV E7 (f - a)) (hE8 : E8 = cE E7 (f - a)) (hg2 : mulL E8 1 [f, g1] = (g2, E9)) (hG : G = cV E9 (a + g2)) (hE10 : E10 = cE E9 (a + g2)) (hk : DOK a b n) : E10 = 0 := by
 obtain ⟨k1, k2, k3⟩ := hk;simp only [DN.L, List.forall_mem_cons] at k3;obtain ⟨fa, _, _, _, f1, f2, f3, _⟩ := k3;obtain ⟨e1, e2, e3, e4, e5, e6, e7⟩ := dn_pos1 (n := n) h2 hb k2.1;have f1 : Fit (psiN a n) := f1;have f2 : Fit (chiN a n * chiN a n) := f2;have f3 : Fit (a + chiN a n * chiN a n * (chiN a n * chiN a n - a)) := f3;have e4 : a ≤ chiN a n := e4;have e5 : a ≤ chiN a n * chiN a n := e5;have g0 : 0 ≤ chiN a n * chiN a n * (chiN a n * chiN a n - a) := Int.mul_nonneg (by omega) (by omega);have f4 : Fit (chiN a n) := fit_of f2 (by omega) (mul_ge (by omega) (by omega));have f5 : Fit (chiN a n * chiN a n - a) := fit_of f2 (by omega) (by omega);have f6 : Fit (chiN a n * chiN a n * (chiN a n * chiN a n - a)) := fit_of f3 g0 (by omega);obtain ⟨p1, p2⟩ := cVE hG hE10;obtain ⟨q1, q2⟩ := mulE hg2;obtain ⟨r1, r2⟩ := cVE hg1 hE8;obtain ⟨s1, s2⟩ := mulE hf;obtain ⟨t1, t2⟩ := clipE hs hE6;obtain ⟨v1, v2⟩ := clipE he hE5;have h5 : E5 = 0 := v1.2 ⟨rfl, f1⟩;have h6 : E6 = 0 := t1.2 ⟨h5, f4⟩;have hs' := t2 h6;have h7 : E7 = 0 := s1.2 ⟨h6, by simp only [PF, Int.one_mul, hs']; exact ⟨f4, f2, trivial⟩⟩;have hf' := s2 h7;simp only [prI, Int.one_mul, hs'] at hf';have h8 : E8 = 0 := r1.2 ⟨h7, by rw [hf']; exact f5⟩;have hg' := r2 h8;rw [hf'] at hg';have h9 : E9 = 0 := q1.2 ⟨h8, by simp only [PF, Int.one_mul, hf', hg']; exact ⟨f2, f6, trivial⟩⟩;have hg2' := q2 h9;simp only [prI, Int.one_mul, hf', hg'] at hg2';exact p1.2 ⟨h9, by rw [hg2']; exact f3⟩
theorem d_third {a b : Int} {n : Nat} {h p I q1 i h1 c2 j t1 t v w k E11 E12 E13 E14 E15 E16 E17 E18 E19 E20 E21 E22 E23 : Int} (hh : h = clip (dn a b n).h) (hE11 : E11 = cE 0 (dn a b n).h) (hp : p = clip (dn a b n).p) (hE12 : E12 = cE E11 (dn a b n).p) (hI : mulL E12 1 [p, p] = (I, E13)) (hq1 : q1 = cV E13 ((dn a b n).e / (dn a b n).u)) (hE14 : E14 = cE E13 ((dn a b n).e / (dn a b n).u)) (hi : i = cV E14 (q1 - 1)) (hE15 : E15 = cE E14 (q1 - 1)) (hh1 : h1 = cV E15 (h - b)) (hE16 : E16 = cE E15 (h - b)) (hc2 : mulL E16 1 [2, (dn a b n).c] = (c2, E17)) (hj : j = cV E17 (h1 / c2)) (hE18 : E18 = cE E17 (h1 / c2)) (ht1 : t1 = cV E18 (h - (dn a b n).c)) (hE19 : E19 = cE E18 (h - (dn a b n).c)) (ht : t = cV E19 (t1 / (dn a b n).f)) (hE20 : E20 = cE E19 (t1 / (dn a b n).f)) (hv : v = cV E20 ((dn a b n).c - b)) (hE21 : E21 = cE E20 ((dn a b n).c - b)) (hw : mulL E21 1 [(dn a b n).x, (dn a b n).s, p] = (w, E22)) (hk : k = cV E22 (a - 2)) (hE23 : E23 = cE E22 (a - 2)) :
  (E23 = 0 → h = (dn a b n).h ∧ I = (dn a b n).I ∧ i = (dn a b n).i ∧ j = (dn a b n).j ∧ t = (dn a b n).t ∧ v = (dn a b n).v ∧ w = (dn a b n).w ∧ k = a - 2) ∧
  (E23 = 0 ↔ Fit (dn a b n).h ∧ Fit (dn a b n).p ∧ Fit (dn a b n).I ∧ Fit ((dn a b n).e / (dn a b n).u) ∧ Fit (dn a b n).i ∧ Fit ((dn a b n).h - b) ∧ Fit (2 * (dn a b n).c) ∧ Fit (dn a b n).j ∧ Fit ((dn a b n).h - (dn a b n).c) ∧ Fit (dn a b n).t ∧ Fit (dn a b n).v ∧ Fit (dn a b n).x ∧ Fit ((dn a b n).x * (dn a b n).s) ∧ Fit (dn a b n).w ∧ Fit (a - 2)) := by
 have w1 : (dn a b n).I = (dn a b n).p * (dn a b n).p := rfl;have w2 : (dn a b n).i = (dn a b n).e / (dn a b n).u - 1 := rfl;have w3 : (dn a b n).j = ((dn a b n).h - b) / (2 * (dn a b n).c) := rfl;have w4 : (dn a b n).t = ((dn a b n).h - (dn a b n).c) / (dn a b n).f := rfl;have w5 : (dn a b n).v = (dn a b n).c - b := rfl;have w6 : (dn a b n).w = (dn a b n).x * (dn a b n).s * (dn a b n).p := rfl;rw [w1, w2, w3, w4, w5, w6]
 generalize dn a b n = D at *
 obtain ⟨c, x, d, u, e, s, f, G, H, P, I', i', j', t', v', w'⟩ := D
 simp only at *
 clear w1 w2 w3 w4 w5 w6;obtain ⟨z11, y11⟩ := clipE hh hE11;obtain ⟨z12, y12⟩ := clipE hp hE12;obtain ⟨z13, y13⟩ := mulE hI;obtain ⟨z14, y14⟩ := cVE hq1 hE14;obtain ⟨z15, y15⟩ := cVE hi hE15;obtain ⟨z16, y16⟩ := cVE hh1 hE16;obtain ⟨z17, y17⟩ := mulE hc2;obtain ⟨z18, y18⟩ := cVE hj hE18;obtain ⟨z19, y19⟩ := cVE ht1 hE19;obtain ⟨z20, y20⟩ := cVE ht hE20;obtain ⟨z21, y21⟩ := cVE hv hE21;obtain ⟨z22, y22⟩ := mulE hw;obtain ⟨z23, y23⟩ := cVE hk hE23;clear hh hE11 hp hE12 hI hq1 hE14 hi hE15 hh1 hE16 hc2 hj hE18 ht1 hE19 ht hE20 hv hE21 hw hk hE23
 simp only [prI, PF, Int.one_mul, and_true] at *
 have up : E23 = 0 → h = H ∧ p = P ∧ I = P * P ∧ q1 = e / u ∧ i = e / u - 1 ∧ h1 = H - b ∧ c2 = 2 * c ∧ j = (H - b) / (2 * c) ∧ t1 = H - c ∧ t = (H - c) / f ∧ v = c - b ∧ w = x * s * P ∧ k = a - 2 := fun h0 => by
  have k22 := (z23.1 h0).1;have k21 := (z22.1 k22).1;have k20 := (z21.1 k21).1;have k19 := (z20.1 k20).1;have k18 := (z19.1 k19).1;have k17 := (z18.1 k18).1;have k16 := (z17.1 k17).1;have k15 := (z16.1 k16).1;have k14 := (z15.1 k15).1;have k13 := (z14.1 k14).1;have k12 := (z13.1 k13).1;have k11 := (z12.1 k12).1;have a1 := y11 k11;have a2 := y12 k12;subst a1; subst a2;have a3 := y13 k13;have a4 := y14 k14;subst a4;have a5 := y15 k15;have a6 := y16 k16;subst a6;have a7 := y17 k17;subst a7;have a8 := y18 k18;have a9 := y19 k19;subst a9;exact ⟨rfl, rfl, a3, rfl, a5, rfl, rfl, a8, rfl, y20 k20, y21 k21, y22 k22, y23 h0⟩
 refine ⟨fun h0 => ?_, fun h0 => ?_, fun h0 => ?_⟩
 ·obtain ⟨b1, b2, b3, b4, b5, b6, b7, b8, b9, b10, b11, b12, b13⟩ := up h0;exact ⟨b1, b3, b5, b8, b10, b11, b12, b13⟩
 ·obtain ⟨b1, b2, b3, b4, b5, b6, b7, b8, b9, b10, b11, b12, b13⟩ := up h0;subst b1; subst b2; subst b4; subst b6; subst b7; subst b9;obtain ⟨k22, r23⟩ := z23.1 h0;obtain ⟨k21, r22⟩ := z22.1 k22;obtain ⟨k20, r21⟩ := z21.1 k21;obtain ⟨k19, r20⟩ := z20.1 k20;obtain ⟨k18, r19⟩ := z19.1 k19;obtain ⟨k17, r18⟩ := z18.1 k18;obtain ⟨k16, r17⟩ := z17.1 k17;obtain ⟨k15, r16⟩ := z16.1 k16;obtain ⟨k14, r15⟩ := z15.1 k15;obtain ⟨k13, r14⟩ := z14.1 k14;obtain ⟨k12, r13⟩ := z13.1 k13;obtain ⟨k11, r12⟩ := z12.1 k12;obtain ⟨_, r11⟩ := z11.1 k11;exact ⟨r11, r12, r13.2, r14, r15, r16, r17.2, r18, r19, r20, r21, r22.1, r22.2.1, r22.2.2, r23⟩
 ·obtain ⟨r11, r12, r13, r14, r15, r16, r17, r18, r19, r20, r21, r22, r22', r22'', r23⟩ := h0;have k11 := z11.2 ⟨trivial, r11⟩;have a1 := y11 k11;subst a1;have k12 := z12.2 ⟨k11, r12⟩;have a2 := y12 k12;subst a2;have k13 := z13.2 ⟨k12, r12, r13⟩;have k14 := z14.2 ⟨k13, r14⟩;have a4 := y14 k14;subst a4;have k15 := z15.2 ⟨k14, r15⟩;have k16 := z16.2 ⟨k15, r16⟩;have a6 := y16 k16;subst a6;have k17 := z17.2 ⟨k16, fit_two, r17⟩;have a7 := y17 k17;subst a7;have k18 := z18.2 ⟨k17, r18⟩;have k19 := z19.2 ⟨k18, r19⟩;have a9 := y19 k19;subst a9;have k20 := z20.2 ⟨k19, r20⟩;have k21 := z21.2 ⟨k20, r21⟩;have k22 := z22.2 ⟨k21, r22, r22', r22''⟩;exact z23.2 ⟨k22, r23⟩
theorem fit_minus {x y : Int} (hx : Fit x) (hy : Fit y) (h0 : 0 ≤ x) (h1 : 0 ≤ y) : Fit (x - y) := by
 have := hx.lt;have := hy.lt;exact Fit.mk (by omega)
theorem div_le_fit {x y : Int} (hx : Fit x) (h0 : 0 ≤ x) (hy : 1 ≤ y) : Fit (x / y) := by
 refine fit_of hx (Int.ediv_nonneg h0 (by omega)) ?_;exact Int.ediv_le_self y h0
theorem d_third_iff {a b : Int} {n : Nat} (ha : Fit a) (hbf : Fit b) (h2 : 2 ≤ a) (hb : 1 ≤ b) (hk : bitl (dU a b).natAbs ≤ 4000) (hr : RankIs a (dU a b) 20000 n) (hfc : Fit (dn a b n).c) (hfd : Fit (dn a b n).d) (hfe : Fit (dn a b n).e) (hff : Fit (dn a b n).f) (hfG : Fit (dn a b n).G) :
  (Fit (dn a b n).h ∧ Fit (dn a b n).p ∧ Fit (dn a b n).I ∧ Fit ((dn a b n).e / (dn a b n).u) ∧ Fit (dn a b n).i ∧ Fit ((dn a b n).h - b) ∧ Fit (2 * (dn a b n).c) ∧ Fit (dn a b n).j ∧ Fit ((dn a b n).h - (dn a b n).c) ∧ Fit (dn a b n).t ∧ Fit (dn a b n).v ∧ Fit (dn a b n).x ∧ Fit ((dn a b n).x * (dn a b n).s) ∧ Fit (dn a b n).w ∧ Fit (a - 2)) ↔ DOK a b n := by
 constructor
 ·intro ⟨r1, r2, r3, r4, r5, r6, r7, r8, r9, r10, r11, r12, r13, r14, r15⟩;refine ⟨hk, hr, ?_⟩;simp only [DN.L, List.forall_mem_cons];exact ⟨ha, hbf, hfc, hfd, hfe, hff, hfG, r1, r3, r5, r8, r10, r11, r14, r15, fit_of hbf (by omega) (by omega), by simp⟩
 ·intro ⟨_, _, k3⟩;simp only [DN.L, List.forall_mem_cons] at k3;obtain ⟨_, _, _, _, _, _, _, g1, g2, g3, g4, g5, g6, g7, g8, _⟩ := k3;obtain ⟨e1, e2, e3, e4, e5, e6, e7⟩ := dn_pos1 (n := n) h2 hb hr.1;obtain ⟨p1, p2⟩ := dn_pos2 (a := a) (b := b) (n := n) hb e6;have w1 : (dn a b n).I = (dn a b n).p * (dn a b n).p := rfl;have w6 : (dn a b n).w = (dn a b n).x * (dn a b n).s * (dn a b n).p := rfl;have w7 : (dn a b n).u = 2 * (dn a b n).c * (dn a b n).c * (dn a b n).d := rfl;have w8 : (dn a b n).d = (dn a b n).x * (dn a b n).x := rfl;have hfu : Fit (dn a b n).u := fit_bitl hk
  have hd1 : 1 ≤ (dn a b n).d := by rw [w8]; exact Int.le_trans e2 (mul_ge (by omega) e2)
  have fp : Fit (dn a b n).p := by rw [w1] at g2; exact fit_of g2 (by omega) (mul_ge (by omega) p2)
  have hcc : 2 * (dn a b n).c ≤ 2 * (dn a b n).c * (dn a b n).c := mul_ge (by omega) e1
  have f2c : Fit (2 * (dn a b n).c) := by
   rw [w7] at hfu;exact fit_of hfu (by omega) (Int.le_trans hcc (mul_ge (by omega) hd1))
  have hxs : 0 ≤ (dn a b n).x * (dn a b n).s := Int.mul_nonneg (by omega) (by omega);refine ⟨g1, fp, g2, div_le_fit hfe (by omega) e7, g3, fit_minus g1 hbf (by omega) (by omega), f2c, g4, fit_minus g1 hfc (by omega) (by omega), g5, g6, ?_, ?_, g7, g8⟩
  ·rw [w8] at hfd; exact fit_of hfd (by omega) (mul_ge (by omega) e2)
  ·rw [w6] at g7; exact fit_of g7 hxs (mul_ge hxs p2)
end Go.AL
/- define.Witness. -/
namespace Go.Proofs.YtcaecieigoplbaaGreat
open Go.AL
abbrev fiB (a e : Int) : Bx := finB (decide (a < 0)) (toW a.natAbs) e
theorem d_rank {a b c x d u E1 E2 E3 E4 : Int} (ha : Fit a) (h2 : 2 ≤ a) (h0 : 1 ≤ b) (fu : Fit u) (hc : c = clip (psiN a b.toNat)) (hx : x = clip (chiN a b.toNat)) (hE1 : E1 = cE 0 (psiN a b.toNat)) (hE2 : E2 = cE E1 (chiN a b.toNat)) (hd : mulL E2 1 [x, x] = (d, E3)) (hu : mulL E3 1 [2, c, c, d] = (u, E4)) :
  (∃ E, E ≠ 0 ∧ (∀ n, ¬ DOK a b n) ∧ IoFn Tryz.prog 115 [.ptr 900 0, aX u] [(900, fiB a E4)] (.ret (aN 0)) [(900, fiB a E)]) ∨ (∃ n : Nat, E4 = 0 ∧ bitl u.natAbs ≤ 4000 ∧ RankIs a u 20000 n ∧ IoFn Tryz.prog 115 [.ptr 900 0, aX u] [(900, fiB a E4)] (.ret (aN n)) [(900, fiB a 0)]) := by
 rcases Classical.em (E4 = 0) with hE | hE
 ·obtain ⟨k1, k2, k3, k4, k5⟩ := d_first hc hx hE1 hE2 hd hu hE;subst hE;rcases Classical.em (1 ≤ u ∧ bitl u.natAbs ≤ 4000) with hb | hb
  ·rcases Classical.em (NoRank a u 20000) with hn | hn
   ·refine .inl ⟨4, by omega, fun n hk => ?_, frank_none a u ha h2 fu hb.1 hb.2 hn⟩;obtain ⟨_, q, _⟩ := hk;rw [← k5] at q;exact hn n q.1 q.2.1 q.2.2.1
   ·obtain ⟨n, hn⟩ := rank_ex hn;exact .inr ⟨n, rfl, hb.2, hn, frank_ok a u n ha h2 fu hb.1 hb.2 hn⟩
  ·refine .inl ⟨4, by omega, fun n hk => hb ?_, frank_big a u ha h2 fu hb⟩;obtain ⟨q1, q2, _⟩ := hk;have := (dn_pos1 (a := a) (b := b) (n := n) h2 h0 q2.1).2.2.2.2.2.2;rw [dn_u] at this;rw [k5];exact ⟨this, q1⟩
 ·exact .inl ⟨E4, hE, fun n hk => hE (d_first' h2 h0 hc hx hE1 hE2 hd hu hk), frank_err _ _ u E4 hE⟩
set_option maxHeartbeats 8000000 in
set_option maxRecDepth 20000 in
theorem dWit_ok (a b : Int) (ha : Fit a) (h2 : 2 ≤ a) (h0 : 1 ≤ b) (h1 : b ≤ 9223372036854775807) (r : AV) (hr1 : ∀ n, DOK a b n → r = .tup [.sl 2 eX ((dn a b n).L a b), aN 0]) (hr2 : (∀ n, ¬ DOK a b n) → r = .tup [.v (.slice none 0 0), aN 4]) : PureFn Tryz.prog 46 [aX a, aN b] r := by
 refine PureFn.of_body Tryz.func46 rfl Tryz.ntmps46 rfl rfl ?_;have e1 := fchAdd_ok (decide (a < 0)) (toW a.natAbs) 0 a 0 ha Fit.zero;rw [Int.add_zero, cV_ok ha, cE_ok ha] at e1;have e2 := fpsi_ok (decide (a < 0)) (toW a.natAbs) 0 a b ha h2 h0 (by omega);have e3 := fchi_ok (decide (a < 0)) (toW a.natAbs) (cE 0 (psiN a b.toNat)) a b ha h2 h0 (by omega);obtain ⟨c, hc⟩ : ∃ c, c = clip (psiN a b.toNat) := ⟨_, rfl⟩;obtain ⟨x, hx⟩ : ∃ x, x = clip (chiN a b.toNat) := ⟨_, rfl⟩;have fc : Fit c := hc ▸ clip_fits _;have fx : Fit x := hx ▸ clip_fits _;obtain ⟨E1, hE1⟩ : ∃ E, E = cE 0 (psiN a b.toNat) := ⟨_, rfl⟩;obtain ⟨E2, hE2⟩ : ∃ E, E = cE E1 (chiN a b.toNat) := ⟨_, rfl⟩;rw [← hc, ← hE1] at e2;rw [← hE1, ← hx, ← hE2] at e3;have e4 := fchSquare_ok (decide (a < 0)) (toW a.natAbs) E2 x fx;obtain ⟨d, E3, hd⟩ : ∃ d E, mulL E2 1 [x, x] = (d, E) := ⟨(mulL E2 1 [x, x]).1, (mulL E2 1 [x, x]).2, rfl⟩;rw [hd] at e4;have fd : Fit d := mulE_fit hd;have e5 := fchMul_ok (decide (a < 0)) (toW a.natAbs) E3 [2, c, c, d] (by simp [fit_two, fc, fd]) (by simp);obtain ⟨u, E4, hu⟩ : ∃ u E, mulL E3 1 [2, c, c, d] = (u, E) := ⟨(mulL E3 1 [2, c, c, d]).1, (mulL E3 1 [2, c, c, d]).2, rfl⟩;rw [hu] at e5;have fu : Fit u := mulE_fit hu;dsimp only at e4 e5;refine AWP.seqS ?_;(repeat' (first |refine qv ?_ |apply qn |apply qr |refine qe ?_|fail));refine ⟨AWP.seqS ?_⟩;(repeat' (first |refine qv ?_ |apply qs |apply qr |apply qb));refine qc (Valid_int a ha) ?_;(repeat' (first |refine qv ?_ |apply qn |apply qs |apply qr |refine AWP.condF rfl ?_));refine qc (Of_ok 2 (by omega) (by omega)) ?_;skip;refine qc (Less_ok a 2 ha fit_two) ?_;(repeat' (first |refine qv ?_ |refine Fl.nil (fun _ => by kernel_rfl) ?_ |(refine AWP.condD rfl ?_ ?_ <;> intro _ <;> try (exfalso; omega)) |apply qk |(refine Fl.splitD rfl rfl ?_ ?_ <;> intro _ <;> try (exfalso; omega))));refine ⟨AWP.seqS ?_⟩;(repeat' (first |refine qv ?_ |apply qn |apply qr |refine qe ?_|fail));refine ⟨AWP.seqS ?_⟩;(repeat' (first |apply qr));refine Fl.make rfl rfl rfl rfl rfl rfl rfl rfl rfl rfl eX 0 (by exact leX_zero (σ := []) rfl) (by rfl) (by omega) (by dsimp only; omega) (by omega) ?_;(repeat' (first |refine qv ?_ |apply qn));refine ⟨AWP.seqS ?_⟩;(repeat' (first |refine qv ?_ |apply qr));refine qc (Of_ok 0 (by omega) (by omega)) ?_;skip;refine qi [(900, 27)] (e1) ?_;(repeat' (first |refine qv ?_|fail));refine qc (Of_ok b (by omega) (by omega)) ?_;(repeat' (first |refine Fl.relK rfl rfl rfl rfl rfl rfl rfl rfl rfl ?_ |refine Fl.rstK rfl rfl rfl rfl rfl rfl rfl rfl rfl rfl rfl (LeL.refl _) rfl rfl ?_ |refine Fl.nil (fun _ => by kernel_rfl) ?_|fail));refine ⟨AWP.seqS ?_⟩;(repeat' (first |refine qv ?_ |apply qr));refine qi [(900, 27)] (e2) ?_;(repeat' (first |refine Fl.relK rfl rfl rfl rfl rfl rfl rfl rfl rfl ?_ |refine Fl.rstK rfl rfl rfl rfl rfl rfl rfl rfl rfl rfl rfl (LeL.refl _) rfl rfl ?_ |apply qn));refine ⟨AWP.seqS ?_⟩;(repeat' (first |refine qv ?_ |apply qr));refine qi [(900, 27)] (e3) ?_;(repeat' (first |apply qn |refine qe ?_|fail));refine ⟨AWP.seqS ?_⟩;(repeat' (first |refine qv ?_ |apply qr));refine qi [(900, 27)] (e4) ?_;(repeat' (first |refine Fl.relK rfl rfl rfl rfl rfl rfl rfl rfl rfl ?_ |refine Fl.rstK rfl rfl rfl rfl rfl rfl rfl rfl rfl rfl rfl (LeL.refl _) rfl rfl ?_ |refine Fl.nil (fun _ => by kernel_rfl) ?_|fail));refine ⟨AWP.seqS ?_⟩;(repeat' (first |refine qv ?_ |apply qr));refine qc (Of_ok 2 (by omega) (by omega)) ?_;(repeat' (first |refine Fl.rldK rfl rfl rfl rfl rfl rfl rfl (fun _ => rfl) (fun _ => rfl) rfl ?_ |refine Fl.relK rfl rfl rfl rfl rfl rfl rfl rfl rfl ?_ |refine qv ?_|fail));refine ql eX [2, c, c, d] ?_;skip;refine qi [(900, 27)] (e5) ?_;(repeat' (first |refine Fl.nil (fun _ => by kernel_rfl) ?_ |refine qe ?_|fail));refine ⟨AWP.seqS ?_⟩;(repeat' (first |refine qv ?_ |apply qr));rcases d_rank ha h2 h0 fu hc hx hE1 hE2 hd hu with ⟨E, hE, hno, e6⟩ | ⟨n, hE, hbu, hn, e6⟩
 ·refine qi [(900, 27)] (e6) ?_;(repeat' (first |refine qv ?_ |apply qn));refine ⟨AWP.seqS ?_⟩;(repeat' (first |refine qv ?_ |apply qn |apply qs |apply qr |(refine AWP.condN rfl ?_ ?_ <;> intro _ <;> try (exfalso; omega)) |apply qt));rw [hr2 hno];exact RetOk.of rfl (AV.Le.refl _)
 obtain ⟨k1, k2, k3, k4, k5⟩ := d_first hc hx hE1 hE2 hd hu hE;subst hE;clear hc hx hE1 hE2 hd e1 e2 e3 e4 e5;have hn1 : 1 ≤ n := hn.1;have hn2 : n ≤ 20000 := hn.2.1;have e7 := fpsi_ok (decide (a < 0)) (toW a.natAbs) 0 a n ha h2 (by omega) (by omega);rw [Int.toNat_natCast] at e7;obtain ⟨e, he⟩ : ∃ e, e = clip (psiN a n) := ⟨_, rfl⟩;obtain ⟨E5, hE5⟩ : ∃ E, E = cE 0 (psiN a n) := ⟨_, rfl⟩;rw [← he, ← hE5] at e7;have e8 := fchi_ok (decide (a < 0)) (toW a.natAbs) E5 a n ha h2 (by omega) (by omega);rw [Int.toNat_natCast] at e8;obtain ⟨s, hs⟩ : ∃ s, s = clip (chiN a n) := ⟨_, rfl⟩;obtain ⟨E6, hE6⟩ : ∃ E, E = cE E5 (chiN a n) := ⟨_, rfl⟩;rw [← hs, ← hE6] at e8;have fe : Fit e := he ▸ clip_fits _;have fs : Fit s := hs ▸ clip_fits _;have e9 := fchSquare_ok (decide (a < 0)) (toW a.natAbs) E6 s fs;obtain ⟨f, E7, hf⟩ : ∃ y E, mulL E6 1 [s, s] = (y, E) := ⟨(mulL E6 1 [s, s]).1, (mulL E6 1 [s, s]).2, rfl⟩;rw [hf] at e9;have ff : Fit f := mulE_fit hf;have e10 := fchSub_ok (decide (a < 0)) (toW a.natAbs) E7 f a ff ha;obtain ⟨g1, hg1⟩ : ∃ g, g = cV E7 (f - a) := ⟨_, rfl⟩;obtain ⟨E8, hE8⟩ : ∃ E, E = cE E7 (f - a) := ⟨_, rfl⟩;rw [← hg1, ← hE8] at e10;have fg1 : Fit g1 := hg1 ▸ cV_fit _ _;have e11 := fchMul_ok (decide (a < 0)) (toW a.natAbs) E8 [f, g1] (by simp [ff, fg1]) (by simp);obtain ⟨g2, E9, hg2⟩ : ∃ y E, mulL E8 1 [f, g1] = (y, E) := ⟨(mulL E8 1 [f, g1]).1, (mulL E8 1 [f, g1]).2, rfl⟩;rw [hg2] at e11;have fg2 : Fit g2 := mulE_fit hg2;have e12 := fchAdd_ok (decide (a < 0)) (toW a.natAbs) E9 a g2 ha fg2;obtain ⟨G, hG⟩ : ∃ g, g = cV E9 (a + g2) := ⟨_, rfl⟩;obtain ⟨E10, hE10⟩ : ∃ E, E = cE E9 (a + g2) := ⟨_, rfl⟩;rw [← hG, ← hE10] at e12;have fG : Fit G := hG ▸ cV_fit _ _;dsimp only at e9 e11;refine qi [(900, 27)] (e6) ?_;(repeat' (first |refine qv ?_ |apply qn));refine ⟨AWP.seqS ?_⟩;(repeat' (first |refine qv ?_ |apply qn |apply qs |apply qr |refine AWP.condF rfl ?_ |apply qk));refine ⟨AWP.seqS ?_⟩;(repeat' (first |refine qv ?_ |apply qr));refine qi [(900, 27)] (e7) ?_;(repeat' (first |refine Fl.relK rfl rfl rfl rfl rfl rfl rfl rfl rfl ?_ |refine Fl.rstK rfl rfl rfl rfl rfl rfl rfl rfl rfl rfl rfl (LeL.refl _) rfl rfl ?_ |apply qn));refine ⟨AWP.seqS ?_⟩;(repeat' (first |refine qv ?_ |apply qr));refine qi [(900, 27)] (e8) ?_;(repeat' (first |apply qn |refine qe ?_|fail));refine ⟨AWP.seqS ?_⟩;(repeat' (first |refine qv ?_ |apply qr));refine qi [(900, 27)] (e9) ?_;(repeat' (first |refine Fl.relK rfl rfl rfl rfl rfl rfl rfl rfl rfl ?_ |refine Fl.rstK rfl rfl rfl rfl rfl rfl rfl rfl rfl rfl rfl (LeL.refl _) rfl rfl ?_ |refine Fl.nil (fun _ => by kernel_rfl) ?_|fail));refine ⟨AWP.seqS ?_⟩;(repeat' (first |refine Fl.rldK rfl rfl rfl rfl rfl rfl rfl (fun _ => rfl) (fun _ => rfl) rfl ?_ |refine Fl.relK rfl rfl rfl rfl rfl rfl rfl rfl rfl ?_ |refine qv ?_ |apply qr));refine qi [(900, 27)] (e10) ?_;skip;refine ql eX [f, g1] ?_;skip;refine qi [(900, 27)] (e11) ?_;skip;refine qi [(900, 27)] (e12) ?_;(repeat' (first |refine Fl.relK rfl rfl rfl rfl rfl rfl rfl rfl rfl ?_ |refine Fl.rstK rfl rfl rfl rfl rfl rfl rfl rfl rfl rfl rfl (LeL.refl _) rfl rfl ?_ |refine Fl.nil (fun _ => by kernel_rfl) ?_|fail));refine ⟨AWP.seqS ?_⟩;rcases Classical.em (E10 = 0) with hT | hT;rotate_left
 ·have hno : ∀ m, ¬ DOK a b m := fun m hk => by
   have hm : m = n := by
    have hk2 := hk.2.1;rw [← k5] at hk2;exact hk2.fun hn
   subst hm;exact hT (d_second' h2 h0 he hE5 hs hE6 hf hg1 hE8 hg2 hG hE10 hk)
  (repeat' (first |refine qv ?_ |apply qn |apply qs |apply qr |(refine AWP.condN rfl ?_ ?_ <;> intro _ <;> try (exfalso; omega)) |apply qt));rw [hr2 hno];exact RetOk.of rfl (AV.Le.refl _)
 obtain ⟨l1, l2, l3, l4⟩ := d_second he hE5 hs hE6 hf hg1 hE8 hg2 hG hE10 hT;subst hT;have hDc : (dn a b n).c = c := k1.symm;have hDx : (dn a b n).x = x := k2.symm
 have hDd : (dn a b n).d = d := by rw [k3, k2]; rfl
 have hDu : (dn a b n).u = u := by rw [k5]; rfl
 have hDe : (dn a b n).e = e := l1.symm;have hDs : (dn a b n).s = s := l2.symm
 have hDf : (dn a b n).f = f := by rw [l3, l2]; rfl
 have hDG : (dn a b n).G = G := by rw [l4, ← hDf]; rfl
 have hDh : (dn a b n).h = psiN G b.toNat := by rw [← hDG]; rfl
 have hDp : (dn a b n).p = chiN G b.toNat := by rw [← hDG]; rfl
 have hps := dn_pos1 (a := a) (b := b) (n := n) h2 h0 hn1
 have hu1 : 1 ≤ u := by have := hps.2.2.2.2.2.2; omega
 have hf1 : 1 ≤ f := by have := hps.2.2.2.2.1; omega
 have hG2 : 2 ≤ G := by have := hps.2.2.2.2.2.1; omega
 have hc1 : 1 ≤ c := by have := hps.1; omega
 have fb : Fit b := fit_small (by omega) (by omega);have hiff := d_third_iff (a := a) (b := b) (n := n) ha fb h2 h0 (by rw [← k5]; exact hbu) (by rw [← k5]; exact hn) (by rw [hDc]; exact fc) (by rw [hDd]; exact fd) (by rw [hDe]; exact fe) (by rw [hDf]; exact ff) (by rw [hDG]; exact fG);clear he hE5 hs hE6 hf hg1 hE8 hg2 hG hE10 e7 e8 e9 e10 e11 e12 e6 k1 k2 k3 k4 l1 l2 l3 l4;have e13 := fpsi_ok (decide (a < 0)) (toW a.natAbs) 0 G b fG hG2 h0 h1;rw [← hDh] at e13;obtain ⟨h, hh⟩ : ∃ h, h = clip (dn a b n).h := ⟨_, rfl⟩;obtain ⟨E11, hE11⟩ : ∃ E, E = cE 0 (dn a b n).h := ⟨_, rfl⟩;rw [← hh, ← hE11] at e13;have fh : Fit h := hh ▸ clip_fits _;have e14 := fchi_ok (decide (a < 0)) (toW a.natAbs) E11 G b fG hG2 h0 h1;rw [← hDp] at e14;obtain ⟨p, hp⟩ : ∃ h, h = clip (dn a b n).p := ⟨_, rfl⟩;obtain ⟨E12, hE12⟩ : ∃ E, E = cE E11 (dn a b n).p := ⟨_, rfl⟩;rw [← hp, ← hE12] at e14;have fp : Fit p := hp ▸ clip_fits _;have e15 := fchSquare_ok (decide (a < 0)) (toW a.natAbs) E12 p fp;obtain ⟨I, E13, hI⟩ : ∃ y E, mulL E12 1 [p, p] = (y, E) := ⟨(mulL E12 1 [p, p]).1, (mulL E12 1 [p, p]).2, rfl⟩;rw [hI] at e15;have fI : Fit I := mulE_fit hI;have e16 := fchQuo_ok (decide (a < 0)) (toW a.natAbs) E13 e u fe fu (fun _ => by omega);obtain ⟨q1, hq1⟩ : ∃ g, g = cV E13 (e / u) := ⟨_, rfl⟩;obtain ⟨E14, hE14⟩ : ∃ E, E = cE E13 (e / u) := ⟨_, rfl⟩;rw [← hq1, ← hE14] at e16;have fq1 : Fit q1 := hq1 ▸ cV_fit _ _;have e17 := fchSub_ok (decide (a < 0)) (toW a.natAbs) E14 q1 1 fq1 fit_one;obtain ⟨i, hi⟩ : ∃ g, g = cV E14 (q1 - 1) := ⟨_, rfl⟩;obtain ⟨E15, hE15⟩ : ∃ E, E = cE E14 (q1 - 1) := ⟨_, rfl⟩;rw [← hi, ← hE15] at e17;have e18 := fchSub_ok (decide (a < 0)) (toW a.natAbs) E15 h b fh fb;obtain ⟨x1, hx1⟩ : ∃ g, g = cV E15 (h - b) := ⟨_, rfl⟩;obtain ⟨E16, hE16⟩ : ∃ E, E = cE E15 (h - b) := ⟨_, rfl⟩;rw [← hx1, ← hE16] at e18;have fx1 : Fit x1 := hx1 ▸ cV_fit _ _;have e19 := fchMul_ok (decide (a < 0)) (toW a.natAbs) E16 [2, c] (by simp [fit_two, fc]) (by simp);obtain ⟨c2, E17, hc2⟩ : ∃ y E, mulL E16 1 [2, c] = (y, E) := ⟨(mulL E16 1 [2, c]).1, (mulL E16 1 [2, c]).2, rfl⟩;rw [hc2] at e19;have fc2 : Fit c2 := mulE_fit hc2
 have e20 := fchQuo_ok (decide (a < 0)) (toW a.natAbs) E17 x1 c2 fx1 fc2 (fun hz => by
  have := (mulE hc2).2 hz;simp only [prI, Int.one_mul] at this
  omega)
 obtain ⟨j, hj⟩ : ∃ g, g = cV E17 (x1 / c2) := ⟨_, rfl⟩;obtain ⟨E18, hE18⟩ : ∃ E, E = cE E17 (x1 / c2) := ⟨_, rfl⟩;rw [← hj, ← hE18] at e20;have e21 := fchSub_ok (decide (a < 0)) (toW a.natAbs) E18 h c fh fc;obtain ⟨t1, ht1⟩ : ∃ g, g = cV E18 (h - c) := ⟨_, rfl⟩;obtain ⟨E19, hE19⟩ : ∃ E, E = cE E18 (h - c) := ⟨_, rfl⟩;rw [← ht1, ← hE19] at e21;have ft1 : Fit t1 := ht1 ▸ cV_fit _ _;have e22 := fchQuo_ok (decide (a < 0)) (toW a.natAbs) E19 t1 f ft1 ff (fun _ => by omega);obtain ⟨t, ht⟩ : ∃ g, g = cV E19 (t1 / f) := ⟨_, rfl⟩;obtain ⟨E20, hE20⟩ : ∃ E, E = cE E19 (t1 / f) := ⟨_, rfl⟩;rw [← ht, ← hE20] at e22;have e23 := fchSub_ok (decide (a < 0)) (toW a.natAbs) E20 c b fc fb;obtain ⟨v, hv⟩ : ∃ g, g = cV E20 (c - b) := ⟨_, rfl⟩;obtain ⟨E21, hE21⟩ : ∃ E, E = cE E20 (c - b) := ⟨_, rfl⟩;rw [← hv, ← hE21] at e23;have e24 := fchMul_ok (decide (a < 0)) (toW a.natAbs) E21 [x, s, p] (by simp [fx, fs, fp]) (by simp);obtain ⟨w, E22, hw⟩ : ∃ y E, mulL E21 1 [x, s, p] = (y, E) := ⟨(mulL E21 1 [x, s, p]).1, (mulL E21 1 [x, s, p]).2, rfl⟩;rw [hw] at e24;have e25 := fchSub_ok (decide (a < 0)) (toW a.natAbs) E22 a 2 ha fit_two;obtain ⟨k, hk⟩ : ∃ g, g = cV E22 (a - 2) := ⟨_, rfl⟩;obtain ⟨E23, hE23⟩ : ∃ E, E = cE E22 (a - 2) := ⟨_, rfl⟩;rw [← hk, ← hE23] at e25;dsimp only at e15 e19 e24
 have A1 : q1 = cV E13 ((dn a b n).e / (dn a b n).u) := by rw [hDe, hDu]; exact hq1
 have A2 : E14 = cE E13 ((dn a b n).e / (dn a b n).u) := by rw [hDe, hDu]; exact hE14
 have A3 : mulL E16 1 [2, (dn a b n).c] = (c2, E17) := by rw [hDc]; exact hc2
 have A4 : t1 = cV E18 (h - (dn a b n).c) := by rw [hDc]; exact ht1
 have A5 : E19 = cE E18 (h - (dn a b n).c) := by rw [hDc]; exact hE19
 have A6 : t = cV E19 (t1 / (dn a b n).f) := by rw [hDf]; exact ht
 have A7 : E20 = cE E19 (t1 / (dn a b n).f) := by rw [hDf]; exact hE20
 have A8 : v = cV E20 ((dn a b n).c - b) := by rw [hDc]; exact hv
 have A9 : E21 = cE E20 ((dn a b n).c - b) := by rw [hDc]; exact hE21
 have A10 : mulL E21 1 [(dn a b n).x, (dn a b n).s, p] = (w, E22) := by rw [hDx, hDs]; exact hw
 obtain ⟨hyes, hfit⟩ := d_third hh hE11 hp hE12 hI A1 A2 hi hE15 hx1 hE16 A3 hj hE18 A4 A5 A6 A7 A8 A9 A10 hk hE23;rw [hiff] at hfit;clear A1 A2 A3 A4 A5 A6 A7 A8 A9 A10 hh hE11 hp hE12 hI hq1 hE14 hi hE15 hx1 hE16 hc2 hj hE18 ht1 hE19 ht hE20 hv hE21 hw hk hE23 hiff;(repeat' (first |refine qv ?_ |apply qn |apply qs |apply qr |refine AWP.condF rfl ?_ |apply qk));refine ⟨AWP.seqS ?_⟩;(repeat' (first |refine Fl.rldK rfl rfl rfl rfl rfl rfl rfl (fun _ => rfl) (fun _ => rfl) rfl ?_ |refine Fl.relK rfl rfl rfl rfl rfl rfl rfl rfl rfl ?_ |refine qv ?_ |apply qr));refine qi [(900, 27)] (e13) ?_;(repeat' (first |refine Fl.relK rfl rfl rfl rfl rfl rfl rfl rfl rfl ?_ |refine Fl.rstK rfl rfl rfl rfl rfl rfl rfl rfl rfl rfl rfl (LeL.refl _) rfl rfl ?_ |apply qn));refine ⟨AWP.seqS ?_⟩;(repeat' (first |refine Fl.rldK rfl rfl rfl rfl rfl rfl rfl (fun _ => rfl) (fun _ => rfl) rfl ?_ |refine Fl.relK rfl rfl rfl rfl rfl rfl rfl rfl rfl ?_ |refine qv ?_ |apply qr));refine qi [(900, 27)] (e14) ?_;(repeat' (first |apply qn |refine qe ?_|fail));refine ⟨AWP.seqS ?_⟩;(repeat' (first |refine qv ?_ |apply qr));refine qi [(900, 27)] (e15) ?_;(repeat' (first |refine Fl.relK rfl rfl rfl rfl rfl rfl rfl rfl rfl ?_ |refine Fl.rstK rfl rfl rfl rfl rfl rfl rfl rfl rfl rfl rfl (LeL.refl _) rfl rfl ?_ |refine Fl.nil (fun _ => by kernel_rfl) ?_|fail));refine ⟨AWP.seqS ?_⟩;(repeat' (first |refine Fl.rldK rfl rfl rfl rfl rfl rfl rfl (fun _ => rfl) (fun _ => rfl) rfl ?_ |refine Fl.relK rfl rfl rfl rfl rfl rfl rfl rfl rfl ?_ |refine qv ?_ |apply qr));refine qi [(900, 27)] (e16) ?_;skip;refine qc (Of_ok 1 (by omega) (by omega)) ?_;skip;refine qi [(900, 27)] (e17) ?_;(repeat' (first |refine Fl.relK rfl rfl rfl rfl rfl rfl rfl rfl rfl ?_ |refine Fl.rstK rfl rfl rfl rfl rfl rfl rfl rfl rfl rfl rfl (LeL.refl _) rfl rfl ?_ |refine Fl.nil (fun _ => by kernel_rfl) ?_|fail));refine ⟨AWP.seqS ?_⟩;(repeat' (first |refine Fl.rldK rfl rfl rfl rfl rfl rfl rfl (fun _ => rfl) (fun _ => rfl) rfl ?_ |refine Fl.relK rfl rfl rfl rfl rfl rfl rfl rfl rfl ?_ |refine qv ?_ |apply qr));refine qi [(900, 27)] (e18) ?_;(repeat' (first |refine qv ?_|fail));refine qc (Of_ok 2 (by omega) (by omega)) ?_;(repeat' (first |refine Fl.rldK rfl rfl rfl rfl rfl rfl rfl (fun _ => rfl) (fun _ => rfl) rfl ?_ |refine Fl.relK rfl rfl rfl rfl rfl rfl rfl rfl rfl ?_ |refine qv ?_|fail));refine ql eX [2, c] ?_;skip;refine qi [(900, 27)] (e19) ?_;skip;refine qi [(900, 27)] (e20) ?_;(repeat' (first |refine Fl.relK rfl rfl rfl rfl rfl rfl rfl rfl rfl ?_ |refine Fl.rstK rfl rfl rfl rfl rfl rfl rfl rfl rfl rfl rfl (LeL.refl _) rfl rfl ?_ |refine Fl.nil (fun _ => by kernel_rfl) ?_|fail));refine ⟨AWP.seqS ?_⟩;(repeat' (first |refine Fl.rldK rfl rfl rfl rfl rfl rfl rfl (fun _ => rfl) (fun _ => rfl) rfl ?_ |refine Fl.relK rfl rfl rfl rfl rfl rfl rfl rfl rfl ?_ |refine qv ?_ |apply qr));refine qi [(900, 27)] (e21) ?_;(repeat' (first |refine Fl.rldK rfl rfl rfl rfl rfl rfl rfl (fun _ => rfl) (fun _ => rfl) rfl ?_ |refine Fl.relK rfl rfl rfl rfl rfl rfl rfl rfl rfl ?_ |refine qv ?_|fail));refine qi [(900, 27)] (e22) ?_;(repeat' (first |refine Fl.relK rfl rfl rfl rfl rfl rfl rfl rfl rfl ?_ |refine Fl.rstK rfl rfl rfl rfl rfl rfl rfl rfl rfl rfl rfl (LeL.refl _) rfl rfl ?_ |refine Fl.nil (fun _ => by kernel_rfl) ?_|fail));refine ⟨AWP.seqS ?_⟩;(repeat' (first |refine Fl.rldK rfl rfl rfl rfl rfl rfl rfl (fun _ => rfl) (fun _ => rfl) rfl ?_ |refine Fl.relK rfl rfl rfl rfl rfl rfl rfl rfl rfl ?_ |refine qv ?_ |apply qr));refine qi [(900, 27)] (e23) ?_;(repeat' (first |refine Fl.relK rfl rfl rfl rfl rfl rfl rfl rfl rfl ?_ |refine Fl.rstK rfl rfl rfl rfl rfl rfl rfl rfl rfl rfl rfl (LeL.refl _) rfl rfl ?_ |refine Fl.nil (fun _ => by kernel_rfl) ?_|fail));refine ⟨AWP.seqS ?_⟩;(repeat' (first |refine qv ?_ |apply qr));refine ql eX [x, s, p] ?_;skip;refine qi [(900, 27)] (e24) ?_;(repeat' (first |refine Fl.relK rfl rfl rfl rfl rfl rfl rfl rfl rfl ?_ |refine Fl.rstK rfl rfl rfl rfl rfl rfl rfl rfl rfl rfl rfl (LeL.refl _) rfl rfl ?_ |refine Fl.nil (fun _ => by kernel_rfl) ?_|fail));refine ⟨AWP.seqS ?_⟩;(repeat' (first |refine qv ?_ |apply qr));refine qc (Of_ok 2 (by omega) (by omega)) ?_;skip;refine qi [(900, 27)] (e25) ?_;(repeat' (first |refine qv ?_ |refine qw ?_|fail));refine qc (Of_ok (b - 1) (by omega) (by omega)) ?_;(repeat' (first |refine Fl.relK rfl rfl rfl rfl rfl rfl rfl rfl rfl ?_ |refine Fl.rstK rfl rfl rfl rfl rfl rfl rfl rfl rfl rfl rfl (LeL.refl _) rfl rfl ?_ |refine Fl.nil (fun _ => by kernel_rfl) ?_|fail));refine ⟨AWP.seqS ?_⟩;rcases Classical.em (E23 = 0) with hZ | hZ
 ·obtain ⟨m1, m2, m3, m4, m5, m6, m7, m8⟩ := hyes hZ;have hr := hr1 n (hfit.1 hZ);have hL := dn_L hDc hDd hDe hDf hDG m1 m2 m3 m4 m5 m6 m7 m8;rw [hL] at hr;rw [hr];clear hyes hfit hr hr1 hr2;(repeat' (first |refine qv ?_ |apply qn |apply qs |apply qr |(refine AWP.condN rfl ?_ ?_ <;> intro _ <;> try (exfalso; omega)) |apply qk));refine ⟨?_⟩;(repeat' (first |refine qv ?_ |apply qn |apply qs |apply qr |apply qt));refine RetOk.ent (Ent.freeze 28 rfl) ?_;exact RetOk.of rfl (AV.Le.refl _)
 ·have hno : ∀ m, ¬ DOK a b m := fun m hk => by
   have hm : m = n := by
    have hk2 := hk.2.1;rw [← k5] at hk2;exact hk2.fun hn
   subst hm;exact hZ (hfit.2 hk)
  rw [hr2 hno];clear hyes hfit hr1 hr2;(repeat' (first |refine qv ?_ |apply qn |apply qs |apply qr |(refine AWP.condN rfl ?_ ?_ <;> intro _ <;> try (exfalso; omega)) |apply qt));exact RetOk.of rfl (AV.Le.refl _)
end Go.Proofs.YtcaecieigoplbaaGreat
/- The reference's numbers of psi. -/
namespace Go.AL
theorem BB_powk (k : Nat) : ∀ n : Nat, BB k ^ n = BB (k * n)
 | 0 => by simp [BB_zero]
 | n + 1 => by rw [Int.pow_succ, BB_powk k n, ← BB_add]; congr 1
theorem rw_len {a b : Int} (ha : lenI a ≤ 4) (h2 : 2 ≤ a) (h0 : 1 ≤ b) (h1 : b ≤ 20) : lenI (psiN a b.toNat) ≤ 8192 := by
 obtain ⟨m, hm⟩ : ∃ m, b.toNat = m + 1 := ⟨b.toNat - 1, by omega⟩;rw [hm];refine (lenI_nonneg (cp_pos h2 _).2.1).2 ?_;have h3 := psi_ub h2 m;have h4 : a < BB 4 := (lenI_nonneg (by omega)).1 ha
 have h5 : 2 * a ≤ BB 5 := by have := BB_succ 4; have := BB_pos 4; rw [show (5 : Nat) = 4 + 1 from rfl]; omega
 have h6 : (2 * a) ^ m ≤ BB 5 ^ m := pow_le_l (by omega) h5 m;rw [BB_powk] at h6;have h7 := BB_le (show 5 * m + 1 ≤ 8192 by omega);have h8 := BB_pos (5 * m);rw [BB_succ] at h7;omega
end Go.AL
namespace Go.Proofs.YtcaecieigoplbaaGreat
open Go.AL
end Go.Proofs.YtcaecieigoplbaaGreat
/- define.Equations: the system. Written by gen_df.py. -/
namespace Go.AL
def df0 : List UT := sumsU [] [varU 16 14, conU 16 2]
def df1 : List UT := subL (varU 16 0) df0
def df2 : List UT := sumsU [] [varU 16 15, conU 16 1]
def df3 : List UT := subL (varU 16 1) df2
def df4 : List UT := mulsU (conU 16 1) [varU 16 0, varU 16 0]
def df5 : List UT := subL df4 (conU 16 1)
def df6 : List UT := mulsU (conU 16 1) [df5, varU 16 2, varU 16 2]
def df7 : List UT := sumsU [] [df6, conU 16 1]
def df8 : List UT := subL (varU 16 3) df7
def df9 : List UT := sumsU [] [varU 16 9, conU 16 1]
def df10 : List UT := mulsU (conU 16 1) [conU 16 2, df9, varU 16 2, varU 16 2, varU 16 3]
def df11 : List UT := subL (varU 16 4) df10
def df12 : List UT := mulsU (conU 16 1) [varU 16 0, varU 16 0]
def df13 : List UT := subL df12 (conU 16 1)
def df14 : List UT := mulsU (conU 16 1) [df13, varU 16 4, varU 16 4]
def df15 : List UT := sumsU [] [df14, conU 16 1]
def df16 : List UT := subL (varU 16 5) df15
def df17 : List UT := subL (varU 16 5) (varU 16 0)
def df18 : List UT := mulsU (conU 16 1) [varU 16 5, df17]
def df19 : List UT := sumsU [] [varU 16 0, df18]
def df20 : List UT := subL (varU 16 6) df19
def df21 : List UT := mulsU (conU 16 1) [conU 16 2, varU 16 10, varU 16 2]
def df22 : List UT := sumsU [] [varU 16 1, df21]
def df23 : List UT := subL (varU 16 7) df22
def df24 : List UT := mulsU (conU 16 1) [varU 16 6, varU 16 6]
def df25 : List UT := subL df24 (conU 16 1)
def df26 : List UT := mulsU (conU 16 1) [df25, varU 16 7, varU 16 7]
def df27 : List UT := sumsU [] [df26, conU 16 1]
def df28 : List UT := subL (varU 16 8) df27
def df29 : List UT := mulsU (conU 16 1) [varU 16 3, varU 16 5, varU 16 8]
def df30 : List UT := mulsU (conU 16 1) [varU 16 13, varU 16 13]
def df31 : List UT := subL df29 df30
def df32 : List UT := mulsU (conU 16 1) [varU 16 5, varU 16 11]
def df33 : List UT := sumsU [] [varU 16 2, df32]
def df34 : List UT := subL (varU 16 7) df33
def df35 : List UT := sumsU [] [varU 16 1, varU 16 12]
def df36 : List UT := subL (varU 16 2) df35
def dfS : SZ := ⟨16, [linkU 16 0 [df1], linkU 16 0 [df3], linkU 16 0 [df8], linkU 16 0 [df11], linkU 16 0 [df16], linkU 16 0 [df20], linkU 16 0 [df23], linkU 16 0 [df28], linkU 16 0 [df31], linkU 16 0 [df34], linkU 16 0 [df36]]⟩
section
variable {P : Program} {tab : Tab} {n : Nat} {s : St}
variable {ops : Array Oper} {draw : Dr} {o : Oper} {l : List Oper} {acc : List Eff} {K : Exit → St → Prop}
theorem Fl.ixPn [f : Facts P tab] {t : TypeId} {x y : Operand} (hop : o.op = .indexAddr t x y) {e : TypeId} {i : TI} {len sz' by' : Nat} {z : List Value} (hts : tab t = some ⟨.array len e, sz', by', z⟩) (hti : tab e = some i) {b : Id} {off : Nat} (hx : opd s x = .ptr b off) {k : IntKind} {m : Int} (hy : opd s y = .v (.int k m)) {q : Nat} (hq : off + m.toNat * i.size = q) (hg : gOk ops s o = true) (hd : dOk n o.dst = true) (h1 : (decide (0 ≤ m) && decide (m.toNat < len)) = true)
  (r : Fl P n ops draw l ((Eff.mk (.ptr b q) [] [] [] []).app o.dst s) (Eff.mk (.ptr b q) [] [] [] [] :: acc) K) : Fl P n ops draw (o :: l) s acc K := by
 simp only [Bool.and_eq_true, decide_eq_true_eq] at h1;exact Fl.ixP hop hts hti hx hy m.toNat (by omega) hq hg hd h1.2 r
end
def dfX : Nat → List (List AV)
  | 0 => List.replicate 16 [aN 0, .v (.slice none 0 0)]
  | n + 1 => (dfX n).set n (eP (mkP 16 (varU 16 n)))
end Go.AL
namespace Go.Proofs.YtcaecieigoplbaaGreat
open Go.AL
theorem kEqS {p q : List UT} (hp : chkU 16 p p = true) (hq : chkU 16 q q = true) (h : chkU 16 (addUs (-1) p q) (subL p q) = true) (hl : okLk 16 [subL p q] = true) : PureFn Tryz.prog 69 [aK 16, aP (mkP 16 p), aP (mkP 16 q)] (aL (linkU 16 0 [subL p q])) := kEq_ok 16 (by omega) p q (subL p q) hp hq h (okLk_ok (V := 16) (ls := [subL p q]) hl _ (by simp))
theorem kSubS {p q : List UT} (hp : chkU 16 p p = true) (hq : chkU 16 q q = true) (h : chkU 16 (addUs (-1) p q) (subL p q) = true) : PureFn Tryz.prog 93 [aK 16, aP (mkP 16 p), aP (mkP 16 q)] (aP (mkP 16 (subL p q))) := kSub_ok 16 (by omega) p q (subL p q) hp hq h
theorem dfPell_ok (p q l2 l : List UT) (hp : chkU 16 p p = true) (hm : okMuls 16 (conU 16 1) [p, p] = true) (h1 : chkU 16 (mulsU (conU 16 1) [p, p]) (mulsU (conU 16 1) [p, p]) = true) (hs : chkU 16 (addUs (-1) (mulsU (conU 16 1) [p, p]) (conU 16 1)) l2 = true) (hm2 : okMuls 16 (conU 16 1) [l2, q, q] = true) (ha : okSums 16 [] [mulsU (conU 16 1) [l2, q, q], conU 16 1] = true) (hl : sumsU [] [mulsU (conU 16 1) [l2, q, q], conU 16 1] = l) : IoFn Tryz.prog 119 [aP (mkP 16 p), aP (mkP 16 q), .ptr 900 0, .ptr 901 0] [(900, .cells [aN 16] 84), (901, .cells (eP (mkP 16 (conU 16 1))) 70)] (.ret (aP (mkP 16 l))) [(900, .cells [aN 16] 84), (901, .cells (eP (mkP 16 (conU 16 1))) 70)] := by
 subst hl;refine IoFn.of_body Tryz.func119 rfl Tryz.ntmps119 rfl rfl rfl ?_;refine AWP.seqS ?_;(repeat' (first |apply qn |apply qr |refine qe ?_|fail));refine ⟨?_⟩;(repeat' (first |refine qv ?_ |apply qs |apply qr));refine ql eP [mkP 16 p, mkP 16 p] ?_;skip;refine qc (kMul_ok 16 (by omega) [p, p] (by simp) hm) ?_;(repeat' (first |refine qv ?_|fail));refine qc (kSub_ok 16 (by omega) (mulsU (conU 16 1) [p, p]) (conU 16 1) l2 h1 (by kernel_rfl) hs) ?_;(repeat' (first |refine qv ?_|fail));refine ql eP [mkP 16 l2, mkP 16 q, mkP 16 q] ?_;skip;refine qc (kMul_ok 16 (by omega) [l2, q, q] (by simp) hm2) ?_;(repeat' (first |refine qv ?_|fail));refine ql eP [mkP 16 (mulsU (conU 16 1) [l2, q, q]), mkP 16 (conU 16 1)] ?_;skip;refine qc (kAdd_ok 16 (by omega) [mulsU (conU 16 1) [l2, q, q], conU 16 1] (by simp) ha) ?_;(repeat' (first |refine Fl.nil (fun _ => by kernel_rfl) ?_ |refine qe ?_ |apply qt));exact ⟨⟨[], _, _, Ent.refl _ _ _, rfl, AV.Le.refl _, rfl, ⟨⟨⟨_, rfl, BLe.cells (LeL.refl _)⟩, rfl⟩, ⟨⟨_, rfl, BLe.cells (LeL.refl _)⟩, rfl⟩, trivial⟩, rfl, rfl⟩⟩
theorem dfPellS {p q : List UT} (hp : chkU 16 p p = true) (hm : okMuls 16 (conU 16 1) [p, p] = true) (h1 : chkU 16 (mulsU (conU 16 1) [p, p]) (mulsU (conU 16 1) [p, p]) = true) (hs : chkU 16 (addUs (-1) (mulsU (conU 16 1) [p, p]) (conU 16 1)) (subL (mulsU (conU 16 1) [p, p]) (conU 16 1)) = true) (hm2 : okMuls 16 (conU 16 1) [subL (mulsU (conU 16 1) [p, p]) (conU 16 1), q, q] = true) (ha : okSums 16 [] [mulsU (conU 16 1) [subL (mulsU (conU 16 1) [p, p]) (conU 16 1), q, q], conU 16 1] = true) : IoFn Tryz.prog 119 [aP (mkP 16 p), aP (mkP 16 q), .ptr 900 0, .ptr 901 0] [(900, .cells [aN 16] 84), (901, .cells (eP (mkP 16 (conU 16 1))) 70)] (.ret (aP (mkP 16 (sumsU [] [mulsU (conU 16 1) [subL (mulsU (conU 16 1) [p, p]) (conU 16 1), q, q], conU 16 1])))) [(900, .cells [aN 16] 84), (901, .cells (eP (mkP 16 (conU 16 1))) 70)] := dfPell_ok p q _ _ hp hm h1 hs hm2 ha rfl
set_option maxHeartbeats 8000000 in
set_option maxRecDepth 20000 in
theorem dfEq_ok : PureFn Tryz.prog 49 [] (aS dfS) := by
 refine PureFn.of_body Tryz.func49 rfl Tryz.ntmps49 rfl rfl ?_;refine AWP.seqS ?_;(repeat' (first |apply qn |apply qr |refine qe ?_|fail));refine ⟨AWP.seqS ?_⟩;(repeat' (first |apply qr));refine qc (kNew_ok 16) ?_;(repeat' (first |apply qn |refine qe ?_|fail));refine ⟨AWP.seqS ?_⟩;(repeat' (first |apply qn |apply qr |refine qe ?_|fail));refine ⟨AWP.seqS ?_⟩;(repeat' (first |refine qv ?_ |apply qn |apply qs |apply qr |apply qb));refine AWP.loop (G := Nat) (fun i => i ≤ 16) (fun i => St.of [] [(0, .ptr 0 0), (1, .ptr 1 0), (2, .ptr 2 0), (7, aN i)] [(0, .cells [aN 0, .v (.slice none 0 0)] 25), (1, .cells [aN 16] 84), (2, .cells (dfX i).flatten 120)]) (fun i => 16 - i) 0 (by omega) ?_ ?_
 ·refine Ent.of [] ?_ ?_ rfl rfl;(repeat' (first |exact True.intro |refine ⟨⟨AV.Le.refl _, rfl⟩, ?_⟩ |refine ⟨⟨⟨_, rfl, BLe.cells (LeL.refl _)⟩, rfl⟩, ?_⟩|fail))
 ·intro i hi;rcases (show i = 16 ∨ i < 16 by omega) with h | h
  ·subst h;(repeat' (first |refine qv ?_ |apply qn |apply qs |apply qr |refine AWP.condF rfl ?_ |apply qx));refine ⟨AWP.seqS ?_⟩;(repeat' (first |refine qv ?_ |apply qr));refine qc (kN_ok 16 1 (by omega) (by omega) (by omega)) ?_;(repeat' (first |apply qn |refine qe ?_|fail));refine ⟨AWP.seqS ?_⟩;(repeat' (first |refine qv ?_ |apply qn |apply qr));refine ⟨AWP.seqS ?_⟩;refine AWP.regionJ [(1, 0, [aN 16]), (4, 0, eP (mkP 16 (conU 16 1))), (2, 0, eP (mkP 16 (varU 16 0))), (2, 2, eP (mkP 16 (varU 16 1))), (2, 4, eP (mkP 16 (varU 16 2))), (2, 6, eP (mkP 16 (varU 16 3))), (2, 8, eP (mkP 16 (varU 16 4))), (2, 10, eP (mkP 16 (varU 16 5))), (2, 12, eP (mkP 16 (varU 16 6))), (2, 14, eP (mkP 16 (varU 16 7))), (2, 16, eP (mkP 16 (varU 16 8))), (2, 18, eP (mkP 16 (varU 16 9))), (2, 20, eP (mkP 16 (varU 16 10))), (2, 22, eP (mkP 16 (varU 16 11))), (2, 24, eP (mkP 16 (varU 16 12))), (2, 26, eP (mkP 16 (varU 16 13))), (2, 28, eP (mkP 16 (varU 16 14))), (2, 30, eP (mkP 16 (varU 16 15)))] (InvJ.cons ⟨_, _, rfl, rfl⟩ (InvJ.cons ⟨_, _, rfl, rfl⟩ (InvJ.cons ⟨_, _, rfl, rfl⟩ (InvJ.cons ⟨_, _, rfl, rfl⟩ (InvJ.cons ⟨_, _, rfl, rfl⟩ (InvJ.cons ⟨_, _, rfl, rfl⟩ (InvJ.cons ⟨_, _, rfl, rfl⟩ (InvJ.cons ⟨_, _, rfl, rfl⟩ (InvJ.cons ⟨_, _, rfl, rfl⟩ (InvJ.cons ⟨_, _, rfl, rfl⟩ (InvJ.cons ⟨_, _, rfl, rfl⟩ (InvJ.cons ⟨_, _, rfl, rfl⟩ (InvJ.cons ⟨_, _, rfl, rfl⟩ (InvJ.cons ⟨_, _, rfl, rfl⟩ (InvJ.cons ⟨_, _, rfl, rfl⟩ (InvJ.cons ⟨_, _, rfl, rfl⟩ (InvJ.cons ⟨_, _, rfl, rfl⟩ (InvJ.cons ⟨_, _, rfl, rfl⟩ (InvJ.nil _))))))))))))))))))) ?_;(repeat' (first | refine Fl.ldJ rfl rfl rfl rfl rfl rfl rfl rfl ?_ | refine Fl.v rfl rfl rfl ?_ | refine Fl.ixPn rfl rfl rfl rfl rfl rfl rfl rfl rfl ?_ | refine Fl.call rfl (kN_ok 16 _ (by omega) (by omega) (by omega)) rfl rfl rfl (LeL.refl _) ?_ | refine Fl.call rfl (kAdd_ok 16 (by omega) [_, _] (by simp) (by kernel_rfl)) rfl rfl rfl (LeL.refl _) ?_ | refine Fl.call rfl (kMul_ok 16 (by omega) [_, _] (by simp) (by kernel_rfl)) rfl rfl rfl (LeL.refl _) ?_ | refine Fl.call rfl (kMul_ok 16 (by omega) [_, _, _] (by simp) (by kernel_rfl)) rfl rfl rfl (LeL.refl _) ?_ | refine Fl.call rfl (kMul_ok 16 (by omega) [_, _, _, _, _] (by simp) (by kernel_rfl)) rfl rfl rfl (LeL.refl _) ?_ | refine Fl.call rfl (kSubS (by kernel_rfl) (by kernel_rfl) (by kernel_rfl)) rfl rfl rfl (LeL.refl _) ?_ | refine Fl.call rfl (kEqS (by kernel_rfl) (by kernel_rfl) (by kernel_rfl) (by kernel_rfl)) rfl rfl rfl (LeL.refl _) ?_ | refine Fl.ioV rfl rfl [(900, 1), (901, 4)] (dfPellS (by kernel_rfl) (by kernel_rfl) (by kernel_rfl) (by kernel_rfl) (by kernel_rfl) (by kernel_rfl)) rfl rfl (LeL.refl _) rfl ⟨⟨⟨_, rfl, BLe.cells (LeL.refl _)⟩, rfl⟩, ⟨⟨_, rfl, BLe.cells (LeL.refl _)⟩, rfl⟩, trivial⟩ rfl rfl rfl rfl rfl ?_ | refine Fl.lit rfl rfl rfl rfl rfl eP [mkP 16 _, mkP 16 _] rfl rfl rfl rfl (by intro _ _; rfl) rfl ?_ | refine Fl.lit rfl rfl rfl rfl rfl eP [mkP 16 _, mkP 16 _, mkP 16 _] rfl rfl rfl rfl (by intro _ _; rfl) rfl ?_ | refine Fl.lit rfl rfl rfl rfl rfl eP [mkP 16 _, mkP 16 _, mkP 16 _, mkP 16 _, mkP 16 _] rfl rfl rfl rfl (by intro _ _; rfl) rfl ?_ | refine Fl.lit rfl rfl rfl rfl rfl eL [linkU 16 0 _, linkU 16 0 _, linkU 16 0 _, linkU 16 0 _, linkU 16 0 _, linkU 16 0 _, linkU 16 0 _, linkU 16 0 _, linkU 16 0 _, linkU 16 0 _, linkU 16 0 _] rfl rfl rfl rfl (by intro _ _; rfl) rfl ?_ | refine Fl.b rfl rfl rfl rfl ?_ | fail));(repeat' (first |refine Fl.nil (fun _ => by kernel_rfl) ?_|fail));refine ⟨?_⟩;(repeat' (first |apply qt));refine RetOk.of rfl (AV.Le.agg (LeL.cons (AV.Le.refl _) (LeL.cons (AV.Le.sl ?_) LeL.nil)));kernel_rfl
  ·(repeat' (first |refine qv ?_ |apply qn |apply qs |apply qr |(refine AWP.condD rfl ?_ ?_ <;> intro _ <;> try (exfalso; omega)) |apply qb |apply qk));refine qc (kV_ok 16 i (by omega) h) ?_;skip;refine Fl.ixP rfl rfl rfl rfl rfl i rfl rfl rfl rfl h ?_;obtain ⟨j, hj⟩ : ∃ j, j = i + 1 := ⟨_, rfl⟩;rcases (show i = 0 ∨ i = 1 ∨ i = 2 ∨ i = 3 ∨ i = 4 ∨ i = 5 ∨ i = 6 ∨ i = 7 ∨ i = 8 ∨ i = 9 ∨ i = 10 ∨ i = 11 ∨ i = 12 ∨ i = 13 ∨ i = 14 ∨ i = 15 by omega) with rfl | rfl | rfl | rfl | rfl | rfl | rfl | rfl | rfl | rfl | rfl | rfl | rfl | rfl | rfl | rfl
   all_goals
    (repeat' (first |refine qv ?_ |apply qn |apply qr |refine qw ?_ |refine qe ?_|fail));refine LoopEnd.of j (by omega) (by omega) ?_;subst hj;refine Ent.of [] ?_ ?_ rfl rfl;(repeat' (first |exact True.intro |refine ⟨⟨AV.Le.refl _, rfl⟩, ?_⟩ |refine ⟨⟨⟨_, rfl, BLe.cells (LeL.refl _)⟩, rfl⟩, ?_⟩|fail))
end Go.Proofs.YtcaecieigoplbaaGreat
/- psi modulo chi: plain. -/
namespace Go.AL
theorem psi_base (a b : Int) : ∀ n : Nat, ∃ u v, chiN a n = chiN b n + (a - b) * u ∧ psiN a n = psiN b n + (a - b) * v
 | 0 => ⟨0, 0, by simp [chi_zero], by simp [psi_zero]⟩
 | n + 1 => by
  obtain ⟨u, v, h1, h2⟩ := psi_base a b n;refine ⟨chiN b n + a * u + (a + b) * psiN b n + (a * a - 1) * v, u + psiN b n + a * v, ?_, ?_⟩
  ·rw [chi_succ, chi_succ, h1, h2]; grind
  ·rw [psi_succ, psi_succ, h1, h2]; grind
theorem psi_index (a : Int) : ∀ n : Nat, ∃ u v, chiN a n = 1 + (a - 1) * u ∧ psiN a n = n + (a - 1) * v
 | 0 => ⟨0, 0, by simp [chi_zero], by simp [psi_zero]⟩
 | n + 1 => by
  obtain ⟨u, v, h1, h2⟩ := psi_index a n;refine ⟨a * u + 1 + (a + 1) * (n + (a - 1) * v), u + n + a * v, ?_, ?_⟩
  ·rw [chi_succ, h1, h2]; grind
  ·rw [psi_succ, h1, h2]
   have : ((n + 1 : Nat) : Int) = n + 1 := by omega
   rw [this];grind
end Go.AL
/- The eleven equations: plain. -/
namespace Go.AL
theorem psi_ge_idx {a : Int} (ha : 2 ≤ a) : ∀ n : Nat, (n : Int) ≤ psiN a n
 | 0 => by simp [psi_zero]
 | n + 1 => by have := psi_lt ha (show n < n + 1 by omega); have := psi_ge_idx ha n; omega
theorem g_mod {a c f g m2 : Int} (hg : g = a + f * (f - a)) (hf : f = 1 + 2 * c * m2) : g - 1 = 2 * c * (m2 * (2 + 2 * c * m2 - a)) := by rw [hg, hf]; grind
theorem f_mod {a c d e f i : Int} (e4 : e = 2 * (i + 1) * (c * c) * d) (e5 : f = (a * a - 1) * (e * e) + 1) : f = 1 + 2 * c * ((a * a - 1) * ((i + 1) * c * d * e)) := by
  have : e * e = 2 * c * ((i + 1) * c * d * e) := by conv => lhs; arg 1; rw [e4]
                                                     grind
  rw [e5, this]; grind
end Go.AL
/- What define.Witness finds solves the equations. Plain. -/
namespace Go.AL
def DfEq (a b c d e f g h I i j t v w k l : Int) : Prop :=
  a = k + 2 ∧ b = l + 1 ∧ d = (a * a - 1) * (c * c) + 1 ∧ e = 2 * (i + 1) * (c * c) * d ∧ f = (a * a - 1) * (e * e) + 1 ∧ g = a + f * (f - a) ∧ h = b + 2 * j * c ∧ I = (g * g - 1) * (h * h) + 1 ∧ d * f * I = w * w ∧ h = c + f * t ∧ c = b + v
theorem cp_base_mono {a g : Int} (ha : 2 ≤ a) (h : a ≤ g) : ∀ n, chiN a n ≤ chiN g n ∧ psiN a n ≤ psiN g n
 | 0 => by simp [chi_zero, psi_zero]
 | n + 1 => by
  obtain ⟨h1, h2⟩ := cp_base_mono ha h n;obtain ⟨p1, p2, _⟩ := cp_pos ha n;obtain ⟨q1, q2, _⟩ := cp_pos (show 2 ≤ g by omega) n;rw [chi_succ, chi_succ, psi_succ, psi_succ];have e1 : a * chiN a n ≤ g * chiN g n := Int.mul_le_mul h h1 (by omega) (by omega);have e0 : a * a ≤ g * g := Int.mul_le_mul h h (by omega) (by omega);have ea : 2 * 2 ≤ a * a := Int.mul_le_mul ha ha (by omega) (by omega);have e2 : (a * a - 1) * psiN a n ≤ (g * g - 1) * psiN g n := Int.mul_le_mul (by omega) h2 p2 (by omega);have e3 : a * psiN a n ≤ g * psiN g n := Int.mul_le_mul h h2 p2 (by omega);omega
theorem pell' (a : Int) (n : Nat) : chiN a n * chiN a n = (a * a - 1) * (psiN a n * psiN a n) + 1 := by
 have := pell a n;omega
theorem dn_found {a b : Int} {n : Nat} (h2 : 2 ≤ a) (hb : 1 ≤ b) (hn : 1 ≤ n) (hd : dU a b ∣ psiN a n) : DfEq a b (dn a b n).c (dn a b n).d (dn a b n).e (dn a b n).f (dn a b n).G (dn a b n).h (dn a b n).I (dn a b n).i (dn a b n).j (dn a b n).t (dn a b n).v (dn a b n).w (a - 2) (b - 1) ∧ ∀ x ∈ (dn a b n).L a b, 0 ≤ x := by
 obtain ⟨e1, e2, e3, e4, e5, e6, e7⟩ := dn_pos1 (n := n) h2 hb hn;obtain ⟨p1, p2⟩ := dn_pos2 (a := a) (b := b) (n := n) hb e6;have wc : (dn a b n).c = psiN a b.toNat := rfl;have wx : (dn a b n).x = chiN a b.toNat := rfl;have wd : (dn a b n).d = (dn a b n).x * (dn a b n).x := rfl;have wu : (dn a b n).u = 2 * (dn a b n).c * (dn a b n).c * (dn a b n).d := rfl;have we : (dn a b n).e = psiN a n := rfl;have ws : (dn a b n).s = chiN a n := rfl;have wf : (dn a b n).f = (dn a b n).s * (dn a b n).s := rfl;have wG : (dn a b n).G = a + (dn a b n).f * ((dn a b n).f - a) := rfl;have wh : (dn a b n).h = psiN (dn a b n).G b.toNat := rfl;have wp : (dn a b n).p = chiN (dn a b n).G b.toNat := rfl;have w1 : (dn a b n).I = (dn a b n).p * (dn a b n).p := rfl;have w2 : (dn a b n).i = (dn a b n).e / (dn a b n).u - 1 := rfl;have w3 : (dn a b n).j = ((dn a b n).h - b) / (2 * (dn a b n).c) := rfl;have w4 : (dn a b n).t = ((dn a b n).h - (dn a b n).c) / (dn a b n).f := rfl;have w5 : (dn a b n).v = (dn a b n).c - b := rfl;have w6 : (dn a b n).w = (dn a b n).x * (dn a b n).s * (dn a b n).p := rfl;rw [← dn_u a b n, ← we] at hd;have q1 := pell' a b.toNat;have q2 := pell' a n;have q3 := pell' (dn a b n).G b.toNat;rw [← wc, ← wx, ← wd] at q1;rw [← we, ← ws, ← wf] at q2;rw [← wh, ← wp, ← w1] at q3;obtain ⟨_, v1, _, r1⟩ := psi_index (dn a b n).G b.toNat;rw [← wh] at r1;obtain ⟨_, v2, _, r2⟩ := psi_base (dn a b n).G a b.toNat;rw [← wh, ← wc] at r2;have g1 := psi_ge_idx h2 b.toNat;rw [← wc] at g1;have hfa : 0 ≤ (dn a b n).f * ((dn a b n).f - a) := Int.mul_nonneg (by omega) (by omega);have g2 := psi_ge_idx e6 b.toNat;rw [← wh] at g2;have g3 := (cp_base_mono h2 (show a ≤ (dn a b n).G by rw [wG]; omega) b.toNat).2;rw [← wc, ← wh] at g3
 have hbn : ((b.toNat : Nat) : Int) = b := by omega
 rw [hbn] at g1 g2 r1;simp only [DN.L]
 generalize dn a b n = D at *
 obtain ⟨c, x, d, u, e, s, f, G, h, p, I, i, j, t, v, w⟩ := D
 simp only at *
 clear wc wx we ws wh wp;obtain ⟨k, hk⟩ := hd
 have hk1 : 1 ≤ k := by
  rcases (show k ≤ 0 ∨ 1 ≤ k by omega) with h0 | h0
  ·exfalso;have : u * k ≤ u * 0 := Int.mul_le_mul_of_nonneg_left h0 (by omega);omega
  ·exact h0
 have hi : i = k - 1 := by rw [w2, hk, Int.mul_ediv_cancel_left _ (by omega)]
 have E4 : e = 2 * (i + 1) * (c * c) * d := by rw [hk, hi, wu]; grind
 have hf2 := f_mod (a := a) (c := c) (d := d) (e := e) (f := f) (i := i) E4 q2;have hg2 := g_mod wG hf2;obtain ⟨m, hm⟩ : ∃ m, G - 1 = 2 * c * m := ⟨_, hg2⟩
 have hj0 : h - b = 2 * c * (m * v1) := by rw [r1, hm]; grind
 have hj : j = m * v1 := by rw [w3, hj0, Int.mul_ediv_cancel_left _ (by omega)]
 have ht0 : h - c = f * ((f - a) * v2) := by
  have : G - a = f * (f - a) := by omega
  rw [r2, this]; grind
 have ht : t = (f - a) * v2 := by rw [w4, ht0, Int.mul_ediv_cancel_left _ (by omega)]
 have hx2 : 1 ≤ x * x := Int.le_trans e2 (mul_ge (by omega) e2);have hp2 : 1 ≤ p * p := Int.le_trans p2 (mul_ge (by omega) p2);refine ⟨⟨by omega, by omega, q1, E4, q2, wG, ?_, q3, ?_, ?_, by omega⟩, ?_⟩
 ·have : 2 * j * c = 2 * c * (m * v1) := by rw [hj]; grind
  omega
 ·rw [wd, wf, w1, w6]; grind
 ·rw [ht]; omega
 ·simp only [List.forall_mem_cons];refine ⟨by omega, by omega, by omega, by omega, by omega, by omega, by omega, by omega, by omega, by omega, ?_, ?_, by omega, ?_, by omega, by omega, by simp⟩
  ·rw [w3]; exact Int.ediv_nonneg (by omega) (by omega)
  ·rw [w4]; exact Int.ediv_nonneg (by omega) (by omega)
  ·rw [w6]; exact Int.mul_nonneg (Int.mul_nonneg (by omega) (by omega)) (by omega)
end Go.AL
/- The rank where b is 1; small cases; how great the numbers are. Plain. -/
namespace Go.AL
theorem psi_neg (a : Int) : ∀ n : Nat, ∃ s u v : Int, (s = 1 ∨ s = -1) ∧ chiN a n = s + (a + 1) * u ∧ psiN a n = -s * n + (a + 1) * v
 | 0 => ⟨1, 0, 0, .inl rfl, by simp [chi_zero], by simp [psi_zero]⟩
 | n + 1 => by
  obtain ⟨s, u, v, hs, h1, h2⟩ := psi_neg a n;refine ⟨-s, a * u + s + (a - 1) * (-s * n + (a + 1) * v), u + a * v - s * n, by omega, ?_, ?_⟩
  ·rw [chi_succ, h1, h2]; grind
  ·rw [psi_succ, h1, h2]
   have : ((n + 1 : Nat) : Int) = n + 1 := by omega
   rw [this]; grind
theorem cp_two (a : Int) : chiN a 2 = 2 * (a * a) - 1 ∧ psiN a 2 = 2 * a := by
 constructor
 ·show chiN a (0 + 1 + 1) = _;simp only [chi_succ, psi_succ, chi_zero, psi_zero]; grind
 ·show psiN a (0 + 1 + 1) = _;simp only [chi_succ, psi_succ, chi_zero, psi_zero]; grind
theorem cp_sq (a : Int) : ∀ k : Nat, chiN a (2 * k) = chiN (2 * (a * a) - 1) k ∧ psiN a (2 * k) = 2 * a * psiN (2 * (a * a) - 1) k
 | 0 => by simp [chi_zero, psi_zero]
 | k + 1 => by
  obtain ⟨h1, h2⟩ := cp_sq a k;obtain ⟨e1, e2⟩ := cp_add a (2 * k) 2;obtain ⟨c2, p2⟩ := cp_two a;rw [show 2 * (k + 1) = 2 * k + 2 by omega, e1, e2, h1, h2, c2, p2, chi_succ, psi_succ];constructor <;> grind
theorem cp_one (a : Int) : chiN a 1 = a ∧ psiN a 1 = 1 := by
 constructor
 ·show chiN a (0 + 1) = _;rw [chi_succ, chi_zero, psi_zero]; omega
 ·show psiN a (0 + 1) = _;rw [psi_succ, chi_zero, psi_zero]; omega
theorem dU_one (a : Int) : dU a 1 = 2 * (a * a) := by
 unfold dU;rw [show (1 : Int).toNat = 1 from rfl, (cp_one a).1, (cp_one a).2]; omega
theorem rank1_dvd (n : Nat) : dU n 1 ∣ psiN n (2 * n) := by
 rw [dU_one, (cp_sq n n).2];obtain ⟨s, _, v, _, _, h⟩ := psi_neg (2 * ((n : Int) * n) - 1) n;rw [h];exact ⟨-s + 2 * n * v, by grind⟩
theorem RankIs.le {a m : Int} {N n k : Nat} (h : RankIs a m N n) (hk : 1 ≤ k) (hd : m ∣ psiN a k) : n ≤ k := by
 rcases Nat.lt_or_ge k n with hl | hl
 ·exact absurd hd (h.2.2.2 k hk hl)
 ·exact hl
theorem rank_small {a m : Int} {N k : Nat} (hk : 1 ≤ k) (hN : k ≤ N) (hd : m ∣ psiN a k) : ∃ n, RankIs a m N n ∧ n ≤ k := by
 obtain ⟨n, hn⟩ := rank_ex (a := a) (m := m) (most := N) fun h => h k hk hN hd;exact ⟨n, hn, hn.le hk hd⟩
theorem dvd_idx {a m : Int} {p q : Nat} (h : m ∣ psiN a p) (hq : p ∣ q) : m ∣ psiN a q := by
 obtain ⟨k, rfl⟩ := hq;exact Int.dvd_trans h (psi_mul_dvd a p k)
theorem int_cop_mul {x y z : Nat} (hc : Nat.Coprime x y) (h1 : (x : Int) ∣ z) (h2 : (y : Int) ∣ z) : ((x * y : Nat) : Int) ∣ z := Int.natCast_dvd_natCast.2 (hc.mul_dvd_of_dvd_of_dvd (Int.natCast_dvd_natCast.1 h1) (Int.natCast_dvd_natCast.1 h2))
theorem psi_nat {a : Int} (ha : 2 ≤ a) (n : Nat) : ∃ z : Nat, psiN a n = z := ⟨(psiN a n).toNat, by have := (cp_pos ha n).2.1; omega⟩
theorem dvd_chk {x y : Int} (h : y % x = 0) : x ∣ y := Int.dvd_of_emod_eq_zero h
theorem rank2_dvd : dU 2 2 ∣ psiN 2 112 := by
 have e : dU 2 2 = 1568 := by decide +kernel
 rw [e];have d1 : (32 : Int) ∣ psiN 2 112 := dvd_idx (p := 16) (dvd_chk (by decide +kernel)) ⟨7, rfl⟩;have d2 : (49 : Int) ∣ psiN 2 112 := dvd_idx (p := 28) (dvd_chk (by decide +kernel)) ⟨4, rfl⟩;obtain ⟨z, hz⟩ := psi_nat (a := 2) (by omega) 112;rw [hz] at d1 d2 ⊢;exact int_cop_mul (x := 32) (y := 49) (by decide) d1 d2
theorem rank3_dvd : dU 2 3 ∣ psiN 2 2340 := by
 have e : dU 2 3 = 304200 := by decide +kernel
 rw [e];have d1 : (225 : Int) ∣ psiN 2 2340 := dvd_idx (p := 45) (dvd_chk (by decide +kernel)) ⟨52, rfl⟩;have d2 : (1352 : Int) ∣ psiN 2 2340 := dvd_idx (p := 156) (dvd_chk (by decide +kernel)) ⟨15, rfl⟩;obtain ⟨z, hz⟩ := psi_nat (a := 2) (by omega) 2340;rw [hz] at d1 d2 ⊢;exact int_cop_mul (x := 225) (y := 1352) (by decide) d1 d2
def BW : List Int → List Nat → Prop
  | [], _ => True
  | x :: X, m :: M => (0 ≤ x ∧ x ≤ 2 ^ m) ∧ BW X M
  | _ :: _, [] => False
def dotE : List Nat → List Int → Nat
  | m :: M, e :: E => m * e.toNat + dotE M E
  | _, _ => 0
theorem prodE_boundW : ∀ {X : List Int} {M : List Nat} {E : List Int}, BW X M → (prodE X E).natAbs ≤ 2 ^ dotE M E
 | [], M, E, _ => by
  show 1 ≤ _;exact Nat.two_pow_pos _
 | _ :: _, _, [], _ => by
  show 1 ≤ _;exact Nat.two_pow_pos _
 | x :: X, [], _ :: _, h => h.elim
 | x :: X, m :: M, e :: E, h => by
  have ih := prodE_boundW (E := E) h.2;simp only [prodE, dotE];rw [Int.natAbs_mul, Nat.pow_add, Int.natAbs_pow, Nat.pow_mul];refine Nat.mul_le_mul (Nat.pow_le_pow_left ?_ _) ih
  have h1 : ((x.natAbs : Nat) : Int) ≤ ((2 ^ m : Nat) : Int) := by
   rw [Int.natCast_pow];have := h.1;show ((x.natAbs : Nat) : Int) ≤ (2 : Int) ^ m;omega
  exact Int.ofNat_le.1 h1
theorem auv_boundW {K : Nat} {X : List Int} {M : List Nat} (hX : BW X M) : ∀ {p : List UT}, (∀ u ∈ p, dotE M u.2 ≤ K) → 0 ≤ auv X p ∧ auv X p ≤ ((absU p * 2 ^ K : Nat) : Int)
 | [], _ => by
  refine ⟨by simp [auv, sumL], ?_⟩;show (0 : Int) ≤ _;omega
 | u :: p, h => by
  have ih := auv_boundW (p := p) hX fun v hv => h v (by simp [hv]);have hb := prodE_boundW (E := u.2) hX;have hle : 2 ^ dotE M u.2 ≤ 2 ^ K := Nat.pow_le_pow_right (by omega) (h u (by simp))
  have hu : (u.1 * prodE X u.2).natAbs ≤ u.1.natAbs * 2 ^ K := by
   rw [Int.natAbs_mul];exact Nat.mul_le_mul (Nat.le_refl _) (Nat.le_trans hb hle)
  unfold auv at ih ⊢;simp only [List.map_cons, sumL, absU];rw [Nat.add_mul]
  generalize u.1.natAbs * 2 ^ K = A at *
  generalize absU p * 2 ^ K = B at *
  omega
def okW (K c : Nat) (M : List Nat) (p : List UT) : Bool := p.all (fun u => decide (dotE M u.2 ≤ K)) && Nat.ble (absU p) (2 ^ c)
theorem auv_fitW {K c : Nat} {X : List Int} {M : List Nat} (hX : BW X M) {p : List UT} (h : okW K c M p = true) (hm : c + K < 131072) : Fit (auv X p) := by
 simp only [okW, Bool.and_eq_true, List.all_eq_true, decide_eq_true_eq] at h;have h2 : absU p ≤ 2 ^ c := Nat.le_of_ble_eq_true h.2;obtain ⟨b0, b1⟩ := auv_boundW hX h.1;have h3 : absU p * 2 ^ K ≤ 2 ^ c * 2 ^ K := Nat.mul_le_mul h2 (Nat.le_refl _);rw [← Nat.pow_add] at h3;obtain ⟨N, hN⟩ : ∃ N : Nat, N = 131072 := ⟨_, rfl⟩;have h4 : 2 ^ (c + K) < 2 ^ N := Nat.pow_lt_pow_right (by omega) (by omega);refine Fit.mk ?_;rw [BB_pow, show 32 * 4096 = N by omega];rw [show (((auv X p).natAbs : Nat) : Int) = auv X p by omega];have h5 : ((absU p * 2 ^ K : Nat) : Int) < ((2 ^ N : Nat) : Int) := Int.ofNat_lt.2 (Nat.lt_of_le_of_lt h3 h4);rw [Int.natCast_pow] at h5;exact Int.lt_of_le_of_lt b1 h5
theorem chi_ub2 {a : Int} {k : Nat} (ha : 2 ≤ a) (h : 2 * a ≤ 2 ^ k) (n : Nat) : chiN a n ≤ 2 ^ (k * n) := by
 rw [Int.pow_mul];exact Int.le_trans (chi_lt_psi ha n) (Int.le_trans (psi_ub ha n) (pow_le_l (by omega) h n))
theorem psi_ub2 {a : Int} {k : Nat} (ha : 2 ≤ a) (h : 2 * a ≤ 2 ^ k) {n : Nat} (hn : 1 ≤ n) : psiN a n ≤ 2 ^ (k * (n - 1)) := by
 obtain ⟨m, rfl⟩ : ∃ m, n = m + 1 := ⟨n - 1, by omega⟩;rw [Int.pow_mul];exact Int.le_trans (psi_ub ha m) (pow_le_l (by omega) h m)
theorem sq_ub {x : Int} {k : Nat} (h0 : 0 ≤ x) (h : x ≤ 2 ^ k) : x * x ≤ 2 ^ (2 * k) := by
 rw [show 2 * k = k + k by omega, Int.pow_add];exact Int.mul_le_mul h h h0 (by omega)
theorem mul_ub {x y : Int} {k m : Nat} (h0 : 0 ≤ y) (h : x ≤ 2 ^ k) (h1 : y ≤ 2 ^ m) : x * y ≤ 2 ^ (k + m) := by
 rw [Int.pow_add];exact Int.mul_le_mul h h1 h0 (Int.le_of_lt (Int.pow_pos (by omega)))
def dM (r m B : Nat) : List Nat := [m, r, r, 2 * r, m, 2 * m, 4 * m + 1, (4 * m + 2) * (B - 1), 2 * ((4 * m + 2) * B), m, (4 * m + 2) * (B - 1), (4 * m + 2) * (B - 1), r, r + m + (4 * m + 2) * B, m, r]
theorem dn_BW {a b : Int} {n r m : Nat} (h2 : 2 ≤ a) (hb : 1 ≤ b) (hn : 1 ≤ n) (hd : dU a b ∣ psiN a n) (hx : chiN a b.toNat ≤ 2 ^ r) (hs : chiN a n ≤ 2 ^ m) : BW ((dn a b n).L a b) (dM r m b.toNat) := by
 obtain ⟨hE, h0⟩ := dn_found h2 hb hn hd;obtain ⟨e1, e2, e3, e4, e5, e6, e7⟩ := dn_pos1 (n := n) h2 hb hn;obtain ⟨p1, p2⟩ := dn_pos2 (a := a) (b := b) (n := n) hb e6;obtain ⟨m1, rfl⟩ : ∃ k, n = k + 1 := ⟨n - 1, by omega⟩;obtain ⟨m2, hm2⟩ : ∃ k, b.toNat = k + 1 := ⟨b.toNat - 1, by omega⟩;have hc : psiN a b.toNat ≤ 2 ^ r := Int.le_trans (by rw [hm2]; exact psi_le_chi h2 m2) hx;have he : psiN a (m1 + 1) ≤ 2 ^ m := Int.le_trans (psi_le_chi h2 m1) hs;have hf := sq_ub (x := chiN a (m1 + 1)) (by have : a ≤ chiN a (m1 + 1) := e4; omega) hs
 have hG : (dn a b (m1 + 1)).G ≤ 2 ^ (4 * m + 1) := by
  have w1 : (dn a b (m1 + 1)).G = a + (dn a b (m1 + 1)).f * ((dn a b (m1 + 1)).f - a) := rfl;have w2 : (dn a b (m1 + 1)).f = chiN a (m1 + 1) * chiN a (m1 + 1) := rfl;have k1 : (dn a b (m1 + 1)).f * ((dn a b (m1 + 1)).f - a) ≤ 2 ^ (2 * m + 2 * m) := mul_ub (by omega) (by rw [w2]; exact hf) (by rw [← w2] at hf; omega)
  have k2 : (dn a b (m1 + 1)).f ≤ 2 ^ (4 * m) := by
   rw [w2]; exact Int.le_trans hf (pow_le_r (by omega) (by omega))
  rw [show 2 * m + 2 * m = 4 * m by omega] at k1;rw [Int.pow_succ, w1];omega
 have hG2 : 2 * (dn a b (m1 + 1)).G ≤ 2 ^ (4 * m + 2) := by
  rw [show 4 * m + 2 = 4 * m + 1 + 1 by omega, Int.pow_succ]; omega
 have hp : (dn a b (m1 + 1)).p ≤ 2 ^ ((4 * m + 2) * b.toNat) := chi_ub2 e6 hG2 _;have hh : (dn a b (m1 + 1)).h ≤ 2 ^ ((4 * m + 2) * (b.toNat - 1)) := psi_ub2 e6 hG2 (by omega);have hI := sq_ub (x := (dn a b (m1 + 1)).p) (by omega) hp;have hd2 := sq_ub (x := chiN a b.toNat) (by have : 1 ≤ chiN a b.toNat := e2; omega) hx;have hw := mul_ub (x := chiN a b.toNat * chiN a (m1 + 1)) (y := (dn a b (m1 + 1)).p) (by omega) (mul_ub (by have : a ≤ chiN a (m1 + 1) := e4; omega) hx hs) hp;have ha : a ≤ 2 ^ m := Int.le_trans e4 hs;have g1 := psi_ge_idx h2 b.toNat;have wi : (dn a b (m1 + 1)).i = (dn a b (m1 + 1)).e / (dn a b (m1 + 1)).u - 1 := rfl;have wv : (dn a b (m1 + 1)).v = (dn a b (m1 + 1)).c - b := rfl;have wj : (dn a b (m1 + 1)).j = ((dn a b (m1 + 1)).h - b) / (2 * (dn a b (m1 + 1)).c) := rfl;have wt : (dn a b (m1 + 1)).t = ((dn a b (m1 + 1)).h - (dn a b (m1 + 1)).c) / (dn a b (m1 + 1)).f := rfl;have g2 := psi_ge_idx e6 b.toNat
 have g3 := (cp_base_mono h2 (show a ≤ (dn a b (m1 + 1)).G by
  have w1 : (dn a b (m1 + 1)).G = a + (dn a b (m1 + 1)).f * ((dn a b (m1 + 1)).f - a) := rfl;have := Int.mul_nonneg (show 0 ≤ (dn a b (m1 + 1)).f by omega) (show 0 ≤ (dn a b (m1 + 1)).f - a by omega)
  omega) b.toNat).2
 have k1 := Int.ediv_le_self (dn a b (m1 + 1)).u (show 0 ≤ (dn a b (m1 + 1)).e by omega);have k2 := Int.ediv_le_self (a := (dn a b (m1 + 1)).h - b) (2 * (dn a b (m1 + 1)).c) (by have : psiN (dn a b (m1 + 1)).G b.toNat = (dn a b (m1 + 1)).h := rfl; omega)
 have k3 := Int.ediv_le_self (a := (dn a b (m1 + 1)).h - (dn a b (m1 + 1)).c) (dn a b (m1 + 1)).f (by
  have : psiN (dn a b (m1 + 1)).G b.toNat = (dn a b (m1 + 1)).h := rfl;have : psiN a b.toNat = (dn a b (m1 + 1)).c := rfl
  omega)
 have we : (dn a b (m1 + 1)).e = psiN a (m1 + 1) := rfl;have wc : (dn a b (m1 + 1)).c = psiN a b.toNat := rfl;simp only [DN.L, List.forall_mem_cons] at h0;obtain ⟨h00, h01, h02, h03, h04, h05, h06, h07, h08, h09, h10, h11, h12, h13, h14, h15, _⟩ := h0;have hI : (dn a b (m1 + 1)).I ≤ _ := hI;have hd2 : (dn a b (m1 + 1)).d ≤ _ := hd2;have hf : (dn a b (m1 + 1)).f ≤ _ := hf;have hw : (dn a b (m1 + 1)).w ≤ _ := hw
 have hbn : ((b.toNat : Nat) : Int) = b := by omega
 rw [← wc] at hc g1;rw [← we] at he
 generalize dn a b (m1 + 1) = D at *
 obtain ⟨c, x, d, u, e, s, f, G, h, p, I, i, j, t, v, w⟩ := D
 simp only at *
 simp only [DN.L, dM, BW, and_true];exact ⟨⟨h00, ha⟩, ⟨h01, by omega⟩, ⟨h02, hc⟩, ⟨h03, hd2⟩, ⟨h04, he⟩, ⟨h05, hf⟩, ⟨h06, hG⟩, ⟨h07, hh⟩, ⟨h08, hI⟩, ⟨h09, by omega⟩, ⟨h10, by omega⟩, ⟨h11, by omega⟩, ⟨h12, by omega⟩, ⟨h13, hw⟩, ⟨h14, by omega⟩, ⟨h15, by omega⟩⟩
theorem BW.fit {N : Nat} (hN : N < 131072) : ∀ {X : List Int} {M : List Nat}, BW X M → (∀ m ∈ M, m ≤ N) → ∀ x ∈ X, Fit x
 | [], _, _, _, _, hx => by cases hx
 | _ :: _, [], h, _, _, _ => h.elim
 | y :: X, m :: M, h, hM, x, hx => by
  rcases List.mem_cons.1 hx with rfl | hx
  ·exact fit_pow2 h.1.1 h.1.2 (by have := hM m (by simp); omega)
  ·exact BW.fit hN h.2 (fun k hk => hM k (by simp [hk])) x hx
def DSm (a b : Int) (r m k : Nat) : Prop := ∃ n, RankIs a (dU a b) 20000 n ∧ n ≤ k ∧ DOK a b n ∧ BW ((dn a b n).L a b) (dM r m b.toNat) ∧ dU a b ∣ psiN a n
theorem dsm {a b : Int} {r m k ka : Nat} (h2 : 2 ≤ a) (hb : 1 ≤ b) (hk : 1 ≤ k) (hk2 : k ≤ 20000) (hd : dU a b ∣ psiN a k) (hx : chiN a b.toNat ≤ 2 ^ r) (ha : 2 * a ≤ 2 ^ ka) (hm : ka * k ≤ m) (hr : 4 * r + 1 ≤ 3999) (hN : ∀ y ∈ dM r m b.toNat, y ≤ 131071) : DSm a b r m k := by
 obtain ⟨n, hn, hnk⟩ := rank_small hk hk2 hd;have hs : chiN a n ≤ 2 ^ m := Int.le_trans (chi_ub2 h2 ha n) (pow_le_r (by omega) (Nat.le_trans (Nat.mul_le_mul_left _ hnk) hm));have hB := dn_BW h2 hb hn.1 hn.2.2.1 hx hs;refine ⟨n, hn, hnk, ⟨?_, hn, BW.fit (N := 131071) (by omega) hB hN⟩, hB, hn.2.2.1⟩;obtain ⟨m2, hm2⟩ : ∃ k, b.toNat = k + 1 := ⟨b.toNat - 1, by omega⟩;have hc : psiN a b.toNat ≤ 2 ^ r := Int.le_trans (by rw [hm2]; exact psi_le_chi h2 m2) hx;have c0 := psi_pos h2 (show 1 ≤ b.toNat by omega);have x0 := (cp_pos h2 b.toNat).1
 have k1 : 2 * psiN a b.toNat ≤ 2 ^ (1 + r) := by rw [Int.pow_add]; omega
 have k2 := mul_ub (y := psiN a b.toNat) (by omega) k1 hc;have k3 := mul_ub (y := chiN a b.toNat * chiN a b.toNat) (Int.mul_nonneg (by omega) (by omega)) k2 (sq_ub (by omega) hx);have k4 : dU a b ≤ 2 ^ (1 + r + r + 2 * r) := k3;have u0 := (dn_pos1 (n := n) h2 hb hn.1).2.2.2.2.2.2;rw [dn_u] at u0;refine Nat.le_trans (bitl_le (k := 1 + r + r + 2 * r + 1) ?_) (by omega)
 have k5 : ((dU a b).natAbs : Int) < ((2 ^ (1 + r + r + 2 * r + 1) : Nat) : Int) := by
  rw [Int.natCast_pow];show ((dU a b).natAbs : Int) < (2 : Int) ^ _;rw [Int.pow_succ];omega
 exact Int.ofNat_lt.1 k5
theorem dsm_one {a : Int} (h2 : 2 ≤ a) (ha : a ≤ 501) : DSm a 1 9 10020 (2 * a.toNat) := by
 obtain ⟨n, rfl⟩ : ∃ n : Nat, a = n := ⟨a.toNat, by omega⟩;refine dsm (ka := 10) h2 (by omega) (by omega) (by omega) (by rw [Int.toNat_natCast]; exact rank1_dvd n) ?_ ?_ (by omega) (by omega) ?_
 ·rw [show (1 : Int).toNat = 1 from rfl, (cp_one _).1];exact Int.le_trans ha (by decide)
 ·have : (2 : Int) ^ 10 = 1024 := by decide
  omega
 ·decide
theorem dsm_two : DSm 2 2 6 4680 112 := by
 refine dsm (ka := 2) (by omega) (by omega) (by omega) (by omega) rank2_dvd (by decide +kernel) (by decide) (by omega) (by omega) (by decide)
theorem dsm_three : DSm 2 3 6 4680 2340 := by
 refine dsm (ka := 2) (by omega) (by omega) (by omega) (by omega) rank3_dvd (by decide +kernel) (by decide) (by omega) (by omega) (by decide)
end Go.AL
/- Validity of any many numbers. -/
namespace Go.Proofs.YtcaecieigoplbaaGreat
open Go.AL
end Go.Proofs.YtcaecieigoplbaaGreat
/- mask: the links' meaning; what they need to be evaluated. -/
namespace Go.AL
end Go.AL
namespace Go.Proofs.YtcaecieigoplbaaGreat
open Go.AL
theorem holdsR_all {f g : LZ → Bool} : ∀ {ls : List LZ}, (∀ l ∈ ls, f l = true ∧ g l = true) → holdsR f g ls = (true, 0)
 | [], _ => rfl
 | l :: ls, h => by
  obtain ⟨h1, h2⟩ := h l (by simp);rw [holdsR, if_pos h1, if_pos h2];exact holdsR_all fun x hx => h x (by simp [hx])
theorem Holds_yes (s : SZ) (X : List Int) (hw : WS s) (hs : OkS s) (hX : ∀ x ∈ X, Fit x) (hlen : (X.length : Int) = s.vars) (hnat : ∀ x ∈ X, 0 ≤ x) (he : ∀ l ∈ s.links, EvL X l) (hh : ∀ l ∈ s.links, HoL X l) : PureFn Tryz.prog 25 [aS s, .sl 2 eX X] (.tup [aB true, aN 0]) := by
 obtain ⟨f, hf⟩ := boolOf (EvL X);obtain ⟨g, hg⟩ := boolOf (HoL X);have := Holds_ok s X hw hs hX hlen hnat f g hf hg;rw [holdsR_all fun l hl => ⟨(hf l).2 (he l hl), (hg l).2 (hh l hl)⟩] at this;exact this
end Go.Proofs.YtcaecieigoplbaaGreat
/- define: the links' meaning; what they need to be evaluated. Written by gen_dg.py. -/
namespace Go.AL
theorem dfS_all : (∀ l ∈ dfS.links, OkL 16 l ∧ WL l ∧ l.kind = 0) := by
 intro l hl;simp only [dfS, List.mem_cons, List.not_mem_nil, or_false] at hl;rcases hl with rfl | rfl | rfl | rfl | rfl | rfl | rfl | rfl | rfl | rfl | rfl
 ·have := okLU_ok (V := 16) (by omega) (kind := 0) (ls := [df1]) (by kernel_rfl); exact ⟨this.1, this.2.1, rfl⟩
 ·have := okLU_ok (V := 16) (by omega) (kind := 0) (ls := [df3]) (by kernel_rfl); exact ⟨this.1, this.2.1, rfl⟩
 ·have := okLU_ok (V := 16) (by omega) (kind := 0) (ls := [df8]) (by kernel_rfl); exact ⟨this.1, this.2.1, rfl⟩
 ·have := okLU_ok (V := 16) (by omega) (kind := 0) (ls := [df11]) (by kernel_rfl); exact ⟨this.1, this.2.1, rfl⟩
 ·have := okLU_ok (V := 16) (by omega) (kind := 0) (ls := [df16]) (by kernel_rfl); exact ⟨this.1, this.2.1, rfl⟩
 ·have := okLU_ok (V := 16) (by omega) (kind := 0) (ls := [df20]) (by kernel_rfl); exact ⟨this.1, this.2.1, rfl⟩
 ·have := okLU_ok (V := 16) (by omega) (kind := 0) (ls := [df23]) (by kernel_rfl); exact ⟨this.1, this.2.1, rfl⟩
 ·have := okLU_ok (V := 16) (by omega) (kind := 0) (ls := [df28]) (by kernel_rfl); exact ⟨this.1, this.2.1, rfl⟩
 ·have := okLU_ok (V := 16) (by omega) (kind := 0) (ls := [df31]) (by kernel_rfl); exact ⟨this.1, this.2.1, rfl⟩
 ·have := okLU_ok (V := 16) (by omega) (kind := 0) (ls := [df34]) (by kernel_rfl); exact ⟨this.1, this.2.1, rfl⟩
 ·have := okLU_ok (V := 16) (by omega) (kind := 0) (ls := [df36]) (by kernel_rfl); exact ⟨this.1, this.2.1, rfl⟩
theorem dfS_w : WS dfS := fun l hl => (dfS_all l hl).2.1
theorem dfS_ok : OkS dfS := ⟨by decide, by decide, by decide, fun l hl => (dfS_all l hl).1⟩
theorem dfS_nn : (∀ p ∈ [df1, df3, df8, df11, df16, df20, df23, df28, df31, df34, df36], nnU 16 p) := by
 have h : ([df1, df3, df8, df11, df16, df20, df23, df28, df31, df34, df36].all fun p => p.all (okU 16)) = true := by kernel_rfl
 intro p hp;have := List.all_eq_true.1 h p hp;simp only [List.all_eq_true] at this;exact fun u hu => okU_ok (this u hu)
set_option maxHeartbeats 1000000 in
theorem df_vals (a b c d e f g h I i j t v w k l : Int) : let L := [a, b, c, d, e, f, g, h, I, i, j, t, v, w, k, l]
  uv L df1 = a - (k + 2) ∧ uv L df3 = b - (l + 1) ∧ uv L df8 = d - (((a * a - 1) * (c * c)) + 1) ∧ uv L df11 = e - (2 * (i + 1) * (c * c) * d) ∧ uv L df16 = f - (((a * a - 1) * (e * e)) + 1) ∧ uv L df20 = g - (a + (f * (f - a))) ∧ uv L df23 = h - (b + 2 * j * c) ∧ uv L df28 = I - (((g * g - 1) * (h * h)) + 1) ∧ uv L df31 = d * f * I - (w * w) ∧ uv L df34 = h - (c + f * t) ∧ uv L df36 = c - (b + v) := by
 intro L;have vv : ∀ i, i < 16 → uv L (varU 16 i) = L.getD i 0 := fun i hi => uv_var rfl hi;have v0 : uv L (varU 16 0) = a := vv 0 (by omega);have v1 : uv L (varU 16 1) = b := vv 1 (by omega);have v2 : uv L (varU 16 2) = c := vv 2 (by omega);have v3 : uv L (varU 16 3) = d := vv 3 (by omega);have v4 : uv L (varU 16 4) = e := vv 4 (by omega);have v5 : uv L (varU 16 5) = f := vv 5 (by omega);have v6 : uv L (varU 16 6) = g := vv 6 (by omega);have v7 : uv L (varU 16 7) = h := vv 7 (by omega);have v8 : uv L (varU 16 8) = I := vv 8 (by omega);have v9 : uv L (varU 16 9) = i := vv 9 (by omega);have v10 : uv L (varU 16 10) = j := vv 10 (by omega);have v11 : uv L (varU 16 11) = t := vv 11 (by omega);have v12 : uv L (varU 16 12) = v := vv 12 (by omega);have v13 : uv L (varU 16 13) = w := vv 13 (by omega);have v14 : uv L (varU 16 14) = k := vv 14 (by omega);have v15 : uv L (varU 16 15) = l := vv 15 (by omega);have c0 : ∀ k, uv L (conU 16 k) = k := fun k => uv_con L 16 k;have n0 : uv L [] = 0 := rfl
 have m0 : uv L df0 = k + 2 := by
  unfold df0; rw [uv_sums (V := 16) (by omega) L _ _ (by kernel_rfl)]; simp only [List.map_cons, List.map_nil, sumL, c0, n0, v14, c0]; omega
 have m1 : uv L df1 = a - (k + 2) := by
  unfold df1; rw [uv_sub (V := 16) (by omega) L (by kernel_rfl), v0, m0]
 have m2 : uv L df2 = l + 1 := by
  unfold df2; rw [uv_sums (V := 16) (by omega) L _ _ (by kernel_rfl)]; simp only [List.map_cons, List.map_nil, sumL, c0, n0, v15, c0]; omega
 have m3 : uv L df3 = b - (l + 1) := by
  unfold df3; rw [uv_sub (V := 16) (by omega) L (by kernel_rfl), v1, m2]
 have m4 : uv L df4 = a * a := by
  unfold df4; rw [uv_muls (V := 16) (by omega) L _ _ (by kernel_rfl)]; simp only [List.map_cons, List.map_nil, prodL, c0, v0]; grind
 have m5 : uv L df5 = a * a - 1 := by
  unfold df5; rw [uv_sub (V := 16) (by omega) L (by kernel_rfl), m4, c0]
 have m6 : uv L df6 = (a * a - 1) * (c * c) := by
  unfold df6; rw [uv_muls (V := 16) (by omega) L _ _ (by kernel_rfl)]; simp only [List.map_cons, List.map_nil, prodL, c0, m5, v2]; grind
 have m7 : uv L df7 = ((a * a - 1) * (c * c)) + 1 := by
  unfold df7; rw [uv_sums (V := 16) (by omega) L _ _ (by kernel_rfl)]; simp only [List.map_cons, List.map_nil, sumL, c0, n0, m6, c0]; omega
 have m8 : uv L df8 = d - (((a * a - 1) * (c * c)) + 1) := by
  unfold df8; rw [uv_sub (V := 16) (by omega) L (by kernel_rfl), v3, m7]
 have m9 : uv L df9 = i + 1 := by
  unfold df9; rw [uv_sums (V := 16) (by omega) L _ _ (by kernel_rfl)]; simp only [List.map_cons, List.map_nil, sumL, c0, n0, v9, c0]; omega
 have m10 : uv L df10 = 2 * (i + 1) * (c * c) * d := by
  unfold df10; rw [uv_muls (V := 16) (by omega) L _ _ (by kernel_rfl)]; simp only [List.map_cons, List.map_nil, prodL, c0, c0, m9, v2, v3]; grind
 have m11 : uv L df11 = e - (2 * (i + 1) * (c * c) * d) := by
  unfold df11; rw [uv_sub (V := 16) (by omega) L (by kernel_rfl), v4, m10]
 have m12 : uv L df12 = a * a := by
  unfold df12; rw [uv_muls (V := 16) (by omega) L _ _ (by kernel_rfl)]; simp only [List.map_cons, List.map_nil, prodL, c0, v0]; grind
 have m13 : uv L df13 = a * a - 1 := by
  unfold df13; rw [uv_sub (V := 16) (by omega) L (by kernel_rfl), m12, c0]
 have m14 : uv L df14 = (a * a - 1) * (e * e) := by
  unfold df14; rw [uv_muls (V := 16) (by omega) L _ _ (by kernel_rfl)]; simp only [List.map_cons, List.map_nil, prodL, c0, m13, v4]; grind
 have m15 : uv L df15 = ((a * a - 1) * (e * e)) + 1 := by
  unfold df15; rw [uv_sums (V := 16) (by omega) L _ _ (by kernel_rfl)]; simp only [List.map_cons, List.map_nil, sumL, c0, n0, m14, c0]; omega
 have m16 : uv L df16 = f - (((a * a - 1) * (e * e)) + 1) := by
  unfold df16; rw [uv_sub (V := 16) (by omega) L (by kernel_rfl), v5, m15]
 have m17 : uv L df17 = f - a := by
  unfold df17; rw [uv_sub (V := 16) (by omega) L (by kernel_rfl), v5, v0]
 have m18 : uv L df18 = f * (f - a) := by
  unfold df18; rw [uv_muls (V := 16) (by omega) L _ _ (by kernel_rfl)]; simp only [List.map_cons, List.map_nil, prodL, c0, v5, m17]; grind
 have m19 : uv L df19 = a + (f * (f - a)) := by
  unfold df19; rw [uv_sums (V := 16) (by omega) L _ _ (by kernel_rfl)]; simp only [List.map_cons, List.map_nil, sumL, c0, n0, v0, m18]; omega
 have m20 : uv L df20 = g - (a + (f * (f - a))) := by
  unfold df20; rw [uv_sub (V := 16) (by omega) L (by kernel_rfl), v6, m19]
 have m21 : uv L df21 = 2 * j * c := by
  unfold df21; rw [uv_muls (V := 16) (by omega) L _ _ (by kernel_rfl)]; simp only [List.map_cons, List.map_nil, prodL, c0, c0, v10, v2]; grind
 have m22 : uv L df22 = b + 2 * j * c := by
  unfold df22; rw [uv_sums (V := 16) (by omega) L _ _ (by kernel_rfl)]; simp only [List.map_cons, List.map_nil, sumL, c0, n0, v1, m21]; omega
 have m23 : uv L df23 = h - (b + 2 * j * c) := by
  unfold df23; rw [uv_sub (V := 16) (by omega) L (by kernel_rfl), v7, m22]
 have m24 : uv L df24 = g * g := by
  unfold df24; rw [uv_muls (V := 16) (by omega) L _ _ (by kernel_rfl)]; simp only [List.map_cons, List.map_nil, prodL, c0, v6]; grind
 have m25 : uv L df25 = g * g - 1 := by
  unfold df25; rw [uv_sub (V := 16) (by omega) L (by kernel_rfl), m24, c0]
 have m26 : uv L df26 = (g * g - 1) * (h * h) := by
  unfold df26; rw [uv_muls (V := 16) (by omega) L _ _ (by kernel_rfl)]; simp only [List.map_cons, List.map_nil, prodL, c0, m25, v7]; grind
 have m27 : uv L df27 = ((g * g - 1) * (h * h)) + 1 := by
  unfold df27; rw [uv_sums (V := 16) (by omega) L _ _ (by kernel_rfl)]; simp only [List.map_cons, List.map_nil, sumL, c0, n0, m26, c0]; omega
 have m28 : uv L df28 = I - (((g * g - 1) * (h * h)) + 1) := by
  unfold df28; rw [uv_sub (V := 16) (by omega) L (by kernel_rfl), v8, m27]
 have m29 : uv L df29 = d * f * I := by
  unfold df29; rw [uv_muls (V := 16) (by omega) L _ _ (by kernel_rfl)]; simp only [List.map_cons, List.map_nil, prodL, c0, v3, v5, v8]; grind
 have m30 : uv L df30 = w * w := by
  unfold df30; rw [uv_muls (V := 16) (by omega) L _ _ (by kernel_rfl)]; simp only [List.map_cons, List.map_nil, prodL, c0, v13]; grind
 have m31 : uv L df31 = d * f * I - (w * w) := by
  unfold df31; rw [uv_sub (V := 16) (by omega) L (by kernel_rfl), m29, m30]
 have m32 : uv L df32 = f * t := by
  unfold df32; rw [uv_muls (V := 16) (by omega) L _ _ (by kernel_rfl)]; simp only [List.map_cons, List.map_nil, prodL, c0, v5, v11]; grind
 have m33 : uv L df33 = c + f * t := by
  unfold df33; rw [uv_sums (V := 16) (by omega) L _ _ (by kernel_rfl)]; simp only [List.map_cons, List.map_nil, sumL, c0, n0, v2, m32]; omega
 have m34 : uv L df34 = h - (c + f * t) := by
  unfold df34; rw [uv_sub (V := 16) (by omega) L (by kernel_rfl), v7, m33]
 have m35 : uv L df35 = b + v := by
  unfold df35; rw [uv_sums (V := 16) (by omega) L _ _ (by kernel_rfl)]; simp only [List.map_cons, List.map_nil, sumL, c0, n0, v1, v12]; omega
 have m36 : uv L df36 = c - (b + v) := by
  unfold df36; rw [uv_sub (V := 16) (by omega) L (by kernel_rfl), v2, m35]
 exact ⟨m1, m3, m8, m11, m16, m20, m23, m28, m31, m34, m36⟩
theorem sub_z_iff {x y : Int} : x - y = 0 ↔ x = y := by omega
theorem df_hol (a b c d e f g h I i j t v w k l : Int) : (∀ y ∈ dfS.links, HoL [a, b, c, d, e, f, g, h, I, i, j, t, v, w, k, l] y) ↔ DfEq a b c d e f g h I i j t v w k l := by
 obtain ⟨e0, e1, e2, e3, e4, e5, e6, e7, e8, e9, e10⟩ := df_vals a b c d e f g h I i j t v w k l
 have L : ∀ (kind : Int) (ls : List (List UT)), (∀ p ∈ ls, p ∈ [df1, df3, df8, df11, df16, df20, df23, df28, df31, df34, df36]) → HoL [a, b, c, d, e, f, g, h, I, i, j, t, v, w, k, l] (linkU 16 kind ls) = holdP kind (ls.map (uv [a, b, c, d, e, f, g, h, I, i, j, t, v, w, k, l])) := fun kind ls h => by
  unfold HoL;rw [lvals_linkU (V := 16) rfl fun p hp => dfS_nn p (h p hp)];rfl
 simp only [dfS, List.forall_mem_cons];rw [L 0 _ (by simp), L 0 _ (by simp), L 0 _ (by simp), L 0 _ (by simp), L 0 _ (by simp), L 0 _ (by simp), L 0 _ (by simp), L 0 _ (by simp), L 0 _ (by simp), L 0 _ (by simp), L 0 _ (by simp)];simp only [List.map_cons, List.map_nil, e0, e1, e2, e3, e4, e5, e6, e7, e8, e9, e10];unfold holdP DfEq;simp only [List.getD_cons_zero, List.getD_cons_succ, sub_z_iff];simp
theorem df_ev {X : List Int} {M : List Nat} (hl : X.length = 16) (hB : BW X M) (h : ([df1, df3, df8, df11, df16, df20, df23, df28, df31, df34, df36].all (okW 131000 5 M)) = true) : ∀ l ∈ dfS.links, EvL X l := by
 have A : ∀ p, p ∈ [df1, df3, df8, df11, df16, df20, df23, df28, df31, df34, df36] → Fit (auv X p) := fun p hp => auv_fitW hB (List.all_eq_true.1 h p hp) (by omega)
 have L : ∀ (kind : Int) (ls : List (List UT)), (∀ p ∈ ls, p ∈ [df1, df3, df8, df11, df16, df20, df23, df28, df31, df34, df36]) → EvL X (linkU 16 kind ls) := fun kind ls h =>
  evL_linkU hl (fun p hp => dfS_nn p (h p hp)) fun p hp => A p (h p hp)
 simp only [dfS, List.forall_mem_cons];exact ⟨L 0 _ (by simp), L 0 _ (by simp), L 0 _ (by simp), L 0 _ (by simp), L 0 _ (by simp), L 0 _ (by simp), L 0 _ (by simp), L 0 _ (by simp), L 0 _ (by simp), L 0 _ (by simp), L 0 _ (by simp), by simp⟩
theorem df_ev1 {X : List Int} (hl : X.length = 16) (hB : BW X (dM 9 10020 1)) : ∀ l ∈ dfS.links, EvL X l := df_ev hl hB (by kernel_rfl)
theorem df_ev2 {X : List Int} (hl : X.length = 16) (hB : BW X (dM 6 4680 2)) : ∀ l ∈ dfS.links, EvL X l := df_ev hl hB (by kernel_rfl)
theorem df_ev3 {X : List Int} (hl : X.length = 16) (hB : BW X (dM 6 4680 3)) : ∀ l ∈ dfS.links, EvL X l := df_ev hl hB (by kernel_rfl)
end Go.AL
namespace Go.Proofs.YtcaecieigoplbaaGreat
open Go.AL
theorem holdsR_sz {f g : LZ → Bool} : ∀ {ls : List LZ}, (∀ l ∈ ls, g l = true) → holdsR f g ls = (true, 0) ∨ holdsR f g ls = (false, 4)
 | [], _ => .inl rfl
 | l :: ls, h => by
  rw [holdsR];split
  ·rw [if_pos (h l (by simp))];exact holdsR_sz fun x hx => h x (by simp [hx])
  ·exact .inr rfl
theorem dfHolds_ok (a b : Int) (n : Nat) (h2 : 2 ≤ a) (hb : 1 ≤ b) (hk : DOK a b n) : ∃ (ok : Bool) (e : Int), PureFn Tryz.prog 25 [aS dfS, .sl 2 eX ((dn a b n).L a b)] (.tup [aB ok, aN e]) ∧ ((ok = true ∧ e = 0) ∨ (ok = false ∧ e = 4)) := by
 obtain ⟨h1, h0⟩ := dn_found h2 hb hk.2.1.1 hk.2.1.2.2.1;obtain ⟨f, hf⟩ := boolOf (EvL ((dn a b n).L a b));obtain ⟨g, hg⟩ := boolOf (HoL ((dn a b n).L a b));have h := Holds_ok dfS _ dfS_w dfS_ok hk.2.2 rfl h0 f g hf hg;have hh : ∀ l ∈ dfS.links, g l = true := fun l hl => (hg l).2 ((df_hol _ _ _ _ _ _ _ _ _ _ _ _ _ _ _ _).2 h1 l hl);rcases holdsR_sz (f := f) hh with k | k
 ·rw [k] at h; exact ⟨true, 0, h, .inl ⟨rfl, rfl⟩⟩
 ·rw [k] at h; exact ⟨false, 4, h, .inr ⟨rfl, rfl⟩⟩
theorem dfHolds_yes (a b : Int) (n : Nat) (h2 : 2 ≤ a) (hb : 1 ≤ b) (hk : DOK a b n) (he : ∀ l ∈ dfS.links, EvL ((dn a b n).L a b) l) : PureFn Tryz.prog 25 [aS dfS, .sl 2 eX ((dn a b n).L a b)] (.tup [aB true, aN 0]) := by
 obtain ⟨h1, h0⟩ := dn_found h2 hb hk.2.1.1 hk.2.1.2.2.1;exact Holds_yes dfS _ dfS_w dfS_ok hk.2.2 rfl h0 he ((df_hol _ _ _ _ _ _ _ _ _ _ _ _ _ _ _ _).2 h1)
end Go.Proofs.YtcaecieigoplbaaGreat
/- ref01: SameAll. -/
namespace Go.AL
end Go.AL
namespace Go.Proofs.YtcaecieigoplbaaGreat
open Go.AL
end Go.Proofs.YtcaecieigoplbaaGreat
/- DefineWitness; awake. -/
namespace Go.AL
theorem aw10 : RankIs 2 (dU 2 1) 20000 4 ∧ DOK 2 1 4 ∧ BW ((dn 2 1 4).L 2 1) (dM 9 10020 1) := by
 obtain ⟨n, hr, hn, hk, hB, hd⟩ := dsm_one (a := 2) (by omega) (by omega)
 have hn4 : n = 4 := by
  have h4 : n ≤ 4 := hn;have h1 := hr.1;have h3 := hr.2.2.1;rw [show dU 2 1 = 8 by decide +kernel] at h3;rcases (show n = 1 ∨ n = 2 ∨ n = 3 ∨ n = 4 by omega) with h | h | h | h
  ·subst h; exact absurd h3 (by decide +kernel)
  ·subst h; exact absurd h3 (by decide +kernel)
  ·subst h; exact absurd h3 (by decide +kernel)
  ·exact h
 subst hn4;exact ⟨hr, hk, hB⟩
end Go.AL
namespace Go.Proofs.YtcaecieigoplbaaGreat
open Go.AL
theorem awake10_ok : PureFn Tryz.prog 45 [] (aB true) := by
 refine PureFn.of_body Tryz.func45 rfl Tryz.ntmps45 rfl rfl ?_;obtain ⟨hr, hk, hB⟩ := aw10;have c1 := dWit_ok 2 1 fit_two (by omega) (by omega) (by omega) (.tup [.sl 2 eX ((dn 2 1 4).L 2 1), aN 0]) (fun n h => by rw [h.2.1.fun hr]) (fun h => absurd hk (h 4));have c2 := dfHolds_yes 2 1 4 (by omega) (by omega) hk (df_ev1 rfl hB);obtain ⟨L, hL⟩ : ∃ L, L = (dn 2 1 4).L 2 1 := ⟨_, rfl⟩
 have hLl : L.length = 16 := by rw [hL]; rfl
 have g4 : L[(4 : Int).toNat]? = some 56 := by rw [hL]; decide +kernel
 have g5 : L[(5 : Int).toNat]? = some 9409 := by rw [hL]; decide +kernel
 have g9 : L[(9 : Int).toNat]? = some 6 := by rw [hL]; decide +kernel
 rw [← hL] at c1 c2;have len1 : ∀ x : Int, 0 ≤ x → x < 4294967296 → (toW x.natAbs).length ≤ 1000000 := fun x h0 h1 => Nat.le_trans ((toW_len_le (by omega) 1).2 (by rw [BB_succ, BB_zero]; omega)) (by omega);refine AWP.seqS ?_;(repeat' (first |refine qv ?_ |apply qn |apply qr));refine ⟨AWP.seqS ?_⟩;(repeat' (first |apply qr));refine qc (rOf_ok 2 (by omega) (by omega)) ?_;skip;refine qc (c1) ?_;(repeat' (first |refine qv ?_ |apply qn));refine ⟨AWP.seqS ?_⟩;(repeat' (first |apply qr));refine qc (dfEq_ok) ?_;(repeat' (first |refine qv ?_|fail));refine qc (c2) ?_;(repeat' (first |refine qv ?_ |apply qn));refine ⟨?_⟩;(repeat' (first |refine qv ?_ |apply qs |apply qr |refine qK ?_ |(refine Fl.splitD rfl rfl ?_ ?_ <;> intro _ <;> try (exfalso; omega))));refine qc (rOf_ok 56 (by omega) (by omega)) ?_;skip;refine qc (rSame_ok 56 56 (len1 56 (by omega) (by omega))) ?_;(repeat' (first |refine qv ?_ |refine qK ?_ |(refine Fl.splitD rfl rfl ?_ ?_ <;> intro _ <;> try (exfalso; omega))));refine qc (rOf_ok 9409 (by omega) (by omega)) ?_;skip;refine qc (rSame_ok 9409 9409 (len1 9409 (by omega) (by omega))) ?_;(repeat' (first |refine qv ?_ |refine qK ?_ |(refine Fl.splitD rfl rfl ?_ ?_ <;> intro _ <;> try (exfalso; omega))));refine qc (rOf_ok 6 (by omega) (by omega)) ?_;skip;refine qc (rSame_ok 6 6 (len1 6 (by omega) (by omega))) ?_;(repeat' (first |refine qv ?_ |refine Fl.nil (fun _ => by kernel_rfl) ?_ |apply qt));exact RetOk.of rfl (AV.Le.refl _)
end Go.Proofs.YtcaecieigoplbaaGreat
/- DefineFound. -/
namespace Go.AL
theorem df_small {n k : Int} (h : (k = 1 ∧ 2 ≤ n ∧ n ≤ 500) ∨ (n = 2 ∧ 1 ≤ k ∧ k ≤ 3)) : ∃ m, DOK n k m ∧ ∀ l ∈ dfS.links, EvL ((dn n k m).L n k) l := by
 rcases h with ⟨rfl, h1, h2⟩ | ⟨rfl, h1, h2⟩
 ·obtain ⟨m, _, _, hk, hB, _⟩ := dsm_one h1 (by omega);exact ⟨m, hk, df_ev1 rfl hB⟩
 ·rcases (show k = 1 ∨ k = 2 ∨ k = 3 by omega) with rfl | rfl | rfl
  ·obtain ⟨m, _, _, hk, hB, _⟩ := dsm_one (a := 2) (by omega) (by omega);exact ⟨m, hk, df_ev1 rfl hB⟩
  ·obtain ⟨m, _, _, hk, hB, _⟩ := dsm_two;exact ⟨m, hk, df_ev2 rfl hB⟩
  ·obtain ⟨m, _, _, hk, hB, _⟩ := dsm_three;exact ⟨m, hk, df_ev3 rfl hB⟩
end Go.AL
namespace Go.Proofs.YtcaecieigoplbaaGreat
open Go.AL
theorem df_holds (n k : Int) (h2 : 2 ≤ n) (h0 : 1 ≤ k) (m : Nat) (hk : DOK n k m) (hi : (k = 1 ∧ n ≤ 500) ∨ (n = 2 ∧ k ≤ 3) ∨ (1 < k ∧ (2 < n ∨ 3 < k))) : PureFn Tryz.prog 25 [aS dfS, .sl 2 eX ((dn n k m).L n k)] (.tup [aB true, aN 0]) ∨ ((1 < k ∧ (2 < n ∨ 3 < k)) ∧ PureFn Tryz.prog 25 [aS dfS, .sl 2 eX ((dn n k m).L n k)] (.tup [aB false, aN 4])) := by
 have hs : ((k = 1 ∧ 2 ≤ n ∧ n ≤ 500) ∨ (n = 2 ∧ 1 ≤ k ∧ k ≤ 3)) ∨ (1 < k ∧ (2 < n ∨ 3 < k)) := by omega
 rcases hs with hs | hs
 ·obtain ⟨m', hk', hE⟩ := df_small hs;have := hk'.2.1.fun hk.2.1;subst this;exact .inl (dfHolds_yes n k m' h2 h0 hk hE)
 ·obtain ⟨ok, e, hH, h⟩ := dfHolds_ok n k m h2 h0 hk;rcases h with ⟨rfl, rfl⟩ | ⟨rfl, rfl⟩
  ·exact .inl hH
  ·exact .inr ⟨hs, hH⟩
set_option maxHeartbeats 2000000 in
theorem DefineFound_ok (u v : Int) (hu0 : 0 ≤ u) (hu1 : u ≤ 65535) (hv0 : 0 ≤ v) (hv1 : v ≤ 255) : PureFn Tryz.prog 12 [.v (.int .u16 u), .v (.int .u8 v)] (aB true) := by
 refine PureFn.of_body Tryz.func12 rfl Tryz.ntmps12 rfl rfl ?_;refine AWP.seqS ?_;(repeat' (first |refine qv ?_ |apply qn |apply qr));refine ⟨AWP.seqS ?_⟩;(repeat' (first |refine qv ?_ |apply qn |apply qr |refine qw ?_ |refine Fl.cvS rfl rfl rfl rfl rfl rfl ?_));refine ⟨AWP.seqJ (G := Int × Int) (fun (n, k) => (k = 1 ∧ 2 ≤ n ∧ n ≤ 500) ∨ (n = 2 ∧ 1 ≤ k ∧ k ≤ 3)) (fun (n, k) => St.of [] [(0, .v (.int .u16 u)), (1, .v (.int .u8 v)), (5, aN n), (6, aN k)] []) ?_ ?_⟩
 ·(repeat' (first |refine qv ?_ |apply qn |apply qs |apply qr |refine qw ?_ |(refine AWP.condD rfl ?_ ?_ <;> intro _ <;> try (exfalso; omega)) |apply qk |refine Fl.cvS rfl rfl rfl rfl rfl rfl ?_))
  ·refine JoinOk.of (2, 1 + v % 3) (.inr ⟨rfl, by omega, by omega⟩) ?_;refine Ent.of [] ?_ ?_ rfl rfl;(repeat' (first |exact True.intro |refine ⟨⟨AV.Le.refl _, rfl⟩, ?_⟩ |refine ⟨⟨AV.Le.int ?_, rfl⟩, ?_⟩|fail));omega
  ·refine JoinOk.of (2 + u % 499, 1) (.inl ⟨rfl, by omega, by omega⟩) ?_;refine Ent.of [] ?_ ?_ rfl rfl;(repeat' (first |exact True.intro |refine ⟨⟨AV.Le.refl _, rfl⟩, ?_⟩ |refine ⟨⟨AV.Le.int ?_, rfl⟩, ?_⟩|fail));omega
 intro ⟨n, k⟩ hi;refine AWP.seqJ (G := Int × Int) (fun (n, k) => 2 ≤ n ∧ n ≤ 500 ∧ 1 ≤ k ∧ k ≤ 4 ∧ ((k = 1 ∧ n ≤ 500) ∨ (n = 2 ∧ k ≤ 3) ∨ (1 < k ∧ (2 < n ∨ 3 < k)))) (fun (n, k) => St.of [] [(5, aN n), (6, aN k)] []) ?_ ?_
 ·(repeat' (first |refine qv ?_ |apply qn |apply qs |apply qr |refine qw ?_ |(refine AWP.condD rfl ?_ ?_ <;> intro _ <;> try (exfalso; omega)) |apply qk |refine Fl.cvS rfl rfl rfl rfl rfl rfl ?_))
  ·refine JoinOk.of (2 + u % 20, 1 + v % 4) ⟨by omega, by omega, by omega, by omega, by omega⟩ ?_;refine Ent.of [] ?_ ?_ rfl rfl;(repeat' (first |exact True.intro |refine ⟨⟨AV.Le.int ?_, rfl⟩, ?_⟩|fail))
   ·omega
   ·omega
  ·refine JoinOk.of (n, k) ⟨by omega, by omega, by omega, by omega, by omega⟩ ?_;refine Ent.of [] ?_ ?_ rfl rfl;(repeat' (first |exact True.intro |refine ⟨⟨AV.Le.refl _, rfl⟩, ?_⟩|fail))
 intro ⟨n, k⟩ ⟨h2, n5, h0, k4, hi⟩;have fn : Fit n := fit_small (by omega) (by omega);have ln : lenI n ≤ 1 := lenI_small (by omega);have lnk : lenI (psiN n k.toNat) ≤ 8192 := rw_len (a := n) (by omega) h2 h0 (by omega)
 have hen : ((k.toNat : Nat) : Int) = k := by omega
 have c3 := rPair_ok n k.toNat fn h2 (by omega) _ (fun _ => rfl) (fun h => absurd lnk h);rw [hen] at c3;refine AWP.seqS ?_;rcases Classical.em (∃ m, DOK n k m) with ⟨m, hk⟩ | hk
 ·have c1 := dWit_ok n k fn h2 h0 (by omega) (.tup [.sl 2 eX ((dn n k m).L n k), aN 0]) (fun m' h => by rw [h.2.1.fun hk.2.1]) (fun h => absurd hk (h m));have c2 := df_holds n k h2 h0 m hk hi;have len1 : ∀ x : Int, 0 ≤ x → x < 4294967296 → (toW x.natAbs).length ≤ 1000000 := fun x h0 h1 => Nat.le_trans ((toW_len_le (by omega) 1).2 (by rw [BB_succ, BB_zero]; omega)) (by omega);have ly : (toW (psiN n k.toNat).natAbs).length ≤ 8192 := lnk;obtain ⟨x, hx⟩ : ∃ x, x = chiN n k.toNat := ⟨_, rfl⟩;obtain ⟨y, hy⟩ : ∃ y, y = psiN n k.toNat := ⟨_, rfl⟩;obtain ⟨L, hL⟩ : ∃ L, L = (dn n k m).L n k := ⟨_, rfl⟩
  have hLl : L.length = 16 := by rw [hL]; rfl
  have g0 : L[(0 : Int).toNat]? = some n := by rw [hL]; rfl
  have g1 : L[(1 : Int).toNat]? = some k := by rw [hL]; rfl
  have g2 : L[(2 : Int).toNat]? = some y := by rw [hL, hy]; rfl
  rw [← hL] at c1 c2;rw [← hx, ← hy] at c3;rw [← hy] at ly;clear hL hx hy hk lnk;(repeat' (first |refine qv ?_ |apply qr));refine qc (rOf_ok n (by omega) (by omega)) ?_;(repeat' (first |refine qv ?_|fail));refine qc (c1) ?_;(repeat' (first |refine qv ?_ |apply qn));refine ⟨AWP.seqS ?_⟩;(repeat' (first |refine qv ?_ |apply qn |apply qs |apply qr |refine AWP.condF rfl ?_ |apply qk));refine ⟨AWP.seqS ?_⟩;rcases c2 with c2 | ⟨hbig, c2⟩
  ·(repeat' (first |apply qr));refine qc (dfEq_ok) ?_;(repeat' (first |refine qv ?_|fail));refine qc (c2) ?_;(repeat' (first |refine qv ?_ |apply qn));refine ⟨AWP.seqS ?_⟩;(repeat' (first |refine qv ?_ |apply qr));refine qc (rOf_ok n (by omega) (by omega)) ?_;(repeat' (first |refine qv ?_|fail));refine qc (c3) ?_;(repeat' (first |refine qv ?_ |apply qn |refine qe ?_|fail));refine ⟨AWP.seqS ?_⟩;(repeat' (first |refine qv ?_ |apply qs |apply qr |refine qK ?_ |(refine Fl.splitN rfl rfl ?_ ?_ <;> intro _ <;> try (exfalso; omega))));refine qc (rOf_ok n (by omega) (by omega)) ?_;skip;refine qc (rSame_ok n n (len1 n (by omega) (by omega))) ?_;(repeat' (first |refine qv ?_ |refine qK ?_ |(refine Fl.splitN rfl rfl ?_ ?_ <;> intro _ <;> try (exfalso; omega))));refine qc (rOf_ok k (by omega) (by omega)) ?_;skip;refine qc (rSame_ok k k (len1 k (by omega) (by omega))) ?_;(repeat' (first |refine qv ?_ |refine qK ?_ |(refine Fl.splitN rfl rfl ?_ ?_ <;> intro _ <;> try (exfalso; omega))));refine qc (rSame_ok y y (by omega)) ?_;(repeat' (first |refine qv ?_ |refine Fl.nil (fun _ => by kernel_rfl) ?_ |(refine AWP.condN rfl ?_ ?_ <;> intro _ <;> try (exfalso; omega)) |apply qk));refine ⟨?_⟩;(repeat' (first |refine qv ?_ |apply qs |apply qr |refine Fl.skip rfl rfl ?_));refine qc (awake10_ok) ?_;(repeat' (first |refine qv ?_ |apply qn |apply qt));exact RetOk.of rfl (AV.Le.refl _)
  ·(repeat' (first |apply qr));refine qc (dfEq_ok) ?_;(repeat' (first |refine qv ?_|fail));refine qc (c2) ?_;(repeat' (first |refine qv ?_ |apply qn));refine ⟨AWP.seqS ?_⟩;(repeat' (first |refine qv ?_ |apply qr));refine qc (rOf_ok n (by omega) (by omega)) ?_;(repeat' (first |refine qv ?_|fail));refine qc (c3) ?_;(repeat' (first |refine qv ?_ |apply qn |refine qe ?_|fail));refine ⟨AWP.seqS ?_⟩;(repeat' (first |refine qv ?_ |apply qs |apply qr |refine qK ?_ |(refine Fl.splitN rfl rfl ?_ ?_ <;> intro _ <;> try (exfalso; omega))));refine qc (rOf_ok n (by omega) (by omega)) ?_;skip;refine qc (rSame_ok n n (len1 n (by omega) (by omega))) ?_;(repeat' (first |refine qv ?_ |refine qK ?_ |(refine Fl.splitN rfl rfl ?_ ?_ <;> intro _ <;> try (exfalso; omega))));refine qc (rOf_ok k (by omega) (by omega)) ?_;skip;refine qc (rSame_ok k k (len1 k (by omega) (by omega))) ?_;(repeat' (first |refine qv ?_ |refine qK ?_ |(refine Fl.splitN rfl rfl ?_ ?_ <;> intro _ <;> try (exfalso; omega))));refine qc (rSame_ok y y (by omega)) ?_;(repeat' (first |refine qv ?_ |refine Fl.nil (fun _ => by kernel_rfl) ?_ |(refine AWP.condN rfl ?_ ?_ <;> intro _ <;> try (exfalso; omega)) |apply qk));refine ⟨?_⟩;(repeat' (first |refine qv ?_ |apply qs |apply qr |refine Fl.skip rfl rfl ?_ |(refine Fl.splitD rfl rfl ?_ ?_ <;> intro _ <;> try (exfalso; omega))))
   all_goals
    refine qc (awake10_ok) ?_;(repeat' (first |refine qv ?_ |apply qn |apply qt));exact RetOk.of rfl (AV.Le.refl _)
 ·have hbig : 1 < k ∧ (2 < n ∨ 3 < k) := by
   rcases hi with h | h | h
   ·obtain ⟨m, hm, _⟩ := df_small (n := n) (k := k) (.inl ⟨h.1, h2, h.2⟩);exact absurd ⟨m, hm⟩ hk
   ·obtain ⟨m, hm, _⟩ := df_small (n := n) (k := k) (.inr ⟨h.1, h0, h.2⟩);exact absurd ⟨m, hm⟩ hk
   ·exact h
  have c1 := dWit_ok n k fn h2 h0 (by omega) (.tup [.v (.slice none 0 0), aN 4]) (fun m h => absurd ⟨m, h⟩ hk) (fun _ => rfl);(repeat' (first |refine qv ?_ |apply qr));refine qc (rOf_ok n (by omega) (by omega)) ?_;(repeat' (first |refine qv ?_|fail));refine qc (c1) ?_;(repeat' (first |refine qv ?_ |apply qn));refine ⟨AWP.seqS ?_⟩;(repeat' (first |refine qv ?_ |apply qn |apply qs |apply qr |refine Fl.skip rfl rfl ?_ |refine AWP.condT rfl ?_ |(refine Fl.splitD rfl rfl ?_ ?_ <;> intro _ <;> try (exfalso; omega))))
  all_goals
   refine qc (awake10_ok) ?_;(repeat' (first |refine qv ?_ |apply qn |apply qt));exact RetOk.of rfl (AV.Le.refl _)
end Go.Proofs.YtcaecieigoplbaaGreat

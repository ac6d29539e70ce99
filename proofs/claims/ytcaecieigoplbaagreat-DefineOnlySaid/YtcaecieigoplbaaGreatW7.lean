/- Part 7 of a proof layer and of the contracts of the functions (XU7 XTC XTD XRV XRP XTG XRU XTH XTL XTM XTN). -/
import Derived.Test.YtcaecieigoplbaaGreatW6
set_option linter.unusedVariables false
set_option linter.unusedSimpArgs false
/- The eleven equations: plain. -/
namespace Go.AL
theorem cop_of {x y : Nat} {u v : Int} (h : u * x + v * y = 1) : Nat.Coprime x y := by
 have h1 : ((Nat.gcd x y : Nat) : Int) ∣ x := Int.natCast_dvd_natCast.2 (Nat.gcd_dvd_left x y);have h2 : ((Nat.gcd x y : Nat) : Int) ∣ y := Int.natCast_dvd_natCast.2 (Nat.gcd_dvd_right x y)
 have h3 : ((Nat.gcd x y : Nat) : Int) ∣ 1 := by rw [← h]; exact Int.dvd_add (Int.dvd_mul_of_dvd_right h1) (Int.dvd_mul_of_dvd_right h2)
 have h4 : Nat.gcd x y ∣ 1 := Int.natCast_dvd_natCast.1 (by simpa using h3);exact Nat.dvd_one.1 h4
theorem sq_of_cop {x y w : Nat} (hx : 0 < x) (hc : Nat.Coprime x y) (h : x * y = w * w) : ∃ s, x = s * s := by
 have hs : 0 < Nat.gcd x w := Nat.gcd_pos_of_pos_left _ hx;have hcop := Nat.coprime_div_gcd_div_gcd (m := x) (n := w) hs;have e1 := Nat.mul_div_cancel' (Nat.gcd_dvd_left x w);have e2 := Nat.mul_div_cancel' (Nat.gcd_dvd_right x w)
 generalize Nat.gcd x w = s at *
 generalize x / s = x' at *
 generalize w / s = w' at *
 subst e1 e2
 have h1 : x' * y = s * (w' * w') := by
  have : s * (x' * y) = s * (s * (w' * w')) := by grind
  exact Nat.eq_of_mul_eq_mul_left hs this
 have h2 : x' ∣ s := by
  have h3 : x' ∣ s * (w' * w') := ⟨y, h1.symm⟩;have h4 : Nat.Coprime x' (w' * w') := (Nat.Coprime.mul_left hcop.symm hcop.symm).symm;exact h4.dvd_of_dvd_mul_right h3
 obtain ⟨t, rfl⟩ := h2
 have hx0 : 0 < x' := by
  rcases Nat.eq_zero_or_pos x' with h0 | h0
  ·subst h0; simp at hs
  ·exact h0
 have h5 : y = t * (w' * w') := by
  have : x' * y = x' * (t * (w' * w')) := by rw [h1]; grind
  exact Nat.eq_of_mul_eq_mul_left hx0 this
 have ht : t = 1 := by
  have d1 : t ∣ x' * t * x' := ⟨x' * x', by grind⟩;have d2 : t ∣ y := ⟨w' * w', h5⟩;have := Nat.dvd_gcd d1 d2;rw [hc] at this;exact Nat.dvd_one.1 this
 exact ⟨x', by rw [ht]; grind⟩
theorem sq_int {x y w u v : Int} (hx : 0 < x) (hy : 0 ≤ y) (hw : 0 ≤ w) (hc : u * x + v * y = 1) (h : x * y = w * w) : ∃ s, 0 ≤ s ∧ x = s * s := by
 obtain ⟨X, rfl⟩ := Int.eq_ofNat_of_zero_le (Int.le_of_lt hx);obtain ⟨Y, rfl⟩ := Int.eq_ofNat_of_zero_le hy;obtain ⟨W, rfl⟩ := Int.eq_ofNat_of_zero_le hw
 have hn : X * Y = W * W := by
  have : ((X * Y : Nat) : Int) = ((W * W : Nat) : Int) := by rw [Int.natCast_mul, Int.natCast_mul]; exact h
  omega
 obtain ⟨s, hs⟩ := sq_of_cop (by omega) (cop_of hc) hn;exact ⟨s, by omega, by rw [hs, Int.natCast_mul]⟩
theorem psi_ge_idx {a : Int} (ha : 2 ≤ a) : ∀ n : Nat, (n : Int) ≤ psiN a n
 | 0 => by simp [psi_zero]
 | n + 1 => by have := psi_lt ha (show n < n + 1 by omega); have := psi_ge_idx ha n; omega
theorem mod_fin {b p c z : Int} (hb : 1 ≤ b) (hbc : b ≤ c) (hp : 1 ≤ p) (hpc : p ≤ c) (h : b = p + 2 * c * z ∨ b = - p + 2 * c * z) : b = p := by
 have up : 1 ≤ z → 2 * c ≤ 2 * c * z := fun h => by have := Int.mul_le_mul_of_nonneg_left h (show 0 ≤ 2 * c by omega); omega
 have up2 : 2 ≤ z → 2 * c * 2 ≤ 2 * c * z := fun h => Int.mul_le_mul_of_nonneg_left h (by omega);have dn : z ≤ -1 → 2 * c * z ≤ 2 * c * (-1) := fun h => Int.mul_le_mul_of_nonneg_left h (by omega)
 have z0 : z = 0 → 2 * c * z = 0 := fun h => by rw [h]; simp
 have z1 : z = 1 → 2 * c * z = 2 * c := fun h => by rw [h]; simp
 rcases (show z ≤ -1 ∨ z = 0 ∨ z = 1 ∨ 2 ≤ z by omega) with k | k | k | k
 ·have := dn k; omega
 ·have := z0 k; omega
 ·have := z1 k; omega
 ·have := up2 k; omega
theorem g_mod {a c f g m2 : Int} (hg : g = a + f * (f - a)) (hf : f = 1 + 2 * c * m2) : g - 1 = 2 * c * (m2 * (2 + 2 * c * m2 - a)) := by rw [hg, hf]; grind
theorem f_mod {a c d e f i : Int} (e4 : e = 2 * (i + 1) * (c * c) * d) (e5 : f = (a * a - 1) * (e * e) + 1) : f = 1 + 2 * c * ((a * a - 1) * ((i + 1) * c * d * e)) := by
 have : e * e = 2 * c * ((i + 1) * c * d * e) := by
  have h1 : e * e = 2 * (i + 1) * (c * c) * d * e := congrArg (· * e) e4;rw [h1]; grind
 rw [e5, this]; grind
theorem psi_diff {a c f g h t v x : Int} (hg : g = a + f * (f - a)) (hh : h = c + f * t) (hx : h = x + (g - a) * v) {s : Int} (hs : f = s * s) : x - c = s * (s * (t - (f - a) * v)) := by
 have : x - c = f * (t - (f - a) * v) := by
  have h1 : g - a = f * (f - a) := by omega
  rw [h1] at hx
  have : x = c + f * t - f * (f - a) * v := by omega
  rw [this]; grind
 have e2 : ∀ y : Int, f * y = s * (s * y) := fun y => by rw [hs, Int.mul_assoc]
 rw [this];exact e2 _
theorem define_only {a b c d e f g h I i j t v w k l : Int} (hi : 0 ≤ i) (hc : 0 ≤ c) (hd : 0 ≤ d) (he : 0 ≤ e) (hf : 0 ≤ f) (hh : 0 ≤ h) (hI : 0 ≤ I) (hv : 0 ≤ v) (hw : 0 ≤ w) (hk : 0 ≤ k) (hl : 0 ≤ l)
  (e1 : a = k + 2) (e2 : b = l + 1) (e3 : d = (a * a - 1) * (c * c) + 1) (e4 : e = 2 * (i + 1) * (c * c) * d) (e5 : f = (a * a - 1) * (e * e) + 1) (e6 : g = a + f * (f - a)) (e7 : h = b + 2 * j * c) (e8 : I = (g * g - 1) * (h * h) + 1) (e9 : d * f * I = w * w) (e10 : h = c + f * t) (e11 : c = b + v) :
  c = psiN a b.toNat ∧ (∃ s, 0 ≤ s ∧ d = s * s) ∧ (∃ s, 0 ≤ s ∧ f = s * s) ∧ (∃ s, 0 ≤ s ∧ I = s * s) ∧ (∃ q : Nat, e = psiN a q ∧ c ∣ (q : Int)) ∧ a - 1 ∣ c - b := by
 have ha : 2 ≤ a := by omega
 have hc1 : 1 ≤ c := by omega
 have haa : 3 ≤ a * a - 1 := by have := Int.mul_le_mul ha ha (by omega) (by omega); omega
 have hcc : 1 ≤ c * c := by have := Int.mul_le_mul hc1 hc1 (by omega) (by omega); omega
 have hd1 : 1 ≤ d := by have := Int.mul_nonneg (show 0 ≤ a * a - 1 by omega) (show 0 ≤ c * c by omega); omega
 have hee : 0 ≤ e * e := Int.mul_nonneg he he
 have hf1 : 1 ≤ f := by have := Int.mul_nonneg (show 0 ≤ a * a - 1 by omega) hee; omega
 -- what f, g, I are modulo d and f
 obtain ⟨E, hE⟩ : ∃ E, e = d * E := ⟨2 * (i + 1) * (c * c), by rw [e4]; grind⟩
 obtain ⟨m, hm⟩ : ∃ m, f = 1 + d * m := ⟨(a * a - 1) * E * e, by
  have h1 : e * e = d * E * e := congrArg (· * e) hE
  rw [e5, h1]; grind⟩
 obtain ⟨n, hn⟩ : ∃ n, I = 1 + d * n := by
  refine ⟨m * (2 + d * m - a) * (g + 1) * (h * h), ?_⟩
  have hg : g - 1 = d * (m * (2 + d * m - a)) := by rw [e6, hm]; grind
  have : (g * g - 1) * (h * h) = (g - 1) * ((g + 1) * (h * h)) := by grind
  rw [e8, this, hg]; grind
 obtain ⟨K, hK⟩ : ∃ K, I = d + f * K := by
  refine ⟨(f - a) * (g + a) * (h * h) + (a * a - 1) * (t * (h + c)), ?_⟩
  have h1 : g * g - 1 = a * a - 1 + f * ((f - a) * (g + a)) := by
   have : g - a = f * (f - a) := by omega
   have h2 : g * g - a * a = (g - a) * (g + a) := by grind
   rw [this] at h2; grind
  have h3 : h * h = c * c + f * (t * (h + c)) := by
   have : h - c = f * t := by omega
   have h2 : h * h - c * c = (h - c) * (h + c) := by grind
   rw [this] at h2; grind
  rw [e8, h1]
  have h4 : (a * a - 1 + f * ((f - a) * (g + a))) * (h * h) = (a * a - 1) * (h * h) + f * ((f - a) * (g + a) * (h * h)) := by grind
  rw [h4]
  have h5 : (a * a - 1) * (h * h) = (a * a - 1) * (c * c) + f * ((a * a - 1) * (t * (h + c))) := by rw [h3]; grind
  rw [h5, e3]; grind
 have b1 : (-m) * d + 1 * f = 1 := by rw [hm]; grind
 have b2 : (-n) * d + 1 * I = 1 := by rw [hn]; grind
 have b3 : (1 + K * m) * f + (-m) * I = 1 := by
  have : (1 + K * m) * f + (-m) * I = f - m * (I - f * K) := by grind
  rw [this, show I - f * K = d by omega]; rw [hm]; grind
 have hI1 : 1 ≤ I := by
  rcases (show I = 0 ∨ 1 ≤ I by omega) with h0 | h0
  ·exfalso;rw [h0] at b3 b2
   have hd2 : (-n) * d = 1 := by omega
   have : d ∣ 1 := ⟨-n, hd2.symm.trans (Int.mul_comm _ _)⟩
   have hd3 : d = 1 := by have := Int.le_of_dvd (by omega) this; omega
   have h6 := Int.mul_le_mul haa hcc (by omega) (by omega);omega
  ·exact h0
 -- each of them is a square
 have B1 : -(m + n + d * m * n) * d + 1 * (f * I) = 1 := by rw [hm, hn]; grind
 have B2 : -((1 + K * m) * (f - 1) - 1) * f + (m * m) * (d * I) = 1 := by
  have g1 : m * d = f - 1 := by rw [hm]; grind
  have g2 : m * I = (1 + K * m) * f - 1 := by
   have : m * I = (1 + K * m) * f - 1 := by have := b3; grind
   exact this
  have g3 : (m * m) * (d * I) = (m * d) * (m * I) := by grind
  rw [g3, g1, g2]; grind
 have B3 : (1 + m * I - m) * I + -(n * (1 + K * m)) * (d * f) = 1 := by
  have g1 : n * d = I - 1 := by rw [hn]; grind
  have g2 : (1 + K * m) * f = 1 + m * I := by have := b3; grind
  have g3 : -(n * (1 + K * m)) * (d * f) = -((n * d) * ((1 + K * m) * f)) := by grind
  rw [g3, g1, g2]; grind
 obtain ⟨s1, p1, q1⟩ := sq_int (x := d) (y := f * I) (w := w) (by omega) (Int.mul_nonneg hf hI) hw B1 (by rw [← e9, Int.mul_assoc]);obtain ⟨s2, p2, q2⟩ := sq_int (x := f) (y := d * I) (w := w) (by omega) (Int.mul_nonneg hd hI) hw B2 (by rw [← e9, ← Int.mul_assoc, Int.mul_comm f d]);obtain ⟨s3, p3, q3⟩ := sq_int (x := I) (y := d * f) (w := w) (by omega) (Int.mul_nonneg hd hf) hw B3 (by rw [← e9, Int.mul_comm])
 have hx : s1 * s1 - (a * a - 1) * (c * c) = 1 := by omega
 obtain ⟨p, hp1, hp2⟩ := pell_sol ha p1 hc hx
 have hy : s2 * s2 - (a * a - 1) * (e * e) = 1 := by omega
 obtain ⟨q, hq1, hq2⟩ := pell_sol ha p2 he hy
 have hp0 : 1 ≤ p := by
  rcases Nat.eq_zero_or_pos p with h0 | h0
  ·rw [h0, psi_zero] at hp2; omega
  ·exact h0
 have hcce : c * c ∣ e := by rw [e4]; exact Int.dvd_mul_of_dvd_left (Int.dvd_mul_left _ _)
 have he1 : 1 ≤ e := by
  have g1 : 2 * 1 ≤ 2 * (i + 1) := by omega
  have g2 := Int.mul_le_mul g1 hcc (by omega) (by omega);have g3 := Int.mul_le_mul g2 hd1 (by omega) (by omega);rw [← e4] at g3; omega
 have hcle : c ≤ e := by
  have g1 := Int.le_of_dvd (by omega) hcce;have g2 : 1 * c ≤ c * c := Int.mul_le_mul_of_nonneg_right hc1 hc;omega
 have hee1 : 1 ≤ e * e := by have := Int.mul_le_mul he1 he1 (by omega) (by omega); omega
 have haf : a ≤ f := by
  have g1 : (a * a - 1) * 1 ≤ (a * a - 1) * (e * e) := Int.mul_le_mul_of_nonneg_left hee1 (by omega);have g2 : a * 1 ≤ a * a := Int.mul_le_mul_of_nonneg_left (by omega) (by omega);omega
 have hg2 : 2 ≤ g := by have := Int.mul_nonneg hf (show 0 ≤ f - a by omega); omega
 have hz : s3 * s3 - (g * g - 1) * (h * h) = 1 := by omega
 obtain ⟨r, hr1, hr2⟩ := pell_sol hg2 p3 hh hz
 have hcq : c ∣ (q : Int) := by rw [hp2]; exact psi_sq_dvd ha hp0 (by rw [← hp2, ← hq2]; exact hcce)
 have hpq : p ≤ q := by
  rcases Nat.lt_or_ge q p with h0 | h0
  ·have := psi_lt ha h0; omega
  ·exact h0
 obtain ⟨_, v1, _, hv1⟩ := psi_base g a r
 have hdv : chiN a q ∣ psiN a r - psiN a p := by
  have hd9 := psi_diff (x := psiN a r) e6 e10 (by rw [hr2]; exact hv1) q2;rw [← hp2, ← hq1];exact ⟨_, hd9⟩
 obtain ⟨t1, ht1⟩ := psi_step2 ha hp0 hpq hdv;obtain ⟨_, v2, _, hv2⟩ := psi_index g r;rw [← hr2] at hv2;have hgm := g_mod e6 (f_mod e4 e5);obtain ⟨q', hq'⟩ := hcq
 have hbp : b = p := by
  generalize (a * a - 1) * ((i + 1) * c * d * e) = m2 at hgm;generalize m2 * (2 + 2 * c * m2 - a) = m3 at hgm
  have hpc : (p : Int) ≤ c := by rw [hp2]; exact psi_ge_idx ha p
  have hb2 : b = r + 2 * c * (m3 * v2 - j) := by
   have g1 : (g - 1) * v2 = 2 * c * (m3 * v2) := by rw [hgm, Int.mul_assoc]
   have g2 : 2 * c * (m3 * v2 - j) = 2 * c * (m3 * v2) - 2 * c * j := Int.mul_sub _ _ _
   have g3 : 2 * j * c = 2 * c * j := by rw [Int.mul_assoc, Int.mul_comm j c, ← Int.mul_assoc]
   omega
  have hq2' : 2 * (q : Int) * t1 = 2 * c * (q' * t1) := by rw [hq', ← Int.mul_assoc 2 c q', Int.mul_assoc (2 * c)]
  refine mod_fin (z := q' * t1 + (m3 * v2 - j)) (by omega) (by omega) (by omega) hpc ?_;have g4 : 2 * c * (q' * t1 + (m3 * v2 - j)) = 2 * c * (q' * t1) + 2 * c * (m3 * v2 - j) := Int.mul_add _ _ _;rcases ht1 with k1 | k1
  ·left; omega
  ·right; omega
 refine ⟨by rw [hbp, Int.toNat_natCast]; exact hp2, ⟨s1, p1, q1⟩, ⟨s2, p2, q2⟩, ⟨s3, p3, q3⟩, ⟨q, hq2, ⟨q', hq'⟩⟩, ?_⟩;obtain ⟨_, v3, _, hv3⟩ := psi_index a p;exact ⟨v3, by rw [hp2, hv3, hbp]; omega⟩
end Go.AL
/- What define.Witness finds solves the equations. Plain. -/
namespace Go.AL
def DfEq (a b c d e f g h I i j t v w k l : Int) : Prop :=
  a = k + 2 ∧ b = l + 1 ∧ d = (a * a - 1) * (c * c) + 1 ∧ e = 2 * (i + 1) * (c * c) * d ∧ f = (a * a - 1) * (e * e) + 1 ∧ g = a + f * (f - a) ∧ h = b + 2 * j * c ∧ I = (g * g - 1) * (h * h) + 1 ∧ d * f * I = w * w ∧ h = c + f * t ∧ c = b + v
end Go.AL
/- The rank where b is 1; small cases; how great the numbers are. Plain. -/
namespace Go.AL
theorem RankIs.le {a m : Int} {N n k : Nat} (h : RankIs a m N n) (hk : 1 ≤ k) (hd : m ∣ psiN a k) : n ≤ k := by
 rcases Nat.lt_or_ge k n with hl | hl
 ·exact absurd hd (h.2.2.2 k hk hl)
 ·exact hl
def BW : List Int → List Nat → Prop
  | [], _ => True
  | x :: X, m :: M => (0 ≤ x ∧ x ≤ 2 ^ m) ∧ BW X M
  | _ :: _, [] => False
def dotE : List Nat → List Int → Nat
  | m :: M, e :: E => m * e.toNat + dotE M E
  | _, _ => 0
theorem prodE_boundW : ∀ {X : List Int} {M : List Nat} {E : List Int}, BW X M → (prodE X E).natAbs ≤ 2 ^ dotE M E
 | [], M, E, _ => by
  show 1 ≤ _;exact Nat.two_pow_pos _
 | _ :: _, _, [], _ => by
  show 1 ≤ _;exact Nat.two_pow_pos _
 | x :: X, [], _ :: _, h => h.elim
 | x :: X, m :: M, e :: E, h => by
  have ih := prodE_boundW (E := E) h.2;simp only [prodE, dotE];rw [Int.natAbs_mul, Nat.pow_add, Int.natAbs_pow, Nat.pow_mul];refine Nat.mul_le_mul (Nat.pow_le_pow_left ?_ _) ih
  have h1 : ((x.natAbs : Nat) : Int) ≤ ((2 ^ m : Nat) : Int) := by
   rw [Int.natCast_pow];have := h.1;show ((x.natAbs : Nat) : Int) ≤ (2 : Int) ^ m;omega
  exact Int.ofNat_le.1 h1
theorem auv_boundW {K : Nat} {X : List Int} {M : List Nat} (hX : BW X M) : ∀ {p : List UT}, (∀ u ∈ p, dotE M u.2 ≤ K) → 0 ≤ auv X p ∧ auv X p ≤ ((absU p * 2 ^ K : Nat) : Int)
 | [], _ => by
  refine ⟨by simp [auv, sumL], ?_⟩;show (0 : Int) ≤ _;omega
 | u :: p, h => by
  have ih := auv_boundW (p := p) hX fun v hv => h v (by simp [hv]);have hb := prodE_boundW (E := u.2) hX;have hle : 2 ^ dotE M u.2 ≤ 2 ^ K := Nat.pow_le_pow_right (by omega) (h u (by simp))
  have hu : (u.1 * prodE X u.2).natAbs ≤ u.1.natAbs * 2 ^ K := by
   rw [Int.natAbs_mul];exact Nat.mul_le_mul (Nat.le_refl _) (Nat.le_trans hb hle)
  unfold auv at ih ⊢;simp only [List.map_cons, sumL, absU];rw [Nat.add_mul]
  generalize u.1.natAbs * 2 ^ K = A at *
  generalize absU p * 2 ^ K = B at *
  omega
def okW (K c : Nat) (M : List Nat) (p : List UT) : Bool := p.all (fun u => decide (dotE M u.2 ≤ K)) && Nat.ble (absU p) (2 ^ c)
theorem auv_fitW {K c : Nat} {X : List Int} {M : List Nat} (hX : BW X M) {p : List UT} (h : okW K c M p = true) (hm : c + K < 131072) : Fit (auv X p) := by
 simp only [okW, Bool.and_eq_true, List.all_eq_true, decide_eq_true_eq] at h;have h2 : absU p ≤ 2 ^ c := Nat.le_of_ble_eq_true h.2;obtain ⟨b0, b1⟩ := auv_boundW hX h.1;have h3 : absU p * 2 ^ K ≤ 2 ^ c * 2 ^ K := Nat.mul_le_mul h2 (Nat.le_refl _);rw [← Nat.pow_add] at h3;obtain ⟨N, hN⟩ : ∃ N : Nat, N = 131072 := ⟨_, rfl⟩;have h4 : 2 ^ (c + K) < 2 ^ N := Nat.pow_lt_pow_right (by omega) (by omega);refine Fit.mk ?_;rw [BB_pow, show 32 * 4096 = N by omega];rw [show (((auv X p).natAbs : Nat) : Int) = auv X p by omega];have h5 : ((absU p * 2 ^ K : Nat) : Int) < ((2 ^ N : Nat) : Int) := Int.ofNat_lt.2 (Nat.lt_of_le_of_lt h3 h4);rw [Int.natCast_pow] at h5;exact Int.lt_of_le_of_lt b1 h5
theorem BW.fit {N : Nat} (hN : N < 131072) : ∀ {X : List Int} {M : List Nat}, BW X M → (∀ m ∈ M, m ≤ N) → ∀ x ∈ X, Fit x
 | [], _, _, _, _, hx => by cases hx
 | _ :: _, [], h, _, _, _ => h.elim
 | y :: X, m :: M, h, hM, x, hx => by
  rcases List.mem_cons.1 hx with rfl | hx
  ·exact fit_pow2 h.1.1 h.1.2 (by have := hM m (by simp); omega)
  ·exact BW.fit hN h.2 (fun k hk => hM k (by simp [hk])) x hx
end Go.AL
/- Validity of any many numbers. -/
namespace Go.Proofs.YtcaecieigoplbaaGreat
open Go.AL
theorem chValidB_ok (zs : List Z) (hz : ∀ z ∈ zs, WOk z.w) (hl : zs.length ≤ 9223372036854775807) : PureFn Tryz.prog 87 [.sl 2 eZ zs] (aB (decide (∀ z ∈ zs, OkZ z))) := by
 refine PureFn.of_body Tryz.func87 rfl Tryz.ntmps87 rfl rfl ?_;(repeat' (first |refine qv ?_ |apply qn |apply qs |apply qr |apply qb));refine AWP.loop (G := Nat) (fun i => i ≤ zs.length ∧ ∀ z ∈ zs.take i, OkZ z) (fun i => St.of [] [(5, .sl 2 eZ zs), (6, aN zs.length), (7, aN i)] []) (fun i => zs.length - i) 0 ⟨by omega, by simp⟩ ?_ ?_
 ·refine Ent.of [] ?_ ?_ rfl rfl;(repeat' (first |exact True.intro |refine ⟨⟨AV.Le.refl _, rfl⟩, ?_⟩|fail))
 ·intro i ⟨h0, h1⟩;(repeat' (first |refine qv ?_ |apply qn |apply qs |apply qr |refine qe ?_ |(refine AWP.condD rfl ?_ ?_ <;> intro _ <;> try (exfalso; omega)) |apply qb |apply qk |apply qx |apply qt |(refine Fl.el rfl rfl rfl rfl rfl rfl rfl rfl (by omega) (by omega) ?_; intro _ _)|fail))
  ·rename_i hi z hzi;rw [Int.toNat_natCast] at hzi;refine qc (Valid_ok z (hz z (List.mem_of_getElem? hzi))) ?_;(repeat' (first |refine qv ?_ |apply qn |apply qs |apply qr |refine qw ?_ |(refine AWP.condN rfl ?_ ?_ <;> intro _ <;> try (exfalso; omega)) |apply qk |apply qt))
   ·rename_i h2;refine RetOk.of rfl (AV.Le.bool (Eq.symm (decide_eq_false fun h => h2 (h z (List.mem_of_getElem? hzi)))))
   ·rename_i h2;refine LoopEnd.of (i + 1) ⟨by omega, all_take_succ hzi h1 h2⟩ (by omega) ?_;refine Ent.of [] ?_ ?_ rfl rfl;(repeat' (first |exact True.intro |refine ⟨⟨AV.Le.refl _, rfl⟩, ?_⟩|fail))
  ·refine RetOk.of rfl (AV.Le.bool (Eq.symm (decide_eq_true ?_)));rwa [show i = zs.length by omega, List.take_length] at h1
theorem chValidXB_ok (X : List Int) (hX : ∀ x ∈ X, Fit x) (hl : X.length ≤ 9223372036854775807) : PureFn Tryz.prog 87 [.sl 2 eX X] (aB true) := by
 refine (chValidB_ok (X.map zOf) (fun z hz => ?_) (by rw [List.length_map]; omega)).le (LeL.cons (AV.Le.slUnmap (enc := eZ) (f := zOf)) LeL.nil) (AV.Le.bool (decide_eq_true fun z hz => ?_))
 ·obtain ⟨x, _, rfl⟩ := List.mem_map.1 hz; exact toW_ok _
 ·obtain ⟨x, hx, rfl⟩ := List.mem_map.1 hz; exact okZ_zOf (hX x hx)
theorem chNaturalB_ok (X : List Int) (hl : X.length ≤ 9223372036854775807) : PureFn Tryz.prog 88 [.sl 2 eX X] (aB (decide (∀ x ∈ X, 0 ≤ x))) := by
 refine PureFn.of_body Tryz.func88 rfl Tryz.ntmps88 rfl rfl ?_;(repeat' (first |refine qv ?_ |apply qn |apply qs |apply qr |apply qb));refine AWP.loop (G := Nat) (fun i => i ≤ X.length ∧ ∀ z ∈ X.take i, 0 ≤ z) (fun i => St.of [] [(5, .sl 2 eX X), (6, aN X.length), (7, aN i)] []) (fun i => X.length - i) 0 ⟨by omega, by simp⟩ ?_ ?_
 ·refine Ent.of [] ?_ ?_ rfl rfl;(repeat' (first |exact True.intro |refine ⟨⟨AV.Le.refl _, rfl⟩, ?_⟩|fail))
 ·intro i ⟨h0, h1⟩;(repeat' (first |refine qv ?_ |apply qn |apply qs |apply qr |refine qw ?_ |refine qe ?_ |(refine AWP.condD rfl ?_ ?_ <;> intro _ <;> try (exfalso; omega)) |apply qb |apply qk |apply qx |apply qt |(refine Fl.el rfl rfl rfl rfl rfl rfl rfl rfl (by omega) (by omega) ?_; intro _ _)|fail))
  ·rename_i hi z hzi h2;rw [Int.toNat_natCast] at hzi;refine RetOk.of rfl (AV.Le.bool (Eq.symm (decide_eq_false fun h => ?_)));have := h z (List.mem_of_getElem? hzi);omega
  ·rename_i hi z hzi h2;rw [Int.toNat_natCast] at hzi;refine LoopEnd.of (i + 1) ⟨by omega, all_take_succ hzi h1 (by omega)⟩ (by omega) ?_;refine Ent.of [] ?_ ?_ rfl rfl;(repeat' (first |exact True.intro |refine ⟨⟨AV.Le.refl _, rfl⟩, ?_⟩|fail))
  ·refine RetOk.of rfl (AV.Le.bool (Eq.symm (decide_eq_true ?_)));rwa [show i = X.length by omega, List.take_length] at h1
theorem HoldsB_form (s : SZ) (zs : List Z) (hw : WS s) (hz : ∀ z ∈ zs, WOk z.w) (hl : zs.length ≤ 9223372036854775807) (h : ¬ (OkS s ∧ ∀ z ∈ zs, OkZ z)) : PureFn Tryz.prog 25 [aS s, .sl 2 eZ zs] (.tup [aB false, aN 1]) := by
 refine PureFn.of_body Tryz.func25 rfl Tryz.ntmps25 rfl rfl ?_;(repeat' (first |refine qv ?_ |apply qn |apply qs |apply qr |refine qe ?_|fail));by_cases hs : OkS s
 ·refine qc (sValid_ok s hw true ⟨fun _ => hs, fun _ => rfl⟩) ?_;(repeat' (first |refine qv ?_|fail));have hv := chValidB_ok zs hz hl;rw [decide_eq_false fun k => h ⟨hs, k⟩] at hv;refine qc (hv) ?_;(repeat' (first |refine qv ?_ |apply qn |apply qs |apply qr |refine AWP.condT rfl ?_ |apply qt));exact RetOk.of rfl (AV.Le.refl _)
 ·refine qc (sValid_ok s hw false ⟨fun k => (by cases k), fun k => absurd k hs⟩) ?_;(repeat' (first |refine qv ?_ |apply qn |apply qs |apply qr |refine Fl.skip rfl rfl ?_ |refine AWP.condT rfl ?_ |apply qt));exact RetOk.of rfl (AV.Le.refl _)
theorem HoldsB_arg (s : SZ) (X : List Int) (hw : WS s) (hs : OkS s) (hX : ∀ x ∈ X, Fit x) (hl : X.length ≤ 9223372036854775807) (h : ¬ ((X.length : Int) = s.vars ∧ ∀ x ∈ X, 0 ≤ x)) : PureFn Tryz.prog 25 [aS s, .sl 2 eX X] (.tup [aB false, aN 2]) := by
 refine PureFn.of_body Tryz.func25 rfl Tryz.ntmps25 rfl rfl ?_;(repeat' (first |refine qv ?_ |apply qn |apply qs |apply qr |refine qe ?_|fail));refine qc (sValid_ok s hw true ⟨fun _ => hs, fun _ => rfl⟩) ?_;(repeat' (first |refine qv ?_|fail));refine qc (chValidXB_ok X hX hl) ?_;(repeat' (first |refine qv ?_ |apply qn |apply qs |apply qr |refine Fl.skip rfl rfl ?_ |refine AWP.condT rfl ?_ |refine AWP.condF rfl ?_ |apply qk |apply qt |(refine Fl.splitN rfl rfl ?_ ?_ <;> intro _ <;> try (exfalso; omega))))
 ·exact RetOk.of rfl (AV.Le.refl _)
 ·rename_i hlen;have hv := chNaturalB_ok X hl;rw [decide_eq_false fun k => h ⟨hlen, k⟩] at hv;refine qc (hv) ?_;(repeat' (first |refine qv ?_ |apply qn |apply qs |apply qr |refine AWP.condT rfl ?_ |apply qt));exact RetOk.of rfl (AV.Le.refl _)
end Go.Proofs.YtcaecieigoplbaaGreat
/- mask: the links' meaning; what they need to be evaluated. -/
namespace Go.AL
end Go.AL
namespace Go.Proofs.YtcaecieigoplbaaGreat
open Go.AL
theorem holdsR_all {f g : LZ → Bool} : ∀ {ls : List LZ}, (∀ l ∈ ls, f l = true ∧ g l = true) → holdsR f g ls = (true, 0)
 | [], _ => rfl
 | l :: ls, h => by
  obtain ⟨h1, h2⟩ := h l (by simp);rw [holdsR, if_pos h1, if_pos h2];exact holdsR_all fun x hx => h x (by simp [hx])
theorem holdsR_true {f g : LZ → Bool} : ∀ {ls : List LZ}, (holdsR f g ls).1 = true → ∀ l ∈ ls, f l = true ∧ g l = true
 | [], _, l, hl => by cases hl
 | x :: ls, h, l, hl => by
  rw [holdsR] at h;split at h
  ·rename_i h1;split at h
   ·rename_i h2;rcases List.mem_cons.1 hl with rfl | hl
    ·exact ⟨h1, h2⟩
    ·exact holdsR_true h l hl
   ·cases h
  ·cases h
theorem Holds_yes (s : SZ) (X : List Int) (hw : WS s) (hs : OkS s) (hX : ∀ x ∈ X, Fit x) (hlen : (X.length : Int) = s.vars) (hnat : ∀ x ∈ X, 0 ≤ x) (he : ∀ l ∈ s.links, EvL X l) (hh : ∀ l ∈ s.links, HoL X l) : PureFn Tryz.prog 25 [aS s, .sl 2 eX X] (.tup [aB true, aN 0]) := by
 obtain ⟨f, hf⟩ := boolOf (EvL X);obtain ⟨g, hg⟩ := boolOf (HoL X);have := Holds_ok s X hw hs hX hlen hnat f g hf hg;rw [holdsR_all fun l hl => ⟨(hf l).2 (he l hl), (hg l).2 (hh l hl)⟩] at this;exact this
theorem Holds_gen (s : SZ) (zs : List Z) (hw : WS s) (hs : OkS s) (hz : ∀ z ∈ zs, WOk z.w) (hl : zs.length ≤ 9223372036854775807) : ∃ (b : Bool) (e : Int), PureFn Tryz.prog 25 [aS s, .sl 2 eZ zs] (.tup [aB b, aN e]) ∧
  (b = true → ∃ X : List Int, zs = X.map zOf ∧ (∀ x ∈ X, Fit x) ∧ (X.length : Int) = s.vars ∧ (∀ x ∈ X, 0 ≤ x) ∧ ∀ l ∈ s.links, HoL X l) := by
 by_cases ho : ∀ z ∈ zs, OkZ z
 ·obtain ⟨X, hX, hXf⟩ : ∃ X : List Int, zs = X.map zOf ∧ ∀ x ∈ X, Fit x := by
   refine ⟨zs.map zval, ?_, fun x hx => ?_⟩
   ·rw [List.map_map]
    conv => lhs; rw [← List.map_id zs]
    exact List.map_congr_left fun z hzz => (okZ_eq (hz z hzz) (ho z hzz)).1
   ·obtain ⟨z, hzz, rfl⟩ := List.mem_map.1 hx;exact (okZ_eq (hz z hzz) (ho z hzz)).2
  have hXl : X.length ≤ 9223372036854775807 := by rw [hX, List.length_map] at hl; exact hl
  have up : ∀ {r : AV}, PureFn Tryz.prog 25 [aS s, .sl 2 eX X] r → PureFn Tryz.prog 25 [aS s, .sl 2 eZ zs] r := fun h => by
   rw [hX];exact h.le (LeL.cons (AV.Le.refl _) (LeL.cons AV.Le.slMap LeL.nil)) (AV.Le.refl _)
  by_cases ha : (X.length : Int) = s.vars ∧ ∀ x ∈ X, 0 ≤ x
  ·obtain ⟨f, hf⟩ := boolOf (EvL X);obtain ⟨g, hg⟩ := boolOf (HoL X);refine ⟨_, _, up (Holds_ok s X hw hs hXf ha.1 ha.2 f g hf hg), fun hb => ⟨X, hX, hXf, ha.1, ha.2, fun l hl => (hg l).1 (holdsR_true hb l hl).2⟩⟩
  ·exact ⟨false, 2, up (HoldsB_arg s X hw hs hXf hXl ha), fun h => by cases h⟩
 ·exact ⟨false, 1, HoldsB_form s zs hw hz hl fun h => ho h.2, fun h => by cases h⟩
end Go.Proofs.YtcaecieigoplbaaGreat
/- define: the links' meaning; what they need to be evaluated. Written by gen_dg.py. -/
namespace Go.AL
theorem dfS_all : (∀ l ∈ dfS.links, OkL 16 l ∧ WL l ∧ l.kind = 0) := by
 intro l hl;simp only [dfS, List.mem_cons, List.not_mem_nil, or_false] at hl;rcases hl with rfl | rfl | rfl | rfl | rfl | rfl | rfl | rfl | rfl | rfl | rfl
 ·have := okLU_ok (V := 16) (by omega) (kind := 0) (ls := [df1]) (by kernel_rfl); exact ⟨this.1, this.2.1, rfl⟩
 ·have := okLU_ok (V := 16) (by omega) (kind := 0) (ls := [df3]) (by kernel_rfl); exact ⟨this.1, this.2.1, rfl⟩
 ·have := okLU_ok (V := 16) (by omega) (kind := 0) (ls := [df8]) (by kernel_rfl); exact ⟨this.1, this.2.1, rfl⟩
 ·have := okLU_ok (V := 16) (by omega) (kind := 0) (ls := [df11]) (by kernel_rfl); exact ⟨this.1, this.2.1, rfl⟩
 ·have := okLU_ok (V := 16) (by omega) (kind := 0) (ls := [df16]) (by kernel_rfl); exact ⟨this.1, this.2.1, rfl⟩
 ·have := okLU_ok (V := 16) (by omega) (kind := 0) (ls := [df20]) (by kernel_rfl); exact ⟨this.1, this.2.1, rfl⟩
 ·have := okLU_ok (V := 16) (by omega) (kind := 0) (ls := [df23]) (by kernel_rfl); exact ⟨this.1, this.2.1, rfl⟩
 ·have := okLU_ok (V := 16) (by omega) (kind := 0) (ls := [df28]) (by kernel_rfl); exact ⟨this.1, this.2.1, rfl⟩
 ·have := okLU_ok (V := 16) (by omega) (kind := 0) (ls := [df31]) (by kernel_rfl); exact ⟨this.1, this.2.1, rfl⟩
 ·have := okLU_ok (V := 16) (by omega) (kind := 0) (ls := [df34]) (by kernel_rfl); exact ⟨this.1, this.2.1, rfl⟩
 ·have := okLU_ok (V := 16) (by omega) (kind := 0) (ls := [df36]) (by kernel_rfl); exact ⟨this.1, this.2.1, rfl⟩
theorem dfS_w : WS dfS := fun l hl => (dfS_all l hl).2.1
theorem dfS_ok : OkS dfS := ⟨by decide, by decide, by decide, fun l hl => (dfS_all l hl).1⟩
theorem dfS_nn : (∀ p ∈ [df1, df3, df8, df11, df16, df20, df23, df28, df31, df34, df36], nnU 16 p) := by
 have h : ([df1, df3, df8, df11, df16, df20, df23, df28, df31, df34, df36].all fun p => p.all (okU 16)) = true := by kernel_rfl
 intro p hp;have := List.all_eq_true.1 h p hp;simp only [List.all_eq_true] at this;exact fun u hu => okU_ok (this u hu)
set_option maxHeartbeats 1000000 in
theorem df_vals (a b c d e f g h I i j t v w k l : Int) : let L := [a, b, c, d, e, f, g, h, I, i, j, t, v, w, k, l]
  uv L df1 = a - (k + 2) ∧ uv L df3 = b - (l + 1) ∧ uv L df8 = d - (((a * a - 1) * (c * c)) + 1) ∧ uv L df11 = e - (2 * (i + 1) * (c * c) * d) ∧ uv L df16 = f - (((a * a - 1) * (e * e)) + 1) ∧ uv L df20 = g - (a + (f * (f - a))) ∧ uv L df23 = h - (b + 2 * j * c) ∧ uv L df28 = I - (((g * g - 1) * (h * h)) + 1) ∧ uv L df31 = d * f * I - (w * w) ∧ uv L df34 = h - (c + f * t) ∧ uv L df36 = c - (b + v) := by
 intro L;have vv : ∀ i, i < 16 → uv L (varU 16 i) = L.getD i 0 := fun i hi => uv_var rfl hi;have v0 : uv L (varU 16 0) = a := vv 0 (by omega);have v1 : uv L (varU 16 1) = b := vv 1 (by omega);have v2 : uv L (varU 16 2) = c := vv 2 (by omega);have v3 : uv L (varU 16 3) = d := vv 3 (by omega);have v4 : uv L (varU 16 4) = e := vv 4 (by omega);have v5 : uv L (varU 16 5) = f := vv 5 (by omega);have v6 : uv L (varU 16 6) = g := vv 6 (by omega);have v7 : uv L (varU 16 7) = h := vv 7 (by omega);have v8 : uv L (varU 16 8) = I := vv 8 (by omega);have v9 : uv L (varU 16 9) = i := vv 9 (by omega);have v10 : uv L (varU 16 10) = j := vv 10 (by omega);have v11 : uv L (varU 16 11) = t := vv 11 (by omega);have v12 : uv L (varU 16 12) = v := vv 12 (by omega);have v13 : uv L (varU 16 13) = w := vv 13 (by omega);have v14 : uv L (varU 16 14) = k := vv 14 (by omega);have v15 : uv L (varU 16 15) = l := vv 15 (by omega);have c0 : ∀ k, uv L (conU 16 k) = k := fun k => uv_con L 16 k;have n0 : uv L [] = 0 := rfl
 have m0 : uv L df0 = k + 2 := by
  unfold df0; rw [uv_sums (V := 16) (by omega) L _ _ (by kernel_rfl)]; simp only [List.map_cons, List.map_nil, sumL, c0, n0, v14, c0]; omega
 have m1 : uv L df1 = a - (k + 2) := by
  unfold df1; rw [uv_sub (V := 16) (by omega) L (by kernel_rfl), v0, m0]
 have m2 : uv L df2 = l + 1 := by
  unfold df2; rw [uv_sums (V := 16) (by omega) L _ _ (by kernel_rfl)]; simp only [List.map_cons, List.map_nil, sumL, c0, n0, v15, c0]; omega
 have m3 : uv L df3 = b - (l + 1) := by
  unfold df3; rw [uv_sub (V := 16) (by omega) L (by kernel_rfl), v1, m2]
 have m4 : uv L df4 = a * a := by
  unfold df4; rw [uv_muls (V := 16) (by omega) L _ _ (by kernel_rfl)]; simp only [List.map_cons, List.map_nil, prodL, c0, v0]; grind
 have m5 : uv L df5 = a * a - 1 := by
  unfold df5; rw [uv_sub (V := 16) (by omega) L (by kernel_rfl), m4, c0]
 have m6 : uv L df6 = (a * a - 1) * (c * c) := by
  unfold df6; rw [uv_muls (V := 16) (by omega) L _ _ (by kernel_rfl)]; simp only [List.map_cons, List.map_nil, prodL, c0, m5, v2]; grind
 have m7 : uv L df7 = ((a * a - 1) * (c * c)) + 1 := by
  unfold df7; rw [uv_sums (V := 16) (by omega) L _ _ (by kernel_rfl)]; simp only [List.map_cons, List.map_nil, sumL, c0, n0, m6, c0]; omega
 have m8 : uv L df8 = d - (((a * a - 1) * (c * c)) + 1) := by
  unfold df8; rw [uv_sub (V := 16) (by omega) L (by kernel_rfl), v3, m7]
 have m9 : uv L df9 = i + 1 := by
  unfold df9; rw [uv_sums (V := 16) (by omega) L _ _ (by kernel_rfl)]; simp only [List.map_cons, List.map_nil, sumL, c0, n0, v9, c0]; omega
 have m10 : uv L df10 = 2 * (i + 1) * (c * c) * d := by
  unfold df10; rw [uv_muls (V := 16) (by omega) L _ _ (by kernel_rfl)]; simp only [List.map_cons, List.map_nil, prodL, c0, c0, m9, v2, v3]; grind
 have m11 : uv L df11 = e - (2 * (i + 1) * (c * c) * d) := by
  unfold df11; rw [uv_sub (V := 16) (by omega) L (by kernel_rfl), v4, m10]
 have m12 : uv L df12 = a * a := by
  unfold df12; rw [uv_muls (V := 16) (by omega) L _ _ (by kernel_rfl)]; simp only [List.map_cons, List.map_nil, prodL, c0, v0]; grind
 have m13 : uv L df13 = a * a - 1 := by
  unfold df13; rw [uv_sub (V := 16) (by omega) L (by kernel_rfl), m12, c0]
 have m14 : uv L df14 = (a * a - 1) * (e * e) := by
  unfold df14; rw [uv_muls (V := 16) (by omega) L _ _ (by kernel_rfl)]; simp only [List.map_cons, List.map_nil, prodL, c0, m13, v4]; grind
 have m15 : uv L df15 = ((a * a - 1) * (e * e)) + 1 := by
  unfold df15; rw [uv_sums (V := 16) (by omega) L _ _ (by kernel_rfl)]; simp only [List.map_cons, List.map_nil, sumL, c0, n0, m14, c0]; omega
 have m16 : uv L df16 = f - (((a * a - 1) * (e * e)) + 1) := by
  unfold df16; rw [uv_sub (V := 16) (by omega) L (by kernel_rfl), v5, m15]
 have m17 : uv L df17 = f - a := by
  unfold df17; rw [uv_sub (V := 16) (by omega) L (by kernel_rfl), v5, v0]
 have m18 : uv L df18 = f * (f - a) := by
  unfold df18; rw [uv_muls (V := 16) (by omega) L _ _ (by kernel_rfl)]; simp only [List.map_cons, List.map_nil, prodL, c0, v5, m17]; grind
 have m19 : uv L df19 = a + (f * (f - a)) := by
  unfold df19; rw [uv_sums (V := 16) (by omega) L _ _ (by kernel_rfl)]; simp only [List.map_cons, List.map_nil, sumL, c0, n0, v0, m18]; omega
 have m20 : uv L df20 = g - (a + (f * (f - a))) := by
  unfold df20; rw [uv_sub (V := 16) (by omega) L (by kernel_rfl), v6, m19]
 have m21 : uv L df21 = 2 * j * c := by
  unfold df21; rw [uv_muls (V := 16) (by omega) L _ _ (by kernel_rfl)]; simp only [List.map_cons, List.map_nil, prodL, c0, c0, v10, v2]; grind
 have m22 : uv L df22 = b + 2 * j * c := by
  unfold df22; rw [uv_sums (V := 16) (by omega) L _ _ (by kernel_rfl)]; simp only [List.map_cons, List.map_nil, sumL, c0, n0, v1, m21]; omega
 have m23 : uv L df23 = h - (b + 2 * j * c) := by
  unfold df23; rw [uv_sub (V := 16) (by omega) L (by kernel_rfl), v7, m22]
 have m24 : uv L df24 = g * g := by
  unfold df24; rw [uv_muls (V := 16) (by omega) L _ _ (by kernel_rfl)]; simp only [List.map_cons, List.map_nil, prodL, c0, v6]; grind
 have m25 : uv L df25 = g * g - 1 := by
  unfold df25; rw [uv_sub (V := 16) (by omega) L (by kernel_rfl), m24, c0]
 have m26 : uv L df26 = (g * g - 1) * (h * h) := by
  unfold df26; rw [uv_muls (V := 16) (by omega) L _ _ (by kernel_rfl)]; simp only [List.map_cons, List.map_nil, prodL, c0, m25, v7]; grind
 have m27 : uv L df27 = ((g * g - 1) * (h * h)) + 1 := by
  unfold df27; rw [uv_sums (V := 16) (by omega) L _ _ (by kernel_rfl)]; simp only [List.map_cons, List.map_nil, sumL, c0, n0, m26, c0]; omega
 have m28 : uv L df28 = I - (((g * g - 1) * (h * h)) + 1) := by
  unfold df28; rw [uv_sub (V := 16) (by omega) L (by kernel_rfl), v8, m27]
 have m29 : uv L df29 = d * f * I := by
  unfold df29; rw [uv_muls (V := 16) (by omega) L _ _ (by kernel_rfl)]; simp only [List.map_cons, List.map_nil, prodL, c0, v3, v5, v8]; grind
 have m30 : uv L df30 = w * w := by
  unfold df30; rw [uv_muls (V := 16) (by omega) L _ _ (by kernel_rfl)]; simp only [List.map_cons, List.map_nil, prodL, c0, v13]; grind
 have m31 : uv L df31 = d * f * I - (w * w) := by
  unfold df31; rw [uv_sub (V := 16) (by omega) L (by kernel_rfl), m29, m30]
 have m32 : uv L df32 = f * t := by
  unfold df32; rw [uv_muls (V := 16) (by omega) L _ _ (by kernel_rfl)]; simp only [List.map_cons, List.map_nil, prodL, c0, v5, v11]; grind
 have m33 : uv L df33 = c + f * t := by
  unfold df33; rw [uv_sums (V := 16) (by omega) L _ _ (by kernel_rfl)]; simp only [List.map_cons, List.map_nil, sumL, c0, n0, v2, m32]; omega
 have m34 : uv L df34 = h - (c + f * t) := by
  unfold df34; rw [uv_sub (V := 16) (by omega) L (by kernel_rfl), v7, m33]
 have m35 : uv L df35 = b + v := by
  unfold df35; rw [uv_sums (V := 16) (by omega) L _ _ (by kernel_rfl)]; simp only [List.map_cons, List.map_nil, sumL, c0, n0, v1, v12]; omega
 have m36 : uv L df36 = c - (b + v) := by
  unfold df36; rw [uv_sub (V := 16) (by omega) L (by kernel_rfl), v2, m35]
 exact ⟨m1, m3, m8, m11, m16, m20, m23, m28, m31, m34, m36⟩
theorem sub_z_iff {x y : Int} : x - y = 0 ↔ x = y := by omega
theorem df_hol (a b c d e f g h I i j t v w k l : Int) : (∀ y ∈ dfS.links, HoL [a, b, c, d, e, f, g, h, I, i, j, t, v, w, k, l] y) ↔ DfEq a b c d e f g h I i j t v w k l := by
 obtain ⟨e0, e1, e2, e3, e4, e5, e6, e7, e8, e9, e10⟩ := df_vals a b c d e f g h I i j t v w k l
 have L : ∀ (kind : Int) (ls : List (List UT)), (∀ p ∈ ls, p ∈ [df1, df3, df8, df11, df16, df20, df23, df28, df31, df34, df36]) → HoL [a, b, c, d, e, f, g, h, I, i, j, t, v, w, k, l] (linkU 16 kind ls) = holdP kind (ls.map (uv [a, b, c, d, e, f, g, h, I, i, j, t, v, w, k, l])) := fun kind ls h => by
  unfold HoL;rw [lvals_linkU (V := 16) rfl fun p hp => dfS_nn p (h p hp)];rfl
 simp only [dfS, List.forall_mem_cons];rw [L 0 _ (by simp), L 0 _ (by simp), L 0 _ (by simp), L 0 _ (by simp), L 0 _ (by simp), L 0 _ (by simp), L 0 _ (by simp), L 0 _ (by simp), L 0 _ (by simp), L 0 _ (by simp), L 0 _ (by simp)];simp only [List.map_cons, List.map_nil, e0, e1, e2, e3, e4, e5, e6, e7, e8, e9, e10];unfold holdP DfEq;simp only [List.getD_cons_zero, List.getD_cons_succ, sub_z_iff];simp
theorem df_ev {X : List Int} {M : List Nat} (hl : X.length = 16) (hB : BW X M) (h : ([df1, df3, df8, df11, df16, df20, df23, df28, df31, df34, df36].all (okW 131000 5 M)) = true) : ∀ l ∈ dfS.links, EvL X l := by
 have A : ∀ p, p ∈ [df1, df3, df8, df11, df16, df20, df23, df28, df31, df34, df36] → Fit (auv X p) := fun p hp => auv_fitW hB (List.all_eq_true.1 h p hp) (by omega)
 have L : ∀ (kind : Int) (ls : List (List UT)), (∀ p ∈ ls, p ∈ [df1, df3, df8, df11, df16, df20, df23, df28, df31, df34, df36]) → EvL X (linkU 16 kind ls) := fun kind ls h =>
  evL_linkU hl (fun p hp => dfS_nn p (h p hp)) fun p hp => A p (h p hp)
 simp only [dfS, List.forall_mem_cons];exact ⟨L 0 _ (by simp), L 0 _ (by simp), L 0 _ (by simp), L 0 _ (by simp), L 0 _ (by simp), L 0 _ (by simp), L 0 _ (by simp), L 0 _ (by simp), L 0 _ (by simp), L 0 _ (by simp), L 0 _ (by simp), by simp⟩
end Go.AL
namespace Go.Proofs.YtcaecieigoplbaaGreat
open Go.AL
end Go.Proofs.YtcaecieigoplbaaGreat
/- ref01: SameAll. -/
namespace Go.AL
end Go.AL
namespace Go.Proofs.YtcaecieigoplbaaGreat
open Go.AL
end Go.Proofs.YtcaecieigoplbaaGreat
/- DefineWitness; awake. -/
namespace Go.AL
abbrev awL : List Int := [2, 1, 1, 4, 56, 9409, 88510465, 1, 7834102414516225, 6, 0, 0, 0, 17171030210, 0, 0]
theorem awL_eq : (dn 2 1 4).L 2 1 = awL := by decide +kernel
theorem awL_fit : ∀ x ∈ awL, 0 ≤ x ∧ Fit x := by
 have h : ∀ x ∈ awL, 0 ≤ x ∧ x < 18446744073709551616 := by decide
 exact fun x hx => ⟨(h x hx).1, fit_small (by have := (h x hx).1; omega) (h x hx).2⟩
theorem aw10 : RankIs 2 (dU 2 1) 20000 4 ∧ DOK 2 1 4 := by
 have e : dU 2 1 = 8 := by decide +kernel
 have hr : RankIs 2 (dU 2 1) 20000 4 := by
  rw [e];refine ⟨by omega, by omega, by decide +kernel, fun k h1 h2 => ?_⟩;rcases (show k = 1 ∨ k = 2 ∨ k = 3 by omega) with h | h | h <;> subst h <;> decide +kernel
 refine ⟨hr, by rw [e]; decide +kernel, hr, ?_⟩;rw [awL_eq];exact fun x hx => (awL_fit x hx).2
theorem aw10_ev : ∀ l ∈ dfS.links, EvL awL l := df_ev (M := [2, 1, 1, 3, 6, 14, 27, 1, 53, 3, 1, 1, 1, 35, 1, 1]) rfl (by simp only [BW]; decide) (by kernel_rfl)
theorem aw10_hol : ∀ l ∈ dfS.links, HoL awL l := (df_hol _ _ _ _ _ _ _ _ _ _ _ _ _ _ _ _).2 (by unfold DfEq; decide)
end Go.AL
namespace Go.Proofs.YtcaecieigoplbaaGreat
open Go.AL
theorem awake10_ok : PureFn Tryz.prog 45 [] (aB true) := by
 refine PureFn.of_body Tryz.func45 rfl Tryz.ntmps45 rfl rfl ?_;obtain ⟨hr, hk⟩ := aw10;have c1 := dWit_ok 2 1 fit_two (by omega) (by omega) (by omega) (.tup [.sl 2 eX ((dn 2 1 4).L 2 1), aN 0]) (fun n h => by rw [h.2.1.fun hr]) (fun h => absurd hk (h 4));rw [awL_eq] at c1;have c2 := Holds_yes dfS awL dfS_w dfS_ok (fun x hx => (awL_fit x hx).2) rfl (fun x hx => (awL_fit x hx).1) aw10_ev aw10_hol;obtain ⟨L, hL⟩ : ∃ L, L = awL := ⟨_, rfl⟩
 have hLl : L.length = 16 := by rw [hL]; rfl
 have g4 : L[(4 : Int).toNat]? = some 56 := by rw [hL]; rfl
 have g5 : L[(5 : Int).toNat]? = some 9409 := by rw [hL]; rfl
 have g9 : L[(9 : Int).toNat]? = some 6 := by rw [hL]; rfl
 rw [← hL] at c1 c2;have len1 : ∀ x : Int, 0 ≤ x → x < 4294967296 → (toW x.natAbs).length ≤ 1000000 := fun x h0 h1 => Nat.le_trans ((toW_len_le (by omega) 1).2 (by rw [BB_succ, BB_zero]; omega)) (by omega);refine AWP.seqS ?_;(repeat' (first |refine qv ?_ |apply qn |apply qr));refine ⟨AWP.seqS ?_⟩;(repeat' (first |apply qr));refine qc (rOf_ok 2 (by omega) (by omega)) ?_;skip;refine qc (c1) ?_;(repeat' (first |refine qv ?_ |apply qn));refine ⟨AWP.seqS ?_⟩;(repeat' (first |apply qr));refine qc (dfEq_ok) ?_;(repeat' (first |refine qv ?_|fail));refine qc (c2) ?_;(repeat' (first |refine qv ?_ |apply qn));refine ⟨?_⟩;(repeat' (first |refine qv ?_ |apply qs |apply qr |refine qK ?_ |(refine Fl.splitD rfl rfl ?_ ?_ <;> intro _ <;> try (exfalso; omega))));refine qc (rOf_ok 56 (by omega) (by omega)) ?_;skip;refine qc (rSame_ok 56 56 (len1 56 (by omega) (by omega))) ?_;(repeat' (first |refine qv ?_ |refine qK ?_ |(refine Fl.splitD rfl rfl ?_ ?_ <;> intro _ <;> try (exfalso; omega))));refine qc (rOf_ok 9409 (by omega) (by omega)) ?_;skip;refine qc (rSame_ok 9409 9409 (len1 9409 (by omega) (by omega))) ?_;(repeat' (first |refine qv ?_ |refine qK ?_ |(refine Fl.splitD rfl rfl ?_ ?_ <;> intro _ <;> try (exfalso; omega))));refine qc (rOf_ok 6 (by omega) (by omega)) ?_;skip;refine qc (rSame_ok 6 6 (len1 6 (by omega) (by omega))) ?_;(repeat' (first |refine qv ?_ |refine Fl.nil (fun _ => by kernel_rfl) ?_ |apply qt));exact RetOk.of rfl (AV.Le.refl _)
end Go.Proofs.YtcaecieigoplbaaGreat
/- large.Root of a square. -/
namespace Go.AL
theorem sq_nn (x : Int) : 0 ≤ x * x := by
 rcases Int.le_total 0 x with h | h
 ·exact Int.mul_nonneg h h
 ·have := Int.mul_nonneg (show 0 ≤ -x by omega) (show 0 ≤ -x by omega);rwa [Int.neg_mul_neg] at this
theorem root_up {s r : Int} (hr : 1 ≤ r) : s ≤ (r + s * s / r) / 2 := by
 have h0 := sq_nn (s - r)
 have h1 : (2 * s - r) * r ≤ s * s := by
  have e : (s - r) * (s - r) = s * s - (2 * s - r) * r := by grind
  omega
 have h2 : 2 * s - r ≤ s * s / r := (Int.le_ediv_iff_mul_le (by omega)).2 h1;omega
theorem root_end {s r : Int} (hs : 0 ≤ s) (hr : 1 ≤ r) (h : s ≤ r) (hx : r ≤ (r + s * s / r) / 2) : r = s := by
 have h1 : r ≤ s * s / r := by omega
 have h2 : r * r ≤ s * s := (Int.le_ediv_iff_mul_le (by omega)).1 h1;have := le_of_sq hs h2;omega
theorem root_start {s : Int} {n : Nat} (hs : 0 ≤ s) (h : n = (bitl (s * s).natAbs + 1) / 2) : s ≤ 2 ^ n := by
 have h1 := bitl_lt (s * s).natAbs
 have h2 : bitl (s * s).natAbs ≤ n + n := by omega
 have h3 : (2 : Nat) ^ bitl (s * s).natAbs ≤ 2 ^ (n + n) := Nat.pow_le_pow_right (by omega) h2;have h4 : ((s * s).natAbs : Int) < ((2 ^ (n + n) : Nat) : Int) := Int.ofNat_lt.2 (by omega);rw [Int.natCast_pow] at h4;have h5 := sq_nn s
 have h6 : s * s ≤ (2 : Int) ^ n * 2 ^ n := by
  rw [← Int.pow_add];have : (((2 : Nat) : Int)) = 2 := rfl;rw [this] at h4;omega
 exact le_of_sq (Int.le_of_lt (Int.pow_pos (by omega))) h6
end Go.AL
namespace Go.Proofs.YtcaecieigoplbaaGreat
open Go.AL
theorem RootZ_ok : PureFn Tryz.prog 134 [aX 0] (.tup [aX 0, aB true, aN 0]) := by
 have hv := Valid_int 0 Fit.zero;refine PureFn.of_body Tryz.func134 rfl Tryz.ntmps134 rfl rfl ?_
 have hl : (toW ((0 : Int).natAbs : Int)).length = 0 := by
  show (toW 0).length = 0;rw [toW_zero]; rfl
 refine AWP.seqS ?_;(repeat' (first |refine qv ?_ |apply qn |apply qr |refine qe ?_|fail));refine ⟨AWP.seqS ?_⟩;(repeat' (first |refine qv ?_ |apply qs |apply qr));refine qc (hv) ?_;(repeat' (first |refine qv ?_ |apply qn |refine AWP.condF rfl ?_ |apply qk));refine ⟨AWP.seqS ?_⟩;(repeat' (first |refine qv ?_ |apply qn |apply qs |apply qr |refine AWP.condF rfl ?_ |apply qk));refine ⟨AWP.seqS ?_⟩;(repeat' (first |refine qv ?_ |apply qn |apply qs |apply qr |refine qe ?_ |(refine AWP.condD rfl ?_ ?_ <;> intro _ <;> try (exfalso; omega)) |apply qt));exact RetOk.of rfl (AV.Le.tup (LeL.cons aX_zero (LeL.refl _)))
set_option maxHeartbeats 1000000 in
theorem Root_ok (s : Int) (hs : 1 ≤ s) (hf : Fit (s * s)) : PureFn Tryz.prog 134 [aX (s * s)] (.tup [aX s, aB true, aN 0]) := by
 have hv := Valid_int (s * s) hf;obtain ⟨x, hx⟩ : ∃ x, x = s * s := ⟨_, rfl⟩
 have hss : s ≤ s * s := by have := Int.mul_le_mul_of_nonneg_left hs (show 0 ≤ s by omega); omega
 have hx1 : 1 ≤ x := by omega
 have fs : Fit s := hf.le (by omega)
 have hxl : (toW x).length ≤ 4096 := by have := hf.len; rwa [← hx, show ((x.natAbs : Nat) : Int) = x by omega] at this
 have hne := List.length_pos_iff.2 (toW_ne_nil (show 0 < x by omega))
 have e : aX x = .agg [aB false, aW (toW x)] := by
  rw [aX, decide_eq_false (by omega), show ((x.natAbs : Nat) : Int) = x by omega]
 obtain ⟨n, hn⟩ : ∃ n, n = (bitl x.natAbs + 1) / 2 := ⟨_, rfl⟩;have hst : s ≤ 2 ^ n := root_start (by omega) (by rw [hn, hx]);have hbl : bitl x.natAbs ≤ 131072 := bitl_BB (n := 4096) (by have := hf.lt; rwa [← hx] at this)
 have hw1 : toW 1 = [1] := by decide +kernel
 have hsz := size_ok x (by omega) (by omega);have lp := left_ok 1 (n % 32) n (by omega) (by rw [hw1]; decide) (by omega) (by omega) rfl;rw [hw1, Int.one_mul] at lp;have h2n : 1 ≤ (2 : Int) ^ n := Int.pow_pos (by omega)
 have hB : (2 : Int) ^ n < BB 2060 := by
  rw [BB_pow];obtain ⟨N, hN⟩ : ∃ N : Nat, N = 32 * 2060 := ⟨_, rfl⟩;rw [← hN];have h3 : (2 : Int) ^ (n + 1) ≤ 2 ^ N := pow_le_r (by omega) (by omega);rw [Int.pow_succ] at h3;omega
 rw [← hx, e] at hv ⊢;refine PureFn.of_body Tryz.func134 rfl Tryz.ntmps134 rfl rfl ?_;refine AWP.seqS ?_;(repeat' (first |refine qv ?_ |apply qn |apply qr |refine qe ?_|fail));refine ⟨AWP.seqS ?_⟩;(repeat' (first |refine qv ?_ |apply qs |apply qr));refine qc (hv) ?_;(repeat' (first |refine qv ?_ |apply qn |refine AWP.condF rfl ?_ |apply qk));refine ⟨AWP.seqS ?_⟩;(repeat' (first |refine qv ?_ |apply qn |apply qs |apply qr |refine AWP.condF rfl ?_ |apply qk));refine ⟨AWP.seqS ?_⟩;(repeat' (first |refine qv ?_ |apply qn |apply qs |apply qr |(refine AWP.condD rfl ?_ ?_ <;> intro _ <;> try (exfalso; omega)) |apply qk));refine ⟨AWP.seqS ?_⟩;(repeat' (first |apply qr));refine ql eW [1] ?_;(repeat' (first |refine qv ?_|fail));refine qc (hsz) ?_;(repeat' (first |refine qw ?_ |refine Fl.w rfl rfl rfl ⟨by omega, by omega, by dsimp only [hiK]; omega⟩ ?_|fail));refine Fl.call rfl lp rfl rfl rfl (LeL.cons (AV.Le.refl _) (LeL.cons (AV.Le.int (by omega)) LeL.nil)) ?_;(repeat' (first |refine qv ?_ |apply qn));refine ⟨AWP.seqS ?_⟩;(repeat' (first |apply qb));refine AWP.loop (G := Int) (fun r => s ≤ r ∧ r ≤ 2 ^ n) (fun r => St.of [] [(1, .ptr 1 0), (2, .ptr 2 0), (3, aB false), (4, aN 0), (5, aW (toW r))] [(1, .cells [aB false, aW (toW x)] 35), (2, .cells [aB false, .v (.slice none 0 0)] 35)]) (fun r => r.toNat) (2 ^ n) ⟨hst, by omega⟩ ?_ ?_
 ·refine Ent.of [] ?_ ?_ rfl rfl;(repeat' (first |exact True.intro |refine ⟨⟨AV.Le.refl _, rfl⟩, ?_⟩ |refine ⟨⟨⟨_, rfl, BLe.cells (LeL.refl _)⟩, rfl⟩, ?_⟩|fail))
 ·intro r ⟨k0, k1⟩;have hrl : (toW r).length ≤ 2060 := (toW_len_le (by omega) _).2 (by omega);have hq0 : 0 ≤ x / r := Int.ediv_nonneg (by omega) (by omega);have hql : (toW (x / r)).length ≤ 4096 := (toW_len_le hq0 _).2 (by have := Int.ediv_le_self r (show 0 ≤ x by omega); have := (toW_len_le (show 0 ≤ x by omega) _).1 hxl; omega)
  have hup : s ≤ (r + x / r) / 2 := by rw [hx]; exact root_up (by omega)
  have hend : r ≤ (r + x / r) / 2 → r = s := fun h => root_end (by omega) (by omega) k0 (by rw [← hx]; exact h)
  have hsl : (toW (r + x / r)).length ≤ 4097 := (toW_len_le (by omega) _).2 (by
   have a1 := (toW_len_le (show 0 ≤ r by omega) _).1 hrl;have a2 := (toW_len_le hq0 _).1 hql;have a3 := BB_le (show 2060 ≤ 4096 by omega);have a4 : BB 4097 = 4294967296 * BB 4096 := BB_succ 4096
   omega)
  have hnl : (toW ((r + x / r) / 2)).length ≤ 4097 := (toW_len_le (by omega) _).2 (by
   have := (toW_len_le (show 0 ≤ r + x / r by omega) _).1 hsl
   omega)
  have c1 := divide_ok x r (by omega) (by omega) (by omega) (by omega);have c2 := plus_ok r (x / r) (by omega) hq0 (by omega) (by omega);have c3 := right_ok (r + x / r) 1 (by omega) (by omega) (by omega);rw [show (2 : Int) ^ 1 = 2 by decide] at c3;have c4 := compare_ok ((r + x / r) / 2) r (by omega) (by omega) (by omega) (by omega);rcases Int.lt_or_le ((r + x / r) / 2) r with hlt | hle
  ·have hc : cmpI ((r + x / r) / 2) r < 0 := by rw [cmpI_lt hlt]; omega
   (repeat' (first |refine qv ?_ |apply qs |apply qr |apply qb));refine qc (c1) ?_;(repeat' (first |refine qv ?_ |apply qn |apply qs |apply qr));refine qc (c2) ?_;skip;refine qc (c3) ?_;(repeat' (first |refine qv ?_ |apply qn |apply qs |apply qr));refine qc (c4) ?_;(repeat' (first |refine qv ?_ |apply qn |apply qr |(refine AWP.condD rfl ?_ ?_ <;> intro _ <;> try (exfalso; omega)) |apply qk));refine LoopEnd.of ((r + x / r) / 2) ⟨hup, by omega⟩ (by omega) ?_;refine Ent.of [] ?_ ?_ rfl rfl;(repeat' (first |exact True.intro |refine ⟨⟨AV.Le.refl _, rfl⟩, ?_⟩ |refine ⟨⟨⟨_, rfl, BLe.cells (LeL.refl _)⟩, rfl⟩, ?_⟩|fail))
  ·have hc : ¬ cmpI ((r + x / r) / 2) r < 0 := by
    rcases Int.lt_or_eq_of_le hle with k | k
    ·rw [cmpI_gt k]; omega
    ·rw [cmpI_eq k.symm]; omega
   have hrs := hend hle;have hm := made_ok false (toW r) (toW_ok r) (by omega);rw [show sg false (val (toW r)) = s by rw [val_toW (by omega), hrs]; simp [sg], aR_fit fs] at hm;have ht := times_ok r r (by omega) (by omega) (by omega) (by omega);rw [show r * r = x by rw [hrs, hx]] at ht;have hcc := compare_ok x x (by omega) (by omega) (by omega) (by omega);rw [cmpI_eq rfl] at hcc;(repeat' (first |refine qv ?_ |apply qs |apply qr |apply qb));refine qc (c1) ?_;(repeat' (first |refine qv ?_ |apply qn |apply qs |apply qr));refine qc (c2) ?_;skip;refine qc (c3) ?_;(repeat' (first |refine qv ?_ |apply qn |apply qs |apply qr));refine qc (c4) ?_;(repeat' (first |refine qv ?_ |apply qn |(refine AWP.condD rfl ?_ ?_ <;> intro _ <;> try (exfalso; omega)) |apply qx));refine ⟨AWP.seqS ?_⟩;(repeat' (first |refine qv ?_ |apply qr));refine qc (hm) ?_;(repeat' (first |refine qv ?_ |apply qn |refine qe ?_|fail));refine ⟨?_⟩;(repeat' (first |refine qv ?_ |apply qs |apply qr));refine qc (ht) ?_;(repeat' (first |refine qv ?_|fail));refine qc (hcc) ?_;(repeat' (first |refine qv ?_ |refine Fl.nil (fun _ => by kernel_rfl) ?_ |refine qe ?_ |apply qt));exact RetOk.of rfl (AV.Le.refl _)
end Go.Proofs.YtcaecieigoplbaaGreat
/- lucas.Index of an element of psi. -/
namespace Go.AL
theorem idx_bound {a : Int} {q : Nat} (h2 : 2 ≤ a) (hq : 1 ≤ q) : 2 ≤ bitl a.natAbs ∧ q ≤ bitl (psiN a q).natAbs / (bitl a.natAbs - 1) + 1 := by
 obtain ⟨m, rfl⟩ : ∃ m, q = m + 1 := ⟨q - 1, by omega⟩;have h1 := psi_ge (show 1 ≤ a by omega) m;obtain ⟨b1, b2⟩ := bitl_ge (n := a.natAbs) (by omega)
 have hb : 2 ≤ bitl a.natAbs := by
  have := bitl_lt a.natAbs;rcases (show bitl a.natAbs = 1 ∨ 2 ≤ bitl a.natAbs by omega) with h | h
  ·rw [h] at this; omega
  ·exact h
 refine ⟨hb, ?_⟩;obtain ⟨k, hk⟩ : ∃ k, k = bitl a.natAbs - 1 := ⟨_, rfl⟩;rw [← hk] at b2 ⊢
 have h3 : ((2 ^ k : Nat) : Int) ≤ a := by have := Int.ofNat_le.2 b2; omega
 have h4 : (((2 ^ k : Nat) : Int)) ^ m ≤ a ^ m := pow_le_l (Int.natCast_nonneg _) h3 m
 have h5 : ((2 ^ (k * m) : Nat) : Int) ≤ psiN a (m + 1) := by
  rw [Nat.pow_mul, Int.natCast_pow];exact Int.le_trans h4 h1
 have h6 := bitl_lt (psiN a (m + 1)).natAbs
 have h7 : 2 ^ (k * m) < 2 ^ bitl (psiN a (m + 1)).natAbs := by
  have : 2 ^ (k * m) ≤ (psiN a (m + 1)).natAbs := by omega
  omega
 have h8 : k * m < bitl (psiN a (m + 1)).natAbs := (Nat.pow_lt_pow_iff_right (by omega)).1 h7;have h9 : m ≤ bitl (psiN a (m + 1)).natAbs / k := (Nat.le_div_iff_mul_le (by omega)).2 (by rw [Nat.mul_comm]; omega);omega
end Go.AL
namespace Go.Proofs.YtcaecieigoplbaaGreat
open Go.AL
theorem element0_ok (a : Int) (ha : Fit a) (h2 : 2 ≤ a) : PureFn Tryz.prog 163 [aX a, aN 0, aN 0, .fn 164 []] (.tup [aX 0, aN 0]) := by
 refine PureFn.of_body Tryz.func163 rfl Tryz.ntmps163 rfl rfl ?_;(repeat' (first |refine qv ?_ |apply qn |apply qs |apply qr |refine qe ?_|fail));refine qc (fits_ok a ha h2) ?_;(repeat' (first |refine qv ?_ |apply qn |apply qs |apply qr |refine AWP.condT rfl ?_ |refine AWP.condF rfl ?_ |apply qb |apply qk));refine qc (Of_ok 0 (by omega) (by omega)) ?_;(repeat' (first |refine qv ?_ |apply qn |refine qe ?_ |apply qt));exact RetOk.of rfl (AV.Le.refl _)
theorem PsiN_ok (a : Int) (n : Nat) (ha : Fit a) (h2 : 2 ≤ a) (h1 : n ≤ 9223372036854775807) : PureFn Tryz.prog 99 [aX a, aN n] (aR (psiN a n)) := by
 rcases Nat.eq_zero_or_pos n with h | h
 ·subst h;rw [psi_zero, aR_fit Fit.zero];refine PureFn.of_body Tryz.func99 rfl Tryz.ntmps99 rfl rfl ?_;(repeat' (first |refine qv ?_ |apply qn |apply qs |apply qr |refine qe ?_|fail));refine qc (element0_ok a ha h2) ?_;(repeat' (first |refine qv ?_ |apply qn |refine qe ?_ |apply qt));exact RetOk.of rfl (AV.Le.refl _)
 ·exact Psi_ok a n ha h2 (by omega) (by omega)
abbrev ixB (a y : Int) : List (Go.AL.Id × Bx) := [(900, .cells (eX a) 35), (901, .cells (eX y) 35)]
theorem Index1_ok (a y : Int) (n : Nat) (ha : Fit a) (hy : Fit y) (h2 : 2 ≤ a) (h1 : n ≤ 9223372036854775807) : IoFn Tryz.prog 130 ([aN n] ++ [.ptr 900 0, .ptr 901 0]) (ixB a y) (.ret (aB (decide (y ≤ psiN a n)))) (ixB a y) := by
 have hp := PsiN_ok a n ha h2 h1;have h0 := (cp_pos h2 n).2.1;refine IoFn.of_body Tryz.func130 rfl Tryz.ntmps130 rfl rfl rfl ?_;by_cases hf : Fit (psiN a n)
 ·rw [aR_fit hf] at hp;have hl := Less_ok (psiN a n) y hf hy;rw [show decide (y ≤ psiN a n) = !decide (psiN a n < y) by rw [← decide_not]; exact decide_eq_decide.2 (by omega)];refine AWP.seqS ?_;(repeat' (first |refine qv ?_ |apply qn |apply qr));refine ⟨AWP.seqS ?_⟩;(repeat' (first |refine qv ?_ |apply qr));refine qc (hp) ?_;(repeat' (first |refine qv ?_ |apply qn |refine qe ?_|fail));refine ⟨?_⟩;(repeat' (first |refine qv ?_ |apply qs |apply qr |(refine Fl.splitN rfl rfl ?_ ?_ <;> intro _ <;> try (exfalso; omega))));refine qc (hl) ?_;(repeat' (first |refine qv ?_ |apply qn |apply qt));exact ⟨⟨[], _, _, Ent.refl _ _ _, rfl, AV.Le.refl _, rfl, ⟨⟨⟨_, rfl, BLe.cells (LeL.refl _)⟩, rfl⟩, ⟨⟨_, rfl, BLe.cells (LeL.refl _)⟩, rfl⟩, trivial⟩, rfl, rfl⟩⟩
 ·rw [aR_not hf] at hp
  have hle : y ≤ psiN a n := by
   rcases Int.lt_or_le (psiN a n) y with h | h
   ·exact absurd (fit_of hy h0 (by omega)) hf
   ·exact h
  rw [decide_eq_true hle];refine AWP.seqS ?_;(repeat' (first |refine qv ?_ |apply qn |apply qr));refine ⟨AWP.seqS ?_⟩;(repeat' (first |refine qv ?_ |apply qr));refine qc (hp) ?_;(repeat' (first |refine qv ?_ |apply qn |refine qe ?_|fail));refine ⟨?_⟩;(repeat' (first |refine qv ?_ |apply qn |apply qs |apply qr |refine Fl.skip rfl rfl ?_ |apply qt));exact ⟨⟨[], _, _, Ent.refl _ _ _, rfl, AV.Le.refl _, rfl, ⟨⟨⟨_, rfl, BLe.cells (LeL.refl _)⟩, rfl⟩, ⟨⟨_, rfl, BLe.cells (LeL.refl _)⟩, rfl⟩, trivial⟩, rfl, rfl⟩⟩
theorem Search_ok (a y : Int) (N q : Nat) (ha : Fit a) (hy : Fit y) (h2 : 2 ≤ a) (hN : N ≤ 1000000) (hq : q ≤ N) (hqy : psiN a q = y) : IoFn Tryz.prog 131 [aN N, .fn 130 [.ptr 900 0, .ptr 901 0]] (ixB a y) (.ret (aN q)) (ixB a y) := by
 refine IoFn.of_body Tryz.func131 rfl Tryz.ntmps131 rfl rfl rfl ?_;refine AWP.seqS ?_;(repeat' (first |refine qv ?_ |apply qn |apply qr));refine ⟨AWP.seqS ?_⟩;(repeat' (first |refine qv ?_ |apply qn |apply qr));refine ⟨AWP.seqS ?_⟩;(repeat' (first |apply qb));refine AWP.loop (G := Int × Int) (fun (i, j) => 0 ≤ i ∧ i ≤ q ∧ q ≤ j ∧ j ≤ N) (fun (i, j) => St.of [900, 901] [(1, .fn 130 [.ptr 900 0, .ptr 901 0]), (4, aN 0), (5, aN i), (6, aN j)] (ixB a y)) (fun (i, j) => (j - i).toNat) (0, N) ⟨by omega, by omega, by omega, by omega⟩ ?_ ?_
 ·refine Ent.of [] ?_ ?_ rfl rfl;(repeat' (first |exact True.intro |refine ⟨⟨AV.Le.refl _, rfl⟩, ?_⟩ |refine ⟨⟨⟨_, rfl, BLe.cells (LeL.refl _)⟩, rfl⟩, ?_⟩|fail))
 ·intro ⟨i, j⟩ ⟨k0, k1, k2, k3⟩;rcases Int.lt_or_le i j with hij | hij
  ·obtain ⟨h, hh⟩ : ∃ h : Nat, (h : Int) = (i + j) / 2 := ⟨((i + j) / 2).toNat, by omega⟩
   have hsh : (i + j) / 2 ^ Int.toNat 1 = h := by
    rw [show (2 : Int) ^ Int.toNat 1 = 2 by decide]; omega
   have hc := Index1_ok a y h ha hy h2 (by omega);by_cases hr : y ≤ psiN a h
   ·have hqh : q ≤ h := by
     rcases Nat.lt_or_ge h q with k | k
     ·have := psi_lt h2 k; omega
     ·exact k
    rw [decide_eq_true hr] at hc;(repeat' (first |refine qv ?_ |apply qn |apply qs |apply qr |refine qw ?_ |(refine AWP.condD rfl ?_ ?_ <;> intro _ <;> try (exfalso; omega)) |apply qb |apply qk |refine Fl.cvS rfl rfl rfl rfl rfl rfl ?_));refine Fl.ioV rfl rfl [] hc rfl rfl (LeL.cons (AV.Le.int (by omega)) (LeL.refl _)) rfl ⟨⟨⟨_, rfl, BLe.cells (LeL.refl _)⟩, rfl⟩, ⟨⟨_, rfl, BLe.cells (LeL.refl _)⟩, rfl⟩, trivial⟩ rfl rfl rfl rfl rfl ?_;(repeat' (first |refine qv ?_ |apply qn |apply qr |refine AWP.condF rfl ?_));refine LoopEnd.of (i, (i + j) / 2) ⟨k0, k1, by omega, by omega⟩ (by simp only; omega) ?_;refine Ent.of [] ?_ ?_ rfl rfl;(repeat' (first |exact True.intro |refine ⟨⟨AV.Le.refl _, rfl⟩, ?_⟩ |refine ⟨⟨⟨_, rfl, BLe.cells (LeL.refl _)⟩, rfl⟩, ?_⟩ |refine ⟨⟨AV.Le.int ?_, rfl⟩, ?_⟩|fail));omega
   ·have hqh : h + 1 ≤ q := by
     rcases Nat.lt_or_ge h q with k | k
     ·exact k
     ·have := psi_mono h2 k; omega
    rw [decide_eq_false hr] at hc;(repeat' (first |refine qv ?_ |apply qn |apply qs |apply qr |refine qw ?_ |(refine AWP.condD rfl ?_ ?_ <;> intro _ <;> try (exfalso; omega)) |apply qb |apply qk |refine Fl.cvS rfl rfl rfl rfl rfl rfl ?_));refine Fl.ioV rfl rfl [] hc rfl rfl (LeL.cons (AV.Le.int (by omega)) (LeL.refl _)) rfl ⟨⟨⟨_, rfl, BLe.cells (LeL.refl _)⟩, rfl⟩, ⟨⟨_, rfl, BLe.cells (LeL.refl _)⟩, rfl⟩, trivial⟩ rfl rfl rfl rfl rfl ?_;(repeat' (first |refine qv ?_ |apply qn |apply qr |refine qw ?_ |refine AWP.condT rfl ?_));refine LoopEnd.of ((i + j) / 2 + 1, j) ⟨by omega, by omega, k2, k3⟩ (by simp only; omega) ?_;refine Ent.of [] ?_ ?_ rfl rfl;(repeat' (first |exact True.intro |refine ⟨⟨AV.Le.refl _, rfl⟩, ?_⟩ |refine ⟨⟨⟨_, rfl, BLe.cells (LeL.refl _)⟩, rfl⟩, ?_⟩ |refine ⟨⟨AV.Le.int ?_, rfl⟩, ?_⟩|fail));omega
  ·have hiq : i = q := by omega
   subst hiq;(repeat' (first |refine qv ?_ |apply qn |apply qs |apply qr |(refine AWP.condD rfl ?_ ?_ <;> intro _ <;> try (exfalso; omega)) |apply qx));refine ⟨?_⟩;(repeat' (first |refine qv ?_ |apply qn |apply qs |apply qr |apply qt));exact ⟨⟨[], _, _, Ent.refl _ _ _, rfl, AV.Le.refl _, rfl, ⟨⟨⟨_, rfl, BLe.cells (LeL.refl _)⟩, rfl⟩, ⟨⟨_, rfl, BLe.cells (LeL.refl _)⟩, rfl⟩, trivial⟩, rfl, rfl⟩⟩
set_option maxHeartbeats 1000000 in
theorem Index_ok (a y : Int) (q : Nat) (ha : Fit a) (hy : Fit y) (h2 : 2 ≤ a) (hq : 1 ≤ q) (hqy : psiN a q = y) : PureFn Tryz.prog 58 [aX a, aX y] (.tup [aN q, aN 0]) := by
 refine PureFn.of_body Tryz.func58 rfl Tryz.ntmps58 rfl rfl ?_;obtain ⟨i1, i2⟩ := idx_bound h2 hq;rw [hqy] at i2;have by1 : bitl y.natAbs ≤ 131072 := bitl_BB (n := 4096) hy.lt;have ba1 : bitl a.natAbs ≤ 131072 := bitl_BB (n := 4096) ha.lt;have cy := Bits_ok y hy;have ca := Bits_ok a ha;obtain ⟨B, hB⟩ : ∃ B, B = bitl y.natAbs := ⟨_, rfl⟩;obtain ⟨A, hA⟩ : ∃ A, A = bitl a.natAbs := ⟨_, rfl⟩;rw [← hB] at i2 by1 cy;rw [← hA] at i1 i2 ba1 ca;have hle : B / (A - 1) ≤ B := Nat.div_le_self _ _
 have hdiv : ((B / (A - 1) : Nat) : Int) = (B : Int) / ((A : Int) - 1) := by
  rw [Int.natCast_ediv];congr 1;omega
 obtain ⟨D, hD⟩ : ∃ D, D = B / (A - 1) := ⟨_, rfl⟩;rw [← hD] at hdiv hle i2;have cs := Search_ok a y (D + 2) q ha hy h2 (by omega) (by omega) hqy;have cp := PsiN_ok a q ha h2 (by omega);rw [hqy, aR_fit hy] at cp;have cm := Same_ok y y hy hy;rw [decide_eq_true rfl] at cm;refine AWP.seqS ?_;(repeat' (first |refine qv ?_ |apply qn |apply qr |refine qe ?_|fail));refine ⟨AWP.seqS ?_⟩;(repeat' (first |refine qv ?_ |apply qs |apply qr));refine ql eX [y] ?_;skip;refine qc (fits2_ok a y ha hy h2) ?_;(repeat' (first |refine qv ?_ |apply qn |apply qs |apply qr |refine AWP.condF rfl ?_ |apply qk));refine ⟨AWP.seqS ?_⟩;(repeat' (first |refine qv ?_ |apply qn |apply qr));refine ⟨AWP.seqS ?_⟩;(repeat' (first |refine qv ?_ |apply qr));refine qc (cy) ?_;(repeat' (first |refine qv ?_|fail));refine qc (ca) ?_;(repeat' (first |refine qv ?_ |refine qw ?_ |refine Fl.w rfl rfl rfl ⟨by omega, by omega, by dsimp only [hiK]; omega⟩ ?_|fail));refine Fl.io rfl [(900, 2), (901, 3)] cs rfl rfl (LeL.cons (AV.Le.int (by omega)) (LeL.refl _)) rfl ⟨⟨⟨_, rfl, BLe.cells (LeL.refl _)⟩, rfl⟩, ⟨⟨_, rfl, BLe.cells (LeL.refl _)⟩, rfl⟩, trivial⟩ rfl rfl rfl rfl rfl ?_;(repeat' (first |refine qv ?_ |refine Fl.nil (fun _ => by kernel_rfl) ?_|fail));refine ⟨AWP.seqS ?_⟩;(repeat' (first |refine qv ?_ |apply qs |apply qr));refine qc (cp) ?_;(repeat' (first |refine qv ?_ |apply qn |apply qs |apply qr |refine qe ?_ |(refine Fl.splitN rfl rfl ?_ ?_ <;> intro _ <;> try (exfalso; omega))));refine qc (cm) ?_;(repeat' (first |refine qv ?_ |apply qn |refine AWP.condF rfl ?_ |apply qk));refine ⟨?_⟩;(repeat' (first |refine qv ?_ |apply qn |apply qs |apply qr |apply qt));exact RetOk.of rfl (AV.Le.refl _)
end Go.Proofs.YtcaecieigoplbaaGreat
/- DefineOnly. -/
namespace Go.AL
theorem df_pos {a b c d e f g h I i j t v w k l : Int} (h0 : ∀ x ∈ [a, b, c, d, e, f, g, h, I, i, j, t, v, w, k, l], 0 ≤ x) (H : DfEq a b c d e f g h I i j t v w k l) : 2 ≤ a ∧ 1 ≤ b ∧ 1 ≤ c ∧ 1 ≤ e := by
 simp only [List.forall_mem_cons] at h0;obtain ⟨ga, gb, gc, gd, ge, gf, gg, gh, gI, gi, gj, gt, gv, gw, gk, gl, _⟩ := h0;obtain ⟨e1, e2, e3, e4, e5, e6, e7, e8, e9, e10, e11⟩ := H
 have hc : 1 ≤ c := by omega
 have hcc : 1 ≤ c * c := Int.le_trans hc (mul_ge (by omega) hc);have haa : 2 ≤ a * a := Int.le_trans (show 2 ≤ a by omega) (mul_ge (by omega) (by omega))
 have hd : 1 ≤ d := by have := Int.mul_nonneg (show 0 ≤ a * a - 1 by omega) (show 0 ≤ c * c by omega); omega
 refine ⟨by omega, by omega, hc, ?_⟩;rw [e4];have k1 : 2 * (i + 1) ≤ 2 * (i + 1) * (c * c) := mul_ge (by omega) hcc;have k2 : 2 * (i + 1) * (c * c) ≤ 2 * (i + 1) * (c * c) * d := mul_ge (by omega) hd;omega
theorem df_only {a b c d e f g h I i j t v w k l : Int} (h0 : ∀ x ∈ [a, b, c, d, e, f, g, h, I, i, j, t, v, w, k, l], 0 ≤ x) (H : DfEq a b c d e f g h I i j t v w k l) : c = psiN a b.toNat ∧ (∃ s, 0 ≤ s ∧ d = s * s) ∧ (∃ s, 0 ≤ s ∧ f = s * s) ∧ (∃ s, 0 ≤ s ∧ I = s * s) ∧ (∃ q : Nat, e = psiN a q ∧ c ∣ (q : Int)) ∧ a - 1 ∣ c - b := by
 simp only [List.forall_mem_cons] at h0;obtain ⟨ga, gb, gc, gd, ge, gf, gg, gh, gI, gi, gj, gt, gv, gw, gk, gl, _⟩ := h0;obtain ⟨e1, e2, e3, e4, e5, e6, e7, e8, e9, e10, e11⟩ := H;exact define_only gi gc gd ge gf gh gI gv gw gk gl e1 e2 e3 e4 e5 e6 e7 e8 e9 e10 e11
end Go.AL
namespace Go.Proofs.YtcaecieigoplbaaGreat
open Go.AL
theorem lawSq_ok (s : Int) (hs : 0 ≤ s) (hf : Fit (s * s)) : PureFn Tryz.prog 60 [aX (s * s)] (aB true) := by
 refine PureFn.of_body Tryz.func60 rfl Tryz.ntmps60 rfl rfl ?_
 have hr : PureFn Tryz.prog 134 [aX (s * s)] (.tup [aX s, aB true, aN 0]) := by
  rcases Int.lt_or_eq_of_le hs with h | h
  ·exact Root_ok s h hf
  ·subst h; exact RootZ_ok
 (repeat' (first |refine qv ?_ |apply qn |apply qs |apply qr |refine qe ?_|fail));refine qc (hr) ?_;(repeat' (first |refine qv ?_ |apply qn |apply qs |apply qr |refine qe ?_ |apply qt));exact RetOk.of rfl (AV.Le.refl _)
set_option maxHeartbeats 1000000 in
theorem DefineOnlyX_ok (a b c d e f g h I i j t v w k l : Int) (hX : ∀ x ∈ [a, b, c, d, e, f, g, h, I, i, j, t, v, w, k, l], Fit x) (h0 : ∀ x ∈ [a, b, c, d, e, f, g, h, I, i, j, t, v, w, k, l], 0 ≤ x) (H : DfEq a b c d e f g h I i j t v w k l) (hH : PureFn Tryz.prog 25 [aS dfS, .sl 2 eX [a, b, c, d, e, f, g, h, I, i, j, t, v, w, k, l]] (.tup [aB true, aN 0])) : PureFn Tryz.prog 14 [.sl 2 eX [a, b, c, d, e, f, g, h, I, i, j, t, v, w, k, l]] (aB true) := by
 refine PureFn.of_body Tryz.func14 rfl Tryz.ntmps14 rfl rfl ?_;obtain ⟨a2, b1, c1, e1⟩ := df_pos h0 H;obtain ⟨o1, ⟨sd, sd0, sd1⟩, ⟨sf, sf0, sf1⟩, ⟨sI, sI0, sI1⟩, ⟨q, q1, q2⟩, o2⟩ := df_only h0 H;have fa := hX a (by simp);have fb := hX b (by simp);have fc := hX c (by simp);have fd := hX d (by simp);have fe := hX e (by simp);have ff := hX f (by simp);have fI := hX I (by simp)
 have hq1 : 1 ≤ q := by
  rcases Nat.eq_zero_or_pos q with h | h
  ·subst h; rw [psi_zero] at q1; omega
  ·exact h
 have hqb : q ≤ 131072 := by
  rcases Nat.lt_or_ge 131072 q with h | h
  ·exact absurd (q1 ▸ fe) (psi_not_fit a2 h)
  ·exact h
 have cI := Index_ok a e q fa fe a2 hq1 q1.symm;have cP := rIsPsi_ok a b c fa fb fc true ⟨fun _ => ⟨a2, b1, o1.symm⟩, fun _ => rfl⟩;have cd := lawSq_ok sd sd0 (sd1 ▸ fd);have cf := lawSq_ok sf sf0 (sf1 ▸ ff);have ci := lawSq_ok sI sI0 (sI1 ▸ fI);rw [← sd1] at cd;rw [← sf1] at cf;rw [← sI1] at ci;have la := fa.lenI;have lb := fb.lenI;have lc := fc.lenI;have l1 : lenI 1 ≤ 1 := lenI_small (by decide);have lq : lenI (q : Int) ≤ 1 := lenI_small (by omega);have ls1 := lenI_sub_le (x := a) (y := 1) (k := 4096) la (by omega);have ls2 := lenI_sub_le (x := c) (y := b) (k := 4096) lc lb;have d1 := rDivides_ok c q (by omega) (by omega);rw [decide_eq_true q2] at d1;have d2 := rSub_ok a 1 (by omega) (by omega);have d3 := rSub_ok c b (by omega) (by omega);have d4 := rDivides_ok (a - 1) (c - b) (by omega) (by omega);rw [decide_eq_true o2] at d4;obtain ⟨L, hL⟩ : ∃ L, L = [a, b, c, d, e, f, g, h, I, i, j, t, v, w, k, l] := ⟨_, rfl⟩
 have hLl : L.length = 16 := by rw [hL]; rfl
 have g0 : L[(0 : Int).toNat]? = some a := by rw [hL]; rfl
 have g1 : L[(1 : Int).toNat]? = some b := by rw [hL]; rfl
 have g2 : L[(2 : Int).toNat]? = some c := by rw [hL]; rfl
 have g3 : L[(3 : Int).toNat]? = some d := by rw [hL]; rfl
 have g4 : L[(4 : Int).toNat]? = some e := by rw [hL]; rfl
 have g5 : L[(5 : Int).toNat]? = some f := by rw [hL]; rfl
 have g8 : L[(8 : Int).toNat]? = some I := by rw [hL]; rfl
 rw [← hL] at hH ⊢;clear hX h0 H hL;refine AWP.seqS ?_;(repeat' (first |refine qv ?_ |apply qn |apply qr));refine ⟨AWP.seqS ?_⟩;(repeat' (first |apply qr));refine qc (dfEq_ok) ?_;(repeat' (first |refine qv ?_|fail));refine qc (hH) ?_;(repeat' (first |refine qv ?_ |apply qn));refine ⟨AWP.seqS ?_⟩;(repeat' (first |refine qv ?_ |apply qn |apply qs |apply qr |refine AWP.condF rfl ?_ |apply qk));refine ⟨AWP.seqS ?_⟩;(repeat' (first |refine qv ?_ |apply qn |apply qs |apply qr |(refine AWP.condN rfl ?_ ?_ <;> intro _ <;> try (exfalso; omega)) |apply qk));refine ⟨AWP.seqS ?_⟩;(repeat' (first |refine qv ?_ |refine Fl.nil (fun _ => by kernel_rfl) ?_ |apply qr |refine qe ?_ |refine qK ?_|fail));refine ⟨AWP.seqS ?_⟩;(repeat' (first |refine qv ?_ |apply qr |refine qK ?_|fail));refine qc (cI) ?_;(repeat' (first |refine qv ?_ |refine Fl.nil (fun _ => by kernel_rfl) ?_|fail));refine ⟨?_⟩;(repeat' (first |refine qv ?_ |apply qs |apply qr));refine qc (cP) ?_;(repeat' (first |refine qv ?_ |refine qK ?_|fail));refine qc (cd) ?_;(repeat' (first |refine qv ?_ |refine qK ?_|fail));refine qc (cf) ?_;(repeat' (first |refine qv ?_ |refine qK ?_|fail));refine qc (ci) ?_;(repeat' (first |refine qv ?_ |(refine Fl.splitD rfl rfl ?_ ?_ <;> intro _ <;> try (exfalso; omega))));refine qc (rOf_ok q (by omega) (by omega)) ?_;skip;refine qc (d1) ?_;(repeat' (first |refine qv ?_|fail));refine qc (rOf_ok 1 (by omega) (by omega)) ?_;skip;refine qc (d2) ?_;(repeat' (first |refine qv ?_|fail));refine qc (d3) ?_;skip;refine qc (d4) ?_;(repeat' (first |refine qv ?_|fail));refine qc (awake10_ok) ?_;(repeat' (first |refine qv ?_ |refine Fl.nil (fun _ => by kernel_rfl) ?_ |apply qt));exact RetOk.of rfl (AV.Le.refl _)
theorem DefineOnly_ok (zs : List Z) (hz : ∀ z ∈ zs, WOk z.w) (hl : zs.length ≤ 9223372036854775807) : PureFn Tryz.prog 14 [.sl 2 eZ zs] (aB true) := by
 obtain ⟨b, e, hH, hHb⟩ := Holds_gen dfS zs dfS_w dfS_ok hz hl
 have direct : ¬ (b = true ∧ e = 0) → PureFn Tryz.prog 14 [.sl 2 eZ zs] (aB true) := fun hn => by
  refine PureFn.of_body Tryz.func14 rfl Tryz.ntmps14 rfl rfl ?_;refine AWP.seqS ?_;(repeat' (first |refine qv ?_ |apply qn |apply qr));refine ⟨AWP.seqS ?_⟩;(repeat' (first |apply qr));refine qc (dfEq_ok) ?_;(repeat' (first |refine qv ?_|fail));refine qc (hH) ?_;(repeat' (first |refine qv ?_ |apply qn));refine ⟨AWP.seqS ?_⟩
  cases b with
  | true =>
   have he : e ≠ 0 := fun k => hn ⟨rfl, k⟩;(repeat' (first |refine qv ?_ |apply qn |apply qs |apply qr |refine Fl.skip rfl rfl ?_ |refine AWP.condT rfl ?_ |(refine Fl.splitN rfl rfl ?_ ?_ <;> intro _ <;> try (exfalso; omega))));refine qc (awake10_ok) ?_;(repeat' (first |refine qv ?_ |apply qn |apply qt));exact RetOk.of rfl (AV.Le.refl _)
  | false =>
   (repeat' (first |refine qv ?_ |apply qn |apply qs |apply qr |refine Fl.skip rfl rfl ?_ |refine AWP.condT rfl ?_ |(refine Fl.splitN rfl rfl ?_ ?_ <;> intro _ <;> try (exfalso; omega))))
   all_goals
    refine qc (awake10_ok) ?_;(repeat' (first |refine qv ?_ |apply qn |apply qt));exact RetOk.of rfl (AV.Le.refl _)
 by_cases hbe : b = true ∧ e = 0
 ·obtain ⟨rfl, rfl⟩ := hbe;obtain ⟨X, rfl, hX, hXl, h0, hho⟩ := hHb rfl;have hH' : PureFn Tryz.prog 25 [aS dfS, .sl 2 eX X] (.tup [aB true, aN 0]) := hH.le (LeL.cons (AV.Le.refl _) (LeL.cons (AV.Le.slUnmap (enc := eZ) (f := zOf)) LeL.nil)) (AV.Le.refl _)
  have hlen : X.length = 16 := by
   have : (X.length : Int) = 16 := hXl;omega
  match X, hlen with
  | [x0, x1, x2, x3, x4, x5, x6, x7, x8, x9, x10, x11, x12, x13, x14, x15], _ =>
   exact (DefineOnlyX_ok x0 x1 x2 x3 x4 x5 x6 x7 x8 x9 x10 x11 x12 x13 x14 x15 hX h0 ((df_hol _ _ _ _ _ _ _ _ _ _ _ _ _ _ _ _).1 hho) hH').le (LeL.cons (AV.Le.slMap (enc := eZ) (f := zOf)) LeL.nil) (AV.Le.refl _)
 ·exact direct hbe
end Go.Proofs.YtcaecieigoplbaaGreat

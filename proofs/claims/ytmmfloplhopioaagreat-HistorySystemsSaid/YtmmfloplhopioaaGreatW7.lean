/- Part 7 of a proof layer and of the contracts of the functions. -/
import Derived.Laws.Strings
import Derived.Laws.Strings2
import Derived.Laws.Concat
import Derived.Laws.IdiomStrings
import Derived.Laws.StructEq
import Derived.Deep.Strs
import Derived.Lib.SmallJoins
import Derived.Test.YtmmfloplhopioaaGreatW6
set_option linter.unusedVariables false
set_option linter.unusedSimpArgs false
/- The values of a history's links: how large they are. Plain. -/
namespace Go.AL
theorem ds_le {Q c : Nat} : ∀ {n : Nat} {d : Nat → Nat}, (∀ t, t < n → d t ≤ c) → ds Q n d ≤ c * ds Q n fun _ => 1
 | 0, _, _ => by simp [ds]
 | n + 1, d, h => by
  have h0 := h 0 (by omega);have ih := ds_le (Q := Q) (n := n) (d := fun t => d (t + 1)) fun t ht => h (t + 1) (by omega);have k := Nat.mul_le_mul_left Q ih;rw [ds, ds, Nat.mul_add, Nat.mul_one]
  have e : Q * (c * ds Q n fun _ => 1) = c * (Q * ds Q n fun _ => 1) := by
   rw [← Nat.mul_assoc, ← Nat.mul_assoc, Nat.mul_comm Q c]
  omega
section
variable {m : MZ} {x X : List Int}
structure HB (m : MZ) (X : List Int) (Q I W : Int) : Prop where
  len : X.length = m.V
  nn : ∀ y ∈ X, 0 ≤ y
  q2 : 2 ≤ Q
  i1 : 1 ≤ I
  qi : Q * I ≤ 2 * W
  x0 : X.getD 0 0 ≤ 4096
  x1 : 2 * X.getD 1 0 = Q
  x2 : X.getD 2 0 = I
  xl : ∀ i, i < m.l → X.getD (3 + i) 0 ≤ I
  xr : ∀ j, j < m.R → X.getD (3 + m.l + j) 0 ≤ 4096 * I
  xe : ∀ j, j < m.R → X.getD (3 + m.l + m.R + j) 0 ≤ 4096
theorem nn_get (h0 : ∀ y ∈ X, 0 ≤ y) (i : Nat) : 0 ≤ X.getD i 0 := by
 rw [List.getD_eq_getElem?_getD]
 cases h : X[i]? with
 | none => simp
 | some y => exact h0 y (List.mem_of_getElem? h)
variable {Q I W : Int}
theorem HB.le (h : HB m X Q I W) : I ≤ W ∧ Q ≤ 2 * W ∧ 1 ≤ W := by
 have h1 := h.q2;have h2 := h.i1;have h3 := h.qi;have k1 : 2 * I ≤ Q * I := Int.mul_le_mul_of_nonneg_right h1 (by omega);have k2 : Q * 1 ≤ Q * I := Int.mul_le_mul_of_nonneg_left h2 (by omega);omega
theorem auvQ (h : HB m X Q I W) (h6 : 6 ≤ m.V) : auv X (hsQ m.V) ≤ Q := by
 unfold hsQ;rw [BC (SzU.con m.V 2)];refine Int.le_trans (auv_mul X (SzU.con m.V 2) (AN (V := m.V) (i := 1) (by omega)) (by omega) (by omega)) ?_;rw [auv_con, CY h.len (by omega) h.nn, show ((2 : Int).natAbs : Int) = 2 from rfl, h.x1];exact Int.le_refl _
theorem mul_le_both {a b c d : Int} (h1 : a ≤ c) (h2 : b ≤ d) (h3 : 0 ≤ b) (h4 : 0 ≤ c) : a * b ≤ c * d :=
 Int.le_trans (Int.mul_le_mul_of_nonneg_right h1 h3) (Int.mul_le_mul_of_nonneg_left h2 h4)
theorem auvMul {V d c n d' c' n' : Nat} {p q : List UT} {A B : Int} (hp : SzU V d c n p) (hq : SzU V d' c' n' q) (h1 : d ≤ 120) (h2 : d' ≤ 120) (ha : auv X p ≤ A) (hb : auv X q ≤ B) (h0 : 0 ≤ A) : auv X (An p q) ≤ A * B :=
 Int.le_trans (auv_mul X hp hq h1 h2) (mul_le_both ha hb (auv_nn X q) h0)
theorem auvAdd {p q : List UT} {A B : Int} (ha : auv X p ≤ A) (hb : auv X q ≤ B) : auv X (addL p q) ≤ A + B := by
 have := auv_add X p q;omega
theorem auvSub {p q : List UT} {A B : Int} (ha : auv X p ≤ A) (hb : auv X q ≤ B) : auv X (subL p q) ≤ A + B := by
 have := auv_sub X p q;omega
theorem auvAll (h : HB m X Q I W) (h6 : 6 ≤ m.V) : auv X (Bi m.V) ≤ 1 + (Q + 1) * I := by
 have a := (BM h6).1;have b := a.sub (SzU.con m.V 1);have v := AN (V := m.V) (i := 2) (by omega);have q2 := h.q2;unfold Bi;rw [BC b, CC (SzU.con m.V 1) (b.mul v)];refine auvAdd (by rw [auv_con]; omega) (auvMul b v (by omega) (by omega) (auvSub (auvQ h h6) (by rw [auv_con]; omega)) ?_ (by omega));rw [CY h.len (by omega) h.nn, h.x2]; omega
theorem auvSum (h : HB m X Q I W) (c : IZ → Bool) : ∀ (xs : List IZ) {i : Nat} {acc : List UT} {k n : Nat}, SzU m.V 1 k n acc → i + xs.length ≤ m.l → auv X (Ag m.V c i xs acc) ≤ auv X acc + xs.length * I
 | [], i, acc, k, n, _, _ => by simp [Ag]
 | y :: ys, i, acc, k, n, ha, hi => by
  rw [List.length_cons] at hi;have hVe : m.V = 3 + m.l + 2 * m.R := rfl;have v := AN (V := m.V) (i := 3 + i) (by omega);have i1 := h.i1;rw [Ag, List.length_cons, show ((ys.length + 1 : Nat) : Int) * I = ys.length * I + I by rw [Int.natCast_add, Int.add_mul]; simp];split
  ·have hs : SzU m.V 1 (k + 1) (n + 1) (addL acc (varU m.V (3 + i))) := (ha.add v).mono (by omega) (by omega) (by omega);rw [CC ha v];have ih := auvSum h c ys (i := i + 1) hs (by omega);have e := auvAdd (X := X) (Int.le_refl (auv X acc)) (q := varU m.V (3 + i)) (B := I) (by rw [CY h.len (by omega) h.nn]; exact h.xl i (by omega));omega
  ·have ih := auvSum h c ys ha (i := i + 1) (by omega);omega
theorem auvSum0 (h : HB m X Q I W) (ok : OkMZ m) (c : IZ → Bool) : auv X (Ag m.V c 0 m.code (conU m.V 0)) ≤ 15 * I := by
 have e := auvSum h c m.code (i := 0) (SzU.con m.V 0 |>.mono (d' := 1) (by omega) (Nat.le_refl _) (Nat.le_refl _)) (by show 0 + m.code.length ≤ m.code.length; omega);rw [auv_con] at e;have hl : m.code.length ≤ 15 := ok.l15;have i1 := h.i1;have : (m.code.length : Int) * I ≤ 15 * I := Int.mul_le_mul_of_nonneg_right (by omega) (by omega);simp only [Int.natAbs_zero] at e;omega
theorem auvHere (h : HB m X Q I W) (h6 : 6 ≤ m.V) {i : Nat} (hi : i < m.l) : auv X (Af m i) ≤ Q * I := by
 have a := (BM h6).1;have hVe : m.V = 3 + m.l + 2 * m.R := rfl;have v := AN (V := m.V) (i := 3 + i) (by omega);have q2 := h.q2;unfold Af;rw [BC a];exact auvMul a v (by omega) (by omega) (auvQ h h6) (by rw [CY h.len (by omega) h.nn]; exact h.xl i hi) (by omega)
theorem auvDoes (h : HB m X Q I W) (ok : OkMZ m) (op : Int) (j : Nat) : auv X (BA m op j) ≤ 15 * (Q * I) := by
 have a := (BM ok.V6).1;have q2 := h.q2;unfold BA;rw [BC a];have := auvMul (X := X) a (DG ok (fun x => decide (x.op = op) && decide (x.rg = j))) (by omega) (by omega) (auvQ h ok.V6) (auvSum0 h ok _) (by omega);refine Int.le_trans this (Int.le_of_eq ?_);rw [← Int.mul_assoc, Int.mul_comm Q 15, Int.mul_assoc]
theorem auvL (h : HB m X Q I W) (ok : OkMZ m) {j : Nat} (hj : j < m.R) : auv X (hsL m j) ≤ 4096 * I + 4096 * (1 + (Q + 1) * I) := by
 have hVe : m.V = 3 + m.l + 2 * m.R := rfl;have a := AN (V := m.V) (i := 3 + m.l + j) (by omega);have b := AN (V := m.V) (i := 3 + m.l + m.R + j) (by omega);have c := (Co ok.V6).1;unfold hsL;rw [BC b, CC a (b.mul c)];refine auvAdd (by rw [CY h.len (by omega) h.nn]; exact h.xr j hj) (auvMul b c (by omega) (by omega) (by rw [CY h.len (by omega) h.nn]; exact h.xe j hj) (auvAll h ok.V6) (by omega))
theorem auvR0 (h : HB m X Q I W) (ok : OkMZ m) (hx : OkIn m x) {j : Nat} (hj : j < m.R) : auv X (hsR0 m x j) ≤ 1000 + 4096 * (Q * I) + 15 * (Q * I) := by
 have hVe : m.V = 3 + m.l + 2 * m.R := rfl;have hb := getD_in hx j;have a := SzU.con m.V (x.getD j 0);have q := (BM ok.V6).1;have v := AN (V := m.V) (i := 3 + m.l + j) (by omega);have d := sz_does ok 0 j;have q2 := h.q2;unfold hsR0;rw [BC q, sums3 a (q.mul v) d];refine auvAdd (auvAdd (by rw [auv_con]; omega) ?_) (auvDoes h ok 0 j);have := auvMul (X := X) q v (by omega) (by omega) (auvQ h ok.V6) (B := 4096 * I) (by rw [CY h.len (by omega) h.nn]; exact h.xr j hj) (by omega);refine Int.le_trans this (Int.le_of_eq ?_);rw [← Int.mul_assoc, Int.mul_comm Q 4096, Int.mul_assoc]
theorem hs_auv (h : HB m X Q I W) (ok : OkMZ m) (hx : OkIn m x) : ∀ k ∈ hsK m x, ∀ p ∈ k.2, auv X p ≤ 65536 * W := by
 obtain ⟨w1, w2, w3⟩ := h.le;obtain ⟨s1, s2, s3⟩ := addZ_b ok hx;have hV6 := ok.V6;have hVe : m.V = 3 + m.l + 2 * m.R := rfl;have q2 := h.q2;have i1 := h.i1;have qi := h.qi;have qi0 : 0 ≤ Q * I := Int.mul_nonneg (by omega) (by omega)
 have q1 : (Q + 1) * I = Q * I + I := by rw [Int.add_mul, Int.one_mul]
 have vl := fun i (hi : i < m.l) => show auv X (varU m.V (3 + i)) ≤ I by rw [CY h.len (by omega) h.nn]; exact h.xl i hi
 have vr := fun j (hj : j < m.R) => show auv X (varU m.V (3 + m.l + j)) ≤ 4096 * I by rw [CY h.len (by omega) h.nn]; exact h.xr j hj
 have v0 : auv X (varU m.V 0) ≤ 4096 := by rw [CY h.len (by omega) h.nn]; exact h.x0
 have v1 : auv X (varU m.V 1) ≤ Q := by rw [CY h.len (by omega) h.nn]; have := h.x1; have := nn_get h.nn 1; omega
 have v2 : auv X (varU m.V 2) ≤ I := by rw [CY h.len (by omega) h.nn, h.x2]; omega
 have cc := fun k : Int => auv_con X m.V k
 have sadd : ∀ k : Int, 0 ≤ k → k ≤ 5000 → auv X (Al [] [varU m.V 0, conU m.V k]) ≤ 65536 * W := fun k k0 k1 => by
  rw [CC (AN (V := m.V) (i := 0) (by omega)) (SzU.con m.V k)];have := auvAdd v0 (Int.le_of_eq (cc k));omega
 have aQ := auvQ h hV6;have aA := auvAll h hV6;have aS := fun c => auvSum0 h ok c;rw [q1] at aA;intro l hl;simp only [hsK, List.mem_append, List.mem_map, List.mem_flatMap, List.mem_range] at hl;rcases hl with ((((hl | ⟨i, hi, rfl⟩) | hl) | ⟨j, hj, rfl⟩) | ⟨i, hi, hl⟩) | ⟨j, hj, rfl⟩
 ·simp only [hsA, List.mem_cons, List.not_mem_nil, or_false] at hl;rcases hl with rfl | rfl | rfl
  ·simp only [List.forall_mem_cons];exact ⟨by rw [cc]; omega, sadd _ (by omega) (by omega), by omega, by simp⟩
  ·simp only [List.forall_mem_cons];exact ⟨by omega, sadd 1 (by omega) (by omega), by omega, by simp⟩
  ·simp only [List.forall_mem_cons];exact ⟨by have := auvSub v2 (aS fun _ => true); omega, by simp⟩
 ·unfold hsB;simp only [List.forall_mem_cons];exact ⟨by have := vl i hi; omega, by omega, by simp⟩
 ·simp only [hsC, List.mem_cons, List.not_mem_nil, or_false] at hl;rcases hl with rfl | rfl
  ·simp only [List.forall_mem_cons];exact ⟨by rw [cc]; omega, by have := vl 0 ok.l1; simp only [Nat.add_zero] at this; omega, by simp⟩
  ·simp only [List.forall_mem_cons];exact ⟨by omega, by omega, by have := aS fun x => decide (x.op = 3); omega, by simp⟩
 ·unfold hsD;simp only [List.forall_mem_cons];refine ⟨by have := vr j hj; omega, ?_, by simp⟩;have a := (AN (V := m.V) (i := 1) (by omega)).sub (SzU.con m.V 1);rw [BC a];have := auvMul a (AN (V := m.V) (i := 2) (by omega)) (by omega) (by omega) (auvSub v1 (Int.le_of_eq (cc 1))) v2 (by omega);have e : (Q + ((1 : Int).natAbs : Int)) * I = Q * I + I := q1;omega
 ·have hh := auvHere h hV6 hi;unfold hsGo at hl;split at hl
  ·simp at hl
  ·rename_i h3;rcases ok.ins i hi with k | ⟨⟨a1, a2⟩, ⟨b1, b2⟩, k⟩
   ·rw [k] at h3; exact absurd rfl h3
   have hR : ((m.R : Nat) : Int) = m.regs := by have := ok.r1; show ((m.regs.toNat : Nat) : Int) = _; omega
   have hb2 : (m.at i).nx < (m.l : Int) := b2;split at hl
   ·rename_i h2
    have hz : 0 ≤ (m.at i).zr ∧ (m.at i).zr < m.l := by
     rcases k with k | k
     ·exact ⟨k.2.1, k.2.2.1⟩
     ·omega
    simp only [List.mem_cons, List.not_mem_nil, or_false] at hl;have vn := AN (V := m.V) (i := 3 + (m.at i).nx.toNat) (by omega);have vz := AN (V := m.V) (i := 3 + (m.at i).zr.toNat) (by omega);have vrr := AN (V := m.V) (i := 3 + m.l + (m.at i).rg.toNat) (by omega);have vv2 := AN (V := m.V) (i := 2) (by omega);have q := (BM hV6).1;have un := vl (m.at i).nx.toNat (by omega);have uz := vl (m.at i).zr.toNat (by omega);have ur := vr (m.at i).rg.toNat (by omega);rcases hl with rfl | rfl
    ·simp only [List.forall_mem_cons];refine ⟨by omega, ?_, by simp⟩;rw [CC vn vz];have := auvAdd un uz;omega
    ·simp only [List.forall_mem_cons];refine ⟨by omega, ?_, by simp⟩;have e1 := q.mul vv2;unfold Cs;rw [BC q, BC (SzU.con m.V 2), CC vn e1];have k1 := auvMul (X := X) q vv2 (by omega) (by omega) aQ v2 (by omega);have k2 := auvMul (X := X) (SzU.con m.V 2) vrr (by omega) (by omega) (Int.le_of_eq (cc 2)) ur (by omega);have := auvSub (auvAdd un k1) k2
     have e : ((2 : Int).natAbs : Int) * (4096 * I) = 8192 * I := by rw [← Int.mul_assoc]; rfl
     omega
   ·simp only [List.mem_cons, List.not_mem_nil, or_false] at hl;subst hl;simp only [List.forall_mem_cons];exact ⟨by omega, by have := vl (m.at i).nx.toNat (by omega); omega, by simp⟩
 ·unfold hsF;simp only [List.forall_mem_cons];refine ⟨?_, by simp⟩;have k1 := auvL h ok hj;have k2 := auvR0 h ok hx hj;have k3 := auvDoes h ok 1 j;have := auvSub k1 (auvSub k2 k3);rw [q1] at this;omega
theorem fit_pow {v : Int} {e : Nat} (h : v.natAbs < 2 ^ e) (he : e ≤ 131072) : Fit v := by
 refine Fit.mk ?_;obtain ⟨E, hE⟩ : ∃ E, E = 32 * 4096 := ⟨_, rfl⟩;have h1 : 2 ^ e ≤ 2 ^ E := Nat.pow_le_pow_right (by omega) (by omega);rw [BB_pow, ← hE]
 have h2 : (2 : Int) ^ E = ((2 ^ E : Nat) : Int) := by rw [Int.natCast_pow]; rfl
 rw [h2];omega
theorem hist_hb (ok : OkMZ m) (hx : OkIn m x) {s : Nat} {pl : Nat → Nat} {r : Nat → Nat → Nat} (hs : s ≤ 3000) (hr : ∀ t j, t ≤ s → r t j ≤ 4096) : HB m (BR m x s pl r) (2 * 2 ^ (s + (addZ m x).toNat) : Nat) (ds (2 * 2 ^ (s + (addZ m x).toNat)) (s + 1) fun _ => 1 : Nat) (2 ^ ((s + (addZ m x).toNat + 1) * (s + 1)) : Nat) := by
 obtain ⟨g0, g1, g2, g3, g4, g5⟩ := histL_get (m := m) (x := x) s pl r;obtain ⟨H, eH⟩ : ∃ H, H = 2 ^ (s + (addZ m x).toNat) := ⟨_, rfl⟩
 have hH : 1 ≤ H := by rw [eH]; exact Nat.one_le_two_pow
 have e := ds_ones (Q := 2 * H) (by omega) (s + 1)
 have eW : (2 * H) ^ (s + 1) = 2 ^ ((s + (addZ m x).toNat + 1) * (s + 1)) := by
  rw [eH, show 2 * 2 ^ (s + (addZ m x).toNat) = 2 ^ (s + (addZ m x).toNat + 1) by rw [Nat.pow_succ]; omega, ← Nat.pow_mul]
 rw [← eW, ← eH];rw [← eH] at g1 g2 g3 g4
 have i1 : 1 ≤ ds (2 * H) (s + 1) fun _ => 1 := by rw [ds]; omega
 refine ⟨histL_len _ _ _, histL_nn _ _ _, by omega, by omega, ?_, by rw [g0]; omega, by rw [g1]; omega, by rw [g2], fun i hi => ?_, fun j hj => ?_, fun j hj => ?_⟩
 ·have k : (2 * H - 1) * (ds (2 * H) (s + 1) fun _ => 1) = 2 * H * (ds (2 * H) (s + 1) fun _ => 1) - (ds (2 * H) (s + 1) fun _ => 1) := by rw [Nat.sub_mul, Nat.one_mul]
  have k2 : 2 * (ds (2 * H) (s + 1) fun _ => 1) ≤ 2 * H * (ds (2 * H) (s + 1) fun _ => 1) := Nat.mul_le_mul_right _ (by omega);rw [← Int.natCast_mul];omega
 ·rw [g3 i hi]
  have := ds_le (Q := 2 * H) (c := 1) (n := s + 1) (d := plD pl i) fun t _ => by unfold plD; split <;> omega
  omega
 ·rw [g4 j hj];have := ds_le (Q := 2 * H) (c := 4096) (n := s + 1) (d := fun t => r t j) fun t ht => hr t j (by omega);omega
 ·rw [g5 j hj];have := hr s j (Nat.le_refl _);omega
theorem hist_ev (ok : OkMZ m) (hx : OkIn m x) {s : Nat} {pl : Nat → Nat} {r : Nat → Nat → Nat} (hs : s ≤ 3000) (hr : ∀ t j, t ≤ s → r t j ≤ 4096) (hsz : (s + (addZ m x).toNat + 1) * (s + 1) ≤ 131032) : ∀ l ∈ (hsS m x).links, EvL (BR m x s pl r) l := by
 have hb := hist_hb (pl := pl) ok hx hs hr;have ha := hs_auv hb ok hx;have hsm := Cz ok hx;intro l hl;obtain ⟨k, hk, rfl⟩ := List.mem_map.1 hl;have hV := ok.V32;refine evL_linkU hb.len (fun p hp u hu => ?_) fun p hp => ?_
 ·have q := ((hsm k hk).2.2 p hp).ex u hu;exact ⟨q.1, (ex_ok (d := 4) (by omega) q).2.2⟩
 ·have a1 := ha k hk p hp;have a2 := auv_nn (BR m x s pl r) p;refine fit_pow (e := (s + (addZ m x).toNat + 1) * (s + 1) + 17) ?_ (by omega)
  have : 2 ^ ((s + (addZ m x).toNat + 1) * (s + 1) + 17) = 131072 * 2 ^ ((s + (addZ m x).toNat + 1) * (s + 1)) := by
   rw [Nat.pow_add]; exact Nat.mul_comm _ _
  rw [this];have : 1 ≤ 2 ^ ((s + (addZ m x).toNat + 1) * (s + 1)) := Nat.one_le_two_pow;omega
end
end Go.AL
/- Validity of any many numbers. -/
namespace Go.Proofs.YtmmfloplhopioaaGreat
open Go.AL
end Go.Proofs.YtmmfloplhopioaaGreat
/- history's encode. -/
namespace Go.AL
abbrev hL (m : MZ) (x : List Int) (s : Nat) : List Int := BR m x s (fun t => (m.mach.F (inF x) t).1) (fun t => (m.mach.F (inF x) t).2)
theorem EL {l : List Int} {i k : Nat} {v : Int} (hi : i < l.length) : (l.set i v).getD k 0 = if k = i then v else l.getD k 0 := by
 rw [List.getD_eq_getElem?_getD, List.getElem?_set];by_cases h : i = k
 ·subst h;rw [if_pos rfl, if_pos hi, if_pos rfl]; rfl
 ·rw [if_neg h, if_neg (fun e => h e.symm), List.getD_eq_getElem?_getD]
theorem ext_getD {a b : List Int} (h : a.length = b.length) (hk : ∀ k, k < a.length → a.getD k 0 = b.getD k 0) : a = b := by
 refine List.ext_getElem? fun i => ?_;by_cases hi : i < a.length
 ·have := hk i hi;rw [List.getD_eq_getElem?_getD, List.getD_eq_getElem?_getD, List.getElem?_eq_getElem hi, List.getElem?_eq_getElem (by omega)] at this;rw [List.getElem?_eq_getElem hi, List.getElem?_eq_getElem (by omega)];exact congrArg some this
 ·rw [List.getElem?_eq_none (by omega), List.getElem?_eq_none (by omega)]
theorem stL_map {m : MZ} {x : List Int} {n : Nat} {f : Int × List Int → Int} {d : Nat → Nat} (h : ∀ t, t < n → f (stF m x t) = ((d t : Nat) : Int)) : (stL m x n).map f = rgL n d := by
 unfold stL rgL;rw [List.map_map];exact List.map_congr_left fun t ht => h t (List.mem_range.1 ht)
end Go.AL
namespace Go.Proofs.YtmmfloplhopioaaGreat
open Go.AL
abbrev eB1 (h : Nat) (L : List (Int × List Int)) (xs : List Int) : List (AL.Id × Bx) := [(900, .cells [aN h] 3), (901, .cells [.sl 2 eSt L] 30), (902, .cells [.row 903] 33), (903, .row 2 eX xs 48)]
theorem put_ok (g : FuncId) (f : Int × List Int → Int) (n : Nat) (d : Nat → Nat) (h : Nat) (L : List (Int × List Int)) (xs : List Int) (i : Nat) (hi : i < xs.length) (hg : ∀ c, PureFn Tryz.prog g [aSt c.1 c.2] (aN (f c))) (hm : L.map f = rgL n d) (hh : h ≤ 200000) (hn : n ≤ 1000000) (hL : L.length ≤ 1000000) (hnb : n * (h + 1) ≤ 3000000) (hd : ∀ t, t < n → d t < 2 ^ 41 ∧ d t < 2 ^ (h + 1)) :
  IoFn Tryz.prog 90 ([aN i, .fn g []] ++ [.ptr 900 0, .ptr 901 0, .ptr 902 0]) (eB1 h L xs) (.ret (.tup [])) (eB1 h L (xs.set i ((ds (2 ^ (h + 1)) n d : Nat) : Int))) := by
 refine AG Tryz.func90 rfl Tryz.ntmps90 rfl rfl rfl ?_;have c1 := hColumn_ok g f L hL hg;rw [hm] at c1;have c2 := digits_ok (h + 1) n d (by omega) hn hnb hd;(repeat' (first |refine qv ?_ |apply qr |refine qw ?_|fail));refine qc (c1) ?_;refine qc (c2) ?_;(repeat' (first |refine Fl.nil (fun _ => by kernel_rfl) ?_ |refine BN rfl rfl rfl rfl rfl rfl rfl rfl (by omega) (by first | omega | (simp; omega)) ?_ |refine Bd rfl rfl rfl rfl rfl rfl rfl rfl rfl rfl rfl (AB _) rfl (by first | omega | (simp; omega)) ?_|fail));exact ⟨⟨[], _, _, AK _ _ _, rfl, AA _, rfl, ⟨⟨⟨_, rfl, BLe.cells (AB _)⟩, rfl⟩, ⟨⟨_, rfl, BLe.cells (AB _)⟩, rfl⟩, ⟨⟨_, rfl, BLe.cells (AB _)⟩, rfl⟩, ⟨⟨_, rfl, BLe.row rfl⟩, rfl⟩, trivial⟩, rfl, rfl⟩⟩
abbrev eB2 (i0 : Nat) (h : Nat) (L : List (Int × List Int)) (xs : List Int) : List (AL.Id × Bx) := eB1 h L xs ++ nB1 i0
theorem put1_ok (g : FuncId) (i0 : Nat) (f : Int × List Int → Int) (n : Nat) (d : Nat → Nat) (h : Nat) (L : List (Int × List Int)) (xs : List Int) (i : Nat) (hi : i < xs.length) (hg : ∀ c ∈ L, IoFn Tryz.prog g ([aSt c.1 c.2] ++ [.ptr 904 0]) (nB1 i0) (.ret (aN (f c))) (nB1 i0)) (hm : L.map f = rgL n d) (hh : h ≤ 200000) (hn : n ≤ 1000000) (hL : L.length ≤ 1000000) (hnb : n * (h + 1) ≤ 3000000) (hd : ∀ t, t < n → d t < 2 ^ 41 ∧ d t < 2 ^ (h + 1)) :
  IoFn Tryz.prog 90 ([aN i, .fn g [.ptr 904 0]] ++ [.ptr 900 0, .ptr 901 0, .ptr 902 0]) (eB2 i0 h L xs) (.ret (.tup [])) (eB2 i0 h L (xs.set i ((ds (2 ^ (h + 1)) n d : Nat) : Int))) := by
 refine AG Tryz.func90 rfl Tryz.ntmps90 rfl rfl rfl ?_;have c1 := hColumn1_ok g i0 f L hL hg;rw [hm] at c1;have c2 := digits_ok (h + 1) n d (by omega) hn hnb hd;(repeat' (first |refine qv ?_ |apply qr |refine qw ?_|fail));refine Fl.ioR rfl [] c1 rfl rfl (AB _) rfl ⟨⟨⟨_, rfl, BLe.cells (AB _)⟩, rfl⟩, trivial⟩ ⟨rfl, trivial⟩ rfl rfl rfl rfl ?_;refine qc (c2) ?_;(repeat' (first |refine Fl.nil (fun _ => by kernel_rfl) ?_ |refine BN rfl rfl rfl rfl rfl rfl rfl rfl (by omega) (by first | omega | (simp; omega)) ?_ |refine Bd rfl rfl rfl rfl rfl rfl rfl rfl rfl rfl rfl (AB _) rfl (by first | omega | (simp; omega)) ?_|fail));exact ⟨⟨[], _, _, AK _ _ _, rfl, AA _, rfl, ⟨⟨⟨_, rfl, BLe.cells (AB _)⟩, rfl⟩, ⟨⟨_, rfl, BLe.cells (AB _)⟩, rfl⟩, ⟨⟨_, rfl, BLe.cells (AB _)⟩, rfl⟩, ⟨⟨_, rfl, BLe.row rfl⟩, rfl⟩, ⟨⟨_, rfl, BLe.cells (AB _)⟩, rfl⟩, trivial⟩, rfl, rfl⟩⟩
theorem chValidH_ok (X : List Int) (hl : X.length ≤ 1000000000) (b : Bool) (hb : b = true ↔ ∀ y ∈ X, Fit y) : PureFn Tryz.prog 49 [.sl 2 eX X] (aB b) := by
 refine (chValid_ok (X.map zOf) (fun z hz => ?_) (by rw [List.length_map]; omega)).le (LeL.cons (D7 (enc := eZ) (f := zOf)) LeL.nil) (AV.Le.bool ?_)
 ·obtain ⟨x, hx, rfl⟩ := List.mem_map.1 hz; exact Am _
 ·refine dec_of hb ⟨fun h y hy => ?_, fun h z hz => ?_⟩
  ·have := (okZ_eq (z := zOf y) (Am _) (h _ (List.mem_map.2 ⟨y, hy, rfl⟩))).2;rwa [A0] at this
  ·obtain ⟨x, hx, rfl⟩ := List.mem_map.1 hz; exact Dq (h x hx)
set_option maxHeartbeats 2000000 in
theorem encode_ok (m : MZ) (hm : OkMZ m) (x : List Int) (hx : OkIn m x) (s : Nat) (hg1 : (s + (addZ m x).toNat + 1) * s + 1 ≤ 131072) (hg2 : s + (addZ m x).toNat + 1 ≤ 131072) (h1 : ∀ t, t < s → ¬ m.mach.Over (m.mach.F (inF x) t)) (b : Bool) (hb : b = true ↔ ∀ y ∈ hL m x s, Fit y) : PureFn Tryz.prog 46 [aSz m x, aN s] (.tup [.sl 2 eX (hL m x s), aB b]) := by
  refine AC Tryz.func46 rfl Tryz.ntmps46 rfl rfl ?_;obtain ⟨s1, s2, s3⟩ := addZ_b hm hx;have hV := hm.V32;have hVe : m.V = 3 + m.l + 2 * m.R := rfl;have hl15 : m.code.length ≤ 15 := hm.l15;have hll : m.l = m.code.length := rfl;have hr1 := hm.r1;have hr4 := hm.r4;have hRe := D0 hm;have hst := hStates_ok m hm x hx s (by omega) h1;have hlt := Mach.F_lt hm.mach (inF x) h1
  have hbd : ∀ t j, t ≤ s → (m.mach.F (inF x) t).2 j ≤ 1000 + s := fun t j ht => by
    have := m.mach.F_le (x := inF x) j t;have := inF_le hx j;omega
  have hbdx : ∀ t j, t ≤ s → (m.mach.F (inF x) t).2 j ≤ inF x j + s := fun t j ht => by
    have := m.mach.F_le (x := inF x) j t;omega
  obtain ⟨a, ea⟩ : ∃ a : Nat, addZ m x = a := ⟨(addZ m x).toNat, by omega⟩;have ea' : (m.l : Int) + sumL x = a := ea
  have hin : ∀ j, j < m.R → inF x j ≤ a := fun j hj => by
    have := (in_le hm hx).2 j hj;rw [ea, Int.toNat_natCast] at this;exact this
  obtain ⟨g0, g1, g2, g3, g4, g5⟩ := histL_get (m := m) (x := x) s (fun t => (m.mach.F (inF x) t).1) (fun t => (m.mach.F (inF x) t).2);have hHl := histL_len (m := m) (x := x) s (fun t => (m.mach.F (inF x) t).1) (fun t => (m.mach.F (inF x) t).2);obtain ⟨H, eH⟩ : ∃ H, H = hL m x s := ⟨_, rfl⟩;unfold hL at eH;rw [← eH] at g0 g1 g2 g3 g4 g5 hHl;rw [ea, Int.toNat_natCast] at hg1 hg2 g1 g2 g3 g4;rw [show 2 * 2 ^ (s + a) = 2 ^ (s + a + 1) by rw [Nat.pow_succ]; omega] at g2 g3 g4;have hv := chValidH_ok H (by omega) b (by rw [eH]; exact hb);show AWP _ _ _ _ _ _
  have hres : (AV.tup [.sl 2 eX (hL m x s), aB b]) = .tup [.sl 2 eX H, aB b] := by rw [eH]
  rw [hres];rw [ea] at s1 s2
  have hp : ((s : Int) + (a : Int) + 1) * (s : Int) = (((s + a + 1) * s : Nat) : Int) := by rw [Int.natCast_mul]; rfl
  have hnb : (s + 1) * (s + a + 1) ≤ 3000000 := by rw [Nat.add_mul, Nat.one_mul, Nat.mul_comm s]; omega
  have hsz : aSz m x = .agg [aN m.regs, .sl 4 eIz m.code, aI x, aN m.V, aN (a : Int)] := by show AV.agg [_, _, _, _, aN (addZ m x)] = _; rw [ea]
  have cL : ∀ i : Nat, i ≤ 1000 → PureFn Tryz.prog 96 [.agg [aN m.regs, .sl 4 eIz m.code, aI x, aN m.V, aN (a : Int)], aN i] (aN ((3 + i : Nat) : Int)) := fun i hi => hsz ▸ Bp m x i hi;have cR : ∀ i : Nat, i ≤ 1000 → PureFn Tryz.prog 98 [.agg [aN m.regs, .sl 4 eIz m.code, aI x, aN m.V, aN (a : Int)], aN i] (aN ((3 + m.l + i : Nat) : Int)) := fun i hi => hsz ▸ szReg_ok m x i (by omega) hi;have cE : ∀ i : Nat, i ≤ 1000 → PureFn Tryz.prog 100 [.agg [aN m.regs, .sl 4 eIz m.code, aI x, aN m.V, aN (a : Int)], aN i] (aN ((3 + m.l + m.R + i : Nat) : Int)) := fun i hi => hsz ▸ szEnd_ok m x i (by omega) (by omega) hr4 hi;rw [hsz] at hst ⊢;have hbig : ∀ v : Nat, v ≤ s + a → v < 2 ^ (s + a + 1) := fun v h => Nat.lt_of_lt_of_le (Nat.lt_of_le_of_lt h Nat.lt_two_pow_self) (Nat.pow_le_pow_right (by omega) (by omega))
  have h41 : ∀ v : Nat, v ≤ 1000000 → v < 2 ^ 41 := fun v h => by have : (1000000 : Nat) < 2 ^ 41 := by decide
                                                                  omega
  have hF2 : Fit ((2 : Int) ^ (s + a)) := by
    refine fit_pow (e := s + a + 1) ?_ hg2
    have : ((2 : Int) ^ (s + a)) = ((2 ^ (s + a) : Nat) : Int) := by rw [Int.natCast_pow]; rfl
    rw [this, Int.natAbs_natCast];exact Nat.pow_lt_pow_right (by omega) (by omega)
  have cP := Power_ok 2 ((s + a : Nat) : Int) (fit_pow (e := 2) (by decide) (by omega)) (by omega) (by omega);rw [Int.toNat_natCast, Er hF2] at cP;have hlL := stL_len m x (s + 1);have hgetS : (stL m x (s + 1))[s]? = some (stF m x s) := stL_get (by omega)
  generalize hmu : (s + a + 1) * s = p at *
  refine AE ?_;(repeat' (first |refine qv ?_ |apply qn |apply qr |refine qe ?_|fail));refine ⟨AE ?_⟩;(repeat' (first |refine qv ?_ |apply qn |apply qr |refine qw ?_ |refine qe ?_|fail));refine ⟨AE ?_⟩;(repeat' (first |refine qv ?_ |apply qn |apply qs |apply qr |refine qw ?_ |(refine AD rfl ?_ ?_ <;> intro _ <;> try (exfalso; omega)) |apply qk |(refine AJ rfl rfl ?_ ?_ <;> intro _ <;> try (exfalso; omega))));refine ⟨AE ?_⟩;(repeat' (first |refine qv ?_ |apply qr));refine qc (hst) ?_;(repeat' (first |apply qn |refine qe ?_|fail));refine ⟨AE ?_⟩;(repeat' (first |refine qv ?_ |apply qr));refine CA rfl rfl rfl rfl rfl rfl rfl rfl rfl rfl eX 0 (by exact EE (σ := []) rfl) (by rfl) (by omega) (by dsimp only; omega) (by omega) ?_;(repeat' (first |apply qn |refine qe ?_|fail));refine ⟨AE ?_⟩;(repeat' (first |refine qv ?_ |apply qn |apply qr));refine ⟨AE ?_⟩;(repeat' (first |refine qv ?_ |apply qr));refine qc (Ce s (by omega) (by omega)) ?_;(repeat' (first |refine Fl.nil (fun _ => by kernel_rfl) ?_ |refine BN rfl rfl rfl rfl rfl rfl rfl rfl (by omega) (by first | omega | (simp; omega)) ?_ |refine Bd rfl rfl rfl rfl rfl rfl rfl rfl rfl rfl rfl (AB _) rfl (by first | omega | (simp; omega)) ?_|fail));refine ⟨AE ?_⟩;(repeat' (first |refine qv ?_ |apply qr));refine qc (Ce 2 (by omega) (by omega)) ?_;(repeat' (first |refine qv ?_|fail));refine Fl.call rfl cP rfl rfl rfl (LeL.cons (AA _) (LeL.cons (AV.Le.int (by omega)) LeL.nil)) ?_;(repeat' (first |refine qv ?_ |refine Fl.nil (fun _ => by kernel_rfl) ?_ |refine BN rfl rfl rfl rfl rfl rfl rfl rfl (by omega) (by first | omega | (simp; omega)) ?_ |refine Bd rfl rfl rfl rfl rfl rfl rfl rfl rfl rfl rfl (AB _) rfl (by first | omega | (simp; omega)) ?_|fail));refine ⟨AE ?_⟩;(repeat' (first |refine qv ?_ |apply qr));have hnb2 : (s + 1) * (s + a + 1) ≤ 3000000 := hnb;have d1 : ∀ t, t < s + 1 → (fun _ => 1 : Nat → Nat) t < 2 ^ 41 ∧ (fun _ => 1 : Nat → Nat) t < 2 ^ (s + a + 1) := fun t _ => ⟨h41 1 (by omega), hbig 1 (by omega)⟩;refine Dl rfl rfl [(900, 6), (901, 7), (902, 8), (903, 32)] (put_ok 95 (fun _ => 1) (s + 1) (fun _ => 1) (s + a) (stL m x (s + 1)) _ 2 (by simp; omega) tell2_ok (stL_map fun _ _ => rfl) (by omega) (by omega) (by omega) hnb2 d1) rfl rfl (AB _) rfl ⟨⟨⟨_, rfl, BLe.cells (AB _)⟩, rfl⟩, ⟨⟨_, rfl, BLe.cells (AB _)⟩, rfl⟩, ⟨⟨_, rfl, BLe.cells (AB _)⟩, rfl⟩, ⟨⟨_, rfl, BLe.row rfl⟩, rfl⟩, trivial⟩ rfl rfl rfl rfl rfl ?_;(repeat' (first |apply qn));refine ⟨AE ?_⟩;(repeat' (first |refine qv ?_ |apply qn |apply qs |apply qr |apply qb));refine AWP.loop (G := Nat × List Int) (fun (i, xs) => i ≤ m.l ∧ xs.length = m.V ∧ ∀ k, k < 3 + i → xs.getD k 0 = H.getD k 0) (fun (i, xs) => AO [] [(1, aN s), (2, .ptr 2 0), (6, .ptr 6 0), (7, .ptr 7 0), (8, .ptr 8 0), (9, .fn 90 [.ptr 6 0, .ptr 7 0, .ptr 8 0]), (51, aN m.l), (52, aN i)] [(2, .cells [aN m.regs, .sl 4 eIz m.code, aI x, aN m.V, aN (a : Int)] 82), (6, .cells [aN (s + a : Nat)] 3), (7, .cells [.sl 2 eSt (stL m x (s + 1))] 30), (8, .cells [.row 801] 33), (801, .row 2 eX xs 48)]) (fun (i, _) => m.l - i) (0, ((((List.replicate m.V 0).set 0 (s : Int)).set 1 ((2 : Int) ^ (s + a))).set 2 ((ds (2 ^ (s + a + 1)) (s + 1) (fun _ => 1) : Nat) : Int))) ⟨by omega, by simp, fun k hk => ?_⟩ ?_ ?_
  · rw [EL (by simp; omega), EL (by simp; omega), EL (by simp; omega)];rcases (show k = 0 ∨ k = 1 ∨ k = 2 by omega) with rfl | rfl | rfl
    · rw [g0]; rfl
    · rw [g1, Int.natCast_pow]; rfl
    · rw [g2]; rfl
  · refine Ent.of [(801, 32)] ?_ ?_ rfl rfl;(repeat' (first |exact True.intro |refine ⟨⟨AA _, rfl⟩, ?_⟩ |refine ⟨⟨⟨_, rfl, BLe.cells (AB _)⟩, rfl⟩, ?_⟩ |refine ⟨⟨⟨_, rfl, BLe.row rfl⟩, rfl⟩, ?_⟩|fail))
  · intro ⟨i, xs⟩ ⟨k0, k1, k2⟩;(repeat' (first |refine qv ?_ |apply qn |apply qs |apply qr |refine qe ?_ |(refine AD rfl ?_ ?_ <;> intro _ <;> try (exfalso; omega)) |apply qb |apply qk |apply qx))
    · rename_i hi;refine qc (cL i (by omega)) ?_;(repeat' (first |refine qv ?_|fail))
      have dl : ∀ t, t < s + 1 → plD (fun t => (m.mach.F (inF x) t).1) i t < 2 ^ 41 ∧ plD (fun t => (m.mach.F (inF x) t).1) i t < 2 ^ (s + a + 1) := fun t _ => by
        have : plD (fun t => (m.mach.F (inF x) t).1) i t ≤ 1 := by unfold plD; split <;> omega
        exact ⟨h41 _ (by omega), hbig _ (by omega)⟩
      refine Dl rfl rfl [(900, 6), (901, 7), (902, 8), (903, 801), (904, 10)] (put1_ok 97 i (fun c => if c.1 = i then 1 else 0) (s + 1) (plD (fun t => (m.mach.F (inF x) t).1) i) (s + a) (stL m x (s + 1)) xs (3 + i) (by omega) (fun c _ => tell3_ok i c) (stL_map fun t _ => by unfold stF plD; simp only; split <;> split <;> omega) (by omega) (by omega) (by omega) hnb2 dl) rfl rfl (AB _) rfl ⟨⟨⟨_, rfl, BLe.cells (AB _)⟩, rfl⟩, ⟨⟨_, rfl, BLe.cells (AB _)⟩, rfl⟩, ⟨⟨_, rfl, BLe.cells (AB _)⟩, rfl⟩, ⟨⟨_, rfl, BLe.row rfl⟩, rfl⟩, ⟨⟨_, rfl, BLe.cells (AB _)⟩, rfl⟩, trivial⟩ rfl rfl rfl rfl rfl ?_;(repeat' (first |refine qv ?_ |apply qn |apply qr |refine qw ?_|fail));refine LoopEnd.of (i + 1, xs.set (3 + i) ((ds (2 ^ (s + a + 1)) (s + 1) (plD (fun t => (m.mach.F (inF x) t).1) i) : Nat) : Int)) ⟨by omega, by rw [List.length_set]; exact k1, fun k hk => ?_⟩ (by simp only; omega) ?_
      · rw [EL (by omega)];split
        · rename_i h; subst h; rw [g3 i (by omega)]
        · exact k2 k (by omega)
      · refine Ent.of [] ?_ ?_ rfl rfl;(repeat' (first |exact True.intro |refine ⟨⟨AA _, rfl⟩, ?_⟩ |refine ⟨⟨⟨_, rfl, BLe.cells (AB _)⟩, rfl⟩, ?_⟩ |refine ⟨⟨⟨_, rfl, BLe.row rfl⟩, rfl⟩, ?_⟩|fail))
    · rename_i hi
      have hi : i = m.l := by omega
      subst hi;refine ⟨AE ?_⟩;(repeat' (first |refine qv ?_ |apply qn |apply qs |apply qr |apply qb));refine AWP.loop (G := Nat × List Int) (fun (j, xs) => j ≤ m.R ∧ xs.length = m.V ∧ ∀ k, k < 3 + m.l + j ∨ (3 + m.l + m.R ≤ k ∧ k < 3 + m.l + m.R + j) → xs.getD k 0 = H.getD k 0) (fun (j, xs) => AO [] [(1, aN s), (2, .ptr 2 0), (6, .ptr 6 0), (7, .ptr 7 0), (8, .ptr 8 0), (9, .fn 90 [.ptr 6 0, .ptr 7 0, .ptr 8 0]), (64, aN m.R), (65, aN j)] [(2, .cells [aN m.regs, .sl 4 eIz m.code, aI x, aN m.V, aN (a : Int)] 82), (6, .cells [aN (s + a : Nat)] 3), (7, .cells [.sl 2 eSt (stL m x (s + 1))] 30), (8, .cells [.row 801] 33), (801, .row 2 eX xs 48)]) (fun (j, _) => m.R - j) (0, xs) ⟨by omega, k1, fun k hk => k2 k (by omega)⟩ ?_ ?_
      · refine Ent.of [] ?_ ?_ rfl rfl;(repeat' (first |exact True.intro |refine ⟨⟨AA _, rfl⟩, ?_⟩ |refine ⟨⟨⟨_, rfl, BLe.cells (AB _)⟩, rfl⟩, ?_⟩ |refine ⟨⟨⟨_, rfl, BLe.row rfl⟩, rfl⟩, ?_⟩ |refine ⟨⟨AV.Le.int ?_, rfl⟩, ?_⟩|fail))
        all_goals omega
      · intro ⟨j, xs⟩ ⟨k0, k1, k2⟩;(repeat' (first |refine qv ?_ |apply qn |apply qs |apply qr |refine qe ?_ |(refine AD rfl ?_ ?_ <;> intro _ <;> try (exfalso; omega)) |apply qb |apply qk |apply qx))
        · rename_i hj;refine qc (cR j (by omega)) ?_;(repeat' (first |refine qv ?_|fail))
          have hjR : j < m.R := by omega
          have dr : ∀ t, t < s + 1 → (fun t => (m.mach.F (inF x) t).2 j) t < 2 ^ 41 ∧ (fun t => (m.mach.F (inF x) t).2 j) t < 2 ^ (s + a + 1) := fun t ht => by
            have e1 := hbd t j (by omega);have e2 := hbdx t j (by omega);have e3 := hin j hjR;show (m.mach.F (inF x) t).2 j < _ ∧ (m.mach.F (inF x) t).2 j < _;exact ⟨h41 _ (by omega), hbig _ (by omega)⟩
          have tell : ∀ c ∈ stL m x (s + 1), IoFn Tryz.prog 99 ([aSt c.1 c.2] ++ [.ptr 904 0]) (nB1 j) (.ret (aN (c.2.getD j 0))) (nB1 j) := fun c hc => by
            unfold stL at hc;obtain ⟨t, _, rfl⟩ := List.mem_map.1 hc;refine tell4_ok j _ _ ?_;rw [Int.toNat_natCast, List.getD_eq_getElem?_getD];have := DO (f := (m.mach.F (inF x) t).2) hjR;unfold stF;rw [this]; rfl
          refine Dl rfl rfl [(900, 6), (901, 7), (902, 8), (903, 801), (904, 11)] (put1_ok 99 j (fun c => c.2.getD j 0) (s + 1) (fun t => (m.mach.F (inF x) t).2 j) (s + a) (stL m x (s + 1)) xs (3 + m.l + j) (by omega) tell (stL_map fun t _ => by unfold stF; simp only; rw [List.getD_eq_getElem?_getD, DO hjR]; rfl) (by omega) (by omega) (by omega) hnb2 dr) rfl rfl (AB _) rfl ⟨⟨⟨_, rfl, BLe.cells (AB _)⟩, rfl⟩, ⟨⟨_, rfl, BLe.cells (AB _)⟩, rfl⟩, ⟨⟨_, rfl, BLe.cells (AB _)⟩, rfl⟩, ⟨⟨_, rfl, BLe.row rfl⟩, rfl⟩, ⟨⟨_, rfl, BLe.cells (AB _)⟩, rfl⟩, trivial⟩ rfl rfl rfl rfl rfl ?_
          have hgS : (stL m x (s + 1))[Int.toNat (s : Int)]? = some (stF m x s) := by rw [Int.toNat_natCast]; exact hgetS
          have hgR : (stF m x s).2[Int.toNat (j : Int)]? = some (((m.mach.F (inF x) s).2 j : Nat) : Int) := by rw [Int.toNat_natCast]; exact DO hjR
          have hgRl : ((stF m x s).2.length : Int) = m.R := by show ((rgL _ _).length : Int) = _; rw [CF]
          have hre := hbd s j (Nat.le_refl _);(repeat' (first |refine qv ?_ |apply qn |apply qr));refine qc (cE j (by omega)) ?_;(repeat' (first |refine qv ?_ |refine qK ?_|fail));refine qc (Ce (((m.mach.F (inF x) s).2 j : Nat) : Int) (by omega) (by omega)) ?_;(repeat' (first |refine qv ?_ |apply qn |refine Fl.nil (fun _ => by kernel_rfl) ?_ |apply qr |refine qw ?_ |refine BN rfl rfl rfl rfl rfl rfl rfl rfl (by omega) (by first | omega | (simp; omega)) ?_ |refine Bd rfl rfl rfl rfl rfl rfl rfl rfl rfl rfl rfl (AB _) rfl (by first | omega | (simp; omega)) ?_|fail));refine LoopEnd.of (j + 1, (xs.set (3 + m.l + j) ((ds (2 ^ (s + a + 1)) (s + 1) (fun t => (m.mach.F (inF x) t).2 j) : Nat) : Int)).set (3 + m.l + m.R + j) (((m.mach.F (inF x) s).2 j : Nat) : Int)) ⟨by omega, by rw [List.length_set, List.length_set]; exact k1, fun k hk => ?_⟩ (by simp only; omega) ?_
          · rw [EL (by rw [List.length_set]; omega)];split
            · rename_i h; subst h; rw [g5 j hjR]
            · rw [EL (by omega)];split
              · rename_i h; subst h; rw [g4 j hjR]
              · exact k2 k (by omega)
          · refine Ent.of [] ?_ ?_ rfl rfl;(repeat' (first |exact True.intro |refine ⟨⟨AA _, rfl⟩, ?_⟩ |refine ⟨⟨⟨_, rfl, BLe.cells (AB _)⟩, rfl⟩, ?_⟩ |refine ⟨⟨⟨_, rfl, BLe.row rfl⟩, rfl⟩, ?_⟩|fail))
        · rename_i hj
          have hj : j = m.R := by omega
          subst hj;have hxH : xs = H := ext_getD (by omega) fun k hk => k2 k (by omega);rw [hxH];refine ⟨?_⟩;refine Ab (Ent.freeze 801 rfl) ?_;(repeat' (first |refine qv ?_ |apply qs |apply qr));refine qc (hv) ?_;(repeat' (first |refine qv ?_ |refine Fl.nil (fun _ => by kernel_rfl) ?_ |apply qt));exact RetOk.of rfl (AA _)
end Go.Proofs.YtmmfloplhopioaaGreat
/- mask: the links' meaning; what they need to be evaluated. -/
namespace Go.AL
end Go.AL
namespace Go.Proofs.YtmmfloplhopioaaGreat
open Go.AL
theorem holdsR_all {f g : LZ → Bool} : ∀ {ls : List LZ}, (∀ l ∈ ls, f l = true ∧ g l = true) → Ef f g ls = (true, 0)
 | [], _ => rfl
 | l :: ls, h => by
  obtain ⟨h1, h2⟩ := h l (by simp);rw [Ef, if_pos h1, if_pos h2];exact holdsR_all fun x hx => h x (by simp [hx])
theorem Holds_yes (s : SZ) (X : List Int) (hw : WS s) (hs : OkS s) (hX : ∀ x ∈ X, Fit x) (hlen : (X.length : Int) = s.vars) (hnat : ∀ x ∈ X, 0 ≤ x) (he : ∀ l ∈ s.links, EvL X l) (hh : ∀ l ∈ s.links, HoL X l) : PureFn Tryz.prog 30 [aS s, .sl 2 eX X] (.tup [aB true, aN 0]) := by
 obtain ⟨f, hf⟩ := boolOf (EvL X);obtain ⟨g, hg⟩ := boolOf (HoL X);have := Holds_ok s X hw hs hX hlen hnat f g hf hg;rw [holdsR_all fun l hl => ⟨(hf l).2 (he l hl), (hg l).2 (hh l hl)⟩] at this;exact this
end Go.Proofs.YtmmfloplhopioaaGreat
/- history.Encode, Decode. -/
namespace Go.AL
structure RunTo (m : MZ) (x : List Int) (n k : Nat) : Prop where
  le : k ≤ n
  go : ∀ t, t < k → ¬ m.mach.Over (m.mach.F (inF x) t)
  stop : k = n ∨ m.mach.Over (m.mach.F (inF x) k)
end Go.AL
namespace Go.Proofs.YtmmfloplhopioaaGreat
open Go.AL
abbrev nilV : AV := .v (.slice none 0 0)
theorem hEncode_ev (m : MZ) (hm : OkMZ m) (x : List Int) (hx : OkIn m x) (n k : Nat) (hn : n ≤ 1000000) (hk : RunTo m x n k) (ho : m.mach.op (m.mach.F (inF x) k).1 = 3) (hE : PureFn Tryz.prog 46 [aSz m x, aN k] (.tup [.sl 2 eX (hL m x k), aB true])) (b : Bool) (e : Int) (hH : PureFn Tryz.prog 30 [aS (hsS m x), .sl 2 eX (hL m x k)] (.tup [aB b, aN e])) : PureFn Tryz.prog 13 [aMz m, aI x, aN n] (if e = 0 then .tup [.sl 2 eX (hL m x k), aN 0] else .tup [nilV, aN 4]) := by
 refine AC Tryz.func13 rfl Tryz.ntmps13 rfl rfl ?_;have h1 := sizesOf_ok m x hm hx;have h2 := rgHalts_ok m hm x hx n k hn hk.le hk.go hk.stop;rw [if_pos ho] at h2;have h3 := hsSystem_ok m x hm hx
 generalize hL m x k = H at *
 (repeat' (first |refine qv ?_ |apply qn |apply qs |apply qr |refine qe ?_|fail));refine qc (h1) ?_;(repeat' (first |refine qv ?_ |apply qn |apply qs |apply qr |refine qe ?_ |refine AF rfl ?_ |apply qk));refine qc (h2) ?_;(repeat' (first |refine qv ?_ |apply qn |apply qs |apply qr |refine AF rfl ?_ |apply qk));refine qc (hE) ?_;(repeat' (first |refine qv ?_ |apply qn |apply qs |apply qr |refine AF rfl ?_ |apply qk));refine qc (h3) ?_;(repeat' (first |refine qv ?_|fail));refine qc (hH) ?_;(repeat' (first |refine qv ?_ |apply qn |apply qs |apply qr |(refine AU rfl ?_ ?_ <;> intro _ <;> try (exfalso; omega)) |apply qk |apply qt))
 ·rename_i h;rw [if_neg h];exact RetOk.of rfl (AA _)
 ·rename_i h;rw [if_pos h];exact RetOk.of rfl (AA _)
end Go.Proofs.YtmmfloplhopioaaGreat
/- Strings: length, a byte, a part, the sum, equality. -/
namespace Go.AL
abbrev sV (l : List UInt8) : AV := .v (.string (ByteArray.mk l.toArray))
theorem sV_size (l : List UInt8) : (ByteArray.mk l.toArray).size = l.length := by simp [ByteArray.size]
section
variable {P : Program} {tab : Tab} {n : Nat} {s : St}
variable {ops : Array Oper} {draw : Dr} {o : Oper} {l : List Oper} {acc : List Eff} {K : Exit → St → Prop}
theorem OpJ.sLen (ht : A8 P tab) (hd : ∀ d, o.dst = some d → d < n) {x : Operand} {t : TypeId} (hop : o.op = .call { callee := .builtin .len, args := ⟨[x]⟩, argTypes := ⟨[t]⟩ }) {sz by' : Nat} {z : List Value} (hts : tab t = some ⟨.string, sz, by', z⟩) {bs : List UInt8} (hx : opd s x = sV bs) : OpJ P n o s ⟨.v (.int .i64 bs.length), [], [], [], []⟩ := by
 refine AP hd fun C s' a w h β ho _ b => ?_;have hxr := AH b x;rw [ho x (by simp [hop, Op.operands, Call.operands]), hx] at hxr;simp only [Rep] at hxr;have hu := (ht _ _ hts).und;simp only at hu;refine ⟨.int .i64 (ByteArray.mk bs.toArray).size, ?_, by simp only [Rep]; rw [sV_size]⟩;simp [execOp, hop, resolve, invoke, builtin, Builtin.len_, hxr, run_underlying hu, goInt]
theorem Bo [f : Facts P tab] {x : Operand} {t : TypeId} (hop : o.op = .call { callee := .builtin .len, args := ⟨[x]⟩, argTypes := ⟨[t]⟩ }) {sz by' : Nat} {z : List Value} (hts : tab t = some ⟨.string, sz, by', z⟩) {bs : List UInt8} (hx : opd s x = sV bs) (hg : gOk ops s o = true) (hd : dOk n o.dst = true)
  (r : Fl P n ops draw l ((Eff.mk (.v (.int .i64 bs.length)) [] [] [] []).app o.dst s) (Eff.mk (.v (.int .i64 bs.length)) [] [] [] [] :: acc) K) : Fl P n ops draw (o :: l) s acc K :=
 Ad hg (OpJ.sLen f.tabOk (AZ hd) hop hts hx) r
theorem OpJ.sIdx (ht : A8 P tab) (hd : ∀ d, o.dst = some d → d < n) {t : TypeId} {x y : Operand} (hop : o.op = .index t x y) {sz by' : Nat} {z : List Value} (hts : tab t = some ⟨.string, sz, by', z⟩) {bs : List UInt8} (hx : opd s x = sV bs) {k : IntKind} {m : Int} (hy : opd s y = .v (.int k m)) (h0 : 0 ≤ m) {c : UInt8} (hc : bs[m.toNat]? = some c) : OpJ P n o s ⟨.v (.int .u8 c.toNat), [], [], [], []⟩ := by
 refine AP hd fun C s' a w h β ho _ b => ?_;have hxr := AH b x;have hyr := AH b y;rw [ho x (by simp [hop, Op.operands]), hx] at hxr;rw [ho y (by simp [hop, Op.operands]), hy] at hyr;simp only [Rep] at hxr hyr;have hu := (ht _ _ hts).und;simp only at hu;obtain ⟨h1, h2⟩ := List.getElem?_eq_some_iff.1 hc
 have hget : (ByteArray.mk bs.toArray)[m.toNat]? = some c := by
  rw [ByteArray.getElem?_lt' _ _ (by rw [sV_size]; exact h1)];exact congrArg some h2
 refine ⟨.int .u8 c.toNat, ?_, by simp only [Rep]⟩;simp only [execOp, hop, hxr, hyr, Instr.index, asIntOf, Sem.run_bind, Sem.run_pure, Result.andThen, run_underlying hu];rw [if_pos h0, hget];simp only [Sem.run_pure]
theorem CZ [f : Facts P tab] {t : TypeId} {x y : Operand} (hop : o.op = .index t x y) {sz by' : Nat} {z : List Value} (hts : tab t = some ⟨.string, sz, by', z⟩) {bs : List UInt8} (hx : opd s x = sV bs) {k : IntKind} {m : Int} (hy : opd s y = .v (.int k m)) (hg : gOk ops s o = true) (hd : dOk n o.dst = true) {c : UInt8} (hc : bs[m.toNat]? = some c) (h0 : 0 ≤ m)
  (r : Fl P n ops draw l ((Eff.mk (.v (.int .u8 c.toNat)) [] [] [] []).app o.dst s) (Eff.mk (.v (.int .u8 c.toNat)) [] [] [] [] :: acc) K) : Fl P n ops draw (o :: l) s acc K :=
 Ad hg (OpJ.sIdx f.tabOk (AZ hd) hop hts hx hy h0 hc) r
theorem OpJ.sSub (ht : A8 P tab) (hd : ∀ d, o.dst = some d → d < n) {t : TypeId} {x y z : Operand} (hop : o.op = .slice t x (some y) (some z) none) {sz by' : Nat} {zs : List Value} (hts : tab t = some ⟨.string, sz, by', zs⟩) {bs : List UInt8} (hx : opd s x = sV bs) {k k' : IntKind} {m m' : Int} (hy : opd s y = .v (.int k m)) (hz : opd s z = .v (.int k' m')) (h0 : 0 ≤ m) (h1 : m ≤ m') (h2 : m' ≤ bs.length) : OpJ P n o s ⟨sV ((bs.drop m.toNat).take (m'.toNat - m.toNat)), [], [], [], []⟩ := by
 refine AP hd fun C s' a w h β ho _ b => ?_;have hxr := AH b x;have hyr := AH b y;have hzr := AH b z;rw [ho x (by simp [hop, Op.operands]), hx] at hxr;rw [ho y (by simp [hop, Op.operands]), hy] at hyr;rw [ho z (by simp [hop, Op.operands]), hz] at hzr;simp only [Rep] at hxr hyr hzr;have hu := (ht _ _ hts).und;simp only at hu;have b1 := run_sliceBound (P := P) w k' m' (ByteArray.mk bs.toArray).size .sliceAlen (by omega) (by rw [sV_size]; omega);have b2 := run_sliceBound (P := P) w k m m'.toNat .sliceB h0 (by omega);refine ⟨.string ((ByteArray.mk bs.toArray).extract m.toNat m'.toNat), ?_, by simp only [Rep]; rw [ByteArray.extract_mk]⟩;simp only [execOp, hop, hxr, hyr, hzr, Option.map_some, Option.map_none, Instr.sliceAt, Sem.run_bind, run_underlying hu, Result.andThen, Instr.slice, Instr.sliceBounds, Sem.run_pure, b1, b2, Option.isSome_none, Bool.false_eq_true, if_false]
theorem Fl.sSub [f : Facts P tab] {t : TypeId} {x y z : Operand} (hop : o.op = .slice t x (some y) (some z) none) {sz by' : Nat} {zs : List Value} (hts : tab t = some ⟨.string, sz, by', zs⟩) {bs : List UInt8} (hx : opd s x = sV bs) {k k' : IntKind} {m m' : Int} (hy : opd s y = .v (.int k m)) (hz : opd s z = .v (.int k' m')) (hg : gOk ops s o = true) (hd : dOk n o.dst = true) {cs : List UInt8} (hcs : (bs.drop m.toNat).take (m'.toNat - m.toNat) = cs) (h0 : 0 ≤ m) (h1 : m ≤ m') (h2 : m' ≤ bs.length)
  (r : Fl P n ops draw l ((Eff.mk (sV cs) [] [] [] []).app o.dst s) (Eff.mk (sV cs) [] [] [] [] :: acc) K) : Fl P n ops draw (o :: l) s acc K := by
 subst hcs;exact Ad hg (OpJ.sSub f.tabOk (AZ hd) hop hts hx hy hz h0 h1 h2) r
theorem OpJ.sCat (hd : ∀ d, o.dst = some d → d < n) {t t' : TypeId} {x y : Operand} (hop : o.op = .binOp .add t x y t') {us bs : List UInt8} (hx : opd s x = sV us) (hy : opd s y = sV bs) (h : us.length + bs.length ≤ 9223372036854775807) : OpJ P n o s ⟨sV (us ++ bs), [], [], [], []⟩ := by
 refine AP hd fun C s' a w h' β ho _ b => ?_;have hxr := AH b x;have hyr := AH b y;rw [ho x (by simp [hop, Op.operands]), hx] at hxr;rw [ho y (by simp [hop, Op.operands]), hy] at hyr;simp only [Rep] at hxr hyr;refine ⟨.string (ByteArray.mk us.toArray ++ ByteArray.mk bs.toArray), ?_, by simp only [Rep]; rw [ByteArray.mk_append_mk]⟩;have := run_string_add_sum (P := P) (w := w) (ByteArray.mk us.toArray) (ByteArray.mk bs.toArray) (by rw [sV_size, sV_size]; exact h);simp [execOp, hop, hxr, hyr, eqGuard, binOp, this]
theorem Fl.sCat [Facts P tab] {t t' : TypeId} {x y : Operand} (hop : o.op = .binOp .add t x y t') {us bs : List UInt8} (hx : opd s x = sV us) (hy : opd s y = sV bs) (hg : gOk ops s o = true) (hd : dOk n o.dst = true) {cs : List UInt8} (hcs : us ++ bs = cs) (h : cs.length ≤ 9223372036854775807)
  (r : Fl P n ops draw l ((Eff.mk (sV cs) [] [] [] []).app o.dst s) (Eff.mk (sV cs) [] [] [] [] :: acc) K) : Fl P n ops draw (o :: l) s acc K := by
 subst hcs;exact Ad hg (OpJ.sCat (AZ hd) hop hx hy (by rw [List.length_append] at h; exact h)) r
end
end Go.AL
/- ref01.shifted. -/
namespace Go.AL
end Go.AL
namespace Go.Proofs.YtmmfloplhopioaaGreat
open Go.AL
end Go.Proofs.YtmmfloplhopioaaGreat
/- ref01.Shift, by a number that is not negative. -/
namespace Go.Proofs.YtmmfloplhopioaaGreat
open Go.AL
end Go.Proofs.YtmmfloplhopioaaGreat
/- ref01.short: by one word. -/
namespace Go.Proofs.YtmmfloplhopioaaGreat
open Go.AL
theorem short_ok (x b : Int) (hx : 0 ≤ x) (hxl : (toW x).length ≤ 50000) (hb : 0 < b) (hb1 : b < 4294967296) : PureFn Tryz.prog 230 [aW (toW x), .v (.int .u32 b)] (.tup [aW (wdW (toW x).length (x / b)), .v (.int .u32 (x % b))]) := by
 refine AC Tryz.func230 rfl Tryz.ntmps230 rfl rfl ?_;have wx := Am x;have hsx := Aj hx
 generalize toW x = A at *
 subst hsx;(repeat' (first |refine qv ?_ |apply qn |apply qs |apply qr |refine qw ?_ |apply qb |refine CA rfl rfl rfl rfl rfl rfl rfl rfl rfl rfl eW 0 (by exact AB _) (by rfl) (by first | omega | (dsimp only; omega)) (by first | omega | (dsimp only; omega)) (by first | omega | (dsimp only; omega)) ?_|fail));refine AWP.loop (G := Nat × List Int × Int) (fun (i, os, r) => os.length + i = A.length ∧ WOk os ∧ 0 ≤ r ∧ r < b ∧ val (A.drop i) = val os * b + r)
  (fun (i, os, r) => AO [] [(0, aW A), (1, .v (.int .u32 b)), (6, .row 11), (7, aU r), (8, aN ((i : Int) - 1))] [(11, .row 1 eW (List.replicate i 0 ++ os) 94)])
  (fun (i, os, r) => i) (A.length, [], 0) ⟨by simp, WOk.nil, by omega, by omega, by simp [val]⟩ ?_ ?_
 ·refine Ent.of [] ?_ ?_ rfl rfl;(repeat' (first |exact True.intro |refine ⟨⟨AA _, rfl⟩, ?_⟩ |refine ⟨⟨⟨_, rfl, BLe.row ?_⟩, rfl⟩, ?_⟩|fail));simp
 ·intro ⟨i, os, r⟩ ⟨h0, h1, h2, h3, h4⟩;refine AE ?_;(repeat' (first |refine qv ?_ |apply qn |apply qs |apply qr |(refine AD rfl ?_ ?_ <;> intro _ <;> try (exfalso; omega)) |apply qk |apply qx |apply qt))
  ·refine ⟨?_⟩;refine AWP.seq (AWP.block (Cr (G := Int) (fun y => A[i - 1]? = some y ∧ 0 ≤ y ∧ y < 4294967296) (fun y => AO [] [(0, aW A), (1, .v (.int .u32 b)), (6, .row 11), (7, aU (r * 4294967296 + y)), (8, aN ((i : Int) - 1))] [(11, .row 1 eW (List.replicate i 0 ++ os) 94)]) ?_ ?_))
   ·(repeat' (first |refine qv ?_ |apply qn |apply qr |refine qw ?_ |(refine CN rfl rfl rfl rfl rfl rfl rfl rfl (by omega) (by omega) (by assumption) ?_; intro _ _ _ _) |refine Fl.sumM rfl rfl rfl rfl rfl rfl ?_));rename_i hi y hy hy0 hy1;rw [show ((i : Int) - 1).toNat = i - 1 by omega] at hy;refine JoinOk.of y ⟨hy, hy0, hy1⟩ ?_;refine Ent.of [] ?_ ?_ rfl rfl;(repeat' (first |exact True.intro |refine ⟨⟨AA _, rfl⟩, ?_⟩ |refine ⟨⟨⟨_, rfl, BLe.row rfl⟩, rfl⟩, ?_⟩ |refine ⟨⟨AV.Le.int ?_, rfl⟩, ?_⟩|fail));rw [show (2 : Int) ^ (32 : Int).toNat = 4294967296 from rfl];omega
   ·intro y ⟨hy, hy0, hy1⟩
    have hi : 0 < i := by
     rcases Nat.eq_zero_or_pos i with h | h
     ·subst h; omega
     ·exact h
    obtain ⟨q, hq⟩ : ∃ q, q = (r * 4294967296 + y) / b := ⟨_, rfl⟩;obtain ⟨r', hr'⟩ : ∃ r', r' = (r * 4294967296 + y) % b := ⟨_, rfl⟩;have hw := over_word hb h2 h3 hy0 hy1;have hm0 := Int.emod_nonneg (r * 4294967296 + y) (show b ≠ 0 by omega);have hm1 := Int.emod_lt_of_pos (r * 4294967296 + y) hb;have hst := over_step (i := i - 1) hy (by rw [show i - 1 + 1 = i by omega]; exact h4);rw [← hq] at hw hst;rw [← hr'] at hm0 hm1 hst;(repeat' (first |refine qv ?_ |apply qn |apply qs |apply qr |refine qw ?_ |refine Fl.w rfl rfl rfl ⟨by omega, by omega, by dsimp only [hiK]; omega⟩ ?_ |refine BN rfl rfl rfl rfl rfl rfl rfl rfl (by omega) (by first | omega | (simp; omega)) ?_ |refine Bd rfl rfl rfl rfl rfl rfl rfl rfl rfl rfl rfl (AB _) rfl (by first | omega | (simp; omega)) ?_|fail));refine LoopEnd.of (i - 1, q :: os, r') ⟨by simp only [List.length_cons]; omega, WOk.cons hw.1 hw.2 h1, hm0, hm1, hst⟩ (by simp only; omega) ?_;refine Ent.of [] ?_ ?_ rfl rfl;(repeat' (first |exact True.intro |refine ⟨⟨AA _, rfl⟩, ?_⟩ |refine ⟨⟨⟨_, rfl, BLe.row ?_⟩, rfl⟩, ?_⟩ |refine ⟨⟨AV.Le.int ?_, rfl⟩, ?_⟩|fail))
    ·exact hr'.symm
    ·omega
    ·refine set_zeros (by omega) (by omega) ?_;rw [← hq]; omega
  ·rename_i hi
   have hi0 : i = 0 := by omega
   subst hi0;rw [List.drop_zero] at h4;obtain ⟨e1, e2⟩ := over_end h4 h2 h3;refine A3 (Ent.freeze 11 rfl) ?_;refine RetOk.of rfl ?_;rw [← e1, ← e2, show A.length = os.length by omega, ← wdW_eq h1];exact AV.Le.tup (LeL.cons (AA _) (LeL.cons (AV.Le.int (by omega)) LeL.nil))
end Go.Proofs.YtmmfloplhopioaaGreat
/- Bytes az a string; the text of a small number; the reference's Parse of the law's machine. -/
namespace Go.AL
def e8 : UInt8 → List AV := fun b => [.v (.int .u8 b.toNat)]
section
variable {P : Program} {tab : Tab} {n : Nat} {s : St}
variable {ops : Array Oper} {draw : Dr} {o : Oper} {l : List Oper} {acc : List Eff} {K : Exit → St → Prop}
theorem OpJ.toS (ht : A8 P tab) (hd : ∀ d, o.dst = some d → d < n) {t t' : TypeId} {x : Operand} (hop : o.op = .convert t t' x) {e : TypeId} {sz1 by1 sz2 by2 sz3 by3 : Nat} {z1 z2 z3 : List Value} (hts : tab t = some ⟨.slice e, sz1, by1, z1⟩) (hte : tab e = some ⟨.int .u8, sz2, by2, z2⟩) (htt : tab t' = some ⟨.string, sz3, by3, z3⟩) {bs : List UInt8} (hx : opd s x = .sl 1 e8 bs) (hne : bs ≠ []) : OpJ P n o s ⟨sV bs, [], [], [], []⟩ := by
 refine AP hd fun C s' a w h β ho _ b => ?_;have hxr := AH b x;rw [ho x (by simp [hop, Op.operands]), hx] at hxr;simp only [Rep] at hxr;obtain ⟨A, c, e1, hc, hm, hall⟩ := hxr;have h1 := (ht _ _ hts).und;have h2 := (ht _ _ hte).und;have h3 := (ht _ _ htt).und;simp only at h1 h2 h3;have hpos : 0 < bs.length := List.length_pos_iff.2 hne;obtain ⟨ad, _, hA, _⟩ := hall 0 _ (List.getElem?_eq_getElem hpos);subst hA
 have hcell : ∀ j (hj : j < bs.length), w.cell? (ad.add j) = some (.int .u8 (bs[j].toNat : Int)) := fun j hj => by
  obtain ⟨ad', us, e2, e3, e4, e5⟩ := hall j _ (List.getElem?_eq_getElem hj);injection e2 with e2;subst e2;simp only [e8, RepL, Rep] at e4;obtain ⟨u, r, rfl, rfl, rfl⟩ := e4;have := (e5 0 _ rfl).cell b.evo.has;rw [Nat.mul_one, Nat.add_zero] at this;exact this
 refine ⟨.string ⟨bs.toArray⟩, ?_, by simp only [Rep]⟩;have := run_convert_bytes_back (P := P) w t t' e ad c bs h1 h2 h3 hcell;simp only [execOp, hop, e1, Sem.run_bind, this, Result.andThen, Sem.run_pure]
theorem Fl.toS [f : Facts P tab] {t t' : TypeId} {x : Operand} (hop : o.op = .convert t t' x) {e : TypeId} {sz1 by1 sz2 by2 sz3 by3 : Nat} {z1 z2 z3 : List Value} (hts : tab t = some ⟨.slice e, sz1, by1, z1⟩) (hte : tab e = some ⟨.int .u8, sz2, by2, z2⟩) (htt : tab t' = some ⟨.string, sz3, by3, z3⟩) {bs : List UInt8} (hx : opd s x = .sl 1 e8 bs) (hne : bs ≠ []) (hg : gOk ops s o = true) (hd : dOk n o.dst = true)
  (r : Fl P n ops draw l ((Eff.mk (sV bs) [] [] [] []).app o.dst s) (Eff.mk (sV bs) [] [] [] [] :: acc) K) : Fl P n ops draw (o :: l) s acc K :=
 Ad hg (OpJ.toS f.tabOk (AZ hd) hop hts hte htt hx hne) r
end
end Go.AL
namespace Go.Proofs.YtmmfloplhopioaaGreat
open Go.AL
theorem rText0_ok : PureFn Tryz.prog 218 [aX 0] (sV [48]) := by
 refine AC Tryz.func218 rfl Tryz.ntmps218 rfl rfl ?_;have c := Ci (zOf 0);rw [show (zOf 0).w.length = 0 by show (toW 0).length = 0; rw [toW_zero]; rfl] at c;(repeat' (first |refine qv ?_ |apply qn |apply qs |apply qr |refine qe ?_|fail));refine qc (c) ?_;(repeat' (first |refine qv ?_ |apply qn |apply qs |apply qr |refine AM rfl ?_ |apply qt));exact RetOk.of rfl (AA _)
theorem rText1_ok : PureFn Tryz.prog 218 [aX 1] (sV [49]) := by
 refine AC Tryz.func218 rfl Tryz.ntmps218 rfl rfl ?_;have c := Ci ⟨false, [1]⟩;have e1 : toW ((1 : Int).natAbs : Int) = [1] := toW_one;rw [show decide ((⟨false, [1]⟩ : Z).w.length = 0) = false from rfl] at c;have cs := short_ok 1 1000000000 (by omega) (by rw [toW_one]; simp) (by omega) (by omega);rw [toW_one] at cs;have cm := EA false (wdW 1 (1 / 1000000000)) (wdW_ok _ _) (by rw [wdW_length]; omega);rw [show sg false (val (wdW 1 (1 / 1000000000))) = 0 by simp [wdW, val, sg]] at cm;have e0 : toW ((0 : Int).natAbs : Int) = [] := toW_zero
 have cm' : PureFn Tryz.prog 54 [aB false, aW (wdW 1 (1 / 1000000000))] (.agg [aB false, aW []]) := by rw [← e0]; exact cm
 show AWP _ _ _ _ _ (Dy [.agg [aB (decide ((1 : Int) < 0)), aW (toW ((1 : Int).natAbs : Int))]]);rw [e1];refine AE ?_;(repeat' (first |refine qv ?_ |apply qn |apply qr |refine qe ?_|fail));refine ⟨AE ?_⟩;(repeat' (first |refine qv ?_ |apply qs |apply qr));refine qc (c) ?_;(repeat' (first |apply qn |refine AF rfl ?_ |apply qk));refine ⟨AE ?_⟩;(repeat' (first |refine qv ?_ |apply qn |apply qr));refine ⟨AE ?_⟩;(repeat' (first |refine qv ?_ |apply qn |apply qr));refine ⟨AE ?_⟩;refine Ab (Bl 3 803 rfl rfl 1 e8 5) ?_;(repeat' (first |apply qb));refine AWP.loop (G := List Int × List UInt8) (fun (ws, l) => (ws = [1] ∧ l = []) ∨ (ws = [] ∧ l = [49])) (fun (ws, l) => AO [] [(1, .ptr 1 0), (3, .row 3), (4, aW ws)] [(1, .cells [aB false, aW [1]] 48), (3, .row 1 e8 l 5)]) (fun (ws, _) => ws.length) ([1], []) (.inl ⟨rfl, rfl⟩) ?_ ?_
 ·refine Ent.of [(3, 803)] ?_ ?_ rfl rfl;(repeat' (first |exact True.intro |refine ⟨⟨AA _, rfl⟩, ?_⟩ |refine ⟨⟨⟨_, rfl, BLe.cells (AB _)⟩, rfl⟩, ?_⟩ |refine ⟨⟨⟨_, rfl, BLe.row rfl⟩, rfl⟩, ?_⟩|fail))
 ·rintro ⟨ws, l⟩ (⟨rfl, rfl⟩ | ⟨rfl, rfl⟩)
  ·refine AE ?_;(repeat' (first |refine qv ?_ |apply qn |apply qs |apply qr |refine AM rfl ?_ |apply qk));refine ⟨?_⟩;(repeat' (first |refine qv ?_ |apply qn |apply qs |apply qr |apply qb));refine qc (cs) ?_;(repeat' (first |refine qv ?_ |apply qn |apply qs |apply qr));refine qc (cm') ?_;(repeat' (first |refine qv ?_ |apply qn |apply qs |apply qr |apply qb));refine AWP.loop (G := Int × Int × List UInt8) (fun (k, r, l) => (k = 0 ∧ r = 1 ∧ l = []) ∨ (k = 1 ∧ r = 0 ∧ l = [49])) (fun (k, r, l) => AO [] [(1, .ptr 1 0), (3, .row 3), (4, aW []), (5, .v (.int .u32 r)), (6, aN k)] [(1, .cells [aB false, aW [1]] 48), (3, .row 1 e8 l 5)]) (fun (k, _, _) => (1 - k).toNat) (0, 1, []) (.inl ⟨rfl, rfl, rfl⟩) ?_ ?_
   ·refine Ent.of [] ?_ ?_ rfl rfl;(repeat' (first |exact True.intro |refine ⟨⟨AA _, rfl⟩, ?_⟩ |refine ⟨⟨⟨_, rfl, BLe.cells (AB _)⟩, rfl⟩, ?_⟩ |refine ⟨⟨⟨_, rfl, BLe.row rfl⟩, rfl⟩, ?_⟩|fail))
   ·rintro ⟨k, r, l⟩ (⟨rfl, rfl, rfl⟩ | ⟨rfl, rfl, rfl⟩)
    ·refine AE ?_;(repeat' (first |refine qv ?_ |apply qn |apply qs |apply qr |refine AM rfl ?_ |apply qk));refine ⟨?_⟩;(repeat' (first |refine qv ?_ |apply qs |apply qr |refine qw ?_ |apply qb));refine ql e8 [49] ?_;refine qa (hby := (by simp)) (hm := (by simp)) (r := ?_);(repeat' (first |refine qv ?_ |apply qn |apply qr |refine qw ?_ |refine Fl.w rfl rfl rfl ⟨by omega, by omega, by dsimp only [hiK]; omega⟩ ?_|fail));refine LoopEnd.of (1, 0, [49]) (.inr ⟨rfl, rfl, rfl⟩) (by decide) ?_;refine Ent.of [(3, 42)] ?_ ?_ rfl rfl;(repeat' (first |exact True.intro |refine ⟨⟨AA _, rfl⟩, ?_⟩ |refine ⟨⟨⟨_, rfl, BLe.cells (AB _)⟩, rfl⟩, ?_⟩ |refine ⟨⟨⟨_, rfl, BLe.row rfl⟩, rfl⟩, ?_⟩|fail))
    ·refine AE ?_;(repeat' (first |refine qv ?_ |apply qn |apply qs |apply qr |refine AF rfl ?_ |apply qx));refine LoopEnd.of ([], [49]) (.inr ⟨rfl, rfl⟩) (by simp) ?_;refine Ent.of [] ?_ ?_ rfl rfl;(repeat' (first |exact True.intro |refine ⟨⟨AA _, rfl⟩, ?_⟩ |refine ⟨⟨⟨_, rfl, BLe.cells (AB _)⟩, rfl⟩, ?_⟩ |refine ⟨⟨⟨_, rfl, BLe.row rfl⟩, rfl⟩, ?_⟩|fail))
  ·(repeat' (first |refine qv ?_ |apply qn |apply qs |apply qr |refine AF rfl ?_ |apply qx));refine ⟨AE ?_⟩;(repeat' (first |refine qv ?_ |apply qn |apply qs |apply qr |refine AF rfl ?_ |apply qk));refine ⟨AE ?_⟩;(repeat' (first |refine qv ?_ |apply qn |apply qs |apply qr |apply qb));obtain ⟨l0, hl0⟩ : ∃ l0 : List UInt8, l0 = [49] := ⟨_, rfl⟩
   have hlen : l0.length = 1 := by rw [hl0]; rfl
   refine AWP.loop (G := Unit) (fun _ => True) (fun _ => AO [] [(3, .row 3), (7, aN 0)] [(3, .row 1 e8 l0 5)]) (fun _ => 0) () trivial ?_ ?_
   ·refine Ent.of [] ?_ ?_ rfl rfl;(repeat' (first |exact True.intro |refine ⟨⟨AA _, rfl⟩, ?_⟩ |refine ⟨⟨⟨_, rfl, BLe.row ?_⟩, rfl⟩, ?_⟩|fail));exact hl0.symm
   ·intro _ _;(repeat' (first |refine qv ?_ |apply qn |apply qs |apply qr |refine Fl.w rfl rfl rfl ⟨by omega, by omega, by dsimp only [hiK]; omega⟩ ?_ |(refine AD rfl ?_ ?_ <;> intro _ <;> try (exfalso; omega)) |apply qx));refine ⟨?_⟩;refine Ab (Ent.freeze 3 rfl) ?_;(repeat' (first |refine qv ?_ |apply qs |apply qr));refine Fl.toS rfl rfl rfl rfl rfl (by rw [hl0]; simp) rfl rfl ?_;(repeat' (first |refine qv ?_ |apply qn |apply qt));exact RetOk.of rfl (AW (by rw [hl0]))
theorem rNum_ok (n : Int) (l : List UInt8) (h : (n = 0 ∧ l = [48]) ∨ (n = 1 ∧ l = [49])) : PureFn Tryz.prog 198 [aN n] (sV l) := by
 refine AC Tryz.func198 rfl Tryz.ntmps198 rfl rfl ?_
 have c : PureFn Tryz.prog 218 [aX n] (sV l) := by
  rcases h with ⟨rfl, rfl⟩ | ⟨rfl, rfl⟩
  ·exact rText0_ok
  ·exact rText1_ok
 (repeat' (first |refine qv ?_ |apply qn |apply qs |apply qr));refine qc (rOf_ok n (by omega) (by omega)) ?_;refine qc (c) ?_;(repeat' (first |refine qv ?_ |apply qn |apply qt));exact RetOk.of rfl (AA _)
theorem EW (bs : List UInt8) (i : Nat) (c : UInt8) (hl : bs.length ≤ 1000) (hc : bs[i]? = some c) (h0 : 48 ≤ c.toNat) (h9 : c.toNat ≤ 57) (hn : ∀ d : UInt8, bs[i + 1]? = some d → ¬ (48 ≤ d.toNat ∧ d.toNat ≤ 57)) : PureFn Tryz.prog 167 [sV bs, aN i] (.tup [aN ((c.toNat : Int) - 48), aN ((i : Int) + 1)]) := by
 refine AC Tryz.func167 rfl Tryz.ntmps167 rfl rfl ?_;have hi : i < bs.length := (List.getElem?_eq_some_iff.1 hc).1
 have hc1 : bs[Int.toNat (i : Int)]? = some c := by rw [Int.toNat_natCast]; exact hc
 (repeat' (first |refine qv ?_ |apply qn |apply qs |apply qr |apply qb));refine AWP.loop (G := Int × Int) (fun (a, v) => (a = i ∧ v = 0) ∨ (a = i + 1 ∧ v = (c.toNat : Int) - 48)) (fun (a, v) => AO [] [(0, sV bs), (1, aN a), (6, aN v), (7, aN i)] []) (fun (a, _) => (i + 1 - a).toNat) (i, 0) (.inl ⟨rfl, rfl⟩) ?_ ?_
 ·refine Ent.of [] ?_ ?_ rfl rfl;(repeat' (first |exact True.intro |refine ⟨⟨AA _, rfl⟩, ?_⟩|fail))
 ·rintro ⟨a, v⟩ (⟨rfl, rfl⟩ | ⟨rfl, rfl⟩)
  ·refine AE ?_;(repeat' (first |refine Bo rfl rfl rfl rfl rfl ?_ |refine CZ rfl rfl rfl rfl rfl rfl (by assumption) (by omega) ?_ |refine qv ?_ |apply qn |apply qs |apply qr |refine qw ?_ |(refine AD rfl ?_ ?_ <;> intro _ <;> try (exfalso; omega)) |apply qk |(refine AJ rfl rfl ?_ ?_ <;> intro _ <;> try (exfalso; omega))));refine ⟨?_⟩;(repeat' (first |refine CZ rfl rfl rfl rfl rfl rfl (by assumption) (by omega) ?_ |refine qv ?_ |apply qn |apply qs |apply qr |refine qw ?_ |apply qb |refine Fl.cvS rfl rfl rfl rfl rfl rfl ?_));refine LoopEnd.of ((i : Int) + 1, (c.toNat : Int) - 48) (.inr ⟨rfl, rfl⟩) (by simp only; omega) ?_;refine Ent.of [] ?_ ?_ rfl rfl;(repeat' (first |exact True.intro |refine ⟨⟨AA _, rfl⟩, ?_⟩ |refine ⟨⟨AV.Le.int ?_, rfl⟩, ?_⟩|fail));omega
  ·by_cases h1 : i + 1 < bs.length
   ·obtain ⟨d, hd⟩ : ∃ d, bs[i + 1]? = some d := ⟨_, List.getElem?_eq_getElem h1⟩
    have hd1 : bs[Int.toNat ((i : Int) + 1)]? = some d := by rw [show ((i : Int) + 1).toNat = i + 1 by omega]; exact hd
    have hd2 := hn d hd;refine AE ?_;(repeat' (first |refine Bo rfl rfl rfl rfl rfl ?_ |refine CZ rfl rfl rfl rfl rfl rfl (by assumption) (by omega) ?_ |refine qv ?_ |apply qn |apply qs |apply qr |refine qw ?_ |refine Fl.skip rfl rfl ?_ |refine AF rfl ?_ |(refine AD rfl ?_ ?_ <;> intro _ <;> try (exfalso; omega)) |apply qx |apply qt |(refine AJ rfl rfl ?_ ?_ <;> intro _ <;> try (exfalso; omega))))
    all_goals exact RetOk.of rfl (AA _)
   ·refine AE ?_;(repeat' (first |refine Bo rfl rfl rfl rfl rfl ?_ |refine qv ?_ |apply qn |apply qs |apply qr |refine Fl.skip rfl rfl ?_ |refine AF rfl ?_ |apply qx |apply qt |(refine AJ rfl rfl ?_ ?_ <;> intro _ <;> try (exfalso; omega))));exact RetOk.of rfl (AA _)
theorem r13Insn1_ok : PureFn Tryz.prog 168 [sV [105, 48, 62, 49]] (aIz ⟨0, 0, 1, 0⟩) := by
 refine AC Tryz.func168 rfl Tryz.ntmps168 rfl rfl ?_;have d1 : PureFn Tryz.prog 167 [sV [105, 48, 62, 49], aN 1] (.tup [aN 0, aN 2]) := EW [105, 48, 62, 49] 1 48 (by decide) rfl (by decide) (by decide) (by intro d hd; injection hd with hd; subst hd; decide);have d2 : PureFn Tryz.prog 167 [sV [105, 48, 62, 49], aN 3] (.tup [aN 1, aN 4]) := EW [105, 48, 62, 49] 3 49 (by decide) rfl (by decide) (by decide) (by intro d hd; cases hd);obtain ⟨bs, hbs⟩ : ∃ bs : List UInt8, bs = [105, 48, 62, 49] := ⟨_, rfl⟩
 have hl : bs.length = 4 := by rw [hbs]; rfl
 obtain ⟨c, hc, hcn⟩ : ∃ c : UInt8, bs[Int.toNat 0]? = some c ∧ c.toNat = 105 := ⟨105, by rw [hbs]; rfl, rfl⟩;rw [← hbs] at d1 d2 ⊢;(repeat' (first |refine Bo rfl rfl rfl rfl rfl ?_ |refine CZ rfl rfl rfl rfl rfl rfl (by assumption) (by omega) ?_ |refine qv ?_ |apply qn |apply qs |apply qr |refine qe ?_ |(refine AD rfl ?_ ?_ <;> intro _ <;> try (exfalso; omega)) |apply qb |apply qk));refine Fl.call rfl d1 rfl rfl rfl (AB _) ?_;(repeat' (first |refine qv ?_ |apply qn |apply qs |apply qr |refine qw ?_ |refine qe ?_|fail));refine Fl.call rfl d2 rfl rfl rfl (AB _) ?_;(repeat' (first |refine qv ?_ |apply qn |apply qs |apply qr |refine qe ?_ |refine AF rfl ?_ |apply qk |apply qt));exact RetOk.of rfl (AA _)
theorem r13InsnH_ok : PureFn Tryz.prog 168 [sV [104]] (aIz ⟨3, 0, 0, 0⟩) := by
 refine AC Tryz.func168 rfl Tryz.ntmps168 rfl rfl ?_;obtain ⟨bs, hbs⟩ : ∃ bs : List UInt8, bs = [104] := ⟨_, rfl⟩
 have hl : bs.length = 1 := by rw [hbs]; rfl
 rw [← hbs];(repeat' (first |refine Bo rfl rfl rfl rfl rfl ?_ |refine qv ?_ |apply qn |apply qs |apply qr |refine qe ?_ |(refine AD rfl ?_ ?_ <;> intro _ <;> try (exfalso; omega)) |apply qt));exact RetOk.of rfl (AA _)
abbrev m14 : MZ := ⟨1, [⟨0, 0, 1, 0⟩, ⟨3, 0, 0, 0⟩]⟩
theorem r13Text_ok : PureFn Tryz.prog 169 [aMz m14] (sV [49, 32, 105, 48, 62, 49, 32, 104]) := by
 refine AC Tryz.func169 rfl Tryz.ntmps169 rfl rfl ?_;have n1 := rNum_ok 1 [49] (.inr ⟨rfl, rfl⟩);have n0 := rNum_ok 0 [48] (.inl ⟨rfl, rfl⟩);obtain ⟨cd, hcd⟩ : ∃ cd, cd = m14.code := ⟨_, rfl⟩
 have hl : cd.length = 2 := by rw [hcd]; rfl
 have q0 : cd[Int.toNat ((0 : Nat) : Int)]? = some ⟨0, 0, 1, 0⟩ := by rw [hcd]; rfl
 have q1 : cd[Int.toNat ((1 : Nat) : Int)]? = some ⟨3, 0, 0, 0⟩ := by rw [hcd]; rfl
 show AWP _ _ _ _ _ (Dy [.agg [aN 1, .sl 4 eIz m14.code]]);rw [← hcd];refine AE ?_;(repeat' (first |refine qv ?_ |apply qn |apply qr |refine qe ?_|fail));refine ⟨AE ?_⟩;(repeat' (first |refine qv ?_ |apply qr));refine Fl.call rfl n1 rfl rfl rfl (AB _) ?_;(repeat' (first |refine qv ?_ |apply qn));refine ⟨AE ?_⟩;(repeat' (first |refine qv ?_ |apply qn |apply qs |apply qr |apply qb));refine AWP.loop (G := Nat × List UInt8) (fun (i, l) => (i = 0 ∧ l = [49]) ∨ (i = 1 ∧ l = [49, 32, 105, 48, 62, 49]) ∨ (i = 2 ∧ l = [49, 32, 105, 48, 62, 49, 32, 104])) (fun (i, l) => AO [] [(1, .ptr 1 0), (3, sV l), (4, aN i)] [(1, .cells [aN 1, .sl 4 eIz cd] 24)]) (fun (i, _) => 2 - i) (0, [49]) (.inl ⟨rfl, rfl⟩) ?_ ?_
 ·refine Ent.of [] ?_ ?_ rfl rfl;(repeat' (first |exact True.intro |refine ⟨⟨AA _, rfl⟩, ?_⟩ |refine ⟨⟨⟨_, rfl, BLe.cells (AB _)⟩, rfl⟩, ?_⟩|fail))
 ·rintro ⟨i, l⟩ (⟨rfl, rfl⟩ | ⟨rfl, rfl⟩ | ⟨rfl, rfl⟩)
  ·(repeat' (first |refine Fl.sCat rfl rfl rfl rfl rfl rfl (by decide) ?_ |refine qv ?_ |apply qn |apply qs |apply qr |refine qe ?_ |refine AM rfl ?_ |(refine AD rfl ?_ ?_ <;> intro _ <;> try (exfalso; omega)) |apply qb |apply qk |refine qK ?_|fail));refine Fl.call rfl n0 rfl rfl rfl (AB _) ?_;(repeat' (first |refine Fl.sCat rfl rfl rfl rfl rfl rfl (by decide) ?_ |refine qv ?_|fail));refine Fl.call rfl n1 rfl rfl rfl (AB _) ?_;(repeat' (first |refine Fl.sCat rfl rfl rfl rfl rfl rfl (by decide) ?_ |refine qv ?_ |apply qn |refine Fl.nil (fun _ => by kernel_rfl) ?_ |apply qr |refine qw ?_|fail));refine LoopEnd.of (1, [49, 32, 105, 48, 62, 49]) (.inr (.inl ⟨rfl, rfl⟩)) (by decide) ?_;refine Ent.of [] ?_ ?_ rfl rfl;(repeat' (first |exact True.intro |refine ⟨⟨AA _, rfl⟩, ?_⟩ |refine ⟨⟨⟨_, rfl, BLe.cells (AB _)⟩, rfl⟩, ?_⟩|fail))
  ·(repeat' (first |refine Fl.sCat rfl rfl rfl rfl rfl rfl (by decide) ?_ |refine qv ?_ |apply qn |apply qs |apply qr |refine qw ?_ |refine qe ?_ |refine AF rfl ?_ |(refine AD rfl ?_ ?_ <;> intro _ <;> try (exfalso; omega)) |apply qb |apply qk |refine qK ?_|fail));refine LoopEnd.of (2, [49, 32, 105, 48, 62, 49, 32, 104]) (.inr (.inr ⟨rfl, rfl⟩)) (by decide) ?_;refine Ent.of [] ?_ ?_ rfl rfl;(repeat' (first |exact True.intro |refine ⟨⟨AA _, rfl⟩, ?_⟩ |refine ⟨⟨⟨_, rfl, BLe.cells (AB _)⟩, rfl⟩, ?_⟩|fail))
  ·(repeat' (first |refine qv ?_ |apply qn |apply qs |apply qr |(refine AD rfl ?_ ?_ <;> intro _ <;> try (exfalso; omega)) |apply qx));refine ⟨?_⟩;(repeat' (first |refine qv ?_ |apply qn |apply qs |apply qr |apply qt));exact RetOk.of rfl (AA _)
set_option maxHeartbeats 4000000 in
theorem r13Parse_ok : PureFn Tryz.prog 116 [sV [49, 32, 105, 48, 62, 49, 32, 104]] (.tup [aMz m14, aB true]) := by
 refine AC Tryz.func116 rfl Tryz.ntmps116 rfl rfl ?_;have u0 : (49 : UInt8).toNat = 49 := rfl;have u1 : (32 : UInt8).toNat = 32 := rfl;have u2 : (105 : UInt8).toNat = 105 := rfl;have u3 : (48 : UInt8).toNat = 48 := rfl;have u4 : (62 : UInt8).toNat = 62 := rfl;have u5 : (104 : UInt8).toNat = 104 := rfl;have d0 : PureFn Tryz.prog 167 [sV [49], aN 0] (.tup [aN 1, aN 1]) := EW [49] 0 49 (by decide) rfl (by decide) (by decide) (by intro d hd; cases hd);have i1 := r13Insn1_ok;have i2 := r13InsnH_ok;have ct := r13Text_ok
 have cv := Do m14 (by decide) true ⟨fun _ => ⟨by decide, by decide, by decide, by decide, fun i hi => by
  have hi : i < 2 := hi;rcases (show i = 0 ∨ i = 1 by omega) with rfl | rfl
  ·exact .inr ⟨by decide, by decide, .inr ⟨.inl rfl, rfl⟩⟩
  ·exact .inl rfl⟩, fun _ => rfl⟩
 refine AE ?_;(repeat' (first |refine qv ?_ |apply qn |apply qr |refine qe ?_|fail));refine ⟨AE ?_⟩;(repeat' (first |refine Bo rfl rfl rfl rfl rfl ?_ |refine qv ?_ |apply qn |apply qs |apply qr |refine AF rfl ?_ |apply qk));refine ⟨AE ?_⟩;(repeat' (first |apply qn |apply qr |refine qe ?_|fail));refine ⟨AE ?_⟩;(repeat' (first |refine qv ?_ |apply qn |apply qr));refine ⟨AE ?_⟩;refine Ab (BT 4 1 806 rfl rfl rfl 4 eIz 77) ?_;(repeat' (first |refine qv ?_ |apply qn |apply qs |apply qr |apply qb));obtain ⟨bs, hbs⟩ : ∃ bs : List UInt8, bs = [49, 32, 105, 48, 62, 49, 32, 104] := ⟨_, rfl⟩
 have hl : bs.length = 8 := by rw [hbs]; rfl
 rw [← hbs] at ct ⊢
 have g0 : bs[Int.toNat ((0 : Nat) : Int)]? = some 49 := by rw [hbs]; rfl
 have g1 : bs[Int.toNat ((1 : Nat) : Int)]? = some 32 := by rw [hbs]; rfl
 have g2 : bs[Int.toNat ((2 : Nat) : Int)]? = some 105 := by rw [hbs]; rfl
 have g3 : bs[Int.toNat ((3 : Nat) : Int)]? = some 48 := by rw [hbs]; rfl
 have g4 : bs[Int.toNat ((4 : Nat) : Int)]? = some 62 := by rw [hbs]; rfl
 have g5 : bs[Int.toNat ((5 : Nat) : Int)]? = some 49 := by rw [hbs]; rfl
 have g6 : bs[Int.toNat ((6 : Nat) : Int)]? = some 32 := by rw [hbs]; rfl
 have g7 : bs[Int.toNat ((7 : Nat) : Int)]? = some 104 := by rw [hbs]; rfl
 have s1 : (bs.drop (0 : Int).toNat).take (((1 : Nat) : Int).toNat - (0 : Int).toNat) = [49] := by rw [hbs]; rfl
 have s2 : (bs.drop (2 : Int).toNat).take (((6 : Nat) : Int).toNat - (2 : Int).toNat) = [105, 48, 62, 49] := by rw [hbs]; rfl
 have s3 : (bs.drop (7 : Int).toNat).take (((8 : Nat) : Int).toNat - (7 : Int).toNat) = [104] := by rw [hbs]; rfl
 refine AWP.loop (G := Nat × Int × Bool × Int × List IZ) (fun (i, fr, ft, rg, cd) => (i ≤ 1 ∧ fr = 0 ∧ ft = true ∧ rg = 0 ∧ cd = []) ∨ (2 ≤ i ∧ i ≤ 6 ∧ fr = 2 ∧ ft = false ∧ rg = 1 ∧ cd = []) ∨ (7 ≤ i ∧ i ≤ 8 ∧ fr = 7 ∧ ft = false ∧ rg = 1 ∧ cd = [⟨0, 0, 1, 0⟩]) ∨ (i = 9 ∧ ft = false ∧ rg = 1 ∧ cd = [⟨0, 0, 1, 0⟩, ⟨3, 0, 0, 0⟩])) (fun (i, fr, ft, rg, cd) => AO [] [(0, sV bs), (2, .ptr 2 0), (4, .ptr 4 0), (5, aN fr), (6, aB ft), (7, aN i)] [(2, .cells [aN 0, .v (.slice none 0 0)] 24), (4, .cells [aN rg, .row 806] 24), (806, .row 4 eIz cd 77)]) (fun (i, _, _, _, _) => 9 - i) (0, 0, true, 0, []) (.inl ⟨by omega, rfl, rfl, rfl, rfl⟩) ?_ ?_
 ·refine Ent.of [] ?_ ?_ rfl rfl;(repeat' (first |exact True.intro |refine ⟨⟨AA _, rfl⟩, ?_⟩ |refine ⟨⟨⟨_, rfl, BLe.cells (AB _)⟩, rfl⟩, ?_⟩ |refine ⟨⟨⟨_, rfl, BLe.row rfl⟩, rfl⟩, ?_⟩|fail))
 ·rintro ⟨i, fr, ft, rg, cd⟩ (⟨k0, rfl, rfl, rfl, rfl⟩ | ⟨k0, k1, rfl, rfl, rfl, rfl⟩ | ⟨k0, k1, rfl, rfl, rfl, rfl⟩ | ⟨rfl, rfl, rfl, rfl⟩)
  ·rcases (show i = 0 ∨ i = 1 by omega) with rfl | rfl
   ·(repeat' (first |refine Bo rfl rfl rfl rfl rfl ?_ |refine CZ rfl rfl rfl rfl rfl rfl (by assumption) (by omega) ?_ |refine qv ?_ |apply qn |apply qs |apply qr |refine qw ?_ |refine AM rfl ?_ |apply qb |apply qk |apply qx |(refine AJ rfl rfl ?_ ?_ <;> intro _ <;> try (exfalso; omega))));refine LoopEnd.of (1, 0, true, 0, []) (.inl ⟨by omega, rfl, rfl, rfl, rfl⟩) (by simp) ?_;refine Ent.of [] ?_ ?_ rfl rfl;(repeat' (first |exact True.intro |refine ⟨⟨AA _, rfl⟩, ?_⟩ |refine ⟨⟨⟨_, rfl, BLe.cells (AB _)⟩, rfl⟩, ?_⟩ |refine ⟨⟨⟨_, rfl, BLe.row rfl⟩, rfl⟩, ?_⟩|fail))
   ·(repeat' (first |refine Bo rfl rfl rfl rfl rfl ?_ |refine CZ rfl rfl rfl rfl rfl rfl (by assumption) (by omega) ?_ |refine qv ?_ |apply qn |apply qs |apply qr |refine AM rfl ?_ |refine AF rfl ?_ |(refine AD rfl ?_ ?_ <;> intro _ <;> try (exfalso; omega)) |apply qb |apply qk |(refine AJ rfl rfl ?_ ?_ <;> intro _ <;> try (exfalso; omega))));refine Fl.sSub rfl rfl rfl rfl rfl rfl rfl s1 (by decide) (by decide) (by omega) ?_;refine Fl.call rfl d0 rfl rfl rfl (AB _) ?_;(repeat' (first |refine qv ?_ |apply qn |apply qr |refine qw ?_ |refine qe ?_|fail));refine LoopEnd.of (2, 2, false, 1, []) (.inr (.inl ⟨by omega, by omega, rfl, rfl, rfl, rfl⟩)) (by simp) ?_;refine Ent.of [] ?_ ?_ rfl rfl;(repeat' (first |exact True.intro |refine ⟨⟨AA _, rfl⟩, ?_⟩ |refine ⟨⟨⟨_, rfl, BLe.cells (AB _)⟩, rfl⟩, ?_⟩ |refine ⟨⟨⟨_, rfl, BLe.row rfl⟩, rfl⟩, ?_⟩|fail))
  ·rcases (show i = 2 ∨ i = 3 ∨ i = 4 ∨ i = 5 ∨ i = 6 by omega) with rfl | rfl | rfl | rfl | rfl
   ·(repeat' (first |refine Bo rfl rfl rfl rfl rfl ?_ |refine CZ rfl rfl rfl rfl rfl rfl (by assumption) (by omega) ?_ |refine qv ?_ |apply qn |apply qs |apply qr |refine qw ?_ |refine AM rfl ?_ |(refine AD rfl ?_ ?_ <;> intro _ <;> try (exfalso; omega)) |apply qb |apply qk |apply qx |(refine AJ rfl rfl ?_ ?_ <;> intro _ <;> try (exfalso; omega))));refine LoopEnd.of (3, 2, false, 1, []) (.inr (.inl ⟨by omega, by omega, rfl, rfl, rfl, rfl⟩)) (by simp) ?_;refine Ent.of [] ?_ ?_ rfl rfl;(repeat' (first |exact True.intro |refine ⟨⟨AA _, rfl⟩, ?_⟩ |refine ⟨⟨⟨_, rfl, BLe.cells (AB _)⟩, rfl⟩, ?_⟩ |refine ⟨⟨⟨_, rfl, BLe.row rfl⟩, rfl⟩, ?_⟩|fail))
   ·(repeat' (first |refine Bo rfl rfl rfl rfl rfl ?_ |refine CZ rfl rfl rfl rfl rfl rfl (by assumption) (by omega) ?_ |refine qv ?_ |apply qn |apply qs |apply qr |refine qw ?_ |refine AM rfl ?_ |(refine AD rfl ?_ ?_ <;> intro _ <;> try (exfalso; omega)) |apply qb |apply qk |apply qx |(refine AJ rfl rfl ?_ ?_ <;> intro _ <;> try (exfalso; omega))));refine LoopEnd.of (4, 2, false, 1, []) (.inr (.inl ⟨by omega, by omega, rfl, rfl, rfl, rfl⟩)) (by simp) ?_;refine Ent.of [] ?_ ?_ rfl rfl;(repeat' (first |exact True.intro |refine ⟨⟨AA _, rfl⟩, ?_⟩ |refine ⟨⟨⟨_, rfl, BLe.cells (AB _)⟩, rfl⟩, ?_⟩ |refine ⟨⟨⟨_, rfl, BLe.row rfl⟩, rfl⟩, ?_⟩|fail))
   ·(repeat' (first |refine Bo rfl rfl rfl rfl rfl ?_ |refine CZ rfl rfl rfl rfl rfl rfl (by assumption) (by omega) ?_ |refine qv ?_ |apply qn |apply qs |apply qr |refine qw ?_ |refine AM rfl ?_ |(refine AD rfl ?_ ?_ <;> intro _ <;> try (exfalso; omega)) |apply qb |apply qk |apply qx |(refine AJ rfl rfl ?_ ?_ <;> intro _ <;> try (exfalso; omega))));refine LoopEnd.of (5, 2, false, 1, []) (.inr (.inl ⟨by omega, by omega, rfl, rfl, rfl, rfl⟩)) (by simp) ?_;refine Ent.of [] ?_ ?_ rfl rfl;(repeat' (first |exact True.intro |refine ⟨⟨AA _, rfl⟩, ?_⟩ |refine ⟨⟨⟨_, rfl, BLe.cells (AB _)⟩, rfl⟩, ?_⟩ |refine ⟨⟨⟨_, rfl, BLe.row rfl⟩, rfl⟩, ?_⟩|fail))
   ·(repeat' (first |refine Bo rfl rfl rfl rfl rfl ?_ |refine CZ rfl rfl rfl rfl rfl rfl (by assumption) (by omega) ?_ |refine qv ?_ |apply qn |apply qs |apply qr |refine qw ?_ |refine AM rfl ?_ |(refine AD rfl ?_ ?_ <;> intro _ <;> try (exfalso; omega)) |apply qb |apply qk |apply qx |(refine AJ rfl rfl ?_ ?_ <;> intro _ <;> try (exfalso; omega))));refine LoopEnd.of (6, 2, false, 1, []) (.inr (.inl ⟨by omega, by omega, rfl, rfl, rfl, rfl⟩)) (by simp) ?_;refine Ent.of [] ?_ ?_ rfl rfl;(repeat' (first |exact True.intro |refine ⟨⟨AA _, rfl⟩, ?_⟩ |refine ⟨⟨⟨_, rfl, BLe.cells (AB _)⟩, rfl⟩, ?_⟩ |refine ⟨⟨⟨_, rfl, BLe.row rfl⟩, rfl⟩, ?_⟩|fail))
   ·(repeat' (first |refine Bo rfl rfl rfl rfl rfl ?_ |refine CZ rfl rfl rfl rfl rfl rfl (by assumption) (by omega) ?_ |refine qv ?_ |apply qn |apply qs |apply qr |refine AF rfl ?_ |(refine AD rfl ?_ ?_ <;> intro _ <;> try (exfalso; omega)) |apply qb |apply qk |(refine AJ rfl rfl ?_ ?_ <;> intro _ <;> try (exfalso; omega))));refine Fl.sSub rfl rfl rfl rfl rfl rfl rfl s2 (by decide) (by decide) (by omega) ?_;refine Fl.call rfl i1 rfl rfl rfl (AB _) ?_;refine ql eIz [⟨0, 0, 1, 0⟩] ?_;refine qa (hby := (by simp)) (hm := (by simp)) (r := ?_);(repeat' (first |refine qv ?_ |apply qn |refine Fl.nil (fun _ => by kernel_rfl) ?_ |apply qr |refine qw ?_ |refine qe ?_|fail));refine LoopEnd.of (7, 7, false, 1, [⟨0, 0, 1, 0⟩]) (.inr (.inr (.inl ⟨by omega, by omega, rfl, rfl, rfl, rfl⟩))) (by simp) ?_;refine Ent.of [(806, 47)] ?_ ?_ rfl rfl;(repeat' (first |exact True.intro |refine ⟨⟨AA _, rfl⟩, ?_⟩ |refine ⟨⟨⟨_, rfl, BLe.cells (AB _)⟩, rfl⟩, ?_⟩ |refine ⟨⟨⟨_, rfl, BLe.row rfl⟩, rfl⟩, ?_⟩|fail))
  ·rcases (show i = 7 ∨ i = 8 by omega) with rfl | rfl
   ·(repeat' (first |refine Bo rfl rfl rfl rfl rfl ?_ |refine CZ rfl rfl rfl rfl rfl rfl (by assumption) (by omega) ?_ |refine qv ?_ |apply qn |apply qs |apply qr |refine qw ?_ |refine AM rfl ?_ |(refine AD rfl ?_ ?_ <;> intro _ <;> try (exfalso; omega)) |apply qb |apply qk |apply qx |(refine AJ rfl rfl ?_ ?_ <;> intro _ <;> try (exfalso; omega))));refine LoopEnd.of (8, 7, false, 1, [⟨0, 0, 1, 0⟩]) (.inr (.inr (.inl ⟨by omega, by omega, rfl, rfl, rfl, rfl⟩))) (by simp) ?_;refine Ent.of [] ?_ ?_ rfl rfl;(repeat' (first |exact True.intro |refine ⟨⟨AA _, rfl⟩, ?_⟩ |refine ⟨⟨⟨_, rfl, BLe.cells (AB _)⟩, rfl⟩, ?_⟩ |refine ⟨⟨⟨_, rfl, BLe.row rfl⟩, rfl⟩, ?_⟩|fail))
   ·(repeat' (first |refine Bo rfl rfl rfl rfl rfl ?_ |refine qv ?_ |apply qn |apply qs |apply qr |refine Fl.skip rfl rfl ?_ |refine AF rfl ?_ |(refine AD rfl ?_ ?_ <;> intro _ <;> try (exfalso; omega)) |apply qb |apply qk |(refine AJ rfl rfl ?_ ?_ <;> intro _ <;> try (exfalso; omega))));refine Fl.sSub rfl rfl rfl rfl rfl rfl rfl s3 (by decide) (by decide) (by omega) ?_;refine Fl.call rfl i2 rfl rfl rfl (AB _) ?_;refine ql eIz [⟨3, 0, 0, 0⟩] ?_;refine qa (hby := (by simp)) (hm := (by simp)) (r := ?_);(repeat' (first |refine qv ?_ |apply qn |refine Fl.nil (fun _ => by kernel_rfl) ?_ |apply qr |refine qw ?_ |refine qe ?_|fail));refine LoopEnd.of (9, 9, false, 1, [⟨0, 0, 1, 0⟩, ⟨3, 0, 0, 0⟩]) (.inr (.inr (.inr ⟨rfl, rfl, rfl, rfl⟩))) (by simp) ?_;refine Ent.of [(806, 47)] ?_ ?_ rfl rfl;(repeat' (first |exact True.intro |refine ⟨⟨AA _, rfl⟩, ?_⟩ |refine ⟨⟨⟨_, rfl, BLe.cells (AB _)⟩, rfl⟩, ?_⟩ |refine ⟨⟨⟨_, rfl, BLe.row rfl⟩, rfl⟩, ?_⟩|fail))
  ·(repeat' (first |refine Bo rfl rfl rfl rfl rfl ?_ |refine qv ?_ |apply qn |apply qs |apply qr |(refine AD rfl ?_ ?_ <;> intro _ <;> try (exfalso; omega)) |apply qx));refine ⟨?_⟩;refine Ab (Ent.freeze 806 rfl) ?_;(repeat' (first |refine qv ?_ |apply qs |apply qr));refine Fl.call rfl cv rfl rfl rfl (AB _) ?_;(repeat' (first |refine qv ?_|fail));refine Fl.call rfl ct rfl rfl rfl (AB _) ?_;(repeat' (first |refine qv ?_ |apply qn |apply qs |apply qr |refine qe ?_ |apply qk |apply qt |(refine BF rfl ?_ ?_ <;> intro _)))
   ·rename_i hne;rw [beq_self_eq_true] at hne
    cases hne
   ·exact RetOk.of rfl (AA _)
theorem law14One_ok : PureFn Tryz.prog 55 [] (aMz m14) := by
 refine AC Tryz.func55 rfl Tryz.ntmps55 rfl rfl ?_;(repeat' (first |apply qn |apply qs |apply qr |refine qe ?_|fail));refine qc (r13Parse_ok) ?_;(repeat' (first |refine qv ?_ |apply qn |apply qs |apply qr |refine qe ?_ |apply qt));exact RetOk.of rfl (AA _)
end Go.Proofs.YtmmfloplhopioaaGreat
/- ref01: SameAll. -/
namespace Go.AL
end Go.AL
namespace Go.Proofs.YtmmfloplhopioaaGreat
open Go.AL
end Go.Proofs.YtmmfloplhopioaaGreat
/- ref01: Under, Small; mask.Witness where there is none. -/
namespace Go.AL
end Go.AL
namespace Go.Proofs.YtmmfloplhopioaaGreat
open Go.AL
end Go.Proofs.YtmmfloplhopioaaGreat
/- Binomial coefficients: plain. -/
namespace Go.AL
def ch : Nat → Nat → Nat
  | _, 0 => 1
  | 0, _ + 1 => 0
  | n + 1, k + 1 => ch n k + ch n (k + 1)
end Go.AL
/- Digits of binomial coefficients under digits: plain. -/
namespace Go.AL
end Go.AL
/- MaskOnly, MaskFound. -/
namespace Go.AL
theorem toW_small {x : Nat} (h : x < 4294967296) : (toW (x : Int)).length ≤ 1 := (BV (by omega) 1).2 (by rw [BO, D1]; omega)
end Go.AL
namespace Go.Proofs.YtmmfloplhopioaaGreat
open Go.AL
end Go.Proofs.YtmmfloplhopioaaGreat
/- The law's awake: the history of a known run. -/
namespace Go.AL
theorem RunTo.run {m : MZ} {x : List Int} {n k : Nat} (h : RunTo m x n k) (hm : OkMZ m) (ho : m.mach.op (m.mach.F (inF x) k).1 = 3) : m.mach.Run (inF x) k (fun t => (m.mach.F (inF x) t).1) (fun t => (m.mach.F (inF x) t).2) := Mach.F_run hm.mach h.go ho
theorem hist_hol {m : MZ} {x : List Int} {n k : Nat} (h : RunTo m x n k) (hm : OkMZ m) (hx : OkIn m x) (ho : m.mach.op (m.mach.F (inF x) k).1 = 3) : ∀ l ∈ (hsS m x).links, HoL (hL m x k) l := hs_there hm hx (h.run hm ho)
theorem hs_ok {m : MZ} {x : List Int} (hm : OkMZ m) (hx : OkIn m x) : OkS (hsS m x) := by
 refine ⟨by show (0 : Int) ≤ (m.V : Int); omega, by have := hm.V32; show (m.V : Int) ≤ 20000; omega, ?_, fun l hl => ?_⟩
 ·have g := go_len (m := m) m.l;have h15 := hm.l15;have h4 := hm.r4;have hR := D0 hm;rw [List.length_flatMap] at g;simp only [hsS, hsK, hsA, hsC, List.length_map, List.length_append, List.length_range, List.length_cons, List.length_nil, List.length_flatMap] at g ⊢;omega
 ·obtain ⟨k, hk, rfl⟩ := List.mem_map.1 hl;exact ((Cz hm hx k hk).ok (by have := hm.V32; omega)).1
end Go.AL
namespace Go.Proofs.YtmmfloplhopioaaGreat
open Go.AL
theorem m14_ok : OkMZ m14 := ⟨by decide, by decide, by decide, by decide, fun i hi => by
  have hi : i < 2 := hi;rcases (show i = 0 ∨ i = 1 by omega) with rfl | rfl
  ·exact .inr ⟨by decide, by decide, .inr ⟨.inl rfl, rfl⟩⟩
  ·exact .inl rfl⟩
theorem m14_in : OkIn m14 [0] := ⟨rfl, by decide⟩
theorem m14_run : RunTo m14 [0] 9 1 := ⟨by decide, fun t ht => by
 have : t = 0 := by omega
 subst this
 decide, .inr (by decide)⟩
theorem m14_hL : hL m14 [0] 1 = [1, 8, 17, 1, 16, 16, 1] := by decide
theorem m14_fit : ∀ y ∈ hL m14 [0] 1, Fit y := fun y hy => by
 rw [m14_hL] at hy;refine fit_pow (e := 5) ?_ (by omega);simp only [List.mem_cons, List.not_mem_nil, or_false] at hy;rcases hy with rfl | rfl | rfl | rfl | rfl | rfl | rfl <;> decide
theorem m14_holds : PureFn Tryz.prog 30 [aS (hsS m14 [0]), .sl 2 eX [1, 8, 17, 1, 16, 16, 1]] (.tup [aB true, aN 0]) := by
 have h := Holds_yes (hsS m14 [0]) (hL m14 [0] 1) (hsS_w m14_ok m14_in) (hs_ok m14_ok m14_in) m14_fit (by rw [m14_hL]; rfl) (histL_nn _ _ _) (hist_ev m14_ok m14_in (by omega) (fun t j ht => by
  have := (m14.mach).F_le (x := inF [0]) j t;have := inF_le m14_in j
  omega) (by decide)) (hist_hol m14_run m14_ok m14_in (by decide))
 rw [m14_hL] at h;exact h
theorem m14_encode : PureFn Tryz.prog 13 [aMz m14, aI [0], aN 9] (.tup [.sl 2 eX [1, 8, 17, 1, 16, 16, 1], aN 0]) := by
 have hE := encode_ok m14 m14_ok [0] m14_in 1 (by decide) (by decide) m14_run.go true ⟨fun _ => m14_fit, fun _ => rfl⟩;have h := hEncode_ev m14 m14_ok [0] m14_in 9 1 (by decide) m14_run (by decide) hE true 0 (by rw [m14_hL]; exact m14_holds);rw [m14_hL] at h;exact h
theorem awake14_ok : PureFn Tryz.prog 22 [] (aB true) := by
 refine AC Tryz.func22 rfl Tryz.ntmps22 rfl rfl ?_;have c1 := m14_encode;have c2 := hSystem_ok m14 [0] m14_ok m14_in;have c3 := m14_holds;have s1 := rSame_ok 17 17 (by have := toW_small (x := 17) (by decide); simpa using Nat.le_trans this (by decide));have s2 := rSame_ok 16 16 (by have := toW_small (x := 16) (by decide); simpa using Nat.le_trans this (by decide));have s3 := rSame_ok 1 1 (by have := toW_small (x := 1) (by decide); simpa using Nat.le_trans this (by decide));obtain ⟨L, hL⟩ : ∃ L : List Int, L = [1, 8, 17, 1, 16, 16, 1] := ⟨_, rfl⟩
 have hl : L.length = 7 := by rw [hL]; rfl
 have g2 : L[Int.toNat 2]? = some 17 := by rw [hL]; rfl
 have g5 : L[Int.toNat 5]? = some 16 := by rw [hL]; rfl
 have g6 : L[Int.toNat 6]? = some 1 := by rw [hL]; rfl
 rw [← hL] at c1 c3
 generalize hsS m14 [0] = S at *
 clear hL;refine AE ?_;(repeat' (first |refine qv ?_ |apply qn |apply qr));refine ⟨AE ?_⟩;(repeat' (first |apply qr));refine qc (law14One_ok) ?_;refine ql eI [0] ?_;refine qc (c1) ?_;(repeat' (first |refine qv ?_ |apply qn));refine ⟨AE ?_⟩;(repeat' (first |apply qr));refine qc (law14One_ok) ?_;refine ql eI [0] ?_;refine qc (c2) ?_;(repeat' (first |refine qv ?_ |apply qn |refine qe ?_|fail));refine ⟨AE ?_⟩;(repeat' (first |refine qv ?_ |apply qr));refine qc (c3) ?_;(repeat' (first |refine qv ?_ |apply qn));refine ⟨?_⟩;(repeat' (first |refine qv ?_ |apply qs |apply qr |refine qK ?_ |(refine AJ rfl rfl ?_ ?_ <;> intro _ <;> try (exfalso; omega))));refine qc (rOf_ok 17 (by omega) (by omega)) ?_;refine qc (s1) ?_;(repeat' (first |refine qv ?_ |refine qK ?_ |(refine AJ rfl rfl ?_ ?_ <;> intro _ <;> try (exfalso; omega))));refine qc (rOf_ok 16 (by omega) (by omega)) ?_;refine qc (s2) ?_;(repeat' (first |refine qv ?_ |refine qK ?_ |(refine AJ rfl rfl ?_ ?_ <;> intro _ <;> try (exfalso; omega))));refine qc (rOf_ok 1 (by omega) (by omega)) ?_;refine qc (s3) ?_;(repeat' (first |refine qv ?_ |refine Fl.nil (fun _ => by kernel_rfl) ?_ |apply qt));exact RetOk.of rfl (AA _)
end Go.Proofs.YtmmfloplhopioaaGreat
namespace Go.Proofs.YtmmfloplhopioaaGreat
open Go.AL
end Go.Proofs.YtmmfloplhopioaaGreat
namespace Go.AL
def TB (t : TZ) : Prop := ZB t.c
def PB (p : PZ) : Prop := (∀ t ∈ p.terms, TB t) ∧ p.terms.length ≤ maxLen
def LB (l : LZ) : Prop := (∀ p ∈ l.polys, PB p) ∧ l.polys.length ≤ maxLen
def SB (s : SZ) : Prop := ∀ l ∈ s.links, LB l
theorem SB.ws {s : SZ} (h : SB s) : WS s := fun l hl p hp t ht => (((h l hl).1 p hp).1 t ht).1
end Go.AL
namespace Go.Proofs.YtmmfloplhopioaaGreat
open Go.AL Go.ChangeShapes Go.WideShapes Go.ChangeAt Go.RowKit
section
variable {H : Type} {enc : TypeId × Value → H} {w : World} {base : Nat} {spare : Nat → Bool} {held : Bool}
end
end Go.Proofs.YtmmfloplhopioaaGreat
namespace Go.AL
theorem get_eq {α : Type} {a b : List α} (hl : a.length = b.length) (h : ∀ (i : Nat) (x y : α), i < a.length → a[i]? = some x → b[i]? = some y → x = y) : a = b := by
 refine List.ext_getElem? fun i => ?_;by_cases hi : i < a.length
 ·rw [List.getElem?_eq_getElem hi, List.getElem?_eq_getElem (by omega)];exact congrArg some (h i _ _ hi (List.getElem?_eq_getElem hi) (List.getElem?_eq_getElem (by omega)))
 ·rw [List.getElem?_eq_none (by omega), List.getElem?_eq_none (by omega)]
theorem t_eq {x y : TZ} (h1 : x.c = y.c) (h2 : x.e = y.e) : x = y := by cases x; cases y; simp_all
theorem p_eq {x y : PZ} (h1 : x.vars = y.vars) (h2 : x.terms = y.terms) : x = y := by cases x; cases y; simp_all
theorem l_eq {x y : LZ} (h1 : x.kind = y.kind) (h2 : x.vars = y.vars) (h3 : x.polys = y.polys) : x = y := by cases x; cases y; simp_all
theorem s_eq {x y : SZ} (h1 : x.vars = y.vars) (h2 : x.links = y.links) : x = y := by cases x; cases y; simp_all
def SmZ (z : Z) : Prop := WOk z.w ∧ z.w.length ≤ 1000000
def SmT (t : TZ) : Prop := SmZ t.c ∧ t.e.length ≤ 1000000
def SmP (p : PZ) : Prop := p.terms.length ≤ 1000000 ∧ ∀ t ∈ p.terms, SmT t
def SmL (l : LZ) : Prop := l.vars.length ≤ 1000000 ∧ l.polys.length ≤ 1000000 ∧ ∀ p ∈ l.polys, SmP p
def SmS (s : SZ) : Prop := s.links.length ≤ 1000000 ∧ ∀ l ∈ s.links, SmL l
end Go.AL
namespace Go.Proofs.YtmmfloplhopioaaGreat
open Go.AL
theorem rSameZ_ok (x y : Z) (hx : SmZ x) (hy : WOk y.w) (b : Bool) (hb : b = true ↔ x = y) : PureFn Tryz.prog 17 [aZ x, aZ y] (aB b) := by
 refine AC Tryz.func17 rfl Tryz.ntmps17 rfl rfl ?_;obtain ⟨n, w⟩ := x;obtain ⟨m, v⟩ := y;have hsw := sameWords_ok w v hx.2 hx.1 hy
 have hbb : b = (decide (n = m) && decide (w = v)) := by
  rw [Bool.eq_iff_iff, hb]; simp
 (repeat' (first |refine qv ?_ |apply qn |apply qs |apply qr |refine qe ?_ |refine Fl.skip rfl rfl ?_ |apply qt |(refine AJ rfl rfl ?_ ?_ <;> intro _ <;> try (exfalso; omega))))
 ·rename_i h;have h : n = m := h;refine qc (hsw) ?_;(repeat' (first |refine qv ?_ |apply qn |apply qt));exact RetOk.of rfl (AV.Le.bool (by rw [hbb, decide_eq_true h, Bool.true_and]))
 ·rename_i h;have h : ¬ n = m := h;exact RetOk.of rfl (AV.Le.bool (by rw [hbb, decide_eq_false h, Bool.false_and]))
theorem rSameE_ok (a b : List Int) (ha : a.length ≤ 1000000) : PureFn Tryz.prog 117 [aI a, aI b] (aB (decide (a = b))) := by
 refine AC Tryz.func117 rfl Tryz.ntmps117 rfl rfl ?_;by_cases hl : a.length = b.length
 ·(repeat' (first |refine qv ?_ |apply qn |apply qs |apply qr |(refine AU rfl ?_ ?_ <;> intro _ <;> try (exfalso; omega)) |apply qb |apply qk));refine AWP.loop (G := Nat) (fun i => i ≤ a.length ∧ ∀ (j : Nat) (x y : Int), j < i → a[j]? = some x → b[j]? = some y → x = y) (fun i => AO [] [(0, aI a), (1, aI b), (5, aN i)] []) (fun i => a.length - i) 0 ⟨by omega, fun j x y h => by omega⟩ ?_ ?_
  ·refine Ent.of [] ?_ ?_ rfl rfl;(repeat' (first |exact True.intro |refine ⟨⟨AA _, rfl⟩, ?_⟩|fail))
  ·intro i ⟨k0, k1⟩;by_cases hi : i < a.length
   ·obtain ⟨x, hx⟩ : ∃ x, a[i]? = some x := ⟨_, List.getElem?_eq_getElem hi⟩;obtain ⟨y, hy⟩ : ∃ y, b[i]? = some y := ⟨_, List.getElem?_eq_getElem (by omega)⟩;(repeat' (first |refine qv ?_ |apply qn |refine Fl.nil (fun _ => by kernel_rfl) ?_ |apply qs |apply qr |refine qw ?_ |(refine AD rfl ?_ ?_ <;> intro _ <;> try (exfalso; omega)) |(refine AU rfl ?_ ?_ <;> intro _ <;> try (exfalso; omega)) |apply qb |apply qk |apply qt |refine qK ?_|fail))
    ·rename_i h;refine RetOk.of rfl (AV.Le.bool (Eq.symm (decide_eq_false fun e => h ?_)));subst e; rw [hx] at hy; injection hy
    ·rename_i h;refine LoopEnd.of (i + 1) ⟨by omega, fun j u v hj hu hv => ?_⟩ (by omega) ?_
     ·by_cases hji : j < i
      ·exact k1 j u v hji hu hv
      ·have : j = i := by omega
       subst this;rw [hx] at hu; rw [hy] at hv; cases hu; cases hv; exact h
     ·refine Ent.of [] ?_ ?_ rfl rfl;(repeat' (first |exact True.intro |refine ⟨⟨AA _, rfl⟩, ?_⟩|fail))
   ·(repeat' (first |refine qv ?_ |apply qn |apply qs |apply qr |(refine AD rfl ?_ ?_ <;> intro _ <;> try (exfalso; omega)) |apply qx |apply qt));exact RetOk.of rfl (AV.Le.bool (Eq.symm (decide_eq_true (get_eq hl fun j x y hj => k1 j x y (by omega)))))
 ·(repeat' (first |refine qv ?_ |apply qn |apply qs |apply qr |(refine AU rfl ?_ ?_ <;> intro _ <;> try (exfalso; omega)) |apply qt));exact RetOk.of rfl (AV.Le.bool (Eq.symm (decide_eq_false fun e => hl (by rw [e]))))
theorem rSameP_ok (p q : PZ) (hp : SmP p) (hq : WP q) (b : Bool) (hb : b = true ↔ p = q) : PureFn Tryz.prog 118 [aP p, aP q] (aB b) := by
 refine AC Tryz.func118 rfl Tryz.ntmps118 rfl rfl ?_
 have hfalse : ¬ p = q → false = b := fun h => by cases b with | false => rfl | true => exact absurd (hb.1 rfl) h
 have hpl := hp.1;by_cases hv : p.vars = q.vars
 ·by_cases hl : p.terms.length = q.terms.length
  ·(repeat' (first |refine qv ?_ |apply qn |apply qs |apply qr |refine qe ?_ |(refine AU rfl ?_ ?_ <;> intro _ <;> try (exfalso; omega)) |apply qb |apply qk |(refine Ay rfl rfl ?_ ?_ <;> intro _ <;> try (exfalso; omega))));refine AWP.loop (G := Nat) (fun i => i ≤ p.terms.length ∧ ∀ (j : Nat) (x y : TZ), j < i → p.terms[j]? = some x → q.terms[j]? = some y → x = y) (fun i => AO [] [(2, .ptr 2 0), (3, .ptr 3 0), (5, aN i)] [(2, .cells [aN p.vars, .sl 3 eT p.terms] 105), (3, .cells [aN q.vars, .sl 3 eT q.terms] 105)]) (fun i => p.terms.length - i) 0 ⟨by omega, fun j x y h => by omega⟩ ?_ ?_
   ·refine Ent.of [] ?_ ?_ rfl rfl;(repeat' (first |exact True.intro |refine ⟨⟨AA _, rfl⟩, ?_⟩ |refine ⟨⟨⟨_, rfl, BLe.cells (AB _)⟩, rfl⟩, ?_⟩|fail))
   ·intro i ⟨k0, k1⟩;by_cases hi : i < p.terms.length
    ·obtain ⟨x, hx⟩ : ∃ x, p.terms[i]? = some x := ⟨_, List.getElem?_eq_getElem hi⟩;obtain ⟨y, hy⟩ : ∃ y, q.terms[i]? = some y := ⟨_, List.getElem?_eq_getElem (by omega)⟩;have hxm := hp.2 x (List.mem_of_getElem? hx);have hym := hq y (List.mem_of_getElem? hy);have hbad : ¬ x = y → false = b := fun h => hfalse fun e => h (by subst e; rw [hx] at hy; injection hy);obtain ⟨f, hf⟩ := boolOf (fun u : Z × Z => u.1 = u.2);have hz := rSameZ_ok x.c y.c hxm.1 hym (f (x.c, y.c)) (hf _);have he := rSameE_ok x.e y.e hxm.2;by_cases hc : x.c = y.c
     ·rw [(hf (x.c, y.c)).2 hc] at hz;by_cases hee : x.e = y.e
      ·rw [decide_eq_true hee] at he;(repeat' (first |refine qv ?_ |apply qn |apply qs |apply qr |(refine AD rfl ?_ ?_ <;> intro _ <;> try (exfalso; omega)) |apply qb |apply qk |refine qK ?_|fail));refine qc (hz) ?_;(repeat' (first |refine qv ?_ |refine qK ?_|fail));refine qc (he) ?_;(repeat' (first |refine qv ?_ |apply qn |refine Fl.nil (fun _ => by kernel_rfl) ?_ |apply qr |refine qw ?_ |refine AF rfl ?_ |apply qk));refine LoopEnd.of (i + 1) ⟨by omega, fun j u v hj hu hv => ?_⟩ (by omega) ?_
       ·by_cases hji : j < i
        ·exact k1 j u v hji hu hv
        ·have : j = i := by omega
         subst this;rw [hx] at hu; rw [hy] at hv; cases hu; cases hv; exact t_eq hc hee
       ·refine Ent.of [] ?_ ?_ rfl rfl;(repeat' (first |exact True.intro |refine ⟨⟨AA _, rfl⟩, ?_⟩ |refine ⟨⟨⟨_, rfl, BLe.cells (AB _)⟩, rfl⟩, ?_⟩|fail))
      ·rw [decide_eq_false hee] at he;(repeat' (first |refine qv ?_ |apply qn |apply qs |apply qr |(refine AD rfl ?_ ?_ <;> intro _ <;> try (exfalso; omega)) |apply qb |apply qk |refine qK ?_|fail));refine qc (hz) ?_;(repeat' (first |refine qv ?_ |refine qK ?_|fail));refine qc (he) ?_;(repeat' (first |refine qv ?_ |apply qn |refine Fl.nil (fun _ => by kernel_rfl) ?_ |apply qs |apply qr |refine AM rfl ?_ |apply qt));exact RetOk.of rfl (AV.Le.bool (hbad fun e => hee (by rw [e])))
     ·rw [show f (x.c, y.c) = false from Bool.eq_false_iff.2 fun h => hc ((hf _).1 h)] at hz;(repeat' (first |refine qv ?_ |apply qn |apply qs |apply qr |(refine AD rfl ?_ ?_ <;> intro _ <;> try (exfalso; omega)) |apply qb |apply qk |refine qK ?_|fail));refine qc (hz) ?_;(repeat' (first |refine qv ?_ |apply qn |refine Fl.nil (fun _ => by kernel_rfl) ?_ |apply qs |apply qr |refine Fl.skip rfl rfl ?_ |refine AM rfl ?_ |apply qt));exact RetOk.of rfl (AV.Le.bool (hbad fun e => hc (by rw [e])))
    ·(repeat' (first |refine qv ?_ |apply qn |apply qs |apply qr |(refine AD rfl ?_ ?_ <;> intro _ <;> try (exfalso; omega)) |apply qx |apply qt));exact RetOk.of rfl (AV.Le.bool (Eq.symm (hb.2 (p_eq hv (get_eq hl fun j x y hj => k1 j x y (by omega))))))
  ·(repeat' (first |refine qv ?_ |apply qn |apply qs |apply qr |refine qe ?_ |(refine AU rfl ?_ ?_ <;> intro _ <;> try (exfalso; omega)) |apply qt |(refine Ay rfl rfl ?_ ?_ <;> intro _ <;> try (exfalso; omega))));exact RetOk.of rfl (AV.Le.bool (hfalse fun e => hl (by rw [e])))
 ·(repeat' (first |refine qv ?_ |apply qn |apply qs |apply qr |refine qe ?_ |refine Fl.skip rfl rfl ?_ |refine AM rfl ?_ |apply qt |(refine Ay rfl rfl ?_ ?_ <;> intro _ <;> try (exfalso; omega))));exact RetOk.of rfl (AV.Le.bool (hfalse fun e => hv (by rw [e])))
theorem rSameL_ok (p q : LZ) (hp : SmL p) (hq : WL q) (b : Bool) (hb : b = true ↔ p = q) : PureFn Tryz.prog 58 [aL p, aL q] (aB b) := by
 refine AC Tryz.func58 rfl Tryz.ntmps58 rfl rfl ?_
 have hfalse : ¬ p = q → false = b := fun h => by cases b with | false => rfl | true => exact absurd (hb.1 rfl) h
 obtain ⟨g1, g2, g3⟩ := hp;have he := rSameE_ok p.vars q.vars g1;by_cases hk : p.kind = q.kind
 ·by_cases hv : p.vars = q.vars
  ·rw [decide_eq_true hv] at he;by_cases hl : p.polys.length = q.polys.length
   ·(repeat' (first |refine qv ?_ |apply qn |apply qs |apply qr |refine qe ?_ |(refine Ay rfl rfl ?_ ?_ <;> intro _ <;> try (exfalso; omega))));refine qc (he) ?_;(repeat' (first |refine qv ?_ |apply qn |apply qs |apply qr |(refine AU rfl ?_ ?_ <;> intro _ <;> try (exfalso; omega)) |apply qb |apply qk));refine AWP.loop (G := Nat) (fun i => i ≤ p.polys.length ∧ ∀ (j : Nat) (x y : PZ), j < i → p.polys[j]? = some x → q.polys[j]? = some y → x = y) (fun i => AO [] [(2, .ptr 2 0), (3, .ptr 3 0), (5, aN i)] [(2, .cells (eL p) 99), (3, .cells (eL q) 99)]) (fun i => p.polys.length - i) 0 ⟨by omega, fun j x y h => by omega⟩ ?_ ?_
    ·refine Ent.of [] ?_ ?_ rfl rfl;(repeat' (first |exact True.intro |refine ⟨⟨AA _, rfl⟩, ?_⟩ |refine ⟨⟨⟨_, rfl, BLe.cells (AB _)⟩, rfl⟩, ?_⟩|fail))
    ·intro i ⟨k0, k1⟩;by_cases hi : i < p.polys.length
     ·obtain ⟨x, hx⟩ : ∃ x, p.polys[i]? = some x := ⟨_, List.getElem?_eq_getElem hi⟩;obtain ⟨y, hy⟩ : ∃ y, q.polys[i]? = some y := ⟨_, List.getElem?_eq_getElem (by omega)⟩;have hxm := g3 x (List.mem_of_getElem? hx);have hym := hq y (List.mem_of_getElem? hy);obtain ⟨f, hf⟩ := boolOf (fun u : PZ × PZ => u.1 = u.2);have hz := rSameP_ok x y hxm hym (f (x, y)) (hf _);by_cases hc : x = y
      ·rw [(hf (x, y)).2 hc] at hz;(repeat' (first |refine qv ?_ |apply qn |apply qs |apply qr |(refine AD rfl ?_ ?_ <;> intro _ <;> try (exfalso; omega)) |apply qb |apply qk |refine qK ?_|fail));refine qc (hz) ?_;(repeat' (first |refine qv ?_ |apply qn |refine Fl.nil (fun _ => by kernel_rfl) ?_ |apply qr |refine qw ?_ |refine AF rfl ?_ |apply qk));refine LoopEnd.of (i + 1) ⟨by omega, fun j u v hj hu hv => ?_⟩ (by omega) ?_
       ·by_cases hji : j < i
        ·exact k1 j u v hji hu hv
        ·have : j = i := by omega
         subst this;rw [hx] at hu; rw [hy] at hv; cases hu; cases hv; exact hc
       ·refine Ent.of [] ?_ ?_ rfl rfl;(repeat' (first |exact True.intro |refine ⟨⟨AA _, rfl⟩, ?_⟩ |refine ⟨⟨⟨_, rfl, BLe.cells (AB _)⟩, rfl⟩, ?_⟩|fail))
      ·rw [show f (x, y) = false from Bool.eq_false_iff.2 fun h => hc ((hf _).1 h)] at hz;(repeat' (first |refine qv ?_ |apply qn |apply qs |apply qr |(refine AD rfl ?_ ?_ <;> intro _ <;> try (exfalso; omega)) |apply qb |apply qk |refine qK ?_|fail));refine qc (hz) ?_;(repeat' (first |refine qv ?_ |apply qn |refine Fl.nil (fun _ => by kernel_rfl) ?_ |apply qs |apply qr |refine AM rfl ?_ |apply qt));exact RetOk.of rfl (AV.Le.bool (hfalse fun e => hc (by subst e; rw [hx] at hy; injection hy)))
     ·(repeat' (first |refine qv ?_ |apply qn |apply qs |apply qr |(refine AD rfl ?_ ?_ <;> intro _ <;> try (exfalso; omega)) |apply qx |apply qt));exact RetOk.of rfl (AV.Le.bool (Eq.symm (hb.2 (l_eq hk hv (get_eq hl fun j x y hj => k1 j x y (by omega))))))
   ·(repeat' (first |refine qv ?_ |apply qn |apply qs |apply qr |refine qe ?_ |(refine Ay rfl rfl ?_ ?_ <;> intro _ <;> try (exfalso; omega))));refine qc (he) ?_;(repeat' (first |refine qv ?_ |apply qn |apply qs |apply qr |(refine AU rfl ?_ ?_ <;> intro _ <;> try (exfalso; omega)) |apply qt));exact RetOk.of rfl (AV.Le.bool (hfalse fun e => hl (by rw [e])))
  ·rw [decide_eq_false hv] at he;(repeat' (first |refine qv ?_ |apply qn |apply qs |apply qr |refine qe ?_ |(refine Ay rfl rfl ?_ ?_ <;> intro _ <;> try (exfalso; omega))));refine qc (he) ?_;(repeat' (first |refine qv ?_ |apply qn |apply qs |apply qr |refine Fl.skip rfl rfl ?_ |refine AM rfl ?_ |apply qt));exact RetOk.of rfl (AV.Le.bool (hfalse fun e => hv (by rw [e])))
 ·(repeat' (first |refine qv ?_ |apply qn |apply qs |apply qr |refine qe ?_ |refine Fl.skip rfl rfl ?_ |refine AM rfl ?_ |apply qt |(refine Ay rfl rfl ?_ ?_ <;> intro _ <;> try (exfalso; omega))));exact RetOk.of rfl (AV.Le.bool (hfalse fun e => hk (by rw [e])))
theorem rSameS_ok (p q : SZ) (hp : SmS p) (hq : WS q) (b : Bool) (hb : b = true ↔ p = q) : PureFn Tryz.prog 24 [aS p, aS q] (aB b) := by
 refine AC Tryz.func24 rfl Tryz.ntmps24 rfl rfl ?_
 have hfalse : ¬ p = q → false = b := fun h => by cases b with | false => rfl | true => exact absurd (hb.1 rfl) h
 have hpl := hp.1;by_cases hv : p.vars = q.vars
 ·by_cases hl : p.links.length = q.links.length
  ·(repeat' (first |refine qv ?_ |apply qn |apply qs |apply qr |refine qe ?_ |(refine AU rfl ?_ ?_ <;> intro _ <;> try (exfalso; omega)) |apply qb |apply qk |(refine Ay rfl rfl ?_ ?_ <;> intro _ <;> try (exfalso; omega))));refine AWP.loop (G := Nat) (fun i => i ≤ p.links.length ∧ ∀ (j : Nat) (x y : LZ), j < i → p.links[j]? = some x → q.links[j]? = some y → x = y) (fun i => AO [] [(2, .ptr 2 0), (3, .ptr 3 0), (5, aN i)] [(2, .cells [aN p.vars, .sl 3 eL p.links] 39), (3, .cells [aN q.vars, .sl 3 eL q.links] 39)]) (fun i => p.links.length - i) 0 ⟨by omega, fun j x y h => by omega⟩ ?_ ?_
   ·refine Ent.of [] ?_ ?_ rfl rfl;(repeat' (first |exact True.intro |refine ⟨⟨AA _, rfl⟩, ?_⟩ |refine ⟨⟨⟨_, rfl, BLe.cells (AB _)⟩, rfl⟩, ?_⟩|fail))
   ·intro i ⟨k0, k1⟩;by_cases hi : i < p.links.length
    ·obtain ⟨x, hx⟩ : ∃ x, p.links[i]? = some x := ⟨_, List.getElem?_eq_getElem hi⟩;obtain ⟨y, hy⟩ : ∃ y, q.links[i]? = some y := ⟨_, List.getElem?_eq_getElem (by omega)⟩;have hxm := hp.2 x (List.mem_of_getElem? hx);have hym := hq y (List.mem_of_getElem? hy);obtain ⟨f, hf⟩ := boolOf (fun u : LZ × LZ => u.1 = u.2);have hz := rSameL_ok x y hxm hym (f (x, y)) (hf _);by_cases hc : x = y
     ·rw [(hf (x, y)).2 hc] at hz;(repeat' (first |refine qv ?_ |apply qn |apply qs |apply qr |(refine AD rfl ?_ ?_ <;> intro _ <;> try (exfalso; omega)) |apply qb |apply qk |refine qK ?_|fail));refine qc (hz) ?_;(repeat' (first |refine qv ?_ |apply qn |refine Fl.nil (fun _ => by kernel_rfl) ?_ |apply qr |refine qw ?_ |refine AF rfl ?_ |apply qk));refine LoopEnd.of (i + 1) ⟨by omega, fun j u v hj hu hv => ?_⟩ (by omega) ?_
      ·by_cases hji : j < i
       ·exact k1 j u v hji hu hv
       ·have : j = i := by omega
        subst this;rw [hx] at hu; rw [hy] at hv; cases hu; cases hv; exact hc
      ·refine Ent.of [] ?_ ?_ rfl rfl;(repeat' (first |exact True.intro |refine ⟨⟨AA _, rfl⟩, ?_⟩ |refine ⟨⟨⟨_, rfl, BLe.cells (AB _)⟩, rfl⟩, ?_⟩|fail))
     ·rw [show f (x, y) = false from Bool.eq_false_iff.2 fun h => hc ((hf _).1 h)] at hz;(repeat' (first |refine qv ?_ |apply qn |apply qs |apply qr |(refine AD rfl ?_ ?_ <;> intro _ <;> try (exfalso; omega)) |apply qb |apply qk |refine qK ?_|fail));refine qc (hz) ?_;(repeat' (first |refine qv ?_ |apply qn |refine Fl.nil (fun _ => by kernel_rfl) ?_ |apply qs |apply qr |refine AM rfl ?_ |apply qt));exact RetOk.of rfl (AV.Le.bool (hfalse fun e => hc (by subst e; rw [hx] at hy; injection hy)))
    ·(repeat' (first |refine qv ?_ |apply qn |apply qs |apply qr |(refine AD rfl ?_ ?_ <;> intro _ <;> try (exfalso; omega)) |apply qx |apply qt));exact RetOk.of rfl (AV.Le.bool (Eq.symm (hb.2 (s_eq hv (get_eq hl fun j x y hj => k1 j x y (by omega))))))
  ·(repeat' (first |refine qv ?_ |apply qn |apply qs |apply qr |refine qe ?_ |(refine AU rfl ?_ ?_ <;> intro _ <;> try (exfalso; omega)) |apply qt |(refine Ay rfl rfl ?_ ?_ <;> intro _ <;> try (exfalso; omega))));exact RetOk.of rfl (AV.Le.bool (hfalse fun e => hl (by rw [e])))
 ·(repeat' (first |refine qv ?_ |apply qn |apply qs |apply qr |refine qe ?_ |refine Fl.skip rfl rfl ?_ |refine AM rfl ?_ |apply qt |(refine Ay rfl rfl ?_ ?_ <;> intro _ <;> try (exfalso; omega))));exact RetOk.of rfl (AV.Le.bool (hfalse fun e => hv (by rw [e])))
end Go.Proofs.YtmmfloplhopioaaGreat
/- HistorySystems. -/
namespace Go.Proofs.YtmmfloplhopioaaGreat
open Go.AL
theorem hs_smS (m : MZ) (hm : OkMZ m) (x : List Int) (hx : OkIn m x) : SmS (hsS m x) := by
 refine ⟨by have := (hs_ok hm hx).len; omega, fun l hl => ?_⟩;obtain ⟨k, hk, rfl⟩ := List.mem_map.1 hl;have hV := hm.V32;obtain ⟨h1, h2, h3⟩ := Cz hm hx k hk
 have hn : BQ k.1 ≤ 3 := by unfold BQ; repeat' split <;> omega
 have ho : (occL m.V k.2).length ≤ m.V := by
  have := List.length_filter_le (fun i => k.2.any fun p => p.any fun u => decide (0 < u.2.getD i 0)) (List.range m.V);rw [List.length_range] at this;exact this
 refine ⟨by simp only [A7, List.length_map]; omega, by simp only [A7, List.length_map]; omega, fun p hp => ?_⟩;obtain ⟨q, hq, rfl⟩ := List.mem_map.1 hp;have s := h3 q hq;refine ⟨by simp only [mkP, Dc, List.length_map]; have := s.ln; omega, fun t ht => ?_⟩;obtain ⟨u, hu, rfl⟩ := List.mem_map.1 ht;obtain ⟨w, hw, rfl⟩ := List.mem_map.1 hu;refine ⟨⟨Am _, ?_⟩, by show (Ck (occL m.V k.2) w.2).length ≤ _; simp only [Ck, List.length_map]; omega⟩;have := (szOkT s (by omega) (by omega) w hw).2.2;show lenI w.1 ≤ 1000000;omega
abbrev nilS : AV := .agg [aN 0, .v (.slice none 0 0)]
theorem sameNil_ok : PureFn Tryz.prog 24 [nilS, nilS] (aB true) :=
 (rSameS_ok ⟨0, []⟩ ⟨0, []⟩ ⟨by simp, fun l hl => by simp at hl⟩ (fun l hl => by simp at hl) true ⟨fun _ => rfl, fun _ => rfl⟩).le (LeL.cons (AV.Le.agg (LeL.cons (AA _) (LeL.cons (AV.Le.nil _ _) LeL.nil))) (LeL.cons (AV.Le.agg (LeL.cons (AA _) (LeL.cons (AV.Le.nil _ _) LeL.nil))) LeL.nil)) (AA _)
theorem HistorySystems_ok (m : MZ) (x : List Int) (hml : m.code.length ≤ 9223372036854775807) (hxl : x.length ≤ 9223372036854775807) : PureFn Tryz.prog 4 [aMz m, aI x] (aB true) := by
 refine AC Tryz.func4 rfl Tryz.ntmps4 rfl rfl ?_;have ca := awake14_ok;by_cases hw : 100 < m.code.length ∨ 100 < x.length
 ·have c1 := law14Wide_ok m x true ⟨fun _ => hw, fun _ => rfl⟩ hml hxl;(repeat' (first |refine qv ?_ |apply qn |apply qs |apply qr |refine qe ?_|fail));refine qc (c1) ?_;(repeat' (first |apply qn |apply qs |apply qr |refine AM rfl ?_));refine qc (ca) ?_;(repeat' (first |refine qv ?_ |apply qn |apply qt));exact RetOk.of rfl (AA _)
 ·have c1 := law14Wide_ok m x false (Iff.intro (fun k => by cases k) fun k => absurd k hw) hml hxl;by_cases hmx : OkMZ m ∧ OkIn m x
  ·obtain ⟨hm, hx⟩ := hmx;have c2 := Ec m x (by omega) (by omega) 0 (fun k => absurd hm k) (fun _ k => absurd hx k) (fun _ _ => rfl);have c3 := hSystem_ok m x hm hx;have c4 := r14System_ok m x hm hx;have c5 := rSameS_ok (hsS m x) (hsS m x) (hs_smS m hm x hx) (hsS_w hm hx) true ⟨fun _ => rfl, fun _ => rfl⟩
   generalize hsS m x = S at *
   (repeat' (first |refine qv ?_ |apply qn |apply qs |apply qr |refine qe ?_|fail));refine qc (c1) ?_;(repeat' (first |refine qv ?_ |apply qn |apply qs |apply qr |refine AF rfl ?_ |apply qk));refine qc (c3) ?_;(repeat' (first |refine qv ?_ |apply qn |apply qs |apply qr |refine qe ?_|fail));refine qc (c2) ?_;(repeat' (first |refine qv ?_ |apply qn |apply qs |apply qr |refine AF rfl ?_ |apply qk |(refine AJ rfl rfl ?_ ?_ <;> intro _ <;> try (exfalso; omega))));refine qc (c4) ?_;refine qc (c5) ?_;(repeat' (first |refine qv ?_|fail));refine qc (ca) ?_;(repeat' (first |refine qv ?_ |refine Fl.nil (fun _ => by kernel_rfl) ?_ |apply qt));exact RetOk.of rfl (AA _)
  ·obtain ⟨e, he0, he, hs⟩ : ∃ e : Int, e ≠ 0 ∧ PureFn Tryz.prog 23 [aMz m, aI x] (aN e) ∧ PureFn Tryz.prog 14 [aMz m, aI x] (.tup [nilS, aN e]) := by
    by_cases k : OkMZ m
    ·have k2 : ¬ OkIn m x := fun q => hmx ⟨k, q⟩;exact ⟨2, by decide, Ec m x (by omega) (by omega) 2 (fun q => absurd k q) (fun _ _ => rfl) (fun _ q2 => absurd q2 k2), hSystem_bad m x 2 (by decide) (sizesOf_arg m x (by omega) k k2)⟩
    ·exact ⟨1, by decide, Ec m x (by omega) (by omega) 1 (fun _ => rfl) (fun q => absurd q k) (fun q => absurd q k), hSystem_bad m x 1 (by decide) (sizesOf_form m x (by omega) k)⟩
   have c5 := sameNil_ok;(repeat' (first |refine qv ?_ |apply qn |apply qs |apply qr |refine qe ?_|fail));refine qc (c1) ?_;(repeat' (first |refine qv ?_ |apply qn |apply qs |apply qr |refine AF rfl ?_ |apply qk));refine qc (hs) ?_;(repeat' (first |refine qv ?_ |apply qn |apply qs |apply qr |refine qe ?_|fail));refine qc (he) ?_;(repeat' (first |refine qv ?_ |apply qn |apply qs |apply qr |refine qe ?_ |(refine AU rfl ?_ ?_ <;> intro _ <;> try (exfalso; omega)) |(refine AJ rfl rfl ?_ ?_ <;> intro _ <;> try (exfalso; omega))));refine Fl.call rfl c5 rfl rfl rfl (AB _) ?_;(repeat' (first |refine qv ?_|fail));refine qc (ca) ?_;(repeat' (first |refine qv ?_ |apply qn |apply qt));exact RetOk.of rfl (AA _)
end Go.Proofs.YtmmfloplhopioaaGreat
/- Arguments that are lists of numbers. -/
namespace Go.Proofs.YtmmfloplhopioaaGreat
open Go.AL Go.ChangeShapes Go.WideShapes Go.ChangeAt Go.RowKit
section
variable {H : Type} {enc : TypeId × Value → H} {w : World} {base : Nat} {spare : Nat → Bool} {held : Bool}
end
end Go.Proofs.YtmmfloplhopioaaGreat
/- Arguments that are machines and lists of ints. -/
namespace Go.AL
theorem list4 {α : Type} {l : List α} (h : l.length = 4) : ∃ a b c d, l = [a, b, c, d] := by
 match l, h with
 | [a, b, c, d], _ => exact ⟨a, b, c, d, rfl⟩
end Go.AL
namespace Go.Proofs.YtmmfloplhopioaaGreat
open Go.AL Go.ChangeShapes Go.WideShapes Go.ChangeAt Go.RowKit
section
variable {H : Type} {enc : TypeId × Value → H} {w : World} {base : Nat} {spare : Nat → Bool} {held : Bool}
theorem trodIsM {fuel : Nat} {cs : List Value} {x : DataW H × List MemPlace} (h : DataW.trod enc Tryz.prog w base spare held fuel 25 cs = some x) : ∃ (xs : List Int) (u : Value), cs = [u] ∧ Rep (hpOf w) noB (aI xs) u ∧ xs.length ≤ maxLen := by
 obtain ⟨xs, u, h1, h2, _, h3⟩ := trodSlice 1 eI (fun n => True) Tryz.underlying25 (by kernel_rfl) (fun fuel us y _ hy => by
  obtain ⟨n, rfl, hn⟩ := trodInt Tryz.underlying3 hy
  exact ⟨n, ⟨_, _, rfl, by simp only [Rep], rfl⟩, trivial⟩) h
 exact ⟨xs, u, h1, h2, h3⟩
theorem trodIn {fuel : Nat} {cs : List Value} {x : DataW H × List MemPlace} (h : DataW.trod enc Tryz.prog w base spare held fuel 77 cs = some x) : ∃ z : IZ, RepL (hpOf w) noB (eIz z) cs ∧ True := by
 obtain ⟨y0, y1, y2, y3, n, _, hl, h0, h1, h2, h3⟩ := Go.Joins.trod_struct4 Tryz.underlying77 h
 have hc : Tryz.prog.cellsOf 77 = 4 := by kernel_rfl
 have hb : Tryz.prog.cellsOf 3 = 1 := by kernel_rfl
 rw [hc] at hl;obtain ⟨c0, c1, c2, c3, rfl⟩ := list4 hl;simp only [hb, List.drop_zero, List.take_succ_cons, List.take_zero, List.drop_succ_cons] at h0 h1 h2 h3;obtain ⟨a, e0, _⟩ := trodInt Tryz.underlying3 h0;obtain ⟨b, e1, _⟩ := trodInt Tryz.underlying3 h1;obtain ⟨c, e2, _⟩ := trodInt Tryz.underlying3 h2;obtain ⟨d, e3, _⟩ := trodInt Tryz.underlying3 h3;injection e0 with e0; injection e1 with e1; injection e2 with e2; injection e3 with e3;subst e0 e1 e2 e3;exact ⟨⟨a, b, c, d⟩, ⟨_, _, rfl, by simp only [Rep], ⟨_, _, rfl, by simp only [Rep], ⟨_, _, rfl, by simp only [Rep], ⟨_, _, rfl, by simp only [Rep], rfl⟩⟩⟩⟩, trivial⟩
theorem trodMz {fuel : Nat} {cs : List Value} {x : DataW H × List MemPlace} (h : DataW.trod enc Tryz.prog w base spare held fuel 24 cs = some x) : ∃ m : MZ, RepL (hpOf w) noB (eMz m) cs ∧ m.code.length ≤ maxLen := by
 obtain ⟨y0, y1, n, _, hl, h0, h1⟩ := trod_struct2 Tryz.underlying24 h
 have hc : Tryz.prog.cellsOf 24 = 2 := by kernel_rfl
 have hb : Tryz.prog.cellsOf 3 = 1 := by kernel_rfl
 have hs : Tryz.prog.cellsOf 22 = 1 := by kernel_rfl
 rw [hc] at hl;obtain ⟨c0, c1, rfl⟩ := list2 hl;simp only [hb, hs, List.drop_zero, List.take_succ_cons, List.take_zero, List.drop_succ_cons] at h0 h1;obtain ⟨a, e0, _⟩ := trodInt Tryz.underlying3 h0;obtain ⟨xs, u, e1, hr, _, hm⟩ := trodSlice 4 eIz (fun _ => True) Tryz.underlying22 (by kernel_rfl) (fun fuel us y _ hy => trodIn hy) h1;injection e0 with e0; injection e1 with e1; subst e0 e1;exact ⟨⟨a, xs⟩, ⟨_, _, rfl, by simp only [Rep], ⟨_, _, rfl, hr, rfl⟩⟩, hm⟩
end
end Go.Proofs.YtmmfloplhopioaaGreat

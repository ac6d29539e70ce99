/- Part 5 of a proof layer and of the contracts of the functions. -/
import Derived.Laws.StructEq
import Derived.Test.YtmmfloplhopioaaGreatW4
set_option linter.unusedVariables false
set_option linter.unusedSimpArgs false
/- Division by words: plain. -/
namespace Go.AL
theorem kn_step {q r v1 v2 top u2 un V U Q Bn : Int} (hqr : q * v1 + r = top) (hr : 0 ≤ r) (hBn : 0 < Bn) (hV : (v1 * 4294967296 + v2) * Bn ≤ V) (hU : U < (top * 4294967296 + u2 + 1) * Bn) (hQ : Q * V ≤ U) (hQB : Q < 4294967296) (hV0 : 0 < V) (hv1 : 0 < v1) (hv2 : 0 ≤ v2) (hq0 : 0 ≤ q)
  (h : 4294967296 ≤ q ∨ r * 4294967296 + u2 < q * v2) : Q ≤ q - 1 := by
 rcases h with h | h
 ·omega
 ·have h1 : (q * v1 * 4294967296 + q * v2) * Bn ≤ q * V := by
   have e : (q * v1 * 4294967296 + q * v2) * Bn = q * ((v1 * 4294967296 + v2) * Bn) := by grind
   rw [e];exact Int.mul_le_mul_of_nonneg_left hV hq0
  have h2 : (top * 4294967296 + u2 + 1) * Bn ≤ (q * v1 * 4294967296 + q * v2) * Bn := by
   refine Int.mul_le_mul_of_nonneg_right ?_ (by omega)
   have : top * 4294967296 = q * v1 * 4294967296 + r * 4294967296 := by rw [← hqr]; grind
   omega
  have h3 : Q * V < q * V := by omega
  have h4 : Q < q := Int.lt_of_mul_lt_mul_right h3 (by omega);omega
theorem kn_stop {q r v1 v2 top u2 V U Q Bn : Int} (hqr : q * v1 + r = top) (hBn : 0 < Bn) (hV : V < (v1 * 4294967296 + v2 + 1) * Bn) (hVB : 4294967296 * Bn ≤ V) (hU : (top * 4294967296 + u2) * Bn ≤ U) (hQ : U < (Q + 1) * V) (hV0 : 0 < V) (hq0 : 0 ≤ q) (hqB : q < 4294967296)
  (h : q * v2 ≤ r * 4294967296 + u2) (hQ0 : 0 ≤ Q) : q ≤ Q + 1 := by
 have h1 : q * V ≤ q * ((v1 * 4294967296 + v2 + 1) * Bn) := Int.mul_le_mul_of_nonneg_left (by omega) hq0
 have h2 : q * ((v1 * 4294967296 + v2 + 1) * Bn) ≤ (top * 4294967296 + u2) * Bn + 4294967296 * Bn := by
  have e : q * ((v1 * 4294967296 + v2 + 1) * Bn) = (q * v1 * 4294967296 + q * v2 + q) * Bn := by grind
  rw [e, ← Int.add_mul];refine Int.mul_le_mul_of_nonneg_right ?_ (by omega)
  have : top * 4294967296 = q * v1 * 4294967296 + r * 4294967296 := by rw [← hqr]; grind
  omega
 have h3 : q * V ≤ U + V := by omega
 have h4 : q * V < (Q + 1) * V + V := by omega
 have h5 : q * V < (Q + 2) * V := by
  have : (Q + 2) * V = (Q + 1) * V + V := by grind
  omega
 have h6 : q < Q + 2 := Int.lt_of_mul_lt_mul_right h5 (by omega);omega
end Go.AL
/- Division by words: a digit's subtraction; words of a given number. -/
namespace Go.AL
def wdW : Nat → Int → List Int
  | 0, _ => []
  | n + 1, z => z % 4294967296 :: wdW n (z / 4294967296)
theorem wdW_length : ∀ (n : Nat) (z : Int), (wdW n z).length = n
 | 0, _ => rfl
 | n + 1, z => by simp [wdW, wdW_length n]
theorem wdW_ok : ∀ (n : Nat) (z : Int), WOk (wdW n z)
 | 0, _ => WOk.nil
 | n + 1, z => WOk.cons (by omega) (by omega) (wdW_ok n _)
theorem val_wdW : ∀ (n : Nat) (z : Int), 0 ≤ z → z < BB n → val (wdW n z) = z
 | 0, z, h0, h1 => by simp only [D1] at h1; simp only [wdW, val]; omega
 | n + 1, z, h0, h1 => by
  rw [BO] at h1;have := val_wdW n (z / 4294967296) (by omega) (by omega);simp only [wdW, val, this]; omega
theorem wdW_eq : ∀ {l : List Int}, WOk l → l = wdW l.length (val l)
 | [], _ => rfl
 | x :: l, h => by
  have h1 := h.head;have ih := wdW_eq h.tail;simp only [List.length_cons, wdW, val]
  have e1 : (x + 4294967296 * val l) % 4294967296 = x := by omega
  have e2 : (x + 4294967296 * val l) / 4294967296 = val l := by omega
  rw [e1, e2, ← ih]
end Go.AL
/- Division by words: the highest words; a digit's end. -/
namespace Go.AL
theorem take_top {l : List Int} {k : Nat} {x : Int} (h : l[k]? = some x) : l.take (k + 1) = l.take k ++ [x] := by rw [List.take_add_one, h]; rfl
theorem val_top {l : List Int} {k : Nat} {x : Int} (h : l[k]? = some x) : val (l.take (k + 1)) = val (l.take k) + BB k * x := by
 have hl : (l.take k).length = k := by have := (List.getElem?_eq_some_iff.1 h).1; simp; omega
 rw [take_top h, CR, hl]
theorem val_bounds {l : List Int} {k : Nat} (w : WOk l) (h : k ≤ l.length) : 0 ≤ val (l.take k) ∧ val (l.take k) < BB k := by
 refine ⟨Aw (w.take k), ?_⟩;have := DV (w.take k);rwa [List.length_take, Nat.min_eq_left h] at this
theorem dig_facts {m v : List Int} {k : Nat} (hm : m.length = k + 3) (hv : v.length = k + 2) (wm : WOk m) (wv : WOk v) {un u1 u2 v1 v2 : Int} (e0 : m[k + 2]? = some un) (e1 : m[k + 1]? = some u1) (e2 : m[k]? = some u2) (f1 : v[k + 1]? = some v1) (f2 : v[k]? = some v2) :
  (v1 * 4294967296 + v2) * BB k ≤ val v ∧ val v < (v1 * 4294967296 + v2 + 1) * BB k ∧ ((un * 4294967296 + u1) * 4294967296 + u2) * BB k ≤ val m ∧ val m < ((un * 4294967296 + u1) * 4294967296 + u2 + 1) * BB k := by
 have h1 : val v = val (v.take k) + BB k * v2 + BB (k + 1) * v1 := by
  have a := val_top f1;rw [show k + 1 + 1 = k + 2 from rfl, ← hv, List.take_length, val_top f2] at a;exact a
 have h2 : val m = val (m.take k) + BB k * u2 + BB (k + 1) * u1 + BB (k + 2) * un := by
  have a := val_top e0;rw [show k + 2 + 1 = k + 3 from rfl, ← hm, List.take_length, show k + 2 = k + 1 + 1 from rfl, val_top e1, val_top e2] at a;exact a
 have b1 := val_bounds (k := k) wv (by omega);have b2 := val_bounds (k := k) wm (by omega);rw [show k + 2 = k + 1 + 1 from rfl] at h2;simp only [BO] at h1 h2;rw [h1, h2];refine ⟨?_, ?_, ?_, ?_⟩ <;> grind
theorem quo_between {U V q : Int} (hV : 0 < V) (h1 : q * V ≤ U) (h2 : U < (q + 1) * V) : q = U / V := by
 have a : U / V * V ≤ U := by have := Int.mul_ediv_add_emod U V; have := Int.emod_nonneg U (show V ≠ 0 by omega); have e : V * (U / V) = U / V * V := Int.mul_comm _ _; omega
 have b : U < (U / V + 1) * V := by
  have := Int.mul_ediv_add_emod U V;have := Int.emod_lt_of_pos U hV;have e : V * (U / V) = U / V * V := Int.mul_comm _ _;rw [Int.add_mul]; omega
 have c : q < U / V + 1 := Int.lt_of_mul_lt_mul_right (Int.lt_of_le_of_lt h1 b) (by omega);have d : U / V < q + 1 := Int.lt_of_mul_lt_mul_right (Int.lt_of_le_of_lt a h2) (by omega);omega
theorem quo_spec {U V : Int} (hV : 0 < V) (hU : 0 ≤ U) : U / V * V ≤ U ∧ U < (U / V + 1) * V ∧ 0 ≤ U / V ∧ U % V = U - U / V * V := by
 have h1 := Int.mul_ediv_add_emod U V;have h2 := Int.emod_nonneg U (show V ≠ 0 by omega);have h3 := Int.emod_lt_of_pos U hV;have e : V * (U / V) = U / V * V := Int.mul_comm _ _;refine ⟨by omega, by rw [Int.add_mul]; omega, Int.ediv_nonneg hU (by omega), by omega⟩
end Go.AL
/- Division by a word, shifts by binary digits: plain. -/
namespace Go.AL
theorem over_step {A os : List Int} {i : Nat} {b r x : Int} (hx : A[i]? = some x) (h : val (A.drop (i + 1)) = val os * b + r) :
  val (A.drop i) = val ((r * 4294967296 + x) / b :: os) * b + (r * 4294967296 + x) % b := by
 have hd : A.drop i = x :: A.drop (i + 1) := by
  have hi := (List.getElem?_eq_some_iff.1 hx);rw [List.drop_eq_getElem_cons hi.1, hi.2]
 have hm := Int.mul_ediv_add_emod (r * 4294967296 + x) b;rw [hd];simp only [val];rw [h];grind
theorem over_word {b r x : Int} (hb : 0 < b) (h0 : 0 ≤ r) (h1 : r < b) (h2 : 0 ≤ x) (h3 : x < 4294967296) : 0 ≤ (r * 4294967296 + x) / b ∧ (r * 4294967296 + x) / b < 4294967296 := by
 refine ⟨Int.ediv_nonneg (by omega) (by omega), Int.ediv_lt_of_lt_mul hb ?_⟩
 have : r * 4294967296 + x < (r + 1) * 4294967296 := by omega
 have h4 : (r + 1) * 4294967296 ≤ b * 4294967296 := Int.mul_le_mul_of_nonneg_right (by omega) (by omega);rw [Int.mul_comm]; omega
theorem over_end {V Q b r : Int} (h : V = Q * b + r) (h0 : 0 ≤ r) (h1 : r < b) : Q = V / b ∧ r = V % b := by
 have hq : Q = V / b := quo_between (by omega) (by omega) (by rw [Int.add_mul]; omega);refine ⟨hq, ?_⟩;have := Int.mul_ediv_add_emod V b;have e : b * (V / b) = V / b * b := Int.mul_comm _ _;rw [← hq] at e;rw [← hq] at this;omega
theorem or_carry {c x : Int} {k : Nat} (hk : k < 32) (h0 : 0 ≤ c) (h1 : c < 2 ^ k) (h2 : 0 ≤ x) (h3 : x < 4294967296) : bitN .or c (x * 2 ^ k % 4294967296) = c + x * 2 ^ k % 4294967296 ∧ c + x * 2 ^ k % 4294967296 < 4294967296 := by
 have hp : (2 : Int) ^ k = ((2 ^ k : Nat) : Int) := by norm_cast
 have hs : (2 : Int) ^ 32 = 2 ^ k * 2 ^ (32 - k) := by rw [← Int.pow_add]; congr 1; omega
 have hs' : (4294967296 : Int) = 2 ^ k * 2 ^ (32 - k) := by rw [← hs]; rfl
 have e : x * 2 ^ k % 4294967296 = (x % 2 ^ (32 - k)) * 2 ^ k := by
  rw [hs', Int.mul_comm x, Int.mul_emod_mul_of_pos _ _ (Int.pow_pos (by omega)), Int.mul_comm]
 have hx := Int.emod_nonneg x (show (2 : Int) ^ (32 - k) ≠ 0 from Int.ne_of_gt (Int.pow_pos (by omega)));have hx2 := Int.emod_lt_of_pos x (show (0 : Int) < 2 ^ (32 - k) from Int.pow_pos (by omega));obtain ⟨m, hm⟩ : ∃ m : Nat, x % 2 ^ (32 - k) = m := ⟨_, (Int.toNat_of_nonneg hx).symm⟩;obtain ⟨d, hd⟩ : ∃ d : Nat, c = d := ⟨_, (Int.toNat_of_nonneg h0).symm⟩;rw [e, hm, hd];rw [hd, hp] at h1;rw [hm] at hx2;constructor
 ·show (((d : Int).toNat ||| ((m : Int) * 2 ^ k).toNat : Nat) : Int) = _
  have e2 : ((m : Int) * 2 ^ k).toNat = m <<< k := by rw [Nat.shiftLeft_eq, hp, ← Int.natCast_mul, Int.toNat_natCast]
  rw [e2, Int.toNat_natCast, Nat.or_comm, ← Nat.shiftLeft_add_eq_or_of_lt (by exact_mod_cast h1), Nat.shiftLeft_eq, hp, ← Int.natCast_mul, ← Int.natCast_add, Nat.add_comm]
 ·have h4 : ((m : Int) + 1) * 2 ^ k ≤ 2 ^ (32 - k) * 2 ^ k := Int.mul_le_mul_of_nonneg_right (by omega) (Int.le_of_lt (Int.pow_pos (by omega)));rw [Int.mul_comm (2 ^ (32 - k)), ← hs'] at h4;rw [hp] at h4 ⊢;rw [Int.add_mul] at h4;omega
end Go.AL
/- A byte of a fixed string; bits.Len32, bits.LeadingZeros32. -/
namespace Go.AL
section
variable {P : Program} {tab : Tab} {n : Nat} {s : St}
variable {ops : Array Oper} {draw : Dr} {o : Oper} {l : List Oper} {acc : List Eff} {K : Exit → St → Prop}
end
end Go.AL
namespace Go.Proofs.YtmmfloplhopioaaGreat
open Go.AL
end Go.Proofs.YtmmfloplhopioaaGreat
/- large.over, large.left, large.right (by less than a word). -/
namespace Go.AL
theorem set_zeros {i m : Nat} {q q' : Int} {os : List Int} {k : Nat} (hk : k = m) (hm : m + 1 = i) (hq : q = q') : (List.replicate i 0 ++ os).set k q = List.replicate m 0 ++ q' :: os := by
 subst hk hm hq;rw [List.replicate_succ', List.append_assoc];simp
end Go.AL
namespace Go.Proofs.YtmmfloplhopioaaGreat
open Go.AL
end Go.Proofs.YtmmfloplhopioaaGreat
/- Parts of rows: a row cut; a part of a row that is written through. -/
namespace Go.AL
section
variable {P : Program} {tab : Tab} {n : Nat} {o : Oper} {s : St}
variable {ops : Array Oper} {draw : Dr} {l : List Oper} {acc : List Eff} {K : Exit → St → Prop}
end
end Go.AL
/- large.digit: a digit of a quotient. -/
namespace Go.AL
structure DigOk (m : Nat) (mid v : List Int) : Prop where
  hm : mid.length = m + 3
  hv : v.length = m + 2
  wm : WOk mid
  wv : WOk v
  top : ∀ x, v[m + 1]? = some x → 2147483648 ≤ x
  lt : val mid < 4294967296 * val v
  big : m ≤ 50000
theorem DigOk.pos {m : Nat} {mid v : List Int} (d : DigOk m mid v) : BB (m + 1) ≤ val v ∧ val v < BB (m + 2) := by
 obtain ⟨x, hx⟩ : ∃ x, v[m + 1]? = some x := ⟨_, List.getElem?_eq_getElem (by have := d.hv; omega)⟩;have h1 := d.top x hx;have h2 := val_top hx;rw [show m + 1 + 1 = v.length by have := d.hv; omega, List.take_length] at h2;have h3 := val_bounds (k := m + 1) d.wv (by have := d.hv; omega);have h4 := DV d.wv;rw [d.hv] at h4;refine ⟨?_, h4⟩;have : BB (m + 1) * 1 ≤ BB (m + 1) * x := Int.mul_le_mul_of_nonneg_left (by omega) (Int.le_of_lt (Be _));omega
theorem DigOk.facts {m : Nat} {mid v : List Int} (d : DigOk m mid v) {un u1 u2 v1 v2 : Int} (e0 : mid[m + 2]? = some un) (e1 : mid[m + 1]? = some u1) (e2 : mid[m]? = some u2) (f1 : v[m + 1]? = some v1) (f2 : v[m]? = some v2) :
  un ≤ v1 ∧ un * 4294967296 + u1 < v1 * 4294967296 + 4294967296 := by
 obtain ⟨a, b, c, e⟩ := dig_facts d.hm d.hv d.wm d.wv e0 e1 e2 f1 f2;have h := d.lt;have w2 := d.wv.get f2;have wu1 := d.wm.get e1;have wu2 := d.wm.get e2;have hB := Be m
 have h1 : ((un * 4294967296 + u1) * 4294967296 + u2) * BB m < (4294967296 * (v1 * 4294967296 + v2 + 1)) * BB m := by
  have : 4294967296 * val v < 4294967296 * ((v1 * 4294967296 + v2 + 1) * BB m) := by omega
  have e3 : (4294967296 * (v1 * 4294967296 + v2 + 1)) * BB m = 4294967296 * ((v1 * 4294967296 + v2 + 1) * BB m) := by grind
  rw [e3]; omega
 have h2 := Int.lt_of_mul_lt_mul_right h1 (by omega);omega
theorem DigOk.down {m : Nat} {mid v : List Int} (d : DigOk m mid v) {un u1 u2 v1 v2 q r : Int} (e0 : mid[m + 2]? = some un) (e1 : mid[m + 1]? = some u1) (e2 : mid[m]? = some u2) (f1 : v[m + 1]? = some v1) (f2 : v[m]? = some v2)
  (hqr : q * v1 + r = un * 4294967296 + u1) (hr : 0 ≤ r) (hq : 0 ≤ q) (h : 4294967296 ≤ q ∨ r * 4294967296 + u2 < q * v2) : val mid / val v ≤ q - 1 := by
 obtain ⟨a, b, c, e⟩ := dig_facts d.hm d.hv d.wm d.wv e0 e1 e2 f1 f2;have hp := d.pos;have hV : 0 < val v := Int.lt_of_lt_of_le (Be _) hp.1;obtain ⟨s1, s2, s3, s4⟩ := quo_spec hV (Aw d.wm);have hQ : val mid / val v < 4294967296 := Int.ediv_lt_of_lt_mul hV d.lt;have w1 := d.top _ f1;have w2 := d.wv.get f2;exact kn_step (un := un) hqr hr (Be m) a e s1 hQ hV (by omega) w2.1 hq h
theorem DigOk.stop {m : Nat} {mid v : List Int} (d : DigOk m mid v) {un u1 u2 v1 v2 q r : Int} (e0 : mid[m + 2]? = some un) (e1 : mid[m + 1]? = some u1) (e2 : mid[m]? = some u2) (f1 : v[m + 1]? = some v1) (f2 : v[m]? = some v2)
  (hqr : q * v1 + r = un * 4294967296 + u1) (hr : 0 ≤ r) (hq : 0 ≤ q) (h : (q < 4294967296 ∧ q * v2 ≤ r * 4294967296 + u2) ∨ 4294967296 ≤ r) : q < 4294967296 ∧ q ≤ val mid / val v + 1 := by
 obtain ⟨a, b, c, e⟩ := dig_facts d.hm d.hv d.wm d.wv e0 e1 e2 f1 f2;have hf := d.facts e0 e1 e2 f1 f2;have hp := d.pos;have hV : 0 < val v := Int.lt_of_lt_of_le (Be _) hp.1;obtain ⟨s1, s2, s3, s4⟩ := quo_spec hV (Aw d.wm);have w1 := d.top _ f1;have w2 := d.wv.get f2;have wu2 := d.wm.get e2
 have hVB : 4294967296 * BB m ≤ val v := by rw [← BO]; exact hp.1
 have key : q < 4294967296 ∧ q * v2 ≤ r * 4294967296 + u2 := by
  rcases h with h | h
  ·exact h
  ·have hq2 : q < 4294967296 := by
    rcases Int.lt_or_le q 4294967296 with h1 | h1
    ·exact h1
    ·have : 4294967296 * v1 ≤ q * v1 := Int.mul_le_mul_of_nonneg_right h1 (by omega);omega
   have h3 : q * v2 ≤ 4294967295 * v2 := Int.mul_le_mul_of_nonneg_right (by omega) w2.1;exact ⟨hq2, by omega⟩
 exact ⟨key.1, kn_stop hqr (Be m) b hVB c s2 hV hq key.1 key.2 s3⟩
end Go.AL
/- large.digit: the walk. -/
namespace Go.AL
end Go.AL
namespace Go.Proofs.YtmmfloplhopioaaGreat
open Go.AL
end Go.Proofs.YtmmfloplhopioaaGreat
/- Division of long numbers: plain. -/
namespace Go.AL
structure DivInv (U : List Int) (V : Int) (n N i : Nat) (os : List Int) (ρ : Int) : Prop where
  hi : i ≤ N
  hl : os.length + i = N
  wo : WOk os
  r0 : 0 ≤ ρ
  r1 : ρ < V
  hv : val (U.drop i) = val os * V + ρ
theorem DivInv.step {U os : List Int} {V ρ : Int} {n N i : Nat} {u : Int} (d : DivInv U V n N (i + 1) os ρ) (hV : 0 < V) (hu : U[i]? = some u) (wu : WOk U) :
  DivInv U V n N i (val (u :: wdW n ρ) / V :: os) (val (u :: wdW n ρ) % V) ∨ ¬ (V < BB n) := by
 rcases Classical.em (V < BB n) with hn | hn
 ·left;have w := wu.get hu;have d0 := d.r0;have d1 := d.r1
  have hm : val (u :: wdW n ρ) = u + 4294967296 * ρ := by
   rw [val, val_wdW n ρ d0 (by omega)]
  rw [hm]
  have hlt : u + 4294967296 * ρ < 4294967296 * V := by omega
  have hdiv := Int.mul_ediv_add_emod (u + 4294967296 * ρ) V;have hm0 := Int.emod_nonneg (u + 4294967296 * ρ) (show V ≠ 0 by omega);have hm1 := Int.emod_lt_of_pos (u + 4294967296 * ρ) hV;refine ⟨by have := d.hi; omega, by have := d.hl; simp; omega, ?_, hm0, hm1, ?_⟩
  ·refine WOk.cons (Int.ediv_nonneg (by omega) (by omega)) (Int.ediv_lt_of_lt_mul hV hlt) d.wo
  ·have hd : U.drop i = u :: U.drop (i + 1) := by
    have hi := List.getElem?_eq_some_iff.1 hu;rw [List.drop_eq_getElem_cons hi.1, hi.2]
   rw [hd, val, d.hv, val]
   generalize (u + 4294967296 * ρ) / V = q at *
   generalize (u + 4294967296 * ρ) % V = r at *
   grind
 ·exact .inr hn
end Go.AL
/- large.divide: the walk. -/
namespace Go.Proofs.YtmmfloplhopioaaGreat
open Go.AL
end Go.Proofs.YtmmfloplhopioaaGreat
/- large.Div; chain.Quo, chain.Rest, chain.Power. -/
namespace Go.AL
theorem toW_one : toW 1 = [1] := by
 have := toW_cons (x := 1) (z := 0) (by omega) (by omega) (by omega) (.inl (by omega));rw [toW_zero] at this;exact this
end Go.AL
namespace Go.Proofs.YtmmfloplhopioaaGreat
open Go.AL
end Go.Proofs.YtmmfloplhopioaaGreat
/- append(nil, ..) whose result is not written; a made slice without elements. -/
namespace Go.AL
section
variable {P : Program} {tab : Tab} {n : Nat} {s : St}
variable {ops : Array Oper} {draw : Dr} {o : Oper} {l : List Oper} {acc : List Eff} {K : Exit → St → Prop}
theorem OpJ.ap0C (ht : A8 P tab) (hd : ∀ d, o.dst = some d → d < n) {x y : Operand} {t : TypeId} (hop : o.op = .call { callee := .builtin .append, args := ⟨[x, y]⟩, argTypes := ⟨[t, t]⟩ }) {e : TypeId} {i : TI} {sz' by' : Nat} {z : List Value} (hts : tab t = some ⟨.slice e, sz', by', z⟩) (hti : tab e = some i) (hsz : Nat.blt 0 i.size = true)
  (hx : opd s x = .v (.slice none 0 0)) {α : Type} (enc : α → List AV) {ys : List α} (hy : (opd s y).Le (.sl i.size enc ys)) (hyc : (opd s y).closed = true) (hone : ∀ y, BI (enc y) = true) (hel : ∀ y, (enc y).length = i.size)
  (hby : ys.length * i.bytes ≤ 140737488355328) (hm : ys.length ≤ 9223372036854775807) :
  OpJ P n o s ⟨.sl i.size enc ys, [], [], [], []⟩ := by
 refine ⟨hd, fun C s' a w h β Q K hs hbs hal k hK => ?_⟩
 have same : ∀ z : Operand, (z = x ∨ z = y) → opd s' z = opd s z := by
  intro z hz
  cases z with
  | tmp t => exact hs t (by rw [hop]; simpa [Op.operands, Call.operands] using hz)
  | _ => rfl
 have hxr := AH k x;rw [same x (.inl rfl), hx] at hxr;have hyr := AH k y;rw [same y (.inr rfl)] at hyr;have hyr := hy _ _ _ (hyr.closed (β' := noB) _ _ hyc);simp only [Rep] at hxr;obtain ⟨inf, zv, h1, h2, h3, h4, h5⟩ := (ht e i hti).info;have hu := (ht _ _ hts).und;simp only at hu
 have hzs : zv.cells.size = inf.size := by rw [← Array.length_toList, h5, (ht e i hti).zs, h2]
 have ho := World.ownsRow_nil w 0 e inf.size;rw [← h2] at hyr;obtain ⟨v', w', news, r1, r2, r3, r4, r5⟩ := Da (P := P) (ty := o.type) hu h1 h4 hzs (by rw [h2]; exact Nat.le_of_ble_eq_true hsz) ho k.evo.has hone hyr (by rw [h3, Nat.zero_add]; exact hby) (by omega);rw [← hxr] at r1;have hrun := append_exec (P := P) (o := o) hop r1;unfold Oper.wp;rw [hrun];simp only [Oper.upon];simp only [Nat.zero_add, List.nil_append] at r2;have hnb : (Value.slice none 0 0).ownBlock = none := rfl;rw [hnb] at r3 r4;have hev : Evo Dd w h w' h := evo_of k.evo.has r3.os r3.tape ⟨r3.output, run_drawn _ _ _ _ r1⟩ r3.size (fun j hj _ => r3.block j hj (by simp)) (fun g hg => hg.elim);rw [h2] at r2;have hlen : ∀ x ∈ ys, (enc x).length = i.size := fun x _ => hel x
 have key : ∃ h', h.le h' ∧ Has w' h' ∧ (∀ g, h' g ≠ none → h g ≠ none ∨ v'.ownBlock = some g) ∧ Rep h' noB (.sl i.size enc ys) v' := by
  rcases r2.2 with ⟨hv, hn⟩ | ⟨g, cap, cur, hv, _, hg, hnc, hmx, hcs, htake⟩
  ·have hx : ys = [] := List.eq_nil_of_length_eq_zero hn;subst hx;refine ⟨h, Aa h, hev.has, fun g hg => .inl hg, ?_⟩;rw [hv];exact AV.Le.nil i.size enc h noB _ (by simp only [Rep])
  ·have hgb : v'.ownBlock = some g := by simp [hv, Value.ownBlock]
   have hgn : h g = none := by
    rcases r4 with r4 | r4
    ·rw [r4] at hgb; cases hgb
    ·rw [r4] at hgb; injection hgb with hgb; subst hgb; exact CK k.evo.has (Nat.le_refl _)
   have hle : h.le (h.set g cur) := fun b cs hb' => by
    by_cases he : b = g
    ·subst he; rw [hgn] at hb'; cases hb'
    ·rw [Hp.set_ne _ _ _ _ he]; exact hb'
   refine ⟨h.set g cur, hle, fun b cs hb' => ?_, fun b hb' => ?_, ?_⟩
   ·by_cases he : b = g
    ·subst he; rw [Hp.set_same] at hb'; injection hb' with hb'; subst hb'; exact ⟨e, (0, 0), hg⟩
    ·rw [Hp.set_ne _ _ _ _ he] at hb'; exact hev.has b cs hb'
   ·by_cases he : b = g
    ·subst he; exact .inr hgb
    ·rw [Hp.set_ne _ _ _ _ he] at hb'; exact .inl hb'
   ·subst hv;simp only [Rep];refine ⟨some ⟨g, 0, none⟩, cap, rfl, hnc, hmx, fun j x hx => ?_⟩;obtain ⟨hr1, hr2⟩ := flat_at ys news j x hlen (r5.mono hle (AR _)) hx;refine ⟨⟨g, 0, none⟩, _, rfl, by rw [hr1.length]; exact hlen x (List.mem_of_getElem? hx), hr1, fun q u hu => ?_⟩
    have hadd : (⟨g, 0, none⟩ : Addr).add (j * i.size + q) = ⟨g, j * i.size + q, none⟩ := by unfold Addr.add; split <;> simp_all
    rw [hadd];refine ⟨rfl, cur, Hp.set_same _ _ _, ?_⟩;rw [List.getElem?_take] at hu;split at hu
    ·rw [List.getElem?_drop, ← htake, List.getElem?_take] at hu;split at hu
     ·simpa using hu
     ·cases hu
    ·cases hu
 obtain ⟨h', hle, hhas, hfr, hrep⟩ := key
 have hev' : Evo Dd w h w' h' := ⟨hev.os, hev.tape, hev.output, hev.size, hev.block, hle, fun g hg => by
  rcases hfr g hg with h1 | h1
  ·exact .inl h1
  ·rcases r4 with r4 | r4
   ·rw [r4] at h1; cases h1
   ·rw [r4] at h1; injection h1 with h1; subst h1; exact .inr (.inl (Nat.le_refl _)), hhas⟩
 exact hK _ _ h' β (Base.val (k.step hev') o.dst hd (hrep.mono (Aa _) (EY β)) [])
theorem Fl.ap0C [f : Facts P tab] {x y : Operand} {t : TypeId} (hop : o.op = .call { callee := .builtin .append, args := ⟨[x, y]⟩, argTypes := ⟨[t, t]⟩ }) (hx : opd s x = .v (.slice none 0 0)) (hg : gOk ops s o = true) (hd : dOk n o.dst = true) {e : TypeId} {i : TI} {sz' by' : Nat} {z : List Value} (hts : tab t = some ⟨.slice e, sz', by', z⟩) (hti : tab e = some i) (hsz : Nat.blt 0 i.size = true)
  {α : Type} (enc : α → List AV) {ys : List α} (hyc : (opd s y).closed = true) (hone : ∀ y, BI (enc y) = true) (hel : ∀ y, (enc y).length = i.size) (hy : (opd s y).Le (.sl i.size enc ys))
  (hby : ys.length * i.bytes ≤ 140737488355328) (hm : ys.length ≤ 9223372036854775807)
  (r : Fl P n ops draw l ((Eff.mk (.sl i.size enc ys) [] [] [] []).app o.dst s) (Eff.mk (.sl i.size enc ys) [] [] [] [] :: acc) K) : Fl P n ops draw (o :: l) s acc K :=
 Ad hg (OpJ.ap0C f.tabOk (AZ hd) hop hts hti hsz hx enc hy hyc hone hel hby hm) r
theorem OpJ.make0 (ht : A8 P tab) {d : Tmp} (hdst : o.dst = some d) (hd : d < n) {t : TypeId} {x y : Operand} (hop : o.op = .makeSlice t x y) {e : TypeId} {i : TI} {sz' by' : Nat} {z : List Value} (hts : tab t = some ⟨.slice e, sz', by', z⟩) (hti : tab e = some i)
  {k k' : IntKind} {m' : Int} (hx : opd s x = .v (.int k 0)) (hy : opd s y = .v (.int k' m')) (h0 : 0 ≤ m') (hby : m' * i.bytes ≤ 281474976710656) (hm : m' ≤ 9223372036854775807) {α : Type} (enc : α → List AV) :
  OpJ P n o s ⟨.row d, [(d, .row i.size enc [] e)], [], [d], []⟩ := by
 refine ⟨fun t ht => (by rw [hdst] at ht; injection ht with ht; subst ht; exact hd), fun C s' a w h β Q K hs hb hal b hK => ?_⟩
 have same : ∀ z : Operand, (z = x ∨ z = y) → opd s' z = opd s z := by
  intro z hz
  cases z with
  | tmp t => exact hs t (by rw [hop]; simpa [Op.operands] using hz)
  | _ => rfl
 have hxr := AH b x;have hyr := AH b y;rw [same x (.inl rfl), hx] at hxr;rw [same y (.inr rfl), hy] at hyr;simp only [Rep] at hxr hyr;obtain ⟨inf, zv, h1, h2, h3, h4, h5⟩ := (ht e i hti).info;have hu := (ht _ _ hts).und;simp only at hu;obtain ⟨c, rfl⟩ := Int.eq_ofNat_of_zero_le h0
 have hzs : zv.cells.size = i.size := by rw [← Array.length_toList, h5, (ht e i hti).zs]
 have hmk := run_make (P := P) w t e inf zv hu h1 h4 k k' (0 : Int) (c : Int) (Int.le_refl _) h0 (by rw [h3, Int.mul_comm]; exact hby) hm;rw [Int.toNat_natCast, h2] at hmk
 have hrun : (execOp a.eval o).run P w = .ok (.value (.slice (some ⟨w.heap.size, 0, none⟩) 0 c)) (w.alloc (.cells (madeCells zv.cells (c * i.size)) e)) := by
  simp only [execOp, hop, hxr, hyr, Sem.run_bind, hmk, Result.andThen, Sem.run_pure];rfl
 unfold Oper.wp;rw [hrun];simp only [Oper.upon];refine hK _ _ h (β.set d (.slice (some ⟨w.heap.size, 0, none⟩) 0 c)) ?_;have k1 := b.step (CP b.evo.has (.cells (madeCells zv.cells (c * i.size)) e));rw [hdst];refine k1.addbox (hal d (by simp)) ?_ ?_ (some d) (fun t ht => by injection ht with ht; subst ht; exact hd) ?_ []
 ·refine ⟨_, [], Bt.set_same _ _ _, ⟨by simp, .inr ⟨w.heap.size, c, _, by simp, Nat.zero_le _, heap_alloc_new w _, by simp, by simp only [maxLen]; omega, size_madeCells _ _, by simp⟩⟩, ?_, ?_, ?_⟩
  ·exact RepL.nil
  ·intro x hx; cases hx
  ·intro g hg;simp [Value.ownBlock] at hg;subst hg;exact CK b.evo.has (Nat.le_refl _)
 ·intro g hg;simp [blk] at hg;subst hg;refine ⟨fun id' B' hb' e => ?_, .inr b.evo.size⟩;have := (b.blk_lt hb' e).1;omega
 ·simp only [Rep]; exact ⟨Bt.set_same _ _ _, _, _, _, rfl⟩
theorem Fl.make0 [f : Facts P tab] {t : TypeId} {x y : Operand} (hop : o.op = .makeSlice t x y) (hg : gOk ops s o = true) {d : Tmp} (hdst : o.dst = some d) (hd : Nat.blt d n = true) {e : TypeId} {i : TI} {sz' by' : Nat} {z : List Value} (hts : tab t = some ⟨.slice e, sz', by', z⟩) (hti : tab e = some i)
  {k k' : IntKind} {m' : Int} (hx : opd s x = .v (.int k 0)) (hy : opd s y = .v (.int k' m')) (hn : s.al d = false) {α : Type} (enc : α → List AV) (h0 : 0 ≤ m') (hby : m' * i.bytes ≤ 281474976710656) (hm : m' ≤ 9223372036854775807)
  (r : Fl P n ops draw l ((Eff.mk (.row d) [(d, .row i.size enc [] e)] [] [d] []).app o.dst s) (Eff.mk (.row d) [(d, .row i.size enc [] e)] [] [d] [] :: acc) K) (hJ : A9 draw.J (Eff.mk (.row d) [(d, .row i.size enc [] e)] [] [d] []) := by repeat' (first | exact True.intro | exact rfl | refine ⟨?_, ?_⟩ | fail)) : Fl P n ops draw (o :: l) s acc K :=
 Fl.op hg (OpJ.make0 f.tabOk hdst (ltOf hd) hop hts hti hx hy h0 hby hm enc) (EZ hn) hJ r
end
end Go.AL
/- poly.Sub. (Not built yet: needs a seat that reaches it.) -/
namespace Go.Proofs.YtmmfloplhopioaaGreat
open Go.AL
theorem fit_m1 : Fit (-1) := Bs (by omega) (by omega)
theorem Sub1_io (V : Nat) (hV : V ≤ 32) (p q : PZ) (hwp : WP p) (hwq : WP q) (hp : OkP p) (hq : OkP q) (hpv : p.vars = V) (hqv : q.vars = V) (res : Res)
  (hr1 : ∀ r, SumOk V (Bq (-1) p q) r → res = .ret (aP r)) (hr2 : (¬ ∃ r, SumOk V (Bq (-1) p q) r) → res = .thr (BH 4)) :
  IoFn Tryz.prog 194 [.ptr 900 0, .ptr 901 0] (bPQ p q) res (bPQ p q) := by
 have h := plus_io V hV p q (-1) fit_m1 hwp hwq hp hq hpv hqv (fun t ht => (okZ_eq (hwq t ht) (hq.terms t ht).coef).2.le (by omega)) res hr1 hr2;refine AG Tryz.func194 rfl Tryz.ntmps194 rfl rfl rfl ?_;by_cases hg : ∃ r, SumOk V (Bq (-1) p q) r
 ·obtain ⟨r, hr⟩ := hg;have e1 := hr1 r hr;subst e1;(repeat' (first |refine qv ?_ |apply qn |apply qs |apply qr |refine qe ?_|fail));refine qc (Ce (-1) (by omega) (by omega)) ?_;refine BS rfl [] h rfl rfl (AB _) rfl trivial rfl rfl rfl rfl rfl ?_;(repeat' (first |refine Fl.nil (fun _ => by kernel_rfl) ?_ |refine qe ?_ |apply qt));exact ⟨⟨[], _, _, AK _ _ _, rfl, AA _, rfl, ⟨⟨⟨_, rfl, BLe.cells (AB _)⟩, rfl⟩, ⟨⟨_, rfl, BLe.cells (AB _)⟩, rfl⟩, trivial⟩, rfl, rfl⟩⟩
 ·have e1 := hr2 hg;subst e1;(repeat' (first |refine qv ?_ |apply qn |apply qs |apply qr |refine qe ?_|fail));refine qc (Ce (-1) (by omega) (by omega)) ?_;exact A2 rfl [] h rfl (AB _) rfl trivial rfl (fun _ => by kernel_rfl) (fun _ => rfl)
theorem pSub_ok (V : Nat) (hV : V ≤ 32) (p q : PZ) (hwp : WP p) (hwq : WP q) (hp : OkP p) (hq : OkP q) (hpv : p.vars = V) (hqv : q.vars = V) (r : AV)
  (hr1 : ∀ x, SumOk V (Bq (-1) p q) x → r = .tup [aP x, aN 0]) (hr2 : (¬ ∃ x, SumOk V (Bq (-1) p q) x) → r = .tup [aP ⟨0, []⟩, aN 4]) :
  PureFn Tryz.prog 161 [aP p, aP q] r := by
 refine AC Tryz.func161 rfl Tryz.ntmps161 rfl rfl ?_;have hb := both_ok p q hwp hwq;rw [bothE_ok hp hq, if_pos (hpv.trans hqv.symm)] at hb;(repeat' (first |refine qv ?_ |apply qn |apply qs |apply qr |refine qe ?_|fail));refine qc (hb) ?_;(repeat' (first |refine qv ?_ |apply qn |apply qs |apply qr |refine AF rfl ?_ |apply qk));by_cases hg : ∃ x, SumOk V (Bq (-1) p q) x
 ·obtain ⟨x, hx⟩ := hg;rw [hr1 x hx]
  have hx' : ∀ y, SumOk V (Bq (-1) p q) y → (Res.ret (aP x)) = .ret (aP y) := fun y hy => by
   have := (hr1 x hx).symm.trans (hr1 y hy);injection this with this;injection this with this;rw [this]
  refine BS rfl [(900, 2), (901, 3)] (tried_ret (Sub1_io V hV p q hwp hwq hp hq hpv hqv (.ret (aP x)) hx' (fun h => absurd ⟨x, hx⟩ h))) rfl rfl (AB _) rfl ⟨⟨⟨_, rfl, BLe.cells (AB _)⟩, rfl⟩, ⟨⟨_, rfl, BLe.cells (AB _)⟩, rfl⟩, trivial⟩ rfl rfl rfl rfl rfl ?_;(repeat' (first |refine qv ?_ |apply qn |refine qe ?_ |apply qt));exact RetOk.of rfl (AA _)
 ·rw [hr2 hg];refine BS rfl [(900, 2), (901, 3)] (tried_thr (Sub1_io V hV p q hwp hwq hp hq hpv hqv _ (fun y hy => absurd ⟨y, hy⟩ hg) (fun _ => rfl))) rfl rfl (AB _) rfl ⟨⟨⟨_, rfl, BLe.cells (AB _)⟩, rfl⟩, ⟨⟨_, rfl, BLe.cells (AB _)⟩, rfl⟩, trivial⟩ rfl rfl rfl rfl rfl ?_;(repeat' (first |refine qv ?_ |apply qn |refine qe ?_ |apply qt));exact RetOk.of rfl (AA _)
end Go.Proofs.YtmmfloplhopioaaGreat
/- poly.Var, poly.Const; expr's Kit: New, V, N, Sub, Add, Mul. -/
namespace Go.AL
def unU (V i : Nat) : List Int := (List.replicate V 0).set i 1
def varU (V i : Nat) : List UT := [(1, unU V i)]
def conU (V : Nat) (c : Int) : List UT := if c = 0 then [] else [(c, List.replicate V 0)]
def CQ (V : Nat) : List UT → List (List UT) → Bool
  | acc, [] => chkU V acc acc
  | acc, p :: l => chkU V acc acc && chkU V p p && chkU V (Bm 1 acc p) (addL acc p) && CQ V (addL acc p) l
def Cy (V : Nat) : List UT → List (List UT) → Bool
  | acc, [] => chkU V acc acc
  | acc, p :: l => chkU V acc acc && chkU V p p && degU acc p && chkU V (Bh acc p) (An acc p) && Cy V (An acc p) l
def Al (acc : List UT) (l : List (List UT)) : List UT := l.foldl addL acc
def Av (acc : List UT) (l : List (List UT)) : List UT := l.foldl An acc
end Go.AL
namespace Go.Proofs.YtmmfloplhopioaaGreat
open Go.AL
abbrev aK (V : Nat) : AV := .agg [aN V]
theorem pVarP_ok (V i : Nat) (hV : V ≤ 32) (hi : i < V) : PureFn Tryz.prog 159 [aN V, aN i] (.tup [aP (mkP V (varU V i)), aN 0]) := by
 refine AC Tryz.func159 rfl Tryz.ntmps159 rfl rfl ?_;refine AE ?_;(repeat' (first |refine qv ?_ |apply qn |apply qr |refine qe ?_|fail));refine ⟨AE ?_⟩;(repeat' (first |refine qv ?_ |apply qn |apply qs |apply qr |(refine AD rfl ?_ ?_ <;> intro _ <;> try (exfalso; omega)) |apply qk |(refine AJ rfl rfl ?_ ?_ <;> intro _ <;> try (exfalso; omega))));refine ⟨AE ?_⟩;(repeat' (first |refine qv ?_ |apply qn |apply qr |refine CA rfl rfl rfl rfl rfl rfl rfl rfl rfl rfl eI 0 (by exact AB _) (by rfl) (by first | omega | (dsimp only; omega)) (by first | omega | (dsimp only; omega)) (by first | omega | (dsimp only; omega)) ?_|fail));refine ⟨AE ?_⟩;(repeat' (first |refine qv ?_ |apply qn |apply qr |refine BN rfl rfl rfl rfl rfl rfl rfl rfl (by omega) (by first | omega | (simp; omega)) ?_ |refine Bd rfl rfl rfl rfl rfl rfl rfl rfl rfl rfl rfl (AB _) rfl (by first | omega | (simp; omega)) ?_|fail));refine ⟨?_⟩;refine Ab (Ent.freeze 24 rfl) ?_;(repeat' (first |refine qv ?_ |apply qs |apply qr));refine qc (Ce 1 (by omega) (by omega)) ?_;(repeat' (first |refine qv ?_ |refine qe ?_|fail));refine ql eT [⟨zOf 1, unU V i⟩] ?_;(repeat' (first |refine qv ?_ |apply qn |refine qe ?_ |apply qt));exact RetOk.of rfl (AA _)
theorem xCopy_ok (X : List Int) (hX : ∀ x ∈ X, Fit x) (hl : X.length ≤ 1000000) : PureFn Tryz.prog 216 [.sl 2 eX X] (.sl 2 eX X) := by
 refine AC Tryz.func216 rfl Tryz.ntmps216 rfl rfl ?_;refine AE ?_;(repeat' (first |refine qv ?_ |apply qn |apply qr));refine ⟨AE ?_⟩;(repeat' (first |refine qv ?_ |apply qr));refine CA rfl rfl rfl rfl rfl rfl rfl rfl rfl rfl eX 0 (by exact EE (σ := []) rfl) (by rfl) (by omega) (by dsimp only; omega) (by omega) ?_;(repeat' (first |refine qv ?_ |apply qn));refine ⟨?_⟩;refine Cr (G := Unit) (fun _ => True) (fun _ => AO [] [(3, .row 8)] [(8, .row 2 eX X 48)]) ?_ ?_
 ·(repeat' (first |refine qv ?_ |apply qn |apply qs |apply qr |apply qb));refine AWP.loop (G := Nat) (fun i => i ≤ X.length) (fun i => AO [] [(3, .row 8), (9, .sl 2 eX X), (10, aN X.length), (11, aN i)] [(8, .row 2 eX (X.take i ++ List.replicate (X.length - i) 0) 48)]) (fun i => X.length - i) 0 (by omega) ?_ ?_
  ·refine Ent.of [] ?_ ?_ rfl rfl;(repeat' (first |exact True.intro |refine ⟨⟨AA _, rfl⟩, ?_⟩ |refine ⟨⟨⟨_, rfl, BLe.row rfl⟩, rfl⟩, ?_⟩|fail))
  ·intro i h0
   have hli : (X.take i ++ List.replicate (X.length - i) (0 : Int)).length = X.length := by simp; omega
   (repeat' (first |refine qv ?_ |apply qn |apply qs |apply qr |refine qe ?_ |(refine AD rfl ?_ ?_ <;> intro _ <;> try (exfalso; omega)) |apply qb |apply qk |apply qx |(refine Az rfl rfl rfl rfl rfl rfl rfl rfl (by omega) (by omega) ?_; intro _ _)|fail))
   ·rename_i hi x hx;rw [Int.toNat_natCast] at hx;have hxl := (hX x (List.mem_of_getElem? hx)).len;refine Fl.ap0C rfl rfl rfl rfl rfl rfl rfl eW rfl (fun _ => rfl) (fun _ => rfl) (AA _) (by dsimp only; omega) (by omega) ?_;(repeat' (first |refine qv ?_ |apply qn |refine Fl.nil (fun _ => by kernel_rfl) ?_ |apply qr |refine qw ?_ |refine qe ?_ |refine BN rfl rfl rfl rfl rfl rfl rfl rfl (by omega) (by first | omega | (simp; omega)) ?_ |refine Bd rfl rfl rfl rfl rfl rfl rfl rfl rfl rfl rfl (AB _) rfl (by first | omega | (simp; omega)) ?_|fail));refine LoopEnd.of (i + 1) (by omega) (by omega) ?_;refine Ent.of [] ?_ ?_ rfl rfl;(repeat' (first |exact True.intro |refine ⟨⟨AA _, rfl⟩, ?_⟩ |refine ⟨⟨⟨_, rfl, BLe.row ?_⟩, rfl⟩, ?_⟩|fail));rw [Ac hx];exact CE (by rw [List.length_take]; omega) (by omega) rfl
   ·have hi : i = X.length := by omega
    refine JoinOk.of () trivial ?_;refine Ent.of [] ?_ ?_ rfl rfl;(repeat' (first |exact True.intro |refine ⟨⟨AA _, rfl⟩, ?_⟩ |refine ⟨⟨⟨_, rfl, BLe.row ?_⟩, rfl⟩, ?_⟩|fail));rw [hi]; simp
 ·intro _ _;(repeat' (first |refine qv ?_ |apply qn |apply qs |apply qr |apply qt));refine A3 (Ent.freeze 8 rfl) ?_;exact RetOk.of rfl (AA _)
theorem constant_ok (V : Nat) (x : Int) (hV : V ≤ 32) (hx : Fit x) : PureFn Tryz.prog 191 [aN V, aX x] (aP (mkP V (conU V x))) := by
 refine AC Tryz.func191 rfl Tryz.ntmps191 rfl rfl ?_;refine AE ?_;(repeat' (first |apply qn |apply qr |refine qe ?_|fail));refine ⟨AE ?_⟩;(repeat' (first |refine qv ?_ |apply qn |apply qr |refine qe ?_|fail));refine ⟨?_⟩;refine AWP.seq ?_;(repeat' (first |refine qv ?_ |apply qs |apply qr));refine qc (ZeroX_ok x) ?_;(repeat' (first |refine qv ?_ |apply qn |apply qs |apply qr |refine qe ?_ |(refine AU rfl ?_ ?_ <;> intro _ <;> try (exfalso; omega)) |apply qk |apply qt))
 ·rename_i h0;refine ql eX [x] ?_;have e0 : [x][(0 : Int).toNat]? = some x := rfl;refine qc (xCopy_ok [x] (by simp [hx]) (by simp)) ?_;(repeat' (first | refine Fl.v rfl rfl rfl ?_ | refine Fl.elK rfl rfl rfl rfl rfl rfl rfl rfl (by assumption) (by omega) ?_ | fail));refine Fl.makeC rfl rfl rfl rfl rfl rfl rfl rfl rfl eI 0 (by exact AB _) (by rfl) (by omega) (by dsimp only; omega) (by omega) ?_;(repeat' (first |refine qe ?_|fail));refine ql eT [⟨zOf x, List.replicate V 0⟩] ?_;(repeat' (first |refine qv ?_ |apply qn |refine Fl.nil (fun _ => by kernel_rfl) ?_ |apply qs |apply qr |refine qe ?_ |apply qt));refine RetOk.of rfl ?_;rw [conU, if_neg h0];exact AA _
 ·rename_i h0;refine RetOk.of rfl ?_;rw [conU, if_pos h0];exact AV.Le.agg (LeL.cons (AA _) (LeL.cons (AV.Le.nil 3 eT) LeL.nil))
theorem pConstP_ok (V : Nat) (x : Int) (hV : V ≤ 32) (hx : Fit x) : PureFn Tryz.prog 158 [aN V, aX x] (.tup [aP (mkP V (conU V x)), aN 0]) := by
 refine AC Tryz.func158 rfl Tryz.ntmps158 rfl rfl ?_;(repeat' (first |refine qv ?_ |apply qn |apply qs |apply qr |refine qe ?_|fail));refine qc (Valid_int x hx) ?_;(repeat' (first |refine qv ?_ |apply qn |apply qs |apply qr |refine AF rfl ?_ |(refine AD rfl ?_ ?_ <;> intro _ <;> try (exfalso; omega)) |apply qk));refine qc (constant_ok V x hV hx) ?_;(repeat' (first |refine qv ?_ |apply qn |refine qe ?_ |apply qt));exact RetOk.of rfl (AA _)
theorem kNew_ok (V : Nat) : PureFn Tryz.prog 101 [aN V] (aK V) := by
 refine AC Tryz.func101 rfl Tryz.ntmps101 rfl rfl ?_;(repeat' (first |refine qv ?_ |apply qn |apply qs |apply qr |refine qe ?_ |apply qt));exact RetOk.of rfl (AA _)
theorem Bw (V i : Nat) (hV : V ≤ 32) (hi : i < V) : PureFn Tryz.prog 104 [aK V, aN i] (aP (mkP V (varU V i))) := by
 refine AC Tryz.func104 rfl Tryz.ntmps104 rfl rfl ?_;(repeat' (first |refine qv ?_ |apply qn |apply qs |apply qr |refine qe ?_|fail));refine qc (pVarP_ok V i hV hi) ?_;(repeat' (first |refine qv ?_ |apply qn |apply qs |apply qr |refine qe ?_ |apply qt));exact RetOk.of rfl (AA _)
theorem Dt (V : Nat) (c : Int) (hV : V ≤ 32) (h0 : -4294967296 < c) (h1 : c < 4294967296) : PureFn Tryz.prog 103 [aK V, aN c] (aP (mkP V (conU V c))) := by
 refine AC Tryz.func103 rfl Tryz.ntmps103 rfl rfl ?_;(repeat' (first |refine qv ?_ |apply qn |apply qs |apply qr |refine qe ?_|fail));refine qc (Ce c (by omega) (by omega)) ?_;refine qc (pConstP_ok V c hV (Bs (by omega) (by omega))) ?_;(repeat' (first |refine qv ?_ |apply qn |refine Fl.nil (fun _ => by kernel_rfl) ?_ |apply qs |apply qr |refine qe ?_ |apply qt));exact RetOk.of rfl (AA _)
theorem subMk (V : Nat) (hV : V ≤ 32) (p q l : List UT) (hp : chkU V p p = true) (hq : chkU V q q = true) (h : chkU V (Bm (-1) p q) l = true) : PureFn Tryz.prog 161 [aP (mkP V p), aP (mkP V q)] (.tup [aP (mkP V l), aN 0]) := by
 obtain ⟨p1, p2, p3⟩ := mk_ok hV hp;obtain ⟨q1, q2, q3⟩ := mk_ok hV hq
 have hs : SumOk V (Bq (-1) (mkP V p) (mkP V q)) (mkP V l) := by rw [plusU_mk]; exact chkU_ok hV h
 exact pSub_ok V hV _ _ p3 q3 p1 q1 p2 q2 _ (fun x hx => by rw [hs.uniq hx]) (fun k => absurd ⟨_, hs⟩ k)
theorem kSub_ok (V : Nat) (hV : V ≤ 32) (p q l : List UT) (hp : chkU V p p = true) (hq : chkU V q q = true) (h : chkU V (Bm (-1) p q) l = true) : PureFn Tryz.prog 106 [aK V, aP (mkP V p), aP (mkP V q)] (aP (mkP V l)) := by
 refine AC Tryz.func106 rfl Tryz.ntmps106 rfl rfl ?_;(repeat' (first |refine qv ?_ |apply qn |apply qs |apply qr |refine qe ?_|fail));refine qc (subMk V hV p q l hp hq h) ?_;(repeat' (first |refine qv ?_ |apply qn |apply qs |apply qr |refine qe ?_ |apply qt));exact RetOk.of rfl (AA _)
end Go.Proofs.YtmmfloplhopioaaGreat
/- Lists of terms az the reference holds them: bounds. -/
namespace Go.AL
theorem lenI_neg (x : Int) : lenI (-x) = lenI x := by unfold lenI; rw [Int.natAbs_neg]
theorem lenI_add {x y : Int} {M : Nat} (hx : lenI x ≤ M) (hy : lenI y ≤ M) : lenI (x + y) ≤ M + 1 := by
 rw [lenI_le] at *
 rw [BO];have := Be M;omega
theorem lenI_zero : lenI 0 = 0 := by
 have := (lenI_le (x := 0) (n := 0)).2 (by simp [D1]);omega
def okT (V M : Nat) (l : List UT) : Prop := ∀ u ∈ l, u.2.length = V ∧ EOk u.2 ∧ lenI u.1 ≤ M
theorem okT.nil (V M : Nat) : okT V M [] := fun u h => by simp at h
theorem okT.mono {V M N : Nat} {l : List UT} (h : okT V M l) (hm : M ≤ N) : okT V N l := fun u hu => ⟨(h u hu).1, (h u hu).2.1, Nat.le_trans (h u hu).2.2 hm⟩
theorem okT.lenU {V M : Nat} {l : List UT} (h : okT V M l) : lenU V l := fun u hu => (h u hu).1
theorem okT.append {V M : Nat} {a b : List UT} (ha : okT V M a) (hb : okT V M b) : okT V M (a ++ b) := fun u hu => (List.mem_append.1 hu).elim (ha u) (hb u)
theorem okT.sub {V M : Nat} {a b : List UT} (h : okT V M a) (hs : ∀ u ∈ b, u ∈ a) : okT V M b := fun u hu => h u (hs u hu)
theorem okT.terms {V M : Nat} {l : List UT} (h : okT V M l) : TermsOk V M (l.map tz) := by
 refine ⟨?_, ?_, ?_, ?_⟩ <;> (intro t ht; obtain ⟨u, hu, rfl⟩ := List.mem_map.1 ht)
 ·exact Am _
 ·show zOf u.1 = zOf (zval (zOf u.1)); rw [A0]
 ·exact ⟨(h u hu).2.1, (h u hu).1⟩
 ·show lenI (zval (zOf u.1)) ≤ M; rw [A0]; exact (h u hu).2.2
theorem cfU_len {V M : Nat} {l : List UT} (hc : CanU l) (h : okT V M l) (e : List Int) : lenI (cfU l e) ≤ M := by
 by_cases hz : cfU l e = 0
 ·rw [hz, lenI_zero]; omega
 ·obtain ⟨u, hu, he⟩ := cfU_mem hz;rw [← he, cfU_one hc.pw hu];exact (h u hu).2.2
theorem okT.can {V M : Nat} {a b : List UT} (ca : CanU a) (cb : CanU b) (ha : okT V M a) (hb : okT V M b) : okT V (M + 1) (canU (a ++ b)) := fun u hu => by
 obtain ⟨w, hw, he⟩ := canU_mem hu;have h1 := (ha.append hb) w hw;refine ⟨by rw [he]; exact h1.1, by rw [he]; exact h1.2.1, ?_⟩;have := ((CL (a ++ b)).mem_iff u).1 hu;rw [← this.2, BX, BZ];exact lenI_add (cfU_len ca ha _) (cfU_len cb hb _)
theorem okT.can0 {V M : Nat} {l : List UT} (h : okT V M l) (hl : l.length < 2) : okT V M (canU l) := by
 match l, hl with
 | [], _ => exact h
 | [u], _ =>
  show okT V M (insU u []);unfold insU;split
  ·exact okT.nil V M
  ·exact h
theorem insU_length (u : UT) : ∀ l : List UT, (insU u l).length ≤ l.length + 1
 | [] => by unfold insU; split <;> simp
 | w :: l => by
  unfold insU;split
  ·split <;> simp
  ·split
   ·split <;> simp <;> omega
   ·have := insU_length u l;simp; omega
theorem Dx : ∀ l : List UT, (canU l).length ≤ l.length
 | [] => Nat.le_refl _
 | u :: l => by
  show (insU u (canU l)).length ≤ _;have := insU_length u (canU l);have := Dx l;simp; omega
theorem canU_halves (l : List UT) (k : Nat) : canU (canU (l.take k) ++ canU (l.drop k)) = canU l := Cb fun e => by
 rw [BZ, BX, BX, ← BZ, List.take_append_drop]
theorem conU_can (V : Nat) (c : Int) : canU [(c, List.replicate V 0)] = conU V c := by
 show insU _ [] = _;unfold insU conU;rfl
theorem okT.con {V M : Nat} {c : Int} (h : lenI c ≤ M) : okT V M (conU V c) := by
 unfold conU;split
 ·exact okT.nil V M
 ·intro u hu;simp only [List.mem_singleton] at hu;subst hu;exact ⟨by simp, EOk.zeros V, h⟩
theorem CanU.one {u : UT} (h : u.1 ≠ 0) : CanU [u] := CanU.nil.cons h (by simp)
theorem conU_canU (V : Nat) (c : Int) : CanU (conU V c) := by rw [← conU_can]; exact CL _
theorem EOk.unU (V i : Nat) : EOk (unU V i) := fun e he => by
 unfold Go.AL.unU at he;rcases List.mem_or_eq_of_mem_set he with h | h
 ·rw [List.eq_of_mem_replicate h]; omega
 ·omega
def mulR (p q : List UT) : List UT := q.flatMap fun t => p.map fun s => (s.1 * t.1, addE s.2 t.2)
theorem cfU_flatMap (f : UT → List UT) (e : List Int) : ∀ l : List UT, cfU (l.flatMap f) e = sumL (l.map fun u => cfU (f u) e)
 | [] => rfl
 | u :: l => by
  rw [List.flatMap_cons, BZ, cfU_flatMap f e l];rfl
theorem cfU_map (f : UT → UT) (e : List Int) : ∀ l : List UT, cfU (l.map f) e = sumL (l.map fun u => if (f u).2 = e then (f u).1 else 0)
 | [] => rfl
 | u :: l => by
  rw [List.map_cons, cfU, cfU_map f e l];rfl
theorem sumL_add {α : Type} (f g : α → Int) : ∀ l : List α, sumL (l.map fun x => f x + g x) = sumL (l.map f) + sumL (l.map g)
 | [] => rfl
 | x :: l => by
  simp only [List.map_cons, sumL];rw [sumL_add f g l]; omega
theorem sumL_zero {α : Type} : ∀ l : List α, sumL (l.map fun _ => (0 : Int)) = 0
 | [] => rfl
 | x :: l => by simp only [List.map_cons, sumL]; rw [sumL_zero l]; omega
theorem sumL_swap {α β : Type} (f : α → β → Int) (b : List β) : ∀ a : List α, sumL (a.map fun x => sumL (b.map fun y => f x y)) = sumL (b.map fun y => sumL (a.map fun x => f x y))
 | [] => by simp only [List.map_nil, sumL]; exact (sumL_zero b).symm
 | x :: a => by
  simp only [List.map_cons, sumL];rw [sumL_swap f b a, ← sumL_add]
theorem cfU_mulR (p q : List UT) (e : List Int) : cfU (mulR p q) e = cfU (Bh p q) e := by
 unfold mulR Bh;rw [cfU_flatMap, cfU_flatMap];simp only [cfU_map];exact sumL_swap (fun (t s : UT) => if addE s.2 t.2 = e then s.1 * t.1 else 0) p q
theorem mulR_length (p q : List UT) : (mulR p q).length = q.length * p.length := by
 induction q with
 | nil => simp [mulR]
 | cons t q ih =>
  have : mulR p (t :: q) = (p.map fun s => (s.1 * t.1, addE s.2 t.2)) ++ mulR p q := rfl;rw [this, List.length_append, ih, List.length_map, List.length_cons, Nat.add_mul]; omega
end Go.AL
namespace Go.AL
def addX (a b : List Int) : List Int := List.zipWith (· + ·) a b
def DF (l : List TZ) (t : TZ) : List TZ := l.map fun s => ⟨zOf (zval s.c * zval t.c), addX s.e t.e⟩
theorem addX_snoc {a b : List Int} {k : Nat} {x y : Int} (ha : a[k]? = some x) (hb : b[k]? = some y) : addX (a.take (k + 1)) (b.take (k + 1)) = addX (a.take k) (b.take k) ++ [x + y] := by
 rw [Ac ha, Ac hb];unfold addX;rw [List.zipWith_append (by rw [List.length_take, List.length_take]; have := (List.getElem?_eq_some_iff.1 ha).1; have := (List.getElem?_eq_some_iff.1 hb).1; omega)];rfl
theorem addX_len (a b : List Int) : (addX a b).length = min a.length b.length := by simp [addX]
theorem timesT_snoc {l : List TZ} {i : Nat} {s t : TZ} (h : l[i]? = some s) : DF (l.take (i + 1)) t = DF (l.take i) t ++ [⟨zOf (zval s.c * zval t.c), addX s.e t.e⟩] := by
 rw [Ac h]; simp [DF]
end Go.AL
namespace Go.Proofs.YtmmfloplhopioaaGreat
open Go.AL
set_option maxHeartbeats 1000000 in
theorem rTimes_ok (n : Nat) (hn : n ≤ 1000) (l : List TZ) (t : TZ) (hl : l.length ≤ 3000) (hlt : TermsOk n 10000 l) (ht : TermsOk n 10000 [t]) (h0 : t.c.w.length ≠ 0) (hne : l.length ≠ 0) : PureFn Tryz.prog 120 [aP ⟨n, l⟩, aT t] (aP ⟨n, DF l t⟩) := by
 refine AC Tryz.func120 rfl Tryz.ntmps120 rfl rfl ?_;have htc := ht.c t (by simp);have hte := ht.e t (by simp);have htm := ht.m t (by simp);have hzero := Ci t.c;rw [decide_eq_false h0] at hzero;(repeat' (first |refine qv ?_ |apply qn |apply qs |apply qr |refine qe ?_ |apply qb))
 refine AWP.loop (G := Nat) (fun i => i ≤ l.length) (fun i => match i with
  | 0 => AO [] [(2, .ptr 2 0), (3, .ptr 3 0), (4, .ptr 4 0), (5, .ptr 5 0), (6, aN 0)] [(2, .cells [aN n, .sl 3 eT l] 105), (3, .cells (eT t) 158), (4, .cells [aN 0, .v (.slice none 0 0)] 105), (5, .cells [aN n, .v (.slice none 0 0)] 105)]
  | i + 1 => AO [] [(2, .ptr 2 0), (3, .ptr 3 0), (4, .ptr 4 0), (5, .ptr 5 0), (6, aN ((i + 1 : Nat) : Int))] [(2, .cells [aN n, .sl 3 eT l] 105), (3, .cells (eT t) 158), (4, .cells [aN 0, .v (.slice none 0 0)] 105), (5, .cells [aN n, .row 700] 105), (700, .row 3 eT (DF (l.take (i + 1)) t) 158)]) (fun i => l.length - i) 0 (by omega) ?_ ?_
 ·refine Ent.of [] ?_ ?_ rfl rfl;(repeat' (first |exact True.intro |refine ⟨⟨AA _, rfl⟩, ?_⟩ |refine ⟨⟨⟨_, rfl, BLe.cells (AB _)⟩, rfl⟩, ?_⟩|fail))
 ·intro i hi
  cases i with
  | zero =>
   dsimp only;(repeat' (first |refine qv ?_ |apply qs |apply qr |(refine AJ rfl rfl ?_ ?_ <;> intro _ <;> try (exfalso; omega))))
   ·rename_i hlt';obtain ⟨s, hs⟩ : ∃ s, l[0]? = some s := ⟨_, List.getElem?_eq_getElem (by omega)⟩;have hsm := List.mem_of_getElem? hs;have hse := hlt.e s hsm;have hsl := hlt.m s hsm;have hsc := hlt.c s hsm
    have htl : (DF (l.take 0) t).length = 0 := by simp [DF]
    refine Fl.call rfl hzero rfl rfl rfl (AB _) ?_;(repeat' (first |refine Fl.v rfl rfl rfl ?_ |refine Fl.nilF ?_ |refine Fl.b rfl rfl rfl rfl ?_ |refine AM rfl ?_ |refine AF rfl ?_ |refine AWP.skip ?_ |fail));refine AWP.seq ?_;refine AWP.block ?_;refine AE ?_;(repeat' (first |refine qv ?_ |apply qn |apply qr |refine CA rfl rfl rfl rfl rfl rfl rfl rfl rfl rfl eI 0 (by exact AB _) (by rfl) (by first | omega | (dsimp only; omega)) (by first | omega | (dsimp only; omega)) (by first | omega | (dsimp only; omega)) ?_|fail));refine ⟨AE ?_⟩;(repeat' (first |refine qv ?_ |apply qn |apply qs |apply qr |apply qb));refine AWP.loop (G := Nat) (fun k => k ≤ n) (fun k => AO [] [(2, .ptr 2 0), (3, .ptr 3 0), (4, .ptr 4 0), (5, .ptr 5 0), (6, aN 0), (7, .row 27), (8, aN k)] [(2, .cells [aN n, .sl 3 eT l] 105), (3, .cells (eT t) 158), (4, .cells [aN 0, .v (.slice none 0 0)] 105), (5, .cells [aN n, .v (.slice none 0 0)] 105), (27, .row 1 eI (addX (s.e.take k) (t.e.take k) ++ List.replicate (n - k) 0) 3)]) (fun k => n - k) 0 (by omega) ?_ ?_
    ·refine Ent.of [] ?_ ?_ rfl rfl;(repeat' (first |exact True.intro |refine ⟨⟨AA _, rfl⟩, ?_⟩ |refine ⟨⟨⟨_, rfl, BLe.cells (AB _)⟩, rfl⟩, ?_⟩ |refine ⟨⟨⟨_, rfl, BLe.row rfl⟩, rfl⟩, ?_⟩|fail))
    ·intro k hk
     have hadl : (addX (s.e.take k) (t.e.take k)).length = k := by rw [addX_len, List.length_take, List.length_take]; omega
     have hrl : (addX (s.e.take k) (t.e.take k) ++ List.replicate (n - k) 0).length = n := by rw [List.length_append, hadl, List.length_replicate]; omega
     by_cases hkn : k < n
     ·obtain ⟨x, hx⟩ : ∃ x, s.e[k]? = some x := ⟨_, List.getElem?_eq_getElem (by omega)⟩;obtain ⟨y, hy⟩ : ∃ y, t.e[k]? = some y := ⟨_, List.getElem?_eq_getElem (by omega)⟩;have hxb := hse.1.get hx;have hyb := hte.1.get hy;(repeat' (first |refine qv ?_ |apply qn |refine Fl.nil (fun _ => by kernel_rfl) ?_ |apply qs |apply qr |refine qw ?_ |(refine AD rfl ?_ ?_ <;> intro _ <;> try (exfalso; omega)) |apply qb |apply qk |refine qK ?_ |refine BN rfl rfl rfl rfl rfl rfl rfl rfl (by omega) (by first | omega | (simp; omega)) ?_ |refine Bd rfl rfl rfl rfl rfl rfl rfl rfl rfl rfl rfl (AB _) rfl (by first | omega | (simp; omega)) ?_|fail));refine LoopEnd.of (k + 1) (by omega) (by omega) ?_;refine Ent.of [] ?_ ?_ rfl rfl;(repeat' (first |exact True.intro |refine ⟨⟨AA _, rfl⟩, ?_⟩ |refine ⟨⟨⟨_, rfl, BLe.cells (AB _)⟩, rfl⟩, ?_⟩ |refine ⟨⟨⟨_, rfl, BLe.row ?_⟩, rfl⟩, ?_⟩|fail));rw [addX_snoc hx hy];exact CE (by rw [hadl]; omega) (by omega) rfl
     ·(repeat' (first |refine qv ?_ |apply qn |apply qs |apply qr |(refine AD rfl ?_ ?_ <;> intro _ <;> try (exfalso; omega)) |apply qx));refine ⟨?_⟩;refine Ab (Ent.freeze 27 rfl) ?_
      have hkn' : k = n := by omega
      (repeat' (first |refine qv ?_ |apply qr |refine qK ?_|fail))
      have hfin : addX (s.e.take k) (t.e.take k) ++ List.replicate (n - k) 0 = addX s.e t.e := by
       rw [hkn', Nat.sub_self, List.replicate_zero, List.append_nil, List.take_of_length_le (by omega), List.take_of_length_le (by omega)]
      refine Fl.call rfl (rMul_ok (zval s.c) (zval t.c) (show lenI _ ≤ _ by omega) (show lenI _ ≤ _ by omega)) rfl rfl rfl (LeL.cons (AV.Le.agg (leZ (σ := []) hsc)) (LeL.cons (AV.Le.agg (leZ (σ := []) htc)) LeL.nil)) ?_;(repeat' (first |refine qv ?_ |refine qe ?_|fail));refine ql eT [⟨zOf (zval s.c * zval t.c), addX (s.e.take k) (t.e.take k) ++ List.replicate (n - k) 0⟩] ?_;refine Fl.ap0 rfl rfl rfl rfl rfl rfl rfl rfl eT rfl rfl (fun _ => rfl) (fun _ => rfl) (AA _) (by dsimp only [List.length_nil, List.length_cons]; omega) (by simp) ?_;(repeat' (first |refine qv ?_ |apply qn |refine Fl.nil (fun _ => by kernel_rfl) ?_ |apply qr |refine qw ?_ |refine qe ?_|fail));refine LoopEnd.of (0 + 1) (by omega) (by omega) ?_;refine Ent.of [(700, 66)] ?_ ?_ rfl rfl;(repeat' (first |exact True.intro |refine ⟨⟨AA _, rfl⟩, ?_⟩ |refine ⟨⟨⟨_, rfl, BLe.cells (AB _)⟩, rfl⟩, ?_⟩ |refine ⟨⟨⟨_, rfl, BLe.row ?_⟩, rfl⟩, ?_⟩|fail));rw [timesT_snoc hs, hfin]
      try rfl
  | succ i =>
   dsimp only;(repeat' (first |refine qv ?_ |apply qn |apply qs |apply qr |refine qe ?_ |refine Fl.skip rfl rfl ?_ |refine AF rfl ?_ |apply qx |apply qt |(refine AJ rfl rfl ?_ ?_ <;> intro _ <;> try (exfalso; omega))))
   ·rename_i hlt';obtain ⟨s, hs⟩ : ∃ s, l[(i + 1)]? = some s := ⟨_, List.getElem?_eq_getElem (by omega)⟩;have hsm := List.mem_of_getElem? hs;have hse := hlt.e s hsm;have hsl := hlt.m s hsm;have hsc := hlt.c s hsm
    have htl : (DF (l.take (i + 1)) t).length = (i + 1) := by simp [DF]; omega
    refine Fl.call rfl hzero rfl rfl rfl (AB _) ?_;(repeat' (first |refine Fl.v rfl rfl rfl ?_ |refine Fl.nilF ?_ |refine Fl.b rfl rfl rfl rfl ?_ |refine AM rfl ?_ |refine AF rfl ?_ |refine AWP.skip ?_ |fail));refine AWP.seq ?_;refine AWP.block ?_;refine AE ?_;(repeat' (first |refine qv ?_ |apply qn |apply qr |refine CA rfl rfl rfl rfl rfl rfl rfl rfl rfl rfl eI 0 (by exact AB _) (by rfl) (by first | omega | (dsimp only; omega)) (by first | omega | (dsimp only; omega)) (by first | omega | (dsimp only; omega)) ?_|fail));refine ⟨AE ?_⟩;(repeat' (first |refine qv ?_ |apply qn |apply qs |apply qr |apply qb));refine AWP.loop (G := Nat) (fun k => k ≤ n) (fun k => AO [] [(2, .ptr 2 0), (3, .ptr 3 0), (4, .ptr 4 0), (5, .ptr 5 0), (6, aN ((i + 1 : Nat) : Int)), (7, .row 27), (8, aN k)] [(2, .cells [aN n, .sl 3 eT l] 105), (3, .cells (eT t) 158), (4, .cells [aN 0, .v (.slice none 0 0)] 105), (5, .cells [aN n, .row 700] 105), (700, .row 3 eT (DF (l.take (i + 1)) t) 158), (27, .row 1 eI (addX (s.e.take k) (t.e.take k) ++ List.replicate (n - k) 0) 3)]) (fun k => n - k) 0 (by omega) ?_ ?_
    ·refine Ent.of [] ?_ ?_ rfl rfl;(repeat' (first |exact True.intro |refine ⟨⟨AA _, rfl⟩, ?_⟩ |refine ⟨⟨⟨_, rfl, BLe.cells (AB _)⟩, rfl⟩, ?_⟩ |refine ⟨⟨⟨_, rfl, BLe.row rfl⟩, rfl⟩, ?_⟩|fail))
    ·intro k hk
     have hadl : (addX (s.e.take k) (t.e.take k)).length = k := by rw [addX_len, List.length_take, List.length_take]; omega
     have hrl : (addX (s.e.take k) (t.e.take k) ++ List.replicate (n - k) 0).length = n := by rw [List.length_append, hadl, List.length_replicate]; omega
     by_cases hkn : k < n
     ·obtain ⟨x, hx⟩ : ∃ x, s.e[k]? = some x := ⟨_, List.getElem?_eq_getElem (by omega)⟩;obtain ⟨y, hy⟩ : ∃ y, t.e[k]? = some y := ⟨_, List.getElem?_eq_getElem (by omega)⟩;have hxb := hse.1.get hx;have hyb := hte.1.get hy;(repeat' (first |refine qv ?_ |apply qn |refine Fl.nil (fun _ => by kernel_rfl) ?_ |apply qs |apply qr |refine qw ?_ |(refine AD rfl ?_ ?_ <;> intro _ <;> try (exfalso; omega)) |apply qb |apply qk |refine qK ?_ |refine BN rfl rfl rfl rfl rfl rfl rfl rfl (by omega) (by first | omega | (simp; omega)) ?_ |refine Bd rfl rfl rfl rfl rfl rfl rfl rfl rfl rfl rfl (AB _) rfl (by first | omega | (simp; omega)) ?_|fail));refine LoopEnd.of (k + 1) (by omega) (by omega) ?_;refine Ent.of [] ?_ ?_ rfl rfl;(repeat' (first |exact True.intro |refine ⟨⟨AA _, rfl⟩, ?_⟩ |refine ⟨⟨⟨_, rfl, BLe.cells (AB _)⟩, rfl⟩, ?_⟩ |refine ⟨⟨⟨_, rfl, BLe.row rfl⟩, rfl⟩, ?_⟩ |refine ⟨⟨⟨_, rfl, BLe.row ?_⟩, rfl⟩, ?_⟩|fail));rw [addX_snoc hx hy];exact CE (by rw [hadl]; omega) (by omega) rfl
     ·(repeat' (first |refine qv ?_ |apply qn |apply qs |apply qr |(refine AD rfl ?_ ?_ <;> intro _ <;> try (exfalso; omega)) |apply qx));refine ⟨?_⟩;refine Ab (Ent.freeze 27 rfl) ?_
      have hkn' : k = n := by omega
      (repeat' (first |refine qv ?_ |apply qr |refine qK ?_|fail))
      have hfin : addX (s.e.take k) (t.e.take k) ++ List.replicate (n - k) 0 = addX s.e t.e := by
       rw [hkn', Nat.sub_self, List.replicate_zero, List.append_nil, List.take_of_length_le (by omega), List.take_of_length_le (by omega)]
      refine Fl.call rfl (rMul_ok (zval s.c) (zval t.c) (show lenI _ ≤ _ by omega) (show lenI _ ≤ _ by omega)) rfl rfl rfl (LeL.cons (AV.Le.agg (leZ (σ := []) hsc)) (LeL.cons (AV.Le.agg (leZ (σ := []) htc)) LeL.nil)) ?_;(repeat' (first |refine qv ?_ |refine qe ?_|fail));refine ql eT [⟨zOf (zval s.c * zval t.c), addX (s.e.take k) (t.e.take k) ++ List.replicate (n - k) 0⟩] ?_;refine qa (hby := (by simp only [htl, List.length_nil, List.length_cons]; omega)) (hm := (by simp only [htl, List.length_cons, List.length_nil]; omega)) (r := ?_);(repeat' (first |refine qv ?_ |apply qn |refine Fl.nil (fun _ => by kernel_rfl) ?_ |apply qr |refine qw ?_ |refine qe ?_|fail));refine LoopEnd.of (i + 1 + 1) (by omega) (by omega) ?_;refine Ent.of [(700, 66)] ?_ ?_ rfl rfl;(repeat' (first |exact True.intro |refine ⟨⟨AA _, rfl⟩, ?_⟩ |refine ⟨⟨⟨_, rfl, BLe.cells (AB _)⟩, rfl⟩, ?_⟩ |refine ⟨⟨⟨_, rfl, BLe.row ?_⟩, rfl⟩, ?_⟩|fail));rw [timesT_snoc hs, hfin]
      try rfl
   ·rename_i hlt';have hti : l.take (i + 1) = l := List.take_of_length_le (by omega);refine A3 (Ent.freeze 700 rfl) ?_;refine RetOk.of rfl ?_;rw [hti];exact AA _
end Go.Proofs.YtmmfloplhopioaaGreat
namespace Go.Proofs.YtmmfloplhopioaaGreat
open Go.AL
theorem rAddP_ok (n M : Nat) (hn : n ≤ 1000) (hM : M ≤ 30000) (a b : List TZ) (ha : TermsOk n M a) (hb : TermsOk n M b) (hal : a.length ≤ 100000) (hbl : b.length ≤ 100000) : PureFn Tryz.prog 62 [aP ⟨n, a⟩, aP ⟨n, b⟩] (aP ⟨n, Ap a b⟩) := by
 refine AC Tryz.func62 rfl Tryz.ntmps62 rfl rfl ?_;(repeat' (first |refine qv ?_ |apply qn |apply qs |apply qr |refine qe ?_|fail));refine qc (merged_ok n M hn hM a b ha hb hal hbl) ?_;(repeat' (first |refine Fl.nil (fun _ => by kernel_rfl) ?_ |refine qe ?_ |apply qt));exact RetOk.of rfl (AA _)
end Go.Proofs.YtmmfloplhopioaaGreat
/- The reference's polynomials: Sorted, Add, Times, Sub, Const, Var. -/
namespace Go.AL
theorem addX_eq : addX = addE := rfl
theorem timesT_tz (p : List UT) (t : UT) : DF (p.map tz) (tz t) = (p.map fun s => (s.1 * t.1, addE s.2 t.2)).map tz := by
 unfold DF;rw [List.map_map, List.map_map];refine List.map_congr_left fun s _ => ?_;show TZ.mk (zOf (zval (zOf s.1) * zval (zOf t.1))) (addX s.2 t.2) = tz _;rw [A0, A0, addX_eq]
theorem tz_nz {u : UT} (h : u.1 ≠ 0) : (tz u).c.w.length ≠ 0 := fun k => h ((toW_len0 u.1).1 k)
theorem zeros_add : ∀ (l : List Int) (n : Nat), l.length = n → addE l (List.replicate n 0) = l
 | [], _, h => by simp [addE]
 | x :: l, 0, h => by simp at h
 | x :: l, n + 1, h => by
  have ih := zeros_add l n (by simpa using h);unfold addE at ih ⊢;rw [List.replicate_succ, List.zipWith_cons_cons, ih];simp
end Go.AL
namespace Go.Proofs.YtmmfloplhopioaaGreat
open Go.AL
theorem rSortedU (V : Nat) (hV : V ≤ 1000) : ∀ (d M : Nat) (l : List UT), l.length ≤ 2 ^ d → 2 ^ d ≤ 100000 → M + d ≤ 30000 → okT V M l →
  PureFn Tryz.prog 121 [.sl 3 eT (l.map tz)] (.sl 3 eT ((canU l).map tz)) ∧ okT V (M + d) (canU l) := by
 intro d
 induction d with
 | zero =>
  intro M l hl hd hM hok;have hs := rSorted_short V M hV (by omega) (l.map tz) hok.terms (by simp; omega);rw [mergeT_short (by omega)] at hs;exact ⟨hs, hok.can0 (by omega)⟩
 | succ d ih =>
  intro M l hl hd hM hok;rw [Nat.pow_succ] at hl hd;rcases Nat.lt_or_ge l.length 2 with h2 | h2
  ·have hs := rSorted_short V M hV (by omega) (l.map tz) hok.terms (by simp; omega);rw [mergeT_short (by omega)] at hs;exact ⟨hs, (hok.can0 h2).mono (by omega)⟩
  ·obtain ⟨k, hk⟩ : ∃ k, k = l.length / 2 := ⟨_, rfl⟩;have o1 : okT V M (l.take k) := hok.sub fun u hu => List.mem_of_mem_take hu;have o2 : okT V M (l.drop k) := hok.sub fun u hu => List.mem_of_mem_drop hu;obtain ⟨a1, a2⟩ := ih M (l.take k) (by rw [List.length_take]; omega) (by omega) (by omega) o1;obtain ⟨b1, b2⟩ := ih M (l.drop k) (by rw [List.length_drop]; omega) (by omega) (by omega) o2;have l1 := Dx (l.take k);have l2 := Dx (l.drop k);rw [List.length_take] at l1;rw [List.length_drop] at l2;have hm := merged_ok V (M + d) hV (by omega) ((canU (l.take k)).map tz) ((canU (l.drop k)).map tz) a2.terms b2.terms (by rw [List.length_map]; omega) (by rw [List.length_map]; omega);rw [mergeT_can (CL _) (CL _) a2.lenU b2.lenU, canU_halves] at hm;have hres := okT.can (CL _) (CL _) a2 b2;rw [canU_halves] at hres;refine ⟨?_, hres.mono (by omega)⟩;refine AC Tryz.func121 rfl Tryz.ntmps121 rfl rfl ?_;have hlm : (l.map tz).length = l.length := List.length_map ..
   have e1 : (l.map tz).take (((l.map tz).length : Int) / 2).toNat = (l.take k).map tz := by rw [hlm, show ((l.length : Int) / 2).toNat = k by omega, List.map_take]
   have e2 : (l.map tz).drop (((l.map tz).length : Int) / 2).toNat = (l.drop k).map tz := by rw [hlm, show ((l.length : Int) / 2).toNat = k by omega, List.map_drop]
   (repeat' (first |refine qv ?_ |apply qn |apply qs |apply qr |refine qw ?_ |refine Fl.w rfl rfl rfl ⟨by omega, by omega, by dsimp only [hiK]; omega⟩ ?_ |(refine AD rfl ?_ ?_ <;> intro _ <;> try (exfalso; omega)) |apply qk));refine Fl.call rfl a1 rfl rfl rfl (LeL.cons (AV.Le.sl e1) LeL.nil) ?_;(repeat' (first |refine qv ?_ |refine qw ?_ |refine Fl.w rfl rfl rfl ⟨by omega, by omega, by dsimp only [hiK]; omega⟩ ?_|fail));refine Fl.call rfl b1 rfl rfl rfl (LeL.cons (AV.Le.sl e2) LeL.nil) ?_;refine qc (hm) ?_;(repeat' (first |refine qv ?_ |refine Fl.nil (fun _ => by kernel_rfl) ?_ |apply qt));exact RetOk.of rfl (AA _)
theorem rAddU (V M : Nat) (hV : V ≤ 1000) (hM : M ≤ 30000) (a b : List UT) (ca : CanU a) (cb : CanU b) (ha : okT V M a) (hb : okT V M b) (la : a.length ≤ 100000) (lb : b.length ≤ 100000) : PureFn Tryz.prog 62 [aP (mkP V a), aP (mkP V b)] (aP (mkP V (canU (a ++ b)))) := by
 have h := rAddP_ok V M hV hM (a.map tz) (b.map tz) ha.terms hb.terms (by rw [List.length_map]; omega) (by rw [List.length_map]; omega);rw [mergeT_can ca cb ha.lenU hb.lenU] at h;exact h
theorem rTimesU0 (V : Nat) (p : List UT) (t : UT) (h : p = [] ∨ t.1 = 0) : PureFn Tryz.prog 120 [aP (mkP V p), aT (tz t)] (aP (mkP V [])) := by
 refine AC Tryz.func120 rfl Tryz.ntmps120 rfl rfl ?_;have hzero := Ci (tz t).c;have hlen : (p.map tz).length = p.length := List.length_map ..;by_cases hp : p = []
 ·subst hp;(repeat' (first |refine qv ?_ |apply qn |apply qs |apply qr |refine qe ?_ |apply qb));refine AWP.loop (G := Unit) (fun _ => True) (fun _ => AO [] [(2, .ptr 2 0), (3, .ptr 3 0), (4, .ptr 4 0), (5, .ptr 5 0), (6, aN 0)] [(2, .cells [aN V, .sl 3 eT (([] : List UT).map tz)] 105), (3, .cells (eT (tz t)) 158), (4, .cells [aN 0, .v (.slice none 0 0)] 105), (5, .cells [aN V, .v (.slice none 0 0)] 105)]) (fun _ => 0) () trivial ?_ ?_
  ·refine Ent.of [] ?_ ?_ rfl rfl;(repeat' (first |exact True.intro |refine ⟨⟨AA _, rfl⟩, ?_⟩ |refine ⟨⟨⟨_, rfl, BLe.cells (AB _)⟩, rfl⟩, ?_⟩|fail))
  ·intro _ _;(repeat' (first |refine qv ?_ |apply qn |apply qs |apply qr |refine qe ?_ |refine Fl.skip rfl rfl ?_ |refine AF rfl ?_ |apply qx |apply qt));exact RetOk.of rfl (AV.Le.agg (LeL.cons (AA _) (LeL.cons (AV.Le.nil 3 eT) LeL.nil)))
 ·have hz : t.1 = 0 := h.resolve_left hp;rw [decide_eq_true (show (tz t).c.w.length = 0 from (toW_len0 t.1).2 hz)] at hzero;have hpl : 0 < p.length := List.length_pos_iff.2 hp;(repeat' (first |refine qv ?_ |apply qn |apply qs |apply qr |refine qe ?_ |apply qb));refine AWP.loop (G := Unit) (fun _ => True) (fun _ => AO [] [(2, .ptr 2 0), (3, .ptr 3 0), (4, .ptr 4 0), (5, .ptr 5 0), (6, aN 0)] [(2, .cells [aN V, .sl 3 eT (p.map tz)] 105), (3, .cells (eT (tz t)) 158), (4, .cells [aN 0, .v (.slice none 0 0)] 105), (5, .cells [aN V, .v (.slice none 0 0)] 105)]) (fun _ => 0) () trivial ?_ ?_
  ·refine Ent.of [] ?_ ?_ rfl rfl;(repeat' (first |exact True.intro |refine ⟨⟨AA _, rfl⟩, ?_⟩ |refine ⟨⟨⟨_, rfl, BLe.cells (AB _)⟩, rfl⟩, ?_⟩|fail))
  ·intro _ _;(repeat' (first |refine qv ?_ |apply qs |apply qr |(refine AJ rfl rfl ?_ ?_ <;> intro _ <;> try (exfalso; omega))))
   ·refine Fl.call rfl hzero rfl rfl rfl (AB _) ?_;(repeat' (first |refine qv ?_ |apply qn |apply qs |apply qr |refine qe ?_ |refine AF rfl ?_ |apply qx |apply qt));exact RetOk.of rfl (AV.Le.agg (LeL.cons (AA _) (LeL.cons (AV.Le.nil 3 eT) LeL.nil)))
theorem rTimesU (V M : Nat) (hV : V ≤ 1000) (hM : M ≤ 10000) (p : List UT) (t : UT) (hl : p.length ≤ 3000) (hp : okT V M p) (ht : okT V M [t]) : PureFn Tryz.prog 120 [aP (mkP V p), aT (tz t)] (aP (mkP V (if t.1 = 0 then [] else p.map fun s => (s.1 * t.1, addE s.2 t.2)))) := by
 by_cases hz : t.1 = 0
 ·rw [if_pos hz]; exact rTimesU0 V p t (.inr hz)
 ·rw [if_neg hz];by_cases hn : p = []
  ·subst hn; exact rTimesU0 V [] t (.inl rfl)
  ·have h := rTimes_ok V hV (p.map tz) (tz t) (by rw [List.length_map]; omega) (hp.mono hM).terms (ht.mono hM).terms (tz_nz hz) (by rw [List.length_map]; exact fun k => hn (List.eq_nil_of_length_eq_zero k));rw [timesT_tz] at h;exact h
theorem rConstU (V : Nat) (c : Int) (hV : V ≤ 1000) (hc : lenI c ≤ 20000) : PureFn Tryz.prog 122 [aN V, aX c] (aP (mkP V (conU V c))) := by
 refine AC Tryz.func122 rfl Tryz.ntmps122 rfl rfl ?_;have hs := (rSortedU V hV 0 20000 [(c, List.replicate V 0)] (by simp) (by simp) (by omega) (fun u hu => by simp only [List.mem_singleton] at hu; subst hu; exact ⟨by simp, EOk.zeros V, hc⟩)).1;rw [conU_can] at hs;refine AE ?_;(repeat' (first |apply qn |apply qr |refine qe ?_|fail));refine ⟨AWP.seq (AWP.region ?_)⟩;refine Fl.v rfl rfl rfl ?_;refine Fl.v rfl rfl rfl ?_;refine Fl.v rfl rfl rfl ?_;refine Fl.makeC rfl rfl rfl rfl rfl rfl rfl rfl rfl eI 0 (by exact AB _) (by rfl) (by omega) (by first | omega | (dsimp only; omega)) (by omega) ?_;(repeat' (first |refine qe ?_|fail));refine ql eT [tz (c, List.replicate V 0)] ?_;refine qc (hs) ?_;(repeat' (first |refine Fl.nil (fun _ => by kernel_rfl) ?_ |refine qe ?_ |apply qt));exact RetOk.of rfl (AA _)
theorem rVarU (V i : Nat) (hi : i < V) (hV : V ≤ 1000) : PureFn Tryz.prog 119 [aN V, aN i] (aP (mkP V (varU V i))) := rVar_ok V i hi hV
theorem rSubU (V M : Nat) (hV : V ≤ 1000) (hM : M ≤ 9000) (a b : List UT) (ca : CanU a) (cb : CanU b) (ha : okT V M a) (hb : okT V M b) (la : a.length ≤ 3000) (lb : b.length ≤ 3000) : PureFn Tryz.prog 63 [aP (mkP V a), aP (mkP V b)] (aP (mkP V (subL a b))) := by
 refine AC Tryz.func63 rfl Tryz.ntmps63 rfl rfl ?_;have l1 : lenI (-1) ≤ 1 := lenI_small (by decide);have ht := rTimesU V (M + 1) hV (by omega) b (-1, List.replicate V 0) lb (hb.mono (by omega)) (fun u hu => by simp only [List.mem_singleton] at hu; subst hu; exact ⟨by simp, EOk.zeros V, by show lenI (-1) ≤ M + 1; omega⟩);rw [if_neg (by simp)] at ht
 have hn : (b.map fun s => (s.1 * (-1), addE s.2 (List.replicate V 0))) = b.map fun u => (u.1 * (-1), u.2) := List.map_congr_left fun u hu => by rw [zeros_add _ _ (hb u hu).1]
 simp only at ht;rw [hn] at ht
 have cn : CanU (b.map fun u => (u.1 * (-1), u.2)) := ⟨fun u hu => by
  obtain ⟨v, hv, rfl⟩ := List.mem_map.1 hu;have := cb.nz v hv;show v.1 * (-1) ≠ 0
  omega, List.pairwise_map.2 cb.pw⟩
 have on : okT V M (b.map fun u => (u.1 * (-1), u.2)) := fun u hu => by
  obtain ⟨v, hv, rfl⟩ := List.mem_map.1 hu;refine ⟨(hb v hv).1, (hb v hv).2.1, ?_⟩;show lenI (v.1 * (-1)) ≤ M;rw [show v.1 * (-1) = -v.1 by omega, lenI_neg];exact (hb v hv).2.2
 have hadd := rAddU V M hV (by omega) a (b.map fun u => (u.1 * (-1), u.2)) ca cn ha on (by omega) (by rw [List.length_map]; omega);refine AE ?_;(repeat' (first |apply qn |apply qr |refine qe ?_|fail));refine ⟨AWP.seq (AWP.region ?_)⟩;(repeat' (first |refine qv ?_|fail));refine qc (rOf_ok (-1) (by omega) (by omega)) ?_;(repeat' (first |refine qv ?_|fail));refine Fl.makeC rfl rfl rfl rfl rfl rfl rfl rfl rfl eI 0 (by exact AB _) (by rfl) (by show (0 : Int) ≤ (V : Int); omega) (by show (V : Int) * _ ≤ _; first | omega | (dsimp only; omega)) (by show (V : Int) ≤ _; omega) ?_;(repeat' (first |refine qe ?_|fail));refine qc (ht) ?_;refine qc (hadd) ?_;(repeat' (first |refine Fl.nil (fun _ => by kernel_rfl) ?_ |refine qe ?_ |apply qt));exact RetOk.of rfl (AA _)
end Go.Proofs.YtmmfloplhopioaaGreat
/- Kit.Add, Kit.Mul. -/
namespace Go.AL
theorem okSums_cons {V : Nat} {acc p : List UT} {l : List (List UT)} (h : CQ V acc (p :: l) = true) : chkU V acc acc = true ∧ chkU V p p = true ∧ chkU V (Bm 1 acc p) (addL acc p) = true ∧ CQ V (addL acc p) l = true := by
 simp only [CQ, Bool.and_eq_true] at h;exact ⟨h.1.1.1, h.1.1.2, h.1.2, h.2⟩
theorem okMuls_cons {V : Nat} {acc p : List UT} {l : List (List UT)} (h : Cy V acc (p :: l) = true) : chkU V acc acc = true ∧ chkU V p p = true ∧ degU acc p = true ∧ chkU V (Bh acc p) (An acc p) = true ∧ Cy V (An acc p) l = true := by
 simp only [Cy, Bool.and_eq_true] at h;exact ⟨h.1.1.1.1, h.1.1.1.2, h.1.1.2, h.1.2, h.2⟩
theorem drop_cons {α : Type} {l : List α} {i : Nat} {x : α} (h : l[i]? = some x) : l.drop i = x :: l.drop (i + 1) := by
 have hi := List.getElem?_eq_some_iff.1 h;rw [List.drop_eq_getElem_cons hi.1, hi.2]
end Go.AL
namespace Go.Proofs.YtmmfloplhopioaaGreat
open Go.AL
theorem DQ (V : Nat) (hV : V ≤ 32) (ls : List (List UT)) (hl : ls.length ≤ 1000) (h : CQ V [] ls = true) : PureFn Tryz.prog 105 [aK V, .sl 2 eP (ls.map (mkP V))] (aP (mkP V (Al [] ls))) := by
 refine AC Tryz.func105 rfl Tryz.ntmps105 rfl rfl ?_;have hN := Dt V 0 hV (by omega) (by omega);rw [show conU V 0 = [] from rfl] at hN;refine AE ?_;(repeat' (first |apply qn |apply qr |refine qe ?_|fail));refine ⟨AE ?_⟩;(repeat' (first |refine qv ?_ |apply qr));refine qc (hN) ?_;(repeat' (first |apply qn |refine qe ?_|fail));refine ⟨?_⟩;obtain ⟨L, hL⟩ : ∃ L, L = ls.map (mkP V) := ⟨_, rfl⟩
 have hLl : L.length = ls.length := by rw [hL, List.length_map]
 rw [← hL];(repeat' (first |refine qv ?_ |apply qn |apply qs |apply qr |apply qb));refine AWP.loop (G := Nat × List UT) (fun (i, acc) => i ≤ ls.length ∧ CQ V acc (ls.drop i) = true ∧ Al acc (ls.drop i) = Al [] ls) (fun (i, acc) => AO [] [(4, .ptr 4 0), (5, .ptr 5 0), (10, .sl 2 eP L), (11, aN L.length), (12, aN i)] [(4, .cells [aN 0, .v (.slice none 0 0)] 105), (5, .cells (eP (mkP V acc)) 105)]) (fun (i, acc) => ls.length - i) (0, []) ⟨by omega, h, rfl⟩ ?_ ?_
 ·refine Ent.of [] ?_ ?_ rfl rfl;(repeat' (first |exact True.intro |refine ⟨⟨AA _, rfl⟩, ?_⟩ |refine ⟨⟨⟨_, rfl, BLe.cells (AB _)⟩, rfl⟩, ?_⟩|fail))
 ·intro ⟨i, acc⟩ ⟨h0, h1, h2⟩;(repeat' (first |refine qv ?_ |apply qn |apply qs |apply qr |refine qe ?_ |(refine AD rfl ?_ ?_ <;> intro _ <;> try (exfalso; omega)) |apply qb |apply qk |apply qx |apply qt |(refine Az rfl rfl rfl rfl rfl rfl rfl rfl (by omega) (by omega) ?_; intro _ _)|fail))
  ·rename_i hi p hp;rw [Int.toNat_natCast, hL, List.getElem?_map] at hp;obtain ⟨q, hq, rfl⟩ := Option.map_eq_some_iff.1 hp;rw [drop_cons hq] at h1 h2;obtain ⟨c1, c2, c3, c4⟩ := okSums_cons h1;refine qc (addMk V hV acc q _ c1 c2 c3) ?_;(repeat' (first |refine qv ?_ |apply qn |apply qr |refine qw ?_ |refine qe ?_|fail));refine LoopEnd.of (i + 1, addL acc q) ⟨by omega, c4, h2⟩ (by simp only; omega) ?_;refine Ent.of [] ?_ ?_ rfl rfl;(repeat' (first |exact True.intro |refine ⟨⟨AA _, rfl⟩, ?_⟩ |refine ⟨⟨⟨_, rfl, BLe.cells (AB _)⟩, rfl⟩, ?_⟩|fail))
  ·rename_i hi;rw [List.drop_of_length_le (by omega)] at h2;refine RetOk.of rfl (AW ?_);rw [← h2]; rfl
theorem Cn (V : Nat) (hV : V ≤ 32) (ls : List (List UT)) (hl : ls.length ≤ 1000) (h : Cy V (conU V 1) ls = true) : PureFn Tryz.prog 102 [aK V, .sl 2 eP (ls.map (mkP V))] (aP (mkP V (Av (conU V 1) ls))) := by
 refine AC Tryz.func102 rfl Tryz.ntmps102 rfl rfl ?_;have hN := Dt V 1 hV (by omega) (by omega);refine AE ?_;(repeat' (first |apply qn |apply qr |refine qe ?_|fail));refine ⟨AE ?_⟩;(repeat' (first |refine qv ?_ |apply qr));refine qc (hN) ?_;(repeat' (first |apply qn |refine qe ?_|fail));refine ⟨?_⟩;obtain ⟨L, hL⟩ : ∃ L, L = ls.map (mkP V) := ⟨_, rfl⟩
 have hLl : L.length = ls.length := by rw [hL, List.length_map]
 rw [← hL];(repeat' (first |refine qv ?_ |apply qn |apply qs |apply qr |apply qb));refine AWP.loop (G := Nat × List UT) (fun (i, acc) => i ≤ ls.length ∧ Cy V acc (ls.drop i) = true ∧ Av acc (ls.drop i) = Av (conU V 1) ls) (fun (i, acc) => AO [] [(4, .ptr 4 0), (5, .ptr 5 0), (10, .sl 2 eP L), (11, aN L.length), (12, aN i)] [(4, .cells [aN 0, .v (.slice none 0 0)] 105), (5, .cells (eP (mkP V acc)) 105)]) (fun (i, acc) => ls.length - i) (0, conU V 1) ⟨by omega, h, rfl⟩ ?_ ?_
 ·refine Ent.of [] ?_ ?_ rfl rfl;(repeat' (first |exact True.intro |refine ⟨⟨AA _, rfl⟩, ?_⟩ |refine ⟨⟨⟨_, rfl, BLe.cells (AB _)⟩, rfl⟩, ?_⟩|fail))
 ·intro ⟨i, acc⟩ ⟨h0, h1, h2⟩;(repeat' (first |refine qv ?_ |apply qn |apply qs |apply qr |refine qe ?_ |(refine AD rfl ?_ ?_ <;> intro _ <;> try (exfalso; omega)) |apply qb |apply qk |apply qx |apply qt |(refine Az rfl rfl rfl rfl rfl rfl rfl rfl (by omega) (by omega) ?_; intro _ _)|fail))
  ·rename_i hi p hp;rw [Int.toNat_natCast, hL, List.getElem?_map] at hp;obtain ⟨q, hq, rfl⟩ := Option.map_eq_some_iff.1 hp;rw [drop_cons hq] at h1 h2;obtain ⟨c1, c2, c3, c4, c5⟩ := okMuls_cons h1;refine qc (mulMk V hV acc q _ c1 c2 c3 c4) ?_;(repeat' (first |refine qv ?_ |apply qn |apply qr |refine qw ?_ |refine qe ?_|fail));refine LoopEnd.of (i + 1, An acc q) ⟨by omega, c5, h2⟩ (by simp only; omega) ?_;refine Ent.of [] ?_ ?_ rfl rfl;(repeat' (first |exact True.intro |refine ⟨⟨AA _, rfl⟩, ?_⟩ |refine ⟨⟨⟨_, rfl, BLe.cells (AB _)⟩, rfl⟩, ?_⟩|fail))
  ·rename_i hi;rw [List.drop_of_length_le (by omega)] at h2;refine RetOk.of rfl (AW ?_);rw [← h2]; rfl
end Go.Proofs.YtmmfloplhopioaaGreat
/- Kit.Link: its closures; what occurs. -/
namespace Go.AL
def occL (V : Nat) (ls : List (List UT)) : List Nat := (List.range V).filter fun i => ls.any fun p => p.any fun u => decide (0 < u.2.getD i 0)
def Ck (occ : List Nat) (e : List Int) : List Int := occ.map fun i => e.getD i 0
def Dc (occ : List Nat) (p : List UT) : List UT := p.map fun u => (u.1, Ck occ u.2)
def A7 (V : Nat) (kind : Int) (ls : List (List UT)) : LZ := ⟨kind, (occL V ls).map fun (i : Nat) => (i : Int), ls.map fun p => mkP (occL V ls).length (Dc (occL V ls) p)⟩
end Go.AL
namespace Go.Proofs.YtmmfloplhopioaaGreat
open Go.AL
abbrev iB (i : Int) : List (AL.Id × Bx) := [(900, .cells [aN i] 3)]
theorem idxT_ok (o : Int) (f : TZ → Bool) (ps : List TZ) (hl : ps.length ≤ 1000000) (hf : ∀ p ∈ ps, IoFn Tryz.prog 197 ([aT p] ++ [.ptr 900 0]) (iB o) (.ret (aB (f p))) (iB o)) :
  IoFn Tryz.prog 217 [.sl 3 eT ps, .fn 197 [.ptr 900 0]] (iB o) (.ret (aN (idxI f ps 0))) (iB o) := by
 refine AG Tryz.func217 rfl Tryz.ntmps217 rfl rfl rfl ?_;(repeat' (first |refine qv ?_ |apply qn |apply qs |apply qr |apply qb));refine AWP.loop (G := Nat) (fun i => i ≤ ps.length ∧ idxI f (ps.drop i) i = idxI f ps 0) (fun i => AO [900] [(0, .sl 3 eT ps), (1, .fn 197 [.ptr 900 0]), (7, aN ps.length), (8, aN i)] [(900, .cells [aN o] 3)]) (fun i => ps.length - i) 0 ⟨by omega, by simp⟩ ?_ ?_
 ·refine Ent.of [] ?_ ?_ rfl rfl;(repeat' (first |exact True.intro |refine ⟨⟨AA _, rfl⟩, ?_⟩ |refine ⟨⟨⟨_, rfl, BLe.cells (AB _)⟩, rfl⟩, ?_⟩|fail))
 ·intro i ⟨k0, k1⟩;(repeat' (first |refine qv ?_ |apply qn |apply qs |apply qr |(refine AD rfl ?_ ?_ <;> intro _ <;> try (exfalso; omega)) |apply qb |apply qk |apply qx |apply qt |(refine Az rfl rfl rfl rfl rfl rfl rfl rfl (by omega) (by omega) ?_; intro _ _)|fail))
  ·rename_i hi p hp;rw [Int.toNat_natCast] at hp;have hd := EJ (f := f) hp;refine Dl rfl rfl [] (hf p (List.mem_of_getElem? hp)) rfl rfl (AB _) rfl ⟨⟨⟨_, rfl, BLe.cells (AB _)⟩, rfl⟩, trivial⟩ rfl rfl rfl rfl rfl ?_;(repeat' (first |refine qv ?_ |apply qn |apply qs |apply qr |refine qw ?_ |apply qk |apply qt |(refine BF rfl ?_ ?_ <;> intro _)))
   ·rename_i hb;rw [if_pos hb] at hd;refine ⟨⟨[], _, _, AK _ _ _, rfl, AV.Le.int ?_, rfl, ⟨⟨⟨_, rfl, BLe.cells (AB _)⟩, rfl⟩, trivial⟩, rfl, rfl⟩⟩;rw [← k1, hd]
   ·rename_i hb;rw [if_neg (by rw [hb]; simp)] at hd;refine LoopEnd.of (i + 1) ⟨by omega, by rw [← k1, hd]⟩ (by omega) ?_;refine Ent.of [] ?_ ?_ rfl rfl;(repeat' (first |exact True.intro |refine ⟨⟨AA _, rfl⟩, ?_⟩ |refine ⟨⟨⟨_, rfl, BLe.cells (AB _)⟩, rfl⟩, ?_⟩|fail))
  ·refine ⟨⟨[], _, _, AK _ _ _, rfl, AV.Le.int ?_, rfl, ⟨⟨⟨_, rfl, BLe.cells (AB _)⟩, rfl⟩, trivial⟩, rfl, rfl⟩⟩;rw [← k1, List.drop_of_length_le (by omega)]; rfl
theorem conT_ok (o : Int) (f : TZ → Bool) (ps : List TZ) (hl : ps.length ≤ 1000000) (hf : ∀ p ∈ ps, IoFn Tryz.prog 197 ([aT p] ++ [.ptr 900 0]) (iB o) (.ret (aB (f p))) (iB o)) :
  IoFn Tryz.prog 196 [.sl 3 eT ps, .fn 197 [.ptr 900 0]] (iB o) (.ret (aB (ps.any f))) (iB o) := by
 refine AG Tryz.func196 rfl Tryz.ntmps196 rfl rfl rfl ?_;have h := idxT_ok o f ps hl hf;have he := EK f ps 0 (by omega);(repeat' (first |refine qv ?_ |apply qn |apply qs |apply qr));refine qi [] h ?_;(repeat' (first |refine qv ?_ |apply qn |apply qt));exact ⟨⟨[], _, _, AK _ _ _, rfl, AV.Le.bool he, rfl, ⟨⟨⟨_, rfl, BLe.cells (AB _)⟩, rfl⟩, trivial⟩, rfl, rfl⟩⟩
theorem link11_ok (i : Nat) (t : TZ) (hi : i < t.e.length) : IoFn Tryz.prog 197 [aT t, .ptr 900 0] (iB i) (.ret (aB (decide (0 < t.e.getD i 0)))) (iB i) := by
 refine AG Tryz.func197 rfl Tryz.ntmps197 rfl rfl rfl ?_;(repeat' (first |refine qv ?_ |apply qn |apply qs |apply qr |refine qe ?_ |apply qt |(refine Az rfl rfl rfl rfl rfl rfl rfl rfl (by omega) (by omega) ?_; intro _ _)|fail));rename_i x hx
 have hx : t.e[i]? = some x := by simpa using hx
 refine ⟨⟨[], _, _, AK _ _ _, rfl, AV.Le.bool ?_, rfl, ⟨⟨⟨_, rfl, BLe.cells (AB _)⟩, rfl⟩, trivial⟩, rfl, rfl⟩⟩;rw [List.getD_eq_getElem?_getD, hx];rfl
theorem idxK_ok (o : Int) (f : PZ → Bool) (ps : List PZ) (hl : ps.length ≤ 1000000) (hf : ∀ p ∈ ps, IoFn Tryz.prog 195 ([aP p] ++ [.ptr 900 0]) (iB o) (.ret (aB (f p))) (iB o)) :
  IoFn Tryz.prog 200 [.sl 2 eP ps, .fn 195 [.ptr 900 0]] (iB o) (.ret (aN (idxI f ps 0))) (iB o) := by
 refine AG Tryz.func200 rfl Tryz.ntmps200 rfl rfl rfl ?_;(repeat' (first |refine qv ?_ |apply qn |apply qs |apply qr |apply qb));refine AWP.loop (G := Nat) (fun i => i ≤ ps.length ∧ idxI f (ps.drop i) i = idxI f ps 0) (fun i => AO [900] [(0, .sl 2 eP ps), (1, .fn 195 [.ptr 900 0]), (7, aN ps.length), (8, aN i)] [(900, .cells [aN o] 3)]) (fun i => ps.length - i) 0 ⟨by omega, by simp⟩ ?_ ?_
 ·refine Ent.of [] ?_ ?_ rfl rfl;(repeat' (first |exact True.intro |refine ⟨⟨AA _, rfl⟩, ?_⟩ |refine ⟨⟨⟨_, rfl, BLe.cells (AB _)⟩, rfl⟩, ?_⟩|fail))
 ·intro i ⟨k0, k1⟩;(repeat' (first |refine qv ?_ |apply qn |apply qs |apply qr |(refine AD rfl ?_ ?_ <;> intro _ <;> try (exfalso; omega)) |apply qb |apply qk |apply qx |apply qt |(refine Az rfl rfl rfl rfl rfl rfl rfl rfl (by omega) (by omega) ?_; intro _ _)|fail))
  ·rename_i hi p hp;rw [Int.toNat_natCast] at hp;have hd := EJ (f := f) hp;refine Dl rfl rfl [] (hf p (List.mem_of_getElem? hp)) rfl rfl (AB _) rfl ⟨⟨⟨_, rfl, BLe.cells (AB _)⟩, rfl⟩, trivial⟩ rfl rfl rfl rfl rfl ?_;(repeat' (first |refine qv ?_ |apply qn |apply qs |apply qr |refine qw ?_ |apply qk |apply qt |(refine BF rfl ?_ ?_ <;> intro _)))
   ·rename_i hb;rw [if_pos hb] at hd;refine ⟨⟨[], _, _, AK _ _ _, rfl, AV.Le.int ?_, rfl, ⟨⟨⟨_, rfl, BLe.cells (AB _)⟩, rfl⟩, trivial⟩, rfl, rfl⟩⟩;rw [← k1, hd]
   ·rename_i hb;rw [if_neg (by rw [hb]; simp)] at hd;refine LoopEnd.of (i + 1) ⟨by omega, by rw [← k1, hd]⟩ (by omega) ?_;refine Ent.of [] ?_ ?_ rfl rfl;(repeat' (first |exact True.intro |refine ⟨⟨AA _, rfl⟩, ?_⟩ |refine ⟨⟨⟨_, rfl, BLe.cells (AB _)⟩, rfl⟩, ?_⟩|fail))
  ·refine ⟨⟨[], _, _, AK _ _ _, rfl, AV.Le.int ?_, rfl, ⟨⟨⟨_, rfl, BLe.cells (AB _)⟩, rfl⟩, trivial⟩, rfl, rfl⟩⟩;rw [← k1, List.drop_of_length_le (by omega)]; rfl
theorem conK_ok (o : Int) (f : PZ → Bool) (ps : List PZ) (hl : ps.length ≤ 1000000) (hf : ∀ p ∈ ps, IoFn Tryz.prog 195 ([aP p] ++ [.ptr 900 0]) (iB o) (.ret (aB (f p))) (iB o)) :
  IoFn Tryz.prog 174 [.sl 2 eP ps, .fn 195 [.ptr 900 0]] (iB o) (.ret (aB (ps.any f))) (iB o) := by
 refine AG Tryz.func174 rfl Tryz.ntmps174 rfl rfl rfl ?_;have h := idxK_ok o f ps hl hf;have he := EK f ps 0 (by omega);(repeat' (first |refine qv ?_ |apply qn |apply qs |apply qr));refine qi [] h ?_;(repeat' (first |refine qv ?_ |apply qn |apply qt));exact ⟨⟨[], _, _, AK _ _ _, rfl, AV.Le.bool he, rfl, ⟨⟨⟨_, rfl, BLe.cells (AB _)⟩, rfl⟩, trivial⟩, rfl, rfl⟩⟩
theorem linkK1_ok (i : Nat) (p : PZ) (hl : p.terms.length ≤ 1000000) (hi : ∀ t ∈ p.terms, i < t.e.length) : IoFn Tryz.prog 195 [aP p, .ptr 900 0] (iB i) (.ret (aB (p.terms.any fun t => decide (0 < t.e.getD i 0)))) (iB i) := by
 refine AG Tryz.func195 rfl Tryz.ntmps195 rfl rfl rfl ?_;have h := conT_ok i (fun t => decide (0 < t.e.getD i 0)) p.terms hl (fun t ht => link11_ok i t (hi t ht));(repeat' (first |refine qv ?_ |apply qn |apply qs |apply qr |refine qe ?_|fail))
 refine qi [] h ?_;(repeat' (first |refine qv ?_ |apply qn |apply qt));exact ⟨⟨[], _, _, AK _ _ _, rfl, AA _, rfl, ⟨⟨⟨_, rfl, BLe.cells (AB _)⟩, rfl⟩, trivial⟩, rfl, rfl⟩⟩
end Go.Proofs.YtmmfloplhopioaaGreat
/- Kit.Link, Kit.Eq: the walk. -/
namespace Go.AL
def occP (ls : List (List UT)) (i : Nat) : Bool := ls.any fun p => p.any fun u => decide (0 < u.2.getD i 0)
def occI (ls : List (List UT)) (i : Nat) : List Int := ((List.range i).filter (occP ls)).map fun (j : Nat) => (j : Int)
theorem occI_step (ls : List (List UT)) (i : Nat) : occI ls (i + 1) = if occP ls i = true then occI ls i ++ [(i : Int)] else occI ls i := by
 unfold occI;rw [List.range_succ, List.filter_append, List.map_append];by_cases h : occP ls i = true
 ·rw [if_pos h]; simp [h]
 ·rw [if_neg h]; simp [h]
theorem occI_len (ls : List (List UT)) (i : Nat) : (occI ls i).length ≤ i := by
 unfold occI;rw [List.length_map];exact Nat.le_trans (List.length_filter_le _ _) (by simp)
theorem occI_mem {ls : List (List UT)} {V : Nat} {x : Int} (h : x ∈ occI ls V) : 0 ≤ x ∧ x < V := by
 unfold occI at h;obtain ⟨j, hj, rfl⟩ := List.mem_map.1 h;have := (List.mem_filter.1 hj).1;rw [List.mem_range] at this;omega
theorem occP_any (V : Nat) (ls : List (List UT)) (i : Nat) : ((ls.map (mkP V)).any fun p => p.terms.any fun t => decide (0 < t.e.getD i 0)) = occP ls i := by
 unfold occP;rw [List.any_map];congr 1;funext p;simp only [Function.comp, mkP, List.any_map];rfl
def Bv (occ : List Int) (e : List Int) : List Int := occ.map fun x => e.getD x.toNat 0
theorem pickX_eq (occ : List Nat) (e : List Int) : Bv (occ.map fun (i : Nat) => (i : Int)) e = Ck occ e := by
 unfold Bv Ck;rw [List.map_map];rfl
end Go.AL
namespace Go.Proofs.YtmmfloplhopioaaGreat
open Go.AL
set_option maxHeartbeats 1000000 in
theorem kLink_ok (V : Nat) (kind : Int) (ls : List (List UT)) (hV : V ≤ 32) (hl : ls.length ≤ 1000) (hk : ∀ p ∈ ls, p.length ≤ 3000 ∧ ∀ u ∈ p, u.2.length = V) : PureFn Tryz.prog 162 [aK V, aN kind, .sl 2 eP (ls.map (mkP V))] (aL (A7 V kind ls)) := by
 refine AC Tryz.func162 rfl Tryz.ntmps162 rfl rfl ?_;obtain ⟨L, hL⟩ : ∃ L, L = ls.map (mkP V) := ⟨_, rfl⟩
 have hLl : L.length = ls.length := by rw [hL, List.length_map]
 rw [← hL]
 have hcon : ∀ i : Nat, i < V → IoFn Tryz.prog 174 [.sl 2 eP L, .fn 195 [.ptr 900 0]] (iB i) (.ret (aB (occP ls i))) (iB i) := fun i hi => by
  have h := conK_ok i (fun p => p.terms.any fun t => decide (0 < t.e.getD i 0)) L (by omega) (fun p hp => by
   rw [hL] at hp;obtain ⟨q, hq, rfl⟩ := List.mem_map.1 hp;have := hk q hq;refine linkK1_ok i (mkP V q) (by simp only [mkP, List.length_map]; omega) (fun t ht => ?_);obtain ⟨u, hu, rfl⟩ := List.mem_map.1 ht;have := this.2 u hu;show i < u.2.length
   omega)
  rw [hL, occP_any] at h;rw [hL];exact h
 refine AE ?_;(repeat' (first |apply qn |apply qr |refine qe ?_|fail));refine ⟨AE ?_⟩;(repeat' (first |refine qv ?_ |apply qn |apply qr |refine qe ?_|fail));refine ⟨?_⟩;refine Ab (BT 7 1 805 rfl rfl rfl 1 eI 3) ?_;(repeat' (first |refine qv ?_ |apply qn |apply qs |apply qr |apply qb));refine AWP.loop (G := Nat) (fun i => i ≤ V) (fun i => AO [] [(2, .sl 2 eP L), (6, .ptr 6 0), (7, .ptr 7 0), (20, aN V), (21, aN i)] [(6, .cells [aN 0, .v (.slice none 0 0), .v (.slice none 0 0)] 99), (7, .cells [aN kind, .row 700, .v (.slice none 0 0)] 99), (700, .row 1 eI (occI ls i) 3)]) (fun i => V - i) 0 (by omega) ?_ ?_
 ·refine Ent.of [(700, 805)] ?_ ?_ rfl rfl;(repeat' (first |exact True.intro |refine ⟨⟨AA _, rfl⟩, ?_⟩ |refine ⟨⟨⟨_, rfl, BLe.cells (AB _)⟩, rfl⟩, ?_⟩ |refine ⟨⟨⟨_, rfl, BLe.row rfl⟩, rfl⟩, ?_⟩|fail))
 ·intro i k0;have hol := occI_len ls i;have hst := occI_step ls i;(repeat' (first |refine qv ?_ |apply qn |apply qs |apply qr |refine qe ?_ |(refine AD rfl ?_ ?_ <;> intro _ <;> try (exfalso; omega)) |apply qb |apply qk |apply qx))
  ·rename_i hi;refine qi [(900, 8)] (hcon i (by omega)) ?_;(repeat' (first |refine qv ?_ |apply qn |apply qr |refine qw ?_ |apply qk |(refine BF rfl ?_ ?_ <;> intro _)))
   ·rename_i hb;rw [if_pos hb] at hst;refine ql eI [(i : Int)] ?_;refine qa (hby := (by dsimp only [List.length_nil, List.length_cons]; omega)) (hm := (by simp; omega)) (r := ?_);(repeat' (first |refine qv ?_ |apply qn |apply qr |refine qw ?_ |refine qe ?_|fail));refine LoopEnd.of (i + 1) (by omega) (by omega) ?_;refine Ent.of [(700, 31)] ?_ ?_ rfl rfl;(repeat' (first |exact True.intro |refine ⟨⟨AA _, rfl⟩, ?_⟩ |refine ⟨⟨⟨_, rfl, BLe.cells (AB _)⟩, rfl⟩, ?_⟩ |refine ⟨⟨⟨_, rfl, BLe.row ?_⟩, rfl⟩, ?_⟩|fail));exact hst.symm
   ·rename_i hb;rw [if_neg (by rw [hb]; simp)] at hst;refine LoopEnd.of (i + 1) (by omega) (by omega) ?_;refine Ent.of [] ?_ ?_ rfl rfl;(repeat' (first |exact True.intro |refine ⟨⟨AA _, rfl⟩, ?_⟩ |refine ⟨⟨⟨_, rfl, BLe.cells (AB _)⟩, rfl⟩, ?_⟩ |refine ⟨⟨⟨_, rfl, BLe.row ?_⟩, rfl⟩, ?_⟩|fail));exact hst.symm
  ·rename_i hi
   have hiV : i = V := by omega
   subst hiV;have hom : ∀ (m : Nat) (x : Int), (occI ls i)[m]? = some x → 0 ≤ x ∧ x < i := fun m x hx => occI_mem (List.mem_of_getElem? hx);have hocc : occI ls i = (occL i ls).map fun (i : Nat) => (i : Int) := rfl
   have hon : (occL i ls).length = (occI ls i).length := by rw [hocc, List.length_map]
   have hres : A7 i kind ls = ⟨kind, occI ls i, ls.map fun p => mkP (occI ls i).length (p.map fun u => (u.1, Bv (occI ls i) u.2))⟩ := by
    unfold A7;rw [← hocc, hon];congr 1;refine List.map_congr_left fun p _ => ?_;unfold Dc;congr 1;refine List.map_congr_left fun u _ => ?_;rw [hocc, pickX_eq]
   rw [hres]
   generalize occI ls i = occ at *
   refine Ab (Ent.freeze 700 rfl) ?_;refine Ab (BT 7 2 806 rfl rfl rfl 2 eP 105) ?_;refine AWP.loop (G := Nat) (fun j => j ≤ ls.length) (fun j => AO [] [(6, .ptr 6 0), (7, .ptr 7 0), (34, .sl 2 eP L), (35, aN L.length), (36, aN j)] [(6, .cells [aN 0, .v (.slice none 0 0), .v (.slice none 0 0)] 99), (7, .cells [aN kind, aI occ, .row 701] 99), (701, .row 2 eP ((ls.take j).map fun p => mkP occ.length (p.map fun u => (u.1, Bv occ u.2))) 105)]) (fun j => ls.length - j) 0 (by omega) ?_ ?_
   ·refine Ent.of [(701, 806)] ?_ ?_ rfl rfl;(repeat' (first |exact True.intro |refine ⟨⟨AA _, rfl⟩, ?_⟩ |refine ⟨⟨⟨_, rfl, BLe.cells (AB _)⟩, rfl⟩, ?_⟩ |refine ⟨⟨⟨_, rfl, BLe.row rfl⟩, rfl⟩, ?_⟩|fail))
   ·intro j g0
    have hlj : ((ls.take j).map fun p => mkP occ.length (p.map fun u => (u.1, Bv occ u.2))).length = j := by rw [List.length_map, List.length_take]; omega
    by_cases hj : j < ls.length
    ·obtain ⟨q, hq⟩ : ∃ q, ls[j]? = some q := ⟨_, List.getElem?_eq_getElem hj⟩
     have hLq : L[j]? = some (mkP i q) := by rw [hL, List.getElem?_map, hq]; rfl
     obtain ⟨hq1, hq2⟩ := hk q (List.mem_of_getElem? hq);refine AE ?_;(repeat' (first |refine qv ?_ |apply qn |apply qr));refine ⟨?_⟩;refine AE ?_;(repeat' (first |(refine AD rfl ?_ ?_ <;> intro _ <;> try (exfalso; omega)) |apply qk));refine ⟨?_⟩;refine AWP.seq (AWP.block (AE ?_));(repeat' (first |refine qv ?_ |apply qn |apply qr |refine qe ?_ |refine qK ?_|fail));refine ⟨?_⟩;refine AE ?_;(repeat' (first |refine qv ?_ |apply qn |apply qr |refine qe ?_|fail));refine ⟨?_⟩;refine Ab (BT 11 1 807 rfl rfl rfl 3 eT 158) ?_;(repeat' (first |refine qv ?_ |apply qn |apply qs |apply qr |apply qb));obtain ⟨T, hT⟩ : ∃ T, T = (mkP i q).terms := ⟨_, rfl⟩
     have hTl : T.length = q.length := by rw [hT]; simp [mkP]
     refine AWP.loop (G := Nat) (fun k => k ≤ q.length) (fun k => AO [] [(6, .ptr 6 0), (7, .ptr 7 0), (34, .sl 2 eP L), (35, aN L.length), (36, aN j), (11, .ptr 11 0), (45, .sl 3 eT T), (46, aN T.length), (47, aN k)] [(6, .cells [aN 0, .v (.slice none 0 0), .v (.slice none 0 0)] 99), (7, .cells [aN kind, aI occ, .row 701] 99), (701, .row 2 eP ((ls.take j).map fun p => mkP occ.length (p.map fun u => (u.1, Bv occ u.2))) 105), (11, .cells [aN occ.length, .row 702] 105), (702, .row 3 eT (((q.take k).map fun u => (u.1, Bv occ u.2)).map tz) 158)]) (fun k => q.length - k) 0 (by omega) ?_ ?_
     ·refine Ent.of [(702, 807)] ?_ ?_ rfl rfl;(repeat' (first |exact True.intro |refine ⟨⟨AA _, rfl⟩, ?_⟩ |refine ⟨⟨⟨_, rfl, BLe.cells (AB _)⟩, rfl⟩, ?_⟩ |refine ⟨⟨⟨_, rfl, BLe.row rfl⟩, rfl⟩, ?_⟩ |refine ⟨⟨AV.Le.int ?_, rfl⟩, ?_⟩ |refine ⟨⟨AV.Le.sl ?_, rfl⟩, ?_⟩|fail))
      ·exact hT.symm
      ·rw [hTl]; simp [mkP]
     ·intro k e0
      have hlk : (((q.take k).map fun u => (u.1, Bv occ u.2)).map tz).length = k := by rw [List.length_map, List.length_map, List.length_take]; omega
      by_cases hkq : k < q.length
      ·obtain ⟨u, hu⟩ : ∃ u, q[k]? = some u := ⟨_, List.getElem?_eq_getElem hkq⟩
       have hTu : T[k]? = some (tz u) := by rw [hT]; show (q.map tz)[k]? = _; rw [List.getElem?_map, hu]; rfl
       have hul := hq2 u (List.mem_of_getElem? hu);refine AE ?_;(repeat' (first |refine qv ?_ |apply qn |apply qr));refine ⟨?_⟩;refine AE ?_;(repeat' (first |(refine AD rfl ?_ ?_ <;> intro _ <;> try (exfalso; omega)) |apply qk));refine ⟨AWP.seq (AWP.block (AE ?_))⟩;(repeat' (first |refine qv ?_ |apply qn |apply qr |refine qe ?_ |refine qK ?_|fail));refine ⟨AE ?_⟩;(repeat' (first |refine qv ?_ |apply qr));refine Fl.make0 rfl rfl rfl rfl rfl rfl rfl rfl rfl eI (by omega) (by dsimp only; omega) (by omega) ?_;(repeat' (first |refine qv ?_ |apply qn));refine ⟨AWP.seq ?_⟩;(repeat' (first |refine qv ?_ |apply qn |apply qs |apply qr |apply qb));refine AWP.loop (G := Nat) (fun m => m ≤ occ.length) (fun m => AO [] [(6, .ptr 6 0), (7, .ptr 7 0), (34, .sl 2 eP L), (35, aN L.length), (36, aN j), (11, .ptr 11 0), (45, .sl 3 eT T), (46, aN T.length), (47, aN k), (13, .ptr 13 0), (14, .row 703), (56, aI occ), (57, aN occ.length), (58, aN m)] [(6, .cells [aN 0, .v (.slice none 0 0), .v (.slice none 0 0)] 99), (7, .cells [aN kind, aI occ, .row 701] 99), (701, .row 2 eP ((ls.take j).map fun p => mkP occ.length (p.map fun u => (u.1, Bv occ u.2))) 105), (11, .cells [aN occ.length, .row 702] 105), (702, .row 3 eT (((q.take k).map fun u => (u.1, Bv occ u.2)).map tz) 158), (13, .cells (eT (tz u)) 158), (703, .row 1 eI ((occ.take m).map fun x => u.2.getD x.toNat 0) 3)]) (fun m => occ.length - m) 0 (by omega) ?_ ?_
       ·refine Ent.of [(703, 54)] ?_ ?_ rfl rfl;(repeat' (first |exact True.intro |refine ⟨⟨AA _, rfl⟩, ?_⟩ |refine ⟨⟨⟨_, rfl, BLe.cells (AB _)⟩, rfl⟩, ?_⟩ |refine ⟨⟨⟨_, rfl, BLe.row rfl⟩, rfl⟩, ?_⟩|fail))
       ·intro m m0
        have hlm : ((occ.take m).map fun x => u.2.getD x.toNat 0).length = m := by rw [List.length_map, List.length_take]; omega
        by_cases hm : m < occ.length
        ·obtain ⟨x, hx⟩ : ∃ x, occ[m]? = some x := ⟨_, List.getElem?_eq_getElem hm⟩;have hxb := hom m x hx;obtain ⟨y, hy⟩ : ∃ y, u.2[x.toNat]? = some y := ⟨_, List.getElem?_eq_getElem (by omega)⟩;(repeat' (first |refine qv ?_ |apply qn |apply qs |apply qr |(refine AD rfl ?_ ?_ <;> intro _ <;> try (exfalso; omega)) |apply qb |apply qk |refine qK ?_|fail));refine ql eI [y] ?_;refine qa (hby := (by dsimp only [List.length_nil, List.length_cons]; omega)) (hm := (by dsimp only [List.length_nil, List.length_cons]; omega)) (r := ?_);(repeat' (first |refine qv ?_ |apply qn |apply qr |refine qw ?_|fail));refine LoopEnd.of (m + 1) (by omega) (by omega) ?_;refine Ent.of [(703, 69)] ?_ ?_ rfl rfl;(repeat' (first |exact True.intro |refine ⟨⟨AA _, rfl⟩, ?_⟩ |refine ⟨⟨⟨_, rfl, BLe.cells (AB _)⟩, rfl⟩, ?_⟩ |refine ⟨⟨⟨_, rfl, BLe.row rfl⟩, rfl⟩, ?_⟩ |refine ⟨⟨⟨_, rfl, BLe.row ?_⟩, rfl⟩, ?_⟩|fail));rw [Ac hx, List.map_append];congr 1;show [y] = [u.2.getD x.toNat 0];rw [List.getD_eq_getElem?_getD, hy];rfl
        ·have htm : occ.take m = occ := List.take_of_length_le (by omega);rw [htm];refine Ab (Ent.freeze 703 rfl) ?_;(repeat' (first |refine qv ?_ |apply qn |apply qs |apply qr |refine qe ?_ |(refine AD rfl ?_ ?_ <;> intro _ <;> try (exfalso; omega)) |apply qx));refine ql eT [tz (u.1, Bv occ u.2)] ?_;refine qa (hby := (by dsimp only [List.length_nil, List.length_cons]; omega)) (hm := (by dsimp only [List.length_nil, List.length_cons]; omega)) (r := ?_);(repeat' (first |refine qv ?_ |apply qn |apply qr |refine qw ?_ |refine qe ?_|fail));refine LoopEnd.of (k + 1) (by omega) (by omega) ?_;refine Ent.of [(702, 78)] ?_ ?_ rfl rfl;(repeat' (first |exact True.intro |refine ⟨⟨AA _, rfl⟩, ?_⟩ |refine ⟨⟨⟨_, rfl, BLe.cells (AB _)⟩, rfl⟩, ?_⟩ |refine ⟨⟨⟨_, rfl, BLe.row rfl⟩, rfl⟩, ?_⟩ |refine ⟨⟨⟨_, rfl, BLe.row ?_⟩, rfl⟩, ?_⟩|fail));rw [Ac hu, List.map_append, List.map_append];rfl
      ·have htk : q.take k = q := List.take_of_length_le (by omega);rw [htk];refine Ab (Ent.freeze 702 rfl) ?_;(repeat' (first |refine qv ?_ |apply qn |apply qs |apply qr |(refine AD rfl ?_ ?_ <;> intro _ <;> try (exfalso; omega)) |apply qx));refine ql eP [mkP occ.length (q.map fun u => (u.1, Bv occ u.2))] ?_;refine qa (hby := (by dsimp only [List.length_nil, List.length_cons]; omega)) (hm := (by dsimp only [List.length_nil, List.length_cons]; omega)) (r := ?_);(repeat' (first |refine qv ?_ |apply qn |apply qr |refine qw ?_ |refine qe ?_|fail));refine LoopEnd.of (j + 1) (by omega) (by omega) ?_;refine Ent.of [(701, 85)] ?_ ?_ rfl rfl;(repeat' (first |exact True.intro |refine ⟨⟨AA _, rfl⟩, ?_⟩ |refine ⟨⟨⟨_, rfl, BLe.cells (AB _)⟩, rfl⟩, ?_⟩ |refine ⟨⟨⟨_, rfl, BLe.row ?_⟩, rfl⟩, ?_⟩|fail));rw [Ac hq, List.map_append];rfl
    ·have htj : ls.take j = ls := List.take_of_length_le (by omega);rw [htj];refine Ab (Ent.freeze 701 rfl) ?_;(repeat' (first |refine qv ?_ |apply qn |apply qs |apply qr |refine qe ?_ |(refine AD rfl ?_ ?_ <;> intro _ <;> try (exfalso; omega)) |apply qx |apply qt));exact RetOk.of rfl (AA _)
theorem kEq_ok (V : Nat) (hV : V ≤ 32) (p q l : List UT) (hp : chkU V p p = true) (hq : chkU V q q = true) (h : chkU V (Bm (-1) p q) l = true) (hl : l.length ≤ 3000 ∧ ∀ u ∈ l, u.2.length = V) : PureFn Tryz.prog 108 [aK V, aP (mkP V p), aP (mkP V q)] (aL (A7 V 0 [l])) := by
 refine AC Tryz.func108 rfl Tryz.ntmps108 rfl rfl ?_;have hk := kLink_ok V 0 [l] hV (by simp) (by simpa using hl);(repeat' (first |refine qv ?_ |apply qn |apply qs |apply qr |refine qe ?_|fail));refine qc (kSub_ok V hV p q l hp hq h) ?_;refine ql eP [mkP V l] ?_;refine qc (hk) ?_;(repeat' (first |refine Fl.nil (fun _ => by kernel_rfl) ?_ |refine qe ?_ |apply qt));exact RetOk.of rfl (AA _)
end Go.Proofs.YtmmfloplhopioaaGreat
/- The reference's polynomials: Mul; its links: First, Make. -/
namespace Go.AL
def ixN (n : Nat) : List Int := (List.range n).map fun (j : Nat) => (j : Int)
theorem ixN_succ (n : Nat) : ixN (n + 1) = ixN n ++ [(n : Int)] := by unfold ixN; rw [List.range_succ, List.map_append]; rfl
theorem ixN_length (n : Nat) : (ixN n).length = n := by simp [ixN]
theorem ixN_get {n i : Nat} (h : i < n) : (ixN n)[i]? = some (i : Int) := by simp [ixN, h]
theorem mulR_snoc {p q : List UT} {i : Nat} {t : UT} (h : q[i]? = some t) : mulR p (q.take (i + 1)) = mulR p (q.take i) ++ p.map fun s => (s.1 * t.1, addE s.2 t.2) := Du _ h
theorem okT.mul {V M : Nat} {p q : List UT} (hp : okT V M p) (hq : okT V M q) (hE : ∀ s ∈ p, ∀ t ∈ q, EOk (addE s.2 t.2)) : okT V (M + M) (mulR p q) := fun u hu => by
 obtain ⟨t, ht, hu⟩ := List.mem_flatMap.1 hu;obtain ⟨s, hs, rfl⟩ := List.mem_map.1 hu;have a := hp s hs;have b := hq t ht;refine ⟨by rw [DB (by rw [a.1, b.1]), a.1], hE s hs t ht, ?_⟩;have := lenI_mul s.1 t.1;show lenI (s.1 * t.1) ≤ _;omega
def linkR (V : Nat) (kind : Int) (ls : List (List UT)) : LZ := ⟨kind, occI ls V, ls.map fun p => mkP (occI ls V).length (canU (p.map fun u => (u.1, Bv (occI ls V) u.2)))⟩
def anyP (i : Nat) (p : List UT) : Bool := p.any fun u => decide (0 < u.2.getD i 0)
theorem any_take_succ {α : Type} (f : α → Bool) {l : List α} {k : Nat} {x : α} (h : l[k]? = some x) : (l.take (k + 1)).any f = ((l.take k).any f || f x) := by
 rw [Ac h, List.any_append]; simp
theorem okT.pick {V M : Nat} {p : List UT} (h : okT V M p) (occ : List Int) : okT occ.length M (p.map fun u => (u.1, Bv occ u.2)) := fun u hu => by
 obtain ⟨v, hv, rfl⟩ := List.mem_map.1 hu;refine ⟨by simp [Bv], fun e he => ?_, (h v hv).2.2⟩;obtain ⟨x, _, rfl⟩ := List.mem_map.1 he;rw [List.getD_eq_getElem?_getD]
 cases hx : v.2[x.toNat]? with
 | none => simp
 | some y => exact (h v hv).2.1 y (List.mem_of_getElem? hx)
end Go.AL
namespace Go.Proofs.YtmmfloplhopioaaGreat
open Go.AL
theorem rMulU (V M d : Nat) (hV : V ≤ 1000) (hM : M ≤ 9000) (p q : List UT) (hp : okT V M p) (hq : okT V M q) (nz : ∀ t ∈ q, t.1 ≠ 0) (hE : ∀ s ∈ p, ∀ t ∈ q, EOk (addE s.2 t.2)) (lp : p.length ≤ 3000) (lq : q.length ≤ 3000) (hd : q.length * p.length ≤ 2 ^ d) (hd2 : 2 ^ d ≤ 100000) (hd3 : d ≤ 20) : PureFn Tryz.prog 60 [aP (mkP V p), aP (mkP V q)] (aP (mkP V (An p q))) := by
 refine AC Tryz.func60 rfl Tryz.ntmps60 rfl rfl ?_;have hso := (rSortedU V hV d (M + M) (mulR p q) (by rw [mulR_length]; omega) hd2 (by omega) (hp.mul hq hE)).1;rw [Cb (cfU_mulR p q)] at hso;have hlen : (q.map tz).length = q.length := List.length_map ..;have hlp : (p.map tz).length = p.length := List.length_map ..;refine AE ?_;(repeat' (first |apply qn |apply qr |refine qe ?_|fail));refine ⟨AE ?_⟩;(repeat' (first |refine qv ?_ |apply qn |apply qr));refine ⟨?_⟩;refine Ab (Bl 5 805 rfl rfl 3 eT 158) ?_;(repeat' (first |refine qv ?_ |apply qn |apply qs |apply qr |apply qb));refine AWP.loop (G := Nat) (fun i => i ≤ q.length) (fun i => AO [] [(2, .ptr 2 0), (3, .ptr 3 0), (4, .ptr 4 0), (5, .row 700), (6, aN i)] [(2, .cells [aN V, .sl 3 eT (p.map tz)] 105), (3, .cells [aN V, .sl 3 eT (q.map tz)] 105), (4, .cells [aN 0, .v (.slice none 0 0)] 105), (700, .row 3 eT ((mulR p (q.take i)).map tz) 158)]) (fun i => q.length - i) 0 (by omega) ?_ ?_
 ·refine Ent.of [(700, 805)] ?_ ?_ rfl rfl;(repeat' (first |exact True.intro |refine ⟨⟨AA _, rfl⟩, ?_⟩ |refine ⟨⟨⟨_, rfl, BLe.cells (AB _)⟩, rfl⟩, ?_⟩ |refine ⟨⟨⟨_, rfl, BLe.row rfl⟩, rfl⟩, ?_⟩|fail))
 ·intro i k0
  have hli : ((mulR p (q.take i)).map tz).length = i * p.length := by rw [List.length_map, mulR_length, List.length_take, Nat.min_eq_left k0]
  have hmx : i * p.length ≤ q.length * p.length := Nat.mul_le_mul_right _ k0;by_cases hi : i < q.length
  ·obtain ⟨t, ht⟩ : ∃ t, q[i]? = some t := ⟨_, List.getElem?_eq_getElem hi⟩;have htm := List.mem_of_getElem? ht
   have hqt : (q.map tz)[i]? = some (tz t) := by rw [List.getElem?_map, ht]; rfl
   have hti := rTimesU V M hV (by omega) p t lp hp (hq.sub fun u hu => by simp only [List.mem_singleton] at hu; rw [hu]; exact htm);rw [if_neg (nz t htm)] at hti;have hms := mulR_snoc (p := p) ht;obtain ⟨T, hT⟩ : ∃ T, T = p.map fun s => (s.1 * t.1, addE s.2 t.2) := ⟨_, rfl⟩
   have hTl : (T.map tz).length = p.length := by rw [hT, List.length_map, List.length_map]
   rw [← hT] at hti hms;have hm1 : (i + 1) * p.length ≤ q.length * p.length := Nat.mul_le_mul_right _ hi;rw [Nat.add_mul] at hm1;(repeat' (first |refine qv ?_ |apply qn |apply qs |apply qr |(refine AD rfl ?_ ?_ <;> intro _ <;> try (exfalso; omega)) |apply qb |apply qk |refine qK ?_|fail));refine qc (hti) ?_;(repeat' (first |refine qv ?_|fail));refine qa (hby := (by show (((mulR p (q.take i)).map tz).length + (T.map tz).length) * _ ≤ _; dsimp only; omega)) (hm := (by show ((mulR p (q.take i)).map tz).length + (T.map tz).length ≤ _; omega)) (r := ?_);(repeat' (first |refine qv ?_ |apply qn |refine Fl.nil (fun _ => by kernel_rfl) ?_ |apply qr |refine qw ?_|fail));refine LoopEnd.of (i + 1) (by omega) (by omega) ?_;refine Ent.of [(700, 23)] ?_ ?_ rfl rfl;(repeat' (first |exact True.intro |refine ⟨⟨AA _, rfl⟩, ?_⟩ |refine ⟨⟨⟨_, rfl, BLe.cells (AB _)⟩, rfl⟩, ?_⟩ |refine ⟨⟨⟨_, rfl, BLe.row ?_⟩, rfl⟩, ?_⟩|fail));rw [hms, List.map_append];rfl
  ·have hti : q.take i = q := List.take_of_length_le (by omega);rw [hti];(repeat' (first |refine qv ?_ |apply qn |apply qs |apply qr |(refine AD rfl ?_ ?_ <;> intro _ <;> try (exfalso; omega)) |apply qx));refine EP rfl 700 rfl hso rfl rfl rfl (AB _) ?_;(repeat' (first |refine Fl.nil (fun _ => by kernel_rfl) ?_ |refine qe ?_ |apply qt));exact RetOk.of rfl (AA _)
theorem rFirst_ok (n : Nat) (hn : n ≤ 1000000) : PureFn Tryz.prog 125 [aN n] (aI (ixN n)) := by
 refine AC Tryz.func125 rfl Tryz.ntmps125 rfl rfl ?_;(repeat' (first |refine qv ?_ |apply qn |apply qs |apply qr |apply qb));refine Ab (Bl 3 805 rfl rfl 1 eI 3) ?_;refine AWP.loop (G := Nat) (fun i => i ≤ n) (fun i => AO [] [(0, aN n), (3, .row 700), (4, aN i)] [(700, .row 1 eI (ixN i) 3)]) (fun i => n - i) 0 (by omega) ?_ ?_
 ·refine Ent.of [(700, 805)] ?_ ?_ rfl rfl;(repeat' (first |exact True.intro |refine ⟨⟨AA _, rfl⟩, ?_⟩ |refine ⟨⟨⟨_, rfl, BLe.row rfl⟩, rfl⟩, ?_⟩|fail))
 ·intro i k0;have hli := ixN_length i;(repeat' (first |refine qv ?_ |apply qn |apply qs |apply qr |(refine AD rfl ?_ ?_ <;> intro _ <;> try (exfalso; omega)) |apply qb |apply qk |apply qx |apply qt))
  ·refine ql eI [(i : Int)] ?_;refine qa (hby := (by dsimp only [List.length_nil, List.length_cons]; omega)) (hm := (by dsimp only [List.length_nil, List.length_cons]; omega)) (r := ?_);(repeat' (first |refine qv ?_ |apply qn |apply qr |refine qw ?_|fail));refine LoopEnd.of (i + 1) (by omega) (by omega) ?_;refine Ent.of [(700, 13)] ?_ ?_ rfl rfl;(repeat' (first |exact True.intro |refine ⟨⟨AA _, rfl⟩, ?_⟩ |refine ⟨⟨⟨_, rfl, BLe.row ?_⟩, rfl⟩, ?_⟩|fail));exact (ixN_succ i).symm
  ·rename_i hi
   have : i = n := by omega
   subst this;refine A3 (Ent.freeze 700 rfl) ?_;exact RetOk.of rfl (AA _)
end Go.Proofs.YtmmfloplhopioaaGreat
/- The reference's links: Make. -/
namespace Go.Proofs.YtmmfloplhopioaaGreat
open Go.AL
set_option maxHeartbeats 1000000 in
theorem rMakeL_ok (V M : Nat) (kind : Int) (ls : List (List UT)) (W : List Int) (hW : W = ixN V) (hV : V ≤ 1000) (hM : M ≤ 20000) (hl : ls.length ≤ 1000) (hk : ∀ p ∈ ls, p.length ≤ 3000 ∧ okT V M p) : PureFn Tryz.prog 124 [aN kind, aI W, .sl 2 eP (ls.map (mkP V))] (aL (linkR V kind ls)) := by
 refine AC Tryz.func124 rfl Tryz.ntmps124 rfl rfl ?_
 have hWl : W.length = V := by rw [hW, ixN_length]
 have hWg : ∀ i, i < V → W[i]? = some (i : Int) := fun i hi => by rw [hW]; exact ixN_get hi
 obtain ⟨L, hL⟩ : ∃ L, L = ls.map (mkP V) := ⟨_, rfl⟩
 have hLl : L.length = ls.length := by rw [hL, List.length_map]
 rw [← hL];refine AE ?_;(repeat' (first |apply qn |apply qr |refine qe ?_|fail));refine ⟨AE ?_⟩;(repeat' (first |refine qv ?_ |apply qn |apply qr |refine qe ?_|fail));refine ⟨AE ?_⟩;(repeat' (first |refine qv ?_ |apply qn |apply qr));refine ⟨?_⟩;refine Ab (Bl 8 805 rfl rfl 1 eI 3) ?_;refine Ab (BT 7 1 806 rfl rfl rfl 1 eI 3) ?_;(repeat' (first |refine qv ?_ |apply qn |apply qs |apply qr |apply qb));refine AWP.loop (G := Nat) (fun i => i ≤ V) (fun i => AO [] [(1, aI W), (2, .sl 2 eP L), (6, .ptr 6 0), (7, .ptr 7 0), (8, .row 700), (9, aN i)] [(6, .cells [aN 0, .v (.slice none 0 0), .v (.slice none 0 0)] 99), (7, .cells [aN kind, .row 701, .v (.slice none 0 0)] 99), (700, .row 1 eI (occI ls i) 3), (701, .row 1 eI (occI ls i) 3)]) (fun i => V - i) 0 (by omega) ?_ ?_
 ·refine Ent.of [(700, 805), (701, 806)] ?_ ?_ rfl rfl;(repeat' (first |exact True.intro |refine ⟨⟨AA _, rfl⟩, ?_⟩ |refine ⟨⟨⟨_, rfl, BLe.cells (AB _)⟩, rfl⟩, ?_⟩ |refine ⟨⟨⟨_, rfl, BLe.row rfl⟩, rfl⟩, ?_⟩|fail))
 ·intro i k0;have hol := occI_len ls i;have hst := occI_step ls i;by_cases hi : i < V
  ·have hWi := hWg i hi;refine AE ?_;(repeat' (first |refine qv ?_ |apply qn |apply qs |apply qr |(refine AD rfl ?_ ?_ <;> intro _ <;> try (exfalso; omega)) |apply qk));refine ⟨AWP.seq (AWP.block (AE ?_))⟩;(repeat' (first |refine qv ?_ |apply qn |apply qr));refine ⟨?_⟩;refine Cr (G := Bool) (fun b => b = occP ls i) (fun b => AO [] [(1, aI W), (2, .sl 2 eP L), (6, .ptr 6 0), (7, .ptr 7 0), (8, .row 700), (9, aN i), (10, aB b)] [(6, .cells [aN 0, .v (.slice none 0 0), .v (.slice none 0 0)] 99), (7, .cells [aN kind, .row 701, .v (.slice none 0 0)] 99), (700, .row 1 eI (occI ls i) 3), (701, .row 1 eI (occI ls i) 3)]) ?_ ?_
   ·(repeat' (first |refine qv ?_ |apply qn |apply qs |apply qr |apply qb));refine AWP.loop (G := Nat) (fun j => j ≤ ls.length) (fun j => AO [] [(1, aI W), (2, .sl 2 eP L), (6, .ptr 6 0), (7, .ptr 7 0), (8, .row 700), (9, aN i), (10, aB ((ls.take j).any (anyP i))), (11, aN j)] [(6, .cells [aN 0, .v (.slice none 0 0), .v (.slice none 0 0)] 99), (7, .cells [aN kind, .row 701, .v (.slice none 0 0)] 99), (700, .row 1 eI (occI ls i) 3), (701, .row 1 eI (occI ls i) 3)]) (fun j => ls.length - j) 0 (by omega) ?_ ?_
    ·refine Ent.of [] ?_ ?_ rfl rfl;(repeat' (first |exact True.intro |refine ⟨⟨AA _, rfl⟩, ?_⟩ |refine ⟨⟨⟨_, rfl, BLe.cells (AB _)⟩, rfl⟩, ?_⟩ |refine ⟨⟨⟨_, rfl, BLe.row rfl⟩, rfl⟩, ?_⟩|fail))
    ·intro j j0;by_cases hj : j < ls.length
     ·obtain ⟨q, hq⟩ : ∃ q, ls[j]? = some q := ⟨_, List.getElem?_eq_getElem hj⟩
      have hLq : L[j]? = some (mkP V q) := by rw [hL, List.getElem?_map, hq]; rfl
      obtain ⟨hq1, hq2⟩ := hk q (List.mem_of_getElem? hq);obtain ⟨b0, hb0⟩ : ∃ b, b = (ls.take j).any (anyP i) := ⟨_, rfl⟩
      have hTl : (mkP V q).terms.length = q.length := by simp [mkP]
      have hany := any_take_succ (anyP i) hq;rw [← hb0] at hany ⊢;refine AE ?_;(repeat' (first |refine qv ?_ |apply qn |apply qs |apply qr |(refine AD rfl ?_ ?_ <;> intro _ <;> try (exfalso; omega)) |apply qk));refine ⟨AWP.seq (AWP.block ?_)⟩;(repeat' (first |refine qv ?_ |apply qn |apply qs |apply qr |apply qb));refine AWP.loop (G := Nat) (fun k => k ≤ q.length) (fun k => AO [] [(1, aI W), (2, .sl 2 eP L), (6, .ptr 6 0), (7, .ptr 7 0), (8, .row 700), (9, aN i), (10, aB (b0 || (anyP i (q.take k)))), (11, aN j), (12, aN k)] [(6, .cells [aN 0, .v (.slice none 0 0), .v (.slice none 0 0)] 99), (7, .cells [aN kind, .row 701, .v (.slice none 0 0)] 99), (700, .row 1 eI (occI ls i) 3), (701, .row 1 eI (occI ls i) 3)]) (fun k => q.length - k) 0 (by omega) ?_ ?_
      ·refine Ent.of [] ?_ ?_ rfl rfl;(repeat' (first |exact True.intro |refine ⟨⟨AA _, rfl⟩, ?_⟩ |refine ⟨⟨⟨_, rfl, BLe.cells (AB _)⟩, rfl⟩, ?_⟩ |refine ⟨⟨⟨_, rfl, BLe.row rfl⟩, rfl⟩, ?_⟩ |refine ⟨⟨AV.Le.bool ?_, rfl⟩, ?_⟩|fail));show b0 = (b0 || false);rw [Bool.or_false]
      ·intro k e0;by_cases hkq : k < q.length
       ·obtain ⟨u, hu⟩ : ∃ u, q[k]? = some u := ⟨_, List.getElem?_eq_getElem hkq⟩
        have hTu : (mkP V q).terms[k]? = some (tz u) := by show (q.map tz)[k]? = _; rw [List.getElem?_map, hu]; rfl
        have hul := (hq2 u (List.mem_of_getElem? hu)).1;obtain ⟨x, hx⟩ : ∃ x, u.2[i]? = some x := ⟨_, List.getElem?_eq_getElem (by omega)⟩
        have hstep : anyP i (q.take (k + 1)) = (anyP i (q.take k) || decide (0 < x)) := by
         have := any_take_succ (fun u : UT => decide (0 < u.2.getD i 0)) hu;rw [List.getD_eq_getElem?_getD, hx] at this;exact this
        obtain ⟨b1, hb1⟩ : ∃ b, b = (b0 || anyP i (q.take k)) := ⟨_, rfl⟩
        have hstep2 : (b0 || anyP i (q.take (k + 1))) = (b1 || decide (0 < x)) := by rw [hstep, hb1, Bool.or_assoc]
        rw [← hb1]
        cases b1 with
        | true =>
         (repeat' (first |refine qv ?_ |apply qn |apply qs |apply qr |refine qw ?_ |refine Fl.skip rfl rfl ?_ |(refine AD rfl ?_ ?_ <;> intro _ <;> try (exfalso; omega)) |apply qb |apply qk |refine qK ?_|fail));refine LoopEnd.of (k + 1) (by omega) (by omega) ?_;refine Ent.of [] ?_ ?_ rfl rfl;(repeat' (first |exact True.intro |refine ⟨⟨AA _, rfl⟩, ?_⟩ |refine ⟨⟨⟨_, rfl, BLe.cells (AB _)⟩, rfl⟩, ?_⟩ |refine ⟨⟨⟨_, rfl, BLe.row rfl⟩, rfl⟩, ?_⟩ |refine ⟨⟨AV.Le.bool ?_, rfl⟩, ?_⟩|fail));rw [hstep2]; rfl
        | false =>
         (repeat' (first |refine qv ?_ |apply qn |apply qs |apply qr |refine qw ?_ |(refine AD rfl ?_ ?_ <;> intro _ <;> try (exfalso; omega)) |apply qb |apply qk |refine qK ?_|fail));refine LoopEnd.of (k + 1) (by omega) (by omega) ?_;refine Ent.of [] ?_ ?_ rfl rfl;(repeat' (first |exact True.intro |refine ⟨⟨AA _, rfl⟩, ?_⟩ |refine ⟨⟨⟨_, rfl, BLe.cells (AB _)⟩, rfl⟩, ?_⟩ |refine ⟨⟨⟨_, rfl, BLe.row rfl⟩, rfl⟩, ?_⟩ |refine ⟨⟨AV.Le.bool ?_, rfl⟩, ?_⟩|fail));rw [hstep2]; rfl
       ·have htk : q.take k = q := List.take_of_length_le (by omega);rw [htk, ← hany];(repeat' (first |refine qv ?_ |apply qn |apply qs |apply qr |refine qw ?_ |(refine AD rfl ?_ ?_ <;> intro _ <;> try (exfalso; omega)) |apply qx |refine qK ?_|fail));refine LoopEnd.of (j + 1) (by omega) (by omega) ?_;refine Ent.of [] ?_ ?_ rfl rfl;(repeat' (first |exact True.intro |refine ⟨⟨AA _, rfl⟩, ?_⟩ |refine ⟨⟨⟨_, rfl, BLe.cells (AB _)⟩, rfl⟩, ?_⟩ |refine ⟨⟨⟨_, rfl, BLe.row rfl⟩, rfl⟩, ?_⟩|fail))
     ·(repeat' (first |refine qv ?_ |apply qn |apply qs |apply qr |(refine AD rfl ?_ ?_ <;> intro _ <;> try (exfalso; omega)) |apply qx));refine JoinOk.of ((ls.take j).any (anyP i)) ?_ ?_
      ·rw [List.take_of_length_le (by omega)]; rfl
      ·refine Ent.of [] ?_ ?_ rfl rfl;(repeat' (first |exact True.intro |refine ⟨⟨AA _, rfl⟩, ?_⟩ |refine ⟨⟨⟨_, rfl, BLe.cells (AB _)⟩, rfl⟩, ?_⟩ |refine ⟨⟨⟨_, rfl, BLe.row rfl⟩, rfl⟩, ?_⟩|fail))
   ·intro b hb;subst hb;(repeat' (first |refine qv ?_ |apply qn |apply qs |apply qr |refine qw ?_ |apply qk |(refine BF rfl ?_ ?_ <;> intro _)))
    ·rename_i hb;rw [if_pos hb] at hst;refine ql eI [(i : Int)] ?_;refine qa (hby := (by dsimp only [List.length_nil, List.length_cons]; omega)) (hm := (by dsimp only [List.length_nil, List.length_cons]; omega)) (r := ?_);(repeat' (first |refine qv ?_ |refine qK ?_|fail));refine ql eI [(i : Int)] ?_;refine qa (hby := (by dsimp only [List.length_nil, List.length_cons]; omega)) (hm := (by dsimp only [List.length_nil, List.length_cons]; omega)) (r := ?_);(repeat' (first |refine qv ?_ |apply qn |refine Fl.nil (fun _ => by kernel_rfl) ?_ |apply qr |refine qw ?_ |refine qe ?_|fail));refine LoopEnd.of (i + 1) (by omega) (by omega) ?_;refine Ent.of [(700, 62), (701, 70)] ?_ ?_ rfl rfl;(repeat' (first |exact True.intro |refine ⟨⟨AA _, rfl⟩, ?_⟩ |refine ⟨⟨⟨_, rfl, BLe.cells (AB _)⟩, rfl⟩, ?_⟩ |refine ⟨⟨⟨_, rfl, BLe.row ?_⟩, rfl⟩, ?_⟩|fail))
     ·exact hst.symm
     ·exact hst.symm
    ·rename_i hb;rw [if_neg (by rw [hb]; simp)] at hst;refine LoopEnd.of (i + 1) (by omega) (by omega) ?_;refine Ent.of [] ?_ ?_ rfl rfl;(repeat' (first |exact True.intro |refine ⟨⟨AA _, rfl⟩, ?_⟩ |refine ⟨⟨⟨_, rfl, BLe.cells (AB _)⟩, rfl⟩, ?_⟩ |refine ⟨⟨⟨_, rfl, BLe.row ?_⟩, rfl⟩, ?_⟩|fail))
     ·exact hst.symm
     ·exact hst.symm
  ·have hiV : i = V := by omega
   subst hiV;have hom : ∀ (m : Nat) (x : Int), (occI ls i)[m]? = some x → 0 ≤ x ∧ x < i := fun m x hx => occI_mem (List.mem_of_getElem? hx);have hres : linkR i kind ls = ⟨kind, occI ls i, ls.map fun p => mkP (occI ls i).length (canU (p.map fun u => (u.1, Bv (occI ls i) u.2)))⟩ := rfl;rw [hres]
   generalize occI ls i = occ at *
   refine Ab (Ent.freeze 700 rfl) ?_;refine Ab (Ent.freeze 701 rfl) ?_;refine Ab (BT 7 2 806 rfl rfl rfl 2 eP 105) ?_;(repeat' (first |refine qv ?_ |apply qn |apply qs |apply qr |(refine AD rfl ?_ ?_ <;> intro _ <;> try (exfalso; omega)) |apply qb |apply qx));refine AWP.loop (G := Nat) (fun j => j ≤ ls.length) (fun j => AO [] [(2, .sl 2 eP L), (6, .ptr 6 0), (7, .ptr 7 0), (8, aI occ), (13, aN j)] [(6, .cells [aN 0, .v (.slice none 0 0), .v (.slice none 0 0)] 99), (7, .cells [aN kind, aI occ, .row 701] 99), (701, .row 2 eP ((ls.take j).map fun p => mkP occ.length (canU (p.map fun u => (u.1, Bv occ u.2)))) 105)]) (fun j => ls.length - j) 0 (by omega) ?_ ?_
   ·refine Ent.of [(701, 806)] ?_ ?_ rfl rfl;(repeat' (first |exact True.intro |refine ⟨⟨AA _, rfl⟩, ?_⟩ |refine ⟨⟨⟨_, rfl, BLe.cells (AB _)⟩, rfl⟩, ?_⟩ |refine ⟨⟨⟨_, rfl, BLe.row rfl⟩, rfl⟩, ?_⟩|fail))
   ·intro j g0
    have hlj : ((ls.take j).map fun p => mkP occ.length (canU (p.map fun u => (u.1, Bv occ u.2)))).length = j := by rw [List.length_map, List.length_take]; omega
    by_cases hj : j < ls.length
    ·obtain ⟨q, hq⟩ : ∃ q, ls[j]? = some q := ⟨_, List.getElem?_eq_getElem hj⟩
     have hLq : L[j]? = some (mkP i q) := by rw [hL, List.getElem?_map, hq]; rfl
     obtain ⟨hq1, hq2⟩ := hk q (List.mem_of_getElem? hq)
     have hTl : (mkP i q).terms.length = q.length := by simp [mkP]
     refine AE ?_;(repeat' (first |refine qv ?_ |apply qn |apply qs |apply qr |(refine AD rfl ?_ ?_ <;> intro _ <;> try (exfalso; omega)) |apply qk));refine ⟨AWP.seq (AWP.block (AE ?_))⟩;(repeat' (first |refine qv ?_ |apply qn |apply qr |refine qe ?_|fail));refine ⟨?_⟩;refine Ab (BT 14 1 807 rfl rfl rfl 3 eT 158) ?_;(repeat' (first |refine qv ?_ |apply qn |apply qs |apply qr |apply qb));refine AWP.loop (G := Nat) (fun k => k ≤ q.length) (fun k => AO [] [(2, .sl 2 eP L), (6, .ptr 6 0), (7, .ptr 7 0), (8, aI occ), (13, aN j), (14, .ptr 14 0), (15, aN k)] [(6, .cells [aN 0, .v (.slice none 0 0), .v (.slice none 0 0)] 99), (7, .cells [aN kind, aI occ, .row 701] 99), (701, .row 2 eP ((ls.take j).map fun p => mkP occ.length (canU (p.map fun u => (u.1, Bv occ u.2)))) 105), (14, .cells [aN occ.length, .row 702] 105), (702, .row 3 eT (((q.take k).map fun u => (u.1, Bv occ u.2)).map tz) 158)]) (fun k => q.length - k) 0 (by omega) ?_ ?_
     ·refine Ent.of [(702, 807)] ?_ ?_ rfl rfl;(repeat' (first |exact True.intro |refine ⟨⟨AA _, rfl⟩, ?_⟩ |refine ⟨⟨⟨_, rfl, BLe.cells (AB _)⟩, rfl⟩, ?_⟩ |refine ⟨⟨⟨_, rfl, BLe.row rfl⟩, rfl⟩, ?_⟩|fail))
     ·intro k e0
      have hlk : (((q.take k).map fun u => (u.1, Bv occ u.2)).map tz).length = k := by rw [List.length_map, List.length_map, List.length_take]; omega
      by_cases hkq : k < q.length
      ·obtain ⟨u, hu⟩ : ∃ u, q[k]? = some u := ⟨_, List.getElem?_eq_getElem hkq⟩
       have hTu : (mkP i q).terms[k]? = some (tz u) := by show (q.map tz)[k]? = _; rw [List.getElem?_map, hu]; rfl
       have hul := (hq2 u (List.mem_of_getElem? hu)).1;refine AE ?_;(repeat' (first |refine qv ?_ |apply qn |apply qs |apply qr |(refine AD rfl ?_ ?_ <;> intro _ <;> try (exfalso; omega)) |apply qk |refine qK ?_|fail));refine ⟨AWP.seq (AWP.block (AE ?_))⟩;(repeat' (first |refine qv ?_ |apply qn |apply qr));refine ⟨?_⟩;refine Ab (Bl 16 808 rfl rfl 1 eI 3) ?_;(repeat' (first |refine qv ?_ |apply qn |apply qs |apply qr |apply qb));refine AWP.loop (G := Nat) (fun m => m ≤ occ.length) (fun m => AO [] [(2, .sl 2 eP L), (6, .ptr 6 0), (7, .ptr 7 0), (8, aI occ), (13, aN j), (14, .ptr 14 0), (15, aN k), (16, .row 703), (17, aN m)] [(6, .cells [aN 0, .v (.slice none 0 0), .v (.slice none 0 0)] 99), (7, .cells [aN kind, aI occ, .row 701] 99), (701, .row 2 eP ((ls.take j).map fun p => mkP occ.length (canU (p.map fun u => (u.1, Bv occ u.2)))) 105), (14, .cells [aN occ.length, .row 702] 105), (702, .row 3 eT (((q.take k).map fun u => (u.1, Bv occ u.2)).map tz) 158), (703, .row 1 eI ((occ.take m).map fun x => u.2.getD x.toNat 0) 3)]) (fun m => occ.length - m) 0 (by omega) ?_ ?_
       ·refine Ent.of [(703, 808)] ?_ ?_ rfl rfl;(repeat' (first |exact True.intro |refine ⟨⟨AA _, rfl⟩, ?_⟩ |refine ⟨⟨⟨_, rfl, BLe.cells (AB _)⟩, rfl⟩, ?_⟩ |refine ⟨⟨⟨_, rfl, BLe.row rfl⟩, rfl⟩, ?_⟩|fail))
       ·intro m m0
        have hlm : ((occ.take m).map fun x => u.2.getD x.toNat 0).length = m := by rw [List.length_map, List.length_take]; omega
        by_cases hm : m < occ.length
        ·obtain ⟨x, hx⟩ : ∃ x, occ[m]? = some x := ⟨_, List.getElem?_eq_getElem hm⟩;have hxb := hom m x hx;obtain ⟨y, hy⟩ : ∃ y, u.2[x.toNat]? = some y := ⟨_, List.getElem?_eq_getElem (by omega)⟩;(repeat' (first |refine qv ?_ |apply qn |apply qs |apply qr |(refine AD rfl ?_ ?_ <;> intro _ <;> try (exfalso; omega)) |apply qb |apply qk |refine qK ?_|fail));refine ql eI [y] ?_;refine qa (hby := (by dsimp only [List.length_nil, List.length_cons]; omega)) (hm := (by dsimp only [List.length_nil, List.length_cons]; omega)) (r := ?_);(repeat' (first |refine qv ?_ |apply qn |refine Fl.nil (fun _ => by kernel_rfl) ?_ |apply qr |refine qw ?_|fail));refine LoopEnd.of (m + 1) (by omega) (by omega) ?_;refine Ent.of [(703, 114)] ?_ ?_ rfl rfl;(repeat' (first |exact True.intro |refine ⟨⟨AA _, rfl⟩, ?_⟩ |refine ⟨⟨⟨_, rfl, BLe.cells (AB _)⟩, rfl⟩, ?_⟩ |refine ⟨⟨⟨_, rfl, BLe.row rfl⟩, rfl⟩, ?_⟩ |refine ⟨⟨⟨_, rfl, BLe.row ?_⟩, rfl⟩, ?_⟩|fail));rw [Ac hx, List.map_append];congr 1;show [y] = [u.2.getD x.toNat 0];rw [List.getD_eq_getElem?_getD, hy];rfl
        ·have htm : occ.take m = occ := List.take_of_length_le (by omega);rw [htm];refine Ab (Ent.freeze 703 rfl) ?_;(repeat' (first |refine qv ?_ |apply qn |apply qs |apply qr |refine qe ?_ |(refine AD rfl ?_ ?_ <;> intro _ <;> try (exfalso; omega)) |apply qx |refine qK ?_|fail));refine ql eT [tz (u.1, Bv occ u.2)] ?_;refine qa (hby := (by dsimp only [List.length_nil, List.length_cons]; omega)) (hm := (by dsimp only [List.length_nil, List.length_cons]; omega)) (r := ?_);(repeat' (first |refine qv ?_ |apply qn |refine Fl.nil (fun _ => by kernel_rfl) ?_ |apply qr |refine qw ?_ |refine qe ?_|fail));refine LoopEnd.of (k + 1) (by omega) (by omega) ?_;refine Ent.of [(702, 129)] ?_ ?_ rfl rfl;(repeat' (first |exact True.intro |refine ⟨⟨AA _, rfl⟩, ?_⟩ |refine ⟨⟨⟨_, rfl, BLe.cells (AB _)⟩, rfl⟩, ?_⟩ |refine ⟨⟨⟨_, rfl, BLe.row rfl⟩, rfl⟩, ?_⟩ |refine ⟨⟨⟨_, rfl, BLe.row ?_⟩, rfl⟩, ?_⟩|fail));rw [Ac hu, List.map_append, List.map_append];rfl
      ·have htk : q.take k = q := List.take_of_length_le (by omega);have hso := (rSortedU occ.length (by have := occI_len ls i; omega) 12 M (q.map fun u => (u.1, Bv occ u.2)) (by rw [List.length_map]; omega) (by omega) (by omega) (hq2.pick occ)).1;rw [htk];(repeat' (first |refine qv ?_ |apply qn |apply qs |apply qr |(refine AD rfl ?_ ?_ <;> intro _ <;> try (exfalso; omega)) |apply qx |refine qK ?_|fail));refine EP rfl 702 rfl hso rfl rfl rfl (AB _) ?_;(repeat' (first |refine qv ?_ |apply qn |apply qr |refine qe ?_|fail));refine ql eP [mkP occ.length (canU (q.map fun u => (u.1, Bv occ u.2)))] ?_;refine qa (hby := (by dsimp only [List.length_nil, List.length_cons]; omega)) (hm := (by dsimp only [List.length_nil, List.length_cons]; omega)) (r := ?_);(repeat' (first |refine qv ?_ |apply qn |apply qr |refine qw ?_ |refine qe ?_|fail));refine LoopEnd.of (j + 1) (by omega) (by omega) ?_;refine Ent.of [(701, 139)] ?_ ?_ rfl rfl;(repeat' (first |exact True.intro |refine ⟨⟨AA _, rfl⟩, ?_⟩ |refine ⟨⟨⟨_, rfl, BLe.cells (AB _)⟩, rfl⟩, ?_⟩ |refine ⟨⟨⟨_, rfl, BLe.row ?_⟩, rfl⟩, ?_⟩|fail));rw [Ac hq, List.map_append];rfl
    ·have htj : ls.take j = ls := List.take_of_length_le (by omega);rw [htj];refine Ab (Ent.freeze 701 rfl) ?_;(repeat' (first |refine qv ?_ |apply qn |apply qs |apply qr |refine qe ?_ |(refine AD rfl ?_ ?_ <;> intro _ <;> try (exfalso; omega)) |apply qx |apply qt));exact RetOk.of rfl (AA _)
end Go.Proofs.YtmmfloplhopioaaGreat
/- The reference's polynomials with few small numbers, by inspection. -/
namespace Go.AL
theorem addUs_one (a b : List UT) : canU (a ++ b) = addL a b := Cb fun e => by
 unfold Bm;rw [BZ, BZ, cfU_map];congr 1
 have : ∀ l : List UT, cfU l e = sumL (l.map fun u => if (u.1 * 1, u.2).2 = e then (u.1 * 1, u.2).1 else 0) := by
  intro l
  induction l with
  | nil => rfl
  | cons u l ih => rw [cfU, ih]; simp only [List.map_cons, sumL, Int.mul_one]
 exact this b
end Go.AL
namespace Go.Proofs.YtmmfloplhopioaaGreat
open Go.AL
end Go.Proofs.YtmmfloplhopioaaGreat
/- Method values of plain receivers: made, called. -/
namespace Go.AL
section
variable {P : Program} {tab : Tab} {n : Nat} {s : St}
variable {ops : Array Oper} {draw : Dr} {o : Oper} {l : List Oper} {acc : List Eff} {K : Exit → St → Prop}
abbrev bfn (f : FuncId) (us : List Value) : AV := .v (.func (.func f) #[.agg us.toArray] #[])
theorem Runs.bound {f : FuncId} {x : Operand} {args : List Operand} {ts : Array TypeId} {us : List Value} (hop : o.op = .call { callee := .value x, args := ⟨args⟩, argTypes := ts }) (hx : opd s x = bfn f us) : Runs P n o s f (.v (.agg us.toArray) :: opds s args) := by
 refine ⟨fun s' C a w h β hs k => ?_⟩
 have hxs : opd s' x = opd s x := by
  cases x with
  | tmp t => exact hs t (by rw [hop]; simp [Op.operands, Call.operands])
  | _ => rfl
 have hxr := AH k x;rw [hxs, hx] at hxr;simp only [Rep] at hxr
 have hps : opds s' args = opds s args := Cw args fun x hx => by
  cases x with
  | tmp t => exact hs t (by rw [hop]; simp [Op.operands, Call.operands, hx])
  | _ => rfl
 have hr := CJ k args;rw [hps] at hr;refine ⟨#[.agg us.toArray] ++ (args.map a.eval).toArray, fun hfn => ?_, ?_⟩
 ·simp only [execOp, hop, resolve, hxr, Deferred.ofValue, Sem.run_bind, Sem.run_pure, Result.andThen, invoke, List.map_toArray];have := B7 hfn (#[.agg us.toArray] ++ (args.map a.eval).toArray) w;simpa using this
 ·simp only [RepL];exact ⟨.agg us.toArray, args.map a.eval, by simp, by simp only [Rep], hr⟩
end
end Go.AL
/- arithmancy/mask.Links: the system. Written by links.py. -/
namespace Go.AL
end Go.AL
namespace Go.Proofs.YtmmfloplhopioaaGreat
open Go.AL
end Go.Proofs.YtmmfloplhopioaaGreat
/- The values of built links. -/
namespace Go.AL
theorem pick_prod (P : Nat → Bool) (Y E : List Int) : ∀ (n k : Nat), (∀ i, k ≤ i → i < k + n → P i = false → E.getD i 0 = 0) →
  AX (((List.range' k n).filter P).map fun i => Y.getD i 0) (((List.range' k n).filter P).map fun i => E.getD i 0) = AX ((List.range' k n).map fun i => Y.getD i 0) ((List.range' k n).map fun i => E.getD i 0)
 | 0, k, _ => rfl
 | n + 1, k, h => by
  have ih := pick_prod P Y E n (k + 1) fun i h1 h2 h3 => h i (by omega) (by omega) h3;rw [List.range'_succ, List.filter_cons];by_cases hp : P k = true
  ·rw [if_pos hp];simp only [List.map_cons, AX, ih]
  ·rw [if_neg hp, ih];have h0 := h k (Nat.le_refl _) (by omega) (by simpa using hp);simp only [List.map_cons, AX, h0];simp
theorem map_range_getD {V : Nat} {X : List Int} (h : X.length = V) : ((List.range V).map fun i => X.getD i 0) = X := by
 subst h;refine List.ext_getElem (by simp) fun i h1 h2 => ?_;simp [List.getD_eq_getElem?_getD, List.getElem?_eq_getElem h2]
def auv (X : List Int) (p : List UT) : Int := sumL (p.map fun u => ((u.1 * AX X u.2).natAbs : Int))
theorem pick_term {V : Nat} {X : List Int} (hX : X.length = V) {ls : List (List UT)} {p : List UT} (hp : p ∈ ls) {u : UT} (hu : u ∈ p) (hl : u.2.length = V) (he : EOk u.2) :
  AX (atOf X ((occL V ls).map fun (i : Nat) => (i : Int))) (Ck (occL V ls) u.2) = AX X u.2 := by
 have e1 : atOf X ((occL V ls).map fun (i : Nat) => (i : Int)) = (occL V ls).map fun i => X.getD i 0 := by
  unfold atOf;rw [List.map_map];rfl
 have h := pick_prod (occP ls) X u.2 V 0 fun i _ h2 h3 => by
  have hb : i < u.2.length := by omega
  have hn : ¬ 0 < u.2.getD i 0 := fun hc => by
   have : occP ls i = true := List.any_eq_true.2 ⟨p, hp, List.any_eq_true.2 ⟨u, hu, by simpa using hc⟩⟩;rw [this] at h3; cases h3
  have hge : 0 ≤ u.2.getD i 0 := by
   rw [List.getD_eq_getElem?_getD, List.getElem?_eq_getElem hb];exact (he _ (List.getElem_mem hb)).1
  omega
 rw [← List.range_eq_range'] at h;rw [e1];unfold Ck occL;rw [show (List.filter (fun i => ls.any fun p => p.any fun u => decide (0 < u.2.getD i 0)) (List.range V)) = (List.range V).filter (occP ls) from rfl, h, map_range_getD hX, map_range_getD hl]
theorem tv_tz (X : List Int) (u : UT) : tv X (tz u) = u.1 * AX X u.2 := by
 show zval (zOf u.1) * AX X u.2 = _;rw [A0]
def nnU (V : Nat) (p : List UT) : Prop := ∀ u ∈ p, u.2.length = V ∧ EOk u.2
theorem pick_val {V n : Nat} {X : List Int} (hX : X.length = V) {ls : List (List UT)} {p : List UT} (hp : p ∈ ls) (hl : nnU V p) :
  pv (atOf X ((occL V ls).map fun (i : Nat) => (i : Int))) (mkP n (Dc (occL V ls) p)) = uv X p := by
 rw [pv_sum];unfold mkP Dc uv;simp only [List.map_map];congr 1;refine List.map_congr_left fun u hu => ?_;show tv _ (tz (u.1, Ck (occL V ls) u.2)) = _;rw [tv_tz, pick_term hX hp hu (hl u hu).1 (hl u hu).2]
theorem pick_abs {V n : Nat} {X : List Int} (hX : X.length = V) {ls : List (List UT)} {p : List UT} (hp : p ∈ ls) (hl : nnU V p) :
  AS (atOf X ((occL V ls).map fun (i : Nat) => (i : Int))) (mkP n (Dc (occL V ls) p)).terms = auv X p := by
 unfold mkP Dc AS auv;simp only [List.map_map];congr 1;refine List.map_congr_left fun u hu => ?_;show ((tv _ (tz (u.1, Ck (occL V ls) u.2))).natAbs : Int) = _;rw [tv_tz, pick_term hX hp hu (hl u hu).1 (hl u hu).2]
theorem lvals_linkU {V : Nat} {X : List Int} (hX : X.length = V) {kind : Int} {ls : List (List UT)} (h : ∀ p ∈ ls, nnU V p) : lvals X (A7 V kind ls) = ls.map (uv X) := by
 unfold lvals A7;simp only [List.map_map];exact List.map_congr_left fun p hp => pick_val hX hp (h p hp)
theorem plop_abs (v : Int) : 0 ≤ plI v ∧ plI v ≤ v.natAbs ∧ opI v ≤ 0 ∧ -(v.natAbs : Int) ≤ opI v := by
 unfold plI opI;split <;> omega
theorem PS_ASm (X : List Int) : ∀ l : List TZ, 0 ≤ PS X l ∧ PS X l ≤ AS X l ∧ OS X l ≤ 0 ∧ -AS X l ≤ OS X l
 | [] => by simp [PS, OS, AS, sumL]
 | t :: l => by
  have h1 := PS_ASm X l;have h2 := plop_abs (tv X t);simp only [PS, AS, OS, List.map_cons, sumL] at h1 ⊢;omega
theorem EvOk.ofA {X : List Int} {p : PZ} (h : Fit (AS X p.terms)) : EvOk X p := by
 have h1 := PS_ASm X p.terms;exact ⟨h.le (by omega), h.le (by omega)⟩
theorem evL_linkU {V : Nat} {X : List Int} (hX : X.length = V) {kind : Int} {ls : List (List UT)} (h : ∀ p ∈ ls, nnU V p) (hf : ∀ p ∈ ls, Fit (auv X p)) : EvL X (A7 V kind ls) := by
 intro q hq;obtain ⟨p, hp, rfl⟩ := List.mem_map.1 hq;refine EvOk.ofA ?_;show Fit (AS (atOf X ((occL V ls).map fun (i : Nat) => (i : Int))) (mkP (occL V ls).length (Dc (occL V ls) p)).terms);rw [pick_abs hX hp (h p hp)];exact hf p hp
def okLU (V : Nat) (kind : Int) (ls : List (List UT)) : Bool :=
  decide (BQ kind ≠ 0) && decide ((ls.length : Int) = BQ kind) && ls.all (fun p => chkU (occL V ls).length (Dc (occL V ls) p) (Dc (occL V ls) p) && p.all (okU V))
theorem Ed (P : Nat → Bool) : ∀ (n k : Nat) (last top : Int), last < k → ((k + n : Nat) : Int) ≤ top → incB last top (((List.range' k n).filter P).map fun (i : Nat) => (i : Int))
 | 0, _, _, _, _, _ => by simp [incB]
 | n + 1, k, last, top, h1, h2 => by
  rw [List.range'_succ, List.filter_cons];by_cases hp : P k = true
  ·rw [if_pos hp];simp only [List.map_cons, incB];exact ⟨h1, by omega, Ed P n (k + 1) k top (by omega) (by omega)⟩
  ·rw [if_neg hp];exact Ed P n (k + 1) last top (by omega) (by omega)
theorem okLU_ok {V : Nat} (hV : V ≤ 32) {kind : Int} {ls : List (List UT)} (h : okLU V kind ls = true) : OkL V (A7 V kind ls) ∧ WL (A7 V kind ls) ∧ ∀ p ∈ ls, nnU V p := by
 simp only [okLU, Bool.and_eq_true, decide_eq_true_eq, List.all_eq_true] at h;obtain ⟨⟨h1, h2⟩, h3⟩ := h
 have hn : (occL V ls).length ≤ V := by
  unfold occL;exact Nat.le_trans (List.length_filter_le _ _) (by simp)
 refine ⟨⟨h1, by simp only [A7, List.length_map]; exact h2, by simp only [A7, List.length_map]; omega, ?_, fun q hq => ?_⟩, fun q hq => ?_, fun p hp u hu => okU_ok ((h3 p hp).2 u hu)⟩
 ·have := Ed (occP ls) V 0 (-1) V (by omega) (by omega);rw [← List.range_eq_range'] at this;exact this
 ·obtain ⟨p, hp, rfl⟩ := List.mem_map.1 hq;obtain ⟨a, b, c⟩ := mk_ok (V := (occL V ls).length) (by omega) (h3 p hp).1;exact ⟨by simp [A7, mkP], a⟩
 ·obtain ⟨p, hp, rfl⟩ := List.mem_map.1 hq;exact (mk_ok (V := (occL V ls).length) (by omega) (h3 p hp).1).2.2
end Go.AL
/- The values of built polynomials; bounds. -/
namespace Go.AL
theorem Dp : ∀ (X : List Int) (n : Nat), AX X (List.replicate n 0) = 1
 | [], 0 => rfl
 | [], _ + 1 => rfl
 | _ :: _, 0 => rfl
 | x :: X, n + 1 => by rw [List.replicate_succ, AX, Dp X n]; simp
theorem prodE_unit : ∀ (X : List Int) (i : Nat), i < X.length → AX X (unU X.length i) = X.getD i 0
 | [], i, h => by simp at h
 | x :: X, 0, _ => by
  unfold unU;rw [List.length_cons, List.replicate_succ, List.set_cons_zero, AX, Dp];simp [Int.pow_succ]
 | x :: X, i + 1, h => by
  have ih := prodE_unit X i (by simpa using h);unfold unU at ih ⊢;rw [List.length_cons, List.replicate_succ, List.set_cons_succ, AX, ih];simp
theorem DD (X : List Int) (V : Nat) (c : Int) : uv X (conU V c) = c := by
 unfold conU uv;split
 ·rename_i h; rw [h]; rfl
 ·simp [sumL, Dp]
theorem DC {X : List Int} {V i : Nat} (hX : X.length = V) (hi : i < V) : uv X (varU V i) = X.getD i 0 := by
 subst hX;unfold varU uv;simp only [List.map_cons, List.map_nil, sumL, prodE_unit X i hi];omega
theorem pv_mkP (X : List Int) (V : Nat) (p : List UT) : pv X (mkP V p) = uv X p := by
 rw [pv_sum];unfold mkP uv;simp only [List.map_map];congr 1;exact List.map_congr_left fun u _ => tv_tz X u
theorem chkU_UOk {V : Nat} {us l : List UT} (h : chkU V us l = true) : UOk V us := by
 simp only [chkU, Bool.and_eq_true, List.all_eq_true] at h;exact fun u hu => okU_ok (h.1.1.1.1.1.1.1 u hu)
theorem uv_chk {V : Nat} (hV : V ≤ 32) {us l : List UT} (h : chkU V us l = true) (X : List Int) : uv X l = uv X us := by
 have := (chkU_ok hV h).val hV (chkU_UOk h) X;rwa [pv_mkP] at this
theorem uv_scale (X : List Int) (b : Int) (q : List UT) : uv X (q.map fun u => (u.1 * b, u.2)) = uv X q * b := by
 unfold uv
 induction q with
 | nil => simp [sumL]
 | cons u q ih =>
  simp only [List.map_cons, sumL] at ih ⊢;rw [ih]; grind
theorem uv_addUs (X : List Int) (b : Int) (p q : List UT) : uv X (Bm b p q) = uv X p + uv X q * b := by
 unfold Bm;rw [uv_append, uv_scale]
theorem uv_mulUs {V : Nat} (X : List Int) {p q : List UT} (hp : nnU V p) (hq : nnU V q) : uv X (Bh p q) = uv X p * uv X q := by
 unfold Bh
 induction p with
 | nil => simp [uv, sumL]
 | cons t p ih =>
  rw [List.flatMap_cons, uv_append, ih fun u hu => hp u (by simp [hu])];have ht := hp t (by simp)
  have h1 : uv X (q.map fun u => (t.1 * u.1, addE t.2 u.2)) = t.1 * AX X t.2 * uv X q := by
   clear ih;unfold uv
   induction q with
   | nil => simp [sumL]
   | cons u q ih2 =>
    have hu := hq u (by simp);simp only [List.map_cons, sumL];rw [ih2 fun v hv => hq v (by simp [hv]), prodE_add ht.2 hu.2 (by rw [ht.1, hu.1])];grind
  rw [h1];show _ = (t.1 * AX X t.2 + uv X p) * uv X q;grind
theorem chk_nn {V : Nat} {p : List UT} (h : chkU V p p = true) : nnU V p := chkU_UOk h
theorem uv_sums {V : Nat} (hV : V ≤ 32) (X : List Int) : ∀ (ls : List (List UT)) (acc : List UT), CQ V acc ls = true → uv X (Al acc ls) = uv X acc + sumL (ls.map (uv X))
 | [], acc, _ => by simp [Al, sumL]
 | p :: ls, acc, h => by
  obtain ⟨c1, c2, c3, c4⟩ := okSums_cons h;show uv X (Al (addL acc p) ls) = _;rw [uv_sums hV X ls _ c4, uv_chk hV c3, uv_addUs];simp only [List.map_cons, sumL];omega
def prodL : List Int → Int
  | [] => 1
  | x :: l => x * prodL l
theorem uv_muls {V : Nat} (hV : V ≤ 32) (X : List Int) : ∀ (ls : List (List UT)) (acc : List UT), Cy V acc ls = true → uv X (Av acc ls) = uv X acc * prodL (ls.map (uv X))
 | [], acc, _ => by simp [Av, prodL]
 | p :: ls, acc, h => by
  obtain ⟨c1, c2, c3, c4, c5⟩ := okMuls_cons h;show uv X (Av (An acc p) ls) = _;rw [uv_muls hV X ls _ c5, uv_chk hV c4, uv_mulUs X (chk_nn c1) (chk_nn c2)];simp only [List.map_cons, prodL];rw [Int.mul_assoc]
theorem uv_sub {V : Nat} (hV : V ≤ 32) (X : List Int) {p q : List UT} (h : chkU V (Bm (-1) p q) (subL p q) = true) : uv X (subL p q) = uv X p - uv X q := by
 rw [uv_chk hV h, uv_addUs]; omega
end Go.AL
/- Polynomials by sizes: what the Kit needs, for any variables and numbers. Plain. -/
namespace Go.AL
structure SzU (V d c n : Nat) (p : List UT) : Prop where
  can : CanU p
  ex : ∀ u ∈ p, u.2.length = V ∧ (∀ e ∈ u.2, 0 ≤ e) ∧ sumL u.2 ≤ d
  ab : absU p ≤ c
  ln : p.length ≤ n
theorem SzU.mono {V d c n d' c' n' : Nat} {p : List UT} (h : SzU V d c n p) (h1 : d ≤ d') (h2 : c ≤ c') (h3 : n ≤ n') : SzU V d' c' n' p :=
 ⟨h.can, fun u hu => ⟨(h.ex u hu).1, (h.ex u hu).2.1, by have := (h.ex u hu).2.2; omega⟩, Nat.le_trans h.ab h2, Nat.le_trans h.ln h3⟩
theorem sumL_ge : ∀ {l : List Int}, (∀ e ∈ l, 0 ≤ e) → 0 ≤ sumL l ∧ ∀ e ∈ l, e ≤ sumL l
 | [], _ => by simp [sumL]
 | x :: l, h => by
  obtain ⟨h1, h2⟩ := sumL_ge (l := l) fun e he => h e (by simp [he]);have hx := h x (by simp);refine ⟨by simp only [sumL]; omega, fun e he => ?_⟩;simp only [sumL];rcases List.mem_cons.1 he with rfl | he
  ·omega
  ·have := h2 e he; omega
theorem ex_ok {V d : Nat} (hd : d ≤ 120) {u : UT} (h : u.2.length = V ∧ (∀ e ∈ u.2, 0 ≤ e) ∧ sumL u.2 ≤ d) : okU V u = true ∧ sumL u.2 ≤ 120 ∧ EOk u.2 := by
 obtain ⟨h1, h2, h3⟩ := h;have hE : EOk u.2 := fun e he => ⟨h2 e he, by have := (sumL_ge h2).2 e he; omega⟩;refine ⟨?_, by omega, hE⟩;simp only [okU, Bool.and_eq_true, List.all_eq_true, decide_eq_true_eq];exact ⟨by rw [Nat.beq_eq]; exact h1, fun e he => hE e he⟩
theorem sortedU_of : ∀ {l : List UT}, (l.Pairwise fun u v => ordI u.2 v.2 < 0) → sortedU l = true
 | [], _ => rfl
 | u :: l, h => by
  rw [List.pairwise_cons] at h;simp only [sortedU, Bool.and_eq_true, List.all_eq_true, decide_eq_true_eq];exact ⟨h.1, sortedU_of h.2⟩
theorem absU_insU (u : UT) : ∀ l : List UT, absU (insU u l) ≤ u.1.natAbs + absU l
 | [] => by unfold insU; split <;> simp [absU]
 | v :: l => by
  have ih := absU_insU u l;unfold insU;split
  ·split
   ·simp only [absU]; omega
   ·simp only [absU]; omega
  ·split
   ·split
    ·simp only [absU]; omega
    ·simp only [absU]; omega
   ·simp only [absU]; omega
theorem absU_canU : ∀ l : List UT, absU (canU l) ≤ absU l
 | [] => Nat.le_refl _
 | u :: l => by
  have := absU_canU l;have := absU_insU u (canU l);show absU (insU u (canU l)) ≤ _;simp only [absU]; omega
theorem absU_append : ∀ a b : List UT, absU (a ++ b) = absU a + absU b
 | [], b => by simp [absU]
 | u :: a, b => by simp only [List.cons_append, absU, absU_append a b]; omega
theorem absU_scale (k : Int) : ∀ l : List UT, absU (l.map fun u => (u.1 * k, u.2)) = absU l * k.natAbs
 | [] => by simp [absU]
 | u :: l => by simp only [List.map_cons, absU, absU_scale k l, Int.natAbs_mul, Nat.add_mul]
theorem absU_times (t : UT) : ∀ l : List UT, absU (l.map fun u => (t.1 * u.1, addE t.2 u.2)) = t.1.natAbs * absU l
 | [] => by simp [absU]
 | u :: l => by simp only [List.map_cons, absU, absU_times t l, Int.natAbs_mul, Nat.mul_add]
theorem absU_mulUs (q : List UT) : ∀ p : List UT, absU (Bh p q) = absU p * absU q
 | [] => by simp [Bh, absU]
 | t :: p => by
  have ih := absU_mulUs q p;unfold Bh at ih ⊢;rw [List.flatMap_cons, absU_append, absU_times, ih];simp only [absU, Nat.add_mul]
theorem len_mulUs (q : List UT) : ∀ p : List UT, (Bh p q).length = p.length * q.length
 | [] => by simp [Bh]
 | t :: p => by
  have ih := len_mulUs q p;unfold Bh at ih ⊢;rw [List.flatMap_cons, List.length_append, List.length_map, ih, List.length_cons, Nat.add_mul]; omega
theorem can_sz {V d c n : Nat} {us : List UT} (he : ∀ u ∈ us, u.2.length = V ∧ (∀ e ∈ u.2, 0 ≤ e) ∧ sumL u.2 ≤ d) (ha : absU us ≤ c) (hl : us.length ≤ n) : SzU V d c n (canU us) :=
 ⟨CL us, fun u hu => by obtain ⟨w, hw, e⟩ := canU_mem hu; rw [e]; exact he w hw, Nat.le_trans (absU_canU us) ha, Nat.le_trans (Dx us) hl⟩
theorem can_chk {V d : Nat} {us : List UT} (hd : d ≤ 120) (he : ∀ u ∈ us, u.2.length = V ∧ (∀ e ∈ u.2, 0 ≤ e) ∧ sumL u.2 ≤ d) (ha : absU us < 4294967296) (hl : us.length ≤ 3000) : chkU V us (canU us) = true := by
 have h := can_sz he (Nat.le_refl _) (Nat.le_refl _);simp only [chkU, Bool.and_eq_true, List.all_eq_true, decide_eq_true_eq];refine ⟨⟨⟨⟨⟨⟨⟨fun u hu => (ex_ok hd (he u hu)).1, fun u hu => ?_⟩, sortedU_of h.can.pw⟩, ?_⟩, ha⟩, ?_⟩, fun u _ => (BX _ _).symm⟩, fun u _ => (BX _ _).symm⟩
 ·obtain ⟨a, b, _⟩ := ex_ok hd (h.ex u hu);exact ⟨⟨a, h.can.nz u hu⟩, b⟩
 ·have := h.ln; omega
 ·have := h.ab; omega
theorem SzU.chk {V d c n : Nat} {p : List UT} (h : SzU V d c n p) (hd : d ≤ 120) (hc : c < 4294967296) (hn : n ≤ 3000) : chkU V p p = true := by
 have := can_chk hd h.ex (by have := h.ab; omega) (by have := h.ln; omega);rwa [h.can.can] at this
theorem SzU.nil (V : Nat) : SzU V 0 0 0 [] := ⟨CanU.nil, fun u hu => by simp at hu, Nat.le_refl _, Nat.le_refl _⟩
theorem sumL_rep : ∀ n : Nat, sumL (List.replicate n 0) = 0
 | 0 => rfl
 | n + 1 => by rw [List.replicate_succ, sumL, sumL_rep n]; rfl
theorem sumL_set : ∀ (n i : Nat), i < n → sumL ((List.replicate n (0 : Int)).set i 1) = 1
 | 0, i, h => by omega
 | n + 1, 0, _ => by simp [List.replicate_succ, sumL, sumL_rep]
 | n + 1, i + 1, h => by
  rw [List.replicate_succ, List.set_cons_succ, sumL, sumL_set n i (by omega)]; rfl
theorem SzU.con (V : Nat) (k : Int) : SzU V 0 k.natAbs 1 (conU V k) := by
 refine ⟨conU_canU V k, fun u hu => ?_, ?_, ?_⟩
 ·unfold conU at hu;split at hu
  ·simp at hu
  ·rw [List.mem_singleton] at hu;subst hu;refine ⟨by simp, fun e he => ?_, by simp [sumL_rep]⟩;rw [(List.mem_replicate.1 he).2]; omega
 ·unfold conU; split <;> simp [absU]
 ·unfold conU; split <;> simp
theorem AN {V i : Nat} (hi : i < V) : SzU V 1 1 1 (varU V i) := by
 refine ⟨CanU.one (show (1 : Int) ≠ 0 by decide), fun u hu => ?_, by simp [varU, absU], by simp [varU]⟩;unfold varU at hu;rw [List.mem_singleton] at hu;subst hu;refine ⟨by simp [unU], fun e he => ?_, ?_⟩
 ·rcases List.mem_or_eq_of_mem_set he with h | h
  ·rw [(List.mem_replicate.1 h).2]; omega
  ·rw [h]; omega
 ·show sumL ((List.replicate V (0 : Int)).set i 1) ≤ _;rw [sumL_set V i hi]; omega
theorem addUs_sz {V d c n d' c' n' : Nat} (k : Int) {p q : List UT} (hp : SzU V d c n p) (hq : SzU V d' c' n' q) : (∀ u ∈ Bm k p q, u.2.length = V ∧ (∀ e ∈ u.2, 0 ≤ e) ∧ sumL u.2 ≤ ((max d d' : Nat) : Int)) ∧ absU (Bm k p q) ≤ c + c' * k.natAbs ∧ (Bm k p q).length ≤ n + n' := by
 unfold Bm;refine ⟨fun u hu => ?_, ?_, ?_⟩
 ·rcases List.mem_append.1 hu with hu | hu
  ·have := hp.ex u hu;exact ⟨this.1, this.2.1, by have := this.2.2; omega⟩
  ·obtain ⟨v, hv, rfl⟩ := List.mem_map.1 hu;have := hq.ex v hv;exact ⟨this.1, this.2.1, by have := this.2.2; show sumL v.2 ≤ _; omega⟩
 ·rw [absU_append, absU_scale];have h1 := hp.ab;have h2 : absU q * k.natAbs ≤ c' * k.natAbs := Nat.mul_le_mul_right _ hq.ab;omega
 ·rw [List.length_append, List.length_map];have := hp.ln;have := hq.ln;omega
theorem SzU.add {V d c n d' c' n' : Nat} {p q : List UT} (hp : SzU V d c n p) (hq : SzU V d' c' n' q) : SzU V (max d d') (c + c') (n + n') (addL p q) := by
 obtain ⟨a, b, e⟩ := addUs_sz 1 hp hq;exact can_sz a (by simpa using b) e
theorem SzU.addChk {V d c n d' c' n' : Nat} {p q : List UT} (hp : SzU V d c n p) (hq : SzU V d' c' n' q) (h1 : d ≤ 120) (h2 : d' ≤ 120) (hc : c + c' < 4294967296) (hn : n + n' ≤ 3000) : chkU V (Bm 1 p q) (addL p q) = true := by
  obtain ⟨a, b, e⟩ := addUs_sz 1 hp hq
  exact can_chk (d := max d d') (by omega) a (by have : absU (Bm 1 p q) ≤ c + c' := by simpa using b
                                                 omega) (by omega)
theorem SzU.sub {V d c n d' c' n' : Nat} {p q : List UT} (hp : SzU V d c n p) (hq : SzU V d' c' n' q) : SzU V (max d d') (c + c') (n + n') (subL p q) := by
 obtain ⟨a, b, e⟩ := addUs_sz (-1) hp hq;exact can_sz a (by simpa using b) e
theorem SzU.subChk {V d c n d' c' n' : Nat} {p q : List UT} (hp : SzU V d c n p) (hq : SzU V d' c' n' q) (h1 : d ≤ 120) (h2 : d' ≤ 120) (hc : c + c' < 4294967296) (hn : n + n' ≤ 3000) : chkU V (Bm (-1) p q) (subL p q) = true := by
  obtain ⟨a, b, e⟩ := addUs_sz (-1) hp hq
  exact can_chk (d := max d d') (by omega) a (by have : absU (Bm (-1) p q) ≤ c + c' := by simpa using b
                                                 omega) (by omega)
theorem mulUs_sz {V d c n d' c' n' : Nat} {p q : List UT} (hp : SzU V d c n p) (hq : SzU V d' c' n' q) : (∀ u ∈ Bh p q, u.2.length = V ∧ (∀ e ∈ u.2, 0 ≤ e) ∧ sumL u.2 ≤ ((d + d' : Nat) : Int)) ∧ absU (Bh p q) ≤ c * c' ∧ (Bh p q).length ≤ n * n' := by
 refine ⟨fun u hu => ?_, ?_, ?_⟩
 ·unfold Bh at hu;obtain ⟨t, ht, hu⟩ := List.mem_flatMap.1 hu;obtain ⟨v, hv, rfl⟩ := List.mem_map.1 hu;have h1 := hp.ex t ht;have h2 := hq.ex v hv
  have hlen : t.2.length = v.2.length := by omega
  refine ⟨by show (addE t.2 v.2).length = V; rw [DB hlen]; exact h1.1, fun e he => ?_, ?_⟩
  ·obtain ⟨k, hk⟩ := List.getElem?_of_mem (show e ∈ addE t.2 v.2 from he);have hkl := (List.getElem?_eq_some_iff.1 hk).1;rw [DB hlen] at hkl;obtain ⟨x, hx⟩ : ∃ x, t.2[k]? = some x := ⟨_, List.getElem?_eq_getElem hkl⟩;obtain ⟨y, hy⟩ : ∃ y, v.2[k]? = some y := ⟨_, List.getElem?_eq_getElem (by omega)⟩;rw [addE_get hx hy] at hk;injection hk with hk;have := h1.2.1 x (List.mem_of_getElem? hx);have := h2.2.1 y (List.mem_of_getElem? hy);omega
  ·show sumL (addE t.2 v.2) ≤ _;rw [sumL_addE hlen];have := h1.2.2;have := h2.2.2;omega
 ·rw [absU_mulUs]; exact Nat.mul_le_mul hp.ab hq.ab
 ·rw [len_mulUs]; exact Nat.mul_le_mul hp.ln hq.ln
theorem SzU.mul {V d c n d' c' n' : Nat} {p q : List UT} (hp : SzU V d c n p) (hq : SzU V d' c' n' q) : SzU V (d + d') (c * c') (n * n') (An p q) := by
 obtain ⟨a, b, e⟩ := mulUs_sz hp hq;exact can_sz a b e
theorem SzU.mulChk {V d c n d' c' n' : Nat} {p q : List UT} (hp : SzU V d c n p) (hq : SzU V d' c' n' q) (hd : d + d' ≤ 120) (hc : c * c' < 4294967296) (hn : n * n' ≤ 3000) : chkU V (Bh p q) (An p q) = true ∧ degU p q = true := by
 obtain ⟨a, b, e⟩ := mulUs_sz hp hq;refine ⟨can_chk hd a (by omega) (by omega), ?_⟩;unfold degU;split
 ·rename_i t _ u _;have h1 := (hp.ex t (by simp)).2.2;have h2 := (hq.ex u (by simp)).2.2;exact decide_eq_true (by omega)
 ·rfl
theorem okSums_sz {V d cp np : Nat} (hd : d ≤ 120) : ∀ (ps : List (List UT)) {acc : List UT} {c n : Nat}, SzU V d c n acc → (∀ p ∈ ps, SzU V d cp np p) → c + ps.length * cp + cp < 4294967296 → n + ps.length * np + np ≤ 3000 → CQ V acc ps = true ∧ SzU V d (c + ps.length * cp) (n + ps.length * np) (Al acc ps)
 | [], acc, c, n, h, _, hc, hn => by
  refine ⟨?_, by simpa [Al] using h⟩;unfold CQ;exact h.chk hd (by simp at hc; omega) (by simp at hn; omega)
 | p :: ps, acc, c, n, h, hp, hc, hn => by
  have h1 := hp p (by simp);rw [List.length_cons, Nat.succ_mul] at hc hn;have hadd := h.add h1;rw [Nat.max_self] at hadd;obtain ⟨k1, k2⟩ := okSums_sz hd ps hadd (fun q hq => hp q (by simp [hq])) (by omega) (by omega);refine ⟨?_, ?_⟩
  ·unfold CQ;simp only [Bool.and_eq_true];exact ⟨⟨⟨h.chk hd (by omega) (by omega), h1.chk hd (by omega) (by omega)⟩, h.addChk h1 hd hd (by omega) (by omega)⟩, k1⟩
  ·show SzU V d _ _ (Al (addL acc p) ps);refine k2.mono (Nat.le_refl _) ?_ ?_ <;> rw [List.length_cons, Nat.succ_mul] <;> omega
theorem mul_one_l {V : Nat} {p : List UT} (hc : CanU p) (hl : ∀ u ∈ p, u.2.length = V) : An (conU V 1) p = p := by
 unfold An Bh conU;rw [if_neg (by decide)];simp only [List.flatMap_cons, List.flatMap_nil, List.append_nil];rw [show (p.map fun u => ((1 : Int) * u.1, addE (List.replicate V 0) u.2)) = p from ?_, hc.can];refine (List.map_congr_left (g := id) fun u hu => ?_).trans (List.map_id p)
 have : addE (List.replicate V 0) u.2 = u.2 := by
  rw [← hl u hu];generalize u.2 = l
  induction l with
  | nil => rfl
  | cons x l ih =>
   rw [List.length_cons, List.replicate_succ];unfold addE at ih ⊢;rw [List.zipWith_cons_cons, ih];simp
 rw [Int.one_mul, this]; rfl
theorem add_nil_l {p : List UT} (hc : CanU p) : addL [] p = p := by
 unfold addL Bm;rw [List.nil_append];rw [show (p.map fun u => (u.1 * 1, u.2)) = p from ?_, hc.can];exact (List.map_congr_left (g := id) fun u _ => by rw [Int.mul_one]; rfl).trans (List.map_id p)
theorem SzU.len {V d c n : Nat} {p : List UT} (h : SzU V d c n p) : ∀ u ∈ p, u.2.length = V := fun u hu => (h.ex u hu).1
theorem CC {V d c n d' c' n' : Nat} {p q : List UT} (hp : SzU V d c n p) (_ : SzU V d' c' n' q) : Al [] [p, q] = addL p q := by
 show addL (addL [] p) q = _;rw [add_nil_l hp.can]
theorem BC {V d c n : Nat} {p q : List UT} (hp : SzU V d c n p) : Av (conU V 1) [p, q] = An p q := by
 show An (An (conU V 1) p) q = _;rw [mul_one_l hp.can hp.len]
theorem CX {V d c n d' c' n' : Nat} {p q : List UT} (hp : SzU V d c n p) (hq : SzU V d' c' n' q) (hd : d + d' ≤ 120) (hc : c * c' < 4294967296) (hc1 : c < 4294967296) (hc2 : c' < 4294967296) (hn : n * n' ≤ 3000) (hn1 : n ≤ 3000) (hn2 : n' ≤ 3000) : Cy V (conU V 1) [p, q] = true := by
 have h1 := SzU.con V 1;have m1 := h1.mulChk hp (by omega) (by simpa using hc1) (by omega);have e1 := mul_one_l hp.can hp.len;have m2 := hp.mulChk hq hd hc hn;unfold Cy Cy Cy;rw [e1] at m1 ⊢;simp only [Bool.and_eq_true];exact ⟨⟨⟨⟨h1.chk (by omega) (by decide) (by omega), hp.chk (by omega) hc1 hn1⟩, m1.2⟩, m1.1⟩, ⟨⟨⟨hp.chk (by omega) hc1 hn1, hq.chk (by omega) hc2 hn2⟩, m2.2⟩, m2.1⟩, (hp.mul hq).chk hd hc hn⟩
theorem DP {V d c n d' c' n' : Nat} {p q : List UT} (hp : SzU V d c n p) (hq : SzU V d' c' n' q) (hd : d ≤ 120) (hd2 : d' ≤ 120) (hc : c + c' < 4294967296) (hn : n + n' ≤ 3000) : CQ V [] [p, q] = true := by
 have h1 := SzU.nil V;have a1 := h1.addChk hp (by omega) hd (by omega) (by omega);have a2 := hp.addChk hq hd hd2 hc hn;unfold CQ CQ CQ;rw [add_nil_l hp.can] at a1 ⊢;simp only [Bool.and_eq_true];exact ⟨⟨⟨h1.chk (by omega) (by omega) (by omega), hp.chk hd (by omega) (by omega)⟩, a1⟩, ⟨⟨hp.chk hd (by omega) (by omega), hq.chk hd2 (by omega) (by omega)⟩, a2⟩, (hp.add hq).chk (by omega) hc hn⟩
end Go.AL
/- A link of polynomials by sizes. Plain. -/
namespace Go.AL
theorem mem_filt {P : Nat → Bool} {n k : Nat} {v : Int} (h : v ∈ ((List.range' k n).filter P).map fun (i : Nat) => (i : Int)) : (k : Int) ≤ v := by
 obtain ⟨i, hi, rfl⟩ := List.mem_map.1 h;have := (List.mem_range'_1.1 (List.mem_filter.1 hi).1).1;omega
theorem spr_pick (P : Nat → Bool) (E : List Int) : ∀ (n k : Nat) (e : List Int), e.length = n → (∀ i, i < n → e[i]? = E[k + i]?) → (∀ i, i < n → P (k + i) = false → e[i]? = some 0) → spr n k (((List.range' k n).filter P).map fun (i : Nat) => (i : Int)) (((List.range' k n).filter P).map fun i => E.getD i 0) = e
 | 0, k, e, h, _, _ => by
  rw [List.eq_nil_of_length_eq_zero h]; rfl
 | n + 1, k, [], h, _, _ => by simp at h
 | n + 1, k, x :: e, h, h1, h2 => by
  have ih := spr_pick P E n (k + 1) e (by simpa using h) (fun i hi => by
   have := h1 (i + 1) (by omega);rw [List.getElem?_cons_succ] at this
   rw [this]; congr 1; omega) (fun i hi hP => by
   have := h2 (i + 1) (by omega) (by rw [← hP]; congr 1; omega)
   rwa [List.getElem?_cons_succ] at this)
  have h0 := h1 0 (by omega);rw [List.getElem?_cons_zero, Nat.add_zero] at h0;rw [List.range'_succ, List.filter_cons];rw [show ((k + 1 : Nat) : Int) = (k : Int) + 1 by omega] at ih;by_cases hp : P k = true
  ·rw [if_pos hp];simp only [List.map_cons, spr];rw [if_pos trivial, ih, List.getD_eq_getElem?_getD, ← h0]; rfl
  ·rw [if_neg hp]
   have hx : x = 0 := by
    have := h2 0 (by omega) (by rw [Nat.add_zero]; simpa using hp);simpa using this
   have hne : ∀ v ∈ ((List.range' (k + 1) n).filter P).map (fun (i : Nat) => (i : Int)), v ≠ (k : Int) := fun v hv => by
    have := mem_filt hv; omega
   subst hx
   generalize hA : ((List.range' (k + 1) n).filter P).map (fun (i : Nat) => (i : Int)) = A at *
   generalize hB : ((List.range' (k + 1) n).filter P).map (fun i => E.getD i 0) = B at *
   have hlen : A.length = B.length := by rw [← hA, ← hB]; simp
   match A, B, hlen with
   | [], [], _ => simp only [spr]; rw [ih]
   | v :: A, b :: B, _ =>
    simp only [spr];rw [if_neg (hne v (by simp)), ih]
theorem occ_zero {V : Nat} {ls : List (List UT)} {p : List UT} (hp : p ∈ ls) {u : UT} (hu : u ∈ p) (hl : u.2.length = V) (h0 : ∀ e ∈ u.2, 0 ≤ e) {i : Nat} (hi : i < V) (hP : occP ls i = false) : u.2[i]? = some 0 := by
 obtain ⟨x, hx⟩ : ∃ x, u.2[i]? = some x := ⟨_, List.getElem?_eq_getElem (by omega)⟩;have hx0 := h0 x (List.mem_of_getElem? hx);rcases (show x = 0 ∨ 0 < x by omega) with h | h
 ·rw [hx, h]
 ·exfalso
  have : occP ls i = true := by
   unfold occP;refine List.any_eq_true.2 ⟨p, hp, List.any_eq_true.2 ⟨u, hu, ?_⟩⟩;rw [List.getD_eq_getElem?_getD, hx];exact decide_eq_true h
  rw [this] at hP; cases hP
theorem spr_pickE {V : Nat} {ls : List (List UT)} {p : List UT} (hp : p ∈ ls) {u : UT} (hu : u ∈ p) (hl : u.2.length = V) (h0 : ∀ e ∈ u.2, 0 ≤ e) : spr V 0 ((occL V ls).map fun (i : Nat) => (i : Int)) (Ck (occL V ls) u.2) = u.2 := by
 have := spr_pick (occP ls) u.2 V 0 u.2 hl (fun i _ => by rw [Nat.zero_add]) fun i hi hP => occ_zero hp hu hl h0 hi (by rwa [Nat.zero_add] at hP);rw [← List.range_eq_range'] at this;exact this
theorem occ_inc (V : Nat) (ls : List (List UT)) : incK 0 V ((occL V ls).map fun (i : Nat) => (i : Int)) := by
 have := Ed (occP ls) V 0 (-1) V (by omega) (by omega);rw [← List.range_eq_range'] at this;exact incK_of this
theorem pick_sz {V d c n : Nat} {ls : List (List UT)} {p : List UT} (hp : p ∈ ls) (h : SzU V d c n p) : SzU (occL V ls).length d c n (Dc (occL V ls) p) := by
 have hinc := occ_inc V ls
 have hlen : ∀ e : List Int, (((occL V ls).map fun (i : Nat) => (i : Int))).length = (Ck (occL V ls) e).length := fun e => by simp [Ck]
 refine ⟨⟨fun u hu => ?_, ?_⟩, fun u hu => ?_, ?_, by simpa [Dc] using h.ln⟩
 ·obtain ⟨v, hv, rfl⟩ := List.mem_map.1 hu;exact h.can.nz v hv
 ·unfold Dc;rw [List.pairwise_map];have := h.can.pw;refine List.Pairwise.imp_of_mem (fun {a b} ha hb hab => ?_) this;have e1 := h.ex a ha;have e2 := h.ex b hb;have := spr_ord (n := V) (hlen a.2) (hlen b.2) hinc;rw [spr_pickE hp ha e1.1 e1.2.1, spr_pickE hp hb e2.1 e2.2.1] at this;show ordI (Ck (occL V ls) a.2) (Ck (occL V ls) b.2) < 0;rw [← this]; exact hab
 ·obtain ⟨v, hv, rfl⟩ := List.mem_map.1 hu;have e1 := h.ex v hv;refine ⟨by simp [Ck], fun e he => ?_, ?_⟩
  ·obtain ⟨i, _, rfl⟩ := List.mem_map.1 (show e ∈ Ck (occL V ls) v.2 from he);rw [List.getD_eq_getElem?_getD]
   cases hx : v.2[i]? with
   | none => simp
   | some x => exact e1.2.1 x (List.mem_of_getElem? hx)
  ·have := spr_sum V 0 ((occL V ls).map fun (i : Nat) => (i : Int)) (Ck (occL V ls) v.2) (hlen v.2) (hinc.imp_hi (by omega));rw [spr_pickE hp hv e1.1 e1.2.1] at this;show sumL (Ck (occL V ls) v.2) ≤ _;rw [← this]; exact e1.2.2
 ·unfold Dc
  have : ∀ l : List UT, absU (l.map fun u => (u.1, Ck (occL V ls) u.2)) = absU l := by
   intro l
   induction l with
   | nil => rfl
   | cons u l ih => simp only [List.map_cons, absU, ih]
  rw [this]; exact h.ab
theorem linkU_sz {V d c n : Nat} {kind : Int} {ls : List (List UT)} (hV : V ≤ 32) (hd : d ≤ 120) (hc : c < 4294967296) (hn : n ≤ 3000) (hk : BQ kind ≠ 0) (hl : (ls.length : Int) = BQ kind) (h : ∀ p ∈ ls, SzU V d c n p) : OkL V (A7 V kind ls) ∧ WL (A7 V kind ls) ∧ ∀ p ∈ ls, nnU V p := by
 refine okLU_ok hV ?_;simp only [okLU, Bool.and_eq_true, decide_eq_true_eq, List.all_eq_true];exact ⟨⟨hk, hl⟩, fun p hp => ⟨(pick_sz hp (h p hp)).chk hd hc hn, fun u hu => (ex_ok hd ((h p hp).ex u hu)).1⟩⟩
end Go.AL
/- Numbers by digits: plain. -/
namespace Go.AL
def ds (Q : Nat) : Nat → (Nat → Nat) → Nat
  | 0, _ => 0
  | n + 1, d => d 0 + Q * ds Q n fun t => d (t + 1)
def sumN : Nat → (Nat → Nat) → Nat
  | 0, _ => 0
  | n + 1, f => sumN n f + f n
def undN (a b : Nat) : Prop := a &&& b = a
theorem DJ {Q : Nat} : ∀ {n : Nat} {d e : Nat → Nat}, (∀ t, t < n → d t = e t) → ds Q n d = ds Q n e
 | 0, _, _, _ => rfl
 | n + 1, d, e, h => by
  rw [ds, ds, h 0 (by omega), DJ (n := n) (d := fun t => d (t + 1)) (e := fun t => e (t + 1)) fun t ht => h (t + 1) (by omega)]
theorem Ej {Q : Nat} : ∀ (n : Nat) (d : Nat → Nat), ds Q (n + 1) d = ds Q n d + d n * Q ^ n
 | 0, d => by simp [ds]
 | n + 1, d => by
  rw [ds, Ej n, ds, Nat.pow_succ]
  have : Q * (d (n + 1) * Q ^ n) = d (n + 1) * (Q ^ n * Q) := by
   rw [Nat.mul_comm (Q ^ n) Q, ← Nat.mul_assoc, ← Nat.mul_assoc, Nat.mul_comm Q]
  rw [Nat.mul_add, this];omega
theorem ds_add {Q : Nat} : ∀ (n : Nat) (d e : Nat → Nat), ds Q n (fun t => d t + e t) = ds Q n d + ds Q n e
 | 0, _, _ => rfl
 | n + 1, d, e => by rw [ds, ds, ds, ds_add n (fun t => d (t + 1)) fun t => e (t + 1), Nat.mul_add]; omega
theorem ds_mul {Q : Nat} (c : Nat) : ∀ (n : Nat) (d : Nat → Nat), ds Q n (fun t => c * d t) = c * ds Q n d
 | 0, _ => rfl
 | n + 1, d => by
  rw [ds, ds, ds_mul c n fun t => d (t + 1), Nat.mul_add];rw [← Nat.mul_assoc, ← Nat.mul_assoc, Nat.mul_comm Q c]
theorem ds_zero {Q : Nat} : ∀ n : Nat, ds Q n (fun _ => 0) = 0
 | 0 => rfl
 | n + 1 => by rw [ds, ds_zero n]; simp
theorem ds_sum {Q n : Nat} (f : Nat → Nat → Nat) : ∀ l : Nat, sumN l (fun i => ds Q n (f i)) = ds Q n fun t => sumN l fun i => f i t
 | 0 => (ds_zero n).symm
 | l + 1 => by
  rw [sumN, ds_sum f l, ← ds_add]; rfl
theorem ds_shift {Q n : Nat} (d : Nat → Nat) : Q * ds Q n d = ds Q (n + 1) fun t => if t = 0 then 0 else d (t - 1) := by
 rw [ds]; simp
theorem ds_pad {Q n : Nat} (d : Nat → Nat) : ds Q n d = ds Q (n + 1) fun t => if t < n then d t else 0 := by
 rw [Ej];simp only [Nat.lt_irrefl, if_false, Nat.zero_mul, Nat.add_zero]
 exact DJ fun t ht => by rw [if_pos ht]
theorem ds_lt {Q : Nat} : ∀ {n : Nat} {d : Nat → Nat}, (∀ t, t < n → d t < Q) → ds Q n d < Q ^ n
 | 0, _, _ => by simp [ds]
 | n + 1, d, h => by
  have h0 := h 0 (by omega);have ih := ds_lt (n := n) (d := fun t => d (t + 1)) fun t ht => h (t + 1) (by omega);rw [ds, Nat.pow_succ];have : Q * (ds Q n (fun t => d (t + 1)) + 1) ≤ Q * Q ^ n := Nat.mul_le_mul_left Q ih;rw [Nat.mul_add] at this;rw [Nat.mul_comm (Q ^ n) Q];omega
def cyN (Q : Nat) (f : Nat → Nat) : Nat → Nat
  | 0 => 0
  | t + 1 => (f t + cyN Q f t) / Q
def dgN (Q : Nat) (f : Nat → Nat) (t : Nat) : Nat := (f t + cyN Q f t) % Q
theorem ds_carry {Q : Nat} (f : Nat → Nat) : ∀ n : Nat, ds Q n f = ds Q n (dgN Q f) + cyN Q f n * Q ^ n
 | 0 => by simp [ds, cyN]
 | n + 1 => by
  rw [Ej, Ej, ds_carry f n, cyN, dgN, Nat.pow_succ];have h := Nat.div_add_mod (f n + cyN Q f n) Q
  generalize (f n + cyN Q f n) / Q = q at *
  generalize (f n + cyN Q f n) % Q = r at *
  have e : q * (Q ^ n * Q) = Q * q * Q ^ n := by
   rw [Nat.mul_comm (Q ^ n) Q, ← Nat.mul_assoc, Nat.mul_comm q Q]
  have e2 : (Q * q + r) * Q ^ n = (f n + cyN Q f n) * Q ^ n := by rw [h]
  rw [Nat.add_mul, Nat.add_mul] at e2;rw [e];omega
theorem ds_ones {Q : Nat} (hQ : 1 ≤ Q) : ∀ n : Nat, 1 + (Q - 1) * ds Q n (fun _ => 1) = Q ^ n
 | 0 => by simp [ds]
 | n + 1 => by
  rw [Ej, Nat.mul_add, ← Nat.add_assoc, ds_ones hQ n, Nat.pow_succ, Nat.one_mul];have : Q ^ n * Q = Q * Q ^ n := Nat.mul_comm _ _;rw [this]
  have h2 : (Q - 1) * Q ^ n + Q ^ n = Q * Q ^ n := by
   rw [← Nat.succ_mul]; congr 1; omega
  omega
theorem ds_ind {Q : Nat} : ∀ {n s : Nat}, s < n → ds Q n (fun t => if t = s then 1 else 0) = Q ^ s
 | 0, s, h => by omega
 | n + 1, 0, _ => by
  rw [ds, DJ (e := fun _ => 0) (fun t _ => by simp), ds_zero]; simp
 | n + 1, s + 1, h => by
  rw [ds, DJ (e := fun t => if t = s then 1 else 0) (fun t _ => by simp), ds_ind (by omega), Nat.pow_succ, Nat.mul_comm]; simp
/-! Masks. -/
theorem and_splitk (k : Nat) {p q r s : Nat} (hp : p < 2 ^ k) (hr : r < 2 ^ k) : (p + 2 ^ k * q) &&& (r + 2 ^ k * s) = (p &&& r) + 2 ^ k * (q &&& s) := by
 have e : ∀ a b : Nat, a < 2 ^ k → a + 2 ^ k * b = b <<< k ||| a := by
  intro a b h;rw [← Nat.shiftLeft_add_eq_or_of_lt h, Nat.shiftLeft_eq, Nat.mul_comm b]; omega
 have hpr : p &&& r < 2 ^ k := Nat.lt_of_le_of_lt Nat.and_le_left hp;rw [e p q hp, e r s hr, e (p &&& r) (q &&& s) hpr];apply Nat.eq_of_testBit_eq;intro i;simp only [Nat.testBit_and, Nat.testBit_or, Nat.testBit_shiftLeft];by_cases hi : k ≤ i
 ·have h1 : p.testBit i = false := Nat.testBit_lt_two_pow (Nat.lt_of_lt_of_le hp (Nat.pow_le_pow_right (by omega) hi));have h2 : r.testBit i = false := Nat.testBit_lt_two_pow (Nat.lt_of_lt_of_le hr (Nat.pow_le_pow_right (by omega) hi));simp [hi, h1, h2]
 ·simp [hi]
theorem undN_split {k p q r s : Nat} (hp : p < 2 ^ k) (hr : r < 2 ^ k) : undN (p + 2 ^ k * q) (r + 2 ^ k * s) ↔ undN p r ∧ undN q s := by
 unfold undN;rw [and_splitk k hp hr];have hpr : p &&& r < 2 ^ k := Nat.lt_of_le_of_lt Nat.and_le_left hp;constructor
 ·intro h
  have e1 : p &&& r = p := by
   have := congrArg (· % 2 ^ k) h;simpa [Nat.add_mul_mod_self_left, Nat.mod_eq_of_lt hpr, Nat.mod_eq_of_lt hp] using this
  refine ⟨e1, ?_⟩
  have : 2 ^ k * (q &&& s) = 2 ^ k * q := by omega
  exact Nat.eq_of_mul_eq_mul_left (Nat.two_pow_pos k) this
 ·rintro ⟨h1, h2⟩;rw [h1, h2]
theorem undN_ds {k : Nat} : ∀ {n : Nat} {d e : Nat → Nat}, (∀ t, t < n → d t < 2 ^ k) → (∀ t, t < n → e t < 2 ^ k) → (undN (ds (2 ^ k) n d) (ds (2 ^ k) n e) ↔ ∀ t, t < n → undN (d t) (e t))
 | 0, d, e, _, _ => ⟨fun _ t ht => by omega, fun _ => by simp [undN, ds]⟩
 | n + 1, d, e, h1, h2 => by
  rw [ds, ds, undN_split (h1 0 (by omega)) (h2 0 (by omega)), undN_ds (n := n) (fun t ht => h1 (t + 1) (by omega)) fun t ht => h2 (t + 1) (by omega)];constructor
  ·rintro ⟨a, b⟩ t ht
   cases t with
   | zero => exact a
   | succ t => exact b t (by omega)
  ·exact fun h => ⟨h 0 (by omega), fun t ht => h (t + 1) (by omega)⟩
theorem undN_zero (b : Nat) : undN 0 b := by simp [undN]
theorem undN_one {b : Nat} : undN 1 b ↔ b % 2 = 1 := by
 unfold undN;rw [Nat.and_comm, Nat.and_one_is_mod]
theorem undN_mask {k r : Nat} (h : r < 2 ^ k) : undN r (2 ^ k - 1) := by
 unfold undN;rw [Nat.and_two_pow_sub_one_eq_mod, Nat.mod_eq_of_lt h]
/-! Sums. -/
theorem BJ : ∀ {n : Nat} {f g : Nat → Nat}, (∀ i, i < n → f i = g i) → sumN n f = sumN n g
 | 0, _, _, _ => rfl
 | n + 1, f, g, h => by rw [sumN, sumN, BJ fun i hi => h i (by omega), h n (by omega)]
theorem sumN_ind {l : Nat} {a : Nat} (g : Nat → Nat) : ∀ {n : Nat}, sumN n (fun i => if a = i then g i else 0) = if a < n then g a else 0
 | 0 => by simp [sumN]
 | n + 1 => by
  rw [sumN, sumN_ind (l := l) g];rcases (show a < n ∨ a = n ∨ n < a by omega) with h | h | h
  ·rw [if_pos h, if_neg (by omega), if_pos (by omega)]; omega
  ·subst h; rw [if_neg (by omega), if_pos rfl, if_pos (by omega)]; omega
  ·rw [if_neg (by omega), if_neg (by omega), if_neg (by omega)]
end Go.AL
/- Machines: whatever solves the system is the run. Plain. -/
namespace Go.AL
structure Mach where
  l : Nat
  R : Nat
  op : Nat → Nat
  rg : Nat → Nat
  nx : Nat → Nat
  zr : Nat → Nat
structure Mach.Ok (m : Mach) : Prop where
  l0 : 1 ≤ m.l
  ins : ∀ i, i < m.l → m.op i = 3 ∨ (m.op i ≤ 2 ∧ m.rg i < m.R ∧ m.nx i < m.l ∧ m.zr i < m.l ∧ (m.op i = 2 → m.nx i ≠ i))
def Mach.to (m : Mach) (i : Nat) (r : Nat → Nat) : Nat := if m.op i = 2 ∧ r (m.rg i) = 0 then m.zr i else m.nx i
structure Mach.Run (m : Mach) (x : Nat → Nat) (s : Nat) (pl : Nat → Nat) (r : Nat → Nat → Nat) : Prop where
  lt : ∀ t, t ≤ s → pl t < m.l
  at0 : pl 0 = 0
  r0 : ∀ j, j < m.R → r 0 j = x j
  go : ∀ t, t < s → m.op (pl t) ≠ 3 ∧ pl (t + 1) = m.to (pl t) (r t)
  chg : ∀ t, t < s → ∀ j, j < m.R → r (t + 1) j + (if m.op (pl t) = 1 ∧ m.rg (pl t) = j then 1 else 0) = r t j + (if m.op (pl t) = 0 ∧ m.rg (pl t) = j then 1 else 0)
  halt : m.op (pl s) = 3
structure HistEq (m : Mach) (x : Nat → Nat) (add s H I : Nat) (L Rg E : Nat → Nat) : Prop where
  h1 : H = 2 ^ (s + add)
  h2 : 1 + (2 * H - 1) * I = (2 * H) ^ (s + 1)
  h3 : I = sumN m.l L
  h4 : ∀ i, i < m.l → undN (L i) I
  h5 : undN 1 (L 0)
  h6 : (2 * H) ^ s = sumN m.l fun i => if m.op i = 3 then L i else 0
  h7 : ∀ j, j < m.R → undN (Rg j) ((H - 1) * I)
  h8 : ∀ i, i < m.l → m.op i ≠ 3 → if m.op i = 2 ∧ m.zr i ≠ m.nx i then undN (2 * H * L i) (L (m.nx i) + L (m.zr i)) ∧ ∃ w, w + 2 * Rg (m.rg i) = L (m.nx i) + 2 * H * I ∧ undN (2 * H * L i) w else undN (2 * H * L i) (L (m.nx i))
  h9 : ∀ j, j < m.R → Rg j + E j * (2 * H) ^ (s + 1) + 2 * H * (sumN m.l fun i => if m.op i = 1 ∧ m.rg i = j then L i else 0) = x j + 2 * H * Rg j + 2 * H * (sumN m.l fun i => if m.op i = 0 ∧ m.rg i = j then L i else 0)
theorem ds_cons {Q n c : Nat} (g : Nat → Nat) : c + Q * ds Q n g = ds Q (n + 1) fun t => if t = 0 then c else g (t - 1) := by
 rw [ds]; simp
abbrev plD (pl : Nat → Nat) (i t : Nat) : Nat := if pl t = i then 1 else 0
theorem sel_ds {Q l n : Nat} {pl L : Nat → Nat} (hlt : ∀ t, t < n → pl t < l) (hL : ∀ i, i < l → L i = ds Q n (plD pl i)) (c : Nat → Prop) [DecidablePred c] : sumN l (fun i => if c i then L i else 0) = ds Q n fun t => if c (pl t) then 1 else 0 := by
 rw [BJ (g := fun i => ds Q n fun t => if pl t = i then (if c i then 1 else 0) else 0) fun i hi => ?_, ds_sum]
 ·refine DJ fun t ht => ?_;rw [sumN_ind (l := l) (fun i => if c i then 1 else 0), if_pos (hlt t ht)]
 ·by_cases hc : c i
  ·rw [if_pos hc, hL i hi]
   exact DJ fun t _ => by simp [plD, hc]
  ·rw [if_neg hc];rw [DJ (e := fun _ => 0) fun t _ => by simp [hc], ds_zero]
abbrev jmpF (Q : Nat) (r : Nat → Nat) (b : Nat → Nat) (t : Nat) : Nat := Q - 2 * r t + b t
theorem jmp_cy {Q : Nat} {r b : Nat → Nat} (hQ : 3 ≤ Q) (hb : ∀ t, b t ≤ 1) : ∀ t, cyN Q (jmpF Q r b) t ≤ 1
 | 0 => by simp [cyN]
 | t + 1 => by
  have ih := jmp_cy (r := r) hQ hb t;have h1 := hb t;rw [cyN];have : (jmpF Q r b t + cyN Q (jmpF Q r b) t) / Q < 2 := (Nat.div_lt_iff_lt_mul (by omega)).2 (by have hf : jmpF Q r b t = Q - 2 * r t + b t := rfl; omega);omega
theorem jmp_digit {Q : Nat} {r b : Nat → Nat} {t : Nat} (hQ : 3 ≤ Q) (hev : Q % 2 = 0) (hb : ∀ t, b t ≤ 1) (hr : ∀ t, 2 * r t ≤ Q) (h0 : b t = 0) : dgN Q (jmpF Q r b) (t + 1) % 2 = 1 ↔ (b (t + 1) = if r t = 0 then 0 else 1) := by
 have c0 := jmp_cy (r := r) hQ hb t
 have hc : cyN Q (jmpF Q r b) (t + 1) = if r t = 0 then 1 else 0 := by
  rw [cyN]
  have hf : jmpF Q r b t = Q - 2 * r t := by unfold jmpF; omega
  rw [hf];have := hr t;split
  ·rename_i h
   have e : (Q - 2 * r t + cyN Q (jmpF Q r b) t) / Q = 1 := by
    rw [h];refine Nat.div_eq_of_lt_le (by omega) (by omega)
   exact e
  ·exact Nat.div_eq_of_lt (by omega)
 have hb1 := hb (t + 1);have hr1 := hr (t + 1);unfold dgN;rw [hc];have hmod : ∀ a, a % Q % 2 = a % 2 := fun a => Nat.mod_mod_of_dvd a (Nat.dvd_of_mod_eq_zero hev);rw [hmod];unfold jmpF;split <;> omega
end Go.AL
/- Machines: a run solves the system; there is one run. Plain. -/
namespace Go.AL
theorem Mach.Run.reg_le {m : Mach} {x : Nat → Nat} {s : Nat} {pl : Nat → Nat} {r : Nat → Nat → Nat} (h : m.Run x s pl r) {j : Nat} (hj : j < m.R) : ∀ t, t ≤ s → r t j ≤ x j + t
 | 0, _ => by rw [h.r0 j hj]; omega
 | t + 1, ht => by
  have ih := h.reg_le hj t (by omega);have := h.chg t (by omega) j hj;split at this <;> split at this <;> omega
theorem hist_there {m : Mach} {x : Nat → Nat} {add s H : Nat} {pl : Nat → Nat} {r : Nat → Nat → Nat} (ok : m.Ok) (hadd : m.l ≤ add) (hx : ∀ j, j < m.R → x j ≤ add) (h : m.Run x s pl r) (hH : H = 2 ^ (s + add)) :
  HistEq m x add s H (ds (2 * H) (s + 1) fun _ => 1) (fun i => ds (2 * H) (s + 1) (plD pl i)) (fun j => ds (2 * H) (s + 1) fun t => r t j) (fun j => r s j) := by
 obtain ⟨k, hk⟩ : ∃ k, k = s + add + 1 := ⟨_, rfl⟩;have hl0 := ok.l0
 have hQ : 2 * H = 2 ^ k := by rw [hH, hk, Nat.pow_succ]; omega
 have hH1 : k - 1 < H := by rw [hH, show k - 1 = s + add by omega]; exact Nat.lt_two_pow_self
 have hHk : H = 2 ^ (k - 1) := by rw [hH]; congr 1; omega
 obtain ⟨Q, hQd⟩ : ∃ Q, Q = 2 * H := ⟨_, rfl⟩
 have hQk : Q = 2 ^ k := by omega
 have hQ4 : 4 ≤ Q := by omega
 have hQev : Q % 2 = 0 := by omega
 have hlt : ∀ t, t < s + 1 → pl t < m.l := fun t ht => h.lt t (by omega)
 have hrle : ∀ j, j < m.R → ∀ t, t ≤ s → r t j ≤ H - 1 := fun j hj t ht => by
  have := h.reg_le hj t ht;have := hx j hj;omega
 have hsel := fun (c : Nat → Prop) (_ : DecidablePred c) => sel_ds (Q := Q) (L := fun i => ds Q (s + 1) (plD pl i)) hlt (fun _ _ => rfl) c;have hpad : ∀ i, ds Q (s + 1) (plD pl i) = ds Q (s + 2) fun t => if t < s + 1 then plD pl i t else 0 := fun i => ds_pad _
 -- what a mask needs
 have hund : ∀ i, m.op i ≠ 3 → ∀ (e : Nat → Nat) (N : Nat), N = ds Q (s + 2) e → (∀ t, t < s + 2 → e t < Q) → (∀ t, t < s → pl t = i → e (t + 1) % 2 = 1) → undN (Q * ds Q (s + 1) (plD pl i)) N := by
  intro i hi3 e N hN he hu;rw [ds_shift, hN, hQk];refine (undN_ds (k := k) (n := s + 2) (fun t _ => by (try dsimp only); unfold plD; split <;> (try split) <;> omega) (fun t ht => by have := he t ht; omega)).2 fun t ht => ?_
  cases t with
  | zero => simp only [if_true]; exact undN_zero _
  | succ t =>
   simp only [Nat.succ_ne_zero, if_false, Nat.add_sub_cancel];unfold plD;split
   ·rename_i hti;rcases (show t = s ∨ t < s by omega) with h1 | h1
    ·subst h1;have := h.halt;rw [hti] at this;exact absurd this hi3
    ·exact undN_one.2 (hu t h1 hti)
   ·exact undN_zero _
 rw [← hQd];refine ⟨hH, ?_, ?_, fun i hi => ?_, ?_, ?_, fun j hj => ?_, fun i hi hi3 => ?_, fun j hj => ?_⟩
 ·rw [← hQd]; exact ds_ones (by omega) _
 ·rw [ds_sum];refine DJ fun t ht => ?_;show 1 = sumN m.l fun i => if pl t = i then 1 else 0;rw [sumN_ind (l := m.l) (fun _ => 1), if_pos (hlt t ht)]
 ·rw [hQk];refine (undN_ds (fun t _ => by unfold plD; split <;> omega) (fun t _ => by omega)).2 fun t _ => ?_;unfold plD;split
  ·exact undN_one.2 rfl
  ·exact undN_zero _
 ·refine undN_one.2 ?_;rw [ds, hQd, Nat.mul_assoc];unfold plD;rw [if_pos h.at0];omega
 ·rw [← hQd, hsel (fun i => m.op i = 3) inferInstance, ← ds_ind (Q := Q) (show s < s + 1 by omega)];refine DJ fun t ht => ?_;rcases (show t = s ∨ t < s by omega) with h1 | h1
  ·subst h1; rw [if_pos rfl, if_pos h.halt]
  ·rw [if_neg (by omega), if_neg (h.go t h1).1]
 ·rw [← ds_mul, hQk];refine (undN_ds (fun t ht => by have := hrle j hj t (by omega); omega) (fun t _ => by omega)).2 fun t ht => ?_;have := hrle j hj t (by omega);rw [Nat.mul_one, hHk];exact undN_mask (by omega)
 ·rw [← hQd];rcases ok.ins i hi with k3 | ⟨o1, o2, o3, o4, o5⟩
  ·exact absurd k3 hi3
  by_cases hj : m.op i = 2 ∧ m.zr i ≠ m.nx i
  ·rw [if_pos hj]
   have hb : ∀ t, plD pl (m.nx i) t ≤ 1 := fun t => by unfold plD; split <;> omega
   obtain ⟨rr, hrr⟩ : ∃ rr : Nat → Nat, rr = fun t => if t ≤ s then r t (m.rg i) else 0 := ⟨_, rfl⟩
   have hrv : ∀ t, t ≤ s → rr t = r t (m.rg i) := fun t ht => by rw [hrr]; exact if_pos ht
   have hr2 : ∀ t, 2 * rr t ≤ Q := fun t => by
    by_cases ht : t ≤ s
    ·have := hrle _ o2 t ht;rw [hrv t ht]; omega
    ·rw [hrr]; simp only [if_neg ht]; omega
   refine ⟨?_, ds Q (s + 1) (jmpF Q rr (plD pl (m.nx i))), ?_, ?_⟩
   ·refine hund i hi3 (fun u => (if u < s + 1 then plD pl (m.nx i) u else 0) + (if u < s + 1 then plD pl (m.zr i) u else 0)) _ ?_ (fun t _ => by (try dsimp only); unfold plD; split <;> (try split) <;> (try split) <;> omega) fun t ht hti => ?_
    ·rw [ds_add, ← hpad, ← hpad]
    ·have hg := (h.go t ht).2;rw [hti] at hg;unfold Mach.to at hg;rw [if_pos (by omega), if_pos (by omega)];unfold plD;split at hg
     ·rw [hg, if_neg hj.2, if_pos rfl]
     ·rw [hg, if_pos rfl, if_neg (fun q => hj.2 q.symm)]
   ·rw [← ds_mul, ← ds_mul];have e1 := ds_add (Q := Q) (s + 1) (jmpF Q rr (plD pl (m.nx i))) fun t => 2 * r t (m.rg i);have e2 := ds_add (Q := Q) (s + 1) (plD pl (m.nx i)) fun _ => Q * 1;rw [← e1, ← e2];refine DJ fun t ht => ?_;have := hr2 t;rw [hrv t (by omega)] at this;show Q - 2 * rr t + plD pl (m.nx i) t + 2 * r t (m.rg i) = plD pl (m.nx i) t + Q * 1;rw [hrv t (by omega)];omega
   ·have hcy := jmp_cy (r := rr) (show 3 ≤ Q by omega) hb (s + 1)
    refine hund i hi3 (fun t => if t < s + 1 then dgN Q (jmpF Q rr (plD pl (m.nx i))) t else cyN Q (jmpF Q rr (plD pl (m.nx i))) (s + 1)) _ ?_ (fun t _ => by
     (try dsimp only)
     split
     ·exact Nat.mod_lt _ (by omega)
     ·omega) fun t ht hti => ?_
    ·rw [Ej (s + 1), if_neg (by omega), ds_carry];congr 1
     exact DJ fun t ht => by rw [if_pos ht]
    ·rw [if_pos (by omega)]
     have hne : plD pl (m.nx i) t = 0 := by
      unfold plD;rw [if_neg];rw [hti];exact fun k => o5 hj.1 k.symm
     refine (jmp_digit (t := t) (show 3 ≤ Q by omega) hQev hb hr2 hne).2 ?_;rw [hrv t (by omega)];have hg := (h.go t ht).2;rw [hti] at hg;unfold Mach.to at hg;unfold plD;by_cases hz : r t (m.rg i) = 0
     ·rw [if_pos ⟨hj.1, hz⟩] at hg;rw [hg, if_neg hj.2, if_pos hz]
     ·rw [if_neg (fun q => hz q.2)] at hg;rw [hg, if_pos rfl, if_neg hz]
  ·rw [if_neg hj];refine hund i hi3 _ _ (hpad _) (fun t _ => by (try dsimp only); unfold plD; split <;> (try split) <;> omega) fun t ht hti => ?_;have hg := (h.go t ht).2;rw [hti] at hg;unfold Mach.to at hg;rw [if_pos (by omega)];unfold plD;split at hg
   ·rename_i hz;rw [hg, if_pos (Classical.byContradiction fun q => hj ⟨hz.1, q⟩)]
   ·rw [hg, if_pos rfl]
 ·rw [← hQd];rw [hsel (fun i => m.op i = 1 ∧ m.rg i = j) inferInstance, hsel (fun i => m.op i = 0 ∧ m.rg i = j) inferInstance];obtain ⟨dc, hdc⟩ : ∃ dc : Nat → Nat, dc = fun t => if m.op (pl t) = 1 ∧ m.rg (pl t) = j then 1 else 0 := ⟨_, rfl⟩;obtain ⟨ic, hic⟩ : ∃ ic : Nat → Nat, ic = fun t => if m.op (pl t) = 0 ∧ m.rg (pl t) = j then 1 else 0 := ⟨_, rfl⟩;rw [← hdc, ← hic]
  have ds0 : dc s = 0 := by rw [hdc]; dsimp only; rw [if_neg (by rw [h.halt]; omega)]
  have is0 : ic s = 0 := by rw [hic]; dsimp only; rw [if_neg (by rw [h.halt]; omega)]
  have hA : ds Q (s + 1) (fun t => r t j) + r s j * Q ^ (s + 1) + Q * ds Q (s + 1) dc = ds Q (s + 1) (fun t => r t j + if t = 0 then 0 else dc (t - 1)) + (r s j + dc s) * Q ^ (s + 1) := by
   rw [ds_shift, Ej (s + 1), if_neg (by omega), ds_add, Nat.add_mul];simp only [Nat.add_sub_cancel];omega
  have hB : x j + Q * ds Q (s + 1) (fun t => r t j) + Q * ds Q (s + 1) ic = ds Q (s + 1) (fun t => if t = 0 then x j else r (t - 1) j + ic (t - 1)) + (r s j + ic s) * Q ^ (s + 1) := by
   rw [Nat.add_assoc, ← Nat.mul_add, ← ds_add, ds_cons, Ej (s + 1), if_neg (by omega)];simp only [Nat.add_sub_cancel]
  rw [hA, hB, ds0, is0];congr 1;refine DJ fun t ht => ?_
  cases t with
  | zero => simp [h.r0 j hj]
  | succ t =>
   have := h.chg t (by omega) j hj;simp only [Nat.succ_ne_zero, if_false, Nat.add_sub_cancel];rw [hdc, hic];exact this
theorem Mach.Run.uniq {m : Mach} {x : Nat → Nat} {s s' : Nat} {pl pl' : Nat → Nat} {r r' : Nat → Nat → Nat} (ok : m.Ok) (h : m.Run x s pl r) (h' : m.Run x s' pl' r') : s = s' ∧ ∀ t, t ≤ s → pl t = pl' t ∧ ∀ j, j < m.R → r t j = r' t j := by
 have key : ∀ t, t ≤ s → t ≤ s' → pl t = pl' t ∧ ∀ j, j < m.R → r t j = r' t j := by
  intro t
  induction t with
  | zero => exact fun _ _ => ⟨by rw [h.at0, h'.at0], fun j hj => by rw [h.r0 j hj, h'.r0 j hj]⟩
  | succ t ih =>
   intro h1 h2;obtain ⟨e1, e2⟩ := ih (by omega) (by omega);have g1 := h.go t (by omega);have g2 := h'.go t (by omega);refine ⟨?_, fun j hj => ?_⟩
   ·rw [g1.2, g2.2, ← e1];unfold Mach.to;rcases ok.ins (pl t) (h.lt t (by omega)) with k | ⟨_, o2, _⟩
    ·exact absurd k g1.1
    ·rw [e2 _ o2]
   ·have c1 := h.chg t (by omega) j hj;have c2 := h'.chg t (by omega) j hj;rw [← e1, ← e2 j hj] at c2;omega
 have hs : s = s' := by
  rcases Nat.lt_trichotomy s s' with k | k | k
  ·have := (key s (by omega) (by omega)).1;have h3 := h.halt;rw [this] at h3;exact absurd h3 (h'.go s k).1
  ·exact k
  ·have := (key s' (by omega) (by omega)).1;have h3 := h'.halt;rw [← this] at h3;exact absurd h3 (h.go s' k).1
 subst hs;exact ⟨rfl, fun t ht => key t ht ht⟩
end Go.AL
/- The system of a machine and an input: its polynomials, their sizes and values. Plain. -/
namespace Go.AL
structure IZ where
  op : Int
  rg : Int
  nx : Int
  zr : Int
structure MZ where
  regs : Int
  code : List IZ
def haltZ : IZ := ⟨3, 0, 0, 0⟩
abbrev MZ.l (m : MZ) : Nat := m.code.length
abbrev MZ.R (m : MZ) : Nat := m.regs.toNat
abbrev MZ.V (m : MZ) : Nat := 3 + m.l + 2 * m.R
def MZ.at (m : MZ) (i : Nat) : IZ := m.code.getD i haltZ
def okIns (m : MZ) (i : Nat) (x : IZ) : Prop :=
  x = haltZ ∨ ((0 ≤ x.rg ∧ x.rg < m.regs) ∧ (0 ≤ x.nx ∧ x.nx < m.l) ∧ ((x.op = 2 ∧ 0 ≤ x.zr ∧ x.zr < m.l ∧ x.nx ≠ i) ∨ ((x.op = 0 ∨ x.op = 1) ∧ x.zr = 0)))
structure OkMZ (m : MZ) : Prop where
  r1 : 1 ≤ m.regs
  r4 : m.regs ≤ 4
  l1 : 1 ≤ m.l
  l15 : m.l ≤ 15
  ins : ∀ i, i < m.l → okIns m i (m.at i)
def OkIn (m : MZ) (x : List Int) : Prop := x.length = m.R ∧ ∀ n ∈ x, 0 ≤ n ∧ n ≤ 1000
def MZ.mach (m : MZ) : Mach := ⟨m.l, m.R, fun i => (m.at i).op.toNat, fun i => (m.at i).rg.toNat, fun i => (m.at i).nx.toNat, fun i => (m.at i).zr.toNat⟩
theorem OkMZ.mach {m : MZ} (h : OkMZ m) : m.mach.Ok := by
 refine ⟨h.l1, fun i hi => ?_⟩;rcases h.ins i hi with k | ⟨⟨a1, a2⟩, ⟨b1, b2⟩, k⟩
 ·left; show (m.at i).op.toNat = 3; rw [k]; rfl
 ·right
  have hR : ((m.R : Nat) : Int) = m.regs := by have := h.r1; show ((m.regs.toNat : Nat) : Int) = _; omega
  have hl : ((m.l : Nat) : Int) = m.code.length := rfl;have := h.l1;show (m.at i).op.toNat ≤ 2 ∧ (m.at i).rg.toNat < m.R ∧ (m.at i).nx.toNat < m.l ∧ (m.at i).zr.toNat < m.l ∧ ((m.at i).op.toNat = 2 → (m.at i).nx.toNat ≠ i);rcases k with ⟨c1, c2, c3, c4⟩ | ⟨c1, c2⟩
  ·exact ⟨by omega, by omega, by omega, by omega, fun _ => by omega⟩
  ·exact ⟨by omega, by omega, by omega, by omega, fun k => by omega⟩
theorem OkMZ.V32 {m : MZ} (h : OkMZ m) : m.V ≤ 26 := by
 have := h.l15;have := h.r4;show 3 + m.code.length + 2 * m.regs.toNat ≤ 26;have : m.code.length ≤ 15 := h.l15;omega
def hsQ (V : Nat) : List UT := Av (conU V 1) [conU V 2, varU V 1]
def Bi (V : Nat) : List UT := Al [] [conU V 1, Av (conU V 1) [subL (hsQ V) (conU V 1), varU V 2]]
def Ag (V : Nat) (c : IZ → Bool) : Nat → List IZ → List UT → List UT
  | _, [], acc => acc
  | i, x :: xs, acc => Ag V c (i + 1) xs (if c x then Al [] [acc, varU V (3 + i)] else acc)
theorem BM {V : Nat} (hV : 6 ≤ V) : SzU V 1 2 1 (hsQ V) ∧ Cy V (conU V 1) [conU V 2, varU V 1] = true := by
 have a := SzU.con V 2;have b := AN (V := V) (i := 1) (by omega);refine ⟨?_, CX a b (by omega) (by decide) (by decide) (by decide) (by omega) (by omega) (by omega)⟩;unfold hsQ;rw [BC a];exact (a.mul b).mono (by omega) (by decide) (by omega)
theorem Co {V : Nat} (hV : 6 ≤ V) : SzU V 2 4 3 (Bi V) ∧ Cy V (conU V 1) [subL (hsQ V) (conU V 1), varU V 2] = true ∧ CQ V [] [conU V 1, Av (conU V 1) [subL (hsQ V) (conU V 1), varU V 2]] = true ∧ SzU V 1 3 2 (subL (hsQ V) (conU V 1)) ∧ chkU V (Bm (-1) (hsQ V) (conU V 1)) (subL (hsQ V) (conU V 1)) = true ∧ SzU V 2 3 2 (Av (conU V 1) [subL (hsQ V) (conU V 1), varU V 2]) := by
 have a := (BM hV).1;have c1 := SzU.con V 1;have b := AN (V := V) (i := 2) (by omega);have s := (a.sub c1).mono (d' := 1) (c' := 3) (n' := 2) (by omega) (by decide) (by omega);have e := BC (p := subL (hsQ V) (conU V 1)) (q := varU V 2) s
 have p : SzU V 2 3 2 (Av (conU V 1) [subL (hsQ V) (conU V 1), varU V 2]) := by
  rw [e]; exact (s.mul b).mono (by omega) (by decide) (by omega)
 refine ⟨?_, CX s b (by omega) (by decide) (by decide) (by decide) (by omega) (by omega) (by omega), DP c1 p (by omega) (by omega) (by decide) (by omega), s, a.subChk c1 (by omega) (by omega) (by decide) (by omega), p⟩;unfold Bi;rw [CC c1 p];exact (c1.add p).mono (by omega) (by decide) (by omega)
theorem hsSum_sz {V : Nat} (c : IZ → Bool) : ∀ (xs : List IZ) {i : Nat} {acc : List UT} {k n : Nat}, SzU V 1 k n acc → 3 + i + xs.length ≤ V → SzU V 1 (k + xs.length) (n + xs.length) (Ag V c i xs acc)
 | [], i, acc, k, n, h, _ => by simpa [Ag] using h
 | x :: xs, i, acc, k, n, h, hV => by
  rw [List.length_cons] at hV;have v := AN (V := V) (i := 3 + i) (by omega);unfold Ag;split
  ·rw [CC h v];have := hsSum_sz c xs (i := i + 1) ((h.add v).mono (d' := 1) (c' := k + 1) (n' := n + 1) (by omega) (by omega) (by omega)) (by omega);exact this.mono (by omega) (by rw [List.length_cons]; omega) (by rw [List.length_cons]; omega)
  ·have := hsSum_sz c xs (i := i + 1) h (by omega);exact this.mono (by omega) (by rw [List.length_cons]; omega) (by rw [List.length_cons]; omega)
theorem hsSum0_sz {m : MZ} (c : IZ → Bool) : SzU m.V 1 m.l (1 + m.l) (Ag m.V c 0 m.code (conU m.V 0)) := by
 have := hsSum_sz (V := m.V) c m.code (i := 0) ((SzU.con m.V 0).mono (d' := 1) (c' := 0) (n' := 1) (by omega) (by decide) (by omega)) (by show 3 + 0 + m.code.length ≤ 3 + m.code.length + 2 * m.R; omega);exact this.mono (by omega) (Nat.le_of_eq (Nat.zero_add _)) (Nat.le_refl _)
/-! values -/
theorem sumN_front : ∀ (n : Nat) (f : Nat → Nat), sumN (n + 1) f = f 0 + sumN n fun k => f (k + 1)
 | 0, f => by simp [sumN]
 | n + 1, f => by rw [sumN, sumN_front n f, sumN]; omega
theorem uv_add2 {V d c n d' c' n' : Nat} (hV : V ≤ 32) (X : List Int) {p q : List UT} (hp : SzU V d c n p) (hq : SzU V d' c' n' q) (h1 : d ≤ 120) (h2 : d' ≤ 120) (hc : c + c' < 4294967296) (hn : n + n' ≤ 3000) : uv X (Al [] [p, q]) = uv X p + uv X q := by
 rw [uv_sums hV X _ _ (DP hp hq h1 h2 hc hn)];simp only [List.map_cons, List.map_nil, sumL];show (0 : Int) + _ = _;omega
theorem DM {V d c n d' c' n' : Nat} (hV : V ≤ 32) (X : List Int) {p q : List UT} (hp : SzU V d c n p) (hq : SzU V d' c' n' q) (hd : d + d' ≤ 120) (hc : c * c' < 4294967296) (hc1 : c < 4294967296) (hc2 : c' < 4294967296) (hn : n * n' ≤ 3000) (hn1 : n ≤ 3000) (hn2 : n' ≤ 3000) : uv X (Av (conU V 1) [p, q]) = uv X p * uv X q := by
 rw [uv_muls hV X _ _ (CX hp hq hd hc hc1 hc2 hn hn1 hn2), DD];simp only [List.map_cons, List.map_nil, prodL];grind
theorem EQ {V d c n d' c' n' : Nat} (hV : V ≤ 32) (X : List Int) {p q : List UT} (hp : SzU V d c n p) (hq : SzU V d' c' n' q) (h1 : d ≤ 120) (h2 : d' ≤ 120) (hc : c + c' < 4294967296) (hn : n + n' ≤ 3000) : uv X (subL p q) = uv X p - uv X q := uv_sub hV X (hp.subChk hq h1 h2 hc hn)
theorem hsQ_val {V : Nat} (h6 : 6 ≤ V) (hV : V ≤ 32) {X : List Int} (hX : X.length = V) : uv X (hsQ V) = 2 * X.getD 1 0 := by
 unfold hsQ;rw [DM hV X (SzU.con V 2) (AN (by omega)) (by omega) (by decide) (by decide) (by decide) (by omega) (by omega) (by omega), DD, DC hX (by omega)]
theorem hsAll_val {V : Nat} (h6 : 6 ≤ V) (hV : V ≤ 32) {X : List Int} (hX : X.length = V) : uv X (Bi V) = 1 + (2 * X.getD 1 0 - 1) * X.getD 2 0 := by
 obtain ⟨_, _, _, s, _, p⟩ := Co h6;unfold Bi;rw [uv_add2 hV X (SzU.con V 1) p (by omega) (by omega) (by decide) (by omega), DD, DM hV X s (AN (by omega)) (by omega) (by decide) (by decide) (by decide) (by omega) (by omega) (by omega), EQ hV X (BM h6).1 (SzU.con V 1) (by omega) (by omega) (by decide) (by omega), hsQ_val h6 hV hX, DD, DC hX (by omega)]
theorem hsSum_val {V : Nat} (hV : V ≤ 32) {X : List Int} (hX : X.length = V) (h0 : ∀ y ∈ X, 0 ≤ y) (c : IZ → Bool) : ∀ (xs : List IZ) {i : Nat} {acc : List UT} {k n : Nat}, SzU V 1 k n acc → 3 + i + xs.length ≤ V → k ≤ 100 - xs.length → n ≤ 100 - xs.length → xs.length ≤ 50 →
  uv X (Ag V c i xs acc) = uv X acc + (sumN xs.length fun j => if c (xs.getD j haltZ) then (X.getD (3 + i + j) 0).toNat else 0 : Nat)
 | [], i, acc, k, n, h, _, _, _, _ => by simp [Ag, sumN]
 | x :: xs, i, acc, k, n, h, hl, hk, hn, h50 => by
  rw [List.length_cons] at hl hk hn h50;have v := AN (V := V) (i := 3 + i) (by omega)
  have hx0 : 0 ≤ X.getD (3 + i) 0 := by
   rw [List.getD_eq_getElem?_getD, List.getElem?_eq_getElem (by omega)];exact h0 _ (List.getElem_mem _)
  rw [List.length_cons, sumN_front]
  have hs : (sumN xs.length fun j => if c ((x :: xs).getD (j + 1) haltZ) then (X.getD (3 + i + (j + 1)) 0).toNat else 0) = sumN xs.length fun j => if c (xs.getD j haltZ) then (X.getD (3 + (i + 1) + j) 0).toNat else 0 := by
   refine BJ fun j _ => ?_;rw [List.getD_cons_succ, show 3 + i + (j + 1) = 3 + (i + 1) + j by omega]
  rw [hs, List.getD_cons_zero, Nat.add_zero];unfold Ag;by_cases hc : c x = true
  ·rw [if_pos hc, if_pos hc];have ha := (h.add v).mono (d' := 1) (c' := k + 1) (n' := n + 1) (by omega) (by omega) (by omega);rw [← CC h v] at ha;rw [hsSum_val hV hX h0 c xs ha (by omega) (by omega) (by omega) (by omega), uv_add2 hV X h v (by omega) (by omega) (by omega) (by omega), DC hX (by omega)];omega
  ·rw [if_neg hc, if_neg hc, hsSum_val hV hX h0 c xs h (by omega) (by omega) (by omega) (by omega)];omega
end Go.AL
/- The system of a machine and an input: its links; that they hold is the history's equations. Plain. -/
namespace Go.AL
abbrev addZ (m : MZ) (x : List Int) : Int := m.l + sumL x
abbrev LkU := Int × List (List UT)
def hsA (m : MZ) (x : List Int) : List LkU := [(2, [conU m.V 2, Al [] [varU m.V 0, conU m.V (addZ m x)], varU m.V 1]), (2, [hsQ m.V, Al [] [varU m.V 0, conU m.V 1], Bi m.V]), (0, [subL (varU m.V 2) (Ag m.V (fun _ => true) 0 m.code (conU m.V 0))])]
def hsB (m : MZ) (i : Nat) : LkU := (3, [varU m.V (3 + i), varU m.V 2])
def hsC (m : MZ) : List LkU := [(3, [conU m.V 1, varU m.V 3]), (2, [hsQ m.V, varU m.V 0, Ag m.V (fun x => decide (x.op = 3)) 0 m.code (conU m.V 0)])]
def hsD (m : MZ) (j : Nat) : LkU := (3, [varU m.V (3 + m.l + j), Av (conU m.V 1) [subL (varU m.V 1) (conU m.V 1), varU m.V 2]])
def Af (m : MZ) (i : Nat) : List UT := Av (conU m.V 1) [hsQ m.V, varU m.V (3 + i)]
def Cs (m : MZ) (x : IZ) : List UT := subL (Al [] [varU m.V (3 + x.nx.toNat), Av (conU m.V 1) [hsQ m.V, varU m.V 2]]) (Av (conU m.V 1) [conU m.V 2, varU m.V (3 + m.l + x.rg.toNat)])
def hsGo (m : MZ) (i : Nat) (x : IZ) : List LkU :=
  if x.op = 3 then [] else if x.op = 2 ∧ x.zr ≠ x.nx then [(3, [Af m i, Al [] [varU m.V (3 + x.nx.toNat), varU m.V (3 + x.zr.toNat)]]), (3, [Af m i, Cs m x])] else [(3, [Af m i, varU m.V (3 + x.nx.toNat)])]
def BA (m : MZ) (op : Int) (j : Nat) : List UT := Av (conU m.V 1) [hsQ m.V, Ag m.V (fun x => decide (x.op = op) && decide (x.rg = j)) 0 m.code (conU m.V 0)]
def hsL (m : MZ) (j : Nat) : List UT := Al [] [varU m.V (3 + m.l + j), Av (conU m.V 1) [varU m.V (3 + m.l + m.R + j), Bi m.V]]
def hsR0 (m : MZ) (x : List Int) (j : Nat) : List UT := Al [] [conU m.V (x.getD j 0), Av (conU m.V 1) [hsQ m.V, varU m.V (3 + m.l + j)], BA m 0 j]
def hsF (m : MZ) (x : List Int) (j : Nat) : LkU := (0, [subL (hsL m j) (subL (hsR0 m x j) (BA m 1 j))])
def hsK (m : MZ) (x : List Int) : List LkU := hsA m x ++ (List.range m.l).map (hsB m) ++ hsC m ++ (List.range m.R).map (hsD m) ++ (List.range m.l).flatMap (fun i => hsGo m i (m.at i)) ++ (List.range m.R).map (hsF m x)
def hsS (m : MZ) (x : List Int) : SZ := ⟨m.V, (hsK m x).map fun s => A7 m.V s.1 s.2⟩
/-! sizes -/
theorem OkMZ.V6 {m : MZ} (h : OkMZ m) : 6 ≤ m.V := by
 have := h.l1;have := h.r1;show 6 ≤ 3 + m.code.length + 2 * m.regs.toNat;have : 1 ≤ m.code.length := h.l1;omega
theorem sumL_in : ∀ {l : List Int}, (∀ n ∈ l, 0 ≤ n ∧ n ≤ 1000) → 0 ≤ sumL l ∧ sumL l ≤ 1000 * l.length
 | [], _ => by simp [sumL]
 | x :: l, h => by
  have := sumL_in (l := l) fun n hn => h n (by simp [hn]);have := h x (by simp);simp only [sumL, List.length_cons];omega
theorem addZ_b {m : MZ} {x : List Int} (ok : OkMZ m) (hx : OkIn m x) : 1 ≤ addZ m x ∧ addZ m x ≤ 4015 ∧ (m.l : Int) ≤ addZ m x := by
 obtain ⟨h1, h2⟩ := sumL_in hx.2;have e := hx.1;have := ok.l1;have := ok.l15;have := ok.r4
 have hR : m.R ≤ 4 := by show m.regs.toNat ≤ 4; omega
 show 1 ≤ (m.l : Int) + sumL x ∧ (m.l : Int) + sumL x ≤ 4015 ∧ (m.l : Int) ≤ (m.l : Int) + sumL x;rw [e] at h2;omega
section
variable {m : MZ} {x : List Int}
theorem sz_here (ok : OkMZ m) {i : Nat} (hi : i < m.l) : SzU m.V 2 2 1 (Af m i) := by
 have a := (BM ok.V6).1;have b := AN (V := m.V) (i := 3 + i) (by show 3 + i < 3 + m.l + 2 * m.R; omega);unfold Af;rw [BC a];exact (a.mul b).mono (by omega) (by decide) (by omega)
theorem DG (ok : OkMZ m) (c : IZ → Bool) : SzU m.V 1 15 16 (Ag m.V c 0 m.code (conU m.V 0)) := (hsSum0_sz c).mono (by omega) ok.l15 (by have := ok.l15; omega)
theorem sz_does (ok : OkMZ m) (op : Int) (j : Nat) : SzU m.V 2 30 16 (BA m op j) := by
 have a := (BM ok.V6).1;have b := DG ok (fun x => decide (x.op = op) && decide (x.rg = j));unfold BA;rw [BC a];exact (a.mul b).mono (by omega) (by decide) (by omega)
theorem sz_L (ok : OkMZ m) {j : Nat} (hj : j < m.R) : SzU m.V 3 5 4 (hsL m j) ∧ SzU m.V 3 4 3 (Av (conU m.V 1) [varU m.V (3 + m.l + m.R + j), Bi m.V]) := by
 have a := AN (V := m.V) (i := 3 + m.l + j) (by show 3 + m.l + j < 3 + m.l + 2 * m.R; omega);have b := AN (V := m.V) (i := 3 + m.l + m.R + j) (by show 3 + m.l + m.R + j < 3 + m.l + 2 * m.R; omega);have c := (Co ok.V6).1
 have d : SzU m.V 3 4 3 (Av (conU m.V 1) [varU m.V (3 + m.l + m.R + j), Bi m.V]) := by
  rw [BC b]; exact (b.mul c).mono (by omega) (by decide) (by omega)
 refine ⟨?_, d⟩;unfold hsL;rw [CC a d];exact (a.add d).mono (by omega) (by decide) (by omega)
theorem getD_in (hx : OkIn m x) (j : Nat) : 0 ≤ x.getD j 0 ∧ x.getD j 0 ≤ 1000 := by
 rw [List.getD_eq_getElem?_getD]
 cases h : x[j]? with
 | none => simp
 | some n => exact hx.2 n (List.mem_of_getElem? h)
theorem sz_R0 (ok : OkMZ m) (hx : OkIn m x) {j : Nat} (hj : j < m.R) : SzU m.V 2 3000 48 (hsR0 m x j) ∧ CQ m.V [] [conU m.V (x.getD j 0), Av (conU m.V 1) [hsQ m.V, varU m.V (3 + m.l + j)], BA m 0 j] = true ∧ SzU m.V 2 2 1 (Av (conU m.V 1) [hsQ m.V, varU m.V (3 + m.l + j)]) := by
 have hb := getD_in hx j;have a := (SzU.con m.V (x.getD j 0)).mono (d' := 2) (c' := 1000) (n' := 16) (by omega) (by omega) (by omega);have q := (BM ok.V6).1;have v := AN (V := m.V) (i := 3 + m.l + j) (by show 3 + m.l + j < 3 + m.l + 2 * m.R; omega)
 have b : SzU m.V 2 2 1 (Av (conU m.V 1) [hsQ m.V, varU m.V (3 + m.l + j)]) := by
  rw [BC q]; exact (q.mul v).mono (by omega) (by decide) (by omega)
 have d := sz_does ok 0 j
 obtain ⟨k1, k2⟩ := okSums_sz (V := m.V) (d := 2) (cp := 1000) (np := 16) (by omega) [conU m.V (x.getD j 0), Av (conU m.V 1) [hsQ m.V, varU m.V (3 + m.l + j)], BA m 0 j] ((SzU.nil m.V).mono (d' := 2) (c' := 0) (n' := 0) (by omega) (by omega) (by omega)) (fun p hp => by
  simp only [List.mem_cons, List.not_mem_nil, or_false] at hp;rcases hp with rfl | rfl | rfl
  ·exact a
  ·exact b.mono (by omega) (by omega) (by omega)
  ·exact d.mono (by omega) (by omega) (by omega)) (by simp only [List.length_cons, List.length_nil]; omega) (by simp only [List.length_cons, List.length_nil]; omega)
 exact ⟨k2.mono (by omega) (by simp only [List.length_cons, List.length_nil]; omega) (by simp only [List.length_cons, List.length_nil]; omega), k1, b⟩
def SmLk (V : Nat) (s : LkU) : Prop := BQ s.1 ≠ 0 ∧ (s.2.length : Int) = BQ s.1 ∧ ∀ p ∈ s.2, SzU V 4 10000 200 p
theorem SmLk.of {V : Nat} {kind : Int} {ls : List (List UT)} (h1 : BQ kind ≠ 0) (h2 : (ls.length : Int) = BQ kind) (h : ∀ p ∈ ls, SzU V 4 10000 200 p) : SmLk V (kind, ls) := ⟨h1, h2, h⟩
theorem SzU.big {V d c n : Nat} {p : List UT} (h : SzU V d c n p) (h1 : d ≤ 4) (h2 : c ≤ 10000) (h3 : n ≤ 200) : SzU V 4 10000 200 p := h.mono h1 h2 h3
theorem Cz (ok : OkMZ m) (hx : OkIn m x) : ∀ s ∈ hsK m x, SmLk m.V s := by
 obtain ⟨s1, s2, s3⟩ := addZ_b ok hx;have hV6 := ok.V6;have v := fun (i : Nat) (hi : i < m.V) => (AN (V := m.V) hi).big (by omega) (by omega) (by omega);have q := (BM hV6).1;have al := (Co hV6).1;have hVe : m.V = 3 + m.l + 2 * m.R := rfl
 have sadd : ∀ k : Int, 0 ≤ k → k ≤ 5000 → SzU m.V 4 10000 200 (Al [] [varU m.V 0, conU m.V k]) := fun k k0 k1 => by
  have a := AN (V := m.V) (i := 0) (by omega);have b := SzU.con m.V k;rw [CC a b];exact (a.add b).big (by omega) (by omega) (by omega)
 intro l hl;simp only [hsK, List.mem_append, List.mem_map, List.mem_flatMap, List.mem_range] at hl;rcases hl with ((((hl | ⟨i, hi, rfl⟩) | hl) | ⟨j, hj, rfl⟩) | ⟨i, hi, hl⟩) | ⟨j, hj, rfl⟩
 ·simp only [hsA, List.mem_cons, List.not_mem_nil, or_false] at hl;rcases hl with rfl | rfl | rfl
  ·refine SmLk.of (by decide) rfl ?_;simp only [List.forall_mem_cons];exact ⟨(SzU.con m.V 2).big (by omega) (by decide) (by omega), sadd _ (by omega) (by omega), v 1 (by omega), by simp⟩
  ·refine SmLk.of (by decide) rfl ?_;simp only [List.forall_mem_cons];exact ⟨q.big (by omega) (by omega) (by omega), sadd 1 (by omega) (by omega), al.big (by omega) (by omega) (by omega), by simp⟩
  ·refine SmLk.of (by decide) rfl ?_;simp only [List.forall_mem_cons];exact ⟨((AN (V := m.V) (i := 2) (by omega)).sub (DG ok _)).big (by omega) (by omega) (by omega), by simp⟩
 ·unfold hsB;refine SmLk.of (by decide) rfl ?_;simp only [List.forall_mem_cons];exact ⟨v _ (by omega), v 2 (by omega), by simp⟩
 ·simp only [hsC, List.mem_cons, List.not_mem_nil, or_false] at hl;rcases hl with rfl | rfl
  ·refine SmLk.of (by decide) rfl ?_;simp only [List.forall_mem_cons];exact ⟨(SzU.con m.V 1).big (by omega) (by decide) (by omega), v 3 (by omega), by simp⟩
  ·refine SmLk.of (by decide) rfl ?_;simp only [List.forall_mem_cons];exact ⟨q.big (by omega) (by omega) (by omega), v 0 (by omega), (DG ok _).big (by omega) (by omega) (by omega), by simp⟩
 ·unfold hsD;refine SmLk.of (by decide) rfl ?_;simp only [List.forall_mem_cons];have a := (AN (V := m.V) (i := 1) (by omega)).sub (SzU.con m.V 1);refine ⟨v _ (by omega), ?_, by simp⟩;rw [BC a];exact (a.mul (AN (V := m.V) (i := 2) (by omega))).big (by omega) (by decide) (by omega)
 ·have hh := (sz_here ok hi).big (by omega) (by omega) (by omega);unfold hsGo at hl;split at hl
  ·simp at hl
  ·rename_i h3;rcases ok.ins i hi with k | ⟨⟨a1, a2⟩, ⟨b1, b2⟩, k⟩
   ·rw [k] at h3; exact absurd rfl h3
   have hR : ((m.R : Nat) : Int) = m.regs := by have := ok.r1; show ((m.regs.toNat : Nat) : Int) = _; omega
   split at hl
   ·rename_i h2
    have hz : 0 ≤ (m.at i).zr ∧ (m.at i).zr < m.l := by
     rcases k with k | k
     ·exact ⟨k.2.1, k.2.2.1⟩
     ·omega
    simp only [List.mem_cons, List.not_mem_nil, or_false] at hl;have vn := AN (V := m.V) (i := 3 + (m.at i).nx.toNat) (by omega);have vz := AN (V := m.V) (i := 3 + (m.at i).zr.toNat) (by omega);have vr := AN (V := m.V) (i := 3 + m.l + (m.at i).rg.toNat) (by omega);have v2 := AN (V := m.V) (i := 2) (by omega);rcases hl with rfl | rfl
    ·refine SmLk.of (by decide) rfl ?_;simp only [List.forall_mem_cons];refine ⟨hh, ?_, by simp⟩;rw [CC vn vz];exact (vn.add vz).big (by omega) (by omega) (by omega)
    ·refine SmLk.of (by decide) rfl ?_;simp only [List.forall_mem_cons];refine ⟨hh, ?_, by simp⟩;have e1 := q.mul v2;have e2 := (SzU.con m.V 2).mul vr;unfold Cs;rw [BC q, BC (SzU.con m.V 2), CC vn e1];exact ((vn.add e1).sub e2).big (by omega) (by decide) (by omega)
   ·simp only [List.mem_cons, List.not_mem_nil, or_false] at hl;subst hl;refine SmLk.of (by decide) rfl ?_;simp only [List.forall_mem_cons];exact ⟨hh, v _ (by omega), by simp⟩
 ·unfold hsF;refine SmLk.of (by decide) rfl ?_;simp only [List.forall_mem_cons];exact ⟨((sz_L ok hj).1.sub ((sz_R0 ok hx hj).1.sub (sz_does ok 1 j))).big (by omega) (by omega) (by omega), by simp⟩
theorem SmLk.ok {V : Nat} (hV : V ≤ 32) {s : LkU} (h : SmLk V s) : OkL V (A7 V s.1 s.2) ∧ WL (A7 V s.1 s.2) := by
 have := linkU_sz hV (by omega) (by decide) (by omega) h.1 h.2.1 h.2.2;exact ⟨this.1, this.2.1⟩
theorem hsS_w (ok : OkMZ m) (hx : OkIn m x) : WS (hsS m x) := fun l hl => by
 obtain ⟨s, hs, rfl⟩ := List.mem_map.1 hl;exact ((Cz ok hx s hs).ok (by have := ok.V32; omega)).2
end
end Go.AL
/- The program's polynomials and the reference's are the same. Plain. -/
namespace Go.AL
theorem Cd (k : Int) (p q : List UT) (e : List Int) : cfU (Bm k p q) e = cfU p e + cfU q e * k := by
 unfold Bm;rw [BZ];congr 1
 induction q with
 | nil => simp [cfU]
 | cons u q ih =>
  simp only [List.map_cons, cfU];rw [ih, Int.add_mul];congr 1;split
  ·rfl
  ·simp
theorem cfU_addL (p q : List UT) (e : List Int) : cfU (addL p q) e = cfU p e + cfU q e := by
 unfold addL; rw [BX, Cd]; omega
theorem cfU_subL (p q : List UT) (e : List Int) : cfU (subL p q) e = cfU p e - cfU q e := by
 unfold subL; rw [BX, Cd]; omega
def subE (a b : List Int) : List Int := List.zipWith (fun x y => x - y) a b
theorem addE_iff : ∀ {t u e : List Int}, t.length = u.length → (addE t u = e ↔ e.length = t.length ∧ u = subE e t)
 | [], [], e, _ => by
  cases e with
  | nil => simp [addE, subE]
  | cons _ _ => simp [addE]
 | x :: t, y :: u, e, h => by
  cases e with
  | nil => simp [addE]
  | cons z e =>
   have ih := addE_iff (t := t) (u := u) (e := e) (by simpa using h);unfold addE subE at ih ⊢;simp only [List.zipWith_cons_cons, List.cons.injEq, List.length_cons, ih];constructor
   ·rintro ⟨h1, h2, h3⟩; exact ⟨by omega, by omega, h3⟩
   ·rintro ⟨h1, h2, h3⟩; exact ⟨by omega, by omega, h3⟩
theorem cfU_shift {V : Nat} (t : UT) (e : List Int) (ht : t.2.length = V) : ∀ {q : List UT}, (∀ u ∈ q, u.2.length = V) → cfU (q.map fun u => (t.1 * u.1, addE t.2 u.2)) e = if e.length = V then t.1 * cfU q (subE e t.2) else 0
 | [], _ => by simp [cfU]
 | u :: q, h => by
  have ih := cfU_shift t e ht (q := q) fun v hv => h v (by simp [hv]);have hu := h u (by simp);simp only [List.map_cons, cfU];rw [ih];have hi := addE_iff (t := t.2) (u := u.2) (e := e) (by omega);by_cases he : e.length = V
  ·rw [if_pos he, if_pos he, Int.mul_add];congr 1;by_cases hq : u.2 = subE e t.2
   ·rw [if_pos (hi.2 ⟨by omega, hq⟩), if_pos hq]
   ·rw [if_neg fun k => hq (hi.1 k).2, if_neg hq]; simp
  ·rw [if_neg he, if_neg he, if_neg fun k => he (by have := (hi.1 k).1; omega)]; rfl
theorem cfU_mul_congr {V : Nat} {p q q' : List UT} (hp : ∀ u ∈ p, u.2.length = V) (hq : ∀ u ∈ q, u.2.length = V) (hq' : ∀ u ∈ q', u.2.length = V) {k k' : Int} {a : List UT} (ha : ∀ u ∈ a, u.2.length = V) (h : ∀ e, cfU q e = cfU q' e * k + cfU a e * k') (e : List Int) : cfU (Bh p q) e = cfU (Bh p q') e * k + cfU (Bh p a) e * k' := by
 unfold Bh
 induction p with
 | nil => simp [cfU]
 | cons t p ih =>
  have ih := ih fun u hu => hp u (by simp [hu]);have ht := hp t (by simp);simp only [List.flatMap_cons, BZ];rw [ih, cfU_shift t e ht hq, cfU_shift t e ht hq', cfU_shift t e ht ha];split
  ·rw [h]; grind
  ·grind
theorem mulL2_add {V d c n d' c' n' d2 c2 n2 : Nat} {p a b : List UT} (hp : SzU V d c n p) (ha : SzU V d' c' n' a) (hb : SzU V d2 c2 n2 b) : An p (addL a b) = addL (An p a) (An p b) := by
 refine Cb fun e => ?_;rw [Cd];unfold An;rw [BX, BX];have := cfU_mul_congr (q := addL a b) (q' := a) (a := b) (k := 1) (k' := 1) hp.len (ha.add hb).len ha.len hb.len (fun e => by rw [cfU_addL]; omega) e;rw [this]; omega
theorem mulL2_sub {V d c n d' c' n' d2 c2 n2 : Nat} {p a b : List UT} (hp : SzU V d c n p) (ha : SzU V d' c' n' a) (hb : SzU V d2 c2 n2 b) : An p (subL a b) = subL (An p a) (An p b) := by
 refine Cb fun e => ?_;rw [Cd];unfold An;rw [BX, BX];have := cfU_mul_congr (q := subL a b) (q' := a) (a := b) (k := 1) (k' := -1) hp.len (ha.sub hb).len ha.len hb.len (fun e => by rw [cfU_subL]; omega) e;rw [this]; omega
theorem add_sub_L (a b c : List UT) : addL a (subL b c) = subL (addL a b) c := Cb fun e => by
 rw [Cd, Cd, cfU_subL, cfU_addL]; omega
theorem add_assoc_L (a b c : List UT) : addL a (addL b c) = addL (addL a b) c := Cb fun e => by
 rw [Cd, Cd, cfU_addL, cfU_addL]; omega
section
variable {m : MZ} {x : List Int}
theorem jmp_ref (ok : OkMZ m) {y : IZ} (hn : y.nx.toNat < m.l) (hr : y.rg.toNat < m.R) : Cs m y = addL (varU m.V (3 + y.nx.toNat)) (subL (An (An (conU m.V 2) (varU m.V 1)) (varU m.V 2)) (An (conU m.V 2) (varU m.V (3 + m.l + y.rg.toNat)))) := by
 have hVe : m.V = 3 + m.l + 2 * m.R := rfl;have q := (BM ok.V6).1;have vn := AN (V := m.V) (i := 3 + y.nx.toNat) (by omega);have v2 := AN (V := m.V) (i := 2) (by have := ok.V6; omega);have e1 := q.mul v2;rw [add_sub_L];unfold Cs;rw [BC q, BC (SzU.con m.V 2), CC vn e1];unfold hsQ;rw [BC (SzU.con m.V 2)]
theorem sums3 {V d c n d' c' n' d2 c2 n2 : Nat} {p q r : List UT} (hp : SzU V d c n p) (_ : SzU V d' c' n' q) (_ : SzU V d2 c2 n2 r) : Al [] [p, q, r] = addL (addL p q) r := by
 show addL (addL (addL [] p) q) r = _;rw [add_nil_l hp.can]
theorem right_ref (ok : OkMZ m) (hx : OkIn m x) {j : Nat} (hj : j < m.R) : subL (hsR0 m x j) (BA m 1 j) = addL (conU m.V (x.getD j 0)) (An (An (conU m.V 2) (varU m.V 1)) (addL (varU m.V (3 + m.l + j)) (subL (Ag m.V (fun x => decide (x.op = 0) && decide (x.rg = j)) 0 m.code (conU m.V 0)) (Ag m.V (fun x => decide (x.op = 1) && decide (x.rg = j)) 0 m.code (conU m.V 0))))) := by
 have hVe : m.V = 3 + m.l + 2 * m.R := rfl;have q := (BM ok.V6).1;have v := AN (V := m.V) (i := 3 + m.l + j) (by omega);have s0 := DG ok (fun x => decide (x.op = 0) && decide (x.rg = j));have s1 := DG ok (fun x => decide (x.op = 1) && decide (x.rg = j))
 have hq : An (conU m.V 2) (varU m.V 1) = hsQ m.V := by
  unfold hsQ; rw [BC (SzU.con m.V 2)]
 rw [hq, mulL2_add q v (s0.sub s1), mulL2_sub q s0 s1, add_sub_L (An (hsQ m.V) (varU m.V (3 + m.l + j))), add_sub_L, add_assoc_L];unfold hsR0 BA;rw [BC q, BC q, BC q, sums3 (SzU.con m.V _) (q.mul v) (q.mul s0)]
end
end Go.AL
/- Instructions compared; pointers to elements of rows that are looked at. -/
namespace Go.AL
section
variable {P : Program} {tab : Tab} {n : Nat} {s : St}
variable {ops : Array Oper} {draw : Dr} {o : Oper} {l : List Oper} {acc : List Eff} {K : Exit → St → Prop}
theorem OpJ.ncR (hd : ∀ d, o.dst = some d → d < n) {x : Operand} (hop : o.op = .nilCheck x) {b i : Nat} (hx : opd s x = .rptr b i) : OpJ P n o s ⟨.rptr b i, [], [], [], []⟩ := by
 refine AP hd fun C s' a w h β ho _ k => ?_;have hxr := AH k x;rw [ho x (by simp [hop, Op.operands]), hx] at hxr;have hx' := hxr;simp only [Rep] at hxr;obtain ⟨g, n', c, e1, e2⟩ := hxr;exact ⟨a.eval x, by simp only [execOp, hop, e2, Sem.run_pure], hx'⟩
theorem Fl.ncR [f : Facts P tab] {x : Operand} (hop : o.op = .nilCheck x) {b i : Nat} (hx : opd s x = .rptr b i) (hg : gOk ops s o = true) (hd : dOk n o.dst = true)
  (r : Fl P n ops draw l ((Eff.mk (.rptr b i) [] [] [] []).app o.dst s) (Eff.mk (.rptr b i) [] [] [] [] :: acc) K) : Fl P n ops draw (o :: l) s acc K :=
 Ad hg (OpJ.ncR (AZ hd) hop hx) r
end
end Go.AL
namespace Go.Proofs.YtmmfloplhopioaaGreat
open Go.AL
theorem insEq_run (w : World) (a b c d a' b' c' d' : Int) : (binOp .eql 77 (.agg #[.int .i64 a, .int .i64 b, .int .i64 c, .int .i64 d]) (.agg #[.int .i64 a', .int .i64 b', .int .i64 c', .int .i64 d'])).run Tryz.prog w = .ok (.bool (decide (a = a' ∧ b = b' ∧ c = c' ∧ d = d'))) w := by
 have e : (Tryz.prog.fieldsOf 77).toList = [{ name := "Op", type := 3, offset := 0, embedded := false, tag := "", pkgPath := "", byteOffset := 0 }, { name := "Reg", type := 3, offset := 1, embedded := false, tag := "", pkgPath := "", byteOffset := 8 }, { name := "Next", type := 3, offset := 2, embedded := false, tag := "", pkgPath := "", byteOffset := 16 }, { name := "Zero", type := 3, offset := 3, embedded := false, tag := "", pkgPath := "", byteOffset := 24 }] := by kernel_rfl
 have p0 : ∀ a b c d : Int, (part 3 #[.int .i64 a, .int .i64 b, .int .i64 c, .int .i64 d] 0).run Tryz.prog w = .ok (.int .i64 a) w := fun a b c d => by kernel_rfl
 have p1 : ∀ a b c d : Int, (part 3 #[.int .i64 a, .int .i64 b, .int .i64 c, .int .i64 d] 1).run Tryz.prog w = .ok (.int .i64 b) w := fun a b c d => by kernel_rfl
 have p2 : ∀ a b c d : Int, (part 3 #[.int .i64 a, .int .i64 b, .int .i64 c, .int .i64 d] 2).run Tryz.prog w = .ok (.int .i64 c) w := fun a b c d => by kernel_rfl
 have p3 : ∀ a b c d : Int, (part 3 #[.int .i64 a, .int .i64 b, .int .i64 c, .int .i64 d] 3).run Tryz.prog w = .ok (.int .i64 d) w := fun a b c d => by kernel_rfl
 have u : Tryz.prog.underlying 3 = some (.int .i64) := by kernel_rfl
 have q : ∀ a b : Int, (Op.equalIn 9999 3 (.int .i64 a) (.int .i64 b)).run Tryz.prog w = .ok (a == b) w := fun a b => run_equalIn_int w 9998 _ .i64 .i64 a b u;rw [run_eql_struct, run_equalIn_agg w 9999 _ _ _ (by kernel_rfl) (by kernel_rfl), e];simp only [Op.eqFields, if_pos (show "Op" ≠ "_" by decide), if_pos (show "Reg" ≠ "_" by decide), if_pos (show "Next" ≠ "_" by decide), if_pos (show "Zero" ≠ "_" by decide), Sem.run_bind, Sem.run_ite, Sem.run_pure, p0, p1, p2, p3, q, Result.andThen_ok];by_cases h0 : a = a'
 ·by_cases h1 : b = b'
  ·by_cases h2 : c = c'
   ·by_cases h3 : d = d'
    ·simp [h0, h1, h2, h3]
    ·simp [h0, h1, h2, h3]
   ·simp [h0, h1, h2]
  ·simp [h0, h1]
 ·simp [h0]
theorem insNe_run (w : World) (a b c d a' b' c' d' : Int) : (binOp .neq 77 (.agg #[.int .i64 a, .int .i64 b, .int .i64 c, .int .i64 d]) (.agg #[.int .i64 a', .int .i64 b', .int .i64 c', .int .i64 d'])).run Tryz.prog w = .ok (.bool (!decide (a = a' ∧ b = b' ∧ c = c' ∧ d = d'))) w := by
 have h := insEq_run w a b c d a' b' c' d';rw [run_eql_struct] at h;rw [run_neq_struct];generalize (Op.equalIn 10000 77 (.agg #[.int .i64 a, .int .i64 b, .int .i64 c, .int .i64 d]) (.agg #[.int .i64 a', .int .i64 b', .int .i64 c', .int .i64 d'])).run Tryz.prog w = r at h ⊢
 cases r with
 | ok b w' =>
  simp only [Result.andThen_ok] at h ⊢;injection h with h1 h2;injection h1 with h1;rw [h1, h2]
 | halt x w' => simp [Result.andThen] at h
end Go.Proofs.YtmmfloplhopioaaGreat
/- register.Valid, Input. -/
namespace Go.AL
def eIz : IZ → List AV := fun x => [aN x.op, aN x.rg, aN x.nx, aN x.zr]
abbrev aIz (x : IZ) : AV := .agg [aN x.op, aN x.rg, aN x.nx, aN x.zr]
abbrev eMz (m : MZ) : List AV := [aN m.regs, .sl 4 eIz m.code]
abbrev aMz (m : MZ) : AV := .agg [aN m.regs, .sl 4 eIz m.code]
theorem dec_of {p q : Prop} [Decidable p] {b : Bool} (hb : b = true ↔ q) (h : p ↔ q) : decide p = b := by
 cases b with
 | true => exact decide_eq_true (h.2 (hb.1 rfl))
 | false => exact decide_eq_false fun k => by have := hb.2 (h.1 k); cases this
theorem okIns_iff (m : MZ) (i : Nat) (x : IZ) : okIns m i x ↔ ((x.op = 3 ∧ x.rg = 0 ∧ x.nx = 0 ∧ x.zr = 0) ∨ ((0 ≤ x.rg ∧ x.rg < m.regs) ∧ (0 ≤ x.nx ∧ x.nx < m.code.length) ∧ ((x.op = 2 ∧ 0 ≤ x.zr ∧ x.zr < m.code.length ∧ x.nx ≠ i) ∨ ((x.op = 0 ∨ x.op = 1) ∧ x.zr = 0)))) := by
 unfold okIns
 have : x = haltZ ↔ (x.op = 3 ∧ x.rg = 0 ∧ x.nx = 0 ∧ x.zr = 0) := by
  obtain ⟨a, b, c, d⟩ := x;unfold haltZ;constructor
  ·intro h; injection h with h1 h2 h3 h4; exact ⟨h1, h2, h3, h4⟩
  ·rintro ⟨h1, h2, h3, h4⟩;simp only at h1 h2 h3 h4;rw [h1, h2, h3, h4]
 rw [this]
theorem MZ.at_get {m : MZ} {i : Nat} {x : IZ} (h : m.code[i]? = some x) : m.at i = x := by
 unfold MZ.at;rw [List.getD_eq_getElem?_getD, h]; rfl
theorem MZ.get_at {m : MZ} {i : Nat} (h : i < m.l) : m.code[i]? = some (m.at i) := by
 unfold MZ.at;rw [List.getD_eq_getElem?_getD, List.getElem?_eq_getElem h]; rfl
end Go.AL
namespace Go.Proofs.YtmmfloplhopioaaGreat
open Go.AL
abbrev mB (m : MZ) : List (AL.Id × Bx) := [(900, .cells (eMz m) 24)]
theorem goes1_ok (m : MZ) (t : Int) : IoFn Tryz.prog 166 ([aN t] ++ [.ptr 900 0]) (mB m) (.ret (aB (decide (0 ≤ t ∧ t < m.code.length)))) (mB m) := by
 refine AG Tryz.func166 rfl Tryz.ntmps166 rfl rfl rfl ?_;(repeat' (first |refine qv ?_ |apply qn |apply qs |apply qr |refine Fl.skip rfl rfl ?_ |apply qt |(refine AJ rfl rfl ?_ ?_ <;> intro _ <;> try (exfalso; omega))))
 all_goals refine ⟨⟨[], _, _, AK _ _ _, rfl, AV.Le.bool ?_, rfl, ⟨⟨⟨_, rfl, BLe.cells (AB _)⟩, rfl⟩, trivial⟩, rfl, rfl⟩⟩
 ·exact decide_eq_decide.2 (by omega)
 ·exact (decide_eq_false (by omega)).symm
set_option maxHeartbeats 4000000 in
theorem rgInsn_ok (m : MZ) (i : Nat) (x : IZ) (b : Bool) (hb : b = true ↔ okIns m i x) : PureFn Tryz.prog 114 [aMz m, aN i, aIz x] (aB b) := by
 refine AC Tryz.func114 rfl Tryz.ntmps114 rfl rfl ?_;rw [okIns_iff] at hb;have fin0 : ∀ {p : Prop} [Decidable p], (p ↔ _) → decide p = b := fun h => dec_of hb h;(repeat' (first |refine qv ?_ |apply qn |apply qs |apply qr |refine qe ?_ |refine Fl.skip rfl rfl ?_ |(refine AD rfl ?_ ?_ <;> intro _ <;> try (exfalso; omega)) |apply qb |apply qk |apply qt |(refine AJ rfl rfl ?_ ?_ <;> intro _ <;> try (exfalso; omega))))
 all_goals (try (refine Dl rfl rfl [(900, 3)] (goes1_ok m _) rfl rfl (AB _) rfl ⟨⟨⟨_, rfl, BLe.cells (AB _)⟩, rfl⟩, trivial⟩ rfl rfl rfl rfl rfl ?_))
 all_goals repeat' (first |refine qv ?_ |apply qn |refine Fl.skip rfl rfl ?_ |apply qt |(refine AJ rfl rfl ?_ ?_ <;> intro _ <;> try (exfalso; omega)))
 all_goals (try (refine Dl rfl rfl [(900, 3)] (goes1_ok m _) rfl rfl (AB _) rfl ⟨⟨⟨_, rfl, BLe.cells (AB _)⟩, rfl⟩, trivial⟩ rfl rfl rfl rfl rfl ?_))
 all_goals repeat' (first |refine qv ?_ |apply qn |refine Fl.skip rfl rfl ?_ |apply qt |(refine AJ rfl rfl ?_ ?_ <;> intro _ <;> try (exfalso; omega)))
 all_goals (try (refine Fl.eqV rfl rfl rfl rfl rfl _ rfl rfl (fun w => by kernel_rfl) (fun w => insEq_run w _ _ _ _ _ _ _ _) ?_))
 all_goals repeat' (first |refine qv ?_ |apply qn |apply qt)
 all_goals refine RetOk.of rfl (AV.Le.bool ?_)
 all_goals first
  | exact (hb.2 (by omega)).symm
  | exact (Bool.eq_false_iff.2 fun h => by have := hb.1 h; omega).symm
  | exact fin0 (by omega)
  | (rw [← decide_not]; exact fin0 (by omega))
theorem Db (m : MZ) (hl : m.code.length ≤ 100000) (b : Bool) (hb : b = true ↔ OkMZ m) : PureFn Tryz.prog 48 [aMz m] (aB b) := by
 refine AC Tryz.func48 rfl Tryz.ntmps48 rfl rfl ?_
 have hfalse : ¬ OkMZ m → false = b := fun h => by cases b with | false => rfl | true => exact absurd (hb.1 rfl) h
 refine AE ?_;(repeat' (first |refine qv ?_ |apply qn |apply qr |refine qe ?_|fail));refine ⟨AE ?_⟩;(repeat' (first |refine qv ?_ |apply qn |apply qs |apply qr |refine Fl.skip rfl rfl ?_ |refine AM rfl ?_ |(refine AD rfl ?_ ?_ <;> intro _ <;> try (exfalso; omega)) |apply qk |apply qt |(refine AJ rfl rfl ?_ ?_ <;> intro _ <;> try (exfalso; omega))))
 any_goals exact RetOk.of rfl (AV.Le.bool (hfalse fun k => by
  have k1 := k.r1;have k2 := k.r4;have k3 : 1 ≤ m.code.length := k.l1;have k4 : m.code.length ≤ 15 := k.l15
  omega))
 refine ⟨AE ?_⟩;(repeat' (first |refine qv ?_ |apply qn |apply qs |apply qr |apply qb));refine AWP.loop (G := Nat) (fun i => i ≤ m.code.length ∧ ∀ j, j < i → okIns m j (m.at j)) (fun i => AO [] [(1, .ptr 1 0), (26, .sl 4 eIz m.code), (27, aN m.code.length), (28, aN i)] [(1, .cells (eMz m) 24)]) (fun i => m.code.length - i) 0 ⟨by omega, fun j hj => by omega⟩ ?_ ?_
 ·refine Ent.of [] ?_ ?_ rfl rfl;(repeat' (first |exact True.intro |refine ⟨⟨AA _, rfl⟩, ?_⟩ |refine ⟨⟨⟨_, rfl, BLe.cells (AB _)⟩, rfl⟩, ?_⟩|fail))
 ·intro i ⟨k0, k1⟩;(repeat' (first |refine qv ?_ |apply qn |apply qs |apply qr |refine qe ?_ |(refine AD rfl ?_ ?_ <;> intro _ <;> try (exfalso; omega)) |apply qb |apply qk |apply qx |(refine Az rfl rfl rfl rfl rfl rfl rfl rfl (by omega) (by omega) ?_; intro _ _)|fail))
  ·rename_i hi x hx;rw [Int.toNat_natCast] at hx;have hat := MZ.at_get hx;obtain ⟨f, hf⟩ := boolOf (fun _ : Unit => okIns m i x);refine qc (rgInsn_ok m i x (f ()) (hf ())) ?_;(repeat' (first |refine qv ?_ |apply qn |apply qs |apply qr |refine qw ?_ |apply qk |apply qt |(refine BF rfl ?_ ?_ <;> intro _)))
   ·rename_i hff;refine RetOk.of rfl (AV.Le.bool (hfalse fun k => ?_));have h := (hf ()).2 (hat ▸ k.ins i (by show i < m.code.length; omega));rw [h] at hff
    cases hff
   ·rename_i hff
    have hff' : f () = true := by cases h : f () with | true => rfl | false => rw [h] at hff; cases hff
    refine LoopEnd.of (i + 1) ⟨by omega, fun j hj => ?_⟩ (by omega) ?_
    ·rcases (show j < i ∨ j = i by omega) with h | h
     ·exact k1 j h
     ·rw [h, hat]; exact (hf ()).1 hff'
    ·refine Ent.of [] ?_ ?_ rfl rfl;(repeat' (first |exact True.intro |refine ⟨⟨AA _, rfl⟩, ?_⟩ |refine ⟨⟨⟨_, rfl, BLe.cells (AB _)⟩, rfl⟩, ?_⟩|fail))
  ·rename_i hi;refine ⟨?_⟩;(repeat' (first |refine qv ?_ |apply qn |apply qs |apply qr |apply qt));refine RetOk.of rfl (AV.Le.bool ?_);exact (hb.2 ⟨by omega, by omega, by show 1 ≤ m.code.length; omega, by show m.code.length ≤ 15; omega, fun j hj => k1 j (by have : j < m.code.length := hj; omega)⟩).symm
end Go.Proofs.YtmmfloplhopioaaGreat
/- mask.Witness. -/
namespace Go.AL
section
variable {P : Program} {tab : Tab} {n : Nat} {s : St}
variable {ops : Array Oper} {draw : Dr} {o : Oper} {l : List Oper} {acc : List Eff} {K : Exit → St → Prop}
theorem Fl.rldK [f : Facts P tab] {t : TypeId} {x : Operand} (hop : o.op = .load t x) {b : Id} {off : Nat} (hx : opd s x = .rptr b off) {α : Type} {sz : Nat} {enc : α → List AV} {xs : List α} {bt : TypeId} (hb : s.bx b = some (.row sz enc xs bt)) {i : TI} (hti : tab t = some i) (hg : gOk ops s o = true) (hd : dOk n o.dst = true)
  {j : Nat} (hj : off = j * sz) {v : α → AV} (hv : ∀ x0, BD (aggD i.desc) i.size (enc x0) = some (v x0)) (hvc : ∀ x0, (v x0).closed = true) {x0 : α} (he : xs[j]? = some x0)
  (r : Fl P n ops draw l ((Eff.mk (v x0) [] [] [] [b]).app o.dst s) (Eff.mk (v x0) [] [] [] [b] :: acc) K) : Fl P n ops draw (o :: l) s acc K :=
 Ad hg (OpJ.rload f.tabOk (AZ hd) hop hx hb hti hj he (hv _) (hvc _)) r
end
structure MW where
  u : Int
  p : Int
  q : Int
  z : Int
  y : Int
  r : Int
  s : Int
  t : Int
def MW.X (w : MW) (a b : Int) : List Int := [a, b, w.u, w.p, w.q, w.z, w.y, w.r, w.s, w.t]
end Go.AL
namespace Go.Proofs.YtmmfloplhopioaaGreat
open Go.AL
end Go.Proofs.YtmmfloplhopioaaGreat
/- register.Input, Start; the runner. -/
namespace Go.AL
abbrev aSt (a : Int) (rs : List Int) : AV := .agg [aN a, aI rs]
end Go.AL
namespace Go.Proofs.YtmmfloplhopioaaGreat
open Go.AL
theorem indexI_ok (g : FuncId) (f : Int → Bool) (xs : List Int) (hl : xs.length ≤ 1000000) (hf : ∀ v, PureFn Tryz.prog g [aN v] (aB (f v))) : PureFn Tryz.prog 185 [aI xs, .fn g []] (aN (idxI f xs 0)) := by
 refine AC Tryz.func185 rfl Tryz.ntmps185 rfl rfl ?_;(repeat' (first |refine qv ?_ |apply qn |apply qs |apply qr |apply qb));refine AWP.loop (G := Nat) (fun i => i ≤ xs.length ∧ idxI f (xs.drop i) i = idxI f xs 0) (fun i => AO [] [(0, aI xs), (1, .fn g []), (7, aN xs.length), (8, aN i)] []) (fun i => xs.length - i) 0 ⟨by omega, by simp⟩ ?_ ?_
 ·refine Ent.of [] ?_ ?_ rfl rfl;(repeat' (first |exact True.intro |refine ⟨⟨AA _, rfl⟩, ?_⟩|fail))
 ·intro i ⟨k0, k1⟩;(repeat' (first |refine qv ?_ |apply qn |apply qs |apply qr |(refine AD rfl ?_ ?_ <;> intro _ <;> try (exfalso; omega)) |apply qb |apply qk |apply qx |apply qt |(refine Az rfl rfl rfl rfl rfl rfl rfl rfl (by omega) (by omega) ?_; intro _ _)|fail))
  ·rename_i hi p hp;rw [Int.toNat_natCast] at hp;have hd := EJ (f := f) hp;refine Cq rfl rfl (hf p) rfl rfl rfl (AB _) ?_;(repeat' (first |refine qv ?_ |apply qn |apply qs |apply qr |refine qw ?_ |apply qk |apply qt |(refine BF rfl ?_ ?_ <;> intro _)))
   ·rename_i hb;rw [if_pos hb] at hd;refine RetOk.of rfl (AV.Le.int ?_);rw [← k1, hd]
   ·rename_i hb;rw [if_neg (by rw [hb]; simp)] at hd;refine LoopEnd.of (i + 1) ⟨by omega, by rw [← k1, hd]⟩ (by omega) ?_;refine Ent.of [] ?_ ?_ rfl rfl;(repeat' (first |exact True.intro |refine ⟨⟨AA _, rfl⟩, ?_⟩|fail))
  ·refine RetOk.of rfl (AV.Le.int ?_);rw [← k1, List.drop_of_length_le (by omega)]; rfl
theorem containsI_ok (g : FuncId) (f : Int → Bool) (xs : List Int) (hl : xs.length ≤ 1000000) (hf : ∀ v, PureFn Tryz.prog g [aN v] (aB (f v))) : PureFn Tryz.prog 147 [aI xs, .fn g []] (aB (xs.any f)) := by
 refine AC Tryz.func147 rfl Tryz.ntmps147 rfl rfl ?_;have h := indexI_ok g f xs hl hf;have he := EK f xs 0 (by omega);(repeat' (first |refine qv ?_ |apply qn |apply qs |apply qr));refine qc (h) ?_;(repeat' (first |refine qv ?_ |apply qn |apply qt));exact RetOk.of rfl (AV.Le.bool he)
theorem rgInput1_ok (v : Int) : PureFn Tryz.prog 148 [aN v] (aB (decide (v < 0 ∨ 1000 < v))) := by
 refine AC Tryz.func148 rfl Tryz.ntmps148 rfl rfl ?_;(repeat' (first |refine qv ?_ |apply qn |apply qs |apply qr |refine Fl.skip rfl rfl ?_ |apply qt |(refine AJ rfl rfl ?_ ?_ <;> intro _ <;> try (exfalso; omega))))
 all_goals refine RetOk.of rfl (AV.Le.bool ?_)
 all_goals first
  | exact (decide_eq_true (by omega)).symm
  | exact decide_eq_decide.2 (by omega)
theorem rgFits1_ok (v : Int) : PureFn Tryz.prog 149 [aN v] (aB (decide (v < 0 ∨ 1099511627776 < v))) := by
 refine AC Tryz.func149 rfl Tryz.ntmps149 rfl rfl ?_;(repeat' (first |refine qv ?_ |apply qn |apply qs |apply qr |refine Fl.skip rfl rfl ?_ |apply qt |(refine AJ rfl rfl ?_ ?_ <;> intro _ <;> try (exfalso; omega))))
 all_goals refine RetOk.of rfl (AV.Le.bool ?_)
 all_goals first
  | exact (decide_eq_true (by omega)).symm
  | exact decide_eq_decide.2 (by omega)
theorem anyOut {lo hi : Int} {xs : List Int} : (xs.any fun v => decide (v < lo ∨ hi < v)) = false ↔ ∀ v ∈ xs, lo ≤ v ∧ v ≤ hi := by
 rw [List.any_eq_false];refine ⟨fun h v hv => ?_, fun h v hv => ?_⟩
 ·have := h v hv;simp only [decide_eq_true_eq] at this;omega
 ·have := h v hv;simp only [decide_eq_true_eq];omega
theorem rgInput_ok (m : MZ) (x : List Int) (hl : x.length ≤ 100000) (h1 : 0 ≤ m.regs) (b : Bool) (hb : b = true ↔ OkIn m x) : PureFn Tryz.prog 81 [aMz m, aI x] (aB b) := by
 refine AC Tryz.func81 rfl Tryz.ntmps81 rfl rfl ?_;(repeat' (first |refine qv ?_ |apply qn |apply qs |apply qr |refine qe ?_ |refine Fl.skip rfl rfl ?_ |apply qt |(refine AJ rfl rfl ?_ ?_ <;> intro _ <;> try (exfalso; omega))))
 ·rename_i h;refine qc (containsI_ok 148 (fun v => decide (v < 0 ∨ 1000 < v)) x (by omega) rgInput1_ok) ?_;(repeat' (first |refine qv ?_ |apply qn |apply qt));refine RetOk.of rfl (AV.Le.bool ?_)
  cases b with
  | true =>
   have := (hb.1 rfl).2;rw [anyOut.2 this]; rfl
  | false =>
   cases hc : x.any fun v => decide (v < 0 ∨ 1000 < v) with
   | true => rfl
   | false =>
    have := hb.2 ⟨by show x.length = m.regs.toNat; omega, anyOut.1 hc⟩
    cases this
 ·rename_i h;refine RetOk.of rfl (AV.Le.bool ?_)
  cases b with
  | false => rfl
  | true => have : x.length = m.regs.toNat := (hb.1 rfl).1; omega
theorem cloneRowI_ok (l : List Int) (hl : l.length ≤ 100000) (hne : l ≠ []) : IoFn Tryz.prog 82 [aI l] [] (.ret (.row 900)) [(900, .row 1 eI l 3)] := by
 refine AG Tryz.func82 rfl Tryz.ntmps82 rfl rfl rfl ?_;refine AE ?_;(repeat' (first |refine qv ?_ |apply qn |apply qr));refine ⟨AWP.seq (AWP.seq (AWP.nilTest rfl rfl rfl rfl rfl rfl rfl rfl rfl rfl ?_))⟩;intro b hb
 cases b with
 | true => exact absurd (hb rfl) hne
 | false =>
  (repeat' (first |apply qs |apply qr |refine AF rfl ?_ |apply qk));refine Fl.litrow rfl rfl rfl rfl rfl rfl rfl eI [] rfl rfl rfl rfl (by simp) (AB _) ?_;(repeat' (first |refine qv ?_|fail));refine qa (hby := (by dsimp only [List.length_nil]; omega)) (hm := (by simp; omega)) (r := ?_);(repeat' (first |refine qv ?_ |apply qn |apply qt));exact ⟨⟨[(900, 7)], _, _, AK _ _ _, rfl, AA _, rfl, ⟨⟨⟨_, rfl, BLe.row rfl⟩, rfl⟩, trivial⟩, rfl, rfl⟩⟩
abbrev rnB (m : MZ) (a : Int) (rs : List Int) : List (AL.Id × Bx) := [(900, .cells [aN m.regs, .sl 4 eIz m.code, aN a, .row 901] 127), (901, .row 1 eI rs 3)]
theorem rnBegin_ok (m : MZ) (a : Int) (rs : List Int) (hl : rs.length ≤ 100000) (hne : rs ≠ []) : IoFn Tryz.prog 84 [aMz m, aSt a rs] [] (.ret (.ptr 900 0)) (rnB m a rs) := by
 refine AG Tryz.func84 rfl Tryz.ntmps84 rfl rfl rfl ?_;(repeat' (first |refine qv ?_ |apply qn |apply qs |apply qr |refine qe ?_|fail));refine BS rfl [(900, 10)] (cloneRowI_ok rs hl hne) rfl rfl (AB _) rfl trivial rfl rfl rfl rfl rfl ?_;(repeat' (first |refine qv ?_ |refine Fl.nil (fun _ => by kernel_rfl) ?_ |refine qe ?_ |apply qt));exact ⟨⟨[(900, 13), (901, 10)], _, _, AK _ _ _, rfl, AA _, rfl, ⟨⟨⟨_, rfl, BLe.cells (AB _)⟩, rfl⟩, ⟨⟨_, rfl, BLe.row rfl⟩, rfl⟩, trivial⟩, rfl, rfl⟩⟩
theorem rnOver_ok (m : MZ) (a : Nat) (x : IZ) (rs : List Int) (hx : m.code[Int.toNat (a : Int)]? = some x) (hr : x.op ≠ 3 → 0 ≤ x.rg ∧ x.rg < rs.length) (b : Bool) (hb : b = true ↔ x.op = 3 ∨ (x.op = 1 ∧ rs[x.rg.toNat]? = some 0)) : IoFn Tryz.prog 85 [.ptr 900 0] (rnB m a rs) (.ret (aB b)) (rnB m a rs) := by
 refine AG Tryz.func85 rfl Tryz.ntmps85 rfl rfl rfl ?_
 have ha : (a : Int) < m.code.length := by have := (List.getElem?_eq_some_iff.1 hx).1; omega
 by_cases h3 : x.op = 3
 ·rw [hb.2 (.inl h3)];(repeat' (first |refine qv ?_ |apply qn |refine Fl.nil (fun _ => by kernel_rfl) ?_ |apply qs |apply qr |refine qe ?_ |refine Fl.skip rfl rfl ?_ |apply qt |refine qK ?_ |(refine AJ rfl rfl ?_ ?_ <;> intro _ <;> try (exfalso; omega))));exact ⟨⟨[], _, _, AK _ _ _, rfl, AA _, rfl, ⟨⟨⟨_, rfl, BLe.cells (AB _)⟩, rfl⟩, ⟨⟨_, rfl, BLe.row rfl⟩, rfl⟩, trivial⟩, rfl, rfl⟩⟩
 ·obtain ⟨r0, r1⟩ := hr h3;(repeat' (first |refine qv ?_ |apply qn |refine Fl.nil (fun _ => by kernel_rfl) ?_ |apply qs |apply qr |refine qe ?_ |refine Fl.skip rfl rfl ?_ |apply qt |refine qK ?_ |refine BN rfl rfl rfl rfl rfl rfl rfl rfl (by omega) (by first | omega | (simp; omega)) ?_ |(refine Fl.rld rfl rfl rfl rfl rfl rfl rfl (fun _ => rfl) (fun _ => rfl) (by first | omega | (simp; omega)) ?_; intro _ _) |(refine AJ rfl rfl ?_ ?_ <;> intro _ <;> try (exfalso; omega))))
  ·rename_i h1 y hy;refine ⟨⟨[], _, _, AK _ _ _, rfl, AV.Le.bool ?_, rfl, ⟨⟨⟨_, rfl, BLe.cells (AB _)⟩, rfl⟩, ⟨⟨_, rfl, BLe.row rfl⟩, rfl⟩, trivial⟩, rfl, rfl⟩⟩;refine dec_of hb ⟨fun h => .inr ⟨h1, by rw [hy, h]⟩, fun h => ?_⟩;rcases h with h | ⟨_, h⟩
   ·exact absurd h h3
   ·rw [hy] at h; injection h
  ·rename_i h1;refine ⟨⟨[], _, _, AK _ _ _, rfl, AV.Le.bool ?_, rfl, ⟨⟨⟨_, rfl, BLe.cells (AB _)⟩, rfl⟩, ⟨⟨_, rfl, BLe.row rfl⟩, rfl⟩, trivial⟩, rfl, rfl⟩⟩;refine (Bool.eq_false_iff.2 fun h => ?_).symm;rcases hb.1 h with k | k
   ·exact h3 k
   ·exact h1 k.1
theorem rnInc_ok (m : MZ) (a : Nat) (x : IZ) (rs : List Int) (v : Int) (hx : m.code[Int.toNat (a : Int)]? = some x) (ho : x.op = 0) (hr : 0 ≤ x.rg ∧ x.rg < rs.length) (hv : rs[x.rg.toNat]? = some v) (h0 : 0 ≤ v) (h1 : v < 1099511627776) : IoFn Tryz.prog 86 [.ptr 900 0] (rnB m a rs) (.ret (aB true)) (rnB m x.nx (rs.set x.rg.toNat (v + 1))) := by
 refine AG Tryz.func86 rfl Tryz.ntmps86 rfl rfl rfl ?_
 have ha : (a : Int) < m.code.length := by have := (List.getElem?_eq_some_iff.1 hx).1; omega
 obtain ⟨r0, r1⟩ := hr;(repeat' (first |refine qv ?_ |apply qn |refine Fl.nil (fun _ => by kernel_rfl) ?_ |apply qs |apply qr |refine qe ?_ |apply qb |refine qK ?_ |refine BN rfl rfl rfl rfl rfl rfl rfl rfl (by omega) (by first | omega | (simp; omega)) ?_ |(refine AJ rfl rfl ?_ ?_ <;> intro _ <;> try (exfalso; omega))));refine Fl.ncR rfl rfl rfl rfl ?_;refine Fl.rldK rfl rfl rfl rfl rfl rfl rfl (fun _ => rfl) (fun _ => rfl) hv ?_;(repeat' (first |refine qv ?_ |apply qn |apply qs |apply qr |(refine AD rfl ?_ ?_ <;> intro _ <;> try (exfalso; omega))));refine Fl.ncR rfl rfl rfl rfl ?_;refine Fl.rldK rfl rfl rfl rfl rfl rfl rfl (fun _ => rfl) (fun _ => rfl) hv ?_;(repeat' (first |refine qw ?_|fail));refine Fl.ncR rfl rfl rfl rfl ?_;(repeat' (first |refine qv ?_ |apply qn |apply qs |apply qr |refine qe ?_ |apply qt |refine Bd rfl rfl rfl rfl rfl rfl rfl rfl rfl rfl rfl (AB _) rfl (by first | omega | (simp; omega)) ?_|fail));exact ⟨⟨[], _, _, AK _ _ _, rfl, AA _, rfl, ⟨⟨⟨_, rfl, BLe.cells (AB _)⟩, rfl⟩, ⟨⟨_, rfl, BLe.row rfl⟩, rfl⟩, trivial⟩, rfl, rfl⟩⟩
theorem rnDec_ok (m : MZ) (a : Nat) (x : IZ) (rs : List Int) (v : Int) (hx : m.code[Int.toNat (a : Int)]? = some x) (ho : x.op = 1) (hr : 0 ≤ x.rg ∧ x.rg < rs.length) (hv : rs[x.rg.toNat]? = some v) (h0 : 0 ≤ v) (h1 : v < 1099511627776) : IoFn Tryz.prog 86 [.ptr 900 0] (rnB m a rs) (.ret (aB true)) (rnB m x.nx (rs.set x.rg.toNat (v - 1))) := by
 refine AG Tryz.func86 rfl Tryz.ntmps86 rfl rfl rfl ?_
 have ha : (a : Int) < m.code.length := by have := (List.getElem?_eq_some_iff.1 hx).1; omega
 obtain ⟨r0, r1⟩ := hr;(repeat' (first |refine qv ?_ |apply qn |refine Fl.nil (fun _ => by kernel_rfl) ?_ |apply qs |apply qr |refine qe ?_ |refine Fl.skip rfl rfl ?_ |refine AF rfl ?_ |(refine AD rfl ?_ ?_ <;> intro _ <;> try (exfalso; omega)) |apply qb |refine qK ?_ |refine BN rfl rfl rfl rfl rfl rfl rfl rfl (by omega) (by first | omega | (simp; omega)) ?_ |(refine AJ rfl rfl ?_ ?_ <;> intro _ <;> try (exfalso; omega))));refine Fl.ncR rfl rfl rfl rfl ?_;refine Fl.rldK rfl rfl rfl rfl rfl rfl rfl (fun _ => rfl) (fun _ => rfl) hv ?_;(repeat' (first |refine qw ?_|fail));refine Fl.ncR rfl rfl rfl rfl ?_;(repeat' (first |refine qv ?_ |apply qn |apply qs |apply qr |refine qe ?_ |apply qt |refine Bd rfl rfl rfl rfl rfl rfl rfl rfl rfl rfl rfl (AB _) rfl (by first | omega | (simp; omega)) ?_|fail));exact ⟨⟨[], _, _, AK _ _ _, rfl, AA _, rfl, ⟨⟨⟨_, rfl, BLe.cells (AB _)⟩, rfl⟩, ⟨⟨_, rfl, BLe.row rfl⟩, rfl⟩, trivial⟩, rfl, rfl⟩⟩
theorem rnJmp_ok (m : MZ) (a : Nat) (x : IZ) (rs : List Int) (v : Int) (hx : m.code[Int.toNat (a : Int)]? = some x) (ho : x.op = 2) (hr : 0 ≤ x.rg ∧ x.rg < rs.length) (hv : rs[x.rg.toNat]? = some v) (h0 : 0 ≤ v) : IoFn Tryz.prog 86 [.ptr 900 0] (rnB m a rs) (.ret (aB true)) (rnB m (if v = 0 then x.zr else x.nx) rs) := by
 refine AG Tryz.func86 rfl Tryz.ntmps86 rfl rfl rfl ?_
 have ha : (a : Int) < m.code.length := by have := (List.getElem?_eq_some_iff.1 hx).1; omega
 obtain ⟨r0, r1⟩ := hr;(repeat' (first |refine qv ?_ |apply qn |refine Fl.nil (fun _ => by kernel_rfl) ?_ |apply qs |apply qr |refine qe ?_ |refine Fl.skip rfl rfl ?_ |refine AF rfl ?_ |(refine AD rfl ?_ ?_ <;> intro _ <;> try (exfalso; omega)) |apply qb |refine qK ?_ |refine BN rfl rfl rfl rfl rfl rfl rfl rfl (by omega) (by first | omega | (simp; omega)) ?_ |(refine AJ rfl rfl ?_ ?_ <;> intro _ <;> try (exfalso; omega))));refine Fl.ncR rfl rfl rfl rfl ?_;refine Fl.rldK rfl rfl rfl rfl rfl rfl rfl (fun _ => rfl) (fun _ => rfl) hv ?_;(repeat' (first |refine qv ?_ |apply qn |apply qs |apply qr |refine qe ?_ |(refine AD rfl ?_ ?_ <;> intro _ <;> try (exfalso; omega)) |apply qk |apply qt))
 ·rename_i h;rw [if_pos h];exact ⟨⟨[], _, _, AK _ _ _, rfl, AA _, rfl, ⟨⟨⟨_, rfl, BLe.cells (AB _)⟩, rfl⟩, ⟨⟨_, rfl, BLe.row rfl⟩, rfl⟩, trivial⟩, rfl, rfl⟩⟩
 ·rename_i h;rw [if_neg h];exact ⟨⟨[], _, _, AK _ _ _, rfl, AA _, rfl, ⟨⟨⟨_, rfl, BLe.cells (AB _)⟩, rfl⟩, ⟨⟨_, rfl, BLe.row rfl⟩, rfl⟩, trivial⟩, rfl, rfl⟩⟩
end Go.Proofs.YtmmfloplhopioaaGreat

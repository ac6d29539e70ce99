/- Part 5 of a proof layer and of the contracts of the functions. -/
import Derived.Test.YtmmfloplhopioaaGreatW4
set_option linter.unusedVariables false
set_option linter.unusedSimpArgs false
/- Add and Mul of polynomials with few small numbers. -/
namespace Go.AL
def insU (u : UT) : List UT → List UT
  | [] => if u.1 = 0 then [] else [u]
  | v :: l => if ordI u.2 v.2 < 0 then (if u.1 = 0 then v :: l else u :: v :: l) else if u.2 = v.2 then (if u.1 + v.1 = 0 then l else (u.1 + v.1, u.2) :: l) else v :: insU u l
def canU (us : List UT) : List UT := us.foldr insU []
def Bk (b : Int) (p q : List UT) : List UT := p ++ q.map fun u => (u.1 * b, u.2)
def Bu (p q : List UT) : List UT := p.flatMap fun t => q.map fun u => (t.1 * u.1, addE t.2 u.2)
def addL (p q : List UT) : List UT := canU (Bk 1 p q)
def subL (p q : List UT) : List UT := canU (Bk (-1) p q)
def C4 (p q : List UT) : List UT := canU (Bu p q)
theorem mk_ok {V : Nat} (hV : V ≤ 32) {l : List UT} (h : chkU V l l = true) : OkP (mkP V l) ∧ (mkP V l).vars = V ∧ WP (mkP V l) := (chkU_ok hV h).okp
def degU (p q : List UT) : Bool := match p, q with
  | t :: _, u :: _ => decide (sumL t.2 + sumL u.2 ≤ 120)
  | _, _ => true
theorem degU_ok {V : Nat} {p q : List UT} (h : degU p q = true) : DegOk (mkP V p) (mkP V q) := by
 intro t u ht hu
 cases p with
 | nil => simp [mkP] at ht
 | cons a p =>
  cases q with
  | nil => simp [mkP] at hu
  | cons b q =>
   simp only [mkP, List.map_cons, List.getElem?_cons_zero, Option.some.injEq] at ht hu;subst ht hu;simpa [degU] using h
end Go.AL
namespace Go.Proofs.YtmmfloplhopioaaGreat
open Go.AL
theorem addMk (V : Nat) (hV : V ≤ 32) (p q l : List UT) (hp : chkU V p p = true) (hq : chkU V q q = true) (h : chkU V (Bk 1 p q) l = true) : PureFn Tryz.prog 160 [aP (mkP V p), aP (mkP V q)] (.tup [aP (mkP V l), aN 0]) := by
 obtain ⟨p1, p2, p3⟩ := mk_ok hV hp;obtain ⟨q1, q2, q3⟩ := mk_ok hV hq
 have hs : SumOk V (Ba 1 (mkP V p) (mkP V q)) (mkP V l) := by rw [plusU_mk]; exact chkU_ok hV h
 exact pAdd_ok V hV _ _ p3 q3 p1 q1 p2 q2 _ (fun x hx => by rw [hs.uniq hx]) (fun k => absurd ⟨_, hs⟩ k)
theorem mulMk (V : Nat) (hV : V ≤ 32) (p q l : List UT) (hp : chkU V p p = true) (hq : chkU V q q = true) (hd : degU p q = true) (h : chkU V (Bu p q) l = true) : PureFn Tryz.prog 157 [aP (mkP V p), aP (mkP V q)] (.tup [aP (mkP V l), aN 0]) := by
 obtain ⟨p1, p2, p3⟩ := mk_ok hV hp;obtain ⟨q1, q2, q3⟩ := mk_ok hV hq
 have hs : SumOk V (Cw (mkP V p) (mkP V q)) (mkP V l) := by rw [timesU_mk]; exact chkU_ok hV h
 have hpr : ∀ t ∈ (mkP V p).terms, ∀ u ∈ (mkP V q).terms, Fit (zval t.c * zval u.c) := by
  intro t ht u hu;obtain ⟨a, ha, rfl⟩ := List.mem_map.1 ht;obtain ⟨b, hb, rfl⟩ := List.mem_map.1 hu;show Fit (zval (zOf a.1) * zval (zOf b.1));rw [BO, BO];have hm : (a.1 * b.1, addE a.2 b.2) ∈ Bu p q := List.mem_flatMap.2 ⟨a, ha, List.mem_map.2 ⟨b, hb, rfl⟩⟩;have h1 := absU_mem hm;simp only [chkU, Bool.and_eq_true, decide_eq_true_eq] at h;exact Bb (by simp only at h1; omega) (by simp only at h1; omega)
 have hP : Df V (mkP V p) (mkP V q) (mkP V l) := ⟨degU_ok hd, hpr, hs⟩;exact pMul_ok V hV _ _ p3 q3 p1 q1 p2 q2 _ (fun x hx => by rw [hs.uniq hx.2.2]) (fun k => absurd ⟨_, hP⟩ k)
end Go.Proofs.YtmmfloplhopioaaGreat
/- Polynomials by their coefficients: what is ordered and without zeros is told by them. -/
namespace Go.AL
structure CanU (l : List UT) : Prop where
  nz : ∀ u ∈ l, u.1 ≠ 0
  pw : l.Pairwise fun u v => ordI u.2 v.2 < 0
theorem CanU.nil : CanU [] := ⟨by simp, List.Pairwise.nil⟩
theorem CanU.tail {u : UT} {l : List UT} (h : CanU (u :: l)) : CanU l := ⟨fun v hv => h.nz v (by simp [hv]), (List.pairwise_cons.1 h.pw).2⟩
theorem CanU.head {u : UT} {l : List UT} (h : CanU (u :: l)) : ∀ v ∈ l, ordI u.2 v.2 < 0 := (List.pairwise_cons.1 h.pw).1
theorem CanU.cons {u : UT} {l : List UT} (h : CanU l) (h1 : u.1 ≠ 0) (h2 : ∀ v ∈ l, ordI u.2 v.2 < 0) : CanU (u :: l) := ⟨fun v hv => by
 rcases List.mem_cons.1 hv with rfl | hv
 ·exact h1
 ·exact h.nz v hv, List.pairwise_cons.2 ⟨h2, h.pw⟩⟩
theorem insU_mem {u v : UT} : ∀ {l : List UT}, v ∈ insU u l → v.2 = u.2 ∨ ∃ w ∈ l, v.2 = w.2
 | [], h => by
  unfold insU at h;split at h
  ·simp at h
  ·simp at h; exact .inl (by rw [h])
 | w :: l, h => by
  unfold insU at h;split at h
  ·split at h
   ·exact .inr ⟨v, h, rfl⟩
   ·rcases List.mem_cons.1 h with rfl | h
    ·exact .inl rfl
    ·exact .inr ⟨v, h, rfl⟩
  ·split at h
   ·split at h
    ·exact .inr ⟨v, by simp [h], rfl⟩
    ·rcases List.mem_cons.1 h with rfl | h
     ·exact .inl rfl
     ·exact .inr ⟨v, by simp [h], rfl⟩
   ·rcases List.mem_cons.1 h with rfl | h
    ·exact .inr ⟨v, by simp, rfl⟩
    ·rcases insU_mem h with h | ⟨x, hx, e⟩
     ·exact .inl h
     ·exact .inr ⟨x, by simp [hx], e⟩
theorem insU_can {u : UT} : ∀ {l : List UT}, CanU l → CanU (insU u l)
 | [], h => by
  unfold insU;split
  ·exact CanU.nil
  ·rename_i hz; exact CanU.nil.cons hz (by simp)
 | w :: l, h => by
  unfold insU;split
  ·rename_i ho;split
   ·exact h
   ·rename_i hz;refine h.cons hz fun v hv => ?_;rcases List.mem_cons.1 hv with rfl | hv
    ·exact ho
    ·exact Cf ho (h.head v hv)
  ·rename_i ho;split
   ·rename_i he;split
    ·exact h.tail
    ·rename_i hz
     exact h.tail.cons hz fun v hv => by show ordI u.2 v.2 < 0; rw [he]; exact h.head v hv
   ·rename_i he;refine (insU_can h.tail).cons (h.nz w (by simp)) fun v hv => ?_;rcases insU_mem hv with h1 | ⟨x, hx, e⟩
    ·rw [h1];rcases DT u.2 w.2 with k | k | k
     ·exact absurd k ho
     ·exact absurd k he
     ·exact k
    ·rw [e]; exact h.head x hx
theorem cfU_insU (u : UT) (e : List Int) : ∀ l : List UT, cfU (insU u l) e = (if u.2 = e then u.1 else 0) + cfU l e
 | [] => by
  unfold insU;split
  ·rename_i hz; simp [cfU, hz]
  ·simp [cfU]
 | w :: l => by
  unfold insU;split
  ·split
   ·rename_i hz; simp only [cfU]; rw [hz]; split <;> omega
   ·simp only [cfU]
  ·split
   ·rename_i he;split
    ·rename_i hz;simp only [cfU];rw [he];split <;> omega
    ·simp only [cfU];rw [he];split <;> omega
   ·simp only [cfU];rw [cfU_insU u e l];omega
theorem canU_can : ∀ us : List UT, CanU (canU us)
 | [] => CanU.nil
 | u :: us => insU_can (canU_can us)
theorem cfU_canU (e : List Int) : ∀ us : List UT, cfU (canU us) e = cfU us e
 | [] => rfl
 | u :: us => by
  show cfU (insU u (canU us)) e = _;rw [cfU_insU, cfU_canU e us];rfl
theorem canU_mem {v : UT} : ∀ {us : List UT}, v ∈ canU us → ∃ w ∈ us, v.2 = w.2
 | [], h => by simp [canU] at h
 | u :: us, h => by
  have h' : v ∈ insU u (canU us) := h;rcases insU_mem h' with h1 | ⟨x, hx, e⟩
  ·exact ⟨u, by simp, h1⟩
  ·obtain ⟨w, hw, e2⟩ := canU_mem hx;exact ⟨w, by simp [hw], by rw [e, e2]⟩
theorem zOf_inj {x y : Int} (h : zOf x = zOf y) : x = y := by
 have := congrArg zval h;rwa [BO, BO] at this
theorem tz_inj {u v : UT} (h : tz u = tz v) : u = v := by
 obtain ⟨a, e⟩ := u;obtain ⟨b, f⟩ := v;injection h with h1 h2;have h3 := zOf_inj h1;dsimp only at h2 h3;subst h2 h3;rfl
theorem CanU.mem_iff {l : List UT} (h : CanU l) (u : UT) : u ∈ l ↔ u.1 ≠ 0 ∧ cfU l u.2 = u.1 := by
 refine ⟨fun k => ⟨h.nz u k, cfU_one h.pw k⟩, fun ⟨k1, k2⟩ => ?_⟩;obtain ⟨v, hv, e⟩ := cfU_mem (us := l) (e := u.2) (by rw [k2]; exact k1);have := cfU_one h.pw hv;rw [e, k2] at this
 have : u = v := by cases u; cases v; simp_all
 rwa [this]
theorem CanU.pw_tz {l : List UT} (h : CanU l) : (l.map tz).Pairwise fun x y => ordI x.e y.e < 0 := List.pairwise_map.2 h.pw
theorem CanU.ext {a b : List UT} (ha : CanU a) (hb : CanU b) (h : ∀ e, cfU a e = cfU b e) : a = b := by
 have key : a.map tz = b.map tz := sorted_ext ha.pw_tz hb.pw_tz fun t => by
  simp only [List.mem_map];constructor
  ·rintro ⟨u, hu, rfl⟩;exact ⟨u, (hb.mem_iff u).2 (by rw [← h]; exact (ha.mem_iff u).1 hu), rfl⟩
  ·rintro ⟨u, hu, rfl⟩;exact ⟨u, (ha.mem_iff u).2 (by rw [h]; exact (hb.mem_iff u).1 hu), rfl⟩
 have inj : ∀ {a b : List UT}, a.map tz = b.map tz → a = b := by
  intro a
  induction a with
  | nil => intro b h; cases b with
   | nil => rfl
   | cons x b => simp at h
  | cons x a ih => intro b h; cases b with
   | nil => simp at h
   | cons y b =>
    simp only [List.map_cons, List.cons.injEq] at h;rw [tz_inj (u := x) (v := y) (by rw [tz, tz]; simpa using h.1), ih h.2]
 exact inj key
theorem CanU.eq_can {l us : List UT} (h : CanU l) (he : ∀ e, cfU l e = cfU us e) : l = canU us := h.ext (canU_can us) fun e => by rw [he, cfU_canU]
theorem CanU.can {l : List UT} (h : CanU l) : canU l = l := (h.eq_can fun _ => rfl).symm
end Go.AL
/- Division by words: plain. -/
namespace Go.AL
theorem kn_step {q r v1 v2 top u2 un V U Q Bn : Int} (hqr : q * v1 + r = top) (hr : 0 ≤ r) (hBn : 0 < Bn) (hV : (v1 * 4294967296 + v2) * Bn ≤ V) (hU : U < (top * 4294967296 + u2 + 1) * Bn) (hQ : Q * V ≤ U) (hQB : Q < 4294967296) (hV0 : 0 < V) (hv1 : 0 < v1) (hv2 : 0 ≤ v2) (hq0 : 0 ≤ q)
  (h : 4294967296 ≤ q ∨ r * 4294967296 + u2 < q * v2) : Q ≤ q - 1 := by
 rcases h with h | h
 ·omega
 ·have h1 : (q * v1 * 4294967296 + q * v2) * Bn ≤ q * V := by
   have e : (q * v1 * 4294967296 + q * v2) * Bn = q * ((v1 * 4294967296 + v2) * Bn) := by grind
   rw [e];exact Int.mul_le_mul_of_nonneg_left hV hq0
  have h2 : (top * 4294967296 + u2 + 1) * Bn ≤ (q * v1 * 4294967296 + q * v2) * Bn := by
   refine Int.mul_le_mul_of_nonneg_right ?_ (by omega)
   have : top * 4294967296 = q * v1 * 4294967296 + r * 4294967296 := by rw [← hqr]; grind
   omega
  have h3 : Q * V < q * V := by omega
  have h4 : Q < q := Int.lt_of_mul_lt_mul_right h3 (by omega);omega
theorem kn_stop {q r v1 v2 top u2 V U Q Bn : Int} (hqr : q * v1 + r = top) (hBn : 0 < Bn) (hV : V < (v1 * 4294967296 + v2 + 1) * Bn) (hVB : 4294967296 * Bn ≤ V) (hU : (top * 4294967296 + u2) * Bn ≤ U) (hQ : U < (Q + 1) * V) (hV0 : 0 < V) (hq0 : 0 ≤ q) (hqB : q < 4294967296)
  (h : q * v2 ≤ r * 4294967296 + u2) (hQ0 : 0 ≤ Q) : q ≤ Q + 1 := by
 have h1 : q * V ≤ q * ((v1 * 4294967296 + v2 + 1) * Bn) := Int.mul_le_mul_of_nonneg_left (by omega) hq0
 have h2 : q * ((v1 * 4294967296 + v2 + 1) * Bn) ≤ (top * 4294967296 + u2) * Bn + 4294967296 * Bn := by
  have e : q * ((v1 * 4294967296 + v2 + 1) * Bn) = (q * v1 * 4294967296 + q * v2 + q) * Bn := by grind
  rw [e, ← Int.add_mul];refine Int.mul_le_mul_of_nonneg_right ?_ (by omega)
  have : top * 4294967296 = q * v1 * 4294967296 + r * 4294967296 := by rw [← hqr]; grind
  omega
 have h3 : q * V ≤ U + V := by omega
 have h4 : q * V < (Q + 1) * V + V := by omega
 have h5 : q * V < (Q + 2) * V := by
  have : (Q + 2) * V = (Q + 1) * V + V := by grind
  omega
 have h6 : q < Q + 2 := Int.lt_of_mul_lt_mul_right h5 (by omega);omega
end Go.AL
/- Division by words: a digit's subtraction; words of a given number. -/
namespace Go.AL
def wdW : Nat → Int → List Int
  | 0, _ => []
  | n + 1, z => z % 4294967296 :: wdW n (z / 4294967296)
theorem DI : ∀ (n : Nat) (z : Int), (wdW n z).length = n
 | 0, _ => rfl
 | n + 1, z => by simp [wdW, DI n]
theorem wdW_ok : ∀ (n : Nat) (z : Int), WOk (wdW n z)
 | 0, _ => WOk.nil
 | n + 1, z => WOk.cons (by omega) (by omega) (wdW_ok n _)
theorem val_wdW : ∀ (n : Nat) (z : Int), 0 ≤ z → z < BB n → val (wdW n z) = z
 | 0, z, h0, h1 => by simp only [DB] at h1; simp only [wdW, val]; omega
 | n + 1, z, h0, h1 => by
  rw [BC] at h1;have := val_wdW n (z / 4294967296) (by omega) (by omega);simp only [wdW, val, this]; omega
theorem wdW_eq : ∀ {l : List Int}, WOk l → l = wdW l.length (val l)
 | [], _ => rfl
 | x :: l, h => by
  have h1 := h.head;have ih := wdW_eq h.tail;simp only [List.length_cons, wdW, val]
  have e1 : (x + 4294967296 * val l) % 4294967296 = x := by omega
  have e2 : (x + 4294967296 * val l) / 4294967296 = val l := by omega
  rw [e1, e2, ← ih]
end Go.AL
/- Division by words: the highest words; a digit's end. -/
namespace Go.AL
theorem take_top {l : List Int} {k : Nat} {x : Int} (h : l[k]? = some x) : l.take (k + 1) = l.take k ++ [x] := by rw [List.take_add_one, h]; rfl
theorem val_top {l : List Int} {k : Nat} {x : Int} (h : l[k]? = some x) : val (l.take (k + 1)) = val (l.take k) + BB k * x := by
 have hl : (l.take k).length = k := by have := (List.getElem?_eq_some_iff.1 h).1; simp; omega
 rw [take_top h, Bq, hl]
theorem val_bounds {l : List Int} {k : Nat} (w : WOk l) (h : k ≤ l.length) : 0 ≤ val (l.take k) ∧ val (l.take k) < BB k := by
 refine ⟨As (w.take k), ?_⟩;have := DJ (w.take k);rwa [List.length_take, Nat.min_eq_left h] at this
theorem dig_facts {m v : List Int} {k : Nat} (hm : m.length = k + 3) (hv : v.length = k + 2) (wm : WOk m) (wv : WOk v) {un u1 u2 v1 v2 : Int} (e0 : m[k + 2]? = some un) (e1 : m[k + 1]? = some u1) (e2 : m[k]? = some u2) (f1 : v[k + 1]? = some v1) (f2 : v[k]? = some v2) :
  (v1 * 4294967296 + v2) * BB k ≤ val v ∧ val v < (v1 * 4294967296 + v2 + 1) * BB k ∧ ((un * 4294967296 + u1) * 4294967296 + u2) * BB k ≤ val m ∧ val m < ((un * 4294967296 + u1) * 4294967296 + u2 + 1) * BB k := by
 have h1 : val v = val (v.take k) + BB k * v2 + BB (k + 1) * v1 := by
  have a := val_top f1;rw [show k + 1 + 1 = k + 2 from rfl, ← hv, List.take_length, val_top f2] at a;exact a
 have h2 : val m = val (m.take k) + BB k * u2 + BB (k + 1) * u1 + BB (k + 2) * un := by
  have a := val_top e0;rw [show k + 2 + 1 = k + 3 from rfl, ← hm, List.take_length, show k + 2 = k + 1 + 1 from rfl, val_top e1, val_top e2] at a;exact a
 have b1 := val_bounds (k := k) wv (by omega);have b2 := val_bounds (k := k) wm (by omega);rw [show k + 2 = k + 1 + 1 from rfl] at h2;simp only [BC] at h1 h2;rw [h1, h2];refine ⟨?_, ?_, ?_, ?_⟩ <;> grind
theorem quo_between {U V q : Int} (hV : 0 < V) (h1 : q * V ≤ U) (h2 : U < (q + 1) * V) : q = U / V := by
 have a : U / V * V ≤ U := by have := Int.mul_ediv_add_emod U V; have := Int.emod_nonneg U (show V ≠ 0 by omega); have e : V * (U / V) = U / V * V := Int.mul_comm _ _; omega
 have b : U < (U / V + 1) * V := by
  have := Int.mul_ediv_add_emod U V;have := Int.emod_lt_of_pos U hV;have e : V * (U / V) = U / V * V := Int.mul_comm _ _;rw [Int.add_mul]; omega
 have c : q < U / V + 1 := Int.lt_of_mul_lt_mul_right (Int.lt_of_le_of_lt h1 b) (by omega);have d : U / V < q + 1 := Int.lt_of_mul_lt_mul_right (Int.lt_of_le_of_lt a h2) (by omega);omega
theorem quo_spec {U V : Int} (hV : 0 < V) (hU : 0 ≤ U) : U / V * V ≤ U ∧ U < (U / V + 1) * V ∧ 0 ≤ U / V ∧ U % V = U - U / V * V := by
 have h1 := Int.mul_ediv_add_emod U V;have h2 := Int.emod_nonneg U (show V ≠ 0 by omega);have h3 := Int.emod_lt_of_pos U hV;have e : V * (U / V) = U / V * V := Int.mul_comm _ _;refine ⟨by omega, by rw [Int.add_mul]; omega, Int.ediv_nonneg hU (by omega), by omega⟩
end Go.AL
/- Division by a word, shifts by binary digits: plain. -/
namespace Go.AL
theorem over_step {A os : List Int} {i : Nat} {b r x : Int} (hx : A[i]? = some x) (h : val (A.drop (i + 1)) = val os * b + r) :
  val (A.drop i) = val ((r * 4294967296 + x) / b :: os) * b + (r * 4294967296 + x) % b := by
 have hd : A.drop i = x :: A.drop (i + 1) := by
  have hi := (List.getElem?_eq_some_iff.1 hx);rw [List.drop_eq_getElem_cons hi.1, hi.2]
 have hm := Int.mul_ediv_add_emod (r * 4294967296 + x) b;rw [hd];simp only [val];rw [h];grind
theorem over_word {b r x : Int} (hb : 0 < b) (h0 : 0 ≤ r) (h1 : r < b) (h2 : 0 ≤ x) (h3 : x < 4294967296) : 0 ≤ (r * 4294967296 + x) / b ∧ (r * 4294967296 + x) / b < 4294967296 := by
 refine ⟨Int.ediv_nonneg (by omega) (by omega), Int.ediv_lt_of_lt_mul hb ?_⟩
 have : r * 4294967296 + x < (r + 1) * 4294967296 := by omega
 have h4 : (r + 1) * 4294967296 ≤ b * 4294967296 := Int.mul_le_mul_of_nonneg_right (by omega) (by omega);rw [Int.mul_comm]; omega
theorem over_end {V Q b r : Int} (h : V = Q * b + r) (h0 : 0 ≤ r) (h1 : r < b) : Q = V / b ∧ r = V % b := by
 have hq : Q = V / b := quo_between (by omega) (by omega) (by rw [Int.add_mul]; omega);refine ⟨hq, ?_⟩;have := Int.mul_ediv_add_emod V b;have e : b * (V / b) = V / b * b := Int.mul_comm _ _;rw [← hq] at e;rw [← hq] at this;omega
theorem or_carry {c x : Int} {k : Nat} (hk : k < 32) (h0 : 0 ≤ c) (h1 : c < 2 ^ k) (h2 : 0 ≤ x) (h3 : x < 4294967296) : bitN .or c (x * 2 ^ k % 4294967296) = c + x * 2 ^ k % 4294967296 ∧ c + x * 2 ^ k % 4294967296 < 4294967296 := by
 have hp : (2 : Int) ^ k = ((2 ^ k : Nat) : Int) := by norm_cast
 have hs : (2 : Int) ^ 32 = 2 ^ k * 2 ^ (32 - k) := by rw [← Int.pow_add]; congr 1; omega
 have hs' : (4294967296 : Int) = 2 ^ k * 2 ^ (32 - k) := by rw [← hs]; rfl
 have e : x * 2 ^ k % 4294967296 = (x % 2 ^ (32 - k)) * 2 ^ k := by
  rw [hs', Int.mul_comm x, Int.mul_emod_mul_of_pos _ _ (Int.pow_pos (by omega)), Int.mul_comm]
 have hx := Int.emod_nonneg x (show (2 : Int) ^ (32 - k) ≠ 0 from Int.ne_of_gt (Int.pow_pos (by omega)));have hx2 := Int.emod_lt_of_pos x (show (0 : Int) < 2 ^ (32 - k) from Int.pow_pos (by omega));obtain ⟨m, hm⟩ : ∃ m : Nat, x % 2 ^ (32 - k) = m := ⟨_, (Int.toNat_of_nonneg hx).symm⟩;obtain ⟨d, hd⟩ : ∃ d : Nat, c = d := ⟨_, (Int.toNat_of_nonneg h0).symm⟩;rw [e, hm, hd];rw [hd, hp] at h1;rw [hm] at hx2;constructor
 ·show (((d : Int).toNat ||| ((m : Int) * 2 ^ k).toNat : Nat) : Int) = _
  have e2 : ((m : Int) * 2 ^ k).toNat = m <<< k := by rw [Nat.shiftLeft_eq, hp, ← Int.natCast_mul, Int.toNat_natCast]
  rw [e2, Int.toNat_natCast, Nat.or_comm, ← Nat.shiftLeft_add_eq_or_of_lt (by exact_mod_cast h1), Nat.shiftLeft_eq, hp, ← Int.natCast_mul, ← Int.natCast_add, Nat.add_comm]
 ·have h4 : ((m : Int) + 1) * 2 ^ k ≤ 2 ^ (32 - k) * 2 ^ k := Int.mul_le_mul_of_nonneg_right (by omega) (Int.le_of_lt (Int.pow_pos (by omega)));rw [Int.mul_comm (2 ^ (32 - k)), ← hs'] at h4;rw [hp] at h4 ⊢;rw [Int.add_mul] at h4;omega
theorem left_step {A P : List Int} {i : Nat} {c x B w c' S : Int} (hx : A[i]? = some x) (hB : BB P.length = B * BB i) (h : val P + BB P.length * c = B * S * val (A.take i)) (hw : w + 4294967296 * c' = c + x * S) :
  val (P ++ [w]) + BB (P ++ [w]).length * c' = B * S * val (A.take (i + 1)) := by
 have e : (P ++ [w]).length = P.length + 1 := by simp
 rw [e, Bq, Ag hx, BC]
 have e2 : w = c + x * S - 4294967296 * c' := by omega
 rw [e2]
 have e3 : B * S * (val (A.take i) + BB i * x) = B * S * val (A.take i) + (B * BB i) * (x * S) := by grind
 rw [e3, ← h, ← hB];grind
end Go.AL
/- A byte of a fixed string; bits.Len32, bits.LeadingZeros32. -/
namespace Go.AL
section
variable {P : Program} {tab : Tab} {n : Nat} {s : St}
variable {ops : Array Oper} {draw : Dr} {o : Oper} {l : List Oper} {acc : List Eff} {K : Exit → St → Prop}
end
end Go.AL
namespace Go.Proofs.YtmmfloplhopioaaGreat
open Go.AL
end Go.Proofs.YtmmfloplhopioaaGreat
/- large.over, large.left, large.right (by less than a word). -/
namespace Go.AL
theorem set_zeros {i m : Nat} {q q' : Int} {os : List Int} {k : Nat} (hk : k = m) (hm : m + 1 = i) (hq : q = q') : (List.replicate i 0 ++ os).set k q = List.replicate m 0 ++ q' :: os := by
 subst hk hm hq;rw [List.replicate_succ', List.append_assoc];simp
end Go.AL
namespace Go.Proofs.YtmmfloplhopioaaGreat
open Go.AL
theorem set_carry {P : List Int} {c w w' v v' : Int} {m M : Nat} {i j : Nat} (hi : i = P.length) (hj : j = P.length + 1) (hM : M = m + 1) (hv : v = v') (hw : w = w') : ((P ++ c :: List.replicate M 0).set i v).set j w = (P ++ [v']) ++ w' :: List.replicate m 0 := by
 subst hi hj hM hv hw;rw [List.replicate_succ];simp
theorem get_carry {P R : List Int} {c : Int} {i : Nat} (hi : i = P.length) : (P ++ c :: R)[i]? = some c := by subst hi; simp
end Go.Proofs.YtmmfloplhopioaaGreat
/- Parts of rows: a row cut; a part of a row that is written through. -/
namespace Go.AL
section
variable {P : Program} {tab : Tab} {n : Nat} {o : Oper} {s : St}
variable {ops : Array Oper} {draw : Dr} {l : List Oper} {acc : List Eff} {K : Exit → St → Prop}
end
end Go.AL
/- large.digit: a digit of a quotient. -/
namespace Go.AL
structure DigOk (m : Nat) (mid v : List Int) : Prop where
  hm : mid.length = m + 3
  hv : v.length = m + 2
  wm : WOk mid
  wv : WOk v
  top : ∀ x, v[m + 1]? = some x → 2147483648 ≤ x
  lt : val mid < 4294967296 * val v
  big : m ≤ 50000
theorem DigOk.pos {m : Nat} {mid v : List Int} (d : DigOk m mid v) : BB (m + 1) ≤ val v ∧ val v < BB (m + 2) := by
 obtain ⟨x, hx⟩ : ∃ x, v[m + 1]? = some x := ⟨_, List.getElem?_eq_getElem (by have := d.hv; omega)⟩;have h1 := d.top x hx;have h2 := val_top hx;rw [show m + 1 + 1 = v.length by have := d.hv; omega, List.take_length] at h2;have h3 := val_bounds (k := m + 1) d.wv (by have := d.hv; omega);have h4 := DJ d.wv;rw [d.hv] at h4;refine ⟨?_, h4⟩;have : BB (m + 1) * 1 ≤ BB (m + 1) * x := Int.mul_le_mul_of_nonneg_left (by omega) (Int.le_of_lt (Bc _));omega
theorem DigOk.facts {m : Nat} {mid v : List Int} (d : DigOk m mid v) {un u1 u2 v1 v2 : Int} (e0 : mid[m + 2]? = some un) (e1 : mid[m + 1]? = some u1) (e2 : mid[m]? = some u2) (f1 : v[m + 1]? = some v1) (f2 : v[m]? = some v2) :
  un ≤ v1 ∧ un * 4294967296 + u1 < v1 * 4294967296 + 4294967296 := by
 obtain ⟨a, b, c, e⟩ := dig_facts d.hm d.hv d.wm d.wv e0 e1 e2 f1 f2;have h := d.lt;have w2 := d.wv.get f2;have wu1 := d.wm.get e1;have wu2 := d.wm.get e2;have hB := Bc m
 have h1 : ((un * 4294967296 + u1) * 4294967296 + u2) * BB m < (4294967296 * (v1 * 4294967296 + v2 + 1)) * BB m := by
  have : 4294967296 * val v < 4294967296 * ((v1 * 4294967296 + v2 + 1) * BB m) := by omega
  have e3 : (4294967296 * (v1 * 4294967296 + v2 + 1)) * BB m = 4294967296 * ((v1 * 4294967296 + v2 + 1) * BB m) := by grind
  rw [e3]; omega
 have h2 := Int.lt_of_mul_lt_mul_right h1 (by omega);omega
theorem DigOk.down {m : Nat} {mid v : List Int} (d : DigOk m mid v) {un u1 u2 v1 v2 q r : Int} (e0 : mid[m + 2]? = some un) (e1 : mid[m + 1]? = some u1) (e2 : mid[m]? = some u2) (f1 : v[m + 1]? = some v1) (f2 : v[m]? = some v2)
  (hqr : q * v1 + r = un * 4294967296 + u1) (hr : 0 ≤ r) (hq : 0 ≤ q) (h : 4294967296 ≤ q ∨ r * 4294967296 + u2 < q * v2) : val mid / val v ≤ q - 1 := by
 obtain ⟨a, b, c, e⟩ := dig_facts d.hm d.hv d.wm d.wv e0 e1 e2 f1 f2;have hp := d.pos;have hV : 0 < val v := Int.lt_of_lt_of_le (Bc _) hp.1;obtain ⟨s1, s2, s3, s4⟩ := quo_spec hV (As d.wm);have hQ : val mid / val v < 4294967296 := Int.ediv_lt_of_lt_mul hV d.lt;have w1 := d.top _ f1;have w2 := d.wv.get f2;exact kn_step (un := un) hqr hr (Bc m) a e s1 hQ hV (by omega) w2.1 hq h
theorem DigOk.stop {m : Nat} {mid v : List Int} (d : DigOk m mid v) {un u1 u2 v1 v2 q r : Int} (e0 : mid[m + 2]? = some un) (e1 : mid[m + 1]? = some u1) (e2 : mid[m]? = some u2) (f1 : v[m + 1]? = some v1) (f2 : v[m]? = some v2)
  (hqr : q * v1 + r = un * 4294967296 + u1) (hr : 0 ≤ r) (hq : 0 ≤ q) (h : (q < 4294967296 ∧ q * v2 ≤ r * 4294967296 + u2) ∨ 4294967296 ≤ r) : q < 4294967296 ∧ q ≤ val mid / val v + 1 := by
 obtain ⟨a, b, c, e⟩ := dig_facts d.hm d.hv d.wm d.wv e0 e1 e2 f1 f2;have hf := d.facts e0 e1 e2 f1 f2;have hp := d.pos;have hV : 0 < val v := Int.lt_of_lt_of_le (Bc _) hp.1;obtain ⟨s1, s2, s3, s4⟩ := quo_spec hV (As d.wm);have w1 := d.top _ f1;have w2 := d.wv.get f2;have wu2 := d.wm.get e2
 have hVB : 4294967296 * BB m ≤ val v := by rw [← BC]; exact hp.1
 have key : q < 4294967296 ∧ q * v2 ≤ r * 4294967296 + u2 := by
  rcases h with h | h
  ·exact h
  ·have hq2 : q < 4294967296 := by
    rcases Int.lt_or_le q 4294967296 with h1 | h1
    ·exact h1
    ·have : 4294967296 * v1 ≤ q * v1 := Int.mul_le_mul_of_nonneg_right h1 (by omega);omega
   have h3 : q * v2 ≤ 4294967295 * v2 := Int.mul_le_mul_of_nonneg_right (by omega) w2.1;exact ⟨hq2, by omega⟩
 exact ⟨key.1, kn_stop hqr (Bc m) b hVB c s2 hV hq key.1 key.2 s3⟩
end Go.AL
/- large.digit: the walk. -/
namespace Go.AL
end Go.AL
namespace Go.Proofs.YtmmfloplhopioaaGreat
open Go.AL
end Go.Proofs.YtmmfloplhopioaaGreat
/- Division of long numbers: plain. -/
namespace Go.AL
structure DivInv (U : List Int) (V : Int) (n N i : Nat) (os : List Int) (ρ : Int) : Prop where
  hi : i ≤ N
  hl : os.length + i = N
  wo : WOk os
  r0 : 0 ≤ ρ
  r1 : ρ < V
  hv : val (U.drop i) = val os * V + ρ
theorem DivInv.step {U os : List Int} {V ρ : Int} {n N i : Nat} {u : Int} (d : DivInv U V n N (i + 1) os ρ) (hV : 0 < V) (hu : U[i]? = some u) (wu : WOk U) :
  DivInv U V n N i (val (u :: wdW n ρ) / V :: os) (val (u :: wdW n ρ) % V) ∨ ¬ (V < BB n) := by
 rcases Classical.em (V < BB n) with hn | hn
 ·left;have w := wu.get hu;have d0 := d.r0;have d1 := d.r1
  have hm : val (u :: wdW n ρ) = u + 4294967296 * ρ := by
   rw [val, val_wdW n ρ d0 (by omega)]
  rw [hm]
  have hlt : u + 4294967296 * ρ < 4294967296 * V := by omega
  have hdiv := Int.mul_ediv_add_emod (u + 4294967296 * ρ) V;have hm0 := Int.emod_nonneg (u + 4294967296 * ρ) (show V ≠ 0 by omega);have hm1 := Int.emod_lt_of_pos (u + 4294967296 * ρ) hV;refine ⟨by have := d.hi; omega, by have := d.hl; simp; omega, ?_, hm0, hm1, ?_⟩
  ·refine WOk.cons (Int.ediv_nonneg (by omega) (by omega)) (Int.ediv_lt_of_lt_mul hV hlt) d.wo
  ·have hd : U.drop i = u :: U.drop (i + 1) := by
    have hi := List.getElem?_eq_some_iff.1 hu;rw [List.drop_eq_getElem_cons hi.1, hi.2]
   rw [hd, val, d.hv, val]
   generalize (u + 4294967296 * ρ) / V = q at *
   generalize (u + 4294967296 * ρ) % V = r at *
   grind
 ·exact .inr hn
end Go.AL
/- large.divide: the walk. -/
namespace Go.Proofs.YtmmfloplhopioaaGreat
open Go.AL
end Go.Proofs.YtmmfloplhopioaaGreat
/- large.Div; chain.Quo, chain.Rest, chain.Power. -/
namespace Go.AL
theorem toW_one : toW 1 = [1] := by
 have := toW_cons (x := 1) (z := 0) (by omega) (by omega) (by omega) (.inl (by omega));rw [toW_zero] at this;exact this
end Go.AL
namespace Go.Proofs.YtmmfloplhopioaaGreat
open Go.AL
end Go.Proofs.YtmmfloplhopioaaGreat
/- append(nil, ..) whose result is not written; a made slice without elements. -/
namespace Go.AL
section
variable {P : Program} {tab : Tab} {n : Nat} {s : St}
variable {ops : Array Oper} {draw : Dr} {o : Oper} {l : List Oper} {acc : List Eff} {K : Exit → St → Prop}
theorem OpJ.ap0C (ht : A3 P tab) (hd : ∀ d, o.dst = some d → d < n) {x y : Operand} {t : TypeId} (hop : o.op = .call { callee := .builtin .append, args := ⟨[x, y]⟩, argTypes := ⟨[t, t]⟩ }) {e : TypeId} {i : TI} {sz' by' : Nat} {z : List Value} (hts : tab t = some ⟨.slice e, sz', by', z⟩) (hti : tab e = some i) (hsz : Nat.blt 0 i.size = true)
  (hx : opd s x = .v (.slice none 0 0)) {α : Type} (enc : α → List AV) {ys : List α} (hy : (opd s y).Le (.sl i.size enc ys)) (hyc : (opd s y).closed = true) (hone : ∀ y, BG (enc y) = true) (hel : ∀ y, (enc y).length = i.size)
  (hby : ys.length * i.bytes ≤ 140737488355328) (hm : ys.length ≤ 9223372036854775807) :
  OpJ P n o s ⟨.sl i.size enc ys, [], [], [], []⟩ := by
 refine ⟨hd, fun C s' a w h β Q K hs hbs hal k hK => ?_⟩
 have same : ∀ z : Operand, (z = x ∨ z = y) → opd s' z = opd s z := by
  intro z hz
  cases z with
  | tmp t => exact hs t (by rw [hop]; simpa [Op.operands, Call.operands] using hz)
  | _ => rfl
 have hxr := AJ k x;rw [same x (.inl rfl), hx] at hxr;have hyr := AJ k y;rw [same y (.inr rfl)] at hyr;have hyr := hy _ _ _ (hyr.closed (β' := noB) _ _ hyc);simp only [Rep] at hxr;obtain ⟨inf, zv, h1, h2, h3, h4, h5⟩ := (ht e i hti).info;have hu := (ht _ _ hts).und;simp only at hu
 have hzs : zv.cells.size = inf.size := by rw [← Array.length_toList, h5, (ht e i hti).zs, h2]
 have ho := World.ownsRow_nil w 0 e inf.size;rw [← h2] at hyr;obtain ⟨v', w', news, r1, r2, r3, r4, r5⟩ := DP (P := P) (ty := o.type) hu h1 h4 hzs (by rw [h2]; exact Nat.le_of_ble_eq_true hsz) ho k.evo.has hone hyr (by rw [h3, Nat.zero_add]; exact hby) (by omega);rw [← hxr] at r1;have hrun := append_exec (P := P) (o := o) hop r1;unfold Oper.wp;rw [hrun];simp only [Oper.upon];simp only [Nat.zero_add, List.nil_append] at r2;have hnb : (Value.slice none 0 0).ownBlock = none := rfl;rw [hnb] at r3 r4;have hev : Evo DU w h w' h := evo_of k.evo.has r3.os r3.tape ⟨r3.output, run_drawn _ _ _ _ r1⟩ r3.size (fun j hj _ => r3.block j hj (by simp)) (fun g hg => hg.elim);rw [h2] at r2;have hlen : ∀ x ∈ ys, (enc x).length = i.size := fun x _ => hel x
 have key : ∃ h', h.le h' ∧ Has w' h' ∧ (∀ g, h' g ≠ none → h g ≠ none ∨ v'.ownBlock = some g) ∧ Rep h' noB (.sl i.size enc ys) v' := by
  rcases r2.2 with ⟨hv, hn⟩ | ⟨g, cap, cur, hv, _, hg, hnc, hmx, hcs, htake⟩
  ·have hx : ys = [] := List.eq_nil_of_length_eq_zero hn;subst hx;refine ⟨h, AZ h, hev.has, fun g hg => .inl hg, ?_⟩;rw [hv];exact AV.Le.nil i.size enc h noB _ (by simp only [Rep])
  ·have hgb : v'.ownBlock = some g := by simp [hv, Value.ownBlock]
   have hgn : h g = none := by
    rcases r4 with r4 | r4
    ·rw [r4] at hgb; cases hgb
    ·rw [r4] at hgb; injection hgb with hgb; subst hgb; exact Bv k.evo.has (Nat.le_refl _)
   have hle : h.le (h.set g cur) := fun b cs hb' => by
    by_cases he : b = g
    ·subst he; rw [hgn] at hb'; cases hb'
    ·rw [Hp.set_ne _ _ _ _ he]; exact hb'
   refine ⟨h.set g cur, hle, fun b cs hb' => ?_, fun b hb' => ?_, ?_⟩
   ·by_cases he : b = g
    ·subst he; rw [Hp.set_same] at hb'; injection hb' with hb'; subst hb'; exact ⟨e, (0, 0), hg⟩
    ·rw [Hp.set_ne _ _ _ _ he] at hb'; exact hev.has b cs hb'
   ·by_cases he : b = g
    ·subst he; exact .inr hgb
    ·rw [Hp.set_ne _ _ _ _ he] at hb'; exact .inl hb'
   ·subst hv;simp only [Rep];refine ⟨some ⟨g, 0, none⟩, cap, rfl, hnc, hmx, fun j x hx => ?_⟩;obtain ⟨hr1, hr2⟩ := flat_at ys news j x hlen (r5.mono hle (AQ _)) hx;refine ⟨⟨g, 0, none⟩, _, rfl, by rw [hr1.length]; exact hlen x (List.mem_of_getElem? hx), hr1, fun q u hu => ?_⟩
    have hadd : (⟨g, 0, none⟩ : Addr).add (j * i.size + q) = ⟨g, j * i.size + q, none⟩ := by unfold Addr.add; split <;> simp_all
    rw [hadd];refine ⟨rfl, cur, Hp.set_same _ _ _, ?_⟩;rw [List.getElem?_take] at hu;split at hu
    ·rw [List.getElem?_drop, ← htake, List.getElem?_take] at hu;split at hu
     ·simpa using hu
     ·cases hu
    ·cases hu
 obtain ⟨h', hle, hhas, hfr, hrep⟩ := key
 have hev' : Evo DU w h w' h' := ⟨hev.os, hev.tape, hev.output, hev.size, hev.block, hle, fun g hg => by
  rcases hfr g hg with h1 | h1
  ·exact .inl h1
  ·rcases r4 with r4 | r4
   ·rw [r4] at h1; cases h1
   ·rw [r4] at h1; injection h1 with h1; subst h1; exact .inr (.inl (Nat.le_refl _)), hhas⟩
 exact hK _ _ h' β (Base.val (k.step hev') o.dst hd (hrep.mono (AZ _) (ES β)) [])
theorem Fl.ap0C [f : Facts P tab] {x y : Operand} {t : TypeId} (hop : o.op = .call { callee := .builtin .append, args := ⟨[x, y]⟩, argTypes := ⟨[t, t]⟩ }) (hx : opd s x = .v (.slice none 0 0)) (hg : gOk ops s o = true) (hd : dOk n o.dst = true) {e : TypeId} {i : TI} {sz' by' : Nat} {z : List Value} (hts : tab t = some ⟨.slice e, sz', by', z⟩) (hti : tab e = some i) (hsz : Nat.blt 0 i.size = true)
  {α : Type} (enc : α → List AV) {ys : List α} (hyc : (opd s y).closed = true) (hone : ∀ y, BG (enc y) = true) (hel : ∀ y, (enc y).length = i.size) (hy : (opd s y).Le (.sl i.size enc ys))
  (hby : ys.length * i.bytes ≤ 140737488355328) (hm : ys.length ≤ 9223372036854775807)
  (r : Fl P n ops draw l ((Eff.mk (.sl i.size enc ys) [] [] [] []).app o.dst s) (Eff.mk (.sl i.size enc ys) [] [] [] [] :: acc) K) : Fl P n ops draw (o :: l) s acc K :=
 Ab hg (OpJ.ap0C f.tabOk (AY hd) hop hts hti hsz hx enc hy hyc hone hel hby hm) r
theorem OpJ.make0 (ht : A3 P tab) {d : Tmp} (hdst : o.dst = some d) (hd : d < n) {t : TypeId} {x y : Operand} (hop : o.op = .makeSlice t x y) {e : TypeId} {i : TI} {sz' by' : Nat} {z : List Value} (hts : tab t = some ⟨.slice e, sz', by', z⟩) (hti : tab e = some i)
  {k k' : IntKind} {m' : Int} (hx : opd s x = .v (.int k 0)) (hy : opd s y = .v (.int k' m')) (h0 : 0 ≤ m') (hby : m' * i.bytes ≤ 281474976710656) (hm : m' ≤ 9223372036854775807) {α : Type} (enc : α → List AV) :
  OpJ P n o s ⟨.row d, [(d, .row i.size enc [] e)], [], [d], []⟩ := by
 refine ⟨fun t ht => (by rw [hdst] at ht; injection ht with ht; subst ht; exact hd), fun C s' a w h β Q K hs hb hal b hK => ?_⟩
 have same : ∀ z : Operand, (z = x ∨ z = y) → opd s' z = opd s z := by
  intro z hz
  cases z with
  | tmp t => exact hs t (by rw [hop]; simpa [Op.operands] using hz)
  | _ => rfl
 have hxr := AJ b x;have hyr := AJ b y;rw [same x (.inl rfl), hx] at hxr;rw [same y (.inr rfl), hy] at hyr;simp only [Rep] at hxr hyr;obtain ⟨inf, zv, h1, h2, h3, h4, h5⟩ := (ht e i hti).info;have hu := (ht _ _ hts).und;simp only at hu;obtain ⟨c, rfl⟩ := Int.eq_ofNat_of_zero_le h0
 have hzs : zv.cells.size = i.size := by rw [← Array.length_toList, h5, (ht e i hti).zs]
 have hmk := run_make (P := P) w t e inf zv hu h1 h4 k k' (0 : Int) (c : Int) (Int.le_refl _) h0 (by rw [h3, Int.mul_comm]; exact hby) hm;rw [Int.toNat_natCast, h2] at hmk
 have hrun : (execOp a.eval o).run P w = .ok (.value (.slice (some ⟨w.heap.size, 0, none⟩) 0 c)) (w.alloc (.cells (madeCells zv.cells (c * i.size)) e)) := by
  simp only [execOp, hop, hxr, hyr, Sem.run_bind, hmk, Result.andThen, Sem.run_pure];rfl
 unfold Oper.wp;rw [hrun];simp only [Oper.upon];refine hK _ _ h (β.set d (.slice (some ⟨w.heap.size, 0, none⟩) 0 c)) ?_;have k1 := b.step (B7 b.evo.has (.cells (madeCells zv.cells (c * i.size)) e));rw [hdst];refine k1.addbox (hal d (by simp)) ?_ ?_ (some d) (fun t ht => by injection ht with ht; subst ht; exact hd) ?_ []
 ·refine ⟨_, [], Bt.set_same _ _ _, ⟨by simp, .inr ⟨w.heap.size, c, _, by simp, Nat.zero_le _, heap_alloc_new w _, by simp, by simp only [maxLen]; omega, size_madeCells _ _, by simp⟩⟩, ?_, ?_, ?_⟩
  ·exact RepL.nil
  ·intro x hx; cases hx
  ·intro g hg;simp [Value.ownBlock] at hg;subst hg;exact Bv b.evo.has (Nat.le_refl _)
 ·intro g hg;simp [blk] at hg;subst hg;refine ⟨fun id' B' hb' e => ?_, .inr b.evo.size⟩;have := (b.blk_lt hb' e).1;omega
 ·simp only [Rep]; exact ⟨Bt.set_same _ _ _, _, _, _, rfl⟩
theorem Fl.make0 [f : Facts P tab] {t : TypeId} {x y : Operand} (hop : o.op = .makeSlice t x y) (hg : gOk ops s o = true) {d : Tmp} (hdst : o.dst = some d) (hd : Nat.blt d n = true) {e : TypeId} {i : TI} {sz' by' : Nat} {z : List Value} (hts : tab t = some ⟨.slice e, sz', by', z⟩) (hti : tab e = some i)
  {k k' : IntKind} {m' : Int} (hx : opd s x = .v (.int k 0)) (hy : opd s y = .v (.int k' m')) (hn : s.al d = false) {α : Type} (enc : α → List AV) (h0 : 0 ≤ m') (hby : m' * i.bytes ≤ 281474976710656) (hm : m' ≤ 9223372036854775807)
  (r : Fl P n ops draw l ((Eff.mk (.row d) [(d, .row i.size enc [] e)] [] [d] []).app o.dst s) (Eff.mk (.row d) [(d, .row i.size enc [] e)] [] [d] [] :: acc) K) (hJ : A4 draw.J (Eff.mk (.row d) [(d, .row i.size enc [] e)] [] [d] []) := by repeat' (first | exact True.intro | exact rfl | refine ⟨?_, ?_⟩ | fail)) : Fl P n ops draw (o :: l) s acc K :=
 Fl.op hg (OpJ.make0 f.tabOk hdst (ltOf hd) hop hts hti hx hy h0 hby hm enc) (ET hn) hJ r
end
end Go.AL
/- poly.Sub. (Not built yet: needs a seat that reaches it.) -/
namespace Go.Proofs.YtmmfloplhopioaaGreat
open Go.AL
theorem fit_m1 : Fit (-1) := Bb (by omega) (by omega)
theorem Sub1_io (V : Nat) (hV : V ≤ 32) (p q : PZ) (hwp : WP p) (hwq : WP q) (hp : OkP p) (hq : OkP q) (hpv : p.vars = V) (hqv : q.vars = V) (res : Res)
  (hr1 : ∀ r, SumOk V (Ba (-1) p q) r → res = .ret (aP r)) (hr2 : (¬ ∃ r, SumOk V (Ba (-1) p q) r) → res = .thr (BF 4)) :
  IoFn Tryz.prog 194 [.ptr 900 0, .ptr 901 0] (bPQ p q) res (bPQ p q) := by
 have h := plus_io V hV p q (-1) fit_m1 hwp hwq hp hq hpv hqv (fun t ht => (okZ_eq (hwq t ht) (hq.terms t ht).coef).2.le (by omega)) res hr1 hr2;refine AG Tryz.func194 rfl Tryz.ntmps194 rfl rfl rfl ?_;by_cases hg : ∃ r, SumOk V (Ba (-1) p q) r
 ·obtain ⟨r, hr⟩ := hg;have e1 := hr1 r hr;subst e1;(repeat' (first |refine qv ?_ |apply qn |apply qs |apply qr |refine qe ?_|fail));refine qc (CM (-1) (by omega) (by omega)) ?_;refine Ay rfl [] h rfl rfl (AB _) rfl trivial rfl rfl rfl rfl rfl ?_;(repeat' (first |refine Fl.nil (fun _ => by kernel_rfl) ?_ |refine qe ?_ |apply qt));exact ⟨⟨[], _, _, AK _ _ _, rfl, AA _, rfl, ⟨⟨⟨_, rfl, BLe.cells (AB _)⟩, rfl⟩, ⟨⟨_, rfl, BLe.cells (AB _)⟩, rfl⟩, trivial⟩, rfl, rfl⟩⟩
 ·have e1 := hr2 hg;subst e1;(repeat' (first |refine qv ?_ |apply qn |apply qs |apply qr |refine qe ?_|fail));refine qc (CM (-1) (by omega) (by omega)) ?_;exact Ax rfl [] h rfl (AB _) rfl trivial rfl (fun _ => by kernel_rfl) (fun _ => rfl)
theorem pSub_ok (V : Nat) (hV : V ≤ 32) (p q : PZ) (hwp : WP p) (hwq : WP q) (hp : OkP p) (hq : OkP q) (hpv : p.vars = V) (hqv : q.vars = V) (r : AV)
  (hr1 : ∀ x, SumOk V (Ba (-1) p q) x → r = .tup [aP x, aN 0]) (hr2 : (¬ ∃ x, SumOk V (Ba (-1) p q) x) → r = .tup [aP ⟨0, []⟩, aN 4]) :
  PureFn Tryz.prog 161 [aP p, aP q] r := by
 refine AC Tryz.func161 rfl Tryz.ntmps161 rfl rfl ?_;have hb := both_ok p q hwp hwq;rw [bothE_ok hp hq, if_pos (hpv.trans hqv.symm)] at hb;(repeat' (first |refine qv ?_ |apply qn |apply qs |apply qr |refine qe ?_|fail));refine qc (hb) ?_;(repeat' (first |refine qv ?_ |apply qn |apply qs |apply qr |refine AF rfl ?_ |apply qk));by_cases hg : ∃ x, SumOk V (Ba (-1) p q) x
 ·obtain ⟨x, hx⟩ := hg;rw [hr1 x hx]
  have hx' : ∀ y, SumOk V (Ba (-1) p q) y → (Res.ret (aP x)) = .ret (aP y) := fun y hy => by
   have := (hr1 x hx).symm.trans (hr1 y hy);injection this with this;injection this with this;rw [this]
  refine Ay rfl [(900, 2), (901, 3)] (tried_ret (Sub1_io V hV p q hwp hwq hp hq hpv hqv (.ret (aP x)) hx' (fun h => absurd ⟨x, hx⟩ h))) rfl rfl (AB _) rfl ⟨⟨⟨_, rfl, BLe.cells (AB _)⟩, rfl⟩, ⟨⟨_, rfl, BLe.cells (AB _)⟩, rfl⟩, trivial⟩ rfl rfl rfl rfl rfl ?_;(repeat' (first |refine qv ?_ |apply qn |refine qe ?_ |apply qt));exact RetOk.of rfl (AA _)
 ·rw [hr2 hg];refine Ay rfl [(900, 2), (901, 3)] (tried_thr (Sub1_io V hV p q hwp hwq hp hq hpv hqv _ (fun y hy => absurd ⟨y, hy⟩ hg) (fun _ => rfl))) rfl rfl (AB _) rfl ⟨⟨⟨_, rfl, BLe.cells (AB _)⟩, rfl⟩, ⟨⟨_, rfl, BLe.cells (AB _)⟩, rfl⟩, trivial⟩ rfl rfl rfl rfl rfl ?_;(repeat' (first |refine qv ?_ |apply qn |refine qe ?_ |apply qt));exact RetOk.of rfl (AA _)
end Go.Proofs.YtmmfloplhopioaaGreat
/- poly.Var, poly.Const; expr's Kit: New, V, N, Sub, Add, Mul. -/
namespace Go.AL
def unU (V i : Nat) : List Int := (List.replicate V 0).set i 1
def varU (V i : Nat) : List UT := [(1, unU V i)]
def conU (V : Nat) (c : Int) : List UT := if c = 0 then [] else [(c, List.replicate V 0)]
def B9 (V : Nat) : List UT → List (List UT) → Bool
  | acc, [] => chkU V acc acc
  | acc, p :: l => chkU V acc acc && chkU V p p && chkU V (Bk 1 acc p) (addL acc p) && B9 V (addL acc p) l
def Ci (V : Nat) : List UT → List (List UT) → Bool
  | acc, [] => chkU V acc acc
  | acc, p :: l => chkU V acc acc && chkU V p p && degU acc p && chkU V (Bu acc p) (C4 acc p) && Ci V (C4 acc p) l
def A5 (acc : List UT) (l : List (List UT)) : List UT := l.foldl addL acc
def Av (acc : List UT) (l : List (List UT)) : List UT := l.foldl C4 acc
end Go.AL
namespace Go.Proofs.YtmmfloplhopioaaGreat
open Go.AL
abbrev aK (V : Nat) : AV := .agg [aN V]
theorem pVarP_ok (V i : Nat) (hV : V ≤ 32) (hi : i < V) : PureFn Tryz.prog 159 [aN V, aN i] (.tup [aP (mkP V (varU V i)), aN 0]) := by
 refine AC Tryz.func159 rfl Tryz.ntmps159 rfl rfl ?_;refine AE ?_;(repeat' (first |refine qv ?_ |apply qn |apply qr |refine qe ?_|fail));refine ⟨AE ?_⟩;(repeat' (first |refine qv ?_ |apply qn |apply qs |apply qr |(refine AD rfl ?_ ?_ <;> intro _ <;> try (exfalso; omega)) |apply qk |(refine AH rfl rfl ?_ ?_ <;> intro _ <;> try (exfalso; omega))));refine ⟨AE ?_⟩;(repeat' (first |refine qv ?_ |apply qn |apply qr |refine Bp rfl rfl rfl rfl rfl rfl rfl rfl rfl rfl eI 0 (by exact AB _) (by rfl) (by first | omega | (dsimp only; omega)) (by first | omega | (dsimp only; omega)) (by first | omega | (dsimp only; omega)) ?_|fail));refine ⟨AE ?_⟩;(repeat' (first |refine qv ?_ |apply qn |apply qr |refine Aq rfl rfl rfl rfl rfl rfl rfl rfl (by omega) (by first | omega | (simp; omega)) ?_ |refine A9 rfl rfl rfl rfl rfl rfl rfl rfl rfl rfl rfl (AB _) rfl (by first | omega | (simp; omega)) ?_|fail));refine ⟨?_⟩;refine Am (Ent.freeze 24 rfl) ?_;(repeat' (first |refine qv ?_ |apply qs |apply qr));refine qc (CM 1 (by omega) (by omega)) ?_;(repeat' (first |refine qv ?_ |refine qe ?_|fail));refine ql eT [⟨zOf 1, unU V i⟩] ?_;(repeat' (first |refine qv ?_ |apply qn |refine qe ?_ |apply qt));exact RetOk.of rfl (AA _)
theorem xCopy_ok (X : List Int) (hX : ∀ x ∈ X, Fit x) (hl : X.length ≤ 1000000) : PureFn Tryz.prog 216 [.sl 2 eX X] (.sl 2 eX X) := by
 refine AC Tryz.func216 rfl Tryz.ntmps216 rfl rfl ?_;refine AE ?_;(repeat' (first |refine qv ?_ |apply qn |apply qr));refine ⟨AE ?_⟩;(repeat' (first |refine qv ?_ |apply qr));refine Bp rfl rfl rfl rfl rfl rfl rfl rfl rfl rfl eX 0 (by exact DW (σ := []) rfl) (by rfl) (by omega) (by dsimp only; omega) (by omega) ?_;(repeat' (first |refine qv ?_ |apply qn));refine ⟨?_⟩;refine Cb (G := Unit) (fun _ => True) (fun _ => AU [] [(3, .row 8)] [(8, .row 2 eX X 48)]) ?_ ?_
 ·(repeat' (first |refine qv ?_ |apply qn |apply qs |apply qr |apply qb));refine AWP.loop (G := Nat) (fun i => i ≤ X.length) (fun i => AU [] [(3, .row 8), (9, .sl 2 eX X), (10, aN X.length), (11, aN i)] [(8, .row 2 eX (X.take i ++ List.replicate (X.length - i) 0) 48)]) (fun i => X.length - i) 0 (by omega) ?_ ?_
  ·refine Ent.of [] ?_ ?_ rfl rfl;(repeat' (first |exact True.intro |refine ⟨⟨AA _, rfl⟩, ?_⟩ |refine ⟨⟨⟨_, rfl, BLe.row rfl⟩, rfl⟩, ?_⟩|fail))
  ·intro i h0
   have hli : (X.take i ++ List.replicate (X.length - i) (0 : Int)).length = X.length := by simp; omega
   (repeat' (first |refine qv ?_ |apply qn |apply qs |apply qr |refine qe ?_ |(refine AD rfl ?_ ?_ <;> intro _ <;> try (exfalso; omega)) |apply qb |apply qk |apply qx |(refine Aw rfl rfl rfl rfl rfl rfl rfl rfl (by omega) (by omega) ?_; intro _ _)|fail))
   ·rename_i hi x hx;rw [Int.toNat_natCast] at hx;have hxl := (hX x (List.mem_of_getElem? hx)).len;refine Fl.ap0C rfl rfl rfl rfl rfl rfl rfl eW rfl (fun _ => rfl) (fun _ => rfl) (AA _) (by dsimp only; omega) (by omega) ?_;(repeat' (first |refine qv ?_ |apply qn |refine Fl.nil (fun _ => by kernel_rfl) ?_ |apply qr |refine qw ?_ |refine qe ?_ |refine Aq rfl rfl rfl rfl rfl rfl rfl rfl (by omega) (by first | omega | (simp; omega)) ?_ |refine A9 rfl rfl rfl rfl rfl rfl rfl rfl rfl rfl rfl (AB _) rfl (by first | omega | (simp; omega)) ?_|fail));refine LoopEnd.of (i + 1) (by omega) (by omega) ?_;refine Ent.of [] ?_ ?_ rfl rfl;(repeat' (first |exact True.intro |refine ⟨⟨AA _, rfl⟩, ?_⟩ |refine ⟨⟨⟨_, rfl, BLe.row ?_⟩, rfl⟩, ?_⟩|fail));rw [Ad hx];exact CP (by rw [List.length_take]; omega) (by omega) rfl
   ·have hi : i = X.length := by omega
    refine JoinOk.of () trivial ?_;refine Ent.of [] ?_ ?_ rfl rfl;(repeat' (first |exact True.intro |refine ⟨⟨AA _, rfl⟩, ?_⟩ |refine ⟨⟨⟨_, rfl, BLe.row ?_⟩, rfl⟩, ?_⟩|fail));rw [hi]; simp
 ·intro _ _;(repeat' (first |refine qv ?_ |apply qn |apply qs |apply qr |apply qt));refine Ap (Ent.freeze 8 rfl) ?_;exact RetOk.of rfl (AA _)
theorem constant_ok (V : Nat) (x : Int) (hV : V ≤ 32) (hx : Fit x) : PureFn Tryz.prog 191 [aN V, aX x] (aP (mkP V (conU V x))) := by
 refine AC Tryz.func191 rfl Tryz.ntmps191 rfl rfl ?_;refine AE ?_;(repeat' (first |apply qn |apply qr |refine qe ?_|fail));refine ⟨AE ?_⟩;(repeat' (first |refine qv ?_ |apply qn |apply qr |refine qe ?_|fail));refine ⟨?_⟩;refine AWP.seq ?_;(repeat' (first |refine qv ?_ |apply qs |apply qr));refine qc (ZeroX_ok x) ?_;(repeat' (first |refine qv ?_ |apply qn |apply qs |apply qr |refine qe ?_ |(refine Aa rfl ?_ ?_ <;> intro _ <;> try (exfalso; omega)) |apply qk |apply qt))
 ·rename_i h0;refine ql eX [x] ?_;have e0 : [x][(0 : Int).toNat]? = some x := rfl;refine qc (xCopy_ok [x] (by simp [hx]) (by simp)) ?_;(repeat' (first | refine Fl.v rfl rfl rfl ?_ | refine Fl.elK rfl rfl rfl rfl rfl rfl rfl rfl (by assumption) (by omega) ?_ | fail));refine Fl.makeC rfl rfl rfl rfl rfl rfl rfl rfl rfl eI 0 (by exact AB _) (by rfl) (by omega) (by dsimp only; omega) (by omega) ?_;(repeat' (first |refine qe ?_|fail));refine ql eT [⟨zOf x, List.replicate V 0⟩] ?_;(repeat' (first |refine qv ?_ |apply qn |refine Fl.nil (fun _ => by kernel_rfl) ?_ |apply qs |apply qr |refine qe ?_ |apply qt));refine RetOk.of rfl ?_;rw [conU, if_neg h0];exact AA _
 ·rename_i h0;refine RetOk.of rfl ?_;rw [conU, if_pos h0];exact AV.Le.agg (LeL.cons (AA _) (LeL.cons (AV.Le.nil 3 eT) LeL.nil))
theorem pConstP_ok (V : Nat) (x : Int) (hV : V ≤ 32) (hx : Fit x) : PureFn Tryz.prog 158 [aN V, aX x] (.tup [aP (mkP V (conU V x)), aN 0]) := by
 refine AC Tryz.func158 rfl Tryz.ntmps158 rfl rfl ?_;(repeat' (first |refine qv ?_ |apply qn |apply qs |apply qr |refine qe ?_|fail));refine qc (Valid_int x hx) ?_;(repeat' (first |refine qv ?_ |apply qn |apply qs |apply qr |refine AF rfl ?_ |(refine AD rfl ?_ ?_ <;> intro _ <;> try (exfalso; omega)) |apply qk));refine qc (constant_ok V x hV hx) ?_;(repeat' (first |refine qv ?_ |apply qn |refine qe ?_ |apply qt));exact RetOk.of rfl (AA _)
theorem kNew_ok (V : Nat) : PureFn Tryz.prog 101 [aN V] (aK V) := by
 refine AC Tryz.func101 rfl Tryz.ntmps101 rfl rfl ?_;(repeat' (first |refine qv ?_ |apply qn |apply qs |apply qr |refine qe ?_ |apply qt));exact RetOk.of rfl (AA _)
theorem Be (V i : Nat) (hV : V ≤ 32) (hi : i < V) : PureFn Tryz.prog 104 [aK V, aN i] (aP (mkP V (varU V i))) := by
 refine AC Tryz.func104 rfl Tryz.ntmps104 rfl rfl ?_;(repeat' (first |refine qv ?_ |apply qn |apply qs |apply qr |refine qe ?_|fail));refine qc (pVarP_ok V i hV hi) ?_;(repeat' (first |refine qv ?_ |apply qn |apply qs |apply qr |refine qe ?_ |apply qt));exact RetOk.of rfl (AA _)
theorem Do (V : Nat) (c : Int) (hV : V ≤ 32) (h0 : -4294967296 < c) (h1 : c < 4294967296) : PureFn Tryz.prog 103 [aK V, aN c] (aP (mkP V (conU V c))) := by
 refine AC Tryz.func103 rfl Tryz.ntmps103 rfl rfl ?_;(repeat' (first |refine qv ?_ |apply qn |apply qs |apply qr |refine qe ?_|fail));refine qc (CM c (by omega) (by omega)) ?_;refine qc (pConstP_ok V c hV (Bb (by omega) (by omega))) ?_;(repeat' (first |refine qv ?_ |apply qn |refine Fl.nil (fun _ => by kernel_rfl) ?_ |apply qs |apply qr |refine qe ?_ |apply qt));exact RetOk.of rfl (AA _)
theorem subMk (V : Nat) (hV : V ≤ 32) (p q l : List UT) (hp : chkU V p p = true) (hq : chkU V q q = true) (h : chkU V (Bk (-1) p q) l = true) : PureFn Tryz.prog 161 [aP (mkP V p), aP (mkP V q)] (.tup [aP (mkP V l), aN 0]) := by
 obtain ⟨p1, p2, p3⟩ := mk_ok hV hp;obtain ⟨q1, q2, q3⟩ := mk_ok hV hq
 have hs : SumOk V (Ba (-1) (mkP V p) (mkP V q)) (mkP V l) := by rw [plusU_mk]; exact chkU_ok hV h
 exact pSub_ok V hV _ _ p3 q3 p1 q1 p2 q2 _ (fun x hx => by rw [hs.uniq hx]) (fun k => absurd ⟨_, hs⟩ k)
theorem kSub_ok (V : Nat) (hV : V ≤ 32) (p q l : List UT) (hp : chkU V p p = true) (hq : chkU V q q = true) (h : chkU V (Bk (-1) p q) l = true) : PureFn Tryz.prog 106 [aK V, aP (mkP V p), aP (mkP V q)] (aP (mkP V l)) := by
 refine AC Tryz.func106 rfl Tryz.ntmps106 rfl rfl ?_;(repeat' (first |refine qv ?_ |apply qn |apply qs |apply qr |refine qe ?_|fail));refine qc (subMk V hV p q l hp hq h) ?_;(repeat' (first |refine qv ?_ |apply qn |apply qs |apply qr |refine qe ?_ |apply qt));exact RetOk.of rfl (AA _)
end Go.Proofs.YtmmfloplhopioaaGreat
/- Lists of terms az the reference holds them: bounds. -/
namespace Go.AL
theorem lenI_add {x y : Int} {M : Nat} (hx : lenI x ≤ M) (hy : lenI y ≤ M) : lenI (x + y) ≤ M + 1 := by
 rw [lenI_le] at *
 rw [BC];have := Bc M;omega
theorem lenI_zero : lenI 0 = 0 := by
 have := (lenI_le (x := 0) (n := 0)).2 (by simp [DB]);omega
def okT (V M : Nat) (l : List UT) : Prop := ∀ u ∈ l, u.2.length = V ∧ EOk u.2 ∧ lenI u.1 ≤ M
theorem okT.nil (V M : Nat) : okT V M [] := fun u h => by simp at h
theorem okT.mono {V M N : Nat} {l : List UT} (h : okT V M l) (hm : M ≤ N) : okT V N l := fun u hu => ⟨(h u hu).1, (h u hu).2.1, Nat.le_trans (h u hu).2.2 hm⟩
theorem okT.append {V M : Nat} {a b : List UT} (ha : okT V M a) (hb : okT V M b) : okT V M (a ++ b) := fun u hu => (List.mem_append.1 hu).elim (ha u) (hb u)
theorem okT.sub {V M : Nat} {a b : List UT} (h : okT V M a) (hs : ∀ u ∈ b, u ∈ a) : okT V M b := fun u hu => h u (hs u hu)
theorem okT.terms {V M : Nat} {l : List UT} (h : okT V M l) : TermsOk V M (l.map tz) := by
 refine ⟨?_, ?_, ?_, ?_⟩ <;> (intro t ht; obtain ⟨u, hu, rfl⟩ := List.mem_map.1 ht)
 ·exact Ak _
 ·show zOf u.1 = zOf (zval (zOf u.1)); rw [BO]
 ·exact ⟨(h u hu).2.1, (h u hu).1⟩
 ·show lenI (zval (zOf u.1)) ≤ M; rw [BO]; exact (h u hu).2.2
theorem cfU_len {V M : Nat} {l : List UT} (hc : CanU l) (h : okT V M l) (e : List Int) : lenI (cfU l e) ≤ M := by
 by_cases hz : cfU l e = 0
 ·rw [hz, lenI_zero]; omega
 ·obtain ⟨u, hu, he⟩ := cfU_mem hz;rw [← he, cfU_one hc.pw hu];exact (h u hu).2.2
theorem okT.can {V M : Nat} {a b : List UT} (ca : CanU a) (cb : CanU b) (ha : okT V M a) (hb : okT V M b) : okT V (M + 1) (canU (a ++ b)) := fun u hu => by
 obtain ⟨w, hw, he⟩ := canU_mem hu;have h1 := (ha.append hb) w hw;refine ⟨by rw [he]; exact h1.1, by rw [he]; exact h1.2.1, ?_⟩;have := ((canU_can (a ++ b)).mem_iff u).1 hu;rw [← this.2, cfU_canU, cfU_append];exact lenI_add (cfU_len ca ha _) (cfU_len cb hb _)
theorem insU_length (u : UT) : ∀ l : List UT, (insU u l).length ≤ l.length + 1
 | [] => by unfold insU; split <;> simp
 | w :: l => by
  unfold insU;split
  ·split <;> simp
  ·split
   ·split <;> simp <;> omega
   ·have := insU_length u l;simp; omega
theorem canU_length : ∀ l : List UT, (canU l).length ≤ l.length
 | [] => Nat.le_refl _
 | u :: l => by
  show (insU u (canU l)).length ≤ _;have := insU_length u (canU l);have := canU_length l;simp; omega
theorem conU_can (V : Nat) (c : Int) : canU [(c, List.replicate V 0)] = conU V c := by
 show insU _ [] = _;unfold insU conU;rfl
theorem okT.con {V M : Nat} {c : Int} (h : lenI c ≤ M) : okT V M (conU V c) := by
 unfold conU;split
 ·exact okT.nil V M
 ·intro u hu;simp only [List.mem_singleton] at hu;subst hu;exact ⟨by simp, EOk.zeros V, h⟩
theorem CanU.one {u : UT} (h : u.1 ≠ 0) : CanU [u] := CanU.nil.cons h (by simp)
theorem conU_canU (V : Nat) (c : Int) : CanU (conU V c) := by rw [← conU_can]; exact canU_can _
theorem EOk.unU (V i : Nat) : EOk (unU V i) := fun e he => by
 unfold Go.AL.unU at he;rcases List.mem_or_eq_of_mem_set he with h | h
 ·rw [List.eq_of_mem_replicate h]; omega
 ·omega
end Go.AL
/- Kit.Add, Kit.Mul. -/
namespace Go.AL
theorem okSums_cons {V : Nat} {acc p : List UT} {l : List (List UT)} (h : B9 V acc (p :: l) = true) : chkU V acc acc = true ∧ chkU V p p = true ∧ chkU V (Bk 1 acc p) (addL acc p) = true ∧ B9 V (addL acc p) l = true := by
 simp only [B9, Bool.and_eq_true] at h;exact ⟨h.1.1.1, h.1.1.2, h.1.2, h.2⟩
theorem okMuls_cons {V : Nat} {acc p : List UT} {l : List (List UT)} (h : Ci V acc (p :: l) = true) : chkU V acc acc = true ∧ chkU V p p = true ∧ degU acc p = true ∧ chkU V (Bu acc p) (C4 acc p) = true ∧ Ci V (C4 acc p) l = true := by
 simp only [Ci, Bool.and_eq_true] at h;exact ⟨h.1.1.1.1, h.1.1.1.2, h.1.1.2, h.1.2, h.2⟩
theorem drop_cons {α : Type} {l : List α} {i : Nat} {x : α} (h : l[i]? = some x) : l.drop i = x :: l.drop (i + 1) := by
 have hi := List.getElem?_eq_some_iff.1 h;rw [List.drop_eq_getElem_cons hi.1, hi.2]
end Go.AL
namespace Go.Proofs.YtmmfloplhopioaaGreat
open Go.AL
theorem C9 (V : Nat) (hV : V ≤ 32) (ls : List (List UT)) (hl : ls.length ≤ 1000) (h : B9 V [] ls = true) : PureFn Tryz.prog 105 [aK V, .sl 2 eP (ls.map (mkP V))] (aP (mkP V (A5 [] ls))) := by
 refine AC Tryz.func105 rfl Tryz.ntmps105 rfl rfl ?_;have hN := Do V 0 hV (by omega) (by omega);rw [show conU V 0 = [] from rfl] at hN;refine AE ?_;(repeat' (first |apply qn |apply qr |refine qe ?_|fail));refine ⟨AE ?_⟩;(repeat' (first |refine qv ?_ |apply qr));refine qc (hN) ?_;(repeat' (first |apply qn |refine qe ?_|fail));refine ⟨?_⟩;obtain ⟨L, hL⟩ : ∃ L, L = ls.map (mkP V) := ⟨_, rfl⟩
 have hLl : L.length = ls.length := by rw [hL, List.length_map]
 rw [← hL];(repeat' (first |refine qv ?_ |apply qn |apply qs |apply qr |apply qb));refine AWP.loop (G := Nat × List UT) (fun (i, acc) => i ≤ ls.length ∧ B9 V acc (ls.drop i) = true ∧ A5 acc (ls.drop i) = A5 [] ls) (fun (i, acc) => AU [] [(4, .ptr 4 0), (5, .ptr 5 0), (10, .sl 2 eP L), (11, aN L.length), (12, aN i)] [(4, .cells [aN 0, .v (.slice none 0 0)] 105), (5, .cells (eP (mkP V acc)) 105)]) (fun (i, acc) => ls.length - i) (0, []) ⟨by omega, h, rfl⟩ ?_ ?_
 ·refine Ent.of [] ?_ ?_ rfl rfl;(repeat' (first |exact True.intro |refine ⟨⟨AA _, rfl⟩, ?_⟩ |refine ⟨⟨⟨_, rfl, BLe.cells (AB _)⟩, rfl⟩, ?_⟩|fail))
 ·intro ⟨i, acc⟩ ⟨h0, h1, h2⟩;(repeat' (first |refine qv ?_ |apply qn |apply qs |apply qr |refine qe ?_ |(refine AD rfl ?_ ?_ <;> intro _ <;> try (exfalso; omega)) |apply qb |apply qk |apply qx |apply qt |(refine Aw rfl rfl rfl rfl rfl rfl rfl rfl (by omega) (by omega) ?_; intro _ _)|fail))
  ·rename_i hi p hp;rw [Int.toNat_natCast, hL, List.getElem?_map] at hp;obtain ⟨q, hq, rfl⟩ := Option.map_eq_some_iff.1 hp;rw [drop_cons hq] at h1 h2;obtain ⟨c1, c2, c3, c4⟩ := okSums_cons h1;refine qc (addMk V hV acc q _ c1 c2 c3) ?_;(repeat' (first |refine qv ?_ |apply qn |apply qr |refine qw ?_ |refine qe ?_|fail));refine LoopEnd.of (i + 1, addL acc q) ⟨by omega, c4, h2⟩ (by simp only; omega) ?_;refine Ent.of [] ?_ ?_ rfl rfl;(repeat' (first |exact True.intro |refine ⟨⟨AA _, rfl⟩, ?_⟩ |refine ⟨⟨⟨_, rfl, BLe.cells (AB _)⟩, rfl⟩, ?_⟩|fail))
  ·rename_i hi;rw [List.drop_of_length_le (by omega)] at h2;refine RetOk.of rfl (AR ?_);rw [← h2]; rfl
theorem CV (V : Nat) (hV : V ≤ 32) (ls : List (List UT)) (hl : ls.length ≤ 1000) (h : Ci V (conU V 1) ls = true) : PureFn Tryz.prog 102 [aK V, .sl 2 eP (ls.map (mkP V))] (aP (mkP V (Av (conU V 1) ls))) := by
 refine AC Tryz.func102 rfl Tryz.ntmps102 rfl rfl ?_;have hN := Do V 1 hV (by omega) (by omega);refine AE ?_;(repeat' (first |apply qn |apply qr |refine qe ?_|fail));refine ⟨AE ?_⟩;(repeat' (first |refine qv ?_ |apply qr));refine qc (hN) ?_;(repeat' (first |apply qn |refine qe ?_|fail));refine ⟨?_⟩;obtain ⟨L, hL⟩ : ∃ L, L = ls.map (mkP V) := ⟨_, rfl⟩
 have hLl : L.length = ls.length := by rw [hL, List.length_map]
 rw [← hL];(repeat' (first |refine qv ?_ |apply qn |apply qs |apply qr |apply qb));refine AWP.loop (G := Nat × List UT) (fun (i, acc) => i ≤ ls.length ∧ Ci V acc (ls.drop i) = true ∧ Av acc (ls.drop i) = Av (conU V 1) ls) (fun (i, acc) => AU [] [(4, .ptr 4 0), (5, .ptr 5 0), (10, .sl 2 eP L), (11, aN L.length), (12, aN i)] [(4, .cells [aN 0, .v (.slice none 0 0)] 105), (5, .cells (eP (mkP V acc)) 105)]) (fun (i, acc) => ls.length - i) (0, conU V 1) ⟨by omega, h, rfl⟩ ?_ ?_
 ·refine Ent.of [] ?_ ?_ rfl rfl;(repeat' (first |exact True.intro |refine ⟨⟨AA _, rfl⟩, ?_⟩ |refine ⟨⟨⟨_, rfl, BLe.cells (AB _)⟩, rfl⟩, ?_⟩|fail))
 ·intro ⟨i, acc⟩ ⟨h0, h1, h2⟩;(repeat' (first |refine qv ?_ |apply qn |apply qs |apply qr |refine qe ?_ |(refine AD rfl ?_ ?_ <;> intro _ <;> try (exfalso; omega)) |apply qb |apply qk |apply qx |apply qt |(refine Aw rfl rfl rfl rfl rfl rfl rfl rfl (by omega) (by omega) ?_; intro _ _)|fail))
  ·rename_i hi p hp;rw [Int.toNat_natCast, hL, List.getElem?_map] at hp;obtain ⟨q, hq, rfl⟩ := Option.map_eq_some_iff.1 hp;rw [drop_cons hq] at h1 h2;obtain ⟨c1, c2, c3, c4, c5⟩ := okMuls_cons h1;refine qc (mulMk V hV acc q _ c1 c2 c3 c4) ?_;(repeat' (first |refine qv ?_ |apply qn |apply qr |refine qw ?_ |refine qe ?_|fail));refine LoopEnd.of (i + 1, C4 acc q) ⟨by omega, c5, h2⟩ (by simp only; omega) ?_;refine Ent.of [] ?_ ?_ rfl rfl;(repeat' (first |exact True.intro |refine ⟨⟨AA _, rfl⟩, ?_⟩ |refine ⟨⟨⟨_, rfl, BLe.cells (AB _)⟩, rfl⟩, ?_⟩|fail))
  ·rename_i hi;rw [List.drop_of_length_le (by omega)] at h2;refine RetOk.of rfl (AR ?_);rw [← h2]; rfl
end Go.Proofs.YtmmfloplhopioaaGreat
/- Kit.Link: its closures; what occurs. -/
namespace Go.AL
def occL (V : Nat) (ls : List (List UT)) : List Nat := (List.range V).filter fun i => ls.any fun p => p.any fun u => decide (0 < u.2.getD i 0)
def Cp (occ : List Nat) (e : List Int) : List Int := occ.map fun i => e.getD i 0
def D4 (occ : List Nat) (p : List UT) : List UT := p.map fun u => (u.1, Cp occ u.2)
def Bo (V : Nat) (kind : Int) (ls : List (List UT)) : LZ := ⟨kind, (occL V ls).map fun (i : Nat) => (i : Int), ls.map fun p => mkP (occL V ls).length (D4 (occL V ls) p)⟩
end Go.AL
namespace Go.Proofs.YtmmfloplhopioaaGreat
open Go.AL
abbrev iB (i : Int) : List (AL.Id × Bx) := [(900, .cells [aN i] 3)]
theorem idxT_ok (o : Int) (f : TZ → Bool) (ps : List TZ) (hl : ps.length ≤ 1000000) (hf : ∀ p ∈ ps, IoFn Tryz.prog 197 ([aT p] ++ [.ptr 900 0]) (iB o) (.ret (aB (f p))) (iB o)) :
  IoFn Tryz.prog 217 [.sl 3 eT ps, .fn 197 [.ptr 900 0]] (iB o) (.ret (aN (idxI f ps 0))) (iB o) := by
 refine AG Tryz.func217 rfl Tryz.ntmps217 rfl rfl rfl ?_;(repeat' (first |refine qv ?_ |apply qn |apply qs |apply qr |apply qb));refine AWP.loop (G := Nat) (fun i => i ≤ ps.length ∧ idxI f (ps.drop i) i = idxI f ps 0) (fun i => AU [900] [(0, .sl 3 eT ps), (1, .fn 197 [.ptr 900 0]), (7, aN ps.length), (8, aN i)] [(900, .cells [aN o] 3)]) (fun i => ps.length - i) 0 ⟨by omega, by simp⟩ ?_ ?_
 ·refine Ent.of [] ?_ ?_ rfl rfl;(repeat' (first |exact True.intro |refine ⟨⟨AA _, rfl⟩, ?_⟩ |refine ⟨⟨⟨_, rfl, BLe.cells (AB _)⟩, rfl⟩, ?_⟩|fail))
 ·intro i ⟨k0, k1⟩;(repeat' (first |refine qv ?_ |apply qn |apply qs |apply qr |(refine AD rfl ?_ ?_ <;> intro _ <;> try (exfalso; omega)) |apply qb |apply qk |apply qx |apply qt |(refine Aw rfl rfl rfl rfl rfl rfl rfl rfl (by omega) (by omega) ?_; intro _ _)|fail))
  ·rename_i hi p hp;rw [Int.toNat_natCast] at hp;have hd := EA (f := f) hp;refine Dg rfl rfl [] (hf p (List.mem_of_getElem? hp)) rfl rfl (AB _) rfl ⟨⟨⟨_, rfl, BLe.cells (AB _)⟩, rfl⟩, trivial⟩ rfl rfl rfl rfl rfl ?_;(repeat' (first |refine qv ?_ |apply qn |apply qs |apply qr |refine qw ?_ |apply qk |apply qt |(refine BN rfl ?_ ?_ <;> intro _)))
   ·rename_i hb;rw [if_pos hb] at hd;refine ⟨⟨[], _, _, AK _ _ _, rfl, AV.Le.int ?_, rfl, ⟨⟨⟨_, rfl, BLe.cells (AB _)⟩, rfl⟩, trivial⟩, rfl, rfl⟩⟩;rw [← k1, hd]
   ·rename_i hb;rw [if_neg (by rw [hb]; simp)] at hd;refine LoopEnd.of (i + 1) ⟨by omega, by rw [← k1, hd]⟩ (by omega) ?_;refine Ent.of [] ?_ ?_ rfl rfl;(repeat' (first |exact True.intro |refine ⟨⟨AA _, rfl⟩, ?_⟩ |refine ⟨⟨⟨_, rfl, BLe.cells (AB _)⟩, rfl⟩, ?_⟩|fail))
  ·refine ⟨⟨[], _, _, AK _ _ _, rfl, AV.Le.int ?_, rfl, ⟨⟨⟨_, rfl, BLe.cells (AB _)⟩, rfl⟩, trivial⟩, rfl, rfl⟩⟩;rw [← k1, List.drop_of_length_le (by omega)]; rfl
theorem conT_ok (o : Int) (f : TZ → Bool) (ps : List TZ) (hl : ps.length ≤ 1000000) (hf : ∀ p ∈ ps, IoFn Tryz.prog 197 ([aT p] ++ [.ptr 900 0]) (iB o) (.ret (aB (f p))) (iB o)) :
  IoFn Tryz.prog 196 [.sl 3 eT ps, .fn 197 [.ptr 900 0]] (iB o) (.ret (aB (ps.any f))) (iB o) := by
 refine AG Tryz.func196 rfl Tryz.ntmps196 rfl rfl rfl ?_;have h := idxT_ok o f ps hl hf;have he := EB f ps 0 (by omega);(repeat' (first |refine qv ?_ |apply qn |apply qs |apply qr));refine qi [] h ?_;(repeat' (first |refine qv ?_ |apply qn |apply qt));exact ⟨⟨[], _, _, AK _ _ _, rfl, AV.Le.bool he, rfl, ⟨⟨⟨_, rfl, BLe.cells (AB _)⟩, rfl⟩, trivial⟩, rfl, rfl⟩⟩
theorem link11_ok (i : Nat) (t : TZ) (hi : i < t.e.length) : IoFn Tryz.prog 197 [aT t, .ptr 900 0] (iB i) (.ret (aB (decide (0 < t.e.getD i 0)))) (iB i) := by
 refine AG Tryz.func197 rfl Tryz.ntmps197 rfl rfl rfl ?_;(repeat' (first |refine qv ?_ |apply qn |apply qs |apply qr |refine qe ?_ |apply qt |(refine Aw rfl rfl rfl rfl rfl rfl rfl rfl (by omega) (by omega) ?_; intro _ _)|fail));rename_i x hx
 have hx : t.e[i]? = some x := by simpa using hx
 refine ⟨⟨[], _, _, AK _ _ _, rfl, AV.Le.bool ?_, rfl, ⟨⟨⟨_, rfl, BLe.cells (AB _)⟩, rfl⟩, trivial⟩, rfl, rfl⟩⟩;rw [List.getD_eq_getElem?_getD, hx];rfl
theorem idxK_ok (o : Int) (f : PZ → Bool) (ps : List PZ) (hl : ps.length ≤ 1000000) (hf : ∀ p ∈ ps, IoFn Tryz.prog 195 ([aP p] ++ [.ptr 900 0]) (iB o) (.ret (aB (f p))) (iB o)) :
  IoFn Tryz.prog 200 [.sl 2 eP ps, .fn 195 [.ptr 900 0]] (iB o) (.ret (aN (idxI f ps 0))) (iB o) := by
 refine AG Tryz.func200 rfl Tryz.ntmps200 rfl rfl rfl ?_;(repeat' (first |refine qv ?_ |apply qn |apply qs |apply qr |apply qb));refine AWP.loop (G := Nat) (fun i => i ≤ ps.length ∧ idxI f (ps.drop i) i = idxI f ps 0) (fun i => AU [900] [(0, .sl 2 eP ps), (1, .fn 195 [.ptr 900 0]), (7, aN ps.length), (8, aN i)] [(900, .cells [aN o] 3)]) (fun i => ps.length - i) 0 ⟨by omega, by simp⟩ ?_ ?_
 ·refine Ent.of [] ?_ ?_ rfl rfl;(repeat' (first |exact True.intro |refine ⟨⟨AA _, rfl⟩, ?_⟩ |refine ⟨⟨⟨_, rfl, BLe.cells (AB _)⟩, rfl⟩, ?_⟩|fail))
 ·intro i ⟨k0, k1⟩;(repeat' (first |refine qv ?_ |apply qn |apply qs |apply qr |(refine AD rfl ?_ ?_ <;> intro _ <;> try (exfalso; omega)) |apply qb |apply qk |apply qx |apply qt |(refine Aw rfl rfl rfl rfl rfl rfl rfl rfl (by omega) (by omega) ?_; intro _ _)|fail))
  ·rename_i hi p hp;rw [Int.toNat_natCast] at hp;have hd := EA (f := f) hp;refine Dg rfl rfl [] (hf p (List.mem_of_getElem? hp)) rfl rfl (AB _) rfl ⟨⟨⟨_, rfl, BLe.cells (AB _)⟩, rfl⟩, trivial⟩ rfl rfl rfl rfl rfl ?_;(repeat' (first |refine qv ?_ |apply qn |apply qs |apply qr |refine qw ?_ |apply qk |apply qt |(refine BN rfl ?_ ?_ <;> intro _)))
   ·rename_i hb;rw [if_pos hb] at hd;refine ⟨⟨[], _, _, AK _ _ _, rfl, AV.Le.int ?_, rfl, ⟨⟨⟨_, rfl, BLe.cells (AB _)⟩, rfl⟩, trivial⟩, rfl, rfl⟩⟩;rw [← k1, hd]
   ·rename_i hb;rw [if_neg (by rw [hb]; simp)] at hd;refine LoopEnd.of (i + 1) ⟨by omega, by rw [← k1, hd]⟩ (by omega) ?_;refine Ent.of [] ?_ ?_ rfl rfl;(repeat' (first |exact True.intro |refine ⟨⟨AA _, rfl⟩, ?_⟩ |refine ⟨⟨⟨_, rfl, BLe.cells (AB _)⟩, rfl⟩, ?_⟩|fail))
  ·refine ⟨⟨[], _, _, AK _ _ _, rfl, AV.Le.int ?_, rfl, ⟨⟨⟨_, rfl, BLe.cells (AB _)⟩, rfl⟩, trivial⟩, rfl, rfl⟩⟩;rw [← k1, List.drop_of_length_le (by omega)]; rfl
theorem conK_ok (o : Int) (f : PZ → Bool) (ps : List PZ) (hl : ps.length ≤ 1000000) (hf : ∀ p ∈ ps, IoFn Tryz.prog 195 ([aP p] ++ [.ptr 900 0]) (iB o) (.ret (aB (f p))) (iB o)) :
  IoFn Tryz.prog 174 [.sl 2 eP ps, .fn 195 [.ptr 900 0]] (iB o) (.ret (aB (ps.any f))) (iB o) := by
 refine AG Tryz.func174 rfl Tryz.ntmps174 rfl rfl rfl ?_;have h := idxK_ok o f ps hl hf;have he := EB f ps 0 (by omega);(repeat' (first |refine qv ?_ |apply qn |apply qs |apply qr));refine qi [] h ?_;(repeat' (first |refine qv ?_ |apply qn |apply qt));exact ⟨⟨[], _, _, AK _ _ _, rfl, AV.Le.bool he, rfl, ⟨⟨⟨_, rfl, BLe.cells (AB _)⟩, rfl⟩, trivial⟩, rfl, rfl⟩⟩
theorem linkK1_ok (i : Nat) (p : PZ) (hl : p.terms.length ≤ 1000000) (hi : ∀ t ∈ p.terms, i < t.e.length) : IoFn Tryz.prog 195 [aP p, .ptr 900 0] (iB i) (.ret (aB (p.terms.any fun t => decide (0 < t.e.getD i 0)))) (iB i) := by
 refine AG Tryz.func195 rfl Tryz.ntmps195 rfl rfl rfl ?_;have h := conT_ok i (fun t => decide (0 < t.e.getD i 0)) p.terms hl (fun t ht => link11_ok i t (hi t ht));(repeat' (first |refine qv ?_ |apply qn |apply qs |apply qr |refine qe ?_|fail))
 refine qi [] h ?_;(repeat' (first |refine qv ?_ |apply qn |apply qt));exact ⟨⟨[], _, _, AK _ _ _, rfl, AA _, rfl, ⟨⟨⟨_, rfl, BLe.cells (AB _)⟩, rfl⟩, trivial⟩, rfl, rfl⟩⟩
end Go.Proofs.YtmmfloplhopioaaGreat
/- Kit.Link, Kit.Eq: the walk. -/
namespace Go.AL
def occP (ls : List (List UT)) (i : Nat) : Bool := ls.any fun p => p.any fun u => decide (0 < u.2.getD i 0)
def occI (ls : List (List UT)) (i : Nat) : List Int := ((List.range i).filter (occP ls)).map fun (j : Nat) => (j : Int)
theorem occI_step (ls : List (List UT)) (i : Nat) : occI ls (i + 1) = if occP ls i = true then occI ls i ++ [(i : Int)] else occI ls i := by
 unfold occI;rw [List.range_succ, List.filter_append, List.map_append];by_cases h : occP ls i = true
 ·rw [if_pos h]; simp [h]
 ·rw [if_neg h]; simp [h]
theorem occI_len (ls : List (List UT)) (i : Nat) : (occI ls i).length ≤ i := by
 unfold occI;rw [List.length_map];exact Nat.le_trans (List.length_filter_le _ _) (by simp)
theorem occI_mem {ls : List (List UT)} {V : Nat} {x : Int} (h : x ∈ occI ls V) : 0 ≤ x ∧ x < V := by
 unfold occI at h;obtain ⟨j, hj, rfl⟩ := List.mem_map.1 h;have := (List.mem_filter.1 hj).1;rw [List.mem_range] at this;omega
theorem occP_any (V : Nat) (ls : List (List UT)) (i : Nat) : ((ls.map (mkP V)).any fun p => p.terms.any fun t => decide (0 < t.e.getD i 0)) = occP ls i := by
 unfold occP;rw [List.any_map];congr 1;funext p;simp only [Function.comp, mkP, List.any_map];rfl
def pickX (occ : List Int) (e : List Int) : List Int := occ.map fun x => e.getD x.toNat 0
theorem pickX_eq (occ : List Nat) (e : List Int) : pickX (occ.map fun (i : Nat) => (i : Int)) e = Cp occ e := by
 unfold pickX Cp;rw [List.map_map];rfl
end Go.AL
namespace Go.Proofs.YtmmfloplhopioaaGreat
open Go.AL
set_option maxHeartbeats 1000000 in
theorem kLink_ok (V : Nat) (kind : Int) (ls : List (List UT)) (hV : V ≤ 32) (hl : ls.length ≤ 1000) (hk : ∀ p ∈ ls, p.length ≤ 3000 ∧ ∀ u ∈ p, u.2.length = V) : PureFn Tryz.prog 162 [aK V, aN kind, .sl 2 eP (ls.map (mkP V))] (aL (Bo V kind ls)) := by
 refine AC Tryz.func162 rfl Tryz.ntmps162 rfl rfl ?_;obtain ⟨L, hL⟩ : ∃ L, L = ls.map (mkP V) := ⟨_, rfl⟩
 have hLl : L.length = ls.length := by rw [hL, List.length_map]
 rw [← hL]
 have hcon : ∀ i : Nat, i < V → IoFn Tryz.prog 174 [.sl 2 eP L, .fn 195 [.ptr 900 0]] (iB i) (.ret (aB (occP ls i))) (iB i) := fun i hi => by
  have h := conK_ok i (fun p => p.terms.any fun t => decide (0 < t.e.getD i 0)) L (by omega) (fun p hp => by
   rw [hL] at hp;obtain ⟨q, hq, rfl⟩ := List.mem_map.1 hp;have := hk q hq;refine linkK1_ok i (mkP V q) (by simp only [mkP, List.length_map]; omega) (fun t ht => ?_);obtain ⟨u, hu, rfl⟩ := List.mem_map.1 ht;have := this.2 u hu;show i < u.2.length
   omega)
  rw [hL, occP_any] at h;rw [hL];exact h
 refine AE ?_;(repeat' (first |apply qn |apply qr |refine qe ?_|fail));refine ⟨AE ?_⟩;(repeat' (first |refine qv ?_ |apply qn |apply qr |refine qe ?_|fail));refine ⟨?_⟩;refine Am (CN 7 1 805 rfl rfl rfl 1 eI 3) ?_;(repeat' (first |refine qv ?_ |apply qn |apply qs |apply qr |apply qb));refine AWP.loop (G := Nat) (fun i => i ≤ V) (fun i => AU [] [(2, .sl 2 eP L), (6, .ptr 6 0), (7, .ptr 7 0), (20, aN V), (21, aN i)] [(6, .cells [aN 0, .v (.slice none 0 0), .v (.slice none 0 0)] 99), (7, .cells [aN kind, .row 700, .v (.slice none 0 0)] 99), (700, .row 1 eI (occI ls i) 3)]) (fun i => V - i) 0 (by omega) ?_ ?_
 ·refine Ent.of [(700, 805)] ?_ ?_ rfl rfl;(repeat' (first |exact True.intro |refine ⟨⟨AA _, rfl⟩, ?_⟩ |refine ⟨⟨⟨_, rfl, BLe.cells (AB _)⟩, rfl⟩, ?_⟩ |refine ⟨⟨⟨_, rfl, BLe.row rfl⟩, rfl⟩, ?_⟩|fail))
 ·intro i k0;have hol := occI_len ls i;have hst := occI_step ls i;(repeat' (first |refine qv ?_ |apply qn |apply qs |apply qr |refine qe ?_ |(refine AD rfl ?_ ?_ <;> intro _ <;> try (exfalso; omega)) |apply qb |apply qk |apply qx))
  ·rename_i hi;refine qi [(900, 8)] (hcon i (by omega)) ?_;(repeat' (first |refine qv ?_ |apply qn |apply qr |refine qw ?_ |apply qk |(refine BN rfl ?_ ?_ <;> intro _)))
   ·rename_i hb;rw [if_pos hb] at hst;refine ql eI [(i : Int)] ?_;refine qa (hby := (by dsimp only [List.length_nil, List.length_cons]; omega)) (hm := (by simp; omega)) (r := ?_);(repeat' (first |refine qv ?_ |apply qn |apply qr |refine qw ?_ |refine qe ?_|fail));refine LoopEnd.of (i + 1) (by omega) (by omega) ?_;refine Ent.of [(700, 31)] ?_ ?_ rfl rfl;(repeat' (first |exact True.intro |refine ⟨⟨AA _, rfl⟩, ?_⟩ |refine ⟨⟨⟨_, rfl, BLe.cells (AB _)⟩, rfl⟩, ?_⟩ |refine ⟨⟨⟨_, rfl, BLe.row ?_⟩, rfl⟩, ?_⟩|fail));exact hst.symm
   ·rename_i hb;rw [if_neg (by rw [hb]; simp)] at hst;refine LoopEnd.of (i + 1) (by omega) (by omega) ?_;refine Ent.of [] ?_ ?_ rfl rfl;(repeat' (first |exact True.intro |refine ⟨⟨AA _, rfl⟩, ?_⟩ |refine ⟨⟨⟨_, rfl, BLe.cells (AB _)⟩, rfl⟩, ?_⟩ |refine ⟨⟨⟨_, rfl, BLe.row ?_⟩, rfl⟩, ?_⟩|fail));exact hst.symm
  ·rename_i hi
   have hiV : i = V := by omega
   subst hiV;have hom : ∀ (m : Nat) (x : Int), (occI ls i)[m]? = some x → 0 ≤ x ∧ x < i := fun m x hx => occI_mem (List.mem_of_getElem? hx);have hocc : occI ls i = (occL i ls).map fun (i : Nat) => (i : Int) := rfl
   have hon : (occL i ls).length = (occI ls i).length := by rw [hocc, List.length_map]
   have hres : Bo i kind ls = ⟨kind, occI ls i, ls.map fun p => mkP (occI ls i).length (p.map fun u => (u.1, pickX (occI ls i) u.2))⟩ := by
    unfold Bo;rw [← hocc, hon];congr 1;refine List.map_congr_left fun p _ => ?_;unfold D4;congr 1;refine List.map_congr_left fun u _ => ?_;rw [hocc, pickX_eq]
   rw [hres]
   generalize occI ls i = occ at *
   refine Am (Ent.freeze 700 rfl) ?_;refine Am (CN 7 2 806 rfl rfl rfl 2 eP 105) ?_;refine AWP.loop (G := Nat) (fun j => j ≤ ls.length) (fun j => AU [] [(6, .ptr 6 0), (7, .ptr 7 0), (34, .sl 2 eP L), (35, aN L.length), (36, aN j)] [(6, .cells [aN 0, .v (.slice none 0 0), .v (.slice none 0 0)] 99), (7, .cells [aN kind, aI occ, .row 701] 99), (701, .row 2 eP ((ls.take j).map fun p => mkP occ.length (p.map fun u => (u.1, pickX occ u.2))) 105)]) (fun j => ls.length - j) 0 (by omega) ?_ ?_
   ·refine Ent.of [(701, 806)] ?_ ?_ rfl rfl;(repeat' (first |exact True.intro |refine ⟨⟨AA _, rfl⟩, ?_⟩ |refine ⟨⟨⟨_, rfl, BLe.cells (AB _)⟩, rfl⟩, ?_⟩ |refine ⟨⟨⟨_, rfl, BLe.row rfl⟩, rfl⟩, ?_⟩|fail))
   ·intro j g0
    have hlj : ((ls.take j).map fun p => mkP occ.length (p.map fun u => (u.1, pickX occ u.2))).length = j := by rw [List.length_map, List.length_take]; omega
    by_cases hj : j < ls.length
    ·obtain ⟨q, hq⟩ : ∃ q, ls[j]? = some q := ⟨_, List.getElem?_eq_getElem hj⟩
     have hLq : L[j]? = some (mkP i q) := by rw [hL, List.getElem?_map, hq]; rfl
     obtain ⟨hq1, hq2⟩ := hk q (List.mem_of_getElem? hq);refine AE ?_;(repeat' (first |refine qv ?_ |apply qn |apply qr));refine ⟨?_⟩;refine AE ?_;(repeat' (first |(refine AD rfl ?_ ?_ <;> intro _ <;> try (exfalso; omega)) |apply qk));refine ⟨?_⟩;refine AWP.seq (AWP.block (AE ?_));(repeat' (first |refine qv ?_ |apply qn |apply qr |refine qe ?_ |refine qK ?_|fail));refine ⟨?_⟩;refine AE ?_;(repeat' (first |refine qv ?_ |apply qn |apply qr |refine qe ?_|fail));refine ⟨?_⟩;refine Am (CN 11 1 807 rfl rfl rfl 3 eT 158) ?_;(repeat' (first |refine qv ?_ |apply qn |apply qs |apply qr |apply qb));obtain ⟨T, hT⟩ : ∃ T, T = (mkP i q).terms := ⟨_, rfl⟩
     have hTl : T.length = q.length := by rw [hT]; simp [mkP]
     refine AWP.loop (G := Nat) (fun k => k ≤ q.length) (fun k => AU [] [(6, .ptr 6 0), (7, .ptr 7 0), (34, .sl 2 eP L), (35, aN L.length), (36, aN j), (11, .ptr 11 0), (45, .sl 3 eT T), (46, aN T.length), (47, aN k)] [(6, .cells [aN 0, .v (.slice none 0 0), .v (.slice none 0 0)] 99), (7, .cells [aN kind, aI occ, .row 701] 99), (701, .row 2 eP ((ls.take j).map fun p => mkP occ.length (p.map fun u => (u.1, pickX occ u.2))) 105), (11, .cells [aN occ.length, .row 702] 105), (702, .row 3 eT (((q.take k).map fun u => (u.1, pickX occ u.2)).map tz) 158)]) (fun k => q.length - k) 0 (by omega) ?_ ?_
     ·refine Ent.of [(702, 807)] ?_ ?_ rfl rfl;(repeat' (first |exact True.intro |refine ⟨⟨AA _, rfl⟩, ?_⟩ |refine ⟨⟨⟨_, rfl, BLe.cells (AB _)⟩, rfl⟩, ?_⟩ |refine ⟨⟨⟨_, rfl, BLe.row rfl⟩, rfl⟩, ?_⟩ |refine ⟨⟨AV.Le.int ?_, rfl⟩, ?_⟩ |refine ⟨⟨AV.Le.sl ?_, rfl⟩, ?_⟩|fail))
      ·exact hT.symm
      ·rw [hTl]; simp [mkP]
     ·intro k e0
      have hlk : (((q.take k).map fun u => (u.1, pickX occ u.2)).map tz).length = k := by rw [List.length_map, List.length_map, List.length_take]; omega
      by_cases hkq : k < q.length
      ·obtain ⟨u, hu⟩ : ∃ u, q[k]? = some u := ⟨_, List.getElem?_eq_getElem hkq⟩
       have hTu : T[k]? = some (tz u) := by rw [hT]; show (q.map tz)[k]? = _; rw [List.getElem?_map, hu]; rfl
       have hul := hq2 u (List.mem_of_getElem? hu);refine AE ?_;(repeat' (first |refine qv ?_ |apply qn |apply qr));refine ⟨?_⟩;refine AE ?_;(repeat' (first |(refine AD rfl ?_ ?_ <;> intro _ <;> try (exfalso; omega)) |apply qk));refine ⟨AWP.seq (AWP.block (AE ?_))⟩;(repeat' (first |refine qv ?_ |apply qn |apply qr |refine qe ?_ |refine qK ?_|fail));refine ⟨AE ?_⟩;(repeat' (first |refine qv ?_ |apply qr));refine Fl.make0 rfl rfl rfl rfl rfl rfl rfl rfl rfl eI (by omega) (by dsimp only; omega) (by omega) ?_;(repeat' (first |refine qv ?_ |apply qn));refine ⟨AWP.seq ?_⟩;(repeat' (first |refine qv ?_ |apply qn |apply qs |apply qr |apply qb));refine AWP.loop (G := Nat) (fun m => m ≤ occ.length) (fun m => AU [] [(6, .ptr 6 0), (7, .ptr 7 0), (34, .sl 2 eP L), (35, aN L.length), (36, aN j), (11, .ptr 11 0), (45, .sl 3 eT T), (46, aN T.length), (47, aN k), (13, .ptr 13 0), (14, .row 703), (56, aI occ), (57, aN occ.length), (58, aN m)] [(6, .cells [aN 0, .v (.slice none 0 0), .v (.slice none 0 0)] 99), (7, .cells [aN kind, aI occ, .row 701] 99), (701, .row 2 eP ((ls.take j).map fun p => mkP occ.length (p.map fun u => (u.1, pickX occ u.2))) 105), (11, .cells [aN occ.length, .row 702] 105), (702, .row 3 eT (((q.take k).map fun u => (u.1, pickX occ u.2)).map tz) 158), (13, .cells (eT (tz u)) 158), (703, .row 1 eI ((occ.take m).map fun x => u.2.getD x.toNat 0) 3)]) (fun m => occ.length - m) 0 (by omega) ?_ ?_
       ·refine Ent.of [(703, 54)] ?_ ?_ rfl rfl;(repeat' (first |exact True.intro |refine ⟨⟨AA _, rfl⟩, ?_⟩ |refine ⟨⟨⟨_, rfl, BLe.cells (AB _)⟩, rfl⟩, ?_⟩ |refine ⟨⟨⟨_, rfl, BLe.row rfl⟩, rfl⟩, ?_⟩|fail))
       ·intro m m0
        have hlm : ((occ.take m).map fun x => u.2.getD x.toNat 0).length = m := by rw [List.length_map, List.length_take]; omega
        by_cases hm : m < occ.length
        ·obtain ⟨x, hx⟩ : ∃ x, occ[m]? = some x := ⟨_, List.getElem?_eq_getElem hm⟩;have hxb := hom m x hx;obtain ⟨y, hy⟩ : ∃ y, u.2[x.toNat]? = some y := ⟨_, List.getElem?_eq_getElem (by omega)⟩;(repeat' (first |refine qv ?_ |apply qn |apply qs |apply qr |(refine AD rfl ?_ ?_ <;> intro _ <;> try (exfalso; omega)) |apply qb |apply qk |refine qK ?_|fail));refine ql eI [y] ?_;refine qa (hby := (by dsimp only [List.length_nil, List.length_cons]; omega)) (hm := (by dsimp only [List.length_nil, List.length_cons]; omega)) (r := ?_);(repeat' (first |refine qv ?_ |apply qn |apply qr |refine qw ?_|fail));refine LoopEnd.of (m + 1) (by omega) (by omega) ?_;refine Ent.of [(703, 69)] ?_ ?_ rfl rfl;(repeat' (first |exact True.intro |refine ⟨⟨AA _, rfl⟩, ?_⟩ |refine ⟨⟨⟨_, rfl, BLe.cells (AB _)⟩, rfl⟩, ?_⟩ |refine ⟨⟨⟨_, rfl, BLe.row rfl⟩, rfl⟩, ?_⟩ |refine ⟨⟨⟨_, rfl, BLe.row ?_⟩, rfl⟩, ?_⟩|fail));rw [Ad hx, List.map_append];congr 1;show [y] = [u.2.getD x.toNat 0];rw [List.getD_eq_getElem?_getD, hy];rfl
        ·have htm : occ.take m = occ := List.take_of_length_le (by omega);rw [htm];refine Am (Ent.freeze 703 rfl) ?_;(repeat' (first |refine qv ?_ |apply qn |apply qs |apply qr |refine qe ?_ |(refine AD rfl ?_ ?_ <;> intro _ <;> try (exfalso; omega)) |apply qx));refine ql eT [tz (u.1, pickX occ u.2)] ?_;refine qa (hby := (by dsimp only [List.length_nil, List.length_cons]; omega)) (hm := (by dsimp only [List.length_nil, List.length_cons]; omega)) (r := ?_);(repeat' (first |refine qv ?_ |apply qn |apply qr |refine qw ?_ |refine qe ?_|fail));refine LoopEnd.of (k + 1) (by omega) (by omega) ?_;refine Ent.of [(702, 78)] ?_ ?_ rfl rfl;(repeat' (first |exact True.intro |refine ⟨⟨AA _, rfl⟩, ?_⟩ |refine ⟨⟨⟨_, rfl, BLe.cells (AB _)⟩, rfl⟩, ?_⟩ |refine ⟨⟨⟨_, rfl, BLe.row rfl⟩, rfl⟩, ?_⟩ |refine ⟨⟨⟨_, rfl, BLe.row ?_⟩, rfl⟩, ?_⟩|fail));rw [Ad hu, List.map_append, List.map_append];rfl
      ·have htk : q.take k = q := List.take_of_length_le (by omega);rw [htk];refine Am (Ent.freeze 702 rfl) ?_;(repeat' (first |refine qv ?_ |apply qn |apply qs |apply qr |(refine AD rfl ?_ ?_ <;> intro _ <;> try (exfalso; omega)) |apply qx));refine ql eP [mkP occ.length (q.map fun u => (u.1, pickX occ u.2))] ?_;refine qa (hby := (by dsimp only [List.length_nil, List.length_cons]; omega)) (hm := (by dsimp only [List.length_nil, List.length_cons]; omega)) (r := ?_);(repeat' (first |refine qv ?_ |apply qn |apply qr |refine qw ?_ |refine qe ?_|fail));refine LoopEnd.of (j + 1) (by omega) (by omega) ?_;refine Ent.of [(701, 85)] ?_ ?_ rfl rfl;(repeat' (first |exact True.intro |refine ⟨⟨AA _, rfl⟩, ?_⟩ |refine ⟨⟨⟨_, rfl, BLe.cells (AB _)⟩, rfl⟩, ?_⟩ |refine ⟨⟨⟨_, rfl, BLe.row ?_⟩, rfl⟩, ?_⟩|fail));rw [Ad hq, List.map_append];rfl
    ·have htj : ls.take j = ls := List.take_of_length_le (by omega);rw [htj];refine Am (Ent.freeze 701 rfl) ?_;(repeat' (first |refine qv ?_ |apply qn |apply qs |apply qr |refine qe ?_ |(refine AD rfl ?_ ?_ <;> intro _ <;> try (exfalso; omega)) |apply qx |apply qt));exact RetOk.of rfl (AA _)
theorem kEq_ok (V : Nat) (hV : V ≤ 32) (p q l : List UT) (hp : chkU V p p = true) (hq : chkU V q q = true) (h : chkU V (Bk (-1) p q) l = true) (hl : l.length ≤ 3000 ∧ ∀ u ∈ l, u.2.length = V) : PureFn Tryz.prog 108 [aK V, aP (mkP V p), aP (mkP V q)] (aL (Bo V 0 [l])) := by
 refine AC Tryz.func108 rfl Tryz.ntmps108 rfl rfl ?_;have hk := kLink_ok V 0 [l] hV (by simp) (by simpa using hl);(repeat' (first |refine qv ?_ |apply qn |apply qs |apply qr |refine qe ?_|fail));refine qc (kSub_ok V hV p q l hp hq h) ?_;refine ql eP [mkP V l] ?_;refine qc (hk) ?_;(repeat' (first |refine Fl.nil (fun _ => by kernel_rfl) ?_ |refine qe ?_ |apply qt));exact RetOk.of rfl (AA _)
end Go.Proofs.YtmmfloplhopioaaGreat
/- Method values of plain receivers: made, called. -/
namespace Go.AL
section
variable {P : Program} {tab : Tab} {n : Nat} {s : St}
variable {ops : Array Oper} {draw : Dr} {o : Oper} {l : List Oper} {acc : List Eff} {K : Exit → St → Prop}
abbrev bfn (f : FuncId) (us : List Value) : AV := .v (.func (.func f) #[.agg us.toArray] #[])
theorem Runs.bound {f : FuncId} {x : Operand} {args : List Operand} {ts : Array TypeId} {us : List Value} (hop : o.op = .call { callee := .value x, args := ⟨args⟩, argTypes := ts }) (hx : opd s x = bfn f us) : Runs P n o s f (.v (.agg us.toArray) :: opds s args) := by
 refine ⟨fun s' C a w h β hs k => ?_⟩
 have hxs : opd s' x = opd s x := by
  cases x with
  | tmp t => exact hs t (by rw [hop]; simp [Op.operands, Call.operands])
  | _ => rfl
 have hxr := AJ k x;rw [hxs, hx] at hxr;simp only [Rep] at hxr
 have hps : opds s' args = opds s args := Cg args fun x hx => by
  cases x with
  | tmp t => exact hs t (by rw [hop]; simp [Op.operands, Call.operands, hx])
  | _ => rfl
 have hr := Br k args;rw [hps] at hr;refine ⟨#[.agg us.toArray] ++ (args.map a.eval).toArray, fun hfn => ?_, ?_⟩
 ·simp only [execOp, hop, resolve, hxr, Deferred.ofValue, Sem.run_bind, Sem.run_pure, Result.andThen, invoke, List.map_toArray];have := Bh hfn (#[.agg us.toArray] ++ (args.map a.eval).toArray) w;simpa using this
 ·simp only [RepL];exact ⟨.agg us.toArray, args.map a.eval, by simp, by simp only [Rep], hr⟩
end
end Go.AL
/- arithmancy/mask.Links: the system. Written by links.py. -/
namespace Go.AL
end Go.AL
namespace Go.Proofs.YtmmfloplhopioaaGreat
open Go.AL
end Go.Proofs.YtmmfloplhopioaaGreat
/- The values of built links. -/
namespace Go.AL
theorem pick_prod (P : Nat → Bool) (Y E : List Int) : ∀ (n k : Nat), (∀ i, k ≤ i → i < k + n → P i = false → E.getD i 0 = 0) →
  AW (((List.range' k n).filter P).map fun i => Y.getD i 0) (((List.range' k n).filter P).map fun i => E.getD i 0) = AW ((List.range' k n).map fun i => Y.getD i 0) ((List.range' k n).map fun i => E.getD i 0)
 | 0, k, _ => rfl
 | n + 1, k, h => by
  have ih := pick_prod P Y E n (k + 1) fun i h1 h2 h3 => h i (by omega) (by omega) h3;rw [List.range'_succ, List.filter_cons];by_cases hp : P k = true
  ·rw [if_pos hp];simp only [List.map_cons, AW, ih]
  ·rw [if_neg hp, ih];have h0 := h k (Nat.le_refl _) (by omega) (by simpa using hp);simp only [List.map_cons, AW, h0];simp
theorem map_range_getD {V : Nat} {X : List Int} (h : X.length = V) : ((List.range V).map fun i => X.getD i 0) = X := by
 subst h;refine List.ext_getElem (by simp) fun i h1 h2 => ?_;simp [List.getD_eq_getElem?_getD, List.getElem?_eq_getElem h2]
def auv (X : List Int) (p : List UT) : Int := sumL (p.map fun u => ((u.1 * AW X u.2).natAbs : Int))
theorem pick_term {V : Nat} {X : List Int} (hX : X.length = V) {ls : List (List UT)} {p : List UT} (hp : p ∈ ls) {u : UT} (hu : u ∈ p) (hl : u.2.length = V) (he : EOk u.2) :
  AW (atOf X ((occL V ls).map fun (i : Nat) => (i : Int))) (Cp (occL V ls) u.2) = AW X u.2 := by
 have e1 : atOf X ((occL V ls).map fun (i : Nat) => (i : Int)) = (occL V ls).map fun i => X.getD i 0 := by
  unfold atOf;rw [List.map_map];rfl
 have h := pick_prod (occP ls) X u.2 V 0 fun i _ h2 h3 => by
  have hb : i < u.2.length := by omega
  have hn : ¬ 0 < u.2.getD i 0 := fun hc => by
   have : occP ls i = true := List.any_eq_true.2 ⟨p, hp, List.any_eq_true.2 ⟨u, hu, by simpa using hc⟩⟩;rw [this] at h3; cases h3
  have hge : 0 ≤ u.2.getD i 0 := by
   rw [List.getD_eq_getElem?_getD, List.getElem?_eq_getElem hb];exact (he _ (List.getElem_mem hb)).1
  omega
 rw [← List.range_eq_range'] at h;rw [e1];unfold Cp occL;rw [show (List.filter (fun i => ls.any fun p => p.any fun u => decide (0 < u.2.getD i 0)) (List.range V)) = (List.range V).filter (occP ls) from rfl, h, map_range_getD hX, map_range_getD hl]
theorem tv_tz (X : List Int) (u : UT) : tv X (tz u) = u.1 * AW X u.2 := by
 show zval (zOf u.1) * AW X u.2 = _;rw [BO]
def nnU (V : Nat) (p : List UT) : Prop := ∀ u ∈ p, u.2.length = V ∧ EOk u.2
theorem pick_val {V n : Nat} {X : List Int} (hX : X.length = V) {ls : List (List UT)} {p : List UT} (hp : p ∈ ls) (hl : nnU V p) :
  pv (atOf X ((occL V ls).map fun (i : Nat) => (i : Int))) (mkP n (D4 (occL V ls) p)) = uv X p := by
 rw [pv_sum];unfold mkP D4 uv;simp only [List.map_map];congr 1;refine List.map_congr_left fun u hu => ?_;show tv _ (tz (u.1, Cp (occL V ls) u.2)) = _;rw [tv_tz, pick_term hX hp hu (hl u hu).1 (hl u hu).2]
theorem pick_abs {V n : Nat} {X : List Int} (hX : X.length = V) {ls : List (List UT)} {p : List UT} (hp : p ∈ ls) (hl : nnU V p) :
  AS (atOf X ((occL V ls).map fun (i : Nat) => (i : Int))) (mkP n (D4 (occL V ls) p)).terms = auv X p := by
 unfold mkP D4 AS auv;simp only [List.map_map];congr 1;refine List.map_congr_left fun u hu => ?_;show ((tv _ (tz (u.1, Cp (occL V ls) u.2))).natAbs : Int) = _;rw [tv_tz, pick_term hX hp hu (hl u hu).1 (hl u hu).2]
theorem lvals_linkU {V : Nat} {X : List Int} (hX : X.length = V) {kind : Int} {ls : List (List UT)} (h : ∀ p ∈ ls, nnU V p) : lvals X (Bo V kind ls) = ls.map (uv X) := by
 unfold lvals Bo;simp only [List.map_map];exact List.map_congr_left fun p hp => pick_val hX hp (h p hp)
theorem plop_abs (v : Int) : 0 ≤ plI v ∧ plI v ≤ v.natAbs ∧ opI v ≤ 0 ∧ -(v.natAbs : Int) ≤ opI v := by
 unfold plI opI;split <;> omega
theorem PS_ASm (X : List Int) : ∀ l : List TZ, 0 ≤ PS X l ∧ PS X l ≤ AS X l ∧ OS X l ≤ 0 ∧ -AS X l ≤ OS X l
 | [] => by simp [PS, OS, AS, sumL]
 | t :: l => by
  have h1 := PS_ASm X l;have h2 := plop_abs (tv X t);simp only [PS, AS, OS, List.map_cons, sumL] at h1 ⊢;omega
theorem EvOk.ofA {X : List Int} {p : PZ} (h : Fit (AS X p.terms)) : EvOk X p := by
 have h1 := PS_ASm X p.terms;exact ⟨h.le (by omega), h.le (by omega)⟩
theorem evL_linkU {V : Nat} {X : List Int} (hX : X.length = V) {kind : Int} {ls : List (List UT)} (h : ∀ p ∈ ls, nnU V p) (hf : ∀ p ∈ ls, Fit (auv X p)) : EvL X (Bo V kind ls) := by
 intro q hq;obtain ⟨p, hp, rfl⟩ := List.mem_map.1 hq;refine EvOk.ofA ?_;show Fit (AS (atOf X ((occL V ls).map fun (i : Nat) => (i : Int))) (mkP (occL V ls).length (D4 (occL V ls) p)).terms);rw [pick_abs hX hp (h p hp)];exact hf p hp
def okLU (V : Nat) (kind : Int) (ls : List (List UT)) : Bool :=
  decide (BT kind ≠ 0) && decide ((ls.length : Int) = BT kind) && ls.all (fun p => chkU (occL V ls).length (D4 (occL V ls) p) (D4 (occL V ls) p) && p.all (okU V))
theorem EX (P : Nat → Bool) : ∀ (n k : Nat) (last top : Int), last < k → ((k + n : Nat) : Int) ≤ top → incB last top (((List.range' k n).filter P).map fun (i : Nat) => (i : Int))
 | 0, _, _, _, _, _ => by simp [incB]
 | n + 1, k, last, top, h1, h2 => by
  rw [List.range'_succ, List.filter_cons];by_cases hp : P k = true
  ·rw [if_pos hp];simp only [List.map_cons, incB];exact ⟨h1, by omega, EX P n (k + 1) k top (by omega) (by omega)⟩
  ·rw [if_neg hp];exact EX P n (k + 1) last top (by omega) (by omega)
theorem okLU_ok {V : Nat} (hV : V ≤ 32) {kind : Int} {ls : List (List UT)} (h : okLU V kind ls = true) : OkL V (Bo V kind ls) ∧ WL (Bo V kind ls) ∧ ∀ p ∈ ls, nnU V p := by
 simp only [okLU, Bool.and_eq_true, decide_eq_true_eq, List.all_eq_true] at h;obtain ⟨⟨h1, h2⟩, h3⟩ := h
 have hn : (occL V ls).length ≤ V := by
  unfold occL;exact Nat.le_trans (List.length_filter_le _ _) (by simp)
 refine ⟨⟨h1, by simp only [Bo, List.length_map]; exact h2, by simp only [Bo, List.length_map]; omega, ?_, fun q hq => ?_⟩, fun q hq => ?_, fun p hp u hu => okU_ok ((h3 p hp).2 u hu)⟩
 ·have := EX (occP ls) V 0 (-1) V (by omega) (by omega);rw [← List.range_eq_range'] at this;exact this
 ·obtain ⟨p, hp, rfl⟩ := List.mem_map.1 hq;obtain ⟨a, b, c⟩ := mk_ok (V := (occL V ls).length) (by omega) (h3 p hp).1;exact ⟨by simp [Bo, mkP], a⟩
 ·obtain ⟨p, hp, rfl⟩ := List.mem_map.1 hq;exact (mk_ok (V := (occL V ls).length) (by omega) (h3 p hp).1).2.2
end Go.AL
/- The values of built polynomials; bounds. -/
namespace Go.AL
theorem Dl : ∀ (X : List Int) (n : Nat), AW X (List.replicate n 0) = 1
 | [], 0 => rfl
 | [], _ + 1 => rfl
 | _ :: _, 0 => rfl
 | x :: X, n + 1 => by rw [List.replicate_succ, AW, Dl X n]; simp
theorem prodE_unit : ∀ (X : List Int) (i : Nat), i < X.length → AW X (unU X.length i) = X.getD i 0
 | [], i, h => by simp at h
 | x :: X, 0, _ => by
  unfold unU;rw [List.length_cons, List.replicate_succ, List.set_cons_zero, AW, Dl];simp [Int.pow_succ]
 | x :: X, i + 1, h => by
  have ih := prodE_unit X i (by simpa using h);unfold unU at ih ⊢;rw [List.length_cons, List.replicate_succ, List.set_cons_succ, AW, ih];simp
theorem Cv (X : List Int) (V : Nat) (c : Int) : uv X (conU V c) = c := by
 unfold conU uv;split
 ·rename_i h; rw [h]; rfl
 ·simp [sumL, Dl]
theorem Cu {X : List Int} {V i : Nat} (hX : X.length = V) (hi : i < V) : uv X (varU V i) = X.getD i 0 := by
 subst hX;unfold varU uv;simp only [List.map_cons, List.map_nil, sumL, prodE_unit X i hi];omega
theorem pv_mkP (X : List Int) (V : Nat) (p : List UT) : pv X (mkP V p) = uv X p := by
 rw [pv_sum];unfold mkP uv;simp only [List.map_map];congr 1;exact List.map_congr_left fun u _ => tv_tz X u
theorem chkU_UOk {V : Nat} {us l : List UT} (h : chkU V us l = true) : UOk V us := by
 simp only [chkU, Bool.and_eq_true, List.all_eq_true] at h;exact fun u hu => okU_ok (h.1.1.1.1.1.1.1 u hu)
theorem uv_chk {V : Nat} (hV : V ≤ 32) {us l : List UT} (h : chkU V us l = true) (X : List Int) : uv X l = uv X us := by
 have := (chkU_ok hV h).val hV (chkU_UOk h) X;rwa [pv_mkP] at this
theorem uv_scale (X : List Int) (b : Int) (q : List UT) : uv X (q.map fun u => (u.1 * b, u.2)) = uv X q * b := by
 unfold uv
 induction q with
 | nil => simp [sumL]
 | cons u q ih =>
  simp only [List.map_cons, sumL] at ih ⊢;rw [ih]; grind
theorem uv_addUs (X : List Int) (b : Int) (p q : List UT) : uv X (Bk b p q) = uv X p + uv X q * b := by
 unfold Bk;rw [uv_append, uv_scale]
theorem uv_mulUs {V : Nat} (X : List Int) {p q : List UT} (hp : nnU V p) (hq : nnU V q) : uv X (Bu p q) = uv X p * uv X q := by
 unfold Bu
 induction p with
 | nil => simp [uv, sumL]
 | cons t p ih =>
  rw [List.flatMap_cons, uv_append, ih fun u hu => hp u (by simp [hu])];have ht := hp t (by simp)
  have h1 : uv X (q.map fun u => (t.1 * u.1, addE t.2 u.2)) = t.1 * AW X t.2 * uv X q := by
   clear ih;unfold uv
   induction q with
   | nil => simp [sumL]
   | cons u q ih2 =>
    have hu := hq u (by simp);simp only [List.map_cons, sumL];rw [ih2 fun v hv => hq v (by simp [hv]), prodE_add ht.2 hu.2 (by rw [ht.1, hu.1])];grind
  rw [h1];show _ = (t.1 * AW X t.2 + uv X p) * uv X q;grind
theorem chk_nn {V : Nat} {p : List UT} (h : chkU V p p = true) : nnU V p := chkU_UOk h
theorem uv_sums {V : Nat} (hV : V ≤ 32) (X : List Int) : ∀ (ls : List (List UT)) (acc : List UT), B9 V acc ls = true → uv X (A5 acc ls) = uv X acc + sumL (ls.map (uv X))
 | [], acc, _ => by simp [A5, sumL]
 | p :: ls, acc, h => by
  obtain ⟨c1, c2, c3, c4⟩ := okSums_cons h;show uv X (A5 (addL acc p) ls) = _;rw [uv_sums hV X ls _ c4, uv_chk hV c3, uv_addUs];simp only [List.map_cons, sumL];omega
def prodL : List Int → Int
  | [] => 1
  | x :: l => x * prodL l
theorem uv_muls {V : Nat} (hV : V ≤ 32) (X : List Int) : ∀ (ls : List (List UT)) (acc : List UT), Ci V acc ls = true → uv X (Av acc ls) = uv X acc * prodL (ls.map (uv X))
 | [], acc, _ => by simp [Av, prodL]
 | p :: ls, acc, h => by
  obtain ⟨c1, c2, c3, c4, c5⟩ := okMuls_cons h;show uv X (Av (C4 acc p) ls) = _;rw [uv_muls hV X ls _ c5, uv_chk hV c4, uv_mulUs X (chk_nn c1) (chk_nn c2)];simp only [List.map_cons, prodL];rw [Int.mul_assoc]
theorem uv_sub {V : Nat} (hV : V ≤ 32) (X : List Int) {p q : List UT} (h : chkU V (Bk (-1) p q) (subL p q) = true) : uv X (subL p q) = uv X p - uv X q := by
 rw [uv_chk hV h, uv_addUs]; omega
end Go.AL
/- Polynomials by sizes: what the Kit needs, for any variables and numbers. Plain. -/
namespace Go.AL
structure SzU (V d c n : Nat) (p : List UT) : Prop where
  can : CanU p
  ex : ∀ u ∈ p, u.2.length = V ∧ (∀ e ∈ u.2, 0 ≤ e) ∧ sumL u.2 ≤ d
  ab : absU p ≤ c
  ln : p.length ≤ n
theorem SzU.mono {V d c n d' c' n' : Nat} {p : List UT} (h : SzU V d c n p) (h1 : d ≤ d') (h2 : c ≤ c') (h3 : n ≤ n') : SzU V d' c' n' p :=
 ⟨h.can, fun u hu => ⟨(h.ex u hu).1, (h.ex u hu).2.1, by have := (h.ex u hu).2.2; omega⟩, Nat.le_trans h.ab h2, Nat.le_trans h.ln h3⟩
theorem sumL_ge : ∀ {l : List Int}, (∀ e ∈ l, 0 ≤ e) → 0 ≤ sumL l ∧ ∀ e ∈ l, e ≤ sumL l
 | [], _ => by simp [sumL]
 | x :: l, h => by
  obtain ⟨h1, h2⟩ := sumL_ge (l := l) fun e he => h e (by simp [he]);have hx := h x (by simp);refine ⟨by simp only [sumL]; omega, fun e he => ?_⟩;simp only [sumL];rcases List.mem_cons.1 he with rfl | he
  ·omega
  ·have := h2 e he; omega
theorem ex_ok {V d : Nat} (hd : d ≤ 120) {u : UT} (h : u.2.length = V ∧ (∀ e ∈ u.2, 0 ≤ e) ∧ sumL u.2 ≤ d) : okU V u = true ∧ sumL u.2 ≤ 120 ∧ EOk u.2 := by
 obtain ⟨h1, h2, h3⟩ := h;have hE : EOk u.2 := fun e he => ⟨h2 e he, by have := (sumL_ge h2).2 e he; omega⟩;refine ⟨?_, by omega, hE⟩;simp only [okU, Bool.and_eq_true, List.all_eq_true, decide_eq_true_eq];exact ⟨by rw [Nat.beq_eq]; exact h1, fun e he => hE e he⟩
theorem sortedU_of : ∀ {l : List UT}, (l.Pairwise fun u v => ordI u.2 v.2 < 0) → sortedU l = true
 | [], _ => rfl
 | u :: l, h => by
  rw [List.pairwise_cons] at h;simp only [sortedU, Bool.and_eq_true, List.all_eq_true, decide_eq_true_eq];exact ⟨h.1, sortedU_of h.2⟩
theorem absU_insU (u : UT) : ∀ l : List UT, absU (insU u l) ≤ u.1.natAbs + absU l
 | [] => by unfold insU; split <;> simp [absU]
 | v :: l => by
  have ih := absU_insU u l;unfold insU;split
  ·split
   ·simp only [absU]; omega
   ·simp only [absU]; omega
  ·split
   ·split
    ·simp only [absU]; omega
    ·simp only [absU]; omega
   ·simp only [absU]; omega
theorem absU_canU : ∀ l : List UT, absU (canU l) ≤ absU l
 | [] => Nat.le_refl _
 | u :: l => by
  have := absU_canU l;have := absU_insU u (canU l);show absU (insU u (canU l)) ≤ _;simp only [absU]; omega
theorem absU_append : ∀ a b : List UT, absU (a ++ b) = absU a + absU b
 | [], b => by simp [absU]
 | u :: a, b => by simp only [List.cons_append, absU, absU_append a b]; omega
theorem absU_scale (k : Int) : ∀ l : List UT, absU (l.map fun u => (u.1 * k, u.2)) = absU l * k.natAbs
 | [] => by simp [absU]
 | u :: l => by simp only [List.map_cons, absU, absU_scale k l, Int.natAbs_mul, Nat.add_mul]
theorem absU_times (t : UT) : ∀ l : List UT, absU (l.map fun u => (t.1 * u.1, addE t.2 u.2)) = t.1.natAbs * absU l
 | [] => by simp [absU]
 | u :: l => by simp only [List.map_cons, absU, absU_times t l, Int.natAbs_mul, Nat.mul_add]
theorem absU_mulUs (q : List UT) : ∀ p : List UT, absU (Bu p q) = absU p * absU q
 | [] => by simp [Bu, absU]
 | t :: p => by
  have ih := absU_mulUs q p;unfold Bu at ih ⊢;rw [List.flatMap_cons, absU_append, absU_times, ih];simp only [absU, Nat.add_mul]
theorem len_mulUs (q : List UT) : ∀ p : List UT, (Bu p q).length = p.length * q.length
 | [] => by simp [Bu]
 | t :: p => by
  have ih := len_mulUs q p;unfold Bu at ih ⊢;rw [List.flatMap_cons, List.length_append, List.length_map, ih, List.length_cons, Nat.add_mul]; omega
theorem can_sz {V d c n : Nat} {us : List UT} (he : ∀ u ∈ us, u.2.length = V ∧ (∀ e ∈ u.2, 0 ≤ e) ∧ sumL u.2 ≤ d) (ha : absU us ≤ c) (hl : us.length ≤ n) : SzU V d c n (canU us) :=
 ⟨canU_can us, fun u hu => by obtain ⟨w, hw, e⟩ := canU_mem hu; rw [e]; exact he w hw, Nat.le_trans (absU_canU us) ha, Nat.le_trans (canU_length us) hl⟩
theorem can_chk {V d : Nat} {us : List UT} (hd : d ≤ 120) (he : ∀ u ∈ us, u.2.length = V ∧ (∀ e ∈ u.2, 0 ≤ e) ∧ sumL u.2 ≤ d) (ha : absU us < 4294967296) (hl : us.length ≤ 3000) : chkU V us (canU us) = true := by
 have h := can_sz he (Nat.le_refl _) (Nat.le_refl _);simp only [chkU, Bool.and_eq_true, List.all_eq_true, decide_eq_true_eq];refine ⟨⟨⟨⟨⟨⟨⟨fun u hu => (ex_ok hd (he u hu)).1, fun u hu => ?_⟩, sortedU_of h.can.pw⟩, ?_⟩, ha⟩, ?_⟩, fun u _ => (cfU_canU _ _).symm⟩, fun u _ => (cfU_canU _ _).symm⟩
 ·obtain ⟨a, b, _⟩ := ex_ok hd (h.ex u hu);exact ⟨⟨a, h.can.nz u hu⟩, b⟩
 ·have := h.ln; omega
 ·have := h.ab; omega
theorem SzU.chk {V d c n : Nat} {p : List UT} (h : SzU V d c n p) (hd : d ≤ 120) (hc : c < 4294967296) (hn : n ≤ 3000) : chkU V p p = true := by
 have := can_chk hd h.ex (by have := h.ab; omega) (by have := h.ln; omega);rwa [h.can.can] at this
theorem SzU.nil (V : Nat) : SzU V 0 0 0 [] := ⟨CanU.nil, fun u hu => by simp at hu, Nat.le_refl _, Nat.le_refl _⟩
theorem sumL_rep : ∀ n : Nat, sumL (List.replicate n 0) = 0
 | 0 => rfl
 | n + 1 => by rw [List.replicate_succ, sumL, sumL_rep n]; rfl
theorem sumL_set : ∀ (n i : Nat), i < n → sumL ((List.replicate n (0 : Int)).set i 1) = 1
 | 0, i, h => by omega
 | n + 1, 0, _ => by simp [List.replicate_succ, sumL, sumL_rep]
 | n + 1, i + 1, h => by
  rw [List.replicate_succ, List.set_cons_succ, sumL, sumL_set n i (by omega)]; rfl
theorem SzU.con (V : Nat) (k : Int) : SzU V 0 k.natAbs 1 (conU V k) := by
 refine ⟨conU_canU V k, fun u hu => ?_, ?_, ?_⟩
 ·unfold conU at hu;split at hu
  ·simp at hu
  ·rw [List.mem_singleton] at hu;subst hu;refine ⟨by simp, fun e he => ?_, by simp [sumL_rep]⟩;rw [(List.mem_replicate.1 he).2]; omega
 ·unfold conU; split <;> simp [absU]
 ·unfold conU; split <;> simp
theorem AP {V i : Nat} (hi : i < V) : SzU V 1 1 1 (varU V i) := by
 refine ⟨CanU.one (show (1 : Int) ≠ 0 by decide), fun u hu => ?_, by simp [varU, absU], by simp [varU]⟩;unfold varU at hu;rw [List.mem_singleton] at hu;subst hu;refine ⟨by simp [unU], fun e he => ?_, ?_⟩
 ·rcases List.mem_or_eq_of_mem_set he with h | h
  ·rw [(List.mem_replicate.1 h).2]; omega
  ·rw [h]; omega
 ·show sumL ((List.replicate V (0 : Int)).set i 1) ≤ _;rw [sumL_set V i hi]; omega
theorem addUs_sz {V d c n d' c' n' : Nat} (k : Int) {p q : List UT} (hp : SzU V d c n p) (hq : SzU V d' c' n' q) : (∀ u ∈ Bk k p q, u.2.length = V ∧ (∀ e ∈ u.2, 0 ≤ e) ∧ sumL u.2 ≤ ((max d d' : Nat) : Int)) ∧ absU (Bk k p q) ≤ c + c' * k.natAbs ∧ (Bk k p q).length ≤ n + n' := by
 unfold Bk;refine ⟨fun u hu => ?_, ?_, ?_⟩
 ·rcases List.mem_append.1 hu with hu | hu
  ·have := hp.ex u hu;exact ⟨this.1, this.2.1, by have := this.2.2; omega⟩
  ·obtain ⟨v, hv, rfl⟩ := List.mem_map.1 hu;have := hq.ex v hv;exact ⟨this.1, this.2.1, by have := this.2.2; show sumL v.2 ≤ _; omega⟩
 ·rw [absU_append, absU_scale];have h1 := hp.ab;have h2 : absU q * k.natAbs ≤ c' * k.natAbs := Nat.mul_le_mul_right _ hq.ab;omega
 ·rw [List.length_append, List.length_map];have := hp.ln;have := hq.ln;omega
theorem SzU.add {V d c n d' c' n' : Nat} {p q : List UT} (hp : SzU V d c n p) (hq : SzU V d' c' n' q) : SzU V (max d d') (c + c') (n + n') (addL p q) := by
 obtain ⟨a, b, e⟩ := addUs_sz 1 hp hq;exact can_sz a (by simpa using b) e
theorem SzU.addChk {V d c n d' c' n' : Nat} {p q : List UT} (hp : SzU V d c n p) (hq : SzU V d' c' n' q) (h1 : d ≤ 120) (h2 : d' ≤ 120) (hc : c + c' < 4294967296) (hn : n + n' ≤ 3000) : chkU V (Bk 1 p q) (addL p q) = true := by
  obtain ⟨a, b, e⟩ := addUs_sz 1 hp hq
  exact can_chk (d := max d d') (by omega) a (by have : absU (Bk 1 p q) ≤ c + c' := by simpa using b
                                                 omega) (by omega)
theorem SzU.sub {V d c n d' c' n' : Nat} {p q : List UT} (hp : SzU V d c n p) (hq : SzU V d' c' n' q) : SzU V (max d d') (c + c') (n + n') (subL p q) := by
 obtain ⟨a, b, e⟩ := addUs_sz (-1) hp hq;exact can_sz a (by simpa using b) e
theorem SzU.subChk {V d c n d' c' n' : Nat} {p q : List UT} (hp : SzU V d c n p) (hq : SzU V d' c' n' q) (h1 : d ≤ 120) (h2 : d' ≤ 120) (hc : c + c' < 4294967296) (hn : n + n' ≤ 3000) : chkU V (Bk (-1) p q) (subL p q) = true := by
  obtain ⟨a, b, e⟩ := addUs_sz (-1) hp hq
  exact can_chk (d := max d d') (by omega) a (by have : absU (Bk (-1) p q) ≤ c + c' := by simpa using b
                                                 omega) (by omega)
theorem mulUs_sz {V d c n d' c' n' : Nat} {p q : List UT} (hp : SzU V d c n p) (hq : SzU V d' c' n' q) : (∀ u ∈ Bu p q, u.2.length = V ∧ (∀ e ∈ u.2, 0 ≤ e) ∧ sumL u.2 ≤ ((d + d' : Nat) : Int)) ∧ absU (Bu p q) ≤ c * c' ∧ (Bu p q).length ≤ n * n' := by
 refine ⟨fun u hu => ?_, ?_, ?_⟩
 ·unfold Bu at hu;obtain ⟨t, ht, hu⟩ := List.mem_flatMap.1 hu;obtain ⟨v, hv, rfl⟩ := List.mem_map.1 hu;have h1 := hp.ex t ht;have h2 := hq.ex v hv
  have hlen : t.2.length = v.2.length := by omega
  refine ⟨by show (addE t.2 v.2).length = V; rw [Dp hlen]; exact h1.1, fun e he => ?_, ?_⟩
  ·obtain ⟨k, hk⟩ := List.getElem?_of_mem (show e ∈ addE t.2 v.2 from he);have hkl := (List.getElem?_eq_some_iff.1 hk).1;rw [Dp hlen] at hkl;obtain ⟨x, hx⟩ : ∃ x, t.2[k]? = some x := ⟨_, List.getElem?_eq_getElem hkl⟩;obtain ⟨y, hy⟩ : ∃ y, v.2[k]? = some y := ⟨_, List.getElem?_eq_getElem (by omega)⟩;rw [addE_get hx hy] at hk;injection hk with hk;have := h1.2.1 x (List.mem_of_getElem? hx);have := h2.2.1 y (List.mem_of_getElem? hy);omega
  ·show sumL (addE t.2 v.2) ≤ _;rw [sumL_addE hlen];have := h1.2.2;have := h2.2.2;omega
 ·rw [absU_mulUs]; exact Nat.mul_le_mul hp.ab hq.ab
 ·rw [len_mulUs]; exact Nat.mul_le_mul hp.ln hq.ln
theorem SzU.mul {V d c n d' c' n' : Nat} {p q : List UT} (hp : SzU V d c n p) (hq : SzU V d' c' n' q) : SzU V (d + d') (c * c') (n * n') (C4 p q) := by
 obtain ⟨a, b, e⟩ := mulUs_sz hp hq;exact can_sz a b e
theorem SzU.mulChk {V d c n d' c' n' : Nat} {p q : List UT} (hp : SzU V d c n p) (hq : SzU V d' c' n' q) (hd : d + d' ≤ 120) (hc : c * c' < 4294967296) (hn : n * n' ≤ 3000) : chkU V (Bu p q) (C4 p q) = true ∧ degU p q = true := by
 obtain ⟨a, b, e⟩ := mulUs_sz hp hq;refine ⟨can_chk hd a (by omega) (by omega), ?_⟩;unfold degU;split
 ·rename_i t _ u _;have h1 := (hp.ex t (by simp)).2.2;have h2 := (hq.ex u (by simp)).2.2;exact decide_eq_true (by omega)
 ·rfl
theorem okSums_sz {V d cp np : Nat} (hd : d ≤ 120) : ∀ (ps : List (List UT)) {acc : List UT} {c n : Nat}, SzU V d c n acc → (∀ p ∈ ps, SzU V d cp np p) → c + ps.length * cp + cp < 4294967296 → n + ps.length * np + np ≤ 3000 → B9 V acc ps = true ∧ SzU V d (c + ps.length * cp) (n + ps.length * np) (A5 acc ps)
 | [], acc, c, n, h, _, hc, hn => by
  refine ⟨?_, by simpa [A5] using h⟩;unfold B9;exact h.chk hd (by simp at hc; omega) (by simp at hn; omega)
 | p :: ps, acc, c, n, h, hp, hc, hn => by
  have h1 := hp p (by simp);rw [List.length_cons, Nat.succ_mul] at hc hn;have hadd := h.add h1;rw [Nat.max_self] at hadd;obtain ⟨k1, k2⟩ := okSums_sz hd ps hadd (fun q hq => hp q (by simp [hq])) (by omega) (by omega);refine ⟨?_, ?_⟩
  ·unfold B9;simp only [Bool.and_eq_true];exact ⟨⟨⟨h.chk hd (by omega) (by omega), h1.chk hd (by omega) (by omega)⟩, h.addChk h1 hd hd (by omega) (by omega)⟩, k1⟩
  ·show SzU V d _ _ (A5 (addL acc p) ps);refine k2.mono (Nat.le_refl _) ?_ ?_ <;> rw [List.length_cons, Nat.succ_mul] <;> omega
theorem mul_one_l {V : Nat} {p : List UT} (hc : CanU p) (hl : ∀ u ∈ p, u.2.length = V) : C4 (conU V 1) p = p := by
 unfold C4 Bu conU;rw [if_neg (by decide)];simp only [List.flatMap_cons, List.flatMap_nil, List.append_nil];rw [show (p.map fun u => ((1 : Int) * u.1, addE (List.replicate V 0) u.2)) = p from ?_, hc.can];refine (List.map_congr_left (g := id) fun u hu => ?_).trans (List.map_id p)
 have : addE (List.replicate V 0) u.2 = u.2 := by
  rw [← hl u hu];generalize u.2 = l
  induction l with
  | nil => rfl
  | cons x l ih =>
   rw [List.length_cons, List.replicate_succ];unfold addE at ih ⊢;rw [List.zipWith_cons_cons, ih];simp
 rw [Int.one_mul, this]; rfl
theorem add_nil_l {p : List UT} (hc : CanU p) : addL [] p = p := by
 unfold addL Bk;rw [List.nil_append];rw [show (p.map fun u => (u.1 * 1, u.2)) = p from ?_, hc.can];exact (List.map_congr_left (g := id) fun u _ => by rw [Int.mul_one]; rfl).trans (List.map_id p)
theorem SzU.len {V d c n : Nat} {p : List UT} (h : SzU V d c n p) : ∀ u ∈ p, u.2.length = V := fun u hu => (h.ex u hu).1
theorem Co {V d c n d' c' n' : Nat} {p q : List UT} (hp : SzU V d c n p) (_ : SzU V d' c' n' q) : A5 [] [p, q] = addL p q := by
 show addL (addL [] p) q = _;rw [add_nil_l hp.can]
theorem Bs {V d c n : Nat} {p q : List UT} (hp : SzU V d c n p) : Av (conU V 1) [p, q] = C4 p q := by
 show C4 (C4 (conU V 1) p) q = _;rw [mul_one_l hp.can hp.len]
theorem CF {V d c n d' c' n' : Nat} {p q : List UT} (hp : SzU V d c n p) (hq : SzU V d' c' n' q) (hd : d + d' ≤ 120) (hc : c * c' < 4294967296) (hc1 : c < 4294967296) (hc2 : c' < 4294967296) (hn : n * n' ≤ 3000) (hn1 : n ≤ 3000) (hn2 : n' ≤ 3000) : Ci V (conU V 1) [p, q] = true := by
 have h1 := SzU.con V 1;have m1 := h1.mulChk hp (by omega) (by simpa using hc1) (by omega);have e1 := mul_one_l hp.can hp.len;have m2 := hp.mulChk hq hd hc hn;unfold Ci Ci Ci;rw [e1] at m1 ⊢;simp only [Bool.and_eq_true];exact ⟨⟨⟨⟨h1.chk (by omega) (by decide) (by omega), hp.chk (by omega) hc1 hn1⟩, m1.2⟩, m1.1⟩, ⟨⟨⟨hp.chk (by omega) hc1 hn1, hq.chk (by omega) hc2 hn2⟩, m2.2⟩, m2.1⟩, (hp.mul hq).chk hd hc hn⟩
theorem C8 {V d c n d' c' n' : Nat} {p q : List UT} (hp : SzU V d c n p) (hq : SzU V d' c' n' q) (hd : d ≤ 120) (hd2 : d' ≤ 120) (hc : c + c' < 4294967296) (hn : n + n' ≤ 3000) : B9 V [] [p, q] = true := by
 have h1 := SzU.nil V;have a1 := h1.addChk hp (by omega) hd (by omega) (by omega);have a2 := hp.addChk hq hd hd2 hc hn;unfold B9 B9 B9;rw [add_nil_l hp.can] at a1 ⊢;simp only [Bool.and_eq_true];exact ⟨⟨⟨h1.chk (by omega) (by omega) (by omega), hp.chk hd (by omega) (by omega)⟩, a1⟩, ⟨⟨hp.chk hd (by omega) (by omega), hq.chk hd2 (by omega) (by omega)⟩, a2⟩, (hp.add hq).chk (by omega) hc hn⟩
end Go.AL
/- A link of polynomials by sizes. Plain. -/
namespace Go.AL
theorem mem_filt {P : Nat → Bool} {n k : Nat} {v : Int} (h : v ∈ ((List.range' k n).filter P).map fun (i : Nat) => (i : Int)) : (k : Int) ≤ v := by
 obtain ⟨i, hi, rfl⟩ := List.mem_map.1 h;have := (List.mem_range'_1.1 (List.mem_filter.1 hi).1).1;omega
theorem spr_pick (P : Nat → Bool) (E : List Int) : ∀ (n k : Nat) (e : List Int), e.length = n → (∀ i, i < n → e[i]? = E[k + i]?) → (∀ i, i < n → P (k + i) = false → e[i]? = some 0) → spr n k (((List.range' k n).filter P).map fun (i : Nat) => (i : Int)) (((List.range' k n).filter P).map fun i => E.getD i 0) = e
 | 0, k, e, h, _, _ => by
  rw [List.eq_nil_of_length_eq_zero h]; rfl
 | n + 1, k, [], h, _, _ => by simp at h
 | n + 1, k, x :: e, h, h1, h2 => by
  have ih := spr_pick P E n (k + 1) e (by simpa using h) (fun i hi => by
   have := h1 (i + 1) (by omega);rw [List.getElem?_cons_succ] at this
   rw [this]; congr 1; omega) (fun i hi hP => by
   have := h2 (i + 1) (by omega) (by rw [← hP]; congr 1; omega)
   rwa [List.getElem?_cons_succ] at this)
  have h0 := h1 0 (by omega);rw [List.getElem?_cons_zero, Nat.add_zero] at h0;rw [List.range'_succ, List.filter_cons];rw [show ((k + 1 : Nat) : Int) = (k : Int) + 1 by omega] at ih;by_cases hp : P k = true
  ·rw [if_pos hp];simp only [List.map_cons, spr];rw [if_pos trivial, ih, List.getD_eq_getElem?_getD, ← h0]; rfl
  ·rw [if_neg hp]
   have hx : x = 0 := by
    have := h2 0 (by omega) (by rw [Nat.add_zero]; simpa using hp);simpa using this
   have hne : ∀ v ∈ ((List.range' (k + 1) n).filter P).map (fun (i : Nat) => (i : Int)), v ≠ (k : Int) := fun v hv => by
    have := mem_filt hv; omega
   subst hx
   generalize hA : ((List.range' (k + 1) n).filter P).map (fun (i : Nat) => (i : Int)) = A at *
   generalize hB : ((List.range' (k + 1) n).filter P).map (fun i => E.getD i 0) = B at *
   have hlen : A.length = B.length := by rw [← hA, ← hB]; simp
   match A, B, hlen with
   | [], [], _ => simp only [spr]; rw [ih]
   | v :: A, b :: B, _ =>
    simp only [spr];rw [if_neg (hne v (by simp)), ih]
theorem occ_zero {V : Nat} {ls : List (List UT)} {p : List UT} (hp : p ∈ ls) {u : UT} (hu : u ∈ p) (hl : u.2.length = V) (h0 : ∀ e ∈ u.2, 0 ≤ e) {i : Nat} (hi : i < V) (hP : occP ls i = false) : u.2[i]? = some 0 := by
 obtain ⟨x, hx⟩ : ∃ x, u.2[i]? = some x := ⟨_, List.getElem?_eq_getElem (by omega)⟩;have hx0 := h0 x (List.mem_of_getElem? hx);rcases (show x = 0 ∨ 0 < x by omega) with h | h
 ·rw [hx, h]
 ·exfalso
  have : occP ls i = true := by
   unfold occP;refine List.any_eq_true.2 ⟨p, hp, List.any_eq_true.2 ⟨u, hu, ?_⟩⟩;rw [List.getD_eq_getElem?_getD, hx];exact decide_eq_true h
  rw [this] at hP; cases hP
theorem spr_pickE {V : Nat} {ls : List (List UT)} {p : List UT} (hp : p ∈ ls) {u : UT} (hu : u ∈ p) (hl : u.2.length = V) (h0 : ∀ e ∈ u.2, 0 ≤ e) : spr V 0 ((occL V ls).map fun (i : Nat) => (i : Int)) (Cp (occL V ls) u.2) = u.2 := by
 have := spr_pick (occP ls) u.2 V 0 u.2 hl (fun i _ => by rw [Nat.zero_add]) fun i hi hP => occ_zero hp hu hl h0 hi (by rwa [Nat.zero_add] at hP);rw [← List.range_eq_range'] at this;exact this
theorem occ_inc (V : Nat) (ls : List (List UT)) : incK 0 V ((occL V ls).map fun (i : Nat) => (i : Int)) := by
 have := EX (occP ls) V 0 (-1) V (by omega) (by omega);rw [← List.range_eq_range'] at this;exact incK_of this
theorem pick_sz {V d c n : Nat} {ls : List (List UT)} {p : List UT} (hp : p ∈ ls) (h : SzU V d c n p) : SzU (occL V ls).length d c n (D4 (occL V ls) p) := by
 have hinc := occ_inc V ls
 have hlen : ∀ e : List Int, (((occL V ls).map fun (i : Nat) => (i : Int))).length = (Cp (occL V ls) e).length := fun e => by simp [Cp]
 refine ⟨⟨fun u hu => ?_, ?_⟩, fun u hu => ?_, ?_, by simpa [D4] using h.ln⟩
 ·obtain ⟨v, hv, rfl⟩ := List.mem_map.1 hu;exact h.can.nz v hv
 ·unfold D4;rw [List.pairwise_map];have := h.can.pw;refine List.Pairwise.imp_of_mem (fun {a b} ha hb hab => ?_) this;have e1 := h.ex a ha;have e2 := h.ex b hb;have := spr_ord (n := V) (hlen a.2) (hlen b.2) hinc;rw [spr_pickE hp ha e1.1 e1.2.1, spr_pickE hp hb e2.1 e2.2.1] at this;show ordI (Cp (occL V ls) a.2) (Cp (occL V ls) b.2) < 0;rw [← this]; exact hab
 ·obtain ⟨v, hv, rfl⟩ := List.mem_map.1 hu;have e1 := h.ex v hv;refine ⟨by simp [Cp], fun e he => ?_, ?_⟩
  ·obtain ⟨i, _, rfl⟩ := List.mem_map.1 (show e ∈ Cp (occL V ls) v.2 from he);rw [List.getD_eq_getElem?_getD]
   cases hx : v.2[i]? with
   | none => simp
   | some x => exact e1.2.1 x (List.mem_of_getElem? hx)
  ·have := spr_sum V 0 ((occL V ls).map fun (i : Nat) => (i : Int)) (Cp (occL V ls) v.2) (hlen v.2) (hinc.imp_hi (by omega));rw [spr_pickE hp hv e1.1 e1.2.1] at this;show sumL (Cp (occL V ls) v.2) ≤ _;rw [← this]; exact e1.2.2
 ·unfold D4
  have : ∀ l : List UT, absU (l.map fun u => (u.1, Cp (occL V ls) u.2)) = absU l := by
   intro l
   induction l with
   | nil => rfl
   | cons u l ih => simp only [List.map_cons, absU, ih]
  rw [this]; exact h.ab
theorem linkU_sz {V d c n : Nat} {kind : Int} {ls : List (List UT)} (hV : V ≤ 32) (hd : d ≤ 120) (hc : c < 4294967296) (hn : n ≤ 3000) (hk : BT kind ≠ 0) (hl : (ls.length : Int) = BT kind) (h : ∀ p ∈ ls, SzU V d c n p) : OkL V (Bo V kind ls) ∧ WL (Bo V kind ls) ∧ ∀ p ∈ ls, nnU V p := by
 refine okLU_ok hV ?_;simp only [okLU, Bool.and_eq_true, decide_eq_true_eq, List.all_eq_true];exact ⟨⟨hk, hl⟩, fun p hp => ⟨(pick_sz hp (h p hp)).chk hd hc hn, fun u hu => (ex_ok hd ((h p hp).ex u hu)).1⟩⟩
end Go.AL
/- The system of a machine and an input: its polynomials, their sizes and values. Plain. -/
namespace Go.AL
structure IZ where
  op : Int
  rg : Int
  nx : Int
  zr : Int
structure MZ where
  regs : Int
  code : List IZ
def haltZ : IZ := ⟨3, 0, 0, 0⟩
abbrev MZ.l (m : MZ) : Nat := m.code.length
abbrev MZ.R (m : MZ) : Nat := m.regs.toNat
abbrev MZ.V (m : MZ) : Nat := 3 + m.l + 2 * m.R
def MZ.at (m : MZ) (i : Nat) : IZ := m.code.getD i haltZ
def okIns (m : MZ) (i : Nat) (x : IZ) : Prop :=
  x = haltZ ∨ ((0 ≤ x.rg ∧ x.rg < m.regs) ∧ (0 ≤ x.nx ∧ x.nx < m.l) ∧ ((x.op = 2 ∧ 0 ≤ x.zr ∧ x.zr < m.l ∧ x.nx ≠ i) ∨ ((x.op = 0 ∨ x.op = 1) ∧ x.zr = 0)))
structure OkMZ (m : MZ) : Prop where
  r1 : 1 ≤ m.regs
  r4 : m.regs ≤ 4
  l1 : 1 ≤ m.l
  l15 : m.l ≤ 15
  ins : ∀ i, i < m.l → okIns m i (m.at i)
def OkIn (m : MZ) (x : List Int) : Prop := x.length = m.R ∧ ∀ n ∈ x, 0 ≤ n ∧ n ≤ 1000
def MZ.mach (m : MZ) : Mach := ⟨m.l, m.R, fun i => (m.at i).op.toNat, fun i => (m.at i).rg.toNat, fun i => (m.at i).nx.toNat, fun i => (m.at i).zr.toNat⟩
theorem OkMZ.mach {m : MZ} (h : OkMZ m) : m.mach.Ok := by
 refine ⟨h.l1, fun i hi => ?_⟩;rcases h.ins i hi with k | ⟨⟨a1, a2⟩, ⟨b1, b2⟩, k⟩
 ·left; show (m.at i).op.toNat = 3; rw [k]; rfl
 ·right
  have hR : ((m.R : Nat) : Int) = m.regs := by have := h.r1; show ((m.regs.toNat : Nat) : Int) = _; omega
  have hl : ((m.l : Nat) : Int) = m.code.length := rfl;have := h.l1;show (m.at i).op.toNat ≤ 2 ∧ (m.at i).rg.toNat < m.R ∧ (m.at i).nx.toNat < m.l ∧ (m.at i).zr.toNat < m.l ∧ ((m.at i).op.toNat = 2 → (m.at i).nx.toNat ≠ i);rcases k with ⟨c1, c2, c3, c4⟩ | ⟨c1, c2⟩
  ·exact ⟨by omega, by omega, by omega, by omega, fun _ => by omega⟩
  ·exact ⟨by omega, by omega, by omega, by omega, fun k => by omega⟩
theorem OkMZ.V32 {m : MZ} (h : OkMZ m) : m.V ≤ 26 := by
 have := h.l15;have := h.r4;show 3 + m.code.length + 2 * m.regs.toNat ≤ 26;have : m.code.length ≤ 15 := h.l15;omega
def hsQ (V : Nat) : List UT := Av (conU V 1) [conU V 2, varU V 1]
def CW (V : Nat) : List UT := A5 [] [conU V 1, Av (conU V 1) [subL (hsQ V) (conU V 1), varU V 2]]
def BJ (V : Nat) (c : IZ → Bool) : Nat → List IZ → List UT → List UT
  | _, [], acc => acc
  | i, x :: xs, acc => BJ V c (i + 1) xs (if c x then A5 [] [acc, varU V (3 + i)] else acc)
theorem BV {V : Nat} (hV : 6 ≤ V) : SzU V 1 2 1 (hsQ V) ∧ Ci V (conU V 1) [conU V 2, varU V 1] = true := by
 have a := SzU.con V 2;have b := AP (V := V) (i := 1) (by omega);refine ⟨?_, CF a b (by omega) (by decide) (by decide) (by decide) (by omega) (by omega) (by omega)⟩;unfold hsQ;rw [Bs a];exact (a.mul b).mono (by omega) (by decide) (by omega)
theorem DY {V : Nat} (hV : 6 ≤ V) : SzU V 2 4 3 (CW V) ∧ Ci V (conU V 1) [subL (hsQ V) (conU V 1), varU V 2] = true ∧ B9 V [] [conU V 1, Av (conU V 1) [subL (hsQ V) (conU V 1), varU V 2]] = true ∧ SzU V 1 3 2 (subL (hsQ V) (conU V 1)) ∧ chkU V (Bk (-1) (hsQ V) (conU V 1)) (subL (hsQ V) (conU V 1)) = true ∧ SzU V 2 3 2 (Av (conU V 1) [subL (hsQ V) (conU V 1), varU V 2]) := by
 have a := (BV hV).1;have c1 := SzU.con V 1;have b := AP (V := V) (i := 2) (by omega);have s := (a.sub c1).mono (d' := 1) (c' := 3) (n' := 2) (by omega) (by decide) (by omega);have e := Bs (p := subL (hsQ V) (conU V 1)) (q := varU V 2) s
 have p : SzU V 2 3 2 (Av (conU V 1) [subL (hsQ V) (conU V 1), varU V 2]) := by
  rw [e]; exact (s.mul b).mono (by omega) (by decide) (by omega)
 refine ⟨?_, CF s b (by omega) (by decide) (by decide) (by decide) (by omega) (by omega) (by omega), C8 c1 p (by omega) (by omega) (by decide) (by omega), s, a.subChk c1 (by omega) (by omega) (by decide) (by omega), p⟩;unfold CW;rw [Co c1 p];exact (c1.add p).mono (by omega) (by decide) (by omega)
theorem hsSum_sz {V : Nat} (c : IZ → Bool) : ∀ (xs : List IZ) {i : Nat} {acc : List UT} {k n : Nat}, SzU V 1 k n acc → 3 + i + xs.length ≤ V → SzU V 1 (k + xs.length) (n + xs.length) (BJ V c i xs acc)
 | [], i, acc, k, n, h, _ => by simpa [BJ] using h
 | x :: xs, i, acc, k, n, h, hV => by
  rw [List.length_cons] at hV;have v := AP (V := V) (i := 3 + i) (by omega);unfold BJ;split
  ·rw [Co h v];have := hsSum_sz c xs (i := i + 1) ((h.add v).mono (d' := 1) (c' := k + 1) (n' := n + 1) (by omega) (by omega) (by omega)) (by omega);exact this.mono (by omega) (by rw [List.length_cons]; omega) (by rw [List.length_cons]; omega)
  ·have := hsSum_sz c xs (i := i + 1) h (by omega);exact this.mono (by omega) (by rw [List.length_cons]; omega) (by rw [List.length_cons]; omega)
theorem hsSum0_sz {m : MZ} (c : IZ → Bool) : SzU m.V 1 m.l (1 + m.l) (BJ m.V c 0 m.code (conU m.V 0)) := by
 have := hsSum_sz (V := m.V) c m.code (i := 0) ((SzU.con m.V 0).mono (d' := 1) (c' := 0) (n' := 1) (by omega) (by decide) (by omega)) (by show 3 + 0 + m.code.length ≤ 3 + m.code.length + 2 * m.R; omega);exact this.mono (by omega) (Nat.le_of_eq (Nat.zero_add _)) (Nat.le_refl _)
/-! values -/
theorem sumN_front : ∀ (n : Nat) (f : Nat → Nat), sumN (n + 1) f = f 0 + sumN n fun k => f (k + 1)
 | 0, f => by simp [sumN]
 | n + 1, f => by rw [sumN, sumN_front n f, sumN]; omega
theorem uv_add2 {V d c n d' c' n' : Nat} (hV : V ≤ 32) (X : List Int) {p q : List UT} (hp : SzU V d c n p) (hq : SzU V d' c' n' q) (h1 : d ≤ 120) (h2 : d' ≤ 120) (hc : c + c' < 4294967296) (hn : n + n' ≤ 3000) : uv X (A5 [] [p, q]) = uv X p + uv X q := by
 rw [uv_sums hV X _ _ (C8 hp hq h1 h2 hc hn)];simp only [List.map_cons, List.map_nil, sumL];show (0 : Int) + _ = _;omega
theorem C6 {V d c n d' c' n' : Nat} (hV : V ≤ 32) (X : List Int) {p q : List UT} (hp : SzU V d c n p) (hq : SzU V d' c' n' q) (hd : d + d' ≤ 120) (hc : c * c' < 4294967296) (hc1 : c < 4294967296) (hc2 : c' < 4294967296) (hn : n * n' ≤ 3000) (hn1 : n ≤ 3000) (hn2 : n' ≤ 3000) : uv X (Av (conU V 1) [p, q]) = uv X p * uv X q := by
 rw [uv_muls hV X _ _ (CF hp hq hd hc hc1 hc2 hn hn1 hn2), Cv];simp only [List.map_cons, List.map_nil, prodL];grind
theorem EI {V d c n d' c' n' : Nat} (hV : V ≤ 32) (X : List Int) {p q : List UT} (hp : SzU V d c n p) (hq : SzU V d' c' n' q) (h1 : d ≤ 120) (h2 : d' ≤ 120) (hc : c + c' < 4294967296) (hn : n + n' ≤ 3000) : uv X (subL p q) = uv X p - uv X q := uv_sub hV X (hp.subChk hq h1 h2 hc hn)
theorem hsQ_val {V : Nat} (h6 : 6 ≤ V) (hV : V ≤ 32) {X : List Int} (hX : X.length = V) : uv X (hsQ V) = 2 * X.getD 1 0 := by
 unfold hsQ;rw [C6 hV X (SzU.con V 2) (AP (by omega)) (by omega) (by decide) (by decide) (by decide) (by omega) (by omega) (by omega), Cv, Cu hX (by omega)]
theorem hsAll_val {V : Nat} (h6 : 6 ≤ V) (hV : V ≤ 32) {X : List Int} (hX : X.length = V) : uv X (CW V) = 1 + (2 * X.getD 1 0 - 1) * X.getD 2 0 := by
 obtain ⟨_, _, _, s, _, p⟩ := DY h6;unfold CW;rw [uv_add2 hV X (SzU.con V 1) p (by omega) (by omega) (by decide) (by omega), Cv, C6 hV X s (AP (by omega)) (by omega) (by decide) (by decide) (by decide) (by omega) (by omega) (by omega), EI hV X (BV h6).1 (SzU.con V 1) (by omega) (by omega) (by decide) (by omega), hsQ_val h6 hV hX, Cv, Cu hX (by omega)]
theorem hsSum_val {V : Nat} (hV : V ≤ 32) {X : List Int} (hX : X.length = V) (h0 : ∀ y ∈ X, 0 ≤ y) (c : IZ → Bool) : ∀ (xs : List IZ) {i : Nat} {acc : List UT} {k n : Nat}, SzU V 1 k n acc → 3 + i + xs.length ≤ V → k ≤ 100 - xs.length → n ≤ 100 - xs.length → xs.length ≤ 50 →
  uv X (BJ V c i xs acc) = uv X acc + (sumN xs.length fun j => if c (xs.getD j haltZ) then (X.getD (3 + i + j) 0).toNat else 0 : Nat)
 | [], i, acc, k, n, h, _, _, _, _ => by simp [BJ, sumN]
 | x :: xs, i, acc, k, n, h, hl, hk, hn, h50 => by
  rw [List.length_cons] at hl hk hn h50;have v := AP (V := V) (i := 3 + i) (by omega)
  have hx0 : 0 ≤ X.getD (3 + i) 0 := by
   rw [List.getD_eq_getElem?_getD, List.getElem?_eq_getElem (by omega)];exact h0 _ (List.getElem_mem _)
  rw [List.length_cons, sumN_front]
  have hs : (sumN xs.length fun j => if c ((x :: xs).getD (j + 1) haltZ) then (X.getD (3 + i + (j + 1)) 0).toNat else 0) = sumN xs.length fun j => if c (xs.getD j haltZ) then (X.getD (3 + (i + 1) + j) 0).toNat else 0 := by
   refine BH fun j _ => ?_;rw [List.getD_cons_succ, show 3 + i + (j + 1) = 3 + (i + 1) + j by omega]
  rw [hs, List.getD_cons_zero, Nat.add_zero];unfold BJ;by_cases hc : c x = true
  ·rw [if_pos hc, if_pos hc];have ha := (h.add v).mono (d' := 1) (c' := k + 1) (n' := n + 1) (by omega) (by omega) (by omega);rw [← Co h v] at ha;rw [hsSum_val hV hX h0 c xs ha (by omega) (by omega) (by omega) (by omega), uv_add2 hV X h v (by omega) (by omega) (by omega) (by omega), Cu hX (by omega)];omega
  ·rw [if_neg hc, if_neg hc, hsSum_val hV hX h0 c xs h (by omega) (by omega) (by omega) (by omega)];omega
end Go.AL
/- register.Valid, Input. -/
namespace Go.AL
def eIz : IZ → List AV := fun x => [aN x.op, aN x.rg, aN x.nx, aN x.zr]
abbrev aIz (x : IZ) : AV := .agg [aN x.op, aN x.rg, aN x.nx, aN x.zr]
abbrev eMz (m : MZ) : List AV := [aN m.regs, .sl 4 eIz m.code]
abbrev aMz (m : MZ) : AV := .agg [aN m.regs, .sl 4 eIz m.code]
theorem dec_of {p q : Prop} [Decidable p] {b : Bool} (hb : b = true ↔ q) (h : p ↔ q) : decide p = b := by
 cases b with
 | true => exact decide_eq_true (h.2 (hb.1 rfl))
 | false => exact decide_eq_false fun k => by have := hb.2 (h.1 k); cases this
theorem okIns_iff (m : MZ) (i : Nat) (x : IZ) : okIns m i x ↔ ((x.op = 3 ∧ x.rg = 0 ∧ x.nx = 0 ∧ x.zr = 0) ∨ ((0 ≤ x.rg ∧ x.rg < m.regs) ∧ (0 ≤ x.nx ∧ x.nx < m.code.length) ∧ ((x.op = 2 ∧ 0 ≤ x.zr ∧ x.zr < m.code.length ∧ x.nx ≠ i) ∨ ((x.op = 0 ∨ x.op = 1) ∧ x.zr = 0)))) := by
 unfold okIns
 have : x = haltZ ↔ (x.op = 3 ∧ x.rg = 0 ∧ x.nx = 0 ∧ x.zr = 0) := by
  obtain ⟨a, b, c, d⟩ := x;unfold haltZ;constructor
  ·intro h; injection h with h1 h2 h3 h4; exact ⟨h1, h2, h3, h4⟩
  ·rintro ⟨h1, h2, h3, h4⟩;simp only at h1 h2 h3 h4;rw [h1, h2, h3, h4]
 rw [this]
theorem MZ.at_get {m : MZ} {i : Nat} {x : IZ} (h : m.code[i]? = some x) : m.at i = x := by
 unfold MZ.at;rw [List.getD_eq_getElem?_getD, h]; rfl
theorem EH {m : MZ} {i : Nat} (h : i < m.l) : m.code[i]? = some (m.at i) := by
 unfold MZ.at;rw [List.getD_eq_getElem?_getD, List.getElem?_eq_getElem h]; rfl
end Go.AL
namespace Go.Proofs.YtmmfloplhopioaaGreat
open Go.AL
abbrev mB (m : MZ) : List (AL.Id × Bx) := [(900, .cells (eMz m) 24)]
theorem goes1_ok (m : MZ) (t : Int) : IoFn Tryz.prog 166 ([aN t] ++ [.ptr 900 0]) (mB m) (.ret (aB (decide (0 ≤ t ∧ t < m.code.length)))) (mB m) := by
 refine AG Tryz.func166 rfl Tryz.ntmps166 rfl rfl rfl ?_;(repeat' (first |refine qv ?_ |apply qn |apply qs |apply qr |refine Fl.skip rfl rfl ?_ |apply qt |(refine AH rfl rfl ?_ ?_ <;> intro _ <;> try (exfalso; omega))))
 all_goals refine ⟨⟨[], _, _, AK _ _ _, rfl, AV.Le.bool ?_, rfl, ⟨⟨⟨_, rfl, BLe.cells (AB _)⟩, rfl⟩, trivial⟩, rfl, rfl⟩⟩
 ·exact decide_eq_decide.2 (by omega)
 ·exact (decide_eq_false (by omega)).symm
set_option maxHeartbeats 4000000 in
theorem rgInsn_ok (m : MZ) (i : Nat) (x : IZ) (b : Bool) (hb : b = true ↔ okIns m i x) : PureFn Tryz.prog 114 [aMz m, aN i, aIz x] (aB b) := by
 refine AC Tryz.func114 rfl Tryz.ntmps114 rfl rfl ?_;rw [okIns_iff] at hb;have fin0 : ∀ {p : Prop} [Decidable p], (p ↔ _) → decide p = b := fun h => dec_of hb h;(repeat' (first |refine qv ?_ |apply qn |apply qs |apply qr |refine qe ?_ |refine Fl.skip rfl rfl ?_ |(refine AD rfl ?_ ?_ <;> intro _ <;> try (exfalso; omega)) |apply qb |apply qk |apply qt |(refine AH rfl rfl ?_ ?_ <;> intro _ <;> try (exfalso; omega))))
 all_goals (try (refine Dg rfl rfl [(900, 3)] (goes1_ok m _) rfl rfl (AB _) rfl ⟨⟨⟨_, rfl, BLe.cells (AB _)⟩, rfl⟩, trivial⟩ rfl rfl rfl rfl rfl ?_))
 all_goals repeat' (first |refine qv ?_ |apply qn |refine Fl.skip rfl rfl ?_ |apply qt |(refine AH rfl rfl ?_ ?_ <;> intro _ <;> try (exfalso; omega)))
 all_goals (try (refine Dg rfl rfl [(900, 3)] (goes1_ok m _) rfl rfl (AB _) rfl ⟨⟨⟨_, rfl, BLe.cells (AB _)⟩, rfl⟩, trivial⟩ rfl rfl rfl rfl rfl ?_))
 all_goals repeat' (first |refine qv ?_ |apply qn |refine Fl.skip rfl rfl ?_ |apply qt |(refine AH rfl rfl ?_ ?_ <;> intro _ <;> try (exfalso; omega)))
 all_goals (try (refine Fl.eqV rfl rfl rfl rfl rfl _ rfl rfl (fun w => by kernel_rfl) (fun w => insEq_run w _ _ _ _ _ _ _ _) ?_))
 all_goals repeat' (first |refine qv ?_ |apply qn |apply qt)
 all_goals refine RetOk.of rfl (AV.Le.bool ?_)
 all_goals first
  | exact (hb.2 (by omega)).symm
  | exact (Bool.eq_false_iff.2 fun h => by have := hb.1 h; omega).symm
  | exact fin0 (by omega)
  | (rw [← decide_not]; exact fin0 (by omega))
theorem DQ (m : MZ) (hl : m.code.length ≤ 100000) (b : Bool) (hb : b = true ↔ OkMZ m) : PureFn Tryz.prog 48 [aMz m] (aB b) := by
 refine AC Tryz.func48 rfl Tryz.ntmps48 rfl rfl ?_
 have hfalse : ¬ OkMZ m → false = b := fun h => by cases b with | false => rfl | true => exact absurd (hb.1 rfl) h
 refine AE ?_;(repeat' (first |refine qv ?_ |apply qn |apply qr |refine qe ?_|fail));refine ⟨AE ?_⟩;(repeat' (first |refine qv ?_ |apply qn |apply qs |apply qr |refine Fl.skip rfl rfl ?_ |refine AM rfl ?_ |(refine AD rfl ?_ ?_ <;> intro _ <;> try (exfalso; omega)) |apply qk |apply qt |(refine AH rfl rfl ?_ ?_ <;> intro _ <;> try (exfalso; omega))))
 any_goals exact RetOk.of rfl (AV.Le.bool (hfalse fun k => by
  have k1 := k.r1;have k2 := k.r4;have k3 : 1 ≤ m.code.length := k.l1;have k4 : m.code.length ≤ 15 := k.l15
  omega))
 refine ⟨AE ?_⟩;(repeat' (first |refine qv ?_ |apply qn |apply qs |apply qr |apply qb));refine AWP.loop (G := Nat) (fun i => i ≤ m.code.length ∧ ∀ j, j < i → okIns m j (m.at j)) (fun i => AU [] [(1, .ptr 1 0), (26, .sl 4 eIz m.code), (27, aN m.code.length), (28, aN i)] [(1, .cells (eMz m) 24)]) (fun i => m.code.length - i) 0 ⟨by omega, fun j hj => by omega⟩ ?_ ?_
 ·refine Ent.of [] ?_ ?_ rfl rfl;(repeat' (first |exact True.intro |refine ⟨⟨AA _, rfl⟩, ?_⟩ |refine ⟨⟨⟨_, rfl, BLe.cells (AB _)⟩, rfl⟩, ?_⟩|fail))
 ·intro i ⟨k0, k1⟩;(repeat' (first |refine qv ?_ |apply qn |apply qs |apply qr |refine qe ?_ |(refine AD rfl ?_ ?_ <;> intro _ <;> try (exfalso; omega)) |apply qb |apply qk |apply qx |(refine Aw rfl rfl rfl rfl rfl rfl rfl rfl (by omega) (by omega) ?_; intro _ _)|fail))
  ·rename_i hi x hx;rw [Int.toNat_natCast] at hx;have hat := MZ.at_get hx;obtain ⟨f, hf⟩ := boolOf (fun _ : Unit => okIns m i x);refine qc (rgInsn_ok m i x (f ()) (hf ())) ?_;(repeat' (first |refine qv ?_ |apply qn |apply qs |apply qr |refine qw ?_ |apply qk |apply qt |(refine BN rfl ?_ ?_ <;> intro _)))
   ·rename_i hff;refine RetOk.of rfl (AV.Le.bool (hfalse fun k => ?_));have h := (hf ()).2 (hat ▸ k.ins i (by show i < m.code.length; omega));rw [h] at hff
    cases hff
   ·rename_i hff
    have hff' : f () = true := by cases h : f () with | true => rfl | false => rw [h] at hff; cases hff
    refine LoopEnd.of (i + 1) ⟨by omega, fun j hj => ?_⟩ (by omega) ?_
    ·rcases (show j < i ∨ j = i by omega) with h | h
     ·exact k1 j h
     ·rw [h, hat]; exact (hf ()).1 hff'
    ·refine Ent.of [] ?_ ?_ rfl rfl;(repeat' (first |exact True.intro |refine ⟨⟨AA _, rfl⟩, ?_⟩ |refine ⟨⟨⟨_, rfl, BLe.cells (AB _)⟩, rfl⟩, ?_⟩|fail))
  ·rename_i hi;refine ⟨?_⟩;(repeat' (first |refine qv ?_ |apply qn |apply qs |apply qr |apply qt));refine RetOk.of rfl (AV.Le.bool ?_);exact (hb.2 ⟨by omega, by omega, by show 1 ≤ m.code.length; omega, by show m.code.length ≤ 15; omega, fun j hj => k1 j (by have : j < m.code.length := hj; omega)⟩).symm
end Go.Proofs.YtmmfloplhopioaaGreat
/- mask.Witness. -/
namespace Go.AL
section
variable {P : Program} {tab : Tab} {n : Nat} {s : St}
variable {ops : Array Oper} {draw : Dr} {o : Oper} {l : List Oper} {acc : List Eff} {K : Exit → St → Prop}
theorem CI [f : Facts P tab] {t : TypeId} {x : Operand} (hop : o.op = .load t x) {b : Id} {off : Nat} (hx : opd s x = .rptr b off) {α : Type} {sz : Nat} {enc : α → List AV} {xs : List α} {bt : TypeId} (hb : s.bx b = some (.row sz enc xs bt)) {i : TI} (hti : tab t = some i) (hg : gOk ops s o = true) (hd : dOk n o.dst = true)
  {j : Nat} (hj : off = j * sz) {v : α → AV} (hv : ∀ x0, A6 (aggD i.desc) i.size (enc x0) = some (v x0)) (hvc : ∀ x0, (v x0).closed = true) {x0 : α} (he : xs[j]? = some x0)
  (r : Fl P n ops draw l ((Eff.mk (v x0) [] [] [] [b]).app o.dst s) (Eff.mk (v x0) [] [] [] [b] :: acc) K) : Fl P n ops draw (o :: l) s acc K :=
 Ab hg (OpJ.rload f.tabOk (AY hd) hop hx hb hti hj he (hv _) (hvc _)) r
end
structure MW where
  u : Int
  p : Int
  q : Int
  z : Int
  y : Int
  r : Int
  s : Int
  t : Int
def MW.X (w : MW) (a b : Int) : List Int := [a, b, w.u, w.p, w.q, w.z, w.y, w.r, w.s, w.t]
end Go.AL
namespace Go.Proofs.YtmmfloplhopioaaGreat
open Go.AL
end Go.Proofs.YtmmfloplhopioaaGreat
/- register.Input, Start; the runner. -/
namespace Go.AL
abbrev aSt (a : Int) (rs : List Int) : AV := .agg [aN a, aI rs]
end Go.AL
namespace Go.Proofs.YtmmfloplhopioaaGreat
open Go.AL
theorem indexI_ok (g : FuncId) (f : Int → Bool) (xs : List Int) (hl : xs.length ≤ 1000000) (hf : ∀ v, PureFn Tryz.prog g [aN v] (aB (f v))) : PureFn Tryz.prog 185 [aI xs, .fn g []] (aN (idxI f xs 0)) := by
 refine AC Tryz.func185 rfl Tryz.ntmps185 rfl rfl ?_;(repeat' (first |refine qv ?_ |apply qn |apply qs |apply qr |apply qb));refine AWP.loop (G := Nat) (fun i => i ≤ xs.length ∧ idxI f (xs.drop i) i = idxI f xs 0) (fun i => AU [] [(0, aI xs), (1, .fn g []), (7, aN xs.length), (8, aN i)] []) (fun i => xs.length - i) 0 ⟨by omega, by simp⟩ ?_ ?_
 ·refine Ent.of [] ?_ ?_ rfl rfl;(repeat' (first |exact True.intro |refine ⟨⟨AA _, rfl⟩, ?_⟩|fail))
 ·intro i ⟨k0, k1⟩;(repeat' (first |refine qv ?_ |apply qn |apply qs |apply qr |(refine AD rfl ?_ ?_ <;> intro _ <;> try (exfalso; omega)) |apply qb |apply qk |apply qx |apply qt |(refine Aw rfl rfl rfl rfl rfl rfl rfl rfl (by omega) (by omega) ?_; intro _ _)|fail))
  ·rename_i hi p hp;rw [Int.toNat_natCast] at hp;have hd := EA (f := f) hp;refine Ca rfl rfl (hf p) rfl rfl rfl (AB _) ?_;(repeat' (first |refine qv ?_ |apply qn |apply qs |apply qr |refine qw ?_ |apply qk |apply qt |(refine BN rfl ?_ ?_ <;> intro _)))
   ·rename_i hb;rw [if_pos hb] at hd;refine RetOk.of rfl (AV.Le.int ?_);rw [← k1, hd]
   ·rename_i hb;rw [if_neg (by rw [hb]; simp)] at hd;refine LoopEnd.of (i + 1) ⟨by omega, by rw [← k1, hd]⟩ (by omega) ?_;refine Ent.of [] ?_ ?_ rfl rfl;(repeat' (first |exact True.intro |refine ⟨⟨AA _, rfl⟩, ?_⟩|fail))
  ·refine RetOk.of rfl (AV.Le.int ?_);rw [← k1, List.drop_of_length_le (by omega)]; rfl
theorem containsI_ok (g : FuncId) (f : Int → Bool) (xs : List Int) (hl : xs.length ≤ 1000000) (hf : ∀ v, PureFn Tryz.prog g [aN v] (aB (f v))) : PureFn Tryz.prog 147 [aI xs, .fn g []] (aB (xs.any f)) := by
 refine AC Tryz.func147 rfl Tryz.ntmps147 rfl rfl ?_;have h := indexI_ok g f xs hl hf;have he := EB f xs 0 (by omega);(repeat' (first |refine qv ?_ |apply qn |apply qs |apply qr));refine qc (h) ?_;(repeat' (first |refine qv ?_ |apply qn |apply qt));exact RetOk.of rfl (AV.Le.bool he)
theorem rgInput1_ok (v : Int) : PureFn Tryz.prog 148 [aN v] (aB (decide (v < 0 ∨ 1000 < v))) := by
 refine AC Tryz.func148 rfl Tryz.ntmps148 rfl rfl ?_;(repeat' (first |refine qv ?_ |apply qn |apply qs |apply qr |refine Fl.skip rfl rfl ?_ |apply qt |(refine AH rfl rfl ?_ ?_ <;> intro _ <;> try (exfalso; omega))))
 all_goals refine RetOk.of rfl (AV.Le.bool ?_)
 all_goals first
  | exact (decide_eq_true (by omega)).symm
  | exact decide_eq_decide.2 (by omega)
theorem rgFits1_ok (v : Int) : PureFn Tryz.prog 149 [aN v] (aB (decide (v < 0 ∨ 1099511627776 < v))) := by
 refine AC Tryz.func149 rfl Tryz.ntmps149 rfl rfl ?_;(repeat' (first |refine qv ?_ |apply qn |apply qs |apply qr |refine Fl.skip rfl rfl ?_ |apply qt |(refine AH rfl rfl ?_ ?_ <;> intro _ <;> try (exfalso; omega))))
 all_goals refine RetOk.of rfl (AV.Le.bool ?_)
 all_goals first
  | exact (decide_eq_true (by omega)).symm
  | exact decide_eq_decide.2 (by omega)
theorem anyOut {lo hi : Int} {xs : List Int} : (xs.any fun v => decide (v < lo ∨ hi < v)) = false ↔ ∀ v ∈ xs, lo ≤ v ∧ v ≤ hi := by
 rw [List.any_eq_false];refine ⟨fun h v hv => ?_, fun h v hv => ?_⟩
 ·have := h v hv;simp only [decide_eq_true_eq] at this;omega
 ·have := h v hv;simp only [decide_eq_true_eq];omega
theorem rgInput_ok (m : MZ) (x : List Int) (hl : x.length ≤ 100000) (h1 : 0 ≤ m.regs) (b : Bool) (hb : b = true ↔ OkIn m x) : PureFn Tryz.prog 81 [aMz m, aI x] (aB b) := by
 refine AC Tryz.func81 rfl Tryz.ntmps81 rfl rfl ?_;(repeat' (first |refine qv ?_ |apply qn |apply qs |apply qr |refine qe ?_ |refine Fl.skip rfl rfl ?_ |apply qt |(refine AH rfl rfl ?_ ?_ <;> intro _ <;> try (exfalso; omega))))
 ·rename_i h;refine qc (containsI_ok 148 (fun v => decide (v < 0 ∨ 1000 < v)) x (by omega) rgInput1_ok) ?_;(repeat' (first |refine qv ?_ |apply qn |apply qt));refine RetOk.of rfl (AV.Le.bool ?_)
  cases b with
  | true =>
   have := (hb.1 rfl).2;rw [anyOut.2 this]; rfl
  | false =>
   cases hc : x.any fun v => decide (v < 0 ∨ 1000 < v) with
   | true => rfl
   | false =>
    have := hb.2 ⟨by show x.length = m.regs.toNat; omega, anyOut.1 hc⟩
    cases this
 ·rename_i h;refine RetOk.of rfl (AV.Le.bool ?_)
  cases b with
  | false => rfl
  | true => have : x.length = m.regs.toNat := (hb.1 rfl).1; omega
theorem cloneRowI_ok (l : List Int) (hl : l.length ≤ 100000) (hne : l ≠ []) : IoFn Tryz.prog 82 [aI l] [] (.ret (.row 900)) [(900, .row 1 eI l 3)] := by
 refine AG Tryz.func82 rfl Tryz.ntmps82 rfl rfl rfl ?_;refine AE ?_;(repeat' (first |refine qv ?_ |apply qn |apply qr));refine ⟨AWP.seq (AWP.seq (AWP.nilTest rfl rfl rfl rfl rfl rfl rfl rfl rfl rfl ?_))⟩;intro b hb
 cases b with
 | true => exact absurd (hb rfl) hne
 | false =>
  (repeat' (first |apply qs |apply qr |refine AF rfl ?_ |apply qk));refine DH rfl rfl rfl rfl rfl rfl rfl eI [] rfl rfl rfl rfl (by simp) (AB _) ?_;(repeat' (first |refine qv ?_|fail));refine qa (hby := (by dsimp only [List.length_nil]; omega)) (hm := (by simp; omega)) (r := ?_);(repeat' (first |refine qv ?_ |apply qn |apply qt));exact ⟨⟨[(900, 7)], _, _, AK _ _ _, rfl, AA _, rfl, ⟨⟨⟨_, rfl, BLe.row rfl⟩, rfl⟩, trivial⟩, rfl, rfl⟩⟩
abbrev rnB (m : MZ) (a : Int) (rs : List Int) : List (AL.Id × Bx) := [(900, .cells [aN m.regs, .sl 4 eIz m.code, aN a, .row 901] 127), (901, .row 1 eI rs 3)]
theorem rnBegin_ok (m : MZ) (a : Int) (rs : List Int) (hl : rs.length ≤ 100000) (hne : rs ≠ []) : IoFn Tryz.prog 84 [aMz m, aSt a rs] [] (.ret (.ptr 900 0)) (rnB m a rs) := by
 refine AG Tryz.func84 rfl Tryz.ntmps84 rfl rfl rfl ?_;(repeat' (first |refine qv ?_ |apply qn |apply qs |apply qr |refine qe ?_|fail));refine Ay rfl [(900, 10)] (cloneRowI_ok rs hl hne) rfl rfl (AB _) rfl trivial rfl rfl rfl rfl rfl ?_;(repeat' (first |refine qv ?_ |refine Fl.nil (fun _ => by kernel_rfl) ?_ |refine qe ?_ |apply qt));exact ⟨⟨[(900, 13), (901, 10)], _, _, AK _ _ _, rfl, AA _, rfl, ⟨⟨⟨_, rfl, BLe.cells (AB _)⟩, rfl⟩, ⟨⟨_, rfl, BLe.row rfl⟩, rfl⟩, trivial⟩, rfl, rfl⟩⟩
theorem rnOver_ok (m : MZ) (a : Nat) (x : IZ) (rs : List Int) (hx : m.code[Int.toNat (a : Int)]? = some x) (hr : x.op ≠ 3 → 0 ≤ x.rg ∧ x.rg < rs.length) (b : Bool) (hb : b = true ↔ x.op = 3 ∨ (x.op = 1 ∧ rs[x.rg.toNat]? = some 0)) : IoFn Tryz.prog 85 [.ptr 900 0] (rnB m a rs) (.ret (aB b)) (rnB m a rs) := by
 refine AG Tryz.func85 rfl Tryz.ntmps85 rfl rfl rfl ?_
 have ha : (a : Int) < m.code.length := by have := (List.getElem?_eq_some_iff.1 hx).1; omega
 by_cases h3 : x.op = 3
 ·rw [hb.2 (.inl h3)];(repeat' (first |refine qv ?_ |apply qn |refine Fl.nil (fun _ => by kernel_rfl) ?_ |apply qs |apply qr |refine qe ?_ |refine Fl.skip rfl rfl ?_ |apply qt |refine qK ?_ |(refine AH rfl rfl ?_ ?_ <;> intro _ <;> try (exfalso; omega))));exact ⟨⟨[], _, _, AK _ _ _, rfl, AA _, rfl, ⟨⟨⟨_, rfl, BLe.cells (AB _)⟩, rfl⟩, ⟨⟨_, rfl, BLe.row rfl⟩, rfl⟩, trivial⟩, rfl, rfl⟩⟩
 ·obtain ⟨r0, r1⟩ := hr h3;(repeat' (first |refine qv ?_ |apply qn |refine Fl.nil (fun _ => by kernel_rfl) ?_ |apply qs |apply qr |refine qe ?_ |refine Fl.skip rfl rfl ?_ |apply qt |refine qK ?_ |refine Aq rfl rfl rfl rfl rfl rfl rfl rfl (by omega) (by first | omega | (simp; omega)) ?_ |(refine Fl.rld rfl rfl rfl rfl rfl rfl rfl (fun _ => rfl) (fun _ => rfl) (by first | omega | (simp; omega)) ?_; intro _ _) |(refine AH rfl rfl ?_ ?_ <;> intro _ <;> try (exfalso; omega))))
  ·rename_i h1 y hy;refine ⟨⟨[], _, _, AK _ _ _, rfl, AV.Le.bool ?_, rfl, ⟨⟨⟨_, rfl, BLe.cells (AB _)⟩, rfl⟩, ⟨⟨_, rfl, BLe.row rfl⟩, rfl⟩, trivial⟩, rfl, rfl⟩⟩;refine dec_of hb ⟨fun h => .inr ⟨h1, by rw [hy, h]⟩, fun h => ?_⟩;rcases h with h | ⟨_, h⟩
   ·exact absurd h h3
   ·rw [hy] at h; injection h
  ·rename_i h1;refine ⟨⟨[], _, _, AK _ _ _, rfl, AV.Le.bool ?_, rfl, ⟨⟨⟨_, rfl, BLe.cells (AB _)⟩, rfl⟩, ⟨⟨_, rfl, BLe.row rfl⟩, rfl⟩, trivial⟩, rfl, rfl⟩⟩;refine (Bool.eq_false_iff.2 fun h => ?_).symm;rcases hb.1 h with k | k
   ·exact h3 k
   ·exact h1 k.1
theorem rnInc_ok (m : MZ) (a : Nat) (x : IZ) (rs : List Int) (v : Int) (hx : m.code[Int.toNat (a : Int)]? = some x) (ho : x.op = 0) (hr : 0 ≤ x.rg ∧ x.rg < rs.length) (hv : rs[x.rg.toNat]? = some v) (h0 : 0 ≤ v) (h1 : v < 1099511627776) : IoFn Tryz.prog 86 [.ptr 900 0] (rnB m a rs) (.ret (aB true)) (rnB m x.nx (rs.set x.rg.toNat (v + 1))) := by
 refine AG Tryz.func86 rfl Tryz.ntmps86 rfl rfl rfl ?_
 have ha : (a : Int) < m.code.length := by have := (List.getElem?_eq_some_iff.1 hx).1; omega
 obtain ⟨r0, r1⟩ := hr;(repeat' (first |refine qv ?_ |apply qn |refine Fl.nil (fun _ => by kernel_rfl) ?_ |apply qs |apply qr |refine qe ?_ |apply qb |refine qK ?_ |refine Aq rfl rfl rfl rfl rfl rfl rfl rfl (by omega) (by first | omega | (simp; omega)) ?_ |(refine AH rfl rfl ?_ ?_ <;> intro _ <;> try (exfalso; omega))));refine Fl.ncR rfl rfl rfl rfl ?_;refine CI rfl rfl rfl rfl rfl rfl rfl (fun _ => rfl) (fun _ => rfl) hv ?_;(repeat' (first |refine qv ?_ |apply qn |apply qs |apply qr |(refine AD rfl ?_ ?_ <;> intro _ <;> try (exfalso; omega))));refine Fl.ncR rfl rfl rfl rfl ?_;refine CI rfl rfl rfl rfl rfl rfl rfl (fun _ => rfl) (fun _ => rfl) hv ?_;(repeat' (first |refine qw ?_|fail));refine Fl.ncR rfl rfl rfl rfl ?_;(repeat' (first |refine qv ?_ |apply qn |apply qs |apply qr |refine qe ?_ |apply qt |refine A9 rfl rfl rfl rfl rfl rfl rfl rfl rfl rfl rfl (AB _) rfl (by first | omega | (simp; omega)) ?_|fail));exact ⟨⟨[], _, _, AK _ _ _, rfl, AA _, rfl, ⟨⟨⟨_, rfl, BLe.cells (AB _)⟩, rfl⟩, ⟨⟨_, rfl, BLe.row rfl⟩, rfl⟩, trivial⟩, rfl, rfl⟩⟩
theorem rnDec_ok (m : MZ) (a : Nat) (x : IZ) (rs : List Int) (v : Int) (hx : m.code[Int.toNat (a : Int)]? = some x) (ho : x.op = 1) (hr : 0 ≤ x.rg ∧ x.rg < rs.length) (hv : rs[x.rg.toNat]? = some v) (h0 : 0 ≤ v) (h1 : v < 1099511627776) : IoFn Tryz.prog 86 [.ptr 900 0] (rnB m a rs) (.ret (aB true)) (rnB m x.nx (rs.set x.rg.toNat (v - 1))) := by
 refine AG Tryz.func86 rfl Tryz.ntmps86 rfl rfl rfl ?_
 have ha : (a : Int) < m.code.length := by have := (List.getElem?_eq_some_iff.1 hx).1; omega
 obtain ⟨r0, r1⟩ := hr;(repeat' (first |refine qv ?_ |apply qn |refine Fl.nil (fun _ => by kernel_rfl) ?_ |apply qs |apply qr |refine qe ?_ |refine Fl.skip rfl rfl ?_ |refine AF rfl ?_ |(refine AD rfl ?_ ?_ <;> intro _ <;> try (exfalso; omega)) |apply qb |refine qK ?_ |refine Aq rfl rfl rfl rfl rfl rfl rfl rfl (by omega) (by first | omega | (simp; omega)) ?_ |(refine AH rfl rfl ?_ ?_ <;> intro _ <;> try (exfalso; omega))));refine Fl.ncR rfl rfl rfl rfl ?_;refine CI rfl rfl rfl rfl rfl rfl rfl (fun _ => rfl) (fun _ => rfl) hv ?_;(repeat' (first |refine qw ?_|fail));refine Fl.ncR rfl rfl rfl rfl ?_;(repeat' (first |refine qv ?_ |apply qn |apply qs |apply qr |refine qe ?_ |apply qt |refine A9 rfl rfl rfl rfl rfl rfl rfl rfl rfl rfl rfl (AB _) rfl (by first | omega | (simp; omega)) ?_|fail));exact ⟨⟨[], _, _, AK _ _ _, rfl, AA _, rfl, ⟨⟨⟨_, rfl, BLe.cells (AB _)⟩, rfl⟩, ⟨⟨_, rfl, BLe.row rfl⟩, rfl⟩, trivial⟩, rfl, rfl⟩⟩
theorem rnJmp_ok (m : MZ) (a : Nat) (x : IZ) (rs : List Int) (v : Int) (hx : m.code[Int.toNat (a : Int)]? = some x) (ho : x.op = 2) (hr : 0 ≤ x.rg ∧ x.rg < rs.length) (hv : rs[x.rg.toNat]? = some v) (h0 : 0 ≤ v) : IoFn Tryz.prog 86 [.ptr 900 0] (rnB m a rs) (.ret (aB true)) (rnB m (if v = 0 then x.zr else x.nx) rs) := by
 refine AG Tryz.func86 rfl Tryz.ntmps86 rfl rfl rfl ?_
 have ha : (a : Int) < m.code.length := by have := (List.getElem?_eq_some_iff.1 hx).1; omega
 obtain ⟨r0, r1⟩ := hr;(repeat' (first |refine qv ?_ |apply qn |refine Fl.nil (fun _ => by kernel_rfl) ?_ |apply qs |apply qr |refine qe ?_ |refine Fl.skip rfl rfl ?_ |refine AF rfl ?_ |(refine AD rfl ?_ ?_ <;> intro _ <;> try (exfalso; omega)) |apply qb |refine qK ?_ |refine Aq rfl rfl rfl rfl rfl rfl rfl rfl (by omega) (by first | omega | (simp; omega)) ?_ |(refine AH rfl rfl ?_ ?_ <;> intro _ <;> try (exfalso; omega))));refine Fl.ncR rfl rfl rfl rfl ?_;refine CI rfl rfl rfl rfl rfl rfl rfl (fun _ => rfl) (fun _ => rfl) hv ?_;(repeat' (first |refine qv ?_ |apply qn |apply qs |apply qr |refine qe ?_ |(refine AD rfl ?_ ?_ <;> intro _ <;> try (exfalso; omega)) |apply qk |apply qt))
 ·rename_i h;rw [if_pos h];exact ⟨⟨[], _, _, AK _ _ _, rfl, AA _, rfl, ⟨⟨⟨_, rfl, BLe.cells (AB _)⟩, rfl⟩, ⟨⟨_, rfl, BLe.row rfl⟩, rfl⟩, trivial⟩, rfl, rfl⟩⟩
 ·rename_i h;rw [if_neg h];exact ⟨⟨[], _, _, AK _ _ _, rfl, AA _, rfl, ⟨⟨⟨_, rfl, BLe.cells (AB _)⟩, rfl⟩, ⟨⟨_, rfl, BLe.row rfl⟩, rfl⟩, trivial⟩, rfl, rfl⟩⟩
end Go.Proofs.YtmmfloplhopioaaGreat
/- The system of a machine and an input: its links; that they hold is the history's equations. Plain. -/
namespace Go.AL
abbrev addZ (m : MZ) (x : List Int) : Int := m.l + sumL x
abbrev LkU := Int × List (List UT)
def hsA (m : MZ) (x : List Int) : List LkU := [(2, [conU m.V 2, A5 [] [varU m.V 0, conU m.V (addZ m x)], varU m.V 1]), (2, [hsQ m.V, A5 [] [varU m.V 0, conU m.V 1], CW m.V]), (0, [subL (varU m.V 2) (BJ m.V (fun _ => true) 0 m.code (conU m.V 0))])]
def hsB (m : MZ) (i : Nat) : LkU := (3, [varU m.V (3 + i), varU m.V 2])
def hsC (m : MZ) : List LkU := [(3, [conU m.V 1, varU m.V 3]), (2, [hsQ m.V, varU m.V 0, BJ m.V (fun x => decide (x.op = 3)) 0 m.code (conU m.V 0)])]
def hsD (m : MZ) (j : Nat) : LkU := (3, [varU m.V (3 + m.l + j), Av (conU m.V 1) [subL (varU m.V 1) (conU m.V 1), varU m.V 2]])
def Bm (m : MZ) (i : Nat) : List UT := Av (conU m.V 1) [hsQ m.V, varU m.V (3 + i)]
def hsJmp (m : MZ) (x : IZ) : List UT := subL (A5 [] [varU m.V (3 + x.nx.toNat), Av (conU m.V 1) [hsQ m.V, varU m.V 2]]) (Av (conU m.V 1) [conU m.V 2, varU m.V (3 + m.l + x.rg.toNat)])
def hsGo (m : MZ) (i : Nat) (x : IZ) : List LkU :=
  if x.op = 3 then [] else if x.op = 2 ∧ x.zr ≠ x.nx then [(3, [Bm m i, A5 [] [varU m.V (3 + x.nx.toNat), varU m.V (3 + x.zr.toNat)]]), (3, [Bm m i, hsJmp m x])] else [(3, [Bm m i, varU m.V (3 + x.nx.toNat)])]
def Bi (m : MZ) (op : Int) (j : Nat) : List UT := Av (conU m.V 1) [hsQ m.V, BJ m.V (fun x => decide (x.op = op) && decide (x.rg = j)) 0 m.code (conU m.V 0)]
def hsL (m : MZ) (j : Nat) : List UT := A5 [] [varU m.V (3 + m.l + j), Av (conU m.V 1) [varU m.V (3 + m.l + m.R + j), CW m.V]]
def hsR0 (m : MZ) (x : List Int) (j : Nat) : List UT := A5 [] [conU m.V (x.getD j 0), Av (conU m.V 1) [hsQ m.V, varU m.V (3 + m.l + j)], Bi m 0 j]
def hsF (m : MZ) (x : List Int) (j : Nat) : LkU := (0, [subL (hsL m j) (subL (hsR0 m x j) (Bi m 1 j))])
def hsK (m : MZ) (x : List Int) : List LkU := hsA m x ++ (List.range m.l).map (hsB m) ++ hsC m ++ (List.range m.R).map (hsD m) ++ (List.range m.l).flatMap (fun i => hsGo m i (m.at i)) ++ (List.range m.R).map (hsF m x)
def hsS (m : MZ) (x : List Int) : SZ := ⟨m.V, (hsK m x).map fun s => Bo m.V s.1 s.2⟩
/-! sizes -/
theorem OkMZ.V6 {m : MZ} (h : OkMZ m) : 6 ≤ m.V := by
 have := h.l1;have := h.r1;show 6 ≤ 3 + m.code.length + 2 * m.regs.toNat;have : 1 ≤ m.code.length := h.l1;omega
theorem sumL_in : ∀ {l : List Int}, (∀ n ∈ l, 0 ≤ n ∧ n ≤ 1000) → 0 ≤ sumL l ∧ sumL l ≤ 1000 * l.length
 | [], _ => by simp [sumL]
 | x :: l, h => by
  have := sumL_in (l := l) fun n hn => h n (by simp [hn]);have := h x (by simp);simp only [sumL, List.length_cons];omega
theorem Dx {m : MZ} {x : List Int} (ok : OkMZ m) (hx : OkIn m x) : 1 ≤ addZ m x ∧ addZ m x ≤ 4015 ∧ (m.l : Int) ≤ addZ m x := by
 obtain ⟨h1, h2⟩ := sumL_in hx.2;have e := hx.1;have := ok.l1;have := ok.l15;have := ok.r4
 have hR : m.R ≤ 4 := by show m.regs.toNat ≤ 4; omega
 show 1 ≤ (m.l : Int) + sumL x ∧ (m.l : Int) + sumL x ≤ 4015 ∧ (m.l : Int) ≤ (m.l : Int) + sumL x;rw [e] at h2;omega
section
variable {m : MZ} {x : List Int}
theorem sz_here (ok : OkMZ m) {i : Nat} (hi : i < m.l) : SzU m.V 2 2 1 (Bm m i) := by
 have a := (BV ok.V6).1;have b := AP (V := m.V) (i := 3 + i) (by show 3 + i < 3 + m.l + 2 * m.R; omega);unfold Bm;rw [Bs a];exact (a.mul b).mono (by omega) (by decide) (by omega)
theorem EK (ok : OkMZ m) (c : IZ → Bool) : SzU m.V 1 15 16 (BJ m.V c 0 m.code (conU m.V 0)) := (hsSum0_sz c).mono (by omega) ok.l15 (by have := ok.l15; omega)
theorem sz_does (ok : OkMZ m) (op : Int) (j : Nat) : SzU m.V 2 30 16 (Bi m op j) := by
 have a := (BV ok.V6).1;have b := EK ok (fun x => decide (x.op = op) && decide (x.rg = j));unfold Bi;rw [Bs a];exact (a.mul b).mono (by omega) (by decide) (by omega)
theorem sz_L (ok : OkMZ m) {j : Nat} (hj : j < m.R) : SzU m.V 3 5 4 (hsL m j) ∧ SzU m.V 3 4 3 (Av (conU m.V 1) [varU m.V (3 + m.l + m.R + j), CW m.V]) := by
 have a := AP (V := m.V) (i := 3 + m.l + j) (by show 3 + m.l + j < 3 + m.l + 2 * m.R; omega);have b := AP (V := m.V) (i := 3 + m.l + m.R + j) (by show 3 + m.l + m.R + j < 3 + m.l + 2 * m.R; omega);have c := (DY ok.V6).1
 have d : SzU m.V 3 4 3 (Av (conU m.V 1) [varU m.V (3 + m.l + m.R + j), CW m.V]) := by
  rw [Bs b]; exact (b.mul c).mono (by omega) (by decide) (by omega)
 refine ⟨?_, d⟩;unfold hsL;rw [Co a d];exact (a.add d).mono (by omega) (by decide) (by omega)
theorem getD_in (hx : OkIn m x) (j : Nat) : 0 ≤ x.getD j 0 ∧ x.getD j 0 ≤ 1000 := by
 rw [List.getD_eq_getElem?_getD]
 cases h : x[j]? with
 | none => simp
 | some n => exact hx.2 n (List.mem_of_getElem? h)
theorem sz_R0 (ok : OkMZ m) (hx : OkIn m x) {j : Nat} (hj : j < m.R) : SzU m.V 2 3000 48 (hsR0 m x j) ∧ B9 m.V [] [conU m.V (x.getD j 0), Av (conU m.V 1) [hsQ m.V, varU m.V (3 + m.l + j)], Bi m 0 j] = true ∧ SzU m.V 2 2 1 (Av (conU m.V 1) [hsQ m.V, varU m.V (3 + m.l + j)]) := by
 have hb := getD_in hx j;have a := (SzU.con m.V (x.getD j 0)).mono (d' := 2) (c' := 1000) (n' := 16) (by omega) (by omega) (by omega);have q := (BV ok.V6).1;have v := AP (V := m.V) (i := 3 + m.l + j) (by show 3 + m.l + j < 3 + m.l + 2 * m.R; omega)
 have b : SzU m.V 2 2 1 (Av (conU m.V 1) [hsQ m.V, varU m.V (3 + m.l + j)]) := by
  rw [Bs q]; exact (q.mul v).mono (by omega) (by decide) (by omega)
 have d := sz_does ok 0 j
 obtain ⟨k1, k2⟩ := okSums_sz (V := m.V) (d := 2) (cp := 1000) (np := 16) (by omega) [conU m.V (x.getD j 0), Av (conU m.V 1) [hsQ m.V, varU m.V (3 + m.l + j)], Bi m 0 j] ((SzU.nil m.V).mono (d' := 2) (c' := 0) (n' := 0) (by omega) (by omega) (by omega)) (fun p hp => by
  simp only [List.mem_cons, List.not_mem_nil, or_false] at hp;rcases hp with rfl | rfl | rfl
  ·exact a
  ·exact b.mono (by omega) (by omega) (by omega)
  ·exact d.mono (by omega) (by omega) (by omega)) (by simp only [List.length_cons, List.length_nil]; omega) (by simp only [List.length_cons, List.length_nil]; omega)
 exact ⟨k2.mono (by omega) (by simp only [List.length_cons, List.length_nil]; omega) (by simp only [List.length_cons, List.length_nil]; omega), k1, b⟩
def SmLk (V : Nat) (s : LkU) : Prop := BT s.1 ≠ 0 ∧ (s.2.length : Int) = BT s.1 ∧ ∀ p ∈ s.2, SzU V 4 10000 200 p
theorem SmLk.of {V : Nat} {kind : Int} {ls : List (List UT)} (h1 : BT kind ≠ 0) (h2 : (ls.length : Int) = BT kind) (h : ∀ p ∈ ls, SzU V 4 10000 200 p) : SmLk V (kind, ls) := ⟨h1, h2, h⟩
theorem SzU.big {V d c n : Nat} {p : List UT} (h : SzU V d c n p) (h1 : d ≤ 4) (h2 : c ≤ 10000) (h3 : n ≤ 200) : SzU V 4 10000 200 p := h.mono h1 h2 h3
theorem Cy (ok : OkMZ m) (hx : OkIn m x) : ∀ s ∈ hsK m x, SmLk m.V s := by
 obtain ⟨s1, s2, s3⟩ := Dx ok hx;have hV6 := ok.V6;have v := fun (i : Nat) (hi : i < m.V) => (AP (V := m.V) hi).big (by omega) (by omega) (by omega);have q := (BV hV6).1;have al := (DY hV6).1;have hVe : m.V = 3 + m.l + 2 * m.R := rfl
 have sadd : ∀ k : Int, 0 ≤ k → k ≤ 5000 → SzU m.V 4 10000 200 (A5 [] [varU m.V 0, conU m.V k]) := fun k k0 k1 => by
  have a := AP (V := m.V) (i := 0) (by omega);have b := SzU.con m.V k;rw [Co a b];exact (a.add b).big (by omega) (by omega) (by omega)
 intro l hl;simp only [hsK, List.mem_append, List.mem_map, List.mem_flatMap, List.mem_range] at hl;rcases hl with ((((hl | ⟨i, hi, rfl⟩) | hl) | ⟨j, hj, rfl⟩) | ⟨i, hi, hl⟩) | ⟨j, hj, rfl⟩
 ·simp only [hsA, List.mem_cons, List.not_mem_nil, or_false] at hl;rcases hl with rfl | rfl | rfl
  ·refine SmLk.of (by decide) rfl ?_;simp only [List.forall_mem_cons];exact ⟨(SzU.con m.V 2).big (by omega) (by decide) (by omega), sadd _ (by omega) (by omega), v 1 (by omega), by simp⟩
  ·refine SmLk.of (by decide) rfl ?_;simp only [List.forall_mem_cons];exact ⟨q.big (by omega) (by omega) (by omega), sadd 1 (by omega) (by omega), al.big (by omega) (by omega) (by omega), by simp⟩
  ·refine SmLk.of (by decide) rfl ?_;simp only [List.forall_mem_cons];exact ⟨((AP (V := m.V) (i := 2) (by omega)).sub (EK ok _)).big (by omega) (by omega) (by omega), by simp⟩
 ·unfold hsB;refine SmLk.of (by decide) rfl ?_;simp only [List.forall_mem_cons];exact ⟨v _ (by omega), v 2 (by omega), by simp⟩
 ·simp only [hsC, List.mem_cons, List.not_mem_nil, or_false] at hl;rcases hl with rfl | rfl
  ·refine SmLk.of (by decide) rfl ?_;simp only [List.forall_mem_cons];exact ⟨(SzU.con m.V 1).big (by omega) (by decide) (by omega), v 3 (by omega), by simp⟩
  ·refine SmLk.of (by decide) rfl ?_;simp only [List.forall_mem_cons];exact ⟨q.big (by omega) (by omega) (by omega), v 0 (by omega), (EK ok _).big (by omega) (by omega) (by omega), by simp⟩
 ·unfold hsD;refine SmLk.of (by decide) rfl ?_;simp only [List.forall_mem_cons];have a := (AP (V := m.V) (i := 1) (by omega)).sub (SzU.con m.V 1);refine ⟨v _ (by omega), ?_, by simp⟩;rw [Bs a];exact (a.mul (AP (V := m.V) (i := 2) (by omega))).big (by omega) (by decide) (by omega)
 ·have hh := (sz_here ok hi).big (by omega) (by omega) (by omega);unfold hsGo at hl;split at hl
  ·simp at hl
  ·rename_i h3;rcases ok.ins i hi with k | ⟨⟨a1, a2⟩, ⟨b1, b2⟩, k⟩
   ·rw [k] at h3; exact absurd rfl h3
   have hR : ((m.R : Nat) : Int) = m.regs := by have := ok.r1; show ((m.regs.toNat : Nat) : Int) = _; omega
   split at hl
   ·rename_i h2
    have hz : 0 ≤ (m.at i).zr ∧ (m.at i).zr < m.l := by
     rcases k with k | k
     ·exact ⟨k.2.1, k.2.2.1⟩
     ·omega
    simp only [List.mem_cons, List.not_mem_nil, or_false] at hl;have vn := AP (V := m.V) (i := 3 + (m.at i).nx.toNat) (by omega);have vz := AP (V := m.V) (i := 3 + (m.at i).zr.toNat) (by omega);have vr := AP (V := m.V) (i := 3 + m.l + (m.at i).rg.toNat) (by omega);have v2 := AP (V := m.V) (i := 2) (by omega);rcases hl with rfl | rfl
    ·refine SmLk.of (by decide) rfl ?_;simp only [List.forall_mem_cons];refine ⟨hh, ?_, by simp⟩;rw [Co vn vz];exact (vn.add vz).big (by omega) (by omega) (by omega)
    ·refine SmLk.of (by decide) rfl ?_;simp only [List.forall_mem_cons];refine ⟨hh, ?_, by simp⟩;have e1 := q.mul v2;have e2 := (SzU.con m.V 2).mul vr;unfold hsJmp;rw [Bs q, Bs (SzU.con m.V 2), Co vn e1];exact ((vn.add e1).sub e2).big (by omega) (by decide) (by omega)
   ·simp only [List.mem_cons, List.not_mem_nil, or_false] at hl;subst hl;refine SmLk.of (by decide) rfl ?_;simp only [List.forall_mem_cons];exact ⟨hh, v _ (by omega), by simp⟩
 ·unfold hsF;refine SmLk.of (by decide) rfl ?_;simp only [List.forall_mem_cons];exact ⟨((sz_L ok hj).1.sub ((sz_R0 ok hx hj).1.sub (sz_does ok 1 j))).big (by omega) (by omega) (by omega), by simp⟩
theorem SmLk.ok {V : Nat} (hV : V ≤ 32) {s : LkU} (h : SmLk V s) : OkL V (Bo V s.1 s.2) ∧ WL (Bo V s.1 s.2) := by
 have := linkU_sz hV (by omega) (by decide) (by omega) h.1 h.2.1 h.2.2;exact ⟨this.1, this.2.1⟩
theorem hsS_w (ok : OkMZ m) (hx : OkIn m x) : WS (hsS m x) := fun l hl => by
 obtain ⟨s, hs, rfl⟩ := List.mem_map.1 hl;exact ((Cy ok hx s hs).ok (by have := ok.V32; omega)).2
end
end Go.AL
/- history's maker: put, sum. -/
namespace Go.AL
abbrev aSz (m : MZ) (x : List Int) : AV := .agg [aN m.regs, .sl 4 eIz m.code, aI x, aN m.V, aN (addZ m x)]
end Go.AL
namespace Go.Proofs.YtmmfloplhopioaaGreat
open Go.AL
theorem BZ (m : MZ) (x : List Int) (i : Nat) (hi : i ≤ 1000) : PureFn Tryz.prog 96 [aSz m x, aN i] (aN ((3 + i : Nat) : Int)) := by
 refine AC Tryz.func96 rfl Tryz.ntmps96 rfl rfl ?_;(repeat' (first |refine qv ?_ |apply qn |apply qs |apply qr |refine qw ?_ |refine qe ?_ |apply qt));exact RetOk.of rfl (AV.Le.int (by omega))
theorem szReg_ok (m : MZ) (x : List Int) (i : Nat) (hl : m.code.length ≤ 1000) (hi : i ≤ 1000) : PureFn Tryz.prog 98 [aSz m x, aN i] (aN ((3 + m.l + i : Nat) : Int)) := by
 refine AC Tryz.func98 rfl Tryz.ntmps98 rfl rfl ?_;have hl2 : m.l = m.code.length := rfl;(repeat' (first |refine qv ?_ |apply qn |apply qs |apply qr |refine qw ?_ |refine qe ?_ |apply qt));exact RetOk.of rfl (AV.Le.int (by omega))
theorem szEnd_ok (m : MZ) (x : List Int) (i : Nat) (hl : m.code.length ≤ 1000) (h0 : 0 ≤ m.regs) (h4 : m.regs ≤ 4) (hi : i ≤ 1000) : PureFn Tryz.prog 100 [aSz m x, aN i] (aN ((3 + m.l + m.R + i : Nat) : Int)) := by
 refine AC Tryz.func100 rfl Tryz.ntmps100 rfl rfl ?_;have hl2 : m.l = m.code.length := rfl;have hR : m.R = m.regs.toNat := rfl;(repeat' (first |refine qv ?_ |apply qn |apply qs |apply qr |refine qw ?_ |refine qe ?_ |apply qt));exact RetOk.of rfl (AV.Le.int (by omega))
abbrev kBr (r : AL.Id) (m : MZ) (x : List Int) (q al : PZ) (L : List LZ) : List (AL.Id × Bx) := [(900, .cells [aN m.regs, .sl 4 eIz m.code, aI x, aN m.V, aN (addZ m x), aN m.V, aN q.vars, .sl 3 eT q.terms, aN al.vars, .sl 3 eT al.terms, .row r] 144), (r, .row 3 eL L 99)]
abbrev kB (m : MZ) (x : List Int) (q al : PZ) (L : List LZ) : List (AL.Id × Bx) := kBr 901 m x q al L
theorem CU (m : MZ) (hm : OkMZ m) (x : List Int) (q al : PZ) (L : List LZ) (hL : L.length ≤ 10000) (kind : Int) (ls : List (List UT)) (h : SmLk m.V (kind, ls)) : IoGn Tryz.prog 107 [.ptr 900 0, aN kind, .sl 2 eP (ls.map (mkP m.V))] (kB m x q al L) (.tup []) (kBr 902 m x q al (L ++ [Bo m.V kind ls])) := by
 refine B8 Tryz.func107 rfl Tryz.ntmps107 rfl rfl ?_;have hV := hm.V32
 have h3 : BT kind ≤ 3 := by unfold BT; repeat' split <;> omega
 have hll : (ls.length : Int) = BT kind := h.2.1;have hsz : ∀ p ∈ ls, SzU m.V 4 10000 200 p := h.2.2;(repeat' (first |refine qv ?_ |apply qr));refine qc (kLink_ok m.V kind ls (by omega) (by omega) fun p hp => ⟨by have := (hsz p hp).ln; omega, fun u hu => ((hsz p hp).ex u hu).1⟩) ?_;refine ql eL [Bo m.V kind ls] ?_;refine qa (hby := (by dsimp only [List.length_nil, List.length_cons]; omega)) (hm := (by simp; omega)) (r := ?_);(repeat' (first |refine qv ?_ |refine Fl.nil (fun _ => by kernel_rfl) ?_ |refine qe ?_|fail));exact ⟨⟨[(902, 19)], _, _, AK _ _ _, rfl, AA _, rfl, ⟨⟨⟨_, rfl, BLe.cells (AB _)⟩, rfl⟩, ⟨⟨_, rfl, BLe.row rfl⟩, rfl⟩, trivial⟩, rfl, rfl⟩⟩
theorem hsSum_drop {V : Nat} {c : IZ → Bool} {code : List IZ} {i : Nat} {y : IZ} (h : code[i]? = some y) (acc : List UT) : BJ V c i (code.drop i) acc = BJ V c (i + 1) (code.drop (i + 1)) (if c y then A5 [] [acc, varU V (3 + i)] else acc) := by
 have hi := (List.getElem?_eq_some_iff.1 h).1;rw [List.drop_eq_getElem_cons hi, (List.getElem?_eq_some_iff.1 h).2];rfl
set_option maxHeartbeats 1000000 in
theorem mkSum_ok (m : MZ) (hm : OkMZ m) (x : List Int) (q al : PZ) (L : List LZ) (g : FuncId) (c : IZ → Bool) (hg : ∀ y, PureFn Tryz.prog g [aIz y] (aB (c y))) : IoFn Tryz.prog 109 [.ptr 900 0, .fn g []] (kB m x q al L) (.ret (aP (mkP m.V (BJ m.V c 0 m.code (conU m.V 0))))) (kB m x q al L) := by
 refine AG Tryz.func109 rfl Tryz.ntmps109 rfl rfl rfl ?_;have hV := hm.V32;have hl : m.code.length ≤ 15 := hm.l15;have hVe : m.V = 3 + m.code.length + 2 * m.R := rfl;(repeat' (first |refine qv ?_ |apply qn |apply qs |apply qr |refine qe ?_|fail));refine qc (Do m.V 0 (by omega) (by omega) (by omega)) ?_;(repeat' (first |refine qv ?_ |apply qn |apply qs |apply qr |refine qe ?_ |apply qb));refine AWP.loop (G := Nat × List UT) (fun (i, out) => i ≤ m.code.length ∧ SzU m.V 1 i (1 + i) out ∧ BJ m.V c i (m.code.drop i) out = BJ m.V c 0 m.code (conU m.V 0)) (fun (i, out) => AU [900, 901] [(0, .ptr 900 0), (1, .fn g []), (4, .ptr 4 0), (5, .ptr 5 0), (18, .sl 4 eIz m.code), (19, aN m.code.length), (20, aN i)] (kB m x q al L ++ [(5, .cells (eP (mkP m.V out)) 105), (4, .cells [aN 0, .v (.slice none 0 0)] 105)])) (fun (i, _) => m.code.length - i) (0, conU m.V 0) ⟨by omega, (SzU.con m.V 0).mono (by omega) (by decide) (by omega), rfl⟩ ?_ ?_
 ·refine Ent.of [] ?_ ?_ rfl rfl;(repeat' (first |exact True.intro |refine ⟨⟨AA _, rfl⟩, ?_⟩ |refine ⟨⟨⟨_, rfl, BLe.cells (AB _)⟩, rfl⟩, ?_⟩ |refine ⟨⟨⟨_, rfl, BLe.row rfl⟩, rfl⟩, ?_⟩|fail))
 ·intro ⟨i, out⟩ ⟨k0, k1, k2⟩;have hlen := k1.ln;(repeat' (first |refine qv ?_ |apply qn |apply qs |apply qr |refine qe ?_ |(refine AD rfl ?_ ?_ <;> intro _ <;> try (exfalso; omega)) |apply qb |apply qk |apply qx |apply qt |(refine Aw rfl rfl rfl rfl rfl rfl rfl rfl (by omega) (by omega) ?_; intro _ _)|fail))
  ·rename_i hi y hy;rw [Int.toNat_natCast] at hy;rw [hsSum_drop hy] at k2;refine Ca rfl rfl (hg y) rfl rfl rfl (AB _) ?_;(repeat' (first |refine qv ?_ |apply qn |apply qr |refine qw ?_ |apply qk |(refine BN rfl ?_ ?_ <;> intro _)))
   ·rename_i hc;rw [if_pos hc] at k2;have v := AP (V := m.V) (i := 3 + i) (by omega);refine qc (BZ m x i (by omega)) ?_;refine qc (Be m.V (3 + i) (by omega) (by omega)) ?_;refine ql eP [mkP m.V out, mkP m.V (varU m.V (3 + i))] ?_;refine qc (C9 m.V (by omega) [out, varU m.V (3 + i)] (by simp) (C8 k1 v (by omega) (by omega) (by omega) (by omega))) ?_;(repeat' (first |refine qv ?_ |apply qn |refine Fl.nil (fun _ => by kernel_rfl) ?_ |apply qr |refine qw ?_ |refine qe ?_|fail));refine LoopEnd.of (i + 1, A5 [] [out, varU m.V (3 + i)]) ⟨by omega, ?_, k2⟩ (by simp only; omega) ?_
    ·rw [Co k1 v];exact (k1.add v).mono (by omega) (by omega) (by omega)
    ·refine Ent.of [] ?_ ?_ rfl rfl;(repeat' (first |exact True.intro |refine ⟨⟨AA _, rfl⟩, ?_⟩ |refine ⟨⟨⟨_, rfl, BLe.cells (AB _)⟩, rfl⟩, ?_⟩ |refine ⟨⟨⟨_, rfl, BLe.row rfl⟩, rfl⟩, ?_⟩|fail))
   ·rename_i hc;rw [if_neg (by rw [hc]; simp)] at k2;refine LoopEnd.of (i + 1, out) ⟨by omega, k1.mono (by omega) (by omega) (by omega), k2⟩ (by simp only; omega) ?_;refine Ent.of [] ?_ ?_ rfl rfl;(repeat' (first |exact True.intro |refine ⟨⟨AA _, rfl⟩, ?_⟩ |refine ⟨⟨⟨_, rfl, BLe.cells (AB _)⟩, rfl⟩, ?_⟩ |refine ⟨⟨⟨_, rfl, BLe.row rfl⟩, rfl⟩, ?_⟩|fail))
  ·rename_i hi;rw [List.drop_of_length_le (by omega)] at k2;rw [← k2];exact ⟨⟨[], _, _, AK _ _ _, rfl, AA _, rfl, ⟨⟨⟨_, rfl, BLe.cells (AB _)⟩, rfl⟩, ⟨⟨_, rfl, BLe.row rfl⟩, rfl⟩, trivial⟩, rfl, rfl⟩⟩
end Go.Proofs.YtmmfloplhopioaaGreat
/- history's maker: does, masks, goes. -/
namespace Go.AL
abbrev lkZ (m : MZ) (s : LkU) : LZ := Bo m.V s.1 s.2
theorem hsK_A {m : MZ} {x : List Int} {s : LkU} (h : s ∈ hsA m x) : s ∈ hsK m x := by simp [hsK, h]
theorem hsK_B {m : MZ} {x : List Int} {i : Nat} (h : i < m.l) : hsB m i ∈ hsK m x := by
 have : hsB m i ∈ (List.range m.l).map (hsB m) := List.mem_map.2 ⟨i, List.mem_range.2 h, rfl⟩;simp only [hsK, List.mem_append];exact .inl (.inl (.inl (.inl (.inr this))))
theorem hsK_C {m : MZ} {x : List Int} {s : LkU} (h : s ∈ hsC m) : s ∈ hsK m x := by
 simp only [hsK, List.mem_append];exact .inl (.inl (.inl (.inr h)))
theorem hsK_D {m : MZ} {x : List Int} {j : Nat} (h : j < m.R) : hsD m j ∈ hsK m x := by
 have : hsD m j ∈ (List.range m.R).map (hsD m) := List.mem_map.2 ⟨j, List.mem_range.2 h, rfl⟩;simp only [hsK, List.mem_append];exact .inl (.inl (.inr this))
theorem hsK_G {m : MZ} {x : List Int} {i : Nat} (h : i < m.l) {s : LkU} (hs : s ∈ hsGo m i (m.at i)) : s ∈ hsK m x := by
 have : s ∈ (List.range m.l).flatMap (fun i => hsGo m i (m.at i)) := List.mem_flatMap.2 ⟨i, List.mem_range.2 h, hs⟩;simp only [hsK, List.mem_append];exact .inl (.inr this)
theorem hsK_F {m : MZ} {x : List Int} {j : Nat} (h : j < m.R) : hsF m x j ∈ hsK m x := by
 have : hsF m x j ∈ (List.range m.R).map (hsF m x) := List.mem_map.2 ⟨j, List.mem_range.2 h, rfl⟩;simp only [hsK, List.mem_append];exact .inr this
theorem DV {α : Type} (L : List α) (f : Nat → α) (i : Nat) : L ++ (List.range (i + 1)).map f = L ++ (List.range i).map f ++ [f i] := by
 rw [List.range_succ, List.map_append, List.append_assoc]; rfl
end Go.AL
namespace Go.Proofs.YtmmfloplhopioaaGreat
open Go.AL
theorem mkHalt_ok (y : IZ) : PureFn Tryz.prog 163 [aIz y] (aB (decide (y.op = 3))) := by
 refine AC Tryz.func163 rfl Tryz.ntmps163 rfl rfl ?_;(repeat' (first |refine qv ?_ |apply qn |apply qs |apply qr |refine qe ?_ |apply qt));exact RetOk.of rfl (AA _)
theorem mkTrue_ok (y : IZ) : PureFn Tryz.prog 110 [aIz y] (aB true) := by
 refine AC Tryz.func110 rfl Tryz.ntmps110 rfl rfl ?_;(repeat' (first |refine qv ?_ |apply qn |apply qs |apply qr |refine qe ?_ |apply qt));exact RetOk.of rfl (AA _)
abbrev dB (op : Int) (j : Nat) : List (AL.Id × Bx) := [(902, .cells [aN op] 3), (903, .cells [aN j] 3)]
theorem mkIs_ok (op : Int) (j : Nat) (y : IZ) : IoFn Tryz.prog 165 ([aIz y] ++ [.ptr 902 0, .ptr 903 0]) (dB op j) (.ret (aB (decide (y.op = op) && decide (y.rg = (j : Int))))) (dB op j) := by
 refine AG Tryz.func165 rfl Tryz.ntmps165 rfl rfl rfl ?_;(repeat' (first |refine qv ?_ |apply qn |apply qs |apply qr |refine qe ?_ |refine Fl.skip rfl rfl ?_ |apply qt |(refine AH rfl rfl ?_ ?_ <;> intro _ <;> try (exfalso; omega))))
 ·rename_i h;rw [decide_eq_true h];exact ⟨⟨[], _, _, AK _ _ _, rfl, AA _, rfl, ⟨⟨⟨_, rfl, BLe.cells (AB _)⟩, rfl⟩, ⟨⟨_, rfl, BLe.cells (AB _)⟩, rfl⟩, trivial⟩, rfl, rfl⟩⟩
 ·rename_i h;rw [decide_eq_false h];exact ⟨⟨[], _, _, AK _ _ _, rfl, AA _, rfl, ⟨⟨⟨_, rfl, BLe.cells (AB _)⟩, rfl⟩, ⟨⟨_, rfl, BLe.cells (AB _)⟩, rfl⟩, trivial⟩, rfl, rfl⟩⟩
set_option maxHeartbeats 1000000 in
theorem mkSum2_ok (m : MZ) (hm : OkMZ m) (x : List Int) (q al : PZ) (L : List LZ) (op : Int) (j : Nat) : IoFn Tryz.prog 109 [.ptr 900 0, .fn 165 [.ptr 902 0, .ptr 903 0]] (kB m x q al L ++ dB op j) (.ret (aP (mkP m.V (BJ m.V (fun y => decide (y.op = op) && decide (y.rg = (j : Int))) 0 m.code (conU m.V 0))))) (kB m x q al L ++ dB op j) := by
 refine AG Tryz.func109 rfl Tryz.ntmps109 rfl rfl rfl ?_;have hV := hm.V32;have hl : m.code.length ≤ 15 := hm.l15;have hVe : m.V = 3 + m.code.length + 2 * m.R := rfl;obtain ⟨c, ec⟩ : ∃ c : IZ → Bool, c = fun y => decide (y.op = op) && decide (y.rg = (j : Int)) := ⟨_, rfl⟩
 have hg : ∀ y, IoFn Tryz.prog 165 ([aIz y] ++ [.ptr 902 0, .ptr 903 0]) (dB op j) (.ret (aB (c y))) (dB op j) := fun y => by rw [ec]; exact mkIs_ok op j y
 rw [← ec];(repeat' (first |refine qv ?_ |apply qn |apply qs |apply qr |refine qe ?_|fail));refine qc (Do m.V 0 (by omega) (by omega) (by omega)) ?_;(repeat' (first |refine qv ?_ |apply qn |apply qs |apply qr |refine qe ?_ |apply qb));refine AWP.loop (G := Nat × List UT) (fun (i, out) => i ≤ m.code.length ∧ SzU m.V 1 i (1 + i) out ∧ BJ m.V c i (m.code.drop i) out = BJ m.V c 0 m.code (conU m.V 0)) (fun (i, out) => AU [900, 901, 902, 903] [(0, .ptr 900 0), (1, .fn 165 [.ptr 902 0, .ptr 903 0]), (4, .ptr 4 0), (5, .ptr 5 0), (18, .sl 4 eIz m.code), (19, aN m.code.length), (20, aN i)] (kB m x q al L ++ dB op j ++ [(5, .cells (eP (mkP m.V out)) 105), (4, .cells [aN 0, .v (.slice none 0 0)] 105)])) (fun (i, _) => m.code.length - i) (0, conU m.V 0) ⟨by omega, (SzU.con m.V 0).mono (by omega) (by decide) (by omega), rfl⟩ ?_ ?_
 ·refine Ent.of [] ?_ ?_ rfl rfl;(repeat' (first |exact True.intro |refine ⟨⟨AA _, rfl⟩, ?_⟩ |refine ⟨⟨⟨_, rfl, BLe.cells (AB _)⟩, rfl⟩, ?_⟩ |refine ⟨⟨⟨_, rfl, BLe.row rfl⟩, rfl⟩, ?_⟩|fail))
 ·intro ⟨i, out⟩ ⟨k0, k1, k2⟩;have hlen := k1.ln;(repeat' (first |refine qv ?_ |apply qn |apply qs |apply qr |refine qe ?_ |(refine AD rfl ?_ ?_ <;> intro _ <;> try (exfalso; omega)) |apply qb |apply qk |apply qx |apply qt |(refine Aw rfl rfl rfl rfl rfl rfl rfl rfl (by omega) (by omega) ?_; intro _ _)|fail))
  ·rename_i hi y hy;rw [Int.toNat_natCast] at hy;rw [hsSum_drop hy] at k2;refine Fl.ioVR rfl rfl [] (hg y) rfl rfl (AB _) rfl ⟨⟨⟨_, rfl, BLe.cells (AB _)⟩, rfl⟩, ⟨⟨_, rfl, BLe.cells (AB _)⟩, rfl⟩, trivial⟩ ⟨rfl, rfl, trivial⟩ rfl rfl rfl rfl ?_;(repeat' (first |refine qv ?_ |apply qn |apply qr |refine qw ?_ |apply qk |(refine BN rfl ?_ ?_ <;> intro _)))
   ·rename_i hc;rw [if_pos hc] at k2;have v := AP (V := m.V) (i := 3 + i) (by omega);refine qc (BZ m x i (by omega)) ?_;refine qc (Be m.V (3 + i) (by omega) (by omega)) ?_;refine ql eP [mkP m.V out, mkP m.V (varU m.V (3 + i))] ?_;refine qc (C9 m.V (by omega) [out, varU m.V (3 + i)] (by simp) (C8 k1 v (by omega) (by omega) (by omega) (by omega))) ?_;(repeat' (first |refine qv ?_ |apply qn |refine Fl.nil (fun _ => by kernel_rfl) ?_ |apply qr |refine qw ?_ |refine qe ?_|fail));refine LoopEnd.of (i + 1, A5 [] [out, varU m.V (3 + i)]) ⟨by omega, ?_, k2⟩ (by simp only; omega) ?_
    ·rw [Co k1 v];exact (k1.add v).mono (by omega) (by omega) (by omega)
    ·refine Ent.of [] ?_ ?_ rfl rfl;(repeat' (first |exact True.intro |refine ⟨⟨AA _, rfl⟩, ?_⟩ |refine ⟨⟨⟨_, rfl, BLe.cells (AB _)⟩, rfl⟩, ?_⟩ |refine ⟨⟨⟨_, rfl, BLe.row rfl⟩, rfl⟩, ?_⟩|fail))
   ·rename_i hc;rw [if_neg (by rw [hc]; simp)] at k2;refine LoopEnd.of (i + 1, out) ⟨by omega, k1.mono (by omega) (by omega) (by omega), k2⟩ (by simp only; omega) ?_;refine Ent.of [] ?_ ?_ rfl rfl;(repeat' (first |exact True.intro |refine ⟨⟨AA _, rfl⟩, ?_⟩ |refine ⟨⟨⟨_, rfl, BLe.cells (AB _)⟩, rfl⟩, ?_⟩ |refine ⟨⟨⟨_, rfl, BLe.row rfl⟩, rfl⟩, ?_⟩|fail))
  ·rename_i hi;rw [List.drop_of_length_le (by omega)] at k2;rw [← k2];exact ⟨⟨[], _, _, AK _ _ _, rfl, AA _, rfl, ⟨⟨⟨_, rfl, BLe.cells (AB _)⟩, rfl⟩, ⟨⟨_, rfl, BLe.row rfl⟩, rfl⟩, ⟨⟨_, rfl, BLe.cells (AB _)⟩, rfl⟩, ⟨⟨_, rfl, BLe.cells (AB _)⟩, rfl⟩, trivial⟩, rfl, rfl⟩⟩
abbrev kQ (m : MZ) : PZ := mkP m.V (hsQ m.V)
abbrev kAll (m : MZ) : PZ := mkP m.V (CW m.V)
set_option maxHeartbeats 1000000 in
theorem mkMasks_ok (m : MZ) (hm : OkMZ m) (x : List Int) (hx : OkIn m x) (L : List LZ) (hL : L.length ≤ 1000) : IoGn Tryz.prog 111 [.ptr 900 0] (kB m x (kQ m) (kAll m) L) (.tup []) (kBr 902 m x (kQ m) (kAll m) (L ++ (List.range m.l).map (fun i => lkZ m (hsB m i)) ++ (hsC m).map (lkZ m) ++ (List.range m.R).map (fun j => lkZ m (hsD m j)))) := by
 refine B8 Tryz.func111 rfl Tryz.ntmps111 rfl rfl ?_;have hV := hm.V32;have hl : m.code.length ≤ 15 := hm.l15;have hR4 := hm.r4;have hR1 := hm.r1;have hR : m.R = m.regs.toNat := rfl;have hVe : m.V = 3 + m.code.length + 2 * m.R := rfl;have hl1 : 1 ≤ m.code.length := hm.l1;(repeat' (first |refine qv ?_ |apply qn |apply qs |apply qr |apply qb));refine AWP.loop (G := Nat) (fun i => i ≤ m.code.length) (fun i => AU [900, 901] [(0, .ptr 900 0), (10, aN m.code.length), (11, aN i)] (kBr 902 m x (kQ m) (kAll m) (L ++ (List.range i).map (fun i => lkZ m (hsB m i))))) (fun i => m.code.length - i) 0 (by omega) ?_ ?_
 ·refine Ent.of [(902, 901)] ?_ ?_ rfl rfl;(repeat' (first |exact True.intro |refine ⟨⟨AA _, rfl⟩, ?_⟩ |refine ⟨⟨⟨_, rfl, BLe.cells (AB _)⟩, rfl⟩, ?_⟩ |refine ⟨⟨⟨_, rfl, BLe.row ?_⟩, rfl⟩, ?_⟩|fail));simp
 ·intro i k0;(repeat' (first |refine qv ?_ |apply qn |apply qs |apply qr |(refine AD rfl ?_ ?_ <;> intro _ <;> try (exfalso; omega)) |apply qb |apply qk |apply qx))
  ·rename_i hi;have hsm := Cy hm hx (hsB m i) (hsK_B (show i < m.l by show i < m.code.length; omega));refine qc (BZ m x i (by omega)) ?_;refine qc (Be m.V (3 + i) (by omega) (by omega)) ?_;(repeat' (first |refine qv ?_|fail));refine qc (Be m.V 2 (by omega) (by omega)) ?_;refine ql eP [mkP m.V (varU m.V (3 + i)), mkP m.V (varU m.V 2)] ?_;refine Fl.ioG rfl [(901, 902), (902, 32)] (CU m hm x (kQ m) (kAll m) _ (by simp; omega) 3 [varU m.V (3 + i), varU m.V 2] hsm) rfl rfl (AB _) rfl ⟨⟨⟨_, rfl, BLe.cells (AB _)⟩, rfl⟩, ⟨⟨_, rfl, BLe.row rfl⟩, rfl⟩, trivial⟩ rfl rfl rfl rfl rfl ?_;(repeat' (first |refine qv ?_ |apply qn |refine Fl.nil (fun _ => by kernel_rfl) ?_ |apply qr |refine qw ?_|fail));refine LoopEnd.of (i + 1) (by omega) (by omega) ?_;refine Ent.of [(902, 32)] ?_ ?_ rfl rfl;(repeat' (first |exact True.intro |refine ⟨⟨AA _, rfl⟩, ?_⟩ |refine ⟨⟨⟨_, rfl, BLe.cells (AB _)⟩, rfl⟩, ?_⟩ |refine ⟨⟨⟨_, rfl, BLe.row ?_⟩, rfl⟩, ?_⟩|fail));rw [DV]; rfl
  ·rename_i hi
   have hi : i = m.code.length := by omega
   subst hi;have hsm1 := Cy hm hx (3, [conU m.V 1, varU m.V 3]) (hsK_C (by simp [hsC]));have hsm2 := Cy hm hx (2, [hsQ m.V, varU m.V 0, BJ m.V (fun x => decide (x.op = 3)) 0 m.code (conU m.V 0)]) (hsK_C (by simp [hsC]));refine qc (Do m.V 1 (by omega) (by omega) (by omega)) ?_;(repeat' (first |refine qv ?_|fail));refine qc (BZ m x 0 (by omega)) ?_;refine qc (Be m.V 3 (by omega) (by omega)) ?_;refine ql eP [mkP m.V (conU m.V 1), mkP m.V (varU m.V 3)] ?_;refine Fl.ioG rfl [(901, 902), (902, 51)] (CU m hm x (kQ m) (kAll m) _ (by simp; omega) 3 [conU m.V 1, varU m.V 3] hsm1) rfl rfl (AB _) rfl ⟨⟨⟨_, rfl, BLe.cells (AB _)⟩, rfl⟩, ⟨⟨_, rfl, BLe.row rfl⟩, rfl⟩, trivial⟩ rfl rfl rfl rfl rfl ?_;(repeat' (first |refine qv ?_ |refine Fl.nil (fun _ => by kernel_rfl) ?_ |apply qs |apply qr));refine qc (Be m.V 0 (by omega) (by omega)) ?_;(repeat' (first |refine qv ?_|fail));refine qR [(901, 51)] (mkSum_ok m hm x (kQ m) (kAll m) _ 163 (fun y => decide (y.op = 3)) mkHalt_ok) ?_;refine ql eP [mkP m.V (hsQ m.V), mkP m.V (varU m.V 0), mkP m.V (BJ m.V (fun x => decide (x.op = 3)) 0 m.code (conU m.V 0))] ?_;refine Fl.ioG rfl [(901, 51), (902, 65)] (CU m hm x (kQ m) (kAll m) _ (by simp; omega) 2 [hsQ m.V, varU m.V 0, BJ m.V (fun x => decide (x.op = 3)) 0 m.code (conU m.V 0)] hsm2) rfl rfl (AB _) rfl ⟨⟨⟨_, rfl, BLe.cells (AB _)⟩, rfl⟩, ⟨⟨_, rfl, BLe.row rfl⟩, rfl⟩, trivial⟩ rfl rfl rfl rfl rfl ?_;(repeat' (first |refine qv ?_ |apply qn |refine Fl.nil (fun _ => by kernel_rfl) ?_ |apply qs |apply qr |apply qb));refine AWP.loop (G := Nat) (fun j => j ≤ m.R) (fun j => AU [900, 901] [(0, .ptr 900 0), (71, aN m.R), (72, aN j)] (kBr 902 m x (kQ m) (kAll m) (L ++ (List.range m.code.length).map (fun i => lkZ m (hsB m i)) ++ (hsC m).map (lkZ m) ++ (List.range j).map (fun j => lkZ m (hsD m j))))) (fun j => m.R - j) 0 (by omega) ?_ ?_
   ·refine Ent.of [(902, 65)] ?_ ?_ rfl rfl;(repeat' (first |exact True.intro |refine ⟨⟨AA _, rfl⟩, ?_⟩ |refine ⟨⟨⟨_, rfl, BLe.cells (AB _)⟩, rfl⟩, ?_⟩ |refine ⟨⟨⟨_, rfl, BLe.row ?_⟩, rfl⟩, ?_⟩ |refine ⟨⟨AV.Le.int ?_, rfl⟩, ?_⟩|fail))
    ·omega
    ·simp [hsC]
   ·intro j k1;(repeat' (first |refine qv ?_ |apply qn |apply qs |apply qr |(refine AD rfl ?_ ?_ <;> intro _ <;> try (exfalso; omega)) |apply qb |apply qk |apply qx))
    ·rename_i hj;have hsm := Cy hm hx (hsD m j) (hsK_D (show j < m.R by omega));have a := (AP (V := m.V) (i := 1) (by omega));have b := (SzU.con m.V 1);have c := (AP (V := m.V) (i := 2) (by omega));refine qc (szReg_ok m x j (by omega) (by omega)) ?_;refine qc (Be m.V (3 + m.l + j) (by omega) (by show 3 + m.code.length + j < m.V; omega)) ?_;(repeat' (first |refine qv ?_|fail));refine qc (Be m.V 1 (by omega) (by omega)) ?_;(repeat' (first |refine qv ?_|fail));refine qc (Do m.V 1 (by omega) (by omega) (by omega)) ?_;refine qc (kSub_ok m.V (by omega) (varU m.V 1) (conU m.V 1) (subL (varU m.V 1) (conU m.V 1)) (a.chk (by omega) (by omega) (by omega)) (b.chk (by omega) (by decide) (by omega)) (a.subChk b (by omega) (by omega) (by decide) (by omega))) ?_;(repeat' (first |refine qv ?_|fail));refine qc (Be m.V 2 (by omega) (by omega)) ?_;refine ql eP [mkP m.V (subL (varU m.V 1) (conU m.V 1)), mkP m.V (varU m.V 2)] ?_;refine qc (CV m.V (by omega) [subL (varU m.V 1) (conU m.V 1), varU m.V 2] (by simp) (CF (a.sub b) c (by omega) (by decide) (by decide) (by decide) (by omega) (by omega) (by omega))) ?_;refine ql eP [mkP m.V (varU m.V (3 + m.l + j)), mkP m.V (Av (conU m.V 1) [subL (varU m.V 1) (conU m.V 1), varU m.V 2])] ?_;refine Fl.ioG rfl [(901, 902), (902, 114)] (CU m hm x (kQ m) (kAll m) _ (by simp [hsC]; omega) 3 [varU m.V (3 + m.l + j), Av (conU m.V 1) [subL (varU m.V 1) (conU m.V 1), varU m.V 2]] hsm) rfl rfl (AB _) rfl ⟨⟨⟨_, rfl, BLe.cells (AB _)⟩, rfl⟩, ⟨⟨_, rfl, BLe.row rfl⟩, rfl⟩, trivial⟩ rfl rfl rfl rfl rfl ?_;(repeat' (first |refine qv ?_ |apply qn |refine Fl.nil (fun _ => by kernel_rfl) ?_ |apply qr |refine qw ?_|fail));refine LoopEnd.of (j + 1) (by omega) (by omega) ?_;refine Ent.of [(902, 114)] ?_ ?_ rfl rfl;(repeat' (first |exact True.intro |refine ⟨⟨AA _, rfl⟩, ?_⟩ |refine ⟨⟨⟨_, rfl, BLe.cells (AB _)⟩, rfl⟩, ?_⟩ |refine ⟨⟨⟨_, rfl, BLe.row ?_⟩, rfl⟩, ?_⟩|fail));rw [DV]; rfl
    ·rename_i hj
     have hj : j = m.R := by omega
     subst hj;exact ⟨⟨[], _, _, AK _ _ _, rfl, AA _, rfl, ⟨⟨⟨_, rfl, BLe.cells (AB _)⟩, rfl⟩, ⟨⟨_, rfl, BLe.row rfl⟩, rfl⟩, trivial⟩, rfl, rfl⟩⟩
end Go.Proofs.YtmmfloplhopioaaGreat
/- That the links of a machine's system hold is the history's equations. Plain. -/
namespace Go.AL
theorem hol_sz {V : Nat} {kind : Int} {ls : List (List UT)} {X : List Int} (hX : X.length = V) (h : ∀ p ∈ ls, SzU V 4 10000 200 p) : HoL X (Bo V kind ls) ↔ holdP kind (ls.map (uv X)) := by
 unfold HoL;rw [lvals_linkU hX fun p hp => fun u hu => ⟨((h p hp).ex u hu).1, (ex_ok (by omega) ((h p hp).ex u hu)).2.2⟩];exact Iff.rfl
theorem A0 (a b : Int) : holdP 3 [a, b] ↔ 0 ≤ a ∧ 0 ≤ b ∧ undN a.toNat b.toNat := by
 unfold holdP; simp; intros; exact Iff.rfl
theorem holdP_pow (a b c : Int) : holdP 2 [a, b, c] ↔ 1 ≤ a ∧ 0 ≤ b ∧ a ^ b.toNat = c := by
 unfold holdP; simp
theorem holdP_eq (a : Int) : holdP 0 [a] ↔ a = 0 := by
 unfold holdP; simp
section
variable {m : MZ} {x X : List Int}
abbrev nX (X : List Int) (i : Nat) : Nat := (X.getD i 0).toNat
theorem nX_cast (h0 : ∀ y ∈ X, 0 ≤ y) (i : Nat) : ((nX X i : Nat) : Int) = X.getD i 0 := by
 have : 0 ≤ X.getD i 0 := by
  rw [List.getD_eq_getElem?_getD]
  cases h : X[i]? with
  | none => simp
  | some y => exact h0 y (List.mem_of_getElem? h)
 show (((X.getD i 0).toNat : Nat) : Int) = _;omega
theorem sum_val (ok : OkMZ m) (hX : X.length = m.V) (h0 : ∀ y ∈ X, 0 ≤ y) (c : IZ → Bool) : uv X (BJ m.V c 0 m.code (conU m.V 0)) = (sumN m.l fun j => if c (m.at j) then nX X (3 + j) else 0 : Nat) := by
 have hV := ok.V32;have hl := ok.l15;have hVe : m.V = 3 + m.l + 2 * m.R := rfl;rw [hsSum_val (by omega) hX h0 c m.code (i := 0) ((SzU.con m.V 0).mono (d' := 1) (c' := 0) (n' := 1) (by omega) (by decide) (by omega)) (by show 3 + 0 + m.l ≤ m.V; omega) (by omega) (by show 1 ≤ 100 - m.l; omega) (by show m.l ≤ 50; omega), Cv]
 have : (sumN m.code.length fun j => if c (m.code.getD j haltZ) = true then (X.getD (3 + 0 + j) 0).toNat else 0) = sumN m.l fun j => if c (m.at j) = true then nX X (3 + j) else 0 := BH fun j _ => by rw [Nat.add_zero]; rfl
 rw [this]; omega
structure HistZ (m : MZ) (x X : List Int) : Prop where
  a1 : (2 : Int) ^ (X.getD 0 0 + addZ m x).toNat = X.getD 1 0
  a2 : 1 ≤ 2 * X.getD 1 0 ∧ (2 * X.getD 1 0) ^ (X.getD 0 0 + 1).toNat = 1 + (2 * X.getD 1 0 - 1) * X.getD 2 0
  a3 : X.getD 2 0 = (sumN m.l fun j => nX X (3 + j) : Nat)
  b : ∀ i, i < m.l → undN (nX X (3 + i)) (nX X 2)
  c1 : undN 1 (nX X 3)
  c2 : (2 * X.getD 1 0) ^ (nX X 0) = (sumN m.l fun j => if (m.at j).op = 3 then nX X (3 + j) else 0 : Nat)
  d : ∀ j, j < m.R → 0 ≤ (X.getD 1 0 - 1) * X.getD 2 0 ∧ undN (nX X (3 + m.l + j)) ((X.getD 1 0 - 1) * X.getD 2 0).toNat
  e : ∀ i, i < m.l → (m.at i).op ≠ 3 → if (m.at i).op = 2 ∧ (m.at i).zr ≠ (m.at i).nx then undN (2 * X.getD 1 0 * X.getD (3 + i) 0).toNat (X.getD (3 + (m.at i).nx.toNat) 0 + X.getD (3 + (m.at i).zr.toNat) 0).toNat ∧ 0 ≤ X.getD (3 + (m.at i).nx.toNat) 0 + 2 * X.getD 1 0 * X.getD 2 0 - 2 * X.getD (3 + m.l + (m.at i).rg.toNat) 0 ∧ undN (2 * X.getD 1 0 * X.getD (3 + i) 0).toNat (X.getD (3 + (m.at i).nx.toNat) 0 + 2 * X.getD 1 0 * X.getD 2 0 - 2 * X.getD (3 + m.l + (m.at i).rg.toNat) 0).toNat else undN (2 * X.getD 1 0 * X.getD (3 + i) 0).toNat (nX X (3 + (m.at i).nx.toNat))
  f : ∀ j, j < m.R → X.getD (3 + m.l + j) 0 + X.getD (3 + m.l + m.R + j) 0 * (1 + (2 * X.getD 1 0 - 1) * X.getD 2 0) = x.getD j 0 + 2 * X.getD 1 0 * X.getD (3 + m.l + j) 0 + 2 * X.getD 1 0 * (sumN m.l fun i => if (m.at i).op = 0 ∧ (m.at i).rg = j then nX X (3 + i) else 0 : Nat) - 2 * X.getD 1 0 * (sumN m.l fun i => if (m.at i).op = 1 ∧ (m.at i).rg = j then nX X (3 + i) else 0 : Nat)
theorem does_val (ok : OkMZ m) (hX : X.length = m.V) (h0 : ∀ y ∈ X, 0 ≤ y) (op : Int) (j : Nat) : uv X (Bi m op j) = 2 * X.getD 1 0 * (sumN m.l fun i => if (m.at i).op = op ∧ (m.at i).rg = j then nX X (3 + i) else 0 : Nat) := by
 have hV := ok.V32;unfold Bi;rw [C6 (by omega) X (BV ok.V6).1 (EK ok _) (by omega) (by omega) (by omega) (by omega) (by omega) (by omega) (by omega), hsQ_val ok.V6 (by omega) hX, sum_val ok hX h0];congr 2;refine BH fun i _ => ?_;simp only [Bool.and_eq_true, decide_eq_true_eq]
theorem here_val (ok : OkMZ m) (hX : X.length = m.V) {i : Nat} (hi : i < m.l) : uv X (Bm m i) = 2 * X.getD 1 0 * X.getD (3 + i) 0 := by
 have hV := ok.V32;have hVe : m.V = 3 + m.l + 2 * m.R := rfl;unfold Bm;rw [C6 (by omega) X (BV ok.V6).1 (AP (by omega)) (by omega) (by omega) (by omega) (by omega) (by omega) (by omega) (by omega), hsQ_val ok.V6 (by omega) hX, Cu hX (by omega)]
theorem jmp_val (ok : OkMZ m) (hX : X.length = m.V) {y : IZ} (hn : y.nx.toNat < m.l) (hr : y.rg.toNat < m.R) : uv X (hsJmp m y) = X.getD (3 + y.nx.toNat) 0 + 2 * X.getD 1 0 * X.getD 2 0 - 2 * X.getD (3 + m.l + y.rg.toNat) 0 := by
 have hV := ok.V32;have hV6 := ok.V6;have hVe : m.V = 3 + m.l + 2 * m.R := rfl;have q := (BV hV6).1;have vn := AP (V := m.V) (i := 3 + y.nx.toNat) (by omega);have v2 := AP (V := m.V) (i := 2) (by omega);have vr := AP (V := m.V) (i := 3 + m.l + y.rg.toNat) (by omega);have e1 := q.mul v2;have e2 := (SzU.con m.V 2).mul vr;have e3 := vn.add e1;rw [← Bs q] at e1;rw [← Bs (SzU.con m.V 2)] at e2;rw [← Bs q, ← Co vn e1] at e3;unfold hsJmp;rw [EI (by omega) X e3 e2 (by omega) (by omega) (by decide) (by omega), uv_add2 (by omega) X vn e1 (by omega) (by omega) (by decide) (by omega), C6 (by omega) X q v2 (by omega) (by omega) (by omega) (by omega) (by omega) (by omega) (by omega), C6 (by omega) X (SzU.con m.V 2) vr (by omega) (by decide) (by decide) (by omega) (by omega) (by omega) (by omega), hsQ_val hV6 (by omega) hX, Cv, Cu hX (by omega), Cu hX (by omega), Cu hX (by omega)]
theorem f_val (ok : OkMZ m) (hx : OkIn m x) (hX : X.length = m.V) (h0 : ∀ y ∈ X, 0 ≤ y) {j : Nat} (hj : j < m.R) : uv X (subL (hsL m j) (subL (hsR0 m x j) (Bi m 1 j))) = X.getD (3 + m.l + j) 0 + X.getD (3 + m.l + m.R + j) 0 * (1 + (2 * X.getD 1 0 - 1) * X.getD 2 0) - (x.getD j 0 + 2 * X.getD 1 0 * X.getD (3 + m.l + j) 0 + 2 * X.getD 1 0 * (sumN m.l fun i => if (m.at i).op = 0 ∧ (m.at i).rg = j then nX X (3 + i) else 0 : Nat) - 2 * X.getD 1 0 * (sumN m.l fun i => if (m.at i).op = 1 ∧ (m.at i).rg = j then nX X (3 + i) else 0 : Nat)) := by
 have hV := ok.V32;have hV6 := ok.V6;have hVe : m.V = 3 + m.l + 2 * m.R := rfl;obtain ⟨sL, sL2⟩ := sz_L ok hj;obtain ⟨sR, okR, sR2⟩ := sz_R0 ok hx hj;have sD := sz_does ok 1 j;have q := (BV hV6).1;have va := AP (V := m.V) (i := 3 + m.l + j) (by omega);have vb := AP (V := m.V) (i := 3 + m.l + m.R + j) (by omega)
 have eL : uv X (hsL m j) = X.getD (3 + m.l + j) 0 + X.getD (3 + m.l + m.R + j) 0 * (1 + (2 * X.getD 1 0 - 1) * X.getD 2 0) := by
  unfold hsL;rw [uv_add2 (by omega) X va sL2 (by omega) (by omega) (by omega) (by omega), C6 (by omega) X vb (DY hV6).1 (by omega) (by omega) (by omega) (by omega) (by omega) (by omega) (by omega), hsAll_val hV6 (by omega) hX, Cu hX (by omega), Cu hX (by omega)]
 have eR : uv X (hsR0 m x j) = x.getD j 0 + 2 * X.getD 1 0 * X.getD (3 + m.l + j) 0 + 2 * X.getD 1 0 * (sumN m.l fun i => if (m.at i).op = 0 ∧ (m.at i).rg = j then nX X (3 + i) else 0 : Nat) := by
  unfold hsR0;rw [uv_sums (by omega) X _ _ okR];simp only [List.map_cons, List.map_nil, sumL];rw [Cv, does_val ok hX h0, C6 (by omega) X q va (by omega) (by omega) (by omega) (by omega) (by omega) (by omega) (by omega), hsQ_val hV6 (by omega) hX, Cu hX (by omega)];show (0 : Int) + _ = _;omega
 rw [EI (by omega) X sL (sR.sub sD) (by omega) (by omega) (by omega) (by omega), EI (by omega) X sR sD (by omega) (by omega) (by omega) (by omega), eL, eR, does_val ok hX h0]
theorem hs_hol (ok : OkMZ m) (hx : OkIn m x) (hX : X.length = m.V) (h0 : ∀ y ∈ X, 0 ≤ y) : (∀ l ∈ (hsS m x).links, HoL X l) ↔ HistZ m x X := by
 have hV := ok.V32;have hV6 := ok.V6;have hVe : m.V = 3 + m.l + 2 * m.R := rfl;obtain ⟨s1, s2, s3⟩ := Dx ok hx;have sm := Cy ok hx;have q := (BV hV6).1;have v : ∀ i, i < m.V → uv X (varU m.V i) = X.getD i 0 := fun i hi => Cu hX hi
 have g0 : ∀ i, 0 ≤ X.getD i 0 := fun i => by have := nX_cast h0 i; omega
 have vsum : ∀ k : Int, 0 ≤ k → k ≤ 5000 → uv X (A5 [] [varU m.V 0, conU m.V k]) = X.getD 0 0 + k := fun k k0 k1 => by
  rw [uv_add2 (by omega) X (AP (by omega)) (SzU.con m.V k) (by omega) (by omega) (by omega) (by omega), v 0 (by omega), Cv]
 have vq := hsQ_val hV6 (by omega) hX;have val := hsAll_val hV6 (by omega) hX
 have vd : uv X (Av (conU m.V 1) [subL (varU m.V 1) (conU m.V 1), varU m.V 2]) = (X.getD 1 0 - 1) * X.getD 2 0 := by
  have a := AP (V := m.V) (i := 1) (by omega);have b := SzU.con m.V 1;rw [C6 (by omega) X (a.sub b) (AP (by omega)) (by omega) (by decide) (by decide) (by decide) (by omega) (by omega) (by omega), EI (by omega) X a b (by omega) (by omega) (by decide) (by omega), v 1 (by omega), v 2 (by omega), Cv]
 have hfor : (∀ l ∈ (hsS m x).links, HoL X l) ↔ ∀ s ∈ hsK m x, holdP s.1 (s.2.map (uv X)) := by
  show (∀ l ∈ (hsK m x).map (fun s => Bo m.V s.1 s.2), HoL X l) ↔ _;rw [List.forall_mem_map];exact ⟨fun h s hs => (hol_sz hX (sm s hs).2.2).1 (h s hs), fun h s hs => (hol_sz hX (sm s hs).2.2).2 (h s hs)⟩
 rw [hfor]
 have nxb : ∀ i, i < m.l → (m.at i).op ≠ 3 → (m.at i).nx.toNat < m.l ∧ (m.at i).rg.toNat < m.R ∧ ((m.at i).op = 2 → (m.at i).zr.toNat < m.l) := fun i hi h3 => by
  rcases ok.ins i hi with k | ⟨⟨a1, a2⟩, ⟨b1, b2⟩, k⟩
  ·rw [k] at h3; exact absurd rfl h3
  ·have hR : ((m.R : Nat) : Int) = m.regs := by have := ok.r1; show ((m.regs.toNat : Nat) : Int) = _; omega
   refine ⟨by omega, by omega, fun h2 => ?_⟩;rcases k with k | k
   ·have := k.2.1; have := k.2.2.1; omega
   ·omega
 have v2z : ∀ i, i < m.l → (m.at i).op ≠ 3 → (m.at i).op = 2 → uv X (A5 [] [varU m.V (3 + (m.at i).nx.toNat), varU m.V (3 + (m.at i).zr.toNat)]) = X.getD (3 + (m.at i).nx.toNat) 0 + X.getD (3 + (m.at i).zr.toNat) 0 := fun i hi h3 h2 => by
  obtain ⟨n1, n2, n3⟩ := nxb i hi h3;have n3 := n3 h2;rw [uv_add2 (by omega) X (AP (by omega)) (AP (by omega)) (by omega) (by omega) (by omega) (by omega), v _ (by omega), v _ (by omega)]
 have hmem : ∀ s, s ∈ hsK m x ↔ (s ∈ hsA m x ∨ (∃ i, i < m.l ∧ hsB m i = s) ∨ s ∈ hsC m ∨ (∃ j, j < m.R ∧ hsD m j = s) ∨ (∃ i, i < m.l ∧ s ∈ hsGo m i (m.at i)) ∨ ∃ j, j < m.R ∧ hsF m x j = s) := fun s => by
  simp only [hsK, List.mem_append, List.mem_map, List.mem_flatMap, List.mem_range, or_assoc]
 have hP : ∀ i j : Nat, 0 ≤ 2 * X.getD i 0 * X.getD j 0 := fun i j => Int.mul_nonneg (by have := g0 i; omega) (g0 j);constructor
 ·intro h;have hA := fun s (hs : s ∈ hsA m x) => h s ((hmem s).2 (.inl hs));have hB := fun i (hi : i < m.l) => h (hsB m i) ((hmem _).2 (.inr (.inl ⟨i, hi, rfl⟩)));have hC := fun s (hs : s ∈ hsC m) => h s ((hmem s).2 (.inr (.inr (.inl hs))));have hD := fun j (hj : j < m.R) => h (hsD m j) ((hmem _).2 (.inr (.inr (.inr (.inl ⟨j, hj, rfl⟩)))));have hE := fun i (hi : i < m.l) s (hs : s ∈ hsGo m i (m.at i)) => h s ((hmem s).2 (.inr (.inr (.inr (.inr (.inl ⟨i, hi, hs⟩))))));have hF := fun j (hj : j < m.R) => h (hsF m x j) ((hmem _).2 (.inr (.inr (.inr (.inr (.inr ⟨j, hj, rfl⟩))))));simp only [hsA, List.forall_mem_cons] at hA;simp only [hsC, List.forall_mem_cons] at hC;obtain ⟨k1, k2, k3, _⟩ := hA;obtain ⟨k4, k5, _⟩ := hC;simp only [List.map_cons, List.map_nil, Cv, vsum _ (show 0 ≤ addZ m x by omega) (by omega), vsum 1 (by omega) (by omega), v 1 (by omega), v 0 (by omega), v 3 (by omega), vq, val, sum_val ok hX h0] at k1 k2 k3 k4 k5;rw [holdP_pow] at k1 k2 k5;rw [A0] at k4;rw [EI (by omega) X (AP (by omega)) (EK ok _) (by omega) (by omega) (by omega) (by omega), sum_val ok hX h0, v 2 (by omega), holdP_eq] at k3;refine ⟨k1.2.2, ⟨k2.1, k2.2.2⟩, ?_, fun i hi => ?_, k4.2.2, ?_, fun j hj => ?_, fun i hi h3 => ?_, fun j hj => ?_⟩
  ·simp only [if_true] at k3; omega
  ·have := hB i hi;simp only [hsB, List.map_cons, List.map_nil, v (3 + i) (by omega), v 2 (by omega)] at this;exact ((A0 _ _).1 this).2.2
  ·have := k5.2.2;simp only [decide_eq_true_eq] at this;exact this
  ·have := hD j hj;simp only [hsD, List.map_cons, List.map_nil, v (3 + m.l + j) (by omega), vd] at this;exact ((A0 _ _).1 this).2
  ·have hE := hE i hi;obtain ⟨n1, n2, n3⟩ := nxb i hi h3;unfold hsGo at hE;rw [if_neg h3] at hE;by_cases hj : (m.at i).op = 2 ∧ (m.at i).zr ≠ (m.at i).nx
   ·rw [if_pos hj] at hE ⊢;simp only [List.forall_mem_cons] at hE;obtain ⟨e1, e2, _⟩ := hE;simp only [List.map_cons, List.map_nil, here_val ok hX hi, v2z i hi h3 hj.1, jmp_val ok hX n1 n2] at e1 e2;have e1 := (A0 _ _).1 e1;have e2 := (A0 _ _).1 e2;exact ⟨e1.2.2, e2.2.1, e2.2.2⟩
   ·rw [if_neg hj] at hE ⊢;simp only [List.forall_mem_cons] at hE;have e1 := hE.1;simp only [List.map_cons, List.map_nil, here_val ok hX hi, v (3 + (m.at i).nx.toNat) (by omega)] at e1;exact ((A0 _ _).1 e1).2.2
  ·have := hF j hj;simp only [hsF, List.map_cons, List.map_nil, f_val ok hx hX h0 hj] at this;have := (holdP_eq _).1 this;omega
 ·intro H s hs;rcases (hmem s).1 hs with hs | ⟨i, hi, rfl⟩ | hs | ⟨j, hj, rfl⟩ | ⟨i, hi, hs⟩ | ⟨j, hj, rfl⟩
  ·simp only [hsA, List.mem_cons, List.not_mem_nil, or_false] at hs;rcases hs with rfl | rfl | rfl
   ·simp only [List.map_cons, List.map_nil, Cv, vsum _ (show 0 ≤ addZ m x by omega) (by omega), v 1 (by omega)];exact (holdP_pow _ _ _).2 ⟨by omega, by have := g0 0; omega, H.a1⟩
   ·simp only [List.map_cons, List.map_nil, vsum 1 (by omega) (by omega), vq, val];exact (holdP_pow _ _ _).2 ⟨H.a2.1, by have := g0 0; omega, H.a2.2⟩
   ·simp only [List.map_cons, List.map_nil];rw [EI (by omega) X (AP (by omega)) (EK ok _) (by omega) (by omega) (by omega) (by omega), sum_val ok hX h0, v 2 (by omega), holdP_eq];simp only [if_true];have := H.a3;omega
  ·simp only [hsB, List.map_cons, List.map_nil, v (3 + i) (by omega), v 2 (by omega)];exact (A0 _ _).2 ⟨g0 _, g0 _, H.b i hi⟩
  ·simp only [hsC, List.mem_cons, List.not_mem_nil, or_false] at hs;rcases hs with rfl | rfl
   ·simp only [List.map_cons, List.map_nil, Cv, v 3 (by omega)];exact (A0 _ _).2 ⟨by omega, g0 _, H.c1⟩
   ·simp only [List.map_cons, List.map_nil, vq, v 0 (by omega), sum_val ok hX h0];refine (holdP_pow _ _ _).2 ⟨H.a2.1, g0 0, ?_⟩;simp only [decide_eq_true_eq];exact H.c2
  ·simp only [hsD, List.map_cons, List.map_nil, v (3 + m.l + j) (by omega), vd];exact (A0 _ _).2 ⟨g0 _, H.d j hj⟩
  ·unfold hsGo at hs;split at hs
   ·simp at hs
   ·rename_i h3;obtain ⟨n1, n2, n3⟩ := nxb i hi h3;have He := H.e i hi h3;have hp1 := hP 1 (3 + i);split at hs
    ·rename_i hj;rw [if_pos hj] at He;simp only [List.mem_cons, List.not_mem_nil, or_false] at hs;rcases hs with rfl | rfl
     ·simp only [List.map_cons, List.map_nil, here_val ok hX hi, v2z i hi h3 hj.1];exact (A0 _ _).2 ⟨hp1, by have := g0 (3 + (m.at i).nx.toNat); have := g0 (3 + (m.at i).zr.toNat); omega, He.1⟩
     ·simp only [List.map_cons, List.map_nil, here_val ok hX hi, jmp_val ok hX n1 n2];exact (A0 _ _).2 ⟨hp1, He.2.1, He.2.2⟩
    ·rename_i hj;rw [if_neg hj] at He;simp only [List.mem_cons, List.not_mem_nil, or_false] at hs;subst hs;simp only [List.map_cons, List.map_nil, here_val ok hX hi, v (3 + (m.at i).nx.toNat) (by omega)];exact (A0 _ _).2 ⟨hp1, g0 _, He⟩
  ·simp only [hsF, List.map_cons, List.map_nil, f_val ok hx hX h0 hj];have := H.f j hj;exact (holdP_eq _).2 (by omega)
end
end Go.AL
/- The history's equations in naturals. Plain. -/
namespace Go.AL
section
variable {m : MZ} {x X : List Int}
theorem at_facts (ok : OkMZ m) {i : Nat} (hi : i < m.l) : 0 ≤ (m.at i).op ∧ (m.at i).op ≤ 3 ∧ 0 ≤ (m.at i).rg ∧ 0 ≤ (m.at i).nx ∧ 0 ≤ (m.at i).zr := by
 rcases ok.ins i hi with k | ⟨⟨a1, a2⟩, ⟨b1, b2⟩, k⟩
 ·rw [k]; decide
 ·rcases k with ⟨c1, c2, c3, c4⟩ | ⟨c1, c2⟩ <;> exact ⟨by omega, by omega, by omega, by omega, by omega⟩
theorem cast_mul3 (a b : Nat) : (2 * (a : Int) * (b : Int)).toNat = 2 * a * b := by
 have : 2 * (a : Int) * (b : Int) = ((2 * a * b : Nat) : Int) := by simp
 rw [this, Int.toNat_natCast]
theorem histZ_eq (ok : OkMZ m) (hx : OkIn m x) (h0 : ∀ y ∈ X, 0 ≤ y) : HistZ m x X ↔ HistEq m.mach (fun j => (x.getD j 0).toNat) (addZ m x).toNat (nX X 0) (nX X 1) (nX X 2) (fun i => nX X (3 + i)) (fun j => nX X (3 + m.l + j)) (fun j => nX X (3 + m.l + m.R + j)) := by
 obtain ⟨N, hN⟩ : ∃ N : Nat → Nat, ∀ i, X.getD i 0 = (N i : Int) := ⟨nX X, fun i => (nX_cast h0 i).symm⟩
 have hn : ∀ i, nX X i = N i := fun i => by show (X.getD i 0).toNat = _; rw [hN, Int.toNat_natCast]
 obtain ⟨s1, s2, s3⟩ := Dx ok hx;obtain ⟨A, hA⟩ : ∃ A : Nat, addZ m x = (A : Int) := ⟨(addZ m x).toNat, by omega⟩;obtain ⟨y, hy⟩ : ∃ y : Nat → Nat, ∀ j, x.getD j 0 = (y j : Int) := ⟨fun j => (x.getD j 0).toNat, fun j => by have := (getD_in hx j).1; show x.getD j 0 = (((x.getD j 0).toNat : Nat) : Int); omega⟩;have hf := fun i hi => at_facts ok (i := i) hi
 -- the conditions
 have p3 : ∀ i, i < m.l → ((m.at i).op = 3 ↔ m.mach.op i = 3) := fun i hi => by
  have := hf i hi;show _ ↔ (m.at i).op.toNat = 3;omega
 have pj : ∀ i, i < m.l → ((m.at i).op = 2 ∧ (m.at i).zr ≠ (m.at i).nx ↔ m.mach.op i = 2 ∧ m.mach.zr i ≠ m.mach.nx i) := fun i hi => by
  have := hf i hi;show _ ↔ (m.at i).op.toNat = 2 ∧ (m.at i).zr.toNat ≠ (m.at i).nx.toNat;omega
 have p0 : ∀ i, i < m.l → ∀ j : Nat, ((m.at i).op = 0 ∧ (m.at i).rg = j ↔ m.mach.op i = 0 ∧ m.mach.rg i = j) := fun i hi j => by
  have := hf i hi;show _ ↔ (m.at i).op.toNat = 0 ∧ (m.at i).rg.toNat = j;omega
 have p1 : ∀ i, i < m.l → ∀ j : Nat, ((m.at i).op = 1 ∧ (m.at i).rg = j ↔ m.mach.op i = 1 ∧ m.mach.rg i = j) := fun i hi j => by
  have := hf i hi;show _ ↔ (m.at i).op.toNat = 1 ∧ (m.at i).rg.toNat = j;omega
 have q3 : (sumN m.l fun j => if (m.at j).op = 3 then N (3 + j) else 0) = sumN m.mach.l fun i => if m.mach.op i = 3 then N (3 + i) else 0 := BH fun i hi => by
  by_cases h : (m.at i).op = 3
  ·rw [if_pos h, if_pos ((p3 i hi).1 h)]
  ·rw [if_neg h, if_neg fun k => h ((p3 i hi).2 k)]
 have q0 : ∀ j : Nat, (sumN m.l fun i => if (m.at i).op = 0 ∧ (m.at i).rg = j then N (3 + i) else 0) = sumN m.mach.l fun i => if m.mach.op i = 0 ∧ m.mach.rg i = j then N (3 + i) else 0 := fun j => BH fun i hi => by
  by_cases h : (m.at i).op = 0 ∧ (m.at i).rg = j
  ·rw [if_pos h, if_pos ((p0 i hi j).1 h)]
  ·rw [if_neg h, if_neg fun k => h ((p0 i hi j).2 k)]
 have q1 : ∀ j : Nat, (sumN m.l fun i => if (m.at i).op = 1 ∧ (m.at i).rg = j then N (3 + i) else 0) = sumN m.mach.l fun i => if m.mach.op i = 1 ∧ m.mach.rg i = j then N (3 + i) else 0 := fun j => BH fun i hi => by
  by_cases h : (m.at i).op = 1 ∧ (m.at i).rg = j
  ·rw [if_pos h, if_pos ((p1 i hi j).1 h)]
  ·rw [if_neg h, if_neg fun k => h ((p1 i hi j).2 k)]
 -- the numbers
 have e1 : (2 : Int) ^ (X.getD 0 0 + addZ m x).toNat = X.getD 1 0 ↔ N 1 = 2 ^ (N 0 + A) := by
  rw [hN, hN, hA, show ((N 0 : Int) + (A : Int)).toNat = N 0 + A by omega]
  have : (2 : Int) ^ (N 0 + A) = ((2 ^ (N 0 + A) : Nat) : Int) := by rw [Int.natCast_pow]; rfl
  rw [this];omega
 have e2 : 1 ≤ N 1 → ((2 * X.getD 1 0) ^ (X.getD 0 0 + 1).toNat = 1 + (2 * X.getD 1 0 - 1) * X.getD 2 0 ↔ 1 + (2 * N 1 - 1) * N 2 = (2 * N 1) ^ (N 0 + 1)) := fun h1 => by
  rw [hN, hN, hN, show ((N 0 : Int) + 1).toNat = N 0 + 1 by omega]
  have c1 : (2 * (N 1 : Int)) ^ (N 0 + 1) = (((2 * N 1) ^ (N 0 + 1) : Nat) : Int) := by rw [Int.natCast_pow]; congr 1
  have c2 : 1 + (2 * (N 1 : Int) - 1) * (N 2 : Int) = ((1 + (2 * N 1 - 1) * N 2 : Nat) : Int) := by
   rw [Int.natCast_add, Int.natCast_mul, Int.natCast_sub (by omega)]; rfl
  rw [c1, c2];omega
 have eall : 1 ≤ N 1 → 1 + (2 * N 1 - 1) * N 2 = (2 * N 1) ^ (N 0 + 1) → 1 + (2 * X.getD 1 0 - 1) * X.getD 2 0 = (((2 * N 1) ^ (N 0 + 1) : Nat) : Int) := fun h1 h2 => by
  rw [← h2, hN, hN, Int.natCast_add, Int.natCast_mul, Int.natCast_sub (by omega)]; rfl
 have ed : 1 ≤ N 1 → (X.getD 1 0 - 1) * X.getD 2 0 = (((N 1 - 1) * N 2 : Nat) : Int) := fun h1 => by
  rw [hN, hN, Int.natCast_mul, Int.natCast_sub (by omega)]; rfl
 have ef : ∀ j, 1 ≤ N 1 → 1 + (2 * N 1 - 1) * N 2 = (2 * N 1) ^ (N 0 + 1) → (X.getD (3 + m.l + j) 0 + X.getD (3 + m.l + m.R + j) 0 * (1 + (2 * X.getD 1 0 - 1) * X.getD 2 0) = x.getD j 0 + 2 * X.getD 1 0 * X.getD (3 + m.l + j) 0 + 2 * X.getD 1 0 * (sumN m.l fun i => if (m.at i).op = 0 ∧ (m.at i).rg = j then nX X (3 + i) else 0 : Nat) - 2 * X.getD 1 0 * (sumN m.l fun i => if (m.at i).op = 1 ∧ (m.at i).rg = j then nX X (3 + i) else 0 : Nat) ↔ N (3 + m.l + j) + N (3 + m.l + m.R + j) * (2 * N 1) ^ (N 0 + 1) + 2 * N 1 * (sumN m.mach.l fun i => if m.mach.op i = 1 ∧ m.mach.rg i = j then N (3 + i) else 0) = y j + 2 * N 1 * N (3 + m.l + j) + 2 * N 1 * (sumN m.mach.l fun i => if m.mach.op i = 0 ∧ m.mach.rg i = j then N (3 + i) else 0)) := fun j h1 h2 => by
  rw [eall h1 h2];have g0 : (sumN m.l fun i => if (m.at i).op = 0 ∧ (m.at i).rg = j then nX X (3 + i) else 0) = _ := (BH fun i _ => by rw [hn]).trans (q0 j);have g1 : (sumN m.l fun i => if (m.at i).op = 1 ∧ (m.at i).rg = j then nX X (3 + i) else 0) = _ := (BH fun i _ => by rw [hn]).trans (q1 j);rw [g0, g1, hN, hN, hN, hy];generalize (2 * N 1) ^ (N 0 + 1) = P;generalize (sumN m.mach.l fun i => if m.mach.op i = 0 ∧ m.mach.rg i = j then N (3 + i) else 0) = S0;generalize (sumN m.mach.l fun i => if m.mach.op i = 1 ∧ m.mach.rg i = j then N (3 + i) else 0) = S1;generalize N (3 + m.l + j) = a;generalize N (3 + m.l + m.R + j) = b;generalize N 1 = H
  have t1 : (b : Int) * (P : Int) = ((b * P : Nat) : Int) := by simp
  have t2 : 2 * (H : Int) * (a : Int) = ((2 * H * a : Nat) : Int) := by simp
  have t3 : 2 * (H : Int) * (S0 : Int) = ((2 * H * S0 : Nat) : Int) := by simp
  have t4 : 2 * (H : Int) * (S1 : Int) = ((2 * H * S1 : Nat) : Int) := by simp
  rw [t1, t2, t3, t4];generalize b * P = B;generalize 2 * H * a = C;generalize 2 * H * S0 = D;generalize 2 * H * S1 = E;omega
 have ec : (2 * X.getD 1 0) ^ (nX X 0) = ((sumN m.l fun j => if (m.at j).op = 3 then nX X (3 + j) else 0 : Nat) : Int) ↔ (2 * N 1) ^ (N 0) = sumN m.mach.l fun i => if m.mach.op i = 3 then N (3 + i) else 0 := by
  have g3 : (sumN m.l fun j => if (m.at j).op = 3 then nX X (3 + j) else 0) = _ := (BH fun i _ => by rw [hn]).trans q3;rw [g3, hn, hN]
  have c1 : (2 * (N 1 : Int)) ^ (N 0) = (((2 * N 1) ^ (N 0) : Nat) : Int) := by rw [Int.natCast_pow]; congr 1
  rw [c1];omega
 have ee : ∀ i, i < m.l → ((if (m.at i).op = 2 ∧ (m.at i).zr ≠ (m.at i).nx then undN (2 * X.getD 1 0 * X.getD (3 + i) 0).toNat (X.getD (3 + (m.at i).nx.toNat) 0 + X.getD (3 + (m.at i).zr.toNat) 0).toNat ∧ 0 ≤ X.getD (3 + (m.at i).nx.toNat) 0 + 2 * X.getD 1 0 * X.getD 2 0 - 2 * X.getD (3 + m.l + (m.at i).rg.toNat) 0 ∧ undN (2 * X.getD 1 0 * X.getD (3 + i) 0).toNat (X.getD (3 + (m.at i).nx.toNat) 0 + 2 * X.getD 1 0 * X.getD 2 0 - 2 * X.getD (3 + m.l + (m.at i).rg.toNat) 0).toNat else undN (2 * X.getD 1 0 * X.getD (3 + i) 0).toNat (nX X (3 + (m.at i).nx.toNat))) ↔ if m.mach.op i = 2 ∧ m.mach.zr i ≠ m.mach.nx i then undN (2 * N 1 * N (3 + i)) (N (3 + m.mach.nx i) + N (3 + m.mach.zr i)) ∧ ∃ w, w + 2 * N (3 + m.l + m.mach.rg i) = N (3 + m.mach.nx i) + 2 * N 1 * N 2 ∧ undN (2 * N 1 * N (3 + i)) w else undN (2 * N 1 * N (3 + i)) (N (3 + m.mach.nx i))) := fun i hi => by
  have en : (m.at i).nx.toNat = m.mach.nx i := rfl;have ez : (m.at i).zr.toNat = m.mach.zr i := rfl;have er : (m.at i).rg.toNat = m.mach.rg i := rfl;rw [en, ez, er, hn];simp only [hN, cast_mul3]
  have t : 2 * (N 1 : Int) * (N 2 : Int) = ((2 * N 1 * N 2 : Nat) : Int) := by simp
  rw [t];by_cases h : (m.at i).op = 2 ∧ (m.at i).zr ≠ (m.at i).nx
  ·rw [if_pos h, if_pos ((pj i hi).1 h), show ((N (3 + m.mach.nx i) : Int) + (N (3 + m.mach.zr i) : Int)).toNat = N (3 + m.mach.nx i) + N (3 + m.mach.zr i) by omega];refine and_congr Iff.rfl ⟨fun ⟨k1, k2⟩ => ⟨_, ?_, k2⟩, fun ⟨w, k1, k2⟩ => ⟨by omega, ?_⟩⟩
   ·omega
   ·rw [show ((N (3 + m.mach.nx i) : Int) + ((2 * N 1 * N 2 : Nat) : Int) - 2 * (N (3 + m.l + m.mach.rg i) : Int)).toNat = w by omega]; exact k2
  ·rw [if_neg h, if_neg fun k => h ((pj i hi).2 k)]
 have hpow : N 1 = 2 ^ (N 0 + A) → 1 ≤ N 1 := fun h => by rw [h]; exact Nat.two_pow_pos _
 have hyf : (fun j => (x.getD j 0).toNat) = y := by
  funext j; rw [hy, Int.toNat_natCast]
 have hsa : (sumN m.l fun j => nX X (3 + j)) = sumN m.mach.l fun j => N (3 + j) := BH fun i _ => hn _
 have hAt : (addZ m x).toNat = A := by rw [hA, Int.toNat_natCast]
 simp only [hn, hyf, hAt];constructor
 ·intro h;have k1 := e1.1 h.a1;have kp := hpow k1;have k2 := (e2 kp).1 h.a2.2;refine ⟨k1, k2, ?_, fun i hi => ?_, ?_, ec.1 (by have := h.c2; exact this), fun j hj => ?_, fun i hi h3 => (ee i hi).1 (h.e i hi fun k => h3 ((p3 i hi).1 k)), fun j hj => (ef j kp k2).1 (h.f j hj)⟩
  ·have := h.a3;rw [hsa, hN] at this;show N 2 = sumN m.mach.l fun i => N (3 + i);omega
  ·have := h.b i hi; rwa [hn, hn] at this
  ·have := h.c1; rw [hn] at this; exact this
  ·have := (h.d j hj).2;rw [ed kp, Int.toNat_natCast, hn] at this;exact this
 ·intro h;have kp := hpow h.h1;refine ⟨e1.2 h.h1, ⟨by rw [hN]; omega, (e2 kp).2 h.h2⟩, ?_, fun i hi => ?_, ?_, ec.2 h.h6, fun j hj => ?_, fun i hi h3 => (ee i hi).2 (h.h8 i hi fun k => h3 ((p3 i hi).2 k)), fun j hj => (ef j kp h.h2).2 (h.h9 j hj)⟩
  ·rw [hsa, hN];have := h.h3;have e : N 2 = sumN m.mach.l fun i => N (3 + i) := this;omega
  ·rw [hn, hn]; exact h.h4 i hi
  ·rw [hn]; exact h.h5
  ·rw [ed kp, Int.toNat_natCast, hn];exact ⟨by omega, h.h7 j hj⟩
end
end Go.AL
/- The history of a run az a list of numbers; it is the one solution of the system. Plain. -/
namespace Go.AL
section
variable {m : MZ} {x X : List Int}
def BA (m : MZ) (x : List Int) (s : Nat) (pl : Nat → Nat) (r : Nat → Nat → Nat) : List Int :=
  [(s : Int), ((2 ^ (s + (addZ m x).toNat) : Nat) : Int), ((ds (2 * 2 ^ (s + (addZ m x).toNat)) (s + 1) fun _ => 1 : Nat) : Int)] ++ (List.range m.l).map (fun i => ((ds (2 * 2 ^ (s + (addZ m x).toNat)) (s + 1) (plD pl i) : Nat) : Int)) ++ (List.range m.R).map (fun j => ((ds (2 * 2 ^ (s + (addZ m x).toNat)) (s + 1) (fun t => r t j) : Nat) : Int)) ++ (List.range m.R).map (fun j => ((r s j : Nat) : Int))
theorem CL (s : Nat) (pl : Nat → Nat) (r : Nat → Nat → Nat) : (BA m x s pl r).length = m.V := by
 simp only [BA, List.length_append, List.length_map, List.length_range, List.length_cons, List.length_nil];show 0 + 1 + 1 + 1 + m.l + m.R + m.R = 3 + m.l + 2 * m.R;omega
theorem EC (s : Nat) (pl : Nat → Nat) (r : Nat → Nat → Nat) : (BA m x s pl r).getD 0 0 = s ∧ (BA m x s pl r).getD 1 0 = ((2 ^ (s + (addZ m x).toNat) : Nat) : Int) ∧ (BA m x s pl r).getD 2 0 = ((ds (2 * 2 ^ (s + (addZ m x).toNat)) (s + 1) fun _ => 1 : Nat) : Int) ∧ (∀ i, i < m.l → (BA m x s pl r).getD (3 + i) 0 = ((ds (2 * 2 ^ (s + (addZ m x).toNat)) (s + 1) (plD pl i) : Nat) : Int)) ∧ (∀ j, j < m.R → (BA m x s pl r).getD (3 + m.l + j) 0 = ((ds (2 * 2 ^ (s + (addZ m x).toNat)) (s + 1) (fun t => r t j) : Nat) : Int)) ∧ ∀ j, j < m.R → (BA m x s pl r).getD (3 + m.l + m.R + j) 0 = ((r s j : Nat) : Int) := by
 refine ⟨rfl, rfl, rfl, fun i hi => ?_, fun j hj => ?_, fun j hj => ?_⟩
 ·unfold BA;rw [List.getD_eq_getElem?_getD, List.getElem?_append_left (by simp; omega), List.getElem?_append_left (by simp; omega), List.getElem?_append_right (by simp)];simp only [List.length_cons, List.length_nil, List.getElem?_map];rw [show 3 + i - (0 + 1 + 1 + 1) = i by omega, List.getElem?_range hi];rfl
 ·unfold BA;rw [List.getD_eq_getElem?_getD, List.getElem?_append_left (by simp; omega), List.getElem?_append_right (by simp; omega)];simp only [List.length_append, List.length_cons, List.length_nil, List.getElem?_map, List.length_map, List.length_range];rw [show 3 + m.l + j - (0 + 1 + 1 + 1 + m.l) = j by omega, List.getElem?_range hj];rfl
 ·unfold BA;rw [List.getD_eq_getElem?_getD, List.getElem?_append_right (by simp; omega)];simp only [List.length_append, List.length_cons, List.length_nil, List.getElem?_map, List.length_map, List.length_range];rw [show 3 + m.l + m.R + j - (0 + 1 + 1 + 1 + m.l + m.R) = j by omega, List.getElem?_range hj];rfl
theorem histL_nn (s : Nat) (pl : Nat → Nat) (r : Nat → Nat → Nat) : ∀ y ∈ BA m x s pl r, 0 ≤ y := by
 intro y hy;simp only [BA, List.mem_append, List.mem_cons, List.not_mem_nil, or_false, List.mem_map] at hy;rcases hy with (((rfl | rfl | rfl) | ⟨i, _, rfl⟩) | ⟨j, _, rfl⟩) | ⟨j, _, rfl⟩ <;> exact Int.natCast_nonneg _
theorem in_le (ok : OkMZ m) (hx : OkIn m x) : m.mach.l ≤ (addZ m x).toNat ∧ ∀ j, j < m.mach.R → (x.getD j 0).toNat ≤ (addZ m x).toNat := by
 obtain ⟨s1, s2, s3⟩ := Dx ok hx;refine ⟨by show m.l ≤ _; omega, fun j hj => ?_⟩;have hs := sumL_ge (l := x) fun e he => (hx.2 e he).1;have hl : ((m.l : Nat) : Int) ≤ addZ m x := s3
 have hle : x.getD j 0 ≤ sumL x := by
  rw [List.getD_eq_getElem?_getD]
  cases h : x[j]? with
  | none => simpa using hs.1
  | some n => exact hs.2 n (List.mem_of_getElem? h)
 have e : addZ m x = (m.l : Int) + sumL x := rfl;omega
theorem hs_there (ok : OkMZ m) (hx : OkIn m x) {s : Nat} {pl : Nat → Nat} {r : Nat → Nat → Nat} (hr : m.mach.Run (fun j => (x.getD j 0).toNat) s pl r) : ∀ l ∈ (hsS m x).links, HoL (BA m x s pl r) l := by
 have h0 := histL_nn (m := m) (x := x) s pl r;refine (hs_hol ok hx (CL s pl r) h0).2 ((histZ_eq ok hx h0).2 ?_);obtain ⟨i1, i2⟩ := in_le ok hx;obtain ⟨g0, g1, g2, g3, g4, g5⟩ := EC (m := m) (x := x) s pl r;have hE := hist_there ok.mach i1 i2 hr (H := 2 ^ (s + (addZ m x).toNat)) rfl
 have n0 : nX (BA m x s pl r) 0 = s := by show ((BA m x s pl r).getD 0 0).toNat = _; rw [g0, Int.toNat_natCast]
 have n1 : nX (BA m x s pl r) 1 = 2 ^ (s + (addZ m x).toNat) := by show ((BA m x s pl r).getD 1 0).toNat = _; rw [g1, Int.toNat_natCast]
 have n2 : nX (BA m x s pl r) 2 = ds (2 * 2 ^ (s + (addZ m x).toNat)) (s + 1) (fun _ => 1) := by show ((BA m x s pl r).getD 2 0).toNat = _; rw [g2, Int.toNat_natCast]
 have n3 : ∀ i, i < m.l → nX (BA m x s pl r) (3 + i) = ds (2 * 2 ^ (s + (addZ m x).toNat)) (s + 1) (plD pl i) := fun i hi => by show ((BA m x s pl r).getD (3 + i) 0).toNat = _; rw [g3 i hi, Int.toNat_natCast]
 have n4 : ∀ j, j < m.R → nX (BA m x s pl r) (3 + m.l + j) = ds (2 * 2 ^ (s + (addZ m x).toNat)) (s + 1) (fun t => r t j) := fun j hj => by show ((BA m x s pl r).getD (3 + m.l + j) 0).toNat = _; rw [g4 j hj, Int.toNat_natCast]
 have n5 : ∀ j, j < m.R → nX (BA m x s pl r) (3 + m.l + m.R + j) = r s j := fun j hj => by show ((BA m x s pl r).getD (3 + m.l + m.R + j) 0).toNat = _; rw [g5 j hj, Int.toNat_natCast]
 rw [n0, n1, n2];refine ⟨hE.h1, hE.h2, ?_, fun i hi => ?_, ?_, ?_, fun j hj => ?_, fun i hi h3 => ?_, fun j hj => ?_⟩
 ·rw [hE.h3]; exact BH fun i hi => (n3 i hi).symm
 ·rw [n3 i hi]; exact hE.h4 i hi
 ·rw [n3 0 ok.l1]; exact hE.h5
 ·rw [hE.h6]; exact BH fun i hi => by rw [n3 i hi]
 ·rw [n4 j hj]; exact hE.h7 j hj
 ·have h8 := hE.h8 i hi h3;rcases ok.mach.ins i hi with k | ⟨o1, o2, o3, o4, o5⟩
  ·exact absurd k h3
  rw [n3 i hi, n3 _ o3, n3 _ o4, n4 _ o2];exact h8
 ·have h9 := hE.h9 j hj;rw [n4 j hj, n5 j hj];rw [show (sumN m.mach.l fun i => if m.mach.op i = 1 ∧ m.mach.rg i = j then nX (BA m x s pl r) (3 + i) else 0) = _ from BH fun i hi => by rw [n3 i hi], show (sumN m.mach.l fun i => if m.mach.op i = 0 ∧ m.mach.rg i = j then nX (BA m x s pl r) (3 + i) else 0) = _ from BH fun i hi => by rw [n3 i hi]];exact h9
end
end Go.AL
/- The run az a function. Plain. -/
namespace Go.AL
def Mach.F (m : Mach) (x : Nat → Nat) : Nat → Nat × (Nat → Nat)
  | 0 => (0, x)
  | t + 1 => (m.to (m.F x t).1 (m.F x t).2, fun j => if m.op (m.F x t).1 = 0 ∧ m.rg (m.F x t).1 = j then (m.F x t).2 j + 1 else if m.op (m.F x t).1 = 1 ∧ m.rg (m.F x t).1 = j then (m.F x t).2 j - 1 else (m.F x t).2 j)
def Mach.Over (m : Mach) (c : Nat × (Nat → Nat)) : Prop := m.op c.1 = 3 ∨ (m.op c.1 = 1 ∧ c.2 (m.rg c.1) = 0)
instance (m : Mach) (c : Nat × (Nat → Nat)) : Decidable (m.Over c) := inferInstanceAs (Decidable (_ ∨ _))
theorem Mach.F_lt {m : Mach} (ok : m.Ok) (x : Nat → Nat) {s : Nat} : (∀ t, t < s → ¬ m.Over (m.F x t)) → ∀ t, t ≤ s → (m.F x t).1 < m.l := by
 intro h t
 induction t with
 | zero => exact fun _ => ok.l0
 | succ t ih =>
  intro ht;have hi := ih (by omega);have hn := h t (by omega);rcases ok.ins _ hi with k | ⟨_, _, o3, o4, _⟩
  ·exact absurd (.inl k) hn
  ·show m.to _ _ < m.l;unfold Mach.to;split
   ·exact o4
   ·exact o3
theorem Mach.F_run {m : Mach} (ok : m.Ok) {x : Nat → Nat} {s : Nat} (h : ∀ t, t < s → ¬ m.Over (m.F x t)) (hs : m.op (m.F x s).1 = 3) : m.Run x s (fun t => (m.F x t).1) fun t => (m.F x t).2 := by
 refine ⟨m.F_lt ok x h, rfl, fun _ _ => rfl, fun t ht => ⟨fun k => h t ht (.inl k), rfl⟩, fun t ht j hj => ?_, hs⟩;have hn := h t ht;show (if m.op (m.F x t).1 = 0 ∧ m.rg (m.F x t).1 = j then (m.F x t).2 j + 1 else if m.op (m.F x t).1 = 1 ∧ m.rg (m.F x t).1 = j then (m.F x t).2 j - 1 else (m.F x t).2 j) + _ = _;by_cases h0 : m.op (m.F x t).1 = 0 ∧ m.rg (m.F x t).1 = j
 ·rw [if_pos h0, if_neg (by omega), if_pos h0]
 ·rw [if_neg h0];by_cases h1 : m.op (m.F x t).1 = 1 ∧ m.rg (m.F x t).1 = j
  ·rw [if_pos h1, if_pos h1, if_neg h0];have : (m.F x t).2 j ≠ 0 := fun k => hn (.inr ⟨h1.1, by rw [h1.2]; exact k⟩);omega
  ·rw [if_neg h1, if_neg h1, if_neg h0]
theorem Mach.F_le {m : Mach} {x : Nat → Nat} (j : Nat) : ∀ t, (m.F x t).2 j ≤ x j + t
 | 0 => Nat.le_refl _
 | t + 1 => by
  have ih := m.F_le (x := x) j t;show (if m.op (m.F x t).1 = 0 ∧ m.rg (m.F x t).1 = j then (m.F x t).2 j + 1 else if m.op (m.F x t).1 = 1 ∧ m.rg (m.F x t).1 = j then (m.F x t).2 j - 1 else (m.F x t).2 j) ≤ _;split
  ·omega
  ·split <;> omega
theorem Mach.stop {m : Mach} (x : Nat → Nat) (n : Nat) : ∃ k, k ≤ n ∧ (∀ t, t < k → ¬ m.Over (m.F x t)) ∧ (k = n ∨ m.Over (m.F x k)) := by
 induction n with
 | zero => exact ⟨0, Nat.le_refl _, fun t ht => by omega, .inl rfl⟩
 | succ n ih =>
  obtain ⟨k, h1, h2, h3⟩ := ih;by_cases ho : m.Over (m.F x k)
  ·exact ⟨k, by omega, h2, .inr ho⟩
  ·have hk : k = n := by
    rcases h3 with h | h
    ·exact h
    ·exact absurd h ho
   subst hk;refine ⟨k + 1, Nat.le_refl _, fun t ht => ?_, .inl rfl⟩;rcases (show t < k ∨ t = k by omega) with h | h
   ·exact h2 t h
   ·rw [h]; exact ho
end Go.AL
/- Registers az lists: a step. Plain. -/
namespace Go.AL
def rgL (R : Nat) (f : Nat → Nat) : List Int := (List.range R).map fun j => ((f j : Nat) : Int)
theorem BL (R : Nat) (f : Nat → Nat) : (rgL R f).length = R := by simp [rgL]
theorem CE {R : Nat} {f : Nat → Nat} {k : Nat} (hk : k < R) : (rgL R f)[k]? = some ((f k : Nat) : Int) := by
 unfold rgL;rw [List.getElem?_map, List.getElem?_range hk]; rfl
theorem rgL_ext {R : Nat} {f g : Nat → Nat} (h : ∀ j, j < R → f j = g j) : rgL R f = rgL R g := by
 unfold rgL
 exact List.map_congr_left fun j hj => by rw [h j (List.mem_range.1 hj)]
theorem rgL_set {R : Nat} {f g : Nat → Nat} {k v : Nat} (hk : k < R) (h : ∀ j, j < R → g j = if k = j then v else f j) : rgL R g = (rgL R f).set k (v : Int) := by
 refine List.ext_getElem? fun j => ?_;rw [List.getElem?_set];by_cases hj : j < R
 ·rw [CE hj, h j hj];by_cases e : k = j
  ·rw [if_pos e, if_pos e, if_pos (by rw [BL]; omega)]
  ·rw [if_neg e, if_neg e, CE hj]
 ·rw [List.getElem?_eq_none (by rw [BL]; omega), if_neg (by omega), List.getElem?_eq_none (by rw [BL]; omega)]
theorem rgL_of {x : List Int} (h0 : ∀ n ∈ x, 0 ≤ n) : x = rgL x.length fun j => (x.getD j 0).toNat := by
 refine List.ext_getElem? fun j => ?_;by_cases hj : j < x.length
 ·rw [CE hj, List.getD_eq_getElem?_getD, List.getElem?_eq_getElem hj];have := h0 _ (List.getElem_mem hj);show some _ = some ((((x[j]) : Int).toNat : Nat) : Int);congr 1;omega
 ·rw [List.getElem?_eq_none (by omega), List.getElem?_eq_none (by rw [BL]; omega)]
section
variable {m : MZ} {x : Nat → Nat} {t : Nat}
theorem F_inc (h : m.mach.op (m.mach.F x t).1 = 0) (hr : m.mach.rg (m.mach.F x t).1 < m.R) : (m.mach.F x (t + 1)).1 = m.mach.nx (m.mach.F x t).1 ∧ rgL m.R (m.mach.F x (t + 1)).2 = (rgL m.R (m.mach.F x t).2).set (m.mach.rg (m.mach.F x t).1) (((m.mach.F x t).2 (m.mach.rg (m.mach.F x t).1) + 1 : Nat) : Int) := by
 refine ⟨?_, rgL_set hr fun j _ => ?_⟩
 ·show m.mach.to _ _ = _;unfold Mach.to;rw [if_neg (by omega)]
 ·show (if m.mach.op (m.mach.F x t).1 = 0 ∧ m.mach.rg (m.mach.F x t).1 = j then (m.mach.F x t).2 j + 1 else if m.mach.op (m.mach.F x t).1 = 1 ∧ m.mach.rg (m.mach.F x t).1 = j then (m.mach.F x t).2 j - 1 else (m.mach.F x t).2 j) = _;by_cases e : m.mach.rg (m.mach.F x t).1 = j
  ·rw [if_pos ⟨h, e⟩, if_pos e, e]
  ·rw [if_neg fun k => e k.2, if_neg fun k => e k.2, if_neg e]
theorem F_dec (h : m.mach.op (m.mach.F x t).1 = 1) (hr : m.mach.rg (m.mach.F x t).1 < m.R) : (m.mach.F x (t + 1)).1 = m.mach.nx (m.mach.F x t).1 ∧ rgL m.R (m.mach.F x (t + 1)).2 = (rgL m.R (m.mach.F x t).2).set (m.mach.rg (m.mach.F x t).1) (((m.mach.F x t).2 (m.mach.rg (m.mach.F x t).1) - 1 : Nat) : Int) := by
 refine ⟨?_, rgL_set hr fun j _ => ?_⟩
 ·show m.mach.to _ _ = _;unfold Mach.to;rw [if_neg (by omega)]
 ·show (if m.mach.op (m.mach.F x t).1 = 0 ∧ m.mach.rg (m.mach.F x t).1 = j then (m.mach.F x t).2 j + 1 else if m.mach.op (m.mach.F x t).1 = 1 ∧ m.mach.rg (m.mach.F x t).1 = j then (m.mach.F x t).2 j - 1 else (m.mach.F x t).2 j) = _;rw [if_neg fun k => by omega];by_cases e : m.mach.rg (m.mach.F x t).1 = j
  ·rw [if_pos ⟨h, e⟩, if_pos e, e]
  ·rw [if_neg fun k => e k.2, if_neg e]
theorem F_jmp (h : m.mach.op (m.mach.F x t).1 = 2) : (m.mach.F x (t + 1)).1 = (if (m.mach.F x t).2 (m.mach.rg (m.mach.F x t).1) = 0 then m.mach.zr (m.mach.F x t).1 else m.mach.nx (m.mach.F x t).1) ∧ rgL m.R (m.mach.F x (t + 1)).2 = rgL m.R (m.mach.F x t).2 := by
 refine ⟨?_, rgL_ext fun j _ => ?_⟩
 ·show m.mach.to _ _ = _;unfold Mach.to;by_cases e : (m.mach.F x t).2 (m.mach.rg (m.mach.F x t).1) = 0
  ·rw [if_pos ⟨h, e⟩, if_pos e]
  ·rw [if_neg fun k => e k.2, if_neg e]
 ·show (if m.mach.op (m.mach.F x t).1 = 0 ∧ m.mach.rg (m.mach.F x t).1 = j then (m.mach.F x t).2 j + 1 else if m.mach.op (m.mach.F x t).1 = 1 ∧ m.mach.rg (m.mach.F x t).1 = j then (m.mach.F x t).2 j - 1 else (m.mach.F x t).2 j) = _;rw [if_neg fun k => by omega, if_neg fun k => by omega]
end
end Go.AL
/- register.Run, Halts, Start, Step. -/
namespace Go.AL
theorem CZ {m : MZ} (h : OkMZ m) : ((m.R : Nat) : Int) = m.regs := by
 have := h.r1;show ((m.regs.toNat : Nat) : Int) = m.regs;omega
theorem DF {m : MZ} (h : OkMZ m) {a : Nat} (ha : a < m.l) : m.at a = haltZ ∨ ((0 ≤ (m.at a).rg ∧ (m.at a).rg < m.R) ∧ (0 ≤ (m.at a).nx ∧ (m.at a).nx < m.l) ∧ (((m.at a).op = 2 ∧ 0 ≤ (m.at a).zr ∧ (m.at a).zr < m.l ∧ (m.at a).nx ≠ a) ∨ (((m.at a).op = 0 ∨ (m.at a).op = 1) ∧ (m.at a).zr = 0))) := by
 have := CZ h;rcases h.ins a ha with k | ⟨⟨k1, k2⟩, k3⟩
 ·exact .inl k
 ·exact .inr ⟨⟨k1, by omega⟩, k3⟩
theorem rgL_all {R : Nat} {f : Nat → Nat} {B : Nat} (h : ∀ j, f j ≤ B) : ∀ v ∈ rgL R f, 0 ≤ v ∧ v ≤ (B : Int) := by
 intro v hv;obtain ⟨j, _, rfl⟩ := List.mem_map.1 hv;have := h j;exact ⟨Int.natCast_nonneg _, by omega⟩
def inF (x : List Int) : Nat → Nat := fun j => (x.getD j 0).toNat
theorem inF_le {m : MZ} {x : List Int} (hx : OkIn m x) (j : Nat) : inF x j ≤ 1000 := by
 unfold inF;rw [List.getD_eq_getElem?_getD]
 cases h : x[j]? with
 | none => simp
 | some v => have := hx.2 v (List.mem_of_getElem? h); simp only [Option.getD_some]; omega
theorem inF_eq {m : MZ} {x : List Int} (hx : OkIn m x) : rgL m.R (inF x) = x := by
 have ex := rgL_of fun v hv => (hx.2 v hv).1;rw [show m.R = x.length from hx.1.symm];exact ex.symm
end Go.AL
namespace Go.Proofs.YtmmfloplhopioaaGreat
open Go.AL
theorem rnOverC_ok (m : MZ) (hm : OkMZ m) (c : Nat × (Nat → Nat)) (hc : c.1 < m.l) : IoFn Tryz.prog 85 [.ptr 900 0] (rnB m c.1 (rgL m.R c.2)) (.ret (aB (decide (m.mach.Over c)))) (rnB m c.1 (rgL m.R c.2)) := by
 have hI := DF hm hc
 have hz : m.code[Int.toNat ((c.1 : Nat) : Int)]? = some (m.at c.1) := by rw [Int.toNat_natCast]; exact EH hc
 refine rnOver_ok m c.1 (m.at c.1) _ hz (fun h => ?_) _ ?_
 ·rcases hI with k | ⟨k, _⟩
  ·rw [k] at h; exact absurd rfl h
  ·rw [BL]; exact k
 ·rw [decide_eq_true_iff];show ((m.at c.1).op.toNat = 3 ∨ ((m.at c.1).op.toNat = 1 ∧ c.2 (m.at c.1).rg.toNat = 0)) ↔ _;rcases hI with k | ⟨⟨k1, k2⟩, k3, k4⟩
  ·rw [k]; exact ⟨fun _ => .inl rfl, fun _ => .inl rfl⟩
  ·have hg : (rgL m.R c.2)[(m.at c.1).rg.toNat]? = some ((c.2 (m.at c.1).rg.toNat : Nat) : Int) := CE (by omega);rw [hg]
   have : (some ((c.2 (m.at c.1).rg.toNat : Nat) : Int) = some 0) ↔ c.2 (m.at c.1).rg.toNat = 0 := by
    constructor
    ·intro h; injection h with h; omega
    ·intro h; rw [h]; rfl
   rw [this]
   have h1 : (m.at c.1).op = 0 ∨ (m.at c.1).op = 1 ∨ (m.at c.1).op = 2 := by omega
   constructor <;> intro h <;> omega
theorem rnStepF_ok (m : MZ) (hm : OkMZ m) (x : Nat → Nat) (t : Nat) (hc : (m.mach.F x t).1 < m.l) (hno : ¬ m.mach.Over (m.mach.F x t)) (hb : ∀ j, (m.mach.F x t).2 j < 1099511627776) : IoFn Tryz.prog 86 [.ptr 900 0] (rnB m (m.mach.F x t).1 (rgL m.R (m.mach.F x t).2)) (.ret (aB true)) (rnB m (m.mach.F x (t + 1)).1 (rgL m.R (m.mach.F x (t + 1)).2)) := by
 have hI := DF hm hc
 have hz : m.code[Int.toNat (((m.mach.F x t).1 : Nat) : Int)]? = some (m.at (m.mach.F x t).1) := by rw [Int.toNat_natCast]; exact EH hc
 obtain ⟨z, ez⟩ : ∃ z, z = m.at (m.mach.F x t).1 := ⟨_, rfl⟩
 have eo : m.mach.op (m.mach.F x t).1 = z.op.toNat := by rw [ez]; rfl
 have er : m.mach.rg (m.mach.F x t).1 = z.rg.toNat := by rw [ez]; rfl
 have en : m.mach.nx (m.mach.F x t).1 = z.nx.toNat := by rw [ez]; rfl
 have ezr : m.mach.zr (m.mach.F x t).1 = z.zr.toNat := by rw [ez]; rfl
 rw [← ez] at hI hz;rcases hI with k | ⟨⟨k1, k2⟩, ⟨k3, k3'⟩, k4⟩
 ·exact absurd (.inl (by rw [eo, k]; rfl)) hno
 ·have hrl : 0 ≤ z.rg ∧ z.rg < (rgL m.R (m.mach.F x t).2).length := by rw [BL]; exact ⟨k1, k2⟩
  have hv : (rgL m.R (m.mach.F x t).2)[z.rg.toNat]? = some (((m.mach.F x t).2 z.rg.toNat : Nat) : Int) := CE (by omega);have hbv := hb z.rg.toNat;rcases (show z.op = 0 ∨ z.op = 1 ∨ z.op = 2 by omega) with h | h | h
  ·obtain ⟨f1, f2⟩ := F_inc (m := m) (x := x) (t := t) (by rw [eo, h]; rfl) (by rw [er]; omega);have := rnInc_ok m _ z _ _ hz h hrl hv (by omega) (by omega);rw [f1, f2, en, er, show ((z.nx.toNat : Nat) : Int) = z.nx by omega];exact this
  ·obtain ⟨f1, f2⟩ := F_dec (m := m) (x := x) (t := t) (by rw [eo, h]; rfl) (by rw [er]; omega);have := rnDec_ok m _ z _ _ hz h hrl hv (by omega) (by omega);have hpos : (m.mach.F x t).2 z.rg.toNat ≠ 0 := fun k => hno (.inr ⟨by rw [eo, h]; rfl, by rw [er]; exact k⟩);rw [f1, f2, en, er, show ((z.nx.toNat : Nat) : Int) = z.nx by omega, show (((m.mach.F x t).2 z.rg.toNat - 1 : Nat) : Int) = (((m.mach.F x t).2 z.rg.toNat : Nat) : Int) - 1 by omega];exact this
  ·obtain ⟨f1, f2⟩ := F_jmp (m := m) (x := x) (t := t) (by rw [eo, h]; rfl);have := rnJmp_ok m _ z _ _ hz h hrl hv (by omega);rw [f1, f2, en, er, ezr];by_cases e : (m.mach.F x t).2 z.rg.toNat = 0
   ·rw [if_pos e, show ((z.zr.toNat : Nat) : Int) = z.zr by omega];rw [if_pos (by omega)] at this;exact this
   ·rw [if_neg e, show ((z.nx.toNat : Nat) : Int) = z.nx by omega];rw [if_neg (by omega)] at this;exact this
theorem rnRun_ok (m : MZ) (hm : OkMZ m) (x : Nat → Nat) (n k : Nat) (hn : n ≤ 1000000) (hx : ∀ j, x j ≤ 1000) (hk : k ≤ n) (h1 : ∀ t, t < k → ¬ m.mach.Over (m.mach.F x t)) (h2 : k = n ∨ m.mach.Over (m.mach.F x k)) : IoFn Tryz.prog 140 [.ptr 900 0, aN n] (rnB m (m.mach.F x 0).1 (rgL m.R (m.mach.F x 0).2)) (.ret (.tup [aN k, aB true])) (rnB m (m.mach.F x k).1 (rgL m.R (m.mach.F x k).2)) := by
 refine AG Tryz.func140 rfl Tryz.ntmps140 rfl rfl rfl ?_;have hlt := Mach.F_lt hm.mach x h1;(repeat' (first |refine qv ?_ |apply qn |apply qs |apply qr |apply qb));refine AWP.loop (G := Nat) (fun t => t ≤ k) (fun t => AU [900, 901] [(0, .ptr 900 0), (1, aN n), (7, aN n), (8, aN t)] (rnB m (m.mach.F x t).1 (rgL m.R (m.mach.F x t).2))) (fun t => n - t) 0 (by omega) ?_ ?_
 ·refine Ent.of [] ?_ ?_ rfl rfl;(repeat' (first |exact True.intro |refine ⟨⟨AA _, rfl⟩, ?_⟩ |refine ⟨⟨⟨_, rfl, BLe.cells (AB _)⟩, rfl⟩, ?_⟩ |refine ⟨⟨⟨_, rfl, BLe.row rfl⟩, rfl⟩, ?_⟩|fail))
 ·intro t ht;have ho := rnOverC_ok m hm (m.mach.F x t) (hlt t ht);rcases Nat.lt_or_ge t k with hk1 | hk1
  ·rw [decide_eq_false (h1 t hk1)] at ho
   have hs := rnStepF_ok m hm x t (hlt t ht) (h1 t hk1) fun j => by
    have := m.mach.F_le (x := x) j t;have := hx j;omega
   (repeat' (first |refine qv ?_ |apply qn |apply qs |apply qr |(refine AD rfl ?_ ?_ <;> intro _ <;> try (exfalso; omega)) |apply qb |apply qk));refine Ay rfl [] ho rfl rfl (AB _) rfl ⟨⟨⟨_, rfl, BLe.cells (AB _)⟩, rfl⟩, ⟨⟨_, rfl, BLe.row rfl⟩, rfl⟩, trivial⟩ rfl rfl rfl rfl rfl ?_;(repeat' (first |refine qv ?_ |apply qn |apply qs |apply qr |refine AF rfl ?_ |apply qk));refine Ay rfl [] hs rfl rfl (AB _) rfl ⟨⟨⟨_, rfl, BLe.cells (AB _)⟩, rfl⟩, ⟨⟨_, rfl, BLe.row rfl⟩, rfl⟩, trivial⟩ rfl rfl rfl rfl rfl ?_;(repeat' (first |refine qv ?_ |apply qn |apply qr |refine qw ?_ |refine AF rfl ?_ |apply qk));refine LoopEnd.of (t + 1) (by omega) (by omega) ?_;refine Ent.of [] ?_ ?_ rfl rfl;(repeat' (first |exact True.intro |refine ⟨⟨AA _, rfl⟩, ?_⟩ |refine ⟨⟨⟨_, rfl, BLe.cells (AB _)⟩, rfl⟩, ?_⟩ |refine ⟨⟨⟨_, rfl, BLe.row rfl⟩, rfl⟩, ?_⟩|fail))
  ·have etk : t = k := by omega
   subst etk;rcases h2 with h | h
   ·subst h;(repeat' (first |refine qv ?_ |apply qn |apply qs |apply qr |(refine AD rfl ?_ ?_ <;> intro _ <;> try (exfalso; omega)) |apply qx |apply qt));exact ⟨⟨[], _, _, AK _ _ _, rfl, AA _, rfl, ⟨⟨⟨_, rfl, BLe.cells (AB _)⟩, rfl⟩, ⟨⟨_, rfl, BLe.row rfl⟩, rfl⟩, trivial⟩, rfl, rfl⟩⟩
   ·rw [decide_eq_true h] at ho;(repeat' (first |refine qv ?_ |apply qn |apply qs |apply qr |(refine AD rfl ?_ ?_ <;> intro _ <;> try (exfalso; omega)) |apply qb |apply qk |apply qx |apply qt))
    ·refine Ay rfl [] ho rfl rfl (AB _) rfl ⟨⟨⟨_, rfl, BLe.cells (AB _)⟩, rfl⟩, ⟨⟨_, rfl, BLe.row rfl⟩, rfl⟩, trivial⟩ rfl rfl rfl rfl rfl ?_;(repeat' (first |refine qv ?_ |apply qn |apply qs |apply qr |refine AM rfl ?_ |apply qt));exact ⟨⟨[], _, _, AK _ _ _, rfl, AA _, rfl, ⟨⟨⟨_, rfl, BLe.cells (AB _)⟩, rfl⟩, ⟨⟨_, rfl, BLe.row rfl⟩, rfl⟩, trivial⟩, rfl, rfl⟩⟩
    ·have : t = n := by omega
     subst this;exact ⟨⟨[], _, _, AK _ _ _, rfl, AA _, rfl, ⟨⟨⟨_, rfl, BLe.cells (AB _)⟩, rfl⟩, ⟨⟨_, rfl, BLe.row rfl⟩, rfl⟩, trivial⟩, rfl, rfl⟩⟩
theorem rgFits_ok (m : MZ) (hm : OkMZ m) (a : Nat) (rs : List Int) (ha : a < m.l) (hl : rs.length = m.R) (hr : ∀ v ∈ rs, 0 ≤ v ∧ v ≤ 1099511627776) : PureFn Tryz.prog 83 [aMz m, aSt a rs] (aB true) := by
 refine AC Tryz.func83 rfl Tryz.ntmps83 rfl rfl ?_;have hR := CZ hm;have h4 := hm.r4;have h15 : m.code.length ≤ 15 := hm.l15;have hlt : a < m.code.length := ha;(repeat' (first |refine qv ?_ |apply qn |apply qs |apply qr |refine qe ?_|fail));refine Fl.call rfl (DQ m (by omega) true ⟨fun _ => hm, fun _ => rfl⟩) rfl rfl rfl (AB _) ?_;(repeat' (first |refine qv ?_ |(refine AH rfl rfl ?_ ?_ <;> intro _ <;> try (exfalso; omega))));have hc := containsI_ok 149 (fun v => decide (v < 0 ∨ 1099511627776 < v)) rs (by omega) rgFits1_ok;rw [anyOut.2 hr] at hc;refine qc (hc) ?_;(repeat' (first |refine qv ?_ |apply qn |apply qt));exact RetOk.of rfl (AA _)
theorem rgStart_ok (m : MZ) (hm : OkMZ m) (x : List Int) (hx : OkIn m x) : PureFn Tryz.prog 38 [aMz m, aI x] (.tup [aSt 0 x, aN 0]) := by
 refine AC Tryz.func38 rfl Tryz.ntmps38 rfl rfl ?_;have hR := CZ hm;have h1 := hm.r1;have h4 := hm.r4;have h15 : m.code.length ≤ 15 := hm.l15;have hxl := hx.1;(repeat' (first |refine qv ?_ |apply qn |apply qs |apply qr |refine qe ?_|fail));refine Fl.call rfl (DQ m (by omega) true ⟨fun _ => hm, fun _ => rfl⟩) rfl rfl rfl (AB _) ?_;(repeat' (first |refine qv ?_ |apply qn |apply qs |apply qr |refine AF rfl ?_ |apply qk));refine Fl.call rfl (rgInput_ok m x (by omega) (by omega) true ⟨fun _ => hx, fun _ => rfl⟩) rfl rfl rfl (AB _) ?_;(repeat' (first |refine qv ?_ |apply qn |apply qs |apply qr |refine AF rfl ?_ |apply qk));refine qc (cloneI_ok x (by omega)) ?_;(repeat' (first |refine qv ?_ |apply qn |refine qe ?_ |apply qt));exact RetOk.of rfl (AA _)
theorem rgRun_ok (m : MZ) (hm : OkMZ m) (x : Nat → Nat) (n k : Nat) (hn : n ≤ 1000000) (hx : ∀ j, x j ≤ 1000) (hk : k ≤ n) (h1 : ∀ t, t < k → ¬ m.mach.Over (m.mach.F x t)) (h2 : k = n ∨ m.mach.Over (m.mach.F x k)) : PureFn Tryz.prog 74 [aMz m, aSt 0 (rgL m.R x), aN n] (.tup [aSt (m.mach.F x k).1 (rgL m.R (m.mach.F x k).2), aN k, aN 0]) := by
 refine AC Tryz.func74 rfl Tryz.ntmps74 rfl rfl ?_;have hR := CZ hm;have hr1 := hm.r1;have hr4 := hm.r4
 have hf := rgFits_ok m hm 0 (rgL m.R x) hm.l1 (BL _ _) fun v hv => by
  have := rgL_all hx v hv;omega
 have hb := rnBegin_ok m 0 (rgL m.R x) (by rw [BL]; omega) fun h => by
  have := congrArg List.length h;rw [BL] at this;simp at this;omega
 have hrun := rnRun_ok m hm x n k hn hx hk h1 h2;(repeat' (first |refine qv ?_ |apply qn |apply qs |apply qr |refine qe ?_|fail));refine qc (hf) ?_;(repeat' (first |refine qv ?_ |apply qn |apply qs |apply qr |refine AF rfl ?_ |(refine AD rfl ?_ ?_ <;> intro _ <;> try (exfalso; omega)) |apply qk));refine Ay rfl [(900, 26), (901, 901)] hb rfl rfl (AB _) rfl trivial rfl rfl rfl rfl rfl ?_;(repeat' (first |refine qv ?_ |apply qn |apply qs |apply qr));refine Ay rfl [(900, 26), (901, 901)] hrun rfl rfl (AB _) rfl ⟨⟨⟨_, rfl, BLe.cells (AB _)⟩, rfl⟩, ⟨⟨_, rfl, BLe.row rfl⟩, rfl⟩, trivial⟩ rfl rfl rfl rfl rfl ?_;(repeat' (first |refine qv ?_ |apply qn |apply qs |apply qr |refine qe ?_ |refine AF rfl ?_ |apply qk |apply qt));refine Ap (Ent.freeze 901 rfl) ?_;exact RetOk.of rfl (AA _)
theorem rgRun_arg (m : MZ) (hm : OkMZ m) (x : Nat → Nat) (n : Int) (hx : ∀ j, x j ≤ 1000) (hn : n < 0 ∨ 1000000 < n) : PureFn Tryz.prog 74 [aMz m, aSt 0 (rgL m.R x), aN n] (.tup [.agg [aN 0, .v (.slice none 0 0)], aN 0, aN 2]) := by
 refine AC Tryz.func74 rfl Tryz.ntmps74 rfl rfl ?_
 have hf := rgFits_ok m hm 0 (rgL m.R x) hm.l1 (BL _ _) fun v hv => by
  have := rgL_all hx v hv;omega
 (repeat' (first |refine qv ?_ |apply qn |apply qs |apply qr |refine qe ?_|fail));refine qc (hf) ?_;(repeat' (first |refine qv ?_ |apply qn |apply qs |apply qr |refine qe ?_ |refine Fl.skip rfl rfl ?_ |refine AM rfl ?_ |refine AF rfl ?_ |(refine AD rfl ?_ ?_ <;> intro _ <;> try (exfalso; omega)) |apply qk |apply qt |(refine AH rfl rfl ?_ ?_ <;> intro _ <;> try (exfalso; omega))))
 all_goals exact RetOk.of rfl (AA _)
theorem rgHalts_arg (m : MZ) (hm : OkMZ m) (x : List Int) (hx : OkIn m x) (n : Int) (hn : n < 0 ∨ 1000000 < n) : PureFn Tryz.prog 32 [aMz m, aI x, aN n] (.tup [aN 0, .v (.slice none 0 0), aN 2]) := by
 refine AC Tryz.func32 rfl Tryz.ntmps32 rfl rfl ?_;have hs := rgStart_ok m hm x hx;have ex := rgL_of fun v hv => (hx.2 v hv).1
 have hr := rgRun_arg m hm (fun j => (x.getD j 0).toNat) n (fun j => by
  rw [List.getD_eq_getElem?_getD]
  cases h : x[j]? with
  | none => simp
  | some v => have := hx.2 v (List.mem_of_getElem? h); simp only [Option.getD_some]; omega) hn
 rw [show m.R = x.length from hx.1.symm, ← ex] at hr;(repeat' (first |refine qv ?_ |apply qn |apply qs |apply qr |refine qe ?_|fail));refine qc (hs) ?_;(repeat' (first |refine qv ?_ |apply qn |apply qs |apply qr |refine qe ?_ |refine AF rfl ?_ |apply qk));refine qc (hr) ?_;(repeat' (first |refine qv ?_ |apply qn |apply qs |apply qr |refine qe ?_ |refine AM rfl ?_ |apply qt));exact RetOk.of rfl (AA _)
theorem rgHalts_ok (m : MZ) (hm : OkMZ m) (x : List Int) (hx : OkIn m x) (n k : Nat) (hn : n ≤ 1000000) (hk : k ≤ n) (h1 : ∀ t, t < k → ¬ m.mach.Over (m.mach.F (inF x) t)) (h2 : k = n ∨ m.mach.Over (m.mach.F (inF x) k)) : PureFn Tryz.prog 32 [aMz m, aI x, aN n] (if m.mach.op (m.mach.F (inF x) k).1 = 3 then .tup [aN k, aI (rgL m.R (m.mach.F (inF x) k).2), aN 0] else .tup [aN 0, .v (.slice none 0 0), aN 6]) := by
 refine AC Tryz.func32 rfl Tryz.ntmps32 rfl rfl ?_;have hs := rgStart_ok m hm x hx;have hr := rgRun_ok m hm (inF x) n k hn (inF_le hx) hk h1 h2;rw [inF_eq hx] at hr;have hc := Mach.F_lt hm.mach (inF x) h1 k (Nat.le_refl _);have hI := DF hm hc
 have hz : m.code[Int.toNat (((m.mach.F (inF x) k).1 : Nat) : Int)]? = some (m.at (m.mach.F (inF x) k).1) := by rw [Int.toNat_natCast]; exact EH hc
 have hlt : (m.mach.F (inF x) k).1 < m.code.length := hc;have eo : m.mach.op (m.mach.F (inF x) k).1 = (m.at (m.mach.F (inF x) k).1).op.toNat := rfl;obtain ⟨z, ez⟩ : ∃ z, z = m.at (m.mach.F (inF x) k).1 := ⟨_, rfl⟩;rw [eo];rw [← ez] at hI hz ⊢;(repeat' (first |refine qv ?_ |apply qn |apply qs |apply qr |refine qe ?_|fail));refine qc (hs) ?_;(repeat' (first |refine qv ?_ |apply qn |apply qs |apply qr |refine qe ?_ |refine AF rfl ?_ |apply qk));refine qc (hr) ?_;(repeat' (first |refine qv ?_ |apply qn |refine Fl.nil (fun _ => by kernel_rfl) ?_ |apply qs |apply qr |refine qe ?_ |refine AF rfl ?_ |(refine Aa rfl ?_ ?_ <;> intro _ <;> try (exfalso; omega)) |apply qk |apply qt |refine qK ?_|fail))
 ·rename_i h;rw [if_neg (fun k => h (by omega))];exact RetOk.of rfl (AA _)
 ·rename_i h;rw [if_pos (by omega)];exact RetOk.of rfl (AA _)
theorem rgStep_ok (m : MZ) (hm : OkMZ m) (x : Nat → Nat) (t : Nat) (ht : t ≤ 1000000) (hx : ∀ j, x j ≤ 1000) (hc : (m.mach.F x t).1 < m.l) (ho : ¬ m.mach.Over (m.mach.F x t)) : PureFn Tryz.prog 39 [aMz m, aSt (m.mach.F x t).1 (rgL m.R (m.mach.F x t).2)] (.tup [aSt (m.mach.F x (t + 1)).1 (rgL m.R (m.mach.F x (t + 1)).2), aN 0]) := by
 refine AC Tryz.func39 rfl Tryz.ntmps39 rfl rfl ?_;have hR := CZ hm;have hr1 := hm.r1;have hr4 := hm.r4
 have hbd : ∀ j, (m.mach.F x t).2 j ≤ 1001000 := fun j => by
  have := m.mach.F_le (x := x) j t;have := hx j;omega
 have hf := rgFits_ok m hm _ (rgL m.R (m.mach.F x t).2) hc (BL _ _) fun v hv => by
  have := rgL_all hbd v hv;omega
 have hb := rnBegin_ok m (m.mach.F x t).1 (rgL m.R (m.mach.F x t).2) (by rw [BL]; omega) fun h => by
  have := congrArg List.length h;rw [BL] at this;simp at this;omega
 have hov := rnOverC_ok m hm (m.mach.F x t) hc;rw [decide_eq_false ho] at hov
 have hst := rnStepF_ok m hm x t hc ho fun j => by have := hbd j; omega
 (repeat' (first |refine qv ?_ |apply qn |apply qs |apply qr |refine qe ?_|fail));refine qc (hf) ?_;(repeat' (first |refine qv ?_ |apply qn |apply qs |apply qr |refine AF rfl ?_ |apply qk));refine Ay rfl [(900, 14), (901, 901)] hb rfl rfl (AB _) rfl trivial rfl rfl rfl rfl rfl ?_;(repeat' (first |refine qv ?_ |apply qn |apply qs |apply qr));refine Ay rfl [(900, 14), (901, 901)] hov rfl rfl (AB _) rfl ⟨⟨⟨_, rfl, BLe.cells (AB _)⟩, rfl⟩, ⟨⟨_, rfl, BLe.row rfl⟩, rfl⟩, trivial⟩ rfl rfl rfl rfl rfl ?_;(repeat' (first |refine qv ?_ |apply qn |apply qs |apply qr |refine AF rfl ?_ |apply qk));refine Ay rfl [(900, 14), (901, 901)] hst rfl rfl (AB _) rfl ⟨⟨⟨_, rfl, BLe.cells (AB _)⟩, rfl⟩, ⟨⟨_, rfl, BLe.row rfl⟩, rfl⟩, trivial⟩ rfl rfl rfl rfl rfl ?_;(repeat' (first |refine qv ?_ |apply qn |apply qs |apply qr |refine qe ?_ |refine AF rfl ?_ |apply qk |apply qt));refine Ap (Ent.freeze 901 rfl) ?_;exact RetOk.of rfl (AA _)
end Go.Proofs.YtmmfloplhopioaaGreat

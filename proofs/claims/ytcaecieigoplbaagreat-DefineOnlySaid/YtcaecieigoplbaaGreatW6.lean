/- Part 6 of a proof layer and of the contracts of the functions (XRO XV3 XL0 XL1 XL2 XL3 XL4 XYF XYG XYH XYI XYK XYJ XYL XT0 XZ0 XZ1 XT5 XT6 XT7 XT8 XT9 XU4 XU5 XTB XTA XTE XTF XU6). -/
import Derived.Test.YtcaecieigoplbaaGreatW5
set_option linter.unusedVariables false
set_option linter.unusedSimpArgs false
/- mask.Witness. -/
namespace Go.AL
section
variable {P : Program} {tab : Tab} {n : Nat} {s : St}
variable {ops : Array Oper} {draw : Dr} {o : Oper} {l : List Oper} {acc : List Eff} {K : Exit → St → Prop}
theorem Fl.rldK [f : Facts P tab] {t : TypeId} {x : Operand} (hop : o.op = .load t x) {b : Id} {off : Nat} (hx : opd s x = .rptr b off) {α : Type} {sz : Nat} {enc : α → List AV} {xs : List α} {bt : TypeId} (hb : s.bx b = some (.row sz enc xs bt)) {i : TI} (hti : tab t = some i) (hg : gOk ops s o = true) (hd : dOk n o.dst = true)
  {j : Nat} (hj : off = j * sz) {v : α → AV} (hv : ∀ x0, ofCells (aggD i.desc) i.size (enc x0) = some (v x0)) (hvc : ∀ x0, (v x0).closed = true) {x0 : α} (he : xs[j]? = some x0)
  (r : Fl P n ops draw l ((Eff.mk (v x0) [] [] [] [b]).app o.dst s) (Eff.mk (v x0) [] [] [] [b] :: acc) K) : Fl P n ops draw (o :: l) s acc K :=
 Fl.opv hg (OpJ.rload f.tabOk (dOk_lt hd) hop hx hb hti hj he (hv _) (hvc _)) r
theorem Fl.relK [f : Facts P tab] {t : TypeId} {x y : Operand} (hop : o.op = .indexAddr t x y) {b : Id} (hx : opd s x = .row b) {k : IntKind} {m : Int} (hy : opd s y = .v (.int k m)) {e : TypeId} {i : TI} {sz' by' : Nat} {z : List Value} (hts : tab t = some ⟨.slice e, sz', by', z⟩) (hti : tab e = some i) {α : Type} {sz : Nat} {enc : α → List AV} {xs : List α} {bt : TypeId} (hb : s.bx b = some (.row sz enc xs bt)) (hg : gOk ops s o = true) (hd : dOk n o.dst = true)
  (hm : (decide (0 ≤ m) && Nat.blt m.toNat xs.length) = true)
  (r : Fl P n ops draw l ((Eff.mk (.rptr b (m.toNat * i.size)) [] [] [] [b]).app o.dst s) (Eff.mk (.rptr b (m.toNat * i.size)) [] [] [] [b] :: acc) K) : Fl P n ops draw (o :: l) s acc K := by
 simp only [Bool.and_eq_true, decide_eq_true_eq] at hm;have := ltOf hm.2;exact Fl.rel hop hx hy hts hti hb hg hd hm.1 (by omega) r
theorem Fl.rstK [f : Facts P tab] {t : TypeId} {x y : Operand} (hop : o.op = .store t x y) {b : Id} {off : Nat} (hx : opd s x = .rptr b off) (hg : gOk ops s o = true) (hdst : o.dst = none) {α : Type} {sz : Nat} {enc : α → List AV} {xs : List α} {bt : TypeId} (hb : s.bx b = some (.row sz enc xs bt)) {i : TI} (hti : tab t = some i)
  {vs : List AV} (hv : cellsL (opd s y) = some vs) (hvc : closedL vs = true) (hsz : Nat.beq vs.length i.size = true) (hsz2 : Nat.beq i.size sz = true) {j : Nat} (hj : off = j * sz) {x1 : α} (hle : LeL vs (enc x1)) (hel : Nat.beq (enc x1).length sz = true) (hjl : Nat.blt j xs.length = true)
  (r : Fl P n ops draw l ((Eff.mk .any [(b, .row sz enc (xs.set j x1) bt)] [] [] [b]).app o.dst s) (Eff.mk .any [(b, .row sz enc (xs.set j x1) bt)] [] [] [b] :: acc) K) (hJ : presOk draw.J (Eff.mk .any [(b, .row sz enc (xs.set j x1) bt)] [] [] [b]) := by repeat' (first | exact True.intro | exact rfl | refine ⟨?_, ?_⟩ | fail)) : Fl P n ops draw (o :: l) s acc K :=
 Fl.rst hop hx hg hdst hb hti hv hvc hsz hsz2 hj hle hel (ltOf hjl) r hJ
end
structure MW where
  u : Int
  p : Int
  q : Int
  z : Int
  y : Int
  r : Int
  s : Int
  t : Int
def MW.X (w : MW) (a b : Int) : List Int := [a, b, w.u, w.p, w.q, w.z, w.y, w.r, w.s, w.t]
theorem fit_pow2 {x : Int} {m : Nat} (h0 : 0 ≤ x) (h : x ≤ 2 ^ m) (hm : m < 131072) : Fit x := by
 refine Fit.mk ?_;rw [BB_pow, show 32 * 4096 = 131072 from rfl];have h4 : (2 : Int) ^ m < 2 ^ (131072 : Nat) := Int.pow_lt_pow_of_lt (by omega) hm;omega
end Go.AL
namespace Go.Proofs.YtcaecieigoplbaaGreat
open Go.AL
theorem chainOk {o : Option Int} {f : FuncId} {args : List AV} {x : Int} (hf : Fit x) (h : IoFn Tryz.prog f args [(900, chB o 0)] (.ret (aX (cV 0 x))) [(900, chB o (cE 0 x))]) : IoFn Tryz.prog f args [(900, chB o 0)] (.ret (aX x)) [(900, chB o 0)] := by
 rw [cV_ok hf, cE_ok hf] at h;exact h

end Go.Proofs.YtcaecieigoplbaaGreat
/- power.Witness, where all its numbers fit. -/
namespace Go.AL
structure PW where
  c : Int
  A : Int
  Y : Int
  X : Int
  M : Int
  z : Int
  y : Int
def pw (b e : Int) : PW :=
  let c := b ^ e.toNat
  let A := psiN (b + 2) (e.toNat + 2)
  let Y := psiN A (e.toNat + 1)
  let X := chiN A (e.toNat + 1)
  let M := A * b + ((A - b) * b - 1)
  ⟨c, A, Y, X, M, (X - (A - b) * Y - c * b) / M, M - c * b - 1⟩
def PW.L (w : PW) (b e : Int) : List Int := [b, e, w.c, w.A, w.Y, w.X, w.M, w.z, w.y, b - 1]
theorem mul2_fit {x y : Int} (h1 : Fit x) (h2 : Fit (x * y)) : mulL 0 1 [x, y] = (x * y, 0) := by
 simp only [mulL, Int.one_mul, cV_ok h1, cE_ok h1, cV_ok h2, cE_ok h2]
end Go.AL
namespace Go.Proofs.YtcaecieigoplbaaGreat
open Go.AL
theorem chMul2 (x y : Int) (h1 : Fit x) (hy : Fit y) (h2 : Fit (x * y)) : IoFn Tryz.prog 101 [.ptr 900 0, .sl 2 eX [x, y]] [(900, chB none 0)] (.ret (aX (x * y))) [(900, chB none 0)] := by
 have h := chMul_ok none 0 [x, y] (by simp [h1, hy]) (by simp);rw [mul2_fit h1 h2] at h;exact h
end Go.Proofs.YtcaecieigoplbaaGreat
namespace Go.AL
end Go.AL
namespace Go.Proofs.YtcaecieigoplbaaGreat
open Go.AL

theorem rCmp_ok (x y : Int) (hx : lenI x ≤ 100000) (hy : lenI y ≤ 100000) : PureFn Tryz.prog 33 [aX x, aX y] (aN (cmpI x y)) := by
 refine PureFn.of_body Tryz.func33 rfl Tryz.ntmps33 rfl rfl ?_;have h1 := rorder_ok x.natAbs y.natAbs (by omega) (by omega) hx hy;have h2 := rorder_ok y.natAbs x.natAbs (by omega) (by omega) hy hx;have c := cmpI_cases x y;by_cases hx0 : x < 0
 ·by_cases hy0 : y < 0
  ·have c2 := cmpI_cases (y.natAbs : Int) (x.natAbs : Int);(repeat' (first |refine qv ?_ |apply qn |apply qs |apply qr |refine qe ?_ |refine Fl.skip rfl rfl ?_ |refine AWP.condF rfl ?_ |(refine AWP.condD rfl ?_ ?_ <;> intro _ <;> try (exfalso; omega)) |(refine AWP.condN rfl ?_ ?_ <;> intro _ <;> try (exfalso; omega)) |apply qb |(refine Fl.splitD rfl rfl ?_ ?_ <;> intro _ <;> try (exfalso; omega)) |(refine Fl.splitN rfl rfl ?_ ?_ <;> intro _ <;> try (exfalso; omega))));refine qc (h2) ?_;(repeat' (first |refine qv ?_ |apply qn |apply qt));exact RetOk.of rfl (AV.Le.int (by omega))
  ·(repeat' (first |refine qv ?_ |apply qn |apply qs |apply qr |refine qe ?_ |(refine AWP.condN rfl ?_ ?_ <;> intro _ <;> try (exfalso; omega)) |apply qb |apply qt |(refine Fl.splitD rfl rfl ?_ ?_ <;> intro _ <;> try (exfalso; omega))));exact RetOk.of rfl (AV.Le.int (by omega))
 ·by_cases hy0 : y < 0
  ·(repeat' (first |refine qv ?_ |apply qn |apply qs |apply qr |refine qe ?_ |refine Fl.skip rfl rfl ?_ |refine AWP.condF rfl ?_ |(refine AWP.condD rfl ?_ ?_ <;> intro _ <;> try (exfalso; omega)) |apply qb |apply qt |(refine Fl.splitD rfl rfl ?_ ?_ <;> intro _ <;> try (exfalso; omega)) |(refine Fl.splitN rfl rfl ?_ ?_ <;> intro _ <;> try (exfalso; omega))));exact RetOk.of rfl (AV.Le.int (by omega))
  ·have c2 := cmpI_cases (x.natAbs : Int) (y.natAbs : Int);(repeat' (first |refine qv ?_ |apply qn |apply qs |apply qr |refine qe ?_ |refine Fl.skip rfl rfl ?_ |refine AWP.condF rfl ?_ |(refine AWP.condD rfl ?_ ?_ <;> intro _ <;> try (exfalso; omega)) |apply qb |apply qk |(refine Fl.splitD rfl rfl ?_ ?_ <;> intro _ <;> try (exfalso; omega)) |(refine Fl.splitN rfl rfl ?_ ?_ <;> intro _ <;> try (exfalso; omega))));refine qc (h1) ?_;(repeat' (first |refine qv ?_ |apply qn |apply qt));exact RetOk.of rfl (AV.Le.int (by omega))
theorem rNeg_ok (x : Int) (hx : lenI x ≤ 100000) : PureFn Tryz.prog 106 [aX x] (aX (-x)) := by
 refine PureFn.of_body Tryz.func106 rfl Tryz.ntmps106 rfl rfl ?_;have hv : val (toW x.natAbs) = (x.natAbs : Int) := val_toW (by omega)
 have hsg : sg (!decide (x < 0)) (val (toW x.natAbs)) = -x := by
  rw [hv];by_cases h : x < 0
  ·simp [sg, h]; omega
  ·simp [sg, h]; omega
 have hm := rMake_ok (!decide (x < 0)) (toW x.natAbs) (toW_ok _) hx;rw [hsg] at hm;(repeat' (first |refine qv ?_ |apply qn |apply qs |apply qr |refine qe ?_|fail));refine qc (hm) ?_;(repeat' (first |apply qn |refine qe ?_ |apply qt));exact RetOk.of rfl (AV.Le.refl _)
theorem rSub_ok (x y : Int) (hx : lenI x ≤ 40000) (hy : lenI y ≤ 40000) : PureFn Tryz.prog 61 [aX x, aX y] (aX (x - y)) := by
 refine PureFn.of_body Tryz.func61 rfl Tryz.ntmps61 rfl rfl ?_;have ha := rAdd_ok x (-y) hx (by rw [Int.natAbs_neg]; exact hy);rw [← Int.sub_eq_add_neg] at ha;(repeat' (first |refine qv ?_ |apply qn |apply qs |apply qr |refine qe ?_|fail));refine qc (rNeg_ok y (by omega)) ?_;skip;refine qc (ha) ?_;(repeat' (first |refine Fl.nil (fun _ => by kernel_rfl) ?_ |refine qe ?_ |apply qt));exact RetOk.of rfl (AV.Le.refl _)
end Go.Proofs.YtcaecieigoplbaaGreat
namespace Go.AL
def smallV (x : Int) : Int := if 18446744073709551616 ≤ x.natAbs then 0 else if 0 ≤ x then x % 9223372036854775808 else if x < -9223372036854775808 then 0 else x
theorem smallV_eq {x : Int} (h : I64 x) : smallV x = x := by
 unfold I64 at h;unfold smallV;rw [if_neg (by omega)];split
 ·omega
 ·rw [if_neg (by omega)]
theorem big_of_len {x : Int} (h : 2 < (toW x.natAbs).length) : 18446744073709551616 ≤ x.natAbs := by
 have h1 := BB_len_le (z := x.natAbs) (by
  rcases Nat.eq_zero_or_pos x.natAbs with h0 | h0
  ·rw [h0, show ((0 : Nat) : Int) = 0 from rfl, toW_zero] at h; simp at h
  ·omega)
 have h2 := BB_le (show 2 ≤ (toW x.natAbs).length - 1 by omega);rw [BB_2] at h2;omega
theorem bitN_and63 {a : Int} (h : 0 ≤ a) : bitN .and a 9223372036854775807 = a % 9223372036854775808 := by
 show ((a.toNat &&& 9223372036854775807 : Nat) : Int) = _;have : a.toNat &&& 9223372036854775807 = a.toNat % 2 ^ 63 := Nat.and_two_pow_sub_one_eq_mod a.toNat 63;rw [this];omega
end Go.AL
namespace Go.Proofs.YtcaecieigoplbaaGreat
open Go.AL

theorem rSmall_ok (x : Int) : PureFn Tryz.prog 26 [aX x] (.tup [aN (smallV x), aB (decide (I64 x))]) := by
 refine PureFn.of_body Tryz.func26 rfl Tryz.ntmps26 rfl rfl ?_;have wx := toW_ok x.natAbs;have vx := val_toW (show (0 : Int) ≤ x.natAbs by omega);(repeat' (first |refine qv ?_ |apply qn |apply qs |apply qr |refine qe ?_ |apply qb));refine AWP.loop (G := Nat × Int) (fun (i, m) => i ≤ (toW x.natAbs).length ∧ i ≤ 2 ∧ m = val ((toW x.natAbs).take i) ∧ 0 ≤ m ∧ m < BB i ∧ m ≤ 18446744073709551615)
   (fun (i, m) => St.of [] [(1, .ptr 1 0), (4, .v (.int .u64 m)), (5, aN i)] [(1, .cells (eX x) 35)])
   (fun (i, m) => (toW x.natAbs).length - i) (0, 0) ⟨by omega, by omega, by simp [val], by omega, by rw [BB_zero]; omega, by omega⟩ ?_ ?_
 ·refine Ent.of [] ?_ ?_ rfl rfl;(repeat' (first |exact True.intro |refine ⟨⟨AV.Le.refl _, rfl⟩, ?_⟩ |refine ⟨⟨⟨_, rfl, BLe.cells (LeL.refl _)⟩, rfl⟩, ?_⟩|fail))
 ·intro (i, m) ⟨k0, k5, k1, k2, k3, k4⟩;by_cases hi : i < (toW x.natAbs).length
  ·by_cases hi2 : i < 2
   ·obtain ⟨u, hu⟩ : ∃ u, (toW x.natAbs)[i]? = some u := ⟨_, List.getElem?_eq_getElem hi⟩;have hub := wx u (List.mem_of_getElem? hu);have hb : BB (i + 1) ≤ BB 2 := BB_le (by omega);rw [BB_2] at hb
    have hlt : m + BB i * u < BB (i + 1) := by
     rw [BB_succ];have h5 := BB_pos i;have h6 : BB i * u ≤ BB i * 4294967295 := Int.mul_le_mul_of_nonneg_left (by omega) (by omega);omega
    have h0 : 0 ≤ BB i * u := Int.mul_nonneg (Int.le_of_lt (BB_pos i)) hub.1
    have hsh : u * 2 ^ (32 * (i : Int)).toNat % 18446744073709551616 = BB i * u := by
     rcases (show i = 0 ∨ i = 1 by omega) with rfl | rfl
     ·rw [BB_zero, show (32 * ((0 : Nat) : Int)).toNat = 0 from rfl]; omega
     ·rw [show BB 1 = 4294967296 by rw [BB_succ, BB_zero]; rfl, show (32 * ((1 : Nat) : Int)).toNat = 32 from rfl]; omega
    (repeat' (first |refine qv ?_ |apply qn |apply qs |apply qr |refine qw ?_ |(refine AWP.condD rfl ?_ ?_ <;> intro _ <;> try (exfalso; omega)) |apply qb |apply qk |refine qK ?_|fail));refine LoopEnd.of (i + 1, m + BB i * u) ⟨by omega, by omega, by rw [k1, val_take_succ hu], by omega, hlt, by omega⟩ (show (toW x.natAbs).length - (i + 1) < (toW x.natAbs).length - i by omega) ?_;refine Ent.of [] ?_ ?_ rfl rfl;(repeat' (first |exact True.intro |refine ⟨⟨AV.Le.refl _, rfl⟩, ?_⟩ |refine ⟨⟨⟨_, rfl, BLe.cells (LeL.refl _)⟩, rfl⟩, ?_⟩ |refine ⟨⟨AV.Le.int ?_, rfl⟩, ?_⟩|fail));rw [hsh]
   ·have hbig := big_of_len (x := x) (by omega);(repeat' (first |refine qv ?_ |apply qn |apply qs |apply qr |(refine AWP.condD rfl ?_ ?_ <;> intro _ <;> try (exfalso; omega)) |apply qb |apply qk |apply qt));refine RetOk.of rfl (AV.Le.tup (LeL.cons (AV.Le.int ?_) (LeL.cons (AV.Le.bool ?_) LeL.nil)))
    ·unfold smallV; rw [if_pos hbig]
    ·exact (decide_eq_false (by unfold I64; omega)).symm
  ·have hm : m = x.natAbs := by rw [k1, show i = (toW x.natAbs).length by omega, List.take_length, vx]
   by_cases hx0 : x < 0
   ·by_cases hxb : 9223372036854775808 < m
    ·(repeat' (first |refine qv ?_ |apply qn |apply qs |apply qr |(refine AWP.condD rfl ?_ ?_ <;> intro _ <;> try (exfalso; omega)) |(refine AWP.condN rfl ?_ ?_ <;> intro _ <;> try (exfalso; omega)) |apply qk |apply qx |apply qt));refine RetOk.of rfl (AV.Le.tup (LeL.cons (AV.Le.int ?_) (LeL.cons (AV.Le.bool ?_) LeL.nil)))
     ·unfold smallV; rw [if_neg (by omega), if_neg (by omega), if_pos (by omega)]
     ·exact (decide_eq_false (by unfold I64; omega)).symm
    ·(repeat' (first |refine qv ?_ |apply qn |apply qs |apply qr |refine qw ?_ |(refine AWP.condD rfl ?_ ?_ <;> intro _ <;> try (exfalso; omega)) |(refine AWP.condN rfl ?_ ?_ <;> intro _ <;> try (exfalso; omega)) |apply qk |apply qx |apply qt |refine Fl.cvS rfl rfl rfl rfl rfl rfl ?_));refine RetOk.of rfl (AV.Le.tup (LeL.cons (AV.Le.int ?_) (LeL.cons (AV.Le.bool ?_) LeL.nil)))
     ·rw [smallV_eq (by unfold I64; omega)]; omega
     ·exact (decide_eq_true (by unfold I64; omega)).symm
   ·(repeat' (first |refine qv ?_ |apply qn |apply qs |apply qr |refine qw ?_ |(refine AWP.condD rfl ?_ ?_ <;> intro _ <;> try (exfalso; omega)) |(refine AWP.condN rfl ?_ ?_ <;> intro _ <;> try (exfalso; omega)) |apply qx |apply qt |refine Fl.cvS rfl rfl rfl rfl rfl rfl ?_));refine RetOk.of rfl (AV.Le.tup (LeL.cons (AV.Le.int ?_) (LeL.cons (AV.Le.bool ?_) LeL.nil)))
    ·rw [bitN_and63 k2]; unfold smallV; rw [if_neg (by omega), if_pos (by omega)]; omega
    ·rw [decide_eq_decide]; unfold I64; omega
theorem rfew_ok (x : Int) : PureFn Tryz.prog 104 [aX x] (.tup [aN (smallV x), aB (decide (0 ≤ x ∧ x ≤ 163840))]) := by
 refine PureFn.of_body Tryz.func104 rfl Tryz.ntmps104 rfl rfl ?_;have hs := rSmall_ok x;by_cases h : I64 x
 ·rw [decide_eq_true h, smallV_eq h] at hs;rw [smallV_eq h];by_cases h1 : 0 ≤ x ∧ x ≤ 163840
  ·rw [decide_eq_true h1];(repeat' (first |refine qv ?_ |apply qn |apply qs |apply qr |refine qe ?_|fail));refine qc (hs) ?_;(repeat' (first |refine qv ?_ |apply qn |apply qs |apply qr |apply qt |(refine Fl.splitD rfl rfl ?_ ?_ <;> intro _ <;> try (exfalso; omega))));exact RetOk.of rfl (AV.Le.tup (LeL.cons (AV.Le.refl _) (LeL.cons (AV.Le.bool (decide_eq_true (by omega))) LeL.nil)))
  ·rw [decide_eq_false h1];(repeat' (first |refine qv ?_ |apply qn |apply qs |apply qr |refine qe ?_|fail));refine qc (hs) ?_;(repeat' (first |refine qv ?_ |apply qn |apply qs |apply qr |refine Fl.skip rfl rfl ?_ |apply qt |(refine Fl.splitD rfl rfl ?_ ?_ <;> intro _ <;> try (exfalso; omega))))
   all_goals exact RetOk.of rfl (AV.Le.tup (LeL.cons (AV.Le.refl _) (LeL.cons (AV.Le.bool (by first | rfl | exact decide_eq_false (by omega))) LeL.nil)))
 ·rw [decide_eq_false h] at hs;rw [decide_eq_false (show ¬ (0 ≤ x ∧ x ≤ 163840) by unfold I64 at h; omega)];(repeat' (first |refine qv ?_ |apply qn |apply qs |apply qr |refine qe ?_|fail));refine qc (hs) ?_;(repeat' (first |refine qv ?_ |apply qn |apply qs |apply qr |refine Fl.skip rfl rfl ?_ |apply qt));exact RetOk.of rfl (AV.Le.refl _)
end Go.Proofs.YtcaecieigoplbaaGreat
namespace Go.AL
def bitl (n : Nat) : Nat := if n = 0 then 0 else Nat.log2 n + 1
theorem bitl_eq {n k : Nat} (h1 : 2 ^ k ≤ n) (h2 : n < 2 ^ (k + 1)) : bitl n = k + 1 := by
 have := Nat.two_pow_pos k;rw [bitl, if_neg (by omega), (Nat.log2_eq_iff (by omega)).2 ⟨h1, h2⟩]
theorem bitl_lt (n : Nat) : n < 2 ^ bitl n := by
 unfold bitl;split
 ·omega
 ·exact Nat.lt_log2_self
theorem bitl_ge {n : Nat} (h : n ≠ 0) : 1 ≤ bitl n ∧ 2 ^ (bitl n - 1) ≤ n := by
 unfold bitl;rw [if_neg h];exact ⟨by omega, Nat.log2_self_le h⟩
theorem bitl_le {n k : Nat} (h : n < 2 ^ k) : bitl n ≤ k := by
 rcases Nat.eq_zero_or_pos n with h0 | h0
 ·rw [bitl, if_pos h0]; omega
 ·have h1 := bitl_ge (n := n) (by omega)
  have h2 : 2 ^ (bitl n - 1) < 2 ^ k := by omega
  have := (Nat.pow_lt_pow_iff_right (by omega : 1 < 2)).1 h2;omega
theorem bitl_words {m n k : Nat} {u lo : Int} (hk : 1 ≤ k) (hlo : 0 ≤ lo) (hlo2 : lo < BB n) (hm : (m : Int) = lo + BB n * u) (h1 : 2 ^ (k - 1) ≤ u.toNat) (h2 : u.toNat < 2 ^ k) : bitl m = 32 * n + k := by
 have hB : BB n = ((2 ^ (32 * n) : Nat) : Int) := by rw [BB_pow]; simp
 have hup : u = (u.toNat : Int) := by
  have := Nat.two_pow_pos (k - 1);omega
 have hlt : ∃ l : Nat, lo = (l : Int) := ⟨lo.toNat, by omega⟩;obtain ⟨l, rfl⟩ := hlt
 have hm' : m = l + 2 ^ (32 * n) * u.toNat := by
  rw [hB, hup] at hm;exact_mod_cast hm
 have hl : l < 2 ^ (32 * n) := by rw [hB] at hlo2; exact_mod_cast hlo2
 have e : 32 * n + k = (32 * n + (k - 1)) + 1 := by omega
 rw [e];refine bitl_eq ?_ ?_
 ·rw [Nat.pow_add, hm'];have := Nat.mul_le_mul_left (2 ^ (32 * n)) h1;omega
 ·rw [← e, Nat.pow_add, hm'];have h3 : u.toNat + 1 ≤ 2 ^ k := h2;have := Nat.mul_le_mul_left (2 ^ (32 * n)) h3;rw [Nat.mul_add] at this;omega
end Go.AL
namespace Go.Proofs.YtcaecieigoplbaaGreat
open Go.AL

end Go.Proofs.YtcaecieigoplbaaGreat
namespace Go.AL
theorem bitl_BB {m n : Nat} (h : (m : Int) < BB n) : bitl m ≤ 32 * n := bitl_le (by
 rw [BB_pow] at h
 exact_mod_cast h)
end Go.AL
namespace Go.Proofs.YtcaecieigoplbaaGreat
open Go.AL

end Go.Proofs.YtcaecieigoplbaaGreat
namespace Go.AL
theorem psi_one (a : Int) : psiN a 1 = 1 := by rw [psi_succ, psi_zero, Int.mul_zero]; rfl
theorem psi_rec (a : Int) (n : Nat) : (a + a) * psiN a (n + 1) - psiN a n = psiN a (n + 2) := by
 have h1 := psi_succ a (n + 1);have h2 := chi_succ a n;have h3 := psi_succ a n;rw [show n + 1 + 1 = n + 2 from rfl] at h1;grind
theorem psi_two (a : Int) : psiN a 2 = a + a := by
 have := psi_rec a 0;simp only [Nat.zero_add, psi_one, psi_zero] at this;omega
theorem psi_up {a : Int} (ha : 2 ≤ a) (n : Nat) : psiN a (n + 1) ≤ (a + a) * psiN a n ∨ n = 0 := by
 cases n with
 | zero => exact .inr rfl
 | succ n =>
  left;have h1 := psi_rec a n;have h2 := (cp_pos ha n).2.1;rw [show n + 1 + 1 = n + 2 from rfl];omega
theorem psi_bound {a : Int} (ha : 2 ≤ a) (hf : Fit a) {n k : Nat} (hn : n ≠ 0) (h : psiN a n < BB k) : psiN a (n + 1) < BB (4097 + k) := by
 have h1 := (psi_up ha n).resolve_right hn
 have h2 : a + a < BB 4097 := by
  have := hf;unfold Fit at this;rw [BB_succ];have := BB_pos 4096;omega
 have h3 := (cp_pos ha n).2.1;have h4 := BB_pos k;rw [BB_add];have g1 : (a + a) * psiN a n ≤ (a + a) * BB k := Int.mul_le_mul_of_nonneg_left (by omega) (by omega);have g2 : (a + a) * BB k < BB 4097 * BB k := Int.mul_lt_mul_of_pos_right h2 h4;omega
theorem twice_lt {x : Int} {k : Nat} (hx : Fit x) (hk : 4097 ≤ k) : x + x < BB k := by
 have h1 := hx;unfold Fit at h1;have h2 := BB_le hk;rw [BB_succ] at h2;have := BB_pos 4096;omega
end Go.AL
namespace Go.Proofs.YtcaecieigoplbaaGreat
open Go.AL

set_option maxHeartbeats 1000000 in
theorem rIsPsi_ok (x y z : Int) (hx : Fit x) (hy : Fit y) (hz : Fit z) (b : Bool) (hb : b = true ↔ 2 ≤ x ∧ 1 ≤ y ∧ psiN x y.toNat = z) : PureFn Tryz.prog 59 [aX x, aX y, aX z] (aB b) := by
 refine PureFn.of_body Tryz.func59 rfl Tryz.ntmps59 rfl rfl ?_
 have hfalse : ¬ (2 ≤ x ∧ 1 ≤ y ∧ psiN x y.toNat = z) → false = b := fun h => by cases b with | false => rfl | true => exact absurd (hb.1 rfl) h
 have lx : lenI x ≤ 4096 := hx.len;have lz : lenI z ≤ 4096 := hz.len;have l2 : lenI 2 ≤ 4096 := fit_two.len;have hfew := rfew_ok y;have hcmp := rCmp_ok x 2 (by omega) (by omega);have c2 := cmpI_cases x 2;by_cases hfe : 0 ≤ y ∧ y ≤ 163840
 ·rw [decide_eq_true hfe, smallV_eq (by unfold I64; omega)] at hfew;by_cases h1 : 2 ≤ x ∧ 1 ≤ y
  ·(repeat' (first |refine qv ?_ |apply qn |apply qs |apply qr |refine qe ?_|fail));refine qc (hfew) ?_;(repeat' (first |refine qv ?_ |apply qn |apply qs |apply qr));refine qc (rOf_ok 2 (by omega) (by omega)) ?_;skip;refine qc (hcmp) ?_;(repeat' (first |refine qv ?_ |refine Fl.nil (fun _ => by kernel_rfl) ?_ |apply qs |apply qr |(refine AWP.condD rfl ?_ ?_ <;> intro _ <;> try (exfalso; omega)) |apply qk |(refine Fl.splitD rfl rfl ?_ ?_ <;> intro _ <;> try (exfalso; omega))));refine qc (rOf_ok 1 (by omega) (by omega)) ?_;(repeat' (first |refine qv ?_|fail));refine qc (rAdd_ok x x (show lenI x ≤ 40000 by omega) (show lenI x ≤ 40000 by omega)) ?_;(repeat' (first |refine qv ?_ |apply qn |refine Fl.nil (fun _ => by kernel_rfl) ?_ |apply qs |apply qr |refine qe ?_ |apply qb));refine AWP.loop (G := Nat) (fun i => (1 ≤ i ∧ (i : Int) ≤ y) ∧ psiN x i < BB 8193 ∧ psiN x (i + 1) < BB 12290)
    (fun i => St.of [] [(3, .ptr 3 0), (5, .ptr 5 0), (7, aN y), (9, .ptr 9 0), (10, .ptr 10 0), (11, aN i)] [(3, .cells (eX x) 35), (5, .cells (eX z) 35), (9, .cells (eX (psiN x i)) 35), (10, .cells (eX (psiN x (i + 1))) 35)])
    (fun i => y.toNat - i) 1 ⟨⟨by omega, by omega⟩, ?_, ?_⟩ ?_ ?_
   ·rw [psi_one];have := BB_le (show 1 ≤ 8193 by omega);rw [BB_succ 0, BB_zero] at this;omega
   ·rw [psi_two];exact twice_lt hx (by omega)
   ·refine Ent.of [] ?_ ?_ rfl rfl;(repeat' (first |exact True.intro |refine ⟨⟨AV.Le.refl _, rfl⟩, ?_⟩ |refine ⟨⟨⟨_, rfl, BLe.cells (LeL.refl _)⟩, rfl⟩, ?_⟩ |refine ⟨⟨⟨_, rfl, BLe.cells ?_⟩, rfl⟩, ?_⟩|fail))
    ·exact leX (psi_one x).symm
    ·exact leX (psi_two x).symm
   ·intro i ⟨⟨k0, k1⟩, k2, k3⟩;have p0 := (cp_pos h1.1 i).2.1;have p1 := (cp_pos h1.1 (i + 1)).2.1;have li : lenI (psiN x i) ≤ 8193 := lenI_le.2 (by omega);have li1 : lenI (psiN x (i + 1)) ≤ 12290 := lenI_le.2 (by omega);have hcm := rCmp_ok (psiN x i) z (by omega) (by omega);have c := cmpI_cases (psiN x i) z;have hsame := rSame_ok (psiN x i) z (show lenI (psiN x i) ≤ 1000000 by omega);by_cases hin : (i : Int) < y
    ·by_cases hle : psiN x i ≤ z
     ·have lxx : lenI (x + x) ≤ 4097 := lenI_le.2 (by have := twice_lt hx (Nat.le_refl 4097); omega);have hm := rMul_ok (x + x) (psiN x (i + 1)) (show lenI (x + x) ≤ 40000 by omega) (show lenI (psiN x (i + 1)) ≤ 40000 by omega)
      have b1 : psiN x (i + 1) < BB 8193 := psi_bound h1.1 hx (k := 4096) (by omega) (by
       have := hz;unfold Fit at this
       omega)
      have b2 : psiN x (i + 2) < BB 12290 := psi_bound h1.1 hx (k := 8193) (n := i + 1) (by omega) b1
      have lm : lenI ((x + x) * psiN x (i + 1)) ≤ 40000 := by
       have := lenI_mul (x + x) (psiN x (i + 1));omega
      have hs := rSub_ok ((x + x) * psiN x (i + 1)) (psiN x i) lm (by omega);rw [psi_rec] at hs;(repeat' (first |refine qv ?_ |apply qs |apply qr |(refine Fl.splitD rfl rfl ?_ ?_ <;> intro _ <;> try (exfalso; omega))));refine qc (hcm) ?_;(repeat' (first |refine qv ?_ |apply qn |apply qs |apply qr |(refine AWP.condD rfl ?_ ?_ <;> intro _ <;> try (exfalso; omega)) |apply qb |apply qk));refine qc (rAdd_ok x x (show lenI x ≤ 40000 by omega) (show lenI x ≤ 40000 by omega)) ?_;(repeat' (first |refine qv ?_|fail));refine qc (hm) ?_;(repeat' (first |refine qv ?_|fail));refine qc (hs) ?_;(repeat' (first |refine qv ?_ |apply qn |refine Fl.nil (fun _ => by kernel_rfl) ?_ |apply qr |refine qw ?_ |refine qe ?_|fail));refine LoopEnd.of (i + 1) ⟨⟨by omega, by omega⟩, b1, b2⟩ (by omega) ?_;refine Ent.of [] ?_ ?_ rfl rfl;(repeat' (first |exact True.intro |refine ⟨⟨AV.Le.refl _, rfl⟩, ?_⟩ |refine ⟨⟨⟨_, rfl, BLe.cells (LeL.refl _)⟩, rfl⟩, ?_⟩|fail))
     ·(repeat' (first |refine qv ?_ |apply qs |apply qr |(refine Fl.splitD rfl rfl ?_ ?_ <;> intro _ <;> try (exfalso; omega))));refine qc (hcm) ?_;(repeat' (first |refine qv ?_ |apply qn |apply qs |apply qr |(refine AWP.condD rfl ?_ ?_ <;> intro _ <;> try (exfalso; omega)) |apply qx));refine qc (hsame) ?_;(repeat' (first |refine qv ?_ |apply qn |apply qt));refine RetOk.of rfl (AV.Le.bool ?_);rw [decide_eq_false (by omega)];refine hfalse fun k => ?_;have := psi_mono h1.1 (show i ≤ y.toNat by omega);omega
    ·have hiy : y.toNat = i := by omega
     (repeat' (first |refine qv ?_ |apply qn |apply qs |apply qr |refine Fl.skip rfl rfl ?_ |refine AWP.condF rfl ?_ |apply qx |(refine Fl.splitD rfl rfl ?_ ?_ <;> intro _ <;> try (exfalso; omega))));refine qc (hsame) ?_;(repeat' (first |refine qv ?_ |apply qn |apply qt));refine RetOk.of rfl (AV.Le.bool ?_);rw [hiy] at hb
     cases b with
     | false => exact decide_eq_false fun k => by have := hb.2 ⟨h1.1, h1.2, k⟩; cases this
     | true => exact decide_eq_true (hb.1 rfl).2.2
  ·have hbad := hfalse fun k => h1 ⟨k.1, k.2.1⟩;(repeat' (first |refine qv ?_ |apply qn |apply qs |apply qr |refine qe ?_|fail));refine qc (hfew) ?_;(repeat' (first |refine qv ?_ |apply qn |apply qs |apply qr));refine qc (rOf_ok 2 (by omega) (by omega)) ?_;skip;refine qc (hcmp) ?_;(repeat' (first |refine qv ?_ |apply qn |refine Fl.nil (fun _ => by kernel_rfl) ?_ |apply qs |apply qr |refine Fl.skip rfl rfl ?_ |refine AWP.condT rfl ?_ |(refine AWP.condD rfl ?_ ?_ <;> intro _ <;> try (exfalso; omega)) |apply qt |(refine Fl.splitD rfl rfl ?_ ?_ <;> intro _ <;> try (exfalso; omega))))
   all_goals exact RetOk.of rfl (AV.Le.bool hbad)
 ·rw [decide_eq_false hfe] at hfew
  have hbad := hfalse fun k => by
   refine psi_not_fit (a := x) (n := y.toNat) k.1 ?_ (by rw [k.2.2]; exact hz);have := k.2.1;omega
  (repeat' (first |refine qv ?_ |apply qn |apply qs |apply qr |refine qe ?_|fail));refine qc (hfew) ?_;(repeat' (first |refine qv ?_ |apply qn |apply qs |apply qr));refine qc (rOf_ok 2 (by omega) (by omega)) ?_;skip;refine qc (hcmp) ?_;(repeat' (first |refine qv ?_ |apply qn |refine Fl.nil (fun _ => by kernel_rfl) ?_ |apply qs |apply qr |refine Fl.skip rfl rfl ?_ |refine AWP.condT rfl ?_ |apply qt |(refine Fl.splitD rfl rfl ?_ ?_ <;> intro _ <;> try (exfalso; omega))))
  all_goals exact RetOk.of rfl (AV.Le.bool hbad)

end Go.Proofs.YtcaecieigoplbaaGreat
/- ref01.shifted. -/
namespace Go.AL
end Go.AL
namespace Go.Proofs.YtcaecieigoplbaaGreat
open Go.AL
theorem shifted_ok (A : List Int) (k : Nat) (wx : WOk A) (hxl : A.length ≤ 80000) (hk : k < 32) : PureFn Tryz.prog 109 [aW A, aN k] (aW (wdW (A.length + 1) (val A * 2 ^ k))) := by
 refine PureFn.of_body Tryz.func109 rfl Tryz.ntmps109 rfl rfl ?_;have h2 : (0 : Int) < 2 ^ k := Int.pow_pos (by omega);refine AWP.seqS ?_;(repeat' (first |refine qv ?_ |apply qn |apply qr));refine ⟨AWP.seqS ?_⟩;(repeat' (first |refine qv ?_ |apply qn |apply qr |refine qw ?_ |refine Fl.make rfl rfl rfl rfl rfl rfl rfl rfl rfl rfl eW 0 (by exact LeL.refl _) (by rfl) (by first | omega | (dsimp only; omega)) (by first | omega | (dsimp only; omega)) (by first | omega | (dsimp only; omega)) ?_|fail));refine ⟨?_⟩;refine AWP.seqJ (G := List Int) (fun os => WOk os ∧ os.length = A.length + 1 ∧ val os = val A * 2 ^ k) (fun os => St.of [] [(5, .row 11)] [(11, .row 1 eW os 62)]) ?_ ?_
 ·(repeat' (first |refine qv ?_ |apply qn |apply qs |apply qr |apply qb));refine AWP.loop (G := Nat × List Int × Int) (fun (i, P, c) => i ≤ A.length ∧ P.length = i ∧ WOk P ∧ 0 ≤ c ∧ c < 2 ^ k ∧ val P + BB P.length * c = BB 0 * 2 ^ k * val (A.take i))
   (fun (i, P, c) => St.of [] [(0, aW A), (1, aN k), (5, .row 11), (6, aN i)] [(11, .row 1 eW (P ++ c :: List.replicate (A.length - i) 0) 62)])
   (fun (i, P, c) => A.length - i) (0, [], 0) ⟨by omega, by simp, WOk.nil, by omega, h2, by simp [val]⟩ ?_ ?_
  ·refine Ent.of [] ?_ ?_ rfl rfl;(repeat' (first |exact True.intro |refine ⟨⟨AV.Le.refl _, rfl⟩, ?_⟩ |refine ⟨⟨⟨_, rfl, BLe.row rfl⟩, rfl⟩, ?_⟩|fail))
  ·intro ⟨i, P, c⟩ ⟨h0, h1, h3, h4, h5, h6⟩
   have h5' : c < 4294967296 := Int.lt_of_lt_of_le h5 (by
    have : (2 : Int) ^ k ≤ 2 ^ 32 := pow_le_r (by omega) (by omega)
    rw [show (2 : Int) ^ 32 = 4294967296 from rfl] at this; exact this)
   have hW : WOk (P ++ c :: List.replicate (A.length - i) 0) := h3.append (WOk.cons h4 h5' (WOk.zeros _));(repeat' (first |refine qv ?_ |apply qn |apply qs |apply qr |refine qw ?_ |(refine AWP.condD rfl ?_ ?_ <;> intro _ <;> try (exfalso; omega)) |apply qb |apply qk |apply qx |(refine Fl.elW rfl rfl rfl rfl rfl rfl rfl rfl (by omega) (by omega) (by assumption) ?_; intro _ _ _ _) |refine Fl.rel rfl rfl rfl rfl rfl rfl rfl rfl (by omega) (by first | omega | (simp; omega)) ?_ |(refine Fl.rldW rfl rfl rfl rfl rfl rfl rfl (fun _ => rfl) (fun _ => rfl) (by first | omega | (simp; omega)) (by assumption) ?_; intro _ _ _ _) |refine Fl.rst rfl rfl rfl rfl rfl rfl rfl rfl rfl rfl rfl (LeL.refl _) rfl (by first | omega | (simp; omega)) ?_|fail))
   ·rename_i hi y hy hy0 hy1 x hx hx0 hx1;rw [Int.toNat_natCast] at hy;rw [get_carry (by omega)] at hx;injection hx with hx;subst hx;have hb := or_carry hk h4 h5 hy0 hy1
    have hp : (2 : Int) ^ k ≤ 2147483648 := by
     have : (2 : Int) ^ k ≤ 2 ^ 31 := pow_le_r (by omega) (by omega);rw [show (2 : Int) ^ 31 = 2147483648 from rfl] at this; exact this
    obtain ⟨Y, hY⟩ : ∃ Y, Y = y * 2 ^ k := ⟨_, rfl⟩
    have hY0 : 0 ≤ Y := by rw [hY]; exact Int.mul_nonneg hy0 (by omega)
    have hY1 : Y ≤ 4294967295 * 2 ^ k := by rw [hY]; exact Int.mul_le_mul_of_nonneg_right (by omega) (by omega)
    have hY2 : Y / 4294967296 < 2 ^ k := by omega
    have hst := left_step (S := 2 ^ k) (B := BB 0) (w := c + Y % 4294967296) (c' := Y / 4294967296) hy (by rw [h1, BB_zero]; omega) h6 (by rw [← hY]; omega);rw [← hY] at hb;refine LoopEnd.of (i + 1, P ++ [c + Y % 4294967296], Y / 4294967296) ⟨by omega, by simp; omega, h3.append (WOk.cons (by omega) hb.2 WOk.nil), by omega, hY2, hst⟩ (by simp only; omega) ?_;refine Ent.of [] ?_ ?_ rfl rfl;(repeat' (first |exact True.intro |refine ⟨⟨AV.Le.refl _, rfl⟩, ?_⟩ |refine ⟨⟨⟨_, rfl, BLe.row ?_⟩, rfl⟩, ?_⟩|fail));refine set_carry (by omega) (by omega) (by omega) ?_ ?_
    ·rw [show ((k : Int)).toNat = k from Int.toNat_natCast k, ← hY];rw [← hb.1, bitN_and32 (by omega), show Y % 18446744073709551616 % 4294967296 % 4294967296 = Y % 4294967296 by omega]
    ·rw [show ((k : Int)).toNat = k from Int.toNat_natCast k, ← hY];rw [p32];omega
   ·have hi : i = A.length := by omega
    subst hi;refine JoinOk.of (P ++ [c]) ⟨h3.append (WOk.cons h4 h5' WOk.nil), by simp; omega, ?_⟩ ?_
    ·rw [val_snoc, h6, List.take_length, BB_zero, Int.one_mul, Int.mul_comm]
    ·refine Ent.of [] ?_ ?_ rfl rfl;(repeat' (first |exact True.intro |refine ⟨⟨AV.Le.refl _, rfl⟩, ?_⟩ |refine ⟨⟨⟨_, rfl, BLe.row ?_⟩, rfl⟩, ?_⟩|fail));simp
 ·intro os ⟨h0, h1, h3⟩;(repeat' (first |refine qv ?_ |apply qn |apply qs |apply qr |apply qt));refine RetOk.ent (Ent.freeze 11 rfl) ?_;refine RetOk.of rfl ?_;rw [← h3, ← h1, ← wdW_eq h0];exact AV.Le.refl _
end Go.Proofs.YtcaecieigoplbaaGreat
/- ref01.Shift, by a number that is not negative. -/
namespace Go.Proofs.YtcaecieigoplbaaGreat
open Go.AL
theorem rShift_ok (x : Int) (d k n : Nat) (hx : 0 < x) (hxl : (toW x).length ≤ 40000) (hk : k < 32) (hd : d ≤ 30000) (hn : n = 32 * d + k) : PureFn Tryz.prog 43 [aX x, aN n] (aX (x * 2 ^ n)) := by
 refine PureFn.of_body Tryz.func43 rfl Tryz.ntmps43 rfl rfl ?_
 have ex : ((x.natAbs : Nat) : Int) = x := by omega
 have hq : (n : Int) / 32 = d := by omega
 have hl2 : (toW (x.natAbs : Int)).length ≤ 40000 := by rw [ex]; exact hxl
 have hr : (n : Int) % 32 = k := by omega
 have c1 := shifted_ok (toW x.natAbs) k (toW_ok _) (by rw [ex]; omega) hk;refine AWP.seqS ?_;(repeat' (first |apply qn |apply qr |refine qe ?_|fail));refine ⟨AWP.seqS ?_⟩;(repeat' (first |refine qv ?_ |apply qn |apply qs |apply qr |refine AWP.condT rfl ?_));refine qc (rZeroX_ok x) ?_;(repeat' (first |refine qv ?_ |apply qn |apply qs |apply qr |refine qw ?_ |refine Fl.w rfl rfl rfl ⟨by omega, by omega, by dsimp only [hiK]; omega⟩ ?_ |(refine AWP.condD rfl ?_ ?_ <;> intro _ <;> try (exfalso; omega)) |apply qk |refine Fl.make rfl rfl rfl rfl rfl rfl rfl rfl rfl rfl eW 0 (by exact LeL.refl _) (by rfl) (by first | omega | (dsimp only; omega)) (by first | omega | (dsimp only; omega)) (by first | omega | (dsimp only; omega)) ?_|fail));refine Fl.call rfl c1 rfl rfl rfl (LeL.cons (AV.Le.refl _) (LeL.cons (AV.Le.int hr) LeL.nil)) ?_;skip;refine qa (hby := (by simp only [List.length_replicate, wdW_length]; omega)) (hm := (by simp only [List.length_replicate, wdW_length]; omega)) (r := ?_);skip
 have hdt : ((n : Int) / 32).toNat = d := by omega
 obtain ⟨L, hL⟩ : ∃ L, L = List.replicate ((n : Int) / 32).toNat 0 ++ wdW ((toW (x.natAbs : Int)).length + 1) (val (toW (x.natAbs : Int)) * 2 ^ k) := ⟨_, rfl⟩
 have hLw : WOk L := by rw [hL]; exact (WOk.zeros _).append (wdW_ok _ _)
 have hLl : L.length ≤ 100000 := by rw [hL]; simp only [List.length_append, List.length_replicate, wdW_length]; omega
 have hLv : sg (decide (x < 0)) (val L) = x * 2 ^ n := by
  have h2 : (0 : Int) < 2 ^ k := Int.pow_pos (by omega)
  have h3 : (2 : Int) ^ k ≤ 4294967296 := by
   have : (2 : Int) ^ k ≤ 2 ^ 32 := pow_le_r (by omega) (by omega);rw [show (2 : Int) ^ 32 = 4294967296 from rfl] at this; exact this
  have h4 := (toW_len_le (show (0 : Int) ≤ x by omega) (toW x).length).1 (Nat.le_refl _);rw [hL, hdt, val_append, val_zeros, List.length_replicate, ex, val_toW (by omega), val_wdW _ _ (Int.mul_nonneg (by omega) (by omega)) ?_, decide_eq_false (by omega), Int.zero_add, show (2 : Int) ^ n = BB d * 2 ^ k by rw [BB_pow, ← Int.pow_add]; congr 1]
  ·simp only [sg, Bool.false_eq_true, if_false];grind
  ·rw [BB_succ];have h5 : x * 2 ^ k ≤ x * 4294967296 := Int.mul_le_mul_of_nonneg_left h3 (by omega);omega
 rw [← hL];refine Fl.callF rfl 23 rfl (rMake_ok (decide (x < 0)) L hLw hLl) rfl rfl rfl (LeL.refl _) ?_;rw [hLv];(repeat' (first |refine Fl.nil (fun _ => by kernel_rfl) ?_ |refine qe ?_ |apply qt));exact RetOk.of rfl (AV.Le.refl _)
end Go.Proofs.YtcaecieigoplbaaGreat
/- ref01.short: by one word. -/
namespace Go.Proofs.YtcaecieigoplbaaGreat
open Go.AL
theorem short_ok (x b : Int) (hx : 0 ≤ x) (hxl : (toW x).length ≤ 50000) (hb : 0 < b) (hb1 : b < 4294967296) : PureFn Tryz.prog 153 [aW (toW x), .v (.int .u32 b)] (.tup [aW (wdW (toW x).length (x / b)), .v (.int .u32 (x % b))]) := by
 refine PureFn.of_body Tryz.func153 rfl Tryz.ntmps153 rfl rfl ?_;have wx := toW_ok x;have hsx := val_toW hx
 generalize toW x = A at *
 subst hsx;(repeat' (first |refine qv ?_ |apply qn |apply qs |apply qr |refine qw ?_ |apply qb |refine Fl.make rfl rfl rfl rfl rfl rfl rfl rfl rfl rfl eW 0 (by exact LeL.refl _) (by rfl) (by first | omega | (dsimp only; omega)) (by first | omega | (dsimp only; omega)) (by first | omega | (dsimp only; omega)) ?_|fail));refine AWP.loop (G := Nat × List Int × Int) (fun (i, os, r) => os.length + i = A.length ∧ WOk os ∧ 0 ≤ r ∧ r < b ∧ val (A.drop i) = val os * b + r)
  (fun (i, os, r) => St.of [] [(0, aW A), (1, .v (.int .u32 b)), (6, .row 11), (7, aU r), (8, aN ((i : Int) - 1))] [(11, .row 1 eW (List.replicate i 0 ++ os) 62)])
  (fun (i, os, r) => i) (A.length, [], 0) ⟨by simp, WOk.nil, by omega, by omega, by simp [val]⟩ ?_ ?_
 ·refine Ent.of [] ?_ ?_ rfl rfl;(repeat' (first |exact True.intro |refine ⟨⟨AV.Le.refl _, rfl⟩, ?_⟩ |refine ⟨⟨⟨_, rfl, BLe.row ?_⟩, rfl⟩, ?_⟩|fail));simp
 ·intro ⟨i, os, r⟩ ⟨h0, h1, h2, h3, h4⟩;refine AWP.seqS ?_;(repeat' (first |refine qv ?_ |apply qn |apply qs |apply qr |(refine AWP.condD rfl ?_ ?_ <;> intro _ <;> try (exfalso; omega)) |apply qk |apply qx |apply qt))
  ·refine ⟨?_⟩;refine AWP.seq (AWP.block (AWP.seqJ (G := Int) (fun y => A[i - 1]? = some y ∧ 0 ≤ y ∧ y < 4294967296) (fun y => St.of [] [(0, aW A), (1, .v (.int .u32 b)), (6, .row 11), (7, aU (r * 4294967296 + y)), (8, aN ((i : Int) - 1))] [(11, .row 1 eW (List.replicate i 0 ++ os) 62)]) ?_ ?_))
   ·(repeat' (first |refine qv ?_ |apply qn |apply qr |refine qw ?_ |(refine Fl.elW rfl rfl rfl rfl rfl rfl rfl rfl (by omega) (by omega) (by assumption) ?_; intro _ _ _ _) |refine Fl.sumM rfl rfl rfl rfl rfl rfl ?_));rename_i hi y hy hy0 hy1;rw [show ((i : Int) - 1).toNat = i - 1 by omega] at hy;refine JoinOk.of y ⟨hy, hy0, hy1⟩ ?_;refine Ent.of [] ?_ ?_ rfl rfl;(repeat' (first |exact True.intro |refine ⟨⟨AV.Le.refl _, rfl⟩, ?_⟩ |refine ⟨⟨⟨_, rfl, BLe.row rfl⟩, rfl⟩, ?_⟩ |refine ⟨⟨AV.Le.int ?_, rfl⟩, ?_⟩|fail));rw [show (2 : Int) ^ (32 : Int).toNat = 4294967296 from rfl];omega
   ·intro y ⟨hy, hy0, hy1⟩
    have hi : 0 < i := by
     rcases Nat.eq_zero_or_pos i with h | h
     ·subst h; omega
     ·exact h
    obtain ⟨q, hq⟩ : ∃ q, q = (r * 4294967296 + y) / b := ⟨_, rfl⟩;obtain ⟨r', hr'⟩ : ∃ r', r' = (r * 4294967296 + y) % b := ⟨_, rfl⟩;have hw := over_word hb h2 h3 hy0 hy1;have hm0 := Int.emod_nonneg (r * 4294967296 + y) (show b ≠ 0 by omega);have hm1 := Int.emod_lt_of_pos (r * 4294967296 + y) hb;have hst := over_step (i := i - 1) hy (by rw [show i - 1 + 1 = i by omega]; exact h4);rw [← hq] at hw hst;rw [← hr'] at hm0 hm1 hst;(repeat' (first |refine qv ?_ |apply qn |apply qs |apply qr |refine qw ?_ |refine Fl.w rfl rfl rfl ⟨by omega, by omega, by dsimp only [hiK]; omega⟩ ?_ |refine Fl.rel rfl rfl rfl rfl rfl rfl rfl rfl (by omega) (by first | omega | (simp; omega)) ?_ |refine Fl.rst rfl rfl rfl rfl rfl rfl rfl rfl rfl rfl rfl (LeL.refl _) rfl (by first | omega | (simp; omega)) ?_|fail));refine LoopEnd.of (i - 1, q :: os, r') ⟨by simp only [List.length_cons]; omega, WOk.cons hw.1 hw.2 h1, hm0, hm1, hst⟩ (by simp only; omega) ?_;refine Ent.of [] ?_ ?_ rfl rfl;(repeat' (first |exact True.intro |refine ⟨⟨AV.Le.refl _, rfl⟩, ?_⟩ |refine ⟨⟨⟨_, rfl, BLe.row ?_⟩, rfl⟩, ?_⟩ |refine ⟨⟨AV.Le.int ?_, rfl⟩, ?_⟩|fail))
    ·exact hr'.symm
    ·omega
    ·refine set_zeros (by omega) (by omega) ?_;rw [← hq]; omega
  ·rename_i hi
   have hi0 : i = 0 := by omega
   subst hi0;rw [List.drop_zero] at h4;obtain ⟨e1, e2⟩ := over_end h4 h2 h3;skip;refine RetOk.ent (Ent.freeze 11 rfl) ?_;refine RetOk.of rfl ?_;rw [← e1, ← e2, show A.length = os.length by omega, ← wdW_eq h1];exact AV.Le.tup (LeL.cons (AV.Le.refl _) (LeL.cons (AV.Le.int (by omega)) LeL.nil))
end Go.Proofs.YtcaecieigoplbaaGreat
/- ref01.long, by several words: plain facts. -/
namespace Go.AL
theorem norm_of {w : Int} {s : Nat} (h0 : 0 < w) (h1 : 2147483648 ≤ w * 2 ^ s) (h2 : w * 2 ^ s < 4294967296) : s = 32 - lenB w.toNat := by
 obtain ⟨W, hW⟩ : ∃ W : Nat, w = W := ⟨w.toNat, by omega⟩;subst hW;rw [Int.toNat_natCast];have hl := lenB_spec (n := W) (by omega)
 have a1 : 2 ^ 31 ≤ W * 2 ^ s := by
  have : ((2 ^ 31 : Nat) : Int) ≤ ((W * 2 ^ s : Nat) : Int) := by rw [Int.natCast_mul, Int.natCast_pow]; exact h1
  exact_mod_cast this
 have a2 : W * 2 ^ s < 2 ^ 32 := by
  have : ((W * 2 ^ s : Nat) : Int) < ((2 ^ 32 : Nat) : Int) := by rw [Int.natCast_mul, Int.natCast_pow]; exact h2
  exact_mod_cast this
 have a3 : 0 < 2 ^ s := Nat.pow_pos (by omega)
 have hs : s < 32 := by
  rcases Nat.lt_or_ge s 32 with h | h
  ·exact h
  ·have b : 2 ^ 32 ≤ 2 ^ s := Nat.pow_le_pow_right (by omega) h;have c : 1 * 2 ^ s ≤ W * 2 ^ s := Nat.mul_le_mul_right _ (by omega);omega
 have b1 : W < 2 ^ (32 - s) := by
  have : 2 ^ (32 - s) * 2 ^ s = 2 ^ 32 := by rw [← Nat.pow_add]; congr 1; omega
  exact Nat.lt_of_mul_lt_mul_right (a := 2 ^ s) (by omega)
 have b2 : 2 ^ (31 - s) ≤ W := by
  have : 2 ^ (31 - s) * 2 ^ s = 2 ^ 31 := by rw [← Nat.pow_add]; congr 1; omega
  exact Nat.le_of_mul_le_mul_right (c := 2 ^ s) (by omega) a3
 have c1 : lenB W ≤ 32 - s := lenB_le b1;have c2 : 31 - s < lenB W := (Nat.pow_lt_pow_iff_right (a := 2) (by omega)).1 (by omega);omega
theorem norm_loop {w : Int} {s : Nat} (h0 : 0 < w) (h2 : w * 2 ^ s < 4294967296) : s < 32 := by
 rcases Nat.lt_or_ge s 32 with h | h
 ·exact h
 ·have b : (2 : Int) ^ 32 ≤ 2 ^ s := pow_le_r (by omega) h;have c : 1 * (2 : Int) ^ s ≤ w * 2 ^ s := Int.mul_le_mul_of_nonneg_right (by omega) (by omega);have d : (2 : Int) ^ 32 = 4294967296 := rfl;omega
theorem wdW_take : ∀ (n k : Nat) (z : Int), k ≤ n → (wdW n z).take k = wdW k z
 | n, 0, z, _ => by simp [wdW]
 | 0, k + 1, z, h => by omega
 | n + 1, k + 1, z, h => by simp only [wdW, List.take_succ_cons, wdW_take n k _ (by omega)]
theorem wdW_toW {z : Int} {n : Nat} (h0 : 0 ≤ z) (h : (toW z).length = n) : wdW n z = toW z := by
 have := wdW_eq (toW_ok z);rw [h, val_toW h0] at this;exact this.symm
theorem sub_last {lo m : List Int} {V : Int} {i : Nat} {q b y w b' : Int} (hlo : lo.length = i) (hm : m[i]? = some y) (hval : val lo = val (m.take i) - q * V + b * BB i) (hw : w + b = y + 4294967296 * b') :
  val (lo ++ [w]) = val (m.take (i + 1)) - q * V + b' * BB (i + 1) := by
 have hmi : (m.take i).length = i := by have := (List.getElem?_eq_some_iff.1 hm).1; simp; omega
 have t1 : m.take (i + 1) = m.take i ++ [y] := by rw [List.take_add_one, hm]; rfl
 rw [val_snoc, t1, val_snoc, hmi, hlo, hval, BB_succ]
 have : w = y + 4294967296 * b' - b := by omega
 rw [this];grind
theorem add_last {lo m : List Int} {V : Int} {i : Nat} {c y w c' : Int} (hlo : lo.length = i) (hm : m[i]? = some y) (hval : val lo + c * BB i = val (m.take i) + V) (hw : w + 4294967296 * c' = y + c) :
  val (lo ++ [w]) + c' * BB (i + 1) = val (m.take (i + 1)) + V := by
 have hmi : (m.take i).length = i := by have := (List.getElem?_eq_some_iff.1 hm).1; simp; omega
 have t1 : m.take (i + 1) = m.take i ++ [y] := by rw [List.take_add_one, hm]; rfl
 rw [val_snoc, t1, val_snoc, hmi, hlo, BB_succ]
 have : w = y + c - 4294967296 * c' := by omega
 rw [this];grind
theorem add_carry {h t c B : Int} (hB : 0 < B) (e : h + c * B = B + t) (h0 : 0 ≤ h) (h1 : h < B) (t0 : 0 ≤ t) (t1 : t < B) : h = t := by
 have hc : c = 1 := by
  rcases Int.lt_trichotomy c 1 with k | k | k
  ·have : c * B ≤ 0 * B := Int.mul_le_mul_of_nonneg_right (by omega) (by omega);omega
  ·exact k
  ·have : 2 * B ≤ c * B := Int.mul_le_mul_of_nonneg_right (by omega) (by omega);omega
 rw [hc] at e; omega
end Go.AL
/- ref01.Shift to the right, of a number that is not negative. -/
namespace Go.AL
theorem dropc {α : Type} {l : List α} {i : Nat} {x : α} (h : l[i]? = some x) : l.drop i = x :: l.drop (i + 1) := by
 have hi := List.getElem?_eq_some_iff.1 h;rw [List.drop_eq_getElem_cons hi.1, hi.2]
end Go.AL
namespace Go.Proofs.YtcaecieigoplbaaGreat
open Go.AL

theorem shiftedRow_ok (A : List Int) (k : Nat) (wx : WOk A) (hxl : A.length ≤ 80000) (hk : k < 32) : IoFn Tryz.prog 109 [aW A, aN k] [] (.ret (.row 900)) [(900, .row 1 eW (wdW (A.length + 1) (val A * 2 ^ k)) 62)] := by
 refine IoFn.of_body Tryz.func109 rfl Tryz.ntmps109 rfl rfl rfl ?_;have h2 : (0 : Int) < 2 ^ k := Int.pow_pos (by omega);refine AWP.seqS ?_;(repeat' (first |refine qv ?_ |apply qn |apply qr));refine ⟨AWP.seqS ?_⟩;(repeat' (first |refine qv ?_ |apply qn |apply qr |refine qw ?_ |refine Fl.make rfl rfl rfl rfl rfl rfl rfl rfl rfl rfl eW 0 (by exact LeL.refl _) (by rfl) (by first | omega | (dsimp only; omega)) (by first | omega | (dsimp only; omega)) (by first | omega | (dsimp only; omega)) ?_|fail));refine ⟨?_⟩;refine AWP.seqJ (G := List Int) (fun os => WOk os ∧ os.length = A.length + 1 ∧ val os = val A * 2 ^ k) (fun os => St.of [] [(5, .row 11)] [(11, .row 1 eW os 62)]) ?_ ?_
 ·(repeat' (first |refine qv ?_ |apply qn |apply qs |apply qr |apply qb));refine AWP.loop (G := Nat × List Int × Int) (fun (i, P, c) => i ≤ A.length ∧ P.length = i ∧ WOk P ∧ 0 ≤ c ∧ c < 2 ^ k ∧ val P + BB P.length * c = BB 0 * 2 ^ k * val (A.take i))
   (fun (i, P, c) => St.of [] [(0, aW A), (1, aN k), (5, .row 11), (6, aN i)] [(11, .row 1 eW (P ++ c :: List.replicate (A.length - i) 0) 62)])
   (fun (i, P, c) => A.length - i) (0, [], 0) ⟨by omega, by simp, WOk.nil, by omega, h2, by simp [val]⟩ ?_ ?_
  ·refine Ent.of [] ?_ ?_ rfl rfl;(repeat' (first |exact True.intro |refine ⟨⟨AV.Le.refl _, rfl⟩, ?_⟩ |refine ⟨⟨⟨_, rfl, BLe.row rfl⟩, rfl⟩, ?_⟩|fail))
  ·intro ⟨i, P, c⟩ ⟨h0, h1, h3, h4, h5, h6⟩
   have h5' : c < 4294967296 := Int.lt_of_lt_of_le h5 (by
    have : (2 : Int) ^ k ≤ 2 ^ 32 := pow_le_r (by omega) (by omega)
    rw [show (2 : Int) ^ 32 = 4294967296 from rfl] at this; exact this)
   have hW : WOk (P ++ c :: List.replicate (A.length - i) 0) := h3.append (WOk.cons h4 h5' (WOk.zeros _));(repeat' (first |refine qv ?_ |apply qn |apply qs |apply qr |refine qw ?_ |(refine AWP.condD rfl ?_ ?_ <;> intro _ <;> try (exfalso; omega)) |apply qb |apply qk |apply qx |(refine Fl.elW rfl rfl rfl rfl rfl rfl rfl rfl (by omega) (by omega) (by assumption) ?_; intro _ _ _ _) |refine Fl.rel rfl rfl rfl rfl rfl rfl rfl rfl (by omega) (by first | omega | (simp; omega)) ?_ |(refine Fl.rldW rfl rfl rfl rfl rfl rfl rfl (fun _ => rfl) (fun _ => rfl) (by first | omega | (simp; omega)) (by assumption) ?_; intro _ _ _ _) |refine Fl.rst rfl rfl rfl rfl rfl rfl rfl rfl rfl rfl rfl (LeL.refl _) rfl (by first | omega | (simp; omega)) ?_|fail))
   ·rename_i hi y hy hy0 hy1 x hx hx0 hx1;rw [Int.toNat_natCast] at hy;rw [get_carry (by omega)] at hx;injection hx with hx;subst hx;have hb := or_carry hk h4 h5 hy0 hy1
    have hp : (2 : Int) ^ k ≤ 2147483648 := by
     have : (2 : Int) ^ k ≤ 2 ^ 31 := pow_le_r (by omega) (by omega);rw [show (2 : Int) ^ 31 = 2147483648 from rfl] at this; exact this
    obtain ⟨Y, hY⟩ : ∃ Y, Y = y * 2 ^ k := ⟨_, rfl⟩
    have hY0 : 0 ≤ Y := by rw [hY]; exact Int.mul_nonneg hy0 (by omega)
    have hY1 : Y ≤ 4294967295 * 2 ^ k := by rw [hY]; exact Int.mul_le_mul_of_nonneg_right (by omega) (by omega)
    have hY2 : Y / 4294967296 < 2 ^ k := by omega
    have hst := left_step (S := 2 ^ k) (B := BB 0) (w := c + Y % 4294967296) (c' := Y / 4294967296) hy (by rw [h1, BB_zero]; omega) h6 (by rw [← hY]; omega);rw [← hY] at hb;refine LoopEnd.of (i + 1, P ++ [c + Y % 4294967296], Y / 4294967296) ⟨by omega, by simp; omega, h3.append (WOk.cons (by omega) hb.2 WOk.nil), by omega, hY2, hst⟩ (by simp only; omega) ?_;refine Ent.of [] ?_ ?_ rfl rfl;(repeat' (first |exact True.intro |refine ⟨⟨AV.Le.refl _, rfl⟩, ?_⟩ |refine ⟨⟨⟨_, rfl, BLe.row ?_⟩, rfl⟩, ?_⟩|fail));refine set_carry (by omega) (by omega) (by omega) ?_ ?_
    ·rw [show ((k : Int)).toNat = k from Int.toNat_natCast k, ← hY];rw [← hb.1, bitN_and32 (by omega), show Y % 18446744073709551616 % 4294967296 % 4294967296 = Y % 4294967296 by omega]
    ·rw [show ((k : Int)).toNat = k from Int.toNat_natCast k, ← hY];rw [p32];omega
   ·have hi : i = A.length := by omega
    subst hi;refine JoinOk.of (P ++ [c]) ⟨h3.append (WOk.cons h4 h5' WOk.nil), by simp; omega, ?_⟩ ?_
    ·rw [val_snoc, h6, List.take_length, BB_zero, Int.one_mul, Int.mul_comm]
    ·refine Ent.of [] ?_ ?_ rfl rfl;(repeat' (first |exact True.intro |refine ⟨⟨AV.Le.refl _, rfl⟩, ?_⟩ |refine ⟨⟨⟨_, rfl, BLe.row ?_⟩, rfl⟩, ?_⟩|fail));simp
 ·intro os ⟨h0, h1, h3⟩;(repeat' (first |refine qv ?_ |apply qn |apply qs |apply qr |apply qt));refine ⟨⟨[(900, 11)], _, _, Ent.refl _ _ _, rfl, AV.Le.refl _, rfl, ⟨⟨⟨_, rfl, BLe.row ?_⟩, rfl⟩, trivial⟩, rfl, rfl⟩⟩;rw [← h3, ← h1, ← wdW_eq h0]

theorem rShift0_ok (n : Nat) (hn : n ≤ 4294967296) : PureFn Tryz.prog 43 [aX 0, aN n] (aX 0) := by
 refine PureFn.of_body Tryz.func43 rfl Tryz.ntmps43 rfl rfl ?_;(repeat' (first |refine qv ?_ |apply qn |apply qs |apply qr |refine qe ?_ |refine AWP.condT rfl ?_));refine qc (rZeroX_ok 0) ?_;(repeat' (first |refine qv ?_ |apply qn |apply qs |apply qr |refine qe ?_ |refine AWP.condT rfl ?_ |apply qt));exact RetOk.of rfl (AV.Le.refl _)

theorem rShiftR_ok (x : Int) (k : Nat) (hx : 0 ≤ x) (hxl : (toW x).length ≤ 40000) (hk : k < 32) : PureFn Tryz.prog 43 [aX x, aN (-(k : Int))] (aX (x / 2 ^ k)) := by
 rcases Nat.eq_zero_or_pos k with hk0 | hk0
 ·subst hk0;rw [Int.pow_zero, Int.ediv_one];rcases Int.lt_or_eq_of_le hx with h | h
  ·have := rShift_ok x 0 0 0 h hxl (by omega) (by omega) rfl;rw [Int.pow_zero, Int.mul_one] at this;exact this
  ·subst h;exact rShift0_ok 0 (by omega)
 refine PureFn.of_body Tryz.func43 rfl Tryz.ntmps43 rfl rfl ?_
 have ex : ((x.natAbs : Nat) : Int) = x := by omega
 have wx := toW_ok x;have hsx := val_toW hx;have hneg : decide (x < 0) = false := decide_eq_false (by omega);have h2 : (0 : Int) < 2 ^ k := Int.pow_pos (by omega)
 have eZ : aX x = .agg [aB false, aW (toW x)] := by
  show AV.agg [aB (decide (x < 0)), aW (toW (x.natAbs : Int))] = _;rw [hneg, ex]
 rw [eZ];have hz : (toW x).length = 0 → x = 0 := fun h => (toW_nil_iff hx).1 (List.eq_nil_of_length_eq_zero h)
 generalize hAe : toW x = A at *
 refine AWP.seqS ?_;(repeat' (first |apply qn |apply qr |refine qe ?_|fail));refine ⟨AWP.seqS ?_⟩;(repeat' (first |refine qv ?_ |apply qn |apply qs |apply qr |(refine AWP.condD rfl ?_ ?_ <;> intro _ <;> try (exfalso; omega)) |apply qk));refine ⟨?_⟩;refine AWP.seqJ (G := Int) (fun j => (A.length = 0 ∧ j = -1) ∨ (A.length ≠ 0 ∧ j = -(k : Int))) (fun j => St.of [] [(2, .ptr 2 0), (4, .ptr 4 0), (1, aN j)] [(2, .cells [aB false, aW A] 35), (4, .cells [aB false, .v (.slice none 0 0)] 35)]) ?_ ?_
 ·(repeat' (first |refine qv ?_ |apply qn |apply qs |apply qr |refine qw ?_ |(refine AWP.condD rfl ?_ ?_ <;> intro _ <;> try (exfalso; omega)) |apply qk))
  ·refine JoinOk.of (-1) (.inl ⟨by omega, rfl⟩) ?_;refine Ent.of [] ?_ ?_ rfl rfl;(repeat' (first |exact True.intro |refine ⟨⟨AV.Le.refl _, rfl⟩, ?_⟩ |refine ⟨⟨⟨_, rfl, BLe.cells (LeL.refl _)⟩, rfl⟩, ?_⟩ |refine ⟨⟨AV.Le.int ?_, rfl⟩, ?_⟩|fail));omega
  ·refine JoinOk.of (-(k : Int)) (.inr ⟨by omega, rfl⟩) ?_;refine Ent.of [] ?_ ?_ rfl rfl;(repeat' (first |exact True.intro |refine ⟨⟨AV.Le.refl _, rfl⟩, ?_⟩ |refine ⟨⟨⟨_, rfl, BLe.cells (LeL.refl _)⟩, rfl⟩, ?_⟩|fail))
 intro j hj;rcases hj with ⟨hl, hj⟩ | ⟨hl, hj⟩
 ·subst hj;have hx0 := hz hl;(repeat' (first |refine qv ?_ |apply qn |refine Fl.nil (fun _ => by kernel_rfl) ?_ |apply qs |apply qr |refine qw ?_ |refine Fl.w rfl rfl rfl ⟨by omega, by omega, by dsimp only [hiK]; omega⟩ ?_ |refine qe ?_ |refine Fl.skip rfl rfl ?_ |refine AWP.condF rfl ?_ |(refine AWP.condD rfl ?_ ?_ <;> intro _ <;> try (exfalso; omega)) |apply qk |apply qt));refine RetOk.of rfl ?_;rw [hx0, Int.zero_ediv];show AV.Le _ (.agg [aB (decide ((0 : Int) < 0)), aW (toW (((0 : Int).natAbs : Nat) : Int))]);rw [show (((0 : Int).natAbs : Nat) : Int) = 0 from rfl, toW_zero];exact AV.Le.agg (LeL.cons (AV.Le.refl _) (LeL.cons (AV.Le.nil 1 eW) LeL.nil))
 subst hj
 have hrow : wdW ((A.drop ((k : Int) / 32).toNat).length + 1) (val (A.drop ((k : Int) / 32).toNat) * 2 ^ 0) = A ++ [0] := by
  rw [show ((k : Int) / 32).toNat = 0 by omega, List.drop_zero, Int.pow_zero, Int.mul_one, wdW_snoc0 A.length (val A) (val_nonneg wx) (val_lt wx), ← wdW_eq wx]
 have hd32 : ((k : Int) / 32).toNat = 0 := by omega
 have hm32 : (k : Int) % 32 = k := by omega
 refine AWP.seqS ?_;(repeat' (first |refine qv ?_ |apply qn |apply qr |refine qw ?_|fail));refine ⟨AWP.seqS ?_⟩;(repeat' (first |apply qn |apply qr |refine qe ?_|fail));refine ⟨?_⟩;refine AWP.seqJ (G := Unit) (fun _ => True) (fun _ => St.of [] [(2, .ptr 2 0), (4, .ptr 4 0), (5, .ptr 5 0)] [(2, .cells [aB false, aW A] 35), (4, .cells [aB false, .v (.slice none 0 0)] 35), (5, .cells [aB false, aW (toW (x / 2 ^ k))] 35)]) ?_ ?_
 ·(repeat' (first |refine qv ?_ |apply qn |apply qs |apply qr |refine qw ?_ |refine Fl.w rfl rfl rfl ⟨by omega, by omega, by dsimp only [hiK]; omega⟩ ?_ |(refine AWP.condD rfl ?_ ?_ <;> intro _ <;> try (exfalso; omega))));refine Fl.io rfl [(900, 50)] (shiftedRow_ok (A.drop ((k : Int) / 32).toNat) 0 (wx.drop _) (by rw [List.length_drop]; omega) (by omega)) rfl rfl (LeL.cons (AV.Le.sl (by rw [hd32]; congr 1; omega)) (LeL.refl _)) rfl trivial rfl rfl rfl rfl rfl ?_;(repeat' (first |refine Fl.v rfl rfl rfl ?_ |refine Fl.nilF ?_ |refine Fl.b rfl rfl rfl rfl ?_ |refine AWP.condT rfl ?_ |refine AWP.condF rfl ?_ |refine AWP.skip ?_ |fail));refine AWP.seqJ (G := List Int) (fun os => os.length = A.length ∧ WOk os ∧ val os = x / 2 ^ k) (fun os => St.of [] [(2, .ptr 2 0), (4, .ptr 4 0), (5, .ptr 5 0), (6, .row 50)] [(2, .cells [aB false, aW A] 35), (4, .cells [aB false, .v (.slice none 0 0)] 35), (5, .cells [aB false, .v (.slice none 0 0)] 35), (50, .row 1 eW (os ++ [0]) 62)]) ?_ ?_
  ·(repeat' (first |refine qv ?_ |apply qn |apply qs |apply qr |apply qb));refine AWP.loop (G := Nat × List Int) (fun (i, os) => i ≤ A.length ∧ os.length = i ∧ WOk os ∧ val os = val A / 2 ^ k % BB i)
    (fun (i, os) => St.of [] [(1, aN k), (2, .ptr 2 0), (4, .ptr 4 0), (5, .ptr 5 0), (6, .row 50), (7, aN i)] [(2, .cells [aB false, aW A] 35), (4, .cells [aB false, .v (.slice none 0 0)] 35), (5, .cells [aB false, .v (.slice none 0 0)] 35), (50, .row 1 eW (os ++ (A.drop i ++ [0])) 62)])
    (fun (i, os) => A.length - i) (0, []) ⟨by omega, rfl, WOk.nil, by simp [val, BB_zero]⟩ ?_ ?_
   ·refine Ent.of [] ?_ ?_ rfl rfl;(repeat' (first |exact True.intro |refine ⟨⟨AV.Le.refl _, rfl⟩, ?_⟩ |refine ⟨⟨⟨_, rfl, BLe.cells (LeL.refl _)⟩, rfl⟩, ?_⟩ |refine ⟨⟨⟨_, rfl, BLe.row ?_⟩, rfl⟩, ?_⟩ |refine ⟨⟨AV.Le.int ?_, rfl⟩, ?_⟩|fail))
    ·omega
    ·rw [hrow, List.nil_append, List.drop_zero]
   ·intro ⟨i, os⟩ ⟨h0, h1, h3, h4⟩;have hW : WOk (os ++ (A.drop i ++ [0])) := h3.append ((wx.drop _).append (WOk.zeros 1))
    have hWl : (os ++ (A.drop i ++ [0])).length = A.length + 1 := by simp; omega
    (repeat' (first |refine qv ?_ |apply qn |apply qs |apply qr |refine qw ?_ |(refine AWP.condD rfl ?_ ?_ <;> intro _ <;> try (exfalso; omega)) |apply qb |apply qk |apply qx |refine Fl.rel rfl rfl rfl rfl rfl rfl rfl rfl (by omega) (by first | omega | (simp; omega)) ?_ |(refine Fl.rldW rfl rfl rfl rfl rfl rfl rfl (fun _ => rfl) (fun _ => rfl) (by first | omega | (simp; omega)) (by assumption) ?_; intro _ _ _ _) |refine Fl.sumM rfl rfl rfl rfl rfl rfl ?_))
    ·rename_i hlt x1 hx1 hx10 hx11 y1 hy1 hy10 hy11
     have hi : i < A.length := by rw [hWl] at hlt; omega
     rw [Int.toNat_natCast, ← h1, List.getElem?_append_right (by omega), Nat.sub_self, h1, List.getElem?_append_left (by rw [List.length_drop]; omega), List.getElem?_drop, Nat.add_zero] at hx1
     have hy' : A[i + 1]? = some y1 ∨ (A.length ≤ i + 1 ∧ y1 = 0) := by
      rw [show ((i : Int) + 1).toNat = i + 1 by omega, List.getElem?_append_right (by omega), h1, show i + 1 - i = 1 by omega] at hy1;rcases Nat.lt_or_ge (i + 1) A.length with h | h
      ·rw [List.getElem?_append_left (by rw [List.length_drop]; omega), List.getElem?_drop] at hy1;exact .inl hy1
      ·rw [List.getElem?_append_right (by rw [List.length_drop]; omega), List.length_drop, show 1 - (A.length - i) = 0 by omega] at hy1;injection hy1 with hy1;exact .inr ⟨h, hy1.symm⟩
     have hst := right_next hk wx h1 h4 hi hx1 hy';refine Fl.w rfl rfl rfl ⟨Int.ediv_nonneg (by omega) (Int.le_of_lt (Int.pow_pos (by omega))), Int.le_trans (Int.ediv_le_self _ (by omega)) (by omega), by omega, by omega⟩ ?_;(repeat' (first |refine qv ?_ |apply qn |refine Fl.nil (fun _ => by kernel_rfl) ?_ |apply qr |refine qw ?_ |refine Fl.rel rfl rfl rfl rfl rfl rfl rfl rfl (by omega) (by first | omega | (simp; omega)) ?_ |refine Fl.rst rfl rfl rfl rfl rfl rfl rfl rfl rfl rfl rfl (LeL.refl _) rfl (by first | omega | (simp; omega)) ?_|fail));refine LoopEnd.of (i + 1, os ++ [(x1 + 4294967296 * y1) / 2 ^ k % 4294967296]) ⟨by omega, by simp; omega, h3.append (WOk.cons (by omega) (by omega) WOk.nil), hst⟩ (by simp only; omega) ?_;refine Ent.of [] ?_ ?_ rfl rfl;(repeat' (first |exact True.intro |refine ⟨⟨AV.Le.refl _, rfl⟩, ?_⟩ |refine ⟨⟨⟨_, rfl, BLe.cells (LeL.refl _)⟩, rfl⟩, ?_⟩ |refine ⟨⟨⟨_, rfl, BLe.row ?_⟩, rfl⟩, ?_⟩|fail));rw [Int.toNat_natCast, hm32, Int.toNat_natCast, p32, show (x1 + y1 * 4294967296 % 18446744073709551616) % 18446744073709551616 = x1 + 4294967296 * y1 by omega];have hqn : 0 ≤ (x1 + 4294967296 * y1) / 2 ^ k := Int.ediv_nonneg (by omega) (by omega);rw [bitN_and32 hqn, Int.emod_emod_of_dvd _ (Int.dvd_refl _), List.set_append_right _ _ (by omega), show i - os.length = 0 by omega, dropc hx1, List.cons_append, List.set_cons_zero, List.append_assoc];rfl
    ·rename_i hlt
     have hi : i = A.length := by rw [hWl] at hlt; omega
     refine JoinOk.of os ⟨by omega, h3, ?_⟩ ?_
     ·rw [h4, hi, hsx];refine Int.emod_eq_of_lt (Int.ediv_nonneg hx (by omega)) ?_;have := val_lt wx;rw [hsx] at this;exact Int.lt_of_le_of_lt (Int.ediv_le_self _ hx) this
     ·refine Ent.of [] ?_ ?_ rfl rfl;(repeat' (first |exact True.intro |refine ⟨⟨AV.Le.refl _, rfl⟩, ?_⟩ |refine ⟨⟨⟨_, rfl, BLe.cells (LeL.refl _)⟩, rfl⟩, ?_⟩ |refine ⟨⟨⟨_, rfl, BLe.row ?_⟩, rfl⟩, ?_⟩|fail));rw [hi, List.drop_of_length_le (Nat.le_refl _), List.nil_append]
  ·intro os ⟨h0, h1, h3⟩;have hmk := rMake_ok false (os ++ [0]) (h1.append (WOk.zeros 1)) (by simp; omega);rw [val_snoc, Int.mul_zero, Int.add_zero, h3] at hmk;(repeat' (first |refine qv ?_ |apply qr));refine Fl.callF rfl 50 rfl hmk rfl rfl rfl (LeL.refl _) ?_;(repeat' (first |apply qn |refine qe ?_|fail));refine JoinOk.of () trivial ?_;refine Ent.of [] ?_ ?_ rfl rfl;(repeat' (first |exact True.intro |refine ⟨⟨AV.Le.refl _, rfl⟩, ?_⟩ |refine ⟨⟨⟨_, rfl, BLe.cells (LeL.refl _)⟩, rfl⟩, ?_⟩ |refine ⟨⟨⟨_, rfl, BLe.cells ?_⟩, rfl⟩, ?_⟩|fail));have hq := Int.ediv_nonneg hx (show (0 : Int) ≤ 2 ^ k by omega);rw [show sg false (x / 2 ^ k) = x / 2 ^ k by simp [sg], decide_eq_false (show ¬ x / 2 ^ k < 0 by omega), show ((x / 2 ^ k).natAbs : Int) = x / 2 ^ k by omega];exact LeL.refl _
 intro _ _;(repeat' (first |refine qv ?_ |apply qn |refine Fl.nil (fun _ => by kernel_rfl) ?_ |apply qs |apply qr |refine qe ?_ |refine Fl.skip rfl rfl ?_ |refine AWP.condF rfl ?_ |apply qk |apply qt));refine RetOk.of rfl ?_;show AV.Le _ (.agg [aB (decide (x / 2 ^ k < 0)), aW (toW ((x / 2 ^ k).natAbs : Int))]);have hq := Int.ediv_nonneg hx (show (0 : Int) ≤ 2 ^ k by omega);rw [decide_eq_false (by omega), show ((x / 2 ^ k).natAbs : Int) = x / 2 ^ k by omega];exact AV.Le.refl _
end Go.Proofs.YtcaecieigoplbaaGreat
/- ref01.long, by several words: the walk. -/
namespace Go.Proofs.YtcaecieigoplbaaGreat
open Go.AL

set_option maxHeartbeats 2000000 in
theorem long_ok (x y : Int) (N m : Nat) (hx : 0 ≤ x) (hy : 0 < y) (hxl : (toW x).length ≤ 40000) (hm : (toW y).length = m + 2) (hN : (toW x).length = N + m) (hN2 : 2 ≤ N) : PureFn Tryz.prog 154 [aW (toW x), aW (toW y)] (.tup [aW (wdW N (x / y)), aW (toW (x % y))]) := by
 refine PureFn.of_body Tryz.func154 rfl Tryz.ntmps154 rfl rfl ?_;have wy := toW_ok y;have hsy := val_toW (show 0 ≤ y by omega);have hsx := val_toW hx;obtain ⟨w, hw⟩ : ∃ w, (toW y)[m + 1]? = some w := ⟨_, List.getElem?_eq_getElem (by omega)⟩;have ww := wy.get hw
 have hw0 : 0 < w := by
  have e : toW y = (toW y).take (m + 1) ++ [w] := by
   conv => lhs; rw [← List.take_length (l := toW y), hm, take_top hw]
  have h1 := NW.toW y;rw [e] at h1;have h2 := h1.last;omega
 refine AWP.seqS ?_;(repeat' (first |refine qv ?_ |apply qn |apply qr));refine ⟨?_⟩;refine AWP.seqS ?_;(repeat' (first |refine qv ?_ |apply qn |apply qr));refine ⟨?_⟩;refine AWP.seqJ (G := Nat) (fun k => k = 32 - lenB w.toNat ∧ w * 2 ^ k < 4294967296) (fun k => St.of [] [(0, aW (toW x)), (1, aW (toW y)), (6, aN k)] []) ?_ ?_
 ·(repeat' (first |apply qb));refine AWP.loop (G := Nat) (fun k => w * 2 ^ k < 4294967296) (fun k => St.of [] [(0, aW (toW x)), (1, aW (toW y)), (6, aN k)] []) (fun k => 32 - k) 0 (by rw [Int.pow_zero]; omega) ?_ ?_
  ·refine Ent.of [] ?_ ?_ rfl rfl;(repeat' (first |exact True.intro |refine ⟨⟨AV.Le.refl _, rfl⟩, ?_⟩|fail))
  ·intro k hk;have hk32 := norm_loop hw0 hk;have h2 : (0 : Int) < 2 ^ k := Int.pow_pos (by omega);have hwk : 0 ≤ w * 2 ^ k := Int.mul_nonneg (by omega) (by omega);(repeat' (first |refine qv ?_ |apply qn |apply qs |apply qr |refine qw ?_ |(refine AWP.condD rfl ?_ ?_ <;> intro _ <;> try (exfalso; omega)) |apply qb |apply qk |apply qx |(refine Fl.elW rfl rfl rfl rfl rfl rfl rfl rfl (by omega) (by omega) (by assumption) ?_; intro _ _ _ _)|fail))
   ·rename_i z hz hz0 hz1 hlt;rw [show ((((toW y).length : Nat) : Int) - 1).toNat = m + 1 by omega, hw] at hz;injection hz with hz;subst hz;rw [Int.toNat_natCast] at hlt;refine LoopEnd.of (k + 1) ?_ (by omega) ?_
    ·rw [Int.pow_succ, ← Int.mul_assoc]; omega
    ·refine Ent.of [] ?_ ?_ rfl rfl;(repeat' (first |exact True.intro |refine ⟨⟨AV.Le.refl _, rfl⟩, ?_⟩|fail))
   ·rename_i z hz hz0 hz1 hlt;rw [show ((((toW y).length : Nat) : Int) - 1).toNat = m + 1 by omega, hw] at hz;injection hz with hz;subst hz;rw [Int.toNat_natCast] at hlt;refine JoinOk.of k ⟨norm_of hw0 (by omega) hk, hk⟩ ?_;refine Ent.of [] ?_ ?_ rfl rfl;(repeat' (first |exact True.intro |refine ⟨⟨AV.Le.refl _, rfl⟩, ?_⟩|fail))
 intro k ⟨hk, hkb⟩;obtain ⟨n1, n2, n3, n4, n5⟩ := norm_facts hy hm hw hk;have h2 : (0 : Int) < 2 ^ k := Int.pow_pos (by omega);have hV : 0 < y * 2 ^ k := Int.mul_pos hy h2;have hX : 0 ≤ x * 2 ^ k := Int.mul_nonneg hx (by omega)
 have hp : (2 : Int) ^ k ≤ 4294967296 := by
  have : (2 : Int) ^ k ≤ 2 ^ 32 := pow_le_r (by omega) (by omega);rw [show (2 : Int) ^ 32 = 4294967296 from rfl] at this; exact this
 have hxB : x < BB (toW x).length := (toW_len_le hx _).1 (by omega)
 have hXB : x * 2 ^ k < BB ((toW x).length + 1) := by
  have a : x * 2 ^ k < BB (toW x).length * 2 ^ k := Int.mul_lt_mul_of_pos_right hxB h2;have b : BB (toW x).length * 2 ^ k ≤ BB (toW x).length * 4294967296 := Int.mul_le_mul_of_nonneg_left hp (Int.le_of_lt (BB_pos _));rw [BB_succ]; omega
 obtain ⟨U, hU⟩ : ∃ U, U = wdW ((toW x).length + 1) (val (toW x) * 2 ^ k) ++ [0] := ⟨_, rfl⟩
 have hUl : U.length = N + (m + 2) := by rw [hU, List.length_append, wdW_length]; dsimp only [List.length_cons, List.length_nil]; omega
 have wU : WOk U := by rw [hU]; exact (wdW_ok _ _).append (WOk.zeros 1)
 have hUv : val U = x * 2 ^ k := by
  rw [hU, val_snoc, hsx, val_wdW _ _ hX hXB]; omega
 have wV := toW_ok (y * 2 ^ k);have hVv := val_toW (show 0 ≤ y * 2 ^ k by omega);obtain ⟨v, hv⟩ : ∃ v, v = toW (y * 2 ^ k) := ⟨_, rfl⟩;rw [← hv] at n3 n4 wV hVv
 have hVB : y * 2 ^ k < BB (m + 2) := by
  have := val_lt wV;rwa [n3, hVv] at this
 refine AWP.seqJ (G := Unit) (fun _ => True) (fun _ => St.of [] [(1, aW (toW y)), (6, aN k), (7, .row 37)] [(37, .row 1 eW U 62)]) ?_ ?_
 ·(repeat' (first |refine qv ?_ |apply qr));refine Fl.io rfl [(900, 35)] (shiftedRow_ok (toW x) k (toW_ok _) (by omega) n1) rfl rfl (LeL.refl _) rfl trivial rfl rfl rfl rfl rfl ?_;skip;refine ql eW [0] ?_;skip;refine qa (hby := (by simp only [wdW_length, List.length_nil, List.length_cons]; omega)) (hm := (by simp only [wdW_length, List.length_nil, List.length_cons]; omega)) (r := ?_);(repeat' (first |refine qv ?_ |apply qn));refine JoinOk.of () trivial ?_;refine Ent.of [] ?_ ?_ rfl rfl;(repeat' (first |exact True.intro |refine ⟨⟨AV.Le.refl _, rfl⟩, ?_⟩ |refine ⟨⟨⟨_, rfl, BLe.row ?_⟩, rfl⟩, ?_⟩|fail));exact hU.symm
 intro _ _;obtain ⟨v0, hv0⟩ : ∃ v0, v0 = wdW ((toW y).length + 1) (val (toW y) * 2 ^ k) := ⟨_, rfl⟩
 have hv0l : v0.length = m + 3 := by rw [hv0, wdW_length]; omega
 refine AWP.seqJ (G := Unit) (fun _ => True) (fun _ => St.of [] [(6, aN k), (7, .row 37), (8, aW v)] [(37, .row 1 eW U 62)]) ?_ ?_
 ·have c2 := shifted_ok (toW y) k wy (by omega) n1;rw [← hv0] at c2;(repeat' (first |refine qv ?_ |apply qr));refine Fl.call rfl c2 rfl rfl rfl (LeL.refl _) ?_;(repeat' (first |refine qv ?_ |apply qn |refine qw ?_|fail));refine JoinOk.of () trivial ?_;refine Ent.of [] ?_ ?_ rfl rfl;(repeat' (first |exact True.intro |refine ⟨⟨AV.Le.refl _, rfl⟩, ?_⟩ |refine ⟨⟨⟨_, rfl, BLe.row rfl⟩, rfl⟩, ?_⟩ |refine ⟨⟨AV.Le.sl ?_, rfl⟩, ?_⟩|fail));rw [hv0, wdW_take _ _ _ (by omega), hsy, hv];exact wdW_toW (by omega) (by rw [← hv, n3]; omega)
 intro _ _;clear hU hv0 hv0l v0;refine AWP.seqS ?_;(repeat' (first |refine qv ?_ |apply qn |apply qr));refine ⟨AWP.seqJ (G := List Int) (fun z => z = List.replicate N 0 ∧ z.length = N) (fun z => St.of [] [(6, aN k), (7, .row 37), (8, aW v), (9, aN (m + 2)), (10, .row 50)] [(37, .row 1 eW U 62), (50, .row 1 eW z 62)]) ?_ ?_⟩
 ·(repeat' (first |refine qv ?_ |apply qn |apply qr |refine qw ?_ |refine Fl.make rfl rfl rfl rfl rfl rfl rfl rfl rfl rfl eW 0 (by exact LeL.refl _) (by rfl) (by first | omega | (dsimp only; omega)) (by first | omega | (dsimp only; omega)) (by first | omega | (dsimp only; omega)) ?_|fail));refine JoinOk.of (List.replicate N 0) ⟨rfl, by simp⟩ ?_;refine Ent.of [] ?_ ?_ rfl rfl;(repeat' (first |exact True.intro |refine ⟨⟨AV.Le.refl _, rfl⟩, ?_⟩ |refine ⟨⟨⟨_, rfl, BLe.row rfl⟩, rfl⟩, ?_⟩ |refine ⟨⟨⟨_, rfl, BLe.row ?_⟩, rfl⟩, ?_⟩ |refine ⟨⟨AV.Le.int ?_, rfl⟩, ?_⟩|fail))
  ·omega
  ·congr 1; omega
 intro z ⟨hz, hzl⟩;refine AWP.seqJ (G := List Int × Int) (fun (os, ρ) => DivInv U (y * 2 ^ k) (m + 2) N 0 os ρ) (fun (os, ρ) => St.of [] [(6, aN k), (7, .row 37), (10, .row 50)] [(37, .row 1 eW (wdW (m + 2) ρ ++ List.replicate N 0) 62), (50, .row 1 eW os 62)]) ?_ ?_
 ·(repeat' (first |refine qv ?_ |apply qn |apply qs |apply qr |refine qw ?_ |apply qb));refine AWP.loop (G := Nat × List Int × Int) (fun (i, os, ρ) => DivInv U (y * 2 ^ k) (m + 2) N i os ρ)
   (fun (i, os, ρ) => St.of [] [(6, aN k), (7, .row 37), (8, aW v), (9, aN (m + 2)), (10, .row 50), (11, aN ((i : Int) - 1))] [(37, .row 1 eW (U.take i ++ (wdW (m + 2) ρ ++ List.replicate (N - i) 0)) 62), (50, .row 1 eW (List.replicate i 0 ++ os) 62)])
   (fun (i, os, ρ) => i) (N, [], val (U.drop N)) ?_ ?_ ?_
  ·have hsp : val U = val (U.take N) + BB N * val (U.drop N) := by
    conv => lhs; rw [← List.take_append_drop N U, val_append]
    rw [List.length_take, Nat.min_eq_left (by omega)]
   have ht := val_bounds (k := N) wU (by omega);have hdn := val_nonneg (wU.drop N);refine ⟨Nat.le_refl _, by simp, WOk.nil, hdn, ?_, by simp [val]⟩;rcases Int.lt_or_le (val (U.drop N)) (y * 2 ^ k) with h | h
   ·exact h
   ·have a1 : BB N * (y * 2 ^ k) ≤ BB N * val (U.drop N) := Int.mul_le_mul_of_nonneg_left h (Int.le_of_lt (BB_pos _));have a2 : BB N * (BB (m + 1) * 2 ^ k) ≤ BB N * (y * 2 ^ k) := Int.mul_le_mul_of_nonneg_left n5 (Int.le_of_lt (BB_pos _));have a3 : x < BB (N + (m + 1)) := (toW_len_le hx _).1 (by omega);have a4 : x * 2 ^ k < BB (N + (m + 1)) * 2 ^ k := Int.mul_lt_mul_of_pos_right a3 h2;rw [BB_add] at a4;have a5 : BB N * BB (m + 1) * 2 ^ k = BB N * (BB (m + 1) * 2 ^ k) := Int.mul_assoc _ _ _;omega
  ·refine Ent.of [] ?_ ?_ rfl rfl;(repeat' (first |exact True.intro |refine ⟨⟨AV.Le.refl _, rfl⟩, ?_⟩ |refine ⟨⟨⟨_, rfl, BLe.row ?_⟩, rfl⟩, ?_⟩ |refine ⟨⟨AV.Le.int ?_, rfl⟩, ?_⟩|fail))
   ·omega
   ·have hdl : (U.drop N).length = m + 2 := by rw [List.length_drop]; omega
    have := wdW_eq (wU.drop N);rw [hdl] at this;rw [← this, Nat.sub_self, List.replicate_zero, List.append_nil, List.take_append_drop]
   ·rw [hz, List.append_nil]
  ·intro ⟨i, os, ρ⟩ hd;refine AWP.seqS ?_;(repeat' (first |refine qv ?_ |apply qn |apply qs |apply qr |(refine AWP.condD rfl ?_ ?_ <;> intro _ <;> try (exfalso; omega)) |apply qk |apply qx))
   ·rename_i hi;obtain ⟨i', rfl⟩ : ∃ i', i = i' + 1 := ⟨i - 1, by omega⟩;have hiN : i' + 1 ≤ N := hd.hi;obtain ⟨u, hu⟩ : ∃ u, U[i']? = some u := ⟨_, List.getElem?_eq_getElem (by omega)⟩;have wu := wU.get hu;have hst := (hd.step hV hu wU).resolve_right (fun h => h hVB)
    have hml : (u :: wdW (m + 2) ρ).length = m + 3 := by rw [List.length_cons, wdW_length]
    have hrow : U.take (i' + 1) ++ (wdW (m + 2) ρ ++ List.replicate (N - (i' + 1)) 0) = U.take i' ++ (u :: wdW (m + 2) ρ) ++ List.replicate (N - (i' + 1)) 0 := by
     rw [take_top hu]; simp
    have hmv : val (u :: wdW (m + 2) ρ) = u + 4294967296 * ρ := by
     rw [val, val_wdW (m + 2) ρ hd.r0 (by have := hd.r1; omega)]
    have d : DigOk m (u :: wdW (m + 2) ρ) v := ⟨hml, n3, WOk.cons wu.1 wu.2 (wdW_ok _ _), wV, n4, by rw [hmv, hVv]; have := hd.r1; omega, by omega⟩
    have hend : ∀ ρ' : Int, 0 ≤ ρ' → ρ' < y * 2 ^ k → wdW (m + 2) ρ' ++ List.replicate (N - i') 0 = wdW (m + 3) ρ' ++ List.replicate (N - (i' + 1)) 0 := by
     intro ρ' h0 h1;rw [wdW_snoc0 (m + 2) ρ' h0 (by omega), show N - i' = N - (i' + 1) + 1 by omega, List.replicate_succ];simp
    obtain ⟨A, hA⟩ : ∃ A, A = U.take i' := ⟨_, rfl⟩;obtain ⟨mid, hmid⟩ : ∃ M, M = u :: wdW (m + 2) ρ := ⟨_, rfl⟩;obtain ⟨C, hC⟩ : ∃ C : List Int, C = List.replicate (N - (i' + 1)) 0 := ⟨_, rfl⟩;obtain ⟨O, hO⟩ : ∃ O, O = List.replicate (i' + 1) 0 ++ os := ⟨_, rfl⟩
    have hAl : A.length = i' := by rw [hA, List.length_take]; omega
    have hCl : C.length = N - (i' + 1) := by rw [hC, List.length_replicate]
    have hOl : O.length = N := by rw [hO, List.length_append, List.length_replicate]; have := hd.hl; omega
    have wA : WOk A := by rw [hA]; exact wU.take _
    have wC : WOk C := by rw [hC]; exact WOk.zeros _
    rw [← hmid] at d hst hml;rw [← hmid, ← hA, ← hC] at hrow;rw [← hC] at hend;refine ⟨AWP.seq (AWP.block ?_)⟩;refine AWP.ent (s' := St.of [] [(6, aN k), (7, .row 37), (8, aW v), (9, aN (m + 2)), (10, .row 50), (11, aN i')] [(37, .row 1 eW (A ++ mid ++ C) 62), (50, .row 1 eW O 62)]) ?_ ?_
    ·refine Ent.of [] ?_ ?_ rfl rfl;(repeat' (first |exact True.intro |refine ⟨⟨AV.Le.refl _, rfl⟩, ?_⟩ |refine ⟨⟨⟨_, rfl, BLe.row ?_⟩, rfl⟩, ?_⟩ |refine ⟨⟨AV.Le.int ?_, rfl⟩, ?_⟩|fail))
     ·omega
     ·rw [hC] at hrow ⊢; exact hrow
     ·exact hO.symm
    clear hrow hmv hz hzl z hC hmid hd hu wu u;have hm' := d.hm;have hbig := d.big;have wv := d.wv;have wW : WOk (A ++ mid ++ C) := (wA.append d.wm).append wC;obtain ⟨un, e0⟩ : ∃ x, mid[m + 2]? = some x := ⟨_, List.getElem?_eq_getElem (by omega)⟩;obtain ⟨u1, e1⟩ : ∃ x, mid[m + 1]? = some x := ⟨_, List.getElem?_eq_getElem (by omega)⟩;obtain ⟨u2, e2⟩ : ∃ x, mid[m]? = some x := ⟨_, List.getElem?_eq_getElem (by omega)⟩;obtain ⟨v1, f1⟩ : ∃ x, v[m + 1]? = some x := ⟨_, List.getElem?_eq_getElem (by omega)⟩;obtain ⟨v2, f2⟩ : ∃ x, v[m]? = some x := ⟨_, List.getElem?_eq_getElem (by omega)⟩;have b0 := d.wm.get e0;have b1 := d.wm.get e1;have b2 := d.wm.get e2;have c1 := d.wv.get f1;have c2 := d.wv.get f2;have c3 := d.top _ f1;have hf := d.facts e0 e1 e2 f1 f2;refine AWP.seqJ (G := Unit) (fun _ => True) (fun _ => St.of [] [(6, aN k), (7, .row 37), (8, aW v), (9, aN (m + 2)), (10, .row 50), (11, aN i'), (12, aU (un * 4294967296 + u1))] [(37, .row 1 eW (A ++ mid ++ C) 62), (50, .row 1 eW O 62)]) ?_ ?_
    ·(repeat' (first |refine qv ?_ |refine Fl.nil (fun _ => by kernel_rfl) ?_ |apply qr |refine qw ?_ |refine Fl.rel rfl rfl rfl rfl rfl rfl rfl rfl (by omega) (by first | omega | (simp; omega)) ?_ |(refine Fl.rldW rfl rfl rfl rfl rfl rfl rfl (fun _ => rfl) (fun _ => rfl) (by first | omega | (simp; omega)) (by assumption) ?_; intro _ _ _ _) |refine Fl.sumM rfl rfl rfl rfl rfl rfl ?_));rename_i x1 hx1 hx10 hx11 y1 hy1 hy10 hy11;rw [get_part (j := m + 2) (by omega) (by omega), e0] at hx1;rw [get_part (j := m + 1) (by omega) (by omega), e1] at hy1;injection hx1 with hx1;injection hy1 with hy1;subst hx1 hy1;refine JoinOk.of () trivial ?_;refine Ent.of [] ?_ ?_ rfl rfl;(repeat' (first |exact True.intro |refine ⟨⟨AV.Le.refl _, rfl⟩, ?_⟩ |refine ⟨⟨⟨_, rfl, BLe.row rfl⟩, rfl⟩, ?_⟩ |refine ⟨⟨AV.Le.int ?_, rfl⟩, ?_⟩|fail));rw [p32];omega
    intro _ _
    have f1' : v[((m : Int) + 2 - 1).toNat]? = some v1 := by rw [show ((m : Int) + 2 - 1).toNat = m + 1 by omega]; exact f1
    have f2' : v[((m : Int) + 2 - 2).toNat]? = some v2 := by rw [show ((m : Int) + 2 - 2).toNat = m by omega]; exact f2
    refine AWP.seqJ (G := Unit) (fun _ => True) (fun _ => St.of [] [(6, aN k), (7, .row 37), (8, aW v), (9, aN (m + 2)), (10, .row 50), (11, aN i'), (13, aU ((un * 4294967296 + u1) / v1)), (14, aU ((un * 4294967296 + u1) % v1))] [(37, .row 1 eW (A ++ mid ++ C) 62), (50, .row 1 eW O 62)]) ?_ ?_
    ·(repeat' (first |refine qv ?_ |refine Fl.nil (fun _ => by kernel_rfl) ?_ |apply qr |refine qw ?_ |refine Fl.w rfl rfl rfl ⟨by omega, by omega, by dsimp only [hiK]; omega⟩ ?_ |refine qK ?_|fail));refine JoinOk.of () trivial ?_;refine Ent.of [] ?_ ?_ rfl rfl;(repeat' (first |exact True.intro |refine ⟨⟨AV.Le.refl _, rfl⟩, ?_⟩ |refine ⟨⟨⟨_, rfl, BLe.row rfl⟩, rfl⟩, ?_⟩|fail))
    intro _ _;obtain ⟨q0, hq0⟩ : ∃ q, q = (un * 4294967296 + u1) / v1 := ⟨_, rfl⟩;obtain ⟨r0, hr0⟩ : ∃ r, r = (un * 4294967296 + u1) % v1 := ⟨_, rfl⟩;have hdm := Int.mul_ediv_add_emod (un * 4294967296 + u1) v1;have hm0 := Int.emod_nonneg (un * 4294967296 + u1) (show v1 ≠ 0 by omega);have hm1 := Int.emod_lt_of_pos (un * 4294967296 + u1) (show 0 < v1 by omega);have hqn : 0 ≤ (un * 4294967296 + u1) / v1 := Int.ediv_nonneg (by omega) (by omega)
    have hqb : (un * 4294967296 + u1) / v1 ≤ 8589934592 := by
     rcases Int.lt_or_le 8589934592 ((un * 4294967296 + u1) / v1) with h | h
     ·have : v1 * 8589934593 ≤ v1 * ((un * 4294967296 + u1) / v1) := Int.mul_le_mul_of_nonneg_left (by omega) (by omega);omega
     ·exact h
    rw [← hq0] at hdm hqn hqb;rw [← hr0] at hdm hm0 hm1;rw [Int.mul_comm] at hdm;have hp' := d.pos;have hV' : 0 < val v := Int.lt_of_lt_of_le (BB_pos _) hp'.1;have hU' := val_nonneg d.wm
    have hQ0 : val mid / val v ≤ q0 := by
     obtain ⟨a, b, c, e⟩ := dig_facts d.hm d.hv d.wm d.wv e0 e1 e2 f1 f2;obtain ⟨s1, s2, s3, s4⟩ := quo_spec hV' hU';have hB := BB_pos m
     have t1 : val mid / val v * ((v1 * 4294967296) * BB m) ≤ val mid / val v * val v := Int.mul_le_mul_of_nonneg_left (by
      have : v1 * 4294967296 * BB m ≤ (v1 * 4294967296 + v2) * BB m := Int.mul_le_mul_of_nonneg_right (by omega) (by omega)
      omega) s3
     have t2 : ((un * 4294967296 + u1) * 4294967296 + u2 + 1) * BB m ≤ ((un * 4294967296 + u1 + 1) * 4294967296) * BB m := Int.mul_le_mul_of_nonneg_right (by omega) (by omega)
     have t3 : (val mid / val v * v1) * (4294967296 * BB m) < (un * 4294967296 + u1 + 1) * (4294967296 * BB m) := by
      have g1 : (val mid / val v * v1) * (4294967296 * BB m) = val mid / val v * ((v1 * 4294967296) * BB m) := by grind
      have g2 : (un * 4294967296 + u1 + 1) * (4294967296 * BB m) = ((un * 4294967296 + u1 + 1) * 4294967296) * BB m := by grind
      rw [g1, g2]; omega
     have t4 := Int.lt_of_mul_lt_mul_right t3 (by omega);rw [hq0];exact Int.le_ediv_of_mul_le (by omega) (by omega)
    refine AWP.seqJ (G := Int) (fun q => val mid / val v ≤ q ∧ q ≤ val mid / val v + 1 ∧ 0 ≤ q ∧ q < 4294967296) (fun q => St.of [] [(6, aN k), (7, .row 37), (8, aW v), (9, aN (m + 2)), (10, .row 50), (11, aN i'), (13, aU q)] [(37, .row 1 eW (A ++ mid ++ C) 62), (50, .row 1 eW O 62)]) ?_ ?_
    ·refine AWP.block ?_;refine AWP.loop (G := Int × Int) (fun (q, r) => q * v1 + r = un * 4294967296 + u1 ∧ 0 ≤ r ∧ r < 4294967296 ∧ 0 ≤ q ∧ q ≤ 8589934592 ∧ val mid / val v ≤ q) (fun (q, r) => St.of [] [(6, aN k), (7, .row 37), (8, aW v), (9, aN (m + 2)), (10, .row 50), (11, aN i'), (13, aU q), (14, aU r)] [(37, .row 1 eW (A ++ mid ++ C) 62), (50, .row 1 eW O 62)]) (fun (q, r) => q.toNat) (q0, r0) ⟨hdm, hm0, by omega, hqn, hqb, hQ0⟩ ?_ ?_
     ·refine Ent.of [] ?_ ?_ rfl rfl;(repeat' (first |exact True.intro |refine ⟨⟨AV.Le.refl _, rfl⟩, ?_⟩ |refine ⟨⟨⟨_, rfl, BLe.row rfl⟩, rfl⟩, ?_⟩ |refine ⟨⟨AV.Le.int ?_, rfl⟩, ?_⟩|fail))
      ·exact hq0.symm
      ·exact hr0.symm
     ·intro ⟨q, r⟩ ⟨g0, g1, g2, g3, g4, g5⟩;refine AWP.seq ?_;(repeat' (first |refine qv ?_ |apply qn |refine Fl.nil (fun _ => by kernel_rfl) ?_ |apply qs |apply qr |refine qw ?_ |(refine Fl.mulW rfl rfl rfl rfl rfl (by omega) (by omega) (by omega) (by omega) ?_; intro _ _) |refine Fl.skip rfl rfl ?_ |refine AWP.condT rfl ?_ |(refine AWP.condD rfl ?_ ?_ <;> intro _ <;> try (exfalso; omega)) |apply qb |apply qk |apply qx |refine qK ?_ |refine Fl.rel rfl rfl rfl rfl rfl rfl rfl rfl (by omega) (by first | omega | (simp; omega)) ?_ |(refine Fl.rldW rfl rfl rfl rfl rfl rfl rfl (fun _ => rfl) (fun _ => rfl) (by first | omega | (simp; omega)) (by assumption) ?_; intro _ _ _ _) |refine Fl.sumM rfl rfl rfl rfl rfl rfl ?_ |(refine Fl.splitD rfl rfl ?_ ?_ <;> intro _ <;> try (exfalso; omega))))
      ·rename_i h1 h2;have hq := d.down e0 e1 e2 f1 f2 g0 g1 g3 (.inl (by omega));have hs := d.stop (q := q - 1) (r := r + v1) e0 e1 e2 f1 f2 (by rw [Int.sub_mul]; omega) (by omega) (by omega) (.inr (by omega));refine JoinOk.of (q - 1) ⟨hq, hs.2, by omega, hs.1⟩ ?_;refine Ent.of [] ?_ ?_ rfl rfl;(repeat' (first |exact True.intro |refine ⟨⟨AV.Le.refl _, rfl⟩, ?_⟩ |refine ⟨⟨⟨_, rfl, BLe.row rfl⟩, rfl⟩, ?_⟩|fail))
       try omega
      ·rename_i h1 h2;have hq := d.down e0 e1 e2 f1 f2 g0 g1 g3 (.inl (by omega));refine LoopEnd.of (q - 1, r + v1) ⟨by rw [Int.sub_mul]; omega, by omega, by omega, by omega, by omega, hq⟩ (by simp only; omega) ?_;refine Ent.of [] ?_ ?_ rfl rfl;(repeat' (first |exact True.intro |refine ⟨⟨AV.Le.refl _, rfl⟩, ?_⟩ |refine ⟨⟨⟨_, rfl, BLe.row rfl⟩, rfl⟩, ?_⟩|fail))
       try omega
      ·rename_i h1 p0 p1 x2 hx2 hx20 hx21 h3 h2;rw [p32] at h3;rw [get_part (j := m) (by omega) (by omega), e2] at hx2;injection hx2 with hx2;subst hx2;have hqv : 0 ≤ q * v2 := Int.mul_nonneg g3 c2.1;have hqv2 : q * v2 ≤ 4294967295 * v2 := Int.mul_le_mul_of_nonneg_right (by omega) c2.1;have hq := d.down e0 e1 e2 f1 f2 g0 g1 g3 (.inr (by omega));have hQ := (quo_spec hV' hU').2.2.1;have hs := d.stop (q := q - 1) (r := r + v1) e0 e1 e2 f1 f2 (by rw [Int.sub_mul]; omega) (by omega) (by omega) (.inr (by omega));refine JoinOk.of (q - 1) ⟨hq, hs.2, by omega, hs.1⟩ ?_;refine Ent.of [] ?_ ?_ rfl rfl;(repeat' (first |exact True.intro |refine ⟨⟨AV.Le.refl _, rfl⟩, ?_⟩ |refine ⟨⟨⟨_, rfl, BLe.row rfl⟩, rfl⟩, ?_⟩ |refine ⟨⟨AV.Le.int ?_, rfl⟩, ?_⟩|fail))
       try omega
      ·rename_i h1 p0 p1 x2 hx2 hx20 hx21 h3 h2;rw [p32] at h3;rw [get_part (j := m) (by omega) (by omega), e2] at hx2;injection hx2 with hx2;subst hx2;have hqv : 0 ≤ q * v2 := Int.mul_nonneg g3 c2.1;have hqv2 : q * v2 ≤ 4294967295 * v2 := Int.mul_le_mul_of_nonneg_right (by omega) c2.1;have hq := d.down e0 e1 e2 f1 f2 g0 g1 g3 (.inr (by omega));have hQ := (quo_spec hV' hU').2.2.1;refine LoopEnd.of (q - 1, r + v1) ⟨by rw [Int.sub_mul]; omega, by omega, by omega, by omega, by omega, hq⟩ (by simp only; omega) ?_;refine Ent.of [] ?_ ?_ rfl rfl;(repeat' (first |exact True.intro |refine ⟨⟨AV.Le.refl _, rfl⟩, ?_⟩ |refine ⟨⟨⟨_, rfl, BLe.row rfl⟩, rfl⟩, ?_⟩ |refine ⟨⟨AV.Le.int ?_, rfl⟩, ?_⟩|fail))
       try omega
      ·rename_i h1 p0 p1 x2 hx2 hx20 hx21 h3;rw [p32] at h3;rw [get_part (j := m) (by omega) (by omega), e2] at hx2;injection hx2 with hx2;subst hx2;have hqv : 0 ≤ q * v2 := Int.mul_nonneg g3 c2.1;have hqv2 : q * v2 ≤ 4294967295 * v2 := Int.mul_le_mul_of_nonneg_right (by omega) c2.1;have hs := d.stop (q := q) (r := r) e0 e1 e2 f1 f2 g0 g1 g3 (.inl ⟨by omega, by omega⟩);refine JoinOk.of q ⟨g5, hs.2, g3, hs.1⟩ ?_;refine Ent.of [] ?_ ?_ rfl rfl;(repeat' (first |exact True.intro |refine ⟨⟨AV.Le.refl _, rfl⟩, ?_⟩ |refine ⟨⟨⟨_, rfl, BLe.row rfl⟩, rfl⟩, ?_⟩|fail))
    ·intro q ⟨g0, g1, g2, g3⟩;refine AWP.seqS ?_;(repeat' (first |refine qv ?_ |apply qn |apply qr));refine ⟨?_⟩;refine AWP.seqJ (G := List Int × Int) (fun (lo, b) => lo.length = m + 3 ∧ WOk lo ∧ 0 ≤ b ∧ b ≤ 1 ∧ val lo = val mid - q * val v + b * BB (m + 3)) (fun (lo, b) => St.of [] [(6, aN k), (7, .row 37), (8, aW v), (9, aN (m + 2)), (10, .row 50), (11, aN i'), (13, aU q), (16, aU b)] [(37, .row 1 eW (A ++ lo ++ C) 62), (50, .row 1 eW O 62)]) ?_ ?_
     ·(repeat' (first |refine qv ?_ |apply qn |apply qs |apply qr |apply qb));refine AWP.loop (G := List Int × Int × Int) (fun (lo, c, b) => lo.length ≤ m + 3 ∧ WOk lo ∧ 0 ≤ c ∧ c < 4294967296 ∧ 0 ≤ b ∧ b ≤ 1 ∧ (lo.length = m + 3 → c = 0) ∧ val lo = val (mid.take lo.length) - q * val (v.take lo.length) + (c + b) * BB lo.length) (fun (lo, c, b) => St.of [] [(6, aN k), (7, .row 37), (8, aW v), (9, aN (m + 2)), (10, .row 50), (11, aN i'), (13, aU q), (15, aU c), (16, aU b), (17, aN lo.length)] [(37, .row 1 eW (A ++ (lo ++ mid.drop lo.length) ++ C) 62), (50, .row 1 eW O 62)]) (fun (lo, c, b) => m + 3 - lo.length) ([], 0, 0) ⟨by simp, WOk.nil, by omega, by omega, by omega, by omega, by simp, by simp [val]⟩ ?_ ?_
      ·refine Ent.of [] ?_ ?_ rfl rfl;(repeat' (first |exact True.intro |refine ⟨⟨AV.Le.refl _, rfl⟩, ?_⟩ |refine ⟨⟨⟨_, rfl, BLe.row rfl⟩, rfl⟩, ?_⟩|fail))
      ·intro ⟨lo, c, b⟩ ⟨k0, k1, k2, k3, k4, k5, k6, k7⟩;have hW2 : WOk (A ++ (lo ++ mid.drop lo.length) ++ C) := (wA.append (k1.append (d.wm.drop _))).append wC
       have hml2 : (lo ++ mid.drop lo.length).length = mid.length := by rw [List.length_append, List.length_drop]; omega
       (repeat' (first |refine qv ?_ |apply qn |apply qs |apply qr |refine qw ?_ |(refine Fl.mulW rfl rfl rfl rfl rfl (by omega) (by omega) (by omega) (by omega) ?_; intro _ _) |(refine AWP.condD rfl ?_ ?_ <;> intro _ <;> try (exfalso; omega)) |apply qb |apply qk |apply qx |(refine Fl.elW rfl rfl rfl rfl rfl rfl rfl rfl (by omega) (by omega) (by assumption) ?_; intro _ _ _ _) |refine Fl.rel rfl rfl rfl rfl rfl rfl rfl rfl (by omega) (by first | omega | (simp; omega)) ?_ |(refine Fl.rldW rfl rfl rfl rfl rfl rfl rfl (fun _ => rfl) (fun _ => rfl) (by first | omega | (simp; omega)) (by assumption) ?_; intro _ _ _ _) |refine Fl.rst rfl rfl rfl rfl rfl rfl rfl rfl rfl rfl rfl (LeL.refl _) rfl (by first | omega | (simp; omega)) ?_ |refine Fl.sumM rfl rfl rfl rfl rfl rfl ?_))
       ·rename_i hi1 hi2 x1 hx1 hx10 hx11 p0 p1 y1 hy1 hy10 hy11;rw [Int.toNat_natCast] at hx1;rw [get_part (j := lo.length) (by omega) (by omega), get_drop rfl] at hy1;obtain ⟨X, hX'⟩ : ∃ X, X = q * x1 := ⟨_, rfl⟩;rw [← hX'] at p0 p1;obtain ⟨w1, hw1⟩ : ∃ w1, w1 = (y1 - (X + c) % 4294967296 - b) % 4294967296 := ⟨_, rfl⟩;obtain ⟨b', hb'⟩ : ∃ b', b' = 1 - (y1 + 4294967296 - (X + c) % 4294967296 - b) / 4294967296 := ⟨_, rfl⟩;have hst2 := sub_step (w := w1) (b' := (X + c) / 4294967296 + b') rfl hy1 hx1 k7 (by rw [← hX']; omega)
        have hXm : X ≤ 4294967295 * 4294967295 := by
         rw [hX'];have a : q * x1 ≤ 4294967295 * x1 := Int.mul_le_mul_of_nonneg_right (by omega) hx10;omega
        refine LoopEnd.of (lo ++ [w1], (X + c) / 4294967296, b') ⟨by simp; omega, k1.append (WOk.cons (by omega) (by omega) WOk.nil), by omega, by omega, by omega, by omega, fun h => by simp at h; omega, by rw [List.length_append]; exact hst2⟩ (by simp only [List.length_append, List.length_cons, List.length_nil]; omega) ?_;refine Ent.of [] ?_ ?_ rfl rfl;(repeat' (first |exact True.intro |refine ⟨⟨AV.Le.refl _, rfl⟩, ?_⟩ |refine ⟨⟨⟨_, rfl, BLe.row rfl⟩, rfl⟩, ?_⟩ |refine ⟨⟨⟨_, rfl, BLe.row ?_⟩, rfl⟩, ?_⟩ |refine ⟨⟨AV.Le.int ?_, rfl⟩, ?_⟩|fail))
        ·rw [p32, hX', Int.add_comm]
        ·rw [p32, hb', bitN_and32 (show (0 : Int) ≤ c + q * x1 by omega), ← hX'];omega
        ·simp
        ·rw [show (lo ++ [w1]).length = lo.length + 1 by simp];refine (set_part (j := lo.length) (by omega) (by omega)).trans (congrArg (fun M => A ++ M ++ C) (set_drop (w' := w1) rfl (by omega) ?_));rw [bitN_and32 (show (0 : Int) ≤ c + q * x1 by omega), ← hX', bitN_and32 (by omega)];omega
       ·rename_i hi1 hi2 y1 hy1 hy10 hy11;rw [get_part (j := lo.length) (by omega) (by omega), get_drop rfl] at hy1
        have hl2 : lo.length = m + 2 := by omega
        obtain ⟨w1, hw1⟩ : ∃ w1, w1 = (y1 - c - b) % 4294967296 := ⟨_, rfl⟩;obtain ⟨b', hb'⟩ : ∃ b', b' = 1 - (y1 + 4294967296 - c - b) / 4294967296 := ⟨_, rfl⟩;have hst2 := sub_last (V := val v) (q := q) (w := w1) (b' := b') rfl hy1 (by rw [k7, hl2, show v.take (m + 2) = v by rw [← d.hv, List.take_length]]) (by omega);refine LoopEnd.of (lo ++ [w1], 0, b') ⟨by simp; omega, k1.append (WOk.cons (by omega) (by omega) WOk.nil), by omega, by omega, by omega, by omega, fun _ => rfl, ?_⟩ (by simp only [List.length_append, List.length_cons, List.length_nil]; omega) ?_
        ·rw [List.length_append, Int.zero_add, show v.take (lo.length + [w1].length) = v from List.take_of_length_le (by rw [d.hv]; simp; omega)]; exact hst2
        refine Ent.of [] ?_ ?_ rfl rfl;(repeat' (first |exact True.intro |refine ⟨⟨AV.Le.refl _, rfl⟩, ?_⟩ |refine ⟨⟨⟨_, rfl, BLe.row rfl⟩, rfl⟩, ?_⟩ |refine ⟨⟨⟨_, rfl, BLe.row ?_⟩, rfl⟩, ?_⟩ |refine ⟨⟨AV.Le.int ?_, rfl⟩, ?_⟩|fail))
        ·rw [p32]; omega
        ·rw [p32, hb', bitN_and32 (show (0 : Int) ≤ c by omega)];omega
        ·simp
        ·rw [show (lo ++ [w1]).length = lo.length + 1 by simp];refine (set_part (j := lo.length) (by omega) (by omega)).trans (congrArg (fun M => A ++ M ++ C) (set_drop (w' := w1) rfl (by omega) ?_));rw [bitN_and32 (show (0 : Int) ≤ c by omega), bitN_and32 (by omega)];omega
       ·rename_i hi1
        have hl : lo.length = m + 3 := by omega
        refine JoinOk.of (lo, b) ⟨hl, k1, k4, k5, ?_⟩ ?_
        ·rw [k7, hl, k6 hl, Int.zero_add, show v.take (m + 3) = v from List.take_of_length_le (by rw [d.hv]; omega), show mid.take (m + 3) = mid from List.take_of_length_le (by omega)]
        ·refine Ent.of [] ?_ ?_ rfl rfl;(repeat' (first |exact True.intro |refine ⟨⟨AV.Le.refl _, rfl⟩, ?_⟩ |refine ⟨⟨⟨_, rfl, BLe.row rfl⟩, rfl⟩, ?_⟩ |refine ⟨⟨⟨_, rfl, BLe.row ?_⟩, rfl⟩, ?_⟩|fail));rw [List.drop_eq_nil_of_le (by omega), List.append_nil]
     ·intro ⟨lo, b⟩ ⟨k0, k1, k2, k3, k4⟩;have hW2 : WOk (A ++ lo ++ C) := (wA.append k1).append wC;have hlo := val_lt k1;have hlo0 := val_nonneg k1;rw [k0] at hlo
      have hml3 : lo.length = mid.length := by omega
      have hr0' := Int.emod_nonneg (val mid) (show val v ≠ 0 by omega);have hr1' := Int.emod_lt_of_pos (val mid) hV';rw [hVv] at hr1'
      have hq1 : val mid / val v = val mid / (y * 2 ^ k) := by rw [hVv]
      have hr2 : val mid % val v = val mid % (y * 2 ^ k) := by rw [hVv]
      refine AWP.seqJ (G := Unit) (fun _ => True) (fun _ => St.of [] [(6, aN k), (7, .row 37), (8, aW v), (9, aN (m + 2)), (10, .row 50), (11, aN i'), (13, aU (val mid / val v))] [(37, .row 1 eW (A ++ wdW (m + 3) (val mid % val v) ++ C) 62), (50, .row 1 eW O 62)]) ?_ ?_
      ·(repeat' (first |refine qv ?_ |apply qn |apply qs |apply qr |(refine AWP.condD rfl ?_ ?_ <;> intro _ <;> try (exfalso; omega)) |apply qb |apply qk |refine Fl.sumM rfl rfl rfl rfl rfl rfl ?_))
       ·rename_i h1
        have hβ1 : b = 1 := by omega
        rw [hβ1, Int.one_mul] at k4;obtain ⟨r1, r2⟩ := dig_end1 hV' hU' g0 g1 (by omega);have hQn := (quo_spec hV' hU').2.2.1;refine AWP.loop (G := List Int × Int) (fun (hi, c) => hi.length ≤ m + 3 ∧ WOk hi ∧ 0 ≤ c ∧ c ≤ 1 ∧ val hi + c * BB hi.length = val (lo.take hi.length) + val (v.take hi.length)) (fun (hi, c) => St.of [] [(6, aN k), (7, .row 37), (8, aW v), (9, aN (m + 2)), (10, .row 50), (11, aN i'), (13, aU (q - 1)), (20, aU c), (21, aN hi.length)] [(37, .row 1 eW (A ++ (hi ++ lo.drop hi.length) ++ C) 62), (50, .row 1 eW O 62)]) (fun (hi, c) => m + 3 - hi.length) ([], 0) ⟨by simp, WOk.nil, by omega, by omega, by simp [val]⟩ ?_ ?_
        ·refine Ent.of [] ?_ ?_ rfl rfl;(repeat' (first |exact True.intro |refine ⟨⟨AV.Le.refl _, rfl⟩, ?_⟩ |refine ⟨⟨⟨_, rfl, BLe.row rfl⟩, rfl⟩, ?_⟩ |refine ⟨⟨AV.Le.int ?_, rfl⟩, ?_⟩|fail));omega
        ·intro ⟨hi, c⟩ ⟨j0, j1, j2, j3, j4⟩;have hW3 : WOk (A ++ (hi ++ lo.drop hi.length) ++ C) := (wA.append (j1.append (k1.drop _))).append wC
         have hml4 : (hi ++ lo.drop hi.length).length = mid.length := by rw [List.length_append, List.length_drop]; omega
         (repeat' (first |refine qv ?_ |apply qn |apply qs |apply qr |refine qw ?_ |(refine AWP.condD rfl ?_ ?_ <;> intro _ <;> try (exfalso; omega)) |apply qb |apply qk |apply qx |(refine Fl.elW rfl rfl rfl rfl rfl rfl rfl rfl (by omega) (by omega) (by assumption) ?_; intro _ _ _ _) |refine Fl.rel rfl rfl rfl rfl rfl rfl rfl rfl (by omega) (by first | omega | (simp; omega)) ?_ |(refine Fl.rldW rfl rfl rfl rfl rfl rfl rfl (fun _ => rfl) (fun _ => rfl) (by first | omega | (simp; omega)) (by assumption) ?_; intro _ _ _ _) |refine Fl.rst rfl rfl rfl rfl rfl rfl rfl rfl rfl rfl rfl (LeL.refl _) rfl (by first | omega | (simp; omega)) ?_|fail))
         ·rename_i hi0 z hz hz0 hz1 hi2 x1 hx1 hx10 hx11;rw [Int.toNat_natCast] at hx1;rw [get_part (j := hi.length) (by omega) (by omega), get_drop rfl] at hz;obtain ⟨s, hs⟩ : ∃ s, s = z + x1 + c := ⟨_, rfl⟩;have hst2 := add_step (w := s % 4294967296) (c' := s / 4294967296) rfl hz hx1 j4 (by omega);refine LoopEnd.of (hi ++ [s % 4294967296], s / 4294967296) ⟨by simp; omega, j1.append (WOk.cons (by omega) (by omega) WOk.nil), by omega, by omega, by rw [List.length_append]; exact hst2⟩ (by simp only [List.length_append, List.length_cons, List.length_nil]; omega) ?_;refine Ent.of [] ?_ ?_ rfl rfl;(repeat' (first |exact True.intro |refine ⟨⟨AV.Le.refl _, rfl⟩, ?_⟩ |refine ⟨⟨⟨_, rfl, BLe.row rfl⟩, rfl⟩, ?_⟩ |refine ⟨⟨⟨_, rfl, BLe.row ?_⟩, rfl⟩, ?_⟩ |refine ⟨⟨AV.Le.int ?_, rfl⟩, ?_⟩|fail))
          ·rw [p32]; omega
          ·simp
          ·rw [show (hi ++ [s % 4294967296]).length = hi.length + 1 by simp];refine (set_part (j := hi.length) (by omega) (by omega)).trans (congrArg (fun M => A ++ M ++ C) (set_drop (w' := s % 4294967296) rfl (by omega) ?_));rw [bitN_and32 (by omega)];omega
         ·rename_i hi0 z hz hz0 hz1 hi2;rw [get_part (j := hi.length) (by omega) (by omega), get_drop rfl] at hz
          have hl2 : hi.length = m + 2 := by omega
          obtain ⟨s, hs⟩ : ∃ s, s = z + c := ⟨_, rfl⟩;have hst2 := add_last (V := val v) (w := s % 4294967296) (c' := s / 4294967296) rfl hz (by rw [j4, hl2, show v.take (m + 2) = v by rw [← d.hv, List.take_length]]) (by omega);refine LoopEnd.of (hi ++ [s % 4294967296], s / 4294967296) ⟨by simp; omega, j1.append (WOk.cons (by omega) (by omega) WOk.nil), by omega, by omega, ?_⟩ (by simp only [List.length_append, List.length_cons, List.length_nil]; omega) ?_
          ·rw [List.length_append, show v.take (hi.length + [s % 4294967296].length) = v from List.take_of_length_le (by rw [d.hv]; simp; omega)]; exact hst2
          refine Ent.of [] ?_ ?_ rfl rfl;(repeat' (first |exact True.intro |refine ⟨⟨AV.Le.refl _, rfl⟩, ?_⟩ |refine ⟨⟨⟨_, rfl, BLe.row rfl⟩, rfl⟩, ?_⟩ |refine ⟨⟨⟨_, rfl, BLe.row ?_⟩, rfl⟩, ?_⟩ |refine ⟨⟨AV.Le.int ?_, rfl⟩, ?_⟩|fail))
          ·rw [p32]; omega
          ·simp
          ·rw [show (hi ++ [s % 4294967296]).length = hi.length + 1 by simp];refine (set_part (j := hi.length) (by omega) (by omega)).trans (congrArg (fun M => A ++ M ++ C) (set_drop (w' := s % 4294967296) rfl (by omega) ?_));rw [bitN_and32 (by omega)];omega
         ·rename_i hi0
          have hhl : hi.length = m + 3 := by omega
          have hh0 := val_nonneg j1;have hh1 := val_lt j1;rw [hhl] at hh1;rw [hhl, show v.take (m + 3) = v from List.take_of_length_le (by rw [d.hv]; omega), show lo.take (m + 3) = lo from List.take_of_length_le (by omega)] at j4;have hpB := hp'.2
          have hB2 : BB (m + 2) ≤ BB (m + 3) := by rw [show m + 3 = m + 2 + 1 from rfl, BB_succ (m + 2)]; have := BB_pos (m + 2); omega
          have ht1 : val mid % val v < BB (m + 3) := by have := Int.emod_lt_of_pos (val mid) hV'; omega
          have hback := add_carry (BB_pos (m + 3)) (t := val mid % val v) (by rw [j4, k4, ← r2]; omega) hh0 hh1 hr0' ht1;have hF := wdW_eq j1;rw [hhl, hback] at hF;refine JoinOk.of () trivial ?_;refine Ent.of [] ?_ ?_ rfl rfl;(repeat' (first |exact True.intro |refine ⟨⟨AV.Le.refl _, rfl⟩, ?_⟩ |refine ⟨⟨⟨_, rfl, BLe.row rfl⟩, rfl⟩, ?_⟩ |refine ⟨⟨⟨_, rfl, BLe.row ?_⟩, rfl⟩, ?_⟩ |refine ⟨⟨AV.Le.int ?_, rfl⟩, ?_⟩|fail))
          ·exact r1
          ·rw [List.drop_eq_nil_of_le (by omega), List.append_nil, ← hF]
       ·rename_i h1
        have hβ0 : b = 0 := by omega
        rw [hβ0, Int.zero_mul, Int.add_zero] at k4;obtain ⟨r1, r2⟩ := dig_end0 hV' hU' g0 g1 (by omega);have hF := wdW_eq k1;rw [k0, k4, r2] at hF;refine JoinOk.of () trivial ?_;refine Ent.of [] ?_ ?_ rfl rfl;(repeat' (first |exact True.intro |refine ⟨⟨AV.Le.refl _, rfl⟩, ?_⟩ |refine ⟨⟨⟨_, rfl, BLe.row rfl⟩, rfl⟩, ?_⟩ |refine ⟨⟨⟨_, rfl, BLe.row ?_⟩, rfl⟩, ?_⟩ |refine ⟨⟨AV.Le.int ?_, rfl⟩, ?_⟩|fail))
        ·exact r1
        ·rw [← hF]
      ·intro _ _;have hwl : (wdW (m + 3) (val mid % val v)).length = m + 3 := wdW_length _ _;(repeat' (first |refine qv ?_ |apply qn |apply qr |refine qw ?_ |refine Fl.rel rfl rfl rfl rfl rfl rfl rfl rfl (by omega) (by first | omega | (simp; omega)) ?_ |refine Fl.rst rfl rfl rfl rfl rfl rfl rfl rfl rfl rfl rfl (LeL.refl _) rfl (by first | omega | (simp; omega)) ?_|fail));refine LoopEnd.of (i', val mid / (y * 2 ^ k) :: os, val mid % (y * 2 ^ k)) hst (by simp only; omega) ?_;refine Ent.of [] ?_ ?_ rfl rfl;(repeat' (first |exact True.intro |refine ⟨⟨AV.Le.refl _, rfl⟩, ?_⟩ |refine ⟨⟨⟨_, rfl, BLe.row ?_⟩, rfl⟩, ?_⟩|fail))
       ·rw [hend _ hst.r0 hst.r1, ← hr2, ← List.append_assoc, hA]
       ·rw [hO];refine set_zeros (by omega) rfl ?_;have hqB : val mid / val v < 4294967296 := Int.ediv_lt_of_lt_mul hV' d.lt;have hqn := (quo_spec hV' hU').2.2.1;rw [← hq1];exact Int.emod_eq_of_lt hqn hqB
   ·have hi : i = 0 := by omega
    subst hi;refine JoinOk.of (os, ρ) hd ?_;refine Ent.of [] ?_ ?_ rfl rfl;(repeat' (first |exact True.intro |refine ⟨⟨AV.Le.refl _, rfl⟩, ?_⟩ |refine ⟨⟨⟨_, rfl, BLe.row rfl⟩, rfl⟩, ?_⟩|fail))
 ·intro ⟨os, ρ⟩ hd;have hd : DivInv U (y * 2 ^ k) (m + 2) N 0 os ρ := hd;have hv1 := hd.hv;rw [List.drop_zero, hUv] at hv1;obtain ⟨r1, r2⟩ := over_end hv1 hd.r0 hd.r1;obtain ⟨s1, s2⟩ := div_shift (x := x) (k := k) hy hx;have hr1 := hd.r1;have hr0 := hd.r0;have hol := hd.hl
  have hu : val (wdW (m + 2) ρ ++ List.replicate N 0) = ρ := by
   rw [val_append, val_zeros, val_wdW (m + 2) ρ hd.r0 (by omega)]; omega
  have hul : (wdW (m + 2) ρ ++ List.replicate N 0).length = N + (m + 2) := by
   rw [List.length_append, wdW_length, List.length_replicate]; omega
  have htr := rMake_ok false (wdW (m + 2) ρ ++ List.replicate N 0) ((wdW_ok _ _).append (WOk.zeros _)) (by omega);rw [hu, show sg false ρ = ρ by simp [sg]] at htr
  have hρl : (toW ρ).length ≤ 40000 := by
   have := (toW_len_le hd.r0 (m + 2)).2 (by omega);omega
  (repeat' (first |refine qv ?_ |apply qs |apply qr));refine Fl.callF rfl 37 rfl htr rfl rfl rfl (LeL.refl _) ?_;(repeat' (first |refine qv ?_ |refine qw ?_|fail));refine Fl.call rfl (rShiftR_ok ρ k hd.r0 hρl (by omega)) rfl rfl rfl (LeL.cons (AV.Le.refl _) (LeL.cons (AV.Le.int (by omega)) LeL.nil)) ?_;(repeat' (first |refine qv ?_ |apply qn |apply qt));refine RetOk.ent (Ent.freeze 50 rfl) ?_;refine RetOk.of rfl ?_;have ho := wdW_eq hd.wo;rw [show os.length = N by omega, r1, s1] at ho;rw [show ((ρ / 2 ^ k).natAbs : Int) = ρ / 2 ^ k from Int.natAbs_of_nonneg (Int.ediv_nonneg hr0 (by omega)), ← ho, r2, s2];exact AV.Le.refl _
end Go.Proofs.YtcaecieigoplbaaGreat
/- ref01.Div and Divides. -/
namespace Go.AL
theorem quo_signs (x y Q R : Int) (hy : y ≠ 0) (hQ : Q = (x.natAbs : Int) / (y.natAbs : Int)) (hR : R = (x.natAbs : Int) % (y.natAbs : Int)) :
  (0 ≤ x → 0 < y → Q = x / y ∧ R = x % y) ∧ (0 ≤ x → y < 0 → -Q = x / y ∧ R = x % y) ∧
  (x < 0 → R = 0 → 0 < y → -Q = x / y ∧ R = x % y) ∧ (x < 0 → R = 0 → y < 0 → Q = x / y ∧ R = x % y) ∧
  (x < 0 → R ≠ 0 → 0 < y → -(Q + 1) = x / y ∧ (y.natAbs : Int) - R = x % y) ∧ (x < 0 → R ≠ 0 → y < 0 → Q + 1 = x / y ∧ (y.natAbs : Int) - R = x % y) := by
 obtain ⟨Y, hY⟩ : ∃ Y : Int, Y = (y.natAbs : Int) := ⟨_, rfl⟩;obtain ⟨X, hX⟩ : ∃ X : Int, X = (x.natAbs : Int) := ⟨_, rfl⟩;rw [← hX, ← hY] at hQ hR;rw [← hY]
 have hY0 : 0 < Y := by omega
 have h1 := Int.mul_ediv_add_emod X Y;have h2 := Int.emod_nonneg X (show Y ≠ 0 by omega);have h3 := Int.emod_lt_of_pos X hY0;rw [← hQ, ← hR] at h1;rw [← hR] at h2 h3
 have key : ∀ q r : Int, r + Y * q = x → 0 ≤ r → r < Y → (0 < y → q = x / y ∧ r = x % y) ∧ (y < 0 → -q = x / y ∧ r = x % y) := by
  intro q r e a b;have hu := (Int.ediv_emod_unique (a := x) (b := Y) (q := q) (r := r) hY0).2 ⟨e, a, b⟩;refine ⟨fun h => ?_, fun h => ?_⟩
  ·rw [show y = Y by omega]; exact ⟨hu.1.symm, hu.2.symm⟩
  ·rw [show y = -Y by omega, Int.ediv_neg, Int.emod_neg]; exact ⟨by rw [hu.1], hu.2.symm⟩
 refine ⟨fun a b => ?_, fun a b => ?_, fun a b c => ?_, fun a b c => ?_, fun a b c => ?_, fun a b c => ?_⟩
 ·exact (key Q R (by omega) h2 h3).1 b
 ·exact (key Q R (by omega) h2 h3).2 b
 ·exact (key (-Q) R (by rw [Int.mul_neg]; omega) h2 h3).1 c
 ·have := (key (-Q) R (by rw [Int.mul_neg]; omega) h2 h3).2 c;rwa [Int.neg_neg] at this
 ·exact (key (-(Q + 1)) (Y - R) (by rw [Int.mul_neg, Int.mul_add]; omega) (by omega) (by omega)).1 c
 ·have := (key (-(Q + 1)) (Y - R) (by rw [Int.mul_neg, Int.mul_add]; omega) (by omega) (by omega)).2 c;rwa [Int.neg_neg] at this
theorem toW_mono {a b : Int} (h0 : 0 ≤ a) (h : a ≤ b) : (toW a).length ≤ (toW b).length := by
 refine (toW_len_le h0 _).2 ?_;have := (toW_len_le (z := b) (by omega) (toW b).length).1 (Nat.le_refl _);omega
theorem abs_self {x : Int} (h : 0 ≤ x) : ((x.natAbs : Nat) : Int) = x := by omega
end Go.AL
namespace Go.Proofs.YtcaecieigoplbaaGreat
open Go.AL

set_option maxHeartbeats 1000000 in
theorem rDiv_ok (x y : Int) (hy : y ≠ 0) (hxl : lenI x ≤ 39000) (hyl : lenI y ≤ 39000) : PureFn Tryz.prog 84 [aX x, aX y] (.tup [aX (x / y), aX (x % y)]) := by
 refine PureFn.of_body Tryz.func84 rfl Tryz.ntmps84 rfl rfl ?_;obtain ⟨Y, hY⟩ : ∃ Y : Int, Y = (y.natAbs : Int) := ⟨_, rfl⟩;obtain ⟨X, hX⟩ : ∃ X : Int, X = (x.natAbs : Int) := ⟨_, rfl⟩;obtain ⟨Q, hQ⟩ : ∃ Q : Int, Q = X / Y := ⟨_, rfl⟩;obtain ⟨R, hR⟩ : ∃ R : Int, R = X % Y := ⟨_, rfl⟩
 have hY0 : 0 < Y := by omega
 have hX0 : 0 ≤ X := by omega
 have hlX : (toW X).length ≤ 39000 := by rw [hX]; exact hxl
 have hlY : (toW Y).length ≤ 39000 := by rw [hY]; exact hyl
 have hsg := quo_signs x y Q R hy (by rw [hQ, hX, hY]) (by rw [hR, hX, hY]);rw [← hY] at hsg;have wY := toW_ok Y;have hR0 := Int.emod_nonneg X (show Y ≠ 0 by omega);have hR1 := Int.emod_lt_of_pos X hY0;have hQ0 : 0 ≤ X / Y := Int.ediv_nonneg hX0 (by omega);have hQ1 : X / Y ≤ X := Int.ediv_le_self _ hX0;have hlQ : (toW (X / Y)).length ≤ 39000 := Nat.le_trans (toW_mono hQ0 hQ1) hlX;have hlR : (toW (X % Y)).length ≤ 39000 := Nat.le_trans (toW_mono hR0 (by omega)) hlY
 have eX' : aX x = .agg [aB (decide (x < 0)), aW (toW X)] := by rw [hX]
 have eY' : aX y = .agg [aB (decide (y < 0)), aW (toW Y)] := by rw [hY]
 have cX : eX x = [aB (decide (x < 0)), aW (toW X)] := by rw [hX]; rfl
 have cY : eX y = [aB (decide (y < 0)), aW (toW Y)] := by rw [hY]; rfl
 rw [eX', eY']
 have le0 : LeL [aB false, .v (.slice none 0 0)] (eX 0) := by
  show LeL _ [aB (decide ((0 : Int) < 0)), aW (toW (((0 : Int).natAbs : Nat) : Int))];rw [show (((0 : Int).natAbs : Nat) : Int) = 0 from rfl, toW_zero];exact LeL.cons (AV.Le.refl _) (LeL.cons (AV.Le.nil 1 eW) LeL.nil)
 refine AWP.seqS ?_;(repeat' (first |apply qn |apply qr |refine qe ?_|fail));refine ⟨AWP.seqS ?_⟩;(repeat' (first |apply qn |apply qr |refine qe ?_|fail));refine ⟨?_⟩;refine AWP.seqJ (G := Unit) (fun _ => True) (fun _ => St.of [] [(2, .ptr 2 0), (3, .ptr 3 0), (4, .ptr 4 0), (5, .ptr 5 0), (6, .ptr 6 0), (7, .ptr 7 0)] [(2, .cells [aB (decide (x < 0)), aW (toW X)] 35), (3, .cells [aB (decide (y < 0)), aW (toW Y)] 35), (4, .cells [aB false, .v (.slice none 0 0)] 35), (5, .cells [aB false, .v (.slice none 0 0)] 35), (6, .cells (eX Q) 35), (7, .cells (eX R) 35)]) ?_ ?_
 ·(repeat' (first |refine qv ?_ |apply qs |apply qr));refine qc (rorder_ok X Y hX0 (by omega) (by omega) (by omega)) ?_;(repeat' (first |refine qv ?_ |apply qn |apply qs |apply qr |(refine AWP.condD rfl ?_ ?_ <;> intro _ <;> try (exfalso; omega)) |(refine Fl.elW rfl rfl rfl rfl rfl rfl rfl rfl (by omega) (by omega) (by assumption) ?_; intro _ _ _ _)|fail))
  ·rename_i h
   have hlt : X < Y := by
    rcases Int.lt_or_le X Y with h1 | h1
    ·exact h1
    ·rcases Int.lt_or_eq_of_le h1 with h2 | h2
     ·rw [cmpI_gt h2] at h; omega
     ·rw [cmpI_eq h2.symm] at h; omega
   refine Fl.call rfl (rAbs_ok x (show (toW x.natAbs).length ≤ 100000 by rw [← hX]; omega)) rfl rfl rfl (LeL.cons (AV.Le.of_eq eX'.symm) LeL.nil) ?_;(repeat' (first |apply qn |refine qe ?_|fail));refine JoinOk.of () trivial ?_;refine Ent.of [] ?_ ?_ rfl rfl;(repeat' (first |exact True.intro |refine ⟨⟨AV.Le.refl _, rfl⟩, ?_⟩ |refine ⟨⟨⟨_, rfl, BLe.cells (LeL.refl _)⟩, rfl⟩, ?_⟩ |refine ⟨⟨⟨_, rfl, BLe.cells ?_⟩, rfl⟩, ?_⟩|fail))
   ·rw [hQ, Int.ediv_eq_zero_of_lt hX0 hlt]; exact le0
   ·rw [hR, Int.emod_eq_of_lt hX0 hlt, hX]; exact LeL.refl _
  ·rename_i h h1 z hz hz0 hz1
   have hYz : Y = z := by
    have := val_top hz;rw [show (0 : Int).toNat + 1 = (toW Y).length by omega, List.take_length, val_toW (by omega)] at this;rw [this]; simp [val, BB_zero]
   have hv := val_wdW (toW X).length (X / z) (by rw [← hYz]; exact hQ0) (by
    have := (toW_len_le hX0 (toW X).length).1 (Nat.le_refl _)
    rw [← hYz]; omega)
   have hm1 := rMake_ok false (wdW (toW X).length (X / Y)) (wdW_ok _ _) (by rw [wdW_length]; omega);rw [← hYz] at hv;rw [show sg false (val (wdW (toW X).length (X / Y))) = Q by rw [hv, hQ]; simp [sg]] at hm1;have hm2 := rMake_ok false [X % Y] (WOk.cons hR0 (by omega) WOk.nil) (by simp);rw [show sg false (val [X % Y]) = R by rw [hR]; simp [val, sg]] at hm2;have hs := short_ok X z hX0 (by omega) (by omega) hz1;rw [← hYz] at hs;refine Fl.call rfl hs rfl rfl rfl (LeL.cons (AV.Le.refl _) (LeL.cons (AV.Le.int hYz.symm) LeL.nil)) ?_;(repeat' (first |refine qv ?_ |refine Fl.nil (fun _ => by kernel_rfl) ?_ |apply qr));refine qc (hm1) ?_;(repeat' (first |refine qv ?_|fail));refine ql eW [X % Y] ?_;skip;refine qc (hm2) ?_;(repeat' (first |apply qn |refine qe ?_|fail));refine JoinOk.of () trivial ?_;refine Ent.of [] ?_ ?_ rfl rfl;(repeat' (first |exact True.intro |refine ⟨⟨AV.Le.refl _, rfl⟩, ?_⟩ |refine ⟨⟨⟨_, rfl, BLe.cells (LeL.refl _)⟩, rfl⟩, ?_⟩|fail))
  ·rename_i h h1
   have hYX : Y ≤ X := by
    rcases Int.lt_or_le X Y with h2 | h2
    ·rw [cmpI_lt h2] at h; omega
    ·exact h2
   have hlYX := toW_mono (by omega) hYX
   have hYne : (toW Y).length ≠ 0 := fun k => by
    have := (toW_nil_iff (z := Y) (by omega)).1 (List.eq_nil_of_length_eq_zero k);omega
   obtain ⟨m, hm⟩ : ∃ m, (toW Y).length = m + 2 := ⟨(toW Y).length - 2, by omega⟩;obtain ⟨N, hN⟩ : ∃ N, (toW X).length = N + m := ⟨(toW X).length - m, by omega⟩;have hl := long_ok X Y N m hX0 hY0 (by omega) hm hN (by omega)
   have hQB : X / Y < BB N := by
    have a1 : X < BB (toW X).length := (toW_len_le hX0 _).1 (Nat.le_refl _)
    have a2 : BB (m + 1) ≤ Y := by
     rcases Int.lt_or_le Y (BB (m + 1)) with k | k
     ·have := (toW_len_le (z := Y) (by omega) (m + 1)).2 k;omega
     ·exact k
    have a3 : BB m ≤ Y := by rw [BB_succ] at a2; have := BB_pos m; omega
    rw [hN, BB_add] at a1;refine Int.ediv_lt_of_lt_mul hY0 (Int.lt_of_lt_of_le a1 ?_);exact Int.mul_le_mul_of_nonneg_left a3 (Int.le_of_lt (BB_pos _))
   have hm1 := rMake_ok false (wdW N (X / Y)) (wdW_ok _ _) (by rw [wdW_length]; omega);rw [val_wdW N _ hQ0 hQB, show sg false (X / Y) = X / Y by simp [sg]] at hm1;have hm2 := rMake_ok false (toW (X % Y)) (toW_ok _) (by omega);rw [val_toW hR0, show sg false (X % Y) = X % Y by simp [sg]] at hm2;refine qc (hl) ?_;(repeat' (first |refine qv ?_ |apply qn |apply qr));refine qc (hm1) ?_;(repeat' (first |refine qv ?_|fail));refine qc (hm2) ?_;(repeat' (first |apply qn |refine qe ?_|fail));refine JoinOk.of () trivial ?_;refine Ent.of [] ?_ ?_ rfl rfl;(repeat' (first |exact True.intro |refine ⟨⟨AV.Le.refl _, rfl⟩, ?_⟩ |refine ⟨⟨⟨_, rfl, BLe.cells (LeL.refl _)⟩, rfl⟩, ?_⟩ |refine ⟨⟨⟨_, rfl, BLe.cells ?_⟩, rfl⟩, ?_⟩|fail))
   ·rw [hQ]; exact LeL.refl _
   ·rw [hR]; exact LeL.refl _
 intro _ _
 have lQ : lenI Q ≤ 39000 := by
  show (toW ((Q.natAbs : Nat) : Int)).length ≤ _;rw [abs_self (by omega), hQ]; exact hlQ
 have lR : lenI R ≤ 39000 := by
  show (toW ((R.natAbs : Nat) : Int)).length ≤ _;rw [abs_self (by omega), hR]; exact hlR
 have lQ1 : lenI (Q + 1) ≤ 39001 := by
  show (toW (((Q + 1).natAbs : Nat) : Int)).length ≤ _;rw [abs_self (by omega)];refine (toW_len_le (by omega) _).2 ?_;have h1 := (toW_len_le (z := Q) (by omega) 39000).1 (by rw [hQ]; exact hlQ);rw [show (39001 : Nat) = 39000 + 1 from rfl, BB_succ];omega
 have l1 : lenI 1 ≤ 1 := lenI_small (by decide);have lY : lenI ((y.natAbs : Nat) : Int) ≤ 39000 := hyl;rcases Int.lt_or_le x 0 with hx | hx
 ·rw [decide_eq_true hx];by_cases hRz : R = 0
  ·rcases Int.lt_or_le y 0 with hy1 | hy1
   ·rw [decide_eq_true hy1];(repeat' (first |refine qv ?_ |apply qs |apply qr));refine qc (rZeroX_ok R) ?_;(repeat' (first |refine qv ?_ |apply qn |refine Fl.nil (fun _ => by kernel_rfl) ?_ |apply qs |apply qr |refine qe ?_ |refine AWP.condF rfl ?_ |(refine AWP.condN rfl ?_ ?_ <;> intro _ <;> try (exfalso; omega)) |apply qk |apply qt));obtain ⟨s1, s2⟩ := hsg.2.2.2.1 hx hRz hy1;refine RetOk.of rfl ?_;rw [← s1, ← s2];exact AV.Le.refl _
   ·rw [decide_eq_false (show ¬ y < 0 by omega)];(repeat' (first |refine qv ?_ |apply qs |apply qr));refine qc (rZeroX_ok R) ?_;(repeat' (first |refine qv ?_ |apply qn |apply qs |apply qr |refine AWP.condT rfl ?_ |(refine AWP.condN rfl ?_ ?_ <;> intro _ <;> try (exfalso; omega)) |apply qk));refine qc (rNeg_ok Q (show lenI Q ≤ 100000 by omega)) ?_;(repeat' (first |refine qv ?_ |apply qn |refine Fl.nil (fun _ => by kernel_rfl) ?_ |apply qs |apply qr |refine qe ?_ |apply qt));obtain ⟨s1, s2⟩ := hsg.2.2.1 hx hRz (by omega);refine RetOk.of rfl ?_;rw [← s1, ← s2];exact AV.Le.refl _
  ·rcases Int.lt_or_le y 0 with hy1 | hy1
   ·rw [decide_eq_true hy1];(repeat' (first |refine qv ?_ |apply qs |apply qr));refine qc (rZeroX_ok R) ?_;(repeat' (first |refine qv ?_ |apply qn |apply qr |(refine AWP.condN rfl ?_ ?_ <;> intro _ <;> try (exfalso; omega))));refine qc (rOf_ok 1 (by omega) (by omega)) ?_;skip;refine qc (rAdd_ok Q 1 (show lenI Q ≤ 40000 by omega) (show lenI 1 ≤ 40000 by omega)) ?_;(repeat' (first |refine qv ?_|fail));refine Fl.call rfl (rAbs_ok y (show lenI y ≤ 100000 by omega)) rfl rfl rfl (LeL.cons (AV.Le.of_eq (by rw [eY', decide_eq_true hy1]; rfl)) LeL.nil) ?_;(repeat' (first |refine qv ?_|fail));refine qc (rSub_ok (y.natAbs : Int) R (by omega) (show lenI R ≤ 40000 by omega)) ?_;(repeat' (first |refine qv ?_ |apply qn |refine Fl.nil (fun _ => by kernel_rfl) ?_ |apply qs |apply qr |refine qe ?_ |refine AWP.condF rfl ?_ |apply qk |apply qt));obtain ⟨s1, s2⟩ := hsg.2.2.2.2.2 hx hRz hy1;refine RetOk.of rfl ?_;rw [← s1, ← s2, hY];exact AV.Le.refl _
   ·rw [decide_eq_false (show ¬ y < 0 by omega)];(repeat' (first |refine qv ?_ |apply qs |apply qr));refine qc (rZeroX_ok R) ?_;(repeat' (first |refine qv ?_ |apply qn |apply qr |(refine AWP.condN rfl ?_ ?_ <;> intro _ <;> try (exfalso; omega))));refine qc (rOf_ok 1 (by omega) (by omega)) ?_;skip;refine qc (rAdd_ok Q 1 (show lenI Q ≤ 40000 by omega) (show lenI 1 ≤ 40000 by omega)) ?_;(repeat' (first |refine qv ?_|fail));refine Fl.call rfl (rAbs_ok y (show lenI y ≤ 100000 by omega)) rfl rfl rfl (LeL.cons (AV.Le.of_eq (by rw [eY', decide_eq_false (show ¬ y < 0 by omega)]; rfl)) LeL.nil) ?_;(repeat' (first |refine qv ?_|fail));refine qc (rSub_ok (y.natAbs : Int) R (by omega) (show lenI R ≤ 40000 by omega)) ?_;(repeat' (first |refine qv ?_ |apply qn |refine Fl.nil (fun _ => by kernel_rfl) ?_ |apply qs |apply qr |refine qe ?_ |refine AWP.condT rfl ?_));refine qc (rNeg_ok (Q + 1) (show lenI (Q + 1) ≤ 100000 by omega)) ?_;(repeat' (first |refine qv ?_ |apply qn |refine Fl.nil (fun _ => by kernel_rfl) ?_ |apply qs |apply qr |refine qe ?_ |apply qt));obtain ⟨s1, s2⟩ := hsg.2.2.2.2.1 hx hRz (by omega);refine RetOk.of rfl ?_;rw [← s1, ← s2, hY];exact AV.Le.refl _
 ·rw [decide_eq_false (show ¬ x < 0 by omega)];rcases Int.lt_or_le y 0 with hy1 | hy1
  ·rw [decide_eq_true hy1];(repeat' (first |refine qv ?_ |apply qn |apply qs |apply qr |refine Fl.skip rfl rfl ?_ |refine AWP.condT rfl ?_ |refine AWP.condF rfl ?_ |apply qk));refine qc (rNeg_ok Q (show lenI Q ≤ 100000 by omega)) ?_;(repeat' (first |refine qv ?_ |apply qn |refine Fl.nil (fun _ => by kernel_rfl) ?_ |apply qs |apply qr |refine qe ?_ |apply qt));obtain ⟨s1, s2⟩ := hsg.2.1 hx hy1;refine RetOk.of rfl ?_;rw [← s1, ← s2];exact AV.Le.refl _
  ·rw [decide_eq_false (show ¬ y < 0 by omega)];(repeat' (first |refine qv ?_ |apply qn |refine Fl.nil (fun _ => by kernel_rfl) ?_ |apply qs |apply qr |refine qe ?_ |refine Fl.skip rfl rfl ?_ |refine AWP.condF rfl ?_ |apply qk |apply qt));obtain ⟨s1, s2⟩ := hsg.1 hx (by omega);refine RetOk.of rfl ?_;rw [← s1, ← s2];exact AV.Le.refl _
theorem rDivides_ok (x y : Int) (hxl : lenI x ≤ 39000) (hyl : lenI y ≤ 39000) : PureFn Tryz.prog 42 [aX x, aX y] (aB (decide (x ∣ y))) := by
 refine PureFn.of_body Tryz.func42 rfl Tryz.ntmps42 rfl rfl ?_;(repeat' (first |refine qv ?_ |apply qn |apply qs |apply qr |refine qe ?_|fail));refine qc (rZeroX_ok x) ?_;(repeat' (first |refine qv ?_ |apply qn |apply qs |apply qr |(refine AWP.condD rfl ?_ ?_ <;> intro _ <;> try (exfalso; omega)) |apply qk))
 ·rename_i h;refine qc (rZeroX_ok y) ?_;(repeat' (first |refine qv ?_ |apply qn |apply qt));refine RetOk.of rfl (AV.Le.bool ?_);rw [h];exact decide_eq_decide.2 Int.zero_dvd.symm
 ·rename_i h;refine qc (rDiv_ok y x h hyl hxl) ?_;(repeat' (first |refine qv ?_ |apply qn |apply qs |apply qr |refine qe ?_|fail));refine qc (rZeroX_ok (y % x)) ?_;(repeat' (first |refine qv ?_ |apply qn |apply qt));refine RetOk.of rfl (AV.Le.bool ?_);exact decide_eq_decide.2 ⟨Int.dvd_of_emod_eq_zero, Int.emod_eq_zero_of_dvd⟩
end Go.Proofs.YtcaecieigoplbaaGreat
/- lucas.Chi in full; the reference's Pair. -/
namespace Go.AL
theorem chi_res2 {a : Int} {N : Nat} (ha : 2 ≤ a) (hf : Fit a) (hN : N < 2 ^ 63) {r : Int × Int} (hr : r = chF a (atL a N 63 (1, 0, 0)).2.2 (atL a N 63 (1, 0, 0)).1 (atL a N 63 (1, 0, 0)).2.1) : r.1 = clip (chiN a (N + 1)) ∧ r.2 = szErr (chiN a (N + 1)) := by
 have h := atL_ok ha hf (N := N) 63 (1, 0, 0) (.inl (by rw [Nat.div_eq_of_lt hN, chi_zero, psi_zero]))
 have hz : r.2 ≠ 0 → r.1 = 0 := by
  rw [hr]; unfold chF; exact fun h => cV_of_cE h
 have fin : r.2 = 4 → ¬ Fit (chiN a (N + 1)) → r.1 = clip (chiN a (N + 1)) ∧ r.2 = szErr (chiN a (N + 1)) := fun h1 h2 => by
  rw [clip_not h2, szErr_not h2];exact ⟨hz (by omega), h1⟩
 obtain ⟨p1, p2, p3⟩ := cp_pos ha N;rcases h with h | ⟨h1, h2⟩
 ·rw [h] at hr;simp only [Nat.pow_zero, Nat.div_one] at hr;have e1 : 0 ≤ a * psiN a N := Int.mul_nonneg (by omega) p2;have e2 : 0 ≤ a * (a * psiN a N) := Int.mul_nonneg (by omega) e1;have e3 : 0 ≤ a * chiN a N := Int.mul_nonneg (by omega) (by omega);have e4 : 2 * (a * psiN a N) ≤ a * (a * psiN a N) := Int.mul_le_mul_of_nonneg_right ha e1;have e5 : 2 * psiN a N ≤ a * psiN a N := Int.mul_le_mul_of_nonneg_right ha p2;have e6 : 2 * chiN a N ≤ a * chiN a N := Int.mul_le_mul_of_nonneg_right ha (by omega)
  have hs : a * chiN a N + (a * (a * psiN a N) - psiN a N) = chiN a (N + 1) := by rw [chi_succ]; grind
  rcases chF_ok (F := Fit (chiN a (N + 1))) (a := a) (c := chiN a N) (p := psiN a N) hf (fun hc => fit_of hc e1 (by omega)) (fun hc => fit_of hc e2 (by omega)) (fun hc => fit_of hc (by omega) (by omega)) (fun hc => fit_of hc e3 (by omega)) (fun hc => by rw [hs]; exact hc) with ⟨k1, kf⟩ | ⟨k2, n1⟩
  ·rw [hr, k1, hs];rw [hs] at kf;rw [clip_fit kf, szErr_fit kf]; exact ⟨rfl, rfl⟩
  ·rw [← hr] at k2;exact fin k2 n1
 ·refine fin ?_ fun hc => h2 (fit_of hc (cp_pos ha (N + 1)).2.1 (psi_le_chi ha N));rw [hr, h1, chF_err]
theorem chi_not_fit {a : Int} (ha : 2 ≤ a) {n : Nat} (h : 131072 < n) : ¬ Fit (chiN a n) := fun hc => by
 obtain ⟨m, rfl⟩ : ∃ m, n = m + 1 := ⟨n - 1, by omega⟩;exact psi_not_fit ha h (fit_of hc (cp_pos ha (m + 1)).2.1 (psi_le_chi ha m))
theorem lenI_nonneg {x : Int} {k : Nat} (h : 0 ≤ x) : lenI x ≤ k ↔ x < BB k := by
 rw [lenI_le]
 have : ((x.natAbs : Nat) : Int) = x := by omega
 rw [this]
end Go.AL
namespace Go.Proofs.YtcaecieigoplbaaGreat
open Go.AL
theorem elementC2_ok (a n : Int) (ha : Fit a) (h2 : 2 ≤ a) (h0 : 1 ≤ n) (h1 : n ≤ 9223372036854775807) : PureFn Tryz.prog 163 [aX a, aN n, aN 1, .fn 165 []] (aR (chiN a n.toNat)) := by
 refine PureFn.of_body Tryz.func163 rfl Tryz.ntmps163 rfl rfl ?_;(repeat' (first |refine qv ?_ |apply qn |apply qs |apply qr |refine qe ?_|fail));refine qc (fits_ok a ha h2) ?_;(repeat' (first |refine qv ?_ |apply qn |apply qs |apply qr |refine qe ?_ |refine AWP.condF rfl ?_ |(refine AWP.condD rfl ?_ ?_ <;> intro _ <;> try (exfalso; omega)) |apply qb |apply qk |apply qt))
 ·rename_i h;refine RetOk.of rfl ?_;rw [aR_not (chi_not_fit h2 (by omega))];exact AV.Le.tup (LeL.cons aX_zero (LeL.refl _))
 ·rename_i h;refine Fl.io rfl [(900, 33)] (walk_ok a) rfl rfl (LeL.refl _) rfl trivial rfl rfl rfl rfl rfl ?_;(repeat' (first |refine qv ?_ |apply qn |apply qs |apply qr |refine qw ?_|fail));refine qi [(900, 33)] (at_ok a (n - 1) ha (by omega) (by omega)) ?_;skip
  have hN : (((n - 1).toNat : Nat) : Int) = n - 1 := by omega
  have hfc : Fit (atL a (n - 1) 63 (1, 0, 0)).1 ∧ Fit (atL a (n - 1) 63 (1, 0, 0)).2.1 := atL_fit a (n - 1) 63 _ fit_one Fit.zero;refine Fl.ioV rfl rfl [(900, 33)] (chiS_ok a _ _ _ ha hfc.1 hfc.2) rfl rfl (LeL.refl _) rfl ⟨⟨⟨_, rfl, BLe.cells (LeL.refl _)⟩, rfl⟩, trivial⟩ rfl rfl rfl rfl rfl ?_;(repeat' (first |refine qv ?_ |apply qn |refine Fl.nil (fun _ => by kernel_rfl) ?_ |apply qs |apply qr |refine qe ?_ |apply qt));have hr := chi_res2 (a := a) (N := (n - 1).toNat) h2 ha (by omega) rfl;rw [hN, show (n - 1).toNat + 1 = n.toNat by omega] at hr;refine RetOk.of rfl (AV.Le.tup (LeL.cons (AV.Le.agg ?_) (LeL.cons (AV.Le.int hr.2) LeL.nil)));exact leX (σ := []) hr.1
theorem Chi2_ok (a n : Int) (ha : Fit a) (h2 : 2 ≤ a) (h0 : 1 ≤ n) (h1 : n ≤ 9223372036854775807) : PureFn Tryz.prog 100 [aX a, aN n] (aR (chiN a n.toNat)) := by
 refine PureFn.of_body Tryz.func100 rfl Tryz.ntmps100 rfl rfl ?_;(repeat' (first |refine qv ?_ |apply qn |apply qs |apply qr |refine qe ?_|fail));refine qc (elementC2_ok a n ha h2 h0 h1) ?_;(repeat' (first |refine qv ?_ |apply qn |refine qe ?_ |apply qt));exact RetOk.of rfl (AV.Le.refl _)

end Go.Proofs.YtcaecieigoplbaaGreat
/- Polynomials by their coefficients: what is ordered and without zeros is told by them. -/
namespace Go.AL
structure CanU (l : List UT) : Prop where
  nz : ∀ u ∈ l, u.1 ≠ 0
  pw : l.Pairwise fun u v => ordI u.2 v.2 < 0
theorem CanU.nil : CanU [] := ⟨by simp, List.Pairwise.nil⟩
theorem CanU.tail {u : UT} {l : List UT} (h : CanU (u :: l)) : CanU l := ⟨fun v hv => h.nz v (by simp [hv]), (List.pairwise_cons.1 h.pw).2⟩
theorem CanU.head {u : UT} {l : List UT} (h : CanU (u :: l)) : ∀ v ∈ l, ordI u.2 v.2 < 0 := (List.pairwise_cons.1 h.pw).1
theorem CanU.cons {u : UT} {l : List UT} (h : CanU l) (h1 : u.1 ≠ 0) (h2 : ∀ v ∈ l, ordI u.2 v.2 < 0) : CanU (u :: l) := ⟨fun v hv => by
 rcases List.mem_cons.1 hv with rfl | hv
 ·exact h1
 ·exact h.nz v hv, List.pairwise_cons.2 ⟨h2, h.pw⟩⟩
theorem insU_mem {u v : UT} : ∀ {l : List UT}, v ∈ insU u l → v.2 = u.2 ∨ ∃ w ∈ l, v.2 = w.2
 | [], h => by
  unfold insU at h;split at h
  ·simp at h
  ·simp at h; exact .inl (by rw [h])
 | w :: l, h => by
  unfold insU at h;split at h
  ·split at h
   ·exact .inr ⟨v, h, rfl⟩
   ·rcases List.mem_cons.1 h with rfl | h
    ·exact .inl rfl
    ·exact .inr ⟨v, h, rfl⟩
  ·split at h
   ·split at h
    ·exact .inr ⟨v, by simp [h], rfl⟩
    ·rcases List.mem_cons.1 h with rfl | h
     ·exact .inl rfl
     ·exact .inr ⟨v, by simp [h], rfl⟩
   ·rcases List.mem_cons.1 h with rfl | h
    ·exact .inr ⟨v, by simp, rfl⟩
    ·rcases insU_mem h with h | ⟨x, hx, e⟩
     ·exact .inl h
     ·exact .inr ⟨x, by simp [hx], e⟩
theorem insU_can {u : UT} : ∀ {l : List UT}, CanU l → CanU (insU u l)
 | [], h => by
  unfold insU;split
  ·exact CanU.nil
  ·rename_i hz; exact CanU.nil.cons hz (by simp)
 | w :: l, h => by
  unfold insU;split
  ·rename_i ho;split
   ·exact h
   ·rename_i hz;refine h.cons hz fun v hv => ?_;rcases List.mem_cons.1 hv with rfl | hv
    ·exact ho
    ·exact ordI_trans ho (h.head v hv)
  ·rename_i ho;split
   ·rename_i he;split
    ·exact h.tail
    ·rename_i hz
     exact h.tail.cons hz fun v hv => by show ordI u.2 v.2 < 0; rw [he]; exact h.head v hv
   ·rename_i he;refine (insU_can h.tail).cons (h.nz w (by simp)) fun v hv => ?_;rcases insU_mem hv with h1 | ⟨x, hx, e⟩
    ·rw [h1];rcases ordI_total u.2 w.2 with k | k | k
     ·exact absurd k ho
     ·exact absurd k he
     ·exact k
    ·rw [e]; exact h.head x hx
theorem cfU_insU (u : UT) (e : List Int) : ∀ l : List UT, cfU (insU u l) e = (if u.2 = e then u.1 else 0) + cfU l e
 | [] => by
  unfold insU;split
  ·rename_i hz; simp [cfU, hz]
  ·simp [cfU]
 | w :: l => by
  unfold insU;split
  ·split
   ·rename_i hz; simp only [cfU]; rw [hz]; split <;> omega
   ·simp only [cfU]
  ·split
   ·rename_i he;split
    ·rename_i hz;simp only [cfU];rw [he];split <;> omega
    ·simp only [cfU];rw [he];split <;> omega
   ·simp only [cfU];rw [cfU_insU u e l];omega
theorem canU_can : ∀ us : List UT, CanU (canU us)
 | [] => CanU.nil
 | u :: us => insU_can (canU_can us)
theorem cfU_canU (e : List Int) : ∀ us : List UT, cfU (canU us) e = cfU us e
 | [] => rfl
 | u :: us => by
  show cfU (insU u (canU us)) e = _;rw [cfU_insU, cfU_canU e us];rfl
theorem canU_mem {v : UT} : ∀ {us : List UT}, v ∈ canU us → ∃ w ∈ us, v.2 = w.2
 | [], h => by simp [canU] at h
 | u :: us, h => by
  have h' : v ∈ insU u (canU us) := h;rcases insU_mem h' with h1 | ⟨x, hx, e⟩
  ·exact ⟨u, by simp, h1⟩
  ·obtain ⟨w, hw, e2⟩ := canU_mem hx;exact ⟨w, by simp [hw], by rw [e, e2]⟩
theorem zOf_inj {x y : Int} (h : zOf x = zOf y) : x = y := by
 have := congrArg zval h;rwa [zval_zOf, zval_zOf] at this
theorem tz_inj {u v : UT} (h : tz u = tz v) : u = v := by
 obtain ⟨a, e⟩ := u;obtain ⟨b, f⟩ := v;injection h with h1 h2;have h3 := zOf_inj h1;dsimp only at h2 h3;subst h2 h3;rfl
theorem CanU.mem_iff {l : List UT} (h : CanU l) (u : UT) : u ∈ l ↔ u.1 ≠ 0 ∧ cfU l u.2 = u.1 := by
 refine ⟨fun k => ⟨h.nz u k, cfU_one h.pw k⟩, fun ⟨k1, k2⟩ => ?_⟩;obtain ⟨v, hv, e⟩ := cfU_mem (us := l) (e := u.2) (by rw [k2]; exact k1);have := cfU_one h.pw hv;rw [e, k2] at this
 have : u = v := by cases u; cases v; simp_all
 rwa [this]
theorem CanU.pw_tz {l : List UT} (h : CanU l) : (l.map tz).Pairwise fun x y => ordI x.e y.e < 0 := List.pairwise_map.2 h.pw
theorem CanU.ext {a b : List UT} (ha : CanU a) (hb : CanU b) (h : ∀ e, cfU a e = cfU b e) : a = b := by
 have key : a.map tz = b.map tz := sorted_ext ha.pw_tz hb.pw_tz fun t => by
  simp only [List.mem_map];constructor
  ·rintro ⟨u, hu, rfl⟩;exact ⟨u, (hb.mem_iff u).2 (by rw [← h]; exact (ha.mem_iff u).1 hu), rfl⟩
  ·rintro ⟨u, hu, rfl⟩;exact ⟨u, (ha.mem_iff u).2 (by rw [h]; exact (hb.mem_iff u).1 hu), rfl⟩
 have inj : ∀ {a b : List UT}, a.map tz = b.map tz → a = b := by
  intro a
  induction a with
  | nil => intro b h; cases b with
   | nil => rfl
   | cons x b => simp at h
  | cons x a ih => intro b h; cases b with
   | nil => simp at h
   | cons y b =>
    simp only [List.map_cons, List.cons.injEq] at h;rw [tz_inj (u := x) (v := y) (by rw [tz, tz]; simpa using h.1), ih h.2]
 exact inj key
theorem CanU.eq_can {l us : List UT} (h : CanU l) (he : ∀ e, cfU l e = cfU us e) : l = canU us := h.ext (canU_can us) fun e => by rw [he, cfU_canU]
theorem CanU.can {l : List UT} (h : CanU l) : canU l = l := (h.eq_can fun _ => rfl).symm
end Go.AL
/- Lists of terms az the reference holds them: bounds. -/
namespace Go.AL
theorem lenI_neg (x : Int) : lenI (-x) = lenI x := by unfold lenI; rw [Int.natAbs_neg]
theorem lenI_add {x y : Int} {M : Nat} (hx : lenI x ≤ M) (hy : lenI y ≤ M) : lenI (x + y) ≤ M + 1 := by
 rw [lenI_le] at *
 rw [BB_succ];have := BB_pos M;omega
theorem lenI_zero : lenI 0 = 0 := by
 have := (lenI_le (x := 0) (n := 0)).2 (by simp [BB_zero]);omega
def okT (V M : Nat) (l : List UT) : Prop := ∀ u ∈ l, u.2.length = V ∧ EOk u.2 ∧ lenI u.1 ≤ M
theorem okT.nil (V M : Nat) : okT V M [] := fun u h => by simp at h
theorem okT.mono {V M N : Nat} {l : List UT} (h : okT V M l) (hm : M ≤ N) : okT V N l := fun u hu => ⟨(h u hu).1, (h u hu).2.1, Nat.le_trans (h u hu).2.2 hm⟩
theorem okT.append {V M : Nat} {a b : List UT} (ha : okT V M a) (hb : okT V M b) : okT V M (a ++ b) := fun u hu => (List.mem_append.1 hu).elim (ha u) (hb u)
theorem okT.sub {V M : Nat} {a b : List UT} (h : okT V M a) (hs : ∀ u ∈ b, u ∈ a) : okT V M b := fun u hu => h u (hs u hu)
theorem okT.terms {V M : Nat} {l : List UT} (h : okT V M l) : TermsOk V M (l.map tz) := by
 refine ⟨?_, ?_, ?_, ?_⟩ <;> (intro t ht; obtain ⟨u, hu, rfl⟩ := List.mem_map.1 ht)
 ·exact toW_ok _
 ·show zOf u.1 = zOf (zval (zOf u.1)); rw [zval_zOf]
 ·exact ⟨(h u hu).2.1, (h u hu).1⟩
 ·show lenI (zval (zOf u.1)) ≤ M; rw [zval_zOf]; exact (h u hu).2.2
theorem cfU_len {V M : Nat} {l : List UT} (hc : CanU l) (h : okT V M l) (e : List Int) : lenI (cfU l e) ≤ M := by
 by_cases hz : cfU l e = 0
 ·rw [hz, lenI_zero]; omega
 ·obtain ⟨u, hu, he⟩ := cfU_mem hz;rw [← he, cfU_one hc.pw hu];exact (h u hu).2.2
theorem okT.can {V M : Nat} {a b : List UT} (ca : CanU a) (cb : CanU b) (ha : okT V M a) (hb : okT V M b) : okT V (M + 1) (canU (a ++ b)) := fun u hu => by
 obtain ⟨w, hw, he⟩ := canU_mem hu;have h1 := (ha.append hb) w hw;refine ⟨by rw [he]; exact h1.1, by rw [he]; exact h1.2.1, ?_⟩;have := ((canU_can (a ++ b)).mem_iff u).1 hu;rw [← this.2, cfU_canU, cfU_append];exact lenI_add (cfU_len ca ha _) (cfU_len cb hb _)
theorem CanU.one {u : UT} (h : u.1 ≠ 0) : CanU [u] := CanU.nil.cons h (by simp)
theorem EOk.unU (V i : Nat) : EOk (unU V i) := fun e he => by
 unfold Go.AL.unU at he;rcases List.mem_or_eq_of_mem_set he with h | h
 ·rw [List.eq_of_mem_replicate h]; omega
 ·omega
end Go.AL
/- The reference's rests and Rank. -/
namespace Go.AL
def RankIs (a m : Int) (most n : Nat) : Prop := 1 ≤ n ∧ n ≤ most ∧ m ∣ psiN a n ∧ ∀ k, 1 ≤ k → k < n → ¬ m ∣ psiN a k
def NoRank (a m : Int) (most : Nat) : Prop := ∀ k, 1 ≤ k → k ≤ most → ¬ m ∣ psiN a k
theorem psi_mod (a m : Int) (n : Nat) : ((a + a) % m * (psiN a (n + 1) % m) - psiN a n % m) % m = psiN a (n + 2) % m := by
 rw [← psi_rec, Int.sub_emod, Int.mul_emod, Int.emod_emod, Int.emod_emod, ← Int.mul_emod, Int.emod_emod, ← Int.sub_emod]
theorem mod_len {x m : Int} {k : Nat} (hm : 0 < m) (h : lenI m ≤ k) : lenI (x % m) ≤ k := by
 have h0 := Int.emod_nonneg x (show m ≠ 0 by omega);have h1 := Int.emod_lt_of_pos x hm;have := (lenI_nonneg (x := m) (by omega)).1 h;exact (lenI_nonneg h0).2 (by omega)
end Go.AL
namespace Go.Proofs.YtcaecieigoplbaaGreat
open Go.AL
end Go.Proofs.YtcaecieigoplbaaGreat
/- lucas.rests: the rests of psi, an iterator with variables of its own. -/
namespace Go.AL
theorem twice_mod (a m : Int) : 2 * (a % m) % m = (a + a) % m := by
 rw [Int.mul_emod, Int.emod_emod, ← Int.mul_emod]; congr 1; omega
end Go.AL
namespace Go.Proofs.YtcaecieigoplbaaGreat
open Go.AL
def restE (a m : Int) (most i : Nat) : Option (List AV) := if i < most then some [aN ((i : Int) + 1), aX (psiN a (i + 1) % m)] else none
abbrev rsC (a m : Int) (most : Nat) : List AV := [.cptr (eX a), .cptr (eX m), .cptr [aN most]]
def rsS (l : Nat) (a m : Int) (most i : Nat) : St := St.of [] [(0, .v (.func (.yield l) #[] #[])), (1, .cptr (eX a)), (2, .cptr (eX m)), (3, .cptr [aN most]), (5, .ptr 11 0), (6, .ptr 6 0), (7, .ptr 7 0), (8, .ptr 8 0), (9, aN ((i : Int) + 1))] [(11, .cells [aN 0] 95), (6, .cells (eX ((a + a) % m)) 35), (7, .cells (eX (psiN a i % m)) 35), (8, .cells (eX (psiN a (i + 1) % m)) 35)]
theorem rests1_ok (a m : Int) (most N : Nat) (ha : Fit a) (hm : 0 < m) (hl : lenI m ≤ 2000) (hmo : most ≤ 1000000) : IterFn Tryz.prog 230 (rsC a m most) (restE a m most) N := by
 refine IterFn.of_body Tryz.func230 rfl Tryz.ntmps230 rfl rfl rfl fun l => ?_;have fm : Fit m := Fit.mk (lenI_le.1 (Nat.le_trans hl (by omega)));have hlen : ∀ x : Int, lenI (x % m) ≤ 2000 := fun x => mod_len hm hl;have hf : ∀ x : Int, Fit (x % m) := fun x => Fit.mk (lenI_le.1 (Nat.le_trans (hlen x) (by omega)));have hmul : ∀ x y : Int, lenI x ≤ 2001 → lenI y ≤ 2001 → Fit (x * y) := fun x y h1 h2 => Fit.mk (lenI_le.1 (Nat.le_trans (lenI_mul x y) (by omega)));have l2 : lenI 2 ≤ 1 := lenI_small (by decide);have l1 : lenI 1 ≤ 1 := lenI_small (by decide);have e1 := chainOk (o := none) (hf a) (chRest_ok none 0 a m ha fm (by omega));have f2 : Fit (2 * (a % m)) := hmul 2 (a % m) (by omega) (by have := hlen a; omega);have e2 := chMul2 2 (a % m) fit_two (hf a) f2;have e3 := chainOk (o := none) (hf (2 * (a % m))) (chRest_ok none 0 (2 * (a % m)) m f2 fm (by omega));rw [twice_mod] at e3;have e4 := chainOk (o := none) (hf 1) (chRest_ok none 0 1 m fit_one fm (by omega));refine IWP.seqL ?_;(repeat' (first |refine qv ?_ |apply qn |apply qr |refine qe ?_|fail));refine ⟨IWP.seqL ?_⟩;(repeat' (first |refine qv ?_ |apply qr));refine qc (Of_ok 2 (by omega) (by omega)) ?_;(repeat' (first |refine qv ?_|fail));refine qi [(900, 11)] (e1) ?_;skip;refine ql eX [2, a % m] ?_;skip;refine qi [(900, 11)] (e2) ?_;(repeat' (first |refine qv ?_|fail));refine qi [(900, 11)] (e3) ?_;(repeat' (first |refine Fl.nil (fun _ => by kernel_rfl) ?_ |refine qe ?_|fail));refine ⟨IWP.seqL ?_⟩;(repeat' (first |refine qv ?_ |apply qr |refine qe ?_|fail));refine qc (Of_ok 1 (by omega) (by omega)) ?_;(repeat' (first |refine qv ?_|fail));refine qi [(900, 11)] (e4) ?_;(repeat' (first |refine Fl.nil (fun _ => by kernel_rfl) ?_ |refine qe ?_|fail));refine ⟨IWP.seqL ?_⟩;(repeat' (first |refine qv ?_ |apply qn |apply qr));refine ⟨?_⟩;refine IWP.block ?_;refine IWP.loop (G := Nat) (fun i => i ≤ most) (fun i => rsS l a m most i) (fun i => some i) (fun i => most + 1 - i) 0 rfl (by omega) ?_ ?_
 ·unfold rsS;refine Ent.of [] ?_ ?_ rfl rfl;(repeat' (first |exact True.intro |refine ⟨⟨AV.Le.refl _, rfl⟩, ?_⟩ |refine ⟨⟨⟨_, rfl, BLe.cells (LeL.refl _)⟩, rfl⟩, ?_⟩ |refine ⟨⟨⟨_, rfl, BLe.cells ?_⟩, rfl⟩, ?_⟩|fail))
  ·exact leX_zero (σ := []) (by rw [psi_zero, Int.zero_emod])
  ·exact leX (σ := []) (by rw [psi_one])
 intro i hi hN;unfold rsS;by_cases him : i < most
 ·refine IWP.seq ?_;refine IWP.seq ?_;refine IWP.yieldT 7 rfl ?_;show Fl _ _ _ _ [_, _, _, _, _, _, _] _ _ _;(repeat' (first |refine qv ?_ |apply qn |(refine Fl.splitD rfl rfl ?_ ?_ <;> intro _ <;> try (exfalso; omega))));refine ⟨rfl, ⟨.inr ⟨_, _, rfl, rfl⟩, ⟨_, _, _, [aN ((i : Int) + 1), aX (psiN a (i + 1) % m)], rfl, rfl, if_pos him, LeL.refl _, rfl⟩, (fun d hd => by cases hd; decide), ?_, ?_⟩⟩
  ·(repeat' (first | refine Fl.v rfl rfl rfl ?_ | refine Fl.b rfl rfl rfl rfl ?_ | fail));refine Fl.nil (fun h => (by cases h)) ⟨rfl, fun hi1 => ?_⟩;refine IWP.condB (t := true) rfl (fun _ => IWP.skip ?_) (fun h => (by cases h));have f5 := hmul ((a + a) % m) (psiN a (i + 1) % m) (by have := hlen (a + a); omega) (by have := hlen (psiN a (i + 1)); omega);have e5 := chMul2 ((a + a) % m) (psiN a (i + 1) % m) (hf _) (hf _) f5;have g0 := lenI_mul ((a + a) % m) (psiN a (i + 1) % m);have g1 := hlen (a + a);have g2 := hlen (psiN a (i + 1));have g3 := hlen (psiN a i);have g4 := lenI_add (x := (a + a) % m * (psiN a (i + 1) % m)) (y := -(psiN a i % m)) (M := 4000) (by omega) (by rw [lenI_neg]; omega);rw [← Int.sub_eq_add_neg] at g4;have f6 : Fit ((a + a) % m * (psiN a (i + 1) % m) - psiN a i % m) := Fit.mk (lenI_le.1 (Nat.le_trans g4 (by omega)));have e6 := chainOk (o := none) f6 (chSub_ok none 0 ((a + a) % m * (psiN a (i + 1) % m)) (psiN a i % m) f5 (hf _));have e7 := chainOk (o := none) (hf _) (chRest_ok none 0 ((a + a) % m * (psiN a (i + 1) % m) - psiN a i % m) m f6 fm (by omega));rw [psi_mod] at e7;refine IWP.seqL ?_;(repeat' (first |refine qv ?_ |apply qr |apply qb));refine ql eX [(a + a) % m, psiN a (i + 1) % m] ?_;skip;refine qi [(900, 11)] (e5) ?_;(repeat' (first |refine qv ?_|fail));refine qi [(900, 11)] (e6) ?_;(repeat' (first |refine qv ?_|fail));refine qi [(900, 11)] (e7) ?_;(repeat' (first |refine Fl.nil (fun _ => by kernel_rfl) ?_ |refine qe ?_|fail));refine ⟨IWP.last ?_⟩;(repeat' (first |refine qv ?_ |apply qn |apply qr |refine qw ?_|fail));refine ⟨i + 1, by omega, rfl, fun _ => by show most + 1 - (i + 1) < most + 1 - i; omega, ?_⟩;refine Ent.of [] ?_ ?_ rfl rfl;(repeat' (first |exact True.intro |refine ⟨⟨AV.Le.refl _, rfl⟩, ?_⟩ |refine ⟨⟨⟨_, rfl, BLe.cells (LeL.refl _)⟩, rfl⟩, ?_⟩|fail))
  ·(repeat' (first | refine Fl.v rfl rfl rfl ?_ | refine Fl.b rfl rfl rfl rfl ?_ | fail));refine Fl.nil (fun h => (by cases h)) ⟨rfl, ?_⟩;refine IWP.condB (t := false) rfl (fun h => (by cases h)) (fun _ => IWP.exit ?_);exact ⟨.inl rfl, fun i h => (by cases h)⟩
 ·refine IWP.seq ?_;refine IWP.seqL ?_;(repeat' (first |refine qv ?_ |apply qn |apply qr |refine Fl.skip rfl rfl ?_ |(refine Fl.splitD rfl rfl ?_ ?_ <;> intro _ <;> try (exfalso; omega))));refine ⟨?_⟩;refine IWP.condB (t := false) rfl (fun h => (by cases h)) (fun _ => IWP.exit ?_);refine ⟨.inl rfl, fun j h => ?_⟩;injection h with h;subst h;exact if_neg him
end Go.Proofs.YtcaecieigoplbaaGreat
/- large.Bits, lucas.modulus, lucas.Rank. -/
namespace Go.AL
theorem top_facts {x : Int} (h0 : 0 < x) : ∃ (n : Nat) (u lo : Int), (toW x).length = n + 1 ∧ (toW x)[n]? = some u ∧ 0 ≤ lo ∧ lo < BB n ∧ x = lo + BB n * u ∧ 1 ≤ u ∧ u < 4294967296 := by
 have hne := toW_ne_nil h0;have wx := toW_ok x;have vx := val_toW (show 0 ≤ x by omega);obtain ⟨n, hn⟩ : ∃ n, (toW x).length = n + 1 := ⟨(toW x).length - 1, by have := List.length_pos_iff.2 hne; omega⟩;obtain ⟨u, hu⟩ : ∃ u, (toW x)[n]? = some u := ⟨_, List.getElem?_eq_getElem (by omega)⟩;have hub := wx.get hu;have hval := val_top hu;rw [← hn, List.take_length, vx] at hval;have hb := val_bounds (k := n) wx (by omega);have hge := BB_len_le (z := x) h0;rw [show (toW x).length - 1 = n by omega] at hge;refine ⟨n, u, val ((toW x).take n), hn, hu, hb.1, hb.2, hval, ?_, hub.2⟩;rcases Int.lt_or_le u 1 with h | h
 ·have : u = 0 := by omega
  subst this;omega
 ·exact h
theorem rank_ex {a m : Int} {most : Nat} (h : ¬ NoRank a m most) : ∃ n, RankIs a m most n := by
 have h1 : ∃ k, 1 ≤ k ∧ k ≤ most ∧ m ∣ psiN a k := Classical.byContradiction fun hc => h fun k k1 k2 k3 => hc ⟨k, k1, k2, k3⟩;obtain ⟨k, hk⟩ := h1
 induction k using Nat.strongRecOn with
 | ind k ih =>
  by_cases hs : ∃ j, 1 ≤ j ∧ j < k ∧ m ∣ psiN a j
  ·obtain ⟨j, j1, j2, j3⟩ := hs;exact ih j j2 ⟨j1, by omega, j3⟩
  ·exact ⟨k, hk.1, hk.2.1, hk.2.2, fun j j1 j2 j3 => hs ⟨j, j1, j2, j3⟩⟩
end Go.AL
namespace Go.Proofs.YtcaecieigoplbaaGreat
open Go.AL
theorem size_ok (x : Int) (h0 : 0 ≤ x) (hx : (toW x).length ≤ 100000) : PureFn Tryz.prog 174 [aW (toW x)] (aN (bitl x.natAbs)) := by
 refine PureFn.of_body Tryz.func174 rfl Tryz.ntmps174 rfl rfl ?_;have wx := toW_ok x;rcases Int.lt_or_eq_of_le h0 with h | h
 ·obtain ⟨n, u, lo, hn, hu, hlo, hlo2, hval, hu1, hu2⟩ := top_facts h;have hl := lenB_spec (n := u.toNat) (by omega);have hbw := bitl_words (m := x.natAbs) (n := n) (k := lenB u.toNat) (u := u) (lo := lo) hl.1 hlo hlo2 (by omega) hl.2.1 hl.2.2;have hL := Len32_ok u.toNat (by omega)
  have hu' : (toW x)[(((toW x).length : Int) - 1).toNat]? = some u := by rwa [show (((toW x).length : Int) - 1).toNat = n by omega]
  have hl32 : lenB u.toNat ≤ 32 := lenB_le (by omega);(repeat' (first |refine qv ?_ |apply qn |apply qs |apply qr |refine qw ?_ |(refine AWP.condD rfl ?_ ?_ <;> intro _ <;> try (exfalso; omega)) |apply qk |refine qK ?_|fail));refine Fl.call rfl hL rfl rfl rfl (LeL.cons (AV.Le.int (by omega)) LeL.nil) ?_;(repeat' (first |refine qv ?_ |apply qn |refine qw ?_ |apply qt));refine RetOk.of rfl (AV.Le.int ?_);rw [hbw]; omega
 ·subst h
  have : (toW 0).length = 0 := by rw [toW_zero]; rfl
  (repeat' (first |refine qv ?_ |apply qn |apply qs |apply qr |(refine AWP.condD rfl ?_ ?_ <;> intro _ <;> try (exfalso; omega)) |apply qt));exact RetOk.of rfl (AV.Le.refl _)
theorem Bits_ok (x : Int) (hx : Fit x) : PureFn Tryz.prog 132 [aX x] (aN (bitl x.natAbs)) := by
 refine PureFn.of_body Tryz.func132 rfl Tryz.ntmps132 rfl rfl ?_;have hs := size_ok (x.natAbs : Int) (by omega) (by have := hx.lenI; unfold lenI at this; omega);rw [show ((x.natAbs : Nat) : Int).natAbs = x.natAbs from rfl] at hs;(repeat' (first |refine qv ?_ |apply qn |apply qs |apply qr |refine qe ?_|fail));refine qc (Valid_int x hx) ?_;(repeat' (first |refine qv ?_ |apply qn |apply qs |apply qr |refine AWP.condF rfl ?_ |apply qk));refine qc (hs) ?_;(repeat' (first |refine qv ?_ |apply qn |apply qt));exact RetOk.of rfl (AV.Le.refl _)
theorem modulus_ok (m : Int) (hm : Fit m) (b : Bool) (hb : b = true ↔ 1 ≤ m ∧ bitl m.natAbs ≤ 4000) : PureFn Tryz.prog 206 [aX m] (aB b) := by
 refine PureFn.of_body Tryz.func206 rfl Tryz.ntmps206 rfl rfl ?_;(repeat' (first |refine qv ?_ |apply qn |apply qs |apply qr |refine qe ?_|fail));refine qc (Of_ok 1 (by omega) (by omega)) ?_;skip;refine qc (Less_ok m 1 hm fit_one) ?_;(repeat' (first |refine qv ?_ |refine Fl.nil (fun _ => by kernel_rfl) ?_ |refine Fl.skip rfl rfl ?_ |apply qt |(refine Fl.splitN rfl rfl ?_ ?_ <;> intro _ <;> try (exfalso; omega))))
 ·rename_i h;refine qc (Bits_ok m hm) ?_;(repeat' (first |refine qv ?_ |refine Fl.nil (fun _ => by kernel_rfl) ?_ |apply qt));refine RetOk.of rfl (AV.Le.bool ?_)
  cases b with
  | true => exact decide_eq_true (by have := (hb.1 rfl).2; omega)
  | false => exact decide_eq_false fun k => by have := hb.2 ⟨by omega, by omega⟩; cases this
 ·rename_i h;refine RetOk.of rfl (AV.Le.bool ?_)
  cases b with
  | true => have := (hb.1 rfl).1; omega
  | false => rfl
theorem rests_ok (a m : Int) (most : Nat) : PureFn Tryz.prog 207 [aX a, aX m, aN most] (.fn 230 (rsC a m most)) := by
 refine PureFn.of_body Tryz.func207 rfl Tryz.ntmps207 rfl rfl ?_;refine AWP.seqS ?_;(repeat' (first |refine qv ?_ |apply qn |apply qr |refine qe ?_|fail));refine ⟨?_⟩;refine AWP.ent (Ent.freezeC 3 3 rfl rfl rfl rfl) ?_;refine AWP.ent (Ent.freezeC 4 4 rfl rfl rfl rfl) ?_;refine AWP.ent (Ent.freezeC 5 5 rfl rfl rfl rfl) ?_;(repeat' (first |refine qv ?_ |apply qn |apply qs |apply qr |apply qt));exact RetOk.of rfl (AV.Le.refl _)
theorem fits2_ok (a m : Int) (ha : Fit a) (hm : Fit m) (h2 : 2 ≤ a) : PureFn Tryz.prog 129 [aX a, .sl 2 eX [m]] (aN 0) := by
 refine PureFn.of_body Tryz.func129 rfl Tryz.ntmps129 rfl rfl ?_;(repeat' (first |refine qv ?_ |apply qn |apply qs |apply qr |refine qe ?_|fail));refine ql eX [a] ?_;skip;refine qc (chValidX_ok [a] (by simp [ha]) (by simp)) ?_;(repeat' (first |refine qv ?_|fail));refine qc (chValidX_ok [m] (by simp [hm]) (by simp)) ?_;(repeat' (first |refine qv ?_ |apply qn |apply qs |apply qr |refine AWP.condF rfl ?_ |apply qk));refine qc (Of_ok 2 (by omega) (by omega)) ?_;skip;have hl := Less_ok a 2 ha (fit_small (by omega) (by omega));rw [decide_eq_false (by omega)] at hl;refine qc (hl) ?_;(repeat' (first |refine qv ?_ |apply qn |refine Fl.nil (fun _ => by kernel_rfl) ?_ |apply qs |apply qr |refine AWP.condF rfl ?_ |apply qk |apply qt));exact RetOk.of rfl (AV.Le.refl _)
def rkS (a m : Int) (most : Nat) (x : Int) : St := St.of [] [(6, .ptr 6 0), (7, .ptr 7 0), (32, .fn 230 (rsC a m most))] [(6, .cells [aN x] 3), (7, .cells [aN 0] 28)]
theorem rkS_eq (a m : Int) (most : Nat) (x : Int) : rkS a m most x = St.of [6, 7] [(6, .ptr 6 0), (7, .ptr 7 0), (32, .fn 230 (rsC a m most))] [(6, .cells [aN x] 3), (7, .cells [aN 0] 28)] := by
 unfold rkS St.of;congr 1;funext id;show (memI [6, 7] id || memI [] id) = (memI [6, 7] id || memI [6, 7] id)
 cases memI [6, 7] id <;> rfl
theorem lRank_ok (a m : Int) (most : Nat) (ha : Fit a) (h2 : 2 ≤ a) (hm : Fit m) (hm0 : 1 ≤ m) (hmb : bitl m.natAbs ≤ 4000) (hmo : 1 ≤ most) (hmo2 : most ≤ 20000) (r : AV) (hr1 : ∀ n : Nat, RankIs a m most n → r = .tup [aN n, aN 0]) (hr2 : NoRank a m most → r = .tup [aN 0, aN 6]) : PureFn Tryz.prog 168 [aX a, aX m, aN most] r := by
 refine PureFn.of_bodyF Tryz.func168 rfl Tryz.ntmps168 rfl rfl ?_
 have hml : lenI m ≤ 2000 := by
  refine lenI_le.2 ?_;rw [BB_pow];have h3 := bitl_lt m.natAbs;obtain ⟨E, hE⟩ : ∃ E, E = 32 * 2000 := ⟨_, rfl⟩;rw [← hE];have h4 : 2 ^ bitl m.natAbs ≤ 2 ^ E := Nat.pow_le_pow_right (by omega) (by omega)
  have h5 : ((m.natAbs : Nat) : Int) < ((2 ^ E : Nat) : Int) := by exact_mod_cast Nat.lt_of_lt_of_le h3 h4
  rwa [Int.natCast_pow] at h5
 obtain ⟨N, hN0, hNr⟩ : ∃ N : Nat, 0 < N ∧ ((RankIs a m most N) ∨ (N = most + 1 ∧ NoRank a m most)) := by
  rcases Classical.em (NoRank a m most) with h | h
  ·exact ⟨most + 1, by omega, .inr ⟨rfl, h⟩⟩
  ·obtain ⟨n, hn⟩ := rank_ex h;exact ⟨n, hn.1, .inl hn⟩
 have it := rests1_ok a m most N ha (by omega) hml (by omega);have cm := modulus_ok m hm true ⟨fun _ => ⟨hm0, hmb⟩, fun _ => rfl⟩;refine FWP.seqL ?_;(repeat' (first |apply qn |apply qr |refine qe ?_|fail));refine ⟨FWP.seqL ?_⟩;(repeat' (first |refine qv ?_ |apply qs |apply qr));refine ql eX [m] ?_;skip;refine qc (fits2_ok a m ha hm h2) ?_;(repeat' (first |refine qv ?_ |apply qn |apply qs |apply qr |refine AWP.condF rfl ?_ |apply qk));refine ⟨FWP.seqL ?_⟩;(repeat' (first |refine qv ?_ |apply qs |apply qr));refine qc (cm) ?_;(repeat' (first |refine qv ?_ |apply qn |(refine AWP.condD rfl ?_ ?_ <;> intro _ <;> try (exfalso; omega)) |apply qk |(refine Fl.splitD rfl rfl ?_ ?_ <;> intro _ <;> try (exfalso; omega))));refine ⟨FWP.seq (FWP.seqL ?_)⟩;(repeat' (first |refine qv ?_ |apply qr));refine qc (rests_ok a m most) ?_;(repeat' (first |apply qn));refine ⟨FWP.block ?_⟩;refine FWP.ent (s' := rkS a m most 0) ?_ ?_
 ·unfold rkS;refine Ent.of [] ?_ ?_ rfl rfl;(repeat' (first |exact True.intro |refine ⟨⟨AV.Le.refl _, rfl⟩, ?_⟩ |refine ⟨⟨⟨_, rfl, BLe.cells (LeL.refl _)⟩, rfl⟩, ?_⟩|fail))
 refine FWP.rangeFunc it hN0 rfl rfl rfl rfl [6, 7] (by simp) ?_ (fun _ => rkS a m most 0) (fun _ => rfl) rfl ?_ ?_ ?_
 ·exact lookE_within rfl
 ·intro i xs h;unfold restE at h;split at h
  ·injection h with h;exact ⟨_, _, h.symm⟩
  ·cases h
 ·intro i x y l hi he;unfold restE at he;split at he
  ·rename_i him;injection he with he;injection he with h1 he;injection he with h2 _;subst h1 h2;refine RWP.seqR rfl ?_;(repeat' (first |refine qv ?_ |apply qn));refine ⟨rfl, RWP.region (K := fun s1 => RWP _ _ _ _ _ _ s1) rfl (fun s k => k) ?_⟩;(repeat' (first |apply qn |refine qe ?_|fail));refine ⟨rfl, RWP.block (RWP.seqR rfl ?_)⟩;(repeat' (first |refine qv ?_ |apply qn))
   have hzi : ((toW (((psiN a (i + 1) % m).natAbs : Nat) : Int)).length : Int) = 0 ↔ m ∣ psiN a (i + 1) := by
    refine ⟨fun h => ?_, fun h => ?_⟩
    ·have h1 : ((psiN a (i + 1) % m).natAbs : Int) = 0 := (toW_nil_iff (by omega)).1 (List.eq_nil_of_length_eq_zero (by omega));exact Int.dvd_of_emod_eq_zero (by omega)
    ·rw [Int.emod_eq_zero_of_dvd h];show ((toW 0).length : Int) = 0;rw [toW_zero]; rfl
   refine ⟨rfl, RWP.condD rfl (fun hz => ?_) (fun hz => RWP.skip ?_)⟩
   ·have hd := hzi.1 hz
    have hr : RankIs a m most (i + 1) := by
     rcases hNr with k | ⟨_, k⟩
     ·rcases (show i + 1 = N ∨ i + 1 < N by omega) with e | e
      ·rw [e]; exact k
      ·exact absurd hd (k.2.2.2 (i + 1) (by omega) e)
     ·exact absurd hd (k (i + 1) (by omega) (by omega))
    rw [hr1 (i + 1) hr];refine RWP.seqR rfl ?_;(repeat' (first |refine qv ?_ |apply qn |refine qe ?_|fail));refine ⟨rfl, RWP.ret ?_⟩;refine ⟨rkS a m most ((i : Int) + 1), rfl, Ent.anyS ?_, ?_⟩
    ·rw [rkS_eq a m most ((i : Int) + 1)];refine Ent.of [] ?_ ?_ rfl rfl;(repeat' (first |exact True.intro |refine ⟨⟨AV.Le.refl _, rfl⟩, ?_⟩ |refine ⟨⟨⟨_, rfl, BLe.cells (LeL.refl _)⟩, rfl⟩, ?_⟩|fail))
    ·unfold rkS;exact RetOk.of rfl (AV.Le.refl _)
   ·have hd : ¬ m ∣ psiN a (i + 1) := fun k => hz (hzi.2 k);refine ⟨?_, Ent.anyS ?_⟩
    ·rcases hNr with k | ⟨k1, _⟩
     ·rcases (show i + 1 = N ∨ i + 1 < N by omega) with e | e
      ·rw [e] at hd; exact absurd k.2.2.1 hd
      ·exact e
     ·omega
    ·rw [rkS_eq];refine Ent.of [] ?_ ?_ rfl rfl;(repeat' (first |exact True.intro |refine ⟨⟨AV.Le.refl _, rfl⟩, ?_⟩ |refine ⟨⟨⟨_, rfl, BLe.cells (LeL.refl _)⟩, rfl⟩, ?_⟩|fail))
  ·cases he
 ·intro i hiN h
  have hno : NoRank a m most := by
   rcases hNr with k | ⟨_, k⟩
   ·unfold restE at h;split at h
    ·cases h
    ·exfalso; have := k.2.1; omega
   ·exact k
  refine FWP.lift ?_;unfold rkS;rw [hr2 hno];(repeat' (first |apply qn |apply qs |apply qr |refine qe ?_ |apply qt));exact RetOk.of rfl (AV.Le.refl _)
end Go.Proofs.YtcaecieigoplbaaGreat
/- The chain inside define's finder. -/
namespace Go.Proofs.YtcaecieigoplbaaGreat
open Go.AL

abbrev finB (s : Bool) (a : List Int) (e : Int) : Bx := .cells [.v (.int .i64 e), aB s, aW a] 118
theorem fkeep_ok (s : Bool) (a : List Int) (e x : Int) : IoFn Tryz.prog 148 [.ptr 900 0, aX (clip x), aN (szErr x)] [(900, finB s a e)] (.ret (aX (cV e x))) [(900, finB s a (cE e x))] := by
 refine IoFn.of_body Tryz.func148 rfl Tryz.ntmps148 rfl rfl rfl ?_;(repeat' (first |refine qv ?_ |apply qn |apply qs |apply qr |refine qe ?_ |(refine AWP.condD rfl ?_ ?_ <;> intro _ <;> try (exfalso; omega)) |(refine AWP.condN rfl ?_ ?_ <;> intro _ <;> try (exfalso; omega)) |apply qk |apply qt))
 ·rename_i h0 h1;subst h0;have hf : ¬ Fit x := fun h => h1 (szErr_eq.2 h);exact ⟨⟨[], _, _, Ent.refl _ _ _, rfl, AV.Le.agg (leX_zero (cV_not hf)), rfl, ⟨⟨⟨_, rfl, BLe.cells (LeL.cons (AV.Le.int (by unfold cE; rw [if_pos rfl])) (LeL.refl _))⟩, rfl⟩, trivial⟩, rfl, rfl⟩⟩
 ·rename_i h0 h1;subst h0;have hf := szErr_eq.1 h1;exact ⟨⟨[], _, _, Ent.refl _ _ _, rfl, AV.Le.agg (leX (by rw [cV_ok hf, clip_fit hf])), rfl, ⟨⟨⟨_, rfl, BLe.cells (LeL.cons (AV.Le.int (by unfold cE; rw [if_pos rfl])) (LeL.refl _))⟩, rfl⟩, trivial⟩, rfl, rfl⟩⟩
 ·rename_i h0 h1;exact ⟨⟨[], _, _, Ent.refl _ _ _, rfl, AV.Le.agg (leX_zero (cV_err h0)), rfl, ⟨⟨⟨_, rfl, BLe.cells (LeL.cons (AV.Le.int ((cE_err h0).symm)) (LeL.refl _))⟩, rfl⟩, trivial⟩, rfl, rfl⟩⟩
theorem fchAdd_ok (s : Bool) (a : List Int) (e x y : Int) (hx : Fit x) (hy : Fit y) : IoFn Tryz.prog 79 [.ptr 900 0, aX x, aX y] [(900, finB s a e)] (.ret (aX (cV e (x + y)))) [(900, finB s a (cE e (x + y)))] := by
 have hk := fkeep_ok s a e (x + y);refine IoFn.of_body Tryz.func79 rfl Tryz.ntmps79 rfl rfl rfl ?_;(repeat' (first |refine qv ?_ |apply qn |apply qs |apply qr |refine qe ?_|fail));refine qc (Add_ok x y hx hy) ?_;(repeat' (first |refine qv ?_|fail));refine qi [] hk ?_;(repeat' (first |apply qn |refine qe ?_ |apply qt));exact ⟨⟨[], _, _, Ent.refl _ _ _, rfl, AV.Le.refl _, rfl, ⟨⟨⟨_, rfl, BLe.cells (LeL.refl _)⟩, rfl⟩, trivial⟩, rfl, rfl⟩⟩
theorem fchSub_ok (s : Bool) (a : List Int) (e x y : Int) (hx : Fit x) (hy : Fit y) : IoFn Tryz.prog 82 [.ptr 900 0, aX x, aX y] [(900, finB s a e)] (.ret (aX (cV e (x - y)))) [(900, finB s a (cE e (x - y)))] := by
 have hk := fkeep_ok s a e (x - y);refine IoFn.of_body Tryz.func82 rfl Tryz.ntmps82 rfl rfl rfl ?_;(repeat' (first |refine qv ?_ |apply qn |apply qs |apply qr |refine qe ?_|fail));refine qc (Sub_ok x y hx hy) ?_;(repeat' (first |refine qv ?_|fail));refine qi [] hk ?_;(repeat' (first |apply qn |refine qe ?_ |apply qt));exact ⟨⟨[], _, _, Ent.refl _ _ _, rfl, AV.Le.refl _, rfl, ⟨⟨⟨_, rfl, BLe.cells (LeL.refl _)⟩, rfl⟩, trivial⟩, rfl, rfl⟩⟩
theorem fchMul_ok (s : Bool) (a : List Int) (e : Int) (l : List Int) (hl : ∀ x ∈ l, Fit x) (hn : l.length ≤ 1000) : IoFn Tryz.prog 101 [.ptr 900 0, .sl 2 eX l] [(900, finB s a e)] (.ret (aX (mulL e 1 l).1)) [(900, finB s a (mulL e 1 l).2)] := by
 have hk := fkeep_ok s a;refine IoFn.of_body Tryz.func101 rfl Tryz.ntmps101 rfl rfl rfl ?_;(repeat' (first |apply qn |apply qs |apply qr |refine qe ?_|fail));refine qc (Of_ok 1 (by omega) (by omega)) ?_;(repeat' (first |refine qv ?_ |apply qn |apply qs |apply qr |refine qe ?_ |apply qb));refine AWP.loop (G := Nat × Int × Int) (fun g => g.1 ≤ l.length ∧ Fit g.2.1 ∧ mulL g.2.2 g.2.1 (l.drop g.1) = mulL e 1 l) (fun g => St.of [900] [(0, .ptr 900 0), (4, .ptr 4 0), (5, .ptr 5 0), (9, .sl 2 eX l), (10, aN l.length), (11, aN g.1)] [(4, .cells [aB false, .v (.slice none 0 0)] 35), (5, .cells (eX g.2.1) 35), (900, finB s a g.2.2)]) (fun g => l.length - g.1) (0, 1, e) ⟨by omega, fit_one, rfl⟩ ?_ ?_
 ·refine Ent.of [] ?_ ?_ rfl rfl;(repeat' (first |exact True.intro |refine ⟨⟨AV.Le.refl _, rfl⟩, ?_⟩ |refine ⟨⟨⟨_, rfl, BLe.cells (LeL.refl _)⟩, rfl⟩, ?_⟩|fail))
 ·intro ⟨i, out, e'⟩ ⟨k0, k1, k2⟩;(repeat' (first |refine qv ?_ |apply qn |apply qs |apply qr |refine qe ?_ |(refine AWP.condD rfl ?_ ?_ <;> intro _ <;> try (exfalso; omega)) |apply qb |apply qk |apply qx |apply qt |(refine Fl.el rfl rfl rfl rfl rfl rfl rfl rfl (by omega) (by omega) ?_; intro _ _)|fail))
  ·rename_i hi c hc0;rw [Int.toNat_natCast] at hc0;have hk := hk e' (out * c);refine qc (Mul_ok out c k1 (hl c (List.mem_of_getElem? hc0))) ?_;(repeat' (first |refine qv ?_|fail));refine qi [] hk ?_;(repeat' (first |refine qv ?_ |apply qn |apply qr |refine qw ?_ |refine qe ?_|fail));refine LoopEnd.of (i + 1, cV e' (out * c), cE e' (out * c)) ⟨by omega, cV_fit _ _, ?_⟩ (by dsimp only; omega) ?_
   ·rw [← k2];dsimp only;rw [List.drop_eq_getElem_cons (show i < l.length by omega), (List.getElem?_eq_some_iff.1 hc0).2];rfl
   ·refine Ent.of [] ?_ ?_ rfl rfl;(repeat' (first |exact True.intro |refine ⟨⟨AV.Le.refl _, rfl⟩, ?_⟩ |refine ⟨⟨⟨_, rfl, BLe.cells (LeL.refl _)⟩, rfl⟩, ?_⟩|fail))
  ·rename_i hi;have hd : l.drop i = [] := List.drop_of_length_le (by omega);rw [hd] at k2;have k2 : (out, e') = mulL e 1 l := k2;rw [← k2];exact ⟨⟨[], _, _, Ent.refl _ _ _, rfl, AV.Le.refl _, rfl, ⟨⟨⟨_, rfl, BLe.cells (LeL.refl _)⟩, rfl⟩, trivial⟩, rfl, rfl⟩⟩
theorem fchSquare_ok (s : Bool) (a : List Int) (e x : Int) (hx : Fit x) : IoFn Tryz.prog 114 [.ptr 900 0, aX x] [(900, finB s a e)] (.ret (aX (mulL e 1 [x, x]).1)) [(900, finB s a (mulL e 1 [x, x]).2)] := by
 have hk := fchMul_ok s a e [x, x] (by simp [hx]) (by simp);refine IoFn.of_body Tryz.func114 rfl Tryz.ntmps114 rfl rfl rfl ?_;(repeat' (first |refine qv ?_ |apply qn |apply qs |apply qr |refine qe ?_|fail));refine ql eX [x, x] ?_;skip;refine qi [] hk ?_;(repeat' (first |apply qn |refine qe ?_ |apply qt));exact ⟨⟨[], _, _, Ent.refl _ _ _, rfl, AV.Le.refl _, rfl, ⟨⟨⟨_, rfl, BLe.cells (LeL.refl _)⟩, rfl⟩, trivial⟩, rfl, rfl⟩⟩
theorem fchQuo_ok (s : Bool) (a : List Int) (e x y : Int) (hx : Fit x) (hy : Fit y) (h : e = 0 → y ≠ 0) : IoFn Tryz.prog 80 [.ptr 900 0, aX x, aX y] [(900, finB s a e)] (.ret (aX (cV e (x / y)))) [(900, finB s a (cE e (x / y)))] := by
 have hk := fkeep_ok s a e (x / y);refine IoFn.of_body Tryz.func80 rfl Tryz.ntmps80 rfl rfl rfl ?_;refine AWP.seqS ?_;(repeat' (first |apply qn |apply qr |refine qe ?_|fail));refine ⟨AWP.seqS ?_⟩;(repeat' (first |refine qv ?_ |apply qn |apply qs |apply qr |refine qe ?_ |(refine AWP.condN rfl ?_ ?_ <;> intro _ <;> try (exfalso; omega)) |apply qk |apply qt))
 ·rename_i he;refine ⟨⟨[], _, _, Ent.refl _ _ _, rfl, AV.Le.agg (leX_zero (cV_err he)), rfl, ⟨⟨⟨_, rfl, BLe.cells (LeL.cons (AV.Le.int (cE_err he).symm) (LeL.refl _))⟩, rfl⟩, trivial⟩, rfl, rfl⟩⟩
 ·rename_i he;obtain ⟨f1, f2⟩ := div_fit hx hy (h he);rw [clip_fit f1, szErr_fit f1] at hk;refine ⟨AWP.seqS ?_⟩;(repeat' (first |refine qv ?_ |apply qr));refine qc (Div_ok x y hx hy (h he)) ?_;(repeat' (first |refine qv ?_ |apply qn |refine qe ?_|fail));refine ⟨?_⟩;(repeat' (first |refine qv ?_ |apply qs |apply qr));refine qi [] hk ?_;(repeat' (first |apply qn |refine qe ?_ |apply qt));exact ⟨⟨[], _, _, Ent.refl _ _ _, rfl, AV.Le.refl _, rfl, ⟨⟨⟨_, rfl, BLe.cells (LeL.refl _)⟩, rfl⟩, trivial⟩, rfl, rfl⟩⟩
end Go.Proofs.YtcaecieigoplbaaGreat
/- The finder's own methods. -/
namespace Go.AL
theorem RankIs.fun {a m : Int} {N n n' : Nat} (h : RankIs a m N n) (h' : RankIs a m N n') : n = n' := by
 rcases Nat.lt_trichotomy n n' with k | k | k
 ·exact absurd h.2.2.1 (h'.2.2.2 n h.1 k)
 ·exact k
 ·exact absurd h'.2.2.1 (h.2.2.2 n' h'.1 k)
end Go.AL
namespace Go.Proofs.YtcaecieigoplbaaGreat
open Go.AL

theorem fdo_ok (s : Bool) (a : List Int) (e x k : Int) : IoFn Tryz.prog 167 [.ptr 900 0, aX x, aN k] [(900, finB s a e)] (.ret (aX x)) [(900, finB s a (if e = 0 then k else e))] := by
 refine IoFn.of_body Tryz.func167 rfl Tryz.ntmps167 rfl rfl rfl ?_;(repeat' (first |refine qv ?_ |apply qn |apply qs |apply qr |refine qe ?_ |(refine AWP.condD rfl ?_ ?_ <;> intro _ <;> try (exfalso; omega)) |apply qk |apply qt))
 ·rename_i h;exact ⟨⟨[], _, _, Ent.refl _ _ _, rfl, AV.Le.refl _, rfl, ⟨⟨⟨_, rfl, BLe.cells (LeL.cons (AV.Le.int (by rw [if_pos h])) (LeL.refl _))⟩, rfl⟩, trivial⟩, rfl, rfl⟩⟩
 ·rename_i h;exact ⟨⟨[], _, _, Ent.refl _ _ _, rfl, AV.Le.refl _, rfl, ⟨⟨⟨_, rfl, BLe.cells (LeL.cons (AV.Le.int (by rw [if_neg h])) (LeL.refl _))⟩, rfl⟩, trivial⟩, rfl, rfl⟩⟩
theorem fpsi_ok (s : Bool) (b : List Int) (e a n : Int) (ha : Fit a) (h2 : 2 ≤ a) (h0 : 1 ≤ n) (h1 : n ≤ 9223372036854775807) : IoFn Tryz.prog 112 [.ptr 900 0, aX a, aN n] [(900, finB s b e)] (.ret (aX (clip (psiN a n.toNat)))) [(900, finB s b (cE e (psiN a n.toNat)))] := by
 have hk := fdo_ok s b e (clip (psiN a n.toNat)) (szErr (psiN a n.toNat));refine IoFn.of_body Tryz.func112 rfl Tryz.ntmps112 rfl rfl rfl ?_;(repeat' (first |refine qv ?_ |apply qn |apply qs |apply qr |refine qe ?_|fail));refine qc (Psi_ok a n ha h2 h0 h1) ?_;(repeat' (first |refine qv ?_|fail));refine qi [] hk ?_;(repeat' (first |apply qn |refine qe ?_ |apply qt));exact ⟨⟨[], _, _, Ent.refl _ _ _, rfl, AV.Le.refl _, rfl, ⟨⟨⟨_, rfl, BLe.cells (LeL.refl _)⟩, rfl⟩, trivial⟩, rfl, rfl⟩⟩
theorem fchi_ok (s : Bool) (b : List Int) (e a n : Int) (ha : Fit a) (h2 : 2 ≤ a) (h0 : 1 ≤ n) (h1 : n ≤ 9223372036854775807) : IoFn Tryz.prog 113 [.ptr 900 0, aX a, aN n] [(900, finB s b e)] (.ret (aX (clip (chiN a n.toNat)))) [(900, finB s b (cE e (chiN a n.toNat)))] := by
 have hk := fdo_ok s b e (clip (chiN a n.toNat)) (szErr (chiN a n.toNat));refine IoFn.of_body Tryz.func113 rfl Tryz.ntmps113 rfl rfl rfl ?_;(repeat' (first |refine qv ?_ |apply qn |apply qs |apply qr |refine qe ?_|fail));refine qc (Chi2_ok a n ha h2 h0 h1) ?_;(repeat' (first |refine qv ?_|fail));refine qi [] hk ?_;(repeat' (first |apply qn |refine qe ?_ |apply qt));exact ⟨⟨[], _, _, Ent.refl _ _ _, rfl, AV.Le.refl _, rfl, ⟨⟨⟨_, rfl, BLe.cells (LeL.refl _)⟩, rfl⟩, trivial⟩, rfl, rfl⟩⟩
theorem frank_ok (a m : Int) (n : Nat) (ha : Fit a) (h2 : 2 ≤ a) (hm : Fit m) (hm0 : 1 ≤ m) (hmb : bitl m.natAbs ≤ 4000) (hr : RankIs a m 20000 n) : IoFn Tryz.prog 115 [.ptr 900 0, aX m] [(900, finB (decide (a < 0)) (toW a.natAbs) 0)] (.ret (aN n)) [(900, finB (decide (a < 0)) (toW a.natAbs) 0)] := by
 have hk := lRank_ok a m 20000 ha h2 hm hm0 hmb (by omega) (by omega) (.tup [aN n, aN 0]) (fun n' h => by rw [hr.fun h]) (fun h => absurd hr.2.2.1 (h n hr.1 hr.2.1));refine IoFn.of_body Tryz.func115 rfl Tryz.ntmps115 rfl rfl rfl ?_;(repeat' (first |refine qv ?_ |apply qn |apply qs |apply qr |refine qe ?_ |refine AWP.condF rfl ?_ |apply qk));refine qc (hk) ?_;(repeat' (first |refine qv ?_ |apply qn |refine Fl.nil (fun _ => by kernel_rfl) ?_ |apply qs |apply qr |refine AWP.condF rfl ?_ |apply qk |apply qt));exact ⟨⟨[], _, _, Ent.refl _ _ _, rfl, AV.Le.refl _, rfl, ⟨⟨⟨_, rfl, BLe.cells (LeL.refl _)⟩, rfl⟩, trivial⟩, rfl, rfl⟩⟩
theorem frank_none (a m : Int) (ha : Fit a) (h2 : 2 ≤ a) (hm : Fit m) (hm0 : 1 ≤ m) (hmb : bitl m.natAbs ≤ 4000) (hr : NoRank a m 20000) : IoFn Tryz.prog 115 [.ptr 900 0, aX m] [(900, finB (decide (a < 0)) (toW a.natAbs) 0)] (.ret (aN 0)) [(900, finB (decide (a < 0)) (toW a.natAbs) 4)] := by
 have hk := lRank_ok a m 20000 ha h2 hm hm0 hmb (by omega) (by omega) (.tup [aN 0, aN 6]) (fun n h => absurd h.2.2.1 (hr n h.1 h.2.1)) (fun _ => rfl);refine IoFn.of_body Tryz.func115 rfl Tryz.ntmps115 rfl rfl rfl ?_;(repeat' (first |refine qv ?_ |apply qn |apply qs |apply qr |refine qe ?_ |refine AWP.condF rfl ?_ |apply qk));refine qc (hk) ?_;(repeat' (first |refine qv ?_ |apply qn |refine Fl.nil (fun _ => by kernel_rfl) ?_ |apply qs |apply qr |refine qe ?_ |refine AWP.condT rfl ?_ |apply qt));exact ⟨⟨[], _, _, Ent.refl _ _ _, rfl, AV.Le.refl _, rfl, ⟨⟨⟨_, rfl, BLe.cells (LeL.refl _)⟩, rfl⟩, trivial⟩, rfl, rfl⟩⟩
theorem lRank_big (a m : Int) (most : Nat) (ha : Fit a) (h2 : 2 ≤ a) (hm : Fit m) (hmb : ¬ (1 ≤ m ∧ bitl m.natAbs ≤ 4000)) (hmo2 : most ≤ 20000) : PureFn Tryz.prog 168 [aX a, aX m, aN most] (.tup [aN 0, aN 2]) := by
 refine PureFn.of_body Tryz.func168 rfl Tryz.ntmps168 rfl rfl ?_;have cm := modulus_ok m hm false ⟨fun h => absurd h (by simp), fun h => absurd h hmb⟩;refine AWP.seqS ?_;(repeat' (first |apply qn |apply qr |refine qe ?_|fail));refine ⟨AWP.seqS ?_⟩;(repeat' (first |refine qv ?_ |apply qs |apply qr));refine ql eX [m] ?_;skip;refine qc (fits2_ok a m ha hm h2) ?_;(repeat' (first |refine qv ?_ |apply qn |apply qs |apply qr |refine AWP.condF rfl ?_ |apply qk));refine ⟨AWP.seqS ?_⟩;(repeat' (first |refine qv ?_ |apply qs |apply qr));refine qc (cm) ?_;(repeat' (first |refine qv ?_ |apply qn |apply qs |apply qr |refine qe ?_ |refine Fl.skip rfl rfl ?_ |refine AWP.condT rfl ?_ |apply qt));exact RetOk.of rfl (AV.Le.refl _)
theorem frank_big (a m : Int) (ha : Fit a) (h2 : 2 ≤ a) (hm : Fit m) (hmb : ¬ (1 ≤ m ∧ bitl m.natAbs ≤ 4000)) : IoFn Tryz.prog 115 [.ptr 900 0, aX m] [(900, finB (decide (a < 0)) (toW a.natAbs) 0)] (.ret (aN 0)) [(900, finB (decide (a < 0)) (toW a.natAbs) 4)] := by
 have hk := lRank_big a m 20000 ha h2 hm hmb (by omega);refine IoFn.of_body Tryz.func115 rfl Tryz.ntmps115 rfl rfl rfl ?_;(repeat' (first |refine qv ?_ |apply qn |apply qs |apply qr |refine qe ?_ |refine AWP.condF rfl ?_ |apply qk));refine qc (hk) ?_;(repeat' (first |refine qv ?_ |apply qn |refine Fl.nil (fun _ => by kernel_rfl) ?_ |apply qs |apply qr |refine qe ?_ |refine AWP.condT rfl ?_ |apply qt));exact ⟨⟨[], _, _, Ent.refl _ _ _, rfl, AV.Le.refl _, rfl, ⟨⟨⟨_, rfl, BLe.cells (LeL.refl _)⟩, rfl⟩, trivial⟩, rfl, rfl⟩⟩
theorem frank_err (s : Bool) (b : List Int) (m e : Int) (he : e ≠ 0) : IoFn Tryz.prog 115 [.ptr 900 0, aX m] [(900, finB s b e)] (.ret (aN 0)) [(900, finB s b e)] := by
 refine IoFn.of_body Tryz.func115 rfl Tryz.ntmps115 rfl rfl rfl ?_;(repeat' (first |refine qv ?_ |apply qn |apply qs |apply qr |refine qe ?_ |(refine AWP.condN rfl ?_ ?_ <;> intro _ <;> try (exfalso; omega)) |apply qt));exact ⟨⟨[], _, _, Ent.refl _ _ _, rfl, AV.Le.refl _, rfl, ⟨⟨⟨_, rfl, BLe.cells (LeL.refl _)⟩, rfl⟩, trivial⟩, rfl, rfl⟩⟩
end Go.Proofs.YtcaecieigoplbaaGreat
/- Pell's equation: every solution; divisions of psi: plain. -/
namespace Go.AL
theorem le_of_sq {s t : Int} (ht : 0 ≤ t) (h : s * s ≤ t * t) : s ≤ t := by
 rcases (show t < s ∨ s ≤ t by omega) with k | k
 ·have := Int.mul_lt_mul' (show t ≤ s by omega) k ht (by omega); omega
 ·exact k
theorem lt_of_sq {s t : Int} (ht : 0 ≤ t) (h : s * s < t * t) : s < t := by
 rcases (show s < t ∨ t ≤ s by omega) with k | k
 ·exact k
 ·have := Int.mul_le_mul k k ht (by omega); omega
theorem eq_of_sq {s t : Int} (hs : 0 ≤ s) (ht : 0 ≤ t) (h : s * s = t * t) : s = t := by
 have := le_of_sq ht (show s * s ≤ t * t by omega);have := le_of_sq hs (show t * t ≤ s * s by omega);omega
theorem pell_all {a : Int} (ha : 2 ≤ a) : ∀ (m : Nat) (x y : Int), y.toNat = m → 0 ≤ x → 0 ≤ y → x * x - (a * a - 1) * (y * y) = 1 → ∃ n, x = chiN a n ∧ y = psiN a n := by
 intro m
 induction m using Nat.strongRecOn with
 | _ m ih =>
  intro x y hm hx hy h;by_cases h0 : y = 0
  ·subst h0;refine ⟨0, ?_, rfl⟩;rw [chi_zero];exact eq_of_sq hx (by omega) (by omega)
  ·have hyy : 1 ≤ y * y := by have := Int.mul_le_mul (show 1 ≤ y by omega) (show 1 ≤ y by omega) (by omega) (by omega); omega
   have e0 : x * x = 1 + a * a * (y * y) - y * y := by grind
   have l1 : x ≤ a * y := le_of_sq (Int.mul_nonneg (by omega) hy) (by
    have : a * y * (a * y) = a * a * (y * y) := by grind
    omega)
   have ayy : y * y * 2 ≤ a * (y * y) := by have := Int.mul_le_mul_of_nonneg_right ha (show 0 ≤ y * y by omega); omega
   have l2 : (a - 1) * y < x := lt_of_sq hx (by
    have : (a - 1) * y * ((a - 1) * y) = a * a * (y * y) - 2 * (a * (y * y)) + y * y := by grind
    omega)
   have hayy : 0 ≤ a * a * (y * y) - y * y := by
    have h1 : a * 2 ≤ a * a := Int.mul_le_mul_of_nonneg_left ha (by omega);have h2 : 1 * (y * y) ≤ a * a * (y * y) := Int.mul_le_mul_of_nonneg_right (by omega) (by omega);omega
   have l3 : (a * a - 1) * y < a * x := lt_of_sq (Int.mul_nonneg (by omega) hx) (by
    have e1 : a * x * (a * x) = a * a * (x * x) := by grind
    have e2 : (a * a - 1) * y * ((a * a - 1) * y) = a * a * (a * a * (y * y) - y * y) - (a * a * (y * y) - y * y) := by grind
    rw [e1, e0, e2]
    have e3 : a * a * (1 + a * a * (y * y) - y * y) = a * a + a * a * (a * a * (y * y) - y * y) := by grind
    have h1 : 2 * 2 ≤ a * a := Int.mul_le_mul ha ha (by omega) (by omega)
    omega)
   have e1 : (a - 1) * y = a * y - y := by grind
   obtain ⟨n, h1, h2⟩ := ih (a * y - x).toNat (by omega) (a * x - (a * a - 1) * y) (a * y - x) rfl (by omega) (by omega) (by
    have : (a * x - (a * a - 1) * y) * (a * x - (a * a - 1) * y) - (a * a - 1) * ((a * y - x) * (a * y - x)) = x * x - (a * a - 1) * (y * y) := by grind
    omega)
   refine ⟨n + 1, ?_, ?_⟩
   ·rw [chi_succ, ← h1, ← h2]; grind
   ·rw [psi_succ, ← h1, ← h2]; grind
theorem pell_sol {a x y : Int} (ha : 2 ≤ a) (hx : 0 ≤ x) (hy : 0 ≤ y) (h : x * x - (a * a - 1) * (y * y) = 1) : ∃ n, x = chiN a n ∧ y = psiN a n := pell_all ha _ x y rfl hx hy h
theorem psi_mul_dvd (a : Int) (p : Nat) : ∀ k : Nat, psiN a p ∣ psiN a (p * k)
 | 0 => by rw [Nat.mul_zero, psi_zero]; exact Int.dvd_zero _
 | k + 1 => by
  rw [Nat.mul_succ, (cp_add a (p * k) p).2];exact Int.dvd_add (Int.dvd_mul_left _ _) (Int.dvd_mul_of_dvd_left (psi_mul_dvd a p k))
theorem chi_psi_mul (a : Int) (p : Nat) : ∀ k : Nat, ∃ u v, chiN a (p * k) = chiN a p ^ k + psiN a p * psiN a p * u ∧ psiN a (p * (k + 1)) = (k + 1) * chiN a p ^ k * psiN a p + psiN a p * psiN a p * v
 | 0 => ⟨0, 0, by simp [chi_zero], by simp⟩
 | k + 1 => by
  obtain ⟨u, v, h1, h2⟩ := chi_psi_mul a p k;have c1 : chiN a (p * (k + 1)) = chiN a p ^ (k + 1) + psiN a p * psiN a p * (u * chiN a p + (a * a - 1) * (psiN a (p * k) / psiN a p)) ∨ True := .inr trivial;obtain ⟨w, hw⟩ := psi_mul_dvd a p k
  have e1 : chiN a (p * (k + 1)) = chiN a p ^ (k + 1) + psiN a p * psiN a p * (u * chiN a p + (a * a - 1) * w) := by
   rw [Nat.mul_succ, (cp_add a (p * k) p).1, h1, hw, Int.pow_succ]; grind
  refine ⟨_, chiN a p ^ 0 * (psiN a p * (u * chiN a p + (a * a - 1) * w)) + v * chiN a p, e1, ?_⟩;rw [Nat.mul_succ p (k + 1), (cp_add a (p * (k + 1)) p).2, e1, h2, Int.pow_succ];simp only [Int.pow_zero]
  have : ((k + 1 : Nat) : Int) = (k : Int) + 1 := by omega
  rw [this];grind
end Go.AL
/- Which psi divide which: plain. -/
namespace Go.AL
theorem psi_lt {a : Int} (ha : 2 ≤ a) {m n : Nat} (h : m < n) : psiN a m < psiN a n := by
 have h1 := psi_mono ha (show m + 1 ≤ n from h);have h2 := (psi_step ha m).2.2;have h3 := (cp_pos ha m).1;have h4 := (cp_pos ha m).2.1;rw [psi_succ] at h1;have h5 : 1 * psiN a m ≤ a * psiN a m := Int.mul_le_mul_of_nonneg_right (by omega) h4;omega
theorem psi_dvd_idx {a : Int} (ha : 2 ≤ a) {p q : Nat} (hp : 1 ≤ p) (h : psiN a p ∣ psiN a q) : p ∣ q := by
 have e : q = p * (q / p) + q % p := (Nat.div_add_mod q p).symm;have hlt := Nat.mod_lt q (show 0 < p by omega)
 generalize q / p = k at *
 generalize q % p = r at *
 obtain ⟨w, hw⟩ := psi_mul_dvd a p k;have hpl := pell a (p * k)
 have hd : psiN a p ∣ psiN a r := by
  rw [e, (cp_add a (p * k) r).2] at h;have h1 : psiN a p ∣ chiN a (p * k) * (chiN a (p * k) * psiN a r + psiN a (p * k) * chiN a r) := Int.dvd_mul_of_dvd_right h
  have e2 : psiN a r = chiN a (p * k) * (chiN a (p * k) * psiN a r + psiN a (p * k) * chiN a r) - psiN a p * (w * chiN a r * chiN a (p * k) + (a * a - 1) * w * psiN a (p * k) * psiN a r) := by
   have e3 : chiN a (p * k) * chiN a (p * k) = 1 + (a * a - 1) * (psiN a (p * k) * psiN a (p * k)) := by omega
   have e4 : chiN a (p * k) * (chiN a (p * k) * psiN a r + psiN a (p * k) * chiN a r) = chiN a (p * k) * chiN a (p * k) * psiN a r + psiN a (p * k) * chiN a r * chiN a (p * k) := by grind
   rw [e4, e3]
   have e5 : psiN a p * (w * chiN a r * chiN a (p * k) + (a * a - 1) * w * psiN a (p * k) * psiN a r) = (psiN a p * w) * chiN a r * chiN a (p * k) + (a * a - 1) * (psiN a p * w) * psiN a (p * k) * psiN a r := by grind
   rw [e5, ← hw];grind
  rw [e2];exact Int.dvd_sub h1 (Int.dvd_mul_right _ _)
 have hr : r = 0 := by
  rcases Nat.eq_zero_or_pos r with h0 | h0
  ·exact h0
  ·have h1 := psi_lt ha hlt;have h2 := psi_pos ha h0;have := Int.le_of_dvd (by omega) hd;omega
 exact ⟨k, by omega⟩
theorem psi_sq_dvd {a : Int} (ha : 2 ≤ a) {p q : Nat} (hp : 1 ≤ p) (h : psiN a p * psiN a p ∣ psiN a q) : psiN a p ∣ (q : Int) := by
 obtain ⟨k, hk⟩ := psi_dvd_idx ha hp (Int.dvd_trans (Int.dvd_mul_right _ _) h)
 cases k with
 | zero => rw [hk]; simp
 | succ k =>
  obtain ⟨u, v, h1, h2⟩ := chi_psi_mul a p k;have hpl := pell a p;have hpos := psi_pos ha hp;obtain ⟨w, hw⟩ := h;rw [hk, h2] at hw
  have e1 : ((k : Int) + 1) * chiN a p ^ k = psiN a p * (w - v) := by
   have : psiN a p * (((k : Int) + 1) * chiN a p ^ k) = psiN a p * (psiN a p * (w - v)) := by grind
   exact Int.eq_of_mul_eq_mul_left (by omega) this
  have hsq : ∀ m : Nat, ∃ z, chiN a p ^ m * chiN a p ^ m = 1 + psiN a p * z := by
   intro m
   induction m with
   | zero => exact ⟨0, by simp⟩
   | succ m ih =>
    obtain ⟨z, hz⟩ := ih;refine ⟨z + (1 + psiN a p * z) * (a * a - 1) * psiN a p, ?_⟩;rw [Int.pow_succ]
    have e : chiN a p ^ m * chiN a p * (chiN a p ^ m * chiN a p) = (chiN a p ^ m * chiN a p ^ m) * (chiN a p * chiN a p) := by grind
    have e3 : chiN a p * chiN a p = 1 + (a * a - 1) * (psiN a p * psiN a p) := by omega
    rw [e, hz, e3];grind
  obtain ⟨z, hz⟩ := hsq k
  have hd : psiN a p ∣ ((k : Int) + 1) := by
   have e2 : ((k : Int) + 1) = psiN a p * ((w - v) * chiN a p ^ k - ((k : Int) + 1) * z) := by
    have e3 : ((k : Int) + 1) * (chiN a p ^ k * chiN a p ^ k) = psiN a p * (w - v) * chiN a p ^ k := by rw [← e1]; grind
    rw [hz] at e3;grind
   exact ⟨_, e2⟩
  rw [hk]
  have : ((p * (k + 1) : Nat) : Int) = p * ((k : Int) + 1) := by simp
  rw [this];exact Int.dvd_mul_of_dvd_right hd
end Go.AL
/- define.Witness's numbers: when they are all numbers of at most 4096 words. Plain. -/
namespace Go.AL
theorem clip_fits (x : Int) : Fit (clip x) := by
 unfold clip;split
 ·assumption
 ·exact Fit.zero
theorem cE_zero {e x : Int} : cE e x = 0 ↔ e = 0 ∧ Fit x := by
 unfold cE;split
 ·rename_i h; rw [szErr_eq]; exact ⟨fun k => ⟨h, k⟩, fun k => k.2⟩
 ·rename_i h; exact ⟨fun k => absurd k h, fun k => absurd k.1 h⟩
theorem cVE {e x v E : Int} (hv : v = cV e x) (hE : E = cE e x) : (E = 0 ↔ e = 0 ∧ Fit x) ∧ (E = 0 → v = x) := by
 subst hv; subst hE;refine ⟨cE_zero, fun h => ?_⟩;obtain ⟨rfl, h'⟩ := cE_zero.1 h;exact cV_ok h'
theorem clipE {e x v E : Int} (hv : v = clip x) (hE : E = cE e x) : (E = 0 ↔ e = 0 ∧ Fit x) ∧ (E = 0 → v = x) := by
 subst hv; subst hE;refine ⟨cE_zero, fun h => ?_⟩;obtain ⟨rfl, h'⟩ := cE_zero.1 h;exact clip_fit h'
def PF (o : Int) : List Int → Prop
  | [] => True
  | x :: l => Fit (o * x) ∧ PF (o * x) l
def prI (o : Int) : List Int → Int
  | [] => o
  | x :: l => prI (o * x) l
theorem mulL_iff : ∀ (l : List Int) (e o : Int), ((mulL e o l).2 = 0 ↔ e = 0 ∧ PF o l) ∧ ((mulL e o l).2 = 0 → (mulL e o l).1 = prI o l)
 | [], e, o => ⟨⟨fun h => ⟨h, trivial⟩, fun h => h.1⟩, fun _ => rfl⟩
 | x :: l, e, o => by
  rw [mulL];obtain ⟨i1, i2⟩ := mulL_iff l (cE e (o * x)) (cV e (o * x));refine ⟨⟨fun h => ?_, fun h => ?_⟩, fun h => ?_⟩
  ·obtain ⟨h1, h2⟩ := i1.1 h;obtain ⟨h3, h4⟩ := cE_zero.1 h1;subst h3;rw [cV_ok h4] at h2;exact ⟨rfl, h4, h2⟩
  ·obtain ⟨h1, h2, h3⟩ := h;subst h1;refine i1.2 ⟨cE_ok h2, ?_⟩;rw [cV_ok h2]; exact h3
  ·obtain ⟨h1, h2⟩ := i1.1 h;obtain ⟨h3, h4⟩ := cE_zero.1 h1;rw [i2 h];subst h3;rw [cV_ok h4]; rfl
theorem mulE {l : List Int} {e v E : Int} (h : mulL e 1 l = (v, E)) : (E = 0 ↔ e = 0 ∧ PF 1 l) ∧ (E = 0 → v = prI 1 l) := by
 have := mulL_iff l e 1;rw [h] at this;exact this
theorem mulE_fit {l : List Int} {e v E : Int} (h : mulL e 1 l = (v, E)) : Fit v := by
 have := mulL_fit l e 1 fit_one;rwa [h] at this
structure DN where
  (c x d u e s f G h p I i j t v w : Int)
def dn (a b : Int) (n : Nat) : DN :=
  let c := psiN a b.toNat
  let x := chiN a b.toNat
  let d := x * x
  let u := 2 * c * c * d
  let e := psiN a n
  let s := chiN a n
  let f := s * s
  let G := a + f * (f - a)
  let h := psiN G b.toNat
  let p := chiN G b.toNat
  ⟨c, x, d, u, e, s, f, G, h, p, p * p, e / u - 1, (h - b) / (2 * c), (h - c) / f, c - b, x * s * p⟩
def DN.L (w : DN) (a b : Int) : List Int := [a, b, w.c, w.d, w.e, w.f, w.G, w.h, w.I, w.i, w.j, w.t, w.v, w.w, a - 2, b - 1]
theorem dn_L {a b : Int} {n : Nat} {c d e f G h I i j t v w k : Int} (hDc : (dn a b n).c = c) (hDd : (dn a b n).d = d) (hDe : (dn a b n).e = e) (hDf : (dn a b n).f = f) (hDG : (dn a b n).G = G) (m1 : h = (dn a b n).h) (m2 : I = (dn a b n).I) (m3 : i = (dn a b n).i) (m4 : j = (dn a b n).j) (m5 : t = (dn a b n).t) (m6 : v = (dn a b n).v) (m7 : w = (dn a b n).w) (m8 : k = a - 2) : (dn a b n).L a b = [a, b, c, d, e, f, G, h, I, i, j, t, v, w, k, b - 1] := by
 subst hDc hDd hDe hDf hDG m1 m2 m3 m4 m5 m6 m7 m8;rfl
def dU (a b : Int) : Int := 2 * psiN a b.toNat * psiN a b.toNat * (chiN a b.toNat * chiN a b.toNat)
def DOK (a b : Int) (n : Nat) : Prop := bitl (dU a b).natAbs ≤ 4000 ∧ RankIs a (dU a b) 20000 n ∧ ∀ x ∈ (dn a b n).L a b, Fit x
theorem dn_u (a b : Int) (n : Nat) : (dn a b n).u = dU a b := rfl
theorem fit_bitl {x : Int} (h : bitl x.natAbs ≤ 4000) : Fit x := by
 refine Fit.mk ?_;obtain ⟨N, hN⟩ : ∃ N : Nat, N = 4000 := ⟨_, rfl⟩;have h1 := bitl_lt x.natAbs;have h2 : (2 : Nat) ^ bitl x.natAbs ≤ 2 ^ N := Nat.pow_le_pow_right (by omega) (by omega)
 have h3 : (2 : Int) ^ N ≤ BB 4096 := by rw [BB_pow]; exact pow_le_r (by omega) (by omega)
 have h4 : ((x.natAbs : Nat) : Int) < ((2 ^ N : Nat) : Int) := Int.ofNat_lt.2 (by omega);rw [Int.natCast_pow] at h4;exact Int.lt_of_lt_of_le h4 h3
theorem mul_ge {x y : Int} (hx : 0 ≤ x) (hy : 1 ≤ y) : x ≤ x * y := by
 have := Int.mul_le_mul_of_nonneg_left hy hx;omega
theorem dn_pos1 {a b : Int} {n : Nat} (h2 : 2 ≤ a) (hb : 1 ≤ b) (hn : 1 ≤ n) : 1 ≤ (dn a b n).c ∧ 1 ≤ (dn a b n).x ∧ 1 ≤ (dn a b n).e ∧ a ≤ (dn a b n).s ∧ a ≤ (dn a b n).f ∧ 2 ≤ (dn a b n).G ∧ 1 ≤ (dn a b n).u := by
 have e1 : 1 ≤ psiN a b.toNat := psi_pos h2 (by omega);have e2 := (cp_pos h2 b.toNat).1;have e3 : 1 ≤ psiN a n := psi_pos h2 hn;obtain ⟨m, rfl⟩ : ∃ m, n = m + 1 := ⟨n - 1, by omega⟩;have e4 := (chi_step h2 m).2.2.2.2;have e5 : a ≤ chiN a (m + 1) * chiN a (m + 1) := Int.le_trans e4 (mul_ge (by omega) (by omega));have e6 : 0 ≤ chiN a (m + 1) * chiN a (m + 1) * (chiN a (m + 1) * chiN a (m + 1) - a) := Int.mul_nonneg (by omega) (by omega);have e7 : 1 ≤ 2 * psiN a b.toNat * psiN a b.toNat := Int.le_trans (by omega) (mul_ge (x := 2 * psiN a b.toNat) (by omega) e1);have e8 : 1 ≤ chiN a b.toNat * chiN a b.toNat := Int.le_trans e2 (mul_ge (by omega) e2);have e9 := Int.le_trans e7 (mul_ge (x := 2 * psiN a b.toNat * psiN a b.toNat) (by omega) e8);exact ⟨e1, e2, e3, e4, e5, by show 2 ≤ a + chiN a (m + 1) * chiN a (m + 1) * (chiN a (m + 1) * chiN a (m + 1) - a); omega, e9⟩
theorem dn_pos2 {a b : Int} {n : Nat} (hb : 1 ≤ b) (hG : 2 ≤ (dn a b n).G) : 1 ≤ (dn a b n).h ∧ 1 ≤ (dn a b n).p := by
 exact ⟨psi_pos hG (by omega), (cp_pos hG b.toNat).1⟩
theorem d_first {a b : Int} {c x d u E1 E2 E3 E4 : Int} (hc : c = clip (psiN a b.toNat)) (hx : x = clip (chiN a b.toNat)) (hE1 : E1 = cE 0 (psiN a b.toNat)) (hE2 : E2 = cE E1 (chiN a b.toNat)) (hd : mulL E2 1 [x, x] = (d, E3)) (hu : mulL E3 1 [2, c, c, d] = (u, E4)) (hE : E4 = 0) : c = psiN a b.toNat ∧ x = chiN a b.toNat ∧ d = x * x ∧ u = 2 * c * c * d ∧ u = dU a b := by
 obtain ⟨u1, u2⟩ := mulE hu;obtain ⟨d1, d2⟩ := mulE hd;obtain ⟨x1, x2⟩ := clipE hx hE2;obtain ⟨c1, c2⟩ := clipE hc hE1;have h3 := (u1.1 hE).1;have h2 := (d1.1 h3).1;have h1 := (x1.1 h2).1;have k1 := c2 h1;have k2 := x2 h2;have k3 := d2 h3;have k4 := u2 hE;simp only [prI, Int.one_mul] at k3 k4;refine ⟨k1, k2, k3, k4, ?_⟩;rw [k4, k3, k1, k2]; rfl
theorem d_first' {a b : Int} {n : Nat} {c x d u E1 E2 E3 E4 : Int} (h2 : 2 ≤ a) (hb : 1 ≤ b) (hc : c = clip (psiN a b.toNat)) (hx : x = clip (chiN a b.toNat)) (hE1 : E1 = cE 0 (psiN a b.toNat)) (hE2 : E2 = cE E1 (chiN a b.toNat)) (hd : mulL E2 1 [x, x] = (d, E3)) (hu : mulL E3 1 [2, c, c, d] = (u, E4)) (hk : DOK a b n) : E4 = 0 := by
 obtain ⟨k1, k2, k3⟩ := hk;simp only [DN.L, List.forall_mem_cons] at k3;obtain ⟨_, _, f1, f2, _⟩ := k3;have e1 : 1 ≤ psiN a b.toNat := psi_pos h2 (by omega);have e2 := (cp_pos h2 b.toNat).1;have f1 : Fit (psiN a b.toNat) := f1;have f2 : Fit (chiN a b.toNat * chiN a b.toNat) := f2;have f3 : Fit (dU a b) := fit_bitl k1;have f4 : Fit (chiN a b.toNat) := fit_of f2 (by omega) (mul_ge (by omega) e2);have g1 : 1 ≤ chiN a b.toNat * chiN a b.toNat := Int.le_trans e2 (mul_ge (by omega) e2);have g2 : 2 * psiN a b.toNat ≤ 2 * psiN a b.toNat * psiN a b.toNat := mul_ge (by omega) e1;have f5 : Fit (2 * psiN a b.toNat * psiN a b.toNat) := fit_of f3 (by omega) (mul_ge (by omega) g1);have f6 : Fit (2 * psiN a b.toNat) := fit_of f5 (by omega) g2;obtain ⟨u1, u2⟩ := mulE hu;obtain ⟨d1, d2⟩ := mulE hd;obtain ⟨x1, x2⟩ := clipE hx hE2;obtain ⟨c1, c2⟩ := clipE hc hE1;have h1 : E1 = 0 := c1.2 ⟨rfl, f1⟩;have h2' : E2 = 0 := x1.2 ⟨h1, f4⟩;have hc' := c2 h1;have hx' := x2 h2';have h3 : E3 = 0 := d1.2 ⟨h2', by simp only [PF, Int.one_mul, hx']; exact ⟨f4, f2, trivial⟩⟩;have hd' := d2 h3;simp only [prI, Int.one_mul] at hd';refine u1.2 ⟨h3, ?_⟩;simp only [PF, Int.one_mul, hd', hc', hx'];exact ⟨fit_two, f6, f5, f3, trivial⟩
theorem d_second {a : Int} {n : Nat} {e s f g1 g2 G E5 E6 E7 E8 E9 E10 : Int} (he : e = clip (psiN a n)) (hE5 : E5 = cE 0 (psiN a n)) (hs : s = clip (chiN a n)) (hE6 : E6 = cE E5 (chiN a n)) (hf : mulL E6 1 [s, s] = (f, E7)) (hg1 : g1 = cV E7 (f - a)) (hE8 : E8 = cE E7 (f - a)) (hg2 : mulL E8 1 [f, g1] = (g2, E9)) (hG : G = cV E9 (a + g2)) (hE10 : E10 = cE E9 (a + g2)) (hE : E10 = 0) : e = psiN a n ∧ s = chiN a n ∧ f = s * s ∧ G = a + f * (f - a) := by
 obtain ⟨p1, p2⟩ := cVE hG hE10;obtain ⟨q1, q2⟩ := mulE hg2;obtain ⟨r1, r2⟩ := cVE hg1 hE8;obtain ⟨s1, s2⟩ := mulE hf;obtain ⟨t1, t2⟩ := clipE hs hE6;obtain ⟨v1, v2⟩ := clipE he hE5;have h9 := (p1.1 hE).1;have h8 := (q1.1 h9).1;have h7 := (r1.1 h8).1;have h6 := (s1.1 h7).1;have h5 := (t1.1 h6).1;have k1 := p2 hE;have k2 := q2 h9;have k3 := r2 h8;have k4 := s2 h7;simp only [prI, Int.one_mul] at k2 k4;exact ⟨v2 h5, t2 h6, k4, by rw [k1, k2, k3]⟩
theorem d_second' {a b : Int} {n : Nat} {e s f g1 g2 G E5 E6 E7 E8 E9 E10 : Int} (h2 : 2 ≤ a) (hb : 1 ≤ b) (he : e = clip (psiN a n)) (hE5 : E5 = cE 0 (psiN a n)) (hs : s = clip (chiN a n)) (hE6 : E6 = cE E5 (chiN a n)) (hf : mulL E6 1 [s, s] = (f, E7)) (hg1 : g1 = cV E7 (f - a)) (hE8 : E8 = cE E7 (f - a)) (hg2 : mulL E8 1 [f, g1] = (g2, E9)) (hG : G = cV E9 (a + g2)) (hE10 : E10 = cE E9 (a + g2)) (hk : DOK a b n) : E10 = 0 := by
 obtain ⟨k1, k2, k3⟩ := hk;simp only [DN.L, List.forall_mem_cons] at k3;obtain ⟨fa, _, _, _, f1, f2, f3, _⟩ := k3;obtain ⟨e1, e2, e3, e4, e5, e6, e7⟩ := dn_pos1 (n := n) h2 hb k2.1;have f1 : Fit (psiN a n) := f1;have f2 : Fit (chiN a n * chiN a n) := f2;have f3 : Fit (a + chiN a n * chiN a n * (chiN a n * chiN a n - a)) := f3;have e4 : a ≤ chiN a n := e4;have e5 : a ≤ chiN a n * chiN a n := e5;have g0 : 0 ≤ chiN a n * chiN a n * (chiN a n * chiN a n - a) := Int.mul_nonneg (by omega) (by omega);have f4 : Fit (chiN a n) := fit_of f2 (by omega) (mul_ge (by omega) (by omega));have f5 : Fit (chiN a n * chiN a n - a) := fit_of f2 (by omega) (by omega);have f6 : Fit (chiN a n * chiN a n * (chiN a n * chiN a n - a)) := fit_of f3 g0 (by omega);obtain ⟨p1, p2⟩ := cVE hG hE10;obtain ⟨q1, q2⟩ := mulE hg2;obtain ⟨r1, r2⟩ := cVE hg1 hE8;obtain ⟨s1, s2⟩ := mulE hf;obtain ⟨t1, t2⟩ := clipE hs hE6;obtain ⟨v1, v2⟩ := clipE he hE5;have h5 : E5 = 0 := v1.2 ⟨rfl, f1⟩;have h6 : E6 = 0 := t1.2 ⟨h5, f4⟩;have hs' := t2 h6;have h7 : E7 = 0 := s1.2 ⟨h6, by simp only [PF, Int.one_mul, hs']; exact ⟨f4, f2, trivial⟩⟩;have hf' := s2 h7;simp only [prI, Int.one_mul, hs'] at hf';have h8 : E8 = 0 := r1.2 ⟨h7, by rw [hf']; exact f5⟩;have hg' := r2 h8;rw [hf'] at hg';have h9 : E9 = 0 := q1.2 ⟨h8, by simp only [PF, Int.one_mul, hf', hg']; exact ⟨f2, f6, trivial⟩⟩;have hg2' := q2 h9;simp only [prI, Int.one_mul, hf', hg'] at hg2';exact p1.2 ⟨h9, by rw [hg2']; exact f3⟩
theorem d_third {a b : Int} {n : Nat} {h p I q1 i h1 c2 j t1 t v w k E11 E12 E13 E14 E15 E16 E17 E18 E19 E20 E21 E22 E23 : Int} (hh : h = clip (dn a b n).h) (hE11 : E11 = cE 0 (dn a b n).h) (hp : p = clip (dn a b n).p) (hE12 : E12 = cE E11 (dn a b n).p) (hI : mulL E12 1 [p, p] = (I, E13)) (hq1 : q1 = cV E13 ((dn a b n).e / (dn a b n).u)) (hE14 : E14 = cE E13 ((dn a b n).e / (dn a b n).u)) (hi : i = cV E14 (q1 - 1)) (hE15 : E15 = cE E14 (q1 - 1)) (hh1 : h1 = cV E15 (h - b)) (hE16 : E16 = cE E15 (h - b)) (hc2 : mulL E16 1 [2, (dn a b n).c] = (c2, E17)) (hj : j = cV E17 (h1 / c2)) (hE18 : E18 = cE E17 (h1 / c2)) (ht1 : t1 = cV E18 (h - (dn a b n).c)) (hE19 : E19 = cE E18 (h - (dn a b n).c)) (ht : t = cV E19 (t1 / (dn a b n).f)) (hE20 : E20 = cE E19 (t1 / (dn a b n).f)) (hv : v = cV E20 ((dn a b n).c - b)) (hE21 : E21 = cE E20 ((dn a b n).c - b)) (hw : mulL E21 1 [(dn a b n).x, (dn a b n).s, p] = (w, E22)) (hk : k = cV E22 (a - 2)) (hE23 : E23 = cE E22 (a - 2)) :
  (E23 = 0 → h = (dn a b n).h ∧ I = (dn a b n).I ∧ i = (dn a b n).i ∧ j = (dn a b n).j ∧ t = (dn a b n).t ∧ v = (dn a b n).v ∧ w = (dn a b n).w ∧ k = a - 2) ∧
  (E23 = 0 ↔ Fit (dn a b n).h ∧ Fit (dn a b n).p ∧ Fit (dn a b n).I ∧ Fit ((dn a b n).e / (dn a b n).u) ∧ Fit (dn a b n).i ∧ Fit ((dn a b n).h - b) ∧ Fit (2 * (dn a b n).c) ∧ Fit (dn a b n).j ∧ Fit ((dn a b n).h - (dn a b n).c) ∧ Fit (dn a b n).t ∧ Fit (dn a b n).v ∧ Fit (dn a b n).x ∧ Fit ((dn a b n).x * (dn a b n).s) ∧ Fit (dn a b n).w ∧ Fit (a - 2)) := by
 have w1 : (dn a b n).I = (dn a b n).p * (dn a b n).p := rfl;have w2 : (dn a b n).i = (dn a b n).e / (dn a b n).u - 1 := rfl;have w3 : (dn a b n).j = ((dn a b n).h - b) / (2 * (dn a b n).c) := rfl;have w4 : (dn a b n).t = ((dn a b n).h - (dn a b n).c) / (dn a b n).f := rfl;have w5 : (dn a b n).v = (dn a b n).c - b := rfl;have w6 : (dn a b n).w = (dn a b n).x * (dn a b n).s * (dn a b n).p := rfl;rw [w1, w2, w3, w4, w5, w6]
 generalize dn a b n = D at *
 obtain ⟨c, x, d, u, e, s, f, G, H, P, I', i', j', t', v', w'⟩ := D
 simp only at *
 clear w1 w2 w3 w4 w5 w6;obtain ⟨z11, y11⟩ := clipE hh hE11;obtain ⟨z12, y12⟩ := clipE hp hE12;obtain ⟨z13, y13⟩ := mulE hI;obtain ⟨z14, y14⟩ := cVE hq1 hE14;obtain ⟨z15, y15⟩ := cVE hi hE15;obtain ⟨z16, y16⟩ := cVE hh1 hE16;obtain ⟨z17, y17⟩ := mulE hc2;obtain ⟨z18, y18⟩ := cVE hj hE18;obtain ⟨z19, y19⟩ := cVE ht1 hE19;obtain ⟨z20, y20⟩ := cVE ht hE20;obtain ⟨z21, y21⟩ := cVE hv hE21;obtain ⟨z22, y22⟩ := mulE hw;obtain ⟨z23, y23⟩ := cVE hk hE23;clear hh hE11 hp hE12 hI hq1 hE14 hi hE15 hh1 hE16 hc2 hj hE18 ht1 hE19 ht hE20 hv hE21 hw hk hE23
 simp only [prI, PF, Int.one_mul, and_true] at *
 have up : E23 = 0 → h = H ∧ p = P ∧ I = P * P ∧ q1 = e / u ∧ i = e / u - 1 ∧ h1 = H - b ∧ c2 = 2 * c ∧ j = (H - b) / (2 * c) ∧ t1 = H - c ∧ t = (H - c) / f ∧ v = c - b ∧ w = x * s * P ∧ k = a - 2 := fun h0 => by
  have k22 := (z23.1 h0).1;have k21 := (z22.1 k22).1;have k20 := (z21.1 k21).1;have k19 := (z20.1 k20).1;have k18 := (z19.1 k19).1;have k17 := (z18.1 k18).1;have k16 := (z17.1 k17).1;have k15 := (z16.1 k16).1;have k14 := (z15.1 k15).1;have k13 := (z14.1 k14).1;have k12 := (z13.1 k13).1;have k11 := (z12.1 k12).1;have a1 := y11 k11;have a2 := y12 k12;subst a1; subst a2;have a3 := y13 k13;have a4 := y14 k14;subst a4;have a5 := y15 k15;have a6 := y16 k16;subst a6;have a7 := y17 k17;subst a7;have a8 := y18 k18;have a9 := y19 k19;subst a9;exact ⟨rfl, rfl, a3, rfl, a5, rfl, rfl, a8, rfl, y20 k20, y21 k21, y22 k22, y23 h0⟩
 refine ⟨fun h0 => ?_, fun h0 => ?_, fun h0 => ?_⟩
 ·obtain ⟨b1, b2, b3, b4, b5, b6, b7, b8, b9, b10, b11, b12, b13⟩ := up h0;exact ⟨b1, b3, b5, b8, b10, b11, b12, b13⟩
 ·obtain ⟨b1, b2, b3, b4, b5, b6, b7, b8, b9, b10, b11, b12, b13⟩ := up h0;subst b1; subst b2; subst b4; subst b6; subst b7; subst b9;obtain ⟨k22, r23⟩ := z23.1 h0;obtain ⟨k21, r22⟩ := z22.1 k22;obtain ⟨k20, r21⟩ := z21.1 k21;obtain ⟨k19, r20⟩ := z20.1 k20;obtain ⟨k18, r19⟩ := z19.1 k19;obtain ⟨k17, r18⟩ := z18.1 k18;obtain ⟨k16, r17⟩ := z17.1 k17;obtain ⟨k15, r16⟩ := z16.1 k16;obtain ⟨k14, r15⟩ := z15.1 k15;obtain ⟨k13, r14⟩ := z14.1 k14;obtain ⟨k12, r13⟩ := z13.1 k13;obtain ⟨k11, r12⟩ := z12.1 k12;obtain ⟨_, r11⟩ := z11.1 k11;exact ⟨r11, r12, r13.2, r14, r15, r16, r17.2, r18, r19, r20, r21, r22.1, r22.2.1, r22.2.2, r23⟩
 ·obtain ⟨r11, r12, r13, r14, r15, r16, r17, r18, r19, r20, r21, r22, r22', r22'', r23⟩ := h0;have k11 := z11.2 ⟨trivial, r11⟩;have a1 := y11 k11;subst a1;have k12 := z12.2 ⟨k11, r12⟩;have a2 := y12 k12;subst a2;have k13 := z13.2 ⟨k12, r12, r13⟩;have k14 := z14.2 ⟨k13, r14⟩;have a4 := y14 k14;subst a4;have k15 := z15.2 ⟨k14, r15⟩;have k16 := z16.2 ⟨k15, r16⟩;have a6 := y16 k16;subst a6;have k17 := z17.2 ⟨k16, fit_two, r17⟩;have a7 := y17 k17;subst a7;have k18 := z18.2 ⟨k17, r18⟩;have k19 := z19.2 ⟨k18, r19⟩;have a9 := y19 k19;subst a9;have k20 := z20.2 ⟨k19, r20⟩;have k21 := z21.2 ⟨k20, r21⟩;have k22 := z22.2 ⟨k21, r22, r22', r22''⟩;exact z23.2 ⟨k22, r23⟩
theorem fit_minus {x y : Int} (hx : Fit x) (hy : Fit y) (h0 : 0 ≤ x) (h1 : 0 ≤ y) : Fit (x - y) := by
 have := hx.lt;have := hy.lt;exact Fit.mk (by omega)
theorem div_le_fit {x y : Int} (hx : Fit x) (h0 : 0 ≤ x) (hy : 1 ≤ y) : Fit (x / y) := by
 refine fit_of hx (Int.ediv_nonneg h0 (by omega)) ?_;exact Int.ediv_le_self y h0
theorem d_third_iff {a b : Int} {n : Nat} (ha : Fit a) (hbf : Fit b) (h2 : 2 ≤ a) (hb : 1 ≤ b) (hk : bitl (dU a b).natAbs ≤ 4000) (hr : RankIs a (dU a b) 20000 n) (hfc : Fit (dn a b n).c) (hfd : Fit (dn a b n).d) (hfe : Fit (dn a b n).e) (hff : Fit (dn a b n).f) (hfG : Fit (dn a b n).G) :
  (Fit (dn a b n).h ∧ Fit (dn a b n).p ∧ Fit (dn a b n).I ∧ Fit ((dn a b n).e / (dn a b n).u) ∧ Fit (dn a b n).i ∧ Fit ((dn a b n).h - b) ∧ Fit (2 * (dn a b n).c) ∧ Fit (dn a b n).j ∧ Fit ((dn a b n).h - (dn a b n).c) ∧ Fit (dn a b n).t ∧ Fit (dn a b n).v ∧ Fit (dn a b n).x ∧ Fit ((dn a b n).x * (dn a b n).s) ∧ Fit (dn a b n).w ∧ Fit (a - 2)) ↔ DOK a b n := by
 constructor
 ·intro ⟨r1, r2, r3, r4, r5, r6, r7, r8, r9, r10, r11, r12, r13, r14, r15⟩;refine ⟨hk, hr, ?_⟩;simp only [DN.L, List.forall_mem_cons];exact ⟨ha, hbf, hfc, hfd, hfe, hff, hfG, r1, r3, r5, r8, r10, r11, r14, r15, fit_of hbf (by omega) (by omega), by simp⟩
 ·intro ⟨_, _, k3⟩;simp only [DN.L, List.forall_mem_cons] at k3;obtain ⟨_, _, _, _, _, _, _, g1, g2, g3, g4, g5, g6, g7, g8, _⟩ := k3;obtain ⟨e1, e2, e3, e4, e5, e6, e7⟩ := dn_pos1 (n := n) h2 hb hr.1;obtain ⟨p1, p2⟩ := dn_pos2 (a := a) (b := b) (n := n) hb e6;have w1 : (dn a b n).I = (dn a b n).p * (dn a b n).p := rfl;have w6 : (dn a b n).w = (dn a b n).x * (dn a b n).s * (dn a b n).p := rfl;have w7 : (dn a b n).u = 2 * (dn a b n).c * (dn a b n).c * (dn a b n).d := rfl;have w8 : (dn a b n).d = (dn a b n).x * (dn a b n).x := rfl;have hfu : Fit (dn a b n).u := fit_bitl hk
  have hd1 : 1 ≤ (dn a b n).d := by rw [w8]; exact Int.le_trans e2 (mul_ge (by omega) e2)
  have fp : Fit (dn a b n).p := by rw [w1] at g2; exact fit_of g2 (by omega) (mul_ge (by omega) p2)
  have hcc : 2 * (dn a b n).c ≤ 2 * (dn a b n).c * (dn a b n).c := mul_ge (by omega) e1
  have f2c : Fit (2 * (dn a b n).c) := by
   rw [w7] at hfu;exact fit_of hfu (by omega) (Int.le_trans hcc (mul_ge (by omega) hd1))
  have hxs : 0 ≤ (dn a b n).x * (dn a b n).s := Int.mul_nonneg (by omega) (by omega);refine ⟨g1, fp, g2, div_le_fit hfe (by omega) e7, g3, fit_minus g1 hbf (by omega) (by omega), f2c, g4, fit_minus g1 hfc (by omega) (by omega), g5, g6, ?_, ?_, g7, g8⟩
  ·rw [w8] at hfd; exact fit_of hfd (by omega) (mul_ge (by omega) e2)
  ·rw [w6] at g7; exact fit_of g7 hxs (mul_ge hxs p2)
end Go.AL
/- define.Witness. -/
namespace Go.Proofs.YtcaecieigoplbaaGreat
open Go.AL
abbrev fiB (a e : Int) : Bx := finB (decide (a < 0)) (toW a.natAbs) e
theorem d_rank {a b c x d u E1 E2 E3 E4 : Int} (ha : Fit a) (h2 : 2 ≤ a) (h0 : 1 ≤ b) (fu : Fit u) (hc : c = clip (psiN a b.toNat)) (hx : x = clip (chiN a b.toNat)) (hE1 : E1 = cE 0 (psiN a b.toNat)) (hE2 : E2 = cE E1 (chiN a b.toNat)) (hd : mulL E2 1 [x, x] = (d, E3)) (hu : mulL E3 1 [2, c, c, d] = (u, E4)) :
  (∃ E, E ≠ 0 ∧ (∀ n, ¬ DOK a b n) ∧ IoFn Tryz.prog 115 [.ptr 900 0, aX u] [(900, fiB a E4)] (.ret (aN 0)) [(900, fiB a E)]) ∨ (∃ n : Nat, E4 = 0 ∧ bitl u.natAbs ≤ 4000 ∧ RankIs a u 20000 n ∧ IoFn Tryz.prog 115 [.ptr 900 0, aX u] [(900, fiB a E4)] (.ret (aN n)) [(900, fiB a 0)]) := by
 rcases Classical.em (E4 = 0) with hE | hE
 ·obtain ⟨k1, k2, k3, k4, k5⟩ := d_first hc hx hE1 hE2 hd hu hE;subst hE;rcases Classical.em (1 ≤ u ∧ bitl u.natAbs ≤ 4000) with hb | hb
  ·rcases Classical.em (NoRank a u 20000) with hn | hn
   ·refine .inl ⟨4, by omega, fun n hk => ?_, frank_none a u ha h2 fu hb.1 hb.2 hn⟩;obtain ⟨_, q, _⟩ := hk;rw [← k5] at q;exact hn n q.1 q.2.1 q.2.2.1
   ·obtain ⟨n, hn⟩ := rank_ex hn;exact .inr ⟨n, rfl, hb.2, hn, frank_ok a u n ha h2 fu hb.1 hb.2 hn⟩
  ·refine .inl ⟨4, by omega, fun n hk => hb ?_, frank_big a u ha h2 fu hb⟩;obtain ⟨q1, q2, _⟩ := hk;have := (dn_pos1 (a := a) (b := b) (n := n) h2 h0 q2.1).2.2.2.2.2.2;rw [dn_u] at this;rw [k5];exact ⟨this, q1⟩
 ·exact .inl ⟨E4, hE, fun n hk => hE (d_first' h2 h0 hc hx hE1 hE2 hd hu hk), frank_err _ _ u E4 hE⟩
set_option maxHeartbeats 8000000 in
set_option maxRecDepth 20000 in
theorem dWit_ok (a b : Int) (ha : Fit a) (h2 : 2 ≤ a) (h0 : 1 ≤ b) (h1 : b ≤ 9223372036854775807) (r : AV) (hr1 : ∀ n, DOK a b n → r = .tup [.sl 2 eX ((dn a b n).L a b), aN 0]) (hr2 : (∀ n, ¬ DOK a b n) → r = .tup [.v (.slice none 0 0), aN 4]) : PureFn Tryz.prog 46 [aX a, aN b] r := by
 refine PureFn.of_body Tryz.func46 rfl Tryz.ntmps46 rfl rfl ?_;have e1 := fchAdd_ok (decide (a < 0)) (toW a.natAbs) 0 a 0 ha Fit.zero;rw [Int.add_zero, cV_ok ha, cE_ok ha] at e1;have e2 := fpsi_ok (decide (a < 0)) (toW a.natAbs) 0 a b ha h2 h0 (by omega);have e3 := fchi_ok (decide (a < 0)) (toW a.natAbs) (cE 0 (psiN a b.toNat)) a b ha h2 h0 (by omega);obtain ⟨c, hc⟩ : ∃ c, c = clip (psiN a b.toNat) := ⟨_, rfl⟩;obtain ⟨x, hx⟩ : ∃ x, x = clip (chiN a b.toNat) := ⟨_, rfl⟩;have fc : Fit c := hc ▸ clip_fits _;have fx : Fit x := hx ▸ clip_fits _;obtain ⟨E1, hE1⟩ : ∃ E, E = cE 0 (psiN a b.toNat) := ⟨_, rfl⟩;obtain ⟨E2, hE2⟩ : ∃ E, E = cE E1 (chiN a b.toNat) := ⟨_, rfl⟩;rw [← hc, ← hE1] at e2;rw [← hE1, ← hx, ← hE2] at e3;have e4 := fchSquare_ok (decide (a < 0)) (toW a.natAbs) E2 x fx;obtain ⟨d, E3, hd⟩ : ∃ d E, mulL E2 1 [x, x] = (d, E) := ⟨(mulL E2 1 [x, x]).1, (mulL E2 1 [x, x]).2, rfl⟩;rw [hd] at e4;have fd : Fit d := mulE_fit hd;have e5 := fchMul_ok (decide (a < 0)) (toW a.natAbs) E3 [2, c, c, d] (by simp [fit_two, fc, fd]) (by simp);obtain ⟨u, E4, hu⟩ : ∃ u E, mulL E3 1 [2, c, c, d] = (u, E) := ⟨(mulL E3 1 [2, c, c, d]).1, (mulL E3 1 [2, c, c, d]).2, rfl⟩;rw [hu] at e5;have fu : Fit u := mulE_fit hu;dsimp only at e4 e5;refine AWP.seqS ?_;(repeat' (first |refine qv ?_ |apply qn |apply qr |refine qe ?_|fail));refine ⟨AWP.seqS ?_⟩;(repeat' (first |refine qv ?_ |apply qs |apply qr |apply qb));refine qc (Valid_int a ha) ?_;(repeat' (first |refine qv ?_ |apply qn |apply qs |apply qr |refine AWP.condF rfl ?_));refine qc (Of_ok 2 (by omega) (by omega)) ?_;skip;refine qc (Less_ok a 2 ha fit_two) ?_;(repeat' (first |refine qv ?_ |refine Fl.nil (fun _ => by kernel_rfl) ?_ |(refine AWP.condD rfl ?_ ?_ <;> intro _ <;> try (exfalso; omega)) |apply qk |(refine Fl.splitD rfl rfl ?_ ?_ <;> intro _ <;> try (exfalso; omega))));refine ⟨AWP.seqS ?_⟩;(repeat' (first |refine qv ?_ |apply qn |apply qr |refine qe ?_|fail));refine ⟨AWP.seqS ?_⟩;(repeat' (first |apply qr));refine Fl.make rfl rfl rfl rfl rfl rfl rfl rfl rfl rfl eX 0 (by exact leX_zero (σ := []) rfl) (by rfl) (by omega) (by dsimp only; omega) (by omega) ?_;(repeat' (first |refine qv ?_ |apply qn));refine ⟨AWP.seqS ?_⟩;(repeat' (first |refine qv ?_ |apply qr));refine qc (Of_ok 0 (by omega) (by omega)) ?_;skip;refine qi [(900, 27)] (e1) ?_;(repeat' (first |refine qv ?_|fail));refine qc (Of_ok b (by omega) (by omega)) ?_;(repeat' (first |refine Fl.relK rfl rfl rfl rfl rfl rfl rfl rfl rfl ?_ |refine Fl.rstK rfl rfl rfl rfl rfl rfl rfl rfl rfl rfl rfl (LeL.refl _) rfl rfl ?_ |refine Fl.nil (fun _ => by kernel_rfl) ?_|fail));refine ⟨AWP.seqS ?_⟩;(repeat' (first |refine qv ?_ |apply qr));refine qi [(900, 27)] (e2) ?_;(repeat' (first |refine Fl.relK rfl rfl rfl rfl rfl rfl rfl rfl rfl ?_ |refine Fl.rstK rfl rfl rfl rfl rfl rfl rfl rfl rfl rfl rfl (LeL.refl _) rfl rfl ?_ |apply qn));refine ⟨AWP.seqS ?_⟩;(repeat' (first |refine qv ?_ |apply qr));refine qi [(900, 27)] (e3) ?_;(repeat' (first |apply qn |refine qe ?_|fail));refine ⟨AWP.seqS ?_⟩;(repeat' (first |refine qv ?_ |apply qr));refine qi [(900, 27)] (e4) ?_;(repeat' (first |refine Fl.relK rfl rfl rfl rfl rfl rfl rfl rfl rfl ?_ |refine Fl.rstK rfl rfl rfl rfl rfl rfl rfl rfl rfl rfl rfl (LeL.refl _) rfl rfl ?_ |refine Fl.nil (fun _ => by kernel_rfl) ?_|fail));refine ⟨AWP.seqS ?_⟩;(repeat' (first |refine qv ?_ |apply qr));refine qc (Of_ok 2 (by omega) (by omega)) ?_;(repeat' (first |refine Fl.rldK rfl rfl rfl rfl rfl rfl rfl (fun _ => rfl) (fun _ => rfl) rfl ?_ |refine Fl.relK rfl rfl rfl rfl rfl rfl rfl rfl rfl ?_ |refine qv ?_|fail));refine ql eX [2, c, c, d] ?_;skip;refine qi [(900, 27)] (e5) ?_;(repeat' (first |refine Fl.nil (fun _ => by kernel_rfl) ?_ |refine qe ?_|fail));refine ⟨AWP.seqS ?_⟩;(repeat' (first |refine qv ?_ |apply qr));rcases d_rank ha h2 h0 fu hc hx hE1 hE2 hd hu with ⟨E, hE, hno, e6⟩ | ⟨n, hE, hbu, hn, e6⟩
 ·refine qi [(900, 27)] (e6) ?_;(repeat' (first |refine qv ?_ |apply qn));refine ⟨AWP.seqS ?_⟩;(repeat' (first |refine qv ?_ |apply qn |apply qs |apply qr |(refine AWP.condN rfl ?_ ?_ <;> intro _ <;> try (exfalso; omega)) |apply qt));rw [hr2 hno];exact RetOk.of rfl (AV.Le.refl _)
 obtain ⟨k1, k2, k3, k4, k5⟩ := d_first hc hx hE1 hE2 hd hu hE;subst hE;clear hc hx hE1 hE2 hd e1 e2 e3 e4 e5;have hn1 : 1 ≤ n := hn.1;have hn2 : n ≤ 20000 := hn.2.1;have e7 := fpsi_ok (decide (a < 0)) (toW a.natAbs) 0 a n ha h2 (by omega) (by omega);rw [Int.toNat_natCast] at e7;obtain ⟨e, he⟩ : ∃ e, e = clip (psiN a n) := ⟨_, rfl⟩;obtain ⟨E5, hE5⟩ : ∃ E, E = cE 0 (psiN a n) := ⟨_, rfl⟩;rw [← he, ← hE5] at e7;have e8 := fchi_ok (decide (a < 0)) (toW a.natAbs) E5 a n ha h2 (by omega) (by omega);rw [Int.toNat_natCast] at e8;obtain ⟨s, hs⟩ : ∃ s, s = clip (chiN a n) := ⟨_, rfl⟩;obtain ⟨E6, hE6⟩ : ∃ E, E = cE E5 (chiN a n) := ⟨_, rfl⟩;rw [← hs, ← hE6] at e8;have fe : Fit e := he ▸ clip_fits _;have fs : Fit s := hs ▸ clip_fits _;have e9 := fchSquare_ok (decide (a < 0)) (toW a.natAbs) E6 s fs;obtain ⟨f, E7, hf⟩ : ∃ y E, mulL E6 1 [s, s] = (y, E) := ⟨(mulL E6 1 [s, s]).1, (mulL E6 1 [s, s]).2, rfl⟩;rw [hf] at e9;have ff : Fit f := mulE_fit hf;have e10 := fchSub_ok (decide (a < 0)) (toW a.natAbs) E7 f a ff ha;obtain ⟨g1, hg1⟩ : ∃ g, g = cV E7 (f - a) := ⟨_, rfl⟩;obtain ⟨E8, hE8⟩ : ∃ E, E = cE E7 (f - a) := ⟨_, rfl⟩;rw [← hg1, ← hE8] at e10;have fg1 : Fit g1 := hg1 ▸ cV_fit _ _;have e11 := fchMul_ok (decide (a < 0)) (toW a.natAbs) E8 [f, g1] (by simp [ff, fg1]) (by simp);obtain ⟨g2, E9, hg2⟩ : ∃ y E, mulL E8 1 [f, g1] = (y, E) := ⟨(mulL E8 1 [f, g1]).1, (mulL E8 1 [f, g1]).2, rfl⟩;rw [hg2] at e11;have fg2 : Fit g2 := mulE_fit hg2;have e12 := fchAdd_ok (decide (a < 0)) (toW a.natAbs) E9 a g2 ha fg2;obtain ⟨G, hG⟩ : ∃ g, g = cV E9 (a + g2) := ⟨_, rfl⟩;obtain ⟨E10, hE10⟩ : ∃ E, E = cE E9 (a + g2) := ⟨_, rfl⟩;rw [← hG, ← hE10] at e12;have fG : Fit G := hG ▸ cV_fit _ _;dsimp only at e9 e11;refine qi [(900, 27)] (e6) ?_;(repeat' (first |refine qv ?_ |apply qn));refine ⟨AWP.seqS ?_⟩;(repeat' (first |refine qv ?_ |apply qn |apply qs |apply qr |refine AWP.condF rfl ?_ |apply qk));refine ⟨AWP.seqS ?_⟩;(repeat' (first |refine qv ?_ |apply qr));refine qi [(900, 27)] (e7) ?_;(repeat' (first |refine Fl.relK rfl rfl rfl rfl rfl rfl rfl rfl rfl ?_ |refine Fl.rstK rfl rfl rfl rfl rfl rfl rfl rfl rfl rfl rfl (LeL.refl _) rfl rfl ?_ |apply qn));refine ⟨AWP.seqS ?_⟩;(repeat' (first |refine qv ?_ |apply qr));refine qi [(900, 27)] (e8) ?_;(repeat' (first |apply qn |refine qe ?_|fail));refine ⟨AWP.seqS ?_⟩;(repeat' (first |refine qv ?_ |apply qr));refine qi [(900, 27)] (e9) ?_;(repeat' (first |refine Fl.relK rfl rfl rfl rfl rfl rfl rfl rfl rfl ?_ |refine Fl.rstK rfl rfl rfl rfl rfl rfl rfl rfl rfl rfl rfl (LeL.refl _) rfl rfl ?_ |refine Fl.nil (fun _ => by kernel_rfl) ?_|fail));refine ⟨AWP.seqS ?_⟩;(repeat' (first |refine Fl.rldK rfl rfl rfl rfl rfl rfl rfl (fun _ => rfl) (fun _ => rfl) rfl ?_ |refine Fl.relK rfl rfl rfl rfl rfl rfl rfl rfl rfl ?_ |refine qv ?_ |apply qr));refine qi [(900, 27)] (e10) ?_;skip;refine ql eX [f, g1] ?_;skip;refine qi [(900, 27)] (e11) ?_;skip;refine qi [(900, 27)] (e12) ?_;(repeat' (first |refine Fl.relK rfl rfl rfl rfl rfl rfl rfl rfl rfl ?_ |refine Fl.rstK rfl rfl rfl rfl rfl rfl rfl rfl rfl rfl rfl (LeL.refl _) rfl rfl ?_ |refine Fl.nil (fun _ => by kernel_rfl) ?_|fail));refine ⟨AWP.seqS ?_⟩;rcases Classical.em (E10 = 0) with hT | hT;rotate_left
 ·have hno : ∀ m, ¬ DOK a b m := fun m hk => by
   have hm : m = n := by
    have hk2 := hk.2.1;rw [← k5] at hk2;exact hk2.fun hn
   subst hm;exact hT (d_second' h2 h0 he hE5 hs hE6 hf hg1 hE8 hg2 hG hE10 hk)
  (repeat' (first |refine qv ?_ |apply qn |apply qs |apply qr |(refine AWP.condN rfl ?_ ?_ <;> intro _ <;> try (exfalso; omega)) |apply qt));rw [hr2 hno];exact RetOk.of rfl (AV.Le.refl _)
 obtain ⟨l1, l2, l3, l4⟩ := d_second he hE5 hs hE6 hf hg1 hE8 hg2 hG hE10 hT;subst hT;have hDc : (dn a b n).c = c := k1.symm;have hDx : (dn a b n).x = x := k2.symm
 have hDd : (dn a b n).d = d := by rw [k3, k2]; rfl
 have hDu : (dn a b n).u = u := by rw [k5]; rfl
 have hDe : (dn a b n).e = e := l1.symm;have hDs : (dn a b n).s = s := l2.symm
 have hDf : (dn a b n).f = f := by rw [l3, l2]; rfl
 have hDG : (dn a b n).G = G := by rw [l4, ← hDf]; rfl
 have hDh : (dn a b n).h = psiN G b.toNat := by rw [← hDG]; rfl
 have hDp : (dn a b n).p = chiN G b.toNat := by rw [← hDG]; rfl
 have hps := dn_pos1 (a := a) (b := b) (n := n) h2 h0 hn1
 have hu1 : 1 ≤ u := by have := hps.2.2.2.2.2.2; omega
 have hf1 : 1 ≤ f := by have := hps.2.2.2.2.1; omega
 have hG2 : 2 ≤ G := by have := hps.2.2.2.2.2.1; omega
 have hc1 : 1 ≤ c := by have := hps.1; omega
 have fb : Fit b := fit_small (by omega) (by omega);have hiff := d_third_iff (a := a) (b := b) (n := n) ha fb h2 h0 (by rw [← k5]; exact hbu) (by rw [← k5]; exact hn) (by rw [hDc]; exact fc) (by rw [hDd]; exact fd) (by rw [hDe]; exact fe) (by rw [hDf]; exact ff) (by rw [hDG]; exact fG);clear he hE5 hs hE6 hf hg1 hE8 hg2 hG hE10 e7 e8 e9 e10 e11 e12 e6 k1 k2 k3 k4 l1 l2 l3 l4;have e13 := fpsi_ok (decide (a < 0)) (toW a.natAbs) 0 G b fG hG2 h0 h1;rw [← hDh] at e13;obtain ⟨h, hh⟩ : ∃ h, h = clip (dn a b n).h := ⟨_, rfl⟩;obtain ⟨E11, hE11⟩ : ∃ E, E = cE 0 (dn a b n).h := ⟨_, rfl⟩;rw [← hh, ← hE11] at e13;have fh : Fit h := hh ▸ clip_fits _;have e14 := fchi_ok (decide (a < 0)) (toW a.natAbs) E11 G b fG hG2 h0 h1;rw [← hDp] at e14;obtain ⟨p, hp⟩ : ∃ h, h = clip (dn a b n).p := ⟨_, rfl⟩;obtain ⟨E12, hE12⟩ : ∃ E, E = cE E11 (dn a b n).p := ⟨_, rfl⟩;rw [← hp, ← hE12] at e14;have fp : Fit p := hp ▸ clip_fits _;have e15 := fchSquare_ok (decide (a < 0)) (toW a.natAbs) E12 p fp;obtain ⟨I, E13, hI⟩ : ∃ y E, mulL E12 1 [p, p] = (y, E) := ⟨(mulL E12 1 [p, p]).1, (mulL E12 1 [p, p]).2, rfl⟩;rw [hI] at e15;have fI : Fit I := mulE_fit hI;have e16 := fchQuo_ok (decide (a < 0)) (toW a.natAbs) E13 e u fe fu (fun _ => by omega);obtain ⟨q1, hq1⟩ : ∃ g, g = cV E13 (e / u) := ⟨_, rfl⟩;obtain ⟨E14, hE14⟩ : ∃ E, E = cE E13 (e / u) := ⟨_, rfl⟩;rw [← hq1, ← hE14] at e16;have fq1 : Fit q1 := hq1 ▸ cV_fit _ _;have e17 := fchSub_ok (decide (a < 0)) (toW a.natAbs) E14 q1 1 fq1 fit_one;obtain ⟨i, hi⟩ : ∃ g, g = cV E14 (q1 - 1) := ⟨_, rfl⟩;obtain ⟨E15, hE15⟩ : ∃ E, E = cE E14 (q1 - 1) := ⟨_, rfl⟩;rw [← hi, ← hE15] at e17;have e18 := fchSub_ok (decide (a < 0)) (toW a.natAbs) E15 h b fh fb;obtain ⟨x1, hx1⟩ : ∃ g, g = cV E15 (h - b) := ⟨_, rfl⟩;obtain ⟨E16, hE16⟩ : ∃ E, E = cE E15 (h - b) := ⟨_, rfl⟩;rw [← hx1, ← hE16] at e18;have fx1 : Fit x1 := hx1 ▸ cV_fit _ _;have e19 := fchMul_ok (decide (a < 0)) (toW a.natAbs) E16 [2, c] (by simp [fit_two, fc]) (by simp);obtain ⟨c2, E17, hc2⟩ : ∃ y E, mulL E16 1 [2, c] = (y, E) := ⟨(mulL E16 1 [2, c]).1, (mulL E16 1 [2, c]).2, rfl⟩;rw [hc2] at e19;have fc2 : Fit c2 := mulE_fit hc2
 have e20 := fchQuo_ok (decide (a < 0)) (toW a.natAbs) E17 x1 c2 fx1 fc2 (fun hz => by
  have := (mulE hc2).2 hz;simp only [prI, Int.one_mul] at this
  omega)
 obtain ⟨j, hj⟩ : ∃ g, g = cV E17 (x1 / c2) := ⟨_, rfl⟩;obtain ⟨E18, hE18⟩ : ∃ E, E = cE E17 (x1 / c2) := ⟨_, rfl⟩;rw [← hj, ← hE18] at e20;have e21 := fchSub_ok (decide (a < 0)) (toW a.natAbs) E18 h c fh fc;obtain ⟨t1, ht1⟩ : ∃ g, g = cV E18 (h - c) := ⟨_, rfl⟩;obtain ⟨E19, hE19⟩ : ∃ E, E = cE E18 (h - c) := ⟨_, rfl⟩;rw [← ht1, ← hE19] at e21;have ft1 : Fit t1 := ht1 ▸ cV_fit _ _;have e22 := fchQuo_ok (decide (a < 0)) (toW a.natAbs) E19 t1 f ft1 ff (fun _ => by omega);obtain ⟨t, ht⟩ : ∃ g, g = cV E19 (t1 / f) := ⟨_, rfl⟩;obtain ⟨E20, hE20⟩ : ∃ E, E = cE E19 (t1 / f) := ⟨_, rfl⟩;rw [← ht, ← hE20] at e22;have e23 := fchSub_ok (decide (a < 0)) (toW a.natAbs) E20 c b fc fb;obtain ⟨v, hv⟩ : ∃ g, g = cV E20 (c - b) := ⟨_, rfl⟩;obtain ⟨E21, hE21⟩ : ∃ E, E = cE E20 (c - b) := ⟨_, rfl⟩;rw [← hv, ← hE21] at e23;have e24 := fchMul_ok (decide (a < 0)) (toW a.natAbs) E21 [x, s, p] (by simp [fx, fs, fp]) (by simp);obtain ⟨w, E22, hw⟩ : ∃ y E, mulL E21 1 [x, s, p] = (y, E) := ⟨(mulL E21 1 [x, s, p]).1, (mulL E21 1 [x, s, p]).2, rfl⟩;rw [hw] at e24;have e25 := fchSub_ok (decide (a < 0)) (toW a.natAbs) E22 a 2 ha fit_two;obtain ⟨k, hk⟩ : ∃ g, g = cV E22 (a - 2) := ⟨_, rfl⟩;obtain ⟨E23, hE23⟩ : ∃ E, E = cE E22 (a - 2) := ⟨_, rfl⟩;rw [← hk, ← hE23] at e25;dsimp only at e15 e19 e24
 have A1 : q1 = cV E13 ((dn a b n).e / (dn a b n).u) := by rw [hDe, hDu]; exact hq1
 have A2 : E14 = cE E13 ((dn a b n).e / (dn a b n).u) := by rw [hDe, hDu]; exact hE14
 have A3 : mulL E16 1 [2, (dn a b n).c] = (c2, E17) := by rw [hDc]; exact hc2
 have A4 : t1 = cV E18 (h - (dn a b n).c) := by rw [hDc]; exact ht1
 have A5 : E19 = cE E18 (h - (dn a b n).c) := by rw [hDc]; exact hE19
 have A6 : t = cV E19 (t1 / (dn a b n).f) := by rw [hDf]; exact ht
 have A7 : E20 = cE E19 (t1 / (dn a b n).f) := by rw [hDf]; exact hE20
 have A8 : v = cV E20 ((dn a b n).c - b) := by rw [hDc]; exact hv
 have A9 : E21 = cE E20 ((dn a b n).c - b) := by rw [hDc]; exact hE21
 have A10 : mulL E21 1 [(dn a b n).x, (dn a b n).s, p] = (w, E22) := by rw [hDx, hDs]; exact hw
 obtain ⟨hyes, hfit⟩ := d_third hh hE11 hp hE12 hI A1 A2 hi hE15 hx1 hE16 A3 hj hE18 A4 A5 A6 A7 A8 A9 A10 hk hE23;rw [hiff] at hfit;clear A1 A2 A3 A4 A5 A6 A7 A8 A9 A10 hh hE11 hp hE12 hI hq1 hE14 hi hE15 hx1 hE16 hc2 hj hE18 ht1 hE19 ht hE20 hv hE21 hw hk hE23 hiff;(repeat' (first |refine qv ?_ |apply qn |apply qs |apply qr |refine AWP.condF rfl ?_ |apply qk));refine ⟨AWP.seqS ?_⟩;(repeat' (first |refine Fl.rldK rfl rfl rfl rfl rfl rfl rfl (fun _ => rfl) (fun _ => rfl) rfl ?_ |refine Fl.relK rfl rfl rfl rfl rfl rfl rfl rfl rfl ?_ |refine qv ?_ |apply qr));refine qi [(900, 27)] (e13) ?_;(repeat' (first |refine Fl.relK rfl rfl rfl rfl rfl rfl rfl rfl rfl ?_ |refine Fl.rstK rfl rfl rfl rfl rfl rfl rfl rfl rfl rfl rfl (LeL.refl _) rfl rfl ?_ |apply qn));refine ⟨AWP.seqS ?_⟩;(repeat' (first |refine Fl.rldK rfl rfl rfl rfl rfl rfl rfl (fun _ => rfl) (fun _ => rfl) rfl ?_ |refine Fl.relK rfl rfl rfl rfl rfl rfl rfl rfl rfl ?_ |refine qv ?_ |apply qr));refine qi [(900, 27)] (e14) ?_;(repeat' (first |apply qn |refine qe ?_|fail));refine ⟨AWP.seqS ?_⟩;(repeat' (first |refine qv ?_ |apply qr));refine qi [(900, 27)] (e15) ?_;(repeat' (first |refine Fl.relK rfl rfl rfl rfl rfl rfl rfl rfl rfl ?_ |refine Fl.rstK rfl rfl rfl rfl rfl rfl rfl rfl rfl rfl rfl (LeL.refl _) rfl rfl ?_ |refine Fl.nil (fun _ => by kernel_rfl) ?_|fail));refine ⟨AWP.seqS ?_⟩;(repeat' (first |refine Fl.rldK rfl rfl rfl rfl rfl rfl rfl (fun _ => rfl) (fun _ => rfl) rfl ?_ |refine Fl.relK rfl rfl rfl rfl rfl rfl rfl rfl rfl ?_ |refine qv ?_ |apply qr));refine qi [(900, 27)] (e16) ?_;skip;refine qc (Of_ok 1 (by omega) (by omega)) ?_;skip;refine qi [(900, 27)] (e17) ?_;(repeat' (first |refine Fl.relK rfl rfl rfl rfl rfl rfl rfl rfl rfl ?_ |refine Fl.rstK rfl rfl rfl rfl rfl rfl rfl rfl rfl rfl rfl (LeL.refl _) rfl rfl ?_ |refine Fl.nil (fun _ => by kernel_rfl) ?_|fail));refine ⟨AWP.seqS ?_⟩;(repeat' (first |refine Fl.rldK rfl rfl rfl rfl rfl rfl rfl (fun _ => rfl) (fun _ => rfl) rfl ?_ |refine Fl.relK rfl rfl rfl rfl rfl rfl rfl rfl rfl ?_ |refine qv ?_ |apply qr));refine qi [(900, 27)] (e18) ?_;(repeat' (first |refine qv ?_|fail));refine qc (Of_ok 2 (by omega) (by omega)) ?_;(repeat' (first |refine Fl.rldK rfl rfl rfl rfl rfl rfl rfl (fun _ => rfl) (fun _ => rfl) rfl ?_ |refine Fl.relK rfl rfl rfl rfl rfl rfl rfl rfl rfl ?_ |refine qv ?_|fail));refine ql eX [2, c] ?_;skip;refine qi [(900, 27)] (e19) ?_;skip;refine qi [(900, 27)] (e20) ?_;(repeat' (first |refine Fl.relK rfl rfl rfl rfl rfl rfl rfl rfl rfl ?_ |refine Fl.rstK rfl rfl rfl rfl rfl rfl rfl rfl rfl rfl rfl (LeL.refl _) rfl rfl ?_ |refine Fl.nil (fun _ => by kernel_rfl) ?_|fail));refine ⟨AWP.seqS ?_⟩;(repeat' (first |refine Fl.rldK rfl rfl rfl rfl rfl rfl rfl (fun _ => rfl) (fun _ => rfl) rfl ?_ |refine Fl.relK rfl rfl rfl rfl rfl rfl rfl rfl rfl ?_ |refine qv ?_ |apply qr));refine qi [(900, 27)] (e21) ?_;(repeat' (first |refine Fl.rldK rfl rfl rfl rfl rfl rfl rfl (fun _ => rfl) (fun _ => rfl) rfl ?_ |refine Fl.relK rfl rfl rfl rfl rfl rfl rfl rfl rfl ?_ |refine qv ?_|fail));refine qi [(900, 27)] (e22) ?_;(repeat' (first |refine Fl.relK rfl rfl rfl rfl rfl rfl rfl rfl rfl ?_ |refine Fl.rstK rfl rfl rfl rfl rfl rfl rfl rfl rfl rfl rfl (LeL.refl _) rfl rfl ?_ |refine Fl.nil (fun _ => by kernel_rfl) ?_|fail));refine ⟨AWP.seqS ?_⟩;(repeat' (first |refine Fl.rldK rfl rfl rfl rfl rfl rfl rfl (fun _ => rfl) (fun _ => rfl) rfl ?_ |refine Fl.relK rfl rfl rfl rfl rfl rfl rfl rfl rfl ?_ |refine qv ?_ |apply qr));refine qi [(900, 27)] (e23) ?_;(repeat' (first |refine Fl.relK rfl rfl rfl rfl rfl rfl rfl rfl rfl ?_ |refine Fl.rstK rfl rfl rfl rfl rfl rfl rfl rfl rfl rfl rfl (LeL.refl _) rfl rfl ?_ |refine Fl.nil (fun _ => by kernel_rfl) ?_|fail));refine ⟨AWP.seqS ?_⟩;(repeat' (first |refine qv ?_ |apply qr));refine ql eX [x, s, p] ?_;skip;refine qi [(900, 27)] (e24) ?_;(repeat' (first |refine Fl.relK rfl rfl rfl rfl rfl rfl rfl rfl rfl ?_ |refine Fl.rstK rfl rfl rfl rfl rfl rfl rfl rfl rfl rfl rfl (LeL.refl _) rfl rfl ?_ |refine Fl.nil (fun _ => by kernel_rfl) ?_|fail));refine ⟨AWP.seqS ?_⟩;(repeat' (first |refine qv ?_ |apply qr));refine qc (Of_ok 2 (by omega) (by omega)) ?_;skip;refine qi [(900, 27)] (e25) ?_;(repeat' (first |refine qv ?_ |refine qw ?_|fail));refine qc (Of_ok (b - 1) (by omega) (by omega)) ?_;(repeat' (first |refine Fl.relK rfl rfl rfl rfl rfl rfl rfl rfl rfl ?_ |refine Fl.rstK rfl rfl rfl rfl rfl rfl rfl rfl rfl rfl rfl (LeL.refl _) rfl rfl ?_ |refine Fl.nil (fun _ => by kernel_rfl) ?_|fail));refine ⟨AWP.seqS ?_⟩;rcases Classical.em (E23 = 0) with hZ | hZ
 ·obtain ⟨m1, m2, m3, m4, m5, m6, m7, m8⟩ := hyes hZ;have hr := hr1 n (hfit.1 hZ);have hL := dn_L hDc hDd hDe hDf hDG m1 m2 m3 m4 m5 m6 m7 m8;rw [hL] at hr;rw [hr];clear hyes hfit hr hr1 hr2;(repeat' (first |refine qv ?_ |apply qn |apply qs |apply qr |(refine AWP.condN rfl ?_ ?_ <;> intro _ <;> try (exfalso; omega)) |apply qk));refine ⟨?_⟩;(repeat' (first |refine qv ?_ |apply qn |apply qs |apply qr |apply qt));refine RetOk.ent (Ent.freeze 28 rfl) ?_;exact RetOk.of rfl (AV.Le.refl _)
 ·have hno : ∀ m, ¬ DOK a b m := fun m hk => by
   have hm : m = n := by
    have hk2 := hk.2.1;rw [← k5] at hk2;exact hk2.fun hn
   subst hm;exact hZ (hfit.2 hk)
  rw [hr2 hno];clear hyes hfit hr1 hr2;(repeat' (first |refine qv ?_ |apply qn |apply qs |apply qr |(refine AWP.condN rfl ?_ ?_ <;> intro _ <;> try (exfalso; omega)) |apply qt));exact RetOk.of rfl (AV.Le.refl _)
end Go.Proofs.YtcaecieigoplbaaGreat
/- The reference's numbers of psi. -/
namespace Go.AL
theorem lenI_sub_le {x y : Int} {k : Nat} (hx : lenI x ≤ k) (hy : lenI y ≤ k) : lenI (x - y) ≤ k + 1 := by
 rw [Int.sub_eq_add_neg];exact lenI_add hx (by rw [lenI_neg]; exact hy)
end Go.AL
namespace Go.Proofs.YtcaecieigoplbaaGreat
open Go.AL
end Go.Proofs.YtcaecieigoplbaaGreat
/- define.Equations: the system. Written by gen_df.py. -/
namespace Go.AL
def df0 : List UT := sumsU [] [varU 16 14, conU 16 2]
def df1 : List UT := subL (varU 16 0) df0
def df2 : List UT := sumsU [] [varU 16 15, conU 16 1]
def df3 : List UT := subL (varU 16 1) df2
def df4 : List UT := mulsU (conU 16 1) [varU 16 0, varU 16 0]
def df5 : List UT := subL df4 (conU 16 1)
def df6 : List UT := mulsU (conU 16 1) [df5, varU 16 2, varU 16 2]
def df7 : List UT := sumsU [] [df6, conU 16 1]
def df8 : List UT := subL (varU 16 3) df7
def df9 : List UT := sumsU [] [varU 16 9, conU 16 1]
def df10 : List UT := mulsU (conU 16 1) [conU 16 2, df9, varU 16 2, varU 16 2, varU 16 3]
def df11 : List UT := subL (varU 16 4) df10
def df12 : List UT := mulsU (conU 16 1) [varU 16 0, varU 16 0]
def df13 : List UT := subL df12 (conU 16 1)
def df14 : List UT := mulsU (conU 16 1) [df13, varU 16 4, varU 16 4]
def df15 : List UT := sumsU [] [df14, conU 16 1]
def df16 : List UT := subL (varU 16 5) df15
def df17 : List UT := subL (varU 16 5) (varU 16 0)
def df18 : List UT := mulsU (conU 16 1) [varU 16 5, df17]
def df19 : List UT := sumsU [] [varU 16 0, df18]
def df20 : List UT := subL (varU 16 6) df19
def df21 : List UT := mulsU (conU 16 1) [conU 16 2, varU 16 10, varU 16 2]
def df22 : List UT := sumsU [] [varU 16 1, df21]
def df23 : List UT := subL (varU 16 7) df22
def df24 : List UT := mulsU (conU 16 1) [varU 16 6, varU 16 6]
def df25 : List UT := subL df24 (conU 16 1)
def df26 : List UT := mulsU (conU 16 1) [df25, varU 16 7, varU 16 7]
def df27 : List UT := sumsU [] [df26, conU 16 1]
def df28 : List UT := subL (varU 16 8) df27
def df29 : List UT := mulsU (conU 16 1) [varU 16 3, varU 16 5, varU 16 8]
def df30 : List UT := mulsU (conU 16 1) [varU 16 13, varU 16 13]
def df31 : List UT := subL df29 df30
def df32 : List UT := mulsU (conU 16 1) [varU 16 5, varU 16 11]
def df33 : List UT := sumsU [] [varU 16 2, df32]
def df34 : List UT := subL (varU 16 7) df33
def df35 : List UT := sumsU [] [varU 16 1, varU 16 12]
def df36 : List UT := subL (varU 16 2) df35
def dfS : SZ := ⟨16, [linkU 16 0 [df1], linkU 16 0 [df3], linkU 16 0 [df8], linkU 16 0 [df11], linkU 16 0 [df16], linkU 16 0 [df20], linkU 16 0 [df23], linkU 16 0 [df28], linkU 16 0 [df31], linkU 16 0 [df34], linkU 16 0 [df36]]⟩
section
variable {P : Program} {tab : Tab} {n : Nat} {s : St}
variable {ops : Array Oper} {draw : Dr} {o : Oper} {l : List Oper} {acc : List Eff} {K : Exit → St → Prop}
theorem Fl.ixPn [f : Facts P tab] {t : TypeId} {x y : Operand} (hop : o.op = .indexAddr t x y) {e : TypeId} {i : TI} {len sz' by' : Nat} {z : List Value} (hts : tab t = some ⟨.array len e, sz', by', z⟩) (hti : tab e = some i) {b : Id} {off : Nat} (hx : opd s x = .ptr b off) {k : IntKind} {m : Int} (hy : opd s y = .v (.int k m)) {q : Nat} (hq : off + m.toNat * i.size = q) (hg : gOk ops s o = true) (hd : dOk n o.dst = true) (h1 : (decide (0 ≤ m) && decide (m.toNat < len)) = true)
  (r : Fl P n ops draw l ((Eff.mk (.ptr b q) [] [] [] []).app o.dst s) (Eff.mk (.ptr b q) [] [] [] [] :: acc) K) : Fl P n ops draw (o :: l) s acc K := by
 simp only [Bool.and_eq_true, decide_eq_true_eq] at h1;exact Fl.ixP hop hts hti hx hy m.toNat (by omega) hq hg hd h1.2 r
end
def dfX : Nat → List (List AV)
  | 0 => List.replicate 16 [aN 0, .v (.slice none 0 0)]
  | n + 1 => (dfX n).set n (eP (mkP 16 (varU 16 n)))
end Go.AL
namespace Go.Proofs.YtcaecieigoplbaaGreat
open Go.AL
theorem kEqS {p q : List UT} (hp : chkU 16 p p = true) (hq : chkU 16 q q = true) (h : chkU 16 (addUs (-1) p q) (subL p q) = true) (hl : okLk 16 [subL p q] = true) : PureFn Tryz.prog 69 [aK 16, aP (mkP 16 p), aP (mkP 16 q)] (aL (linkU 16 0 [subL p q])) := kEq_ok 16 (by omega) p q (subL p q) hp hq h (okLk_ok (V := 16) (ls := [subL p q]) hl _ (by simp))
theorem kSubS {p q : List UT} (hp : chkU 16 p p = true) (hq : chkU 16 q q = true) (h : chkU 16 (addUs (-1) p q) (subL p q) = true) : PureFn Tryz.prog 93 [aK 16, aP (mkP 16 p), aP (mkP 16 q)] (aP (mkP 16 (subL p q))) := kSub_ok 16 (by omega) p q (subL p q) hp hq h
theorem dfPell_ok (p q l2 l : List UT) (hp : chkU 16 p p = true) (hm : okMuls 16 (conU 16 1) [p, p] = true) (h1 : chkU 16 (mulsU (conU 16 1) [p, p]) (mulsU (conU 16 1) [p, p]) = true) (hs : chkU 16 (addUs (-1) (mulsU (conU 16 1) [p, p]) (conU 16 1)) l2 = true) (hm2 : okMuls 16 (conU 16 1) [l2, q, q] = true) (ha : okSums 16 [] [mulsU (conU 16 1) [l2, q, q], conU 16 1] = true) (hl : sumsU [] [mulsU (conU 16 1) [l2, q, q], conU 16 1] = l) : IoFn Tryz.prog 119 [aP (mkP 16 p), aP (mkP 16 q), .ptr 900 0, .ptr 901 0] [(900, .cells [aN 16] 84), (901, .cells (eP (mkP 16 (conU 16 1))) 70)] (.ret (aP (mkP 16 l))) [(900, .cells [aN 16] 84), (901, .cells (eP (mkP 16 (conU 16 1))) 70)] := by
 subst hl;refine IoFn.of_body Tryz.func119 rfl Tryz.ntmps119 rfl rfl rfl ?_;refine AWP.seqS ?_;(repeat' (first |apply qn |apply qr |refine qe ?_|fail));refine ⟨?_⟩;(repeat' (first |refine qv ?_ |apply qs |apply qr));refine ql eP [mkP 16 p, mkP 16 p] ?_;skip;refine qc (kMul_ok 16 (by omega) [p, p] (by simp) hm) ?_;(repeat' (first |refine qv ?_|fail));refine qc (kSub_ok 16 (by omega) (mulsU (conU 16 1) [p, p]) (conU 16 1) l2 h1 (by kernel_rfl) hs) ?_;(repeat' (first |refine qv ?_|fail));refine ql eP [mkP 16 l2, mkP 16 q, mkP 16 q] ?_;skip;refine qc (kMul_ok 16 (by omega) [l2, q, q] (by simp) hm2) ?_;(repeat' (first |refine qv ?_|fail));refine ql eP [mkP 16 (mulsU (conU 16 1) [l2, q, q]), mkP 16 (conU 16 1)] ?_;skip;refine qc (kAdd_ok 16 (by omega) [mulsU (conU 16 1) [l2, q, q], conU 16 1] (by simp) ha) ?_;(repeat' (first |refine Fl.nil (fun _ => by kernel_rfl) ?_ |refine qe ?_ |apply qt));exact ⟨⟨[], _, _, Ent.refl _ _ _, rfl, AV.Le.refl _, rfl, ⟨⟨⟨_, rfl, BLe.cells (LeL.refl _)⟩, rfl⟩, ⟨⟨_, rfl, BLe.cells (LeL.refl _)⟩, rfl⟩, trivial⟩, rfl, rfl⟩⟩
theorem dfPellS {p q : List UT} (hp : chkU 16 p p = true) (hm : okMuls 16 (conU 16 1) [p, p] = true) (h1 : chkU 16 (mulsU (conU 16 1) [p, p]) (mulsU (conU 16 1) [p, p]) = true) (hs : chkU 16 (addUs (-1) (mulsU (conU 16 1) [p, p]) (conU 16 1)) (subL (mulsU (conU 16 1) [p, p]) (conU 16 1)) = true) (hm2 : okMuls 16 (conU 16 1) [subL (mulsU (conU 16 1) [p, p]) (conU 16 1), q, q] = true) (ha : okSums 16 [] [mulsU (conU 16 1) [subL (mulsU (conU 16 1) [p, p]) (conU 16 1), q, q], conU 16 1] = true) : IoFn Tryz.prog 119 [aP (mkP 16 p), aP (mkP 16 q), .ptr 900 0, .ptr 901 0] [(900, .cells [aN 16] 84), (901, .cells (eP (mkP 16 (conU 16 1))) 70)] (.ret (aP (mkP 16 (sumsU [] [mulsU (conU 16 1) [subL (mulsU (conU 16 1) [p, p]) (conU 16 1), q, q], conU 16 1])))) [(900, .cells [aN 16] 84), (901, .cells (eP (mkP 16 (conU 16 1))) 70)] := dfPell_ok p q _ _ hp hm h1 hs hm2 ha rfl
set_option maxHeartbeats 8000000 in
set_option maxRecDepth 20000 in
theorem dfEq_ok : PureFn Tryz.prog 49 [] (aS dfS) := by
 refine PureFn.of_body Tryz.func49 rfl Tryz.ntmps49 rfl rfl ?_;refine AWP.seqS ?_;(repeat' (first |apply qn |apply qr |refine qe ?_|fail));refine ⟨AWP.seqS ?_⟩;(repeat' (first |apply qr));refine qc (kNew_ok 16) ?_;(repeat' (first |apply qn |refine qe ?_|fail));refine ⟨AWP.seqS ?_⟩;(repeat' (first |apply qn |apply qr |refine qe ?_|fail));refine ⟨AWP.seqS ?_⟩;(repeat' (first |refine qv ?_ |apply qn |apply qs |apply qr |apply qb));refine AWP.loop (G := Nat) (fun i => i ≤ 16) (fun i => St.of [] [(0, .ptr 0 0), (1, .ptr 1 0), (2, .ptr 2 0), (7, aN i)] [(0, .cells [aN 0, .v (.slice none 0 0)] 25), (1, .cells [aN 16] 84), (2, .cells (dfX i).flatten 120)]) (fun i => 16 - i) 0 (by omega) ?_ ?_
 ·refine Ent.of [] ?_ ?_ rfl rfl;(repeat' (first |exact True.intro |refine ⟨⟨AV.Le.refl _, rfl⟩, ?_⟩ |refine ⟨⟨⟨_, rfl, BLe.cells (LeL.refl _)⟩, rfl⟩, ?_⟩|fail))
 ·intro i hi;rcases (show i = 16 ∨ i < 16 by omega) with h | h
  ·subst h;(repeat' (first |refine qv ?_ |apply qn |apply qs |apply qr |refine AWP.condF rfl ?_ |apply qx));refine ⟨AWP.seqS ?_⟩;(repeat' (first |refine qv ?_ |apply qr));refine qc (kN_ok 16 1 (by omega) (by omega) (by omega)) ?_;(repeat' (first |apply qn |refine qe ?_|fail));refine ⟨AWP.seqS ?_⟩;(repeat' (first |refine qv ?_ |apply qn |apply qr));refine ⟨AWP.seqS ?_⟩;refine AWP.regionJ [(1, 0, [aN 16]), (4, 0, eP (mkP 16 (conU 16 1))), (2, 0, eP (mkP 16 (varU 16 0))), (2, 2, eP (mkP 16 (varU 16 1))), (2, 4, eP (mkP 16 (varU 16 2))), (2, 6, eP (mkP 16 (varU 16 3))), (2, 8, eP (mkP 16 (varU 16 4))), (2, 10, eP (mkP 16 (varU 16 5))), (2, 12, eP (mkP 16 (varU 16 6))), (2, 14, eP (mkP 16 (varU 16 7))), (2, 16, eP (mkP 16 (varU 16 8))), (2, 18, eP (mkP 16 (varU 16 9))), (2, 20, eP (mkP 16 (varU 16 10))), (2, 22, eP (mkP 16 (varU 16 11))), (2, 24, eP (mkP 16 (varU 16 12))), (2, 26, eP (mkP 16 (varU 16 13))), (2, 28, eP (mkP 16 (varU 16 14))), (2, 30, eP (mkP 16 (varU 16 15)))] (InvJ.cons ⟨_, _, rfl, rfl⟩ (InvJ.cons ⟨_, _, rfl, rfl⟩ (InvJ.cons ⟨_, _, rfl, rfl⟩ (InvJ.cons ⟨_, _, rfl, rfl⟩ (InvJ.cons ⟨_, _, rfl, rfl⟩ (InvJ.cons ⟨_, _, rfl, rfl⟩ (InvJ.cons ⟨_, _, rfl, rfl⟩ (InvJ.cons ⟨_, _, rfl, rfl⟩ (InvJ.cons ⟨_, _, rfl, rfl⟩ (InvJ.cons ⟨_, _, rfl, rfl⟩ (InvJ.cons ⟨_, _, rfl, rfl⟩ (InvJ.cons ⟨_, _, rfl, rfl⟩ (InvJ.cons ⟨_, _, rfl, rfl⟩ (InvJ.cons ⟨_, _, rfl, rfl⟩ (InvJ.cons ⟨_, _, rfl, rfl⟩ (InvJ.cons ⟨_, _, rfl, rfl⟩ (InvJ.cons ⟨_, _, rfl, rfl⟩ (InvJ.cons ⟨_, _, rfl, rfl⟩ (InvJ.nil _))))))))))))))))))) ?_;(repeat' (first | refine Fl.ldJ rfl rfl rfl rfl rfl rfl rfl rfl ?_ | refine Fl.v rfl rfl rfl ?_ | refine Fl.ixPn rfl rfl rfl rfl rfl rfl rfl rfl rfl ?_ | refine Fl.call rfl (kN_ok 16 _ (by omega) (by omega) (by omega)) rfl rfl rfl (LeL.refl _) ?_ | refine Fl.call rfl (kAdd_ok 16 (by omega) [_, _] (by simp) (by kernel_rfl)) rfl rfl rfl (LeL.refl _) ?_ | refine Fl.call rfl (kMul_ok 16 (by omega) [_, _] (by simp) (by kernel_rfl)) rfl rfl rfl (LeL.refl _) ?_ | refine Fl.call rfl (kMul_ok 16 (by omega) [_, _, _] (by simp) (by kernel_rfl)) rfl rfl rfl (LeL.refl _) ?_ | refine Fl.call rfl (kMul_ok 16 (by omega) [_, _, _, _, _] (by simp) (by kernel_rfl)) rfl rfl rfl (LeL.refl _) ?_ | refine Fl.call rfl (kSubS (by kernel_rfl) (by kernel_rfl) (by kernel_rfl)) rfl rfl rfl (LeL.refl _) ?_ | refine Fl.call rfl (kEqS (by kernel_rfl) (by kernel_rfl) (by kernel_rfl) (by kernel_rfl)) rfl rfl rfl (LeL.refl _) ?_ | refine Fl.ioV rfl rfl [(900, 1), (901, 4)] (dfPellS (by kernel_rfl) (by kernel_rfl) (by kernel_rfl) (by kernel_rfl) (by kernel_rfl) (by kernel_rfl)) rfl rfl (LeL.refl _) rfl ⟨⟨⟨_, rfl, BLe.cells (LeL.refl _)⟩, rfl⟩, ⟨⟨_, rfl, BLe.cells (LeL.refl _)⟩, rfl⟩, trivial⟩ rfl rfl rfl rfl rfl ?_ | refine Fl.lit rfl rfl rfl rfl rfl eP [mkP 16 _, mkP 16 _] rfl rfl rfl rfl (by intro _ _; rfl) rfl ?_ | refine Fl.lit rfl rfl rfl rfl rfl eP [mkP 16 _, mkP 16 _, mkP 16 _] rfl rfl rfl rfl (by intro _ _; rfl) rfl ?_ | refine Fl.lit rfl rfl rfl rfl rfl eP [mkP 16 _, mkP 16 _, mkP 16 _, mkP 16 _, mkP 16 _] rfl rfl rfl rfl (by intro _ _; rfl) rfl ?_ | refine Fl.lit rfl rfl rfl rfl rfl eL [linkU 16 0 _, linkU 16 0 _, linkU 16 0 _, linkU 16 0 _, linkU 16 0 _, linkU 16 0 _, linkU 16 0 _, linkU 16 0 _, linkU 16 0 _, linkU 16 0 _, linkU 16 0 _] rfl rfl rfl rfl (by intro _ _; rfl) rfl ?_ | refine Fl.b rfl rfl rfl rfl ?_ | fail));(repeat' (first |refine Fl.nil (fun _ => by kernel_rfl) ?_|fail));refine ⟨?_⟩;(repeat' (first |apply qt));refine RetOk.of rfl (AV.Le.agg (LeL.cons (AV.Le.refl _) (LeL.cons (AV.Le.sl ?_) LeL.nil)));kernel_rfl
  ·(repeat' (first |refine qv ?_ |apply qn |apply qs |apply qr |(refine AWP.condD rfl ?_ ?_ <;> intro _ <;> try (exfalso; omega)) |apply qb |apply qk));refine qc (kV_ok 16 i (by omega) h) ?_;skip;refine Fl.ixP rfl rfl rfl rfl rfl i rfl rfl rfl rfl h ?_;obtain ⟨j, hj⟩ : ∃ j, j = i + 1 := ⟨_, rfl⟩;rcases (show i = 0 ∨ i = 1 ∨ i = 2 ∨ i = 3 ∨ i = 4 ∨ i = 5 ∨ i = 6 ∨ i = 7 ∨ i = 8 ∨ i = 9 ∨ i = 10 ∨ i = 11 ∨ i = 12 ∨ i = 13 ∨ i = 14 ∨ i = 15 by omega) with rfl | rfl | rfl | rfl | rfl | rfl | rfl | rfl | rfl | rfl | rfl | rfl | rfl | rfl | rfl | rfl
   all_goals
    (repeat' (first |refine qv ?_ |apply qn |apply qr |refine qw ?_ |refine qe ?_|fail));refine LoopEnd.of j (by omega) (by omega) ?_;subst hj;refine Ent.of [] ?_ ?_ rfl rfl;(repeat' (first |exact True.intro |refine ⟨⟨AV.Le.refl _, rfl⟩, ?_⟩ |refine ⟨⟨⟨_, rfl, BLe.cells (LeL.refl _)⟩, rfl⟩, ?_⟩|fail))
end Go.Proofs.YtcaecieigoplbaaGreat
/- psi modulo chi: plain. -/
namespace Go.AL
theorem psi_2q (a : Int) (q n : Nat) : ∃ z, psiN a (n + 2 * q) = - psiN a n + chiN a q * z := by
 refine ⟨2 * chiN a n * psiN a q + 2 * psiN a n * chiN a q, ?_⟩;rw [(cp_add a n (2 * q)).2, psi_dbl, chi_dbl];grind
theorem psi_refl (a : Int) {q n m : Nat} (h : m + n = 2 * q) : ∃ z, psiN a m = psiN a n + chiN a q * z := by
 have h1 := (cp_add a m n).1;have h2 := (cp_add a m n).2;rw [h, chi_dbl] at h1;rw [h, psi_dbl] at h2;have h3 := pell a n;refine ⟨2 * chiN a n * psiN a q - 2 * psiN a n * chiN a q, ?_⟩
 have e1 : psiN a m = psiN a m * (chiN a n * chiN a n - (a * a - 1) * (psiN a n * psiN a n)) := by rw [h3]; omega
 have e2 : psiN a m * (chiN a n * chiN a n - (a * a - 1) * (psiN a n * psiN a n)) = chiN a n * (chiN a m * psiN a n + psiN a m * chiN a n) - psiN a n * (chiN a m * chiN a n + (a * a - 1) * (psiN a m * psiN a n)) := by grind
 rw [e1, e2, ← h1, ← h2];grind
theorem psi_red (a : Int) {q : Nat} (hq : 1 ≤ q) : ∀ r : Nat, ∃ (n : Nat) (z t : Int), n ≤ q ∧ (psiN a r = psiN a n + chiN a q * z ∨ psiN a r = - psiN a n + chiN a q * z) ∧ ((r : Int) = n + 2 * q * t ∨ (r : Int) = - n + 2 * q * t) := by
 intro r
 induction r using Nat.strongRecOn with
 | _ r ih =>
  by_cases h1 : r ≤ q
  ·exact ⟨r, 0, 0, h1, .inl (by omega), .inl (by omega)⟩
  ·by_cases h2 : r ≤ 2 * q
   ·obtain ⟨z, hz⟩ := psi_refl a (q := q) (n := 2 * q - r) (m := r) (by omega);exact ⟨2 * q - r, z, 1, by omega, .inl hz, .inr (by omega)⟩
   ·obtain ⟨n, z, t, k1, k2, k3⟩ := ih (r - 2 * q) (by omega);obtain ⟨w, hw⟩ := psi_2q a q (r - 2 * q);rw [show r - 2 * q + 2 * q = r by omega] at hw
    have et : (2 : Int) * q * (t + 1) = 2 * q * t + 2 * q := by grind
    refine ⟨n, w - z, t + 1, k1, ?_, ?_⟩
    ·have ez : chiN a q * (w - z) = chiN a q * w - chiN a q * z := by grind
     rcases k2 with k2 | k2
     ·right; rw [hw, k2, ez]; omega
     ·left; rw [hw, k2, ez]; omega
    ·rcases k3 with k3 | k3
     ·left; rw [et]; omega
     ·right; rw [et]; omega
theorem psi_sum_lt {a : Int} (ha : 2 ≤ a) {n p q : Nat} (hn : n ≤ q) (hp : p ≤ q) (hne : n ≠ p) : psiN a n + psiN a p < chiN a q := by
 have hq : 1 ≤ q := by omega
 have key : psiN a q + psiN a (q - 1) < chiN a q := by
  obtain ⟨m, rfl⟩ : ∃ m, q = m + 1 := ⟨q - 1, by omega⟩;rw [Nat.add_sub_cancel];obtain ⟨c1, c2, c3⟩ := cp_pos ha m;have h1 : 2 * chiN a m ≤ a * chiN a m := Int.mul_le_mul_of_nonneg_right ha (by omega);have h2 : a * 2 ≤ a * a := Int.mul_le_mul_of_nonneg_left ha (by omega);have h3 : (a * 2 - 1) * psiN a m ≤ (a * a - 1) * psiN a m := Int.mul_le_mul_of_nonneg_right (by omega) c2;have h4 : 2 * psiN a m ≤ a * psiN a m := Int.mul_le_mul_of_nonneg_right ha c2
  have e : (a * 2 - 1) * psiN a m = 2 * (a * psiN a m) - psiN a m := by grind
  rw [chi_succ, psi_succ];omega
 rcases (show n ≤ q - 1 ∨ p ≤ q - 1 by omega) with h | h
 ·have := psi_mono ha h; have := psi_mono ha hp; omega
 ·have := psi_mono ha h; have := psi_mono ha hn; omega
theorem psi_step2 {a : Int} (ha : 2 ≤ a) {p q r : Nat} (hp : 1 ≤ p) (hpq : p ≤ q) (h : chiN a q ∣ psiN a r - psiN a p) : ∃ t : Int, (r : Int) = p + 2 * q * t ∨ (r : Int) = - p + 2 * q * t := by
 obtain ⟨n, z, t, k1, k2, k3⟩ := psi_red a (show 1 ≤ q by omega) r;have hpp := psi_pos ha hp;have hnn := (cp_pos ha n).2.1;by_cases hne : n = p
 ·subst hne; exact ⟨t, k3⟩
 ·exfalso;have hs := psi_sum_lt ha k1 hpq hne
  have hneq : psiN a n ≠ psiN a p := by
   rcases Nat.lt_or_gt_of_ne hne with g | g
   ·have := psi_lt ha g; omega
   ·have := psi_lt ha g; omega
  obtain ⟨w, hw⟩ := h
  have key : ∀ x : Int, x ≠ 0 → - chiN a q < x → x < chiN a q → ¬ chiN a q ∣ x := by
   intro x h0 h1 h2 hd;rcases (show 0 < x ∨ 0 < -x by omega) with g | g
   ·have := Int.le_of_dvd g hd; omega
   ·have := Int.le_of_dvd g (Int.dvd_neg.2 hd); omega
  rcases k2 with k2 | k2
  ·refine key (psiN a n - psiN a p) (by omega) (by omega) (by omega) ⟨w - z, ?_⟩
   have : chiN a q * (w - z) = chiN a q * w - chiN a q * z := by grind
   omega
  ·refine key (- psiN a n - psiN a p) (by omega) (by omega) (by omega) ⟨w - z, ?_⟩
   have : chiN a q * (w - z) = chiN a q * w - chiN a q * z := by grind
   omega
theorem psi_base (a b : Int) : ∀ n : Nat, ∃ u v, chiN a n = chiN b n + (a - b) * u ∧ psiN a n = psiN b n + (a - b) * v
 | 0 => ⟨0, 0, by simp [chi_zero], by simp [psi_zero]⟩
 | n + 1 => by
  obtain ⟨u, v, h1, h2⟩ := psi_base a b n;refine ⟨chiN b n + a * u + (a + b) * psiN b n + (a * a - 1) * v, u + psiN b n + a * v, ?_, ?_⟩
  ·rw [chi_succ, chi_succ, h1, h2]; grind
  ·rw [psi_succ, psi_succ, h1, h2]; grind
theorem psi_index (a : Int) : ∀ n : Nat, ∃ u v, chiN a n = 1 + (a - 1) * u ∧ psiN a n = n + (a - 1) * v
 | 0 => ⟨0, 0, by simp [chi_zero], by simp [psi_zero]⟩
 | n + 1 => by
  obtain ⟨u, v, h1, h2⟩ := psi_index a n;refine ⟨a * u + 1 + (a + 1) * (n + (a - 1) * v), u + n + a * v, ?_, ?_⟩
  ·rw [chi_succ, h1, h2]; grind
  ·rw [psi_succ, h1, h2]
   have : ((n + 1 : Nat) : Int) = n + 1 := by omega
   rw [this];grind
end Go.AL

/- Part 6 of a proof layer and of the contracts of the functions. -/
import Derived.Laws.Strings
import Derived.Laws.Strings2
import Derived.Laws.Concat
import Derived.Laws.IdiomStrings
import Derived.Laws.StructEq
import Derived.Lib.SmallJoins
import Derived.Test.YtmmfloplhopioaaGreatW5
set_option linter.unusedVariables false
set_option linter.unusedSimpArgs false
/- history's maker: goes, changes; the system. -/
namespace Go.AL
theorem go_len {m : MZ} : ∀ i, ((List.range i).flatMap (fun k => (hsGo m k (m.at k)).map (lkZ m))).length ≤ 2 * i
 | 0 => by simp
 | i + 1 => by
  have ih := go_len (m := m) i;rw [List.range_succ, List.flatMap_append, List.length_append]
  have : ((hsGo m i (m.at i)).map (lkZ m)).length ≤ 2 := by
   rw [List.length_map];unfold hsGo;split
   ·simp
   ·split <;> simp
  simp only [List.flatMap_cons, List.flatMap_nil, List.append_nil];omega
theorem go_succ {m : MZ} (L : List LZ) (i : Nat) : L ++ (List.range (i + 1)).flatMap (fun k => (hsGo m k (m.at k)).map (lkZ m)) = L ++ (List.range i).flatMap (fun k => (hsGo m k (m.at k)).map (lkZ m)) ++ (hsGo m i (m.at i)).map (lkZ m) := by
 rw [List.range_succ, List.flatMap_append, List.append_assoc];simp
end Go.AL
namespace Go.Proofs.YtmmfloplhopioaaGreat
open Go.AL
set_option maxHeartbeats 1000000 in
theorem mkGoes_ok (m : MZ) (hm : OkMZ m) (x : List Int) (hx : OkIn m x) (L : List LZ) (hL : L.length ≤ 1000) (i : Nat) (hi : i < m.l) : IoGn Tryz.prog 112 [.ptr 900 0, aN i, aIz (m.at i)] (kB m x (kQ m) (kAll m) L) (.tup []) (kBr 902 m x (kQ m) (kAll m) (L ++ (hsGo m i (m.at i)).map (lkZ m))) := by
 have hV := hm.V32;have hl : m.code.length ≤ 15 := hm.l15;have hl2 : m.l = m.code.length := rfl;have hR4 := hm.r4;have hR1 := hm.r1;have hR : m.R = m.regs.toNat := rfl;have hVe : m.V = 3 + m.code.length + 2 * m.R := rfl;have hI := DF hm hi;have hsm := fun s hs => Cy hm hx s (hsK_G hi hs);have q := (BV hm.V6).1;have vi := AP (V := m.V) (i := 3 + i) (by omega);have here := sz_here hm hi;obtain ⟨⟨op, r0, n0, k0⟩, ez⟩ : ∃ z, z = m.at i := ⟨_, rfl⟩;rw [← ez] at hI hsm ⊢;by_cases h3 : op = 3
 ·subst h3;show IoGn Tryz.prog 112 [.ptr 900 0, aN i, .agg [aN 3, aN r0, aN n0, aN k0]] _ _ _;refine B8 Tryz.func112 rfl Tryz.ntmps112 rfl rfl ?_;(repeat' (first |refine qv ?_ |apply qn |apply qs |apply qr |refine qe ?_|fail));refine qc (BZ m x i (by omega)) ?_;refine qc (Be m.V (3 + i) (by omega) (by omega)) ?_;refine ql eP [mkP m.V (hsQ m.V), mkP m.V (varU m.V (3 + i))] ?_;refine qc (CV m.V (by omega) [hsQ m.V, varU m.V (3 + i)] (by simp) (CF q vi (by omega) (by decide) (by decide) (by decide) (by omega) (by omega) (by omega))) ?_;(repeat' (first |refine qv ?_ |apply qn |refine Fl.nil (fun _ => by kernel_rfl) ?_ |apply qs |apply qr |refine qe ?_ |refine AM rfl ?_ |apply qb |apply qk));refine ⟨⟨[(902, 901)], _, _, AK _ _ _, rfl, AA _, rfl, ⟨⟨⟨_, rfl, BLe.cells (AB _)⟩, rfl⟩, ⟨⟨_, rfl, BLe.row ?_⟩, rfl⟩, trivial⟩, rfl, rfl⟩⟩;simp [hsGo]
 ·rcases hI with kk | ⟨⟨a1, a2⟩, ⟨b1, b2⟩, kk⟩
  ·injection kk with kk; exact absurd kk h3
  simp only at a1 a2 b1 b2 kk;obtain ⟨r, rfl⟩ : ∃ r : Nat, r0 = r := ⟨r0.toNat, by omega⟩;obtain ⟨n, rfl⟩ : ∃ n : Nat, n0 = n := ⟨n0.toNat, by omega⟩;have vn := AP (V := m.V) (i := 3 + n) (by omega);by_cases h2 : op = 2 ∧ k0 ≠ n
  ·obtain ⟨h2, hkn⟩ := h2;obtain ⟨k, rfl⟩ : ∃ k : Nat, k0 = k := ⟨k0.toNat, by omega⟩;have vk := AP (V := m.V) (i := 3 + k) (by omega);have v2 := AP (V := m.V) (i := 2) (by omega);have vr := AP (V := m.V) (i := 3 + m.l + r) (by omega);have c2 := SzU.con m.V 2
   have ego : hsGo m i ⟨op, r, n, k⟩ = [(3, [Bm m i, A5 [] [varU m.V (3 + n), varU m.V (3 + k)]]), (3, [Bm m i, hsJmp m ⟨op, r, n, k⟩])] := by
    unfold hsGo;rw [if_neg h3, if_pos ⟨h2, hkn⟩]; rfl
   have s1 := hsm _ (by rw [ego]; exact List.mem_cons_self);have s2 := hsm _ (by rw [ego]; exact List.mem_cons_of_mem _ List.mem_cons_self)
   have e1 : SzU m.V 2 2 1 (Av (conU m.V 1) [hsQ m.V, varU m.V 2]) := by rw [Bs q]; exact (q.mul v2).mono (by omega) (by decide) (by omega)
   have e2 : SzU m.V 1 2 1 (Av (conU m.V 1) [conU m.V 2, varU m.V (3 + m.l + r)]) := by rw [Bs c2]; exact (c2.mul vr).mono (by omega) (by decide) (by omega)
   have e3 : SzU m.V 2 3 2 (A5 [] [varU m.V (3 + n), Av (conU m.V 1) [hsQ m.V, varU m.V 2]]) := by rw [Co vn e1]; exact (vn.add e1).mono (by omega) (by decide) (by omega)
   show IoGn Tryz.prog 112 [.ptr 900 0, aN i, .agg [aN op, aN (r : Int), aN (n : Int), aN (k : Int)]] _ _ _;refine B8 Tryz.func112 rfl Tryz.ntmps112 rfl rfl ?_;(repeat' (first |refine qv ?_ |apply qn |apply qs |apply qr |refine qe ?_|fail));refine qc (BZ m x i (by omega)) ?_;refine qc (Be m.V (3 + i) (by omega) (by omega)) ?_;refine ql eP [mkP m.V (hsQ m.V), mkP m.V (varU m.V (3 + i))] ?_;refine qc (CV m.V (by omega) [hsQ m.V, varU m.V (3 + i)] (by simp) (CF q vi (by omega) (by decide) (by decide) (by decide) (by omega) (by omega) (by omega))) ?_;(repeat' (first |refine qv ?_ |apply qn |refine Fl.nil (fun _ => by kernel_rfl) ?_ |apply qs |apply qr |refine qe ?_ |(refine AD rfl ?_ ?_ <;> intro _ <;> try (exfalso; omega)) |(refine Aa rfl ?_ ?_ <;> intro _ <;> try (exfalso; omega)) |apply qb |(refine AH rfl rfl ?_ ?_ <;> intro _ <;> try (exfalso; omega))));refine qc (BZ m x n (by omega)) ?_;refine qc (Be m.V (3 + n) (by omega) (by omega)) ?_;(repeat' (first |refine qv ?_ |refine Fl.nil (fun _ => by kernel_rfl) ?_ |apply qs |apply qr |refine qe ?_|fail));refine qc (BZ m x k (by omega)) ?_;refine qc (Be m.V (3 + k) (by omega) (by omega)) ?_;refine ql eP [mkP m.V (varU m.V (3 + n)), mkP m.V (varU m.V (3 + k))] ?_;refine qc (C9 m.V (by omega) [varU m.V (3 + n), varU m.V (3 + k)] (by simp) (C8 vn vk (by omega) (by omega) (by decide) (by omega))) ?_;refine ql eP [mkP m.V (Bm m i), mkP m.V (A5 [] [varU m.V (3 + n), varU m.V (3 + k)])] ?_;refine qG [(902, 94)] (CU m hm x (kQ m) (kAll m) L (by omega) 3 [Bm m i, A5 [] [varU m.V (3 + n), varU m.V (3 + k)]] s1) ?_;(repeat' (first |refine qv ?_ |refine Fl.nil (fun _ => by kernel_rfl) ?_ |apply qr));refine qc (Be m.V 2 (by omega) (by omega)) ?_;refine ql eP [mkP m.V (hsQ m.V), mkP m.V (varU m.V 2)] ?_;refine qc (CV m.V (by omega) [hsQ m.V, varU m.V 2] (by simp) (CF q v2 (by omega) (by decide) (by decide) (by decide) (by omega) (by omega) (by omega))) ?_;refine ql eP [mkP m.V (varU m.V (3 + n)), mkP m.V (Av (conU m.V 1) [hsQ m.V, varU m.V 2])] ?_;refine qc (C9 m.V (by omega) [varU m.V (3 + n), Av (conU m.V 1) [hsQ m.V, varU m.V 2]] (by simp) (C8 vn e1 (by omega) (by omega) (by decide) (by omega))) ?_;(repeat' (first |refine qv ?_|fail));refine qc (Do m.V 2 (by omega) (by omega) (by omega)) ?_;(repeat' (first |refine qv ?_|fail));refine qc (szReg_ok m x r (by omega) (by omega)) ?_;refine qc (Be m.V (3 + m.l + r) (by omega) (by omega)) ?_;refine ql eP [mkP m.V (conU m.V 2), mkP m.V (varU m.V (3 + m.l + r))] ?_;refine qc (CV m.V (by omega) [conU m.V 2, varU m.V (3 + m.l + r)] (by simp) (CF c2 vr (by omega) (by decide) (by decide) (by decide) (by omega) (by omega) (by omega))) ?_;refine Fl.call rfl (kSub_ok m.V (by omega) _ _ (hsJmp m ⟨op, r, n, k⟩) (e3.chk (by omega) (by omega) (by omega)) (e2.chk (by omega) (by omega) (by omega)) (e3.subChk e2 (by omega) (by omega) (by omega) (by omega))) rfl rfl rfl (AB _) ?_;refine ql eP [mkP m.V (Bm m i), mkP m.V (hsJmp m ⟨op, r, n, k⟩)] ?_;refine Fl.ioG rfl [(901, 94), (902, 148)] (CU m hm x (kQ m) (kAll m) _ (by simp; omega) 3 [Bm m i, hsJmp m ⟨op, r, n, k⟩] s2) rfl rfl (AB _) rfl ⟨⟨⟨_, rfl, BLe.cells (AB _)⟩, rfl⟩, ⟨⟨_, rfl, BLe.row rfl⟩, rfl⟩, trivial⟩ rfl rfl rfl rfl rfl ?_;(repeat' (first |refine Fl.nil (fun _ => by kernel_rfl) ?_|fail));refine ⟨⟨[(902, 148)], _, _, AK _ _ _, rfl, AA _, rfl, ⟨⟨⟨_, rfl, BLe.cells (AB _)⟩, rfl⟩, ⟨⟨_, rfl, BLe.row ?_⟩, rfl⟩, trivial⟩, rfl, rfl⟩⟩;rw [ego]; simp
  ·have ego : hsGo m i ⟨op, r, n, k0⟩ = [(3, [Bm m i, varU m.V (3 + n)])] := by
    unfold hsGo;rw [if_neg h3, if_neg h2]; rfl
   have s1 := hsm _ (by rw [ego]; exact List.mem_cons_self);show IoGn Tryz.prog 112 [.ptr 900 0, aN i, .agg [aN op, aN (r : Int), aN (n : Int), aN k0]] _ _ _;refine B8 Tryz.func112 rfl Tryz.ntmps112 rfl rfl ?_;(repeat' (first |refine qv ?_ |apply qn |apply qs |apply qr |refine qe ?_|fail));refine qc (BZ m x i (by omega)) ?_;refine qc (Be m.V (3 + i) (by omega) (by omega)) ?_;refine ql eP [mkP m.V (hsQ m.V), mkP m.V (varU m.V (3 + i))] ?_;refine qc (CV m.V (by omega) [hsQ m.V, varU m.V (3 + i)] (by simp) (CF q vi (by omega) (by decide) (by decide) (by decide) (by omega) (by omega) (by omega))) ?_;(repeat' (first |refine qv ?_ |apply qn |refine Fl.nil (fun _ => by kernel_rfl) ?_ |apply qs |apply qr |refine qe ?_ |refine Fl.skip rfl rfl ?_ |refine AF rfl ?_ |(refine AD rfl ?_ ?_ <;> intro _ <;> try (exfalso; omega)) |(refine Aa rfl ?_ ?_ <;> intro _ <;> try (exfalso; omega)) |apply qb |(refine AH rfl rfl ?_ ?_ <;> intro _ <;> try (exfalso; omega))))
   all_goals (refine Fl.call rfl (BZ m x n (by omega)) rfl rfl rfl (AB _) ?_)
   all_goals skip
   all_goals (refine Fl.call rfl (Be m.V (3 + n) (by omega) (by omega)) rfl rfl rfl (AB _) ?_)
   all_goals skip
   all_goals (refine Fl.lit rfl rfl rfl rfl rfl eP [mkP m.V (Bm m i), mkP m.V (varU m.V (3 + n))] rfl rfl rfl rfl (by intro _ _; rfl) rfl ?_)
   all_goals skip
   all_goals (refine Fl.ioG rfl [(902, 44)] (CU m hm x (kQ m) (kAll m) L (by omega) 3 [Bm m i, varU m.V (3 + n)] s1) rfl rfl (AB _) rfl ⟨⟨⟨_, rfl, BLe.cells (AB _)⟩, rfl⟩, ⟨⟨_, rfl, BLe.row rfl⟩, rfl⟩, trivial⟩ rfl rfl rfl rfl rfl ?_)
   all_goals repeat' (first |refine Fl.nil (fun _ => by kernel_rfl) ?_|fail)
   all_goals (refine ⟨⟨[(902, 44)], _, _, AK _ _ _, rfl, AA _, rfl, ⟨⟨⟨_, rfl, BLe.cells (AB _)⟩, rfl⟩, ⟨⟨_, rfl, BLe.row ?_⟩, rfl⟩, trivial⟩, rfl, rfl⟩⟩)
   all_goals (rw [ego]; rfl)
abbrev eB (j : Nat) : List (AL.Id × Bx) := [(904, .cells [.ptr 900 0] 139), (905, .cells [aN j] 3)]
theorem mkDoes_ok (m : MZ) (hm : OkMZ m) (x : List Int) (L : List LZ) (op : Int) (j : Nat) : IoFn Tryz.prog 164 ([aN op] ++ [.ptr 904 0, .ptr 905 0]) (kB m x (kQ m) (kAll m) L ++ eB j) (.ret (aP (mkP m.V (Bi m op j)))) (kB m x (kQ m) (kAll m) L ++ eB j) := by
 refine AG Tryz.func164 rfl Tryz.ntmps164 rfl rfl rfl ?_;have hV := hm.V32;have q := (BV hm.V6).1;have sm := EK hm (fun y => decide (y.op = op) && decide (y.rg = (j : Int)));(repeat' (first |refine qv ?_ |apply qn |apply qs |apply qr |refine qe ?_|fail));refine Fl.ioR rfl [(902, 3), (903, 905)] (mkSum2_ok m hm x (kQ m) (kAll m) L op j) rfl rfl (AB _) rfl ⟨⟨⟨_, rfl, BLe.cells (AB _)⟩, rfl⟩, ⟨⟨_, rfl, BLe.row rfl⟩, rfl⟩, ⟨⟨_, rfl, BLe.cells (AB _)⟩, rfl⟩, ⟨⟨_, rfl, BLe.cells (AB _)⟩, rfl⟩, trivial⟩ ⟨rfl, rfl, rfl, rfl, trivial⟩ rfl rfl rfl rfl ?_;refine ql eP [mkP m.V (hsQ m.V), mkP m.V (BJ m.V (fun y => decide (y.op = op) && decide (y.rg = (j : Int))) 0 m.code (conU m.V 0))] ?_;refine qc (CV m.V (by omega) [hsQ m.V, BJ m.V (fun y => decide (y.op = op) && decide (y.rg = (j : Int))) 0 m.code (conU m.V 0)] (by simp) (CF q sm (by omega) (by decide) (by decide) (by decide) (by omega) (by omega) (by omega))) ?_;(repeat' (first |refine Fl.nil (fun _ => by kernel_rfl) ?_ |refine qe ?_ |apply qt));exact ⟨⟨[], _, _, AK _ _ _, rfl, AA _, rfl, ⟨⟨⟨_, rfl, BLe.cells (AB _)⟩, rfl⟩, ⟨⟨_, rfl, BLe.row rfl⟩, rfl⟩, ⟨⟨_, rfl, BLe.cells (AB _)⟩, rfl⟩, ⟨⟨_, rfl, BLe.cells (AB _)⟩, rfl⟩, trivial⟩, rfl, rfl⟩⟩
set_option maxHeartbeats 1000000 in
theorem mkChanges_ok (m : MZ) (hm : OkMZ m) (x : List Int) (hx : OkIn m x) (L : List LZ) (hL : L.length ≤ 1000) (j : Nat) (hj : j < m.R) : IoGn Tryz.prog 113 [.ptr 900 0, aN j] (kB m x (kQ m) (kAll m) L) (.tup []) (kBr 902 m x (kQ m) (kAll m) (L ++ [lkZ m (hsF m x j)])) := by
 refine B8 Tryz.func113 rfl Tryz.ntmps113 rfl rfl ?_;have hV := hm.V32;have hl : m.code.length ≤ 15 := hm.l15;have hl2 : m.l = m.code.length := rfl;have hR4 := hm.r4;have hR1 := hm.r1;have hR : m.R = m.regs.toNat := rfl;have hVe : m.V = 3 + m.code.length + 2 * m.R := rfl;have hxl : x.length = m.R := hx.1;have hxb := getD_in hx j
 have hxj : x[Int.toNat ((j : Nat) : Int)]? = some (x.getD j 0) := by
  rw [Int.toNat_natCast, List.getD_eq_getElem?_getD, List.getElem?_eq_getElem (by omega)]; rfl
 have q := (BV hm.V6).1;have al := (DY hm.V6).1;have vj := AP (V := m.V) (i := 3 + m.l + j) (by omega);have ve := AP (V := m.V) (i := 3 + m.l + m.R + j) (by omega);obtain ⟨sL, sL2⟩ := sz_L hm hj;obtain ⟨sR, okR, sR2⟩ := sz_R0 hm hx hj;have sd := sz_does hm 1 j;have hsF := Cy hm hx _ (hsK_F (x := x) hj);have hlast := hsF.2.2 _ List.mem_cons_self;(repeat' (first |refine qv ?_ |apply qn |apply qs |apply qr |refine qe ?_|fail));refine qc (szReg_ok m x j (by omega) (by omega)) ?_;refine qc (Be m.V (3 + m.l + j) (by omega) (by omega)) ?_;(repeat' (first |refine qv ?_|fail));refine qc (szEnd_ok m x j (by omega) (by omega) (by omega) (by omega)) ?_;refine qc (Be m.V (3 + m.l + m.R + j) (by omega) (by omega)) ?_;(repeat' (first |refine qv ?_|fail));refine ql eP [mkP m.V (varU m.V (3 + m.l + m.R + j)), mkP m.V (CW m.V)] ?_;refine qc (CV m.V (by omega) [varU m.V (3 + m.l + m.R + j), CW m.V] (by simp) (CF ve al (by omega) (by decide) (by decide) (by decide) (by omega) (by omega) (by omega))) ?_;refine ql eP [mkP m.V (varU m.V (3 + m.l + j)), mkP m.V (Av (conU m.V 1) [varU m.V (3 + m.l + m.R + j), CW m.V])] ?_;refine qc (C9 m.V (by omega) [varU m.V (3 + m.l + j), Av (conU m.V 1) [varU m.V (3 + m.l + m.R + j), CW m.V]] (by simp) (C8 vj sL2 (by omega) (by omega) (by decide) (by omega))) ?_;(repeat' (first |refine qv ?_ |refine Fl.nil (fun _ => by kernel_rfl) ?_ |apply qs |apply qr |refine qe ?_ |refine qK ?_|fail));refine qc (Do m.V (x.getD j 0) (by omega) (by omega) (by omega)) ?_;(repeat' (first |refine qv ?_|fail));refine qc (szReg_ok m x j (by omega) (by omega)) ?_;refine qc (Be m.V (3 + m.l + j) (by omega) (by omega)) ?_;refine ql eP [mkP m.V (hsQ m.V), mkP m.V (varU m.V (3 + m.l + j))] ?_;refine qc (CV m.V (by omega) [hsQ m.V, varU m.V (3 + m.l + j)] (by simp) (CF q vj (by omega) (by decide) (by decide) (by decide) (by omega) (by omega) (by omega))) ?_;(repeat' (first |refine qv ?_|fail));refine Fl.ioVR rfl rfl [(904, 2), (905, 3)] (mkDoes_ok m hm x L 0 j) rfl rfl (AB _) rfl ⟨⟨⟨_, rfl, BLe.cells (AB _)⟩, rfl⟩, ⟨⟨_, rfl, BLe.row rfl⟩, rfl⟩, ⟨⟨_, rfl, BLe.cells (AB _)⟩, rfl⟩, ⟨⟨_, rfl, BLe.cells (AB _)⟩, rfl⟩, trivial⟩ ⟨rfl, rfl, rfl, rfl, trivial⟩ rfl rfl rfl rfl ?_;refine ql eP [mkP m.V (conU m.V (x.getD j 0)), mkP m.V (Av (conU m.V 1) [hsQ m.V, varU m.V (3 + m.l + j)]), mkP m.V (Bi m 0 j)] ?_;refine qc (C9 m.V (by omega) [conU m.V (x.getD j 0), Av (conU m.V 1) [hsQ m.V, varU m.V (3 + m.l + j)], Bi m 0 j] (by simp) okR) ?_;(repeat' (first |refine qv ?_|fail));refine Fl.ioVR rfl rfl [(904, 2), (905, 3)] (mkDoes_ok m hm x L 1 j) rfl rfl (AB _) rfl ⟨⟨⟨_, rfl, BLe.cells (AB _)⟩, rfl⟩, ⟨⟨_, rfl, BLe.row rfl⟩, rfl⟩, ⟨⟨_, rfl, BLe.cells (AB _)⟩, rfl⟩, ⟨⟨_, rfl, BLe.cells (AB _)⟩, rfl⟩, trivial⟩ ⟨rfl, rfl, rfl, rfl, trivial⟩ rfl rfl rfl rfl ?_;refine qc (kSub_ok m.V (by omega) (hsR0 m x j) (Bi m 1 j) (subL (hsR0 m x j) (Bi m 1 j)) (sR.chk (by omega) (by omega) (by omega)) (sd.chk (by omega) (by omega) (by omega)) (sR.subChk sd (by omega) (by omega) (by omega) (by omega))) ?_;(repeat' (first |refine qv ?_ |refine Fl.nil (fun _ => by kernel_rfl) ?_ |apply qr |refine qe ?_|fail));refine qc (kEq_ok m.V (by omega) (hsL m j) (subL (hsR0 m x j) (Bi m 1 j)) (subL (hsL m j) (subL (hsR0 m x j) (Bi m 1 j))) (sL.chk (by omega) (by omega) (by omega)) ((sR.sub sd).chk (by omega) (by omega) (by omega)) (sL.subChk (sR.sub sd) (by omega) (by omega) (by omega) (by omega)) ⟨by have := hlast.ln; omega, fun u hu => (hlast.ex u hu).1⟩) ?_;refine ql eL [Bo m.V 0 [subL (hsL m j) (subL (hsR0 m x j) (Bi m 1 j))]] ?_;refine qa (hby := (by dsimp only [List.length_nil, List.length_cons]; omega)) (hm := (by simp; omega)) (r := ?_);(repeat' (first |refine qv ?_ |refine Fl.nil (fun _ => by kernel_rfl) ?_ |refine qe ?_|fail));exact ⟨⟨[(902, 108)], _, _, AK _ _ _, rfl, AA _, rfl, ⟨⟨⟨_, rfl, BLe.cells (AB _)⟩, rfl⟩, ⟨⟨_, rfl, BLe.row rfl⟩, rfl⟩, trivial⟩, rfl, rfl⟩⟩
end Go.Proofs.YtmmfloplhopioaaGreat
/- history's sizesOf, system, System. -/
namespace Go.AL
theorem sumL_snoc (l : List Int) (y : Int) : sumL (l ++ [y]) = sumL l + y := by
 induction l with
 | nil => simp [sumL]
 | cons x l ih => simp only [List.cons_append, sumL, ih]; omega
abbrev szZero : AV := .agg [aN 0, .v (.slice none 0 0), .v (.slice none 0 0), aN 0, aN 0]
end Go.AL
namespace Go.Proofs.YtmmfloplhopioaaGreat
open Go.AL
theorem sizesOf_form (m : MZ) (x : List Int) (hl : m.code.length ≤ 100000) (h : ¬ OkMZ m) : PureFn Tryz.prog 45 [aMz m, aI x] (.tup [szZero, aN 1]) := by
 refine AC Tryz.func45 rfl Tryz.ntmps45 rfl rfl ?_;(repeat' (first |refine qv ?_ |apply qn |apply qs |apply qr |refine qe ?_|fail));refine qc (DQ m hl false ⟨fun k => (by cases k), fun k => absurd k h⟩) ?_;(repeat' (first |refine qv ?_ |apply qn |apply qs |apply qr |refine qe ?_ |refine AM rfl ?_ |apply qt));exact RetOk.of rfl (AA _)
theorem sizesOf_arg (m : MZ) (x : List Int) (hxl : x.length ≤ 100000) (hm : OkMZ m) (h : ¬ OkIn m x) : PureFn Tryz.prog 45 [aMz m, aI x] (.tup [szZero, aN 2]) := by
 refine AC Tryz.func45 rfl Tryz.ntmps45 rfl rfl ?_;have h1 := hm.r1;have hl : m.code.length ≤ 15 := hm.l15;(repeat' (first |refine qv ?_ |apply qn |apply qs |apply qr |refine qe ?_|fail));refine Fl.call rfl (DQ m (by omega) true ⟨fun _ => hm, fun _ => rfl⟩) rfl rfl rfl (AB _) ?_;(repeat' (first |refine qv ?_ |apply qn |apply qs |apply qr |refine AF rfl ?_ |apply qk));refine qc (rgInput_ok m x hxl (by omega) false ⟨fun k => (by cases k), fun k => absurd k h⟩) ?_;(repeat' (first |refine qv ?_ |apply qn |apply qs |apply qr |refine qe ?_ |refine AM rfl ?_ |apply qt));exact RetOk.of rfl (AA _)
theorem DM (m : MZ) (x : List Int) (hm : OkMZ m) (hx : OkIn m x) : PureFn Tryz.prog 45 [aMz m, aI x] (.tup [aSz m x, aN 0]) := by
 refine AC Tryz.func45 rfl Tryz.ntmps45 rfl rfl ?_;have h1 := hm.r1;have h4 := hm.r4;have hl : m.code.length ≤ 15 := hm.l15;have hxl := hx.1;have hR : m.R = m.regs.toNat := rfl;have hVe : m.V = 3 + m.code.length + 2 * m.R := rfl;have hsum := fun i => sumL_in (l := x.take i) fun n hn => hx.2 n (List.mem_of_mem_take hn);(repeat' (first |refine qv ?_ |apply qn |apply qs |apply qr |refine qe ?_|fail));refine Fl.call rfl (DQ m (by omega) true ⟨fun _ => hm, fun _ => rfl⟩) rfl rfl rfl (AB _) ?_;(repeat' (first |refine qv ?_ |apply qn |apply qs |apply qr |refine AF rfl ?_ |apply qk));refine Fl.call rfl (rgInput_ok m x (by omega) (by omega) true ⟨fun _ => hx, fun _ => rfl⟩) rfl rfl rfl (AB _) ?_;(repeat' (first |refine qv ?_ |apply qn |apply qs |apply qr |refine qw ?_ |refine qe ?_ |refine AF rfl ?_ |apply qb |apply qk));refine AWP.loop (G := Nat) (fun i => i ≤ x.length) (fun i => AU [] [(4, .ptr 4 0), (6, .ptr 6 0), (32, aI x), (33, aN x.length), (34, aN i)] [(4, .cells [aN 0, .v (.slice none 0 0), .v (.slice none 0 0), aN 0, aN 0] 82), (6, .cells [aN m.regs, .sl 4 eIz m.code, aI x, aN m.V, aN (m.l + sumL (x.take i))] 82)]) (fun i => x.length - i) 0 (by omega) ?_ ?_
 ·refine Ent.of [] ?_ ?_ rfl rfl;(repeat' (first |exact True.intro |refine ⟨⟨AA _, rfl⟩, ?_⟩ |refine ⟨⟨⟨_, rfl, BLe.cells (AB _)⟩, rfl⟩, ?_⟩ |refine ⟨⟨⟨_, rfl, BLe.cells ?_⟩, rfl⟩, ?_⟩|fail))
  ·exact LeL.cons (AA _) (LeL.cons (AA _) (LeL.cons (AA _) (LeL.cons (AV.Le.int (by omega)) (LeL.cons (AV.Le.int (by simp [sumL])) LeL.nil))))
 ·intro i k0;have s0 := hsum i
  have hti : (x.take i).length = i := by rw [List.length_take]; omega
  have hl2 : m.l = m.code.length := rfl;(repeat' (first |refine qv ?_ |apply qn |apply qs |apply qr |refine qe ?_ |(refine AD rfl ?_ ?_ <;> intro _ <;> try (exfalso; omega)) |apply qb |apply qk |apply qx |apply qt |(refine Aw rfl rfl rfl rfl rfl rfl rfl rfl (by omega) (by omega) ?_; intro _ _)|fail))
  ·rename_i hi y hy;rw [Int.toNat_natCast] at hy;have hyb := hx.2 y (List.mem_of_getElem? hy);(repeat' (first |refine qv ?_ |apply qn |apply qr |refine qw ?_ |refine qe ?_|fail));refine LoopEnd.of (i + 1) (by omega) (by omega) ?_;refine Ent.of [] ?_ ?_ rfl rfl;(repeat' (first |exact True.intro |refine ⟨⟨AA _, rfl⟩, ?_⟩ |refine ⟨⟨⟨_, rfl, BLe.cells (AB _)⟩, rfl⟩, ?_⟩ |refine ⟨⟨⟨_, rfl, BLe.cells ?_⟩, rfl⟩, ?_⟩|fail));exact LeL.cons (AA _) (LeL.cons (AA _) (LeL.cons (AA _) (LeL.cons (AA _) (LeL.cons (AV.Le.int (by rw [Ad hy, sumL_snoc]; omega)) LeL.nil))))
  ·rename_i hi;refine RetOk.of rfl ?_;rw [List.take_of_length_le (by omega)];exact AA _
set_option maxHeartbeats 1000000 in
theorem hsSystem_ok (m : MZ) (x : List Int) (hm : OkMZ m) (hx : OkIn m x) : PureFn Tryz.prog 47 [aSz m x] (aS (hsS m x)) := by
 refine AC Tryz.func47 rfl Tryz.ntmps47 rfl rfl ?_;have hV := hm.V32;have hl : m.code.length ≤ 15 := hm.l15;have hl1 : 1 ≤ m.code.length := hm.l1;have hl2 : m.l = m.code.length := rfl;have hR4 := hm.r4;have hR1 := hm.r1;have hR : m.R = m.regs.toNat := rfl;have hVe : m.V = 3 + m.code.length + 2 * m.R := rfl;obtain ⟨s1, s2, s3⟩ := Dx hm hx;have q := (BV hm.V6).1;have c2 := SzU.con m.V 2;have c1 := SzU.con m.V 1;have v0 := AP (V := m.V) (i := 0) (by omega);have v1 := AP (V := m.V) (i := 1) (by omega);have v2 := AP (V := m.V) (i := 2) (by omega);have ca := SzU.con m.V (addZ m x);obtain ⟨al1, al2, al3, al4, al5, al6⟩ := DY hm.V6;have tA := fun s hs => Cy hm hx s (hsK_A hs);have t1 := tA _ (show _ ∈ hsA m x from List.mem_cons_self);have t2 := tA _ (show _ ∈ hsA m x from List.mem_cons_of_mem _ List.mem_cons_self);have t3 := tA _ (show _ ∈ hsA m x from List.mem_cons_of_mem _ (List.mem_cons_of_mem _ List.mem_cons_self));have hlast := t3.2.2 _ List.mem_cons_self;have sm := EK hm (fun _ => true);refine AE ?_;(repeat' (first |apply qn |apply qr |refine qe ?_|fail));refine ⟨AE ?_⟩;(repeat' (first |refine qv ?_ |apply qr));refine qc (kNew_ok m.V) ?_;(repeat' (first |refine qv ?_ |refine Fl.nil (fun _ => by kernel_rfl) ?_ |refine qe ?_|fail));refine ⟨?_⟩;refine Am (CN 12 10 901 rfl rfl rfl 3 eL 99) ?_;refine AE ?_;(repeat' (first |refine qv ?_ |apply qr));refine qc (Do m.V 2 (by omega) (by omega) (by omega)) ?_;(repeat' (first |refine qv ?_|fail));refine qc (Be m.V 1 (by omega) (by omega)) ?_;refine ql eP [mkP m.V (conU m.V 2), mkP m.V (varU m.V 1)] ?_;refine qc (CV m.V (by omega) [conU m.V 2, varU m.V 1] (by simp) (BV hm.V6).2) ?_;(repeat' (first |refine qv ?_ |refine Fl.nil (fun _ => by kernel_rfl) ?_ |refine qe ?_|fail));refine ⟨AE ?_⟩;(repeat' (first |refine qv ?_ |apply qr));refine qc (Do m.V 1 (by omega) (by omega) (by omega)) ?_;(repeat' (first |refine qv ?_|fail));refine qc (Do m.V 1 (by omega) (by omega) (by omega)) ?_;refine qc (kSub_ok m.V (by omega) (hsQ m.V) (conU m.V 1) (subL (hsQ m.V) (conU m.V 1)) (q.chk (by omega) (by omega) (by omega)) (c1.chk (by omega) (by decide) (by omega)) al5) ?_;(repeat' (first |refine qv ?_|fail));refine qc (Be m.V 2 (by omega) (by omega)) ?_;refine ql eP [mkP m.V (subL (hsQ m.V) (conU m.V 1)), mkP m.V (varU m.V 2)] ?_;refine qc (CV m.V (by omega) [subL (hsQ m.V) (conU m.V 1), varU m.V 2] (by simp) al2) ?_;refine ql eP [mkP m.V (conU m.V 1), mkP m.V (Av (conU m.V 1) [subL (hsQ m.V) (conU m.V 1), varU m.V 2])] ?_;refine qc (C9 m.V (by omega) [conU m.V 1, Av (conU m.V 1) [subL (hsQ m.V) (conU m.V 1), varU m.V 2]] (by simp) al3) ?_;(repeat' (first |refine qv ?_ |refine Fl.nil (fun _ => by kernel_rfl) ?_ |refine qe ?_|fail));refine ⟨AE ?_⟩;refine Am (s' := AU [] [(1, .ptr 1 0), (2, .ptr 2 0), (3, .ptr 12 0)] [(1, .cells [aN m.regs, .sl 4 eIz m.code, aI x, aN m.V, aN (addZ m x)] 82), (2, .cells [aN 0, .v (.slice none 0 0)] 39), (12, .cells [aN m.regs, .sl 4 eIz m.code, aI x, aN m.V, aN (addZ m x), aN m.V, aN (kQ m).vars, .sl 3 eT (kQ m).terms, aN (kAll m).vars, .sl 3 eT (kAll m).terms, .row 901] 144), (901, .row 3 eL ([] : List LZ) 99)]) ?_ ?_
 ·refine Ent.of [] ?_ ?_ rfl rfl;(repeat' (first |exact True.intro |refine ⟨⟨AA _, rfl⟩, ?_⟩ |refine ⟨⟨⟨_, rfl, BLe.cells (AB _)⟩, rfl⟩, ?_⟩ |refine ⟨⟨⟨_, rfl, BLe.row rfl⟩, rfl⟩, ?_⟩|fail))
 (repeat' (first |refine qv ?_ |apply qr));refine qc (Do m.V 2 (by omega) (by omega) (by omega)) ?_;(repeat' (first |refine qv ?_|fail));refine qc (Be m.V 0 (by omega) (by omega)) ?_;(repeat' (first |refine qv ?_|fail));refine qc (Do m.V (addZ m x) (by omega) (by omega) (by omega)) ?_;refine ql eP [mkP m.V (varU m.V 0), mkP m.V (conU m.V (addZ m x))] ?_;refine qc (C9 m.V (by omega) [varU m.V 0, conU m.V (addZ m x)] (by simp) (C8 v0 ca (by omega) (by omega) (by omega) (by omega))) ?_;(repeat' (first |refine qv ?_|fail));refine qc (Be m.V 1 (by omega) (by omega)) ?_;refine ql eP [mkP m.V (conU m.V 2), mkP m.V (A5 [] [varU m.V 0, conU m.V (addZ m x)]), mkP m.V (varU m.V 1)] ?_;refine qG [(900, 12), (902, 101)] (CU m hm x (kQ m) (kAll m) [] (by simp) 2 [conU m.V 2, A5 [] [varU m.V 0, conU m.V (addZ m x)], varU m.V 1] t1) ?_;(repeat' (first |refine Fl.nil (fun _ => by kernel_rfl) ?_|fail));refine ⟨AE ?_⟩;(repeat' (first |refine qv ?_ |apply qr));refine qc (Be m.V 0 (by omega) (by omega)) ?_;(repeat' (first |refine qv ?_|fail));refine qc (Do m.V 1 (by omega) (by omega) (by omega)) ?_;refine ql eP [mkP m.V (varU m.V 0), mkP m.V (conU m.V 1)] ?_;refine qc (C9 m.V (by omega) [varU m.V 0, conU m.V 1] (by simp) (C8 v0 c1 (by omega) (by omega) (by decide) (by omega))) ?_;(repeat' (first |refine qv ?_|fail));refine ql eP [mkP m.V (hsQ m.V), mkP m.V (A5 [] [varU m.V 0, conU m.V 1]), mkP m.V (CW m.V)] ?_;refine Fl.ioG rfl [(900, 12), (901, 101), (902, 128)] (CU m hm x (kQ m) (kAll m) _ (by simp) 2 [hsQ m.V, A5 [] [varU m.V 0, conU m.V 1], CW m.V] t2) rfl rfl (AB _) rfl ⟨⟨⟨_, rfl, BLe.cells (AB _)⟩, rfl⟩, ⟨⟨_, rfl, BLe.row rfl⟩, rfl⟩, trivial⟩ rfl rfl rfl rfl rfl ?_;(repeat' (first |refine Fl.nil (fun _ => by kernel_rfl) ?_|fail));refine ⟨AE ?_⟩;(repeat' (first |refine qv ?_ |apply qr));refine qc (Be m.V 2 (by omega) (by omega)) ?_;(repeat' (first |refine qv ?_|fail));refine qR [(900, 12), (901, 128)] (mkSum_ok m hm x (kQ m) (kAll m) _ 110 (fun _ => true) mkTrue_ok) ?_;refine Fl.call rfl (kEq_ok m.V (by omega) (varU m.V 2) (BJ m.V (fun _ => true) 0 m.code (conU m.V 0)) (subL (varU m.V 2) (BJ m.V (fun _ => true) 0 m.code (conU m.V 0))) (v2.chk (by omega) (by omega) (by omega)) (sm.chk (by omega) (by omega) (by omega)) (v2.subChk sm (by omega) (by omega) (by omega) (by omega)) ⟨by have := hlast.ln; omega, fun u hu => (hlast.ex u hu).1⟩) rfl rfl rfl (AB _) ?_;refine ql eL [Bo m.V 0 [subL (varU m.V 2) (BJ m.V (fun _ => true) 0 m.code (conU m.V 0))]] ?_;refine qa (hby := (by first | (simp; done) | (simp; omega))) (hm := (by first | (simp; done) | (simp; omega))) (r := ?_);(repeat' (first |refine qv ?_ |refine Fl.nil (fun _ => by kernel_rfl) ?_ |refine qe ?_|fail));refine ⟨AE ?_⟩;(repeat' (first |refine qv ?_ |apply qr));refine qG [(900, 12), (901, 147), (902, 151)] (mkMasks_ok m hm x hx ((hsA m x).map (lkZ m)) (by simp [hsA])) ?_;(repeat' (first |apply qn));refine ⟨?_⟩;obtain ⟨L1, eL1⟩ : ∃ L1, L1 = (hsA m x).map (lkZ m) ++ (List.range m.l).map (fun i => lkZ m (hsB m i)) ++ (hsC m).map (lkZ m) ++ (List.range m.R).map (fun j => lkZ m (hsD m j)) := ⟨_, rfl⟩
 have hL1 : L1.length ≤ 24 := by rw [eL1]; simp [hsA, hsC]; omega
 rw [← eL1];have gl := go_len (m := m);(repeat' (first |refine qv ?_ |apply qn |apply qs |apply qr |apply qb));refine AWP.loop (G := Nat) (fun i => i ≤ m.code.length) (fun i => AU [] [(1, .ptr 1 0), (2, .ptr 2 0), (3, .ptr 12 0), (154, .sl 4 eIz m.code), (155, aN m.code.length), (156, aN i)] [(1, .cells [aN m.regs, .sl 4 eIz m.code, aI x, aN m.V, aN (addZ m x)] 82), (2, .cells [aN 0, .v (.slice none 0 0)] 39), (12, .cells [aN m.regs, .sl 4 eIz m.code, aI x, aN m.V, aN (addZ m x), aN m.V, aN (kQ m).vars, .sl 3 eT (kQ m).terms, aN (kAll m).vars, .sl 3 eT (kAll m).terms, .row 901] 144), (901, .row 3 eL (L1 ++ (List.range i).flatMap (fun k => (hsGo m k (m.at k)).map (lkZ m))) 99)]) (fun i => m.code.length - i) 0 (by omega) ?_ ?_
 ·refine Ent.of [(901, 151)] ?_ ?_ rfl rfl;(repeat' (first |exact True.intro |refine ⟨⟨AA _, rfl⟩, ?_⟩ |refine ⟨⟨⟨_, rfl, BLe.cells (AB _)⟩, rfl⟩, ?_⟩ |refine ⟨⟨⟨_, rfl, BLe.row ?_⟩, rfl⟩, ?_⟩|fail));simp
 ·intro i k0;have hgi := gl i;(repeat' (first |refine qv ?_ |apply qn |apply qs |apply qr |refine qe ?_ |(refine AD rfl ?_ ?_ <;> intro _ <;> try (exfalso; omega)) |apply qb |apply qk |apply qx |(refine Aw rfl rfl rfl rfl rfl rfl rfl rfl (by omega) (by omega) ?_; intro _ _)|fail))
  ·rename_i hi y hy;rw [Int.toNat_natCast] at hy;have hat := MZ.at_get hy;have hgo := mkGoes_ok m hm x hx (L1 ++ (List.range i).flatMap (fun k => (hsGo m k (m.at k)).map (lkZ m))) (by rw [List.length_append]; omega) i (by show i < m.code.length; omega);rw [hat] at hgo;refine qG [(900, 12), (902, 164)] hgo ?_;(repeat' (first |refine qv ?_ |apply qn |apply qr |refine qw ?_|fail));refine LoopEnd.of (i + 1) (by omega) (by omega) ?_;refine Ent.of [(901, 164)] ?_ ?_ rfl rfl;(repeat' (first |exact True.intro |refine ⟨⟨AA _, rfl⟩, ?_⟩ |refine ⟨⟨⟨_, rfl, BLe.cells (AB _)⟩, rfl⟩, ?_⟩ |refine ⟨⟨⟨_, rfl, BLe.row ?_⟩, rfl⟩, ?_⟩|fail));rw [go_succ, hat]
  ·rename_i hi
   have hi : i = m.code.length := by omega
   subst hi;obtain ⟨L2, eL2⟩ : ∃ L2, L2 = L1 ++ (List.range m.code.length).flatMap (fun k => (hsGo m k (m.at k)).map (lkZ m)) := ⟨_, rfl⟩
   have hL2 : L2.length ≤ 54 := by rw [eL2, List.length_append]; omega
   rw [← eL2];refine AWP.loop (G := Nat) (fun j => j ≤ m.R) (fun j => AU [] [(1, .ptr 1 0), (2, .ptr 2 0), (3, .ptr 12 0), (168, aN m.R), (169, aN j)] [(1, .cells [aN m.regs, .sl 4 eIz m.code, aI x, aN m.V, aN (addZ m x)] 82), (2, .cells [aN 0, .v (.slice none 0 0)] 39), (12, .cells [aN m.regs, .sl 4 eIz m.code, aI x, aN m.V, aN (addZ m x), aN m.V, aN (kQ m).vars, .sl 3 eT (kQ m).terms, aN (kAll m).vars, .sl 3 eT (kAll m).terms, .row 901] 144), (901, .row 3 eL (L2 ++ (List.range j).map (fun k => lkZ m (hsF m x k))) 99)]) (fun j => m.R - j) 0 (by omega) ?_ ?_
   ·refine Ent.of [] ?_ ?_ rfl rfl;(repeat' (first |exact True.intro |refine ⟨⟨AA _, rfl⟩, ?_⟩ |refine ⟨⟨⟨_, rfl, BLe.cells (AB _)⟩, rfl⟩, ?_⟩ |refine ⟨⟨⟨_, rfl, BLe.row ?_⟩, rfl⟩, ?_⟩ |refine ⟨⟨AV.Le.int ?_, rfl⟩, ?_⟩|fail))
    ·omega
    ·simp
   ·intro j k1;(repeat' (first |refine qv ?_ |apply qn |refine Fl.nil (fun _ => by kernel_rfl) ?_ |apply qs |apply qr |refine qe ?_ |(refine AD rfl ?_ ?_ <;> intro _ <;> try (exfalso; omega)) |apply qb |apply qk |apply qx |apply qt))
    ·rename_i hj;refine qG [(900, 12), (902, 174)] (mkChanges_ok m hm x hx (L2 ++ (List.range j).map (fun k => lkZ m (hsF m x k))) (by simp; omega) j (by omega)) ?_;(repeat' (first |refine qv ?_ |apply qn |apply qr |refine qw ?_|fail));refine LoopEnd.of (j + 1) (by omega) (by omega) ?_;refine Ent.of [(901, 174)] ?_ ?_ rfl rfl;(repeat' (first |exact True.intro |refine ⟨⟨AA _, rfl⟩, ?_⟩ |refine ⟨⟨⟨_, rfl, BLe.cells (AB _)⟩, rfl⟩, ?_⟩ |refine ⟨⟨⟨_, rfl, BLe.row ?_⟩, rfl⟩, ?_⟩|fail));rw [DV]
    ·rename_i hj
     have hj : j = m.R := by omega
     subst hj;refine Ap (Ent.freeze 901 rfl) ?_;refine RetOk.of rfl (AR ?_);rw [eL2, eL1];simp only [hsS, hsK, List.map_append, List.map_map, List.map_flatMap, lkZ];rfl
theorem hSystem_ok (m : MZ) (x : List Int) (hm : OkMZ m) (hx : OkIn m x) : PureFn Tryz.prog 14 [aMz m, aI x] (.tup [aS (hsS m x), aN 0]) := by
 refine AC Tryz.func14 rfl Tryz.ntmps14 rfl rfl ?_;have h1 := DM m x hm hx;have h2 := hsSystem_ok m x hm hx;(repeat' (first |refine qv ?_ |apply qn |apply qs |apply qr |refine qe ?_|fail));refine qc (h1) ?_;(repeat' (first |refine qv ?_ |apply qn |apply qs |apply qr |refine qe ?_ |refine AF rfl ?_ |apply qk));refine qc (h2) ?_;(repeat' (first |refine qv ?_ |apply qn |refine qe ?_ |apply qt));exact RetOk.of rfl (AA _)
end Go.Proofs.YtmmfloplhopioaaGreat
/- history's states, column. -/
namespace Go.AL
def eSt : Int × List Int → List AV := fun c => [aN c.1, aI c.2]
def stF (m : MZ) (x : List Int) (t : Nat) : Int × List Int := (((m.mach.F (inF x) t).1 : Int), rgL m.R (m.mach.F (inF x) t).2)
def stL (m : MZ) (x : List Int) (n : Nat) : List (Int × List Int) := (List.range n).map (stF m x)
theorem stL_len (m : MZ) (x : List Int) (n : Nat) : (stL m x n).length = n := by simp [stL]
theorem stL_succ (m : MZ) (x : List Int) (n : Nat) : stL m x (n + 1) = stL m x n ++ [stF m x n] := by
 unfold stL;rw [List.range_succ, List.map_append]; rfl
theorem stL_get {m : MZ} {x : List Int} {n t : Nat} (h : t < n) : (stL m x n)[t]? = some (stF m x t) := by
 unfold stL;rw [List.getElem?_map, List.getElem?_range h]; rfl
theorem map_take_succ {α : Type} {l : List α} {f : α → Int} {i : Nat} {y : α} (h : l[i]? = some y) : (l.take (i + 1)).map f = (l.take i).map f ++ [f y] := by
 rw [Ad h, List.map_append]; rfl
end Go.AL
namespace Go.Proofs.YtmmfloplhopioaaGreat
open Go.AL
theorem hStates_ok (m : MZ) (hm : OkMZ m) (x : List Int) (hx : OkIn m x) (s : Nat) (hs : s ≤ 1000000) (h1 : ∀ t, t < s → ¬ m.mach.Over (m.mach.F (inF x) t)) : PureFn Tryz.prog 52 [aSz m x, aN s] (.sl 2 eSt (stL m x (s + 1))) := by
 refine AC Tryz.func52 rfl Tryz.ntmps52 rfl rfl ?_;have hst := rgStart_ok m hm x hx;have hlt := Mach.F_lt hm.mach (inF x) h1;have e0 : rgL m.R (m.mach.F (inF x) 0).2 = x := inF_eq hx;(repeat' (first |refine qv ?_ |apply qn |apply qs |apply qr |refine qe ?_|fail));refine qc (hst) ?_;(repeat' (first |refine qv ?_ |apply qn |apply qs |apply qr |refine qe ?_|fail));refine DH rfl rfl rfl rfl rfl rfl rfl eSt [(0, x)] rfl rfl rfl rfl (by intro _ _; rfl) (AB _) ?_;(repeat' (first |refine qv ?_ |apply qn |apply qs |apply qr |apply qb));refine AWP.loop (G := Nat) (fun i => i ≤ s) (fun i => AU [] [(2, .ptr 2 0), (5, .ptr 5 0), (7, .row 7), (18, aN s), (19, aN i)] [(2, .cells [aN m.regs, .sl 4 eIz m.code, aI x, aN m.V, aN (addZ m x)] 82), (5, .cells (eSt (stF m x i)) 71), (7, .row 2 eSt (stL m x (i + 1)) 71)]) (fun i => s - i) 0 (by omega) ?_ ?_
 ·refine Ent.of [(7, 17)] ?_ ?_ rfl rfl;(repeat' (first |exact True.intro |refine ⟨⟨AA _, rfl⟩, ?_⟩ |refine ⟨⟨⟨_, rfl, BLe.cells (AB _)⟩, rfl⟩, ?_⟩ |refine ⟨⟨⟨_, rfl, BLe.row ?_⟩, rfl⟩, ?_⟩ |refine ⟨⟨⟨_, rfl, BLe.cells ?_⟩, rfl⟩, ?_⟩|fail))
  ·exact LeL.cons (AA _) (LeL.cons (AR (congrArg (AV.sl 1 eI) e0.symm)) LeL.nil)
  ·show [(0, x)] = [stF m x 0];rw [stF, e0]; rfl
 ·intro i k0;have hll := stL_len m x (i + 1);(repeat' (first |refine qv ?_ |apply qn |apply qs |apply qr |(refine AD rfl ?_ ?_ <;> intro _ <;> try (exfalso; omega)) |apply qb |apply qk |apply qx |apply qt))
  ·rename_i hi;have hstep := rgStep_ok m hm (inF x) i (by omega) (inF_le hx) (hlt i k0) (h1 i (by omega));refine qc (hstep) ?_;(repeat' (first |refine qv ?_ |apply qn |apply qr |refine qe ?_|fail));refine ql eSt [stF m x (i + 1)] ?_;refine qa (hby := (by dsimp only [List.length_nil, List.length_cons]; omega)) (hm := (by simp; omega)) (r := ?_);(repeat' (first |refine qv ?_ |apply qn |apply qr |refine qw ?_|fail));refine LoopEnd.of (i + 1) (by omega) (by omega) ?_;refine Ent.of [(7, 31)] ?_ ?_ rfl rfl;(repeat' (first |exact True.intro |refine ⟨⟨AA _, rfl⟩, ?_⟩ |refine ⟨⟨⟨_, rfl, BLe.cells (AB _)⟩, rfl⟩, ?_⟩ |refine ⟨⟨⟨_, rfl, BLe.row ?_⟩, rfl⟩, ?_⟩|fail));exact (stL_succ m x (i + 1)).symm
  ·rename_i hi
   have hi : i = s := by omega
   subst hi;refine Ap (Ent.freeze 7 rfl) ?_;exact RetOk.of rfl (AA _)
theorem hColumn_ok (g : FuncId) (f : Int × List Int → Int) (L : List (Int × List Int)) (hL : L.length ≤ 1000000) (hg : ∀ c, PureFn Tryz.prog g [aSt c.1 c.2] (aN (f c))) : PureFn Tryz.prog 92 [.sl 2 eSt L, .fn g []] (aI (L.map f)) := by
 refine AC Tryz.func92 rfl Tryz.ntmps92 rfl rfl ?_;(repeat' (first |refine qv ?_ |apply qn |apply qs |apply qr |apply qb));refine Am (Dh 5 805 rfl rfl 1 eI 3) ?_;refine AWP.loop (G := Nat) (fun i => i ≤ L.length) (fun i => AU [] [(1, .fn g []), (5, .row 5), (8, .sl 2 eSt L), (9, aN L.length), (10, aN i)] [(5, .row 1 eI ((L.take i).map f) 3)]) (fun i => L.length - i) 0 (by omega) ?_ ?_
 ·refine Ent.of [(5, 805)] ?_ ?_ rfl rfl;(repeat' (first |exact True.intro |refine ⟨⟨AA _, rfl⟩, ?_⟩ |refine ⟨⟨⟨_, rfl, BLe.row rfl⟩, rfl⟩, ?_⟩|fail))
 ·intro i k0
  have hll : ((L.take i).map f).length = i := by simp; omega
  (repeat' (first |refine qv ?_ |apply qn |apply qs |apply qr |refine qe ?_ |(refine AD rfl ?_ ?_ <;> intro _ <;> try (exfalso; omega)) |apply qb |apply qk |apply qx |apply qt |(refine Aw rfl rfl rfl rfl rfl rfl rfl rfl (by omega) (by omega) ?_; intro _ _)|fail))
  ·rename_i hi c hc;rw [Int.toNat_natCast] at hc;refine Ca rfl rfl (hg c) rfl rfl rfl (AB _) ?_;refine ql eI [f c] ?_;refine qa (hby := (by dsimp only [List.length_nil, List.length_cons]; omega)) (hm := (by simp; omega)) (r := ?_);(repeat' (first |refine qv ?_ |apply qn |apply qr |refine qw ?_|fail));refine LoopEnd.of (i + 1) (by omega) (by omega) ?_;refine Ent.of [(5, 19)] ?_ ?_ rfl rfl;(repeat' (first |exact True.intro |refine ⟨⟨AA _, rfl⟩, ?_⟩ |refine ⟨⟨⟨_, rfl, BLe.row ?_⟩, rfl⟩, ?_⟩|fail));exact (map_take_succ hc).symm
  ·rename_i hi;refine Ap (Ent.freeze 5 rfl) ?_;refine RetOk.of rfl (AV.Le.sl ?_);rw [List.take_of_length_le (by omega)]
abbrev nB1 (i : Nat) : List (AL.Id × Bx) := [(904, .cells [aN i] 3)]
theorem hColumn1_ok (g : FuncId) (i0 : Nat) (f : Int × List Int → Int) (L : List (Int × List Int)) (hL : L.length ≤ 1000000) (hg : ∀ c ∈ L, IoFn Tryz.prog g ([aSt c.1 c.2] ++ [.ptr 904 0]) (nB1 i0) (.ret (aN (f c))) (nB1 i0)) : IoFn Tryz.prog 92 [.sl 2 eSt L, .fn g [.ptr 904 0]] (nB1 i0) (.ret (aI (L.map f))) (nB1 i0) := by
 refine AG Tryz.func92 rfl Tryz.ntmps92 rfl rfl rfl ?_;(repeat' (first |refine qv ?_ |apply qn |apply qs |apply qr |apply qb));refine Am (Dh 5 805 rfl rfl 1 eI 3) ?_;refine AWP.loop (G := Nat) (fun i => i ≤ L.length) (fun i => AU [904] [(1, .fn g [.ptr 904 0]), (5, .row 5), (8, .sl 2 eSt L), (9, aN L.length), (10, aN i)] (nB1 i0 ++ [(5, .row 1 eI ((L.take i).map f) 3)])) (fun i => L.length - i) 0 (by omega) ?_ ?_
 ·refine Ent.of [(5, 805)] ?_ ?_ rfl rfl;(repeat' (first |exact True.intro |refine ⟨⟨AA _, rfl⟩, ?_⟩ |refine ⟨⟨⟨_, rfl, BLe.cells (AB _)⟩, rfl⟩, ?_⟩ |refine ⟨⟨⟨_, rfl, BLe.row rfl⟩, rfl⟩, ?_⟩|fail))
 ·intro i k0
  have hll : ((L.take i).map f).length = i := by simp; omega
  (repeat' (first |refine qv ?_ |apply qn |apply qs |apply qr |refine qe ?_ |(refine AD rfl ?_ ?_ <;> intro _ <;> try (exfalso; omega)) |apply qb |apply qk |apply qx |apply qt |(refine Aw rfl rfl rfl rfl rfl rfl rfl rfl (by omega) (by omega) ?_; intro _ _)|fail))
  ·rename_i hi c hc;rw [Int.toNat_natCast] at hc;refine Fl.ioVR rfl rfl [] (hg c (List.mem_of_getElem? hc)) rfl rfl (AB _) rfl ⟨⟨⟨_, rfl, BLe.cells (AB _)⟩, rfl⟩, trivial⟩ ⟨rfl, trivial⟩ rfl rfl rfl rfl ?_;refine ql eI [f c] ?_;refine qa (hby := (by dsimp only [List.length_nil, List.length_cons]; omega)) (hm := (by simp; omega)) (r := ?_);(repeat' (first |refine qv ?_ |apply qn |apply qr |refine qw ?_|fail));refine LoopEnd.of (i + 1) (by omega) (by omega) ?_;refine Ent.of [(5, 19)] ?_ ?_ rfl rfl;(repeat' (first |exact True.intro |refine ⟨⟨AA _, rfl⟩, ?_⟩ |refine ⟨⟨⟨_, rfl, BLe.cells (AB _)⟩, rfl⟩, ?_⟩ |refine ⟨⟨⟨_, rfl, BLe.row ?_⟩, rfl⟩, ?_⟩|fail));exact (map_take_succ hc).symm
  ·rename_i hi;refine ⟨⟨[], _, _, Ent.freeze 5 rfl, rfl, AV.Le.sl ?_, rfl, ⟨⟨⟨_, rfl, BLe.cells (AB _)⟩, rfl⟩, trivial⟩, rfl, rfl⟩⟩;rw [List.take_of_length_le (by omega)]
theorem tell2_ok (c : Int × List Int) : PureFn Tryz.prog 95 [aSt c.1 c.2] (aN 1) := by
 refine AC Tryz.func95 rfl Tryz.ntmps95 rfl rfl ?_;(repeat' (first |refine qv ?_ |apply qn |apply qs |apply qr |refine qe ?_ |apply qt));exact RetOk.of rfl (AA _)
theorem tell3_ok (i0 : Nat) (c : Int × List Int) : IoFn Tryz.prog 97 ([aSt c.1 c.2] ++ [.ptr 904 0]) (nB1 i0) (.ret (aN (if c.1 = i0 then 1 else 0))) (nB1 i0) := by
 refine AG Tryz.func97 rfl Tryz.ntmps97 rfl rfl rfl ?_;(repeat' (first |refine qv ?_ |apply qn |apply qs |apply qr |refine qe ?_ |(refine AD rfl ?_ ?_ <;> intro _ <;> try (exfalso; omega)) |apply qk |apply qt))
 ·rename_i h;rw [if_pos h];exact ⟨⟨[], _, _, AK _ _ _, rfl, AA _, rfl, ⟨⟨⟨_, rfl, BLe.cells (AB _)⟩, rfl⟩, trivial⟩, rfl, rfl⟩⟩
 ·rename_i h;rw [if_neg h];exact ⟨⟨[], _, _, AK _ _ _, rfl, AA _, rfl, ⟨⟨⟨_, rfl, BLe.cells (AB _)⟩, rfl⟩, trivial⟩, rfl, rfl⟩⟩
theorem tell4_ok (j0 : Nat) (c : Int × List Int) (v : Int) (hv : c.2[Int.toNat (j0 : Int)]? = some v) : IoFn Tryz.prog 99 ([aSt c.1 c.2] ++ [.ptr 904 0]) (nB1 j0) (.ret (aN v)) (nB1 j0) := by
 refine AG Tryz.func99 rfl Tryz.ntmps99 rfl rfl rfl ?_
 have hl : (j0 : Int) < c.2.length := by have := (List.getElem?_eq_some_iff.1 hv).1; omega
 (repeat' (first |refine qv ?_ |apply qn |apply qs |apply qr |refine qe ?_ |apply qt |refine qK ?_|fail));exact ⟨⟨[], _, _, AK _ _ _, rfl, AA _, rfl, ⟨⟨⟨_, rfl, BLe.cells (AB _)⟩, rfl⟩, trivial⟩, rfl, rfl⟩⟩
end Go.Proofs.YtmmfloplhopioaaGreat
/- A bit of a list of words; digits az bits. Plain. -/
namespace Go.AL
theorem set_bit {ws : List Int} (hw : WOk ws) {i : Nat} (hi : i / 32 < ws.length) (hlt : val ws < 2 ^ i) : ∃ w, ws[i / 32]? = some w ∧ 0 ≤ w ∧ w < 2 ^ (i % 32) ∧ WOk (ws.set (i / 32) (w + 2 ^ (i % 32))) ∧ val (ws.set (i / 32) (w + 2 ^ (i % 32))) = val ws + 2 ^ i := by
 obtain ⟨k, hk⟩ : ∃ k, k = i / 32 := ⟨_, rfl⟩;obtain ⟨j, hj⟩ : ∃ j, j = i % 32 := ⟨_, rfl⟩;rw [← hk] at hi ⊢;rw [← hj]
 have hij : i = 32 * k + j := by omega
 obtain ⟨w, hwk⟩ : ∃ w, ws[k]? = some w := ⟨_, List.getElem?_eq_getElem hi⟩
 have hsp : ws = ws.take k ++ w :: ws.drop (k + 1) := by
  have h1 := (List.take_append_drop k ws).symm;rw [List.drop_eq_getElem_cons hi, (List.getElem?_eq_some_iff.1 hwk).2] at h1;exact h1
 have hset : ∀ v, ws.set k v = ws.take k ++ v :: ws.drop (k + 1) := fun v => by
  rw [List.set_eq_take_append_cons_drop, if_pos hi]
 have hlen : (ws.take k).length = k := by rw [List.length_take]; omega
 have hv : val ws = val (ws.take k) + BB k * (w + 4294967296 * val (ws.drop (k + 1))) := by
  have h2 := congrArg val hsp;rw [Cd, hlen, val] at h2;exact h2
 have hvs : ∀ v, val (ws.set k v) = val (ws.take k) + BB k * (v + 4294967296 * val (ws.drop (k + 1))) := fun v => by
  rw [hset, Cd, hlen, val]
 have h0 := As (hw.take k);have h1 := As (hw.drop (k + 1));have hw0 := hw w (List.mem_of_getElem? hwk)
 have hp : (2 : Int) ^ i = BB k * 2 ^ j := by rw [BB_pow, ← Int.pow_add, hij]
 have hB := Bc k
 have hlt2 : w + 4294967296 * val (ws.drop (k + 1)) < 2 ^ j := by
  rcases Int.lt_or_le (w + 4294967296 * val (ws.drop (k + 1))) (2 ^ j) with h | h
  ·exact h
  ·have := Int.mul_le_mul_of_nonneg_left h (Int.le_of_lt hB);rw [← hp] at this;omega
 have hj32 : (2 : Int) ^ j ≤ 2147483648 := by
  have := DS (x := 2) (by omega) (show j ≤ 31 by omega)
  have e : (2 : Int) ^ 31 = 2147483648 := by decide
  omega
 refine ⟨w, hwk, hw0.1, by omega, hw.set k (by have := Int.pow_pos (n := 2) (m := j) (by omega); omega) (by omega), ?_⟩;rw [hvs, hv, hp, Int.mul_add, Int.mul_add, Int.mul_add];omega
theorem low_succ (d k : Nat) : d % 2 ^ (k + 1) = d % 2 ^ k + (if d.testBit k then 2 ^ k else 0) := by
 rw [Nat.pow_succ, Nat.mod_mul, Nat.testBit_eq_decide_div_mod_eq];by_cases h : d / 2 ^ k % 2 = 1
 ·rw [h]; simp
 ·have : d / 2 ^ k % 2 = 0 := by omega
  rw [this]; simp
theorem low_all {d k : Nat} (h : d / 2 ^ k = 0) : d % 2 ^ k = d := by
 rcases Nat.div_eq_zero_iff.1 h with h | h
 ·exact absurd h (Nat.pos_iff_ne_zero.1 (Nat.two_pow_pos k))
 ·exact Nat.mod_eq_of_lt h
end Go.AL
/- history's digits. -/
namespace Go.AL
theorem WOk_zeros (n : Nat) : WOk (List.replicate n 0) := fun w hw => by
 rw [List.eq_of_mem_replicate hw]; omega
abbrev dgW (bits n : Nat) : Nat := (n * bits + 63) / 32 + 2
end Go.AL
namespace Go.Proofs.YtmmfloplhopioaaGreat
open Go.AL
set_option maxHeartbeats 1000000 in
theorem digits_ok (bits n : Nat) (f : Nat → Nat) (hb : bits ≤ 1000000) (hn : n ≤ 1000000) (hnb : n * bits ≤ 3000000) (hf : ∀ t, t < n → f t < 2 ^ 41 ∧ f t < 2 ^ bits) : PureFn Tryz.prog 91 [aN bits, aI (rgL n f)] (aX ((ds (2 ^ bits) n f : Nat) : Int)) := by
 refine AC Tryz.func91 rfl Tryz.ntmps91 rfl rfl ?_;obtain ⟨l, el⟩ : ∃ l, l = rgL n f := ⟨_, rfl⟩
 have hlen : l.length = n := by rw [el, BL]
 have hget : ∀ t, t < n → l[t]? = some ((f t : Nat) : Int) := fun t ht => by rw [el]; exact CE ht
 rw [← el];obtain ⟨NB, eNB⟩ : ∃ NB, NB = n * bits := ⟨_, rfl⟩
 have hnb' : (l.length : Int) * (bits : Int) = (NB : Int) := by rw [hlen, eNB, Int.natCast_mul]
 have hW : dgW bits n = (NB + 63) / 32 + 2 := by rw [eNB]
 have hA : ∀ t : Nat, t < n → t * bits + bits ≤ NB := fun t ht => by rw [eNB]; have := Nat.mul_le_mul_right bits (show t + 1 ≤ n from ht); rw [Nat.succ_mul] at this; exact this
 rw [← eNB] at hnb;refine AE ?_;(repeat' (first |apply qn |apply qr |refine qe ?_|fail));refine ⟨AE ?_⟩;(repeat' (first |refine qv ?_ |apply qn |apply qr |refine qw ?_ |refine Fl.w rfl rfl rfl ⟨by omega, by omega, by dsimp only [hiK]; omega⟩ ?_ |refine Bp rfl rfl rfl rfl rfl rfl rfl rfl rfl rfl eW 0 (by exact AB _) (by rfl) (by first | omega | (dsimp only; omega)) (by first | omega | (dsimp only; omega)) (by first | omega | (dsimp only; omega)) ?_|fail));refine ⟨AE ?_⟩;(repeat' (first |refine qv ?_ |apply qn |apply qs |apply qr |apply qb));refine AWP.loop (G := Nat × List Int) (fun (t, ws) => t ≤ n ∧ WOk ws ∧ ws.length = dgW bits n ∧ val ws = ((ds (2 ^ bits) t f : Nat) : Int)) (fun (t, ws) => AU [] [(0, aN bits), (4, .ptr 4 0), (5, .row 18), (19, aI l), (20, aN n), (21, aN t)] [(4, .cells [aB false, .v (.slice none 0 0)] 48), (18, .row 1 eW ws 94)]) (fun (t, _) => n - t) (0, List.replicate (dgW bits n) 0) ⟨by omega, WOk_zeros _, List.length_replicate, by rw [val_zeros]; rfl⟩ ?_ ?_
 ·refine Ent.of [] ?_ ?_ rfl rfl;(repeat' (first |exact True.intro |refine ⟨⟨AA _, rfl⟩, ?_⟩ |refine ⟨⟨⟨_, rfl, BLe.cells (AB _)⟩, rfl⟩, ?_⟩ |refine ⟨⟨⟨_, rfl, BLe.row ?_⟩, rfl⟩, ?_⟩ |refine ⟨⟨AV.Le.int ?_, rfl⟩, ?_⟩|fail))
  ·omega
  ·congr 1; omega
 ·intro ⟨t, ws⟩ ⟨k0, k1, k2, k3⟩;(repeat' (first |refine qv ?_ |apply qn |apply qs |apply qr |(refine AD rfl ?_ ?_ <;> intro _ <;> try (exfalso; omega)) |apply qb |apply qk |apply qx |(refine Aw rfl rfl rfl rfl rfl rfl rfl rfl (by omega) (by omega) ?_; intro _ _)|fail))
  ·rename_i hi d hd;rw [Int.toNat_natCast, hget t (by omega)] at hd;injection hd with hd;subst hd;have hAt := hA t (by omega);obtain ⟨hf1, hf2⟩ := hf t (by omega);obtain ⟨A, eA⟩ : ∃ A, A = t * bits := ⟨_, rfl⟩
   have eA' : (t : Int) * (bits : Int) = (A : Int) := by rw [eA, Int.natCast_mul]
   rw [← eA] at hAt;(repeat' (first |refine qv ?_ |apply qn |apply qs |apply qr |refine qw ?_ |apply qb));refine AWP.loop (G := Nat × List Int) (fun (k, vs) => k ≤ 41 ∧ k ≤ bits ∧ WOk vs ∧ vs.length = dgW bits n ∧ val vs = ((ds (2 ^ bits) t f + f t % 2 ^ k * 2 ^ A : Nat) : Int)) (fun (k, vs) => AU [] [(0, aN bits), (4, .ptr 4 0), (5, .row 18), (7, aN (f t)), (8, aN A), (9, aN k), (19, aI l), (20, aN n), (21, aN t)] [(4, .cells [aB false, .v (.slice none 0 0)] 48), (18, .row 1 eW vs 94)]) (fun (k, _) => 41 - k) (0, ws) ⟨by omega, by omega, k1, k2, by rw [k3, Nat.pow_zero, Nat.mod_one, Nat.zero_mul, Nat.add_zero]⟩ ?_ ?_
   ·refine Ent.of [] ?_ ?_ rfl rfl;(repeat' (first |exact True.intro |refine ⟨⟨AA _, rfl⟩, ?_⟩ |refine ⟨⟨⟨_, rfl, BLe.cells (AB _)⟩, rfl⟩, ?_⟩ |refine ⟨⟨⟨_, rfl, BLe.row rfl⟩, rfl⟩, ?_⟩ |refine ⟨⟨AV.Le.int ?_, rfl⟩, ?_⟩|fail));exact eA'
   ·intro ⟨k, vs⟩ ⟨q0, q1, q2, q3, q4⟩;obtain ⟨q, hq⟩ : ∃ q, q = f t / 2 ^ k := ⟨_, rfl⟩
    have ediv : ((f t : Nat) : Int) / 2 ^ (Int.toNat (k : Int)) = (q : Int) := by
     rw [Int.toNat_natCast, hq, Int.natCast_ediv, Int.natCast_pow]; rfl
    have hq1 : q ≤ f t := by rw [hq]; exact Nat.div_le_self _ _
    have hq2 : q ≠ 0 → k < bits ∧ k < 41 := fun h => by
     have h1 : 2 ^ k ≤ f t := by
      rcases Nat.lt_or_ge (f t) (2 ^ k) with h1 | h1
      ·exact absurd (by rw [hq]; exact Nat.div_eq_of_lt h1) h
      ·exact h1
     have e1 := Nat.lt_of_le_of_lt h1 hf1;have e2 := Nat.lt_of_le_of_lt h1 hf2;rw [Nat.pow_lt_pow_iff_right (by omega)] at e1 e2;exact ⟨e2, e1⟩
    have hdv0 : 0 ≤ ((f t : Nat) : Int) / 2 ^ (Int.toNat (k : Int)) := by rw [ediv]; omega
    have hdv1 : ((f t : Nat) : Int) / 2 ^ (Int.toNat (k : Int)) ≤ 2199023255552 := by rw [ediv]; omega
    (repeat' (first |refine qv ?_ |apply qn |apply qs |apply qr |refine qw ?_ |refine Fl.w rfl rfl rfl ⟨by omega, by omega, by dsimp only [hiK]; omega⟩ ?_ |(refine AD rfl ?_ ?_ <;> intro _ <;> try (exfalso; omega)) |(refine Aa rfl ?_ ?_ <;> intro _ <;> try (exfalso; omega)) |apply qb |apply qk |apply qx |refine Aq rfl rfl rfl rfl rfl rfl rfl rfl (by omega) (by first | omega | (simp; omega)) ?_ |(refine Fl.rldW rfl rfl rfl rfl rfl rfl rfl (fun _ => rfl) (fun _ => rfl) (by first | omega | (simp; omega)) (by assumption) ?_; intro _ _ _ _) |refine A9 rfl rfl rfl rfl rfl rfl rfl rfl rfl rfl rfl (AB _) rfl (by first | omega | (simp; omega)) ?_|fail))
    ·rename_i g1 g2 w hw hw0 hw1;rw [ediv] at g1 g2;rw [bitN_and1 (by omega)] at g2;obtain ⟨p1, p2⟩ := hq2 (by omega);have hlow : f t % 2 ^ k < 2 ^ k := Nat.mod_lt _ (Nat.two_pow_pos k)
     have hA2 : (2 ^ bits) ^ t = 2 ^ A := by rw [eA, ← Nat.pow_mul, Nat.mul_comm]
     have hds : ds (2 ^ bits) t f < 2 ^ A := by
      rw [← hA2];exact ds_lt fun u hu => (hf u (by omega)).2
     have hlt : ds (2 ^ bits) t f + f t % 2 ^ k * 2 ^ A < 2 ^ (A + k) := by
      have h1 := Nat.mul_le_mul_right (2 ^ A) (show f t % 2 ^ k + 1 ≤ 2 ^ k from hlow);rw [Nat.add_mul, Nat.one_mul] at h1;rw [Nat.pow_add, Nat.mul_comm (2 ^ A)];omega
     obtain ⟨w', b1, b2, b3, b4, b5⟩ := set_bit (i := A + k) q2 (by omega) (by
      rw [q4]
      have : ((2 ^ (A + k) : Nat) : Int) = 2 ^ (A + k) := by rw [Int.natCast_pow]; rfl
      omega)
     have hwi : (((A : Int) + (k : Int)) / 32).toNat = (A + k) / 32 := by omega
     have hwm : (((A : Int) + (k : Int)) % 32).toNat = (A + k) % 32 := by omega
     rw [hwi] at hw;rw [b1] at hw;injection hw with hw;subst hw;have hor := (or_carry (c := w') (x := 1) (k := (A + k) % 32) (by omega) b2 b3 (by omega) (by omega)).1
     have hp : (1 : Int) * 2 ^ ((A + k) % 32) % 4294967296 = 2 ^ ((A + k) % 32) := by
      rw [Int.one_mul];have := DS (x := 2) (by omega) (show (A + k) % 32 ≤ 31 by omega)
      have e : (2 : Int) ^ 31 = 2147483648 := by decide
      have := Int.pow_pos (n := 2) (m := (A + k) % 32) (by omega);omega
     rw [hp] at hor;refine LoopEnd.of (k + 1, vs.set ((A + k) / 32) (w' + 2 ^ ((A + k) % 32))) ⟨by omega, by omega, b4, by rw [List.length_set]; exact q3, ?_⟩ (by simp only; omega) ?_
     ·rw [b5, q4, low_succ, if_pos (by rw [Nat.testBit_eq_decide_div_mod_eq, ← hq]; simp; omega), Nat.add_mul, ← Nat.pow_add, Nat.add_comm k A]
      have : ((2 ^ (A + k) : Nat) : Int) = 2 ^ (A + k) := by rw [Int.natCast_pow]; rfl
      omega
     ·refine Ent.of [] ?_ ?_ rfl rfl;(repeat' (first |exact True.intro |refine ⟨⟨AA _, rfl⟩, ?_⟩ |refine ⟨⟨⟨_, rfl, BLe.cells (AB _)⟩, rfl⟩, ?_⟩ |refine ⟨⟨⟨_, rfl, BLe.row ?_⟩, rfl⟩, ?_⟩|fail));rw [hwi, hwm, hp, hor]
    ·rename_i g1 g2;rw [ediv] at g1 g2;rw [bitN_and1 (by omega)] at g2;obtain ⟨p1, p2⟩ := hq2 (by omega);refine LoopEnd.of (k + 1, vs) ⟨by omega, by omega, q2, q3, ?_⟩ (by simp only; omega) ?_
     ·rw [q4, low_succ, if_neg (by rw [Nat.testBit_eq_decide_div_mod_eq, ← hq]; simp; omega), Nat.add_zero]
     ·refine Ent.of [] ?_ ?_ rfl rfl;(repeat' (first |exact True.intro |refine ⟨⟨AA _, rfl⟩, ?_⟩ |refine ⟨⟨⟨_, rfl, BLe.cells (AB _)⟩, rfl⟩, ?_⟩ |refine ⟨⟨⟨_, rfl, BLe.row rfl⟩, rfl⟩, ?_⟩|fail))
    ·rename_i g1;rw [ediv] at g1
     have hq0 : f t / 2 ^ k = 0 := by omega
     rw [low_all hq0] at q4;refine LoopEnd.of (t + 1, vs) ⟨by omega, q2, q3, ?_⟩ (by simp only; omega) ?_
     ·rw [q4, DZ, eA, Nat.mul_comm t bits, Nat.pow_mul]
     ·refine Ent.of [] ?_ ?_ rfl rfl;(repeat' (first |exact True.intro |refine ⟨⟨AA _, rfl⟩, ?_⟩ |refine ⟨⟨⟨_, rfl, BLe.cells (AB _)⟩, rfl⟩, ?_⟩ |refine ⟨⟨⟨_, rfl, BLe.row rfl⟩, rfl⟩, ?_⟩|fail))
  ·rename_i hn2
   have htn : t = n := by omega
   subst htn;refine ⟨AE ?_⟩;refine Am (Ent.freeze 18 rfl) ?_;(repeat' (first |refine qv ?_ |apply qn |apply qr));refine ⟨AWP.seq (AWP.block ?_)⟩
   have hws : (ws.length : Int) ≤ 200000 := by omega
   have fin : ∀ v : List Int, v = toW (val ws) → LeL [AV.v (.bool false), aW v] [aB (decide (((ds (2 ^ bits) t f : Nat) : Int) < 0)), aW (toW (((ds (2 ^ bits) t f : Nat) : Int).natAbs))] := fun v hv => by
    rw [hv, k3, Int.natAbs_natCast, show decide (((ds (2 ^ bits) t f : Nat) : Int) < 0) = false from decide_eq_false (by omega)];exact AB _
   refine AWP.loop (G := Int) (fun c => 0 ≤ c ∧ c ≤ ws.length ∧ Az (ws.take c.toNat) = Az ws) (fun c => AU [] [(4, .ptr 4 0), (5, aW ws), (10, aN c)] [(4, .cells [aB false, .v (.slice none 0 0)] 48)]) (fun c => c.toNat) (ws.length : Int) ⟨by omega, by omega, by simp⟩ ?_ ?_
   ·refine Ent.of [] ?_ ?_ rfl rfl;(repeat' (first |exact True.intro |refine ⟨⟨AA _, rfl⟩, ?_⟩ |refine ⟨⟨⟨_, rfl, BLe.cells (AB _)⟩, rfl⟩, ?_⟩|fail))
   ·intro c ⟨c0, c1, c2⟩;(repeat' (first |refine qv ?_ |apply qn |apply qs |apply qr |refine qw ?_ |refine qe ?_ |refine Fl.skip rfl rfl ?_ |refine AF rfl ?_ |(refine AD rfl ?_ ?_ <;> intro _ <;> try (exfalso; omega)) |apply qb |apply qk |apply qx |apply qt |(refine B5 rfl rfl rfl rfl rfl rfl rfl rfl (by omega) (by omega) (by assumption) ?_; intro _ _ _ _) |(refine AH rfl rfl ?_ ?_ <;> intro _ <;> try (exfalso; omega))))
    ·rename_i h0 e hx hx0 hx1 hz;subst hz;refine LoopEnd.of (c - 1) ⟨by omega, by omega, ?_⟩ (by omega) ?_
     ·rw [← c2, trimL_take0 (by omega) hx]
     ·refine Ent.of [] ?_ ?_ rfl rfl;(repeat' (first |exact True.intro |refine ⟨⟨AA _, rfl⟩, ?_⟩ |refine ⟨⟨⟨_, rfl, BLe.cells (AB _)⟩, rfl⟩, ?_⟩|fail))
    ·rename_i h0 e hx hx0 hx1 hz;refine RetOk.of rfl (AV.Le.agg (fin _ ?_));rw [← CA k1, ← c2, trimL_take1 (by omega) hx hz]
    ·rename_i h0
     have h0 : c = 0 := by omega
     subst h0;refine RetOk.of rfl (AV.Le.agg (fin _ ?_));rw [← CA k1, ← c2]; simp [Az]
end Go.Proofs.YtmmfloplhopioaaGreat
/- The program's polynomials and the reference's are the same. Plain. -/
namespace Go.AL
section
variable {m : MZ} {x : List Int}
theorem sums3 {V d c n d' c' n' d2 c2 n2 : Nat} {p q r : List UT} (hp : SzU V d c n p) (_ : SzU V d' c' n' q) (_ : SzU V d2 c2 n2 r) : A5 [] [p, q, r] = addL (addL p q) r := by
 show addL (addL (addL [] p) q) r = _;rw [add_nil_l hp.can]
end
end Go.AL
/- What the terms of built polynomials come to, at most. Plain. -/
namespace Go.AL
theorem Au (X : List Int) (u : UT) (p : List UT) : auv X (u :: p) = ((u.1 * AW X u.2).natAbs : Int) + auv X p := rfl
theorem auv_nn (X : List Int) : ∀ p : List UT, 0 ≤ auv X p
 | [] => by simp [auv, sumL]
 | u :: p => by rw [Au]; have := auv_nn X p; omega
theorem Ee (X : List Int) : ∀ p q : List UT, auv X (p ++ q) = auv X p + auv X q
 | [], q => by simp [auv, sumL]
 | u :: p, q => by rw [List.cons_append, Au, Au, Ee X p q]; omega
theorem auv_insU (X : List Int) (u : UT) : ∀ l : List UT, auv X (insU u l) ≤ ((u.1 * AW X u.2).natAbs : Int) + auv X l
 | [] => by
  unfold insU;split
  ·simp [auv, sumL]
  ·rw [Au]; exact Int.le_refl _
 | v :: l => by
  have ih := auv_insU X u l;unfold insU;split
  ·split
   ·rw [Au]; omega
   ·rw [Au, Au]; exact Int.le_refl _
  ·split
   ·rename_i e
    have hs : ((u.1 + v.1) * AW X u.2).natAbs ≤ (u.1 * AW X u.2).natAbs + (v.1 * AW X v.2).natAbs := by
     rw [← e, Int.add_mul]; exact Int.natAbs_add_le _ _
    split
    ·rw [Au]; omega
    ·rw [Au, Au];show (((u.1 + v.1) * AW X u.2).natAbs : Int) + auv X l ≤ _;omega
   ·rw [Au, Au]; omega
theorem auv_canU (X : List Int) : ∀ us : List UT, auv X (canU us) ≤ auv X us
 | [] => Int.le_refl _
 | u :: us => by
  have h1 := auv_canU X us;have h2 := auv_insU X u (canU us);show auv X (insU u (canU us)) ≤ _;rw [Au]; omega
theorem auv_scale (X : List Int) (k : Int) : ∀ q : List UT, auv X (q.map fun u => (u.1 * k, u.2)) = auv X q * (k.natAbs : Int)
 | [] => by simp [auv, sumL]
 | u :: q => by
  rw [List.map_cons, Au, Au, auv_scale X k q, Int.add_mul];congr 1;show ((u.1 * k * AW X u.2).natAbs : Int) = _;rw [show u.1 * k * AW X u.2 = u.1 * AW X u.2 * k by grind, Int.natAbs_mul];simp
theorem auv_add (X : List Int) (p q : List UT) : auv X (addL p q) ≤ auv X p + auv X q := by
 have h := auv_canU X (Bk 1 p q);unfold addL;unfold Bk at h ⊢;rw [Ee, auv_scale] at h;simpa using h
theorem auv_sub (X : List Int) (p q : List UT) : auv X (subL p q) ≤ auv X p + auv X q := by
 have h := auv_canU X (Bk (-1) p q);unfold subL;unfold Bk at h ⊢;rw [Ee, auv_scale] at h;simpa using h
theorem auv_times {V d c n : Nat} (X : List Int) (t : UT) (ht : t.2.length = V ∧ (∀ e ∈ t.2, 0 ≤ e) ∧ sumL t.2 ≤ 120) : ∀ {q : List UT}, (∀ u ∈ q, u.2.length = V ∧ (∀ e ∈ u.2, 0 ≤ e) ∧ sumL u.2 ≤ 120) → auv X (q.map fun u => (t.1 * u.1, addE t.2 u.2)) = ((t.1 * AW X t.2).natAbs : Int) * auv X q
 | [], _ => by simp [auv, sumL]
 | u :: q, h => by
  have ih := auv_times (d := d) (c := c) (n := n) X t ht (q := q) fun v hv => h v (by simp [hv]);have hu := h u (by simp);have e1 := (ex_ok (d := 120) (by omega) ht).2.2;have e2 := (ex_ok (d := 120) (by omega) hu).2.2;rw [List.map_cons, Au, Au, ih, Int.mul_add];congr 1;show ((t.1 * u.1 * AW X (addE t.2 u.2)).natAbs : Int) = _;rw [prodE_add e1 e2 (by omega), show t.1 * u.1 * (AW X t.2 * AW X u.2) = t.1 * AW X t.2 * (u.1 * AW X u.2) by grind, Int.natAbs_mul];simp
theorem auv_mulUs {V d c n d' c' n' : Nat} (X : List Int) {q : List UT} (hq : SzU V d' c' n' q) (h2 : d' ≤ 120) (h1 : d ≤ 120) : ∀ {p : List UT}, (∀ u ∈ p, u.2.length = V ∧ (∀ e ∈ u.2, 0 ≤ e) ∧ sumL u.2 ≤ d) → auv X (Bu p q) = auv X p * auv X q
 | [], _ => by simp [Bu, auv, sumL]
 | t :: p, h => by
  have ih := auv_mulUs (c := c) (n := n) X hq h2 h1 (p := p) fun u hu => h u (by simp [hu]);have ht := h t (by simp);have e := auv_times (V := V) (d := d) (c := c) (n := n) X t ⟨ht.1, ht.2.1, by have := ht.2.2; omega⟩ (q := q) fun u hu => ⟨(hq.ex u hu).1, (hq.ex u hu).2.1, by have := (hq.ex u hu).2.2; omega⟩;unfold Bu at ih ⊢;rw [List.flatMap_cons, Ee, e, ih, Au, Int.add_mul]
theorem auv_mul {V d c n d' c' n' : Nat} (X : List Int) {p q : List UT} (hp : SzU V d c n p) (hq : SzU V d' c' n' q) (h1 : d ≤ 120) (h2 : d' ≤ 120) : auv X (C4 p q) ≤ auv X p * auv X q := by
 have h := auv_canU X (Bu p q);rw [auv_mulUs (d := d) (c := c) (n := n) X hq h2 h1 hp.ex] at h;exact h
theorem auv_con (X : List Int) (V : Nat) (k : Int) : auv X (conU V k) = (k.natAbs : Int) := by
 unfold conU;split
 ·rename_i h; subst h; simp [auv, sumL]
 ·rw [Au];show ((k * AW X (List.replicate V 0)).natAbs : Int) + auv X [] = _;rw [Dl];simp [auv, sumL]
theorem CG {X : List Int} {V i : Nat} (hX : X.length = V) (hi : i < V) (h0 : ∀ y ∈ X, 0 ≤ y) : auv X (varU V i) = X.getD i 0 := by
 have h := Cu hX hi;unfold varU uv at h;simp only [List.map_cons, List.map_nil, sumL] at h;unfold varU;rw [Au]
 have hg : 0 ≤ X.getD i 0 := by
  rw [List.getD_eq_getElem?_getD, List.getElem?_eq_getElem (by omega)];exact h0 _ (List.getElem_mem _)
 show ((1 * AW X (unU V i)).natAbs : Int) + 0 = _;omega
end Go.AL
/- The values of a history's links: how large they are. Plain. -/
namespace Go.AL
theorem ds_le {Q c : Nat} : ∀ {n : Nat} {d : Nat → Nat}, (∀ t, t < n → d t ≤ c) → ds Q n d ≤ c * ds Q n fun _ => 1
 | 0, _, _ => by simp [ds]
 | n + 1, d, h => by
  have h0 := h 0 (by omega);have ih := ds_le (Q := Q) (n := n) (d := fun t => d (t + 1)) fun t ht => h (t + 1) (by omega);have k := Nat.mul_le_mul_left Q ih;rw [ds, ds, Nat.mul_add, Nat.mul_one]
  have e : Q * (c * ds Q n fun _ => 1) = c * (Q * ds Q n fun _ => 1) := by
   rw [← Nat.mul_assoc, ← Nat.mul_assoc, Nat.mul_comm Q c]
  omega
section
variable {m : MZ} {x X : List Int}
structure HB (m : MZ) (X : List Int) (Q I W : Int) : Prop where
  len : X.length = m.V
  nn : ∀ y ∈ X, 0 ≤ y
  q2 : 2 ≤ Q
  i1 : 1 ≤ I
  qi : Q * I ≤ 2 * W
  x0 : X.getD 0 0 ≤ 4096
  x1 : 2 * X.getD 1 0 = Q
  x2 : X.getD 2 0 = I
  xl : ∀ i, i < m.l → X.getD (3 + i) 0 ≤ I
  xr : ∀ j, j < m.R → X.getD (3 + m.l + j) 0 ≤ 4096 * I
  xe : ∀ j, j < m.R → X.getD (3 + m.l + m.R + j) 0 ≤ 4096
theorem nn_get (h0 : ∀ y ∈ X, 0 ≤ y) (i : Nat) : 0 ≤ X.getD i 0 := by
 rw [List.getD_eq_getElem?_getD]
 cases h : X[i]? with
 | none => simp
 | some y => exact h0 y (List.mem_of_getElem? h)
variable {Q I W : Int}
theorem HB.le (h : HB m X Q I W) : I ≤ W ∧ Q ≤ 2 * W ∧ 1 ≤ W := by
 have h1 := h.q2;have h2 := h.i1;have h3 := h.qi;have k1 : 2 * I ≤ Q * I := Int.mul_le_mul_of_nonneg_right h1 (by omega);have k2 : Q * 1 ≤ Q * I := Int.mul_le_mul_of_nonneg_left h2 (by omega);omega
theorem auvQ (h : HB m X Q I W) (h6 : 6 ≤ m.V) : auv X (hsQ m.V) ≤ Q := by
 unfold hsQ;rw [Bs (SzU.con m.V 2)];refine Int.le_trans (auv_mul X (SzU.con m.V 2) (AP (V := m.V) (i := 1) (by omega)) (by omega) (by omega)) ?_;rw [auv_con, CG h.len (by omega) h.nn, show ((2 : Int).natAbs : Int) = 2 from rfl, h.x1];exact Int.le_refl _
theorem mul_le_both {a b c d : Int} (h1 : a ≤ c) (h2 : b ≤ d) (h3 : 0 ≤ b) (h4 : 0 ≤ c) : a * b ≤ c * d :=
 Int.le_trans (Int.mul_le_mul_of_nonneg_right h1 h3) (Int.mul_le_mul_of_nonneg_left h2 h4)
theorem auvMul {V d c n d' c' n' : Nat} {p q : List UT} {A B : Int} (hp : SzU V d c n p) (hq : SzU V d' c' n' q) (h1 : d ≤ 120) (h2 : d' ≤ 120) (ha : auv X p ≤ A) (hb : auv X q ≤ B) (h0 : 0 ≤ A) : auv X (C4 p q) ≤ A * B :=
 Int.le_trans (auv_mul X hp hq h1 h2) (mul_le_both ha hb (auv_nn X q) h0)
theorem auvAdd {p q : List UT} {A B : Int} (ha : auv X p ≤ A) (hb : auv X q ≤ B) : auv X (addL p q) ≤ A + B := by
 have := auv_add X p q;omega
theorem auvSub {p q : List UT} {A B : Int} (ha : auv X p ≤ A) (hb : auv X q ≤ B) : auv X (subL p q) ≤ A + B := by
 have := auv_sub X p q;omega
theorem auvAll (h : HB m X Q I W) (h6 : 6 ≤ m.V) : auv X (CW m.V) ≤ 1 + (Q + 1) * I := by
 have a := (BV h6).1;have b := a.sub (SzU.con m.V 1);have v := AP (V := m.V) (i := 2) (by omega);have q2 := h.q2;unfold CW;rw [Bs b, Co (SzU.con m.V 1) (b.mul v)];refine auvAdd (by rw [auv_con]; omega) (auvMul b v (by omega) (by omega) (auvSub (auvQ h h6) (by rw [auv_con]; omega)) ?_ (by omega));rw [CG h.len (by omega) h.nn, h.x2]; omega
theorem auvSum (h : HB m X Q I W) (c : IZ → Bool) : ∀ (xs : List IZ) {i : Nat} {acc : List UT} {k n : Nat}, SzU m.V 1 k n acc → i + xs.length ≤ m.l → auv X (BJ m.V c i xs acc) ≤ auv X acc + xs.length * I
 | [], i, acc, k, n, _, _ => by simp [BJ]
 | y :: ys, i, acc, k, n, ha, hi => by
  rw [List.length_cons] at hi;have hVe : m.V = 3 + m.l + 2 * m.R := rfl;have v := AP (V := m.V) (i := 3 + i) (by omega);have i1 := h.i1;rw [BJ, List.length_cons, show ((ys.length + 1 : Nat) : Int) * I = ys.length * I + I by rw [Int.natCast_add, Int.add_mul]; simp];split
  ·have hs : SzU m.V 1 (k + 1) (n + 1) (addL acc (varU m.V (3 + i))) := (ha.add v).mono (by omega) (by omega) (by omega);rw [Co ha v];have ih := auvSum h c ys (i := i + 1) hs (by omega);have e := auvAdd (X := X) (Int.le_refl (auv X acc)) (q := varU m.V (3 + i)) (B := I) (by rw [CG h.len (by omega) h.nn]; exact h.xl i (by omega));omega
  ·have ih := auvSum h c ys ha (i := i + 1) (by omega);omega
theorem auvSum0 (h : HB m X Q I W) (ok : OkMZ m) (c : IZ → Bool) : auv X (BJ m.V c 0 m.code (conU m.V 0)) ≤ 15 * I := by
 have e := auvSum h c m.code (i := 0) (SzU.con m.V 0 |>.mono (d' := 1) (by omega) (Nat.le_refl _) (Nat.le_refl _)) (by show 0 + m.code.length ≤ m.code.length; omega);rw [auv_con] at e;have hl : m.code.length ≤ 15 := ok.l15;have i1 := h.i1;have : (m.code.length : Int) * I ≤ 15 * I := Int.mul_le_mul_of_nonneg_right (by omega) (by omega);simp only [Int.natAbs_zero] at e;omega
theorem auvHere (h : HB m X Q I W) (h6 : 6 ≤ m.V) {i : Nat} (hi : i < m.l) : auv X (Bm m i) ≤ Q * I := by
 have a := (BV h6).1;have hVe : m.V = 3 + m.l + 2 * m.R := rfl;have v := AP (V := m.V) (i := 3 + i) (by omega);have q2 := h.q2;unfold Bm;rw [Bs a];exact auvMul a v (by omega) (by omega) (auvQ h h6) (by rw [CG h.len (by omega) h.nn]; exact h.xl i hi) (by omega)
theorem auvDoes (h : HB m X Q I W) (ok : OkMZ m) (op : Int) (j : Nat) : auv X (Bi m op j) ≤ 15 * (Q * I) := by
 have a := (BV ok.V6).1;have q2 := h.q2;unfold Bi;rw [Bs a];have := auvMul (X := X) a (EK ok (fun x => decide (x.op = op) && decide (x.rg = j))) (by omega) (by omega) (auvQ h ok.V6) (auvSum0 h ok _) (by omega);refine Int.le_trans this (Int.le_of_eq ?_);rw [← Int.mul_assoc, Int.mul_comm Q 15, Int.mul_assoc]
theorem auvL (h : HB m X Q I W) (ok : OkMZ m) {j : Nat} (hj : j < m.R) : auv X (hsL m j) ≤ 4096 * I + 4096 * (1 + (Q + 1) * I) := by
 have hVe : m.V = 3 + m.l + 2 * m.R := rfl;have a := AP (V := m.V) (i := 3 + m.l + j) (by omega);have b := AP (V := m.V) (i := 3 + m.l + m.R + j) (by omega);have c := (DY ok.V6).1;unfold hsL;rw [Bs b, Co a (b.mul c)];refine auvAdd (by rw [CG h.len (by omega) h.nn]; exact h.xr j hj) (auvMul b c (by omega) (by omega) (by rw [CG h.len (by omega) h.nn]; exact h.xe j hj) (auvAll h ok.V6) (by omega))
theorem auvR0 (h : HB m X Q I W) (ok : OkMZ m) (hx : OkIn m x) {j : Nat} (hj : j < m.R) : auv X (hsR0 m x j) ≤ 1000 + 4096 * (Q * I) + 15 * (Q * I) := by
 have hVe : m.V = 3 + m.l + 2 * m.R := rfl;have hb := getD_in hx j;have a := SzU.con m.V (x.getD j 0);have q := (BV ok.V6).1;have v := AP (V := m.V) (i := 3 + m.l + j) (by omega);have d := sz_does ok 0 j;have q2 := h.q2;unfold hsR0;rw [Bs q, sums3 a (q.mul v) d];refine auvAdd (auvAdd (by rw [auv_con]; omega) ?_) (auvDoes h ok 0 j);have := auvMul (X := X) q v (by omega) (by omega) (auvQ h ok.V6) (B := 4096 * I) (by rw [CG h.len (by omega) h.nn]; exact h.xr j hj) (by omega);refine Int.le_trans this (Int.le_of_eq ?_);rw [← Int.mul_assoc, Int.mul_comm Q 4096, Int.mul_assoc]
theorem hs_auv (h : HB m X Q I W) (ok : OkMZ m) (hx : OkIn m x) : ∀ k ∈ hsK m x, ∀ p ∈ k.2, auv X p ≤ 65536 * W := by
 obtain ⟨w1, w2, w3⟩ := h.le;obtain ⟨s1, s2, s3⟩ := Dx ok hx;have hV6 := ok.V6;have hVe : m.V = 3 + m.l + 2 * m.R := rfl;have q2 := h.q2;have i1 := h.i1;have qi := h.qi;have qi0 : 0 ≤ Q * I := Int.mul_nonneg (by omega) (by omega)
 have q1 : (Q + 1) * I = Q * I + I := by rw [Int.add_mul, Int.one_mul]
 have vl := fun i (hi : i < m.l) => show auv X (varU m.V (3 + i)) ≤ I by rw [CG h.len (by omega) h.nn]; exact h.xl i hi
 have vr := fun j (hj : j < m.R) => show auv X (varU m.V (3 + m.l + j)) ≤ 4096 * I by rw [CG h.len (by omega) h.nn]; exact h.xr j hj
 have v0 : auv X (varU m.V 0) ≤ 4096 := by rw [CG h.len (by omega) h.nn]; exact h.x0
 have v1 : auv X (varU m.V 1) ≤ Q := by rw [CG h.len (by omega) h.nn]; have := h.x1; have := nn_get h.nn 1; omega
 have v2 : auv X (varU m.V 2) ≤ I := by rw [CG h.len (by omega) h.nn, h.x2]; omega
 have cc := fun k : Int => auv_con X m.V k
 have sadd : ∀ k : Int, 0 ≤ k → k ≤ 5000 → auv X (A5 [] [varU m.V 0, conU m.V k]) ≤ 65536 * W := fun k k0 k1 => by
  rw [Co (AP (V := m.V) (i := 0) (by omega)) (SzU.con m.V k)];have := auvAdd v0 (Int.le_of_eq (cc k));omega
 have aQ := auvQ h hV6;have aA := auvAll h hV6;have aS := fun c => auvSum0 h ok c;rw [q1] at aA;intro l hl;simp only [hsK, List.mem_append, List.mem_map, List.mem_flatMap, List.mem_range] at hl;rcases hl with ((((hl | ⟨i, hi, rfl⟩) | hl) | ⟨j, hj, rfl⟩) | ⟨i, hi, hl⟩) | ⟨j, hj, rfl⟩
 ·simp only [hsA, List.mem_cons, List.not_mem_nil, or_false] at hl;rcases hl with rfl | rfl | rfl
  ·simp only [List.forall_mem_cons];exact ⟨by rw [cc]; omega, sadd _ (by omega) (by omega), by omega, by simp⟩
  ·simp only [List.forall_mem_cons];exact ⟨by omega, sadd 1 (by omega) (by omega), by omega, by simp⟩
  ·simp only [List.forall_mem_cons];exact ⟨by have := auvSub v2 (aS fun _ => true); omega, by simp⟩
 ·unfold hsB;simp only [List.forall_mem_cons];exact ⟨by have := vl i hi; omega, by omega, by simp⟩
 ·simp only [hsC, List.mem_cons, List.not_mem_nil, or_false] at hl;rcases hl with rfl | rfl
  ·simp only [List.forall_mem_cons];exact ⟨by rw [cc]; omega, by have := vl 0 ok.l1; simp only [Nat.add_zero] at this; omega, by simp⟩
  ·simp only [List.forall_mem_cons];exact ⟨by omega, by omega, by have := aS fun x => decide (x.op = 3); omega, by simp⟩
 ·unfold hsD;simp only [List.forall_mem_cons];refine ⟨by have := vr j hj; omega, ?_, by simp⟩;have a := (AP (V := m.V) (i := 1) (by omega)).sub (SzU.con m.V 1);rw [Bs a];have := auvMul a (AP (V := m.V) (i := 2) (by omega)) (by omega) (by omega) (auvSub v1 (Int.le_of_eq (cc 1))) v2 (by omega);have e : (Q + ((1 : Int).natAbs : Int)) * I = Q * I + I := q1;omega
 ·have hh := auvHere h hV6 hi;unfold hsGo at hl;split at hl
  ·simp at hl
  ·rename_i h3;rcases ok.ins i hi with k | ⟨⟨a1, a2⟩, ⟨b1, b2⟩, k⟩
   ·rw [k] at h3; exact absurd rfl h3
   have hR : ((m.R : Nat) : Int) = m.regs := by have := ok.r1; show ((m.regs.toNat : Nat) : Int) = _; omega
   have hb2 : (m.at i).nx < (m.l : Int) := b2;split at hl
   ·rename_i h2
    have hz : 0 ≤ (m.at i).zr ∧ (m.at i).zr < m.l := by
     rcases k with k | k
     ·exact ⟨k.2.1, k.2.2.1⟩
     ·omega
    simp only [List.mem_cons, List.not_mem_nil, or_false] at hl;have vn := AP (V := m.V) (i := 3 + (m.at i).nx.toNat) (by omega);have vz := AP (V := m.V) (i := 3 + (m.at i).zr.toNat) (by omega);have vrr := AP (V := m.V) (i := 3 + m.l + (m.at i).rg.toNat) (by omega);have vv2 := AP (V := m.V) (i := 2) (by omega);have q := (BV hV6).1;have un := vl (m.at i).nx.toNat (by omega);have uz := vl (m.at i).zr.toNat (by omega);have ur := vr (m.at i).rg.toNat (by omega);rcases hl with rfl | rfl
    ·simp only [List.forall_mem_cons];refine ⟨by omega, ?_, by simp⟩;rw [Co vn vz];have := auvAdd un uz;omega
    ·simp only [List.forall_mem_cons];refine ⟨by omega, ?_, by simp⟩;have e1 := q.mul vv2;unfold hsJmp;rw [Bs q, Bs (SzU.con m.V 2), Co vn e1];have k1 := auvMul (X := X) q vv2 (by omega) (by omega) aQ v2 (by omega);have k2 := auvMul (X := X) (SzU.con m.V 2) vrr (by omega) (by omega) (Int.le_of_eq (cc 2)) ur (by omega);have := auvSub (auvAdd un k1) k2
     have e : ((2 : Int).natAbs : Int) * (4096 * I) = 8192 * I := by rw [← Int.mul_assoc]; rfl
     omega
   ·simp only [List.mem_cons, List.not_mem_nil, or_false] at hl;subst hl;simp only [List.forall_mem_cons];exact ⟨by omega, by have := vl (m.at i).nx.toNat (by omega); omega, by simp⟩
 ·unfold hsF;simp only [List.forall_mem_cons];refine ⟨?_, by simp⟩;have k1 := auvL h ok hj;have k2 := auvR0 h ok hx hj;have k3 := auvDoes h ok 1 j;have := auvSub k1 (auvSub k2 k3);rw [q1] at this;omega
theorem fit_pow {v : Int} {e : Nat} (h : v.natAbs < 2 ^ e) (he : e ≤ 131072) : Fit v := by
 refine Fit.mk ?_;obtain ⟨E, hE⟩ : ∃ E, E = 32 * 4096 := ⟨_, rfl⟩;have h1 : 2 ^ e ≤ 2 ^ E := Nat.pow_le_pow_right (by omega) (by omega);rw [BB_pow, ← hE]
 have h2 : (2 : Int) ^ E = ((2 ^ E : Nat) : Int) := by rw [Int.natCast_pow]; rfl
 rw [h2];omega
theorem not_fit_pow {v : Int} {e : Nat} (h : 2 ^ e ≤ v.natAbs) (he : 131072 ≤ e) : ¬ Fit v := by
 intro hf;have hf := hf.lt;obtain ⟨E, hE⟩ : ∃ E, E = 32 * 4096 := ⟨_, rfl⟩;have h1 : 2 ^ E ≤ 2 ^ e := Nat.pow_le_pow_right (by omega) (by omega);rw [BB_pow, ← hE] at hf
 have h2 : (2 : Int) ^ E = ((2 ^ E : Nat) : Int) := by rw [Int.natCast_pow]; rfl
 rw [h2] at hf;omega
theorem hist_hb (ok : OkMZ m) (hx : OkIn m x) {s : Nat} {pl : Nat → Nat} {r : Nat → Nat → Nat} (hs : s ≤ 3000) (hr : ∀ t j, t ≤ s → r t j ≤ 4096) : HB m (BA m x s pl r) (2 * 2 ^ (s + (addZ m x).toNat) : Nat) (ds (2 * 2 ^ (s + (addZ m x).toNat)) (s + 1) fun _ => 1 : Nat) (2 ^ ((s + (addZ m x).toNat + 1) * (s + 1)) : Nat) := by
 obtain ⟨g0, g1, g2, g3, g4, g5⟩ := EC (m := m) (x := x) s pl r;obtain ⟨H, eH⟩ : ∃ H, H = 2 ^ (s + (addZ m x).toNat) := ⟨_, rfl⟩
 have hH : 1 ≤ H := by rw [eH]; exact Nat.one_le_two_pow
 have e := ds_ones (Q := 2 * H) (by omega) (s + 1)
 have eW : (2 * H) ^ (s + 1) = 2 ^ ((s + (addZ m x).toNat + 1) * (s + 1)) := by
  rw [eH, show 2 * 2 ^ (s + (addZ m x).toNat) = 2 ^ (s + (addZ m x).toNat + 1) by rw [Nat.pow_succ]; omega, ← Nat.pow_mul]
 rw [← eW, ← eH];rw [← eH] at g1 g2 g3 g4
 have i1 : 1 ≤ ds (2 * H) (s + 1) fun _ => 1 := by rw [ds]; omega
 refine ⟨CL _ _ _, histL_nn _ _ _, by omega, by omega, ?_, by rw [g0]; omega, by rw [g1]; omega, by rw [g2], fun i hi => ?_, fun j hj => ?_, fun j hj => ?_⟩
 ·have k : (2 * H - 1) * (ds (2 * H) (s + 1) fun _ => 1) = 2 * H * (ds (2 * H) (s + 1) fun _ => 1) - (ds (2 * H) (s + 1) fun _ => 1) := by rw [Nat.sub_mul, Nat.one_mul]
  have k2 : 2 * (ds (2 * H) (s + 1) fun _ => 1) ≤ 2 * H * (ds (2 * H) (s + 1) fun _ => 1) := Nat.mul_le_mul_right _ (by omega);rw [← Int.natCast_mul];omega
 ·rw [g3 i hi]
  have := ds_le (Q := 2 * H) (c := 1) (n := s + 1) (d := plD pl i) fun t _ => by unfold plD; split <;> omega
  omega
 ·rw [g4 j hj];have := ds_le (Q := 2 * H) (c := 4096) (n := s + 1) (d := fun t => r t j) fun t ht => hr t j (by omega);omega
 ·rw [g5 j hj];have := hr s j (Nat.le_refl _);omega
theorem hist_ev (ok : OkMZ m) (hx : OkIn m x) {s : Nat} {pl : Nat → Nat} {r : Nat → Nat → Nat} (hs : s ≤ 3000) (hr : ∀ t j, t ≤ s → r t j ≤ 4096) (hsz : (s + (addZ m x).toNat + 1) * (s + 1) ≤ 131032) : ∀ l ∈ (hsS m x).links, EvL (BA m x s pl r) l := by
 have hb := hist_hb (pl := pl) ok hx hs hr;have ha := hs_auv hb ok hx;have hsm := Cy ok hx;intro l hl;obtain ⟨k, hk, rfl⟩ := List.mem_map.1 hl;have hV := ok.V32;refine evL_linkU hb.len (fun p hp u hu => ?_) fun p hp => ?_
 ·have q := ((hsm k hk).2.2 p hp).ex u hu;exact ⟨q.1, (ex_ok (d := 4) (by omega) q).2.2⟩
 ·have a1 := ha k hk p hp;have a2 := auv_nn (BA m x s pl r) p;refine fit_pow (e := (s + (addZ m x).toNat + 1) * (s + 1) + 17) ?_ (by omega)
  have : 2 ^ ((s + (addZ m x).toNat + 1) * (s + 1) + 17) = 131072 * 2 ^ ((s + (addZ m x).toNat + 1) * (s + 1)) := by
   rw [Nat.pow_add]; exact Nat.mul_comm _ _
  rw [this];have : 1 ≤ 2 ^ ((s + (addZ m x).toNat + 1) * (s + 1)) := Nat.one_le_two_pow;omega
theorem hist_noev (ok : OkMZ m) (hx : OkIn m x) {s : Nat} {pl : Nat → Nat} {r : Nat → Nat → Nat} (hsz : 131072 ≤ (s + (addZ m x).toNat + 1) * (s + 1)) : ¬ ∀ l ∈ (hsS m x).links, EvL (BA m x s pl r) l := by
 intro h;have hsm := Cy ok hx
 have hk : ((2, [hsQ m.V, A5 [] [varU m.V 0, conU m.V 1], CW m.V]) : LkU) ∈ hsK m x := by
  simp only [hsK, List.mem_append];exact .inl (.inl (.inl (.inl (.inl (by simp [hsA])))))
 have e := lvals_fit (h _ (List.mem_map.2 ⟨_, hk, rfl⟩))
 rw [lvals_linkU (CL s pl r) (fun p hp u hu => by
  have q := ((hsm _ hk).2.2 p hp).ex u hu
  exact ⟨q.1, (ex_ok (d := 4) (by omega) q).2.2⟩)] at e
 have f := e (uv (BA m x s pl r) (CW m.V)) (by simp);rw [hsAll_val ok.V6 (by have := ok.V32; omega) (CL s pl r)] at f;obtain ⟨g0, g1, g2, g3, g4, g5⟩ := EC (m := m) (x := x) s pl r;rw [g1, g2] at f;obtain ⟨H, eH⟩ : ∃ H, H = 2 ^ (s + (addZ m x).toNat) := ⟨_, rfl⟩
 have hH : 1 ≤ H := by rw [eH]; exact Nat.one_le_two_pow
 have e := ds_ones (Q := 2 * H) (by omega) (s + 1)
 have eW : (2 * H) ^ (s + 1) = 2 ^ ((s + (addZ m x).toNat + 1) * (s + 1)) := by
  rw [eH, show 2 * 2 ^ (s + (addZ m x).toNat) = 2 ^ (s + (addZ m x).toNat + 1) by rw [Nat.pow_succ]; omega, ← Nat.pow_mul]
 rw [← eH] at f
 have hc : (1 : Int) + (2 * (H : Int) - 1) * ((ds (2 * H) (s + 1) fun _ => 1 : Nat) : Int) = ((2 ^ ((s + (addZ m x).toNat + 1) * (s + 1)) : Nat) : Int) := by
  rw [← eW, ← e, Int.natCast_add, Int.natCast_mul, show ((2 * H - 1 : Nat) : Int) = 2 * (H : Int) - 1 by omega]; rfl
 rw [hc] at f;exact not_fit_pow (by rw [Int.natAbs_natCast]; exact Nat.le_refl _) hsz f
end
end Go.AL
/- Validity of any many numbers. -/
namespace Go.Proofs.YtmmfloplhopioaaGreat
open Go.AL
end Go.Proofs.YtmmfloplhopioaaGreat
/- history's encode. -/
namespace Go.AL
abbrev hL (m : MZ) (x : List Int) (s : Nat) : List Int := BA m x s (fun t => (m.mach.F (inF x) t).1) (fun t => (m.mach.F (inF x) t).2)
theorem ED {l : List Int} {i k : Nat} {v : Int} (hi : i < l.length) : (l.set i v).getD k 0 = if k = i then v else l.getD k 0 := by
 rw [List.getD_eq_getElem?_getD, List.getElem?_set];by_cases h : i = k
 ·subst h;rw [if_pos rfl, if_pos hi, if_pos rfl]; rfl
 ·rw [if_neg h, if_neg (fun e => h e.symm), List.getD_eq_getElem?_getD]
theorem ext_getD {a b : List Int} (h : a.length = b.length) (hk : ∀ k, k < a.length → a.getD k 0 = b.getD k 0) : a = b := by
 refine List.ext_getElem? fun i => ?_;by_cases hi : i < a.length
 ·have := hk i hi;rw [List.getD_eq_getElem?_getD, List.getD_eq_getElem?_getD, List.getElem?_eq_getElem hi, List.getElem?_eq_getElem (by omega)] at this;rw [List.getElem?_eq_getElem hi, List.getElem?_eq_getElem (by omega)];exact congrArg some this
 ·rw [List.getElem?_eq_none (by omega), List.getElem?_eq_none (by omega)]
theorem stL_map {m : MZ} {x : List Int} {n : Nat} {f : Int × List Int → Int} {d : Nat → Nat} (h : ∀ t, t < n → f (stF m x t) = ((d t : Nat) : Int)) : (stL m x n).map f = rgL n d := by
 unfold stL rgL;rw [List.map_map];exact List.map_congr_left fun t ht => h t (List.mem_range.1 ht)
end Go.AL
namespace Go.Proofs.YtmmfloplhopioaaGreat
open Go.AL
abbrev eB1 (h : Nat) (L : List (Int × List Int)) (xs : List Int) : List (AL.Id × Bx) := [(900, .cells [aN h] 3), (901, .cells [.sl 2 eSt L] 30), (902, .cells [.row 903] 33), (903, .row 2 eX xs 48)]
theorem put_ok (g : FuncId) (f : Int × List Int → Int) (n : Nat) (d : Nat → Nat) (h : Nat) (L : List (Int × List Int)) (xs : List Int) (i : Nat) (hi : i < xs.length) (hg : ∀ c, PureFn Tryz.prog g [aSt c.1 c.2] (aN (f c))) (hm : L.map f = rgL n d) (hh : h ≤ 200000) (hn : n ≤ 1000000) (hL : L.length ≤ 1000000) (hnb : n * (h + 1) ≤ 3000000) (hd : ∀ t, t < n → d t < 2 ^ 41 ∧ d t < 2 ^ (h + 1)) :
  IoFn Tryz.prog 90 ([aN i, .fn g []] ++ [.ptr 900 0, .ptr 901 0, .ptr 902 0]) (eB1 h L xs) (.ret (.tup [])) (eB1 h L (xs.set i ((ds (2 ^ (h + 1)) n d : Nat) : Int))) := by
 refine AG Tryz.func90 rfl Tryz.ntmps90 rfl rfl rfl ?_;have c1 := hColumn_ok g f L hL hg;rw [hm] at c1;have c2 := digits_ok (h + 1) n d (by omega) hn hnb hd;(repeat' (first |refine qv ?_ |apply qr |refine qw ?_|fail));refine qc (c1) ?_;refine qc (c2) ?_;(repeat' (first |refine Fl.nil (fun _ => by kernel_rfl) ?_ |refine Aq rfl rfl rfl rfl rfl rfl rfl rfl (by omega) (by first | omega | (simp; omega)) ?_ |refine A9 rfl rfl rfl rfl rfl rfl rfl rfl rfl rfl rfl (AB _) rfl (by first | omega | (simp; omega)) ?_|fail));exact ⟨⟨[], _, _, AK _ _ _, rfl, AA _, rfl, ⟨⟨⟨_, rfl, BLe.cells (AB _)⟩, rfl⟩, ⟨⟨_, rfl, BLe.cells (AB _)⟩, rfl⟩, ⟨⟨_, rfl, BLe.cells (AB _)⟩, rfl⟩, ⟨⟨_, rfl, BLe.row rfl⟩, rfl⟩, trivial⟩, rfl, rfl⟩⟩
abbrev eB2 (i0 : Nat) (h : Nat) (L : List (Int × List Int)) (xs : List Int) : List (AL.Id × Bx) := eB1 h L xs ++ nB1 i0
theorem put1_ok (g : FuncId) (i0 : Nat) (f : Int × List Int → Int) (n : Nat) (d : Nat → Nat) (h : Nat) (L : List (Int × List Int)) (xs : List Int) (i : Nat) (hi : i < xs.length) (hg : ∀ c ∈ L, IoFn Tryz.prog g ([aSt c.1 c.2] ++ [.ptr 904 0]) (nB1 i0) (.ret (aN (f c))) (nB1 i0)) (hm : L.map f = rgL n d) (hh : h ≤ 200000) (hn : n ≤ 1000000) (hL : L.length ≤ 1000000) (hnb : n * (h + 1) ≤ 3000000) (hd : ∀ t, t < n → d t < 2 ^ 41 ∧ d t < 2 ^ (h + 1)) :
  IoFn Tryz.prog 90 ([aN i, .fn g [.ptr 904 0]] ++ [.ptr 900 0, .ptr 901 0, .ptr 902 0]) (eB2 i0 h L xs) (.ret (.tup [])) (eB2 i0 h L (xs.set i ((ds (2 ^ (h + 1)) n d : Nat) : Int))) := by
 refine AG Tryz.func90 rfl Tryz.ntmps90 rfl rfl rfl ?_;have c1 := hColumn1_ok g i0 f L hL hg;rw [hm] at c1;have c2 := digits_ok (h + 1) n d (by omega) hn hnb hd;(repeat' (first |refine qv ?_ |apply qr |refine qw ?_|fail));refine Fl.ioR rfl [] c1 rfl rfl (AB _) rfl ⟨⟨⟨_, rfl, BLe.cells (AB _)⟩, rfl⟩, trivial⟩ ⟨rfl, trivial⟩ rfl rfl rfl rfl ?_;refine qc (c2) ?_;(repeat' (first |refine Fl.nil (fun _ => by kernel_rfl) ?_ |refine Aq rfl rfl rfl rfl rfl rfl rfl rfl (by omega) (by first | omega | (simp; omega)) ?_ |refine A9 rfl rfl rfl rfl rfl rfl rfl rfl rfl rfl rfl (AB _) rfl (by first | omega | (simp; omega)) ?_|fail));exact ⟨⟨[], _, _, AK _ _ _, rfl, AA _, rfl, ⟨⟨⟨_, rfl, BLe.cells (AB _)⟩, rfl⟩, ⟨⟨_, rfl, BLe.cells (AB _)⟩, rfl⟩, ⟨⟨_, rfl, BLe.cells (AB _)⟩, rfl⟩, ⟨⟨_, rfl, BLe.row rfl⟩, rfl⟩, ⟨⟨_, rfl, BLe.cells (AB _)⟩, rfl⟩, trivial⟩, rfl, rfl⟩⟩
theorem chValidH_ok (X : List Int) (hl : X.length ≤ 1000000000) (b : Bool) (hb : b = true ↔ ∀ y ∈ X, Fit y) : PureFn Tryz.prog 49 [.sl 2 eX X] (aB b) := by
 refine (chValid_ok (X.map zOf) (fun z hz => ?_) (by rw [List.length_map]; omega)).le (LeL.cons (Dz (enc := eZ) (f := zOf)) LeL.nil) (AV.Le.bool ?_)
 ·obtain ⟨x, hx, rfl⟩ := List.mem_map.1 hz; exact Ak _
 ·refine dec_of hb ⟨fun h y hy => ?_, fun h z hz => ?_⟩
  ·have := (okZ_eq (z := zOf y) (Ak _) (h _ (List.mem_map.2 ⟨y, hy, rfl⟩))).2;rwa [BO] at this
  ·obtain ⟨x, hx, rfl⟩ := List.mem_map.1 hz; exact Dm (h x hx)
theorem encode_no (m : MZ) (hm : OkMZ m) (x : List Int) (hx : OkIn m x) (s : Nat) (hs : s ≤ 1000000) (h : 131072 < (s + (addZ m x).toNat + 1) * s + 1 ∨ 131072 < s + (addZ m x).toNat + 1) : PureFn Tryz.prog 46 [aSz m x, aN s] (.tup [.v (.slice none 0 0), aB false]) := by
 refine AC Tryz.func46 rfl Tryz.ntmps46 rfl rfl ?_;obtain ⟨s1, s2, s3⟩ := Dx hm hx;obtain ⟨a, ea⟩ : ∃ a : Nat, addZ m x = a := ⟨(addZ m x).toNat, by omega⟩;have ea' : (m.l : Int) + sumL x = a := ea;rw [ea, Int.toNat_natCast] at h;rw [ea] at s1 s2
 have hp : ((s : Int) + (a : Int) + 1) * (s : Int) = (((s + a + 1) * s : Nat) : Int) := by rw [Int.natCast_mul]; rfl
 have hp1 : (s + a + 1) * s ≤ 1004016 * 1000000 := Nat.mul_le_mul (by omega) hs
 have hsz : aSz m x = .agg [aN m.regs, .sl 4 eIz m.code, aI x, aN m.V, aN (a : Int)] := by show AV.agg [_, _, _, _, aN (addZ m x)] = _; rw [ea]
 rw [hsz]
 generalize (s + a + 1) * s = p at *
 (repeat' (first |refine qv ?_ |apply qn |apply qs |apply qr |refine qw ?_ |refine qe ?_ |refine Fl.skip rfl rfl ?_ |refine AM rfl ?_ |(refine AD rfl ?_ ?_ <;> intro _ <;> try (exfalso; omega)) |apply qt |(refine AH rfl rfl ?_ ?_ <;> intro _ <;> try (exfalso; omega))))
 all_goals exact RetOk.of rfl (AA _)
set_option maxHeartbeats 2000000 in
theorem encode_ok (m : MZ) (hm : OkMZ m) (x : List Int) (hx : OkIn m x) (s : Nat) (hg1 : (s + (addZ m x).toNat + 1) * s + 1 ≤ 131072) (hg2 : s + (addZ m x).toNat + 1 ≤ 131072) (h1 : ∀ t, t < s → ¬ m.mach.Over (m.mach.F (inF x) t)) (b : Bool) (hb : b = true ↔ ∀ y ∈ hL m x s, Fit y) : PureFn Tryz.prog 46 [aSz m x, aN s] (.tup [.sl 2 eX (hL m x s), aB b]) := by
  refine AC Tryz.func46 rfl Tryz.ntmps46 rfl rfl ?_;obtain ⟨s1, s2, s3⟩ := Dx hm hx;have hV := hm.V32;have hVe : m.V = 3 + m.l + 2 * m.R := rfl;have hl15 : m.code.length ≤ 15 := hm.l15;have hll : m.l = m.code.length := rfl;have hr1 := hm.r1;have hr4 := hm.r4;have hRe := CZ hm;have hst := hStates_ok m hm x hx s (by omega) h1;have hlt := Mach.F_lt hm.mach (inF x) h1
  have hbd : ∀ t j, t ≤ s → (m.mach.F (inF x) t).2 j ≤ 1000 + s := fun t j ht => by
    have := m.mach.F_le (x := inF x) j t;have := inF_le hx j;omega
  have hbdx : ∀ t j, t ≤ s → (m.mach.F (inF x) t).2 j ≤ inF x j + s := fun t j ht => by
    have := m.mach.F_le (x := inF x) j t;omega
  obtain ⟨a, ea⟩ : ∃ a : Nat, addZ m x = a := ⟨(addZ m x).toNat, by omega⟩;have ea' : (m.l : Int) + sumL x = a := ea
  have hin : ∀ j, j < m.R → inF x j ≤ a := fun j hj => by
    have := (in_le hm hx).2 j hj;rw [ea, Int.toNat_natCast] at this;exact this
  obtain ⟨g0, g1, g2, g3, g4, g5⟩ := EC (m := m) (x := x) s (fun t => (m.mach.F (inF x) t).1) (fun t => (m.mach.F (inF x) t).2);have hHl := CL (m := m) (x := x) s (fun t => (m.mach.F (inF x) t).1) (fun t => (m.mach.F (inF x) t).2);obtain ⟨H, eH⟩ : ∃ H, H = hL m x s := ⟨_, rfl⟩;unfold hL at eH;rw [← eH] at g0 g1 g2 g3 g4 g5 hHl;rw [ea, Int.toNat_natCast] at hg1 hg2 g1 g2 g3 g4;rw [show 2 * 2 ^ (s + a) = 2 ^ (s + a + 1) by rw [Nat.pow_succ]; omega] at g2 g3 g4;have hv := chValidH_ok H (by omega) b (by rw [eH]; exact hb);show AWP _ _ _ _ _ _
  have hres : (AV.tup [.sl 2 eX (hL m x s), aB b]) = .tup [.sl 2 eX H, aB b] := by rw [eH]
  rw [hres];rw [ea] at s1 s2
  have hp : ((s : Int) + (a : Int) + 1) * (s : Int) = (((s + a + 1) * s : Nat) : Int) := by rw [Int.natCast_mul]; rfl
  have hnb : (s + 1) * (s + a + 1) ≤ 3000000 := by rw [Nat.add_mul, Nat.one_mul, Nat.mul_comm s]; omega
  have hsz : aSz m x = .agg [aN m.regs, .sl 4 eIz m.code, aI x, aN m.V, aN (a : Int)] := by show AV.agg [_, _, _, _, aN (addZ m x)] = _; rw [ea]
  have cL : ∀ i : Nat, i ≤ 1000 → PureFn Tryz.prog 96 [.agg [aN m.regs, .sl 4 eIz m.code, aI x, aN m.V, aN (a : Int)], aN i] (aN ((3 + i : Nat) : Int)) := fun i hi => hsz ▸ BZ m x i hi;have cR : ∀ i : Nat, i ≤ 1000 → PureFn Tryz.prog 98 [.agg [aN m.regs, .sl 4 eIz m.code, aI x, aN m.V, aN (a : Int)], aN i] (aN ((3 + m.l + i : Nat) : Int)) := fun i hi => hsz ▸ szReg_ok m x i (by omega) hi;have cE : ∀ i : Nat, i ≤ 1000 → PureFn Tryz.prog 100 [.agg [aN m.regs, .sl 4 eIz m.code, aI x, aN m.V, aN (a : Int)], aN i] (aN ((3 + m.l + m.R + i : Nat) : Int)) := fun i hi => hsz ▸ szEnd_ok m x i (by omega) (by omega) hr4 hi;rw [hsz] at hst ⊢;have hbig : ∀ v : Nat, v ≤ s + a → v < 2 ^ (s + a + 1) := fun v h => Nat.lt_of_lt_of_le (Nat.lt_of_le_of_lt h Nat.lt_two_pow_self) (Nat.pow_le_pow_right (by omega) (by omega))
  have h41 : ∀ v : Nat, v ≤ 1000000 → v < 2 ^ 41 := fun v h => by have : (1000000 : Nat) < 2 ^ 41 := by decide
                                                                  omega
  have hF2 : Fit ((2 : Int) ^ (s + a)) := by
    refine fit_pow (e := s + a + 1) ?_ hg2
    have : ((2 : Int) ^ (s + a)) = ((2 ^ (s + a) : Nat) : Int) := by rw [Int.natCast_pow]; rfl
    rw [this, Int.natAbs_natCast];exact Nat.pow_lt_pow_right (by omega) (by omega)
  have cP := Power_ok 2 ((s + a : Nat) : Int) (fit_pow (e := 2) (by decide) (by omega)) (by omega) (by omega);rw [Int.toNat_natCast, Eg hF2] at cP;have hlL := stL_len m x (s + 1);have hgetS : (stL m x (s + 1))[s]? = some (stF m x s) := stL_get (by omega)
  generalize hmu : (s + a + 1) * s = p at *
  refine AE ?_;(repeat' (first |refine qv ?_ |apply qn |apply qr |refine qe ?_|fail));refine ⟨AE ?_⟩;(repeat' (first |refine qv ?_ |apply qn |apply qr |refine qw ?_ |refine qe ?_|fail));refine ⟨AE ?_⟩;(repeat' (first |refine qv ?_ |apply qn |apply qs |apply qr |refine qw ?_ |(refine AD rfl ?_ ?_ <;> intro _ <;> try (exfalso; omega)) |apply qk |(refine AH rfl rfl ?_ ?_ <;> intro _ <;> try (exfalso; omega))));refine ⟨AE ?_⟩;(repeat' (first |refine qv ?_ |apply qr));refine qc (hst) ?_;(repeat' (first |apply qn |refine qe ?_|fail));refine ⟨AE ?_⟩;(repeat' (first |refine qv ?_ |apply qr));refine Bp rfl rfl rfl rfl rfl rfl rfl rfl rfl rfl eX 0 (by exact DW (σ := []) rfl) (by rfl) (by omega) (by dsimp only; omega) (by omega) ?_;(repeat' (first |apply qn |refine qe ?_|fail));refine ⟨AE ?_⟩;(repeat' (first |refine qv ?_ |apply qn |apply qr));refine ⟨AE ?_⟩;(repeat' (first |refine qv ?_ |apply qr));refine qc (CM s (by omega) (by omega)) ?_;(repeat' (first |refine Fl.nil (fun _ => by kernel_rfl) ?_ |refine Aq rfl rfl rfl rfl rfl rfl rfl rfl (by omega) (by first | omega | (simp; omega)) ?_ |refine A9 rfl rfl rfl rfl rfl rfl rfl rfl rfl rfl rfl (AB _) rfl (by first | omega | (simp; omega)) ?_|fail));refine ⟨AE ?_⟩;(repeat' (first |refine qv ?_ |apply qr));refine qc (CM 2 (by omega) (by omega)) ?_;(repeat' (first |refine qv ?_|fail));refine Fl.call rfl cP rfl rfl rfl (LeL.cons (AA _) (LeL.cons (AV.Le.int (by omega)) LeL.nil)) ?_;(repeat' (first |refine qv ?_ |refine Fl.nil (fun _ => by kernel_rfl) ?_ |refine Aq rfl rfl rfl rfl rfl rfl rfl rfl (by omega) (by first | omega | (simp; omega)) ?_ |refine A9 rfl rfl rfl rfl rfl rfl rfl rfl rfl rfl rfl (AB _) rfl (by first | omega | (simp; omega)) ?_|fail));refine ⟨AE ?_⟩;(repeat' (first |refine qv ?_ |apply qr));have hnb2 : (s + 1) * (s + a + 1) ≤ 3000000 := hnb;have d1 : ∀ t, t < s + 1 → (fun _ => 1 : Nat → Nat) t < 2 ^ 41 ∧ (fun _ => 1 : Nat → Nat) t < 2 ^ (s + a + 1) := fun t _ => ⟨h41 1 (by omega), hbig 1 (by omega)⟩;refine Dg rfl rfl [(900, 6), (901, 7), (902, 8), (903, 32)] (put_ok 95 (fun _ => 1) (s + 1) (fun _ => 1) (s + a) (stL m x (s + 1)) _ 2 (by simp; omega) tell2_ok (stL_map fun _ _ => rfl) (by omega) (by omega) (by omega) hnb2 d1) rfl rfl (AB _) rfl ⟨⟨⟨_, rfl, BLe.cells (AB _)⟩, rfl⟩, ⟨⟨_, rfl, BLe.cells (AB _)⟩, rfl⟩, ⟨⟨_, rfl, BLe.cells (AB _)⟩, rfl⟩, ⟨⟨_, rfl, BLe.row rfl⟩, rfl⟩, trivial⟩ rfl rfl rfl rfl rfl ?_;(repeat' (first |apply qn));refine ⟨AE ?_⟩;(repeat' (first |refine qv ?_ |apply qn |apply qs |apply qr |apply qb));refine AWP.loop (G := Nat × List Int) (fun (i, xs) => i ≤ m.l ∧ xs.length = m.V ∧ ∀ k, k < 3 + i → xs.getD k 0 = H.getD k 0) (fun (i, xs) => AU [] [(1, aN s), (2, .ptr 2 0), (6, .ptr 6 0), (7, .ptr 7 0), (8, .ptr 8 0), (9, .fn 90 [.ptr 6 0, .ptr 7 0, .ptr 8 0]), (51, aN m.l), (52, aN i)] [(2, .cells [aN m.regs, .sl 4 eIz m.code, aI x, aN m.V, aN (a : Int)] 82), (6, .cells [aN (s + a : Nat)] 3), (7, .cells [.sl 2 eSt (stL m x (s + 1))] 30), (8, .cells [.row 801] 33), (801, .row 2 eX xs 48)]) (fun (i, _) => m.l - i) (0, ((((List.replicate m.V 0).set 0 (s : Int)).set 1 ((2 : Int) ^ (s + a))).set 2 ((ds (2 ^ (s + a + 1)) (s + 1) (fun _ => 1) : Nat) : Int))) ⟨by omega, by simp, fun k hk => ?_⟩ ?_ ?_
  · rw [ED (by simp; omega), ED (by simp; omega), ED (by simp; omega)];rcases (show k = 0 ∨ k = 1 ∨ k = 2 by omega) with rfl | rfl | rfl
    · rw [g0]; rfl
    · rw [g1, Int.natCast_pow]; rfl
    · rw [g2]; rfl
  · refine Ent.of [(801, 32)] ?_ ?_ rfl rfl;(repeat' (first |exact True.intro |refine ⟨⟨AA _, rfl⟩, ?_⟩ |refine ⟨⟨⟨_, rfl, BLe.cells (AB _)⟩, rfl⟩, ?_⟩ |refine ⟨⟨⟨_, rfl, BLe.row rfl⟩, rfl⟩, ?_⟩|fail))
  · intro ⟨i, xs⟩ ⟨k0, k1, k2⟩;(repeat' (first |refine qv ?_ |apply qn |apply qs |apply qr |refine qe ?_ |(refine AD rfl ?_ ?_ <;> intro _ <;> try (exfalso; omega)) |apply qb |apply qk |apply qx))
    · rename_i hi;refine qc (cL i (by omega)) ?_;(repeat' (first |refine qv ?_|fail))
      have dl : ∀ t, t < s + 1 → plD (fun t => (m.mach.F (inF x) t).1) i t < 2 ^ 41 ∧ plD (fun t => (m.mach.F (inF x) t).1) i t < 2 ^ (s + a + 1) := fun t _ => by
        have : plD (fun t => (m.mach.F (inF x) t).1) i t ≤ 1 := by unfold plD; split <;> omega
        exact ⟨h41 _ (by omega), hbig _ (by omega)⟩
      refine Dg rfl rfl [(900, 6), (901, 7), (902, 8), (903, 801), (904, 10)] (put1_ok 97 i (fun c => if c.1 = i then 1 else 0) (s + 1) (plD (fun t => (m.mach.F (inF x) t).1) i) (s + a) (stL m x (s + 1)) xs (3 + i) (by omega) (fun c _ => tell3_ok i c) (stL_map fun t _ => by unfold stF plD; simp only; split <;> split <;> omega) (by omega) (by omega) (by omega) hnb2 dl) rfl rfl (AB _) rfl ⟨⟨⟨_, rfl, BLe.cells (AB _)⟩, rfl⟩, ⟨⟨_, rfl, BLe.cells (AB _)⟩, rfl⟩, ⟨⟨_, rfl, BLe.cells (AB _)⟩, rfl⟩, ⟨⟨_, rfl, BLe.row rfl⟩, rfl⟩, ⟨⟨_, rfl, BLe.cells (AB _)⟩, rfl⟩, trivial⟩ rfl rfl rfl rfl rfl ?_;(repeat' (first |refine qv ?_ |apply qn |apply qr |refine qw ?_|fail));refine LoopEnd.of (i + 1, xs.set (3 + i) ((ds (2 ^ (s + a + 1)) (s + 1) (plD (fun t => (m.mach.F (inF x) t).1) i) : Nat) : Int)) ⟨by omega, by rw [List.length_set]; exact k1, fun k hk => ?_⟩ (by simp only; omega) ?_
      · rw [ED (by omega)];split
        · rename_i h; subst h; rw [g3 i (by omega)]
        · exact k2 k (by omega)
      · refine Ent.of [] ?_ ?_ rfl rfl;(repeat' (first |exact True.intro |refine ⟨⟨AA _, rfl⟩, ?_⟩ |refine ⟨⟨⟨_, rfl, BLe.cells (AB _)⟩, rfl⟩, ?_⟩ |refine ⟨⟨⟨_, rfl, BLe.row rfl⟩, rfl⟩, ?_⟩|fail))
    · rename_i hi
      have hi : i = m.l := by omega
      subst hi;refine ⟨AE ?_⟩;(repeat' (first |refine qv ?_ |apply qn |apply qs |apply qr |apply qb));refine AWP.loop (G := Nat × List Int) (fun (j, xs) => j ≤ m.R ∧ xs.length = m.V ∧ ∀ k, k < 3 + m.l + j ∨ (3 + m.l + m.R ≤ k ∧ k < 3 + m.l + m.R + j) → xs.getD k 0 = H.getD k 0) (fun (j, xs) => AU [] [(1, aN s), (2, .ptr 2 0), (6, .ptr 6 0), (7, .ptr 7 0), (8, .ptr 8 0), (9, .fn 90 [.ptr 6 0, .ptr 7 0, .ptr 8 0]), (64, aN m.R), (65, aN j)] [(2, .cells [aN m.regs, .sl 4 eIz m.code, aI x, aN m.V, aN (a : Int)] 82), (6, .cells [aN (s + a : Nat)] 3), (7, .cells [.sl 2 eSt (stL m x (s + 1))] 30), (8, .cells [.row 801] 33), (801, .row 2 eX xs 48)]) (fun (j, _) => m.R - j) (0, xs) ⟨by omega, k1, fun k hk => k2 k (by omega)⟩ ?_ ?_
      · refine Ent.of [] ?_ ?_ rfl rfl;(repeat' (first |exact True.intro |refine ⟨⟨AA _, rfl⟩, ?_⟩ |refine ⟨⟨⟨_, rfl, BLe.cells (AB _)⟩, rfl⟩, ?_⟩ |refine ⟨⟨⟨_, rfl, BLe.row rfl⟩, rfl⟩, ?_⟩ |refine ⟨⟨AV.Le.int ?_, rfl⟩, ?_⟩|fail))
        all_goals omega
      · intro ⟨j, xs⟩ ⟨k0, k1, k2⟩;(repeat' (first |refine qv ?_ |apply qn |apply qs |apply qr |refine qe ?_ |(refine AD rfl ?_ ?_ <;> intro _ <;> try (exfalso; omega)) |apply qb |apply qk |apply qx))
        · rename_i hj;refine qc (cR j (by omega)) ?_;(repeat' (first |refine qv ?_|fail))
          have hjR : j < m.R := by omega
          have dr : ∀ t, t < s + 1 → (fun t => (m.mach.F (inF x) t).2 j) t < 2 ^ 41 ∧ (fun t => (m.mach.F (inF x) t).2 j) t < 2 ^ (s + a + 1) := fun t ht => by
            have e1 := hbd t j (by omega);have e2 := hbdx t j (by omega);have e3 := hin j hjR;show (m.mach.F (inF x) t).2 j < _ ∧ (m.mach.F (inF x) t).2 j < _;exact ⟨h41 _ (by omega), hbig _ (by omega)⟩
          have tell : ∀ c ∈ stL m x (s + 1), IoFn Tryz.prog 99 ([aSt c.1 c.2] ++ [.ptr 904 0]) (nB1 j) (.ret (aN (c.2.getD j 0))) (nB1 j) := fun c hc => by
            unfold stL at hc;obtain ⟨t, _, rfl⟩ := List.mem_map.1 hc;refine tell4_ok j _ _ ?_;rw [Int.toNat_natCast, List.getD_eq_getElem?_getD];have := CE (f := (m.mach.F (inF x) t).2) hjR;unfold stF;rw [this]; rfl
          refine Dg rfl rfl [(900, 6), (901, 7), (902, 8), (903, 801), (904, 11)] (put1_ok 99 j (fun c => c.2.getD j 0) (s + 1) (fun t => (m.mach.F (inF x) t).2 j) (s + a) (stL m x (s + 1)) xs (3 + m.l + j) (by omega) tell (stL_map fun t _ => by unfold stF; simp only; rw [List.getD_eq_getElem?_getD, CE hjR]; rfl) (by omega) (by omega) (by omega) hnb2 dr) rfl rfl (AB _) rfl ⟨⟨⟨_, rfl, BLe.cells (AB _)⟩, rfl⟩, ⟨⟨_, rfl, BLe.cells (AB _)⟩, rfl⟩, ⟨⟨_, rfl, BLe.cells (AB _)⟩, rfl⟩, ⟨⟨_, rfl, BLe.row rfl⟩, rfl⟩, ⟨⟨_, rfl, BLe.cells (AB _)⟩, rfl⟩, trivial⟩ rfl rfl rfl rfl rfl ?_
          have hgS : (stL m x (s + 1))[Int.toNat (s : Int)]? = some (stF m x s) := by rw [Int.toNat_natCast]; exact hgetS
          have hgR : (stF m x s).2[Int.toNat (j : Int)]? = some (((m.mach.F (inF x) s).2 j : Nat) : Int) := by rw [Int.toNat_natCast]; exact CE hjR
          have hgRl : ((stF m x s).2.length : Int) = m.R := by show ((rgL _ _).length : Int) = _; rw [BL]
          have hre := hbd s j (Nat.le_refl _);(repeat' (first |refine qv ?_ |apply qn |apply qr));refine qc (cE j (by omega)) ?_;(repeat' (first |refine qv ?_ |refine qK ?_|fail));refine qc (CM (((m.mach.F (inF x) s).2 j : Nat) : Int) (by omega) (by omega)) ?_;(repeat' (first |refine qv ?_ |apply qn |refine Fl.nil (fun _ => by kernel_rfl) ?_ |apply qr |refine qw ?_ |refine Aq rfl rfl rfl rfl rfl rfl rfl rfl (by omega) (by first | omega | (simp; omega)) ?_ |refine A9 rfl rfl rfl rfl rfl rfl rfl rfl rfl rfl rfl (AB _) rfl (by first | omega | (simp; omega)) ?_|fail));refine LoopEnd.of (j + 1, (xs.set (3 + m.l + j) ((ds (2 ^ (s + a + 1)) (s + 1) (fun t => (m.mach.F (inF x) t).2 j) : Nat) : Int)).set (3 + m.l + m.R + j) (((m.mach.F (inF x) s).2 j : Nat) : Int)) ⟨by omega, by rw [List.length_set, List.length_set]; exact k1, fun k hk => ?_⟩ (by simp only; omega) ?_
          · rw [ED (by rw [List.length_set]; omega)];split
            · rename_i h; subst h; rw [g5 j hjR]
            · rw [ED (by omega)];split
              · rename_i h; subst h; rw [g4 j hjR]
              · exact k2 k (by omega)
          · refine Ent.of [] ?_ ?_ rfl rfl;(repeat' (first |exact True.intro |refine ⟨⟨AA _, rfl⟩, ?_⟩ |refine ⟨⟨⟨_, rfl, BLe.cells (AB _)⟩, rfl⟩, ?_⟩ |refine ⟨⟨⟨_, rfl, BLe.row rfl⟩, rfl⟩, ?_⟩|fail))
        · rename_i hj
          have hj : j = m.R := by omega
          subst hj;have hxH : xs = H := ext_getD (by omega) fun k hk => k2 k (by omega);rw [hxH];refine ⟨?_⟩;refine Am (Ent.freeze 801 rfl) ?_;(repeat' (first |refine qv ?_ |apply qs |apply qr));refine qc (hv) ?_;(repeat' (first |refine qv ?_ |refine Fl.nil (fun _ => by kernel_rfl) ?_ |apply qt));exact RetOk.of rfl (AA _)
end Go.Proofs.YtmmfloplhopioaaGreat
/- mask: the links' meaning; what they need to be evaluated. -/
namespace Go.AL
end Go.AL
namespace Go.Proofs.YtmmfloplhopioaaGreat
open Go.AL
theorem holdsR_all {f g : LZ → Bool} : ∀ {ls : List LZ}, (∀ l ∈ ls, f l = true ∧ g l = true) → CX f g ls = (true, 0)
 | [], _ => rfl
 | l :: ls, h => by
  obtain ⟨h1, h2⟩ := h l (by simp);rw [CX, if_pos h1, if_pos h2];exact holdsR_all fun x hx => h x (by simp [hx])
theorem holdsR_true {f g : LZ → Bool} : ∀ {ls : List LZ}, (CX f g ls).1 = true → ∀ l ∈ ls, f l = true ∧ g l = true
 | [], _, l, hl => by cases hl
 | x :: ls, h, l, hl => by
  rw [CX] at h;split at h
  ·rename_i h1;split at h
   ·rename_i h2;rcases List.mem_cons.1 hl with rfl | hl
    ·exact ⟨h1, h2⟩
    ·exact holdsR_true h l hl
   ·cases h
  ·cases h
theorem Holds_yes (s : SZ) (X : List Int) (hw : WS s) (hs : OkS s) (hX : ∀ x ∈ X, Fit x) (hlen : (X.length : Int) = s.vars) (hnat : ∀ x ∈ X, 0 ≤ x) (he : ∀ l ∈ s.links, EvL X l) (hh : ∀ l ∈ s.links, HoL X l) : PureFn Tryz.prog 30 [aS s, .sl 2 eX X] (.tup [aB true, aN 0]) := by
 obtain ⟨f, hf⟩ := boolOf (EvL X);obtain ⟨g, hg⟩ := boolOf (HoL X);have := Holds_ok s X hw hs hX hlen hnat f g hf hg;rw [holdsR_all fun l hl => ⟨(hf l).2 (he l hl), (hg l).2 (hh l hl)⟩] at this;exact this
end Go.Proofs.YtmmfloplhopioaaGreat
/- history.Encode, Decode. -/
namespace Go.AL
structure RunTo (m : MZ) (x : List Int) (n k : Nat) : Prop where
  le : k ≤ n
  go : ∀ t, t < k → ¬ m.mach.Over (m.mach.F (inF x) t)
  stop : k = n ∨ m.mach.Over (m.mach.F (inF x) k)
end Go.AL
namespace Go.Proofs.YtmmfloplhopioaaGreat
open Go.AL
abbrev nilV : AV := .v (.slice none 0 0)
theorem hEncode_bad (m : MZ) (x : List Int) (n e : Int) (he : e ≠ 0) (h : PureFn Tryz.prog 45 [aMz m, aI x] (.tup [szZero, aN e])) : PureFn Tryz.prog 13 [aMz m, aI x, aN n] (.tup [nilV, aN e]) := by
 refine AC Tryz.func13 rfl Tryz.ntmps13 rfl rfl ?_;(repeat' (first |refine qv ?_ |apply qn |apply qs |apply qr |refine qe ?_|fail));refine qc (h) ?_;(repeat' (first |refine qv ?_ |apply qn |apply qs |apply qr |refine qe ?_ |(refine Aa rfl ?_ ?_ <;> intro _ <;> try (exfalso; omega)) |apply qt));exact RetOk.of rfl (AA _)
theorem hEncode_arg (m : MZ) (hm : OkMZ m) (x : List Int) (hx : OkIn m x) (n : Int) (hn : n < 0 ∨ 1000000 < n) : PureFn Tryz.prog 13 [aMz m, aI x, aN n] (.tup [nilV, aN 2]) := by
 refine AC Tryz.func13 rfl Tryz.ntmps13 rfl rfl ?_;have h1 := DM m x hm hx;have h2 := rgHalts_arg m hm x hx n hn;(repeat' (first |refine qv ?_ |apply qn |apply qs |apply qr |refine qe ?_|fail));refine qc (h1) ?_;(repeat' (first |refine qv ?_ |apply qn |apply qs |apply qr |refine qe ?_ |refine AF rfl ?_ |apply qk));refine qc (h2) ?_;(repeat' (first |refine qv ?_ |apply qn |apply qs |apply qr |refine AM rfl ?_ |apply qt));exact RetOk.of rfl (AA _)
theorem hEncode_none (m : MZ) (hm : OkMZ m) (x : List Int) (hx : OkIn m x) (n k : Nat) (hn : n ≤ 1000000) (hk : RunTo m x n k) (ho : m.mach.op (m.mach.F (inF x) k).1 ≠ 3) : PureFn Tryz.prog 13 [aMz m, aI x, aN n] (.tup [nilV, aN 6]) := by
 refine AC Tryz.func13 rfl Tryz.ntmps13 rfl rfl ?_;have h1 := DM m x hm hx;have h2 := rgHalts_ok m hm x hx n k hn hk.le hk.go hk.stop;rw [if_neg ho] at h2;(repeat' (first |refine qv ?_ |apply qn |apply qs |apply qr |refine qe ?_|fail));refine qc (h1) ?_;(repeat' (first |refine qv ?_ |apply qn |apply qs |apply qr |refine qe ?_ |refine AF rfl ?_ |apply qk));refine qc (h2) ?_;(repeat' (first |refine qv ?_ |apply qn |apply qs |apply qr |refine AM rfl ?_ |apply qt));exact RetOk.of rfl (AA _)
theorem hEncode_size (m : MZ) (hm : OkMZ m) (x : List Int) (hx : OkIn m x) (n k : Nat) (hn : n ≤ 1000000) (hk : RunTo m x n k) (ho : m.mach.op (m.mach.F (inF x) k).1 = 3) (v : AV) (hv : v = nilV ∨ ∃ X : List Int, v = .sl 2 eX X) (hE : PureFn Tryz.prog 46 [aSz m x, aN k] (.tup [v, aB false])) : PureFn Tryz.prog 13 [aMz m, aI x, aN n] (.tup [nilV, aN 4]) := by
 refine AC Tryz.func13 rfl Tryz.ntmps13 rfl rfl ?_;have h1 := DM m x hm hx;have h2 := rgHalts_ok m hm x hx n k hn hk.le hk.go hk.stop;rw [if_pos ho] at h2;rcases hv with rfl | ⟨X, rfl⟩
 ·(repeat' (first |refine qv ?_ |apply qn |apply qs |apply qr |refine qe ?_|fail));refine qc (h1) ?_;(repeat' (first |refine qv ?_ |apply qn |apply qs |apply qr |refine qe ?_ |refine AF rfl ?_ |apply qk));refine qc (h2) ?_;(repeat' (first |refine qv ?_ |apply qn |apply qs |apply qr |refine AF rfl ?_ |apply qk));refine qc (hE) ?_;(repeat' (first |refine qv ?_ |apply qn |apply qs |apply qr |refine AM rfl ?_ |apply qt));exact RetOk.of rfl (AA _)
 ·(repeat' (first |refine qv ?_ |apply qn |apply qs |apply qr |refine qe ?_|fail));refine qc (h1) ?_;(repeat' (first |refine qv ?_ |apply qn |apply qs |apply qr |refine qe ?_ |refine AF rfl ?_ |apply qk));refine qc (h2) ?_;(repeat' (first |refine qv ?_ |apply qn |apply qs |apply qr |refine AF rfl ?_ |apply qk));refine qc (hE) ?_;(repeat' (first |refine qv ?_ |apply qn |apply qs |apply qr |refine AM rfl ?_ |apply qt));exact RetOk.of rfl (AA _)
theorem hEncode_ev (m : MZ) (hm : OkMZ m) (x : List Int) (hx : OkIn m x) (n k : Nat) (hn : n ≤ 1000000) (hk : RunTo m x n k) (ho : m.mach.op (m.mach.F (inF x) k).1 = 3) (hE : PureFn Tryz.prog 46 [aSz m x, aN k] (.tup [.sl 2 eX (hL m x k), aB true])) (b : Bool) (e : Int) (hH : PureFn Tryz.prog 30 [aS (hsS m x), .sl 2 eX (hL m x k)] (.tup [aB b, aN e])) : PureFn Tryz.prog 13 [aMz m, aI x, aN n] (if e = 0 then .tup [.sl 2 eX (hL m x k), aN 0] else .tup [nilV, aN 4]) := by
 refine AC Tryz.func13 rfl Tryz.ntmps13 rfl rfl ?_;have h1 := DM m x hm hx;have h2 := rgHalts_ok m hm x hx n k hn hk.le hk.go hk.stop;rw [if_pos ho] at h2;have h3 := hsSystem_ok m x hm hx
 generalize hL m x k = H at *
 (repeat' (first |refine qv ?_ |apply qn |apply qs |apply qr |refine qe ?_|fail));refine qc (h1) ?_;(repeat' (first |refine qv ?_ |apply qn |apply qs |apply qr |refine qe ?_ |refine AF rfl ?_ |apply qk));refine qc (h2) ?_;(repeat' (first |refine qv ?_ |apply qn |apply qs |apply qr |refine AF rfl ?_ |apply qk));refine qc (hE) ?_;(repeat' (first |refine qv ?_ |apply qn |apply qs |apply qr |refine AF rfl ?_ |apply qk));refine qc (h3) ?_;(repeat' (first |refine qv ?_|fail));refine qc (hH) ?_;(repeat' (first |refine qv ?_ |apply qn |apply qs |apply qr |(refine Aa rfl ?_ ?_ <;> intro _ <;> try (exfalso; omega)) |apply qk |apply qt))
 ·rename_i h;rw [if_neg h];exact RetOk.of rfl (AA _)
 ·rename_i h;rw [if_pos h];exact RetOk.of rfl (AA _)
end Go.Proofs.YtmmfloplhopioaaGreat
/- Strings: length, a byte, a part, the sum, equality. -/
namespace Go.AL
abbrev sV (l : List UInt8) : AV := .v (.string (ByteArray.mk l.toArray))
theorem sV_size (l : List UInt8) : (ByteArray.mk l.toArray).size = l.length := by simp [ByteArray.size]
section
variable {P : Program} {tab : Tab} {n : Nat} {s : St}
variable {ops : Array Oper} {draw : Dr} {o : Oper} {l : List Oper} {acc : List Eff} {K : Exit → St → Prop}
theorem OpJ.sLen (ht : A3 P tab) (hd : ∀ d, o.dst = some d → d < n) {x : Operand} {t : TypeId} (hop : o.op = .call { callee := .builtin .len, args := ⟨[x]⟩, argTypes := ⟨[t]⟩ }) {sz by' : Nat} {z : List Value} (hts : tab t = some ⟨.string, sz, by', z⟩) {bs : List UInt8} (hx : opd s x = sV bs) : OpJ P n o s ⟨.v (.int .i64 bs.length), [], [], [], []⟩ := by
 refine AN hd fun C s' a w h β ho _ b => ?_;have hxr := AJ b x;rw [ho x (by simp [hop, Op.operands, Call.operands]), hx] at hxr;simp only [Rep] at hxr;have hu := (ht _ _ hts).und;simp only at hu;refine ⟨.int .i64 (ByteArray.mk bs.toArray).size, ?_, by simp only [Rep]; rw [sV_size]⟩;simp [execOp, hop, resolve, invoke, builtin, Builtin.len_, hxr, run_underlying hu, goInt]
theorem BX [f : Facts P tab] {x : Operand} {t : TypeId} (hop : o.op = .call { callee := .builtin .len, args := ⟨[x]⟩, argTypes := ⟨[t]⟩ }) {sz by' : Nat} {z : List Value} (hts : tab t = some ⟨.string, sz, by', z⟩) {bs : List UInt8} (hx : opd s x = sV bs) (hg : gOk ops s o = true) (hd : dOk n o.dst = true)
  (r : Fl P n ops draw l ((Eff.mk (.v (.int .i64 bs.length)) [] [] [] []).app o.dst s) (Eff.mk (.v (.int .i64 bs.length)) [] [] [] [] :: acc) K) : Fl P n ops draw (o :: l) s acc K :=
 Ab hg (OpJ.sLen f.tabOk (AY hd) hop hts hx) r
theorem OpJ.sIdx (ht : A3 P tab) (hd : ∀ d, o.dst = some d → d < n) {t : TypeId} {x y : Operand} (hop : o.op = .index t x y) {sz by' : Nat} {z : List Value} (hts : tab t = some ⟨.string, sz, by', z⟩) {bs : List UInt8} (hx : opd s x = sV bs) {k : IntKind} {m : Int} (hy : opd s y = .v (.int k m)) (h0 : 0 ≤ m) {c : UInt8} (hc : bs[m.toNat]? = some c) : OpJ P n o s ⟨.v (.int .u8 c.toNat), [], [], [], []⟩ := by
 refine AN hd fun C s' a w h β ho _ b => ?_;have hxr := AJ b x;have hyr := AJ b y;rw [ho x (by simp [hop, Op.operands]), hx] at hxr;rw [ho y (by simp [hop, Op.operands]), hy] at hyr;simp only [Rep] at hxr hyr;have hu := (ht _ _ hts).und;simp only at hu;obtain ⟨h1, h2⟩ := List.getElem?_eq_some_iff.1 hc
 have hget : (ByteArray.mk bs.toArray)[m.toNat]? = some c := by
  rw [ByteArray.getElem?_lt' _ _ (by rw [sV_size]; exact h1)];exact congrArg some h2
 refine ⟨.int .u8 c.toNat, ?_, by simp only [Rep]⟩;simp only [execOp, hop, hxr, hyr, Instr.index, asIntOf, Sem.run_bind, Sem.run_pure, Result.andThen, run_underlying hu];rw [if_pos h0, hget];simp only [Sem.run_pure]
theorem CH [f : Facts P tab] {t : TypeId} {x y : Operand} (hop : o.op = .index t x y) {sz by' : Nat} {z : List Value} (hts : tab t = some ⟨.string, sz, by', z⟩) {bs : List UInt8} (hx : opd s x = sV bs) {k : IntKind} {m : Int} (hy : opd s y = .v (.int k m)) (hg : gOk ops s o = true) (hd : dOk n o.dst = true) {c : UInt8} (hc : bs[m.toNat]? = some c) (h0 : 0 ≤ m)
  (r : Fl P n ops draw l ((Eff.mk (.v (.int .u8 c.toNat)) [] [] [] []).app o.dst s) (Eff.mk (.v (.int .u8 c.toNat)) [] [] [] [] :: acc) K) : Fl P n ops draw (o :: l) s acc K :=
 Ab hg (OpJ.sIdx f.tabOk (AY hd) hop hts hx hy h0 hc) r
theorem OpJ.sSub (ht : A3 P tab) (hd : ∀ d, o.dst = some d → d < n) {t : TypeId} {x y z : Operand} (hop : o.op = .slice t x (some y) (some z) none) {sz by' : Nat} {zs : List Value} (hts : tab t = some ⟨.string, sz, by', zs⟩) {bs : List UInt8} (hx : opd s x = sV bs) {k k' : IntKind} {m m' : Int} (hy : opd s y = .v (.int k m)) (hz : opd s z = .v (.int k' m')) (h0 : 0 ≤ m) (h1 : m ≤ m') (h2 : m' ≤ bs.length) : OpJ P n o s ⟨sV ((bs.drop m.toNat).take (m'.toNat - m.toNat)), [], [], [], []⟩ := by
 refine AN hd fun C s' a w h β ho _ b => ?_;have hxr := AJ b x;have hyr := AJ b y;have hzr := AJ b z;rw [ho x (by simp [hop, Op.operands]), hx] at hxr;rw [ho y (by simp [hop, Op.operands]), hy] at hyr;rw [ho z (by simp [hop, Op.operands]), hz] at hzr;simp only [Rep] at hxr hyr hzr;have hu := (ht _ _ hts).und;simp only at hu;have b1 := run_sliceBound (P := P) w k' m' (ByteArray.mk bs.toArray).size .sliceAlen (by omega) (by rw [sV_size]; omega);have b2 := run_sliceBound (P := P) w k m m'.toNat .sliceB h0 (by omega);refine ⟨.string ((ByteArray.mk bs.toArray).extract m.toNat m'.toNat), ?_, by simp only [Rep]; rw [ByteArray.extract_mk]⟩;simp only [execOp, hop, hxr, hyr, hzr, Option.map_some, Option.map_none, Instr.sliceAt, Sem.run_bind, run_underlying hu, Result.andThen, Instr.slice, Instr.sliceBounds, Sem.run_pure, b1, b2, Option.isSome_none, Bool.false_eq_true, if_false]
theorem Fl.sSub [f : Facts P tab] {t : TypeId} {x y z : Operand} (hop : o.op = .slice t x (some y) (some z) none) {sz by' : Nat} {zs : List Value} (hts : tab t = some ⟨.string, sz, by', zs⟩) {bs : List UInt8} (hx : opd s x = sV bs) {k k' : IntKind} {m m' : Int} (hy : opd s y = .v (.int k m)) (hz : opd s z = .v (.int k' m')) (hg : gOk ops s o = true) (hd : dOk n o.dst = true) {cs : List UInt8} (hcs : (bs.drop m.toNat).take (m'.toNat - m.toNat) = cs) (h0 : 0 ≤ m) (h1 : m ≤ m') (h2 : m' ≤ bs.length)
  (r : Fl P n ops draw l ((Eff.mk (sV cs) [] [] [] []).app o.dst s) (Eff.mk (sV cs) [] [] [] [] :: acc) K) : Fl P n ops draw (o :: l) s acc K := by
 subst hcs;exact Ab hg (OpJ.sSub f.tabOk (AY hd) hop hts hx hy hz h0 h1 h2) r
theorem OpJ.sCat (hd : ∀ d, o.dst = some d → d < n) {t t' : TypeId} {x y : Operand} (hop : o.op = .binOp .add t x y t') {us bs : List UInt8} (hx : opd s x = sV us) (hy : opd s y = sV bs) (h : us.length + bs.length ≤ 9223372036854775807) : OpJ P n o s ⟨sV (us ++ bs), [], [], [], []⟩ := by
 refine AN hd fun C s' a w h' β ho _ b => ?_;have hxr := AJ b x;have hyr := AJ b y;rw [ho x (by simp [hop, Op.operands]), hx] at hxr;rw [ho y (by simp [hop, Op.operands]), hy] at hyr;simp only [Rep] at hxr hyr;refine ⟨.string (ByteArray.mk us.toArray ++ ByteArray.mk bs.toArray), ?_, by simp only [Rep]; rw [ByteArray.mk_append_mk]⟩;have := run_string_add_sum (P := P) (w := w) (ByteArray.mk us.toArray) (ByteArray.mk bs.toArray) (by rw [sV_size, sV_size]; exact h);simp [execOp, hop, hxr, hyr, eqGuard, binOp, this]
theorem Fl.sCat [Facts P tab] {t t' : TypeId} {x y : Operand} (hop : o.op = .binOp .add t x y t') {us bs : List UInt8} (hx : opd s x = sV us) (hy : opd s y = sV bs) (hg : gOk ops s o = true) (hd : dOk n o.dst = true) {cs : List UInt8} (hcs : us ++ bs = cs) (h : cs.length ≤ 9223372036854775807)
  (r : Fl P n ops draw l ((Eff.mk (sV cs) [] [] [] []).app o.dst s) (Eff.mk (sV cs) [] [] [] [] :: acc) K) : Fl P n ops draw (o :: l) s acc K := by
 subst hcs;exact Ab hg (OpJ.sCat (AY hd) hop hx hy (by rw [List.length_append] at h; exact h)) r
end
end Go.AL
/- The reference's Valid, Input; the law's wide, code. -/
namespace Go.AL
section
variable {P : Program} {tab : Tab} {n : Nat} {s : St}
variable {ops : Array Oper} {draw : Dr} {o : Oper} {l : List Oper} {acc : List Eff} {K : Exit → St → Prop}
theorem Fl.neV [f : Facts P tab] {t t' : TypeId} {x y : Operand} (hop : o.op = .binOp .neq t x y t') {cs ds : List AV} (hx : opd s x = .agg cs) (hy : opd s y = .agg ds) {us vs : List Value} (h1 : litL cs = some us) (h2 : litL ds = some vs) (r0 : Bool) (hg : gOk ops s o = true) (hd : dOk n o.dst = true)
  (hgd : ∀ w : World, (eqGuard .neq t x y (.agg us.toArray) (.agg vs.toArray)).run P w = .ok () w) (hrun : ∀ w : World, (binOp .neq t (.agg us.toArray) (.agg vs.toArray)).run P w = .ok (.bool r0) w)
  (r : Fl P n ops draw l ((Eff.mk (.v (.bool r0)) [] [] [] []).app o.dst s) (Eff.mk (.v (.bool r0)) [] [] [] [] :: acc) K) : Fl P n ops draw (o :: l) s acc K := by
 refine Ab hg (AN (tb := []) (AY hd) fun C s' a w h β ho _ k => ?_) r;have hxr := AJ k x;have hyr := AJ k y;rw [ho x (by rw [hop]; simp [Op.operands]), hx] at hxr;rw [ho y (by rw [hop]; simp [Op.operands]), hy] at hyr;simp only [Rep] at hxr hyr;obtain ⟨us', e1, hr1⟩ := hxr;obtain ⟨vs', e2, hr2⟩ := hyr
 have e3 : us' = us.toArray := by rw [← litL_rep h1 hr1]
 have e4 : vs' = vs.toArray := by rw [← litL_rep h2 hr2]
 refine ⟨.bool r0, ?_, by simp only [Rep]⟩;simp only [execOp, hop, e1, e2, e3, e4, Sem.run_bind, hgd w, Result.andThen, hrun w, Sem.run_pure]
end
end Go.AL
namespace Go.Proofs.YtmmfloplhopioaaGreat
open Go.AL
set_option maxHeartbeats 4000000 in
theorem Dk (m : MZ) (hl : m.code.length ≤ 100000) (b : Bool) (hb : b = true ↔ OkMZ m) : PureFn Tryz.prog 56 [aMz m] (aB b) := by
  refine AC Tryz.func56 rfl Tryz.ntmps56 rfl rfl ?_
  have hfalse : ¬ OkMZ m → false = b := fun h => by cases b with | false => rfl | true => exact absurd (hb.1 rfl) h
  refine AE ?_;(repeat' (first |refine qv ?_ |apply qn |apply qr |refine qe ?_|fail));refine ⟨AE ?_⟩;(repeat' (first |refine qv ?_ |apply qn |apply qs |apply qr |refine Fl.skip rfl rfl ?_ |refine AM rfl ?_ |(refine AD rfl ?_ ?_ <;> intro _ <;> try (exfalso; omega)) |apply qk |apply qt |(refine AH rfl rfl ?_ ?_ <;> intro _ <;> try (exfalso; omega))))
  any_goals exact RetOk.of rfl (AV.Le.bool (hfalse fun k => by
    have k1 := k.r1;have k2 := k.r4;have k3 : 1 ≤ m.code.length := k.l1;have k4 : m.code.length ≤ 15 := k.l15
    omega))
  refine ⟨AE ?_⟩;(repeat' (first |refine qv ?_ |apply qn |apply qs |apply qr |apply qb));refine AWP.loop (G := Nat) (fun i => i ≤ m.code.length ∧ ∀ j, j < i → okIns m j (m.at j)) (fun i => AU [] [(1, .ptr 1 0), (3, aN i)] [(1, .cells (eMz m) 24)]) (fun i => m.code.length - i) 0 ⟨by omega, fun j hj => by omega⟩ ?_ ?_
  · refine Ent.of [] ?_ ?_ rfl rfl;(repeat' (first |exact True.intro |refine ⟨⟨AA _, rfl⟩, ?_⟩ |refine ⟨⟨⟨_, rfl, BLe.cells (AB _)⟩, rfl⟩, ?_⟩|fail))
  · intro i ⟨k0, k1⟩;refine AE ?_;(repeat' (first |refine qv ?_ |apply qn |apply qs |apply qr |(refine AD rfl ?_ ?_ <;> intro _ <;> try (exfalso; omega)) |apply qk |apply qx));rotate_left
    · rename_i hi;refine ⟨?_⟩;(repeat' (first |refine qv ?_ |apply qn |apply qs |apply qr |apply qt));refine RetOk.of rfl (AV.Le.bool ?_);exact (hb.2 ⟨by omega, by omega, by show 1 ≤ m.code.length; omega, by show m.code.length ≤ 15; omega, fun j hj => k1 j (by have : j < m.code.length := hj; omega)⟩).symm
    · rename_i hi;obtain ⟨x, hx⟩ : ∃ x, m.code[i]? = some x := ⟨_, List.getElem?_eq_getElem (by omega)⟩;have hat := MZ.at_get hx
      have hx' : m.code[Int.toNat (i : Int)]? = some x := by rw [Int.toNat_natCast]; exact hx
      have hno : ¬ okIns m i x → false = b := fun h => hfalse fun k => h (hat ▸ k.ins i (by show i < m.code.length; omega))
      have hyes : okIns m i x → ∀ j, j < i + 1 → okIns m j (m.at j) := fun h j hj => by
        rcases (show j < i ∨ j = i by omega) with h' | h'
        · exact k1 j h'
        · rw [h', hat]; exact h
      rw [okIns_iff] at hno hyes;refine ⟨AWP.seq (AWP.block (AE ?_))⟩;(repeat' (first |refine qv ?_ |apply qn |apply qr |refine qe ?_ |refine qK ?_|fail));refine ⟨?_⟩;(repeat' (first |refine qv ?_ |apply qn |apply qs |apply qr |refine qw ?_ |refine qe ?_ |refine Fl.skip rfl rfl ?_ |refine AM rfl ?_ |(refine AD rfl ?_ ?_ <;> intro _ <;> try (exfalso; omega)) |(refine Aa rfl ?_ ?_ <;> intro _ <;> try (exfalso; omega)) |apply qb |apply qk |apply qt |(refine AH rfl rfl ?_ ?_ <;> intro _ <;> try (exfalso; omega))))
      · refine Fl.neV rfl rfl rfl rfl rfl _ rfl rfl (fun w => by kernel_rfl) (fun w => insNe_run w _ _ _ _ _ _ _ _) ?_;(repeat' (first |refine qv ?_ |apply qn |apply qs |apply qr |refine qw ?_ |(refine Aa rfl ?_ ?_ <;> intro _ <;> try (exfalso; omega)) |apply qk |apply qx |apply qt))
        · refine RetOk.of rfl (AV.Le.bool (hno ?_));omega
        · refine LoopEnd.of (i + 1) ⟨by omega, hyes (by omega)⟩ (by omega) ?_;refine Ent.of [] ?_ ?_ rfl rfl;(repeat' (first |exact True.intro |refine ⟨⟨AA _, rfl⟩, ?_⟩ |refine ⟨⟨⟨_, rfl, BLe.cells (AB _)⟩, rfl⟩, ?_⟩|fail))
      all_goals first
        | (refine RetOk.of rfl (AV.Le.bool (hno ?_)); omega)
        | (refine LoopEnd.of (i + 1) ⟨by omega, hyes (by omega)⟩ (by omega) ?_
           refine Ent.of [] ?_ ?_ rfl rfl
           repeat' (first |exact True.intro |refine ⟨⟨AA _, rfl⟩, ?_⟩ |refine ⟨⟨⟨_, rfl, BLe.cells (AB _)⟩, rfl⟩, ?_⟩|fail))
theorem r13Input_ok (m : MZ) (x : List Int) (hl : x.length ≤ 100000) (b : Bool) (hb : b = true ↔ (x.length : Int) = m.regs ∧ ∀ n ∈ x, 0 ≤ n ∧ n ≤ 1000) : PureFn Tryz.prog 57 [aMz m, aI x] (aB b) := by
  refine AC Tryz.func57 rfl Tryz.ntmps57 rfl rfl ?_
  have hfalse : (¬ ∀ n ∈ x, 0 ≤ n ∧ n ≤ 1000) → false = b := fun h => by cases b with | false => rfl | true => exact absurd (hb.1 rfl).2 h
  (repeat' (first |refine qv ?_ |apply qn |apply qs |apply qr |refine qe ?_ |apply qb));refine AWP.loop (G := Nat) (fun i => i ≤ x.length ∧ ∀ n ∈ x.take i, 0 ≤ n ∧ n ≤ 1000) (fun i => AU [] [(1, aI x), (2, .ptr 2 0), (5, aN i)] [(2, .cells (eMz m) 24)]) (fun i => x.length - i) 0 ⟨by omega, fun n hn => by simp at hn⟩ ?_ ?_
  · refine Ent.of [] ?_ ?_ rfl rfl;(repeat' (first |exact True.intro |refine ⟨⟨AA _, rfl⟩, ?_⟩ |refine ⟨⟨⟨_, rfl, BLe.cells (AB _)⟩, rfl⟩, ?_⟩|fail))
  · intro i ⟨k0, k1⟩;refine AE ?_;(repeat' (first |refine qv ?_ |apply qn |apply qs |apply qr |(refine AD rfl ?_ ?_ <;> intro _ <;> try (exfalso; omega)) |apply qk |apply qx |apply qt))
    · rename_i hi;obtain ⟨y, hy⟩ : ∃ y, x[i]? = some y := ⟨_, List.getElem?_eq_getElem (by omega)⟩
      have hy' : x[Int.toNat (i : Int)]? = some y := by rw [Int.toNat_natCast]; exact hy
      refine ⟨?_⟩;(repeat' (first |refine qv ?_ |apply qn |apply qs |apply qr |refine qw ?_ |refine Fl.skip rfl rfl ?_ |refine AM rfl ?_ |(refine AD rfl ?_ ?_ <;> intro _ <;> try (exfalso; omega)) |apply qb |apply qk |apply qt |refine qK ?_ |(refine AH rfl rfl ?_ ?_ <;> intro _ <;> try (exfalso; omega))))
      all_goals first
        | exact RetOk.of rfl (AV.Le.bool (hfalse fun k => by have := k y (List.mem_of_getElem? hy); omega))
        | (refine LoopEnd.of (i + 1) ⟨by omega, fun n hn => ?_⟩ (by omega) ?_
           · rw [Ad hy, List.mem_append, List.mem_singleton] at hn;rcases hn with hn | rfl
             · exact k1 n hn
             · omega
           · refine Ent.of [] ?_ ?_ rfl rfl
             repeat' (first |exact True.intro |refine ⟨⟨AA _, rfl⟩, ?_⟩ |refine ⟨⟨⟨_, rfl, BLe.cells (AB _)⟩, rfl⟩, ?_⟩|fail))
    · rename_i hi;rw [List.take_of_length_le (by omega)] at k1;refine RetOk.of rfl (AV.Le.bool ?_);exact dec_of hb ⟨fun h => ⟨h, k1⟩, fun h => h.1⟩
theorem law14Wide_ok (m : MZ) (x : List Int) (b : Bool) (hb : b = true ↔ 100 < m.code.length ∨ 100 < x.length) (hl : m.code.length ≤ 9223372036854775807) (hx : x.length ≤ 9223372036854775807) : PureFn Tryz.prog 21 [aMz m, aI x] (aB b) := by
 refine AC Tryz.func21 rfl Tryz.ntmps21 rfl rfl ?_;(repeat' (first |refine qv ?_ |apply qn |apply qs |apply qr |refine qe ?_ |refine Fl.skip rfl rfl ?_ |apply qt |(refine AH rfl rfl ?_ ?_ <;> intro _ <;> try (exfalso; omega))))
 all_goals refine RetOk.of rfl (AV.Le.bool ?_)
 all_goals first
  | exact (hb.2 (by omega)).symm
  | exact dec_of hb (by omega)
theorem EW (m : MZ) (x : List Int) (hl : m.code.length ≤ 100) (hx : x.length ≤ 100) (e : Int) (h1 : ¬ OkMZ m → e = 1) (h2 : OkMZ m → ¬ OkIn m x → e = 2) (h3 : OkMZ m → OkIn m x → e = 0) : PureFn Tryz.prog 23 [aMz m, aI x] (aN e) := by
 refine AC Tryz.func23 rfl Tryz.ntmps23 rfl rfl ?_;by_cases k1 : OkMZ m
 ·have hR := k1.r1
  have hI : ∀ b : Bool, (b = true ↔ OkIn m x) → (b = true ↔ (x.length : Int) = m.regs ∧ ∀ n ∈ x, 0 ≤ n ∧ n ≤ 1000) := fun b hb => by
   rw [hb];unfold OkIn
   have : x.length = m.R ↔ (x.length : Int) = m.regs := by show x.length = m.regs.toNat ↔ _; omega
   rw [this]
  by_cases k2 : OkIn m x
  ·(repeat' (first |refine qv ?_ |apply qn |apply qs |apply qr |refine qe ?_ |apply qb));refine Fl.call rfl (Dk m (by omega) true ⟨fun _ => k1, fun _ => rfl⟩) rfl rfl rfl (AB _) ?_;(repeat' (first |refine qv ?_ |apply qn |apply qs |apply qr |refine AF rfl ?_));refine Fl.call rfl (r13Input_ok m x (by omega) true (hI true (Iff.intro (fun _ => k2) fun _ => rfl))) rfl rfl rfl (AB _) ?_;(repeat' (first |refine qv ?_ |apply qn |apply qs |apply qr |refine AF rfl ?_ |apply qk |apply qt));exact RetOk.of rfl (AV.Le.int (h3 k1 k2).symm)
  ·(repeat' (first |refine qv ?_ |apply qn |apply qs |apply qr |refine qe ?_ |apply qb));refine Fl.call rfl (Dk m (by omega) true ⟨fun _ => k1, fun _ => rfl⟩) rfl rfl rfl (AB _) ?_;(repeat' (first |refine qv ?_ |apply qn |apply qs |apply qr |refine AF rfl ?_));refine qc (r13Input_ok m x (by omega) false (hI false (Iff.intro (fun h => by cases h) fun h => absurd h k2))) ?_;(repeat' (first |refine qv ?_ |apply qn |apply qs |apply qr |refine AM rfl ?_ |apply qt));exact RetOk.of rfl (AV.Le.int (h2 k1 k2).symm)
 ·(repeat' (first |refine qv ?_ |apply qn |apply qs |apply qr |refine qe ?_ |apply qb));refine qc (Dk m (by omega) false (Iff.intro (fun h => by cases h) fun h => absurd h k1)) ?_;(repeat' (first |refine qv ?_ |apply qn |apply qs |apply qr |refine AM rfl ?_ |apply qt));exact RetOk.of rfl (AV.Le.int (h1 k1).symm)
end Go.Proofs.YtmmfloplhopioaaGreat
/- ref01.shifted. -/
namespace Go.AL
end Go.AL
namespace Go.Proofs.YtmmfloplhopioaaGreat
open Go.AL
theorem shifted_ok (A : List Int) (k : Nat) (wx : WOk A) (hxl : A.length ≤ 80000) (hk : k < 32) : PureFn Tryz.prog 127 [aW A, aN k] (aW (wdW (A.length + 1) (val A * 2 ^ k))) := by
 refine AC Tryz.func127 rfl Tryz.ntmps127 rfl rfl ?_;have h2 : (0 : Int) < 2 ^ k := Int.pow_pos (by omega);refine AE ?_;(repeat' (first |refine qv ?_ |apply qn |apply qr));refine ⟨AE ?_⟩;(repeat' (first |refine qv ?_ |apply qn |apply qr |refine qw ?_ |refine Bp rfl rfl rfl rfl rfl rfl rfl rfl rfl rfl eW 0 (by exact AB _) (by rfl) (by first | omega | (dsimp only; omega)) (by first | omega | (dsimp only; omega)) (by first | omega | (dsimp only; omega)) ?_|fail));refine ⟨?_⟩;refine Cb (G := List Int) (fun os => WOk os ∧ os.length = A.length + 1 ∧ val os = val A * 2 ^ k) (fun os => AU [] [(5, .row 11)] [(11, .row 1 eW os 94)]) ?_ ?_
 ·(repeat' (first |refine qv ?_ |apply qn |apply qs |apply qr |apply qb));refine AWP.loop (G := Nat × List Int × Int) (fun (i, P, c) => i ≤ A.length ∧ P.length = i ∧ WOk P ∧ 0 ≤ c ∧ c < 2 ^ k ∧ val P + BB P.length * c = BB 0 * 2 ^ k * val (A.take i))
   (fun (i, P, c) => AU [] [(0, aW A), (1, aN k), (5, .row 11), (6, aN i)] [(11, .row 1 eW (P ++ c :: List.replicate (A.length - i) 0) 94)])
   (fun (i, P, c) => A.length - i) (0, [], 0) ⟨by omega, by simp, WOk.nil, by omega, h2, by simp [val]⟩ ?_ ?_
  ·refine Ent.of [] ?_ ?_ rfl rfl;(repeat' (first |exact True.intro |refine ⟨⟨AA _, rfl⟩, ?_⟩ |refine ⟨⟨⟨_, rfl, BLe.row rfl⟩, rfl⟩, ?_⟩|fail))
  ·intro ⟨i, P, c⟩ ⟨h0, h1, h3, h4, h5, h6⟩
   have h5' : c < 4294967296 := Int.lt_of_lt_of_le h5 (by
    have : (2 : Int) ^ k ≤ 2 ^ 32 := DS (by omega) (by omega)
    rw [show (2 : Int) ^ 32 = 4294967296 from rfl] at this; exact this)
   have hW : WOk (P ++ c :: List.replicate (A.length - i) 0) := h3.append (WOk.cons h4 h5' (WOk.zeros _));(repeat' (first |refine qv ?_ |apply qn |apply qs |apply qr |refine qw ?_ |(refine AD rfl ?_ ?_ <;> intro _ <;> try (exfalso; omega)) |apply qb |apply qk |apply qx |(refine B5 rfl rfl rfl rfl rfl rfl rfl rfl (by omega) (by omega) (by assumption) ?_; intro _ _ _ _) |refine Aq rfl rfl rfl rfl rfl rfl rfl rfl (by omega) (by first | omega | (simp; omega)) ?_ |(refine Fl.rldW rfl rfl rfl rfl rfl rfl rfl (fun _ => rfl) (fun _ => rfl) (by first | omega | (simp; omega)) (by assumption) ?_; intro _ _ _ _) |refine A9 rfl rfl rfl rfl rfl rfl rfl rfl rfl rfl rfl (AB _) rfl (by first | omega | (simp; omega)) ?_|fail))
   ·rename_i hi y hy hy0 hy1 x hx hx0 hx1;rw [Int.toNat_natCast] at hy;rw [get_carry (by omega)] at hx;injection hx with hx;subst hx;have hb := or_carry hk h4 h5 hy0 hy1
    have hp : (2 : Int) ^ k ≤ 2147483648 := by
     have : (2 : Int) ^ k ≤ 2 ^ 31 := DS (by omega) (by omega);rw [show (2 : Int) ^ 31 = 2147483648 from rfl] at this; exact this
    obtain ⟨Y, hY⟩ : ∃ Y, Y = y * 2 ^ k := ⟨_, rfl⟩
    have hY0 : 0 ≤ Y := by rw [hY]; exact Int.mul_nonneg hy0 (by omega)
    have hY1 : Y ≤ 4294967295 * 2 ^ k := by rw [hY]; exact Int.mul_le_mul_of_nonneg_right (by omega) (by omega)
    have hY2 : Y / 4294967296 < 2 ^ k := by omega
    have hst := left_step (S := 2 ^ k) (B := BB 0) (w := c + Y % 4294967296) (c' := Y / 4294967296) hy (by rw [h1, DB]; omega) h6 (by rw [← hY]; omega);rw [← hY] at hb;refine LoopEnd.of (i + 1, P ++ [c + Y % 4294967296], Y / 4294967296) ⟨by omega, by simp; omega, h3.append (WOk.cons (by omega) hb.2 WOk.nil), by omega, hY2, hst⟩ (by simp only; omega) ?_;refine Ent.of [] ?_ ?_ rfl rfl;(repeat' (first |exact True.intro |refine ⟨⟨AA _, rfl⟩, ?_⟩ |refine ⟨⟨⟨_, rfl, BLe.row ?_⟩, rfl⟩, ?_⟩|fail));refine set_carry (by omega) (by omega) (by omega) ?_ ?_
    ·rw [show ((k : Int)).toNat = k from Int.toNat_natCast k, ← hY];rw [← hb.1, Bw (by omega), show Y % 18446744073709551616 % 4294967296 % 4294967296 = Y % 4294967296 by omega]
    ·rw [show ((k : Int)).toNat = k from Int.toNat_natCast k, ← hY];rw [p32];omega
   ·have hi : i = A.length := by omega
    subst hi;refine JoinOk.of (P ++ [c]) ⟨h3.append (WOk.cons h4 h5' WOk.nil), by simp; omega, ?_⟩ ?_
    ·rw [Bq, h6, List.take_length, DB, Int.one_mul, Int.mul_comm]
    ·refine Ent.of [] ?_ ?_ rfl rfl;(repeat' (first |exact True.intro |refine ⟨⟨AA _, rfl⟩, ?_⟩ |refine ⟨⟨⟨_, rfl, BLe.row ?_⟩, rfl⟩, ?_⟩|fail));simp
 ·intro os ⟨h0, h1, h3⟩;(repeat' (first |refine qv ?_ |apply qn |apply qs |apply qr |apply qt));refine Ap (Ent.freeze 11 rfl) ?_;refine RetOk.of rfl ?_;rw [← h3, ← h1, ← wdW_eq h0];exact AA _
end Go.Proofs.YtmmfloplhopioaaGreat
/- ref01.Shift, by a number that is not negative. -/
namespace Go.Proofs.YtmmfloplhopioaaGreat
open Go.AL
theorem rShift_ok (x : Int) (d k n : Nat) (hx : 0 < x) (hxl : (toW x).length ≤ 40000) (hk : k < 32) (hd : d ≤ 30000) (hn : n = 32 * d + k) : PureFn Tryz.prog 69 [aX x, aN n] (aX (x * 2 ^ n)) := by
 refine AC Tryz.func69 rfl Tryz.ntmps69 rfl rfl ?_
 have ex : ((x.natAbs : Nat) : Int) = x := by omega
 have hq : (n : Int) / 32 = d := by omega
 have hl2 : (toW (x.natAbs : Int)).length ≤ 40000 := by rw [ex]; exact hxl
 have hr : (n : Int) % 32 = k := by omega
 have c1 := shifted_ok (toW x.natAbs) k (Ak _) (by rw [ex]; omega) hk;refine AE ?_;(repeat' (first |apply qn |apply qr |refine qe ?_|fail));refine ⟨AE ?_⟩;(repeat' (first |refine qv ?_ |apply qn |apply qs |apply qr |refine AM rfl ?_));refine qc (rZeroX_ok x) ?_;(repeat' (first |refine qv ?_ |apply qn |apply qs |apply qr |refine qw ?_ |refine Fl.w rfl rfl rfl ⟨by omega, by omega, by dsimp only [hiK]; omega⟩ ?_ |(refine AD rfl ?_ ?_ <;> intro _ <;> try (exfalso; omega)) |apply qk |refine Bp rfl rfl rfl rfl rfl rfl rfl rfl rfl rfl eW 0 (by exact AB _) (by rfl) (by first | omega | (dsimp only; omega)) (by first | omega | (dsimp only; omega)) (by first | omega | (dsimp only; omega)) ?_|fail));refine Fl.call rfl c1 rfl rfl rfl (LeL.cons (AA _) (LeL.cons (AV.Le.int hr) LeL.nil)) ?_;refine qa (hby := (by simp only [List.length_replicate, DI]; omega)) (hm := (by simp only [List.length_replicate, DI]; omega)) (r := ?_)
 have hdt : ((n : Int) / 32).toNat = d := by omega
 obtain ⟨L, hL⟩ : ∃ L, L = List.replicate ((n : Int) / 32).toNat 0 ++ wdW ((toW (x.natAbs : Int)).length + 1) (val (toW (x.natAbs : Int)) * 2 ^ k) := ⟨_, rfl⟩
 have hLw : WOk L := by rw [hL]; exact (WOk.zeros _).append (wdW_ok _ _)
 have hLl : L.length ≤ 100000 := by rw [hL]; simp only [List.length_append, List.length_replicate, DI]; omega
 have hLv : sg (decide (x < 0)) (val L) = x * 2 ^ n := by
  have h2 : (0 : Int) < 2 ^ k := Int.pow_pos (by omega)
  have h3 : (2 : Int) ^ k ≤ 4294967296 := by
   have : (2 : Int) ^ k ≤ 2 ^ 32 := DS (by omega) (by omega);rw [show (2 : Int) ^ 32 = 4294967296 from rfl] at this; exact this
  have h4 := (BE (show (0 : Int) ≤ x by omega) (toW x).length).1 (Nat.le_refl _);rw [hL, hdt, Cd, val_zeros, List.length_replicate, ex, Ah (by omega), val_wdW _ _ (Int.mul_nonneg (by omega) (by omega)) ?_, decide_eq_false (by omega), Int.zero_add, show (2 : Int) ^ n = BB d * 2 ^ k by rw [BB_pow, ← Int.pow_add]; congr 1]
  ·simp only [sg, Bool.false_eq_true, if_false];grind
  ·rw [BC];have h5 : x * 2 ^ k ≤ x * 4294967296 := Int.mul_le_mul_of_nonneg_left h3 (by omega);omega
 rw [← hL];refine Fl.callF rfl 23 rfl (D2 (decide (x < 0)) L hLw hLl) rfl rfl rfl (AB _) ?_;rw [hLv];(repeat' (first |refine Fl.nil (fun _ => by kernel_rfl) ?_ |refine qe ?_ |apply qt));exact RetOk.of rfl (AA _)
end Go.Proofs.YtmmfloplhopioaaGreat
/- ref01.short: by one word. -/
namespace Go.Proofs.YtmmfloplhopioaaGreat
open Go.AL
theorem short_ok (x b : Int) (hx : 0 ≤ x) (hxl : (toW x).length ≤ 50000) (hb : 0 < b) (hb1 : b < 4294967296) : PureFn Tryz.prog 230 [aW (toW x), .v (.int .u32 b)] (.tup [aW (wdW (toW x).length (x / b)), .v (.int .u32 (x % b))]) := by
 refine AC Tryz.func230 rfl Tryz.ntmps230 rfl rfl ?_;have wx := Ak x;have hsx := Ah hx
 generalize toW x = A at *
 subst hsx;(repeat' (first |refine qv ?_ |apply qn |apply qs |apply qr |refine qw ?_ |apply qb |refine Bp rfl rfl rfl rfl rfl rfl rfl rfl rfl rfl eW 0 (by exact AB _) (by rfl) (by first | omega | (dsimp only; omega)) (by first | omega | (dsimp only; omega)) (by first | omega | (dsimp only; omega)) ?_|fail));refine AWP.loop (G := Nat × List Int × Int) (fun (i, os, r) => os.length + i = A.length ∧ WOk os ∧ 0 ≤ r ∧ r < b ∧ val (A.drop i) = val os * b + r)
  (fun (i, os, r) => AU [] [(0, aW A), (1, .v (.int .u32 b)), (6, .row 11), (7, aU r), (8, aN ((i : Int) - 1))] [(11, .row 1 eW (List.replicate i 0 ++ os) 94)])
  (fun (i, os, r) => i) (A.length, [], 0) ⟨by simp, WOk.nil, by omega, by omega, by simp [val]⟩ ?_ ?_
 ·refine Ent.of [] ?_ ?_ rfl rfl;(repeat' (first |exact True.intro |refine ⟨⟨AA _, rfl⟩, ?_⟩ |refine ⟨⟨⟨_, rfl, BLe.row ?_⟩, rfl⟩, ?_⟩|fail));simp
 ·intro ⟨i, os, r⟩ ⟨h0, h1, h2, h3, h4⟩;refine AE ?_;(repeat' (first |refine qv ?_ |apply qn |apply qs |apply qr |(refine AD rfl ?_ ?_ <;> intro _ <;> try (exfalso; omega)) |apply qk |apply qx |apply qt))
  ·refine ⟨?_⟩;refine AWP.seq (AWP.block (Cb (G := Int) (fun y => A[i - 1]? = some y ∧ 0 ≤ y ∧ y < 4294967296) (fun y => AU [] [(0, aW A), (1, .v (.int .u32 b)), (6, .row 11), (7, aU (r * 4294967296 + y)), (8, aN ((i : Int) - 1))] [(11, .row 1 eW (List.replicate i 0 ++ os) 94)]) ?_ ?_))
   ·(repeat' (first |refine qv ?_ |apply qn |apply qr |refine qw ?_ |(refine B5 rfl rfl rfl rfl rfl rfl rfl rfl (by omega) (by omega) (by assumption) ?_; intro _ _ _ _) |refine Fl.sumM rfl rfl rfl rfl rfl rfl ?_));rename_i hi y hy hy0 hy1;rw [show ((i : Int) - 1).toNat = i - 1 by omega] at hy;refine JoinOk.of y ⟨hy, hy0, hy1⟩ ?_;refine Ent.of [] ?_ ?_ rfl rfl;(repeat' (first |exact True.intro |refine ⟨⟨AA _, rfl⟩, ?_⟩ |refine ⟨⟨⟨_, rfl, BLe.row rfl⟩, rfl⟩, ?_⟩ |refine ⟨⟨AV.Le.int ?_, rfl⟩, ?_⟩|fail));rw [show (2 : Int) ^ (32 : Int).toNat = 4294967296 from rfl];omega
   ·intro y ⟨hy, hy0, hy1⟩
    have hi : 0 < i := by
     rcases Nat.eq_zero_or_pos i with h | h
     ·subst h; omega
     ·exact h
    obtain ⟨q, hq⟩ : ∃ q, q = (r * 4294967296 + y) / b := ⟨_, rfl⟩;obtain ⟨r', hr'⟩ : ∃ r', r' = (r * 4294967296 + y) % b := ⟨_, rfl⟩;have hw := over_word hb h2 h3 hy0 hy1;have hm0 := Int.emod_nonneg (r * 4294967296 + y) (show b ≠ 0 by omega);have hm1 := Int.emod_lt_of_pos (r * 4294967296 + y) hb;have hst := over_step (i := i - 1) hy (by rw [show i - 1 + 1 = i by omega]; exact h4);rw [← hq] at hw hst;rw [← hr'] at hm0 hm1 hst;(repeat' (first |refine qv ?_ |apply qn |apply qs |apply qr |refine qw ?_ |refine Fl.w rfl rfl rfl ⟨by omega, by omega, by dsimp only [hiK]; omega⟩ ?_ |refine Aq rfl rfl rfl rfl rfl rfl rfl rfl (by omega) (by first | omega | (simp; omega)) ?_ |refine A9 rfl rfl rfl rfl rfl rfl rfl rfl rfl rfl rfl (AB _) rfl (by first | omega | (simp; omega)) ?_|fail));refine LoopEnd.of (i - 1, q :: os, r') ⟨by simp only [List.length_cons]; omega, WOk.cons hw.1 hw.2 h1, hm0, hm1, hst⟩ (by simp only; omega) ?_;refine Ent.of [] ?_ ?_ rfl rfl;(repeat' (first |exact True.intro |refine ⟨⟨AA _, rfl⟩, ?_⟩ |refine ⟨⟨⟨_, rfl, BLe.row ?_⟩, rfl⟩, ?_⟩ |refine ⟨⟨AV.Le.int ?_, rfl⟩, ?_⟩|fail))
    ·exact hr'.symm
    ·omega
    ·refine set_zeros (by omega) (by omega) ?_;rw [← hq]; omega
  ·rename_i hi
   have hi0 : i = 0 := by omega
   subst hi0;rw [List.drop_zero] at h4;obtain ⟨e1, e2⟩ := over_end h4 h2 h3;refine Ap (Ent.freeze 11 rfl) ?_;refine RetOk.of rfl ?_;rw [← e1, ← e2, show A.length = os.length by omega, ← wdW_eq h1];exact AV.Le.tup (LeL.cons (AA _) (LeL.cons (AV.Le.int (by omega)) LeL.nil))
end Go.Proofs.YtmmfloplhopioaaGreat
/- Bytes az a string; the text of a small number; the reference's Parse of the law's machine. -/
namespace Go.AL
def e8 : UInt8 → List AV := fun b => [.v (.int .u8 b.toNat)]
section
variable {P : Program} {tab : Tab} {n : Nat} {s : St}
variable {ops : Array Oper} {draw : Dr} {o : Oper} {l : List Oper} {acc : List Eff} {K : Exit → St → Prop}
theorem OpJ.toS (ht : A3 P tab) (hd : ∀ d, o.dst = some d → d < n) {t t' : TypeId} {x : Operand} (hop : o.op = .convert t t' x) {e : TypeId} {sz1 by1 sz2 by2 sz3 by3 : Nat} {z1 z2 z3 : List Value} (hts : tab t = some ⟨.slice e, sz1, by1, z1⟩) (hte : tab e = some ⟨.int .u8, sz2, by2, z2⟩) (htt : tab t' = some ⟨.string, sz3, by3, z3⟩) {bs : List UInt8} (hx : opd s x = .sl 1 e8 bs) (hne : bs ≠ []) : OpJ P n o s ⟨sV bs, [], [], [], []⟩ := by
 refine AN hd fun C s' a w h β ho _ b => ?_;have hxr := AJ b x;rw [ho x (by simp [hop, Op.operands]), hx] at hxr;simp only [Rep] at hxr;obtain ⟨A, c, e1, hc, hm, hall⟩ := hxr;have h1 := (ht _ _ hts).und;have h2 := (ht _ _ hte).und;have h3 := (ht _ _ htt).und;simp only at h1 h2 h3;have hpos : 0 < bs.length := List.length_pos_iff.2 hne;obtain ⟨ad, _, hA, _⟩ := hall 0 _ (List.getElem?_eq_getElem hpos);subst hA
 have hcell : ∀ j (hj : j < bs.length), w.cell? (ad.add j) = some (.int .u8 (bs[j].toNat : Int)) := fun j hj => by
  obtain ⟨ad', us, e2, e3, e4, e5⟩ := hall j _ (List.getElem?_eq_getElem hj);injection e2 with e2;subst e2;simp only [e8, RepL, Rep] at e4;obtain ⟨u, r, rfl, rfl, rfl⟩ := e4;have := (e5 0 _ rfl).cell b.evo.has;rw [Nat.mul_one, Nat.add_zero] at this;exact this
 refine ⟨.string ⟨bs.toArray⟩, ?_, by simp only [Rep]⟩;have := run_convert_bytes_back (P := P) w t t' e ad c bs h1 h2 h3 hcell;simp only [execOp, hop, e1, Sem.run_bind, this, Result.andThen, Sem.run_pure]
theorem Fl.toS [f : Facts P tab] {t t' : TypeId} {x : Operand} (hop : o.op = .convert t t' x) {e : TypeId} {sz1 by1 sz2 by2 sz3 by3 : Nat} {z1 z2 z3 : List Value} (hts : tab t = some ⟨.slice e, sz1, by1, z1⟩) (hte : tab e = some ⟨.int .u8, sz2, by2, z2⟩) (htt : tab t' = some ⟨.string, sz3, by3, z3⟩) {bs : List UInt8} (hx : opd s x = .sl 1 e8 bs) (hne : bs ≠ []) (hg : gOk ops s o = true) (hd : dOk n o.dst = true)
  (r : Fl P n ops draw l ((Eff.mk (sV bs) [] [] [] []).app o.dst s) (Eff.mk (sV bs) [] [] [] [] :: acc) K) : Fl P n ops draw (o :: l) s acc K :=
 Ab hg (OpJ.toS f.tabOk (AY hd) hop hts hte htt hx hne) r
end
end Go.AL
namespace Go.Proofs.YtmmfloplhopioaaGreat
open Go.AL
theorem rText0_ok : PureFn Tryz.prog 218 [aX 0] (sV [48]) := by
 refine AC Tryz.func218 rfl Tryz.ntmps218 rfl rfl ?_;have c := rZero_ok (zOf 0);rw [show (zOf 0).w.length = 0 by show (toW 0).length = 0; rw [toW_zero]; rfl] at c;(repeat' (first |refine qv ?_ |apply qn |apply qs |apply qr |refine qe ?_|fail));refine qc (c) ?_;(repeat' (first |refine qv ?_ |apply qn |apply qs |apply qr |refine AM rfl ?_ |apply qt));exact RetOk.of rfl (AA _)
theorem rText1_ok : PureFn Tryz.prog 218 [aX 1] (sV [49]) := by
 refine AC Tryz.func218 rfl Tryz.ntmps218 rfl rfl ?_;have c := rZero_ok ⟨false, [1]⟩;have e1 : toW ((1 : Int).natAbs : Int) = [1] := toW_one;rw [show decide ((⟨false, [1]⟩ : Z).w.length = 0) = false from rfl] at c;have cs := short_ok 1 1000000000 (by omega) (by rw [toW_one]; simp) (by omega) (by omega);rw [toW_one] at cs;have cm := D2 false (wdW 1 (1 / 1000000000)) (wdW_ok _ _) (by rw [DI]; omega);rw [show sg false (val (wdW 1 (1 / 1000000000))) = 0 by simp [wdW, val, sg]] at cm;have e0 : toW ((0 : Int).natAbs : Int) = [] := toW_zero
 have cm' : PureFn Tryz.prog 54 [aB false, aW (wdW 1 (1 / 1000000000))] (.agg [aB false, aW []]) := by rw [← e0]; exact cm
 show AWP _ _ _ _ _ (Dq [.agg [aB (decide ((1 : Int) < 0)), aW (toW ((1 : Int).natAbs : Int))]]);rw [e1];refine AE ?_;(repeat' (first |refine qv ?_ |apply qn |apply qr |refine qe ?_|fail));refine ⟨AE ?_⟩;(repeat' (first |refine qv ?_ |apply qs |apply qr));refine qc (c) ?_;(repeat' (first |apply qn |refine AF rfl ?_ |apply qk));refine ⟨AE ?_⟩;(repeat' (first |refine qv ?_ |apply qn |apply qr));refine ⟨AE ?_⟩;(repeat' (first |refine qv ?_ |apply qn |apply qr));refine ⟨AE ?_⟩;refine Am (Dh 3 803 rfl rfl 1 e8 5) ?_;(repeat' (first |apply qb));refine AWP.loop (G := List Int × List UInt8) (fun (ws, l) => (ws = [1] ∧ l = []) ∨ (ws = [] ∧ l = [49])) (fun (ws, l) => AU [] [(1, .ptr 1 0), (3, .row 3), (4, aW ws)] [(1, .cells [aB false, aW [1]] 48), (3, .row 1 e8 l 5)]) (fun (ws, _) => ws.length) ([1], []) (.inl ⟨rfl, rfl⟩) ?_ ?_
 ·refine Ent.of [(3, 803)] ?_ ?_ rfl rfl;(repeat' (first |exact True.intro |refine ⟨⟨AA _, rfl⟩, ?_⟩ |refine ⟨⟨⟨_, rfl, BLe.cells (AB _)⟩, rfl⟩, ?_⟩ |refine ⟨⟨⟨_, rfl, BLe.row rfl⟩, rfl⟩, ?_⟩|fail))
 ·rintro ⟨ws, l⟩ (⟨rfl, rfl⟩ | ⟨rfl, rfl⟩)
  ·refine AE ?_;(repeat' (first |refine qv ?_ |apply qn |apply qs |apply qr |refine AM rfl ?_ |apply qk));refine ⟨?_⟩;(repeat' (first |refine qv ?_ |apply qn |apply qs |apply qr |apply qb));refine qc (cs) ?_;(repeat' (first |refine qv ?_ |apply qn |apply qs |apply qr));refine qc (cm') ?_;(repeat' (first |refine qv ?_ |apply qn |apply qs |apply qr |apply qb));refine AWP.loop (G := Int × Int × List UInt8) (fun (k, r, l) => (k = 0 ∧ r = 1 ∧ l = []) ∨ (k = 1 ∧ r = 0 ∧ l = [49])) (fun (k, r, l) => AU [] [(1, .ptr 1 0), (3, .row 3), (4, aW []), (5, .v (.int .u32 r)), (6, aN k)] [(1, .cells [aB false, aW [1]] 48), (3, .row 1 e8 l 5)]) (fun (k, _, _) => (1 - k).toNat) (0, 1, []) (.inl ⟨rfl, rfl, rfl⟩) ?_ ?_
   ·refine Ent.of [] ?_ ?_ rfl rfl;(repeat' (first |exact True.intro |refine ⟨⟨AA _, rfl⟩, ?_⟩ |refine ⟨⟨⟨_, rfl, BLe.cells (AB _)⟩, rfl⟩, ?_⟩ |refine ⟨⟨⟨_, rfl, BLe.row rfl⟩, rfl⟩, ?_⟩|fail))
   ·rintro ⟨k, r, l⟩ (⟨rfl, rfl, rfl⟩ | ⟨rfl, rfl, rfl⟩)
    ·refine AE ?_;(repeat' (first |refine qv ?_ |apply qn |apply qs |apply qr |refine AM rfl ?_ |apply qk));refine ⟨?_⟩;(repeat' (first |refine qv ?_ |apply qs |apply qr |refine qw ?_ |apply qb));refine ql e8 [49] ?_;refine qa (hby := (by simp)) (hm := (by simp)) (r := ?_);(repeat' (first |refine qv ?_ |apply qn |apply qr |refine qw ?_ |refine Fl.w rfl rfl rfl ⟨by omega, by omega, by dsimp only [hiK]; omega⟩ ?_|fail));refine LoopEnd.of (1, 0, [49]) (.inr ⟨rfl, rfl, rfl⟩) (by decide) ?_;refine Ent.of [(3, 42)] ?_ ?_ rfl rfl;(repeat' (first |exact True.intro |refine ⟨⟨AA _, rfl⟩, ?_⟩ |refine ⟨⟨⟨_, rfl, BLe.cells (AB _)⟩, rfl⟩, ?_⟩ |refine ⟨⟨⟨_, rfl, BLe.row rfl⟩, rfl⟩, ?_⟩|fail))
    ·refine AE ?_;(repeat' (first |refine qv ?_ |apply qn |apply qs |apply qr |refine AF rfl ?_ |apply qx));refine LoopEnd.of ([], [49]) (.inr ⟨rfl, rfl⟩) (by simp) ?_;refine Ent.of [] ?_ ?_ rfl rfl;(repeat' (first |exact True.intro |refine ⟨⟨AA _, rfl⟩, ?_⟩ |refine ⟨⟨⟨_, rfl, BLe.cells (AB _)⟩, rfl⟩, ?_⟩ |refine ⟨⟨⟨_, rfl, BLe.row rfl⟩, rfl⟩, ?_⟩|fail))
  ·(repeat' (first |refine qv ?_ |apply qn |apply qs |apply qr |refine AF rfl ?_ |apply qx));refine ⟨AE ?_⟩;(repeat' (first |refine qv ?_ |apply qn |apply qs |apply qr |refine AF rfl ?_ |apply qk));refine ⟨AE ?_⟩;(repeat' (first |refine qv ?_ |apply qn |apply qs |apply qr |apply qb));obtain ⟨l0, hl0⟩ : ∃ l0 : List UInt8, l0 = [49] := ⟨_, rfl⟩
   have hlen : l0.length = 1 := by rw [hl0]; rfl
   refine AWP.loop (G := Unit) (fun _ => True) (fun _ => AU [] [(3, .row 3), (7, aN 0)] [(3, .row 1 e8 l0 5)]) (fun _ => 0) () trivial ?_ ?_
   ·refine Ent.of [] ?_ ?_ rfl rfl;(repeat' (first |exact True.intro |refine ⟨⟨AA _, rfl⟩, ?_⟩ |refine ⟨⟨⟨_, rfl, BLe.row ?_⟩, rfl⟩, ?_⟩|fail));exact hl0.symm
   ·intro _ _;(repeat' (first |refine qv ?_ |apply qn |apply qs |apply qr |refine Fl.w rfl rfl rfl ⟨by omega, by omega, by dsimp only [hiK]; omega⟩ ?_ |(refine AD rfl ?_ ?_ <;> intro _ <;> try (exfalso; omega)) |apply qx));refine ⟨?_⟩;refine Am (Ent.freeze 3 rfl) ?_;(repeat' (first |refine qv ?_ |apply qs |apply qr));refine Fl.toS rfl rfl rfl rfl rfl (by rw [hl0]; simp) rfl rfl ?_;(repeat' (first |refine qv ?_ |apply qn |apply qt));exact RetOk.of rfl (AR (by rw [hl0]))
theorem rNum_ok (n : Int) (l : List UInt8) (h : (n = 0 ∧ l = [48]) ∨ (n = 1 ∧ l = [49])) : PureFn Tryz.prog 198 [aN n] (sV l) := by
 refine AC Tryz.func198 rfl Tryz.ntmps198 rfl rfl ?_
 have c : PureFn Tryz.prog 218 [aX n] (sV l) := by
  rcases h with ⟨rfl, rfl⟩ | ⟨rfl, rfl⟩
  ·exact rText0_ok
  ·exact rText1_ok
 (repeat' (first |refine qv ?_ |apply qn |apply qs |apply qr));refine qc (rOf_ok n (by omega) (by omega)) ?_;refine qc (c) ?_;(repeat' (first |refine qv ?_ |apply qn |apply qt));exact RetOk.of rfl (AA _)
theorem EQ (bs : List UInt8) (i : Nat) (c : UInt8) (hl : bs.length ≤ 1000) (hc : bs[i]? = some c) (h0 : 48 ≤ c.toNat) (h9 : c.toNat ≤ 57) (hn : ∀ d : UInt8, bs[i + 1]? = some d → ¬ (48 ≤ d.toNat ∧ d.toNat ≤ 57)) : PureFn Tryz.prog 167 [sV bs, aN i] (.tup [aN ((c.toNat : Int) - 48), aN ((i : Int) + 1)]) := by
 refine AC Tryz.func167 rfl Tryz.ntmps167 rfl rfl ?_;have hi : i < bs.length := (List.getElem?_eq_some_iff.1 hc).1
 have hc1 : bs[Int.toNat (i : Int)]? = some c := by rw [Int.toNat_natCast]; exact hc
 (repeat' (first |refine qv ?_ |apply qn |apply qs |apply qr |apply qb));refine AWP.loop (G := Int × Int) (fun (a, v) => (a = i ∧ v = 0) ∨ (a = i + 1 ∧ v = (c.toNat : Int) - 48)) (fun (a, v) => AU [] [(0, sV bs), (1, aN a), (6, aN v), (7, aN i)] []) (fun (a, _) => (i + 1 - a).toNat) (i, 0) (.inl ⟨rfl, rfl⟩) ?_ ?_
 ·refine Ent.of [] ?_ ?_ rfl rfl;(repeat' (first |exact True.intro |refine ⟨⟨AA _, rfl⟩, ?_⟩|fail))
 ·rintro ⟨a, v⟩ (⟨rfl, rfl⟩ | ⟨rfl, rfl⟩)
  ·refine AE ?_;(repeat' (first |refine BX rfl rfl rfl rfl rfl ?_ |refine CH rfl rfl rfl rfl rfl rfl (by assumption) (by omega) ?_ |refine qv ?_ |apply qn |apply qs |apply qr |refine qw ?_ |(refine AD rfl ?_ ?_ <;> intro _ <;> try (exfalso; omega)) |apply qk |(refine AH rfl rfl ?_ ?_ <;> intro _ <;> try (exfalso; omega))));refine ⟨?_⟩;(repeat' (first |refine CH rfl rfl rfl rfl rfl rfl (by assumption) (by omega) ?_ |refine qv ?_ |apply qn |apply qs |apply qr |refine qw ?_ |apply qb |refine Fl.cvS rfl rfl rfl rfl rfl rfl ?_));refine LoopEnd.of ((i : Int) + 1, (c.toNat : Int) - 48) (.inr ⟨rfl, rfl⟩) (by simp only; omega) ?_;refine Ent.of [] ?_ ?_ rfl rfl;(repeat' (first |exact True.intro |refine ⟨⟨AA _, rfl⟩, ?_⟩ |refine ⟨⟨AV.Le.int ?_, rfl⟩, ?_⟩|fail));omega
  ·by_cases h1 : i + 1 < bs.length
   ·obtain ⟨d, hd⟩ : ∃ d, bs[i + 1]? = some d := ⟨_, List.getElem?_eq_getElem h1⟩
    have hd1 : bs[Int.toNat ((i : Int) + 1)]? = some d := by rw [show ((i : Int) + 1).toNat = i + 1 by omega]; exact hd
    have hd2 := hn d hd;refine AE ?_;(repeat' (first |refine BX rfl rfl rfl rfl rfl ?_ |refine CH rfl rfl rfl rfl rfl rfl (by assumption) (by omega) ?_ |refine qv ?_ |apply qn |apply qs |apply qr |refine qw ?_ |refine Fl.skip rfl rfl ?_ |refine AF rfl ?_ |(refine AD rfl ?_ ?_ <;> intro _ <;> try (exfalso; omega)) |apply qx |apply qt |(refine AH rfl rfl ?_ ?_ <;> intro _ <;> try (exfalso; omega))))
    all_goals exact RetOk.of rfl (AA _)
   ·refine AE ?_;(repeat' (first |refine BX rfl rfl rfl rfl rfl ?_ |refine qv ?_ |apply qn |apply qs |apply qr |refine Fl.skip rfl rfl ?_ |refine AF rfl ?_ |apply qx |apply qt |(refine AH rfl rfl ?_ ?_ <;> intro _ <;> try (exfalso; omega))));exact RetOk.of rfl (AA _)
theorem r13Insn1_ok : PureFn Tryz.prog 168 [sV [105, 48, 62, 49]] (aIz ⟨0, 0, 1, 0⟩) := by
 refine AC Tryz.func168 rfl Tryz.ntmps168 rfl rfl ?_;have d1 : PureFn Tryz.prog 167 [sV [105, 48, 62, 49], aN 1] (.tup [aN 0, aN 2]) := EQ [105, 48, 62, 49] 1 48 (by decide) rfl (by decide) (by decide) (by intro d hd; injection hd with hd; subst hd; decide);have d2 : PureFn Tryz.prog 167 [sV [105, 48, 62, 49], aN 3] (.tup [aN 1, aN 4]) := EQ [105, 48, 62, 49] 3 49 (by decide) rfl (by decide) (by decide) (by intro d hd; cases hd);obtain ⟨bs, hbs⟩ : ∃ bs : List UInt8, bs = [105, 48, 62, 49] := ⟨_, rfl⟩
 have hl : bs.length = 4 := by rw [hbs]; rfl
 obtain ⟨c, hc, hcn⟩ : ∃ c : UInt8, bs[Int.toNat 0]? = some c ∧ c.toNat = 105 := ⟨105, by rw [hbs]; rfl, rfl⟩;rw [← hbs] at d1 d2 ⊢;(repeat' (first |refine BX rfl rfl rfl rfl rfl ?_ |refine CH rfl rfl rfl rfl rfl rfl (by assumption) (by omega) ?_ |refine qv ?_ |apply qn |apply qs |apply qr |refine qe ?_ |(refine AD rfl ?_ ?_ <;> intro _ <;> try (exfalso; omega)) |apply qb |apply qk));refine Fl.call rfl d1 rfl rfl rfl (AB _) ?_;(repeat' (first |refine qv ?_ |apply qn |apply qs |apply qr |refine qw ?_ |refine qe ?_|fail));refine Fl.call rfl d2 rfl rfl rfl (AB _) ?_;(repeat' (first |refine qv ?_ |apply qn |apply qs |apply qr |refine qe ?_ |refine AF rfl ?_ |apply qk |apply qt));exact RetOk.of rfl (AA _)
theorem r13InsnH_ok : PureFn Tryz.prog 168 [sV [104]] (aIz ⟨3, 0, 0, 0⟩) := by
 refine AC Tryz.func168 rfl Tryz.ntmps168 rfl rfl ?_;obtain ⟨bs, hbs⟩ : ∃ bs : List UInt8, bs = [104] := ⟨_, rfl⟩
 have hl : bs.length = 1 := by rw [hbs]; rfl
 rw [← hbs];(repeat' (first |refine BX rfl rfl rfl rfl rfl ?_ |refine qv ?_ |apply qn |apply qs |apply qr |refine qe ?_ |(refine AD rfl ?_ ?_ <;> intro _ <;> try (exfalso; omega)) |apply qt));exact RetOk.of rfl (AA _)
abbrev m14 : MZ := ⟨1, [⟨0, 0, 1, 0⟩, ⟨3, 0, 0, 0⟩]⟩
theorem r13Text_ok : PureFn Tryz.prog 169 [aMz m14] (sV [49, 32, 105, 48, 62, 49, 32, 104]) := by
 refine AC Tryz.func169 rfl Tryz.ntmps169 rfl rfl ?_;have n1 := rNum_ok 1 [49] (.inr ⟨rfl, rfl⟩);have n0 := rNum_ok 0 [48] (.inl ⟨rfl, rfl⟩);obtain ⟨cd, hcd⟩ : ∃ cd, cd = m14.code := ⟨_, rfl⟩
 have hl : cd.length = 2 := by rw [hcd]; rfl
 have q0 : cd[Int.toNat ((0 : Nat) : Int)]? = some ⟨0, 0, 1, 0⟩ := by rw [hcd]; rfl
 have q1 : cd[Int.toNat ((1 : Nat) : Int)]? = some ⟨3, 0, 0, 0⟩ := by rw [hcd]; rfl
 show AWP _ _ _ _ _ (Dq [.agg [aN 1, .sl 4 eIz m14.code]]);rw [← hcd];refine AE ?_;(repeat' (first |refine qv ?_ |apply qn |apply qr |refine qe ?_|fail));refine ⟨AE ?_⟩;(repeat' (first |refine qv ?_ |apply qr));refine Fl.call rfl n1 rfl rfl rfl (AB _) ?_;(repeat' (first |refine qv ?_ |apply qn));refine ⟨AE ?_⟩;(repeat' (first |refine qv ?_ |apply qn |apply qs |apply qr |apply qb));refine AWP.loop (G := Nat × List UInt8) (fun (i, l) => (i = 0 ∧ l = [49]) ∨ (i = 1 ∧ l = [49, 32, 105, 48, 62, 49]) ∨ (i = 2 ∧ l = [49, 32, 105, 48, 62, 49, 32, 104])) (fun (i, l) => AU [] [(1, .ptr 1 0), (3, sV l), (4, aN i)] [(1, .cells [aN 1, .sl 4 eIz cd] 24)]) (fun (i, _) => 2 - i) (0, [49]) (.inl ⟨rfl, rfl⟩) ?_ ?_
 ·refine Ent.of [] ?_ ?_ rfl rfl;(repeat' (first |exact True.intro |refine ⟨⟨AA _, rfl⟩, ?_⟩ |refine ⟨⟨⟨_, rfl, BLe.cells (AB _)⟩, rfl⟩, ?_⟩|fail))
 ·rintro ⟨i, l⟩ (⟨rfl, rfl⟩ | ⟨rfl, rfl⟩ | ⟨rfl, rfl⟩)
  ·(repeat' (first |refine Fl.sCat rfl rfl rfl rfl rfl rfl (by decide) ?_ |refine qv ?_ |apply qn |apply qs |apply qr |refine qe ?_ |refine AM rfl ?_ |(refine AD rfl ?_ ?_ <;> intro _ <;> try (exfalso; omega)) |apply qb |apply qk |refine qK ?_|fail));refine Fl.call rfl n0 rfl rfl rfl (AB _) ?_;(repeat' (first |refine Fl.sCat rfl rfl rfl rfl rfl rfl (by decide) ?_ |refine qv ?_|fail));refine Fl.call rfl n1 rfl rfl rfl (AB _) ?_;(repeat' (first |refine Fl.sCat rfl rfl rfl rfl rfl rfl (by decide) ?_ |refine qv ?_ |apply qn |refine Fl.nil (fun _ => by kernel_rfl) ?_ |apply qr |refine qw ?_|fail));refine LoopEnd.of (1, [49, 32, 105, 48, 62, 49]) (.inr (.inl ⟨rfl, rfl⟩)) (by decide) ?_;refine Ent.of [] ?_ ?_ rfl rfl;(repeat' (first |exact True.intro |refine ⟨⟨AA _, rfl⟩, ?_⟩ |refine ⟨⟨⟨_, rfl, BLe.cells (AB _)⟩, rfl⟩, ?_⟩|fail))
  ·(repeat' (first |refine Fl.sCat rfl rfl rfl rfl rfl rfl (by decide) ?_ |refine qv ?_ |apply qn |apply qs |apply qr |refine qw ?_ |refine qe ?_ |refine AF rfl ?_ |(refine AD rfl ?_ ?_ <;> intro _ <;> try (exfalso; omega)) |apply qb |apply qk |refine qK ?_|fail));refine LoopEnd.of (2, [49, 32, 105, 48, 62, 49, 32, 104]) (.inr (.inr ⟨rfl, rfl⟩)) (by decide) ?_;refine Ent.of [] ?_ ?_ rfl rfl;(repeat' (first |exact True.intro |refine ⟨⟨AA _, rfl⟩, ?_⟩ |refine ⟨⟨⟨_, rfl, BLe.cells (AB _)⟩, rfl⟩, ?_⟩|fail))
  ·(repeat' (first |refine qv ?_ |apply qn |apply qs |apply qr |(refine AD rfl ?_ ?_ <;> intro _ <;> try (exfalso; omega)) |apply qx));refine ⟨?_⟩;(repeat' (first |refine qv ?_ |apply qn |apply qs |apply qr |apply qt));exact RetOk.of rfl (AA _)
set_option maxHeartbeats 4000000 in
theorem r13Parse_ok : PureFn Tryz.prog 116 [sV [49, 32, 105, 48, 62, 49, 32, 104]] (.tup [aMz m14, aB true]) := by
 refine AC Tryz.func116 rfl Tryz.ntmps116 rfl rfl ?_;have u0 : (49 : UInt8).toNat = 49 := rfl;have u1 : (32 : UInt8).toNat = 32 := rfl;have u2 : (105 : UInt8).toNat = 105 := rfl;have u3 : (48 : UInt8).toNat = 48 := rfl;have u4 : (62 : UInt8).toNat = 62 := rfl;have u5 : (104 : UInt8).toNat = 104 := rfl;have d0 : PureFn Tryz.prog 167 [sV [49], aN 0] (.tup [aN 1, aN 1]) := EQ [49] 0 49 (by decide) rfl (by decide) (by decide) (by intro d hd; cases hd);have i1 := r13Insn1_ok;have i2 := r13InsnH_ok;have ct := r13Text_ok
 have cv := Dk m14 (by decide) true ⟨fun _ => ⟨by decide, by decide, by decide, by decide, fun i hi => by
  have hi : i < 2 := hi;rcases (show i = 0 ∨ i = 1 by omega) with rfl | rfl
  ·exact .inr ⟨by decide, by decide, .inr ⟨.inl rfl, rfl⟩⟩
  ·exact .inl rfl⟩, fun _ => rfl⟩
 refine AE ?_;(repeat' (first |refine qv ?_ |apply qn |apply qr |refine qe ?_|fail));refine ⟨AE ?_⟩;(repeat' (first |refine BX rfl rfl rfl rfl rfl ?_ |refine qv ?_ |apply qn |apply qs |apply qr |refine AF rfl ?_ |apply qk));refine ⟨AE ?_⟩;(repeat' (first |apply qn |apply qr |refine qe ?_|fail));refine ⟨AE ?_⟩;(repeat' (first |refine qv ?_ |apply qn |apply qr));refine ⟨AE ?_⟩;refine Am (CN 4 1 806 rfl rfl rfl 4 eIz 77) ?_;(repeat' (first |refine qv ?_ |apply qn |apply qs |apply qr |apply qb));obtain ⟨bs, hbs⟩ : ∃ bs : List UInt8, bs = [49, 32, 105, 48, 62, 49, 32, 104] := ⟨_, rfl⟩
 have hl : bs.length = 8 := by rw [hbs]; rfl
 rw [← hbs] at ct ⊢
 have g0 : bs[Int.toNat ((0 : Nat) : Int)]? = some 49 := by rw [hbs]; rfl
 have g1 : bs[Int.toNat ((1 : Nat) : Int)]? = some 32 := by rw [hbs]; rfl
 have g2 : bs[Int.toNat ((2 : Nat) : Int)]? = some 105 := by rw [hbs]; rfl
 have g3 : bs[Int.toNat ((3 : Nat) : Int)]? = some 48 := by rw [hbs]; rfl
 have g4 : bs[Int.toNat ((4 : Nat) : Int)]? = some 62 := by rw [hbs]; rfl
 have g5 : bs[Int.toNat ((5 : Nat) : Int)]? = some 49 := by rw [hbs]; rfl
 have g6 : bs[Int.toNat ((6 : Nat) : Int)]? = some 32 := by rw [hbs]; rfl
 have g7 : bs[Int.toNat ((7 : Nat) : Int)]? = some 104 := by rw [hbs]; rfl
 have s1 : (bs.drop (0 : Int).toNat).take (((1 : Nat) : Int).toNat - (0 : Int).toNat) = [49] := by rw [hbs]; rfl
 have s2 : (bs.drop (2 : Int).toNat).take (((6 : Nat) : Int).toNat - (2 : Int).toNat) = [105, 48, 62, 49] := by rw [hbs]; rfl
 have s3 : (bs.drop (7 : Int).toNat).take (((8 : Nat) : Int).toNat - (7 : Int).toNat) = [104] := by rw [hbs]; rfl
 refine AWP.loop (G := Nat × Int × Bool × Int × List IZ) (fun (i, fr, ft, rg, cd) => (i ≤ 1 ∧ fr = 0 ∧ ft = true ∧ rg = 0 ∧ cd = []) ∨ (2 ≤ i ∧ i ≤ 6 ∧ fr = 2 ∧ ft = false ∧ rg = 1 ∧ cd = []) ∨ (7 ≤ i ∧ i ≤ 8 ∧ fr = 7 ∧ ft = false ∧ rg = 1 ∧ cd = [⟨0, 0, 1, 0⟩]) ∨ (i = 9 ∧ ft = false ∧ rg = 1 ∧ cd = [⟨0, 0, 1, 0⟩, ⟨3, 0, 0, 0⟩])) (fun (i, fr, ft, rg, cd) => AU [] [(0, sV bs), (2, .ptr 2 0), (4, .ptr 4 0), (5, aN fr), (6, aB ft), (7, aN i)] [(2, .cells [aN 0, .v (.slice none 0 0)] 24), (4, .cells [aN rg, .row 806] 24), (806, .row 4 eIz cd 77)]) (fun (i, _, _, _, _) => 9 - i) (0, 0, true, 0, []) (.inl ⟨by omega, rfl, rfl, rfl, rfl⟩) ?_ ?_
 ·refine Ent.of [] ?_ ?_ rfl rfl;(repeat' (first |exact True.intro |refine ⟨⟨AA _, rfl⟩, ?_⟩ |refine ⟨⟨⟨_, rfl, BLe.cells (AB _)⟩, rfl⟩, ?_⟩ |refine ⟨⟨⟨_, rfl, BLe.row rfl⟩, rfl⟩, ?_⟩|fail))
 ·rintro ⟨i, fr, ft, rg, cd⟩ (⟨k0, rfl, rfl, rfl, rfl⟩ | ⟨k0, k1, rfl, rfl, rfl, rfl⟩ | ⟨k0, k1, rfl, rfl, rfl, rfl⟩ | ⟨rfl, rfl, rfl, rfl⟩)
  ·rcases (show i = 0 ∨ i = 1 by omega) with rfl | rfl
   ·(repeat' (first |refine BX rfl rfl rfl rfl rfl ?_ |refine CH rfl rfl rfl rfl rfl rfl (by assumption) (by omega) ?_ |refine qv ?_ |apply qn |apply qs |apply qr |refine qw ?_ |refine AM rfl ?_ |apply qb |apply qk |apply qx |(refine AH rfl rfl ?_ ?_ <;> intro _ <;> try (exfalso; omega))));refine LoopEnd.of (1, 0, true, 0, []) (.inl ⟨by omega, rfl, rfl, rfl, rfl⟩) (by simp) ?_;refine Ent.of [] ?_ ?_ rfl rfl;(repeat' (first |exact True.intro |refine ⟨⟨AA _, rfl⟩, ?_⟩ |refine ⟨⟨⟨_, rfl, BLe.cells (AB _)⟩, rfl⟩, ?_⟩ |refine ⟨⟨⟨_, rfl, BLe.row rfl⟩, rfl⟩, ?_⟩|fail))
   ·(repeat' (first |refine BX rfl rfl rfl rfl rfl ?_ |refine CH rfl rfl rfl rfl rfl rfl (by assumption) (by omega) ?_ |refine qv ?_ |apply qn |apply qs |apply qr |refine AM rfl ?_ |refine AF rfl ?_ |(refine AD rfl ?_ ?_ <;> intro _ <;> try (exfalso; omega)) |apply qb |apply qk |(refine AH rfl rfl ?_ ?_ <;> intro _ <;> try (exfalso; omega))));refine Fl.sSub rfl rfl rfl rfl rfl rfl rfl s1 (by decide) (by decide) (by omega) ?_;refine Fl.call rfl d0 rfl rfl rfl (AB _) ?_;(repeat' (first |refine qv ?_ |apply qn |apply qr |refine qw ?_ |refine qe ?_|fail));refine LoopEnd.of (2, 2, false, 1, []) (.inr (.inl ⟨by omega, by omega, rfl, rfl, rfl, rfl⟩)) (by simp) ?_;refine Ent.of [] ?_ ?_ rfl rfl;(repeat' (first |exact True.intro |refine ⟨⟨AA _, rfl⟩, ?_⟩ |refine ⟨⟨⟨_, rfl, BLe.cells (AB _)⟩, rfl⟩, ?_⟩ |refine ⟨⟨⟨_, rfl, BLe.row rfl⟩, rfl⟩, ?_⟩|fail))
  ·rcases (show i = 2 ∨ i = 3 ∨ i = 4 ∨ i = 5 ∨ i = 6 by omega) with rfl | rfl | rfl | rfl | rfl
   ·(repeat' (first |refine BX rfl rfl rfl rfl rfl ?_ |refine CH rfl rfl rfl rfl rfl rfl (by assumption) (by omega) ?_ |refine qv ?_ |apply qn |apply qs |apply qr |refine qw ?_ |refine AM rfl ?_ |(refine AD rfl ?_ ?_ <;> intro _ <;> try (exfalso; omega)) |apply qb |apply qk |apply qx |(refine AH rfl rfl ?_ ?_ <;> intro _ <;> try (exfalso; omega))));refine LoopEnd.of (3, 2, false, 1, []) (.inr (.inl ⟨by omega, by omega, rfl, rfl, rfl, rfl⟩)) (by simp) ?_;refine Ent.of [] ?_ ?_ rfl rfl;(repeat' (first |exact True.intro |refine ⟨⟨AA _, rfl⟩, ?_⟩ |refine ⟨⟨⟨_, rfl, BLe.cells (AB _)⟩, rfl⟩, ?_⟩ |refine ⟨⟨⟨_, rfl, BLe.row rfl⟩, rfl⟩, ?_⟩|fail))
   ·(repeat' (first |refine BX rfl rfl rfl rfl rfl ?_ |refine CH rfl rfl rfl rfl rfl rfl (by assumption) (by omega) ?_ |refine qv ?_ |apply qn |apply qs |apply qr |refine qw ?_ |refine AM rfl ?_ |(refine AD rfl ?_ ?_ <;> intro _ <;> try (exfalso; omega)) |apply qb |apply qk |apply qx |(refine AH rfl rfl ?_ ?_ <;> intro _ <;> try (exfalso; omega))));refine LoopEnd.of (4, 2, false, 1, []) (.inr (.inl ⟨by omega, by omega, rfl, rfl, rfl, rfl⟩)) (by simp) ?_;refine Ent.of [] ?_ ?_ rfl rfl;(repeat' (first |exact True.intro |refine ⟨⟨AA _, rfl⟩, ?_⟩ |refine ⟨⟨⟨_, rfl, BLe.cells (AB _)⟩, rfl⟩, ?_⟩ |refine ⟨⟨⟨_, rfl, BLe.row rfl⟩, rfl⟩, ?_⟩|fail))
   ·(repeat' (first |refine BX rfl rfl rfl rfl rfl ?_ |refine CH rfl rfl rfl rfl rfl rfl (by assumption) (by omega) ?_ |refine qv ?_ |apply qn |apply qs |apply qr |refine qw ?_ |refine AM rfl ?_ |(refine AD rfl ?_ ?_ <;> intro _ <;> try (exfalso; omega)) |apply qb |apply qk |apply qx |(refine AH rfl rfl ?_ ?_ <;> intro _ <;> try (exfalso; omega))));refine LoopEnd.of (5, 2, false, 1, []) (.inr (.inl ⟨by omega, by omega, rfl, rfl, rfl, rfl⟩)) (by simp) ?_;refine Ent.of [] ?_ ?_ rfl rfl;(repeat' (first |exact True.intro |refine ⟨⟨AA _, rfl⟩, ?_⟩ |refine ⟨⟨⟨_, rfl, BLe.cells (AB _)⟩, rfl⟩, ?_⟩ |refine ⟨⟨⟨_, rfl, BLe.row rfl⟩, rfl⟩, ?_⟩|fail))
   ·(repeat' (first |refine BX rfl rfl rfl rfl rfl ?_ |refine CH rfl rfl rfl rfl rfl rfl (by assumption) (by omega) ?_ |refine qv ?_ |apply qn |apply qs |apply qr |refine qw ?_ |refine AM rfl ?_ |(refine AD rfl ?_ ?_ <;> intro _ <;> try (exfalso; omega)) |apply qb |apply qk |apply qx |(refine AH rfl rfl ?_ ?_ <;> intro _ <;> try (exfalso; omega))));refine LoopEnd.of (6, 2, false, 1, []) (.inr (.inl ⟨by omega, by omega, rfl, rfl, rfl, rfl⟩)) (by simp) ?_;refine Ent.of [] ?_ ?_ rfl rfl;(repeat' (first |exact True.intro |refine ⟨⟨AA _, rfl⟩, ?_⟩ |refine ⟨⟨⟨_, rfl, BLe.cells (AB _)⟩, rfl⟩, ?_⟩ |refine ⟨⟨⟨_, rfl, BLe.row rfl⟩, rfl⟩, ?_⟩|fail))
   ·(repeat' (first |refine BX rfl rfl rfl rfl rfl ?_ |refine CH rfl rfl rfl rfl rfl rfl (by assumption) (by omega) ?_ |refine qv ?_ |apply qn |apply qs |apply qr |refine AF rfl ?_ |(refine AD rfl ?_ ?_ <;> intro _ <;> try (exfalso; omega)) |apply qb |apply qk |(refine AH rfl rfl ?_ ?_ <;> intro _ <;> try (exfalso; omega))));refine Fl.sSub rfl rfl rfl rfl rfl rfl rfl s2 (by decide) (by decide) (by omega) ?_;refine Fl.call rfl i1 rfl rfl rfl (AB _) ?_;refine ql eIz [⟨0, 0, 1, 0⟩] ?_;refine qa (hby := (by simp)) (hm := (by simp)) (r := ?_);(repeat' (first |refine qv ?_ |apply qn |refine Fl.nil (fun _ => by kernel_rfl) ?_ |apply qr |refine qw ?_ |refine qe ?_|fail));refine LoopEnd.of (7, 7, false, 1, [⟨0, 0, 1, 0⟩]) (.inr (.inr (.inl ⟨by omega, by omega, rfl, rfl, rfl, rfl⟩))) (by simp) ?_;refine Ent.of [(806, 47)] ?_ ?_ rfl rfl;(repeat' (first |exact True.intro |refine ⟨⟨AA _, rfl⟩, ?_⟩ |refine ⟨⟨⟨_, rfl, BLe.cells (AB _)⟩, rfl⟩, ?_⟩ |refine ⟨⟨⟨_, rfl, BLe.row rfl⟩, rfl⟩, ?_⟩|fail))
  ·rcases (show i = 7 ∨ i = 8 by omega) with rfl | rfl
   ·(repeat' (first |refine BX rfl rfl rfl rfl rfl ?_ |refine CH rfl rfl rfl rfl rfl rfl (by assumption) (by omega) ?_ |refine qv ?_ |apply qn |apply qs |apply qr |refine qw ?_ |refine AM rfl ?_ |(refine AD rfl ?_ ?_ <;> intro _ <;> try (exfalso; omega)) |apply qb |apply qk |apply qx |(refine AH rfl rfl ?_ ?_ <;> intro _ <;> try (exfalso; omega))));refine LoopEnd.of (8, 7, false, 1, [⟨0, 0, 1, 0⟩]) (.inr (.inr (.inl ⟨by omega, by omega, rfl, rfl, rfl, rfl⟩))) (by simp) ?_;refine Ent.of [] ?_ ?_ rfl rfl;(repeat' (first |exact True.intro |refine ⟨⟨AA _, rfl⟩, ?_⟩ |refine ⟨⟨⟨_, rfl, BLe.cells (AB _)⟩, rfl⟩, ?_⟩ |refine ⟨⟨⟨_, rfl, BLe.row rfl⟩, rfl⟩, ?_⟩|fail))
   ·(repeat' (first |refine BX rfl rfl rfl rfl rfl ?_ |refine qv ?_ |apply qn |apply qs |apply qr |refine Fl.skip rfl rfl ?_ |refine AF rfl ?_ |(refine AD rfl ?_ ?_ <;> intro _ <;> try (exfalso; omega)) |apply qb |apply qk |(refine AH rfl rfl ?_ ?_ <;> intro _ <;> try (exfalso; omega))));refine Fl.sSub rfl rfl rfl rfl rfl rfl rfl s3 (by decide) (by decide) (by omega) ?_;refine Fl.call rfl i2 rfl rfl rfl (AB _) ?_;refine ql eIz [⟨3, 0, 0, 0⟩] ?_;refine qa (hby := (by simp)) (hm := (by simp)) (r := ?_);(repeat' (first |refine qv ?_ |apply qn |refine Fl.nil (fun _ => by kernel_rfl) ?_ |apply qr |refine qw ?_ |refine qe ?_|fail));refine LoopEnd.of (9, 9, false, 1, [⟨0, 0, 1, 0⟩, ⟨3, 0, 0, 0⟩]) (.inr (.inr (.inr ⟨rfl, rfl, rfl, rfl⟩))) (by simp) ?_;refine Ent.of [(806, 47)] ?_ ?_ rfl rfl;(repeat' (first |exact True.intro |refine ⟨⟨AA _, rfl⟩, ?_⟩ |refine ⟨⟨⟨_, rfl, BLe.cells (AB _)⟩, rfl⟩, ?_⟩ |refine ⟨⟨⟨_, rfl, BLe.row rfl⟩, rfl⟩, ?_⟩|fail))
  ·(repeat' (first |refine BX rfl rfl rfl rfl rfl ?_ |refine qv ?_ |apply qn |apply qs |apply qr |(refine AD rfl ?_ ?_ <;> intro _ <;> try (exfalso; omega)) |apply qx));refine ⟨?_⟩;refine Am (Ent.freeze 806 rfl) ?_;(repeat' (first |refine qv ?_ |apply qs |apply qr));refine Fl.call rfl cv rfl rfl rfl (AB _) ?_;(repeat' (first |refine qv ?_|fail));refine Fl.call rfl ct rfl rfl rfl (AB _) ?_;(repeat' (first |refine qv ?_ |apply qn |apply qs |apply qr |refine qe ?_ |apply qk |apply qt |(refine BN rfl ?_ ?_ <;> intro _)))
   ·rename_i hne;rw [beq_self_eq_true] at hne
    cases hne
   ·exact RetOk.of rfl (AA _)
theorem law14One_ok : PureFn Tryz.prog 55 [] (aMz m14) := by
 refine AC Tryz.func55 rfl Tryz.ntmps55 rfl rfl ?_;(repeat' (first |apply qn |apply qs |apply qr |refine qe ?_|fail));refine qc (r13Parse_ok) ?_;(repeat' (first |refine qv ?_ |apply qn |apply qs |apply qr |refine qe ?_ |apply qt));exact RetOk.of rfl (AA _)
end Go.Proofs.YtmmfloplhopioaaGreat
/- ref01: SameAll. -/
namespace Go.AL
theorem take_eq_succ {α : Type} {X Y : List α} {i : Nat} {x y : α} (hx : X[i]? = some x) (hy : Y[i]? = some y) (h : X.take i = Y.take i) (e : x = y) : X.take (i + 1) = Y.take (i + 1) := by
 rw [Ad hx, Ad hy, h, e]
end Go.AL
namespace Go.Proofs.YtmmfloplhopioaaGreat
open Go.AL
theorem rSameAll_ok (X Y : List Int) (hX : ∀ x ∈ X, (toW x.natAbs).length ≤ 1000000) (hl : X.length ≤ 1000000) : PureFn Tryz.prog 28 [.sl 2 eX X, .sl 2 eX Y] (aB (decide (X = Y))) := by
 refine AC Tryz.func28 rfl Tryz.ntmps28 rfl rfl ?_;(repeat' (first |refine qv ?_ |apply qn |apply qs |apply qr |(refine Aa rfl ?_ ?_ <;> intro _ <;> try (exfalso; omega)) |apply qb |apply qk |apply qt))
 ·rename_i h;refine RetOk.of rfl (AV.Le.bool (Eq.symm (decide_eq_false fun e => h ?_)));rw [e]
 rename_i hlen;refine AWP.loop (G := Nat) (fun i => i ≤ X.length ∧ X.take i = Y.take i) (fun i => AU [] [(0, .sl 2 eX X), (1, .sl 2 eX Y), (5, aN i)] []) (fun i => X.length - i) 0 ⟨by omega, by simp⟩ ?_ ?_
 ·refine Ent.of [] ?_ ?_ rfl rfl;(repeat' (first |exact True.intro |refine ⟨⟨AA _, rfl⟩, ?_⟩|fail))
 ·intro i ⟨h0, h1⟩;(repeat' (first |refine qv ?_ |apply qn |apply qs |apply qr |(refine AD rfl ?_ ?_ <;> intro _ <;> try (exfalso; omega)) |apply qb |apply qk |apply qx |apply qt |(refine Aw rfl rfl rfl rfl rfl rfl rfl rfl (by omega) (by omega) ?_; intro _ _)|fail))
  ·rename_i hi x hx y hy;rw [Int.toNat_natCast] at hx hy;refine qc (rSame_ok x y (hX x (List.mem_of_getElem? hx))) ?_;(repeat' (first |refine qv ?_ |apply qn |refine Fl.nil (fun _ => by kernel_rfl) ?_ |apply qs |apply qr |refine qw ?_ |(refine Aa rfl ?_ ?_ <;> intro _ <;> try (exfalso; omega)) |apply qk |apply qt))
   ·rename_i hne;refine RetOk.of rfl (AV.Le.bool (Eq.symm (decide_eq_false fun e => hne ?_)));subst e;rw [hx] at hy;injection hy
   ·rename_i heq;refine LoopEnd.of (i + 1) ⟨by omega, take_eq_succ hx hy h1 heq⟩ (by omega) ?_;refine Ent.of [] ?_ ?_ rfl rfl;(repeat' (first |exact True.intro |refine ⟨⟨AA _, rfl⟩, ?_⟩|fail))
  ·rename_i hi;refine RetOk.of rfl (AV.Le.bool (Eq.symm (decide_eq_true ?_)));rw [List.take_of_length_le (by omega), List.take_of_length_le (by omega)] at h1;exact h1
end Go.Proofs.YtmmfloplhopioaaGreat
/- ref01: Under, Small; mask.Witness where there is none. -/
namespace Go.AL
end Go.AL
namespace Go.Proofs.YtmmfloplhopioaaGreat
open Go.AL
end Go.Proofs.YtmmfloplhopioaaGreat
/- Binomial coefficients: plain. -/
namespace Go.AL
end Go.AL
/- Digits of binomial coefficients under digits: plain. -/
namespace Go.AL
end Go.AL
/- MaskOnly, MaskFound. -/
namespace Go.AL
theorem toW_small {x : Nat} (h : x < 4294967296) : (toW (x : Int)).length ≤ 1 := (BE (by omega) 1).2 (by rw [BC, DB]; omega)
end Go.AL
namespace Go.Proofs.YtmmfloplhopioaaGreat
open Go.AL
end Go.Proofs.YtmmfloplhopioaaGreat
/- The law's awake: the history of a known run. -/
namespace Go.AL
theorem RunTo.run {m : MZ} {x : List Int} {n k : Nat} (h : RunTo m x n k) (hm : OkMZ m) (ho : m.mach.op (m.mach.F (inF x) k).1 = 3) : m.mach.Run (inF x) k (fun t => (m.mach.F (inF x) t).1) (fun t => (m.mach.F (inF x) t).2) := Mach.F_run hm.mach h.go ho
theorem hist_hol {m : MZ} {x : List Int} {n k : Nat} (h : RunTo m x n k) (hm : OkMZ m) (hx : OkIn m x) (ho : m.mach.op (m.mach.F (inF x) k).1 = 3) : ∀ l ∈ (hsS m x).links, HoL (hL m x k) l := hs_there hm hx (h.run hm ho)
theorem hs_ok {m : MZ} {x : List Int} (hm : OkMZ m) (hx : OkIn m x) : OkS (hsS m x) := by
 refine ⟨by show (0 : Int) ≤ (m.V : Int); omega, by have := hm.V32; show (m.V : Int) ≤ 20000; omega, ?_, fun l hl => ?_⟩
 ·have g := go_len (m := m) m.l;have h15 := hm.l15;have h4 := hm.r4;have hR := CZ hm;rw [List.length_flatMap] at g;simp only [hsS, hsK, hsA, hsC, List.length_map, List.length_append, List.length_range, List.length_cons, List.length_nil, List.length_flatMap] at g ⊢;omega
 ·obtain ⟨k, hk, rfl⟩ := List.mem_map.1 hl;exact ((Cy hm hx k hk).ok (by have := hm.V32; omega)).1
end Go.AL
namespace Go.Proofs.YtmmfloplhopioaaGreat
open Go.AL
theorem m14_ok : OkMZ m14 := ⟨by decide, by decide, by decide, by decide, fun i hi => by
  have hi : i < 2 := hi;rcases (show i = 0 ∨ i = 1 by omega) with rfl | rfl
  ·exact .inr ⟨by decide, by decide, .inr ⟨.inl rfl, rfl⟩⟩
  ·exact .inl rfl⟩
theorem m14_in : OkIn m14 [0] := ⟨rfl, by decide⟩
theorem m14_run : RunTo m14 [0] 9 1 := ⟨by decide, fun t ht => by
 have : t = 0 := by omega
 subst this
 decide, .inr (by decide)⟩
theorem m14_hL : hL m14 [0] 1 = [1, 8, 17, 1, 16, 16, 1] := by decide
theorem m14_fit : ∀ y ∈ hL m14 [0] 1, Fit y := fun y hy => by
 rw [m14_hL] at hy;refine fit_pow (e := 5) ?_ (by omega);simp only [List.mem_cons, List.not_mem_nil, or_false] at hy;rcases hy with rfl | rfl | rfl | rfl | rfl | rfl | rfl <;> decide
theorem m14_holds : PureFn Tryz.prog 30 [aS (hsS m14 [0]), .sl 2 eX [1, 8, 17, 1, 16, 16, 1]] (.tup [aB true, aN 0]) := by
 have h := Holds_yes (hsS m14 [0]) (hL m14 [0] 1) (hsS_w m14_ok m14_in) (hs_ok m14_ok m14_in) m14_fit (by rw [m14_hL]; rfl) (histL_nn _ _ _) (hist_ev m14_ok m14_in (by omega) (fun t j ht => by
  have := (m14.mach).F_le (x := inF [0]) j t;have := inF_le m14_in j
  omega) (by decide)) (hist_hol m14_run m14_ok m14_in (by decide))
 rw [m14_hL] at h;exact h
theorem m14_encode : PureFn Tryz.prog 13 [aMz m14, aI [0], aN 9] (.tup [.sl 2 eX [1, 8, 17, 1, 16, 16, 1], aN 0]) := by
 have hE := encode_ok m14 m14_ok [0] m14_in 1 (by decide) (by decide) m14_run.go true ⟨fun _ => m14_fit, fun _ => rfl⟩;have h := hEncode_ev m14 m14_ok [0] m14_in 9 1 (by decide) m14_run (by decide) hE true 0 (by rw [m14_hL]; exact m14_holds);rw [m14_hL] at h;exact h
theorem awake14_ok : PureFn Tryz.prog 22 [] (aB true) := by
 refine AC Tryz.func22 rfl Tryz.ntmps22 rfl rfl ?_;have c1 := m14_encode;have c2 := hSystem_ok m14 [0] m14_ok m14_in;have c3 := m14_holds;have s1 := rSame_ok 17 17 (by have := toW_small (x := 17) (by decide); simpa using Nat.le_trans this (by decide));have s2 := rSame_ok 16 16 (by have := toW_small (x := 16) (by decide); simpa using Nat.le_trans this (by decide));have s3 := rSame_ok 1 1 (by have := toW_small (x := 1) (by decide); simpa using Nat.le_trans this (by decide));obtain ⟨L, hL⟩ : ∃ L : List Int, L = [1, 8, 17, 1, 16, 16, 1] := ⟨_, rfl⟩
 have hl : L.length = 7 := by rw [hL]; rfl
 have g2 : L[Int.toNat 2]? = some 17 := by rw [hL]; rfl
 have g5 : L[Int.toNat 5]? = some 16 := by rw [hL]; rfl
 have g6 : L[Int.toNat 6]? = some 1 := by rw [hL]; rfl
 rw [← hL] at c1 c3
 generalize hsS m14 [0] = S at *
 clear hL;refine AE ?_;(repeat' (first |refine qv ?_ |apply qn |apply qr));refine ⟨AE ?_⟩;(repeat' (first |apply qr));refine qc (law14One_ok) ?_;refine ql eI [0] ?_;refine qc (c1) ?_;(repeat' (first |refine qv ?_ |apply qn));refine ⟨AE ?_⟩;(repeat' (first |apply qr));refine qc (law14One_ok) ?_;refine ql eI [0] ?_;refine qc (c2) ?_;(repeat' (first |refine qv ?_ |apply qn |refine qe ?_|fail));refine ⟨AE ?_⟩;(repeat' (first |refine qv ?_ |apply qr));refine qc (c3) ?_;(repeat' (first |refine qv ?_ |apply qn));refine ⟨?_⟩;(repeat' (first |refine qv ?_ |apply qs |apply qr |refine qK ?_ |(refine AH rfl rfl ?_ ?_ <;> intro _ <;> try (exfalso; omega))));refine qc (rOf_ok 17 (by omega) (by omega)) ?_;refine qc (s1) ?_;(repeat' (first |refine qv ?_ |refine qK ?_ |(refine AH rfl rfl ?_ ?_ <;> intro _ <;> try (exfalso; omega))));refine qc (rOf_ok 16 (by omega) (by omega)) ?_;refine qc (s2) ?_;(repeat' (first |refine qv ?_ |refine qK ?_ |(refine AH rfl rfl ?_ ?_ <;> intro _ <;> try (exfalso; omega))));refine qc (rOf_ok 1 (by omega) (by omega)) ?_;refine qc (s3) ?_;(repeat' (first |refine qv ?_ |refine Fl.nil (fun _ => by kernel_rfl) ?_ |apply qt));exact RetOk.of rfl (AA _)
end Go.Proofs.YtmmfloplhopioaaGreat
/- HistoryOnly. -/
namespace Go.AL
end Go.AL
namespace Go.Proofs.YtmmfloplhopioaaGreat
open Go.AL
end Go.Proofs.YtmmfloplhopioaaGreat
/- HistoryThere. -/
namespace Go.AL
theorem runTo_ex (m : MZ) (x : List Int) (n : Nat) : ∃ k, RunTo m x n k := by
 obtain ⟨k, h1, h2, h3⟩ := Mach.stop (m := m.mach) (inF x) n;exact ⟨k, h1, h2, h3⟩
theorem size_eq (a s : Nat) : ((s : Int) + 1) * ((s : Int) + (a : Int) + 1) = (((s + a + 1) * (s + 1) : Nat) : Int) := by
 rw [Int.natCast_mul, Int.mul_comm]; rfl
theorem size_s {a s : Nat} (h : (s + a + 1) * (s + 1) ≤ 131072) : s ≤ 3000 := by
 rcases Nat.lt_or_ge s 3001 with h1 | h1
 ·omega
 ·have := Nat.mul_le_mul (show 3001 ≤ s + a + 1 by omega) (show 3001 ≤ s + 1 by omega);omega
end Go.AL
namespace Go.Proofs.YtmmfloplhopioaaGreat
open Go.AL
theorem r14SumE_ok (m : MZ) (x : List Int) (hl : m.code.length ≤ 1000) (hx : OkIn m x) (hxl : x.length ≤ 1000) : PureFn Tryz.prog 65 [aMz m, aI x] (aN (addZ m x)) := by
 refine AC Tryz.func65 rfl Tryz.ntmps65 rfl rfl ?_
 have hb : ∀ i, i ≤ x.length → 0 ≤ sumL (x.take i) ∧ sumL (x.take i) ≤ 1000 * i := fun i hi => by
  have := sumL_in (l := x.take i) fun n hn => hx.2 n (List.mem_of_mem_take hn);rw [List.length_take] at this;omega
 (repeat' (first |refine qv ?_ |apply qn |apply qs |apply qr |refine qe ?_ |apply qb));refine AWP.loop (G := Nat) (fun i => i ≤ x.length) (fun i => AU [] [(1, aI x), (5, aN ((m.code.length : Int) + sumL (x.take i))), (6, aN i)] []) (fun i => x.length - i) 0 (by omega) ?_ ?_
 ·refine Ent.of [] ?_ ?_ rfl rfl;(repeat' (first |exact True.intro |refine ⟨⟨AA _, rfl⟩, ?_⟩|fail))
  all_goals simp [sumL]
 ·intro i k0;have hbi := hb i k0;refine AE ?_;(repeat' (first |refine qv ?_ |apply qn |apply qs |apply qr |(refine AD rfl ?_ ?_ <;> intro _ <;> try (exfalso; omega)) |apply qk |apply qx |apply qt))
  ·rename_i hi;obtain ⟨y, hy⟩ : ∃ y, x[i]? = some y := ⟨_, List.getElem?_eq_getElem (by omega)⟩
   have hy' : x[Int.toNat (i : Int)]? = some y := by rw [Int.toNat_natCast]; exact hy
   have hyb := hx.2 y (List.mem_of_getElem? hy);refine ⟨?_⟩;(repeat' (first |refine qv ?_ |apply qn |apply qs |apply qr |refine qw ?_ |apply qb |refine qK ?_|fail));refine LoopEnd.of (i + 1) (by omega) (by omega) ?_;refine Ent.of [] ?_ ?_ rfl rfl;(repeat' (first |exact True.intro |refine ⟨⟨AA _, rfl⟩, ?_⟩ |refine ⟨⟨AV.Le.int ?_, rfl⟩, ?_⟩|fail));rw [Ad hy, CK];simp only [sumL]; omega
  ·rename_i hi;rw [List.take_of_length_le (by omega)];exact RetOk.of rfl (AA _)
theorem r14Size_ok (m : MZ) (hm : OkMZ m) (x : List Int) (hx : OkIn m x) (s : Nat) (hs : s ≤ 1000000) : PureFn Tryz.prog 27 [aMz m, aI x, aN s] (aN (((s + (addZ m x).toNat + 1) * (s + 1) : Nat) : Int)) := by
 refine AC Tryz.func27 rfl Tryz.ntmps27 rfl rfl ?_;have h15 : m.code.length ≤ 15 := hm.l15;have hr4 := hm.r4;have hR := CZ hm;have hxe := hx.1;obtain ⟨s1, s2, s3⟩ := Dx hm hx;have c := r14SumE_ok m x (by omega) hx (by omega);obtain ⟨a, ea⟩ : ∃ a : Nat, addZ m x = a := ⟨(addZ m x).toNat, by omega⟩;rw [ea] at c s1 s2 s3 ⊢;rw [Int.toNat_natCast];have hp := size_eq a s;have hb := Nat.mul_le_mul (show s + a + 1 ≤ 1004016 by omega) (show s + 1 ≤ 1000001 by omega)
 generalize (s + a + 1) * (s + 1) = p at *
 (repeat' (first |refine qv ?_ |apply qn |apply qs |apply qr |refine qw ?_ |refine qe ?_|fail));refine qc (c) ?_;(repeat' (first |refine qv ?_ |apply qn |refine qw ?_ |apply qt));exact RetOk.of rfl (AV.Le.int (by omega))
end Go.Proofs.YtmmfloplhopioaaGreat
/- What Encode returns of a run that stops. -/
namespace Go.AL
theorem holdsR_good {f g : LZ → Bool} : ∀ {ls : List LZ}, (∀ l ∈ ls, g l = true) → CX f g ls = (true, 0) ∨ CX f g ls = (false, 4)
 | [], _ => .inl rfl
 | l :: ls, h => by
  rw [CX];split
  ·rw [if_pos (h l (by simp))];exact holdsR_good fun x hx => h x (by simp [hx])
  ·exact .inr rfl
theorem HB.fit {m : MZ} {X : List Int} {Q I : Int} {e : Nat} (h : HB m X Q I (2 ^ e : Nat)) (he : e ≤ 131040) : ∀ y ∈ X, Fit y := by
 intro y hy;obtain ⟨w1, w2, w3⟩ := h.le;have i1 := h.i1;have hVe : m.V = 3 + m.l + 2 * m.R := rfl;obtain ⟨k, hk, rfl⟩ := List.mem_iff_getElem.1 hy;have hl := h.len
 have e1 : X[k] = X.getD k 0 := by rw [List.getD_eq_getElem?_getD, List.getElem?_eq_getElem hk]; rfl
 have h0 := h.nn _ hy
 have hb : X.getD k 0 ≤ 4096 * ((2 ^ e : Nat) : Int) := by
  rcases (show k = 0 ∨ k = 1 ∨ k = 2 ∨ (3 ≤ k ∧ k < 3 + m.l) ∨ (3 + m.l ≤ k ∧ k < 3 + m.l + m.R) ∨ 3 + m.l + m.R ≤ k by omega) with rfl | rfl | rfl | ⟨h1, h2⟩ | ⟨h1, h2⟩ | h1
  ·have := h.x0; omega
  ·have := h.x1; omega
  ·have := h.x2; omega
  ·have := h.xl (k - 3) (by omega);rw [show 3 + (k - 3) = k by omega] at this;omega
  ·have := h.xr (k - (3 + m.l)) (by omega);rw [show 3 + m.l + (k - (3 + m.l)) = k by omega] at this;omega
  ·have := h.xe (k - (3 + m.l + m.R)) (by omega);rw [show 3 + m.l + m.R + (k - (3 + m.l + m.R)) = k by omega] at this;omega
 refine fit_pow (e := e + 13) ?_ (by omega)
 have : 2 ^ (e + 13) = 8192 * 2 ^ e := by rw [Nat.pow_add]; exact Nat.mul_comm _ _
 rw [this, e1];rw [e1] at h0;have : 1 ≤ 2 ^ e := Nat.one_le_two_pow;omega
end Go.AL
namespace Go.Proofs.YtmmfloplhopioaaGreat
open Go.AL
inductive EncC (m : MZ) (x : List Int) (n k : Nat) : Prop
  | ok (h1 : PureFn Tryz.prog 13 [aMz m, aI x, aN n] (.tup [.sl 2 eX (hL m x k), aN 0])) (h2 : ∀ y ∈ hL m x k, Fit y) (h3 : PureFn Tryz.prog 30 [aS (hsS m x), .sl 2 eX (hL m x k)] (.tup [aB true, aN 0])) (h4 : (k + (addZ m x).toNat + 1) * (k + 1) < 131072)
  | size (h1 : PureFn Tryz.prog 13 [aMz m, aI x, aN n] (.tup [nilV, aN 4])) (h2 : 131032 < (k + (addZ m x).toNat + 1) * (k + 1))
theorem enc_cases (m : MZ) (hm : OkMZ m) (x : List Int) (hx : OkIn m x) (n k : Nat) (hn : n ≤ 1000000) (hk : RunTo m x n k) (ho : m.mach.op (m.mach.F (inF x) k).1 = 3) : EncC m x n k := by
 have hle := hk.le;obtain ⟨a, ea⟩ : ∃ a, a = (addZ m x).toNat := ⟨_, rfl⟩
 have hmul : (k + a + 1) * (k + 1) = (k + a + 1) * k + (k + a + 1) := by rw [Nat.mul_add, Nat.mul_one]
 by_cases hg : (k + a + 1) * k + 1 ≤ 131072 ∧ k + a + 1 ≤ 131072
 ·have hx0 := hist_hol hk hm hx ho;have hnn := histL_nn (m := m) (x := x) k (fun t => (m.mach.F (inF x) t).1) (fun t => (m.mach.F (inF x) t).2);have hlen := CL (m := m) (x := x) k (fun t => (m.mach.F (inF x) t).1) (fun t => (m.mach.F (inF x) t).2)
  have hsmall : (k + a + 1) * (k + 1) ≤ 131032 → k ≤ 3000 ∧ ∀ t j, t ≤ k → (m.mach.F (inF x) t).2 j ≤ 4096 := fun h => by
   have h3 : k ≤ 3000 := size_s (a := a) (by omega);refine ⟨h3, fun t j ht => ?_⟩;have := m.mach.F_le (x := inF x) j t;have := inF_le hx j;omega
  by_cases hf : ∀ y ∈ hL m x k, Fit y
  ·have hE := encode_ok m hm x hx k (by rw [← ea]; exact hg.1) (by rw [← ea]; exact hg.2) hk.go true ⟨fun _ => hf, fun _ => rfl⟩;obtain ⟨f, hf1⟩ := boolOf (EvL (hL m x k));obtain ⟨g, hg1⟩ := boolOf (HoL (hL m x k));have hH := Holds_ok (hsS m x) (hL m x k) (hsS_w hm hx) (hs_ok hm hx) hf (by show ((hL m x k).length : Int) = (m.V : Int); rw [show (hL m x k).length = m.V from hlen]) hnn f g hf1 hg1;rcases holdsR_good (f := f) (g := g) (ls := (hsS m x).links) fun l hl => (hg1 l).2 (hx0 l hl) with h | h
   ·rw [h] at hH;have h1 := hEncode_ev m hm x hx n k hn hk ho hE true 0 hH;rw [if_pos rfl] at h1;refine .ok h1 hf hH ?_;rcases Nat.lt_or_ge ((k + (addZ m x).toNat + 1) * (k + 1)) 131072 with h2 | h2
    ·exact h2
    ·exact absurd (fun l hl => (hf1 l).1 (holdsR_true (by rw [h]) l hl).1) (hist_noev hm hx h2)
   ·rw [h] at hH;have h1 := hEncode_ev m hm x hx n k hn hk ho hE false 4 hH;rw [if_neg (by decide)] at h1;refine .size h1 ?_;rcases Nat.lt_or_ge 131032 ((k + (addZ m x).toNat + 1) * (k + 1)) with h2 | h2
    ·exact h2
    ·exfalso;obtain ⟨q1, q2⟩ := hsmall (by rw [ea]; exact h2);have hev := hist_ev hm hx (pl := fun t => (m.mach.F (inF x) t).1) (r := fun t => (m.mach.F (inF x) t).2) q1 q2 h2;rw [holdsR_all fun l hl => ⟨(hf1 l).2 (hev l hl), (hg1 l).2 (hx0 l hl)⟩] at h
     cases h
  ·have hE := encode_ok m hm x hx k (by rw [← ea]; exact hg.1) (by rw [← ea]; exact hg.2) hk.go false (Iff.intro (fun h => by cases h) fun h => absurd h hf);refine .size (hEncode_size m hm x hx n k hn hk ho _ (.inr ⟨_, rfl⟩) hE) ?_;rcases Nat.lt_or_ge 131032 ((k + (addZ m x).toNat + 1) * (k + 1)) with h2 | h2
   ·exact h2
   ·exfalso;obtain ⟨q1, q2⟩ := hsmall (by rw [ea]; exact h2);exact hf ((hist_hb hm hx (pl := fun t => (m.mach.F (inF x) t).1) (r := fun t => (m.mach.F (inF x) t).2) q1 q2).fit (by omega))
 ·have hE := encode_no m hm x hx k (by omega) (by rw [← ea]; omega);refine .size (hEncode_size m hm x hx n k hn hk ho _ (.inl rfl) hE) ?_;rw [← ea];rcases (show 131072 < (k + a + 1) * k + 1 ∨ 131072 < k + a + 1 by omega) with h | h <;> omega
end Go.Proofs.YtmmfloplhopioaaGreat
/- HistoryThere. -/
namespace Go.Proofs.YtmmfloplhopioaaGreat
open Go.AL
inductive Law14 (m : MZ) (x : List Int) : Prop
  | wide (h : PureFn Tryz.prog 21 [aMz m, aI x] (aB true))
  | bad (h : PureFn Tryz.prog 21 [aMz m, aI x] (aB false)) (e : Int) (he : e = 1 ∨ e = 2) (h2 : PureFn Tryz.prog 23 [aMz m, aI x] (aN e)) (h3 : PureFn Tryz.prog 45 [aMz m, aI x] (.tup [szZero, aN e])) (h4 : ¬ OkMZ m → e = 1) (h5 : OkMZ m → e = 2 ∧ ¬ OkIn m x) (hl : m.code.length ≤ 100) (hx : x.length ≤ 100)
  | good (h : PureFn Tryz.prog 21 [aMz m, aI x] (aB false)) (h2 : PureFn Tryz.prog 23 [aMz m, aI x] (aN 0)) (hm : OkMZ m) (hx : OkIn m x)
theorem law14_cases (m : MZ) (x : List Int) (hml : m.code.length ≤ 9223372036854775807) (hxl : x.length ≤ 9223372036854775807) : Law14 m x := by
 by_cases hw : 100 < m.code.length ∨ 100 < x.length
 ·exact .wide (law14Wide_ok m x true ⟨fun _ => hw, fun _ => rfl⟩ hml hxl)
 ·have c1 := law14Wide_ok m x false (Iff.intro (fun k => by cases k) fun k => absurd k hw) hml hxl;by_cases k1 : OkMZ m
  ·by_cases k2 : OkIn m x
   ·exact .good c1 (EW m x (by omega) (by omega) 0 (fun k => absurd k1 k) (fun _ k => absurd k2 k) (fun _ _ => rfl)) k1 k2
   ·exact .bad c1 2 (.inr rfl) (EW m x (by omega) (by omega) 2 (fun q => absurd k1 q) (fun _ _ => rfl) (fun _ q2 => absurd q2 k2)) (sizesOf_arg m x (by omega) k1 k2) (fun q => absurd k1 q) (fun _ => ⟨rfl, k2⟩) (by omega) (by omega)
  ·exact .bad c1 1 (.inl rfl) (EW m x (by omega) (by omega) 1 (fun _ => rfl) (fun q => absurd q k1) (fun q => absurd q k1)) (sizesOf_form m x (by omega) k1) (fun _ => rfl) (fun q => absurd q k1) (by omega) (by omega)
end Go.Proofs.YtmmfloplhopioaaGreat
/- The reference's runs: Copy, Start, Step, States. -/
namespace Go.Proofs.YtmmfloplhopioaaGreat
open Go.AL
theorem DR (a : Int) (rs : List Int) (hl : rs.length ≤ 100000) : IoFn Tryz.prog 126 [aSt a rs] [] (.ret (.agg [aN a, .row 900])) [(900, .row 1 eI rs 3)] := by
 refine AG Tryz.func126 rfl Tryz.ntmps126 rfl rfl rfl ?_;(repeat' (first |refine qv ?_ |apply qn |apply qs |apply qr |refine qe ?_|fail));refine DH rfl rfl rfl rfl rfl rfl rfl eI [] rfl rfl rfl rfl (by simp) (AB _) ?_;(repeat' (first |refine qv ?_|fail));refine qa (hby := (by dsimp only [List.length_nil]; omega)) (hm := (by simp; omega)) (r := ?_);(repeat' (first |refine Fl.nil (fun _ => by kernel_rfl) ?_ |refine qe ?_ |apply qt));exact ⟨⟨[(900, 8)], _, _, AK _ _ _, rfl, AA _, rfl, ⟨⟨⟨_, rfl, BLe.row rfl⟩, rfl⟩, trivial⟩, rfl, rfl⟩⟩
theorem r13Start_ok (x : List Int) (hl : x.length ≤ 100000) : PureFn Tryz.prog 67 [aI x] (aSt 0 x) := by
 refine AC Tryz.func67 rfl Tryz.ntmps67 rfl rfl ?_;have h := DR 0 x hl;(repeat' (first |refine qv ?_ |apply qn |apply qs |apply qr |refine qe ?_|fail));refine Ay rfl [(900, 901)] h rfl rfl (AB _) rfl trivial rfl rfl rfl rfl rfl ?_;(repeat' (first |apply qn |refine qe ?_ |apply qt));refine Ap (Ent.freeze 901 rfl) ?_;exact RetOk.of rfl (AA _)
section
variable (m : MZ) (a : Nat) (rs : List Int) (z : IZ)
theorem r13Over_ok (hl : rs.length ≤ 100000) (hz : m.code[Int.toNat (a : Int)]? = some z) (ha : a < m.code.length) (hrl : z.op = 3 ∨ (z.op = 1 ∧ 0 ≤ z.rg ∧ z.rg < rs.length ∧ rs[z.rg.toNat]? = some 0)) : PureFn Tryz.prog 68 [aMz m, aSt a rs] (.tup [.agg [aN 0, .v (.slice none 0 0)], aN 5]) := by
 refine AC Tryz.func68 rfl Tryz.ntmps68 rfl rfl ?_;have h := DR a rs hl;rcases hrl with h3 | ⟨h1, h0, h2, hv⟩
 ·(repeat' (first |refine qv ?_ |apply qn |apply qs |apply qr |refine qe ?_ |refine qK ?_|fail));refine Ay rfl [(900, 901)] h rfl rfl (AB _) rfl trivial rfl rfl rfl rfl rfl ?_;(repeat' (first |refine qv ?_ |apply qn |refine Fl.nil (fun _ => by kernel_rfl) ?_ |apply qs |apply qr |refine qe ?_ |(refine AD rfl ?_ ?_ <;> intro _ <;> try (exfalso; omega)) |apply qb |apply qt));exact RetOk.of rfl (AA _)
 ·(repeat' (first |refine qv ?_ |apply qn |apply qs |apply qr |refine qe ?_ |refine qK ?_|fail));refine Ay rfl [(900, 901)] h rfl rfl (AB _) rfl trivial rfl rfl rfl rfl rfl ?_;(repeat' (first |refine CI rfl rfl rfl rfl rfl rfl rfl (fun _ => rfl) (fun _ => rfl) (by assumption) ?_ |refine qv ?_ |apply qn |refine Fl.nil (fun _ => by kernel_rfl) ?_ |apply qs |apply qr |refine qe ?_ |refine AM rfl ?_ |(refine AD rfl ?_ ?_ <;> intro _ <;> try (exfalso; omega)) |apply qb |apply qt |refine Aq rfl rfl rfl rfl rfl rfl rfl rfl (by omega) (by first | omega | (simp; omega)) ?_|fail));exact RetOk.of rfl (AA _)
variable (v : Int)
theorem r13Inc_ok (hl : rs.length ≤ 100000) (hz : m.code[Int.toNat (a : Int)]? = some z) (ha : a < m.code.length) (ho : z.op = 0) (hrl : 0 ≤ z.rg ∧ z.rg < rs.length) (hv : rs[z.rg.toNat]? = some v) (h0 : 0 ≤ v) (h1 : v < 1000000000) : PureFn Tryz.prog 68 [aMz m, aSt a rs] (.tup [aSt z.nx (rs.set z.rg.toNat (v + 1)), aN 0]) := by
 refine AC Tryz.func68 rfl Tryz.ntmps68 rfl rfl ?_;have h := DR a rs hl
 have hv2 : (rs.set z.rg.toNat (v + 1))[z.rg.toNat]? = some (v + 1) := by rw [List.getElem?_set, if_pos rfl, if_pos (by omega)]
 have hl2 : (rs.set z.rg.toNat (v + 1)).length = rs.length := List.length_set;(repeat' (first |refine qv ?_ |apply qn |apply qs |apply qr |refine qe ?_ |refine qK ?_|fail));refine Ay rfl [(900, 901)] h rfl rfl (AB _) rfl trivial rfl rfl rfl rfl rfl ?_;(repeat' (first |refine CI rfl rfl rfl rfl rfl rfl rfl (fun _ => rfl) (fun _ => rfl) (by assumption) ?_ |refine qv ?_ |apply qn |refine Fl.nil (fun _ => by kernel_rfl) ?_ |apply qs |apply qr |refine qw ?_ |refine qe ?_ |(refine AD rfl ?_ ?_ <;> intro _ <;> try (exfalso; omega)) |apply qb |apply qk |apply qt |refine Aq rfl rfl rfl rfl rfl rfl rfl rfl (by omega) (by first | omega | (simp; omega)) ?_ |refine A9 rfl rfl rfl rfl rfl rfl rfl rfl rfl rfl rfl (AB _) rfl (by first | omega | (simp; omega)) ?_|fail));refine Ap (Ent.freeze 901 rfl) ?_;exact RetOk.of rfl (AA _)
theorem r13Dec_ok (hl : rs.length ≤ 100000) (hz : m.code[Int.toNat (a : Int)]? = some z) (ha : a < m.code.length) (ho : z.op = 1) (hrl : 0 ≤ z.rg ∧ z.rg < rs.length) (hv : rs[z.rg.toNat]? = some v) (h0 : 0 < v) (h1 : v < 1000000000) : PureFn Tryz.prog 68 [aMz m, aSt a rs] (.tup [aSt z.nx (rs.set z.rg.toNat (v - 1)), aN 0]) := by
 refine AC Tryz.func68 rfl Tryz.ntmps68 rfl rfl ?_;have h := DR a rs hl;(repeat' (first |refine qv ?_ |apply qn |apply qs |apply qr |refine qe ?_ |refine qK ?_|fail));refine Ay rfl [(900, 901)] h rfl rfl (AB _) rfl trivial rfl rfl rfl rfl rfl ?_;(repeat' (first |refine CI rfl rfl rfl rfl rfl rfl rfl (fun _ => rfl) (fun _ => rfl) (by assumption) ?_ |refine qv ?_ |apply qn |refine Fl.nil (fun _ => by kernel_rfl) ?_ |apply qs |apply qr |refine qw ?_ |refine qe ?_ |(refine AD rfl ?_ ?_ <;> intro _ <;> try (exfalso; omega)) |apply qb |apply qk |apply qt |refine Aq rfl rfl rfl rfl rfl rfl rfl rfl (by omega) (by first | omega | (simp; omega)) ?_ |refine A9 rfl rfl rfl rfl rfl rfl rfl rfl rfl rfl rfl (AB _) rfl (by first | omega | (simp; omega)) ?_|fail));refine Ap (Ent.freeze 901 rfl) ?_;exact RetOk.of rfl (AA _)
theorem r13Jmp_ok (hl : rs.length ≤ 100000) (hz : m.code[Int.toNat (a : Int)]? = some z) (ha : a < m.code.length) (ho : z.op = 2) (hrl : 0 ≤ z.rg ∧ z.rg < rs.length) (hv : rs[z.rg.toNat]? = some v) : PureFn Tryz.prog 68 [aMz m, aSt a rs] (.tup [aSt (if v = 0 then z.zr else z.nx) rs, aN 0]) := by
 refine AC Tryz.func68 rfl Tryz.ntmps68 rfl rfl ?_;have h := DR a rs hl;by_cases e : v = 0
 ·rw [if_pos e];(repeat' (first |refine qv ?_ |apply qn |apply qs |apply qr |refine qe ?_ |refine qK ?_|fail));refine Ay rfl [(900, 901)] h rfl rfl (AB _) rfl trivial rfl rfl rfl rfl rfl ?_;(repeat' (first |refine CI rfl rfl rfl rfl rfl rfl rfl (fun _ => rfl) (fun _ => rfl) (by assumption) ?_ |refine qv ?_ |apply qn |refine Fl.nil (fun _ => by kernel_rfl) ?_ |apply qs |apply qr |refine qe ?_ |(refine AD rfl ?_ ?_ <;> intro _ <;> try (exfalso; omega)) |apply qb |apply qt |refine Aq rfl rfl rfl rfl rfl rfl rfl rfl (by omega) (by first | omega | (simp; omega)) ?_|fail));refine Ap (Ent.freeze 901 rfl) ?_;exact RetOk.of rfl (AA _)
 ·rw [if_neg e];(repeat' (first |refine qv ?_ |apply qn |apply qs |apply qr |refine qe ?_ |refine qK ?_|fail));refine Ay rfl [(900, 901)] h rfl rfl (AB _) rfl trivial rfl rfl rfl rfl rfl ?_;(repeat' (first |refine CI rfl rfl rfl rfl rfl rfl rfl (fun _ => rfl) (fun _ => rfl) (by assumption) ?_ |refine qv ?_ |apply qn |refine Fl.nil (fun _ => by kernel_rfl) ?_ |apply qs |apply qr |refine qe ?_ |(refine AD rfl ?_ ?_ <;> intro _ <;> try (exfalso; omega)) |apply qb |apply qk |apply qt |refine Aq rfl rfl rfl rfl rfl rfl rfl rfl (by omega) (by first | omega | (simp; omega)) ?_|fail));refine Ap (Ent.freeze 901 rfl) ?_;exact RetOk.of rfl (AA _)
end
theorem r13Step_ok (m : MZ) (hm : OkMZ m) (x : Nat → Nat) (t : Nat) (ht : t ≤ 1000000) (hx : ∀ j, x j ≤ 1000) (hc : (m.mach.F x t).1 < m.l) : (m.mach.Over (m.mach.F x t) → PureFn Tryz.prog 68 [aMz m, aSt (m.mach.F x t).1 (rgL m.R (m.mach.F x t).2)] (.tup [.agg [aN 0, .v (.slice none 0 0)], aN 5])) ∧ (¬ m.mach.Over (m.mach.F x t) → PureFn Tryz.prog 68 [aMz m, aSt (m.mach.F x t).1 (rgL m.R (m.mach.F x t).2)] (.tup [aSt (m.mach.F x (t + 1)).1 (rgL m.R (m.mach.F x (t + 1)).2), aN 0])) := by
 have hI := DF hm hc
 have hz : m.code[Int.toNat (((m.mach.F x t).1 : Nat) : Int)]? = some (m.at (m.mach.F x t).1) := by rw [Int.toNat_natCast]; exact EH hc
 obtain ⟨z, ez⟩ : ∃ z, z = m.at (m.mach.F x t).1 := ⟨_, rfl⟩
 have eo : m.mach.op (m.mach.F x t).1 = z.op.toNat := by rw [ez]; rfl
 have er : m.mach.rg (m.mach.F x t).1 = z.rg.toNat := by rw [ez]; rfl
 have en : m.mach.nx (m.mach.F x t).1 = z.nx.toNat := by rw [ez]; rfl
 have ezr : m.mach.zr (m.mach.F x t).1 = z.zr.toNat := by rw [ez]; rfl
 rw [← ez] at hI hz;have hR := CZ hm;have hr4 := hm.r4
 have hRl : (rgL m.R (m.mach.F x t).2).length ≤ 100000 := by rw [BL]; omega
 rcases hI with k | ⟨⟨k1, k2⟩, ⟨k3, k3'⟩, k4⟩
 ·have h3 : z.op = 3 := by rw [k]; rfl
  exact ⟨fun _ => r13Over_ok m _ _ z hRl hz hc (.inl h3), fun h => absurd (.inl (by rw [eo, h3]; rfl)) h⟩
 ·have hrl : 0 ≤ z.rg ∧ z.rg < (rgL m.R (m.mach.F x t).2).length := by rw [BL]; exact ⟨k1, k2⟩
  have hv : (rgL m.R (m.mach.F x t).2)[z.rg.toNat]? = some (((m.mach.F x t).2 z.rg.toNat : Nat) : Int) := CE (by omega)
  have hbv : (m.mach.F x t).2 z.rg.toNat ≤ 1001000 := by
   have := m.mach.F_le (x := x) z.rg.toNat t;have := hx z.rg.toNat;omega
  rcases (show z.op = 0 ∨ z.op = 1 ∨ z.op = 2 by omega) with h | h | h
  ·refine ⟨fun ho => ?_, fun _ => ?_⟩
   ·rcases ho with ho | ⟨ho, _⟩
    ·rw [eo, h] at ho; cases ho
    ·rw [eo, h] at ho; cases ho
   ·obtain ⟨f1, f2⟩ := F_inc (m := m) (x := x) (t := t) (by rw [eo, h]; rfl) (by rw [er]; omega);have := r13Inc_ok m _ _ z _ hRl hz hc h hrl hv (by omega) (by omega);rw [f1, f2, en, er, show ((z.nx.toNat : Nat) : Int) = z.nx by omega];exact this
  ·by_cases hp : (m.mach.F x t).2 z.rg.toNat = 0
   ·refine ⟨fun _ => r13Over_ok m _ _ z hRl hz hc (.inr ⟨h, hrl.1, hrl.2, by rw [hv, hp]; rfl⟩), fun ho => absurd (.inr ⟨by rw [eo, h]; rfl, by rw [er]; exact hp⟩) ho⟩
   ·refine ⟨fun ho => ?_, fun _ => ?_⟩
    ·rcases ho with ho | ⟨_, ho⟩
     ·rw [eo, h] at ho; cases ho
     ·rw [er] at ho; exact absurd ho hp
    ·obtain ⟨f1, f2⟩ := F_dec (m := m) (x := x) (t := t) (by rw [eo, h]; rfl) (by rw [er]; omega);have := r13Dec_ok m _ _ z _ hRl hz hc h hrl hv (by omega) (by omega);rw [f1, f2, en, er, show ((z.nx.toNat : Nat) : Int) = z.nx by omega, show (((m.mach.F x t).2 z.rg.toNat - 1 : Nat) : Int) = (((m.mach.F x t).2 z.rg.toNat : Nat) : Int) - 1 by omega];exact this
  ·refine ⟨fun ho => ?_, fun _ => ?_⟩
   ·rcases ho with ho | ⟨ho, _⟩
    ·rw [eo, h] at ho; cases ho
    ·rw [eo, h] at ho; cases ho
   ·obtain ⟨f1, f2⟩ := F_jmp (m := m) (x := x) (t := t) (by rw [eo, h]; rfl);have := r13Jmp_ok m _ _ z _ hRl hz hc h hrl hv;rw [f1, f2, en, er, ezr];by_cases e : (m.mach.F x t).2 z.rg.toNat = 0
    ·rw [if_pos e, show ((z.zr.toNat : Nat) : Int) = z.zr by omega];rw [if_pos (by omega)] at this;exact this
    ·rw [if_neg e, show ((z.nx.toNat : Nat) : Int) = z.nx by omega];rw [if_neg (by omega)] at this;exact this
theorem r14States_ok (m : MZ) (hm : OkMZ m) (x : List Int) (hx : OkIn m x) (n k : Nat) (hn : n ≤ 1000000) (hk : RunTo m x n k) (b : Bool) (hb : b = true ↔ m.mach.op (m.mach.F (inF x) k).1 = 3) : PureFn Tryz.prog 26 [aMz m, aI x, aN n] (.tup [.sl 2 eSt (stL m x (k + 1)), aB b]) := by
 refine AC Tryz.func26 rfl Tryz.ntmps26 rfl rfl ?_;have hkn := hk.le;have hxl := hx.1;have hr4 := hm.r4;have hR := CZ hm;have cS := r13Start_ok x (by omega);have hlt := Mach.F_lt hm.mach (inF x) hk.go;have e0 : rgL m.R (m.mach.F (inF x) 0).2 = x := inF_eq hx;have hc := hlt k (Nat.le_refl _);have hI := DF hm hc;have hlt2 : (m.mach.F (inF x) k).1 < m.code.length := hc;have hst1 : (stF m x k).1 = (((m.mach.F (inF x) k).1 : Nat) : Int) := rfl
 have hz : m.code[Int.toNat (stF m x k).1]? = some (m.at (m.mach.F (inF x) k).1) := by rw [hst1, Int.toNat_natCast]; exact EH hc
 have eo : m.mach.op (m.mach.F (inF x) k).1 = (m.at (m.mach.F (inF x) k).1).op.toNat := rfl;rw [eo] at hb
 have hop : (m.at (m.mach.F (inF x) k).1).op = 3 ↔ (m.at (m.mach.F (inF x) k).1).op.toNat = 3 := by omega
 refine AE ?_;(repeat' (first |refine qv ?_ |apply qn |apply qr |refine qe ?_|fail));refine ⟨AE ?_⟩;(repeat' (first |refine qv ?_ |apply qr));refine qc (cS) ?_;(repeat' (first |apply qn |refine qe ?_|fail));refine ⟨AE ?_⟩;(repeat' (first |refine qv ?_ |apply qr));refine DH rfl rfl rfl rfl rfl rfl rfl eSt [(0, x)] rfl rfl rfl rfl (by intro _ _; rfl) (AB _) ?_;(repeat' (first |refine qv ?_ |apply qn));refine ⟨AE ?_⟩;(repeat' (first |refine qv ?_ |apply qn |apply qs |apply qr |apply qb));refine AWP.loop (G := Nat) (fun i => i ≤ k) (fun i => AU [] [(2, aN n), (3, .ptr 3 0), (8, .ptr 8 0), (9, .row 9), (10, aN i)] [(3, .cells (eMz m) 24), (8, .cells (eSt (stF m x i)) 71), (9, .row 2 eSt (stL m x (i + 1)) 71)]) (fun i => k + 1 - i) 0 (by omega) ?_ ?_
 ·refine Ent.of [(9, 16)] ?_ ?_ rfl rfl;(repeat' (first |exact True.intro |refine ⟨⟨AA _, rfl⟩, ?_⟩ |refine ⟨⟨⟨_, rfl, BLe.cells (AB _)⟩, rfl⟩, ?_⟩ |refine ⟨⟨⟨_, rfl, BLe.row ?_⟩, rfl⟩, ?_⟩ |refine ⟨⟨⟨_, rfl, BLe.cells ?_⟩, rfl⟩, ?_⟩|fail))
  ·exact LeL.cons (AA _) (LeL.cons (AR (congrArg (AV.sl 1 eI) e0.symm)) LeL.nil)
  ·show [(0, x)] = [stF m x 0];rw [stF, e0]; rfl
 ·intro i i0;have hll := stL_len m x (i + 1);obtain ⟨so, sn⟩ := r13Step_ok m hm (inF x) i (by omega) (inF_le hx) (hlt i i0);by_cases hik : i < k
  ·have hs := sn (hk.go i hik);(repeat' (first |refine qv ?_ |apply qn |apply qs |apply qr |(refine AD rfl ?_ ?_ <;> intro _ <;> try (exfalso; omega)) |apply qb |apply qk));refine qc (hs) ?_;(repeat' (first |refine qv ?_ |apply qn |apply qs |apply qr |refine qe ?_ |refine AF rfl ?_ |apply qk));refine ql eSt [stF m x (i + 1)] ?_;refine qa (hby := (by dsimp only [List.length_nil, List.length_cons]; omega)) (hm := (by simp; omega)) (r := ?_);(repeat' (first |refine qv ?_ |apply qn |apply qr |refine qw ?_|fail));refine LoopEnd.of (i + 1) (by omega) (by omega) ?_;refine Ent.of [(9, 34)] ?_ ?_ rfl rfl;(repeat' (first |exact True.intro |refine ⟨⟨AA _, rfl⟩, ?_⟩ |refine ⟨⟨⟨_, rfl, BLe.cells (AB _)⟩, rfl⟩, ?_⟩ |refine ⟨⟨⟨_, rfl, BLe.row ?_⟩, rfl⟩, ?_⟩|fail));exact (stL_succ m x (i + 1)).symm
  ·have hik : i = k := by omega
   subst hik;by_cases hin : i < n
   ·have hs := so (by
     rcases hk.stop with h | h
     ·omega
     ·exact h)
    (repeat' (first |refine qv ?_ |apply qn |apply qs |apply qr |(refine AD rfl ?_ ?_ <;> intro _ <;> try (exfalso; omega)) |apply qb |apply qk));refine qc (hs) ?_;(repeat' (first |refine qv ?_ |apply qn |apply qs |apply qr |refine qe ?_ |refine AM rfl ?_ |apply qx));refine ⟨?_⟩;refine Am (Ent.freeze 9 rfl) ?_;(repeat' (first |refine qv ?_ |refine Fl.nil (fun _ => by kernel_rfl) ?_ |apply qs |apply qr |apply qt |refine qK ?_|fail));exact RetOk.of rfl (AV.Le.tup (LeL.cons (AA _) (LeL.cons (AV.Le.bool (dec_of hb hop)) LeL.nil)))
   ·(repeat' (first |refine qv ?_ |apply qn |apply qs |apply qr |(refine AD rfl ?_ ?_ <;> intro _ <;> try (exfalso; omega)) |apply qx));refine ⟨?_⟩;refine Am (Ent.freeze 9 rfl) ?_;(repeat' (first |refine qv ?_ |refine Fl.nil (fun _ => by kernel_rfl) ?_ |apply qs |apply qr |apply qt |refine qK ?_|fail));exact RetOk.of rfl (AV.Le.tup (LeL.cons (AA _) (LeL.cons (AV.Le.bool (dec_of hb hop)) LeL.nil)))
end Go.Proofs.YtmmfloplhopioaaGreat
/- The reference's History. -/
namespace Go.AL
theorem len_pow {v : Int} {e : Nat} (h : v.natAbs < 2 ^ e) (he : e ≤ 131072) : (toW v.natAbs).length ≤ 4096 := (fit_pow h he).len
structure HI (m : MZ) (x : List Int) (k a t u jj : Nat) (xs : List Int) : Prop where
  len : xs.length = m.V
  h0 : xs[0]? = some (k : Int)
  h1 : xs[1]? = some ((2 : Int) ^ (k + a))
  h2 : xs[2]? = some ((ds (2 ^ (k + a + 1)) u (fun _ => 1) : Nat) : Int)
  hl : ∀ i, i < m.l → xs[3 + i]? = some ((ds (2 ^ (k + a + 1)) u (plD (fun t => (m.mach.F (inF x) t).1) i) : Nat) : Int)
  hr : ∀ j, j < m.R → xs[3 + m.l + j]? = some ((ds (2 ^ (k + a + 1)) (if j < jj then t + 1 else t) (fun t => (m.mach.F (inF x) t).2 j) : Nat) : Int)
theorem Ai {l : List Int} {i j : Nat} {v : Int} (hi : i < l.length) : (l.set i v)[j]? = if j = i then some v else l[j]? := by
 rw [List.getElem?_set];by_cases h : i = j
 ·subst h; rw [if_pos rfl, if_pos hi, if_pos rfl]
 ·rw [if_neg h, if_neg fun e => h e.symm]
end Go.AL
namespace Go.Proofs.YtmmfloplhopioaaGreat
open Go.AL
theorem rShiftN_ok (v n : Nat) (hv : v < 4294967296) (hn : n ≤ 900000) : PureFn Tryz.prog 69 [aX v, aN n] (aX (((v * 2 ^ n : Nat) : Int))) := by
 rcases Nat.eq_zero_or_pos v with h | h
 ·subst h;rw [Nat.zero_mul];refine AC Tryz.func69 rfl Tryz.ntmps69 rfl rfl ?_;(repeat' (first |refine qv ?_ |apply qn |apply qs |apply qr |refine qe ?_ |refine AM rfl ?_));refine qc (rZeroX_ok 0) ?_;(repeat' (first |refine qv ?_ |apply qn |apply qs |apply qr |refine qe ?_ |refine AM rfl ?_ |apply qt));exact RetOk.of rfl (AA _)
 ·have := rShift_ok (v : Int) (n / 32) (n % 32) n (by omega) (by have := toW_small (x := v) hv; omega) (by omega) (by omega) (by omega);rw [show ((v * 2 ^ n : Nat) : Int) = (v : Int) * 2 ^ n by rw [Int.natCast_mul, Int.natCast_pow]; rfl];exact this
set_option maxHeartbeats 2000000 in
theorem r14History_ok (m : MZ) (hm : OkMZ m) (x : List Int) (hx : OkIn m x) (k : Nat) (hgo : ∀ t, t < k → ¬ m.mach.Over (m.mach.F (inF x) t)) (hsz : (k + (addZ m x).toNat + 1) * (k + 1) < 131072) : PureFn Tryz.prog 29 [aMz m, aI x, .sl 2 eSt (stL m x (k + 1))] (.sl 2 eX (hL m x k)) := by
 refine AC Tryz.func29 rfl Tryz.ntmps29 rfl rfl ?_;obtain ⟨s1, s2, s3⟩ := Dx hm hx;have h15 : m.code.length ≤ 15 := hm.l15;have hl1 : 1 ≤ m.code.length := hm.l1;have hr1 := hm.r1;have hr4 := hm.r4;have hR := CZ hm;have hxe := hx.1;have hll : m.l = m.code.length := rfl;have hVe : m.V = 3 + m.code.length + 2 * m.R := rfl;have cSum := r14SumE_ok m x (by omega) hx (by omega)
 have cV : PureFn Tryz.prog 34 [aMz m] (aN m.V) := by
  refine AC Tryz.func34 rfl Tryz.ntmps34 rfl rfl ?_;(repeat' (first |refine qv ?_ |apply qn |apply qs |apply qr |refine qw ?_ |refine qe ?_ |apply qt));exact RetOk.of rfl (AV.Le.int (by omega))
 obtain ⟨a, ea⟩ : ∃ a : Nat, addZ m x = a := ⟨(addZ m x).toNat, by omega⟩;rw [ea, Int.toNat_natCast] at hsz;rw [ea] at s1 s2 cSum;have hk : k ≤ 3000 := size_s (a := a) (by omega);obtain ⟨g0, g1, g2, g3, g4, g5⟩ := EC (m := m) (x := x) k (fun t => (m.mach.F (inF x) t).1) (fun t => (m.mach.F (inF x) t).2);have hHl := CL (m := m) (x := x) k (fun t => (m.mach.F (inF x) t).1) (fun t => (m.mach.F (inF x) t).2);rw [ea, Int.toNat_natCast, show 2 * 2 ^ (k + a) = 2 ^ (k + a + 1) by rw [Nat.pow_succ]; omega] at g2 g3 g4;rw [ea, Int.toNat_natCast] at g1
 have hin : ∀ j, j < m.R → inF x j ≤ a := fun j hj => by
  have := (in_le hm hx).2 j hj;rw [ea, Int.toNat_natCast] at this;exact this
 have hrb : ∀ t j, t ≤ k → j < m.R → (m.mach.F (inF x) t).2 j ≤ k + a ∧ (m.mach.F (inF x) t).2 j ≤ 10000 := fun t j ht hj => by
  have := m.mach.F_le (x := inF x) j t;have := hin j hj;omega
 have hlt := Mach.F_lt hm.mach (inF x) hgo;obtain ⟨B, eB⟩ : ∃ B, B = k + a + 1 := ⟨_, rfl⟩
 have hQ : ∀ v, v ≤ k + a → v < 2 ^ B := fun v h => by rw [eB]; exact Nat.lt_of_lt_of_le (Nat.lt_of_le_of_lt h Nat.lt_two_pow_self) (Nat.pow_le_pow_right (by omega) (by omega))
 have hBt : ∀ t, t ≤ k → B * t + B ≤ 131072 := fun t ht => by
  have : B * (t + 1) ≤ B * (k + 1) := Nat.mul_le_mul_left B (by omega);rw [Nat.mul_add, Nat.mul_one] at this;rw [eB] at this ⊢;omega
 have hpw : ∀ t, 2 ^ (B * t) = (2 ^ B) ^ t := fun t => Nat.pow_mul 2 B t
 have hdl : ∀ (u : Nat) (d : Nat → Nat), u ≤ k + 1 → (∀ t, t < u → d t < 2 ^ B) → (toW (((ds (2 ^ B) u d : Nat) : Int).natAbs)).length ≤ 4096 := fun u d hu hd => by
  refine len_pow (e := B * u) ?_ ?_
  ·rw [Int.natAbs_natCast, Nat.pow_mul];exact ds_lt hd
  ·have : B * u ≤ B * (k + 1) := Nat.mul_le_mul_left B hu;rw [eB] at this ⊢;omega
 have hsl := stL_len m x (k + 1)
 have hgs : ∀ t, t ≤ k → (stL m x (k + 1))[Int.toNat (t : Int)]? = some (stF m x t) := fun t ht => by rw [Int.toNat_natCast]; exact stL_get (by omega)
 obtain ⟨H, eH⟩ : ∃ H, H = hL m x k := ⟨_, rfl⟩;unfold hL at eH;rw [← eH] at g0 g1 g2 g3 g4 g5 hHl
 have hres : AV.sl 2 eX (hL m x k) = .sl 2 eX H := by rw [eH]
 rw [hres];obtain ⟨S, eS⟩ : ∃ S, S = stL m x (k + 1) := ⟨_, rfl⟩;rw [← eS] at hsl hgs ⊢;have cO1 := rOf_ok 1 (by omega) (by omega);have cOk := rOf_ok (k : Int) (by omega) (by omega);have cP := rShiftN_ok 1 (k + a) (by omega) (by omega);rw [Nat.one_mul] at cP;refine AE ?_;(repeat' (first |refine qv ?_ |apply qn |apply qr |refine qe ?_|fail));refine ⟨AE ?_⟩;(repeat' (first |refine qv ?_ |refine Fl.nil (fun _ => by kernel_rfl) ?_ |apply qr |refine qw ?_|fail));refine ⟨AE ?_⟩;(repeat' (first |refine qv ?_ |apply qr));refine qc (cSum) ?_;(repeat' (first |refine qv ?_ |apply qn |refine qw ?_|fail));refine ⟨AE ?_⟩;(repeat' (first |refine qv ?_ |apply qr));refine qc (cV) ?_;refine Bp rfl rfl rfl rfl rfl rfl rfl rfl rfl rfl eX 0 (by exact DW (σ := []) rfl) (by rfl) (by omega) (by dsimp only; omega) (by omega) ?_;(repeat' (first |refine qv ?_ |apply qn));refine ⟨AE ?_⟩;(repeat' (first |refine qv ?_ |apply qr));refine Fl.call rfl cOk rfl rfl rfl (LeL.cons (AV.Le.int (by omega)) LeL.nil) ?_;refine qc (cO1) ?_;(repeat' (first |refine qv ?_ |refine qw ?_|fail));refine Fl.call rfl cP rfl rfl rfl (LeL.cons (AA _) (LeL.cons (AV.Le.int (by omega)) LeL.nil)) ?_;(repeat' (first |apply qn |refine Aq rfl rfl rfl rfl rfl rfl rfl rfl (by omega) (by first | omega | (simp; omega)) ?_ |refine A9 rfl rfl rfl rfl rfl rfl rfl rfl rfl rfl rfl (AB _) rfl (by first | omega | (simp; omega)) ?_|fail));refine ⟨AE ?_⟩;(repeat' (first |refine qv ?_ |apply qn |apply qs |apply qr |apply qb));refine AWP.loop (G := Nat × List Int) (fun (t, xs) => t ≤ k + 1 ∧ HI m x k a t t 0 xs) (fun (t, xs) => AU [] [(2, .sl 2 eSt S), (3, .ptr 3 0), (7, aN k), (8, aN m.code.length), (9, aN B), (10, .row 801), (11, aN t)] [(3, .cells (eMz m) 24), (801, .row 2 eX xs 48)]) (fun (t, _) => k + 1 - t) (0, ((List.replicate m.V 0).set 0 (k : Int)).set 1 ((2 ^ (k + a) : Nat) : Int)) ⟨by omega, ?_⟩ ?_ ?_
 ·refine ⟨by simp, ?_, ?_, ?_, fun i hi => ?_, fun j hj => ?_⟩
  ·rw [Ai (by simp; omega), Ai (by simp; omega)]; rfl
  ·rw [Ai (by simp; omega), if_pos rfl, Int.natCast_pow]; rfl
  ·rw [Ai (by simp; omega), Ai (by simp; omega), if_neg (by decide), if_neg (by decide), List.getElem?_replicate, if_pos (by omega)]; rfl
  ·rw [Ai (by simp; omega), Ai (by simp; omega), if_neg (by omega), if_neg (by omega), List.getElem?_replicate, if_pos (by omega)]; rfl
  ·rw [Ai (by simp; omega), Ai (by simp; omega), if_neg (by omega), if_neg (by omega), List.getElem?_replicate, if_pos (by omega), if_neg (by omega)]; rfl
 ·refine Ent.of [(801, 30)] ?_ ?_ rfl rfl;(repeat' (first |exact True.intro |refine ⟨⟨AA _, rfl⟩, ?_⟩ |refine ⟨⟨⟨_, rfl, BLe.cells (AB _)⟩, rfl⟩, ?_⟩ |refine ⟨⟨⟨_, rfl, BLe.row rfl⟩, rfl⟩, ?_⟩ |refine ⟨⟨AV.Le.int ?_, rfl⟩, ?_⟩|fail))
  all_goals omega
 ·intro ⟨t, xs⟩ ⟨k0, hI⟩;refine AE ?_;(repeat' (first |refine qv ?_ |apply qn |apply qs |apply qr |(refine AD rfl ?_ ?_ <;> intro _ <;> try (exfalso; omega)) |apply qk |apply qx))
  ·rename_i ht
   have htk : t ≤ k := by omega
   have hxl := hI.len;obtain ⟨p, hp⟩ : ∃ p, p = B * t := ⟨_, rfl⟩
   have hpm : (B : Int) * (t : Int) = (p : Int) := by rw [hp, Int.natCast_mul]
   have hpb : p ≤ 131072 := by have := hBt t htk; omega
   have hQp : 2 ^ p = (2 ^ B) ^ t := by rw [hp]; exact hpw t
   have cS1 := rShiftN_ok 1 p (by omega) (by omega);have hq1 : ∀ u, u < t → 1 < 2 ^ B := fun u _ => hQ 1 (by omega)
   have len1 : (toW (((1 * 2 ^ p : Nat) : Int).natAbs)).length ≤ 4096 := by
    have := hBt t htk;refine len_pow (e := p + 1) ?_ (by omega);rw [Int.natAbs_natCast, Nat.pow_succ];have := Nat.two_pow_pos p;omega
   -- the number of all places
   obtain ⟨v2, hv2⟩ : ∃ v2 : Int, v2 = ((ds (2 ^ (k + a + 1)) t (fun _ => 1) : Nat) : Int) := ⟨_, rfl⟩
   have q2 : xs[Int.toNat 2]? = some v2 := by rw [hv2]; exact hI.h2
   have cA2 := rAdd_ok v2 ((1 * 2 ^ p : Nat) : Int) (by have := hdl t (fun _ => 1) (by omega) hq1; rw [eB] at this; rw [hv2]; omega) (by omega)
   -- the place
   obtain ⟨A, hA⟩ : ∃ A, A = (m.mach.F (inF x) t).1 := ⟨_, rfl⟩
   have hAl : A < m.code.length := by rw [hA]; exact hlt t htk
   have hst1 : (stF m x t).1 = (A : Int) := by rw [hA]; rfl
   obtain ⟨vA, hvA⟩ : ∃ vA : Int, vA = ((ds (2 ^ (k + a + 1)) t (plD (fun t => (m.mach.F (inF x) t).1) A) : Nat) : Int) := ⟨_, rfl⟩
   have qA : (xs.set (Int.toNat 2) (v2 + ((1 * 2 ^ p : Nat) : Int)))[Int.toNat (3 + (stF m x t).1)]? = some vA := by
    rw [hst1, show Int.toNat (3 + (A : Int)) = 3 + A by omega, show Int.toNat 2 = 2 from rfl, Ai (by omega), if_neg (by omega), hvA];exact hI.hl A hAl
   have hpl : ∀ u, u < t → plD (fun t => (m.mach.F (inF x) t).1) A u < 2 ^ B := fun u _ => hQ _ (by unfold plD; split <;> omega);have cAA := rAdd_ok vA ((1 * 2 ^ p : Nat) : Int) (by have := hdl t _ (by omega) hpl; rw [eB] at this; rw [hvA]; omega) (by omega);have hgt := hgs t htk
   have hl2 : (xs.set (Int.toNat 2) (v2 + ((1 * 2 ^ p : Nat) : Int))).length = m.V := by rw [List.length_set]; exact hxl
   refine ⟨AWP.seq (AWP.block (AE ?_))⟩;(repeat' (first |apply qr));refine qc (cO1) ?_;(repeat' (first |refine qv ?_ |refine qw ?_|fail));refine Fl.call rfl cS1 rfl rfl rfl (LeL.cons (AA _) (LeL.cons (AV.Le.int (by omega)) LeL.nil)) ?_;(repeat' (first |apply qn |refine qe ?_|fail));refine ⟨AE ?_⟩;(repeat' (first |refine CI rfl rfl rfl rfl rfl rfl rfl (fun _ => rfl) (fun _ => rfl) (by assumption) ?_ |refine qv ?_ |apply qr |refine Aq rfl rfl rfl rfl rfl rfl rfl rfl (by omega) (by first | omega | (simp; omega)) ?_|fail));refine qc (cA2) ?_;(repeat' (first |refine Fl.nil (fun _ => by kernel_rfl) ?_ |refine Aq rfl rfl rfl rfl rfl rfl rfl rfl (by omega) (by first | omega | (simp; omega)) ?_ |refine A9 rfl rfl rfl rfl rfl rfl rfl rfl rfl rfl rfl (AB _) rfl (by first | omega | (simp; omega)) ?_|fail));refine ⟨AE ?_⟩;(repeat' (first |refine qv ?_ |apply qn |apply qr |refine qw ?_ |refine qK ?_|fail));refine ⟨AE ?_⟩;(repeat' (first |refine CI rfl rfl rfl rfl rfl rfl rfl (fun _ => rfl) (fun _ => rfl) (by assumption) ?_ |refine qv ?_ |apply qr |refine Aq rfl rfl rfl rfl rfl rfl rfl rfl (by omega) (by first | omega | (simp; omega)) ?_|fail));refine qc (cAA) ?_;(repeat' (first |refine Fl.nil (fun _ => by kernel_rfl) ?_ |refine Aq rfl rfl rfl rfl rfl rfl rfl rfl (by omega) (by first | omega | (simp; omega)) ?_ |refine A9 rfl rfl rfl rfl rfl rfl rfl rfl rfl rfl rfl (AB _) rfl (by first | omega | (simp; omega)) ?_|fail));refine ⟨?_⟩;(repeat' (first |refine qv ?_ |apply qn |apply qs |apply qr |apply qb))
   have hYS : HI m x k a t (t + 1) 0 ((xs.set (Int.toNat 2) (v2 + ((1 * 2 ^ p : Nat) : Int))).set (Int.toNat (3 + (stF m x t).1)) (vA + ((1 * 2 ^ p : Nat) : Int))) := by
    have e2 : Int.toNat 2 = 2 := rfl
    have eA : Int.toNat (3 + (stF m x t).1) = 3 + A := by rw [hst1]; omega
    rw [e2, eA]
    have hlA : (xs.set 2 (v2 + ((1 * 2 ^ p : Nat) : Int))).length = m.V := by rw [List.length_set]; exact hxl
    have top : ∀ d : Nat → Nat, ((ds (2 ^ (k + a + 1)) (t + 1) d : Nat) : Int) = ((ds (2 ^ (k + a + 1)) t d : Nat) : Int) + ((d t * 2 ^ p : Nat) : Int) := fun d => by
     rw [DZ, hQp, eB, Int.natCast_add]
    refine ⟨by rw [List.length_set]; exact hlA, ?_, ?_, ?_, fun i hi => ?_, fun j hj => ?_⟩
    ·rw [Ai (by omega), Ai (by omega), if_neg (by omega), if_neg (by omega)]; exact hI.h0
    ·rw [Ai (by omega), Ai (by omega), if_neg (by omega), if_neg (by omega)]; exact hI.h1
    ·rw [Ai (by omega), Ai (by omega), if_neg (by omega), if_pos rfl, top, hv2]
    ·rw [Ai (by omega), Ai (by omega)];by_cases e : i = A
     ·subst e;rw [if_pos rfl, top, hvA, show plD (fun t => (m.mach.F (inF x) t).1) i t = 1 by unfold plD; rw [if_pos hA.symm]]
     ·rw [if_neg (by omega), if_neg (by omega), hI.hl i hi, top, show plD (fun t => (m.mach.F (inF x) t).1) i t = 0 by unfold plD; rw [if_neg fun h => e (h.symm.trans hA.symm)], Nat.zero_mul];simp
    ·rw [Ai (by omega), Ai (by omega), if_neg (by omega), if_neg (by omega)]; exact hI.hr j hj
   clear hI cA2 cAA qA q2 hl2;refine AWP.loop (G := Nat × List Int) (fun (jj, ys) => jj ≤ m.R ∧ HI m x k a t (t + 1) jj ys) (fun (jj, ys) => AU [] [(2, .sl 2 eSt S), (3, .ptr 3 0), (7, aN k), (8, aN m.code.length), (9, aN B), (10, .row 801), (11, aN t), (12, .ptr 12 0), (14, aN jj)] [(3, .cells (eMz m) 24), (801, .row 2 eX ys 48), (12, .cells (eX ((1 * 2 ^ p : Nat) : Int)) 48)]) (fun (jj, _) => m.R - jj) (0, ((xs.set (Int.toNat 2) (v2 + ((1 * 2 ^ p : Nat) : Int))).set (Int.toNat (3 + (stF m x t).1)) (vA + ((1 * 2 ^ p : Nat) : Int)))) ⟨by omega, hYS⟩ ?_ ?_
   ·refine Ent.of [] ?_ ?_ rfl rfl;(repeat' (first |exact True.intro |refine ⟨⟨AA _, rfl⟩, ?_⟩ |refine ⟨⟨⟨_, rfl, BLe.cells (AB _)⟩, rfl⟩, ?_⟩ |refine ⟨⟨⟨_, rfl, BLe.row rfl⟩, rfl⟩, ?_⟩|fail))
   ·intro ⟨jj, ys⟩ ⟨j0, hJ⟩;have hyl := hJ.len;refine AE ?_;(repeat' (first |refine qv ?_ |apply qn |apply qs |apply qr |refine qw ?_ |(refine AD rfl ?_ ?_ <;> intro _ <;> try (exfalso; omega)) |apply qk |apply qx))
    ·rename_i hj
     have hjR : jj < m.R := by omega
     obtain ⟨r, hr⟩ : ∃ r, r = (m.mach.F (inF x) t).2 jj := ⟨_, rfl⟩;have hrbt := hrb t jj htk hjR;rw [← hr] at hrbt;obtain ⟨vR, hvR⟩ : ∃ vR : Int, vR = ((ds (2 ^ (k + a + 1)) t (fun t => (m.mach.F (inF x) t).2 jj) : Nat) : Int) := ⟨_, rfl⟩;have qR0 := hJ.hr jj hjR;rw [if_neg (by omega), ← hvR] at qR0
     have eJ : Int.toNat (3 + (m.code.length : Int) + (jj : Int)) = 3 + m.l + jj := by omega
     have qR1 : ys[Int.toNat (3 + (m.code.length : Int) + (jj : Int))]? = some vR := by rw [eJ]; exact qR0
     have hgR : (stF m x t).2[Int.toNat (jj : Int)]? = some (r : Int) := by rw [Int.toNat_natCast, hr]; exact CE hjR
     have hgRl : ((stF m x t).2.length : Int) = m.R := by show ((rgL _ _).length : Int) = _; rw [BL]
     have cS2 := rShiftN_ok r p (by omega) (by omega);have hrd : ∀ u, u < t → (fun t => (m.mach.F (inF x) t).2 jj) u < 2 ^ B := fun u hu => hQ _ (hrb u jj (by omega) hjR).1
     have cAR := rAdd_ok vR ((r * 2 ^ p : Nat) : Int) (by have := hdl t _ (by omega) hrd; rw [eB] at this; rw [hvR]; omega) (by
      have h1 := hBt t htk
      have : (toW (((r * 2 ^ p : Nat) : Int).natAbs)).length ≤ 4096 := by
       refine len_pow (e := p + B) ?_ (by omega);rw [Int.natAbs_natCast, Nat.pow_add, Nat.mul_comm];exact Nat.mul_lt_mul_of_pos_left (hQ r hrbt.1) (Nat.two_pow_pos p)
      omega)
     have cOr := rOf_ok (r : Int) (by omega) (by omega);refine ⟨?_⟩;(repeat' (first |refine CI rfl rfl rfl rfl rfl rfl rfl (fun _ => rfl) (fun _ => rfl) (by assumption) ?_ |refine qv ?_ |apply qs |apply qr |refine qw ?_ |apply qb |refine qK ?_ |refine Aq rfl rfl rfl rfl rfl rfl rfl rfl (by omega) (by first | omega | (simp; omega)) ?_|fail));refine qc (cOr) ?_;(repeat' (first |refine qv ?_ |refine qw ?_|fail));refine Fl.call rfl cS2 rfl rfl rfl (LeL.cons (AA _) (LeL.cons (AV.Le.int (by omega)) LeL.nil)) ?_;refine qc (cAR) ?_;(repeat' (first |refine qv ?_ |apply qn |refine Fl.nil (fun _ => by kernel_rfl) ?_ |apply qr |refine qw ?_ |refine Aq rfl rfl rfl rfl rfl rfl rfl rfl (by omega) (by first | omega | (simp; omega)) ?_ |refine A9 rfl rfl rfl rfl rfl rfl rfl rfl rfl rfl rfl (AB _) rfl (by first | omega | (simp; omega)) ?_|fail));refine LoopEnd.of (jj + 1, ys.set (Int.toNat (3 + (m.code.length : Int) + (jj : Int))) (vR + ((r * 2 ^ p : Nat) : Int))) ⟨by omega, ?_⟩ (by simp only; omega) ?_
     ·rw [eJ];refine ⟨by rw [List.length_set]; exact hyl, ?_, ?_, ?_, fun i hi => ?_, fun j hj' => ?_⟩
      ·rw [Ai (by omega), if_neg (by omega)]; exact hJ.h0
      ·rw [Ai (by omega), if_neg (by omega)]; exact hJ.h1
      ·rw [Ai (by omega), if_neg (by omega)]; exact hJ.h2
      ·rw [Ai (by omega), if_neg (by omega)]; exact hJ.hl i hi
      ·rw [Ai (by omega)];by_cases e : j = jj
       ·subst e;rw [if_pos rfl, if_pos (by omega), DZ, hvR, hr, hQp, eB, Int.natCast_add]
       ·rw [if_neg (by omega), hJ.hr j hj'];by_cases e2 : j < jj
        ·rw [if_pos e2, if_pos (by omega)]
        ·rw [if_neg e2, if_neg (by omega)]
     ·refine Ent.of [] ?_ ?_ rfl rfl;(repeat' (first |exact True.intro |refine ⟨⟨AA _, rfl⟩, ?_⟩ |refine ⟨⟨⟨_, rfl, BLe.cells (AB _)⟩, rfl⟩, ?_⟩ |refine ⟨⟨⟨_, rfl, BLe.row rfl⟩, rfl⟩, ?_⟩|fail))
    ·rename_i hj
     have hjj : jj = m.R := by omega
     subst hjj;refine LoopEnd.of (t + 1, ys) ⟨by omega, ?_⟩ (by simp only; omega) ?_
     ·exact ⟨hJ.len, hJ.h0, hJ.h1, hJ.h2, hJ.hl, fun j hj => by have := hJ.hr j hj; rw [if_pos hj] at this; rw [if_neg (by omega)]; exact this⟩
     ·refine Ent.of [] ?_ ?_ rfl rfl;(repeat' (first |exact True.intro |refine ⟨⟨AA _, rfl⟩, ?_⟩ |refine ⟨⟨⟨_, rfl, BLe.cells (AB _)⟩, rfl⟩, ?_⟩ |refine ⟨⟨⟨_, rfl, BLe.row rfl⟩, rfl⟩, ?_⟩|fail))
  ·rename_i ht
   have htk : t = k + 1 := by omega
   subst htk;refine ⟨AE ?_⟩;(repeat' (first |refine qv ?_ |apply qn |apply qs |apply qr |apply qb));refine AWP.loop (G := Nat × List Int) (fun (j, ys) => j ≤ m.R ∧ HI m x k a (k + 1) (k + 1) 0 ys ∧ ∀ q, q < j → ys[3 + m.l + m.R + q]? = some (((m.mach.F (inF x) k).2 q : Nat) : Int)) (fun (j, ys) => AU [] [(2, .sl 2 eSt S), (3, .ptr 3 0), (7, aN k), (8, aN m.code.length), (10, .row 801), (15, aN j)] [(3, .cells (eMz m) 24), (801, .row 2 eX ys 48)]) (fun (j, _) => m.R - j) (0, xs) ⟨by omega, hI, fun q hq => by omega⟩ ?_ ?_
   ·refine Ent.of [] ?_ ?_ rfl rfl;(repeat' (first |exact True.intro |refine ⟨⟨AA _, rfl⟩, ?_⟩ |refine ⟨⟨⟨_, rfl, BLe.cells (AB _)⟩, rfl⟩, ?_⟩ |refine ⟨⟨⟨_, rfl, BLe.row rfl⟩, rfl⟩, ?_⟩|fail))
   ·intro ⟨j, ys⟩ ⟨j0, hJ, hE⟩;have hyl := hJ.len;refine AE ?_;(repeat' (first |refine qv ?_ |apply qn |apply qs |apply qr |(refine AD rfl ?_ ?_ <;> intro _ <;> try (exfalso; omega)) |apply qk |apply qx))
    ·rename_i hj
     have hjR : j < m.R := by omega
     have hrbt := hrb k j (Nat.le_refl _) hjR;obtain ⟨r, hr⟩ : ∃ r, r = (m.mach.F (inF x) k).2 j := ⟨_, rfl⟩;rw [← hr] at hrbt;have hgk := hgs k (Nat.le_refl _)
     have hgR : (stF m x k).2[Int.toNat (j : Int)]? = some (r : Int) := by rw [Int.toNat_natCast, hr]; exact CE hjR
     have hgRl : ((stF m x k).2.length : Int) = m.R := by show ((rgL _ _).length : Int) = _; rw [BL]
     have cOr := rOf_ok (r : Int) (by omega) (by omega)
     have eJ : Int.toNat (3 + (m.code.length : Int) + m.regs + (j : Int)) = 3 + m.l + m.R + j := by omega
     refine ⟨?_⟩;(repeat' (first |refine qv ?_ |apply qs |apply qr |refine qw ?_ |apply qb |refine qK ?_|fail));refine qc (cOr) ?_;(repeat' (first |refine qv ?_ |apply qn |refine Fl.nil (fun _ => by kernel_rfl) ?_ |apply qr |refine qw ?_ |refine Aq rfl rfl rfl rfl rfl rfl rfl rfl (by omega) (by first | omega | (simp; omega)) ?_ |refine A9 rfl rfl rfl rfl rfl rfl rfl rfl rfl rfl rfl (AB _) rfl (by first | omega | (simp; omega)) ?_|fail));refine LoopEnd.of (j + 1, ys.set (Int.toNat (3 + (m.code.length : Int) + m.regs + (j : Int))) (r : Int)) ⟨by omega, ?_, fun q hq => ?_⟩ (by simp only; omega) ?_
     ·rw [eJ];refine ⟨by rw [List.length_set]; exact hyl, ?_, ?_, ?_, fun i hi => ?_, fun j' hj' => ?_⟩
      ·rw [Ai (by omega), if_neg (by omega)]; exact hJ.h0
      ·rw [Ai (by omega), if_neg (by omega)]; exact hJ.h1
      ·rw [Ai (by omega), if_neg (by omega)]; exact hJ.h2
      ·rw [Ai (by omega), if_neg (by omega)]; exact hJ.hl i hi
      ·rw [Ai (by omega), if_neg (by omega)]; exact hJ.hr j' hj'
     ·rw [eJ, Ai (by omega)];by_cases e : q = j
      ·subst e; rw [if_pos rfl, hr]
      ·rw [if_neg (by omega)]; exact hE q (by omega)
     ·refine Ent.of [] ?_ ?_ rfl rfl;(repeat' (first |exact True.intro |refine ⟨⟨AA _, rfl⟩, ?_⟩ |refine ⟨⟨⟨_, rfl, BLe.cells (AB _)⟩, rfl⟩, ?_⟩ |refine ⟨⟨⟨_, rfl, BLe.row rfl⟩, rfl⟩, ?_⟩|fail))
    ·rename_i hj
     have hjj : j = m.R := by omega
     subst hjj
     have hyH : ys = H := by
      refine ext_getD (by omega) fun q hq => ?_;rw [hyl] at hq;rw [List.getD_eq_getElem?_getD];rcases (show q = 0 ∨ q = 1 ∨ q = 2 ∨ (3 ≤ q ∧ q < 3 + m.l) ∨ (3 + m.l ≤ q ∧ q < 3 + m.l + m.R) ∨ 3 + m.l + m.R ≤ q by omega) with rfl | rfl | rfl | ⟨h1, h2⟩ | ⟨h1, h2⟩ | h1
      ·rw [hJ.h0, g0]; rfl
      ·rw [hJ.h1, g1, Int.natCast_pow]; rfl
      ·rw [hJ.h2, g2]; rfl
      ·obtain ⟨i, rfl⟩ : ∃ i, q = 3 + i := ⟨q - 3, by omega⟩;rw [hJ.hl i (by omega), g3 i (by omega)]; rfl
      ·obtain ⟨j, rfl⟩ : ∃ j, q = 3 + m.l + j := ⟨q - (3 + m.l), by omega⟩;rw [hJ.hr j (by omega), g4 j (by omega), if_neg (by omega)]; rfl
      ·obtain ⟨j, rfl⟩ : ∃ j, q = 3 + m.l + m.R + j := ⟨q - (3 + m.l + m.R), by omega⟩;rw [hE j (by omega), g5 j (by omega)]; rfl
     rw [hyH];refine ⟨?_⟩;refine Am (Ent.freeze 801 rfl) ?_;(repeat' (first |refine qv ?_ |apply qn |apply qs |apply qr |apply qt));exact RetOk.of rfl (AA _)
end Go.Proofs.YtmmfloplhopioaaGreat
/- HistoryEncodes. -/
namespace Go.Proofs.YtmmfloplhopioaaGreat
open Go.AL
set_option maxHeartbeats 1000000 in
theorem HistoryEncodesC_ok (m : MZ) (x : List Int) (hm : OkMZ m) (hx : OkIn m x) (cw : PureFn Tryz.prog 21 [aMz m, aI x] (aB false)) (cc : PureFn Tryz.prog 23 [aMz m, aI x] (aN 0)) (n : Nat) (hn : n ≤ 300) : PureFn Tryz.prog 5 [aMz m, aI x, aN n] (aB true) := by
 refine AC Tryz.func5 rfl Tryz.ntmps5 rfl rfl ?_;have ca := awake14_ok;obtain ⟨k, hk⟩ := runTo_ex m x n;have hkl := hk.le;by_cases ho : m.mach.op (m.mach.F (inF x) k).1 = 3
 ·have cS := r14States_ok m hm x hx n k (by omega) hk true ⟨fun _ => ho, fun _ => rfl⟩;have cz := r14Size_ok m hm x hx k (by omega);have hsl := stL_len m x (k + 1);rcases enc_cases m hm x hx n k (by omega) hk ho with ⟨e1, e2, e3, e4⟩ | ⟨e1, e2⟩
  ·have hlen : (hL m x k).length = m.V := CL (m := m) (x := x) k (fun t => (m.mach.F (inF x) t).1) (fun t => (m.mach.F (inF x) t).2);have hV := hm.V32;have c7 := rSameAll_ok (hL m x k) (hL m x k) (fun y hy => by have := (e2 y hy).len; omega) (by omega);rw [decide_eq_true rfl] at c7;have cH := r14History_ok m hm x hx k hk.go e4
   generalize stL m x (k + 1) = L at *
   generalize hL m x k = H at *
   generalize (k + (addZ m x).toNat + 1) * (k + 1) = p at *
   (repeat' (first |refine qv ?_ |apply qn |apply qs |apply qr |refine qe ?_|fail));refine qc (cw) ?_;(repeat' (first |refine qv ?_ |apply qn |apply qs |apply qr |refine Fl.skip rfl rfl ?_ |refine AF rfl ?_ |apply qk |(refine AH rfl rfl ?_ ?_ <;> intro _ <;> try (exfalso; omega))));refine qc (e1) ?_;(repeat' (first |refine qv ?_ |apply qn |apply qs |apply qr));refine qc (cc) ?_;(repeat' (first |refine qv ?_ |apply qn |apply qs |apply qr |refine AF rfl ?_ |(refine AD rfl ?_ ?_ <;> intro _ <;> try (exfalso; omega)) |apply qk));refine qc (cS) ?_;(repeat' (first |refine qv ?_ |apply qn |apply qs |apply qr |refine qw ?_ |refine AF rfl ?_ |apply qk));refine Fl.call rfl cz rfl rfl rfl (LeL.cons (AA _) (LeL.cons (AA _) (LeL.cons (AV.Le.int (by omega)) LeL.nil))) ?_;(repeat' (first |refine qv ?_ |apply qn |apply qs |apply qr |refine Fl.skip rfl rfl ?_ |refine AF rfl ?_ |apply qk |(refine AH rfl rfl ?_ ?_ <;> intro _ <;> try (exfalso; omega))));refine qc (cH) ?_;refine qc (c7) ?_;(repeat' (first |refine qv ?_|fail));refine qc (ca) ?_;(repeat' (first |refine qv ?_ |apply qn |apply qt));exact RetOk.of rfl (AA _)
  ·generalize stL m x (k + 1) = L at *
   generalize (k + (addZ m x).toNat + 1) * (k + 1) = p at *
   (repeat' (first |refine qv ?_ |apply qn |apply qs |apply qr |refine qe ?_|fail));refine qc (cw) ?_;(repeat' (first |refine qv ?_ |apply qn |apply qs |apply qr |refine Fl.skip rfl rfl ?_ |refine AF rfl ?_ |apply qk |(refine AH rfl rfl ?_ ?_ <;> intro _ <;> try (exfalso; omega))));refine qc (e1) ?_;(repeat' (first |refine qv ?_ |apply qn |apply qs |apply qr));refine qc (cc) ?_;(repeat' (first |refine qv ?_ |apply qn |apply qs |apply qr |refine AF rfl ?_ |(refine AD rfl ?_ ?_ <;> intro _ <;> try (exfalso; omega)) |apply qk));refine qc (cS) ?_;(repeat' (first |refine qv ?_ |apply qn |apply qs |apply qr |refine qw ?_ |refine AF rfl ?_ |apply qk));refine Fl.call rfl cz rfl rfl rfl (LeL.cons (AA _) (LeL.cons (AA _) (LeL.cons (AV.Le.int (by omega)) LeL.nil))) ?_;(repeat' (first |refine qv ?_ |apply qn |apply qs |apply qr |refine Fl.skip rfl rfl ?_ |refine AM rfl ?_ |(refine AD rfl ?_ ?_ <;> intro _ <;> try (exfalso; omega)) |(refine AH rfl rfl ?_ ?_ <;> intro _ <;> try (exfalso; omega))))
   ·refine qc (ca) ?_;(repeat' (first |refine qv ?_ |apply qn |apply qt));exact RetOk.of rfl (AA _)
   ·refine qc (ca) ?_;(repeat' (first |refine qv ?_ |apply qn |apply qt));exact RetOk.of rfl (AA _)
 ·have cS := r14States_ok m hm x hx n k (by omega) hk false (Iff.intro (fun h => by cases h) fun h => absurd h ho);have e1 := hEncode_none m hm x hx n k (by omega) hk ho;(repeat' (first |refine qv ?_ |apply qn |apply qs |apply qr |refine qe ?_|fail));refine qc (cw) ?_;(repeat' (first |refine qv ?_ |apply qn |apply qs |apply qr |refine Fl.skip rfl rfl ?_ |refine AF rfl ?_ |apply qk |(refine AH rfl rfl ?_ ?_ <;> intro _ <;> try (exfalso; omega))));refine qc (e1) ?_;(repeat' (first |refine qv ?_ |apply qn |apply qs |apply qr));refine qc (cc) ?_;(repeat' (first |refine qv ?_ |apply qn |apply qs |apply qr |refine AF rfl ?_ |(refine AD rfl ?_ ?_ <;> intro _ <;> try (exfalso; omega)) |apply qk));refine qc (cS) ?_;(repeat' (first |refine qv ?_ |apply qn |apply qs |apply qr |refine AM rfl ?_ |(refine AH rfl rfl ?_ ?_ <;> intro _ <;> try (exfalso; omega))));refine qc (ca) ?_;(repeat' (first |refine qv ?_ |apply qn |apply qt));exact RetOk.of rfl (AA _)
set_option maxHeartbeats 2000000 in
theorem HistoryEncodes_ok (m : MZ) (x : List Int) (n : Int) (hml : m.code.length ≤ 9223372036854775807) (hxl : x.length ≤ 9223372036854775807) (hn0 : -9223372036854775808 ≤ n) (hn1 : n ≤ 9223372036854775807) : PureFn Tryz.prog 5 [aMz m, aI x, aN n] (aB true) := by
 have ca := awake14_ok;rcases law14_cases m x hml hxl with c1 | ⟨c1, e, he, c2, c3, _, _, _, _⟩ | ⟨c1, c2, hm, hx⟩
 ·refine AC Tryz.func5 rfl Tryz.ntmps5 rfl rfl ?_;(repeat' (first |refine qv ?_ |apply qn |apply qs |apply qr |refine qe ?_|fail));refine qc (c1) ?_;(repeat' (first |refine qv ?_ |apply qn |apply qs |apply qr |refine Fl.skip rfl rfl ?_ |refine AM rfl ?_));refine qc (ca) ?_;(repeat' (first |refine qv ?_ |apply qn |apply qt));exact RetOk.of rfl (AA _)
 ·refine AC Tryz.func5 rfl Tryz.ntmps5 rfl rfl ?_
  have he0 : e ≠ 0 := by omega
  have cE := hEncode_bad m x n e he0 c3;by_cases hn : 300 < n ∧ n ≤ 1000000
  ·(repeat' (first |refine qv ?_ |apply qn |apply qs |apply qr |refine qe ?_|fail));refine qc (c1) ?_;(repeat' (first |refine qv ?_ |apply qn |apply qs |apply qr |(refine AD rfl ?_ ?_ <;> intro _ <;> try (exfalso; omega)) |(refine AH rfl rfl ?_ ?_ <;> intro _ <;> try (exfalso; omega))));refine qc (ca) ?_;(repeat' (first |refine qv ?_ |apply qn |apply qt));exact RetOk.of rfl (AA _)
  ·(repeat' (first |refine qv ?_ |apply qn |apply qs |apply qr |refine qe ?_|fail));refine qc (c1) ?_;(repeat' (first |refine qv ?_ |apply qn |apply qs |apply qr |refine Fl.skip rfl rfl ?_ |refine AF rfl ?_ |(refine AD rfl ?_ ?_ <;> intro _ <;> try (exfalso; omega)) |apply qk |(refine AH rfl rfl ?_ ?_ <;> intro _ <;> try (exfalso; omega))))
   ·refine qc (cE) ?_;(repeat' (first |refine qv ?_ |apply qn |apply qs |apply qr));refine qc (c2) ?_;(repeat' (first |refine qv ?_ |apply qn |apply qs |apply qr |refine Fl.skip rfl rfl ?_ |refine AF rfl ?_ |(refine Aa rfl ?_ ?_ <;> intro _ <;> try (exfalso; omega)) |apply qk |(refine AH rfl rfl ?_ ?_ <;> intro _ <;> try (exfalso; omega))));refine qc (ca) ?_;(repeat' (first |refine qv ?_ |apply qn |apply qt));exact RetOk.of rfl (AA _)
   ·refine qc (cE) ?_;(repeat' (first |refine qv ?_ |apply qn |apply qs |apply qr));refine qc (c2) ?_;(repeat' (first |refine qv ?_ |apply qn |apply qs |apply qr |refine Fl.skip rfl rfl ?_ |refine AF rfl ?_ |(refine Aa rfl ?_ ?_ <;> intro _ <;> try (exfalso; omega)) |apply qk |(refine AH rfl rfl ?_ ?_ <;> intro _ <;> try (exfalso; omega))));refine qc (ca) ?_;(repeat' (first |refine qv ?_ |apply qn |apply qt));exact RetOk.of rfl (AA _)
 ·by_cases hn : 0 ≤ n ∧ n ≤ 300
  ·obtain ⟨k, rfl⟩ : ∃ k : Nat, n = k := ⟨n.toNat, by omega⟩;exact HistoryEncodesC_ok m x hm hx c1 c2 k (by omega)
  ·refine AC Tryz.func5 rfl Tryz.ntmps5 rfl rfl ?_;by_cases hn2 : 300 < n ∧ n ≤ 1000000
   ·(repeat' (first |refine qv ?_ |apply qn |apply qs |apply qr |refine qe ?_|fail));refine qc (c1) ?_;(repeat' (first |refine qv ?_ |apply qn |apply qs |apply qr |(refine AD rfl ?_ ?_ <;> intro _ <;> try (exfalso; omega)) |(refine AH rfl rfl ?_ ?_ <;> intro _ <;> try (exfalso; omega))));refine qc (ca) ?_;(repeat' (first |refine qv ?_ |apply qn |apply qt));exact RetOk.of rfl (AA _)
   ·have cE := hEncode_arg m hm x hx n (by omega);(repeat' (first |refine qv ?_ |apply qn |apply qs |apply qr |refine qe ?_|fail));refine qc (c1) ?_;(repeat' (first |refine qv ?_ |apply qn |apply qs |apply qr |refine Fl.skip rfl rfl ?_ |refine AF rfl ?_ |(refine AD rfl ?_ ?_ <;> intro _ <;> try (exfalso; omega)) |apply qk |(refine AH rfl rfl ?_ ?_ <;> intro _ <;> try (exfalso; omega))))
    ·refine qc (cE) ?_;(repeat' (first |refine qv ?_ |apply qn |apply qs |apply qr));refine qc (c2) ?_;(repeat' (first |refine qv ?_ |apply qn |apply qs |apply qr |refine AM rfl ?_ |(refine AD rfl ?_ ?_ <;> intro _ <;> try (exfalso; omega)) |(refine AH rfl rfl ?_ ?_ <;> intro _ <;> try (exfalso; omega))));refine qc (ca) ?_;(repeat' (first |refine qv ?_ |apply qn |apply qt));exact RetOk.of rfl (AA _)
    ·refine qc (cE) ?_;(repeat' (first |refine qv ?_ |apply qn |apply qs |apply qr));refine qc (c2) ?_;(repeat' (first |refine qv ?_ |apply qn |apply qs |apply qr |refine Fl.skip rfl rfl ?_ |refine AM rfl ?_ |(refine AH rfl rfl ?_ ?_ <;> intro _ <;> try (exfalso; omega))));refine qc (ca) ?_;(repeat' (first |refine qv ?_ |apply qn |apply qt));exact RetOk.of rfl (AA _)
end Go.Proofs.YtmmfloplhopioaaGreat
/- Arguments that are lists of numbers. -/
namespace Go.Proofs.YtmmfloplhopioaaGreat
open Go.AL Go.ChangeShapes Go.WideShapes Go.ChangeAt Go.RowKit
section
variable {H : Type} {enc : TypeId × Value → H} {w : World} {base : Nat} {spare : Nat → Bool} {held : Bool}
end
end Go.Proofs.YtmmfloplhopioaaGreat
/- Arguments that are machines and lists of ints. -/
namespace Go.AL
theorem list4 {α : Type} {l : List α} (h : l.length = 4) : ∃ a b c d, l = [a, b, c, d] := by
 match l, h with
 | [a, b, c, d], _ => exact ⟨a, b, c, d, rfl⟩
end Go.AL
namespace Go.Proofs.YtmmfloplhopioaaGreat
open Go.AL Go.ChangeShapes Go.WideShapes Go.ChangeAt Go.RowKit
section
variable {H : Type} {enc : TypeId × Value → H} {w : World} {base : Nat} {spare : Nat → Bool} {held : Bool}
theorem trodIsM {fuel : Nat} {cs : List Value} {x : DataW H × List MemPlace} (h : DataW.trod enc Tryz.prog w base spare held fuel 25 cs = some x) : ∃ (xs : List Int) (u : Value), cs = [u] ∧ Rep (hpOf w) noB (aI xs) u ∧ xs.length ≤ maxLen := by
 obtain ⟨xs, u, h1, h2, _, h3⟩ := trodSlice 1 eI (fun n => True) Tryz.underlying25 (by kernel_rfl) (fun fuel us y _ hy => by
  obtain ⟨n, rfl, hn⟩ := EJ Tryz.underlying3 hy
  exact ⟨n, ⟨_, _, rfl, by simp only [Rep], rfl⟩, trivial⟩) h
 exact ⟨xs, u, h1, h2, h3⟩
theorem trodIn {fuel : Nat} {cs : List Value} {x : DataW H × List MemPlace} (h : DataW.trod enc Tryz.prog w base spare held fuel 77 cs = some x) : ∃ z : IZ, RepL (hpOf w) noB (eIz z) cs ∧ True := by
 obtain ⟨y0, y1, y2, y3, n, _, hl, h0, h1, h2, h3⟩ := Go.Joins.trod_struct4 Tryz.underlying77 h
 have hc : Tryz.prog.cellsOf 77 = 4 := by kernel_rfl
 have hb : Tryz.prog.cellsOf 3 = 1 := by kernel_rfl
 rw [hc] at hl;obtain ⟨c0, c1, c2, c3, rfl⟩ := list4 hl;simp only [hb, List.drop_zero, List.take_succ_cons, List.take_zero, List.drop_succ_cons] at h0 h1 h2 h3;obtain ⟨a, e0, _⟩ := EJ Tryz.underlying3 h0;obtain ⟨b, e1, _⟩ := EJ Tryz.underlying3 h1;obtain ⟨c, e2, _⟩ := EJ Tryz.underlying3 h2;obtain ⟨d, e3, _⟩ := EJ Tryz.underlying3 h3;injection e0 with e0; injection e1 with e1; injection e2 with e2; injection e3 with e3;subst e0 e1 e2 e3;exact ⟨⟨a, b, c, d⟩, ⟨_, _, rfl, by simp only [Rep], ⟨_, _, rfl, by simp only [Rep], ⟨_, _, rfl, by simp only [Rep], ⟨_, _, rfl, by simp only [Rep], rfl⟩⟩⟩⟩, trivial⟩
theorem trodMz {fuel : Nat} {cs : List Value} {x : DataW H × List MemPlace} (h : DataW.trod enc Tryz.prog w base spare held fuel 24 cs = some x) : ∃ m : MZ, RepL (hpOf w) noB (eMz m) cs ∧ m.code.length ≤ maxLen := by
 obtain ⟨y0, y1, n, _, hl, h0, h1⟩ := trod_struct2 Tryz.underlying24 h
 have hc : Tryz.prog.cellsOf 24 = 2 := by kernel_rfl
 have hb : Tryz.prog.cellsOf 3 = 1 := by kernel_rfl
 have hs : Tryz.prog.cellsOf 22 = 1 := by kernel_rfl
 rw [hc] at hl;obtain ⟨c0, c1, rfl⟩ := list2 hl;simp only [hb, hs, List.drop_zero, List.take_succ_cons, List.take_zero, List.drop_succ_cons] at h0 h1;obtain ⟨a, e0, _⟩ := EJ Tryz.underlying3 h0;obtain ⟨xs, u, e1, hr, _, hm⟩ := trodSlice 4 eIz (fun _ => True) Tryz.underlying22 (by kernel_rfl) (fun fuel us y _ hy => trodIn hy) h1;injection e0 with e0; injection e1 with e1; subst e0 e1;exact ⟨⟨a, xs⟩, ⟨_, _, rfl, by simp only [Rep], ⟨_, _, rfl, hr, rfl⟩⟩, hm⟩
end
end Go.Proofs.YtmmfloplhopioaaGreat

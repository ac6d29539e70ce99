/- Part 6 of a proof layer and of the contracts of the functions. -/
import Derived.Laws.Strings
import Derived.Laws.Strings2
import Derived.Laws.Concat
import Derived.Test.YtmmfloplhopioaaGreatW5
set_option linter.unusedVariables false
set_option linter.unusedSimpArgs false
/- history's maker: put, sum. -/
namespace Go.AL
abbrev aSz (m : MZ) (x : List Int) : AV := .agg [aN m.regs, .sl 4 eIz m.code, aI x, aN m.V, aN (addZ m x)]
end Go.AL
namespace Go.Proofs.YtmmfloplhopioaaGreat
open Go.AL
theorem szLine_ok (m : MZ) (x : List Int) (i : Nat) (hi : i ≤ 1000) : PureFn Tryz.prog 96 [aSz m x, aN i] (aN ((3 + i : Nat) : Int)) := by
 refine PureFn.of_body Tryz.func96 rfl Tryz.ntmps96 rfl rfl ?_;(repeat' (first |refine qv ?_ |apply qn |apply qs |apply qr |refine qw ?_ |refine qe ?_ |apply qt));exact RetOk.of rfl (AV.Le.int (by omega))
theorem szReg_ok (m : MZ) (x : List Int) (i : Nat) (hl : m.code.length ≤ 1000) (hi : i ≤ 1000) : PureFn Tryz.prog 98 [aSz m x, aN i] (aN ((3 + m.l + i : Nat) : Int)) := by
 refine PureFn.of_body Tryz.func98 rfl Tryz.ntmps98 rfl rfl ?_;have hl2 : m.l = m.code.length := rfl;(repeat' (first |refine qv ?_ |apply qn |apply qs |apply qr |refine qw ?_ |refine qe ?_ |apply qt));exact RetOk.of rfl (AV.Le.int (by omega))
theorem szEnd_ok (m : MZ) (x : List Int) (i : Nat) (hl : m.code.length ≤ 1000) (h0 : 0 ≤ m.regs) (h4 : m.regs ≤ 4) (hi : i ≤ 1000) : PureFn Tryz.prog 100 [aSz m x, aN i] (aN ((3 + m.l + m.R + i : Nat) : Int)) := by
 refine PureFn.of_body Tryz.func100 rfl Tryz.ntmps100 rfl rfl ?_;have hl2 : m.l = m.code.length := rfl;have hR : m.R = m.regs.toNat := rfl;(repeat' (first |refine qv ?_ |apply qn |apply qs |apply qr |refine qw ?_ |refine qe ?_ |apply qt));exact RetOk.of rfl (AV.Le.int (by omega))
abbrev kBr (r : AL.Id) (m : MZ) (x : List Int) (q al : PZ) (L : List LZ) : List (AL.Id × Bx) := [(900, .cells [aN m.regs, .sl 4 eIz m.code, aI x, aN m.V, aN (addZ m x), aN m.V, aN q.vars, .sl 3 eT q.terms, aN al.vars, .sl 3 eT al.terms, .row r] 144), (r, .row 3 eL L 99)]
abbrev kB (m : MZ) (x : List Int) (q al : PZ) (L : List LZ) : List (AL.Id × Bx) := kBr 901 m x q al L
theorem mkPut_ok (m : MZ) (hm : OkMZ m) (x : List Int) (q al : PZ) (L : List LZ) (hL : L.length ≤ 10000) (kind : Int) (ls : List (List UT)) (h : SmLk m.V (kind, ls)) : IoGn Tryz.prog 107 [.ptr 900 0, aN kind, .sl 2 eP (ls.map (mkP m.V))] (kB m x q al L) (.tup []) (kBr 902 m x q al (L ++ [linkU m.V kind ls])) := by
 refine IoGn.of_body Tryz.func107 rfl Tryz.ntmps107 rfl rfl ?_;have hV := hm.V32
 have h3 : needI kind ≤ 3 := by unfold needI; repeat' split <;> omega
 have hll : (ls.length : Int) = needI kind := h.2.1;have hsz : ∀ p ∈ ls, SzU m.V 4 10000 200 p := h.2.2;(repeat' (first |refine qv ?_ |apply qr));refine qc (kLink_ok m.V kind ls (by omega) (by omega) fun p hp => ⟨by have := (hsz p hp).ln; omega, fun u hu => ((hsz p hp).ex u hu).1⟩) ?_;skip;refine ql eL [linkU m.V kind ls] ?_;skip;refine qa (hby := (by dsimp only [List.length_nil, List.length_cons]; omega)) (hm := (by simp; omega)) (r := ?_);(repeat' (first |refine qv ?_ |refine Fl.nil (fun _ => by kernel_rfl) ?_ |refine qe ?_|fail));exact ⟨⟨[(902, 19)], _, _, Ent.refl _ _ _, rfl, AV.Le.refl _, rfl, ⟨⟨⟨_, rfl, BLe.cells (LeL.refl _)⟩, rfl⟩, ⟨⟨_, rfl, BLe.row rfl⟩, rfl⟩, trivial⟩, rfl, rfl⟩⟩
theorem hsSum_drop {V : Nat} {c : IZ → Bool} {code : List IZ} {i : Nat} {y : IZ} (h : code[i]? = some y) (acc : List UT) : hsSum V c i (code.drop i) acc = hsSum V c (i + 1) (code.drop (i + 1)) (if c y then sumsU [] [acc, varU V (3 + i)] else acc) := by
 have hi := (List.getElem?_eq_some_iff.1 h).1;rw [List.drop_eq_getElem_cons hi, (List.getElem?_eq_some_iff.1 h).2];rfl
set_option maxHeartbeats 1000000 in
theorem mkSum_ok (m : MZ) (hm : OkMZ m) (x : List Int) (q al : PZ) (L : List LZ) (g : FuncId) (c : IZ → Bool) (hg : ∀ y, PureFn Tryz.prog g [aIz y] (aB (c y))) : IoFn Tryz.prog 109 [.ptr 900 0, .fn g []] (kB m x q al L) (.ret (aP (mkP m.V (hsSum m.V c 0 m.code (conU m.V 0))))) (kB m x q al L) := by
 refine IoFn.of_body Tryz.func109 rfl Tryz.ntmps109 rfl rfl rfl ?_;have hV := hm.V32;have hl : m.code.length ≤ 15 := hm.l15;have hVe : m.V = 3 + m.code.length + 2 * m.R := rfl;(repeat' (first |refine qv ?_ |apply qn |apply qs |apply qr |refine qe ?_|fail));refine qc (kN_ok m.V 0 (by omega) (by omega) (by omega)) ?_;(repeat' (first |refine qv ?_ |apply qn |apply qs |apply qr |refine qe ?_ |apply qb));refine AWP.loop (G := Nat × List UT) (fun (i, out) => i ≤ m.code.length ∧ SzU m.V 1 i (1 + i) out ∧ hsSum m.V c i (m.code.drop i) out = hsSum m.V c 0 m.code (conU m.V 0)) (fun (i, out) => St.of [900, 901] [(0, .ptr 900 0), (1, .fn g []), (4, .ptr 4 0), (5, .ptr 5 0), (18, .sl 4 eIz m.code), (19, aN m.code.length), (20, aN i)] (kB m x q al L ++ [(5, .cells (eP (mkP m.V out)) 105), (4, .cells [aN 0, .v (.slice none 0 0)] 105)])) (fun (i, _) => m.code.length - i) (0, conU m.V 0) ⟨by omega, (SzU.con m.V 0).mono (by omega) (by decide) (by omega), rfl⟩ ?_ ?_
 ·refine Ent.of [] ?_ ?_ rfl rfl;(repeat' (first |exact True.intro |refine ⟨⟨AV.Le.refl _, rfl⟩, ?_⟩ |refine ⟨⟨⟨_, rfl, BLe.cells (LeL.refl _)⟩, rfl⟩, ?_⟩ |refine ⟨⟨⟨_, rfl, BLe.row rfl⟩, rfl⟩, ?_⟩|fail))
 ·intro ⟨i, out⟩ ⟨k0, k1, k2⟩;have hlen := k1.ln;(repeat' (first |refine qv ?_ |apply qn |apply qs |apply qr |refine qe ?_ |(refine AWP.condD rfl ?_ ?_ <;> intro _ <;> try (exfalso; omega)) |apply qb |apply qk |apply qx |apply qt |(refine Fl.el rfl rfl rfl rfl rfl rfl rfl rfl (by omega) (by omega) ?_; intro _ _)|fail))
  ·rename_i hi y hy;rw [Int.toNat_natCast] at hy;rw [hsSum_drop hy] at k2;refine Fl.callV rfl rfl (hg y) rfl rfl rfl (LeL.refl _) ?_;(repeat' (first |refine qv ?_ |apply qn |apply qr |refine qw ?_ |apply qk |(refine AWP.condB rfl ?_ ?_ <;> intro _)))
   ·rename_i hc;rw [if_pos hc] at k2;have v := SzU.var (V := m.V) (i := 3 + i) (by omega);refine qc (szLine_ok m x i (by omega)) ?_;skip;refine qc (kV_ok m.V (3 + i) (by omega) (by omega)) ?_;skip;refine ql eP [mkP m.V out, mkP m.V (varU m.V (3 + i))] ?_;skip;refine qc (kAdd_ok m.V (by omega) [out, varU m.V (3 + i)] (by simp) (okSums2 k1 v (by omega) (by omega) (by omega) (by omega))) ?_;(repeat' (first |refine qv ?_ |apply qn |refine Fl.nil (fun _ => by kernel_rfl) ?_ |apply qr |refine qw ?_ |refine qe ?_|fail));refine LoopEnd.of (i + 1, sumsU [] [out, varU m.V (3 + i)]) ⟨by omega, ?_, k2⟩ (by simp only; omega) ?_
    ·rw [sums2 k1 v];exact (k1.add v).mono (by omega) (by omega) (by omega)
    ·refine Ent.of [] ?_ ?_ rfl rfl;(repeat' (first |exact True.intro |refine ⟨⟨AV.Le.refl _, rfl⟩, ?_⟩ |refine ⟨⟨⟨_, rfl, BLe.cells (LeL.refl _)⟩, rfl⟩, ?_⟩ |refine ⟨⟨⟨_, rfl, BLe.row rfl⟩, rfl⟩, ?_⟩|fail))
   ·rename_i hc;rw [if_neg (by rw [hc]; simp)] at k2;refine LoopEnd.of (i + 1, out) ⟨by omega, k1.mono (by omega) (by omega) (by omega), k2⟩ (by simp only; omega) ?_;refine Ent.of [] ?_ ?_ rfl rfl;(repeat' (first |exact True.intro |refine ⟨⟨AV.Le.refl _, rfl⟩, ?_⟩ |refine ⟨⟨⟨_, rfl, BLe.cells (LeL.refl _)⟩, rfl⟩, ?_⟩ |refine ⟨⟨⟨_, rfl, BLe.row rfl⟩, rfl⟩, ?_⟩|fail))
  ·rename_i hi;rw [List.drop_of_length_le (by omega)] at k2;rw [← k2];exact ⟨⟨[], _, _, Ent.refl _ _ _, rfl, AV.Le.refl _, rfl, ⟨⟨⟨_, rfl, BLe.cells (LeL.refl _)⟩, rfl⟩, ⟨⟨_, rfl, BLe.row rfl⟩, rfl⟩, trivial⟩, rfl, rfl⟩⟩
end Go.Proofs.YtmmfloplhopioaaGreat
/- history's maker: does, masks, goes. -/
namespace Go.AL
abbrev lkZ (m : MZ) (s : LkU) : LZ := linkU m.V s.1 s.2
theorem hsK_A {m : MZ} {x : List Int} {s : LkU} (h : s ∈ hsA m x) : s ∈ hsK m x := by simp [hsK, h]
theorem hsK_B {m : MZ} {x : List Int} {i : Nat} (h : i < m.l) : hsB m i ∈ hsK m x := by
 have : hsB m i ∈ (List.range m.l).map (hsB m) := List.mem_map.2 ⟨i, List.mem_range.2 h, rfl⟩;simp only [hsK, List.mem_append];exact .inl (.inl (.inl (.inl (.inr this))))
theorem hsK_C {m : MZ} {x : List Int} {s : LkU} (h : s ∈ hsC m) : s ∈ hsK m x := by
 simp only [hsK, List.mem_append];exact .inl (.inl (.inl (.inr h)))
theorem hsK_D {m : MZ} {x : List Int} {j : Nat} (h : j < m.R) : hsD m j ∈ hsK m x := by
 have : hsD m j ∈ (List.range m.R).map (hsD m) := List.mem_map.2 ⟨j, List.mem_range.2 h, rfl⟩;simp only [hsK, List.mem_append];exact .inl (.inl (.inr this))
theorem hsK_G {m : MZ} {x : List Int} {i : Nat} (h : i < m.l) {s : LkU} (hs : s ∈ hsGo m i (m.at i)) : s ∈ hsK m x := by
 have : s ∈ (List.range m.l).flatMap (fun i => hsGo m i (m.at i)) := List.mem_flatMap.2 ⟨i, List.mem_range.2 h, hs⟩;simp only [hsK, List.mem_append];exact .inl (.inr this)
theorem hsK_F {m : MZ} {x : List Int} {j : Nat} (h : j < m.R) : hsF m x j ∈ hsK m x := by
 have : hsF m x j ∈ (List.range m.R).map (hsF m x) := List.mem_map.2 ⟨j, List.mem_range.2 h, rfl⟩;simp only [hsK, List.mem_append];exact .inr this
theorem map_range_succ {α : Type} (L : List α) (f : Nat → α) (i : Nat) : L ++ (List.range (i + 1)).map f = L ++ (List.range i).map f ++ [f i] := by
 rw [List.range_succ, List.map_append, List.append_assoc]; rfl
end Go.AL
namespace Go.Proofs.YtmmfloplhopioaaGreat
open Go.AL
theorem mkHalt_ok (y : IZ) : PureFn Tryz.prog 163 [aIz y] (aB (decide (y.op = 3))) := by
 refine PureFn.of_body Tryz.func163 rfl Tryz.ntmps163 rfl rfl ?_;(repeat' (first |refine qv ?_ |apply qn |apply qs |apply qr |refine qe ?_ |apply qt));exact RetOk.of rfl (AV.Le.refl _)
theorem mkTrue_ok (y : IZ) : PureFn Tryz.prog 110 [aIz y] (aB true) := by
 refine PureFn.of_body Tryz.func110 rfl Tryz.ntmps110 rfl rfl ?_;(repeat' (first |refine qv ?_ |apply qn |apply qs |apply qr |refine qe ?_ |apply qt));exact RetOk.of rfl (AV.Le.refl _)
abbrev dB (op : Int) (j : Nat) : List (AL.Id × Bx) := [(902, .cells [aN op] 3), (903, .cells [aN j] 3)]
theorem mkIs_ok (op : Int) (j : Nat) (y : IZ) : IoFn Tryz.prog 165 ([aIz y] ++ [.ptr 902 0, .ptr 903 0]) (dB op j) (.ret (aB (decide (y.op = op) && decide (y.rg = (j : Int))))) (dB op j) := by
 refine IoFn.of_body Tryz.func165 rfl Tryz.ntmps165 rfl rfl rfl ?_;(repeat' (first |refine qv ?_ |apply qn |apply qs |apply qr |refine qe ?_ |refine Fl.skip rfl rfl ?_ |apply qt |(refine Fl.splitD rfl rfl ?_ ?_ <;> intro _ <;> try (exfalso; omega))))
 ·rename_i h;rw [decide_eq_true h];exact ⟨⟨[], _, _, Ent.refl _ _ _, rfl, AV.Le.refl _, rfl, ⟨⟨⟨_, rfl, BLe.cells (LeL.refl _)⟩, rfl⟩, ⟨⟨_, rfl, BLe.cells (LeL.refl _)⟩, rfl⟩, trivial⟩, rfl, rfl⟩⟩
 ·rename_i h;rw [decide_eq_false h];exact ⟨⟨[], _, _, Ent.refl _ _ _, rfl, AV.Le.refl _, rfl, ⟨⟨⟨_, rfl, BLe.cells (LeL.refl _)⟩, rfl⟩, ⟨⟨_, rfl, BLe.cells (LeL.refl _)⟩, rfl⟩, trivial⟩, rfl, rfl⟩⟩
set_option maxHeartbeats 1000000 in
theorem mkSum2_ok (m : MZ) (hm : OkMZ m) (x : List Int) (q al : PZ) (L : List LZ) (op : Int) (j : Nat) : IoFn Tryz.prog 109 [.ptr 900 0, .fn 165 [.ptr 902 0, .ptr 903 0]] (kB m x q al L ++ dB op j) (.ret (aP (mkP m.V (hsSum m.V (fun y => decide (y.op = op) && decide (y.rg = (j : Int))) 0 m.code (conU m.V 0))))) (kB m x q al L ++ dB op j) := by
 refine IoFn.of_body Tryz.func109 rfl Tryz.ntmps109 rfl rfl rfl ?_;have hV := hm.V32;have hl : m.code.length ≤ 15 := hm.l15;have hVe : m.V = 3 + m.code.length + 2 * m.R := rfl;obtain ⟨c, ec⟩ : ∃ c : IZ → Bool, c = fun y => decide (y.op = op) && decide (y.rg = (j : Int)) := ⟨_, rfl⟩
 have hg : ∀ y, IoFn Tryz.prog 165 ([aIz y] ++ [.ptr 902 0, .ptr 903 0]) (dB op j) (.ret (aB (c y))) (dB op j) := fun y => by rw [ec]; exact mkIs_ok op j y
 rw [← ec];(repeat' (first |refine qv ?_ |apply qn |apply qs |apply qr |refine qe ?_|fail));refine qc (kN_ok m.V 0 (by omega) (by omega) (by omega)) ?_;(repeat' (first |refine qv ?_ |apply qn |apply qs |apply qr |refine qe ?_ |apply qb));refine AWP.loop (G := Nat × List UT) (fun (i, out) => i ≤ m.code.length ∧ SzU m.V 1 i (1 + i) out ∧ hsSum m.V c i (m.code.drop i) out = hsSum m.V c 0 m.code (conU m.V 0)) (fun (i, out) => St.of [900, 901, 902, 903] [(0, .ptr 900 0), (1, .fn 165 [.ptr 902 0, .ptr 903 0]), (4, .ptr 4 0), (5, .ptr 5 0), (18, .sl 4 eIz m.code), (19, aN m.code.length), (20, aN i)] (kB m x q al L ++ dB op j ++ [(5, .cells (eP (mkP m.V out)) 105), (4, .cells [aN 0, .v (.slice none 0 0)] 105)])) (fun (i, _) => m.code.length - i) (0, conU m.V 0) ⟨by omega, (SzU.con m.V 0).mono (by omega) (by decide) (by omega), rfl⟩ ?_ ?_
 ·refine Ent.of [] ?_ ?_ rfl rfl;(repeat' (first |exact True.intro |refine ⟨⟨AV.Le.refl _, rfl⟩, ?_⟩ |refine ⟨⟨⟨_, rfl, BLe.cells (LeL.refl _)⟩, rfl⟩, ?_⟩ |refine ⟨⟨⟨_, rfl, BLe.row rfl⟩, rfl⟩, ?_⟩|fail))
 ·intro ⟨i, out⟩ ⟨k0, k1, k2⟩;have hlen := k1.ln;(repeat' (first |refine qv ?_ |apply qn |apply qs |apply qr |refine qe ?_ |(refine AWP.condD rfl ?_ ?_ <;> intro _ <;> try (exfalso; omega)) |apply qb |apply qk |apply qx |apply qt |(refine Fl.el rfl rfl rfl rfl rfl rfl rfl rfl (by omega) (by omega) ?_; intro _ _)|fail))
  ·rename_i hi y hy;rw [Int.toNat_natCast] at hy;rw [hsSum_drop hy] at k2;refine Fl.ioVR rfl rfl [] (hg y) rfl rfl (LeL.refl _) rfl ⟨⟨⟨_, rfl, BLe.cells (LeL.refl _)⟩, rfl⟩, ⟨⟨_, rfl, BLe.cells (LeL.refl _)⟩, rfl⟩, trivial⟩ ⟨rfl, rfl, trivial⟩ rfl rfl rfl rfl ?_;(repeat' (first |refine qv ?_ |apply qn |apply qr |refine qw ?_ |apply qk |(refine AWP.condB rfl ?_ ?_ <;> intro _)))
   ·rename_i hc;rw [if_pos hc] at k2;have v := SzU.var (V := m.V) (i := 3 + i) (by omega);refine qc (szLine_ok m x i (by omega)) ?_;skip;refine qc (kV_ok m.V (3 + i) (by omega) (by omega)) ?_;skip;refine ql eP [mkP m.V out, mkP m.V (varU m.V (3 + i))] ?_;skip;refine qc (kAdd_ok m.V (by omega) [out, varU m.V (3 + i)] (by simp) (okSums2 k1 v (by omega) (by omega) (by omega) (by omega))) ?_;(repeat' (first |refine qv ?_ |apply qn |refine Fl.nil (fun _ => by kernel_rfl) ?_ |apply qr |refine qw ?_ |refine qe ?_|fail));refine LoopEnd.of (i + 1, sumsU [] [out, varU m.V (3 + i)]) ⟨by omega, ?_, k2⟩ (by simp only; omega) ?_
    ·rw [sums2 k1 v];exact (k1.add v).mono (by omega) (by omega) (by omega)
    ·refine Ent.of [] ?_ ?_ rfl rfl;(repeat' (first |exact True.intro |refine ⟨⟨AV.Le.refl _, rfl⟩, ?_⟩ |refine ⟨⟨⟨_, rfl, BLe.cells (LeL.refl _)⟩, rfl⟩, ?_⟩ |refine ⟨⟨⟨_, rfl, BLe.row rfl⟩, rfl⟩, ?_⟩|fail))
   ·rename_i hc;rw [if_neg (by rw [hc]; simp)] at k2;refine LoopEnd.of (i + 1, out) ⟨by omega, k1.mono (by omega) (by omega) (by omega), k2⟩ (by simp only; omega) ?_;refine Ent.of [] ?_ ?_ rfl rfl;(repeat' (first |exact True.intro |refine ⟨⟨AV.Le.refl _, rfl⟩, ?_⟩ |refine ⟨⟨⟨_, rfl, BLe.cells (LeL.refl _)⟩, rfl⟩, ?_⟩ |refine ⟨⟨⟨_, rfl, BLe.row rfl⟩, rfl⟩, ?_⟩|fail))
  ·rename_i hi;rw [List.drop_of_length_le (by omega)] at k2;rw [← k2];exact ⟨⟨[], _, _, Ent.refl _ _ _, rfl, AV.Le.refl _, rfl, ⟨⟨⟨_, rfl, BLe.cells (LeL.refl _)⟩, rfl⟩, ⟨⟨_, rfl, BLe.row rfl⟩, rfl⟩, ⟨⟨_, rfl, BLe.cells (LeL.refl _)⟩, rfl⟩, ⟨⟨_, rfl, BLe.cells (LeL.refl _)⟩, rfl⟩, trivial⟩, rfl, rfl⟩⟩
abbrev kQ (m : MZ) : PZ := mkP m.V (hsQ m.V)
abbrev kAll (m : MZ) : PZ := mkP m.V (hsAll m.V)
set_option maxHeartbeats 1000000 in
theorem mkMasks_ok (m : MZ) (hm : OkMZ m) (x : List Int) (hx : OkIn m x) (L : List LZ) (hL : L.length ≤ 1000) : IoGn Tryz.prog 111 [.ptr 900 0] (kB m x (kQ m) (kAll m) L) (.tup []) (kBr 902 m x (kQ m) (kAll m) (L ++ (List.range m.l).map (fun i => lkZ m (hsB m i)) ++ (hsC m).map (lkZ m) ++ (List.range m.R).map (fun j => lkZ m (hsD m j)))) := by
 refine IoGn.of_body Tryz.func111 rfl Tryz.ntmps111 rfl rfl ?_;have hV := hm.V32;have hl : m.code.length ≤ 15 := hm.l15;have hR4 := hm.r4;have hR1 := hm.r1;have hR : m.R = m.regs.toNat := rfl;have hVe : m.V = 3 + m.code.length + 2 * m.R := rfl;have hl1 : 1 ≤ m.code.length := hm.l1;(repeat' (first |refine qv ?_ |apply qn |apply qs |apply qr |apply qb));refine AWP.loop (G := Nat) (fun i => i ≤ m.code.length) (fun i => St.of [900, 901] [(0, .ptr 900 0), (10, aN m.code.length), (11, aN i)] (kBr 902 m x (kQ m) (kAll m) (L ++ (List.range i).map (fun i => lkZ m (hsB m i))))) (fun i => m.code.length - i) 0 (by omega) ?_ ?_
 ·refine Ent.of [(902, 901)] ?_ ?_ rfl rfl;(repeat' (first |exact True.intro |refine ⟨⟨AV.Le.refl _, rfl⟩, ?_⟩ |refine ⟨⟨⟨_, rfl, BLe.cells (LeL.refl _)⟩, rfl⟩, ?_⟩ |refine ⟨⟨⟨_, rfl, BLe.row ?_⟩, rfl⟩, ?_⟩|fail));simp
 ·intro i k0;(repeat' (first |refine qv ?_ |apply qn |apply qs |apply qr |(refine AWP.condD rfl ?_ ?_ <;> intro _ <;> try (exfalso; omega)) |apply qb |apply qk |apply qx))
  ·rename_i hi;have hsm := hsK_sm hm hx (hsB m i) (hsK_B (show i < m.l by show i < m.code.length; omega));refine qc (szLine_ok m x i (by omega)) ?_;skip;refine qc (kV_ok m.V (3 + i) (by omega) (by omega)) ?_;(repeat' (first |refine qv ?_|fail));refine qc (kV_ok m.V 2 (by omega) (by omega)) ?_;skip;refine ql eP [mkP m.V (varU m.V (3 + i)), mkP m.V (varU m.V 2)] ?_;skip;refine Fl.ioG rfl [(901, 902), (902, 32)] (mkPut_ok m hm x (kQ m) (kAll m) _ (by simp; omega) 3 [varU m.V (3 + i), varU m.V 2] hsm) rfl rfl (LeL.refl _) rfl ⟨⟨⟨_, rfl, BLe.cells (LeL.refl _)⟩, rfl⟩, ⟨⟨_, rfl, BLe.row rfl⟩, rfl⟩, trivial⟩ rfl rfl rfl rfl rfl ?_;(repeat' (first |refine qv ?_ |apply qn |refine Fl.nil (fun _ => by kernel_rfl) ?_ |apply qr |refine qw ?_|fail));refine LoopEnd.of (i + 1) (by omega) (by omega) ?_;refine Ent.of [(902, 32)] ?_ ?_ rfl rfl;(repeat' (first |exact True.intro |refine ⟨⟨AV.Le.refl _, rfl⟩, ?_⟩ |refine ⟨⟨⟨_, rfl, BLe.cells (LeL.refl _)⟩, rfl⟩, ?_⟩ |refine ⟨⟨⟨_, rfl, BLe.row ?_⟩, rfl⟩, ?_⟩|fail));rw [map_range_succ]; rfl
  ·rename_i hi
   have hi : i = m.code.length := by omega
   subst hi;have hsm1 := hsK_sm hm hx (3, [conU m.V 1, varU m.V 3]) (hsK_C (by simp [hsC]));have hsm2 := hsK_sm hm hx (2, [hsQ m.V, varU m.V 0, hsSum m.V (fun x => decide (x.op = 3)) 0 m.code (conU m.V 0)]) (hsK_C (by simp [hsC]));refine qc (kN_ok m.V 1 (by omega) (by omega) (by omega)) ?_;(repeat' (first |refine qv ?_|fail));refine qc (szLine_ok m x 0 (by omega)) ?_;skip;refine qc (kV_ok m.V 3 (by omega) (by omega)) ?_;skip;refine ql eP [mkP m.V (conU m.V 1), mkP m.V (varU m.V 3)] ?_;skip;refine Fl.ioG rfl [(901, 902), (902, 51)] (mkPut_ok m hm x (kQ m) (kAll m) _ (by simp; omega) 3 [conU m.V 1, varU m.V 3] hsm1) rfl rfl (LeL.refl _) rfl ⟨⟨⟨_, rfl, BLe.cells (LeL.refl _)⟩, rfl⟩, ⟨⟨_, rfl, BLe.row rfl⟩, rfl⟩, trivial⟩ rfl rfl rfl rfl rfl ?_;(repeat' (first |refine qv ?_ |refine Fl.nil (fun _ => by kernel_rfl) ?_ |apply qs |apply qr));refine qc (kV_ok m.V 0 (by omega) (by omega)) ?_;(repeat' (first |refine qv ?_|fail));refine Fl.ioR rfl [(901, 51)] (mkSum_ok m hm x (kQ m) (kAll m) _ 163 (fun y => decide (y.op = 3)) mkHalt_ok) rfl rfl (LeL.refl _) rfl ⟨⟨⟨_, rfl, BLe.cells (LeL.refl _)⟩, rfl⟩, ⟨⟨_, rfl, BLe.row rfl⟩, rfl⟩, trivial⟩ ⟨rfl, rfl, trivial⟩ rfl rfl rfl rfl ?_;skip;refine ql eP [mkP m.V (hsQ m.V), mkP m.V (varU m.V 0), mkP m.V (hsSum m.V (fun x => decide (x.op = 3)) 0 m.code (conU m.V 0))] ?_;skip;refine Fl.ioG rfl [(901, 51), (902, 65)] (mkPut_ok m hm x (kQ m) (kAll m) _ (by simp; omega) 2 [hsQ m.V, varU m.V 0, hsSum m.V (fun x => decide (x.op = 3)) 0 m.code (conU m.V 0)] hsm2) rfl rfl (LeL.refl _) rfl ⟨⟨⟨_, rfl, BLe.cells (LeL.refl _)⟩, rfl⟩, ⟨⟨_, rfl, BLe.row rfl⟩, rfl⟩, trivial⟩ rfl rfl rfl rfl rfl ?_;(repeat' (first |refine qv ?_ |apply qn |refine Fl.nil (fun _ => by kernel_rfl) ?_ |apply qs |apply qr |apply qb));refine AWP.loop (G := Nat) (fun j => j ≤ m.R) (fun j => St.of [900, 901] [(0, .ptr 900 0), (71, aN m.R), (72, aN j)] (kBr 902 m x (kQ m) (kAll m) (L ++ (List.range m.code.length).map (fun i => lkZ m (hsB m i)) ++ (hsC m).map (lkZ m) ++ (List.range j).map (fun j => lkZ m (hsD m j))))) (fun j => m.R - j) 0 (by omega) ?_ ?_
   ·refine Ent.of [(902, 65)] ?_ ?_ rfl rfl;(repeat' (first |exact True.intro |refine ⟨⟨AV.Le.refl _, rfl⟩, ?_⟩ |refine ⟨⟨⟨_, rfl, BLe.cells (LeL.refl _)⟩, rfl⟩, ?_⟩ |refine ⟨⟨⟨_, rfl, BLe.row ?_⟩, rfl⟩, ?_⟩ |refine ⟨⟨AV.Le.int ?_, rfl⟩, ?_⟩|fail))
    ·omega
    ·simp [hsC]
   ·intro j k1;(repeat' (first |refine qv ?_ |apply qn |apply qs |apply qr |(refine AWP.condD rfl ?_ ?_ <;> intro _ <;> try (exfalso; omega)) |apply qb |apply qk |apply qx))
    ·rename_i hj;have hsm := hsK_sm hm hx (hsD m j) (hsK_D (show j < m.R by omega));have a := (SzU.var (V := m.V) (i := 1) (by omega));have b := (SzU.con m.V 1);have c := (SzU.var (V := m.V) (i := 2) (by omega));refine qc (szReg_ok m x j (by omega) (by omega)) ?_;skip;refine qc (kV_ok m.V (3 + m.l + j) (by omega) (by show 3 + m.code.length + j < m.V; omega)) ?_;(repeat' (first |refine qv ?_|fail));refine qc (kV_ok m.V 1 (by omega) (by omega)) ?_;(repeat' (first |refine qv ?_|fail));refine qc (kN_ok m.V 1 (by omega) (by omega) (by omega)) ?_;skip;refine qc (kSub_ok m.V (by omega) (varU m.V 1) (conU m.V 1) (subL (varU m.V 1) (conU m.V 1)) (a.chk (by omega) (by omega) (by omega)) (b.chk (by omega) (by decide) (by omega)) (a.subChk b (by omega) (by omega) (by decide) (by omega))) ?_;(repeat' (first |refine qv ?_|fail));refine qc (kV_ok m.V 2 (by omega) (by omega)) ?_;skip;refine ql eP [mkP m.V (subL (varU m.V 1) (conU m.V 1)), mkP m.V (varU m.V 2)] ?_;skip;refine qc (kMul_ok m.V (by omega) [subL (varU m.V 1) (conU m.V 1), varU m.V 2] (by simp) (okMuls2 (a.sub b) c (by omega) (by decide) (by decide) (by decide) (by omega) (by omega) (by omega))) ?_;skip;refine ql eP [mkP m.V (varU m.V (3 + m.l + j)), mkP m.V (mulsU (conU m.V 1) [subL (varU m.V 1) (conU m.V 1), varU m.V 2])] ?_;skip;refine Fl.ioG rfl [(901, 902), (902, 114)] (mkPut_ok m hm x (kQ m) (kAll m) _ (by simp [hsC]; omega) 3 [varU m.V (3 + m.l + j), mulsU (conU m.V 1) [subL (varU m.V 1) (conU m.V 1), varU m.V 2]] hsm) rfl rfl (LeL.refl _) rfl ⟨⟨⟨_, rfl, BLe.cells (LeL.refl _)⟩, rfl⟩, ⟨⟨_, rfl, BLe.row rfl⟩, rfl⟩, trivial⟩ rfl rfl rfl rfl rfl ?_;(repeat' (first |refine qv ?_ |apply qn |refine Fl.nil (fun _ => by kernel_rfl) ?_ |apply qr |refine qw ?_|fail));refine LoopEnd.of (j + 1) (by omega) (by omega) ?_;refine Ent.of [(902, 114)] ?_ ?_ rfl rfl;(repeat' (first |exact True.intro |refine ⟨⟨AV.Le.refl _, rfl⟩, ?_⟩ |refine ⟨⟨⟨_, rfl, BLe.cells (LeL.refl _)⟩, rfl⟩, ?_⟩ |refine ⟨⟨⟨_, rfl, BLe.row ?_⟩, rfl⟩, ?_⟩|fail));rw [map_range_succ]; rfl
    ·rename_i hj
     have hj : j = m.R := by omega
     subst hj;exact ⟨⟨[], _, _, Ent.refl _ _ _, rfl, AV.Le.refl _, rfl, ⟨⟨⟨_, rfl, BLe.cells (LeL.refl _)⟩, rfl⟩, ⟨⟨_, rfl, BLe.row rfl⟩, rfl⟩, trivial⟩, rfl, rfl⟩⟩
end Go.Proofs.YtmmfloplhopioaaGreat
/- That the links of a machine's system hold is the history's equations. Plain. -/
namespace Go.AL
theorem hol_sz {V : Nat} {kind : Int} {ls : List (List UT)} {X : List Int} (hX : X.length = V) (h : ∀ p ∈ ls, SzU V 4 10000 200 p) : HoL X (linkU V kind ls) ↔ holdP kind (ls.map (uv X)) := by
 unfold HoL;rw [lvals_linkU hX fun p hp => fun u hu => ⟨((h p hp).ex u hu).1, (ex_ok (by omega) ((h p hp).ex u hu)).2.2⟩];exact Iff.rfl
theorem holdP_under (a b : Int) : holdP 3 [a, b] ↔ 0 ≤ a ∧ 0 ≤ b ∧ undN a.toNat b.toNat := by
 unfold holdP; simp; intros; exact Iff.rfl
theorem holdP_pow (a b c : Int) : holdP 2 [a, b, c] ↔ 1 ≤ a ∧ 0 ≤ b ∧ a ^ b.toNat = c := by
 unfold holdP; simp
theorem holdP_eq (a : Int) : holdP 0 [a] ↔ a = 0 := by
 unfold holdP; simp
section
variable {m : MZ} {x X : List Int}
abbrev nX (X : List Int) (i : Nat) : Nat := (X.getD i 0).toNat
theorem nX_cast (h0 : ∀ y ∈ X, 0 ≤ y) (i : Nat) : ((nX X i : Nat) : Int) = X.getD i 0 := by
 have : 0 ≤ X.getD i 0 := by
  rw [List.getD_eq_getElem?_getD]
  cases h : X[i]? with
  | none => simp
  | some y => exact h0 y (List.mem_of_getElem? h)
 show (((X.getD i 0).toNat : Nat) : Int) = _;omega
theorem sum_val (ok : OkMZ m) (hX : X.length = m.V) (h0 : ∀ y ∈ X, 0 ≤ y) (c : IZ → Bool) : uv X (hsSum m.V c 0 m.code (conU m.V 0)) = (sumN m.l fun j => if c (m.at j) then nX X (3 + j) else 0 : Nat) := by
 have hV := ok.V32;have hl := ok.l15;have hVe : m.V = 3 + m.l + 2 * m.R := rfl;rw [hsSum_val (by omega) hX h0 c m.code (i := 0) ((SzU.con m.V 0).mono (d' := 1) (c' := 0) (n' := 1) (by omega) (by decide) (by omega)) (by show 3 + 0 + m.l ≤ m.V; omega) (by omega) (by show 1 ≤ 100 - m.l; omega) (by show m.l ≤ 50; omega), uv_con]
 have : (sumN m.code.length fun j => if c (m.code.getD j haltZ) = true then (X.getD (3 + 0 + j) 0).toNat else 0) = sumN m.l fun j => if c (m.at j) = true then nX X (3 + j) else 0 := sumN_ext fun j _ => by rw [Nat.add_zero]; rfl
 rw [this]; omega
structure HistZ (m : MZ) (x X : List Int) : Prop where
  a1 : (2 : Int) ^ (X.getD 0 0 + addZ m x).toNat = X.getD 1 0
  a2 : 1 ≤ 2 * X.getD 1 0 ∧ (2 * X.getD 1 0) ^ (X.getD 0 0 + 1).toNat = 1 + (2 * X.getD 1 0 - 1) * X.getD 2 0
  a3 : X.getD 2 0 = (sumN m.l fun j => nX X (3 + j) : Nat)
  b : ∀ i, i < m.l → undN (nX X (3 + i)) (nX X 2)
  c1 : undN 1 (nX X 3)
  c2 : (2 * X.getD 1 0) ^ (nX X 0) = (sumN m.l fun j => if (m.at j).op = 3 then nX X (3 + j) else 0 : Nat)
  d : ∀ j, j < m.R → 0 ≤ (X.getD 1 0 - 1) * X.getD 2 0 ∧ undN (nX X (3 + m.l + j)) ((X.getD 1 0 - 1) * X.getD 2 0).toNat
  e : ∀ i, i < m.l → (m.at i).op ≠ 3 → if (m.at i).op = 2 ∧ (m.at i).zr ≠ (m.at i).nx then undN (2 * X.getD 1 0 * X.getD (3 + i) 0).toNat (X.getD (3 + (m.at i).nx.toNat) 0 + X.getD (3 + (m.at i).zr.toNat) 0).toNat ∧ 0 ≤ X.getD (3 + (m.at i).nx.toNat) 0 + 2 * X.getD 1 0 * X.getD 2 0 - 2 * X.getD (3 + m.l + (m.at i).rg.toNat) 0 ∧ undN (2 * X.getD 1 0 * X.getD (3 + i) 0).toNat (X.getD (3 + (m.at i).nx.toNat) 0 + 2 * X.getD 1 0 * X.getD 2 0 - 2 * X.getD (3 + m.l + (m.at i).rg.toNat) 0).toNat else undN (2 * X.getD 1 0 * X.getD (3 + i) 0).toNat (nX X (3 + (m.at i).nx.toNat))
  f : ∀ j, j < m.R → X.getD (3 + m.l + j) 0 + X.getD (3 + m.l + m.R + j) 0 * (1 + (2 * X.getD 1 0 - 1) * X.getD 2 0) = x.getD j 0 + 2 * X.getD 1 0 * X.getD (3 + m.l + j) 0 + 2 * X.getD 1 0 * (sumN m.l fun i => if (m.at i).op = 0 ∧ (m.at i).rg = j then nX X (3 + i) else 0 : Nat) - 2 * X.getD 1 0 * (sumN m.l fun i => if (m.at i).op = 1 ∧ (m.at i).rg = j then nX X (3 + i) else 0 : Nat)
theorem does_val (ok : OkMZ m) (hX : X.length = m.V) (h0 : ∀ y ∈ X, 0 ≤ y) (op : Int) (j : Nat) : uv X (hsDoes m op j) = 2 * X.getD 1 0 * (sumN m.l fun i => if (m.at i).op = op ∧ (m.at i).rg = j then nX X (3 + i) else 0 : Nat) := by
 have hV := ok.V32;unfold hsDoes;rw [uv_mul2 (by omega) X (hsQ_sz ok.V6).1 (sz_sum ok _) (by omega) (by omega) (by omega) (by omega) (by omega) (by omega) (by omega), hsQ_val ok.V6 (by omega) hX, sum_val ok hX h0];congr 2;refine sumN_ext fun i _ => ?_;simp only [Bool.and_eq_true, decide_eq_true_eq]
theorem here_val (ok : OkMZ m) (hX : X.length = m.V) {i : Nat} (hi : i < m.l) : uv X (hsHere m i) = 2 * X.getD 1 0 * X.getD (3 + i) 0 := by
 have hV := ok.V32;have hVe : m.V = 3 + m.l + 2 * m.R := rfl;unfold hsHere;rw [uv_mul2 (by omega) X (hsQ_sz ok.V6).1 (SzU.var (by omega)) (by omega) (by omega) (by omega) (by omega) (by omega) (by omega) (by omega), hsQ_val ok.V6 (by omega) hX, uv_var hX (by omega)]
theorem jmp_val (ok : OkMZ m) (hX : X.length = m.V) {y : IZ} (hn : y.nx.toNat < m.l) (hr : y.rg.toNat < m.R) : uv X (hsJmp m y) = X.getD (3 + y.nx.toNat) 0 + 2 * X.getD 1 0 * X.getD 2 0 - 2 * X.getD (3 + m.l + y.rg.toNat) 0 := by
 have hV := ok.V32;have hV6 := ok.V6;have hVe : m.V = 3 + m.l + 2 * m.R := rfl;have q := (hsQ_sz hV6).1;have vn := SzU.var (V := m.V) (i := 3 + y.nx.toNat) (by omega);have v2 := SzU.var (V := m.V) (i := 2) (by omega);have vr := SzU.var (V := m.V) (i := 3 + m.l + y.rg.toNat) (by omega);have e1 := q.mul v2;have e2 := (SzU.con m.V 2).mul vr;have e3 := vn.add e1;rw [← muls2 q] at e1;rw [← muls2 (SzU.con m.V 2)] at e2;rw [← muls2 q, ← sums2 vn e1] at e3;unfold hsJmp;rw [uv_sub2 (by omega) X e3 e2 (by omega) (by omega) (by decide) (by omega), uv_add2 (by omega) X vn e1 (by omega) (by omega) (by decide) (by omega), uv_mul2 (by omega) X q v2 (by omega) (by omega) (by omega) (by omega) (by omega) (by omega) (by omega), uv_mul2 (by omega) X (SzU.con m.V 2) vr (by omega) (by decide) (by decide) (by omega) (by omega) (by omega) (by omega), hsQ_val hV6 (by omega) hX, uv_con, uv_var hX (by omega), uv_var hX (by omega), uv_var hX (by omega)]
theorem f_val (ok : OkMZ m) (hx : OkIn m x) (hX : X.length = m.V) (h0 : ∀ y ∈ X, 0 ≤ y) {j : Nat} (hj : j < m.R) : uv X (subL (hsL m j) (subL (hsR0 m x j) (hsDoes m 1 j))) = X.getD (3 + m.l + j) 0 + X.getD (3 + m.l + m.R + j) 0 * (1 + (2 * X.getD 1 0 - 1) * X.getD 2 0) - (x.getD j 0 + 2 * X.getD 1 0 * X.getD (3 + m.l + j) 0 + 2 * X.getD 1 0 * (sumN m.l fun i => if (m.at i).op = 0 ∧ (m.at i).rg = j then nX X (3 + i) else 0 : Nat) - 2 * X.getD 1 0 * (sumN m.l fun i => if (m.at i).op = 1 ∧ (m.at i).rg = j then nX X (3 + i) else 0 : Nat)) := by
 have hV := ok.V32;have hV6 := ok.V6;have hVe : m.V = 3 + m.l + 2 * m.R := rfl;obtain ⟨sL, sL2⟩ := sz_L ok hj;obtain ⟨sR, okR, sR2⟩ := sz_R0 ok hx hj;have sD := sz_does ok 1 j;have q := (hsQ_sz hV6).1;have va := SzU.var (V := m.V) (i := 3 + m.l + j) (by omega);have vb := SzU.var (V := m.V) (i := 3 + m.l + m.R + j) (by omega)
 have eL : uv X (hsL m j) = X.getD (3 + m.l + j) 0 + X.getD (3 + m.l + m.R + j) 0 * (1 + (2 * X.getD 1 0 - 1) * X.getD 2 0) := by
  unfold hsL;rw [uv_add2 (by omega) X va sL2 (by omega) (by omega) (by omega) (by omega), uv_mul2 (by omega) X vb (hsAll_sz hV6).1 (by omega) (by omega) (by omega) (by omega) (by omega) (by omega) (by omega), hsAll_val hV6 (by omega) hX, uv_var hX (by omega), uv_var hX (by omega)]
 have eR : uv X (hsR0 m x j) = x.getD j 0 + 2 * X.getD 1 0 * X.getD (3 + m.l + j) 0 + 2 * X.getD 1 0 * (sumN m.l fun i => if (m.at i).op = 0 ∧ (m.at i).rg = j then nX X (3 + i) else 0 : Nat) := by
  unfold hsR0;rw [uv_sums (by omega) X _ _ okR];simp only [List.map_cons, List.map_nil, sumL];rw [uv_con, does_val ok hX h0, uv_mul2 (by omega) X q va (by omega) (by omega) (by omega) (by omega) (by omega) (by omega) (by omega), hsQ_val hV6 (by omega) hX, uv_var hX (by omega)];show (0 : Int) + _ = _;omega
 rw [uv_sub2 (by omega) X sL (sR.sub sD) (by omega) (by omega) (by omega) (by omega), uv_sub2 (by omega) X sR sD (by omega) (by omega) (by omega) (by omega), eL, eR, does_val ok hX h0]
theorem hs_hol (ok : OkMZ m) (hx : OkIn m x) (hX : X.length = m.V) (h0 : ∀ y ∈ X, 0 ≤ y) : (∀ l ∈ (hsS m x).links, HoL X l) ↔ HistZ m x X := by
 have hV := ok.V32;have hV6 := ok.V6;have hVe : m.V = 3 + m.l + 2 * m.R := rfl;obtain ⟨s1, s2, s3⟩ := addZ_b ok hx;have sm := hsK_sm ok hx;have q := (hsQ_sz hV6).1;have v : ∀ i, i < m.V → uv X (varU m.V i) = X.getD i 0 := fun i hi => uv_var hX hi
 have g0 : ∀ i, 0 ≤ X.getD i 0 := fun i => by have := nX_cast h0 i; omega
 have vsum : ∀ k : Int, 0 ≤ k → k ≤ 5000 → uv X (sumsU [] [varU m.V 0, conU m.V k]) = X.getD 0 0 + k := fun k k0 k1 => by
  rw [uv_add2 (by omega) X (SzU.var (by omega)) (SzU.con m.V k) (by omega) (by omega) (by omega) (by omega), v 0 (by omega), uv_con]
 have vq := hsQ_val hV6 (by omega) hX;have val := hsAll_val hV6 (by omega) hX
 have vd : uv X (mulsU (conU m.V 1) [subL (varU m.V 1) (conU m.V 1), varU m.V 2]) = (X.getD 1 0 - 1) * X.getD 2 0 := by
  have a := SzU.var (V := m.V) (i := 1) (by omega);have b := SzU.con m.V 1;rw [uv_mul2 (by omega) X (a.sub b) (SzU.var (by omega)) (by omega) (by decide) (by decide) (by decide) (by omega) (by omega) (by omega), uv_sub2 (by omega) X a b (by omega) (by omega) (by decide) (by omega), v 1 (by omega), v 2 (by omega), uv_con]
 have hfor : (∀ l ∈ (hsS m x).links, HoL X l) ↔ ∀ s ∈ hsK m x, holdP s.1 (s.2.map (uv X)) := by
  show (∀ l ∈ (hsK m x).map (fun s => linkU m.V s.1 s.2), HoL X l) ↔ _;rw [List.forall_mem_map];exact ⟨fun h s hs => (hol_sz hX (sm s hs).2.2).1 (h s hs), fun h s hs => (hol_sz hX (sm s hs).2.2).2 (h s hs)⟩
 rw [hfor]
 have nxb : ∀ i, i < m.l → (m.at i).op ≠ 3 → (m.at i).nx.toNat < m.l ∧ (m.at i).rg.toNat < m.R ∧ ((m.at i).op = 2 → (m.at i).zr.toNat < m.l) := fun i hi h3 => by
  rcases ok.ins i hi with k | ⟨⟨a1, a2⟩, ⟨b1, b2⟩, k⟩
  ·rw [k] at h3; exact absurd rfl h3
  ·have hR : ((m.R : Nat) : Int) = m.regs := by have := ok.r1; show ((m.regs.toNat : Nat) : Int) = _; omega
   refine ⟨by omega, by omega, fun h2 => ?_⟩;rcases k with k | k
   ·have := k.2.1; have := k.2.2.1; omega
   ·omega
 have v2z : ∀ i, i < m.l → (m.at i).op ≠ 3 → (m.at i).op = 2 → uv X (sumsU [] [varU m.V (3 + (m.at i).nx.toNat), varU m.V (3 + (m.at i).zr.toNat)]) = X.getD (3 + (m.at i).nx.toNat) 0 + X.getD (3 + (m.at i).zr.toNat) 0 := fun i hi h3 h2 => by
  obtain ⟨n1, n2, n3⟩ := nxb i hi h3;have n3 := n3 h2;rw [uv_add2 (by omega) X (SzU.var (by omega)) (SzU.var (by omega)) (by omega) (by omega) (by omega) (by omega), v _ (by omega), v _ (by omega)]
 have hmem : ∀ s, s ∈ hsK m x ↔ (s ∈ hsA m x ∨ (∃ i, i < m.l ∧ hsB m i = s) ∨ s ∈ hsC m ∨ (∃ j, j < m.R ∧ hsD m j = s) ∨ (∃ i, i < m.l ∧ s ∈ hsGo m i (m.at i)) ∨ ∃ j, j < m.R ∧ hsF m x j = s) := fun s => by
  simp only [hsK, List.mem_append, List.mem_map, List.mem_flatMap, List.mem_range, or_assoc]
 have hP : ∀ i j : Nat, 0 ≤ 2 * X.getD i 0 * X.getD j 0 := fun i j => Int.mul_nonneg (by have := g0 i; omega) (g0 j);constructor
 ·intro h;have hA := fun s (hs : s ∈ hsA m x) => h s ((hmem s).2 (.inl hs));have hB := fun i (hi : i < m.l) => h (hsB m i) ((hmem _).2 (.inr (.inl ⟨i, hi, rfl⟩)));have hC := fun s (hs : s ∈ hsC m) => h s ((hmem s).2 (.inr (.inr (.inl hs))));have hD := fun j (hj : j < m.R) => h (hsD m j) ((hmem _).2 (.inr (.inr (.inr (.inl ⟨j, hj, rfl⟩)))));have hE := fun i (hi : i < m.l) s (hs : s ∈ hsGo m i (m.at i)) => h s ((hmem s).2 (.inr (.inr (.inr (.inr (.inl ⟨i, hi, hs⟩))))));have hF := fun j (hj : j < m.R) => h (hsF m x j) ((hmem _).2 (.inr (.inr (.inr (.inr (.inr ⟨j, hj, rfl⟩))))));simp only [hsA, List.forall_mem_cons] at hA;simp only [hsC, List.forall_mem_cons] at hC;obtain ⟨k1, k2, k3, _⟩ := hA;obtain ⟨k4, k5, _⟩ := hC;simp only [List.map_cons, List.map_nil, uv_con, vsum _ (show 0 ≤ addZ m x by omega) (by omega), vsum 1 (by omega) (by omega), v 1 (by omega), v 0 (by omega), v 3 (by omega), vq, val, sum_val ok hX h0] at k1 k2 k3 k4 k5;rw [holdP_pow] at k1 k2 k5;rw [holdP_under] at k4;rw [uv_sub2 (by omega) X (SzU.var (by omega)) (sz_sum ok _) (by omega) (by omega) (by omega) (by omega), sum_val ok hX h0, v 2 (by omega), holdP_eq] at k3;refine ⟨k1.2.2, ⟨k2.1, k2.2.2⟩, ?_, fun i hi => ?_, k4.2.2, ?_, fun j hj => ?_, fun i hi h3 => ?_, fun j hj => ?_⟩
  ·simp only [if_true] at k3; omega
  ·have := hB i hi;simp only [hsB, List.map_cons, List.map_nil, v (3 + i) (by omega), v 2 (by omega)] at this;exact ((holdP_under _ _).1 this).2.2
  ·have := k5.2.2;simp only [decide_eq_true_eq] at this;exact this
  ·have := hD j hj;simp only [hsD, List.map_cons, List.map_nil, v (3 + m.l + j) (by omega), vd] at this;exact ((holdP_under _ _).1 this).2
  ·have hE := hE i hi;obtain ⟨n1, n2, n3⟩ := nxb i hi h3;unfold hsGo at hE;rw [if_neg h3] at hE;by_cases hj : (m.at i).op = 2 ∧ (m.at i).zr ≠ (m.at i).nx
   ·rw [if_pos hj] at hE ⊢;simp only [List.forall_mem_cons] at hE;obtain ⟨e1, e2, _⟩ := hE;simp only [List.map_cons, List.map_nil, here_val ok hX hi, v2z i hi h3 hj.1, jmp_val ok hX n1 n2] at e1 e2;have e1 := (holdP_under _ _).1 e1;have e2 := (holdP_under _ _).1 e2;exact ⟨e1.2.2, e2.2.1, e2.2.2⟩
   ·rw [if_neg hj] at hE ⊢;simp only [List.forall_mem_cons] at hE;have e1 := hE.1;simp only [List.map_cons, List.map_nil, here_val ok hX hi, v (3 + (m.at i).nx.toNat) (by omega)] at e1;exact ((holdP_under _ _).1 e1).2.2
  ·have := hF j hj;simp only [hsF, List.map_cons, List.map_nil, f_val ok hx hX h0 hj] at this;have := (holdP_eq _).1 this;omega
 ·intro H s hs;rcases (hmem s).1 hs with hs | ⟨i, hi, rfl⟩ | hs | ⟨j, hj, rfl⟩ | ⟨i, hi, hs⟩ | ⟨j, hj, rfl⟩
  ·simp only [hsA, List.mem_cons, List.not_mem_nil, or_false] at hs;rcases hs with rfl | rfl | rfl
   ·simp only [List.map_cons, List.map_nil, uv_con, vsum _ (show 0 ≤ addZ m x by omega) (by omega), v 1 (by omega)];exact (holdP_pow _ _ _).2 ⟨by omega, by have := g0 0; omega, H.a1⟩
   ·simp only [List.map_cons, List.map_nil, vsum 1 (by omega) (by omega), vq, val];exact (holdP_pow _ _ _).2 ⟨H.a2.1, by have := g0 0; omega, H.a2.2⟩
   ·simp only [List.map_cons, List.map_nil];rw [uv_sub2 (by omega) X (SzU.var (by omega)) (sz_sum ok _) (by omega) (by omega) (by omega) (by omega), sum_val ok hX h0, v 2 (by omega), holdP_eq];simp only [if_true];have := H.a3;omega
  ·simp only [hsB, List.map_cons, List.map_nil, v (3 + i) (by omega), v 2 (by omega)];exact (holdP_under _ _).2 ⟨g0 _, g0 _, H.b i hi⟩
  ·simp only [hsC, List.mem_cons, List.not_mem_nil, or_false] at hs;rcases hs with rfl | rfl
   ·simp only [List.map_cons, List.map_nil, uv_con, v 3 (by omega)];exact (holdP_under _ _).2 ⟨by omega, g0 _, H.c1⟩
   ·simp only [List.map_cons, List.map_nil, vq, v 0 (by omega), sum_val ok hX h0];refine (holdP_pow _ _ _).2 ⟨H.a2.1, g0 0, ?_⟩;simp only [decide_eq_true_eq];exact H.c2
  ·simp only [hsD, List.map_cons, List.map_nil, v (3 + m.l + j) (by omega), vd];exact (holdP_under _ _).2 ⟨g0 _, H.d j hj⟩
  ·unfold hsGo at hs;split at hs
   ·simp at hs
   ·rename_i h3;obtain ⟨n1, n2, n3⟩ := nxb i hi h3;have He := H.e i hi h3;have hp1 := hP 1 (3 + i);split at hs
    ·rename_i hj;rw [if_pos hj] at He;simp only [List.mem_cons, List.not_mem_nil, or_false] at hs;rcases hs with rfl | rfl
     ·simp only [List.map_cons, List.map_nil, here_val ok hX hi, v2z i hi h3 hj.1];exact (holdP_under _ _).2 ⟨hp1, by have := g0 (3 + (m.at i).nx.toNat); have := g0 (3 + (m.at i).zr.toNat); omega, He.1⟩
     ·simp only [List.map_cons, List.map_nil, here_val ok hX hi, jmp_val ok hX n1 n2];exact (holdP_under _ _).2 ⟨hp1, He.2.1, He.2.2⟩
    ·rename_i hj;rw [if_neg hj] at He;simp only [List.mem_cons, List.not_mem_nil, or_false] at hs;subst hs;simp only [List.map_cons, List.map_nil, here_val ok hX hi, v (3 + (m.at i).nx.toNat) (by omega)];exact (holdP_under _ _).2 ⟨hp1, g0 _, He⟩
  ·simp only [hsF, List.map_cons, List.map_nil, f_val ok hx hX h0 hj];have := H.f j hj;exact (holdP_eq _).2 (by omega)
end
end Go.AL
/- The history's equations in naturals. Plain. -/
namespace Go.AL
section
variable {m : MZ} {x X : List Int}
theorem at_facts (ok : OkMZ m) {i : Nat} (hi : i < m.l) : 0 ≤ (m.at i).op ∧ (m.at i).op ≤ 3 ∧ 0 ≤ (m.at i).rg ∧ 0 ≤ (m.at i).nx ∧ 0 ≤ (m.at i).zr := by
 rcases ok.ins i hi with k | ⟨⟨a1, a2⟩, ⟨b1, b2⟩, k⟩
 ·rw [k]; decide
 ·rcases k with ⟨c1, c2, c3, c4⟩ | ⟨c1, c2⟩ <;> exact ⟨by omega, by omega, by omega, by omega, by omega⟩
theorem cast_mul3 (a b : Nat) : (2 * (a : Int) * (b : Int)).toNat = 2 * a * b := by
 have : 2 * (a : Int) * (b : Int) = ((2 * a * b : Nat) : Int) := by simp
 rw [this, Int.toNat_natCast]
theorem histZ_eq (ok : OkMZ m) (hx : OkIn m x) (h0 : ∀ y ∈ X, 0 ≤ y) : HistZ m x X ↔ HistEq m.mach (fun j => (x.getD j 0).toNat) (addZ m x).toNat (nX X 0) (nX X 1) (nX X 2) (fun i => nX X (3 + i)) (fun j => nX X (3 + m.l + j)) (fun j => nX X (3 + m.l + m.R + j)) := by
 obtain ⟨N, hN⟩ : ∃ N : Nat → Nat, ∀ i, X.getD i 0 = (N i : Int) := ⟨nX X, fun i => (nX_cast h0 i).symm⟩
 have hn : ∀ i, nX X i = N i := fun i => by show (X.getD i 0).toNat = _; rw [hN, Int.toNat_natCast]
 obtain ⟨s1, s2, s3⟩ := addZ_b ok hx;obtain ⟨A, hA⟩ : ∃ A : Nat, addZ m x = (A : Int) := ⟨(addZ m x).toNat, by omega⟩;obtain ⟨y, hy⟩ : ∃ y : Nat → Nat, ∀ j, x.getD j 0 = (y j : Int) := ⟨fun j => (x.getD j 0).toNat, fun j => by have := (getD_in hx j).1; show x.getD j 0 = (((x.getD j 0).toNat : Nat) : Int); omega⟩;have hf := fun i hi => at_facts ok (i := i) hi
 -- the conditions
 have p3 : ∀ i, i < m.l → ((m.at i).op = 3 ↔ m.mach.op i = 3) := fun i hi => by
  have := hf i hi;show _ ↔ (m.at i).op.toNat = 3;omega
 have pj : ∀ i, i < m.l → ((m.at i).op = 2 ∧ (m.at i).zr ≠ (m.at i).nx ↔ m.mach.op i = 2 ∧ m.mach.zr i ≠ m.mach.nx i) := fun i hi => by
  have := hf i hi;show _ ↔ (m.at i).op.toNat = 2 ∧ (m.at i).zr.toNat ≠ (m.at i).nx.toNat;omega
 have p0 : ∀ i, i < m.l → ∀ j : Nat, ((m.at i).op = 0 ∧ (m.at i).rg = j ↔ m.mach.op i = 0 ∧ m.mach.rg i = j) := fun i hi j => by
  have := hf i hi;show _ ↔ (m.at i).op.toNat = 0 ∧ (m.at i).rg.toNat = j;omega
 have p1 : ∀ i, i < m.l → ∀ j : Nat, ((m.at i).op = 1 ∧ (m.at i).rg = j ↔ m.mach.op i = 1 ∧ m.mach.rg i = j) := fun i hi j => by
  have := hf i hi;show _ ↔ (m.at i).op.toNat = 1 ∧ (m.at i).rg.toNat = j;omega
 have q3 : (sumN m.l fun j => if (m.at j).op = 3 then N (3 + j) else 0) = sumN m.mach.l fun i => if m.mach.op i = 3 then N (3 + i) else 0 := sumN_ext fun i hi => by
  by_cases h : (m.at i).op = 3
  ·rw [if_pos h, if_pos ((p3 i hi).1 h)]
  ·rw [if_neg h, if_neg fun k => h ((p3 i hi).2 k)]
 have q0 : ∀ j : Nat, (sumN m.l fun i => if (m.at i).op = 0 ∧ (m.at i).rg = j then N (3 + i) else 0) = sumN m.mach.l fun i => if m.mach.op i = 0 ∧ m.mach.rg i = j then N (3 + i) else 0 := fun j => sumN_ext fun i hi => by
  by_cases h : (m.at i).op = 0 ∧ (m.at i).rg = j
  ·rw [if_pos h, if_pos ((p0 i hi j).1 h)]
  ·rw [if_neg h, if_neg fun k => h ((p0 i hi j).2 k)]
 have q1 : ∀ j : Nat, (sumN m.l fun i => if (m.at i).op = 1 ∧ (m.at i).rg = j then N (3 + i) else 0) = sumN m.mach.l fun i => if m.mach.op i = 1 ∧ m.mach.rg i = j then N (3 + i) else 0 := fun j => sumN_ext fun i hi => by
  by_cases h : (m.at i).op = 1 ∧ (m.at i).rg = j
  ·rw [if_pos h, if_pos ((p1 i hi j).1 h)]
  ·rw [if_neg h, if_neg fun k => h ((p1 i hi j).2 k)]
 -- the numbers
 have e1 : (2 : Int) ^ (X.getD 0 0 + addZ m x).toNat = X.getD 1 0 ↔ N 1 = 2 ^ (N 0 + A) := by
  rw [hN, hN, hA, show ((N 0 : Int) + (A : Int)).toNat = N 0 + A by omega]
  have : (2 : Int) ^ (N 0 + A) = ((2 ^ (N 0 + A) : Nat) : Int) := by rw [Int.natCast_pow]; rfl
  rw [this];omega
 have e2 : 1 ≤ N 1 → ((2 * X.getD 1 0) ^ (X.getD 0 0 + 1).toNat = 1 + (2 * X.getD 1 0 - 1) * X.getD 2 0 ↔ 1 + (2 * N 1 - 1) * N 2 = (2 * N 1) ^ (N 0 + 1)) := fun h1 => by
  rw [hN, hN, hN, show ((N 0 : Int) + 1).toNat = N 0 + 1 by omega]
  have c1 : (2 * (N 1 : Int)) ^ (N 0 + 1) = (((2 * N 1) ^ (N 0 + 1) : Nat) : Int) := by rw [Int.natCast_pow]; congr 1
  have c2 : 1 + (2 * (N 1 : Int) - 1) * (N 2 : Int) = ((1 + (2 * N 1 - 1) * N 2 : Nat) : Int) := by
   rw [Int.natCast_add, Int.natCast_mul, Int.natCast_sub (by omega)]; rfl
  rw [c1, c2];omega
 have eall : 1 ≤ N 1 → 1 + (2 * N 1 - 1) * N 2 = (2 * N 1) ^ (N 0 + 1) → 1 + (2 * X.getD 1 0 - 1) * X.getD 2 0 = (((2 * N 1) ^ (N 0 + 1) : Nat) : Int) := fun h1 h2 => by
  rw [← h2, hN, hN, Int.natCast_add, Int.natCast_mul, Int.natCast_sub (by omega)]; rfl
 have ed : 1 ≤ N 1 → (X.getD 1 0 - 1) * X.getD 2 0 = (((N 1 - 1) * N 2 : Nat) : Int) := fun h1 => by
  rw [hN, hN, Int.natCast_mul, Int.natCast_sub (by omega)]; rfl
 have ef : ∀ j, 1 ≤ N 1 → 1 + (2 * N 1 - 1) * N 2 = (2 * N 1) ^ (N 0 + 1) → (X.getD (3 + m.l + j) 0 + X.getD (3 + m.l + m.R + j) 0 * (1 + (2 * X.getD 1 0 - 1) * X.getD 2 0) = x.getD j 0 + 2 * X.getD 1 0 * X.getD (3 + m.l + j) 0 + 2 * X.getD 1 0 * (sumN m.l fun i => if (m.at i).op = 0 ∧ (m.at i).rg = j then nX X (3 + i) else 0 : Nat) - 2 * X.getD 1 0 * (sumN m.l fun i => if (m.at i).op = 1 ∧ (m.at i).rg = j then nX X (3 + i) else 0 : Nat) ↔ N (3 + m.l + j) + N (3 + m.l + m.R + j) * (2 * N 1) ^ (N 0 + 1) + 2 * N 1 * (sumN m.mach.l fun i => if m.mach.op i = 1 ∧ m.mach.rg i = j then N (3 + i) else 0) = y j + 2 * N 1 * N (3 + m.l + j) + 2 * N 1 * (sumN m.mach.l fun i => if m.mach.op i = 0 ∧ m.mach.rg i = j then N (3 + i) else 0)) := fun j h1 h2 => by
  rw [eall h1 h2];have g0 : (sumN m.l fun i => if (m.at i).op = 0 ∧ (m.at i).rg = j then nX X (3 + i) else 0) = _ := (sumN_ext fun i _ => by rw [hn]).trans (q0 j);have g1 : (sumN m.l fun i => if (m.at i).op = 1 ∧ (m.at i).rg = j then nX X (3 + i) else 0) = _ := (sumN_ext fun i _ => by rw [hn]).trans (q1 j);rw [g0, g1, hN, hN, hN, hy];generalize (2 * N 1) ^ (N 0 + 1) = P;generalize (sumN m.mach.l fun i => if m.mach.op i = 0 ∧ m.mach.rg i = j then N (3 + i) else 0) = S0;generalize (sumN m.mach.l fun i => if m.mach.op i = 1 ∧ m.mach.rg i = j then N (3 + i) else 0) = S1;generalize N (3 + m.l + j) = a;generalize N (3 + m.l + m.R + j) = b;generalize N 1 = H
  have t1 : (b : Int) * (P : Int) = ((b * P : Nat) : Int) := by simp
  have t2 : 2 * (H : Int) * (a : Int) = ((2 * H * a : Nat) : Int) := by simp
  have t3 : 2 * (H : Int) * (S0 : Int) = ((2 * H * S0 : Nat) : Int) := by simp
  have t4 : 2 * (H : Int) * (S1 : Int) = ((2 * H * S1 : Nat) : Int) := by simp
  rw [t1, t2, t3, t4];generalize b * P = B;generalize 2 * H * a = C;generalize 2 * H * S0 = D;generalize 2 * H * S1 = E;omega
 have ec : (2 * X.getD 1 0) ^ (nX X 0) = ((sumN m.l fun j => if (m.at j).op = 3 then nX X (3 + j) else 0 : Nat) : Int) ↔ (2 * N 1) ^ (N 0) = sumN m.mach.l fun i => if m.mach.op i = 3 then N (3 + i) else 0 := by
  have g3 : (sumN m.l fun j => if (m.at j).op = 3 then nX X (3 + j) else 0) = _ := (sumN_ext fun i _ => by rw [hn]).trans q3;rw [g3, hn, hN]
  have c1 : (2 * (N 1 : Int)) ^ (N 0) = (((2 * N 1) ^ (N 0) : Nat) : Int) := by rw [Int.natCast_pow]; congr 1
  rw [c1];omega
 have ee : ∀ i, i < m.l → ((if (m.at i).op = 2 ∧ (m.at i).zr ≠ (m.at i).nx then undN (2 * X.getD 1 0 * X.getD (3 + i) 0).toNat (X.getD (3 + (m.at i).nx.toNat) 0 + X.getD (3 + (m.at i).zr.toNat) 0).toNat ∧ 0 ≤ X.getD (3 + (m.at i).nx.toNat) 0 + 2 * X.getD 1 0 * X.getD 2 0 - 2 * X.getD (3 + m.l + (m.at i).rg.toNat) 0 ∧ undN (2 * X.getD 1 0 * X.getD (3 + i) 0).toNat (X.getD (3 + (m.at i).nx.toNat) 0 + 2 * X.getD 1 0 * X.getD 2 0 - 2 * X.getD (3 + m.l + (m.at i).rg.toNat) 0).toNat else undN (2 * X.getD 1 0 * X.getD (3 + i) 0).toNat (nX X (3 + (m.at i).nx.toNat))) ↔ if m.mach.op i = 2 ∧ m.mach.zr i ≠ m.mach.nx i then undN (2 * N 1 * N (3 + i)) (N (3 + m.mach.nx i) + N (3 + m.mach.zr i)) ∧ ∃ w, w + 2 * N (3 + m.l + m.mach.rg i) = N (3 + m.mach.nx i) + 2 * N 1 * N 2 ∧ undN (2 * N 1 * N (3 + i)) w else undN (2 * N 1 * N (3 + i)) (N (3 + m.mach.nx i))) := fun i hi => by
  have en : (m.at i).nx.toNat = m.mach.nx i := rfl;have ez : (m.at i).zr.toNat = m.mach.zr i := rfl;have er : (m.at i).rg.toNat = m.mach.rg i := rfl;rw [en, ez, er, hn];simp only [hN, cast_mul3]
  have t : 2 * (N 1 : Int) * (N 2 : Int) = ((2 * N 1 * N 2 : Nat) : Int) := by simp
  rw [t];by_cases h : (m.at i).op = 2 ∧ (m.at i).zr ≠ (m.at i).nx
  ·rw [if_pos h, if_pos ((pj i hi).1 h), show ((N (3 + m.mach.nx i) : Int) + (N (3 + m.mach.zr i) : Int)).toNat = N (3 + m.mach.nx i) + N (3 + m.mach.zr i) by omega];refine and_congr Iff.rfl ⟨fun ⟨k1, k2⟩ => ⟨_, ?_, k2⟩, fun ⟨w, k1, k2⟩ => ⟨by omega, ?_⟩⟩
   ·omega
   ·rw [show ((N (3 + m.mach.nx i) : Int) + ((2 * N 1 * N 2 : Nat) : Int) - 2 * (N (3 + m.l + m.mach.rg i) : Int)).toNat = w by omega]; exact k2
  ·rw [if_neg h, if_neg fun k => h ((pj i hi).2 k)]
 have hpow : N 1 = 2 ^ (N 0 + A) → 1 ≤ N 1 := fun h => by rw [h]; exact Nat.two_pow_pos _
 have hyf : (fun j => (x.getD j 0).toNat) = y := by
  funext j; rw [hy, Int.toNat_natCast]
 have hsa : (sumN m.l fun j => nX X (3 + j)) = sumN m.mach.l fun j => N (3 + j) := sumN_ext fun i _ => hn _
 have hAt : (addZ m x).toNat = A := by rw [hA, Int.toNat_natCast]
 simp only [hn, hyf, hAt];constructor
 ·intro h;have k1 := e1.1 h.a1;have kp := hpow k1;have k2 := (e2 kp).1 h.a2.2;refine ⟨k1, k2, ?_, fun i hi => ?_, ?_, ec.1 (by have := h.c2; exact this), fun j hj => ?_, fun i hi h3 => (ee i hi).1 (h.e i hi fun k => h3 ((p3 i hi).1 k)), fun j hj => (ef j kp k2).1 (h.f j hj)⟩
  ·have := h.a3;rw [hsa, hN] at this;show N 2 = sumN m.mach.l fun i => N (3 + i);omega
  ·have := h.b i hi; rwa [hn, hn] at this
  ·have := h.c1; rw [hn] at this; exact this
  ·have := (h.d j hj).2;rw [ed kp, Int.toNat_natCast, hn] at this;exact this
 ·intro h;have kp := hpow h.h1;refine ⟨e1.2 h.h1, ⟨by rw [hN]; omega, (e2 kp).2 h.h2⟩, ?_, fun i hi => ?_, ?_, ec.2 h.h6, fun j hj => ?_, fun i hi h3 => (ee i hi).2 (h.h8 i hi fun k => h3 ((p3 i hi).2 k)), fun j hj => (ef j kp h.h2).2 (h.h9 j hj)⟩
  ·rw [hsa, hN];have := h.h3;have e : N 2 = sumN m.mach.l fun i => N (3 + i) := this;omega
  ·rw [hn, hn]; exact h.h4 i hi
  ·rw [hn]; exact h.h5
  ·rw [ed kp, Int.toNat_natCast, hn];exact ⟨by omega, h.h7 j hj⟩
end
end Go.AL
/- The history of a run az a list of numbers; it is the one solution of the system. Plain. -/
namespace Go.AL
section
variable {m : MZ} {x X : List Int}
def histL (m : MZ) (x : List Int) (s : Nat) (pl : Nat → Nat) (r : Nat → Nat → Nat) : List Int :=
  [(s : Int), ((2 ^ (s + (addZ m x).toNat) : Nat) : Int), ((ds (2 * 2 ^ (s + (addZ m x).toNat)) (s + 1) fun _ => 1 : Nat) : Int)] ++ (List.range m.l).map (fun i => ((ds (2 * 2 ^ (s + (addZ m x).toNat)) (s + 1) (plD pl i) : Nat) : Int)) ++ (List.range m.R).map (fun j => ((ds (2 * 2 ^ (s + (addZ m x).toNat)) (s + 1) (fun t => r t j) : Nat) : Int)) ++ (List.range m.R).map (fun j => ((r s j : Nat) : Int))
theorem histL_len (s : Nat) (pl : Nat → Nat) (r : Nat → Nat → Nat) : (histL m x s pl r).length = m.V := by
 simp only [histL, List.length_append, List.length_map, List.length_range, List.length_cons, List.length_nil];show 0 + 1 + 1 + 1 + m.l + m.R + m.R = 3 + m.l + 2 * m.R;omega
theorem histL_get (s : Nat) (pl : Nat → Nat) (r : Nat → Nat → Nat) : (histL m x s pl r).getD 0 0 = s ∧ (histL m x s pl r).getD 1 0 = ((2 ^ (s + (addZ m x).toNat) : Nat) : Int) ∧ (histL m x s pl r).getD 2 0 = ((ds (2 * 2 ^ (s + (addZ m x).toNat)) (s + 1) fun _ => 1 : Nat) : Int) ∧ (∀ i, i < m.l → (histL m x s pl r).getD (3 + i) 0 = ((ds (2 * 2 ^ (s + (addZ m x).toNat)) (s + 1) (plD pl i) : Nat) : Int)) ∧ (∀ j, j < m.R → (histL m x s pl r).getD (3 + m.l + j) 0 = ((ds (2 * 2 ^ (s + (addZ m x).toNat)) (s + 1) (fun t => r t j) : Nat) : Int)) ∧ ∀ j, j < m.R → (histL m x s pl r).getD (3 + m.l + m.R + j) 0 = ((r s j : Nat) : Int) := by
 refine ⟨rfl, rfl, rfl, fun i hi => ?_, fun j hj => ?_, fun j hj => ?_⟩
 ·unfold histL;rw [List.getD_eq_getElem?_getD, List.getElem?_append_left (by simp; omega), List.getElem?_append_left (by simp; omega), List.getElem?_append_right (by simp)];simp only [List.length_cons, List.length_nil, List.getElem?_map];rw [show 3 + i - (0 + 1 + 1 + 1) = i by omega, List.getElem?_range hi];rfl
 ·unfold histL;rw [List.getD_eq_getElem?_getD, List.getElem?_append_left (by simp; omega), List.getElem?_append_right (by simp; omega)];simp only [List.length_append, List.length_cons, List.length_nil, List.getElem?_map, List.length_map, List.length_range];rw [show 3 + m.l + j - (0 + 1 + 1 + 1 + m.l) = j by omega, List.getElem?_range hj];rfl
 ·unfold histL;rw [List.getD_eq_getElem?_getD, List.getElem?_append_right (by simp; omega)];simp only [List.length_append, List.length_cons, List.length_nil, List.getElem?_map, List.length_map, List.length_range];rw [show 3 + m.l + m.R + j - (0 + 1 + 1 + 1 + m.l + m.R) = j by omega, List.getElem?_range hj];rfl
theorem histL_nn (s : Nat) (pl : Nat → Nat) (r : Nat → Nat → Nat) : ∀ y ∈ histL m x s pl r, 0 ≤ y := by
 intro y hy;simp only [histL, List.mem_append, List.mem_cons, List.not_mem_nil, or_false, List.mem_map] at hy;rcases hy with (((rfl | rfl | rfl) | ⟨i, _, rfl⟩) | ⟨j, _, rfl⟩) | ⟨j, _, rfl⟩ <;> exact Int.natCast_nonneg _
theorem in_le (ok : OkMZ m) (hx : OkIn m x) : m.mach.l ≤ (addZ m x).toNat ∧ ∀ j, j < m.mach.R → (x.getD j 0).toNat ≤ (addZ m x).toNat := by
 obtain ⟨s1, s2, s3⟩ := addZ_b ok hx;refine ⟨by show m.l ≤ _; omega, fun j hj => ?_⟩;have hs := sumL_ge (l := x) fun e he => (hx.2 e he).1;have hl : ((m.l : Nat) : Int) ≤ addZ m x := s3
 have hle : x.getD j 0 ≤ sumL x := by
  rw [List.getD_eq_getElem?_getD]
  cases h : x[j]? with
  | none => simpa using hs.1
  | some n => exact hs.2 n (List.mem_of_getElem? h)
 have e : addZ m x = (m.l : Int) + sumL x := rfl;omega
theorem hs_only (ok : OkMZ m) (hx : OkIn m x) (hX : X.length = m.V) (h0 : ∀ y ∈ X, 0 ≤ y) (h : ∀ l ∈ (hsS m x).links, HoL X l) : ∃ (pl : Nat → Nat) (r : Nat → Nat → Nat), m.mach.Run (fun j => (x.getD j 0).toNat) (nX X 0) pl r ∧ X = histL m x (nX X 0) pl r := by
 have hE := (histZ_eq ok hx h0).1 ((hs_hol ok hx hX h0).1 h);obtain ⟨i1, i2⟩ := in_le ok hx;obtain ⟨pl, r, hr, e1, e2, e3⟩ := hist_only ok.mach i1 i2 hE;refine ⟨pl, r, hr, ?_⟩;have hH := hE.h1;have c := nX_cast h0;obtain ⟨g0, g1, g2, g3, g4, g5⟩ := histL_get (m := m) (x := x) (nX X 0) pl r;rw [hH] at e1 e2 e3
 have key : ∀ i, i < m.V → X.getD i 0 = (histL m x (nX X 0) pl r).getD i 0 := by
  intro i hi;have hVe : m.V = 3 + m.l + 2 * m.R := rfl;rcases (show i = 0 ∨ i = 1 ∨ i = 2 ∨ (3 ≤ i ∧ i < 3 + m.l) ∨ (3 + m.l ≤ i ∧ i < 3 + m.l + m.R) ∨ 3 + m.l + m.R ≤ i by omega) with h | h | h | ⟨h, h'⟩ | ⟨h, h'⟩ | h
  ·subst h; rw [g0, c]
  ·subst h; rw [g1, ← hH, c]
  ·subst h; rw [g2, ← e1, c]
  ·obtain ⟨k, rfl⟩ : ∃ k, i = 3 + k := ⟨i - 3, by omega⟩;rw [g3 k (by omega), ← e2 k (show k < m.l by omega), c]
  ·obtain ⟨k, rfl⟩ : ∃ k, i = 3 + m.l + k := ⟨i - (3 + m.l), by omega⟩;rw [g4 k (by omega), ← (e3 k (show k < m.R by omega)).1, c]
  ·obtain ⟨k, rfl⟩ : ∃ k, i = 3 + m.l + m.R + k := ⟨i - (3 + m.l + m.R), by omega⟩;rw [g5 k (by omega), ← (e3 k (show k < m.R by omega)).2, c]
 refine List.ext_getElem? fun i => ?_;by_cases hi : i < m.V
 ·have k := key i hi;rw [List.getD_eq_getElem?_getD, List.getD_eq_getElem?_getD, List.getElem?_eq_getElem (by omega), List.getElem?_eq_getElem (by rw [histL_len]; exact hi)] at k;rw [List.getElem?_eq_getElem (by omega), List.getElem?_eq_getElem (by rw [histL_len]; exact hi)];exact congrArg some k
 ·rw [List.getElem?_eq_none (by omega), List.getElem?_eq_none (by rw [histL_len]; omega)]
theorem hs_there (ok : OkMZ m) (hx : OkIn m x) {s : Nat} {pl : Nat → Nat} {r : Nat → Nat → Nat} (hr : m.mach.Run (fun j => (x.getD j 0).toNat) s pl r) : ∀ l ∈ (hsS m x).links, HoL (histL m x s pl r) l := by
 have h0 := histL_nn (m := m) (x := x) s pl r;refine (hs_hol ok hx (histL_len s pl r) h0).2 ((histZ_eq ok hx h0).2 ?_);obtain ⟨i1, i2⟩ := in_le ok hx;obtain ⟨g0, g1, g2, g3, g4, g5⟩ := histL_get (m := m) (x := x) s pl r;have hE := hist_there ok.mach i1 i2 hr (H := 2 ^ (s + (addZ m x).toNat)) rfl
 have n0 : nX (histL m x s pl r) 0 = s := by show ((histL m x s pl r).getD 0 0).toNat = _; rw [g0, Int.toNat_natCast]
 have n1 : nX (histL m x s pl r) 1 = 2 ^ (s + (addZ m x).toNat) := by show ((histL m x s pl r).getD 1 0).toNat = _; rw [g1, Int.toNat_natCast]
 have n2 : nX (histL m x s pl r) 2 = ds (2 * 2 ^ (s + (addZ m x).toNat)) (s + 1) (fun _ => 1) := by show ((histL m x s pl r).getD 2 0).toNat = _; rw [g2, Int.toNat_natCast]
 have n3 : ∀ i, i < m.l → nX (histL m x s pl r) (3 + i) = ds (2 * 2 ^ (s + (addZ m x).toNat)) (s + 1) (plD pl i) := fun i hi => by show ((histL m x s pl r).getD (3 + i) 0).toNat = _; rw [g3 i hi, Int.toNat_natCast]
 have n4 : ∀ j, j < m.R → nX (histL m x s pl r) (3 + m.l + j) = ds (2 * 2 ^ (s + (addZ m x).toNat)) (s + 1) (fun t => r t j) := fun j hj => by show ((histL m x s pl r).getD (3 + m.l + j) 0).toNat = _; rw [g4 j hj, Int.toNat_natCast]
 have n5 : ∀ j, j < m.R → nX (histL m x s pl r) (3 + m.l + m.R + j) = r s j := fun j hj => by show ((histL m x s pl r).getD (3 + m.l + m.R + j) 0).toNat = _; rw [g5 j hj, Int.toNat_natCast]
 rw [n0, n1, n2];refine ⟨hE.h1, hE.h2, ?_, fun i hi => ?_, ?_, ?_, fun j hj => ?_, fun i hi h3 => ?_, fun j hj => ?_⟩
 ·rw [hE.h3]; exact sumN_ext fun i hi => (n3 i hi).symm
 ·rw [n3 i hi]; exact hE.h4 i hi
 ·rw [n3 0 ok.l1]; exact hE.h5
 ·rw [hE.h6]; exact sumN_ext fun i hi => by rw [n3 i hi]
 ·rw [n4 j hj]; exact hE.h7 j hj
 ·have h8 := hE.h8 i hi h3;rcases ok.mach.ins i hi with k | ⟨o1, o2, o3, o4, o5⟩
  ·exact absurd k h3
  rw [n3 i hi, n3 _ o3, n3 _ o4, n4 _ o2];exact h8
 ·have h9 := hE.h9 j hj;rw [n4 j hj, n5 j hj];rw [show (sumN m.mach.l fun i => if m.mach.op i = 1 ∧ m.mach.rg i = j then nX (histL m x s pl r) (3 + i) else 0) = _ from sumN_ext fun i hi => by rw [n3 i hi], show (sumN m.mach.l fun i => if m.mach.op i = 0 ∧ m.mach.rg i = j then nX (histL m x s pl r) (3 + i) else 0) = _ from sumN_ext fun i hi => by rw [n3 i hi]];exact h9
end
end Go.AL
/- The run az a function. Plain. -/
namespace Go.AL
def Mach.F (m : Mach) (x : Nat → Nat) : Nat → Nat × (Nat → Nat)
  | 0 => (0, x)
  | t + 1 => (m.to (m.F x t).1 (m.F x t).2, fun j => if m.op (m.F x t).1 = 0 ∧ m.rg (m.F x t).1 = j then (m.F x t).2 j + 1 else if m.op (m.F x t).1 = 1 ∧ m.rg (m.F x t).1 = j then (m.F x t).2 j - 1 else (m.F x t).2 j)
def Mach.Over (m : Mach) (c : Nat × (Nat → Nat)) : Prop := m.op c.1 = 3 ∨ (m.op c.1 = 1 ∧ c.2 (m.rg c.1) = 0)
instance (m : Mach) (c : Nat × (Nat → Nat)) : Decidable (m.Over c) := inferInstanceAs (Decidable (_ ∨ _))
theorem Mach.F_lt {m : Mach} (ok : m.Ok) (x : Nat → Nat) {s : Nat} : (∀ t, t < s → ¬ m.Over (m.F x t)) → ∀ t, t ≤ s → (m.F x t).1 < m.l := by
 intro h t
 induction t with
 | zero => exact fun _ => ok.l0
 | succ t ih =>
  intro ht;have hi := ih (by omega);have hn := h t (by omega);rcases ok.ins _ hi with k | ⟨_, _, o3, o4, _⟩
  ·exact absurd (.inl k) hn
  ·show m.to _ _ < m.l;unfold Mach.to;split
   ·exact o4
   ·exact o3
theorem Mach.F_run {m : Mach} (ok : m.Ok) {x : Nat → Nat} {s : Nat} (h : ∀ t, t < s → ¬ m.Over (m.F x t)) (hs : m.op (m.F x s).1 = 3) : m.Run x s (fun t => (m.F x t).1) fun t => (m.F x t).2 := by
 refine ⟨m.F_lt ok x h, rfl, fun _ _ => rfl, fun t ht => ⟨fun k => h t ht (.inl k), rfl⟩, fun t ht j hj => ?_, hs⟩;have hn := h t ht;show (if m.op (m.F x t).1 = 0 ∧ m.rg (m.F x t).1 = j then (m.F x t).2 j + 1 else if m.op (m.F x t).1 = 1 ∧ m.rg (m.F x t).1 = j then (m.F x t).2 j - 1 else (m.F x t).2 j) + _ = _;by_cases h0 : m.op (m.F x t).1 = 0 ∧ m.rg (m.F x t).1 = j
 ·rw [if_pos h0, if_neg (by omega), if_pos h0]
 ·rw [if_neg h0];by_cases h1 : m.op (m.F x t).1 = 1 ∧ m.rg (m.F x t).1 = j
  ·rw [if_pos h1, if_pos h1, if_neg h0];have : (m.F x t).2 j ≠ 0 := fun k => hn (.inr ⟨h1.1, by rw [h1.2]; exact k⟩);omega
  ·rw [if_neg h1, if_neg h1, if_neg h0]
theorem Mach.run_F {m : Mach} (ok : m.Ok) {x : Nat → Nat} {s : Nat} {pl : Nat → Nat} {r : Nat → Nat → Nat} (h : m.Run x s pl r) : (∀ t, t ≤ s → pl t = (m.F x t).1 ∧ ∀ j, j < m.R → r t j = (m.F x t).2 j) ∧ (∀ t, t < s → ¬ m.Over (m.F x t)) ∧ m.op (m.F x s).1 = 3 := by
 have key : ∀ t, t ≤ s → pl t = (m.F x t).1 ∧ ∀ j, j < m.R → r t j = (m.F x t).2 j := by
  intro t
  induction t with
  | zero => exact fun _ => ⟨h.at0, fun j hj => h.r0 j hj⟩
  | succ t ih =>
   intro ht;obtain ⟨e1, e2⟩ := ih (by omega);have g := h.go t (by omega);refine ⟨?_, fun j hj => ?_⟩
   ·rw [g.2];show _ = m.to (m.F x t).1 (m.F x t).2;rw [← e1];unfold Mach.to;rcases ok.ins (pl t) (h.lt t (by omega)) with k | ⟨_, o2, _⟩
    ·exact absurd k g.1
    ·rw [e2 _ o2]
   ·have c := h.chg t (by omega) j hj;show _ = if m.op (m.F x t).1 = 0 ∧ m.rg (m.F x t).1 = j then (m.F x t).2 j + 1 else if m.op (m.F x t).1 = 1 ∧ m.rg (m.F x t).1 = j then (m.F x t).2 j - 1 else (m.F x t).2 j;rw [← e1, ← e2 j hj];by_cases h0 : m.op (pl t) = 0 ∧ m.rg (pl t) = j
    ·rw [if_pos h0] at c ⊢;rw [if_neg (by omega)] at c;exact c
    ·rw [if_neg h0] at c ⊢;by_cases h1 : m.op (pl t) = 1 ∧ m.rg (pl t) = j
     ·rw [if_pos h1] at c ⊢; omega
     ·rw [if_neg h1] at c ⊢; exact c
 refine ⟨key, fun t ht hov => ?_, by rw [← (key s (Nat.le_refl _)).1]; exact h.halt⟩;obtain ⟨e1, e2⟩ := key t (by omega);have g := h.go t ht;rcases hov with k | ⟨k1, k2⟩
 ·rw [← e1] at k; exact g.1 k
 ·rw [← e1] at k1 k2;rcases ok.ins (pl t) (h.lt t (by omega)) with k | ⟨_, o2, _⟩
  ·exact g.1 k
  ·rw [← e2 _ o2] at k2;have c := h.chg t ht _ o2;rw [if_pos ⟨k1, rfl⟩, if_neg (by omega)] at c;omega
theorem Mach.F_le {m : Mach} {x : Nat → Nat} (j : Nat) : ∀ t, (m.F x t).2 j ≤ x j + t
 | 0 => Nat.le_refl _
 | t + 1 => by
  have ih := m.F_le (x := x) j t;show (if m.op (m.F x t).1 = 0 ∧ m.rg (m.F x t).1 = j then (m.F x t).2 j + 1 else if m.op (m.F x t).1 = 1 ∧ m.rg (m.F x t).1 = j then (m.F x t).2 j - 1 else (m.F x t).2 j) ≤ _;split
  ·omega
  ·split <;> omega
theorem Mach.stop {m : Mach} (x : Nat → Nat) (n : Nat) : ∃ k, k ≤ n ∧ (∀ t, t < k → ¬ m.Over (m.F x t)) ∧ (k = n ∨ m.Over (m.F x k)) := by
 induction n with
 | zero => exact ⟨0, Nat.le_refl _, fun t ht => by omega, .inl rfl⟩
 | succ n ih =>
  obtain ⟨k, h1, h2, h3⟩ := ih;by_cases ho : m.Over (m.F x k)
  ·exact ⟨k, by omega, h2, .inr ho⟩
  ·have hk : k = n := by
    rcases h3 with h | h
    ·exact h
    ·exact absurd h ho
   subst hk;refine ⟨k + 1, Nat.le_refl _, fun t ht => ?_, .inl rfl⟩;rcases (show t < k ∨ t = k by omega) with h | h
   ·exact h2 t h
   ·rw [h]; exact ho
end Go.AL
/- Registers az lists: a step. Plain. -/
namespace Go.AL
def rgL (R : Nat) (f : Nat → Nat) : List Int := (List.range R).map fun j => ((f j : Nat) : Int)
theorem rgL_len (R : Nat) (f : Nat → Nat) : (rgL R f).length = R := by simp [rgL]
theorem rgL_get {R : Nat} {f : Nat → Nat} {k : Nat} (hk : k < R) : (rgL R f)[k]? = some ((f k : Nat) : Int) := by
 unfold rgL;rw [List.getElem?_map, List.getElem?_range hk]; rfl
theorem rgL_ext {R : Nat} {f g : Nat → Nat} (h : ∀ j, j < R → f j = g j) : rgL R f = rgL R g := by
 unfold rgL
 exact List.map_congr_left fun j hj => by rw [h j (List.mem_range.1 hj)]
theorem rgL_set {R : Nat} {f g : Nat → Nat} {k v : Nat} (hk : k < R) (h : ∀ j, j < R → g j = if k = j then v else f j) : rgL R g = (rgL R f).set k (v : Int) := by
 refine List.ext_getElem? fun j => ?_;rw [List.getElem?_set];by_cases hj : j < R
 ·rw [rgL_get hj, h j hj];by_cases e : k = j
  ·rw [if_pos e, if_pos e, if_pos (by rw [rgL_len]; omega)]
  ·rw [if_neg e, if_neg e, rgL_get hj]
 ·rw [List.getElem?_eq_none (by rw [rgL_len]; omega), if_neg (by omega), List.getElem?_eq_none (by rw [rgL_len]; omega)]
theorem rgL_of {x : List Int} (h0 : ∀ n ∈ x, 0 ≤ n) : x = rgL x.length fun j => (x.getD j 0).toNat := by
 refine List.ext_getElem? fun j => ?_;by_cases hj : j < x.length
 ·rw [rgL_get hj, List.getD_eq_getElem?_getD, List.getElem?_eq_getElem hj];have := h0 _ (List.getElem_mem hj);show some _ = some ((((x[j]) : Int).toNat : Nat) : Int);congr 1;omega
 ·rw [List.getElem?_eq_none (by omega), List.getElem?_eq_none (by rw [rgL_len]; omega)]
section
variable {m : MZ} {x : Nat → Nat} {t : Nat}
theorem F_inc (h : m.mach.op (m.mach.F x t).1 = 0) (hr : m.mach.rg (m.mach.F x t).1 < m.R) : (m.mach.F x (t + 1)).1 = m.mach.nx (m.mach.F x t).1 ∧ rgL m.R (m.mach.F x (t + 1)).2 = (rgL m.R (m.mach.F x t).2).set (m.mach.rg (m.mach.F x t).1) (((m.mach.F x t).2 (m.mach.rg (m.mach.F x t).1) + 1 : Nat) : Int) := by
 refine ⟨?_, rgL_set hr fun j _ => ?_⟩
 ·show m.mach.to _ _ = _;unfold Mach.to;rw [if_neg (by omega)]
 ·show (if m.mach.op (m.mach.F x t).1 = 0 ∧ m.mach.rg (m.mach.F x t).1 = j then (m.mach.F x t).2 j + 1 else if m.mach.op (m.mach.F x t).1 = 1 ∧ m.mach.rg (m.mach.F x t).1 = j then (m.mach.F x t).2 j - 1 else (m.mach.F x t).2 j) = _;by_cases e : m.mach.rg (m.mach.F x t).1 = j
  ·rw [if_pos ⟨h, e⟩, if_pos e, e]
  ·rw [if_neg fun k => e k.2, if_neg fun k => e k.2, if_neg e]
theorem F_dec (h : m.mach.op (m.mach.F x t).1 = 1) (hr : m.mach.rg (m.mach.F x t).1 < m.R) : (m.mach.F x (t + 1)).1 = m.mach.nx (m.mach.F x t).1 ∧ rgL m.R (m.mach.F x (t + 1)).2 = (rgL m.R (m.mach.F x t).2).set (m.mach.rg (m.mach.F x t).1) (((m.mach.F x t).2 (m.mach.rg (m.mach.F x t).1) - 1 : Nat) : Int) := by
 refine ⟨?_, rgL_set hr fun j _ => ?_⟩
 ·show m.mach.to _ _ = _;unfold Mach.to;rw [if_neg (by omega)]
 ·show (if m.mach.op (m.mach.F x t).1 = 0 ∧ m.mach.rg (m.mach.F x t).1 = j then (m.mach.F x t).2 j + 1 else if m.mach.op (m.mach.F x t).1 = 1 ∧ m.mach.rg (m.mach.F x t).1 = j then (m.mach.F x t).2 j - 1 else (m.mach.F x t).2 j) = _;rw [if_neg fun k => by omega];by_cases e : m.mach.rg (m.mach.F x t).1 = j
  ·rw [if_pos ⟨h, e⟩, if_pos e, e]
  ·rw [if_neg fun k => e k.2, if_neg e]
theorem F_jmp (h : m.mach.op (m.mach.F x t).1 = 2) : (m.mach.F x (t + 1)).1 = (if (m.mach.F x t).2 (m.mach.rg (m.mach.F x t).1) = 0 then m.mach.zr (m.mach.F x t).1 else m.mach.nx (m.mach.F x t).1) ∧ rgL m.R (m.mach.F x (t + 1)).2 = rgL m.R (m.mach.F x t).2 := by
 refine ⟨?_, rgL_ext fun j _ => ?_⟩
 ·show m.mach.to _ _ = _;unfold Mach.to;by_cases e : (m.mach.F x t).2 (m.mach.rg (m.mach.F x t).1) = 0
  ·rw [if_pos ⟨h, e⟩, if_pos e]
  ·rw [if_neg fun k => e k.2, if_neg e]
 ·show (if m.mach.op (m.mach.F x t).1 = 0 ∧ m.mach.rg (m.mach.F x t).1 = j then (m.mach.F x t).2 j + 1 else if m.mach.op (m.mach.F x t).1 = 1 ∧ m.mach.rg (m.mach.F x t).1 = j then (m.mach.F x t).2 j - 1 else (m.mach.F x t).2 j) = _;rw [if_neg fun k => by omega, if_neg fun k => by omega]
end
end Go.AL
/- register.Run, Halts, Start, Step. -/
namespace Go.AL
theorem MZ.R_eq {m : MZ} (h : OkMZ m) : ((m.R : Nat) : Int) = m.regs := by
 have := h.r1;show ((m.regs.toNat : Nat) : Int) = m.regs;omega
theorem MZ.ins_at {m : MZ} (h : OkMZ m) {a : Nat} (ha : a < m.l) : m.at a = haltZ ∨ ((0 ≤ (m.at a).rg ∧ (m.at a).rg < m.R) ∧ (0 ≤ (m.at a).nx ∧ (m.at a).nx < m.l) ∧ (((m.at a).op = 2 ∧ 0 ≤ (m.at a).zr ∧ (m.at a).zr < m.l ∧ (m.at a).nx ≠ a) ∨ (((m.at a).op = 0 ∨ (m.at a).op = 1) ∧ (m.at a).zr = 0))) := by
 have := MZ.R_eq h;rcases h.ins a ha with k | ⟨⟨k1, k2⟩, k3⟩
 ·exact .inl k
 ·exact .inr ⟨⟨k1, by omega⟩, k3⟩
theorem rgL_all {R : Nat} {f : Nat → Nat} {B : Nat} (h : ∀ j, f j ≤ B) : ∀ v ∈ rgL R f, 0 ≤ v ∧ v ≤ (B : Int) := by
 intro v hv;obtain ⟨j, _, rfl⟩ := List.mem_map.1 hv;have := h j;exact ⟨Int.natCast_nonneg _, by omega⟩
def inF (x : List Int) : Nat → Nat := fun j => (x.getD j 0).toNat
theorem inF_le {m : MZ} {x : List Int} (hx : OkIn m x) (j : Nat) : inF x j ≤ 1000 := by
 unfold inF;rw [List.getD_eq_getElem?_getD]
 cases h : x[j]? with
 | none => simp
 | some v => have := hx.2 v (List.mem_of_getElem? h); simp only [Option.getD_some]; omega
theorem inF_eq {m : MZ} {x : List Int} (hx : OkIn m x) : rgL m.R (inF x) = x := by
 have ex := rgL_of fun v hv => (hx.2 v hv).1;rw [show m.R = x.length from hx.1.symm];exact ex.symm
end Go.AL
namespace Go.Proofs.YtmmfloplhopioaaGreat
open Go.AL
theorem rnOverC_ok (m : MZ) (hm : OkMZ m) (c : Nat × (Nat → Nat)) (hc : c.1 < m.l) : IoFn Tryz.prog 85 [.ptr 900 0] (rnB m c.1 (rgL m.R c.2)) (.ret (aB (decide (m.mach.Over c)))) (rnB m c.1 (rgL m.R c.2)) := by
 have hI := MZ.ins_at hm hc
 have hz : m.code[Int.toNat ((c.1 : Nat) : Int)]? = some (m.at c.1) := by rw [Int.toNat_natCast]; exact MZ.get_at hc
 refine rnOver_ok m c.1 (m.at c.1) _ hz (fun h => ?_) _ ?_
 ·rcases hI with k | ⟨k, _⟩
  ·rw [k] at h; exact absurd rfl h
  ·rw [rgL_len]; exact k
 ·rw [decide_eq_true_iff];show ((m.at c.1).op.toNat = 3 ∨ ((m.at c.1).op.toNat = 1 ∧ c.2 (m.at c.1).rg.toNat = 0)) ↔ _;rcases hI with k | ⟨⟨k1, k2⟩, k3, k4⟩
  ·rw [k]; exact ⟨fun _ => .inl rfl, fun _ => .inl rfl⟩
  ·have hg : (rgL m.R c.2)[(m.at c.1).rg.toNat]? = some ((c.2 (m.at c.1).rg.toNat : Nat) : Int) := rgL_get (by omega);rw [hg]
   have : (some ((c.2 (m.at c.1).rg.toNat : Nat) : Int) = some 0) ↔ c.2 (m.at c.1).rg.toNat = 0 := by
    constructor
    ·intro h; injection h with h; omega
    ·intro h; rw [h]; rfl
   rw [this]
   have h1 : (m.at c.1).op = 0 ∨ (m.at c.1).op = 1 ∨ (m.at c.1).op = 2 := by omega
   constructor <;> intro h <;> omega
theorem rnStepF_ok (m : MZ) (hm : OkMZ m) (x : Nat → Nat) (t : Nat) (hc : (m.mach.F x t).1 < m.l) (hno : ¬ m.mach.Over (m.mach.F x t)) (hb : ∀ j, (m.mach.F x t).2 j < 1099511627776) : IoFn Tryz.prog 86 [.ptr 900 0] (rnB m (m.mach.F x t).1 (rgL m.R (m.mach.F x t).2)) (.ret (aB true)) (rnB m (m.mach.F x (t + 1)).1 (rgL m.R (m.mach.F x (t + 1)).2)) := by
 have hI := MZ.ins_at hm hc
 have hz : m.code[Int.toNat (((m.mach.F x t).1 : Nat) : Int)]? = some (m.at (m.mach.F x t).1) := by rw [Int.toNat_natCast]; exact MZ.get_at hc
 obtain ⟨z, ez⟩ : ∃ z, z = m.at (m.mach.F x t).1 := ⟨_, rfl⟩
 have eo : m.mach.op (m.mach.F x t).1 = z.op.toNat := by rw [ez]; rfl
 have er : m.mach.rg (m.mach.F x t).1 = z.rg.toNat := by rw [ez]; rfl
 have en : m.mach.nx (m.mach.F x t).1 = z.nx.toNat := by rw [ez]; rfl
 have ezr : m.mach.zr (m.mach.F x t).1 = z.zr.toNat := by rw [ez]; rfl
 rw [← ez] at hI hz;rcases hI with k | ⟨⟨k1, k2⟩, ⟨k3, k3'⟩, k4⟩
 ·exact absurd (.inl (by rw [eo, k]; rfl)) hno
 ·have hrl : 0 ≤ z.rg ∧ z.rg < (rgL m.R (m.mach.F x t).2).length := by rw [rgL_len]; exact ⟨k1, k2⟩
  have hv : (rgL m.R (m.mach.F x t).2)[z.rg.toNat]? = some (((m.mach.F x t).2 z.rg.toNat : Nat) : Int) := rgL_get (by omega);have hbv := hb z.rg.toNat;rcases (show z.op = 0 ∨ z.op = 1 ∨ z.op = 2 by omega) with h | h | h
  ·obtain ⟨f1, f2⟩ := F_inc (m := m) (x := x) (t := t) (by rw [eo, h]; rfl) (by rw [er]; omega);have := rnInc_ok m _ z _ _ hz h hrl hv (by omega) (by omega);rw [f1, f2, en, er, show ((z.nx.toNat : Nat) : Int) = z.nx by omega];exact this
  ·obtain ⟨f1, f2⟩ := F_dec (m := m) (x := x) (t := t) (by rw [eo, h]; rfl) (by rw [er]; omega);have := rnDec_ok m _ z _ _ hz h hrl hv (by omega) (by omega);have hpos : (m.mach.F x t).2 z.rg.toNat ≠ 0 := fun k => hno (.inr ⟨by rw [eo, h]; rfl, by rw [er]; exact k⟩);rw [f1, f2, en, er, show ((z.nx.toNat : Nat) : Int) = z.nx by omega, show (((m.mach.F x t).2 z.rg.toNat - 1 : Nat) : Int) = (((m.mach.F x t).2 z.rg.toNat : Nat) : Int) - 1 by omega];exact this
  ·obtain ⟨f1, f2⟩ := F_jmp (m := m) (x := x) (t := t) (by rw [eo, h]; rfl);have := rnJmp_ok m _ z _ _ hz h hrl hv (by omega);rw [f1, f2, en, er, ezr];by_cases e : (m.mach.F x t).2 z.rg.toNat = 0
   ·rw [if_pos e, show ((z.zr.toNat : Nat) : Int) = z.zr by omega];rw [if_pos (by omega)] at this;exact this
   ·rw [if_neg e, show ((z.nx.toNat : Nat) : Int) = z.nx by omega];rw [if_neg (by omega)] at this;exact this
theorem rnRun_ok (m : MZ) (hm : OkMZ m) (x : Nat → Nat) (n k : Nat) (hn : n ≤ 1000000) (hx : ∀ j, x j ≤ 1000) (hk : k ≤ n) (h1 : ∀ t, t < k → ¬ m.mach.Over (m.mach.F x t)) (h2 : k = n ∨ m.mach.Over (m.mach.F x k)) : IoFn Tryz.prog 140 [.ptr 900 0, aN n] (rnB m (m.mach.F x 0).1 (rgL m.R (m.mach.F x 0).2)) (.ret (.tup [aN k, aB true])) (rnB m (m.mach.F x k).1 (rgL m.R (m.mach.F x k).2)) := by
 refine IoFn.of_body Tryz.func140 rfl Tryz.ntmps140 rfl rfl rfl ?_;have hlt := Mach.F_lt hm.mach x h1;(repeat' (first |refine qv ?_ |apply qn |apply qs |apply qr |apply qb));refine AWP.loop (G := Nat) (fun t => t ≤ k) (fun t => St.of [900, 901] [(0, .ptr 900 0), (1, aN n), (7, aN n), (8, aN t)] (rnB m (m.mach.F x t).1 (rgL m.R (m.mach.F x t).2))) (fun t => n - t) 0 (by omega) ?_ ?_
 ·refine Ent.of [] ?_ ?_ rfl rfl;(repeat' (first |exact True.intro |refine ⟨⟨AV.Le.refl _, rfl⟩, ?_⟩ |refine ⟨⟨⟨_, rfl, BLe.cells (LeL.refl _)⟩, rfl⟩, ?_⟩ |refine ⟨⟨⟨_, rfl, BLe.row rfl⟩, rfl⟩, ?_⟩|fail))
 ·intro t ht;have ho := rnOverC_ok m hm (m.mach.F x t) (hlt t ht);rcases Nat.lt_or_ge t k with hk1 | hk1
  ·rw [decide_eq_false (h1 t hk1)] at ho
   have hs := rnStepF_ok m hm x t (hlt t ht) (h1 t hk1) fun j => by
    have := m.mach.F_le (x := x) j t;have := hx j;omega
   (repeat' (first |refine qv ?_ |apply qn |apply qs |apply qr |(refine AWP.condD rfl ?_ ?_ <;> intro _ <;> try (exfalso; omega)) |apply qb |apply qk));refine Fl.io rfl [] ho rfl rfl (LeL.refl _) rfl ⟨⟨⟨_, rfl, BLe.cells (LeL.refl _)⟩, rfl⟩, ⟨⟨_, rfl, BLe.row rfl⟩, rfl⟩, trivial⟩ rfl rfl rfl rfl rfl ?_;(repeat' (first |refine qv ?_ |apply qn |apply qs |apply qr |refine AWP.condF rfl ?_ |apply qk));refine Fl.io rfl [] hs rfl rfl (LeL.refl _) rfl ⟨⟨⟨_, rfl, BLe.cells (LeL.refl _)⟩, rfl⟩, ⟨⟨_, rfl, BLe.row rfl⟩, rfl⟩, trivial⟩ rfl rfl rfl rfl rfl ?_;(repeat' (first |refine qv ?_ |apply qn |apply qr |refine qw ?_ |refine AWP.condF rfl ?_ |apply qk));refine LoopEnd.of (t + 1) (by omega) (by omega) ?_;refine Ent.of [] ?_ ?_ rfl rfl;(repeat' (first |exact True.intro |refine ⟨⟨AV.Le.refl _, rfl⟩, ?_⟩ |refine ⟨⟨⟨_, rfl, BLe.cells (LeL.refl _)⟩, rfl⟩, ?_⟩ |refine ⟨⟨⟨_, rfl, BLe.row rfl⟩, rfl⟩, ?_⟩|fail))
  ·have etk : t = k := by omega
   subst etk;rcases h2 with h | h
   ·subst h;(repeat' (first |refine qv ?_ |apply qn |apply qs |apply qr |(refine AWP.condD rfl ?_ ?_ <;> intro _ <;> try (exfalso; omega)) |apply qx |apply qt));exact ⟨⟨[], _, _, Ent.refl _ _ _, rfl, AV.Le.refl _, rfl, ⟨⟨⟨_, rfl, BLe.cells (LeL.refl _)⟩, rfl⟩, ⟨⟨_, rfl, BLe.row rfl⟩, rfl⟩, trivial⟩, rfl, rfl⟩⟩
   ·rw [decide_eq_true h] at ho;(repeat' (first |refine qv ?_ |apply qn |apply qs |apply qr |(refine AWP.condD rfl ?_ ?_ <;> intro _ <;> try (exfalso; omega)) |apply qb |apply qk |apply qx |apply qt))
    ·refine Fl.io rfl [] ho rfl rfl (LeL.refl _) rfl ⟨⟨⟨_, rfl, BLe.cells (LeL.refl _)⟩, rfl⟩, ⟨⟨_, rfl, BLe.row rfl⟩, rfl⟩, trivial⟩ rfl rfl rfl rfl rfl ?_;(repeat' (first |refine qv ?_ |apply qn |apply qs |apply qr |refine AWP.condT rfl ?_ |apply qt));exact ⟨⟨[], _, _, Ent.refl _ _ _, rfl, AV.Le.refl _, rfl, ⟨⟨⟨_, rfl, BLe.cells (LeL.refl _)⟩, rfl⟩, ⟨⟨_, rfl, BLe.row rfl⟩, rfl⟩, trivial⟩, rfl, rfl⟩⟩
    ·have : t = n := by omega
     subst this;exact ⟨⟨[], _, _, Ent.refl _ _ _, rfl, AV.Le.refl _, rfl, ⟨⟨⟨_, rfl, BLe.cells (LeL.refl _)⟩, rfl⟩, ⟨⟨_, rfl, BLe.row rfl⟩, rfl⟩, trivial⟩, rfl, rfl⟩⟩
theorem rgFits_ok (m : MZ) (hm : OkMZ m) (a : Nat) (rs : List Int) (ha : a < m.l) (hl : rs.length = m.R) (hr : ∀ v ∈ rs, 0 ≤ v ∧ v ≤ 1099511627776) : PureFn Tryz.prog 83 [aMz m, aSt a rs] (aB true) := by
 refine PureFn.of_body Tryz.func83 rfl Tryz.ntmps83 rfl rfl ?_;have hR := MZ.R_eq hm;have h4 := hm.r4;have h15 : m.code.length ≤ 15 := hm.l15;have hlt : a < m.code.length := ha;(repeat' (first |refine qv ?_ |apply qn |apply qs |apply qr |refine qe ?_|fail));refine Fl.call rfl (rgValid_ok m (by omega) true ⟨fun _ => hm, fun _ => rfl⟩) rfl rfl rfl (LeL.refl _) ?_;(repeat' (first |refine qv ?_ |(refine Fl.splitD rfl rfl ?_ ?_ <;> intro _ <;> try (exfalso; omega))));have hc := containsI_ok 149 (fun v => decide (v < 0 ∨ 1099511627776 < v)) rs (by omega) rgFits1_ok;rw [anyOut.2 hr] at hc;refine qc (hc) ?_;(repeat' (first |refine qv ?_ |apply qn |apply qt));exact RetOk.of rfl (AV.Le.refl _)
theorem rgStart_ok (m : MZ) (hm : OkMZ m) (x : List Int) (hx : OkIn m x) : PureFn Tryz.prog 38 [aMz m, aI x] (.tup [aSt 0 x, aN 0]) := by
 refine PureFn.of_body Tryz.func38 rfl Tryz.ntmps38 rfl rfl ?_;have hR := MZ.R_eq hm;have h1 := hm.r1;have h4 := hm.r4;have h15 : m.code.length ≤ 15 := hm.l15;have hxl := hx.1;(repeat' (first |refine qv ?_ |apply qn |apply qs |apply qr |refine qe ?_|fail));refine Fl.call rfl (rgValid_ok m (by omega) true ⟨fun _ => hm, fun _ => rfl⟩) rfl rfl rfl (LeL.refl _) ?_;(repeat' (first |refine qv ?_ |apply qn |apply qs |apply qr |refine AWP.condF rfl ?_ |apply qk));refine Fl.call rfl (rgInput_ok m x (by omega) (by omega) true ⟨fun _ => hx, fun _ => rfl⟩) rfl rfl rfl (LeL.refl _) ?_;(repeat' (first |refine qv ?_ |apply qn |apply qs |apply qr |refine AWP.condF rfl ?_ |apply qk));refine qc (cloneI_ok x (by omega)) ?_;(repeat' (first |refine qv ?_ |apply qn |refine qe ?_ |apply qt));exact RetOk.of rfl (AV.Le.refl _)
theorem rgRun_ok (m : MZ) (hm : OkMZ m) (x : Nat → Nat) (n k : Nat) (hn : n ≤ 1000000) (hx : ∀ j, x j ≤ 1000) (hk : k ≤ n) (h1 : ∀ t, t < k → ¬ m.mach.Over (m.mach.F x t)) (h2 : k = n ∨ m.mach.Over (m.mach.F x k)) : PureFn Tryz.prog 74 [aMz m, aSt 0 (rgL m.R x), aN n] (.tup [aSt (m.mach.F x k).1 (rgL m.R (m.mach.F x k).2), aN k, aN 0]) := by
 refine PureFn.of_body Tryz.func74 rfl Tryz.ntmps74 rfl rfl ?_;have hR := MZ.R_eq hm;have hr1 := hm.r1;have hr4 := hm.r4
 have hf := rgFits_ok m hm 0 (rgL m.R x) hm.l1 (rgL_len _ _) fun v hv => by
  have := rgL_all hx v hv;omega
 have hb := rnBegin_ok m 0 (rgL m.R x) (by rw [rgL_len]; omega) fun h => by
  have := congrArg List.length h;rw [rgL_len] at this;simp at this;omega
 have hrun := rnRun_ok m hm x n k hn hx hk h1 h2;(repeat' (first |refine qv ?_ |apply qn |apply qs |apply qr |refine qe ?_|fail));refine qc (hf) ?_;(repeat' (first |refine qv ?_ |apply qn |apply qs |apply qr |refine AWP.condF rfl ?_ |(refine AWP.condD rfl ?_ ?_ <;> intro _ <;> try (exfalso; omega)) |apply qk));refine Fl.io rfl [(900, 26), (901, 901)] hb rfl rfl (LeL.refl _) rfl trivial rfl rfl rfl rfl rfl ?_;(repeat' (first |refine qv ?_ |apply qn |apply qs |apply qr));refine Fl.io rfl [(900, 26), (901, 901)] hrun rfl rfl (LeL.refl _) rfl ⟨⟨⟨_, rfl, BLe.cells (LeL.refl _)⟩, rfl⟩, ⟨⟨_, rfl, BLe.row rfl⟩, rfl⟩, trivial⟩ rfl rfl rfl rfl rfl ?_;(repeat' (first |refine qv ?_ |apply qn |apply qs |apply qr |refine qe ?_ |refine AWP.condF rfl ?_ |apply qk |apply qt));refine RetOk.ent (Ent.freeze 901 rfl) ?_;exact RetOk.of rfl (AV.Le.refl _)
theorem rgHalts_ok (m : MZ) (hm : OkMZ m) (x : List Int) (hx : OkIn m x) (n k : Nat) (hn : n ≤ 1000000) (hk : k ≤ n) (h1 : ∀ t, t < k → ¬ m.mach.Over (m.mach.F (inF x) t)) (h2 : k = n ∨ m.mach.Over (m.mach.F (inF x) k)) : PureFn Tryz.prog 32 [aMz m, aI x, aN n] (if m.mach.op (m.mach.F (inF x) k).1 = 3 then .tup [aN k, aI (rgL m.R (m.mach.F (inF x) k).2), aN 0] else .tup [aN 0, .v (.slice none 0 0), aN 6]) := by
 refine PureFn.of_body Tryz.func32 rfl Tryz.ntmps32 rfl rfl ?_;have hs := rgStart_ok m hm x hx;have hr := rgRun_ok m hm (inF x) n k hn (inF_le hx) hk h1 h2;rw [inF_eq hx] at hr;have hc := Mach.F_lt hm.mach (inF x) h1 k (Nat.le_refl _);have hI := MZ.ins_at hm hc
 have hz : m.code[Int.toNat (((m.mach.F (inF x) k).1 : Nat) : Int)]? = some (m.at (m.mach.F (inF x) k).1) := by rw [Int.toNat_natCast]; exact MZ.get_at hc
 have hlt : (m.mach.F (inF x) k).1 < m.code.length := hc;have eo : m.mach.op (m.mach.F (inF x) k).1 = (m.at (m.mach.F (inF x) k).1).op.toNat := rfl;obtain ⟨z, ez⟩ : ∃ z, z = m.at (m.mach.F (inF x) k).1 := ⟨_, rfl⟩;rw [eo];rw [← ez] at hI hz ⊢;(repeat' (first |refine qv ?_ |apply qn |apply qs |apply qr |refine qe ?_|fail));refine qc (hs) ?_;(repeat' (first |refine qv ?_ |apply qn |apply qs |apply qr |refine qe ?_ |refine AWP.condF rfl ?_ |apply qk));refine qc (hr) ?_;(repeat' (first |refine qv ?_ |apply qn |refine Fl.nil (fun _ => by kernel_rfl) ?_ |apply qs |apply qr |refine qe ?_ |refine AWP.condF rfl ?_ |(refine AWP.condN rfl ?_ ?_ <;> intro _ <;> try (exfalso; omega)) |apply qk |apply qt |refine qK ?_|fail))
 ·rename_i h;rw [if_neg (fun k => h (by omega))];exact RetOk.of rfl (AV.Le.refl _)
 ·rename_i h;rw [if_pos (by omega)];exact RetOk.of rfl (AV.Le.refl _)
theorem rgStep_ok (m : MZ) (hm : OkMZ m) (x : Nat → Nat) (t : Nat) (ht : t ≤ 1000000) (hx : ∀ j, x j ≤ 1000) (hc : (m.mach.F x t).1 < m.l) (ho : ¬ m.mach.Over (m.mach.F x t)) : PureFn Tryz.prog 39 [aMz m, aSt (m.mach.F x t).1 (rgL m.R (m.mach.F x t).2)] (.tup [aSt (m.mach.F x (t + 1)).1 (rgL m.R (m.mach.F x (t + 1)).2), aN 0]) := by
 refine PureFn.of_body Tryz.func39 rfl Tryz.ntmps39 rfl rfl ?_;have hR := MZ.R_eq hm;have hr1 := hm.r1;have hr4 := hm.r4
 have hbd : ∀ j, (m.mach.F x t).2 j ≤ 1001000 := fun j => by
  have := m.mach.F_le (x := x) j t;have := hx j;omega
 have hf := rgFits_ok m hm _ (rgL m.R (m.mach.F x t).2) hc (rgL_len _ _) fun v hv => by
  have := rgL_all hbd v hv;omega
 have hb := rnBegin_ok m (m.mach.F x t).1 (rgL m.R (m.mach.F x t).2) (by rw [rgL_len]; omega) fun h => by
  have := congrArg List.length h;rw [rgL_len] at this;simp at this;omega
 have hov := rnOverC_ok m hm (m.mach.F x t) hc;rw [decide_eq_false ho] at hov
 have hst := rnStepF_ok m hm x t hc ho fun j => by have := hbd j; omega
 (repeat' (first |refine qv ?_ |apply qn |apply qs |apply qr |refine qe ?_|fail));refine qc (hf) ?_;(repeat' (first |refine qv ?_ |apply qn |apply qs |apply qr |refine AWP.condF rfl ?_ |apply qk));refine Fl.io rfl [(900, 14), (901, 901)] hb rfl rfl (LeL.refl _) rfl trivial rfl rfl rfl rfl rfl ?_;(repeat' (first |refine qv ?_ |apply qn |apply qs |apply qr));refine Fl.io rfl [(900, 14), (901, 901)] hov rfl rfl (LeL.refl _) rfl ⟨⟨⟨_, rfl, BLe.cells (LeL.refl _)⟩, rfl⟩, ⟨⟨_, rfl, BLe.row rfl⟩, rfl⟩, trivial⟩ rfl rfl rfl rfl rfl ?_;(repeat' (first |refine qv ?_ |apply qn |apply qs |apply qr |refine AWP.condF rfl ?_ |apply qk));refine Fl.io rfl [(900, 14), (901, 901)] hst rfl rfl (LeL.refl _) rfl ⟨⟨⟨_, rfl, BLe.cells (LeL.refl _)⟩, rfl⟩, ⟨⟨_, rfl, BLe.row rfl⟩, rfl⟩, trivial⟩ rfl rfl rfl rfl rfl ?_;(repeat' (first |refine qv ?_ |apply qn |apply qs |apply qr |refine qe ?_ |refine AWP.condF rfl ?_ |apply qk |apply qt));refine RetOk.ent (Ent.freeze 901 rfl) ?_;exact RetOk.of rfl (AV.Le.refl _)
end Go.Proofs.YtmmfloplhopioaaGreat
/- history's maker: goes, changes; the system. -/
namespace Go.AL
theorem go_len {m : MZ} : ∀ i, ((List.range i).flatMap (fun k => (hsGo m k (m.at k)).map (lkZ m))).length ≤ 2 * i
 | 0 => by simp
 | i + 1 => by
  have ih := go_len (m := m) i;rw [List.range_succ, List.flatMap_append, List.length_append]
  have : ((hsGo m i (m.at i)).map (lkZ m)).length ≤ 2 := by
   rw [List.length_map];unfold hsGo;split
   ·simp
   ·split <;> simp
  simp only [List.flatMap_cons, List.flatMap_nil, List.append_nil];omega
theorem go_succ {m : MZ} (L : List LZ) (i : Nat) : L ++ (List.range (i + 1)).flatMap (fun k => (hsGo m k (m.at k)).map (lkZ m)) = L ++ (List.range i).flatMap (fun k => (hsGo m k (m.at k)).map (lkZ m)) ++ (hsGo m i (m.at i)).map (lkZ m) := by
 rw [List.range_succ, List.flatMap_append, List.append_assoc];simp
end Go.AL
namespace Go.Proofs.YtmmfloplhopioaaGreat
open Go.AL
set_option maxHeartbeats 1000000 in
theorem mkGoes_ok (m : MZ) (hm : OkMZ m) (x : List Int) (hx : OkIn m x) (L : List LZ) (hL : L.length ≤ 1000) (i : Nat) (hi : i < m.l) : IoGn Tryz.prog 112 [.ptr 900 0, aN i, aIz (m.at i)] (kB m x (kQ m) (kAll m) L) (.tup []) (kBr 902 m x (kQ m) (kAll m) (L ++ (hsGo m i (m.at i)).map (lkZ m))) := by
 have hV := hm.V32;have hl : m.code.length ≤ 15 := hm.l15;have hl2 : m.l = m.code.length := rfl;have hR4 := hm.r4;have hR1 := hm.r1;have hR : m.R = m.regs.toNat := rfl;have hVe : m.V = 3 + m.code.length + 2 * m.R := rfl;have hI := MZ.ins_at hm hi;have hsm := fun s hs => hsK_sm hm hx s (hsK_G hi hs);have q := (hsQ_sz hm.V6).1;have vi := SzU.var (V := m.V) (i := 3 + i) (by omega);have here := sz_here hm hi;obtain ⟨⟨op, r0, n0, k0⟩, ez⟩ : ∃ z, z = m.at i := ⟨_, rfl⟩;rw [← ez] at hI hsm ⊢;by_cases h3 : op = 3
 ·subst h3;show IoGn Tryz.prog 112 [.ptr 900 0, aN i, .agg [aN 3, aN r0, aN n0, aN k0]] _ _ _;refine IoGn.of_body Tryz.func112 rfl Tryz.ntmps112 rfl rfl ?_;(repeat' (first |refine qv ?_ |apply qn |apply qs |apply qr |refine qe ?_|fail));refine qc (szLine_ok m x i (by omega)) ?_;skip;refine qc (kV_ok m.V (3 + i) (by omega) (by omega)) ?_;skip;refine ql eP [mkP m.V (hsQ m.V), mkP m.V (varU m.V (3 + i))] ?_;skip;refine qc (kMul_ok m.V (by omega) [hsQ m.V, varU m.V (3 + i)] (by simp) (okMuls2 q vi (by omega) (by decide) (by decide) (by decide) (by omega) (by omega) (by omega))) ?_;(repeat' (first |refine qv ?_ |apply qn |refine Fl.nil (fun _ => by kernel_rfl) ?_ |apply qs |apply qr |refine qe ?_ |refine AWP.condT rfl ?_ |apply qb |apply qk));refine ⟨⟨[(902, 901)], _, _, Ent.refl _ _ _, rfl, AV.Le.refl _, rfl, ⟨⟨⟨_, rfl, BLe.cells (LeL.refl _)⟩, rfl⟩, ⟨⟨_, rfl, BLe.row ?_⟩, rfl⟩, trivial⟩, rfl, rfl⟩⟩;simp [hsGo]
 ·rcases hI with kk | ⟨⟨a1, a2⟩, ⟨b1, b2⟩, kk⟩
  ·injection kk with kk; exact absurd kk h3
  simp only at a1 a2 b1 b2 kk;obtain ⟨r, rfl⟩ : ∃ r : Nat, r0 = r := ⟨r0.toNat, by omega⟩;obtain ⟨n, rfl⟩ : ∃ n : Nat, n0 = n := ⟨n0.toNat, by omega⟩;have vn := SzU.var (V := m.V) (i := 3 + n) (by omega);by_cases h2 : op = 2 ∧ k0 ≠ n
  ·obtain ⟨h2, hkn⟩ := h2;obtain ⟨k, rfl⟩ : ∃ k : Nat, k0 = k := ⟨k0.toNat, by omega⟩;have vk := SzU.var (V := m.V) (i := 3 + k) (by omega);have v2 := SzU.var (V := m.V) (i := 2) (by omega);have vr := SzU.var (V := m.V) (i := 3 + m.l + r) (by omega);have c2 := SzU.con m.V 2
   have ego : hsGo m i ⟨op, r, n, k⟩ = [(3, [hsHere m i, sumsU [] [varU m.V (3 + n), varU m.V (3 + k)]]), (3, [hsHere m i, hsJmp m ⟨op, r, n, k⟩])] := by
    unfold hsGo;rw [if_neg h3, if_pos ⟨h2, hkn⟩]; rfl
   have s1 := hsm _ (by rw [ego]; exact List.mem_cons_self);have s2 := hsm _ (by rw [ego]; exact List.mem_cons_of_mem _ List.mem_cons_self)
   have e1 : SzU m.V 2 2 1 (mulsU (conU m.V 1) [hsQ m.V, varU m.V 2]) := by rw [muls2 q]; exact (q.mul v2).mono (by omega) (by decide) (by omega)
   have e2 : SzU m.V 1 2 1 (mulsU (conU m.V 1) [conU m.V 2, varU m.V (3 + m.l + r)]) := by rw [muls2 c2]; exact (c2.mul vr).mono (by omega) (by decide) (by omega)
   have e3 : SzU m.V 2 3 2 (sumsU [] [varU m.V (3 + n), mulsU (conU m.V 1) [hsQ m.V, varU m.V 2]]) := by rw [sums2 vn e1]; exact (vn.add e1).mono (by omega) (by decide) (by omega)
   show IoGn Tryz.prog 112 [.ptr 900 0, aN i, .agg [aN op, aN (r : Int), aN (n : Int), aN (k : Int)]] _ _ _;refine IoGn.of_body Tryz.func112 rfl Tryz.ntmps112 rfl rfl ?_;(repeat' (first |refine qv ?_ |apply qn |apply qs |apply qr |refine qe ?_|fail));refine qc (szLine_ok m x i (by omega)) ?_;skip;refine qc (kV_ok m.V (3 + i) (by omega) (by omega)) ?_;skip;refine ql eP [mkP m.V (hsQ m.V), mkP m.V (varU m.V (3 + i))] ?_;skip;refine qc (kMul_ok m.V (by omega) [hsQ m.V, varU m.V (3 + i)] (by simp) (okMuls2 q vi (by omega) (by decide) (by decide) (by decide) (by omega) (by omega) (by omega))) ?_;(repeat' (first |refine qv ?_ |apply qn |refine Fl.nil (fun _ => by kernel_rfl) ?_ |apply qs |apply qr |refine qe ?_ |(refine AWP.condD rfl ?_ ?_ <;> intro _ <;> try (exfalso; omega)) |(refine AWP.condN rfl ?_ ?_ <;> intro _ <;> try (exfalso; omega)) |apply qb |(refine Fl.splitD rfl rfl ?_ ?_ <;> intro _ <;> try (exfalso; omega))));refine qc (szLine_ok m x n (by omega)) ?_;skip;refine qc (kV_ok m.V (3 + n) (by omega) (by omega)) ?_;(repeat' (first |refine qv ?_ |refine Fl.nil (fun _ => by kernel_rfl) ?_ |apply qs |apply qr |refine qe ?_|fail));refine qc (szLine_ok m x k (by omega)) ?_;skip;refine qc (kV_ok m.V (3 + k) (by omega) (by omega)) ?_;skip;refine ql eP [mkP m.V (varU m.V (3 + n)), mkP m.V (varU m.V (3 + k))] ?_;skip;refine qc (kAdd_ok m.V (by omega) [varU m.V (3 + n), varU m.V (3 + k)] (by simp) (okSums2 vn vk (by omega) (by omega) (by decide) (by omega))) ?_;skip;refine ql eP [mkP m.V (hsHere m i), mkP m.V (sumsU [] [varU m.V (3 + n), varU m.V (3 + k)])] ?_;skip;refine Fl.ioG rfl [(902, 94)] (mkPut_ok m hm x (kQ m) (kAll m) L (by omega) 3 [hsHere m i, sumsU [] [varU m.V (3 + n), varU m.V (3 + k)]] s1) rfl rfl (LeL.refl _) rfl ⟨⟨⟨_, rfl, BLe.cells (LeL.refl _)⟩, rfl⟩, ⟨⟨_, rfl, BLe.row rfl⟩, rfl⟩, trivial⟩ rfl rfl rfl rfl rfl ?_;(repeat' (first |refine qv ?_ |refine Fl.nil (fun _ => by kernel_rfl) ?_ |apply qr));refine qc (kV_ok m.V 2 (by omega) (by omega)) ?_;skip;refine ql eP [mkP m.V (hsQ m.V), mkP m.V (varU m.V 2)] ?_;skip;refine qc (kMul_ok m.V (by omega) [hsQ m.V, varU m.V 2] (by simp) (okMuls2 q v2 (by omega) (by decide) (by decide) (by decide) (by omega) (by omega) (by omega))) ?_;skip;refine ql eP [mkP m.V (varU m.V (3 + n)), mkP m.V (mulsU (conU m.V 1) [hsQ m.V, varU m.V 2])] ?_;skip;refine qc (kAdd_ok m.V (by omega) [varU m.V (3 + n), mulsU (conU m.V 1) [hsQ m.V, varU m.V 2]] (by simp) (okSums2 vn e1 (by omega) (by omega) (by decide) (by omega))) ?_;(repeat' (first |refine qv ?_|fail));refine qc (kN_ok m.V 2 (by omega) (by omega) (by omega)) ?_;(repeat' (first |refine qv ?_|fail));refine qc (szReg_ok m x r (by omega) (by omega)) ?_;skip;refine qc (kV_ok m.V (3 + m.l + r) (by omega) (by omega)) ?_;skip;refine ql eP [mkP m.V (conU m.V 2), mkP m.V (varU m.V (3 + m.l + r))] ?_;skip;refine qc (kMul_ok m.V (by omega) [conU m.V 2, varU m.V (3 + m.l + r)] (by simp) (okMuls2 c2 vr (by omega) (by decide) (by decide) (by decide) (by omega) (by omega) (by omega))) ?_;skip;refine Fl.call rfl (kSub_ok m.V (by omega) _ _ (hsJmp m ⟨op, r, n, k⟩) (e3.chk (by omega) (by omega) (by omega)) (e2.chk (by omega) (by omega) (by omega)) (e3.subChk e2 (by omega) (by omega) (by omega) (by omega))) rfl rfl rfl (LeL.refl _) ?_;skip;refine ql eP [mkP m.V (hsHere m i), mkP m.V (hsJmp m ⟨op, r, n, k⟩)] ?_;skip;refine Fl.ioG rfl [(901, 94), (902, 148)] (mkPut_ok m hm x (kQ m) (kAll m) _ (by simp; omega) 3 [hsHere m i, hsJmp m ⟨op, r, n, k⟩] s2) rfl rfl (LeL.refl _) rfl ⟨⟨⟨_, rfl, BLe.cells (LeL.refl _)⟩, rfl⟩, ⟨⟨_, rfl, BLe.row rfl⟩, rfl⟩, trivial⟩ rfl rfl rfl rfl rfl ?_;(repeat' (first |refine Fl.nil (fun _ => by kernel_rfl) ?_|fail));refine ⟨⟨[(902, 148)], _, _, Ent.refl _ _ _, rfl, AV.Le.refl _, rfl, ⟨⟨⟨_, rfl, BLe.cells (LeL.refl _)⟩, rfl⟩, ⟨⟨_, rfl, BLe.row ?_⟩, rfl⟩, trivial⟩, rfl, rfl⟩⟩;rw [ego]; simp
  ·have ego : hsGo m i ⟨op, r, n, k0⟩ = [(3, [hsHere m i, varU m.V (3 + n)])] := by
    unfold hsGo;rw [if_neg h3, if_neg h2]; rfl
   have s1 := hsm _ (by rw [ego]; exact List.mem_cons_self);show IoGn Tryz.prog 112 [.ptr 900 0, aN i, .agg [aN op, aN (r : Int), aN (n : Int), aN k0]] _ _ _;refine IoGn.of_body Tryz.func112 rfl Tryz.ntmps112 rfl rfl ?_;(repeat' (first |refine qv ?_ |apply qn |apply qs |apply qr |refine qe ?_|fail));refine qc (szLine_ok m x i (by omega)) ?_;skip;refine qc (kV_ok m.V (3 + i) (by omega) (by omega)) ?_;skip;refine ql eP [mkP m.V (hsQ m.V), mkP m.V (varU m.V (3 + i))] ?_;skip;refine qc (kMul_ok m.V (by omega) [hsQ m.V, varU m.V (3 + i)] (by simp) (okMuls2 q vi (by omega) (by decide) (by decide) (by decide) (by omega) (by omega) (by omega))) ?_;(repeat' (first |refine qv ?_ |apply qn |refine Fl.nil (fun _ => by kernel_rfl) ?_ |apply qs |apply qr |refine qe ?_ |refine Fl.skip rfl rfl ?_ |refine AWP.condF rfl ?_ |(refine AWP.condD rfl ?_ ?_ <;> intro _ <;> try (exfalso; omega)) |(refine AWP.condN rfl ?_ ?_ <;> intro _ <;> try (exfalso; omega)) |apply qb |(refine Fl.splitD rfl rfl ?_ ?_ <;> intro _ <;> try (exfalso; omega))))
   all_goals (refine Fl.call rfl (szLine_ok m x n (by omega)) rfl rfl rfl (LeL.refl _) ?_)
   all_goals skip
   all_goals (refine Fl.call rfl (kV_ok m.V (3 + n) (by omega) (by omega)) rfl rfl rfl (LeL.refl _) ?_)
   all_goals skip
   all_goals (refine Fl.lit rfl rfl rfl rfl rfl eP [mkP m.V (hsHere m i), mkP m.V (varU m.V (3 + n))] rfl rfl rfl rfl (by intro _ _; rfl) rfl ?_)
   all_goals skip
   all_goals (refine Fl.ioG rfl [(902, 44)] (mkPut_ok m hm x (kQ m) (kAll m) L (by omega) 3 [hsHere m i, varU m.V (3 + n)] s1) rfl rfl (LeL.refl _) rfl ⟨⟨⟨_, rfl, BLe.cells (LeL.refl _)⟩, rfl⟩, ⟨⟨_, rfl, BLe.row rfl⟩, rfl⟩, trivial⟩ rfl rfl rfl rfl rfl ?_)
   all_goals repeat' (first |refine Fl.nil (fun _ => by kernel_rfl) ?_|fail)
   all_goals (refine ⟨⟨[(902, 44)], _, _, Ent.refl _ _ _, rfl, AV.Le.refl _, rfl, ⟨⟨⟨_, rfl, BLe.cells (LeL.refl _)⟩, rfl⟩, ⟨⟨_, rfl, BLe.row ?_⟩, rfl⟩, trivial⟩, rfl, rfl⟩⟩)
   all_goals (rw [ego]; rfl)
abbrev eB (j : Nat) : List (AL.Id × Bx) := [(904, .cells [.ptr 900 0] 139), (905, .cells [aN j] 3)]
theorem mkDoes_ok (m : MZ) (hm : OkMZ m) (x : List Int) (L : List LZ) (op : Int) (j : Nat) : IoFn Tryz.prog 164 ([aN op] ++ [.ptr 904 0, .ptr 905 0]) (kB m x (kQ m) (kAll m) L ++ eB j) (.ret (aP (mkP m.V (hsDoes m op j)))) (kB m x (kQ m) (kAll m) L ++ eB j) := by
 refine IoFn.of_body Tryz.func164 rfl Tryz.ntmps164 rfl rfl rfl ?_;have hV := hm.V32;have q := (hsQ_sz hm.V6).1;have sm := sz_sum hm (fun y => decide (y.op = op) && decide (y.rg = (j : Int)));(repeat' (first |refine qv ?_ |apply qn |apply qs |apply qr |refine qe ?_|fail));refine Fl.ioR rfl [(902, 3), (903, 905)] (mkSum2_ok m hm x (kQ m) (kAll m) L op j) rfl rfl (LeL.refl _) rfl ⟨⟨⟨_, rfl, BLe.cells (LeL.refl _)⟩, rfl⟩, ⟨⟨_, rfl, BLe.row rfl⟩, rfl⟩, ⟨⟨_, rfl, BLe.cells (LeL.refl _)⟩, rfl⟩, ⟨⟨_, rfl, BLe.cells (LeL.refl _)⟩, rfl⟩, trivial⟩ ⟨rfl, rfl, rfl, rfl, trivial⟩ rfl rfl rfl rfl ?_;skip;refine ql eP [mkP m.V (hsQ m.V), mkP m.V (hsSum m.V (fun y => decide (y.op = op) && decide (y.rg = (j : Int))) 0 m.code (conU m.V 0))] ?_;skip;refine qc (kMul_ok m.V (by omega) [hsQ m.V, hsSum m.V (fun y => decide (y.op = op) && decide (y.rg = (j : Int))) 0 m.code (conU m.V 0)] (by simp) (okMuls2 q sm (by omega) (by decide) (by decide) (by decide) (by omega) (by omega) (by omega))) ?_;(repeat' (first |refine Fl.nil (fun _ => by kernel_rfl) ?_ |refine qe ?_ |apply qt));exact ⟨⟨[], _, _, Ent.refl _ _ _, rfl, AV.Le.refl _, rfl, ⟨⟨⟨_, rfl, BLe.cells (LeL.refl _)⟩, rfl⟩, ⟨⟨_, rfl, BLe.row rfl⟩, rfl⟩, ⟨⟨_, rfl, BLe.cells (LeL.refl _)⟩, rfl⟩, ⟨⟨_, rfl, BLe.cells (LeL.refl _)⟩, rfl⟩, trivial⟩, rfl, rfl⟩⟩
set_option maxHeartbeats 1000000 in
theorem mkChanges_ok (m : MZ) (hm : OkMZ m) (x : List Int) (hx : OkIn m x) (L : List LZ) (hL : L.length ≤ 1000) (j : Nat) (hj : j < m.R) : IoGn Tryz.prog 113 [.ptr 900 0, aN j] (kB m x (kQ m) (kAll m) L) (.tup []) (kBr 902 m x (kQ m) (kAll m) (L ++ [lkZ m (hsF m x j)])) := by
 refine IoGn.of_body Tryz.func113 rfl Tryz.ntmps113 rfl rfl ?_;have hV := hm.V32;have hl : m.code.length ≤ 15 := hm.l15;have hl2 : m.l = m.code.length := rfl;have hR4 := hm.r4;have hR1 := hm.r1;have hR : m.R = m.regs.toNat := rfl;have hVe : m.V = 3 + m.code.length + 2 * m.R := rfl;have hxl : x.length = m.R := hx.1;have hxb := getD_in hx j
 have hxj : x[Int.toNat ((j : Nat) : Int)]? = some (x.getD j 0) := by
  rw [Int.toNat_natCast, List.getD_eq_getElem?_getD, List.getElem?_eq_getElem (by omega)]; rfl
 have q := (hsQ_sz hm.V6).1;have al := (hsAll_sz hm.V6).1;have vj := SzU.var (V := m.V) (i := 3 + m.l + j) (by omega);have ve := SzU.var (V := m.V) (i := 3 + m.l + m.R + j) (by omega);obtain ⟨sL, sL2⟩ := sz_L hm hj;obtain ⟨sR, okR, sR2⟩ := sz_R0 hm hx hj;have sd := sz_does hm 1 j;have hsF := hsK_sm hm hx _ (hsK_F (x := x) hj);have hlast := hsF.2.2 _ List.mem_cons_self;(repeat' (first |refine qv ?_ |apply qn |apply qs |apply qr |refine qe ?_|fail));refine qc (szReg_ok m x j (by omega) (by omega)) ?_;skip;refine qc (kV_ok m.V (3 + m.l + j) (by omega) (by omega)) ?_;(repeat' (first |refine qv ?_|fail));refine qc (szEnd_ok m x j (by omega) (by omega) (by omega) (by omega)) ?_;skip;refine qc (kV_ok m.V (3 + m.l + m.R + j) (by omega) (by omega)) ?_;(repeat' (first |refine qv ?_|fail));refine ql eP [mkP m.V (varU m.V (3 + m.l + m.R + j)), mkP m.V (hsAll m.V)] ?_;skip;refine qc (kMul_ok m.V (by omega) [varU m.V (3 + m.l + m.R + j), hsAll m.V] (by simp) (okMuls2 ve al (by omega) (by decide) (by decide) (by decide) (by omega) (by omega) (by omega))) ?_;skip;refine ql eP [mkP m.V (varU m.V (3 + m.l + j)), mkP m.V (mulsU (conU m.V 1) [varU m.V (3 + m.l + m.R + j), hsAll m.V])] ?_;skip;refine qc (kAdd_ok m.V (by omega) [varU m.V (3 + m.l + j), mulsU (conU m.V 1) [varU m.V (3 + m.l + m.R + j), hsAll m.V]] (by simp) (okSums2 vj sL2 (by omega) (by omega) (by decide) (by omega))) ?_;(repeat' (first |refine qv ?_ |refine Fl.nil (fun _ => by kernel_rfl) ?_ |apply qs |apply qr |refine qe ?_ |refine qK ?_|fail));refine qc (kN_ok m.V (x.getD j 0) (by omega) (by omega) (by omega)) ?_;(repeat' (first |refine qv ?_|fail));refine qc (szReg_ok m x j (by omega) (by omega)) ?_;skip;refine qc (kV_ok m.V (3 + m.l + j) (by omega) (by omega)) ?_;skip;refine ql eP [mkP m.V (hsQ m.V), mkP m.V (varU m.V (3 + m.l + j))] ?_;skip;refine qc (kMul_ok m.V (by omega) [hsQ m.V, varU m.V (3 + m.l + j)] (by simp) (okMuls2 q vj (by omega) (by decide) (by decide) (by decide) (by omega) (by omega) (by omega))) ?_;(repeat' (first |refine qv ?_|fail));refine Fl.ioVR rfl rfl [(904, 2), (905, 3)] (mkDoes_ok m hm x L 0 j) rfl rfl (LeL.refl _) rfl ⟨⟨⟨_, rfl, BLe.cells (LeL.refl _)⟩, rfl⟩, ⟨⟨_, rfl, BLe.row rfl⟩, rfl⟩, ⟨⟨_, rfl, BLe.cells (LeL.refl _)⟩, rfl⟩, ⟨⟨_, rfl, BLe.cells (LeL.refl _)⟩, rfl⟩, trivial⟩ ⟨rfl, rfl, rfl, rfl, trivial⟩ rfl rfl rfl rfl ?_;skip;refine ql eP [mkP m.V (conU m.V (x.getD j 0)), mkP m.V (mulsU (conU m.V 1) [hsQ m.V, varU m.V (3 + m.l + j)]), mkP m.V (hsDoes m 0 j)] ?_;skip;refine qc (kAdd_ok m.V (by omega) [conU m.V (x.getD j 0), mulsU (conU m.V 1) [hsQ m.V, varU m.V (3 + m.l + j)], hsDoes m 0 j] (by simp) okR) ?_;(repeat' (first |refine qv ?_|fail));refine Fl.ioVR rfl rfl [(904, 2), (905, 3)] (mkDoes_ok m hm x L 1 j) rfl rfl (LeL.refl _) rfl ⟨⟨⟨_, rfl, BLe.cells (LeL.refl _)⟩, rfl⟩, ⟨⟨_, rfl, BLe.row rfl⟩, rfl⟩, ⟨⟨_, rfl, BLe.cells (LeL.refl _)⟩, rfl⟩, ⟨⟨_, rfl, BLe.cells (LeL.refl _)⟩, rfl⟩, trivial⟩ ⟨rfl, rfl, rfl, rfl, trivial⟩ rfl rfl rfl rfl ?_;skip;refine qc (kSub_ok m.V (by omega) (hsR0 m x j) (hsDoes m 1 j) (subL (hsR0 m x j) (hsDoes m 1 j)) (sR.chk (by omega) (by omega) (by omega)) (sd.chk (by omega) (by omega) (by omega)) (sR.subChk sd (by omega) (by omega) (by omega) (by omega))) ?_;(repeat' (first |refine qv ?_ |refine Fl.nil (fun _ => by kernel_rfl) ?_ |apply qr |refine qe ?_|fail));refine qc (kEq_ok m.V (by omega) (hsL m j) (subL (hsR0 m x j) (hsDoes m 1 j)) (subL (hsL m j) (subL (hsR0 m x j) (hsDoes m 1 j))) (sL.chk (by omega) (by omega) (by omega)) ((sR.sub sd).chk (by omega) (by omega) (by omega)) (sL.subChk (sR.sub sd) (by omega) (by omega) (by omega) (by omega)) ⟨by have := hlast.ln; omega, fun u hu => (hlast.ex u hu).1⟩) ?_;skip;refine ql eL [linkU m.V 0 [subL (hsL m j) (subL (hsR0 m x j) (hsDoes m 1 j))]] ?_;skip;refine qa (hby := (by dsimp only [List.length_nil, List.length_cons]; omega)) (hm := (by simp; omega)) (r := ?_);(repeat' (first |refine qv ?_ |refine Fl.nil (fun _ => by kernel_rfl) ?_ |refine qe ?_|fail));exact ⟨⟨[(902, 108)], _, _, Ent.refl _ _ _, rfl, AV.Le.refl _, rfl, ⟨⟨⟨_, rfl, BLe.cells (LeL.refl _)⟩, rfl⟩, ⟨⟨_, rfl, BLe.row rfl⟩, rfl⟩, trivial⟩, rfl, rfl⟩⟩
end Go.Proofs.YtmmfloplhopioaaGreat
/- history's sizesOf, system, System. -/
namespace Go.AL
theorem sumL_snoc (l : List Int) (y : Int) : sumL (l ++ [y]) = sumL l + y := by
 induction l with
 | nil => simp [sumL]
 | cons x l ih => simp only [List.cons_append, sumL, ih]; omega
end Go.AL
namespace Go.Proofs.YtmmfloplhopioaaGreat
open Go.AL
theorem sizesOf_ok (m : MZ) (x : List Int) (hm : OkMZ m) (hx : OkIn m x) : PureFn Tryz.prog 45 [aMz m, aI x] (.tup [aSz m x, aN 0]) := by
 refine PureFn.of_body Tryz.func45 rfl Tryz.ntmps45 rfl rfl ?_;have h1 := hm.r1;have h4 := hm.r4;have hl : m.code.length ≤ 15 := hm.l15;have hxl := hx.1;have hR : m.R = m.regs.toNat := rfl;have hVe : m.V = 3 + m.code.length + 2 * m.R := rfl;have hsum := fun i => sumL_in (l := x.take i) fun n hn => hx.2 n (List.mem_of_mem_take hn);(repeat' (first |refine qv ?_ |apply qn |apply qs |apply qr |refine qe ?_|fail));refine Fl.call rfl (rgValid_ok m (by omega) true ⟨fun _ => hm, fun _ => rfl⟩) rfl rfl rfl (LeL.refl _) ?_;(repeat' (first |refine qv ?_ |apply qn |apply qs |apply qr |refine AWP.condF rfl ?_ |apply qk));refine Fl.call rfl (rgInput_ok m x (by omega) (by omega) true ⟨fun _ => hx, fun _ => rfl⟩) rfl rfl rfl (LeL.refl _) ?_;(repeat' (first |refine qv ?_ |apply qn |apply qs |apply qr |refine qw ?_ |refine qe ?_ |refine AWP.condF rfl ?_ |apply qb |apply qk));refine AWP.loop (G := Nat) (fun i => i ≤ x.length) (fun i => St.of [] [(4, .ptr 4 0), (6, .ptr 6 0), (32, aI x), (33, aN x.length), (34, aN i)] [(4, .cells [aN 0, .v (.slice none 0 0), .v (.slice none 0 0), aN 0, aN 0] 82), (6, .cells [aN m.regs, .sl 4 eIz m.code, aI x, aN m.V, aN (m.l + sumL (x.take i))] 82)]) (fun i => x.length - i) 0 (by omega) ?_ ?_
 ·refine Ent.of [] ?_ ?_ rfl rfl;(repeat' (first |exact True.intro |refine ⟨⟨AV.Le.refl _, rfl⟩, ?_⟩ |refine ⟨⟨⟨_, rfl, BLe.cells (LeL.refl _)⟩, rfl⟩, ?_⟩ |refine ⟨⟨⟨_, rfl, BLe.cells ?_⟩, rfl⟩, ?_⟩|fail))
  ·exact LeL.cons (AV.Le.refl _) (LeL.cons (AV.Le.refl _) (LeL.cons (AV.Le.refl _) (LeL.cons (AV.Le.int (by omega)) (LeL.cons (AV.Le.int (by simp [sumL])) LeL.nil))))
 ·intro i k0;have s0 := hsum i
  have hti : (x.take i).length = i := by rw [List.length_take]; omega
  have hl2 : m.l = m.code.length := rfl;(repeat' (first |refine qv ?_ |apply qn |apply qs |apply qr |refine qe ?_ |(refine AWP.condD rfl ?_ ?_ <;> intro _ <;> try (exfalso; omega)) |apply qb |apply qk |apply qx |apply qt |(refine Fl.el rfl rfl rfl rfl rfl rfl rfl rfl (by omega) (by omega) ?_; intro _ _)|fail))
  ·rename_i hi y hy;rw [Int.toNat_natCast] at hy;have hyb := hx.2 y (List.mem_of_getElem? hy);(repeat' (first |refine qv ?_ |apply qn |apply qr |refine qw ?_ |refine qe ?_|fail));refine LoopEnd.of (i + 1) (by omega) (by omega) ?_;refine Ent.of [] ?_ ?_ rfl rfl;(repeat' (first |exact True.intro |refine ⟨⟨AV.Le.refl _, rfl⟩, ?_⟩ |refine ⟨⟨⟨_, rfl, BLe.cells (LeL.refl _)⟩, rfl⟩, ?_⟩ |refine ⟨⟨⟨_, rfl, BLe.cells ?_⟩, rfl⟩, ?_⟩|fail));exact LeL.cons (AV.Le.refl _) (LeL.cons (AV.Le.refl _) (LeL.cons (AV.Le.refl _) (LeL.cons (AV.Le.refl _) (LeL.cons (AV.Le.int (by rw [take_snoc hy, sumL_snoc]; omega)) LeL.nil))))
  ·rename_i hi;refine RetOk.of rfl ?_;rw [List.take_of_length_le (by omega)];exact AV.Le.refl _
set_option maxHeartbeats 1000000 in
theorem hsSystem_ok (m : MZ) (x : List Int) (hm : OkMZ m) (hx : OkIn m x) : PureFn Tryz.prog 47 [aSz m x] (aS (hsS m x)) := by
 refine PureFn.of_body Tryz.func47 rfl Tryz.ntmps47 rfl rfl ?_;have hV := hm.V32;have hl : m.code.length ≤ 15 := hm.l15;have hl1 : 1 ≤ m.code.length := hm.l1;have hl2 : m.l = m.code.length := rfl;have hR4 := hm.r4;have hR1 := hm.r1;have hR : m.R = m.regs.toNat := rfl;have hVe : m.V = 3 + m.code.length + 2 * m.R := rfl;obtain ⟨s1, s2, s3⟩ := addZ_b hm hx;have q := (hsQ_sz hm.V6).1;have c2 := SzU.con m.V 2;have c1 := SzU.con m.V 1;have v0 := SzU.var (V := m.V) (i := 0) (by omega);have v1 := SzU.var (V := m.V) (i := 1) (by omega);have v2 := SzU.var (V := m.V) (i := 2) (by omega);have ca := SzU.con m.V (addZ m x);obtain ⟨al1, al2, al3, al4, al5, al6⟩ := hsAll_sz hm.V6;have tA := fun s hs => hsK_sm hm hx s (hsK_A hs);have t1 := tA _ (show _ ∈ hsA m x from List.mem_cons_self);have t2 := tA _ (show _ ∈ hsA m x from List.mem_cons_of_mem _ List.mem_cons_self);have t3 := tA _ (show _ ∈ hsA m x from List.mem_cons_of_mem _ (List.mem_cons_of_mem _ List.mem_cons_self));have hlast := t3.2.2 _ List.mem_cons_self;have sm := sz_sum hm (fun _ => true);refine AWP.seqS ?_;(repeat' (first |apply qn |apply qr |refine qe ?_|fail));refine ⟨AWP.seqS ?_⟩;(repeat' (first |refine qv ?_ |apply qr));refine qc (kNew_ok m.V) ?_;(repeat' (first |refine qv ?_ |refine Fl.nil (fun _ => by kernel_rfl) ?_ |refine qe ?_|fail));refine ⟨?_⟩;refine AWP.ent (Ent.nilcell 12 10 901 rfl rfl rfl 3 eL 99) ?_;refine AWP.seqS ?_;(repeat' (first |refine qv ?_ |apply qr));refine qc (kN_ok m.V 2 (by omega) (by omega) (by omega)) ?_;(repeat' (first |refine qv ?_|fail));refine qc (kV_ok m.V 1 (by omega) (by omega)) ?_;skip;refine ql eP [mkP m.V (conU m.V 2), mkP m.V (varU m.V 1)] ?_;skip;refine qc (kMul_ok m.V (by omega) [conU m.V 2, varU m.V 1] (by simp) (hsQ_sz hm.V6).2) ?_;(repeat' (first |refine qv ?_ |refine Fl.nil (fun _ => by kernel_rfl) ?_ |refine qe ?_|fail));refine ⟨AWP.seqS ?_⟩;(repeat' (first |refine qv ?_ |apply qr));refine qc (kN_ok m.V 1 (by omega) (by omega) (by omega)) ?_;(repeat' (first |refine qv ?_|fail));refine qc (kN_ok m.V 1 (by omega) (by omega) (by omega)) ?_;skip;refine qc (kSub_ok m.V (by omega) (hsQ m.V) (conU m.V 1) (subL (hsQ m.V) (conU m.V 1)) (q.chk (by omega) (by omega) (by omega)) (c1.chk (by omega) (by decide) (by omega)) al5) ?_;(repeat' (first |refine qv ?_|fail));refine qc (kV_ok m.V 2 (by omega) (by omega)) ?_;skip;refine ql eP [mkP m.V (subL (hsQ m.V) (conU m.V 1)), mkP m.V (varU m.V 2)] ?_;skip;refine qc (kMul_ok m.V (by omega) [subL (hsQ m.V) (conU m.V 1), varU m.V 2] (by simp) al2) ?_;skip;refine ql eP [mkP m.V (conU m.V 1), mkP m.V (mulsU (conU m.V 1) [subL (hsQ m.V) (conU m.V 1), varU m.V 2])] ?_;skip;refine qc (kAdd_ok m.V (by omega) [conU m.V 1, mulsU (conU m.V 1) [subL (hsQ m.V) (conU m.V 1), varU m.V 2]] (by simp) al3) ?_;(repeat' (first |refine qv ?_ |refine Fl.nil (fun _ => by kernel_rfl) ?_ |refine qe ?_|fail));refine ⟨AWP.seqS ?_⟩;refine AWP.ent (s' := St.of [] [(1, .ptr 1 0), (2, .ptr 2 0), (3, .ptr 12 0)] [(1, .cells [aN m.regs, .sl 4 eIz m.code, aI x, aN m.V, aN (addZ m x)] 82), (2, .cells [aN 0, .v (.slice none 0 0)] 39), (12, .cells [aN m.regs, .sl 4 eIz m.code, aI x, aN m.V, aN (addZ m x), aN m.V, aN (kQ m).vars, .sl 3 eT (kQ m).terms, aN (kAll m).vars, .sl 3 eT (kAll m).terms, .row 901] 144), (901, .row 3 eL ([] : List LZ) 99)]) ?_ ?_
 ·refine Ent.of [] ?_ ?_ rfl rfl;(repeat' (first |exact True.intro |refine ⟨⟨AV.Le.refl _, rfl⟩, ?_⟩ |refine ⟨⟨⟨_, rfl, BLe.cells (LeL.refl _)⟩, rfl⟩, ?_⟩ |refine ⟨⟨⟨_, rfl, BLe.row rfl⟩, rfl⟩, ?_⟩|fail))
 (repeat' (first |refine qv ?_ |apply qr));refine qc (kN_ok m.V 2 (by omega) (by omega) (by omega)) ?_;(repeat' (first |refine qv ?_|fail));refine qc (kV_ok m.V 0 (by omega) (by omega)) ?_;(repeat' (first |refine qv ?_|fail));refine qc (kN_ok m.V (addZ m x) (by omega) (by omega) (by omega)) ?_;skip;refine ql eP [mkP m.V (varU m.V 0), mkP m.V (conU m.V (addZ m x))] ?_;skip;refine qc (kAdd_ok m.V (by omega) [varU m.V 0, conU m.V (addZ m x)] (by simp) (okSums2 v0 ca (by omega) (by omega) (by omega) (by omega))) ?_;(repeat' (first |refine qv ?_|fail));refine qc (kV_ok m.V 1 (by omega) (by omega)) ?_;skip;refine ql eP [mkP m.V (conU m.V 2), mkP m.V (sumsU [] [varU m.V 0, conU m.V (addZ m x)]), mkP m.V (varU m.V 1)] ?_;skip;refine Fl.ioG rfl [(900, 12), (902, 101)] (mkPut_ok m hm x (kQ m) (kAll m) [] (by simp) 2 [conU m.V 2, sumsU [] [varU m.V 0, conU m.V (addZ m x)], varU m.V 1] t1) rfl rfl (LeL.refl _) rfl ⟨⟨⟨_, rfl, BLe.cells (LeL.refl _)⟩, rfl⟩, ⟨⟨_, rfl, BLe.row rfl⟩, rfl⟩, trivial⟩ rfl rfl rfl rfl rfl ?_;(repeat' (first |refine Fl.nil (fun _ => by kernel_rfl) ?_|fail));refine ⟨AWP.seqS ?_⟩;(repeat' (first |refine qv ?_ |apply qr));refine qc (kV_ok m.V 0 (by omega) (by omega)) ?_;(repeat' (first |refine qv ?_|fail));refine qc (kN_ok m.V 1 (by omega) (by omega) (by omega)) ?_;skip;refine ql eP [mkP m.V (varU m.V 0), mkP m.V (conU m.V 1)] ?_;skip;refine qc (kAdd_ok m.V (by omega) [varU m.V 0, conU m.V 1] (by simp) (okSums2 v0 c1 (by omega) (by omega) (by decide) (by omega))) ?_;(repeat' (first |refine qv ?_|fail));refine ql eP [mkP m.V (hsQ m.V), mkP m.V (sumsU [] [varU m.V 0, conU m.V 1]), mkP m.V (hsAll m.V)] ?_;skip;refine Fl.ioG rfl [(900, 12), (901, 101), (902, 128)] (mkPut_ok m hm x (kQ m) (kAll m) _ (by simp) 2 [hsQ m.V, sumsU [] [varU m.V 0, conU m.V 1], hsAll m.V] t2) rfl rfl (LeL.refl _) rfl ⟨⟨⟨_, rfl, BLe.cells (LeL.refl _)⟩, rfl⟩, ⟨⟨_, rfl, BLe.row rfl⟩, rfl⟩, trivial⟩ rfl rfl rfl rfl rfl ?_;(repeat' (first |refine Fl.nil (fun _ => by kernel_rfl) ?_|fail));refine ⟨AWP.seqS ?_⟩;(repeat' (first |refine qv ?_ |apply qr));refine qc (kV_ok m.V 2 (by omega) (by omega)) ?_;(repeat' (first |refine qv ?_|fail));refine Fl.ioR rfl [(900, 12), (901, 128)] (mkSum_ok m hm x (kQ m) (kAll m) _ 110 (fun _ => true) mkTrue_ok) rfl rfl (LeL.refl _) rfl ⟨⟨⟨_, rfl, BLe.cells (LeL.refl _)⟩, rfl⟩, ⟨⟨_, rfl, BLe.row rfl⟩, rfl⟩, trivial⟩ ⟨rfl, rfl, trivial⟩ rfl rfl rfl rfl ?_;skip;refine Fl.call rfl (kEq_ok m.V (by omega) (varU m.V 2) (hsSum m.V (fun _ => true) 0 m.code (conU m.V 0)) (subL (varU m.V 2) (hsSum m.V (fun _ => true) 0 m.code (conU m.V 0))) (v2.chk (by omega) (by omega) (by omega)) (sm.chk (by omega) (by omega) (by omega)) (v2.subChk sm (by omega) (by omega) (by omega) (by omega)) ⟨by have := hlast.ln; omega, fun u hu => (hlast.ex u hu).1⟩) rfl rfl rfl (LeL.refl _) ?_;skip;refine ql eL [linkU m.V 0 [subL (varU m.V 2) (hsSum m.V (fun _ => true) 0 m.code (conU m.V 0))]] ?_;skip;refine qa (hby := (by first | (simp; done) | (simp; omega))) (hm := (by first | (simp; done) | (simp; omega))) (r := ?_);(repeat' (first |refine qv ?_ |refine Fl.nil (fun _ => by kernel_rfl) ?_ |refine qe ?_|fail));refine ⟨AWP.seqS ?_⟩;(repeat' (first |refine qv ?_ |apply qr));refine Fl.ioG rfl [(900, 12), (901, 147), (902, 151)] (mkMasks_ok m hm x hx ((hsA m x).map (lkZ m)) (by simp [hsA])) rfl rfl (LeL.refl _) rfl ⟨⟨⟨_, rfl, BLe.cells (LeL.refl _)⟩, rfl⟩, ⟨⟨_, rfl, BLe.row rfl⟩, rfl⟩, trivial⟩ rfl rfl rfl rfl rfl ?_;(repeat' (first |apply qn));refine ⟨?_⟩;obtain ⟨L1, eL1⟩ : ∃ L1, L1 = (hsA m x).map (lkZ m) ++ (List.range m.l).map (fun i => lkZ m (hsB m i)) ++ (hsC m).map (lkZ m) ++ (List.range m.R).map (fun j => lkZ m (hsD m j)) := ⟨_, rfl⟩
 have hL1 : L1.length ≤ 24 := by rw [eL1]; simp [hsA, hsC]; omega
 rw [← eL1];have gl := go_len (m := m);(repeat' (first |refine qv ?_ |apply qn |apply qs |apply qr |apply qb));refine AWP.loop (G := Nat) (fun i => i ≤ m.code.length) (fun i => St.of [] [(1, .ptr 1 0), (2, .ptr 2 0), (3, .ptr 12 0), (154, .sl 4 eIz m.code), (155, aN m.code.length), (156, aN i)] [(1, .cells [aN m.regs, .sl 4 eIz m.code, aI x, aN m.V, aN (addZ m x)] 82), (2, .cells [aN 0, .v (.slice none 0 0)] 39), (12, .cells [aN m.regs, .sl 4 eIz m.code, aI x, aN m.V, aN (addZ m x), aN m.V, aN (kQ m).vars, .sl 3 eT (kQ m).terms, aN (kAll m).vars, .sl 3 eT (kAll m).terms, .row 901] 144), (901, .row 3 eL (L1 ++ (List.range i).flatMap (fun k => (hsGo m k (m.at k)).map (lkZ m))) 99)]) (fun i => m.code.length - i) 0 (by omega) ?_ ?_
 ·refine Ent.of [(901, 151)] ?_ ?_ rfl rfl;(repeat' (first |exact True.intro |refine ⟨⟨AV.Le.refl _, rfl⟩, ?_⟩ |refine ⟨⟨⟨_, rfl, BLe.cells (LeL.refl _)⟩, rfl⟩, ?_⟩ |refine ⟨⟨⟨_, rfl, BLe.row ?_⟩, rfl⟩, ?_⟩|fail));simp
 ·intro i k0;have hgi := gl i;(repeat' (first |refine qv ?_ |apply qn |apply qs |apply qr |refine qe ?_ |(refine AWP.condD rfl ?_ ?_ <;> intro _ <;> try (exfalso; omega)) |apply qb |apply qk |apply qx |(refine Fl.el rfl rfl rfl rfl rfl rfl rfl rfl (by omega) (by omega) ?_; intro _ _)|fail))
  ·rename_i hi y hy;rw [Int.toNat_natCast] at hy;have hat := MZ.at_get hy;have hgo := mkGoes_ok m hm x hx (L1 ++ (List.range i).flatMap (fun k => (hsGo m k (m.at k)).map (lkZ m))) (by rw [List.length_append]; omega) i (by show i < m.code.length; omega);rw [hat] at hgo;refine Fl.ioG rfl [(900, 12), (902, 164)] hgo rfl rfl (LeL.refl _) rfl ⟨⟨⟨_, rfl, BLe.cells (LeL.refl _)⟩, rfl⟩, ⟨⟨_, rfl, BLe.row rfl⟩, rfl⟩, trivial⟩ rfl rfl rfl rfl rfl ?_;(repeat' (first |refine qv ?_ |apply qn |apply qr |refine qw ?_|fail));refine LoopEnd.of (i + 1) (by omega) (by omega) ?_;refine Ent.of [(901, 164)] ?_ ?_ rfl rfl;(repeat' (first |exact True.intro |refine ⟨⟨AV.Le.refl _, rfl⟩, ?_⟩ |refine ⟨⟨⟨_, rfl, BLe.cells (LeL.refl _)⟩, rfl⟩, ?_⟩ |refine ⟨⟨⟨_, rfl, BLe.row ?_⟩, rfl⟩, ?_⟩|fail));rw [go_succ, hat]
  ·rename_i hi
   have hi : i = m.code.length := by omega
   subst hi;obtain ⟨L2, eL2⟩ : ∃ L2, L2 = L1 ++ (List.range m.code.length).flatMap (fun k => (hsGo m k (m.at k)).map (lkZ m)) := ⟨_, rfl⟩
   have hL2 : L2.length ≤ 54 := by rw [eL2, List.length_append]; omega
   rw [← eL2];skip;refine AWP.loop (G := Nat) (fun j => j ≤ m.R) (fun j => St.of [] [(1, .ptr 1 0), (2, .ptr 2 0), (3, .ptr 12 0), (168, aN m.R), (169, aN j)] [(1, .cells [aN m.regs, .sl 4 eIz m.code, aI x, aN m.V, aN (addZ m x)] 82), (2, .cells [aN 0, .v (.slice none 0 0)] 39), (12, .cells [aN m.regs, .sl 4 eIz m.code, aI x, aN m.V, aN (addZ m x), aN m.V, aN (kQ m).vars, .sl 3 eT (kQ m).terms, aN (kAll m).vars, .sl 3 eT (kAll m).terms, .row 901] 144), (901, .row 3 eL (L2 ++ (List.range j).map (fun k => lkZ m (hsF m x k))) 99)]) (fun j => m.R - j) 0 (by omega) ?_ ?_
   ·refine Ent.of [] ?_ ?_ rfl rfl;(repeat' (first |exact True.intro |refine ⟨⟨AV.Le.refl _, rfl⟩, ?_⟩ |refine ⟨⟨⟨_, rfl, BLe.cells (LeL.refl _)⟩, rfl⟩, ?_⟩ |refine ⟨⟨⟨_, rfl, BLe.row ?_⟩, rfl⟩, ?_⟩ |refine ⟨⟨AV.Le.int ?_, rfl⟩, ?_⟩|fail))
    ·omega
    ·simp
   ·intro j k1;(repeat' (first |refine qv ?_ |apply qn |refine Fl.nil (fun _ => by kernel_rfl) ?_ |apply qs |apply qr |refine qe ?_ |(refine AWP.condD rfl ?_ ?_ <;> intro _ <;> try (exfalso; omega)) |apply qb |apply qk |apply qx |apply qt))
    ·rename_i hj;refine Fl.ioG rfl [(900, 12), (902, 174)] (mkChanges_ok m hm x hx (L2 ++ (List.range j).map (fun k => lkZ m (hsF m x k))) (by simp; omega) j (by omega)) rfl rfl (LeL.refl _) rfl ⟨⟨⟨_, rfl, BLe.cells (LeL.refl _)⟩, rfl⟩, ⟨⟨_, rfl, BLe.row rfl⟩, rfl⟩, trivial⟩ rfl rfl rfl rfl rfl ?_;(repeat' (first |refine qv ?_ |apply qn |apply qr |refine qw ?_|fail));refine LoopEnd.of (j + 1) (by omega) (by omega) ?_;refine Ent.of [(901, 174)] ?_ ?_ rfl rfl;(repeat' (first |exact True.intro |refine ⟨⟨AV.Le.refl _, rfl⟩, ?_⟩ |refine ⟨⟨⟨_, rfl, BLe.cells (LeL.refl _)⟩, rfl⟩, ?_⟩ |refine ⟨⟨⟨_, rfl, BLe.row ?_⟩, rfl⟩, ?_⟩|fail));rw [map_range_succ]
    ·rename_i hj
     have hj : j = m.R := by omega
     subst hj;refine RetOk.ent (Ent.freeze 901 rfl) ?_;refine RetOk.of rfl (AV.Le.of_eq ?_);rw [eL2, eL1];simp only [hsS, hsK, List.map_append, List.map_map, List.map_flatMap, lkZ];rfl
theorem hSystem_ok (m : MZ) (x : List Int) (hm : OkMZ m) (hx : OkIn m x) : PureFn Tryz.prog 14 [aMz m, aI x] (.tup [aS (hsS m x), aN 0]) := by
 refine PureFn.of_body Tryz.func14 rfl Tryz.ntmps14 rfl rfl ?_;have h1 := sizesOf_ok m x hm hx;have h2 := hsSystem_ok m x hm hx;(repeat' (first |refine qv ?_ |apply qn |apply qs |apply qr |refine qe ?_|fail));refine qc (h1) ?_;(repeat' (first |refine qv ?_ |apply qn |apply qs |apply qr |refine qe ?_ |refine AWP.condF rfl ?_ |apply qk));refine qc (h2) ?_;(repeat' (first |refine qv ?_ |apply qn |refine qe ?_ |apply qt));exact RetOk.of rfl (AV.Le.refl _)
end Go.Proofs.YtmmfloplhopioaaGreat
/- history's states, column. -/
namespace Go.AL
def eSt : Int × List Int → List AV := fun c => [aN c.1, aI c.2]
def stF (m : MZ) (x : List Int) (t : Nat) : Int × List Int := (((m.mach.F (inF x) t).1 : Int), rgL m.R (m.mach.F (inF x) t).2)
def stL (m : MZ) (x : List Int) (n : Nat) : List (Int × List Int) := (List.range n).map (stF m x)
theorem stL_len (m : MZ) (x : List Int) (n : Nat) : (stL m x n).length = n := by simp [stL]
theorem stL_succ (m : MZ) (x : List Int) (n : Nat) : stL m x (n + 1) = stL m x n ++ [stF m x n] := by
 unfold stL;rw [List.range_succ, List.map_append]; rfl
theorem stL_get {m : MZ} {x : List Int} {n t : Nat} (h : t < n) : (stL m x n)[t]? = some (stF m x t) := by
 unfold stL;rw [List.getElem?_map, List.getElem?_range h]; rfl
theorem map_take_succ {α : Type} {l : List α} {f : α → Int} {i : Nat} {y : α} (h : l[i]? = some y) : (l.take (i + 1)).map f = (l.take i).map f ++ [f y] := by
 rw [take_snoc h, List.map_append]; rfl
end Go.AL
namespace Go.Proofs.YtmmfloplhopioaaGreat
open Go.AL
theorem hStates_ok (m : MZ) (hm : OkMZ m) (x : List Int) (hx : OkIn m x) (s : Nat) (hs : s ≤ 1000000) (h1 : ∀ t, t < s → ¬ m.mach.Over (m.mach.F (inF x) t)) : PureFn Tryz.prog 52 [aSz m x, aN s] (.sl 2 eSt (stL m x (s + 1))) := by
 refine PureFn.of_body Tryz.func52 rfl Tryz.ntmps52 rfl rfl ?_;have hst := rgStart_ok m hm x hx;have hlt := Mach.F_lt hm.mach (inF x) h1;have e0 : rgL m.R (m.mach.F (inF x) 0).2 = x := inF_eq hx;(repeat' (first |refine qv ?_ |apply qn |apply qs |apply qr |refine qe ?_|fail));refine qc (hst) ?_;(repeat' (first |refine qv ?_ |apply qn |apply qs |apply qr |refine qe ?_|fail));refine Fl.litrow rfl rfl rfl rfl rfl rfl rfl eSt [(0, x)] rfl rfl rfl rfl (by intro _ _; rfl) (LeL.refl _) ?_;(repeat' (first |refine qv ?_ |apply qn |apply qs |apply qr |apply qb));refine AWP.loop (G := Nat) (fun i => i ≤ s) (fun i => St.of [] [(2, .ptr 2 0), (5, .ptr 5 0), (7, .row 7), (18, aN s), (19, aN i)] [(2, .cells [aN m.regs, .sl 4 eIz m.code, aI x, aN m.V, aN (addZ m x)] 82), (5, .cells (eSt (stF m x i)) 71), (7, .row 2 eSt (stL m x (i + 1)) 71)]) (fun i => s - i) 0 (by omega) ?_ ?_
 ·refine Ent.of [(7, 17)] ?_ ?_ rfl rfl;(repeat' (first |exact True.intro |refine ⟨⟨AV.Le.refl _, rfl⟩, ?_⟩ |refine ⟨⟨⟨_, rfl, BLe.cells (LeL.refl _)⟩, rfl⟩, ?_⟩ |refine ⟨⟨⟨_, rfl, BLe.row ?_⟩, rfl⟩, ?_⟩ |refine ⟨⟨⟨_, rfl, BLe.cells ?_⟩, rfl⟩, ?_⟩|fail))
  ·exact LeL.cons (AV.Le.refl _) (LeL.cons (AV.Le.of_eq (congrArg (AV.sl 1 eI) e0.symm)) LeL.nil)
  ·show [(0, x)] = [stF m x 0];rw [stF, e0]; rfl
 ·intro i k0;have hll := stL_len m x (i + 1);(repeat' (first |refine qv ?_ |apply qn |apply qs |apply qr |(refine AWP.condD rfl ?_ ?_ <;> intro _ <;> try (exfalso; omega)) |apply qb |apply qk |apply qx |apply qt))
  ·rename_i hi;have hstep := rgStep_ok m hm (inF x) i (by omega) (inF_le hx) (hlt i k0) (h1 i (by omega));refine qc (hstep) ?_;(repeat' (first |refine qv ?_ |apply qn |apply qr |refine qe ?_|fail));refine ql eSt [stF m x (i + 1)] ?_;skip;refine qa (hby := (by dsimp only [List.length_nil, List.length_cons]; omega)) (hm := (by simp; omega)) (r := ?_);(repeat' (first |refine qv ?_ |apply qn |apply qr |refine qw ?_|fail));refine LoopEnd.of (i + 1) (by omega) (by omega) ?_;refine Ent.of [(7, 31)] ?_ ?_ rfl rfl;(repeat' (first |exact True.intro |refine ⟨⟨AV.Le.refl _, rfl⟩, ?_⟩ |refine ⟨⟨⟨_, rfl, BLe.cells (LeL.refl _)⟩, rfl⟩, ?_⟩ |refine ⟨⟨⟨_, rfl, BLe.row ?_⟩, rfl⟩, ?_⟩|fail));exact (stL_succ m x (i + 1)).symm
  ·rename_i hi
   have hi : i = s := by omega
   subst hi;refine RetOk.ent (Ent.freeze 7 rfl) ?_;exact RetOk.of rfl (AV.Le.refl _)
theorem hColumn_ok (g : FuncId) (f : Int × List Int → Int) (L : List (Int × List Int)) (hL : L.length ≤ 1000000) (hg : ∀ c, PureFn Tryz.prog g [aSt c.1 c.2] (aN (f c))) : PureFn Tryz.prog 92 [.sl 2 eSt L, .fn g []] (aI (L.map f)) := by
 refine PureFn.of_body Tryz.func92 rfl Tryz.ntmps92 rfl rfl ?_;(repeat' (first |refine qv ?_ |apply qn |apply qs |apply qr |apply qb));refine AWP.ent (Ent.nilrow 5 805 rfl rfl 1 eI 3) ?_;refine AWP.loop (G := Nat) (fun i => i ≤ L.length) (fun i => St.of [] [(1, .fn g []), (5, .row 5), (8, .sl 2 eSt L), (9, aN L.length), (10, aN i)] [(5, .row 1 eI ((L.take i).map f) 3)]) (fun i => L.length - i) 0 (by omega) ?_ ?_
 ·refine Ent.of [(5, 805)] ?_ ?_ rfl rfl;(repeat' (first |exact True.intro |refine ⟨⟨AV.Le.refl _, rfl⟩, ?_⟩ |refine ⟨⟨⟨_, rfl, BLe.row rfl⟩, rfl⟩, ?_⟩|fail))
 ·intro i k0
  have hll : ((L.take i).map f).length = i := by simp; omega
  (repeat' (first |refine qv ?_ |apply qn |apply qs |apply qr |refine qe ?_ |(refine AWP.condD rfl ?_ ?_ <;> intro _ <;> try (exfalso; omega)) |apply qb |apply qk |apply qx |apply qt |(refine Fl.el rfl rfl rfl rfl rfl rfl rfl rfl (by omega) (by omega) ?_; intro _ _)|fail))
  ·rename_i hi c hc;rw [Int.toNat_natCast] at hc;refine Fl.callV rfl rfl (hg c) rfl rfl rfl (LeL.refl _) ?_;skip;refine ql eI [f c] ?_;skip;refine qa (hby := (by dsimp only [List.length_nil, List.length_cons]; omega)) (hm := (by simp; omega)) (r := ?_);(repeat' (first |refine qv ?_ |apply qn |apply qr |refine qw ?_|fail));refine LoopEnd.of (i + 1) (by omega) (by omega) ?_;refine Ent.of [(5, 19)] ?_ ?_ rfl rfl;(repeat' (first |exact True.intro |refine ⟨⟨AV.Le.refl _, rfl⟩, ?_⟩ |refine ⟨⟨⟨_, rfl, BLe.row ?_⟩, rfl⟩, ?_⟩|fail));exact (map_take_succ hc).symm
  ·rename_i hi;refine RetOk.ent (Ent.freeze 5 rfl) ?_;refine RetOk.of rfl (AV.Le.sl ?_);rw [List.take_of_length_le (by omega)]
abbrev nB1 (i : Nat) : List (AL.Id × Bx) := [(904, .cells [aN i] 3)]
theorem hColumn1_ok (g : FuncId) (i0 : Nat) (f : Int × List Int → Int) (L : List (Int × List Int)) (hL : L.length ≤ 1000000) (hg : ∀ c ∈ L, IoFn Tryz.prog g ([aSt c.1 c.2] ++ [.ptr 904 0]) (nB1 i0) (.ret (aN (f c))) (nB1 i0)) : IoFn Tryz.prog 92 [.sl 2 eSt L, .fn g [.ptr 904 0]] (nB1 i0) (.ret (aI (L.map f))) (nB1 i0) := by
 refine IoFn.of_body Tryz.func92 rfl Tryz.ntmps92 rfl rfl rfl ?_;(repeat' (first |refine qv ?_ |apply qn |apply qs |apply qr |apply qb));refine AWP.ent (Ent.nilrow 5 805 rfl rfl 1 eI 3) ?_;refine AWP.loop (G := Nat) (fun i => i ≤ L.length) (fun i => St.of [904] [(1, .fn g [.ptr 904 0]), (5, .row 5), (8, .sl 2 eSt L), (9, aN L.length), (10, aN i)] (nB1 i0 ++ [(5, .row 1 eI ((L.take i).map f) 3)])) (fun i => L.length - i) 0 (by omega) ?_ ?_
 ·refine Ent.of [(5, 805)] ?_ ?_ rfl rfl;(repeat' (first |exact True.intro |refine ⟨⟨AV.Le.refl _, rfl⟩, ?_⟩ |refine ⟨⟨⟨_, rfl, BLe.cells (LeL.refl _)⟩, rfl⟩, ?_⟩ |refine ⟨⟨⟨_, rfl, BLe.row rfl⟩, rfl⟩, ?_⟩|fail))
 ·intro i k0
  have hll : ((L.take i).map f).length = i := by simp; omega
  (repeat' (first |refine qv ?_ |apply qn |apply qs |apply qr |refine qe ?_ |(refine AWP.condD rfl ?_ ?_ <;> intro _ <;> try (exfalso; omega)) |apply qb |apply qk |apply qx |apply qt |(refine Fl.el rfl rfl rfl rfl rfl rfl rfl rfl (by omega) (by omega) ?_; intro _ _)|fail))
  ·rename_i hi c hc;rw [Int.toNat_natCast] at hc;refine Fl.ioVR rfl rfl [] (hg c (List.mem_of_getElem? hc)) rfl rfl (LeL.refl _) rfl ⟨⟨⟨_, rfl, BLe.cells (LeL.refl _)⟩, rfl⟩, trivial⟩ ⟨rfl, trivial⟩ rfl rfl rfl rfl ?_;skip;refine ql eI [f c] ?_;skip;refine qa (hby := (by dsimp only [List.length_nil, List.length_cons]; omega)) (hm := (by simp; omega)) (r := ?_);(repeat' (first |refine qv ?_ |apply qn |apply qr |refine qw ?_|fail));refine LoopEnd.of (i + 1) (by omega) (by omega) ?_;refine Ent.of [(5, 19)] ?_ ?_ rfl rfl;(repeat' (first |exact True.intro |refine ⟨⟨AV.Le.refl _, rfl⟩, ?_⟩ |refine ⟨⟨⟨_, rfl, BLe.cells (LeL.refl _)⟩, rfl⟩, ?_⟩ |refine ⟨⟨⟨_, rfl, BLe.row ?_⟩, rfl⟩, ?_⟩|fail));exact (map_take_succ hc).symm
  ·rename_i hi;refine ⟨⟨[], _, _, Ent.freeze 5 rfl, rfl, AV.Le.sl ?_, rfl, ⟨⟨⟨_, rfl, BLe.cells (LeL.refl _)⟩, rfl⟩, trivial⟩, rfl, rfl⟩⟩;rw [List.take_of_length_le (by omega)]
theorem tell2_ok (c : Int × List Int) : PureFn Tryz.prog 95 [aSt c.1 c.2] (aN 1) := by
 refine PureFn.of_body Tryz.func95 rfl Tryz.ntmps95 rfl rfl ?_;(repeat' (first |refine qv ?_ |apply qn |apply qs |apply qr |refine qe ?_ |apply qt));exact RetOk.of rfl (AV.Le.refl _)
theorem tell3_ok (i0 : Nat) (c : Int × List Int) : IoFn Tryz.prog 97 ([aSt c.1 c.2] ++ [.ptr 904 0]) (nB1 i0) (.ret (aN (if c.1 = i0 then 1 else 0))) (nB1 i0) := by
 refine IoFn.of_body Tryz.func97 rfl Tryz.ntmps97 rfl rfl rfl ?_;(repeat' (first |refine qv ?_ |apply qn |apply qs |apply qr |refine qe ?_ |(refine AWP.condD rfl ?_ ?_ <;> intro _ <;> try (exfalso; omega)) |apply qk |apply qt))
 ·rename_i h;rw [if_pos h];exact ⟨⟨[], _, _, Ent.refl _ _ _, rfl, AV.Le.refl _, rfl, ⟨⟨⟨_, rfl, BLe.cells (LeL.refl _)⟩, rfl⟩, trivial⟩, rfl, rfl⟩⟩
 ·rename_i h;rw [if_neg h];exact ⟨⟨[], _, _, Ent.refl _ _ _, rfl, AV.Le.refl _, rfl, ⟨⟨⟨_, rfl, BLe.cells (LeL.refl _)⟩, rfl⟩, trivial⟩, rfl, rfl⟩⟩
theorem tell4_ok (j0 : Nat) (c : Int × List Int) (v : Int) (hv : c.2[Int.toNat (j0 : Int)]? = some v) : IoFn Tryz.prog 99 ([aSt c.1 c.2] ++ [.ptr 904 0]) (nB1 j0) (.ret (aN v)) (nB1 j0) := by
 refine IoFn.of_body Tryz.func99 rfl Tryz.ntmps99 rfl rfl rfl ?_
 have hl : (j0 : Int) < c.2.length := by have := (List.getElem?_eq_some_iff.1 hv).1; omega
 (repeat' (first |refine qv ?_ |apply qn |apply qs |apply qr |refine qe ?_ |apply qt |refine qK ?_|fail));exact ⟨⟨[], _, _, Ent.refl _ _ _, rfl, AV.Le.refl _, rfl, ⟨⟨⟨_, rfl, BLe.cells (LeL.refl _)⟩, rfl⟩, trivial⟩, rfl, rfl⟩⟩
end Go.Proofs.YtmmfloplhopioaaGreat
/- A bit of a list of words; digits az bits. Plain. -/
namespace Go.AL
theorem set_bit {ws : List Int} (hw : WOk ws) {i : Nat} (hi : i / 32 < ws.length) (hlt : val ws < 2 ^ i) : ∃ w, ws[i / 32]? = some w ∧ 0 ≤ w ∧ w < 2 ^ (i % 32) ∧ WOk (ws.set (i / 32) (w + 2 ^ (i % 32))) ∧ val (ws.set (i / 32) (w + 2 ^ (i % 32))) = val ws + 2 ^ i := by
 obtain ⟨k, hk⟩ : ∃ k, k = i / 32 := ⟨_, rfl⟩;obtain ⟨j, hj⟩ : ∃ j, j = i % 32 := ⟨_, rfl⟩;rw [← hk] at hi ⊢;rw [← hj]
 have hij : i = 32 * k + j := by omega
 obtain ⟨w, hwk⟩ : ∃ w, ws[k]? = some w := ⟨_, List.getElem?_eq_getElem hi⟩
 have hsp : ws = ws.take k ++ w :: ws.drop (k + 1) := by
  have h1 := (List.take_append_drop k ws).symm;rw [List.drop_eq_getElem_cons hi, (List.getElem?_eq_some_iff.1 hwk).2] at h1;exact h1
 have hset : ∀ v, ws.set k v = ws.take k ++ v :: ws.drop (k + 1) := fun v => by
  rw [List.set_eq_take_append_cons_drop, if_pos hi]
 have hlen : (ws.take k).length = k := by rw [List.length_take]; omega
 have hv : val ws = val (ws.take k) + BB k * (w + 4294967296 * val (ws.drop (k + 1))) := by
  have h2 := congrArg val hsp;rw [val_append, hlen, val] at h2;exact h2
 have hvs : ∀ v, val (ws.set k v) = val (ws.take k) + BB k * (v + 4294967296 * val (ws.drop (k + 1))) := fun v => by
  rw [hset, val_append, hlen, val]
 have h0 := val_nonneg (hw.take k);have h1 := val_nonneg (hw.drop (k + 1));have hw0 := hw w (List.mem_of_getElem? hwk)
 have hp : (2 : Int) ^ i = BB k * 2 ^ j := by rw [BB_pow, ← Int.pow_add, hij]
 have hB := BB_pos k
 have hlt2 : w + 4294967296 * val (ws.drop (k + 1)) < 2 ^ j := by
  rcases Int.lt_or_le (w + 4294967296 * val (ws.drop (k + 1))) (2 ^ j) with h | h
  ·exact h
  ·have := Int.mul_le_mul_of_nonneg_left h (Int.le_of_lt hB);rw [← hp] at this;omega
 have hj32 : (2 : Int) ^ j ≤ 2147483648 := by
  have := pow_le_r (x := 2) (by omega) (show j ≤ 31 by omega)
  have e : (2 : Int) ^ 31 = 2147483648 := by decide
  omega
 refine ⟨w, hwk, hw0.1, by omega, hw.set k (by have := Int.pow_pos (n := 2) (m := j) (by omega); omega) (by omega), ?_⟩;rw [hvs, hv, hp, Int.mul_add, Int.mul_add, Int.mul_add];omega
theorem low_succ (d k : Nat) : d % 2 ^ (k + 1) = d % 2 ^ k + (if d.testBit k then 2 ^ k else 0) := by
 rw [Nat.pow_succ, Nat.mod_mul, Nat.testBit_eq_decide_div_mod_eq];by_cases h : d / 2 ^ k % 2 = 1
 ·rw [h]; simp
 ·have : d / 2 ^ k % 2 = 0 := by omega
  rw [this]; simp
theorem low_all {d k : Nat} (h : d / 2 ^ k = 0) : d % 2 ^ k = d := by
 rcases Nat.div_eq_zero_iff.1 h with h | h
 ·exact absurd h (Nat.pos_iff_ne_zero.1 (Nat.two_pow_pos k))
 ·exact Nat.mod_eq_of_lt h
end Go.AL
/- history's digits. -/
namespace Go.AL
theorem WOk_zeros (n : Nat) : WOk (List.replicate n 0) := fun w hw => by
 rw [List.eq_of_mem_replicate hw]; omega
abbrev dgW (bits n : Nat) : Nat := (n * bits + 63) / 32 + 2
end Go.AL
namespace Go.Proofs.YtmmfloplhopioaaGreat
open Go.AL
set_option maxHeartbeats 1000000 in
theorem digits_ok (bits n : Nat) (f : Nat → Nat) (hb : bits ≤ 1000000) (hn : n ≤ 1000000) (hnb : n * bits ≤ 3000000) (hf : ∀ t, t < n → f t < 2 ^ 41 ∧ f t < 2 ^ bits) : PureFn Tryz.prog 91 [aN bits, aI (rgL n f)] (aX ((ds (2 ^ bits) n f : Nat) : Int)) := by
 refine PureFn.of_body Tryz.func91 rfl Tryz.ntmps91 rfl rfl ?_;obtain ⟨l, el⟩ : ∃ l, l = rgL n f := ⟨_, rfl⟩
 have hlen : l.length = n := by rw [el, rgL_len]
 have hget : ∀ t, t < n → l[t]? = some ((f t : Nat) : Int) := fun t ht => by rw [el]; exact rgL_get ht
 rw [← el];obtain ⟨NB, eNB⟩ : ∃ NB, NB = n * bits := ⟨_, rfl⟩
 have hnb' : (l.length : Int) * (bits : Int) = (NB : Int) := by rw [hlen, eNB, Int.natCast_mul]
 have hW : dgW bits n = (NB + 63) / 32 + 2 := by rw [eNB]
 have hA : ∀ t : Nat, t < n → t * bits + bits ≤ NB := fun t ht => by rw [eNB]; have := Nat.mul_le_mul_right bits (show t + 1 ≤ n from ht); rw [Nat.succ_mul] at this; exact this
 rw [← eNB] at hnb;refine AWP.seqS ?_;(repeat' (first |apply qn |apply qr |refine qe ?_|fail));refine ⟨AWP.seqS ?_⟩;(repeat' (first |refine qv ?_ |apply qn |apply qr |refine qw ?_ |refine Fl.w rfl rfl rfl ⟨by omega, by omega, by dsimp only [hiK]; omega⟩ ?_ |refine Fl.make rfl rfl rfl rfl rfl rfl rfl rfl rfl rfl eW 0 (by exact LeL.refl _) (by rfl) (by first | omega | (dsimp only; omega)) (by first | omega | (dsimp only; omega)) (by first | omega | (dsimp only; omega)) ?_|fail));refine ⟨AWP.seqS ?_⟩;(repeat' (first |refine qv ?_ |apply qn |apply qs |apply qr |apply qb));refine AWP.loop (G := Nat × List Int) (fun (t, ws) => t ≤ n ∧ WOk ws ∧ ws.length = dgW bits n ∧ val ws = ((ds (2 ^ bits) t f : Nat) : Int)) (fun (t, ws) => St.of [] [(0, aN bits), (4, .ptr 4 0), (5, .row 18), (19, aI l), (20, aN n), (21, aN t)] [(4, .cells [aB false, .v (.slice none 0 0)] 48), (18, .row 1 eW ws 94)]) (fun (t, _) => n - t) (0, List.replicate (dgW bits n) 0) ⟨by omega, WOk_zeros _, List.length_replicate, by rw [val_zeros]; rfl⟩ ?_ ?_
 ·refine Ent.of [] ?_ ?_ rfl rfl;(repeat' (first |exact True.intro |refine ⟨⟨AV.Le.refl _, rfl⟩, ?_⟩ |refine ⟨⟨⟨_, rfl, BLe.cells (LeL.refl _)⟩, rfl⟩, ?_⟩ |refine ⟨⟨⟨_, rfl, BLe.row ?_⟩, rfl⟩, ?_⟩ |refine ⟨⟨AV.Le.int ?_, rfl⟩, ?_⟩|fail))
  ·omega
  ·congr 1; omega
 ·intro ⟨t, ws⟩ ⟨k0, k1, k2, k3⟩;(repeat' (first |refine qv ?_ |apply qn |apply qs |apply qr |(refine AWP.condD rfl ?_ ?_ <;> intro _ <;> try (exfalso; omega)) |apply qb |apply qk |apply qx |(refine Fl.el rfl rfl rfl rfl rfl rfl rfl rfl (by omega) (by omega) ?_; intro _ _)|fail))
  ·rename_i hi d hd;rw [Int.toNat_natCast, hget t (by omega)] at hd;injection hd with hd;subst hd;have hAt := hA t (by omega);obtain ⟨hf1, hf2⟩ := hf t (by omega);obtain ⟨A, eA⟩ : ∃ A, A = t * bits := ⟨_, rfl⟩
   have eA' : (t : Int) * (bits : Int) = (A : Int) := by rw [eA, Int.natCast_mul]
   rw [← eA] at hAt;(repeat' (first |refine qv ?_ |apply qn |apply qs |apply qr |refine qw ?_ |apply qb));refine AWP.loop (G := Nat × List Int) (fun (k, vs) => k ≤ 41 ∧ k ≤ bits ∧ WOk vs ∧ vs.length = dgW bits n ∧ val vs = ((ds (2 ^ bits) t f + f t % 2 ^ k * 2 ^ A : Nat) : Int)) (fun (k, vs) => St.of [] [(0, aN bits), (4, .ptr 4 0), (5, .row 18), (7, aN (f t)), (8, aN A), (9, aN k), (19, aI l), (20, aN n), (21, aN t)] [(4, .cells [aB false, .v (.slice none 0 0)] 48), (18, .row 1 eW vs 94)]) (fun (k, _) => 41 - k) (0, ws) ⟨by omega, by omega, k1, k2, by rw [k3, Nat.pow_zero, Nat.mod_one, Nat.zero_mul, Nat.add_zero]⟩ ?_ ?_
   ·refine Ent.of [] ?_ ?_ rfl rfl;(repeat' (first |exact True.intro |refine ⟨⟨AV.Le.refl _, rfl⟩, ?_⟩ |refine ⟨⟨⟨_, rfl, BLe.cells (LeL.refl _)⟩, rfl⟩, ?_⟩ |refine ⟨⟨⟨_, rfl, BLe.row rfl⟩, rfl⟩, ?_⟩ |refine ⟨⟨AV.Le.int ?_, rfl⟩, ?_⟩|fail));exact eA'
   ·intro ⟨k, vs⟩ ⟨q0, q1, q2, q3, q4⟩;obtain ⟨q, hq⟩ : ∃ q, q = f t / 2 ^ k := ⟨_, rfl⟩
    have ediv : ((f t : Nat) : Int) / 2 ^ (Int.toNat (k : Int)) = (q : Int) := by
     rw [Int.toNat_natCast, hq, Int.natCast_ediv, Int.natCast_pow]; rfl
    have hq1 : q ≤ f t := by rw [hq]; exact Nat.div_le_self _ _
    have hq2 : q ≠ 0 → k < bits ∧ k < 41 := fun h => by
     have h1 : 2 ^ k ≤ f t := by
      rcases Nat.lt_or_ge (f t) (2 ^ k) with h1 | h1
      ·exact absurd (by rw [hq]; exact Nat.div_eq_of_lt h1) h
      ·exact h1
     have e1 := Nat.lt_of_le_of_lt h1 hf1;have e2 := Nat.lt_of_le_of_lt h1 hf2;rw [Nat.pow_lt_pow_iff_right (by omega)] at e1 e2;exact ⟨e2, e1⟩
    have hdv0 : 0 ≤ ((f t : Nat) : Int) / 2 ^ (Int.toNat (k : Int)) := by rw [ediv]; omega
    have hdv1 : ((f t : Nat) : Int) / 2 ^ (Int.toNat (k : Int)) ≤ 2199023255552 := by rw [ediv]; omega
    (repeat' (first |refine qv ?_ |apply qn |apply qs |apply qr |refine qw ?_ |refine Fl.w rfl rfl rfl ⟨by omega, by omega, by dsimp only [hiK]; omega⟩ ?_ |(refine AWP.condD rfl ?_ ?_ <;> intro _ <;> try (exfalso; omega)) |(refine AWP.condN rfl ?_ ?_ <;> intro _ <;> try (exfalso; omega)) |apply qb |apply qk |apply qx |refine Fl.rel rfl rfl rfl rfl rfl rfl rfl rfl (by omega) (by first | omega | (simp; omega)) ?_ |(refine Fl.rldW rfl rfl rfl rfl rfl rfl rfl (fun _ => rfl) (fun _ => rfl) (by first | omega | (simp; omega)) (by assumption) ?_; intro _ _ _ _) |refine Fl.rst rfl rfl rfl rfl rfl rfl rfl rfl rfl rfl rfl (LeL.refl _) rfl (by first | omega | (simp; omega)) ?_|fail))
    ·rename_i g1 g2 w hw hw0 hw1;rw [ediv] at g1 g2;rw [bitN_and1 (by omega)] at g2;obtain ⟨p1, p2⟩ := hq2 (by omega);have hlow : f t % 2 ^ k < 2 ^ k := Nat.mod_lt _ (Nat.two_pow_pos k)
     have hA2 : (2 ^ bits) ^ t = 2 ^ A := by rw [eA, ← Nat.pow_mul, Nat.mul_comm]
     have hds : ds (2 ^ bits) t f < 2 ^ A := by
      rw [← hA2];exact ds_lt fun u hu => (hf u (by omega)).2
     have hlt : ds (2 ^ bits) t f + f t % 2 ^ k * 2 ^ A < 2 ^ (A + k) := by
      have h1 := Nat.mul_le_mul_right (2 ^ A) (show f t % 2 ^ k + 1 ≤ 2 ^ k from hlow);rw [Nat.add_mul, Nat.one_mul] at h1;rw [Nat.pow_add, Nat.mul_comm (2 ^ A)];omega
     obtain ⟨w', b1, b2, b3, b4, b5⟩ := set_bit (i := A + k) q2 (by omega) (by
      rw [q4]
      have : ((2 ^ (A + k) : Nat) : Int) = 2 ^ (A + k) := by rw [Int.natCast_pow]; rfl
      omega)
     have hwi : (((A : Int) + (k : Int)) / 32).toNat = (A + k) / 32 := by omega
     have hwm : (((A : Int) + (k : Int)) % 32).toNat = (A + k) % 32 := by omega
     rw [hwi] at hw;rw [b1] at hw;injection hw with hw;subst hw;have hor := (or_carry (c := w') (x := 1) (k := (A + k) % 32) (by omega) b2 b3 (by omega) (by omega)).1
     have hp : (1 : Int) * 2 ^ ((A + k) % 32) % 4294967296 = 2 ^ ((A + k) % 32) := by
      rw [Int.one_mul];have := pow_le_r (x := 2) (by omega) (show (A + k) % 32 ≤ 31 by omega)
      have e : (2 : Int) ^ 31 = 2147483648 := by decide
      have := Int.pow_pos (n := 2) (m := (A + k) % 32) (by omega);omega
     rw [hp] at hor;refine LoopEnd.of (k + 1, vs.set ((A + k) / 32) (w' + 2 ^ ((A + k) % 32))) ⟨by omega, by omega, b4, by rw [List.length_set]; exact q3, ?_⟩ (by simp only; omega) ?_
     ·rw [b5, q4, low_succ, if_pos (by rw [Nat.testBit_eq_decide_div_mod_eq, ← hq]; simp; omega), Nat.add_mul, ← Nat.pow_add, Nat.add_comm k A]
      have : ((2 ^ (A + k) : Nat) : Int) = 2 ^ (A + k) := by rw [Int.natCast_pow]; rfl
      omega
     ·refine Ent.of [] ?_ ?_ rfl rfl;(repeat' (first |exact True.intro |refine ⟨⟨AV.Le.refl _, rfl⟩, ?_⟩ |refine ⟨⟨⟨_, rfl, BLe.cells (LeL.refl _)⟩, rfl⟩, ?_⟩ |refine ⟨⟨⟨_, rfl, BLe.row ?_⟩, rfl⟩, ?_⟩|fail));rw [hwi, hwm, hp, hor]
    ·rename_i g1 g2;rw [ediv] at g1 g2;rw [bitN_and1 (by omega)] at g2;obtain ⟨p1, p2⟩ := hq2 (by omega);refine LoopEnd.of (k + 1, vs) ⟨by omega, by omega, q2, q3, ?_⟩ (by simp only; omega) ?_
     ·rw [q4, low_succ, if_neg (by rw [Nat.testBit_eq_decide_div_mod_eq, ← hq]; simp; omega), Nat.add_zero]
     ·refine Ent.of [] ?_ ?_ rfl rfl;(repeat' (first |exact True.intro |refine ⟨⟨AV.Le.refl _, rfl⟩, ?_⟩ |refine ⟨⟨⟨_, rfl, BLe.cells (LeL.refl _)⟩, rfl⟩, ?_⟩ |refine ⟨⟨⟨_, rfl, BLe.row rfl⟩, rfl⟩, ?_⟩|fail))
    ·rename_i g1;rw [ediv] at g1
     have hq0 : f t / 2 ^ k = 0 := by omega
     rw [low_all hq0] at q4;refine LoopEnd.of (t + 1, vs) ⟨by omega, q2, q3, ?_⟩ (by simp only; omega) ?_
     ·rw [q4, ds_top, eA, Nat.mul_comm t bits, Nat.pow_mul]
     ·refine Ent.of [] ?_ ?_ rfl rfl;(repeat' (first |exact True.intro |refine ⟨⟨AV.Le.refl _, rfl⟩, ?_⟩ |refine ⟨⟨⟨_, rfl, BLe.cells (LeL.refl _)⟩, rfl⟩, ?_⟩ |refine ⟨⟨⟨_, rfl, BLe.row rfl⟩, rfl⟩, ?_⟩|fail))
  ·rename_i hn2
   have htn : t = n := by omega
   subst htn;refine ⟨AWP.seqS ?_⟩;refine AWP.ent (Ent.freeze 18 rfl) ?_;(repeat' (first |refine qv ?_ |apply qn |apply qr));refine ⟨AWP.seq (AWP.block ?_)⟩
   have hws : (ws.length : Int) ≤ 200000 := by omega
   have fin : ∀ v : List Int, v = toW (val ws) → LeL [AV.v (.bool false), aW v] [aB (decide (((ds (2 ^ bits) t f : Nat) : Int) < 0)), aW (toW (((ds (2 ^ bits) t f : Nat) : Int).natAbs))] := fun v hv => by
    rw [hv, k3, Int.natAbs_natCast, show decide (((ds (2 ^ bits) t f : Nat) : Int) < 0) = false from decide_eq_false (by omega)];exact LeL.refl _
   refine AWP.loop (G := Int) (fun c => 0 ≤ c ∧ c ≤ ws.length ∧ trimL (ws.take c.toNat) = trimL ws) (fun c => St.of [] [(4, .ptr 4 0), (5, aW ws), (10, aN c)] [(4, .cells [aB false, .v (.slice none 0 0)] 48)]) (fun c => c.toNat) (ws.length : Int) ⟨by omega, by omega, by simp⟩ ?_ ?_
   ·refine Ent.of [] ?_ ?_ rfl rfl;(repeat' (first |exact True.intro |refine ⟨⟨AV.Le.refl _, rfl⟩, ?_⟩ |refine ⟨⟨⟨_, rfl, BLe.cells (LeL.refl _)⟩, rfl⟩, ?_⟩|fail))
   ·intro c ⟨c0, c1, c2⟩;(repeat' (first |refine qv ?_ |apply qn |apply qs |apply qr |refine qw ?_ |refine qe ?_ |refine Fl.skip rfl rfl ?_ |refine AWP.condF rfl ?_ |(refine AWP.condD rfl ?_ ?_ <;> intro _ <;> try (exfalso; omega)) |apply qb |apply qk |apply qx |apply qt |(refine Fl.elW rfl rfl rfl rfl rfl rfl rfl rfl (by omega) (by omega) (by assumption) ?_; intro _ _ _ _) |(refine Fl.splitD rfl rfl ?_ ?_ <;> intro _ <;> try (exfalso; omega))))
    ·rename_i h0 e hx hx0 hx1 hz;subst hz;refine LoopEnd.of (c - 1) ⟨by omega, by omega, ?_⟩ (by omega) ?_
     ·rw [← c2, trimL_take0 (by omega) hx]
     ·refine Ent.of [] ?_ ?_ rfl rfl;(repeat' (first |exact True.intro |refine ⟨⟨AV.Le.refl _, rfl⟩, ?_⟩ |refine ⟨⟨⟨_, rfl, BLe.cells (LeL.refl _)⟩, rfl⟩, ?_⟩|fail))
    ·rename_i h0 e hx hx0 hx1 hz;refine RetOk.of rfl (AV.Le.agg (fin _ ?_));rw [← trimL_eq k1, ← c2, trimL_take1 (by omega) hx hz]
    ·rename_i h0
     have h0 : c = 0 := by omega
     subst h0;refine RetOk.of rfl (AV.Le.agg (fin _ ?_));rw [← trimL_eq k1, ← c2]; simp [trimL]
end Go.Proofs.YtmmfloplhopioaaGreat
/- The program's polynomials and the reference's are the same. Plain. -/
namespace Go.AL
section
variable {m : MZ} {x : List Int}
theorem sums3 {V d c n d' c' n' d2 c2 n2 : Nat} {p q r : List UT} (hp : SzU V d c n p) (_ : SzU V d' c' n' q) (_ : SzU V d2 c2 n2 r) : sumsU [] [p, q, r] = addL (addL p q) r := by
 show addL (addL (addL [] p) q) r = _;rw [add_nil_l hp.can]
end
end Go.AL
/- What the terms of built polynomials come to, at most. Plain. -/
namespace Go.AL
theorem auv_cons (X : List Int) (u : UT) (p : List UT) : auv X (u :: p) = ((u.1 * prodE X u.2).natAbs : Int) + auv X p := rfl
theorem auv_nn (X : List Int) : ∀ p : List UT, 0 ≤ auv X p
 | [] => by simp [auv, sumL]
 | u :: p => by rw [auv_cons]; have := auv_nn X p; omega
theorem auv_append (X : List Int) : ∀ p q : List UT, auv X (p ++ q) = auv X p + auv X q
 | [], q => by simp [auv, sumL]
 | u :: p, q => by rw [List.cons_append, auv_cons, auv_cons, auv_append X p q]; omega
theorem auv_insU (X : List Int) (u : UT) : ∀ l : List UT, auv X (insU u l) ≤ ((u.1 * prodE X u.2).natAbs : Int) + auv X l
 | [] => by
  unfold insU;split
  ·simp [auv, sumL]
  ·rw [auv_cons]; exact Int.le_refl _
 | v :: l => by
  have ih := auv_insU X u l;unfold insU;split
  ·split
   ·rw [auv_cons]; omega
   ·rw [auv_cons, auv_cons]; exact Int.le_refl _
  ·split
   ·rename_i e
    have hs : ((u.1 + v.1) * prodE X u.2).natAbs ≤ (u.1 * prodE X u.2).natAbs + (v.1 * prodE X v.2).natAbs := by
     rw [← e, Int.add_mul]; exact Int.natAbs_add_le _ _
    split
    ·rw [auv_cons]; omega
    ·rw [auv_cons, auv_cons];show (((u.1 + v.1) * prodE X u.2).natAbs : Int) + auv X l ≤ _;omega
   ·rw [auv_cons, auv_cons]; omega
theorem auv_canU (X : List Int) : ∀ us : List UT, auv X (canU us) ≤ auv X us
 | [] => Int.le_refl _
 | u :: us => by
  have h1 := auv_canU X us;have h2 := auv_insU X u (canU us);show auv X (insU u (canU us)) ≤ _;rw [auv_cons]; omega
theorem auv_scale (X : List Int) (k : Int) : ∀ q : List UT, auv X (q.map fun u => (u.1 * k, u.2)) = auv X q * (k.natAbs : Int)
 | [] => by simp [auv, sumL]
 | u :: q => by
  rw [List.map_cons, auv_cons, auv_cons, auv_scale X k q, Int.add_mul];congr 1;show ((u.1 * k * prodE X u.2).natAbs : Int) = _;rw [show u.1 * k * prodE X u.2 = u.1 * prodE X u.2 * k by grind, Int.natAbs_mul];simp
theorem auv_add (X : List Int) (p q : List UT) : auv X (addL p q) ≤ auv X p + auv X q := by
 have h := auv_canU X (addUs 1 p q);unfold addL;unfold addUs at h ⊢;rw [auv_append, auv_scale] at h;simpa using h
theorem auv_sub (X : List Int) (p q : List UT) : auv X (subL p q) ≤ auv X p + auv X q := by
 have h := auv_canU X (addUs (-1) p q);unfold subL;unfold addUs at h ⊢;rw [auv_append, auv_scale] at h;simpa using h
theorem auv_times {V d c n : Nat} (X : List Int) (t : UT) (ht : t.2.length = V ∧ (∀ e ∈ t.2, 0 ≤ e) ∧ sumL t.2 ≤ 120) : ∀ {q : List UT}, (∀ u ∈ q, u.2.length = V ∧ (∀ e ∈ u.2, 0 ≤ e) ∧ sumL u.2 ≤ 120) → auv X (q.map fun u => (t.1 * u.1, addE t.2 u.2)) = ((t.1 * prodE X t.2).natAbs : Int) * auv X q
 | [], _ => by simp [auv, sumL]
 | u :: q, h => by
  have ih := auv_times (d := d) (c := c) (n := n) X t ht (q := q) fun v hv => h v (by simp [hv]);have hu := h u (by simp);have e1 := (ex_ok (d := 120) (by omega) ht).2.2;have e2 := (ex_ok (d := 120) (by omega) hu).2.2;rw [List.map_cons, auv_cons, auv_cons, ih, Int.mul_add];congr 1;show ((t.1 * u.1 * prodE X (addE t.2 u.2)).natAbs : Int) = _;rw [prodE_add e1 e2 (by omega), show t.1 * u.1 * (prodE X t.2 * prodE X u.2) = t.1 * prodE X t.2 * (u.1 * prodE X u.2) by grind, Int.natAbs_mul];simp
theorem auv_mulUs {V d c n d' c' n' : Nat} (X : List Int) {q : List UT} (hq : SzU V d' c' n' q) (h2 : d' ≤ 120) (h1 : d ≤ 120) : ∀ {p : List UT}, (∀ u ∈ p, u.2.length = V ∧ (∀ e ∈ u.2, 0 ≤ e) ∧ sumL u.2 ≤ d) → auv X (mulUs p q) = auv X p * auv X q
 | [], _ => by simp [mulUs, auv, sumL]
 | t :: p, h => by
  have ih := auv_mulUs (c := c) (n := n) X hq h2 h1 (p := p) fun u hu => h u (by simp [hu]);have ht := h t (by simp);have e := auv_times (V := V) (d := d) (c := c) (n := n) X t ⟨ht.1, ht.2.1, by have := ht.2.2; omega⟩ (q := q) fun u hu => ⟨(hq.ex u hu).1, (hq.ex u hu).2.1, by have := (hq.ex u hu).2.2; omega⟩;unfold mulUs at ih ⊢;rw [List.flatMap_cons, auv_append, e, ih, auv_cons, Int.add_mul]
theorem auv_mul {V d c n d' c' n' : Nat} (X : List Int) {p q : List UT} (hp : SzU V d c n p) (hq : SzU V d' c' n' q) (h1 : d ≤ 120) (h2 : d' ≤ 120) : auv X (mulL2 p q) ≤ auv X p * auv X q := by
 have h := auv_canU X (mulUs p q);rw [auv_mulUs (d := d) (c := c) (n := n) X hq h2 h1 hp.ex] at h;exact h
theorem auv_con (X : List Int) (V : Nat) (k : Int) : auv X (conU V k) = (k.natAbs : Int) := by
 unfold conU;split
 ·rename_i h; subst h; simp [auv, sumL]
 ·rw [auv_cons];show ((k * prodE X (List.replicate V 0)).natAbs : Int) + auv X [] = _;rw [prodE_zeros];simp [auv, sumL]
theorem auv_var {X : List Int} {V i : Nat} (hX : X.length = V) (hi : i < V) (h0 : ∀ y ∈ X, 0 ≤ y) : auv X (varU V i) = X.getD i 0 := by
 have h := uv_var hX hi;unfold varU uv at h;simp only [List.map_cons, List.map_nil, sumL] at h;unfold varU;rw [auv_cons]
 have hg : 0 ≤ X.getD i 0 := by
  rw [List.getD_eq_getElem?_getD, List.getElem?_eq_getElem (by omega)];exact h0 _ (List.getElem_mem _)
 show ((1 * prodE X (unU V i)).natAbs : Int) + 0 = _;omega
end Go.AL
/- The values of a history's links: how large they are. Plain. -/
namespace Go.AL
theorem ds_le {Q c : Nat} : ∀ {n : Nat} {d : Nat → Nat}, (∀ t, t < n → d t ≤ c) → ds Q n d ≤ c * ds Q n fun _ => 1
 | 0, _, _ => by simp [ds]
 | n + 1, d, h => by
  have h0 := h 0 (by omega);have ih := ds_le (Q := Q) (n := n) (d := fun t => d (t + 1)) fun t ht => h (t + 1) (by omega);have k := Nat.mul_le_mul_left Q ih;rw [ds, ds, Nat.mul_add, Nat.mul_one]
  have e : Q * (c * ds Q n fun _ => 1) = c * (Q * ds Q n fun _ => 1) := by
   rw [← Nat.mul_assoc, ← Nat.mul_assoc, Nat.mul_comm Q c]
  omega
section
variable {m : MZ} {x X : List Int}
structure HB (m : MZ) (X : List Int) (Q I W : Int) : Prop where
  len : X.length = m.V
  nn : ∀ y ∈ X, 0 ≤ y
  q2 : 2 ≤ Q
  i1 : 1 ≤ I
  qi : Q * I ≤ 2 * W
  x0 : X.getD 0 0 ≤ 4096
  x1 : 2 * X.getD 1 0 = Q
  x2 : X.getD 2 0 = I
  xl : ∀ i, i < m.l → X.getD (3 + i) 0 ≤ I
  xr : ∀ j, j < m.R → X.getD (3 + m.l + j) 0 ≤ 4096 * I
  xe : ∀ j, j < m.R → X.getD (3 + m.l + m.R + j) 0 ≤ 4096
theorem nn_get (h0 : ∀ y ∈ X, 0 ≤ y) (i : Nat) : 0 ≤ X.getD i 0 := by
 rw [List.getD_eq_getElem?_getD]
 cases h : X[i]? with
 | none => simp
 | some y => exact h0 y (List.mem_of_getElem? h)
variable {Q I W : Int}
theorem HB.le (h : HB m X Q I W) : I ≤ W ∧ Q ≤ 2 * W ∧ 1 ≤ W := by
 have h1 := h.q2;have h2 := h.i1;have h3 := h.qi;have k1 : 2 * I ≤ Q * I := Int.mul_le_mul_of_nonneg_right h1 (by omega);have k2 : Q * 1 ≤ Q * I := Int.mul_le_mul_of_nonneg_left h2 (by omega);omega
theorem auvQ (h : HB m X Q I W) (h6 : 6 ≤ m.V) : auv X (hsQ m.V) ≤ Q := by
 unfold hsQ;rw [muls2 (SzU.con m.V 2)];refine Int.le_trans (auv_mul X (SzU.con m.V 2) (SzU.var (V := m.V) (i := 1) (by omega)) (by omega) (by omega)) ?_;rw [auv_con, auv_var h.len (by omega) h.nn, show ((2 : Int).natAbs : Int) = 2 from rfl, h.x1];exact Int.le_refl _
theorem mul_le_both {a b c d : Int} (h1 : a ≤ c) (h2 : b ≤ d) (h3 : 0 ≤ b) (h4 : 0 ≤ c) : a * b ≤ c * d :=
 Int.le_trans (Int.mul_le_mul_of_nonneg_right h1 h3) (Int.mul_le_mul_of_nonneg_left h2 h4)
theorem auvMul {V d c n d' c' n' : Nat} {p q : List UT} {A B : Int} (hp : SzU V d c n p) (hq : SzU V d' c' n' q) (h1 : d ≤ 120) (h2 : d' ≤ 120) (ha : auv X p ≤ A) (hb : auv X q ≤ B) (h0 : 0 ≤ A) : auv X (mulL2 p q) ≤ A * B :=
 Int.le_trans (auv_mul X hp hq h1 h2) (mul_le_both ha hb (auv_nn X q) h0)
theorem auvAdd {p q : List UT} {A B : Int} (ha : auv X p ≤ A) (hb : auv X q ≤ B) : auv X (addL p q) ≤ A + B := by
 have := auv_add X p q;omega
theorem auvSub {p q : List UT} {A B : Int} (ha : auv X p ≤ A) (hb : auv X q ≤ B) : auv X (subL p q) ≤ A + B := by
 have := auv_sub X p q;omega
theorem auvAll (h : HB m X Q I W) (h6 : 6 ≤ m.V) : auv X (hsAll m.V) ≤ 1 + (Q + 1) * I := by
 have a := (hsQ_sz h6).1;have b := a.sub (SzU.con m.V 1);have v := SzU.var (V := m.V) (i := 2) (by omega);have q2 := h.q2;unfold hsAll;rw [muls2 b, sums2 (SzU.con m.V 1) (b.mul v)];refine auvAdd (by rw [auv_con]; omega) (auvMul b v (by omega) (by omega) (auvSub (auvQ h h6) (by rw [auv_con]; omega)) ?_ (by omega));rw [auv_var h.len (by omega) h.nn, h.x2]; omega
theorem auvSum (h : HB m X Q I W) (c : IZ → Bool) : ∀ (xs : List IZ) {i : Nat} {acc : List UT} {k n : Nat}, SzU m.V 1 k n acc → i + xs.length ≤ m.l → auv X (hsSum m.V c i xs acc) ≤ auv X acc + xs.length * I
 | [], i, acc, k, n, _, _ => by simp [hsSum]
 | y :: ys, i, acc, k, n, ha, hi => by
  rw [List.length_cons] at hi;have hVe : m.V = 3 + m.l + 2 * m.R := rfl;have v := SzU.var (V := m.V) (i := 3 + i) (by omega);have i1 := h.i1;rw [hsSum, List.length_cons, show ((ys.length + 1 : Nat) : Int) * I = ys.length * I + I by rw [Int.natCast_add, Int.add_mul]; simp];split
  ·have hs : SzU m.V 1 (k + 1) (n + 1) (addL acc (varU m.V (3 + i))) := (ha.add v).mono (by omega) (by omega) (by omega);rw [sums2 ha v];have ih := auvSum h c ys (i := i + 1) hs (by omega);have e := auvAdd (X := X) (Int.le_refl (auv X acc)) (q := varU m.V (3 + i)) (B := I) (by rw [auv_var h.len (by omega) h.nn]; exact h.xl i (by omega));omega
  ·have ih := auvSum h c ys ha (i := i + 1) (by omega);omega
theorem auvSum0 (h : HB m X Q I W) (ok : OkMZ m) (c : IZ → Bool) : auv X (hsSum m.V c 0 m.code (conU m.V 0)) ≤ 15 * I := by
 have e := auvSum h c m.code (i := 0) (SzU.con m.V 0 |>.mono (d' := 1) (by omega) (Nat.le_refl _) (Nat.le_refl _)) (by show 0 + m.code.length ≤ m.code.length; omega);rw [auv_con] at e;have hl : m.code.length ≤ 15 := ok.l15;have i1 := h.i1;have : (m.code.length : Int) * I ≤ 15 * I := Int.mul_le_mul_of_nonneg_right (by omega) (by omega);simp only [Int.natAbs_zero] at e;omega
theorem auvHere (h : HB m X Q I W) (h6 : 6 ≤ m.V) {i : Nat} (hi : i < m.l) : auv X (hsHere m i) ≤ Q * I := by
 have a := (hsQ_sz h6).1;have hVe : m.V = 3 + m.l + 2 * m.R := rfl;have v := SzU.var (V := m.V) (i := 3 + i) (by omega);have q2 := h.q2;unfold hsHere;rw [muls2 a];exact auvMul a v (by omega) (by omega) (auvQ h h6) (by rw [auv_var h.len (by omega) h.nn]; exact h.xl i hi) (by omega)
theorem auvDoes (h : HB m X Q I W) (ok : OkMZ m) (op : Int) (j : Nat) : auv X (hsDoes m op j) ≤ 15 * (Q * I) := by
 have a := (hsQ_sz ok.V6).1;have q2 := h.q2;unfold hsDoes;rw [muls2 a];have := auvMul (X := X) a (sz_sum ok (fun x => decide (x.op = op) && decide (x.rg = j))) (by omega) (by omega) (auvQ h ok.V6) (auvSum0 h ok _) (by omega);refine Int.le_trans this (Int.le_of_eq ?_);rw [← Int.mul_assoc, Int.mul_comm Q 15, Int.mul_assoc]
theorem auvL (h : HB m X Q I W) (ok : OkMZ m) {j : Nat} (hj : j < m.R) : auv X (hsL m j) ≤ 4096 * I + 4096 * (1 + (Q + 1) * I) := by
 have hVe : m.V = 3 + m.l + 2 * m.R := rfl;have a := SzU.var (V := m.V) (i := 3 + m.l + j) (by omega);have b := SzU.var (V := m.V) (i := 3 + m.l + m.R + j) (by omega);have c := (hsAll_sz ok.V6).1;unfold hsL;rw [muls2 b, sums2 a (b.mul c)];refine auvAdd (by rw [auv_var h.len (by omega) h.nn]; exact h.xr j hj) (auvMul b c (by omega) (by omega) (by rw [auv_var h.len (by omega) h.nn]; exact h.xe j hj) (auvAll h ok.V6) (by omega))
theorem auvR0 (h : HB m X Q I W) (ok : OkMZ m) (hx : OkIn m x) {j : Nat} (hj : j < m.R) : auv X (hsR0 m x j) ≤ 1000 + 4096 * (Q * I) + 15 * (Q * I) := by
 have hVe : m.V = 3 + m.l + 2 * m.R := rfl;have hb := getD_in hx j;have a := SzU.con m.V (x.getD j 0);have q := (hsQ_sz ok.V6).1;have v := SzU.var (V := m.V) (i := 3 + m.l + j) (by omega);have d := sz_does ok 0 j;have q2 := h.q2;unfold hsR0;rw [muls2 q, sums3 a (q.mul v) d];refine auvAdd (auvAdd (by rw [auv_con]; omega) ?_) (auvDoes h ok 0 j);have := auvMul (X := X) q v (by omega) (by omega) (auvQ h ok.V6) (B := 4096 * I) (by rw [auv_var h.len (by omega) h.nn]; exact h.xr j hj) (by omega);refine Int.le_trans this (Int.le_of_eq ?_);rw [← Int.mul_assoc, Int.mul_comm Q 4096, Int.mul_assoc]
theorem hs_auv (h : HB m X Q I W) (ok : OkMZ m) (hx : OkIn m x) : ∀ k ∈ hsK m x, ∀ p ∈ k.2, auv X p ≤ 65536 * W := by
 obtain ⟨w1, w2, w3⟩ := h.le;obtain ⟨s1, s2, s3⟩ := addZ_b ok hx;have hV6 := ok.V6;have hVe : m.V = 3 + m.l + 2 * m.R := rfl;have q2 := h.q2;have i1 := h.i1;have qi := h.qi;have qi0 : 0 ≤ Q * I := Int.mul_nonneg (by omega) (by omega)
 have q1 : (Q + 1) * I = Q * I + I := by rw [Int.add_mul, Int.one_mul]
 have vl := fun i (hi : i < m.l) => show auv X (varU m.V (3 + i)) ≤ I by rw [auv_var h.len (by omega) h.nn]; exact h.xl i hi
 have vr := fun j (hj : j < m.R) => show auv X (varU m.V (3 + m.l + j)) ≤ 4096 * I by rw [auv_var h.len (by omega) h.nn]; exact h.xr j hj
 have v0 : auv X (varU m.V 0) ≤ 4096 := by rw [auv_var h.len (by omega) h.nn]; exact h.x0
 have v1 : auv X (varU m.V 1) ≤ Q := by rw [auv_var h.len (by omega) h.nn]; have := h.x1; have := nn_get h.nn 1; omega
 have v2 : auv X (varU m.V 2) ≤ I := by rw [auv_var h.len (by omega) h.nn, h.x2]; omega
 have cc := fun k : Int => auv_con X m.V k
 have sadd : ∀ k : Int, 0 ≤ k → k ≤ 5000 → auv X (sumsU [] [varU m.V 0, conU m.V k]) ≤ 65536 * W := fun k k0 k1 => by
  rw [sums2 (SzU.var (V := m.V) (i := 0) (by omega)) (SzU.con m.V k)];have := auvAdd v0 (Int.le_of_eq (cc k));omega
 have aQ := auvQ h hV6;have aA := auvAll h hV6;have aS := fun c => auvSum0 h ok c;rw [q1] at aA;intro l hl;simp only [hsK, List.mem_append, List.mem_map, List.mem_flatMap, List.mem_range] at hl;rcases hl with ((((hl | ⟨i, hi, rfl⟩) | hl) | ⟨j, hj, rfl⟩) | ⟨i, hi, hl⟩) | ⟨j, hj, rfl⟩
 ·simp only [hsA, List.mem_cons, List.not_mem_nil, or_false] at hl;rcases hl with rfl | rfl | rfl
  ·simp only [List.forall_mem_cons];exact ⟨by rw [cc]; omega, sadd _ (by omega) (by omega), by omega, by simp⟩
  ·simp only [List.forall_mem_cons];exact ⟨by omega, sadd 1 (by omega) (by omega), by omega, by simp⟩
  ·simp only [List.forall_mem_cons];exact ⟨by have := auvSub v2 (aS fun _ => true); omega, by simp⟩
 ·unfold hsB;simp only [List.forall_mem_cons];exact ⟨by have := vl i hi; omega, by omega, by simp⟩
 ·simp only [hsC, List.mem_cons, List.not_mem_nil, or_false] at hl;rcases hl with rfl | rfl
  ·simp only [List.forall_mem_cons];exact ⟨by rw [cc]; omega, by have := vl 0 ok.l1; simp only [Nat.add_zero] at this; omega, by simp⟩
  ·simp only [List.forall_mem_cons];exact ⟨by omega, by omega, by have := aS fun x => decide (x.op = 3); omega, by simp⟩
 ·unfold hsD;simp only [List.forall_mem_cons];refine ⟨by have := vr j hj; omega, ?_, by simp⟩;have a := (SzU.var (V := m.V) (i := 1) (by omega)).sub (SzU.con m.V 1);rw [muls2 a];have := auvMul a (SzU.var (V := m.V) (i := 2) (by omega)) (by omega) (by omega) (auvSub v1 (Int.le_of_eq (cc 1))) v2 (by omega);have e : (Q + ((1 : Int).natAbs : Int)) * I = Q * I + I := q1;omega
 ·have hh := auvHere h hV6 hi;unfold hsGo at hl;split at hl
  ·simp at hl
  ·rename_i h3;rcases ok.ins i hi with k | ⟨⟨a1, a2⟩, ⟨b1, b2⟩, k⟩
   ·rw [k] at h3; exact absurd rfl h3
   have hR : ((m.R : Nat) : Int) = m.regs := by have := ok.r1; show ((m.regs.toNat : Nat) : Int) = _; omega
   have hb2 : (m.at i).nx < (m.l : Int) := b2;split at hl
   ·rename_i h2
    have hz : 0 ≤ (m.at i).zr ∧ (m.at i).zr < m.l := by
     rcases k with k | k
     ·exact ⟨k.2.1, k.2.2.1⟩
     ·omega
    simp only [List.mem_cons, List.not_mem_nil, or_false] at hl;have vn := SzU.var (V := m.V) (i := 3 + (m.at i).nx.toNat) (by omega);have vz := SzU.var (V := m.V) (i := 3 + (m.at i).zr.toNat) (by omega);have vrr := SzU.var (V := m.V) (i := 3 + m.l + (m.at i).rg.toNat) (by omega);have vv2 := SzU.var (V := m.V) (i := 2) (by omega);have q := (hsQ_sz hV6).1;have un := vl (m.at i).nx.toNat (by omega);have uz := vl (m.at i).zr.toNat (by omega);have ur := vr (m.at i).rg.toNat (by omega);rcases hl with rfl | rfl
    ·simp only [List.forall_mem_cons];refine ⟨by omega, ?_, by simp⟩;rw [sums2 vn vz];have := auvAdd un uz;omega
    ·simp only [List.forall_mem_cons];refine ⟨by omega, ?_, by simp⟩;have e1 := q.mul vv2;unfold hsJmp;rw [muls2 q, muls2 (SzU.con m.V 2), sums2 vn e1];have k1 := auvMul (X := X) q vv2 (by omega) (by omega) aQ v2 (by omega);have k2 := auvMul (X := X) (SzU.con m.V 2) vrr (by omega) (by omega) (Int.le_of_eq (cc 2)) ur (by omega);have := auvSub (auvAdd un k1) k2
     have e : ((2 : Int).natAbs : Int) * (4096 * I) = 8192 * I := by rw [← Int.mul_assoc]; rfl
     omega
   ·simp only [List.mem_cons, List.not_mem_nil, or_false] at hl;subst hl;simp only [List.forall_mem_cons];exact ⟨by omega, by have := vl (m.at i).nx.toNat (by omega); omega, by simp⟩
 ·unfold hsF;simp only [List.forall_mem_cons];refine ⟨?_, by simp⟩;have k1 := auvL h ok hj;have k2 := auvR0 h ok hx hj;have k3 := auvDoes h ok 1 j;have := auvSub k1 (auvSub k2 k3);rw [q1] at this;omega
theorem fit_pow {v : Int} {e : Nat} (h : v.natAbs < 2 ^ e) (he : e ≤ 131072) : Fit v := by
 refine Fit.mk ?_;obtain ⟨E, hE⟩ : ∃ E, E = 32 * 4096 := ⟨_, rfl⟩;have h1 : 2 ^ e ≤ 2 ^ E := Nat.pow_le_pow_right (by omega) (by omega);rw [BB_pow, ← hE]
 have h2 : (2 : Int) ^ E = ((2 ^ E : Nat) : Int) := by rw [Int.natCast_pow]; rfl
 rw [h2];omega
theorem not_fit_pow {v : Int} {e : Nat} (h : 2 ^ e ≤ v.natAbs) (he : 131072 ≤ e) : ¬ Fit v := by
 intro hf;have hf := hf.lt;obtain ⟨E, hE⟩ : ∃ E, E = 32 * 4096 := ⟨_, rfl⟩;have h1 : 2 ^ E ≤ 2 ^ e := Nat.pow_le_pow_right (by omega) (by omega);rw [BB_pow, ← hE] at hf
 have h2 : (2 : Int) ^ E = ((2 ^ E : Nat) : Int) := by rw [Int.natCast_pow]; rfl
 rw [h2] at hf;omega
theorem hist_hb (ok : OkMZ m) (hx : OkIn m x) {s : Nat} {pl : Nat → Nat} {r : Nat → Nat → Nat} (hs : s ≤ 3000) (hr : ∀ t j, t ≤ s → r t j ≤ 4096) : HB m (histL m x s pl r) (2 * 2 ^ (s + (addZ m x).toNat) : Nat) (ds (2 * 2 ^ (s + (addZ m x).toNat)) (s + 1) fun _ => 1 : Nat) (2 ^ ((s + (addZ m x).toNat + 1) * (s + 1)) : Nat) := by
 obtain ⟨g0, g1, g2, g3, g4, g5⟩ := histL_get (m := m) (x := x) s pl r;obtain ⟨H, eH⟩ : ∃ H, H = 2 ^ (s + (addZ m x).toNat) := ⟨_, rfl⟩
 have hH : 1 ≤ H := by rw [eH]; exact Nat.one_le_two_pow
 have e := ds_ones (Q := 2 * H) (by omega) (s + 1)
 have eW : (2 * H) ^ (s + 1) = 2 ^ ((s + (addZ m x).toNat + 1) * (s + 1)) := by
  rw [eH, show 2 * 2 ^ (s + (addZ m x).toNat) = 2 ^ (s + (addZ m x).toNat + 1) by rw [Nat.pow_succ]; omega, ← Nat.pow_mul]
 rw [← eW, ← eH];rw [← eH] at g1 g2 g3 g4
 have i1 : 1 ≤ ds (2 * H) (s + 1) fun _ => 1 := by rw [ds]; omega
 refine ⟨histL_len _ _ _, histL_nn _ _ _, by omega, by omega, ?_, by rw [g0]; omega, by rw [g1]; omega, by rw [g2], fun i hi => ?_, fun j hj => ?_, fun j hj => ?_⟩
 ·have k : (2 * H - 1) * (ds (2 * H) (s + 1) fun _ => 1) = 2 * H * (ds (2 * H) (s + 1) fun _ => 1) - (ds (2 * H) (s + 1) fun _ => 1) := by rw [Nat.sub_mul, Nat.one_mul]
  have k2 : 2 * (ds (2 * H) (s + 1) fun _ => 1) ≤ 2 * H * (ds (2 * H) (s + 1) fun _ => 1) := Nat.mul_le_mul_right _ (by omega);rw [← Int.natCast_mul];omega
 ·rw [g3 i hi]
  have := ds_le (Q := 2 * H) (c := 1) (n := s + 1) (d := plD pl i) fun t _ => by unfold plD; split <;> omega
  omega
 ·rw [g4 j hj];have := ds_le (Q := 2 * H) (c := 4096) (n := s + 1) (d := fun t => r t j) fun t ht => hr t j (by omega);omega
 ·rw [g5 j hj];have := hr s j (Nat.le_refl _);omega
theorem hist_ev (ok : OkMZ m) (hx : OkIn m x) {s : Nat} {pl : Nat → Nat} {r : Nat → Nat → Nat} (hs : s ≤ 3000) (hr : ∀ t j, t ≤ s → r t j ≤ 4096) (hsz : (s + (addZ m x).toNat + 1) * (s + 1) ≤ 131032) : ∀ l ∈ (hsS m x).links, EvL (histL m x s pl r) l := by
 have hb := hist_hb (pl := pl) ok hx hs hr;have ha := hs_auv hb ok hx;have hsm := hsK_sm ok hx;intro l hl;obtain ⟨k, hk, rfl⟩ := List.mem_map.1 hl;have hV := ok.V32;refine evL_linkU hb.len (fun p hp u hu => ?_) fun p hp => ?_
 ·have q := ((hsm k hk).2.2 p hp).ex u hu;exact ⟨q.1, (ex_ok (d := 4) (by omega) q).2.2⟩
 ·have a1 := ha k hk p hp;have a2 := auv_nn (histL m x s pl r) p;refine fit_pow (e := (s + (addZ m x).toNat + 1) * (s + 1) + 17) ?_ (by omega)
  have : 2 ^ ((s + (addZ m x).toNat + 1) * (s + 1) + 17) = 131072 * 2 ^ ((s + (addZ m x).toNat + 1) * (s + 1)) := by
   rw [Nat.pow_add]; exact Nat.mul_comm _ _
  rw [this];have : 1 ≤ 2 ^ ((s + (addZ m x).toNat + 1) * (s + 1)) := Nat.one_le_two_pow;omega
end
end Go.AL
/- Validity of any many numbers. -/
namespace Go.Proofs.YtmmfloplhopioaaGreat
open Go.AL
theorem chValidB_ok (zs : List Z) (hz : ∀ z ∈ zs, WOk z.w) (hl : zs.length ≤ 9223372036854775807) : PureFn Tryz.prog 49 [.sl 2 eZ zs] (aB (decide (∀ z ∈ zs, OkZ z))) := by
 refine PureFn.of_body Tryz.func49 rfl Tryz.ntmps49 rfl rfl ?_;(repeat' (first |refine qv ?_ |apply qn |apply qs |apply qr |apply qb));refine AWP.loop (G := Nat) (fun i => i ≤ zs.length ∧ ∀ z ∈ zs.take i, OkZ z) (fun i => St.of [] [(5, .sl 2 eZ zs), (6, aN zs.length), (7, aN i)] []) (fun i => zs.length - i) 0 ⟨by omega, by simp⟩ ?_ ?_
 ·refine Ent.of [] ?_ ?_ rfl rfl;(repeat' (first |exact True.intro |refine ⟨⟨AV.Le.refl _, rfl⟩, ?_⟩|fail))
 ·intro i ⟨h0, h1⟩;(repeat' (first |refine qv ?_ |apply qn |apply qs |apply qr |refine qe ?_ |(refine AWP.condD rfl ?_ ?_ <;> intro _ <;> try (exfalso; omega)) |apply qb |apply qk |apply qx |apply qt |(refine Fl.el rfl rfl rfl rfl rfl rfl rfl rfl (by omega) (by omega) ?_; intro _ _)|fail))
  ·rename_i hi z hzi;rw [Int.toNat_natCast] at hzi;refine qc (Valid_ok z (hz z (List.mem_of_getElem? hzi))) ?_;(repeat' (first |refine qv ?_ |apply qn |apply qs |apply qr |refine qw ?_ |(refine AWP.condN rfl ?_ ?_ <;> intro _ <;> try (exfalso; omega)) |apply qk |apply qt))
   ·rename_i h2;refine RetOk.of rfl (AV.Le.bool (Eq.symm (decide_eq_false fun h => h2 (h z (List.mem_of_getElem? hzi)))))
   ·rename_i h2;refine LoopEnd.of (i + 1) ⟨by omega, all_take_succ hzi h1 h2⟩ (by omega) ?_;refine Ent.of [] ?_ ?_ rfl rfl;(repeat' (first |exact True.intro |refine ⟨⟨AV.Le.refl _, rfl⟩, ?_⟩|fail))
  ·refine RetOk.of rfl (AV.Le.bool (Eq.symm (decide_eq_true ?_)));rwa [show i = zs.length by omega, List.take_length] at h1
theorem chValidXB_ok (X : List Int) (hX : ∀ x ∈ X, Fit x) (hl : X.length ≤ 9223372036854775807) : PureFn Tryz.prog 49 [.sl 2 eX X] (aB true) := by
 refine (chValidB_ok (X.map zOf) (fun z hz => ?_) (by rw [List.length_map]; omega)).le (LeL.cons (AV.Le.slUnmap (enc := eZ) (f := zOf)) LeL.nil) (AV.Le.bool (decide_eq_true fun z hz => ?_))
 ·obtain ⟨x, _, rfl⟩ := List.mem_map.1 hz; exact toW_ok _
 ·obtain ⟨x, hx, rfl⟩ := List.mem_map.1 hz; exact okZ_zOf (hX x hx)
theorem chNaturalB_ok (X : List Int) (hl : X.length ≤ 9223372036854775807) : PureFn Tryz.prog 50 [.sl 2 eX X] (aB (decide (∀ x ∈ X, 0 ≤ x))) := by
 refine PureFn.of_body Tryz.func50 rfl Tryz.ntmps50 rfl rfl ?_;(repeat' (first |refine qv ?_ |apply qn |apply qs |apply qr |apply qb));refine AWP.loop (G := Nat) (fun i => i ≤ X.length ∧ ∀ z ∈ X.take i, 0 ≤ z) (fun i => St.of [] [(5, .sl 2 eX X), (6, aN X.length), (7, aN i)] []) (fun i => X.length - i) 0 ⟨by omega, by simp⟩ ?_ ?_
 ·refine Ent.of [] ?_ ?_ rfl rfl;(repeat' (first |exact True.intro |refine ⟨⟨AV.Le.refl _, rfl⟩, ?_⟩|fail))
 ·intro i ⟨h0, h1⟩;(repeat' (first |refine qv ?_ |apply qn |apply qs |apply qr |refine qw ?_ |refine qe ?_ |(refine AWP.condD rfl ?_ ?_ <;> intro _ <;> try (exfalso; omega)) |apply qb |apply qk |apply qx |apply qt |(refine Fl.el rfl rfl rfl rfl rfl rfl rfl rfl (by omega) (by omega) ?_; intro _ _)|fail))
  ·rename_i hi z hzi h2;rw [Int.toNat_natCast] at hzi;refine RetOk.of rfl (AV.Le.bool (Eq.symm (decide_eq_false fun h => ?_)));have := h z (List.mem_of_getElem? hzi);omega
  ·rename_i hi z hzi h2;rw [Int.toNat_natCast] at hzi;refine LoopEnd.of (i + 1) ⟨by omega, all_take_succ hzi h1 (by omega)⟩ (by omega) ?_;refine Ent.of [] ?_ ?_ rfl rfl;(repeat' (first |exact True.intro |refine ⟨⟨AV.Le.refl _, rfl⟩, ?_⟩|fail))
  ·refine RetOk.of rfl (AV.Le.bool (Eq.symm (decide_eq_true ?_)));rwa [show i = X.length by omega, List.take_length] at h1
theorem HoldsB_form (s : SZ) (zs : List Z) (hw : WS s) (hz : ∀ z ∈ zs, WOk z.w) (hl : zs.length ≤ 9223372036854775807) (h : ¬ (OkS s ∧ ∀ z ∈ zs, OkZ z)) : PureFn Tryz.prog 30 [aS s, .sl 2 eZ zs] (.tup [aB false, aN 1]) := by
 refine PureFn.of_body Tryz.func30 rfl Tryz.ntmps30 rfl rfl ?_;(repeat' (first |refine qv ?_ |apply qn |apply qs |apply qr |refine qe ?_|fail));by_cases hs : OkS s
 ·refine qc (sValid_ok s hw true ⟨fun _ => hs, fun _ => rfl⟩) ?_;(repeat' (first |refine qv ?_|fail));have hv := chValidB_ok zs hz hl;rw [decide_eq_false fun k => h ⟨hs, k⟩] at hv;refine qc (hv) ?_;(repeat' (first |refine qv ?_ |apply qn |apply qs |apply qr |refine AWP.condT rfl ?_ |apply qt));exact RetOk.of rfl (AV.Le.refl _)
 ·refine qc (sValid_ok s hw false ⟨fun k => (by cases k), fun k => absurd k hs⟩) ?_;(repeat' (first |refine qv ?_ |apply qn |apply qs |apply qr |refine Fl.skip rfl rfl ?_ |refine AWP.condT rfl ?_ |apply qt));exact RetOk.of rfl (AV.Le.refl _)
theorem HoldsB_arg (s : SZ) (X : List Int) (hw : WS s) (hs : OkS s) (hX : ∀ x ∈ X, Fit x) (hl : X.length ≤ 9223372036854775807) (h : ¬ ((X.length : Int) = s.vars ∧ ∀ x ∈ X, 0 ≤ x)) : PureFn Tryz.prog 30 [aS s, .sl 2 eX X] (.tup [aB false, aN 2]) := by
 refine PureFn.of_body Tryz.func30 rfl Tryz.ntmps30 rfl rfl ?_;(repeat' (first |refine qv ?_ |apply qn |apply qs |apply qr |refine qe ?_|fail));refine qc (sValid_ok s hw true ⟨fun _ => hs, fun _ => rfl⟩) ?_;(repeat' (first |refine qv ?_|fail));refine qc (chValidXB_ok X hX hl) ?_;(repeat' (first |refine qv ?_ |apply qn |apply qs |apply qr |refine Fl.skip rfl rfl ?_ |refine AWP.condT rfl ?_ |refine AWP.condF rfl ?_ |apply qk |apply qt |(refine Fl.splitN rfl rfl ?_ ?_ <;> intro _ <;> try (exfalso; omega))))
 ·exact RetOk.of rfl (AV.Le.refl _)
 ·rename_i hlen;have hv := chNaturalB_ok X hl;rw [decide_eq_false fun k => h ⟨hlen, k⟩] at hv;refine qc (hv) ?_;(repeat' (first |refine qv ?_ |apply qn |apply qs |apply qr |refine AWP.condT rfl ?_ |apply qt));exact RetOk.of rfl (AV.Le.refl _)
end Go.Proofs.YtmmfloplhopioaaGreat
/- history's encode. -/
namespace Go.AL
abbrev hL (m : MZ) (x : List Int) (s : Nat) : List Int := histL m x s (fun t => (m.mach.F (inF x) t).1) (fun t => (m.mach.F (inF x) t).2)
theorem getD_set {l : List Int} {i k : Nat} {v : Int} (hi : i < l.length) : (l.set i v).getD k 0 = if k = i then v else l.getD k 0 := by
 rw [List.getD_eq_getElem?_getD, List.getElem?_set];by_cases h : i = k
 ·subst h;rw [if_pos rfl, if_pos hi, if_pos rfl]; rfl
 ·rw [if_neg h, if_neg (fun e => h e.symm), List.getD_eq_getElem?_getD]
theorem ext_getD {a b : List Int} (h : a.length = b.length) (hk : ∀ k, k < a.length → a.getD k 0 = b.getD k 0) : a = b := by
 refine List.ext_getElem? fun i => ?_;by_cases hi : i < a.length
 ·have := hk i hi;rw [List.getD_eq_getElem?_getD, List.getD_eq_getElem?_getD, List.getElem?_eq_getElem hi, List.getElem?_eq_getElem (by omega)] at this;rw [List.getElem?_eq_getElem hi, List.getElem?_eq_getElem (by omega)];exact congrArg some this
 ·rw [List.getElem?_eq_none (by omega), List.getElem?_eq_none (by omega)]
theorem stL_map {m : MZ} {x : List Int} {n : Nat} {f : Int × List Int → Int} {d : Nat → Nat} (h : ∀ t, t < n → f (stF m x t) = ((d t : Nat) : Int)) : (stL m x n).map f = rgL n d := by
 unfold stL rgL;rw [List.map_map];exact List.map_congr_left fun t ht => h t (List.mem_range.1 ht)
end Go.AL
namespace Go.Proofs.YtmmfloplhopioaaGreat
open Go.AL
abbrev eB1 (h : Nat) (L : List (Int × List Int)) (xs : List Int) : List (AL.Id × Bx) := [(900, .cells [aN h] 3), (901, .cells [.sl 2 eSt L] 30), (902, .cells [.row 903] 33), (903, .row 2 eX xs 48)]
theorem put_ok (g : FuncId) (f : Int × List Int → Int) (n : Nat) (d : Nat → Nat) (h : Nat) (L : List (Int × List Int)) (xs : List Int) (i : Nat) (hi : i < xs.length) (hg : ∀ c, PureFn Tryz.prog g [aSt c.1 c.2] (aN (f c))) (hm : L.map f = rgL n d) (hh : h ≤ 200000) (hn : n ≤ 1000000) (hL : L.length ≤ 1000000) (hnb : n * (h + 1) ≤ 3000000) (hd : ∀ t, t < n → d t < 2 ^ 41 ∧ d t < 2 ^ (h + 1)) :
  IoFn Tryz.prog 90 ([aN i, .fn g []] ++ [.ptr 900 0, .ptr 901 0, .ptr 902 0]) (eB1 h L xs) (.ret (.tup [])) (eB1 h L (xs.set i ((ds (2 ^ (h + 1)) n d : Nat) : Int))) := by
 refine IoFn.of_body Tryz.func90 rfl Tryz.ntmps90 rfl rfl rfl ?_;have c1 := hColumn_ok g f L hL hg;rw [hm] at c1;have c2 := digits_ok (h + 1) n d (by omega) hn hnb hd;(repeat' (first |refine qv ?_ |apply qr |refine qw ?_|fail));refine qc (c1) ?_;skip;refine qc (c2) ?_;(repeat' (first |refine Fl.nil (fun _ => by kernel_rfl) ?_ |refine Fl.rel rfl rfl rfl rfl rfl rfl rfl rfl (by omega) (by first | omega | (simp; omega)) ?_ |refine Fl.rst rfl rfl rfl rfl rfl rfl rfl rfl rfl rfl rfl (LeL.refl _) rfl (by first | omega | (simp; omega)) ?_|fail));exact ⟨⟨[], _, _, Ent.refl _ _ _, rfl, AV.Le.refl _, rfl, ⟨⟨⟨_, rfl, BLe.cells (LeL.refl _)⟩, rfl⟩, ⟨⟨_, rfl, BLe.cells (LeL.refl _)⟩, rfl⟩, ⟨⟨_, rfl, BLe.cells (LeL.refl _)⟩, rfl⟩, ⟨⟨_, rfl, BLe.row rfl⟩, rfl⟩, trivial⟩, rfl, rfl⟩⟩
abbrev eB2 (i0 : Nat) (h : Nat) (L : List (Int × List Int)) (xs : List Int) : List (AL.Id × Bx) := eB1 h L xs ++ nB1 i0
theorem put1_ok (g : FuncId) (i0 : Nat) (f : Int × List Int → Int) (n : Nat) (d : Nat → Nat) (h : Nat) (L : List (Int × List Int)) (xs : List Int) (i : Nat) (hi : i < xs.length) (hg : ∀ c ∈ L, IoFn Tryz.prog g ([aSt c.1 c.2] ++ [.ptr 904 0]) (nB1 i0) (.ret (aN (f c))) (nB1 i0)) (hm : L.map f = rgL n d) (hh : h ≤ 200000) (hn : n ≤ 1000000) (hL : L.length ≤ 1000000) (hnb : n * (h + 1) ≤ 3000000) (hd : ∀ t, t < n → d t < 2 ^ 41 ∧ d t < 2 ^ (h + 1)) :
  IoFn Tryz.prog 90 ([aN i, .fn g [.ptr 904 0]] ++ [.ptr 900 0, .ptr 901 0, .ptr 902 0]) (eB2 i0 h L xs) (.ret (.tup [])) (eB2 i0 h L (xs.set i ((ds (2 ^ (h + 1)) n d : Nat) : Int))) := by
 refine IoFn.of_body Tryz.func90 rfl Tryz.ntmps90 rfl rfl rfl ?_;have c1 := hColumn1_ok g i0 f L hL hg;rw [hm] at c1;have c2 := digits_ok (h + 1) n d (by omega) hn hnb hd;(repeat' (first |refine qv ?_ |apply qr |refine qw ?_|fail));refine Fl.ioR rfl [] c1 rfl rfl (LeL.refl _) rfl ⟨⟨⟨_, rfl, BLe.cells (LeL.refl _)⟩, rfl⟩, trivial⟩ ⟨rfl, trivial⟩ rfl rfl rfl rfl ?_;skip;refine qc (c2) ?_;(repeat' (first |refine Fl.nil (fun _ => by kernel_rfl) ?_ |refine Fl.rel rfl rfl rfl rfl rfl rfl rfl rfl (by omega) (by first | omega | (simp; omega)) ?_ |refine Fl.rst rfl rfl rfl rfl rfl rfl rfl rfl rfl rfl rfl (LeL.refl _) rfl (by first | omega | (simp; omega)) ?_|fail));exact ⟨⟨[], _, _, Ent.refl _ _ _, rfl, AV.Le.refl _, rfl, ⟨⟨⟨_, rfl, BLe.cells (LeL.refl _)⟩, rfl⟩, ⟨⟨_, rfl, BLe.cells (LeL.refl _)⟩, rfl⟩, ⟨⟨_, rfl, BLe.cells (LeL.refl _)⟩, rfl⟩, ⟨⟨_, rfl, BLe.row rfl⟩, rfl⟩, ⟨⟨_, rfl, BLe.cells (LeL.refl _)⟩, rfl⟩, trivial⟩, rfl, rfl⟩⟩
theorem chValidH_ok (X : List Int) (hl : X.length ≤ 1000000000) (b : Bool) (hb : b = true ↔ ∀ y ∈ X, Fit y) : PureFn Tryz.prog 49 [.sl 2 eX X] (aB b) := by
 refine (chValid_ok (X.map zOf) (fun z hz => ?_) (by rw [List.length_map]; omega)).le (LeL.cons (AV.Le.slUnmap (enc := eZ) (f := zOf)) LeL.nil) (AV.Le.bool ?_)
 ·obtain ⟨x, hx, rfl⟩ := List.mem_map.1 hz; exact toW_ok _
 ·refine dec_of hb ⟨fun h y hy => ?_, fun h z hz => ?_⟩
  ·have := (okZ_eq (z := zOf y) (toW_ok _) (h _ (List.mem_map.2 ⟨y, hy, rfl⟩))).2;rwa [zval_zOf] at this
  ·obtain ⟨x, hx, rfl⟩ := List.mem_map.1 hz; exact okZ_zOf (h x hx)
set_option maxHeartbeats 2000000 in
theorem encode_ok (m : MZ) (hm : OkMZ m) (x : List Int) (hx : OkIn m x) (s : Nat) (hg1 : (s + (addZ m x).toNat + 1) * s + 1 ≤ 131072) (hg2 : s + (addZ m x).toNat + 1 ≤ 131072) (h1 : ∀ t, t < s → ¬ m.mach.Over (m.mach.F (inF x) t)) (b : Bool) (hb : b = true ↔ ∀ y ∈ hL m x s, Fit y) : PureFn Tryz.prog 46 [aSz m x, aN s] (.tup [.sl 2 eX (hL m x s), aB b]) := by
  refine PureFn.of_body Tryz.func46 rfl Tryz.ntmps46 rfl rfl ?_;obtain ⟨s1, s2, s3⟩ := addZ_b hm hx;have hV := hm.V32;have hVe : m.V = 3 + m.l + 2 * m.R := rfl;have hl15 : m.code.length ≤ 15 := hm.l15;have hll : m.l = m.code.length := rfl;have hr1 := hm.r1;have hr4 := hm.r4;have hRe := MZ.R_eq hm;have hst := hStates_ok m hm x hx s (by omega) h1;have hlt := Mach.F_lt hm.mach (inF x) h1
  have hbd : ∀ t j, t ≤ s → (m.mach.F (inF x) t).2 j ≤ 1000 + s := fun t j ht => by
    have := m.mach.F_le (x := inF x) j t;have := inF_le hx j;omega
  have hbdx : ∀ t j, t ≤ s → (m.mach.F (inF x) t).2 j ≤ inF x j + s := fun t j ht => by
    have := m.mach.F_le (x := inF x) j t;omega
  obtain ⟨a, ea⟩ : ∃ a : Nat, addZ m x = a := ⟨(addZ m x).toNat, by omega⟩;have ea' : (m.l : Int) + sumL x = a := ea
  have hin : ∀ j, j < m.R → inF x j ≤ a := fun j hj => by
    have := (in_le hm hx).2 j hj;rw [ea, Int.toNat_natCast] at this;exact this
  obtain ⟨g0, g1, g2, g3, g4, g5⟩ := histL_get (m := m) (x := x) s (fun t => (m.mach.F (inF x) t).1) (fun t => (m.mach.F (inF x) t).2);have hHl := histL_len (m := m) (x := x) s (fun t => (m.mach.F (inF x) t).1) (fun t => (m.mach.F (inF x) t).2);obtain ⟨H, eH⟩ : ∃ H, H = hL m x s := ⟨_, rfl⟩;unfold hL at eH;rw [← eH] at g0 g1 g2 g3 g4 g5 hHl;rw [ea, Int.toNat_natCast] at hg1 hg2 g1 g2 g3 g4;rw [show 2 * 2 ^ (s + a) = 2 ^ (s + a + 1) by rw [Nat.pow_succ]; omega] at g2 g3 g4;have hv := chValidH_ok H (by omega) b (by rw [eH]; exact hb);show AWP _ _ _ _ _ _
  have hres : (AV.tup [.sl 2 eX (hL m x s), aB b]) = .tup [.sl 2 eX H, aB b] := by rw [eH]
  rw [hres];rw [ea] at s1 s2
  have hp : ((s : Int) + (a : Int) + 1) * (s : Int) = (((s + a + 1) * s : Nat) : Int) := by rw [Int.natCast_mul]; rfl
  have hnb : (s + 1) * (s + a + 1) ≤ 3000000 := by rw [Nat.add_mul, Nat.one_mul, Nat.mul_comm s]; omega
  have hsz : aSz m x = .agg [aN m.regs, .sl 4 eIz m.code, aI x, aN m.V, aN (a : Int)] := by show AV.agg [_, _, _, _, aN (addZ m x)] = _; rw [ea]
  have cL : ∀ i : Nat, i ≤ 1000 → PureFn Tryz.prog 96 [.agg [aN m.regs, .sl 4 eIz m.code, aI x, aN m.V, aN (a : Int)], aN i] (aN ((3 + i : Nat) : Int)) := fun i hi => hsz ▸ szLine_ok m x i hi;have cR : ∀ i : Nat, i ≤ 1000 → PureFn Tryz.prog 98 [.agg [aN m.regs, .sl 4 eIz m.code, aI x, aN m.V, aN (a : Int)], aN i] (aN ((3 + m.l + i : Nat) : Int)) := fun i hi => hsz ▸ szReg_ok m x i (by omega) hi;have cE : ∀ i : Nat, i ≤ 1000 → PureFn Tryz.prog 100 [.agg [aN m.regs, .sl 4 eIz m.code, aI x, aN m.V, aN (a : Int)], aN i] (aN ((3 + m.l + m.R + i : Nat) : Int)) := fun i hi => hsz ▸ szEnd_ok m x i (by omega) (by omega) hr4 hi;rw [hsz] at hst ⊢;have hbig : ∀ v : Nat, v ≤ s + a → v < 2 ^ (s + a + 1) := fun v h => Nat.lt_of_lt_of_le (Nat.lt_of_le_of_lt h Nat.lt_two_pow_self) (Nat.pow_le_pow_right (by omega) (by omega))
  have h41 : ∀ v : Nat, v ≤ 1000000 → v < 2 ^ 41 := fun v h => by have : (1000000 : Nat) < 2 ^ 41 := by decide
                                                                  omega
  have hF2 : Fit ((2 : Int) ^ (s + a)) := by
    refine fit_pow (e := s + a + 1) ?_ hg2
    have : ((2 : Int) ^ (s + a)) = ((2 ^ (s + a) : Nat) : Int) := by rw [Int.natCast_pow]; rfl
    rw [this, Int.natAbs_natCast];exact Nat.pow_lt_pow_right (by omega) (by omega)
  have cP := Power_ok 2 ((s + a : Nat) : Int) (fit_pow (e := 2) (by decide) (by omega)) (by omega) (by omega);rw [Int.toNat_natCast, aR_fit hF2] at cP;have hlL := stL_len m x (s + 1);have hgetS : (stL m x (s + 1))[s]? = some (stF m x s) := stL_get (by omega)
  generalize hmu : (s + a + 1) * s = p at *
  refine AWP.seqS ?_;(repeat' (first |refine qv ?_ |apply qn |apply qr |refine qe ?_|fail));refine ⟨AWP.seqS ?_⟩;(repeat' (first |refine qv ?_ |apply qn |apply qr |refine qw ?_ |refine qe ?_|fail));refine ⟨AWP.seqS ?_⟩;(repeat' (first |refine qv ?_ |apply qn |apply qs |apply qr |refine qw ?_ |(refine AWP.condD rfl ?_ ?_ <;> intro _ <;> try (exfalso; omega)) |apply qk |(refine Fl.splitD rfl rfl ?_ ?_ <;> intro _ <;> try (exfalso; omega))));refine ⟨AWP.seqS ?_⟩;(repeat' (first |refine qv ?_ |apply qr));refine qc (hst) ?_;(repeat' (first |apply qn |refine qe ?_|fail));refine ⟨AWP.seqS ?_⟩;(repeat' (first |refine qv ?_ |apply qr));refine Fl.make rfl rfl rfl rfl rfl rfl rfl rfl rfl rfl eX 0 (by exact leX_zero (σ := []) rfl) (by rfl) (by omega) (by dsimp only; omega) (by omega) ?_;(repeat' (first |apply qn |refine qe ?_|fail));refine ⟨AWP.seqS ?_⟩;(repeat' (first |refine qv ?_ |apply qn |apply qr));refine ⟨AWP.seqS ?_⟩;(repeat' (first |refine qv ?_ |apply qr));refine qc (Of_ok s (by omega) (by omega)) ?_;(repeat' (first |refine Fl.nil (fun _ => by kernel_rfl) ?_ |refine Fl.rel rfl rfl rfl rfl rfl rfl rfl rfl (by omega) (by first | omega | (simp; omega)) ?_ |refine Fl.rst rfl rfl rfl rfl rfl rfl rfl rfl rfl rfl rfl (LeL.refl _) rfl (by first | omega | (simp; omega)) ?_|fail));refine ⟨AWP.seqS ?_⟩;(repeat' (first |refine qv ?_ |apply qr));refine qc (Of_ok 2 (by omega) (by omega)) ?_;(repeat' (first |refine qv ?_|fail));refine Fl.call rfl cP rfl rfl rfl (LeL.cons (AV.Le.refl _) (LeL.cons (AV.Le.int (by omega)) LeL.nil)) ?_;(repeat' (first |refine qv ?_ |refine Fl.nil (fun _ => by kernel_rfl) ?_ |refine Fl.rel rfl rfl rfl rfl rfl rfl rfl rfl (by omega) (by first | omega | (simp; omega)) ?_ |refine Fl.rst rfl rfl rfl rfl rfl rfl rfl rfl rfl rfl rfl (LeL.refl _) rfl (by first | omega | (simp; omega)) ?_|fail));refine ⟨AWP.seqS ?_⟩;(repeat' (first |refine qv ?_ |apply qr));have hnb2 : (s + 1) * (s + a + 1) ≤ 3000000 := hnb;have d1 : ∀ t, t < s + 1 → (fun _ => 1 : Nat → Nat) t < 2 ^ 41 ∧ (fun _ => 1 : Nat → Nat) t < 2 ^ (s + a + 1) := fun t _ => ⟨h41 1 (by omega), hbig 1 (by omega)⟩;refine Fl.ioV rfl rfl [(900, 6), (901, 7), (902, 8), (903, 32)] (put_ok 95 (fun _ => 1) (s + 1) (fun _ => 1) (s + a) (stL m x (s + 1)) _ 2 (by simp; omega) tell2_ok (stL_map fun _ _ => rfl) (by omega) (by omega) (by omega) hnb2 d1) rfl rfl (LeL.refl _) rfl ⟨⟨⟨_, rfl, BLe.cells (LeL.refl _)⟩, rfl⟩, ⟨⟨_, rfl, BLe.cells (LeL.refl _)⟩, rfl⟩, ⟨⟨_, rfl, BLe.cells (LeL.refl _)⟩, rfl⟩, ⟨⟨_, rfl, BLe.row rfl⟩, rfl⟩, trivial⟩ rfl rfl rfl rfl rfl ?_;(repeat' (first |apply qn));refine ⟨AWP.seqS ?_⟩;(repeat' (first |refine qv ?_ |apply qn |apply qs |apply qr |apply qb));refine AWP.loop (G := Nat × List Int) (fun (i, xs) => i ≤ m.l ∧ xs.length = m.V ∧ ∀ k, k < 3 + i → xs.getD k 0 = H.getD k 0) (fun (i, xs) => St.of [] [(1, aN s), (2, .ptr 2 0), (6, .ptr 6 0), (7, .ptr 7 0), (8, .ptr 8 0), (9, .fn 90 [.ptr 6 0, .ptr 7 0, .ptr 8 0]), (51, aN m.l), (52, aN i)] [(2, .cells [aN m.regs, .sl 4 eIz m.code, aI x, aN m.V, aN (a : Int)] 82), (6, .cells [aN (s + a : Nat)] 3), (7, .cells [.sl 2 eSt (stL m x (s + 1))] 30), (8, .cells [.row 801] 33), (801, .row 2 eX xs 48)]) (fun (i, _) => m.l - i) (0, ((((List.replicate m.V 0).set 0 (s : Int)).set 1 ((2 : Int) ^ (s + a))).set 2 ((ds (2 ^ (s + a + 1)) (s + 1) (fun _ => 1) : Nat) : Int))) ⟨by omega, by simp, fun k hk => ?_⟩ ?_ ?_
  · rw [getD_set (by simp; omega), getD_set (by simp; omega), getD_set (by simp; omega)];rcases (show k = 0 ∨ k = 1 ∨ k = 2 by omega) with rfl | rfl | rfl
    · rw [g0]; rfl
    · rw [g1, Int.natCast_pow]; rfl
    · rw [g2]; rfl
  · refine Ent.of [(801, 32)] ?_ ?_ rfl rfl;(repeat' (first |exact True.intro |refine ⟨⟨AV.Le.refl _, rfl⟩, ?_⟩ |refine ⟨⟨⟨_, rfl, BLe.cells (LeL.refl _)⟩, rfl⟩, ?_⟩ |refine ⟨⟨⟨_, rfl, BLe.row rfl⟩, rfl⟩, ?_⟩|fail))
  · intro ⟨i, xs⟩ ⟨k0, k1, k2⟩;(repeat' (first |refine qv ?_ |apply qn |apply qs |apply qr |refine qe ?_ |(refine AWP.condD rfl ?_ ?_ <;> intro _ <;> try (exfalso; omega)) |apply qb |apply qk |apply qx))
    · rename_i hi;refine qc (cL i (by omega)) ?_;(repeat' (first |refine qv ?_|fail))
      have dl : ∀ t, t < s + 1 → plD (fun t => (m.mach.F (inF x) t).1) i t < 2 ^ 41 ∧ plD (fun t => (m.mach.F (inF x) t).1) i t < 2 ^ (s + a + 1) := fun t _ => by
        have : plD (fun t => (m.mach.F (inF x) t).1) i t ≤ 1 := by unfold plD; split <;> omega
        exact ⟨h41 _ (by omega), hbig _ (by omega)⟩
      refine Fl.ioV rfl rfl [(900, 6), (901, 7), (902, 8), (903, 801), (904, 10)] (put1_ok 97 i (fun c => if c.1 = i then 1 else 0) (s + 1) (plD (fun t => (m.mach.F (inF x) t).1) i) (s + a) (stL m x (s + 1)) xs (3 + i) (by omega) (fun c _ => tell3_ok i c) (stL_map fun t _ => by unfold stF plD; simp only; split <;> split <;> omega) (by omega) (by omega) (by omega) hnb2 dl) rfl rfl (LeL.refl _) rfl ⟨⟨⟨_, rfl, BLe.cells (LeL.refl _)⟩, rfl⟩, ⟨⟨_, rfl, BLe.cells (LeL.refl _)⟩, rfl⟩, ⟨⟨_, rfl, BLe.cells (LeL.refl _)⟩, rfl⟩, ⟨⟨_, rfl, BLe.row rfl⟩, rfl⟩, ⟨⟨_, rfl, BLe.cells (LeL.refl _)⟩, rfl⟩, trivial⟩ rfl rfl rfl rfl rfl ?_;(repeat' (first |refine qv ?_ |apply qn |apply qr |refine qw ?_|fail));refine LoopEnd.of (i + 1, xs.set (3 + i) ((ds (2 ^ (s + a + 1)) (s + 1) (plD (fun t => (m.mach.F (inF x) t).1) i) : Nat) : Int)) ⟨by omega, by rw [List.length_set]; exact k1, fun k hk => ?_⟩ (by simp only; omega) ?_
      · rw [getD_set (by omega)];split
        · rename_i h; subst h; rw [g3 i (by omega)]
        · exact k2 k (by omega)
      · refine Ent.of [] ?_ ?_ rfl rfl;(repeat' (first |exact True.intro |refine ⟨⟨AV.Le.refl _, rfl⟩, ?_⟩ |refine ⟨⟨⟨_, rfl, BLe.cells (LeL.refl _)⟩, rfl⟩, ?_⟩ |refine ⟨⟨⟨_, rfl, BLe.row rfl⟩, rfl⟩, ?_⟩|fail))
    · rename_i hi
      have hi : i = m.l := by omega
      subst hi;refine ⟨AWP.seqS ?_⟩;(repeat' (first |refine qv ?_ |apply qn |apply qs |apply qr |apply qb));refine AWP.loop (G := Nat × List Int) (fun (j, xs) => j ≤ m.R ∧ xs.length = m.V ∧ ∀ k, k < 3 + m.l + j ∨ (3 + m.l + m.R ≤ k ∧ k < 3 + m.l + m.R + j) → xs.getD k 0 = H.getD k 0) (fun (j, xs) => St.of [] [(1, aN s), (2, .ptr 2 0), (6, .ptr 6 0), (7, .ptr 7 0), (8, .ptr 8 0), (9, .fn 90 [.ptr 6 0, .ptr 7 0, .ptr 8 0]), (64, aN m.R), (65, aN j)] [(2, .cells [aN m.regs, .sl 4 eIz m.code, aI x, aN m.V, aN (a : Int)] 82), (6, .cells [aN (s + a : Nat)] 3), (7, .cells [.sl 2 eSt (stL m x (s + 1))] 30), (8, .cells [.row 801] 33), (801, .row 2 eX xs 48)]) (fun (j, _) => m.R - j) (0, xs) ⟨by omega, k1, fun k hk => k2 k (by omega)⟩ ?_ ?_
      · refine Ent.of [] ?_ ?_ rfl rfl;(repeat' (first |exact True.intro |refine ⟨⟨AV.Le.refl _, rfl⟩, ?_⟩ |refine ⟨⟨⟨_, rfl, BLe.cells (LeL.refl _)⟩, rfl⟩, ?_⟩ |refine ⟨⟨⟨_, rfl, BLe.row rfl⟩, rfl⟩, ?_⟩ |refine ⟨⟨AV.Le.int ?_, rfl⟩, ?_⟩|fail))
        all_goals omega
      · intro ⟨j, xs⟩ ⟨k0, k1, k2⟩;(repeat' (first |refine qv ?_ |apply qn |apply qs |apply qr |refine qe ?_ |(refine AWP.condD rfl ?_ ?_ <;> intro _ <;> try (exfalso; omega)) |apply qb |apply qk |apply qx))
        · rename_i hj;refine qc (cR j (by omega)) ?_;(repeat' (first |refine qv ?_|fail))
          have hjR : j < m.R := by omega
          have dr : ∀ t, t < s + 1 → (fun t => (m.mach.F (inF x) t).2 j) t < 2 ^ 41 ∧ (fun t => (m.mach.F (inF x) t).2 j) t < 2 ^ (s + a + 1) := fun t ht => by
            have e1 := hbd t j (by omega);have e2 := hbdx t j (by omega);have e3 := hin j hjR;show (m.mach.F (inF x) t).2 j < _ ∧ (m.mach.F (inF x) t).2 j < _;exact ⟨h41 _ (by omega), hbig _ (by omega)⟩
          have tell : ∀ c ∈ stL m x (s + 1), IoFn Tryz.prog 99 ([aSt c.1 c.2] ++ [.ptr 904 0]) (nB1 j) (.ret (aN (c.2.getD j 0))) (nB1 j) := fun c hc => by
            unfold stL at hc;obtain ⟨t, _, rfl⟩ := List.mem_map.1 hc;refine tell4_ok j _ _ ?_;rw [Int.toNat_natCast, List.getD_eq_getElem?_getD];have := rgL_get (f := (m.mach.F (inF x) t).2) hjR;unfold stF;rw [this]; rfl
          refine Fl.ioV rfl rfl [(900, 6), (901, 7), (902, 8), (903, 801), (904, 11)] (put1_ok 99 j (fun c => c.2.getD j 0) (s + 1) (fun t => (m.mach.F (inF x) t).2 j) (s + a) (stL m x (s + 1)) xs (3 + m.l + j) (by omega) tell (stL_map fun t _ => by unfold stF; simp only; rw [List.getD_eq_getElem?_getD, rgL_get hjR]; rfl) (by omega) (by omega) (by omega) hnb2 dr) rfl rfl (LeL.refl _) rfl ⟨⟨⟨_, rfl, BLe.cells (LeL.refl _)⟩, rfl⟩, ⟨⟨_, rfl, BLe.cells (LeL.refl _)⟩, rfl⟩, ⟨⟨_, rfl, BLe.cells (LeL.refl _)⟩, rfl⟩, ⟨⟨_, rfl, BLe.row rfl⟩, rfl⟩, ⟨⟨_, rfl, BLe.cells (LeL.refl _)⟩, rfl⟩, trivial⟩ rfl rfl rfl rfl rfl ?_
          have hgS : (stL m x (s + 1))[Int.toNat (s : Int)]? = some (stF m x s) := by rw [Int.toNat_natCast]; exact hgetS
          have hgR : (stF m x s).2[Int.toNat (j : Int)]? = some (((m.mach.F (inF x) s).2 j : Nat) : Int) := by rw [Int.toNat_natCast]; exact rgL_get hjR
          have hgRl : ((stF m x s).2.length : Int) = m.R := by show ((rgL _ _).length : Int) = _; rw [rgL_len]
          have hre := hbd s j (Nat.le_refl _);(repeat' (first |refine qv ?_ |apply qn |apply qr));refine qc (cE j (by omega)) ?_;(repeat' (first |refine qv ?_ |refine qK ?_|fail));refine qc (Of_ok (((m.mach.F (inF x) s).2 j : Nat) : Int) (by omega) (by omega)) ?_;(repeat' (first |refine qv ?_ |apply qn |refine Fl.nil (fun _ => by kernel_rfl) ?_ |apply qr |refine qw ?_ |refine Fl.rel rfl rfl rfl rfl rfl rfl rfl rfl (by omega) (by first | omega | (simp; omega)) ?_ |refine Fl.rst rfl rfl rfl rfl rfl rfl rfl rfl rfl rfl rfl (LeL.refl _) rfl (by first | omega | (simp; omega)) ?_|fail));refine LoopEnd.of (j + 1, (xs.set (3 + m.l + j) ((ds (2 ^ (s + a + 1)) (s + 1) (fun t => (m.mach.F (inF x) t).2 j) : Nat) : Int)).set (3 + m.l + m.R + j) (((m.mach.F (inF x) s).2 j : Nat) : Int)) ⟨by omega, by rw [List.length_set, List.length_set]; exact k1, fun k hk => ?_⟩ (by simp only; omega) ?_
          · rw [getD_set (by rw [List.length_set]; omega)];split
            · rename_i h; subst h; rw [g5 j hjR]
            · rw [getD_set (by omega)];split
              · rename_i h; subst h; rw [g4 j hjR]
              · exact k2 k (by omega)
          · refine Ent.of [] ?_ ?_ rfl rfl;(repeat' (first |exact True.intro |refine ⟨⟨AV.Le.refl _, rfl⟩, ?_⟩ |refine ⟨⟨⟨_, rfl, BLe.cells (LeL.refl _)⟩, rfl⟩, ?_⟩ |refine ⟨⟨⟨_, rfl, BLe.row rfl⟩, rfl⟩, ?_⟩|fail))
        · rename_i hj
          have hj : j = m.R := by omega
          subst hj;have hxH : xs = H := ext_getD (by omega) fun k hk => k2 k (by omega);rw [hxH];refine ⟨?_⟩;refine AWP.ent (Ent.freeze 801 rfl) ?_;(repeat' (first |refine qv ?_ |apply qs |apply qr));refine qc (hv) ?_;(repeat' (first |refine qv ?_ |refine Fl.nil (fun _ => by kernel_rfl) ?_ |apply qt));exact RetOk.of rfl (AV.Le.refl _)
end Go.Proofs.YtmmfloplhopioaaGreat
/- mask: the links' meaning; what they need to be evaluated. -/
namespace Go.AL
end Go.AL
namespace Go.Proofs.YtmmfloplhopioaaGreat
open Go.AL
theorem holdsR_all {f g : LZ → Bool} : ∀ {ls : List LZ}, (∀ l ∈ ls, f l = true ∧ g l = true) → holdsR f g ls = (true, 0)
 | [], _ => rfl
 | l :: ls, h => by
  obtain ⟨h1, h2⟩ := h l (by simp);rw [holdsR, if_pos h1, if_pos h2];exact holdsR_all fun x hx => h x (by simp [hx])
theorem holdsR_true {f g : LZ → Bool} : ∀ {ls : List LZ}, (holdsR f g ls).1 = true → ∀ l ∈ ls, f l = true ∧ g l = true
 | [], _, l, hl => by cases hl
 | x :: ls, h, l, hl => by
  rw [holdsR] at h;split at h
  ·rename_i h1;split at h
   ·rename_i h2;rcases List.mem_cons.1 hl with rfl | hl
    ·exact ⟨h1, h2⟩
    ·exact holdsR_true h l hl
   ·cases h
  ·cases h
theorem Holds_yes (s : SZ) (X : List Int) (hw : WS s) (hs : OkS s) (hX : ∀ x ∈ X, Fit x) (hlen : (X.length : Int) = s.vars) (hnat : ∀ x ∈ X, 0 ≤ x) (he : ∀ l ∈ s.links, EvL X l) (hh : ∀ l ∈ s.links, HoL X l) : PureFn Tryz.prog 30 [aS s, .sl 2 eX X] (.tup [aB true, aN 0]) := by
 obtain ⟨f, hf⟩ := boolOf (EvL X);obtain ⟨g, hg⟩ := boolOf (HoL X);have := Holds_ok s X hw hs hX hlen hnat f g hf hg;rw [holdsR_all fun l hl => ⟨(hf l).2 (he l hl), (hg l).2 (hh l hl)⟩] at this;exact this
theorem Holds_gen (s : SZ) (zs : List Z) (hw : WS s) (hs : OkS s) (hz : ∀ z ∈ zs, WOk z.w) (hl : zs.length ≤ 9223372036854775807) : ∃ (b : Bool) (e : Int), PureFn Tryz.prog 30 [aS s, .sl 2 eZ zs] (.tup [aB b, aN e]) ∧
  (b = true → ∃ X : List Int, zs = X.map zOf ∧ (∀ x ∈ X, Fit x) ∧ (X.length : Int) = s.vars ∧ (∀ x ∈ X, 0 ≤ x) ∧ ∀ l ∈ s.links, HoL X l) := by
 by_cases ho : ∀ z ∈ zs, OkZ z
 ·obtain ⟨X, hX, hXf⟩ : ∃ X : List Int, zs = X.map zOf ∧ ∀ x ∈ X, Fit x := by
   refine ⟨zs.map zval, ?_, fun x hx => ?_⟩
   ·rw [List.map_map]
    conv => lhs; rw [← List.map_id zs]
    exact List.map_congr_left fun z hzz => (okZ_eq (hz z hzz) (ho z hzz)).1
   ·obtain ⟨z, hzz, rfl⟩ := List.mem_map.1 hx;exact (okZ_eq (hz z hzz) (ho z hzz)).2
  have hXl : X.length ≤ 9223372036854775807 := by rw [hX, List.length_map] at hl; exact hl
  have up : ∀ {r : AV}, PureFn Tryz.prog 30 [aS s, .sl 2 eX X] r → PureFn Tryz.prog 30 [aS s, .sl 2 eZ zs] r := fun h => by
   rw [hX];exact h.le (LeL.cons (AV.Le.refl _) (LeL.cons AV.Le.slMap LeL.nil)) (AV.Le.refl _)
  by_cases ha : (X.length : Int) = s.vars ∧ ∀ x ∈ X, 0 ≤ x
  ·obtain ⟨f, hf⟩ := boolOf (EvL X);obtain ⟨g, hg⟩ := boolOf (HoL X);refine ⟨_, _, up (Holds_ok s X hw hs hXf ha.1 ha.2 f g hf hg), fun hb => ⟨X, hX, hXf, ha.1, ha.2, fun l hl => (hg l).1 (holdsR_true hb l hl).2⟩⟩
  ·exact ⟨false, 2, up (HoldsB_arg s X hw hs hXf hXl ha), fun h => by cases h⟩
 ·exact ⟨false, 1, HoldsB_form s zs hw hz hl fun h => ho h.2, fun h => by cases h⟩
end Go.Proofs.YtmmfloplhopioaaGreat
/- history.Encode, Decode. -/
namespace Go.AL
structure RunTo (m : MZ) (x : List Int) (n k : Nat) : Prop where
  le : k ≤ n
  go : ∀ t, t < k → ¬ m.mach.Over (m.mach.F (inF x) t)
  stop : k = n ∨ m.mach.Over (m.mach.F (inF x) k)
end Go.AL
namespace Go.Proofs.YtmmfloplhopioaaGreat
open Go.AL
abbrev nilV : AV := .v (.slice none 0 0)
theorem hEncode_ev (m : MZ) (hm : OkMZ m) (x : List Int) (hx : OkIn m x) (n k : Nat) (hn : n ≤ 1000000) (hk : RunTo m x n k) (ho : m.mach.op (m.mach.F (inF x) k).1 = 3) (hE : PureFn Tryz.prog 46 [aSz m x, aN k] (.tup [.sl 2 eX (hL m x k), aB true])) (b : Bool) (e : Int) (hH : PureFn Tryz.prog 30 [aS (hsS m x), .sl 2 eX (hL m x k)] (.tup [aB b, aN e])) : PureFn Tryz.prog 13 [aMz m, aI x, aN n] (if e = 0 then .tup [.sl 2 eX (hL m x k), aN 0] else .tup [nilV, aN 4]) := by
 refine PureFn.of_body Tryz.func13 rfl Tryz.ntmps13 rfl rfl ?_;have h1 := sizesOf_ok m x hm hx;have h2 := rgHalts_ok m hm x hx n k hn hk.le hk.go hk.stop;rw [if_pos ho] at h2;have h3 := hsSystem_ok m x hm hx
 generalize hL m x k = H at *
 (repeat' (first |refine qv ?_ |apply qn |apply qs |apply qr |refine qe ?_|fail));refine qc (h1) ?_;(repeat' (first |refine qv ?_ |apply qn |apply qs |apply qr |refine qe ?_ |refine AWP.condF rfl ?_ |apply qk));refine qc (h2) ?_;(repeat' (first |refine qv ?_ |apply qn |apply qs |apply qr |refine AWP.condF rfl ?_ |apply qk));refine qc (hE) ?_;(repeat' (first |refine qv ?_ |apply qn |apply qs |apply qr |refine AWP.condF rfl ?_ |apply qk));refine qc (h3) ?_;(repeat' (first |refine qv ?_|fail));refine qc (hH) ?_;(repeat' (first |refine qv ?_ |apply qn |apply qs |apply qr |(refine AWP.condN rfl ?_ ?_ <;> intro _ <;> try (exfalso; omega)) |apply qk |apply qt))
 ·rename_i h;rw [if_neg h];exact RetOk.of rfl (AV.Le.refl _)
 ·rename_i h;rw [if_pos h];exact RetOk.of rfl (AV.Le.refl _)
end Go.Proofs.YtmmfloplhopioaaGreat
/- Strings: length, a byte, a part, the sum, equality. -/
namespace Go.AL
abbrev sV (l : List UInt8) : AV := .v (.string (ByteArray.mk l.toArray))
theorem sV_size (l : List UInt8) : (ByteArray.mk l.toArray).size = l.length := by simp [ByteArray.size]
section
variable {P : Program} {tab : Tab} {n : Nat} {s : St}
variable {ops : Array Oper} {draw : Dr} {o : Oper} {l : List Oper} {acc : List Eff} {K : Exit → St → Prop}
theorem OpJ.sLen (ht : TabOk P tab) (hd : ∀ d, o.dst = some d → d < n) {x : Operand} {t : TypeId} (hop : o.op = .call { callee := .builtin .len, args := ⟨[x]⟩, argTypes := ⟨[t]⟩ }) {sz by' : Nat} {z : List Value} (hts : tab t = some ⟨.string, sz, by', z⟩) {bs : List UInt8} (hx : opd s x = sV bs) : OpJ P n o s ⟨.v (.int .i64 bs.length), [], [], [], []⟩ := by
 refine OpJ.of_run hd fun C s' a w h β ho _ b => ?_;have hxr := opd_rep b x;rw [ho x (by simp [hop, Op.operands, Call.operands]), hx] at hxr;simp only [Rep] at hxr;have hu := (ht _ _ hts).und;simp only at hu;refine ⟨.int .i64 (ByteArray.mk bs.toArray).size, ?_, by simp only [Rep]; rw [sV_size]⟩;simp [execOp, hop, resolve, invoke, builtin, Builtin.len_, hxr, run_underlying hu, goInt]
theorem Fl.sLen [f : Facts P tab] {x : Operand} {t : TypeId} (hop : o.op = .call { callee := .builtin .len, args := ⟨[x]⟩, argTypes := ⟨[t]⟩ }) {sz by' : Nat} {z : List Value} (hts : tab t = some ⟨.string, sz, by', z⟩) {bs : List UInt8} (hx : opd s x = sV bs) (hg : gOk ops s o = true) (hd : dOk n o.dst = true)
  (r : Fl P n ops draw l ((Eff.mk (.v (.int .i64 bs.length)) [] [] [] []).app o.dst s) (Eff.mk (.v (.int .i64 bs.length)) [] [] [] [] :: acc) K) : Fl P n ops draw (o :: l) s acc K :=
 Fl.opv hg (OpJ.sLen f.tabOk (dOk_lt hd) hop hts hx) r
theorem OpJ.sIdx (ht : TabOk P tab) (hd : ∀ d, o.dst = some d → d < n) {t : TypeId} {x y : Operand} (hop : o.op = .index t x y) {sz by' : Nat} {z : List Value} (hts : tab t = some ⟨.string, sz, by', z⟩) {bs : List UInt8} (hx : opd s x = sV bs) {k : IntKind} {m : Int} (hy : opd s y = .v (.int k m)) (h0 : 0 ≤ m) {c : UInt8} (hc : bs[m.toNat]? = some c) : OpJ P n o s ⟨.v (.int .u8 c.toNat), [], [], [], []⟩ := by
 refine OpJ.of_run hd fun C s' a w h β ho _ b => ?_;have hxr := opd_rep b x;have hyr := opd_rep b y;rw [ho x (by simp [hop, Op.operands]), hx] at hxr;rw [ho y (by simp [hop, Op.operands]), hy] at hyr;simp only [Rep] at hxr hyr;have hu := (ht _ _ hts).und;simp only at hu;obtain ⟨h1, h2⟩ := List.getElem?_eq_some_iff.1 hc
 have hget : (ByteArray.mk bs.toArray)[m.toNat]? = some c := by
  rw [ByteArray.getElem?_lt' _ _ (by rw [sV_size]; exact h1)];exact congrArg some h2
 refine ⟨.int .u8 c.toNat, ?_, by simp only [Rep]⟩;simp only [execOp, hop, hxr, hyr, Instr.index, asIntOf, Sem.run_bind, Sem.run_pure, Result.andThen, run_underlying hu];rw [if_pos h0, hget];simp only [Sem.run_pure]
theorem Fl.sIdx [f : Facts P tab] {t : TypeId} {x y : Operand} (hop : o.op = .index t x y) {sz by' : Nat} {z : List Value} (hts : tab t = some ⟨.string, sz, by', z⟩) {bs : List UInt8} (hx : opd s x = sV bs) {k : IntKind} {m : Int} (hy : opd s y = .v (.int k m)) (hg : gOk ops s o = true) (hd : dOk n o.dst = true) {c : UInt8} (hc : bs[m.toNat]? = some c) (h0 : 0 ≤ m)
  (r : Fl P n ops draw l ((Eff.mk (.v (.int .u8 c.toNat)) [] [] [] []).app o.dst s) (Eff.mk (.v (.int .u8 c.toNat)) [] [] [] [] :: acc) K) : Fl P n ops draw (o :: l) s acc K :=
 Fl.opv hg (OpJ.sIdx f.tabOk (dOk_lt hd) hop hts hx hy h0 hc) r
theorem OpJ.sSub (ht : TabOk P tab) (hd : ∀ d, o.dst = some d → d < n) {t : TypeId} {x y z : Operand} (hop : o.op = .slice t x (some y) (some z) none) {sz by' : Nat} {zs : List Value} (hts : tab t = some ⟨.string, sz, by', zs⟩) {bs : List UInt8} (hx : opd s x = sV bs) {k k' : IntKind} {m m' : Int} (hy : opd s y = .v (.int k m)) (hz : opd s z = .v (.int k' m')) (h0 : 0 ≤ m) (h1 : m ≤ m') (h2 : m' ≤ bs.length) : OpJ P n o s ⟨sV ((bs.drop m.toNat).take (m'.toNat - m.toNat)), [], [], [], []⟩ := by
 refine OpJ.of_run hd fun C s' a w h β ho _ b => ?_;have hxr := opd_rep b x;have hyr := opd_rep b y;have hzr := opd_rep b z;rw [ho x (by simp [hop, Op.operands]), hx] at hxr;rw [ho y (by simp [hop, Op.operands]), hy] at hyr;rw [ho z (by simp [hop, Op.operands]), hz] at hzr;simp only [Rep] at hxr hyr hzr;have hu := (ht _ _ hts).und;simp only at hu;have b1 := run_sliceBound (P := P) w k' m' (ByteArray.mk bs.toArray).size .sliceAlen (by omega) (by rw [sV_size]; omega);have b2 := run_sliceBound (P := P) w k m m'.toNat .sliceB h0 (by omega);refine ⟨.string ((ByteArray.mk bs.toArray).extract m.toNat m'.toNat), ?_, by simp only [Rep]; rw [ByteArray.extract_mk]⟩;simp only [execOp, hop, hxr, hyr, hzr, Option.map_some, Option.map_none, Instr.sliceAt, Sem.run_bind, run_underlying hu, Result.andThen, Instr.slice, Instr.sliceBounds, Sem.run_pure, b1, b2, Option.isSome_none, Bool.false_eq_true, if_false]
theorem Fl.sSub [f : Facts P tab] {t : TypeId} {x y z : Operand} (hop : o.op = .slice t x (some y) (some z) none) {sz by' : Nat} {zs : List Value} (hts : tab t = some ⟨.string, sz, by', zs⟩) {bs : List UInt8} (hx : opd s x = sV bs) {k k' : IntKind} {m m' : Int} (hy : opd s y = .v (.int k m)) (hz : opd s z = .v (.int k' m')) (hg : gOk ops s o = true) (hd : dOk n o.dst = true) {cs : List UInt8} (hcs : (bs.drop m.toNat).take (m'.toNat - m.toNat) = cs) (h0 : 0 ≤ m) (h1 : m ≤ m') (h2 : m' ≤ bs.length)
  (r : Fl P n ops draw l ((Eff.mk (sV cs) [] [] [] []).app o.dst s) (Eff.mk (sV cs) [] [] [] [] :: acc) K) : Fl P n ops draw (o :: l) s acc K := by
 subst hcs;exact Fl.opv hg (OpJ.sSub f.tabOk (dOk_lt hd) hop hts hx hy hz h0 h1 h2) r
theorem OpJ.sCat (hd : ∀ d, o.dst = some d → d < n) {t t' : TypeId} {x y : Operand} (hop : o.op = .binOp .add t x y t') {us bs : List UInt8} (hx : opd s x = sV us) (hy : opd s y = sV bs) (h : us.length + bs.length ≤ 9223372036854775807) : OpJ P n o s ⟨sV (us ++ bs), [], [], [], []⟩ := by
 refine OpJ.of_run hd fun C s' a w h' β ho _ b => ?_;have hxr := opd_rep b x;have hyr := opd_rep b y;rw [ho x (by simp [hop, Op.operands]), hx] at hxr;rw [ho y (by simp [hop, Op.operands]), hy] at hyr;simp only [Rep] at hxr hyr;refine ⟨.string (ByteArray.mk us.toArray ++ ByteArray.mk bs.toArray), ?_, by simp only [Rep]; rw [ByteArray.mk_append_mk]⟩;have := run_string_add_sum (P := P) (w := w) (ByteArray.mk us.toArray) (ByteArray.mk bs.toArray) (by rw [sV_size, sV_size]; exact h);simp [execOp, hop, hxr, hyr, eqGuard, binOp, this]
theorem Fl.sCat [Facts P tab] {t t' : TypeId} {x y : Operand} (hop : o.op = .binOp .add t x y t') {us bs : List UInt8} (hx : opd s x = sV us) (hy : opd s y = sV bs) (hg : gOk ops s o = true) (hd : dOk n o.dst = true) {cs : List UInt8} (hcs : us ++ bs = cs) (h : cs.length ≤ 9223372036854775807)
  (r : Fl P n ops draw l ((Eff.mk (sV cs) [] [] [] []).app o.dst s) (Eff.mk (sV cs) [] [] [] [] :: acc) K) : Fl P n ops draw (o :: l) s acc K := by
 subst hcs;exact Fl.opv hg (OpJ.sCat (dOk_lt hd) hop hx hy (by rw [List.length_append] at h; exact h)) r
end
end Go.AL
/- The reference's Valid, Input; the law's wide, code. -/
namespace Go.AL
section
variable {P : Program} {tab : Tab} {n : Nat} {s : St}
variable {ops : Array Oper} {draw : Dr} {o : Oper} {l : List Oper} {acc : List Eff} {K : Exit → St → Prop}
theorem Fl.neV [f : Facts P tab] {t t' : TypeId} {x y : Operand} (hop : o.op = .binOp .neq t x y t') {cs ds : List AV} (hx : opd s x = .agg cs) (hy : opd s y = .agg ds) {us vs : List Value} (h1 : litL cs = some us) (h2 : litL ds = some vs) (r0 : Bool) (hg : gOk ops s o = true) (hd : dOk n o.dst = true)
  (hgd : ∀ w : World, (eqGuard .neq t x y (.agg us.toArray) (.agg vs.toArray)).run P w = .ok () w) (hrun : ∀ w : World, (binOp .neq t (.agg us.toArray) (.agg vs.toArray)).run P w = .ok (.bool r0) w)
  (r : Fl P n ops draw l ((Eff.mk (.v (.bool r0)) [] [] [] []).app o.dst s) (Eff.mk (.v (.bool r0)) [] [] [] [] :: acc) K) : Fl P n ops draw (o :: l) s acc K := by
 refine Fl.opv hg (OpJ.of_run (tb := []) (dOk_lt hd) fun C s' a w h β ho _ k => ?_) r;have hxr := opd_rep k x;have hyr := opd_rep k y;rw [ho x (by rw [hop]; simp [Op.operands]), hx] at hxr;rw [ho y (by rw [hop]; simp [Op.operands]), hy] at hyr;simp only [Rep] at hxr hyr;obtain ⟨us', e1, hr1⟩ := hxr;obtain ⟨vs', e2, hr2⟩ := hyr
 have e3 : us' = us.toArray := by rw [← litL_rep h1 hr1]
 have e4 : vs' = vs.toArray := by rw [← litL_rep h2 hr2]
 refine ⟨.bool r0, ?_, by simp only [Rep]⟩;simp only [execOp, hop, e1, e2, e3, e4, Sem.run_bind, hgd w, Result.andThen, hrun w, Sem.run_pure]
end
end Go.AL
namespace Go.Proofs.YtmmfloplhopioaaGreat
open Go.AL
set_option maxHeartbeats 4000000 in
theorem r13Valid_ok (m : MZ) (hl : m.code.length ≤ 100000) (b : Bool) (hb : b = true ↔ OkMZ m) : PureFn Tryz.prog 56 [aMz m] (aB b) := by
  refine PureFn.of_body Tryz.func56 rfl Tryz.ntmps56 rfl rfl ?_
  have hfalse : ¬ OkMZ m → false = b := fun h => by cases b with | false => rfl | true => exact absurd (hb.1 rfl) h
  refine AWP.seqS ?_;(repeat' (first |refine qv ?_ |apply qn |apply qr |refine qe ?_|fail));refine ⟨AWP.seqS ?_⟩;(repeat' (first |refine qv ?_ |apply qn |apply qs |apply qr |refine Fl.skip rfl rfl ?_ |refine AWP.condT rfl ?_ |(refine AWP.condD rfl ?_ ?_ <;> intro _ <;> try (exfalso; omega)) |apply qk |apply qt |(refine Fl.splitD rfl rfl ?_ ?_ <;> intro _ <;> try (exfalso; omega))))
  any_goals exact RetOk.of rfl (AV.Le.bool (hfalse fun k => by
    have k1 := k.r1;have k2 := k.r4;have k3 : 1 ≤ m.code.length := k.l1;have k4 : m.code.length ≤ 15 := k.l15
    omega))
  refine ⟨AWP.seqS ?_⟩;(repeat' (first |refine qv ?_ |apply qn |apply qs |apply qr |apply qb));refine AWP.loop (G := Nat) (fun i => i ≤ m.code.length ∧ ∀ j, j < i → okIns m j (m.at j)) (fun i => St.of [] [(1, .ptr 1 0), (3, aN i)] [(1, .cells (eMz m) 24)]) (fun i => m.code.length - i) 0 ⟨by omega, fun j hj => by omega⟩ ?_ ?_
  · refine Ent.of [] ?_ ?_ rfl rfl;(repeat' (first |exact True.intro |refine ⟨⟨AV.Le.refl _, rfl⟩, ?_⟩ |refine ⟨⟨⟨_, rfl, BLe.cells (LeL.refl _)⟩, rfl⟩, ?_⟩|fail))
  · intro i ⟨k0, k1⟩;refine AWP.seqS ?_;(repeat' (first |refine qv ?_ |apply qn |apply qs |apply qr |(refine AWP.condD rfl ?_ ?_ <;> intro _ <;> try (exfalso; omega)) |apply qk |apply qx));rotate_left
    · rename_i hi;refine ⟨?_⟩;(repeat' (first |refine qv ?_ |apply qn |apply qs |apply qr |apply qt));refine RetOk.of rfl (AV.Le.bool ?_);exact (hb.2 ⟨by omega, by omega, by show 1 ≤ m.code.length; omega, by show m.code.length ≤ 15; omega, fun j hj => k1 j (by have : j < m.code.length := hj; omega)⟩).symm
    · rename_i hi;obtain ⟨x, hx⟩ : ∃ x, m.code[i]? = some x := ⟨_, List.getElem?_eq_getElem (by omega)⟩;have hat := MZ.at_get hx
      have hx' : m.code[Int.toNat (i : Int)]? = some x := by rw [Int.toNat_natCast]; exact hx
      have hno : ¬ okIns m i x → false = b := fun h => hfalse fun k => h (hat ▸ k.ins i (by show i < m.code.length; omega))
      have hyes : okIns m i x → ∀ j, j < i + 1 → okIns m j (m.at j) := fun h j hj => by
        rcases (show j < i ∨ j = i by omega) with h' | h'
        · exact k1 j h'
        · rw [h', hat]; exact h
      rw [okIns_iff] at hno hyes;refine ⟨AWP.seq (AWP.block (AWP.seqS ?_))⟩;(repeat' (first |refine qv ?_ |apply qn |apply qr |refine qe ?_ |refine qK ?_|fail));refine ⟨?_⟩;(repeat' (first |refine qv ?_ |apply qn |apply qs |apply qr |refine qw ?_ |refine qe ?_ |refine Fl.skip rfl rfl ?_ |refine AWP.condT rfl ?_ |(refine AWP.condD rfl ?_ ?_ <;> intro _ <;> try (exfalso; omega)) |(refine AWP.condN rfl ?_ ?_ <;> intro _ <;> try (exfalso; omega)) |apply qb |apply qk |apply qt |(refine Fl.splitD rfl rfl ?_ ?_ <;> intro _ <;> try (exfalso; omega))))
      · refine Fl.neV rfl rfl rfl rfl rfl _ rfl rfl (fun w => by kernel_rfl) (fun w => insNe_run w _ _ _ _ _ _ _ _) ?_;(repeat' (first |refine qv ?_ |apply qn |apply qs |apply qr |refine qw ?_ |(refine AWP.condN rfl ?_ ?_ <;> intro _ <;> try (exfalso; omega)) |apply qk |apply qx |apply qt))
        · refine RetOk.of rfl (AV.Le.bool (hno ?_));omega
        · refine LoopEnd.of (i + 1) ⟨by omega, hyes (by omega)⟩ (by omega) ?_;refine Ent.of [] ?_ ?_ rfl rfl;(repeat' (first |exact True.intro |refine ⟨⟨AV.Le.refl _, rfl⟩, ?_⟩ |refine ⟨⟨⟨_, rfl, BLe.cells (LeL.refl _)⟩, rfl⟩, ?_⟩|fail))
      all_goals first
        | (refine RetOk.of rfl (AV.Le.bool (hno ?_)); omega)
        | (refine LoopEnd.of (i + 1) ⟨by omega, hyes (by omega)⟩ (by omega) ?_
           refine Ent.of [] ?_ ?_ rfl rfl
           repeat' (first |exact True.intro |refine ⟨⟨AV.Le.refl _, rfl⟩, ?_⟩ |refine ⟨⟨⟨_, rfl, BLe.cells (LeL.refl _)⟩, rfl⟩, ?_⟩|fail))
theorem r13Input_ok (m : MZ) (x : List Int) (hl : x.length ≤ 100000) (b : Bool) (hb : b = true ↔ (x.length : Int) = m.regs ∧ ∀ n ∈ x, 0 ≤ n ∧ n ≤ 1000) : PureFn Tryz.prog 57 [aMz m, aI x] (aB b) := by
  refine PureFn.of_body Tryz.func57 rfl Tryz.ntmps57 rfl rfl ?_
  have hfalse : (¬ ∀ n ∈ x, 0 ≤ n ∧ n ≤ 1000) → false = b := fun h => by cases b with | false => rfl | true => exact absurd (hb.1 rfl).2 h
  (repeat' (first |refine qv ?_ |apply qn |apply qs |apply qr |refine qe ?_ |apply qb));refine AWP.loop (G := Nat) (fun i => i ≤ x.length ∧ ∀ n ∈ x.take i, 0 ≤ n ∧ n ≤ 1000) (fun i => St.of [] [(1, aI x), (2, .ptr 2 0), (5, aN i)] [(2, .cells (eMz m) 24)]) (fun i => x.length - i) 0 ⟨by omega, fun n hn => by simp at hn⟩ ?_ ?_
  · refine Ent.of [] ?_ ?_ rfl rfl;(repeat' (first |exact True.intro |refine ⟨⟨AV.Le.refl _, rfl⟩, ?_⟩ |refine ⟨⟨⟨_, rfl, BLe.cells (LeL.refl _)⟩, rfl⟩, ?_⟩|fail))
  · intro i ⟨k0, k1⟩;refine AWP.seqS ?_;(repeat' (first |refine qv ?_ |apply qn |apply qs |apply qr |(refine AWP.condD rfl ?_ ?_ <;> intro _ <;> try (exfalso; omega)) |apply qk |apply qx |apply qt))
    · rename_i hi;obtain ⟨y, hy⟩ : ∃ y, x[i]? = some y := ⟨_, List.getElem?_eq_getElem (by omega)⟩
      have hy' : x[Int.toNat (i : Int)]? = some y := by rw [Int.toNat_natCast]; exact hy
      refine ⟨?_⟩;(repeat' (first |refine qv ?_ |apply qn |apply qs |apply qr |refine qw ?_ |refine Fl.skip rfl rfl ?_ |refine AWP.condT rfl ?_ |(refine AWP.condD rfl ?_ ?_ <;> intro _ <;> try (exfalso; omega)) |apply qb |apply qk |apply qt |refine qK ?_ |(refine Fl.splitD rfl rfl ?_ ?_ <;> intro _ <;> try (exfalso; omega))))
      all_goals first
        | exact RetOk.of rfl (AV.Le.bool (hfalse fun k => by have := k y (List.mem_of_getElem? hy); omega))
        | (refine LoopEnd.of (i + 1) ⟨by omega, fun n hn => ?_⟩ (by omega) ?_
           · rw [take_snoc hy, List.mem_append, List.mem_singleton] at hn;rcases hn with hn | rfl
             · exact k1 n hn
             · omega
           · refine Ent.of [] ?_ ?_ rfl rfl
             repeat' (first |exact True.intro |refine ⟨⟨AV.Le.refl _, rfl⟩, ?_⟩ |refine ⟨⟨⟨_, rfl, BLe.cells (LeL.refl _)⟩, rfl⟩, ?_⟩|fail))
    · rename_i hi;rw [List.take_of_length_le (by omega)] at k1;refine RetOk.of rfl (AV.Le.bool ?_);exact dec_of hb ⟨fun h => ⟨h, k1⟩, fun h => h.1⟩
theorem law14Wide_ok (m : MZ) (x : List Int) (b : Bool) (hb : b = true ↔ 100 < m.code.length ∨ 100 < x.length) (hl : m.code.length ≤ 9223372036854775807) (hx : x.length ≤ 9223372036854775807) : PureFn Tryz.prog 21 [aMz m, aI x] (aB b) := by
 refine PureFn.of_body Tryz.func21 rfl Tryz.ntmps21 rfl rfl ?_;(repeat' (first |refine qv ?_ |apply qn |apply qs |apply qr |refine qe ?_ |refine Fl.skip rfl rfl ?_ |apply qt |(refine Fl.splitD rfl rfl ?_ ?_ <;> intro _ <;> try (exfalso; omega))))
 all_goals refine RetOk.of rfl (AV.Le.bool ?_)
 all_goals first
  | exact (hb.2 (by omega)).symm
  | exact dec_of hb (by omega)
theorem law14Code_ok (m : MZ) (x : List Int) (hl : m.code.length ≤ 100) (hx : x.length ≤ 100) (e : Int) (h1 : ¬ OkMZ m → e = 1) (h2 : OkMZ m → ¬ OkIn m x → e = 2) (h3 : OkMZ m → OkIn m x → e = 0) : PureFn Tryz.prog 23 [aMz m, aI x] (aN e) := by
 refine PureFn.of_body Tryz.func23 rfl Tryz.ntmps23 rfl rfl ?_;by_cases k1 : OkMZ m
 ·have hR := k1.r1
  have hI : ∀ b : Bool, (b = true ↔ OkIn m x) → (b = true ↔ (x.length : Int) = m.regs ∧ ∀ n ∈ x, 0 ≤ n ∧ n ≤ 1000) := fun b hb => by
   rw [hb];unfold OkIn
   have : x.length = m.R ↔ (x.length : Int) = m.regs := by show x.length = m.regs.toNat ↔ _; omega
   rw [this]
  by_cases k2 : OkIn m x
  ·(repeat' (first |refine qv ?_ |apply qn |apply qs |apply qr |refine qe ?_ |apply qb));refine Fl.call rfl (r13Valid_ok m (by omega) true ⟨fun _ => k1, fun _ => rfl⟩) rfl rfl rfl (LeL.refl _) ?_;(repeat' (first |refine qv ?_ |apply qn |apply qs |apply qr |refine AWP.condF rfl ?_));refine Fl.call rfl (r13Input_ok m x (by omega) true (hI true (Iff.intro (fun _ => k2) fun _ => rfl))) rfl rfl rfl (LeL.refl _) ?_;(repeat' (first |refine qv ?_ |apply qn |apply qs |apply qr |refine AWP.condF rfl ?_ |apply qk |apply qt));exact RetOk.of rfl (AV.Le.int (h3 k1 k2).symm)
  ·(repeat' (first |refine qv ?_ |apply qn |apply qs |apply qr |refine qe ?_ |apply qb));refine Fl.call rfl (r13Valid_ok m (by omega) true ⟨fun _ => k1, fun _ => rfl⟩) rfl rfl rfl (LeL.refl _) ?_;(repeat' (first |refine qv ?_ |apply qn |apply qs |apply qr |refine AWP.condF rfl ?_));refine qc (r13Input_ok m x (by omega) false (hI false (Iff.intro (fun h => by cases h) fun h => absurd h k2))) ?_;(repeat' (first |refine qv ?_ |apply qn |apply qs |apply qr |refine AWP.condT rfl ?_ |apply qt));exact RetOk.of rfl (AV.Le.int (h2 k1 k2).symm)
 ·(repeat' (first |refine qv ?_ |apply qn |apply qs |apply qr |refine qe ?_ |apply qb));refine qc (r13Valid_ok m (by omega) false (Iff.intro (fun h => by cases h) fun h => absurd h k1)) ?_;(repeat' (first |refine qv ?_ |apply qn |apply qs |apply qr |refine AWP.condT rfl ?_ |apply qt));exact RetOk.of rfl (AV.Le.int (h1 k1).symm)
end Go.Proofs.YtmmfloplhopioaaGreat
/- ref01.shifted. -/
namespace Go.AL
end Go.AL
namespace Go.Proofs.YtmmfloplhopioaaGreat
open Go.AL
end Go.Proofs.YtmmfloplhopioaaGreat
/- ref01.Shift, by a number that is not negative. -/
namespace Go.Proofs.YtmmfloplhopioaaGreat
open Go.AL
end Go.Proofs.YtmmfloplhopioaaGreat
/- ref01.short: by one word. -/
namespace Go.Proofs.YtmmfloplhopioaaGreat
open Go.AL
theorem short_ok (x b : Int) (hx : 0 ≤ x) (hxl : (toW x).length ≤ 50000) (hb : 0 < b) (hb1 : b < 4294967296) : PureFn Tryz.prog 230 [aW (toW x), .v (.int .u32 b)] (.tup [aW (wdW (toW x).length (x / b)), .v (.int .u32 (x % b))]) := by
 refine PureFn.of_body Tryz.func230 rfl Tryz.ntmps230 rfl rfl ?_;have wx := toW_ok x;have hsx := val_toW hx
 generalize toW x = A at *
 subst hsx;(repeat' (first |refine qv ?_ |apply qn |apply qs |apply qr |refine qw ?_ |apply qb |refine Fl.make rfl rfl rfl rfl rfl rfl rfl rfl rfl rfl eW 0 (by exact LeL.refl _) (by rfl) (by first | omega | (dsimp only; omega)) (by first | omega | (dsimp only; omega)) (by first | omega | (dsimp only; omega)) ?_|fail));refine AWP.loop (G := Nat × List Int × Int) (fun (i, os, r) => os.length + i = A.length ∧ WOk os ∧ 0 ≤ r ∧ r < b ∧ val (A.drop i) = val os * b + r)
  (fun (i, os, r) => St.of [] [(0, aW A), (1, .v (.int .u32 b)), (6, .row 11), (7, aU r), (8, aN ((i : Int) - 1))] [(11, .row 1 eW (List.replicate i 0 ++ os) 94)])
  (fun (i, os, r) => i) (A.length, [], 0) ⟨by simp, WOk.nil, by omega, by omega, by simp [val]⟩ ?_ ?_
 ·refine Ent.of [] ?_ ?_ rfl rfl;(repeat' (first |exact True.intro |refine ⟨⟨AV.Le.refl _, rfl⟩, ?_⟩ |refine ⟨⟨⟨_, rfl, BLe.row ?_⟩, rfl⟩, ?_⟩|fail));simp
 ·intro ⟨i, os, r⟩ ⟨h0, h1, h2, h3, h4⟩;refine AWP.seqS ?_;(repeat' (first |refine qv ?_ |apply qn |apply qs |apply qr |(refine AWP.condD rfl ?_ ?_ <;> intro _ <;> try (exfalso; omega)) |apply qk |apply qx |apply qt))
  ·refine ⟨?_⟩;refine AWP.seq (AWP.block (AWP.seqJ (G := Int) (fun y => A[i - 1]? = some y ∧ 0 ≤ y ∧ y < 4294967296) (fun y => St.of [] [(0, aW A), (1, .v (.int .u32 b)), (6, .row 11), (7, aU (r * 4294967296 + y)), (8, aN ((i : Int) - 1))] [(11, .row 1 eW (List.replicate i 0 ++ os) 94)]) ?_ ?_))
   ·(repeat' (first |refine qv ?_ |apply qn |apply qr |refine qw ?_ |(refine Fl.elW rfl rfl rfl rfl rfl rfl rfl rfl (by omega) (by omega) (by assumption) ?_; intro _ _ _ _) |refine Fl.sumM rfl rfl rfl rfl rfl rfl ?_));rename_i hi y hy hy0 hy1;rw [show ((i : Int) - 1).toNat = i - 1 by omega] at hy;refine JoinOk.of y ⟨hy, hy0, hy1⟩ ?_;refine Ent.of [] ?_ ?_ rfl rfl;(repeat' (first |exact True.intro |refine ⟨⟨AV.Le.refl _, rfl⟩, ?_⟩ |refine ⟨⟨⟨_, rfl, BLe.row rfl⟩, rfl⟩, ?_⟩ |refine ⟨⟨AV.Le.int ?_, rfl⟩, ?_⟩|fail));rw [show (2 : Int) ^ (32 : Int).toNat = 4294967296 from rfl];omega
   ·intro y ⟨hy, hy0, hy1⟩
    have hi : 0 < i := by
     rcases Nat.eq_zero_or_pos i with h | h
     ·subst h; omega
     ·exact h
    obtain ⟨q, hq⟩ : ∃ q, q = (r * 4294967296 + y) / b := ⟨_, rfl⟩;obtain ⟨r', hr'⟩ : ∃ r', r' = (r * 4294967296 + y) % b := ⟨_, rfl⟩;have hw := over_word hb h2 h3 hy0 hy1;have hm0 := Int.emod_nonneg (r * 4294967296 + y) (show b ≠ 0 by omega);have hm1 := Int.emod_lt_of_pos (r * 4294967296 + y) hb;have hst := over_step (i := i - 1) hy (by rw [show i - 1 + 1 = i by omega]; exact h4);rw [← hq] at hw hst;rw [← hr'] at hm0 hm1 hst;(repeat' (first |refine qv ?_ |apply qn |apply qs |apply qr |refine qw ?_ |refine Fl.w rfl rfl rfl ⟨by omega, by omega, by dsimp only [hiK]; omega⟩ ?_ |refine Fl.rel rfl rfl rfl rfl rfl rfl rfl rfl (by omega) (by first | omega | (simp; omega)) ?_ |refine Fl.rst rfl rfl rfl rfl rfl rfl rfl rfl rfl rfl rfl (LeL.refl _) rfl (by first | omega | (simp; omega)) ?_|fail));refine LoopEnd.of (i - 1, q :: os, r') ⟨by simp only [List.length_cons]; omega, WOk.cons hw.1 hw.2 h1, hm0, hm1, hst⟩ (by simp only; omega) ?_;refine Ent.of [] ?_ ?_ rfl rfl;(repeat' (first |exact True.intro |refine ⟨⟨AV.Le.refl _, rfl⟩, ?_⟩ |refine ⟨⟨⟨_, rfl, BLe.row ?_⟩, rfl⟩, ?_⟩ |refine ⟨⟨AV.Le.int ?_, rfl⟩, ?_⟩|fail))
    ·exact hr'.symm
    ·omega
    ·refine set_zeros (by omega) (by omega) ?_;rw [← hq]; omega
  ·rename_i hi
   have hi0 : i = 0 := by omega
   subst hi0;rw [List.drop_zero] at h4;obtain ⟨e1, e2⟩ := over_end h4 h2 h3;skip;refine RetOk.ent (Ent.freeze 11 rfl) ?_;refine RetOk.of rfl ?_;rw [← e1, ← e2, show A.length = os.length by omega, ← wdW_eq h1];exact AV.Le.tup (LeL.cons (AV.Le.refl _) (LeL.cons (AV.Le.int (by omega)) LeL.nil))
end Go.Proofs.YtmmfloplhopioaaGreat

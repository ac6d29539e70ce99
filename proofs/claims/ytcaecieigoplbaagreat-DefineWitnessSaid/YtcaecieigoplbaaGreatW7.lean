/- Part 7 of a proof layer and of the contracts of the functions (XTF XU6 XU7 XTC XTD XRV XRP XTG XRU XTH). -/
import Derived.Test.YtcaecieigoplbaaGreatW6
set_option linter.unusedVariables false
set_option linter.unusedSimpArgs false
/- define.Equations: the system. Written by gen_df.py. -/
namespace Go.AL
def df0 : List UT := sumsU [] [varU 16 14, conU 16 2]
def df1 : List UT := subL (varU 16 0) df0
def df2 : List UT := sumsU [] [varU 16 15, conU 16 1]
def df3 : List UT := subL (varU 16 1) df2
def df4 : List UT := mulsU (conU 16 1) [varU 16 0, varU 16 0]
def df5 : List UT := subL df4 (conU 16 1)
def df6 : List UT := mulsU (conU 16 1) [df5, varU 16 2, varU 16 2]
def df7 : List UT := sumsU [] [df6, conU 16 1]
def df8 : List UT := subL (varU 16 3) df7
def df9 : List UT := sumsU [] [varU 16 9, conU 16 1]
def df10 : List UT := mulsU (conU 16 1) [conU 16 2, df9, varU 16 2, varU 16 2, varU 16 3]
def df11 : List UT := subL (varU 16 4) df10
def df12 : List UT := mulsU (conU 16 1) [varU 16 0, varU 16 0]
def df13 : List UT := subL df12 (conU 16 1)
def df14 : List UT := mulsU (conU 16 1) [df13, varU 16 4, varU 16 4]
def df15 : List UT := sumsU [] [df14, conU 16 1]
def df16 : List UT := subL (varU 16 5) df15
def df17 : List UT := subL (varU 16 5) (varU 16 0)
def df18 : List UT := mulsU (conU 16 1) [varU 16 5, df17]
def df19 : List UT := sumsU [] [varU 16 0, df18]
def df20 : List UT := subL (varU 16 6) df19
def df21 : List UT := mulsU (conU 16 1) [conU 16 2, varU 16 10, varU 16 2]
def df22 : List UT := sumsU [] [varU 16 1, df21]
def df23 : List UT := subL (varU 16 7) df22
def df24 : List UT := mulsU (conU 16 1) [varU 16 6, varU 16 6]
def df25 : List UT := subL df24 (conU 16 1)
def df26 : List UT := mulsU (conU 16 1) [df25, varU 16 7, varU 16 7]
def df27 : List UT := sumsU [] [df26, conU 16 1]
def df28 : List UT := subL (varU 16 8) df27
def df29 : List UT := mulsU (conU 16 1) [varU 16 3, varU 16 5, varU 16 8]
def df30 : List UT := mulsU (conU 16 1) [varU 16 13, varU 16 13]
def df31 : List UT := subL df29 df30
def df32 : List UT := mulsU (conU 16 1) [varU 16 5, varU 16 11]
def df33 : List UT := sumsU [] [varU 16 2, df32]
def df34 : List UT := subL (varU 16 7) df33
def df35 : List UT := sumsU [] [varU 16 1, varU 16 12]
def df36 : List UT := subL (varU 16 2) df35
def dfS : SZ := ⟨16, [linkU 16 0 [df1], linkU 16 0 [df3], linkU 16 0 [df8], linkU 16 0 [df11], linkU 16 0 [df16], linkU 16 0 [df20], linkU 16 0 [df23], linkU 16 0 [df28], linkU 16 0 [df31], linkU 16 0 [df34], linkU 16 0 [df36]]⟩
def dfX : Nat → List (List AV)
  | 0 => List.replicate 16 [aN 0, .v (.slice none 0 0)]
  | n + 1 => (dfX n).set n (eP (mkP 16 (varU 16 n)))
end Go.AL
namespace Go.Proofs.YtcaecieigoplbaaGreat
open Go.AL
theorem dfPell_ok (p q l2 l : List UT) (hp : chkU 16 p p = true) (hm : okMuls 16 (conU 16 1) [p, p] = true) (h1 : chkU 16 (mulsU (conU 16 1) [p, p]) (mulsU (conU 16 1) [p, p]) = true) (hs : chkU 16 (addUs (-1) (mulsU (conU 16 1) [p, p]) (conU 16 1)) l2 = true) (hm2 : okMuls 16 (conU 16 1) [l2, q, q] = true) (ha : okSums 16 [] [mulsU (conU 16 1) [l2, q, q], conU 16 1] = true) (hl : sumsU [] [mulsU (conU 16 1) [l2, q, q], conU 16 1] = l) : IoFn Tryz.prog 119 [aP (mkP 16 p), aP (mkP 16 q), .ptr 900 0, .ptr 901 0] [(900, .cells [aN 16] 84), (901, .cells (eP (mkP 16 (conU 16 1))) 70)] (.ret (aP (mkP 16 l))) [(900, .cells [aN 16] 84), (901, .cells (eP (mkP 16 (conU 16 1))) 70)] := by
 subst hl;refine IoFn.of_body Tryz.func119 rfl Tryz.ntmps119 rfl rfl rfl ?_;refine AWP.seqS ?_;(repeat' (first |apply qn |apply qr |refine qe ?_|fail));refine ⟨?_⟩;(repeat' (first |refine qv ?_ |apply qs |apply qr));refine ql eP [mkP 16 p, mkP 16 p] ?_;skip;refine qc (kMul_ok 16 (by omega) [p, p] (by simp) hm) ?_;(repeat' (first |refine qv ?_|fail));refine qc (kSub_ok 16 (by omega) (mulsU (conU 16 1) [p, p]) (conU 16 1) l2 h1 (by kernel_rfl) hs) ?_;(repeat' (first |refine qv ?_|fail));refine ql eP [mkP 16 l2, mkP 16 q, mkP 16 q] ?_;skip;refine qc (kMul_ok 16 (by omega) [l2, q, q] (by simp) hm2) ?_;(repeat' (first |refine qv ?_|fail));refine ql eP [mkP 16 (mulsU (conU 16 1) [l2, q, q]), mkP 16 (conU 16 1)] ?_;skip;refine qc (kAdd_ok 16 (by omega) [mulsU (conU 16 1) [l2, q, q], conU 16 1] (by simp) ha) ?_;(repeat' (first |refine Fl.nil (fun _ => by kernel_rfl) ?_ |refine qe ?_ |apply qt));exact ⟨⟨[], _, _, Ent.refl _ _ _, rfl, AV.Le.refl _, rfl, ⟨⟨⟨_, rfl, BLe.cells (LeL.refl _)⟩, rfl⟩, ⟨⟨_, rfl, BLe.cells (LeL.refl _)⟩, rfl⟩, trivial⟩, rfl, rfl⟩⟩
set_option maxHeartbeats 8000000 in
set_option maxRecDepth 20000 in
theorem dfEq_ok : PureFn Tryz.prog 49 [] (aS dfS) := by
 refine PureFn.of_body Tryz.func49 rfl Tryz.ntmps49 rfl rfl ?_;refine AWP.seqS ?_;(repeat' (first |apply qn |apply qr |refine qe ?_|fail));refine ⟨AWP.seqS ?_⟩;(repeat' (first |apply qr));refine qc (kNew_ok 16) ?_;(repeat' (first |apply qn |refine qe ?_|fail));refine ⟨AWP.seqS ?_⟩;(repeat' (first |apply qn |apply qr |refine qe ?_|fail));refine ⟨AWP.seqS ?_⟩;(repeat' (first |refine qv ?_ |apply qn |apply qs |apply qr |apply qb));refine AWP.loop (G := Nat) (fun i => i ≤ 16) (fun i => St.of [] [(0, .ptr 0 0), (1, .ptr 1 0), (2, .ptr 2 0), (7, aN i)] [(0, .cells [aN 0, .v (.slice none 0 0)] 25), (1, .cells [aN 16] 84), (2, .cells (dfX i).flatten 120)]) (fun i => 16 - i) 0 (by omega) ?_ ?_
 ·refine Ent.of [] ?_ ?_ rfl rfl;(repeat' (first |exact True.intro |refine ⟨⟨AV.Le.refl _, rfl⟩, ?_⟩ |refine ⟨⟨⟨_, rfl, BLe.cells (LeL.refl _)⟩, rfl⟩, ?_⟩|fail))
 ·intro i hi;rcases (show i = 16 ∨ i < 16 by omega) with h | h
  ·subst h;(repeat' (first |refine qv ?_ |apply qn |apply qs |apply qr |refine AWP.condF rfl ?_ |apply qx));refine ⟨AWP.seqS ?_⟩;(repeat' (first |refine qv ?_ |apply qr));refine qc (kN_ok 16 1 (by omega) (by omega) (by omega)) ?_;(repeat' (first |apply qn |refine qe ?_|fail));refine ⟨AWP.seqS ?_⟩;(repeat' (first |refine qv ?_ |apply qn |apply qr));refine ⟨AWP.seqS ?_⟩;refine AWP.regionJ [(1, 0, [aN 16]), (4, 0, eP (mkP 16 (conU 16 1))), (2, 0, eP (mkP 16 (varU 16 0))), (2, 2, eP (mkP 16 (varU 16 1))), (2, 4, eP (mkP 16 (varU 16 2))), (2, 6, eP (mkP 16 (varU 16 3))), (2, 8, eP (mkP 16 (varU 16 4))), (2, 10, eP (mkP 16 (varU 16 5))), (2, 12, eP (mkP 16 (varU 16 6))), (2, 14, eP (mkP 16 (varU 16 7))), (2, 16, eP (mkP 16 (varU 16 8))), (2, 18, eP (mkP 16 (varU 16 9))), (2, 20, eP (mkP 16 (varU 16 10))), (2, 22, eP (mkP 16 (varU 16 11))), (2, 24, eP (mkP 16 (varU 16 12))), (2, 26, eP (mkP 16 (varU 16 13))), (2, 28, eP (mkP 16 (varU 16 14))), (2, 30, eP (mkP 16 (varU 16 15)))] (InvJ.cons ⟨_, _, rfl, rfl⟩ (InvJ.cons ⟨_, _, rfl, rfl⟩ (InvJ.cons ⟨_, _, rfl, rfl⟩ (InvJ.cons ⟨_, _, rfl, rfl⟩ (InvJ.cons ⟨_, _, rfl, rfl⟩ (InvJ.cons ⟨_, _, rfl, rfl⟩ (InvJ.cons ⟨_, _, rfl, rfl⟩ (InvJ.cons ⟨_, _, rfl, rfl⟩ (InvJ.cons ⟨_, _, rfl, rfl⟩ (InvJ.cons ⟨_, _, rfl, rfl⟩ (InvJ.cons ⟨_, _, rfl, rfl⟩ (InvJ.cons ⟨_, _, rfl, rfl⟩ (InvJ.cons ⟨_, _, rfl, rfl⟩ (InvJ.cons ⟨_, _, rfl, rfl⟩ (InvJ.cons ⟨_, _, rfl, rfl⟩ (InvJ.cons ⟨_, _, rfl, rfl⟩ (InvJ.cons ⟨_, _, rfl, rfl⟩ (InvJ.cons ⟨_, _, rfl, rfl⟩ (InvJ.nil _))))))))))))))))))) ?_;(repeat' (first | refine Fl.ldJ rfl rfl rfl rfl rfl rfl rfl rfl ?_ | refine Fl.v rfl rfl rfl ?_ | refine Fl.b rfl rfl rfl rfl ?_ | fail));refine Fl.ixP rfl rfl rfl rfl rfl 0 rfl rfl rfl rfl (by decide) ?_;(repeat' (first | refine Fl.ldJ rfl rfl rfl rfl rfl rfl rfl rfl ?_ | refine Fl.v rfl rfl rfl ?_ | refine Fl.b rfl rfl rfl rfl ?_ | fail));refine Fl.ixP rfl rfl rfl rfl rfl 14 rfl rfl rfl rfl (by decide) ?_;(repeat' (first | refine Fl.ldJ rfl rfl rfl rfl rfl rfl rfl rfl ?_ | refine Fl.v rfl rfl rfl ?_ | refine Fl.b rfl rfl rfl rfl ?_ | fail));refine qc (kN_ok 16 2 (by omega) (by omega) (by omega)) ?_;(repeat' (first | refine Fl.ldJ rfl rfl rfl rfl rfl rfl rfl rfl ?_ | refine Fl.v rfl rfl rfl ?_ | refine Fl.b rfl rfl rfl rfl ?_ | fail));refine ql eP [mkP 16 (varU 16 14), mkP 16 (conU 16 2)] ?_;(repeat' (first | refine Fl.ldJ rfl rfl rfl rfl rfl rfl rfl rfl ?_ | refine Fl.v rfl rfl rfl ?_ | refine Fl.b rfl rfl rfl rfl ?_ | fail));refine Fl.call rfl (show PureFn Tryz.prog _ _ (aP (mkP 16 df0)) from kAdd_ok 16 (by omega) [varU 16 14, conU 16 2] (by simp) (by kernel_rfl)) rfl rfl rfl (LeL.refl _) ?_;(repeat' (first | refine Fl.ldJ rfl rfl rfl rfl rfl rfl rfl rfl ?_ | refine Fl.v rfl rfl rfl ?_ | refine Fl.b rfl rfl rfl rfl ?_ | fail));refine Fl.call rfl (kEq_ok 16 (by omega) (varU 16 0) df0 df1 (by kernel_rfl) (by kernel_rfl) (by kernel_rfl) (okLk_ok (V := 16) (ls := [df1]) (by kernel_rfl) _ (by simp))) rfl rfl rfl (LeL.refl _) ?_;(repeat' (first | refine Fl.ldJ rfl rfl rfl rfl rfl rfl rfl rfl ?_ | refine Fl.v rfl rfl rfl ?_ | refine Fl.b rfl rfl rfl rfl ?_ | fail));refine Fl.ixP rfl rfl rfl rfl rfl 1 rfl rfl rfl rfl (by decide) ?_;(repeat' (first | refine Fl.ldJ rfl rfl rfl rfl rfl rfl rfl rfl ?_ | refine Fl.v rfl rfl rfl ?_ | refine Fl.b rfl rfl rfl rfl ?_ | fail));refine Fl.ixP rfl rfl rfl rfl rfl 15 rfl rfl rfl rfl (by decide) ?_;(repeat' (first | refine Fl.ldJ rfl rfl rfl rfl rfl rfl rfl rfl ?_ | refine Fl.v rfl rfl rfl ?_ | refine Fl.b rfl rfl rfl rfl ?_ | fail));refine ql eP [mkP 16 (varU 16 15), mkP 16 (conU 16 1)] ?_;(repeat' (first | refine Fl.ldJ rfl rfl rfl rfl rfl rfl rfl rfl ?_ | refine Fl.v rfl rfl rfl ?_ | refine Fl.b rfl rfl rfl rfl ?_ | fail));refine Fl.call rfl (show PureFn Tryz.prog _ _ (aP (mkP 16 df2)) from kAdd_ok 16 (by omega) [varU 16 15, conU 16 1] (by simp) (by kernel_rfl)) rfl rfl rfl (LeL.refl _) ?_;(repeat' (first | refine Fl.ldJ rfl rfl rfl rfl rfl rfl rfl rfl ?_ | refine Fl.v rfl rfl rfl ?_ | refine Fl.b rfl rfl rfl rfl ?_ | fail));refine Fl.call rfl (kEq_ok 16 (by omega) (varU 16 1) df2 df3 (by kernel_rfl) (by kernel_rfl) (by kernel_rfl) (okLk_ok (V := 16) (ls := [df3]) (by kernel_rfl) _ (by simp))) rfl rfl rfl (LeL.refl _) ?_;(repeat' (first | refine Fl.ldJ rfl rfl rfl rfl rfl rfl rfl rfl ?_ | refine Fl.v rfl rfl rfl ?_ | refine Fl.b rfl rfl rfl rfl ?_ | fail));refine Fl.ixP rfl rfl rfl rfl rfl 3 rfl rfl rfl rfl (by decide) ?_;(repeat' (first | refine Fl.ldJ rfl rfl rfl rfl rfl rfl rfl rfl ?_ | refine Fl.v rfl rfl rfl ?_ | refine Fl.b rfl rfl rfl rfl ?_ | fail));refine Fl.ixP rfl rfl rfl rfl rfl 0 rfl rfl rfl rfl (by decide) ?_;(repeat' (first | refine Fl.ldJ rfl rfl rfl rfl rfl rfl rfl rfl ?_ | refine Fl.v rfl rfl rfl ?_ | refine Fl.b rfl rfl rfl rfl ?_ | fail));refine Fl.ixP rfl rfl rfl rfl rfl 2 rfl rfl rfl rfl (by decide) ?_;(repeat' (first | refine Fl.ldJ rfl rfl rfl rfl rfl rfl rfl rfl ?_ | refine Fl.v rfl rfl rfl ?_ | refine Fl.b rfl rfl rfl rfl ?_ | fail));refine Fl.ioV rfl rfl [(900, 1), (901, 4)] (show IoFn Tryz.prog _ _ _ (.ret (aP (mkP 16 df7))) _ from dfPell_ok (varU 16 0) (varU 16 2) df5 df7 (by kernel_rfl) (by kernel_rfl) (by kernel_rfl) (by kernel_rfl) (by kernel_rfl) (by kernel_rfl) (by kernel_rfl)) rfl rfl (LeL.refl _) rfl ⟨⟨⟨_, rfl, BLe.cells (LeL.refl _)⟩, rfl⟩, ⟨⟨_, rfl, BLe.cells (LeL.refl _)⟩, rfl⟩, trivial⟩ rfl rfl rfl rfl rfl ?_;(repeat' (first | refine Fl.ldJ rfl rfl rfl rfl rfl rfl rfl rfl ?_ | refine Fl.v rfl rfl rfl ?_ | refine Fl.b rfl rfl rfl rfl ?_ | fail));refine Fl.call rfl (kEq_ok 16 (by omega) (varU 16 3) df7 df8 (by kernel_rfl) (by kernel_rfl) (by kernel_rfl) (okLk_ok (V := 16) (ls := [df8]) (by kernel_rfl) _ (by simp))) rfl rfl rfl (LeL.refl _) ?_;(repeat' (first | refine Fl.ldJ rfl rfl rfl rfl rfl rfl rfl rfl ?_ | refine Fl.v rfl rfl rfl ?_ | refine Fl.b rfl rfl rfl rfl ?_ | fail));refine Fl.ixP rfl rfl rfl rfl rfl 4 rfl rfl rfl rfl (by decide) ?_;(repeat' (first | refine Fl.ldJ rfl rfl rfl rfl rfl rfl rfl rfl ?_ | refine Fl.v rfl rfl rfl ?_ | refine Fl.b rfl rfl rfl rfl ?_ | fail));refine qc (kN_ok 16 2 (by omega) (by omega) (by omega)) ?_;(repeat' (first | refine Fl.ldJ rfl rfl rfl rfl rfl rfl rfl rfl ?_ | refine Fl.v rfl rfl rfl ?_ | refine Fl.b rfl rfl rfl rfl ?_ | fail));refine Fl.ixP rfl rfl rfl rfl rfl 9 rfl rfl rfl rfl (by decide) ?_;(repeat' (first | refine Fl.ldJ rfl rfl rfl rfl rfl rfl rfl rfl ?_ | refine Fl.v rfl rfl rfl ?_ | refine Fl.b rfl rfl rfl rfl ?_ | fail));refine ql eP [mkP 16 (varU 16 9), mkP 16 (conU 16 1)] ?_;(repeat' (first | refine Fl.ldJ rfl rfl rfl rfl rfl rfl rfl rfl ?_ | refine Fl.v rfl rfl rfl ?_ | refine Fl.b rfl rfl rfl rfl ?_ | fail));refine Fl.call rfl (show PureFn Tryz.prog _ _ (aP (mkP 16 df9)) from kAdd_ok 16 (by omega) [varU 16 9, conU 16 1] (by simp) (by kernel_rfl)) rfl rfl rfl (LeL.refl _) ?_;(repeat' (first | refine Fl.ldJ rfl rfl rfl rfl rfl rfl rfl rfl ?_ | refine Fl.v rfl rfl rfl ?_ | refine Fl.b rfl rfl rfl rfl ?_ | fail));refine Fl.ixP rfl rfl rfl rfl rfl 2 rfl rfl rfl rfl (by decide) ?_;(repeat' (first | refine Fl.ldJ rfl rfl rfl rfl rfl rfl rfl rfl ?_ | refine Fl.v rfl rfl rfl ?_ | refine Fl.b rfl rfl rfl rfl ?_ | fail));refine Fl.ixP rfl rfl rfl rfl rfl 2 rfl rfl rfl rfl (by decide) ?_;(repeat' (first | refine Fl.ldJ rfl rfl rfl rfl rfl rfl rfl rfl ?_ | refine Fl.v rfl rfl rfl ?_ | refine Fl.b rfl rfl rfl rfl ?_ | fail));refine Fl.ixP rfl rfl rfl rfl rfl 3 rfl rfl rfl rfl (by decide) ?_;(repeat' (first | refine Fl.ldJ rfl rfl rfl rfl rfl rfl rfl rfl ?_ | refine Fl.v rfl rfl rfl ?_ | refine Fl.b rfl rfl rfl rfl ?_ | fail));refine ql eP [mkP 16 (conU 16 2), mkP 16 df9, mkP 16 (varU 16 2), mkP 16 (varU 16 2), mkP 16 (varU 16 3)] ?_;(repeat' (first | refine Fl.ldJ rfl rfl rfl rfl rfl rfl rfl rfl ?_ | refine Fl.v rfl rfl rfl ?_ | refine Fl.b rfl rfl rfl rfl ?_ | fail));refine Fl.call rfl (show PureFn Tryz.prog _ _ (aP (mkP 16 df10)) from kMul_ok 16 (by omega) [conU 16 2, df9, varU 16 2, varU 16 2, varU 16 3] (by simp) (by kernel_rfl)) rfl rfl rfl (LeL.refl _) ?_;(repeat' (first | refine Fl.ldJ rfl rfl rfl rfl rfl rfl rfl rfl ?_ | refine Fl.v rfl rfl rfl ?_ | refine Fl.b rfl rfl rfl rfl ?_ | fail));refine Fl.call rfl (kEq_ok 16 (by omega) (varU 16 4) df10 df11 (by kernel_rfl) (by kernel_rfl) (by kernel_rfl) (okLk_ok (V := 16) (ls := [df11]) (by kernel_rfl) _ (by simp))) rfl rfl rfl (LeL.refl _) ?_;(repeat' (first | refine Fl.ldJ rfl rfl rfl rfl rfl rfl rfl rfl ?_ | refine Fl.v rfl rfl rfl ?_ | refine Fl.b rfl rfl rfl rfl ?_ | fail));refine Fl.ixP rfl rfl rfl rfl rfl 5 rfl rfl rfl rfl (by decide) ?_;(repeat' (first | refine Fl.ldJ rfl rfl rfl rfl rfl rfl rfl rfl ?_ | refine Fl.v rfl rfl rfl ?_ | refine Fl.b rfl rfl rfl rfl ?_ | fail));refine Fl.ixP rfl rfl rfl rfl rfl 0 rfl rfl rfl rfl (by decide) ?_;(repeat' (first | refine Fl.ldJ rfl rfl rfl rfl rfl rfl rfl rfl ?_ | refine Fl.v rfl rfl rfl ?_ | refine Fl.b rfl rfl rfl rfl ?_ | fail));refine Fl.ixP rfl rfl rfl rfl rfl 4 rfl rfl rfl rfl (by decide) ?_;(repeat' (first | refine Fl.ldJ rfl rfl rfl rfl rfl rfl rfl rfl ?_ | refine Fl.v rfl rfl rfl ?_ | refine Fl.b rfl rfl rfl rfl ?_ | fail));refine Fl.ioV rfl rfl [(900, 1), (901, 4)] (show IoFn Tryz.prog _ _ _ (.ret (aP (mkP 16 df15))) _ from dfPell_ok (varU 16 0) (varU 16 4) df13 df15 (by kernel_rfl) (by kernel_rfl) (by kernel_rfl) (by kernel_rfl) (by kernel_rfl) (by kernel_rfl) (by kernel_rfl)) rfl rfl (LeL.refl _) rfl ⟨⟨⟨_, rfl, BLe.cells (LeL.refl _)⟩, rfl⟩, ⟨⟨_, rfl, BLe.cells (LeL.refl _)⟩, rfl⟩, trivial⟩ rfl rfl rfl rfl rfl ?_;(repeat' (first | refine Fl.ldJ rfl rfl rfl rfl rfl rfl rfl rfl ?_ | refine Fl.v rfl rfl rfl ?_ | refine Fl.b rfl rfl rfl rfl ?_ | fail));refine Fl.call rfl (kEq_ok 16 (by omega) (varU 16 5) df15 df16 (by kernel_rfl) (by kernel_rfl) (by kernel_rfl) (okLk_ok (V := 16) (ls := [df16]) (by kernel_rfl) _ (by simp))) rfl rfl rfl (LeL.refl _) ?_;(repeat' (first | refine Fl.ldJ rfl rfl rfl rfl rfl rfl rfl rfl ?_ | refine Fl.v rfl rfl rfl ?_ | refine Fl.b rfl rfl rfl rfl ?_ | fail));refine Fl.ixP rfl rfl rfl rfl rfl 6 rfl rfl rfl rfl (by decide) ?_;(repeat' (first | refine Fl.ldJ rfl rfl rfl rfl rfl rfl rfl rfl ?_ | refine Fl.v rfl rfl rfl ?_ | refine Fl.b rfl rfl rfl rfl ?_ | fail));refine Fl.ixP rfl rfl rfl rfl rfl 0 rfl rfl rfl rfl (by decide) ?_;(repeat' (first | refine Fl.ldJ rfl rfl rfl rfl rfl rfl rfl rfl ?_ | refine Fl.v rfl rfl rfl ?_ | refine Fl.b rfl rfl rfl rfl ?_ | fail));refine Fl.ixP rfl rfl rfl rfl rfl 5 rfl rfl rfl rfl (by decide) ?_;(repeat' (first | refine Fl.ldJ rfl rfl rfl rfl rfl rfl rfl rfl ?_ | refine Fl.v rfl rfl rfl ?_ | refine Fl.b rfl rfl rfl rfl ?_ | fail));refine Fl.ixP rfl rfl rfl rfl rfl 5 rfl rfl rfl rfl (by decide) ?_;(repeat' (first | refine Fl.ldJ rfl rfl rfl rfl rfl rfl rfl rfl ?_ | refine Fl.v rfl rfl rfl ?_ | refine Fl.b rfl rfl rfl rfl ?_ | fail));refine Fl.ixP rfl rfl rfl rfl rfl 0 rfl rfl rfl rfl (by decide) ?_;(repeat' (first | refine Fl.ldJ rfl rfl rfl rfl rfl rfl rfl rfl ?_ | refine Fl.v rfl rfl rfl ?_ | refine Fl.b rfl rfl rfl rfl ?_ | fail));refine qc (kSub_ok 16 (by omega) (varU 16 5) (varU 16 0) df17 (by kernel_rfl) (by kernel_rfl) (by kernel_rfl)) ?_;(repeat' (first | refine Fl.ldJ rfl rfl rfl rfl rfl rfl rfl rfl ?_ | refine Fl.v rfl rfl rfl ?_ | refine Fl.b rfl rfl rfl rfl ?_ | fail));refine ql eP [mkP 16 (varU 16 5), mkP 16 df17] ?_;(repeat' (first | refine Fl.ldJ rfl rfl rfl rfl rfl rfl rfl rfl ?_ | refine Fl.v rfl rfl rfl ?_ | refine Fl.b rfl rfl rfl rfl ?_ | fail));refine Fl.call rfl (show PureFn Tryz.prog _ _ (aP (mkP 16 df18)) from kMul_ok 16 (by omega) [varU 16 5, df17] (by simp) (by kernel_rfl)) rfl rfl rfl (LeL.refl _) ?_;(repeat' (first | refine Fl.ldJ rfl rfl rfl rfl rfl rfl rfl rfl ?_ | refine Fl.v rfl rfl rfl ?_ | refine Fl.b rfl rfl rfl rfl ?_ | fail));refine ql eP [mkP 16 (varU 16 0), mkP 16 df18] ?_;(repeat' (first | refine Fl.ldJ rfl rfl rfl rfl rfl rfl rfl rfl ?_ | refine Fl.v rfl rfl rfl ?_ | refine Fl.b rfl rfl rfl rfl ?_ | fail));refine Fl.call rfl (show PureFn Tryz.prog _ _ (aP (mkP 16 df19)) from kAdd_ok 16 (by omega) [varU 16 0, df18] (by simp) (by kernel_rfl)) rfl rfl rfl (LeL.refl _) ?_;(repeat' (first | refine Fl.ldJ rfl rfl rfl rfl rfl rfl rfl rfl ?_ | refine Fl.v rfl rfl rfl ?_ | refine Fl.b rfl rfl rfl rfl ?_ | fail));refine Fl.call rfl (kEq_ok 16 (by omega) (varU 16 6) df19 df20 (by kernel_rfl) (by kernel_rfl) (by kernel_rfl) (okLk_ok (V := 16) (ls := [df20]) (by kernel_rfl) _ (by simp))) rfl rfl rfl (LeL.refl _) ?_;(repeat' (first | refine Fl.ldJ rfl rfl rfl rfl rfl rfl rfl rfl ?_ | refine Fl.v rfl rfl rfl ?_ | refine Fl.b rfl rfl rfl rfl ?_ | fail));refine Fl.ixP rfl rfl rfl rfl rfl 7 rfl rfl rfl rfl (by decide) ?_;(repeat' (first | refine Fl.ldJ rfl rfl rfl rfl rfl rfl rfl rfl ?_ | refine Fl.v rfl rfl rfl ?_ | refine Fl.b rfl rfl rfl rfl ?_ | fail));refine Fl.ixP rfl rfl rfl rfl rfl 1 rfl rfl rfl rfl (by decide) ?_;(repeat' (first | refine Fl.ldJ rfl rfl rfl rfl rfl rfl rfl rfl ?_ | refine Fl.v rfl rfl rfl ?_ | refine Fl.b rfl rfl rfl rfl ?_ | fail));refine qc (kN_ok 16 2 (by omega) (by omega) (by omega)) ?_;(repeat' (first | refine Fl.ldJ rfl rfl rfl rfl rfl rfl rfl rfl ?_ | refine Fl.v rfl rfl rfl ?_ | refine Fl.b rfl rfl rfl rfl ?_ | fail));refine Fl.ixP rfl rfl rfl rfl rfl 10 rfl rfl rfl rfl (by decide) ?_;(repeat' (first | refine Fl.ldJ rfl rfl rfl rfl rfl rfl rfl rfl ?_ | refine Fl.v rfl rfl rfl ?_ | refine Fl.b rfl rfl rfl rfl ?_ | fail));refine Fl.ixP rfl rfl rfl rfl rfl 2 rfl rfl rfl rfl (by decide) ?_;(repeat' (first | refine Fl.ldJ rfl rfl rfl rfl rfl rfl rfl rfl ?_ | refine Fl.v rfl rfl rfl ?_ | refine Fl.b rfl rfl rfl rfl ?_ | fail));refine ql eP [mkP 16 (conU 16 2), mkP 16 (varU 16 10), mkP 16 (varU 16 2)] ?_;(repeat' (first | refine Fl.ldJ rfl rfl rfl rfl rfl rfl rfl rfl ?_ | refine Fl.v rfl rfl rfl ?_ | refine Fl.b rfl rfl rfl rfl ?_ | fail));refine Fl.call rfl (show PureFn Tryz.prog _ _ (aP (mkP 16 df21)) from kMul_ok 16 (by omega) [conU 16 2, varU 16 10, varU 16 2] (by simp) (by kernel_rfl)) rfl rfl rfl (LeL.refl _) ?_;(repeat' (first | refine Fl.ldJ rfl rfl rfl rfl rfl rfl rfl rfl ?_ | refine Fl.v rfl rfl rfl ?_ | refine Fl.b rfl rfl rfl rfl ?_ | fail));refine ql eP [mkP 16 (varU 16 1), mkP 16 df21] ?_;(repeat' (first | refine Fl.ldJ rfl rfl rfl rfl rfl rfl rfl rfl ?_ | refine Fl.v rfl rfl rfl ?_ | refine Fl.b rfl rfl rfl rfl ?_ | fail));refine Fl.call rfl (show PureFn Tryz.prog _ _ (aP (mkP 16 df22)) from kAdd_ok 16 (by omega) [varU 16 1, df21] (by simp) (by kernel_rfl)) rfl rfl rfl (LeL.refl _) ?_;(repeat' (first | refine Fl.ldJ rfl rfl rfl rfl rfl rfl rfl rfl ?_ | refine Fl.v rfl rfl rfl ?_ | refine Fl.b rfl rfl rfl rfl ?_ | fail));refine Fl.call rfl (kEq_ok 16 (by omega) (varU 16 7) df22 df23 (by kernel_rfl) (by kernel_rfl) (by kernel_rfl) (okLk_ok (V := 16) (ls := [df23]) (by kernel_rfl) _ (by simp))) rfl rfl rfl (LeL.refl _) ?_;(repeat' (first | refine Fl.ldJ rfl rfl rfl rfl rfl rfl rfl rfl ?_ | refine Fl.v rfl rfl rfl ?_ | refine Fl.b rfl rfl rfl rfl ?_ | fail));refine Fl.ixP rfl rfl rfl rfl rfl 8 rfl rfl rfl rfl (by decide) ?_;(repeat' (first | refine Fl.ldJ rfl rfl rfl rfl rfl rfl rfl rfl ?_ | refine Fl.v rfl rfl rfl ?_ | refine Fl.b rfl rfl rfl rfl ?_ | fail));refine Fl.ixP rfl rfl rfl rfl rfl 6 rfl rfl rfl rfl (by decide) ?_;(repeat' (first | refine Fl.ldJ rfl rfl rfl rfl rfl rfl rfl rfl ?_ | refine Fl.v rfl rfl rfl ?_ | refine Fl.b rfl rfl rfl rfl ?_ | fail));refine Fl.ixP rfl rfl rfl rfl rfl 7 rfl rfl rfl rfl (by decide) ?_;(repeat' (first | refine Fl.ldJ rfl rfl rfl rfl rfl rfl rfl rfl ?_ | refine Fl.v rfl rfl rfl ?_ | refine Fl.b rfl rfl rfl rfl ?_ | fail));refine Fl.ioV rfl rfl [(900, 1), (901, 4)] (show IoFn Tryz.prog _ _ _ (.ret (aP (mkP 16 df27))) _ from dfPell_ok (varU 16 6) (varU 16 7) df25 df27 (by kernel_rfl) (by kernel_rfl) (by kernel_rfl) (by kernel_rfl) (by kernel_rfl) (by kernel_rfl) (by kernel_rfl)) rfl rfl (LeL.refl _) rfl ⟨⟨⟨_, rfl, BLe.cells (LeL.refl _)⟩, rfl⟩, ⟨⟨_, rfl, BLe.cells (LeL.refl _)⟩, rfl⟩, trivial⟩ rfl rfl rfl rfl rfl ?_;(repeat' (first | refine Fl.ldJ rfl rfl rfl rfl rfl rfl rfl rfl ?_ | refine Fl.v rfl rfl rfl ?_ | refine Fl.b rfl rfl rfl rfl ?_ | fail));refine Fl.call rfl (kEq_ok 16 (by omega) (varU 16 8) df27 df28 (by kernel_rfl) (by kernel_rfl) (by kernel_rfl) (okLk_ok (V := 16) (ls := [df28]) (by kernel_rfl) _ (by simp))) rfl rfl rfl (LeL.refl _) ?_;(repeat' (first | refine Fl.ldJ rfl rfl rfl rfl rfl rfl rfl rfl ?_ | refine Fl.v rfl rfl rfl ?_ | refine Fl.b rfl rfl rfl rfl ?_ | fail));refine Fl.ixP rfl rfl rfl rfl rfl 3 rfl rfl rfl rfl (by decide) ?_;(repeat' (first | refine Fl.ldJ rfl rfl rfl rfl rfl rfl rfl rfl ?_ | refine Fl.v rfl rfl rfl ?_ | refine Fl.b rfl rfl rfl rfl ?_ | fail));refine Fl.ixP rfl rfl rfl rfl rfl 5 rfl rfl rfl rfl (by decide) ?_;(repeat' (first | refine Fl.ldJ rfl rfl rfl rfl rfl rfl rfl rfl ?_ | refine Fl.v rfl rfl rfl ?_ | refine Fl.b rfl rfl rfl rfl ?_ | fail));refine Fl.ixP rfl rfl rfl rfl rfl 8 rfl rfl rfl rfl (by decide) ?_;(repeat' (first | refine Fl.ldJ rfl rfl rfl rfl rfl rfl rfl rfl ?_ | refine Fl.v rfl rfl rfl ?_ | refine Fl.b rfl rfl rfl rfl ?_ | fail));refine ql eP [mkP 16 (varU 16 3), mkP 16 (varU 16 5), mkP 16 (varU 16 8)] ?_;(repeat' (first | refine Fl.ldJ rfl rfl rfl rfl rfl rfl rfl rfl ?_ | refine Fl.v rfl rfl rfl ?_ | refine Fl.b rfl rfl rfl rfl ?_ | fail));refine Fl.call rfl (show PureFn Tryz.prog _ _ (aP (mkP 16 df29)) from kMul_ok 16 (by omega) [varU 16 3, varU 16 5, varU 16 8] (by simp) (by kernel_rfl)) rfl rfl rfl (LeL.refl _) ?_;(repeat' (first | refine Fl.ldJ rfl rfl rfl rfl rfl rfl rfl rfl ?_ | refine Fl.v rfl rfl rfl ?_ | refine Fl.b rfl rfl rfl rfl ?_ | fail));refine Fl.ixP rfl rfl rfl rfl rfl 13 rfl rfl rfl rfl (by decide) ?_;(repeat' (first | refine Fl.ldJ rfl rfl rfl rfl rfl rfl rfl rfl ?_ | refine Fl.v rfl rfl rfl ?_ | refine Fl.b rfl rfl rfl rfl ?_ | fail));refine Fl.ixP rfl rfl rfl rfl rfl 13 rfl rfl rfl rfl (by decide) ?_;(repeat' (first | refine Fl.ldJ rfl rfl rfl rfl rfl rfl rfl rfl ?_ | refine Fl.v rfl rfl rfl ?_ | refine Fl.b rfl rfl rfl rfl ?_ | fail));refine ql eP [mkP 16 (varU 16 13), mkP 16 (varU 16 13)] ?_;(repeat' (first | refine Fl.ldJ rfl rfl rfl rfl rfl rfl rfl rfl ?_ | refine Fl.v rfl rfl rfl ?_ | refine Fl.b rfl rfl rfl rfl ?_ | fail));refine Fl.call rfl (show PureFn Tryz.prog _ _ (aP (mkP 16 df30)) from kMul_ok 16 (by omega) [varU 16 13, varU 16 13] (by simp) (by kernel_rfl)) rfl rfl rfl (LeL.refl _) ?_;(repeat' (first | refine Fl.ldJ rfl rfl rfl rfl rfl rfl rfl rfl ?_ | refine Fl.v rfl rfl rfl ?_ | refine Fl.b rfl rfl rfl rfl ?_ | fail));refine Fl.call rfl (kEq_ok 16 (by omega) df29 df30 df31 (by kernel_rfl) (by kernel_rfl) (by kernel_rfl) (okLk_ok (V := 16) (ls := [df31]) (by kernel_rfl) _ (by simp))) rfl rfl rfl (LeL.refl _) ?_;(repeat' (first | refine Fl.ldJ rfl rfl rfl rfl rfl rfl rfl rfl ?_ | refine Fl.v rfl rfl rfl ?_ | refine Fl.b rfl rfl rfl rfl ?_ | fail));refine Fl.ixP rfl rfl rfl rfl rfl 7 rfl rfl rfl rfl (by decide) ?_;(repeat' (first | refine Fl.ldJ rfl rfl rfl rfl rfl rfl rfl rfl ?_ | refine Fl.v rfl rfl rfl ?_ | refine Fl.b rfl rfl rfl rfl ?_ | fail));refine Fl.ixP rfl rfl rfl rfl rfl 2 rfl rfl rfl rfl (by decide) ?_;(repeat' (first | refine Fl.ldJ rfl rfl rfl rfl rfl rfl rfl rfl ?_ | refine Fl.v rfl rfl rfl ?_ | refine Fl.b rfl rfl rfl rfl ?_ | fail));refine Fl.ixP rfl rfl rfl rfl rfl 5 rfl rfl rfl rfl (by decide) ?_;(repeat' (first | refine Fl.ldJ rfl rfl rfl rfl rfl rfl rfl rfl ?_ | refine Fl.v rfl rfl rfl ?_ | refine Fl.b rfl rfl rfl rfl ?_ | fail));refine Fl.ixP rfl rfl rfl rfl rfl 11 rfl rfl rfl rfl (by decide) ?_;(repeat' (first | refine Fl.ldJ rfl rfl rfl rfl rfl rfl rfl rfl ?_ | refine Fl.v rfl rfl rfl ?_ | refine Fl.b rfl rfl rfl rfl ?_ | fail));refine ql eP [mkP 16 (varU 16 5), mkP 16 (varU 16 11)] ?_;(repeat' (first | refine Fl.ldJ rfl rfl rfl rfl rfl rfl rfl rfl ?_ | refine Fl.v rfl rfl rfl ?_ | refine Fl.b rfl rfl rfl rfl ?_ | fail));refine Fl.call rfl (show PureFn Tryz.prog _ _ (aP (mkP 16 df32)) from kMul_ok 16 (by omega) [varU 16 5, varU 16 11] (by simp) (by kernel_rfl)) rfl rfl rfl (LeL.refl _) ?_;(repeat' (first | refine Fl.ldJ rfl rfl rfl rfl rfl rfl rfl rfl ?_ | refine Fl.v rfl rfl rfl ?_ | refine Fl.b rfl rfl rfl rfl ?_ | fail));refine ql eP [mkP 16 (varU 16 2), mkP 16 df32] ?_;(repeat' (first | refine Fl.ldJ rfl rfl rfl rfl rfl rfl rfl rfl ?_ | refine Fl.v rfl rfl rfl ?_ | refine Fl.b rfl rfl rfl rfl ?_ | fail));refine Fl.call rfl (show PureFn Tryz.prog _ _ (aP (mkP 16 df33)) from kAdd_ok 16 (by omega) [varU 16 2, df32] (by simp) (by kernel_rfl)) rfl rfl rfl (LeL.refl _) ?_;(repeat' (first | refine Fl.ldJ rfl rfl rfl rfl rfl rfl rfl rfl ?_ | refine Fl.v rfl rfl rfl ?_ | refine Fl.b rfl rfl rfl rfl ?_ | fail));refine Fl.call rfl (kEq_ok 16 (by omega) (varU 16 7) df33 df34 (by kernel_rfl) (by kernel_rfl) (by kernel_rfl) (okLk_ok (V := 16) (ls := [df34]) (by kernel_rfl) _ (by simp))) rfl rfl rfl (LeL.refl _) ?_;(repeat' (first | refine Fl.ldJ rfl rfl rfl rfl rfl rfl rfl rfl ?_ | refine Fl.v rfl rfl rfl ?_ | refine Fl.b rfl rfl rfl rfl ?_ | fail));refine Fl.ixP rfl rfl rfl rfl rfl 2 rfl rfl rfl rfl (by decide) ?_;(repeat' (first | refine Fl.ldJ rfl rfl rfl rfl rfl rfl rfl rfl ?_ | refine Fl.v rfl rfl rfl ?_ | refine Fl.b rfl rfl rfl rfl ?_ | fail));refine Fl.ixP rfl rfl rfl rfl rfl 1 rfl rfl rfl rfl (by decide) ?_;(repeat' (first | refine Fl.ldJ rfl rfl rfl rfl rfl rfl rfl rfl ?_ | refine Fl.v rfl rfl rfl ?_ | refine Fl.b rfl rfl rfl rfl ?_ | fail));refine Fl.ixP rfl rfl rfl rfl rfl 12 rfl rfl rfl rfl (by decide) ?_;(repeat' (first | refine Fl.ldJ rfl rfl rfl rfl rfl rfl rfl rfl ?_ | refine Fl.v rfl rfl rfl ?_ | refine Fl.b rfl rfl rfl rfl ?_ | fail));refine ql eP [mkP 16 (varU 16 1), mkP 16 (varU 16 12)] ?_;(repeat' (first | refine Fl.ldJ rfl rfl rfl rfl rfl rfl rfl rfl ?_ | refine Fl.v rfl rfl rfl ?_ | refine Fl.b rfl rfl rfl rfl ?_ | fail));refine Fl.call rfl (show PureFn Tryz.prog _ _ (aP (mkP 16 df35)) from kAdd_ok 16 (by omega) [varU 16 1, varU 16 12] (by simp) (by kernel_rfl)) rfl rfl rfl (LeL.refl _) ?_;(repeat' (first | refine Fl.ldJ rfl rfl rfl rfl rfl rfl rfl rfl ?_ | refine Fl.v rfl rfl rfl ?_ | refine Fl.b rfl rfl rfl rfl ?_ | fail));refine Fl.call rfl (kEq_ok 16 (by omega) (varU 16 2) df35 df36 (by kernel_rfl) (by kernel_rfl) (by kernel_rfl) (okLk_ok (V := 16) (ls := [df36]) (by kernel_rfl) _ (by simp))) rfl rfl rfl (LeL.refl _) ?_;(repeat' (first | refine Fl.ldJ rfl rfl rfl rfl rfl rfl rfl rfl ?_ | refine Fl.v rfl rfl rfl ?_ | refine Fl.b rfl rfl rfl rfl ?_ | fail));refine ql eL [linkU 16 0 [df1], linkU 16 0 [df3], linkU 16 0 [df8], linkU 16 0 [df11], linkU 16 0 [df16], linkU 16 0 [df20], linkU 16 0 [df23], linkU 16 0 [df28], linkU 16 0 [df31], linkU 16 0 [df34], linkU 16 0 [df36]] ?_;(repeat' (first | refine Fl.ldJ rfl rfl rfl rfl rfl rfl rfl rfl ?_ | refine Fl.v rfl rfl rfl ?_ | refine Fl.b rfl rfl rfl rfl ?_ | fail));(repeat' (first |refine Fl.nil (fun _ => by kernel_rfl) ?_|fail));refine ⟨?_⟩;(repeat' (first |apply qt));exact RetOk.of rfl (AV.Le.refl _)
  ·(repeat' (first |refine qv ?_ |apply qn |apply qs |apply qr |(refine AWP.condD rfl ?_ ?_ <;> intro _ <;> try (exfalso; omega)) |apply qb |apply qk));refine qc (kV_ok 16 i (by omega) h) ?_;skip;refine Fl.ixP rfl rfl rfl rfl rfl i rfl rfl rfl rfl h ?_;obtain ⟨j, hj⟩ : ∃ j, j = i + 1 := ⟨_, rfl⟩;rcases (show i = 0 ∨ i = 1 ∨ i = 2 ∨ i = 3 ∨ i = 4 ∨ i = 5 ∨ i = 6 ∨ i = 7 ∨ i = 8 ∨ i = 9 ∨ i = 10 ∨ i = 11 ∨ i = 12 ∨ i = 13 ∨ i = 14 ∨ i = 15 by omega) with rfl | rfl | rfl | rfl | rfl | rfl | rfl | rfl | rfl | rfl | rfl | rfl | rfl | rfl | rfl | rfl
   all_goals
    (repeat' (first |refine qv ?_ |apply qn |apply qr |refine qw ?_ |refine qe ?_|fail));refine LoopEnd.of j (by omega) (by omega) ?_;subst hj;refine Ent.of [] ?_ ?_ rfl rfl;(repeat' (first |exact True.intro |refine ⟨⟨AV.Le.refl _, rfl⟩, ?_⟩ |refine ⟨⟨⟨_, rfl, BLe.cells (LeL.refl _)⟩, rfl⟩, ?_⟩|fail))
end Go.Proofs.YtcaecieigoplbaaGreat
/- psi modulo chi: plain. -/
namespace Go.AL
theorem psi_base (a b : Int) : ∀ n : Nat, ∃ u v, chiN a n = chiN b n + (a - b) * u ∧ psiN a n = psiN b n + (a - b) * v
 | 0 => ⟨0, 0, by simp [chi_zero], by simp [psi_zero]⟩
 | n + 1 => by
  obtain ⟨u, v, h1, h2⟩ := psi_base a b n;refine ⟨chiN b n + a * u + (a + b) * psiN b n + (a * a - 1) * v, u + psiN b n + a * v, ?_, ?_⟩
  ·rw [chi_succ, chi_succ, h1, h2]; grind
  ·rw [psi_succ, psi_succ, h1, h2]; grind
theorem psi_index (a : Int) : ∀ n : Nat, ∃ u v, chiN a n = 1 + (a - 1) * u ∧ psiN a n = n + (a - 1) * v
 | 0 => ⟨0, 0, by simp [chi_zero], by simp [psi_zero]⟩
 | n + 1 => by
  obtain ⟨u, v, h1, h2⟩ := psi_index a n;refine ⟨a * u + 1 + (a + 1) * (n + (a - 1) * v), u + n + a * v, ?_, ?_⟩
  ·rw [chi_succ, h1, h2]; grind
  ·rw [psi_succ, h1, h2]
   have : ((n + 1 : Nat) : Int) = n + 1 := by omega
   rw [this];grind
end Go.AL
/- The eleven equations: plain. -/
namespace Go.AL
theorem psi_ge_idx {a : Int} (ha : 2 ≤ a) : ∀ n : Nat, (n : Int) ≤ psiN a n
 | 0 => by simp [psi_zero]
 | n + 1 => by have := psi_lt ha (show n < n + 1 by omega); have := psi_ge_idx ha n; omega
theorem g_mod {a c f g m2 : Int} (hg : g = a + f * (f - a)) (hf : f = 1 + 2 * c * m2) : g - 1 = 2 * c * (m2 * (2 + 2 * c * m2 - a)) := by rw [hg, hf]; grind
theorem f_mod {a c d e f i : Int} (e4 : e = 2 * (i + 1) * (c * c) * d) (e5 : f = (a * a - 1) * (e * e) + 1) : f = 1 + 2 * c * ((a * a - 1) * ((i + 1) * c * d * e)) := by
  have : e * e = 2 * c * ((i + 1) * c * d * e) := by conv => lhs; arg 1; rw [e4]
                                                     grind
  rw [e5, this]; grind
end Go.AL
/- What define.Witness finds solves the equations. Plain. -/
namespace Go.AL
def DfEq (a b c d e f g h I i j t v w k l : Int) : Prop :=
  a = k + 2 ∧ b = l + 1 ∧ d = (a * a - 1) * (c * c) + 1 ∧ e = 2 * (i + 1) * (c * c) * d ∧ f = (a * a - 1) * (e * e) + 1 ∧ g = a + f * (f - a) ∧ h = b + 2 * j * c ∧ I = (g * g - 1) * (h * h) + 1 ∧ d * f * I = w * w ∧ h = c + f * t ∧ c = b + v
theorem cp_base_mono {a g : Int} (ha : 2 ≤ a) (h : a ≤ g) : ∀ n, chiN a n ≤ chiN g n ∧ psiN a n ≤ psiN g n
 | 0 => by simp [chi_zero, psi_zero]
 | n + 1 => by
  obtain ⟨h1, h2⟩ := cp_base_mono ha h n;obtain ⟨p1, p2, _⟩ := cp_pos ha n;obtain ⟨q1, q2, _⟩ := cp_pos (show 2 ≤ g by omega) n;rw [chi_succ, chi_succ, psi_succ, psi_succ];have e1 : a * chiN a n ≤ g * chiN g n := Int.mul_le_mul h h1 (by omega) (by omega);have e0 : a * a ≤ g * g := Int.mul_le_mul h h (by omega) (by omega);have ea : 2 * 2 ≤ a * a := Int.mul_le_mul ha ha (by omega) (by omega);have e2 : (a * a - 1) * psiN a n ≤ (g * g - 1) * psiN g n := Int.mul_le_mul (by omega) h2 p2 (by omega);have e3 : a * psiN a n ≤ g * psiN g n := Int.mul_le_mul h h2 p2 (by omega);omega
theorem pell' (a : Int) (n : Nat) : chiN a n * chiN a n = (a * a - 1) * (psiN a n * psiN a n) + 1 := by
 have := pell a n;omega
theorem dn_found {a b : Int} {n : Nat} (h2 : 2 ≤ a) (hb : 1 ≤ b) (hn : 1 ≤ n) (hd : dU a b ∣ psiN a n) : DfEq a b (dn a b n).c (dn a b n).d (dn a b n).e (dn a b n).f (dn a b n).G (dn a b n).h (dn a b n).I (dn a b n).i (dn a b n).j (dn a b n).t (dn a b n).v (dn a b n).w (a - 2) (b - 1) ∧ ∀ x ∈ (dn a b n).L a b, 0 ≤ x := by
 obtain ⟨e1, e2, e3, e4, e5, e6, e7⟩ := dn_pos1 (n := n) h2 hb hn;obtain ⟨p1, p2⟩ := dn_pos2 (a := a) (b := b) (n := n) hb e6;have wc : (dn a b n).c = psiN a b.toNat := rfl;have wx : (dn a b n).x = chiN a b.toNat := rfl;have wd : (dn a b n).d = (dn a b n).x * (dn a b n).x := rfl;have wu : (dn a b n).u = 2 * (dn a b n).c * (dn a b n).c * (dn a b n).d := rfl;have we : (dn a b n).e = psiN a n := rfl;have ws : (dn a b n).s = chiN a n := rfl;have wf : (dn a b n).f = (dn a b n).s * (dn a b n).s := rfl;have wG : (dn a b n).G = a + (dn a b n).f * ((dn a b n).f - a) := rfl;have wh : (dn a b n).h = psiN (dn a b n).G b.toNat := rfl;have wp : (dn a b n).p = chiN (dn a b n).G b.toNat := rfl;have w1 : (dn a b n).I = (dn a b n).p * (dn a b n).p := rfl;have w2 : (dn a b n).i = (dn a b n).e / (dn a b n).u - 1 := rfl;have w3 : (dn a b n).j = ((dn a b n).h - b) / (2 * (dn a b n).c) := rfl;have w4 : (dn a b n).t = ((dn a b n).h - (dn a b n).c) / (dn a b n).f := rfl;have w5 : (dn a b n).v = (dn a b n).c - b := rfl;have w6 : (dn a b n).w = (dn a b n).x * (dn a b n).s * (dn a b n).p := rfl;rw [← dn_u a b n, ← we] at hd;have q1 := pell' a b.toNat;have q2 := pell' a n;have q3 := pell' (dn a b n).G b.toNat;rw [← wc, ← wx, ← wd] at q1;rw [← we, ← ws, ← wf] at q2;rw [← wh, ← wp, ← w1] at q3;obtain ⟨_, v1, _, r1⟩ := psi_index (dn a b n).G b.toNat;rw [← wh] at r1;obtain ⟨_, v2, _, r2⟩ := psi_base (dn a b n).G a b.toNat;rw [← wh, ← wc] at r2;have g1 := psi_ge_idx h2 b.toNat;rw [← wc] at g1;have hfa : 0 ≤ (dn a b n).f * ((dn a b n).f - a) := Int.mul_nonneg (by omega) (by omega);have g2 := psi_ge_idx e6 b.toNat;rw [← wh] at g2;have g3 := (cp_base_mono h2 (show a ≤ (dn a b n).G by rw [wG]; omega) b.toNat).2;rw [← wc, ← wh] at g3
 have hbn : ((b.toNat : Nat) : Int) = b := by omega
 rw [hbn] at g1 g2 r1;simp only [DN.L]
 generalize dn a b n = D at *
 obtain ⟨c, x, d, u, e, s, f, G, h, p, I, i, j, t, v, w⟩ := D
 simp only at *
 clear wc wx we ws wh wp;obtain ⟨k, hk⟩ := hd
 have hk1 : 1 ≤ k := by
  rcases (show k ≤ 0 ∨ 1 ≤ k by omega) with h0 | h0
  ·exfalso;have : u * k ≤ u * 0 := Int.mul_le_mul_of_nonneg_left h0 (by omega);omega
  ·exact h0
 have hi : i = k - 1 := by rw [w2, hk, Int.mul_ediv_cancel_left _ (by omega)]
 have E4 : e = 2 * (i + 1) * (c * c) * d := by rw [hk, hi, wu]; grind
 have hf2 := f_mod (a := a) (c := c) (d := d) (e := e) (f := f) (i := i) E4 q2;have hg2 := g_mod wG hf2;obtain ⟨m, hm⟩ : ∃ m, G - 1 = 2 * c * m := ⟨_, hg2⟩
 have hj0 : h - b = 2 * c * (m * v1) := by rw [r1, hm]; grind
 have hj : j = m * v1 := by rw [w3, hj0, Int.mul_ediv_cancel_left _ (by omega)]
 have ht0 : h - c = f * ((f - a) * v2) := by
  have : G - a = f * (f - a) := by omega
  rw [r2, this]; grind
 have ht : t = (f - a) * v2 := by rw [w4, ht0, Int.mul_ediv_cancel_left _ (by omega)]
 have hx2 : 1 ≤ x * x := Int.le_trans e2 (mul_ge (by omega) e2);have hp2 : 1 ≤ p * p := Int.le_trans p2 (mul_ge (by omega) p2);refine ⟨⟨by omega, by omega, q1, E4, q2, wG, ?_, q3, ?_, ?_, by omega⟩, ?_⟩
 ·have : 2 * j * c = 2 * c * (m * v1) := by rw [hj]; grind
  omega
 ·rw [wd, wf, w1, w6]; grind
 ·rw [ht]; omega
 ·simp only [List.forall_mem_cons];refine ⟨by omega, by omega, by omega, by omega, by omega, by omega, by omega, by omega, by omega, by omega, ?_, ?_, by omega, ?_, by omega, by omega, by simp⟩
  ·rw [w3]; exact Int.ediv_nonneg (by omega) (by omega)
  ·rw [w4]; exact Int.ediv_nonneg (by omega) (by omega)
  ·rw [w6]; exact Int.mul_nonneg (Int.mul_nonneg (by omega) (by omega)) (by omega)
end Go.AL
/- The rank where b is 1; small cases; how great the numbers are. Plain. -/
namespace Go.AL
theorem psi_neg (a : Int) : ∀ n : Nat, ∃ s u v : Int, (s = 1 ∨ s = -1) ∧ chiN a n = s + (a + 1) * u ∧ psiN a n = -s * n + (a + 1) * v
 | 0 => ⟨1, 0, 0, .inl rfl, by simp [chi_zero], by simp [psi_zero]⟩
 | n + 1 => by
  obtain ⟨s, u, v, hs, h1, h2⟩ := psi_neg a n;refine ⟨-s, a * u + s + (a - 1) * (-s * n + (a + 1) * v), u + a * v - s * n, by omega, ?_, ?_⟩
  ·rw [chi_succ, h1, h2]; grind
  ·rw [psi_succ, h1, h2]
   have : ((n + 1 : Nat) : Int) = n + 1 := by omega
   rw [this]; grind
theorem cp_two (a : Int) : chiN a 2 = 2 * (a * a) - 1 ∧ psiN a 2 = 2 * a := by
 constructor
 ·show chiN a (0 + 1 + 1) = _;simp only [chi_succ, psi_succ, chi_zero, psi_zero]; grind
 ·show psiN a (0 + 1 + 1) = _;simp only [chi_succ, psi_succ, chi_zero, psi_zero]; grind
theorem cp_sq (a : Int) : ∀ k : Nat, chiN a (2 * k) = chiN (2 * (a * a) - 1) k ∧ psiN a (2 * k) = 2 * a * psiN (2 * (a * a) - 1) k
 | 0 => by simp [chi_zero, psi_zero]
 | k + 1 => by
  obtain ⟨h1, h2⟩ := cp_sq a k;obtain ⟨e1, e2⟩ := cp_add a (2 * k) 2;obtain ⟨c2, p2⟩ := cp_two a;rw [show 2 * (k + 1) = 2 * k + 2 by omega, e1, e2, h1, h2, c2, p2, chi_succ, psi_succ];constructor <;> grind
theorem cp_one (a : Int) : chiN a 1 = a ∧ psiN a 1 = 1 := by
 constructor
 ·show chiN a (0 + 1) = _;rw [chi_succ, chi_zero, psi_zero]; omega
 ·show psiN a (0 + 1) = _;rw [psi_succ, chi_zero, psi_zero]; omega
theorem dU_one (a : Int) : dU a 1 = 2 * (a * a) := by
 unfold dU;rw [show (1 : Int).toNat = 1 from rfl, (cp_one a).1, (cp_one a).2]; omega
theorem rank1_dvd (n : Nat) : dU n 1 ∣ psiN n (2 * n) := by
 rw [dU_one, (cp_sq n n).2];obtain ⟨s, _, v, _, _, h⟩ := psi_neg (2 * ((n : Int) * n) - 1) n;rw [h];exact ⟨-s + 2 * n * v, by grind⟩
theorem RankIs.le {a m : Int} {N n k : Nat} (h : RankIs a m N n) (hk : 1 ≤ k) (hd : m ∣ psiN a k) : n ≤ k := by
 rcases Nat.lt_or_ge k n with hl | hl
 ·exact absurd hd (h.2.2.2 k hk hl)
 ·exact hl
theorem rank_small {a m : Int} {N k : Nat} (hk : 1 ≤ k) (hN : k ≤ N) (hd : m ∣ psiN a k) : ∃ n, RankIs a m N n ∧ n ≤ k := by
 obtain ⟨n, hn⟩ := rank_ex (a := a) (m := m) (most := N) fun h => h k hk hN hd;exact ⟨n, hn, hn.le hk hd⟩
def BW : List Int → List Nat → Prop
  | [], _ => True
  | x :: X, m :: M => (0 ≤ x ∧ x ≤ 2 ^ m) ∧ BW X M
  | _ :: _, [] => False
def dotE : List Nat → List Int → Nat
  | m :: M, e :: E => m * e.toNat + dotE M E
  | _, _ => 0
theorem prodE_boundW : ∀ {X : List Int} {M : List Nat} {E : List Int}, BW X M → (prodE X E).natAbs ≤ 2 ^ dotE M E
 | [], M, E, _ => by
  show 1 ≤ _;exact Nat.two_pow_pos _
 | _ :: _, _, [], _ => by
  show 1 ≤ _;exact Nat.two_pow_pos _
 | x :: X, [], _ :: _, h => h.elim
 | x :: X, m :: M, e :: E, h => by
  have ih := prodE_boundW (E := E) h.2;simp only [prodE, dotE];rw [Int.natAbs_mul, Nat.pow_add, Int.natAbs_pow, Nat.pow_mul];refine Nat.mul_le_mul (Nat.pow_le_pow_left ?_ _) ih
  have h1 : ((x.natAbs : Nat) : Int) ≤ ((2 ^ m : Nat) : Int) := by
   rw [Int.natCast_pow];have := h.1;show ((x.natAbs : Nat) : Int) ≤ (2 : Int) ^ m;omega
  exact Int.ofNat_le.1 h1
theorem auv_boundW {K : Nat} {X : List Int} {M : List Nat} (hX : BW X M) : ∀ {p : List UT}, (∀ u ∈ p, dotE M u.2 ≤ K) → 0 ≤ auv X p ∧ auv X p ≤ ((absU p * 2 ^ K : Nat) : Int)
 | [], _ => by
  refine ⟨by simp [auv, sumL], ?_⟩;show (0 : Int) ≤ _;omega
 | u :: p, h => by
  have ih := auv_boundW (p := p) hX fun v hv => h v (by simp [hv]);have hb := prodE_boundW (E := u.2) hX;have hle : 2 ^ dotE M u.2 ≤ 2 ^ K := Nat.pow_le_pow_right (by omega) (h u (by simp))
  have hu : (u.1 * prodE X u.2).natAbs ≤ u.1.natAbs * 2 ^ K := by
   rw [Int.natAbs_mul];exact Nat.mul_le_mul (Nat.le_refl _) (Nat.le_trans hb hle)
  unfold auv at ih ⊢;simp only [List.map_cons, sumL, absU];rw [Nat.add_mul]
  generalize u.1.natAbs * 2 ^ K = A at *
  generalize absU p * 2 ^ K = B at *
  omega
def okW (K c : Nat) (M : List Nat) (p : List UT) : Bool := p.all (fun u => decide (dotE M u.2 ≤ K)) && Nat.ble (absU p) (2 ^ c)
theorem auv_fitW {K c : Nat} {X : List Int} {M : List Nat} (hX : BW X M) {p : List UT} (h : okW K c M p = true) (hm : c + K < 131072) : Fit (auv X p) := by
 simp only [okW, Bool.and_eq_true, List.all_eq_true, decide_eq_true_eq] at h;have h2 : absU p ≤ 2 ^ c := Nat.le_of_ble_eq_true h.2;obtain ⟨b0, b1⟩ := auv_boundW hX h.1;have h3 : absU p * 2 ^ K ≤ 2 ^ c * 2 ^ K := Nat.mul_le_mul h2 (Nat.le_refl _);rw [← Nat.pow_add] at h3;obtain ⟨N, hN⟩ : ∃ N : Nat, N = 131072 := ⟨_, rfl⟩;have h4 : 2 ^ (c + K) < 2 ^ N := Nat.pow_lt_pow_right (by omega) (by omega);refine Fit.mk ?_;rw [BB_pow, show 32 * 4096 = N by omega];rw [show (((auv X p).natAbs : Nat) : Int) = auv X p by omega];have h5 : ((absU p * 2 ^ K : Nat) : Int) < ((2 ^ N : Nat) : Int) := Int.ofNat_lt.2 (Nat.lt_of_le_of_lt h3 h4);rw [Int.natCast_pow] at h5;exact Int.lt_of_le_of_lt b1 h5
theorem chi_ub2 {a : Int} {k : Nat} (ha : 2 ≤ a) (h : 2 * a ≤ 2 ^ k) (n : Nat) : chiN a n ≤ 2 ^ (k * n) := by
 rw [Int.pow_mul];exact Int.le_trans (chi_lt_psi ha n) (Int.le_trans (psi_ub ha n) (pow_le_l (by omega) h n))
theorem psi_ub2 {a : Int} {k : Nat} (ha : 2 ≤ a) (h : 2 * a ≤ 2 ^ k) {n : Nat} (hn : 1 ≤ n) : psiN a n ≤ 2 ^ (k * (n - 1)) := by
 obtain ⟨m, rfl⟩ : ∃ m, n = m + 1 := ⟨n - 1, by omega⟩;rw [Int.pow_mul];exact Int.le_trans (psi_ub ha m) (pow_le_l (by omega) h m)
theorem sq_ub {x : Int} {k : Nat} (h0 : 0 ≤ x) (h : x ≤ 2 ^ k) : x * x ≤ 2 ^ (2 * k) := by
 rw [show 2 * k = k + k by omega, Int.pow_add];exact Int.mul_le_mul h h h0 (by omega)
theorem mul_ub {x y : Int} {k m : Nat} (h0 : 0 ≤ y) (h : x ≤ 2 ^ k) (h1 : y ≤ 2 ^ m) : x * y ≤ 2 ^ (k + m) := by
 rw [Int.pow_add];exact Int.mul_le_mul h h1 h0 (Int.le_of_lt (Int.pow_pos (by omega)))
def dM (r m B : Nat) : List Nat := [m, r, r, 2 * r, m, 2 * m, 4 * m + 1, (4 * m + 2) * (B - 1), 2 * ((4 * m + 2) * B), m, (4 * m + 2) * (B - 1), (4 * m + 2) * (B - 1), r, r + m + (4 * m + 2) * B, m, r]
theorem dn_BW {a b : Int} {n r m : Nat} (h2 : 2 ≤ a) (hb : 1 ≤ b) (hn : 1 ≤ n) (hd : dU a b ∣ psiN a n) (hx : chiN a b.toNat ≤ 2 ^ r) (hs : chiN a n ≤ 2 ^ m) : BW ((dn a b n).L a b) (dM r m b.toNat) := by
 obtain ⟨hE, h0⟩ := dn_found h2 hb hn hd;obtain ⟨e1, e2, e3, e4, e5, e6, e7⟩ := dn_pos1 (n := n) h2 hb hn;obtain ⟨p1, p2⟩ := dn_pos2 (a := a) (b := b) (n := n) hb e6;obtain ⟨m1, rfl⟩ : ∃ k, n = k + 1 := ⟨n - 1, by omega⟩;obtain ⟨m2, hm2⟩ : ∃ k, b.toNat = k + 1 := ⟨b.toNat - 1, by omega⟩;have hc : psiN a b.toNat ≤ 2 ^ r := Int.le_trans (by rw [hm2]; exact psi_le_chi h2 m2) hx;have he : psiN a (m1 + 1) ≤ 2 ^ m := Int.le_trans (psi_le_chi h2 m1) hs;have hf := sq_ub (x := chiN a (m1 + 1)) (by have : a ≤ chiN a (m1 + 1) := e4; omega) hs
 have hG : (dn a b (m1 + 1)).G ≤ 2 ^ (4 * m + 1) := by
  have w1 : (dn a b (m1 + 1)).G = a + (dn a b (m1 + 1)).f * ((dn a b (m1 + 1)).f - a) := rfl;have w2 : (dn a b (m1 + 1)).f = chiN a (m1 + 1) * chiN a (m1 + 1) := rfl;have k1 : (dn a b (m1 + 1)).f * ((dn a b (m1 + 1)).f - a) ≤ 2 ^ (2 * m + 2 * m) := mul_ub (by omega) (by rw [w2]; exact hf) (by rw [← w2] at hf; omega)
  have k2 : (dn a b (m1 + 1)).f ≤ 2 ^ (4 * m) := by
   rw [w2]; exact Int.le_trans hf (pow_le_r (by omega) (by omega))
  rw [show 2 * m + 2 * m = 4 * m by omega] at k1;rw [Int.pow_succ, w1];omega
 have hG2 : 2 * (dn a b (m1 + 1)).G ≤ 2 ^ (4 * m + 2) := by
  rw [show 4 * m + 2 = 4 * m + 1 + 1 by omega, Int.pow_succ]; omega
 have hp : (dn a b (m1 + 1)).p ≤ 2 ^ ((4 * m + 2) * b.toNat) := chi_ub2 e6 hG2 _;have hh : (dn a b (m1 + 1)).h ≤ 2 ^ ((4 * m + 2) * (b.toNat - 1)) := psi_ub2 e6 hG2 (by omega);have hI := sq_ub (x := (dn a b (m1 + 1)).p) (by omega) hp;have hd2 := sq_ub (x := chiN a b.toNat) (by have : 1 ≤ chiN a b.toNat := e2; omega) hx;have hw := mul_ub (x := chiN a b.toNat * chiN a (m1 + 1)) (y := (dn a b (m1 + 1)).p) (by omega) (mul_ub (by have : a ≤ chiN a (m1 + 1) := e4; omega) hx hs) hp;have ha : a ≤ 2 ^ m := Int.le_trans e4 hs;have g1 := psi_ge_idx h2 b.toNat;have wi : (dn a b (m1 + 1)).i = (dn a b (m1 + 1)).e / (dn a b (m1 + 1)).u - 1 := rfl;have wv : (dn a b (m1 + 1)).v = (dn a b (m1 + 1)).c - b := rfl;have wj : (dn a b (m1 + 1)).j = ((dn a b (m1 + 1)).h - b) / (2 * (dn a b (m1 + 1)).c) := rfl;have wt : (dn a b (m1 + 1)).t = ((dn a b (m1 + 1)).h - (dn a b (m1 + 1)).c) / (dn a b (m1 + 1)).f := rfl;have g2 := psi_ge_idx e6 b.toNat
 have g3 := (cp_base_mono h2 (show a ≤ (dn a b (m1 + 1)).G by
  have w1 : (dn a b (m1 + 1)).G = a + (dn a b (m1 + 1)).f * ((dn a b (m1 + 1)).f - a) := rfl;have := Int.mul_nonneg (show 0 ≤ (dn a b (m1 + 1)).f by omega) (show 0 ≤ (dn a b (m1 + 1)).f - a by omega)
  omega) b.toNat).2
 have k1 := Int.ediv_le_self (dn a b (m1 + 1)).u (show 0 ≤ (dn a b (m1 + 1)).e by omega);have k2 := Int.ediv_le_self (a := (dn a b (m1 + 1)).h - b) (2 * (dn a b (m1 + 1)).c) (by have : psiN (dn a b (m1 + 1)).G b.toNat = (dn a b (m1 + 1)).h := rfl; omega)
 have k3 := Int.ediv_le_self (a := (dn a b (m1 + 1)).h - (dn a b (m1 + 1)).c) (dn a b (m1 + 1)).f (by
  have : psiN (dn a b (m1 + 1)).G b.toNat = (dn a b (m1 + 1)).h := rfl;have : psiN a b.toNat = (dn a b (m1 + 1)).c := rfl
  omega)
 have we : (dn a b (m1 + 1)).e = psiN a (m1 + 1) := rfl;have wc : (dn a b (m1 + 1)).c = psiN a b.toNat := rfl;simp only [DN.L, List.forall_mem_cons] at h0;obtain ⟨h00, h01, h02, h03, h04, h05, h06, h07, h08, h09, h10, h11, h12, h13, h14, h15, _⟩ := h0;have hI : (dn a b (m1 + 1)).I ≤ _ := hI;have hd2 : (dn a b (m1 + 1)).d ≤ _ := hd2;have hf : (dn a b (m1 + 1)).f ≤ _ := hf;have hw : (dn a b (m1 + 1)).w ≤ _ := hw
 have hbn : ((b.toNat : Nat) : Int) = b := by omega
 rw [← wc] at hc g1;rw [← we] at he
 generalize dn a b (m1 + 1) = D at *
 obtain ⟨c, x, d, u, e, s, f, G, h, p, I, i, j, t, v, w⟩ := D
 simp only at *
 simp only [DN.L, dM, BW, and_true];exact ⟨⟨h00, ha⟩, ⟨h01, by omega⟩, ⟨h02, hc⟩, ⟨h03, hd2⟩, ⟨h04, he⟩, ⟨h05, hf⟩, ⟨h06, hG⟩, ⟨h07, hh⟩, ⟨h08, hI⟩, ⟨h09, by omega⟩, ⟨h10, by omega⟩, ⟨h11, by omega⟩, ⟨h12, by omega⟩, ⟨h13, hw⟩, ⟨h14, by omega⟩, ⟨h15, by omega⟩⟩
theorem BW.fit {N : Nat} (hN : N < 131072) : ∀ {X : List Int} {M : List Nat}, BW X M → (∀ m ∈ M, m ≤ N) → ∀ x ∈ X, Fit x
 | [], _, _, _, _, hx => by cases hx
 | _ :: _, [], h, _, _, _ => h.elim
 | y :: X, m :: M, h, hM, x, hx => by
  rcases List.mem_cons.1 hx with rfl | hx
  ·exact fit_pow2 h.1.1 h.1.2 (by have := hM m (by simp); omega)
  ·exact BW.fit hN h.2 (fun k hk => hM k (by simp [hk])) x hx
def DSm (a b : Int) (r m k : Nat) : Prop := ∃ n, RankIs a (dU a b) 20000 n ∧ n ≤ k ∧ DOK a b n ∧ BW ((dn a b n).L a b) (dM r m b.toNat) ∧ dU a b ∣ psiN a n
theorem dsm {a b : Int} {r m k ka : Nat} (h2 : 2 ≤ a) (hb : 1 ≤ b) (hk : 1 ≤ k) (hk2 : k ≤ 20000) (hd : dU a b ∣ psiN a k) (hx : chiN a b.toNat ≤ 2 ^ r) (ha : 2 * a ≤ 2 ^ ka) (hm : ka * k ≤ m) (hr : 4 * r + 1 ≤ 3999) (hN : ∀ y ∈ dM r m b.toNat, y ≤ 131071) : DSm a b r m k := by
 obtain ⟨n, hn, hnk⟩ := rank_small hk hk2 hd;have hs : chiN a n ≤ 2 ^ m := Int.le_trans (chi_ub2 h2 ha n) (pow_le_r (by omega) (Nat.le_trans (Nat.mul_le_mul_left _ hnk) hm));have hB := dn_BW h2 hb hn.1 hn.2.2.1 hx hs;refine ⟨n, hn, hnk, ⟨?_, hn, BW.fit (N := 131071) (by omega) hB hN⟩, hB, hn.2.2.1⟩;obtain ⟨m2, hm2⟩ : ∃ k, b.toNat = k + 1 := ⟨b.toNat - 1, by omega⟩;have hc : psiN a b.toNat ≤ 2 ^ r := Int.le_trans (by rw [hm2]; exact psi_le_chi h2 m2) hx;have c0 := psi_pos h2 (show 1 ≤ b.toNat by omega);have x0 := (cp_pos h2 b.toNat).1
 have k1 : 2 * psiN a b.toNat ≤ 2 ^ (1 + r) := by rw [Int.pow_add]; omega
 have k2 := mul_ub (y := psiN a b.toNat) (by omega) k1 hc;have k3 := mul_ub (y := chiN a b.toNat * chiN a b.toNat) (Int.mul_nonneg (by omega) (by omega)) k2 (sq_ub (by omega) hx);have k4 : dU a b ≤ 2 ^ (1 + r + r + 2 * r) := k3;have u0 := (dn_pos1 (n := n) h2 hb hn.1).2.2.2.2.2.2;rw [dn_u] at u0;refine Nat.le_trans (bitl_le (k := 1 + r + r + 2 * r + 1) ?_) (by omega)
 have k5 : ((dU a b).natAbs : Int) < ((2 ^ (1 + r + r + 2 * r + 1) : Nat) : Int) := by
  rw [Int.natCast_pow];show ((dU a b).natAbs : Int) < (2 : Int) ^ _;rw [Int.pow_succ];omega
 exact Int.ofNat_lt.1 k5
theorem dsm_one {a : Int} (h2 : 2 ≤ a) (ha : a ≤ 501) : DSm a 1 9 10020 (2 * a.toNat) := by
 obtain ⟨n, rfl⟩ : ∃ n : Nat, a = n := ⟨a.toNat, by omega⟩;refine dsm (ka := 10) h2 (by omega) (by omega) (by omega) (by rw [Int.toNat_natCast]; exact rank1_dvd n) ?_ ?_ (by omega) (by omega) ?_
 ·rw [show (1 : Int).toNat = 1 from rfl, (cp_one _).1];exact Int.le_trans ha (by decide)
 ·have : (2 : Int) ^ 10 = 1024 := by decide
  omega
 ·decide
end Go.AL
/- Validity of any many numbers. -/
namespace Go.Proofs.YtcaecieigoplbaaGreat
open Go.AL
end Go.Proofs.YtcaecieigoplbaaGreat
/- mask: the links' meaning; what they need to be evaluated. -/
namespace Go.AL
end Go.AL
namespace Go.Proofs.YtcaecieigoplbaaGreat
open Go.AL
theorem holdsR_all {f g : LZ → Bool} : ∀ {ls : List LZ}, (∀ l ∈ ls, f l = true ∧ g l = true) → holdsR f g ls = (true, 0)
 | [], _ => rfl
 | l :: ls, h => by
  obtain ⟨h1, h2⟩ := h l (by simp);rw [holdsR, if_pos h1, if_pos h2];exact holdsR_all fun x hx => h x (by simp [hx])
theorem Holds_yes (s : SZ) (X : List Int) (hw : WS s) (hs : OkS s) (hX : ∀ x ∈ X, Fit x) (hlen : (X.length : Int) = s.vars) (hnat : ∀ x ∈ X, 0 ≤ x) (he : ∀ l ∈ s.links, EvL X l) (hh : ∀ l ∈ s.links, HoL X l) : PureFn Tryz.prog 25 [aS s, .sl 2 eX X] (.tup [aB true, aN 0]) := by
 obtain ⟨f, hf⟩ := boolOf (EvL X);obtain ⟨g, hg⟩ := boolOf (HoL X);have := Holds_ok s X hw hs hX hlen hnat f g hf hg;rw [holdsR_all fun l hl => ⟨(hf l).2 (he l hl), (hg l).2 (hh l hl)⟩] at this;exact this
end Go.Proofs.YtcaecieigoplbaaGreat
/- define: the links' meaning; what they need to be evaluated. Written by gen_dg.py. -/
namespace Go.AL
theorem dfS_all : (∀ l ∈ dfS.links, OkL 16 l ∧ WL l ∧ l.kind = 0) := by
 intro l hl;simp only [dfS, List.mem_cons, List.not_mem_nil, or_false] at hl;rcases hl with rfl | rfl | rfl | rfl | rfl | rfl | rfl | rfl | rfl | rfl | rfl
 ·have := okLU_ok (V := 16) (by omega) (kind := 0) (ls := [df1]) (by kernel_rfl); exact ⟨this.1, this.2.1, rfl⟩
 ·have := okLU_ok (V := 16) (by omega) (kind := 0) (ls := [df3]) (by kernel_rfl); exact ⟨this.1, this.2.1, rfl⟩
 ·have := okLU_ok (V := 16) (by omega) (kind := 0) (ls := [df8]) (by kernel_rfl); exact ⟨this.1, this.2.1, rfl⟩
 ·have := okLU_ok (V := 16) (by omega) (kind := 0) (ls := [df11]) (by kernel_rfl); exact ⟨this.1, this.2.1, rfl⟩
 ·have := okLU_ok (V := 16) (by omega) (kind := 0) (ls := [df16]) (by kernel_rfl); exact ⟨this.1, this.2.1, rfl⟩
 ·have := okLU_ok (V := 16) (by omega) (kind := 0) (ls := [df20]) (by kernel_rfl); exact ⟨this.1, this.2.1, rfl⟩
 ·have := okLU_ok (V := 16) (by omega) (kind := 0) (ls := [df23]) (by kernel_rfl); exact ⟨this.1, this.2.1, rfl⟩
 ·have := okLU_ok (V := 16) (by omega) (kind := 0) (ls := [df28]) (by kernel_rfl); exact ⟨this.1, this.2.1, rfl⟩
 ·have := okLU_ok (V := 16) (by omega) (kind := 0) (ls := [df31]) (by kernel_rfl); exact ⟨this.1, this.2.1, rfl⟩
 ·have := okLU_ok (V := 16) (by omega) (kind := 0) (ls := [df34]) (by kernel_rfl); exact ⟨this.1, this.2.1, rfl⟩
 ·have := okLU_ok (V := 16) (by omega) (kind := 0) (ls := [df36]) (by kernel_rfl); exact ⟨this.1, this.2.1, rfl⟩
theorem dfS_w : WS dfS := fun l hl => (dfS_all l hl).2.1
theorem dfS_ok : OkS dfS := ⟨by decide, by decide, by decide, fun l hl => (dfS_all l hl).1⟩
theorem dfS_nn : (∀ p ∈ [df1, df3, df8, df11, df16, df20, df23, df28, df31, df34, df36], nnU 16 p) := by
 have h : ([df1, df3, df8, df11, df16, df20, df23, df28, df31, df34, df36].all fun p => p.all (okU 16)) = true := by kernel_rfl
 intro p hp;have := List.all_eq_true.1 h p hp;simp only [List.all_eq_true] at this;exact fun u hu => okU_ok (this u hu)
set_option maxHeartbeats 1000000 in
theorem df_vals (a b c d e f g h I i j t v w k l : Int) : let L := [a, b, c, d, e, f, g, h, I, i, j, t, v, w, k, l]
  uv L df1 = a - (k + 2) ∧ uv L df3 = b - (l + 1) ∧ uv L df8 = d - (((a * a - 1) * (c * c)) + 1) ∧ uv L df11 = e - (2 * (i + 1) * (c * c) * d) ∧ uv L df16 = f - (((a * a - 1) * (e * e)) + 1) ∧ uv L df20 = g - (a + (f * (f - a))) ∧ uv L df23 = h - (b + 2 * j * c) ∧ uv L df28 = I - (((g * g - 1) * (h * h)) + 1) ∧ uv L df31 = d * f * I - (w * w) ∧ uv L df34 = h - (c + f * t) ∧ uv L df36 = c - (b + v) := by
 intro L;have vv : ∀ i, i < 16 → uv L (varU 16 i) = L.getD i 0 := fun i hi => uv_var rfl hi;have v0 : uv L (varU 16 0) = a := vv 0 (by omega);have v1 : uv L (varU 16 1) = b := vv 1 (by omega);have v2 : uv L (varU 16 2) = c := vv 2 (by omega);have v3 : uv L (varU 16 3) = d := vv 3 (by omega);have v4 : uv L (varU 16 4) = e := vv 4 (by omega);have v5 : uv L (varU 16 5) = f := vv 5 (by omega);have v6 : uv L (varU 16 6) = g := vv 6 (by omega);have v7 : uv L (varU 16 7) = h := vv 7 (by omega);have v8 : uv L (varU 16 8) = I := vv 8 (by omega);have v9 : uv L (varU 16 9) = i := vv 9 (by omega);have v10 : uv L (varU 16 10) = j := vv 10 (by omega);have v11 : uv L (varU 16 11) = t := vv 11 (by omega);have v12 : uv L (varU 16 12) = v := vv 12 (by omega);have v13 : uv L (varU 16 13) = w := vv 13 (by omega);have v14 : uv L (varU 16 14) = k := vv 14 (by omega);have v15 : uv L (varU 16 15) = l := vv 15 (by omega);have c0 : ∀ k, uv L (conU 16 k) = k := fun k => uv_con L 16 k;have n0 : uv L [] = 0 := rfl
 have m0 : uv L df0 = k + 2 := by
  unfold df0; rw [uv_sums (V := 16) (by omega) L _ _ (by kernel_rfl)]; simp only [List.map_cons, List.map_nil, sumL, c0, n0, v14, c0]; omega
 have m1 : uv L df1 = a - (k + 2) := by
  unfold df1; rw [uv_sub (V := 16) (by omega) L (by kernel_rfl), v0, m0]
 have m2 : uv L df2 = l + 1 := by
  unfold df2; rw [uv_sums (V := 16) (by omega) L _ _ (by kernel_rfl)]; simp only [List.map_cons, List.map_nil, sumL, c0, n0, v15, c0]; omega
 have m3 : uv L df3 = b - (l + 1) := by
  unfold df3; rw [uv_sub (V := 16) (by omega) L (by kernel_rfl), v1, m2]
 have m4 : uv L df4 = a * a := by
  unfold df4; rw [uv_muls (V := 16) (by omega) L _ _ (by kernel_rfl)]; simp only [List.map_cons, List.map_nil, prodL, c0, v0]; grind
 have m5 : uv L df5 = a * a - 1 := by
  unfold df5; rw [uv_sub (V := 16) (by omega) L (by kernel_rfl), m4, c0]
 have m6 : uv L df6 = (a * a - 1) * (c * c) := by
  unfold df6; rw [uv_muls (V := 16) (by omega) L _ _ (by kernel_rfl)]; simp only [List.map_cons, List.map_nil, prodL, c0, m5, v2]; grind
 have m7 : uv L df7 = ((a * a - 1) * (c * c)) + 1 := by
  unfold df7; rw [uv_sums (V := 16) (by omega) L _ _ (by kernel_rfl)]; simp only [List.map_cons, List.map_nil, sumL, c0, n0, m6, c0]; omega
 have m8 : uv L df8 = d - (((a * a - 1) * (c * c)) + 1) := by
  unfold df8; rw [uv_sub (V := 16) (by omega) L (by kernel_rfl), v3, m7]
 have m9 : uv L df9 = i + 1 := by
  unfold df9; rw [uv_sums (V := 16) (by omega) L _ _ (by kernel_rfl)]; simp only [List.map_cons, List.map_nil, sumL, c0, n0, v9, c0]; omega
 have m10 : uv L df10 = 2 * (i + 1) * (c * c) * d := by
  unfold df10; rw [uv_muls (V := 16) (by omega) L _ _ (by kernel_rfl)]; simp only [List.map_cons, List.map_nil, prodL, c0, c0, m9, v2, v3]; grind
 have m11 : uv L df11 = e - (2 * (i + 1) * (c * c) * d) := by
  unfold df11; rw [uv_sub (V := 16) (by omega) L (by kernel_rfl), v4, m10]
 have m12 : uv L df12 = a * a := by
  unfold df12; rw [uv_muls (V := 16) (by omega) L _ _ (by kernel_rfl)]; simp only [List.map_cons, List.map_nil, prodL, c0, v0]; grind
 have m13 : uv L df13 = a * a - 1 := by
  unfold df13; rw [uv_sub (V := 16) (by omega) L (by kernel_rfl), m12, c0]
 have m14 : uv L df14 = (a * a - 1) * (e * e) := by
  unfold df14; rw [uv_muls (V := 16) (by omega) L _ _ (by kernel_rfl)]; simp only [List.map_cons, List.map_nil, prodL, c0, m13, v4]; grind
 have m15 : uv L df15 = ((a * a - 1) * (e * e)) + 1 := by
  unfold df15; rw [uv_sums (V := 16) (by omega) L _ _ (by kernel_rfl)]; simp only [List.map_cons, List.map_nil, sumL, c0, n0, m14, c0]; omega
 have m16 : uv L df16 = f - (((a * a - 1) * (e * e)) + 1) := by
  unfold df16; rw [uv_sub (V := 16) (by omega) L (by kernel_rfl), v5, m15]
 have m17 : uv L df17 = f - a := by
  unfold df17; rw [uv_sub (V := 16) (by omega) L (by kernel_rfl), v5, v0]
 have m18 : uv L df18 = f * (f - a) := by
  unfold df18; rw [uv_muls (V := 16) (by omega) L _ _ (by kernel_rfl)]; simp only [List.map_cons, List.map_nil, prodL, c0, v5, m17]; grind
 have m19 : uv L df19 = a + (f * (f - a)) := by
  unfold df19; rw [uv_sums (V := 16) (by omega) L _ _ (by kernel_rfl)]; simp only [List.map_cons, List.map_nil, sumL, c0, n0, v0, m18]; omega
 have m20 : uv L df20 = g - (a + (f * (f - a))) := by
  unfold df20; rw [uv_sub (V := 16) (by omega) L (by kernel_rfl), v6, m19]
 have m21 : uv L df21 = 2 * j * c := by
  unfold df21; rw [uv_muls (V := 16) (by omega) L _ _ (by kernel_rfl)]; simp only [List.map_cons, List.map_nil, prodL, c0, c0, v10, v2]; grind
 have m22 : uv L df22 = b + 2 * j * c := by
  unfold df22; rw [uv_sums (V := 16) (by omega) L _ _ (by kernel_rfl)]; simp only [List.map_cons, List.map_nil, sumL, c0, n0, v1, m21]; omega
 have m23 : uv L df23 = h - (b + 2 * j * c) := by
  unfold df23; rw [uv_sub (V := 16) (by omega) L (by kernel_rfl), v7, m22]
 have m24 : uv L df24 = g * g := by
  unfold df24; rw [uv_muls (V := 16) (by omega) L _ _ (by kernel_rfl)]; simp only [List.map_cons, List.map_nil, prodL, c0, v6]; grind
 have m25 : uv L df25 = g * g - 1 := by
  unfold df25; rw [uv_sub (V := 16) (by omega) L (by kernel_rfl), m24, c0]
 have m26 : uv L df26 = (g * g - 1) * (h * h) := by
  unfold df26; rw [uv_muls (V := 16) (by omega) L _ _ (by kernel_rfl)]; simp only [List.map_cons, List.map_nil, prodL, c0, m25, v7]; grind
 have m27 : uv L df27 = ((g * g - 1) * (h * h)) + 1 := by
  unfold df27; rw [uv_sums (V := 16) (by omega) L _ _ (by kernel_rfl)]; simp only [List.map_cons, List.map_nil, sumL, c0, n0, m26, c0]; omega
 have m28 : uv L df28 = I - (((g * g - 1) * (h * h)) + 1) := by
  unfold df28; rw [uv_sub (V := 16) (by omega) L (by kernel_rfl), v8, m27]
 have m29 : uv L df29 = d * f * I := by
  unfold df29; rw [uv_muls (V := 16) (by omega) L _ _ (by kernel_rfl)]; simp only [List.map_cons, List.map_nil, prodL, c0, v3, v5, v8]; grind
 have m30 : uv L df30 = w * w := by
  unfold df30; rw [uv_muls (V := 16) (by omega) L _ _ (by kernel_rfl)]; simp only [List.map_cons, List.map_nil, prodL, c0, v13]; grind
 have m31 : uv L df31 = d * f * I - (w * w) := by
  unfold df31; rw [uv_sub (V := 16) (by omega) L (by kernel_rfl), m29, m30]
 have m32 : uv L df32 = f * t := by
  unfold df32; rw [uv_muls (V := 16) (by omega) L _ _ (by kernel_rfl)]; simp only [List.map_cons, List.map_nil, prodL, c0, v5, v11]; grind
 have m33 : uv L df33 = c + f * t := by
  unfold df33; rw [uv_sums (V := 16) (by omega) L _ _ (by kernel_rfl)]; simp only [List.map_cons, List.map_nil, sumL, c0, n0, v2, m32]; omega
 have m34 : uv L df34 = h - (c + f * t) := by
  unfold df34; rw [uv_sub (V := 16) (by omega) L (by kernel_rfl), v7, m33]
 have m35 : uv L df35 = b + v := by
  unfold df35; rw [uv_sums (V := 16) (by omega) L _ _ (by kernel_rfl)]; simp only [List.map_cons, List.map_nil, sumL, c0, n0, v1, v12]; omega
 have m36 : uv L df36 = c - (b + v) := by
  unfold df36; rw [uv_sub (V := 16) (by omega) L (by kernel_rfl), v2, m35]
 exact ⟨m1, m3, m8, m11, m16, m20, m23, m28, m31, m34, m36⟩
theorem sub_z_iff {x y : Int} : x - y = 0 ↔ x = y := by omega
theorem df_hol (a b c d e f g h I i j t v w k l : Int) : (∀ y ∈ dfS.links, HoL [a, b, c, d, e, f, g, h, I, i, j, t, v, w, k, l] y) ↔ DfEq a b c d e f g h I i j t v w k l := by
 obtain ⟨e0, e1, e2, e3, e4, e5, e6, e7, e8, e9, e10⟩ := df_vals a b c d e f g h I i j t v w k l
 have L : ∀ (kind : Int) (ls : List (List UT)), (∀ p ∈ ls, p ∈ [df1, df3, df8, df11, df16, df20, df23, df28, df31, df34, df36]) → HoL [a, b, c, d, e, f, g, h, I, i, j, t, v, w, k, l] (linkU 16 kind ls) = holdP kind (ls.map (uv [a, b, c, d, e, f, g, h, I, i, j, t, v, w, k, l])) := fun kind ls h => by
  unfold HoL;rw [lvals_linkU (V := 16) rfl fun p hp => dfS_nn p (h p hp)];rfl
 simp only [dfS, List.forall_mem_cons];rw [L 0 _ (by simp), L 0 _ (by simp), L 0 _ (by simp), L 0 _ (by simp), L 0 _ (by simp), L 0 _ (by simp), L 0 _ (by simp), L 0 _ (by simp), L 0 _ (by simp), L 0 _ (by simp), L 0 _ (by simp)];simp only [List.map_cons, List.map_nil, e0, e1, e2, e3, e4, e5, e6, e7, e8, e9, e10];unfold holdP DfEq;simp only [List.getD_cons_zero, List.getD_cons_succ, sub_z_iff];simp
theorem df_ev {X : List Int} {M : List Nat} (hl : X.length = 16) (hB : BW X M) (h : ([df1, df3, df8, df11, df16, df20, df23, df28, df31, df34, df36].all (okW 131000 5 M)) = true) : ∀ l ∈ dfS.links, EvL X l := by
 have A : ∀ p, p ∈ [df1, df3, df8, df11, df16, df20, df23, df28, df31, df34, df36] → Fit (auv X p) := fun p hp => auv_fitW hB (List.all_eq_true.1 h p hp) (by omega)
 have L : ∀ (kind : Int) (ls : List (List UT)), (∀ p ∈ ls, p ∈ [df1, df3, df8, df11, df16, df20, df23, df28, df31, df34, df36]) → EvL X (linkU 16 kind ls) := fun kind ls h =>
  evL_linkU hl (fun p hp => dfS_nn p (h p hp)) fun p hp => A p (h p hp)
 simp only [dfS, List.forall_mem_cons];exact ⟨L 0 _ (by simp), L 0 _ (by simp), L 0 _ (by simp), L 0 _ (by simp), L 0 _ (by simp), L 0 _ (by simp), L 0 _ (by simp), L 0 _ (by simp), L 0 _ (by simp), L 0 _ (by simp), L 0 _ (by simp), by simp⟩
theorem df_ev1 {X : List Int} (hl : X.length = 16) (hB : BW X (dM 9 10020 1)) : ∀ l ∈ dfS.links, EvL X l := df_ev hl hB (by kernel_rfl)
end Go.AL
namespace Go.Proofs.YtcaecieigoplbaaGreat
open Go.AL
theorem dfHolds_yes (a b : Int) (n : Nat) (h2 : 2 ≤ a) (hb : 1 ≤ b) (hk : DOK a b n) (he : ∀ l ∈ dfS.links, EvL ((dn a b n).L a b) l) : PureFn Tryz.prog 25 [aS dfS, .sl 2 eX ((dn a b n).L a b)] (.tup [aB true, aN 0]) := by
 obtain ⟨h1, h0⟩ := dn_found h2 hb hk.2.1.1 hk.2.1.2.2.1;exact Holds_yes dfS _ dfS_w dfS_ok hk.2.2 rfl h0 he ((df_hol _ _ _ _ _ _ _ _ _ _ _ _ _ _ _ _).2 h1)
end Go.Proofs.YtcaecieigoplbaaGreat
/- ref01: SameAll. -/
namespace Go.AL
theorem take_eq_succ {α : Type} {X Y : List α} {i : Nat} {x y : α} (hx : X[i]? = some x) (hy : Y[i]? = some y) (h : X.take i = Y.take i) (e : x = y) : X.take (i + 1) = Y.take (i + 1) := by
 rw [take_snoc hx, take_snoc hy, h, e]
end Go.AL
namespace Go.Proofs.YtcaecieigoplbaaGreat
open Go.AL
theorem rSameAll_ok (X Y : List Int) (hX : ∀ x ∈ X, (toW x.natAbs).length ≤ 1000000) (hl : X.length ≤ 1000000) : PureFn Tryz.prog 24 [.sl 2 eX X, .sl 2 eX Y] (aB (decide (X = Y))) := by
 refine PureFn.of_body Tryz.func24 rfl Tryz.ntmps24 rfl rfl ?_;(repeat' (first |refine qv ?_ |apply qn |apply qs |apply qr |(refine AWP.condN rfl ?_ ?_ <;> intro _ <;> try (exfalso; omega)) |apply qb |apply qk |apply qt))
 ·rename_i h;refine RetOk.of rfl (AV.Le.bool (Eq.symm (decide_eq_false fun e => h ?_)));rw [e]
 rename_i hlen;refine AWP.loop (G := Nat) (fun i => i ≤ X.length ∧ X.take i = Y.take i) (fun i => St.of [] [(0, .sl 2 eX X), (1, .sl 2 eX Y), (5, aN i)] []) (fun i => X.length - i) 0 ⟨by omega, by simp⟩ ?_ ?_
 ·refine Ent.of [] ?_ ?_ rfl rfl;(repeat' (first |exact True.intro |refine ⟨⟨AV.Le.refl _, rfl⟩, ?_⟩|fail))
 ·intro i ⟨h0, h1⟩;(repeat' (first |refine qv ?_ |apply qn |apply qs |apply qr |(refine AWP.condD rfl ?_ ?_ <;> intro _ <;> try (exfalso; omega)) |apply qb |apply qk |apply qx |apply qt |(refine Fl.el rfl rfl rfl rfl rfl rfl rfl rfl (by omega) (by omega) ?_; intro _ _)|fail))
  ·rename_i hi x hx y hy;rw [Int.toNat_natCast] at hx hy;refine qc (rSame_ok x y (hX x (List.mem_of_getElem? hx))) ?_;(repeat' (first |refine qv ?_ |apply qn |refine Fl.nil (fun _ => by kernel_rfl) ?_ |apply qs |apply qr |refine qw ?_ |(refine AWP.condN rfl ?_ ?_ <;> intro _ <;> try (exfalso; omega)) |apply qk |apply qt))
   ·rename_i hne;refine RetOk.of rfl (AV.Le.bool (Eq.symm (decide_eq_false fun e => hne ?_)));subst e;rw [hx] at hy;injection hy
   ·rename_i heq;refine LoopEnd.of (i + 1) ⟨by omega, take_eq_succ hx hy h1 heq⟩ (by omega) ?_;refine Ent.of [] ?_ ?_ rfl rfl;(repeat' (first |exact True.intro |refine ⟨⟨AV.Le.refl _, rfl⟩, ?_⟩|fail))
  ·rename_i hi;refine RetOk.of rfl (AV.Le.bool (Eq.symm (decide_eq_true ?_)));rw [List.take_of_length_le (by omega), List.take_of_length_le (by omega)] at h1;exact h1
end Go.Proofs.YtcaecieigoplbaaGreat
/- DefineWitness; awake. -/
namespace Go.AL
theorem aw10 : RankIs 2 (dU 2 1) 20000 4 ∧ DOK 2 1 4 ∧ BW ((dn 2 1 4).L 2 1) (dM 9 10020 1) := by
 obtain ⟨n, hr, hn, hk, hB, hd⟩ := dsm_one (a := 2) (by omega) (by omega)
 have hn4 : n = 4 := by
  have h4 : n ≤ 4 := hn;have h1 := hr.1;have h3 := hr.2.2.1;rw [show dU 2 1 = 8 by decide +kernel] at h3;rcases (show n = 1 ∨ n = 2 ∨ n = 3 ∨ n = 4 by omega) with h | h | h | h
  ·subst h; exact absurd h3 (by decide +kernel)
  ·subst h; exact absurd h3 (by decide +kernel)
  ·subst h; exact absurd h3 (by decide +kernel)
  ·exact h
 subst hn4;exact ⟨hr, hk, hB⟩
theorem psi_20 {a b : Int} (h2 : 2 ≤ a) (h : 20 < b) : 20000 < psiN a b.toNat := by
 obtain ⟨m, hm⟩ : ∃ m, b.toNat = m + 1 := ⟨b.toNat - 1, by omega⟩;have h1 := psi_big h2 m;have h3 : (2 : Int) ^ 20 ≤ 2 ^ m := pow_le_r (by omega) (by omega)
 have h4 : (2 : Int) ^ 20 = 1048576 := by decide
 rw [hm];omega
end Go.AL
namespace Go.Proofs.YtcaecieigoplbaaGreat
open Go.AL
theorem dWit_form (z : Z) (hz : WOk z.w) (h : ¬ OkZ z) (b : Int) : PureFn Tryz.prog 46 [aZ z, aN b] (.tup [.v (.slice none 0 0), aN 1]) := by
 refine PureFn.of_body Tryz.func46 rfl Tryz.ntmps46 rfl rfl ?_;have hv := Valid_ok z hz;rw [decide_eq_false h] at hv;refine AWP.seqS ?_;(repeat' (first |refine qv ?_ |apply qn |apply qr |refine qe ?_|fail));refine ⟨AWP.seqS ?_⟩;(repeat' (first |refine qv ?_ |apply qs |apply qr |apply qb));refine qc (hv) ?_;(repeat' (first |refine qv ?_ |apply qn |apply qs |apply qr |refine AWP.condT rfl ?_ |apply qt));exact RetOk.of rfl (AV.Le.refl _)
theorem dWit_arg (a b : Int) (ha : Fit a) (h : a < 2 ∨ b < 1) : PureFn Tryz.prog 46 [aX a, aN b] (.tup [.v (.slice none 0 0), aN 2]) := by
 refine PureFn.of_body Tryz.func46 rfl Tryz.ntmps46 rfl rfl ?_;refine AWP.seqS ?_;(repeat' (first |refine qv ?_ |apply qn |apply qr |refine qe ?_|fail));refine ⟨AWP.seqS ?_⟩;(repeat' (first |refine qv ?_ |apply qs |apply qr |apply qb));refine qc (Valid_int a ha) ?_;(repeat' (first |refine qv ?_ |apply qn |apply qs |apply qr |refine AWP.condF rfl ?_));refine qc (Of_ok 2 (by omega) (by omega)) ?_;skip;refine qc (Less_ok a 2 ha fit_two) ?_;(repeat' (first |refine qv ?_ |apply qn |refine Fl.nil (fun _ => by kernel_rfl) ?_ |apply qs |apply qr |refine Fl.skip rfl rfl ?_ |refine AWP.condT rfl ?_ |(refine AWP.condD rfl ?_ ?_ <;> intro _ <;> try (exfalso; omega)) |apply qt |(refine Fl.splitD rfl rfl ?_ ?_ <;> intro _ <;> try (exfalso; omega))))
 all_goals first | exact RetOk.of rfl (AV.Le.refl _) | (exfalso; omega)
theorem awake10_ok : PureFn Tryz.prog 45 [] (aB true) := by
 refine PureFn.of_body Tryz.func45 rfl Tryz.ntmps45 rfl rfl ?_;obtain ⟨hr, hk, hB⟩ := aw10;have c1 := dWit_ok 2 1 fit_two (by omega) (by omega) (by omega) (.tup [.sl 2 eX ((dn 2 1 4).L 2 1), aN 0]) (fun n h => by rw [h.2.1.fun hr]) (fun h => absurd hk (h 4));have c2 := dfHolds_yes 2 1 4 (by omega) (by omega) hk (df_ev1 rfl hB);obtain ⟨L, hL⟩ : ∃ L, L = (dn 2 1 4).L 2 1 := ⟨_, rfl⟩
 have hLl : L.length = 16 := by rw [hL]; rfl
 have g4 : L[(4 : Int).toNat]? = some 56 := by rw [hL]; decide +kernel
 have g5 : L[(5 : Int).toNat]? = some 9409 := by rw [hL]; decide +kernel
 have g9 : L[(9 : Int).toNat]? = some 6 := by rw [hL]; decide +kernel
 rw [← hL] at c1 c2;have len1 : ∀ x : Int, 0 ≤ x → x < 4294967296 → (toW x.natAbs).length ≤ 1000000 := fun x h0 h1 => Nat.le_trans ((toW_len_le (by omega) 1).2 (by rw [BB_succ, BB_zero]; omega)) (by omega);refine AWP.seqS ?_;(repeat' (first |refine qv ?_ |apply qn |apply qr));refine ⟨AWP.seqS ?_⟩;(repeat' (first |apply qr));refine qc (rOf_ok 2 (by omega) (by omega)) ?_;skip;refine qc (c1) ?_;(repeat' (first |refine qv ?_ |apply qn));refine ⟨AWP.seqS ?_⟩;(repeat' (first |apply qr));refine qc (dfEq_ok) ?_;(repeat' (first |refine qv ?_|fail));refine qc (c2) ?_;(repeat' (first |refine qv ?_ |apply qn));refine ⟨?_⟩;(repeat' (first |refine qv ?_ |apply qs |apply qr |refine qK ?_ |(refine Fl.splitD rfl rfl ?_ ?_ <;> intro _ <;> try (exfalso; omega))));refine qc (rOf_ok 56 (by omega) (by omega)) ?_;skip;refine qc (rSame_ok 56 56 (len1 56 (by omega) (by omega))) ?_;(repeat' (first |refine qv ?_ |refine qK ?_ |(refine Fl.splitD rfl rfl ?_ ?_ <;> intro _ <;> try (exfalso; omega))));refine qc (rOf_ok 9409 (by omega) (by omega)) ?_;skip;refine qc (rSame_ok 9409 9409 (len1 9409 (by omega) (by omega))) ?_;(repeat' (first |refine qv ?_ |refine qK ?_ |(refine Fl.splitD rfl rfl ?_ ?_ <;> intro _ <;> try (exfalso; omega))));refine qc (rOf_ok 6 (by omega) (by omega)) ?_;skip;refine qc (rSame_ok 6 6 (len1 6 (by omega) (by omega))) ?_;(repeat' (first |refine qv ?_ |refine Fl.nil (fun _ => by kernel_rfl) ?_ |apply qt));exact RetOk.of rfl (AV.Le.refl _)
theorem rRight_ok (x : Int) (hx : lenI x ≤ 100000) : PureFn Tryz.prog 47 [aX x] (aB (decide (2 ≤ x))) := by
 refine PureFn.of_body Tryz.func47 rfl Tryz.ntmps47 rfl rfl ?_;have cc := rCmp_ok x 2 hx (Nat.le_trans (lenI_small (by decide)) (show 1 ≤ _ by omega));rcases Int.lt_or_le x 2 with h | h
 ·have hc : ¬ cmpI x 2 ≥ 0 := by rw [cmpI_lt h]; omega
  rw [decide_eq_false (by omega)];(repeat' (first |refine qv ?_ |apply qn |apply qs |apply qr |refine qe ?_|fail));refine qc (rOf_ok 2 (by omega) (by omega)) ?_;skip;refine qc (cc) ?_;(repeat' (first |refine qv ?_ |refine Fl.nil (fun _ => by kernel_rfl) ?_ |apply qt));refine RetOk.of rfl ?_;rw [decide_eq_false hc];exact AV.Le.refl _
 ·have hc : cmpI x 2 ≥ 0 := by
   rcases Int.lt_or_eq_of_le h with k | k
   ·rw [cmpI_gt k]; omega
   ·rw [cmpI_eq k.symm]; omega
  rw [decide_eq_true h];(repeat' (first |refine qv ?_ |apply qn |apply qs |apply qr |refine qe ?_|fail));refine qc (rOf_ok 2 (by omega) (by omega)) ?_;skip;refine qc (cc) ?_;(repeat' (first |refine qv ?_ |refine Fl.nil (fun _ => by kernel_rfl) ?_ |apply qt));refine RetOk.of rfl ?_;rw [decide_eq_true hc];exact AV.Le.refl _
theorem DefineWitnessA_ok (z : Z) (b : Int) (h : 4 < z.w.length) : PureFn Tryz.prog 11 [aZ z, aN b] (aB true) := by
 refine PureFn.of_body Tryz.func11 rfl Tryz.ntmps11 rfl rfl ?_;refine AWP.seqS ?_;(repeat' (first |refine qv ?_ |apply qn |apply qr |refine qe ?_|fail));refine ⟨AWP.seqS ?_⟩;(repeat' (first |refine qv ?_ |apply qn |apply qs |apply qr |(refine AWP.condD rfl ?_ ?_ <;> intro _ <;> try (exfalso; omega))));refine qc (awake10_ok) ?_;(repeat' (first |refine qv ?_ |apply qn |apply qt));exact RetOk.of rfl (AV.Le.refl _)
theorem DefineWitnessF_ok (z : Z) (hz : WOk z.w) (b : Int) (h1 : z.w.length ≤ 4) (h : ¬ OkZ z) : PureFn Tryz.prog 11 [aZ z, aN b] (aB true) := by
 refine PureFn.of_body Tryz.func11 rfl Tryz.ntmps11 rfl rfl ?_;have cv := rValid_ok z hz (by omega);rw [decide_eq_false h] at cv;refine AWP.seqS ?_;(repeat' (first |refine qv ?_ |apply qn |apply qr |refine qe ?_|fail));refine ⟨AWP.seqS ?_⟩;(repeat' (first |refine qv ?_ |apply qn |apply qs |apply qr |(refine AWP.condD rfl ?_ ?_ <;> intro _ <;> try (exfalso; omega)) |apply qk));refine ⟨AWP.seqS ?_⟩;(repeat' (first |refine qv ?_ |apply qr));refine qc (dWit_form z hz h b) ?_;(repeat' (first |refine qv ?_ |apply qn));refine ⟨AWP.seqS ?_⟩;(repeat' (first |refine qv ?_ |apply qn |apply qr));refine ⟨AWP.seqS ?_⟩;(repeat' (first |refine qv ?_ |apply qs |apply qr |apply qb));refine qc (cv) ?_;(repeat' (first |refine qv ?_ |apply qn |apply qr |refine AWP.condT rfl ?_));refine ⟨AWP.seqS ?_⟩;(repeat' (first |refine qv ?_ |apply qn |apply qs |apply qr |refine AWP.condT rfl ?_ |(refine Fl.splitD rfl rfl ?_ ?_ <;> intro _ <;> try (exfalso; omega))));refine qc (awake10_ok) ?_;(repeat' (first |refine qv ?_ |apply qn |apply qt));exact RetOk.of rfl (AV.Le.refl _)
set_option maxHeartbeats 2000000 in
theorem DefineWitnessX_ok (a : Int) (fa : Fit a) (b : Int) (h1 : lenI a ≤ 4) (hb0 : -9223372036854775808 ≤ b) (hb1 : b ≤ 9223372036854775807) : PureFn Tryz.prog 11 [aX a, aN b] (aB true) := by
 refine PureFn.of_body Tryz.func11 rfl Tryz.ntmps11 rfl rfl ?_;have hlb : (toW (a.natAbs : Int)).length ≤ 4 := h1;have cv := rValid_ok (zOf a) (toW_ok _) (show (toW (a.natAbs : Int)).length ≤ _ by omega);rw [decide_eq_true (okZ_zOf fa)] at cv;have cr := rRight_ok a (by omega);refine AWP.seqS ?_;(repeat' (first |refine qv ?_ |apply qn |apply qr |refine qe ?_|fail));refine ⟨AWP.seqS ?_⟩;(repeat' (first |refine qv ?_ |apply qn |apply qs |apply qr |(refine AWP.condD rfl ?_ ?_ <;> intro _ <;> try (exfalso; omega)) |apply qk));refine ⟨AWP.seqS ?_⟩;rcases Classical.em (a < 2 ∨ b < 1) with hA | hA
 ·(repeat' (first |refine qv ?_ |apply qr));refine qc (dWit_arg a b fa hA) ?_;(repeat' (first |refine qv ?_ |apply qn));refine ⟨AWP.seqS ?_⟩;(repeat' (first |refine qv ?_ |apply qn |apply qr));refine ⟨AWP.seqS ?_⟩;rcases Int.lt_or_le a 2 with h2 | h2
  ·rw [decide_eq_false (by omega)] at cr;(repeat' (first |refine qv ?_ |apply qs |apply qr |apply qb));refine qc (cv) ?_;(repeat' (first |refine qv ?_ |apply qn |apply qs |apply qr |refine AWP.condF rfl ?_));refine qc (cr) ?_;(repeat' (first |refine qv ?_ |apply qn |apply qr |refine Fl.skip rfl rfl ?_ |refine AWP.condT rfl ?_));refine ⟨AWP.seqS ?_⟩;(repeat' (first |refine qv ?_ |apply qn |apply qs |apply qr |refine AWP.condT rfl ?_ |(refine Fl.splitD rfl rfl ?_ ?_ <;> intro _ <;> try (exfalso; omega))));refine qc (awake10_ok) ?_;(repeat' (first |refine qv ?_ |apply qn |apply qt));exact RetOk.of rfl (AV.Le.refl _)
  ·rw [decide_eq_true h2] at cr;(repeat' (first |refine qv ?_ |apply qs |apply qr |apply qb));refine qc (cv) ?_;(repeat' (first |refine qv ?_ |apply qn |apply qs |apply qr |refine AWP.condF rfl ?_));refine qc (cr) ?_;(repeat' (first |refine qv ?_ |apply qn |apply qr |(refine AWP.condD rfl ?_ ?_ <;> intro _ <;> try (exfalso; omega))));refine ⟨AWP.seqS ?_⟩;(repeat' (first |refine qv ?_ |apply qn |apply qs |apply qr |refine AWP.condT rfl ?_ |(refine Fl.splitD rfl rfl ?_ ?_ <;> intro _ <;> try (exfalso; omega))));refine qc (awake10_ok) ?_;(repeat' (first |refine qv ?_ |apply qn |apply qt));exact RetOk.of rfl (AV.Le.refl _)
 have h2 : 2 ≤ a := by omega
 have h0 : 1 ≤ b := by omega
 rw [decide_eq_true h2] at cr;rcases Int.lt_or_le 20 b with hB | hB
 ·have c1 := dWit_ok a b fa h2 h0 hb1 (.tup [.v (.slice none 0 0), aN 4]) (fun n h => absurd (dok_le h2 h0 h) (by have := psi_20 h2 hB; omega)) (fun _ => rfl);(repeat' (first |refine qv ?_ |apply qr));refine qc (c1) ?_;(repeat' (first |refine qv ?_ |apply qn));refine ⟨AWP.seqS ?_⟩;(repeat' (first |refine qv ?_ |apply qn |apply qr));refine ⟨AWP.seqS ?_⟩;(repeat' (first |refine qv ?_ |apply qs |apply qr |apply qb));refine qc (cv) ?_;(repeat' (first |refine qv ?_ |apply qn |apply qs |apply qr |refine AWP.condF rfl ?_));refine qc (cr) ?_;(repeat' (first |refine qv ?_ |apply qn |apply qs |apply qr |(refine AWP.condD rfl ?_ ?_ <;> intro _ <;> try (exfalso; omega))));refine ⟨AWP.seqS ?_⟩;(repeat' (first |refine qv ?_ |apply qn |apply qs |apply qr |refine AWP.condT rfl ?_ |(refine Fl.splitD rfl rfl ?_ ?_ <;> intro _ <;> try (exfalso; omega))));refine qc (awake10_ok) ?_;(repeat' (first |refine qv ?_ |apply qn |apply qt));exact RetOk.of rfl (AV.Le.refl _)
 rcases Classical.em (∃ n, DOK a b n) with ⟨n, hk⟩ | hk
 ·have c1 := dWit_ok a b fa h2 h0 hb1 (.tup [.sl 2 eX ((dn a b n).L a b), aN 0]) (fun m h => by rw [h.2.1.fun hk.2.1]) (fun h => absurd hk (h n));have c2 := rWit_ok a b h1 h2 h0 hB (.tup [.sl 2 eX ((dn a b n).L a b), aB true]) (fun m h => by rw [h.2.1.fun hk.2.1]) (fun h => absurd hk (h n));have hsa := rSameAll_ok ((dn a b n).L a b) ((dn a b n).L a b) (fun x hx => by have := (hk.2.2 x hx).len; omega) (by show (16 : Nat) ≤ _; omega);rw [decide_eq_true rfl] at hsa;have hLl : ((dn a b n).L a b).length = 16 := rfl;clear hk
  generalize (dn a b n).L a b = L at *
  (repeat' (first |refine qv ?_ |apply qr));refine qc (c1) ?_;(repeat' (first |refine qv ?_ |apply qn));refine ⟨AWP.seqS ?_⟩;(repeat' (first |refine qv ?_ |apply qn |apply qr));refine ⟨AWP.seqS ?_⟩;(repeat' (first |refine qv ?_ |apply qs |apply qr |apply qb));refine qc (cv) ?_;(repeat' (first |refine qv ?_ |apply qn |apply qs |apply qr |refine AWP.condF rfl ?_));refine qc (cr) ?_;(repeat' (first |refine qv ?_ |apply qn |apply qs |apply qr |(refine AWP.condD rfl ?_ ?_ <;> intro _ <;> try (exfalso; omega)) |apply qk));refine ⟨AWP.seqS ?_⟩;(repeat' (first |refine qv ?_ |apply qn |apply qs |apply qr |refine AWP.condF rfl ?_ |apply qk));refine ⟨AWP.seqS ?_⟩;(repeat' (first |refine qv ?_ |apply qr));refine qc (c2) ?_;(repeat' (first |refine qv ?_ |apply qn));refine ⟨AWP.seqS ?_⟩;(repeat' (first |refine qv ?_ |apply qn |apply qs |apply qr |refine AWP.condF rfl ?_ |apply qk));refine ⟨?_⟩;(repeat' (first |refine qv ?_ |apply qs |apply qr |(refine Fl.splitD rfl rfl ?_ ?_ <;> intro _ <;> try (exfalso; omega))));refine qc (hsa) ?_;(repeat' (first |refine qv ?_|fail));refine qc (awake10_ok) ?_;(repeat' (first |refine qv ?_ |apply qn |apply qt));exact RetOk.of rfl (AV.Le.refl _)
 ·have hn : ∀ n, ¬ DOK a b n := fun n h => hk ⟨n, h⟩;have c1 := dWit_ok a b fa h2 h0 hb1 (.tup [.v (.slice none 0 0), aN 4]) (fun n h => absurd h (hn n)) (fun _ => rfl);have c2 := rWit_ok a b h1 h2 h0 hB (.tup [.v (.slice none 0 0), aB false]) (fun n h => absurd h (hn n)) (fun _ => rfl);(repeat' (first |refine qv ?_ |apply qr));refine qc (c1) ?_;(repeat' (first |refine qv ?_ |apply qn));refine ⟨AWP.seqS ?_⟩;(repeat' (first |refine qv ?_ |apply qn |apply qr));refine ⟨AWP.seqS ?_⟩;(repeat' (first |refine qv ?_ |apply qs |apply qr |apply qb));refine qc (cv) ?_;(repeat' (first |refine qv ?_ |apply qn |apply qs |apply qr |refine AWP.condF rfl ?_));refine qc (cr) ?_;(repeat' (first |refine qv ?_ |apply qn |apply qs |apply qr |(refine AWP.condD rfl ?_ ?_ <;> intro _ <;> try (exfalso; omega)) |apply qk));refine ⟨AWP.seqS ?_⟩;(repeat' (first |refine qv ?_ |apply qn |apply qs |apply qr |refine AWP.condF rfl ?_ |apply qk));refine ⟨AWP.seqS ?_⟩;(repeat' (first |refine qv ?_ |apply qr));refine qc (c2) ?_;(repeat' (first |refine qv ?_ |apply qn));refine ⟨AWP.seqS ?_⟩;(repeat' (first |refine qv ?_ |apply qn |apply qs |apply qr |refine AWP.condT rfl ?_ |(refine Fl.splitD rfl rfl ?_ ?_ <;> intro _ <;> try (exfalso; omega))));refine qc (awake10_ok) ?_;(repeat' (first |refine qv ?_ |apply qn |apply qt));exact RetOk.of rfl (AV.Le.refl _)
theorem DefineWitness_ok (z : Z) (b : Int) (hz : WOk z.w) (hl : z.w.length ≤ 9223372036854775807) (hb0 : -9223372036854775808 ≤ b) (hb1 : b ≤ 9223372036854775807) : PureFn Tryz.prog 11 [aZ z, aN b] (aB true) := by
 rcases Nat.lt_or_ge 4 z.w.length with h | h
 ·exact DefineWitnessA_ok z b h
 ·by_cases ho : OkZ z
  ·obtain ⟨e1, e2⟩ := okZ_eq hz ho;rw [e1]
   have hlen : lenI (zval z) ≤ 4 := by
    have : (zOf (zval z)).w.length ≤ 4 := by rw [← e1]; omega
    exact this
   exact DefineWitnessX_ok (zval z) e2 b hlen hb0 hb1
  ·exact DefineWitnessF_ok z hz b h ho
end Go.Proofs.YtcaecieigoplbaaGreat

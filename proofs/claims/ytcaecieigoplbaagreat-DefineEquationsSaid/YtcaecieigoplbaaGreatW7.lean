/- Part 7 of a proof layer and of the contracts of the functions. -/
import Derived.Deep.Strs
import Derived.Test.YtcaecieigoplbaaGreatW6
set_option linter.unusedVariables false
set_option linter.unusedSimpArgs false
/- The reference's links: Make. -/
namespace Go.Proofs.YtcaecieigoplbaaGreat
open Go.AL
set_option maxHeartbeats 1000000 in
theorem rMakeL_ok (V M : Nat) (kind : Int) (ls : List (List UT)) (W : List Int) (hW : W = ixN V) (hV : V ≤ 1000) (hM : M ≤ 20000) (hl : ls.length ≤ 1000) (hk : ∀ p ∈ ls, p.length ≤ 3000 ∧ okT V M p) : PureFn Tryz.prog 75 [aN kind, aI W, .sl 2 eP (ls.map (mkP V))] (aL (linkR V kind ls)) := by
 refine PureFn.of_body Tryz.func75 rfl Tryz.ntmps75 rfl rfl ?_
 have hWl : W.length = V := by rw [hW, ixN_length]
 have hWg : ∀ i, i < V → W[i]? = some (i : Int) := fun i hi => by rw [hW]; exact ixN_get hi
 obtain ⟨L, hL⟩ : ∃ L, L = ls.map (mkP V) := ⟨_, rfl⟩
 have hLl : L.length = ls.length := by rw [hL, List.length_map]
 rw [← hL];refine AWP.seqS ?_;(repeat' (first |apply qn |apply qr |refine qe ?_|fail));refine ⟨AWP.seqS ?_⟩;(repeat' (first |refine qv ?_ |apply qn |apply qr |refine qe ?_|fail));refine ⟨AWP.seqS ?_⟩;(repeat' (first |refine qv ?_ |apply qn |apply qr));refine ⟨?_⟩;refine AWP.ent (Ent.nilrow 8 805 rfl rfl 1 eI 3) ?_;refine AWP.ent (Ent.nilcell 7 1 806 rfl rfl rfl 1 eI 3) ?_;(repeat' (first |refine qv ?_ |apply qn |apply qs |apply qr |apply qb));refine AWP.loop (G := Nat) (fun i => i ≤ V) (fun i => St.of [] [(1, aI W), (2, .sl 2 eP L), (6, .ptr 6 0), (7, .ptr 7 0), (8, .row 700), (9, aN i)] [(6, .cells [aN 0, .v (.slice none 0 0), .v (.slice none 0 0)] 82), (7, .cells [aN kind, .row 701, .v (.slice none 0 0)] 82), (700, .row 1 eI (occI ls i) 3), (701, .row 1 eI (occI ls i) 3)]) (fun i => V - i) 0 (by omega) ?_ ?_
 ·refine Ent.of [(700, 805), (701, 806)] ?_ ?_ rfl rfl;(repeat' (first |exact True.intro |refine ⟨⟨AV.Le.refl _, rfl⟩, ?_⟩ |refine ⟨⟨⟨_, rfl, BLe.cells (LeL.refl _)⟩, rfl⟩, ?_⟩ |refine ⟨⟨⟨_, rfl, BLe.row rfl⟩, rfl⟩, ?_⟩|fail))
 ·intro i k0;have hol := occI_len ls i;have hst := occI_step ls i;by_cases hi : i < V
  ·have hWi := hWg i hi;refine AWP.seqS ?_;(repeat' (first |refine qv ?_ |apply qn |apply qs |apply qr |(refine AWP.condD rfl ?_ ?_ <;> intro _ <;> try (exfalso; omega)) |apply qk));refine ⟨AWP.seq (AWP.block (AWP.seqS ?_))⟩;(repeat' (first |refine qv ?_ |apply qn |apply qr));refine ⟨?_⟩;refine AWP.seqJ (G := Bool) (fun b => b = occP ls i) (fun b => St.of [] [(1, aI W), (2, .sl 2 eP L), (6, .ptr 6 0), (7, .ptr 7 0), (8, .row 700), (9, aN i), (10, aB b)] [(6, .cells [aN 0, .v (.slice none 0 0), .v (.slice none 0 0)] 82), (7, .cells [aN kind, .row 701, .v (.slice none 0 0)] 82), (700, .row 1 eI (occI ls i) 3), (701, .row 1 eI (occI ls i) 3)]) ?_ ?_
   ·(repeat' (first |refine qv ?_ |apply qn |apply qs |apply qr |apply qb));refine AWP.loop (G := Nat) (fun j => j ≤ ls.length) (fun j => St.of [] [(1, aI W), (2, .sl 2 eP L), (6, .ptr 6 0), (7, .ptr 7 0), (8, .row 700), (9, aN i), (10, aB ((ls.take j).any (anyP i))), (11, aN j)] [(6, .cells [aN 0, .v (.slice none 0 0), .v (.slice none 0 0)] 82), (7, .cells [aN kind, .row 701, .v (.slice none 0 0)] 82), (700, .row 1 eI (occI ls i) 3), (701, .row 1 eI (occI ls i) 3)]) (fun j => ls.length - j) 0 (by omega) ?_ ?_
    ·refine Ent.of [] ?_ ?_ rfl rfl;(repeat' (first |exact True.intro |refine ⟨⟨AV.Le.refl _, rfl⟩, ?_⟩ |refine ⟨⟨⟨_, rfl, BLe.cells (LeL.refl _)⟩, rfl⟩, ?_⟩ |refine ⟨⟨⟨_, rfl, BLe.row rfl⟩, rfl⟩, ?_⟩|fail))
    ·intro j j0;by_cases hj : j < ls.length
     ·obtain ⟨q, hq⟩ : ∃ q, ls[j]? = some q := ⟨_, List.getElem?_eq_getElem hj⟩
      have hLq : L[j]? = some (mkP V q) := by rw [hL, List.getElem?_map, hq]; rfl
      obtain ⟨hq1, hq2⟩ := hk q (List.mem_of_getElem? hq);obtain ⟨b0, hb0⟩ : ∃ b, b = (ls.take j).any (anyP i) := ⟨_, rfl⟩
      have hTl : (mkP V q).terms.length = q.length := by simp [mkP]
      have hany := any_take_succ (anyP i) hq;rw [← hb0] at hany ⊢;refine AWP.seqS ?_;(repeat' (first |refine qv ?_ |apply qn |apply qs |apply qr |(refine AWP.condD rfl ?_ ?_ <;> intro _ <;> try (exfalso; omega)) |apply qk));refine ⟨AWP.seq (AWP.block ?_)⟩;(repeat' (first |refine qv ?_ |apply qn |apply qs |apply qr |apply qb));refine AWP.loop (G := Nat) (fun k => k ≤ q.length) (fun k => St.of [] [(1, aI W), (2, .sl 2 eP L), (6, .ptr 6 0), (7, .ptr 7 0), (8, .row 700), (9, aN i), (10, aB (b0 || (anyP i (q.take k)))), (11, aN j), (12, aN k)] [(6, .cells [aN 0, .v (.slice none 0 0), .v (.slice none 0 0)] 82), (7, .cells [aN kind, .row 701, .v (.slice none 0 0)] 82), (700, .row 1 eI (occI ls i) 3), (701, .row 1 eI (occI ls i) 3)]) (fun k => q.length - k) 0 (by omega) ?_ ?_
      ·refine Ent.of [] ?_ ?_ rfl rfl;(repeat' (first |exact True.intro |refine ⟨⟨AV.Le.refl _, rfl⟩, ?_⟩ |refine ⟨⟨⟨_, rfl, BLe.cells (LeL.refl _)⟩, rfl⟩, ?_⟩ |refine ⟨⟨⟨_, rfl, BLe.row rfl⟩, rfl⟩, ?_⟩ |refine ⟨⟨AV.Le.bool ?_, rfl⟩, ?_⟩|fail));show b0 = (b0 || false);rw [Bool.or_false]
      ·intro k e0;by_cases hkq : k < q.length
       ·obtain ⟨u, hu⟩ : ∃ u, q[k]? = some u := ⟨_, List.getElem?_eq_getElem hkq⟩
        have hTu : (mkP V q).terms[k]? = some (tz u) := by show (q.map tz)[k]? = _; rw [List.getElem?_map, hu]; rfl
        have hul := (hq2 u (List.mem_of_getElem? hu)).1;obtain ⟨x, hx⟩ : ∃ x, u.2[i]? = some x := ⟨_, List.getElem?_eq_getElem (by omega)⟩
        have hstep : anyP i (q.take (k + 1)) = (anyP i (q.take k) || decide (0 < x)) := by
         have := any_take_succ (fun u : UT => decide (0 < u.2.getD i 0)) hu;rw [List.getD_eq_getElem?_getD, hx] at this;exact this
        obtain ⟨b1, hb1⟩ : ∃ b, b = (b0 || anyP i (q.take k)) := ⟨_, rfl⟩
        have hstep2 : (b0 || anyP i (q.take (k + 1))) = (b1 || decide (0 < x)) := by rw [hstep, hb1, Bool.or_assoc]
        rw [← hb1]
        cases b1 with
        | true =>
         (repeat' (first |refine qv ?_ |apply qn |apply qs |apply qr |refine qw ?_ |refine Fl.skip rfl rfl ?_ |(refine AWP.condD rfl ?_ ?_ <;> intro _ <;> try (exfalso; omega)) |apply qb |apply qk |refine qK ?_|fail));refine LoopEnd.of (k + 1) (by omega) (by omega) ?_;refine Ent.of [] ?_ ?_ rfl rfl;(repeat' (first |exact True.intro |refine ⟨⟨AV.Le.refl _, rfl⟩, ?_⟩ |refine ⟨⟨⟨_, rfl, BLe.cells (LeL.refl _)⟩, rfl⟩, ?_⟩ |refine ⟨⟨⟨_, rfl, BLe.row rfl⟩, rfl⟩, ?_⟩ |refine ⟨⟨AV.Le.bool ?_, rfl⟩, ?_⟩|fail));rw [hstep2]; rfl
        | false =>
         (repeat' (first |refine qv ?_ |apply qn |apply qs |apply qr |refine qw ?_ |(refine AWP.condD rfl ?_ ?_ <;> intro _ <;> try (exfalso; omega)) |apply qb |apply qk |refine qK ?_|fail));refine LoopEnd.of (k + 1) (by omega) (by omega) ?_;refine Ent.of [] ?_ ?_ rfl rfl;(repeat' (first |exact True.intro |refine ⟨⟨AV.Le.refl _, rfl⟩, ?_⟩ |refine ⟨⟨⟨_, rfl, BLe.cells (LeL.refl _)⟩, rfl⟩, ?_⟩ |refine ⟨⟨⟨_, rfl, BLe.row rfl⟩, rfl⟩, ?_⟩ |refine ⟨⟨AV.Le.bool ?_, rfl⟩, ?_⟩|fail));rw [hstep2]; rfl
       ·have htk : q.take k = q := List.take_of_length_le (by omega);rw [htk, ← hany];(repeat' (first |refine qv ?_ |apply qn |apply qs |apply qr |refine qw ?_ |(refine AWP.condD rfl ?_ ?_ <;> intro _ <;> try (exfalso; omega)) |apply qx |refine qK ?_|fail));refine LoopEnd.of (j + 1) (by omega) (by omega) ?_;refine Ent.of [] ?_ ?_ rfl rfl;(repeat' (first |exact True.intro |refine ⟨⟨AV.Le.refl _, rfl⟩, ?_⟩ |refine ⟨⟨⟨_, rfl, BLe.cells (LeL.refl _)⟩, rfl⟩, ?_⟩ |refine ⟨⟨⟨_, rfl, BLe.row rfl⟩, rfl⟩, ?_⟩|fail))
     ·(repeat' (first |refine qv ?_ |apply qn |apply qs |apply qr |(refine AWP.condD rfl ?_ ?_ <;> intro _ <;> try (exfalso; omega)) |apply qx));refine JoinOk.of ((ls.take j).any (anyP i)) ?_ ?_
      ·rw [List.take_of_length_le (by omega)]; rfl
      ·refine Ent.of [] ?_ ?_ rfl rfl;(repeat' (first |exact True.intro |refine ⟨⟨AV.Le.refl _, rfl⟩, ?_⟩ |refine ⟨⟨⟨_, rfl, BLe.cells (LeL.refl _)⟩, rfl⟩, ?_⟩ |refine ⟨⟨⟨_, rfl, BLe.row rfl⟩, rfl⟩, ?_⟩|fail))
   ·intro b hb;subst hb;(repeat' (first |refine qv ?_ |apply qn |apply qs |apply qr |refine qw ?_ |apply qk |(refine AWP.condB rfl ?_ ?_ <;> intro _)))
    ·rename_i hb;rw [if_pos hb] at hst;refine ql eI [(i : Int)] ?_;skip;refine qa (hby := (by dsimp only [List.length_nil, List.length_cons]; omega)) (hm := (by dsimp only [List.length_nil, List.length_cons]; omega)) (r := ?_);(repeat' (first |refine qv ?_ |refine qK ?_|fail));refine ql eI [(i : Int)] ?_;skip;refine qa (hby := (by dsimp only [List.length_nil, List.length_cons]; omega)) (hm := (by dsimp only [List.length_nil, List.length_cons]; omega)) (r := ?_);(repeat' (first |refine qv ?_ |apply qn |refine Fl.nil (fun _ => by kernel_rfl) ?_ |apply qr |refine qw ?_ |refine qe ?_|fail));refine LoopEnd.of (i + 1) (by omega) (by omega) ?_;refine Ent.of [(700, 62), (701, 70)] ?_ ?_ rfl rfl;(repeat' (first |exact True.intro |refine ⟨⟨AV.Le.refl _, rfl⟩, ?_⟩ |refine ⟨⟨⟨_, rfl, BLe.cells (LeL.refl _)⟩, rfl⟩, ?_⟩ |refine ⟨⟨⟨_, rfl, BLe.row ?_⟩, rfl⟩, ?_⟩|fail))
     ·exact hst.symm
     ·exact hst.symm
    ·rename_i hb;rw [if_neg (by rw [hb]; simp)] at hst;refine LoopEnd.of (i + 1) (by omega) (by omega) ?_;refine Ent.of [] ?_ ?_ rfl rfl;(repeat' (first |exact True.intro |refine ⟨⟨AV.Le.refl _, rfl⟩, ?_⟩ |refine ⟨⟨⟨_, rfl, BLe.cells (LeL.refl _)⟩, rfl⟩, ?_⟩ |refine ⟨⟨⟨_, rfl, BLe.row ?_⟩, rfl⟩, ?_⟩|fail))
     ·exact hst.symm
     ·exact hst.symm
  ·have hiV : i = V := by omega
   subst hiV;have hom : ∀ (m : Nat) (x : Int), (occI ls i)[m]? = some x → 0 ≤ x ∧ x < i := fun m x hx => occI_mem (List.mem_of_getElem? hx);have hres : linkR i kind ls = ⟨kind, occI ls i, ls.map fun p => mkP (occI ls i).length (canU (p.map fun u => (u.1, pickX (occI ls i) u.2)))⟩ := rfl;rw [hres]
   generalize occI ls i = occ at *
   refine AWP.ent (Ent.freeze 700 rfl) ?_;refine AWP.ent (Ent.freeze 701 rfl) ?_;refine AWP.ent (Ent.nilcell 7 2 806 rfl rfl rfl 2 eP 70) ?_;(repeat' (first |refine qv ?_ |apply qn |apply qs |apply qr |(refine AWP.condD rfl ?_ ?_ <;> intro _ <;> try (exfalso; omega)) |apply qb |apply qx));refine AWP.loop (G := Nat) (fun j => j ≤ ls.length) (fun j => St.of [] [(2, .sl 2 eP L), (6, .ptr 6 0), (7, .ptr 7 0), (8, aI occ), (13, aN j)] [(6, .cells [aN 0, .v (.slice none 0 0), .v (.slice none 0 0)] 82), (7, .cells [aN kind, aI occ, .row 701] 82), (701, .row 2 eP ((ls.take j).map fun p => mkP occ.length (canU (p.map fun u => (u.1, pickX occ u.2)))) 70)]) (fun j => ls.length - j) 0 (by omega) ?_ ?_
   ·refine Ent.of [(701, 806)] ?_ ?_ rfl rfl;(repeat' (first |exact True.intro |refine ⟨⟨AV.Le.refl _, rfl⟩, ?_⟩ |refine ⟨⟨⟨_, rfl, BLe.cells (LeL.refl _)⟩, rfl⟩, ?_⟩ |refine ⟨⟨⟨_, rfl, BLe.row rfl⟩, rfl⟩, ?_⟩|fail))
   ·intro j g0
    have hlj : ((ls.take j).map fun p => mkP occ.length (canU (p.map fun u => (u.1, pickX occ u.2)))).length = j := by rw [List.length_map, List.length_take]; omega
    by_cases hj : j < ls.length
    ·obtain ⟨q, hq⟩ : ∃ q, ls[j]? = some q := ⟨_, List.getElem?_eq_getElem hj⟩
     have hLq : L[j]? = some (mkP i q) := by rw [hL, List.getElem?_map, hq]; rfl
     obtain ⟨hq1, hq2⟩ := hk q (List.mem_of_getElem? hq)
     have hTl : (mkP i q).terms.length = q.length := by simp [mkP]
     refine AWP.seqS ?_;(repeat' (first |refine qv ?_ |apply qn |apply qs |apply qr |(refine AWP.condD rfl ?_ ?_ <;> intro _ <;> try (exfalso; omega)) |apply qk));refine ⟨AWP.seq (AWP.block (AWP.seqS ?_))⟩;(repeat' (first |refine qv ?_ |apply qn |apply qr |refine qe ?_|fail));refine ⟨?_⟩;refine AWP.ent (Ent.nilcell 14 1 807 rfl rfl rfl 3 eT 124) ?_;(repeat' (first |refine qv ?_ |apply qn |apply qs |apply qr |apply qb));refine AWP.loop (G := Nat) (fun k => k ≤ q.length) (fun k => St.of [] [(2, .sl 2 eP L), (6, .ptr 6 0), (7, .ptr 7 0), (8, aI occ), (13, aN j), (14, .ptr 14 0), (15, aN k)] [(6, .cells [aN 0, .v (.slice none 0 0), .v (.slice none 0 0)] 82), (7, .cells [aN kind, aI occ, .row 701] 82), (701, .row 2 eP ((ls.take j).map fun p => mkP occ.length (canU (p.map fun u => (u.1, pickX occ u.2)))) 70), (14, .cells [aN occ.length, .row 702] 70), (702, .row 3 eT (((q.take k).map fun u => (u.1, pickX occ u.2)).map tz) 124)]) (fun k => q.length - k) 0 (by omega) ?_ ?_
     ·refine Ent.of [(702, 807)] ?_ ?_ rfl rfl;(repeat' (first |exact True.intro |refine ⟨⟨AV.Le.refl _, rfl⟩, ?_⟩ |refine ⟨⟨⟨_, rfl, BLe.cells (LeL.refl _)⟩, rfl⟩, ?_⟩ |refine ⟨⟨⟨_, rfl, BLe.row rfl⟩, rfl⟩, ?_⟩|fail))
     ·intro k e0
      have hlk : (((q.take k).map fun u => (u.1, pickX occ u.2)).map tz).length = k := by rw [List.length_map, List.length_map, List.length_take]; omega
      by_cases hkq : k < q.length
      ·obtain ⟨u, hu⟩ : ∃ u, q[k]? = some u := ⟨_, List.getElem?_eq_getElem hkq⟩
       have hTu : (mkP i q).terms[k]? = some (tz u) := by show (q.map tz)[k]? = _; rw [List.getElem?_map, hu]; rfl
       have hul := (hq2 u (List.mem_of_getElem? hu)).1;refine AWP.seqS ?_;(repeat' (first |refine qv ?_ |apply qn |apply qs |apply qr |(refine AWP.condD rfl ?_ ?_ <;> intro _ <;> try (exfalso; omega)) |apply qk |refine qK ?_|fail));refine ⟨AWP.seq (AWP.block (AWP.seqS ?_))⟩;(repeat' (first |refine qv ?_ |apply qn |apply qr));refine ⟨?_⟩;refine AWP.ent (Ent.nilrow 16 808 rfl rfl 1 eI 3) ?_;(repeat' (first |refine qv ?_ |apply qn |apply qs |apply qr |apply qb));refine AWP.loop (G := Nat) (fun m => m ≤ occ.length) (fun m => St.of [] [(2, .sl 2 eP L), (6, .ptr 6 0), (7, .ptr 7 0), (8, aI occ), (13, aN j), (14, .ptr 14 0), (15, aN k), (16, .row 703), (17, aN m)] [(6, .cells [aN 0, .v (.slice none 0 0), .v (.slice none 0 0)] 82), (7, .cells [aN kind, aI occ, .row 701] 82), (701, .row 2 eP ((ls.take j).map fun p => mkP occ.length (canU (p.map fun u => (u.1, pickX occ u.2)))) 70), (14, .cells [aN occ.length, .row 702] 70), (702, .row 3 eT (((q.take k).map fun u => (u.1, pickX occ u.2)).map tz) 124), (703, .row 1 eI ((occ.take m).map fun x => u.2.getD x.toNat 0) 3)]) (fun m => occ.length - m) 0 (by omega) ?_ ?_
       ·refine Ent.of [(703, 808)] ?_ ?_ rfl rfl;(repeat' (first |exact True.intro |refine ⟨⟨AV.Le.refl _, rfl⟩, ?_⟩ |refine ⟨⟨⟨_, rfl, BLe.cells (LeL.refl _)⟩, rfl⟩, ?_⟩ |refine ⟨⟨⟨_, rfl, BLe.row rfl⟩, rfl⟩, ?_⟩|fail))
       ·intro m m0
        have hlm : ((occ.take m).map fun x => u.2.getD x.toNat 0).length = m := by rw [List.length_map, List.length_take]; omega
        by_cases hm : m < occ.length
        ·obtain ⟨x, hx⟩ : ∃ x, occ[m]? = some x := ⟨_, List.getElem?_eq_getElem hm⟩;have hxb := hom m x hx;obtain ⟨y, hy⟩ : ∃ y, u.2[x.toNat]? = some y := ⟨_, List.getElem?_eq_getElem (by omega)⟩;(repeat' (first |refine qv ?_ |apply qn |apply qs |apply qr |(refine AWP.condD rfl ?_ ?_ <;> intro _ <;> try (exfalso; omega)) |apply qb |apply qk |refine qK ?_|fail));refine ql eI [y] ?_;skip;refine qa (hby := (by dsimp only [List.length_nil, List.length_cons]; omega)) (hm := (by dsimp only [List.length_nil, List.length_cons]; omega)) (r := ?_);(repeat' (first |refine qv ?_ |apply qn |refine Fl.nil (fun _ => by kernel_rfl) ?_ |apply qr |refine qw ?_|fail));refine LoopEnd.of (m + 1) (by omega) (by omega) ?_;refine Ent.of [(703, 114)] ?_ ?_ rfl rfl;(repeat' (first |exact True.intro |refine ⟨⟨AV.Le.refl _, rfl⟩, ?_⟩ |refine ⟨⟨⟨_, rfl, BLe.cells (LeL.refl _)⟩, rfl⟩, ?_⟩ |refine ⟨⟨⟨_, rfl, BLe.row rfl⟩, rfl⟩, ?_⟩ |refine ⟨⟨⟨_, rfl, BLe.row ?_⟩, rfl⟩, ?_⟩|fail));rw [take_snoc hx, List.map_append];congr 1;show [y] = [u.2.getD x.toNat 0];rw [List.getD_eq_getElem?_getD, hy];rfl
        ·have htm : occ.take m = occ := List.take_of_length_le (by omega);rw [htm];refine AWP.ent (Ent.freeze 703 rfl) ?_;(repeat' (first |refine qv ?_ |apply qn |apply qs |apply qr |refine qe ?_ |(refine AWP.condD rfl ?_ ?_ <;> intro _ <;> try (exfalso; omega)) |apply qx |refine qK ?_|fail));refine ql eT [tz (u.1, pickX occ u.2)] ?_;skip;refine qa (hby := (by dsimp only [List.length_nil, List.length_cons]; omega)) (hm := (by dsimp only [List.length_nil, List.length_cons]; omega)) (r := ?_);(repeat' (first |refine qv ?_ |apply qn |refine Fl.nil (fun _ => by kernel_rfl) ?_ |apply qr |refine qw ?_ |refine qe ?_|fail));refine LoopEnd.of (k + 1) (by omega) (by omega) ?_;refine Ent.of [(702, 129)] ?_ ?_ rfl rfl;(repeat' (first |exact True.intro |refine ⟨⟨AV.Le.refl _, rfl⟩, ?_⟩ |refine ⟨⟨⟨_, rfl, BLe.cells (LeL.refl _)⟩, rfl⟩, ?_⟩ |refine ⟨⟨⟨_, rfl, BLe.row rfl⟩, rfl⟩, ?_⟩ |refine ⟨⟨⟨_, rfl, BLe.row ?_⟩, rfl⟩, ?_⟩|fail));rw [take_snoc hu, List.map_append, List.map_append];rfl
      ·have htk : q.take k = q := List.take_of_length_le (by omega);have hso := (rSortedU occ.length (by have := occI_len ls i; omega) 12 M (q.map fun u => (u.1, pickX occ u.2)) (by rw [List.length_map]; omega) (by omega) (by omega) (hq2.pick occ)).1;rw [htk];(repeat' (first |refine qv ?_ |apply qn |apply qs |apply qr |(refine AWP.condD rfl ?_ ?_ <;> intro _ <;> try (exfalso; omega)) |apply qx |refine qK ?_|fail));refine Fl.callF rfl 702 rfl hso rfl rfl rfl (LeL.refl _) ?_;(repeat' (first |refine qv ?_ |apply qn |apply qr |refine qe ?_|fail));refine ql eP [mkP occ.length (canU (q.map fun u => (u.1, pickX occ u.2)))] ?_;skip;refine qa (hby := (by dsimp only [List.length_nil, List.length_cons]; omega)) (hm := (by dsimp only [List.length_nil, List.length_cons]; omega)) (r := ?_);(repeat' (first |refine qv ?_ |apply qn |apply qr |refine qw ?_ |refine qe ?_|fail));refine LoopEnd.of (j + 1) (by omega) (by omega) ?_;refine Ent.of [(701, 139)] ?_ ?_ rfl rfl;(repeat' (first |exact True.intro |refine ⟨⟨AV.Le.refl _, rfl⟩, ?_⟩ |refine ⟨⟨⟨_, rfl, BLe.cells (LeL.refl _)⟩, rfl⟩, ?_⟩ |refine ⟨⟨⟨_, rfl, BLe.row ?_⟩, rfl⟩, ?_⟩|fail));rw [take_snoc hq, List.map_append];rfl
    ·have htj : ls.take j = ls := List.take_of_length_le (by omega);rw [htj];refine AWP.ent (Ent.freeze 701 rfl) ?_;(repeat' (first |refine qv ?_ |apply qn |apply qs |apply qr |refine qe ?_ |(refine AWP.condD rfl ?_ ?_ <;> intro _ <;> try (exfalso; omega)) |apply qx |apply qt));exact RetOk.of rfl (AV.Le.refl _)
end Go.Proofs.YtcaecieigoplbaaGreat
/- The reference's polynomials with few small numbers, by inspection. -/
namespace Go.AL
def chkR (V : Nat) (l : List UT) : Bool := l.all (fun u => okU V u && decide (u.1 ≠ 0) && decide (u.1.natAbs < 4294967296)) && sortedU l && decide (l.length ≤ 3000)
theorem chkR_ok {V : Nat} {l : List UT} (h : chkR V l = true) : CanU l ∧ okT V 1 l ∧ l.length ≤ 3000 := by
 simp only [chkR, Bool.and_eq_true, List.all_eq_true, decide_eq_true_eq] at h;obtain ⟨⟨h1, h2⟩, h3⟩ := h;refine ⟨⟨fun u hu => (h1 u hu).1.2, sortedU_pw h2⟩, fun u hu => ?_, h3⟩;have := okU_ok (h1 u hu).1.1;refine ⟨this.1, this.2, lenI_le.2 ?_⟩;rw [show (1 : Nat) = 0 + 1 from rfl, BB_succ, BB_zero];have := (h1 u hu).2;omega
def degR (V : Nat) (a b : List UT) : Bool := a.all (fun s => b.all fun t => okU V (0, addE s.2 t.2)) && decide (b.length * a.length ≤ 4096)
theorem addUs_one (a b : List UT) : canU (a ++ b) = addL a b := canU_congr fun e => by
 unfold addUs;rw [cfU_append, cfU_append, cfU_map];congr 1
 have : ∀ l : List UT, cfU l e = sumL (l.map fun u => if (u.1 * 1, u.2).2 = e then (u.1 * 1, u.2).1 else 0) := by
  intro l
  induction l with
  | nil => rfl
  | cons u l ih => rw [cfU, ih]; simp only [List.map_cons, sumL, Int.mul_one]
 exact this b
end Go.AL
namespace Go.Proofs.YtcaecieigoplbaaGreat
open Go.AL
theorem rAddK {V : Nat} {a b : List UT} (hV : Nat.ble V 1000 = true) (ha : chkR V a = true) (hb : chkR V b = true) : PureFn Tryz.prog 72 [aP (mkP V a), aP (mkP V b)] (aP (mkP V (addL a b))) := by
 obtain ⟨a1, a2, a3⟩ := chkR_ok ha;obtain ⟨b1, b2, b3⟩ := chkR_ok hb;have h := rAddU V 1 (Nat.le_of_ble_eq_true hV) (by omega) a b a1 b1 a2 b2 (by omega) (by omega);rwa [addUs_one] at h
theorem rSubK {V : Nat} {a b : List UT} (hV : Nat.ble V 1000 = true) (ha : chkR V a = true) (hb : chkR V b = true) : PureFn Tryz.prog 76 [aP (mkP V a), aP (mkP V b)] (aP (mkP V (subL a b))) := by
 obtain ⟨a1, a2, a3⟩ := chkR_ok ha;obtain ⟨b1, b2, b3⟩ := chkR_ok hb;exact rSubU V 1 (Nat.le_of_ble_eq_true hV) (by omega) a b a1 b1 a2 b2 (by omega) (by omega)
theorem rMulK {V : Nat} {a b : List UT} (hV : Nat.ble V 1000 = true) (ha : chkR V a = true) (hb : chkR V b = true) (hd : degR V a b = true) : PureFn Tryz.prog 73 [aP (mkP V a), aP (mkP V b)] (aP (mkP V (mulL2 a b))) := by
 obtain ⟨a1, a2, a3⟩ := chkR_ok ha;obtain ⟨b1, b2, b3⟩ := chkR_ok hb;simp only [degR, Bool.and_eq_true, List.all_eq_true, decide_eq_true_eq] at hd;exact rMulU V 1 12 (Nat.le_of_ble_eq_true hV) (by omega) a b a2 b2 b1.nz (fun s hs t ht => (okU_ok (hd.1 s hs t ht)).2) a3 b3 hd.2 (by omega) (by omega)
theorem rMakeK {V : Nat} {kind : Int} {ls : List (List UT)} (hV : Nat.ble V 1000 = true) (h : (ls.all (chkR V) && decide (ls.length ≤ 1000)) = true) : PureFn Tryz.prog 75 [aN kind, aI (ixN V), .sl 2 eP (ls.map (mkP V))] (aL (linkR V kind ls)) := by
 simp only [Bool.and_eq_true, List.all_eq_true, decide_eq_true_eq] at h;exact rMakeL_ok V 1 kind ls (ixN V) rfl (Nat.le_of_ble_eq_true hV) (by omega) h.2 fun p hp => ⟨(chkR_ok (h.1 p hp)).2.2, (chkR_ok (h.1 p hp)).2.1⟩
theorem rMakeK1 {V : Nat} {kind : Int} {a : List UT} (hV : Nat.ble V 1000 = true) (h : chkR V a = true) : PureFn Tryz.prog 75 [aN kind, aI (ixN V), .sl 2 eP [mkP V a]] (aL (linkR V kind [a])) :=
 rMakeK (ls := [a]) hV (by simp [h])
theorem rVarK {V : Nat} {i : Int} (hV : Nat.ble V 1000 = true) (hi : (decide (0 ≤ i) && decide (i < V)) = true) : PureFn Tryz.prog 143 [aN V, aN i] (aP (mkP V (varU V i.toNat))) := by
 simp only [Bool.and_eq_true, decide_eq_true_eq] at hi;have h := rVarU V i.toNat (by omega) (Nat.le_of_ble_eq_true hV);rwa [Int.toNat_of_nonneg hi.1] at h
theorem rConK {V : Nat} {c : Int} (hV : Nat.ble V 1000 = true) (hc : (decide (c.natAbs < 4294967296)) = true) : PureFn Tryz.prog 146 [aN V, aX c] (aP (mkP V (conU V c))) := by
 have := of_decide_eq_true hc;exact rConstU V c (Nat.le_of_ble_eq_true hV) (by have := lenI_small this; omega)
end Go.Proofs.YtcaecieigoplbaaGreat
/- The reference's equations. -/
namespace Go.AL
section
variable {P : Program} {tab : Tab} {n : Nat} {s : St}
variable {ops : Array Oper} {draw : Dr} {o : Oper} {l : List Oper} {acc : List Eff} {K : Exit → St → Prop}
theorem OpJ.ixC (ht : TabOk P tab) (hd : ∀ d, o.dst = some d → d < n) {t : TypeId} {x y : Operand} (hop : o.op = .indexAddr t x y) {e : TypeId} {i : TI} {len sz' by' : Nat} {z : List Value} (hts : tab t = some ⟨.array len e, sz', by', z⟩) (hti : tab e = some i) {cs : List AV} (hx : opd s x = .cptr cs) {k : IntKind} {m : Int} (hy : opd s y = .v (.int k m)) (h0 : 0 ≤ m) (h1 : m < len) :
  OpJ P n o s ⟨.cptr (cs.drop (m.toNat * i.size)), [], [], [], []⟩ := by
 refine OpJ.of_run hd fun C s' a w h β ho _ bb => ?_;have hxr := opd_rep bb x;have hyr := opd_rep bb y;rw [ho x (by simp [hop, Op.operands]), hx] at hxr;rw [ho y (by simp [hop, Op.operands]), hy] at hyr;simp only [Rep] at hxr hyr;obtain ⟨ad, us, e1, hr, hc⟩ := hxr;have hu := (ht _ _ hts).und;simp only at hu;refine ⟨.pointer (some (ad.add (m.toNat * i.size))), ?_, ?_⟩
 ·simp only [execOp, hop, e1, hyr, Instr.indexAt, asIntOf, Instr.sureAddr, Sem.run_bind, Sem.run_pure, Result.andThen, run_underlying hu];rw [if_pos ⟨h0, h1⟩];simp only [Sem.run_bind, size_ok (ht _ _ hti), Result.andThen, Sem.run_pure]
 ·simp only [Rep];refine ⟨_, us.drop (m.toNat * i.size), rfl, hr.drop _, fun j u hu => ?_⟩;rw [List.getElem?_drop] at hu;have := hc (m.toNat * i.size + j) u hu
  generalize m.toNat * i.size = off at *
  have hadd : (ad.add off).add j = ad.add (off + j) := by
   unfold Addr.add;by_cases h1 : off = 0
   ·subst h1; simp
   ·by_cases h2 : j = 0
    ·subst h2; simp [h1]
    ·simp [h1, h2, Nat.add_assoc]
  rwa [hadd]
theorem Fl.ixC [f : Facts P tab] {t : TypeId} {x y : Operand} (hop : o.op = .indexAddr t x y) {e : TypeId} {i : TI} {len sz' by' : Nat} {z : List Value} (hts : tab t = some ⟨.array len e, sz', by', z⟩) (hti : tab e = some i) {cs : List AV} (hx : opd s x = .cptr cs) {k : IntKind} {m : Int} (hy : opd s y = .v (.int k m)) (m0 : Nat) (hm : m = m0) {cs' : List AV} (hq : cs.drop (m0 * i.size) = cs') (hg : gOk ops s o = true) (hd : dOk n o.dst = true) (h1 : m0 < len)
  (r : Fl P n ops draw l ((Eff.mk (.cptr cs') [] [] [] []).app o.dst s) (Eff.mk (.cptr cs') [] [] [] [] :: acc) K) : Fl P n ops draw (o :: l) s acc K := by
 subst hq hm;exact Fl.opv hg (OpJ.ixC f.tabOk (dOk_lt hd) hop hts hti hx hy (by omega) (by omega)) r
end
def okMulR (V : Nat) (acc : List UT) : List (List UT) → Bool
  | [] => true
  | p :: l => chkR V acc && chkR V p && degR V acc p && okMulR V (mulL2 acc p) l
theorem okMulR_cons {V : Nat} {acc p : List UT} {l : List (List UT)} (h : okMulR V acc (p :: l) = true) : chkR V acc = true ∧ chkR V p = true ∧ degR V acc p = true ∧ okMulR V (mulL2 acc p) l = true := by
 simp only [okMulR, Bool.and_eq_true] at h;exact ⟨h.1.1.1, h.1.1.2, h.1.2, h.2⟩
abbrev eQ (x : PZ × PZ) : List AV := [aN x.1.vars, .sl 3 eT x.1.terms, aN x.2.vars, .sl 3 eT x.2.terms]
abbrev prU (l : List (List UT)) : List UT := mulsU (conU 16 1) l
abbrev plU (p q : List UT) : List UT := addL (prU [subL (prU [p, p]) (conU 16 1), q, q]) (conU 16 1)
def dfQ : List (List UT × List UT) := [(varU 16 0, addL (varU 16 14) (conU 16 2)), (varU 16 1, addL (varU 16 15) (conU 16 1)), (varU 16 3, plU (varU 16 0) (varU 16 2)), (varU 16 4, prU [conU 16 2, addL (varU 16 9) (conU 16 1), varU 16 2, varU 16 2, varU 16 3]), (varU 16 5, plU (varU 16 0) (varU 16 4)), (varU 16 6, addL (varU 16 0) (prU [varU 16 5, subL (varU 16 5) (varU 16 0)])), (varU 16 7, addL (varU 16 1) (prU [conU 16 2, varU 16 10, varU 16 2])), (varU 16 8, plU (varU 16 6) (varU 16 7)), (prU [varU 16 3, varU 16 5, varU 16 8], prU [varU 16 13, varU 16 13]), (varU 16 7, addL (varU 16 2) (prU [varU 16 5, varU 16 11])), (varU 16 2, addL (varU 16 1) (varU 16 12))]
theorem dfQ_len : dfQ.length = 11 := rfl
theorem dfQ_ok : (dfQ.all fun x => chkR 16 x.1 && chkR 16 x.2 && chkR 16 (subL x.1 x.2)) = true := by kernel_rfl
abbrev dfP (x : List UT × List UT) : PZ × PZ := (mkP 16 x.1, mkP 16 x.2)
abbrev dfK (x : List UT × List UT) : LZ := linkR 16 0 [subL x.1 x.2]
theorem dfQ_links : dfQ.map dfK = dfS.links := by kernel_rfl
end Go.AL
namespace Go.Proofs.YtcaecieigoplbaaGreat
open Go.AL
theorem v10_ok {i : Int} (hi : (decide (0 ≤ i) && decide (i < 16)) = true) : PureFn Tryz.prog 123 [aN i] (aP (mkP 16 (varU 16 i.toNat))) := by
 refine PureFn.of_body Tryz.func123 rfl Tryz.ntmps123 rfl rfl ?_;(repeat' (first |refine qv ?_ |apply qn |apply qs |apply qr |refine qe ?_|fail));refine qc (rVarK (V := 16) (i := i) rfl hi) ?_;(repeat' (first |apply qn |refine qe ?_ |apply qt));exact RetOk.of rfl (AV.Le.refl _)
theorem c10_ok {c : Int} (hc : (decide (c.natAbs < 4294967296)) = true) : PureFn Tryz.prog 124 [aN c] (aP (mkP 16 (conU 16 c))) := by
 refine PureFn.of_body Tryz.func124 rfl Tryz.ntmps124 rfl rfl ?_;have := of_decide_eq_true hc;(repeat' (first |refine qv ?_ |apply qn |apply qs |apply qr |refine qe ?_|fail));refine qc (rOf_ok c (by omega) (by omega)) ?_;skip;refine qc (rConK (V := 16) (c := c) rfl hc) ?_;(repeat' (first |apply qn |refine qe ?_ |apply qt));exact RetOk.of rfl (AV.Le.refl _)
theorem product10_ok (ls : List (List UT)) (hl : ls.length ≤ 1000) (h : okMulR 16 (conU 16 1) ls = true) : PureFn Tryz.prog 126 [.sl 2 eP (ls.map (mkP 16))] (aP (mkP 16 (prU ls))) := by
 refine PureFn.of_body Tryz.func126 rfl Tryz.ntmps126 rfl rfl ?_;obtain ⟨L, hL⟩ : ∃ L, L = ls.map (mkP 16) := ⟨_, rfl⟩
 have hLl : L.length = ls.length := by rw [hL, List.length_map]
 rw [← hL];refine AWP.seqS ?_;(repeat' (first |apply qn |apply qr |refine qe ?_|fail));refine ⟨AWP.seqS ?_⟩;(repeat' (first |apply qr));refine qc (c10_ok (c := 1) rfl) ?_;(repeat' (first |apply qn |refine qe ?_|fail));refine ⟨AWP.seqS ?_⟩;(repeat' (first |refine qv ?_ |apply qn |apply qs |apply qr |apply qb));refine AWP.loop (G := Nat × List UT) (fun (i, u) => i ≤ ls.length ∧ okMulR 16 u (ls.drop i) = true ∧ mulsU u (ls.drop i) = prU ls) (fun (i, u) => St.of [] [(0, .sl 2 eP L), (2, .ptr 2 0), (3, .ptr 3 0), (4, aN i)] [(2, .cells [aN 0, .v (.slice none 0 0)] 70), (3, .cells (eP (mkP 16 u)) 70)]) (fun (i, u) => ls.length - i) (0, conU 16 1) ⟨by omega, h, rfl⟩ ?_ ?_
 ·refine Ent.of [] ?_ ?_ rfl rfl;(repeat' (first |exact True.intro |refine ⟨⟨AV.Le.refl _, rfl⟩, ?_⟩ |refine ⟨⟨⟨_, rfl, BLe.cells (LeL.refl _)⟩, rfl⟩, ?_⟩|fail))
 ·intro ⟨i, u⟩ ⟨k0, k1, k2⟩;by_cases hi : i < ls.length
  ·obtain ⟨q, hq⟩ : ∃ q, ls[i]? = some q := ⟨_, List.getElem?_eq_getElem hi⟩
   have hLq : L[i]? = some (mkP 16 q) := by rw [hL, List.getElem?_map, hq]; rfl
   rw [drop_cons hq] at k1 k2;obtain ⟨a1, a2, a3, a4⟩ := okMulR_cons k1;(repeat' (first |refine qv ?_ |apply qn |apply qs |apply qr |(refine AWP.condD rfl ?_ ?_ <;> intro _ <;> try (exfalso; omega)) |apply qb |apply qk |refine qK ?_|fail));refine qc (rMulK (V := 16) rfl a1 a2 a3) ?_;(repeat' (first |refine qv ?_ |apply qn |refine Fl.nil (fun _ => by kernel_rfl) ?_ |apply qr |refine qw ?_ |refine qe ?_|fail));refine LoopEnd.of (i + 1, mulL2 u q) ⟨by omega, a4, k2⟩ (by simp only; omega) ?_;refine Ent.of [] ?_ ?_ rfl rfl;(repeat' (first |exact True.intro |refine ⟨⟨AV.Le.refl _, rfl⟩, ?_⟩ |refine ⟨⟨⟨_, rfl, BLe.cells (LeL.refl _)⟩, rfl⟩, ?_⟩|fail))
  ·have hd : ls.drop i = [] := List.drop_of_length_le (by omega);rw [hd] at k2;have k2 : u = prU ls := k2;rw [← k2];(repeat' (first |refine qv ?_ |apply qn |apply qs |apply qr |(refine AWP.condD rfl ?_ ?_ <;> intro _ <;> try (exfalso; omega)) |apply qx));refine ⟨?_⟩;(repeat' (first |refine qv ?_ |apply qn |apply qs |apply qr |refine qe ?_ |apply qt));exact RetOk.of rfl (AV.Le.refl _)
theorem product2_ok {a b : List UT} (h : okMulR 16 (conU 16 1) [a, b] = true) : PureFn Tryz.prog 126 [.sl 2 eP [mkP 16 a, mkP 16 b]] (aP (mkP 16 (prU [a, b]))) := product10_ok [a, b] (by simp) h
theorem product3_ok {a b c : List UT} (h : okMulR 16 (conU 16 1) [a, b, c] = true) : PureFn Tryz.prog 126 [.sl 2 eP [mkP 16 a, mkP 16 b, mkP 16 c]] (aP (mkP 16 (prU [a, b, c]))) := product10_ok [a, b, c] (by simp) h
theorem product5_ok {a b c d e : List UT} (h : okMulR 16 (conU 16 1) [a, b, c, d, e] = true) : PureFn Tryz.prog 126 [.sl 2 eP [mkP 16 a, mkP 16 b, mkP 16 c, mkP 16 d, mkP 16 e]] (aP (mkP 16 (prU [a, b, c, d, e]))) := product10_ok [a, b, c, d, e] (by simp) h
theorem pell10_gen {p q l1 l2 l3 l4 : List UT} (e1 : prU [p, p] = l1) (e2 : subL l1 (conU 16 1) = l2) (e3 : prU [l2, q, q] = l3) (e4 : addL l3 (conU 16 1) = l4) (h1 : okMulR 16 (conU 16 1) [p, p] = true) (h2 : chkR 16 l1 = true) (h3 : okMulR 16 (conU 16 1) [l2, q, q] = true) (h4 : chkR 16 l3 = true) : PureFn Tryz.prog 125 [aP (mkP 16 p), aP (mkP 16 q)] (aP (mkP 16 l4)) := by
 have r1 := product2_ok h1;rw [e1] at r1;have r2 := rSubK (V := 16) (a := l1) (b := conU 16 1) rfl h2 (by kernel_rfl);rw [e2] at r2;have r3 := product3_ok h3;rw [e3] at r3;have r4 := rAddK (V := 16) (a := l3) (b := conU 16 1) rfl h4 (by kernel_rfl);rw [e4] at r4;have c1 := c10_ok (c := 1) rfl;clear e1 e2 e3 e4
 generalize conU 16 1 = k1 at *
 refine PureFn.of_body Tryz.func125 rfl Tryz.ntmps125 rfl rfl ?_;refine AWP.seqS ?_;(repeat' (first |apply qn |apply qr |refine qe ?_|fail));refine ⟨?_⟩;(repeat' (first |refine qv ?_ |apply qs |apply qr));refine ql eP [mkP 16 p, mkP 16 p] ?_;skip;refine qc (r1) ?_;skip;refine qc (c1) ?_;skip;refine qc (r2) ?_;(repeat' (first |refine qv ?_|fail));refine ql eP [mkP 16 l2, mkP 16 q, mkP 16 q] ?_;skip;refine qc (r3) ?_;skip;refine qc (c1) ?_;skip;refine qc (r4) ?_;(repeat' (first |refine Fl.nil (fun _ => by kernel_rfl) ?_ |refine qe ?_ |apply qt));exact RetOk.of rfl (AV.Le.refl _)
theorem pell10_ok {p q : List UT} (h1 : okMulR 16 (conU 16 1) [p, p] = true) (h2 : chkR 16 (prU [p, p]) = true) (h3 : okMulR 16 (conU 16 1) [subL (prU [p, p]) (conU 16 1), q, q] = true) (h4 : chkR 16 (prU [subL (prU [p, p]) (conU 16 1), q, q]) = true) : PureFn Tryz.prog 125 [aP (mkP 16 p), aP (mkP 16 q)] (aP (mkP 16 (plU p q))) := pell10_gen rfl rfl rfl rfl h1 h2 h3 h4
set_option maxHeartbeats 8000000 in
set_option maxRecDepth 20000 in
theorem rEq10_ok : PureFn Tryz.prog 53 [] (aS dfS) := by
 refine PureFn.of_body Tryz.func53 rfl Tryz.ntmps53 rfl rfl ?_;refine AWP.seqS ?_;(repeat' (first |apply qn |apply qr |refine qe ?_|fail));refine ⟨AWP.seqS ?_⟩;(repeat' (first | refine Fl.v rfl rfl rfl ?_ | refine Fl.b rfl rfl rfl rfl ?_ | refine Fl.call rfl (v10_ok (by rfl)) rfl rfl rfl (LeL.refl _) ?_ | refine Fl.nil (fun _ => by kernel_rfl) ?_ | refine AWP.region ?_ | fail));refine ⟨AWP.seqS ?_⟩;(repeat' (first | refine Fl.v rfl rfl rfl ?_ | refine Fl.b rfl rfl rfl rfl ?_ | refine Fl.call rfl (v10_ok (by rfl)) rfl rfl rfl (LeL.refl _) ?_ | refine Fl.nil (fun _ => by kernel_rfl) ?_ | refine AWP.region ?_ | fail));refine ⟨?_⟩;obtain ⟨Q, hQ⟩ : ∃ Q, Q = dfQ.map dfP := ⟨_, rfl⟩
 have hQl : Q.length = 11 := by rw [hQ, List.length_map]; rfl
 refine AWP.seqJ (G := Unit) (fun _ => True) (fun _ => St.of [] [(0, .ptr 0 0), (16, .sl 4 eQ Q)] [(0, .cells [aN 0, .v (.slice none 0 0)] 25)]) ?_ ?_
 ·(repeat' (first | refine Fl.v rfl rfl rfl ?_ | refine Fl.bArr rfl rfl rfl rfl ?_ | refine Fl.b rfl rfl rfl rfl ?_ | refine Fl.call rfl (v10_ok (by rfl)) rfl rfl rfl (LeL.refl _) ?_ | refine Fl.call rfl (c10_ok (by rfl)) rfl rfl rfl (LeL.refl _) ?_ | refine Fl.call rfl (rAddK (by rfl) (by kernel_rfl) (by kernel_rfl)) rfl rfl rfl (LeL.refl _) ?_ | refine Fl.call rfl (rSubK (by rfl) (by kernel_rfl) (by kernel_rfl)) rfl rfl rfl (LeL.refl _) ?_ | refine Fl.call rfl (product2_ok (by kernel_rfl)) rfl rfl rfl (LeL.refl _) ?_ | refine Fl.call rfl (product3_ok (by kernel_rfl)) rfl rfl rfl (LeL.refl _) ?_ | refine Fl.call rfl (product5_ok (by kernel_rfl)) rfl rfl rfl (LeL.refl _) ?_ | refine Fl.call rfl (pell10_ok (by kernel_rfl) (by kernel_rfl) (by kernel_rfl) (by kernel_rfl)) rfl rfl rfl (LeL.refl _) ?_ | refine Fl.lit rfl rfl rfl rfl rfl eP [mkP 16 _, mkP 16 _] rfl rfl rfl rfl (by intro _ _; rfl) rfl ?_ | refine Fl.lit rfl rfl rfl rfl rfl eP [mkP 16 _, mkP 16 _, mkP 16 _] rfl rfl rfl rfl (by intro _ _; rfl) rfl ?_ | refine Fl.lit rfl rfl rfl rfl rfl eP [mkP 16 _, mkP 16 _, mkP 16 _, mkP 16 _, mkP 16 _] rfl rfl rfl rfl (by intro _ _; rfl) rfl ?_ | refine Fl.lit rfl rfl rfl rfl rfl eQ (dfQ.map dfP) rfl rfl rfl rfl (by intro _ _; rfl) rfl ?_ | refine Fl.nil (fun _ => by kernel_rfl) ?_ | refine AWP.region ?_ | fail));refine JoinOk.of () trivial ?_;refine Ent.of [] ?_ ?_ rfl rfl;(repeat' (first |exact True.intro |refine ⟨⟨AV.Le.refl _, rfl⟩, ?_⟩ |refine ⟨⟨⟨_, rfl, BLe.cells (LeL.refl _)⟩, rfl⟩, ?_⟩ |refine ⟨⟨AV.Le.sl ?_, rfl⟩, ?_⟩|fail));exact hQ.symm
 intro _ _;refine AWP.seqS ?_;(repeat' (first |apply qn |apply qr |refine qe ?_|fail));refine ⟨AWP.seqS ?_⟩;refine AWP.ent (Ent.nilcell 17 1 705 rfl rfl rfl 3 eL 82) ?_;(repeat' (first |refine qv ?_ |apply qn |apply qs |apply qr |apply qb));refine AWP.loop (G := Nat) (fun i => i ≤ 11) (fun i => St.of [] [(0, .ptr 0 0), (16, .sl 4 eQ Q), (17, .ptr 17 0), (18, aN i)] [(0, .cells [aN 0, .v (.slice none 0 0)] 25), (17, .cells [aN 16, .row 700] 25), (700, .row 3 eL ((dfQ.take i).map dfK) 82)]) (fun i => 11 - i) 0 (by omega) ?_ ?_
 ·refine Ent.of [(700, 705)] ?_ ?_ rfl rfl;(repeat' (first |exact True.intro |refine ⟨⟨AV.Le.refl _, rfl⟩, ?_⟩ |refine ⟨⟨⟨_, rfl, BLe.cells (LeL.refl _)⟩, rfl⟩, ?_⟩ |refine ⟨⟨⟨_, rfl, BLe.row rfl⟩, rfl⟩, ?_⟩|fail))
 ·intro i k0
  have hli : ((dfQ.take i).map dfK).length = i := by rw [List.length_map, List.length_take, dfQ_len]; omega
  by_cases hi : i < 11
  ·obtain ⟨x, hx⟩ : ∃ x, dfQ[i]? = some x := ⟨_, List.getElem?_eq_getElem (by rw [dfQ_len]; omega)⟩
   have hQx : Q[i]? = some (dfP x) := by rw [hQ, List.getElem?_map, hx]; rfl
   have hc := List.all_eq_true.1 dfQ_ok x (List.mem_of_getElem? hx);simp only [Bool.and_eq_true] at hc;(repeat' (first |refine qv ?_ |apply qn |apply qs |apply qr |(refine AWP.condD rfl ?_ ?_ <;> intro _ <;> try (exfalso; omega)) |apply qb |apply qk));refine qc (rFirst_ok 16 (by omega)) ?_;(repeat' (first |refine qv ?_ |refine qK ?_|fail));refine Fl.ixC rfl rfl rfl rfl rfl 0 rfl rfl rfl rfl (by decide) ?_;(repeat' (first |refine qv ?_ |refine qK ?_|fail));refine Fl.ixC rfl rfl rfl rfl rfl 1 rfl rfl rfl rfl (by decide) ?_;(repeat' (first |refine qv ?_|fail));refine qc (rSubK (V := 16) (a := x.1) (b := x.2) rfl hc.1.1 hc.1.2) ?_;skip;refine ql eP [mkP 16 (subL x.1 x.2)] ?_;skip;refine qc (rMakeK1 (V := 16) (kind := 0) rfl hc.2) ?_;skip;refine ql eL [dfK x] ?_;skip;refine qa (hby := (by dsimp only [List.length_nil, List.length_cons]; omega)) (hm := (by dsimp only [List.length_nil, List.length_cons]; omega)) (r := ?_);(repeat' (first |refine qv ?_ |apply qn |refine Fl.nil (fun _ => by kernel_rfl) ?_ |apply qr |refine qw ?_ |refine qe ?_|fail));refine LoopEnd.of (i + 1) (by omega) (by omega) ?_;refine Ent.of [(700, 137)] ?_ ?_ rfl rfl;(repeat' (first |exact True.intro |refine ⟨⟨AV.Le.refl _, rfl⟩, ?_⟩ |refine ⟨⟨⟨_, rfl, BLe.cells (LeL.refl _)⟩, rfl⟩, ?_⟩ |refine ⟨⟨⟨_, rfl, BLe.row ?_⟩, rfl⟩, ?_⟩|fail));rw [take_snoc hx, List.map_append]; rfl
  ·have ht : dfQ.take i = dfQ := List.take_of_length_le (by rw [dfQ_len]; omega);rw [ht, dfQ_links];refine AWP.ent (Ent.freeze 700 rfl) ?_;(repeat' (first |refine qv ?_ |apply qn |apply qs |apply qr |(refine AWP.condD rfl ?_ ?_ <;> intro _ <;> try (exfalso; omega)) |apply qx));refine ⟨?_⟩;(repeat' (first |refine qv ?_ |apply qn |apply qs |apply qr |refine qe ?_ |apply qt));exact RetOk.of rfl (AV.Le.refl _)
end Go.Proofs.YtcaecieigoplbaaGreat
/- The reference's links of masking. -/
namespace Go.Proofs.YtcaecieigoplbaaGreat
open Go.AL
end Go.Proofs.YtcaecieigoplbaaGreat
/- ref01: SameAll. -/
namespace Go.AL
end Go.AL
namespace Go.Proofs.YtcaecieigoplbaaGreat
open Go.AL
end Go.Proofs.YtcaecieigoplbaaGreat
/- ref01: Under, Small; mask.Witness where there is none. -/
namespace Go.AL
end Go.AL
namespace Go.Proofs.YtcaecieigoplbaaGreat
open Go.AL
end Go.Proofs.YtcaecieigoplbaaGreat
/- The reference's numbers of masking. -/
namespace Go.AL
end Go.AL
namespace Go.Proofs.YtcaecieigoplbaaGreat
open Go.AL
end Go.Proofs.YtcaecieigoplbaaGreat
/- Binomial coefficients: plain. -/
namespace Go.AL
def ch : Nat → Nat → Nat
  | _, 0 => 1
  | 0, _ + 1 => 0
  | n + 1, k + 1 => ch n k + ch n (k + 1)
end Go.AL
/- Digits of binomial coefficients under digits: plain. -/
namespace Go.AL
end Go.AL
/- MaskOnly, MaskFound. -/
namespace Go.AL
end Go.AL
namespace Go.Proofs.YtcaecieigoplbaaGreat
open Go.AL
end Go.Proofs.YtcaecieigoplbaaGreat
namespace Go.Proofs.YtcaecieigoplbaaGreat
open Go.AL
end Go.Proofs.YtcaecieigoplbaaGreat
namespace Go.AL
def TB (t : TZ) : Prop := ZB t.c
def PB (p : PZ) : Prop := (∀ t ∈ p.terms, TB t) ∧ p.terms.length ≤ maxLen
def LB (l : LZ) : Prop := (∀ p ∈ l.polys, PB p) ∧ l.polys.length ≤ maxLen
def SB (s : SZ) : Prop := ∀ l ∈ s.links, LB l
theorem SB.ws {s : SZ} (h : SB s) : WS s := fun l hl p hp t ht => (((h l hl).1 p hp).1 t ht).1
end Go.AL
namespace Go.Proofs.YtcaecieigoplbaaGreat
open Go.AL Go.ChangeShapes Go.WideShapes Go.ChangeAt Go.RowKit
section
variable {H : Type} {enc : TypeId × Value → H} {w : World} {base : Nat} {spare : Nat → Bool} {held : Bool}
end
end Go.Proofs.YtcaecieigoplbaaGreat
namespace Go.AL
theorem get_eq {α : Type} {a b : List α} (hl : a.length = b.length) (h : ∀ (i : Nat) (x y : α), i < a.length → a[i]? = some x → b[i]? = some y → x = y) : a = b := by
 refine List.ext_getElem? fun i => ?_;by_cases hi : i < a.length
 ·rw [List.getElem?_eq_getElem hi, List.getElem?_eq_getElem (by omega)];exact congrArg some (h i _ _ hi (List.getElem?_eq_getElem hi) (List.getElem?_eq_getElem (by omega)))
 ·rw [List.getElem?_eq_none (by omega), List.getElem?_eq_none (by omega)]
theorem t_eq {x y : TZ} (h1 : x.c = y.c) (h2 : x.e = y.e) : x = y := by cases x; cases y; simp_all
theorem p_eq {x y : PZ} (h1 : x.vars = y.vars) (h2 : x.terms = y.terms) : x = y := by cases x; cases y; simp_all
theorem l_eq {x y : LZ} (h1 : x.kind = y.kind) (h2 : x.vars = y.vars) (h3 : x.polys = y.polys) : x = y := by cases x; cases y; simp_all
theorem s_eq {x y : SZ} (h1 : x.vars = y.vars) (h2 : x.links = y.links) : x = y := by cases x; cases y; simp_all
def SmZ (z : Z) : Prop := WOk z.w ∧ z.w.length ≤ 1000000
def SmT (t : TZ) : Prop := SmZ t.c ∧ t.e.length ≤ 1000000
def SmP (p : PZ) : Prop := p.terms.length ≤ 1000000 ∧ ∀ t ∈ p.terms, SmT t
def SmL (l : LZ) : Prop := l.vars.length ≤ 1000000 ∧ l.polys.length ≤ 1000000 ∧ ∀ p ∈ l.polys, SmP p
def SmS (s : SZ) : Prop := s.links.length ≤ 1000000 ∧ ∀ l ∈ s.links, SmL l
end Go.AL
namespace Go.Proofs.YtcaecieigoplbaaGreat
open Go.AL
theorem rSameZ_ok (x y : Z) (hx : SmZ x) (hy : WOk y.w) (b : Bool) (hb : b = true ↔ x = y) : PureFn Tryz.prog 27 [aZ x, aZ y] (aB b) := by
 refine PureFn.of_body Tryz.func27 rfl Tryz.ntmps27 rfl rfl ?_;obtain ⟨n, w⟩ := x;obtain ⟨m, v⟩ := y;have hsw := sameWords_ok w v hx.2 hx.1 hy
 have hbb : b = (decide (n = m) && decide (w = v)) := by
  rw [Bool.eq_iff_iff, hb]; simp
 (repeat' (first |refine qv ?_ |apply qn |apply qs |apply qr |refine qe ?_ |refine Fl.skip rfl rfl ?_ |apply qt |(refine Fl.splitD rfl rfl ?_ ?_ <;> intro _ <;> try (exfalso; omega))))
 ·rename_i h;have h : n = m := h;refine qc (hsw) ?_;(repeat' (first |refine qv ?_ |apply qn |apply qt));exact RetOk.of rfl (AV.Le.bool (by rw [hbb, decide_eq_true h, Bool.true_and]))
 ·rename_i h;have h : ¬ n = m := h;exact RetOk.of rfl (AV.Le.bool (by rw [hbb, decide_eq_false h, Bool.false_and]))
theorem rSameE_ok (a b : List Int) (ha : a.length ≤ 1000000) : PureFn Tryz.prog 127 [aI a, aI b] (aB (decide (a = b))) := by
 refine PureFn.of_body Tryz.func127 rfl Tryz.ntmps127 rfl rfl ?_;by_cases hl : a.length = b.length
 ·(repeat' (first |refine qv ?_ |apply qn |apply qs |apply qr |(refine AWP.condN rfl ?_ ?_ <;> intro _ <;> try (exfalso; omega)) |apply qb |apply qk));refine AWP.loop (G := Nat) (fun i => i ≤ a.length ∧ ∀ (j : Nat) (x y : Int), j < i → a[j]? = some x → b[j]? = some y → x = y) (fun i => St.of [] [(0, aI a), (1, aI b), (5, aN i)] []) (fun i => a.length - i) 0 ⟨by omega, fun j x y h => by omega⟩ ?_ ?_
  ·refine Ent.of [] ?_ ?_ rfl rfl;(repeat' (first |exact True.intro |refine ⟨⟨AV.Le.refl _, rfl⟩, ?_⟩|fail))
  ·intro i ⟨k0, k1⟩;by_cases hi : i < a.length
   ·obtain ⟨x, hx⟩ : ∃ x, a[i]? = some x := ⟨_, List.getElem?_eq_getElem hi⟩;obtain ⟨y, hy⟩ : ∃ y, b[i]? = some y := ⟨_, List.getElem?_eq_getElem (by omega)⟩;(repeat' (first |refine qv ?_ |apply qn |refine Fl.nil (fun _ => by kernel_rfl) ?_ |apply qs |apply qr |refine qw ?_ |(refine AWP.condD rfl ?_ ?_ <;> intro _ <;> try (exfalso; omega)) |(refine AWP.condN rfl ?_ ?_ <;> intro _ <;> try (exfalso; omega)) |apply qb |apply qk |apply qt |refine qK ?_|fail))
    ·rename_i h;refine RetOk.of rfl (AV.Le.bool (Eq.symm (decide_eq_false fun e => h ?_)));subst e; rw [hx] at hy; injection hy
    ·rename_i h;refine LoopEnd.of (i + 1) ⟨by omega, fun j u v hj hu hv => ?_⟩ (by omega) ?_
     ·by_cases hji : j < i
      ·exact k1 j u v hji hu hv
      ·have : j = i := by omega
       subst this;rw [hx] at hu; rw [hy] at hv; cases hu; cases hv; exact h
     ·refine Ent.of [] ?_ ?_ rfl rfl;(repeat' (first |exact True.intro |refine ⟨⟨AV.Le.refl _, rfl⟩, ?_⟩|fail))
   ·(repeat' (first |refine qv ?_ |apply qn |apply qs |apply qr |(refine AWP.condD rfl ?_ ?_ <;> intro _ <;> try (exfalso; omega)) |apply qx |apply qt));exact RetOk.of rfl (AV.Le.bool (Eq.symm (decide_eq_true (get_eq hl fun j x y hj => k1 j x y (by omega)))))
 ·(repeat' (first |refine qv ?_ |apply qn |apply qs |apply qr |(refine AWP.condN rfl ?_ ?_ <;> intro _ <;> try (exfalso; omega)) |apply qt));exact RetOk.of rfl (AV.Le.bool (Eq.symm (decide_eq_false fun e => hl (by rw [e]))))
theorem rSameP_ok (p q : PZ) (hp : SmP p) (hq : WP q) (b : Bool) (hb : b = true ↔ p = q) : PureFn Tryz.prog 54 [aP p, aP q] (aB b) := by
 refine PureFn.of_body Tryz.func54 rfl Tryz.ntmps54 rfl rfl ?_
 have hfalse : ¬ p = q → false = b := fun h => by cases b with | false => rfl | true => exact absurd (hb.1 rfl) h
 have hpl := hp.1;by_cases hv : p.vars = q.vars
 ·by_cases hl : p.terms.length = q.terms.length
  ·(repeat' (first |refine qv ?_ |apply qn |apply qs |apply qr |refine qe ?_ |(refine AWP.condN rfl ?_ ?_ <;> intro _ <;> try (exfalso; omega)) |apply qb |apply qk |(refine Fl.splitN rfl rfl ?_ ?_ <;> intro _ <;> try (exfalso; omega))));refine AWP.loop (G := Nat) (fun i => i ≤ p.terms.length ∧ ∀ (j : Nat) (x y : TZ), j < i → p.terms[j]? = some x → q.terms[j]? = some y → x = y) (fun i => St.of [] [(2, .ptr 2 0), (3, .ptr 3 0), (5, aN i)] [(2, .cells [aN p.vars, .sl 3 eT p.terms] 70), (3, .cells [aN q.vars, .sl 3 eT q.terms] 70)]) (fun i => p.terms.length - i) 0 ⟨by omega, fun j x y h => by omega⟩ ?_ ?_
   ·refine Ent.of [] ?_ ?_ rfl rfl;(repeat' (first |exact True.intro |refine ⟨⟨AV.Le.refl _, rfl⟩, ?_⟩ |refine ⟨⟨⟨_, rfl, BLe.cells (LeL.refl _)⟩, rfl⟩, ?_⟩|fail))
   ·intro i ⟨k0, k1⟩;by_cases hi : i < p.terms.length
    ·obtain ⟨x, hx⟩ : ∃ x, p.terms[i]? = some x := ⟨_, List.getElem?_eq_getElem hi⟩;obtain ⟨y, hy⟩ : ∃ y, q.terms[i]? = some y := ⟨_, List.getElem?_eq_getElem (by omega)⟩;have hxm := hp.2 x (List.mem_of_getElem? hx);have hym := hq y (List.mem_of_getElem? hy);have hbad : ¬ x = y → false = b := fun h => hfalse fun e => h (by subst e; rw [hx] at hy; injection hy);obtain ⟨f, hf⟩ := boolOf (fun u : Z × Z => u.1 = u.2);have hz := rSameZ_ok x.c y.c hxm.1 hym (f (x.c, y.c)) (hf _);have he := rSameE_ok x.e y.e hxm.2;by_cases hc : x.c = y.c
     ·rw [(hf (x.c, y.c)).2 hc] at hz;by_cases hee : x.e = y.e
      ·rw [decide_eq_true hee] at he;(repeat' (first |refine qv ?_ |apply qn |apply qs |apply qr |(refine AWP.condD rfl ?_ ?_ <;> intro _ <;> try (exfalso; omega)) |apply qb |apply qk |refine qK ?_|fail));refine qc (hz) ?_;(repeat' (first |refine qv ?_ |refine qK ?_|fail));refine qc (he) ?_;(repeat' (first |refine qv ?_ |apply qn |refine Fl.nil (fun _ => by kernel_rfl) ?_ |apply qr |refine qw ?_ |refine AWP.condF rfl ?_ |apply qk));refine LoopEnd.of (i + 1) ⟨by omega, fun j u v hj hu hv => ?_⟩ (by omega) ?_
       ·by_cases hji : j < i
        ·exact k1 j u v hji hu hv
        ·have : j = i := by omega
         subst this;rw [hx] at hu; rw [hy] at hv; cases hu; cases hv; exact t_eq hc hee
       ·refine Ent.of [] ?_ ?_ rfl rfl;(repeat' (first |exact True.intro |refine ⟨⟨AV.Le.refl _, rfl⟩, ?_⟩ |refine ⟨⟨⟨_, rfl, BLe.cells (LeL.refl _)⟩, rfl⟩, ?_⟩|fail))
      ·rw [decide_eq_false hee] at he;(repeat' (first |refine qv ?_ |apply qn |apply qs |apply qr |(refine AWP.condD rfl ?_ ?_ <;> intro _ <;> try (exfalso; omega)) |apply qb |apply qk |refine qK ?_|fail));refine qc (hz) ?_;(repeat' (first |refine qv ?_ |refine qK ?_|fail));refine qc (he) ?_;(repeat' (first |refine qv ?_ |apply qn |refine Fl.nil (fun _ => by kernel_rfl) ?_ |apply qs |apply qr |refine AWP.condT rfl ?_ |apply qt));exact RetOk.of rfl (AV.Le.bool (hbad fun e => hee (by rw [e])))
     ·rw [show f (x.c, y.c) = false from Bool.eq_false_iff.2 fun h => hc ((hf _).1 h)] at hz;(repeat' (first |refine qv ?_ |apply qn |apply qs |apply qr |(refine AWP.condD rfl ?_ ?_ <;> intro _ <;> try (exfalso; omega)) |apply qb |apply qk |refine qK ?_|fail));refine qc (hz) ?_;(repeat' (first |refine qv ?_ |apply qn |refine Fl.nil (fun _ => by kernel_rfl) ?_ |apply qs |apply qr |refine Fl.skip rfl rfl ?_ |refine AWP.condT rfl ?_ |apply qt));exact RetOk.of rfl (AV.Le.bool (hbad fun e => hc (by rw [e])))
    ·(repeat' (first |refine qv ?_ |apply qn |apply qs |apply qr |(refine AWP.condD rfl ?_ ?_ <;> intro _ <;> try (exfalso; omega)) |apply qx |apply qt));exact RetOk.of rfl (AV.Le.bool (Eq.symm (hb.2 (p_eq hv (get_eq hl fun j x y hj => k1 j x y (by omega))))))
  ·(repeat' (first |refine qv ?_ |apply qn |apply qs |apply qr |refine qe ?_ |(refine AWP.condN rfl ?_ ?_ <;> intro _ <;> try (exfalso; omega)) |apply qt |(refine Fl.splitN rfl rfl ?_ ?_ <;> intro _ <;> try (exfalso; omega))));exact RetOk.of rfl (AV.Le.bool (hfalse fun e => hl (by rw [e])))
 ·(repeat' (first |refine qv ?_ |apply qn |apply qs |apply qr |refine qe ?_ |refine Fl.skip rfl rfl ?_ |refine AWP.condT rfl ?_ |apply qt |(refine Fl.splitN rfl rfl ?_ ?_ <;> intro _ <;> try (exfalso; omega))));exact RetOk.of rfl (AV.Le.bool (hfalse fun e => hv (by rw [e])))
theorem rSameL_ok (p q : LZ) (hp : SmL p) (hq : WL q) (b : Bool) (hb : b = true ↔ p = q) : PureFn Tryz.prog 62 [aL p, aL q] (aB b) := by
 refine PureFn.of_body Tryz.func62 rfl Tryz.ntmps62 rfl rfl ?_
 have hfalse : ¬ p = q → false = b := fun h => by cases b with | false => rfl | true => exact absurd (hb.1 rfl) h
 obtain ⟨g1, g2, g3⟩ := hp;have he := rSameE_ok p.vars q.vars g1;by_cases hk : p.kind = q.kind
 ·by_cases hv : p.vars = q.vars
  ·rw [decide_eq_true hv] at he;by_cases hl : p.polys.length = q.polys.length
   ·(repeat' (first |refine qv ?_ |apply qn |apply qs |apply qr |refine qe ?_ |(refine Fl.splitN rfl rfl ?_ ?_ <;> intro _ <;> try (exfalso; omega))));refine qc (he) ?_;(repeat' (first |refine qv ?_ |apply qn |apply qs |apply qr |(refine AWP.condN rfl ?_ ?_ <;> intro _ <;> try (exfalso; omega)) |apply qb |apply qk));refine AWP.loop (G := Nat) (fun i => i ≤ p.polys.length ∧ ∀ (j : Nat) (x y : PZ), j < i → p.polys[j]? = some x → q.polys[j]? = some y → x = y) (fun i => St.of [] [(2, .ptr 2 0), (3, .ptr 3 0), (5, aN i)] [(2, .cells (eL p) 82), (3, .cells (eL q) 82)]) (fun i => p.polys.length - i) 0 ⟨by omega, fun j x y h => by omega⟩ ?_ ?_
    ·refine Ent.of [] ?_ ?_ rfl rfl;(repeat' (first |exact True.intro |refine ⟨⟨AV.Le.refl _, rfl⟩, ?_⟩ |refine ⟨⟨⟨_, rfl, BLe.cells (LeL.refl _)⟩, rfl⟩, ?_⟩|fail))
    ·intro i ⟨k0, k1⟩;by_cases hi : i < p.polys.length
     ·obtain ⟨x, hx⟩ : ∃ x, p.polys[i]? = some x := ⟨_, List.getElem?_eq_getElem hi⟩;obtain ⟨y, hy⟩ : ∃ y, q.polys[i]? = some y := ⟨_, List.getElem?_eq_getElem (by omega)⟩;have hxm := g3 x (List.mem_of_getElem? hx);have hym := hq y (List.mem_of_getElem? hy);obtain ⟨f, hf⟩ := boolOf (fun u : PZ × PZ => u.1 = u.2);have hz := rSameP_ok x y hxm hym (f (x, y)) (hf _);by_cases hc : x = y
      ·rw [(hf (x, y)).2 hc] at hz;(repeat' (first |refine qv ?_ |apply qn |apply qs |apply qr |(refine AWP.condD rfl ?_ ?_ <;> intro _ <;> try (exfalso; omega)) |apply qb |apply qk |refine qK ?_|fail));refine qc (hz) ?_;(repeat' (first |refine qv ?_ |apply qn |refine Fl.nil (fun _ => by kernel_rfl) ?_ |apply qr |refine qw ?_ |refine AWP.condF rfl ?_ |apply qk));refine LoopEnd.of (i + 1) ⟨by omega, fun j u v hj hu hv => ?_⟩ (by omega) ?_
       ·by_cases hji : j < i
        ·exact k1 j u v hji hu hv
        ·have : j = i := by omega
         subst this;rw [hx] at hu; rw [hy] at hv; cases hu; cases hv; exact hc
       ·refine Ent.of [] ?_ ?_ rfl rfl;(repeat' (first |exact True.intro |refine ⟨⟨AV.Le.refl _, rfl⟩, ?_⟩ |refine ⟨⟨⟨_, rfl, BLe.cells (LeL.refl _)⟩, rfl⟩, ?_⟩|fail))
      ·rw [show f (x, y) = false from Bool.eq_false_iff.2 fun h => hc ((hf _).1 h)] at hz;(repeat' (first |refine qv ?_ |apply qn |apply qs |apply qr |(refine AWP.condD rfl ?_ ?_ <;> intro _ <;> try (exfalso; omega)) |apply qb |apply qk |refine qK ?_|fail));refine qc (hz) ?_;(repeat' (first |refine qv ?_ |apply qn |refine Fl.nil (fun _ => by kernel_rfl) ?_ |apply qs |apply qr |refine AWP.condT rfl ?_ |apply qt));exact RetOk.of rfl (AV.Le.bool (hfalse fun e => hc (by subst e; rw [hx] at hy; injection hy)))
     ·(repeat' (first |refine qv ?_ |apply qn |apply qs |apply qr |(refine AWP.condD rfl ?_ ?_ <;> intro _ <;> try (exfalso; omega)) |apply qx |apply qt));exact RetOk.of rfl (AV.Le.bool (Eq.symm (hb.2 (l_eq hk hv (get_eq hl fun j x y hj => k1 j x y (by omega))))))
   ·(repeat' (first |refine qv ?_ |apply qn |apply qs |apply qr |refine qe ?_ |(refine Fl.splitN rfl rfl ?_ ?_ <;> intro _ <;> try (exfalso; omega))));refine qc (he) ?_;(repeat' (first |refine qv ?_ |apply qn |apply qs |apply qr |(refine AWP.condN rfl ?_ ?_ <;> intro _ <;> try (exfalso; omega)) |apply qt));exact RetOk.of rfl (AV.Le.bool (hfalse fun e => hl (by rw [e])))
  ·rw [decide_eq_false hv] at he;(repeat' (first |refine qv ?_ |apply qn |apply qs |apply qr |refine qe ?_ |(refine Fl.splitN rfl rfl ?_ ?_ <;> intro _ <;> try (exfalso; omega))));refine qc (he) ?_;(repeat' (first |refine qv ?_ |apply qn |apply qs |apply qr |refine Fl.skip rfl rfl ?_ |refine AWP.condT rfl ?_ |apply qt));exact RetOk.of rfl (AV.Le.bool (hfalse fun e => hv (by rw [e])))
 ·(repeat' (first |refine qv ?_ |apply qn |apply qs |apply qr |refine qe ?_ |refine Fl.skip rfl rfl ?_ |refine AWP.condT rfl ?_ |apply qt |(refine Fl.splitN rfl rfl ?_ ?_ <;> intro _ <;> try (exfalso; omega))));exact RetOk.of rfl (AV.Le.bool (hfalse fun e => hk (by rw [e])))
theorem rSameS_ok (p q : SZ) (hp : SmS p) (hq : WS q) (b : Bool) (hb : b = true ↔ p = q) : PureFn Tryz.prog 15 [aS p, aS q] (aB b) := by
 refine PureFn.of_body Tryz.func15 rfl Tryz.ntmps15 rfl rfl ?_
 have hfalse : ¬ p = q → false = b := fun h => by cases b with | false => rfl | true => exact absurd (hb.1 rfl) h
 have hpl := hp.1;by_cases hv : p.vars = q.vars
 ·by_cases hl : p.links.length = q.links.length
  ·(repeat' (first |refine qv ?_ |apply qn |apply qs |apply qr |refine qe ?_ |(refine AWP.condN rfl ?_ ?_ <;> intro _ <;> try (exfalso; omega)) |apply qb |apply qk |(refine Fl.splitN rfl rfl ?_ ?_ <;> intro _ <;> try (exfalso; omega))));refine AWP.loop (G := Nat) (fun i => i ≤ p.links.length ∧ ∀ (j : Nat) (x y : LZ), j < i → p.links[j]? = some x → q.links[j]? = some y → x = y) (fun i => St.of [] [(2, .ptr 2 0), (3, .ptr 3 0), (5, aN i)] [(2, .cells [aN p.vars, .sl 3 eL p.links] 25), (3, .cells [aN q.vars, .sl 3 eL q.links] 25)]) (fun i => p.links.length - i) 0 ⟨by omega, fun j x y h => by omega⟩ ?_ ?_
   ·refine Ent.of [] ?_ ?_ rfl rfl;(repeat' (first |exact True.intro |refine ⟨⟨AV.Le.refl _, rfl⟩, ?_⟩ |refine ⟨⟨⟨_, rfl, BLe.cells (LeL.refl _)⟩, rfl⟩, ?_⟩|fail))
   ·intro i ⟨k0, k1⟩;by_cases hi : i < p.links.length
    ·obtain ⟨x, hx⟩ : ∃ x, p.links[i]? = some x := ⟨_, List.getElem?_eq_getElem hi⟩;obtain ⟨y, hy⟩ : ∃ y, q.links[i]? = some y := ⟨_, List.getElem?_eq_getElem (by omega)⟩;have hxm := hp.2 x (List.mem_of_getElem? hx);have hym := hq y (List.mem_of_getElem? hy);obtain ⟨f, hf⟩ := boolOf (fun u : LZ × LZ => u.1 = u.2);have hz := rSameL_ok x y hxm hym (f (x, y)) (hf _);by_cases hc : x = y
     ·rw [(hf (x, y)).2 hc] at hz;(repeat' (first |refine qv ?_ |apply qn |apply qs |apply qr |(refine AWP.condD rfl ?_ ?_ <;> intro _ <;> try (exfalso; omega)) |apply qb |apply qk |refine qK ?_|fail));refine qc (hz) ?_;(repeat' (first |refine qv ?_ |apply qn |refine Fl.nil (fun _ => by kernel_rfl) ?_ |apply qr |refine qw ?_ |refine AWP.condF rfl ?_ |apply qk));refine LoopEnd.of (i + 1) ⟨by omega, fun j u v hj hu hv => ?_⟩ (by omega) ?_
      ·by_cases hji : j < i
       ·exact k1 j u v hji hu hv
       ·have : j = i := by omega
        subst this;rw [hx] at hu; rw [hy] at hv; cases hu; cases hv; exact hc
      ·refine Ent.of [] ?_ ?_ rfl rfl;(repeat' (first |exact True.intro |refine ⟨⟨AV.Le.refl _, rfl⟩, ?_⟩ |refine ⟨⟨⟨_, rfl, BLe.cells (LeL.refl _)⟩, rfl⟩, ?_⟩|fail))
     ·rw [show f (x, y) = false from Bool.eq_false_iff.2 fun h => hc ((hf _).1 h)] at hz;(repeat' (first |refine qv ?_ |apply qn |apply qs |apply qr |(refine AWP.condD rfl ?_ ?_ <;> intro _ <;> try (exfalso; omega)) |apply qb |apply qk |refine qK ?_|fail));refine qc (hz) ?_;(repeat' (first |refine qv ?_ |apply qn |refine Fl.nil (fun _ => by kernel_rfl) ?_ |apply qs |apply qr |refine AWP.condT rfl ?_ |apply qt));exact RetOk.of rfl (AV.Le.bool (hfalse fun e => hc (by subst e; rw [hx] at hy; injection hy)))
    ·(repeat' (first |refine qv ?_ |apply qn |apply qs |apply qr |(refine AWP.condD rfl ?_ ?_ <;> intro _ <;> try (exfalso; omega)) |apply qx |apply qt));exact RetOk.of rfl (AV.Le.bool (Eq.symm (hb.2 (s_eq hv (get_eq hl fun j x y hj => k1 j x y (by omega))))))
  ·(repeat' (first |refine qv ?_ |apply qn |apply qs |apply qr |refine qe ?_ |(refine AWP.condN rfl ?_ ?_ <;> intro _ <;> try (exfalso; omega)) |apply qt |(refine Fl.splitN rfl rfl ?_ ?_ <;> intro _ <;> try (exfalso; omega))));exact RetOk.of rfl (AV.Le.bool (hfalse fun e => hl (by rw [e])))
 ·(repeat' (first |refine qv ?_ |apply qn |apply qs |apply qr |refine qe ?_ |refine Fl.skip rfl rfl ?_ |refine AWP.condT rfl ?_ |apply qt |(refine Fl.splitN rfl rfl ?_ ?_ <;> intro _ <;> try (exfalso; omega))));exact RetOk.of rfl (AV.Le.bool (hfalse fun e => hv (by rw [e])))
end Go.Proofs.YtcaecieigoplbaaGreat
/- MaskWitness. -/
namespace Go.AL
def smU (ls : List (List UT)) : Bool := ls.all (fun p => p.all fun u => decide (u.1.natAbs < 4294967296))
end Go.AL
namespace Go.Proofs.YtcaecieigoplbaaGreat
open Go.AL
theorem SmL_linkU {V : Nat} {kind : Int} {ls : List (List UT)} (hV : V ≤ 1000) (h1 : okLk V ls = true) (h2 : smU ls = true) (h3 : ls.length ≤ 1000) : SmL (linkU V kind ls) := by
 have hk := okLk_ok h1;simp only [smU, List.all_eq_true, decide_eq_true_eq] at h2
 have ho : (occL V ls).length ≤ V := by
  have := List.length_filter_le (fun i => ls.any fun p => p.any fun u => decide (0 < u.2.getD i 0)) (List.range V);rw [List.length_range] at this;exact this
 refine ⟨by simp only [linkU, List.length_map]; omega, by simp only [linkU, List.length_map]; omega, fun p hp => ?_⟩;obtain ⟨q, hq, rfl⟩ := List.mem_map.1 hp;refine ⟨by simp only [mkP, pickU, List.length_map]; have := (hk q hq).1; omega, fun t ht => ?_⟩;obtain ⟨u, hu, rfl⟩ := List.mem_map.1 ht;obtain ⟨w, hw, rfl⟩ := List.mem_map.1 hu;refine ⟨⟨toW_ok _, ?_⟩, by show (pickE (occL V ls) w.2).length ≤ _; simp only [pickE, List.length_map]; omega⟩;have := lenI_small (h2 q hq w hw);show lenI w.1 ≤ 1000000;omega
end Go.Proofs.YtcaecieigoplbaaGreat
/- define.One; the reference's One. -/
namespace Go.AL
def oneU : List UT → List (List UT) → List UT
  | s, [] => s
  | s, p :: l => oneU (addL s (mulL2 p p)) l
def okOne (V : Nat) : List UT → List (List UT) → Bool
  | _, [] => true
  | s, p :: l => chkU V p p && chkU V s s && degU p p && chkU V (mulUs p p) (mulL2 p p) && chkU V (mulL2 p p) (mulL2 p p) && chkU V (addUs 1 s (mulL2 p p)) (addL s (mulL2 p p)) && okOne V (addL s (mulL2 p p)) l
def okOneR (V : Nat) : List UT → List (List UT) → Bool
  | _, [] => true
  | s, p :: l => chkR V p && degR V p p && chkR V (mulL2 p p) && chkR V s && chkU V (mulL2 p p) (mulL2 p p) && chkU V (addL s (mulL2 p p)) (addL s (mulL2 p p)) && chkR V (addL s (mulL2 p p)) && okOneR V (addL s (mulL2 p p)) l
theorem prodMk {V : Nat} (p q l : List UT) (hV : V ≤ 32) (hd : degU p q = true) (h : chkU V (mulUs p q) l = true) : ProdOk V (mkP V p) (mkP V q) (mkP V l) := by
 have hs : SumOk V (timesU (mkP V p) (mkP V q)) (mkP V l) := by rw [timesU_mk]; exact chkU_ok hV h
 refine ⟨degU_ok hd, ?_, hs⟩;intro t ht u hu;obtain ⟨a, ha, rfl⟩ := List.mem_map.1 ht;obtain ⟨b, hb, rfl⟩ := List.mem_map.1 hu;show Fit (zval (zOf a.1) * zval (zOf b.1));rw [zval_zOf, zval_zOf];have hm : (a.1 * b.1, addE a.2 b.2) ∈ mulUs p q := List.mem_flatMap.2 ⟨a, ha, List.mem_map.2 ⟨b, hb, rfl⟩⟩;have h1 := absU_mem hm;simp only [chkU, Bool.and_eq_true, decide_eq_true_eq] at h;exact fit_small (by simp only at h1; omega) (by simp only at h1; omega)
theorem mulV_eq {V : Nat} {p q x : PZ} (h : ProdOk V p q x) : mulV V p q = some x := by
 cases hm : mulV V p q with
 | none => exact absurd ⟨x, h⟩ (mulV_none hm)
 | some y => rw [(mulV_some hm).2.2.uniq h.2.2]
theorem addV_eq {V : Nat} {p q x : PZ} (h : SumOk V (plusU 1 p q) x) : addV V p q = some x := by
 cases hm : addV V p q with
 | none => exact absurd ⟨x, h⟩ (addV_none hm)
 | some y => rw [(addV_some hm).uniq h]
theorem oneV_lst {V : Nat} (hV : V ≤ 32) : ∀ (ps : List (List UT)) (s : List UT), okOne V s ps = true → (∀ p ∈ ps, eqP V (linkU V 0 [p]) = mkP V p) → oneV V (mkP V s) (ps.map fun p => linkU V 0 [p]) = some (mkP V (oneU s ps))
 | [], s, _, _ => rfl
 | p :: ps, s, h, he => by
  simp only [okOne, Bool.and_eq_true] at h;obtain ⟨⟨⟨⟨⟨⟨h1, h2⟩, h3⟩, h4⟩, h5⟩, h6⟩, h7⟩ := h;have e1 := he p (by simp);have e2 := mulV_eq (prodMk p p (mulL2 p p) hV h3 h4);have e3 : addV V (mkP V s) (mkP V (mulL2 p p)) = some (mkP V (addL s (mulL2 p p))) := addV_eq (by rw [plusU_mk]; exact chkU_ok hV h6);have ih := oneV_lst hV ps (addL s (mulL2 p p)) h7 fun q hq => he q (by simp [hq]);simp only [List.map_cons, oneV, e1, e2, e3];exact ih
def dfPs : List (List UT) := [df1, df3, df8, df11, df16, df20, df23, df28, df31, df34, df36]
def dfO : List UT := oneU [] dfPs
theorem dfPs_links : dfS.links = dfPs.map fun p => linkU 16 0 [p] := rfl
theorem dfPs_eq : ∀ p ∈ dfPs, eqP 16 (linkU 16 0 [p]) = mkP 16 p := by
 simp only [dfPs, List.forall_mem_cons];exact ⟨by kernel_rfl, by kernel_rfl, by kernel_rfl, by kernel_rfl, by kernel_rfl, by kernel_rfl, by kernel_rfl, by kernel_rfl, by kernel_rfl, by kernel_rfl, by kernel_rfl, by simp⟩
theorem dfO_ok : okOne 16 [] dfPs = true := by kernel_rfl
theorem dfO_okR : okOneR 16 [] dfPs = true := by kernel_rfl
theorem dfO_one : oneV 16 ⟨((16 : Nat) : Int), []⟩ dfS.links = some (mkP 16 dfO) := oneV_lst (by omega) dfPs [] dfO_ok dfPs_eq
theorem dfO_chk : chkU 16 dfO dfO = true := by kernel_rfl
theorem dfO_mk : OkP (mkP 16 dfO) ∧ (mkP 16 dfO).vars = 16 ∧ WP (mkP 16 dfO) := mk_ok (by omega) dfO_chk
theorem mk_wlp {V : Nat} {p : List UT} (hl : p.length ≤ 3000) (h : chkR V p = true) : WLP (mkP V p) := by
 refine ⟨by simp [mkP]; omega, fun t ht => ?_⟩;obtain ⟨u, hu, rfl⟩ := List.mem_map.1 ht;obtain ⟨_, c2, _⟩ := chkR_ok h;have := (c2 u hu).2.2;show (zOf u.1).w.length ≤ _;have e : (zOf u.1).w.length = lenI u.1 := rfl;omega
theorem okOneR_get : ∀ {ps : List (List UT)} {s : List UT} (i : Nat) {p : List UT}, okOneR 16 s ps = true → ps[i]? = some p → (chkR 16 p = true ∧ degR 16 p p = true ∧ chkR 16 (mulL2 p p) = true ∧ chkU 16 (mulL2 p p) (mulL2 p p) = true) ∧ chkR 16 (oneU s (ps.take i)) = true ∧ chkU 16 (addL (oneU s (ps.take i)) (mulL2 p p)) (addL (oneU s (ps.take i)) (mulL2 p p)) = true ∧ chkR 16 (addL (oneU s (ps.take i)) (mulL2 p p)) = true ∧ oneU s (ps.take (i + 1)) = addL (oneU s (ps.take i)) (mulL2 p p)
 | [], s, i, p, _, h => by simp at h
 | q :: ps, s, 0, p, hk, h => by
  simp only [List.getElem?_cons_zero, Option.some.injEq] at h;subst h;simp only [okOneR, Bool.and_eq_true] at hk;obtain ⟨⟨⟨⟨⟨⟨⟨h1, h2⟩, h3⟩, h4⟩, h5⟩, h6⟩, h7⟩, h8⟩ := hk;exact ⟨⟨h1, h2, h3, h5⟩, h4, h6, h7, rfl⟩
 | q :: ps, s, i + 1, p, hk, h => by
  simp only [okOneR, Bool.and_eq_true] at hk;exact okOneR_get (ps := ps) (s := addL s (mulL2 q q)) i hk.2 (by simpa using h)
end Go.AL
namespace Go.Proofs.YtcaecieigoplbaaGreat
open Go.AL
theorem dfOne_ok : PureFn Tryz.prog 51 [] (aP (mkP 16 dfO)) := by
 refine PureFn.of_body Tryz.func51 rfl Tryz.ntmps51 rfl rfl ?_;have h1 := One_ok dfS dfS_w dfS_ok (fun l hl => (dfS_all l hl).2.2) (.tup [aP (mkP 16 dfO), aN 0]) 16 rfl (fun h => by omega) (fun _ x hx => by rw [dfO_one] at hx; injection hx with hx; rw [hx]) (fun _ hx => by rw [dfO_one] at hx; cases hx)
 generalize dfO = O at *
 refine AWP.seqS ?_;(repeat' (first |apply qn |apply qr |refine qe ?_|fail));refine ⟨AWP.seqS ?_⟩;(repeat' (first |apply qr));refine qc (dfEq_ok) ?_;skip;refine qc (h1) ?_;(repeat' (first |refine qv ?_ |apply qn |refine qe ?_|fail));refine ⟨?_⟩;(repeat' (first |refine qv ?_ |apply qn |apply qs |apply qr |refine qe ?_ |apply qt));exact RetOk.of rfl (AV.Le.refl _)
theorem spr_mk {l : LZ} {q : PZ} {p : List UT} (hp : l.polys = [q]) (he : eqP 16 l = mkP 16 p) : q.terms.map (spT 16 l.vars) = p.map tz := by
 have : sprP 16 l q = mkP 16 p := by rw [← he]; unfold eqP; rw [hp]; rfl
 exact congrArg PZ.terms this
set_option maxHeartbeats 2000000 in
theorem rOne_ok : PureFn Tryz.prog 52 [aS dfS] (.tup [aP (mkP 16 dfO), aB true]) := by
 refine PureFn.of_body Tryz.func52 rfl Tryz.ntmps52 rfl rfl ?_;have hlen : dfS.links.length = 11 := rfl;have hpl : dfPs.length = 11 := rfl;have hvars : dfS.vars = 16 := rfl;have hO : oneU [] (dfPs.take 11) = dfO := rfl;have hks := dfPs_links;have hall := dfS_all
 generalize dfS = S at *
 obtain ⟨V, links⟩ := S;simp only at hlen hvars hks hall;subst hvars;refine AWP.seqS ?_;(repeat' (first |refine qv ?_ |apply qn |apply qr |refine qe ?_|fail));refine ⟨AWP.seqS ?_⟩;(repeat' (first |refine qv ?_ |apply qn |apply qr |refine qe ?_|fail));refine ⟨AWP.seqS ?_⟩;(repeat' (first |refine qv ?_ |apply qn |apply qs |apply qr |apply qb));refine AWP.loop (G := Nat) (fun i => i ≤ 11) (fun i => St.of [] [(1, .ptr 1 0), (2, .ptr 2 0), (3, aB false), (4, .ptr 4 0), (5, aN i)] [(1, .cells [aN 16, .sl 3 eL links] 25), (2, .cells [aN 0, .v (.slice none 0 0)] 70), (4, .cells (eP (mkP 16 (oneU [] (dfPs.take i)))) 70)]) (fun i => 11 - i) 0 (by omega) ?_ ?_
 ·refine Ent.of [] ?_ ?_ rfl rfl;(repeat' (first |exact True.intro |refine ⟨⟨AV.Le.refl _, rfl⟩, ?_⟩ |refine ⟨⟨⟨_, rfl, BLe.cells (LeL.refl _)⟩, rfl⟩, ?_⟩ |refine ⟨⟨⟨_, rfl, BLe.cells ?_⟩, rfl⟩, ?_⟩|fail));exact LeL.cons (AV.Le.refl _) (LeL.cons (AV.Le.nil 3 eT) LeL.nil)
 ·intro i k0;by_cases hi : i < 11
  ·obtain ⟨p, hp⟩ : ∃ p, dfPs[i]? = some p := ⟨_, List.getElem?_eq_getElem (by rw [hpl]; omega)⟩;obtain ⟨l, hl⟩ : ∃ l, links[i]? = some l := ⟨_, List.getElem?_eq_getElem (by rw [hlen]; omega)⟩
   have hle : l = linkU 16 0 [p] := by
    rw [hks, List.getElem?_map, hp] at hl;injection hl with hl; exact hl.symm
   obtain ⟨hL, hWL, hkd⟩ := hall l (List.mem_of_getElem? hl);have hpl2 := hL.len;rw [hkd] at hpl2;have hpl2 : (l.polys.length : Int) = 1 := hpl2
   obtain ⟨q, hq⟩ : ∃ q, l.polys = [q] := by
    cases hq : l.polys with
    | nil => rw [hq] at hpl2; simp at hpl2
    | cons a b => cases b with
     | nil => exact ⟨a, rfl⟩
     | cons c d => rw [hq] at hpl2; simp at hpl2; omega
   have hsp := spr_mk hq (by rw [hle]; exact dfPs_eq p (List.mem_of_getElem? hp));obtain ⟨hv, hP⟩ := hL.polys q (by rw [hq]; simp);have hinc : incK 0 (0 + (16 : Nat)) l.vars := (incK_of hL.inc).imp_hi (by omega);have htl := hP.len;have hvl := hL.vlen
   have hq0 : l.polys[(0 : Int).toNat]? = some q := by rw [hq]; rfl
   obtain ⟨⟨o1, o2, o3, o4⟩, o5, o6, o7, o8⟩ := okOneR_get i dfO_okR hp;obtain ⟨s, hs⟩ : ∃ s, s = oneU [] (dfPs.take i) := ⟨_, rfl⟩;rw [← hs] at o5 o6 o7 o8 ⊢;obtain ⟨cp1, cp2, cp3⟩ := chkR_ok o1;have hsort := (rSortedU 16 (by omega) 12 1 p (by omega) (by omega) (by omega) cp2).1;rw [cp1.can] at hsort;have hmul := rMulK (V := 16) rfl o1 o1 o2;have hadd := rAddK (V := 16) rfl o5 o3;obtain ⟨m1, m2, m3⟩ := mk_ok (V := 16) (by omega) o4;obtain ⟨a1, a2, a3⟩ := mk_ok (V := 16) (by omega) o6;have hv1 := rpValid_ok _ m3 (mk_wlp (chkR_ok o3).2.2 o3) true ⟨fun _ => m1, fun _ => rfl⟩;have hv2 := rpValid_ok _ a3 (mk_wlp (chkR_ok o7).2.2 o7) true ⟨fun _ => a1, fun _ => rfl⟩;refine AWP.seqS ?_;(repeat' (first |refine qv ?_ |apply qn |apply qs |apply qr |(refine AWP.condD rfl ?_ ?_ <;> intro _ <;> try (exfalso; omega)) |apply qk));refine ⟨AWP.seq (AWP.block (AWP.seqS ?_))⟩;(repeat' (first |refine qv ?_ |apply qn |apply qr |refine qe ?_|fail));refine ⟨AWP.seqS ?_⟩;(repeat' (first |refine qv ?_ |apply qn |apply qr |refine qK ?_|fail));refine ⟨AWP.seqS ?_⟩;refine AWP.ent (Ent.nilcell 6 1 705 rfl rfl rfl 3 eT 124) ?_;(repeat' (first |refine qv ?_ |apply qn |apply qs |apply qr |apply qb));refine AWP.loop (G := Nat) (fun k => k ≤ q.terms.length) (fun k => St.of [] [(1, .ptr 1 0), (2, .ptr 2 0), (3, aB false), (4, .ptr 4 0), (5, aN i), (6, .ptr 6 0), (7, .sl 3 eT q.terms), (8, aN k)] [(1, .cells [aN 16, .sl 3 eL links] 25), (2, .cells [aN 0, .v (.slice none 0 0)] 70), (4, .cells (eP (mkP 16 s)) 70), (6, .cells [aN 16, .row 700] 70), (700, .row 3 eT ((q.terms.take k).map (spT 16 l.vars)) 124)]) (fun k => q.terms.length - k) 0 (by omega) ?_ ?_
   ·refine Ent.of [(700, 705)] ?_ ?_ rfl rfl;(repeat' (first |exact True.intro |refine ⟨⟨AV.Le.refl _, rfl⟩, ?_⟩ |refine ⟨⟨⟨_, rfl, BLe.cells (LeL.refl _)⟩, rfl⟩, ?_⟩ |refine ⟨⟨⟨_, rfl, BLe.row rfl⟩, rfl⟩, ?_⟩|fail))
   ·intro k k1;by_cases hk : k < q.terms.length
    ·obtain ⟨t, ht⟩ : ∃ t, q.terms[k]? = some t := ⟨_, List.getElem?_eq_getElem hk⟩;have hT := hP.terms t (List.mem_of_getElem? ht);have hel := hT.len
     have hli : ((q.terms.take k).map (spT 16 l.vars)).length = k := by simp; omega
     refine AWP.seqS ?_;(repeat' (first |refine qv ?_ |apply qn |apply qs |apply qr |(refine AWP.condD rfl ?_ ?_ <;> intro _ <;> try (exfalso; omega)) |apply qk));refine ⟨AWP.seq (AWP.block (AWP.seqS ?_))⟩;(repeat' (first |refine qv ?_ |apply qn |apply qr |refine Fl.make rfl rfl rfl rfl rfl rfl rfl rfl rfl rfl eI 0 (by exact LeL.refl _) (by rfl) (by first | omega | (dsimp only; omega)) (by first | omega | (dsimp only; omega)) (by first | omega | (dsimp only; omega)) ?_|fail));refine ⟨AWP.seqS ?_⟩;(repeat' (first |refine qv ?_ |apply qn |apply qs |apply qr |apply qb));refine AWP.loop (G := Nat) (fun j => j ≤ t.e.length) (fun j => St.of [] [(1, .ptr 1 0), (2, .ptr 2 0), (3, aB false), (4, .ptr 4 0), (5, aN i), (6, .ptr 6 0), (7, .sl 3 eT q.terms), (8, aN k), (9, .row 708), (10, aN j)] [(1, .cells [aN 16, .sl 3 eL links] 25), (2, .cells [aN 0, .v (.slice none 0 0)] 70), (4, .cells (eP (mkP 16 s)) 70), (6, .cells [aN 16, .row 700] 70), (700, .row 3 eT ((q.terms.take k).map (spT 16 l.vars)) 124), (708, .row 1 eI (spr 16 0 (l.vars.take j) (t.e.take j)) 3)]) (fun j => t.e.length - j) 0 (by omega) ?_ ?_
     ·refine Ent.of [(708, 42)] ?_ ?_ rfl rfl;(repeat' (first |exact True.intro |refine ⟨⟨AV.Le.refl _, rfl⟩, ?_⟩ |refine ⟨⟨⟨_, rfl, BLe.cells (LeL.refl _)⟩, rfl⟩, ?_⟩ |refine ⟨⟨⟨_, rfl, BLe.row rfl⟩, rfl⟩, ?_⟩|fail))
     ·intro j j1;have hrl : (spr 16 0 (l.vars.take j) (t.e.take j)).length = 16 := spr_length _ _ _ _;by_cases hj : j < t.e.length
      ·obtain ⟨x, hx⟩ : ∃ x, t.e[j]? = some x := ⟨_, List.getElem?_eq_getElem hj⟩;obtain ⟨v, hv1⟩ : ∃ v, l.vars[j]? = some v := ⟨_, List.getElem?_eq_getElem (by omega)⟩;have hvb := incB_mem hL.inc (List.mem_of_getElem? hv1);(repeat' (first |refine qv ?_ |apply qn |refine Fl.nil (fun _ => by kernel_rfl) ?_ |apply qs |apply qr |refine qw ?_ |(refine AWP.condD rfl ?_ ?_ <;> intro _ <;> try (exfalso; omega)) |apply qb |apply qk |refine qK ?_ |refine Fl.rel rfl rfl rfl rfl rfl rfl rfl rfl (by omega) (by first | omega | (simp; omega)) ?_ |refine Fl.rst rfl rfl rfl rfl rfl rfl rfl rfl rfl rfl rfl (LeL.refl _) rfl (by first | omega | (simp; omega)) ?_|fail));refine LoopEnd.of (j + 1) (by omega) (by omega) ?_;refine Ent.of [] ?_ ?_ rfl rfl;(repeat' (first |exact True.intro |refine ⟨⟨AV.Le.refl _, rfl⟩, ?_⟩ |refine ⟨⟨⟨_, rfl, BLe.cells (LeL.refl _)⟩, rfl⟩, ?_⟩ |refine ⟨⟨⟨_, rfl, BLe.row rfl⟩, rfl⟩, ?_⟩ |refine ⟨⟨⟨_, rfl, BLe.row ?_⟩, rfl⟩, ?_⟩|fail));rw [take_snoc hx, take_snoc hv1, spr_snoc 16 0 (l.vars.take j) (t.e.take j) v x (by simp; omega) (by rw [← take_snoc hv1]; exact incK_get hinc (j + 1))];congr 1;omega
      ·have h1 : l.vars.take j = l.vars := List.take_of_length_le (by omega);have h2 : t.e.take j = t.e := List.take_of_length_le (by omega);rw [h1, h2];refine AWP.ent (Ent.freeze 708 rfl) ?_;(repeat' (first |refine qv ?_ |apply qn |apply qs |apply qr |(refine AWP.condD rfl ?_ ?_ <;> intro _ <;> try (exfalso; omega)) |apply qx |refine qK ?_|fail));refine ⟨?_⟩;(repeat' (first |refine qv ?_ |apply qr |refine qe ?_ |refine qK ?_|fail));refine ql eT [spT 16 l.vars t] ?_;skip;refine qa (hby := (by dsimp only [List.length_nil, List.length_cons]; omega)) (hm := (by simp; omega)) (r := ?_);(repeat' (first |refine qv ?_ |apply qn |refine Fl.nil (fun _ => by kernel_rfl) ?_ |apply qr |refine qw ?_ |refine qe ?_|fail));refine LoopEnd.of (k + 1) (by omega) (by omega) ?_;refine Ent.of [(700, 82)] ?_ ?_ rfl rfl;(repeat' (first |exact True.intro |refine ⟨⟨AV.Le.refl _, rfl⟩, ?_⟩ |refine ⟨⟨⟨_, rfl, BLe.cells (LeL.refl _)⟩, rfl⟩, ?_⟩ |refine ⟨⟨⟨_, rfl, BLe.row ?_⟩, rfl⟩, ?_⟩|fail));rw [take_snoc ht, List.map_append]; rfl
    ·have hti : q.terms.take k = q.terms := List.take_of_length_le (by omega);rw [hti, hsp];refine AWP.ent (Ent.freeze 700 rfl) ?_;(repeat' (first |refine qv ?_ |apply qn |apply qs |apply qr |(refine AWP.condD rfl ?_ ?_ <;> intro _ <;> try (exfalso; omega)) |apply qx));refine ⟨AWP.seqS ?_⟩;(repeat' (first |refine qv ?_ |apply qr));refine qc (hsort) ?_;(repeat' (first |refine qv ?_ |apply qn |refine qe ?_|fail));refine ⟨AWP.seqS ?_⟩;(repeat' (first |refine qv ?_ |apply qr));refine qc (hmul) ?_;(repeat' (first |apply qn |refine qe ?_|fail));refine ⟨AWP.seqS ?_⟩;(repeat' (first |refine qv ?_ |apply qr));refine qc (hadd) ?_;(repeat' (first |apply qn |refine qe ?_|fail));refine ⟨?_⟩;(repeat' (first |refine qv ?_ |apply qs |apply qr));refine qc (hv1) ?_;(repeat' (first |refine qv ?_|fail));refine qc (hv2) ?_;(repeat' (first |refine qv ?_ |apply qn |apply qr |refine qw ?_ |refine AWP.condF rfl ?_ |apply qk));refine LoopEnd.of (i + 1) (by omega) (by omega) ?_;refine Ent.of [] ?_ ?_ rfl rfl;(repeat' (first |exact True.intro |refine ⟨⟨AV.Le.refl _, rfl⟩, ?_⟩ |refine ⟨⟨⟨_, rfl, BLe.cells (LeL.refl _)⟩, rfl⟩, ?_⟩ |refine ⟨⟨⟨_, rfl, BLe.cells ?_⟩, rfl⟩, ?_⟩|fail));rw [o8];exact LeL.refl _
  ·have : i = 11 := by omega
   subst this;rw [hO]
   generalize dfO = O at *
   (repeat' (first |refine qv ?_ |apply qn |apply qs |apply qr |(refine AWP.condD rfl ?_ ?_ <;> intro _ <;> try (exfalso; omega)) |apply qx));refine ⟨?_⟩;(repeat' (first |refine qv ?_ |apply qn |apply qs |apply qr |refine qe ?_ |apply qt));exact RetOk.of rfl (AV.Le.refl _)
end Go.Proofs.YtcaecieigoplbaaGreat
/- define.Witness. -/
namespace Go.Proofs.YtcaecieigoplbaaGreat
open Go.AL
abbrev fiB (a e : Int) : Bx := finB (decide (a < 0)) (toW a.natAbs) e
theorem d_rank {a b c x d u E1 E2 E3 E4 : Int} (ha : Fit a) (h2 : 2 ≤ a) (h0 : 1 ≤ b) (fu : Fit u) (hc : c = clip (psiN a b.toNat)) (hx : x = clip (chiN a b.toNat)) (hE1 : E1 = cE 0 (psiN a b.toNat)) (hE2 : E2 = cE E1 (chiN a b.toNat)) (hd : mulL E2 1 [x, x] = (d, E3)) (hu : mulL E3 1 [2, c, c, d] = (u, E4)) :
  (∃ E, E ≠ 0 ∧ (∀ n, ¬ DOK a b n) ∧ IoFn Tryz.prog 115 [.ptr 900 0, aX u] [(900, fiB a E4)] (.ret (aN 0)) [(900, fiB a E)]) ∨ (∃ n : Nat, E4 = 0 ∧ bitl u.natAbs ≤ 4000 ∧ RankIs a u 20000 n ∧ IoFn Tryz.prog 115 [.ptr 900 0, aX u] [(900, fiB a E4)] (.ret (aN n)) [(900, fiB a 0)]) := by
 rcases Classical.em (E4 = 0) with hE | hE
 ·obtain ⟨k1, k2, k3, k4, k5⟩ := d_first hc hx hE1 hE2 hd hu hE;subst hE;rcases Classical.em (1 ≤ u ∧ bitl u.natAbs ≤ 4000) with hb | hb
  ·rcases Classical.em (NoRank a u 20000) with hn | hn
   ·refine .inl ⟨4, by omega, fun n hk => ?_, frank_none a u ha h2 fu hb.1 hb.2 hn⟩;obtain ⟨_, q, _⟩ := hk;rw [← k5] at q;exact hn n q.1 q.2.1 q.2.2.1
   ·obtain ⟨n, hn⟩ := rank_ex hn;exact .inr ⟨n, rfl, hb.2, hn, frank_ok a u n ha h2 fu hb.1 hb.2 hn⟩
  ·refine .inl ⟨4, by omega, fun n hk => hb ?_, frank_big a u ha h2 fu hb⟩;obtain ⟨q1, q2, _⟩ := hk;have := (dn_pos1 (a := a) (b := b) (n := n) h2 h0 q2.1).2.2.2.2.2.2;rw [dn_u] at this;rw [k5];exact ⟨this, q1⟩
 ·exact .inl ⟨E4, hE, fun n hk => hE (d_first' h2 h0 hc hx hE1 hE2 hd hu hk), frank_err _ _ u E4 hE⟩
set_option maxHeartbeats 8000000 in
set_option maxRecDepth 20000 in
theorem dWit_ok (a b : Int) (ha : Fit a) (h2 : 2 ≤ a) (h0 : 1 ≤ b) (h1 : b ≤ 9223372036854775807) (r : AV) (hr1 : ∀ n, DOK a b n → r = .tup [.sl 2 eX ((dn a b n).L a b), aN 0]) (hr2 : (∀ n, ¬ DOK a b n) → r = .tup [.v (.slice none 0 0), aN 4]) : PureFn Tryz.prog 46 [aX a, aN b] r := by
 refine PureFn.of_body Tryz.func46 rfl Tryz.ntmps46 rfl rfl ?_;have e1 := fchAdd_ok (decide (a < 0)) (toW a.natAbs) 0 a 0 ha Fit.zero;rw [Int.add_zero, cV_ok ha, cE_ok ha] at e1;have e2 := fpsi_ok (decide (a < 0)) (toW a.natAbs) 0 a b ha h2 h0 (by omega);have e3 := fchi_ok (decide (a < 0)) (toW a.natAbs) (cE 0 (psiN a b.toNat)) a b ha h2 h0 (by omega);obtain ⟨c, hc⟩ : ∃ c, c = clip (psiN a b.toNat) := ⟨_, rfl⟩;obtain ⟨x, hx⟩ : ∃ x, x = clip (chiN a b.toNat) := ⟨_, rfl⟩;have fc : Fit c := hc ▸ clip_fits _;have fx : Fit x := hx ▸ clip_fits _;obtain ⟨E1, hE1⟩ : ∃ E, E = cE 0 (psiN a b.toNat) := ⟨_, rfl⟩;obtain ⟨E2, hE2⟩ : ∃ E, E = cE E1 (chiN a b.toNat) := ⟨_, rfl⟩;rw [← hc, ← hE1] at e2;rw [← hE1, ← hx, ← hE2] at e3;have e4 := fchSquare_ok (decide (a < 0)) (toW a.natAbs) E2 x fx;obtain ⟨d, E3, hd⟩ : ∃ d E, mulL E2 1 [x, x] = (d, E) := ⟨(mulL E2 1 [x, x]).1, (mulL E2 1 [x, x]).2, rfl⟩;rw [hd] at e4;have fd : Fit d := mulE_fit hd;have e5 := fchMul_ok (decide (a < 0)) (toW a.natAbs) E3 [2, c, c, d] (by simp [fit_two, fc, fd]) (by simp);obtain ⟨u, E4, hu⟩ : ∃ u E, mulL E3 1 [2, c, c, d] = (u, E) := ⟨(mulL E3 1 [2, c, c, d]).1, (mulL E3 1 [2, c, c, d]).2, rfl⟩;rw [hu] at e5;have fu : Fit u := mulE_fit hu;dsimp only at e4 e5;refine AWP.seqS ?_;(repeat' (first |refine qv ?_ |apply qn |apply qr |refine qe ?_|fail));refine ⟨AWP.seqS ?_⟩;(repeat' (first |refine qv ?_ |apply qs |apply qr |apply qb));refine qc (Valid_int a ha) ?_;(repeat' (first |refine qv ?_ |apply qn |apply qs |apply qr |refine AWP.condF rfl ?_));refine qc (Of_ok 2 (by omega) (by omega)) ?_;skip;refine qc (Less_ok a 2 ha fit_two) ?_;(repeat' (first |refine qv ?_ |refine Fl.nil (fun _ => by kernel_rfl) ?_ |(refine AWP.condD rfl ?_ ?_ <;> intro _ <;> try (exfalso; omega)) |apply qk |(refine Fl.splitD rfl rfl ?_ ?_ <;> intro _ <;> try (exfalso; omega))));refine ⟨AWP.seqS ?_⟩;(repeat' (first |refine qv ?_ |apply qn |apply qr |refine qe ?_|fail));refine ⟨AWP.seqS ?_⟩;(repeat' (first |apply qr));refine Fl.make rfl rfl rfl rfl rfl rfl rfl rfl rfl rfl eX 0 (by exact leX_zero (σ := []) rfl) (by rfl) (by omega) (by dsimp only; omega) (by omega) ?_;(repeat' (first |refine qv ?_ |apply qn));refine ⟨AWP.seqS ?_⟩;(repeat' (first |refine qv ?_ |apply qr));refine qc (Of_ok 0 (by omega) (by omega)) ?_;skip;refine qi [(900, 27)] (e1) ?_;(repeat' (first |refine qv ?_|fail));refine qc (Of_ok b (by omega) (by omega)) ?_;(repeat' (first |refine Fl.relK rfl rfl rfl rfl rfl rfl rfl rfl rfl ?_ |refine Fl.rstK rfl rfl rfl rfl rfl rfl rfl rfl rfl rfl rfl (LeL.refl _) rfl rfl ?_ |refine Fl.nil (fun _ => by kernel_rfl) ?_|fail));refine ⟨AWP.seqS ?_⟩;(repeat' (first |refine qv ?_ |apply qr));refine qi [(900, 27)] (e2) ?_;(repeat' (first |refine Fl.relK rfl rfl rfl rfl rfl rfl rfl rfl rfl ?_ |refine Fl.rstK rfl rfl rfl rfl rfl rfl rfl rfl rfl rfl rfl (LeL.refl _) rfl rfl ?_ |apply qn));refine ⟨AWP.seqS ?_⟩;(repeat' (first |refine qv ?_ |apply qr));refine qi [(900, 27)] (e3) ?_;(repeat' (first |apply qn |refine qe ?_|fail));refine ⟨AWP.seqS ?_⟩;(repeat' (first |refine qv ?_ |apply qr));refine qi [(900, 27)] (e4) ?_;(repeat' (first |refine Fl.relK rfl rfl rfl rfl rfl rfl rfl rfl rfl ?_ |refine Fl.rstK rfl rfl rfl rfl rfl rfl rfl rfl rfl rfl rfl (LeL.refl _) rfl rfl ?_ |refine Fl.nil (fun _ => by kernel_rfl) ?_|fail));refine ⟨AWP.seqS ?_⟩;(repeat' (first |refine qv ?_ |apply qr));refine qc (Of_ok 2 (by omega) (by omega)) ?_;(repeat' (first |refine Fl.rldK rfl rfl rfl rfl rfl rfl rfl (fun _ => rfl) (fun _ => rfl) rfl ?_ |refine Fl.relK rfl rfl rfl rfl rfl rfl rfl rfl rfl ?_ |refine qv ?_|fail));refine ql eX [2, c, c, d] ?_;skip;refine qi [(900, 27)] (e5) ?_;(repeat' (first |refine Fl.nil (fun _ => by kernel_rfl) ?_ |refine qe ?_|fail));refine ⟨AWP.seqS ?_⟩;(repeat' (first |refine qv ?_ |apply qr));rcases d_rank ha h2 h0 fu hc hx hE1 hE2 hd hu with ⟨E, hE, hno, e6⟩ | ⟨n, hE, hbu, hn, e6⟩
 ·refine qi [(900, 27)] (e6) ?_;(repeat' (first |refine qv ?_ |apply qn));refine ⟨AWP.seqS ?_⟩;(repeat' (first |refine qv ?_ |apply qn |apply qs |apply qr |(refine AWP.condN rfl ?_ ?_ <;> intro _ <;> try (exfalso; omega)) |apply qt));rw [hr2 hno];exact RetOk.of rfl (AV.Le.refl _)
 obtain ⟨k1, k2, k3, k4, k5⟩ := d_first hc hx hE1 hE2 hd hu hE;subst hE;clear hc hx hE1 hE2 hd e1 e2 e3 e4 e5;have hn1 : 1 ≤ n := hn.1;have hn2 : n ≤ 20000 := hn.2.1;have e7 := fpsi_ok (decide (a < 0)) (toW a.natAbs) 0 a n ha h2 (by omega) (by omega);rw [Int.toNat_natCast] at e7;obtain ⟨e, he⟩ : ∃ e, e = clip (psiN a n) := ⟨_, rfl⟩;obtain ⟨E5, hE5⟩ : ∃ E, E = cE 0 (psiN a n) := ⟨_, rfl⟩;rw [← he, ← hE5] at e7;have e8 := fchi_ok (decide (a < 0)) (toW a.natAbs) E5 a n ha h2 (by omega) (by omega);rw [Int.toNat_natCast] at e8;obtain ⟨s, hs⟩ : ∃ s, s = clip (chiN a n) := ⟨_, rfl⟩;obtain ⟨E6, hE6⟩ : ∃ E, E = cE E5 (chiN a n) := ⟨_, rfl⟩;rw [← hs, ← hE6] at e8;have fe : Fit e := he ▸ clip_fits _;have fs : Fit s := hs ▸ clip_fits _;have e9 := fchSquare_ok (decide (a < 0)) (toW a.natAbs) E6 s fs;obtain ⟨f, E7, hf⟩ : ∃ y E, mulL E6 1 [s, s] = (y, E) := ⟨(mulL E6 1 [s, s]).1, (mulL E6 1 [s, s]).2, rfl⟩;rw [hf] at e9;have ff : Fit f := mulE_fit hf;have e10 := fchSub_ok (decide (a < 0)) (toW a.natAbs) E7 f a ff ha;obtain ⟨g1, hg1⟩ : ∃ g, g = cV E7 (f - a) := ⟨_, rfl⟩;obtain ⟨E8, hE8⟩ : ∃ E, E = cE E7 (f - a) := ⟨_, rfl⟩;rw [← hg1, ← hE8] at e10;have fg1 : Fit g1 := hg1 ▸ cV_fit _ _;have e11 := fchMul_ok (decide (a < 0)) (toW a.natAbs) E8 [f, g1] (by simp [ff, fg1]) (by simp);obtain ⟨g2, E9, hg2⟩ : ∃ y E, mulL E8 1 [f, g1] = (y, E) := ⟨(mulL E8 1 [f, g1]).1, (mulL E8 1 [f, g1]).2, rfl⟩;rw [hg2] at e11;have fg2 : Fit g2 := mulE_fit hg2;have e12 := fchAdd_ok (decide (a < 0)) (toW a.natAbs) E9 a g2 ha fg2;obtain ⟨G, hG⟩ : ∃ g, g = cV E9 (a + g2) := ⟨_, rfl⟩;obtain ⟨E10, hE10⟩ : ∃ E, E = cE E9 (a + g2) := ⟨_, rfl⟩;rw [← hG, ← hE10] at e12;have fG : Fit G := hG ▸ cV_fit _ _;dsimp only at e9 e11;refine qi [(900, 27)] (e6) ?_;(repeat' (first |refine qv ?_ |apply qn));refine ⟨AWP.seqS ?_⟩;(repeat' (first |refine qv ?_ |apply qn |apply qs |apply qr |refine AWP.condF rfl ?_ |apply qk));refine ⟨AWP.seqS ?_⟩;(repeat' (first |refine qv ?_ |apply qr));refine qi [(900, 27)] (e7) ?_;(repeat' (first |refine Fl.relK rfl rfl rfl rfl rfl rfl rfl rfl rfl ?_ |refine Fl.rstK rfl rfl rfl rfl rfl rfl rfl rfl rfl rfl rfl (LeL.refl _) rfl rfl ?_ |apply qn));refine ⟨AWP.seqS ?_⟩;(repeat' (first |refine qv ?_ |apply qr));refine qi [(900, 27)] (e8) ?_;(repeat' (first |apply qn |refine qe ?_|fail));refine ⟨AWP.seqS ?_⟩;(repeat' (first |refine qv ?_ |apply qr));refine qi [(900, 27)] (e9) ?_;(repeat' (first |refine Fl.relK rfl rfl rfl rfl rfl rfl rfl rfl rfl ?_ |refine Fl.rstK rfl rfl rfl rfl rfl rfl rfl rfl rfl rfl rfl (LeL.refl _) rfl rfl ?_ |refine Fl.nil (fun _ => by kernel_rfl) ?_|fail));refine ⟨AWP.seqS ?_⟩;(repeat' (first |refine Fl.rldK rfl rfl rfl rfl rfl rfl rfl (fun _ => rfl) (fun _ => rfl) rfl ?_ |refine Fl.relK rfl rfl rfl rfl rfl rfl rfl rfl rfl ?_ |refine qv ?_ |apply qr));refine qi [(900, 27)] (e10) ?_;skip;refine ql eX [f, g1] ?_;skip;refine qi [(900, 27)] (e11) ?_;skip;refine qi [(900, 27)] (e12) ?_;(repeat' (first |refine Fl.relK rfl rfl rfl rfl rfl rfl rfl rfl rfl ?_ |refine Fl.rstK rfl rfl rfl rfl rfl rfl rfl rfl rfl rfl rfl (LeL.refl _) rfl rfl ?_ |refine Fl.nil (fun _ => by kernel_rfl) ?_|fail));refine ⟨AWP.seqS ?_⟩;rcases Classical.em (E10 = 0) with hT | hT;rotate_left
 ·have hno : ∀ m, ¬ DOK a b m := fun m hk => by
   have hm : m = n := by
    have hk2 := hk.2.1;rw [← k5] at hk2;exact hk2.fun hn
   subst hm;exact hT (d_second' h2 h0 he hE5 hs hE6 hf hg1 hE8 hg2 hG hE10 hk)
  (repeat' (first |refine qv ?_ |apply qn |apply qs |apply qr |(refine AWP.condN rfl ?_ ?_ <;> intro _ <;> try (exfalso; omega)) |apply qt));rw [hr2 hno];exact RetOk.of rfl (AV.Le.refl _)
 obtain ⟨l1, l2, l3, l4⟩ := d_second he hE5 hs hE6 hf hg1 hE8 hg2 hG hE10 hT;subst hT;have hDc : (dn a b n).c = c := k1.symm;have hDx : (dn a b n).x = x := k2.symm
 have hDd : (dn a b n).d = d := by rw [k3, k2]; rfl
 have hDu : (dn a b n).u = u := by rw [k5]; rfl
 have hDe : (dn a b n).e = e := l1.symm;have hDs : (dn a b n).s = s := l2.symm
 have hDf : (dn a b n).f = f := by rw [l3, l2]; rfl
 have hDG : (dn a b n).G = G := by rw [l4, ← hDf]; rfl
 have hDh : (dn a b n).h = psiN G b.toNat := by rw [← hDG]; rfl
 have hDp : (dn a b n).p = chiN G b.toNat := by rw [← hDG]; rfl
 have hps := dn_pos1 (a := a) (b := b) (n := n) h2 h0 hn1
 have hu1 : 1 ≤ u := by have := hps.2.2.2.2.2.2; omega
 have hf1 : 1 ≤ f := by have := hps.2.2.2.2.1; omega
 have hG2 : 2 ≤ G := by have := hps.2.2.2.2.2.1; omega
 have hc1 : 1 ≤ c := by have := hps.1; omega
 have fb : Fit b := fit_small (by omega) (by omega);have hiff := d_third_iff (a := a) (b := b) (n := n) ha fb h2 h0 (by rw [← k5]; exact hbu) (by rw [← k5]; exact hn) (by rw [hDc]; exact fc) (by rw [hDd]; exact fd) (by rw [hDe]; exact fe) (by rw [hDf]; exact ff) (by rw [hDG]; exact fG);clear he hE5 hs hE6 hf hg1 hE8 hg2 hG hE10 e7 e8 e9 e10 e11 e12 e6 k1 k2 k3 k4 l1 l2 l3 l4;have e13 := fpsi_ok (decide (a < 0)) (toW a.natAbs) 0 G b fG hG2 h0 h1;rw [← hDh] at e13;obtain ⟨h, hh⟩ : ∃ h, h = clip (dn a b n).h := ⟨_, rfl⟩;obtain ⟨E11, hE11⟩ : ∃ E, E = cE 0 (dn a b n).h := ⟨_, rfl⟩;rw [← hh, ← hE11] at e13;have fh : Fit h := hh ▸ clip_fits _;have e14 := fchi_ok (decide (a < 0)) (toW a.natAbs) E11 G b fG hG2 h0 h1;rw [← hDp] at e14;obtain ⟨p, hp⟩ : ∃ h, h = clip (dn a b n).p := ⟨_, rfl⟩;obtain ⟨E12, hE12⟩ : ∃ E, E = cE E11 (dn a b n).p := ⟨_, rfl⟩;rw [← hp, ← hE12] at e14;have fp : Fit p := hp ▸ clip_fits _;have e15 := fchSquare_ok (decide (a < 0)) (toW a.natAbs) E12 p fp;obtain ⟨I, E13, hI⟩ : ∃ y E, mulL E12 1 [p, p] = (y, E) := ⟨(mulL E12 1 [p, p]).1, (mulL E12 1 [p, p]).2, rfl⟩;rw [hI] at e15;have fI : Fit I := mulE_fit hI;have e16 := fchQuo_ok (decide (a < 0)) (toW a.natAbs) E13 e u fe fu (fun _ => by omega);obtain ⟨q1, hq1⟩ : ∃ g, g = cV E13 (e / u) := ⟨_, rfl⟩;obtain ⟨E14, hE14⟩ : ∃ E, E = cE E13 (e / u) := ⟨_, rfl⟩;rw [← hq1, ← hE14] at e16;have fq1 : Fit q1 := hq1 ▸ cV_fit _ _;have e17 := fchSub_ok (decide (a < 0)) (toW a.natAbs) E14 q1 1 fq1 fit_one;obtain ⟨i, hi⟩ : ∃ g, g = cV E14 (q1 - 1) := ⟨_, rfl⟩;obtain ⟨E15, hE15⟩ : ∃ E, E = cE E14 (q1 - 1) := ⟨_, rfl⟩;rw [← hi, ← hE15] at e17;have e18 := fchSub_ok (decide (a < 0)) (toW a.natAbs) E15 h b fh fb;obtain ⟨x1, hx1⟩ : ∃ g, g = cV E15 (h - b) := ⟨_, rfl⟩;obtain ⟨E16, hE16⟩ : ∃ E, E = cE E15 (h - b) := ⟨_, rfl⟩;rw [← hx1, ← hE16] at e18;have fx1 : Fit x1 := hx1 ▸ cV_fit _ _;have e19 := fchMul_ok (decide (a < 0)) (toW a.natAbs) E16 [2, c] (by simp [fit_two, fc]) (by simp);obtain ⟨c2, E17, hc2⟩ : ∃ y E, mulL E16 1 [2, c] = (y, E) := ⟨(mulL E16 1 [2, c]).1, (mulL E16 1 [2, c]).2, rfl⟩;rw [hc2] at e19;have fc2 : Fit c2 := mulE_fit hc2
 have e20 := fchQuo_ok (decide (a < 0)) (toW a.natAbs) E17 x1 c2 fx1 fc2 (fun hz => by
  have := (mulE hc2).2 hz;simp only [prI, Int.one_mul] at this
  omega)
 obtain ⟨j, hj⟩ : ∃ g, g = cV E17 (x1 / c2) := ⟨_, rfl⟩;obtain ⟨E18, hE18⟩ : ∃ E, E = cE E17 (x1 / c2) := ⟨_, rfl⟩;rw [← hj, ← hE18] at e20;have e21 := fchSub_ok (decide (a < 0)) (toW a.natAbs) E18 h c fh fc;obtain ⟨t1, ht1⟩ : ∃ g, g = cV E18 (h - c) := ⟨_, rfl⟩;obtain ⟨E19, hE19⟩ : ∃ E, E = cE E18 (h - c) := ⟨_, rfl⟩;rw [← ht1, ← hE19] at e21;have ft1 : Fit t1 := ht1 ▸ cV_fit _ _;have e22 := fchQuo_ok (decide (a < 0)) (toW a.natAbs) E19 t1 f ft1 ff (fun _ => by omega);obtain ⟨t, ht⟩ : ∃ g, g = cV E19 (t1 / f) := ⟨_, rfl⟩;obtain ⟨E20, hE20⟩ : ∃ E, E = cE E19 (t1 / f) := ⟨_, rfl⟩;rw [← ht, ← hE20] at e22;have e23 := fchSub_ok (decide (a < 0)) (toW a.natAbs) E20 c b fc fb;obtain ⟨v, hv⟩ : ∃ g, g = cV E20 (c - b) := ⟨_, rfl⟩;obtain ⟨E21, hE21⟩ : ∃ E, E = cE E20 (c - b) := ⟨_, rfl⟩;rw [← hv, ← hE21] at e23;have e24 := fchMul_ok (decide (a < 0)) (toW a.natAbs) E21 [x, s, p] (by simp [fx, fs, fp]) (by simp);obtain ⟨w, E22, hw⟩ : ∃ y E, mulL E21 1 [x, s, p] = (y, E) := ⟨(mulL E21 1 [x, s, p]).1, (mulL E21 1 [x, s, p]).2, rfl⟩;rw [hw] at e24;have e25 := fchSub_ok (decide (a < 0)) (toW a.natAbs) E22 a 2 ha fit_two;obtain ⟨k, hk⟩ : ∃ g, g = cV E22 (a - 2) := ⟨_, rfl⟩;obtain ⟨E23, hE23⟩ : ∃ E, E = cE E22 (a - 2) := ⟨_, rfl⟩;rw [← hk, ← hE23] at e25;dsimp only at e15 e19 e24
 have A1 : q1 = cV E13 ((dn a b n).e / (dn a b n).u) := by rw [hDe, hDu]; exact hq1
 have A2 : E14 = cE E13 ((dn a b n).e / (dn a b n).u) := by rw [hDe, hDu]; exact hE14
 have A3 : mulL E16 1 [2, (dn a b n).c] = (c2, E17) := by rw [hDc]; exact hc2
 have A4 : t1 = cV E18 (h - (dn a b n).c) := by rw [hDc]; exact ht1
 have A5 : E19 = cE E18 (h - (dn a b n).c) := by rw [hDc]; exact hE19
 have A6 : t = cV E19 (t1 / (dn a b n).f) := by rw [hDf]; exact ht
 have A7 : E20 = cE E19 (t1 / (dn a b n).f) := by rw [hDf]; exact hE20
 have A8 : v = cV E20 ((dn a b n).c - b) := by rw [hDc]; exact hv
 have A9 : E21 = cE E20 ((dn a b n).c - b) := by rw [hDc]; exact hE21
 have A10 : mulL E21 1 [(dn a b n).x, (dn a b n).s, p] = (w, E22) := by rw [hDx, hDs]; exact hw
 obtain ⟨hyes, hfit⟩ := d_third hh hE11 hp hE12 hI A1 A2 hi hE15 hx1 hE16 A3 hj hE18 A4 A5 A6 A7 A8 A9 A10 hk hE23;rw [hiff] at hfit;clear A1 A2 A3 A4 A5 A6 A7 A8 A9 A10 hh hE11 hp hE12 hI hq1 hE14 hi hE15 hx1 hE16 hc2 hj hE18 ht1 hE19 ht hE20 hv hE21 hw hk hE23 hiff;(repeat' (first |refine qv ?_ |apply qn |apply qs |apply qr |refine AWP.condF rfl ?_ |apply qk));refine ⟨AWP.seqS ?_⟩;(repeat' (first |refine Fl.rldK rfl rfl rfl rfl rfl rfl rfl (fun _ => rfl) (fun _ => rfl) rfl ?_ |refine Fl.relK rfl rfl rfl rfl rfl rfl rfl rfl rfl ?_ |refine qv ?_ |apply qr));refine qi [(900, 27)] (e13) ?_;(repeat' (first |refine Fl.relK rfl rfl rfl rfl rfl rfl rfl rfl rfl ?_ |refine Fl.rstK rfl rfl rfl rfl rfl rfl rfl rfl rfl rfl rfl (LeL.refl _) rfl rfl ?_ |apply qn));refine ⟨AWP.seqS ?_⟩;(repeat' (first |refine Fl.rldK rfl rfl rfl rfl rfl rfl rfl (fun _ => rfl) (fun _ => rfl) rfl ?_ |refine Fl.relK rfl rfl rfl rfl rfl rfl rfl rfl rfl ?_ |refine qv ?_ |apply qr));refine qi [(900, 27)] (e14) ?_;(repeat' (first |apply qn |refine qe ?_|fail));refine ⟨AWP.seqS ?_⟩;(repeat' (first |refine qv ?_ |apply qr));refine qi [(900, 27)] (e15) ?_;(repeat' (first |refine Fl.relK rfl rfl rfl rfl rfl rfl rfl rfl rfl ?_ |refine Fl.rstK rfl rfl rfl rfl rfl rfl rfl rfl rfl rfl rfl (LeL.refl _) rfl rfl ?_ |refine Fl.nil (fun _ => by kernel_rfl) ?_|fail));refine ⟨AWP.seqS ?_⟩;(repeat' (first |refine Fl.rldK rfl rfl rfl rfl rfl rfl rfl (fun _ => rfl) (fun _ => rfl) rfl ?_ |refine Fl.relK rfl rfl rfl rfl rfl rfl rfl rfl rfl ?_ |refine qv ?_ |apply qr));refine qi [(900, 27)] (e16) ?_;skip;refine qc (Of_ok 1 (by omega) (by omega)) ?_;skip;refine qi [(900, 27)] (e17) ?_;(repeat' (first |refine Fl.relK rfl rfl rfl rfl rfl rfl rfl rfl rfl ?_ |refine Fl.rstK rfl rfl rfl rfl rfl rfl rfl rfl rfl rfl rfl (LeL.refl _) rfl rfl ?_ |refine Fl.nil (fun _ => by kernel_rfl) ?_|fail));refine ⟨AWP.seqS ?_⟩;(repeat' (first |refine Fl.rldK rfl rfl rfl rfl rfl rfl rfl (fun _ => rfl) (fun _ => rfl) rfl ?_ |refine Fl.relK rfl rfl rfl rfl rfl rfl rfl rfl rfl ?_ |refine qv ?_ |apply qr));refine qi [(900, 27)] (e18) ?_;(repeat' (first |refine qv ?_|fail));refine qc (Of_ok 2 (by omega) (by omega)) ?_;(repeat' (first |refine Fl.rldK rfl rfl rfl rfl rfl rfl rfl (fun _ => rfl) (fun _ => rfl) rfl ?_ |refine Fl.relK rfl rfl rfl rfl rfl rfl rfl rfl rfl ?_ |refine qv ?_|fail));refine ql eX [2, c] ?_;skip;refine qi [(900, 27)] (e19) ?_;skip;refine qi [(900, 27)] (e20) ?_;(repeat' (first |refine Fl.relK rfl rfl rfl rfl rfl rfl rfl rfl rfl ?_ |refine Fl.rstK rfl rfl rfl rfl rfl rfl rfl rfl rfl rfl rfl (LeL.refl _) rfl rfl ?_ |refine Fl.nil (fun _ => by kernel_rfl) ?_|fail));refine ⟨AWP.seqS ?_⟩;(repeat' (first |refine Fl.rldK rfl rfl rfl rfl rfl rfl rfl (fun _ => rfl) (fun _ => rfl) rfl ?_ |refine Fl.relK rfl rfl rfl rfl rfl rfl rfl rfl rfl ?_ |refine qv ?_ |apply qr));refine qi [(900, 27)] (e21) ?_;(repeat' (first |refine Fl.rldK rfl rfl rfl rfl rfl rfl rfl (fun _ => rfl) (fun _ => rfl) rfl ?_ |refine Fl.relK rfl rfl rfl rfl rfl rfl rfl rfl rfl ?_ |refine qv ?_|fail));refine qi [(900, 27)] (e22) ?_;(repeat' (first |refine Fl.relK rfl rfl rfl rfl rfl rfl rfl rfl rfl ?_ |refine Fl.rstK rfl rfl rfl rfl rfl rfl rfl rfl rfl rfl rfl (LeL.refl _) rfl rfl ?_ |refine Fl.nil (fun _ => by kernel_rfl) ?_|fail));refine ⟨AWP.seqS ?_⟩;(repeat' (first |refine Fl.rldK rfl rfl rfl rfl rfl rfl rfl (fun _ => rfl) (fun _ => rfl) rfl ?_ |refine Fl.relK rfl rfl rfl rfl rfl rfl rfl rfl rfl ?_ |refine qv ?_ |apply qr));refine qi [(900, 27)] (e23) ?_;(repeat' (first |refine Fl.relK rfl rfl rfl rfl rfl rfl rfl rfl rfl ?_ |refine Fl.rstK rfl rfl rfl rfl rfl rfl rfl rfl rfl rfl rfl (LeL.refl _) rfl rfl ?_ |refine Fl.nil (fun _ => by kernel_rfl) ?_|fail));refine ⟨AWP.seqS ?_⟩;(repeat' (first |refine qv ?_ |apply qr));refine ql eX [x, s, p] ?_;skip;refine qi [(900, 27)] (e24) ?_;(repeat' (first |refine Fl.relK rfl rfl rfl rfl rfl rfl rfl rfl rfl ?_ |refine Fl.rstK rfl rfl rfl rfl rfl rfl rfl rfl rfl rfl rfl (LeL.refl _) rfl rfl ?_ |refine Fl.nil (fun _ => by kernel_rfl) ?_|fail));refine ⟨AWP.seqS ?_⟩;(repeat' (first |refine qv ?_ |apply qr));refine qc (Of_ok 2 (by omega) (by omega)) ?_;skip;refine qi [(900, 27)] (e25) ?_;(repeat' (first |refine qv ?_ |refine qw ?_|fail));refine qc (Of_ok (b - 1) (by omega) (by omega)) ?_;(repeat' (first |refine Fl.relK rfl rfl rfl rfl rfl rfl rfl rfl rfl ?_ |refine Fl.rstK rfl rfl rfl rfl rfl rfl rfl rfl rfl rfl rfl (LeL.refl _) rfl rfl ?_ |refine Fl.nil (fun _ => by kernel_rfl) ?_|fail));refine ⟨AWP.seqS ?_⟩;rcases Classical.em (E23 = 0) with hZ | hZ
 ·obtain ⟨m1, m2, m3, m4, m5, m6, m7, m8⟩ := hyes hZ;have hr := hr1 n (hfit.1 hZ);have hL := dn_L hDc hDd hDe hDf hDG m1 m2 m3 m4 m5 m6 m7 m8;rw [hL] at hr;rw [hr];clear hyes hfit hr hr1 hr2;(repeat' (first |refine qv ?_ |apply qn |apply qs |apply qr |(refine AWP.condN rfl ?_ ?_ <;> intro _ <;> try (exfalso; omega)) |apply qk));refine ⟨?_⟩;(repeat' (first |refine qv ?_ |apply qn |apply qs |apply qr |apply qt));refine RetOk.ent (Ent.freeze 28 rfl) ?_;exact RetOk.of rfl (AV.Le.refl _)
 ·have hno : ∀ m, ¬ DOK a b m := fun m hk => by
   have hm : m = n := by
    have hk2 := hk.2.1;rw [← k5] at hk2;exact hk2.fun hn
   subst hm;exact hZ (hfit.2 hk)
  rw [hr2 hno];clear hyes hfit hr1 hr2;(repeat' (first |refine qv ?_ |apply qn |apply qs |apply qr |(refine AWP.condN rfl ?_ ?_ <;> intro _ <;> try (exfalso; omega)) |apply qt));exact RetOk.of rfl (AV.Le.refl _)
end Go.Proofs.YtcaecieigoplbaaGreat
/- The reference's numbers of psi. -/
namespace Go.AL
end Go.AL
namespace Go.Proofs.YtcaecieigoplbaaGreat
open Go.AL
end Go.Proofs.YtcaecieigoplbaaGreat
/- DefineWitness; awake. -/
namespace Go.AL
abbrev awL : List Int := [2, 1, 1, 4, 56, 9409, 88510465, 1, 7834102414516225, 6, 0, 0, 0, 17171030210, 0, 0]
theorem awL_eq : (dn 2 1 4).L 2 1 = awL := by decide +kernel
theorem awL_fit : ∀ x ∈ awL, 0 ≤ x ∧ Fit x := by
 have h : ∀ x ∈ awL, 0 ≤ x ∧ x < 18446744073709551616 := by decide
 exact fun x hx => ⟨(h x hx).1, fit_small (by have := (h x hx).1; omega) (h x hx).2⟩
theorem aw10 : RankIs 2 (dU 2 1) 20000 4 ∧ DOK 2 1 4 := by
 have e : dU 2 1 = 8 := by decide +kernel
 have hr : RankIs 2 (dU 2 1) 20000 4 := by
  rw [e];refine ⟨by omega, by omega, by decide +kernel, fun k h1 h2 => ?_⟩;rcases (show k = 1 ∨ k = 2 ∨ k = 3 by omega) with h | h | h <;> subst h <;> decide +kernel
 refine ⟨hr, by rw [e]; decide +kernel, hr, ?_⟩;rw [awL_eq];exact fun x hx => (awL_fit x hx).2
theorem aw10_ev : ∀ l ∈ dfS.links, EvL awL l := df_ev (M := [2, 1, 1, 3, 6, 14, 27, 1, 53, 3, 1, 1, 1, 35, 1, 1]) rfl (by simp only [BW]; decide) (by kernel_rfl)
theorem aw10_hol : ∀ l ∈ dfS.links, HoL awL l := (df_hol _ _ _ _ _ _ _ _ _ _ _ _ _ _ _ _).2 (by unfold DfEq; decide)
end Go.AL
namespace Go.Proofs.YtcaecieigoplbaaGreat
open Go.AL
theorem awake10_ok : PureFn Tryz.prog 45 [] (aB true) := by
 refine PureFn.of_body Tryz.func45 rfl Tryz.ntmps45 rfl rfl ?_;obtain ⟨hr, hk⟩ := aw10;have c1 := dWit_ok 2 1 fit_two (by omega) (by omega) (by omega) (.tup [.sl 2 eX ((dn 2 1 4).L 2 1), aN 0]) (fun n h => by rw [h.2.1.fun hr]) (fun h => absurd hk (h 4));rw [awL_eq] at c1;have c2 := Holds_yes dfS awL dfS_w dfS_ok (fun x hx => (awL_fit x hx).2) rfl (fun x hx => (awL_fit x hx).1) aw10_ev aw10_hol;obtain ⟨L, hL⟩ : ∃ L, L = awL := ⟨_, rfl⟩
 have hLl : L.length = 16 := by rw [hL]; rfl
 have g4 : L[(4 : Int).toNat]? = some 56 := by rw [hL]; rfl
 have g5 : L[(5 : Int).toNat]? = some 9409 := by rw [hL]; rfl
 have g9 : L[(9 : Int).toNat]? = some 6 := by rw [hL]; rfl
 rw [← hL] at c1 c2;have len1 : ∀ x : Int, 0 ≤ x → x < 4294967296 → (toW x.natAbs).length ≤ 1000000 := fun x h0 h1 => Nat.le_trans ((toW_len_le (by omega) 1).2 (by rw [BB_succ, BB_zero]; omega)) (by omega);refine AWP.seqS ?_;(repeat' (first |refine qv ?_ |apply qn |apply qr));refine ⟨AWP.seqS ?_⟩;(repeat' (first |apply qr));refine qc (rOf_ok 2 (by omega) (by omega)) ?_;skip;refine qc (c1) ?_;(repeat' (first |refine qv ?_ |apply qn));refine ⟨AWP.seqS ?_⟩;(repeat' (first |apply qr));refine qc (dfEq_ok) ?_;(repeat' (first |refine qv ?_|fail));refine qc (c2) ?_;(repeat' (first |refine qv ?_ |apply qn));refine ⟨?_⟩;(repeat' (first |refine qv ?_ |apply qs |apply qr |refine qK ?_ |(refine Fl.splitD rfl rfl ?_ ?_ <;> intro _ <;> try (exfalso; omega))));refine qc (rOf_ok 56 (by omega) (by omega)) ?_;skip;refine qc (rSame_ok 56 56 (len1 56 (by omega) (by omega))) ?_;(repeat' (first |refine qv ?_ |refine qK ?_ |(refine Fl.splitD rfl rfl ?_ ?_ <;> intro _ <;> try (exfalso; omega))));refine qc (rOf_ok 9409 (by omega) (by omega)) ?_;skip;refine qc (rSame_ok 9409 9409 (len1 9409 (by omega) (by omega))) ?_;(repeat' (first |refine qv ?_ |refine qK ?_ |(refine Fl.splitD rfl rfl ?_ ?_ <;> intro _ <;> try (exfalso; omega))));refine qc (rOf_ok 6 (by omega) (by omega)) ?_;skip;refine qc (rSame_ok 6 6 (len1 6 (by omega) (by omega))) ?_;(repeat' (first |refine qv ?_ |refine Fl.nil (fun _ => by kernel_rfl) ?_ |apply qt));exact RetOk.of rfl (AV.Le.refl _)
end Go.Proofs.YtcaecieigoplbaaGreat
/- DefineEquations. -/
namespace Go.AL
theorem dfS_sm : SmS dfS := by
 refine ⟨by decide, fun l hl => ?_⟩;simp only [dfS, List.mem_cons, List.not_mem_nil, or_false] at hl;rcases hl with rfl | rfl | rfl | rfl | rfl | rfl | rfl | rfl | rfl | rfl | rfl <;> exact Go.Proofs.YtcaecieigoplbaaGreat.SmL_linkU (by omega) (by kernel_rfl) (by kernel_rfl) (by simp)
theorem mk_sm {V : Nat} {p : List UT} (h : chkR V p = true) (hV : V ≤ 1000) : SmP (mkP V p) := by
 obtain ⟨_, c2, c3⟩ := chkR_ok h;refine ⟨by simp [mkP]; omega, fun t ht => ?_⟩;obtain ⟨u, hu, rfl⟩ := List.mem_map.1 ht;have := c2 u hu;refine ⟨⟨toW_ok _, ?_⟩, by show u.2.length ≤ _; omega⟩;show lenI u.1 ≤ 1000000;omega
theorem dfO_chkR : chkR 16 dfO = true := by kernel_rfl
theorem sq_sum_zero : ∀ (ls : List Int), sumL (ls.map fun x => x * x) = 0 ↔ ∀ x ∈ ls, x = 0
 | [] => by simp [sumL]
 | x :: ls => by
  have hn : ∀ l : List Int, 0 ≤ sumL (l.map fun x => x * x) := by
   intro l
   induction l with
   | nil => simp [sumL]
   | cons y l ih =>
    simp only [List.map_cons, sumL]
    have : 0 ≤ y * y := by
     rcases Int.le_total 0 y with h | h
     ·exact Int.mul_nonneg h h
     ·have := Int.mul_nonneg (show 0 ≤ -y by omega) (show 0 ≤ -y by omega);rwa [Int.neg_mul_neg] at this
    omega
  have ih := sq_sum_zero ls;have h0 := hn ls
  have hx : 0 ≤ x * x := by have := hn [x]; simpa [sumL] using this
  simp only [List.map_cons, sumL, List.forall_mem_cons];rw [← ih];constructor
  ·intro h
   have e : x * x = 0 := by omega
   refine ⟨?_, by omega⟩;rcases Int.mul_eq_zero.1 e with k | k <;> exact k
  ·rintro ⟨rfl, h⟩;omega
theorem sqS_zero {X : List Int} {ls : List LZ} : sqS X ls = 0 ↔ ∀ l ∈ ls, fv X l = 0 := by
 have := sq_sum_zero (ls.map (fv X));rw [List.map_map] at this;unfold sqS;exact this.trans ⟨fun h l hl => h _ (List.mem_map.2 ⟨l, hl, rfl⟩), fun h x hx => by obtain ⟨l, hl, rfl⟩ := List.mem_map.1 hx; exact h l hl⟩
theorem hol_fv {X : List Int} {l : LZ} (hk : l.kind = 0) : HoL X l ↔ fv X l = 0 := by
 unfold HoL holdP fv;rw [hk];simp
theorem dfO_val {X : List Int} (hX : X.length = 16) : TS X (mkP 16 dfO).terms = sqS X dfS.links := by
 rw [TS_eq];have h := (oneV_ok (V := 16) (by omega) X hX (fun l hl => ⟨(dfS_all l hl).1, (dfS_all l hl).2.1, (dfS_all l hl).2.2⟩) (okP_nil (by omega)) wp_nil rfl dfO_one).2.2.2;rw [h];show 0 + 0 + sqS X dfS.links = _;omega
theorem dfO_zero {X : List Int} (hX : X.length = 16) : TS X (mkP 16 dfO).terms = 0 ↔ ∀ l ∈ dfS.links, HoL X l := by
 rw [dfO_val hX, sqS_zero];exact ⟨fun h l hl => (hol_fv (dfS_all l hl).2.2).2 (h l hl), fun h l hl => (hol_fv (dfS_all l hl).2.2).1 (h l hl)⟩
theorem loadE_le {M : Nat} : ∀ {X E : List Int}, (∀ x ∈ X, lenI x ≤ M) → EOk E → loadE X E ≤ M * (sumL E).toNat
 | [], E, _, _ => by simp [loadE]
 | _ :: _, [], _, _ => by simp [loadE]
 | x :: X, e :: E, hx, he => by
  have ih := loadE_le (X := X) (E := E) (fun y hy => hx y (by simp [hy])) fun y hy => he y (by simp [hy]);have h0 := (he e (by simp)).1;have hs := (sumL_bound (l := E) fun y hy => he y (by simp [hy])).1;simp only [loadE, sumL];rw [show (e + sumL E).toNat = e.toNat + (sumL E).toNat by omega, Nat.mul_add];have h1 : e.toNat * lenI x ≤ e.toNat * M := Nat.mul_le_mul_left _ (hx x (by simp));rw [Nat.mul_comm M e.toNat];omega
theorem bw_rep {m : Nat} : ∀ {X : List Int}, (∀ x ∈ X, 0 ≤ x ∧ x ≤ 2 ^ m) → BW X (List.replicate X.length m)
 | [], _ => trivial
 | x :: X, h => by
  rw [List.length_cons, List.replicate_succ];exact ⟨h x (by simp), bw_rep fun y hy => h y (by simp [hy])⟩
theorem df_ev20 {X : List Int} (hl : X.length = 16) (h0 : ∀ x ∈ X, 0 ≤ x) (h20 : ∀ x ∈ X, lenI x ≤ 20) : ∀ l ∈ dfS.links, EvL X l := by
 have hB : BW X (List.replicate 16 640) := by
  rw [← hl];refine bw_rep fun x hx => ⟨h0 x hx, ?_⟩;have h1 := (lenI_nonneg (h0 x hx)).1 (h20 x hx);rw [BB_pow] at h1;exact Int.le_of_lt h1
 exact df_ev hl hB (by kernel_rfl)
theorem holdsR_no {f g : LZ → Bool} : ∀ {ls : List LZ}, (∀ l ∈ ls, f l = true) → (¬ ∀ l ∈ ls, g l = true) → holdsR f g ls = (false, 0)
 | [], _, h => absurd (by simp) h
 | l :: ls, hf, h => by
  rw [holdsR, if_pos (hf l (by simp))];split
  ·rename_i hg;refine holdsR_no (fun x hx => hf x (by simp [hx])) fun k => h fun x hx => ?_;rcases List.mem_cons.1 hx with rfl | hx
   ·exact hg
   ·exact k x hx
  ·rfl
end Go.AL
namespace Go.Proofs.YtcaecieigoplbaaGreat
open Go.AL
theorem dfHolds20 (X : List Int) (hl : X.length = 16) (h0 : ∀ x ∈ X, 0 ≤ x) (h20 : ∀ x ∈ X, lenI x ≤ 20) (b : Bool) (hb : b = true ↔ ∀ l ∈ dfS.links, HoL X l) : PureFn Tryz.prog 25 [aS dfS, .sl 2 eX X] (.tup [aB b, aN 0]) := by
 have hX : ∀ x ∈ X, Fit x := fun x hx => Fit.mk (lenI_le.1 (Nat.le_trans (h20 x hx) (show 20 ≤ 4096 by omega)));have he := df_ev20 hl h0 h20
 cases b with
 | true => exact Holds_yes dfS X dfS_w dfS_ok hX (by rw [hl]; rfl) h0 he (hb.1 rfl)
 | false =>
  obtain ⟨f, hf⟩ := boolOf (EvL X);obtain ⟨g, hg⟩ := boolOf (HoL X);have h := Holds_ok dfS X dfS_w dfS_ok hX (by rw [hl]; rfl) h0 f g hf hg
  rw [holdsR_no (fun l hl => (hf l).2 (he l hl)) fun k => by
   have := hb.2 fun l hl => (hg l).1 (k l hl)
   cases this] at h
  exact h
theorem DefineEquationsA_ok (zs : List Z) (hz : ∀ z ∈ zs, WOk z.w) (hm : ∀ z ∈ zs, z.w.length ≤ 9223372036854775807) (hl : zs.length ≤ 9223372036854775807) (h : zs.length ≠ 16 ∨ ¬ ∀ z ∈ zs, OkZ z) : PureFn Tryz.prog 13 [.sl 2 eZ zs] (aB true) := by
 refine PureFn.of_body Tryz.func13 rfl Tryz.ntmps13 rfl rfl ?_;have cs := rSameS_ok dfS dfS dfS_sm dfS_w true ⟨fun _ => rfl, fun _ => rfl⟩;have cp := rSameP_ok (mkP 16 dfO) (mkP 16 dfO) (mk_sm dfO_chkR (by omega)) dfO_mk.2.2 true ⟨fun _ => rfl, fun _ => rfl⟩;have c1 := dfOne_ok;have c2 := rOne_ok;have c3 := dfEq_ok;have c4 := rEq10_ok
 generalize dfO = O at *
 generalize dfS = S at *
 refine AWP.seqS ?_;(repeat' (first |refine qv ?_ |apply qn |apply qr));refine ⟨AWP.seqS ?_⟩;(repeat' (first |apply qr));refine qc (c3) ?_;skip;refine qc (c1) ?_;(repeat' (first |apply qn |refine qe ?_|fail));refine ⟨AWP.seqS ?_⟩;refine AWP.seqS ?_;(repeat' (first |apply qr));refine qc (c4) ?_;skip;refine qc (c2) ?_;(repeat' (first |refine qv ?_ |apply qn |refine qe ?_|fail));refine ⟨?_⟩;(repeat' (first |refine qv ?_ |apply qs |apply qr));refine qc (c4) ?_;skip;refine qc (cs) ?_;(repeat' (first |refine qv ?_|fail));refine qc (cp) ?_;(repeat' (first |refine qv ?_ |refine Fl.nil (fun _ => by kernel_rfl) ?_ |refine AWP.condF rfl ?_ |apply qk));refine ⟨AWP.seqS ?_⟩;rcases Nat.lt_or_ge zs.length 16 with h16 | h16
 ·(repeat' (first |refine qv ?_ |apply qn |apply qs |apply qr |refine Fl.skip rfl rfl ?_ |refine AWP.condT rfl ?_ |(refine Fl.splitN rfl rfl ?_ ?_ <;> intro _ <;> try (exfalso; omega))));refine qc (awake10_ok) ?_;(repeat' (first |refine qv ?_ |apply qn |apply qt));exact RetOk.of rfl (AV.Le.refl _)
 rcases Nat.lt_or_ge 16 zs.length with h17 | h17
 ·(repeat' (first |refine qv ?_ |apply qn |apply qs |apply qr |refine Fl.skip rfl rfl ?_ |refine AWP.condT rfl ?_ |(refine Fl.splitN rfl rfl ?_ ?_ <;> intro _ <;> try (exfalso; omega))));refine qc (awake10_ok) ?_;(repeat' (first |refine qv ?_ |apply qn |apply qt));exact RetOk.of rfl (AV.Le.refl _)
 have hle : zs.length = 16 := by omega
 have hno : ¬ ∀ z ∈ zs, OkZ z := by
  rcases h with h | h
  ·exact absurd hle h
  ·exact h
 have ca := rAll_ok zs hz hm (by omega);rw [decide_eq_false hno] at ca;(repeat' (first |refine qv ?_ |apply qs |apply qr |(refine Fl.splitN rfl rfl ?_ ?_ <;> intro _ <;> try (exfalso; omega))));refine qc (ca) ?_;(repeat' (first |refine qv ?_ |apply qn |apply qs |apply qr |refine Fl.skip rfl rfl ?_ |refine AWP.condT rfl ?_));refine qc (awake10_ok) ?_;(repeat' (first |refine qv ?_ |apply qn |apply qt));exact RetOk.of rfl (AV.Le.refl _)
set_option maxHeartbeats 1000000 in
theorem DefineEquationsX_ok (X : List Int) (hX : ∀ x ∈ X, Fit x) (hl : X.length = 16) : PureFn Tryz.prog 13 [.sl 2 eX X] (aB true) := by
 refine PureFn.of_body Tryz.func13 rfl Tryz.ntmps13 rfl rfl ?_;have cs := rSameS_ok dfS dfS dfS_sm dfS_w true ⟨fun _ => rfl, fun _ => rfl⟩;have cp := rSameP_ok (mkP 16 dfO) (mkP 16 dfO) (mk_sm dfO_chkR (by omega)) dfO_mk.2.2 true ⟨fun _ => rfl, fun _ => rfl⟩;have c1 := dfOne_ok;have c2 := rOne_ok;have c3 := dfEq_ok;have c4 := rEq10_ok
 have ca : PureFn Tryz.prog 55 [.sl 2 eX X] (aB true) := by
  have h := rAll_ok (X.map zOf) (fun z hz => by obtain ⟨x, _, rfl⟩ := List.mem_map.1 hz; exact toW_ok _) (fun z hz => by
   obtain ⟨x, hx, rfl⟩ := List.mem_map.1 hz;have := (hX x hx).lenI;show lenI x ≤ _
   omega) (by rw [List.length_map]; omega)
  rw [decide_eq_true (fun z hz => by obtain ⟨x, hx, rfl⟩ := List.mem_map.1 hz; exact okZ_zOf (hX x hx))] at h;exact h.le (LeL.cons (AV.Le.slUnmap (enc := eZ) (f := zOf)) LeL.nil) (AV.Le.refl _)
 have cn := rNaturals_ok X (by omega)
 have heval : (∀ x ∈ X, 0 ≤ x) → (∀ x ∈ X, lenI x ≤ 20) → ∃ (v : Int) (b d : Bool), PureFn Tryz.prog 57 [aP (mkP 16 dfO), .sl 2 eX X] (.tup [aX v, aB d]) ∧ PureFn Tryz.prog 25 [aS dfS, .sl 2 eX X] (.tup [aB b, aN 0]) ∧ PureFn Tryz.prog 38 [aX v] (aB b) := by
  intro h0 h20;obtain ⟨b, hb⟩ := boolOf (fun _ : Unit => ∀ l ∈ dfS.links, HoL X l);have hb := hb ()
  have hE := rEval_ok (mkP 16 dfO) X dfO_mk.2.2 dfO_mk.1 (by rw [hl]; rfl) 4000 (by omega) (fun t ht => by
   have hT := dfO_mk.1.terms t ht;have h1 := loadE_le (M := 20) (X := X) (E := t.e) h20 hT.exps;have h2 := hT.deg
   have h3 : lenI (zval t.c) ≤ 1 := by
    obtain ⟨u, hu, rfl⟩ := List.mem_map.1 ht;show lenI (zval (zOf u.1)) ≤ 1;rw [zval_zOf];exact ((chkR_ok dfO_chkR).2.1 u hu).2.2
   have h4 : 20 * (sumL t.e).toNat ≤ 20 * 120 := Nat.mul_le_mul_left _ (by omega)
   omega)
  have hz := rZeroX_ok (TS X (mkP 16 dfO).terms);refine ⟨_, b (), _, hE, dfHolds20 X hl h0 h20 (b ()) hb, ?_⟩
  rw [show b () = decide (TS X (mkP 16 dfO).terms = 0) by
   rw [Bool.eq_iff_iff, hb, decide_eq_true_eq, dfO_zero hl]]
  exact hz
 generalize dfO = O at *
 generalize dfS = S at *
 refine AWP.seqS ?_;(repeat' (first |refine qv ?_ |apply qn |apply qr));refine ⟨AWP.seqS ?_⟩;(repeat' (first |apply qr));refine qc (c3) ?_;skip;refine qc (c1) ?_;(repeat' (first |apply qn |refine qe ?_|fail));refine ⟨AWP.seqS ?_⟩;refine AWP.seqS ?_;(repeat' (first |apply qr));refine qc (c4) ?_;skip;refine qc (c2) ?_;(repeat' (first |refine qv ?_ |apply qn |refine qe ?_|fail));refine ⟨?_⟩;(repeat' (first |refine qv ?_ |apply qs |apply qr));refine qc (c4) ?_;skip;refine qc (cs) ?_;(repeat' (first |refine qv ?_|fail));refine qc (cp) ?_;(repeat' (first |refine qv ?_ |refine Fl.nil (fun _ => by kernel_rfl) ?_ |refine AWP.condF rfl ?_ |apply qk));refine ⟨AWP.seqS ?_⟩;by_cases h0 : ∀ x ∈ X, 0 ≤ x;rotate_left
 ·rw [decide_eq_false h0] at cn;(repeat' (first |refine qv ?_ |apply qs |apply qr |(refine Fl.splitN rfl rfl ?_ ?_ <;> intro _ <;> try (exfalso; omega))));refine qc (ca) ?_;(repeat' (first |refine qv ?_|fail));refine qc (cn) ?_;(repeat' (first |refine qv ?_ |apply qn |apply qs |apply qr |refine AWP.condT rfl ?_));refine qc (awake10_ok) ?_;(repeat' (first |refine qv ?_ |apply qn |apply qt));exact RetOk.of rfl (AV.Le.refl _)
 rw [decide_eq_true h0] at cn;have heval := heval h0;(repeat' (first |refine qv ?_ |apply qs |apply qr |(refine Fl.splitN rfl rfl ?_ ?_ <;> intro _ <;> try (exfalso; omega))));refine qc (ca) ?_;(repeat' (first |refine qv ?_|fail));refine qc (cn) ?_;(repeat' (first |refine qv ?_ |apply qn |refine AWP.condF rfl ?_ |apply qk));refine ⟨AWP.seqS ?_⟩;(repeat' (first |refine qv ?_ |apply qn |apply qs |apply qr |apply qb));refine AWP.loop (G := Nat) (fun i => i ≤ 16 ∧ ∀ (k : Nat) (x : Int), k < i → X[k]? = some x → lenI x ≤ 20) (fun i => St.of [] [(0, .sl 2 eX X), (2, aB false), (3, .ptr 3 0), (4, .ptr 4 0), (7, aN i)] [(3, .cells [aN S.vars, .sl 3 eL S.links] 25), (4, .cells (eP (mkP 16 O)) 70)]) (fun i => 16 - i) 0 ⟨by omega, fun k _ hk => by omega⟩ ?_ ?_
 ·refine Ent.of [] ?_ ?_ rfl rfl;(repeat' (first |exact True.intro |refine ⟨⟨AV.Le.refl _, rfl⟩, ?_⟩ |refine ⟨⟨⟨_, rfl, BLe.cells (LeL.refl _)⟩, rfl⟩, ?_⟩|fail))
 ·intro i ⟨hi, hf⟩;by_cases hlt : i < 16
  ·obtain ⟨x, hx⟩ : ∃ x, X[i]? = some x := ⟨_, List.getElem?_eq_getElem (by omega)⟩;have hxl : lenI x = (toW (x.natAbs : Int)).length := rfl;have hfx := (hX x (List.mem_of_getElem? hx)).lenI;rcases Nat.lt_or_ge 20 (lenI x) with hb | hb
   ·(repeat' (first |refine qv ?_ |apply qn |apply qs |apply qr |(refine AWP.condD rfl ?_ ?_ <;> intro _ <;> try (exfalso; omega)) |apply qb |apply qk |refine qK ?_|fail));refine qc (awake10_ok) ?_;(repeat' (first |refine qv ?_ |apply qn |apply qt));exact RetOk.of rfl (AV.Le.refl _)
   ·(repeat' (first |refine qv ?_ |apply qn |apply qs |apply qr |refine qw ?_ |(refine AWP.condD rfl ?_ ?_ <;> intro _ <;> try (exfalso; omega)) |apply qb |apply qk |refine qK ?_|fail));refine LoopEnd.of (i + 1) ⟨by omega, fun k z h5 hz => ?_⟩ (by omega) ?_
    ·rcases (show k = i ∨ k < i by omega) with h | h
     ·subst h;rw [hx] at hz;injection hz with hz;rwa [← hz]
     ·exact hf k z h hz
    ·refine Ent.of [] ?_ ?_ rfl rfl;(repeat' (first |exact True.intro |refine ⟨⟨AV.Le.refl _, rfl⟩, ?_⟩ |refine ⟨⟨⟨_, rfl, BLe.cells (LeL.refl _)⟩, rfl⟩, ?_⟩|fail))
  ·obtain ⟨v, b, d, e1, e2, e3⟩ := heval fun y hy => by
    obtain ⟨k, hk⟩ := List.getElem?_of_mem hy;have := (List.getElem?_eq_some_iff.1 hk).1;exact hf k y (by omega) hk
   (repeat' (first |refine qv ?_ |apply qn |apply qs |apply qr |(refine AWP.condD rfl ?_ ?_ <;> intro _ <;> try (exfalso; omega)) |apply qx));refine ⟨AWP.seqS ?_⟩;(repeat' (first |refine qv ?_ |apply qr));refine qc (e1) ?_;(repeat' (first |refine qv ?_ |apply qn |refine qe ?_|fail));refine ⟨AWP.seqS ?_⟩;(repeat' (first |refine qv ?_ |apply qr));refine qc (e2) ?_;(repeat' (first |refine qv ?_ |apply qn));refine ⟨?_⟩
   cases b with
   | true =>
    (repeat' (first |refine qv ?_ |apply qs |apply qr |(refine Fl.splitD rfl rfl ?_ ?_ <;> intro _ <;> try (exfalso; omega))));refine qc (e3) ?_;(repeat' (first |refine qv ?_ |apply qn |refine Fl.skip rfl rfl ?_ |apply qt |(refine Fl.splitD rfl rfl ?_ ?_ <;> intro _ <;> try (exfalso; omega))))
    ·refine qc (awake10_ok) ?_;(repeat' (first |refine qv ?_ |apply qn |apply qt));exact RetOk.of rfl (AV.Le.refl _)
    ·rename_i hh;exact absurd rfl hh
   | false =>
    (repeat' (first |refine qv ?_ |apply qs |apply qr |(refine Fl.splitD rfl rfl ?_ ?_ <;> intro _ <;> try (exfalso; omega))));refine qc (e3) ?_;(repeat' (first |refine qv ?_ |apply qn |refine Fl.skip rfl rfl ?_ |apply qt |(refine Fl.splitD rfl rfl ?_ ?_ <;> intro _ <;> try (exfalso; omega))))
    ·refine qc (awake10_ok) ?_;(repeat' (first |refine qv ?_ |apply qn |apply qt));exact RetOk.of rfl (AV.Le.refl _)
    ·rename_i hh;exact absurd rfl hh
theorem DefineEquations_ok (zs : List Z) (hz : ∀ z ∈ zs, WOk z.w) (hl : zs.length ≤ 9223372036854775807) (hm : ∀ z ∈ zs, z.w.length ≤ 9223372036854775807) : PureFn Tryz.prog 13 [.sl 2 eZ zs] (aB true) := by
 by_cases h : zs.length ≠ 16 ∨ ¬ ∀ z ∈ zs, OkZ z
 ·exact DefineEquationsA_ok zs hz hm hl h
 ·have hle : zs.length = 16 := Classical.byContradiction fun k => h (.inl k);have ho : ∀ z ∈ zs, OkZ z := Classical.byContradiction fun k => h (.inr k)
  obtain ⟨X, hX, hXf⟩ : ∃ X : List Int, zs = X.map zOf ∧ ∀ x ∈ X, Fit x := by
   refine ⟨zs.map zval, ?_, fun x hx => ?_⟩
   ·rw [List.map_map];exact ((List.map_congr_left (g := id) fun z hzz => ((okZ_eq (hz z hzz) (ho z hzz)).1).symm).trans (List.map_id zs)).symm
   ·obtain ⟨z, hzz, rfl⟩ := List.mem_map.1 hx;exact (okZ_eq (hz z hzz) (ho z hzz)).2
  subst hX;exact (DefineEquationsX_ok X hXf (by rw [List.length_map] at hle; exact hle)).le (LeL.cons (AV.Le.slMap (enc := eZ) (f := zOf)) LeL.nil) (AV.Le.refl _)
end Go.Proofs.YtcaecieigoplbaaGreat

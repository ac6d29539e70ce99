/- Part 6 of a proof layer and of the contracts of the functions (XZ4 XZ5 XRK XRL XV0 XV1 XV2 XU1 XRM XRN XRO XV3 XRV XRP XV4 XT1 XL0 XL1 XL2 XL3 XL4 XYF XYG XYH XYI XYK XYJ XYL XT0 XRU). -/
import Derived.Test.YtcaecieigoplbaaGreatW5
set_option linter.unusedVariables false
set_option linter.unusedSimpArgs false
/- The reference's links: Make. -/
namespace Go.Proofs.YtcaecieigoplbaaGreat
open Go.AL

set_option maxHeartbeats 1000000 in
theorem rMakeL_ok (V M : Nat) (kind : Int) (ls : List (List UT)) (W : List Int) (hW : W = ixN V) (hV : V ≤ 1000) (hM : M ≤ 20000) (hl : ls.length ≤ 1000) (hk : ∀ p ∈ ls, p.length ≤ 3000 ∧ okT V M p) : PureFn Tryz.prog 75 [aN kind, aI W, .sl 2 eP (ls.map (mkP V))] (aL (linkR V kind ls)) := by
 refine PureFn.of_body Tryz.func75 rfl Tryz.ntmps75 rfl rfl ?_
 have hWl : W.length = V := by rw [hW, ixN_length]
 have hWg : ∀ i, i < V → W[i]? = some (i : Int) := fun i hi => by rw [hW]; exact ixN_get hi
 obtain ⟨L, hL⟩ : ∃ L, L = ls.map (mkP V) := ⟨_, rfl⟩
 have hLl : L.length = ls.length := by rw [hL, List.length_map]
 rw [← hL];refine AWP.seqS ?_;(repeat' (first |apply qn |apply qr |refine qe ?_|fail));refine ⟨AWP.seqS ?_⟩;(repeat' (first |refine qv ?_ |apply qn |apply qr |refine qe ?_|fail));refine ⟨AWP.seqS ?_⟩;(repeat' (first |refine qv ?_ |apply qn |apply qr));refine ⟨?_⟩;refine AWP.ent (Ent.nilrow 8 805 rfl rfl 1 eI 3) ?_;refine AWP.ent (Ent.nilcell 7 1 806 rfl rfl rfl 1 eI 3) ?_;(repeat' (first |refine qv ?_ |apply qn |apply qs |apply qr |apply qb));refine AWP.loop (G := Nat) (fun i => i ≤ V) (fun i => St.of [] [(1, aI W), (2, .sl 2 eP L), (6, .ptr 6 0), (7, .ptr 7 0), (8, .row 700), (9, aN i)] [(6, .cells [aN 0, .v (.slice none 0 0), .v (.slice none 0 0)] 82), (7, .cells [aN kind, .row 701, .v (.slice none 0 0)] 82), (700, .row 1 eI (occI ls i) 3), (701, .row 1 eI (occI ls i) 3)]) (fun i => V - i) 0 (by omega) ?_ ?_
 ·refine Ent.of [(700, 805), (701, 806)] ?_ ?_ rfl rfl;(repeat' (first |exact True.intro |refine ⟨⟨AV.Le.refl _, rfl⟩, ?_⟩ |refine ⟨⟨⟨_, rfl, BLe.cells (LeL.refl _)⟩, rfl⟩, ?_⟩ |refine ⟨⟨⟨_, rfl, BLe.row rfl⟩, rfl⟩, ?_⟩|fail))
 ·intro i k0;have hol := occI_len ls i;have hst := occI_step ls i;by_cases hi : i < V
  ·have hWi := hWg i hi;refine AWP.seqS ?_;(repeat' (first |refine qv ?_ |apply qn |apply qs |apply qr |(refine AWP.condD rfl ?_ ?_ <;> intro _ <;> try (exfalso; omega)) |apply qk));refine ⟨AWP.seq (AWP.block (AWP.seqS ?_))⟩;(repeat' (first |refine qv ?_ |apply qn |apply qr));refine ⟨?_⟩;refine AWP.seqJ (G := Bool) (fun b => b = occP ls i) (fun b => St.of [] [(1, aI W), (2, .sl 2 eP L), (6, .ptr 6 0), (7, .ptr 7 0), (8, .row 700), (9, aN i), (10, aB b)] [(6, .cells [aN 0, .v (.slice none 0 0), .v (.slice none 0 0)] 82), (7, .cells [aN kind, .row 701, .v (.slice none 0 0)] 82), (700, .row 1 eI (occI ls i) 3), (701, .row 1 eI (occI ls i) 3)]) ?_ ?_
   ·(repeat' (first |refine qv ?_ |apply qn |apply qs |apply qr |apply qb));refine AWP.loop (G := Nat) (fun j => j ≤ ls.length) (fun j => St.of [] [(1, aI W), (2, .sl 2 eP L), (6, .ptr 6 0), (7, .ptr 7 0), (8, .row 700), (9, aN i), (10, aB ((ls.take j).any (anyP i))), (11, aN j)] [(6, .cells [aN 0, .v (.slice none 0 0), .v (.slice none 0 0)] 82), (7, .cells [aN kind, .row 701, .v (.slice none 0 0)] 82), (700, .row 1 eI (occI ls i) 3), (701, .row 1 eI (occI ls i) 3)]) (fun j => ls.length - j) 0 (by omega) ?_ ?_
    ·refine Ent.of [] ?_ ?_ rfl rfl;(repeat' (first |exact True.intro |refine ⟨⟨AV.Le.refl _, rfl⟩, ?_⟩ |refine ⟨⟨⟨_, rfl, BLe.cells (LeL.refl _)⟩, rfl⟩, ?_⟩ |refine ⟨⟨⟨_, rfl, BLe.row rfl⟩, rfl⟩, ?_⟩|fail))
    ·intro j j0;by_cases hj : j < ls.length
     ·obtain ⟨q, hq⟩ : ∃ q, ls[j]? = some q := ⟨_, List.getElem?_eq_getElem hj⟩
      have hLq : L[j]? = some (mkP V q) := by rw [hL, List.getElem?_map, hq]; rfl
      obtain ⟨hq1, hq2⟩ := hk q (List.mem_of_getElem? hq);obtain ⟨b0, hb0⟩ : ∃ b, b = (ls.take j).any (anyP i) := ⟨_, rfl⟩
      have hTl : (mkP V q).terms.length = q.length := by simp [mkP]
      have hany := any_take_succ (anyP i) hq;rw [← hb0] at hany ⊢;refine AWP.seqS ?_;(repeat' (first |refine qv ?_ |apply qn |apply qs |apply qr |(refine AWP.condD rfl ?_ ?_ <;> intro _ <;> try (exfalso; omega)) |apply qk));refine ⟨AWP.seq (AWP.block ?_)⟩;(repeat' (first |refine qv ?_ |apply qn |apply qs |apply qr |apply qb));refine AWP.loop (G := Nat) (fun k => k ≤ q.length) (fun k => St.of [] [(1, aI W), (2, .sl 2 eP L), (6, .ptr 6 0), (7, .ptr 7 0), (8, .row 700), (9, aN i), (10, aB (b0 || (anyP i (q.take k)))), (11, aN j), (12, aN k)] [(6, .cells [aN 0, .v (.slice none 0 0), .v (.slice none 0 0)] 82), (7, .cells [aN kind, .row 701, .v (.slice none 0 0)] 82), (700, .row 1 eI (occI ls i) 3), (701, .row 1 eI (occI ls i) 3)]) (fun k => q.length - k) 0 (by omega) ?_ ?_
      ·refine Ent.of [] ?_ ?_ rfl rfl;(repeat' (first |exact True.intro |refine ⟨⟨AV.Le.refl _, rfl⟩, ?_⟩ |refine ⟨⟨⟨_, rfl, BLe.cells (LeL.refl _)⟩, rfl⟩, ?_⟩ |refine ⟨⟨⟨_, rfl, BLe.row rfl⟩, rfl⟩, ?_⟩ |refine ⟨⟨AV.Le.bool ?_, rfl⟩, ?_⟩|fail));show b0 = (b0 || false);rw [Bool.or_false]
      ·intro k e0;by_cases hkq : k < q.length
       ·obtain ⟨u, hu⟩ : ∃ u, q[k]? = some u := ⟨_, List.getElem?_eq_getElem hkq⟩
        have hTu : (mkP V q).terms[k]? = some (tz u) := by show (q.map tz)[k]? = _; rw [List.getElem?_map, hu]; rfl
        have hul := (hq2 u (List.mem_of_getElem? hu)).1;obtain ⟨x, hx⟩ : ∃ x, u.2[i]? = some x := ⟨_, List.getElem?_eq_getElem (by omega)⟩
        have hstep : anyP i (q.take (k + 1)) = (anyP i (q.take k) || decide (0 < x)) := by
         have := any_take_succ (fun u : UT => decide (0 < u.2.getD i 0)) hu;rw [List.getD_eq_getElem?_getD, hx] at this;exact this
        obtain ⟨b1, hb1⟩ : ∃ b, b = (b0 || anyP i (q.take k)) := ⟨_, rfl⟩
        have hstep2 : (b0 || anyP i (q.take (k + 1))) = (b1 || decide (0 < x)) := by rw [hstep, hb1, Bool.or_assoc]
        rw [← hb1]
        cases b1 with
        | true =>
         (repeat' (first |refine qv ?_ |apply qn |apply qs |apply qr |refine qw ?_ |refine Fl.skip rfl rfl ?_ |(refine AWP.condD rfl ?_ ?_ <;> intro _ <;> try (exfalso; omega)) |apply qb |apply qk |refine qK ?_|fail));refine LoopEnd.of (k + 1) (by omega) (by omega) ?_;refine Ent.of [] ?_ ?_ rfl rfl;(repeat' (first |exact True.intro |refine ⟨⟨AV.Le.refl _, rfl⟩, ?_⟩ |refine ⟨⟨⟨_, rfl, BLe.cells (LeL.refl _)⟩, rfl⟩, ?_⟩ |refine ⟨⟨⟨_, rfl, BLe.row rfl⟩, rfl⟩, ?_⟩ |refine ⟨⟨AV.Le.bool ?_, rfl⟩, ?_⟩|fail));rw [hstep2]; rfl
        | false =>
         (repeat' (first |refine qv ?_ |apply qn |apply qs |apply qr |refine qw ?_ |(refine AWP.condD rfl ?_ ?_ <;> intro _ <;> try (exfalso; omega)) |apply qb |apply qk |refine qK ?_|fail));refine LoopEnd.of (k + 1) (by omega) (by omega) ?_;refine Ent.of [] ?_ ?_ rfl rfl;(repeat' (first |exact True.intro |refine ⟨⟨AV.Le.refl _, rfl⟩, ?_⟩ |refine ⟨⟨⟨_, rfl, BLe.cells (LeL.refl _)⟩, rfl⟩, ?_⟩ |refine ⟨⟨⟨_, rfl, BLe.row rfl⟩, rfl⟩, ?_⟩ |refine ⟨⟨AV.Le.bool ?_, rfl⟩, ?_⟩|fail));rw [hstep2]; rfl
       ·have htk : q.take k = q := List.take_of_length_le (by omega);rw [htk, ← hany];(repeat' (first |refine qv ?_ |apply qn |apply qs |apply qr |refine qw ?_ |(refine AWP.condD rfl ?_ ?_ <;> intro _ <;> try (exfalso; omega)) |apply qx |refine qK ?_|fail));refine LoopEnd.of (j + 1) (by omega) (by omega) ?_;refine Ent.of [] ?_ ?_ rfl rfl;(repeat' (first |exact True.intro |refine ⟨⟨AV.Le.refl _, rfl⟩, ?_⟩ |refine ⟨⟨⟨_, rfl, BLe.cells (LeL.refl _)⟩, rfl⟩, ?_⟩ |refine ⟨⟨⟨_, rfl, BLe.row rfl⟩, rfl⟩, ?_⟩|fail))
     ·(repeat' (first |refine qv ?_ |apply qn |apply qs |apply qr |(refine AWP.condD rfl ?_ ?_ <;> intro _ <;> try (exfalso; omega)) |apply qx));refine JoinOk.of ((ls.take j).any (anyP i)) ?_ ?_
      ·rw [List.take_of_length_le (by omega)]; rfl
      ·refine Ent.of [] ?_ ?_ rfl rfl;(repeat' (first |exact True.intro |refine ⟨⟨AV.Le.refl _, rfl⟩, ?_⟩ |refine ⟨⟨⟨_, rfl, BLe.cells (LeL.refl _)⟩, rfl⟩, ?_⟩ |refine ⟨⟨⟨_, rfl, BLe.row rfl⟩, rfl⟩, ?_⟩|fail))
   ·intro b hb;subst hb;(repeat' (first |refine qv ?_ |apply qn |apply qs |apply qr |refine qw ?_ |apply qk |(refine AWP.condB rfl ?_ ?_ <;> intro _)))
    ·rename_i hb;rw [if_pos hb] at hst;refine ql eI [(i : Int)] ?_;skip;refine qa (hby := (by dsimp only [List.length_nil, List.length_cons]; omega)) (hm := (by dsimp only [List.length_nil, List.length_cons]; omega)) (r := ?_);(repeat' (first |refine qv ?_ |refine qK ?_|fail));refine ql eI [(i : Int)] ?_;skip;refine qa (hby := (by dsimp only [List.length_nil, List.length_cons]; omega)) (hm := (by dsimp only [List.length_nil, List.length_cons]; omega)) (r := ?_);(repeat' (first |refine qv ?_ |apply qn |refine Fl.nil (fun _ => by kernel_rfl) ?_ |apply qr |refine qw ?_ |refine qe ?_|fail));refine LoopEnd.of (i + 1) (by omega) (by omega) ?_;refine Ent.of [(700, 62), (701, 70)] ?_ ?_ rfl rfl;(repeat' (first |exact True.intro |refine ⟨⟨AV.Le.refl _, rfl⟩, ?_⟩ |refine ⟨⟨⟨_, rfl, BLe.cells (LeL.refl _)⟩, rfl⟩, ?_⟩ |refine ⟨⟨⟨_, rfl, BLe.row ?_⟩, rfl⟩, ?_⟩|fail))
     ·exact hst.symm
     ·exact hst.symm
    ·rename_i hb;rw [if_neg (by rw [hb]; simp)] at hst;refine LoopEnd.of (i + 1) (by omega) (by omega) ?_;refine Ent.of [] ?_ ?_ rfl rfl;(repeat' (first |exact True.intro |refine ⟨⟨AV.Le.refl _, rfl⟩, ?_⟩ |refine ⟨⟨⟨_, rfl, BLe.cells (LeL.refl _)⟩, rfl⟩, ?_⟩ |refine ⟨⟨⟨_, rfl, BLe.row ?_⟩, rfl⟩, ?_⟩|fail))
     ·exact hst.symm
     ·exact hst.symm
  ·have hiV : i = V := by omega
   subst hiV;have hom : ∀ (m : Nat) (x : Int), (occI ls i)[m]? = some x → 0 ≤ x ∧ x < i := fun m x hx => occI_mem (List.mem_of_getElem? hx);have hres : linkR i kind ls = ⟨kind, occI ls i, ls.map fun p => mkP (occI ls i).length (canU (p.map fun u => (u.1, pickX (occI ls i) u.2)))⟩ := rfl;rw [hres]
   generalize occI ls i = occ at *
   refine AWP.ent (Ent.freeze 700 rfl) ?_;refine AWP.ent (Ent.freeze 701 rfl) ?_;refine AWP.ent (Ent.nilcell 7 2 806 rfl rfl rfl 2 eP 70) ?_;(repeat' (first |refine qv ?_ |apply qn |apply qs |apply qr |(refine AWP.condD rfl ?_ ?_ <;> intro _ <;> try (exfalso; omega)) |apply qb |apply qx));refine AWP.loop (G := Nat) (fun j => j ≤ ls.length) (fun j => St.of [] [(2, .sl 2 eP L), (6, .ptr 6 0), (7, .ptr 7 0), (8, aI occ), (13, aN j)] [(6, .cells [aN 0, .v (.slice none 0 0), .v (.slice none 0 0)] 82), (7, .cells [aN kind, aI occ, .row 701] 82), (701, .row 2 eP ((ls.take j).map fun p => mkP occ.length (canU (p.map fun u => (u.1, pickX occ u.2)))) 70)]) (fun j => ls.length - j) 0 (by omega) ?_ ?_
   ·refine Ent.of [(701, 806)] ?_ ?_ rfl rfl;(repeat' (first |exact True.intro |refine ⟨⟨AV.Le.refl _, rfl⟩, ?_⟩ |refine ⟨⟨⟨_, rfl, BLe.cells (LeL.refl _)⟩, rfl⟩, ?_⟩ |refine ⟨⟨⟨_, rfl, BLe.row rfl⟩, rfl⟩, ?_⟩|fail))
   ·intro j g0
    have hlj : ((ls.take j).map fun p => mkP occ.length (canU (p.map fun u => (u.1, pickX occ u.2)))).length = j := by rw [List.length_map, List.length_take]; omega
    by_cases hj : j < ls.length
    ·obtain ⟨q, hq⟩ : ∃ q, ls[j]? = some q := ⟨_, List.getElem?_eq_getElem hj⟩
     have hLq : L[j]? = some (mkP i q) := by rw [hL, List.getElem?_map, hq]; rfl
     obtain ⟨hq1, hq2⟩ := hk q (List.mem_of_getElem? hq)
     have hTl : (mkP i q).terms.length = q.length := by simp [mkP]
     refine AWP.seqS ?_;(repeat' (first |refine qv ?_ |apply qn |apply qs |apply qr |(refine AWP.condD rfl ?_ ?_ <;> intro _ <;> try (exfalso; omega)) |apply qk));refine ⟨AWP.seq (AWP.block (AWP.seqS ?_))⟩;(repeat' (first |refine qv ?_ |apply qn |apply qr |refine qe ?_|fail));refine ⟨?_⟩;refine AWP.ent (Ent.nilcell 14 1 807 rfl rfl rfl 3 eT 124) ?_;(repeat' (first |refine qv ?_ |apply qn |apply qs |apply qr |apply qb));refine AWP.loop (G := Nat) (fun k => k ≤ q.length) (fun k => St.of [] [(2, .sl 2 eP L), (6, .ptr 6 0), (7, .ptr 7 0), (8, aI occ), (13, aN j), (14, .ptr 14 0), (15, aN k)] [(6, .cells [aN 0, .v (.slice none 0 0), .v (.slice none 0 0)] 82), (7, .cells [aN kind, aI occ, .row 701] 82), (701, .row 2 eP ((ls.take j).map fun p => mkP occ.length (canU (p.map fun u => (u.1, pickX occ u.2)))) 70), (14, .cells [aN occ.length, .row 702] 70), (702, .row 3 eT (((q.take k).map fun u => (u.1, pickX occ u.2)).map tz) 124)]) (fun k => q.length - k) 0 (by omega) ?_ ?_
     ·refine Ent.of [(702, 807)] ?_ ?_ rfl rfl;(repeat' (first |exact True.intro |refine ⟨⟨AV.Le.refl _, rfl⟩, ?_⟩ |refine ⟨⟨⟨_, rfl, BLe.cells (LeL.refl _)⟩, rfl⟩, ?_⟩ |refine ⟨⟨⟨_, rfl, BLe.row rfl⟩, rfl⟩, ?_⟩|fail))
     ·intro k e0
      have hlk : (((q.take k).map fun u => (u.1, pickX occ u.2)).map tz).length = k := by rw [List.length_map, List.length_map, List.length_take]; omega
      by_cases hkq : k < q.length
      ·obtain ⟨u, hu⟩ : ∃ u, q[k]? = some u := ⟨_, List.getElem?_eq_getElem hkq⟩
       have hTu : (mkP i q).terms[k]? = some (tz u) := by show (q.map tz)[k]? = _; rw [List.getElem?_map, hu]; rfl
       have hul := (hq2 u (List.mem_of_getElem? hu)).1;refine AWP.seqS ?_;(repeat' (first |refine qv ?_ |apply qn |apply qs |apply qr |(refine AWP.condD rfl ?_ ?_ <;> intro _ <;> try (exfalso; omega)) |apply qk |refine qK ?_|fail));refine ⟨AWP.seq (AWP.block (AWP.seqS ?_))⟩;(repeat' (first |refine qv ?_ |apply qn |apply qr));refine ⟨?_⟩;refine AWP.ent (Ent.nilrow 16 808 rfl rfl 1 eI 3) ?_;(repeat' (first |refine qv ?_ |apply qn |apply qs |apply qr |apply qb));refine AWP.loop (G := Nat) (fun m => m ≤ occ.length) (fun m => St.of [] [(2, .sl 2 eP L), (6, .ptr 6 0), (7, .ptr 7 0), (8, aI occ), (13, aN j), (14, .ptr 14 0), (15, aN k), (16, .row 703), (17, aN m)] [(6, .cells [aN 0, .v (.slice none 0 0), .v (.slice none 0 0)] 82), (7, .cells [aN kind, aI occ, .row 701] 82), (701, .row 2 eP ((ls.take j).map fun p => mkP occ.length (canU (p.map fun u => (u.1, pickX occ u.2)))) 70), (14, .cells [aN occ.length, .row 702] 70), (702, .row 3 eT (((q.take k).map fun u => (u.1, pickX occ u.2)).map tz) 124), (703, .row 1 eI ((occ.take m).map fun x => u.2.getD x.toNat 0) 3)]) (fun m => occ.length - m) 0 (by omega) ?_ ?_
       ·refine Ent.of [(703, 808)] ?_ ?_ rfl rfl;(repeat' (first |exact True.intro |refine ⟨⟨AV.Le.refl _, rfl⟩, ?_⟩ |refine ⟨⟨⟨_, rfl, BLe.cells (LeL.refl _)⟩, rfl⟩, ?_⟩ |refine ⟨⟨⟨_, rfl, BLe.row rfl⟩, rfl⟩, ?_⟩|fail))
       ·intro m m0
        have hlm : ((occ.take m).map fun x => u.2.getD x.toNat 0).length = m := by rw [List.length_map, List.length_take]; omega
        by_cases hm : m < occ.length
        ·obtain ⟨x, hx⟩ : ∃ x, occ[m]? = some x := ⟨_, List.getElem?_eq_getElem hm⟩;have hxb := hom m x hx;obtain ⟨y, hy⟩ : ∃ y, u.2[x.toNat]? = some y := ⟨_, List.getElem?_eq_getElem (by omega)⟩;(repeat' (first |refine qv ?_ |apply qn |apply qs |apply qr |(refine AWP.condD rfl ?_ ?_ <;> intro _ <;> try (exfalso; omega)) |apply qb |apply qk |refine qK ?_|fail));refine ql eI [y] ?_;skip;refine qa (hby := (by dsimp only [List.length_nil, List.length_cons]; omega)) (hm := (by dsimp only [List.length_nil, List.length_cons]; omega)) (r := ?_);(repeat' (first |refine qv ?_ |apply qn |refine Fl.nil (fun _ => by kernel_rfl) ?_ |apply qr |refine qw ?_|fail));refine LoopEnd.of (m + 1) (by omega) (by omega) ?_;refine Ent.of [(703, 114)] ?_ ?_ rfl rfl;(repeat' (first |exact True.intro |refine ⟨⟨AV.Le.refl _, rfl⟩, ?_⟩ |refine ⟨⟨⟨_, rfl, BLe.cells (LeL.refl _)⟩, rfl⟩, ?_⟩ |refine ⟨⟨⟨_, rfl, BLe.row rfl⟩, rfl⟩, ?_⟩ |refine ⟨⟨⟨_, rfl, BLe.row ?_⟩, rfl⟩, ?_⟩|fail));rw [take_snoc hx, List.map_append];congr 1;show [y] = [u.2.getD x.toNat 0];rw [List.getD_eq_getElem?_getD, hy];rfl
        ·have htm : occ.take m = occ := List.take_of_length_le (by omega);rw [htm];refine AWP.ent (Ent.freeze 703 rfl) ?_;(repeat' (first |refine qv ?_ |apply qn |apply qs |apply qr |refine qe ?_ |(refine AWP.condD rfl ?_ ?_ <;> intro _ <;> try (exfalso; omega)) |apply qx |refine qK ?_|fail));refine ql eT [tz (u.1, pickX occ u.2)] ?_;skip;refine qa (hby := (by dsimp only [List.length_nil, List.length_cons]; omega)) (hm := (by dsimp only [List.length_nil, List.length_cons]; omega)) (r := ?_);(repeat' (first |refine qv ?_ |apply qn |refine Fl.nil (fun _ => by kernel_rfl) ?_ |apply qr |refine qw ?_ |refine qe ?_|fail));refine LoopEnd.of (k + 1) (by omega) (by omega) ?_;refine Ent.of [(702, 129)] ?_ ?_ rfl rfl;(repeat' (first |exact True.intro |refine ⟨⟨AV.Le.refl _, rfl⟩, ?_⟩ |refine ⟨⟨⟨_, rfl, BLe.cells (LeL.refl _)⟩, rfl⟩, ?_⟩ |refine ⟨⟨⟨_, rfl, BLe.row rfl⟩, rfl⟩, ?_⟩ |refine ⟨⟨⟨_, rfl, BLe.row ?_⟩, rfl⟩, ?_⟩|fail));rw [take_snoc hu, List.map_append, List.map_append];rfl
      ·have htk : q.take k = q := List.take_of_length_le (by omega);have hso := (rSortedU occ.length (by have := occI_len ls i; omega) 12 M (q.map fun u => (u.1, pickX occ u.2)) (by rw [List.length_map]; omega) (by omega) (by omega) (hq2.pick occ)).1;rw [htk];(repeat' (first |refine qv ?_ |apply qn |apply qs |apply qr |(refine AWP.condD rfl ?_ ?_ <;> intro _ <;> try (exfalso; omega)) |apply qx |refine qK ?_|fail));refine Fl.callF rfl 702 rfl hso rfl rfl rfl (LeL.refl _) ?_;(repeat' (first |refine qv ?_ |apply qn |apply qr |refine qe ?_|fail));refine ql eP [mkP occ.length (canU (q.map fun u => (u.1, pickX occ u.2)))] ?_;skip;refine qa (hby := (by dsimp only [List.length_nil, List.length_cons]; omega)) (hm := (by dsimp only [List.length_nil, List.length_cons]; omega)) (r := ?_);(repeat' (first |refine qv ?_ |apply qn |apply qr |refine qw ?_ |refine qe ?_|fail));refine LoopEnd.of (j + 1) (by omega) (by omega) ?_;refine Ent.of [(701, 139)] ?_ ?_ rfl rfl;(repeat' (first |exact True.intro |refine ⟨⟨AV.Le.refl _, rfl⟩, ?_⟩ |refine ⟨⟨⟨_, rfl, BLe.cells (LeL.refl _)⟩, rfl⟩, ?_⟩ |refine ⟨⟨⟨_, rfl, BLe.row ?_⟩, rfl⟩, ?_⟩|fail));rw [take_snoc hq, List.map_append];rfl
    ·have htj : ls.take j = ls := List.take_of_length_le (by omega);rw [htj];refine AWP.ent (Ent.freeze 701 rfl) ?_;(repeat' (first |refine qv ?_ |apply qn |apply qs |apply qr |refine qe ?_ |(refine AWP.condD rfl ?_ ?_ <;> intro _ <;> try (exfalso; omega)) |apply qx |apply qt));exact RetOk.of rfl (AV.Le.refl _)
end Go.Proofs.YtcaecieigoplbaaGreat
/- The reference's polynomials with few small numbers, by inspection. -/
namespace Go.AL
def chkR (V : Nat) (l : List UT) : Bool := l.all (fun u => okU V u && decide (u.1 ≠ 0) && decide (u.1.natAbs < 4294967296)) && sortedU l && decide (l.length ≤ 3000)
theorem chkR_ok {V : Nat} {l : List UT} (h : chkR V l = true) : CanU l ∧ okT V 1 l ∧ l.length ≤ 3000 := by
 simp only [chkR, Bool.and_eq_true, List.all_eq_true, decide_eq_true_eq] at h;obtain ⟨⟨h1, h2⟩, h3⟩ := h;refine ⟨⟨fun u hu => (h1 u hu).1.2, sortedU_pw h2⟩, fun u hu => ?_, h3⟩;have := okU_ok (h1 u hu).1.1;refine ⟨this.1, this.2, lenI_le.2 ?_⟩;rw [show (1 : Nat) = 0 + 1 from rfl, BB_succ, BB_zero];have := (h1 u hu).2;omega
def degR (V : Nat) (a b : List UT) : Bool := a.all (fun s => b.all fun t => okU V (0, addE s.2 t.2)) && decide (b.length * a.length ≤ 4096)
theorem addUs_one (a b : List UT) : canU (a ++ b) = addL a b := canU_congr fun e => by
 unfold addUs;rw [cfU_append, cfU_append, cfU_map];congr 1
 have : ∀ l : List UT, cfU l e = sumL (l.map fun u => if (u.1 * 1, u.2).2 = e then (u.1 * 1, u.2).1 else 0) := by
  intro l
  induction l with
  | nil => rfl
  | cons u l ih => rw [cfU, ih]; simp only [List.map_cons, sumL, Int.mul_one]
 exact this b
end Go.AL
namespace Go.Proofs.YtcaecieigoplbaaGreat
open Go.AL

theorem rAddK {V : Nat} {a b : List UT} (hV : Nat.ble V 1000 = true) (ha : chkR V a = true) (hb : chkR V b = true) : PureFn Tryz.prog 72 [aP (mkP V a), aP (mkP V b)] (aP (mkP V (addL a b))) := by
 obtain ⟨a1, a2, a3⟩ := chkR_ok ha;obtain ⟨b1, b2, b3⟩ := chkR_ok hb;have h := rAddU V 1 (Nat.le_of_ble_eq_true hV) (by omega) a b a1 b1 a2 b2 (by omega) (by omega);rwa [addUs_one] at h
theorem rSubK {V : Nat} {a b : List UT} (hV : Nat.ble V 1000 = true) (ha : chkR V a = true) (hb : chkR V b = true) : PureFn Tryz.prog 76 [aP (mkP V a), aP (mkP V b)] (aP (mkP V (subL a b))) := by
 obtain ⟨a1, a2, a3⟩ := chkR_ok ha;obtain ⟨b1, b2, b3⟩ := chkR_ok hb;exact rSubU V 1 (Nat.le_of_ble_eq_true hV) (by omega) a b a1 b1 a2 b2 (by omega) (by omega)
theorem rMulK {V : Nat} {a b : List UT} (hV : Nat.ble V 1000 = true) (ha : chkR V a = true) (hb : chkR V b = true) (hd : degR V a b = true) : PureFn Tryz.prog 73 [aP (mkP V a), aP (mkP V b)] (aP (mkP V (mulL2 a b))) := by
 obtain ⟨a1, a2, a3⟩ := chkR_ok ha;obtain ⟨b1, b2, b3⟩ := chkR_ok hb;simp only [degR, Bool.and_eq_true, List.all_eq_true, decide_eq_true_eq] at hd;exact rMulU V 1 12 (Nat.le_of_ble_eq_true hV) (by omega) a b a2 b2 b1.nz (fun s hs t ht => (okU_ok (hd.1 s hs t ht)).2) a3 b3 hd.2 (by omega) (by omega)
theorem rMakeK {V : Nat} {kind : Int} {ls : List (List UT)} (hV : Nat.ble V 1000 = true) (h : (ls.all (chkR V) && decide (ls.length ≤ 1000)) = true) : PureFn Tryz.prog 75 [aN kind, aI (ixN V), .sl 2 eP (ls.map (mkP V))] (aL (linkR V kind ls)) := by
 simp only [Bool.and_eq_true, List.all_eq_true, decide_eq_true_eq] at h;exact rMakeL_ok V 1 kind ls (ixN V) rfl (Nat.le_of_ble_eq_true hV) (by omega) h.2 fun p hp => ⟨(chkR_ok (h.1 p hp)).2.2, (chkR_ok (h.1 p hp)).2.1⟩
theorem rMakeK1 {V : Nat} {kind : Int} {a : List UT} (hV : Nat.ble V 1000 = true) (h : chkR V a = true) : PureFn Tryz.prog 75 [aN kind, aI (ixN V), .sl 2 eP [mkP V a]] (aL (linkR V kind [a])) :=
 rMakeK (ls := [a]) hV (by simp [h])
theorem rMakeK3 {V : Nat} {kind : Int} {a b c : List UT} (hV : Nat.ble V 1000 = true) (h : chkR V a = true) (h2 : chkR V b = true) (h3 : chkR V c = true) : PureFn Tryz.prog 75 [aN kind, aI (ixN V), .sl 2 eP [mkP V a, mkP V b, mkP V c]] (aL (linkR V kind [a, b, c])) :=
 rMakeK (ls := [a, b, c]) hV (by simp [h, h2, h3])
theorem rVarK {V : Nat} {i : Int} (hV : Nat.ble V 1000 = true) (hi : (decide (0 ≤ i) && decide (i < V)) = true) : PureFn Tryz.prog 143 [aN V, aN i] (aP (mkP V (varU V i.toNat))) := by
 simp only [Bool.and_eq_true, decide_eq_true_eq] at hi;have h := rVarU V i.toNat (by omega) (Nat.le_of_ble_eq_true hV);rwa [Int.toNat_of_nonneg hi.1] at h
theorem rConK {V : Nat} {c : Int} (hV : Nat.ble V 1000 = true) (hc : (decide (c.natAbs < 4294967296)) = true) : PureFn Tryz.prog 146 [aN V, aX c] (aP (mkP V (conU V c))) := by
 have := of_decide_eq_true hc;exact rConstU V c (Nat.le_of_ble_eq_true hV) (by have := lenI_small this; omega)
end Go.Proofs.YtcaecieigoplbaaGreat
/- Method values of plain receivers: made, called. -/
namespace Go.AL
section
variable {P : Program} {tab : Tab} {n : Nat} {s : St}
variable {ops : Array Oper} {draw : Dr} {o : Oper} {l : List Oper} {acc : List Eff} {K : Exit → St → Prop}
abbrev bfn (f : FuncId) (us : List Value) : AV := .v (.func (.func f) #[.agg us.toArray] #[])
theorem Fl.bindM [fc : Facts P tab] {f : FuncId} {x : Operand} (hop : o.op = .makeFunc (.func f) ⟨[x]⟩ ⟨[]⟩) {cs : List AV} (hx : opd s x = .agg cs) {us : List Value} (h1 : litL cs = some us) (hg : gOk ops s o = true) (hd : dOk n o.dst = true)
  (r : Fl P n ops draw l ((Eff.mk (bfn f us) [] [] [] []).app o.dst s) (Eff.mk (bfn f us) [] [] [] [] :: acc) K) : Fl P n ops draw (o :: l) s acc K := by
 refine Fl.opv hg (OpJ.of_run (dOk_lt hd) fun C s' a w h β ho _ b => ?_) r;have hxr := opd_rep b x;rw [ho x (by simp [hop, Op.operands]), hx] at hxr;simp only [Rep] at hxr;obtain ⟨vs, e1, hr⟩ := hxr;have e2 := litL_rep h1 hr;refine ⟨.func (.func f) #[a.eval x] #[], by simp [execOp, hop, Instr.makeFunc], ?_⟩;simp only [Rep];rw [e1, ← e2]
theorem Runs.bound {f : FuncId} {x : Operand} {args : List Operand} {ts : Array TypeId} {us : List Value} (hop : o.op = .call { callee := .value x, args := ⟨args⟩, argTypes := ts }) (hx : opd s x = bfn f us) : Runs P n o s f (.v (.agg us.toArray) :: opds s args) := by
 refine ⟨fun s' C a w h β hs k => ?_⟩
 have hxs : opd s' x = opd s x := by
  cases x with
  | tmp t => exact hs t (by rw [hop]; simp [Op.operands, Call.operands])
  | _ => rfl
 have hxr := opd_rep k x;rw [hxs, hx] at hxr;simp only [Rep] at hxr
 have hps : opds s' args = opds s args := opds_same args fun x hx => by
  cases x with
  | tmp t => exact hs t (by rw [hop]; simp [Op.operands, Call.operands, hx])
  | _ => rfl
 have hr := opds_rep k args;rw [hps] at hr;refine ⟨#[.agg us.toArray] ++ (args.map a.eval).toArray, fun hfn => ?_, ?_⟩
 ·simp only [execOp, hop, resolve, hxr, Deferred.ofValue, Sem.run_bind, Sem.run_pure, Result.andThen, invoke, List.map_toArray];have := run_callFunc hfn (#[.agg us.toArray] ++ (args.map a.eval).toArray) w;simpa using this
 ·simp only [RepL];exact ⟨.agg us.toArray, args.map a.eval, by simp, by simp only [Rep], hr⟩
theorem Fl.callM {f : FuncId} {x : Operand} {args : List Operand} {ts : Array TypeId} {us : List Value} (hop : o.op = .call { callee := .value x, args := ⟨args⟩, argTypes := ts }) (hx : opd s x = bfn f us) {a : AV} {bs : List AV} {ret : AV} (hf : PureFn P f (a :: bs) ret) (hg : gOk ops s o = true) (hd : dOk n o.dst = true) (hcl : closedL (opds s args) = true) (ha : (AV.v (.agg us.toArray)).Le a) (hle : LeL (opds s args) bs)
  (r : Fl P n ops draw l ((Eff.mk ret [] [] [] []).app o.dst s) (Eff.mk ret [] [] [] [] :: acc) K) : Fl P n ops draw (o :: l) s acc K :=
 Fl.opv hg (OpJ.callG (dOk_lt hd) (Runs.bound hop hx) (LeL.cons ha hle) (by simp only [closedL, hcl, AV.closed, Bool.and_true]) hf) r
end
end Go.AL
/- arithmancy/mask.Links: the system. Written by links.py. -/
namespace Go.AL
def okLk (V : Nat) (ls : List (List UT)) : Bool := ls.all fun p => Nat.ble p.length 3000 && p.all fun u => Nat.beq u.2.length V
theorem okLk_ok {V : Nat} {ls : List (List UT)} (h : okLk V ls = true) : ∀ p ∈ ls, p.length ≤ 3000 ∧ ∀ u ∈ p, u.2.length = V := fun p hp => by
 have := List.all_eq_true.1 h p hp;simp only [Bool.and_eq_true, List.all_eq_true] at this;exact ⟨Nat.le_of_ble_eq_true this.1, fun u hu => Nat.eq_of_beq_eq_true (this.2 u hu)⟩
end Go.AL
namespace Go.Proofs.YtcaecieigoplbaaGreat
open Go.AL
end Go.Proofs.YtcaecieigoplbaaGreat
/- power.Links' closure: 0 - p. -/
namespace Go.Proofs.YtcaecieigoplbaaGreat
open Go.AL
theorem pwNeg_ok (V : Nat) (hV : V ≤ 32) (p l : List UT) (hp : chkU V p p = true) (h0 : chkU V (conU V 0) (conU V 0) = true) (h : chkU V (addUs (-1) (conU V 0) p) l = true) : IoFn Tryz.prog 92 [aP (mkP V p), .ptr 900 0] [(900, .cells [aN V] 84)] (.ret (aP (mkP V l))) [(900, .cells [aN V] 84)] := by
 refine IoFn.of_body Tryz.func92 rfl Tryz.ntmps92 rfl rfl rfl ?_;(repeat' (first |refine qv ?_ |apply qn |apply qs |apply qr |refine qe ?_|fail));refine qc (kN_ok V 0 hV (by omega) (by omega)) ?_;(repeat' (first |refine qv ?_|fail));refine qc (kSub_ok V hV (conU V 0) p l h0 hp h) ?_;(repeat' (first |refine Fl.nil (fun _ => by kernel_rfl) ?_ |refine qe ?_ |apply qt));exact ⟨⟨[], _, _, Ent.refl _ _ _, rfl, AV.Le.refl _, rfl, ⟨⟨⟨_, rfl, BLe.cells (LeL.refl _)⟩, rfl⟩, trivial⟩, rfl, rfl⟩⟩
end Go.Proofs.YtcaecieigoplbaaGreat
/- arithmancy/power.Links: the system. Written by links.py. -/
namespace Go.AL
def pw0 : List UT := mulsU (conU 10 1) [varU 10 2, varU 10 0]
def pw1 : List UT := sumsU [] [varU 10 9, conU 10 1]
def pw2 : List UT := subL (varU 10 0) pw1
def pw3 : List UT := sumsU [] [varU 10 0, conU 10 2]
def pw4 : List UT := sumsU [] [varU 10 1, conU 10 2]
def pw5 : List UT := sumsU [] [varU 10 1, conU 10 1]
def pw6 : List UT := mulsU (conU 10 1) [varU 10 5, varU 10 5]
def pw7 : List UT := mulsU (conU 10 1) [varU 10 3, varU 10 3]
def pw8 : List UT := subL pw7 (conU 10 1)
def pw9 : List UT := mulsU (conU 10 1) [pw8, varU 10 4, varU 10 4]
def pw10 : List UT := sumsU [] [pw9, conU 10 1]
def pw11 : List UT := subL pw6 pw10
def pw12 : List UT := mulsU (conU 10 1) [conU 10 2, varU 10 3, varU 10 0]
def pw13 : List UT := mulsU (conU 10 1) [varU 10 0, varU 10 0]
def pw14 : List UT := subL (conU 10 0) pw13
def pw15 : List UT := sumsU [] [pw12, pw14, conU 10 (-1)]
def pw16 : List UT := subL (varU 10 6) pw15
def pw17 : List UT := subL (varU 10 3) (varU 10 0)
def pw18 : List UT := mulsU (conU 10 1) [pw17, varU 10 4]
def pw19 : List UT := mulsU (conU 10 1) [varU 10 6, varU 10 7]
def pw20 : List UT := sumsU [] [pw18, pw0, pw19]
def pw21 : List UT := subL (varU 10 5) pw20
def pw22 : List UT := sumsU [] [pw0, varU 10 8, conU 10 1]
def pw23 : List UT := subL (varU 10 6) pw22
def pwS : SZ := ⟨10, [linkU 10 0 [pw2], linkU 10 1 [pw3, pw4, varU 10 3], linkU 10 1 [varU 10 3, pw5, varU 10 4], linkU 10 0 [pw11], linkU 10 0 [pw16], linkU 10 0 [pw21], linkU 10 0 [pw23]]⟩
end Go.AL
namespace Go.Proofs.YtcaecieigoplbaaGreat
open Go.AL
set_option maxHeartbeats 2000000 in
set_option maxRecDepth 10000 in
theorem powerLinks_ok : PureFn Tryz.prog 29 [] (aS pwS) := by
 refine PureFn.of_body Tryz.func29 rfl Tryz.ntmps29 rfl rfl ?_;refine AWP.seqS ?_;(repeat' (first |apply qn |apply qr |refine qe ?_|fail));refine ⟨AWP.seqS ?_⟩;(repeat' (first |apply qr));refine qc (kNew_ok 10) ?_;(repeat' (first |apply qn |refine qe ?_|fail));refine ⟨AWP.seqS ?_⟩;(repeat' (first |refine qv ?_ |apply qr));refine Fl.bindM rfl rfl rfl rfl rfl ?_;(repeat' (first |refine qv ?_|fail));refine Fl.bindM rfl rfl rfl rfl rfl ?_;(repeat' (first |refine qv ?_ |refine Fl.nil (fun _ => by kernel_rfl) ?_|fail));refine ⟨AWP.seqS ?_⟩;(repeat' (first |refine qv ?_ |apply qn |apply qr));refine ⟨?_⟩;refine AWP.seq ?_;refine AWP.regionJ [(1, 0, [aN 10])] (InvJ.cons ⟨_, _, rfl, rfl⟩ (InvJ.nil _)) ?_;(repeat' (first | refine Fl.ldJ rfl rfl rfl rfl rfl rfl rfl rfl ?_ | refine Fl.v rfl rfl rfl ?_ | refine Fl.b rfl rfl rfl rfl ?_ | fail));refine Fl.callM (f := 64) (us := [.int .i64 10]) rfl ?_ (kV_ok 10 2 (by omega) (by omega)) ?_ ?_ ?_ ?_ ?_ ?_
 iterate 4 exact rfl
 exact AV.Le.vagg (LeL.refl _);exact LeL.refl _;(repeat' (first | refine Fl.ldJ rfl rfl rfl rfl rfl rfl rfl rfl ?_ | refine Fl.v rfl rfl rfl ?_ | refine Fl.b rfl rfl rfl rfl ?_ | fail));refine Fl.callM (f := 64) (us := [.int .i64 10]) rfl ?_ (kV_ok 10 0 (by omega) (by omega)) ?_ ?_ ?_ ?_ ?_ ?_
 iterate 4 exact rfl
 exact AV.Le.vagg (LeL.refl _);exact LeL.refl _;(repeat' (first | refine Fl.ldJ rfl rfl rfl rfl rfl rfl rfl rfl ?_ | refine Fl.v rfl rfl rfl ?_ | refine Fl.b rfl rfl rfl rfl ?_ | fail));refine ql eP [mkP 10 (varU 10 2), mkP 10 (varU 10 0)] ?_;(repeat' (first | refine Fl.ldJ rfl rfl rfl rfl rfl rfl rfl rfl ?_ | refine Fl.v rfl rfl rfl ?_ | refine Fl.b rfl rfl rfl rfl ?_ | fail));refine Fl.call rfl (show PureFn Tryz.prog _ _ (aP (mkP 10 pw0)) from kMul_ok 10 (by omega) [varU 10 2, varU 10 0] (by simp) (by kernel_rfl)) rfl rfl rfl (LeL.refl _) ?_;(repeat' (first | refine Fl.ldJ rfl rfl rfl rfl rfl rfl rfl rfl ?_ | refine Fl.v rfl rfl rfl ?_ | refine Fl.b rfl rfl rfl rfl ?_ | fail));refine Fl.nil (fun _ => by kernel_rfl) ?_;refine AWP.seq ?_;refine AWP.regionJ [(1, 0, [aN 10])] (InvJ.cons ⟨_, _, rfl, rfl⟩ (InvJ.nil _)) ?_;(repeat' (first | refine Fl.ldJ rfl rfl rfl rfl rfl rfl rfl rfl ?_ | refine Fl.v rfl rfl rfl ?_ | refine Fl.b rfl rfl rfl rfl ?_ | fail));refine Fl.callM (f := 64) (us := [.int .i64 10]) rfl ?_ (kV_ok 10 0 (by omega) (by omega)) ?_ ?_ ?_ ?_ ?_ ?_
 iterate 4 exact rfl
 exact AV.Le.vagg (LeL.refl _);exact LeL.refl _;(repeat' (first | refine Fl.ldJ rfl rfl rfl rfl rfl rfl rfl rfl ?_ | refine Fl.v rfl rfl rfl ?_ | refine Fl.b rfl rfl rfl rfl ?_ | fail));refine Fl.callM (f := 64) (us := [.int .i64 10]) rfl ?_ (kV_ok 10 9 (by omega) (by omega)) ?_ ?_ ?_ ?_ ?_ ?_
 iterate 4 exact rfl
 exact AV.Le.vagg (LeL.refl _);exact LeL.refl _;(repeat' (first | refine Fl.ldJ rfl rfl rfl rfl rfl rfl rfl rfl ?_ | refine Fl.v rfl rfl rfl ?_ | refine Fl.b rfl rfl rfl rfl ?_ | fail));refine Fl.callM (f := 65) (us := [.int .i64 10]) rfl ?_ (kN_ok 10 1 (by omega) (by omega) (by omega)) ?_ ?_ ?_ ?_ ?_ ?_
 iterate 4 exact rfl
 exact AV.Le.vagg (LeL.refl _);exact LeL.refl _;(repeat' (first | refine Fl.ldJ rfl rfl rfl rfl rfl rfl rfl rfl ?_ | refine Fl.v rfl rfl rfl ?_ | refine Fl.b rfl rfl rfl rfl ?_ | fail));refine ql eP [mkP 10 (varU 10 9), mkP 10 (conU 10 1)] ?_;(repeat' (first | refine Fl.ldJ rfl rfl rfl rfl rfl rfl rfl rfl ?_ | refine Fl.v rfl rfl rfl ?_ | refine Fl.b rfl rfl rfl rfl ?_ | fail));refine Fl.call rfl (show PureFn Tryz.prog _ _ (aP (mkP 10 pw1)) from kAdd_ok 10 (by omega) [varU 10 9, conU 10 1] (by simp) (by kernel_rfl)) rfl rfl rfl (LeL.refl _) ?_;(repeat' (first | refine Fl.ldJ rfl rfl rfl rfl rfl rfl rfl rfl ?_ | refine Fl.v rfl rfl rfl ?_ | refine Fl.b rfl rfl rfl rfl ?_ | fail));refine Fl.call rfl (kEq_ok 10 (by omega) (varU 10 0) pw1 pw2 (by kernel_rfl) (by kernel_rfl) (by kernel_rfl) (okLk_ok (V := 10) (ls := [pw2]) (by kernel_rfl) _ (by simp))) rfl rfl rfl (LeL.refl _) ?_;(repeat' (first | refine Fl.ldJ rfl rfl rfl rfl rfl rfl rfl rfl ?_ | refine Fl.v rfl rfl rfl ?_ | refine Fl.b rfl rfl rfl rfl ?_ | fail));refine Fl.callM (f := 64) (us := [.int .i64 10]) rfl ?_ (kV_ok 10 0 (by omega) (by omega)) ?_ ?_ ?_ ?_ ?_ ?_
 iterate 4 exact rfl
 exact AV.Le.vagg (LeL.refl _);exact LeL.refl _;(repeat' (first | refine Fl.ldJ rfl rfl rfl rfl rfl rfl rfl rfl ?_ | refine Fl.v rfl rfl rfl ?_ | refine Fl.b rfl rfl rfl rfl ?_ | fail));refine Fl.callM (f := 65) (us := [.int .i64 10]) rfl ?_ (kN_ok 10 2 (by omega) (by omega) (by omega)) ?_ ?_ ?_ ?_ ?_ ?_
 iterate 4 exact rfl
 exact AV.Le.vagg (LeL.refl _);exact LeL.refl _;(repeat' (first | refine Fl.ldJ rfl rfl rfl rfl rfl rfl rfl rfl ?_ | refine Fl.v rfl rfl rfl ?_ | refine Fl.b rfl rfl rfl rfl ?_ | fail));refine ql eP [mkP 10 (varU 10 0), mkP 10 (conU 10 2)] ?_;(repeat' (first | refine Fl.ldJ rfl rfl rfl rfl rfl rfl rfl rfl ?_ | refine Fl.v rfl rfl rfl ?_ | refine Fl.b rfl rfl rfl rfl ?_ | fail));refine Fl.call rfl (show PureFn Tryz.prog _ _ (aP (mkP 10 pw3)) from kAdd_ok 10 (by omega) [varU 10 0, conU 10 2] (by simp) (by kernel_rfl)) rfl rfl rfl (LeL.refl _) ?_;(repeat' (first | refine Fl.ldJ rfl rfl rfl rfl rfl rfl rfl rfl ?_ | refine Fl.v rfl rfl rfl ?_ | refine Fl.b rfl rfl rfl rfl ?_ | fail));refine Fl.callM (f := 64) (us := [.int .i64 10]) rfl ?_ (kV_ok 10 1 (by omega) (by omega)) ?_ ?_ ?_ ?_ ?_ ?_
 iterate 4 exact rfl
 exact AV.Le.vagg (LeL.refl _);exact LeL.refl _;(repeat' (first | refine Fl.ldJ rfl rfl rfl rfl rfl rfl rfl rfl ?_ | refine Fl.v rfl rfl rfl ?_ | refine Fl.b rfl rfl rfl rfl ?_ | fail));refine Fl.callM (f := 65) (us := [.int .i64 10]) rfl ?_ (kN_ok 10 2 (by omega) (by omega) (by omega)) ?_ ?_ ?_ ?_ ?_ ?_
 iterate 4 exact rfl
 exact AV.Le.vagg (LeL.refl _);exact LeL.refl _;(repeat' (first | refine Fl.ldJ rfl rfl rfl rfl rfl rfl rfl rfl ?_ | refine Fl.v rfl rfl rfl ?_ | refine Fl.b rfl rfl rfl rfl ?_ | fail));refine ql eP [mkP 10 (varU 10 1), mkP 10 (conU 10 2)] ?_;(repeat' (first | refine Fl.ldJ rfl rfl rfl rfl rfl rfl rfl rfl ?_ | refine Fl.v rfl rfl rfl ?_ | refine Fl.b rfl rfl rfl rfl ?_ | fail));refine Fl.call rfl (show PureFn Tryz.prog _ _ (aP (mkP 10 pw4)) from kAdd_ok 10 (by omega) [varU 10 1, conU 10 2] (by simp) (by kernel_rfl)) rfl rfl rfl (LeL.refl _) ?_;(repeat' (first | refine Fl.ldJ rfl rfl rfl rfl rfl rfl rfl rfl ?_ | refine Fl.v rfl rfl rfl ?_ | refine Fl.b rfl rfl rfl rfl ?_ | fail));refine Fl.callM (f := 64) (us := [.int .i64 10]) rfl ?_ (kV_ok 10 3 (by omega) (by omega)) ?_ ?_ ?_ ?_ ?_ ?_
 iterate 4 exact rfl
 exact AV.Le.vagg (LeL.refl _);exact LeL.refl _;(repeat' (first | refine Fl.ldJ rfl rfl rfl rfl rfl rfl rfl rfl ?_ | refine Fl.v rfl rfl rfl ?_ | refine Fl.b rfl rfl rfl rfl ?_ | fail));refine ql eP [mkP 10 pw3, mkP 10 pw4, mkP 10 (varU 10 3)] ?_;(repeat' (first | refine Fl.ldJ rfl rfl rfl rfl rfl rfl rfl rfl ?_ | refine Fl.v rfl rfl rfl ?_ | refine Fl.b rfl rfl rfl rfl ?_ | fail));refine qc (kLink_ok 10 1 [pw3, pw4, varU 10 3] (by omega) (by simp) (okLk_ok (by kernel_rfl))) ?_;(repeat' (first | refine Fl.ldJ rfl rfl rfl rfl rfl rfl rfl rfl ?_ | refine Fl.v rfl rfl rfl ?_ | refine Fl.b rfl rfl rfl rfl ?_ | fail));refine Fl.callM (f := 64) (us := [.int .i64 10]) rfl ?_ (kV_ok 10 3 (by omega) (by omega)) ?_ ?_ ?_ ?_ ?_ ?_
 iterate 4 exact rfl
 exact AV.Le.vagg (LeL.refl _);exact LeL.refl _;(repeat' (first | refine Fl.ldJ rfl rfl rfl rfl rfl rfl rfl rfl ?_ | refine Fl.v rfl rfl rfl ?_ | refine Fl.b rfl rfl rfl rfl ?_ | fail));refine Fl.callM (f := 64) (us := [.int .i64 10]) rfl ?_ (kV_ok 10 1 (by omega) (by omega)) ?_ ?_ ?_ ?_ ?_ ?_
 iterate 4 exact rfl
 exact AV.Le.vagg (LeL.refl _);exact LeL.refl _;(repeat' (first | refine Fl.ldJ rfl rfl rfl rfl rfl rfl rfl rfl ?_ | refine Fl.v rfl rfl rfl ?_ | refine Fl.b rfl rfl rfl rfl ?_ | fail));refine Fl.callM (f := 65) (us := [.int .i64 10]) rfl ?_ (kN_ok 10 1 (by omega) (by omega) (by omega)) ?_ ?_ ?_ ?_ ?_ ?_
 iterate 4 exact rfl
 exact AV.Le.vagg (LeL.refl _);exact LeL.refl _;(repeat' (first | refine Fl.ldJ rfl rfl rfl rfl rfl rfl rfl rfl ?_ | refine Fl.v rfl rfl rfl ?_ | refine Fl.b rfl rfl rfl rfl ?_ | fail));refine ql eP [mkP 10 (varU 10 1), mkP 10 (conU 10 1)] ?_;(repeat' (first | refine Fl.ldJ rfl rfl rfl rfl rfl rfl rfl rfl ?_ | refine Fl.v rfl rfl rfl ?_ | refine Fl.b rfl rfl rfl rfl ?_ | fail));refine Fl.call rfl (show PureFn Tryz.prog _ _ (aP (mkP 10 pw5)) from kAdd_ok 10 (by omega) [varU 10 1, conU 10 1] (by simp) (by kernel_rfl)) rfl rfl rfl (LeL.refl _) ?_;(repeat' (first | refine Fl.ldJ rfl rfl rfl rfl rfl rfl rfl rfl ?_ | refine Fl.v rfl rfl rfl ?_ | refine Fl.b rfl rfl rfl rfl ?_ | fail));refine Fl.callM (f := 64) (us := [.int .i64 10]) rfl ?_ (kV_ok 10 4 (by omega) (by omega)) ?_ ?_ ?_ ?_ ?_ ?_
 iterate 4 exact rfl
 exact AV.Le.vagg (LeL.refl _);exact LeL.refl _;(repeat' (first | refine Fl.ldJ rfl rfl rfl rfl rfl rfl rfl rfl ?_ | refine Fl.v rfl rfl rfl ?_ | refine Fl.b rfl rfl rfl rfl ?_ | fail));refine ql eP [mkP 10 (varU 10 3), mkP 10 pw5, mkP 10 (varU 10 4)] ?_;(repeat' (first | refine Fl.ldJ rfl rfl rfl rfl rfl rfl rfl rfl ?_ | refine Fl.v rfl rfl rfl ?_ | refine Fl.b rfl rfl rfl rfl ?_ | fail));refine qc (kLink_ok 10 1 [varU 10 3, pw5, varU 10 4] (by omega) (by simp) (okLk_ok (by kernel_rfl))) ?_;(repeat' (first | refine Fl.ldJ rfl rfl rfl rfl rfl rfl rfl rfl ?_ | refine Fl.v rfl rfl rfl ?_ | refine Fl.b rfl rfl rfl rfl ?_ | fail));refine Fl.callM (f := 64) (us := [.int .i64 10]) rfl ?_ (kV_ok 10 5 (by omega) (by omega)) ?_ ?_ ?_ ?_ ?_ ?_
 iterate 4 exact rfl
 exact AV.Le.vagg (LeL.refl _);exact LeL.refl _;(repeat' (first | refine Fl.ldJ rfl rfl rfl rfl rfl rfl rfl rfl ?_ | refine Fl.v rfl rfl rfl ?_ | refine Fl.b rfl rfl rfl rfl ?_ | fail));refine Fl.callM (f := 64) (us := [.int .i64 10]) rfl ?_ (kV_ok 10 5 (by omega) (by omega)) ?_ ?_ ?_ ?_ ?_ ?_
 iterate 4 exact rfl
 exact AV.Le.vagg (LeL.refl _);exact LeL.refl _;(repeat' (first | refine Fl.ldJ rfl rfl rfl rfl rfl rfl rfl rfl ?_ | refine Fl.v rfl rfl rfl ?_ | refine Fl.b rfl rfl rfl rfl ?_ | fail));refine ql eP [mkP 10 (varU 10 5), mkP 10 (varU 10 5)] ?_;(repeat' (first | refine Fl.ldJ rfl rfl rfl rfl rfl rfl rfl rfl ?_ | refine Fl.v rfl rfl rfl ?_ | refine Fl.b rfl rfl rfl rfl ?_ | fail));refine Fl.call rfl (show PureFn Tryz.prog _ _ (aP (mkP 10 pw6)) from kMul_ok 10 (by omega) [varU 10 5, varU 10 5] (by simp) (by kernel_rfl)) rfl rfl rfl (LeL.refl _) ?_;(repeat' (first | refine Fl.ldJ rfl rfl rfl rfl rfl rfl rfl rfl ?_ | refine Fl.v rfl rfl rfl ?_ | refine Fl.b rfl rfl rfl rfl ?_ | fail));refine Fl.callM (f := 64) (us := [.int .i64 10]) rfl ?_ (kV_ok 10 3 (by omega) (by omega)) ?_ ?_ ?_ ?_ ?_ ?_
 iterate 4 exact rfl
 exact AV.Le.vagg (LeL.refl _);exact LeL.refl _;(repeat' (first | refine Fl.ldJ rfl rfl rfl rfl rfl rfl rfl rfl ?_ | refine Fl.v rfl rfl rfl ?_ | refine Fl.b rfl rfl rfl rfl ?_ | fail));refine Fl.callM (f := 64) (us := [.int .i64 10]) rfl ?_ (kV_ok 10 3 (by omega) (by omega)) ?_ ?_ ?_ ?_ ?_ ?_
 iterate 4 exact rfl
 exact AV.Le.vagg (LeL.refl _);exact LeL.refl _;(repeat' (first | refine Fl.ldJ rfl rfl rfl rfl rfl rfl rfl rfl ?_ | refine Fl.v rfl rfl rfl ?_ | refine Fl.b rfl rfl rfl rfl ?_ | fail));refine ql eP [mkP 10 (varU 10 3), mkP 10 (varU 10 3)] ?_;(repeat' (first | refine Fl.ldJ rfl rfl rfl rfl rfl rfl rfl rfl ?_ | refine Fl.v rfl rfl rfl ?_ | refine Fl.b rfl rfl rfl rfl ?_ | fail));refine Fl.call rfl (show PureFn Tryz.prog _ _ (aP (mkP 10 pw7)) from kMul_ok 10 (by omega) [varU 10 3, varU 10 3] (by simp) (by kernel_rfl)) rfl rfl rfl (LeL.refl _) ?_;(repeat' (first | refine Fl.ldJ rfl rfl rfl rfl rfl rfl rfl rfl ?_ | refine Fl.v rfl rfl rfl ?_ | refine Fl.b rfl rfl rfl rfl ?_ | fail));refine Fl.callM (f := 65) (us := [.int .i64 10]) rfl ?_ (kN_ok 10 1 (by omega) (by omega) (by omega)) ?_ ?_ ?_ ?_ ?_ ?_
 iterate 4 exact rfl
 exact AV.Le.vagg (LeL.refl _);exact LeL.refl _;(repeat' (first | refine Fl.ldJ rfl rfl rfl rfl rfl rfl rfl rfl ?_ | refine Fl.v rfl rfl rfl ?_ | refine Fl.b rfl rfl rfl rfl ?_ | fail));refine qc (kSub_ok 10 (by omega) pw7 (conU 10 1) pw8 (by kernel_rfl) (by kernel_rfl) (by kernel_rfl)) ?_;(repeat' (first | refine Fl.ldJ rfl rfl rfl rfl rfl rfl rfl rfl ?_ | refine Fl.v rfl rfl rfl ?_ | refine Fl.b rfl rfl rfl rfl ?_ | fail));refine Fl.callM (f := 64) (us := [.int .i64 10]) rfl ?_ (kV_ok 10 4 (by omega) (by omega)) ?_ ?_ ?_ ?_ ?_ ?_
 iterate 4 exact rfl
 exact AV.Le.vagg (LeL.refl _);exact LeL.refl _;(repeat' (first | refine Fl.ldJ rfl rfl rfl rfl rfl rfl rfl rfl ?_ | refine Fl.v rfl rfl rfl ?_ | refine Fl.b rfl rfl rfl rfl ?_ | fail));refine Fl.callM (f := 64) (us := [.int .i64 10]) rfl ?_ (kV_ok 10 4 (by omega) (by omega)) ?_ ?_ ?_ ?_ ?_ ?_
 iterate 4 exact rfl
 exact AV.Le.vagg (LeL.refl _);exact LeL.refl _;(repeat' (first | refine Fl.ldJ rfl rfl rfl rfl rfl rfl rfl rfl ?_ | refine Fl.v rfl rfl rfl ?_ | refine Fl.b rfl rfl rfl rfl ?_ | fail));refine ql eP [mkP 10 pw8, mkP 10 (varU 10 4), mkP 10 (varU 10 4)] ?_;(repeat' (first | refine Fl.ldJ rfl rfl rfl rfl rfl rfl rfl rfl ?_ | refine Fl.v rfl rfl rfl ?_ | refine Fl.b rfl rfl rfl rfl ?_ | fail));refine Fl.call rfl (show PureFn Tryz.prog _ _ (aP (mkP 10 pw9)) from kMul_ok 10 (by omega) [pw8, varU 10 4, varU 10 4] (by simp) (by kernel_rfl)) rfl rfl rfl (LeL.refl _) ?_;(repeat' (first | refine Fl.ldJ rfl rfl rfl rfl rfl rfl rfl rfl ?_ | refine Fl.v rfl rfl rfl ?_ | refine Fl.b rfl rfl rfl rfl ?_ | fail));refine Fl.callM (f := 65) (us := [.int .i64 10]) rfl ?_ (kN_ok 10 1 (by omega) (by omega) (by omega)) ?_ ?_ ?_ ?_ ?_ ?_
 iterate 4 exact rfl
 exact AV.Le.vagg (LeL.refl _);exact LeL.refl _;(repeat' (first | refine Fl.ldJ rfl rfl rfl rfl rfl rfl rfl rfl ?_ | refine Fl.v rfl rfl rfl ?_ | refine Fl.b rfl rfl rfl rfl ?_ | fail));refine ql eP [mkP 10 pw9, mkP 10 (conU 10 1)] ?_;(repeat' (first | refine Fl.ldJ rfl rfl rfl rfl rfl rfl rfl rfl ?_ | refine Fl.v rfl rfl rfl ?_ | refine Fl.b rfl rfl rfl rfl ?_ | fail));refine Fl.call rfl (show PureFn Tryz.prog _ _ (aP (mkP 10 pw10)) from kAdd_ok 10 (by omega) [pw9, conU 10 1] (by simp) (by kernel_rfl)) rfl rfl rfl (LeL.refl _) ?_;(repeat' (first | refine Fl.ldJ rfl rfl rfl rfl rfl rfl rfl rfl ?_ | refine Fl.v rfl rfl rfl ?_ | refine Fl.b rfl rfl rfl rfl ?_ | fail));refine Fl.call rfl (kEq_ok 10 (by omega) pw6 pw10 pw11 (by kernel_rfl) (by kernel_rfl) (by kernel_rfl) (okLk_ok (V := 10) (ls := [pw11]) (by kernel_rfl) _ (by simp))) rfl rfl rfl (LeL.refl _) ?_;(repeat' (first | refine Fl.ldJ rfl rfl rfl rfl rfl rfl rfl rfl ?_ | refine Fl.v rfl rfl rfl ?_ | refine Fl.b rfl rfl rfl rfl ?_ | fail));refine Fl.callM (f := 64) (us := [.int .i64 10]) rfl ?_ (kV_ok 10 6 (by omega) (by omega)) ?_ ?_ ?_ ?_ ?_ ?_
 iterate 4 exact rfl
 exact AV.Le.vagg (LeL.refl _);exact LeL.refl _;(repeat' (first | refine Fl.ldJ rfl rfl rfl rfl rfl rfl rfl rfl ?_ | refine Fl.v rfl rfl rfl ?_ | refine Fl.b rfl rfl rfl rfl ?_ | fail));refine Fl.callM (f := 65) (us := [.int .i64 10]) rfl ?_ (kN_ok 10 2 (by omega) (by omega) (by omega)) ?_ ?_ ?_ ?_ ?_ ?_
 iterate 4 exact rfl
 exact AV.Le.vagg (LeL.refl _);exact LeL.refl _;(repeat' (first | refine Fl.ldJ rfl rfl rfl rfl rfl rfl rfl rfl ?_ | refine Fl.v rfl rfl rfl ?_ | refine Fl.b rfl rfl rfl rfl ?_ | fail));refine Fl.callM (f := 64) (us := [.int .i64 10]) rfl ?_ (kV_ok 10 3 (by omega) (by omega)) ?_ ?_ ?_ ?_ ?_ ?_
 iterate 4 exact rfl
 exact AV.Le.vagg (LeL.refl _);exact LeL.refl _;(repeat' (first | refine Fl.ldJ rfl rfl rfl rfl rfl rfl rfl rfl ?_ | refine Fl.v rfl rfl rfl ?_ | refine Fl.b rfl rfl rfl rfl ?_ | fail));refine Fl.callM (f := 64) (us := [.int .i64 10]) rfl ?_ (kV_ok 10 0 (by omega) (by omega)) ?_ ?_ ?_ ?_ ?_ ?_
 iterate 4 exact rfl
 exact AV.Le.vagg (LeL.refl _);exact LeL.refl _;(repeat' (first | refine Fl.ldJ rfl rfl rfl rfl rfl rfl rfl rfl ?_ | refine Fl.v rfl rfl rfl ?_ | refine Fl.b rfl rfl rfl rfl ?_ | fail));refine ql eP [mkP 10 (conU 10 2), mkP 10 (varU 10 3), mkP 10 (varU 10 0)] ?_;(repeat' (first | refine Fl.ldJ rfl rfl rfl rfl rfl rfl rfl rfl ?_ | refine Fl.v rfl rfl rfl ?_ | refine Fl.b rfl rfl rfl rfl ?_ | fail));refine Fl.call rfl (show PureFn Tryz.prog _ _ (aP (mkP 10 pw12)) from kMul_ok 10 (by omega) [conU 10 2, varU 10 3, varU 10 0] (by simp) (by kernel_rfl)) rfl rfl rfl (LeL.refl _) ?_;(repeat' (first | refine Fl.ldJ rfl rfl rfl rfl rfl rfl rfl rfl ?_ | refine Fl.v rfl rfl rfl ?_ | refine Fl.b rfl rfl rfl rfl ?_ | fail));refine Fl.callM (f := 64) (us := [.int .i64 10]) rfl ?_ (kV_ok 10 0 (by omega) (by omega)) ?_ ?_ ?_ ?_ ?_ ?_
 iterate 4 exact rfl
 exact AV.Le.vagg (LeL.refl _);exact LeL.refl _;(repeat' (first | refine Fl.ldJ rfl rfl rfl rfl rfl rfl rfl rfl ?_ | refine Fl.v rfl rfl rfl ?_ | refine Fl.b rfl rfl rfl rfl ?_ | fail));refine Fl.callM (f := 64) (us := [.int .i64 10]) rfl ?_ (kV_ok 10 0 (by omega) (by omega)) ?_ ?_ ?_ ?_ ?_ ?_
 iterate 4 exact rfl
 exact AV.Le.vagg (LeL.refl _);exact LeL.refl _;(repeat' (first | refine Fl.ldJ rfl rfl rfl rfl rfl rfl rfl rfl ?_ | refine Fl.v rfl rfl rfl ?_ | refine Fl.b rfl rfl rfl rfl ?_ | fail));refine ql eP [mkP 10 (varU 10 0), mkP 10 (varU 10 0)] ?_;(repeat' (first | refine Fl.ldJ rfl rfl rfl rfl rfl rfl rfl rfl ?_ | refine Fl.v rfl rfl rfl ?_ | refine Fl.b rfl rfl rfl rfl ?_ | fail));refine Fl.call rfl (show PureFn Tryz.prog _ _ (aP (mkP 10 pw13)) from kMul_ok 10 (by omega) [varU 10 0, varU 10 0] (by simp) (by kernel_rfl)) rfl rfl rfl (LeL.refl _) ?_;(repeat' (first | refine Fl.ldJ rfl rfl rfl rfl rfl rfl rfl rfl ?_ | refine Fl.v rfl rfl rfl ?_ | refine Fl.b rfl rfl rfl rfl ?_ | fail));refine Fl.ioV rfl rfl [(900, 1)] (show IoFn Tryz.prog _ _ _ (.ret (aP (mkP 10 pw14))) _ from pwNeg_ok 10 (by omega) pw13 pw14 (by kernel_rfl) (by kernel_rfl) (by kernel_rfl)) rfl rfl (LeL.refl _) rfl ⟨⟨⟨_, rfl, BLe.cells (LeL.refl _)⟩, rfl⟩, trivial⟩ rfl rfl rfl rfl rfl ?_;(repeat' (first | refine Fl.ldJ rfl rfl rfl rfl rfl rfl rfl rfl ?_ | refine Fl.v rfl rfl rfl ?_ | refine Fl.b rfl rfl rfl rfl ?_ | fail));refine Fl.callM (f := 65) (us := [.int .i64 10]) rfl ?_ (kN_ok 10 (-1) (by omega) (by omega) (by omega)) ?_ ?_ ?_ ?_ ?_ ?_
 iterate 4 exact rfl
 exact AV.Le.vagg (LeL.refl _);exact LeL.refl _;(repeat' (first | refine Fl.ldJ rfl rfl rfl rfl rfl rfl rfl rfl ?_ | refine Fl.v rfl rfl rfl ?_ | refine Fl.b rfl rfl rfl rfl ?_ | fail));refine ql eP [mkP 10 pw12, mkP 10 pw14, mkP 10 (conU 10 (-1))] ?_;(repeat' (first | refine Fl.ldJ rfl rfl rfl rfl rfl rfl rfl rfl ?_ | refine Fl.v rfl rfl rfl ?_ | refine Fl.b rfl rfl rfl rfl ?_ | fail));refine Fl.call rfl (show PureFn Tryz.prog _ _ (aP (mkP 10 pw15)) from kAdd_ok 10 (by omega) [pw12, pw14, conU 10 (-1)] (by simp) (by kernel_rfl)) rfl rfl rfl (LeL.refl _) ?_;(repeat' (first | refine Fl.ldJ rfl rfl rfl rfl rfl rfl rfl rfl ?_ | refine Fl.v rfl rfl rfl ?_ | refine Fl.b rfl rfl rfl rfl ?_ | fail));refine Fl.call rfl (kEq_ok 10 (by omega) (varU 10 6) pw15 pw16 (by kernel_rfl) (by kernel_rfl) (by kernel_rfl) (okLk_ok (V := 10) (ls := [pw16]) (by kernel_rfl) _ (by simp))) rfl rfl rfl (LeL.refl _) ?_;(repeat' (first | refine Fl.ldJ rfl rfl rfl rfl rfl rfl rfl rfl ?_ | refine Fl.v rfl rfl rfl ?_ | refine Fl.b rfl rfl rfl rfl ?_ | fail));refine Fl.callM (f := 64) (us := [.int .i64 10]) rfl ?_ (kV_ok 10 5 (by omega) (by omega)) ?_ ?_ ?_ ?_ ?_ ?_
 iterate 4 exact rfl
 exact AV.Le.vagg (LeL.refl _);exact LeL.refl _;(repeat' (first | refine Fl.ldJ rfl rfl rfl rfl rfl rfl rfl rfl ?_ | refine Fl.v rfl rfl rfl ?_ | refine Fl.b rfl rfl rfl rfl ?_ | fail));refine Fl.callM (f := 64) (us := [.int .i64 10]) rfl ?_ (kV_ok 10 3 (by omega) (by omega)) ?_ ?_ ?_ ?_ ?_ ?_
 iterate 4 exact rfl
 exact AV.Le.vagg (LeL.refl _);exact LeL.refl _;(repeat' (first | refine Fl.ldJ rfl rfl rfl rfl rfl rfl rfl rfl ?_ | refine Fl.v rfl rfl rfl ?_ | refine Fl.b rfl rfl rfl rfl ?_ | fail));refine Fl.callM (f := 64) (us := [.int .i64 10]) rfl ?_ (kV_ok 10 0 (by omega) (by omega)) ?_ ?_ ?_ ?_ ?_ ?_
 iterate 4 exact rfl
 exact AV.Le.vagg (LeL.refl _);exact LeL.refl _;(repeat' (first | refine Fl.ldJ rfl rfl rfl rfl rfl rfl rfl rfl ?_ | refine Fl.v rfl rfl rfl ?_ | refine Fl.b rfl rfl rfl rfl ?_ | fail));refine qc (kSub_ok 10 (by omega) (varU 10 3) (varU 10 0) pw17 (by kernel_rfl) (by kernel_rfl) (by kernel_rfl)) ?_;(repeat' (first | refine Fl.ldJ rfl rfl rfl rfl rfl rfl rfl rfl ?_ | refine Fl.v rfl rfl rfl ?_ | refine Fl.b rfl rfl rfl rfl ?_ | fail));refine Fl.callM (f := 64) (us := [.int .i64 10]) rfl ?_ (kV_ok 10 4 (by omega) (by omega)) ?_ ?_ ?_ ?_ ?_ ?_
 iterate 4 exact rfl
 exact AV.Le.vagg (LeL.refl _);exact LeL.refl _;(repeat' (first | refine Fl.ldJ rfl rfl rfl rfl rfl rfl rfl rfl ?_ | refine Fl.v rfl rfl rfl ?_ | refine Fl.b rfl rfl rfl rfl ?_ | fail));refine ql eP [mkP 10 pw17, mkP 10 (varU 10 4)] ?_;(repeat' (first | refine Fl.ldJ rfl rfl rfl rfl rfl rfl rfl rfl ?_ | refine Fl.v rfl rfl rfl ?_ | refine Fl.b rfl rfl rfl rfl ?_ | fail));refine Fl.call rfl (show PureFn Tryz.prog _ _ (aP (mkP 10 pw18)) from kMul_ok 10 (by omega) [pw17, varU 10 4] (by simp) (by kernel_rfl)) rfl rfl rfl (LeL.refl _) ?_;(repeat' (first | refine Fl.ldJ rfl rfl rfl rfl rfl rfl rfl rfl ?_ | refine Fl.v rfl rfl rfl ?_ | refine Fl.b rfl rfl rfl rfl ?_ | fail));refine Fl.callM (f := 64) (us := [.int .i64 10]) rfl ?_ (kV_ok 10 6 (by omega) (by omega)) ?_ ?_ ?_ ?_ ?_ ?_
 iterate 4 exact rfl
 exact AV.Le.vagg (LeL.refl _);exact LeL.refl _;(repeat' (first | refine Fl.ldJ rfl rfl rfl rfl rfl rfl rfl rfl ?_ | refine Fl.v rfl rfl rfl ?_ | refine Fl.b rfl rfl rfl rfl ?_ | fail));refine Fl.callM (f := 64) (us := [.int .i64 10]) rfl ?_ (kV_ok 10 7 (by omega) (by omega)) ?_ ?_ ?_ ?_ ?_ ?_
 iterate 4 exact rfl
 exact AV.Le.vagg (LeL.refl _);exact LeL.refl _;(repeat' (first | refine Fl.ldJ rfl rfl rfl rfl rfl rfl rfl rfl ?_ | refine Fl.v rfl rfl rfl ?_ | refine Fl.b rfl rfl rfl rfl ?_ | fail));refine ql eP [mkP 10 (varU 10 6), mkP 10 (varU 10 7)] ?_;(repeat' (first | refine Fl.ldJ rfl rfl rfl rfl rfl rfl rfl rfl ?_ | refine Fl.v rfl rfl rfl ?_ | refine Fl.b rfl rfl rfl rfl ?_ | fail));refine Fl.call rfl (show PureFn Tryz.prog _ _ (aP (mkP 10 pw19)) from kMul_ok 10 (by omega) [varU 10 6, varU 10 7] (by simp) (by kernel_rfl)) rfl rfl rfl (LeL.refl _) ?_;(repeat' (first | refine Fl.ldJ rfl rfl rfl rfl rfl rfl rfl rfl ?_ | refine Fl.v rfl rfl rfl ?_ | refine Fl.b rfl rfl rfl rfl ?_ | fail));refine ql eP [mkP 10 pw18, mkP 10 pw0, mkP 10 pw19] ?_;(repeat' (first | refine Fl.ldJ rfl rfl rfl rfl rfl rfl rfl rfl ?_ | refine Fl.v rfl rfl rfl ?_ | refine Fl.b rfl rfl rfl rfl ?_ | fail));refine Fl.call rfl (show PureFn Tryz.prog _ _ (aP (mkP 10 pw20)) from kAdd_ok 10 (by omega) [pw18, pw0, pw19] (by simp) (by kernel_rfl)) rfl rfl rfl (LeL.refl _) ?_;(repeat' (first | refine Fl.ldJ rfl rfl rfl rfl rfl rfl rfl rfl ?_ | refine Fl.v rfl rfl rfl ?_ | refine Fl.b rfl rfl rfl rfl ?_ | fail));refine Fl.call rfl (kEq_ok 10 (by omega) (varU 10 5) pw20 pw21 (by kernel_rfl) (by kernel_rfl) (by kernel_rfl) (okLk_ok (V := 10) (ls := [pw21]) (by kernel_rfl) _ (by simp))) rfl rfl rfl (LeL.refl _) ?_;(repeat' (first | refine Fl.ldJ rfl rfl rfl rfl rfl rfl rfl rfl ?_ | refine Fl.v rfl rfl rfl ?_ | refine Fl.b rfl rfl rfl rfl ?_ | fail));refine Fl.callM (f := 64) (us := [.int .i64 10]) rfl ?_ (kV_ok 10 6 (by omega) (by omega)) ?_ ?_ ?_ ?_ ?_ ?_
 iterate 4 exact rfl
 exact AV.Le.vagg (LeL.refl _);exact LeL.refl _;(repeat' (first | refine Fl.ldJ rfl rfl rfl rfl rfl rfl rfl rfl ?_ | refine Fl.v rfl rfl rfl ?_ | refine Fl.b rfl rfl rfl rfl ?_ | fail));refine Fl.callM (f := 64) (us := [.int .i64 10]) rfl ?_ (kV_ok 10 8 (by omega) (by omega)) ?_ ?_ ?_ ?_ ?_ ?_
 iterate 4 exact rfl
 exact AV.Le.vagg (LeL.refl _);exact LeL.refl _;(repeat' (first | refine Fl.ldJ rfl rfl rfl rfl rfl rfl rfl rfl ?_ | refine Fl.v rfl rfl rfl ?_ | refine Fl.b rfl rfl rfl rfl ?_ | fail));refine Fl.callM (f := 65) (us := [.int .i64 10]) rfl ?_ (kN_ok 10 1 (by omega) (by omega) (by omega)) ?_ ?_ ?_ ?_ ?_ ?_
 iterate 4 exact rfl
 exact AV.Le.vagg (LeL.refl _);exact LeL.refl _;(repeat' (first | refine Fl.ldJ rfl rfl rfl rfl rfl rfl rfl rfl ?_ | refine Fl.v rfl rfl rfl ?_ | refine Fl.b rfl rfl rfl rfl ?_ | fail));refine ql eP [mkP 10 pw0, mkP 10 (varU 10 8), mkP 10 (conU 10 1)] ?_;(repeat' (first | refine Fl.ldJ rfl rfl rfl rfl rfl rfl rfl rfl ?_ | refine Fl.v rfl rfl rfl ?_ | refine Fl.b rfl rfl rfl rfl ?_ | fail));refine Fl.call rfl (show PureFn Tryz.prog _ _ (aP (mkP 10 pw22)) from kAdd_ok 10 (by omega) [pw0, varU 10 8, conU 10 1] (by simp) (by kernel_rfl)) rfl rfl rfl (LeL.refl _) ?_;(repeat' (first | refine Fl.ldJ rfl rfl rfl rfl rfl rfl rfl rfl ?_ | refine Fl.v rfl rfl rfl ?_ | refine Fl.b rfl rfl rfl rfl ?_ | fail));refine Fl.call rfl (kEq_ok 10 (by omega) (varU 10 6) pw22 pw23 (by kernel_rfl) (by kernel_rfl) (by kernel_rfl) (okLk_ok (V := 10) (ls := [pw23]) (by kernel_rfl) _ (by simp))) rfl rfl rfl (LeL.refl _) ?_;(repeat' (first | refine Fl.ldJ rfl rfl rfl rfl rfl rfl rfl rfl ?_ | refine Fl.v rfl rfl rfl ?_ | refine Fl.b rfl rfl rfl rfl ?_ | fail));refine ql eL [linkU 10 0 [pw2], linkU 10 1 [pw3, pw4, varU 10 3], linkU 10 1 [varU 10 3, pw5, varU 10 4], linkU 10 0 [pw11], linkU 10 0 [pw16], linkU 10 0 [pw21], linkU 10 0 [pw23]] ?_;(repeat' (first | refine Fl.ldJ rfl rfl rfl rfl rfl rfl rfl rfl ?_ | refine Fl.v rfl rfl rfl ?_ | refine Fl.b rfl rfl rfl rfl ?_ | fail));(repeat' (first |refine Fl.nil (fun _ => by kernel_rfl) ?_ |apply qt));exact RetOk.of rfl (AV.Le.refl _)
end Go.Proofs.YtcaecieigoplbaaGreat
/- lucas.Chi, where its result is a number. -/
namespace Go.AL
theorem psi_le_chi {a : Int} (ha : 2 ≤ a) (N : Nat) : psiN a (N + 1) ≤ chiN a (N + 1) := by
 obtain ⟨p1, p2, p3⟩ := cp_pos ha N;have h4 : 3 * psiN a N ≤ (a * a - 1) * psiN a N := Int.mul_le_mul_of_nonneg_right (by have := Int.mul_le_mul ha ha (by omega) (by omega); omega) p2;have h5 : 2 * chiN a N ≤ a * chiN a N := Int.mul_le_mul_of_nonneg_right ha (by omega);have h6 : (a - 2) * (psiN a N) ≤ (a - 2) * chiN a N := Int.mul_le_mul_of_nonneg_left p3 (by omega);have h7 : a * psiN a N ≤ a * (a * psiN a N) := Int.mul_le_mul_of_nonneg_left (by have := Int.mul_le_mul_of_nonneg_right (show 1 ≤ a by omega) p2; omega) (by omega);rw [psi_succ, chi_succ]
 have e1 : (a - 2) * (psiN a N) = a * psiN a N - 2 * psiN a N := by grind
 have e2 : (a - 2) * (chiN a N) = a * chiN a N - 2 * chiN a N := by grind
 have e3 : (a * a - 1) * psiN a N = a * (a * psiN a N) - psiN a N := by grind
 omega
theorem chi_res {a : Int} {N : Nat} (ha : 2 ≤ a) (hf : Fit a) (hN : N < 2 ^ 63) (hc : Fit (chiN a (N + 1))) {r : Int × Int} (hr : r = chF a (atL a N 63 (1, 0, 0)).2.2 (atL a N 63 (1, 0, 0)).1 (atL a N 63 (1, 0, 0)).2.1) : r = (chiN a (N + 1), 0) := by
 have h := atL_ok ha hf (N := N) 63 (1, 0, 0) (.inl (by rw [Nat.div_eq_of_lt hN, chi_zero, psi_zero]));obtain ⟨p1, p2, p3⟩ := cp_pos ha N;have hF : FN a N := fit_of hc (cp_pos ha (N + 1)).2.1 (psi_le_chi ha N);rcases h with h | ⟨_, h2⟩
 ·rw [h] at hr;simp only [Nat.pow_zero, Nat.div_one] at hr;have e1 : 0 ≤ a * psiN a N := Int.mul_nonneg (by omega) p2;have e2 : 0 ≤ a * (a * psiN a N) := Int.mul_nonneg (by omega) e1;have e3 : 0 ≤ a * chiN a N := Int.mul_nonneg (by omega) (by omega);have e4 : 2 * (a * psiN a N) ≤ a * (a * psiN a N) := Int.mul_le_mul_of_nonneg_right ha e1;have e5 : 2 * psiN a N ≤ a * psiN a N := Int.mul_le_mul_of_nonneg_right ha p2;have e6 : 2 * chiN a N ≤ a * chiN a N := Int.mul_le_mul_of_nonneg_right ha (by omega)
  have hs : a * chiN a N + (a * (a * psiN a N) - psiN a N) = chiN a (N + 1) := by rw [chi_succ]; grind
  rcases chF_ok (F := True) (a := a) (c := chiN a N) (p := psiN a N) hf (fun _ => fit_of hc e1 (by omega)) (fun _ => fit_of hc e2 (by omega)) (fun _ => fit_of hc (by omega) (by omega)) (fun _ => fit_of hc e3 (by omega)) (fun _ => by rw [hs]; exact hc) with ⟨k1, _⟩ | ⟨_, n1⟩
  ·rw [hr, k1, hs]
  ·exact absurd trivial n1
 ·exact absurd hF h2
end Go.AL
namespace Go.Proofs.YtcaecieigoplbaaGreat
open Go.AL
theorem elementC_ok (a n : Int) (ha : Fit a) (h2 : 2 ≤ a) (h0 : 1 ≤ n) (h1 : n ≤ 131072) (hc : Fit (chiN a n.toNat)) : PureFn Tryz.prog 163 [aX a, aN n, aN 1, .fn 165 []] (.tup [aX (chiN a n.toNat), aN 0]) := by
 refine PureFn.of_body Tryz.func163 rfl Tryz.ntmps163 rfl rfl ?_;(repeat' (first |refine qv ?_ |apply qn |apply qs |apply qr |refine qe ?_|fail));refine qc (fits_ok a ha h2) ?_;(repeat' (first |refine qv ?_ |apply qn |apply qs |apply qr |refine AWP.condF rfl ?_ |(refine AWP.condD rfl ?_ ?_ <;> intro _ <;> try (exfalso; omega)) |apply qb |apply qk));refine Fl.io rfl [(900, 33)] (walk_ok a) rfl rfl (LeL.refl _) rfl trivial rfl rfl rfl rfl rfl ?_;(repeat' (first |refine qv ?_ |apply qn |apply qs |apply qr |refine qw ?_|fail));refine qi [(900, 33)] (at_ok a (n - 1) ha (by omega) (by omega)) ?_;skip
 have hN : (((n - 1).toNat : Nat) : Int) = n - 1 := by omega
 have hfc : Fit (atL a (n - 1) 63 (1, 0, 0)).1 ∧ Fit (atL a (n - 1) 63 (1, 0, 0)).2.1 := atL_fit a (n - 1) 63 _ fit_one Fit.zero;refine Fl.ioV rfl rfl [(900, 33)] (chiS_ok a _ _ _ ha hfc.1 hfc.2) rfl rfl (LeL.refl _) rfl ⟨⟨⟨_, rfl, BLe.cells (LeL.refl _)⟩, rfl⟩, trivial⟩ rfl rfl rfl rfl rfl ?_;(repeat' (first |refine qv ?_ |apply qn |refine Fl.nil (fun _ => by kernel_rfl) ?_ |apply qs |apply qr |refine qe ?_ |apply qt));have hr := chi_res (a := a) (N := (n - 1).toNat) h2 ha (by omega) (by rw [show (n - 1).toNat + 1 = n.toNat by omega]; exact hc) rfl;rw [hN, show (n - 1).toNat + 1 = n.toNat by omega] at hr;refine RetOk.of rfl (AV.Le.tup (LeL.cons (AV.Le.agg ?_) (LeL.cons (AV.Le.int (by rw [hr])) LeL.nil)));exact leX (σ := []) (by rw [hr])
theorem Chi_ok (a n : Int) (ha : Fit a) (h2 : 2 ≤ a) (h0 : 1 ≤ n) (h1 : n ≤ 131072) (hc : Fit (chiN a n.toNat)) : PureFn Tryz.prog 100 [aX a, aN n] (.tup [aX (chiN a n.toNat), aN 0]) := by
 refine PureFn.of_body Tryz.func100 rfl Tryz.ntmps100 rfl rfl ?_;(repeat' (first |refine qv ?_ |apply qn |apply qs |apply qr |refine qe ?_|fail));refine qc (elementC_ok a n ha h2 h0 h1 hc) ?_;(repeat' (first |refine qv ?_ |apply qn |refine qe ?_ |apply qt));exact RetOk.of rfl (AV.Le.refl _)
end Go.Proofs.YtcaecieigoplbaaGreat
/- Powers by psi: plain. -/
namespace Go.AL
theorem chips_pos {a : Int} (ha : 1 ≤ a) : ∀ n : Nat, 1 ≤ chiN a n ∧ 0 ≤ psiN a n ∧ a ^ n ≤ chiN a n
 | 0 => by simp [chi_zero, psi_zero]
 | n + 1 => by
  obtain ⟨h1, h2, h3⟩ := chips_pos ha n;have h4 : 0 ≤ (a * a - 1) * psiN a n := Int.mul_nonneg (by have := Int.mul_le_mul ha ha (by omega) (by omega); omega) h2;have h5 : 0 ≤ a * psiN a n := Int.mul_nonneg (by omega) h2;have h6 : a * a ^ n ≤ a * chiN a n := Int.mul_le_mul_of_nonneg_left h3 (by omega);have h7 : 1 * chiN a n ≤ a * chiN a n := Int.mul_le_mul_of_nonneg_right ha (by omega);rw [chi_succ, psi_succ, Int.pow_succ, Int.mul_comm (a ^ n) a];refine ⟨by omega, by omega, by omega⟩
theorem psi_ge {a : Int} (ha : 1 ≤ a) (n : Nat) : a ^ n ≤ psiN a (n + 1) := by
 obtain ⟨h1, h2, h3⟩ := chips_pos ha n;have h5 : 0 ≤ a * psiN a n := Int.mul_nonneg (by omega) h2;rw [psi_succ]; omega
theorem pow_cong {a b : Int} (ha : 1 ≤ a) (hb : 0 ≤ b) : ∀ n : Nat, ∃ k, 0 ≤ k ∧ chiN a n - (a - b) * psiN a n = b ^ n + (2 * a * b - b * b - 1) * k
 | 0 => ⟨0, by omega, by simp [chi_zero, psi_zero]⟩
 | n + 1 => by
  obtain ⟨k, hk, h⟩ := pow_cong ha hb n;obtain ⟨_, h2, _⟩ := chips_pos ha n;refine ⟨b * k + psiN a n, by have := Int.mul_nonneg hb hk; omega, ?_⟩;rw [chi_succ, psi_succ, Int.pow_succ]
  have e : chiN a n = b ^ n + (2 * a * b - b * b - 1) * k + (a - b) * psiN a n := by omega
  rw [e];grind
theorem power_only {b e c A Y X M z y : Int} (hb : 1 ≤ b) (he : 0 ≤ e) (hc : 0 ≤ c) (hz : 0 ≤ z) (hy : 0 ≤ y) (hX0 : 0 ≤ X) (hA : A = psiN (b + 2) (e.toNat + 2)) (hY : Y = psiN A (e.toNat + 1)) (hX : X * X = (A * A - 1) * (Y * Y) + 1) (hM : M = 2 * A * b - b * b - 1) (h1 : X = (A - b) * Y + c * b + M * z) (h2 : M = c * b + y + 1) :
  c = b ^ e.toNat ∧ X = chiN A (e.toNat + 1) := by
 generalize e.toNat = n at *
 have hA1 : (b + 2) ^ (n + 1) ≤ A := by rw [hA]; exact psi_ge (by omega) (n + 1)
 have hp0 : 1 ≤ (b + 2) ^ n := Int.pow_pos (by omega)
 have hA2 : b + 2 ≤ A := by
  have : 1 * (b + 2) ≤ (b + 2) ^ n * (b + 2) := Int.mul_le_mul_of_nonneg_right hp0 (by omega);rw [Int.pow_succ] at hA1; omega
 obtain ⟨q1, q2, q3⟩ := chips_pos (a := A) (by omega) (n + 1)
 have hXc : X = chiN A (n + 1) := by
  have hp := pell A (n + 1);rw [← hY] at hp
  have e : X * X = chiN A (n + 1) * chiN A (n + 1) := by omega
  rcases Int.lt_trichotomy X (chiN A (n + 1)) with h | h | h
  ·have := Int.mul_lt_mul' (show X ≤ chiN A (n + 1) by omega) h hX0 (by omega); omega
  ·exact h
  ·have := Int.mul_lt_mul' (show chiN A (n + 1) ≤ X by omega) h (by omega) (by omega); omega
 refine ⟨?_, hXc⟩;obtain ⟨k, hk, hc2⟩ := pow_cong (a := A) (b := b) (by omega) (by omega) (n + 1);rw [← hXc, ← hY, ← hM] at hc2
 have hpw : b ^ (n + 1) < M := by
  have g1 : b ^ (n + 1) ≤ (b + 2) ^ (n + 1) := by
   have : ∀ m : Nat, b ^ m ≤ (b + 2) ^ m ∧ 0 ≤ b ^ m := by
    intro m
    induction m with
    | zero => simp
    | succ m ih =>
     rw [Int.pow_succ, Int.pow_succ];exact ⟨Int.mul_le_mul ih.1 (by omega) (by omega) (by omega), Int.mul_nonneg ih.2 (by omega)⟩
   exact (this (n + 1)).1
  have g2 : A * 1 ≤ A * b := Int.mul_le_mul_of_nonneg_left hb (by omega);have g3 : (b + 2) * b ≤ A * b := Int.mul_le_mul_of_nonneg_right hA2 (by omega)
  have g4 : 2 * A * b = A * b + A * b := by grind
  have g5 : (b + 2) * b = b * b + 2 * b := by grind
  omega
 have hpn : 0 ≤ b ^ (n + 1) := Int.le_of_lt (Int.pow_pos (by omega));have hcb : 0 ≤ c * b := Int.mul_nonneg hc (by omega)
 have e1 : c * b + M * z = b ^ (n + 1) + M * k := by omega
 have e2 : c * b = b ^ (n + 1) := by
  have hMp : 0 < M := by omega
  have m1 : (c * b + M * z) % M = c * b := by rw [Int.add_mul_emod_self_left]; exact Int.emod_eq_of_lt hcb (by omega)
  have m2 : (b ^ (n + 1) + M * k) % M = b ^ (n + 1) := by rw [Int.add_mul_emod_self_left]; exact Int.emod_eq_of_lt hpn hpw
  rw [← m1, e1, m2]
 rw [Int.pow_succ] at e2;exact Int.eq_of_mul_eq_mul_right (by omega) e2
end Go.AL
/- The values of built links. -/
namespace Go.AL
theorem pick_prod (P : Nat → Bool) (Y E : List Int) : ∀ (n k : Nat), (∀ i, k ≤ i → i < k + n → P i = false → E.getD i 0 = 0) →
  prodE (((List.range' k n).filter P).map fun i => Y.getD i 0) (((List.range' k n).filter P).map fun i => E.getD i 0) = prodE ((List.range' k n).map fun i => Y.getD i 0) ((List.range' k n).map fun i => E.getD i 0)
 | 0, k, _ => rfl
 | n + 1, k, h => by
  have ih := pick_prod P Y E n (k + 1) fun i h1 h2 h3 => h i (by omega) (by omega) h3;rw [List.range'_succ, List.filter_cons];by_cases hp : P k = true
  ·rw [if_pos hp];simp only [List.map_cons, prodE, ih]
  ·rw [if_neg hp, ih];have h0 := h k (Nat.le_refl _) (by omega) (by simpa using hp);simp only [List.map_cons, prodE, h0];simp
theorem map_range_getD {V : Nat} {X : List Int} (h : X.length = V) : ((List.range V).map fun i => X.getD i 0) = X := by
 subst h;refine List.ext_getElem (by simp) fun i h1 h2 => ?_;simp [List.getD_eq_getElem?_getD, List.getElem?_eq_getElem h2]
def auv (X : List Int) (p : List UT) : Int := sumL (p.map fun u => ((u.1 * prodE X u.2).natAbs : Int))
theorem pick_term {V : Nat} {X : List Int} (hX : X.length = V) {ls : List (List UT)} {p : List UT} (hp : p ∈ ls) {u : UT} (hu : u ∈ p) (hl : u.2.length = V) (he : EOk u.2) :
  prodE (atOf X ((occL V ls).map fun (i : Nat) => (i : Int))) (pickE (occL V ls) u.2) = prodE X u.2 := by
 have e1 : atOf X ((occL V ls).map fun (i : Nat) => (i : Int)) = (occL V ls).map fun i => X.getD i 0 := by
  unfold atOf;rw [List.map_map];rfl
 have h := pick_prod (occP ls) X u.2 V 0 fun i _ h2 h3 => by
  have hb : i < u.2.length := by omega
  have hn : ¬ 0 < u.2.getD i 0 := fun hc => by
   have : occP ls i = true := List.any_eq_true.2 ⟨p, hp, List.any_eq_true.2 ⟨u, hu, by simpa using hc⟩⟩;rw [this] at h3; cases h3
  have hge : 0 ≤ u.2.getD i 0 := by
   rw [List.getD_eq_getElem?_getD, List.getElem?_eq_getElem hb];exact (he _ (List.getElem_mem hb)).1
  omega
 rw [← List.range_eq_range'] at h;rw [e1];unfold pickE occL;rw [show (List.filter (fun i => ls.any fun p => p.any fun u => decide (0 < u.2.getD i 0)) (List.range V)) = (List.range V).filter (occP ls) from rfl, h, map_range_getD hX, map_range_getD hl]
theorem tv_tz (X : List Int) (u : UT) : tv X (tz u) = u.1 * prodE X u.2 := by
 show zval (zOf u.1) * prodE X u.2 = _;rw [zval_zOf]
def nnU (V : Nat) (p : List UT) : Prop := ∀ u ∈ p, u.2.length = V ∧ EOk u.2
theorem pick_val {V n : Nat} {X : List Int} (hX : X.length = V) {ls : List (List UT)} {p : List UT} (hp : p ∈ ls) (hl : nnU V p) :
  pv (atOf X ((occL V ls).map fun (i : Nat) => (i : Int))) (mkP n (pickU (occL V ls) p)) = uv X p := by
 rw [pv_sum];unfold mkP pickU uv;simp only [List.map_map];congr 1;refine List.map_congr_left fun u hu => ?_;show tv _ (tz (u.1, pickE (occL V ls) u.2)) = _;rw [tv_tz, pick_term hX hp hu (hl u hu).1 (hl u hu).2]
theorem pick_abs {V n : Nat} {X : List Int} (hX : X.length = V) {ls : List (List UT)} {p : List UT} (hp : p ∈ ls) (hl : nnU V p) :
  AS (atOf X ((occL V ls).map fun (i : Nat) => (i : Int))) (mkP n (pickU (occL V ls) p)).terms = auv X p := by
 unfold mkP pickU AS auv;simp only [List.map_map];congr 1;refine List.map_congr_left fun u hu => ?_;show ((tv _ (tz (u.1, pickE (occL V ls) u.2))).natAbs : Int) = _;rw [tv_tz, pick_term hX hp hu (hl u hu).1 (hl u hu).2]
theorem lvals_linkU {V : Nat} {X : List Int} (hX : X.length = V) {kind : Int} {ls : List (List UT)} (h : ∀ p ∈ ls, nnU V p) : lvals X (linkU V kind ls) = ls.map (uv X) := by
 unfold lvals linkU;simp only [List.map_map];exact List.map_congr_left fun p hp => pick_val hX hp (h p hp)
theorem plop_abs (v : Int) : 0 ≤ plI v ∧ plI v ≤ v.natAbs ∧ opI v ≤ 0 ∧ -(v.natAbs : Int) ≤ opI v := by
 unfold plI opI;split <;> omega
theorem PS_ASm (X : List Int) : ∀ l : List TZ, 0 ≤ PS X l ∧ PS X l ≤ AS X l ∧ OS X l ≤ 0 ∧ -AS X l ≤ OS X l
 | [] => by simp [PS, OS, AS, sumL]
 | t :: l => by
  have h1 := PS_ASm X l;have h2 := plop_abs (tv X t);simp only [PS, AS, OS, List.map_cons, sumL] at h1 ⊢;omega
theorem EvOk.ofA {X : List Int} {p : PZ} (h : Fit (AS X p.terms)) : EvOk X p := by
 have h1 := PS_ASm X p.terms;exact ⟨h.le (by omega), h.le (by omega)⟩
theorem evL_linkU {V : Nat} {X : List Int} (hX : X.length = V) {kind : Int} {ls : List (List UT)} (h : ∀ p ∈ ls, nnU V p) (hf : ∀ p ∈ ls, Fit (auv X p)) : EvL X (linkU V kind ls) := by
 intro q hq;obtain ⟨p, hp, rfl⟩ := List.mem_map.1 hq;refine EvOk.ofA ?_;show Fit (AS (atOf X ((occL V ls).map fun (i : Nat) => (i : Int))) (mkP (occL V ls).length (pickU (occL V ls) p)).terms);rw [pick_abs hX hp (h p hp)];exact hf p hp
def okLU (V : Nat) (kind : Int) (ls : List (List UT)) : Bool :=
  decide (needI kind ≠ 0) && decide ((ls.length : Int) = needI kind) && ls.all (fun p => chkU (occL V ls).length (pickU (occL V ls) p) (pickU (occL V ls) p) && p.all (okU V))
theorem incB_range (P : Nat → Bool) : ∀ (n k : Nat) (last top : Int), last < k → ((k + n : Nat) : Int) ≤ top → incB last top (((List.range' k n).filter P).map fun (i : Nat) => (i : Int))
 | 0, _, _, _, _, _ => by simp [incB]
 | n + 1, k, last, top, h1, h2 => by
  rw [List.range'_succ, List.filter_cons];by_cases hp : P k = true
  ·rw [if_pos hp];simp only [List.map_cons, incB];exact ⟨h1, by omega, incB_range P n (k + 1) k top (by omega) (by omega)⟩
  ·rw [if_neg hp];exact incB_range P n (k + 1) last top (by omega) (by omega)
theorem okLU_ok {V : Nat} (hV : V ≤ 32) {kind : Int} {ls : List (List UT)} (h : okLU V kind ls = true) : OkL V (linkU V kind ls) ∧ WL (linkU V kind ls) ∧ ∀ p ∈ ls, nnU V p := by
 simp only [okLU, Bool.and_eq_true, decide_eq_true_eq, List.all_eq_true] at h;obtain ⟨⟨h1, h2⟩, h3⟩ := h
 have hn : (occL V ls).length ≤ V := by
  unfold occL;exact Nat.le_trans (List.length_filter_le _ _) (by simp)
 refine ⟨⟨h1, by simp only [linkU, List.length_map]; exact h2, by simp only [linkU, List.length_map]; omega, ?_, fun q hq => ?_⟩, fun q hq => ?_, fun p hp u hu => okU_ok ((h3 p hp).2 u hu)⟩
 ·have := incB_range (occP ls) V 0 (-1) V (by omega) (by omega);rw [← List.range_eq_range'] at this;exact this
 ·obtain ⟨p, hp, rfl⟩ := List.mem_map.1 hq;obtain ⟨a, b, c⟩ := mk_ok (V := (occL V ls).length) (by omega) (h3 p hp).1;exact ⟨by simp [linkU, mkP], a⟩
 ·obtain ⟨p, hp, rfl⟩ := List.mem_map.1 hq;exact (mk_ok (V := (occL V ls).length) (by omega) (h3 p hp).1).2.2
end Go.AL
/- The values of built polynomials; bounds. -/
namespace Go.AL
theorem prodE_zeros : ∀ (X : List Int) (n : Nat), prodE X (List.replicate n 0) = 1
 | [], 0 => rfl
 | [], _ + 1 => rfl
 | _ :: _, 0 => rfl
 | x :: X, n + 1 => by rw [List.replicate_succ, prodE, prodE_zeros X n]; simp
theorem prodE_unit : ∀ (X : List Int) (i : Nat), i < X.length → prodE X (unU X.length i) = X.getD i 0
 | [], i, h => by simp at h
 | x :: X, 0, _ => by
  unfold unU;rw [List.length_cons, List.replicate_succ, List.set_cons_zero, prodE, prodE_zeros];simp [Int.pow_succ]
 | x :: X, i + 1, h => by
  have ih := prodE_unit X i (by simpa using h);unfold unU at ih ⊢;rw [List.length_cons, List.replicate_succ, List.set_cons_succ, prodE, ih];simp
theorem uv_con (X : List Int) (V : Nat) (c : Int) : uv X (conU V c) = c := by
 unfold conU uv;split
 ·rename_i h; rw [h]; rfl
 ·simp [sumL, prodE_zeros]
theorem uv_var {X : List Int} {V i : Nat} (hX : X.length = V) (hi : i < V) : uv X (varU V i) = X.getD i 0 := by
 subst hX;unfold varU uv;simp only [List.map_cons, List.map_nil, sumL, prodE_unit X i hi];omega
theorem pv_mkP (X : List Int) (V : Nat) (p : List UT) : pv X (mkP V p) = uv X p := by
 rw [pv_sum];unfold mkP uv;simp only [List.map_map];congr 1;exact List.map_congr_left fun u _ => tv_tz X u
theorem chkU_UOk {V : Nat} {us l : List UT} (h : chkU V us l = true) : UOk V us := by
 simp only [chkU, Bool.and_eq_true, List.all_eq_true] at h;exact fun u hu => okU_ok (h.1.1.1.1.1.1.1 u hu)
theorem uv_chk {V : Nat} (hV : V ≤ 32) {us l : List UT} (h : chkU V us l = true) (X : List Int) : uv X l = uv X us := by
 have := (chkU_ok hV h).val hV (chkU_UOk h) X;rwa [pv_mkP] at this
theorem uv_scale (X : List Int) (b : Int) (q : List UT) : uv X (q.map fun u => (u.1 * b, u.2)) = uv X q * b := by
 unfold uv
 induction q with
 | nil => simp [sumL]
 | cons u q ih =>
  simp only [List.map_cons, sumL] at ih ⊢;rw [ih]; grind
theorem uv_addUs (X : List Int) (b : Int) (p q : List UT) : uv X (addUs b p q) = uv X p + uv X q * b := by
 unfold addUs;rw [uv_append, uv_scale]
theorem uv_mulUs {V : Nat} (X : List Int) {p q : List UT} (hp : nnU V p) (hq : nnU V q) : uv X (mulUs p q) = uv X p * uv X q := by
 unfold mulUs
 induction p with
 | nil => simp [uv, sumL]
 | cons t p ih =>
  rw [List.flatMap_cons, uv_append, ih fun u hu => hp u (by simp [hu])];have ht := hp t (by simp)
  have h1 : uv X (q.map fun u => (t.1 * u.1, addE t.2 u.2)) = t.1 * prodE X t.2 * uv X q := by
   clear ih;unfold uv
   induction q with
   | nil => simp [sumL]
   | cons u q ih2 =>
    have hu := hq u (by simp);simp only [List.map_cons, sumL];rw [ih2 fun v hv => hq v (by simp [hv]), prodE_add ht.2 hu.2 (by rw [ht.1, hu.1])];grind
  rw [h1];show _ = (t.1 * prodE X t.2 + uv X p) * uv X q;grind
theorem chk_nn {V : Nat} {p : List UT} (h : chkU V p p = true) : nnU V p := chkU_UOk h
theorem uv_sums {V : Nat} (hV : V ≤ 32) (X : List Int) : ∀ (ls : List (List UT)) (acc : List UT), okSums V acc ls = true → uv X (sumsU acc ls) = uv X acc + sumL (ls.map (uv X))
 | [], acc, _ => by simp [sumsU, sumL]
 | p :: ls, acc, h => by
  obtain ⟨c1, c2, c3, c4⟩ := okSums_cons h;show uv X (sumsU (addL acc p) ls) = _;rw [uv_sums hV X ls _ c4, uv_chk hV c3, uv_addUs];simp only [List.map_cons, sumL];omega
def prodL : List Int → Int
  | [] => 1
  | x :: l => x * prodL l
theorem uv_muls {V : Nat} (hV : V ≤ 32) (X : List Int) : ∀ (ls : List (List UT)) (acc : List UT), okMuls V acc ls = true → uv X (mulsU acc ls) = uv X acc * prodL (ls.map (uv X))
 | [], acc, _ => by simp [mulsU, prodL]
 | p :: ls, acc, h => by
  obtain ⟨c1, c2, c3, c4, c5⟩ := okMuls_cons h;show uv X (mulsU (mulL2 acc p) ls) = _;rw [uv_muls hV X ls _ c5, uv_chk hV c4, uv_mulUs X (chk_nn c1) (chk_nn c2)];simp only [List.map_cons, prodL];rw [Int.mul_assoc]
theorem uv_sub {V : Nat} (hV : V ≤ 32) (X : List Int) {p q : List UT} (h : chkU V (addUs (-1) p q) (subL p q) = true) : uv X (subL p q) = uv X p - uv X q := by
 rw [uv_chk hV h, uv_addUs]; omega
theorem prodE_bound {m : Nat} : ∀ {X E : List Int}, (∀ x ∈ X, x.natAbs ≤ 2 ^ m) → EOk E → (prodE X E).natAbs ≤ (2 ^ m) ^ (sumL E).toNat
 | [], E, _, _ => by
  show 1 ≤ (2 ^ m) ^ (sumL E).toNat;exact Nat.pow_pos (Nat.two_pow_pos m)
 | _ :: _, [], _, _ => by simp [prodE, sumL]
 | x :: X, e :: E, hx, he => by
  have ih := prodE_bound (X := X) (E := E) (fun y hy => hx y (by simp [hy])) fun y hy => he y (by simp [hy]);have h0 := (he e (by simp)).1
  have hs : 0 ≤ sumL E := by
   have := sumL_bound (l := E) fun y hy => he y (by simp [hy]);omega
  simp only [prodE, sumL];rw [Int.natAbs_mul, show (e + sumL E).toNat = e.toNat + (sumL E).toNat by omega, Nat.pow_add, Int.natAbs_pow];exact Nat.mul_le_mul (Nat.pow_le_pow_left (hx x (by simp)) _) ih
theorem auv_bound {m d : Nat} {X : List Int} (hX : ∀ x ∈ X, x.natAbs ≤ 2 ^ m) : ∀ {p : List UT}, (∀ u ∈ p, EOk u.2) → (∀ u ∈ p, sumL u.2 ≤ d) → 0 ≤ auv X p ∧ auv X p ≤ ((absU p * (2 ^ m) ^ d : Nat) : Int)
 | [], _, _ => by
  refine ⟨by simp [auv, sumL], ?_⟩;show (0 : Int) ≤ _;omega
 | u :: p, h1, h2 => by
  have ih := auv_bound (p := p) hX (fun v hv => h1 v (by simp [hv])) fun v hv => h2 v (by simp [hv]);have hb := prodE_bound hX (h1 u (by simp));have hd := h2 u (by simp);have hle : (2 ^ m) ^ (sumL u.2).toNat ≤ (2 ^ m) ^ d := Nat.pow_le_pow_right (Nat.two_pow_pos m) (by omega)
  have hu : (u.1 * prodE X u.2).natAbs ≤ u.1.natAbs * (2 ^ m) ^ d := by
   rw [Int.natAbs_mul];exact Nat.mul_le_mul (Nat.le_refl _) (Nat.le_trans hb hle)
  unfold auv at ih ⊢;simp only [List.map_cons, sumL, absU];rw [Nat.add_mul]
  generalize u.1.natAbs * (2 ^ m) ^ d = A at *
  generalize absU p * (2 ^ m) ^ d = B at *
  omega
def okB (d c : Nat) (p : List UT) : Bool := p.all (fun u => decide (sumL u.2 ≤ d)) && Nat.ble (absU p) (2 ^ c)
theorem auv_fit {V m d c : Nat} {X : List Int} (hX : ∀ x ∈ X, x.natAbs ≤ 2 ^ m) {p : List UT} (hn : nnU V p) (h : okB d c p = true) (hm : c + m * d < 131072) : Fit (auv X p) := by
 simp only [okB, Bool.and_eq_true, List.all_eq_true, decide_eq_true_eq] at h;have h2 : absU p ≤ 2 ^ c := Nat.le_of_ble_eq_true h.2;obtain ⟨b0, b1⟩ := auv_bound (d := d) hX (fun u hu => (hn u hu).2) h.1;have h3 : absU p * (2 ^ m) ^ d ≤ 2 ^ c * (2 ^ m) ^ d := Nat.mul_le_mul h2 (Nat.le_refl _);rw [← Nat.pow_mul, ← Nat.pow_add] at h3;obtain ⟨N, hN⟩ : ∃ N : Nat, N = 131072 := ⟨_, rfl⟩;have h4 : 2 ^ (c + m * d) < 2 ^ N := Nat.pow_lt_pow_right (by omega) (by omega);refine Fit.mk ?_;rw [BB_pow, show 32 * 4096 = N by omega];rw [show (((auv X p).natAbs : Nat) : Int) = auv X p by omega]
 have h5 : ((absU p * (2 ^ m) ^ d : Nat) : Int) < ((2 ^ N : Nat) : Int) := by
  rw [← Nat.pow_mul];exact Int.ofNat_lt.2 (Nat.lt_of_le_of_lt h3 h4)
 rw [Int.natCast_pow] at h5;exact Int.lt_of_le_of_lt b1 h5
end Go.AL
/- mask.Witness. -/
namespace Go.AL
section
variable {P : Program} {tab : Tab} {n : Nat} {s : St}
variable {ops : Array Oper} {draw : Dr} {o : Oper} {l : List Oper} {acc : List Eff} {K : Exit → St → Prop}
theorem Fl.rldK [f : Facts P tab] {t : TypeId} {x : Operand} (hop : o.op = .load t x) {b : Id} {off : Nat} (hx : opd s x = .rptr b off) {α : Type} {sz : Nat} {enc : α → List AV} {xs : List α} {bt : TypeId} (hb : s.bx b = some (.row sz enc xs bt)) {i : TI} (hti : tab t = some i) (hg : gOk ops s o = true) (hd : dOk n o.dst = true)
  {j : Nat} (hj : off = j * sz) {v : α → AV} (hv : ∀ x0, ofCells (aggD i.desc) i.size (enc x0) = some (v x0)) (hvc : ∀ x0, (v x0).closed = true) {x0 : α} (he : xs[j]? = some x0)
  (r : Fl P n ops draw l ((Eff.mk (v x0) [] [] [] [b]).app o.dst s) (Eff.mk (v x0) [] [] [] [b] :: acc) K) : Fl P n ops draw (o :: l) s acc K :=
 Fl.opv hg (OpJ.rload f.tabOk (dOk_lt hd) hop hx hb hti hj he (hv _) (hvc _)) r
theorem Fl.relK [f : Facts P tab] {t : TypeId} {x y : Operand} (hop : o.op = .indexAddr t x y) {b : Id} (hx : opd s x = .row b) {k : IntKind} {m : Int} (hy : opd s y = .v (.int k m)) {e : TypeId} {i : TI} {sz' by' : Nat} {z : List Value} (hts : tab t = some ⟨.slice e, sz', by', z⟩) (hti : tab e = some i) {α : Type} {sz : Nat} {enc : α → List AV} {xs : List α} {bt : TypeId} (hb : s.bx b = some (.row sz enc xs bt)) (hg : gOk ops s o = true) (hd : dOk n o.dst = true)
  (hm : (decide (0 ≤ m) && Nat.blt m.toNat xs.length) = true)
  (r : Fl P n ops draw l ((Eff.mk (.rptr b (m.toNat * i.size)) [] [] [] [b]).app o.dst s) (Eff.mk (.rptr b (m.toNat * i.size)) [] [] [] [b] :: acc) K) : Fl P n ops draw (o :: l) s acc K := by
 simp only [Bool.and_eq_true, decide_eq_true_eq] at hm;have := ltOf hm.2;exact Fl.rel hop hx hy hts hti hb hg hd hm.1 (by omega) r
theorem Fl.rstK [f : Facts P tab] {t : TypeId} {x y : Operand} (hop : o.op = .store t x y) {b : Id} {off : Nat} (hx : opd s x = .rptr b off) (hg : gOk ops s o = true) (hdst : o.dst = none) {α : Type} {sz : Nat} {enc : α → List AV} {xs : List α} {bt : TypeId} (hb : s.bx b = some (.row sz enc xs bt)) {i : TI} (hti : tab t = some i)
  {vs : List AV} (hv : cellsL (opd s y) = some vs) (hvc : closedL vs = true) (hsz : Nat.beq vs.length i.size = true) (hsz2 : Nat.beq i.size sz = true) {j : Nat} (hj : off = j * sz) {x1 : α} (hle : LeL vs (enc x1)) (hel : Nat.beq (enc x1).length sz = true) (hjl : Nat.blt j xs.length = true)
  (r : Fl P n ops draw l ((Eff.mk .any [(b, .row sz enc (xs.set j x1) bt)] [] [] [b]).app o.dst s) (Eff.mk .any [(b, .row sz enc (xs.set j x1) bt)] [] [] [b] :: acc) K) (hJ : presOk draw.J (Eff.mk .any [(b, .row sz enc (xs.set j x1) bt)] [] [] [b]) := by repeat' (first | exact True.intro | exact rfl | refine ⟨?_, ?_⟩ | fail)) : Fl P n ops draw (o :: l) s acc K :=
 Fl.rst hop hx hg hdst hb hti hv hvc hsz hsz2 hj hle hel (ltOf hjl) r hJ
end
structure MW where
  u : Int
  p : Int
  q : Int
  z : Int
  y : Int
  r : Int
  s : Int
  t : Int
def MW.X (w : MW) (a b : Int) : List Int := [a, b, w.u, w.p, w.q, w.z, w.y, w.r, w.s, w.t]
theorem fit_pow2 {x : Int} {m : Nat} (h0 : 0 ≤ x) (h : x ≤ 2 ^ m) (hm : m < 131072) : Fit x := by
 refine Fit.mk ?_;rw [BB_pow, show 32 * 4096 = 131072 from rfl];have h4 : (2 : Int) ^ m < 2 ^ (131072 : Nat) := Int.pow_lt_pow_of_lt (by omega) hm;omega
end Go.AL
namespace Go.Proofs.YtcaecieigoplbaaGreat
open Go.AL
theorem chainOk {o : Option Int} {f : FuncId} {args : List AV} {x : Int} (hf : Fit x) (h : IoFn Tryz.prog f args [(900, chB o 0)] (.ret (aX (cV 0 x))) [(900, chB o (cE 0 x))]) : IoFn Tryz.prog f args [(900, chB o 0)] (.ret (aX x)) [(900, chB o 0)] := by
 rw [cV_ok hf, cE_ok hf] at h;exact h

end Go.Proofs.YtcaecieigoplbaaGreat
/- power.Witness, where all its numbers fit. -/
namespace Go.AL
structure PW where
  c : Int
  A : Int
  Y : Int
  X : Int
  M : Int
  z : Int
  y : Int
def pw (b e : Int) : PW :=
  let c := b ^ e.toNat
  let A := psiN (b + 2) (e.toNat + 2)
  let Y := psiN A (e.toNat + 1)
  let X := chiN A (e.toNat + 1)
  let M := A * b + ((A - b) * b - 1)
  ⟨c, A, Y, X, M, (X - (A - b) * Y - c * b) / M, M - c * b - 1⟩
def PW.L (w : PW) (b e : Int) : List Int := [b, e, w.c, w.A, w.Y, w.X, w.M, w.z, w.y, b - 1]
structure PFit (b e : Int) (w : PW) : Prop where
  b0 : Fit b
  b2 : Fit (b + 2)
  c : Fit w.c
  A : Fit w.A
  Y : Fit w.Y
  X : Fit w.X
  M : Fit w.M
  cb : Fit (w.c * b)
  Ab : Fit (w.A * b)
  d : Fit (w.A - b)
  db : Fit ((w.A - b) * b)
  db1 : Fit ((w.A - b) * b - 1)
  dY : Fit ((w.A - b) * w.Y)
  x1 : Fit (w.X - (w.A - b) * w.Y)
  x2 : Fit (w.X - (w.A - b) * w.Y - w.c * b)
  z : Fit w.z
  y1 : Fit (w.M - w.c * b)
  y : Fit w.y
  b1 : Fit (b - 1)
theorem mul2_fit {x y : Int} (h1 : Fit x) (h2 : Fit (x * y)) : mulL 0 1 [x, y] = (x * y, 0) := by
 simp only [mulL, Int.one_mul, cV_ok h1, cE_ok h1, cV_ok h2, cE_ok h2]
end Go.AL
namespace Go.Proofs.YtcaecieigoplbaaGreat
open Go.AL
theorem chMul2 (x y : Int) (h1 : Fit x) (hy : Fit y) (h2 : Fit (x * y)) : IoFn Tryz.prog 101 [.ptr 900 0, .sl 2 eX [x, y]] [(900, chB none 0)] (.ret (aX (x * y))) [(900, chB none 0)] := by
 have h := chMul_ok none 0 [x, y] (by simp [h1, hy]) (by simp);rw [mul2_fit h1 h2] at h;exact h
set_option maxHeartbeats 4000000 in
set_option maxRecDepth 20000 in
theorem pWitness_ok (b e : Int) (hb : 1 ≤ b) (he : 0 ≤ e) (he2 : e ≤ 131070) (hw : PFit b e (pw b e)) (hM : (pw b e).M ≠ 0) (hA2 : 2 ≤ (pw b e).A) : PureFn Tryz.prog 31 [aX b, aN e] (.tup [.sl 2 eX ((pw b e).L b e), aN 0]) := by
 refine PureFn.of_body Tryz.func31 rfl Tryz.ntmps31 rfl rfl ?_;have hc : b ^ e.toNat = (pw b e).c := rfl
 have hA : psiN (b + 2) (e + 2).toNat = (pw b e).A := by rw [show (e + 2).toNat = e.toNat + 2 by omega]; rfl
 have hY : psiN (pw b e).A (e + 1).toNat = (pw b e).Y := by rw [show (e + 1).toNat = e.toNat + 1 by omega]; rfl
 have hX : chiN (pw b e).A (e + 1).toNat = (pw b e).X := by rw [show (e + 1).toNat = e.toNat + 1 by omega]; rfl
 have hM' : (pw b e).A * b + (((pw b e).A - b) * b - 1) = (pw b e).M := rfl;have hz : ((pw b e).X - ((pw b e).A - b) * (pw b e).Y - (pw b e).c * b) / (pw b e).M = (pw b e).z := rfl;have hy : (pw b e).M - (pw b e).c * b - 1 = (pw b e).y := rfl;have hL : (pw b e).L b e = [b, e, (pw b e).c, (pw b e).A, (pw b e).Y, (pw b e).X, (pw b e).M, (pw b e).z, (pw b e).y, b - 1] := rfl;rw [hL]
 generalize pw b e = w at *
 obtain ⟨c, A, Y, X, M, z, y⟩ := w;obtain ⟨fb, fb2, fc, fA, fY, fX, fM, fcb, fAb, fd, fdb, fdb1, fdY, fx1, fx2, fz, fy1, fy, fb1⟩ := hw
 simp only at *
 have e1 := chainOk (o := none) (x := b + 0) (by rw [Int.add_zero]; exact fb) (chAdd_ok none 0 b 0 fb Fit.zero);rw [Int.add_zero] at e1;have e2 := chainOk (o := none) fb1 (chSub_ok none 0 b 1 fb fit_one);have e3 := chainOk (o := none) (by rw [hc]; exact fc) (chPower_ok none 0 b e fb he (by omega));rw [hc] at e3;have e4 := chainOk (o := none) fb2 (chAdd_ok none 0 b 2 fb fit_two);have e5 := Psi_ok (b + 2) (e + 2) fb2 (by omega) (by omega) (by omega);rw [hA, aR_fit fA] at e5;have e6 := Psi_ok A (e + 1) fA hA2 (by omega) (by omega);rw [hY, aR_fit fY] at e6;have e7 := Chi_ok A (e + 1) fA hA2 (by omega) (by omega) (by rw [hX]; exact fX);rw [hX] at e7;have e8 := chMul2 c b fc fb fcb;have e9 := chainOk (o := none) fd (chSub_ok none 0 A b fA fb);have e10 := chMul2 A b fA fb fAb;have e11 := chMul2 (A - b) b fd fb fdb;have e12 := chainOk (o := none) fdb1 (chSub_ok none 0 ((A - b) * b) 1 fdb fit_one);have e13 := chainOk (o := none) (by rw [hM']; exact fM) (chAdd_ok none 0 (A * b) ((A - b) * b - 1) fAb fdb1);rw [hM'] at e13;have e14 := chMul2 (A - b) Y fd fY fdY;have e15 := chainOk (o := none) fx1 (chSub_ok none 0 X ((A - b) * Y) fX fdY);have e16 := chainOk (o := none) fx2 (chSub_ok none 0 (X - (A - b) * Y) (c * b) fx1 fcb);have e17 := chainOk (o := none) (by rw [hz]; exact fz) (chQuo_ok none 0 (X - (A - b) * Y - c * b) M fx2 fM (fun _ => hM));rw [hz] at e17;have e18 := chainOk (o := none) fy1 (chSub_ok none 0 M (c * b) fM fcb);have e19 := chainOk (o := none) (by rw [hy]; exact fy) (chSub_ok none 0 (M - c * b) 1 fy1 fit_one);rw [hy] at e19;clear hc hA hY hX hM' hz hy hL;refine AWP.seqS ?_;(repeat' (first |refine qv ?_ |apply qn |apply qr |refine qe ?_|fail));refine ⟨AWP.seqS ?_⟩;(repeat' (first |refine qv ?_ |apply qs |apply qr |apply qb));refine qc (Valid_int b fb) ?_;(repeat' (first |refine qv ?_ |apply qn |apply qs |apply qr |refine AWP.condF rfl ?_));refine qc (Of_ok 1 (by omega) (by omega)) ?_;skip;refine qc (Less_ok b 1 fb fit_one) ?_;(repeat' (first |refine qv ?_ |apply qn |refine Fl.nil (fun _ => by kernel_rfl) ?_ |apply qs |apply qr |(refine AWP.condD rfl ?_ ?_ <;> intro _ <;> try (exfalso; omega)) |apply qk |(refine Fl.splitD rfl rfl ?_ ?_ <;> intro _ <;> try (exfalso; omega))));refine ⟨AWP.seqS ?_⟩;(repeat' (first |refine qv ?_ |apply qn |apply qr |refine qe ?_|fail));refine ⟨AWP.seqS ?_⟩;(repeat' (first |apply qr));refine Fl.make rfl rfl rfl rfl rfl rfl rfl rfl rfl rfl eX 0 (by exact leX_zero (σ := []) rfl) (by rfl) (by omega) (by dsimp only; omega) (by omega) ?_;(repeat' (first |refine qv ?_ |apply qn));refine ⟨AWP.seqS ?_⟩;(repeat' (first |refine qv ?_ |apply qr));refine qc (Of_ok 0 (by omega) (by omega)) ?_;skip;refine qi [(900, 28)] (e1) ?_;(repeat' (first |refine qv ?_|fail));refine qc (Of_ok e (by omega) (by omega)) ?_;(repeat' (first |refine qv ?_|fail));refine qc (Of_ok 1 (by omega) (by omega)) ?_;skip;refine qi [(900, 28)] (e2) ?_;(repeat' (first |refine Fl.relK rfl rfl rfl rfl rfl rfl rfl rfl rfl ?_ |refine Fl.rstK rfl rfl rfl rfl rfl rfl rfl rfl rfl rfl rfl (LeL.refl _) rfl rfl ?_ |refine Fl.nil (fun _ => by kernel_rfl) ?_|fail));refine ⟨AWP.seqS ?_⟩;(repeat' (first |refine qv ?_ |apply qr));refine qi [(900, 28)] (e3) ?_;(repeat' (first |refine Fl.relK rfl rfl rfl rfl rfl rfl rfl rfl rfl ?_ |refine Fl.rstK rfl rfl rfl rfl rfl rfl rfl rfl rfl rfl rfl (LeL.refl _) rfl rfl ?_ |apply qn));refine ⟨AWP.seqS ?_⟩;(repeat' (first |refine qv ?_ |apply qn |apply qs |apply qr |refine AWP.condF rfl ?_ |apply qk));refine ⟨AWP.seqS ?_⟩;(repeat' (first |refine qv ?_ |apply qr));refine qc (Of_ok 2 (by omega) (by omega)) ?_;skip;refine qi [(900, 28)] (e4) ?_;(repeat' (first |refine Fl.nil (fun _ => by kernel_rfl) ?_ |refine qe ?_|fail));refine ⟨AWP.seqS ?_⟩;(repeat' (first |apply qn |apply qr |refine qe ?_|fail));refine ⟨AWP.seqS ?_⟩;(repeat' (first |refine qv ?_ |apply qn |apply qs |apply qr |refine qw ?_ |refine AWP.condT rfl ?_));refine qc (e5) ?_;(repeat' (first |refine Fl.relK rfl rfl rfl rfl rfl rfl rfl rfl rfl ?_ |refine Fl.rstK rfl rfl rfl rfl rfl rfl rfl rfl rfl rfl rfl (LeL.refl _) rfl rfl ?_ |refine qv ?_|fail));refine Fl.ixP rfl rfl rfl rfl rfl 0 rfl rfl rfl rfl (by decide) ?_;(repeat' (first |apply qn |refine qe ?_|fail));refine ⟨AWP.seqS ?_⟩;(repeat' (first |refine qv ?_ |apply qs |apply qr |(refine Fl.splitN rfl rfl ?_ ?_ <;> intro _ <;> try (exfalso; omega))));refine Fl.ixP rfl rfl rfl rfl rfl 0 rfl rfl rfl rfl (by decide) ?_;(repeat' (first |refine qv ?_ |apply qn |refine AWP.condF rfl ?_ |apply qk));refine ⟨AWP.seqS ?_⟩;(repeat' (first |refine Fl.rldK rfl rfl rfl rfl rfl rfl rfl (fun _ => rfl) (fun _ => rfl) rfl ?_ |refine Fl.relK rfl rfl rfl rfl rfl rfl rfl rfl rfl ?_ |refine qv ?_ |apply qr |refine qw ?_|fail));refine qc (e6) ?_;(repeat' (first |refine Fl.relK rfl rfl rfl rfl rfl rfl rfl rfl rfl ?_ |refine Fl.rstK rfl rfl rfl rfl rfl rfl rfl rfl rfl rfl rfl (LeL.refl _) rfl rfl ?_ |refine qv ?_|fail));refine Fl.ixP rfl rfl rfl rfl rfl 1 rfl rfl rfl rfl (by decide) ?_;(repeat' (first |apply qn |refine qe ?_|fail));refine ⟨AWP.seqS ?_⟩;(repeat' (first |refine Fl.rldK rfl rfl rfl rfl rfl rfl rfl (fun _ => rfl) (fun _ => rfl) rfl ?_ |refine Fl.relK rfl rfl rfl rfl rfl rfl rfl rfl rfl ?_ |refine qv ?_ |apply qr |refine qw ?_|fail));refine qc (e7) ?_;(repeat' (first |refine Fl.relK rfl rfl rfl rfl rfl rfl rfl rfl rfl ?_ |refine Fl.rstK rfl rfl rfl rfl rfl rfl rfl rfl rfl rfl rfl (LeL.refl _) rfl rfl ?_ |refine qv ?_|fail));refine Fl.ixP rfl rfl rfl rfl rfl 2 rfl rfl rfl rfl (by decide) ?_;(repeat' (first |apply qn |refine qe ?_|fail));refine ⟨AWP.seqS ?_⟩;(repeat' (first |apply qs |apply qr));refine Fl.ixP rfl rfl rfl rfl rfl 1 rfl rfl rfl rfl (by decide) ?_;(repeat' (first |refine qv ?_ |(refine Fl.splitN rfl rfl ?_ ?_ <;> intro _ <;> try (exfalso; omega))));refine Fl.ixP rfl rfl rfl rfl rfl 2 rfl rfl rfl rfl (by decide) ?_;(repeat' (first |refine qv ?_ |apply qn |refine AWP.condF rfl ?_ |apply qk));refine ⟨AWP.seqS ?_⟩;(repeat' (first |refine Fl.rldK rfl rfl rfl rfl rfl rfl rfl (fun _ => rfl) (fun _ => rfl) rfl ?_ |refine Fl.relK rfl rfl rfl rfl rfl rfl rfl rfl rfl ?_ |refine qv ?_ |apply qr));refine ql eX [c, b] ?_;skip;refine qi [(900, 28)] (e8) ?_;(repeat' (first |refine Fl.nil (fun _ => by kernel_rfl) ?_ |refine qe ?_|fail));refine ⟨AWP.seqS ?_⟩;(repeat' (first |refine Fl.rldK rfl rfl rfl rfl rfl rfl rfl (fun _ => rfl) (fun _ => rfl) rfl ?_ |refine Fl.relK rfl rfl rfl rfl rfl rfl rfl rfl rfl ?_ |refine qv ?_ |apply qr));refine qi [(900, 28)] (e9) ?_;(repeat' (first |refine Fl.nil (fun _ => by kernel_rfl) ?_ |refine qe ?_|fail));refine ⟨AWP.seqS ?_⟩;(repeat' (first |refine Fl.rldK rfl rfl rfl rfl rfl rfl rfl (fun _ => rfl) (fun _ => rfl) rfl ?_ |refine Fl.relK rfl rfl rfl rfl rfl rfl rfl rfl rfl ?_ |refine qv ?_ |apply qr));refine ql eX [A, b] ?_;skip;refine qi [(900, 28)] (e10) ?_;(repeat' (first |refine qv ?_|fail));refine ql eX [A - b, b] ?_;skip;refine qi [(900, 28)] (e11) ?_;skip;refine qc (Of_ok 1 (by omega) (by omega)) ?_;skip;refine qi [(900, 28)] (e12) ?_;skip;refine qi [(900, 28)] (e13) ?_;(repeat' (first |refine Fl.relK rfl rfl rfl rfl rfl rfl rfl rfl rfl ?_ |refine Fl.rstK rfl rfl rfl rfl rfl rfl rfl rfl rfl rfl rfl (LeL.refl _) rfl rfl ?_ |refine Fl.nil (fun _ => by kernel_rfl) ?_|fail));refine ⟨AWP.seqS ?_⟩;(repeat' (first |refine Fl.rldK rfl rfl rfl rfl rfl rfl rfl (fun _ => rfl) (fun _ => rfl) rfl ?_ |refine Fl.relK rfl rfl rfl rfl rfl rfl rfl rfl rfl ?_ |refine qv ?_ |apply qr));refine ql eX [A - b, Y] ?_;skip;refine qi [(900, 28)] (e14) ?_;skip;refine qi [(900, 28)] (e15) ?_;(repeat' (first |refine qv ?_|fail));refine qi [(900, 28)] (e16) ?_;(repeat' (first |refine Fl.rldK rfl rfl rfl rfl rfl rfl rfl (fun _ => rfl) (fun _ => rfl) rfl ?_ |refine Fl.relK rfl rfl rfl rfl rfl rfl rfl rfl rfl ?_ |refine qv ?_|fail));refine qi [(900, 28)] (e17) ?_;(repeat' (first |refine Fl.relK rfl rfl rfl rfl rfl rfl rfl rfl rfl ?_ |refine Fl.rstK rfl rfl rfl rfl rfl rfl rfl rfl rfl rfl rfl (LeL.refl _) rfl rfl ?_ |refine Fl.nil (fun _ => by kernel_rfl) ?_|fail));refine ⟨AWP.seqS ?_⟩;(repeat' (first |refine Fl.rldK rfl rfl rfl rfl rfl rfl rfl (fun _ => rfl) (fun _ => rfl) rfl ?_ |refine Fl.relK rfl rfl rfl rfl rfl rfl rfl rfl rfl ?_ |refine qv ?_ |apply qr));refine qi [(900, 28)] (e18) ?_;skip;refine qc (Of_ok 1 (by omega) (by omega)) ?_;skip;refine qi [(900, 28)] (e19) ?_;(repeat' (first |refine Fl.relK rfl rfl rfl rfl rfl rfl rfl rfl rfl ?_ |refine Fl.rstK rfl rfl rfl rfl rfl rfl rfl rfl rfl rfl rfl (LeL.refl _) rfl rfl ?_ |refine Fl.nil (fun _ => by kernel_rfl) ?_|fail));refine ⟨AWP.seqS ?_⟩;(repeat' (first |refine qv ?_ |apply qn |apply qs |apply qr |refine AWP.condF rfl ?_ |apply qk));refine ⟨?_⟩;(repeat' (first |refine qv ?_ |apply qn |apply qs |apply qr |apply qt));refine RetOk.ent (Ent.freeze 29 rfl) ?_;exact RetOk.of rfl (AV.Le.refl _)
end Go.Proofs.YtcaecieigoplbaaGreat
/- Validity of any many numbers. -/
namespace Go.Proofs.YtcaecieigoplbaaGreat
open Go.AL
end Go.Proofs.YtcaecieigoplbaaGreat
/- mask: the links' meaning; what they need to be evaluated. -/
namespace Go.AL
end Go.AL
namespace Go.Proofs.YtcaecieigoplbaaGreat
open Go.AL
theorem holdsR_all {f g : LZ → Bool} : ∀ {ls : List LZ}, (∀ l ∈ ls, f l = true ∧ g l = true) → holdsR f g ls = (true, 0)
 | [], _ => rfl
 | l :: ls, h => by
  obtain ⟨h1, h2⟩ := h l (by simp);rw [holdsR, if_pos h1, if_pos h2];exact holdsR_all fun x hx => h x (by simp [hx])
theorem Holds_yes (s : SZ) (X : List Int) (hw : WS s) (hs : OkS s) (hX : ∀ x ∈ X, Fit x) (hlen : (X.length : Int) = s.vars) (hnat : ∀ x ∈ X, 0 ≤ x) (he : ∀ l ∈ s.links, EvL X l) (hh : ∀ l ∈ s.links, HoL X l) : PureFn Tryz.prog 25 [aS s, .sl 2 eX X] (.tup [aB true, aN 0]) := by
 obtain ⟨f, hf⟩ := boolOf (EvL X);obtain ⟨g, hg⟩ := boolOf (HoL X);have := Holds_ok s X hw hs hX hlen hnat f g hf hg;rw [holdsR_all fun l hl => ⟨(hf l).2 (he l hl), (hg l).2 (hh l hl)⟩] at this;exact this
end Go.Proofs.YtcaecieigoplbaaGreat
/- power: the links' meaning; what they need to be evaluated. -/
namespace Go.AL
theorem pwS_all : (∀ l ∈ pwS.links, OkL 10 l ∧ WL l) := by
 intro l hl;simp only [pwS, List.mem_cons, List.not_mem_nil, or_false] at hl;rcases hl with rfl | rfl | rfl | rfl | rfl | rfl | rfl
 ·have := okLU_ok (V := 10) (by omega) (kind := 0) (ls := [pw2]) (by kernel_rfl); exact ⟨this.1, this.2.1⟩
 ·have := okLU_ok (V := 10) (by omega) (kind := 1) (ls := [pw3, pw4, varU 10 3]) (by kernel_rfl); exact ⟨this.1, this.2.1⟩
 ·have := okLU_ok (V := 10) (by omega) (kind := 1) (ls := [varU 10 3, pw5, varU 10 4]) (by kernel_rfl); exact ⟨this.1, this.2.1⟩
 ·have := okLU_ok (V := 10) (by omega) (kind := 0) (ls := [pw11]) (by kernel_rfl); exact ⟨this.1, this.2.1⟩
 ·have := okLU_ok (V := 10) (by omega) (kind := 0) (ls := [pw16]) (by kernel_rfl); exact ⟨this.1, this.2.1⟩
 ·have := okLU_ok (V := 10) (by omega) (kind := 0) (ls := [pw21]) (by kernel_rfl); exact ⟨this.1, this.2.1⟩
 ·have := okLU_ok (V := 10) (by omega) (kind := 0) (ls := [pw23]) (by kernel_rfl); exact ⟨this.1, this.2.1⟩
theorem pwS_w : WS pwS := fun l hl => (pwS_all l hl).2
theorem pwS_ok : OkS pwS := ⟨by decide, by decide, by decide, fun l hl => (pwS_all l hl).1⟩
theorem pwS_nn : (∀ p ∈ [pw2, pw3, pw4, varU 10 3, pw5, varU 10 4, pw11, pw16, pw21, pw23], nnU 10 p ∧ okB 4 4 p = true) := by
 have h : ([pw2, pw3, pw4, varU 10 3, pw5, varU 10 4, pw11, pw16, pw21, pw23].all fun p => p.all (okU 10) && okB 4 4 p) = true := by kernel_rfl
 intro p hp;have := List.all_eq_true.1 h p hp;simp only [Bool.and_eq_true, List.all_eq_true] at this;exact ⟨fun u hu => okU_ok (this.1 u hu), this.2⟩
theorem pw_vals (b e c A Y X M z y w : Int) : let L := [b, e, c, A, Y, X, M, z, y, w]
  uv L pw2 = b - (w + 1) ∧ uv L pw3 = b + 2 ∧ uv L pw4 = e + 2 ∧ uv L (varU 10 3) = A ∧ uv L pw5 = e + 1 ∧ uv L (varU 10 4) = Y ∧ uv L pw11 = X * X - ((A * A - 1) * (Y * Y) + 1) ∧ uv L pw16 = M - (2 * A * b - b * b - 1) ∧ uv L pw21 = X - ((A - b) * Y + c * b + M * z) ∧ uv L pw23 = M - (c * b + y + 1) := by
 intro L;have v : ∀ i, i < 10 → uv L (varU 10 i) = L.getD i 0 := fun i hi => uv_var rfl hi;have v0 : uv L (varU 10 0) = b := v 0 (by omega);have v1 : uv L (varU 10 1) = e := v 1 (by omega);have v2 : uv L (varU 10 2) = c := v 2 (by omega);have v3 : uv L (varU 10 3) = A := v 3 (by omega);have v4 : uv L (varU 10 4) = Y := v 4 (by omega);have v5 : uv L (varU 10 5) = X := v 5 (by omega);have v6 : uv L (varU 10 6) = M := v 6 (by omega);have v7 : uv L (varU 10 7) = z := v 7 (by omega);have v8 : uv L (varU 10 8) = y := v 8 (by omega);have v9 : uv L (varU 10 9) = w := v 9 (by omega);have c0 : ∀ k, uv L (conU 10 k) = k := fun k => uv_con L 10 k;have n0 : uv L [] = 0 := rfl
 have m0 : uv L pw0 = c * b := by
  unfold pw0; rw [uv_muls (V := 10) (by omega) L _ _ (by kernel_rfl)]; simp only [List.map_cons, List.map_nil, prodL, c0, v2, v0]; grind
 have m1 : uv L pw1 = w + 1 := by
  unfold pw1; rw [uv_sums (V := 10) (by omega) L _ _ (by kernel_rfl)]; simp only [List.map_cons, List.map_nil, sumL, c0, n0, v9]; omega
 have m2 : uv L pw2 = b - (w + 1) := by
  unfold pw2; rw [uv_sub (V := 10) (by omega) L (by kernel_rfl), v0, m1]
 have m3 : uv L pw3 = b + 2 := by
  unfold pw3; rw [uv_sums (V := 10) (by omega) L _ _ (by kernel_rfl)]; simp only [List.map_cons, List.map_nil, sumL, c0, n0, v0]; omega
 have m4 : uv L pw4 = e + 2 := by
  unfold pw4; rw [uv_sums (V := 10) (by omega) L _ _ (by kernel_rfl)]; simp only [List.map_cons, List.map_nil, sumL, c0, n0, v1]; omega
 have m5 : uv L pw5 = e + 1 := by
  unfold pw5; rw [uv_sums (V := 10) (by omega) L _ _ (by kernel_rfl)]; simp only [List.map_cons, List.map_nil, sumL, c0, n0, v1]; omega
 have m6 : uv L pw6 = X * X := by
  unfold pw6; rw [uv_muls (V := 10) (by omega) L _ _ (by kernel_rfl)]; simp only [List.map_cons, List.map_nil, prodL, c0, v5]; grind
 have m7 : uv L pw7 = A * A := by
  unfold pw7; rw [uv_muls (V := 10) (by omega) L _ _ (by kernel_rfl)]; simp only [List.map_cons, List.map_nil, prodL, c0, v3]; grind
 have m8 : uv L pw8 = A * A - 1 := by
  unfold pw8; rw [uv_sub (V := 10) (by omega) L (by kernel_rfl), m7, c0]
 have m9 : uv L pw9 = (A * A - 1) * (Y * Y) := by
  unfold pw9; rw [uv_muls (V := 10) (by omega) L _ _ (by kernel_rfl)]; simp only [List.map_cons, List.map_nil, prodL, c0, m8, v4]; grind
 have m10 : uv L pw10 = (A * A - 1) * (Y * Y) + 1 := by
  unfold pw10; rw [uv_sums (V := 10) (by omega) L _ _ (by kernel_rfl)]; simp only [List.map_cons, List.map_nil, sumL, c0, n0, m9]; omega
 have m11 : uv L pw11 = X * X - ((A * A - 1) * (Y * Y) + 1) := by
  unfold pw11; rw [uv_sub (V := 10) (by omega) L (by kernel_rfl), m6, m10]
 have m12 : uv L pw12 = 2 * A * b := by
  unfold pw12; rw [uv_muls (V := 10) (by omega) L _ _ (by kernel_rfl)]; simp only [List.map_cons, List.map_nil, prodL, c0, v3, v0]; grind
 have m13 : uv L pw13 = b * b := by
  unfold pw13; rw [uv_muls (V := 10) (by omega) L _ _ (by kernel_rfl)]; simp only [List.map_cons, List.map_nil, prodL, c0, v0]; grind
 have m14 : uv L pw14 = 0 - b * b := by
  unfold pw14; rw [uv_sub (V := 10) (by omega) L (by kernel_rfl), c0, m13]
 have m15 : uv L pw15 = 2 * A * b - b * b - 1 := by
  unfold pw15; rw [uv_sums (V := 10) (by omega) L _ _ (by kernel_rfl)]; simp only [List.map_cons, List.map_nil, sumL, c0, n0, m12, m14]; omega
 have m16 : uv L pw16 = M - (2 * A * b - b * b - 1) := by
  unfold pw16; rw [uv_sub (V := 10) (by omega) L (by kernel_rfl), v6, m15]
 have m17 : uv L pw17 = A - b := by
  unfold pw17; rw [uv_sub (V := 10) (by omega) L (by kernel_rfl), v3, v0]
 have m18 : uv L pw18 = (A - b) * Y := by
  unfold pw18; rw [uv_muls (V := 10) (by omega) L _ _ (by kernel_rfl)]; simp only [List.map_cons, List.map_nil, prodL, c0, m17, v4]; grind
 have m19 : uv L pw19 = M * z := by
  unfold pw19; rw [uv_muls (V := 10) (by omega) L _ _ (by kernel_rfl)]; simp only [List.map_cons, List.map_nil, prodL, c0, v6, v7]; grind
 have m20 : uv L pw20 = (A - b) * Y + c * b + M * z := by
  unfold pw20; rw [uv_sums (V := 10) (by omega) L _ _ (by kernel_rfl)]; simp only [List.map_cons, List.map_nil, sumL, c0, n0, m18, m0, m19]; omega
 have m21 : uv L pw21 = X - ((A - b) * Y + c * b + M * z) := by
  unfold pw21; rw [uv_sub (V := 10) (by omega) L (by kernel_rfl), v5, m20]
 have m22 : uv L pw22 = c * b + y + 1 := by
  unfold pw22; rw [uv_sums (V := 10) (by omega) L _ _ (by kernel_rfl)]; simp only [List.map_cons, List.map_nil, sumL, c0, n0, m0, v8]; omega
 have m23 : uv L pw23 = M - (c * b + y + 1) := by
  unfold pw23; rw [uv_sub (V := 10) (by omega) L (by kernel_rfl), v6, m22]
 exact ⟨m2, m3, m4, v3, m5, v4, m11, m16, m21, m23⟩
def PowEq (b e c A Y X M z y w : Int) : Prop :=
  b = w + 1 ∧ (2 ≤ b + 2 ∧ 1 ≤ e + 2 ∧ psiN (b + 2) (e + 2).toNat = A) ∧ (2 ≤ A ∧ 1 ≤ e + 1 ∧ psiN A (e + 1).toNat = Y) ∧ X * X = (A * A - 1) * (Y * Y) + 1 ∧ M = 2 * A * b - b * b - 1 ∧ X = (A - b) * Y + c * b + M * z ∧ M = c * b + y + 1
theorem sub_zero_iff {x y : Int} : x - y = 0 ↔ x = y := by omega
theorem pw_hol (b e c A Y X M z y w : Int) : (∀ l ∈ pwS.links, HoL [b, e, c, A, Y, X, M, z, y, w] l) ↔ PowEq b e c A Y X M z y w := by
 obtain ⟨e0, e1, e2, e3, e4, e5, e6, e7, e8, e9⟩ := pw_vals b e c A Y X M z y w;have nn : ∀ p, p ∈ [pw2, pw3, pw4, varU 10 3, pw5, varU 10 4, pw11, pw16, pw21, pw23] → nnU 10 p := fun p hp => (pwS_nn p hp).1
 have L : ∀ (kind : Int) (ls : List (List UT)), (∀ p ∈ ls, p ∈ [pw2, pw3, pw4, varU 10 3, pw5, varU 10 4, pw11, pw16, pw21, pw23]) → HoL [b, e, c, A, Y, X, M, z, y, w] (linkU 10 kind ls) = holdP kind (ls.map (uv [b, e, c, A, Y, X, M, z, y, w])) := fun kind ls h => by
  unfold HoL;rw [lvals_linkU (V := 10) rfl fun p hp => nn p (h p hp)];rfl
 simp only [pwS, List.forall_mem_cons];rw [L 0 _ (by simp), L 1 _ (by simp), L 1 _ (by simp), L 0 _ (by simp), L 0 _ (by simp), L 0 _ (by simp), L 0 _ (by simp)];simp only [List.map_cons, List.map_nil, e0, e1, e2, e3, e4, e5, e6, e7, e8, e9];unfold holdP PowEq;simp only [List.getD_cons_zero, List.getD_cons_succ, sub_zero_iff];simp
theorem pw_ev {X : List Int} {m : Nat} (hm : m ≤ 32000) (hl : X.length = 10) (hX : ∀ x ∈ X, x.natAbs ≤ 2 ^ m) : ∀ l ∈ pwS.links, EvL X l := by
 have A : ∀ p, p ∈ [pw2, pw3, pw4, varU 10 3, pw5, varU 10 4, pw11, pw16, pw21, pw23] → nnU 10 p ∧ Fit (auv X p) := fun p hp => by
  obtain ⟨h1, h2⟩ := pwS_nn p hp;exact ⟨h1, auv_fit hX h1 h2 (by omega)⟩
 have L : ∀ (kind : Int) (ls : List (List UT)), (∀ p ∈ ls, p ∈ [pw2, pw3, pw4, varU 10 3, pw5, varU 10 4, pw11, pw16, pw21, pw23]) → EvL X (linkU 10 kind ls) := fun kind ls h =>
  evL_linkU hl (fun p hp => (A p (h p hp)).1) fun p hp => (A p (h p hp)).2
 simp only [pwS, List.forall_mem_cons];exact ⟨L 0 _ (by simp), L 1 _ (by simp), L 1 _ (by simp), L 0 _ (by simp), L 0 _ (by simp), L 0 _ (by simp), L 0 _ (by simp), by simp⟩
theorem pw_base {b A : Int} {n : Nat} (hb : 1 ≤ b) (hA : A = psiN (b + 2) (n + 2)) : b + 2 ≤ A ∧ b ^ (n + 1) < 2 * A * b - b * b - 1 := by
 have hA1 : (b + 2) ^ (n + 1) ≤ A := by rw [hA]; exact psi_ge (by omega) (n + 1)
 have hp0 : 1 ≤ (b + 2) ^ n := Int.pow_pos (by omega)
 have hA2 : b + 2 ≤ A := by
  have : 1 * (b + 2) ≤ (b + 2) ^ n * (b + 2) := Int.mul_le_mul_of_nonneg_right hp0 (by omega);rw [Int.pow_succ] at hA1; omega
 refine ⟨hA2, ?_⟩;have g1 : b ^ (n + 1) ≤ (b + 2) ^ (n + 1) := pow_le_l (by omega) (by omega) _;have g2 : A * 1 ≤ A * b := Int.mul_le_mul_of_nonneg_left hb (by omega);have g3 : (b + 2) * b ≤ A * b := Int.mul_le_mul_of_nonneg_right hA2 (by omega)
 have g4 : 2 * A * b = A * b + A * b := by grind
 have g5 : (b + 2) * b = b * b + 2 * b := by grind
 omega
theorem pw_only {b e c A Y X M z y w : Int} (h0 : ∀ x ∈ [b, e, c, A, Y, X, M, z, y, w], 0 ≤ x) (h : PowEq b e c A Y X M z y w) : 1 ≤ b ∧ c = b ^ e.toNat ∧ b + 2 ≤ A ∧ pw b e = ⟨c, A, Y, X, M, z, y⟩ ∧ [b, e, c, A, Y, X, M, z, y, w] = (pw b e).L b e := by
 simp only [List.forall_mem_cons] at h0;obtain ⟨g0, g1, g2, g3, g4, g5, g6, g7, g8, g9, _⟩ := h0;obtain ⟨l1, ⟨_, _, l2⟩, ⟨_, _, l3⟩, l4, l5, l6, l7⟩ := h
 have hb : 1 ≤ b := by omega
 rw [show (e + 2).toNat = e.toNat + 2 by omega] at l2;rw [show (e + 1).toNat = e.toNat + 1 by omega] at l3;obtain ⟨hc, hX⟩ := power_only hb g1 g2 g7 g8 g5 l2.symm l3.symm l4 l5 l6 l7;obtain ⟨b1, b2⟩ := pw_base (n := e.toNat) hb l2.symm
 have hM : A * b + ((A - b) * b - 1) = M := by rw [l5]; grind
 have hM0 : M ≠ 0 := by
  have : 0 ≤ b ^ (e.toNat + 1) := Int.le_of_lt (Int.pow_pos (by omega));omega
 have hz : (X - (A - b) * Y - c * b) / M = z := by
  rw [show X - (A - b) * Y - c * b = M * z by omega];exact Int.mul_ediv_cancel_left z hM0
 have hpw : pw b e = ⟨c, A, Y, X, M, z, y⟩ := by
  unfold pw;simp only;rw [l2, l3, ← hX, ← hc, hM, hz, show M - c * b - 1 = y by omega]
 refine ⟨hb, hc, b1, hpw, ?_⟩;rw [hpw];show _ = [b, e, c, A, Y, X, M, z, y, b - 1];rw [show w = b - 1 by omega]
theorem pw_fit {b e c A Y X M z y w : Int} (h0 : ∀ x ∈ [b, e, c, A, Y, X, M, z, y, w], 0 ≤ x) (hf : ∀ x ∈ [b, e, c, A, Y, X, M, z, y, w], Fit x) (h : PowEq b e c A Y X M z y w) : PFit b e ⟨c, A, Y, X, M, z, y⟩ ∧ M ≠ 0 ∧ e + 2 ≤ 131072 := by
 obtain ⟨hb, hc, hA2, _, _⟩ := pw_only h0 h;simp only [List.forall_mem_cons] at h0 hf;obtain ⟨g0, g1, g2, g3, g4, g5, g6, g7, g8, g9, _⟩ := h0;obtain ⟨f0, f1, f2, f3, f4, f5, f6, f7, f8, f9, _⟩ := hf;obtain ⟨l1, ⟨_, _, l2⟩, ⟨_, _, l3⟩, l4, l5, l6, l7⟩ := h;have k1 : 0 ≤ c * b := Int.mul_nonneg g2 g0;have k2 : 0 ≤ M * z := Int.mul_nonneg g6 g7;have k3 : 2 * b ≤ (A - b) * b := Int.mul_le_mul_of_nonneg_right (by omega) g0;have k4 : 3 * b ≤ A * b := Int.mul_le_mul_of_nonneg_right (by omega) g0;have k5 : 0 ≤ (A - b) * Y := Int.mul_nonneg (by omega) g4
 have hM : A * b + ((A - b) * b - 1) = M := by rw [l5]; grind
 refine ⟨⟨f0, fit_of f3 (by omega) hA2, f2, f3, f4, f5, f6, fit_of f6 k1 (by simp only; omega), fit_of f6 (by simp only; omega) (by simp only; omega), fit_of f3 (by simp only; omega) (by simp only; omega), fit_of f6 (by simp only; omega) (by simp only; omega), fit_of f6 (by simp only; omega) (by simp only; omega), fit_of f5 k5 (by simp only; omega), fit_of f5 (by simp only; omega) (by simp only; omega), fit_of f5 (by simp only; omega) (by simp only; omega), f7, fit_of f6 (by simp only; omega) (by simp only; omega), f8, fit_of f0 (by omega) (by omega)⟩, by omega, ?_⟩;by_cases he : e + 2 ≤ 131072
 ·exact he
 ·exact absurd (l2 ▸ f3) (psi_not_fit (a := b + 2) (by omega) (by omega))
theorem pw_found {b e : Int} (hb : 1 ≤ b) (he : 0 ≤ e) : PowEq b e (pw b e).c (pw b e).A (pw b e).Y (pw b e).X (pw b e).M (pw b e).z (pw b e).y (b - 1) ∧ ∀ x ∈ (pw b e).L b e, 0 ≤ x := by
 have hc : b ^ e.toNat = (pw b e).c := rfl;have hA : psiN (b + 2) (e.toNat + 2) = (pw b e).A := rfl;have hY : psiN (pw b e).A (e.toNat + 1) = (pw b e).Y := rfl;have hX : chiN (pw b e).A (e.toNat + 1) = (pw b e).X := rfl;have hM : (pw b e).A * b + (((pw b e).A - b) * b - 1) = (pw b e).M := rfl;have hz : ((pw b e).X - ((pw b e).A - b) * (pw b e).Y - (pw b e).c * b) / (pw b e).M = (pw b e).z := rfl;have hy : (pw b e).M - (pw b e).c * b - 1 = (pw b e).y := rfl;have hL : (pw b e).L b e = [b, e, (pw b e).c, (pw b e).A, (pw b e).Y, (pw b e).X, (pw b e).M, (pw b e).z, (pw b e).y, b - 1] := rfl;rw [hL]
 generalize pw b e = w at *
 obtain ⟨c, A, Y, X, M, z, y⟩ := w
 simp only at *
 obtain ⟨b1, b2⟩ := pw_base (n := e.toNat) hb hA.symm
 have hM2 : M = 2 * A * b - b * b - 1 := by rw [← hM]; grind
 rw [← hM2, Int.pow_succ, hc] at b2;obtain ⟨k, hk, hc2⟩ := pow_cong (a := A) (b := b) (by omega) (by omega) (e.toNat + 1);rw [hX, hY, ← hM2, Int.pow_succ, hc] at hc2;obtain ⟨q1, q2, q3⟩ := chips_pos (a := A) (by omega) (e.toNat + 1);have hp := pell A (e.toNat + 1);rw [hX] at q1 hp;rw [hY] at q2 hp
 have hc0 : 1 ≤ c := by rw [← hc]; exact Int.pow_pos (by omega)
 have hcb : 0 ≤ c * b := Int.mul_nonneg (by omega) (by omega)
 have hzk : z = k := by
  rw [← hz, show X - (A - b) * Y - c * b = M * k by omega];exact Int.mul_ediv_cancel_left k (by omega)
 refine ⟨⟨by omega, ⟨by omega, by omega, ?_⟩, ⟨by omega, by omega, ?_⟩, by omega, hM2, by rw [hzk]; omega, by omega⟩, ?_⟩
 ·rw [show (e + 2).toNat = e.toNat + 2 by omega]; exact hA
 ·rw [show (e + 1).toNat = e.toNat + 1 by omega]; exact hY
 ·simp only [List.forall_mem_cons];exact ⟨by omega, he, by omega, by omega, q2, by omega, by omega, by omega, by omega, by omega, by simp⟩
end Go.AL
/- The reference's links of powers. -/
namespace Go.Proofs.YtcaecieigoplbaaGreat
open Go.AL
theorem v11_ok {i : Int} (hi : (decide (0 ≤ i) && decide (i < 10)) = true) : PureFn Tryz.prog 94 [aN i] (aP (mkP 10 (varU 10 i.toNat))) := by
 refine PureFn.of_body Tryz.func94 rfl Tryz.ntmps94 rfl rfl ?_;(repeat' (first |refine qv ?_ |apply qn |apply qs |apply qr |refine qe ?_|fail));refine qc (rVarK (V := 10) (i := i) rfl hi) ?_;(repeat' (first |apply qn |refine qe ?_ |apply qt));exact RetOk.of rfl (AV.Le.refl _)
theorem n11_ok {c : Int} (hc : (decide (c.natAbs < 4294967296)) = true) : PureFn Tryz.prog 95 [aN c] (aP (mkP 10 (conU 10 c))) := by
 refine PureFn.of_body Tryz.func95 rfl Tryz.ntmps95 rfl rfl ?_;have := of_decide_eq_true hc;(repeat' (first |refine qv ?_ |apply qn |apply qs |apply qr |refine qe ?_|fail));refine qc (rOf_ok c (by omega) (by omega)) ?_;skip;refine qc (rConK (V := 10) (c := c) rfl hc) ?_;(repeat' (first |apply qn |refine qe ?_ |apply qt));exact RetOk.of rfl (AV.Le.refl _)
theorem equal11_ok {a b : List UT} (ha : chkR 10 a = true) (hb : chkR 10 b = true) (hc : chkR 10 (subL a b) = true) : PureFn Tryz.prog 96 [aP (mkP 10 a), aP (mkP 10 b)] (aL (linkR 10 0 [subL a b])) := by
 refine PureFn.of_body Tryz.func96 rfl Tryz.ntmps96 rfl rfl ?_;refine AWP.seqS ?_;(repeat' (first |apply qn |apply qr |refine qe ?_|fail));refine ⟨?_⟩;(repeat' (first |apply qs |apply qr));refine qc (rFirst_ok 10 (by omega)) ?_;(repeat' (first |refine qv ?_|fail));refine qc (rSubK (V := 10) rfl ha hb) ?_;skip;refine ql eP [mkP 10 (subL a b)] ?_;skip;refine qc (rMakeK1 (V := 10) (kind := 0) rfl hc) ?_;(repeat' (first |refine Fl.nil (fun _ => by kernel_rfl) ?_ |refine qe ?_ |apply qt));exact RetOk.of rfl (AV.Le.refl _)
set_option maxRecDepth 10000 in
theorem rPowerLinks_ok : PureFn Tryz.prog 30 [] (aS pwS) := by
 refine PureFn.of_body Tryz.func30 rfl Tryz.ntmps30 rfl rfl ?_;refine AWP.seqS ?_;(repeat' (first |apply qn |apply qr |refine qe ?_|fail));refine ⟨?_⟩;(repeat' (first | refine Fl.v rfl rfl rfl ?_ | refine Fl.b rfl rfl rfl rfl ?_ | refine Fl.call rfl (v11_ok (by rfl)) rfl rfl rfl (LeL.refl _) ?_ | refine Fl.call rfl (n11_ok (by rfl)) rfl rfl rfl (LeL.refl _) ?_ | refine Fl.call rfl (rFirst_ok 10 (by omega)) rfl rfl rfl (LeL.refl _) ?_ | refine Fl.call rfl (rAddK (by rfl) (by kernel_rfl) (by kernel_rfl)) rfl rfl rfl (LeL.refl _) ?_ | refine Fl.call rfl (rMulK (by rfl) (by kernel_rfl) (by kernel_rfl) (by kernel_rfl)) rfl rfl rfl (LeL.refl _) ?_ | refine Fl.call rfl (rSubK (by rfl) (by kernel_rfl) (by kernel_rfl)) rfl rfl rfl (LeL.refl _) ?_ | refine Fl.call rfl (equal11_ok (by kernel_rfl) (by kernel_rfl) (by kernel_rfl)) rfl rfl rfl (LeL.refl _) ?_ | refine Fl.call rfl (rMakeK3 (by rfl) (by kernel_rfl) (by kernel_rfl) (by kernel_rfl)) rfl rfl rfl (LeL.refl _) ?_ | refine Fl.lit rfl rfl rfl rfl rfl eP [mkP 10 _, mkP 10 _, mkP 10 _] rfl rfl rfl rfl (by intro _ _; rfl) rfl ?_ | refine Fl.lit rfl rfl rfl rfl rfl eL [linkR 10 _ _, linkR 10 _ _, linkR 10 _ _, linkR 10 _ _, linkR 10 _ _, linkR 10 _ _, linkR 10 _ _] rfl rfl rfl rfl (by intro _ _; rfl) rfl ?_ | refine Fl.nilF ?_ | refine Fl.nil (fun _ => by kernel_rfl) ?_ | refine AWP.seq ?_ | refine AWP.region ?_ | refine AWP.ret ?_ | fail));refine RetOk.of rfl (AV.Le.agg (LeL.cons (AV.Le.refl _) (LeL.cons (AV.Le.sl ?_) LeL.nil)));kernel_rfl
end Go.Proofs.YtcaecieigoplbaaGreat
namespace Go.AL
end Go.AL
namespace Go.Proofs.YtcaecieigoplbaaGreat
open Go.AL

theorem rCmp_ok (x y : Int) (hx : lenI x ≤ 100000) (hy : lenI y ≤ 100000) : PureFn Tryz.prog 33 [aX x, aX y] (aN (cmpI x y)) := by
 refine PureFn.of_body Tryz.func33 rfl Tryz.ntmps33 rfl rfl ?_;have h1 := rorder_ok x.natAbs y.natAbs (by omega) (by omega) hx hy;have h2 := rorder_ok y.natAbs x.natAbs (by omega) (by omega) hy hx;have c := cmpI_cases x y;by_cases hx0 : x < 0
 ·by_cases hy0 : y < 0
  ·have c2 := cmpI_cases (y.natAbs : Int) (x.natAbs : Int);(repeat' (first |refine qv ?_ |apply qn |apply qs |apply qr |refine qe ?_ |refine Fl.skip rfl rfl ?_ |refine AWP.condF rfl ?_ |(refine AWP.condD rfl ?_ ?_ <;> intro _ <;> try (exfalso; omega)) |(refine AWP.condN rfl ?_ ?_ <;> intro _ <;> try (exfalso; omega)) |apply qb |(refine Fl.splitD rfl rfl ?_ ?_ <;> intro _ <;> try (exfalso; omega)) |(refine Fl.splitN rfl rfl ?_ ?_ <;> intro _ <;> try (exfalso; omega))));refine qc (h2) ?_;(repeat' (first |refine qv ?_ |apply qn |apply qt));exact RetOk.of rfl (AV.Le.int (by omega))
  ·(repeat' (first |refine qv ?_ |apply qn |apply qs |apply qr |refine qe ?_ |(refine AWP.condN rfl ?_ ?_ <;> intro _ <;> try (exfalso; omega)) |apply qb |apply qt |(refine Fl.splitD rfl rfl ?_ ?_ <;> intro _ <;> try (exfalso; omega))));exact RetOk.of rfl (AV.Le.int (by omega))
 ·by_cases hy0 : y < 0
  ·(repeat' (first |refine qv ?_ |apply qn |apply qs |apply qr |refine qe ?_ |refine Fl.skip rfl rfl ?_ |refine AWP.condF rfl ?_ |(refine AWP.condD rfl ?_ ?_ <;> intro _ <;> try (exfalso; omega)) |apply qb |apply qt |(refine Fl.splitD rfl rfl ?_ ?_ <;> intro _ <;> try (exfalso; omega)) |(refine Fl.splitN rfl rfl ?_ ?_ <;> intro _ <;> try (exfalso; omega))));exact RetOk.of rfl (AV.Le.int (by omega))
  ·have c2 := cmpI_cases (x.natAbs : Int) (y.natAbs : Int);(repeat' (first |refine qv ?_ |apply qn |apply qs |apply qr |refine qe ?_ |refine Fl.skip rfl rfl ?_ |refine AWP.condF rfl ?_ |(refine AWP.condD rfl ?_ ?_ <;> intro _ <;> try (exfalso; omega)) |apply qb |apply qk |(refine Fl.splitD rfl rfl ?_ ?_ <;> intro _ <;> try (exfalso; omega)) |(refine Fl.splitN rfl rfl ?_ ?_ <;> intro _ <;> try (exfalso; omega))));refine qc (h1) ?_;(repeat' (first |refine qv ?_ |apply qn |apply qt));exact RetOk.of rfl (AV.Le.int (by omega))
theorem rNeg_ok (x : Int) (hx : lenI x ≤ 100000) : PureFn Tryz.prog 106 [aX x] (aX (-x)) := by
 refine PureFn.of_body Tryz.func106 rfl Tryz.ntmps106 rfl rfl ?_;have hv : val (toW x.natAbs) = (x.natAbs : Int) := val_toW (by omega)
 have hsg : sg (!decide (x < 0)) (val (toW x.natAbs)) = -x := by
  rw [hv];by_cases h : x < 0
  ·simp [sg, h]; omega
  ·simp [sg, h]; omega
 have hm := rMake_ok (!decide (x < 0)) (toW x.natAbs) (toW_ok _) hx;rw [hsg] at hm;(repeat' (first |refine qv ?_ |apply qn |apply qs |apply qr |refine qe ?_|fail));refine qc (hm) ?_;(repeat' (first |apply qn |refine qe ?_ |apply qt));exact RetOk.of rfl (AV.Le.refl _)
theorem rSub_ok (x y : Int) (hx : lenI x ≤ 40000) (hy : lenI y ≤ 40000) : PureFn Tryz.prog 61 [aX x, aX y] (aX (x - y)) := by
 refine PureFn.of_body Tryz.func61 rfl Tryz.ntmps61 rfl rfl ?_;have ha := rAdd_ok x (-y) hx (by rw [Int.natAbs_neg]; exact hy);rw [← Int.sub_eq_add_neg] at ha;(repeat' (first |refine qv ?_ |apply qn |apply qs |apply qr |refine qe ?_|fail));refine qc (rNeg_ok y (by omega)) ?_;skip;refine qc (ha) ?_;(repeat' (first |refine Fl.nil (fun _ => by kernel_rfl) ?_ |refine qe ?_ |apply qt));exact RetOk.of rfl (AV.Le.refl _)
end Go.Proofs.YtcaecieigoplbaaGreat
namespace Go.AL
end Go.AL
namespace Go.Proofs.YtcaecieigoplbaaGreat
open Go.AL

end Go.Proofs.YtcaecieigoplbaaGreat
namespace Go.AL
def bitl (n : Nat) : Nat := if n = 0 then 0 else Nat.log2 n + 1
theorem bitl_eq {n k : Nat} (h1 : 2 ^ k ≤ n) (h2 : n < 2 ^ (k + 1)) : bitl n = k + 1 := by
 have := Nat.two_pow_pos k;rw [bitl, if_neg (by omega), (Nat.log2_eq_iff (by omega)).2 ⟨h1, h2⟩]
theorem bitl_lt (n : Nat) : n < 2 ^ bitl n := by
 unfold bitl;split
 ·omega
 ·exact Nat.lt_log2_self
theorem bitl_ge {n : Nat} (h : n ≠ 0) : 1 ≤ bitl n ∧ 2 ^ (bitl n - 1) ≤ n := by
 unfold bitl;rw [if_neg h];exact ⟨by omega, Nat.log2_self_le h⟩
theorem bitl_le {n k : Nat} (h : n < 2 ^ k) : bitl n ≤ k := by
 rcases Nat.eq_zero_or_pos n with h0 | h0
 ·rw [bitl, if_pos h0]; omega
 ·have h1 := bitl_ge (n := n) (by omega)
  have h2 : 2 ^ (bitl n - 1) < 2 ^ k := by omega
  have := (Nat.pow_lt_pow_iff_right (by omega : 1 < 2)).1 h2;omega
theorem bitl_words {m n k : Nat} {u lo : Int} (hk : 1 ≤ k) (hlo : 0 ≤ lo) (hlo2 : lo < BB n) (hm : (m : Int) = lo + BB n * u) (h1 : 2 ^ (k - 1) ≤ u.toNat) (h2 : u.toNat < 2 ^ k) : bitl m = 32 * n + k := by
 have hB : BB n = ((2 ^ (32 * n) : Nat) : Int) := by rw [BB_pow]; simp
 have hup : u = (u.toNat : Int) := by
  have := Nat.two_pow_pos (k - 1);omega
 have hlt : ∃ l : Nat, lo = (l : Int) := ⟨lo.toNat, by omega⟩;obtain ⟨l, rfl⟩ := hlt
 have hm' : m = l + 2 ^ (32 * n) * u.toNat := by
  rw [hB, hup] at hm;exact_mod_cast hm
 have hl : l < 2 ^ (32 * n) := by rw [hB] at hlo2; exact_mod_cast hlo2
 have e : 32 * n + k = (32 * n + (k - 1)) + 1 := by omega
 rw [e];refine bitl_eq ?_ ?_
 ·rw [Nat.pow_add, hm'];have := Nat.mul_le_mul_left (2 ^ (32 * n)) h1;omega
 ·rw [← e, Nat.pow_add, hm'];have h3 : u.toNat + 1 ≤ 2 ^ k := h2;have := Nat.mul_le_mul_left (2 ^ (32 * n)) h3;rw [Nat.mul_add] at this;omega
end Go.AL
namespace Go.Proofs.YtcaecieigoplbaaGreat
open Go.AL

theorem rBits_ok (x : Int) (hx : lenI x ≤ 100000) : PureFn Tryz.prog 105 [aX x] (aN (bitl x.natAbs)) := by
 refine PureFn.of_body Tryz.func105 rfl Tryz.ntmps105 rfl rfl ?_;have wx := toW_ok x.natAbs;have vx := val_toW (show (0 : Int) ≤ x.natAbs by omega);obtain ⟨n, hn⟩ : ∃ n, n = (toW x.natAbs).length := ⟨_, rfl⟩
 have hx' : n ≤ 100000 := by rw [hn]; exact hx
 by_cases h0 : n = 0
 ·have hx0 : x.natAbs = 0 := by
   have : toW x.natAbs = [] := List.eq_nil_of_length_eq_zero (by omega);rw [this, val_nil] at vx;omega
  (repeat' (first |refine qv ?_ |apply qn |apply qs |apply qr |refine qe ?_ |(refine AWP.condD rfl ?_ ?_ <;> intro _ <;> try (exfalso; omega)) |apply qt));exact RetOk.of rfl (AV.Le.int (by rw [hx0]; rfl))
 ·obtain ⟨u, hu⟩ : ∃ u, (toW x.natAbs)[n - 1]? = some u := ⟨_, List.getElem?_eq_getElem (by omega)⟩
  have hu' : (toW x.natAbs)[(((toW x.natAbs).length : Int) - 1).toNat]? = some u := by rwa [show (((toW x.natAbs).length : Int) - 1).toNat = n - 1 by omega]
  have hub := wx u (List.mem_of_getElem? hu);have hval := val_take_succ hu;rw [show n - 1 + 1 = n by omega, hn, List.take_length, vx, ← hn] at hval;have wt : WOk ((toW x.natAbs).take (n - 1)) := fun y hy => wx y (List.mem_of_mem_take hy);have hlo := val_nonneg wt;have hlo2 := val_lt wt;rw [List.length_take_of_le (by omega)] at hlo2
  have hx1 : x.natAbs ≠ 0 := by
   intro h;rw [h, show ((0 : Nat) : Int) = 0 from rfl, toW_zero] at hn;exact h0 hn
  have hge := BB_len_le (z := x.natAbs) (by omega);rw [← hn] at hge
  have hu1 : 1 ≤ u := by
   rcases Int.lt_or_le u 1 with h | h
   ·have : u = 0 := by omega
    subst this;omega
   ·exact h
  (repeat' (first |refine qv ?_ |apply qn |apply qs |apply qr |refine qw ?_ |refine qe ?_ |(refine AWP.condD rfl ?_ ?_ <;> intro _ <;> try (exfalso; omega)) |apply qb |apply qk |refine qK ?_|fail));refine AWP.loop (G := Nat) (fun k => k ≤ 32 ∧ (k = 0 ∨ 2 ^ (k - 1) ≤ u.toNat)) (fun k => St.of [] [(3, aN (toW x.natAbs).length), (4, aN k), (5, .v (.int .u32 ((u.toNat / 2 ^ k : Nat) : Int)))] []) (fun k => u.toNat / 2 ^ k) 0 ⟨by omega, .inl rfl⟩ ?_ ?_
  ·refine Ent.of [] ?_ ?_ rfl rfl;(repeat' (first |exact True.intro |refine ⟨⟨AV.Le.refl _, rfl⟩, ?_⟩ |refine ⟨⟨AV.Le.int ?_, rfl⟩, ?_⟩|fail));rw [Nat.pow_zero, Nat.div_one]; omega
  ·intro k ⟨k0, k1⟩;obtain ⟨q, hq⟩ : ∃ q, q = u.toNat / 2 ^ k := ⟨_, rfl⟩
   have hq1 : u.toNat / 2 ^ (k + 1) = q / 2 := by rw [hq, Nat.pow_succ, ← Nat.div_div_eq_div_mul]
   rw [← hq];by_cases hw : 0 < q
   ·have h2k : 2 ^ k ≤ u.toNat := by
     rcases Nat.lt_or_ge u.toNat (2 ^ k) with h | h
     ·rw [Nat.div_eq_of_lt h] at hq; omega
     ·exact h
    have hk32 : k < 32 := by
     have h3 : 2 ^ k < 2 ^ 32 := by omega
     exact (Nat.pow_lt_pow_iff_right (by omega : 1 < 2)).1 h3
    have hhi : hiK .u32 = 4294967295 := rfl
    have hqu : q ≤ u.toNat := by rw [hq]; exact Nat.div_le_self _ _
    (repeat' (first |refine qv ?_ |apply qn |apply qs |apply qr |refine qw ?_ |(refine AWP.condD rfl ?_ ?_ <;> intro _ <;> try (exfalso; omega)) |apply qb |apply qk));refine LoopEnd.of (k + 1) ⟨by omega, .inr (by simpa using h2k)⟩ (by rw [hq1, ← hq]; omega) ?_;refine Ent.of [] ?_ ?_ rfl rfl;(repeat' (first |exact True.intro |refine ⟨⟨AV.Le.refl _, rfl⟩, ?_⟩ |refine ⟨⟨AV.Le.int ?_, rfl⟩, ?_⟩|fail));rw [hq1]; omega
   ·have hlt : u.toNat < 2 ^ k := by
     rcases Nat.lt_or_ge u.toNat (2 ^ k) with h | h
     ·exact h
     ·have := Nat.div_pos h (Nat.two_pow_pos k); omega
    have hk1 : 1 ≤ k := by
     rcases k1 with h | h
     ·subst h; simp at hlt; omega
     ·rcases Nat.eq_zero_or_pos k with h' | h'
      ·subst h'; simp at hlt; omega
      ·exact h'
    have hb := bitl_words hk1 hlo hlo2 hval (k1.resolve_left (by omega)) hlt;(repeat' (first |refine qv ?_ |apply qn |apply qs |apply qr |refine qw ?_ |(refine AWP.condD rfl ?_ ?_ <;> intro _ <;> try (exfalso; omega)) |apply qx |apply qt));exact RetOk.of rfl (AV.Le.int (by rw [hb]; omega))
end Go.Proofs.YtcaecieigoplbaaGreat
namespace Go.AL
theorem pow_ge_one {x : Int} (h : 1 ≤ x) : ∀ k : Nat, 1 ≤ x ^ k
 | 0 => by rw [Int.pow_zero]; omega
 | k + 1 => by
  rw [Int.pow_succ];have h1 := pow_ge_one h k;have := Int.mul_le_mul h1 h (by omega) (by omega);omega
theorem le_mul_one {a b : Int} (ha : 1 ≤ a) (hb : 0 ≤ b) : b ≤ b * a := by
 have := Int.mul_le_mul_of_nonneg_left ha hb;omega
theorem sq_pow (x : Int) (k : Nat) : (x * x) ^ k = x ^ (2 * k) := by
 rw [Int.mul_pow, ← Int.pow_add]; congr 1; omega
theorem lt_BB {m k n : Nat} (h : m ≤ 2 ^ k) (hk : k < 32 * n) : (m : Int) < BB n := by
 have h3 : 2 ^ k < 2 ^ (32 * n) := Nat.pow_lt_pow_right (by omega) hk;have h4 : m < 2 ^ (32 * n) := Nat.lt_of_le_of_lt h h3;rw [BB_pow];exact_mod_cast h4
theorem bitl_BB {m n : Nat} (h : (m : Int) < BB n) : bitl m ≤ 32 * n := bitl_le (by
 rw [BB_pow] at h
 exact_mod_cast h)
theorem pow_small {p n b : Int} (hp : 2 ≤ p) (h0 : 0 ≤ n) (hb : b = (bitl p.natAbs : Int)) (h : n * (b - 1) ≤ 131072) : p ^ n.toNat < BB 8193 := by
 have hb2 : 2 ≤ b := by
  have h1 := bitl_ge (n := p.natAbs) (by omega);have h2 := bitl_lt p.natAbs;rcases Nat.lt_or_ge (bitl p.natAbs) 2 with h3 | h3
  ·have : bitl p.natAbs = 1 := by omega
   rw [this] at h2; omega
  ·omega
 have h1 : p.natAbs ^ n.toNat ≤ (2 ^ bitl p.natAbs) ^ n.toNat := Nat.pow_le_pow_left (Nat.le_of_lt (bitl_lt _)) _;rw [← Nat.pow_mul] at h1
 have h2 : bitl p.natAbs * n.toNat ≤ 262144 := by
  have e1 : n * b ≤ n * (2 * (b - 1)) := Int.mul_le_mul_of_nonneg_left (by omega) h0
  have e2 : n * (2 * (b - 1)) = 2 * (n * (b - 1)) := by rw [← Int.mul_assoc, Int.mul_comm n 2, Int.mul_assoc]
  have e3 : ((bitl p.natAbs * n.toNat : Nat) : Int) = n * b := by
   rw [Int.natCast_mul, hb, Int.mul_comm, show ((n.toNat : Nat) : Int) = n by omega]
  omega
 have h5 : p ^ n.toNat = ((p.natAbs ^ n.toNat : Nat) : Int) := by
  rw [Int.natCast_pow, show ((p.natAbs : Nat) : Int) = p by omega]
 rw [h5];exact lt_BB h1 (by omega)
end Go.AL
namespace Go.Proofs.YtcaecieigoplbaaGreat
open Go.AL

set_option maxHeartbeats 1000000 in
theorem rPower_ok (p n : Int) (hp : 2 ≤ p) (hpf : Fit p) (h0 : 0 ≤ n) (h1 : n ≤ 163840) (b : Int) (hb : b = (bitl p.natAbs : Int)) (h : n * (b - 1) ≤ 131072) : PureFn Tryz.prog 36 [aX p, aN n] (.tup [aX (p ^ n.toNat), aB true]) := by
 refine PureFn.of_body Tryz.func36 rfl Tryz.ntmps36 rfl rfl ?_;have hlp := hpf.len
 have hb2 : 2 ≤ b := by
  have h1 := bitl_ge (n := p.natAbs) (by omega);have h2 := bitl_lt p.natAbs;rcases Nat.lt_or_ge (bitl p.natAbs) 2 with h3 | h3
  ·have : bitl p.natAbs = 1 := by omega
   rw [this] at h2; omega
  ·omega
 have hbu : b ≤ 131072 := by
  have h3 : bitl p.natAbs ≤ 32 * 4096 := bitl_BB (by have := hpf; unfold Fit at this; exact this);omega
 have hsmall := pow_small hp h0 hb h;have hbits := rBits_ok p (show lenI p ≤ 100000 by unfold lenI; omega);rw [← hb] at hbits;have hhi : hiK .i64 = 9223372036854775807 := rfl;have hquo : n ≤ 262144 / (b - 1) := (Int.le_ediv_iff_mul_le (by omega)).2 (by omega);obtain ⟨T, hT⟩ : ∃ T, T = p ^ n.toNat := ⟨_, rfl⟩
 have hp8 : p < BB 8193 := by
  have := hpf;unfold Fit at this;have h3 := BB_le (show 4096 ≤ 8193 by omega);omega
 rw [← hT] at hsmall ⊢;(repeat' (first |refine qv ?_ |apply qn |apply qs |apply qr |refine qe ?_|fail));refine qc (hbits) ?_;(repeat' (first |refine qv ?_ |apply qn |apply qs |apply qr |refine qw ?_ |(refine AWP.condD rfl ?_ ?_ <;> intro _ <;> try (exfalso; omega)) |apply qk));refine qc (rOf_ok 1 (by omega) (by omega)) ?_;(repeat' (first |refine qv ?_ |apply qn |apply qs |apply qr |refine qe ?_ |apply qb));refine AWP.loop (G := Int × Int × Int) (fun (m, o, x) => (0 ≤ m ∧ m ≤ n) ∧ (1 ≤ o ∧ o < BB 8193) ∧ (1 ≤ x ∧ x < BB 8193) ∧ o * x ^ m.toNat = T)
  (fun (m, o, x) => St.of [] [(1, aN m), (4, .ptr 4 0), (7, .ptr 7 0), (8, .ptr 700 0)] [(4, .cells [aB false, .v (.slice none 0 0)] 35), (7, .cells (eX o) 35), (700, .cells (eX x) 35)])
  (fun (m, o, x) => m.toNat) (n, 1, p) ⟨⟨h0, by omega⟩, ⟨by omega, by have := BB_le (show 1 ≤ 8193 by omega); rw [BB_succ 0, BB_zero] at this; omega⟩, ⟨by omega, hp8⟩, by rw [Int.one_mul]; exact hT.symm⟩ ?_ ?_
 ·refine Ent.of [(700, 8)] ?_ ?_ rfl rfl;(repeat' (first |exact True.intro |refine ⟨⟨AV.Le.refl _, rfl⟩, ?_⟩ |refine ⟨⟨⟨_, rfl, BLe.cells (LeL.refl _)⟩, rfl⟩, ?_⟩|fail))
 ·intro (m, o, x) ⟨⟨k0, k1⟩, ⟨k2, k3⟩, ⟨k4, k5⟩, k6⟩;have lo : lenI o ≤ 8193 := lenI_le.2 (by omega);have lx : lenI x ≤ 8193 := lenI_le.2 (by omega);have hmo := rMul_ok o x (show lenI o ≤ 40000 by omega) (show lenI x ≤ 40000 by omega);have hmx := rMul_ok x x (show lenI x ≤ 40000 by omega) (show lenI x ≤ 40000 by omega)
  have hox : 1 ≤ o * x := by have := le_mul_one k4 (show 0 ≤ o by omega); omega
  have hxx : 1 ≤ x * x := by have := le_mul_one k4 (show 0 ≤ x by omega); omega
  by_cases hm : 0 < m
  ·have hodd : m % 2 = 1 → o * x ≤ T ∧ o * x * (x * x) ^ (m / 2).toNat = T := fun hmo => by
    have e : x ^ m.toNat = x * (x * x) ^ (m / 2).toNat := by
     rw [sq_pow, Int.mul_comm, ← Int.pow_succ]; congr 1; omega
    rw [e, ← Int.mul_assoc] at k6;exact ⟨by rw [← k6]; exact le_mul_one (pow_ge_one hxx _) (by omega), k6⟩
   have heven : m % 2 ≠ 1 → o * (x * x) ^ (m / 2).toNat = T := fun hmo => by
    have e : x ^ m.toNat = (x * x) ^ (m / 2).toNat := by
     rw [sq_pow]; congr 1; omega
    rw [e] at k6;exact k6
   have hsq : 1 < m → x * x ≤ T := fun hm1 => by
    have e : x ^ m.toNat = (x * x) * x ^ (m.toNat - 2) := by
     rw [show x * x = x ^ 2 by rw [Int.pow_succ, Int.pow_succ, Int.pow_zero, Int.one_mul], ← Int.pow_add]; congr 1; omega
    rw [e, ← Int.mul_assoc] at k6;rw [← k6];have g1 := le_mul_one (pow_ge_one k4 (m.toNat - 2)) (show 0 ≤ o * (x * x) from Int.mul_nonneg (by omega) (by omega));have g2 := Int.mul_le_mul_of_nonneg_right k2 (show 0 ≤ x * x by omega);omega
   by_cases hr : m % 2 = 1
   ·obtain ⟨q1, q2⟩ := hodd hr;by_cases hm1 : 1 < m
    ·(repeat' (first |refine qv ?_ |apply qn |apply qs |apply qr |refine qw ?_ |(refine AWP.condD rfl ?_ ?_ <;> intro _ <;> try (exfalso; omega)) |apply qb |apply qk));refine qc (hmo) ?_;(repeat' (first |refine qv ?_ |apply qn |apply qs |apply qr |refine qe ?_ |(refine AWP.condD rfl ?_ ?_ <;> intro _ <;> try (exfalso; omega))));refine qc (hmx) ?_;(repeat' (first |refine qv ?_ |apply qn |apply qs |apply qr |refine qw ?_ |refine qe ?_|fail));refine LoopEnd.of (m / 2, o * x, x * x) ⟨⟨by omega, by omega⟩, ⟨by omega, by omega⟩, ⟨by omega, by have := hsq hm1; omega⟩, q2⟩ (show (m / 2).toNat < m.toNat by omega) ?_;refine Ent.of [(700, 8)] ?_ ?_ rfl rfl;(repeat' (first |exact True.intro |refine ⟨⟨AV.Le.refl _, rfl⟩, ?_⟩ |refine ⟨⟨⟨_, rfl, BLe.cells (LeL.refl _)⟩, rfl⟩, ?_⟩|fail))
    ·have hm2 : m = 1 := by omega
     subst hm2;(repeat' (first |refine qv ?_ |apply qn |apply qs |apply qr |refine qw ?_ |refine AWP.condT rfl ?_ |apply qb |apply qk));refine qc (hmo) ?_;(repeat' (first |refine qv ?_ |apply qn |apply qs |apply qr |refine qw ?_ |refine qe ?_ |refine AWP.condF rfl ?_ |apply qk));refine LoopEnd.of (0, o * x, x) ⟨⟨by omega, by omega⟩, ⟨by omega, by omega⟩, ⟨by omega, k5⟩, by simpa using q2⟩ (show (0 : Int).toNat < (1 : Int).toNat by decide) ?_;refine Ent.of [(700, 8)] ?_ ?_ rfl rfl;(repeat' (first |exact True.intro |refine ⟨⟨AV.Le.refl _, rfl⟩, ?_⟩ |refine ⟨⟨⟨_, rfl, BLe.cells (LeL.refl _)⟩, rfl⟩, ?_⟩|fail))
   ·have q2 := heven hr;(repeat' (first |refine qv ?_ |apply qn |apply qs |apply qr |refine qw ?_ |(refine AWP.condD rfl ?_ ?_ <;> intro _ <;> try (exfalso; omega)) |apply qb |apply qk));refine qc (hmx) ?_;(repeat' (first |refine qv ?_ |apply qn |apply qs |apply qr |refine qw ?_ |refine qe ?_|fail));refine LoopEnd.of (m / 2, o, x * x) ⟨⟨by omega, by omega⟩, ⟨by omega, by omega⟩, ⟨by omega, by have := hsq (by omega); omega⟩, q2⟩ (show (m / 2).toNat < m.toNat by omega) ?_;refine Ent.of [(700, 8)] ?_ ?_ rfl rfl;(repeat' (first |exact True.intro |refine ⟨⟨AV.Le.refl _, rfl⟩, ?_⟩ |refine ⟨⟨⟨_, rfl, BLe.cells (LeL.refl _)⟩, rfl⟩, ?_⟩|fail))
  ·rw [show m.toNat = 0 by omega, Int.pow_zero, Int.mul_one] at k6;rw [← k6];(repeat' (first |refine qv ?_ |apply qn |apply qs |apply qr |refine qe ?_ |(refine AWP.condD rfl ?_ ?_ <;> intro _ <;> try (exfalso; omega)) |apply qx |apply qt));exact RetOk.of rfl (AV.Le.refl _)
end Go.Proofs.YtcaecieigoplbaaGreat
namespace Go.AL
theorem psi_one (a : Int) : psiN a 1 = 1 := by rw [psi_succ, psi_zero, Int.mul_zero]; rfl
theorem psi_rec (a : Int) (n : Nat) : (a + a) * psiN a (n + 1) - psiN a n = psiN a (n + 2) := by
 have h1 := psi_succ a (n + 1);have h2 := chi_succ a n;have h3 := psi_succ a n;rw [show n + 1 + 1 = n + 2 from rfl] at h1;grind
theorem psi_up {a : Int} (ha : 2 ≤ a) (n : Nat) : psiN a (n + 1) ≤ (a + a) * psiN a n ∨ n = 0 := by
 cases n with
 | zero => exact .inr rfl
 | succ n =>
  left;have h1 := psi_rec a n;have h2 := (cp_pos ha n).2.1;rw [show n + 1 + 1 = n + 2 from rfl];omega
theorem psi_bound {a : Int} (ha : 2 ≤ a) (hf : Fit a) {n k : Nat} (hn : n ≠ 0) (h : psiN a n < BB k) : psiN a (n + 1) < BB (4097 + k) := by
 have h1 := (psi_up ha n).resolve_right hn
 have h2 : a + a < BB 4097 := by
  have := hf;unfold Fit at this;rw [BB_succ];have := BB_pos 4096;omega
 have h3 := (cp_pos ha n).2.1;have h4 := BB_pos k;rw [BB_add];have g1 : (a + a) * psiN a n ≤ (a + a) * BB k := Int.mul_le_mul_of_nonneg_left (by omega) (by omega);have g2 : (a + a) * BB k < BB 4097 * BB k := Int.mul_lt_mul_of_pos_right h2 h4;omega
theorem twice_lt {x : Int} {k : Nat} (hx : Fit x) (hk : 4097 ≤ k) : x + x < BB k := by
 have h1 := hx;unfold Fit at h1;have h2 := BB_le hk;rw [BB_succ] at h2;have := BB_pos 4096;omega
end Go.AL
namespace Go.Proofs.YtcaecieigoplbaaGreat
open Go.AL

end Go.Proofs.YtcaecieigoplbaaGreat
/- ref01.shifted. -/
namespace Go.AL
end Go.AL
namespace Go.Proofs.YtcaecieigoplbaaGreat
open Go.AL
theorem shifted_ok (A : List Int) (k : Nat) (wx : WOk A) (hxl : A.length ≤ 80000) (hk : k < 32) : PureFn Tryz.prog 109 [aW A, aN k] (aW (wdW (A.length + 1) (val A * 2 ^ k))) := by
 refine PureFn.of_body Tryz.func109 rfl Tryz.ntmps109 rfl rfl ?_;have h2 : (0 : Int) < 2 ^ k := Int.pow_pos (by omega);refine AWP.seqS ?_;(repeat' (first |refine qv ?_ |apply qn |apply qr));refine ⟨AWP.seqS ?_⟩;(repeat' (first |refine qv ?_ |apply qn |apply qr |refine qw ?_ |refine Fl.make rfl rfl rfl rfl rfl rfl rfl rfl rfl rfl eW 0 (by exact LeL.refl _) (by rfl) (by first | omega | (dsimp only; omega)) (by first | omega | (dsimp only; omega)) (by first | omega | (dsimp only; omega)) ?_|fail));refine ⟨?_⟩;refine AWP.seqJ (G := List Int) (fun os => WOk os ∧ os.length = A.length + 1 ∧ val os = val A * 2 ^ k) (fun os => St.of [] [(5, .row 11)] [(11, .row 1 eW os 62)]) ?_ ?_
 ·(repeat' (first |refine qv ?_ |apply qn |apply qs |apply qr |apply qb));refine AWP.loop (G := Nat × List Int × Int) (fun (i, P, c) => i ≤ A.length ∧ P.length = i ∧ WOk P ∧ 0 ≤ c ∧ c < 2 ^ k ∧ val P + BB P.length * c = BB 0 * 2 ^ k * val (A.take i))
   (fun (i, P, c) => St.of [] [(0, aW A), (1, aN k), (5, .row 11), (6, aN i)] [(11, .row 1 eW (P ++ c :: List.replicate (A.length - i) 0) 62)])
   (fun (i, P, c) => A.length - i) (0, [], 0) ⟨by omega, by simp, WOk.nil, by omega, h2, by simp [val]⟩ ?_ ?_
  ·refine Ent.of [] ?_ ?_ rfl rfl;(repeat' (first |exact True.intro |refine ⟨⟨AV.Le.refl _, rfl⟩, ?_⟩ |refine ⟨⟨⟨_, rfl, BLe.row rfl⟩, rfl⟩, ?_⟩|fail))
  ·intro ⟨i, P, c⟩ ⟨h0, h1, h3, h4, h5, h6⟩
   have h5' : c < 4294967296 := Int.lt_of_lt_of_le h5 (by
    have : (2 : Int) ^ k ≤ 2 ^ 32 := pow_le_r (by omega) (by omega)
    rw [show (2 : Int) ^ 32 = 4294967296 from rfl] at this; exact this)
   have hW : WOk (P ++ c :: List.replicate (A.length - i) 0) := h3.append (WOk.cons h4 h5' (WOk.zeros _));(repeat' (first |refine qv ?_ |apply qn |apply qs |apply qr |refine qw ?_ |(refine AWP.condD rfl ?_ ?_ <;> intro _ <;> try (exfalso; omega)) |apply qb |apply qk |apply qx |(refine Fl.elW rfl rfl rfl rfl rfl rfl rfl rfl (by omega) (by omega) (by assumption) ?_; intro _ _ _ _) |refine Fl.rel rfl rfl rfl rfl rfl rfl rfl rfl (by omega) (by first | omega | (simp; omega)) ?_ |(refine Fl.rldW rfl rfl rfl rfl rfl rfl rfl (fun _ => rfl) (fun _ => rfl) (by first | omega | (simp; omega)) (by assumption) ?_; intro _ _ _ _) |refine Fl.rst rfl rfl rfl rfl rfl rfl rfl rfl rfl rfl rfl (LeL.refl _) rfl (by first | omega | (simp; omega)) ?_|fail))
   ·rename_i hi y hy hy0 hy1 x hx hx0 hx1;rw [Int.toNat_natCast] at hy;rw [get_carry (by omega)] at hx;injection hx with hx;subst hx;have hb := or_carry hk h4 h5 hy0 hy1
    have hp : (2 : Int) ^ k ≤ 2147483648 := by
     have : (2 : Int) ^ k ≤ 2 ^ 31 := pow_le_r (by omega) (by omega);rw [show (2 : Int) ^ 31 = 2147483648 from rfl] at this; exact this
    obtain ⟨Y, hY⟩ : ∃ Y, Y = y * 2 ^ k := ⟨_, rfl⟩
    have hY0 : 0 ≤ Y := by rw [hY]; exact Int.mul_nonneg hy0 (by omega)
    have hY1 : Y ≤ 4294967295 * 2 ^ k := by rw [hY]; exact Int.mul_le_mul_of_nonneg_right (by omega) (by omega)
    have hY2 : Y / 4294967296 < 2 ^ k := by omega
    have hst := left_step (S := 2 ^ k) (B := BB 0) (w := c + Y % 4294967296) (c' := Y / 4294967296) hy (by rw [h1, BB_zero]; omega) h6 (by rw [← hY]; omega);rw [← hY] at hb;refine LoopEnd.of (i + 1, P ++ [c + Y % 4294967296], Y / 4294967296) ⟨by omega, by simp; omega, h3.append (WOk.cons (by omega) hb.2 WOk.nil), by omega, hY2, hst⟩ (by simp only; omega) ?_;refine Ent.of [] ?_ ?_ rfl rfl;(repeat' (first |exact True.intro |refine ⟨⟨AV.Le.refl _, rfl⟩, ?_⟩ |refine ⟨⟨⟨_, rfl, BLe.row ?_⟩, rfl⟩, ?_⟩|fail));refine set_carry (by omega) (by omega) (by omega) ?_ ?_
    ·rw [show ((k : Int)).toNat = k from Int.toNat_natCast k, ← hY];rw [← hb.1, bitN_and32 (by omega), show Y % 18446744073709551616 % 4294967296 % 4294967296 = Y % 4294967296 by omega]
    ·rw [show ((k : Int)).toNat = k from Int.toNat_natCast k, ← hY];rw [p32];omega
   ·have hi : i = A.length := by omega
    subst hi;refine JoinOk.of (P ++ [c]) ⟨h3.append (WOk.cons h4 h5' WOk.nil), by simp; omega, ?_⟩ ?_
    ·rw [val_snoc, h6, List.take_length, BB_zero, Int.one_mul, Int.mul_comm]
    ·refine Ent.of [] ?_ ?_ rfl rfl;(repeat' (first |exact True.intro |refine ⟨⟨AV.Le.refl _, rfl⟩, ?_⟩ |refine ⟨⟨⟨_, rfl, BLe.row ?_⟩, rfl⟩, ?_⟩|fail));simp
 ·intro os ⟨h0, h1, h3⟩;(repeat' (first |refine qv ?_ |apply qn |apply qs |apply qr |apply qt));refine RetOk.ent (Ent.freeze 11 rfl) ?_;refine RetOk.of rfl ?_;rw [← h3, ← h1, ← wdW_eq h0];exact AV.Le.refl _
end Go.Proofs.YtcaecieigoplbaaGreat
/- ref01.Shift, by a number that is not negative. -/
namespace Go.Proofs.YtcaecieigoplbaaGreat
open Go.AL
theorem rShift_ok (x : Int) (d k n : Nat) (hx : 0 < x) (hxl : (toW x).length ≤ 40000) (hk : k < 32) (hd : d ≤ 30000) (hn : n = 32 * d + k) : PureFn Tryz.prog 43 [aX x, aN n] (aX (x * 2 ^ n)) := by
 refine PureFn.of_body Tryz.func43 rfl Tryz.ntmps43 rfl rfl ?_
 have ex : ((x.natAbs : Nat) : Int) = x := by omega
 have hq : (n : Int) / 32 = d := by omega
 have hl2 : (toW (x.natAbs : Int)).length ≤ 40000 := by rw [ex]; exact hxl
 have hr : (n : Int) % 32 = k := by omega
 have c1 := shifted_ok (toW x.natAbs) k (toW_ok _) (by rw [ex]; omega) hk;refine AWP.seqS ?_;(repeat' (first |apply qn |apply qr |refine qe ?_|fail));refine ⟨AWP.seqS ?_⟩;(repeat' (first |refine qv ?_ |apply qn |apply qs |apply qr |refine AWP.condT rfl ?_));refine qc (rZeroX_ok x) ?_;(repeat' (first |refine qv ?_ |apply qn |apply qs |apply qr |refine qw ?_ |refine Fl.w rfl rfl rfl ⟨by omega, by omega, by dsimp only [hiK]; omega⟩ ?_ |(refine AWP.condD rfl ?_ ?_ <;> intro _ <;> try (exfalso; omega)) |apply qk |refine Fl.make rfl rfl rfl rfl rfl rfl rfl rfl rfl rfl eW 0 (by exact LeL.refl _) (by rfl) (by first | omega | (dsimp only; omega)) (by first | omega | (dsimp only; omega)) (by first | omega | (dsimp only; omega)) ?_|fail));refine Fl.call rfl c1 rfl rfl rfl (LeL.cons (AV.Le.refl _) (LeL.cons (AV.Le.int hr) LeL.nil)) ?_;skip;refine qa (hby := (by simp only [List.length_replicate, wdW_length]; omega)) (hm := (by simp only [List.length_replicate, wdW_length]; omega)) (r := ?_);skip
 have hdt : ((n : Int) / 32).toNat = d := by omega
 obtain ⟨L, hL⟩ : ∃ L, L = List.replicate ((n : Int) / 32).toNat 0 ++ wdW ((toW (x.natAbs : Int)).length + 1) (val (toW (x.natAbs : Int)) * 2 ^ k) := ⟨_, rfl⟩
 have hLw : WOk L := by rw [hL]; exact (WOk.zeros _).append (wdW_ok _ _)
 have hLl : L.length ≤ 100000 := by rw [hL]; simp only [List.length_append, List.length_replicate, wdW_length]; omega
 have hLv : sg (decide (x < 0)) (val L) = x * 2 ^ n := by
  have h2 : (0 : Int) < 2 ^ k := Int.pow_pos (by omega)
  have h3 : (2 : Int) ^ k ≤ 4294967296 := by
   have : (2 : Int) ^ k ≤ 2 ^ 32 := pow_le_r (by omega) (by omega);rw [show (2 : Int) ^ 32 = 4294967296 from rfl] at this; exact this
  have h4 := (toW_len_le (show (0 : Int) ≤ x by omega) (toW x).length).1 (Nat.le_refl _);rw [hL, hdt, val_append, val_zeros, List.length_replicate, ex, val_toW (by omega), val_wdW _ _ (Int.mul_nonneg (by omega) (by omega)) ?_, decide_eq_false (by omega), Int.zero_add, show (2 : Int) ^ n = BB d * 2 ^ k by rw [BB_pow, ← Int.pow_add]; congr 1]
  ·simp only [sg, Bool.false_eq_true, if_false];grind
  ·rw [BB_succ];have h5 : x * 2 ^ k ≤ x * 4294967296 := Int.mul_le_mul_of_nonneg_left h3 (by omega);omega
 rw [← hL];refine Fl.callF rfl 23 rfl (rMake_ok (decide (x < 0)) L hLw hLl) rfl rfl rfl (LeL.refl _) ?_;rw [hLv];(repeat' (first |refine Fl.nil (fun _ => by kernel_rfl) ?_ |refine qe ?_ |apply qt));exact RetOk.of rfl (AV.Le.refl _)
end Go.Proofs.YtcaecieigoplbaaGreat
/- ref01.short: by one word. -/
namespace Go.Proofs.YtcaecieigoplbaaGreat
open Go.AL
theorem short_ok (x b : Int) (hx : 0 ≤ x) (hxl : (toW x).length ≤ 50000) (hb : 0 < b) (hb1 : b < 4294967296) : PureFn Tryz.prog 153 [aW (toW x), .v (.int .u32 b)] (.tup [aW (wdW (toW x).length (x / b)), .v (.int .u32 (x % b))]) := by
 refine PureFn.of_body Tryz.func153 rfl Tryz.ntmps153 rfl rfl ?_;have wx := toW_ok x;have hsx := val_toW hx
 generalize toW x = A at *
 subst hsx;(repeat' (first |refine qv ?_ |apply qn |apply qs |apply qr |refine qw ?_ |apply qb |refine Fl.make rfl rfl rfl rfl rfl rfl rfl rfl rfl rfl eW 0 (by exact LeL.refl _) (by rfl) (by first | omega | (dsimp only; omega)) (by first | omega | (dsimp only; omega)) (by first | omega | (dsimp only; omega)) ?_|fail));refine AWP.loop (G := Nat × List Int × Int) (fun (i, os, r) => os.length + i = A.length ∧ WOk os ∧ 0 ≤ r ∧ r < b ∧ val (A.drop i) = val os * b + r)
  (fun (i, os, r) => St.of [] [(0, aW A), (1, .v (.int .u32 b)), (6, .row 11), (7, aU r), (8, aN ((i : Int) - 1))] [(11, .row 1 eW (List.replicate i 0 ++ os) 62)])
  (fun (i, os, r) => i) (A.length, [], 0) ⟨by simp, WOk.nil, by omega, by omega, by simp [val]⟩ ?_ ?_
 ·refine Ent.of [] ?_ ?_ rfl rfl;(repeat' (first |exact True.intro |refine ⟨⟨AV.Le.refl _, rfl⟩, ?_⟩ |refine ⟨⟨⟨_, rfl, BLe.row ?_⟩, rfl⟩, ?_⟩|fail));simp
 ·intro ⟨i, os, r⟩ ⟨h0, h1, h2, h3, h4⟩;refine AWP.seqS ?_;(repeat' (first |refine qv ?_ |apply qn |apply qs |apply qr |(refine AWP.condD rfl ?_ ?_ <;> intro _ <;> try (exfalso; omega)) |apply qk |apply qx |apply qt))
  ·refine ⟨?_⟩;refine AWP.seq (AWP.block (AWP.seqJ (G := Int) (fun y => A[i - 1]? = some y ∧ 0 ≤ y ∧ y < 4294967296) (fun y => St.of [] [(0, aW A), (1, .v (.int .u32 b)), (6, .row 11), (7, aU (r * 4294967296 + y)), (8, aN ((i : Int) - 1))] [(11, .row 1 eW (List.replicate i 0 ++ os) 62)]) ?_ ?_))
   ·(repeat' (first |refine qv ?_ |apply qn |apply qr |refine qw ?_ |(refine Fl.elW rfl rfl rfl rfl rfl rfl rfl rfl (by omega) (by omega) (by assumption) ?_; intro _ _ _ _) |refine Fl.sumM rfl rfl rfl rfl rfl rfl ?_));rename_i hi y hy hy0 hy1;rw [show ((i : Int) - 1).toNat = i - 1 by omega] at hy;refine JoinOk.of y ⟨hy, hy0, hy1⟩ ?_;refine Ent.of [] ?_ ?_ rfl rfl;(repeat' (first |exact True.intro |refine ⟨⟨AV.Le.refl _, rfl⟩, ?_⟩ |refine ⟨⟨⟨_, rfl, BLe.row rfl⟩, rfl⟩, ?_⟩ |refine ⟨⟨AV.Le.int ?_, rfl⟩, ?_⟩|fail));rw [show (2 : Int) ^ (32 : Int).toNat = 4294967296 from rfl];omega
   ·intro y ⟨hy, hy0, hy1⟩
    have hi : 0 < i := by
     rcases Nat.eq_zero_or_pos i with h | h
     ·subst h; omega
     ·exact h
    obtain ⟨q, hq⟩ : ∃ q, q = (r * 4294967296 + y) / b := ⟨_, rfl⟩;obtain ⟨r', hr'⟩ : ∃ r', r' = (r * 4294967296 + y) % b := ⟨_, rfl⟩;have hw := over_word hb h2 h3 hy0 hy1;have hm0 := Int.emod_nonneg (r * 4294967296 + y) (show b ≠ 0 by omega);have hm1 := Int.emod_lt_of_pos (r * 4294967296 + y) hb;have hst := over_step (i := i - 1) hy (by rw [show i - 1 + 1 = i by omega]; exact h4);rw [← hq] at hw hst;rw [← hr'] at hm0 hm1 hst;(repeat' (first |refine qv ?_ |apply qn |apply qs |apply qr |refine qw ?_ |refine Fl.w rfl rfl rfl ⟨by omega, by omega, by dsimp only [hiK]; omega⟩ ?_ |refine Fl.rel rfl rfl rfl rfl rfl rfl rfl rfl (by omega) (by first | omega | (simp; omega)) ?_ |refine Fl.rst rfl rfl rfl rfl rfl rfl rfl rfl rfl rfl rfl (LeL.refl _) rfl (by first | omega | (simp; omega)) ?_|fail));refine LoopEnd.of (i - 1, q :: os, r') ⟨by simp only [List.length_cons]; omega, WOk.cons hw.1 hw.2 h1, hm0, hm1, hst⟩ (by simp only; omega) ?_;refine Ent.of [] ?_ ?_ rfl rfl;(repeat' (first |exact True.intro |refine ⟨⟨AV.Le.refl _, rfl⟩, ?_⟩ |refine ⟨⟨⟨_, rfl, BLe.row ?_⟩, rfl⟩, ?_⟩ |refine ⟨⟨AV.Le.int ?_, rfl⟩, ?_⟩|fail))
    ·exact hr'.symm
    ·omega
    ·refine set_zeros (by omega) (by omega) ?_;rw [← hq]; omega
  ·rename_i hi
   have hi0 : i = 0 := by omega
   subst hi0;rw [List.drop_zero] at h4;obtain ⟨e1, e2⟩ := over_end h4 h2 h3;skip;refine RetOk.ent (Ent.freeze 11 rfl) ?_;refine RetOk.of rfl ?_;rw [← e1, ← e2, show A.length = os.length by omega, ← wdW_eq h1];exact AV.Le.tup (LeL.cons (AV.Le.refl _) (LeL.cons (AV.Le.int (by omega)) LeL.nil))
end Go.Proofs.YtcaecieigoplbaaGreat
/- ref01.long, by several words: plain facts. -/
namespace Go.AL
theorem norm_of {w : Int} {s : Nat} (h0 : 0 < w) (h1 : 2147483648 ≤ w * 2 ^ s) (h2 : w * 2 ^ s < 4294967296) : s = 32 - lenB w.toNat := by
 obtain ⟨W, hW⟩ : ∃ W : Nat, w = W := ⟨w.toNat, by omega⟩;subst hW;rw [Int.toNat_natCast];have hl := lenB_spec (n := W) (by omega)
 have a1 : 2 ^ 31 ≤ W * 2 ^ s := by
  have : ((2 ^ 31 : Nat) : Int) ≤ ((W * 2 ^ s : Nat) : Int) := by rw [Int.natCast_mul, Int.natCast_pow]; exact h1
  exact_mod_cast this
 have a2 : W * 2 ^ s < 2 ^ 32 := by
  have : ((W * 2 ^ s : Nat) : Int) < ((2 ^ 32 : Nat) : Int) := by rw [Int.natCast_mul, Int.natCast_pow]; exact h2
  exact_mod_cast this
 have a3 : 0 < 2 ^ s := Nat.pow_pos (by omega)
 have hs : s < 32 := by
  rcases Nat.lt_or_ge s 32 with h | h
  ·exact h
  ·have b : 2 ^ 32 ≤ 2 ^ s := Nat.pow_le_pow_right (by omega) h;have c : 1 * 2 ^ s ≤ W * 2 ^ s := Nat.mul_le_mul_right _ (by omega);omega
 have b1 : W < 2 ^ (32 - s) := by
  have : 2 ^ (32 - s) * 2 ^ s = 2 ^ 32 := by rw [← Nat.pow_add]; congr 1; omega
  exact Nat.lt_of_mul_lt_mul_right (a := 2 ^ s) (by omega)
 have b2 : 2 ^ (31 - s) ≤ W := by
  have : 2 ^ (31 - s) * 2 ^ s = 2 ^ 31 := by rw [← Nat.pow_add]; congr 1; omega
  exact Nat.le_of_mul_le_mul_right (c := 2 ^ s) (by omega) a3
 have c1 : lenB W ≤ 32 - s := lenB_le b1;have c2 : 31 - s < lenB W := (Nat.pow_lt_pow_iff_right (a := 2) (by omega)).1 (by omega);omega
theorem norm_loop {w : Int} {s : Nat} (h0 : 0 < w) (h2 : w * 2 ^ s < 4294967296) : s < 32 := by
 rcases Nat.lt_or_ge s 32 with h | h
 ·exact h
 ·have b : (2 : Int) ^ 32 ≤ 2 ^ s := pow_le_r (by omega) h;have c : 1 * (2 : Int) ^ s ≤ w * 2 ^ s := Int.mul_le_mul_of_nonneg_right (by omega) (by omega);have d : (2 : Int) ^ 32 = 4294967296 := rfl;omega
theorem wdW_take : ∀ (n k : Nat) (z : Int), k ≤ n → (wdW n z).take k = wdW k z
 | n, 0, z, _ => by simp [wdW]
 | 0, k + 1, z, h => by omega
 | n + 1, k + 1, z, h => by simp only [wdW, List.take_succ_cons, wdW_take n k _ (by omega)]
theorem wdW_toW {z : Int} {n : Nat} (h0 : 0 ≤ z) (h : (toW z).length = n) : wdW n z = toW z := by
 have := wdW_eq (toW_ok z);rw [h, val_toW h0] at this;exact this.symm
theorem sub_last {lo m : List Int} {V : Int} {i : Nat} {q b y w b' : Int} (hlo : lo.length = i) (hm : m[i]? = some y) (hval : val lo = val (m.take i) - q * V + b * BB i) (hw : w + b = y + 4294967296 * b') :
  val (lo ++ [w]) = val (m.take (i + 1)) - q * V + b' * BB (i + 1) := by
 have hmi : (m.take i).length = i := by have := (List.getElem?_eq_some_iff.1 hm).1; simp; omega
 have t1 : m.take (i + 1) = m.take i ++ [y] := by rw [List.take_add_one, hm]; rfl
 rw [val_snoc, t1, val_snoc, hmi, hlo, hval, BB_succ]
 have : w = y + 4294967296 * b' - b := by omega
 rw [this];grind
theorem add_last {lo m : List Int} {V : Int} {i : Nat} {c y w c' : Int} (hlo : lo.length = i) (hm : m[i]? = some y) (hval : val lo + c * BB i = val (m.take i) + V) (hw : w + 4294967296 * c' = y + c) :
  val (lo ++ [w]) + c' * BB (i + 1) = val (m.take (i + 1)) + V := by
 have hmi : (m.take i).length = i := by have := (List.getElem?_eq_some_iff.1 hm).1; simp; omega
 have t1 : m.take (i + 1) = m.take i ++ [y] := by rw [List.take_add_one, hm]; rfl
 rw [val_snoc, t1, val_snoc, hmi, hlo, BB_succ]
 have : w = y + c - 4294967296 * c' := by omega
 rw [this];grind
theorem add_carry {h t c B : Int} (hB : 0 < B) (e : h + c * B = B + t) (h0 : 0 ≤ h) (h1 : h < B) (t0 : 0 ≤ t) (t1 : t < B) : h = t := by
 have hc : c = 1 := by
  rcases Int.lt_trichotomy c 1 with k | k | k
  ·have : c * B ≤ 0 * B := Int.mul_le_mul_of_nonneg_right (by omega) (by omega);omega
  ·exact k
  ·have : 2 * B ≤ c * B := Int.mul_le_mul_of_nonneg_right (by omega) (by omega);omega
 rw [hc] at e; omega
end Go.AL
/- ref01.Shift to the right, of a number that is not negative. -/
namespace Go.AL
theorem dropc {α : Type} {l : List α} {i : Nat} {x : α} (h : l[i]? = some x) : l.drop i = x :: l.drop (i + 1) := by
 have hi := List.getElem?_eq_some_iff.1 h;rw [List.drop_eq_getElem_cons hi.1, hi.2]
end Go.AL
namespace Go.Proofs.YtcaecieigoplbaaGreat
open Go.AL

theorem shiftedRow_ok (A : List Int) (k : Nat) (wx : WOk A) (hxl : A.length ≤ 80000) (hk : k < 32) : IoFn Tryz.prog 109 [aW A, aN k] [] (.ret (.row 900)) [(900, .row 1 eW (wdW (A.length + 1) (val A * 2 ^ k)) 62)] := by
 refine IoFn.of_body Tryz.func109 rfl Tryz.ntmps109 rfl rfl rfl ?_;have h2 : (0 : Int) < 2 ^ k := Int.pow_pos (by omega);refine AWP.seqS ?_;(repeat' (first |refine qv ?_ |apply qn |apply qr));refine ⟨AWP.seqS ?_⟩;(repeat' (first |refine qv ?_ |apply qn |apply qr |refine qw ?_ |refine Fl.make rfl rfl rfl rfl rfl rfl rfl rfl rfl rfl eW 0 (by exact LeL.refl _) (by rfl) (by first | omega | (dsimp only; omega)) (by first | omega | (dsimp only; omega)) (by first | omega | (dsimp only; omega)) ?_|fail));refine ⟨?_⟩;refine AWP.seqJ (G := List Int) (fun os => WOk os ∧ os.length = A.length + 1 ∧ val os = val A * 2 ^ k) (fun os => St.of [] [(5, .row 11)] [(11, .row 1 eW os 62)]) ?_ ?_
 ·(repeat' (first |refine qv ?_ |apply qn |apply qs |apply qr |apply qb));refine AWP.loop (G := Nat × List Int × Int) (fun (i, P, c) => i ≤ A.length ∧ P.length = i ∧ WOk P ∧ 0 ≤ c ∧ c < 2 ^ k ∧ val P + BB P.length * c = BB 0 * 2 ^ k * val (A.take i))
   (fun (i, P, c) => St.of [] [(0, aW A), (1, aN k), (5, .row 11), (6, aN i)] [(11, .row 1 eW (P ++ c :: List.replicate (A.length - i) 0) 62)])
   (fun (i, P, c) => A.length - i) (0, [], 0) ⟨by omega, by simp, WOk.nil, by omega, h2, by simp [val]⟩ ?_ ?_
  ·refine Ent.of [] ?_ ?_ rfl rfl;(repeat' (first |exact True.intro |refine ⟨⟨AV.Le.refl _, rfl⟩, ?_⟩ |refine ⟨⟨⟨_, rfl, BLe.row rfl⟩, rfl⟩, ?_⟩|fail))
  ·intro ⟨i, P, c⟩ ⟨h0, h1, h3, h4, h5, h6⟩
   have h5' : c < 4294967296 := Int.lt_of_lt_of_le h5 (by
    have : (2 : Int) ^ k ≤ 2 ^ 32 := pow_le_r (by omega) (by omega)
    rw [show (2 : Int) ^ 32 = 4294967296 from rfl] at this; exact this)
   have hW : WOk (P ++ c :: List.replicate (A.length - i) 0) := h3.append (WOk.cons h4 h5' (WOk.zeros _));(repeat' (first |refine qv ?_ |apply qn |apply qs |apply qr |refine qw ?_ |(refine AWP.condD rfl ?_ ?_ <;> intro _ <;> try (exfalso; omega)) |apply qb |apply qk |apply qx |(refine Fl.elW rfl rfl rfl rfl rfl rfl rfl rfl (by omega) (by omega) (by assumption) ?_; intro _ _ _ _) |refine Fl.rel rfl rfl rfl rfl rfl rfl rfl rfl (by omega) (by first | omega | (simp; omega)) ?_ |(refine Fl.rldW rfl rfl rfl rfl rfl rfl rfl (fun _ => rfl) (fun _ => rfl) (by first | omega | (simp; omega)) (by assumption) ?_; intro _ _ _ _) |refine Fl.rst rfl rfl rfl rfl rfl rfl rfl rfl rfl rfl rfl (LeL.refl _) rfl (by first | omega | (simp; omega)) ?_|fail))
   ·rename_i hi y hy hy0 hy1 x hx hx0 hx1;rw [Int.toNat_natCast] at hy;rw [get_carry (by omega)] at hx;injection hx with hx;subst hx;have hb := or_carry hk h4 h5 hy0 hy1
    have hp : (2 : Int) ^ k ≤ 2147483648 := by
     have : (2 : Int) ^ k ≤ 2 ^ 31 := pow_le_r (by omega) (by omega);rw [show (2 : Int) ^ 31 = 2147483648 from rfl] at this; exact this
    obtain ⟨Y, hY⟩ : ∃ Y, Y = y * 2 ^ k := ⟨_, rfl⟩
    have hY0 : 0 ≤ Y := by rw [hY]; exact Int.mul_nonneg hy0 (by omega)
    have hY1 : Y ≤ 4294967295 * 2 ^ k := by rw [hY]; exact Int.mul_le_mul_of_nonneg_right (by omega) (by omega)
    have hY2 : Y / 4294967296 < 2 ^ k := by omega
    have hst := left_step (S := 2 ^ k) (B := BB 0) (w := c + Y % 4294967296) (c' := Y / 4294967296) hy (by rw [h1, BB_zero]; omega) h6 (by rw [← hY]; omega);rw [← hY] at hb;refine LoopEnd.of (i + 1, P ++ [c + Y % 4294967296], Y / 4294967296) ⟨by omega, by simp; omega, h3.append (WOk.cons (by omega) hb.2 WOk.nil), by omega, hY2, hst⟩ (by simp only; omega) ?_;refine Ent.of [] ?_ ?_ rfl rfl;(repeat' (first |exact True.intro |refine ⟨⟨AV.Le.refl _, rfl⟩, ?_⟩ |refine ⟨⟨⟨_, rfl, BLe.row ?_⟩, rfl⟩, ?_⟩|fail));refine set_carry (by omega) (by omega) (by omega) ?_ ?_
    ·rw [show ((k : Int)).toNat = k from Int.toNat_natCast k, ← hY];rw [← hb.1, bitN_and32 (by omega), show Y % 18446744073709551616 % 4294967296 % 4294967296 = Y % 4294967296 by omega]
    ·rw [show ((k : Int)).toNat = k from Int.toNat_natCast k, ← hY];rw [p32];omega
   ·have hi : i = A.length := by omega
    subst hi;refine JoinOk.of (P ++ [c]) ⟨h3.append (WOk.cons h4 h5' WOk.nil), by simp; omega, ?_⟩ ?_
    ·rw [val_snoc, h6, List.take_length, BB_zero, Int.one_mul, Int.mul_comm]
    ·refine Ent.of [] ?_ ?_ rfl rfl;(repeat' (first |exact True.intro |refine ⟨⟨AV.Le.refl _, rfl⟩, ?_⟩ |refine ⟨⟨⟨_, rfl, BLe.row ?_⟩, rfl⟩, ?_⟩|fail));simp
 ·intro os ⟨h0, h1, h3⟩;(repeat' (first |refine qv ?_ |apply qn |apply qs |apply qr |apply qt));refine ⟨⟨[(900, 11)], _, _, Ent.refl _ _ _, rfl, AV.Le.refl _, rfl, ⟨⟨⟨_, rfl, BLe.row ?_⟩, rfl⟩, trivial⟩, rfl, rfl⟩⟩;rw [← h3, ← h1, ← wdW_eq h0]

theorem rShift0_ok (n : Nat) (hn : n ≤ 4294967296) : PureFn Tryz.prog 43 [aX 0, aN n] (aX 0) := by
 refine PureFn.of_body Tryz.func43 rfl Tryz.ntmps43 rfl rfl ?_;(repeat' (first |refine qv ?_ |apply qn |apply qs |apply qr |refine qe ?_ |refine AWP.condT rfl ?_));refine qc (rZeroX_ok 0) ?_;(repeat' (first |refine qv ?_ |apply qn |apply qs |apply qr |refine qe ?_ |refine AWP.condT rfl ?_ |apply qt));exact RetOk.of rfl (AV.Le.refl _)

theorem rShiftR_ok (x : Int) (k : Nat) (hx : 0 ≤ x) (hxl : (toW x).length ≤ 40000) (hk : k < 32) : PureFn Tryz.prog 43 [aX x, aN (-(k : Int))] (aX (x / 2 ^ k)) := by
 rcases Nat.eq_zero_or_pos k with hk0 | hk0
 ·subst hk0;rw [Int.pow_zero, Int.ediv_one];rcases Int.lt_or_eq_of_le hx with h | h
  ·have := rShift_ok x 0 0 0 h hxl (by omega) (by omega) rfl;rw [Int.pow_zero, Int.mul_one] at this;exact this
  ·subst h;exact rShift0_ok 0 (by omega)
 refine PureFn.of_body Tryz.func43 rfl Tryz.ntmps43 rfl rfl ?_
 have ex : ((x.natAbs : Nat) : Int) = x := by omega
 have wx := toW_ok x;have hsx := val_toW hx;have hneg : decide (x < 0) = false := decide_eq_false (by omega);have h2 : (0 : Int) < 2 ^ k := Int.pow_pos (by omega)
 have eZ : aX x = .agg [aB false, aW (toW x)] := by
  show AV.agg [aB (decide (x < 0)), aW (toW (x.natAbs : Int))] = _;rw [hneg, ex]
 rw [eZ];have hz : (toW x).length = 0 → x = 0 := fun h => (toW_nil_iff hx).1 (List.eq_nil_of_length_eq_zero h)
 generalize hAe : toW x = A at *
 refine AWP.seqS ?_;(repeat' (first |apply qn |apply qr |refine qe ?_|fail));refine ⟨AWP.seqS ?_⟩;(repeat' (first |refine qv ?_ |apply qn |apply qs |apply qr |(refine AWP.condD rfl ?_ ?_ <;> intro _ <;> try (exfalso; omega)) |apply qk));refine ⟨?_⟩;refine AWP.seqJ (G := Int) (fun j => (A.length = 0 ∧ j = -1) ∨ (A.length ≠ 0 ∧ j = -(k : Int))) (fun j => St.of [] [(2, .ptr 2 0), (4, .ptr 4 0), (1, aN j)] [(2, .cells [aB false, aW A] 35), (4, .cells [aB false, .v (.slice none 0 0)] 35)]) ?_ ?_
 ·(repeat' (first |refine qv ?_ |apply qn |apply qs |apply qr |refine qw ?_ |(refine AWP.condD rfl ?_ ?_ <;> intro _ <;> try (exfalso; omega)) |apply qk))
  ·refine JoinOk.of (-1) (.inl ⟨by omega, rfl⟩) ?_;refine Ent.of [] ?_ ?_ rfl rfl;(repeat' (first |exact True.intro |refine ⟨⟨AV.Le.refl _, rfl⟩, ?_⟩ |refine ⟨⟨⟨_, rfl, BLe.cells (LeL.refl _)⟩, rfl⟩, ?_⟩ |refine ⟨⟨AV.Le.int ?_, rfl⟩, ?_⟩|fail));omega
  ·refine JoinOk.of (-(k : Int)) (.inr ⟨by omega, rfl⟩) ?_;refine Ent.of [] ?_ ?_ rfl rfl;(repeat' (first |exact True.intro |refine ⟨⟨AV.Le.refl _, rfl⟩, ?_⟩ |refine ⟨⟨⟨_, rfl, BLe.cells (LeL.refl _)⟩, rfl⟩, ?_⟩|fail))
 intro j hj;rcases hj with ⟨hl, hj⟩ | ⟨hl, hj⟩
 ·subst hj;have hx0 := hz hl;(repeat' (first |refine qv ?_ |apply qn |refine Fl.nil (fun _ => by kernel_rfl) ?_ |apply qs |apply qr |refine qw ?_ |refine Fl.w rfl rfl rfl ⟨by omega, by omega, by dsimp only [hiK]; omega⟩ ?_ |refine qe ?_ |refine Fl.skip rfl rfl ?_ |refine AWP.condF rfl ?_ |(refine AWP.condD rfl ?_ ?_ <;> intro _ <;> try (exfalso; omega)) |apply qk |apply qt));refine RetOk.of rfl ?_;rw [hx0, Int.zero_ediv];show AV.Le _ (.agg [aB (decide ((0 : Int) < 0)), aW (toW (((0 : Int).natAbs : Nat) : Int))]);rw [show (((0 : Int).natAbs : Nat) : Int) = 0 from rfl, toW_zero];exact AV.Le.agg (LeL.cons (AV.Le.refl _) (LeL.cons (AV.Le.nil 1 eW) LeL.nil))
 subst hj
 have hrow : wdW ((A.drop ((k : Int) / 32).toNat).length + 1) (val (A.drop ((k : Int) / 32).toNat) * 2 ^ 0) = A ++ [0] := by
  rw [show ((k : Int) / 32).toNat = 0 by omega, List.drop_zero, Int.pow_zero, Int.mul_one, wdW_snoc0 A.length (val A) (val_nonneg wx) (val_lt wx), ← wdW_eq wx]
 have hd32 : ((k : Int) / 32).toNat = 0 := by omega
 have hm32 : (k : Int) % 32 = k := by omega
 refine AWP.seqS ?_;(repeat' (first |refine qv ?_ |apply qn |apply qr |refine qw ?_|fail));refine ⟨AWP.seqS ?_⟩;(repeat' (first |apply qn |apply qr |refine qe ?_|fail));refine ⟨?_⟩;refine AWP.seqJ (G := Unit) (fun _ => True) (fun _ => St.of [] [(2, .ptr 2 0), (4, .ptr 4 0), (5, .ptr 5 0)] [(2, .cells [aB false, aW A] 35), (4, .cells [aB false, .v (.slice none 0 0)] 35), (5, .cells [aB false, aW (toW (x / 2 ^ k))] 35)]) ?_ ?_
 ·(repeat' (first |refine qv ?_ |apply qn |apply qs |apply qr |refine qw ?_ |refine Fl.w rfl rfl rfl ⟨by omega, by omega, by dsimp only [hiK]; omega⟩ ?_ |(refine AWP.condD rfl ?_ ?_ <;> intro _ <;> try (exfalso; omega))));refine Fl.io rfl [(900, 50)] (shiftedRow_ok (A.drop ((k : Int) / 32).toNat) 0 (wx.drop _) (by rw [List.length_drop]; omega) (by omega)) rfl rfl (LeL.cons (AV.Le.sl (by rw [hd32]; congr 1; omega)) (LeL.refl _)) rfl trivial rfl rfl rfl rfl rfl ?_;(repeat' (first |refine Fl.v rfl rfl rfl ?_ |refine Fl.nilF ?_ |refine Fl.b rfl rfl rfl rfl ?_ |refine AWP.condT rfl ?_ |refine AWP.condF rfl ?_ |refine AWP.skip ?_ |fail));refine AWP.seqJ (G := List Int) (fun os => os.length = A.length ∧ WOk os ∧ val os = x / 2 ^ k) (fun os => St.of [] [(2, .ptr 2 0), (4, .ptr 4 0), (5, .ptr 5 0), (6, .row 50)] [(2, .cells [aB false, aW A] 35), (4, .cells [aB false, .v (.slice none 0 0)] 35), (5, .cells [aB false, .v (.slice none 0 0)] 35), (50, .row 1 eW (os ++ [0]) 62)]) ?_ ?_
  ·(repeat' (first |refine qv ?_ |apply qn |apply qs |apply qr |apply qb));refine AWP.loop (G := Nat × List Int) (fun (i, os) => i ≤ A.length ∧ os.length = i ∧ WOk os ∧ val os = val A / 2 ^ k % BB i)
    (fun (i, os) => St.of [] [(1, aN k), (2, .ptr 2 0), (4, .ptr 4 0), (5, .ptr 5 0), (6, .row 50), (7, aN i)] [(2, .cells [aB false, aW A] 35), (4, .cells [aB false, .v (.slice none 0 0)] 35), (5, .cells [aB false, .v (.slice none 0 0)] 35), (50, .row 1 eW (os ++ (A.drop i ++ [0])) 62)])
    (fun (i, os) => A.length - i) (0, []) ⟨by omega, rfl, WOk.nil, by simp [val, BB_zero]⟩ ?_ ?_
   ·refine Ent.of [] ?_ ?_ rfl rfl;(repeat' (first |exact True.intro |refine ⟨⟨AV.Le.refl _, rfl⟩, ?_⟩ |refine ⟨⟨⟨_, rfl, BLe.cells (LeL.refl _)⟩, rfl⟩, ?_⟩ |refine ⟨⟨⟨_, rfl, BLe.row ?_⟩, rfl⟩, ?_⟩ |refine ⟨⟨AV.Le.int ?_, rfl⟩, ?_⟩|fail))
    ·omega
    ·rw [hrow, List.nil_append, List.drop_zero]
   ·intro ⟨i, os⟩ ⟨h0, h1, h3, h4⟩;have hW : WOk (os ++ (A.drop i ++ [0])) := h3.append ((wx.drop _).append (WOk.zeros 1))
    have hWl : (os ++ (A.drop i ++ [0])).length = A.length + 1 := by simp; omega
    (repeat' (first |refine qv ?_ |apply qn |apply qs |apply qr |refine qw ?_ |(refine AWP.condD rfl ?_ ?_ <;> intro _ <;> try (exfalso; omega)) |apply qb |apply qk |apply qx |refine Fl.rel rfl rfl rfl rfl rfl rfl rfl rfl (by omega) (by first | omega | (simp; omega)) ?_ |(refine Fl.rldW rfl rfl rfl rfl rfl rfl rfl (fun _ => rfl) (fun _ => rfl) (by first | omega | (simp; omega)) (by assumption) ?_; intro _ _ _ _) |refine Fl.sumM rfl rfl rfl rfl rfl rfl ?_))
    ·rename_i hlt x1 hx1 hx10 hx11 y1 hy1 hy10 hy11
     have hi : i < A.length := by rw [hWl] at hlt; omega
     rw [Int.toNat_natCast, ← h1, List.getElem?_append_right (by omega), Nat.sub_self, h1, List.getElem?_append_left (by rw [List.length_drop]; omega), List.getElem?_drop, Nat.add_zero] at hx1
     have hy' : A[i + 1]? = some y1 ∨ (A.length ≤ i + 1 ∧ y1 = 0) := by
      rw [show ((i : Int) + 1).toNat = i + 1 by omega, List.getElem?_append_right (by omega), h1, show i + 1 - i = 1 by omega] at hy1;rcases Nat.lt_or_ge (i + 1) A.length with h | h
      ·rw [List.getElem?_append_left (by rw [List.length_drop]; omega), List.getElem?_drop] at hy1;exact .inl hy1
      ·rw [List.getElem?_append_right (by rw [List.length_drop]; omega), List.length_drop, show 1 - (A.length - i) = 0 by omega] at hy1;injection hy1 with hy1;exact .inr ⟨h, hy1.symm⟩
     have hst := right_next hk wx h1 h4 hi hx1 hy';refine Fl.w rfl rfl rfl ⟨Int.ediv_nonneg (by omega) (Int.le_of_lt (Int.pow_pos (by omega))), Int.le_trans (Int.ediv_le_self _ (by omega)) (by omega), by omega, by omega⟩ ?_;(repeat' (first |refine qv ?_ |apply qn |refine Fl.nil (fun _ => by kernel_rfl) ?_ |apply qr |refine qw ?_ |refine Fl.rel rfl rfl rfl rfl rfl rfl rfl rfl (by omega) (by first | omega | (simp; omega)) ?_ |refine Fl.rst rfl rfl rfl rfl rfl rfl rfl rfl rfl rfl rfl (LeL.refl _) rfl (by first | omega | (simp; omega)) ?_|fail));refine LoopEnd.of (i + 1, os ++ [(x1 + 4294967296 * y1) / 2 ^ k % 4294967296]) ⟨by omega, by simp; omega, h3.append (WOk.cons (by omega) (by omega) WOk.nil), hst⟩ (by simp only; omega) ?_;refine Ent.of [] ?_ ?_ rfl rfl;(repeat' (first |exact True.intro |refine ⟨⟨AV.Le.refl _, rfl⟩, ?_⟩ |refine ⟨⟨⟨_, rfl, BLe.cells (LeL.refl _)⟩, rfl⟩, ?_⟩ |refine ⟨⟨⟨_, rfl, BLe.row ?_⟩, rfl⟩, ?_⟩|fail));rw [Int.toNat_natCast, hm32, Int.toNat_natCast, p32, show (x1 + y1 * 4294967296 % 18446744073709551616) % 18446744073709551616 = x1 + 4294967296 * y1 by omega];have hqn : 0 ≤ (x1 + 4294967296 * y1) / 2 ^ k := Int.ediv_nonneg (by omega) (by omega);rw [bitN_and32 hqn, Int.emod_emod_of_dvd _ (Int.dvd_refl _), List.set_append_right _ _ (by omega), show i - os.length = 0 by omega, dropc hx1, List.cons_append, List.set_cons_zero, List.append_assoc];rfl
    ·rename_i hlt
     have hi : i = A.length := by rw [hWl] at hlt; omega
     refine JoinOk.of os ⟨by omega, h3, ?_⟩ ?_
     ·rw [h4, hi, hsx];refine Int.emod_eq_of_lt (Int.ediv_nonneg hx (by omega)) ?_;have := val_lt wx;rw [hsx] at this;exact Int.lt_of_le_of_lt (Int.ediv_le_self _ hx) this
     ·refine Ent.of [] ?_ ?_ rfl rfl;(repeat' (first |exact True.intro |refine ⟨⟨AV.Le.refl _, rfl⟩, ?_⟩ |refine ⟨⟨⟨_, rfl, BLe.cells (LeL.refl _)⟩, rfl⟩, ?_⟩ |refine ⟨⟨⟨_, rfl, BLe.row ?_⟩, rfl⟩, ?_⟩|fail));rw [hi, List.drop_of_length_le (Nat.le_refl _), List.nil_append]
  ·intro os ⟨h0, h1, h3⟩;have hmk := rMake_ok false (os ++ [0]) (h1.append (WOk.zeros 1)) (by simp; omega);rw [val_snoc, Int.mul_zero, Int.add_zero, h3] at hmk;(repeat' (first |refine qv ?_ |apply qr));refine Fl.callF rfl 50 rfl hmk rfl rfl rfl (LeL.refl _) ?_;(repeat' (first |apply qn |refine qe ?_|fail));refine JoinOk.of () trivial ?_;refine Ent.of [] ?_ ?_ rfl rfl;(repeat' (first |exact True.intro |refine ⟨⟨AV.Le.refl _, rfl⟩, ?_⟩ |refine ⟨⟨⟨_, rfl, BLe.cells (LeL.refl _)⟩, rfl⟩, ?_⟩ |refine ⟨⟨⟨_, rfl, BLe.cells ?_⟩, rfl⟩, ?_⟩|fail));have hq := Int.ediv_nonneg hx (show (0 : Int) ≤ 2 ^ k by omega);rw [show sg false (x / 2 ^ k) = x / 2 ^ k by simp [sg], decide_eq_false (show ¬ x / 2 ^ k < 0 by omega), show ((x / 2 ^ k).natAbs : Int) = x / 2 ^ k by omega];exact LeL.refl _
 intro _ _;(repeat' (first |refine qv ?_ |apply qn |refine Fl.nil (fun _ => by kernel_rfl) ?_ |apply qs |apply qr |refine qe ?_ |refine Fl.skip rfl rfl ?_ |refine AWP.condF rfl ?_ |apply qk |apply qt));refine RetOk.of rfl ?_;show AV.Le _ (.agg [aB (decide (x / 2 ^ k < 0)), aW (toW ((x / 2 ^ k).natAbs : Int))]);have hq := Int.ediv_nonneg hx (show (0 : Int) ≤ 2 ^ k by omega);rw [decide_eq_false (by omega), show ((x / 2 ^ k).natAbs : Int) = x / 2 ^ k by omega];exact AV.Le.refl _
end Go.Proofs.YtcaecieigoplbaaGreat
/- ref01.long, by several words: the walk. -/
namespace Go.Proofs.YtcaecieigoplbaaGreat
open Go.AL

set_option maxHeartbeats 2000000 in
theorem long_ok (x y : Int) (N m : Nat) (hx : 0 ≤ x) (hy : 0 < y) (hxl : (toW x).length ≤ 40000) (hm : (toW y).length = m + 2) (hN : (toW x).length = N + m) (hN2 : 2 ≤ N) : PureFn Tryz.prog 154 [aW (toW x), aW (toW y)] (.tup [aW (wdW N (x / y)), aW (toW (x % y))]) := by
 refine PureFn.of_body Tryz.func154 rfl Tryz.ntmps154 rfl rfl ?_;have wy := toW_ok y;have hsy := val_toW (show 0 ≤ y by omega);have hsx := val_toW hx;obtain ⟨w, hw⟩ : ∃ w, (toW y)[m + 1]? = some w := ⟨_, List.getElem?_eq_getElem (by omega)⟩;have ww := wy.get hw
 have hw0 : 0 < w := by
  have e : toW y = (toW y).take (m + 1) ++ [w] := by
   conv => lhs; rw [← List.take_length (l := toW y), hm, take_top hw]
  have h1 := NW.toW y;rw [e] at h1;have h2 := h1.last;omega
 refine AWP.seqS ?_;(repeat' (first |refine qv ?_ |apply qn |apply qr));refine ⟨?_⟩;refine AWP.seqS ?_;(repeat' (first |refine qv ?_ |apply qn |apply qr));refine ⟨?_⟩;refine AWP.seqJ (G := Nat) (fun k => k = 32 - lenB w.toNat ∧ w * 2 ^ k < 4294967296) (fun k => St.of [] [(0, aW (toW x)), (1, aW (toW y)), (6, aN k)] []) ?_ ?_
 ·(repeat' (first |apply qb));refine AWP.loop (G := Nat) (fun k => w * 2 ^ k < 4294967296) (fun k => St.of [] [(0, aW (toW x)), (1, aW (toW y)), (6, aN k)] []) (fun k => 32 - k) 0 (by rw [Int.pow_zero]; omega) ?_ ?_
  ·refine Ent.of [] ?_ ?_ rfl rfl;(repeat' (first |exact True.intro |refine ⟨⟨AV.Le.refl _, rfl⟩, ?_⟩|fail))
  ·intro k hk;have hk32 := norm_loop hw0 hk;have h2 : (0 : Int) < 2 ^ k := Int.pow_pos (by omega);have hwk : 0 ≤ w * 2 ^ k := Int.mul_nonneg (by omega) (by omega);(repeat' (first |refine qv ?_ |apply qn |apply qs |apply qr |refine qw ?_ |(refine AWP.condD rfl ?_ ?_ <;> intro _ <;> try (exfalso; omega)) |apply qb |apply qk |apply qx |(refine Fl.elW rfl rfl rfl rfl rfl rfl rfl rfl (by omega) (by omega) (by assumption) ?_; intro _ _ _ _)|fail))
   ·rename_i z hz hz0 hz1 hlt;rw [show ((((toW y).length : Nat) : Int) - 1).toNat = m + 1 by omega, hw] at hz;injection hz with hz;subst hz;rw [Int.toNat_natCast] at hlt;refine LoopEnd.of (k + 1) ?_ (by omega) ?_
    ·rw [Int.pow_succ, ← Int.mul_assoc]; omega
    ·refine Ent.of [] ?_ ?_ rfl rfl;(repeat' (first |exact True.intro |refine ⟨⟨AV.Le.refl _, rfl⟩, ?_⟩|fail))
   ·rename_i z hz hz0 hz1 hlt;rw [show ((((toW y).length : Nat) : Int) - 1).toNat = m + 1 by omega, hw] at hz;injection hz with hz;subst hz;rw [Int.toNat_natCast] at hlt;refine JoinOk.of k ⟨norm_of hw0 (by omega) hk, hk⟩ ?_;refine Ent.of [] ?_ ?_ rfl rfl;(repeat' (first |exact True.intro |refine ⟨⟨AV.Le.refl _, rfl⟩, ?_⟩|fail))
 intro k ⟨hk, hkb⟩;obtain ⟨n1, n2, n3, n4, n5⟩ := norm_facts hy hm hw hk;have h2 : (0 : Int) < 2 ^ k := Int.pow_pos (by omega);have hV : 0 < y * 2 ^ k := Int.mul_pos hy h2;have hX : 0 ≤ x * 2 ^ k := Int.mul_nonneg hx (by omega)
 have hp : (2 : Int) ^ k ≤ 4294967296 := by
  have : (2 : Int) ^ k ≤ 2 ^ 32 := pow_le_r (by omega) (by omega);rw [show (2 : Int) ^ 32 = 4294967296 from rfl] at this; exact this
 have hxB : x < BB (toW x).length := (toW_len_le hx _).1 (by omega)
 have hXB : x * 2 ^ k < BB ((toW x).length + 1) := by
  have a : x * 2 ^ k < BB (toW x).length * 2 ^ k := Int.mul_lt_mul_of_pos_right hxB h2;have b : BB (toW x).length * 2 ^ k ≤ BB (toW x).length * 4294967296 := Int.mul_le_mul_of_nonneg_left hp (Int.le_of_lt (BB_pos _));rw [BB_succ]; omega
 obtain ⟨U, hU⟩ : ∃ U, U = wdW ((toW x).length + 1) (val (toW x) * 2 ^ k) ++ [0] := ⟨_, rfl⟩
 have hUl : U.length = N + (m + 2) := by rw [hU, List.length_append, wdW_length]; dsimp only [List.length_cons, List.length_nil]; omega
 have wU : WOk U := by rw [hU]; exact (wdW_ok _ _).append (WOk.zeros 1)
 have hUv : val U = x * 2 ^ k := by
  rw [hU, val_snoc, hsx, val_wdW _ _ hX hXB]; omega
 have wV := toW_ok (y * 2 ^ k);have hVv := val_toW (show 0 ≤ y * 2 ^ k by omega);obtain ⟨v, hv⟩ : ∃ v, v = toW (y * 2 ^ k) := ⟨_, rfl⟩;rw [← hv] at n3 n4 wV hVv
 have hVB : y * 2 ^ k < BB (m + 2) := by
  have := val_lt wV;rwa [n3, hVv] at this
 refine AWP.seqJ (G := Unit) (fun _ => True) (fun _ => St.of [] [(1, aW (toW y)), (6, aN k), (7, .row 37)] [(37, .row 1 eW U 62)]) ?_ ?_
 ·(repeat' (first |refine qv ?_ |apply qr));refine Fl.io rfl [(900, 35)] (shiftedRow_ok (toW x) k (toW_ok _) (by omega) n1) rfl rfl (LeL.refl _) rfl trivial rfl rfl rfl rfl rfl ?_;skip;refine ql eW [0] ?_;skip;refine qa (hby := (by simp only [wdW_length, List.length_nil, List.length_cons]; omega)) (hm := (by simp only [wdW_length, List.length_nil, List.length_cons]; omega)) (r := ?_);(repeat' (first |refine qv ?_ |apply qn));refine JoinOk.of () trivial ?_;refine Ent.of [] ?_ ?_ rfl rfl;(repeat' (first |exact True.intro |refine ⟨⟨AV.Le.refl _, rfl⟩, ?_⟩ |refine ⟨⟨⟨_, rfl, BLe.row ?_⟩, rfl⟩, ?_⟩|fail));exact hU.symm
 intro _ _;obtain ⟨v0, hv0⟩ : ∃ v0, v0 = wdW ((toW y).length + 1) (val (toW y) * 2 ^ k) := ⟨_, rfl⟩
 have hv0l : v0.length = m + 3 := by rw [hv0, wdW_length]; omega
 refine AWP.seqJ (G := Unit) (fun _ => True) (fun _ => St.of [] [(6, aN k), (7, .row 37), (8, aW v)] [(37, .row 1 eW U 62)]) ?_ ?_
 ·have c2 := shifted_ok (toW y) k wy (by omega) n1;rw [← hv0] at c2;(repeat' (first |refine qv ?_ |apply qr));refine Fl.call rfl c2 rfl rfl rfl (LeL.refl _) ?_;(repeat' (first |refine qv ?_ |apply qn |refine qw ?_|fail));refine JoinOk.of () trivial ?_;refine Ent.of [] ?_ ?_ rfl rfl;(repeat' (first |exact True.intro |refine ⟨⟨AV.Le.refl _, rfl⟩, ?_⟩ |refine ⟨⟨⟨_, rfl, BLe.row rfl⟩, rfl⟩, ?_⟩ |refine ⟨⟨AV.Le.sl ?_, rfl⟩, ?_⟩|fail));rw [hv0, wdW_take _ _ _ (by omega), hsy, hv];exact wdW_toW (by omega) (by rw [← hv, n3]; omega)
 intro _ _;clear hU hv0 hv0l v0;refine AWP.seqS ?_;(repeat' (first |refine qv ?_ |apply qn |apply qr));refine ⟨AWP.seqJ (G := List Int) (fun z => z = List.replicate N 0 ∧ z.length = N) (fun z => St.of [] [(6, aN k), (7, .row 37), (8, aW v), (9, aN (m + 2)), (10, .row 50)] [(37, .row 1 eW U 62), (50, .row 1 eW z 62)]) ?_ ?_⟩
 ·(repeat' (first |refine qv ?_ |apply qn |apply qr |refine qw ?_ |refine Fl.make rfl rfl rfl rfl rfl rfl rfl rfl rfl rfl eW 0 (by exact LeL.refl _) (by rfl) (by first | omega | (dsimp only; omega)) (by first | omega | (dsimp only; omega)) (by first | omega | (dsimp only; omega)) ?_|fail));refine JoinOk.of (List.replicate N 0) ⟨rfl, by simp⟩ ?_;refine Ent.of [] ?_ ?_ rfl rfl;(repeat' (first |exact True.intro |refine ⟨⟨AV.Le.refl _, rfl⟩, ?_⟩ |refine ⟨⟨⟨_, rfl, BLe.row rfl⟩, rfl⟩, ?_⟩ |refine ⟨⟨⟨_, rfl, BLe.row ?_⟩, rfl⟩, ?_⟩ |refine ⟨⟨AV.Le.int ?_, rfl⟩, ?_⟩|fail))
  ·omega
  ·congr 1; omega
 intro z ⟨hz, hzl⟩;refine AWP.seqJ (G := List Int × Int) (fun (os, ρ) => DivInv U (y * 2 ^ k) (m + 2) N 0 os ρ) (fun (os, ρ) => St.of [] [(6, aN k), (7, .row 37), (10, .row 50)] [(37, .row 1 eW (wdW (m + 2) ρ ++ List.replicate N 0) 62), (50, .row 1 eW os 62)]) ?_ ?_
 ·(repeat' (first |refine qv ?_ |apply qn |apply qs |apply qr |refine qw ?_ |apply qb));refine AWP.loop (G := Nat × List Int × Int) (fun (i, os, ρ) => DivInv U (y * 2 ^ k) (m + 2) N i os ρ)
   (fun (i, os, ρ) => St.of [] [(6, aN k), (7, .row 37), (8, aW v), (9, aN (m + 2)), (10, .row 50), (11, aN ((i : Int) - 1))] [(37, .row 1 eW (U.take i ++ (wdW (m + 2) ρ ++ List.replicate (N - i) 0)) 62), (50, .row 1 eW (List.replicate i 0 ++ os) 62)])
   (fun (i, os, ρ) => i) (N, [], val (U.drop N)) ?_ ?_ ?_
  ·have hsp : val U = val (U.take N) + BB N * val (U.drop N) := by
    conv => lhs; rw [← List.take_append_drop N U, val_append]
    rw [List.length_take, Nat.min_eq_left (by omega)]
   have ht := val_bounds (k := N) wU (by omega);have hdn := val_nonneg (wU.drop N);refine ⟨Nat.le_refl _, by simp, WOk.nil, hdn, ?_, by simp [val]⟩;rcases Int.lt_or_le (val (U.drop N)) (y * 2 ^ k) with h | h
   ·exact h
   ·have a1 : BB N * (y * 2 ^ k) ≤ BB N * val (U.drop N) := Int.mul_le_mul_of_nonneg_left h (Int.le_of_lt (BB_pos _));have a2 : BB N * (BB (m + 1) * 2 ^ k) ≤ BB N * (y * 2 ^ k) := Int.mul_le_mul_of_nonneg_left n5 (Int.le_of_lt (BB_pos _));have a3 : x < BB (N + (m + 1)) := (toW_len_le hx _).1 (by omega);have a4 : x * 2 ^ k < BB (N + (m + 1)) * 2 ^ k := Int.mul_lt_mul_of_pos_right a3 h2;rw [BB_add] at a4;have a5 : BB N * BB (m + 1) * 2 ^ k = BB N * (BB (m + 1) * 2 ^ k) := Int.mul_assoc _ _ _;omega
  ·refine Ent.of [] ?_ ?_ rfl rfl;(repeat' (first |exact True.intro |refine ⟨⟨AV.Le.refl _, rfl⟩, ?_⟩ |refine ⟨⟨⟨_, rfl, BLe.row ?_⟩, rfl⟩, ?_⟩ |refine ⟨⟨AV.Le.int ?_, rfl⟩, ?_⟩|fail))
   ·omega
   ·have hdl : (U.drop N).length = m + 2 := by rw [List.length_drop]; omega
    have := wdW_eq (wU.drop N);rw [hdl] at this;rw [← this, Nat.sub_self, List.replicate_zero, List.append_nil, List.take_append_drop]
   ·rw [hz, List.append_nil]
  ·intro ⟨i, os, ρ⟩ hd;refine AWP.seqS ?_;(repeat' (first |refine qv ?_ |apply qn |apply qs |apply qr |(refine AWP.condD rfl ?_ ?_ <;> intro _ <;> try (exfalso; omega)) |apply qk |apply qx))
   ·rename_i hi;obtain ⟨i', rfl⟩ : ∃ i', i = i' + 1 := ⟨i - 1, by omega⟩;have hiN : i' + 1 ≤ N := hd.hi;obtain ⟨u, hu⟩ : ∃ u, U[i']? = some u := ⟨_, List.getElem?_eq_getElem (by omega)⟩;have wu := wU.get hu;have hst := (hd.step hV hu wU).resolve_right (fun h => h hVB)
    have hml : (u :: wdW (m + 2) ρ).length = m + 3 := by rw [List.length_cons, wdW_length]
    have hrow : U.take (i' + 1) ++ (wdW (m + 2) ρ ++ List.replicate (N - (i' + 1)) 0) = U.take i' ++ (u :: wdW (m + 2) ρ) ++ List.replicate (N - (i' + 1)) 0 := by
     rw [take_top hu]; simp
    have hmv : val (u :: wdW (m + 2) ρ) = u + 4294967296 * ρ := by
     rw [val, val_wdW (m + 2) ρ hd.r0 (by have := hd.r1; omega)]
    have d : DigOk m (u :: wdW (m + 2) ρ) v := ⟨hml, n3, WOk.cons wu.1 wu.2 (wdW_ok _ _), wV, n4, by rw [hmv, hVv]; have := hd.r1; omega, by omega⟩
    have hend : ∀ ρ' : Int, 0 ≤ ρ' → ρ' < y * 2 ^ k → wdW (m + 2) ρ' ++ List.replicate (N - i') 0 = wdW (m + 3) ρ' ++ List.replicate (N - (i' + 1)) 0 := by
     intro ρ' h0 h1;rw [wdW_snoc0 (m + 2) ρ' h0 (by omega), show N - i' = N - (i' + 1) + 1 by omega, List.replicate_succ];simp
    obtain ⟨A, hA⟩ : ∃ A, A = U.take i' := ⟨_, rfl⟩;obtain ⟨mid, hmid⟩ : ∃ M, M = u :: wdW (m + 2) ρ := ⟨_, rfl⟩;obtain ⟨C, hC⟩ : ∃ C : List Int, C = List.replicate (N - (i' + 1)) 0 := ⟨_, rfl⟩;obtain ⟨O, hO⟩ : ∃ O, O = List.replicate (i' + 1) 0 ++ os := ⟨_, rfl⟩
    have hAl : A.length = i' := by rw [hA, List.length_take]; omega
    have hCl : C.length = N - (i' + 1) := by rw [hC, List.length_replicate]
    have hOl : O.length = N := by rw [hO, List.length_append, List.length_replicate]; have := hd.hl; omega
    have wA : WOk A := by rw [hA]; exact wU.take _
    have wC : WOk C := by rw [hC]; exact WOk.zeros _
    rw [← hmid] at d hst hml;rw [← hmid, ← hA, ← hC] at hrow;rw [← hC] at hend;refine ⟨AWP.seq (AWP.block ?_)⟩;refine AWP.ent (s' := St.of [] [(6, aN k), (7, .row 37), (8, aW v), (9, aN (m + 2)), (10, .row 50), (11, aN i')] [(37, .row 1 eW (A ++ mid ++ C) 62), (50, .row 1 eW O 62)]) ?_ ?_
    ·refine Ent.of [] ?_ ?_ rfl rfl;(repeat' (first |exact True.intro |refine ⟨⟨AV.Le.refl _, rfl⟩, ?_⟩ |refine ⟨⟨⟨_, rfl, BLe.row ?_⟩, rfl⟩, ?_⟩ |refine ⟨⟨AV.Le.int ?_, rfl⟩, ?_⟩|fail))
     ·omega
     ·rw [hC] at hrow ⊢; exact hrow
     ·exact hO.symm
    clear hrow hmv hz hzl z hC hmid hd hu wu u;have hm' := d.hm;have hbig := d.big;have wv := d.wv;have wW : WOk (A ++ mid ++ C) := (wA.append d.wm).append wC;obtain ⟨un, e0⟩ : ∃ x, mid[m + 2]? = some x := ⟨_, List.getElem?_eq_getElem (by omega)⟩;obtain ⟨u1, e1⟩ : ∃ x, mid[m + 1]? = some x := ⟨_, List.getElem?_eq_getElem (by omega)⟩;obtain ⟨u2, e2⟩ : ∃ x, mid[m]? = some x := ⟨_, List.getElem?_eq_getElem (by omega)⟩;obtain ⟨v1, f1⟩ : ∃ x, v[m + 1]? = some x := ⟨_, List.getElem?_eq_getElem (by omega)⟩;obtain ⟨v2, f2⟩ : ∃ x, v[m]? = some x := ⟨_, List.getElem?_eq_getElem (by omega)⟩;have b0 := d.wm.get e0;have b1 := d.wm.get e1;have b2 := d.wm.get e2;have c1 := d.wv.get f1;have c2 := d.wv.get f2;have c3 := d.top _ f1;have hf := d.facts e0 e1 e2 f1 f2;refine AWP.seqJ (G := Unit) (fun _ => True) (fun _ => St.of [] [(6, aN k), (7, .row 37), (8, aW v), (9, aN (m + 2)), (10, .row 50), (11, aN i'), (12, aU (un * 4294967296 + u1))] [(37, .row 1 eW (A ++ mid ++ C) 62), (50, .row 1 eW O 62)]) ?_ ?_
    ·(repeat' (first |refine qv ?_ |refine Fl.nil (fun _ => by kernel_rfl) ?_ |apply qr |refine qw ?_ |refine Fl.rel rfl rfl rfl rfl rfl rfl rfl rfl (by omega) (by first | omega | (simp; omega)) ?_ |(refine Fl.rldW rfl rfl rfl rfl rfl rfl rfl (fun _ => rfl) (fun _ => rfl) (by first | omega | (simp; omega)) (by assumption) ?_; intro _ _ _ _) |refine Fl.sumM rfl rfl rfl rfl rfl rfl ?_));rename_i x1 hx1 hx10 hx11 y1 hy1 hy10 hy11;rw [get_part (j := m + 2) (by omega) (by omega), e0] at hx1;rw [get_part (j := m + 1) (by omega) (by omega), e1] at hy1;injection hx1 with hx1;injection hy1 with hy1;subst hx1 hy1;refine JoinOk.of () trivial ?_;refine Ent.of [] ?_ ?_ rfl rfl;(repeat' (first |exact True.intro |refine ⟨⟨AV.Le.refl _, rfl⟩, ?_⟩ |refine ⟨⟨⟨_, rfl, BLe.row rfl⟩, rfl⟩, ?_⟩ |refine ⟨⟨AV.Le.int ?_, rfl⟩, ?_⟩|fail));rw [p32];omega
    intro _ _
    have f1' : v[((m : Int) + 2 - 1).toNat]? = some v1 := by rw [show ((m : Int) + 2 - 1).toNat = m + 1 by omega]; exact f1
    have f2' : v[((m : Int) + 2 - 2).toNat]? = some v2 := by rw [show ((m : Int) + 2 - 2).toNat = m by omega]; exact f2
    refine AWP.seqJ (G := Unit) (fun _ => True) (fun _ => St.of [] [(6, aN k), (7, .row 37), (8, aW v), (9, aN (m + 2)), (10, .row 50), (11, aN i'), (13, aU ((un * 4294967296 + u1) / v1)), (14, aU ((un * 4294967296 + u1) % v1))] [(37, .row 1 eW (A ++ mid ++ C) 62), (50, .row 1 eW O 62)]) ?_ ?_
    ·(repeat' (first |refine qv ?_ |refine Fl.nil (fun _ => by kernel_rfl) ?_ |apply qr |refine qw ?_ |refine Fl.w rfl rfl rfl ⟨by omega, by omega, by dsimp only [hiK]; omega⟩ ?_ |refine qK ?_|fail));refine JoinOk.of () trivial ?_;refine Ent.of [] ?_ ?_ rfl rfl;(repeat' (first |exact True.intro |refine ⟨⟨AV.Le.refl _, rfl⟩, ?_⟩ |refine ⟨⟨⟨_, rfl, BLe.row rfl⟩, rfl⟩, ?_⟩|fail))
    intro _ _;obtain ⟨q0, hq0⟩ : ∃ q, q = (un * 4294967296 + u1) / v1 := ⟨_, rfl⟩;obtain ⟨r0, hr0⟩ : ∃ r, r = (un * 4294967296 + u1) % v1 := ⟨_, rfl⟩;have hdm := Int.mul_ediv_add_emod (un * 4294967296 + u1) v1;have hm0 := Int.emod_nonneg (un * 4294967296 + u1) (show v1 ≠ 0 by omega);have hm1 := Int.emod_lt_of_pos (un * 4294967296 + u1) (show 0 < v1 by omega);have hqn : 0 ≤ (un * 4294967296 + u1) / v1 := Int.ediv_nonneg (by omega) (by omega)
    have hqb : (un * 4294967296 + u1) / v1 ≤ 8589934592 := by
     rcases Int.lt_or_le 8589934592 ((un * 4294967296 + u1) / v1) with h | h
     ·have : v1 * 8589934593 ≤ v1 * ((un * 4294967296 + u1) / v1) := Int.mul_le_mul_of_nonneg_left (by omega) (by omega);omega
     ·exact h
    rw [← hq0] at hdm hqn hqb;rw [← hr0] at hdm hm0 hm1;rw [Int.mul_comm] at hdm;have hp' := d.pos;have hV' : 0 < val v := Int.lt_of_lt_of_le (BB_pos _) hp'.1;have hU' := val_nonneg d.wm
    have hQ0 : val mid / val v ≤ q0 := by
     obtain ⟨a, b, c, e⟩ := dig_facts d.hm d.hv d.wm d.wv e0 e1 e2 f1 f2;obtain ⟨s1, s2, s3, s4⟩ := quo_spec hV' hU';have hB := BB_pos m
     have t1 : val mid / val v * ((v1 * 4294967296) * BB m) ≤ val mid / val v * val v := Int.mul_le_mul_of_nonneg_left (by
      have : v1 * 4294967296 * BB m ≤ (v1 * 4294967296 + v2) * BB m := Int.mul_le_mul_of_nonneg_right (by omega) (by omega)
      omega) s3
     have t2 : ((un * 4294967296 + u1) * 4294967296 + u2 + 1) * BB m ≤ ((un * 4294967296 + u1 + 1) * 4294967296) * BB m := Int.mul_le_mul_of_nonneg_right (by omega) (by omega)
     have t3 : (val mid / val v * v1) * (4294967296 * BB m) < (un * 4294967296 + u1 + 1) * (4294967296 * BB m) := by
      have g1 : (val mid / val v * v1) * (4294967296 * BB m) = val mid / val v * ((v1 * 4294967296) * BB m) := by grind
      have g2 : (un * 4294967296 + u1 + 1) * (4294967296 * BB m) = ((un * 4294967296 + u1 + 1) * 4294967296) * BB m := by grind
      rw [g1, g2]; omega
     have t4 := Int.lt_of_mul_lt_mul_right t3 (by omega);rw [hq0];exact Int.le_ediv_of_mul_le (by omega) (by omega)
    refine AWP.seqJ (G := Int) (fun q => val mid / val v ≤ q ∧ q ≤ val mid / val v + 1 ∧ 0 ≤ q ∧ q < 4294967296) (fun q => St.of [] [(6, aN k), (7, .row 37), (8, aW v), (9, aN (m + 2)), (10, .row 50), (11, aN i'), (13, aU q)] [(37, .row 1 eW (A ++ mid ++ C) 62), (50, .row 1 eW O 62)]) ?_ ?_
    ·refine AWP.block ?_;refine AWP.loop (G := Int × Int) (fun (q, r) => q * v1 + r = un * 4294967296 + u1 ∧ 0 ≤ r ∧ r < 4294967296 ∧ 0 ≤ q ∧ q ≤ 8589934592 ∧ val mid / val v ≤ q) (fun (q, r) => St.of [] [(6, aN k), (7, .row 37), (8, aW v), (9, aN (m + 2)), (10, .row 50), (11, aN i'), (13, aU q), (14, aU r)] [(37, .row 1 eW (A ++ mid ++ C) 62), (50, .row 1 eW O 62)]) (fun (q, r) => q.toNat) (q0, r0) ⟨hdm, hm0, by omega, hqn, hqb, hQ0⟩ ?_ ?_
     ·refine Ent.of [] ?_ ?_ rfl rfl;(repeat' (first |exact True.intro |refine ⟨⟨AV.Le.refl _, rfl⟩, ?_⟩ |refine ⟨⟨⟨_, rfl, BLe.row rfl⟩, rfl⟩, ?_⟩ |refine ⟨⟨AV.Le.int ?_, rfl⟩, ?_⟩|fail))
      ·exact hq0.symm
      ·exact hr0.symm
     ·intro ⟨q, r⟩ ⟨g0, g1, g2, g3, g4, g5⟩;refine AWP.seq ?_;(repeat' (first |refine qv ?_ |apply qn |refine Fl.nil (fun _ => by kernel_rfl) ?_ |apply qs |apply qr |refine qw ?_ |(refine Fl.mulW rfl rfl rfl rfl rfl (by omega) (by omega) (by omega) (by omega) ?_; intro _ _) |refine Fl.skip rfl rfl ?_ |refine AWP.condT rfl ?_ |(refine AWP.condD rfl ?_ ?_ <;> intro _ <;> try (exfalso; omega)) |apply qb |apply qk |apply qx |refine qK ?_ |refine Fl.rel rfl rfl rfl rfl rfl rfl rfl rfl (by omega) (by first | omega | (simp; omega)) ?_ |(refine Fl.rldW rfl rfl rfl rfl rfl rfl rfl (fun _ => rfl) (fun _ => rfl) (by first | omega | (simp; omega)) (by assumption) ?_; intro _ _ _ _) |refine Fl.sumM rfl rfl rfl rfl rfl rfl ?_ |(refine Fl.splitD rfl rfl ?_ ?_ <;> intro _ <;> try (exfalso; omega))))
      ·rename_i h1 h2;have hq := d.down e0 e1 e2 f1 f2 g0 g1 g3 (.inl (by omega));have hs := d.stop (q := q - 1) (r := r + v1) e0 e1 e2 f1 f2 (by rw [Int.sub_mul]; omega) (by omega) (by omega) (.inr (by omega));refine JoinOk.of (q - 1) ⟨hq, hs.2, by omega, hs.1⟩ ?_;refine Ent.of [] ?_ ?_ rfl rfl;(repeat' (first |exact True.intro |refine ⟨⟨AV.Le.refl _, rfl⟩, ?_⟩ |refine ⟨⟨⟨_, rfl, BLe.row rfl⟩, rfl⟩, ?_⟩|fail))
       try omega
      ·rename_i h1 h2;have hq := d.down e0 e1 e2 f1 f2 g0 g1 g3 (.inl (by omega));refine LoopEnd.of (q - 1, r + v1) ⟨by rw [Int.sub_mul]; omega, by omega, by omega, by omega, by omega, hq⟩ (by simp only; omega) ?_;refine Ent.of [] ?_ ?_ rfl rfl;(repeat' (first |exact True.intro |refine ⟨⟨AV.Le.refl _, rfl⟩, ?_⟩ |refine ⟨⟨⟨_, rfl, BLe.row rfl⟩, rfl⟩, ?_⟩|fail))
       try omega
      ·rename_i h1 p0 p1 x2 hx2 hx20 hx21 h3 h2;rw [p32] at h3;rw [get_part (j := m) (by omega) (by omega), e2] at hx2;injection hx2 with hx2;subst hx2;have hqv : 0 ≤ q * v2 := Int.mul_nonneg g3 c2.1;have hqv2 : q * v2 ≤ 4294967295 * v2 := Int.mul_le_mul_of_nonneg_right (by omega) c2.1;have hq := d.down e0 e1 e2 f1 f2 g0 g1 g3 (.inr (by omega));have hQ := (quo_spec hV' hU').2.2.1;have hs := d.stop (q := q - 1) (r := r + v1) e0 e1 e2 f1 f2 (by rw [Int.sub_mul]; omega) (by omega) (by omega) (.inr (by omega));refine JoinOk.of (q - 1) ⟨hq, hs.2, by omega, hs.1⟩ ?_;refine Ent.of [] ?_ ?_ rfl rfl;(repeat' (first |exact True.intro |refine ⟨⟨AV.Le.refl _, rfl⟩, ?_⟩ |refine ⟨⟨⟨_, rfl, BLe.row rfl⟩, rfl⟩, ?_⟩ |refine ⟨⟨AV.Le.int ?_, rfl⟩, ?_⟩|fail))
       try omega
      ·rename_i h1 p0 p1 x2 hx2 hx20 hx21 h3 h2;rw [p32] at h3;rw [get_part (j := m) (by omega) (by omega), e2] at hx2;injection hx2 with hx2;subst hx2;have hqv : 0 ≤ q * v2 := Int.mul_nonneg g3 c2.1;have hqv2 : q * v2 ≤ 4294967295 * v2 := Int.mul_le_mul_of_nonneg_right (by omega) c2.1;have hq := d.down e0 e1 e2 f1 f2 g0 g1 g3 (.inr (by omega));have hQ := (quo_spec hV' hU').2.2.1;refine LoopEnd.of (q - 1, r + v1) ⟨by rw [Int.sub_mul]; omega, by omega, by omega, by omega, by omega, hq⟩ (by simp only; omega) ?_;refine Ent.of [] ?_ ?_ rfl rfl;(repeat' (first |exact True.intro |refine ⟨⟨AV.Le.refl _, rfl⟩, ?_⟩ |refine ⟨⟨⟨_, rfl, BLe.row rfl⟩, rfl⟩, ?_⟩ |refine ⟨⟨AV.Le.int ?_, rfl⟩, ?_⟩|fail))
       try omega
      ·rename_i h1 p0 p1 x2 hx2 hx20 hx21 h3;rw [p32] at h3;rw [get_part (j := m) (by omega) (by omega), e2] at hx2;injection hx2 with hx2;subst hx2;have hqv : 0 ≤ q * v2 := Int.mul_nonneg g3 c2.1;have hqv2 : q * v2 ≤ 4294967295 * v2 := Int.mul_le_mul_of_nonneg_right (by omega) c2.1;have hs := d.stop (q := q) (r := r) e0 e1 e2 f1 f2 g0 g1 g3 (.inl ⟨by omega, by omega⟩);refine JoinOk.of q ⟨g5, hs.2, g3, hs.1⟩ ?_;refine Ent.of [] ?_ ?_ rfl rfl;(repeat' (first |exact True.intro |refine ⟨⟨AV.Le.refl _, rfl⟩, ?_⟩ |refine ⟨⟨⟨_, rfl, BLe.row rfl⟩, rfl⟩, ?_⟩|fail))
    ·intro q ⟨g0, g1, g2, g3⟩;refine AWP.seqS ?_;(repeat' (first |refine qv ?_ |apply qn |apply qr));refine ⟨?_⟩;refine AWP.seqJ (G := List Int × Int) (fun (lo, b) => lo.length = m + 3 ∧ WOk lo ∧ 0 ≤ b ∧ b ≤ 1 ∧ val lo = val mid - q * val v + b * BB (m + 3)) (fun (lo, b) => St.of [] [(6, aN k), (7, .row 37), (8, aW v), (9, aN (m + 2)), (10, .row 50), (11, aN i'), (13, aU q), (16, aU b)] [(37, .row 1 eW (A ++ lo ++ C) 62), (50, .row 1 eW O 62)]) ?_ ?_
     ·(repeat' (first |refine qv ?_ |apply qn |apply qs |apply qr |apply qb));refine AWP.loop (G := List Int × Int × Int) (fun (lo, c, b) => lo.length ≤ m + 3 ∧ WOk lo ∧ 0 ≤ c ∧ c < 4294967296 ∧ 0 ≤ b ∧ b ≤ 1 ∧ (lo.length = m + 3 → c = 0) ∧ val lo = val (mid.take lo.length) - q * val (v.take lo.length) + (c + b) * BB lo.length) (fun (lo, c, b) => St.of [] [(6, aN k), (7, .row 37), (8, aW v), (9, aN (m + 2)), (10, .row 50), (11, aN i'), (13, aU q), (15, aU c), (16, aU b), (17, aN lo.length)] [(37, .row 1 eW (A ++ (lo ++ mid.drop lo.length) ++ C) 62), (50, .row 1 eW O 62)]) (fun (lo, c, b) => m + 3 - lo.length) ([], 0, 0) ⟨by simp, WOk.nil, by omega, by omega, by omega, by omega, by simp, by simp [val]⟩ ?_ ?_
      ·refine Ent.of [] ?_ ?_ rfl rfl;(repeat' (first |exact True.intro |refine ⟨⟨AV.Le.refl _, rfl⟩, ?_⟩ |refine ⟨⟨⟨_, rfl, BLe.row rfl⟩, rfl⟩, ?_⟩|fail))
      ·intro ⟨lo, c, b⟩ ⟨k0, k1, k2, k3, k4, k5, k6, k7⟩;have hW2 : WOk (A ++ (lo ++ mid.drop lo.length) ++ C) := (wA.append (k1.append (d.wm.drop _))).append wC
       have hml2 : (lo ++ mid.drop lo.length).length = mid.length := by rw [List.length_append, List.length_drop]; omega
       (repeat' (first |refine qv ?_ |apply qn |apply qs |apply qr |refine qw ?_ |(refine Fl.mulW rfl rfl rfl rfl rfl (by omega) (by omega) (by omega) (by omega) ?_; intro _ _) |(refine AWP.condD rfl ?_ ?_ <;> intro _ <;> try (exfalso; omega)) |apply qb |apply qk |apply qx |(refine Fl.elW rfl rfl rfl rfl rfl rfl rfl rfl (by omega) (by omega) (by assumption) ?_; intro _ _ _ _) |refine Fl.rel rfl rfl rfl rfl rfl rfl rfl rfl (by omega) (by first | omega | (simp; omega)) ?_ |(refine Fl.rldW rfl rfl rfl rfl rfl rfl rfl (fun _ => rfl) (fun _ => rfl) (by first | omega | (simp; omega)) (by assumption) ?_; intro _ _ _ _) |refine Fl.rst rfl rfl rfl rfl rfl rfl rfl rfl rfl rfl rfl (LeL.refl _) rfl (by first | omega | (simp; omega)) ?_ |refine Fl.sumM rfl rfl rfl rfl rfl rfl ?_))
       ·rename_i hi1 hi2 x1 hx1 hx10 hx11 p0 p1 y1 hy1 hy10 hy11;rw [Int.toNat_natCast] at hx1;rw [get_part (j := lo.length) (by omega) (by omega), get_drop rfl] at hy1;obtain ⟨X, hX'⟩ : ∃ X, X = q * x1 := ⟨_, rfl⟩;rw [← hX'] at p0 p1;obtain ⟨w1, hw1⟩ : ∃ w1, w1 = (y1 - (X + c) % 4294967296 - b) % 4294967296 := ⟨_, rfl⟩;obtain ⟨b', hb'⟩ : ∃ b', b' = 1 - (y1 + 4294967296 - (X + c) % 4294967296 - b) / 4294967296 := ⟨_, rfl⟩;have hst2 := sub_step (w := w1) (b' := (X + c) / 4294967296 + b') rfl hy1 hx1 k7 (by rw [← hX']; omega)
        have hXm : X ≤ 4294967295 * 4294967295 := by
         rw [hX'];have a : q * x1 ≤ 4294967295 * x1 := Int.mul_le_mul_of_nonneg_right (by omega) hx10;omega
        refine LoopEnd.of (lo ++ [w1], (X + c) / 4294967296, b') ⟨by simp; omega, k1.append (WOk.cons (by omega) (by omega) WOk.nil), by omega, by omega, by omega, by omega, fun h => by simp at h; omega, by rw [List.length_append]; exact hst2⟩ (by simp only [List.length_append, List.length_cons, List.length_nil]; omega) ?_;refine Ent.of [] ?_ ?_ rfl rfl;(repeat' (first |exact True.intro |refine ⟨⟨AV.Le.refl _, rfl⟩, ?_⟩ |refine ⟨⟨⟨_, rfl, BLe.row rfl⟩, rfl⟩, ?_⟩ |refine ⟨⟨⟨_, rfl, BLe.row ?_⟩, rfl⟩, ?_⟩ |refine ⟨⟨AV.Le.int ?_, rfl⟩, ?_⟩|fail))
        ·rw [p32, hX', Int.add_comm]
        ·rw [p32, hb', bitN_and32 (show (0 : Int) ≤ c + q * x1 by omega), ← hX'];omega
        ·simp
        ·rw [show (lo ++ [w1]).length = lo.length + 1 by simp];refine (set_part (j := lo.length) (by omega) (by omega)).trans (congrArg (fun M => A ++ M ++ C) (set_drop (w' := w1) rfl (by omega) ?_));rw [bitN_and32 (show (0 : Int) ≤ c + q * x1 by omega), ← hX', bitN_and32 (by omega)];omega
       ·rename_i hi1 hi2 y1 hy1 hy10 hy11;rw [get_part (j := lo.length) (by omega) (by omega), get_drop rfl] at hy1
        have hl2 : lo.length = m + 2 := by omega
        obtain ⟨w1, hw1⟩ : ∃ w1, w1 = (y1 - c - b) % 4294967296 := ⟨_, rfl⟩;obtain ⟨b', hb'⟩ : ∃ b', b' = 1 - (y1 + 4294967296 - c - b) / 4294967296 := ⟨_, rfl⟩;have hst2 := sub_last (V := val v) (q := q) (w := w1) (b' := b') rfl hy1 (by rw [k7, hl2, show v.take (m + 2) = v by rw [← d.hv, List.take_length]]) (by omega);refine LoopEnd.of (lo ++ [w1], 0, b') ⟨by simp; omega, k1.append (WOk.cons (by omega) (by omega) WOk.nil), by omega, by omega, by omega, by omega, fun _ => rfl, ?_⟩ (by simp only [List.length_append, List.length_cons, List.length_nil]; omega) ?_
        ·rw [List.length_append, Int.zero_add, show v.take (lo.length + [w1].length) = v from List.take_of_length_le (by rw [d.hv]; simp; omega)]; exact hst2
        refine Ent.of [] ?_ ?_ rfl rfl;(repeat' (first |exact True.intro |refine ⟨⟨AV.Le.refl _, rfl⟩, ?_⟩ |refine ⟨⟨⟨_, rfl, BLe.row rfl⟩, rfl⟩, ?_⟩ |refine ⟨⟨⟨_, rfl, BLe.row ?_⟩, rfl⟩, ?_⟩ |refine ⟨⟨AV.Le.int ?_, rfl⟩, ?_⟩|fail))
        ·rw [p32]; omega
        ·rw [p32, hb', bitN_and32 (show (0 : Int) ≤ c by omega)];omega
        ·simp
        ·rw [show (lo ++ [w1]).length = lo.length + 1 by simp];refine (set_part (j := lo.length) (by omega) (by omega)).trans (congrArg (fun M => A ++ M ++ C) (set_drop (w' := w1) rfl (by omega) ?_));rw [bitN_and32 (show (0 : Int) ≤ c by omega), bitN_and32 (by omega)];omega
       ·rename_i hi1
        have hl : lo.length = m + 3 := by omega
        refine JoinOk.of (lo, b) ⟨hl, k1, k4, k5, ?_⟩ ?_
        ·rw [k7, hl, k6 hl, Int.zero_add, show v.take (m + 3) = v from List.take_of_length_le (by rw [d.hv]; omega), show mid.take (m + 3) = mid from List.take_of_length_le (by omega)]
        ·refine Ent.of [] ?_ ?_ rfl rfl;(repeat' (first |exact True.intro |refine ⟨⟨AV.Le.refl _, rfl⟩, ?_⟩ |refine ⟨⟨⟨_, rfl, BLe.row rfl⟩, rfl⟩, ?_⟩ |refine ⟨⟨⟨_, rfl, BLe.row ?_⟩, rfl⟩, ?_⟩|fail));rw [List.drop_eq_nil_of_le (by omega), List.append_nil]
     ·intro ⟨lo, b⟩ ⟨k0, k1, k2, k3, k4⟩;have hW2 : WOk (A ++ lo ++ C) := (wA.append k1).append wC;have hlo := val_lt k1;have hlo0 := val_nonneg k1;rw [k0] at hlo
      have hml3 : lo.length = mid.length := by omega
      have hr0' := Int.emod_nonneg (val mid) (show val v ≠ 0 by omega);have hr1' := Int.emod_lt_of_pos (val mid) hV';rw [hVv] at hr1'
      have hq1 : val mid / val v = val mid / (y * 2 ^ k) := by rw [hVv]
      have hr2 : val mid % val v = val mid % (y * 2 ^ k) := by rw [hVv]
      refine AWP.seqJ (G := Unit) (fun _ => True) (fun _ => St.of [] [(6, aN k), (7, .row 37), (8, aW v), (9, aN (m + 2)), (10, .row 50), (11, aN i'), (13, aU (val mid / val v))] [(37, .row 1 eW (A ++ wdW (m + 3) (val mid % val v) ++ C) 62), (50, .row 1 eW O 62)]) ?_ ?_
      ·(repeat' (first |refine qv ?_ |apply qn |apply qs |apply qr |(refine AWP.condD rfl ?_ ?_ <;> intro _ <;> try (exfalso; omega)) |apply qb |apply qk |refine Fl.sumM rfl rfl rfl rfl rfl rfl ?_))
       ·rename_i h1
        have hβ1 : b = 1 := by omega
        rw [hβ1, Int.one_mul] at k4;obtain ⟨r1, r2⟩ := dig_end1 hV' hU' g0 g1 (by omega);have hQn := (quo_spec hV' hU').2.2.1;refine AWP.loop (G := List Int × Int) (fun (hi, c) => hi.length ≤ m + 3 ∧ WOk hi ∧ 0 ≤ c ∧ c ≤ 1 ∧ val hi + c * BB hi.length = val (lo.take hi.length) + val (v.take hi.length)) (fun (hi, c) => St.of [] [(6, aN k), (7, .row 37), (8, aW v), (9, aN (m + 2)), (10, .row 50), (11, aN i'), (13, aU (q - 1)), (20, aU c), (21, aN hi.length)] [(37, .row 1 eW (A ++ (hi ++ lo.drop hi.length) ++ C) 62), (50, .row 1 eW O 62)]) (fun (hi, c) => m + 3 - hi.length) ([], 0) ⟨by simp, WOk.nil, by omega, by omega, by simp [val]⟩ ?_ ?_
        ·refine Ent.of [] ?_ ?_ rfl rfl;(repeat' (first |exact True.intro |refine ⟨⟨AV.Le.refl _, rfl⟩, ?_⟩ |refine ⟨⟨⟨_, rfl, BLe.row rfl⟩, rfl⟩, ?_⟩ |refine ⟨⟨AV.Le.int ?_, rfl⟩, ?_⟩|fail));omega
        ·intro ⟨hi, c⟩ ⟨j0, j1, j2, j3, j4⟩;have hW3 : WOk (A ++ (hi ++ lo.drop hi.length) ++ C) := (wA.append (j1.append (k1.drop _))).append wC
         have hml4 : (hi ++ lo.drop hi.length).length = mid.length := by rw [List.length_append, List.length_drop]; omega
         (repeat' (first |refine qv ?_ |apply qn |apply qs |apply qr |refine qw ?_ |(refine AWP.condD rfl ?_ ?_ <;> intro _ <;> try (exfalso; omega)) |apply qb |apply qk |apply qx |(refine Fl.elW rfl rfl rfl rfl rfl rfl rfl rfl (by omega) (by omega) (by assumption) ?_; intro _ _ _ _) |refine Fl.rel rfl rfl rfl rfl rfl rfl rfl rfl (by omega) (by first | omega | (simp; omega)) ?_ |(refine Fl.rldW rfl rfl rfl rfl rfl rfl rfl (fun _ => rfl) (fun _ => rfl) (by first | omega | (simp; omega)) (by assumption) ?_; intro _ _ _ _) |refine Fl.rst rfl rfl rfl rfl rfl rfl rfl rfl rfl rfl rfl (LeL.refl _) rfl (by first | omega | (simp; omega)) ?_|fail))
         ·rename_i hi0 z hz hz0 hz1 hi2 x1 hx1 hx10 hx11;rw [Int.toNat_natCast] at hx1;rw [get_part (j := hi.length) (by omega) (by omega), get_drop rfl] at hz;obtain ⟨s, hs⟩ : ∃ s, s = z + x1 + c := ⟨_, rfl⟩;have hst2 := add_step (w := s % 4294967296) (c' := s / 4294967296) rfl hz hx1 j4 (by omega);refine LoopEnd.of (hi ++ [s % 4294967296], s / 4294967296) ⟨by simp; omega, j1.append (WOk.cons (by omega) (by omega) WOk.nil), by omega, by omega, by rw [List.length_append]; exact hst2⟩ (by simp only [List.length_append, List.length_cons, List.length_nil]; omega) ?_;refine Ent.of [] ?_ ?_ rfl rfl;(repeat' (first |exact True.intro |refine ⟨⟨AV.Le.refl _, rfl⟩, ?_⟩ |refine ⟨⟨⟨_, rfl, BLe.row rfl⟩, rfl⟩, ?_⟩ |refine ⟨⟨⟨_, rfl, BLe.row ?_⟩, rfl⟩, ?_⟩ |refine ⟨⟨AV.Le.int ?_, rfl⟩, ?_⟩|fail))
          ·rw [p32]; omega
          ·simp
          ·rw [show (hi ++ [s % 4294967296]).length = hi.length + 1 by simp];refine (set_part (j := hi.length) (by omega) (by omega)).trans (congrArg (fun M => A ++ M ++ C) (set_drop (w' := s % 4294967296) rfl (by omega) ?_));rw [bitN_and32 (by omega)];omega
         ·rename_i hi0 z hz hz0 hz1 hi2;rw [get_part (j := hi.length) (by omega) (by omega), get_drop rfl] at hz
          have hl2 : hi.length = m + 2 := by omega
          obtain ⟨s, hs⟩ : ∃ s, s = z + c := ⟨_, rfl⟩;have hst2 := add_last (V := val v) (w := s % 4294967296) (c' := s / 4294967296) rfl hz (by rw [j4, hl2, show v.take (m + 2) = v by rw [← d.hv, List.take_length]]) (by omega);refine LoopEnd.of (hi ++ [s % 4294967296], s / 4294967296) ⟨by simp; omega, j1.append (WOk.cons (by omega) (by omega) WOk.nil), by omega, by omega, ?_⟩ (by simp only [List.length_append, List.length_cons, List.length_nil]; omega) ?_
          ·rw [List.length_append, show v.take (hi.length + [s % 4294967296].length) = v from List.take_of_length_le (by rw [d.hv]; simp; omega)]; exact hst2
          refine Ent.of [] ?_ ?_ rfl rfl;(repeat' (first |exact True.intro |refine ⟨⟨AV.Le.refl _, rfl⟩, ?_⟩ |refine ⟨⟨⟨_, rfl, BLe.row rfl⟩, rfl⟩, ?_⟩ |refine ⟨⟨⟨_, rfl, BLe.row ?_⟩, rfl⟩, ?_⟩ |refine ⟨⟨AV.Le.int ?_, rfl⟩, ?_⟩|fail))
          ·rw [p32]; omega
          ·simp
          ·rw [show (hi ++ [s % 4294967296]).length = hi.length + 1 by simp];refine (set_part (j := hi.length) (by omega) (by omega)).trans (congrArg (fun M => A ++ M ++ C) (set_drop (w' := s % 4294967296) rfl (by omega) ?_));rw [bitN_and32 (by omega)];omega
         ·rename_i hi0
          have hhl : hi.length = m + 3 := by omega
          have hh0 := val_nonneg j1;have hh1 := val_lt j1;rw [hhl] at hh1;rw [hhl, show v.take (m + 3) = v from List.take_of_length_le (by rw [d.hv]; omega), show lo.take (m + 3) = lo from List.take_of_length_le (by omega)] at j4;have hpB := hp'.2
          have hB2 : BB (m + 2) ≤ BB (m + 3) := by rw [show m + 3 = m + 2 + 1 from rfl, BB_succ (m + 2)]; have := BB_pos (m + 2); omega
          have ht1 : val mid % val v < BB (m + 3) := by have := Int.emod_lt_of_pos (val mid) hV'; omega
          have hback := add_carry (BB_pos (m + 3)) (t := val mid % val v) (by rw [j4, k4, ← r2]; omega) hh0 hh1 hr0' ht1;have hF := wdW_eq j1;rw [hhl, hback] at hF;refine JoinOk.of () trivial ?_;refine Ent.of [] ?_ ?_ rfl rfl;(repeat' (first |exact True.intro |refine ⟨⟨AV.Le.refl _, rfl⟩, ?_⟩ |refine ⟨⟨⟨_, rfl, BLe.row rfl⟩, rfl⟩, ?_⟩ |refine ⟨⟨⟨_, rfl, BLe.row ?_⟩, rfl⟩, ?_⟩ |refine ⟨⟨AV.Le.int ?_, rfl⟩, ?_⟩|fail))
          ·exact r1
          ·rw [List.drop_eq_nil_of_le (by omega), List.append_nil, ← hF]
       ·rename_i h1
        have hβ0 : b = 0 := by omega
        rw [hβ0, Int.zero_mul, Int.add_zero] at k4;obtain ⟨r1, r2⟩ := dig_end0 hV' hU' g0 g1 (by omega);have hF := wdW_eq k1;rw [k0, k4, r2] at hF;refine JoinOk.of () trivial ?_;refine Ent.of [] ?_ ?_ rfl rfl;(repeat' (first |exact True.intro |refine ⟨⟨AV.Le.refl _, rfl⟩, ?_⟩ |refine ⟨⟨⟨_, rfl, BLe.row rfl⟩, rfl⟩, ?_⟩ |refine ⟨⟨⟨_, rfl, BLe.row ?_⟩, rfl⟩, ?_⟩ |refine ⟨⟨AV.Le.int ?_, rfl⟩, ?_⟩|fail))
        ·exact r1
        ·rw [← hF]
      ·intro _ _;have hwl : (wdW (m + 3) (val mid % val v)).length = m + 3 := wdW_length _ _;(repeat' (first |refine qv ?_ |apply qn |apply qr |refine qw ?_ |refine Fl.rel rfl rfl rfl rfl rfl rfl rfl rfl (by omega) (by first | omega | (simp; omega)) ?_ |refine Fl.rst rfl rfl rfl rfl rfl rfl rfl rfl rfl rfl rfl (LeL.refl _) rfl (by first | omega | (simp; omega)) ?_|fail));refine LoopEnd.of (i', val mid / (y * 2 ^ k) :: os, val mid % (y * 2 ^ k)) hst (by simp only; omega) ?_;refine Ent.of [] ?_ ?_ rfl rfl;(repeat' (first |exact True.intro |refine ⟨⟨AV.Le.refl _, rfl⟩, ?_⟩ |refine ⟨⟨⟨_, rfl, BLe.row ?_⟩, rfl⟩, ?_⟩|fail))
       ·rw [hend _ hst.r0 hst.r1, ← hr2, ← List.append_assoc, hA]
       ·rw [hO];refine set_zeros (by omega) rfl ?_;have hqB : val mid / val v < 4294967296 := Int.ediv_lt_of_lt_mul hV' d.lt;have hqn := (quo_spec hV' hU').2.2.1;rw [← hq1];exact Int.emod_eq_of_lt hqn hqB
   ·have hi : i = 0 := by omega
    subst hi;refine JoinOk.of (os, ρ) hd ?_;refine Ent.of [] ?_ ?_ rfl rfl;(repeat' (first |exact True.intro |refine ⟨⟨AV.Le.refl _, rfl⟩, ?_⟩ |refine ⟨⟨⟨_, rfl, BLe.row rfl⟩, rfl⟩, ?_⟩|fail))
 ·intro ⟨os, ρ⟩ hd;have hd : DivInv U (y * 2 ^ k) (m + 2) N 0 os ρ := hd;have hv1 := hd.hv;rw [List.drop_zero, hUv] at hv1;obtain ⟨r1, r2⟩ := over_end hv1 hd.r0 hd.r1;obtain ⟨s1, s2⟩ := div_shift (x := x) (k := k) hy hx;have hr1 := hd.r1;have hr0 := hd.r0;have hol := hd.hl
  have hu : val (wdW (m + 2) ρ ++ List.replicate N 0) = ρ := by
   rw [val_append, val_zeros, val_wdW (m + 2) ρ hd.r0 (by omega)]; omega
  have hul : (wdW (m + 2) ρ ++ List.replicate N 0).length = N + (m + 2) := by
   rw [List.length_append, wdW_length, List.length_replicate]; omega
  have htr := rMake_ok false (wdW (m + 2) ρ ++ List.replicate N 0) ((wdW_ok _ _).append (WOk.zeros _)) (by omega);rw [hu, show sg false ρ = ρ by simp [sg]] at htr
  have hρl : (toW ρ).length ≤ 40000 := by
   have := (toW_len_le hd.r0 (m + 2)).2 (by omega);omega
  (repeat' (first |refine qv ?_ |apply qs |apply qr));refine Fl.callF rfl 37 rfl htr rfl rfl rfl (LeL.refl _) ?_;(repeat' (first |refine qv ?_ |refine qw ?_|fail));refine Fl.call rfl (rShiftR_ok ρ k hd.r0 hρl (by omega)) rfl rfl rfl (LeL.cons (AV.Le.refl _) (LeL.cons (AV.Le.int (by omega)) LeL.nil)) ?_;(repeat' (first |refine qv ?_ |apply qn |apply qt));refine RetOk.ent (Ent.freeze 50 rfl) ?_;refine RetOk.of rfl ?_;have ho := wdW_eq hd.wo;rw [show os.length = N by omega, r1, s1] at ho;rw [show ((ρ / 2 ^ k).natAbs : Int) = ρ / 2 ^ k from Int.natAbs_of_nonneg (Int.ediv_nonneg hr0 (by omega)), ← ho, r2, s2];exact AV.Le.refl _
end Go.Proofs.YtcaecieigoplbaaGreat
/- ref01.Div and Divides. -/
namespace Go.AL
theorem quo_signs (x y Q R : Int) (hy : y ≠ 0) (hQ : Q = (x.natAbs : Int) / (y.natAbs : Int)) (hR : R = (x.natAbs : Int) % (y.natAbs : Int)) :
  (0 ≤ x → 0 < y → Q = x / y ∧ R = x % y) ∧ (0 ≤ x → y < 0 → -Q = x / y ∧ R = x % y) ∧
  (x < 0 → R = 0 → 0 < y → -Q = x / y ∧ R = x % y) ∧ (x < 0 → R = 0 → y < 0 → Q = x / y ∧ R = x % y) ∧
  (x < 0 → R ≠ 0 → 0 < y → -(Q + 1) = x / y ∧ (y.natAbs : Int) - R = x % y) ∧ (x < 0 → R ≠ 0 → y < 0 → Q + 1 = x / y ∧ (y.natAbs : Int) - R = x % y) := by
 obtain ⟨Y, hY⟩ : ∃ Y : Int, Y = (y.natAbs : Int) := ⟨_, rfl⟩;obtain ⟨X, hX⟩ : ∃ X : Int, X = (x.natAbs : Int) := ⟨_, rfl⟩;rw [← hX, ← hY] at hQ hR;rw [← hY]
 have hY0 : 0 < Y := by omega
 have h1 := Int.mul_ediv_add_emod X Y;have h2 := Int.emod_nonneg X (show Y ≠ 0 by omega);have h3 := Int.emod_lt_of_pos X hY0;rw [← hQ, ← hR] at h1;rw [← hR] at h2 h3
 have key : ∀ q r : Int, r + Y * q = x → 0 ≤ r → r < Y → (0 < y → q = x / y ∧ r = x % y) ∧ (y < 0 → -q = x / y ∧ r = x % y) := by
  intro q r e a b;have hu := (Int.ediv_emod_unique (a := x) (b := Y) (q := q) (r := r) hY0).2 ⟨e, a, b⟩;refine ⟨fun h => ?_, fun h => ?_⟩
  ·rw [show y = Y by omega]; exact ⟨hu.1.symm, hu.2.symm⟩
  ·rw [show y = -Y by omega, Int.ediv_neg, Int.emod_neg]; exact ⟨by rw [hu.1], hu.2.symm⟩
 refine ⟨fun a b => ?_, fun a b => ?_, fun a b c => ?_, fun a b c => ?_, fun a b c => ?_, fun a b c => ?_⟩
 ·exact (key Q R (by omega) h2 h3).1 b
 ·exact (key Q R (by omega) h2 h3).2 b
 ·exact (key (-Q) R (by rw [Int.mul_neg]; omega) h2 h3).1 c
 ·have := (key (-Q) R (by rw [Int.mul_neg]; omega) h2 h3).2 c;rwa [Int.neg_neg] at this
 ·exact (key (-(Q + 1)) (Y - R) (by rw [Int.mul_neg, Int.mul_add]; omega) (by omega) (by omega)).1 c
 ·have := (key (-(Q + 1)) (Y - R) (by rw [Int.mul_neg, Int.mul_add]; omega) (by omega) (by omega)).2 c;rwa [Int.neg_neg] at this
theorem toW_mono {a b : Int} (h0 : 0 ≤ a) (h : a ≤ b) : (toW a).length ≤ (toW b).length := by
 refine (toW_len_le h0 _).2 ?_;have := (toW_len_le (z := b) (by omega) (toW b).length).1 (Nat.le_refl _);omega
theorem abs_self {x : Int} (h : 0 ≤ x) : ((x.natAbs : Nat) : Int) = x := by omega
end Go.AL
namespace Go.Proofs.YtcaecieigoplbaaGreat
open Go.AL

set_option maxHeartbeats 1000000 in
theorem rDiv_ok (x y : Int) (hy : y ≠ 0) (hxl : lenI x ≤ 39000) (hyl : lenI y ≤ 39000) : PureFn Tryz.prog 84 [aX x, aX y] (.tup [aX (x / y), aX (x % y)]) := by
 refine PureFn.of_body Tryz.func84 rfl Tryz.ntmps84 rfl rfl ?_;obtain ⟨Y, hY⟩ : ∃ Y : Int, Y = (y.natAbs : Int) := ⟨_, rfl⟩;obtain ⟨X, hX⟩ : ∃ X : Int, X = (x.natAbs : Int) := ⟨_, rfl⟩;obtain ⟨Q, hQ⟩ : ∃ Q : Int, Q = X / Y := ⟨_, rfl⟩;obtain ⟨R, hR⟩ : ∃ R : Int, R = X % Y := ⟨_, rfl⟩
 have hY0 : 0 < Y := by omega
 have hX0 : 0 ≤ X := by omega
 have hlX : (toW X).length ≤ 39000 := by rw [hX]; exact hxl
 have hlY : (toW Y).length ≤ 39000 := by rw [hY]; exact hyl
 have hsg := quo_signs x y Q R hy (by rw [hQ, hX, hY]) (by rw [hR, hX, hY]);rw [← hY] at hsg;have wY := toW_ok Y;have hR0 := Int.emod_nonneg X (show Y ≠ 0 by omega);have hR1 := Int.emod_lt_of_pos X hY0;have hQ0 : 0 ≤ X / Y := Int.ediv_nonneg hX0 (by omega);have hQ1 : X / Y ≤ X := Int.ediv_le_self _ hX0;have hlQ : (toW (X / Y)).length ≤ 39000 := Nat.le_trans (toW_mono hQ0 hQ1) hlX;have hlR : (toW (X % Y)).length ≤ 39000 := Nat.le_trans (toW_mono hR0 (by omega)) hlY
 have eX' : aX x = .agg [aB (decide (x < 0)), aW (toW X)] := by rw [hX]
 have eY' : aX y = .agg [aB (decide (y < 0)), aW (toW Y)] := by rw [hY]
 have cX : eX x = [aB (decide (x < 0)), aW (toW X)] := by rw [hX]; rfl
 have cY : eX y = [aB (decide (y < 0)), aW (toW Y)] := by rw [hY]; rfl
 rw [eX', eY']
 have le0 : LeL [aB false, .v (.slice none 0 0)] (eX 0) := by
  show LeL _ [aB (decide ((0 : Int) < 0)), aW (toW (((0 : Int).natAbs : Nat) : Int))];rw [show (((0 : Int).natAbs : Nat) : Int) = 0 from rfl, toW_zero];exact LeL.cons (AV.Le.refl _) (LeL.cons (AV.Le.nil 1 eW) LeL.nil)
 refine AWP.seqS ?_;(repeat' (first |apply qn |apply qr |refine qe ?_|fail));refine ⟨AWP.seqS ?_⟩;(repeat' (first |apply qn |apply qr |refine qe ?_|fail));refine ⟨?_⟩;refine AWP.seqJ (G := Unit) (fun _ => True) (fun _ => St.of [] [(2, .ptr 2 0), (3, .ptr 3 0), (4, .ptr 4 0), (5, .ptr 5 0), (6, .ptr 6 0), (7, .ptr 7 0)] [(2, .cells [aB (decide (x < 0)), aW (toW X)] 35), (3, .cells [aB (decide (y < 0)), aW (toW Y)] 35), (4, .cells [aB false, .v (.slice none 0 0)] 35), (5, .cells [aB false, .v (.slice none 0 0)] 35), (6, .cells (eX Q) 35), (7, .cells (eX R) 35)]) ?_ ?_
 ·(repeat' (first |refine qv ?_ |apply qs |apply qr));refine qc (rorder_ok X Y hX0 (by omega) (by omega) (by omega)) ?_;(repeat' (first |refine qv ?_ |apply qn |apply qs |apply qr |(refine AWP.condD rfl ?_ ?_ <;> intro _ <;> try (exfalso; omega)) |(refine Fl.elW rfl rfl rfl rfl rfl rfl rfl rfl (by omega) (by omega) (by assumption) ?_; intro _ _ _ _)|fail))
  ·rename_i h
   have hlt : X < Y := by
    rcases Int.lt_or_le X Y with h1 | h1
    ·exact h1
    ·rcases Int.lt_or_eq_of_le h1 with h2 | h2
     ·rw [cmpI_gt h2] at h; omega
     ·rw [cmpI_eq h2.symm] at h; omega
   refine Fl.call rfl (rAbs_ok x (show (toW x.natAbs).length ≤ 100000 by rw [← hX]; omega)) rfl rfl rfl (LeL.cons (AV.Le.of_eq eX'.symm) LeL.nil) ?_;(repeat' (first |apply qn |refine qe ?_|fail));refine JoinOk.of () trivial ?_;refine Ent.of [] ?_ ?_ rfl rfl;(repeat' (first |exact True.intro |refine ⟨⟨AV.Le.refl _, rfl⟩, ?_⟩ |refine ⟨⟨⟨_, rfl, BLe.cells (LeL.refl _)⟩, rfl⟩, ?_⟩ |refine ⟨⟨⟨_, rfl, BLe.cells ?_⟩, rfl⟩, ?_⟩|fail))
   ·rw [hQ, Int.ediv_eq_zero_of_lt hX0 hlt]; exact le0
   ·rw [hR, Int.emod_eq_of_lt hX0 hlt, hX]; exact LeL.refl _
  ·rename_i h h1 z hz hz0 hz1
   have hYz : Y = z := by
    have := val_top hz;rw [show (0 : Int).toNat + 1 = (toW Y).length by omega, List.take_length, val_toW (by omega)] at this;rw [this]; simp [val, BB_zero]
   have hv := val_wdW (toW X).length (X / z) (by rw [← hYz]; exact hQ0) (by
    have := (toW_len_le hX0 (toW X).length).1 (Nat.le_refl _)
    rw [← hYz]; omega)
   have hm1 := rMake_ok false (wdW (toW X).length (X / Y)) (wdW_ok _ _) (by rw [wdW_length]; omega);rw [← hYz] at hv;rw [show sg false (val (wdW (toW X).length (X / Y))) = Q by rw [hv, hQ]; simp [sg]] at hm1;have hm2 := rMake_ok false [X % Y] (WOk.cons hR0 (by omega) WOk.nil) (by simp);rw [show sg false (val [X % Y]) = R by rw [hR]; simp [val, sg]] at hm2;have hs := short_ok X z hX0 (by omega) (by omega) hz1;rw [← hYz] at hs;refine Fl.call rfl hs rfl rfl rfl (LeL.cons (AV.Le.refl _) (LeL.cons (AV.Le.int hYz.symm) LeL.nil)) ?_;(repeat' (first |refine qv ?_ |refine Fl.nil (fun _ => by kernel_rfl) ?_ |apply qr));refine qc (hm1) ?_;(repeat' (first |refine qv ?_|fail));refine ql eW [X % Y] ?_;skip;refine qc (hm2) ?_;(repeat' (first |apply qn |refine qe ?_|fail));refine JoinOk.of () trivial ?_;refine Ent.of [] ?_ ?_ rfl rfl;(repeat' (first |exact True.intro |refine ⟨⟨AV.Le.refl _, rfl⟩, ?_⟩ |refine ⟨⟨⟨_, rfl, BLe.cells (LeL.refl _)⟩, rfl⟩, ?_⟩|fail))
  ·rename_i h h1
   have hYX : Y ≤ X := by
    rcases Int.lt_or_le X Y with h2 | h2
    ·rw [cmpI_lt h2] at h; omega
    ·exact h2
   have hlYX := toW_mono (by omega) hYX
   have hYne : (toW Y).length ≠ 0 := fun k => by
    have := (toW_nil_iff (z := Y) (by omega)).1 (List.eq_nil_of_length_eq_zero k);omega
   obtain ⟨m, hm⟩ : ∃ m, (toW Y).length = m + 2 := ⟨(toW Y).length - 2, by omega⟩;obtain ⟨N, hN⟩ : ∃ N, (toW X).length = N + m := ⟨(toW X).length - m, by omega⟩;have hl := long_ok X Y N m hX0 hY0 (by omega) hm hN (by omega)
   have hQB : X / Y < BB N := by
    have a1 : X < BB (toW X).length := (toW_len_le hX0 _).1 (Nat.le_refl _)
    have a2 : BB (m + 1) ≤ Y := by
     rcases Int.lt_or_le Y (BB (m + 1)) with k | k
     ·have := (toW_len_le (z := Y) (by omega) (m + 1)).2 k;omega
     ·exact k
    have a3 : BB m ≤ Y := by rw [BB_succ] at a2; have := BB_pos m; omega
    rw [hN, BB_add] at a1;refine Int.ediv_lt_of_lt_mul hY0 (Int.lt_of_lt_of_le a1 ?_);exact Int.mul_le_mul_of_nonneg_left a3 (Int.le_of_lt (BB_pos _))
   have hm1 := rMake_ok false (wdW N (X / Y)) (wdW_ok _ _) (by rw [wdW_length]; omega);rw [val_wdW N _ hQ0 hQB, show sg false (X / Y) = X / Y by simp [sg]] at hm1;have hm2 := rMake_ok false (toW (X % Y)) (toW_ok _) (by omega);rw [val_toW hR0, show sg false (X % Y) = X % Y by simp [sg]] at hm2;refine qc (hl) ?_;(repeat' (first |refine qv ?_ |apply qn |apply qr));refine qc (hm1) ?_;(repeat' (first |refine qv ?_|fail));refine qc (hm2) ?_;(repeat' (first |apply qn |refine qe ?_|fail));refine JoinOk.of () trivial ?_;refine Ent.of [] ?_ ?_ rfl rfl;(repeat' (first |exact True.intro |refine ⟨⟨AV.Le.refl _, rfl⟩, ?_⟩ |refine ⟨⟨⟨_, rfl, BLe.cells (LeL.refl _)⟩, rfl⟩, ?_⟩ |refine ⟨⟨⟨_, rfl, BLe.cells ?_⟩, rfl⟩, ?_⟩|fail))
   ·rw [hQ]; exact LeL.refl _
   ·rw [hR]; exact LeL.refl _
 intro _ _
 have lQ : lenI Q ≤ 39000 := by
  show (toW ((Q.natAbs : Nat) : Int)).length ≤ _;rw [abs_self (by omega), hQ]; exact hlQ
 have lR : lenI R ≤ 39000 := by
  show (toW ((R.natAbs : Nat) : Int)).length ≤ _;rw [abs_self (by omega), hR]; exact hlR
 have lQ1 : lenI (Q + 1) ≤ 39001 := by
  show (toW (((Q + 1).natAbs : Nat) : Int)).length ≤ _;rw [abs_self (by omega)];refine (toW_len_le (by omega) _).2 ?_;have h1 := (toW_len_le (z := Q) (by omega) 39000).1 (by rw [hQ]; exact hlQ);rw [show (39001 : Nat) = 39000 + 1 from rfl, BB_succ];omega
 have l1 : lenI 1 ≤ 1 := lenI_small (by decide);have lY : lenI ((y.natAbs : Nat) : Int) ≤ 39000 := hyl;rcases Int.lt_or_le x 0 with hx | hx
 ·rw [decide_eq_true hx];by_cases hRz : R = 0
  ·rcases Int.lt_or_le y 0 with hy1 | hy1
   ·rw [decide_eq_true hy1];(repeat' (first |refine qv ?_ |apply qs |apply qr));refine qc (rZeroX_ok R) ?_;(repeat' (first |refine qv ?_ |apply qn |refine Fl.nil (fun _ => by kernel_rfl) ?_ |apply qs |apply qr |refine qe ?_ |refine AWP.condF rfl ?_ |(refine AWP.condN rfl ?_ ?_ <;> intro _ <;> try (exfalso; omega)) |apply qk |apply qt));obtain ⟨s1, s2⟩ := hsg.2.2.2.1 hx hRz hy1;refine RetOk.of rfl ?_;rw [← s1, ← s2];exact AV.Le.refl _
   ·rw [decide_eq_false (show ¬ y < 0 by omega)];(repeat' (first |refine qv ?_ |apply qs |apply qr));refine qc (rZeroX_ok R) ?_;(repeat' (first |refine qv ?_ |apply qn |apply qs |apply qr |refine AWP.condT rfl ?_ |(refine AWP.condN rfl ?_ ?_ <;> intro _ <;> try (exfalso; omega)) |apply qk));refine qc (rNeg_ok Q (show lenI Q ≤ 100000 by omega)) ?_;(repeat' (first |refine qv ?_ |apply qn |refine Fl.nil (fun _ => by kernel_rfl) ?_ |apply qs |apply qr |refine qe ?_ |apply qt));obtain ⟨s1, s2⟩ := hsg.2.2.1 hx hRz (by omega);refine RetOk.of rfl ?_;rw [← s1, ← s2];exact AV.Le.refl _
  ·rcases Int.lt_or_le y 0 with hy1 | hy1
   ·rw [decide_eq_true hy1];(repeat' (first |refine qv ?_ |apply qs |apply qr));refine qc (rZeroX_ok R) ?_;(repeat' (first |refine qv ?_ |apply qn |apply qr |(refine AWP.condN rfl ?_ ?_ <;> intro _ <;> try (exfalso; omega))));refine qc (rOf_ok 1 (by omega) (by omega)) ?_;skip;refine qc (rAdd_ok Q 1 (show lenI Q ≤ 40000 by omega) (show lenI 1 ≤ 40000 by omega)) ?_;(repeat' (first |refine qv ?_|fail));refine Fl.call rfl (rAbs_ok y (show lenI y ≤ 100000 by omega)) rfl rfl rfl (LeL.cons (AV.Le.of_eq (by rw [eY', decide_eq_true hy1]; rfl)) LeL.nil) ?_;(repeat' (first |refine qv ?_|fail));refine qc (rSub_ok (y.natAbs : Int) R (by omega) (show lenI R ≤ 40000 by omega)) ?_;(repeat' (first |refine qv ?_ |apply qn |refine Fl.nil (fun _ => by kernel_rfl) ?_ |apply qs |apply qr |refine qe ?_ |refine AWP.condF rfl ?_ |apply qk |apply qt));obtain ⟨s1, s2⟩ := hsg.2.2.2.2.2 hx hRz hy1;refine RetOk.of rfl ?_;rw [← s1, ← s2, hY];exact AV.Le.refl _
   ·rw [decide_eq_false (show ¬ y < 0 by omega)];(repeat' (first |refine qv ?_ |apply qs |apply qr));refine qc (rZeroX_ok R) ?_;(repeat' (first |refine qv ?_ |apply qn |apply qr |(refine AWP.condN rfl ?_ ?_ <;> intro _ <;> try (exfalso; omega))));refine qc (rOf_ok 1 (by omega) (by omega)) ?_;skip;refine qc (rAdd_ok Q 1 (show lenI Q ≤ 40000 by omega) (show lenI 1 ≤ 40000 by omega)) ?_;(repeat' (first |refine qv ?_|fail));refine Fl.call rfl (rAbs_ok y (show lenI y ≤ 100000 by omega)) rfl rfl rfl (LeL.cons (AV.Le.of_eq (by rw [eY', decide_eq_false (show ¬ y < 0 by omega)]; rfl)) LeL.nil) ?_;(repeat' (first |refine qv ?_|fail));refine qc (rSub_ok (y.natAbs : Int) R (by omega) (show lenI R ≤ 40000 by omega)) ?_;(repeat' (first |refine qv ?_ |apply qn |refine Fl.nil (fun _ => by kernel_rfl) ?_ |apply qs |apply qr |refine qe ?_ |refine AWP.condT rfl ?_));refine qc (rNeg_ok (Q + 1) (show lenI (Q + 1) ≤ 100000 by omega)) ?_;(repeat' (first |refine qv ?_ |apply qn |refine Fl.nil (fun _ => by kernel_rfl) ?_ |apply qs |apply qr |refine qe ?_ |apply qt));obtain ⟨s1, s2⟩ := hsg.2.2.2.2.1 hx hRz (by omega);refine RetOk.of rfl ?_;rw [← s1, ← s2, hY];exact AV.Le.refl _
 ·rw [decide_eq_false (show ¬ x < 0 by omega)];rcases Int.lt_or_le y 0 with hy1 | hy1
  ·rw [decide_eq_true hy1];(repeat' (first |refine qv ?_ |apply qn |apply qs |apply qr |refine Fl.skip rfl rfl ?_ |refine AWP.condT rfl ?_ |refine AWP.condF rfl ?_ |apply qk));refine qc (rNeg_ok Q (show lenI Q ≤ 100000 by omega)) ?_;(repeat' (first |refine qv ?_ |apply qn |refine Fl.nil (fun _ => by kernel_rfl) ?_ |apply qs |apply qr |refine qe ?_ |apply qt));obtain ⟨s1, s2⟩ := hsg.2.1 hx hy1;refine RetOk.of rfl ?_;rw [← s1, ← s2];exact AV.Le.refl _
  ·rw [decide_eq_false (show ¬ y < 0 by omega)];(repeat' (first |refine qv ?_ |apply qn |refine Fl.nil (fun _ => by kernel_rfl) ?_ |apply qs |apply qr |refine qe ?_ |refine Fl.skip rfl rfl ?_ |refine AWP.condF rfl ?_ |apply qk |apply qt));obtain ⟨s1, s2⟩ := hsg.1 hx (by omega);refine RetOk.of rfl ?_;rw [← s1, ← s2];exact AV.Le.refl _
end Go.Proofs.YtcaecieigoplbaaGreat
/- lucas.Chi in full; the reference's Pair. -/
namespace Go.AL
theorem chi_res2 {a : Int} {N : Nat} (ha : 2 ≤ a) (hf : Fit a) (hN : N < 2 ^ 63) {r : Int × Int} (hr : r = chF a (atL a N 63 (1, 0, 0)).2.2 (atL a N 63 (1, 0, 0)).1 (atL a N 63 (1, 0, 0)).2.1) : r.1 = clip (chiN a (N + 1)) ∧ r.2 = szErr (chiN a (N + 1)) := by
 have h := atL_ok ha hf (N := N) 63 (1, 0, 0) (.inl (by rw [Nat.div_eq_of_lt hN, chi_zero, psi_zero]))
 have hz : r.2 ≠ 0 → r.1 = 0 := by
  rw [hr]; unfold chF; exact fun h => cV_of_cE h
 have fin : r.2 = 4 → ¬ Fit (chiN a (N + 1)) → r.1 = clip (chiN a (N + 1)) ∧ r.2 = szErr (chiN a (N + 1)) := fun h1 h2 => by
  rw [clip_not h2, szErr_not h2];exact ⟨hz (by omega), h1⟩
 obtain ⟨p1, p2, p3⟩ := cp_pos ha N;rcases h with h | ⟨h1, h2⟩
 ·rw [h] at hr;simp only [Nat.pow_zero, Nat.div_one] at hr;have e1 : 0 ≤ a * psiN a N := Int.mul_nonneg (by omega) p2;have e2 : 0 ≤ a * (a * psiN a N) := Int.mul_nonneg (by omega) e1;have e3 : 0 ≤ a * chiN a N := Int.mul_nonneg (by omega) (by omega);have e4 : 2 * (a * psiN a N) ≤ a * (a * psiN a N) := Int.mul_le_mul_of_nonneg_right ha e1;have e5 : 2 * psiN a N ≤ a * psiN a N := Int.mul_le_mul_of_nonneg_right ha p2;have e6 : 2 * chiN a N ≤ a * chiN a N := Int.mul_le_mul_of_nonneg_right ha (by omega)
  have hs : a * chiN a N + (a * (a * psiN a N) - psiN a N) = chiN a (N + 1) := by rw [chi_succ]; grind
  rcases chF_ok (F := Fit (chiN a (N + 1))) (a := a) (c := chiN a N) (p := psiN a N) hf (fun hc => fit_of hc e1 (by omega)) (fun hc => fit_of hc e2 (by omega)) (fun hc => fit_of hc (by omega) (by omega)) (fun hc => fit_of hc e3 (by omega)) (fun hc => by rw [hs]; exact hc) with ⟨k1, kf⟩ | ⟨k2, n1⟩
  ·rw [hr, k1, hs];rw [hs] at kf;rw [clip_fit kf, szErr_fit kf]; exact ⟨rfl, rfl⟩
  ·rw [← hr] at k2;exact fin k2 n1
 ·refine fin ?_ fun hc => h2 (fit_of hc (cp_pos ha (N + 1)).2.1 (psi_le_chi ha N));rw [hr, h1, chF_err]
theorem chi_not_fit {a : Int} (ha : 2 ≤ a) {n : Nat} (h : 131072 < n) : ¬ Fit (chiN a n) := fun hc => by
 obtain ⟨m, rfl⟩ : ∃ m, n = m + 1 := ⟨n - 1, by omega⟩;exact psi_not_fit ha h (fit_of hc (cp_pos ha (m + 1)).2.1 (psi_le_chi ha m))
theorem chi_rec (a : Int) (n : Nat) : (a + a) * chiN a (n + 1) - chiN a n = chiN a (n + 2) := by
 rw [chi_succ a (n + 1), psi_succ, chi_succ];grind
theorem chi_lt_psi {a : Int} (ha : 2 ≤ a) (n : Nat) : chiN a n ≤ psiN a (n + 1) := (psi_step ha n).2.1
theorem psi_ub {a : Int} (ha : 2 ≤ a) : ∀ n : Nat, psiN a (n + 1) ≤ (2 * a) ^ n
 | 0 => by rw [psi_one]; simp
 | n + 1 => by
  have ih := psi_ub ha n;rcases psi_up ha (n + 1) with h | h
  ·have h2 : (a + a) * psiN a (n + 1) ≤ (a + a) * (2 * a) ^ n := Int.mul_le_mul_of_nonneg_left ih (by omega)
   have e : (2 * a) ^ (n + 1) = (a + a) * (2 * a) ^ n := by rw [Int.pow_succ, Int.mul_comm]; congr 1; omega
   omega
  ·omega
theorem lenI_nonneg {x : Int} {k : Nat} (h : 0 ≤ x) : lenI x ≤ k ↔ x < BB k := by
 rw [lenI_le]
 have : ((x.natAbs : Nat) : Int) = x := by omega
 rw [this]
end Go.AL
namespace Go.Proofs.YtcaecieigoplbaaGreat
open Go.AL
theorem elementC2_ok (a n : Int) (ha : Fit a) (h2 : 2 ≤ a) (h0 : 1 ≤ n) (h1 : n ≤ 9223372036854775807) : PureFn Tryz.prog 163 [aX a, aN n, aN 1, .fn 165 []] (aR (chiN a n.toNat)) := by
 refine PureFn.of_body Tryz.func163 rfl Tryz.ntmps163 rfl rfl ?_;(repeat' (first |refine qv ?_ |apply qn |apply qs |apply qr |refine qe ?_|fail));refine qc (fits_ok a ha h2) ?_;(repeat' (first |refine qv ?_ |apply qn |apply qs |apply qr |refine qe ?_ |refine AWP.condF rfl ?_ |(refine AWP.condD rfl ?_ ?_ <;> intro _ <;> try (exfalso; omega)) |apply qb |apply qk |apply qt))
 ·rename_i h;refine RetOk.of rfl ?_;rw [aR_not (chi_not_fit h2 (by omega))];exact AV.Le.tup (LeL.cons aX_zero (LeL.refl _))
 ·rename_i h;refine Fl.io rfl [(900, 33)] (walk_ok a) rfl rfl (LeL.refl _) rfl trivial rfl rfl rfl rfl rfl ?_;(repeat' (first |refine qv ?_ |apply qn |apply qs |apply qr |refine qw ?_|fail));refine qi [(900, 33)] (at_ok a (n - 1) ha (by omega) (by omega)) ?_;skip
  have hN : (((n - 1).toNat : Nat) : Int) = n - 1 := by omega
  have hfc : Fit (atL a (n - 1) 63 (1, 0, 0)).1 ∧ Fit (atL a (n - 1) 63 (1, 0, 0)).2.1 := atL_fit a (n - 1) 63 _ fit_one Fit.zero;refine Fl.ioV rfl rfl [(900, 33)] (chiS_ok a _ _ _ ha hfc.1 hfc.2) rfl rfl (LeL.refl _) rfl ⟨⟨⟨_, rfl, BLe.cells (LeL.refl _)⟩, rfl⟩, trivial⟩ rfl rfl rfl rfl rfl ?_;(repeat' (first |refine qv ?_ |apply qn |refine Fl.nil (fun _ => by kernel_rfl) ?_ |apply qs |apply qr |refine qe ?_ |apply qt));have hr := chi_res2 (a := a) (N := (n - 1).toNat) h2 ha (by omega) rfl;rw [hN, show (n - 1).toNat + 1 = n.toNat by omega] at hr;refine RetOk.of rfl (AV.Le.tup (LeL.cons (AV.Le.agg ?_) (LeL.cons (AV.Le.int hr.2) LeL.nil)));exact leX (σ := []) hr.1
theorem Chi2_ok (a n : Int) (ha : Fit a) (h2 : 2 ≤ a) (h0 : 1 ≤ n) (h1 : n ≤ 9223372036854775807) : PureFn Tryz.prog 100 [aX a, aN n] (aR (chiN a n.toNat)) := by
 refine PureFn.of_body Tryz.func100 rfl Tryz.ntmps100 rfl rfl ?_;(repeat' (first |refine qv ?_ |apply qn |apply qs |apply qr |refine qe ?_|fail));refine qc (elementC2_ok a n ha h2 h0 h1) ?_;(repeat' (first |refine qv ?_ |apply qn |refine qe ?_ |apply qt));exact RetOk.of rfl (AV.Le.refl _)

theorem rPair_ok (a : Int) (n : Nat) (ha : Fit a) (h2 : 2 ≤ a) (hn : n ≤ 1000000000) (r : AV) (hr1 : lenI (psiN a n) ≤ 8192 → r = .tup [aX (chiN a n), aX (psiN a n), aB true]) (hr2 : ¬ lenI (psiN a n) ≤ 8192 → r = .tup [aX 0, aX 0, aB false]) : PureFn Tryz.prog 50 [aX a, aN n] r := by
 refine PureFn.of_body Tryz.func50 rfl Tryz.ntmps50 rfl rfl ?_;have la := ha.lenI;have l1 : lenI 1 ≤ 1 := lenI_small (by decide);have e1 := rAdd_ok a a (show lenI a ≤ _ by omega) (show lenI a ≤ _ by omega);have hpos := fun n => (cp_pos h2 n).2.1;have hpos2 := fun n => (cp_pos h2 n).1;refine AWP.seqS ?_;(repeat' (first |refine qv ?_ |apply qn |apply qr |refine qe ?_|fail));refine ⟨AWP.seqS ?_⟩;(repeat' (first |apply qr));refine qc (rOf_ok 1 (by omega) (by omega)) ?_;(repeat' (first |apply qn |refine qe ?_|fail));refine ⟨AWP.seqS ?_⟩;(repeat' (first |refine qv ?_ |apply qr));refine qc (rOf_ok 1 (by omega) (by omega)) ?_;(repeat' (first |refine Fl.nil (fun _ => by kernel_rfl) ?_ |refine qe ?_|fail));refine ⟨AWP.seqS ?_⟩;(repeat' (first |refine qv ?_ |apply qr));refine qc (e1) ?_;(repeat' (first |apply qn |refine qe ?_|fail));refine ⟨?_⟩;(repeat' (first |refine qv ?_ |apply qn |apply qs |apply qr |apply qb));refine AWP.loop (G := Nat) (fun i => i ≤ n ∧ lenI (psiN a i) ≤ 8192) (fun i => St.of [] [(1, aN n), (4, .ptr 4 0), (5, .ptr 5 0), (6, aB false), (7, .ptr 7 0), (8, .ptr 8 0), (9, .ptr 9 0), (10, .ptr 10 0), (11, .ptr 11 0), (12, aN i)] [(4, .cells [aB false, .v (.slice none 0 0)] 35), (5, .cells [aB false, .v (.slice none 0 0)] 35), (7, .cells (eX (chiN a i)) 35), (8, .cells (eX (psiN a i)) 35), (9, .cells (eX (chiN a (i + 1))) 35), (10, .cells (eX (psiN a (i + 1))) 35), (11, .cells (eX (a + a)) 35)]) (fun i => n - i) 0 ⟨by omega, by rw [psi_zero]; have := (lenI_le (x := 0) (n := 0)).2 (by simp [BB_zero]); omega⟩ ?_ ?_
 ·refine Ent.of [] ?_ ?_ rfl rfl;(repeat' (first |exact True.intro |refine ⟨⟨AV.Le.refl _, rfl⟩, ?_⟩ |refine ⟨⟨⟨_, rfl, BLe.cells (LeL.refl _)⟩, rfl⟩, ?_⟩ |refine ⟨⟨⟨_, rfl, BLe.cells ?_⟩, rfl⟩, ?_⟩|fail))
  ·exact leX_zero (σ := []) (psi_zero a).symm
  ·exact leX (σ := []) (by rw [chi_succ, chi_zero, psi_zero]; omega)
  ·exact leX (σ := []) (psi_one a).symm
 ·intro i ⟨hi, hl⟩;have p0 := hpos i;have p1 := hpos (i + 1);have c0 := hpos2 i;have c1 := hpos2 (i + 1)
  have b1 : psiN a (i + 1) < BB 12289 := by
   rcases Nat.eq_zero_or_pos i with h | h
   ·subst h;rw [psi_one];exact Int.lt_of_lt_of_le ((lenI_nonneg (x := 1) (by omega)).1 l1) (BB_le (by omega))
   ·exact psi_bound h2 ha (by omega) ((lenI_nonneg p0).1 hl)
  have b2 : psiN a (i + 2) < BB 16386 := psi_bound h2 ha (by omega) b1;have lp1 : lenI (psiN a (i + 1)) ≤ 12289 := (lenI_nonneg p1).2 b1;have lc1 : lenI (chiN a (i + 1)) ≤ 16386 := (lenI_nonneg (by omega)).2 (Int.lt_of_le_of_lt (chi_lt_psi h2 (i + 1)) b2);have lc0 : lenI (chiN a i) ≤ 12289 := (lenI_nonneg (by omega)).2 (Int.lt_of_le_of_lt (chi_lt_psi h2 i) b1);have laa : lenI (a + a) ≤ 4097 := (lenI_nonneg (by omega)).2 (twice_lt ha (by omega));have lm1 := lenI_mul (a + a) (chiN a (i + 1));have lm2 := lenI_mul (a + a) (psiN a (i + 1));have m1 := rMul_ok (a + a) (chiN a (i + 1)) (show lenI _ ≤ _ by omega) (show lenI _ ≤ _ by omega);have m2 := rMul_ok (a + a) (psiN a (i + 1)) (show lenI _ ≤ _ by omega) (show lenI _ ≤ _ by omega);have s1 := rSub_ok ((a + a) * chiN a (i + 1)) (chiN a i) (by omega) (by omega);have s2 := rSub_ok ((a + a) * psiN a (i + 1)) (psiN a i) (by omega) (by omega);rw [chi_rec] at s1;rw [psi_rec] at s2;(repeat' (first |refine qv ?_ |apply qn |refine Fl.nil (fun _ => by kernel_rfl) ?_ |apply qs |apply qr |refine qe ?_ |(refine AWP.condD rfl ?_ ?_ <;> intro _ <;> try (exfalso; omega)) |apply qb |apply qk |apply qx |apply qt))
  ·refine qc (m1) ?_;(repeat' (first |refine qv ?_|fail));refine qc (s1) ?_;(repeat' (first |refine qv ?_ |refine Fl.nil (fun _ => by kernel_rfl) ?_ |apply qs |apply qr |refine qe ?_|fail));refine qc (m2) ?_;(repeat' (first |refine qv ?_|fail));refine qc (s2) ?_;(repeat' (first |refine qv ?_ |apply qn |refine Fl.nil (fun _ => by kernel_rfl) ?_ |apply qs |apply qr |refine qw ?_ |refine qe ?_ |(refine AWP.condD rfl ?_ ?_ <;> intro _ <;> try (exfalso; omega)) |apply qk |apply qt))
   ·rename_i hlt hgt
    have hgt' : 8192 < lenI (psiN a (i + 1)) := by unfold lenI; omega
    have hno : ¬ lenI (psiN a n) ≤ 8192 := fun k => by
     have := (lenI_nonneg (hpos n)).1 k;have hm := psi_mono h2 (show i + 1 ≤ n by omega);have := (lenI_nonneg p1 (k := 8192)).2 (by omega);omega
    rw [hr2 hno];refine RetOk.of rfl (AV.Le.tup (LeL.cons aX_zero (LeL.cons aX_zero (LeL.refl _))))
   ·rename_i hlt hgt
    have hle : lenI (psiN a (i + 1)) ≤ 8192 := by unfold lenI; omega
    refine LoopEnd.of (i + 1) ⟨by omega, hle⟩ (by omega) ?_;refine Ent.of [] ?_ ?_ rfl rfl;(repeat' (first |exact True.intro |refine ⟨⟨AV.Le.refl _, rfl⟩, ?_⟩ |refine ⟨⟨⟨_, rfl, BLe.cells (LeL.refl _)⟩, rfl⟩, ?_⟩|fail))
  ·rename_i hlt
   have hin : i = n := by omega
   subst hin;rw [hr1 hl];exact RetOk.of rfl (AV.Le.refl _)
end Go.Proofs.YtcaecieigoplbaaGreat
/- ref01: SameAll. -/
namespace Go.AL
theorem take_eq_succ {α : Type} {X Y : List α} {i : Nat} {x y : α} (hx : X[i]? = some x) (hy : Y[i]? = some y) (h : X.take i = Y.take i) (e : x = y) : X.take (i + 1) = Y.take (i + 1) := by
 rw [take_snoc hx, take_snoc hy, h, e]
end Go.AL
namespace Go.Proofs.YtcaecieigoplbaaGreat
open Go.AL
theorem rSameAll_ok (X Y : List Int) (hX : ∀ x ∈ X, (toW x.natAbs).length ≤ 1000000) (hl : X.length ≤ 1000000) : PureFn Tryz.prog 24 [.sl 2 eX X, .sl 2 eX Y] (aB (decide (X = Y))) := by
 refine PureFn.of_body Tryz.func24 rfl Tryz.ntmps24 rfl rfl ?_;(repeat' (first |refine qv ?_ |apply qn |apply qs |apply qr |(refine AWP.condN rfl ?_ ?_ <;> intro _ <;> try (exfalso; omega)) |apply qb |apply qk |apply qt))
 ·rename_i h;refine RetOk.of rfl (AV.Le.bool (Eq.symm (decide_eq_false fun e => h ?_)));rw [e]
 rename_i hlen;refine AWP.loop (G := Nat) (fun i => i ≤ X.length ∧ X.take i = Y.take i) (fun i => St.of [] [(0, .sl 2 eX X), (1, .sl 2 eX Y), (5, aN i)] []) (fun i => X.length - i) 0 ⟨by omega, by simp⟩ ?_ ?_
 ·refine Ent.of [] ?_ ?_ rfl rfl;(repeat' (first |exact True.intro |refine ⟨⟨AV.Le.refl _, rfl⟩, ?_⟩|fail))
 ·intro i ⟨h0, h1⟩;(repeat' (first |refine qv ?_ |apply qn |apply qs |apply qr |(refine AWP.condD rfl ?_ ?_ <;> intro _ <;> try (exfalso; omega)) |apply qb |apply qk |apply qx |apply qt |(refine Fl.el rfl rfl rfl rfl rfl rfl rfl rfl (by omega) (by omega) ?_; intro _ _)|fail))
  ·rename_i hi x hx y hy;rw [Int.toNat_natCast] at hx hy;refine qc (rSame_ok x y (hX x (List.mem_of_getElem? hx))) ?_;(repeat' (first |refine qv ?_ |apply qn |refine Fl.nil (fun _ => by kernel_rfl) ?_ |apply qs |apply qr |refine qw ?_ |(refine AWP.condN rfl ?_ ?_ <;> intro _ <;> try (exfalso; omega)) |apply qk |apply qt))
   ·rename_i hne;refine RetOk.of rfl (AV.Le.bool (Eq.symm (decide_eq_false fun e => hne ?_)));subst e;rw [hx] at hy;injection hy
   ·rename_i heq;refine LoopEnd.of (i + 1) ⟨by omega, take_eq_succ hx hy h1 heq⟩ (by omega) ?_;refine Ent.of [] ?_ ?_ rfl rfl;(repeat' (first |exact True.intro |refine ⟨⟨AV.Le.refl _, rfl⟩, ?_⟩|fail))
  ·rename_i hi;refine RetOk.of rfl (AV.Le.bool (Eq.symm (decide_eq_true ?_)));rw [List.take_of_length_le (by omega), List.take_of_length_le (by omega)] at h1;exact h1
end Go.Proofs.YtcaecieigoplbaaGreat

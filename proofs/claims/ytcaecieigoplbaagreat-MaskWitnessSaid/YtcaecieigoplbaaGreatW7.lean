/- Part 7 of a proof layer and of the contracts of the functions (XYJ XL0 XYL XL1 XL2 XL3 XRU XRQ XZ7 XU0 XU2 XRS XN3 XK5 XN4 XZ8). -/
import Derived.Deep.Strs
import Derived.Test.YtcaecieigoplbaaGreatW6
set_option linter.unusedVariables false
set_option linter.unusedSimpArgs false
/- ref01.long, by several words: the walk. -/
namespace Go.Proofs.YtcaecieigoplbaaGreat
open Go.AL

set_option maxHeartbeats 2000000 in
theorem long_ok (x y : Int) (N m : Nat) (hx : 0 ≤ x) (hy : 0 < y) (hxl : (toW x).length ≤ 40000) (hm : (toW y).length = m + 2) (hN : (toW x).length = N + m) (hN2 : 2 ≤ N) : PureFn Tryz.prog 154 [aW (toW x), aW (toW y)] (.tup [aW (wdW N (x / y)), aW (toW (x % y))]) := by
  refine PureFn.of_body Tryz.func154 rfl Tryz.ntmps154 rfl rfl ?_;have wy := toW_ok y;have hsy := val_toW (show 0 ≤ y by omega);have hsx := val_toW hx;obtain ⟨w, hw⟩ : ∃ w, (toW y)[m + 1]? = some w := ⟨_, List.getElem?_eq_getElem (by omega)⟩;have ww := wy.get hw
  have hw0 : 0 < w := by
    have e : toW y = (toW y).take (m + 1) ++ [w] := by
      conv => lhs; rw [← List.take_length (l := toW y), hm, take_top hw]
    have h1 := NW.toW y;rw [e] at h1;have h2 := h1.last;omega
  refine AWP.seqS ?_;(repeat' (first |refine Fl.v rfl rfl rfl ?_ |refine Fl.nilF ?_ |refine AWP.region ?_));refine ⟨?_⟩;refine AWP.seqS ?_;(repeat' (first |refine Fl.v rfl rfl rfl ?_ |refine Fl.nilF ?_ |refine AWP.region ?_));refine ⟨?_⟩;refine AWP.seqJ (G := Nat) (fun k => k = 32 - lenB w.toNat ∧ w * 2 ^ k < 4294967296) (fun k => St.of [] [(0, aW (toW x)), (1, aW (toW y)), (6, aN k)] []) ?_ ?_
  · (repeat' (first |refine AWP.block ?_));refine AWP.loop (G := Nat) (fun k => w * 2 ^ k < 4294967296) (fun k => St.of [] [(0, aW (toW x)), (1, aW (toW y)), (6, aN k)] []) (fun k => 32 - k) 0 (by rw [Int.pow_zero]; omega) ?_ ?_
    · refine Ent.of [] ?_ ?_ rfl rfl;(repeat' (first |exact True.intro |refine ⟨⟨AV.Le.refl _, rfl⟩, ?_⟩|fail))
    · intro k hk;have hk32 := norm_loop hw0 hk;have h2 : (0 : Int) < 2 ^ k := Int.pow_pos (by omega);have hwk : 0 ≤ w * 2 ^ k := Int.mul_nonneg (by omega) (by omega);(repeat' (first |refine Fl.v rfl rfl rfl ?_ |refine Fl.nilF ?_ |refine AWP.seq ?_ |refine AWP.region ?_ |refine Fl.w rfl rfl rfl (by first | exact True.intro | omega) ?_ |(refine AWP.condD rfl ?_ ?_ <;> intro _ <;> try (exfalso; omega)) |refine AWP.block ?_ |refine AWP.skip ?_ |refine AWP.exit ?_ |(refine Fl.elW rfl rfl rfl rfl rfl rfl rfl rfl (by omega) (by omega) (by assumption) ?_; intro _ _ _ _)|fail))
      · rename_i z hz hz0 hz1 hlt;rw [show ((((toW y).length : Nat) : Int) - 1).toNat = m + 1 by omega, hw] at hz;injection hz with hz;subst hz;rw [Int.toNat_natCast] at hlt;refine LoopEnd.of (k + 1) ?_ (by omega) ?_
        · rw [Int.pow_succ, ← Int.mul_assoc]; omega
        · refine Ent.of [] ?_ ?_ rfl rfl;(repeat' (first |exact True.intro |refine ⟨⟨AV.Le.refl _, rfl⟩, ?_⟩|fail))
      · rename_i z hz hz0 hz1 hlt;rw [show ((((toW y).length : Nat) : Int) - 1).toNat = m + 1 by omega, hw] at hz;injection hz with hz;subst hz;rw [Int.toNat_natCast] at hlt;refine JoinOk.of k ⟨norm_of hw0 (by omega) hk, hk⟩ ?_;refine Ent.of [] ?_ ?_ rfl rfl;(repeat' (first |exact True.intro |refine ⟨⟨AV.Le.refl _, rfl⟩, ?_⟩|fail))
  intro k ⟨hk, hkb⟩;obtain ⟨n1, n2, n3, n4, n5⟩ := norm_facts hy hm hw hk;have h2 : (0 : Int) < 2 ^ k := Int.pow_pos (by omega);have hV : 0 < y * 2 ^ k := Int.mul_pos hy h2;have hX : 0 ≤ x * 2 ^ k := Int.mul_nonneg hx (by omega)
  have hp : (2 : Int) ^ k ≤ 4294967296 := by
    have : (2 : Int) ^ k ≤ 2 ^ 32 := pow_le_r (by omega) (by omega);rw [show (2 : Int) ^ 32 = 4294967296 from rfl] at this; exact this
  have hxB : x < BB (toW x).length := (toW_len_le hx _).1 (by omega)
  have hXB : x * 2 ^ k < BB ((toW x).length + 1) := by
    have a : x * 2 ^ k < BB (toW x).length * 2 ^ k := Int.mul_lt_mul_of_pos_right hxB h2;have b : BB (toW x).length * 2 ^ k ≤ BB (toW x).length * 4294967296 := Int.mul_le_mul_of_nonneg_left hp (Int.le_of_lt (BB_pos _));rw [BB_succ]; omega
  obtain ⟨U, hU⟩ : ∃ U, U = wdW ((toW x).length + 1) (val (toW x) * 2 ^ k) ++ [0] := ⟨_, rfl⟩
  have hUl : U.length = N + (m + 2) := by rw [hU, List.length_append, wdW_length]; dsimp only [List.length_cons, List.length_nil]; omega
  have wU : WOk U := by rw [hU]; exact (wdW_ok _ _).append (WOk.zeros 1)
  have hUv : val U = x * 2 ^ k := by
    rw [hU, val_snoc, hsx, val_wdW _ _ hX hXB]; omega
  have wV := toW_ok (y * 2 ^ k);have hVv := val_toW (show 0 ≤ y * 2 ^ k by omega);obtain ⟨v, hv⟩ : ∃ v, v = toW (y * 2 ^ k) := ⟨_, rfl⟩;rw [← hv] at n3 n4 wV hVv
  have hVB : y * 2 ^ k < BB (m + 2) := by
    have := val_lt wV;rwa [n3, hVv] at this
  refine AWP.seqJ (G := Unit) (fun _ => True) (fun _ => St.of [] [(1, aW (toW y)), (6, aN k), (7, .row 37)] [(37, .row 1 eW U 62)]) ?_ ?_
  · (repeat' (first |refine Fl.v rfl rfl rfl ?_ |refine AWP.region ?_));refine Fl.io rfl [(900, 35)] (shiftedRow_ok (toW x) k (toW_ok _) (by omega) n1) rfl rfl (LeL.refl _) rfl trivial rfl rfl rfl rfl rfl ?_;skip;refine Fl.lit rfl rfl rfl rfl rfl eW [0] rfl rfl rfl rfl (by intro _ _; rfl) rfl ?_;skip;refine Fl.ap rfl rfl rfl rfl rfl rfl rfl rfl rfl rfl rfl rfl rfl (fun _ => rfl) (fun _ => rfl) (AV.Le.refl _) (by simp only [wdW_length, List.length_nil, List.length_cons]; omega) (by simp only [wdW_length, List.length_nil, List.length_cons]; omega) ?_;(repeat' (first |refine Fl.v rfl rfl rfl ?_ |refine Fl.nilF ?_));refine JoinOk.of () trivial ?_;refine Ent.of [] ?_ ?_ rfl rfl;(repeat' (first |exact True.intro |refine ⟨⟨AV.Le.refl _, rfl⟩, ?_⟩ |refine ⟨⟨⟨_, rfl, BLe.row ?_⟩, rfl⟩, ?_⟩|fail));exact hU.symm
  intro _ _;obtain ⟨v0, hv0⟩ : ∃ v0, v0 = wdW ((toW y).length + 1) (val (toW y) * 2 ^ k) := ⟨_, rfl⟩
  have hv0l : v0.length = m + 3 := by rw [hv0, wdW_length]; omega
  refine AWP.seqJ (G := Unit) (fun _ => True) (fun _ => St.of [] [(6, aN k), (7, .row 37), (8, aW v)] [(37, .row 1 eW U 62)]) ?_ ?_
  · have c2 := shifted_ok (toW y) k wy (by omega) n1;rw [← hv0] at c2;(repeat' (first |refine Fl.v rfl rfl rfl ?_ |refine AWP.region ?_));refine Fl.call rfl c2 rfl rfl rfl (LeL.refl _) ?_;(repeat' (first |refine Fl.v rfl rfl rfl ?_ |refine Fl.nilF ?_ |refine Fl.w rfl rfl rfl (by first | exact True.intro | omega) ?_|fail));refine JoinOk.of () trivial ?_;refine Ent.of [] ?_ ?_ rfl rfl;(repeat' (first |exact True.intro |refine ⟨⟨AV.Le.refl _, rfl⟩, ?_⟩ |refine ⟨⟨⟨_, rfl, BLe.row rfl⟩, rfl⟩, ?_⟩ |refine ⟨⟨AV.Le.sl ?_, rfl⟩, ?_⟩|fail));rw [hv0, wdW_take _ _ _ (by omega), hsy, hv];exact wdW_toW (by omega) (by rw [← hv, n3]; omega)
  intro _ _;clear hU hv0 hv0l v0;refine AWP.seqS ?_;(repeat' (first |refine Fl.v rfl rfl rfl ?_ |refine Fl.nilF ?_ |refine AWP.region ?_));refine ⟨AWP.seqJ (G := List Int) (fun z => z = List.replicate N 0 ∧ z.length = N) (fun z => St.of [] [(6, aN k), (7, .row 37), (8, aW v), (9, aN (m + 2)), (10, .row 50)] [(37, .row 1 eW U 62), (50, .row 1 eW z 62)]) ?_ ?_⟩
  · (repeat' (first |refine Fl.v rfl rfl rfl ?_ |refine Fl.nilF ?_ |refine AWP.region ?_ |refine Fl.w rfl rfl rfl (by first | exact True.intro | omega) ?_ |refine Fl.make rfl rfl rfl rfl rfl rfl rfl rfl rfl rfl eW 0 (by exact LeL.refl _) (by rfl) (by first | omega | (dsimp only; omega)) (by first | omega | (dsimp only; omega)) (by first | omega | (dsimp only; omega)) ?_|fail));refine JoinOk.of (List.replicate N 0) ⟨rfl, by simp⟩ ?_;refine Ent.of [] ?_ ?_ rfl rfl;(repeat' (first |exact True.intro |refine ⟨⟨AV.Le.refl _, rfl⟩, ?_⟩ |refine ⟨⟨⟨_, rfl, BLe.row rfl⟩, rfl⟩, ?_⟩ |refine ⟨⟨⟨_, rfl, BLe.row ?_⟩, rfl⟩, ?_⟩ |refine ⟨⟨AV.Le.int ?_, rfl⟩, ?_⟩|fail))
    · omega
    · congr 1; omega
  intro z ⟨hz, hzl⟩;refine AWP.seqJ (G := List Int × Int) (fun (os, ρ) => DivInv U (y * 2 ^ k) (m + 2) N 0 os ρ) (fun (os, ρ) => St.of [] [(6, aN k), (7, .row 37), (10, .row 50)] [(37, .row 1 eW (wdW (m + 2) ρ ++ List.replicate N 0) 62), (50, .row 1 eW os 62)]) ?_ ?_
  · (repeat' (first |refine Fl.v rfl rfl rfl ?_ |refine Fl.nilF ?_ |refine AWP.seq ?_ |refine AWP.region ?_ |refine Fl.w rfl rfl rfl (by first | exact True.intro | omega) ?_ |refine AWP.block ?_));refine AWP.loop (G := Nat × List Int × Int) (fun (i, os, ρ) => DivInv U (y * 2 ^ k) (m + 2) N i os ρ)
      (fun (i, os, ρ) => St.of [] [(6, aN k), (7, .row 37), (8, aW v), (9, aN (m + 2)), (10, .row 50), (11, aN ((i : Int) - 1))] [(37, .row 1 eW (U.take i ++ (wdW (m + 2) ρ ++ List.replicate (N - i) 0)) 62), (50, .row 1 eW (List.replicate i 0 ++ os) 62)])
      (fun (i, os, ρ) => i) (N, [], val (U.drop N)) ?_ ?_ ?_
    · have hsp : val U = val (U.take N) + BB N * val (U.drop N) := by
        conv => lhs; rw [← List.take_append_drop N U, val_append]
        rw [List.length_take, Nat.min_eq_left (by omega)]
      have ht := val_bounds (k := N) wU (by omega);have hdn := val_nonneg (wU.drop N);refine ⟨Nat.le_refl _, by simp, WOk.nil, hdn, ?_, by simp [val]⟩;rcases Int.lt_or_le (val (U.drop N)) (y * 2 ^ k) with h | h
      · exact h
      · have a1 : BB N * (y * 2 ^ k) ≤ BB N * val (U.drop N) := Int.mul_le_mul_of_nonneg_left h (Int.le_of_lt (BB_pos _));have a2 : BB N * (BB (m + 1) * 2 ^ k) ≤ BB N * (y * 2 ^ k) := Int.mul_le_mul_of_nonneg_left n5 (Int.le_of_lt (BB_pos _));have a3 : x < BB (N + (m + 1)) := (toW_len_le hx _).1 (by omega);have a4 : x * 2 ^ k < BB (N + (m + 1)) * 2 ^ k := Int.mul_lt_mul_of_pos_right a3 h2;rw [BB_add] at a4;have a5 : BB N * BB (m + 1) * 2 ^ k = BB N * (BB (m + 1) * 2 ^ k) := Int.mul_assoc _ _ _;omega
    · refine Ent.of [] ?_ ?_ rfl rfl;(repeat' (first |exact True.intro |refine ⟨⟨AV.Le.refl _, rfl⟩, ?_⟩ |refine ⟨⟨⟨_, rfl, BLe.row ?_⟩, rfl⟩, ?_⟩ |refine ⟨⟨AV.Le.int ?_, rfl⟩, ?_⟩|fail))
      · omega
      · have hdl : (U.drop N).length = m + 2 := by rw [List.length_drop]; omega
        have := wdW_eq (wU.drop N);rw [hdl] at this;rw [← this, Nat.sub_self, List.replicate_zero, List.append_nil, List.take_append_drop]
      · rw [hz, List.append_nil]
    · intro ⟨i, os, ρ⟩ hd;refine AWP.seqS ?_;(repeat' (first |refine Fl.v rfl rfl rfl ?_ |refine Fl.nilF ?_ |refine AWP.seq ?_ |refine AWP.region ?_ |(refine AWP.condD rfl ?_ ?_ <;> intro _ <;> try (exfalso; omega)) |refine AWP.skip ?_ |refine AWP.exit ?_))
      · rename_i hi;obtain ⟨i', rfl⟩ : ∃ i', i = i' + 1 := ⟨i - 1, by omega⟩;have hiN : i' + 1 ≤ N := hd.hi;obtain ⟨u, hu⟩ : ∃ u, U[i']? = some u := ⟨_, List.getElem?_eq_getElem (by omega)⟩;have wu := wU.get hu;have hst := (hd.step hV hu wU).resolve_right (fun h => h hVB)
        have hml : (u :: wdW (m + 2) ρ).length = m + 3 := by rw [List.length_cons, wdW_length]
        have hrow : U.take (i' + 1) ++ (wdW (m + 2) ρ ++ List.replicate (N - (i' + 1)) 0) = U.take i' ++ (u :: wdW (m + 2) ρ) ++ List.replicate (N - (i' + 1)) 0 := by
          rw [take_top hu]; simp
        have hmv : val (u :: wdW (m + 2) ρ) = u + 4294967296 * ρ := by
          rw [val, val_wdW (m + 2) ρ hd.r0 (by have := hd.r1; omega)]
        have d : DigOk m (u :: wdW (m + 2) ρ) v := ⟨hml, n3, WOk.cons wu.1 wu.2 (wdW_ok _ _), wV, n4, by rw [hmv, hVv]; have := hd.r1; omega, by omega⟩
        have hend : ∀ ρ' : Int, 0 ≤ ρ' → ρ' < y * 2 ^ k → wdW (m + 2) ρ' ++ List.replicate (N - i') 0 = wdW (m + 3) ρ' ++ List.replicate (N - (i' + 1)) 0 := by
          intro ρ' h0 h1;rw [wdW_snoc0 (m + 2) ρ' h0 (by omega), show N - i' = N - (i' + 1) + 1 by omega, List.replicate_succ];simp
        obtain ⟨A, hA⟩ : ∃ A, A = U.take i' := ⟨_, rfl⟩;obtain ⟨mid, hmid⟩ : ∃ M, M = u :: wdW (m + 2) ρ := ⟨_, rfl⟩;obtain ⟨C, hC⟩ : ∃ C : List Int, C = List.replicate (N - (i' + 1)) 0 := ⟨_, rfl⟩;obtain ⟨O, hO⟩ : ∃ O, O = List.replicate (i' + 1) 0 ++ os := ⟨_, rfl⟩
        have hAl : A.length = i' := by rw [hA, List.length_take]; omega
        have hCl : C.length = N - (i' + 1) := by rw [hC, List.length_replicate]
        have hOl : O.length = N := by rw [hO, List.length_append, List.length_replicate]; have := hd.hl; omega
        have wA : WOk A := by rw [hA]; exact wU.take _
        have wC : WOk C := by rw [hC]; exact WOk.zeros _
        rw [← hmid] at d hst hml;rw [← hmid, ← hA, ← hC] at hrow;rw [← hC] at hend;refine ⟨AWP.seq (AWP.block ?_)⟩;refine AWP.ent (s' := St.of [] [(6, aN k), (7, .row 37), (8, aW v), (9, aN (m + 2)), (10, .row 50), (11, aN i')] [(37, .row 1 eW (A ++ mid ++ C) 62), (50, .row 1 eW O 62)]) ?_ ?_
        · refine Ent.of [] ?_ ?_ rfl rfl;(repeat' (first |exact True.intro |refine ⟨⟨AV.Le.refl _, rfl⟩, ?_⟩ |refine ⟨⟨⟨_, rfl, BLe.row ?_⟩, rfl⟩, ?_⟩ |refine ⟨⟨AV.Le.int ?_, rfl⟩, ?_⟩|fail))
          · omega
          · rw [hC] at hrow ⊢; exact hrow
          · exact hO.symm
        clear hrow hmv hz hzl z hC hmid hd hu wu u;have hm' := d.hm;have hbig := d.big;have wv := d.wv;have wW : WOk (A ++ mid ++ C) := (wA.append d.wm).append wC;obtain ⟨un, e0⟩ : ∃ x, mid[m + 2]? = some x := ⟨_, List.getElem?_eq_getElem (by omega)⟩;obtain ⟨u1, e1⟩ : ∃ x, mid[m + 1]? = some x := ⟨_, List.getElem?_eq_getElem (by omega)⟩;obtain ⟨u2, e2⟩ : ∃ x, mid[m]? = some x := ⟨_, List.getElem?_eq_getElem (by omega)⟩;obtain ⟨v1, f1⟩ : ∃ x, v[m + 1]? = some x := ⟨_, List.getElem?_eq_getElem (by omega)⟩;obtain ⟨v2, f2⟩ : ∃ x, v[m]? = some x := ⟨_, List.getElem?_eq_getElem (by omega)⟩;have b0 := d.wm.get e0;have b1 := d.wm.get e1;have b2 := d.wm.get e2;have c1 := d.wv.get f1;have c2 := d.wv.get f2;have c3 := d.top _ f1;have hf := d.facts e0 e1 e2 f1 f2;refine AWP.seqJ (G := Unit) (fun _ => True) (fun _ => St.of [] [(6, aN k), (7, .row 37), (8, aW v), (9, aN (m + 2)), (10, .row 50), (11, aN i'), (12, aU (un * 4294967296 + u1))] [(37, .row 1 eW (A ++ mid ++ C) 62), (50, .row 1 eW O 62)]) ?_ ?_
        · (repeat' (first |refine Fl.v rfl rfl rfl ?_ |refine Fl.nil (fun _ => by kernel_rfl) ?_ |refine AWP.region ?_ |refine Fl.w rfl rfl rfl (by first | exact True.intro | omega) ?_ |refine Fl.rel rfl rfl rfl rfl rfl rfl rfl rfl (by omega) (by first | omega | (simp; omega)) ?_ |(refine Fl.rldW rfl rfl rfl rfl rfl rfl rfl (fun _ => rfl) (fun _ => rfl) (by first | omega | (simp; omega)) (by assumption) ?_; intro _ _ _ _) |refine Fl.sumM rfl rfl rfl rfl rfl rfl ?_));rename_i x1 hx1 hx10 hx11 y1 hy1 hy10 hy11;rw [get_part (j := m + 2) (by omega) (by omega), e0] at hx1;rw [get_part (j := m + 1) (by omega) (by omega), e1] at hy1;injection hx1 with hx1;injection hy1 with hy1;subst hx1 hy1;refine JoinOk.of () trivial ?_;refine Ent.of [] ?_ ?_ rfl rfl;(repeat' (first |exact True.intro |refine ⟨⟨AV.Le.refl _, rfl⟩, ?_⟩ |refine ⟨⟨⟨_, rfl, BLe.row rfl⟩, rfl⟩, ?_⟩ |refine ⟨⟨AV.Le.int ?_, rfl⟩, ?_⟩|fail));rw [p32];omega
        intro _ _
        have f1' : v[((m : Int) + 2 - 1).toNat]? = some v1 := by rw [show ((m : Int) + 2 - 1).toNat = m + 1 by omega]; exact f1
        have f2' : v[((m : Int) + 2 - 2).toNat]? = some v2 := by rw [show ((m : Int) + 2 - 2).toNat = m by omega]; exact f2
        refine AWP.seqJ (G := Unit) (fun _ => True) (fun _ => St.of [] [(6, aN k), (7, .row 37), (8, aW v), (9, aN (m + 2)), (10, .row 50), (11, aN i'), (13, aU ((un * 4294967296 + u1) / v1)), (14, aU ((un * 4294967296 + u1) % v1))] [(37, .row 1 eW (A ++ mid ++ C) 62), (50, .row 1 eW O 62)]) ?_ ?_
        · (repeat' (first |refine Fl.v rfl rfl rfl ?_ |refine Fl.nil (fun _ => by kernel_rfl) ?_ |refine AWP.region ?_ |refine Fl.w rfl rfl rfl (by first | exact True.intro | omega) ?_ |refine Fl.w rfl rfl rfl ⟨by omega, by omega, by dsimp only [hiK]; omega⟩ ?_ |refine Fl.elK rfl rfl rfl rfl rfl rfl rfl rfl (by assumption) (by omega) ?_|fail));refine JoinOk.of () trivial ?_;refine Ent.of [] ?_ ?_ rfl rfl;(repeat' (first |exact True.intro |refine ⟨⟨AV.Le.refl _, rfl⟩, ?_⟩ |refine ⟨⟨⟨_, rfl, BLe.row rfl⟩, rfl⟩, ?_⟩|fail))
        intro _ _;obtain ⟨q0, hq0⟩ : ∃ q, q = (un * 4294967296 + u1) / v1 := ⟨_, rfl⟩;obtain ⟨r0, hr0⟩ : ∃ r, r = (un * 4294967296 + u1) % v1 := ⟨_, rfl⟩;have hdm := Int.mul_ediv_add_emod (un * 4294967296 + u1) v1;have hm0 := Int.emod_nonneg (un * 4294967296 + u1) (show v1 ≠ 0 by omega);have hm1 := Int.emod_lt_of_pos (un * 4294967296 + u1) (show 0 < v1 by omega);have hqn : 0 ≤ (un * 4294967296 + u1) / v1 := Int.ediv_nonneg (by omega) (by omega)
        have hqb : (un * 4294967296 + u1) / v1 ≤ 8589934592 := by
          rcases Int.lt_or_le 8589934592 ((un * 4294967296 + u1) / v1) with h | h
          · have : v1 * 8589934593 ≤ v1 * ((un * 4294967296 + u1) / v1) := Int.mul_le_mul_of_nonneg_left (by omega) (by omega);omega
          · exact h
        rw [← hq0] at hdm hqn hqb;rw [← hr0] at hdm hm0 hm1;rw [Int.mul_comm] at hdm;have hp' := d.pos;have hV' : 0 < val v := Int.lt_of_lt_of_le (BB_pos _) hp'.1;have hU' := val_nonneg d.wm
        have hQ0 : val mid / val v ≤ q0 := by
          obtain ⟨a, b, c, e⟩ := dig_facts d.hm d.hv d.wm d.wv e0 e1 e2 f1 f2;obtain ⟨s1, s2, s3, s4⟩ := quo_spec hV' hU';have hB := BB_pos m
          have t1 : val mid / val v * ((v1 * 4294967296) * BB m) ≤ val mid / val v * val v := Int.mul_le_mul_of_nonneg_left (by
            have : v1 * 4294967296 * BB m ≤ (v1 * 4294967296 + v2) * BB m := Int.mul_le_mul_of_nonneg_right (by omega) (by omega)
            omega) s3
          have t2 : ((un * 4294967296 + u1) * 4294967296 + u2 + 1) * BB m ≤ ((un * 4294967296 + u1 + 1) * 4294967296) * BB m := Int.mul_le_mul_of_nonneg_right (by omega) (by omega)
          have t3 : (val mid / val v * v1) * (4294967296 * BB m) < (un * 4294967296 + u1 + 1) * (4294967296 * BB m) := by
            have g1 : (val mid / val v * v1) * (4294967296 * BB m) = val mid / val v * ((v1 * 4294967296) * BB m) := by grind
            have g2 : (un * 4294967296 + u1 + 1) * (4294967296 * BB m) = ((un * 4294967296 + u1 + 1) * 4294967296) * BB m := by grind
            rw [g1, g2]; omega
          have t4 := Int.lt_of_mul_lt_mul_right t3 (by omega);rw [hq0];exact Int.le_ediv_of_mul_le (by omega) (by omega)
        refine AWP.seqJ (G := Int) (fun q => val mid / val v ≤ q ∧ q ≤ val mid / val v + 1 ∧ 0 ≤ q ∧ q < 4294967296) (fun q => St.of [] [(6, aN k), (7, .row 37), (8, aW v), (9, aN (m + 2)), (10, .row 50), (11, aN i'), (13, aU q)] [(37, .row 1 eW (A ++ mid ++ C) 62), (50, .row 1 eW O 62)]) ?_ ?_
        · refine AWP.block ?_;refine AWP.loop (G := Int × Int) (fun (q, r) => q * v1 + r = un * 4294967296 + u1 ∧ 0 ≤ r ∧ r < 4294967296 ∧ 0 ≤ q ∧ q ≤ 8589934592 ∧ val mid / val v ≤ q) (fun (q, r) => St.of [] [(6, aN k), (7, .row 37), (8, aW v), (9, aN (m + 2)), (10, .row 50), (11, aN i'), (13, aU q), (14, aU r)] [(37, .row 1 eW (A ++ mid ++ C) 62), (50, .row 1 eW O 62)]) (fun (q, r) => q.toNat) (q0, r0) ⟨hdm, hm0, by omega, hqn, hqb, hQ0⟩ ?_ ?_
          · refine Ent.of [] ?_ ?_ rfl rfl;(repeat' (first |exact True.intro |refine ⟨⟨AV.Le.refl _, rfl⟩, ?_⟩ |refine ⟨⟨⟨_, rfl, BLe.row rfl⟩, rfl⟩, ?_⟩ |refine ⟨⟨AV.Le.int ?_, rfl⟩, ?_⟩|fail))
            · exact hq0.symm
            · exact hr0.symm
          · intro ⟨q, r⟩ ⟨g0, g1, g2, g3, g4, g5⟩;refine AWP.seq ?_;(repeat' (first |refine Fl.v rfl rfl rfl ?_ |refine Fl.nilF ?_ |refine Fl.nil (fun _ => by kernel_rfl) ?_ |refine AWP.seq ?_ |refine AWP.region ?_ |refine Fl.w rfl rfl rfl (by first | exact True.intro | omega) ?_ |(refine Fl.mulW rfl rfl rfl rfl rfl (by omega) (by omega) (by omega) (by omega) ?_; intro _ _) |refine Fl.skip rfl rfl ?_ |refine AWP.condT rfl ?_ |(refine AWP.condD rfl ?_ ?_ <;> intro _ <;> try (exfalso; omega)) |refine AWP.block ?_ |refine AWP.skip ?_ |refine AWP.exit ?_ |refine Fl.elK rfl rfl rfl rfl rfl rfl rfl rfl (by assumption) (by omega) ?_ |refine Fl.rel rfl rfl rfl rfl rfl rfl rfl rfl (by omega) (by first | omega | (simp; omega)) ?_ |(refine Fl.rldW rfl rfl rfl rfl rfl rfl rfl (fun _ => rfl) (fun _ => rfl) (by first | omega | (simp; omega)) (by assumption) ?_; intro _ _ _ _) |refine Fl.sumM rfl rfl rfl rfl rfl rfl ?_ |(refine Fl.splitD rfl rfl ?_ ?_ <;> intro _ <;> try (exfalso; omega))))
            · rename_i h1 h2;have hq := d.down e0 e1 e2 f1 f2 g0 g1 g3 (.inl (by omega));have hs := d.stop (q := q - 1) (r := r + v1) e0 e1 e2 f1 f2 (by rw [Int.sub_mul]; omega) (by omega) (by omega) (.inr (by omega));refine JoinOk.of (q - 1) ⟨hq, hs.2, by omega, hs.1⟩ ?_;refine Ent.of [] ?_ ?_ rfl rfl;(repeat' (first |exact True.intro |refine ⟨⟨AV.Le.refl _, rfl⟩, ?_⟩ |refine ⟨⟨⟨_, rfl, BLe.row rfl⟩, rfl⟩, ?_⟩|fail))
              try omega
            · rename_i h1 h2;have hq := d.down e0 e1 e2 f1 f2 g0 g1 g3 (.inl (by omega));refine LoopEnd.of (q - 1, r + v1) ⟨by rw [Int.sub_mul]; omega, by omega, by omega, by omega, by omega, hq⟩ (by simp only; omega) ?_;refine Ent.of [] ?_ ?_ rfl rfl;(repeat' (first |exact True.intro |refine ⟨⟨AV.Le.refl _, rfl⟩, ?_⟩ |refine ⟨⟨⟨_, rfl, BLe.row rfl⟩, rfl⟩, ?_⟩|fail))
              try omega
            · rename_i h1 p0 p1 x2 hx2 hx20 hx21 h3 h2;rw [p32] at h3;rw [get_part (j := m) (by omega) (by omega), e2] at hx2;injection hx2 with hx2;subst hx2;have hqv : 0 ≤ q * v2 := Int.mul_nonneg g3 c2.1;have hqv2 : q * v2 ≤ 4294967295 * v2 := Int.mul_le_mul_of_nonneg_right (by omega) c2.1;have hq := d.down e0 e1 e2 f1 f2 g0 g1 g3 (.inr (by omega));have hQ := (quo_spec hV' hU').2.2.1;have hs := d.stop (q := q - 1) (r := r + v1) e0 e1 e2 f1 f2 (by rw [Int.sub_mul]; omega) (by omega) (by omega) (.inr (by omega));refine JoinOk.of (q - 1) ⟨hq, hs.2, by omega, hs.1⟩ ?_;refine Ent.of [] ?_ ?_ rfl rfl;(repeat' (first |exact True.intro |refine ⟨⟨AV.Le.refl _, rfl⟩, ?_⟩ |refine ⟨⟨⟨_, rfl, BLe.row rfl⟩, rfl⟩, ?_⟩ |refine ⟨⟨AV.Le.int ?_, rfl⟩, ?_⟩|fail))
              try omega
            · rename_i h1 p0 p1 x2 hx2 hx20 hx21 h3 h2;rw [p32] at h3;rw [get_part (j := m) (by omega) (by omega), e2] at hx2;injection hx2 with hx2;subst hx2;have hqv : 0 ≤ q * v2 := Int.mul_nonneg g3 c2.1;have hqv2 : q * v2 ≤ 4294967295 * v2 := Int.mul_le_mul_of_nonneg_right (by omega) c2.1;have hq := d.down e0 e1 e2 f1 f2 g0 g1 g3 (.inr (by omega));have hQ := (quo_spec hV' hU').2.2.1;refine LoopEnd.of (q - 1, r + v1) ⟨by rw [Int.sub_mul]; omega, by omega, by omega, by omega, by omega, hq⟩ (by simp only; omega) ?_;refine Ent.of [] ?_ ?_ rfl rfl;(repeat' (first |exact True.intro |refine ⟨⟨AV.Le.refl _, rfl⟩, ?_⟩ |refine ⟨⟨⟨_, rfl, BLe.row rfl⟩, rfl⟩, ?_⟩ |refine ⟨⟨AV.Le.int ?_, rfl⟩, ?_⟩|fail))
              try omega
            · rename_i h1 p0 p1 x2 hx2 hx20 hx21 h3;rw [p32] at h3;rw [get_part (j := m) (by omega) (by omega), e2] at hx2;injection hx2 with hx2;subst hx2;have hqv : 0 ≤ q * v2 := Int.mul_nonneg g3 c2.1;have hqv2 : q * v2 ≤ 4294967295 * v2 := Int.mul_le_mul_of_nonneg_right (by omega) c2.1;have hs := d.stop (q := q) (r := r) e0 e1 e2 f1 f2 g0 g1 g3 (.inl ⟨by omega, by omega⟩);refine JoinOk.of q ⟨g5, hs.2, g3, hs.1⟩ ?_;refine Ent.of [] ?_ ?_ rfl rfl;(repeat' (first |exact True.intro |refine ⟨⟨AV.Le.refl _, rfl⟩, ?_⟩ |refine ⟨⟨⟨_, rfl, BLe.row rfl⟩, rfl⟩, ?_⟩|fail))
        · intro q ⟨g0, g1, g2, g3⟩;refine AWP.seqS ?_;(repeat' (first |refine Fl.v rfl rfl rfl ?_ |refine Fl.nilF ?_ |refine AWP.region ?_));refine ⟨?_⟩;refine AWP.seqJ (G := List Int × Int) (fun (lo, b) => lo.length = m + 3 ∧ WOk lo ∧ 0 ≤ b ∧ b ≤ 1 ∧ val lo = val mid - q * val v + b * BB (m + 3)) (fun (lo, b) => St.of [] [(6, aN k), (7, .row 37), (8, aW v), (9, aN (m + 2)), (10, .row 50), (11, aN i'), (13, aU q), (16, aU b)] [(37, .row 1 eW (A ++ lo ++ C) 62), (50, .row 1 eW O 62)]) ?_ ?_
          · (repeat' (first |refine Fl.v rfl rfl rfl ?_ |refine Fl.nilF ?_ |refine AWP.seq ?_ |refine AWP.region ?_ |refine AWP.block ?_));refine AWP.loop (G := List Int × Int × Int) (fun (lo, c, b) => lo.length ≤ m + 3 ∧ WOk lo ∧ 0 ≤ c ∧ c < 4294967296 ∧ 0 ≤ b ∧ b ≤ 1 ∧ (lo.length = m + 3 → c = 0) ∧ val lo = val (mid.take lo.length) - q * val (v.take lo.length) + (c + b) * BB lo.length) (fun (lo, c, b) => St.of [] [(6, aN k), (7, .row 37), (8, aW v), (9, aN (m + 2)), (10, .row 50), (11, aN i'), (13, aU q), (15, aU c), (16, aU b), (17, aN lo.length)] [(37, .row 1 eW (A ++ (lo ++ mid.drop lo.length) ++ C) 62), (50, .row 1 eW O 62)]) (fun (lo, c, b) => m + 3 - lo.length) ([], 0, 0) ⟨by simp, WOk.nil, by omega, by omega, by omega, by omega, by simp, by simp [val]⟩ ?_ ?_
            · refine Ent.of [] ?_ ?_ rfl rfl;(repeat' (first |exact True.intro |refine ⟨⟨AV.Le.refl _, rfl⟩, ?_⟩ |refine ⟨⟨⟨_, rfl, BLe.row rfl⟩, rfl⟩, ?_⟩|fail))
            · intro ⟨lo, c, b⟩ ⟨k0, k1, k2, k3, k4, k5, k6, k7⟩;have hW2 : WOk (A ++ (lo ++ mid.drop lo.length) ++ C) := (wA.append (k1.append (d.wm.drop _))).append wC
              have hml2 : (lo ++ mid.drop lo.length).length = mid.length := by rw [List.length_append, List.length_drop]; omega
              (repeat' (first |refine Fl.v rfl rfl rfl ?_ |refine Fl.nilF ?_ |refine AWP.seq ?_ |refine AWP.region ?_ |refine Fl.w rfl rfl rfl (by first | exact True.intro | omega) ?_ |(refine Fl.mulW rfl rfl rfl rfl rfl (by omega) (by omega) (by omega) (by omega) ?_; intro _ _) |(refine AWP.condD rfl ?_ ?_ <;> intro _ <;> try (exfalso; omega)) |refine AWP.block ?_ |refine AWP.skip ?_ |refine AWP.exit ?_ |(refine Fl.elW rfl rfl rfl rfl rfl rfl rfl rfl (by omega) (by omega) (by assumption) ?_; intro _ _ _ _) |refine Fl.rel rfl rfl rfl rfl rfl rfl rfl rfl (by omega) (by first | omega | (simp; omega)) ?_ |(refine Fl.rldW rfl rfl rfl rfl rfl rfl rfl (fun _ => rfl) (fun _ => rfl) (by first | omega | (simp; omega)) (by assumption) ?_; intro _ _ _ _) |refine Fl.rst rfl rfl rfl rfl rfl rfl rfl rfl rfl rfl rfl (LeL.refl _) rfl (by first | omega | (simp; omega)) ?_ |refine Fl.sumM rfl rfl rfl rfl rfl rfl ?_))
              · rename_i hi1 hi2 x1 hx1 hx10 hx11 p0 p1 y1 hy1 hy10 hy11;rw [Int.toNat_natCast] at hx1;rw [get_part (j := lo.length) (by omega) (by omega), get_drop rfl] at hy1;obtain ⟨X, hX'⟩ : ∃ X, X = q * x1 := ⟨_, rfl⟩;rw [← hX'] at p0 p1;obtain ⟨w1, hw1⟩ : ∃ w1, w1 = (y1 - (X + c) % 4294967296 - b) % 4294967296 := ⟨_, rfl⟩;obtain ⟨b', hb'⟩ : ∃ b', b' = 1 - (y1 + 4294967296 - (X + c) % 4294967296 - b) / 4294967296 := ⟨_, rfl⟩;have hst2 := sub_step (w := w1) (b' := (X + c) / 4294967296 + b') rfl hy1 hx1 k7 (by rw [← hX']; omega)
                have hXm : X ≤ 4294967295 * 4294967295 := by
                  rw [hX'];have a : q * x1 ≤ 4294967295 * x1 := Int.mul_le_mul_of_nonneg_right (by omega) hx10;omega
                refine LoopEnd.of (lo ++ [w1], (X + c) / 4294967296, b') ⟨by simp; omega, k1.append (WOk.cons (by omega) (by omega) WOk.nil), by omega, by omega, by omega, by omega, fun h => by simp at h; omega, by rw [List.length_append]; exact hst2⟩ (by simp only [List.length_append, List.length_cons, List.length_nil]; omega) ?_;refine Ent.of [] ?_ ?_ rfl rfl;(repeat' (first |exact True.intro |refine ⟨⟨AV.Le.refl _, rfl⟩, ?_⟩ |refine ⟨⟨⟨_, rfl, BLe.row rfl⟩, rfl⟩, ?_⟩ |refine ⟨⟨⟨_, rfl, BLe.row ?_⟩, rfl⟩, ?_⟩ |refine ⟨⟨AV.Le.int ?_, rfl⟩, ?_⟩|fail))
                · rw [p32, hX', Int.add_comm]
                · rw [p32, hb', bitN_and32 (show (0 : Int) ≤ c + q * x1 by omega), ← hX'];omega
                · simp
                · rw [show (lo ++ [w1]).length = lo.length + 1 by simp];refine (set_part (j := lo.length) (by omega) (by omega)).trans (congrArg (fun M => A ++ M ++ C) (set_drop (w' := w1) rfl (by omega) ?_));rw [bitN_and32 (show (0 : Int) ≤ c + q * x1 by omega), ← hX', bitN_and32 (by omega)];omega
              · rename_i hi1 hi2 y1 hy1 hy10 hy11;rw [get_part (j := lo.length) (by omega) (by omega), get_drop rfl] at hy1
                have hl2 : lo.length = m + 2 := by omega
                obtain ⟨w1, hw1⟩ : ∃ w1, w1 = (y1 - c - b) % 4294967296 := ⟨_, rfl⟩;obtain ⟨b', hb'⟩ : ∃ b', b' = 1 - (y1 + 4294967296 - c - b) / 4294967296 := ⟨_, rfl⟩;have hst2 := sub_last (V := val v) (q := q) (w := w1) (b' := b') rfl hy1 (by rw [k7, hl2, show v.take (m + 2) = v by rw [← d.hv, List.take_length]]) (by omega);refine LoopEnd.of (lo ++ [w1], 0, b') ⟨by simp; omega, k1.append (WOk.cons (by omega) (by omega) WOk.nil), by omega, by omega, by omega, by omega, fun _ => rfl, ?_⟩ (by simp only [List.length_append, List.length_cons, List.length_nil]; omega) ?_
                · rw [List.length_append, Int.zero_add, show v.take (lo.length + [w1].length) = v from List.take_of_length_le (by rw [d.hv]; simp; omega)]; exact hst2
                refine Ent.of [] ?_ ?_ rfl rfl;(repeat' (first |exact True.intro |refine ⟨⟨AV.Le.refl _, rfl⟩, ?_⟩ |refine ⟨⟨⟨_, rfl, BLe.row rfl⟩, rfl⟩, ?_⟩ |refine ⟨⟨⟨_, rfl, BLe.row ?_⟩, rfl⟩, ?_⟩ |refine ⟨⟨AV.Le.int ?_, rfl⟩, ?_⟩|fail))
                · rw [p32]; omega
                · rw [p32, hb', bitN_and32 (show (0 : Int) ≤ c by omega)];omega
                · simp
                · rw [show (lo ++ [w1]).length = lo.length + 1 by simp];refine (set_part (j := lo.length) (by omega) (by omega)).trans (congrArg (fun M => A ++ M ++ C) (set_drop (w' := w1) rfl (by omega) ?_));rw [bitN_and32 (show (0 : Int) ≤ c by omega), bitN_and32 (by omega)];omega
              · rename_i hi1
                have hl : lo.length = m + 3 := by omega
                refine JoinOk.of (lo, b) ⟨hl, k1, k4, k5, ?_⟩ ?_
                · rw [k7, hl, k6 hl, Int.zero_add, show v.take (m + 3) = v from List.take_of_length_le (by rw [d.hv]; omega), show mid.take (m + 3) = mid from List.take_of_length_le (by omega)]
                · refine Ent.of [] ?_ ?_ rfl rfl;(repeat' (first |exact True.intro |refine ⟨⟨AV.Le.refl _, rfl⟩, ?_⟩ |refine ⟨⟨⟨_, rfl, BLe.row rfl⟩, rfl⟩, ?_⟩ |refine ⟨⟨⟨_, rfl, BLe.row ?_⟩, rfl⟩, ?_⟩|fail));rw [List.drop_eq_nil_of_le (by omega), List.append_nil]
          · intro ⟨lo, b⟩ ⟨k0, k1, k2, k3, k4⟩;have hW2 : WOk (A ++ lo ++ C) := (wA.append k1).append wC;have hlo := val_lt k1;have hlo0 := val_nonneg k1;rw [k0] at hlo
            have hml3 : lo.length = mid.length := by omega
            have hr0' := Int.emod_nonneg (val mid) (show val v ≠ 0 by omega);have hr1' := Int.emod_lt_of_pos (val mid) hV';rw [hVv] at hr1'
            have hq1 : val mid / val v = val mid / (y * 2 ^ k) := by rw [hVv]
            have hr2 : val mid % val v = val mid % (y * 2 ^ k) := by rw [hVv]
            refine AWP.seqJ (G := Unit) (fun _ => True) (fun _ => St.of [] [(6, aN k), (7, .row 37), (8, aW v), (9, aN (m + 2)), (10, .row 50), (11, aN i'), (13, aU (val mid / val v))] [(37, .row 1 eW (A ++ wdW (m + 3) (val mid % val v) ++ C) 62), (50, .row 1 eW O 62)]) ?_ ?_
            · (repeat' (first |refine Fl.v rfl rfl rfl ?_ |refine Fl.nilF ?_ |refine AWP.seq ?_ |refine AWP.region ?_ |(refine AWP.condD rfl ?_ ?_ <;> intro _ <;> try (exfalso; omega)) |refine AWP.block ?_ |refine AWP.skip ?_ |refine Fl.sumM rfl rfl rfl rfl rfl rfl ?_))
              · rename_i h1
                have hβ1 : b = 1 := by omega
                rw [hβ1, Int.one_mul] at k4;obtain ⟨r1, r2⟩ := dig_end1 hV' hU' g0 g1 (by omega);have hQn := (quo_spec hV' hU').2.2.1;refine AWP.loop (G := List Int × Int) (fun (hi, c) => hi.length ≤ m + 3 ∧ WOk hi ∧ 0 ≤ c ∧ c ≤ 1 ∧ val hi + c * BB hi.length = val (lo.take hi.length) + val (v.take hi.length)) (fun (hi, c) => St.of [] [(6, aN k), (7, .row 37), (8, aW v), (9, aN (m + 2)), (10, .row 50), (11, aN i'), (13, aU (q - 1)), (20, aU c), (21, aN hi.length)] [(37, .row 1 eW (A ++ (hi ++ lo.drop hi.length) ++ C) 62), (50, .row 1 eW O 62)]) (fun (hi, c) => m + 3 - hi.length) ([], 0) ⟨by simp, WOk.nil, by omega, by omega, by simp [val]⟩ ?_ ?_
                · refine Ent.of [] ?_ ?_ rfl rfl;(repeat' (first |exact True.intro |refine ⟨⟨AV.Le.refl _, rfl⟩, ?_⟩ |refine ⟨⟨⟨_, rfl, BLe.row rfl⟩, rfl⟩, ?_⟩ |refine ⟨⟨AV.Le.int ?_, rfl⟩, ?_⟩|fail));omega
                · intro ⟨hi, c⟩ ⟨j0, j1, j2, j3, j4⟩;have hW3 : WOk (A ++ (hi ++ lo.drop hi.length) ++ C) := (wA.append (j1.append (k1.drop _))).append wC
                  have hml4 : (hi ++ lo.drop hi.length).length = mid.length := by rw [List.length_append, List.length_drop]; omega
                  (repeat' (first |refine Fl.v rfl rfl rfl ?_ |refine Fl.nilF ?_ |refine AWP.seq ?_ |refine AWP.region ?_ |refine Fl.w rfl rfl rfl (by first | exact True.intro | omega) ?_ |(refine AWP.condD rfl ?_ ?_ <;> intro _ <;> try (exfalso; omega)) |refine AWP.block ?_ |refine AWP.skip ?_ |refine AWP.exit ?_ |(refine Fl.elW rfl rfl rfl rfl rfl rfl rfl rfl (by omega) (by omega) (by assumption) ?_; intro _ _ _ _) |refine Fl.rel rfl rfl rfl rfl rfl rfl rfl rfl (by omega) (by first | omega | (simp; omega)) ?_ |(refine Fl.rldW rfl rfl rfl rfl rfl rfl rfl (fun _ => rfl) (fun _ => rfl) (by first | omega | (simp; omega)) (by assumption) ?_; intro _ _ _ _) |refine Fl.rst rfl rfl rfl rfl rfl rfl rfl rfl rfl rfl rfl (LeL.refl _) rfl (by first | omega | (simp; omega)) ?_|fail))
                  · rename_i hi0 z hz hz0 hz1 hi2 x1 hx1 hx10 hx11;rw [Int.toNat_natCast] at hx1;rw [get_part (j := hi.length) (by omega) (by omega), get_drop rfl] at hz;obtain ⟨s, hs⟩ : ∃ s, s = z + x1 + c := ⟨_, rfl⟩;have hst2 := add_step (w := s % 4294967296) (c' := s / 4294967296) rfl hz hx1 j4 (by omega);refine LoopEnd.of (hi ++ [s % 4294967296], s / 4294967296) ⟨by simp; omega, j1.append (WOk.cons (by omega) (by omega) WOk.nil), by omega, by omega, by rw [List.length_append]; exact hst2⟩ (by simp only [List.length_append, List.length_cons, List.length_nil]; omega) ?_;refine Ent.of [] ?_ ?_ rfl rfl;(repeat' (first |exact True.intro |refine ⟨⟨AV.Le.refl _, rfl⟩, ?_⟩ |refine ⟨⟨⟨_, rfl, BLe.row rfl⟩, rfl⟩, ?_⟩ |refine ⟨⟨⟨_, rfl, BLe.row ?_⟩, rfl⟩, ?_⟩ |refine ⟨⟨AV.Le.int ?_, rfl⟩, ?_⟩|fail))
                    · rw [p32]; omega
                    · simp
                    · rw [show (hi ++ [s % 4294967296]).length = hi.length + 1 by simp];refine (set_part (j := hi.length) (by omega) (by omega)).trans (congrArg (fun M => A ++ M ++ C) (set_drop (w' := s % 4294967296) rfl (by omega) ?_));rw [bitN_and32 (by omega)];omega
                  · rename_i hi0 z hz hz0 hz1 hi2;rw [get_part (j := hi.length) (by omega) (by omega), get_drop rfl] at hz
                    have hl2 : hi.length = m + 2 := by omega
                    obtain ⟨s, hs⟩ : ∃ s, s = z + c := ⟨_, rfl⟩;have hst2 := add_last (V := val v) (w := s % 4294967296) (c' := s / 4294967296) rfl hz (by rw [j4, hl2, show v.take (m + 2) = v by rw [← d.hv, List.take_length]]) (by omega);refine LoopEnd.of (hi ++ [s % 4294967296], s / 4294967296) ⟨by simp; omega, j1.append (WOk.cons (by omega) (by omega) WOk.nil), by omega, by omega, ?_⟩ (by simp only [List.length_append, List.length_cons, List.length_nil]; omega) ?_
                    · rw [List.length_append, show v.take (hi.length + [s % 4294967296].length) = v from List.take_of_length_le (by rw [d.hv]; simp; omega)]; exact hst2
                    refine Ent.of [] ?_ ?_ rfl rfl;(repeat' (first |exact True.intro |refine ⟨⟨AV.Le.refl _, rfl⟩, ?_⟩ |refine ⟨⟨⟨_, rfl, BLe.row rfl⟩, rfl⟩, ?_⟩ |refine ⟨⟨⟨_, rfl, BLe.row ?_⟩, rfl⟩, ?_⟩ |refine ⟨⟨AV.Le.int ?_, rfl⟩, ?_⟩|fail))
                    · rw [p32]; omega
                    · simp
                    · rw [show (hi ++ [s % 4294967296]).length = hi.length + 1 by simp];refine (set_part (j := hi.length) (by omega) (by omega)).trans (congrArg (fun M => A ++ M ++ C) (set_drop (w' := s % 4294967296) rfl (by omega) ?_));rw [bitN_and32 (by omega)];omega
                  · rename_i hi0
                    have hhl : hi.length = m + 3 := by omega
                    have hh0 := val_nonneg j1;have hh1 := val_lt j1;rw [hhl] at hh1;rw [hhl, show v.take (m + 3) = v from List.take_of_length_le (by rw [d.hv]; omega), show lo.take (m + 3) = lo from List.take_of_length_le (by omega)] at j4;have hpB := hp'.2
                    have hB2 : BB (m + 2) ≤ BB (m + 3) := by rw [show m + 3 = m + 2 + 1 from rfl, BB_succ (m + 2)]; have := BB_pos (m + 2); omega
                    have ht1 : val mid % val v < BB (m + 3) := by have := Int.emod_lt_of_pos (val mid) hV'; omega
                    have hback := add_carry (BB_pos (m + 3)) (t := val mid % val v) (by rw [j4, k4, ← r2]; omega) hh0 hh1 hr0' ht1;have hF := wdW_eq j1;rw [hhl, hback] at hF;refine JoinOk.of () trivial ?_;refine Ent.of [] ?_ ?_ rfl rfl;(repeat' (first |exact True.intro |refine ⟨⟨AV.Le.refl _, rfl⟩, ?_⟩ |refine ⟨⟨⟨_, rfl, BLe.row rfl⟩, rfl⟩, ?_⟩ |refine ⟨⟨⟨_, rfl, BLe.row ?_⟩, rfl⟩, ?_⟩ |refine ⟨⟨AV.Le.int ?_, rfl⟩, ?_⟩|fail))
                    · exact r1
                    · rw [List.drop_eq_nil_of_le (by omega), List.append_nil, ← hF]
              · rename_i h1
                have hβ0 : b = 0 := by omega
                rw [hβ0, Int.zero_mul, Int.add_zero] at k4;obtain ⟨r1, r2⟩ := dig_end0 hV' hU' g0 g1 (by omega);have hF := wdW_eq k1;rw [k0, k4, r2] at hF;refine JoinOk.of () trivial ?_;refine Ent.of [] ?_ ?_ rfl rfl;(repeat' (first |exact True.intro |refine ⟨⟨AV.Le.refl _, rfl⟩, ?_⟩ |refine ⟨⟨⟨_, rfl, BLe.row rfl⟩, rfl⟩, ?_⟩ |refine ⟨⟨⟨_, rfl, BLe.row ?_⟩, rfl⟩, ?_⟩ |refine ⟨⟨AV.Le.int ?_, rfl⟩, ?_⟩|fail))
                · exact r1
                · rw [← hF]
            · intro _ _;have hwl : (wdW (m + 3) (val mid % val v)).length = m + 3 := wdW_length _ _;(repeat' (first |refine Fl.v rfl rfl rfl ?_ |refine Fl.nilF ?_ |refine AWP.region ?_ |refine Fl.w rfl rfl rfl (by first | exact True.intro | omega) ?_ |refine Fl.rel rfl rfl rfl rfl rfl rfl rfl rfl (by omega) (by first | omega | (simp; omega)) ?_ |refine Fl.rst rfl rfl rfl rfl rfl rfl rfl rfl rfl rfl rfl (LeL.refl _) rfl (by first | omega | (simp; omega)) ?_|fail));refine LoopEnd.of (i', val mid / (y * 2 ^ k) :: os, val mid % (y * 2 ^ k)) hst (by simp only; omega) ?_;refine Ent.of [] ?_ ?_ rfl rfl;(repeat' (first |exact True.intro |refine ⟨⟨AV.Le.refl _, rfl⟩, ?_⟩ |refine ⟨⟨⟨_, rfl, BLe.row ?_⟩, rfl⟩, ?_⟩|fail))
              · rw [hend _ hst.r0 hst.r1, ← hr2, ← List.append_assoc, hA]
              · rw [hO];refine set_zeros (by omega) rfl ?_;have hqB : val mid / val v < 4294967296 := Int.ediv_lt_of_lt_mul hV' d.lt;have hqn := (quo_spec hV' hU').2.2.1;rw [← hq1];exact Int.emod_eq_of_lt hqn hqB
      · have hi : i = 0 := by omega
        subst hi;refine JoinOk.of (os, ρ) hd ?_;refine Ent.of [] ?_ ?_ rfl rfl;(repeat' (first |exact True.intro |refine ⟨⟨AV.Le.refl _, rfl⟩, ?_⟩ |refine ⟨⟨⟨_, rfl, BLe.row rfl⟩, rfl⟩, ?_⟩|fail))
  · intro ⟨os, ρ⟩ hd;have hd : DivInv U (y * 2 ^ k) (m + 2) N 0 os ρ := hd;have hv1 := hd.hv;rw [List.drop_zero, hUv] at hv1;obtain ⟨r1, r2⟩ := over_end hv1 hd.r0 hd.r1;obtain ⟨s1, s2⟩ := div_shift (x := x) (k := k) hy hx;have hr1 := hd.r1;have hr0 := hd.r0;have hol := hd.hl
    have hu : val (wdW (m + 2) ρ ++ List.replicate N 0) = ρ := by
      rw [val_append, val_zeros, val_wdW (m + 2) ρ hd.r0 (by omega)]; omega
    have hul : (wdW (m + 2) ρ ++ List.replicate N 0).length = N + (m + 2) := by
      rw [List.length_append, wdW_length, List.length_replicate]; omega
    have htr := rMake_ok false (wdW (m + 2) ρ ++ List.replicate N 0) ((wdW_ok _ _).append (WOk.zeros _)) (by omega);rw [hu, show sg false ρ = ρ by simp [sg]] at htr
    have hρl : (toW ρ).length ≤ 40000 := by
      have := (toW_len_le hd.r0 (m + 2)).2 (by omega);omega
    (repeat' (first |refine Fl.v rfl rfl rfl ?_ |refine AWP.seq ?_ |refine AWP.region ?_));refine Fl.callF rfl 37 rfl htr rfl rfl rfl (LeL.refl _) ?_;(repeat' (first |refine Fl.v rfl rfl rfl ?_ |refine Fl.w rfl rfl rfl (by first | exact True.intro | omega) ?_|fail));refine Fl.call rfl (rShiftR_ok ρ k hd.r0 hρl (by omega)) rfl rfl rfl (LeL.cons (AV.Le.refl _) (LeL.cons (AV.Le.int (by omega)) LeL.nil)) ?_;(repeat' (first |refine Fl.v rfl rfl rfl ?_ |refine Fl.nilF ?_ |refine AWP.ret ?_));refine RetOk.ent (Ent.freeze 50 rfl) ?_;refine RetOk.of rfl ?_;have ho := wdW_eq hd.wo;rw [show os.length = N by omega, r1, s1] at ho;rw [show ((ρ / 2 ^ k).natAbs : Int) = ρ / 2 ^ k from Int.natAbs_of_nonneg (Int.ediv_nonneg hr0 (by omega)), ← ho, r2, s2];exact AV.Le.refl _
end Go.Proofs.YtcaecieigoplbaaGreat
namespace Go.AL
end Go.AL
namespace Go.Proofs.YtcaecieigoplbaaGreat
open Go.AL

theorem rNeg_ok (x : Int) (hx : lenI x ≤ 100000) : PureFn Tryz.prog 106 [aX x] (aX (-x)) := by
  refine PureFn.of_body Tryz.func106 rfl Tryz.ntmps106 rfl rfl ?_;have hv : val (toW x.natAbs) = (x.natAbs : Int) := val_toW (by omega)
  have hsg : sg (!decide (x < 0)) (val (toW x.natAbs)) = -x := by
    rw [hv];by_cases h : x < 0
    · simp [sg, h]; omega
    · simp [sg, h]; omega
  have hm := rMake_ok (!decide (x < 0)) (toW x.natAbs) (toW_ok _) hx;rw [hsg] at hm;(repeat' (first |refine Fl.v rfl rfl rfl ?_ |refine Fl.nilF ?_ |refine AWP.seq ?_ |refine AWP.region ?_ |refine Fl.b rfl rfl rfl rfl ?_));refine Fl.call rfl (hm) rfl rfl rfl (LeL.refl _) ?_;(repeat' (first |refine Fl.nilF ?_ |refine Fl.b rfl rfl rfl rfl ?_ |refine AWP.ret ?_));exact RetOk.of rfl (AV.Le.refl _)
theorem rSub_ok (x y : Int) (hx : lenI x ≤ 40000) (hy : lenI y ≤ 40000) : PureFn Tryz.prog 61 [aX x, aX y] (aX (x - y)) := by
  refine PureFn.of_body Tryz.func61 rfl Tryz.ntmps61 rfl rfl ?_;have ha := rAdd_ok x (-y) hx (by rw [Int.natAbs_neg]; exact hy);rw [← Int.sub_eq_add_neg] at ha;(repeat' (first |refine Fl.v rfl rfl rfl ?_ |refine Fl.nilF ?_ |refine AWP.seq ?_ |refine AWP.region ?_ |refine Fl.b rfl rfl rfl rfl ?_));refine Fl.call rfl (rNeg_ok y (by omega)) rfl rfl rfl (LeL.refl _) ?_;skip;refine Fl.call rfl (ha) rfl rfl rfl (LeL.refl _) ?_;(repeat' (first |refine Fl.nil (fun _ => by kernel_rfl) ?_ |refine Fl.b rfl rfl rfl rfl ?_ |refine AWP.ret ?_));exact RetOk.of rfl (AV.Le.refl _)
end Go.Proofs.YtcaecieigoplbaaGreat
/- ref01.Div and Divides. -/
namespace Go.AL
theorem quo_signs (x y Q R : Int) (hy : y ≠ 0) (hQ : Q = (x.natAbs : Int) / (y.natAbs : Int)) (hR : R = (x.natAbs : Int) % (y.natAbs : Int)) :
    (0 ≤ x → 0 < y → Q = x / y ∧ R = x % y) ∧ (0 ≤ x → y < 0 → -Q = x / y ∧ R = x % y) ∧
    (x < 0 → R = 0 → 0 < y → -Q = x / y ∧ R = x % y) ∧ (x < 0 → R = 0 → y < 0 → Q = x / y ∧ R = x % y) ∧
    (x < 0 → R ≠ 0 → 0 < y → -(Q + 1) = x / y ∧ (y.natAbs : Int) - R = x % y) ∧ (x < 0 → R ≠ 0 → y < 0 → Q + 1 = x / y ∧ (y.natAbs : Int) - R = x % y) := by
  obtain ⟨Y, hY⟩ : ∃ Y : Int, Y = (y.natAbs : Int) := ⟨_, rfl⟩;obtain ⟨X, hX⟩ : ∃ X : Int, X = (x.natAbs : Int) := ⟨_, rfl⟩;rw [← hX, ← hY] at hQ hR;rw [← hY]
  have hY0 : 0 < Y := by omega
  have h1 := Int.mul_ediv_add_emod X Y;have h2 := Int.emod_nonneg X (show Y ≠ 0 by omega);have h3 := Int.emod_lt_of_pos X hY0;rw [← hQ, ← hR] at h1;rw [← hR] at h2 h3
  have key : ∀ q r : Int, r + Y * q = x → 0 ≤ r → r < Y → (0 < y → q = x / y ∧ r = x % y) ∧ (y < 0 → -q = x / y ∧ r = x % y) := by
    intro q r e a b;have hu := (Int.ediv_emod_unique (a := x) (b := Y) (q := q) (r := r) hY0).2 ⟨e, a, b⟩;refine ⟨fun h => ?_, fun h => ?_⟩
    · rw [show y = Y by omega]; exact ⟨hu.1.symm, hu.2.symm⟩
    · rw [show y = -Y by omega, Int.ediv_neg, Int.emod_neg]; exact ⟨by rw [hu.1], hu.2.symm⟩
  refine ⟨fun a b => ?_, fun a b => ?_, fun a b c => ?_, fun a b c => ?_, fun a b c => ?_, fun a b c => ?_⟩
  · exact (key Q R (by omega) h2 h3).1 b
  · exact (key Q R (by omega) h2 h3).2 b
  · exact (key (-Q) R (by rw [Int.mul_neg]; omega) h2 h3).1 c
  · have := (key (-Q) R (by rw [Int.mul_neg]; omega) h2 h3).2 c;rwa [Int.neg_neg] at this
  · exact (key (-(Q + 1)) (Y - R) (by rw [Int.mul_neg, Int.mul_add]; omega) (by omega) (by omega)).1 c
  · have := (key (-(Q + 1)) (Y - R) (by rw [Int.mul_neg, Int.mul_add]; omega) (by omega) (by omega)).2 c;rwa [Int.neg_neg] at this
theorem toW_mono {a b : Int} (h0 : 0 ≤ a) (h : a ≤ b) : (toW a).length ≤ (toW b).length := by
  refine (toW_len_le h0 _).2 ?_;have := (toW_len_le (z := b) (by omega) (toW b).length).1 (Nat.le_refl _);omega
theorem abs_self {x : Int} (h : 0 ≤ x) : ((x.natAbs : Nat) : Int) = x := by omega
end Go.AL
namespace Go.Proofs.YtcaecieigoplbaaGreat
open Go.AL

set_option maxHeartbeats 1000000 in
theorem rDiv_ok (x y : Int) (hy : y ≠ 0) (hxl : lenI x ≤ 39000) (hyl : lenI y ≤ 39000) : PureFn Tryz.prog 84 [aX x, aX y] (.tup [aX (x / y), aX (x % y)]) := by
  refine PureFn.of_body Tryz.func84 rfl Tryz.ntmps84 rfl rfl ?_;obtain ⟨Y, hY⟩ : ∃ Y : Int, Y = (y.natAbs : Int) := ⟨_, rfl⟩;obtain ⟨X, hX⟩ : ∃ X : Int, X = (x.natAbs : Int) := ⟨_, rfl⟩;obtain ⟨Q, hQ⟩ : ∃ Q : Int, Q = X / Y := ⟨_, rfl⟩;obtain ⟨R, hR⟩ : ∃ R : Int, R = X % Y := ⟨_, rfl⟩
  have hY0 : 0 < Y := by omega
  have hX0 : 0 ≤ X := by omega
  have hlX : (toW X).length ≤ 39000 := by rw [hX]; exact hxl
  have hlY : (toW Y).length ≤ 39000 := by rw [hY]; exact hyl
  have hsg := quo_signs x y Q R hy (by rw [hQ, hX, hY]) (by rw [hR, hX, hY]);rw [← hY] at hsg;have wY := toW_ok Y;have hR0 := Int.emod_nonneg X (show Y ≠ 0 by omega);have hR1 := Int.emod_lt_of_pos X hY0;have hQ0 : 0 ≤ X / Y := Int.ediv_nonneg hX0 (by omega);have hQ1 : X / Y ≤ X := Int.ediv_le_self _ hX0;have hlQ : (toW (X / Y)).length ≤ 39000 := Nat.le_trans (toW_mono hQ0 hQ1) hlX;have hlR : (toW (X % Y)).length ≤ 39000 := Nat.le_trans (toW_mono hR0 (by omega)) hlY
  have eX' : aX x = .agg [aB (decide (x < 0)), aW (toW X)] := by rw [hX]
  have eY' : aX y = .agg [aB (decide (y < 0)), aW (toW Y)] := by rw [hY]
  have cX : eX x = [aB (decide (x < 0)), aW (toW X)] := by rw [hX]; rfl
  have cY : eX y = [aB (decide (y < 0)), aW (toW Y)] := by rw [hY]; rfl
  rw [eX', eY']
  have le0 : LeL [aB false, .v (.slice none 0 0)] (eX 0) := by
    show LeL _ [aB (decide ((0 : Int) < 0)), aW (toW (((0 : Int).natAbs : Nat) : Int))];rw [show (((0 : Int).natAbs : Nat) : Int) = 0 from rfl, toW_zero];exact LeL.cons (AV.Le.refl _) (LeL.cons (AV.Le.nil 1 eW) LeL.nil)
  refine AWP.seqS ?_;(repeat' (first |refine Fl.nilF ?_ |refine AWP.region ?_ |refine Fl.b rfl rfl rfl rfl ?_));refine ⟨AWP.seqS ?_⟩;(repeat' (first |refine Fl.nilF ?_ |refine AWP.region ?_ |refine Fl.b rfl rfl rfl rfl ?_));refine ⟨?_⟩;refine AWP.seqJ (G := Unit) (fun _ => True) (fun _ => St.of [] [(2, .ptr 2 0), (3, .ptr 3 0), (4, .ptr 4 0), (5, .ptr 5 0), (6, .ptr 6 0), (7, .ptr 7 0)] [(2, .cells [aB (decide (x < 0)), aW (toW X)] 35), (3, .cells [aB (decide (y < 0)), aW (toW Y)] 35), (4, .cells [aB false, .v (.slice none 0 0)] 35), (5, .cells [aB false, .v (.slice none 0 0)] 35), (6, .cells (eX Q) 35), (7, .cells (eX R) 35)]) ?_ ?_
  · (repeat' (first |refine Fl.v rfl rfl rfl ?_ |refine AWP.seq ?_ |refine AWP.region ?_));refine Fl.call rfl (rorder_ok X Y hX0 (by omega) (by omega) (by omega)) rfl rfl rfl (LeL.refl _) ?_;(repeat' (first |refine Fl.v rfl rfl rfl ?_ |refine Fl.nilF ?_ |refine AWP.seq ?_ |refine AWP.region ?_ |(refine AWP.condD rfl ?_ ?_ <;> intro _ <;> try (exfalso; omega)) |(refine Fl.elW rfl rfl rfl rfl rfl rfl rfl rfl (by omega) (by omega) (by assumption) ?_; intro _ _ _ _)|fail))
    · rename_i h
      have hlt : X < Y := by
        rcases Int.lt_or_le X Y with h1 | h1
        · exact h1
        · rcases Int.lt_or_eq_of_le h1 with h2 | h2
          · rw [cmpI_gt h2] at h; omega
          · rw [cmpI_eq h2.symm] at h; omega
      refine Fl.call rfl (rAbs_ok x (show (toW x.natAbs).length ≤ 100000 by rw [← hX]; omega)) rfl rfl rfl (LeL.cons (AV.Le.of_eq eX'.symm) LeL.nil) ?_;(repeat' (first |refine Fl.nilF ?_ |refine Fl.b rfl rfl rfl rfl ?_));refine JoinOk.of () trivial ?_;refine Ent.of [] ?_ ?_ rfl rfl;(repeat' (first |exact True.intro |refine ⟨⟨AV.Le.refl _, rfl⟩, ?_⟩ |refine ⟨⟨⟨_, rfl, BLe.cells (LeL.refl _)⟩, rfl⟩, ?_⟩ |refine ⟨⟨⟨_, rfl, BLe.cells ?_⟩, rfl⟩, ?_⟩|fail))
      · rw [hQ, Int.ediv_eq_zero_of_lt hX0 hlt]; exact le0
      · rw [hR, Int.emod_eq_of_lt hX0 hlt, hX]; exact LeL.refl _
    · rename_i h h1 z hz hz0 hz1
      have hYz : Y = z := by
        have := val_top hz;rw [show (0 : Int).toNat + 1 = (toW Y).length by omega, List.take_length, val_toW (by omega)] at this;rw [this]; simp [val, BB_zero]
      have hv := val_wdW (toW X).length (X / z) (by rw [← hYz]; exact hQ0) (by
        have := (toW_len_le hX0 (toW X).length).1 (Nat.le_refl _)
        rw [← hYz]; omega)
      have hm1 := rMake_ok false (wdW (toW X).length (X / Y)) (wdW_ok _ _) (by rw [wdW_length]; omega);rw [← hYz] at hv;rw [show sg false (val (wdW (toW X).length (X / Y))) = Q by rw [hv, hQ]; simp [sg]] at hm1;have hm2 := rMake_ok false [X % Y] (WOk.cons hR0 (by omega) WOk.nil) (by simp);rw [show sg false (val [X % Y]) = R by rw [hR]; simp [val, sg]] at hm2;have hs := short_ok X z hX0 (by omega) (by omega) hz1;rw [← hYz] at hs;refine Fl.call rfl hs rfl rfl rfl (LeL.cons (AV.Le.refl _) (LeL.cons (AV.Le.int hYz.symm) LeL.nil)) ?_;(repeat' (first |refine Fl.v rfl rfl rfl ?_ |refine Fl.nil (fun _ => by kernel_rfl) ?_ |refine AWP.region ?_));refine Fl.call rfl (hm1) rfl rfl rfl (LeL.refl _) ?_;(repeat' (first |refine Fl.v rfl rfl rfl ?_));refine Fl.lit rfl rfl rfl rfl rfl eW [X % Y] rfl rfl rfl rfl (by intro _ _; rfl) rfl ?_;skip;refine Fl.call rfl (hm2) rfl rfl rfl (LeL.refl _) ?_;(repeat' (first |refine Fl.nilF ?_ |refine Fl.b rfl rfl rfl rfl ?_));refine JoinOk.of () trivial ?_;refine Ent.of [] ?_ ?_ rfl rfl;(repeat' (first |exact True.intro |refine ⟨⟨AV.Le.refl _, rfl⟩, ?_⟩ |refine ⟨⟨⟨_, rfl, BLe.cells (LeL.refl _)⟩, rfl⟩, ?_⟩|fail))
    · rename_i h h1
      have hYX : Y ≤ X := by
        rcases Int.lt_or_le X Y with h2 | h2
        · rw [cmpI_lt h2] at h; omega
        · exact h2
      have hlYX := toW_mono (by omega) hYX
      have hYne : (toW Y).length ≠ 0 := fun k => by
        have := (toW_nil_iff (z := Y) (by omega)).1 (List.eq_nil_of_length_eq_zero k);omega
      obtain ⟨m, hm⟩ : ∃ m, (toW Y).length = m + 2 := ⟨(toW Y).length - 2, by omega⟩;obtain ⟨N, hN⟩ : ∃ N, (toW X).length = N + m := ⟨(toW X).length - m, by omega⟩;have hl := long_ok X Y N m hX0 hY0 (by omega) hm hN (by omega)
      have hQB : X / Y < BB N := by
        have a1 : X < BB (toW X).length := (toW_len_le hX0 _).1 (Nat.le_refl _)
        have a2 : BB (m + 1) ≤ Y := by
          rcases Int.lt_or_le Y (BB (m + 1)) with k | k
          · have := (toW_len_le (z := Y) (by omega) (m + 1)).2 k;omega
          · exact k
        have a3 : BB m ≤ Y := by rw [BB_succ] at a2; have := BB_pos m; omega
        rw [hN, BB_add] at a1;refine Int.ediv_lt_of_lt_mul hY0 (Int.lt_of_lt_of_le a1 ?_);exact Int.mul_le_mul_of_nonneg_left a3 (Int.le_of_lt (BB_pos _))
      have hm1 := rMake_ok false (wdW N (X / Y)) (wdW_ok _ _) (by rw [wdW_length]; omega);rw [val_wdW N _ hQ0 hQB, show sg false (X / Y) = X / Y by simp [sg]] at hm1;have hm2 := rMake_ok false (toW (X % Y)) (toW_ok _) (by omega);rw [val_toW hR0, show sg false (X % Y) = X % Y by simp [sg]] at hm2;refine Fl.call rfl (hl) rfl rfl rfl (LeL.refl _) ?_;(repeat' (first |refine Fl.v rfl rfl rfl ?_ |refine Fl.nilF ?_ |refine AWP.region ?_));refine Fl.call rfl (hm1) rfl rfl rfl (LeL.refl _) ?_;(repeat' (first |refine Fl.v rfl rfl rfl ?_));refine Fl.call rfl (hm2) rfl rfl rfl (LeL.refl _) ?_;(repeat' (first |refine Fl.nilF ?_ |refine Fl.b rfl rfl rfl rfl ?_));refine JoinOk.of () trivial ?_;refine Ent.of [] ?_ ?_ rfl rfl;(repeat' (first |exact True.intro |refine ⟨⟨AV.Le.refl _, rfl⟩, ?_⟩ |refine ⟨⟨⟨_, rfl, BLe.cells (LeL.refl _)⟩, rfl⟩, ?_⟩ |refine ⟨⟨⟨_, rfl, BLe.cells ?_⟩, rfl⟩, ?_⟩|fail))
      · rw [hQ]; exact LeL.refl _
      · rw [hR]; exact LeL.refl _
  intro _ _
  have lQ : lenI Q ≤ 39000 := by
    show (toW ((Q.natAbs : Nat) : Int)).length ≤ _;rw [abs_self (by omega), hQ]; exact hlQ
  have lR : lenI R ≤ 39000 := by
    show (toW ((R.natAbs : Nat) : Int)).length ≤ _;rw [abs_self (by omega), hR]; exact hlR
  have lQ1 : lenI (Q + 1) ≤ 39001 := by
    show (toW (((Q + 1).natAbs : Nat) : Int)).length ≤ _;rw [abs_self (by omega)];refine (toW_len_le (by omega) _).2 ?_;have h1 := (toW_len_le (z := Q) (by omega) 39000).1 (by rw [hQ]; exact hlQ);rw [show (39001 : Nat) = 39000 + 1 from rfl, BB_succ];omega
  have l1 : lenI 1 ≤ 1 := lenI_small (by decide);have lY : lenI ((y.natAbs : Nat) : Int) ≤ 39000 := hyl;rcases Int.lt_or_le x 0 with hx | hx
  · rw [decide_eq_true hx];by_cases hRz : R = 0
    · rcases Int.lt_or_le y 0 with hy1 | hy1
      · rw [decide_eq_true hy1];(repeat' (first |refine Fl.v rfl rfl rfl ?_ |refine AWP.seq ?_ |refine AWP.region ?_));refine Fl.call rfl (rZeroX_ok R) rfl rfl rfl (LeL.refl _) ?_;(repeat' (first |refine Fl.v rfl rfl rfl ?_ |refine Fl.nilF ?_ |refine Fl.nil (fun _ => by kernel_rfl) ?_ |refine AWP.seq ?_ |refine AWP.region ?_ |refine Fl.b rfl rfl rfl rfl ?_ |refine AWP.condF rfl ?_ |(refine AWP.condN rfl ?_ ?_ <;> intro _ <;> try (exfalso; omega)) |refine AWP.skip ?_ |refine AWP.ret ?_));obtain ⟨s1, s2⟩ := hsg.2.2.2.1 hx hRz hy1;refine RetOk.of rfl ?_;rw [← s1, ← s2];exact AV.Le.refl _
      · rw [decide_eq_false (show ¬ y < 0 by omega)];(repeat' (first |refine Fl.v rfl rfl rfl ?_ |refine AWP.seq ?_ |refine AWP.region ?_));refine Fl.call rfl (rZeroX_ok R) rfl rfl rfl (LeL.refl _) ?_;(repeat' (first |refine Fl.v rfl rfl rfl ?_ |refine Fl.nilF ?_ |refine AWP.seq ?_ |refine AWP.region ?_ |refine AWP.condT rfl ?_ |(refine AWP.condN rfl ?_ ?_ <;> intro _ <;> try (exfalso; omega)) |refine AWP.skip ?_));refine Fl.call rfl (rNeg_ok Q (show lenI Q ≤ 100000 by omega)) rfl rfl rfl (LeL.refl _) ?_;(repeat' (first |refine Fl.v rfl rfl rfl ?_ |refine Fl.nilF ?_ |refine Fl.nil (fun _ => by kernel_rfl) ?_ |refine AWP.seq ?_ |refine AWP.region ?_ |refine Fl.b rfl rfl rfl rfl ?_ |refine AWP.ret ?_));obtain ⟨s1, s2⟩ := hsg.2.2.1 hx hRz (by omega);refine RetOk.of rfl ?_;rw [← s1, ← s2];exact AV.Le.refl _
    · rcases Int.lt_or_le y 0 with hy1 | hy1
      · rw [decide_eq_true hy1];(repeat' (first |refine Fl.v rfl rfl rfl ?_ |refine AWP.seq ?_ |refine AWP.region ?_));refine Fl.call rfl (rZeroX_ok R) rfl rfl rfl (LeL.refl _) ?_;(repeat' (first |refine Fl.v rfl rfl rfl ?_ |refine Fl.nilF ?_ |refine AWP.region ?_ |(refine AWP.condN rfl ?_ ?_ <;> intro _ <;> try (exfalso; omega))));refine Fl.call rfl (rOf_ok 1 (by omega) (by omega)) rfl rfl rfl (LeL.refl _) ?_;skip;refine Fl.call rfl (rAdd_ok Q 1 (show lenI Q ≤ 40000 by omega) (show lenI 1 ≤ 40000 by omega)) rfl rfl rfl (LeL.refl _) ?_;(repeat' (first |refine Fl.v rfl rfl rfl ?_));refine Fl.call rfl (rAbs_ok y (show lenI y ≤ 100000 by omega)) rfl rfl rfl (LeL.cons (AV.Le.of_eq (by rw [eY', decide_eq_true hy1]; rfl)) LeL.nil) ?_;(repeat' (first |refine Fl.v rfl rfl rfl ?_));refine Fl.call rfl (rSub_ok (y.natAbs : Int) R (by omega) (show lenI R ≤ 40000 by omega)) rfl rfl rfl (LeL.refl _) ?_;(repeat' (first |refine Fl.v rfl rfl rfl ?_ |refine Fl.nilF ?_ |refine Fl.nil (fun _ => by kernel_rfl) ?_ |refine AWP.seq ?_ |refine AWP.region ?_ |refine Fl.b rfl rfl rfl rfl ?_ |refine AWP.condF rfl ?_ |refine AWP.skip ?_ |refine AWP.ret ?_));obtain ⟨s1, s2⟩ := hsg.2.2.2.2.2 hx hRz hy1;refine RetOk.of rfl ?_;rw [← s1, ← s2, hY];exact AV.Le.refl _
      · rw [decide_eq_false (show ¬ y < 0 by omega)];(repeat' (first |refine Fl.v rfl rfl rfl ?_ |refine AWP.seq ?_ |refine AWP.region ?_));refine Fl.call rfl (rZeroX_ok R) rfl rfl rfl (LeL.refl _) ?_;(repeat' (first |refine Fl.v rfl rfl rfl ?_ |refine Fl.nilF ?_ |refine AWP.region ?_ |(refine AWP.condN rfl ?_ ?_ <;> intro _ <;> try (exfalso; omega))));refine Fl.call rfl (rOf_ok 1 (by omega) (by omega)) rfl rfl rfl (LeL.refl _) ?_;skip;refine Fl.call rfl (rAdd_ok Q 1 (show lenI Q ≤ 40000 by omega) (show lenI 1 ≤ 40000 by omega)) rfl rfl rfl (LeL.refl _) ?_;(repeat' (first |refine Fl.v rfl rfl rfl ?_));refine Fl.call rfl (rAbs_ok y (show lenI y ≤ 100000 by omega)) rfl rfl rfl (LeL.cons (AV.Le.of_eq (by rw [eY', decide_eq_false (show ¬ y < 0 by omega)]; rfl)) LeL.nil) ?_;(repeat' (first |refine Fl.v rfl rfl rfl ?_));refine Fl.call rfl (rSub_ok (y.natAbs : Int) R (by omega) (show lenI R ≤ 40000 by omega)) rfl rfl rfl (LeL.refl _) ?_;(repeat' (first |refine Fl.v rfl rfl rfl ?_ |refine Fl.nilF ?_ |refine Fl.nil (fun _ => by kernel_rfl) ?_ |refine AWP.seq ?_ |refine AWP.region ?_ |refine Fl.b rfl rfl rfl rfl ?_ |refine AWP.condT rfl ?_));refine Fl.call rfl (rNeg_ok (Q + 1) (show lenI (Q + 1) ≤ 100000 by omega)) rfl rfl rfl (LeL.refl _) ?_;(repeat' (first |refine Fl.v rfl rfl rfl ?_ |refine Fl.nilF ?_ |refine Fl.nil (fun _ => by kernel_rfl) ?_ |refine AWP.seq ?_ |refine AWP.region ?_ |refine Fl.b rfl rfl rfl rfl ?_ |refine AWP.ret ?_));obtain ⟨s1, s2⟩ := hsg.2.2.2.2.1 hx hRz (by omega);refine RetOk.of rfl ?_;rw [← s1, ← s2, hY];exact AV.Le.refl _
  · rw [decide_eq_false (show ¬ x < 0 by omega)];rcases Int.lt_or_le y 0 with hy1 | hy1
    · rw [decide_eq_true hy1];(repeat' (first |refine Fl.v rfl rfl rfl ?_ |refine Fl.nilF ?_ |refine AWP.seq ?_ |refine AWP.region ?_ |refine Fl.skip rfl rfl ?_ |refine AWP.condT rfl ?_ |refine AWP.condF rfl ?_ |refine AWP.skip ?_));refine Fl.call rfl (rNeg_ok Q (show lenI Q ≤ 100000 by omega)) rfl rfl rfl (LeL.refl _) ?_;(repeat' (first |refine Fl.v rfl rfl rfl ?_ |refine Fl.nilF ?_ |refine Fl.nil (fun _ => by kernel_rfl) ?_ |refine AWP.seq ?_ |refine AWP.region ?_ |refine Fl.b rfl rfl rfl rfl ?_ |refine AWP.ret ?_));obtain ⟨s1, s2⟩ := hsg.2.1 hx hy1;refine RetOk.of rfl ?_;rw [← s1, ← s2];exact AV.Le.refl _
    · rw [decide_eq_false (show ¬ y < 0 by omega)];(repeat' (first |refine Fl.v rfl rfl rfl ?_ |refine Fl.nilF ?_ |refine Fl.nil (fun _ => by kernel_rfl) ?_ |refine AWP.seq ?_ |refine AWP.region ?_ |refine Fl.b rfl rfl rfl rfl ?_ |refine Fl.skip rfl rfl ?_ |refine AWP.condF rfl ?_ |refine AWP.skip ?_ |refine AWP.ret ?_));obtain ⟨s1, s2⟩ := hsg.1 hx (by omega);refine RetOk.of rfl ?_;rw [← s1, ← s2];exact AV.Le.refl _
end Go.Proofs.YtcaecieigoplbaaGreat
namespace Go.AL
end Go.AL
namespace Go.Proofs.YtcaecieigoplbaaGreat
open Go.AL

end Go.Proofs.YtcaecieigoplbaaGreat
namespace Go.AL
/-- how many binary digits -/
def bitl (n : Nat) : Nat := if n = 0 then 0 else Nat.log2 n + 1
theorem bitl_eq {n k : Nat} (h1 : 2 ^ k ≤ n) (h2 : n < 2 ^ (k + 1)) : bitl n = k + 1 := by
  have := Nat.two_pow_pos k;rw [bitl, if_neg (by omega), (Nat.log2_eq_iff (by omega)).2 ⟨h1, h2⟩]
theorem bitl_lt (n : Nat) : n < 2 ^ bitl n := by
  unfold bitl;split
  · omega
  · exact Nat.lt_log2_self
theorem bitl_ge {n : Nat} (h : n ≠ 0) : 1 ≤ bitl n ∧ 2 ^ (bitl n - 1) ≤ n := by
  unfold bitl;rw [if_neg h];exact ⟨by omega, Nat.log2_self_le h⟩
theorem bitl_le {n k : Nat} (h : n < 2 ^ k) : bitl n ≤ k := by
  rcases Nat.eq_zero_or_pos n with h0 | h0
  · rw [bitl, if_pos h0]; omega
  · have h1 := bitl_ge (n := n) (by omega)
    have h2 : 2 ^ (bitl n - 1) < 2 ^ k := by omega
    have := (Nat.pow_lt_pow_iff_right (by omega : 1 < 2)).1 h2;omega
/-- the words, and the digits of the last one -/
theorem bitl_words {m n k : Nat} {u lo : Int} (hk : 1 ≤ k) (hlo : 0 ≤ lo) (hlo2 : lo < BB n) (hm : (m : Int) = lo + BB n * u) (h1 : 2 ^ (k - 1) ≤ u.toNat) (h2 : u.toNat < 2 ^ k) : bitl m = 32 * n + k := by
  have hB : BB n = ((2 ^ (32 * n) : Nat) : Int) := by rw [BB_pow]; simp
  have hup : u = (u.toNat : Int) := by
    have := Nat.two_pow_pos (k - 1);omega
  have hlt : ∃ l : Nat, lo = (l : Int) := ⟨lo.toNat, by omega⟩;obtain ⟨l, rfl⟩ := hlt
  have hm' : m = l + 2 ^ (32 * n) * u.toNat := by
    rw [hB, hup] at hm;exact_mod_cast hm
  have hl : l < 2 ^ (32 * n) := by rw [hB] at hlo2; exact_mod_cast hlo2
  have e : 32 * n + k = (32 * n + (k - 1)) + 1 := by omega
  rw [e];refine bitl_eq ?_ ?_
  · rw [Nat.pow_add, hm'];have := Nat.mul_le_mul_left (2 ^ (32 * n)) h1;omega
  · rw [← e, Nat.pow_add, hm'];have h3 : u.toNat + 1 ≤ 2 ^ k := h2;have := Nat.mul_le_mul_left (2 ^ (32 * n)) h3;rw [Nat.mul_add] at this;omega
end Go.AL
namespace Go.Proofs.YtcaecieigoplbaaGreat
open Go.AL

theorem rBits_ok (x : Int) (hx : lenI x ≤ 100000) : PureFn Tryz.prog 105 [aX x] (aN (bitl x.natAbs)) := by
  refine PureFn.of_body Tryz.func105 rfl Tryz.ntmps105 rfl rfl ?_;have wx := toW_ok x.natAbs;have vx := val_toW (show (0 : Int) ≤ x.natAbs by omega);obtain ⟨n, hn⟩ : ∃ n, n = (toW x.natAbs).length := ⟨_, rfl⟩
  have hx' : n ≤ 100000 := by rw [hn]; exact hx
  by_cases h0 : n = 0
  · have hx0 : x.natAbs = 0 := by
      have : toW x.natAbs = [] := List.eq_nil_of_length_eq_zero (by omega);rw [this, val_nil] at vx;omega
    (repeat' (first |refine Fl.v rfl rfl rfl ?_ |refine Fl.nilF ?_ |refine AWP.seq ?_ |refine AWP.region ?_ |refine Fl.b rfl rfl rfl rfl ?_ |(refine AWP.condD rfl ?_ ?_ <;> intro _ <;> try (exfalso; omega)) |refine AWP.ret ?_));exact RetOk.of rfl (AV.Le.int (by rw [hx0]; rfl))
  · obtain ⟨u, hu⟩ : ∃ u, (toW x.natAbs)[n - 1]? = some u := ⟨_, List.getElem?_eq_getElem (by omega)⟩
    have hu' : (toW x.natAbs)[(((toW x.natAbs).length : Int) - 1).toNat]? = some u := by rwa [show (((toW x.natAbs).length : Int) - 1).toNat = n - 1 by omega]
    have hub := wx u (List.mem_of_getElem? hu);have hval := val_take_succ hu;rw [show n - 1 + 1 = n by omega, hn, List.take_length, vx, ← hn] at hval;have wt : WOk ((toW x.natAbs).take (n - 1)) := fun y hy => wx y (List.mem_of_mem_take hy);have hlo := val_nonneg wt;have hlo2 := val_lt wt;rw [List.length_take_of_le (by omega)] at hlo2
    have hx1 : x.natAbs ≠ 0 := by
      intro h;rw [h, show ((0 : Nat) : Int) = 0 from rfl, toW_zero] at hn;exact h0 hn
    have hge := BB_len_le (z := x.natAbs) (by omega);rw [← hn] at hge
    have hu1 : 1 ≤ u := by
      rcases Int.lt_or_le u 1 with h | h
      · have : u = 0 := by omega
        subst this;omega
      · exact h
    (repeat' (first |refine Fl.v rfl rfl rfl ?_ |refine Fl.nilF ?_ |refine AWP.seq ?_ |refine AWP.region ?_ |refine Fl.w rfl rfl rfl (by first | exact True.intro | omega) ?_ |refine Fl.b rfl rfl rfl rfl ?_ |(refine AWP.condD rfl ?_ ?_ <;> intro _ <;> try (exfalso; omega)) |refine AWP.block ?_ |refine AWP.skip ?_ |refine Fl.elK rfl rfl rfl rfl rfl rfl rfl rfl (by assumption) (by omega) ?_|fail));refine AWP.loop (G := Nat) (fun k => k ≤ 32 ∧ (k = 0 ∨ 2 ^ (k - 1) ≤ u.toNat)) (fun k => St.of [] [(3, aN (toW x.natAbs).length), (4, aN k), (5, .v (.int .u32 ((u.toNat / 2 ^ k : Nat) : Int)))] []) (fun k => u.toNat / 2 ^ k) 0 ⟨by omega, .inl rfl⟩ ?_ ?_
    · refine Ent.of [] ?_ ?_ rfl rfl;(repeat' (first |exact True.intro |refine ⟨⟨AV.Le.refl _, rfl⟩, ?_⟩ |refine ⟨⟨AV.Le.int ?_, rfl⟩, ?_⟩|fail));rw [Nat.pow_zero, Nat.div_one]; omega
    · intro k ⟨k0, k1⟩;obtain ⟨q, hq⟩ : ∃ q, q = u.toNat / 2 ^ k := ⟨_, rfl⟩
      have hq1 : u.toNat / 2 ^ (k + 1) = q / 2 := by rw [hq, Nat.pow_succ, ← Nat.div_div_eq_div_mul]
      rw [← hq];by_cases hw : 0 < q
      · have h2k : 2 ^ k ≤ u.toNat := by
          rcases Nat.lt_or_ge u.toNat (2 ^ k) with h | h
          · rw [Nat.div_eq_of_lt h] at hq; omega
          · exact h
        have hk32 : k < 32 := by
          have h3 : 2 ^ k < 2 ^ 32 := by omega
          exact (Nat.pow_lt_pow_iff_right (by omega : 1 < 2)).1 h3
        have hhi : hiK .u32 = 4294967295 := rfl
        have hqu : q ≤ u.toNat := by rw [hq]; exact Nat.div_le_self _ _
        (repeat' (first |refine Fl.v rfl rfl rfl ?_ |refine Fl.nilF ?_ |refine AWP.seq ?_ |refine AWP.region ?_ |refine Fl.w rfl rfl rfl (by first | exact True.intro | omega) ?_ |(refine AWP.condD rfl ?_ ?_ <;> intro _ <;> try (exfalso; omega)) |refine AWP.block ?_ |refine AWP.skip ?_));refine LoopEnd.of (k + 1) ⟨by omega, .inr (by simpa using h2k)⟩ (by rw [hq1, ← hq]; omega) ?_;refine Ent.of [] ?_ ?_ rfl rfl;(repeat' (first |exact True.intro |refine ⟨⟨AV.Le.refl _, rfl⟩, ?_⟩ |refine ⟨⟨AV.Le.int ?_, rfl⟩, ?_⟩|fail));rw [hq1]; omega
      · have hlt : u.toNat < 2 ^ k := by
          rcases Nat.lt_or_ge u.toNat (2 ^ k) with h | h
          · exact h
          · have := Nat.div_pos h (Nat.two_pow_pos k); omega
        have hk1 : 1 ≤ k := by
          rcases k1 with h | h
          · subst h; simp at hlt; omega
          · rcases Nat.eq_zero_or_pos k with h' | h'
            · subst h'; simp at hlt; omega
            · exact h'
        have hb := bitl_words hk1 hlo hlo2 hval (k1.resolve_left (by omega)) hlt;(repeat' (first |refine Fl.v rfl rfl rfl ?_ |refine Fl.nilF ?_ |refine AWP.seq ?_ |refine AWP.region ?_ |refine Fl.w rfl rfl rfl (by first | exact True.intro | omega) ?_ |(refine AWP.condD rfl ?_ ?_ <;> intro _ <;> try (exfalso; omega)) |refine AWP.exit ?_ |refine AWP.ret ?_));exact RetOk.of rfl (AV.Le.int (by rw [hb]; omega))
end Go.Proofs.YtcaecieigoplbaaGreat
namespace Go.AL
theorem pow_ge_one {x : Int} (h : 1 ≤ x) : ∀ k : Nat, 1 ≤ x ^ k
  | 0 => by rw [Int.pow_zero]; omega
  | k + 1 => by
    rw [Int.pow_succ];have h1 := pow_ge_one h k;have := Int.mul_le_mul h1 h (by omega) (by omega);omega
theorem le_mul_one {a b : Int} (ha : 1 ≤ a) (hb : 0 ≤ b) : b ≤ b * a := by
  have := Int.mul_le_mul_of_nonneg_left ha hb;omega
theorem sq_pow (x : Int) (k : Nat) : (x * x) ^ k = x ^ (2 * k) := by
  rw [Int.mul_pow, ← Int.pow_add]; congr 1; omega
theorem lt_BB {m k n : Nat} (h : m ≤ 2 ^ k) (hk : k < 32 * n) : (m : Int) < BB n := by
  have h3 : 2 ^ k < 2 ^ (32 * n) := Nat.pow_lt_pow_right (by omega) hk;have h4 : m < 2 ^ (32 * n) := Nat.lt_of_le_of_lt h h3;rw [BB_pow];exact_mod_cast h4
theorem bitl_BB {m n : Nat} (h : (m : Int) < BB n) : bitl m ≤ 32 * n := bitl_le (by
  rw [BB_pow] at h
  exact_mod_cast h)
/-- what is returned is not too long -/
theorem pow_small {p n b : Int} (hp : 2 ≤ p) (h0 : 0 ≤ n) (hb : b = (bitl p.natAbs : Int)) (h : n * (b - 1) ≤ 131072) : p ^ n.toNat < BB 8193 := by
  have hb2 : 2 ≤ b := by
    have h1 := bitl_ge (n := p.natAbs) (by omega);have h2 := bitl_lt p.natAbs;rcases Nat.lt_or_ge (bitl p.natAbs) 2 with h3 | h3
    · have : bitl p.natAbs = 1 := by omega
      rw [this] at h2; omega
    · omega
  have h1 : p.natAbs ^ n.toNat ≤ (2 ^ bitl p.natAbs) ^ n.toNat := Nat.pow_le_pow_left (Nat.le_of_lt (bitl_lt _)) _;rw [← Nat.pow_mul] at h1
  have h2 : bitl p.natAbs * n.toNat ≤ 262144 := by
    have e1 : n * b ≤ n * (2 * (b - 1)) := Int.mul_le_mul_of_nonneg_left (by omega) h0
    have e2 : n * (2 * (b - 1)) = 2 * (n * (b - 1)) := by rw [← Int.mul_assoc, Int.mul_comm n 2, Int.mul_assoc]
    have e3 : ((bitl p.natAbs * n.toNat : Nat) : Int) = n * b := by
      rw [Int.natCast_mul, hb, Int.mul_comm, show ((n.toNat : Nat) : Int) = n by omega]
    omega
  have h5 : p ^ n.toNat = ((p.natAbs ^ n.toNat : Nat) : Int) := by
    rw [Int.natCast_pow, show ((p.natAbs : Nat) : Int) = p by omega]
  rw [h5];exact lt_BB h1 (by omega)
end Go.AL
namespace Go.Proofs.YtcaecieigoplbaaGreat
open Go.AL

set_option maxHeartbeats 1000000 in
theorem rPower_ok (p n : Int) (hp : 2 ≤ p) (hpf : Fit p) (h0 : 0 ≤ n) (h1 : n ≤ 163840) (b : Int) (hb : b = (bitl p.natAbs : Int)) (h : n * (b - 1) ≤ 131072) : PureFn Tryz.prog 36 [aX p, aN n] (.tup [aX (p ^ n.toNat), aB true]) := by
  refine PureFn.of_body Tryz.func36 rfl Tryz.ntmps36 rfl rfl ?_;have hlp := hpf.len
  have hb2 : 2 ≤ b := by
    have h1 := bitl_ge (n := p.natAbs) (by omega);have h2 := bitl_lt p.natAbs;rcases Nat.lt_or_ge (bitl p.natAbs) 2 with h3 | h3
    · have : bitl p.natAbs = 1 := by omega
      rw [this] at h2; omega
    · omega
  have hbu : b ≤ 131072 := by
    have h3 : bitl p.natAbs ≤ 32 * 4096 := bitl_BB (by have := hpf; unfold Fit at this; exact this);omega
  have hsmall := pow_small hp h0 hb h;have hbits := rBits_ok p (show lenI p ≤ 100000 by unfold lenI; omega);rw [← hb] at hbits;have hhi : hiK .i64 = 9223372036854775807 := rfl;have hquo : n ≤ 262144 / (b - 1) := (Int.le_ediv_iff_mul_le (by omega)).2 (by omega);obtain ⟨T, hT⟩ : ∃ T, T = p ^ n.toNat := ⟨_, rfl⟩
  have hp8 : p < BB 8193 := by
    have := hpf;unfold Fit at this;have h3 := BB_le (show 4096 ≤ 8193 by omega);omega
  rw [← hT] at hsmall ⊢;(repeat' (first |refine Fl.v rfl rfl rfl ?_ |refine Fl.nilF ?_ |refine AWP.seq ?_ |refine AWP.region ?_ |refine Fl.b rfl rfl rfl rfl ?_));refine Fl.call rfl (hbits) rfl rfl rfl (LeL.refl _) ?_;(repeat' (first |refine Fl.v rfl rfl rfl ?_ |refine Fl.nilF ?_ |refine AWP.seq ?_ |refine AWP.region ?_ |refine Fl.w rfl rfl rfl (by first | exact True.intro | omega) ?_ |(refine AWP.condD rfl ?_ ?_ <;> intro _ <;> try (exfalso; omega)) |refine AWP.skip ?_));refine Fl.call rfl (rOf_ok 1 (by omega) (by omega)) rfl rfl rfl (LeL.refl _) ?_;(repeat' (first |refine Fl.v rfl rfl rfl ?_ |refine Fl.nilF ?_ |refine AWP.seq ?_ |refine AWP.region ?_ |refine Fl.b rfl rfl rfl rfl ?_ |refine AWP.block ?_));refine AWP.loop (G := Int × Int × Int) (fun (m, o, x) => (0 ≤ m ∧ m ≤ n) ∧ (1 ≤ o ∧ o < BB 8193) ∧ (1 ≤ x ∧ x < BB 8193) ∧ o * x ^ m.toNat = T)
    (fun (m, o, x) => St.of [] [(1, aN m), (4, .ptr 4 0), (7, .ptr 7 0), (8, .ptr 700 0)] [(4, .cells [aB false, .v (.slice none 0 0)] 35), (7, .cells (eX o) 35), (700, .cells (eX x) 35)])
    (fun (m, o, x) => m.toNat) (n, 1, p) ⟨⟨h0, by omega⟩, ⟨by omega, by have := BB_le (show 1 ≤ 8193 by omega); rw [BB_succ 0, BB_zero] at this; omega⟩, ⟨by omega, hp8⟩, by rw [Int.one_mul]; exact hT.symm⟩ ?_ ?_
  · refine Ent.of [(700, 8)] ?_ ?_ rfl rfl;(repeat' (first |exact True.intro |refine ⟨⟨AV.Le.refl _, rfl⟩, ?_⟩ |refine ⟨⟨⟨_, rfl, BLe.cells (LeL.refl _)⟩, rfl⟩, ?_⟩|fail))
  · intro (m, o, x) ⟨⟨k0, k1⟩, ⟨k2, k3⟩, ⟨k4, k5⟩, k6⟩;have lo : lenI o ≤ 8193 := lenI_le.2 (by omega);have lx : lenI x ≤ 8193 := lenI_le.2 (by omega);have hmo := rMul_ok o x (show lenI o ≤ 40000 by omega) (show lenI x ≤ 40000 by omega);have hmx := rMul_ok x x (show lenI x ≤ 40000 by omega) (show lenI x ≤ 40000 by omega)
    have hox : 1 ≤ o * x := by have := le_mul_one k4 (show 0 ≤ o by omega); omega
    have hxx : 1 ≤ x * x := by have := le_mul_one k4 (show 0 ≤ x by omega); omega
    by_cases hm : 0 < m
    · have hodd : m % 2 = 1 → o * x ≤ T ∧ o * x * (x * x) ^ (m / 2).toNat = T := fun hmo => by
        have e : x ^ m.toNat = x * (x * x) ^ (m / 2).toNat := by
          rw [sq_pow, Int.mul_comm, ← Int.pow_succ]; congr 1; omega
        rw [e, ← Int.mul_assoc] at k6;exact ⟨by rw [← k6]; exact le_mul_one (pow_ge_one hxx _) (by omega), k6⟩
      have heven : m % 2 ≠ 1 → o * (x * x) ^ (m / 2).toNat = T := fun hmo => by
        have e : x ^ m.toNat = (x * x) ^ (m / 2).toNat := by
          rw [sq_pow]; congr 1; omega
        rw [e] at k6;exact k6
      have hsq : 1 < m → x * x ≤ T := fun hm1 => by
        have e : x ^ m.toNat = (x * x) * x ^ (m.toNat - 2) := by
          rw [show x * x = x ^ 2 by rw [Int.pow_succ, Int.pow_succ, Int.pow_zero, Int.one_mul], ← Int.pow_add]; congr 1; omega
        rw [e, ← Int.mul_assoc] at k6;rw [← k6];have g1 := le_mul_one (pow_ge_one k4 (m.toNat - 2)) (show 0 ≤ o * (x * x) from Int.mul_nonneg (by omega) (by omega));have g2 := Int.mul_le_mul_of_nonneg_right k2 (show 0 ≤ x * x by omega);omega
      by_cases hr : m % 2 = 1
      · obtain ⟨q1, q2⟩ := hodd hr;by_cases hm1 : 1 < m
        · (repeat' (first |refine Fl.v rfl rfl rfl ?_ |refine Fl.nilF ?_ |refine AWP.seq ?_ |refine AWP.region ?_ |refine Fl.w rfl rfl rfl (by first | exact True.intro | omega) ?_ |(refine AWP.condD rfl ?_ ?_ <;> intro _ <;> try (exfalso; omega)) |refine AWP.block ?_ |refine AWP.skip ?_));refine Fl.call rfl (hmo) rfl rfl rfl (LeL.refl _) ?_;(repeat' (first |refine Fl.v rfl rfl rfl ?_ |refine Fl.nilF ?_ |refine AWP.seq ?_ |refine AWP.region ?_ |refine Fl.b rfl rfl rfl rfl ?_ |(refine AWP.condD rfl ?_ ?_ <;> intro _ <;> try (exfalso; omega))));refine Fl.call rfl (hmx) rfl rfl rfl (LeL.refl _) ?_;(repeat' (first |refine Fl.v rfl rfl rfl ?_ |refine Fl.nilF ?_ |refine AWP.seq ?_ |refine AWP.region ?_ |refine Fl.w rfl rfl rfl (by first | exact True.intro | omega) ?_ |refine Fl.b rfl rfl rfl rfl ?_));refine LoopEnd.of (m / 2, o * x, x * x) ⟨⟨by omega, by omega⟩, ⟨by omega, by omega⟩, ⟨by omega, by have := hsq hm1; omega⟩, q2⟩ (show (m / 2).toNat < m.toNat by omega) ?_;refine Ent.of [(700, 8)] ?_ ?_ rfl rfl;(repeat' (first |exact True.intro |refine ⟨⟨AV.Le.refl _, rfl⟩, ?_⟩ |refine ⟨⟨⟨_, rfl, BLe.cells (LeL.refl _)⟩, rfl⟩, ?_⟩|fail))
        · have hm2 : m = 1 := by omega
          subst hm2;(repeat' (first |refine Fl.v rfl rfl rfl ?_ |refine Fl.nilF ?_ |refine AWP.seq ?_ |refine AWP.region ?_ |refine Fl.w rfl rfl rfl (by first | exact True.intro | omega) ?_ |refine AWP.condT rfl ?_ |refine AWP.block ?_ |refine AWP.skip ?_));refine Fl.call rfl (hmo) rfl rfl rfl (LeL.refl _) ?_;(repeat' (first |refine Fl.v rfl rfl rfl ?_ |refine Fl.nilF ?_ |refine AWP.seq ?_ |refine AWP.region ?_ |refine Fl.w rfl rfl rfl (by first | exact True.intro | omega) ?_ |refine Fl.b rfl rfl rfl rfl ?_ |refine AWP.condF rfl ?_ |refine AWP.skip ?_));refine LoopEnd.of (0, o * x, x) ⟨⟨by omega, by omega⟩, ⟨by omega, by omega⟩, ⟨by omega, k5⟩, by simpa using q2⟩ (show (0 : Int).toNat < (1 : Int).toNat by decide) ?_;refine Ent.of [(700, 8)] ?_ ?_ rfl rfl;(repeat' (first |exact True.intro |refine ⟨⟨AV.Le.refl _, rfl⟩, ?_⟩ |refine ⟨⟨⟨_, rfl, BLe.cells (LeL.refl _)⟩, rfl⟩, ?_⟩|fail))
      · have q2 := heven hr;(repeat' (first |refine Fl.v rfl rfl rfl ?_ |refine Fl.nilF ?_ |refine AWP.seq ?_ |refine AWP.region ?_ |refine Fl.w rfl rfl rfl (by first | exact True.intro | omega) ?_ |(refine AWP.condD rfl ?_ ?_ <;> intro _ <;> try (exfalso; omega)) |refine AWP.block ?_ |refine AWP.skip ?_));refine Fl.call rfl (hmx) rfl rfl rfl (LeL.refl _) ?_;(repeat' (first |refine Fl.v rfl rfl rfl ?_ |refine Fl.nilF ?_ |refine AWP.seq ?_ |refine AWP.region ?_ |refine Fl.w rfl rfl rfl (by first | exact True.intro | omega) ?_ |refine Fl.b rfl rfl rfl rfl ?_));refine LoopEnd.of (m / 2, o, x * x) ⟨⟨by omega, by omega⟩, ⟨by omega, by omega⟩, ⟨by omega, by have := hsq (by omega); omega⟩, q2⟩ (show (m / 2).toNat < m.toNat by omega) ?_;refine Ent.of [(700, 8)] ?_ ?_ rfl rfl;(repeat' (first |exact True.intro |refine ⟨⟨AV.Le.refl _, rfl⟩, ?_⟩ |refine ⟨⟨⟨_, rfl, BLe.cells (LeL.refl _)⟩, rfl⟩, ?_⟩|fail))
    · rw [show m.toNat = 0 by omega, Int.pow_zero, Int.mul_one] at k6;rw [← k6];(repeat' (first |refine Fl.v rfl rfl rfl ?_ |refine Fl.nilF ?_ |refine AWP.seq ?_ |refine AWP.region ?_ |refine Fl.b rfl rfl rfl rfl ?_ |(refine AWP.condD rfl ?_ ?_ <;> intro _ <;> try (exfalso; omega)) |refine AWP.exit ?_ |refine AWP.ret ?_));exact RetOk.of rfl (AV.Le.refl _)
end Go.Proofs.YtcaecieigoplbaaGreat
/- ref01: SameAll. -/
namespace Go.AL
theorem take_eq_succ {α : Type} {X Y : List α} {i : Nat} {x y : α} (hx : X[i]? = some x) (hy : Y[i]? = some y) (h : X.take i = Y.take i) (e : x = y) : X.take (i + 1) = Y.take (i + 1) := by
  rw [take_snoc hx, take_snoc hy, h, e]
end Go.AL
namespace Go.Proofs.YtcaecieigoplbaaGreat
open Go.AL
theorem rSameAll_ok (X Y : List Int) (hX : ∀ x ∈ X, (toW x.natAbs).length ≤ 1000000) (hl : X.length ≤ 1000000) : PureFn Tryz.prog 24 [.sl 2 eX X, .sl 2 eX Y] (aB (decide (X = Y))) := by
  refine PureFn.of_body Tryz.func24 rfl Tryz.ntmps24 rfl rfl ?_;(repeat' (first |refine Fl.v rfl rfl rfl ?_ |refine Fl.nilF ?_ |refine AWP.seq ?_ |refine AWP.region ?_ |(refine AWP.condN rfl ?_ ?_ <;> intro _ <;> try (exfalso; omega)) |refine AWP.block ?_ |refine AWP.skip ?_ |refine AWP.ret ?_))
  · rename_i h;refine RetOk.of rfl (AV.Le.bool (Eq.symm (decide_eq_false fun e => h ?_)));rw [e]
  rename_i hlen;refine AWP.loop (G := Nat) (fun i => i ≤ X.length ∧ X.take i = Y.take i) (fun i => St.of [] [(0, .sl 2 eX X), (1, .sl 2 eX Y), (5, aN i)] []) (fun i => X.length - i) 0 ⟨by omega, by simp⟩ ?_ ?_
  · refine Ent.of [] ?_ ?_ rfl rfl;(repeat' (first |exact True.intro |refine ⟨⟨AV.Le.refl _, rfl⟩, ?_⟩|fail))
  · intro i ⟨h0, h1⟩;(repeat' (first |refine Fl.v rfl rfl rfl ?_ |refine Fl.nilF ?_ |refine AWP.seq ?_ |refine AWP.region ?_ |(refine AWP.condD rfl ?_ ?_ <;> intro _ <;> try (exfalso; omega)) |refine AWP.block ?_ |refine AWP.skip ?_ |refine AWP.exit ?_ |refine AWP.ret ?_ |(refine Fl.el rfl rfl rfl rfl rfl rfl rfl rfl (by omega) (by omega) ?_; intro _ _)|fail))
    · rename_i hi x hx y hy;rw [Int.toNat_natCast] at hx hy;refine Fl.call rfl (rSame_ok x y (hX x (List.mem_of_getElem? hx))) rfl rfl rfl (LeL.refl _) ?_;(repeat' (first |refine Fl.v rfl rfl rfl ?_ |refine Fl.nilF ?_ |refine Fl.nil (fun _ => by kernel_rfl) ?_ |refine AWP.seq ?_ |refine AWP.region ?_ |refine Fl.w rfl rfl rfl (by first | exact True.intro | omega) ?_ |(refine AWP.condN rfl ?_ ?_ <;> intro _ <;> try (exfalso; omega)) |refine AWP.skip ?_ |refine AWP.ret ?_))
      · rename_i hne;refine RetOk.of rfl (AV.Le.bool (Eq.symm (decide_eq_false fun e => hne ?_)));subst e;rw [hx] at hy;injection hy
      · rename_i heq;refine LoopEnd.of (i + 1) ⟨by omega, take_eq_succ hx hy h1 heq⟩ (by omega) ?_;refine Ent.of [] ?_ ?_ rfl rfl;(repeat' (first |exact True.intro |refine ⟨⟨AV.Le.refl _, rfl⟩, ?_⟩|fail))
    · rename_i hi;refine RetOk.of rfl (AV.Le.bool (Eq.symm (decide_eq_true ?_)));rw [List.take_of_length_le (by omega), List.take_of_length_le (by omega)] at h1;exact h1
end Go.Proofs.YtcaecieigoplbaaGreat
/- ref01: Under, Small; mask.Witness where there is none. -/
namespace Go.AL
theorem und_and {x w : Int} (h0 : 0 ≤ x) : bitN .and x w = x ↔ undI x w := by
  show ((x.toNat &&& w.toNat : Nat) : Int) = x ↔ x.toNat &&& w.toNat = x.toNat;omega
end Go.AL
namespace Go.Proofs.YtcaecieigoplbaaGreat
open Go.AL

theorem rUnderG_ok (x y : Int) (hx : 0 ≤ x) (hy : 0 ≤ y) (hxl : (toW x).length ≤ 100000) (hyl : (toW y).length ≤ 100000) (b : Bool) (hb : b = true ↔ undI x y) : PureFn Tryz.prog 20 [aX x, aX y] (aB b) := by
  refine PureFn.of_body Tryz.func20 rfl Tryz.ntmps20 rfl rfl ?_
  have ex : ((x.natAbs : Nat) : Int) = x := by omega
  have ey : ((y.natAbs : Nat) : Int) = y := by omega
  have wx := toW_ok x;have wy := toW_ok y;have hsx := val_toW hx;have hsy := val_toW hy;obtain ⟨C, hC⟩ : ∃ C, C = toW y ++ List.replicate (toW x).length 0 := ⟨_, rfl⟩
  have wC : WOk C := by rw [hC]; exact wy.append (WOk.zeros _)
  have hCl : (toW x).length ≤ C.length := by rw [hC]; simp
  have hCv : val C = y := by rw [hC, val_append, val_zeros, hsy]; omega
  have hwords := undI_words wx wC hCl;rw [hsx, hCv] at hwords;show AWP _ _ _ _ _ (St.init [.agg [aB (decide (x < 0)), aW (toW x.natAbs)], .agg [aB (decide (y < 0)), aW (toW y.natAbs)]]);rw [ex, ey]
  generalize hA : toW x = A at *
  generalize hB : toW y = B at *
  (repeat' (first |refine Fl.v rfl rfl rfl ?_ |refine Fl.nilF ?_ |refine AWP.seq ?_ |refine AWP.region ?_ |refine Fl.b rfl rfl rfl rfl ?_ |refine AWP.block ?_));refine AWP.loop (G := Nat) (fun i => i ≤ A.length ∧ ∀ (j : Nat) (a w : Int), j < i → A[j]? = some a → C[j]? = some w → undI a w) (fun i => St.of [] [(2, .ptr 2 0), (3, .ptr 3 0), (5, aN i)] [(2, .cells [aB (decide (x < 0)), aW A] 35), (3, .cells [aB (decide (y < 0)), aW B] 35)]) (fun i => A.length - i) 0 ⟨by omega, by intro j a w h; omega⟩ ?_ ?_
  · refine Ent.of [] ?_ ?_ rfl rfl;(repeat' (first |exact True.intro |refine ⟨⟨AV.Le.refl _, rfl⟩, ?_⟩ |refine ⟨⟨⟨_, rfl, BLe.cells (LeL.refl _)⟩, rfl⟩, ?_⟩|fail))
  · intro i ⟨h0, h1⟩;refine AWP.seqS ?_;(repeat' (first |refine Fl.v rfl rfl rfl ?_ |refine Fl.nilF ?_ |refine AWP.seq ?_ |refine AWP.region ?_ |(refine AWP.condD rfl ?_ ?_ <;> intro _ <;> try (exfalso; omega)) |refine AWP.skip ?_ |refine AWP.exit ?_ |refine AWP.ret ?_))
    · rename_i hi;obtain ⟨w, hw⟩ : ∃ w, C[i]? = some w := ⟨_, List.getElem?_eq_getElem (by omega)⟩;have ww := wC.get hw;refine ⟨AWP.seq (AWP.block (AWP.seqS ?_))⟩;(repeat' (first |refine Fl.v rfl rfl rfl ?_ |refine Fl.nilF ?_ |refine AWP.region ?_));refine ⟨AWP.seqJ (G := Unit) (fun _ => True) (fun _ => St.of [] [(2, .ptr 2 0), (3, .ptr 3 0), (5, aN i), (6, .v (.int .u32 w))] [(2, .cells [aB (decide (x < 0)), aW A] 35), (3, .cells [aB (decide (y < 0)), aW B] 35)]) ?_ ?_⟩
      · (repeat' (first |refine Fl.v rfl rfl rfl ?_ |refine Fl.nilF ?_ |refine AWP.seq ?_ |refine AWP.region ?_ |(refine AWP.condD rfl ?_ ?_ <;> intro _ <;> try (exfalso; omega)) |refine AWP.skip ?_ |(refine Fl.elW rfl rfl rfl rfl rfl rfl rfl rfl (by omega) (by omega) (by assumption) ?_; intro _ _ _ _)|fail))
        · rename_i hi2 v hv hv0 hv1;rw [Int.toNat_natCast] at hv;rw [hC, List.getElem?_append_left (by omega), hv] at hw;injection hw with hw;subst hw;refine JoinOk.of () trivial ?_;refine Ent.of [] ?_ ?_ rfl rfl;(repeat' (first |exact True.intro |refine ⟨⟨AV.Le.refl _, rfl⟩, ?_⟩ |refine ⟨⟨⟨_, rfl, BLe.cells (LeL.refl _)⟩, rfl⟩, ?_⟩|fail))
        · rename_i hi2;rw [hC, List.getElem?_append_right (by omega)] at hw;have hw0 : w = 0 := List.eq_of_mem_replicate (List.mem_of_getElem? hw);refine JoinOk.of () trivial ?_;refine Ent.of [] ?_ ?_ rfl rfl;(repeat' (first |exact True.intro |refine ⟨⟨AV.Le.refl _, rfl⟩, ?_⟩ |refine ⟨⟨⟨_, rfl, BLe.cells (LeL.refl _)⟩, rfl⟩, ?_⟩ |refine ⟨⟨AV.Le.int ?_, rfl⟩, ?_⟩|fail));exact hw0.symm
      · intro _ _;(repeat' (first |refine Fl.v rfl rfl rfl ?_ |refine Fl.nilF ?_ |refine Fl.nil (fun _ => by kernel_rfl) ?_ |refine AWP.seq ?_ |refine AWP.region ?_ |refine Fl.w rfl rfl rfl (by first | exact True.intro | omega) ?_ |(refine AWP.condN rfl ?_ ?_ <;> intro _ <;> try (exfalso; omega)) |refine AWP.skip ?_ |refine AWP.ret ?_ |refine Fl.elK rfl rfl rfl rfl rfl rfl rfl rfl (by assumption) (by omega) ?_ |(refine Fl.elW rfl rfl rfl rfl rfl rfl rfl rfl (by omega) (by omega) (by assumption) ?_; intro _ _ _ _)|fail))
        · rename_i v hv hv0 hv1 hne;rw [Int.toNat_natCast] at hv;refine RetOk.of rfl (AV.Le.bool ?_)
          cases b with
          | false => rfl
          | true => exact absurd ((und_and hv0).2 ((hwords.1 (hb.1 rfl)) i v w hv hw)) (by first | exact hne | exact fun h => hne h)
        · rename_i v hv hv0 hv1 hne;rw [Int.toNat_natCast] at hv;refine LoopEnd.of (i + 1) ⟨by omega, fun j a c hj ha hc => ?_⟩ (by omega) ?_
          · rcases Nat.lt_or_eq_of_le (Nat.le_of_lt_succ hj) with h | h
            · exact h1 j a c h ha hc
            · subst h;rw [hv] at ha;rw [hw] at hc;injection ha with ha;injection hc with hc;subst ha hc;exact (und_and hv0).1 hne
          · refine Ent.of [] ?_ ?_ rfl rfl;(repeat' (first |exact True.intro |refine ⟨⟨AV.Le.refl _, rfl⟩, ?_⟩ |refine ⟨⟨⟨_, rfl, BLe.cells (LeL.refl _)⟩, rfl⟩, ?_⟩|fail))
    · rename_i hi;refine RetOk.of rfl (AV.Le.bool (Eq.symm (hb.2 (hwords.2 fun j a w ha hw => h1 j a w ?_ ha hw))));have := (List.getElem?_eq_some_iff.1 ha).1;omega

theorem inside_ok (a b : Int) : PureFn Tryz.prog 19 [aN a, aN b] (aB (decide (0 ≤ a ∧ 0 ≤ b ∧ a ≤ 300 ∧ b ≤ 300))) := by
  refine PureFn.of_body Tryz.func19 rfl Tryz.ntmps19 rfl rfl ?_;(repeat' (first |refine Fl.v rfl rfl rfl ?_ |refine Fl.nilF ?_ |refine AWP.seq ?_ |refine AWP.region ?_ |refine Fl.skip rfl rfl ?_ |refine AWP.ret ?_ |(refine Fl.splitD rfl rfl ?_ ?_ <;> intro _ <;> try (exfalso; omega))))
  all_goals
    refine RetOk.of rfl (AV.Le.bool ?_)
    first
    | exact (decide_eq_false (by omega)).symm
    | exact (decide_eq_true (by omega)).symm
    | (rw [decide_eq_decide]; omega)
theorem mWitness_arg (a b : Int) (h : ¬ (0 ≤ a ∧ 0 ≤ b ∧ a ≤ 300 ∧ b ≤ 300)) : PureFn Tryz.prog 18 [aN a, aN b] (.tup [.v (.slice none 0 0), aN 2]) := by
  refine PureFn.of_body Tryz.func18 rfl Tryz.ntmps18 rfl rfl ?_;refine AWP.seqS ?_;(repeat' (first |refine Fl.v rfl rfl rfl ?_ |refine Fl.nilF ?_ |refine AWP.region ?_));refine ⟨AWP.seqS ?_⟩;(repeat' (first |refine Fl.v rfl rfl rfl ?_ |refine Fl.nilF ?_ |refine AWP.seq ?_ |refine AWP.region ?_ |refine Fl.skip rfl rfl ?_ |refine AWP.condT rfl ?_ |(refine AWP.condD rfl ?_ ?_ <;> intro _ <;> try (exfalso; omega)) |refine AWP.ret ?_ |(refine Fl.splitD rfl rfl ?_ ?_ <;> intro _ <;> try (exfalso; omega))))
  all_goals exact RetOk.of rfl (AV.Le.refl _)
theorem mWitness_none (a b : Int) (ha : 0 ≤ a) (hb : 0 ≤ b) (ha2 : a ≤ 300) (hb2 : b ≤ 300) (h : ¬ undI a b) : PureFn Tryz.prog 18 [aN a, aN b] (.tup [.v (.slice none 0 0), aN 6]) := by
  refine PureFn.of_body Tryz.func18 rfl Tryz.ntmps18 rfl rfl ?_;have hand : ¬ bitN .andNot a b = 0 := fun k => h (andNot_zero.1 k);refine AWP.seqS ?_;(repeat' (first |refine Fl.v rfl rfl rfl ?_ |refine Fl.nilF ?_ |refine AWP.region ?_));refine ⟨AWP.seqS ?_⟩;(repeat' (first |refine Fl.v rfl rfl rfl ?_ |refine Fl.nilF ?_ |refine AWP.seq ?_ |refine AWP.region ?_ |(refine AWP.condD rfl ?_ ?_ <;> intro _ <;> try (exfalso; omega)) |refine AWP.skip ?_ |(refine Fl.splitD rfl rfl ?_ ?_ <;> intro _ <;> try (exfalso; omega))));refine ⟨AWP.seqS ?_⟩;(repeat' (first |refine Fl.v rfl rfl rfl ?_ |refine Fl.nilF ?_ |refine AWP.seq ?_ |refine AWP.region ?_ |refine Fl.w rfl rfl rfl (by first | exact True.intro | omega) ?_ |(refine AWP.condN rfl ?_ ?_ <;> intro _ <;> try (exfalso; omega)) |refine AWP.ret ?_));exact RetOk.of rfl (AV.Le.refl _)
end Go.Proofs.YtcaecieigoplbaaGreat
/- The reference's numbers of masking. -/
namespace Go.AL
theorem bitl_pow (n : Nat) (hn : 1 ≤ n) : bitl (2 ^ n) = n + 1 ∧ bitl (2 ^ n + 1) = n + 1 := by
  have h1 : 2 ≤ 2 ^ n := by
    have : 2 ^ 1 ≤ 2 ^ n := Nat.pow_le_pow_right (by omega) hn;omega
  have h2 : 2 ^ (n + 1) = 2 * 2 ^ n := by rw [Nat.pow_succ]; omega
  exact ⟨bitl_eq (by omega) (by omega), bitl_eq (by omega) (by omega)⟩
end Go.AL
namespace Go.Proofs.YtcaecieigoplbaaGreat
open Go.AL

theorem mw_fit {a b : Int} (ha : 0 ≤ a) (hb : 0 ≤ b) (ha2 : a ≤ 300) (hb2 : b ≤ 300) : ∀ x ∈ (mw a b).X a b, Fit x := by
  obtain ⟨p1, p2, p3⟩ := mw_pos ha hb;obtain ⟨l1, l2, l3⟩ := mw_le ha hb ha2 hb2;obtain ⟨nb, hnb⟩ : ∃ nb : Nat, nb = (b + 1).toNat := ⟨_, rfl⟩
  have hu : (2 : Int) ^ nb = (mw a b).u := by rw [hnb]; rfl
  have hp : ((mw a b).u + 1) ^ b.toNat = (mw a b).p := rfl;have hq : (mw a b).u ^ a.toNat = (mw a b).q := rfl;have hr : (mw a b).p % (mw a b).q = (mw a b).r := rfl;have hy : (mw a b).p / (mw a b).q / (mw a b).u = (mw a b).y := rfl;have hz : (mw a b).p / (mw a b).q % (mw a b).u / 2 = (mw a b).z := rfl;have hs : (mw a b).q - (mw a b).r - 1 = (mw a b).s := rfl;have ht : (mw a b).u - (mw a b).p / (mw a b).q % (mw a b).u - 1 = (mw a b).t := rfl;have hX : (mw a b).X a b = [a, b, (mw a b).u, (mw a b).p, (mw a b).q, (mw a b).z, (mw a b).y, (mw a b).r, (mw a b).s, (mw a b).t] := rfl;rw [hX]
  generalize mw a b = w at *
  obtain ⟨u, p, q, z, y, r, s, t⟩ := w;simp only at p1 p2 p3 l1 l2 l3 hu hp hq hr hy hz hs ht ⊢;have fa : Fit a := fit_small (by omega) (by omega);have fb : Fit b := fit_small (by omega) (by omega);have fu : Fit u := fit_pow2 (by omega) l1 (by omega)
  have fu1 : Fit (u + 1) := fit_pow2 (m := 302) (by omega) (by
    have : (2 : Int) ^ 302 = 2 * 2 ^ 301 := by rw [Int.pow_succ]; omega
    omega) (by omega)
  have fp : Fit p := fit_pow2 (by omega) l2 (by omega);have fq : Fit q := fit_pow2 (by omega) l3 (by omega);have f2 : Fit 2 := fit_small (by omega) (by omega);clear l1 l2 l3;obtain ⟨fk, fr⟩ := div_fit fp fq (by omega);obtain ⟨fy, fo⟩ := div_fit fk fu (by omega);obtain ⟨fz, fz2⟩ := div_fit fo f2 (by omega);have r0 := Int.emod_nonneg p (show q ≠ 0 by omega);have r1 := Int.emod_lt_of_pos p (show 0 < q by omega);have k0 : 0 ≤ p / q := Int.ediv_nonneg (by omega) (by omega);have o0 := Int.emod_nonneg (p / q) (show u ≠ 0 by omega);have o1 := Int.emod_lt_of_pos (p / q) (show 0 < u by omega);obtain ⟨k, hk⟩ : ∃ k, k = p / q := ⟨_, rfl⟩;obtain ⟨o, ho⟩ : ∃ o, o = k % u := ⟨_, rfl⟩;rw [← hk] at fk fy fo fz fz2 hy hz ht k0 o0 o1;rw [← ho] at fo fz fz2 hz ht o0 o1;rw [hr] at fr r0 r1;rw [hy] at fy;rw [hz] at fz;have fs1 : Fit (q - r) := fq.le (by omega);have fs : Fit s := fq.le (by omega);have ft1 : Fit (u - o) := fu.le (by omega);have ft : Fit t := fu.le (by omega);intro x hx;simp only [List.mem_cons, List.not_mem_nil, or_false] at hx;rcases hx with rfl | rfl | rfl | rfl | rfl | rfl | rfl | rfl | rfl | rfl <;> assumption

set_option maxHeartbeats 1000000 in
theorem rW12_ok (a b : Int) (ha : 0 ≤ a) (hb : 0 ≤ b) (ha2 : a ≤ 300) (hb2 : b ≤ 300) : PureFn Tryz.prog 23 [aN a, aN b] (.tup [.sl 2 eX ((mw a b).X a b), aB true]) := by
  refine PureFn.of_body Tryz.func23 rfl Tryz.ntmps23 rfl rfl ?_;obtain ⟨p1, p2, p3⟩ := mw_pos ha hb;obtain ⟨l1, l2, l3⟩ := mw_le ha hb ha2 hb2;obtain ⟨nb, hnb⟩ : ∃ nb : Nat, nb = (b + 1).toNat := ⟨_, rfl⟩
  have hu : (2 : Int) ^ nb = (mw a b).u := by rw [hnb]; rfl
  have hp : ((mw a b).u + 1) ^ b.toNat = (mw a b).p := rfl;have hq : (mw a b).u ^ a.toNat = (mw a b).q := rfl;have hr : (mw a b).p % (mw a b).q = (mw a b).r := rfl;have hy : (mw a b).p / (mw a b).q / (mw a b).u = (mw a b).y := rfl;have hz : (mw a b).p / (mw a b).q % (mw a b).u / 2 = (mw a b).z := rfl;have hs : (mw a b).q - (mw a b).r - 1 = (mw a b).s := rfl;have ht : (mw a b).u - (mw a b).p / (mw a b).q % (mw a b).u - 1 = (mw a b).t := rfl;have hX : (mw a b).X a b = [a, b, (mw a b).u, (mw a b).p, (mw a b).q, (mw a b).z, (mw a b).y, (mw a b).r, (mw a b).s, (mw a b).t] := rfl;rw [hX]
  generalize mw a b = w at *
  obtain ⟨u, p, q, z, y, r, s, t⟩ := w;simp only at p1 p2 p3 l1 l2 l3 hu hp hq hr hy hz hs ht ⊢;have fa : Fit a := fit_small (by omega) (by omega);have fb : Fit b := fit_small (by omega) (by omega);have fu : Fit u := fit_pow2 (by omega) l1 (by omega)
  have fu1 : Fit (u + 1) := fit_pow2 (m := 302) (by omega) (by
    have : (2 : Int) ^ 302 = 2 * 2 ^ 301 := by rw [Int.pow_succ]; omega
    omega) (by omega)
  have fp : Fit p := fit_pow2 (by omega) l2 (by omega);have fq : Fit q := fit_pow2 (by omega) l3 (by omega);have f2 : Fit 2 := fit_small (by omega) (by omega);clear l1 l2 l3;obtain ⟨fk, fr⟩ := div_fit fp fq (by omega);obtain ⟨fy, fo⟩ := div_fit fk fu (by omega);obtain ⟨fz, fz2⟩ := div_fit fo f2 (by omega);have r0 := Int.emod_nonneg p (show q ≠ 0 by omega);have r1 := Int.emod_lt_of_pos p (show 0 < q by omega);have k0 : 0 ≤ p / q := Int.ediv_nonneg (by omega) (by omega);have o0 := Int.emod_nonneg (p / q) (show u ≠ 0 by omega);have o1 := Int.emod_lt_of_pos (p / q) (show 0 < u by omega);obtain ⟨k, hk⟩ : ∃ k, k = p / q := ⟨_, rfl⟩;obtain ⟨o, ho⟩ : ∃ o, o = k % u := ⟨_, rfl⟩;rw [← hk] at fk fy fo fz fz2 hy hz ht k0 o0 o1;rw [← ho] at fo fz fz2 hz ht o0 o1;rw [hr] at fr r0 r1;rw [hy] at fy;rw [hz] at fz;have fs1 : Fit (q - r) := fq.le (by omega);have fs : Fit s := fq.le (by omega);have ft1 : Fit (u - o) := fu.le (by omega);have ft : Fit t := fu.le (by omega)
  have hun : u.natAbs = 2 ^ nb := by rw [← hu, Int.natAbs_pow]; rfl
  have hun1 : (u + 1).natAbs = 2 ^ nb + 1 := by omega
  obtain ⟨bu, bu1⟩ := bitl_pow nb (by omega)
  have hb2' : (2 : Int) = (bitl (2 : Int).natAbs : Int) := by
    have := (bitl_pow 1 (by omega)).1;show (2 : Int) = ((bitl (2 ^ 1) : Nat) : Int);rw [this]; rfl
  have nlin : ∀ x : Int, 0 ≤ x → x ≤ 300 → x * (nb : Int) ≤ 131072 := fun x h0 h1 => by
    have h2 : x * (nb : Int) ≤ 300 * (nb : Int) := Int.mul_le_mul_of_nonneg_right h1 (by omega);omega
  have e1 := rPower_ok 2 (b + 1) (by omega) f2 (by omega) (by omega) 2 hb2' (by omega);rw [← hnb, hu] at e1;have e2 := rPower_ok (u + 1) b (by omega) fu1 hb (by omega) ((nb : Int) + 1) (by rw [hun1, bu1]; rfl) (by rw [Int.add_sub_cancel]; exact nlin b hb hb2);rw [hp] at e2;have e3 := rPower_ok u a (by omega) fu ha (by omega) ((nb : Int) + 1) (by rw [hun, bu]; rfl) (by rw [Int.add_sub_cancel]; exact nlin a ha ha2);rw [hq] at e3;have lp := fp.lenI;have lq := fq.lenI;have lu := fu.lenI;have lu1 := fu1.lenI;have lk := fk.lenI;have lo := fo.lenI;have lr := fr.lenI;have lqr := fs1.lenI;have luo := ft1.lenI;have l1' : lenI 1 ≤ 1 := lenI_small (by decide);have l2' : lenI 2 ≤ 1 := lenI_small (by decide);have e4 := rDiv_ok p q (by omega) (by omega) (by omega);rw [← hk, hr] at e4;have e5 := rDiv_ok k u (by omega) (by omega) (by omega);rw [← ho, hy] at e5;have e6 := rDiv_ok o 2 (by omega) (by omega) (by omega);rw [hz] at e6;have e7 := rSub_ok q r (by omega) (by omega);have e8 := rSub_ok (q - r) 1 (by omega) (by omega);rw [hs] at e8;have e9 := rSub_ok u o (by omega) (by omega);have e10 := rSub_ok (u - o) 1 (by omega) (by omega);rw [ht] at e10;have e11 := rAdd_ok u 1 (show lenI u ≤ _ by omega) (show lenI 1 ≤ _ by omega);clear hu hp hq hr hy hz hs ht hk ho hun hun1 bu bu1;refine AWP.seqS ?_;(repeat' (first |refine Fl.v rfl rfl rfl ?_ |refine Fl.nilF ?_ |refine AWP.region ?_));refine ⟨AWP.seqS ?_⟩;(repeat' (first |refine AWP.region ?_));refine Fl.call rfl (rOf_ok 2 (by omega) (by omega)) rfl rfl rfl (LeL.refl _) ?_;(repeat' (first |refine Fl.v rfl rfl rfl ?_ |refine Fl.w rfl rfl rfl (by first | exact True.intro | omega) ?_|fail));refine Fl.call rfl (e1) rfl rfl rfl (LeL.refl _) ?_;(repeat' (first |refine Fl.v rfl rfl rfl ?_ |refine Fl.nilF ?_ |refine Fl.b rfl rfl rfl rfl ?_));refine ⟨AWP.seqS ?_⟩;(repeat' (first |refine Fl.v rfl rfl rfl ?_ |refine AWP.region ?_));refine Fl.call rfl (rOf_ok 1 (by omega) (by omega)) rfl rfl rfl (LeL.refl _) ?_;skip;refine Fl.call rfl (e11) rfl rfl rfl (LeL.refl _) ?_;(repeat' (first |refine Fl.v rfl rfl rfl ?_));refine Fl.call rfl (e2) rfl rfl rfl (LeL.refl _) ?_;(repeat' (first |refine Fl.v rfl rfl rfl ?_ |refine Fl.nil (fun _ => by kernel_rfl) ?_ |refine Fl.b rfl rfl rfl rfl ?_));refine ⟨AWP.seqS ?_⟩;(repeat' (first |refine Fl.v rfl rfl rfl ?_ |refine AWP.region ?_));refine Fl.call rfl (e3) rfl rfl rfl (LeL.refl _) ?_;(repeat' (first |refine Fl.v rfl rfl rfl ?_ |refine Fl.nilF ?_ |refine Fl.b rfl rfl rfl rfl ?_));refine ⟨AWP.seqS ?_⟩;(repeat' (first |refine Fl.v rfl rfl rfl ?_ |refine AWP.region ?_));refine Fl.call rfl (e4) rfl rfl rfl (LeL.refl _) ?_;(repeat' (first |refine Fl.v rfl rfl rfl ?_ |refine Fl.nilF ?_ |refine Fl.b rfl rfl rfl rfl ?_));refine ⟨AWP.seqS ?_⟩;(repeat' (first |refine Fl.v rfl rfl rfl ?_ |refine AWP.region ?_));refine Fl.call rfl (e5) rfl rfl rfl (LeL.refl _) ?_;(repeat' (first |refine Fl.v rfl rfl rfl ?_ |refine Fl.nilF ?_ |refine Fl.b rfl rfl rfl rfl ?_));refine ⟨AWP.seqS ?_⟩;(repeat' (first |refine Fl.v rfl rfl rfl ?_ |refine AWP.region ?_));refine Fl.call rfl (rOf_ok 2 (by omega) (by omega)) rfl rfl rfl (LeL.refl _) ?_;skip;refine Fl.call rfl (e6) rfl rfl rfl (LeL.refl _) ?_;(repeat' (first |refine Fl.v rfl rfl rfl ?_ |refine Fl.nil (fun _ => by kernel_rfl) ?_ |refine Fl.b rfl rfl rfl rfl ?_));refine ⟨AWP.seqS ?_⟩;(repeat' (first |refine Fl.v rfl rfl rfl ?_ |refine AWP.region ?_));refine Fl.call rfl (e7) rfl rfl rfl (LeL.refl _) ?_;skip;refine Fl.call rfl (rOf_ok 1 (by omega) (by omega)) rfl rfl rfl (LeL.refl _) ?_;skip;refine Fl.call rfl (e8) rfl rfl rfl (LeL.refl _) ?_;(repeat' (first |refine Fl.nilF ?_ |refine Fl.b rfl rfl rfl rfl ?_));refine ⟨AWP.seqS ?_⟩;(repeat' (first |refine Fl.v rfl rfl rfl ?_ |refine AWP.region ?_));refine Fl.call rfl (e9) rfl rfl rfl (LeL.refl _) ?_;skip;refine Fl.call rfl (rOf_ok 1 (by omega) (by omega)) rfl rfl rfl (LeL.refl _) ?_;skip;refine Fl.call rfl (e10) rfl rfl rfl (LeL.refl _) ?_;(repeat' (first |refine Fl.nilF ?_ |refine Fl.b rfl rfl rfl rfl ?_));refine ⟨?_⟩
  have hall : ∀ x ∈ [a, b, u, p, q, z, y, r, s, t], Fit x := by
    intro x hx;simp only [List.mem_cons, List.not_mem_nil, or_false] at hx;rcases hx with rfl | rfl | rfl | rfl | rfl | rfl | rfl | rfl | rfl | rfl <;> assumption
  obtain ⟨L, hL⟩ : ∃ L, L = [a, b, u, p, q, z, y, r, s, t] := ⟨_, rfl⟩
  have hLl : L.length = 10 := by rw [hL]; rfl
  rw [← hL] at hall ⊢;refine AWP.seqJ (G := Unit) (fun _ => True) (fun _ => St.of [] [(20, .sl 2 eX L)] []) ?_ ?_
  · (repeat' (first |refine Fl.v rfl rfl rfl ?_ |refine AWP.region ?_));refine Fl.call rfl (rOf_ok a (by omega) (by omega)) rfl rfl rfl (LeL.refl _) ?_;(repeat' (first |refine Fl.v rfl rfl rfl ?_));refine Fl.call rfl (rOf_ok b (by omega) (by omega)) rfl rfl rfl (LeL.refl _) ?_;(repeat' (first |refine Fl.v rfl rfl rfl ?_));refine Fl.lit rfl rfl rfl rfl rfl eX [a, b, u, p, q, z, y, r, s, t] rfl rfl rfl rfl (by intro _ _; rfl) rfl ?_;(repeat' (first |refine Fl.v rfl rfl rfl ?_ |refine Fl.nil (fun _ => by kernel_rfl) ?_|fail));refine JoinOk.of () trivial ?_;refine Ent.of [] ?_ ?_ rfl rfl;(repeat' (first |exact True.intro |refine ⟨⟨AV.Le.sl ?_, rfl⟩, ?_⟩|fail));exact hL.symm
  intro _ _;(repeat' (first |refine Fl.v rfl rfl rfl ?_ |refine Fl.nilF ?_ |refine AWP.seq ?_ |refine AWP.region ?_ |refine AWP.block ?_));refine AWP.loop (G := Nat) (fun i => i ≤ 10) (fun i => St.of [] [(20, .sl 2 eX L), (21, aN i)] []) (fun i => 10 - i) 0 (by omega) ?_ ?_
  · refine Ent.of [] ?_ ?_ rfl rfl;(repeat' (first |exact True.intro |refine ⟨⟨AV.Le.refl _, rfl⟩, ?_⟩|fail))
  · intro i hi;(repeat' (first |refine Fl.v rfl rfl rfl ?_ |refine Fl.nilF ?_ |refine AWP.seq ?_ |refine AWP.region ?_ |(refine AWP.condD rfl ?_ ?_ <;> intro _ <;> try (exfalso; omega)) |refine AWP.block ?_ |refine AWP.skip ?_ |refine AWP.exit ?_ |refine AWP.ret ?_ |(refine Fl.el rfl rfl rfl rfl rfl rfl rfl rfl (by omega) (by omega) ?_; intro _ _)|fail))
    · rename_i hi2 x hx;have hf := rFits_ok x;rw [decide_eq_true (hall x (List.mem_of_getElem? hx))] at hf;refine Fl.call rfl (hf) rfl rfl rfl (LeL.refl _) ?_;(repeat' (first |refine Fl.v rfl rfl rfl ?_ |refine Fl.nilF ?_ |refine AWP.region ?_ |refine Fl.w rfl rfl rfl (by first | exact True.intro | omega) ?_ |refine AWP.condF rfl ?_ |refine AWP.skip ?_));refine LoopEnd.of (i + 1) (by omega) (by omega) ?_;refine Ent.of [] ?_ ?_ rfl rfl;(repeat' (first |exact True.intro |refine ⟨⟨AV.Le.refl _, rfl⟩, ?_⟩|fail))
    · exact RetOk.of rfl (AV.Le.refl _)
end Go.Proofs.YtcaecieigoplbaaGreat
/- Binomial coefficients: plain. -/
namespace Go.AL
def ch : Nat → Nat → Nat
  | _, 0 => 1
  | 0, _ + 1 => 0
  | n + 1, k + 1 => ch n k + ch n (k + 1)
theorem ch_zero (n : Nat) : ch n 0 = 1 := by cases n <;> rfl
theorem ch_succ (n k : Nat) : ch (n + 1) (k + 1) = ch n k + ch n (k + 1) := rfl
theorem ch_zero_succ (k : Nat) : ch 0 (k + 1) = 0 := rfl
theorem ch_le : ∀ n k : Nat, ch n k ≤ 2 ^ n
  | n, 0 => by rw [ch_zero]; exact Nat.one_le_two_pow
  | 0, k + 1 => by simp [ch]
  | n + 1, k + 1 => by
    have h1 := ch_le n k;have h2 := ch_le n (k + 1);rw [ch_succ, Nat.pow_succ]; omega
/-- parity, digit by digit -/
theorem ch_par : ∀ n k : Nat, ch (2 * n) (2 * k) % 2 = ch n k % 2 ∧ ch (2 * n) (2 * k + 1) % 2 = 0 ∧ ch (2 * n + 1) (2 * k) % 2 = ch n k % 2 ∧ ch (2 * n + 1) (2 * k + 1) % 2 = ch n k % 2
  | 0, 0 => by simp [ch]
  | 0, k + 1 => by
    rw [show 2 * 0 = 0 from rfl, show 2 * (k + 1) = 2 * k + 1 + 1 by omega];simp [ch]
  | n + 1, k => by
    have key : ∀ k : Nat, ch (2 * (n + 1)) (2 * k) % 2 = ch (n + 1) k % 2 ∧ ch (2 * (n + 1)) (2 * k + 1) % 2 = 0 := by
      intro k;rw [show 2 * (n + 1) = 2 * n + 1 + 1 by omega];obtain ⟨h1, h2, h3, h4⟩ := ch_par n k;constructor
      · cases k with
        | zero => simp [ch_zero]
        | succ k =>
          obtain ⟨g1, g2, g3, g4⟩ := ch_par n k;rw [show 2 * (k + 1) = 2 * k + 1 + 1 by omega] at h3 ⊢;rw [ch_succ (2 * n + 1), ch_succ n k];omega
      · rw [ch_succ (2 * n + 1) (2 * k)];omega
    obtain ⟨h1, h2⟩ := key k;refine ⟨h1, h2, ?_, ?_⟩
    · cases k with
      | zero => simp [ch_zero]
      | succ k =>
        have g := (key k).2;rw [show 2 * (k + 1) = 2 * k + 1 + 1 by omega] at h1 ⊢;rw [ch_succ (2 * (n + 1)) (2 * k + 1)];omega
    · rw [ch_succ (2 * (n + 1)) (2 * k)];omega
theorem ch_odd : ∀ (n k : Nat), ch n k % 2 = 1 ↔ ∀ i, k.testBit i = true → n.testBit i = true := by
  intro n
  induction n using Nat.strongRecOn with
  | _ n ih =>
    intro k;by_cases hn : n = 0
    · subst hn
      cases k with
      | zero => simp [ch]
      | succ k =>
        simp only [ch_zero_succ, Nat.zero_testBit];constructor
        · intro h; omega
        · intro h;obtain ⟨i, hi⟩ := Nat.exists_testBit_of_ne_zero (show k + 1 ≠ 0 by omega);have := h i hi; cases this
    · have h := ih (n / 2) (by omega) (k / 2);obtain ⟨p1, p2, p3, p4⟩ := ch_par (n / 2) (k / 2)
      have split : (∀ i, k.testBit i = true → n.testBit i = true) ↔ (k % 2 = 1 → n % 2 = 1) ∧ ∀ i, (k / 2).testBit i = true → (n / 2).testBit i = true := by
        constructor
        · intro h;refine ⟨fun hk => ?_, fun i hi => ?_⟩
          · have := h 0;simp only [Nat.testBit_zero, decide_eq_true_eq] at this;exact this hk
          · have := h (i + 1);simp only [Nat.testBit_succ] at this;exact this hi
        · rintro ⟨h0, h1⟩ i hi
          cases i with
          | zero =>
            simp only [Nat.testBit_zero, decide_eq_true_eq] at hi ⊢;exact h0 hi
          | succ i =>
            simp only [Nat.testBit_succ] at hi ⊢;exact h1 i hi
      rw [split, ← h]
      have en : n = 2 * (n / 2) + n % 2 := by omega
      have ek : k = 2 * (k / 2) + k % 2 := by omega
      rcases Nat.mod_two_eq_zero_or_one n with hn2 | hn2 <;> rcases Nat.mod_two_eq_zero_or_one k with hk2 | hk2
      · rw [hn2] at en; rw [hk2] at ek;rw [show ch n k = ch (2 * (n / 2)) (2 * (k / 2)) by rw [← show n = 2 * (n / 2) from en, ← show k = 2 * (k / 2) from ek]];omega
      · rw [hn2] at en; rw [hk2] at ek;rw [show ch n k = ch (2 * (n / 2)) (2 * (k / 2) + 1) by rw [← show n = 2 * (n / 2) from en, ← ek]];omega
      · rw [hn2] at en; rw [hk2] at ek;rw [show ch n k = ch (2 * (n / 2) + 1) (2 * (k / 2)) by rw [← en, ← show k = 2 * (k / 2) from ek]];omega
      · rw [hn2] at en; rw [hk2] at ek;rw [show ch n k = ch (2 * (n / 2) + 1) (2 * (k / 2) + 1) by rw [← en, ← ek]];omega
/-- the powers of u + 1, cut at a digit -/
def binS (u n : Nat) : Nat → Nat
  | 0 => 0
  | k + 1 => binS u n k + ch n k * u ^ k
theorem binS_succ (u n : Nat) : ∀ k : Nat, binS u (n + 1) (k + 1) = binS u n (k + 1) + u * binS u n k
  | 0 => by simp [binS, ch_zero]
  | k + 1 => by
    have ih := binS_succ u n k;rw [binS, ih, ch_succ]
    conv => rhs; rw [binS]
    rw [show binS u n (k + 1) = binS u n k + ch n k * u ^ k from rfl, Nat.pow_succ];grind
theorem bin_split (u : Nat) : ∀ n k : Nat, ∃ h, (u + 1) ^ n = binS u n k + u ^ k * h
  | n, 0 => ⟨(u + 1) ^ n, by simp [binS]⟩
  | 0, k + 1 => ⟨0, by
    have : ∀ k : Nat, binS u 0 (k + 1) = 1 := by
      intro k
      induction k with
      | zero => simp [binS, ch]
      | succ k ih => rw [binS, ih]; simp [ch]
    rw [this]; simp⟩
  | n + 1, k + 1 => by
    obtain ⟨h1, e1⟩ := bin_split u n k;obtain ⟨h2, e2⟩ := bin_split u n (k + 1);refine ⟨h1 + h2, ?_⟩;rw [binS_succ, Nat.pow_succ (u + 1) n, Nat.mul_add, Nat.mul_one]
    conv => lhs; rw [e2]
    have e3 : (u + 1) ^ n = binS u n (k + 1) + u ^ (k + 1) * h2 := e2
    have e4 : (binS u n (k + 1) + u ^ (k + 1) * h2) * u = (binS u n k + u ^ k * h1) * u := by rw [← e2, e1]
    rw [e4, Nat.pow_succ];grind
theorem binS_lt {u n : Nat} (hu : 2 ^ n < u) : ∀ k : Nat, binS u n k < u ^ k
  | 0 => by simp [binS]
  | k + 1 => by
    have ih := binS_lt hu k;have hc := ch_le n k;have h1 : (ch n k + 1) * u ^ k ≤ u * u ^ k := Nat.mul_le_mul_right _ (by omega);rw [binS, Nat.pow_succ, Nat.mul_comm (u ^ k) u];rw [Nat.add_mul] at h1;omega
/-- a digit of a power of u + 1 -/
theorem bin_digit {u n k p o y r : Nat} (hu : 2 ^ n < u) (hp : p = (u + 1) ^ n) (he : p = (o + u * y) * u ^ k + r) (hr : r < u ^ k) (ho : o < u) : o = ch n k := by
  obtain ⟨h, e1⟩ := bin_split u n k;obtain ⟨h', e2⟩ := bin_split u n (k + 1);have l1 := binS_lt hu k;have hc := ch_le n k;have hpos : 0 < u ^ k := Nat.pow_pos (by omega)
  have d1 : p / u ^ k = o + u * y := by rw [he, Nat.add_comm, Nat.add_mul_div_right _ _ hpos, Nat.div_eq_of_lt hr, Nat.zero_add]
  have d2 : p / u ^ k = ch n k + u * h' := by
    rw [hp, e2, binS, Nat.pow_succ]
    have e3 : binS u n k + ch n k * u ^ k + u ^ k * u * h' = binS u n k + (ch n k + u * h') * u ^ k := by grind
    rw [e3, Nat.add_mul_div_right _ _ hpos, Nat.div_eq_of_lt l1, Nat.zero_add]
  have m1 : (o + u * y) % u = o := by rw [Nat.add_mul_mod_self_left, Nat.mod_eq_of_lt ho]
  have m2 : (ch n k + u * h') % u = ch n k := by rw [Nat.add_mul_mod_self_left, Nat.mod_eq_of_lt (by omega)]
  rw [← m1, ← d1, d2, m2]
end Go.AL
/- Digits of binomial coefficients under digits: plain. -/
namespace Go.AL
theorem und_bits (a b : Nat) : undI a b ↔ ∀ i, a.testBit i = true → b.testBit i = true := by
  unfold undI;simp only [Int.toNat_natCast];constructor
  · intro h i hi;rw [← h, Nat.testBit_and] at hi;simp only [Bool.and_eq_true] at hi;exact hi.2
  · intro h;apply Nat.eq_of_testBit_eq;intro i;rw [Nat.testBit_and]
    cases ha : a.testBit i with
    | false => rfl
    | true => simp [h i ha]
theorem ch_und (b a : Nat) : ch b a % 2 = 1 ↔ undI a b := by rw [und_bits]; exact ch_odd b a
/-- what the quotients are -/
theorem mask_digit {a b u p q : Nat} (hu : u = 2 ^ (b + 1)) (hp : p = (u + 1) ^ b) (hq : q = u ^ a) : p / q % u = ch b a ∧ ch b a < u := by
  have hub : 2 ^ b < u := by rw [hu, Nat.pow_succ]; have := Nat.two_pow_pos b; omega
  have hqp : 0 < q := by rw [hq]; exact Nat.pow_pos (by omega)
  have hup : 0 < u := by omega
  refine ⟨?_, by have := ch_le b a; omega⟩;refine bin_digit (u := u) (n := b) (k := a) (p := p) (y := p / q / u) (r := p % q) hub hp ?_ (by rw [← hq]; exact Nat.mod_lt _ hqp) (Nat.mod_lt _ hup);rw [← hq, Nat.mod_add_div (p / q) u, Nat.mul_comm, Nat.div_add_mod]
/-- where a is under b, there are such numbers -/
theorem mask_found {a b u p q : Nat} (hu : u = 2 ^ (b + 1)) (hp : p = (u + 1) ^ b) (hq : q = u ^ a) (h : undI a b) :
    p = (2 * (p / q % u / 2) + 1 + u * (p / q / u)) * q + p % q ∧ q = p % q + (q - p % q - 1) + 1 ∧ u = 2 * (p / q % u / 2) + 1 + 1 + (u - p / q % u - 1) := by
  obtain ⟨h1, h2⟩ := mask_digit hu hp hq;have hodd := (ch_und b a).2 h
  have hqp : 0 < q := by rw [hq]; exact Nat.pow_pos (by omega)
  have e : 2 * (p / q % u / 2) + 1 = p / q % u := by rw [h1]; omega
  have hl := Nat.mod_lt p hqp;refine ⟨?_, by omega, by omega⟩;rw [e, Nat.mod_add_div (p / q) u, Nat.mul_comm, Nat.div_add_mod]
end Go.AL
/- MaskOnly, MaskFound. -/
namespace Go.AL
theorem mask_found_int {a b : Int} (ha : 0 ≤ a) (hb : 0 ≤ b) (h : undI a b) : MaskEq a b (mw a b).u (mw a b).p (mw a b).q (mw a b).z (mw a b).y (mw a b).r (mw a b).s (mw a b).t ∧ ∀ x ∈ (mw a b).X a b, 0 ≤ x := by
  obtain ⟨p1, p2, p3⟩ := mw_pos ha hb;obtain ⟨u, hu⟩ : ∃ u : Nat, (mw a b).u = u := ⟨_, (Int.toNat_of_nonneg (show 0 ≤ (mw a b).u by omega)).symm⟩;obtain ⟨p, hp⟩ : ∃ p : Nat, (mw a b).p = p := ⟨_, (Int.toNat_of_nonneg (show 0 ≤ (mw a b).p by omega)).symm⟩;obtain ⟨q, hq⟩ : ∃ q : Nat, (mw a b).q = q := ⟨_, (Int.toNat_of_nonneg (show 0 ≤ (mw a b).q by omega)).symm⟩;obtain ⟨a, rfl⟩ := Int.eq_ofNat_of_zero_le ha;obtain ⟨b, rfl⟩ := Int.eq_ofNat_of_zero_le hb
  have f0 : ((b : Int) + 1).toNat = b + 1 := by omega
  have e1 : (2 : Int) ^ ((b : Int) + 1).toNat = u := hu;have e2 : ((mw (a : Int) b).u + 1) ^ (b : Int).toNat = p := hp;have e3 : (mw (a : Int) b).u ^ (a : Int).toNat = q := hq;rw [f0] at e1;rw [hu, Int.toNat_natCast] at e2 e3
  have k1 : u = 2 ^ (b + 1) := by exact_mod_cast e1.symm
  have k2 : p = (u + 1) ^ b := by exact_mod_cast e2.symm
  have k3 : q = u ^ a := by exact_mod_cast e3.symm
  obtain ⟨o1, o2, o3⟩ := mask_found k1 k2 k3 h
  have hqp : 0 < q := by omega
  have hup : 0 < u := by omega
  have hl := Nat.mod_lt p hqp;have hl2 := Nat.mod_lt (p / q) hup
  have m4 : (mw (a : Int) b).z = ((p / q % u / 2 : Nat) : Int) := by
    show (mw (a : Int) b).p / (mw (a : Int) b).q % (mw (a : Int) b).u / 2 = _;rw [hu, hp, hq]; push_cast; rfl
  have m5 : (mw (a : Int) b).y = ((p / q / u : Nat) : Int) := by
    show (mw (a : Int) b).p / (mw (a : Int) b).q / (mw (a : Int) b).u = _;rw [hu, hp, hq]; push_cast; rfl
  have m6 : (mw (a : Int) b).r = ((p % q : Nat) : Int) := by
    show (mw (a : Int) b).p % (mw (a : Int) b).q = _;rw [hp, hq]; push_cast; rfl
  have m7 : (mw (a : Int) b).s = ((q - p % q - 1 : Nat) : Int) := by
    show (mw (a : Int) b).q - (mw (a : Int) b).r - 1 = _;rw [hq, m6]; omega
  have m8 : (mw (a : Int) b).t = ((u - p / q % u - 1 : Nat) : Int) := by
    show (mw (a : Int) b).u - (mw (a : Int) b).p / (mw (a : Int) b).q % (mw (a : Int) b).u - 1 = _
    have : (mw (a : Int) b).p / (mw (a : Int) b).q % (mw (a : Int) b).u = ((p / q % u : Nat) : Int) := by rw [hu, hp, hq]; push_cast; rfl
    rw [this, hu]; omega
  constructor
  · unfold MaskEq;rw [hu, hp, hq, m4, m5, m6, m7, m8, f0, Int.toNat_natCast, Int.toNat_natCast];refine ⟨⟨by omega, e1⟩, ⟨by omega, by omega, e2⟩, ⟨by omega, by omega, e3⟩, ?_, ?_, ?_⟩
    · exact_mod_cast o1
    · exact_mod_cast o2
    · exact_mod_cast o3
  · unfold MW.X;rw [hu, hp, hq, m4, m5, m6, m7, m8];simp only [List.forall_mem_cons];exact ⟨Int.natCast_nonneg _, Int.natCast_nonneg _, Int.natCast_nonneg _, Int.natCast_nonneg _, Int.natCast_nonneg _, Int.natCast_nonneg _, Int.natCast_nonneg _, Int.natCast_nonneg _, Int.natCast_nonneg _, Int.natCast_nonneg _, by simp⟩
theorem toW_small {x : Nat} (h : x < 4294967296) : (toW (x : Int)).length ≤ 1 := (toW_len_le (by omega) 1).2 (by rw [BB_succ, BB_zero]; omega)
theorem mask_small {a b : Int} (ha : 0 ≤ a) (hb : 0 ≤ b) (ha2 : a ≤ 120) (hb2 : b ≤ 120) (h : undI a b) : ∃ E : Nat, E ≤ 43000 ∧ ∀ x ∈ (mw a b).X a b, x.natAbs ≤ 2 ^ E ∧ Fit x := by
  obtain ⟨h1, h2⟩ := mask_found_int ha hb h;obtain ⟨p1, p2, p3⟩ := mw_pos ha hb;have hu : (mw a b).u ≤ 2 ^ 121 := pow_le_r (by omega) (by omega)
  have hu2 : (mw a b).u + 1 ≤ 2 ^ 122 := by
    have : (2 : Int) ^ 122 = 2 * 2 ^ 121 := by rw [Int.pow_succ]; omega
    omega
  obtain ⟨E, hE⟩ : ∃ E : Nat, E = 15000 := ⟨_, rfl⟩
  have hp : (mw a b).p ≤ 2 ^ E := by
    show ((mw a b).u + 1) ^ b.toNat ≤ _;have h2 : ((mw a b).u + 1) ^ b.toNat ≤ (2 ^ 122) ^ b.toNat := pow_le_l (by omega) hu2 _;rw [← Int.pow_mul] at h2;exact Int.le_trans h2 (pow_le_r (by omega) (by omega))
  have hq : (mw a b).q ≤ 2 ^ E := by
    show (mw a b).u ^ a.toNat ≤ _;have h2 : (mw a b).u ^ a.toNat ≤ (2 ^ 121) ^ a.toNat := pow_le_l (by omega) hu _;rw [← Int.pow_mul] at h2;exact Int.le_trans h2 (pow_le_r (by omega) (by omega))
  have hu3 : (mw a b).u ≤ 2 ^ E := Int.le_trans hu (pow_le_r (by omega) (by omega));have hc : (300 : Int) ≤ 2 ^ E := Int.le_trans (by decide : (300 : Int) ≤ 2 ^ 9) (pow_le_r (by omega) (by omega));obtain ⟨_, _, _, e4, e5, e6⟩ := h1;have hX : (mw a b).X a b = [a, b, (mw a b).u, (mw a b).p, (mw a b).q, (mw a b).z, (mw a b).y, (mw a b).r, (mw a b).s, (mw a b).t] := rfl
  have hy : (mw a b).y ≤ (mw a b).p := by
    show (mw a b).p / (mw a b).q / (mw a b).u ≤ _;exact Int.le_trans (Int.ediv_le_self _ (Int.ediv_nonneg (by omega) (by omega))) (Int.ediv_le_self _ (by omega))
  have hle : ∀ x ∈ (mw a b).X a b, x ≤ 2 ^ E := by
    rw [hX] at h2 ⊢;simp only [List.forall_mem_cons] at h2 ⊢;obtain ⟨g0, g1, g2, g3, g4, g5, g6, g7, g8, g9, _⟩ := h2;exact ⟨by omega, by omega, hu3, hp, hq, by omega, by omega, by omega, by omega, by omega, by simp⟩
  refine ⟨E, by rw [hE]; decide, fun x hx => ?_⟩;have h0 := h2 x hx;have hl := hle x hx;refine ⟨?_, fit_pow2 h0 hl (by omega)⟩
  have h4 : x.natAbs ≤ 2 ^ E := by
    have : ((x.natAbs : Nat) : Int) ≤ ((2 ^ E : Nat) : Int) := by
      rw [Int.natCast_pow];show ((x.natAbs : Nat) : Int) ≤ (2 : Int) ^ E;omega
    exact Int.ofNat_le.1 this
  exact h4
end Go.AL
namespace Go.Proofs.YtcaecieigoplbaaGreat
open Go.AL
theorem mask_yes (a b : Int) (ha : 0 ≤ a) (hb : 0 ≤ b) (ha2 : a ≤ 120) (hb2 : b ≤ 120) (h : undI a b) : PureFn Tryz.prog 25 [aS mkS, .sl 2 eX ((mw a b).X a b)] (.tup [aB true, aN 0]) := by
  obtain ⟨h1, h2⟩ := mask_found_int ha hb h;obtain ⟨E, hE, hs⟩ := mask_small ha hb ha2 hb2 h;exact Holds_yes mkS _ mkS_w mkS_ok (fun x hx => (hs x hx).2) rfl h2 (mk_ev hE rfl fun x hx => (hs x hx).1) ((mk_hol _ _ _ _ _ _ _ _ _ _).2 h1)
theorem awake12_ok : PureFn Tryz.prog 22 [] (aB true) := by
  refine PureFn.of_body Tryz.func22 rfl Tryz.ntmps22 rfl rfl ?_;have u11 : undI 1 1 := rfl
  have u12 : ¬ undI 1 2 := by unfold undI; decide
  have c1 := mWitness_ok 1 1 (by omega) (by omega) (by omega) (by omega) u11;have c2 := mask_yes 1 1 (by omega) (by omega) (by omega) (by omega) u11;obtain ⟨L, hL⟩ : ∃ L, L = (mw 1 1).X 1 1 := ⟨_, rfl⟩
  have hLl : L.length = 10 := by rw [hL]; rfl
  have g3 : L[(3 : Int).toNat]? = some 5 := by rw [hL]; rfl
  have g9 : L[(9 : Int).toNat]? = some 2 := by rw [hL]; rfl
  rw [← hL] at c1 c2;refine AWP.seqS ?_;(repeat' (first |refine Fl.v rfl rfl rfl ?_ |refine Fl.nilF ?_ |refine AWP.region ?_));refine ⟨AWP.seqS ?_⟩;(repeat' (first |refine AWP.region ?_));refine Fl.call rfl (c1) rfl rfl rfl (LeL.refl _) ?_;(repeat' (first |refine Fl.v rfl rfl rfl ?_ |refine Fl.nilF ?_));refine ⟨AWP.seqS ?_⟩;(repeat' (first |refine AWP.region ?_));refine Fl.call rfl (maskLinks_ok) rfl rfl rfl (LeL.refl _) ?_;(repeat' (first |refine Fl.v rfl rfl rfl ?_));refine Fl.call rfl (c2) rfl rfl rfl (LeL.refl _) ?_;(repeat' (first |refine Fl.v rfl rfl rfl ?_ |refine Fl.nilF ?_));refine ⟨AWP.seqS ?_⟩;(repeat' (first |refine AWP.region ?_));refine Fl.call rfl (mWitness_none 1 2 (by omega) (by omega) (by omega) (by omega) u12) rfl rfl rfl (LeL.refl _) ?_;(repeat' (first |refine Fl.v rfl rfl rfl ?_ |refine Fl.nilF ?_));refine ⟨?_⟩;(repeat' (first |refine Fl.v rfl rfl rfl ?_ |refine AWP.seq ?_ |refine AWP.region ?_ |refine Fl.elK rfl rfl rfl rfl rfl rfl rfl rfl (by assumption) (by omega) ?_ |(refine Fl.splitD rfl rfl ?_ ?_ <;> intro _ <;> try (exfalso; omega))));refine Fl.call rfl (rOf_ok 5 (by omega) (by omega)) rfl rfl rfl (LeL.refl _) ?_;skip;refine Fl.call rfl (rSame_ok 5 5 (Nat.le_trans (toW_small (x := 5) (by omega)) (by omega))) rfl rfl rfl (LeL.refl _) ?_;(repeat' (first |refine Fl.v rfl rfl rfl ?_ |refine Fl.elK rfl rfl rfl rfl rfl rfl rfl rfl (by assumption) (by omega) ?_ |(refine Fl.splitD rfl rfl ?_ ?_ <;> intro _ <;> try (exfalso; omega))));refine Fl.call rfl (rOf_ok 2 (by omega) (by omega)) rfl rfl rfl (LeL.refl _) ?_;skip;refine Fl.call rfl (rSame_ok 2 2 (Nat.le_trans (toW_small (x := 2) (by omega)) (by omega))) rfl rfl rfl (LeL.refl _) ?_;(repeat' (first |refine Fl.v rfl rfl rfl ?_ |refine Fl.nil (fun _ => by kernel_rfl) ?_ |refine AWP.ret ?_));exact RetOk.of rfl (AV.Le.refl _)
end Go.Proofs.YtcaecieigoplbaaGreat
namespace Go.Proofs.YtcaecieigoplbaaGreat
open Go.AL

end Go.Proofs.YtcaecieigoplbaaGreat
namespace Go.AL
/-- what a system in memory is -/
def TB (t : TZ) : Prop := ZB t.c
def PB (p : PZ) : Prop := (∀ t ∈ p.terms, TB t) ∧ p.terms.length ≤ maxLen
def LB (l : LZ) : Prop := (∀ p ∈ l.polys, PB p) ∧ l.polys.length ≤ maxLen
def SB (s : SZ) : Prop := ∀ l ∈ s.links, LB l
theorem SB.ws {s : SZ} (h : SB s) : WS s := fun l hl p hp t ht => (((h l hl).1 p hp).1 t ht).1
end Go.AL
namespace Go.Proofs.YtcaecieigoplbaaGreat
open Go.AL Go.ChangeShapes Go.WideShapes Go.ChangeAt Go.RowKit

section
variable {H : Type} {enc : TypeId × Value → H} {w : World} {base : Nat} {spare : Nat → Bool} {held : Bool}
end
end Go.Proofs.YtcaecieigoplbaaGreat
namespace Go.AL
theorem get_eq {α : Type} {a b : List α} (hl : a.length = b.length) (h : ∀ (i : Nat) (x y : α), i < a.length → a[i]? = some x → b[i]? = some y → x = y) : a = b := by
  refine List.ext_getElem? fun i => ?_;by_cases hi : i < a.length
  · rw [List.getElem?_eq_getElem hi, List.getElem?_eq_getElem (by omega)];exact congrArg some (h i _ _ hi (List.getElem?_eq_getElem hi) (List.getElem?_eq_getElem (by omega)))
  · rw [List.getElem?_eq_none (by omega), List.getElem?_eq_none (by omega)]
theorem t_eq {x y : TZ} (h1 : x.c = y.c) (h2 : x.e = y.e) : x = y := by cases x; cases y; simp_all
theorem p_eq {x y : PZ} (h1 : x.vars = y.vars) (h2 : x.terms = y.terms) : x = y := by cases x; cases y; simp_all
theorem l_eq {x y : LZ} (h1 : x.kind = y.kind) (h2 : x.vars = y.vars) (h3 : x.polys = y.polys) : x = y := by cases x; cases y; simp_all
theorem s_eq {x y : SZ} (h1 : x.vars = y.vars) (h2 : x.links = y.links) : x = y := by cases x; cases y; simp_all
/-- words, lengths as the reference's comparison asks for them -/
def SmZ (z : Z) : Prop := WOk z.w ∧ z.w.length ≤ 1000000
def SmT (t : TZ) : Prop := SmZ t.c ∧ t.e.length ≤ 1000000
def SmP (p : PZ) : Prop := p.terms.length ≤ 1000000 ∧ ∀ t ∈ p.terms, SmT t
def SmL (l : LZ) : Prop := l.vars.length ≤ 1000000 ∧ l.polys.length ≤ 1000000 ∧ ∀ p ∈ l.polys, SmP p
def SmS (s : SZ) : Prop := s.links.length ≤ 1000000 ∧ ∀ l ∈ s.links, SmL l
end Go.AL
namespace Go.Proofs.YtcaecieigoplbaaGreat
open Go.AL

theorem rSameZ_ok (x y : Z) (hx : SmZ x) (hy : WOk y.w) (b : Bool) (hb : b = true ↔ x = y) : PureFn Tryz.prog 27 [aZ x, aZ y] (aB b) := by
  refine PureFn.of_body Tryz.func27 rfl Tryz.ntmps27 rfl rfl ?_;obtain ⟨n, w⟩ := x;obtain ⟨m, v⟩ := y;have hsw := sameWords_ok w v hx.2 hx.1 hy
  have hbb : b = (decide (n = m) && decide (w = v)) := by
    rw [Bool.eq_iff_iff, hb]; simp
  (repeat' (first |refine Fl.v rfl rfl rfl ?_ |refine Fl.nilF ?_ |refine AWP.seq ?_ |refine AWP.region ?_ |refine Fl.b rfl rfl rfl rfl ?_ |refine Fl.skip rfl rfl ?_ |refine AWP.ret ?_ |(refine Fl.splitD rfl rfl ?_ ?_ <;> intro _ <;> try (exfalso; omega))))
  · rename_i h;have h : n = m := h;refine Fl.call rfl (hsw) rfl rfl rfl (LeL.refl _) ?_;(repeat' (first |refine Fl.v rfl rfl rfl ?_ |refine Fl.nilF ?_ |refine AWP.ret ?_));exact RetOk.of rfl (AV.Le.bool (by rw [hbb, decide_eq_true h, Bool.true_and]))
  · rename_i h;have h : ¬ n = m := h;exact RetOk.of rfl (AV.Le.bool (by rw [hbb, decide_eq_false h, Bool.false_and]))
theorem rSameE_ok (a b : List Int) (ha : a.length ≤ 1000000) : PureFn Tryz.prog 127 [aI a, aI b] (aB (decide (a = b))) := by
  refine PureFn.of_body Tryz.func127 rfl Tryz.ntmps127 rfl rfl ?_;by_cases hl : a.length = b.length
  · (repeat' (first |refine Fl.v rfl rfl rfl ?_ |refine Fl.nilF ?_ |refine AWP.seq ?_ |refine AWP.region ?_ |(refine AWP.condN rfl ?_ ?_ <;> intro _ <;> try (exfalso; omega)) |refine AWP.block ?_ |refine AWP.skip ?_));refine AWP.loop (G := Nat) (fun i => i ≤ a.length ∧ ∀ (j : Nat) (x y : Int), j < i → a[j]? = some x → b[j]? = some y → x = y) (fun i => St.of [] [(0, aI a), (1, aI b), (5, aN i)] []) (fun i => a.length - i) 0 ⟨by omega, fun j x y h => by omega⟩ ?_ ?_
    · refine Ent.of [] ?_ ?_ rfl rfl;(repeat' (first |exact True.intro |refine ⟨⟨AV.Le.refl _, rfl⟩, ?_⟩|fail))
    · intro i ⟨k0, k1⟩;by_cases hi : i < a.length
      · obtain ⟨x, hx⟩ : ∃ x, a[i]? = some x := ⟨_, List.getElem?_eq_getElem hi⟩;obtain ⟨y, hy⟩ : ∃ y, b[i]? = some y := ⟨_, List.getElem?_eq_getElem (by omega)⟩;(repeat' (first |refine Fl.v rfl rfl rfl ?_ |refine Fl.nilF ?_ |refine Fl.nil (fun _ => by kernel_rfl) ?_ |refine AWP.seq ?_ |refine AWP.region ?_ |refine Fl.w rfl rfl rfl (by first | exact True.intro | omega) ?_ |(refine AWP.condD rfl ?_ ?_ <;> intro _ <;> try (exfalso; omega)) |(refine AWP.condN rfl ?_ ?_ <;> intro _ <;> try (exfalso; omega)) |refine AWP.block ?_ |refine AWP.skip ?_ |refine AWP.ret ?_ |refine Fl.elK rfl rfl rfl rfl rfl rfl rfl rfl (by assumption) (by omega) ?_|fail))
        · rename_i h;refine RetOk.of rfl (AV.Le.bool (Eq.symm (decide_eq_false fun e => h ?_)));subst e; rw [hx] at hy; injection hy
        · rename_i h;refine LoopEnd.of (i + 1) ⟨by omega, fun j u v hj hu hv => ?_⟩ (by omega) ?_
          · by_cases hji : j < i
            · exact k1 j u v hji hu hv
            · have : j = i := by omega
              subst this;rw [hx] at hu; rw [hy] at hv; cases hu; cases hv; exact h
          · refine Ent.of [] ?_ ?_ rfl rfl;(repeat' (first |exact True.intro |refine ⟨⟨AV.Le.refl _, rfl⟩, ?_⟩|fail))
      · (repeat' (first |refine Fl.v rfl rfl rfl ?_ |refine Fl.nilF ?_ |refine AWP.seq ?_ |refine AWP.region ?_ |(refine AWP.condD rfl ?_ ?_ <;> intro _ <;> try (exfalso; omega)) |refine AWP.exit ?_ |refine AWP.ret ?_));exact RetOk.of rfl (AV.Le.bool (Eq.symm (decide_eq_true (get_eq hl fun j x y hj => k1 j x y (by omega)))))
  · (repeat' (first |refine Fl.v rfl rfl rfl ?_ |refine Fl.nilF ?_ |refine AWP.seq ?_ |refine AWP.region ?_ |(refine AWP.condN rfl ?_ ?_ <;> intro _ <;> try (exfalso; omega)) |refine AWP.ret ?_));exact RetOk.of rfl (AV.Le.bool (Eq.symm (decide_eq_false fun e => hl (by rw [e]))))
theorem rSameP_ok (p q : PZ) (hp : SmP p) (hq : WP q) (b : Bool) (hb : b = true ↔ p = q) : PureFn Tryz.prog 54 [aP p, aP q] (aB b) := by
  refine PureFn.of_body Tryz.func54 rfl Tryz.ntmps54 rfl rfl ?_
  have hfalse : ¬ p = q → false = b := fun h => by cases b with | false => rfl | true => exact absurd (hb.1 rfl) h
  have hpl := hp.1;by_cases hv : p.vars = q.vars
  · by_cases hl : p.terms.length = q.terms.length
    · (repeat' (first |refine Fl.v rfl rfl rfl ?_ |refine Fl.nilF ?_ |refine AWP.seq ?_ |refine AWP.region ?_ |refine Fl.b rfl rfl rfl rfl ?_ |(refine AWP.condN rfl ?_ ?_ <;> intro _ <;> try (exfalso; omega)) |refine AWP.block ?_ |refine AWP.skip ?_ |(refine Fl.splitN rfl rfl ?_ ?_ <;> intro _ <;> try (exfalso; omega))));refine AWP.loop (G := Nat) (fun i => i ≤ p.terms.length ∧ ∀ (j : Nat) (x y : TZ), j < i → p.terms[j]? = some x → q.terms[j]? = some y → x = y) (fun i => St.of [] [(2, .ptr 2 0), (3, .ptr 3 0), (5, aN i)] [(2, .cells [aN p.vars, .sl 3 eT p.terms] 70), (3, .cells [aN q.vars, .sl 3 eT q.terms] 70)]) (fun i => p.terms.length - i) 0 ⟨by omega, fun j x y h => by omega⟩ ?_ ?_
      · refine Ent.of [] ?_ ?_ rfl rfl;(repeat' (first |exact True.intro |refine ⟨⟨AV.Le.refl _, rfl⟩, ?_⟩ |refine ⟨⟨⟨_, rfl, BLe.cells (LeL.refl _)⟩, rfl⟩, ?_⟩|fail))
      · intro i ⟨k0, k1⟩;by_cases hi : i < p.terms.length
        · obtain ⟨x, hx⟩ : ∃ x, p.terms[i]? = some x := ⟨_, List.getElem?_eq_getElem hi⟩;obtain ⟨y, hy⟩ : ∃ y, q.terms[i]? = some y := ⟨_, List.getElem?_eq_getElem (by omega)⟩;have hxm := hp.2 x (List.mem_of_getElem? hx);have hym := hq y (List.mem_of_getElem? hy);have hbad : ¬ x = y → false = b := fun h => hfalse fun e => h (by subst e; rw [hx] at hy; injection hy);obtain ⟨f, hf⟩ := boolOf (fun u : Z × Z => u.1 = u.2);have hz := rSameZ_ok x.c y.c hxm.1 hym (f (x.c, y.c)) (hf _);have he := rSameE_ok x.e y.e hxm.2;by_cases hc : x.c = y.c
          · rw [(hf (x.c, y.c)).2 hc] at hz;by_cases hee : x.e = y.e
            · rw [decide_eq_true hee] at he;(repeat' (first |refine Fl.v rfl rfl rfl ?_ |refine Fl.nilF ?_ |refine AWP.seq ?_ |refine AWP.region ?_ |(refine AWP.condD rfl ?_ ?_ <;> intro _ <;> try (exfalso; omega)) |refine AWP.block ?_ |refine AWP.skip ?_ |refine Fl.elK rfl rfl rfl rfl rfl rfl rfl rfl (by assumption) (by omega) ?_|fail));refine Fl.call rfl (hz) rfl rfl rfl (LeL.refl _) ?_;(repeat' (first |refine Fl.v rfl rfl rfl ?_ |refine Fl.elK rfl rfl rfl rfl rfl rfl rfl rfl (by assumption) (by omega) ?_|fail));refine Fl.call rfl (he) rfl rfl rfl (LeL.refl _) ?_;(repeat' (first |refine Fl.v rfl rfl rfl ?_ |refine Fl.nilF ?_ |refine Fl.nil (fun _ => by kernel_rfl) ?_ |refine AWP.region ?_ |refine Fl.w rfl rfl rfl (by first | exact True.intro | omega) ?_ |refine AWP.condF rfl ?_ |refine AWP.skip ?_));refine LoopEnd.of (i + 1) ⟨by omega, fun j u v hj hu hv => ?_⟩ (by omega) ?_
              · by_cases hji : j < i
                · exact k1 j u v hji hu hv
                · have : j = i := by omega
                  subst this;rw [hx] at hu; rw [hy] at hv; cases hu; cases hv; exact t_eq hc hee
              · refine Ent.of [] ?_ ?_ rfl rfl;(repeat' (first |exact True.intro |refine ⟨⟨AV.Le.refl _, rfl⟩, ?_⟩ |refine ⟨⟨⟨_, rfl, BLe.cells (LeL.refl _)⟩, rfl⟩, ?_⟩|fail))
            · rw [decide_eq_false hee] at he;(repeat' (first |refine Fl.v rfl rfl rfl ?_ |refine Fl.nilF ?_ |refine AWP.seq ?_ |refine AWP.region ?_ |(refine AWP.condD rfl ?_ ?_ <;> intro _ <;> try (exfalso; omega)) |refine AWP.block ?_ |refine AWP.skip ?_ |refine Fl.elK rfl rfl rfl rfl rfl rfl rfl rfl (by assumption) (by omega) ?_|fail));refine Fl.call rfl (hz) rfl rfl rfl (LeL.refl _) ?_;(repeat' (first |refine Fl.v rfl rfl rfl ?_ |refine Fl.elK rfl rfl rfl rfl rfl rfl rfl rfl (by assumption) (by omega) ?_|fail));refine Fl.call rfl (he) rfl rfl rfl (LeL.refl _) ?_;(repeat' (first |refine Fl.v rfl rfl rfl ?_ |refine Fl.nilF ?_ |refine Fl.nil (fun _ => by kernel_rfl) ?_ |refine AWP.seq ?_ |refine AWP.region ?_ |refine AWP.condT rfl ?_ |refine AWP.ret ?_));exact RetOk.of rfl (AV.Le.bool (hbad fun e => hee (by rw [e])))
          · rw [show f (x.c, y.c) = false from Bool.eq_false_iff.2 fun h => hc ((hf _).1 h)] at hz;(repeat' (first |refine Fl.v rfl rfl rfl ?_ |refine Fl.nilF ?_ |refine AWP.seq ?_ |refine AWP.region ?_ |(refine AWP.condD rfl ?_ ?_ <;> intro _ <;> try (exfalso; omega)) |refine AWP.block ?_ |refine AWP.skip ?_ |refine Fl.elK rfl rfl rfl rfl rfl rfl rfl rfl (by assumption) (by omega) ?_|fail));refine Fl.call rfl (hz) rfl rfl rfl (LeL.refl _) ?_;(repeat' (first |refine Fl.v rfl rfl rfl ?_ |refine Fl.nilF ?_ |refine Fl.nil (fun _ => by kernel_rfl) ?_ |refine AWP.seq ?_ |refine AWP.region ?_ |refine Fl.skip rfl rfl ?_ |refine AWP.condT rfl ?_ |refine AWP.ret ?_));exact RetOk.of rfl (AV.Le.bool (hbad fun e => hc (by rw [e])))
        · (repeat' (first |refine Fl.v rfl rfl rfl ?_ |refine Fl.nilF ?_ |refine AWP.seq ?_ |refine AWP.region ?_ |(refine AWP.condD rfl ?_ ?_ <;> intro _ <;> try (exfalso; omega)) |refine AWP.exit ?_ |refine AWP.ret ?_));exact RetOk.of rfl (AV.Le.bool (Eq.symm (hb.2 (p_eq hv (get_eq hl fun j x y hj => k1 j x y (by omega))))))
    · (repeat' (first |refine Fl.v rfl rfl rfl ?_ |refine Fl.nilF ?_ |refine AWP.seq ?_ |refine AWP.region ?_ |refine Fl.b rfl rfl rfl rfl ?_ |(refine AWP.condN rfl ?_ ?_ <;> intro _ <;> try (exfalso; omega)) |refine AWP.ret ?_ |(refine Fl.splitN rfl rfl ?_ ?_ <;> intro _ <;> try (exfalso; omega))));exact RetOk.of rfl (AV.Le.bool (hfalse fun e => hl (by rw [e])))
  · (repeat' (first |refine Fl.v rfl rfl rfl ?_ |refine Fl.nilF ?_ |refine AWP.seq ?_ |refine AWP.region ?_ |refine Fl.b rfl rfl rfl rfl ?_ |refine Fl.skip rfl rfl ?_ |refine AWP.condT rfl ?_ |refine AWP.ret ?_ |(refine Fl.splitN rfl rfl ?_ ?_ <;> intro _ <;> try (exfalso; omega))));exact RetOk.of rfl (AV.Le.bool (hfalse fun e => hv (by rw [e])))
theorem rSameL_ok (p q : LZ) (hp : SmL p) (hq : WL q) (b : Bool) (hb : b = true ↔ p = q) : PureFn Tryz.prog 62 [aL p, aL q] (aB b) := by
  refine PureFn.of_body Tryz.func62 rfl Tryz.ntmps62 rfl rfl ?_
  have hfalse : ¬ p = q → false = b := fun h => by cases b with | false => rfl | true => exact absurd (hb.1 rfl) h
  obtain ⟨g1, g2, g3⟩ := hp;have he := rSameE_ok p.vars q.vars g1;by_cases hk : p.kind = q.kind
  · by_cases hv : p.vars = q.vars
    · rw [decide_eq_true hv] at he;by_cases hl : p.polys.length = q.polys.length
      · (repeat' (first |refine Fl.v rfl rfl rfl ?_ |refine Fl.nilF ?_ |refine AWP.seq ?_ |refine AWP.region ?_ |refine Fl.b rfl rfl rfl rfl ?_ |(refine Fl.splitN rfl rfl ?_ ?_ <;> intro _ <;> try (exfalso; omega))));refine Fl.call rfl (he) rfl rfl rfl (LeL.refl _) ?_;(repeat' (first |refine Fl.v rfl rfl rfl ?_ |refine Fl.nilF ?_ |refine AWP.seq ?_ |refine AWP.region ?_ |(refine AWP.condN rfl ?_ ?_ <;> intro _ <;> try (exfalso; omega)) |refine AWP.block ?_ |refine AWP.skip ?_));refine AWP.loop (G := Nat) (fun i => i ≤ p.polys.length ∧ ∀ (j : Nat) (x y : PZ), j < i → p.polys[j]? = some x → q.polys[j]? = some y → x = y) (fun i => St.of [] [(2, .ptr 2 0), (3, .ptr 3 0), (5, aN i)] [(2, .cells (eL p) 82), (3, .cells (eL q) 82)]) (fun i => p.polys.length - i) 0 ⟨by omega, fun j x y h => by omega⟩ ?_ ?_
        · refine Ent.of [] ?_ ?_ rfl rfl;(repeat' (first |exact True.intro |refine ⟨⟨AV.Le.refl _, rfl⟩, ?_⟩ |refine ⟨⟨⟨_, rfl, BLe.cells (LeL.refl _)⟩, rfl⟩, ?_⟩|fail))
        · intro i ⟨k0, k1⟩;by_cases hi : i < p.polys.length
          · obtain ⟨x, hx⟩ : ∃ x, p.polys[i]? = some x := ⟨_, List.getElem?_eq_getElem hi⟩;obtain ⟨y, hy⟩ : ∃ y, q.polys[i]? = some y := ⟨_, List.getElem?_eq_getElem (by omega)⟩;have hxm := g3 x (List.mem_of_getElem? hx);have hym := hq y (List.mem_of_getElem? hy);obtain ⟨f, hf⟩ := boolOf (fun u : PZ × PZ => u.1 = u.2);have hz := rSameP_ok x y hxm hym (f (x, y)) (hf _);by_cases hc : x = y
            · rw [(hf (x, y)).2 hc] at hz;(repeat' (first |refine Fl.v rfl rfl rfl ?_ |refine Fl.nilF ?_ |refine AWP.seq ?_ |refine AWP.region ?_ |(refine AWP.condD rfl ?_ ?_ <;> intro _ <;> try (exfalso; omega)) |refine AWP.block ?_ |refine AWP.skip ?_ |refine Fl.elK rfl rfl rfl rfl rfl rfl rfl rfl (by assumption) (by omega) ?_|fail));refine Fl.call rfl (hz) rfl rfl rfl (LeL.refl _) ?_;(repeat' (first |refine Fl.v rfl rfl rfl ?_ |refine Fl.nilF ?_ |refine Fl.nil (fun _ => by kernel_rfl) ?_ |refine AWP.region ?_ |refine Fl.w rfl rfl rfl (by first | exact True.intro | omega) ?_ |refine AWP.condF rfl ?_ |refine AWP.skip ?_));refine LoopEnd.of (i + 1) ⟨by omega, fun j u v hj hu hv => ?_⟩ (by omega) ?_
              · by_cases hji : j < i
                · exact k1 j u v hji hu hv
                · have : j = i := by omega
                  subst this;rw [hx] at hu; rw [hy] at hv; cases hu; cases hv; exact hc
              · refine Ent.of [] ?_ ?_ rfl rfl;(repeat' (first |exact True.intro |refine ⟨⟨AV.Le.refl _, rfl⟩, ?_⟩ |refine ⟨⟨⟨_, rfl, BLe.cells (LeL.refl _)⟩, rfl⟩, ?_⟩|fail))
            · rw [show f (x, y) = false from Bool.eq_false_iff.2 fun h => hc ((hf _).1 h)] at hz;(repeat' (first |refine Fl.v rfl rfl rfl ?_ |refine Fl.nilF ?_ |refine AWP.seq ?_ |refine AWP.region ?_ |(refine AWP.condD rfl ?_ ?_ <;> intro _ <;> try (exfalso; omega)) |refine AWP.block ?_ |refine AWP.skip ?_ |refine Fl.elK rfl rfl rfl rfl rfl rfl rfl rfl (by assumption) (by omega) ?_|fail));refine Fl.call rfl (hz) rfl rfl rfl (LeL.refl _) ?_;(repeat' (first |refine Fl.v rfl rfl rfl ?_ |refine Fl.nilF ?_ |refine Fl.nil (fun _ => by kernel_rfl) ?_ |refine AWP.seq ?_ |refine AWP.region ?_ |refine AWP.condT rfl ?_ |refine AWP.ret ?_));exact RetOk.of rfl (AV.Le.bool (hfalse fun e => hc (by subst e; rw [hx] at hy; injection hy)))
          · (repeat' (first |refine Fl.v rfl rfl rfl ?_ |refine Fl.nilF ?_ |refine AWP.seq ?_ |refine AWP.region ?_ |(refine AWP.condD rfl ?_ ?_ <;> intro _ <;> try (exfalso; omega)) |refine AWP.exit ?_ |refine AWP.ret ?_));exact RetOk.of rfl (AV.Le.bool (Eq.symm (hb.2 (l_eq hk hv (get_eq hl fun j x y hj => k1 j x y (by omega))))))
      · (repeat' (first |refine Fl.v rfl rfl rfl ?_ |refine Fl.nilF ?_ |refine AWP.seq ?_ |refine AWP.region ?_ |refine Fl.b rfl rfl rfl rfl ?_ |(refine Fl.splitN rfl rfl ?_ ?_ <;> intro _ <;> try (exfalso; omega))));refine Fl.call rfl (he) rfl rfl rfl (LeL.refl _) ?_;(repeat' (first |refine Fl.v rfl rfl rfl ?_ |refine Fl.nilF ?_ |refine AWP.seq ?_ |refine AWP.region ?_ |(refine AWP.condN rfl ?_ ?_ <;> intro _ <;> try (exfalso; omega)) |refine AWP.ret ?_));exact RetOk.of rfl (AV.Le.bool (hfalse fun e => hl (by rw [e])))
    · rw [decide_eq_false hv] at he;(repeat' (first |refine Fl.v rfl rfl rfl ?_ |refine Fl.nilF ?_ |refine AWP.seq ?_ |refine AWP.region ?_ |refine Fl.b rfl rfl rfl rfl ?_ |(refine Fl.splitN rfl rfl ?_ ?_ <;> intro _ <;> try (exfalso; omega))));refine Fl.call rfl (he) rfl rfl rfl (LeL.refl _) ?_;(repeat' (first |refine Fl.v rfl rfl rfl ?_ |refine Fl.nilF ?_ |refine AWP.seq ?_ |refine AWP.region ?_ |refine Fl.skip rfl rfl ?_ |refine AWP.condT rfl ?_ |refine AWP.ret ?_));exact RetOk.of rfl (AV.Le.bool (hfalse fun e => hv (by rw [e])))
  · (repeat' (first |refine Fl.v rfl rfl rfl ?_ |refine Fl.nilF ?_ |refine AWP.seq ?_ |refine AWP.region ?_ |refine Fl.b rfl rfl rfl rfl ?_ |refine Fl.skip rfl rfl ?_ |refine AWP.condT rfl ?_ |refine AWP.ret ?_ |(refine Fl.splitN rfl rfl ?_ ?_ <;> intro _ <;> try (exfalso; omega))));exact RetOk.of rfl (AV.Le.bool (hfalse fun e => hk (by rw [e])))
theorem rSameS_ok (p q : SZ) (hp : SmS p) (hq : WS q) (b : Bool) (hb : b = true ↔ p = q) : PureFn Tryz.prog 15 [aS p, aS q] (aB b) := by
  refine PureFn.of_body Tryz.func15 rfl Tryz.ntmps15 rfl rfl ?_
  have hfalse : ¬ p = q → false = b := fun h => by cases b with | false => rfl | true => exact absurd (hb.1 rfl) h
  have hpl := hp.1;by_cases hv : p.vars = q.vars
  · by_cases hl : p.links.length = q.links.length
    · (repeat' (first |refine Fl.v rfl rfl rfl ?_ |refine Fl.nilF ?_ |refine AWP.seq ?_ |refine AWP.region ?_ |refine Fl.b rfl rfl rfl rfl ?_ |(refine AWP.condN rfl ?_ ?_ <;> intro _ <;> try (exfalso; omega)) |refine AWP.block ?_ |refine AWP.skip ?_ |(refine Fl.splitN rfl rfl ?_ ?_ <;> intro _ <;> try (exfalso; omega))));refine AWP.loop (G := Nat) (fun i => i ≤ p.links.length ∧ ∀ (j : Nat) (x y : LZ), j < i → p.links[j]? = some x → q.links[j]? = some y → x = y) (fun i => St.of [] [(2, .ptr 2 0), (3, .ptr 3 0), (5, aN i)] [(2, .cells [aN p.vars, .sl 3 eL p.links] 25), (3, .cells [aN q.vars, .sl 3 eL q.links] 25)]) (fun i => p.links.length - i) 0 ⟨by omega, fun j x y h => by omega⟩ ?_ ?_
      · refine Ent.of [] ?_ ?_ rfl rfl;(repeat' (first |exact True.intro |refine ⟨⟨AV.Le.refl _, rfl⟩, ?_⟩ |refine ⟨⟨⟨_, rfl, BLe.cells (LeL.refl _)⟩, rfl⟩, ?_⟩|fail))
      · intro i ⟨k0, k1⟩;by_cases hi : i < p.links.length
        · obtain ⟨x, hx⟩ : ∃ x, p.links[i]? = some x := ⟨_, List.getElem?_eq_getElem hi⟩;obtain ⟨y, hy⟩ : ∃ y, q.links[i]? = some y := ⟨_, List.getElem?_eq_getElem (by omega)⟩;have hxm := hp.2 x (List.mem_of_getElem? hx);have hym := hq y (List.mem_of_getElem? hy);obtain ⟨f, hf⟩ := boolOf (fun u : LZ × LZ => u.1 = u.2);have hz := rSameL_ok x y hxm hym (f (x, y)) (hf _);by_cases hc : x = y
          · rw [(hf (x, y)).2 hc] at hz;(repeat' (first |refine Fl.v rfl rfl rfl ?_ |refine Fl.nilF ?_ |refine AWP.seq ?_ |refine AWP.region ?_ |(refine AWP.condD rfl ?_ ?_ <;> intro _ <;> try (exfalso; omega)) |refine AWP.block ?_ |refine AWP.skip ?_ |refine Fl.elK rfl rfl rfl rfl rfl rfl rfl rfl (by assumption) (by omega) ?_|fail));refine Fl.call rfl (hz) rfl rfl rfl (LeL.refl _) ?_;(repeat' (first |refine Fl.v rfl rfl rfl ?_ |refine Fl.nilF ?_ |refine Fl.nil (fun _ => by kernel_rfl) ?_ |refine AWP.region ?_ |refine Fl.w rfl rfl rfl (by first | exact True.intro | omega) ?_ |refine AWP.condF rfl ?_ |refine AWP.skip ?_));refine LoopEnd.of (i + 1) ⟨by omega, fun j u v hj hu hv => ?_⟩ (by omega) ?_
            · by_cases hji : j < i
              · exact k1 j u v hji hu hv
              · have : j = i := by omega
                subst this;rw [hx] at hu; rw [hy] at hv; cases hu; cases hv; exact hc
            · refine Ent.of [] ?_ ?_ rfl rfl;(repeat' (first |exact True.intro |refine ⟨⟨AV.Le.refl _, rfl⟩, ?_⟩ |refine ⟨⟨⟨_, rfl, BLe.cells (LeL.refl _)⟩, rfl⟩, ?_⟩|fail))
          · rw [show f (x, y) = false from Bool.eq_false_iff.2 fun h => hc ((hf _).1 h)] at hz;(repeat' (first |refine Fl.v rfl rfl rfl ?_ |refine Fl.nilF ?_ |refine AWP.seq ?_ |refine AWP.region ?_ |(refine AWP.condD rfl ?_ ?_ <;> intro _ <;> try (exfalso; omega)) |refine AWP.block ?_ |refine AWP.skip ?_ |refine Fl.elK rfl rfl rfl rfl rfl rfl rfl rfl (by assumption) (by omega) ?_|fail));refine Fl.call rfl (hz) rfl rfl rfl (LeL.refl _) ?_;(repeat' (first |refine Fl.v rfl rfl rfl ?_ |refine Fl.nilF ?_ |refine Fl.nil (fun _ => by kernel_rfl) ?_ |refine AWP.seq ?_ |refine AWP.region ?_ |refine AWP.condT rfl ?_ |refine AWP.ret ?_));exact RetOk.of rfl (AV.Le.bool (hfalse fun e => hc (by subst e; rw [hx] at hy; injection hy)))
        · (repeat' (first |refine Fl.v rfl rfl rfl ?_ |refine Fl.nilF ?_ |refine AWP.seq ?_ |refine AWP.region ?_ |(refine AWP.condD rfl ?_ ?_ <;> intro _ <;> try (exfalso; omega)) |refine AWP.exit ?_ |refine AWP.ret ?_));exact RetOk.of rfl (AV.Le.bool (Eq.symm (hb.2 (s_eq hv (get_eq hl fun j x y hj => k1 j x y (by omega))))))
    · (repeat' (first |refine Fl.v rfl rfl rfl ?_ |refine Fl.nilF ?_ |refine AWP.seq ?_ |refine AWP.region ?_ |refine Fl.b rfl rfl rfl rfl ?_ |(refine AWP.condN rfl ?_ ?_ <;> intro _ <;> try (exfalso; omega)) |refine AWP.ret ?_ |(refine Fl.splitN rfl rfl ?_ ?_ <;> intro _ <;> try (exfalso; omega))));exact RetOk.of rfl (AV.Le.bool (hfalse fun e => hl (by rw [e])))
  · (repeat' (first |refine Fl.v rfl rfl rfl ?_ |refine Fl.nilF ?_ |refine AWP.seq ?_ |refine AWP.region ?_ |refine Fl.b rfl rfl rfl rfl ?_ |refine Fl.skip rfl rfl ?_ |refine AWP.condT rfl ?_ |refine AWP.ret ?_ |(refine Fl.splitN rfl rfl ?_ ?_ <;> intro _ <;> try (exfalso; omega))));exact RetOk.of rfl (AV.Le.bool (hfalse fun e => hv (by rw [e])))
end Go.Proofs.YtcaecieigoplbaaGreat
/- MaskWitness. -/
namespace Go.AL
def smU (ls : List (List UT)) : Bool := ls.all (fun p => p.all fun u => decide (u.1.natAbs < 4294967296))
end Go.AL
namespace Go.Proofs.YtcaecieigoplbaaGreat
open Go.AL
theorem SmL_linkU {V : Nat} {kind : Int} {ls : List (List UT)} (hV : V ≤ 1000) (h1 : okLk V ls = true) (h2 : smU ls = true) (h3 : ls.length ≤ 1000) : SmL (linkU V kind ls) := by
  have hk := okLk_ok h1;simp only [smU, List.all_eq_true, decide_eq_true_eq] at h2
  have ho : (occL V ls).length ≤ V := by
    have := List.length_filter_le (fun i => ls.any fun p => p.any fun u => decide (0 < u.2.getD i 0)) (List.range V);rw [List.length_range] at this;exact this
  refine ⟨by simp only [linkU, List.length_map]; omega, by simp only [linkU, List.length_map]; omega, fun p hp => ?_⟩;obtain ⟨q, hq, rfl⟩ := List.mem_map.1 hp;refine ⟨by simp only [mkP, pickU, List.length_map]; have := (hk q hq).1; omega, fun t ht => ?_⟩;obtain ⟨u, hu, rfl⟩ := List.mem_map.1 ht;obtain ⟨w, hw, rfl⟩ := List.mem_map.1 hu;refine ⟨⟨toW_ok _, ?_⟩, by show (pickE (occL V ls) w.2).length ≤ _; simp only [pickE, List.length_map]; omega⟩;have := lenI_small (h2 q hq w hw);show lenI w.1 ≤ 1000000;omega
theorem mkS_sm : SmS mkS := by
  refine ⟨by decide, fun l hl => ?_⟩;simp only [mkS, List.mem_cons, List.not_mem_nil, or_false] at hl;rcases hl with rfl | rfl | rfl | rfl | rfl | rfl <;> exact SmL_linkU (by omega) (by kernel_rfl) (by kernel_rfl) (by simp)
theorem MaskWitness_ok (a b : Int) (ha0 : -9223372036854775808 ≤ a) (ha1 : a ≤ 9223372036854775807) (hb0 : -9223372036854775808 ≤ b) (hb1 : b ≤ 9223372036854775807) : PureFn Tryz.prog 3 [aN a, aN b] (aB true) := by
  refine PureFn.of_body Tryz.func3 rfl Tryz.ntmps3 rfl rfl ?_;have cs := rSameS_ok mkS mkS mkS_sm mkS_w true ⟨fun _ => rfl, fun _ => rfl⟩;have ci := inside_ok a b;refine AWP.seqS ?_;(repeat' (first |refine Fl.v rfl rfl rfl ?_ |refine Fl.nilF ?_ |refine AWP.region ?_));refine ⟨AWP.seqS ?_⟩;(repeat' (first |refine AWP.seq ?_ |refine AWP.region ?_));refine Fl.call rfl (maskLinks_ok) rfl rfl rfl (LeL.refl _) ?_;skip;refine Fl.call rfl (rMaskLinks_ok) rfl rfl rfl (LeL.refl _) ?_;skip;refine Fl.call rfl (cs) rfl rfl rfl (LeL.refl _) ?_;(repeat' (first |refine Fl.v rfl rfl rfl ?_ |refine Fl.nilF ?_ |refine AWP.condF rfl ?_ |refine AWP.skip ?_));refine ⟨?_⟩;(repeat' (first |refine Fl.v rfl rfl rfl ?_ |refine AWP.seq ?_ |refine AWP.region ?_));by_cases h : 0 ≤ a ∧ 0 ≤ b ∧ a ≤ 300 ∧ b ≤ 300
  · rw [decide_eq_true h] at ci
    have la : (toW a).length ≤ 100000 := by
      have := (fit_small (x := a) (by omega) (by omega)).lenI;unfold lenI at this;rw [abs_self h.1] at this;omega
    have lb : (toW b).length ≤ 100000 := by
      have := (fit_small (x := b) (by omega) (by omega)).lenI;unfold lenI at this;rw [abs_self h.2.1] at this;omega
    by_cases hun : undI a b
    · have cu := rUnderG_ok a b h.1 h.2.1 la lb true ⟨fun _ => hun, fun _ => rfl⟩;have hXl : ((mw a b).X a b).length = 10 := rfl;have hsa := rSameAll_ok ((mw a b).X a b) ((mw a b).X a b) (fun x hx => by have := (mw_fit h.1 h.2.1 h.2.2.1 h.2.2.2 x hx).len; omega) (by omega)
      · rw [decide_eq_true rfl] at hsa;refine Fl.call rfl (mWitness_ok a b h.1 h.2.1 h.2.2.1 h.2.2.2 hun) rfl rfl rfl (LeL.refl _) ?_;(repeat' (first |refine Fl.v rfl rfl rfl ?_ |refine Fl.nilF ?_ |refine AWP.seq ?_ |refine AWP.region ?_ |refine AWP.block ?_));refine Fl.call rfl (ci) rfl rfl rfl (LeL.refl _) ?_;(repeat' (first |refine Fl.v rfl rfl rfl ?_ |refine Fl.nilF ?_ |refine AWP.seq ?_ |refine AWP.region ?_ |refine AWP.condF rfl ?_));refine Fl.call rfl (rOf_ok a (by omega) (by omega)) rfl rfl rfl (LeL.refl _) ?_;(repeat' (first |refine Fl.v rfl rfl rfl ?_));refine Fl.call rfl (rOf_ok b (by omega) (by omega)) rfl rfl rfl (LeL.refl _) ?_;skip;refine Fl.call rfl (cu) rfl rfl rfl (LeL.refl _) ?_;(repeat' (first |refine Fl.v rfl rfl rfl ?_ |refine Fl.nilF ?_ |refine AWP.seq ?_ |refine AWP.region ?_ |refine AWP.condF rfl ?_ |refine AWP.skip ?_));refine Fl.call rfl (rW12_ok a b h.1 h.2.1 h.2.2.1 h.2.2.2) rfl rfl rfl (LeL.refl _) ?_;(repeat' (first |refine Fl.v rfl rfl rfl ?_ |refine Fl.nilF ?_ |refine AWP.seq ?_ |refine AWP.region ?_ |refine AWP.condF rfl ?_ |refine AWP.skip ?_ |(refine Fl.splitD rfl rfl ?_ ?_ <;> intro _ <;> try (exfalso; omega))));refine Fl.call rfl (hsa) rfl rfl rfl (LeL.refl _) ?_;(repeat' (first |refine Fl.v rfl rfl rfl ?_));refine Fl.call rfl (awake12_ok) rfl rfl rfl (LeL.refl _) ?_;(repeat' (first |refine Fl.v rfl rfl rfl ?_ |refine Fl.nilF ?_ |refine AWP.ret ?_));exact RetOk.of rfl (AV.Le.refl _)
    · have cu := rUnderG_ok a b h.1 h.2.1 la lb false ⟨fun k => (by cases k), fun k => absurd k hun⟩;refine Fl.call rfl (mWitness_none a b h.1 h.2.1 h.2.2.1 h.2.2.2 hun) rfl rfl rfl (LeL.refl _) ?_;(repeat' (first |refine Fl.v rfl rfl rfl ?_ |refine Fl.nilF ?_ |refine AWP.seq ?_ |refine AWP.region ?_ |refine AWP.block ?_));refine Fl.call rfl (ci) rfl rfl rfl (LeL.refl _) ?_;(repeat' (first |refine Fl.v rfl rfl rfl ?_ |refine Fl.nilF ?_ |refine AWP.seq ?_ |refine AWP.region ?_ |refine AWP.condF rfl ?_));refine Fl.call rfl (rOf_ok a (by omega) (by omega)) rfl rfl rfl (LeL.refl _) ?_;(repeat' (first |refine Fl.v rfl rfl rfl ?_));refine Fl.call rfl (rOf_ok b (by omega) (by omega)) rfl rfl rfl (LeL.refl _) ?_;skip;refine Fl.call rfl (cu) rfl rfl rfl (LeL.refl _) ?_;(repeat' (first |refine Fl.v rfl rfl rfl ?_ |refine Fl.nilF ?_ |refine AWP.seq ?_ |refine AWP.region ?_ |refine AWP.condT rfl ?_ |(refine Fl.splitD rfl rfl ?_ ?_ <;> intro _ <;> try (exfalso; omega))));refine Fl.call rfl (awake12_ok) rfl rfl rfl (LeL.refl _) ?_;(repeat' (first |refine Fl.v rfl rfl rfl ?_ |refine Fl.nilF ?_ |refine AWP.ret ?_));exact RetOk.of rfl (AV.Le.refl _)
  · rw [decide_eq_false h] at ci;refine Fl.call rfl (mWitness_arg a b h) rfl rfl rfl (LeL.refl _) ?_;(repeat' (first |refine Fl.v rfl rfl rfl ?_ |refine Fl.nilF ?_ |refine AWP.seq ?_ |refine AWP.region ?_ |refine AWP.block ?_));refine Fl.call rfl (ci) rfl rfl rfl (LeL.refl _) ?_;(repeat' (first |refine Fl.v rfl rfl rfl ?_ |refine Fl.nilF ?_ |refine AWP.seq ?_ |refine AWP.region ?_ |refine AWP.condT rfl ?_ |(refine Fl.splitD rfl rfl ?_ ?_ <;> intro _ <;> try (exfalso; omega))));refine Fl.call rfl (awake12_ok) rfl rfl rfl (LeL.refl _) ?_;(repeat' (first |refine Fl.v rfl rfl rfl ?_ |refine Fl.nilF ?_ |refine AWP.ret ?_));exact RetOk.of rfl (AV.Le.refl _)
end Go.Proofs.YtcaecieigoplbaaGreat

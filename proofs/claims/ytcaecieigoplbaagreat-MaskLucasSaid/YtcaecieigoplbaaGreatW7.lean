/- Part 7 of a proof layer and of the contracts of the functions (XYA XYB XRV XRP XRU XRQ XRS XYC XYM). -/
import Derived.Test.YtcaecieigoplbaaGreatW6
set_option linter.unusedVariables false
set_option linter.unusedSimpArgs false
/- mask.rows: the rows of the triangle of binomials. -/
namespace Go.AL
def rowP (n m : Nat) : List Int := (List.range m).map fun j => (ch n j : Int)
theorem rowP_len (n m : Nat) : (rowP n m).length = m := by simp [rowP]
theorem rowP_get {n m j : Nat} (h : j < m) : (rowP n m)[j]? = some (ch n j : Int) := by simp [rowP, h]
theorem rowP_succ (n m : Nat) : rowP n (m + 1) = rowP n m ++ [(ch n m : Int)] := by simp [rowP, List.range_succ]
theorem ch_fit {n k : Nat} (h : n ≤ 1000) : Fit (ch n k : Int) := by
  have h1 : ((ch n k : Nat) : Int) ≤ ((2 ^ n : Nat) : Int) := Int.ofNat_le.2 (ch_le n k);rw [Int.natCast_pow] at h1;exact fit_pow2 (by omega) h1 (by omega)
end Go.AL
namespace Go.Proofs.YtcaecieigoplbaaGreat
open Go.AL
def rowE (i : Nat) : Option (List AV) := some [aN i, .sl 2 eX (rowP i (i + 1))]
theorem rows_ok (N : Nat) (hN2 : N ≤ 302) : IterFn Tryz.prog 107 [] rowE N := by
  refine IterFn.of_body Tryz.func107 rfl Tryz.ntmps107 rfl rfl rfl fun l => ?_;refine IWP.seqL ?_;(repeat' (first |refine AWP.region ?_));refine Fl.call rfl (Of_ok 1 (by omega) (by omega)) rfl rfl rfl (LeL.refl _) ?_;skip;refine Fl.lit rfl rfl rfl rfl rfl eX [1] rfl rfl rfl rfl (by intro _ _; rfl) rfl ?_;(repeat' (first |refine Fl.v rfl rfl rfl ?_ |refine Fl.nilF ?_));refine ⟨IWP.seqL ?_⟩;(repeat' (first |refine Fl.v rfl rfl rfl ?_ |refine Fl.nilF ?_ |refine AWP.region ?_));refine ⟨?_⟩;refine IWP.block ?_;refine IWP.loop (G := Nat) (fun _ => True) (fun i => St.of [] [(0, .v (.func (.yield l) #[] #[])), (2, .sl 2 eX (rowP i (i + 1))), (3, aN i)] []) (fun i => some i) (fun i => N - i) 0 rfl trivial ?_ ?_
  · refine Ent.of [] ?_ ?_ rfl rfl;(repeat' (first |exact True.intro |refine ⟨⟨AV.Le.refl _, rfl⟩, ?_⟩|fail))
  intro i _ hN;have hi : i < N := hN i rfl;refine IWP.seq ?_;refine IWP.seq ?_;refine IWP.yieldT 3 rfl ?_;show Fl _ _ _ _ [_, _, _] _ _ _;(repeat' (first | refine Fl.v rfl rfl rfl ?_ | refine Fl.b rfl rfl rfl rfl ?_ | fail));refine Fl.nil (fun h => (by cases h)) ⟨rfl, ⟨.inl rfl, ⟨_, _, _, _, rfl, rfl, rfl, LeL.refl _, rfl⟩, (fun d hd => by cases hd; decide), ?_, ?_⟩⟩
  · refine Fl.nil (fun h => (by cases h)) ⟨rfl, fun hi1 => ?_⟩;refine IWP.condB (t := true) rfl (fun _ => IWP.skip ?_) (fun h => (by cases h));refine IWP.seqL ?_;(repeat' (first |refine AWP.seq ?_ |refine AWP.region ?_ |refine AWP.block ?_));refine Fl.call rfl (Of_ok 1 (by omega) (by omega)) rfl rfl rfl (LeL.refl _) ?_;skip;refine Fl.litrow rfl rfl rfl rfl rfl rfl rfl eX [1] rfl rfl rfl rfl (by intro _ _; rfl) (LeL.refl _) ?_;(repeat' (first |refine Fl.v rfl rfl rfl ?_ |refine Fl.nilF ?_ |refine AWP.seq ?_ |refine AWP.region ?_ |refine AWP.block ?_));refine AWP.loop (G := Nat) (fun j => 1 ≤ j ∧ j ≤ i + 1) (fun j => St.of [] [(0, .v (.func (.yield l) #[] #[])), (2, .sl 2 eX (rowP i (i + 1))), (3, aN i), (4, .row 17), (5, aN j)] [(17, .row 2 eX (rowP (i + 1) j) 35)]) (fun j => i + 1 - j) 1 ⟨by omega, by omega⟩ ?_ ?_
    · refine Ent.of [] ?_ ?_ rfl rfl;(repeat' (first |exact True.intro |refine ⟨⟨AV.Le.refl _, rfl⟩, ?_⟩ |refine ⟨⟨⟨_, rfl, BLe.row rfl⟩, rfl⟩, ?_⟩|fail))
    · intro j ⟨j0, j1⟩;(repeat' (first |refine Fl.v rfl rfl rfl ?_ |refine Fl.nilF ?_ |refine AWP.seq ?_ |refine AWP.region ?_ |refine Fl.w rfl rfl rfl (by first | exact True.intro | omega) ?_ |(refine AWP.condD rfl ?_ ?_ <;> intro _ <;> try (exfalso; omega)) |refine AWP.block ?_ |refine AWP.skip ?_ |refine AWP.exit ?_ |(refine Fl.el rfl rfl rfl rfl rfl rfl rfl rfl (by omega) (by omega) ?_; intro _ _)|fail))
      · rename_i hlt x hx y hy
        have hjl : j < i + 1 := by rw [rowP_len] at hlt; omega
        obtain ⟨j', rfl⟩ : ∃ j', j = j' + 1 := ⟨j - 1, by omega⟩
        have hx1 : x = (ch i j' : Int) := by
          rw [show (((j' + 1 : Nat) : Int) - 1).toNat = j' by omega, rowP_get (by omega)] at hx;injection hx with hx;exact hx.symm
        have hy1 : y = (ch i (j' + 1) : Int) := by
          rw [Int.toNat_natCast, rowP_get (by omega)] at hy;injection hy with hy;exact hy.symm
        have hs : x + y = (ch (i + 1) (j' + 1) : Int) := by rw [hx1, hy1, ch_succ]; omega
        have hA := Add_ok x y (by rw [hx1]; exact ch_fit (by omega)) (by rw [hy1]; exact ch_fit (by omega));rw [hs, aR_fit (ch_fit (by omega))] at hA;have hrl := rowP_len (i + 1) (j' + 1);refine Fl.call rfl (hA) rfl rfl rfl (LeL.refl _) ?_;(repeat' (first |refine Fl.v rfl rfl rfl ?_ |refine Fl.nil (fun _ => by kernel_rfl) ?_ |refine AWP.region ?_ |refine Fl.b rfl rfl rfl rfl ?_));refine Fl.lit rfl rfl rfl rfl rfl eX [(ch (i + 1) (j' + 1) : Int)] rfl rfl rfl rfl (by intro _ _; rfl) rfl ?_;skip;refine Fl.ap rfl rfl rfl rfl rfl rfl rfl rfl rfl rfl rfl rfl rfl (fun _ => rfl) (fun _ => rfl) (AV.Le.refl _) (by dsimp only [List.length_nil, List.length_cons]; omega) (by simp; omega) ?_;(repeat' (first |refine Fl.v rfl rfl rfl ?_ |refine Fl.nilF ?_ |refine AWP.region ?_ |refine Fl.w rfl rfl rfl (by first | exact True.intro | omega) ?_|fail));refine LoopEnd.of (j' + 1 + 1) ⟨by omega, by omega⟩ (by omega) ?_;refine Ent.of [(17, 40)] ?_ ?_ rfl rfl;(repeat' (first |exact True.intro |refine ⟨⟨AV.Le.refl _, rfl⟩, ?_⟩ |refine ⟨⟨⟨_, rfl, BLe.row ?_⟩, rfl⟩, ?_⟩|fail));exact (rowP_succ (i + 1) (j' + 1)).symm
      · rename_i hge
        have hj : j = i + 1 := by rw [rowP_len] at hge; omega
        subst hj;have hrl := rowP_len (i + 1) (i + 1);refine Fl.call rfl (Of_ok 1 (by omega) (by omega)) rfl rfl rfl (LeL.refl _) ?_;skip;refine Fl.lit rfl rfl rfl rfl rfl eX [1] rfl rfl rfl rfl (by intro _ _; rfl) rfl ?_;skip;refine Fl.ap rfl rfl rfl rfl rfl rfl rfl rfl rfl rfl rfl rfl rfl (fun _ => rfl) (fun _ => rfl) (AV.Le.refl _) (by dsimp only [List.length_nil, List.length_cons]; omega) (by simp; omega) ?_;(repeat' (first |refine Fl.v rfl rfl rfl ?_ |refine Fl.nilF ?_));refine ⟨IWP.last ?_⟩;(repeat' (first |refine Fl.v rfl rfl rfl ?_ |refine Fl.nilF ?_ |refine AWP.region ?_ |refine Fl.w rfl rfl rfl (by first | exact True.intro | omega) ?_|fail));refine ⟨i + 1, trivial, rfl, fun _ => by show N - (i + 1) < N - i; omega, ?_⟩;refine (Ent.freeze 44 rfl).trans ?_
        have hrw : rowP (i + 1) (i + 1) ++ [1] = rowP (i + 1) (i + 1 + 1) := by rw [rowP_succ (i + 1) (i + 1), ch_self]; rfl
        rw [hrw];refine Ent.of [] ?_ ?_ rfl rfl;(repeat' (first |exact True.intro |refine ⟨⟨AV.Le.refl _, rfl⟩, ?_⟩|fail))
  · refine Fl.nil (fun h => (by cases h)) ⟨rfl, ?_⟩;refine IWP.condB (t := false) rfl (fun h => (by cases h)) (fun _ => IWP.exit ?_);exact ⟨.inl rfl, fun i h => (by cases h)⟩
end Go.Proofs.YtcaecieigoplbaaGreat
/- mask.Choose. -/
namespace Go.Proofs.YtcaecieigoplbaaGreat
open Go.AL
def chS (n k : Int) (x : Int) : St := St.of [] [(2, .ptr 2 0), (3, .ptr 3 0), (4, .ptr 4 0), (5, aN 0), (6, .ptr 6 0)] [(2, .cells [aN n] 3), (3, .cells [aN k] 3), (4, .cells [aB false, .v (.slice none 0 0)] 35), (6, .cells (eX x) 35)]
theorem chS_eq (n k x : Int) : chS n k x = St.of [2, 3, 4, 6] [(2, .ptr 2 0), (3, .ptr 3 0), (4, .ptr 4 0), (5, aN 0), (6, .ptr 6 0)] [(2, .cells [aN n] 3), (3, .cells [aN k] 3), (4, .cells [aB false, .v (.slice none 0 0)] 35), (6, .cells (eX x) 35)] := by
  unfold chS St.of;congr 1;funext id;show (memI [2, 3, 4, 6] id || memI [] id) = (memI [2, 3, 4, 6] id || memI [2, 3, 4, 6] id)
  cases memI [2, 3, 4, 6] id <;> rfl
theorem Choose_ok (n k : Nat) (hn : n ≤ 300) (hk : k ≤ 300) : PureFn Tryz.prog 37 [aN n, aN k] (.tup [aX (ch n k), aN 0]) := by
  refine PureFn.of_bodyF Tryz.func37 rfl Tryz.ntmps37 rfl rfl ?_;refine FWP.seqL ?_;(repeat' (first |refine Fl.v rfl rfl rfl ?_ |refine Fl.nilF ?_ |refine AWP.region ?_ |refine Fl.b rfl rfl rfl rfl ?_));refine ⟨FWP.seqL ?_⟩;(repeat' (first |refine Fl.v rfl rfl rfl ?_ |refine Fl.nilF ?_ |refine AWP.seq ?_ |refine AWP.region ?_ |(refine AWP.condD rfl ?_ ?_ <;> intro _ <;> try (exfalso; omega)) |refine AWP.skip ?_ |(refine Fl.splitD rfl rfl ?_ ?_ <;> intro _ <;> try (exfalso; omega))));refine ⟨FWP.seqL ?_⟩;(repeat' (first |refine AWP.region ?_));refine Fl.call rfl (Of_ok 0 (by omega) (by omega)) rfl rfl rfl (LeL.refl _) ?_;(repeat' (first |refine Fl.nilF ?_ |refine Fl.b rfl rfl rfl rfl ?_));refine ⟨FWP.seq (FWP.block ?_)⟩;refine FWP.ent (s' := chS n k 0) ?_ ?_
  · unfold chS;refine Ent.of [] ?_ ?_ rfl rfl;(repeat' (first |exact True.intro |refine ⟨⟨AV.Le.refl _, rfl⟩, ?_⟩ |refine ⟨⟨⟨_, rfl, BLe.cells (LeL.refl _)⟩, rfl⟩, ?_⟩|fail))
  refine FWP.rangeFunc (rows_ok (n + 1) (by omega)) (by omega) rfl rfl rfl rfl [2, 3, 4, 6] (by simp) ?_ (fun _ => chS n k 0) (fun _ => rfl) rfl ?_ ?_ ?_
  · exact lookE_within rfl
  · intro i xs h;injection h with h;exact ⟨_, _, h.symm⟩
  · intro i x y l hi he;injection he with he;injection he with h1 he;injection he with h2 _;subst h1 h2;refine RWP.seqR rfl ?_;(repeat' (first |refine Fl.v rfl rfl rfl ?_ |refine Fl.nilF ?_));refine ⟨rfl, RWP.region (K := fun s1 => RWP _ _ _ _ _ _ s1) rfl (fun s k => k) ?_⟩;(repeat' (first |refine Fl.v rfl rfl rfl ?_ |refine Fl.nilF ?_));refine ⟨rfl, RWP.block (RWP.seqR rfl ?_)⟩;(repeat' (first |refine Fl.v rfl rfl rfl ?_ |refine Fl.nilF ?_));refine ⟨rfl, RWP.condD rfl (fun hin => ?_) (fun hin => RWP.skip ?_)⟩
    · have hin : i = n := by omega
      subst hin;refine RWP.seq (RWP.seqR rfl ?_);(repeat' (first |refine Fl.v rfl rfl rfl ?_ |refine Fl.nilF ?_));refine ⟨rfl, RWP.condD rfl (fun hkn => ?_) (fun hkn => RWP.skip ?_)⟩
      · refine RWP.region (K := fun s1 => RWP _ _ _ _ (.exit 0) _ s1) rfl (fun s k => k) ?_
        have hkl : k < (rowP i (i + 1)).length := by rw [rowP_len]; omega
        (repeat' (first |refine Fl.v rfl rfl rfl ?_ |refine Fl.nilF ?_ |refine Fl.b rfl rfl rfl rfl ?_ |(refine Fl.el rfl rfl rfl rfl rfl rfl rfl rfl (by omega) (by omega) ?_; intro _ _)|fail));rename_i v hv;rw [Int.toNat_natCast, rowP_get (by omega)] at hv;injection hv with hv;subst hv;refine ⟨rfl, RWP.exit ?_⟩;refine ⟨chS i k (ch i k), rfl, Ent.anyS ?_, ?_⟩
        · rw [chS_eq i k (ch i k)];refine Ent.of [] ?_ ?_ rfl rfl;(repeat' (first |exact True.intro |refine ⟨⟨AV.Le.refl _, rfl⟩, ?_⟩ |refine ⟨⟨⟨_, rfl, BLe.cells (LeL.refl _)⟩, rfl⟩, ?_⟩|fail))
        · refine FWP.lift ?_;unfold chS;(repeat' (first |refine Fl.v rfl rfl rfl ?_ |refine Fl.nilF ?_ |refine AWP.seq ?_ |refine AWP.region ?_ |refine Fl.b rfl rfl rfl rfl ?_ |refine AWP.ret ?_));exact RetOk.of rfl (AV.Le.refl _)
      · refine RWP.exit ?_;refine ⟨chS i k 0, rfl, Ent.anyS ?_, ?_⟩
        · rw [chS_eq];refine Ent.of [] ?_ ?_ rfl rfl;(repeat' (first |exact True.intro |refine ⟨⟨AV.Le.refl _, rfl⟩, ?_⟩ |refine ⟨⟨⟨_, rfl, BLe.cells (LeL.refl _)⟩, rfl⟩, ?_⟩|fail))
        · refine FWP.lift ?_;unfold chS;(repeat' (first |refine Fl.v rfl rfl rfl ?_ |refine Fl.nilF ?_ |refine AWP.seq ?_ |refine AWP.region ?_ |refine Fl.b rfl rfl rfl rfl ?_ |refine AWP.ret ?_));refine RetOk.of rfl ?_;rw [ch_gt (show i < k by omega)];exact AV.Le.refl _
    · refine ⟨by omega, Ent.anyS ?_⟩;rw [chS_eq];refine Ent.of [] ?_ ?_ rfl rfl;(repeat' (first |exact True.intro |refine ⟨⟨AV.Le.refl _, rfl⟩, ?_⟩ |refine ⟨⟨⟨_, rfl, BLe.cells (LeL.refl _)⟩, rfl⟩, ?_⟩|fail))
  · intro i h
    cases h
end Go.Proofs.YtcaecieigoplbaaGreat
/- Validity of any many numbers. -/
namespace Go.Proofs.YtcaecieigoplbaaGreat
open Go.AL
end Go.Proofs.YtcaecieigoplbaaGreat
/- mask: the links' meaning; what they need to be evaluated. -/
namespace Go.AL
theorem mkS_all : (∀ l ∈ mkS.links, OkL 10 l ∧ WL l) := by
  intro l hl;simp only [mkS, List.mem_cons, List.not_mem_nil, or_false] at hl;rcases hl with rfl | rfl | rfl | rfl | rfl | rfl
  · have := okLU_ok (V := 10) (by omega) (kind := 2) (ls := [conU 10 2, mk2, varU 10 2]) (by kernel_rfl); exact ⟨this.1, this.2.1⟩
  · have := okLU_ok (V := 10) (by omega) (kind := 2) (ls := [mk3, varU 10 1, varU 10 3]) (by kernel_rfl); exact ⟨this.1, this.2.1⟩
  · have := okLU_ok (V := 10) (by omega) (kind := 2) (ls := [varU 10 2, varU 10 0, varU 10 4]) (by kernel_rfl); exact ⟨this.1, this.2.1⟩
  · have := okLU_ok (V := 10) (by omega) (kind := 0) (ls := [mk8]) (by kernel_rfl); exact ⟨this.1, this.2.1⟩
  · have := okLU_ok (V := 10) (by omega) (kind := 0) (ls := [mk10]) (by kernel_rfl); exact ⟨this.1, this.2.1⟩
  · have := okLU_ok (V := 10) (by omega) (kind := 0) (ls := [mk12]) (by kernel_rfl); exact ⟨this.1, this.2.1⟩
theorem mkS_w : WS mkS := fun l hl => (mkS_all l hl).2
theorem mkS_ok : OkS mkS := ⟨by decide, by decide, by decide, fun l hl => (mkS_all l hl).1⟩
theorem mkS_nn : (∀ p ∈ [conU 10 2, mk2, varU 10 2, mk3, varU 10 1, varU 10 3, varU 10 0, varU 10 4, mk8, mk10, mk12], nnU 10 p ∧ okB 3 4 p = true) := by
  have h : ([conU 10 2, mk2, varU 10 2, mk3, varU 10 1, varU 10 3, varU 10 0, varU 10 4, mk8, mk10, mk12].all fun p => p.all (okU 10) && okB 3 4 p) = true := by kernel_rfl
  intro p hp;have := List.all_eq_true.1 h p hp;simp only [Bool.and_eq_true, List.all_eq_true] at this;exact ⟨fun u hu => okU_ok (this.1 u hu), this.2⟩
theorem mk_vals (a b u p q z y r s t : Int) : let X := [a, b, u, p, q, z, y, r, s, t]
    uv X (conU 10 2) = 2 ∧ uv X mk2 = b + 1 ∧ uv X (varU 10 2) = u ∧ uv X mk3 = u + 1 ∧ uv X (varU 10 1) = b ∧ uv X (varU 10 3) = p ∧ uv X (varU 10 0) = a ∧ uv X (varU 10 4) = q ∧ uv X mk8 = p - ((2 * z + 1 + u * y) * q + r) ∧ uv X mk10 = q - (r + s + 1) ∧ uv X mk12 = u - (2 * z + 1 + 1 + t) := by
  intro X;have v : ∀ i, i < 10 → uv X (varU 10 i) = X.getD i 0 := fun i hi => uv_var rfl hi;have v0 : uv X (varU 10 0) = a := v 0 (by omega);have v1 : uv X (varU 10 1) = b := v 1 (by omega);have v2 : uv X (varU 10 2) = u := v 2 (by omega);have v3 : uv X (varU 10 3) = p := v 3 (by omega);have v4 : uv X (varU 10 4) = q := v 4 (by omega);have v5 : uv X (varU 10 5) = z := v 5 (by omega);have v6 : uv X (varU 10 6) = y := v 6 (by omega);have v7 : uv X (varU 10 7) = r := v 7 (by omega);have v8 : uv X (varU 10 8) = s := v 8 (by omega);have v9 : uv X (varU 10 9) = t := v 9 (by omega);have c : ∀ k, uv X (conU 10 k) = k := fun k => uv_con X 10 k;have n0 : uv X [] = 0 := rfl
  have m0 : uv X mk0 = 2 * z := by
    unfold mk0; rw [uv_muls (V := 10) (by omega) X _ _ (by kernel_rfl)]; simp only [List.map_cons, List.map_nil, prodL, c, v5]; omega
  have m1 : uv X mk1 = 2 * z + 1 := by
    unfold mk1; rw [uv_sums (V := 10) (by omega) X _ _ (by kernel_rfl)]; simp only [List.map_cons, List.map_nil, sumL, c, m0, n0]; omega
  have m2 : uv X mk2 = b + 1 := by
    unfold mk2; rw [uv_sums (V := 10) (by omega) X _ _ (by kernel_rfl)]; simp only [List.map_cons, List.map_nil, sumL, c, v1, n0]; omega
  have m3 : uv X mk3 = u + 1 := by
    unfold mk3; rw [uv_sums (V := 10) (by omega) X _ _ (by kernel_rfl)]; simp only [List.map_cons, List.map_nil, sumL, c, v2, n0]; omega
  have m4 : uv X mk4 = u * y := by
    unfold mk4; rw [uv_muls (V := 10) (by omega) X _ _ (by kernel_rfl)]; simp only [List.map_cons, List.map_nil, prodL, c, v2, v6]; grind
  have m5 : uv X mk5 = 2 * z + 1 + u * y := by
    unfold mk5; rw [uv_sums (V := 10) (by omega) X _ _ (by kernel_rfl)]; simp only [List.map_cons, List.map_nil, sumL, m1, m4, n0]; omega
  have m6 : uv X mk6 = (2 * z + 1 + u * y) * q := by
    unfold mk6; rw [uv_muls (V := 10) (by omega) X _ _ (by kernel_rfl)]; simp only [List.map_cons, List.map_nil, prodL, c, m5, v4]; grind
  have m7 : uv X mk7 = (2 * z + 1 + u * y) * q + r := by
    unfold mk7; rw [uv_sums (V := 10) (by omega) X _ _ (by kernel_rfl)]; simp only [List.map_cons, List.map_nil, sumL, m6, v7, n0]; omega
  have m8 : uv X mk8 = p - ((2 * z + 1 + u * y) * q + r) := by
    unfold mk8; rw [uv_sub (V := 10) (by omega) X (by kernel_rfl), v3, m7]
  have m9 : uv X mk9 = r + s + 1 := by
    unfold mk9; rw [uv_sums (V := 10) (by omega) X _ _ (by kernel_rfl)]; simp only [List.map_cons, List.map_nil, sumL, c, v7, v8, n0]; omega
  have m10 : uv X mk10 = q - (r + s + 1) := by
    unfold mk10; rw [uv_sub (V := 10) (by omega) X (by kernel_rfl), v4, m9]
  have m11 : uv X mk11 = 2 * z + 1 + 1 + t := by
    unfold mk11; rw [uv_sums (V := 10) (by omega) X _ _ (by kernel_rfl)]; simp only [List.map_cons, List.map_nil, sumL, c, m1, v9, n0]; omega
  have m12 : uv X mk12 = u - (2 * z + 1 + 1 + t) := by
    unfold mk12; rw [uv_sub (V := 10) (by omega) X (by kernel_rfl), v2, m11]
  exact ⟨c 2, m2, v2, m3, v1, v3, v0, v4, m8, m10, m12⟩
/-- the links hold -/
def MaskEq (a b u p q z y r s t : Int) : Prop :=
  (0 ≤ b + 1 ∧ 2 ^ (b + 1).toNat = u) ∧ (1 ≤ u + 1 ∧ 0 ≤ b ∧ (u + 1) ^ b.toNat = p) ∧ (1 ≤ u ∧ 0 ≤ a ∧ u ^ a.toNat = q) ∧ p = (2 * z + 1 + u * y) * q + r ∧ q = r + s + 1 ∧ u = 2 * z + 1 + 1 + t
theorem mk_hol (a b u p q z y r s t : Int) : (∀ l ∈ mkS.links, HoL [a, b, u, p, q, z, y, r, s, t] l) ↔ MaskEq a b u p q z y r s t := by
  obtain ⟨e0, e1, e2, e3, e4, e5, e6, e7, e8, e9, e10⟩ := mk_vals a b u p q z y r s t;have nn : ∀ p, p ∈ [conU 10 2, mk2, varU 10 2, mk3, varU 10 1, varU 10 3, varU 10 0, varU 10 4, mk8, mk10, mk12] → nnU 10 p := fun p hp => (mkS_nn p hp).1
  have L : ∀ (kind : Int) (ls : List (List UT)), (∀ p ∈ ls, p ∈ [conU 10 2, mk2, varU 10 2, mk3, varU 10 1, varU 10 3, varU 10 0, varU 10 4, mk8, mk10, mk12]) → HoL [a, b, u, p, q, z, y, r, s, t] (linkU 10 kind ls) = holdP kind (ls.map (uv [a, b, u, p, q, z, y, r, s, t])) := fun kind ls h => by
    unfold HoL;rw [lvals_linkU (V := 10) rfl fun p hp => nn p (h p hp)];rfl
  simp only [mkS, List.forall_mem_cons];rw [L 2 _ (by simp), L 2 _ (by simp), L 2 _ (by simp), L 0 _ (by simp), L 0 _ (by simp), L 0 _ (by simp)];simp only [List.map_cons, List.map_nil, e0, e1, e2, e3, e4, e5, e6, e7, e8, e9, e10];unfold holdP MaskEq;simp;intros;constructor
  · intro ⟨h1, h2, h3⟩;exact ⟨by omega, by omega, by omega⟩
  · intro ⟨h1, h2, h3⟩;exact ⟨by omega, by omega, by omega⟩
/-- numbers that are not too great: the links can be evaluated -/
theorem mk_ev {X : List Int} {m : Nat} (hm : m ≤ 43000) (hl : X.length = 10) (hX : ∀ x ∈ X, x.natAbs ≤ 2 ^ m) : ∀ l ∈ mkS.links, EvL X l := by
  have A : ∀ p, p ∈ [conU 10 2, mk2, varU 10 2, mk3, varU 10 1, varU 10 3, varU 10 0, varU 10 4, mk8, mk10, mk12] → nnU 10 p ∧ Fit (auv X p) := fun p hp => by
    obtain ⟨h1, h2⟩ := mkS_nn p hp;exact ⟨h1, auv_fit hX h1 h2 (by omega)⟩
  have L : ∀ (kind : Int) (ls : List (List UT)), (∀ p ∈ ls, p ∈ [conU 10 2, mk2, varU 10 2, mk3, varU 10 1, varU 10 3, varU 10 0, varU 10 4, mk8, mk10, mk12]) → EvL X (linkU 10 kind ls) := fun kind ls h =>
    evL_linkU hl (fun p hp => (A p (h p hp)).1) fun p hp => (A p (h p hp)).2
  simp only [mkS, List.forall_mem_cons];exact ⟨L 2 _ (by simp), L 2 _ (by simp), L 2 _ (by simp), L 0 _ (by simp), L 0 _ (by simp), L 0 _ (by simp), by simp⟩
end Go.AL
namespace Go.Proofs.YtcaecieigoplbaaGreat
open Go.AL
theorem holdsR_all {f g : LZ → Bool} : ∀ {ls : List LZ}, (∀ l ∈ ls, f l = true ∧ g l = true) → holdsR f g ls = (true, 0)
  | [], _ => rfl
  | l :: ls, h => by
    obtain ⟨h1, h2⟩ := h l (by simp);rw [holdsR, if_pos h1, if_pos h2];exact holdsR_all fun x hx => h x (by simp [hx])
/-- Holds, where all stands. -/
theorem Holds_yes (s : SZ) (X : List Int) (hw : WS s) (hs : OkS s) (hX : ∀ x ∈ X, Fit x) (hlen : (X.length : Int) = s.vars) (hnat : ∀ x ∈ X, 0 ≤ x) (he : ∀ l ∈ s.links, EvL X l) (hh : ∀ l ∈ s.links, HoL X l) : PureFn Tryz.prog 25 [aS s, .sl 2 eX X] (.tup [aB true, aN 0]) := by
  obtain ⟨f, hf⟩ := boolOf (EvL X);obtain ⟨g, hg⟩ := boolOf (HoL X);have := Holds_ok s X hw hs hX hlen hnat f g hf hg;rw [holdsR_all fun l hl => ⟨(hf l).2 (he l hl), (hg l).2 (hh l hl)⟩] at this;exact this
end Go.Proofs.YtcaecieigoplbaaGreat
/- ref01: SameAll. -/
namespace Go.AL
end Go.AL
namespace Go.Proofs.YtcaecieigoplbaaGreat
open Go.AL
end Go.Proofs.YtcaecieigoplbaaGreat
/- ref01: Under, Small; mask.Witness where there is none. -/
namespace Go.AL
end Go.AL
namespace Go.Proofs.YtcaecieigoplbaaGreat
open Go.AL

theorem mWitness_none (a b : Int) (ha : 0 ≤ a) (hb : 0 ≤ b) (ha2 : a ≤ 300) (hb2 : b ≤ 300) (h : ¬ undI a b) : PureFn Tryz.prog 18 [aN a, aN b] (.tup [.v (.slice none 0 0), aN 6]) := by
  refine PureFn.of_body Tryz.func18 rfl Tryz.ntmps18 rfl rfl ?_;have hand : ¬ bitN .andNot a b = 0 := fun k => h (andNot_zero.1 k);refine AWP.seqS ?_;(repeat' (first |refine Fl.v rfl rfl rfl ?_ |refine Fl.nilF ?_ |refine AWP.region ?_));refine ⟨AWP.seqS ?_⟩;(repeat' (first |refine Fl.v rfl rfl rfl ?_ |refine Fl.nilF ?_ |refine AWP.seq ?_ |refine AWP.region ?_ |(refine AWP.condD rfl ?_ ?_ <;> intro _ <;> try (exfalso; omega)) |refine AWP.skip ?_ |(refine Fl.splitD rfl rfl ?_ ?_ <;> intro _ <;> try (exfalso; omega))));refine ⟨AWP.seqS ?_⟩;(repeat' (first |refine Fl.v rfl rfl rfl ?_ |refine Fl.nilF ?_ |refine AWP.seq ?_ |refine AWP.region ?_ |refine Fl.w rfl rfl rfl (by first | exact True.intro | omega) ?_ |(refine AWP.condN rfl ?_ ?_ <;> intro _ <;> try (exfalso; omega)) |refine AWP.ret ?_));exact RetOk.of rfl (AV.Le.refl _)
end Go.Proofs.YtcaecieigoplbaaGreat
/- MaskOnly, MaskFound. -/
namespace Go.AL
theorem mask_found_int {a b : Int} (ha : 0 ≤ a) (hb : 0 ≤ b) (h : undI a b) : MaskEq a b (mw a b).u (mw a b).p (mw a b).q (mw a b).z (mw a b).y (mw a b).r (mw a b).s (mw a b).t ∧ ∀ x ∈ (mw a b).X a b, 0 ≤ x := by
  obtain ⟨p1, p2, p3⟩ := mw_pos ha hb;obtain ⟨u, hu⟩ : ∃ u : Nat, (mw a b).u = u := ⟨_, (Int.toNat_of_nonneg (show 0 ≤ (mw a b).u by omega)).symm⟩;obtain ⟨p, hp⟩ : ∃ p : Nat, (mw a b).p = p := ⟨_, (Int.toNat_of_nonneg (show 0 ≤ (mw a b).p by omega)).symm⟩;obtain ⟨q, hq⟩ : ∃ q : Nat, (mw a b).q = q := ⟨_, (Int.toNat_of_nonneg (show 0 ≤ (mw a b).q by omega)).symm⟩;obtain ⟨a, rfl⟩ := Int.eq_ofNat_of_zero_le ha;obtain ⟨b, rfl⟩ := Int.eq_ofNat_of_zero_le hb
  have f0 : ((b : Int) + 1).toNat = b + 1 := by omega
  have e1 : (2 : Int) ^ ((b : Int) + 1).toNat = u := hu;have e2 : ((mw (a : Int) b).u + 1) ^ (b : Int).toNat = p := hp;have e3 : (mw (a : Int) b).u ^ (a : Int).toNat = q := hq;rw [f0] at e1;rw [hu, Int.toNat_natCast] at e2 e3
  have k1 : u = 2 ^ (b + 1) := by exact_mod_cast e1.symm
  have k2 : p = (u + 1) ^ b := by exact_mod_cast e2.symm
  have k3 : q = u ^ a := by exact_mod_cast e3.symm
  obtain ⟨o1, o2, o3⟩ := mask_found k1 k2 k3 h
  have hqp : 0 < q := by omega
  have hup : 0 < u := by omega
  have hl := Nat.mod_lt p hqp;have hl2 := Nat.mod_lt (p / q) hup
  have m4 : (mw (a : Int) b).z = ((p / q % u / 2 : Nat) : Int) := by
    show (mw (a : Int) b).p / (mw (a : Int) b).q % (mw (a : Int) b).u / 2 = _;rw [hu, hp, hq]; push_cast; rfl
  have m5 : (mw (a : Int) b).y = ((p / q / u : Nat) : Int) := by
    show (mw (a : Int) b).p / (mw (a : Int) b).q / (mw (a : Int) b).u = _;rw [hu, hp, hq]; push_cast; rfl
  have m6 : (mw (a : Int) b).r = ((p % q : Nat) : Int) := by
    show (mw (a : Int) b).p % (mw (a : Int) b).q = _;rw [hp, hq]; push_cast; rfl
  have m7 : (mw (a : Int) b).s = ((q - p % q - 1 : Nat) : Int) := by
    show (mw (a : Int) b).q - (mw (a : Int) b).r - 1 = _;rw [hq, m6]; omega
  have m8 : (mw (a : Int) b).t = ((u - p / q % u - 1 : Nat) : Int) := by
    show (mw (a : Int) b).u - (mw (a : Int) b).p / (mw (a : Int) b).q % (mw (a : Int) b).u - 1 = _
    have : (mw (a : Int) b).p / (mw (a : Int) b).q % (mw (a : Int) b).u = ((p / q % u : Nat) : Int) := by rw [hu, hp, hq]; push_cast; rfl
    rw [this, hu]; omega
  constructor
  · unfold MaskEq;rw [hu, hp, hq, m4, m5, m6, m7, m8, f0, Int.toNat_natCast, Int.toNat_natCast];refine ⟨⟨by omega, e1⟩, ⟨by omega, by omega, e2⟩, ⟨by omega, by omega, e3⟩, ?_, ?_, ?_⟩
    · exact_mod_cast o1
    · exact_mod_cast o2
    · exact_mod_cast o3
  · unfold MW.X;rw [hu, hp, hq, m4, m5, m6, m7, m8];simp only [List.forall_mem_cons];exact ⟨Int.natCast_nonneg _, Int.natCast_nonneg _, Int.natCast_nonneg _, Int.natCast_nonneg _, Int.natCast_nonneg _, Int.natCast_nonneg _, Int.natCast_nonneg _, Int.natCast_nonneg _, Int.natCast_nonneg _, Int.natCast_nonneg _, by simp⟩
theorem toW_small {x : Nat} (h : x < 4294967296) : (toW (x : Int)).length ≤ 1 := (toW_len_le (by omega) 1).2 (by rw [BB_succ, BB_zero]; omega)
theorem mask_small {a b : Int} (ha : 0 ≤ a) (hb : 0 ≤ b) (ha2 : a ≤ 120) (hb2 : b ≤ 120) (h : undI a b) : ∃ E : Nat, E ≤ 43000 ∧ ∀ x ∈ (mw a b).X a b, x.natAbs ≤ 2 ^ E ∧ Fit x := by
  obtain ⟨h1, h2⟩ := mask_found_int ha hb h;obtain ⟨p1, p2, p3⟩ := mw_pos ha hb;have hu : (mw a b).u ≤ 2 ^ 121 := pow_le_r (by omega) (by omega)
  have hu2 : (mw a b).u + 1 ≤ 2 ^ 122 := by
    have : (2 : Int) ^ 122 = 2 * 2 ^ 121 := by rw [Int.pow_succ]; omega
    omega
  obtain ⟨E, hE⟩ : ∃ E : Nat, E = 15000 := ⟨_, rfl⟩
  have hp : (mw a b).p ≤ 2 ^ E := by
    show ((mw a b).u + 1) ^ b.toNat ≤ _;have h2 : ((mw a b).u + 1) ^ b.toNat ≤ (2 ^ 122) ^ b.toNat := pow_le_l (by omega) hu2 _;rw [← Int.pow_mul] at h2;exact Int.le_trans h2 (pow_le_r (by omega) (by omega))
  have hq : (mw a b).q ≤ 2 ^ E := by
    show (mw a b).u ^ a.toNat ≤ _;have h2 : (mw a b).u ^ a.toNat ≤ (2 ^ 121) ^ a.toNat := pow_le_l (by omega) hu _;rw [← Int.pow_mul] at h2;exact Int.le_trans h2 (pow_le_r (by omega) (by omega))
  have hu3 : (mw a b).u ≤ 2 ^ E := Int.le_trans hu (pow_le_r (by omega) (by omega));have hc : (300 : Int) ≤ 2 ^ E := Int.le_trans (by decide : (300 : Int) ≤ 2 ^ 9) (pow_le_r (by omega) (by omega));obtain ⟨_, _, _, e4, e5, e6⟩ := h1;have hX : (mw a b).X a b = [a, b, (mw a b).u, (mw a b).p, (mw a b).q, (mw a b).z, (mw a b).y, (mw a b).r, (mw a b).s, (mw a b).t] := rfl
  have hy : (mw a b).y ≤ (mw a b).p := by
    show (mw a b).p / (mw a b).q / (mw a b).u ≤ _;exact Int.le_trans (Int.ediv_le_self _ (Int.ediv_nonneg (by omega) (by omega))) (Int.ediv_le_self _ (by omega))
  have hle : ∀ x ∈ (mw a b).X a b, x ≤ 2 ^ E := by
    rw [hX] at h2 ⊢;simp only [List.forall_mem_cons] at h2 ⊢;obtain ⟨g0, g1, g2, g3, g4, g5, g6, g7, g8, g9, _⟩ := h2;exact ⟨by omega, by omega, hu3, hp, hq, by omega, by omega, by omega, by omega, by omega, by simp⟩
  refine ⟨E, by rw [hE]; decide, fun x hx => ?_⟩;have h0 := h2 x hx;have hl := hle x hx;refine ⟨?_, fit_pow2 h0 hl (by omega)⟩
  have h4 : x.natAbs ≤ 2 ^ E := by
    have : ((x.natAbs : Nat) : Int) ≤ ((2 ^ E : Nat) : Int) := by
      rw [Int.natCast_pow];show ((x.natAbs : Nat) : Int) ≤ (2 : Int) ^ E;omega
    exact Int.ofNat_le.1 this
  exact h4
end Go.AL
namespace Go.Proofs.YtcaecieigoplbaaGreat
open Go.AL
theorem mask_yes (a b : Int) (ha : 0 ≤ a) (hb : 0 ≤ b) (ha2 : a ≤ 120) (hb2 : b ≤ 120) (h : undI a b) : PureFn Tryz.prog 25 [aS mkS, .sl 2 eX ((mw a b).X a b)] (.tup [aB true, aN 0]) := by
  obtain ⟨h1, h2⟩ := mask_found_int ha hb h;obtain ⟨E, hE, hs⟩ := mask_small ha hb ha2 hb2 h;exact Holds_yes mkS _ mkS_w mkS_ok (fun x hx => (hs x hx).2) rfl h2 (mk_ev hE rfl fun x hx => (hs x hx).1) ((mk_hol _ _ _ _ _ _ _ _ _ _).2 h1)
theorem awake12_ok : PureFn Tryz.prog 22 [] (aB true) := by
  refine PureFn.of_body Tryz.func22 rfl Tryz.ntmps22 rfl rfl ?_;have u11 : undI 1 1 := rfl
  have u12 : ¬ undI 1 2 := by unfold undI; decide
  have c1 := mWitness_ok 1 1 (by omega) (by omega) (by omega) (by omega) u11;have c2 := mask_yes 1 1 (by omega) (by omega) (by omega) (by omega) u11;obtain ⟨L, hL⟩ : ∃ L, L = (mw 1 1).X 1 1 := ⟨_, rfl⟩
  have hLl : L.length = 10 := by rw [hL]; rfl
  have g3 : L[(3 : Int).toNat]? = some 5 := by rw [hL]; rfl
  have g9 : L[(9 : Int).toNat]? = some 2 := by rw [hL]; rfl
  rw [← hL] at c1 c2;refine AWP.seqS ?_;(repeat' (first |refine Fl.v rfl rfl rfl ?_ |refine Fl.nilF ?_ |refine AWP.region ?_));refine ⟨AWP.seqS ?_⟩;(repeat' (first |refine AWP.region ?_));refine Fl.call rfl (c1) rfl rfl rfl (LeL.refl _) ?_;(repeat' (first |refine Fl.v rfl rfl rfl ?_ |refine Fl.nilF ?_));refine ⟨AWP.seqS ?_⟩;(repeat' (first |refine AWP.region ?_));refine Fl.call rfl (maskLinks_ok) rfl rfl rfl (LeL.refl _) ?_;(repeat' (first |refine Fl.v rfl rfl rfl ?_));refine Fl.call rfl (c2) rfl rfl rfl (LeL.refl _) ?_;(repeat' (first |refine Fl.v rfl rfl rfl ?_ |refine Fl.nilF ?_));refine ⟨AWP.seqS ?_⟩;(repeat' (first |refine AWP.region ?_));refine Fl.call rfl (mWitness_none 1 2 (by omega) (by omega) (by omega) (by omega) u12) rfl rfl rfl (LeL.refl _) ?_;(repeat' (first |refine Fl.v rfl rfl rfl ?_ |refine Fl.nilF ?_));refine ⟨?_⟩;(repeat' (first |refine Fl.v rfl rfl rfl ?_ |refine AWP.seq ?_ |refine AWP.region ?_ |refine Fl.elK rfl rfl rfl rfl rfl rfl rfl rfl (by assumption) (by omega) ?_ |(refine Fl.splitD rfl rfl ?_ ?_ <;> intro _ <;> try (exfalso; omega))));refine Fl.call rfl (rOf_ok 5 (by omega) (by omega)) rfl rfl rfl (LeL.refl _) ?_;skip;refine Fl.call rfl (rSame_ok 5 5 (Nat.le_trans (toW_small (x := 5) (by omega)) (by omega))) rfl rfl rfl (LeL.refl _) ?_;(repeat' (first |refine Fl.v rfl rfl rfl ?_ |refine Fl.elK rfl rfl rfl rfl rfl rfl rfl rfl (by assumption) (by omega) ?_ |(refine Fl.splitD rfl rfl ?_ ?_ <;> intro _ <;> try (exfalso; omega))));refine Fl.call rfl (rOf_ok 2 (by omega) (by omega)) rfl rfl rfl (LeL.refl _) ?_;skip;refine Fl.call rfl (rSame_ok 2 2 (Nat.le_trans (toW_small (x := 2) (by omega)) (by omega))) rfl rfl rfl (LeL.refl _) ?_;(repeat' (first |refine Fl.v rfl rfl rfl ?_ |refine Fl.nil (fun _ => by kernel_rfl) ?_ |refine AWP.ret ?_));exact RetOk.of rfl (AV.Le.refl _)
end Go.Proofs.YtcaecieigoplbaaGreat
/- MaskChooses. -/
namespace Go.Proofs.YtcaecieigoplbaaGreat
open Go.AL
theorem ch_len {n k : Nat} (h : n ≤ 1000) : (toW ((ch n k : Int)).natAbs).length ≤ 4096 := (ch_fit h).len
end Go.Proofs.YtcaecieigoplbaaGreat
/- MaskLucas. -/
namespace Go.AL
theorem carr_le : ∀ (f m k c : Nat), c ≤ 1 → carr f m k c ≤ f
  | 0, _, _, _, _ => Nat.le_refl _
  | f + 1, m, k, c, hc => by
    have ih := carr_le f (m / 2) (k / 2) ((m % 2 + k % 2 + c) / 2) (by omega);simp only [carr];omega
theorem first_par {c w : Int} (h0 : 0 ≤ c) (hw : (toW c)[0]? = some w) : w % 2 = c % 2 := by
  have hv := val_toW h0
  cases hl : toW c with
  | nil => rw [hl] at hw; simp at hw
  | cons x l =>
    rw [hl] at hw hv;simp at hw;subst hw;rw [val] at hv;omega
end Go.AL
namespace Go.Proofs.YtcaecieigoplbaaGreat
open Go.AL

theorem pow2_fit {n : Nat} (h : n ≤ 20) : lenI ((2 : Int) ^ n) ≤ 1 := by
  refine lenI_small ?_;rw [Int.natAbs_pow];have : 2 ^ n ≤ 2 ^ 20 := Nat.pow_le_pow_right (by omega) h;show 2 ^ n < _;omega

set_option maxHeartbeats 1000000 in
theorem MaskLucas_ok (m k : Int) (hm0 : 0 ≤ m) (hm1 : m ≤ 65535) (hk0 : 0 ≤ k) (hk1 : k ≤ 65535) : PureFn Tryz.prog 10 [.v (.int .u16 m), .v (.int .u16 k)] (aB true) := by
  refine PureFn.of_body Tryz.func10 rfl Tryz.ntmps10 rfl rfl ?_;obtain ⟨a, ha⟩ : ∃ a : Nat, m % 150 = a := ⟨(m % 150).toNat, by omega⟩;obtain ⟨b, hb⟩ : ∃ b : Nat, k % 150 = b := ⟨(k % 150).toNat, by omega⟩
  have ha1 : a < 150 := by omega
  have hb1 : b < 150 := by omega
  have c1 := Choose_ok (a + b) b (by omega) (by omega);have c2 := Choose_ok a b (by omega) (by omega);have c3 := Choose_ok (a + 1) (b + 1) (by omega) (by omega);have c4 := Choose_ok a (b + 1) (by omega) (by omega)
  have hsum : ((ch (a + 1) (b + 1) : Nat) : Int) = (ch a b : Nat) + (ch a (b + 1) : Nat) := by rw [ch_succ]; omega
  have l1 := ch_len (n := a + b) (k := b) (by omega);have l2 := ch_len (n := a) (k := b) (by omega);have l3 := ch_len (n := a + 1) (k := b + 1) (by omega);have l4 := ch_len (n := a) (k := b + 1) (by omega);have hpar := ch_und a b;have hkm := kummer (f := 9) (m := a) (k := b) (by omega);obtain ⟨n, hn⟩ : ∃ n, n = carr 9 a b 0 := ⟨_, rfl⟩
  have hn9 : n ≤ 9 := by rw [hn]; exact carr_le 9 a b 0 (by omega)
  rw [← hn] at hkm;have c5 := carries_ok 9 a b (by omega) (by omega) (by omega);rw [← hn] at c5;have one1 : (toW (1 : Int)).length ≤ 1 := lenI_small (x := 1) (by decide);have s1 := rShift_ok 1 0 n n (by omega) (by omega) (by omega) (by omega) (by omega);have s2 := rShift_ok 1 0 (n + 1) (n + 1) (by omega) (by omega) (by omega) (by omega) (by omega);rw [Int.one_mul] at s1 s2;have p1 := pow2_fit (n := n) (by omega);have p2 := pow2_fit (n := n + 1) (by omega)
  have d1 : ((2 : Int) ^ n ∣ ((ch (a + b) b : Nat) : Int)) := by
    have := Int.natCast_dvd_natCast.2 hkm.1;rwa [Int.natCast_pow] at this
  have d2 : ¬ ((2 : Int) ^ (n + 1) ∣ ((ch (a + b) b : Nat) : Int)) := fun h => hkm.2 (Int.natCast_dvd_natCast.1 (by rw [Int.natCast_pow]; exact h));obtain ⟨x, hx⟩ : ∃ x : Int, x = ((ch (a + b) b : Nat) : Int) := ⟨_, rfl⟩;obtain ⟨y, hy⟩ : ∃ y : Int, y = ((ch a b : Nat) : Int) := ⟨_, rfl⟩;obtain ⟨p, hp⟩ : ∃ p : Int, p = ((ch (a + 1) (b + 1) : Nat) : Int) := ⟨_, rfl⟩;obtain ⟨q, hq⟩ : ∃ q : Int, q = ((ch a (b + 1) : Nat) : Int) := ⟨_, rfl⟩
  have hy0 : 0 ≤ y := by omega
  have hpy : y % 2 = 1 ↔ undI b a := by rw [← hpar, hy]; omega
  rw [← hx] at c1 l1 d1 d2;rw [← hy] at c2 l2 hsum;rw [← hp] at c3 l3 hsum;rw [← hq] at c4 l4 hsum;have v1 := rDivides_ok (2 ^ n) x (by omega) (show (toW (x.natAbs : Int)).length ≤ 39000 by omega);have v2 := rDivides_ok (2 ^ (n + 1)) x (by omega) (show (toW (x.natAbs : Int)).length ≤ 39000 by omega);rw [decide_eq_true d1] at v1;rw [decide_eq_false d2] at v2;have u1 := Under_ok b a (fit_small (by omega) (by omega)) (fit_small (by omega) (by omega));rw [if_neg (by omega)] at u1
  have eY : aX y = .agg [aB false, aW (toW y)] := by
    show AV.agg [aB (decide (y < 0)), aW (toW ((y.natAbs : Nat) : Int))] = _;rw [decide_eq_false (by omega), abs_self hy0]
  have wY := toW_ok (y.natAbs : Int);obtain ⟨o, ho⟩ : ∃ o : Bool, o = decide (y % 2 = 1) := ⟨_, rfl⟩
  have hu : decide (0 ≤ (b : Int) ∧ 0 ≤ (a : Int) ∧ undI b a) = o := by
    rw [ho]; exact decide_eq_decide.2 ⟨fun h => hpy.2 h.2.2, fun h => ⟨by omega, by omega, hpy.1 h⟩⟩
  rw [hu] at u1;refine AWP.seqS ?_;(repeat' (first |refine Fl.v rfl rfl rfl ?_ |refine Fl.nilF ?_ |refine AWP.region ?_));refine ⟨?_⟩;refine AWP.seqJ (G := Unit) (fun _ => True) (fun _ => St.of [] [(5, aN a), (6, aN b)] []) ?_ ?_
  · (repeat' (first |refine Fl.v rfl rfl rfl ?_ |refine Fl.nilF ?_ |refine AWP.region ?_ |refine Fl.w rfl rfl rfl (by first | exact True.intro | omega) ?_ |refine Fl.cvS rfl rfl rfl rfl rfl rfl ?_));refine JoinOk.of () trivial ?_;refine Ent.of [] ?_ ?_ rfl rfl;(repeat' (first |exact True.intro |refine ⟨⟨AV.Le.int ?_, rfl⟩, ?_⟩|fail))
    · omega
    · omega
  intro _ _;refine AWP.seqS ?_;(repeat' (first |refine Fl.v rfl rfl rfl ?_ |refine AWP.region ?_ |refine Fl.w rfl rfl rfl (by first | exact True.intro | omega) ?_|fail));refine Fl.call rfl (c1) rfl rfl rfl (LeL.refl _) ?_;(repeat' (first |refine Fl.v rfl rfl rfl ?_ |refine Fl.nilF ?_ |refine Fl.b rfl rfl rfl rfl ?_));refine ⟨AWP.seqS ?_⟩;(repeat' (first |refine Fl.v rfl rfl rfl ?_ |refine AWP.region ?_));refine Fl.call rfl (c2) rfl rfl rfl (LeL.refl _) ?_;(repeat' (first |refine Fl.v rfl rfl rfl ?_ |refine Fl.nilF ?_ |refine Fl.b rfl rfl rfl rfl ?_));refine ⟨AWP.seqS ?_⟩;(repeat' (first |refine Fl.v rfl rfl rfl ?_ |refine AWP.region ?_));refine Fl.call rfl (rOf_ok b (by omega) (by omega)) rfl rfl rfl (LeL.refl _) ?_;(repeat' (first |refine Fl.v rfl rfl rfl ?_));refine Fl.call rfl (rOf_ok a (by omega) (by omega)) rfl rfl rfl (LeL.refl _) ?_;skip;refine Fl.call rfl (u1) rfl rfl rfl (LeL.refl _) ?_;(repeat' (first |refine Fl.v rfl rfl rfl ?_ |refine Fl.nilF ?_));refine ⟨AWP.seqS ?_⟩;(repeat' (first |refine Fl.v rfl rfl rfl ?_ |refine AWP.region ?_ |refine Fl.w rfl rfl rfl (by first | exact True.intro | omega) ?_|fail));refine Fl.call rfl c3 rfl rfl rfl (LeL.cons (AV.Le.int (by omega)) (LeL.cons (AV.Le.int (by omega)) LeL.nil)) ?_;(repeat' (first |refine Fl.v rfl rfl rfl ?_ |refine Fl.nilF ?_ |refine Fl.b rfl rfl rfl rfl ?_));refine ⟨AWP.seqS ?_⟩;(repeat' (first |refine Fl.v rfl rfl rfl ?_ |refine AWP.region ?_ |refine Fl.w rfl rfl rfl (by first | exact True.intro | omega) ?_|fail));refine Fl.call rfl c4 rfl rfl rfl (LeL.cons (AV.Le.refl _) (LeL.cons (AV.Le.int (by omega)) LeL.nil)) ?_;(repeat' (first |refine Fl.v rfl rfl rfl ?_ |refine Fl.nilF ?_ |refine Fl.b rfl rfl rfl rfl ?_));refine ⟨AWP.seqS ?_⟩;(repeat' (first |refine Fl.v rfl rfl rfl ?_ |refine Fl.nilF ?_ |refine AWP.seq ?_ |refine AWP.region ?_ |refine AWP.condF rfl ?_ |refine AWP.skip ?_));refine ⟨AWP.seqS ?_⟩;(repeat' (first |refine Fl.v rfl rfl rfl ?_ |refine AWP.region ?_));refine Fl.call rfl (c5) rfl rfl rfl (LeL.refl _) ?_;(repeat' (first |refine Fl.v rfl rfl rfl ?_ |refine Fl.nilF ?_));refine ⟨?_⟩;refine AWP.seqJ (G := Unit) (fun _ => True) (fun _ => St.of [] [(7, .ptr 7 0), (9, .ptr 9 0), (11, aB o), (13, .ptr 13 0), (15, .ptr 15 0), (17, aN n), (18, aB o)] [(7, .cells (eX x) 35), (9, .cells (eX y) 35), (13, .cells (eX p) 35), (15, .cells (eX q) 35)]) ?_ ?_
  · (repeat' (first |refine Fl.v rfl rfl rfl ?_ |refine Fl.nilF ?_ |refine AWP.region ?_ |refine Fl.w rfl rfl rfl (by first | exact True.intro | omega) ?_ |refine Fl.skip rfl rfl ?_ |(refine Fl.elW rfl rfl rfl rfl rfl rfl rfl rfl (by omega) (by omega) (by assumption) ?_; intro _ _ _ _) |(refine Fl.splitD rfl rfl ?_ ?_ <;> intro _ <;> try (exfalso; omega))))
    · rename_i hl w hw hw0 hw1;have hw2 := first_par (c := (y.natAbs : Int)) (by omega) hw;rw [abs_self hy0] at hw2;refine JoinOk.of () trivial ?_;refine Ent.of [] ?_ ?_ rfl rfl;(repeat' (first |exact True.intro |refine ⟨⟨AV.Le.refl _, rfl⟩, ?_⟩ |refine ⟨⟨⟨_, rfl, BLe.cells (LeL.refl _)⟩, rfl⟩, ?_⟩ |refine ⟨⟨AV.Le.bool ?_, rfl⟩, ?_⟩|fail));rw [ho];exact decide_eq_decide.2 (by omega)
    · rename_i hl;refine JoinOk.of () trivial ?_;refine Ent.of [] ?_ ?_ rfl rfl;(repeat' (first |exact True.intro |refine ⟨⟨AV.Le.refl _, rfl⟩, ?_⟩ |refine ⟨⟨⟨_, rfl, BLe.cells (LeL.refl _)⟩, rfl⟩, ?_⟩ |refine ⟨⟨AV.Le.bool ?_, rfl⟩, ?_⟩|fail))
      have : y = 0 := by
        have h1 : (y.natAbs : Int) = 0 := (toW_nil_iff (by omega)).1 (List.eq_nil_of_length_eq_zero (by omega));omega
      rw [ho, this];rfl
  intro _ _;have ra := rAdd_ok y q (by omega) (by omega);rw [← hsum] at ra;have rs := rSame_ok p p (by omega);rw [decide_eq_true rfl] at rs;(repeat' (first |refine Fl.v rfl rfl rfl ?_ |refine Fl.nil (fun _ => by kernel_rfl) ?_ |refine AWP.seq ?_ |refine AWP.region ?_ |refine Fl.skip rfl rfl ?_ |refine AWP.ret ?_ |(refine Fl.splitD rfl rfl ?_ ?_ <;> intro _ <;> try (exfalso; omega))))
  · refine Fl.call rfl (rOf_ok 1 (by omega) (by omega)) rfl rfl rfl (LeL.refl _) ?_;(repeat' (first |refine Fl.v rfl rfl rfl ?_));refine Fl.call rfl (s1) rfl rfl rfl (LeL.refl _) ?_;(repeat' (first |refine Fl.v rfl rfl rfl ?_));refine Fl.call rfl (v1) rfl rfl rfl (LeL.refl _) ?_;(repeat' (first |refine Fl.v rfl rfl rfl ?_));refine Fl.call rfl (rOf_ok 1 (by omega) (by omega)) rfl rfl rfl (LeL.refl _) ?_;(repeat' (first |refine Fl.v rfl rfl rfl ?_ |refine Fl.w rfl rfl rfl (by first | exact True.intro | omega) ?_|fail));refine Fl.call rfl (s2) rfl rfl rfl (LeL.refl _) ?_;(repeat' (first |refine Fl.v rfl rfl rfl ?_));refine Fl.call rfl (v2) rfl rfl rfl (LeL.refl _) ?_;(repeat' (first |refine Fl.v rfl rfl rfl ?_));refine Fl.call rfl (ra) rfl rfl rfl (LeL.refl _) ?_;skip;refine Fl.call rfl (rs) rfl rfl rfl (LeL.refl _) ?_;(repeat' (first |refine Fl.v rfl rfl rfl ?_));refine Fl.call rfl (awake12_ok) rfl rfl rfl (LeL.refl _) ?_;(repeat' (first |refine Fl.v rfl rfl rfl ?_ |refine Fl.nil (fun _ => by kernel_rfl) ?_ |refine AWP.ret ?_));exact RetOk.of rfl (AV.Le.refl _)
  · rename_i h;exact absurd rfl h
end Go.Proofs.YtcaecieigoplbaaGreat

/- Part 6 of a proof layer and of the contracts of the functions (XRG XZ1 XJ0 XJ1 XZ2 XRH XRI XRJ XZ3 XZ4 XZ5 XRK XRL XRM XRN XRO XRV XRP XZ6 XYF XYG XYH XYI XYK). -/
import Derived.Test.YtcaecieigoplbaaGreatW5
set_option linter.unusedVariables false
set_option linter.unusedSimpArgs false
/- poly.Var, poly.Const; expr's Kit: New, V, N, Sub, Add, Mul. -/
namespace Go.AL
def unU (V i : Nat) : List Int := (List.replicate V 0).set i 1
def varU (V i : Nat) : List UT := [(1, unU V i)]
def conU (V : Nat) (c : Int) : List UT := if c = 0 then [] else [(c, List.replicate V 0)]
/-- sums and products one after the other, and whether they stand by inspection -/
def okSums (V : Nat) : List UT → List (List UT) → Bool
  | acc, [] => chkU V acc acc
  | acc, p :: l => chkU V acc acc && chkU V p p && chkU V (addUs 1 acc p) (addL acc p) && okSums V (addL acc p) l
def okMuls (V : Nat) : List UT → List (List UT) → Bool
  | acc, [] => chkU V acc acc
  | acc, p :: l => chkU V acc acc && chkU V p p && degU acc p && chkU V (mulUs acc p) (mulL2 acc p) && okMuls V (mulL2 acc p) l
def sumsU (acc : List UT) (l : List (List UT)) : List UT := l.foldl addL acc
def mulsU (acc : List UT) (l : List (List UT)) : List UT := l.foldl mulL2 acc
end Go.AL
namespace Go.Proofs.YtcaecieigoplbaaGreat
open Go.AL
abbrev aK (V : Nat) : AV := .agg [aN V]

theorem pVarP_ok (V i : Nat) (hV : V ≤ 32) (hi : i < V) : PureFn Tryz.prog 135 [aN V, aN i] (.tup [aP (mkP V (varU V i)), aN 0]) := by
  refine PureFn.of_body Tryz.func135 rfl Tryz.ntmps135 rfl rfl ?_;refine AWP.seqS ?_;(repeat' (first |refine Fl.v rfl rfl rfl ?_ |refine Fl.nilF ?_ |refine AWP.region ?_ |refine Fl.b rfl rfl rfl rfl ?_));refine ⟨AWP.seqS ?_⟩;(repeat' (first |refine Fl.v rfl rfl rfl ?_ |refine Fl.nilF ?_ |refine AWP.seq ?_ |refine AWP.region ?_ |(refine AWP.condD rfl ?_ ?_ <;> intro _ <;> try (exfalso; omega)) |refine AWP.skip ?_ |(refine Fl.splitD rfl rfl ?_ ?_ <;> intro _ <;> try (exfalso; omega))));refine ⟨AWP.seqS ?_⟩;(repeat' (first |refine Fl.v rfl rfl rfl ?_ |refine Fl.nilF ?_ |refine AWP.region ?_ |refine Fl.make rfl rfl rfl rfl rfl rfl rfl rfl rfl rfl eI 0 (by exact LeL.refl _) (by rfl) (by first | omega | (dsimp only; omega)) (by first | omega | (dsimp only; omega)) (by first | omega | (dsimp only; omega)) ?_|fail));refine ⟨AWP.seqS ?_⟩;(repeat' (first |refine Fl.v rfl rfl rfl ?_ |refine Fl.nilF ?_ |refine AWP.region ?_ |refine Fl.rel rfl rfl rfl rfl rfl rfl rfl rfl (by omega) (by first | omega | (simp; omega)) ?_ |refine Fl.rst rfl rfl rfl rfl rfl rfl rfl rfl rfl rfl rfl (LeL.refl _) rfl (by first | omega | (simp; omega)) ?_|fail));refine ⟨?_⟩;refine AWP.ent (Ent.freeze 24 rfl) ?_;(repeat' (first |refine Fl.v rfl rfl rfl ?_ |refine AWP.seq ?_ |refine AWP.region ?_));refine Fl.call rfl (Of_ok 1 (by omega) (by omega)) rfl rfl rfl (LeL.refl _) ?_;(repeat' (first |refine Fl.v rfl rfl rfl ?_ |refine Fl.b rfl rfl rfl rfl ?_));refine Fl.lit rfl rfl rfl rfl rfl eT [⟨zOf 1, unU V i⟩] rfl rfl rfl rfl (by intro _ _; rfl) rfl ?_;(repeat' (first |refine Fl.v rfl rfl rfl ?_ |refine Fl.nilF ?_ |refine Fl.b rfl rfl rfl rfl ?_ |refine AWP.ret ?_));exact RetOk.of rfl (AV.Le.refl _)

theorem xCopy_ok (X : List Int) (hX : ∀ x ∈ X, Fit x) (hl : X.length ≤ 1000000) : PureFn Tryz.prog 217 [.sl 2 eX X] (.sl 2 eX X) := by
  refine PureFn.of_body Tryz.func217 rfl Tryz.ntmps217 rfl rfl ?_;refine AWP.seqS ?_;(repeat' (first |refine Fl.v rfl rfl rfl ?_ |refine Fl.nilF ?_ |refine AWP.region ?_));refine ⟨AWP.seqS ?_⟩;(repeat' (first |refine Fl.v rfl rfl rfl ?_ |refine AWP.region ?_));refine Fl.make rfl rfl rfl rfl rfl rfl rfl rfl rfl rfl eX 0 (by exact leX_zero (σ := []) rfl) (by rfl) (by omega) (by dsimp only; omega) (by omega) ?_;(repeat' (first |refine Fl.v rfl rfl rfl ?_ |refine Fl.nilF ?_));refine ⟨?_⟩;refine AWP.seqJ (G := Unit) (fun _ => True) (fun _ => St.of [] [(3, .row 8)] [(8, .row 2 eX X 35)]) ?_ ?_
  · (repeat' (first |refine Fl.v rfl rfl rfl ?_ |refine Fl.nilF ?_ |refine AWP.seq ?_ |refine AWP.region ?_ |refine AWP.block ?_));refine AWP.loop (G := Nat) (fun i => i ≤ X.length) (fun i => St.of [] [(3, .row 8), (9, .sl 2 eX X), (10, aN X.length), (11, aN i)] [(8, .row 2 eX (X.take i ++ List.replicate (X.length - i) 0) 35)]) (fun i => X.length - i) 0 (by omega) ?_ ?_
    · refine Ent.of [] ?_ ?_ rfl rfl;(repeat' (first |exact True.intro |refine ⟨⟨AV.Le.refl _, rfl⟩, ?_⟩ |refine ⟨⟨⟨_, rfl, BLe.row rfl⟩, rfl⟩, ?_⟩|fail))
    · intro i h0
      have hli : (X.take i ++ List.replicate (X.length - i) (0 : Int)).length = X.length := by simp; omega
      (repeat' (first |refine Fl.v rfl rfl rfl ?_ |refine Fl.nilF ?_ |refine AWP.seq ?_ |refine AWP.region ?_ |refine Fl.b rfl rfl rfl rfl ?_ |(refine AWP.condD rfl ?_ ?_ <;> intro _ <;> try (exfalso; omega)) |refine AWP.block ?_ |refine AWP.skip ?_ |refine AWP.exit ?_ |(refine Fl.el rfl rfl rfl rfl rfl rfl rfl rfl (by omega) (by omega) ?_; intro _ _)|fail))
      · rename_i hi x hx;rw [Int.toNat_natCast] at hx;have hxl := (hX x (List.mem_of_getElem? hx)).len;refine Fl.ap0C rfl rfl rfl rfl rfl rfl rfl eW rfl (fun _ => rfl) (fun _ => rfl) (AV.Le.refl _) (by dsimp only; omega) (by omega) ?_;(repeat' (first |refine Fl.v rfl rfl rfl ?_ |refine Fl.nilF ?_ |refine Fl.nil (fun _ => by kernel_rfl) ?_ |refine AWP.region ?_ |refine Fl.w rfl rfl rfl (by first | exact True.intro | omega) ?_ |refine Fl.b rfl rfl rfl rfl ?_ |refine Fl.rel rfl rfl rfl rfl rfl rfl rfl rfl (by omega) (by first | omega | (simp; omega)) ?_ |refine Fl.rst rfl rfl rfl rfl rfl rfl rfl rfl rfl rfl rfl (LeL.refl _) rfl (by first | omega | (simp; omega)) ?_|fail));refine LoopEnd.of (i + 1) (by omega) (by omega) ?_;refine Ent.of [] ?_ ?_ rfl rfl;(repeat' (first |exact True.intro |refine ⟨⟨AV.Le.refl _, rfl⟩, ?_⟩ |refine ⟨⟨⟨_, rfl, BLe.row ?_⟩, rfl⟩, ?_⟩|fail));rw [take_snoc hx];exact set_rep (by rw [List.length_take]; omega) (by omega) rfl
      · have hi : i = X.length := by omega
        refine JoinOk.of () trivial ?_;refine Ent.of [] ?_ ?_ rfl rfl;(repeat' (first |exact True.intro |refine ⟨⟨AV.Le.refl _, rfl⟩, ?_⟩ |refine ⟨⟨⟨_, rfl, BLe.row ?_⟩, rfl⟩, ?_⟩|fail));rw [hi]; simp
  · intro _ _;(repeat' (first |refine Fl.v rfl rfl rfl ?_ |refine Fl.nilF ?_ |refine AWP.seq ?_ |refine AWP.region ?_ |refine AWP.ret ?_));refine RetOk.ent (Ent.freeze 8 rfl) ?_;exact RetOk.of rfl (AV.Le.refl _)
theorem constant_ok (V : Nat) (x : Int) (hV : V ≤ 32) (hx : Fit x) : PureFn Tryz.prog 181 [aN V, aX x] (aP (mkP V (conU V x))) := by
  refine PureFn.of_body Tryz.func181 rfl Tryz.ntmps181 rfl rfl ?_;refine AWP.seqS ?_;(repeat' (first |refine Fl.nilF ?_ |refine AWP.region ?_ |refine Fl.b rfl rfl rfl rfl ?_));refine ⟨AWP.seqS ?_⟩;(repeat' (first |refine Fl.v rfl rfl rfl ?_ |refine Fl.nilF ?_ |refine AWP.region ?_ |refine Fl.b rfl rfl rfl rfl ?_));refine ⟨?_⟩;refine AWP.seq ?_;(repeat' (first |refine Fl.v rfl rfl rfl ?_ |refine AWP.seq ?_ |refine AWP.region ?_));refine Fl.call rfl (ZeroX_ok x) rfl rfl rfl (LeL.refl _) ?_;(repeat' (first |refine Fl.v rfl rfl rfl ?_ |refine Fl.nilF ?_ |refine AWP.seq ?_ |refine AWP.region ?_ |refine Fl.b rfl rfl rfl rfl ?_ |(refine AWP.condN rfl ?_ ?_ <;> intro _ <;> try (exfalso; omega)) |refine AWP.skip ?_ |refine AWP.ret ?_))
  · rename_i h0;refine Fl.lit rfl rfl rfl rfl rfl eX [x] rfl rfl rfl rfl (by intro _ _; rfl) rfl ?_;skip;have e0 : [x][(0 : Int).toNat]? = some x := rfl;refine Fl.call rfl (xCopy_ok [x] (by simp [hx]) (by simp)) rfl rfl rfl (LeL.refl _) ?_;(repeat' (first | refine Fl.v rfl rfl rfl ?_ | refine Fl.elK rfl rfl rfl rfl rfl rfl rfl rfl (by assumption) (by omega) ?_ | fail));refine Fl.makeC rfl rfl rfl rfl rfl rfl rfl rfl rfl eI 0 (by exact LeL.refl _) (by rfl) (by omega) (by dsimp only; omega) (by omega) ?_;(repeat' (first |refine Fl.b rfl rfl rfl rfl ?_));refine Fl.lit rfl rfl rfl rfl rfl eT [⟨zOf x, List.replicate V 0⟩] rfl rfl rfl rfl (by intro _ _; rfl) rfl ?_;(repeat' (first |refine Fl.v rfl rfl rfl ?_ |refine Fl.nilF ?_ |refine Fl.nil (fun _ => by kernel_rfl) ?_ |refine AWP.seq ?_ |refine AWP.region ?_ |refine Fl.b rfl rfl rfl rfl ?_ |refine AWP.ret ?_));refine RetOk.of rfl ?_;rw [conU, if_neg h0];exact AV.Le.refl _
  · rename_i h0;refine RetOk.of rfl ?_;rw [conU, if_pos h0];exact AV.Le.agg (LeL.cons (AV.Le.refl _) (LeL.cons (AV.Le.nil 3 eT) LeL.nil))
theorem pConstP_ok (V : Nat) (x : Int) (hV : V ≤ 32) (hx : Fit x) : PureFn Tryz.prog 136 [aN V, aX x] (.tup [aP (mkP V (conU V x)), aN 0]) := by
  refine PureFn.of_body Tryz.func136 rfl Tryz.ntmps136 rfl rfl ?_;(repeat' (first |refine Fl.v rfl rfl rfl ?_ |refine Fl.nilF ?_ |refine AWP.seq ?_ |refine AWP.region ?_ |refine Fl.b rfl rfl rfl rfl ?_));refine Fl.call rfl (Valid_int x hx) rfl rfl rfl (LeL.refl _) ?_;(repeat' (first |refine Fl.v rfl rfl rfl ?_ |refine Fl.nilF ?_ |refine AWP.seq ?_ |refine AWP.region ?_ |refine AWP.condF rfl ?_ |(refine AWP.condD rfl ?_ ?_ <;> intro _ <;> try (exfalso; omega)) |refine AWP.skip ?_));refine Fl.call rfl (constant_ok V x hV hx) rfl rfl rfl (LeL.refl _) ?_;(repeat' (first |refine Fl.v rfl rfl rfl ?_ |refine Fl.nilF ?_ |refine Fl.b rfl rfl rfl rfl ?_ |refine AWP.ret ?_));exact RetOk.of rfl (AV.Le.refl _)
theorem kNew_ok (V : Nat) : PureFn Tryz.prog 63 [aN V] (aK V) := by
  refine PureFn.of_body Tryz.func63 rfl Tryz.ntmps63 rfl rfl ?_;(repeat' (first |refine Fl.v rfl rfl rfl ?_ |refine Fl.nilF ?_ |refine AWP.seq ?_ |refine AWP.region ?_ |refine Fl.b rfl rfl rfl rfl ?_ |refine AWP.ret ?_));exact RetOk.of rfl (AV.Le.refl _)
theorem kV_ok (V i : Nat) (hV : V ≤ 32) (hi : i < V) : PureFn Tryz.prog 64 [aK V, aN i] (aP (mkP V (varU V i))) := by
  refine PureFn.of_body Tryz.func64 rfl Tryz.ntmps64 rfl rfl ?_;(repeat' (first |refine Fl.v rfl rfl rfl ?_ |refine Fl.nilF ?_ |refine AWP.seq ?_ |refine AWP.region ?_ |refine Fl.b rfl rfl rfl rfl ?_));refine Fl.call rfl (pVarP_ok V i hV hi) rfl rfl rfl (LeL.refl _) ?_;(repeat' (first |refine Fl.v rfl rfl rfl ?_ |refine Fl.nilF ?_ |refine AWP.seq ?_ |refine AWP.region ?_ |refine Fl.b rfl rfl rfl rfl ?_ |refine AWP.ret ?_));exact RetOk.of rfl (AV.Le.refl _)
theorem kN_ok (V : Nat) (c : Int) (hV : V ≤ 32) (h0 : -4294967296 < c) (h1 : c < 4294967296) : PureFn Tryz.prog 65 [aK V, aN c] (aP (mkP V (conU V c))) := by
  refine PureFn.of_body Tryz.func65 rfl Tryz.ntmps65 rfl rfl ?_;(repeat' (first |refine Fl.v rfl rfl rfl ?_ |refine Fl.nilF ?_ |refine AWP.seq ?_ |refine AWP.region ?_ |refine Fl.b rfl rfl rfl rfl ?_));refine Fl.call rfl (Of_ok c (by omega) (by omega)) rfl rfl rfl (LeL.refl _) ?_;skip;refine Fl.call rfl (pConstP_ok V c hV (fit_small (by omega) (by omega))) rfl rfl rfl (LeL.refl _) ?_;(repeat' (first |refine Fl.v rfl rfl rfl ?_ |refine Fl.nilF ?_ |refine Fl.nil (fun _ => by kernel_rfl) ?_ |refine AWP.seq ?_ |refine AWP.region ?_ |refine Fl.b rfl rfl rfl rfl ?_ |refine AWP.ret ?_));exact RetOk.of rfl (AV.Le.refl _)
theorem subMk (V : Nat) (hV : V ≤ 32) (p q l : List UT) (hp : chkU V p p = true) (hq : chkU V q q = true) (h : chkU V (addUs (-1) p q) l = true) : PureFn Tryz.prog 161 [aP (mkP V p), aP (mkP V q)] (.tup [aP (mkP V l), aN 0]) := by
  obtain ⟨p1, p2, p3⟩ := mk_ok hV hp;obtain ⟨q1, q2, q3⟩ := mk_ok hV hq
  have hs : SumOk V (plusU (-1) (mkP V p) (mkP V q)) (mkP V l) := by rw [plusU_mk]; exact chkU_ok hV h
  exact pSub_ok V hV _ _ p3 q3 p1 q1 p2 q2 _ (fun x hx => by rw [hs.uniq hx]) (fun k => absurd ⟨_, hs⟩ k)
theorem kSub_ok (V : Nat) (hV : V ≤ 32) (p q l : List UT) (hp : chkU V p p = true) (hq : chkU V q q = true) (h : chkU V (addUs (-1) p q) l = true) : PureFn Tryz.prog 93 [aK V, aP (mkP V p), aP (mkP V q)] (aP (mkP V l)) := by
  refine PureFn.of_body Tryz.func93 rfl Tryz.ntmps93 rfl rfl ?_;(repeat' (first |refine Fl.v rfl rfl rfl ?_ |refine Fl.nilF ?_ |refine AWP.seq ?_ |refine AWP.region ?_ |refine Fl.b rfl rfl rfl rfl ?_));refine Fl.call rfl (subMk V hV p q l hp hq h) rfl rfl rfl (LeL.refl _) ?_;(repeat' (first |refine Fl.v rfl rfl rfl ?_ |refine Fl.nilF ?_ |refine AWP.seq ?_ |refine AWP.region ?_ |refine Fl.b rfl rfl rfl rfl ?_ |refine AWP.ret ?_));exact RetOk.of rfl (AV.Le.refl _)
end Go.Proofs.YtcaecieigoplbaaGreat
/- Lists of terms as the reference holds them: bounds. -/
namespace Go.AL
theorem lenI_neg (x : Int) : lenI (-x) = lenI x := by unfold lenI; rw [Int.natAbs_neg]
theorem lenI_add {x y : Int} {M : Nat} (hx : lenI x ≤ M) (hy : lenI y ≤ M) : lenI (x + y) ≤ M + 1 := by
  rw [lenI_le] at *
  rw [BB_succ];have := BB_pos M;omega
theorem lenI_zero : lenI 0 = 0 := by
  have := (lenI_le (x := 0) (n := 0)).2 (by simp [BB_zero]);omega
def okT (V M : Nat) (l : List UT) : Prop := ∀ u ∈ l, u.2.length = V ∧ EOk u.2 ∧ lenI u.1 ≤ M
theorem okT.nil (V M : Nat) : okT V M [] := fun u h => by simp at h
theorem okT.mono {V M N : Nat} {l : List UT} (h : okT V M l) (hm : M ≤ N) : okT V N l := fun u hu => ⟨(h u hu).1, (h u hu).2.1, Nat.le_trans (h u hu).2.2 hm⟩
theorem okT.lenU {V M : Nat} {l : List UT} (h : okT V M l) : lenU V l := fun u hu => (h u hu).1
theorem okT.append {V M : Nat} {a b : List UT} (ha : okT V M a) (hb : okT V M b) : okT V M (a ++ b) := fun u hu => (List.mem_append.1 hu).elim (ha u) (hb u)
theorem okT.sub {V M : Nat} {a b : List UT} (h : okT V M a) (hs : ∀ u ∈ b, u ∈ a) : okT V M b := fun u hu => h u (hs u hu)
theorem okT.terms {V M : Nat} {l : List UT} (h : okT V M l) : TermsOk V M (l.map tz) := by
  refine ⟨?_, ?_, ?_, ?_⟩ <;> (intro t ht; obtain ⟨u, hu, rfl⟩ := List.mem_map.1 ht)
  · exact toW_ok _
  · show zOf u.1 = zOf (zval (zOf u.1)); rw [zval_zOf]
  · exact ⟨(h u hu).2.1, (h u hu).1⟩
  · show lenI (zval (zOf u.1)) ≤ M; rw [zval_zOf]; exact (h u hu).2.2
theorem cfU_len {V M : Nat} {l : List UT} (hc : CanU l) (h : okT V M l) (e : List Int) : lenI (cfU l e) ≤ M := by
  by_cases hz : cfU l e = 0
  · rw [hz, lenI_zero]; omega
  · obtain ⟨u, hu, he⟩ := cfU_mem hz;rw [← he, cfU_one hc.pw hu];exact (h u hu).2.2
theorem okT.can {V M : Nat} {a b : List UT} (ca : CanU a) (cb : CanU b) (ha : okT V M a) (hb : okT V M b) : okT V (M + 1) (canU (a ++ b)) := fun u hu => by
  obtain ⟨w, hw, he⟩ := canU_mem hu;have h1 := (ha.append hb) w hw;refine ⟨by rw [he]; exact h1.1, by rw [he]; exact h1.2.1, ?_⟩;have := ((canU_can (a ++ b)).mem_iff u).1 hu;rw [← this.2, cfU_canU, cfU_append];exact lenI_add (cfU_len ca ha _) (cfU_len cb hb _)
theorem okT.can0 {V M : Nat} {l : List UT} (h : okT V M l) (hl : l.length < 2) : okT V M (canU l) := by
  match l, hl with
  | [], _ => exact h
  | [u], _ =>
    show okT V M (insU u []);unfold insU;split
    · exact okT.nil V M
    · exact h
theorem insU_length (u : UT) : ∀ l : List UT, (insU u l).length ≤ l.length + 1
  | [] => by unfold insU; split <;> simp
  | w :: l => by
    unfold insU;split
    · split <;> simp
    · split
      · split <;> simp <;> omega
      · have := insU_length u l;simp; omega
theorem canU_length : ∀ l : List UT, (canU l).length ≤ l.length
  | [] => Nat.le_refl _
  | u :: l => by
    show (insU u (canU l)).length ≤ _;have := insU_length u (canU l);have := canU_length l;simp; omega
theorem canU_halves (l : List UT) (k : Nat) : canU (canU (l.take k) ++ canU (l.drop k)) = canU l := canU_congr fun e => by
  rw [cfU_append, cfU_canU, cfU_canU, ← cfU_append, List.take_append_drop]
theorem conU_can (V : Nat) (c : Int) : canU [(c, List.replicate V 0)] = conU V c := by
  show insU _ [] = _;unfold insU conU;rfl
theorem CanU.one {u : UT} (h : u.1 ≠ 0) : CanU [u] := CanU.nil.cons h (by simp)
theorem EOk.unU (V i : Nat) : EOk (unU V i) := fun e he => by
  unfold Go.AL.unU at he;rcases List.mem_or_eq_of_mem_set he with h | h
  · rw [List.eq_of_mem_replicate h]; omega
  · omega
/-- a product's terms, in the reference's order -/
def mulR (p q : List UT) : List UT := q.flatMap fun t => p.map fun s => (s.1 * t.1, addE s.2 t.2)
theorem cfU_flatMap (f : UT → List UT) (e : List Int) : ∀ l : List UT, cfU (l.flatMap f) e = sumL (l.map fun u => cfU (f u) e)
  | [] => rfl
  | u :: l => by
    rw [List.flatMap_cons, cfU_append, cfU_flatMap f e l];rfl
theorem cfU_map (f : UT → UT) (e : List Int) : ∀ l : List UT, cfU (l.map f) e = sumL (l.map fun u => if (f u).2 = e then (f u).1 else 0)
  | [] => rfl
  | u :: l => by
    rw [List.map_cons, cfU, cfU_map f e l];rfl
theorem sumL_add {α : Type} (f g : α → Int) : ∀ l : List α, sumL (l.map fun x => f x + g x) = sumL (l.map f) + sumL (l.map g)
  | [] => rfl
  | x :: l => by
    simp only [List.map_cons, sumL];rw [sumL_add f g l]; omega
theorem sumL_zero {α : Type} : ∀ l : List α, sumL (l.map fun _ => (0 : Int)) = 0
  | [] => rfl
  | x :: l => by simp only [List.map_cons, sumL]; rw [sumL_zero l]; omega
theorem sumL_swap {α β : Type} (f : α → β → Int) (b : List β) : ∀ a : List α, sumL (a.map fun x => sumL (b.map fun y => f x y)) = sumL (b.map fun y => sumL (a.map fun x => f x y))
  | [] => by simp only [List.map_nil, sumL]; exact (sumL_zero b).symm
  | x :: a => by
    simp only [List.map_cons, sumL];rw [sumL_swap f b a, ← sumL_add]
theorem cfU_mulR (p q : List UT) (e : List Int) : cfU (mulR p q) e = cfU (mulUs p q) e := by
  unfold mulR mulUs;rw [cfU_flatMap, cfU_flatMap];simp only [cfU_map];exact sumL_swap (fun (t s : UT) => if addE s.2 t.2 = e then s.1 * t.1 else 0) p q
theorem mulR_length (p q : List UT) : (mulR p q).length = q.length * p.length := by
  induction q with
  | nil => simp [mulR]
  | cons t q ih =>
    have : mulR p (t :: q) = (p.map fun s => (s.1 * t.1, addE s.2 t.2)) ++ mulR p q := rfl;rw [this, List.length_append, ih, List.length_map, List.length_cons, Nat.add_mul]; omega
end Go.AL
namespace Go.AL
/-- a polynomial times a term -/
def addX (a b : List Int) : List Int := List.zipWith (· + ·) a b
def timesT (l : List TZ) (t : TZ) : List TZ := l.map fun s => ⟨zOf (zval s.c * zval t.c), addX s.e t.e⟩
theorem addX_snoc {a b : List Int} {k : Nat} {x y : Int} (ha : a[k]? = some x) (hb : b[k]? = some y) : addX (a.take (k + 1)) (b.take (k + 1)) = addX (a.take k) (b.take k) ++ [x + y] := by
  rw [take_snoc ha, take_snoc hb];unfold addX;rw [List.zipWith_append (by rw [List.length_take, List.length_take]; have := (List.getElem?_eq_some_iff.1 ha).1; have := (List.getElem?_eq_some_iff.1 hb).1; omega)];rfl
theorem addX_len (a b : List Int) : (addX a b).length = min a.length b.length := by simp [addX]
theorem timesT_snoc {l : List TZ} {i : Nat} {s t : TZ} (h : l[i]? = some s) : timesT (l.take (i + 1)) t = timesT (l.take i) t ++ [⟨zOf (zval s.c * zval t.c), addX s.e t.e⟩] := by
  rw [take_snoc h]; simp [timesT]
end Go.AL
namespace Go.Proofs.YtcaecieigoplbaaGreat
open Go.AL

set_option maxHeartbeats 1000000 in
theorem rTimes_ok (n : Nat) (hn : n ≤ 1000) (l : List TZ) (t : TZ) (hl : l.length ≤ 3000) (hlt : TermsOk n 10000 l) (ht : TermsOk n 10000 [t]) (h0 : t.c.w.length ≠ 0) (hne : l.length ≠ 0) : PureFn Tryz.prog 145 [aP ⟨n, l⟩, aT t] (aP ⟨n, timesT l t⟩) := by
  refine PureFn.of_body Tryz.func145 rfl Tryz.ntmps145 rfl rfl ?_;have htc := ht.c t (by simp);have hte := ht.e t (by simp);have htm := ht.m t (by simp);have hzero := rZero_ok t.c;rw [decide_eq_false h0] at hzero;(repeat' (first |refine Fl.v rfl rfl rfl ?_ |refine Fl.nilF ?_ |refine AWP.seq ?_ |refine AWP.region ?_ |refine Fl.b rfl rfl rfl rfl ?_ |refine AWP.block ?_))
  refine AWP.loop (G := Nat) (fun i => i ≤ l.length) (fun i => match i with
    | 0 => St.of [] [(2, .ptr 2 0), (3, .ptr 3 0), (4, .ptr 4 0), (5, .ptr 5 0), (6, aN 0)] [(2, .cells [aN n, .sl 3 eT l] 70), (3, .cells (eT t) 124), (4, .cells [aN 0, .v (.slice none 0 0)] 70), (5, .cells [aN n, .v (.slice none 0 0)] 70)]
    | i + 1 => St.of [] [(2, .ptr 2 0), (3, .ptr 3 0), (4, .ptr 4 0), (5, .ptr 5 0), (6, aN ((i + 1 : Nat) : Int))] [(2, .cells [aN n, .sl 3 eT l] 70), (3, .cells (eT t) 124), (4, .cells [aN 0, .v (.slice none 0 0)] 70), (5, .cells [aN n, .row 700] 70), (700, .row 3 eT (timesT (l.take (i + 1)) t) 124)]) (fun i => l.length - i) 0 (by omega) ?_ ?_
  · refine Ent.of [] ?_ ?_ rfl rfl;(repeat' (first |exact True.intro |refine ⟨⟨AV.Le.refl _, rfl⟩, ?_⟩ |refine ⟨⟨⟨_, rfl, BLe.cells (LeL.refl _)⟩, rfl⟩, ?_⟩|fail))
  · intro i hi
    cases i with
    | zero =>
      dsimp only;(repeat' (first |refine Fl.v rfl rfl rfl ?_ |refine AWP.seq ?_ |refine AWP.region ?_ |(refine Fl.splitD rfl rfl ?_ ?_ <;> intro _ <;> try (exfalso; omega))))
      · rename_i hlt';obtain ⟨s, hs⟩ : ∃ s, l[0]? = some s := ⟨_, List.getElem?_eq_getElem (by omega)⟩;have hsm := List.mem_of_getElem? hs;have hse := hlt.e s hsm;have hsl := hlt.m s hsm;have hsc := hlt.c s hsm
        have htl : (timesT (l.take 0) t).length = 0 := by simp [timesT]
        refine Fl.call rfl hzero rfl rfl rfl (LeL.refl _) ?_;(repeat' (first |refine Fl.v rfl rfl rfl ?_ |refine Fl.nilF ?_ |refine Fl.b rfl rfl rfl rfl ?_ |refine AWP.condT rfl ?_ |refine AWP.condF rfl ?_ |refine AWP.skip ?_ |fail));refine AWP.seq ?_;refine AWP.block ?_;refine AWP.seqS ?_;(repeat' (first |refine Fl.v rfl rfl rfl ?_ |refine Fl.nilF ?_ |refine AWP.region ?_ |refine Fl.make rfl rfl rfl rfl rfl rfl rfl rfl rfl rfl eI 0 (by exact LeL.refl _) (by rfl) (by first | omega | (dsimp only; omega)) (by first | omega | (dsimp only; omega)) (by first | omega | (dsimp only; omega)) ?_|fail));refine ⟨AWP.seqS ?_⟩;(repeat' (first |refine Fl.v rfl rfl rfl ?_ |refine Fl.nilF ?_ |refine AWP.seq ?_ |refine AWP.region ?_ |refine AWP.block ?_));refine AWP.loop (G := Nat) (fun k => k ≤ n) (fun k => St.of [] [(2, .ptr 2 0), (3, .ptr 3 0), (4, .ptr 4 0), (5, .ptr 5 0), (6, aN 0), (7, .row 27), (8, aN k)] [(2, .cells [aN n, .sl 3 eT l] 70), (3, .cells (eT t) 124), (4, .cells [aN 0, .v (.slice none 0 0)] 70), (5, .cells [aN n, .v (.slice none 0 0)] 70), (27, .row 1 eI (addX (s.e.take k) (t.e.take k) ++ List.replicate (n - k) 0) 3)]) (fun k => n - k) 0 (by omega) ?_ ?_
        · refine Ent.of [] ?_ ?_ rfl rfl;(repeat' (first |exact True.intro |refine ⟨⟨AV.Le.refl _, rfl⟩, ?_⟩ |refine ⟨⟨⟨_, rfl, BLe.cells (LeL.refl _)⟩, rfl⟩, ?_⟩ |refine ⟨⟨⟨_, rfl, BLe.row rfl⟩, rfl⟩, ?_⟩|fail))
        · intro k hk
          have hadl : (addX (s.e.take k) (t.e.take k)).length = k := by rw [addX_len, List.length_take, List.length_take]; omega
          have hrl : (addX (s.e.take k) (t.e.take k) ++ List.replicate (n - k) 0).length = n := by rw [List.length_append, hadl, List.length_replicate]; omega
          by_cases hkn : k < n
          · obtain ⟨x, hx⟩ : ∃ x, s.e[k]? = some x := ⟨_, List.getElem?_eq_getElem (by omega)⟩;obtain ⟨y, hy⟩ : ∃ y, t.e[k]? = some y := ⟨_, List.getElem?_eq_getElem (by omega)⟩;have hxb := hse.1.get hx;have hyb := hte.1.get hy;(repeat' (first |refine Fl.v rfl rfl rfl ?_ |refine Fl.nilF ?_ |refine Fl.nil (fun _ => by kernel_rfl) ?_ |refine AWP.seq ?_ |refine AWP.region ?_ |refine Fl.w rfl rfl rfl (by first | exact True.intro | omega) ?_ |(refine AWP.condD rfl ?_ ?_ <;> intro _ <;> try (exfalso; omega)) |refine AWP.block ?_ |refine AWP.skip ?_ |refine Fl.elK rfl rfl rfl rfl rfl rfl rfl rfl (by assumption) (by omega) ?_ |refine Fl.rel rfl rfl rfl rfl rfl rfl rfl rfl (by omega) (by first | omega | (simp; omega)) ?_ |refine Fl.rst rfl rfl rfl rfl rfl rfl rfl rfl rfl rfl rfl (LeL.refl _) rfl (by first | omega | (simp; omega)) ?_|fail));refine LoopEnd.of (k + 1) (by omega) (by omega) ?_;refine Ent.of [] ?_ ?_ rfl rfl;(repeat' (first |exact True.intro |refine ⟨⟨AV.Le.refl _, rfl⟩, ?_⟩ |refine ⟨⟨⟨_, rfl, BLe.cells (LeL.refl _)⟩, rfl⟩, ?_⟩ |refine ⟨⟨⟨_, rfl, BLe.row ?_⟩, rfl⟩, ?_⟩|fail));rw [addX_snoc hx hy];exact set_rep (by rw [hadl]; omega) (by omega) rfl
          · (repeat' (first |refine Fl.v rfl rfl rfl ?_ |refine Fl.nilF ?_ |refine AWP.seq ?_ |refine AWP.region ?_ |(refine AWP.condD rfl ?_ ?_ <;> intro _ <;> try (exfalso; omega)) |refine AWP.exit ?_));refine ⟨?_⟩;refine AWP.ent (Ent.freeze 27 rfl) ?_
            have hkn' : k = n := by omega
            (repeat' (first |refine Fl.v rfl rfl rfl ?_ |refine AWP.region ?_ |refine Fl.elK rfl rfl rfl rfl rfl rfl rfl rfl (by assumption) (by omega) ?_|fail))
            have hfin : addX (s.e.take k) (t.e.take k) ++ List.replicate (n - k) 0 = addX s.e t.e := by
              rw [hkn', Nat.sub_self, List.replicate_zero, List.append_nil, List.take_of_length_le (by omega), List.take_of_length_le (by omega)]
            refine Fl.call rfl (rMul_ok (zval s.c) (zval t.c) (show lenI _ ≤ _ by omega) (show lenI _ ≤ _ by omega)) rfl rfl rfl (LeL.cons (AV.Le.agg (leZ (σ := []) hsc)) (LeL.cons (AV.Le.agg (leZ (σ := []) htc)) LeL.nil)) ?_;(repeat' (first |refine Fl.v rfl rfl rfl ?_ |refine Fl.b rfl rfl rfl rfl ?_));refine Fl.lit rfl rfl rfl rfl rfl eT [⟨zOf (zval s.c * zval t.c), addX (s.e.take k) (t.e.take k) ++ List.replicate (n - k) 0⟩] rfl rfl rfl rfl (by intro _ _; rfl) rfl ?_;skip;refine Fl.ap0 rfl rfl rfl rfl rfl rfl rfl rfl eT rfl rfl (fun _ => rfl) (fun _ => rfl) (AV.Le.refl _) (by dsimp only [List.length_nil, List.length_cons]; omega) (by simp) ?_;(repeat' (first |refine Fl.v rfl rfl rfl ?_ |refine Fl.nilF ?_ |refine Fl.nil (fun _ => by kernel_rfl) ?_ |refine AWP.region ?_ |refine Fl.w rfl rfl rfl (by first | exact True.intro | omega) ?_ |refine Fl.b rfl rfl rfl rfl ?_));refine LoopEnd.of (0 + 1) (by omega) (by omega) ?_;refine Ent.of [(700, 66)] ?_ ?_ rfl rfl;(repeat' (first |exact True.intro |refine ⟨⟨AV.Le.refl _, rfl⟩, ?_⟩ |refine ⟨⟨⟨_, rfl, BLe.cells (LeL.refl _)⟩, rfl⟩, ?_⟩ |refine ⟨⟨⟨_, rfl, BLe.row ?_⟩, rfl⟩, ?_⟩|fail));rw [timesT_snoc hs, hfin]
            try rfl
    | succ i =>
      dsimp only;(repeat' (first |refine Fl.v rfl rfl rfl ?_ |refine Fl.nilF ?_ |refine AWP.seq ?_ |refine AWP.region ?_ |refine Fl.b rfl rfl rfl rfl ?_ |refine Fl.skip rfl rfl ?_ |refine AWP.condF rfl ?_ |refine AWP.exit ?_ |refine AWP.ret ?_ |(refine Fl.splitD rfl rfl ?_ ?_ <;> intro _ <;> try (exfalso; omega))))
      · rename_i hlt';obtain ⟨s, hs⟩ : ∃ s, l[(i + 1)]? = some s := ⟨_, List.getElem?_eq_getElem (by omega)⟩;have hsm := List.mem_of_getElem? hs;have hse := hlt.e s hsm;have hsl := hlt.m s hsm;have hsc := hlt.c s hsm
        have htl : (timesT (l.take (i + 1)) t).length = (i + 1) := by simp [timesT]; omega
        refine Fl.call rfl hzero rfl rfl rfl (LeL.refl _) ?_;(repeat' (first |refine Fl.v rfl rfl rfl ?_ |refine Fl.nilF ?_ |refine Fl.b rfl rfl rfl rfl ?_ |refine AWP.condT rfl ?_ |refine AWP.condF rfl ?_ |refine AWP.skip ?_ |fail));refine AWP.seq ?_;refine AWP.block ?_;refine AWP.seqS ?_;(repeat' (first |refine Fl.v rfl rfl rfl ?_ |refine Fl.nilF ?_ |refine AWP.region ?_ |refine Fl.make rfl rfl rfl rfl rfl rfl rfl rfl rfl rfl eI 0 (by exact LeL.refl _) (by rfl) (by first | omega | (dsimp only; omega)) (by first | omega | (dsimp only; omega)) (by first | omega | (dsimp only; omega)) ?_|fail));refine ⟨AWP.seqS ?_⟩;(repeat' (first |refine Fl.v rfl rfl rfl ?_ |refine Fl.nilF ?_ |refine AWP.seq ?_ |refine AWP.region ?_ |refine AWP.block ?_));refine AWP.loop (G := Nat) (fun k => k ≤ n) (fun k => St.of [] [(2, .ptr 2 0), (3, .ptr 3 0), (4, .ptr 4 0), (5, .ptr 5 0), (6, aN ((i + 1 : Nat) : Int)), (7, .row 27), (8, aN k)] [(2, .cells [aN n, .sl 3 eT l] 70), (3, .cells (eT t) 124), (4, .cells [aN 0, .v (.slice none 0 0)] 70), (5, .cells [aN n, .row 700] 70), (700, .row 3 eT (timesT (l.take (i + 1)) t) 124), (27, .row 1 eI (addX (s.e.take k) (t.e.take k) ++ List.replicate (n - k) 0) 3)]) (fun k => n - k) 0 (by omega) ?_ ?_
        · refine Ent.of [] ?_ ?_ rfl rfl;(repeat' (first |exact True.intro |refine ⟨⟨AV.Le.refl _, rfl⟩, ?_⟩ |refine ⟨⟨⟨_, rfl, BLe.cells (LeL.refl _)⟩, rfl⟩, ?_⟩ |refine ⟨⟨⟨_, rfl, BLe.row rfl⟩, rfl⟩, ?_⟩|fail))
        · intro k hk
          have hadl : (addX (s.e.take k) (t.e.take k)).length = k := by rw [addX_len, List.length_take, List.length_take]; omega
          have hrl : (addX (s.e.take k) (t.e.take k) ++ List.replicate (n - k) 0).length = n := by rw [List.length_append, hadl, List.length_replicate]; omega
          by_cases hkn : k < n
          · obtain ⟨x, hx⟩ : ∃ x, s.e[k]? = some x := ⟨_, List.getElem?_eq_getElem (by omega)⟩;obtain ⟨y, hy⟩ : ∃ y, t.e[k]? = some y := ⟨_, List.getElem?_eq_getElem (by omega)⟩;have hxb := hse.1.get hx;have hyb := hte.1.get hy;(repeat' (first |refine Fl.v rfl rfl rfl ?_ |refine Fl.nilF ?_ |refine Fl.nil (fun _ => by kernel_rfl) ?_ |refine AWP.seq ?_ |refine AWP.region ?_ |refine Fl.w rfl rfl rfl (by first | exact True.intro | omega) ?_ |(refine AWP.condD rfl ?_ ?_ <;> intro _ <;> try (exfalso; omega)) |refine AWP.block ?_ |refine AWP.skip ?_ |refine Fl.elK rfl rfl rfl rfl rfl rfl rfl rfl (by assumption) (by omega) ?_ |refine Fl.rel rfl rfl rfl rfl rfl rfl rfl rfl (by omega) (by first | omega | (simp; omega)) ?_ |refine Fl.rst rfl rfl rfl rfl rfl rfl rfl rfl rfl rfl rfl (LeL.refl _) rfl (by first | omega | (simp; omega)) ?_|fail));refine LoopEnd.of (k + 1) (by omega) (by omega) ?_;refine Ent.of [] ?_ ?_ rfl rfl;(repeat' (first |exact True.intro |refine ⟨⟨AV.Le.refl _, rfl⟩, ?_⟩ |refine ⟨⟨⟨_, rfl, BLe.cells (LeL.refl _)⟩, rfl⟩, ?_⟩ |refine ⟨⟨⟨_, rfl, BLe.row rfl⟩, rfl⟩, ?_⟩ |refine ⟨⟨⟨_, rfl, BLe.row ?_⟩, rfl⟩, ?_⟩|fail));rw [addX_snoc hx hy];exact set_rep (by rw [hadl]; omega) (by omega) rfl
          · (repeat' (first |refine Fl.v rfl rfl rfl ?_ |refine Fl.nilF ?_ |refine AWP.seq ?_ |refine AWP.region ?_ |(refine AWP.condD rfl ?_ ?_ <;> intro _ <;> try (exfalso; omega)) |refine AWP.exit ?_));refine ⟨?_⟩;refine AWP.ent (Ent.freeze 27 rfl) ?_
            have hkn' : k = n := by omega
            (repeat' (first |refine Fl.v rfl rfl rfl ?_ |refine AWP.region ?_ |refine Fl.elK rfl rfl rfl rfl rfl rfl rfl rfl (by assumption) (by omega) ?_|fail))
            have hfin : addX (s.e.take k) (t.e.take k) ++ List.replicate (n - k) 0 = addX s.e t.e := by
              rw [hkn', Nat.sub_self, List.replicate_zero, List.append_nil, List.take_of_length_le (by omega), List.take_of_length_le (by omega)]
            refine Fl.call rfl (rMul_ok (zval s.c) (zval t.c) (show lenI _ ≤ _ by omega) (show lenI _ ≤ _ by omega)) rfl rfl rfl (LeL.cons (AV.Le.agg (leZ (σ := []) hsc)) (LeL.cons (AV.Le.agg (leZ (σ := []) htc)) LeL.nil)) ?_;(repeat' (first |refine Fl.v rfl rfl rfl ?_ |refine Fl.b rfl rfl rfl rfl ?_));refine Fl.lit rfl rfl rfl rfl rfl eT [⟨zOf (zval s.c * zval t.c), addX (s.e.take k) (t.e.take k) ++ List.replicate (n - k) 0⟩] rfl rfl rfl rfl (by intro _ _; rfl) rfl ?_;skip;refine Fl.ap rfl rfl rfl rfl rfl rfl rfl rfl rfl rfl rfl rfl rfl (fun _ => rfl) (fun _ => rfl) (AV.Le.refl _) (by simp only [htl, List.length_nil, List.length_cons]; omega) (by simp only [htl, List.length_cons, List.length_nil]; omega) ?_;(repeat' (first |refine Fl.v rfl rfl rfl ?_ |refine Fl.nilF ?_ |refine Fl.nil (fun _ => by kernel_rfl) ?_ |refine AWP.region ?_ |refine Fl.w rfl rfl rfl (by first | exact True.intro | omega) ?_ |refine Fl.b rfl rfl rfl rfl ?_));refine LoopEnd.of (i + 1 + 1) (by omega) (by omega) ?_;refine Ent.of [(700, 66)] ?_ ?_ rfl rfl;(repeat' (first |exact True.intro |refine ⟨⟨AV.Le.refl _, rfl⟩, ?_⟩ |refine ⟨⟨⟨_, rfl, BLe.cells (LeL.refl _)⟩, rfl⟩, ?_⟩ |refine ⟨⟨⟨_, rfl, BLe.row ?_⟩, rfl⟩, ?_⟩|fail));rw [timesT_snoc hs, hfin]
            try rfl
      · rename_i hlt';have hti : l.take (i + 1) = l := List.take_of_length_le (by omega);refine RetOk.ent (Ent.freeze 700 rfl) ?_;refine RetOk.of rfl ?_;rw [hti];exact AV.Le.refl _
end Go.Proofs.YtcaecieigoplbaaGreat
namespace Go.Proofs.YtcaecieigoplbaaGreat
open Go.AL

theorem rAddP_ok (n M : Nat) (hn : n ≤ 1000) (hM : M ≤ 30000) (a b : List TZ) (ha : TermsOk n M a) (hb : TermsOk n M b) (hal : a.length ≤ 100000) (hbl : b.length ≤ 100000) : PureFn Tryz.prog 72 [aP ⟨n, a⟩, aP ⟨n, b⟩] (aP ⟨n, mergeT a b⟩) := by
  refine PureFn.of_body Tryz.func72 rfl Tryz.ntmps72 rfl rfl ?_;(repeat' (first |refine Fl.v rfl rfl rfl ?_ |refine Fl.nilF ?_ |refine AWP.seq ?_ |refine AWP.region ?_ |refine Fl.b rfl rfl rfl rfl ?_));refine Fl.call rfl (merged_ok n M hn hM a b ha hb hal hbl) rfl rfl rfl (LeL.refl _) ?_;(repeat' (first |refine Fl.nil (fun _ => by kernel_rfl) ?_ |refine Fl.b rfl rfl rfl rfl ?_ |refine AWP.ret ?_));exact RetOk.of rfl (AV.Le.refl _)
end Go.Proofs.YtcaecieigoplbaaGreat
/- The reference's polynomials: Sorted, Add, Times, Sub, Const, Var. -/
namespace Go.AL
theorem addX_eq : addX = addE := rfl
theorem timesT_tz (p : List UT) (t : UT) : timesT (p.map tz) (tz t) = (p.map fun s => (s.1 * t.1, addE s.2 t.2)).map tz := by
  unfold timesT;rw [List.map_map, List.map_map];refine List.map_congr_left fun s _ => ?_;show TZ.mk (zOf (zval (zOf s.1) * zval (zOf t.1))) (addX s.2 t.2) = tz _;rw [zval_zOf, zval_zOf, addX_eq]
theorem tz_nz {u : UT} (h : u.1 ≠ 0) : (tz u).c.w.length ≠ 0 := fun k => h ((toW_len0 u.1).1 k)
theorem zeros_add : ∀ (l : List Int) (n : Nat), l.length = n → addE l (List.replicate n 0) = l
  | [], _, h => by simp [addE]
  | x :: l, 0, h => by simp at h
  | x :: l, n + 1, h => by
    have ih := zeros_add l n (by simpa using h);unfold addE at ih ⊢;rw [List.replicate_succ, List.zipWith_cons_cons, ih];simp
end Go.AL
namespace Go.Proofs.YtcaecieigoplbaaGreat
open Go.AL

theorem rSortedU (V : Nat) (hV : V ≤ 1000) : ∀ (d M : Nat) (l : List UT), l.length ≤ 2 ^ d → 2 ^ d ≤ 100000 → M + d ≤ 30000 → okT V M l →
    PureFn Tryz.prog 121 [.sl 3 eT (l.map tz)] (.sl 3 eT ((canU l).map tz)) ∧ okT V (M + d) (canU l) := by
  intro d
  induction d with
  | zero =>
    intro M l hl hd hM hok;have hs := rSorted_short V M hV (by omega) (l.map tz) hok.terms (by simp; omega);rw [mergeT_short (by omega)] at hs;exact ⟨hs, hok.can0 (by omega)⟩
  | succ d ih =>
    intro M l hl hd hM hok;rw [Nat.pow_succ] at hl hd;rcases Nat.lt_or_ge l.length 2 with h2 | h2
    · have hs := rSorted_short V M hV (by omega) (l.map tz) hok.terms (by simp; omega);rw [mergeT_short (by omega)] at hs;exact ⟨hs, (hok.can0 h2).mono (by omega)⟩
    · obtain ⟨k, hk⟩ : ∃ k, k = l.length / 2 := ⟨_, rfl⟩;have o1 : okT V M (l.take k) := hok.sub fun u hu => List.mem_of_mem_take hu;have o2 : okT V M (l.drop k) := hok.sub fun u hu => List.mem_of_mem_drop hu;obtain ⟨a1, a2⟩ := ih M (l.take k) (by rw [List.length_take]; omega) (by omega) (by omega) o1;obtain ⟨b1, b2⟩ := ih M (l.drop k) (by rw [List.length_drop]; omega) (by omega) (by omega) o2;have l1 := canU_length (l.take k);have l2 := canU_length (l.drop k);rw [List.length_take] at l1;rw [List.length_drop] at l2;have hm := merged_ok V (M + d) hV (by omega) ((canU (l.take k)).map tz) ((canU (l.drop k)).map tz) a2.terms b2.terms (by rw [List.length_map]; omega) (by rw [List.length_map]; omega);rw [mergeT_can (canU_can _) (canU_can _) a2.lenU b2.lenU, canU_halves] at hm;have hres := okT.can (canU_can _) (canU_can _) a2 b2;rw [canU_halves] at hres;refine ⟨?_, hres.mono (by omega)⟩;refine PureFn.of_body Tryz.func121 rfl Tryz.ntmps121 rfl rfl ?_;have hlm : (l.map tz).length = l.length := List.length_map ..
      have e1 : (l.map tz).take (((l.map tz).length : Int) / 2).toNat = (l.take k).map tz := by rw [hlm, show ((l.length : Int) / 2).toNat = k by omega, List.map_take]
      have e2 : (l.map tz).drop (((l.map tz).length : Int) / 2).toNat = (l.drop k).map tz := by rw [hlm, show ((l.length : Int) / 2).toNat = k by omega, List.map_drop]
      (repeat' (first |refine Fl.v rfl rfl rfl ?_ |refine Fl.nilF ?_ |refine AWP.seq ?_ |refine AWP.region ?_ |refine Fl.w rfl rfl rfl (by first | exact True.intro | omega) ?_ |refine Fl.w rfl rfl rfl ⟨by omega, by omega, by dsimp only [hiK]; omega⟩ ?_ |(refine AWP.condD rfl ?_ ?_ <;> intro _ <;> try (exfalso; omega)) |refine AWP.skip ?_));refine Fl.call rfl a1 rfl rfl rfl (LeL.cons (AV.Le.sl e1) LeL.nil) ?_;(repeat' (first |refine Fl.v rfl rfl rfl ?_ |refine Fl.w rfl rfl rfl (by first | exact True.intro | omega) ?_ |refine Fl.w rfl rfl rfl ⟨by omega, by omega, by dsimp only [hiK]; omega⟩ ?_|fail));refine Fl.call rfl b1 rfl rfl rfl (LeL.cons (AV.Le.sl e2) LeL.nil) ?_;skip;refine Fl.call rfl (hm) rfl rfl rfl (LeL.refl _) ?_;(repeat' (first |refine Fl.v rfl rfl rfl ?_ |refine Fl.nil (fun _ => by kernel_rfl) ?_ |refine AWP.ret ?_));exact RetOk.of rfl (AV.Le.refl _)
theorem rAddU (V M : Nat) (hV : V ≤ 1000) (hM : M ≤ 30000) (a b : List UT) (ca : CanU a) (cb : CanU b) (ha : okT V M a) (hb : okT V M b) (la : a.length ≤ 100000) (lb : b.length ≤ 100000) : PureFn Tryz.prog 72 [aP (mkP V a), aP (mkP V b)] (aP (mkP V (canU (a ++ b)))) := by
  have h := rAddP_ok V M hV hM (a.map tz) (b.map tz) ha.terms hb.terms (by rw [List.length_map]; omega) (by rw [List.length_map]; omega);rw [mergeT_can ca cb ha.lenU hb.lenU] at h;exact h
theorem rTimesU0 (V : Nat) (p : List UT) (t : UT) (h : p = [] ∨ t.1 = 0) : PureFn Tryz.prog 145 [aP (mkP V p), aT (tz t)] (aP (mkP V [])) := by
  refine PureFn.of_body Tryz.func145 rfl Tryz.ntmps145 rfl rfl ?_;have hzero := rZero_ok (tz t).c;have hlen : (p.map tz).length = p.length := List.length_map ..;by_cases hp : p = []
  · subst hp;(repeat' (first |refine Fl.v rfl rfl rfl ?_ |refine Fl.nilF ?_ |refine AWP.seq ?_ |refine AWP.region ?_ |refine Fl.b rfl rfl rfl rfl ?_ |refine AWP.block ?_));refine AWP.loop (G := Unit) (fun _ => True) (fun _ => St.of [] [(2, .ptr 2 0), (3, .ptr 3 0), (4, .ptr 4 0), (5, .ptr 5 0), (6, aN 0)] [(2, .cells [aN V, .sl 3 eT (([] : List UT).map tz)] 70), (3, .cells (eT (tz t)) 124), (4, .cells [aN 0, .v (.slice none 0 0)] 70), (5, .cells [aN V, .v (.slice none 0 0)] 70)]) (fun _ => 0) () trivial ?_ ?_
    · refine Ent.of [] ?_ ?_ rfl rfl;(repeat' (first |exact True.intro |refine ⟨⟨AV.Le.refl _, rfl⟩, ?_⟩ |refine ⟨⟨⟨_, rfl, BLe.cells (LeL.refl _)⟩, rfl⟩, ?_⟩|fail))
    · intro _ _;(repeat' (first |refine Fl.v rfl rfl rfl ?_ |refine Fl.nilF ?_ |refine AWP.seq ?_ |refine AWP.region ?_ |refine Fl.b rfl rfl rfl rfl ?_ |refine Fl.skip rfl rfl ?_ |refine AWP.condF rfl ?_ |refine AWP.exit ?_ |refine AWP.ret ?_));exact RetOk.of rfl (AV.Le.agg (LeL.cons (AV.Le.refl _) (LeL.cons (AV.Le.nil 3 eT) LeL.nil)))
  · have hz : t.1 = 0 := h.resolve_left hp;rw [decide_eq_true (show (tz t).c.w.length = 0 from (toW_len0 t.1).2 hz)] at hzero;have hpl : 0 < p.length := List.length_pos_iff.2 hp;(repeat' (first |refine Fl.v rfl rfl rfl ?_ |refine Fl.nilF ?_ |refine AWP.seq ?_ |refine AWP.region ?_ |refine Fl.b rfl rfl rfl rfl ?_ |refine AWP.block ?_));refine AWP.loop (G := Unit) (fun _ => True) (fun _ => St.of [] [(2, .ptr 2 0), (3, .ptr 3 0), (4, .ptr 4 0), (5, .ptr 5 0), (6, aN 0)] [(2, .cells [aN V, .sl 3 eT (p.map tz)] 70), (3, .cells (eT (tz t)) 124), (4, .cells [aN 0, .v (.slice none 0 0)] 70), (5, .cells [aN V, .v (.slice none 0 0)] 70)]) (fun _ => 0) () trivial ?_ ?_
    · refine Ent.of [] ?_ ?_ rfl rfl;(repeat' (first |exact True.intro |refine ⟨⟨AV.Le.refl _, rfl⟩, ?_⟩ |refine ⟨⟨⟨_, rfl, BLe.cells (LeL.refl _)⟩, rfl⟩, ?_⟩|fail))
    · intro _ _;(repeat' (first |refine Fl.v rfl rfl rfl ?_ |refine AWP.seq ?_ |refine AWP.region ?_ |(refine Fl.splitD rfl rfl ?_ ?_ <;> intro _ <;> try (exfalso; omega))))
      · refine Fl.call rfl hzero rfl rfl rfl (LeL.refl _) ?_;(repeat' (first |refine Fl.v rfl rfl rfl ?_ |refine Fl.nilF ?_ |refine AWP.seq ?_ |refine AWP.region ?_ |refine Fl.b rfl rfl rfl rfl ?_ |refine AWP.condF rfl ?_ |refine AWP.exit ?_ |refine AWP.ret ?_));exact RetOk.of rfl (AV.Le.agg (LeL.cons (AV.Le.refl _) (LeL.cons (AV.Le.nil 3 eT) LeL.nil)))
theorem rTimesU (V M : Nat) (hV : V ≤ 1000) (hM : M ≤ 10000) (p : List UT) (t : UT) (hl : p.length ≤ 3000) (hp : okT V M p) (ht : okT V M [t]) : PureFn Tryz.prog 145 [aP (mkP V p), aT (tz t)] (aP (mkP V (if t.1 = 0 then [] else p.map fun s => (s.1 * t.1, addE s.2 t.2)))) := by
  by_cases hz : t.1 = 0
  · rw [if_pos hz]; exact rTimesU0 V p t (.inr hz)
  · rw [if_neg hz];by_cases hn : p = []
    · subst hn; exact rTimesU0 V [] t (.inl rfl)
    · have h := rTimes_ok V hV (p.map tz) (tz t) (by rw [List.length_map]; omega) (hp.mono hM).terms (ht.mono hM).terms (tz_nz hz) (by rw [List.length_map]; exact fun k => hn (List.eq_nil_of_length_eq_zero k));rw [timesT_tz] at h;exact h
theorem rConstU (V : Nat) (c : Int) (hV : V ≤ 1000) (hc : lenI c ≤ 20000) : PureFn Tryz.prog 146 [aN V, aX c] (aP (mkP V (conU V c))) := by
  refine PureFn.of_body Tryz.func146 rfl Tryz.ntmps146 rfl rfl ?_;have hs := (rSortedU V hV 0 20000 [(c, List.replicate V 0)] (by simp) (by simp) (by omega) (fun u hu => by simp only [List.mem_singleton] at hu; subst hu; exact ⟨by simp, EOk.zeros V, hc⟩)).1;rw [conU_can] at hs;refine AWP.seqS ?_;(repeat' (first |refine Fl.nilF ?_ |refine AWP.region ?_ |refine Fl.b rfl rfl rfl rfl ?_));refine ⟨AWP.seq (AWP.region ?_)⟩;refine Fl.v rfl rfl rfl ?_;refine Fl.v rfl rfl rfl ?_;refine Fl.v rfl rfl rfl ?_;refine Fl.makeC rfl rfl rfl rfl rfl rfl rfl rfl rfl eI 0 (by exact LeL.refl _) (by rfl) (by omega) (by first | omega | (dsimp only; omega)) (by omega) ?_;(repeat' (first |refine Fl.b rfl rfl rfl rfl ?_));refine Fl.lit rfl rfl rfl rfl rfl eT [tz (c, List.replicate V 0)] rfl rfl rfl rfl (by intro _ _; rfl) rfl ?_;skip;refine Fl.call rfl (hs) rfl rfl rfl (LeL.refl _) ?_;(repeat' (first |refine Fl.nil (fun _ => by kernel_rfl) ?_ |refine Fl.b rfl rfl rfl rfl ?_ |refine AWP.ret ?_));exact RetOk.of rfl (AV.Le.refl _)
theorem rVarU (V i : Nat) (hi : i < V) (hV : V ≤ 1000) : PureFn Tryz.prog 143 [aN V, aN i] (aP (mkP V (varU V i))) := rVar_ok V i hi hV
theorem rSubU (V M : Nat) (hV : V ≤ 1000) (hM : M ≤ 9000) (a b : List UT) (ca : CanU a) (cb : CanU b) (ha : okT V M a) (hb : okT V M b) (la : a.length ≤ 3000) (lb : b.length ≤ 3000) : PureFn Tryz.prog 76 [aP (mkP V a), aP (mkP V b)] (aP (mkP V (subL a b))) := by
  refine PureFn.of_body Tryz.func76 rfl Tryz.ntmps76 rfl rfl ?_;have l1 : lenI (-1) ≤ 1 := lenI_small (by decide);have ht := rTimesU V (M + 1) hV (by omega) b (-1, List.replicate V 0) lb (hb.mono (by omega)) (fun u hu => by simp only [List.mem_singleton] at hu; subst hu; exact ⟨by simp, EOk.zeros V, by show lenI (-1) ≤ M + 1; omega⟩);rw [if_neg (by simp)] at ht
  have hn : (b.map fun s => (s.1 * (-1), addE s.2 (List.replicate V 0))) = b.map fun u => (u.1 * (-1), u.2) := List.map_congr_left fun u hu => by rw [zeros_add _ _ (hb u hu).1]
  simp only at ht;rw [hn] at ht
  have cn : CanU (b.map fun u => (u.1 * (-1), u.2)) := ⟨fun u hu => by
    obtain ⟨v, hv, rfl⟩ := List.mem_map.1 hu;have := cb.nz v hv;show v.1 * (-1) ≠ 0
    omega, List.pairwise_map.2 cb.pw⟩
  have on : okT V M (b.map fun u => (u.1 * (-1), u.2)) := fun u hu => by
    obtain ⟨v, hv, rfl⟩ := List.mem_map.1 hu;refine ⟨(hb v hv).1, (hb v hv).2.1, ?_⟩;show lenI (v.1 * (-1)) ≤ M;rw [show v.1 * (-1) = -v.1 by omega, lenI_neg];exact (hb v hv).2.2
  have hadd := rAddU V M hV (by omega) a (b.map fun u => (u.1 * (-1), u.2)) ca cn ha on (by omega) (by rw [List.length_map]; omega);refine AWP.seqS ?_;(repeat' (first |refine Fl.nilF ?_ |refine AWP.region ?_ |refine Fl.b rfl rfl rfl rfl ?_));refine ⟨AWP.seq (AWP.region ?_)⟩;(repeat' (first |refine Fl.v rfl rfl rfl ?_));refine Fl.call rfl (rOf_ok (-1) (by omega) (by omega)) rfl rfl rfl (LeL.refl _) ?_;(repeat' (first |refine Fl.v rfl rfl rfl ?_));refine Fl.makeC rfl rfl rfl rfl rfl rfl rfl rfl rfl eI 0 (by exact LeL.refl _) (by rfl) (by show (0 : Int) ≤ (V : Int); omega) (by show (V : Int) * _ ≤ _; first | omega | (dsimp only; omega)) (by show (V : Int) ≤ _; omega) ?_;(repeat' (first |refine Fl.b rfl rfl rfl rfl ?_));refine Fl.call rfl (ht) rfl rfl rfl (LeL.refl _) ?_;skip;refine Fl.call rfl (hadd) rfl rfl rfl (LeL.refl _) ?_;(repeat' (first |refine Fl.nil (fun _ => by kernel_rfl) ?_ |refine Fl.b rfl rfl rfl rfl ?_ |refine AWP.ret ?_));exact RetOk.of rfl (AV.Le.refl _)
end Go.Proofs.YtcaecieigoplbaaGreat
/- Kit.Add, Kit.Mul. -/
namespace Go.AL
theorem okSums_cons {V : Nat} {acc p : List UT} {l : List (List UT)} (h : okSums V acc (p :: l) = true) : chkU V acc acc = true ∧ chkU V p p = true ∧ chkU V (addUs 1 acc p) (addL acc p) = true ∧ okSums V (addL acc p) l = true := by
  simp only [okSums, Bool.and_eq_true] at h;exact ⟨h.1.1.1, h.1.1.2, h.1.2, h.2⟩
theorem okMuls_cons {V : Nat} {acc p : List UT} {l : List (List UT)} (h : okMuls V acc (p :: l) = true) : chkU V acc acc = true ∧ chkU V p p = true ∧ degU acc p = true ∧ chkU V (mulUs acc p) (mulL2 acc p) = true ∧ okMuls V (mulL2 acc p) l = true := by
  simp only [okMuls, Bool.and_eq_true] at h;exact ⟨h.1.1.1.1, h.1.1.1.2, h.1.1.2, h.1.2, h.2⟩
theorem drop_cons {α : Type} {l : List α} {i : Nat} {x : α} (h : l[i]? = some x) : l.drop i = x :: l.drop (i + 1) := by
  have hi := List.getElem?_eq_some_iff.1 h;rw [List.drop_eq_getElem_cons hi.1, hi.2]
end Go.AL
namespace Go.Proofs.YtcaecieigoplbaaGreat
open Go.AL
theorem kAdd_ok (V : Nat) (hV : V ≤ 32) (ls : List (List UT)) (hl : ls.length ≤ 1000) (h : okSums V [] ls = true) : PureFn Tryz.prog 66 [aK V, .sl 2 eP (ls.map (mkP V))] (aP (mkP V (sumsU [] ls))) := by
  refine PureFn.of_body Tryz.func66 rfl Tryz.ntmps66 rfl rfl ?_;have hN := kN_ok V 0 hV (by omega) (by omega);rw [show conU V 0 = [] from rfl] at hN;refine AWP.seqS ?_;(repeat' (first |refine Fl.nilF ?_ |refine AWP.region ?_ |refine Fl.b rfl rfl rfl rfl ?_));refine ⟨AWP.seqS ?_⟩;(repeat' (first |refine Fl.v rfl rfl rfl ?_ |refine AWP.region ?_));refine Fl.call rfl (hN) rfl rfl rfl (LeL.refl _) ?_;(repeat' (first |refine Fl.nilF ?_ |refine Fl.b rfl rfl rfl rfl ?_));refine ⟨?_⟩;obtain ⟨L, hL⟩ : ∃ L, L = ls.map (mkP V) := ⟨_, rfl⟩
  have hLl : L.length = ls.length := by rw [hL, List.length_map]
  rw [← hL];(repeat' (first |refine Fl.v rfl rfl rfl ?_ |refine Fl.nilF ?_ |refine AWP.seq ?_ |refine AWP.region ?_ |refine AWP.block ?_));refine AWP.loop (G := Nat × List UT) (fun (i, acc) => i ≤ ls.length ∧ okSums V acc (ls.drop i) = true ∧ sumsU acc (ls.drop i) = sumsU [] ls) (fun (i, acc) => St.of [] [(4, .ptr 4 0), (5, .ptr 5 0), (10, .sl 2 eP L), (11, aN L.length), (12, aN i)] [(4, .cells [aN 0, .v (.slice none 0 0)] 70), (5, .cells (eP (mkP V acc)) 70)]) (fun (i, acc) => ls.length - i) (0, []) ⟨by omega, h, rfl⟩ ?_ ?_
  · refine Ent.of [] ?_ ?_ rfl rfl;(repeat' (first |exact True.intro |refine ⟨⟨AV.Le.refl _, rfl⟩, ?_⟩ |refine ⟨⟨⟨_, rfl, BLe.cells (LeL.refl _)⟩, rfl⟩, ?_⟩|fail))
  · intro ⟨i, acc⟩ ⟨h0, h1, h2⟩;(repeat' (first |refine Fl.v rfl rfl rfl ?_ |refine Fl.nilF ?_ |refine AWP.seq ?_ |refine AWP.region ?_ |refine Fl.b rfl rfl rfl rfl ?_ |(refine AWP.condD rfl ?_ ?_ <;> intro _ <;> try (exfalso; omega)) |refine AWP.block ?_ |refine AWP.skip ?_ |refine AWP.exit ?_ |refine AWP.ret ?_ |(refine Fl.el rfl rfl rfl rfl rfl rfl rfl rfl (by omega) (by omega) ?_; intro _ _)|fail))
    · rename_i hi p hp;rw [Int.toNat_natCast, hL, List.getElem?_map] at hp;obtain ⟨q, hq, rfl⟩ := Option.map_eq_some_iff.1 hp;rw [drop_cons hq] at h1 h2;obtain ⟨c1, c2, c3, c4⟩ := okSums_cons h1;refine Fl.call rfl (addMk V hV acc q _ c1 c2 c3) rfl rfl rfl (LeL.refl _) ?_;(repeat' (first |refine Fl.v rfl rfl rfl ?_ |refine Fl.nilF ?_ |refine AWP.region ?_ |refine Fl.w rfl rfl rfl (by first | exact True.intro | omega) ?_ |refine Fl.b rfl rfl rfl rfl ?_));refine LoopEnd.of (i + 1, addL acc q) ⟨by omega, c4, h2⟩ (by simp only; omega) ?_;refine Ent.of [] ?_ ?_ rfl rfl;(repeat' (first |exact True.intro |refine ⟨⟨AV.Le.refl _, rfl⟩, ?_⟩ |refine ⟨⟨⟨_, rfl, BLe.cells (LeL.refl _)⟩, rfl⟩, ?_⟩|fail))
    · rename_i hi;rw [List.drop_of_length_le (by omega)] at h2;refine RetOk.of rfl (AV.Le.of_eq ?_);rw [← h2]; rfl
theorem kMul_ok (V : Nat) (hV : V ≤ 32) (ls : List (List UT)) (hl : ls.length ≤ 1000) (h : okMuls V (conU V 1) ls = true) : PureFn Tryz.prog 67 [aK V, .sl 2 eP (ls.map (mkP V))] (aP (mkP V (mulsU (conU V 1) ls))) := by
  refine PureFn.of_body Tryz.func67 rfl Tryz.ntmps67 rfl rfl ?_;have hN := kN_ok V 1 hV (by omega) (by omega);refine AWP.seqS ?_;(repeat' (first |refine Fl.nilF ?_ |refine AWP.region ?_ |refine Fl.b rfl rfl rfl rfl ?_));refine ⟨AWP.seqS ?_⟩;(repeat' (first |refine Fl.v rfl rfl rfl ?_ |refine AWP.region ?_));refine Fl.call rfl (hN) rfl rfl rfl (LeL.refl _) ?_;(repeat' (first |refine Fl.nilF ?_ |refine Fl.b rfl rfl rfl rfl ?_));refine ⟨?_⟩;obtain ⟨L, hL⟩ : ∃ L, L = ls.map (mkP V) := ⟨_, rfl⟩
  have hLl : L.length = ls.length := by rw [hL, List.length_map]
  rw [← hL];(repeat' (first |refine Fl.v rfl rfl rfl ?_ |refine Fl.nilF ?_ |refine AWP.seq ?_ |refine AWP.region ?_ |refine AWP.block ?_));refine AWP.loop (G := Nat × List UT) (fun (i, acc) => i ≤ ls.length ∧ okMuls V acc (ls.drop i) = true ∧ mulsU acc (ls.drop i) = mulsU (conU V 1) ls) (fun (i, acc) => St.of [] [(4, .ptr 4 0), (5, .ptr 5 0), (10, .sl 2 eP L), (11, aN L.length), (12, aN i)] [(4, .cells [aN 0, .v (.slice none 0 0)] 70), (5, .cells (eP (mkP V acc)) 70)]) (fun (i, acc) => ls.length - i) (0, conU V 1) ⟨by omega, h, rfl⟩ ?_ ?_
  · refine Ent.of [] ?_ ?_ rfl rfl;(repeat' (first |exact True.intro |refine ⟨⟨AV.Le.refl _, rfl⟩, ?_⟩ |refine ⟨⟨⟨_, rfl, BLe.cells (LeL.refl _)⟩, rfl⟩, ?_⟩|fail))
  · intro ⟨i, acc⟩ ⟨h0, h1, h2⟩;(repeat' (first |refine Fl.v rfl rfl rfl ?_ |refine Fl.nilF ?_ |refine AWP.seq ?_ |refine AWP.region ?_ |refine Fl.b rfl rfl rfl rfl ?_ |(refine AWP.condD rfl ?_ ?_ <;> intro _ <;> try (exfalso; omega)) |refine AWP.block ?_ |refine AWP.skip ?_ |refine AWP.exit ?_ |refine AWP.ret ?_ |(refine Fl.el rfl rfl rfl rfl rfl rfl rfl rfl (by omega) (by omega) ?_; intro _ _)|fail))
    · rename_i hi p hp;rw [Int.toNat_natCast, hL, List.getElem?_map] at hp;obtain ⟨q, hq, rfl⟩ := Option.map_eq_some_iff.1 hp;rw [drop_cons hq] at h1 h2;obtain ⟨c1, c2, c3, c4, c5⟩ := okMuls_cons h1;refine Fl.call rfl (mulMk V hV acc q _ c1 c2 c3 c4) rfl rfl rfl (LeL.refl _) ?_;(repeat' (first |refine Fl.v rfl rfl rfl ?_ |refine Fl.nilF ?_ |refine AWP.region ?_ |refine Fl.w rfl rfl rfl (by first | exact True.intro | omega) ?_ |refine Fl.b rfl rfl rfl rfl ?_));refine LoopEnd.of (i + 1, mulL2 acc q) ⟨by omega, c5, h2⟩ (by simp only; omega) ?_;refine Ent.of [] ?_ ?_ rfl rfl;(repeat' (first |exact True.intro |refine ⟨⟨AV.Le.refl _, rfl⟩, ?_⟩ |refine ⟨⟨⟨_, rfl, BLe.cells (LeL.refl _)⟩, rfl⟩, ?_⟩|fail))
    · rename_i hi;rw [List.drop_of_length_le (by omega)] at h2;refine RetOk.of rfl (AV.Le.of_eq ?_);rw [← h2]; rfl
end Go.Proofs.YtcaecieigoplbaaGreat
/- Kit.Link: its closures; what occurs. -/
namespace Go.AL
/-- the variables that occur in some polynomials -/
def occL (V : Nat) (ls : List (List UT)) : List Nat := (List.range V).filter fun i => ls.any fun p => p.any fun u => decide (0 < u.2.getD i 0)
def pickE (occ : List Nat) (e : List Int) : List Int := occ.map fun i => e.getD i 0
def pickU (occ : List Nat) (p : List UT) : List UT := p.map fun u => (u.1, pickE occ u.2)
def linkU (V : Nat) (kind : Int) (ls : List (List UT)) : LZ := ⟨kind, (occL V ls).map fun (i : Nat) => (i : Int), ls.map fun p => mkP (occL V ls).length (pickU (occL V ls) p)⟩
end Go.AL
namespace Go.Proofs.YtcaecieigoplbaaGreat
open Go.AL
abbrev iB (i : Int) : List (AL.Id × Bx) := [(900, .cells [aN i] 3)]
theorem idxT_ok (o : Int) (f : TZ → Bool) (ps : List TZ) (hl : ps.length ≤ 1000000) (hf : ∀ p ∈ ps, IoFn Tryz.prog 142 ([aT p] ++ [.ptr 900 0]) (iB o) (.ret (aB (f p))) (iB o)) :
    IoFn Tryz.prog 189 [.sl 3 eT ps, .fn 142 [.ptr 900 0]] (iB o) (.ret (aN (idxI f ps 0))) (iB o) := by
  refine IoFn.of_body Tryz.func189 rfl Tryz.ntmps189 rfl rfl rfl ?_;(repeat' (first |refine Fl.v rfl rfl rfl ?_ |refine Fl.nilF ?_ |refine AWP.seq ?_ |refine AWP.region ?_ |refine AWP.block ?_));refine AWP.loop (G := Nat) (fun i => i ≤ ps.length ∧ idxI f (ps.drop i) i = idxI f ps 0) (fun i => St.of [900] [(0, .sl 3 eT ps), (1, .fn 142 [.ptr 900 0]), (7, aN ps.length), (8, aN i)] [(900, .cells [aN o] 3)]) (fun i => ps.length - i) 0 ⟨by omega, by simp⟩ ?_ ?_
  · refine Ent.of [] ?_ ?_ rfl rfl;(repeat' (first |exact True.intro |refine ⟨⟨AV.Le.refl _, rfl⟩, ?_⟩ |refine ⟨⟨⟨_, rfl, BLe.cells (LeL.refl _)⟩, rfl⟩, ?_⟩|fail))
  · intro i ⟨k0, k1⟩;(repeat' (first |refine Fl.v rfl rfl rfl ?_ |refine Fl.nilF ?_ |refine AWP.seq ?_ |refine AWP.region ?_ |(refine AWP.condD rfl ?_ ?_ <;> intro _ <;> try (exfalso; omega)) |refine AWP.block ?_ |refine AWP.skip ?_ |refine AWP.exit ?_ |refine AWP.ret ?_ |(refine Fl.el rfl rfl rfl rfl rfl rfl rfl rfl (by omega) (by omega) ?_; intro _ _)|fail))
    · rename_i hi p hp;rw [Int.toNat_natCast] at hp;have hd := idxI_drop (f := f) hp;refine Fl.ioV rfl rfl [] (hf p (List.mem_of_getElem? hp)) rfl rfl (LeL.refl _) rfl ⟨⟨⟨_, rfl, BLe.cells (LeL.refl _)⟩, rfl⟩, trivial⟩ rfl rfl rfl rfl rfl ?_;(repeat' (first |refine Fl.v rfl rfl rfl ?_ |refine Fl.nilF ?_ |refine AWP.seq ?_ |refine AWP.region ?_ |refine Fl.w rfl rfl rfl (by first | exact True.intro | omega) ?_ |refine AWP.skip ?_ |refine AWP.ret ?_ |(refine AWP.condB rfl ?_ ?_ <;> intro _)))
      · rename_i hb;rw [if_pos hb] at hd;refine ⟨⟨[], _, _, Ent.refl _ _ _, rfl, AV.Le.int ?_, rfl, ⟨⟨⟨_, rfl, BLe.cells (LeL.refl _)⟩, rfl⟩, trivial⟩, rfl, rfl⟩⟩;rw [← k1, hd]
      · rename_i hb;rw [if_neg (by rw [hb]; simp)] at hd;refine LoopEnd.of (i + 1) ⟨by omega, by rw [← k1, hd]⟩ (by omega) ?_;refine Ent.of [] ?_ ?_ rfl rfl;(repeat' (first |exact True.intro |refine ⟨⟨AV.Le.refl _, rfl⟩, ?_⟩ |refine ⟨⟨⟨_, rfl, BLe.cells (LeL.refl _)⟩, rfl⟩, ?_⟩|fail))
    · refine ⟨⟨[], _, _, Ent.refl _ _ _, rfl, AV.Le.int ?_, rfl, ⟨⟨⟨_, rfl, BLe.cells (LeL.refl _)⟩, rfl⟩, trivial⟩, rfl, rfl⟩⟩;rw [← k1, List.drop_of_length_le (by omega)]; rfl
theorem conT_ok (o : Int) (f : TZ → Bool) (ps : List TZ) (hl : ps.length ≤ 1000000) (hf : ∀ p ∈ ps, IoFn Tryz.prog 142 ([aT p] ++ [.ptr 900 0]) (iB o) (.ret (aB (f p))) (iB o)) :
    IoFn Tryz.prog 141 [.sl 3 eT ps, .fn 142 [.ptr 900 0]] (iB o) (.ret (aB (ps.any f))) (iB o) := by
  refine IoFn.of_body Tryz.func141 rfl Tryz.ntmps141 rfl rfl rfl ?_;have h := idxT_ok o f ps hl hf;have he := idxI_any f ps 0 (by omega);(repeat' (first |refine Fl.v rfl rfl rfl ?_ |refine Fl.nilF ?_ |refine AWP.seq ?_ |refine AWP.region ?_));refine Fl.io rfl [] h rfl rfl (LeL.refl _) rfl ⟨⟨⟨_, rfl, BLe.cells (LeL.refl _)⟩, rfl⟩, trivial⟩ rfl rfl rfl rfl rfl ?_;(repeat' (first |refine Fl.v rfl rfl rfl ?_ |refine Fl.nilF ?_ |refine AWP.ret ?_));exact ⟨⟨[], _, _, Ent.refl _ _ _, rfl, AV.Le.bool he, rfl, ⟨⟨⟨_, rfl, BLe.cells (LeL.refl _)⟩, rfl⟩, trivial⟩, rfl, rfl⟩⟩
theorem link11_ok (i : Nat) (t : TZ) (hi : i < t.e.length) : IoFn Tryz.prog 142 [aT t, .ptr 900 0] (iB i) (.ret (aB (decide (0 < t.e.getD i 0)))) (iB i) := by
  refine IoFn.of_body Tryz.func142 rfl Tryz.ntmps142 rfl rfl rfl ?_;(repeat' (first |refine Fl.v rfl rfl rfl ?_ |refine Fl.nilF ?_ |refine AWP.seq ?_ |refine AWP.region ?_ |refine Fl.b rfl rfl rfl rfl ?_ |refine AWP.ret ?_ |(refine Fl.el rfl rfl rfl rfl rfl rfl rfl rfl (by omega) (by omega) ?_; intro _ _)|fail));rename_i x hx
  have hx : t.e[i]? = some x := by simpa using hx
  refine ⟨⟨[], _, _, Ent.refl _ _ _, rfl, AV.Le.bool ?_, rfl, ⟨⟨⟨_, rfl, BLe.cells (LeL.refl _)⟩, rfl⟩, trivial⟩, rfl, rfl⟩⟩;rw [List.getD_eq_getElem?_getD, hx];rfl
theorem idxK_ok (o : Int) (f : PZ → Bool) (ps : List PZ) (hl : ps.length ≤ 1000000) (hf : ∀ p ∈ ps, IoFn Tryz.prog 140 ([aP p] ++ [.ptr 900 0]) (iB o) (.ret (aB (f p))) (iB o)) :
    IoFn Tryz.prog 188 [.sl 2 eP ps, .fn 140 [.ptr 900 0]] (iB o) (.ret (aN (idxI f ps 0))) (iB o) := by
  refine IoFn.of_body Tryz.func188 rfl Tryz.ntmps188 rfl rfl rfl ?_;(repeat' (first |refine Fl.v rfl rfl rfl ?_ |refine Fl.nilF ?_ |refine AWP.seq ?_ |refine AWP.region ?_ |refine AWP.block ?_));refine AWP.loop (G := Nat) (fun i => i ≤ ps.length ∧ idxI f (ps.drop i) i = idxI f ps 0) (fun i => St.of [900] [(0, .sl 2 eP ps), (1, .fn 140 [.ptr 900 0]), (7, aN ps.length), (8, aN i)] [(900, .cells [aN o] 3)]) (fun i => ps.length - i) 0 ⟨by omega, by simp⟩ ?_ ?_
  · refine Ent.of [] ?_ ?_ rfl rfl;(repeat' (first |exact True.intro |refine ⟨⟨AV.Le.refl _, rfl⟩, ?_⟩ |refine ⟨⟨⟨_, rfl, BLe.cells (LeL.refl _)⟩, rfl⟩, ?_⟩|fail))
  · intro i ⟨k0, k1⟩;(repeat' (first |refine Fl.v rfl rfl rfl ?_ |refine Fl.nilF ?_ |refine AWP.seq ?_ |refine AWP.region ?_ |(refine AWP.condD rfl ?_ ?_ <;> intro _ <;> try (exfalso; omega)) |refine AWP.block ?_ |refine AWP.skip ?_ |refine AWP.exit ?_ |refine AWP.ret ?_ |(refine Fl.el rfl rfl rfl rfl rfl rfl rfl rfl (by omega) (by omega) ?_; intro _ _)|fail))
    · rename_i hi p hp;rw [Int.toNat_natCast] at hp;have hd := idxI_drop (f := f) hp;refine Fl.ioV rfl rfl [] (hf p (List.mem_of_getElem? hp)) rfl rfl (LeL.refl _) rfl ⟨⟨⟨_, rfl, BLe.cells (LeL.refl _)⟩, rfl⟩, trivial⟩ rfl rfl rfl rfl rfl ?_;(repeat' (first |refine Fl.v rfl rfl rfl ?_ |refine Fl.nilF ?_ |refine AWP.seq ?_ |refine AWP.region ?_ |refine Fl.w rfl rfl rfl (by first | exact True.intro | omega) ?_ |refine AWP.skip ?_ |refine AWP.ret ?_ |(refine AWP.condB rfl ?_ ?_ <;> intro _)))
      · rename_i hb;rw [if_pos hb] at hd;refine ⟨⟨[], _, _, Ent.refl _ _ _, rfl, AV.Le.int ?_, rfl, ⟨⟨⟨_, rfl, BLe.cells (LeL.refl _)⟩, rfl⟩, trivial⟩, rfl, rfl⟩⟩;rw [← k1, hd]
      · rename_i hb;rw [if_neg (by rw [hb]; simp)] at hd;refine LoopEnd.of (i + 1) ⟨by omega, by rw [← k1, hd]⟩ (by omega) ?_;refine Ent.of [] ?_ ?_ rfl rfl;(repeat' (first |exact True.intro |refine ⟨⟨AV.Le.refl _, rfl⟩, ?_⟩ |refine ⟨⟨⟨_, rfl, BLe.cells (LeL.refl _)⟩, rfl⟩, ?_⟩|fail))
    · refine ⟨⟨[], _, _, Ent.refl _ _ _, rfl, AV.Le.int ?_, rfl, ⟨⟨⟨_, rfl, BLe.cells (LeL.refl _)⟩, rfl⟩, trivial⟩, rfl, rfl⟩⟩;rw [← k1, List.drop_of_length_le (by omega)]; rfl
theorem conK_ok (o : Int) (f : PZ → Bool) (ps : List PZ) (hl : ps.length ≤ 1000000) (hf : ∀ p ∈ ps, IoFn Tryz.prog 140 ([aP p] ++ [.ptr 900 0]) (iB o) (.ret (aB (f p))) (iB o)) :
    IoFn Tryz.prog 139 [.sl 2 eP ps, .fn 140 [.ptr 900 0]] (iB o) (.ret (aB (ps.any f))) (iB o) := by
  refine IoFn.of_body Tryz.func139 rfl Tryz.ntmps139 rfl rfl rfl ?_;have h := idxK_ok o f ps hl hf;have he := idxI_any f ps 0 (by omega);(repeat' (first |refine Fl.v rfl rfl rfl ?_ |refine Fl.nilF ?_ |refine AWP.seq ?_ |refine AWP.region ?_));refine Fl.io rfl [] h rfl rfl (LeL.refl _) rfl ⟨⟨⟨_, rfl, BLe.cells (LeL.refl _)⟩, rfl⟩, trivial⟩ rfl rfl rfl rfl rfl ?_;(repeat' (first |refine Fl.v rfl rfl rfl ?_ |refine Fl.nilF ?_ |refine AWP.ret ?_));exact ⟨⟨[], _, _, Ent.refl _ _ _, rfl, AV.Le.bool he, rfl, ⟨⟨⟨_, rfl, BLe.cells (LeL.refl _)⟩, rfl⟩, trivial⟩, rfl, rfl⟩⟩
theorem linkK1_ok (i : Nat) (p : PZ) (hl : p.terms.length ≤ 1000000) (hi : ∀ t ∈ p.terms, i < t.e.length) : IoFn Tryz.prog 140 [aP p, .ptr 900 0] (iB i) (.ret (aB (p.terms.any fun t => decide (0 < t.e.getD i 0)))) (iB i) := by
  refine IoFn.of_body Tryz.func140 rfl Tryz.ntmps140 rfl rfl rfl ?_;have h := conT_ok i (fun t => decide (0 < t.e.getD i 0)) p.terms hl (fun t ht => link11_ok i t (hi t ht));(repeat' (first |refine Fl.v rfl rfl rfl ?_ |refine Fl.nilF ?_ |refine AWP.seq ?_ |refine AWP.region ?_ |refine Fl.b rfl rfl rfl rfl ?_))

  refine Fl.io rfl [] h rfl rfl (LeL.refl _) rfl ⟨⟨⟨_, rfl, BLe.cells (LeL.refl _)⟩, rfl⟩, trivial⟩ rfl rfl rfl rfl rfl ?_;(repeat' (first |refine Fl.v rfl rfl rfl ?_ |refine Fl.nilF ?_ |refine AWP.ret ?_));exact ⟨⟨[], _, _, Ent.refl _ _ _, rfl, AV.Le.refl _, rfl, ⟨⟨⟨_, rfl, BLe.cells (LeL.refl _)⟩, rfl⟩, trivial⟩, rfl, rfl⟩⟩
end Go.Proofs.YtcaecieigoplbaaGreat
/- Kit.Link, Kit.Eq: the walk. -/
namespace Go.AL
def occP (ls : List (List UT)) (i : Nat) : Bool := ls.any fun p => p.any fun u => decide (0 < u.2.getD i 0)
def occI (ls : List (List UT)) (i : Nat) : List Int := ((List.range i).filter (occP ls)).map fun (j : Nat) => (j : Int)
theorem occI_step (ls : List (List UT)) (i : Nat) : occI ls (i + 1) = if occP ls i = true then occI ls i ++ [(i : Int)] else occI ls i := by
  unfold occI;rw [List.range_succ, List.filter_append, List.map_append];by_cases h : occP ls i = true
  · rw [if_pos h]; simp [h]
  · rw [if_neg h]; simp [h]
theorem occI_len (ls : List (List UT)) (i : Nat) : (occI ls i).length ≤ i := by
  unfold occI;rw [List.length_map];exact Nat.le_trans (List.length_filter_le _ _) (by simp)
theorem occI_mem {ls : List (List UT)} {V : Nat} {x : Int} (h : x ∈ occI ls V) : 0 ≤ x ∧ x < V := by
  unfold occI at h;obtain ⟨j, hj, rfl⟩ := List.mem_map.1 h;have := (List.mem_filter.1 hj).1;rw [List.mem_range] at this;omega
theorem occP_any (V : Nat) (ls : List (List UT)) (i : Nat) : ((ls.map (mkP V)).any fun p => p.terms.any fun t => decide (0 < t.e.getD i 0)) = occP ls i := by
  unfold occP;rw [List.any_map];congr 1;funext p;simp only [Function.comp, mkP, List.any_map];rfl
def pickX (occ : List Int) (e : List Int) : List Int := occ.map fun x => e.getD x.toNat 0
theorem pickX_eq (occ : List Nat) (e : List Int) : pickX (occ.map fun (i : Nat) => (i : Int)) e = pickE occ e := by
  unfold pickX pickE;rw [List.map_map];rfl
end Go.AL
namespace Go.Proofs.YtcaecieigoplbaaGreat
open Go.AL

set_option maxHeartbeats 1000000 in
theorem kLink_ok (V : Nat) (kind : Int) (ls : List (List UT)) (hV : V ≤ 32) (hl : ls.length ≤ 1000) (hk : ∀ p ∈ ls, p.length ≤ 3000 ∧ ∀ u ∈ p, u.2.length = V) : PureFn Tryz.prog 68 [aK V, aN kind, .sl 2 eP (ls.map (mkP V))] (aL (linkU V kind ls)) := by
  refine PureFn.of_body Tryz.func68 rfl Tryz.ntmps68 rfl rfl ?_;obtain ⟨L, hL⟩ : ∃ L, L = ls.map (mkP V) := ⟨_, rfl⟩
  have hLl : L.length = ls.length := by rw [hL, List.length_map]
  rw [← hL]
  have hcon : ∀ i : Nat, i < V → IoFn Tryz.prog 139 [.sl 2 eP L, .fn 140 [.ptr 900 0]] (iB i) (.ret (aB (occP ls i))) (iB i) := fun i hi => by
    have h := conK_ok i (fun p => p.terms.any fun t => decide (0 < t.e.getD i 0)) L (by omega) (fun p hp => by
      rw [hL] at hp;obtain ⟨q, hq, rfl⟩ := List.mem_map.1 hp;have := hk q hq;refine linkK1_ok i (mkP V q) (by simp only [mkP, List.length_map]; omega) (fun t ht => ?_);obtain ⟨u, hu, rfl⟩ := List.mem_map.1 ht;have := this.2 u hu;show i < u.2.length
      omega)
    rw [hL, occP_any] at h;rw [hL];exact h
  refine AWP.seqS ?_;(repeat' (first |refine Fl.nilF ?_ |refine AWP.region ?_ |refine Fl.b rfl rfl rfl rfl ?_));refine ⟨AWP.seqS ?_⟩;(repeat' (first |refine Fl.v rfl rfl rfl ?_ |refine Fl.nilF ?_ |refine AWP.region ?_ |refine Fl.b rfl rfl rfl rfl ?_));refine ⟨?_⟩;refine AWP.ent (Ent.nilcell 7 1 805 rfl rfl rfl 1 eI 3) ?_;(repeat' (first |refine Fl.v rfl rfl rfl ?_ |refine Fl.nilF ?_ |refine AWP.seq ?_ |refine AWP.region ?_ |refine AWP.block ?_));refine AWP.loop (G := Nat) (fun i => i ≤ V) (fun i => St.of [] [(2, .sl 2 eP L), (6, .ptr 6 0), (7, .ptr 7 0), (20, aN V), (21, aN i)] [(6, .cells [aN 0, .v (.slice none 0 0), .v (.slice none 0 0)] 82), (7, .cells [aN kind, .row 700, .v (.slice none 0 0)] 82), (700, .row 1 eI (occI ls i) 3)]) (fun i => V - i) 0 (by omega) ?_ ?_
  · refine Ent.of [(700, 805)] ?_ ?_ rfl rfl;(repeat' (first |exact True.intro |refine ⟨⟨AV.Le.refl _, rfl⟩, ?_⟩ |refine ⟨⟨⟨_, rfl, BLe.cells (LeL.refl _)⟩, rfl⟩, ?_⟩ |refine ⟨⟨⟨_, rfl, BLe.row rfl⟩, rfl⟩, ?_⟩|fail))
  · intro i k0;have hol := occI_len ls i;have hst := occI_step ls i;(repeat' (first |refine Fl.v rfl rfl rfl ?_ |refine Fl.nilF ?_ |refine AWP.seq ?_ |refine AWP.region ?_ |refine Fl.b rfl rfl rfl rfl ?_ |(refine AWP.condD rfl ?_ ?_ <;> intro _ <;> try (exfalso; omega)) |refine AWP.block ?_ |refine AWP.skip ?_ |refine AWP.exit ?_))
    · rename_i hi;refine Fl.io rfl [(900, 8)] (hcon i (by omega)) rfl rfl (LeL.refl _) rfl ⟨⟨⟨_, rfl, BLe.cells (LeL.refl _)⟩, rfl⟩, trivial⟩ rfl rfl rfl rfl rfl ?_;(repeat' (first |refine Fl.v rfl rfl rfl ?_ |refine Fl.nilF ?_ |refine AWP.region ?_ |refine Fl.w rfl rfl rfl (by first | exact True.intro | omega) ?_ |refine AWP.skip ?_ |(refine AWP.condB rfl ?_ ?_ <;> intro _)))
      · rename_i hb;rw [if_pos hb] at hst;refine Fl.lit rfl rfl rfl rfl rfl eI [(i : Int)] rfl rfl rfl rfl (by intro _ _; rfl) rfl ?_;skip;refine Fl.ap rfl rfl rfl rfl rfl rfl rfl rfl rfl rfl rfl rfl rfl (fun _ => rfl) (fun _ => rfl) (AV.Le.refl _) (by dsimp only [List.length_nil, List.length_cons]; omega) (by simp; omega) ?_;(repeat' (first |refine Fl.v rfl rfl rfl ?_ |refine Fl.nilF ?_ |refine AWP.region ?_ |refine Fl.w rfl rfl rfl (by first | exact True.intro | omega) ?_ |refine Fl.b rfl rfl rfl rfl ?_));refine LoopEnd.of (i + 1) (by omega) (by omega) ?_;refine Ent.of [(700, 31)] ?_ ?_ rfl rfl;(repeat' (first |exact True.intro |refine ⟨⟨AV.Le.refl _, rfl⟩, ?_⟩ |refine ⟨⟨⟨_, rfl, BLe.cells (LeL.refl _)⟩, rfl⟩, ?_⟩ |refine ⟨⟨⟨_, rfl, BLe.row ?_⟩, rfl⟩, ?_⟩|fail));exact hst.symm
      · rename_i hb;rw [if_neg (by rw [hb]; simp)] at hst;refine LoopEnd.of (i + 1) (by omega) (by omega) ?_;refine Ent.of [] ?_ ?_ rfl rfl;(repeat' (first |exact True.intro |refine ⟨⟨AV.Le.refl _, rfl⟩, ?_⟩ |refine ⟨⟨⟨_, rfl, BLe.cells (LeL.refl _)⟩, rfl⟩, ?_⟩ |refine ⟨⟨⟨_, rfl, BLe.row ?_⟩, rfl⟩, ?_⟩|fail));exact hst.symm
    · rename_i hi
      have hiV : i = V := by omega
      subst hiV;have hom : ∀ (m : Nat) (x : Int), (occI ls i)[m]? = some x → 0 ≤ x ∧ x < i := fun m x hx => occI_mem (List.mem_of_getElem? hx);have hocc : occI ls i = (occL i ls).map fun (i : Nat) => (i : Int) := rfl
      have hon : (occL i ls).length = (occI ls i).length := by rw [hocc, List.length_map]
      have hres : linkU i kind ls = ⟨kind, occI ls i, ls.map fun p => mkP (occI ls i).length (p.map fun u => (u.1, pickX (occI ls i) u.2))⟩ := by
        unfold linkU;rw [← hocc, hon];congr 1;refine List.map_congr_left fun p _ => ?_;unfold pickU;congr 1;refine List.map_congr_left fun u _ => ?_;rw [hocc, pickX_eq]
      rw [hres]
      generalize occI ls i = occ at *
      refine AWP.ent (Ent.freeze 700 rfl) ?_;refine AWP.ent (Ent.nilcell 7 2 806 rfl rfl rfl 2 eP 70) ?_;skip;refine AWP.loop (G := Nat) (fun j => j ≤ ls.length) (fun j => St.of [] [(6, .ptr 6 0), (7, .ptr 7 0), (34, .sl 2 eP L), (35, aN L.length), (36, aN j)] [(6, .cells [aN 0, .v (.slice none 0 0), .v (.slice none 0 0)] 82), (7, .cells [aN kind, aI occ, .row 701] 82), (701, .row 2 eP ((ls.take j).map fun p => mkP occ.length (p.map fun u => (u.1, pickX occ u.2))) 70)]) (fun j => ls.length - j) 0 (by omega) ?_ ?_
      · refine Ent.of [(701, 806)] ?_ ?_ rfl rfl;(repeat' (first |exact True.intro |refine ⟨⟨AV.Le.refl _, rfl⟩, ?_⟩ |refine ⟨⟨⟨_, rfl, BLe.cells (LeL.refl _)⟩, rfl⟩, ?_⟩ |refine ⟨⟨⟨_, rfl, BLe.row rfl⟩, rfl⟩, ?_⟩|fail))
      · intro j g0
        have hlj : ((ls.take j).map fun p => mkP occ.length (p.map fun u => (u.1, pickX occ u.2))).length = j := by rw [List.length_map, List.length_take]; omega
        by_cases hj : j < ls.length
        · obtain ⟨q, hq⟩ : ∃ q, ls[j]? = some q := ⟨_, List.getElem?_eq_getElem hj⟩
          have hLq : L[j]? = some (mkP i q) := by rw [hL, List.getElem?_map, hq]; rfl
          obtain ⟨hq1, hq2⟩ := hk q (List.mem_of_getElem? hq);refine AWP.seqS ?_;(repeat' (first |refine Fl.v rfl rfl rfl ?_ |refine Fl.nilF ?_ |refine AWP.region ?_));refine ⟨?_⟩;refine AWP.seqS ?_;(repeat' (first |(refine AWP.condD rfl ?_ ?_ <;> intro _ <;> try (exfalso; omega)) |refine AWP.skip ?_));refine ⟨?_⟩;refine AWP.seq (AWP.block (AWP.seqS ?_));(repeat' (first |refine Fl.v rfl rfl rfl ?_ |refine Fl.nilF ?_ |refine AWP.region ?_ |refine Fl.b rfl rfl rfl rfl ?_ |refine Fl.elK rfl rfl rfl rfl rfl rfl rfl rfl (by assumption) (by omega) ?_|fail));refine ⟨?_⟩;refine AWP.seqS ?_;(repeat' (first |refine Fl.v rfl rfl rfl ?_ |refine Fl.nilF ?_ |refine AWP.region ?_ |refine Fl.b rfl rfl rfl rfl ?_));refine ⟨?_⟩;refine AWP.ent (Ent.nilcell 11 1 807 rfl rfl rfl 3 eT 124) ?_;(repeat' (first |refine Fl.v rfl rfl rfl ?_ |refine Fl.nilF ?_ |refine AWP.seq ?_ |refine AWP.region ?_ |refine AWP.block ?_));obtain ⟨T, hT⟩ : ∃ T, T = (mkP i q).terms := ⟨_, rfl⟩
          have hTl : T.length = q.length := by rw [hT]; simp [mkP]
          refine AWP.loop (G := Nat) (fun k => k ≤ q.length) (fun k => St.of [] [(6, .ptr 6 0), (7, .ptr 7 0), (34, .sl 2 eP L), (35, aN L.length), (36, aN j), (11, .ptr 11 0), (45, .sl 3 eT T), (46, aN T.length), (47, aN k)] [(6, .cells [aN 0, .v (.slice none 0 0), .v (.slice none 0 0)] 82), (7, .cells [aN kind, aI occ, .row 701] 82), (701, .row 2 eP ((ls.take j).map fun p => mkP occ.length (p.map fun u => (u.1, pickX occ u.2))) 70), (11, .cells [aN occ.length, .row 702] 70), (702, .row 3 eT (((q.take k).map fun u => (u.1, pickX occ u.2)).map tz) 124)]) (fun k => q.length - k) 0 (by omega) ?_ ?_
          · refine Ent.of [(702, 807)] ?_ ?_ rfl rfl;(repeat' (first |exact True.intro |refine ⟨⟨AV.Le.refl _, rfl⟩, ?_⟩ |refine ⟨⟨⟨_, rfl, BLe.cells (LeL.refl _)⟩, rfl⟩, ?_⟩ |refine ⟨⟨⟨_, rfl, BLe.row rfl⟩, rfl⟩, ?_⟩ |refine ⟨⟨AV.Le.int ?_, rfl⟩, ?_⟩ |refine ⟨⟨AV.Le.sl ?_, rfl⟩, ?_⟩|fail))
            · exact hT.symm
            · rw [hTl]; simp [mkP]
          · intro k e0
            have hlk : (((q.take k).map fun u => (u.1, pickX occ u.2)).map tz).length = k := by rw [List.length_map, List.length_map, List.length_take]; omega
            by_cases hkq : k < q.length
            · obtain ⟨u, hu⟩ : ∃ u, q[k]? = some u := ⟨_, List.getElem?_eq_getElem hkq⟩
              have hTu : T[k]? = some (tz u) := by rw [hT]; show (q.map tz)[k]? = _; rw [List.getElem?_map, hu]; rfl
              have hul := hq2 u (List.mem_of_getElem? hu);refine AWP.seqS ?_;(repeat' (first |refine Fl.v rfl rfl rfl ?_ |refine Fl.nilF ?_ |refine AWP.region ?_));refine ⟨?_⟩;refine AWP.seqS ?_;(repeat' (first |(refine AWP.condD rfl ?_ ?_ <;> intro _ <;> try (exfalso; omega)) |refine AWP.skip ?_));refine ⟨AWP.seq (AWP.block (AWP.seqS ?_))⟩;(repeat' (first |refine Fl.v rfl rfl rfl ?_ |refine Fl.nilF ?_ |refine AWP.region ?_ |refine Fl.b rfl rfl rfl rfl ?_ |refine Fl.elK rfl rfl rfl rfl rfl rfl rfl rfl (by assumption) (by omega) ?_|fail));refine ⟨AWP.seqS ?_⟩;(repeat' (first |refine Fl.v rfl rfl rfl ?_ |refine AWP.region ?_));refine Fl.make0 rfl rfl rfl rfl rfl rfl rfl rfl rfl eI (by omega) (by dsimp only; omega) (by omega) ?_;(repeat' (first |refine Fl.v rfl rfl rfl ?_ |refine Fl.nilF ?_));refine ⟨AWP.seq ?_⟩;(repeat' (first |refine Fl.v rfl rfl rfl ?_ |refine Fl.nilF ?_ |refine AWP.seq ?_ |refine AWP.region ?_ |refine AWP.block ?_));refine AWP.loop (G := Nat) (fun m => m ≤ occ.length) (fun m => St.of [] [(6, .ptr 6 0), (7, .ptr 7 0), (34, .sl 2 eP L), (35, aN L.length), (36, aN j), (11, .ptr 11 0), (45, .sl 3 eT T), (46, aN T.length), (47, aN k), (13, .ptr 13 0), (14, .row 703), (56, aI occ), (57, aN occ.length), (58, aN m)] [(6, .cells [aN 0, .v (.slice none 0 0), .v (.slice none 0 0)] 82), (7, .cells [aN kind, aI occ, .row 701] 82), (701, .row 2 eP ((ls.take j).map fun p => mkP occ.length (p.map fun u => (u.1, pickX occ u.2))) 70), (11, .cells [aN occ.length, .row 702] 70), (702, .row 3 eT (((q.take k).map fun u => (u.1, pickX occ u.2)).map tz) 124), (13, .cells (eT (tz u)) 124), (703, .row 1 eI ((occ.take m).map fun x => u.2.getD x.toNat 0) 3)]) (fun m => occ.length - m) 0 (by omega) ?_ ?_
              · refine Ent.of [(703, 54)] ?_ ?_ rfl rfl;(repeat' (first |exact True.intro |refine ⟨⟨AV.Le.refl _, rfl⟩, ?_⟩ |refine ⟨⟨⟨_, rfl, BLe.cells (LeL.refl _)⟩, rfl⟩, ?_⟩ |refine ⟨⟨⟨_, rfl, BLe.row rfl⟩, rfl⟩, ?_⟩|fail))
              · intro m m0
                have hlm : ((occ.take m).map fun x => u.2.getD x.toNat 0).length = m := by rw [List.length_map, List.length_take]; omega
                by_cases hm : m < occ.length
                · obtain ⟨x, hx⟩ : ∃ x, occ[m]? = some x := ⟨_, List.getElem?_eq_getElem hm⟩;have hxb := hom m x hx;obtain ⟨y, hy⟩ : ∃ y, u.2[x.toNat]? = some y := ⟨_, List.getElem?_eq_getElem (by omega)⟩;(repeat' (first |refine Fl.v rfl rfl rfl ?_ |refine Fl.nilF ?_ |refine AWP.seq ?_ |refine AWP.region ?_ |(refine AWP.condD rfl ?_ ?_ <;> intro _ <;> try (exfalso; omega)) |refine AWP.block ?_ |refine AWP.skip ?_ |refine Fl.elK rfl rfl rfl rfl rfl rfl rfl rfl (by assumption) (by omega) ?_|fail));refine Fl.lit rfl rfl rfl rfl rfl eI [y] rfl rfl rfl rfl (by intro _ _; rfl) rfl ?_;skip;refine Fl.ap rfl rfl rfl rfl rfl rfl rfl rfl rfl rfl rfl rfl rfl (fun _ => rfl) (fun _ => rfl) (AV.Le.refl _) (by dsimp only [List.length_nil, List.length_cons]; omega) (by dsimp only [List.length_nil, List.length_cons]; omega) ?_;(repeat' (first |refine Fl.v rfl rfl rfl ?_ |refine Fl.nilF ?_ |refine AWP.region ?_ |refine Fl.w rfl rfl rfl (by first | exact True.intro | omega) ?_|fail));refine LoopEnd.of (m + 1) (by omega) (by omega) ?_;refine Ent.of [(703, 69)] ?_ ?_ rfl rfl;(repeat' (first |exact True.intro |refine ⟨⟨AV.Le.refl _, rfl⟩, ?_⟩ |refine ⟨⟨⟨_, rfl, BLe.cells (LeL.refl _)⟩, rfl⟩, ?_⟩ |refine ⟨⟨⟨_, rfl, BLe.row rfl⟩, rfl⟩, ?_⟩ |refine ⟨⟨⟨_, rfl, BLe.row ?_⟩, rfl⟩, ?_⟩|fail));rw [take_snoc hx, List.map_append];congr 1;show [y] = [u.2.getD x.toNat 0];rw [List.getD_eq_getElem?_getD, hy];rfl
                · have htm : occ.take m = occ := List.take_of_length_le (by omega);rw [htm];refine AWP.ent (Ent.freeze 703 rfl) ?_;(repeat' (first |refine Fl.v rfl rfl rfl ?_ |refine Fl.nilF ?_ |refine AWP.seq ?_ |refine AWP.region ?_ |refine Fl.b rfl rfl rfl rfl ?_ |(refine AWP.condD rfl ?_ ?_ <;> intro _ <;> try (exfalso; omega)) |refine AWP.exit ?_));refine Fl.lit rfl rfl rfl rfl rfl eT [tz (u.1, pickX occ u.2)] rfl rfl rfl rfl (by intro _ _; rfl) rfl ?_;skip;refine Fl.ap rfl rfl rfl rfl rfl rfl rfl rfl rfl rfl rfl rfl rfl (fun _ => rfl) (fun _ => rfl) (AV.Le.refl _) (by dsimp only [List.length_nil, List.length_cons]; omega) (by dsimp only [List.length_nil, List.length_cons]; omega) ?_;(repeat' (first |refine Fl.v rfl rfl rfl ?_ |refine Fl.nilF ?_ |refine AWP.region ?_ |refine Fl.w rfl rfl rfl (by first | exact True.intro | omega) ?_ |refine Fl.b rfl rfl rfl rfl ?_));refine LoopEnd.of (k + 1) (by omega) (by omega) ?_;refine Ent.of [(702, 78)] ?_ ?_ rfl rfl;(repeat' (first |exact True.intro |refine ⟨⟨AV.Le.refl _, rfl⟩, ?_⟩ |refine ⟨⟨⟨_, rfl, BLe.cells (LeL.refl _)⟩, rfl⟩, ?_⟩ |refine ⟨⟨⟨_, rfl, BLe.row rfl⟩, rfl⟩, ?_⟩ |refine ⟨⟨⟨_, rfl, BLe.row ?_⟩, rfl⟩, ?_⟩|fail));rw [take_snoc hu, List.map_append, List.map_append];rfl
            · have htk : q.take k = q := List.take_of_length_le (by omega);rw [htk];refine AWP.ent (Ent.freeze 702 rfl) ?_;(repeat' (first |refine Fl.v rfl rfl rfl ?_ |refine Fl.nilF ?_ |refine AWP.seq ?_ |refine AWP.region ?_ |(refine AWP.condD rfl ?_ ?_ <;> intro _ <;> try (exfalso; omega)) |refine AWP.exit ?_));refine Fl.lit rfl rfl rfl rfl rfl eP [mkP occ.length (q.map fun u => (u.1, pickX occ u.2))] rfl rfl rfl rfl (by intro _ _; rfl) rfl ?_;skip;refine Fl.ap rfl rfl rfl rfl rfl rfl rfl rfl rfl rfl rfl rfl rfl (fun _ => rfl) (fun _ => rfl) (AV.Le.refl _) (by dsimp only [List.length_nil, List.length_cons]; omega) (by dsimp only [List.length_nil, List.length_cons]; omega) ?_;(repeat' (first |refine Fl.v rfl rfl rfl ?_ |refine Fl.nilF ?_ |refine AWP.region ?_ |refine Fl.w rfl rfl rfl (by first | exact True.intro | omega) ?_ |refine Fl.b rfl rfl rfl rfl ?_));refine LoopEnd.of (j + 1) (by omega) (by omega) ?_;refine Ent.of [(701, 85)] ?_ ?_ rfl rfl;(repeat' (first |exact True.intro |refine ⟨⟨AV.Le.refl _, rfl⟩, ?_⟩ |refine ⟨⟨⟨_, rfl, BLe.cells (LeL.refl _)⟩, rfl⟩, ?_⟩ |refine ⟨⟨⟨_, rfl, BLe.row ?_⟩, rfl⟩, ?_⟩|fail));rw [take_snoc hq, List.map_append];rfl
        · have htj : ls.take j = ls := List.take_of_length_le (by omega);rw [htj];refine AWP.ent (Ent.freeze 701 rfl) ?_;(repeat' (first |refine Fl.v rfl rfl rfl ?_ |refine Fl.nilF ?_ |refine AWP.seq ?_ |refine AWP.region ?_ |refine Fl.b rfl rfl rfl rfl ?_ |(refine AWP.condD rfl ?_ ?_ <;> intro _ <;> try (exfalso; omega)) |refine AWP.exit ?_ |refine AWP.ret ?_));exact RetOk.of rfl (AV.Le.refl _)
theorem kEq_ok (V : Nat) (hV : V ≤ 32) (p q l : List UT) (hp : chkU V p p = true) (hq : chkU V q q = true) (h : chkU V (addUs (-1) p q) l = true) (hl : l.length ≤ 3000 ∧ ∀ u ∈ l, u.2.length = V) : PureFn Tryz.prog 69 [aK V, aP (mkP V p), aP (mkP V q)] (aL (linkU V 0 [l])) := by
  refine PureFn.of_body Tryz.func69 rfl Tryz.ntmps69 rfl rfl ?_;have hk := kLink_ok V 0 [l] hV (by simp) (by simpa using hl);(repeat' (first |refine Fl.v rfl rfl rfl ?_ |refine Fl.nilF ?_ |refine AWP.seq ?_ |refine AWP.region ?_ |refine Fl.b rfl rfl rfl rfl ?_));refine Fl.call rfl (kSub_ok V hV p q l hp hq h) rfl rfl rfl (LeL.refl _) ?_;skip;refine Fl.lit rfl rfl rfl rfl rfl eP [mkP V l] rfl rfl rfl rfl (by intro _ _; rfl) rfl ?_;skip;refine Fl.call rfl (hk) rfl rfl rfl (LeL.refl _) ?_;(repeat' (first |refine Fl.nil (fun _ => by kernel_rfl) ?_ |refine Fl.b rfl rfl rfl rfl ?_ |refine AWP.ret ?_));exact RetOk.of rfl (AV.Le.refl _)
end Go.Proofs.YtcaecieigoplbaaGreat
/- The reference's polynomials: Mul; its links: First, Make. -/
namespace Go.AL
/-- the indices 0 to n - 1 -/
def ixN (n : Nat) : List Int := (List.range n).map fun (j : Nat) => (j : Int)
theorem ixN_succ (n : Nat) : ixN (n + 1) = ixN n ++ [(n : Int)] := by unfold ixN; rw [List.range_succ, List.map_append]; rfl
theorem ixN_length (n : Nat) : (ixN n).length = n := by simp [ixN]
theorem ixN_get {n i : Nat} (h : i < n) : (ixN n)[i]? = some (i : Int) := by simp [ixN, h]
theorem mulR_snoc {p q : List UT} {i : Nat} {t : UT} (h : q[i]? = some t) : mulR p (q.take (i + 1)) = mulR p (q.take i) ++ p.map fun s => (s.1 * t.1, addE s.2 t.2) := flatMap_take_succ _ h
theorem okT.mul {V M : Nat} {p q : List UT} (hp : okT V M p) (hq : okT V M q) (hE : ∀ s ∈ p, ∀ t ∈ q, EOk (addE s.2 t.2)) : okT V (M + M) (mulR p q) := fun u hu => by
  obtain ⟨t, ht, hu⟩ := List.mem_flatMap.1 hu;obtain ⟨s, hs, rfl⟩ := List.mem_map.1 hu;have a := hp s hs;have b := hq t ht;refine ⟨by rw [addE_length (by rw [a.1, b.1]), a.1], hE s hs t ht, ?_⟩;have := lenI_mul s.1 t.1;show lenI (s.1 * t.1) ≤ _;omega
/-- a link with the variables that occur, as the reference makes it -/
def linkR (V : Nat) (kind : Int) (ls : List (List UT)) : LZ := ⟨kind, occI ls V, ls.map fun p => mkP (occI ls V).length (canU (p.map fun u => (u.1, pickX (occI ls V) u.2)))⟩
def anyP (i : Nat) (p : List UT) : Bool := p.any fun u => decide (0 < u.2.getD i 0)
theorem any_take_succ {α : Type} (f : α → Bool) {l : List α} {k : Nat} {x : α} (h : l[k]? = some x) : (l.take (k + 1)).any f = ((l.take k).any f || f x) := by
  rw [take_snoc h, List.any_append]; simp
theorem okT.pick {V M : Nat} {p : List UT} (h : okT V M p) (occ : List Int) : okT occ.length M (p.map fun u => (u.1, pickX occ u.2)) := fun u hu => by
  obtain ⟨v, hv, rfl⟩ := List.mem_map.1 hu;refine ⟨by simp [pickX], fun e he => ?_, (h v hv).2.2⟩;obtain ⟨x, _, rfl⟩ := List.mem_map.1 he;rw [List.getD_eq_getElem?_getD]
  cases hx : v.2[x.toNat]? with
  | none => simp
  | some y => exact (h v hv).2.1 y (List.mem_of_getElem? hx)
end Go.AL
namespace Go.Proofs.YtcaecieigoplbaaGreat
open Go.AL

theorem rMulU (V M d : Nat) (hV : V ≤ 1000) (hM : M ≤ 9000) (p q : List UT) (hp : okT V M p) (hq : okT V M q) (nz : ∀ t ∈ q, t.1 ≠ 0) (hE : ∀ s ∈ p, ∀ t ∈ q, EOk (addE s.2 t.2)) (lp : p.length ≤ 3000) (lq : q.length ≤ 3000) (hd : q.length * p.length ≤ 2 ^ d) (hd2 : 2 ^ d ≤ 100000) (hd3 : d ≤ 20) : PureFn Tryz.prog 73 [aP (mkP V p), aP (mkP V q)] (aP (mkP V (mulL2 p q))) := by
  refine PureFn.of_body Tryz.func73 rfl Tryz.ntmps73 rfl rfl ?_;have hso := (rSortedU V hV d (M + M) (mulR p q) (by rw [mulR_length]; omega) hd2 (by omega) (hp.mul hq hE)).1;rw [canU_congr (cfU_mulR p q)] at hso;have hlen : (q.map tz).length = q.length := List.length_map ..;have hlp : (p.map tz).length = p.length := List.length_map ..;refine AWP.seqS ?_;(repeat' (first |refine Fl.nilF ?_ |refine AWP.region ?_ |refine Fl.b rfl rfl rfl rfl ?_));refine ⟨AWP.seqS ?_⟩;(repeat' (first |refine Fl.v rfl rfl rfl ?_ |refine Fl.nilF ?_ |refine AWP.region ?_));refine ⟨?_⟩;refine AWP.ent (Ent.nilrow 5 805 rfl rfl 3 eT 124) ?_;(repeat' (first |refine Fl.v rfl rfl rfl ?_ |refine Fl.nilF ?_ |refine AWP.seq ?_ |refine AWP.region ?_ |refine AWP.block ?_));refine AWP.loop (G := Nat) (fun i => i ≤ q.length) (fun i => St.of [] [(2, .ptr 2 0), (3, .ptr 3 0), (4, .ptr 4 0), (5, .row 700), (6, aN i)] [(2, .cells [aN V, .sl 3 eT (p.map tz)] 70), (3, .cells [aN V, .sl 3 eT (q.map tz)] 70), (4, .cells [aN 0, .v (.slice none 0 0)] 70), (700, .row 3 eT ((mulR p (q.take i)).map tz) 124)]) (fun i => q.length - i) 0 (by omega) ?_ ?_
  · refine Ent.of [(700, 805)] ?_ ?_ rfl rfl;(repeat' (first |exact True.intro |refine ⟨⟨AV.Le.refl _, rfl⟩, ?_⟩ |refine ⟨⟨⟨_, rfl, BLe.cells (LeL.refl _)⟩, rfl⟩, ?_⟩ |refine ⟨⟨⟨_, rfl, BLe.row rfl⟩, rfl⟩, ?_⟩|fail))
  · intro i k0
    have hli : ((mulR p (q.take i)).map tz).length = i * p.length := by rw [List.length_map, mulR_length, List.length_take, Nat.min_eq_left k0]
    have hmx : i * p.length ≤ q.length * p.length := Nat.mul_le_mul_right _ k0;by_cases hi : i < q.length
    · obtain ⟨t, ht⟩ : ∃ t, q[i]? = some t := ⟨_, List.getElem?_eq_getElem hi⟩;have htm := List.mem_of_getElem? ht
      have hqt : (q.map tz)[i]? = some (tz t) := by rw [List.getElem?_map, ht]; rfl
      have hti := rTimesU V M hV (by omega) p t lp hp (hq.sub fun u hu => by simp only [List.mem_singleton] at hu; rw [hu]; exact htm);rw [if_neg (nz t htm)] at hti;have hms := mulR_snoc (p := p) ht;obtain ⟨T, hT⟩ : ∃ T, T = p.map fun s => (s.1 * t.1, addE s.2 t.2) := ⟨_, rfl⟩
      have hTl : (T.map tz).length = p.length := by rw [hT, List.length_map, List.length_map]
      rw [← hT] at hti hms;have hm1 : (i + 1) * p.length ≤ q.length * p.length := Nat.mul_le_mul_right _ hi;rw [Nat.add_mul] at hm1;(repeat' (first |refine Fl.v rfl rfl rfl ?_ |refine Fl.nilF ?_ |refine AWP.seq ?_ |refine AWP.region ?_ |(refine AWP.condD rfl ?_ ?_ <;> intro _ <;> try (exfalso; omega)) |refine AWP.block ?_ |refine AWP.skip ?_ |refine Fl.elK rfl rfl rfl rfl rfl rfl rfl rfl (by assumption) (by omega) ?_|fail));refine Fl.call rfl (hti) rfl rfl rfl (LeL.refl _) ?_;(repeat' (first |refine Fl.v rfl rfl rfl ?_));refine Fl.ap rfl rfl rfl rfl rfl rfl rfl rfl rfl rfl rfl rfl rfl (fun _ => rfl) (fun _ => rfl) (AV.Le.refl _) (by show (((mulR p (q.take i)).map tz).length + (T.map tz).length) * _ ≤ _; dsimp only; omega) (by show ((mulR p (q.take i)).map tz).length + (T.map tz).length ≤ _; omega) ?_;(repeat' (first |refine Fl.v rfl rfl rfl ?_ |refine Fl.nilF ?_ |refine Fl.nil (fun _ => by kernel_rfl) ?_ |refine AWP.region ?_ |refine Fl.w rfl rfl rfl (by first | exact True.intro | omega) ?_|fail));refine LoopEnd.of (i + 1) (by omega) (by omega) ?_;refine Ent.of [(700, 23)] ?_ ?_ rfl rfl;(repeat' (first |exact True.intro |refine ⟨⟨AV.Le.refl _, rfl⟩, ?_⟩ |refine ⟨⟨⟨_, rfl, BLe.cells (LeL.refl _)⟩, rfl⟩, ?_⟩ |refine ⟨⟨⟨_, rfl, BLe.row ?_⟩, rfl⟩, ?_⟩|fail));rw [hms, List.map_append];rfl
    · have hti : q.take i = q := List.take_of_length_le (by omega);rw [hti];(repeat' (first |refine Fl.v rfl rfl rfl ?_ |refine Fl.nilF ?_ |refine AWP.seq ?_ |refine AWP.region ?_ |(refine AWP.condD rfl ?_ ?_ <;> intro _ <;> try (exfalso; omega)) |refine AWP.exit ?_));refine Fl.callF rfl 700 rfl hso rfl rfl rfl (LeL.refl _) ?_;(repeat' (first |refine Fl.nil (fun _ => by kernel_rfl) ?_ |refine Fl.b rfl rfl rfl rfl ?_ |refine AWP.ret ?_));exact RetOk.of rfl (AV.Le.refl _)
theorem rFirst_ok (n : Nat) (hn : n ≤ 1000000) : PureFn Tryz.prog 71 [aN n] (aI (ixN n)) := by
  refine PureFn.of_body Tryz.func71 rfl Tryz.ntmps71 rfl rfl ?_;(repeat' (first |refine Fl.v rfl rfl rfl ?_ |refine Fl.nilF ?_ |refine AWP.seq ?_ |refine AWP.region ?_ |refine AWP.block ?_));refine AWP.ent (Ent.nilrow 3 805 rfl rfl 1 eI 3) ?_;refine AWP.loop (G := Nat) (fun i => i ≤ n) (fun i => St.of [] [(0, aN n), (3, .row 700), (4, aN i)] [(700, .row 1 eI (ixN i) 3)]) (fun i => n - i) 0 (by omega) ?_ ?_
  · refine Ent.of [(700, 805)] ?_ ?_ rfl rfl;(repeat' (first |exact True.intro |refine ⟨⟨AV.Le.refl _, rfl⟩, ?_⟩ |refine ⟨⟨⟨_, rfl, BLe.row rfl⟩, rfl⟩, ?_⟩|fail))
  · intro i k0;have hli := ixN_length i;(repeat' (first |refine Fl.v rfl rfl rfl ?_ |refine Fl.nilF ?_ |refine AWP.seq ?_ |refine AWP.region ?_ |(refine AWP.condD rfl ?_ ?_ <;> intro _ <;> try (exfalso; omega)) |refine AWP.block ?_ |refine AWP.skip ?_ |refine AWP.exit ?_ |refine AWP.ret ?_))
    · refine Fl.lit rfl rfl rfl rfl rfl eI [(i : Int)] rfl rfl rfl rfl (by intro _ _; rfl) rfl ?_;skip;refine Fl.ap rfl rfl rfl rfl rfl rfl rfl rfl rfl rfl rfl rfl rfl (fun _ => rfl) (fun _ => rfl) (AV.Le.refl _) (by dsimp only [List.length_nil, List.length_cons]; omega) (by dsimp only [List.length_nil, List.length_cons]; omega) ?_;(repeat' (first |refine Fl.v rfl rfl rfl ?_ |refine Fl.nilF ?_ |refine AWP.region ?_ |refine Fl.w rfl rfl rfl (by first | exact True.intro | omega) ?_|fail));refine LoopEnd.of (i + 1) (by omega) (by omega) ?_;refine Ent.of [(700, 13)] ?_ ?_ rfl rfl;(repeat' (first |exact True.intro |refine ⟨⟨AV.Le.refl _, rfl⟩, ?_⟩ |refine ⟨⟨⟨_, rfl, BLe.row ?_⟩, rfl⟩, ?_⟩|fail));exact (ixN_succ i).symm
    · rename_i hi
      have : i = n := by omega
      subst this;refine RetOk.ent (Ent.freeze 700 rfl) ?_;exact RetOk.of rfl (AV.Le.refl _)
end Go.Proofs.YtcaecieigoplbaaGreat
/- The reference's links: Make. -/
namespace Go.Proofs.YtcaecieigoplbaaGreat
open Go.AL

set_option maxHeartbeats 1000000 in
theorem rMakeL_ok (V M : Nat) (kind : Int) (ls : List (List UT)) (W : List Int) (hW : W = ixN V) (hV : V ≤ 1000) (hM : M ≤ 20000) (hl : ls.length ≤ 1000) (hk : ∀ p ∈ ls, p.length ≤ 3000 ∧ okT V M p) : PureFn Tryz.prog 75 [aN kind, aI W, .sl 2 eP (ls.map (mkP V))] (aL (linkR V kind ls)) := by
  refine PureFn.of_body Tryz.func75 rfl Tryz.ntmps75 rfl rfl ?_
  have hWl : W.length = V := by rw [hW, ixN_length]
  have hWg : ∀ i, i < V → W[i]? = some (i : Int) := fun i hi => by rw [hW]; exact ixN_get hi
  obtain ⟨L, hL⟩ : ∃ L, L = ls.map (mkP V) := ⟨_, rfl⟩
  have hLl : L.length = ls.length := by rw [hL, List.length_map]
  rw [← hL];refine AWP.seqS ?_;(repeat' (first |refine Fl.nilF ?_ |refine AWP.region ?_ |refine Fl.b rfl rfl rfl rfl ?_));refine ⟨AWP.seqS ?_⟩;(repeat' (first |refine Fl.v rfl rfl rfl ?_ |refine Fl.nilF ?_ |refine AWP.region ?_ |refine Fl.b rfl rfl rfl rfl ?_));refine ⟨AWP.seqS ?_⟩;(repeat' (first |refine Fl.v rfl rfl rfl ?_ |refine Fl.nilF ?_ |refine AWP.region ?_));refine ⟨?_⟩;refine AWP.ent (Ent.nilrow 8 805 rfl rfl 1 eI 3) ?_;refine AWP.ent (Ent.nilcell 7 1 806 rfl rfl rfl 1 eI 3) ?_;(repeat' (first |refine Fl.v rfl rfl rfl ?_ |refine Fl.nilF ?_ |refine AWP.seq ?_ |refine AWP.region ?_ |refine AWP.block ?_));refine AWP.loop (G := Nat) (fun i => i ≤ V) (fun i => St.of [] [(1, aI W), (2, .sl 2 eP L), (6, .ptr 6 0), (7, .ptr 7 0), (8, .row 700), (9, aN i)] [(6, .cells [aN 0, .v (.slice none 0 0), .v (.slice none 0 0)] 82), (7, .cells [aN kind, .row 701, .v (.slice none 0 0)] 82), (700, .row 1 eI (occI ls i) 3), (701, .row 1 eI (occI ls i) 3)]) (fun i => V - i) 0 (by omega) ?_ ?_
  · refine Ent.of [(700, 805), (701, 806)] ?_ ?_ rfl rfl;(repeat' (first |exact True.intro |refine ⟨⟨AV.Le.refl _, rfl⟩, ?_⟩ |refine ⟨⟨⟨_, rfl, BLe.cells (LeL.refl _)⟩, rfl⟩, ?_⟩ |refine ⟨⟨⟨_, rfl, BLe.row rfl⟩, rfl⟩, ?_⟩|fail))
  · intro i k0;have hol := occI_len ls i;have hst := occI_step ls i;by_cases hi : i < V
    · have hWi := hWg i hi;refine AWP.seqS ?_;(repeat' (first |refine Fl.v rfl rfl rfl ?_ |refine Fl.nilF ?_ |refine AWP.seq ?_ |refine AWP.region ?_ |(refine AWP.condD rfl ?_ ?_ <;> intro _ <;> try (exfalso; omega)) |refine AWP.skip ?_));refine ⟨AWP.seq (AWP.block (AWP.seqS ?_))⟩;(repeat' (first |refine Fl.v rfl rfl rfl ?_ |refine Fl.nilF ?_ |refine AWP.region ?_));refine ⟨?_⟩;refine AWP.seqJ (G := Bool) (fun b => b = occP ls i) (fun b => St.of [] [(1, aI W), (2, .sl 2 eP L), (6, .ptr 6 0), (7, .ptr 7 0), (8, .row 700), (9, aN i), (10, aB b)] [(6, .cells [aN 0, .v (.slice none 0 0), .v (.slice none 0 0)] 82), (7, .cells [aN kind, .row 701, .v (.slice none 0 0)] 82), (700, .row 1 eI (occI ls i) 3), (701, .row 1 eI (occI ls i) 3)]) ?_ ?_
      · (repeat' (first |refine Fl.v rfl rfl rfl ?_ |refine Fl.nilF ?_ |refine AWP.seq ?_ |refine AWP.region ?_ |refine AWP.block ?_));refine AWP.loop (G := Nat) (fun j => j ≤ ls.length) (fun j => St.of [] [(1, aI W), (2, .sl 2 eP L), (6, .ptr 6 0), (7, .ptr 7 0), (8, .row 700), (9, aN i), (10, aB ((ls.take j).any (anyP i))), (11, aN j)] [(6, .cells [aN 0, .v (.slice none 0 0), .v (.slice none 0 0)] 82), (7, .cells [aN kind, .row 701, .v (.slice none 0 0)] 82), (700, .row 1 eI (occI ls i) 3), (701, .row 1 eI (occI ls i) 3)]) (fun j => ls.length - j) 0 (by omega) ?_ ?_
        · refine Ent.of [] ?_ ?_ rfl rfl;(repeat' (first |exact True.intro |refine ⟨⟨AV.Le.refl _, rfl⟩, ?_⟩ |refine ⟨⟨⟨_, rfl, BLe.cells (LeL.refl _)⟩, rfl⟩, ?_⟩ |refine ⟨⟨⟨_, rfl, BLe.row rfl⟩, rfl⟩, ?_⟩|fail))
        · intro j j0;by_cases hj : j < ls.length
          · obtain ⟨q, hq⟩ : ∃ q, ls[j]? = some q := ⟨_, List.getElem?_eq_getElem hj⟩
            have hLq : L[j]? = some (mkP V q) := by rw [hL, List.getElem?_map, hq]; rfl
            obtain ⟨hq1, hq2⟩ := hk q (List.mem_of_getElem? hq);obtain ⟨b0, hb0⟩ : ∃ b, b = (ls.take j).any (anyP i) := ⟨_, rfl⟩
            have hTl : (mkP V q).terms.length = q.length := by simp [mkP]
            have hany := any_take_succ (anyP i) hq;rw [← hb0] at hany ⊢;refine AWP.seqS ?_;(repeat' (first |refine Fl.v rfl rfl rfl ?_ |refine Fl.nilF ?_ |refine AWP.seq ?_ |refine AWP.region ?_ |(refine AWP.condD rfl ?_ ?_ <;> intro _ <;> try (exfalso; omega)) |refine AWP.skip ?_));refine ⟨AWP.seq (AWP.block ?_)⟩;(repeat' (first |refine Fl.v rfl rfl rfl ?_ |refine Fl.nilF ?_ |refine AWP.seq ?_ |refine AWP.region ?_ |refine AWP.block ?_));refine AWP.loop (G := Nat) (fun k => k ≤ q.length) (fun k => St.of [] [(1, aI W), (2, .sl 2 eP L), (6, .ptr 6 0), (7, .ptr 7 0), (8, .row 700), (9, aN i), (10, aB (b0 || (anyP i (q.take k)))), (11, aN j), (12, aN k)] [(6, .cells [aN 0, .v (.slice none 0 0), .v (.slice none 0 0)] 82), (7, .cells [aN kind, .row 701, .v (.slice none 0 0)] 82), (700, .row 1 eI (occI ls i) 3), (701, .row 1 eI (occI ls i) 3)]) (fun k => q.length - k) 0 (by omega) ?_ ?_
            · refine Ent.of [] ?_ ?_ rfl rfl;(repeat' (first |exact True.intro |refine ⟨⟨AV.Le.refl _, rfl⟩, ?_⟩ |refine ⟨⟨⟨_, rfl, BLe.cells (LeL.refl _)⟩, rfl⟩, ?_⟩ |refine ⟨⟨⟨_, rfl, BLe.row rfl⟩, rfl⟩, ?_⟩ |refine ⟨⟨AV.Le.bool ?_, rfl⟩, ?_⟩|fail));show b0 = (b0 || false);rw [Bool.or_false]
            · intro k e0;by_cases hkq : k < q.length
              · obtain ⟨u, hu⟩ : ∃ u, q[k]? = some u := ⟨_, List.getElem?_eq_getElem hkq⟩
                have hTu : (mkP V q).terms[k]? = some (tz u) := by show (q.map tz)[k]? = _; rw [List.getElem?_map, hu]; rfl
                have hul := (hq2 u (List.mem_of_getElem? hu)).1;obtain ⟨x, hx⟩ : ∃ x, u.2[i]? = some x := ⟨_, List.getElem?_eq_getElem (by omega)⟩
                have hstep : anyP i (q.take (k + 1)) = (anyP i (q.take k) || decide (0 < x)) := by
                  have := any_take_succ (fun u : UT => decide (0 < u.2.getD i 0)) hu;rw [List.getD_eq_getElem?_getD, hx] at this;exact this
                obtain ⟨b1, hb1⟩ : ∃ b, b = (b0 || anyP i (q.take k)) := ⟨_, rfl⟩
                have hstep2 : (b0 || anyP i (q.take (k + 1))) = (b1 || decide (0 < x)) := by rw [hstep, hb1, Bool.or_assoc]
                rw [← hb1]
                cases b1 with
                | true =>
                  (repeat' (first |refine Fl.v rfl rfl rfl ?_ |refine Fl.nilF ?_ |refine AWP.seq ?_ |refine AWP.region ?_ |refine Fl.w rfl rfl rfl (by first | exact True.intro | omega) ?_ |refine Fl.skip rfl rfl ?_ |(refine AWP.condD rfl ?_ ?_ <;> intro _ <;> try (exfalso; omega)) |refine AWP.block ?_ |refine AWP.skip ?_ |refine Fl.elK rfl rfl rfl rfl rfl rfl rfl rfl (by assumption) (by omega) ?_|fail));refine LoopEnd.of (k + 1) (by omega) (by omega) ?_;refine Ent.of [] ?_ ?_ rfl rfl;(repeat' (first |exact True.intro |refine ⟨⟨AV.Le.refl _, rfl⟩, ?_⟩ |refine ⟨⟨⟨_, rfl, BLe.cells (LeL.refl _)⟩, rfl⟩, ?_⟩ |refine ⟨⟨⟨_, rfl, BLe.row rfl⟩, rfl⟩, ?_⟩ |refine ⟨⟨AV.Le.bool ?_, rfl⟩, ?_⟩|fail));rw [hstep2]; rfl
                | false =>
                  (repeat' (first |refine Fl.v rfl rfl rfl ?_ |refine Fl.nilF ?_ |refine AWP.seq ?_ |refine AWP.region ?_ |refine Fl.w rfl rfl rfl (by first | exact True.intro | omega) ?_ |(refine AWP.condD rfl ?_ ?_ <;> intro _ <;> try (exfalso; omega)) |refine AWP.block ?_ |refine AWP.skip ?_ |refine Fl.elK rfl rfl rfl rfl rfl rfl rfl rfl (by assumption) (by omega) ?_|fail));refine LoopEnd.of (k + 1) (by omega) (by omega) ?_;refine Ent.of [] ?_ ?_ rfl rfl;(repeat' (first |exact True.intro |refine ⟨⟨AV.Le.refl _, rfl⟩, ?_⟩ |refine ⟨⟨⟨_, rfl, BLe.cells (LeL.refl _)⟩, rfl⟩, ?_⟩ |refine ⟨⟨⟨_, rfl, BLe.row rfl⟩, rfl⟩, ?_⟩ |refine ⟨⟨AV.Le.bool ?_, rfl⟩, ?_⟩|fail));rw [hstep2]; rfl
              · have htk : q.take k = q := List.take_of_length_le (by omega);rw [htk, ← hany];(repeat' (first |refine Fl.v rfl rfl rfl ?_ |refine Fl.nilF ?_ |refine AWP.seq ?_ |refine AWP.region ?_ |refine Fl.w rfl rfl rfl (by first | exact True.intro | omega) ?_ |(refine AWP.condD rfl ?_ ?_ <;> intro _ <;> try (exfalso; omega)) |refine AWP.exit ?_ |refine Fl.elK rfl rfl rfl rfl rfl rfl rfl rfl (by assumption) (by omega) ?_|fail));refine LoopEnd.of (j + 1) (by omega) (by omega) ?_;refine Ent.of [] ?_ ?_ rfl rfl;(repeat' (first |exact True.intro |refine ⟨⟨AV.Le.refl _, rfl⟩, ?_⟩ |refine ⟨⟨⟨_, rfl, BLe.cells (LeL.refl _)⟩, rfl⟩, ?_⟩ |refine ⟨⟨⟨_, rfl, BLe.row rfl⟩, rfl⟩, ?_⟩|fail))
          · (repeat' (first |refine Fl.v rfl rfl rfl ?_ |refine Fl.nilF ?_ |refine AWP.seq ?_ |refine AWP.region ?_ |(refine AWP.condD rfl ?_ ?_ <;> intro _ <;> try (exfalso; omega)) |refine AWP.exit ?_));refine JoinOk.of ((ls.take j).any (anyP i)) ?_ ?_
            · rw [List.take_of_length_le (by omega)]; rfl
            · refine Ent.of [] ?_ ?_ rfl rfl;(repeat' (first |exact True.intro |refine ⟨⟨AV.Le.refl _, rfl⟩, ?_⟩ |refine ⟨⟨⟨_, rfl, BLe.cells (LeL.refl _)⟩, rfl⟩, ?_⟩ |refine ⟨⟨⟨_, rfl, BLe.row rfl⟩, rfl⟩, ?_⟩|fail))
      · intro b hb;subst hb;(repeat' (first |refine Fl.v rfl rfl rfl ?_ |refine Fl.nilF ?_ |refine AWP.seq ?_ |refine AWP.region ?_ |refine Fl.w rfl rfl rfl (by first | exact True.intro | omega) ?_ |refine AWP.skip ?_ |(refine AWP.condB rfl ?_ ?_ <;> intro _)))
        · rename_i hb;rw [if_pos hb] at hst;refine Fl.lit rfl rfl rfl rfl rfl eI [(i : Int)] rfl rfl rfl rfl (by intro _ _; rfl) rfl ?_;skip;refine Fl.ap rfl rfl rfl rfl rfl rfl rfl rfl rfl rfl rfl rfl rfl (fun _ => rfl) (fun _ => rfl) (AV.Le.refl _) (by dsimp only [List.length_nil, List.length_cons]; omega) (by dsimp only [List.length_nil, List.length_cons]; omega) ?_;(repeat' (first |refine Fl.v rfl rfl rfl ?_ |refine Fl.elK rfl rfl rfl rfl rfl rfl rfl rfl (by assumption) (by omega) ?_|fail));refine Fl.lit rfl rfl rfl rfl rfl eI [(i : Int)] rfl rfl rfl rfl (by intro _ _; rfl) rfl ?_;skip;refine Fl.ap rfl rfl rfl rfl rfl rfl rfl rfl rfl rfl rfl rfl rfl (fun _ => rfl) (fun _ => rfl) (AV.Le.refl _) (by dsimp only [List.length_nil, List.length_cons]; omega) (by dsimp only [List.length_nil, List.length_cons]; omega) ?_;(repeat' (first |refine Fl.v rfl rfl rfl ?_ |refine Fl.nilF ?_ |refine Fl.nil (fun _ => by kernel_rfl) ?_ |refine AWP.region ?_ |refine Fl.w rfl rfl rfl (by first | exact True.intro | omega) ?_ |refine Fl.b rfl rfl rfl rfl ?_));refine LoopEnd.of (i + 1) (by omega) (by omega) ?_;refine Ent.of [(700, 62), (701, 70)] ?_ ?_ rfl rfl;(repeat' (first |exact True.intro |refine ⟨⟨AV.Le.refl _, rfl⟩, ?_⟩ |refine ⟨⟨⟨_, rfl, BLe.cells (LeL.refl _)⟩, rfl⟩, ?_⟩ |refine ⟨⟨⟨_, rfl, BLe.row ?_⟩, rfl⟩, ?_⟩|fail))
          · exact hst.symm
          · exact hst.symm
        · rename_i hb;rw [if_neg (by rw [hb]; simp)] at hst;refine LoopEnd.of (i + 1) (by omega) (by omega) ?_;refine Ent.of [] ?_ ?_ rfl rfl;(repeat' (first |exact True.intro |refine ⟨⟨AV.Le.refl _, rfl⟩, ?_⟩ |refine ⟨⟨⟨_, rfl, BLe.cells (LeL.refl _)⟩, rfl⟩, ?_⟩ |refine ⟨⟨⟨_, rfl, BLe.row ?_⟩, rfl⟩, ?_⟩|fail))
          · exact hst.symm
          · exact hst.symm
    · have hiV : i = V := by omega
      subst hiV;have hom : ∀ (m : Nat) (x : Int), (occI ls i)[m]? = some x → 0 ≤ x ∧ x < i := fun m x hx => occI_mem (List.mem_of_getElem? hx);have hres : linkR i kind ls = ⟨kind, occI ls i, ls.map fun p => mkP (occI ls i).length (canU (p.map fun u => (u.1, pickX (occI ls i) u.2)))⟩ := rfl;rw [hres]
      generalize occI ls i = occ at *
      refine AWP.ent (Ent.freeze 700 rfl) ?_;refine AWP.ent (Ent.freeze 701 rfl) ?_;refine AWP.ent (Ent.nilcell 7 2 806 rfl rfl rfl 2 eP 70) ?_;(repeat' (first |refine Fl.v rfl rfl rfl ?_ |refine Fl.nilF ?_ |refine AWP.seq ?_ |refine AWP.region ?_ |(refine AWP.condD rfl ?_ ?_ <;> intro _ <;> try (exfalso; omega)) |refine AWP.block ?_ |refine AWP.exit ?_));refine AWP.loop (G := Nat) (fun j => j ≤ ls.length) (fun j => St.of [] [(2, .sl 2 eP L), (6, .ptr 6 0), (7, .ptr 7 0), (8, aI occ), (13, aN j)] [(6, .cells [aN 0, .v (.slice none 0 0), .v (.slice none 0 0)] 82), (7, .cells [aN kind, aI occ, .row 701] 82), (701, .row 2 eP ((ls.take j).map fun p => mkP occ.length (canU (p.map fun u => (u.1, pickX occ u.2)))) 70)]) (fun j => ls.length - j) 0 (by omega) ?_ ?_
      · refine Ent.of [(701, 806)] ?_ ?_ rfl rfl;(repeat' (first |exact True.intro |refine ⟨⟨AV.Le.refl _, rfl⟩, ?_⟩ |refine ⟨⟨⟨_, rfl, BLe.cells (LeL.refl _)⟩, rfl⟩, ?_⟩ |refine ⟨⟨⟨_, rfl, BLe.row rfl⟩, rfl⟩, ?_⟩|fail))
      · intro j g0
        have hlj : ((ls.take j).map fun p => mkP occ.length (canU (p.map fun u => (u.1, pickX occ u.2)))).length = j := by rw [List.length_map, List.length_take]; omega
        by_cases hj : j < ls.length
        · obtain ⟨q, hq⟩ : ∃ q, ls[j]? = some q := ⟨_, List.getElem?_eq_getElem hj⟩
          have hLq : L[j]? = some (mkP i q) := by rw [hL, List.getElem?_map, hq]; rfl
          obtain ⟨hq1, hq2⟩ := hk q (List.mem_of_getElem? hq)
          have hTl : (mkP i q).terms.length = q.length := by simp [mkP]
          refine AWP.seqS ?_;(repeat' (first |refine Fl.v rfl rfl rfl ?_ |refine Fl.nilF ?_ |refine AWP.seq ?_ |refine AWP.region ?_ |(refine AWP.condD rfl ?_ ?_ <;> intro _ <;> try (exfalso; omega)) |refine AWP.skip ?_));refine ⟨AWP.seq (AWP.block (AWP.seqS ?_))⟩;(repeat' (first |refine Fl.v rfl rfl rfl ?_ |refine Fl.nilF ?_ |refine AWP.region ?_ |refine Fl.b rfl rfl rfl rfl ?_));refine ⟨?_⟩;refine AWP.ent (Ent.nilcell 14 1 807 rfl rfl rfl 3 eT 124) ?_;(repeat' (first |refine Fl.v rfl rfl rfl ?_ |refine Fl.nilF ?_ |refine AWP.seq ?_ |refine AWP.region ?_ |refine AWP.block ?_));refine AWP.loop (G := Nat) (fun k => k ≤ q.length) (fun k => St.of [] [(2, .sl 2 eP L), (6, .ptr 6 0), (7, .ptr 7 0), (8, aI occ), (13, aN j), (14, .ptr 14 0), (15, aN k)] [(6, .cells [aN 0, .v (.slice none 0 0), .v (.slice none 0 0)] 82), (7, .cells [aN kind, aI occ, .row 701] 82), (701, .row 2 eP ((ls.take j).map fun p => mkP occ.length (canU (p.map fun u => (u.1, pickX occ u.2)))) 70), (14, .cells [aN occ.length, .row 702] 70), (702, .row 3 eT (((q.take k).map fun u => (u.1, pickX occ u.2)).map tz) 124)]) (fun k => q.length - k) 0 (by omega) ?_ ?_
          · refine Ent.of [(702, 807)] ?_ ?_ rfl rfl;(repeat' (first |exact True.intro |refine ⟨⟨AV.Le.refl _, rfl⟩, ?_⟩ |refine ⟨⟨⟨_, rfl, BLe.cells (LeL.refl _)⟩, rfl⟩, ?_⟩ |refine ⟨⟨⟨_, rfl, BLe.row rfl⟩, rfl⟩, ?_⟩|fail))
          · intro k e0
            have hlk : (((q.take k).map fun u => (u.1, pickX occ u.2)).map tz).length = k := by rw [List.length_map, List.length_map, List.length_take]; omega
            by_cases hkq : k < q.length
            · obtain ⟨u, hu⟩ : ∃ u, q[k]? = some u := ⟨_, List.getElem?_eq_getElem hkq⟩
              have hTu : (mkP i q).terms[k]? = some (tz u) := by show (q.map tz)[k]? = _; rw [List.getElem?_map, hu]; rfl
              have hul := (hq2 u (List.mem_of_getElem? hu)).1;refine AWP.seqS ?_;(repeat' (first |refine Fl.v rfl rfl rfl ?_ |refine Fl.nilF ?_ |refine AWP.seq ?_ |refine AWP.region ?_ |(refine AWP.condD rfl ?_ ?_ <;> intro _ <;> try (exfalso; omega)) |refine AWP.skip ?_ |refine Fl.elK rfl rfl rfl rfl rfl rfl rfl rfl (by assumption) (by omega) ?_|fail));refine ⟨AWP.seq (AWP.block (AWP.seqS ?_))⟩;(repeat' (first |refine Fl.v rfl rfl rfl ?_ |refine Fl.nilF ?_ |refine AWP.region ?_));refine ⟨?_⟩;refine AWP.ent (Ent.nilrow 16 808 rfl rfl 1 eI 3) ?_;(repeat' (first |refine Fl.v rfl rfl rfl ?_ |refine Fl.nilF ?_ |refine AWP.seq ?_ |refine AWP.region ?_ |refine AWP.block ?_));refine AWP.loop (G := Nat) (fun m => m ≤ occ.length) (fun m => St.of [] [(2, .sl 2 eP L), (6, .ptr 6 0), (7, .ptr 7 0), (8, aI occ), (13, aN j), (14, .ptr 14 0), (15, aN k), (16, .row 703), (17, aN m)] [(6, .cells [aN 0, .v (.slice none 0 0), .v (.slice none 0 0)] 82), (7, .cells [aN kind, aI occ, .row 701] 82), (701, .row 2 eP ((ls.take j).map fun p => mkP occ.length (canU (p.map fun u => (u.1, pickX occ u.2)))) 70), (14, .cells [aN occ.length, .row 702] 70), (702, .row 3 eT (((q.take k).map fun u => (u.1, pickX occ u.2)).map tz) 124), (703, .row 1 eI ((occ.take m).map fun x => u.2.getD x.toNat 0) 3)]) (fun m => occ.length - m) 0 (by omega) ?_ ?_
              · refine Ent.of [(703, 808)] ?_ ?_ rfl rfl;(repeat' (first |exact True.intro |refine ⟨⟨AV.Le.refl _, rfl⟩, ?_⟩ |refine ⟨⟨⟨_, rfl, BLe.cells (LeL.refl _)⟩, rfl⟩, ?_⟩ |refine ⟨⟨⟨_, rfl, BLe.row rfl⟩, rfl⟩, ?_⟩|fail))
              · intro m m0
                have hlm : ((occ.take m).map fun x => u.2.getD x.toNat 0).length = m := by rw [List.length_map, List.length_take]; omega
                by_cases hm : m < occ.length
                · obtain ⟨x, hx⟩ : ∃ x, occ[m]? = some x := ⟨_, List.getElem?_eq_getElem hm⟩;have hxb := hom m x hx;obtain ⟨y, hy⟩ : ∃ y, u.2[x.toNat]? = some y := ⟨_, List.getElem?_eq_getElem (by omega)⟩;(repeat' (first |refine Fl.v rfl rfl rfl ?_ |refine Fl.nilF ?_ |refine AWP.seq ?_ |refine AWP.region ?_ |(refine AWP.condD rfl ?_ ?_ <;> intro _ <;> try (exfalso; omega)) |refine AWP.block ?_ |refine AWP.skip ?_ |refine Fl.elK rfl rfl rfl rfl rfl rfl rfl rfl (by assumption) (by omega) ?_|fail));refine Fl.lit rfl rfl rfl rfl rfl eI [y] rfl rfl rfl rfl (by intro _ _; rfl) rfl ?_;skip;refine Fl.ap rfl rfl rfl rfl rfl rfl rfl rfl rfl rfl rfl rfl rfl (fun _ => rfl) (fun _ => rfl) (AV.Le.refl _) (by dsimp only [List.length_nil, List.length_cons]; omega) (by dsimp only [List.length_nil, List.length_cons]; omega) ?_;(repeat' (first |refine Fl.v rfl rfl rfl ?_ |refine Fl.nilF ?_ |refine Fl.nil (fun _ => by kernel_rfl) ?_ |refine AWP.region ?_ |refine Fl.w rfl rfl rfl (by first | exact True.intro | omega) ?_|fail));refine LoopEnd.of (m + 1) (by omega) (by omega) ?_;refine Ent.of [(703, 114)] ?_ ?_ rfl rfl;(repeat' (first |exact True.intro |refine ⟨⟨AV.Le.refl _, rfl⟩, ?_⟩ |refine ⟨⟨⟨_, rfl, BLe.cells (LeL.refl _)⟩, rfl⟩, ?_⟩ |refine ⟨⟨⟨_, rfl, BLe.row rfl⟩, rfl⟩, ?_⟩ |refine ⟨⟨⟨_, rfl, BLe.row ?_⟩, rfl⟩, ?_⟩|fail));rw [take_snoc hx, List.map_append];congr 1;show [y] = [u.2.getD x.toNat 0];rw [List.getD_eq_getElem?_getD, hy];rfl
                · have htm : occ.take m = occ := List.take_of_length_le (by omega);rw [htm];refine AWP.ent (Ent.freeze 703 rfl) ?_;(repeat' (first |refine Fl.v rfl rfl rfl ?_ |refine Fl.nilF ?_ |refine AWP.seq ?_ |refine AWP.region ?_ |refine Fl.b rfl rfl rfl rfl ?_ |(refine AWP.condD rfl ?_ ?_ <;> intro _ <;> try (exfalso; omega)) |refine AWP.exit ?_ |refine Fl.elK rfl rfl rfl rfl rfl rfl rfl rfl (by assumption) (by omega) ?_|fail));refine Fl.lit rfl rfl rfl rfl rfl eT [tz (u.1, pickX occ u.2)] rfl rfl rfl rfl (by intro _ _; rfl) rfl ?_;skip;refine Fl.ap rfl rfl rfl rfl rfl rfl rfl rfl rfl rfl rfl rfl rfl (fun _ => rfl) (fun _ => rfl) (AV.Le.refl _) (by dsimp only [List.length_nil, List.length_cons]; omega) (by dsimp only [List.length_nil, List.length_cons]; omega) ?_;(repeat' (first |refine Fl.v rfl rfl rfl ?_ |refine Fl.nilF ?_ |refine Fl.nil (fun _ => by kernel_rfl) ?_ |refine AWP.region ?_ |refine Fl.w rfl rfl rfl (by first | exact True.intro | omega) ?_ |refine Fl.b rfl rfl rfl rfl ?_));refine LoopEnd.of (k + 1) (by omega) (by omega) ?_;refine Ent.of [(702, 129)] ?_ ?_ rfl rfl;(repeat' (first |exact True.intro |refine ⟨⟨AV.Le.refl _, rfl⟩, ?_⟩ |refine ⟨⟨⟨_, rfl, BLe.cells (LeL.refl _)⟩, rfl⟩, ?_⟩ |refine ⟨⟨⟨_, rfl, BLe.row rfl⟩, rfl⟩, ?_⟩ |refine ⟨⟨⟨_, rfl, BLe.row ?_⟩, rfl⟩, ?_⟩|fail));rw [take_snoc hu, List.map_append, List.map_append];rfl
            · have htk : q.take k = q := List.take_of_length_le (by omega);have hso := (rSortedU occ.length (by have := occI_len ls i; omega) 12 M (q.map fun u => (u.1, pickX occ u.2)) (by rw [List.length_map]; omega) (by omega) (by omega) (hq2.pick occ)).1;rw [htk];(repeat' (first |refine Fl.v rfl rfl rfl ?_ |refine Fl.nilF ?_ |refine AWP.seq ?_ |refine AWP.region ?_ |(refine AWP.condD rfl ?_ ?_ <;> intro _ <;> try (exfalso; omega)) |refine AWP.exit ?_ |refine Fl.elK rfl rfl rfl rfl rfl rfl rfl rfl (by assumption) (by omega) ?_|fail));refine Fl.callF rfl 702 rfl hso rfl rfl rfl (LeL.refl _) ?_;(repeat' (first |refine Fl.v rfl rfl rfl ?_ |refine Fl.nilF ?_ |refine AWP.region ?_ |refine Fl.b rfl rfl rfl rfl ?_));refine Fl.lit rfl rfl rfl rfl rfl eP [mkP occ.length (canU (q.map fun u => (u.1, pickX occ u.2)))] rfl rfl rfl rfl (by intro _ _; rfl) rfl ?_;skip;refine Fl.ap rfl rfl rfl rfl rfl rfl rfl rfl rfl rfl rfl rfl rfl (fun _ => rfl) (fun _ => rfl) (AV.Le.refl _) (by dsimp only [List.length_nil, List.length_cons]; omega) (by dsimp only [List.length_nil, List.length_cons]; omega) ?_;(repeat' (first |refine Fl.v rfl rfl rfl ?_ |refine Fl.nilF ?_ |refine AWP.region ?_ |refine Fl.w rfl rfl rfl (by first | exact True.intro | omega) ?_ |refine Fl.b rfl rfl rfl rfl ?_));refine LoopEnd.of (j + 1) (by omega) (by omega) ?_;refine Ent.of [(701, 139)] ?_ ?_ rfl rfl;(repeat' (first |exact True.intro |refine ⟨⟨AV.Le.refl _, rfl⟩, ?_⟩ |refine ⟨⟨⟨_, rfl, BLe.cells (LeL.refl _)⟩, rfl⟩, ?_⟩ |refine ⟨⟨⟨_, rfl, BLe.row ?_⟩, rfl⟩, ?_⟩|fail));rw [take_snoc hq, List.map_append];rfl
        · have htj : ls.take j = ls := List.take_of_length_le (by omega);rw [htj];refine AWP.ent (Ent.freeze 701 rfl) ?_;(repeat' (first |refine Fl.v rfl rfl rfl ?_ |refine Fl.nilF ?_ |refine AWP.seq ?_ |refine AWP.region ?_ |refine Fl.b rfl rfl rfl rfl ?_ |(refine AWP.condD rfl ?_ ?_ <;> intro _ <;> try (exfalso; omega)) |refine AWP.exit ?_ |refine AWP.ret ?_));exact RetOk.of rfl (AV.Le.refl _)
end Go.Proofs.YtcaecieigoplbaaGreat
/- The reference's polynomials with few small numbers, by inspection. -/
namespace Go.AL
def chkR (V : Nat) (l : List UT) : Bool := l.all (fun u => okU V u && decide (u.1 ≠ 0) && decide (u.1.natAbs < 4294967296)) && sortedU l && decide (l.length ≤ 3000)
theorem chkR_ok {V : Nat} {l : List UT} (h : chkR V l = true) : CanU l ∧ okT V 1 l ∧ l.length ≤ 3000 := by
  simp only [chkR, Bool.and_eq_true, List.all_eq_true, decide_eq_true_eq] at h;obtain ⟨⟨h1, h2⟩, h3⟩ := h;refine ⟨⟨fun u hu => (h1 u hu).1.2, sortedU_pw h2⟩, fun u hu => ?_, h3⟩;have := okU_ok (h1 u hu).1.1;refine ⟨this.1, this.2, lenI_le.2 ?_⟩;rw [show (1 : Nat) = 0 + 1 from rfl, BB_succ, BB_zero];have := (h1 u hu).2;omega
def degR (V : Nat) (a b : List UT) : Bool := a.all (fun s => b.all fun t => okU V (0, addE s.2 t.2)) && decide (b.length * a.length ≤ 4096)
theorem addUs_one (a b : List UT) : canU (a ++ b) = addL a b := canU_congr fun e => by
  unfold addUs;rw [cfU_append, cfU_append, cfU_map];congr 1
  have : ∀ l : List UT, cfU l e = sumL (l.map fun u => if (u.1 * 1, u.2).2 = e then (u.1 * 1, u.2).1 else 0) := by
    intro l
    induction l with
    | nil => rfl
    | cons u l ih => rw [cfU, ih]; simp only [List.map_cons, sumL, Int.mul_one]
  exact this b
end Go.AL
namespace Go.Proofs.YtcaecieigoplbaaGreat
open Go.AL

theorem rAddK {V : Nat} {a b : List UT} (hV : Nat.ble V 1000 = true) (ha : chkR V a = true) (hb : chkR V b = true) : PureFn Tryz.prog 72 [aP (mkP V a), aP (mkP V b)] (aP (mkP V (addL a b))) := by
  obtain ⟨a1, a2, a3⟩ := chkR_ok ha;obtain ⟨b1, b2, b3⟩ := chkR_ok hb;have h := rAddU V 1 (Nat.le_of_ble_eq_true hV) (by omega) a b a1 b1 a2 b2 (by omega) (by omega);rwa [addUs_one] at h
theorem rSubK {V : Nat} {a b : List UT} (hV : Nat.ble V 1000 = true) (ha : chkR V a = true) (hb : chkR V b = true) : PureFn Tryz.prog 76 [aP (mkP V a), aP (mkP V b)] (aP (mkP V (subL a b))) := by
  obtain ⟨a1, a2, a3⟩ := chkR_ok ha;obtain ⟨b1, b2, b3⟩ := chkR_ok hb;exact rSubU V 1 (Nat.le_of_ble_eq_true hV) (by omega) a b a1 b1 a2 b2 (by omega) (by omega)
theorem rMulK {V : Nat} {a b : List UT} (hV : Nat.ble V 1000 = true) (ha : chkR V a = true) (hb : chkR V b = true) (hd : degR V a b = true) : PureFn Tryz.prog 73 [aP (mkP V a), aP (mkP V b)] (aP (mkP V (mulL2 a b))) := by
  obtain ⟨a1, a2, a3⟩ := chkR_ok ha;obtain ⟨b1, b2, b3⟩ := chkR_ok hb;simp only [degR, Bool.and_eq_true, List.all_eq_true, decide_eq_true_eq] at hd;exact rMulU V 1 12 (Nat.le_of_ble_eq_true hV) (by omega) a b a2 b2 b1.nz (fun s hs t ht => (okU_ok (hd.1 s hs t ht)).2) a3 b3 hd.2 (by omega) (by omega)
theorem rMakeK {V : Nat} {kind : Int} {ls : List (List UT)} (hV : Nat.ble V 1000 = true) (h : (ls.all (chkR V) && decide (ls.length ≤ 1000)) = true) : PureFn Tryz.prog 75 [aN kind, aI (ixN V), .sl 2 eP (ls.map (mkP V))] (aL (linkR V kind ls)) := by
  simp only [Bool.and_eq_true, List.all_eq_true, decide_eq_true_eq] at h;exact rMakeL_ok V 1 kind ls (ixN V) rfl (Nat.le_of_ble_eq_true hV) (by omega) h.2 fun p hp => ⟨(chkR_ok (h.1 p hp)).2.2, (chkR_ok (h.1 p hp)).2.1⟩
theorem rMakeK1 {V : Nat} {kind : Int} {a : List UT} (hV : Nat.ble V 1000 = true) (h : chkR V a = true) : PureFn Tryz.prog 75 [aN kind, aI (ixN V), .sl 2 eP [mkP V a]] (aL (linkR V kind [a])) :=
  rMakeK (ls := [a]) hV (by simp [h])
theorem rMakeK3 {V : Nat} {kind : Int} {a b c : List UT} (hV : Nat.ble V 1000 = true) (h : chkR V a = true) (h2 : chkR V b = true) (h3 : chkR V c = true) : PureFn Tryz.prog 75 [aN kind, aI (ixN V), .sl 2 eP [mkP V a, mkP V b, mkP V c]] (aL (linkR V kind [a, b, c])) :=
  rMakeK (ls := [a, b, c]) hV (by simp [h, h2, h3])
theorem rVarK {V : Nat} {i : Int} (hV : Nat.ble V 1000 = true) (hi : (decide (0 ≤ i) && decide (i < V)) = true) : PureFn Tryz.prog 143 [aN V, aN i] (aP (mkP V (varU V i.toNat))) := by
  simp only [Bool.and_eq_true, decide_eq_true_eq] at hi;have h := rVarU V i.toNat (by omega) (Nat.le_of_ble_eq_true hV);rwa [Int.toNat_of_nonneg hi.1] at h
theorem rConK {V : Nat} {c : Int} (hV : Nat.ble V 1000 = true) (hc : (decide (c.natAbs < 4294967296)) = true) : PureFn Tryz.prog 146 [aN V, aX c] (aP (mkP V (conU V c))) := by
  have := of_decide_eq_true hc;exact rConstU V c (Nat.le_of_ble_eq_true hV) (by have := lenI_small this; omega)
theorem v12_ok {i : Int} (hi : (decide (0 ≤ i) && decide (i < 10)) = true) : PureFn Tryz.prog 70 [aN i] (aP (mkP 10 (varU 10 i.toNat))) := by
  refine PureFn.of_body Tryz.func70 rfl Tryz.ntmps70 rfl rfl ?_;(repeat' (first |refine Fl.v rfl rfl rfl ?_ |refine Fl.nilF ?_ |refine AWP.seq ?_ |refine AWP.region ?_ |refine Fl.b rfl rfl rfl rfl ?_));refine Fl.call rfl (rVarK (V := 10) (i := i) rfl hi) rfl rfl rfl (LeL.refl _) ?_;(repeat' (first |refine Fl.nilF ?_ |refine Fl.b rfl rfl rfl rfl ?_ |refine AWP.ret ?_));exact RetOk.of rfl (AV.Le.refl _)
theorem n12_ok {c : Int} (hc : (decide (c.natAbs < 4294967296)) = true) : PureFn Tryz.prog 74 [aN c] (aP (mkP 10 (conU 10 c))) := by
  refine PureFn.of_body Tryz.func74 rfl Tryz.ntmps74 rfl rfl ?_;have := of_decide_eq_true hc;(repeat' (first |refine Fl.v rfl rfl rfl ?_ |refine Fl.nilF ?_ |refine AWP.seq ?_ |refine AWP.region ?_ |refine Fl.b rfl rfl rfl rfl ?_));refine Fl.call rfl (rOf_ok c (by omega) (by omega)) rfl rfl rfl (LeL.refl _) ?_;skip;refine Fl.call rfl (rConK (V := 10) (c := c) rfl hc) rfl rfl rfl (LeL.refl _) ?_;(repeat' (first |refine Fl.nilF ?_ |refine Fl.b rfl rfl rfl rfl ?_ |refine AWP.ret ?_));exact RetOk.of rfl (AV.Le.refl _)
end Go.Proofs.YtcaecieigoplbaaGreat
/- Method values of plain receivers: made, called. -/
namespace Go.AL
section
variable {P : Program} {tab : Tab} {n : Nat} {s : St}
variable {ops : Array Oper} {draw : Dr} {o : Oper} {l : List Oper} {acc : List Eff} {K : Exit → St → Prop}
abbrev bfn (f : FuncId) (us : List Value) : AV := .v (.func (.func f) #[.agg us.toArray] #[])
theorem Fl.bindM [fc : Facts P tab] {f : FuncId} {x : Operand} (hop : o.op = .makeFunc (.func f) ⟨[x]⟩ ⟨[]⟩) {cs : List AV} (hx : opd s x = .agg cs) {us : List Value} (h1 : litL cs = some us) (hg : gOk ops s o = true) (hd : dOk n o.dst = true)
    (r : Fl P n ops draw l ((Eff.mk (bfn f us) [] [] [] []).app o.dst s) (Eff.mk (bfn f us) [] [] [] [] :: acc) K) : Fl P n ops draw (o :: l) s acc K := by
  refine Fl.opv hg (OpJ.of_run (dOk_lt hd) fun C s' a w h β ho _ b => ?_) r;have hxr := opd_rep b x;rw [ho x (by simp [hop, Op.operands]), hx] at hxr;simp only [Rep] at hxr;obtain ⟨vs, e1, hr⟩ := hxr;have e2 := litL_rep h1 hr;refine ⟨.func (.func f) #[a.eval x] #[], by simp [execOp, hop, Instr.makeFunc], ?_⟩;simp only [Rep];rw [e1, ← e2]
theorem Runs.bound {f : FuncId} {x : Operand} {args : List Operand} {ts : Array TypeId} {us : List Value} (hop : o.op = .call { callee := .value x, args := ⟨args⟩, argTypes := ts }) (hx : opd s x = bfn f us) : Runs P n o s f (.v (.agg us.toArray) :: opds s args) := by
  refine ⟨fun s' C a w h β hs k => ?_⟩
  have hxs : opd s' x = opd s x := by
    cases x with
    | tmp t => exact hs t (by rw [hop]; simp [Op.operands, Call.operands])
    | _ => rfl
  have hxr := opd_rep k x;rw [hxs, hx] at hxr;simp only [Rep] at hxr
  have hps : opds s' args = opds s args := opds_same args fun x hx => by
    cases x with
    | tmp t => exact hs t (by rw [hop]; simp [Op.operands, Call.operands, hx])
    | _ => rfl
  have hr := opds_rep k args;rw [hps] at hr;refine ⟨#[.agg us.toArray] ++ (args.map a.eval).toArray, fun hfn => ?_, ?_⟩
  · simp only [execOp, hop, resolve, hxr, Deferred.ofValue, Sem.run_bind, Sem.run_pure, Result.andThen, invoke, List.map_toArray];have := run_callFunc hfn (#[.agg us.toArray] ++ (args.map a.eval).toArray) w;simpa using this
  · simp only [RepL];exact ⟨.agg us.toArray, args.map a.eval, by simp, by simp only [Rep], hr⟩
/-- a call of a method value -/
theorem Fl.callM {f : FuncId} {x : Operand} {args : List Operand} {ts : Array TypeId} {us : List Value} (hop : o.op = .call { callee := .value x, args := ⟨args⟩, argTypes := ts }) (hx : opd s x = bfn f us) {a : AV} {bs : List AV} {ret : AV} (hf : PureFn P f (a :: bs) ret) (hg : gOk ops s o = true) (hd : dOk n o.dst = true) (hcl : closedL (opds s args) = true) (ha : (AV.v (.agg us.toArray)).Le a) (hle : LeL (opds s args) bs)
    (r : Fl P n ops draw l ((Eff.mk ret [] [] [] []).app o.dst s) (Eff.mk ret [] [] [] [] :: acc) K) : Fl P n ops draw (o :: l) s acc K :=
  Fl.opv hg (OpJ.callG (dOk_lt hd) (Runs.bound hop hx) (LeL.cons ha hle) (by simp only [closedL, hcl, AV.closed, Bool.and_true]) hf) r
end
end Go.AL
/- arithmancy/mask.Links: the system. Written by links.py. -/
namespace Go.AL
def okLk (V : Nat) (ls : List (List UT)) : Bool := ls.all fun p => Nat.ble p.length 3000 && p.all fun u => Nat.beq u.2.length V
theorem okLk_ok {V : Nat} {ls : List (List UT)} (h : okLk V ls = true) : ∀ p ∈ ls, p.length ≤ 3000 ∧ ∀ u ∈ p, u.2.length = V := fun p hp => by
  have := List.all_eq_true.1 h p hp;simp only [Bool.and_eq_true, List.all_eq_true] at this;exact ⟨Nat.le_of_ble_eq_true this.1, fun u hu => Nat.eq_of_beq_eq_true (this.2 u hu)⟩
def mk0 : List UT := mulsU (conU 10 1) [conU 10 2, varU 10 5]
def mk1 : List UT := sumsU [] [mk0, conU 10 1]
def mk2 : List UT := sumsU [] [varU 10 1, conU 10 1]
def mk3 : List UT := sumsU [] [varU 10 2, conU 10 1]
def mk4 : List UT := mulsU (conU 10 1) [varU 10 2, varU 10 6]
def mk5 : List UT := sumsU [] [mk1, mk4]
def mk6 : List UT := mulsU (conU 10 1) [mk5, varU 10 4]
def mk7 : List UT := sumsU [] [mk6, varU 10 7]
def mk8 : List UT := subL (varU 10 3) mk7
def mk9 : List UT := sumsU [] [varU 10 7, varU 10 8, conU 10 1]
def mk10 : List UT := subL (varU 10 4) mk9
def mk11 : List UT := sumsU [] [mk1, conU 10 1, varU 10 9]
def mk12 : List UT := subL (varU 10 2) mk11
def mkS : SZ := ⟨10, [linkU 10 2 [conU 10 2, mk2, varU 10 2], linkU 10 2 [mk3, varU 10 1, varU 10 3], linkU 10 2 [varU 10 2, varU 10 0, varU 10 4], linkU 10 0 [mk8], linkU 10 0 [mk10], linkU 10 0 [mk12]]⟩
end Go.AL
namespace Go.Proofs.YtcaecieigoplbaaGreat
open Go.AL
set_option maxHeartbeats 2000000 in
set_option maxRecDepth 10000 in
theorem maskLinks_ok : PureFn Tryz.prog 16 [] (aS mkS) := by
  refine PureFn.of_body Tryz.func16 rfl Tryz.ntmps16 rfl rfl ?_;refine AWP.seqS ?_;(repeat' (first |refine Fl.nilF ?_ |refine AWP.region ?_ |refine Fl.b rfl rfl rfl rfl ?_));refine ⟨AWP.seqS ?_⟩;(repeat' (first |refine AWP.region ?_));refine Fl.call rfl (kNew_ok 10) rfl rfl rfl (LeL.refl _) ?_;(repeat' (first |refine Fl.nilF ?_ |refine Fl.b rfl rfl rfl rfl ?_));refine ⟨AWP.seqS ?_⟩;(repeat' (first |refine Fl.v rfl rfl rfl ?_ |refine AWP.region ?_));refine Fl.bindM rfl rfl rfl rfl rfl ?_;(repeat' (first |refine Fl.v rfl rfl rfl ?_));refine Fl.bindM rfl rfl rfl rfl rfl ?_;(repeat' (first |refine Fl.v rfl rfl rfl ?_ |refine Fl.nil (fun _ => by kernel_rfl) ?_|fail));refine ⟨?_⟩;refine AWP.seq ?_;refine AWP.region ?_;(repeat' (first | refine Fl.v rfl rfl rfl ?_ | refine Fl.b rfl rfl rfl rfl ?_ | fail));refine Fl.callM (f := 65) (us := [.int .i64 10]) rfl ?_ (kN_ok 10 2 (by omega) (by omega) (by omega)) ?_ ?_ ?_ ?_ ?_ ?_
  iterate 4 exact rfl
  exact AV.Le.vagg (LeL.refl _);exact LeL.refl _;(repeat' (first | refine Fl.v rfl rfl rfl ?_ | refine Fl.b rfl rfl rfl rfl ?_ | fail));refine Fl.callM (f := 64) (us := [.int .i64 10]) rfl ?_ (kV_ok 10 5 (by omega) (by omega)) ?_ ?_ ?_ ?_ ?_ ?_
  iterate 4 exact rfl
  exact AV.Le.vagg (LeL.refl _);exact LeL.refl _;(repeat' (first | refine Fl.v rfl rfl rfl ?_ | refine Fl.b rfl rfl rfl rfl ?_ | fail));refine Fl.lit rfl rfl rfl rfl rfl eP [mkP 10 (conU 10 2), mkP 10 (varU 10 5)] rfl rfl rfl rfl (by intro _ _; rfl) rfl ?_;(repeat' (first | refine Fl.v rfl rfl rfl ?_ | refine Fl.b rfl rfl rfl rfl ?_ | fail));refine Fl.call rfl (show PureFn Tryz.prog _ _ (aP (mkP 10 mk0)) from kMul_ok 10 (by omega) [conU 10 2, varU 10 5] (by simp) (by kernel_rfl)) rfl rfl rfl (LeL.refl _) ?_;(repeat' (first | refine Fl.v rfl rfl rfl ?_ | refine Fl.b rfl rfl rfl rfl ?_ | fail));refine Fl.callM (f := 65) (us := [.int .i64 10]) rfl ?_ (kN_ok 10 1 (by omega) (by omega) (by omega)) ?_ ?_ ?_ ?_ ?_ ?_
  iterate 4 exact rfl
  exact AV.Le.vagg (LeL.refl _);exact LeL.refl _;(repeat' (first | refine Fl.v rfl rfl rfl ?_ | refine Fl.b rfl rfl rfl rfl ?_ | fail));refine Fl.lit rfl rfl rfl rfl rfl eP [mkP 10 mk0, mkP 10 (conU 10 1)] rfl rfl rfl rfl (by intro _ _; rfl) rfl ?_;(repeat' (first | refine Fl.v rfl rfl rfl ?_ | refine Fl.b rfl rfl rfl rfl ?_ | fail));refine Fl.call rfl (show PureFn Tryz.prog _ _ (aP (mkP 10 mk1)) from kAdd_ok 10 (by omega) [mk0, conU 10 1] (by simp) (by kernel_rfl)) rfl rfl rfl (LeL.refl _) ?_;(repeat' (first | refine Fl.v rfl rfl rfl ?_ | refine Fl.b rfl rfl rfl rfl ?_ | fail));refine Fl.nil (fun _ => by kernel_rfl) ?_;refine AWP.seq ?_;refine AWP.region ?_;(repeat' (first | refine Fl.v rfl rfl rfl ?_ | refine Fl.b rfl rfl rfl rfl ?_ | fail));refine Fl.callM (f := 65) (us := [.int .i64 10]) rfl ?_ (kN_ok 10 2 (by omega) (by omega) (by omega)) ?_ ?_ ?_ ?_ ?_ ?_
  iterate 4 exact rfl
  exact AV.Le.vagg (LeL.refl _);exact LeL.refl _;(repeat' (first | refine Fl.v rfl rfl rfl ?_ | refine Fl.b rfl rfl rfl rfl ?_ | fail));refine Fl.callM (f := 64) (us := [.int .i64 10]) rfl ?_ (kV_ok 10 1 (by omega) (by omega)) ?_ ?_ ?_ ?_ ?_ ?_
  iterate 4 exact rfl
  exact AV.Le.vagg (LeL.refl _);exact LeL.refl _;(repeat' (first | refine Fl.v rfl rfl rfl ?_ | refine Fl.b rfl rfl rfl rfl ?_ | fail));refine Fl.callM (f := 65) (us := [.int .i64 10]) rfl ?_ (kN_ok 10 1 (by omega) (by omega) (by omega)) ?_ ?_ ?_ ?_ ?_ ?_
  iterate 4 exact rfl
  exact AV.Le.vagg (LeL.refl _);exact LeL.refl _;(repeat' (first | refine Fl.v rfl rfl rfl ?_ | refine Fl.b rfl rfl rfl rfl ?_ | fail));refine Fl.lit rfl rfl rfl rfl rfl eP [mkP 10 (varU 10 1), mkP 10 (conU 10 1)] rfl rfl rfl rfl (by intro _ _; rfl) rfl ?_;(repeat' (first | refine Fl.v rfl rfl rfl ?_ | refine Fl.b rfl rfl rfl rfl ?_ | fail));refine Fl.call rfl (show PureFn Tryz.prog _ _ (aP (mkP 10 mk2)) from kAdd_ok 10 (by omega) [varU 10 1, conU 10 1] (by simp) (by kernel_rfl)) rfl rfl rfl (LeL.refl _) ?_;(repeat' (first | refine Fl.v rfl rfl rfl ?_ | refine Fl.b rfl rfl rfl rfl ?_ | fail));refine Fl.callM (f := 64) (us := [.int .i64 10]) rfl ?_ (kV_ok 10 2 (by omega) (by omega)) ?_ ?_ ?_ ?_ ?_ ?_
  iterate 4 exact rfl
  exact AV.Le.vagg (LeL.refl _);exact LeL.refl _;(repeat' (first | refine Fl.v rfl rfl rfl ?_ | refine Fl.b rfl rfl rfl rfl ?_ | fail));refine Fl.lit rfl rfl rfl rfl rfl eP [mkP 10 (conU 10 2), mkP 10 mk2, mkP 10 (varU 10 2)] rfl rfl rfl rfl (by intro _ _; rfl) rfl ?_;(repeat' (first | refine Fl.v rfl rfl rfl ?_ | refine Fl.b rfl rfl rfl rfl ?_ | fail));refine Fl.call rfl (kLink_ok 10 2 [conU 10 2, mk2, varU 10 2] (by omega) (by simp) (okLk_ok (by kernel_rfl))) rfl rfl rfl (LeL.refl _) ?_;(repeat' (first | refine Fl.v rfl rfl rfl ?_ | refine Fl.b rfl rfl rfl rfl ?_ | fail));refine Fl.callM (f := 64) (us := [.int .i64 10]) rfl ?_ (kV_ok 10 2 (by omega) (by omega)) ?_ ?_ ?_ ?_ ?_ ?_
  iterate 4 exact rfl
  exact AV.Le.vagg (LeL.refl _);exact LeL.refl _;(repeat' (first | refine Fl.v rfl rfl rfl ?_ | refine Fl.b rfl rfl rfl rfl ?_ | fail));refine Fl.callM (f := 65) (us := [.int .i64 10]) rfl ?_ (kN_ok 10 1 (by omega) (by omega) (by omega)) ?_ ?_ ?_ ?_ ?_ ?_
  iterate 4 exact rfl
  exact AV.Le.vagg (LeL.refl _);exact LeL.refl _;(repeat' (first | refine Fl.v rfl rfl rfl ?_ | refine Fl.b rfl rfl rfl rfl ?_ | fail));refine Fl.lit rfl rfl rfl rfl rfl eP [mkP 10 (varU 10 2), mkP 10 (conU 10 1)] rfl rfl rfl rfl (by intro _ _; rfl) rfl ?_;(repeat' (first | refine Fl.v rfl rfl rfl ?_ | refine Fl.b rfl rfl rfl rfl ?_ | fail));refine Fl.call rfl (show PureFn Tryz.prog _ _ (aP (mkP 10 mk3)) from kAdd_ok 10 (by omega) [varU 10 2, conU 10 1] (by simp) (by kernel_rfl)) rfl rfl rfl (LeL.refl _) ?_;(repeat' (first | refine Fl.v rfl rfl rfl ?_ | refine Fl.b rfl rfl rfl rfl ?_ | fail));refine Fl.callM (f := 64) (us := [.int .i64 10]) rfl ?_ (kV_ok 10 1 (by omega) (by omega)) ?_ ?_ ?_ ?_ ?_ ?_
  iterate 4 exact rfl
  exact AV.Le.vagg (LeL.refl _);exact LeL.refl _;(repeat' (first | refine Fl.v rfl rfl rfl ?_ | refine Fl.b rfl rfl rfl rfl ?_ | fail));refine Fl.callM (f := 64) (us := [.int .i64 10]) rfl ?_ (kV_ok 10 3 (by omega) (by omega)) ?_ ?_ ?_ ?_ ?_ ?_
  iterate 4 exact rfl
  exact AV.Le.vagg (LeL.refl _);exact LeL.refl _;(repeat' (first | refine Fl.v rfl rfl rfl ?_ | refine Fl.b rfl rfl rfl rfl ?_ | fail));refine Fl.lit rfl rfl rfl rfl rfl eP [mkP 10 mk3, mkP 10 (varU 10 1), mkP 10 (varU 10 3)] rfl rfl rfl rfl (by intro _ _; rfl) rfl ?_;(repeat' (first | refine Fl.v rfl rfl rfl ?_ | refine Fl.b rfl rfl rfl rfl ?_ | fail));refine Fl.call rfl (kLink_ok 10 2 [mk3, varU 10 1, varU 10 3] (by omega) (by simp) (okLk_ok (by kernel_rfl))) rfl rfl rfl (LeL.refl _) ?_;(repeat' (first | refine Fl.v rfl rfl rfl ?_ | refine Fl.b rfl rfl rfl rfl ?_ | fail));refine Fl.callM (f := 64) (us := [.int .i64 10]) rfl ?_ (kV_ok 10 2 (by omega) (by omega)) ?_ ?_ ?_ ?_ ?_ ?_
  iterate 4 exact rfl
  exact AV.Le.vagg (LeL.refl _);exact LeL.refl _;(repeat' (first | refine Fl.v rfl rfl rfl ?_ | refine Fl.b rfl rfl rfl rfl ?_ | fail));refine Fl.callM (f := 64) (us := [.int .i64 10]) rfl ?_ (kV_ok 10 0 (by omega) (by omega)) ?_ ?_ ?_ ?_ ?_ ?_
  iterate 4 exact rfl
  exact AV.Le.vagg (LeL.refl _);exact LeL.refl _;(repeat' (first | refine Fl.v rfl rfl rfl ?_ | refine Fl.b rfl rfl rfl rfl ?_ | fail));refine Fl.callM (f := 64) (us := [.int .i64 10]) rfl ?_ (kV_ok 10 4 (by omega) (by omega)) ?_ ?_ ?_ ?_ ?_ ?_
  iterate 4 exact rfl
  exact AV.Le.vagg (LeL.refl _);exact LeL.refl _;(repeat' (first | refine Fl.v rfl rfl rfl ?_ | refine Fl.b rfl rfl rfl rfl ?_ | fail));refine Fl.lit rfl rfl rfl rfl rfl eP [mkP 10 (varU 10 2), mkP 10 (varU 10 0), mkP 10 (varU 10 4)] rfl rfl rfl rfl (by intro _ _; rfl) rfl ?_;(repeat' (first | refine Fl.v rfl rfl rfl ?_ | refine Fl.b rfl rfl rfl rfl ?_ | fail));refine Fl.call rfl (kLink_ok 10 2 [varU 10 2, varU 10 0, varU 10 4] (by omega) (by simp) (okLk_ok (by kernel_rfl))) rfl rfl rfl (LeL.refl _) ?_;(repeat' (first | refine Fl.v rfl rfl rfl ?_ | refine Fl.b rfl rfl rfl rfl ?_ | fail));refine Fl.callM (f := 64) (us := [.int .i64 10]) rfl ?_ (kV_ok 10 3 (by omega) (by omega)) ?_ ?_ ?_ ?_ ?_ ?_
  iterate 4 exact rfl
  exact AV.Le.vagg (LeL.refl _);exact LeL.refl _;(repeat' (first | refine Fl.v rfl rfl rfl ?_ | refine Fl.b rfl rfl rfl rfl ?_ | fail));refine Fl.callM (f := 64) (us := [.int .i64 10]) rfl ?_ (kV_ok 10 2 (by omega) (by omega)) ?_ ?_ ?_ ?_ ?_ ?_
  iterate 4 exact rfl
  exact AV.Le.vagg (LeL.refl _);exact LeL.refl _;(repeat' (first | refine Fl.v rfl rfl rfl ?_ | refine Fl.b rfl rfl rfl rfl ?_ | fail));refine Fl.callM (f := 64) (us := [.int .i64 10]) rfl ?_ (kV_ok 10 6 (by omega) (by omega)) ?_ ?_ ?_ ?_ ?_ ?_
  iterate 4 exact rfl
  exact AV.Le.vagg (LeL.refl _);exact LeL.refl _;(repeat' (first | refine Fl.v rfl rfl rfl ?_ | refine Fl.b rfl rfl rfl rfl ?_ | fail));refine Fl.lit rfl rfl rfl rfl rfl eP [mkP 10 (varU 10 2), mkP 10 (varU 10 6)] rfl rfl rfl rfl (by intro _ _; rfl) rfl ?_;(repeat' (first | refine Fl.v rfl rfl rfl ?_ | refine Fl.b rfl rfl rfl rfl ?_ | fail));refine Fl.call rfl (show PureFn Tryz.prog _ _ (aP (mkP 10 mk4)) from kMul_ok 10 (by omega) [varU 10 2, varU 10 6] (by simp) (by kernel_rfl)) rfl rfl rfl (LeL.refl _) ?_;(repeat' (first | refine Fl.v rfl rfl rfl ?_ | refine Fl.b rfl rfl rfl rfl ?_ | fail));refine Fl.lit rfl rfl rfl rfl rfl eP [mkP 10 mk1, mkP 10 mk4] rfl rfl rfl rfl (by intro _ _; rfl) rfl ?_;(repeat' (first | refine Fl.v rfl rfl rfl ?_ | refine Fl.b rfl rfl rfl rfl ?_ | fail));refine Fl.call rfl (show PureFn Tryz.prog _ _ (aP (mkP 10 mk5)) from kAdd_ok 10 (by omega) [mk1, mk4] (by simp) (by kernel_rfl)) rfl rfl rfl (LeL.refl _) ?_;(repeat' (first | refine Fl.v rfl rfl rfl ?_ | refine Fl.b rfl rfl rfl rfl ?_ | fail));refine Fl.callM (f := 64) (us := [.int .i64 10]) rfl ?_ (kV_ok 10 4 (by omega) (by omega)) ?_ ?_ ?_ ?_ ?_ ?_
  iterate 4 exact rfl
  exact AV.Le.vagg (LeL.refl _);exact LeL.refl _;(repeat' (first | refine Fl.v rfl rfl rfl ?_ | refine Fl.b rfl rfl rfl rfl ?_ | fail));refine Fl.lit rfl rfl rfl rfl rfl eP [mkP 10 mk5, mkP 10 (varU 10 4)] rfl rfl rfl rfl (by intro _ _; rfl) rfl ?_;(repeat' (first | refine Fl.v rfl rfl rfl ?_ | refine Fl.b rfl rfl rfl rfl ?_ | fail));refine Fl.call rfl (show PureFn Tryz.prog _ _ (aP (mkP 10 mk6)) from kMul_ok 10 (by omega) [mk5, varU 10 4] (by simp) (by kernel_rfl)) rfl rfl rfl (LeL.refl _) ?_;(repeat' (first | refine Fl.v rfl rfl rfl ?_ | refine Fl.b rfl rfl rfl rfl ?_ | fail));refine Fl.callM (f := 64) (us := [.int .i64 10]) rfl ?_ (kV_ok 10 7 (by omega) (by omega)) ?_ ?_ ?_ ?_ ?_ ?_
  iterate 4 exact rfl
  exact AV.Le.vagg (LeL.refl _);exact LeL.refl _;(repeat' (first | refine Fl.v rfl rfl rfl ?_ | refine Fl.b rfl rfl rfl rfl ?_ | fail));refine Fl.lit rfl rfl rfl rfl rfl eP [mkP 10 mk6, mkP 10 (varU 10 7)] rfl rfl rfl rfl (by intro _ _; rfl) rfl ?_;(repeat' (first | refine Fl.v rfl rfl rfl ?_ | refine Fl.b rfl rfl rfl rfl ?_ | fail));refine Fl.call rfl (show PureFn Tryz.prog _ _ (aP (mkP 10 mk7)) from kAdd_ok 10 (by omega) [mk6, varU 10 7] (by simp) (by kernel_rfl)) rfl rfl rfl (LeL.refl _) ?_;(repeat' (first | refine Fl.v rfl rfl rfl ?_ | refine Fl.b rfl rfl rfl rfl ?_ | fail));refine Fl.call rfl (kEq_ok 10 (by omega) (varU 10 3) mk7 mk8 (by kernel_rfl) (by kernel_rfl) (by kernel_rfl) (okLk_ok (V := 10) (ls := [mk8]) (by kernel_rfl) _ (by simp))) rfl rfl rfl (LeL.refl _) ?_;(repeat' (first | refine Fl.v rfl rfl rfl ?_ | refine Fl.b rfl rfl rfl rfl ?_ | fail));refine Fl.callM (f := 64) (us := [.int .i64 10]) rfl ?_ (kV_ok 10 4 (by omega) (by omega)) ?_ ?_ ?_ ?_ ?_ ?_
  iterate 4 exact rfl
  exact AV.Le.vagg (LeL.refl _);exact LeL.refl _;(repeat' (first | refine Fl.v rfl rfl rfl ?_ | refine Fl.b rfl rfl rfl rfl ?_ | fail));refine Fl.callM (f := 64) (us := [.int .i64 10]) rfl ?_ (kV_ok 10 7 (by omega) (by omega)) ?_ ?_ ?_ ?_ ?_ ?_
  iterate 4 exact rfl
  exact AV.Le.vagg (LeL.refl _);exact LeL.refl _;(repeat' (first | refine Fl.v rfl rfl rfl ?_ | refine Fl.b rfl rfl rfl rfl ?_ | fail));refine Fl.callM (f := 64) (us := [.int .i64 10]) rfl ?_ (kV_ok 10 8 (by omega) (by omega)) ?_ ?_ ?_ ?_ ?_ ?_
  iterate 4 exact rfl
  exact AV.Le.vagg (LeL.refl _);exact LeL.refl _;(repeat' (first | refine Fl.v rfl rfl rfl ?_ | refine Fl.b rfl rfl rfl rfl ?_ | fail));refine Fl.callM (f := 65) (us := [.int .i64 10]) rfl ?_ (kN_ok 10 1 (by omega) (by omega) (by omega)) ?_ ?_ ?_ ?_ ?_ ?_
  iterate 4 exact rfl
  exact AV.Le.vagg (LeL.refl _);exact LeL.refl _;(repeat' (first | refine Fl.v rfl rfl rfl ?_ | refine Fl.b rfl rfl rfl rfl ?_ | fail));refine Fl.lit rfl rfl rfl rfl rfl eP [mkP 10 (varU 10 7), mkP 10 (varU 10 8), mkP 10 (conU 10 1)] rfl rfl rfl rfl (by intro _ _; rfl) rfl ?_;(repeat' (first | refine Fl.v rfl rfl rfl ?_ | refine Fl.b rfl rfl rfl rfl ?_ | fail));refine Fl.call rfl (show PureFn Tryz.prog _ _ (aP (mkP 10 mk9)) from kAdd_ok 10 (by omega) [varU 10 7, varU 10 8, conU 10 1] (by simp) (by kernel_rfl)) rfl rfl rfl (LeL.refl _) ?_;(repeat' (first | refine Fl.v rfl rfl rfl ?_ | refine Fl.b rfl rfl rfl rfl ?_ | fail));refine Fl.call rfl (kEq_ok 10 (by omega) (varU 10 4) mk9 mk10 (by kernel_rfl) (by kernel_rfl) (by kernel_rfl) (okLk_ok (V := 10) (ls := [mk10]) (by kernel_rfl) _ (by simp))) rfl rfl rfl (LeL.refl _) ?_;(repeat' (first | refine Fl.v rfl rfl rfl ?_ | refine Fl.b rfl rfl rfl rfl ?_ | fail));refine Fl.callM (f := 64) (us := [.int .i64 10]) rfl ?_ (kV_ok 10 2 (by omega) (by omega)) ?_ ?_ ?_ ?_ ?_ ?_
  iterate 4 exact rfl
  exact AV.Le.vagg (LeL.refl _);exact LeL.refl _;(repeat' (first | refine Fl.v rfl rfl rfl ?_ | refine Fl.b rfl rfl rfl rfl ?_ | fail));refine Fl.callM (f := 65) (us := [.int .i64 10]) rfl ?_ (kN_ok 10 1 (by omega) (by omega) (by omega)) ?_ ?_ ?_ ?_ ?_ ?_
  iterate 4 exact rfl
  exact AV.Le.vagg (LeL.refl _);exact LeL.refl _;(repeat' (first | refine Fl.v rfl rfl rfl ?_ | refine Fl.b rfl rfl rfl rfl ?_ | fail));refine Fl.callM (f := 64) (us := [.int .i64 10]) rfl ?_ (kV_ok 10 9 (by omega) (by omega)) ?_ ?_ ?_ ?_ ?_ ?_
  iterate 4 exact rfl
  exact AV.Le.vagg (LeL.refl _);exact LeL.refl _;(repeat' (first | refine Fl.v rfl rfl rfl ?_ | refine Fl.b rfl rfl rfl rfl ?_ | fail));refine Fl.lit rfl rfl rfl rfl rfl eP [mkP 10 mk1, mkP 10 (conU 10 1), mkP 10 (varU 10 9)] rfl rfl rfl rfl (by intro _ _; rfl) rfl ?_;(repeat' (first | refine Fl.v rfl rfl rfl ?_ | refine Fl.b rfl rfl rfl rfl ?_ | fail));refine Fl.call rfl (show PureFn Tryz.prog _ _ (aP (mkP 10 mk11)) from kAdd_ok 10 (by omega) [mk1, conU 10 1, varU 10 9] (by simp) (by kernel_rfl)) rfl rfl rfl (LeL.refl _) ?_;(repeat' (first | refine Fl.v rfl rfl rfl ?_ | refine Fl.b rfl rfl rfl rfl ?_ | fail));refine Fl.call rfl (kEq_ok 10 (by omega) (varU 10 2) mk11 mk12 (by kernel_rfl) (by kernel_rfl) (by kernel_rfl) (okLk_ok (V := 10) (ls := [mk12]) (by kernel_rfl) _ (by simp))) rfl rfl rfl (LeL.refl _) ?_;(repeat' (first | refine Fl.v rfl rfl rfl ?_ | refine Fl.b rfl rfl rfl rfl ?_ | fail));refine Fl.lit rfl rfl rfl rfl rfl eL [linkU 10 2 [conU 10 2, mk2, varU 10 2], linkU 10 2 [mk3, varU 10 1, varU 10 3], linkU 10 2 [varU 10 2, varU 10 0, varU 10 4], linkU 10 0 [mk8], linkU 10 0 [mk10], linkU 10 0 [mk12]] rfl rfl rfl rfl (by intro _ _; rfl) rfl ?_;(repeat' (first | refine Fl.v rfl rfl rfl ?_ | refine Fl.b rfl rfl rfl rfl ?_ | fail));(repeat' (first |refine Fl.nil (fun _ => by kernel_rfl) ?_ |refine AWP.ret ?_));exact RetOk.of rfl (AV.Le.refl _)
end Go.Proofs.YtcaecieigoplbaaGreat
/- The values of built links. -/
namespace Go.AL
theorem pick_prod (P : Nat → Bool) (Y E : List Int) : ∀ (n k : Nat), (∀ i, k ≤ i → i < k + n → P i = false → E.getD i 0 = 0) →
    prodE (((List.range' k n).filter P).map fun i => Y.getD i 0) (((List.range' k n).filter P).map fun i => E.getD i 0) = prodE ((List.range' k n).map fun i => Y.getD i 0) ((List.range' k n).map fun i => E.getD i 0)
  | 0, k, _ => rfl
  | n + 1, k, h => by
    have ih := pick_prod P Y E n (k + 1) fun i h1 h2 h3 => h i (by omega) (by omega) h3;rw [List.range'_succ, List.filter_cons];by_cases hp : P k = true
    · rw [if_pos hp];simp only [List.map_cons, prodE, ih]
    · rw [if_neg hp, ih];have h0 := h k (Nat.le_refl _) (by omega) (by simpa using hp);simp only [List.map_cons, prodE, h0];simp
theorem map_range_getD {V : Nat} {X : List Int} (h : X.length = V) : ((List.range V).map fun i => X.getD i 0) = X := by
  subst h;refine List.ext_getElem (by simp) fun i h1 h2 => ?_;simp [List.getD_eq_getElem?_getD, List.getElem?_eq_getElem h2]
/-- the sum of the absolute values of the terms -/
def auv (X : List Int) (p : List UT) : Int := sumL (p.map fun u => ((u.1 * prodE X u.2).natAbs : Int))
theorem pick_term {V : Nat} {X : List Int} (hX : X.length = V) {ls : List (List UT)} {p : List UT} (hp : p ∈ ls) {u : UT} (hu : u ∈ p) (hl : u.2.length = V) (he : EOk u.2) :
    prodE (atOf X ((occL V ls).map fun (i : Nat) => (i : Int))) (pickE (occL V ls) u.2) = prodE X u.2 := by
  have e1 : atOf X ((occL V ls).map fun (i : Nat) => (i : Int)) = (occL V ls).map fun i => X.getD i 0 := by
    unfold atOf;rw [List.map_map];rfl
  have h := pick_prod (occP ls) X u.2 V 0 fun i _ h2 h3 => by
    have hb : i < u.2.length := by omega
    have hn : ¬ 0 < u.2.getD i 0 := fun hc => by
      have : occP ls i = true := List.any_eq_true.2 ⟨p, hp, List.any_eq_true.2 ⟨u, hu, by simpa using hc⟩⟩;rw [this] at h3; cases h3
    have hge : 0 ≤ u.2.getD i 0 := by
      rw [List.getD_eq_getElem?_getD, List.getElem?_eq_getElem hb];exact (he _ (List.getElem_mem hb)).1
    omega
  rw [← List.range_eq_range'] at h;rw [e1];unfold pickE occL;rw [show (List.filter (fun i => ls.any fun p => p.any fun u => decide (0 < u.2.getD i 0)) (List.range V)) = (List.range V).filter (occP ls) from rfl, h, map_range_getD hX, map_range_getD hl]
theorem tv_tz (X : List Int) (u : UT) : tv X (tz u) = u.1 * prodE X u.2 := by
  show zval (zOf u.1) * prodE X u.2 = _;rw [zval_zOf]
def nnU (V : Nat) (p : List UT) : Prop := ∀ u ∈ p, u.2.length = V ∧ EOk u.2
theorem pick_val {V n : Nat} {X : List Int} (hX : X.length = V) {ls : List (List UT)} {p : List UT} (hp : p ∈ ls) (hl : nnU V p) :
    pv (atOf X ((occL V ls).map fun (i : Nat) => (i : Int))) (mkP n (pickU (occL V ls) p)) = uv X p := by
  rw [pv_sum];unfold mkP pickU uv;simp only [List.map_map];congr 1;refine List.map_congr_left fun u hu => ?_;show tv _ (tz (u.1, pickE (occL V ls) u.2)) = _;rw [tv_tz, pick_term hX hp hu (hl u hu).1 (hl u hu).2]
theorem pick_abs {V n : Nat} {X : List Int} (hX : X.length = V) {ls : List (List UT)} {p : List UT} (hp : p ∈ ls) (hl : nnU V p) :
    AS (atOf X ((occL V ls).map fun (i : Nat) => (i : Int))) (mkP n (pickU (occL V ls) p)).terms = auv X p := by
  unfold mkP pickU AS auv;simp only [List.map_map];congr 1;refine List.map_congr_left fun u hu => ?_;show ((tv _ (tz (u.1, pickE (occL V ls) u.2))).natAbs : Int) = _;rw [tv_tz, pick_term hX hp hu (hl u hu).1 (hl u hu).2]
theorem lvals_linkU {V : Nat} {X : List Int} (hX : X.length = V) {kind : Int} {ls : List (List UT)} (h : ∀ p ∈ ls, nnU V p) : lvals X (linkU V kind ls) = ls.map (uv X) := by
  unfold lvals linkU;simp only [List.map_map];exact List.map_congr_left fun p hp => pick_val hX hp (h p hp)
theorem plop_abs (v : Int) : 0 ≤ plI v ∧ plI v ≤ v.natAbs ∧ opI v ≤ 0 ∧ -(v.natAbs : Int) ≤ opI v := by
  unfold plI opI;split <;> omega
theorem PS_ASm (X : List Int) : ∀ l : List TZ, 0 ≤ PS X l ∧ PS X l ≤ AS X l ∧ OS X l ≤ 0 ∧ -AS X l ≤ OS X l
  | [] => by simp [PS, OS, AS, sumL]
  | t :: l => by
    have h1 := PS_ASm X l;have h2 := plop_abs (tv X t);simp only [PS, AS, OS, List.map_cons, sumL] at h1 ⊢;omega
theorem EvOk.ofA {X : List Int} {p : PZ} (h : Fit (AS X p.terms)) : EvOk X p := by
  have h1 := PS_ASm X p.terms;exact ⟨h.le (by omega), h.le (by omega)⟩
theorem evL_linkU {V : Nat} {X : List Int} (hX : X.length = V) {kind : Int} {ls : List (List UT)} (h : ∀ p ∈ ls, nnU V p) (hf : ∀ p ∈ ls, Fit (auv X p)) : EvL X (linkU V kind ls) := by
  intro q hq;obtain ⟨p, hp, rfl⟩ := List.mem_map.1 hq;refine EvOk.ofA ?_;show Fit (AS (atOf X ((occL V ls).map fun (i : Nat) => (i : Int))) (mkP (occL V ls).length (pickU (occL V ls) p)).terms);rw [pick_abs hX hp (h p hp)];exact hf p hp
/-- A link that is built is valid, by inspection. -/
def okLU (V : Nat) (kind : Int) (ls : List (List UT)) : Bool :=
  decide (needI kind ≠ 0) && decide ((ls.length : Int) = needI kind) && ls.all (fun p => chkU (occL V ls).length (pickU (occL V ls) p) (pickU (occL V ls) p) && p.all (okU V))
theorem incB_range (P : Nat → Bool) : ∀ (n k : Nat) (last top : Int), last < k → ((k + n : Nat) : Int) ≤ top → incB last top (((List.range' k n).filter P).map fun (i : Nat) => (i : Int))
  | 0, _, _, _, _, _ => by simp [incB]
  | n + 1, k, last, top, h1, h2 => by
    rw [List.range'_succ, List.filter_cons];by_cases hp : P k = true
    · rw [if_pos hp];simp only [List.map_cons, incB];exact ⟨h1, by omega, incB_range P n (k + 1) k top (by omega) (by omega)⟩
    · rw [if_neg hp];exact incB_range P n (k + 1) last top (by omega) (by omega)
theorem okLU_ok {V : Nat} (hV : V ≤ 32) {kind : Int} {ls : List (List UT)} (h : okLU V kind ls = true) : OkL V (linkU V kind ls) ∧ WL (linkU V kind ls) ∧ ∀ p ∈ ls, nnU V p := by
  simp only [okLU, Bool.and_eq_true, decide_eq_true_eq, List.all_eq_true] at h;obtain ⟨⟨h1, h2⟩, h3⟩ := h
  have hn : (occL V ls).length ≤ V := by
    unfold occL;exact Nat.le_trans (List.length_filter_le _ _) (by simp)
  refine ⟨⟨h1, by simp only [linkU, List.length_map]; exact h2, by simp only [linkU, List.length_map]; omega, ?_, fun q hq => ?_⟩, fun q hq => ?_, fun p hp u hu => okU_ok ((h3 p hp).2 u hu)⟩
  · have := incB_range (occP ls) V 0 (-1) V (by omega) (by omega);rw [← List.range_eq_range'] at this;exact this
  · obtain ⟨p, hp, rfl⟩ := List.mem_map.1 hq;obtain ⟨a, b, c⟩ := mk_ok (V := (occL V ls).length) (by omega) (h3 p hp).1;exact ⟨by simp [linkU, mkP], a⟩
  · obtain ⟨p, hp, rfl⟩ := List.mem_map.1 hq;exact (mk_ok (V := (occL V ls).length) (by omega) (h3 p hp).1).2.2
end Go.AL
/- The values of built polynomials; bounds. -/
namespace Go.AL
theorem prodE_zeros : ∀ (X : List Int) (n : Nat), prodE X (List.replicate n 0) = 1
  | [], 0 => rfl
  | [], _ + 1 => rfl
  | _ :: _, 0 => rfl
  | x :: X, n + 1 => by rw [List.replicate_succ, prodE, prodE_zeros X n]; simp
theorem prodE_unit : ∀ (X : List Int) (i : Nat), i < X.length → prodE X (unU X.length i) = X.getD i 0
  | [], i, h => by simp at h
  | x :: X, 0, _ => by
    unfold unU;rw [List.length_cons, List.replicate_succ, List.set_cons_zero, prodE, prodE_zeros];simp [Int.pow_succ]
  | x :: X, i + 1, h => by
    have ih := prodE_unit X i (by simpa using h);unfold unU at ih ⊢;rw [List.length_cons, List.replicate_succ, List.set_cons_succ, prodE, ih];simp
theorem uv_con (X : List Int) (V : Nat) (c : Int) : uv X (conU V c) = c := by
  unfold conU uv;split
  · rename_i h; rw [h]; rfl
  · simp [sumL, prodE_zeros]
theorem uv_var {X : List Int} {V i : Nat} (hX : X.length = V) (hi : i < V) : uv X (varU V i) = X.getD i 0 := by
  subst hX;unfold varU uv;simp only [List.map_cons, List.map_nil, sumL, prodE_unit X i hi];omega
theorem pv_mkP (X : List Int) (V : Nat) (p : List UT) : pv X (mkP V p) = uv X p := by
  rw [pv_sum];unfold mkP uv;simp only [List.map_map];congr 1;exact List.map_congr_left fun u _ => tv_tz X u
theorem chkU_UOk {V : Nat} {us l : List UT} (h : chkU V us l = true) : UOk V us := by
  simp only [chkU, Bool.and_eq_true, List.all_eq_true] at h;exact fun u hu => okU_ok (h.1.1.1.1.1.1.1 u hu)
theorem uv_chk {V : Nat} (hV : V ≤ 32) {us l : List UT} (h : chkU V us l = true) (X : List Int) : uv X l = uv X us := by
  have := (chkU_ok hV h).val hV (chkU_UOk h) X;rwa [pv_mkP] at this
theorem uv_scale (X : List Int) (b : Int) (q : List UT) : uv X (q.map fun u => (u.1 * b, u.2)) = uv X q * b := by
  unfold uv
  induction q with
  | nil => simp [sumL]
  | cons u q ih =>
    simp only [List.map_cons, sumL] at ih ⊢;rw [ih]; grind
theorem uv_addUs (X : List Int) (b : Int) (p q : List UT) : uv X (addUs b p q) = uv X p + uv X q * b := by
  unfold addUs;rw [uv_append, uv_scale]
theorem uv_mulUs {V : Nat} (X : List Int) {p q : List UT} (hp : nnU V p) (hq : nnU V q) : uv X (mulUs p q) = uv X p * uv X q := by
  unfold mulUs
  induction p with
  | nil => simp [uv, sumL]
  | cons t p ih =>
    rw [List.flatMap_cons, uv_append, ih fun u hu => hp u (by simp [hu])];have ht := hp t (by simp)
    have h1 : uv X (q.map fun u => (t.1 * u.1, addE t.2 u.2)) = t.1 * prodE X t.2 * uv X q := by
      clear ih;unfold uv
      induction q with
      | nil => simp [sumL]
      | cons u q ih2 =>
        have hu := hq u (by simp);simp only [List.map_cons, sumL];rw [ih2 fun v hv => hq v (by simp [hv]), prodE_add ht.2 hu.2 (by rw [ht.1, hu.1])];grind
    rw [h1];show _ = (t.1 * prodE X t.2 + uv X p) * uv X q;grind
theorem chk_nn {V : Nat} {p : List UT} (h : chkU V p p = true) : nnU V p := chkU_UOk h
theorem uv_sums {V : Nat} (hV : V ≤ 32) (X : List Int) : ∀ (ls : List (List UT)) (acc : List UT), okSums V acc ls = true → uv X (sumsU acc ls) = uv X acc + sumL (ls.map (uv X))
  | [], acc, _ => by simp [sumsU, sumL]
  | p :: ls, acc, h => by
    obtain ⟨c1, c2, c3, c4⟩ := okSums_cons h;show uv X (sumsU (addL acc p) ls) = _;rw [uv_sums hV X ls _ c4, uv_chk hV c3, uv_addUs];simp only [List.map_cons, sumL];omega
def prodL : List Int → Int
  | [] => 1
  | x :: l => x * prodL l
theorem uv_muls {V : Nat} (hV : V ≤ 32) (X : List Int) : ∀ (ls : List (List UT)) (acc : List UT), okMuls V acc ls = true → uv X (mulsU acc ls) = uv X acc * prodL (ls.map (uv X))
  | [], acc, _ => by simp [mulsU, prodL]
  | p :: ls, acc, h => by
    obtain ⟨c1, c2, c3, c4, c5⟩ := okMuls_cons h;show uv X (mulsU (mulL2 acc p) ls) = _;rw [uv_muls hV X ls _ c5, uv_chk hV c4, uv_mulUs X (chk_nn c1) (chk_nn c2)];simp only [List.map_cons, prodL];rw [Int.mul_assoc]
theorem uv_sub {V : Nat} (hV : V ≤ 32) (X : List Int) {p q : List UT} (h : chkU V (addUs (-1) p q) (subL p q) = true) : uv X (subL p q) = uv X p - uv X q := by
  rw [uv_chk hV h, uv_addUs]; omega
/-- bounds -/
theorem prodE_bound {m : Nat} : ∀ {X E : List Int}, (∀ x ∈ X, x.natAbs ≤ 2 ^ m) → EOk E → (prodE X E).natAbs ≤ (2 ^ m) ^ (sumL E).toNat
  | [], E, _, _ => by
    show 1 ≤ (2 ^ m) ^ (sumL E).toNat;exact Nat.pow_pos (Nat.two_pow_pos m)
  | _ :: _, [], _, _ => by simp [prodE, sumL]
  | x :: X, e :: E, hx, he => by
    have ih := prodE_bound (X := X) (E := E) (fun y hy => hx y (by simp [hy])) fun y hy => he y (by simp [hy]);have h0 := (he e (by simp)).1
    have hs : 0 ≤ sumL E := by
      have := sumL_bound (l := E) fun y hy => he y (by simp [hy]);omega
    simp only [prodE, sumL];rw [Int.natAbs_mul, show (e + sumL E).toNat = e.toNat + (sumL E).toNat by omega, Nat.pow_add, Int.natAbs_pow];exact Nat.mul_le_mul (Nat.pow_le_pow_left (hx x (by simp)) _) ih
theorem auv_bound {m d : Nat} {X : List Int} (hX : ∀ x ∈ X, x.natAbs ≤ 2 ^ m) : ∀ {p : List UT}, (∀ u ∈ p, EOk u.2) → (∀ u ∈ p, sumL u.2 ≤ d) → 0 ≤ auv X p ∧ auv X p ≤ ((absU p * (2 ^ m) ^ d : Nat) : Int)
  | [], _, _ => by
    refine ⟨by simp [auv, sumL], ?_⟩;show (0 : Int) ≤ _;omega
  | u :: p, h1, h2 => by
    have ih := auv_bound (p := p) hX (fun v hv => h1 v (by simp [hv])) fun v hv => h2 v (by simp [hv]);have hb := prodE_bound hX (h1 u (by simp));have hd := h2 u (by simp);have hle : (2 ^ m) ^ (sumL u.2).toNat ≤ (2 ^ m) ^ d := Nat.pow_le_pow_right (Nat.two_pow_pos m) (by omega)
    have hu : (u.1 * prodE X u.2).natAbs ≤ u.1.natAbs * (2 ^ m) ^ d := by
      rw [Int.natAbs_mul];exact Nat.mul_le_mul (Nat.le_refl _) (Nat.le_trans hb hle)
    unfold auv at ih ⊢;simp only [List.map_cons, sumL, absU];rw [Nat.add_mul]
    generalize u.1.natAbs * (2 ^ m) ^ d = A at *
    generalize absU p * (2 ^ m) ^ d = B at *
    omega
def okB (d c : Nat) (p : List UT) : Bool := p.all (fun u => decide (sumL u.2 ≤ d)) && Nat.ble (absU p) (2 ^ c)
theorem auv_fit {V m d c : Nat} {X : List Int} (hX : ∀ x ∈ X, x.natAbs ≤ 2 ^ m) {p : List UT} (hn : nnU V p) (h : okB d c p = true) (hm : c + m * d < 131072) : Fit (auv X p) := by
  simp only [okB, Bool.and_eq_true, List.all_eq_true, decide_eq_true_eq] at h;have h2 : absU p ≤ 2 ^ c := Nat.le_of_ble_eq_true h.2;obtain ⟨b0, b1⟩ := auv_bound (d := d) hX (fun u hu => (hn u hu).2) h.1;have h3 : absU p * (2 ^ m) ^ d ≤ 2 ^ c * (2 ^ m) ^ d := Nat.mul_le_mul h2 (Nat.le_refl _);rw [← Nat.pow_mul, ← Nat.pow_add] at h3;obtain ⟨N, hN⟩ : ∃ N : Nat, N = 131072 := ⟨_, rfl⟩;have h4 : 2 ^ (c + m * d) < 2 ^ N := Nat.pow_lt_pow_right (by omega) (by omega);refine Fit.mk ?_;rw [BB_pow, show 32 * 4096 = N by omega];rw [show (((auv X p).natAbs : Nat) : Int) = auv X p by omega]
  have h5 : ((absU p * (2 ^ m) ^ d : Nat) : Int) < ((2 ^ N : Nat) : Int) := by
    rw [← Nat.pow_mul];exact Int.ofNat_lt.2 (Nat.lt_of_le_of_lt h3 h4)
  rw [Int.natCast_pow] at h5;exact Int.lt_of_le_of_lt b1 h5
end Go.AL
/- mask.Witness. -/
namespace Go.AL
section
variable {P : Program} {tab : Tab} {n : Nat} {s : St}
variable {ops : Array Oper} {draw : Dr} {o : Oper} {l : List Oper} {acc : List Eff} {K : Exit → St → Prop}
/-- a load of a known element of a row -/
theorem Fl.rldK [f : Facts P tab] {t : TypeId} {x : Operand} (hop : o.op = .load t x) {b : Id} {off : Nat} (hx : opd s x = .rptr b off) {α : Type} {sz : Nat} {enc : α → List AV} {xs : List α} {bt : TypeId} (hb : s.bx b = some (.row sz enc xs bt)) {i : TI} (hti : tab t = some i) (hg : gOk ops s o = true) (hd : dOk n o.dst = true)
    {j : Nat} (hj : off = j * sz) {v : α → AV} (hv : ∀ x0, ofCells (aggD i.desc) i.size (enc x0) = some (v x0)) (hvc : ∀ x0, (v x0).closed = true) {x0 : α} (he : xs[j]? = some x0)
    (r : Fl P n ops draw l ((Eff.mk (v x0) [] [] [] [b]).app o.dst s) (Eff.mk (v x0) [] [] [] [b] :: acc) K) : Fl P n ops draw (o :: l) s acc K :=
  Fl.opv hg (OpJ.rload f.tabOk (dOk_lt hd) hop hx hb hti hj he (hv _) (hvc _)) r
/-- the address of a known place of a row -/
theorem Fl.relK [f : Facts P tab] {t : TypeId} {x y : Operand} (hop : o.op = .indexAddr t x y) {b : Id} (hx : opd s x = .row b) {k : IntKind} {m : Int} (hy : opd s y = .v (.int k m)) {e : TypeId} {i : TI} {sz' by' : Nat} {z : List Value} (hts : tab t = some ⟨.slice e, sz', by', z⟩) (hti : tab e = some i) {α : Type} {sz : Nat} {enc : α → List AV} {xs : List α} {bt : TypeId} (hb : s.bx b = some (.row sz enc xs bt)) (hg : gOk ops s o = true) (hd : dOk n o.dst = true)
    (hm : (decide (0 ≤ m) && Nat.blt m.toNat xs.length) = true)
    (r : Fl P n ops draw l ((Eff.mk (.rptr b (m.toNat * i.size)) [] [] [] [b]).app o.dst s) (Eff.mk (.rptr b (m.toNat * i.size)) [] [] [] [b] :: acc) K) : Fl P n ops draw (o :: l) s acc K := by
  simp only [Bool.and_eq_true, decide_eq_true_eq] at hm;have := ltOf hm.2;exact Fl.rel hop hx hy hts hti hb hg hd hm.1 (by omega) r
/-- a store at a known place of a row -/
theorem Fl.rstK [f : Facts P tab] {t : TypeId} {x y : Operand} (hop : o.op = .store t x y) {b : Id} {off : Nat} (hx : opd s x = .rptr b off) (hg : gOk ops s o = true) (hdst : o.dst = none) {α : Type} {sz : Nat} {enc : α → List AV} {xs : List α} {bt : TypeId} (hb : s.bx b = some (.row sz enc xs bt)) {i : TI} (hti : tab t = some i)
    {vs : List AV} (hv : cellsL (opd s y) = some vs) (hvc : closedL vs = true) (hsz : Nat.beq vs.length i.size = true) (hsz2 : Nat.beq i.size sz = true) {j : Nat} (hj : off = j * sz) {x1 : α} (hle : LeL vs (enc x1)) (hel : Nat.beq (enc x1).length sz = true) (hjl : Nat.blt j xs.length = true)
    (r : Fl P n ops draw l ((Eff.mk .any [(b, .row sz enc (xs.set j x1) bt)] [] [] [b]).app o.dst s) (Eff.mk .any [(b, .row sz enc (xs.set j x1) bt)] [] [] [b] :: acc) K) (hJ : presOk draw.J (Eff.mk .any [(b, .row sz enc (xs.set j x1) bt)] [] [] [b]) := by repeat' (first | exact True.intro | exact rfl | refine ⟨?_, ?_⟩ | fail)) : Fl P n ops draw (o :: l) s acc K :=
  Fl.rst hop hx hg hdst hb hti hv hvc hsz hsz2 hj hle hel (ltOf hjl) r hJ
end
/-- what Witness returns -/
structure MW where
  u : Int
  p : Int
  q : Int
  z : Int
  y : Int
  r : Int
  s : Int
  t : Int
def mw (a b : Int) : MW :=
  let u := (2 : Int) ^ (b + 1).toNat
  let p := (u + 1) ^ b.toNat
  let q := u ^ a.toNat
  ⟨u, p, q, p / q % u / 2, p / q / u, p % q, q - p % q - 1, u - p / q % u - 1⟩
def MW.X (w : MW) (a b : Int) : List Int := [a, b, w.u, w.p, w.q, w.z, w.y, w.r, w.s, w.t]
theorem mw_pos {a b : Int} (ha : 0 ≤ a) (hb : 0 ≤ b) : 2 ≤ (mw a b).u ∧ 1 ≤ (mw a b).p ∧ 1 ≤ (mw a b).q := by
  have h1 : (2 : Int) ≤ (mw a b).u := by
    show (2 : Int) ≤ 2 ^ (b + 1).toNat;have : (2 : Int) ^ 1 ≤ 2 ^ (b + 1).toNat := pow_le_r (by omega) (by omega);simpa using this
  refine ⟨h1, ?_, ?_⟩
  · show 1 ≤ ((mw a b).u + 1) ^ b.toNat;have := Int.pow_pos (m := b.toNat) (show (0 : Int) < (mw a b).u + 1 by omega);omega
  · show 1 ≤ (mw a b).u ^ a.toNat;have := Int.pow_pos (m := a.toNat) (show (0 : Int) < (mw a b).u by omega);omega
theorem fit_pow2 {x : Int} {m : Nat} (h0 : 0 ≤ x) (h : x ≤ 2 ^ m) (hm : m < 131072) : Fit x := by
  refine Fit.mk ?_;rw [BB_pow, show 32 * 4096 = 131072 from rfl];have h4 : (2 : Int) ^ m < 2 ^ (131072 : Nat) := Int.pow_lt_pow_of_lt (by omega) hm;omega
theorem mw_le {a b : Int} (ha : 0 ≤ a) (hb : 0 ≤ b) (ha2 : a ≤ 300) (hb2 : b ≤ 300) : (mw a b).u ≤ 2 ^ 301 ∧ (mw a b).p ≤ 2 ^ 90600 ∧ (mw a b).q ≤ 2 ^ 90600 := by
  have hu : (mw a b).u ≤ 2 ^ 301 := pow_le_r (by omega) (by omega);obtain ⟨p1, p2, p3⟩ := mw_pos ha hb;refine ⟨hu, ?_, ?_⟩
  · show ((mw a b).u + 1) ^ b.toNat ≤ _
    have h1 : (mw a b).u + 1 ≤ 2 ^ 302 := by
      have : (2 : Int) ^ 302 = 2 * 2 ^ 301 := by rw [Int.pow_succ]; omega
      omega
    have h2 : ((mw a b).u + 1) ^ b.toNat ≤ (2 ^ 302) ^ b.toNat := pow_le_l (by omega) h1 _;rw [← Int.pow_mul] at h2;exact Int.le_trans h2 (pow_le_r (by omega) (by omega))
  · show (mw a b).u ^ a.toNat ≤ _;have h2 : (mw a b).u ^ a.toNat ≤ (2 ^ 301) ^ a.toNat := pow_le_l (by omega) hu _;rw [← Int.pow_mul] at h2;exact Int.le_trans h2 (pow_le_r (by omega) (by omega))
end Go.AL
namespace Go.Proofs.YtcaecieigoplbaaGreat
open Go.AL
theorem chainOk {o : Option Int} {f : FuncId} {args : List AV} {x : Int} (hf : Fit x) (h : IoFn Tryz.prog f args [(900, chB o 0)] (.ret (aX (cV 0 x))) [(900, chB o (cE 0 x))]) : IoFn Tryz.prog f args [(900, chB o 0)] (.ret (aX x)) [(900, chB o 0)] := by
  rw [cV_ok hf, cE_ok hf] at h;exact h

set_option maxHeartbeats 2000000 in
theorem mWitness_ok (a b : Int) (ha : 0 ≤ a) (hb : 0 ≤ b) (ha2 : a ≤ 300) (hb2 : b ≤ 300) (hun : undI a b) : PureFn Tryz.prog 18 [aN a, aN b] (.tup [.sl 2 eX ((mw a b).X a b), aN 0]) := by
  refine PureFn.of_body Tryz.func18 rfl Tryz.ntmps18 rfl rfl ?_;obtain ⟨p1, p2, p3⟩ := mw_pos ha hb;obtain ⟨l1, l2, l3⟩ := mw_le ha hb ha2 hb2;have hu : (2 : Int) ^ (b + 1).toNat = (mw a b).u := rfl;have hp : ((mw a b).u + 1) ^ b.toNat = (mw a b).p := rfl;have hq : (mw a b).u ^ a.toNat = (mw a b).q := rfl;have hr : (mw a b).p % (mw a b).q = (mw a b).r := rfl;have hy : (mw a b).p / (mw a b).q / (mw a b).u = (mw a b).y := rfl;have hz : (mw a b).p / (mw a b).q % (mw a b).u / 2 = (mw a b).z := rfl;have hs : (mw a b).q - (mw a b).r - 1 = (mw a b).s := rfl;have ht : (mw a b).u - (mw a b).p / (mw a b).q % (mw a b).u - 1 = (mw a b).t := rfl;have hX : (mw a b).X a b = [a, b, (mw a b).u, (mw a b).p, (mw a b).q, (mw a b).z, (mw a b).y, (mw a b).r, (mw a b).s, (mw a b).t] := rfl;rw [hX]
  generalize mw a b = w at *
  obtain ⟨u, p, q, z, y, r, s, t⟩ := w;simp only at p1 p2 p3 l1 l2 l3 hu hp hq hr hy hz hs ht ⊢;have fa : Fit a := fit_small (by omega) (by omega);have fb : Fit b := fit_small (by omega) (by omega);have fu : Fit u := fit_pow2 (by omega) l1 (by omega)
  have fu1 : Fit (u + 1) := fit_pow2 (m := 302) (by omega) (by
    have : (2 : Int) ^ 302 = 2 * 2 ^ 301 := by rw [Int.pow_succ]; omega
    omega) (by omega)
  have fp : Fit p := fit_pow2 (by omega) l2 (by omega);have fq : Fit q := fit_pow2 (by omega) l3 (by omega);have f2 : Fit 2 := fit_small (by omega) (by omega);obtain ⟨fk, fr⟩ := div_fit fp fq (by omega);obtain ⟨fy, fo⟩ := div_fit fk fu (by omega);obtain ⟨fz, _⟩ := div_fit fo f2 (by omega);have r0 := Int.emod_nonneg p (show q ≠ 0 by omega);have r1 := Int.emod_lt_of_pos p (show 0 < q by omega);have k0 : 0 ≤ p / q := Int.ediv_nonneg (by omega) (by omega);have o0 := Int.emod_nonneg (p / q) (show u ≠ 0 by omega);have o1 := Int.emod_lt_of_pos (p / q) (show 0 < u by omega);obtain ⟨k, hk⟩ : ∃ k, k = p / q := ⟨_, rfl⟩;obtain ⟨o, ho⟩ : ∃ o, o = k % u := ⟨_, rfl⟩;rw [← hk] at fk fy fo fz hy hz ht k0 o0 o1;rw [← ho] at fo fz hz ht o0 o1;rw [hr] at fr r0 r1;rw [hy] at fy;rw [hz] at fz;have fs1 : Fit (q - r) := fq.le (by omega);have fs : Fit s := fq.le (by omega);have ft1 : Fit (u - o) := fu.le (by omega);have ft : Fit t := fu.le (by omega);have e1 := chainOk (o := none) (by rw [hu]; exact fu) (chPower_ok none 0 2 (b + 1) f2 (by omega) (by omega));rw [hu] at e1;have e2 := chainOk (o := none) fu1 (chAdd_ok none 0 u 1 fu fit_one);have e3 := chainOk (o := none) (by rw [hp]; exact fp) (chPower_ok none 0 (u + 1) b fu1 hb (by omega));rw [hp] at e3;have e4 := chainOk (o := none) (by rw [hq]; exact fq) (chPower_ok none 0 u a fu ha (by omega));rw [hq] at e4;have e5 := chainOk (o := none) (by rw [← hk]; exact fk) (chQuo_ok none 0 p q fp fq (by omega));rw [← hk] at e5;have e6 := chainOk (o := none) (by rw [hr]; exact fr) (chRest_ok none 0 p q fp fq (by omega));rw [hr] at e6;have e7 := chainOk (o := none) (by rw [hy]; exact fy) (chQuo_ok none 0 k u fk fu (by omega));rw [hy] at e7;have e8 := chainOk (o := none) (by rw [← ho]; exact fo) (chRest_ok none 0 k u fk fu (by omega));rw [← ho] at e8;have e9 := chainOk (o := none) (by rw [hz]; exact fz) (chQuo_ok none 0 o 2 fo f2 (by omega));rw [hz] at e9;have e10 := chainOk (o := none) fs1 (chSub_ok none 0 q r fq fr);have e11 := chainOk (o := none) (by rw [hs]; exact fs) (chSub_ok none 0 (q - r) 1 fs1 fit_one);rw [hs] at e11;have e12 := chainOk (o := none) ft1 (chSub_ok none 0 u o fu fo);have e13 := chainOk (o := none) (by rw [ht]; exact ft) (chSub_ok none 0 (u - o) 1 ft1 fit_one);rw [ht] at e13;have hand : bitN .andNot a b = 0 := andNot_zero.2 hun;clear l1 l2 l3 hu hp hq hr hy hz hs ht hk ho;refine AWP.seqS ?_;(repeat' (first |refine Fl.v rfl rfl rfl ?_ |refine Fl.nilF ?_ |refine AWP.region ?_));refine ⟨AWP.seqS ?_⟩;(repeat' (first |refine Fl.v rfl rfl rfl ?_ |refine Fl.nilF ?_ |refine AWP.seq ?_ |refine AWP.region ?_ |(refine AWP.condD rfl ?_ ?_ <;> intro _ <;> try (exfalso; omega)) |refine AWP.skip ?_ |(refine Fl.splitD rfl rfl ?_ ?_ <;> intro _ <;> try (exfalso; omega))));refine ⟨AWP.seqS ?_⟩;(repeat' (first |refine Fl.v rfl rfl rfl ?_ |refine Fl.nilF ?_ |refine AWP.seq ?_ |refine AWP.region ?_ |refine Fl.w rfl rfl rfl (by first | exact True.intro | omega) ?_ |(refine AWP.condN rfl ?_ ?_ <;> intro _ <;> try (exfalso; omega)) |refine AWP.skip ?_));refine ⟨AWP.seqS ?_⟩;(repeat' (first |refine Fl.v rfl rfl rfl ?_ |refine Fl.nilF ?_ |refine AWP.region ?_ |refine Fl.b rfl rfl rfl rfl ?_));refine ⟨AWP.seqS ?_⟩;(repeat' (first |refine AWP.region ?_));refine Fl.make rfl rfl rfl rfl rfl rfl rfl rfl rfl rfl eX 0 (by exact leX_zero (σ := []) rfl) (by rfl) (by omega) (by dsimp only; omega) (by omega) ?_;(repeat' (first |refine Fl.v rfl rfl rfl ?_ |refine Fl.nilF ?_));refine ⟨AWP.seqS ?_⟩;(repeat' (first |refine AWP.region ?_));refine Fl.call rfl (Of_ok 1 (by omega) (by omega)) rfl rfl rfl (LeL.refl _) ?_;(repeat' (first |refine Fl.nilF ?_ |refine Fl.b rfl rfl rfl rfl ?_));refine ⟨AWP.seqS ?_⟩;(repeat' (first |refine Fl.v rfl rfl rfl ?_ |refine AWP.region ?_));refine Fl.call rfl (Of_ok a (by omega) (by omega)) rfl rfl rfl (LeL.refl _) ?_;(repeat' (first |refine Fl.v rfl rfl rfl ?_));refine Fl.call rfl (Of_ok b (by omega) (by omega)) rfl rfl rfl (LeL.refl _) ?_;(repeat' (first |refine Fl.relK rfl rfl rfl rfl rfl rfl rfl rfl rfl ?_ |refine Fl.rstK rfl rfl rfl rfl rfl rfl rfl rfl rfl rfl rfl (LeL.refl _) rfl rfl ?_ |refine Fl.nilF ?_));refine ⟨AWP.seqS ?_⟩;(repeat' (first |refine Fl.v rfl rfl rfl ?_ |refine AWP.region ?_));refine Fl.call rfl (Of_ok 2 (by omega) (by omega)) rfl rfl rfl (LeL.refl _) ?_;(repeat' (first |refine Fl.v rfl rfl rfl ?_ |refine Fl.w rfl rfl rfl (by first | exact True.intro | omega) ?_|fail));refine Fl.io rfl [(900, 30)] (e1) rfl rfl (LeL.refl _) rfl ⟨⟨⟨_, rfl, BLe.cells (LeL.refl _)⟩, rfl⟩, trivial⟩ rfl rfl rfl rfl rfl ?_;(repeat' (first |refine Fl.relK rfl rfl rfl rfl rfl rfl rfl rfl rfl ?_ |refine Fl.rstK rfl rfl rfl rfl rfl rfl rfl rfl rfl rfl rfl (LeL.refl _) rfl rfl ?_ |refine Fl.nilF ?_));refine ⟨AWP.seqS ?_⟩;(repeat' (first |refine Fl.rldK rfl rfl rfl rfl rfl rfl rfl (fun _ => rfl) (fun _ => rfl) rfl ?_ |refine Fl.relK rfl rfl rfl rfl rfl rfl rfl rfl rfl ?_ |refine Fl.v rfl rfl rfl ?_ |refine AWP.region ?_));refine Fl.io rfl [(900, 30)] (e2) rfl rfl (LeL.refl _) rfl ⟨⟨⟨_, rfl, BLe.cells (LeL.refl _)⟩, rfl⟩, trivial⟩ rfl rfl rfl rfl rfl ?_;(repeat' (first |refine Fl.v rfl rfl rfl ?_));refine Fl.io rfl [(900, 30)] (e3) rfl rfl (LeL.refl _) rfl ⟨⟨⟨_, rfl, BLe.cells (LeL.refl _)⟩, rfl⟩, trivial⟩ rfl rfl rfl rfl rfl ?_;(repeat' (first |refine Fl.relK rfl rfl rfl rfl rfl rfl rfl rfl rfl ?_ |refine Fl.rstK rfl rfl rfl rfl rfl rfl rfl rfl rfl rfl rfl (LeL.refl _) rfl rfl ?_ |refine Fl.nil (fun _ => by kernel_rfl) ?_|fail));refine ⟨AWP.seqS ?_⟩;(repeat' (first |refine Fl.rldK rfl rfl rfl rfl rfl rfl rfl (fun _ => rfl) (fun _ => rfl) rfl ?_ |refine Fl.relK rfl rfl rfl rfl rfl rfl rfl rfl rfl ?_ |refine Fl.v rfl rfl rfl ?_ |refine AWP.region ?_));refine Fl.io rfl [(900, 30)] (e4) rfl rfl (LeL.refl _) rfl ⟨⟨⟨_, rfl, BLe.cells (LeL.refl _)⟩, rfl⟩, trivial⟩ rfl rfl rfl rfl rfl ?_;(repeat' (first |refine Fl.relK rfl rfl rfl rfl rfl rfl rfl rfl rfl ?_ |refine Fl.rstK rfl rfl rfl rfl rfl rfl rfl rfl rfl rfl rfl (LeL.refl _) rfl rfl ?_ |refine Fl.nilF ?_));refine ⟨AWP.seqS ?_⟩;(repeat' (first |refine Fl.rldK rfl rfl rfl rfl rfl rfl rfl (fun _ => rfl) (fun _ => rfl) rfl ?_ |refine Fl.relK rfl rfl rfl rfl rfl rfl rfl rfl rfl ?_ |refine Fl.v rfl rfl rfl ?_ |refine AWP.region ?_));refine Fl.io rfl [(900, 30)] (e5) rfl rfl (LeL.refl _) rfl ⟨⟨⟨_, rfl, BLe.cells (LeL.refl _)⟩, rfl⟩, trivial⟩ rfl rfl rfl rfl rfl ?_;(repeat' (first |refine Fl.nil (fun _ => by kernel_rfl) ?_ |refine Fl.b rfl rfl rfl rfl ?_));refine ⟨AWP.seqS ?_⟩;(repeat' (first |refine Fl.rldK rfl rfl rfl rfl rfl rfl rfl (fun _ => rfl) (fun _ => rfl) rfl ?_ |refine Fl.relK rfl rfl rfl rfl rfl rfl rfl rfl rfl ?_ |refine Fl.v rfl rfl rfl ?_ |refine AWP.region ?_));refine Fl.io rfl [(900, 30)] (e6) rfl rfl (LeL.refl _) rfl ⟨⟨⟨_, rfl, BLe.cells (LeL.refl _)⟩, rfl⟩, trivial⟩ rfl rfl rfl rfl rfl ?_;(repeat' (first |refine Fl.relK rfl rfl rfl rfl rfl rfl rfl rfl rfl ?_ |refine Fl.rstK rfl rfl rfl rfl rfl rfl rfl rfl rfl rfl rfl (LeL.refl _) rfl rfl ?_ |refine Fl.nil (fun _ => by kernel_rfl) ?_|fail));refine ⟨AWP.seqS ?_⟩;(repeat' (first |refine Fl.rldK rfl rfl rfl rfl rfl rfl rfl (fun _ => rfl) (fun _ => rfl) rfl ?_ |refine Fl.relK rfl rfl rfl rfl rfl rfl rfl rfl rfl ?_ |refine Fl.v rfl rfl rfl ?_ |refine AWP.region ?_));refine Fl.io rfl [(900, 30)] (e7) rfl rfl (LeL.refl _) rfl ⟨⟨⟨_, rfl, BLe.cells (LeL.refl _)⟩, rfl⟩, trivial⟩ rfl rfl rfl rfl rfl ?_;(repeat' (first |refine Fl.relK rfl rfl rfl rfl rfl rfl rfl rfl rfl ?_ |refine Fl.rstK rfl rfl rfl rfl rfl rfl rfl rfl rfl rfl rfl (LeL.refl _) rfl rfl ?_ |refine Fl.nil (fun _ => by kernel_rfl) ?_|fail));refine ⟨AWP.seqS ?_⟩;(repeat' (first |refine Fl.rldK rfl rfl rfl rfl rfl rfl rfl (fun _ => rfl) (fun _ => rfl) rfl ?_ |refine Fl.relK rfl rfl rfl rfl rfl rfl rfl rfl rfl ?_ |refine Fl.v rfl rfl rfl ?_ |refine AWP.region ?_));refine Fl.io rfl [(900, 30)] (e8) rfl rfl (LeL.refl _) rfl ⟨⟨⟨_, rfl, BLe.cells (LeL.refl _)⟩, rfl⟩, trivial⟩ rfl rfl rfl rfl rfl ?_;(repeat' (first |refine Fl.nil (fun _ => by kernel_rfl) ?_ |refine Fl.b rfl rfl rfl rfl ?_));refine ⟨AWP.seqS ?_⟩;(repeat' (first |refine Fl.v rfl rfl rfl ?_ |refine AWP.region ?_));refine Fl.call rfl (Of_ok 2 (by omega) (by omega)) rfl rfl rfl (LeL.refl _) ?_;skip;refine Fl.io rfl [(900, 30)] (e9) rfl rfl (LeL.refl _) rfl ⟨⟨⟨_, rfl, BLe.cells (LeL.refl _)⟩, rfl⟩, trivial⟩ rfl rfl rfl rfl rfl ?_;(repeat' (first |refine Fl.relK rfl rfl rfl rfl rfl rfl rfl rfl rfl ?_ |refine Fl.rstK rfl rfl rfl rfl rfl rfl rfl rfl rfl rfl rfl (LeL.refl _) rfl rfl ?_ |refine Fl.nil (fun _ => by kernel_rfl) ?_|fail));refine ⟨AWP.seqS ?_⟩;(repeat' (first |refine Fl.rldK rfl rfl rfl rfl rfl rfl rfl (fun _ => rfl) (fun _ => rfl) rfl ?_ |refine Fl.relK rfl rfl rfl rfl rfl rfl rfl rfl rfl ?_ |refine Fl.v rfl rfl rfl ?_ |refine AWP.region ?_));refine Fl.io rfl [(900, 30)] (e10) rfl rfl (LeL.refl _) rfl ⟨⟨⟨_, rfl, BLe.cells (LeL.refl _)⟩, rfl⟩, trivial⟩ rfl rfl rfl rfl rfl ?_;(repeat' (first |refine Fl.v rfl rfl rfl ?_));refine Fl.io rfl [(900, 30)] (e11) rfl rfl (LeL.refl _) rfl ⟨⟨⟨_, rfl, BLe.cells (LeL.refl _)⟩, rfl⟩, trivial⟩ rfl rfl rfl rfl rfl ?_;(repeat' (first |refine Fl.relK rfl rfl rfl rfl rfl rfl rfl rfl rfl ?_ |refine Fl.rstK rfl rfl rfl rfl rfl rfl rfl rfl rfl rfl rfl (LeL.refl _) rfl rfl ?_ |refine Fl.nil (fun _ => by kernel_rfl) ?_|fail));refine ⟨AWP.seqS ?_⟩;(repeat' (first |refine Fl.rldK rfl rfl rfl rfl rfl rfl rfl (fun _ => rfl) (fun _ => rfl) rfl ?_ |refine Fl.relK rfl rfl rfl rfl rfl rfl rfl rfl rfl ?_ |refine Fl.v rfl rfl rfl ?_ |refine AWP.region ?_));refine Fl.io rfl [(900, 30)] (e12) rfl rfl (LeL.refl _) rfl ⟨⟨⟨_, rfl, BLe.cells (LeL.refl _)⟩, rfl⟩, trivial⟩ rfl rfl rfl rfl rfl ?_;(repeat' (first |refine Fl.v rfl rfl rfl ?_));refine Fl.io rfl [(900, 30)] (e13) rfl rfl (LeL.refl _) rfl ⟨⟨⟨_, rfl, BLe.cells (LeL.refl _)⟩, rfl⟩, trivial⟩ rfl rfl rfl rfl rfl ?_;(repeat' (first |refine Fl.relK rfl rfl rfl rfl rfl rfl rfl rfl rfl ?_ |refine Fl.rstK rfl rfl rfl rfl rfl rfl rfl rfl rfl rfl rfl (LeL.refl _) rfl rfl ?_ |refine Fl.nil (fun _ => by kernel_rfl) ?_|fail));refine ⟨AWP.seqS ?_⟩;(repeat' (first |refine Fl.v rfl rfl rfl ?_ |refine Fl.nilF ?_ |refine AWP.seq ?_ |refine AWP.region ?_ |refine AWP.condF rfl ?_ |refine AWP.skip ?_));refine ⟨?_⟩;(repeat' (first |refine Fl.v rfl rfl rfl ?_ |refine Fl.nilF ?_ |refine AWP.seq ?_ |refine AWP.region ?_ |refine AWP.ret ?_));refine RetOk.ent (Ent.freeze 31 rfl) ?_;exact RetOk.of rfl (AV.Le.refl _)
end Go.Proofs.YtcaecieigoplbaaGreat
/- Validity of any many numbers. -/
namespace Go.Proofs.YtcaecieigoplbaaGreat
open Go.AL
end Go.Proofs.YtcaecieigoplbaaGreat
/- mask: the links' meaning; what they need to be evaluated. -/
namespace Go.AL
theorem mkS_all : (∀ l ∈ mkS.links, OkL 10 l ∧ WL l) := by
  intro l hl;simp only [mkS, List.mem_cons, List.not_mem_nil, or_false] at hl;rcases hl with rfl | rfl | rfl | rfl | rfl | rfl
  · have := okLU_ok (V := 10) (by omega) (kind := 2) (ls := [conU 10 2, mk2, varU 10 2]) (by kernel_rfl); exact ⟨this.1, this.2.1⟩
  · have := okLU_ok (V := 10) (by omega) (kind := 2) (ls := [mk3, varU 10 1, varU 10 3]) (by kernel_rfl); exact ⟨this.1, this.2.1⟩
  · have := okLU_ok (V := 10) (by omega) (kind := 2) (ls := [varU 10 2, varU 10 0, varU 10 4]) (by kernel_rfl); exact ⟨this.1, this.2.1⟩
  · have := okLU_ok (V := 10) (by omega) (kind := 0) (ls := [mk8]) (by kernel_rfl); exact ⟨this.1, this.2.1⟩
  · have := okLU_ok (V := 10) (by omega) (kind := 0) (ls := [mk10]) (by kernel_rfl); exact ⟨this.1, this.2.1⟩
  · have := okLU_ok (V := 10) (by omega) (kind := 0) (ls := [mk12]) (by kernel_rfl); exact ⟨this.1, this.2.1⟩
theorem mkS_w : WS mkS := fun l hl => (mkS_all l hl).2
theorem mkS_ok : OkS mkS := ⟨by decide, by decide, by decide, fun l hl => (mkS_all l hl).1⟩
theorem mkS_nn : (∀ p ∈ [conU 10 2, mk2, varU 10 2, mk3, varU 10 1, varU 10 3, varU 10 0, varU 10 4, mk8, mk10, mk12], nnU 10 p ∧ okB 3 4 p = true) := by
  have h : ([conU 10 2, mk2, varU 10 2, mk3, varU 10 1, varU 10 3, varU 10 0, varU 10 4, mk8, mk10, mk12].all fun p => p.all (okU 10) && okB 3 4 p) = true := by kernel_rfl
  intro p hp;have := List.all_eq_true.1 h p hp;simp only [Bool.and_eq_true, List.all_eq_true] at this;exact ⟨fun u hu => okU_ok (this.1 u hu), this.2⟩
theorem mk_vals (a b u p q z y r s t : Int) : let X := [a, b, u, p, q, z, y, r, s, t]
    uv X (conU 10 2) = 2 ∧ uv X mk2 = b + 1 ∧ uv X (varU 10 2) = u ∧ uv X mk3 = u + 1 ∧ uv X (varU 10 1) = b ∧ uv X (varU 10 3) = p ∧ uv X (varU 10 0) = a ∧ uv X (varU 10 4) = q ∧ uv X mk8 = p - ((2 * z + 1 + u * y) * q + r) ∧ uv X mk10 = q - (r + s + 1) ∧ uv X mk12 = u - (2 * z + 1 + 1 + t) := by
  intro X;have v : ∀ i, i < 10 → uv X (varU 10 i) = X.getD i 0 := fun i hi => uv_var rfl hi;have v0 : uv X (varU 10 0) = a := v 0 (by omega);have v1 : uv X (varU 10 1) = b := v 1 (by omega);have v2 : uv X (varU 10 2) = u := v 2 (by omega);have v3 : uv X (varU 10 3) = p := v 3 (by omega);have v4 : uv X (varU 10 4) = q := v 4 (by omega);have v5 : uv X (varU 10 5) = z := v 5 (by omega);have v6 : uv X (varU 10 6) = y := v 6 (by omega);have v7 : uv X (varU 10 7) = r := v 7 (by omega);have v8 : uv X (varU 10 8) = s := v 8 (by omega);have v9 : uv X (varU 10 9) = t := v 9 (by omega);have c : ∀ k, uv X (conU 10 k) = k := fun k => uv_con X 10 k;have n0 : uv X [] = 0 := rfl
  have m0 : uv X mk0 = 2 * z := by
    unfold mk0; rw [uv_muls (V := 10) (by omega) X _ _ (by kernel_rfl)]; simp only [List.map_cons, List.map_nil, prodL, c, v5]; omega
  have m1 : uv X mk1 = 2 * z + 1 := by
    unfold mk1; rw [uv_sums (V := 10) (by omega) X _ _ (by kernel_rfl)]; simp only [List.map_cons, List.map_nil, sumL, c, m0, n0]; omega
  have m2 : uv X mk2 = b + 1 := by
    unfold mk2; rw [uv_sums (V := 10) (by omega) X _ _ (by kernel_rfl)]; simp only [List.map_cons, List.map_nil, sumL, c, v1, n0]; omega
  have m3 : uv X mk3 = u + 1 := by
    unfold mk3; rw [uv_sums (V := 10) (by omega) X _ _ (by kernel_rfl)]; simp only [List.map_cons, List.map_nil, sumL, c, v2, n0]; omega
  have m4 : uv X mk4 = u * y := by
    unfold mk4; rw [uv_muls (V := 10) (by omega) X _ _ (by kernel_rfl)]; simp only [List.map_cons, List.map_nil, prodL, c, v2, v6]; grind
  have m5 : uv X mk5 = 2 * z + 1 + u * y := by
    unfold mk5; rw [uv_sums (V := 10) (by omega) X _ _ (by kernel_rfl)]; simp only [List.map_cons, List.map_nil, sumL, m1, m4, n0]; omega
  have m6 : uv X mk6 = (2 * z + 1 + u * y) * q := by
    unfold mk6; rw [uv_muls (V := 10) (by omega) X _ _ (by kernel_rfl)]; simp only [List.map_cons, List.map_nil, prodL, c, m5, v4]; grind
  have m7 : uv X mk7 = (2 * z + 1 + u * y) * q + r := by
    unfold mk7; rw [uv_sums (V := 10) (by omega) X _ _ (by kernel_rfl)]; simp only [List.map_cons, List.map_nil, sumL, m6, v7, n0]; omega
  have m8 : uv X mk8 = p - ((2 * z + 1 + u * y) * q + r) := by
    unfold mk8; rw [uv_sub (V := 10) (by omega) X (by kernel_rfl), v3, m7]
  have m9 : uv X mk9 = r + s + 1 := by
    unfold mk9; rw [uv_sums (V := 10) (by omega) X _ _ (by kernel_rfl)]; simp only [List.map_cons, List.map_nil, sumL, c, v7, v8, n0]; omega
  have m10 : uv X mk10 = q - (r + s + 1) := by
    unfold mk10; rw [uv_sub (V := 10) (by omega) X (by kernel_rfl), v4, m9]
  have m11 : uv X mk11 = 2 * z + 1 + 1 + t := by
    unfold mk11; rw [uv_sums (V := 10) (by omega) X _ _ (by kernel_rfl)]; simp only [List.map_cons, List.map_nil, sumL, c, m1, v9, n0]; omega
  have m12 : uv X mk12 = u - (2 * z + 1 + 1 + t) := by
    unfold mk12; rw [uv_sub (V := 10) (by omega) X (by kernel_rfl), v2, m11]
  exact ⟨c 2, m2, v2, m3, v1, v3, v0, v4, m8, m10, m12⟩
/-- the links hold -/
def MaskEq (a b u p q z y r s t : Int) : Prop :=
  (0 ≤ b + 1 ∧ 2 ^ (b + 1).toNat = u) ∧ (1 ≤ u + 1 ∧ 0 ≤ b ∧ (u + 1) ^ b.toNat = p) ∧ (1 ≤ u ∧ 0 ≤ a ∧ u ^ a.toNat = q) ∧ p = (2 * z + 1 + u * y) * q + r ∧ q = r + s + 1 ∧ u = 2 * z + 1 + 1 + t
theorem mk_hol (a b u p q z y r s t : Int) : (∀ l ∈ mkS.links, HoL [a, b, u, p, q, z, y, r, s, t] l) ↔ MaskEq a b u p q z y r s t := by
  obtain ⟨e0, e1, e2, e3, e4, e5, e6, e7, e8, e9, e10⟩ := mk_vals a b u p q z y r s t;have nn : ∀ p, p ∈ [conU 10 2, mk2, varU 10 2, mk3, varU 10 1, varU 10 3, varU 10 0, varU 10 4, mk8, mk10, mk12] → nnU 10 p := fun p hp => (mkS_nn p hp).1
  have L : ∀ (kind : Int) (ls : List (List UT)), (∀ p ∈ ls, p ∈ [conU 10 2, mk2, varU 10 2, mk3, varU 10 1, varU 10 3, varU 10 0, varU 10 4, mk8, mk10, mk12]) → HoL [a, b, u, p, q, z, y, r, s, t] (linkU 10 kind ls) = holdP kind (ls.map (uv [a, b, u, p, q, z, y, r, s, t])) := fun kind ls h => by
    unfold HoL;rw [lvals_linkU (V := 10) rfl fun p hp => nn p (h p hp)];rfl
  simp only [mkS, List.forall_mem_cons];rw [L 2 _ (by simp), L 2 _ (by simp), L 2 _ (by simp), L 0 _ (by simp), L 0 _ (by simp), L 0 _ (by simp)];simp only [List.map_cons, List.map_nil, e0, e1, e2, e3, e4, e5, e6, e7, e8, e9, e10];unfold holdP MaskEq;simp;intros;constructor
  · intro ⟨h1, h2, h3⟩;exact ⟨by omega, by omega, by omega⟩
  · intro ⟨h1, h2, h3⟩;exact ⟨by omega, by omega, by omega⟩
/-- numbers that are not too great: the links can be evaluated -/
theorem mk_ev {X : List Int} {m : Nat} (hm : m ≤ 43000) (hl : X.length = 10) (hX : ∀ x ∈ X, x.natAbs ≤ 2 ^ m) : ∀ l ∈ mkS.links, EvL X l := by
  have A : ∀ p, p ∈ [conU 10 2, mk2, varU 10 2, mk3, varU 10 1, varU 10 3, varU 10 0, varU 10 4, mk8, mk10, mk12] → nnU 10 p ∧ Fit (auv X p) := fun p hp => by
    obtain ⟨h1, h2⟩ := mkS_nn p hp;exact ⟨h1, auv_fit hX h1 h2 (by omega)⟩
  have L : ∀ (kind : Int) (ls : List (List UT)), (∀ p ∈ ls, p ∈ [conU 10 2, mk2, varU 10 2, mk3, varU 10 1, varU 10 3, varU 10 0, varU 10 4, mk8, mk10, mk12]) → EvL X (linkU 10 kind ls) := fun kind ls h =>
    evL_linkU hl (fun p hp => (A p (h p hp)).1) fun p hp => (A p (h p hp)).2
  simp only [mkS, List.forall_mem_cons];exact ⟨L 2 _ (by simp), L 2 _ (by simp), L 2 _ (by simp), L 0 _ (by simp), L 0 _ (by simp), L 0 _ (by simp), by simp⟩
end Go.AL
namespace Go.Proofs.YtcaecieigoplbaaGreat
open Go.AL
theorem holdsR_all {f g : LZ → Bool} : ∀ {ls : List LZ}, (∀ l ∈ ls, f l = true ∧ g l = true) → holdsR f g ls = (true, 0)
  | [], _ => rfl
  | l :: ls, h => by
    obtain ⟨h1, h2⟩ := h l (by simp);rw [holdsR, if_pos h1, if_pos h2];exact holdsR_all fun x hx => h x (by simp [hx])
/-- Holds, where all stands. -/
theorem Holds_yes (s : SZ) (X : List Int) (hw : WS s) (hs : OkS s) (hX : ∀ x ∈ X, Fit x) (hlen : (X.length : Int) = s.vars) (hnat : ∀ x ∈ X, 0 ≤ x) (he : ∀ l ∈ s.links, EvL X l) (hh : ∀ l ∈ s.links, HoL X l) : PureFn Tryz.prog 25 [aS s, .sl 2 eX X] (.tup [aB true, aN 0]) := by
  obtain ⟨f, hf⟩ := boolOf (EvL X);obtain ⟨g, hg⟩ := boolOf (HoL X);have := Holds_ok s X hw hs hX hlen hnat f g hf hg;rw [holdsR_all fun l hl => ⟨(hf l).2 (he l hl), (hg l).2 (hh l hl)⟩] at this;exact this
end Go.Proofs.YtcaecieigoplbaaGreat
/- The reference's links of masking. -/
namespace Go.Proofs.YtcaecieigoplbaaGreat
open Go.AL
set_option maxRecDepth 10000 in
theorem rMaskLinks_ok : PureFn Tryz.prog 17 [] (aS mkS) := by
  refine PureFn.of_body Tryz.func17 rfl Tryz.ntmps17 rfl rfl ?_;refine AWP.seqS ?_;(repeat' (first |refine Fl.nilF ?_ |refine AWP.region ?_ |refine Fl.b rfl rfl rfl rfl ?_));refine ⟨?_⟩;(repeat' (first | refine Fl.v rfl rfl rfl ?_ | refine Fl.b rfl rfl rfl rfl ?_ | refine Fl.call rfl (v12_ok (by rfl)) rfl rfl rfl (LeL.refl _) ?_ | refine Fl.call rfl (n12_ok (by rfl)) rfl rfl rfl (LeL.refl _) ?_ | refine Fl.call rfl (rFirst_ok 10 (by omega)) rfl rfl rfl (LeL.refl _) ?_ | refine Fl.call rfl (rAddK (by rfl) (by kernel_rfl) (by kernel_rfl)) rfl rfl rfl (LeL.refl _) ?_ | refine Fl.call rfl (rMulK (by rfl) (by kernel_rfl) (by kernel_rfl) (by kernel_rfl)) rfl rfl rfl (LeL.refl _) ?_ | refine Fl.call rfl (rSubK (by rfl) (by kernel_rfl) (by kernel_rfl)) rfl rfl rfl (LeL.refl _) ?_ | refine Fl.call rfl (rMakeK1 (by rfl) (by kernel_rfl)) rfl rfl rfl (LeL.refl _) ?_ | refine Fl.call rfl (rMakeK3 (by rfl) (by kernel_rfl) (by kernel_rfl) (by kernel_rfl)) rfl rfl rfl (LeL.refl _) ?_ | refine Fl.lit rfl rfl rfl rfl rfl eP [mkP 10 _] rfl rfl rfl rfl (by intro _ _; rfl) rfl ?_ | refine Fl.lit rfl rfl rfl rfl rfl eP [mkP 10 _, mkP 10 _, mkP 10 _] rfl rfl rfl rfl (by intro _ _; rfl) rfl ?_ | refine Fl.lit rfl rfl rfl rfl rfl eL [linkR 10 _ _, linkR 10 _ _, linkR 10 _ _, linkR 10 _ _, linkR 10 _ _, linkR 10 _ _] rfl rfl rfl rfl (by intro _ _; rfl) rfl ?_ | refine Fl.nilF ?_ | refine Fl.nil (fun _ => by kernel_rfl) ?_ | refine AWP.seq ?_ | refine AWP.region ?_ | refine AWP.ret ?_ | fail));refine RetOk.of rfl (AV.Le.agg (LeL.cons (AV.Le.refl _) (LeL.cons (AV.Le.sl ?_) LeL.nil)));kernel_rfl
end Go.Proofs.YtcaecieigoplbaaGreat
/- ref01.shifted. -/
namespace Go.AL
end Go.AL
namespace Go.Proofs.YtcaecieigoplbaaGreat
open Go.AL
theorem shifted_ok (A : List Int) (k : Nat) (wx : WOk A) (hxl : A.length ≤ 80000) (hk : k < 32) : PureFn Tryz.prog 109 [aW A, aN k] (aW (wdW (A.length + 1) (val A * 2 ^ k))) := by
  refine PureFn.of_body Tryz.func109 rfl Tryz.ntmps109 rfl rfl ?_;have h2 : (0 : Int) < 2 ^ k := Int.pow_pos (by omega);refine AWP.seqS ?_;(repeat' (first |refine Fl.v rfl rfl rfl ?_ |refine Fl.nilF ?_ |refine AWP.region ?_));refine ⟨AWP.seqS ?_⟩;(repeat' (first |refine Fl.v rfl rfl rfl ?_ |refine Fl.nilF ?_ |refine AWP.region ?_ |refine Fl.w rfl rfl rfl (by first | exact True.intro | omega) ?_ |refine Fl.make rfl rfl rfl rfl rfl rfl rfl rfl rfl rfl eW 0 (by exact LeL.refl _) (by rfl) (by first | omega | (dsimp only; omega)) (by first | omega | (dsimp only; omega)) (by first | omega | (dsimp only; omega)) ?_|fail));refine ⟨?_⟩;refine AWP.seqJ (G := List Int) (fun os => WOk os ∧ os.length = A.length + 1 ∧ val os = val A * 2 ^ k) (fun os => St.of [] [(5, .row 11)] [(11, .row 1 eW os 62)]) ?_ ?_
  · (repeat' (first |refine Fl.v rfl rfl rfl ?_ |refine Fl.nilF ?_ |refine AWP.seq ?_ |refine AWP.region ?_ |refine AWP.block ?_));refine AWP.loop (G := Nat × List Int × Int) (fun (i, P, c) => i ≤ A.length ∧ P.length = i ∧ WOk P ∧ 0 ≤ c ∧ c < 2 ^ k ∧ val P + BB P.length * c = BB 0 * 2 ^ k * val (A.take i))
      (fun (i, P, c) => St.of [] [(0, aW A), (1, aN k), (5, .row 11), (6, aN i)] [(11, .row 1 eW (P ++ c :: List.replicate (A.length - i) 0) 62)])
      (fun (i, P, c) => A.length - i) (0, [], 0) ⟨by omega, by simp, WOk.nil, by omega, h2, by simp [val]⟩ ?_ ?_
    · refine Ent.of [] ?_ ?_ rfl rfl;(repeat' (first |exact True.intro |refine ⟨⟨AV.Le.refl _, rfl⟩, ?_⟩ |refine ⟨⟨⟨_, rfl, BLe.row rfl⟩, rfl⟩, ?_⟩|fail))
    · intro ⟨i, P, c⟩ ⟨h0, h1, h3, h4, h5, h6⟩
      have h5' : c < 4294967296 := Int.lt_of_lt_of_le h5 (by
        have : (2 : Int) ^ k ≤ 2 ^ 32 := pow_le_r (by omega) (by omega)
        rw [show (2 : Int) ^ 32 = 4294967296 from rfl] at this; exact this)
      have hW : WOk (P ++ c :: List.replicate (A.length - i) 0) := h3.append (WOk.cons h4 h5' (WOk.zeros _));(repeat' (first |refine Fl.v rfl rfl rfl ?_ |refine Fl.nilF ?_ |refine AWP.seq ?_ |refine AWP.region ?_ |refine Fl.w rfl rfl rfl (by first | exact True.intro | omega) ?_ |(refine AWP.condD rfl ?_ ?_ <;> intro _ <;> try (exfalso; omega)) |refine AWP.block ?_ |refine AWP.skip ?_ |refine AWP.exit ?_ |(refine Fl.elW rfl rfl rfl rfl rfl rfl rfl rfl (by omega) (by omega) (by assumption) ?_; intro _ _ _ _) |refine Fl.rel rfl rfl rfl rfl rfl rfl rfl rfl (by omega) (by first | omega | (simp; omega)) ?_ |(refine Fl.rldW rfl rfl rfl rfl rfl rfl rfl (fun _ => rfl) (fun _ => rfl) (by first | omega | (simp; omega)) (by assumption) ?_; intro _ _ _ _) |refine Fl.rst rfl rfl rfl rfl rfl rfl rfl rfl rfl rfl rfl (LeL.refl _) rfl (by first | omega | (simp; omega)) ?_|fail))
      · rename_i hi y hy hy0 hy1 x hx hx0 hx1;rw [Int.toNat_natCast] at hy;rw [get_carry (by omega)] at hx;injection hx with hx;subst hx;have hb := or_carry hk h4 h5 hy0 hy1
        have hp : (2 : Int) ^ k ≤ 2147483648 := by
          have : (2 : Int) ^ k ≤ 2 ^ 31 := pow_le_r (by omega) (by omega);rw [show (2 : Int) ^ 31 = 2147483648 from rfl] at this; exact this
        obtain ⟨Y, hY⟩ : ∃ Y, Y = y * 2 ^ k := ⟨_, rfl⟩
        have hY0 : 0 ≤ Y := by rw [hY]; exact Int.mul_nonneg hy0 (by omega)
        have hY1 : Y ≤ 4294967295 * 2 ^ k := by rw [hY]; exact Int.mul_le_mul_of_nonneg_right (by omega) (by omega)
        have hY2 : Y / 4294967296 < 2 ^ k := by omega
        have hst := left_step (S := 2 ^ k) (B := BB 0) (w := c + Y % 4294967296) (c' := Y / 4294967296) hy (by rw [h1, BB_zero]; omega) h6 (by rw [← hY]; omega);rw [← hY] at hb;refine LoopEnd.of (i + 1, P ++ [c + Y % 4294967296], Y / 4294967296) ⟨by omega, by simp; omega, h3.append (WOk.cons (by omega) hb.2 WOk.nil), by omega, hY2, hst⟩ (by simp only; omega) ?_;refine Ent.of [] ?_ ?_ rfl rfl;(repeat' (first |exact True.intro |refine ⟨⟨AV.Le.refl _, rfl⟩, ?_⟩ |refine ⟨⟨⟨_, rfl, BLe.row ?_⟩, rfl⟩, ?_⟩|fail));refine set_carry (by omega) (by omega) (by omega) ?_ ?_
        · rw [show ((k : Int)).toNat = k from Int.toNat_natCast k, ← hY];rw [← hb.1, bitN_and32 (by omega), show Y % 18446744073709551616 % 4294967296 % 4294967296 = Y % 4294967296 by omega]
        · rw [show ((k : Int)).toNat = k from Int.toNat_natCast k, ← hY];rw [p32];omega
      · have hi : i = A.length := by omega
        subst hi;refine JoinOk.of (P ++ [c]) ⟨h3.append (WOk.cons h4 h5' WOk.nil), by simp; omega, ?_⟩ ?_
        · rw [val_snoc, h6, List.take_length, BB_zero, Int.one_mul, Int.mul_comm]
        · refine Ent.of [] ?_ ?_ rfl rfl;(repeat' (first |exact True.intro |refine ⟨⟨AV.Le.refl _, rfl⟩, ?_⟩ |refine ⟨⟨⟨_, rfl, BLe.row ?_⟩, rfl⟩, ?_⟩|fail));simp
  · intro os ⟨h0, h1, h3⟩;(repeat' (first |refine Fl.v rfl rfl rfl ?_ |refine Fl.nilF ?_ |refine AWP.seq ?_ |refine AWP.region ?_ |refine AWP.ret ?_));refine RetOk.ent (Ent.freeze 11 rfl) ?_;refine RetOk.of rfl ?_;rw [← h3, ← h1, ← wdW_eq h0];exact AV.Le.refl _
end Go.Proofs.YtcaecieigoplbaaGreat
/- ref01.Shift, by a number that is not negative. -/
namespace Go.Proofs.YtcaecieigoplbaaGreat
open Go.AL
theorem rShift_ok (x : Int) (d k n : Nat) (hx : 0 < x) (hxl : (toW x).length ≤ 40000) (hk : k < 32) (hd : d ≤ 30000) (hn : n = 32 * d + k) : PureFn Tryz.prog 43 [aX x, aN n] (aX (x * 2 ^ n)) := by
  refine PureFn.of_body Tryz.func43 rfl Tryz.ntmps43 rfl rfl ?_
  have ex : ((x.natAbs : Nat) : Int) = x := by omega
  have hq : (n : Int) / 32 = d := by omega
  have hl2 : (toW (x.natAbs : Int)).length ≤ 40000 := by rw [ex]; exact hxl
  have hr : (n : Int) % 32 = k := by omega
  have c1 := shifted_ok (toW x.natAbs) k (toW_ok _) (by rw [ex]; omega) hk;refine AWP.seqS ?_;(repeat' (first |refine Fl.nilF ?_ |refine AWP.region ?_ |refine Fl.b rfl rfl rfl rfl ?_));refine ⟨AWP.seqS ?_⟩;(repeat' (first |refine Fl.v rfl rfl rfl ?_ |refine Fl.nilF ?_ |refine AWP.seq ?_ |refine AWP.region ?_ |refine AWP.condT rfl ?_));refine Fl.call rfl (rZeroX_ok x) rfl rfl rfl (LeL.refl _) ?_;(repeat' (first |refine Fl.v rfl rfl rfl ?_ |refine Fl.nilF ?_ |refine AWP.seq ?_ |refine AWP.region ?_ |refine Fl.w rfl rfl rfl (by first | exact True.intro | omega) ?_ |refine Fl.w rfl rfl rfl ⟨by omega, by omega, by dsimp only [hiK]; omega⟩ ?_ |(refine AWP.condD rfl ?_ ?_ <;> intro _ <;> try (exfalso; omega)) |refine AWP.skip ?_ |refine Fl.make rfl rfl rfl rfl rfl rfl rfl rfl rfl rfl eW 0 (by exact LeL.refl _) (by rfl) (by first | omega | (dsimp only; omega)) (by first | omega | (dsimp only; omega)) (by first | omega | (dsimp only; omega)) ?_|fail));refine Fl.call rfl c1 rfl rfl rfl (LeL.cons (AV.Le.refl _) (LeL.cons (AV.Le.int hr) LeL.nil)) ?_;skip;refine Fl.ap rfl rfl rfl rfl rfl rfl rfl rfl rfl rfl rfl rfl rfl (fun _ => rfl) (fun _ => rfl) (AV.Le.refl _) (by simp only [List.length_replicate, wdW_length]; omega) (by simp only [List.length_replicate, wdW_length]; omega) ?_;skip
  have hdt : ((n : Int) / 32).toNat = d := by omega
  obtain ⟨L, hL⟩ : ∃ L, L = List.replicate ((n : Int) / 32).toNat 0 ++ wdW ((toW (x.natAbs : Int)).length + 1) (val (toW (x.natAbs : Int)) * 2 ^ k) := ⟨_, rfl⟩
  have hLw : WOk L := by rw [hL]; exact (WOk.zeros _).append (wdW_ok _ _)
  have hLl : L.length ≤ 100000 := by rw [hL]; simp only [List.length_append, List.length_replicate, wdW_length]; omega
  have hLv : sg (decide (x < 0)) (val L) = x * 2 ^ n := by
    have h2 : (0 : Int) < 2 ^ k := Int.pow_pos (by omega)
    have h3 : (2 : Int) ^ k ≤ 4294967296 := by
      have : (2 : Int) ^ k ≤ 2 ^ 32 := pow_le_r (by omega) (by omega);rw [show (2 : Int) ^ 32 = 4294967296 from rfl] at this; exact this
    have h4 := (toW_len_le (show (0 : Int) ≤ x by omega) (toW x).length).1 (Nat.le_refl _);rw [hL, hdt, val_append, val_zeros, List.length_replicate, ex, val_toW (by omega), val_wdW _ _ (Int.mul_nonneg (by omega) (by omega)) ?_, decide_eq_false (by omega), Int.zero_add, show (2 : Int) ^ n = BB d * 2 ^ k by rw [BB_pow, ← Int.pow_add]; congr 1]
    · simp only [sg, Bool.false_eq_true, if_false];grind
    · rw [BB_succ];have h5 : x * 2 ^ k ≤ x * 4294967296 := Int.mul_le_mul_of_nonneg_left h3 (by omega);omega
  rw [← hL];refine Fl.callF rfl 23 rfl (rMake_ok (decide (x < 0)) L hLw hLl) rfl rfl rfl (LeL.refl _) ?_;rw [hLv];(repeat' (first |refine Fl.nil (fun _ => by kernel_rfl) ?_ |refine Fl.b rfl rfl rfl rfl ?_ |refine AWP.ret ?_));exact RetOk.of rfl (AV.Le.refl _)
end Go.Proofs.YtcaecieigoplbaaGreat
/- ref01.short: by one word. -/
namespace Go.Proofs.YtcaecieigoplbaaGreat
open Go.AL
theorem short_ok (x b : Int) (hx : 0 ≤ x) (hxl : (toW x).length ≤ 50000) (hb : 0 < b) (hb1 : b < 4294967296) : PureFn Tryz.prog 153 [aW (toW x), .v (.int .u32 b)] (.tup [aW (wdW (toW x).length (x / b)), .v (.int .u32 (x % b))]) := by
  refine PureFn.of_body Tryz.func153 rfl Tryz.ntmps153 rfl rfl ?_;have wx := toW_ok x;have hsx := val_toW hx
  generalize toW x = A at *
  subst hsx;(repeat' (first |refine Fl.v rfl rfl rfl ?_ |refine Fl.nilF ?_ |refine AWP.seq ?_ |refine AWP.region ?_ |refine Fl.w rfl rfl rfl (by first | exact True.intro | omega) ?_ |refine AWP.block ?_ |refine Fl.make rfl rfl rfl rfl rfl rfl rfl rfl rfl rfl eW 0 (by exact LeL.refl _) (by rfl) (by first | omega | (dsimp only; omega)) (by first | omega | (dsimp only; omega)) (by first | omega | (dsimp only; omega)) ?_|fail));refine AWP.loop (G := Nat × List Int × Int) (fun (i, os, r) => os.length + i = A.length ∧ WOk os ∧ 0 ≤ r ∧ r < b ∧ val (A.drop i) = val os * b + r)
    (fun (i, os, r) => St.of [] [(0, aW A), (1, .v (.int .u32 b)), (6, .row 11), (7, aU r), (8, aN ((i : Int) - 1))] [(11, .row 1 eW (List.replicate i 0 ++ os) 62)])
    (fun (i, os, r) => i) (A.length, [], 0) ⟨by simp, WOk.nil, by omega, by omega, by simp [val]⟩ ?_ ?_
  · refine Ent.of [] ?_ ?_ rfl rfl;(repeat' (first |exact True.intro |refine ⟨⟨AV.Le.refl _, rfl⟩, ?_⟩ |refine ⟨⟨⟨_, rfl, BLe.row ?_⟩, rfl⟩, ?_⟩|fail));simp
  · intro ⟨i, os, r⟩ ⟨h0, h1, h2, h3, h4⟩;refine AWP.seqS ?_;(repeat' (first |refine Fl.v rfl rfl rfl ?_ |refine Fl.nilF ?_ |refine AWP.seq ?_ |refine AWP.region ?_ |(refine AWP.condD rfl ?_ ?_ <;> intro _ <;> try (exfalso; omega)) |refine AWP.skip ?_ |refine AWP.exit ?_ |refine AWP.ret ?_))
    · refine ⟨?_⟩;refine AWP.seq (AWP.block (AWP.seqJ (G := Int) (fun y => A[i - 1]? = some y ∧ 0 ≤ y ∧ y < 4294967296) (fun y => St.of [] [(0, aW A), (1, .v (.int .u32 b)), (6, .row 11), (7, aU (r * 4294967296 + y)), (8, aN ((i : Int) - 1))] [(11, .row 1 eW (List.replicate i 0 ++ os) 62)]) ?_ ?_))
      · (repeat' (first |refine Fl.v rfl rfl rfl ?_ |refine Fl.nilF ?_ |refine AWP.region ?_ |refine Fl.w rfl rfl rfl (by first | exact True.intro | omega) ?_ |(refine Fl.elW rfl rfl rfl rfl rfl rfl rfl rfl (by omega) (by omega) (by assumption) ?_; intro _ _ _ _) |refine Fl.sumM rfl rfl rfl rfl rfl rfl ?_));rename_i hi y hy hy0 hy1;rw [show ((i : Int) - 1).toNat = i - 1 by omega] at hy;refine JoinOk.of y ⟨hy, hy0, hy1⟩ ?_;refine Ent.of [] ?_ ?_ rfl rfl;(repeat' (first |exact True.intro |refine ⟨⟨AV.Le.refl _, rfl⟩, ?_⟩ |refine ⟨⟨⟨_, rfl, BLe.row rfl⟩, rfl⟩, ?_⟩ |refine ⟨⟨AV.Le.int ?_, rfl⟩, ?_⟩|fail));rw [show (2 : Int) ^ (32 : Int).toNat = 4294967296 from rfl];omega
      · intro y ⟨hy, hy0, hy1⟩
        have hi : 0 < i := by
          rcases Nat.eq_zero_or_pos i with h | h
          · subst h; omega
          · exact h
        obtain ⟨q, hq⟩ : ∃ q, q = (r * 4294967296 + y) / b := ⟨_, rfl⟩;obtain ⟨r', hr'⟩ : ∃ r', r' = (r * 4294967296 + y) % b := ⟨_, rfl⟩;have hw := over_word hb h2 h3 hy0 hy1;have hm0 := Int.emod_nonneg (r * 4294967296 + y) (show b ≠ 0 by omega);have hm1 := Int.emod_lt_of_pos (r * 4294967296 + y) hb;have hst := over_step (i := i - 1) hy (by rw [show i - 1 + 1 = i by omega]; exact h4);rw [← hq] at hw hst;rw [← hr'] at hm0 hm1 hst;(repeat' (first |refine Fl.v rfl rfl rfl ?_ |refine Fl.nilF ?_ |refine AWP.seq ?_ |refine AWP.region ?_ |refine Fl.w rfl rfl rfl (by first | exact True.intro | omega) ?_ |refine Fl.w rfl rfl rfl ⟨by omega, by omega, by dsimp only [hiK]; omega⟩ ?_ |refine Fl.rel rfl rfl rfl rfl rfl rfl rfl rfl (by omega) (by first | omega | (simp; omega)) ?_ |refine Fl.rst rfl rfl rfl rfl rfl rfl rfl rfl rfl rfl rfl (LeL.refl _) rfl (by first | omega | (simp; omega)) ?_|fail));refine LoopEnd.of (i - 1, q :: os, r') ⟨by simp only [List.length_cons]; omega, WOk.cons hw.1 hw.2 h1, hm0, hm1, hst⟩ (by simp only; omega) ?_;refine Ent.of [] ?_ ?_ rfl rfl;(repeat' (first |exact True.intro |refine ⟨⟨AV.Le.refl _, rfl⟩, ?_⟩ |refine ⟨⟨⟨_, rfl, BLe.row ?_⟩, rfl⟩, ?_⟩ |refine ⟨⟨AV.Le.int ?_, rfl⟩, ?_⟩|fail))
        · exact hr'.symm
        · omega
        · refine set_zeros (by omega) (by omega) ?_;rw [← hq]; omega
    · rename_i hi
      have hi0 : i = 0 := by omega
      subst hi0;rw [List.drop_zero] at h4;obtain ⟨e1, e2⟩ := over_end h4 h2 h3;skip;refine RetOk.ent (Ent.freeze 11 rfl) ?_;refine RetOk.of rfl ?_;rw [← e1, ← e2, show A.length = os.length by omega, ← wdW_eq h1];exact AV.Le.tup (LeL.cons (AV.Le.refl _) (LeL.cons (AV.Le.int (by omega)) LeL.nil))
end Go.Proofs.YtcaecieigoplbaaGreat
/- ref01.long, by several words: plain facts. -/
namespace Go.AL
theorem norm_of {w : Int} {s : Nat} (h0 : 0 < w) (h1 : 2147483648 ≤ w * 2 ^ s) (h2 : w * 2 ^ s < 4294967296) : s = 32 - lenB w.toNat := by
  obtain ⟨W, hW⟩ : ∃ W : Nat, w = W := ⟨w.toNat, by omega⟩;subst hW;rw [Int.toNat_natCast];have hl := lenB_spec (n := W) (by omega)
  have a1 : 2 ^ 31 ≤ W * 2 ^ s := by
    have : ((2 ^ 31 : Nat) : Int) ≤ ((W * 2 ^ s : Nat) : Int) := by rw [Int.natCast_mul, Int.natCast_pow]; exact h1
    exact_mod_cast this
  have a2 : W * 2 ^ s < 2 ^ 32 := by
    have : ((W * 2 ^ s : Nat) : Int) < ((2 ^ 32 : Nat) : Int) := by rw [Int.natCast_mul, Int.natCast_pow]; exact h2
    exact_mod_cast this
  have a3 : 0 < 2 ^ s := Nat.pow_pos (by omega)
  have hs : s < 32 := by
    rcases Nat.lt_or_ge s 32 with h | h
    · exact h
    · have b : 2 ^ 32 ≤ 2 ^ s := Nat.pow_le_pow_right (by omega) h;have c : 1 * 2 ^ s ≤ W * 2 ^ s := Nat.mul_le_mul_right _ (by omega);omega
  have b1 : W < 2 ^ (32 - s) := by
    have : 2 ^ (32 - s) * 2 ^ s = 2 ^ 32 := by rw [← Nat.pow_add]; congr 1; omega
    exact Nat.lt_of_mul_lt_mul_right (a := 2 ^ s) (by omega)
  have b2 : 2 ^ (31 - s) ≤ W := by
    have : 2 ^ (31 - s) * 2 ^ s = 2 ^ 31 := by rw [← Nat.pow_add]; congr 1; omega
    exact Nat.le_of_mul_le_mul_right (c := 2 ^ s) (by omega) a3
  have c1 : lenB W ≤ 32 - s := lenB_le b1;have c2 : 31 - s < lenB W := (Nat.pow_lt_pow_iff_right (a := 2) (by omega)).1 (by omega);omega
theorem norm_loop {w : Int} {s : Nat} (h0 : 0 < w) (h2 : w * 2 ^ s < 4294967296) : s < 32 := by
  rcases Nat.lt_or_ge s 32 with h | h
  · exact h
  · have b : (2 : Int) ^ 32 ≤ 2 ^ s := pow_le_r (by omega) h;have c : 1 * (2 : Int) ^ s ≤ w * 2 ^ s := Int.mul_le_mul_of_nonneg_right (by omega) (by omega);have d : (2 : Int) ^ 32 = 4294967296 := rfl;omega
theorem wdW_take : ∀ (n k : Nat) (z : Int), k ≤ n → (wdW n z).take k = wdW k z
  | n, 0, z, _ => by simp [wdW]
  | 0, k + 1, z, h => by omega
  | n + 1, k + 1, z, h => by simp only [wdW, List.take_succ_cons, wdW_take n k _ (by omega)]
theorem wdW_toW {z : Int} {n : Nat} (h0 : 0 ≤ z) (h : (toW z).length = n) : wdW n z = toW z := by
  have := wdW_eq (toW_ok z);rw [h, val_toW h0] at this;exact this.symm
/-- the last word of the subtraction of a multiple -/
theorem sub_last {lo m : List Int} {V : Int} {i : Nat} {q b y w b' : Int} (hlo : lo.length = i) (hm : m[i]? = some y) (hval : val lo = val (m.take i) - q * V + b * BB i) (hw : w + b = y + 4294967296 * b') :
    val (lo ++ [w]) = val (m.take (i + 1)) - q * V + b' * BB (i + 1) := by
  have hmi : (m.take i).length = i := by have := (List.getElem?_eq_some_iff.1 hm).1; simp; omega
  have t1 : m.take (i + 1) = m.take i ++ [y] := by rw [List.take_add_one, hm]; rfl
  rw [val_snoc, t1, val_snoc, hmi, hlo, hval, BB_succ]
  have : w = y + 4294967296 * b' - b := by omega
  rw [this];grind
/-- the last word of an addition -/
theorem add_last {lo m : List Int} {V : Int} {i : Nat} {c y w c' : Int} (hlo : lo.length = i) (hm : m[i]? = some y) (hval : val lo + c * BB i = val (m.take i) + V) (hw : w + 4294967296 * c' = y + c) :
    val (lo ++ [w]) + c' * BB (i + 1) = val (m.take (i + 1)) + V := by
  have hmi : (m.take i).length = i := by have := (List.getElem?_eq_some_iff.1 hm).1; simp; omega
  have t1 : m.take (i + 1) = m.take i ++ [y] := by rw [List.take_add_one, hm]; rfl
  rw [val_snoc, t1, val_snoc, hmi, hlo, BB_succ]
  have : w = y + c - 4294967296 * c' := by omega
  rw [this];grind
theorem add_carry {h t c B : Int} (hB : 0 < B) (e : h + c * B = B + t) (h0 : 0 ≤ h) (h1 : h < B) (t0 : 0 ≤ t) (t1 : t < B) : h = t := by
  have hc : c = 1 := by
    rcases Int.lt_trichotomy c 1 with k | k | k
    · have : c * B ≤ 0 * B := Int.mul_le_mul_of_nonneg_right (by omega) (by omega);omega
    · exact k
    · have : 2 * B ≤ c * B := Int.mul_le_mul_of_nonneg_right (by omega) (by omega);omega
  rw [hc] at e; omega
end Go.AL
/- ref01.Shift to the right, of a number that is not negative. -/
namespace Go.AL
theorem dropc {α : Type} {l : List α} {i : Nat} {x : α} (h : l[i]? = some x) : l.drop i = x :: l.drop (i + 1) := by
  have hi := List.getElem?_eq_some_iff.1 h;rw [List.drop_eq_getElem_cons hi.1, hi.2]
end Go.AL
namespace Go.Proofs.YtcaecieigoplbaaGreat
open Go.AL

theorem shiftedRow_ok (A : List Int) (k : Nat) (wx : WOk A) (hxl : A.length ≤ 80000) (hk : k < 32) : IoFn Tryz.prog 109 [aW A, aN k] [] (.ret (.row 900)) [(900, .row 1 eW (wdW (A.length + 1) (val A * 2 ^ k)) 62)] := by
  refine IoFn.of_body Tryz.func109 rfl Tryz.ntmps109 rfl rfl rfl ?_;have h2 : (0 : Int) < 2 ^ k := Int.pow_pos (by omega);refine AWP.seqS ?_;(repeat' (first |refine Fl.v rfl rfl rfl ?_ |refine Fl.nilF ?_ |refine AWP.region ?_));refine ⟨AWP.seqS ?_⟩;(repeat' (first |refine Fl.v rfl rfl rfl ?_ |refine Fl.nilF ?_ |refine AWP.region ?_ |refine Fl.w rfl rfl rfl (by first | exact True.intro | omega) ?_ |refine Fl.make rfl rfl rfl rfl rfl rfl rfl rfl rfl rfl eW 0 (by exact LeL.refl _) (by rfl) (by first | omega | (dsimp only; omega)) (by first | omega | (dsimp only; omega)) (by first | omega | (dsimp only; omega)) ?_|fail));refine ⟨?_⟩;refine AWP.seqJ (G := List Int) (fun os => WOk os ∧ os.length = A.length + 1 ∧ val os = val A * 2 ^ k) (fun os => St.of [] [(5, .row 11)] [(11, .row 1 eW os 62)]) ?_ ?_
  · (repeat' (first |refine Fl.v rfl rfl rfl ?_ |refine Fl.nilF ?_ |refine AWP.seq ?_ |refine AWP.region ?_ |refine AWP.block ?_));refine AWP.loop (G := Nat × List Int × Int) (fun (i, P, c) => i ≤ A.length ∧ P.length = i ∧ WOk P ∧ 0 ≤ c ∧ c < 2 ^ k ∧ val P + BB P.length * c = BB 0 * 2 ^ k * val (A.take i))
      (fun (i, P, c) => St.of [] [(0, aW A), (1, aN k), (5, .row 11), (6, aN i)] [(11, .row 1 eW (P ++ c :: List.replicate (A.length - i) 0) 62)])
      (fun (i, P, c) => A.length - i) (0, [], 0) ⟨by omega, by simp, WOk.nil, by omega, h2, by simp [val]⟩ ?_ ?_
    · refine Ent.of [] ?_ ?_ rfl rfl;(repeat' (first |exact True.intro |refine ⟨⟨AV.Le.refl _, rfl⟩, ?_⟩ |refine ⟨⟨⟨_, rfl, BLe.row rfl⟩, rfl⟩, ?_⟩|fail))
    · intro ⟨i, P, c⟩ ⟨h0, h1, h3, h4, h5, h6⟩
      have h5' : c < 4294967296 := Int.lt_of_lt_of_le h5 (by
        have : (2 : Int) ^ k ≤ 2 ^ 32 := pow_le_r (by omega) (by omega)
        rw [show (2 : Int) ^ 32 = 4294967296 from rfl] at this; exact this)
      have hW : WOk (P ++ c :: List.replicate (A.length - i) 0) := h3.append (WOk.cons h4 h5' (WOk.zeros _));(repeat' (first |refine Fl.v rfl rfl rfl ?_ |refine Fl.nilF ?_ |refine AWP.seq ?_ |refine AWP.region ?_ |refine Fl.w rfl rfl rfl (by first | exact True.intro | omega) ?_ |(refine AWP.condD rfl ?_ ?_ <;> intro _ <;> try (exfalso; omega)) |refine AWP.block ?_ |refine AWP.skip ?_ |refine AWP.exit ?_ |(refine Fl.elW rfl rfl rfl rfl rfl rfl rfl rfl (by omega) (by omega) (by assumption) ?_; intro _ _ _ _) |refine Fl.rel rfl rfl rfl rfl rfl rfl rfl rfl (by omega) (by first | omega | (simp; omega)) ?_ |(refine Fl.rldW rfl rfl rfl rfl rfl rfl rfl (fun _ => rfl) (fun _ => rfl) (by first | omega | (simp; omega)) (by assumption) ?_; intro _ _ _ _) |refine Fl.rst rfl rfl rfl rfl rfl rfl rfl rfl rfl rfl rfl (LeL.refl _) rfl (by first | omega | (simp; omega)) ?_|fail))
      · rename_i hi y hy hy0 hy1 x hx hx0 hx1;rw [Int.toNat_natCast] at hy;rw [get_carry (by omega)] at hx;injection hx with hx;subst hx;have hb := or_carry hk h4 h5 hy0 hy1
        have hp : (2 : Int) ^ k ≤ 2147483648 := by
          have : (2 : Int) ^ k ≤ 2 ^ 31 := pow_le_r (by omega) (by omega);rw [show (2 : Int) ^ 31 = 2147483648 from rfl] at this; exact this
        obtain ⟨Y, hY⟩ : ∃ Y, Y = y * 2 ^ k := ⟨_, rfl⟩
        have hY0 : 0 ≤ Y := by rw [hY]; exact Int.mul_nonneg hy0 (by omega)
        have hY1 : Y ≤ 4294967295 * 2 ^ k := by rw [hY]; exact Int.mul_le_mul_of_nonneg_right (by omega) (by omega)
        have hY2 : Y / 4294967296 < 2 ^ k := by omega
        have hst := left_step (S := 2 ^ k) (B := BB 0) (w := c + Y % 4294967296) (c' := Y / 4294967296) hy (by rw [h1, BB_zero]; omega) h6 (by rw [← hY]; omega);rw [← hY] at hb;refine LoopEnd.of (i + 1, P ++ [c + Y % 4294967296], Y / 4294967296) ⟨by omega, by simp; omega, h3.append (WOk.cons (by omega) hb.2 WOk.nil), by omega, hY2, hst⟩ (by simp only; omega) ?_;refine Ent.of [] ?_ ?_ rfl rfl;(repeat' (first |exact True.intro |refine ⟨⟨AV.Le.refl _, rfl⟩, ?_⟩ |refine ⟨⟨⟨_, rfl, BLe.row ?_⟩, rfl⟩, ?_⟩|fail));refine set_carry (by omega) (by omega) (by omega) ?_ ?_
        · rw [show ((k : Int)).toNat = k from Int.toNat_natCast k, ← hY];rw [← hb.1, bitN_and32 (by omega), show Y % 18446744073709551616 % 4294967296 % 4294967296 = Y % 4294967296 by omega]
        · rw [show ((k : Int)).toNat = k from Int.toNat_natCast k, ← hY];rw [p32];omega
      · have hi : i = A.length := by omega
        subst hi;refine JoinOk.of (P ++ [c]) ⟨h3.append (WOk.cons h4 h5' WOk.nil), by simp; omega, ?_⟩ ?_
        · rw [val_snoc, h6, List.take_length, BB_zero, Int.one_mul, Int.mul_comm]
        · refine Ent.of [] ?_ ?_ rfl rfl;(repeat' (first |exact True.intro |refine ⟨⟨AV.Le.refl _, rfl⟩, ?_⟩ |refine ⟨⟨⟨_, rfl, BLe.row ?_⟩, rfl⟩, ?_⟩|fail));simp
  · intro os ⟨h0, h1, h3⟩;(repeat' (first |refine Fl.v rfl rfl rfl ?_ |refine Fl.nilF ?_ |refine AWP.seq ?_ |refine AWP.region ?_ |refine AWP.ret ?_));refine ⟨⟨[(900, 11)], _, _, Ent.refl _ _ _, rfl, AV.Le.refl _, rfl, ⟨⟨⟨_, rfl, BLe.row ?_⟩, rfl⟩, trivial⟩, rfl, rfl⟩⟩;rw [← h3, ← h1, ← wdW_eq h0]

theorem rShift0_ok (n : Nat) (hn : n ≤ 4294967296) : PureFn Tryz.prog 43 [aX 0, aN n] (aX 0) := by
  refine PureFn.of_body Tryz.func43 rfl Tryz.ntmps43 rfl rfl ?_;(repeat' (first |refine Fl.v rfl rfl rfl ?_ |refine Fl.nilF ?_ |refine AWP.seq ?_ |refine AWP.region ?_ |refine Fl.b rfl rfl rfl rfl ?_ |refine AWP.condT rfl ?_));refine Fl.call rfl (rZeroX_ok 0) rfl rfl rfl (LeL.refl _) ?_;(repeat' (first |refine Fl.v rfl rfl rfl ?_ |refine Fl.nilF ?_ |refine AWP.seq ?_ |refine AWP.region ?_ |refine Fl.b rfl rfl rfl rfl ?_ |refine AWP.condT rfl ?_ |refine AWP.ret ?_));exact RetOk.of rfl (AV.Le.refl _)

theorem rShiftR_ok (x : Int) (k : Nat) (hx : 0 ≤ x) (hxl : (toW x).length ≤ 40000) (hk : k < 32) : PureFn Tryz.prog 43 [aX x, aN (-(k : Int))] (aX (x / 2 ^ k)) := by
  rcases Nat.eq_zero_or_pos k with hk0 | hk0
  · subst hk0;rw [Int.pow_zero, Int.ediv_one];rcases Int.lt_or_eq_of_le hx with h | h
    · have := rShift_ok x 0 0 0 h hxl (by omega) (by omega) rfl;rw [Int.pow_zero, Int.mul_one] at this;exact this
    · subst h;exact rShift0_ok 0 (by omega)
  refine PureFn.of_body Tryz.func43 rfl Tryz.ntmps43 rfl rfl ?_
  have ex : ((x.natAbs : Nat) : Int) = x := by omega
  have wx := toW_ok x;have hsx := val_toW hx;have hneg : decide (x < 0) = false := decide_eq_false (by omega);have h2 : (0 : Int) < 2 ^ k := Int.pow_pos (by omega)
  have eZ : aX x = .agg [aB false, aW (toW x)] := by
    show AV.agg [aB (decide (x < 0)), aW (toW (x.natAbs : Int))] = _;rw [hneg, ex]
  rw [eZ];have hz : (toW x).length = 0 → x = 0 := fun h => (toW_nil_iff hx).1 (List.eq_nil_of_length_eq_zero h)
  generalize hAe : toW x = A at *
  refine AWP.seqS ?_;(repeat' (first |refine Fl.nilF ?_ |refine AWP.region ?_ |refine Fl.b rfl rfl rfl rfl ?_));refine ⟨AWP.seqS ?_⟩;(repeat' (first |refine Fl.v rfl rfl rfl ?_ |refine Fl.nilF ?_ |refine AWP.seq ?_ |refine AWP.region ?_ |(refine AWP.condD rfl ?_ ?_ <;> intro _ <;> try (exfalso; omega)) |refine AWP.skip ?_));refine ⟨?_⟩;refine AWP.seqJ (G := Int) (fun j => (A.length = 0 ∧ j = -1) ∨ (A.length ≠ 0 ∧ j = -(k : Int))) (fun j => St.of [] [(2, .ptr 2 0), (4, .ptr 4 0), (1, aN j)] [(2, .cells [aB false, aW A] 35), (4, .cells [aB false, .v (.slice none 0 0)] 35)]) ?_ ?_
  · (repeat' (first |refine Fl.v rfl rfl rfl ?_ |refine Fl.nilF ?_ |refine AWP.seq ?_ |refine AWP.region ?_ |refine Fl.w rfl rfl rfl (by first | exact True.intro | omega) ?_ |(refine AWP.condD rfl ?_ ?_ <;> intro _ <;> try (exfalso; omega)) |refine AWP.skip ?_))
    · refine JoinOk.of (-1) (.inl ⟨by omega, rfl⟩) ?_;refine Ent.of [] ?_ ?_ rfl rfl;(repeat' (first |exact True.intro |refine ⟨⟨AV.Le.refl _, rfl⟩, ?_⟩ |refine ⟨⟨⟨_, rfl, BLe.cells (LeL.refl _)⟩, rfl⟩, ?_⟩ |refine ⟨⟨AV.Le.int ?_, rfl⟩, ?_⟩|fail));omega
    · refine JoinOk.of (-(k : Int)) (.inr ⟨by omega, rfl⟩) ?_;refine Ent.of [] ?_ ?_ rfl rfl;(repeat' (first |exact True.intro |refine ⟨⟨AV.Le.refl _, rfl⟩, ?_⟩ |refine ⟨⟨⟨_, rfl, BLe.cells (LeL.refl _)⟩, rfl⟩, ?_⟩|fail))
  intro j hj;rcases hj with ⟨hl, hj⟩ | ⟨hl, hj⟩
  · subst hj;have hx0 := hz hl;(repeat' (first |refine Fl.v rfl rfl rfl ?_ |refine Fl.nilF ?_ |refine Fl.nil (fun _ => by kernel_rfl) ?_ |refine AWP.seq ?_ |refine AWP.region ?_ |refine Fl.w rfl rfl rfl (by first | exact True.intro | omega) ?_ |refine Fl.w rfl rfl rfl ⟨by omega, by omega, by dsimp only [hiK]; omega⟩ ?_ |refine Fl.b rfl rfl rfl rfl ?_ |refine Fl.skip rfl rfl ?_ |refine AWP.condF rfl ?_ |(refine AWP.condD rfl ?_ ?_ <;> intro _ <;> try (exfalso; omega)) |refine AWP.skip ?_ |refine AWP.ret ?_));refine RetOk.of rfl ?_;rw [hx0, Int.zero_ediv];show AV.Le _ (.agg [aB (decide ((0 : Int) < 0)), aW (toW (((0 : Int).natAbs : Nat) : Int))]);rw [show (((0 : Int).natAbs : Nat) : Int) = 0 from rfl, toW_zero];exact AV.Le.agg (LeL.cons (AV.Le.refl _) (LeL.cons (AV.Le.nil 1 eW) LeL.nil))
  subst hj
  have hrow : wdW ((A.drop ((k : Int) / 32).toNat).length + 1) (val (A.drop ((k : Int) / 32).toNat) * 2 ^ 0) = A ++ [0] := by
    rw [show ((k : Int) / 32).toNat = 0 by omega, List.drop_zero, Int.pow_zero, Int.mul_one, wdW_snoc0 A.length (val A) (val_nonneg wx) (val_lt wx), ← wdW_eq wx]
  have hd32 : ((k : Int) / 32).toNat = 0 := by omega
  have hm32 : (k : Int) % 32 = k := by omega
  refine AWP.seqS ?_;(repeat' (first |refine Fl.v rfl rfl rfl ?_ |refine Fl.nilF ?_ |refine AWP.region ?_ |refine Fl.w rfl rfl rfl (by first | exact True.intro | omega) ?_|fail));refine ⟨AWP.seqS ?_⟩;(repeat' (first |refine Fl.nilF ?_ |refine AWP.region ?_ |refine Fl.b rfl rfl rfl rfl ?_));refine ⟨?_⟩;refine AWP.seqJ (G := Unit) (fun _ => True) (fun _ => St.of [] [(2, .ptr 2 0), (4, .ptr 4 0), (5, .ptr 5 0)] [(2, .cells [aB false, aW A] 35), (4, .cells [aB false, .v (.slice none 0 0)] 35), (5, .cells [aB false, aW (toW (x / 2 ^ k))] 35)]) ?_ ?_
  · (repeat' (first |refine Fl.v rfl rfl rfl ?_ |refine Fl.nilF ?_ |refine AWP.seq ?_ |refine AWP.region ?_ |refine Fl.w rfl rfl rfl (by first | exact True.intro | omega) ?_ |refine Fl.w rfl rfl rfl ⟨by omega, by omega, by dsimp only [hiK]; omega⟩ ?_ |(refine AWP.condD rfl ?_ ?_ <;> intro _ <;> try (exfalso; omega))));refine Fl.io rfl [(900, 50)] (shiftedRow_ok (A.drop ((k : Int) / 32).toNat) 0 (wx.drop _) (by rw [List.length_drop]; omega) (by omega)) rfl rfl (LeL.cons (AV.Le.sl (by rw [hd32]; congr 1; omega)) (LeL.refl _)) rfl trivial rfl rfl rfl rfl rfl ?_;(repeat' (first |refine Fl.v rfl rfl rfl ?_ |refine Fl.nilF ?_ |refine Fl.b rfl rfl rfl rfl ?_ |refine AWP.condT rfl ?_ |refine AWP.condF rfl ?_ |refine AWP.skip ?_ |fail));refine AWP.seqJ (G := List Int) (fun os => os.length = A.length ∧ WOk os ∧ val os = x / 2 ^ k) (fun os => St.of [] [(2, .ptr 2 0), (4, .ptr 4 0), (5, .ptr 5 0), (6, .row 50)] [(2, .cells [aB false, aW A] 35), (4, .cells [aB false, .v (.slice none 0 0)] 35), (5, .cells [aB false, .v (.slice none 0 0)] 35), (50, .row 1 eW (os ++ [0]) 62)]) ?_ ?_
    · (repeat' (first |refine Fl.v rfl rfl rfl ?_ |refine Fl.nilF ?_ |refine AWP.seq ?_ |refine AWP.region ?_ |refine AWP.block ?_));refine AWP.loop (G := Nat × List Int) (fun (i, os) => i ≤ A.length ∧ os.length = i ∧ WOk os ∧ val os = val A / 2 ^ k % BB i)
        (fun (i, os) => St.of [] [(1, aN k), (2, .ptr 2 0), (4, .ptr 4 0), (5, .ptr 5 0), (6, .row 50), (7, aN i)] [(2, .cells [aB false, aW A] 35), (4, .cells [aB false, .v (.slice none 0 0)] 35), (5, .cells [aB false, .v (.slice none 0 0)] 35), (50, .row 1 eW (os ++ (A.drop i ++ [0])) 62)])
        (fun (i, os) => A.length - i) (0, []) ⟨by omega, rfl, WOk.nil, by simp [val, BB_zero]⟩ ?_ ?_
      · refine Ent.of [] ?_ ?_ rfl rfl;(repeat' (first |exact True.intro |refine ⟨⟨AV.Le.refl _, rfl⟩, ?_⟩ |refine ⟨⟨⟨_, rfl, BLe.cells (LeL.refl _)⟩, rfl⟩, ?_⟩ |refine ⟨⟨⟨_, rfl, BLe.row ?_⟩, rfl⟩, ?_⟩ |refine ⟨⟨AV.Le.int ?_, rfl⟩, ?_⟩|fail))
        · omega
        · rw [hrow, List.nil_append, List.drop_zero]
      · intro ⟨i, os⟩ ⟨h0, h1, h3, h4⟩;have hW : WOk (os ++ (A.drop i ++ [0])) := h3.append ((wx.drop _).append (WOk.zeros 1))
        have hWl : (os ++ (A.drop i ++ [0])).length = A.length + 1 := by simp; omega
        (repeat' (first |refine Fl.v rfl rfl rfl ?_ |refine Fl.nilF ?_ |refine AWP.seq ?_ |refine AWP.region ?_ |refine Fl.w rfl rfl rfl (by first | exact True.intro | omega) ?_ |(refine AWP.condD rfl ?_ ?_ <;> intro _ <;> try (exfalso; omega)) |refine AWP.block ?_ |refine AWP.skip ?_ |refine AWP.exit ?_ |refine Fl.rel rfl rfl rfl rfl rfl rfl rfl rfl (by omega) (by first | omega | (simp; omega)) ?_ |(refine Fl.rldW rfl rfl rfl rfl rfl rfl rfl (fun _ => rfl) (fun _ => rfl) (by first | omega | (simp; omega)) (by assumption) ?_; intro _ _ _ _) |refine Fl.sumM rfl rfl rfl rfl rfl rfl ?_))
        · rename_i hlt x1 hx1 hx10 hx11 y1 hy1 hy10 hy11
          have hi : i < A.length := by rw [hWl] at hlt; omega
          rw [Int.toNat_natCast, ← h1, List.getElem?_append_right (by omega), Nat.sub_self, h1, List.getElem?_append_left (by rw [List.length_drop]; omega), List.getElem?_drop, Nat.add_zero] at hx1
          have hy' : A[i + 1]? = some y1 ∨ (A.length ≤ i + 1 ∧ y1 = 0) := by
            rw [show ((i : Int) + 1).toNat = i + 1 by omega, List.getElem?_append_right (by omega), h1, show i + 1 - i = 1 by omega] at hy1;rcases Nat.lt_or_ge (i + 1) A.length with h | h
            · rw [List.getElem?_append_left (by rw [List.length_drop]; omega), List.getElem?_drop] at hy1;exact .inl hy1
            · rw [List.getElem?_append_right (by rw [List.length_drop]; omega), List.length_drop, show 1 - (A.length - i) = 0 by omega] at hy1;injection hy1 with hy1;exact .inr ⟨h, hy1.symm⟩
          have hst := right_next hk wx h1 h4 hi hx1 hy';refine Fl.w rfl rfl rfl ⟨Int.ediv_nonneg (by omega) (Int.le_of_lt (Int.pow_pos (by omega))), Int.le_trans (Int.ediv_le_self _ (by omega)) (by omega), by omega, by omega⟩ ?_;(repeat' (first |refine Fl.v rfl rfl rfl ?_ |refine Fl.nilF ?_ |refine Fl.nil (fun _ => by kernel_rfl) ?_ |refine AWP.region ?_ |refine Fl.w rfl rfl rfl (by first | exact True.intro | omega) ?_ |refine Fl.rel rfl rfl rfl rfl rfl rfl rfl rfl (by omega) (by first | omega | (simp; omega)) ?_ |refine Fl.rst rfl rfl rfl rfl rfl rfl rfl rfl rfl rfl rfl (LeL.refl _) rfl (by first | omega | (simp; omega)) ?_|fail));refine LoopEnd.of (i + 1, os ++ [(x1 + 4294967296 * y1) / 2 ^ k % 4294967296]) ⟨by omega, by simp; omega, h3.append (WOk.cons (by omega) (by omega) WOk.nil), hst⟩ (by simp only; omega) ?_;refine Ent.of [] ?_ ?_ rfl rfl;(repeat' (first |exact True.intro |refine ⟨⟨AV.Le.refl _, rfl⟩, ?_⟩ |refine ⟨⟨⟨_, rfl, BLe.cells (LeL.refl _)⟩, rfl⟩, ?_⟩ |refine ⟨⟨⟨_, rfl, BLe.row ?_⟩, rfl⟩, ?_⟩|fail));rw [Int.toNat_natCast, hm32, Int.toNat_natCast, p32, show (x1 + y1 * 4294967296 % 18446744073709551616) % 18446744073709551616 = x1 + 4294967296 * y1 by omega];have hqn : 0 ≤ (x1 + 4294967296 * y1) / 2 ^ k := Int.ediv_nonneg (by omega) (by omega);rw [bitN_and32 hqn, Int.emod_emod_of_dvd _ (Int.dvd_refl _), List.set_append_right _ _ (by omega), show i - os.length = 0 by omega, dropc hx1, List.cons_append, List.set_cons_zero, List.append_assoc];rfl
        · rename_i hlt
          have hi : i = A.length := by rw [hWl] at hlt; omega
          refine JoinOk.of os ⟨by omega, h3, ?_⟩ ?_
          · rw [h4, hi, hsx];refine Int.emod_eq_of_lt (Int.ediv_nonneg hx (by omega)) ?_;have := val_lt wx;rw [hsx] at this;exact Int.lt_of_le_of_lt (Int.ediv_le_self _ hx) this
          · refine Ent.of [] ?_ ?_ rfl rfl;(repeat' (first |exact True.intro |refine ⟨⟨AV.Le.refl _, rfl⟩, ?_⟩ |refine ⟨⟨⟨_, rfl, BLe.cells (LeL.refl _)⟩, rfl⟩, ?_⟩ |refine ⟨⟨⟨_, rfl, BLe.row ?_⟩, rfl⟩, ?_⟩|fail));rw [hi, List.drop_of_length_le (Nat.le_refl _), List.nil_append]
    · intro os ⟨h0, h1, h3⟩;have hmk := rMake_ok false (os ++ [0]) (h1.append (WOk.zeros 1)) (by simp; omega);rw [val_snoc, Int.mul_zero, Int.add_zero, h3] at hmk;(repeat' (first |refine Fl.v rfl rfl rfl ?_ |refine AWP.region ?_));refine Fl.callF rfl 50 rfl hmk rfl rfl rfl (LeL.refl _) ?_;(repeat' (first |refine Fl.nilF ?_ |refine Fl.b rfl rfl rfl rfl ?_));refine JoinOk.of () trivial ?_;refine Ent.of [] ?_ ?_ rfl rfl;(repeat' (first |exact True.intro |refine ⟨⟨AV.Le.refl _, rfl⟩, ?_⟩ |refine ⟨⟨⟨_, rfl, BLe.cells (LeL.refl _)⟩, rfl⟩, ?_⟩ |refine ⟨⟨⟨_, rfl, BLe.cells ?_⟩, rfl⟩, ?_⟩|fail));have hq := Int.ediv_nonneg hx (show (0 : Int) ≤ 2 ^ k by omega);rw [show sg false (x / 2 ^ k) = x / 2 ^ k by simp [sg], decide_eq_false (show ¬ x / 2 ^ k < 0 by omega), show ((x / 2 ^ k).natAbs : Int) = x / 2 ^ k by omega];exact LeL.refl _
  intro _ _;(repeat' (first |refine Fl.v rfl rfl rfl ?_ |refine Fl.nilF ?_ |refine Fl.nil (fun _ => by kernel_rfl) ?_ |refine AWP.seq ?_ |refine AWP.region ?_ |refine Fl.b rfl rfl rfl rfl ?_ |refine Fl.skip rfl rfl ?_ |refine AWP.condF rfl ?_ |refine AWP.skip ?_ |refine AWP.ret ?_));refine RetOk.of rfl ?_;show AV.Le _ (.agg [aB (decide (x / 2 ^ k < 0)), aW (toW ((x / 2 ^ k).natAbs : Int))]);have hq := Int.ediv_nonneg hx (show (0 : Int) ≤ 2 ^ k by omega);rw [decide_eq_false (by omega), show ((x / 2 ^ k).natAbs : Int) = x / 2 ^ k by omega];exact AV.Le.refl _
end Go.Proofs.YtcaecieigoplbaaGreat

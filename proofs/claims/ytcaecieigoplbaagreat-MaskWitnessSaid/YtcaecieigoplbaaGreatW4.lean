/- Part 4 of a proof layer and of the contracts of the functions (XE8 XE9 XF0 XF1 XF2 XF3 XG0 XG1 XG2 XG3 XG4 XG5 XG6 XG7 XG8 XH0 XH1 XRT XK0 XK1 XK2 XK3 XXS XN2 XP0 XP1 XP2 XP3 XP4 XP5 XP6 XP7 XP8). -/
import Derived.ProofKit
import Derived.OpenShut
import Derived.Carry
import Derived.ChangeSame
import Derived.ReadAgain
import Derived.Test.YtcaecieigoplbaaGreatRows
import Derived.Shelf.SlSortCmp.WholeK
import Derived.Test.YtcaecieigoplbaaGreatProg
import Derived.Maps.RangeRun
import Derived.Shelf.SlSortCmp.NoneTotal
import Derived.ChangeKeysEq
import Derived.Test.YtcaecieigoplbaaGreatW3
set_option linter.unusedVariables false
set_option linter.unusedSimpArgs false
namespace Go.AL
/-- the last element, or another number -/
def lastI (d : Int) : List Int → Int
  | [] => d
  | x :: l => lastI x l
theorem incB_drop {last top : Int} : ∀ {l : List Int} {i : Nat} {v : Int}, l[i]? = some v → (incB (lastI last (l.take i)) top (l.drop i) ↔ lastI last (l.take i) < v ∧ v < top ∧ incB (lastI last (l.take (i + 1))) top (l.drop (i + 1)))
  | [], _, _, h => by simp at h
  | x :: l, 0, v, h => by simp at h; subst h; simp [lastI, incB]
  | x :: l, i + 1, v, h => by
    simp only [List.take_succ_cons, List.drop_succ_cons, lastI];exact incB_drop (last := x) (by simpa using h)
theorem lastI_snoc {d : Int} : ∀ {l : List Int} {i : Nat} {v : Int}, l[i]? = some v → lastI d (l.take (i + 1)) = v
  | [], _, _, h => by simp at h
  | x :: l, 0, v, h => by simp at h; subst h; simp [lastI]
  | x :: l, i + 1, v, h => by
    simp only [List.take_succ_cons, lastI];exact lastI_snoc (d := x) (by simpa using h)
end Go.AL
namespace Go.Proofs.YtcaecieigoplbaaGreat
open Go.AL

set_option maxHeartbeats 1000000 in
theorem link_ok (l : LZ) (vars : Int) (hw : WL l) (f : PZ → Bool) (hf : ∀ p ∈ l.polys, f p = true ↔ p.vars = l.vars.length ∧ OkP p) (b : Bool) (hb : b = true ↔ OkL vars l) : PureFn Tryz.prog 157 [aL l, aN vars] (aB b) := by
  refine PureFn.of_body Tryz.func157 rfl Tryz.ntmps157 rfl rfl ?_
  have hfalse : ¬ OkL vars l → false = b := fun h => by cases b with | false => rfl | true => exact absurd (hb.1 rfl) h
  have hn3 : needI l.kind ≤ 3 ∧ 0 ≤ needI l.kind := by unfold needI; repeat' split <;> omega
  (repeat' (first |refine Fl.v rfl rfl rfl ?_ |refine Fl.nilF ?_ |refine AWP.seq ?_ |refine AWP.region ?_ |refine Fl.b rfl rfl rfl rfl ?_));refine Fl.call rfl (needs_ok l.kind) rfl rfl rfl (LeL.refl _) ?_;(repeat' (first |refine Fl.v rfl rfl rfl ?_ |refine Fl.nilF ?_ |refine Fl.nil (fun _ => by kernel_rfl) ?_ |refine AWP.seq ?_ |refine AWP.region ?_ |refine Fl.skip rfl rfl ?_ |refine AWP.condT rfl ?_ |refine AWP.ret ?_ |(refine Fl.splitD rfl rfl ?_ ?_ <;> intro _ <;> try (exfalso; omega))))
  · rename_i h; exact RetOk.of rfl (AV.Le.bool (hfalse fun k => k.kind h))
  refine Fl.call rfl (needs_ok l.kind) rfl rfl rfl (LeL.refl _) ?_;(repeat' (first |refine Fl.v rfl rfl rfl ?_ |refine Fl.nilF ?_ |refine Fl.nil (fun _ => by kernel_rfl) ?_ |refine AWP.seq ?_ |refine AWP.region ?_ |refine Fl.skip rfl rfl ?_ |refine AWP.condT rfl ?_ |(refine AWP.condD rfl ?_ ?_ <;> intro _ <;> try (exfalso; omega)) |refine AWP.block ?_ |refine AWP.skip ?_ |refine AWP.ret ?_ |(refine Fl.splitN rfl rfl ?_ ?_ <;> intro _ <;> try (exfalso; omega))))
  · rename_i h; exact RetOk.of rfl (AV.Le.bool (hfalse fun k => h k.len))
  · rename_i h; exact RetOk.of rfl (AV.Le.bool (hfalse fun k => by have := k.vlen; omega))
  rename_i hk hlen hvl;refine AWP.loop (G := Nat) (fun i => i ≤ l.vars.length ∧ (incB (lastI (-1) (l.vars.take i)) vars (l.vars.drop i) ↔ incB (-1) vars l.vars)) (fun i => St.of [] [(1, aN vars), (2, .ptr 2 0), (5, aN (lastI (-1) (l.vars.take i))), (28, aI l.vars), (29, aN l.vars.length), (30, aN i)] [(2, .cells (eL l) 82)]) (fun i => l.vars.length - i) 0 ⟨by omega, by simp [lastI]⟩ ?_ ?_
  · refine Ent.of [] ?_ ?_ rfl rfl;(repeat' (first |exact True.intro |refine ⟨⟨AV.Le.refl _, rfl⟩, ?_⟩ |refine ⟨⟨⟨_, rfl, BLe.cells (LeL.refl _)⟩, rfl⟩, ?_⟩|fail))
  · intro i ⟨k0, k1⟩;(repeat' (first |refine Fl.v rfl rfl rfl ?_ |refine Fl.nilF ?_ |refine AWP.seq ?_ |refine AWP.region ?_ |refine Fl.w rfl rfl rfl (by first | exact True.intro | omega) ?_ |refine Fl.skip rfl rfl ?_ |refine AWP.condT rfl ?_ |(refine AWP.condD rfl ?_ ?_ <;> intro _ <;> try (exfalso; omega)) |refine AWP.block ?_ |refine AWP.skip ?_ |refine AWP.exit ?_ |refine AWP.ret ?_ |(refine Fl.el rfl rfl rfl rfl rfl rfl rfl rfl (by omega) (by omega) ?_; intro _ _) |(refine Fl.splitD rfl rfl ?_ ?_ <;> intro _ <;> try (exfalso; omega))))
    · rename_i hi v hv h1;rw [Int.toNat_natCast] at hv;rw [incB_drop hv] at k1;refine RetOk.of rfl (AV.Le.bool (hfalse fun k => ?_));have := k1.2 k.inc;omega
    · rename_i hi v hv h1 h2;rw [Int.toNat_natCast] at hv;rw [incB_drop hv] at k1;refine RetOk.of rfl (AV.Le.bool (hfalse fun k => ?_));have := k1.2 k.inc;omega
    · rename_i hi v hv h1 h2;rw [Int.toNat_natCast] at hv;rw [incB_drop hv] at k1;refine LoopEnd.of (i + 1) ⟨by omega, ?_⟩ (by omega) ?_
      · rw [← k1];exact ⟨fun h => ⟨by omega, by omega, h⟩, fun h => h.2.2⟩
      · refine Ent.of [] ?_ ?_ rfl rfl;(repeat' (first |exact True.intro |refine ⟨⟨AV.Le.refl _, rfl⟩, ?_⟩ |refine ⟨⟨⟨_, rfl, BLe.cells (LeL.refl _)⟩, rfl⟩, ?_⟩ |refine ⟨⟨AV.Le.int ?_, rfl⟩, ?_⟩|fail));exact (lastI_snoc hv).symm
    · rename_i hi;have hd : l.vars.drop i = [] := List.drop_of_length_le (by omega);rw [hd] at k1;have hinc : incB (-1) vars l.vars := k1.1 trivial;have hc := containsP_ok l (fun p => !f p) l.polys (by omega) (fun p hp => link1_ok l p (hw p hp) (f p) (hf p hp));refine Fl.io rfl [(900, 2)] hc rfl rfl (LeL.refl _) rfl ⟨⟨⟨_, rfl, BLe.cells (LeL.refl _)⟩, rfl⟩, trivial⟩ rfl rfl rfl rfl rfl ?_;(repeat' (first |refine Fl.v rfl rfl rfl ?_ |refine Fl.nilF ?_ |refine AWP.ret ?_));refine RetOk.of rfl (AV.Le.bool ?_)
      have : (!l.polys.any fun p => !f p) = true ↔ OkL vars l := by
        rw [Bool.not_eq_true', List.any_eq_false];refine ⟨fun h => ⟨hk, hlen, by omega, hinc, fun p hp => (hf p hp).1 ?_⟩, fun k p hp => ?_⟩
        · have := h p hp;simpa using this
        · have := (hf p hp).2 (k.polys p hp);simp [this]
      cases b with
      | true => exact this.2 (hb.1 rfl)
      | false => exact Bool.eq_false_iff.2 fun h => by have := hb.2 (this.1 h); cases this
end Go.Proofs.YtcaecieigoplbaaGreat
namespace Go.AL
theorem boolOf {α : Type} (p : α → Prop) : ∃ f : α → Bool, ∀ a, f a = true ↔ p a := ⟨fun a => @decide (p a) (Classical.propDecidable _), fun a => @decide_eq_true_iff _ (Classical.propDecidable _)⟩
/-- the variables' numbers -/
def atOf (X : List Int) (vs : List Int) : List Int := vs.map fun v => X.getD v.toNat 0
theorem atOf_fit {X : List Int} (h : ∀ x ∈ X, Fit x) (vs : List Int) : ∀ x ∈ atOf X vs, Fit x := fun x hx => by
  obtain ⟨v, _, rfl⟩ := List.mem_map.1 hx;show Fit (X.getD v.toNat 0);rw [List.getD_eq_getElem?_getD]
  cases hq : X[v.toNat]? with
  | none => exact Fit.zero
  | some y => exact h y (List.mem_of_getElem? hq)
theorem incB_mem {last top : Int} : ∀ {l : List Int} {v : Int}, incB last top l → v ∈ l → last < v ∧ v < top
  | [], _, _, h => by simp at h
  | x :: l, v, ⟨h1, h2, h3⟩, h => by
    rcases List.mem_cons.1 h with rfl | h
    · exact ⟨h1, h2⟩
    · have := incB_mem h3 h;omega
theorem atOf_snoc {X vs : List Int} {i : Nat} {v x : Int} (h : vs[i]? = some v) (hx : X[v.toNat]? = some x) : atOf X (vs.take (i + 1)) = atOf X (vs.take i) ++ [x] := by
  rw [take_snoc h];simp [atOf, hx]
end Go.AL
namespace Go.Proofs.YtcaecieigoplbaaGreat
open Go.AL

theorem Valid1_ok (s : SZ) (l : LZ) (hw : WL l) (b : Bool) (hb : b = true ↔ OkL s.vars l) : IoFn Tryz.prog 156 [aL l, .ptr 900 0] (sB s) (.ret (aB !b)) (sB s) := by
  refine IoFn.of_body Tryz.func156 rfl Tryz.ntmps156 rfl rfl rfl ?_;obtain ⟨f, hf⟩ := boolOf (fun p : PZ => p.vars = l.vars.length ∧ OkP p);(repeat' (first |refine Fl.v rfl rfl rfl ?_ |refine Fl.nilF ?_ |refine AWP.seq ?_ |refine AWP.region ?_ |refine Fl.b rfl rfl rfl rfl ?_));refine Fl.call rfl (link_ok l s.vars hw f (fun p _ => hf p) b hb) rfl rfl rfl (LeL.refl _) ?_;(repeat' (first |refine Fl.v rfl rfl rfl ?_ |refine Fl.nilF ?_ |refine AWP.ret ?_));exact ⟨⟨[], _, _, Ent.refl _ _ _, rfl, AV.Le.refl _, rfl, ⟨⟨⟨_, rfl, BLe.cells (LeL.refl _)⟩, rfl⟩, trivial⟩, rfl, rfl⟩⟩
theorem sValid_ok (s : SZ) (hw : WS s) (b : Bool) (hb : b = true ↔ OkS s) : PureFn Tryz.prog 86 [aS s] (aB b) := by
  refine PureFn.of_body Tryz.func86 rfl Tryz.ntmps86 rfl rfl ?_
  have hfalse : ¬ OkS s → false = b := fun h => by cases b with | false => rfl | true => exact absurd (hb.1 rfl) h
  obtain ⟨f, hf⟩ := boolOf (fun l : LZ => OkL s.vars l);(repeat' (first |refine Fl.v rfl rfl rfl ?_ |refine Fl.nilF ?_ |refine AWP.seq ?_ |refine AWP.region ?_ |refine Fl.b rfl rfl rfl rfl ?_ |refine Fl.skip rfl rfl ?_ |refine AWP.ret ?_ |(refine Fl.splitD rfl rfl ?_ ?_ <;> intro _ <;> try (exfalso; omega))))
  · rename_i h0 h1 h2;refine Fl.io rfl [(900, 1)] (containsL_ok s (fun l => !f l) s.links (by omega) (fun l hl => Valid1_ok s l (hw l hl) (f l) (hf l))) rfl rfl (LeL.refl _) rfl ⟨⟨⟨_, rfl, BLe.cells (LeL.refl _)⟩, rfl⟩, trivial⟩ rfl rfl rfl rfl rfl ?_;(repeat' (first |refine Fl.v rfl rfl rfl ?_ |refine Fl.nilF ?_ |refine AWP.ret ?_));refine RetOk.of rfl (AV.Le.bool ?_)
    have : (!s.links.any fun l => !f l) = true ↔ OkS s := by
      rw [Bool.not_eq_true', List.any_eq_false];refine ⟨fun h => ⟨h0, h1, by omega, fun l hl => (hf l).1 ?_⟩, fun k l hl => ?_⟩
      · have := h l hl;simpa using this
      · have := (hf l).2 (k.links l hl);simp [this]
    cases b with
    | true => exact this.2 (hb.1 rfl)
    | false => exact Bool.eq_false_iff.2 fun h => by have := hb.2 (this.1 h); cases this
  · rename_i h0 h1 h2; exact RetOk.of rfl (AV.Le.bool (hfalse fun k => by have := k.len; omega))
  · rename_i h0 h1; exact RetOk.of rfl (AV.Le.bool (hfalse fun k => by have := k.v1; omega))
  · rename_i h0; exact RetOk.of rfl (AV.Le.bool (hfalse fun k => by have := k.v0; omega))

theorem Values_ok (l : LZ) (X : List Int) (hw : WL l) (hL : OkL X.length l) (hX : ∀ x ∈ X, Fit x) (r : AV) (hr1 : (∀ p ∈ l.polys, EvOk (atOf X l.vars) p) → r = .tup [.sl 2 eX (l.polys.map (pv (atOf X l.vars))), aN 0]) (hr2 : ¬ (∀ p ∈ l.polys, EvOk (atOf X l.vars) p) → r = .tup [.v (.slice none 0 0), aN 4]) :
    PureFn Tryz.prog 89 [aL l, .sl 2 eX X] r := by
  refine PureFn.of_body Tryz.func89 rfl Tryz.ntmps89 rfl rfl ?_;have hvl := hL.vlen
  have hn3 : needI l.kind ≤ 3 := by unfold needI; repeat' split <;> omega
  have hpl := hL.len;have hfa := atOf_fit hX l.vars
  have hla : (atOf X l.vars).length = l.vars.length := by simp [atOf]
  (repeat' (first |refine Fl.v rfl rfl rfl ?_ |refine Fl.nilF ?_ |refine AWP.seq ?_ |refine AWP.region ?_ |refine Fl.b rfl rfl rfl rfl ?_ |refine AWP.block ?_));refine AWP.ent (Ent.nilrow 6 806 rfl rfl 2 eX 35) ?_;refine AWP.loop (G := Nat) (fun i => i ≤ l.vars.length) (fun i => St.of [] [(1, .sl 2 eX X), (2, .ptr 2 0), (6, .row 6), (7, .v (.slice none 0 0)), (15, aI l.vars), (16, aN l.vars.length), (17, aN i)] [(2, .cells (eL l) 82), (6, .row 2 eX (atOf X (l.vars.take i)) 35)]) (fun i => l.vars.length - i) 0 (by omega) ?_ ?_
  · refine Ent.of [(6, 806)] ?_ ?_ rfl rfl;(repeat' (first |exact True.intro |refine ⟨⟨AV.Le.refl _, rfl⟩, ?_⟩ |refine ⟨⟨⟨_, rfl, BLe.cells (LeL.refl _)⟩, rfl⟩, ?_⟩ |refine ⟨⟨⟨_, rfl, BLe.row rfl⟩, rfl⟩, ?_⟩|fail))
  · intro i k0
    have hli : (atOf X (l.vars.take i)).length = i := by simp [atOf]; omega
    (repeat' (first |refine Fl.v rfl rfl rfl ?_ |refine Fl.nilF ?_ |refine AWP.seq ?_ |refine AWP.region ?_ |(refine AWP.condD rfl ?_ ?_ <;> intro _ <;> try (exfalso; omega)) |refine AWP.block ?_ |refine AWP.skip ?_ |refine AWP.exit ?_ |(refine Fl.el rfl rfl rfl rfl rfl rfl rfl rfl (by omega) (by omega) ?_; intro _ _)|fail))
    · rename_i hi v hv;rw [Int.toNat_natCast] at hv;have hvb := incB_mem hL.inc (List.mem_of_getElem? hv);(repeat' (first |refine Fl.v rfl rfl rfl ?_ |(refine Fl.el rfl rfl rfl rfl rfl rfl rfl rfl (by omega) (by omega) ?_; intro _ _)|fail));rename_i x hx;refine Fl.lit rfl rfl rfl rfl rfl eX [x] rfl rfl rfl rfl (by intro _ _; rfl) rfl ?_;skip;refine Fl.ap rfl rfl rfl rfl rfl rfl rfl rfl rfl rfl rfl rfl rfl (fun _ => rfl) (fun _ => rfl) (AV.Le.refl _) (by dsimp only [List.length_nil, List.length_cons]; omega) (by simp; omega) ?_;(repeat' (first |refine Fl.v rfl rfl rfl ?_ |refine Fl.nilF ?_ |refine AWP.region ?_ |refine Fl.w rfl rfl rfl (by first | exact True.intro | omega) ?_|fail));refine LoopEnd.of (i + 1) (by omega) (by omega) ?_;refine Ent.of [(6, 27)] ?_ ?_ rfl rfl;(repeat' (first |exact True.intro |refine ⟨⟨AV.Le.refl _, rfl⟩, ?_⟩ |refine ⟨⟨⟨_, rfl, BLe.cells (LeL.refl _)⟩, rfl⟩, ?_⟩ |refine ⟨⟨⟨_, rfl, BLe.row ?_⟩, rfl⟩, ?_⟩|fail));exact (atOf_snoc hv hx).symm
    · rename_i hi;have hti : l.vars.take i = l.vars := List.take_of_length_le (by omega);refine AWP.ent (Ent.freeze 6 rfl) ?_;refine AWP.ent (Ent.nilrow 7 807 rfl rfl 2 eX 35) ?_;refine AWP.loop (G := Nat) (fun j => j ≤ l.polys.length ∧ ∀ p ∈ l.polys.take j, EvOk (atOf X l.vars) p) (fun j => St.of [] [(2, .ptr 2 0), (6, .sl 2 eX (atOf X l.vars)), (7, .row 7), (30, .sl 2 eP l.polys), (31, aN l.polys.length), (32, aN j)] [(2, .cells (eL l) 82), (7, .row 2 eX ((l.polys.take j).map (pv (atOf X l.vars))) 35)]) (fun j => l.polys.length - j) 0 ⟨by omega, by simp⟩ ?_ ?_
      · refine Ent.of [(7, 807)] ?_ ?_ rfl rfl;(repeat' (first |exact True.intro |refine ⟨⟨AV.Le.refl _, rfl⟩, ?_⟩ |refine ⟨⟨⟨_, rfl, BLe.cells (LeL.refl _)⟩, rfl⟩, ?_⟩ |refine ⟨⟨⟨_, rfl, BLe.row rfl⟩, rfl⟩, ?_⟩ |refine ⟨⟨AV.Le.sl ?_, rfl⟩, ?_⟩|fail));rw [hti]
      · clear hi hti hli k0 i; intro j ⟨k0, k1⟩
        have hlj : ((l.polys.take j).map (pv (atOf X l.vars))).length = j := by simp; omega
        (repeat' (first |refine Fl.v rfl rfl rfl ?_ |refine Fl.nilF ?_ |refine AWP.seq ?_ |refine AWP.region ?_ |refine Fl.b rfl rfl rfl rfl ?_ |(refine AWP.condD rfl ?_ ?_ <;> intro _ <;> try (exfalso; omega)) |refine AWP.block ?_ |refine AWP.skip ?_ |refine AWP.exit ?_ |refine AWP.ret ?_ |(refine Fl.el rfl rfl rfl rfl rfl rfl rfl rfl (by omega) (by omega) ?_; intro _ _)|fail))
        · rename_i hj p hp;rw [Int.toNat_natCast] at hp;have hpm := List.mem_of_getElem? hp;have hpo := hL.polys p hpm;have hev := fun r h1 h2 => Eval_ok p (atOf X l.vars) (hw p hpm) hpo.2 (by rw [hla]; exact hpo.1.symm) hfa r h1 h2;by_cases he : EvOk (atOf X l.vars) p
          · have hev1 := hev _ (fun _ => rfl) (fun h => absurd he h);refine Fl.call rfl (hev1) rfl rfl rfl (LeL.refl _) ?_;(repeat' (first |refine Fl.v rfl rfl rfl ?_ |refine Fl.nilF ?_ |refine AWP.seq ?_ |refine AWP.region ?_ |refine Fl.b rfl rfl rfl rfl ?_ |refine AWP.condF rfl ?_ |refine AWP.skip ?_));refine Fl.lit rfl rfl rfl rfl rfl eX [pv (atOf X l.vars) p] rfl rfl rfl rfl (by intro _ _; rfl) rfl ?_;skip;refine Fl.ap rfl rfl rfl rfl rfl rfl rfl rfl rfl rfl rfl rfl rfl (fun _ => rfl) (fun _ => rfl) (AV.Le.refl _) (by dsimp only [List.length_nil, List.length_cons]; omega) (by simp; omega) ?_;(repeat' (first |refine Fl.v rfl rfl rfl ?_ |refine Fl.nilF ?_ |refine AWP.region ?_ |refine Fl.w rfl rfl rfl (by first | exact True.intro | omega) ?_|fail));refine LoopEnd.of (j + 1) ⟨by omega, all_take_succ hp k1 he⟩ (by omega) ?_;refine Ent.of [(7, 48)] ?_ ?_ rfl rfl;(repeat' (first |exact True.intro |refine ⟨⟨AV.Le.refl _, rfl⟩, ?_⟩ |refine ⟨⟨⟨_, rfl, BLe.cells (LeL.refl _)⟩, rfl⟩, ?_⟩ |refine ⟨⟨⟨_, rfl, BLe.row ?_⟩, rfl⟩, ?_⟩|fail));rw [take_snoc hp, List.map_append]; rfl
          · have hev1 := hev _ (fun h => absurd h he) (fun _ => rfl);rw [hr2 fun h => he (h p hpm)];refine Fl.call rfl (hev1) rfl rfl rfl (LeL.refl _) ?_;(repeat' (first |refine Fl.v rfl rfl rfl ?_ |refine Fl.nilF ?_ |refine AWP.seq ?_ |refine AWP.region ?_ |refine Fl.b rfl rfl rfl rfl ?_ |refine AWP.condT rfl ?_ |refine AWP.ret ?_));exact RetOk.of rfl (AV.Le.refl _)
        · rename_i hj;have htj : l.polys.take j = l.polys := List.take_of_length_le (by omega);rw [htj] at k1;rw [hr1 k1];refine RetOk.ent (Ent.freeze 7 rfl) ?_;refine RetOk.of rfl ?_;rw [htj];exact AV.Le.refl _
end Go.Proofs.YtcaecieigoplbaaGreat
namespace Go.AL
theorem I64.iff {x : Int} : I64 x ↔ -9223372036854775808 ≤ x ∧ x ≤ 9223372036854775807 := Iff.rfl
/-- the link holds for its polynomials' values -/
def holdP (k : Int) (vs : List Int) : Prop :=
  if k = 1 then 2 ≤ vs.getD 0 0 ∧ 1 ≤ vs.getD 1 0 ∧ psiN (vs.getD 0 0) (vs.getD 1 0).toNat = vs.getD 2 0
  else if k = 2 then 1 ≤ vs.getD 0 0 ∧ 0 ≤ vs.getD 1 0 ∧ (vs.getD 0 0) ^ (vs.getD 1 0).toNat = vs.getD 2 0
  else if k = 3 then 0 ≤ vs.getD 0 0 ∧ 0 ≤ vs.getD 1 0 ∧ undI (vs.getD 0 0) (vs.getD 1 0)
  else vs.getD 0 0 = 0
end Go.AL
namespace Go.Proofs.YtcaecieigoplbaaGreat
open Go.AL

theorem isPsi_ok (x y z : Int) (hx : Fit x) (hy : Fit y) (hz : Fit z) (b : Bool) (hb : b = true ↔ 2 ≤ x ∧ 1 ≤ y ∧ psiN x y.toNat = z) : PureFn Tryz.prog 159 [.sl 2 eX [x, y, z]] (aB b) := by
  refine PureFn.of_body Tryz.func159 rfl Tryz.ntmps159 rfl rfl ?_
  have hfalse : ¬ (2 ≤ x ∧ 1 ≤ y ∧ psiN x y.toNat = z) → false = b := fun h => by cases b with | false => rfl | true => exact absurd (hb.1 rfl) h
  have g0 : [x, y, z][(0 : Int).toNat]? = some x := rfl;have g1 : [x, y, z][(1 : Int).toNat]? = some y := rfl;have g2 : [x, y, z][(2 : Int).toNat]? = some z := rfl;have hl : [x, y, z].length = 3 := rfl;(repeat' (first |refine Fl.v rfl rfl rfl ?_ |refine Fl.nilF ?_ |refine AWP.seq ?_ |refine AWP.region ?_ |refine Fl.elK rfl rfl rfl rfl rfl rfl rfl rfl (by assumption) (by omega) ?_|fail));refine Fl.call rfl (Of_ok 2 (by omega) (by omega)) rfl rfl rfl (LeL.refl _) ?_;skip;refine Fl.call rfl (Less_ok x 2 hx fit_two) rfl rfl rfl (LeL.refl _) ?_;(repeat' (first |refine Fl.v rfl rfl rfl ?_ |refine Fl.nilF ?_ |refine Fl.nil (fun _ => by kernel_rfl) ?_ |refine AWP.seq ?_ |refine AWP.region ?_ |refine Fl.skip rfl rfl ?_ |refine AWP.condT rfl ?_ |refine AWP.ret ?_ |refine Fl.elK rfl rfl rfl rfl rfl rfl rfl rfl (by assumption) (by omega) ?_ |(refine Fl.splitD rfl rfl ?_ ?_ <;> intro _ <;> try (exfalso; omega))))
  · rename_i h;exact RetOk.of rfl (AV.Le.bool (hfalse fun k => by omega))
  · rename_i h;refine Fl.call rfl (Of_ok 1 (by omega) (by omega)) rfl rfl rfl (LeL.refl _) ?_;skip;refine Fl.call rfl (Less_ok y 1 hy fit_one) rfl rfl rfl (LeL.refl _) ?_;(repeat' (first |refine Fl.v rfl rfl rfl ?_ |refine Fl.nilF ?_ |refine Fl.nil (fun _ => by kernel_rfl) ?_ |refine AWP.seq ?_ |refine AWP.region ?_ |(refine AWP.condD rfl ?_ ?_ <;> intro _ <;> try (exfalso; omega)) |refine AWP.skip ?_ |refine AWP.ret ?_ |refine Fl.elK rfl rfl rfl rfl rfl rfl rfl rfl (by assumption) (by omega) ?_|fail))
    · exact RetOk.of rfl (AV.Le.bool (hfalse fun k => by omega))
    · rename_i h1;have hsm := Small_ok y hy;by_cases hI : I64 y
      · have hI2 := I64.iff.1 hI;rw [if_pos hI, decide_eq_true hI] at hsm;refine Fl.call rfl (hsm) rfl rfl rfl (LeL.refl _) ?_;(repeat' (first |refine Fl.v rfl rfl rfl ?_ |refine Fl.nilF ?_ |refine AWP.seq ?_ |refine AWP.region ?_ |refine AWP.condF rfl ?_ |refine AWP.skip ?_ |refine Fl.elK rfl rfl rfl rfl rfl rfl rfl rfl (by assumption) (by omega) ?_|fail));have hps := Psi_ok x y hx (by omega) (by omega) (by omega);by_cases hf : Fit (psiN x y.toNat)
        · rw [aR_fit hf] at hps;refine Fl.call rfl (hps) rfl rfl rfl (LeL.refl _) ?_;(repeat' (first |refine Fl.v rfl rfl rfl ?_ |refine Fl.nilF ?_ |refine AWP.seq ?_ |refine AWP.region ?_ |refine Fl.b rfl rfl rfl rfl ?_ |refine Fl.elK rfl rfl rfl rfl rfl rfl rfl rfl (by assumption) (by omega) ?_ |(refine Fl.splitD rfl rfl ?_ ?_ <;> intro _ <;> try (exfalso; omega))));refine Fl.call rfl (Same_ok _ z hf hz) rfl rfl rfl (LeL.refl _) ?_;(repeat' (first |refine Fl.v rfl rfl rfl ?_ |refine Fl.nil (fun _ => by kernel_rfl) ?_ |refine AWP.ret ?_));refine RetOk.of rfl (AV.Le.bool ?_)
          cases b with
          | false => exact decide_eq_false fun k => by have := hb.2 ⟨by omega, by omega, k⟩; cases this
          | true => exact decide_eq_true (hb.1 rfl).2.2
        · rw [aR_not hf] at hps;refine Fl.call rfl (hps) rfl rfl rfl (LeL.refl _) ?_;(repeat' (first |refine Fl.v rfl rfl rfl ?_ |refine Fl.nilF ?_ |refine Fl.nil (fun _ => by kernel_rfl) ?_ |refine AWP.seq ?_ |refine AWP.region ?_ |refine Fl.b rfl rfl rfl rfl ?_ |refine Fl.skip rfl rfl ?_ |refine AWP.ret ?_));exact RetOk.of rfl (AV.Le.bool (hfalse fun k => hf (by rw [k.2.2]; exact hz)))
      · rw [if_neg hI, decide_eq_false hI] at hsm;refine Fl.call rfl (hsm) rfl rfl rfl (LeL.refl _) ?_;(repeat' (first |refine Fl.v rfl rfl rfl ?_ |refine Fl.nilF ?_ |refine AWP.seq ?_ |refine AWP.region ?_ |refine AWP.condT rfl ?_ |refine AWP.ret ?_));refine RetOk.of rfl (AV.Le.bool (hfalse fun k => ?_));refine psi_not_fit (a := x) (n := y.toNat) (by omega) ?_ (by rw [k.2.2]; exact hz);rw [I64.iff] at hI;omega
theorem isPower_ok (x y z : Int) (hx : Fit x) (hy : Fit y) (hz : Fit z) (b : Bool) (hb : b = true ↔ 1 ≤ x ∧ 0 ≤ y ∧ x ^ y.toNat = z) : PureFn Tryz.prog 160 [.sl 2 eX [x, y, z]] (aB b) := by
  refine PureFn.of_body Tryz.func160 rfl Tryz.ntmps160 rfl rfl ?_
  have hfalse : ¬ (1 ≤ x ∧ 0 ≤ y ∧ x ^ y.toNat = z) → false = b := fun h => by cases b with | false => rfl | true => exact absurd (hb.1 rfl) h
  have g0 : [x, y, z][(0 : Int).toNat]? = some x := rfl;have g1 : [x, y, z][(1 : Int).toNat]? = some y := rfl;have g2 : [x, y, z][(2 : Int).toNat]? = some z := rfl;have hl : [x, y, z].length = 3 := rfl;(repeat' (first |refine Fl.v rfl rfl rfl ?_ |refine Fl.nilF ?_ |refine AWP.seq ?_ |refine AWP.region ?_));refine Fl.call rfl (Of_ok 1 (by omega) (by omega)) rfl rfl rfl (LeL.refl _) ?_;(repeat' (first |refine Fl.v rfl rfl rfl ?_ |refine Fl.nilF ?_ |refine AWP.seq ?_ |refine AWP.region ?_ |refine Fl.b rfl rfl rfl rfl ?_ |refine Fl.elK rfl rfl rfl rfl rfl rfl rfl rfl (by assumption) (by omega) ?_|fail));refine Fl.call rfl (Less_ok x 1 hx fit_one) rfl rfl rfl (LeL.refl _) ?_;(repeat' (first |refine Fl.v rfl rfl rfl ?_ |refine Fl.nilF ?_ |refine Fl.nil (fun _ => by kernel_rfl) ?_ |refine AWP.seq ?_ |refine AWP.region ?_ |refine Fl.skip rfl rfl ?_ |refine AWP.condT rfl ?_ |(refine AWP.condD rfl ?_ ?_ <;> intro _ <;> try (exfalso; omega)) |refine AWP.skip ?_ |refine AWP.ret ?_ |refine Fl.elK rfl rfl rfl rfl rfl rfl rfl rfl (by assumption) (by omega) ?_ |(refine Fl.splitD rfl rfl ?_ ?_ <;> intro _ <;> try (exfalso; omega))))
  · rename_i h;exact RetOk.of rfl (AV.Le.bool (hfalse fun k => by omega))
  · rename_i h h1;exact RetOk.of rfl (AV.Le.bool (hfalse fun k => by omega))
  · rename_i h h1;refine Fl.call rfl (Same_ok x 1 hx fit_one) rfl rfl rfl (LeL.refl _) ?_;(repeat' (first |refine Fl.v rfl rfl rfl ?_ |refine Fl.nil (fun _ => by kernel_rfl) ?_ |refine AWP.seq ?_ |refine AWP.region ?_ |(refine AWP.condD rfl ?_ ?_ <;> intro _ <;> try (exfalso; omega)) |refine AWP.skip ?_ |refine Fl.elK rfl rfl rfl rfl rfl rfl rfl rfl (by assumption) (by omega) ?_|fail))
    · rename_i h2;refine Fl.call rfl (Same_ok z 1 hz fit_one) rfl rfl rfl (LeL.refl _) ?_;(repeat' (first |refine Fl.v rfl rfl rfl ?_ |refine Fl.nil (fun _ => by kernel_rfl) ?_ |refine AWP.ret ?_));refine RetOk.of rfl (AV.Le.bool ?_);subst h2
      cases b with
      | false => exact decide_eq_false fun k => by have := hb.2 ⟨by omega, by omega, by rw [Int.one_pow, k]⟩; cases this
      | true => exact decide_eq_true (by have := (hb.1 rfl).2.2; rw [Int.one_pow] at this; exact this.symm)
    · rename_i h2;have hsm := Small_ok y hy;have hbig : 131072 < y → ¬ (1 ≤ x ∧ 0 ≤ y ∧ x ^ y.toNat = z) := fun h k => pow_not_fit (x := x) (n := y.toNat) (by omega) (by omega) (by rw [k.2.2]; exact hz);by_cases hI : I64 y
      · have hI2 := I64.iff.1 hI;rw [if_pos hI, decide_eq_true hI] at hsm;refine Fl.call rfl (hsm) rfl rfl rfl (LeL.refl _) ?_;(repeat' (first |refine Fl.v rfl rfl rfl ?_ |refine Fl.nilF ?_ |refine AWP.seq ?_ |refine AWP.region ?_ |(refine AWP.condD rfl ?_ ?_ <;> intro _ <;> try (exfalso; omega)) |refine AWP.skip ?_ |refine AWP.ret ?_ |refine Fl.elK rfl rfl rfl rfl rfl rfl rfl rfl (by assumption) (by omega) ?_|fail))
        · rename_i h3;exact RetOk.of rfl (AV.Le.bool (hfalse (hbig h3)))
        · have hps := Power_ok x y hx (by omega) (by omega);by_cases hf : Fit (x ^ y.toNat)
          · rw [aR_fit hf] at hps;refine Fl.call rfl (hps) rfl rfl rfl (LeL.refl _) ?_;(repeat' (first |refine Fl.v rfl rfl rfl ?_ |refine Fl.nilF ?_ |refine AWP.seq ?_ |refine AWP.region ?_ |refine Fl.b rfl rfl rfl rfl ?_ |refine Fl.elK rfl rfl rfl rfl rfl rfl rfl rfl (by assumption) (by omega) ?_ |(refine Fl.splitD rfl rfl ?_ ?_ <;> intro _ <;> try (exfalso; omega))));refine Fl.call rfl (Same_ok _ z hf hz) rfl rfl rfl (LeL.refl _) ?_;(repeat' (first |refine Fl.v rfl rfl rfl ?_ |refine Fl.nil (fun _ => by kernel_rfl) ?_ |refine AWP.ret ?_));refine RetOk.of rfl (AV.Le.bool ?_)
            cases b with
            | false => exact decide_eq_false fun k => by have := hb.2 ⟨by omega, by omega, k⟩; cases this
            | true => exact decide_eq_true (hb.1 rfl).2.2
          · rw [aR_not hf] at hps;refine Fl.call rfl (hps) rfl rfl rfl (LeL.refl _) ?_;(repeat' (first |refine Fl.v rfl rfl rfl ?_ |refine Fl.nilF ?_ |refine Fl.nil (fun _ => by kernel_rfl) ?_ |refine AWP.seq ?_ |refine AWP.region ?_ |refine Fl.b rfl rfl rfl rfl ?_ |refine Fl.skip rfl rfl ?_ |refine AWP.ret ?_));exact RetOk.of rfl (AV.Le.bool (hfalse fun k => hf (by rw [k.2.2]; exact hz)))
      · rw [if_neg hI, decide_eq_false hI] at hsm;refine Fl.call rfl (hsm) rfl rfl rfl (LeL.refl _) ?_;(repeat' (first |refine Fl.v rfl rfl rfl ?_ |refine Fl.nilF ?_ |refine AWP.seq ?_ |refine AWP.region ?_ |refine Fl.skip rfl rfl ?_ |refine AWP.condT rfl ?_ |refine AWP.ret ?_));refine RetOk.of rfl (AV.Le.bool (hfalse (hbig ?_)));rw [I64.iff] at hI;omega

theorem holds_ok (k : Int) (vs : List Int) (hk : needI k ≠ 0) (hl : (vs.length : Int) = needI k) (hX : ∀ x ∈ vs, Fit x) (b : Bool) (hb : b = true ↔ holdP k vs) : PureFn Tryz.prog 90 [aN k, .sl 2 eX vs] (aB b) := by
  refine PureFn.of_body Tryz.func90 rfl Tryz.ntmps90 rfl rfl ?_
  have hk4 : k = 0 ∨ k = 1 ∨ k = 2 ∨ k = 3 := by
    unfold needI at hk;by_cases h0 : k = 0
    · omega
    by_cases h1 : k = 1
    · omega
    by_cases h2 : k = 2
    · omega
    by_cases h3 : k = 3
    · omega
    simp [h0, h1, h2, h3] at hk
  rcases hk4 with rfl | rfl | rfl | rfl
  · have hl : vs.length = 1 := by simp [needI] at hl; omega
    obtain ⟨x, rfl⟩ : ∃ x, vs = [x] := by
      match vs, hl with
      | [x], _ => exact ⟨x, rfl⟩
    have g0 : [x][(0 : Int).toNat]? = some x := rfl;have hll : [x].length = 1 := rfl;(repeat' (first |refine Fl.v rfl rfl rfl ?_ |refine Fl.nilF ?_ |refine AWP.seq ?_ |refine AWP.region ?_ |refine AWP.condF rfl ?_ |refine AWP.block ?_ |refine AWP.skip ?_ |refine AWP.ret ?_ |refine Fl.elK rfl rfl rfl rfl rfl rfl rfl rfl (by assumption) (by omega) ?_|fail));refine RetOk.of rfl (AV.Le.bool ?_)
    have hx0 : ((toW x.natAbs).length : Int) = 0 ↔ x = 0 := by
      have := toW_nil_iff (z := x.natAbs) (by omega);rw [← List.length_eq_zero_iff] at this;omega
    have hb2 : b = true ↔ x = 0 := hb
    cases b with
    | false => exact decide_eq_false fun k => by have := hb2.2 (hx0.1 k); cases this
    | true => exact decide_eq_true (hx0.2 (hb2.1 rfl))
  · have hl : vs.length = 3 := by simp [needI] at hl; omega
    obtain ⟨x, y, z, rfl⟩ : ∃ x y z, vs = [x, y, z] := by
      match vs, hl with
      | [x, y, z], _ => exact ⟨x, y, z, rfl⟩
    (repeat' (first |refine Fl.v rfl rfl rfl ?_ |refine Fl.nilF ?_ |refine AWP.seq ?_ |refine AWP.region ?_ |refine AWP.condT rfl ?_ |refine AWP.block ?_));refine Fl.call rfl (isPsi_ok x y z (hX x (by simp)) (hX y (by simp)) (hX z (by simp)) b hb) rfl rfl rfl (LeL.refl _) ?_;(repeat' (first |refine Fl.v rfl rfl rfl ?_ |refine Fl.nilF ?_ |refine AWP.ret ?_));exact RetOk.of rfl (AV.Le.refl _)
  · have hl : vs.length = 3 := by simp [needI] at hl; omega
    obtain ⟨x, y, z, rfl⟩ : ∃ x y z, vs = [x, y, z] := by
      match vs, hl with
      | [x, y, z], _ => exact ⟨x, y, z, rfl⟩
    (repeat' (first |refine Fl.v rfl rfl rfl ?_ |refine Fl.nilF ?_ |refine AWP.seq ?_ |refine AWP.region ?_ |refine AWP.condT rfl ?_ |refine AWP.condF rfl ?_ |refine AWP.block ?_));refine Fl.call rfl (isPower_ok x y z (hX x (by simp)) (hX y (by simp)) (hX z (by simp)) b hb) rfl rfl rfl (LeL.refl _) ?_;(repeat' (first |refine Fl.v rfl rfl rfl ?_ |refine Fl.nilF ?_ |refine AWP.ret ?_));exact RetOk.of rfl (AV.Le.refl _)
  · have hl : vs.length = 2 := by simp [needI] at hl; omega
    obtain ⟨x, y, rfl⟩ : ∃ x y, vs = [x, y] := by
      match vs, hl with
      | [x, y], _ => exact ⟨x, y, rfl⟩
    have g0 : [x, y][(0 : Int).toNat]? = some x := rfl;have g1 : [x, y][(1 : Int).toNat]? = some y := rfl;have hll : [x, y].length = 2 := rfl;have hx := hX x (by simp);have hy := hX y (by simp);(repeat' (first |refine Fl.v rfl rfl rfl ?_ |refine Fl.nilF ?_ |refine AWP.seq ?_ |refine AWP.region ?_ |refine AWP.condT rfl ?_ |refine AWP.condF rfl ?_ |refine AWP.block ?_ |refine Fl.elK rfl rfl rfl rfl rfl rfl rfl rfl (by assumption) (by omega) ?_|fail));refine Fl.call rfl (Under_ok x y hx hy) rfl rfl rfl (LeL.refl _) ?_;(repeat' (first |refine Fl.v rfl rfl rfl ?_ |refine Fl.nilF ?_ |refine Fl.nil (fun _ => by kernel_rfl) ?_ |refine AWP.seq ?_ |refine AWP.region ?_ |refine Fl.skip rfl rfl ?_ |refine AWP.ret ?_ |(refine Fl.splitD rfl rfl ?_ ?_ <;> intro _ <;> try (exfalso; omega))))
    · rename_i h;refine RetOk.of rfl (AV.Le.bool ?_);have hbt : b = true := hb.2 h;rw [hbt];exact decide_eq_true (if_neg (by omega))
    · rename_i h;refine RetOk.of rfl (AV.Le.bool ?_)
      cases b with
      | false => rfl
      | true => exact absurd (hb.1 rfl) h
end Go.Proofs.YtcaecieigoplbaaGreat
namespace Go.AL
/-- whether the links hold, or the error -/
def holdsR (f g : LZ → Bool) : List LZ → Bool × Int
  | [] => (true, 0)
  | l :: ls => if f l then (if g l then holdsR f g ls else (false, 0)) else (false, 4)
/-- a link's polynomials have values -/
def EvL (X : List Int) (l : LZ) : Prop := ∀ p ∈ l.polys, EvOk (atOf X l.vars) p
def lvals (X : List Int) (l : LZ) : List Int := l.polys.map (pv (atOf X l.vars))
def HoL (X : List Int) (l : LZ) : Prop := holdP l.kind (lvals X l)
theorem pv_fit {X : List Int} {p : PZ} (h : EvOk X p) : Fit (pv X p) := by
  have b1 := PS_take X p.terms p.terms.length;have b2 := OS_take X p.terms p.terms.length;rw [List.take_length] at b1 b2;exact fit_sum h.1 h.2 b1.1 b2.1
theorem lvals_fit {X : List Int} {l : LZ} (h : EvL X l) : ∀ x ∈ lvals X l, Fit x := fun x hx => by
  obtain ⟨p, hp, rfl⟩ := List.mem_map.1 hx;exact pv_fit (h p hp)
theorem holdsR_drop {f g : LZ → Bool} {ls : List LZ} {i : Nat} {l : LZ} (h : ls[i]? = some l) : holdsR f g (ls.drop i) = if f l then (if g l then holdsR f g (ls.drop (i + 1)) else (false, 0)) else (false, 4) := by
  have hi := (List.getElem?_eq_some_iff.1 h).1;rw [List.drop_eq_getElem_cons hi, (List.getElem?_eq_some_iff.1 h).2];rfl
end Go.AL
namespace Go.Proofs.YtcaecieigoplbaaGreat
open Go.AL

theorem Holds_ok (s : SZ) (X : List Int) (hw : WS s) (hs : OkS s) (hX : ∀ x ∈ X, Fit x) (hlen : (X.length : Int) = s.vars) (hnat : ∀ x ∈ X, 0 ≤ x) (f g : LZ → Bool) (hf : ∀ l, f l = true ↔ EvL X l) (hg : ∀ l, g l = true ↔ HoL X l) : PureFn Tryz.prog 25 [aS s, .sl 2 eX X] (.tup [aB (holdsR f g s.links).1, aN (holdsR f g s.links).2]) := by
  refine PureFn.of_body Tryz.func25 rfl Tryz.ntmps25 rfl rfl ?_;have hv1 := hs.v1;have hsl := hs.len;(repeat' (first |refine Fl.v rfl rfl rfl ?_ |refine Fl.nilF ?_ |refine AWP.seq ?_ |refine AWP.region ?_ |refine Fl.b rfl rfl rfl rfl ?_));refine Fl.call rfl (sValid_ok s hw true ⟨fun _ => hs, fun _ => rfl⟩) rfl rfl rfl (LeL.refl _) ?_;(repeat' (first |refine Fl.v rfl rfl rfl ?_));refine Fl.call rfl (chValidX_ok X hX (by omega)) rfl rfl rfl (LeL.refl _) ?_;(repeat' (first |refine Fl.v rfl rfl rfl ?_ |refine Fl.nilF ?_ |refine AWP.seq ?_ |refine AWP.region ?_ |refine AWP.condF rfl ?_ |refine AWP.skip ?_ |(refine Fl.splitN rfl rfl ?_ ?_ <;> intro _ <;> try (exfalso; omega))));have hv := chNatural_ok X (by omega);rw [decide_eq_true hnat] at hv;refine Fl.call rfl (hv) rfl rfl rfl (LeL.refl _) ?_;(repeat' (first |refine Fl.v rfl rfl rfl ?_ |refine Fl.nilF ?_ |refine AWP.seq ?_ |refine AWP.region ?_ |refine AWP.condF rfl ?_ |refine AWP.block ?_ |refine AWP.skip ?_));refine AWP.loop (G := Nat) (fun i => i ≤ s.links.length ∧ holdsR f g (s.links.drop i) = holdsR f g s.links) (fun i => St.of [] [(1, .sl 2 eX X), (29, .sl 3 eL s.links), (30, aN s.links.length), (31, aN i)] []) (fun i => s.links.length - i) 0 ⟨by omega, rfl⟩ ?_ ?_
  · refine Ent.of [] ?_ ?_ rfl rfl;(repeat' (first |exact True.intro |refine ⟨⟨AV.Le.refl _, rfl⟩, ?_⟩|fail))
  · intro i ⟨k0, k1⟩;(repeat' (first |refine Fl.v rfl rfl rfl ?_ |refine Fl.nilF ?_ |refine AWP.seq ?_ |refine AWP.region ?_ |refine Fl.b rfl rfl rfl rfl ?_ |(refine AWP.condD rfl ?_ ?_ <;> intro _ <;> try (exfalso; omega)) |refine AWP.block ?_ |refine AWP.skip ?_ |refine AWP.exit ?_ |refine AWP.ret ?_ |(refine Fl.el rfl rfl rfl rfl rfl rfl rfl rfl (by omega) (by omega) ?_; intro _ _)|fail))
    · rename_i hi l hl;rw [Int.toNat_natCast] at hl;have hlm := List.mem_of_getElem? hl;rw [holdsR_drop hl] at k1;have hL := hs.links l hlm;rw [← hlen] at hL;have hvs := fun r h1 h2 => Values_ok l X (hw l hlm) hL hX r h1 h2;by_cases he : EvL X l
      · rw [if_pos ((hf l).2 he)] at k1;have hvs1 := hvs _ (fun _ => rfl) (fun h => absurd he h);refine Fl.call rfl (hvs1) rfl rfl rfl (LeL.refl _) ?_;(repeat' (first |refine Fl.v rfl rfl rfl ?_ |refine Fl.nilF ?_ |refine AWP.seq ?_ |refine AWP.region ?_ |refine AWP.condF rfl ?_ |refine AWP.skip ?_));have hho := holds_ok l.kind (lvals X l) hL.kind (by rw [lvals, List.length_map]; exact hL.len) (lvals_fit he) (g l) (hg l);refine Fl.call rfl (hho) rfl rfl rfl (LeL.refl _) ?_;(repeat' (first |refine Fl.v rfl rfl rfl ?_ |refine Fl.nilF ?_ |refine AWP.seq ?_ |refine AWP.region ?_ |refine Fl.w rfl rfl rfl (by first | exact True.intro | omega) ?_ |refine AWP.skip ?_ |refine AWP.ret ?_ |(refine AWP.condB rfl ?_ ?_ <;> intro _)))
        · rename_i hb;rw [if_neg (by simpa using hb)] at k1;rw [← k1];exact RetOk.of rfl (AV.Le.refl _)
        · rename_i hb;rw [if_pos (by simpa using hb)] at k1;refine LoopEnd.of (i + 1) ⟨by omega, k1⟩ (by omega) ?_;refine Ent.of [] ?_ ?_ rfl rfl;(repeat' (first |exact True.intro |refine ⟨⟨AV.Le.refl _, rfl⟩, ?_⟩|fail))
      · rw [if_neg (fun h => he ((hf l).1 h))] at k1;have hvs1 := hvs _ (fun h => absurd h he) (fun _ => rfl);refine Fl.call rfl (hvs1) rfl rfl rfl (LeL.refl _) ?_;(repeat' (first |refine Fl.v rfl rfl rfl ?_ |refine Fl.nilF ?_ |refine AWP.seq ?_ |refine AWP.region ?_ |refine AWP.condT rfl ?_ |refine AWP.ret ?_));rw [← k1];exact RetOk.of rfl (AV.Le.refl _)
    · rename_i hi;rw [List.drop_of_length_le (by omega)] at k1;rw [← k1];exact RetOk.of rfl (AV.Le.refl _)
end Go.Proofs.YtcaecieigoplbaaGreat
namespace Go.AL
structure CT where
  v : Int
  e : Int
  p : Int
  w : Int
  u : Int
  d : Int
/-- one more link is counted -/
def stepC (c : CT) (l : LZ) : CT :=
  if l.kind = 0 then { c with e := c.e + 1, d := match l.polys with | [] => c.d | p :: _ => if pdeg p > c.d then pdeg p else c.d }
  else if l.kind = 1 then { c with p := c.p + 1 }
  else if l.kind = 2 then { c with w := c.w + 1 }
  else { c with u := c.u + 1 }
def CTb (i : Int) (c : CT) : Prop := 0 ≤ c.e ∧ c.e ≤ i ∧ 0 ≤ c.p ∧ c.p ≤ i ∧ 0 ≤ c.w ∧ c.w ≤ i ∧ 0 ≤ c.u ∧ c.u ≤ i
theorem CTb.step {i : Int} {c : CT} (h : CTb i c) (l : LZ) : CTb (i + 1) (stepC c l) := by
  obtain ⟨h1, h2, h3, h4, h5, h6, h7, h8⟩ := h;unfold stepC;repeat' split
  all_goals exact ⟨by dsimp only; omega, by dsimp only; omega, by dsimp only; omega, by dsimp only; omega, by dsimp only; omega, by dsimp only; omega, by dsimp only; omega, by dsimp only; omega⟩
theorem kinds {k : Int} (hk : needI k ≠ 0) : k = 0 ∨ k = 1 ∨ k = 2 ∨ k = 3 := by
  unfold needI at hk;by_cases h0 : k = 0
  · omega
  by_cases h1 : k = 1
  · omega
  by_cases h2 : k = 2
  · omega
  by_cases h3 : k = 3
  · omega
  simp [h0, h1, h2, h3] at hk
end Go.AL
namespace Go.Proofs.YtcaecieigoplbaaGreat
open Go.AL

end Go.Proofs.YtcaecieigoplbaaGreat
namespace Go.AL
end Go.AL
namespace Go.Proofs.YtcaecieigoplbaaGreat
open Go.AL

end Go.Proofs.YtcaecieigoplbaaGreat
namespace Go.AL
theorem bitN_and32 {a : Int} (h : 0 ≤ a) : bitN .and a 4294967295 = a % 4294967296 := by
  show ((a.toNat &&& (4294967295 : Int).toNat : Nat) : Int) = a % 4294967296;rw [show (4294967295 : Int).toNat = 2 ^ 32 - 1 from rfl, Nat.and_two_pow_sub_one_eq_mod];omega
end Go.AL
namespace Go.Proofs.YtcaecieigoplbaaGreat
open Go.AL

theorem rFits_ok (x : Int) : PureFn Tryz.prog 85 [aX x] (aB (decide (Fit x))) := by
  refine PureFn.of_body Tryz.func85 rfl Tryz.ntmps85 rfl rfl ?_;(repeat' (first |refine Fl.v rfl rfl rfl ?_ |refine Fl.nilF ?_ |refine AWP.seq ?_ |refine AWP.region ?_ |refine Fl.b rfl rfl rfl rfl ?_ |refine AWP.ret ?_));refine RetOk.of rfl (AV.Le.bool ?_);rw [decide_eq_decide, Fit.iff];omega
theorem rZero_ok (z : Z) : PureFn Tryz.prog 38 [aZ z] (aB (decide (z.w.length = 0))) := by
  refine PureFn.of_body Tryz.func38 rfl Tryz.ntmps38 rfl rfl ?_;(repeat' (first |refine Fl.v rfl rfl rfl ?_ |refine Fl.nilF ?_ |refine AWP.seq ?_ |refine AWP.region ?_ |refine Fl.b rfl rfl rfl rfl ?_ |refine AWP.ret ?_));refine RetOk.of rfl (AV.Le.bool ?_);simp
theorem rZeroX_ok (x : Int) : PureFn Tryz.prog 38 [aX x] (aB (decide (x = 0))) := by
  have h := rZero_ok (zOf x)
  have e : decide ((zOf x).w.length = 0) = decide (x = 0) := by
    rw [decide_eq_decide];show (toW x.natAbs).length = 0 ↔ x = 0;have := toW_nil_iff (z := x.natAbs) (by omega);rw [List.length_eq_zero_iff, this]; omega
  rwa [e] at h
theorem rMake_ok (neg : Bool) (l : List Int) (hl : WOk l) (hb : l.length ≤ 100000) : PureFn Tryz.prog 83 [aB neg, aW l] (aX (sg neg (val l))) := by
  refine PureFn.of_body Tryz.func83 rfl Tryz.ntmps83 rfl rfl ?_;have hv := val_nonneg hl;have hab : ((sg neg (val l)).natAbs : Int) = val l := sg_abs _ hv;refine AWP.seqS ?_;(repeat' (first |refine Fl.nilF ?_ |refine AWP.region ?_ |refine Fl.b rfl rfl rfl rfl ?_));refine ⟨AWP.seqS ?_⟩;(repeat' (first |refine Fl.v rfl rfl rfl ?_ |refine Fl.nilF ?_ |refine AWP.region ?_));refine ⟨?_⟩;refine AWP.seqJ (G := Int) (fun n => 0 ≤ n ∧ n ≤ l.length ∧ l.take n.toNat = toW (val l)) (fun n => St.of [] [(0, aB neg), (1, aW l), (4, .ptr 4 0), (5, aN n)] [(4, .cells [aB false, .v (.slice none 0 0)] 35)]) ?_ ?_
  · (repeat' (first |refine AWP.block ?_));refine AWP.loop (G := Int) (fun n => 0 ≤ n ∧ n ≤ l.length ∧ trimL (l.take n.toNat) = trimL l) (fun n => St.of [] [(0, aB neg), (1, aW l), (4, .ptr 4 0), (5, aN n)] [(4, .cells [aB false, .v (.slice none 0 0)] 35)]) (fun n => n.toNat) (l.length : Int) ⟨by omega, by omega, by simp⟩ ?_ ?_
    · refine Ent.of [] ?_ ?_ rfl rfl;(repeat' (first |exact True.intro |refine ⟨⟨AV.Le.refl _, rfl⟩, ?_⟩ |refine ⟨⟨⟨_, rfl, BLe.cells (LeL.refl _)⟩, rfl⟩, ?_⟩|fail))
    · intro n ⟨h0, h1, h2⟩;(repeat' (first |refine Fl.v rfl rfl rfl ?_ |refine Fl.nilF ?_ |refine AWP.seq ?_ |refine AWP.region ?_ |refine Fl.w rfl rfl rfl (by first | exact True.intro | omega) ?_ |refine Fl.skip rfl rfl ?_ |refine AWP.condF rfl ?_ |(refine AWP.condD rfl ?_ ?_ <;> intro _ <;> try (exfalso; omega)) |refine AWP.block ?_ |refine AWP.skip ?_ |refine AWP.exit ?_ |(refine Fl.elW rfl rfl rfl rfl rfl rfl rfl rfl (by omega) (by omega) (by assumption) ?_; intro _ _ _ _) |(refine Fl.splitD rfl rfl ?_ ?_ <;> intro _ <;> try (exfalso; omega))))
      · rename_i hn e he he0 he1 hz;subst hz;refine LoopEnd.of (n - 1) ⟨by omega, by omega, ?_⟩ (by omega) ?_
        · rw [← h2, trimL_take0 (by omega) he]
        · refine Ent.of [] ?_ ?_ rfl rfl;(repeat' (first |exact True.intro |refine ⟨⟨AV.Le.refl _, rfl⟩, ?_⟩ |refine ⟨⟨⟨_, rfl, BLe.cells (LeL.refl _)⟩, rfl⟩, ?_⟩|fail))
      · rename_i hn e he he0 he1 hz;refine JoinOk.of n ⟨h0, h1, ?_⟩ ?_
        · rw [← trimL_eq hl, ← h2, trimL_take1 (by omega) he hz]
        · refine Ent.of [] ?_ ?_ rfl rfl;(repeat' (first |exact True.intro |refine ⟨⟨AV.Le.refl _, rfl⟩, ?_⟩ |refine ⟨⟨⟨_, rfl, BLe.cells (LeL.refl _)⟩, rfl⟩, ?_⟩|fail))
      · rename_i hn;refine JoinOk.of n ⟨h0, h1, ?_⟩ ?_
        · have : n = 0 := by omega
          subst this;rw [← trimL_eq hl, ← h2]; simp [trimL]
        · refine Ent.of [] ?_ ?_ rfl rfl;(repeat' (first |exact True.intro |refine ⟨⟨AV.Le.refl _, rfl⟩, ?_⟩ |refine ⟨⟨⟨_, rfl, BLe.cells (LeL.refl _)⟩, rfl⟩, ?_⟩|fail))
  · intro n ⟨h0, h1, h2⟩
    have h3 : (l.take n.toNat).length = n := by rw [List.length_take]; omega
    (repeat' (first |refine Fl.v rfl rfl rfl ?_ |refine Fl.nilF ?_ |refine AWP.seq ?_ |refine AWP.region ?_ |refine Fl.w rfl rfl rfl (by first | exact True.intro | omega) ?_ |refine Fl.b rfl rfl rfl rfl ?_ |refine Fl.skip rfl rfl ?_ |(refine Fl.splitB rfl rfl ?_ ?_ <;> (fail_if_success (intro hb_; exact absurd hb_ (by decide))) <;> intro _)|fail))
    all_goals
      rename_i hneg;refine Fl.ap0 rfl rfl rfl rfl rfl rfl rfl rfl eW rfl rfl (fun _ => rfl) (fun _ => rfl) (AV.Le.refl _) (by dsimp only [List.length_nil]; omega) (by omega) ?_;(repeat' (first |refine Fl.v rfl rfl rfl ?_ |refine Fl.nilF ?_ |refine Fl.nil (fun _ => by kernel_rfl) ?_ |refine AWP.seq ?_ |refine AWP.region ?_ |refine Fl.b rfl rfl rfl rfl ?_ |refine AWP.ret ?_));refine RetOk.ent (Ent.freeze 32 rfl) ?_;refine RetOk.of rfl (AV.Le.of_eq (aX_of ?_ ?_))
    · subst hneg;simp only [sg, if_true];have := toW_nil_iff hv;rw [h2] at h3;by_cases h0 : val l = 0
      · rw [h0, toW_zero] at h3;simp at h3;rw [h0, ← h3]; rfl
      · have h4 : (toW (val l)).length ≠ 0 := fun h => h0 (this.1 (List.eq_nil_of_length_eq_zero h));rw [decide_eq_decide]; omega
    · rw [hab, h2]
    · subst hneg;simp [sg]; omega
    · rw [hab, h2]
theorem sameWords_ok (a b : List Int) (ha : a.length ≤ 1000000) (wa : WOk a) (wb : WOk b) : PureFn Tryz.prog 91 [aW a, aW b] (aB (decide (a = b))) := by
  refine PureFn.of_body Tryz.func91 rfl Tryz.ntmps91 rfl rfl ?_;(repeat' (first |refine Fl.v rfl rfl rfl ?_ |refine Fl.nilF ?_ |refine AWP.seq ?_ |refine AWP.region ?_ |(refine AWP.condN rfl ?_ ?_ <;> intro _ <;> try (exfalso; omega)) |refine AWP.block ?_ |refine AWP.skip ?_ |refine AWP.ret ?_))
  · rename_i h;exact RetOk.of rfl (AV.Le.bool (Eq.symm (decide_eq_false fun k => h (by rw [k]))))
  · rename_i hlen;refine AWP.loop (G := Nat) (fun i => i ≤ a.length ∧ a.take i = b.take i) (fun i => St.of [] [(0, aW a), (1, aW b), (5, aN i)] []) (fun i => a.length - i) 0 ⟨by omega, by simp⟩ ?_ ?_
    · refine Ent.of [] ?_ ?_ rfl rfl;(repeat' (first |exact True.intro |refine ⟨⟨AV.Le.refl _, rfl⟩, ?_⟩|fail))
    · intro i ⟨h0, h1⟩;(repeat' (first |refine Fl.v rfl rfl rfl ?_ |refine Fl.nilF ?_ |refine Fl.nil (fun _ => by kernel_rfl) ?_ |refine AWP.seq ?_ |refine AWP.region ?_ |refine Fl.w rfl rfl rfl (by first | exact True.intro | omega) ?_ |(refine AWP.condD rfl ?_ ?_ <;> intro _ <;> try (exfalso; omega)) |(refine AWP.condN rfl ?_ ?_ <;> intro _ <;> try (exfalso; omega)) |refine AWP.block ?_ |refine AWP.skip ?_ |refine AWP.exit ?_ |refine AWP.ret ?_ |(refine Fl.elW rfl rfl rfl rfl rfl rfl rfl rfl (by omega) (by omega) (by assumption) ?_; intro _ _ _ _)|fail))
      · rename_i hi x hx _ _ y hy _ _ hne;rw [Int.toNat_natCast] at hx hy;refine RetOk.of rfl (AV.Le.bool (Eq.symm (decide_eq_false fun k => ?_)));subst k;rw [hx] at hy; cases hy;exact hne rfl
      · rename_i hi x hx _ _ y hy _ _ heq;rw [Int.toNat_natCast] at hx hy;refine LoopEnd.of (i + 1) ⟨by omega, ?_⟩ (by omega) ?_
        · rw [take_snoc hx, take_snoc hy, h1, heq]
        · refine Ent.of [] ?_ ?_ rfl rfl;(repeat' (first |exact True.intro |refine ⟨⟨AV.Le.refl _, rfl⟩, ?_⟩|fail))
      · refine RetOk.of rfl (AV.Le.bool (Eq.symm (decide_eq_true ?_)));rwa [List.take_of_length_le (by omega), List.take_of_length_le (by omega)] at h1
theorem rSame_ok (x y : Int) (hx : (toW x.natAbs).length ≤ 1000000) : PureFn Tryz.prog 27 [aX x, aX y] (aB (decide (x = y))) := by
  refine PureFn.of_body Tryz.func27 rfl Tryz.ntmps27 rfl rfl ?_;(repeat' (first |refine Fl.v rfl rfl rfl ?_ |refine Fl.nilF ?_ |refine AWP.seq ?_ |refine AWP.region ?_ |refine Fl.b rfl rfl rfl rfl ?_ |refine Fl.skip rfl rfl ?_ |refine AWP.ret ?_ |(refine Fl.splitD rfl rfl ?_ ?_ <;> intro _ <;> try (exfalso; omega))))
  · rename_i h;refine Fl.call rfl (sameWords_ok (toW x.natAbs) (toW y.natAbs) hx (toW_ok _) (toW_ok _)) rfl rfl rfl (LeL.refl _) ?_;(repeat' (first |refine Fl.v rfl rfl rfl ?_ |refine Fl.nilF ?_ |refine AWP.ret ?_));refine RetOk.of rfl (AV.Le.bool ?_);rw [decide_eq_decide];rw [decide_eq_decide] at h;refine ⟨fun k => ?_, fun k => by rw [k]⟩;have := toW_inj (by omega) (by omega) k;omega
  · rename_i h;exact RetOk.of rfl (AV.Le.bool (Eq.symm (decide_eq_false fun k => h (by rw [k]))))
theorem rAbs_ok (x : Int) (hx : (toW x.natAbs).length ≤ 100000) : PureFn Tryz.prog 128 [aX x] (aX (x.natAbs : Int)) := by
  refine PureFn.of_body Tryz.func128 rfl Tryz.ntmps128 rfl rfl ?_;(repeat' (first |refine Fl.v rfl rfl rfl ?_ |refine Fl.nilF ?_ |refine AWP.seq ?_ |refine AWP.region ?_ |refine Fl.b rfl rfl rfl rfl ?_));refine Fl.call rfl (rMake_ok false _ (toW_ok _) hx) rfl rfl rfl (LeL.refl _) ?_;(repeat' (first |refine Fl.nilF ?_ |refine Fl.b rfl rfl rfl rfl ?_ |refine AWP.ret ?_));refine RetOk.of rfl (AV.Le.agg (leX (σ := []) ?_));rw [val_toW (by omega)];simp [sg]
theorem rOf_ok (n : Int) (h0 : -9223372036854775808 ≤ n) (h1 : n ≤ 9223372036854775807) : PureFn Tryz.prog 21 [aN n] (aX n) := by
  refine PureFn.of_body Tryz.func21 rfl Tryz.ntmps21 rfl rfl ?_;(repeat' (first |refine Fl.v rfl rfl rfl ?_ |refine Fl.nilF ?_ |refine AWP.seq ?_ |refine AWP.region ?_ |refine Fl.w rfl rfl rfl (by first | exact True.intro | omega) ?_ |refine Fl.b rfl rfl rfl rfl ?_ |(refine AWP.condD rfl ?_ ?_ <;> intro _ <;> try (exfalso; omega)) |refine AWP.skip ?_ |refine Fl.cvU rfl rfl rfl rfl rfl rfl ?_))
  all_goals
    refine Fl.lit rfl rfl rfl rfl rfl eW [_, _] rfl rfl rfl rfl (by intro _ _; rfl) rfl ?_;skip;refine Fl.call rfl (rMake_ok (decide (n < 0)) _ (WOk.cons (by omega) (by omega) (WOk.cons (by omega) (by omega) WOk.nil)) (by simp)) rfl rfl rfl (LeL.refl _) ?_;(repeat' (first |refine Fl.nilF ?_ |refine Fl.b rfl rfl rfl rfl ?_ |refine AWP.ret ?_));refine RetOk.of rfl (AV.Le.agg (leX (σ := []) ?_));simp only [val, p32];rw [bitN_and32 (by omega)];simp only [sg]; simp; split <;> omega
end Go.Proofs.YtcaecieigoplbaaGreat
namespace Go.AL
/-- a number's words, so many of them -/
def padW : Nat → Int → List Int
  | 0, _ => []
  | n + 1, v => v % 4294967296 :: padW n (v / 4294967296)
theorem padW_ok : ∀ (n : Nat) (v : Int), WOk (padW n v)
  | 0, _ => WOk.nil
  | n + 1, v => WOk.cons (by omega) (by omega) (padW_ok n _)
theorem padW_len : ∀ (n : Nat) (v : Int), (padW n v).length = n
  | 0, _ => rfl
  | n + 1, v => by simp [padW, padW_len n]
theorem padW_of : ∀ {l : List Int}, WOk l → l = padW l.length (val l)
  | [], _ => rfl
  | x :: l, h => by
    have h1 := h.head;have h2 := padW_of h.tail;simp only [List.length_cons, padW, val];rw [show (x + 4294967296 * val l) % 4294967296 = x by omega, show (x + 4294967296 * val l) / 4294967296 = val l by omega, ← h2]
theorem padW_val : ∀ {n : Nat} {v : Int}, 0 ≤ v → v < BB n → val (padW n v) = v
  | 0, v, h0, h1 => by rw [BB_zero] at h1; simp [padW, val]; omega
  | n + 1, v, h0, h1 => by
    rw [BB_succ] at h1;simp only [padW, val];rw [padW_val (by omega) (by omega)];omega
theorem plus_step2 {os A B : List Int} {c x y s : Int} (hA : val (A.take (os.length + 1)) = val (A.take os.length) + BB os.length * x) (hB : val (B.take (os.length + 1)) = val (B.take os.length) + BB os.length * y)
    (h : val os + BB os.length * c = val (A.take os.length) + val (B.take os.length)) (hs : s = c + x + y) :
    val (os ++ [s % 4294967296]) + BB (os.length + 1) * (s / 4294967296) = val (A.take (os.length + 1)) + val (B.take (os.length + 1)) := by
  rw [val_snoc, hA, hB, BB_succ]
  have h1 : s = s % 4294967296 + 4294967296 * (s / 4294967296) := by omega
  generalize s % 4294967296 = p at h1;generalize s / 4294967296 = q at h1;subst hs;grind
end Go.AL
namespace Go.Proofs.YtcaecieigoplbaaGreat
open Go.AL

theorem rorder_ok (x y : Int) (hx : 0 ≤ x) (hy : 0 ≤ y) (hxl : (toW x).length ≤ 100000) (hyl : (toW y).length ≤ 100000) : PureFn Tryz.prog 102 [aW (toW x), aW (toW y)] (aN (cmpI x y)) := by
  refine PureFn.of_body Tryz.func102 rfl Tryz.ntmps102 rfl rfl ?_;have wx := toW_ok x;have wy := toW_ok y;(repeat' (first |refine Fl.v rfl rfl rfl ?_ |refine Fl.nilF ?_ |refine AWP.seq ?_ |refine AWP.region ?_ |refine Fl.w rfl rfl rfl (by first | exact True.intro | omega) ?_ |(refine AWP.condD rfl ?_ ?_ <;> intro _ <;> try (exfalso; omega)) |(refine AWP.condN rfl ?_ ?_ <;> intro _ <;> try (exfalso; omega)) |refine AWP.block ?_ |refine AWP.skip ?_ |refine AWP.ret ?_))
  · refine RetOk.of rfl (AV.Le.of_eq ?_);rw [cmpI_lt (toW_len_lt hx hy (by omega))]
  · refine RetOk.of rfl (AV.Le.of_eq ?_);rw [cmpI_gt (toW_len_lt hy hx (by omega))]
  · rename_i hl;refine AWP.loop (G := Int) (fun i => -1 ≤ i ∧ i < (toW x).length ∧ (toW x).drop (i + 1).toNat = (toW y).drop (i + 1).toNat) (fun i => St.of [] [(0, aW (toW x)), (1, aW (toW y)), (5, aN i)] []) (fun i => (i + 1).toNat) ((toW x).length - 1 : Int) ⟨by omega, by omega, by rw [List.drop_of_length_le (by omega), List.drop_of_length_le (by omega)]⟩ ?_ ?_
    · refine Ent.of [] ?_ ?_ rfl rfl;(repeat' (first |exact True.intro |refine ⟨⟨AV.Le.refl _, rfl⟩, ?_⟩|fail))
    · intro i ⟨h0, h1, h2⟩;have hsx := val_toW hx;have hsy := val_toW hy;(repeat' (first |refine Fl.v rfl rfl rfl ?_ |refine Fl.nilF ?_ |refine Fl.nil (fun _ => by kernel_rfl) ?_ |refine AWP.seq ?_ |refine AWP.region ?_ |refine Fl.w rfl rfl rfl (by first | exact True.intro | omega) ?_ |(refine AWP.condD rfl ?_ ?_ <;> intro _ <;> try (exfalso; omega)) |refine AWP.block ?_ |refine AWP.skip ?_ |refine AWP.exit ?_ |refine AWP.ret ?_ |refine Fl.elK rfl rfl rfl rfl rfl rfl rfl rfl (by assumption) (by omega) ?_ |(refine Fl.elW rfl rfl rfl rfl rfl rfl rfl rfl (by omega) (by omega) (by assumption) ?_; intro _ _ _ _)|fail))
      · rename_i hi u hu _ _ v hv _ _ huv;refine RetOk.of rfl (AV.Le.of_eq ?_);have := val_lt_at wx wy hu hv (by rw [show i.toNat + 1 = (i + 1).toNat by omega]; exact h2) huv;rw [cmpI_lt (by omega)]
      · rename_i hi u hu _ _ v hv _ _ _ huv;refine RetOk.of rfl (AV.Le.of_eq ?_);have := val_lt_at wy wx hv hu (by rw [show i.toNat + 1 = (i + 1).toNat by omega]; exact h2.symm) huv;rw [cmpI_gt (by omega)]
      · rename_i hi u hu _ _ v hv _ _ huv hvu;refine LoopEnd.of (i - 1) ⟨by omega, by omega, ?_⟩ (by omega) ?_
        · have := drop_eq_of hu hv (by rw [show i.toNat + 1 = (i + 1).toNat by omega]; exact h2) (by omega);rwa [show (i - 1 + 1).toNat = i.toNat by omega]
        · refine Ent.of [] ?_ ?_ rfl rfl;(repeat' (first |exact True.intro |refine ⟨⟨AV.Le.refl _, rfl⟩, ?_⟩|fail))
      · refine RetOk.of rfl (AV.Le.of_eq ?_)
        have : i = -1 := by omega
        subst this;rw [show ((-1 : Int) + 1).toNat = 0 from rfl, List.drop_zero, List.drop_zero] at h2;rw [cmpI_eq (by rw [← hsx, ← hsy, h2])]

theorem rplus_ok (A B : List Int) (wA : WOk A) (wB : WOk B) (hA : A.length ≤ 50000) (hB : B.length ≤ 50000) (N : Nat) (hN : N = (if B.length > A.length then B.length else A.length) + 1) : PureFn Tryz.prog 110 [aW A, aW B] (aW (padW N (val A + val B))) := by
  refine PureFn.of_body Tryz.func110 rfl Tryz.ntmps110 rfl rfl ?_
  have hN1 : (if (B.length : Int) > (A.length : Int) then (B.length : Int) else (A.length : Int)) + 1 = (N : Int) := by
    rw [hN]; split <;> split <;> omega
  have hNa : A.length < N ∧ B.length < N ∧ N ≤ 50001 := by rw [hN]; split <;> omega
  (repeat' (first |refine Fl.v rfl rfl rfl ?_ |refine Fl.nilF ?_ |refine AWP.seq ?_ |refine AWP.region ?_ |refine Fl.w rfl rfl rfl (by first | exact True.intro | omega) ?_ |refine AWP.block ?_ |refine Fl.make rfl rfl rfl rfl rfl rfl rfl rfl rfl rfl eW 0 (by exact LeL.refl _) (by rfl) (by first | omega | (dsimp only; omega)) (by first | omega | (dsimp only; omega)) (by first | omega | (dsimp only; omega)) ?_|fail));refine AWP.loop (G := List Int × Int) (fun (os, c) => os.length ≤ N ∧ WOk os ∧ 0 ≤ c ∧ c ≤ 1 ∧ val os + BB os.length * c = val (A.take os.length) + val (B.take os.length))
    (fun (os, c) => St.of [] [(0, aW A), (1, aW B), (5, aN N), (6, .row 16), (7, aU c), (8, aN os.length)] [(16, .row 1 eW (os ++ List.replicate (N - os.length) 0) 62)])
    (fun (os, c) => N - os.length) ([], 0) ⟨by simp, WOk.nil, by omega, by omega, by simp [val, BB]⟩ ?_ ?_
  · refine Ent.of [] ?_ ?_ rfl rfl;(repeat' (first |exact True.intro |refine ⟨⟨AV.Le.refl _, rfl⟩, ?_⟩ |refine ⟨⟨⟨_, rfl, BLe.row ?_⟩, rfl⟩, ?_⟩ |refine ⟨⟨AV.Le.int ?_, rfl⟩, ?_⟩|fail))
    · exact hN1
    · rw [hN1]; simp
  · intro ⟨os, c⟩ ⟨h0, h1, h2, h3, h4⟩
    have hl : (os ++ List.replicate (N - os.length) 0).length = N := by simp; omega
    (repeat' (first |refine Fl.v rfl rfl rfl ?_ |refine Fl.nilF ?_ |refine AWP.seq ?_ |refine AWP.region ?_ |refine Fl.w rfl rfl rfl (by first | exact True.intro | omega) ?_ |(refine AWP.condD rfl ?_ ?_ <;> intro _ <;> try (exfalso; omega)) |refine AWP.block ?_ |refine AWP.skip ?_ |refine AWP.exit ?_ |refine AWP.ret ?_ |(refine Fl.elW rfl rfl rfl rfl rfl rfl rfl rfl (by omega) (by omega) (by assumption) ?_; intro _ _ _ _) |refine Fl.rel rfl rfl rfl rfl rfl rfl rfl rfl (by omega) (by first | omega | (simp; omega)) ?_ |refine Fl.rst rfl rfl rfl rfl rfl rfl rfl rfl rfl rfl rfl (LeL.refl _) rfl (by first | omega | (simp; omega)) ?_|fail))
    · rename_i hi hiA u hu hu0 hu1 hiB v hv hv0 hv1;rw [Int.toNat_natCast] at hu;rw [Int.toNat_natCast] at hv;have hstep := plus_step2 (x := u) (y := v) (val_take_succ hu) (val_take_succ hv) h4 rfl;refine LoopEnd.of (os ++ [(c + u + v) % 4294967296], (c + u + v) / 4294967296) ⟨by simp; omega, h1.append (WOk.cons (by omega) (by omega) WOk.nil), by omega, by omega, by rw [List.length_append]; exact hstep⟩ (by simp only [List.length_append, List.length_cons, List.length_nil]; omega) ?_;refine Ent.of [] ?_ ?_ rfl rfl;(repeat' (first |exact True.intro |refine ⟨⟨AV.Le.refl _, rfl⟩, ?_⟩ |refine ⟨⟨⟨_, rfl, BLe.row ?_⟩, rfl⟩, ?_⟩ |refine ⟨⟨AV.Le.int ?_, rfl⟩, ?_⟩|fail))
      all_goals first
        | exact set_rep (by simp) (by simp; omega) (by rw [bitN_and32 (by omega)]; omega)
        | (rw [p32]; omega)
        | (simp; done)
    · rename_i hi hiA u hu hu0 hu1 hiB;rw [Int.toNat_natCast] at hu;have hstep := plus_step2 (x := u) (y := 0) (val_take_succ hu) (val_take_end (by omega)) h4 rfl;refine LoopEnd.of (os ++ [(c + u + 0) % 4294967296], (c + u + 0) / 4294967296) ⟨by simp; omega, h1.append (WOk.cons (by omega) (by omega) WOk.nil), by omega, by omega, by rw [List.length_append]; exact hstep⟩ (by simp only [List.length_append, List.length_cons, List.length_nil]; omega) ?_;refine Ent.of [] ?_ ?_ rfl rfl;(repeat' (first |exact True.intro |refine ⟨⟨AV.Le.refl _, rfl⟩, ?_⟩ |refine ⟨⟨⟨_, rfl, BLe.row ?_⟩, rfl⟩, ?_⟩ |refine ⟨⟨AV.Le.int ?_, rfl⟩, ?_⟩|fail))
      all_goals first
        | exact set_rep (by simp) (by simp; omega) (by rw [bitN_and32 (by omega)]; omega)
        | (rw [p32]; omega)
        | (simp; done)
    · rename_i hi hiA hiB v hv hv0 hv1;rw [Int.toNat_natCast] at hv;have hstep := plus_step2 (x := 0) (y := v) (val_take_end (by omega)) (val_take_succ hv) h4 rfl;refine LoopEnd.of (os ++ [(c + 0 + v) % 4294967296], (c + 0 + v) / 4294967296) ⟨by simp; omega, h1.append (WOk.cons (by omega) (by omega) WOk.nil), by omega, by omega, by rw [List.length_append]; exact hstep⟩ (by simp only [List.length_append, List.length_cons, List.length_nil]; omega) ?_;refine Ent.of [] ?_ ?_ rfl rfl;(repeat' (first |exact True.intro |refine ⟨⟨AV.Le.refl _, rfl⟩, ?_⟩ |refine ⟨⟨⟨_, rfl, BLe.row ?_⟩, rfl⟩, ?_⟩ |refine ⟨⟨AV.Le.int ?_, rfl⟩, ?_⟩|fail))
      all_goals first
        | exact set_rep (by simp) (by simp; omega) (by rw [bitN_and32 (by omega)]; omega)
        | (rw [p32]; omega)
        | (simp; done)
    · rename_i hi hiA hiB;have hstep := plus_step2 (x := 0) (y := 0) (val_take_end (by omega)) (val_take_end (by omega)) h4 rfl;refine LoopEnd.of (os ++ [(c + 0 + 0) % 4294967296], (c + 0 + 0) / 4294967296) ⟨by simp; omega, h1.append (WOk.cons (by omega) (by omega) WOk.nil), by omega, by omega, by rw [List.length_append]; exact hstep⟩ (by simp only [List.length_append, List.length_cons, List.length_nil]; omega) ?_;refine Ent.of [] ?_ ?_ rfl rfl;(repeat' (first |exact True.intro |refine ⟨⟨AV.Le.refl _, rfl⟩, ?_⟩ |refine ⟨⟨⟨_, rfl, BLe.row ?_⟩, rfl⟩, ?_⟩ |refine ⟨⟨AV.Le.int ?_, rfl⟩, ?_⟩|fail))
      all_goals first
        | exact set_rep (by simp) (by simp; omega) (by rw [bitN_and32 (by omega)]; omega)
        | (rw [p32]; omega)
        | (simp; done)
    · rename_i hi
      have hlen : os.length = N := by omega
      rw [hlen, List.take_of_length_le (by omega), List.take_of_length_le (by omega)] at h4;refine RetOk.ent (Ent.freeze 16 rfl) ?_;refine RetOk.of rfl (AV.Le.sl ?_);have b1 := val_lt wA;have b2 := val_lt wB;have b3 := BB_le (show A.length ≤ N - 1 by omega);have b4 := BB_le (show B.length ≤ N - 1 by omega)
      have b5 : BB N = 4294967296 * BB (N - 1) := by rw [← BB_succ]; congr 1; omega
      have b6 := BB_pos (N - 1);have b7 := val_nonneg h1
      have hc : c = 0 := by
        have : c = 0 ∨ c = 1 := by omega
        rcases this with h | h
        · exact h
        · subst h; omega
      subst hc;rw [hlen, Nat.sub_self, List.replicate_zero, List.append_nil, padW_of h1, hlen];congr 1;omega
end Go.Proofs.YtcaecieigoplbaaGreat
namespace Go.Proofs.YtcaecieigoplbaaGreat
open Go.AL

theorem rminus_ok (A B : List Int) (wA : WOk A) (wB : WOk B) (hA : A.length ≤ 50000) (hlB : B.length ≤ A.length) (hle : val B ≤ val A) : PureFn Tryz.prog 111 [aW A, aW B] (aW (padW A.length (val A - val B))) := by
  refine PureFn.of_body Tryz.func111 rfl Tryz.ntmps111 rfl rfl ?_;(repeat' (first |refine Fl.v rfl rfl rfl ?_ |refine Fl.nilF ?_ |refine AWP.seq ?_ |refine AWP.region ?_ |refine AWP.block ?_ |refine Fl.make rfl rfl rfl rfl rfl rfl rfl rfl rfl rfl eW 0 (by exact LeL.refl _) (by rfl) (by first | omega | (dsimp only; omega)) (by first | omega | (dsimp only; omega)) (by first | omega | (dsimp only; omega)) ?_|fail));refine AWP.loop (G := List Int × Int) (fun (os, c) => os.length ≤ A.length ∧ WOk os ∧ 0 ≤ c ∧ c ≤ 1 ∧ val os = val (A.take os.length) - val (B.take os.length) + BB os.length * c)
    (fun (os, c) => St.of [] [(0, aW A), (1, aW B), (5, .row 11), (6, aU c), (7, aN os.length)] [(11, .row 1 eW (os ++ List.replicate (A.length - os.length) 0) 62)])
    (fun (os, c) => A.length - os.length) ([], 0) ⟨by simp, WOk.nil, by omega, by omega, by simp [val, BB]⟩ ?_ ?_
  · refine Ent.of [] ?_ ?_ rfl rfl;(repeat' (first |exact True.intro |refine ⟨⟨AV.Le.refl _, rfl⟩, ?_⟩ |refine ⟨⟨⟨_, rfl, BLe.row rfl⟩, rfl⟩, ?_⟩|fail))
  · intro ⟨os, c⟩ ⟨h0, h1, h2, h3, h4⟩
    have hl : (os ++ List.replicate (A.length - os.length) 0).length = A.length := by simp; omega
    (repeat' (first |refine Fl.v rfl rfl rfl ?_ |refine Fl.nilF ?_ |refine AWP.seq ?_ |refine AWP.region ?_ |refine Fl.w rfl rfl rfl (by first | exact True.intro | omega) ?_ |(refine AWP.condD rfl ?_ ?_ <;> intro _ <;> try (exfalso; omega)) |refine AWP.block ?_ |refine AWP.skip ?_ |refine AWP.exit ?_ |refine AWP.ret ?_ |(refine Fl.elW rfl rfl rfl rfl rfl rfl rfl rfl (by omega) (by omega) (by assumption) ?_; intro _ _ _ _) |refine Fl.rel rfl rfl rfl rfl rfl rfl rfl rfl (by omega) (by first | omega | (simp; omega)) ?_ |refine Fl.rst rfl rfl rfl rfl rfl rfl rfl rfl rfl rfl rfl (LeL.refl _) rfl (by first | omega | (simp; omega)) ?_ |refine Fl.sumM rfl rfl rfl rfl rfl rfl ?_))
    · rename_i hi u hu hu0 hu1 hiB v hv hv0 hv1;rw [Int.toNat_natCast] at hu hv;have hstep := minus_step (p := (u + 4294967296 - c - v) % 4294967296) (q := 1 - (u + 4294967296 - c - v) / 4294967296) hu (val_take_succ hv) h4 (by omega);refine LoopEnd.of (os ++ [(u + 4294967296 - c - v) % 4294967296], 1 - (u + 4294967296 - c - v) / 4294967296) ⟨by simp; omega, h1.append (WOk.cons (by omega) (by omega) WOk.nil), by omega, by omega, by rw [List.length_append]; exact hstep⟩ (by simp only [List.length_append, List.length_cons, List.length_nil]; omega) ?_;refine Ent.of [] ?_ ?_ rfl rfl;(repeat' (first |exact True.intro |refine ⟨⟨AV.Le.refl _, rfl⟩, ?_⟩ |refine ⟨⟨⟨_, rfl, BLe.row ?_⟩, rfl⟩, ?_⟩ |refine ⟨⟨AV.Le.int ?_, rfl⟩, ?_⟩|fail))
      all_goals first
        | exact set_rep (by simp) (by simp; omega) (by rw [bitN_and32 (by omega)]; omega)
        | (rw [p32]; omega)
        | (simp; done)
    · rename_i hi u hu hu0 hu1 hiB;rw [Int.toNat_natCast] at hu;have hstep := minus_step (p := (u + 4294967296 - c - 0) % 4294967296) (q := 1 - (u + 4294967296 - c - 0) / 4294967296) hu (val_take_end (by omega)) h4 (by omega);refine LoopEnd.of (os ++ [(u + 4294967296 - c - 0) % 4294967296], 1 - (u + 4294967296 - c - 0) / 4294967296) ⟨by simp; omega, h1.append (WOk.cons (by omega) (by omega) WOk.nil), by omega, by omega, by rw [List.length_append]; exact hstep⟩ (by simp only [List.length_append, List.length_cons, List.length_nil]; omega) ?_;refine Ent.of [] ?_ ?_ rfl rfl;(repeat' (first |exact True.intro |refine ⟨⟨AV.Le.refl _, rfl⟩, ?_⟩ |refine ⟨⟨⟨_, rfl, BLe.row ?_⟩, rfl⟩, ?_⟩ |refine ⟨⟨AV.Le.int ?_, rfl⟩, ?_⟩|fail))
      all_goals first
        | exact set_rep (by simp) (by simp; omega) (by rw [bitN_and32 (by omega)]; omega)
        | (rw [p32]; omega)
        | (simp; done)
    · rename_i hi
      have hlen : os.length = A.length := by omega
      rw [hlen, List.take_of_length_le (by omega), List.take_of_length_le (by omega)] at h4;refine RetOk.ent (Ent.freeze 11 rfl) ?_;refine RetOk.of rfl (AV.Le.sl ?_);have b7 := val_lt h1;rw [hlen] at b7
      have hc : c = 0 := by
        have : c = 0 ∨ c = 1 := by omega
        rcases this with h | h
        · exact h
        · subst h; omega
      subst hc;rw [hlen, Nat.sub_self, List.replicate_zero, List.append_nil, padW_of h1, hlen];congr 1;omega
theorem rMul_ok (x y : Int) (hxl : (toW x.natAbs).length ≤ 40000) (hyl : (toW y.natAbs).length ≤ 40000) : PureFn Tryz.prog 103 [aX x, aX y] (aX (x * y)) := by
  refine PureFn.of_body Tryz.func103 rfl Tryz.ntmps103 rfl rfl ?_;have wx := toW_ok x.natAbs;have wy := toW_ok y.natAbs;have hsx := val_toW (show 0 ≤ (x.natAbs : Int) by omega);have hsy := val_toW (show 0 ≤ (y.natAbs : Int) by omega);delta aX
  generalize toW x.natAbs = A at *
  generalize toW y.natAbs = B at *
  (repeat' (first |refine Fl.v rfl rfl rfl ?_ |refine Fl.nilF ?_ |refine AWP.seq ?_ |refine AWP.region ?_ |refine Fl.w rfl rfl rfl (by first | exact True.intro | omega) ?_ |refine Fl.b rfl rfl rfl rfl ?_ |refine AWP.block ?_ |refine Fl.make rfl rfl rfl rfl rfl rfl rfl rfl rfl rfl eW 0 (by exact LeL.refl _) (by rfl) (by first | omega | (dsimp only; omega)) (by first | omega | (dsimp only; omega)) (by first | omega | (dsimp only; omega)) ?_|fail));refine AWP.loop (G := Nat × List Int) (fun (i, os) => i ≤ A.length ∧ os.length = i + B.length ∧ WOk os ∧ val os = val (A.take i) * val B)
    (fun (i, os) => St.of [] [(2, .ptr 2 0), (3, .ptr 3 0), (4, .ptr 4 0), (5, .row 16), (6, aN i)] [(2, .cells [aB (decide (x < 0)), aW A] 35), (3, .cells [aB (decide (y < 0)), aW B] 35), (4, .cells [aB false, .v (.slice none 0 0)] 35), (16, .row 1 eW (os ++ List.replicate (A.length - i) 0) 62)])
    (fun (i, os) => A.length - i) (0, List.replicate B.length 0) ⟨by omega, by simp, WOk.zeros _, by simp [val, val_zeros]⟩ ?_ ?_
  · refine Ent.of [] ?_ ?_ rfl rfl;(repeat' (first |exact True.intro |refine ⟨⟨AV.Le.refl _, rfl⟩, ?_⟩ |refine ⟨⟨⟨_, rfl, BLe.cells (LeL.refl _)⟩, rfl⟩, ?_⟩ |refine ⟨⟨⟨_, rfl, BLe.row ?_⟩, rfl⟩, ?_⟩|fail));rw [List.replicate_append_replicate]; congr 1; omega
  · intro ⟨i, os⟩ ⟨h0, h1, h2, h3⟩;(repeat' (first |refine Fl.v rfl rfl rfl ?_ |refine Fl.nilF ?_ |refine AWP.seq ?_ |refine AWP.region ?_ |(refine AWP.condD rfl ?_ ?_ <;> intro _ <;> try (exfalso; omega)) |refine AWP.block ?_ |refine AWP.skip ?_ |refine AWP.exit ?_))
    · rename_i hi;obtain ⟨u, hu⟩ : ∃ u, A[i]? = some u := ⟨_, List.getElem?_eq_getElem (by omega)⟩;obtain ⟨hu0, hu1⟩ := wx.get hu;obtain ⟨D, hD⟩ : ∃ D, D = os ++ List.replicate (A.length - i) 0 := ⟨_, rfl⟩
      have hDl : D.length = A.length + B.length := by rw [hD, List.length_append, List.length_replicate]; omega
      have hDw : WOk D := by rw [hD]; exact h2.append (WOk.zeros _)
      refine AWP.loop (G := Nat × List Int × Int) (fun (k, ps, c) => k ≤ B.length ∧ ps.length = i + k ∧ WOk ps ∧ WOk (ps ++ D.drop ps.length) ∧ 0 ≤ c ∧ c < 4294967296 ∧ val ps + BB ps.length * c = val (D.take ps.length) + BB i * (u * val (B.take k)))
        (fun (k, ps, c) => St.of [] [(2, .ptr 2 0), (3, .ptr 3 0), (4, .ptr 4 0), (5, .row 16), (6, aN i), (7, aU c), (8, aN k)] [(2, .cells [aB (decide (x < 0)), aW A] 35), (3, .cells [aB (decide (y < 0)), aW B] 35), (4, .cells [aB false, .v (.slice none 0 0)] 35), (16, .row 1 eW (ps ++ D.drop ps.length) 62)])
        (fun (k, ps, c) => B.length - k) (0, D.take i, 0) ⟨by omega, by rw [List.length_take]; omega, hDw.take i, by rw [List.length_take, Nat.min_eq_left (by omega), List.take_append_drop]; exact hDw, by omega, by omega, by rw [List.length_take, Nat.min_eq_left (by omega)]; simp [val]⟩ ?_ ?_
      · refine Ent.of [] ?_ ?_ rfl rfl;(repeat' (first |exact True.intro |refine ⟨⟨AV.Le.refl _, rfl⟩, ?_⟩ |refine ⟨⟨⟨_, rfl, BLe.cells (LeL.refl _)⟩, rfl⟩, ?_⟩ |refine ⟨⟨⟨_, rfl, BLe.row ?_⟩, rfl⟩, ?_⟩|fail));rw [List.length_take, Nat.min_eq_left (by omega), List.take_append_drop, hD]
      · intro ⟨k, ps, c⟩ ⟨k0, k1, k2, k3, k4, k5, k6⟩
        have hkl : (ps ++ D.drop ps.length).length = A.length + B.length := by rw [List.length_append, List.length_drop]; omega
        (repeat' (first |refine Fl.v rfl rfl rfl ?_ |refine Fl.nilF ?_ |refine Fl.nil (fun _ => by kernel_rfl) ?_ |refine AWP.seq ?_ |refine AWP.region ?_ |refine Fl.w rfl rfl rfl (by first | exact True.intro | omega) ?_ |(refine Fl.mulW rfl rfl rfl rfl rfl (by omega) (by omega) (by omega) (by omega) ?_; intro _ _) |(refine AWP.condD rfl ?_ ?_ <;> intro _ <;> try (exfalso; omega)) |refine AWP.block ?_ |refine AWP.skip ?_ |refine AWP.exit ?_ |refine Fl.elK rfl rfl rfl rfl rfl rfl rfl rfl (by assumption) (by omega) ?_ |(refine Fl.elW rfl rfl rfl rfl rfl rfl rfl rfl (by omega) (by omega) (by assumption) ?_; intro _ _ _ _) |refine Fl.rel rfl rfl rfl rfl rfl rfl rfl rfl (by omega) (by first | omega | (simp; omega)) ?_ |(refine Fl.rldW rfl rfl rfl rfl rfl rfl rfl (fun _ => rfl) (fun _ => rfl) (by first | omega | (simp; omega)) (by assumption) ?_; intro _ _ _ _) |refine Fl.rst rfl rfl rfl rfl rfl rfl rfl rfl rfl rfl rfl (LeL.refl _) rfl (by first | omega | (simp; omega)) ?_|fail))
        · rename_i hk v hv hv0 hv1 hp0 hp1 w hw hw0 hw1;rw [Int.toNat_natCast] at hv
          have hw2 : D[ps.length]? = some w := by rw [← get_drop (os := ps) (k := (↑i + ↑k : Int).toNat) (by omega)]; exact hw
          have hstep := times_step k1 hw2 hv k6 rfl;refine LoopEnd.of (k + 1, ps ++ [(c + (u * v + w)) % 4294967296], (c + (u * v + w)) / 4294967296) ⟨by omega, by rw [List.length_append, k1]; rfl, k2.append (WOk.cons (by omega) (by omega) WOk.nil), ?_, by omega, by omega, by rw [List.length_append]; exact hstep⟩ (by simp only; omega) ?_
          · rw [List.length_append];exact (k2.append (WOk.cons (by omega) (by omega) WOk.nil)).append (hDw.drop _)
          · refine Ent.of [] ?_ ?_ rfl rfl;(repeat' (first |exact True.intro |refine ⟨⟨AV.Le.refl _, rfl⟩, ?_⟩ |refine ⟨⟨⟨_, rfl, BLe.cells (LeL.refl _)⟩, rfl⟩, ?_⟩ |refine ⟨⟨⟨_, rfl, BLe.row ?_⟩, rfl⟩, ?_⟩|fail))
            all_goals first
              | (rw [List.length_append]; exact set_drop (by omega) (by omega) (by rw [bitN_and32 (by omega)]; omega))
              | (rw [p32]; omega)
        · rename_i hk
          have hkk : k = B.length := by omega
          refine LoopEnd.of (i + 1, ps ++ [c]) ⟨by omega, by simp; omega, k2.append (WOk.cons k4 k5 WOk.nil), ?_⟩ (by simp only; omega) ?_
          · rw [val_snoc, k6, val_take_succ hu, show ps.length = os.length by omega, hD, List.take_left, h3, hkk, List.take_length];grind
          · refine Ent.of [] ?_ ?_ rfl rfl;(repeat' (first |exact True.intro |refine ⟨⟨AV.Le.refl _, rfl⟩, ?_⟩ |refine ⟨⟨⟨_, rfl, BLe.cells (LeL.refl _)⟩, rfl⟩, ?_⟩ |refine ⟨⟨⟨_, rfl, BLe.row ?_⟩, rfl⟩, ?_⟩|fail));rw [show D.drop ps.length = List.replicate (A.length - i) 0 by rw [hD, show ps.length = os.length by omega, List.drop_left]];exact set_rep (by omega) (by omega) (by omega)
    · rename_i hi
      have hii : i = A.length := by omega
      refine Fl.callF rfl 16 rfl (rMake_ok _ os h2 (by omega)) rfl rfl rfl (LeL.cons (AV.Le.refl _) (LeL.cons (AV.Le.sl ?_) LeL.nil)) ?_
      · rw [hii, Nat.sub_self]; simp
      (repeat' (first |refine Fl.nilF ?_ |refine Fl.b rfl rfl rfl rfl ?_ |refine AWP.ret ?_));refine RetOk.of rfl (AV.Le.agg (leX (σ := []) ?_));rw [h3, hii, List.take_length, hsx, hsy, ← sg_mul x y]
theorem rAdd_ok (x y : Int) (hxl : (toW x.natAbs).length ≤ 40000) (hyl : (toW y.natAbs).length ≤ 40000) : PureFn Tryz.prog 44 [aX x, aX y] (aX (x + y)) := by
  refine PureFn.of_body Tryz.func44 rfl Tryz.ntmps44 rfl rfl ?_;have wx := toW_ok x.natAbs;have wy := toW_ok y.natAbs;have hsx := val_toW (show 0 ≤ (x.natAbs : Int) by omega);have hsy := val_toW (show 0 ≤ (y.natAbs : Int) by omega);have bx := val_lt wx;have by' := val_lt wy;have hord := rorder_ok x.natAbs y.natAbs (by omega) (by omega) (by omega) (by omega)
  have hlen : ∀ a b : Int, 0 ≤ b → b ≤ a → (toW b).length ≤ (toW a).length := fun a b hb h => by
    rcases Nat.lt_or_ge (toW a).length (toW b).length with k | k
    · have := toW_len_lt (by omega) hb k; omega
    · exact k
  (repeat' (first |refine Fl.v rfl rfl rfl ?_ |refine Fl.nilF ?_ |refine AWP.seq ?_ |refine AWP.region ?_ |refine Fl.b rfl rfl rfl rfl ?_ |(refine AWP.condD rfl ?_ ?_ <;> intro _ <;> try (exfalso; omega)) |refine AWP.skip ?_))
  · rename_i hsg;rw [decide_eq_decide] at hsg;obtain ⟨N, hN⟩ : ∃ N : Nat, N = (if (toW y.natAbs).length > (toW x.natAbs).length then (toW y.natAbs).length else (toW x.natAbs).length) + 1 := ⟨_, rfl⟩;refine Fl.call rfl (rplus_ok _ _ wx wy (by omega) (by omega) N hN) rfl rfl rfl (LeL.refl _) ?_;skip;refine Fl.call rfl (rMake_ok (decide (x < 0)) _ (padW_ok _ _) (by rw [padW_len]; split at hN <;> omega)) rfl rfl rfl (LeL.refl _) ?_;(repeat' (first |refine Fl.nil (fun _ => by kernel_rfl) ?_ |refine Fl.b rfl rfl rfl rfl ?_ |refine AWP.ret ?_));refine RetOk.of rfl (AV.Le.agg (leX (σ := []) ?_));have b3 := BB_le (show (toW x.natAbs).length ≤ N - 1 by split at hN <;> omega);have b4 := BB_le (show (toW y.natAbs).length ≤ N - 1 by split at hN <;> omega)
    have b5 : BB N = 4294967296 * BB (N - 1) := by rw [← BB_succ]; congr 1; omega
    have b6 := BB_pos (N - 1);rw [padW_val (by omega) (by omega), hsx, hsy];simp only [sg]; simp; split <;> omega
  · rename_i hsg;rw [decide_eq_decide] at hsg;refine Fl.call rfl (hord) rfl rfl rfl (LeL.refl _) ?_;(repeat' (first |refine Fl.v rfl rfl rfl ?_ |refine Fl.nilF ?_ |refine AWP.seq ?_ |refine AWP.region ?_ |(refine AWP.condD rfl ?_ ?_ <;> intro _ <;> try (exfalso; omega)) |refine AWP.skip ?_))
    · rename_i hge
      have hge2 : (y.natAbs : Int) ≤ x.natAbs := by unfold cmpI at hge; split at hge <;> omega
      refine Fl.call rfl (rminus_ok _ _ wx wy (by omega) (hlen _ _ (by omega) hge2) (by omega)) rfl rfl rfl (LeL.refl _) ?_;skip;refine Fl.call rfl (rMake_ok (decide (x < 0)) _ (padW_ok _ _) (by rw [padW_len]; omega)) rfl rfl rfl (LeL.refl _) ?_;(repeat' (first |refine Fl.nil (fun _ => by kernel_rfl) ?_ |refine Fl.b rfl rfl rfl rfl ?_ |refine AWP.ret ?_));refine RetOk.of rfl (AV.Le.agg (leX (σ := []) ?_));rw [padW_val (by omega) (by omega), hsx, hsy];simp only [sg]; simp; split <;> omega
    · rename_i hge
      have hge2 : (x.natAbs : Int) ≤ y.natAbs := by
        unfold cmpI at hge;split at hge
        · omega
        · split at hge <;> omega
      refine Fl.call rfl (rminus_ok _ _ wy wx (by omega) (hlen _ _ (by omega) hge2) (by omega)) rfl rfl rfl (LeL.refl _) ?_;skip;refine Fl.call rfl (rMake_ok (decide (y < 0)) _ (padW_ok _ _) (by rw [padW_len]; omega)) rfl rfl rfl (LeL.refl _) ?_;(repeat' (first |refine Fl.nil (fun _ => by kernel_rfl) ?_ |refine Fl.b rfl rfl rfl rfl ?_ |refine AWP.ret ?_));refine RetOk.of rfl (AV.Le.agg (leX (σ := []) ?_));rw [padW_val (by omega) (by omega), hsx, hsy];simp only [sg]; simp; split <;> omega
end Go.Proofs.YtcaecieigoplbaaGreat
namespace Go.AL
/-- how many words a number has -/
def lenI (x : Int) : Nat := (toW x.natAbs).length
theorem lenI_le {x : Int} {n : Nat} : lenI x ≤ n ↔ (x.natAbs : Int) < BB n := toW_len_le (by omega) n
theorem lenI_lt (x : Int) : (x.natAbs : Int) < BB (lenI x) := lenI_le.1 (Nat.le_refl _)
theorem lenI_mul (x y : Int) : lenI (x * y) ≤ lenI x + lenI y := by
  rw [lenI_le, Int.natAbs_mul, BB_add, Int.natCast_mul];have h1 := lenI_lt x;have h2 := lenI_lt y;have p1 := BB_pos (lenI x);have p2 := BB_pos (lenI y);have e1 : (x.natAbs : Int) * y.natAbs ≤ x.natAbs * BB (lenI y) := Int.mul_le_mul_of_nonneg_left (by omega) (by omega);have e2 : (x.natAbs : Int) * BB (lenI y) < BB (lenI x) * BB (lenI y) := Int.mul_lt_mul_of_pos_right h1 p2;omega
def AS (X : List Int) (l : List TZ) : Int := sumL (l.map fun t => ((tv X t).natAbs : Int))
end Go.AL
namespace Go.Proofs.YtcaecieigoplbaaGreat
open Go.AL

end Go.Proofs.YtcaecieigoplbaaGreat
namespace Go.AL
end Go.AL
namespace Go.Proofs.YtcaecieigoplbaaGreat
open Go.AL

end Go.Proofs.YtcaecieigoplbaaGreat
namespace Go.AL
theorem Fit.lenI {x : Int} (h : Fit x) : lenI x ≤ 4096 := h.len
end Go.AL
namespace Go.Proofs.YtcaecieigoplbaaGreat
open Go.AL

/-- a variable's exponents -/
def unitE (n i : Nat) : List Int := (List.replicate n 0).set i 1
def pVar (n i : Nat) : PZ := ⟨n, [⟨zOf 1, unitE n i⟩]⟩
theorem rVar_ok (n i : Nat) (hi : i < n) (hn : n ≤ 1000) : PureFn Tryz.prog 143 [aN n, aN i] (aP (pVar n i)) := by
  refine PureFn.of_body Tryz.func143 rfl Tryz.ntmps143 rfl rfl ?_;refine AWP.seqS ?_;(repeat' (first |refine Fl.nilF ?_ |refine AWP.region ?_ |refine Fl.b rfl rfl rfl rfl ?_));refine ⟨AWP.seqS ?_⟩;(repeat' (first |refine Fl.v rfl rfl rfl ?_ |refine Fl.nilF ?_ |refine AWP.region ?_ |refine Fl.make rfl rfl rfl rfl rfl rfl rfl rfl rfl rfl eI 0 (by exact LeL.refl _) (by rfl) (by first | omega | (dsimp only; omega)) (by first | omega | (dsimp only; omega)) (by first | omega | (dsimp only; omega)) ?_|fail));refine ⟨AWP.seqS ?_⟩;(repeat' (first |refine Fl.v rfl rfl rfl ?_ |refine Fl.nilF ?_ |refine AWP.region ?_ |refine Fl.rel rfl rfl rfl rfl rfl rfl rfl rfl (by omega) (by first | omega | (simp; omega)) ?_ |refine Fl.rst rfl rfl rfl rfl rfl rfl rfl rfl rfl rfl rfl (LeL.refl _) rfl (by first | omega | (simp; omega)) ?_|fail));refine ⟨?_⟩;refine AWP.ent (Ent.freeze 7 rfl) ?_;(repeat' (first |refine Fl.v rfl rfl rfl ?_ |refine AWP.seq ?_ |refine AWP.region ?_));refine Fl.call rfl (rOf_ok 1 (by omega) (by omega)) rfl rfl rfl (LeL.refl _) ?_;(repeat' (first |refine Fl.v rfl rfl rfl ?_ |refine Fl.b rfl rfl rfl rfl ?_));refine Fl.lit rfl rfl rfl rfl rfl eT [⟨zOf 1, unitE n i⟩] rfl rfl rfl rfl (by intro _ _; rfl) rfl ?_;(repeat' (first |refine Fl.nilF ?_ |refine Fl.b rfl rfl rfl rfl ?_ |refine AWP.ret ?_));exact RetOk.of rfl (AV.Le.refl _)
end Go.Proofs.YtcaecieigoplbaaGreat
namespace Go.AL
/-- the reference's order of exponents -/
def ordX (x y : Int) : List Int → List Int → Int
  | a :: l, b :: m => if x = y then ordX a b l m else cmpI x y
  | _, _ => cmpI x y
def rOrd (a b : List Int) : Int := ordX (sumL a) (sumL b) a b
theorem ordX_drop {x y : Int} {a b : List Int} {i : Nat} {u v : Int} (ha : a[i]? = some u) (hb : b[i]? = some v) : ordX x y (a.drop i) (b.drop i) = if x = y then ordX u v (a.drop (i + 1)) (b.drop (i + 1)) else cmpI x y := by
  rw [List.drop_eq_getElem_cons (List.getElem?_eq_some_iff.1 ha).1, List.drop_eq_getElem_cons (List.getElem?_eq_some_iff.1 hb).1, (List.getElem?_eq_some_iff.1 ha).2, (List.getElem?_eq_some_iff.1 hb).2];rfl
theorem ordX_ne {x y : Int} (h : x ≠ y) : ∀ (a b : List Int), ordX x y a b = cmpI x y
  | [], _ => rfl
  | _ :: _, [] => rfl
  | _ :: _, _ :: _ => if_neg h
/-- terms brought together -/
def keepT (t : TZ) (l : List TZ) : List TZ := if t.c.w.length = 0 then l else t :: l
def sumT (a b : TZ) : TZ := ⟨zOf (zval a.c + zval b.c), a.e⟩
def mergeT : List TZ → List TZ → List TZ
  | [], [] => []
  | a :: l, [] => keepT a (mergeT l [])
  | [], b :: m => keepT b (mergeT [] m)
  | a :: l, b :: m => if rOrd a.e b.e = 1 then keepT a (mergeT l (b :: m)) else if rOrd a.e b.e = -1 then keepT b (mergeT (a :: l) m) else keepT (sumT a b) (mergeT l m)
  termination_by a b => a.length + b.length
theorem mergeT_a {a b : List TZ} {i k : Nat} {t : TZ} (h : a[i]? = some t) (hk : b.length ≤ k) : mergeT (a.drop i) (b.drop k) = keepT t (mergeT (a.drop (i + 1)) (b.drop k)) := by
  rw [List.drop_eq_getElem_cons (List.getElem?_eq_some_iff.1 h).1, (List.getElem?_eq_some_iff.1 h).2, List.drop_of_length_le hk, mergeT]
theorem mergeT_b {a b : List TZ} {i k : Nat} {t : TZ} (h : b[k]? = some t) (hk : a.length ≤ i) : mergeT (a.drop i) (b.drop k) = keepT t (mergeT (a.drop i) (b.drop (k + 1))) := by
  rw [List.drop_eq_getElem_cons (List.getElem?_eq_some_iff.1 h).1, (List.getElem?_eq_some_iff.1 h).2, List.drop_of_length_le hk, mergeT]
theorem mergeT_c {a b : List TZ} {i k : Nat} {t u : TZ} (h : a[i]? = some t) (h2 : b[k]? = some u) : mergeT (a.drop i) (b.drop k) = if rOrd t.e u.e = 1 then keepT t (mergeT (a.drop (i + 1)) (b.drop k)) else if rOrd t.e u.e = -1 then keepT u (mergeT (a.drop i) (b.drop (k + 1))) else keepT (sumT t u) (mergeT (a.drop (i + 1)) (b.drop (k + 1))) := by
  rw [List.drop_eq_getElem_cons (List.getElem?_eq_some_iff.1 h).1, (List.getElem?_eq_some_iff.1 h).2, List.drop_eq_getElem_cons (List.getElem?_eq_some_iff.1 h2).1, (List.getElem?_eq_some_iff.1 h2).2, mergeT]
theorem keepT_0 {t : TZ} {l : List TZ} (h : t.c.w.length = 0) : keepT t l = l := if_pos h
theorem keepT_1 {t : TZ} {l : List TZ} (h : ¬ t.c.w.length = 0) : keepT t l = t :: l := if_neg h
/-- terms that can be brought together -/
structure TermsOk (n : Nat) (M : Nat) (l : List TZ) : Prop where
  w : ∀ t ∈ l, WT t
  c : ∀ t ∈ l, t.c = zOf (zval t.c)
  e : ∀ t ∈ l, EOk t.e ∧ t.e.length = n
  m : ∀ t ∈ l, lenI (zval t.c) ≤ M
end Go.AL
namespace Go.Proofs.YtcaecieigoplbaaGreat
open Go.AL

theorem rdegree_ok (l : List Int) (he : EOk l) (hl : l.length ≤ 100000) : PureFn Tryz.prog 209 [aI l] (aN (sumL l)) := by
  refine PureFn.of_body Tryz.func209 rfl Tryz.ntmps209 rfl rfl ?_;(repeat' (first |refine Fl.v rfl rfl rfl ?_ |refine Fl.nilF ?_ |refine AWP.seq ?_ |refine AWP.region ?_ |refine AWP.block ?_));refine AWP.loop (G := Nat) (fun i => i ≤ l.length) (fun i => St.of [] [(0, aI l), (3, aN (sumL (l.take i))), (4, aN i)] []) (fun i => l.length - i) 0 (by omega) ?_ ?_
  · refine Ent.of [] ?_ ?_ rfl rfl;(repeat' (first |exact True.intro |refine ⟨⟨AV.Le.refl _, rfl⟩, ?_⟩|fail))
  · intro i h0;have hs := sumL_bound (he.take i);have hi := List.length_take (l := l) (i := i);(repeat' (first |refine Fl.v rfl rfl rfl ?_ |refine Fl.nilF ?_ |refine AWP.seq ?_ |refine AWP.region ?_ |(refine AWP.condD rfl ?_ ?_ <;> intro _ <;> try (exfalso; omega)) |refine AWP.block ?_ |refine AWP.skip ?_ |refine AWP.exit ?_ |refine AWP.ret ?_ |(refine Fl.el rfl rfl rfl rfl rfl rfl rfl rfl (by omega) (by omega) ?_; intro _ _)|fail))
    · rename_i hlt x hx;rw [Int.toNat_natCast] at hx;have hb := he.get hx;(repeat' (first |refine Fl.v rfl rfl rfl ?_ |refine Fl.nilF ?_ |refine AWP.region ?_ |refine Fl.w rfl rfl rfl (by first | exact True.intro | omega) ?_|fail));refine LoopEnd.of (i + 1) (by omega) (by omega) ?_;refine Ent.of [] ?_ ?_ rfl rfl;(repeat' (first |exact True.intro |refine ⟨⟨AV.Le.refl _, rfl⟩, ?_⟩ |refine ⟨⟨AV.Le.int ?_, rfl⟩, ?_⟩|fail));exact (sumL_take_succ hx).symm
    · refine RetOk.of rfl (AV.Le.int ?_);rw [show i = l.length by omega, List.take_length]
theorem rOrder_ok (a b : List Int) (ha : EOk a) (hb : EOk b) (hal : a.length ≤ 100000) (hbl : b.length = a.length) : PureFn Tryz.prog 173 [aI a, aI b] (aN (rOrd a b)) := by
  refine PureFn.of_body Tryz.func173 rfl Tryz.ntmps173 rfl rfl ?_;(repeat' (first |refine Fl.v rfl rfl rfl ?_ |refine Fl.nilF ?_ |refine AWP.seq ?_ |refine AWP.region ?_));refine Fl.call rfl (rdegree_ok a ha hal) rfl rfl rfl (LeL.refl _) ?_;(repeat' (first |refine Fl.v rfl rfl rfl ?_));refine Fl.call rfl (rdegree_ok b hb (by omega)) rfl rfl rfl (LeL.refl _) ?_;(repeat' (first |refine Fl.v rfl rfl rfl ?_ |refine Fl.nilF ?_ |refine AWP.seq ?_ |refine AWP.region ?_ |refine AWP.block ?_));refine AWP.loop (G := Nat × Int × Int) (fun (i, x, y) => i ≤ a.length ∧ ordX x y (a.drop i) (b.drop i) = rOrd a b) (fun (i, x, y) => St.of [] [(0, aI a), (1, aI b), (5, aN x), (6, aN y), (7, aN i)] []) (fun (i, x, y) => a.length - i) (0, sumL a, sumL b) ⟨by omega, rfl⟩ ?_ ?_
  · refine Ent.of [] ?_ ?_ rfl rfl;(repeat' (first |exact True.intro |refine ⟨⟨AV.Le.refl _, rfl⟩, ?_⟩|fail))
  · intro ⟨i, x, y⟩ ⟨h0, h1⟩
    have hfin : (x ≠ y ∨ a.length ≤ i) → cmpI x y = rOrd a b := fun h => by
      rw [← h1];rcases h with h | h
      · exact (ordX_ne h _ _).symm
      · rw [List.drop_of_length_le h]; rfl
    (repeat' (first |refine Fl.v rfl rfl rfl ?_ |refine Fl.nilF ?_ |refine Fl.nil (fun _ => by kernel_rfl) ?_ |refine AWP.seq ?_ |refine AWP.region ?_ |refine Fl.w rfl rfl rfl (by first | exact True.intro | omega) ?_ |refine Fl.skip rfl rfl ?_ |refine AWP.condF rfl ?_ |(refine AWP.condD rfl ?_ ?_ <;> intro _ <;> try (exfalso; omega)) |refine AWP.block ?_ |refine AWP.skip ?_ |refine AWP.exit ?_ |refine AWP.ret ?_ |(refine Fl.el rfl rfl rfl rfl rfl rfl rfl rfl (by omega) (by omega) ?_; intro _ _) |(refine Fl.splitD rfl rfl ?_ ?_ <;> intro _ <;> try (exfalso; omega))))
    · rename_i hi hxy u hu v hv;rw [Int.toNat_natCast] at hu hv;refine LoopEnd.of (i + 1, u, v) ⟨by omega, ?_⟩ (by simp only; omega) ?_
      · rw [← h1, ordX_drop hu hv, if_pos hxy]
      · refine Ent.of [] ?_ ?_ rfl rfl;(repeat' (first |exact True.intro |refine ⟨⟨AV.Le.refl _, rfl⟩, ?_⟩|fail))
    · rename_i hi hxy hgt;exact RetOk.of rfl (AV.Le.int (by rw [← hfin (.inl hxy), cmpI_gt hgt]))
    · rename_i hi hxy hgt hlt;exact RetOk.of rfl (AV.Le.int (by rw [← hfin (.inl hxy), cmpI_lt hlt]))
    · rename_i hi hgt;exact RetOk.of rfl (AV.Le.int (by rw [← hfin (.inr (by omega)), cmpI_gt hgt]))
    · rename_i hi hgt hlt;exact RetOk.of rfl (AV.Le.int (by rw [← hfin (.inr (by omega)), cmpI_lt hlt]))
    · rename_i hi hgt hlt;exact RetOk.of rfl (AV.Le.int (by rw [← hfin (.inr (by omega)), cmpI_eq (by omega)]))
set_option maxHeartbeats 2000000 in
theorem merged_ok (n M : Nat) (hn : n ≤ 1000) (hM : M ≤ 30000) (a b : List TZ) (ha : TermsOk n M a) (hb : TermsOk n M b) (hal : a.length ≤ 100000) (hbl : b.length ≤ 100000) : PureFn Tryz.prog 144 [.sl 3 eT a, .sl 3 eT b] (.sl 3 eT (mergeT a b)) := by
  refine PureFn.of_body Tryz.func144 rfl Tryz.ntmps144 rfl rfl ?_;(repeat' (first |refine Fl.v rfl rfl rfl ?_ |refine Fl.nilF ?_ |refine AWP.seq ?_ |refine AWP.region ?_ |refine AWP.block ?_));refine AWP.ent (Ent.nilrow 5 805 rfl rfl 3 eT 124) ?_;refine AWP.loop (G := Nat × Nat × List TZ) (fun (i, k, os) => i ≤ a.length ∧ k ≤ b.length ∧ os.length ≤ i + k ∧ os ++ mergeT (a.drop i) (b.drop k) = mergeT a b) (fun (i, k, os) => St.of [] [(0, .sl 3 eT a), (1, .sl 3 eT b), (5, .row 5), (6, aN i), (7, aN k)] [(5, .row 3 eT os 124)]) (fun (i, k, os) => a.length - i + (b.length - k)) (0, 0, []) ⟨by omega, by omega, by simp, rfl⟩ ?_ ?_
  · refine Ent.of [(5, 805)] ?_ ?_ rfl rfl;(repeat' (first |exact True.intro |refine ⟨⟨AV.Le.refl _, rfl⟩, ?_⟩ |refine ⟨⟨⟨_, rfl, BLe.row rfl⟩, rfl⟩, ?_⟩|fail))
  · intro ⟨i, k, os⟩ ⟨h0, h1, h2, h3⟩;by_cases hi : i < a.length
    · obtain ⟨t, ht⟩ : ∃ t, a[i]? = some t := ⟨_, List.getElem?_eq_getElem hi⟩;have htm := List.mem_of_getElem? ht;by_cases hk : k < b.length
      · obtain ⟨u, hu⟩ : ∃ u, b[k]? = some u := ⟨_, List.getElem?_eq_getElem hk⟩;have hum := List.mem_of_getElem? hu;have hord := rOrder_ok t.e u.e (ha.e t htm).1 (hb.e u hum).1 (by have := (ha.e t htm).2; omega) (by rw [(ha.e t htm).2, (hb.e u hum).2]);have hmc := mergeT_c ht hu;(repeat' (first |refine Fl.v rfl rfl rfl ?_ |refine Fl.nilF ?_ |refine AWP.seq ?_ |refine AWP.region ?_ |refine Fl.skip rfl rfl ?_ |refine AWP.condT rfl ?_ |(refine AWP.condD rfl ?_ ?_ <;> intro _ <;> try (exfalso; omega)) |refine AWP.block ?_ |refine AWP.skip ?_ |refine Fl.elK rfl rfl rfl rfl rfl rfl rfl rfl (by assumption) (by omega) ?_ |(refine Fl.splitD rfl rfl ?_ ?_ <;> intro _ <;> try (exfalso; omega))));refine Fl.call rfl (hord) rfl rfl rfl (LeL.refl _) ?_;(repeat' (first |refine Fl.v rfl rfl rfl ?_ |refine Fl.nilF ?_ |refine Fl.nil (fun _ => by kernel_rfl) ?_ |refine AWP.seq ?_ |refine AWP.region ?_ |refine Fl.w rfl rfl rfl (by first | exact True.intro | omega) ?_ |refine Fl.b rfl rfl rfl rfl ?_ |(refine AWP.condD rfl ?_ ?_ <;> intro _ <;> try (exfalso; omega)) |refine AWP.block ?_ |refine Fl.elK rfl rfl rfl rfl rfl rfl rfl rfl (by assumption) (by omega) ?_|fail))
        · rename_i ho;rw [if_pos ho] at hmc;have heq := hmc;refine Fl.call rfl (rZero_ok t.c) rfl rfl rfl (LeL.refl _) ?_;(repeat' (first |refine Fl.v rfl rfl rfl ?_ |refine Fl.nilF ?_ |refine AWP.region ?_ |(refine AWP.condN rfl ?_ ?_ <;> intro _ <;> try (exfalso; omega)) |refine AWP.skip ?_))
          · rename_i hz;rw [keepT_1 hz] at heq;refine Fl.lit rfl rfl rfl rfl rfl eT [t] rfl rfl rfl rfl (by intro _ _; rfl) rfl ?_;skip;refine Fl.ap rfl rfl rfl rfl rfl rfl rfl rfl rfl rfl rfl rfl rfl (fun _ => rfl) (fun _ => rfl) (AV.Le.refl _) (by dsimp only [List.length_nil, List.length_cons]; omega) (by simp; omega) ?_;(repeat' (first |refine Fl.v rfl rfl rfl ?_ |refine Fl.nilF ?_));refine LoopEnd.of (i + 1, k, os ++ [t]) ⟨by omega, by omega, by simp; omega, by rw [← h3, heq, List.append_assoc]; rfl⟩ (by simp only; omega) ?_;refine Ent.of [(5, 87)] ?_ ?_ rfl rfl;(repeat' (first |exact True.intro |refine ⟨⟨AV.Le.refl _, rfl⟩, ?_⟩ |refine ⟨⟨⟨_, rfl, BLe.row rfl⟩, rfl⟩, ?_⟩|fail))
          · rename_i hz;rw [keepT_0 hz] at heq;refine LoopEnd.of (i + 1, k, os) ⟨by omega, by omega, by omega, by rw [← h3, heq]⟩ (by simp only; omega) ?_;refine Ent.of [] ?_ ?_ rfl rfl;(repeat' (first |exact True.intro |refine ⟨⟨AV.Le.refl _, rfl⟩, ?_⟩ |refine ⟨⟨⟨_, rfl, BLe.row rfl⟩, rfl⟩, ?_⟩|fail))
        · rename_i ho ho2;rw [if_neg ho, if_pos ho2] at hmc;have heq := hmc;refine Fl.call rfl (rZero_ok u.c) rfl rfl rfl (LeL.refl _) ?_;(repeat' (first |refine Fl.v rfl rfl rfl ?_ |refine Fl.nilF ?_ |refine AWP.region ?_ |(refine AWP.condN rfl ?_ ?_ <;> intro _ <;> try (exfalso; omega)) |refine AWP.skip ?_))
          · rename_i hz;rw [keepT_1 hz] at heq;refine Fl.lit rfl rfl rfl rfl rfl eT [u] rfl rfl rfl rfl (by intro _ _; rfl) rfl ?_;skip;refine Fl.ap rfl rfl rfl rfl rfl rfl rfl rfl rfl rfl rfl rfl rfl (fun _ => rfl) (fun _ => rfl) (AV.Le.refl _) (by dsimp only [List.length_nil, List.length_cons]; omega) (by simp; omega) ?_;(repeat' (first |refine Fl.v rfl rfl rfl ?_ |refine Fl.nilF ?_));refine LoopEnd.of (i, k + 1, os ++ [u]) ⟨by omega, by omega, by simp; omega, by rw [← h3, heq, List.append_assoc]; rfl⟩ (by simp only; omega) ?_;refine Ent.of [(5, 87)] ?_ ?_ rfl rfl;(repeat' (first |exact True.intro |refine ⟨⟨AV.Le.refl _, rfl⟩, ?_⟩ |refine ⟨⟨⟨_, rfl, BLe.row rfl⟩, rfl⟩, ?_⟩|fail))
          · rename_i hz;rw [keepT_0 hz] at heq;refine LoopEnd.of (i, k + 1, os) ⟨by omega, by omega, by omega, by rw [← h3, heq]⟩ (by simp only; omega) ?_;refine Ent.of [] ?_ ?_ rfl rfl;(repeat' (first |exact True.intro |refine ⟨⟨AV.Le.refl _, rfl⟩, ?_⟩ |refine ⟨⟨⟨_, rfl, BLe.row rfl⟩, rfl⟩, ?_⟩|fail))
        · rename_i ho ho2;rw [if_neg ho, if_neg ho2] at hmc;have l1 := ha.m t htm;have l2 := hb.m u hum;refine Fl.call rfl (rAdd_ok (zval t.c) (zval u.c) (show lenI _ ≤ _ by omega) (show lenI _ ≤ _ by omega)) rfl rfl rfl (LeL.cons (AV.Le.agg (leZ (σ := []) (ha.c t htm))) (LeL.cons (AV.Le.agg (leZ (σ := []) (hb.c u hum))) LeL.nil)) ?_;(repeat' (first |refine Fl.v rfl rfl rfl ?_ |refine Fl.nilF ?_ |refine Fl.nil (fun _ => by kernel_rfl) ?_ |refine AWP.seq ?_ |refine AWP.region ?_ |refine Fl.w rfl rfl rfl (by first | exact True.intro | omega) ?_ |refine Fl.b rfl rfl rfl rfl ?_ |refine Fl.elK rfl rfl rfl rfl rfl rfl rfl rfl (by assumption) (by omega) ?_|fail));have heq := hmc;refine Fl.call rfl (rZero_ok (sumT t u).c) rfl rfl rfl (LeL.refl _) ?_;(repeat' (first |refine Fl.v rfl rfl rfl ?_ |refine Fl.nilF ?_ |refine AWP.region ?_ |(refine AWP.condN rfl ?_ ?_ <;> intro _ <;> try (exfalso; omega)) |refine AWP.skip ?_))
          · rename_i hz;rw [keepT_1 hz] at heq;refine Fl.lit rfl rfl rfl rfl rfl eT [(sumT t u)] rfl rfl rfl rfl (by intro _ _; rfl) rfl ?_;skip;refine Fl.ap rfl rfl rfl rfl rfl rfl rfl rfl rfl rfl rfl rfl rfl (fun _ => rfl) (fun _ => rfl) (AV.Le.refl _) (by dsimp only [List.length_nil, List.length_cons]; omega) (by simp; omega) ?_;(repeat' (first |refine Fl.v rfl rfl rfl ?_ |refine Fl.nilF ?_));refine LoopEnd.of (i + 1, k + 1, os ++ [(sumT t u)]) ⟨by omega, by omega, by simp; omega, by rw [← h3, heq, List.append_assoc]; rfl⟩ (by simp only; omega) ?_;refine Ent.of [(5, 87)] ?_ ?_ rfl rfl;(repeat' (first |exact True.intro |refine ⟨⟨AV.Le.refl _, rfl⟩, ?_⟩ |refine ⟨⟨⟨_, rfl, BLe.row rfl⟩, rfl⟩, ?_⟩|fail))
          · rename_i hz;rw [keepT_0 hz] at heq;refine LoopEnd.of (i + 1, k + 1, os) ⟨by omega, by omega, by omega, by rw [← h3, heq]⟩ (by simp only; omega) ?_;refine Ent.of [] ?_ ?_ rfl rfl;(repeat' (first |exact True.intro |refine ⟨⟨AV.Le.refl _, rfl⟩, ?_⟩ |refine ⟨⟨⟨_, rfl, BLe.row rfl⟩, rfl⟩, ?_⟩|fail))
      · have hma := mergeT_a ht (b := b) (k := k) (by omega);(repeat' (first |refine Fl.v rfl rfl rfl ?_ |refine Fl.nilF ?_ |refine AWP.seq ?_ |refine AWP.region ?_ |refine Fl.w rfl rfl rfl (by first | exact True.intro | omega) ?_ |refine Fl.b rfl rfl rfl rfl ?_ |refine Fl.skip rfl rfl ?_ |refine AWP.condT rfl ?_ |(refine AWP.condD rfl ?_ ?_ <;> intro _ <;> try (exfalso; omega)) |refine AWP.block ?_ |refine AWP.skip ?_ |refine Fl.elK rfl rfl rfl rfl rfl rfl rfl rfl (by assumption) (by omega) ?_ |(refine Fl.splitD rfl rfl ?_ ?_ <;> intro _ <;> try (exfalso; omega))));have heq := hma;refine Fl.call rfl (rZero_ok t.c) rfl rfl rfl (LeL.refl _) ?_;(repeat' (first |refine Fl.v rfl rfl rfl ?_ |refine Fl.nilF ?_ |refine AWP.region ?_ |(refine AWP.condN rfl ?_ ?_ <;> intro _ <;> try (exfalso; omega)) |refine AWP.skip ?_))
        · rename_i hz;rw [keepT_1 hz] at heq;refine Fl.lit rfl rfl rfl rfl rfl eT [t] rfl rfl rfl rfl (by intro _ _; rfl) rfl ?_;skip;refine Fl.ap rfl rfl rfl rfl rfl rfl rfl rfl rfl rfl rfl rfl rfl (fun _ => rfl) (fun _ => rfl) (AV.Le.refl _) (by dsimp only [List.length_nil, List.length_cons]; omega) (by simp; omega) ?_;(repeat' (first |refine Fl.v rfl rfl rfl ?_ |refine Fl.nilF ?_));refine LoopEnd.of (i + 1, k, os ++ [t]) ⟨by omega, by omega, by simp; omega, by rw [← h3, heq, List.append_assoc]; rfl⟩ (by simp only; omega) ?_;refine Ent.of [(5, 87)] ?_ ?_ rfl rfl;(repeat' (first |exact True.intro |refine ⟨⟨AV.Le.refl _, rfl⟩, ?_⟩ |refine ⟨⟨⟨_, rfl, BLe.row rfl⟩, rfl⟩, ?_⟩|fail))
        · rename_i hz;rw [keepT_0 hz] at heq;refine LoopEnd.of (i + 1, k, os) ⟨by omega, by omega, by omega, by rw [← h3, heq]⟩ (by simp only; omega) ?_;refine Ent.of [] ?_ ?_ rfl rfl;(repeat' (first |exact True.intro |refine ⟨⟨AV.Le.refl _, rfl⟩, ?_⟩ |refine ⟨⟨⟨_, rfl, BLe.row rfl⟩, rfl⟩, ?_⟩|fail))
    · by_cases hk : k < b.length
      · obtain ⟨u, hu⟩ : ∃ u, b[k]? = some u := ⟨_, List.getElem?_eq_getElem hk⟩;have hmb := mergeT_b hu (a := a) (i := i) (by omega);(repeat' (first |refine Fl.v rfl rfl rfl ?_ |refine Fl.nilF ?_ |refine AWP.seq ?_ |refine AWP.region ?_ |refine Fl.w rfl rfl rfl (by first | exact True.intro | omega) ?_ |refine Fl.b rfl rfl rfl rfl ?_ |refine AWP.condT rfl ?_ |refine AWP.condF rfl ?_ |(refine AWP.condD rfl ?_ ?_ <;> intro _ <;> try (exfalso; omega)) |refine AWP.block ?_ |refine AWP.skip ?_ |refine Fl.elK rfl rfl rfl rfl rfl rfl rfl rfl (by assumption) (by omega) ?_ |(refine Fl.splitD rfl rfl ?_ ?_ <;> intro _ <;> try (exfalso; omega))));have heq := hmb;refine Fl.call rfl (rZero_ok u.c) rfl rfl rfl (LeL.refl _) ?_;(repeat' (first |refine Fl.v rfl rfl rfl ?_ |refine Fl.nilF ?_ |refine AWP.region ?_ |(refine AWP.condN rfl ?_ ?_ <;> intro _ <;> try (exfalso; omega)) |refine AWP.skip ?_))
        · rename_i hz;rw [keepT_1 hz] at heq;refine Fl.lit rfl rfl rfl rfl rfl eT [u] rfl rfl rfl rfl (by intro _ _; rfl) rfl ?_;skip;refine Fl.ap rfl rfl rfl rfl rfl rfl rfl rfl rfl rfl rfl rfl rfl (fun _ => rfl) (fun _ => rfl) (AV.Le.refl _) (by dsimp only [List.length_nil, List.length_cons]; omega) (by simp; omega) ?_;(repeat' (first |refine Fl.v rfl rfl rfl ?_ |refine Fl.nilF ?_));refine LoopEnd.of (i, k + 1, os ++ [u]) ⟨by omega, by omega, by simp; omega, by rw [← h3, heq, List.append_assoc]; rfl⟩ (by simp only; omega) ?_;refine Ent.of [(5, 87)] ?_ ?_ rfl rfl;(repeat' (first |exact True.intro |refine ⟨⟨AV.Le.refl _, rfl⟩, ?_⟩ |refine ⟨⟨⟨_, rfl, BLe.row rfl⟩, rfl⟩, ?_⟩|fail))
        · rename_i hz;rw [keepT_0 hz] at heq;refine LoopEnd.of (i, k + 1, os) ⟨by omega, by omega, by omega, by rw [← h3, heq]⟩ (by simp only; omega) ?_;refine Ent.of [] ?_ ?_ rfl rfl;(repeat' (first |exact True.intro |refine ⟨⟨AV.Le.refl _, rfl⟩, ?_⟩ |refine ⟨⟨⟨_, rfl, BLe.row rfl⟩, rfl⟩, ?_⟩|fail))
      · (repeat' (first |refine Fl.v rfl rfl rfl ?_ |refine Fl.nilF ?_ |refine AWP.seq ?_ |refine AWP.region ?_ |(refine AWP.condD rfl ?_ ?_ <;> intro _ <;> try (exfalso; omega)) |refine AWP.exit ?_ |refine AWP.ret ?_ |(refine Fl.splitD rfl rfl ?_ ?_ <;> intro _ <;> try (exfalso; omega))));refine RetOk.ent (Ent.freeze 5 rfl) ?_;refine RetOk.of rfl (AV.Le.sl ?_);rw [← h3, List.drop_of_length_le (by omega), List.drop_of_length_le (by omega), mergeT, List.append_nil]
end Go.Proofs.YtcaecieigoplbaaGreat
namespace Go.AL
theorem zval_zOf (x : Int) : zval (zOf x) = x := by
  unfold zval zOf;simp only;rw [val_toW (by omega)];simp only [sg];split
  · rename_i h; simp at h; omega
  · rename_i h; simp at h; omega
theorem EOk.zeros (n : Nat) : EOk (List.replicate n 0) := fun e he => by rw [List.eq_of_mem_replicate he]; omega
theorem TermsOk.one {n M : Nat} {x : Int} {e : List Int} (h1 : lenI x ≤ M) (h2 : EOk e) (h3 : e.length = n) : TermsOk n M [⟨zOf x, e⟩] := by
  refine ⟨?_, ?_, ?_, ?_⟩ <;> (intro t ht; simp only [List.mem_singleton] at ht; subst ht)
  · exact toW_ok _
  · rw [zval_zOf]
  · exact ⟨h2, h3⟩
  · rw [zval_zOf]; exact h1
theorem TermsOk.nil (n M : Nat) : TermsOk n M [] := by constructor <;> (intro t h; cases h)
theorem toW_len0 (x : Int) : (toW x.natAbs).length = 0 ↔ x = 0 := by
  have := toW_nil_iff (z := x.natAbs) (by omega);rw [List.length_eq_zero_iff, this]; omega
end Go.AL
namespace Go.Proofs.YtcaecieigoplbaaGreat
open Go.AL

theorem rSorted_short (n M : Nat) (hn : n ≤ 1000) (hM : M ≤ 30000) (l : List TZ) (hl : TermsOk n M l) (h2 : l.length < 2) : PureFn Tryz.prog 121 [.sl 3 eT l] (.sl 3 eT (mergeT l [])) := by
  refine PureFn.of_body Tryz.func121 rfl Tryz.ntmps121 rfl rfl ?_;(repeat' (first |refine Fl.v rfl rfl rfl ?_ |refine Fl.nilF ?_ |refine AWP.seq ?_ |refine AWP.region ?_ |(refine AWP.condD rfl ?_ ?_ <;> intro _ <;> try (exfalso; omega))));refine Fl.call rfl (merged_ok n M hn hM l [] hl (TermsOk.nil n M) (by omega) (by simp)) rfl rfl rfl (LeL.cons (AV.Le.refl _) (LeL.cons (AV.Le.nil 3 eT) LeL.nil)) ?_;(repeat' (first |refine Fl.v rfl rfl rfl ?_ |refine Fl.nilF ?_ |refine AWP.ret ?_));exact RetOk.of rfl (AV.Le.refl _)
theorem lenI_small {x : Int} (h : x.natAbs < 4294967296) : lenI x ≤ 1 := by
  rw [lenI_le, show (1 : Nat) = 0 + 1 from rfl, BB_succ, BB_zero]; omega
end Go.Proofs.YtcaecieigoplbaaGreat
namespace Go.AL
theorem EOk.set {l : List Int} (h : EOk l) (i : Nat) {v : Int} (h0 : 0 ≤ v) (h1 : v ≤ 120) : EOk (l.set i v) := fun e he => by
  rcases List.mem_or_eq_of_mem_set he with k | k
  · exact h e k
  · subst k; exact ⟨h0, h1⟩
theorem OkP.one {n : Nat} {x : Int} {e : List Int} (hn : n ≤ 32) (hx : Fit x) (h0 : x ≠ 0) (he : EOk e) (hl : e.length = n) (hd : sumL e ≤ 120) : OkP ⟨n, [⟨zOf x, e⟩]⟩ := by
  refine ⟨by simp, by simp only; omega, by simp, fun t ht => ?_, fun i a b h1 h2 => by simp at h2⟩;simp only [List.mem_singleton] at ht;subst ht;exact ⟨okZ_zOf hx, fun h => h0 ((toW_len0 x).1 h), by simp only; omega, he, hd⟩
theorem WP.one {n : Int} {x : Int} {e : List Int} : WP ⟨n, [⟨zOf x, e⟩]⟩ := fun t ht => by
  simp only [List.mem_singleton] at ht; subst ht; exact toW_ok _
end Go.AL
namespace Go.Proofs.YtcaecieigoplbaaGreat
open Go.AL

end Go.Proofs.YtcaecieigoplbaaGreat
/- From what a claim's arguments read as to abstract values over the memory as it stands. -/
namespace Go.AL
/-- all cells of a world -/
def hpOf (w : World) : Hp := fun b => match w.heap[b]? with | some (.cells cs _ _) => some cs | _ => none
theorem hpOf_has (w : World) : Has w (hpOf w) := fun b cs h => by
  unfold hpOf at h;split at h
  · rename_i cs' t fr hb;injection h with h; subst h;exact ⟨t, fr, hb⟩
  · cases h
section
variable {H : Type} {enc : TypeId × Value → H} {P : Program} {w : World} {base : Nat} {spare : Nat → Bool} {held : Bool}
theorem trodInt {t : TypeId} {k : IntKind} {fuel : Nat} {cs : List Value} {x : DataW H × List MemPlace} (ht : P.underlying t = some (.int k)) (h : DataW.trod enc P w base spare held fuel t cs = some x) : ∃ n, cs = [.int k n] ∧ (Lit.int k n).wf = true := by
  cases fuel with
  | zero => simp [DataW.trod] at h
  | succ fuel =>
    simp only [DataW.trod, ht] at h;split at h <;> simp_all
end
end Go.AL
namespace Go.AL
/-- what a number in memory is -/
def ZB (z : Z) : Prop := WOk z.w ∧ z.w.length ≤ maxLen
end Go.AL
namespace Go.Proofs.YtcaecieigoplbaaGreat
open Go.AL Go.ChangeShapes Go.WideShapes Go.ChangeAt Go.RowKit

section
variable {H : Type} {enc : TypeId × Value → H} {w : World} {base : Nat} {spare : Nat → Bool} {held : Bool}
theorem wfI64 {n : Int} (h : (Lit.int .i64 n).wf = true) : -9223372036854775808 ≤ n ∧ n ≤ 9223372036854775807 := by
  simp [Lit.wf] at h;have h1 : IntKind.i64.min = -9223372036854775808 := rfl;have h2 : IntKind.i64.max = 9223372036854775807 := rfl;omega
end
theorem below_of {W W' : World} {h h' : Hp} (e : Evo never W h W' h') : Below W.heap.size W W' := ⟨e.os, e.tape, e.output.1, e.size, fun k hk => e.block k hk (fun x => x)⟩
theorem own : ownKnob Tryz.prog.godebug = none := by kernel_rfl
theorem lb : laidOutB Tryz.prog = true := by kernel_rfl
end Go.Proofs.YtcaecieigoplbaaGreat
/- Arguments that are lists of numbers. -/
namespace Go.Proofs.YtcaecieigoplbaaGreat
open Go.AL Go.ChangeShapes Go.WideShapes Go.ChangeAt Go.RowKit
section
variable {H : Type} {enc : TypeId × Value → H} {w : World} {base : Nat} {spare : Nat → Bool} {held : Bool}
end
end Go.Proofs.YtcaecieigoplbaaGreat
namespace Go.AL
section
variable {P : Program} {tab : Tab} {n : Nat} {s : St}
variable {ops : Array Oper} {draw : Dr} {o : Oper} {l : List Oper} {acc : List Eff} {K : Exit → St → Prop}
end
/-- the two orders of exponents -/
theorem ordX_eq : ∀ (a b : List Int) (x y : Int), a.length = b.length → ordX x y a b = if x = y then cmpL a b else cmpI x y
  | [], [], x, y, _ => by
    simp only [ordX, cmpL];split
    · rename_i h; rw [cmpI_eq h]
    · rfl
  | [], _ :: _, _, _, h => by simp at h
  | _ :: _, [], _, _, h => by simp at h
  | a :: l, b :: m, x, y, h => by
    simp only [ordX, cmpL];split
    · rw [ordX_eq l m a b (by simpa using h)];by_cases hab : a = b
      · rw [if_pos hab, if_pos (cmpI_zero.2 hab)]
      · rw [if_neg hab, if_neg fun k => hab (cmpI_zero.1 k)]
    · rfl
theorem cmpI_cases (x y : Int) : cmpI x y = 1 ∧ y < x ∨ cmpI x y = 0 ∧ x = y ∨ cmpI x y = -1 ∧ x < y := by
  unfold cmpI;split
  · exact .inr (.inr ⟨rfl, by omega⟩)
  · split
    · exact .inl ⟨rfl, by omega⟩
    · exact .inr (.inl ⟨rfl, by omega⟩)
theorem cmpI_swap (x y : Int) : cmpI x y = - cmpI y x := by
  have h1 := cmpI_cases x y;have h2 := cmpI_cases y x;omega
theorem cmpL_swap : ∀ (a b : List Int), a.length = b.length → cmpL a b = - cmpL b a
  | [], [], _ => rfl
  | [], _ :: _, h => by simp at h
  | _ :: _, [], h => by simp at h
  | x :: a, y :: b, h => by
    simp only [cmpL];have hs := cmpI_swap x y;by_cases hz : cmpI x y = 0
    · rw [if_pos hz, if_pos (by omega)]; exact cmpL_swap a b (by simpa using h)
    · rw [if_neg hz, if_neg (by omega)]; exact hs
theorem cmpL_range : ∀ (a b : List Int), cmpL a b = 1 ∨ cmpL a b = 0 ∨ cmpL a b = -1
  | [], [] => .inr (.inl rfl)
  | [], _ :: _ => .inr (.inr rfl)
  | _ :: _, [] => .inl rfl
  | x :: a, y :: b => by
    simp only [cmpL];split
    · exact cmpL_range a b
    · rcases cmpI_cases x y with h | h | h <;> omega
theorem rOrd_one {a b : List Int} (h : a.length = b.length) : rOrd a b = 1 ↔ ordI a b < 0 := by
  unfold rOrd ordI;rw [ordX_eq a b _ _ h];have hs := cmpL_swap a b h;have hr := cmpL_range a b;by_cases hz : sumL a = sumL b
  · rw [if_pos hz, if_pos (by omega)]; omega
  · rw [if_neg hz, if_neg (by omega)];rcases cmpI_cases (sumL a) (sumL b) with k | k | k <;> omega
end Go.AL
namespace Go.Proofs.YtcaecieigoplbaaGreat
open Go.AL

end Go.Proofs.YtcaecieigoplbaaGreat
namespace Go.AL
end Go.AL
namespace Go.Proofs.YtcaecieigoplbaaGreat
open Go.AL

end Go.Proofs.YtcaecieigoplbaaGreat
namespace Go.AL
end Go.AL
namespace Go.Proofs.YtcaecieigoplbaaGreat
open Go.AL

end Go.Proofs.YtcaecieigoplbaaGreat
namespace Go.AL
end Go.AL
namespace Go.Proofs.YtcaecieigoplbaaGreat
open Go.AL

end Go.Proofs.YtcaecieigoplbaaGreat
namespace Go.Proofs.YtcaecieigoplbaaGreat
open Go.Shelf
def sortL_ren : Go.Shelf.Ren := ⟨fun | 6 => 234 | 15 => 238 | 14 => 237 | 28 => 210 | 29 => 248 | 20 => 240 | 21 => 241 | 22 => 242 | 23 => 243 | 24 => 244 | 25 => 245 | 26 => 246 | 27 => 247 | 46 => 250 | 47 => 251 | 48 => 252 | 49 => 253 | 50 => 254 | 57 => 255 | n => n, fun | 22 => 68 | 24 => 124 | 25 => 208 | 3 => 3 | 39 => 98 | 0 => 0 | 53 => 62 | 55 => 96 | 4 => 4 | 46 => 225 | 45 => 224 | 50 => 43 | 5 => 5 | 9 => 9 | 66 => 231 | 70 => 235 | 76 => 237 | 77 => 238 | n => n, fun | n => n⟩
theorem sortL : Go.Proofs.SlLaysF0.n6 Tryz.prog sortL_ren := {
  mixed := by kernel_rfl
  f6 := ⟨Tryz.f234.name, by decide, Tryz.func234.trans (congrArg some (by kernel_rfl))⟩
  f14 := ⟨Tryz.f237.name, by decide, Tryz.func237.trans (congrArg some (by kernel_rfl))⟩
  f15 := Tryz.func238.trans (congrArg some (by kernel_rfl))
  f20 := ⟨Tryz.f240.name, by decide, Tryz.func240.trans (congrArg some (by kernel_rfl))⟩
  f21 := ⟨Tryz.f241.name, by decide, Tryz.func241.trans (congrArg some (by kernel_rfl))⟩
  f22 := ⟨Tryz.f242.name, by decide, Tryz.func242.trans (congrArg some (by kernel_rfl))⟩
  f23 := ⟨Tryz.f243.name, by decide, Tryz.func243.trans (congrArg some (by kernel_rfl))⟩
  f24 := ⟨Tryz.f244.name, by decide, Tryz.func244.trans (congrArg some (by kernel_rfl))⟩
  f25 := ⟨Tryz.f245.name, by decide, Tryz.func245.trans (congrArg some (by kernel_rfl))⟩
  f26 := ⟨Tryz.f246.name, by decide, Tryz.func246.trans (congrArg some (by kernel_rfl))⟩
  f27 := ⟨Tryz.f247.name, by decide, Tryz.func247.trans (congrArg some (by kernel_rfl))⟩
  f28 := Tryz.func210.trans (congrArg some (by kernel_rfl))
  f29 := Tryz.func248.trans (congrArg some (by kernel_rfl))
  f46 := ⟨Tryz.f250.name, by decide, Tryz.func250.trans (congrArg some (by kernel_rfl))⟩
  f47 := Tryz.func251.trans (congrArg some (by kernel_rfl))
  f48 := Tryz.func252.trans (congrArg some (by kernel_rfl))
  f49 := ⟨Tryz.f253.name, by decide, Tryz.func253.trans (congrArg some (by kernel_rfl))⟩
  f50 := ⟨Tryz.f254.name, by decide, Tryz.func254.trans (congrArg some (by kernel_rfl))⟩
  f57 := ⟨Tryz.f255.name, by decide, Tryz.func255.trans (congrArg some (by kernel_rfl))⟩
  t0 := Tryz.underlying0
  a0 := Tryz.isAgg0
  z0 := Tryz.sizeOf0
  v0 := Tryz.zeroValue0
  t3 := Tryz.underlying3
  a3 := Tryz.isAgg3
  z3 := Tryz.sizeOf3
  v3 := Tryz.zeroValue3
  t4 := Tryz.underlying4
  a4 := Tryz.isAgg4
  z4 := Tryz.sizeOf4
  v4 := Tryz.zeroValue4
  t5 := Tryz.underlying5
  a5 := Tryz.isAgg5
  z5 := Tryz.sizeOf5
  v5 := Tryz.zeroValue5
  t9 := Tryz.underlying9
  a9 := Tryz.isAgg9
  z9 := Tryz.sizeOf9
  v9 := Tryz.zeroValue9
  t22 := Tryz.underlying68
  a22 := Tryz.isAgg68
  z22 := Tryz.sizeOf68
  v22 := Tryz.zeroValue68
  t25 := Tryz.underlying208
  a25 := Tryz.isAgg208
  z25 := Tryz.sizeOf208
  v25 := Tryz.zeroValue208
  t39 := Tryz.underlying98
  a39 := Tryz.isAgg98
  z39 := Tryz.sizeOf98
  v39 := Tryz.zeroValue98
  t45 := Tryz.underlying224
  a45 := Tryz.isAgg224
  z45 := Tryz.sizeOf224
  v45 := Tryz.zeroValue224
  t46 := Tryz.underlying225
  a46 := Tryz.isAgg225
  z46 := Tryz.sizeOf225
  v46 := Tryz.zeroValue225
  t50 := Tryz.underlying43
  a50 := Tryz.isAgg43
  z50 := Tryz.sizeOf43
  v50 := Tryz.zeroValue43
  t53 := Tryz.underlying62
  a53 := Tryz.isAgg62
  z53 := Tryz.sizeOf62
  v53 := Tryz.zeroValue62
  t55 := Tryz.underlying96
  a55 := Tryz.isAgg96
  z55 := Tryz.sizeOf96
  v55 := Tryz.zeroValue96
  t66 := Tryz.underlying231
  a66 := Tryz.isAgg231
  z66 := Tryz.sizeOf231
  v66 := Tryz.zeroValue231
  t70 := Tryz.underlying235
  a70 := Tryz.isAgg235
  z70 := Tryz.sizeOf235
  v70 := Tryz.zeroValue235
  t76 := Tryz.underlying237
  a76 := Tryz.isAgg237
  z76 := Tryz.sizeOf237
  v76 := Tryz.zeroValue237
  t77 := Tryz.underlying238
  a77 := Tryz.isAgg238
  z77 := Tryz.sizeOf238
  v77 := Tryz.zeroValue238 }
end Go.Proofs.YtcaecieigoplbaaGreat
namespace Go.AL
theorem repL_set {h : Hp} {β β' : Bt} (hb : β.le β') : ∀ (cs : List AV) (us : List Value) (j : Nat) (v : AV) (u : Value), RepL h β cs us → us[j]? = some u → Rep h β' v u → RepL h β' (cs.set j v) us
  | [], us, j, v, u, hr, hj, hv => by simp only [RepL] at hr; subst hr; simp at hj
  | c :: cs, us, 0, v, u, hr, hj, hv => by
    simp only [RepL] at hr;obtain ⟨u0, r, rfl, h1, h2⟩ := hr;simp at hj; subst hj;exact RepL.cons hv (h2.mono (Hp.le.refl h) hb)
  | c :: cs, us, j + 1, v, u, hr, hj, hv => by
    simp only [RepL] at hr;obtain ⟨u0, r, rfl, h1, h2⟩ := hr;exact RepL.cons (h1.mono (Hp.le.refl h) hb) (repL_set hb cs r j v u h2 (by simpa using hj) hv)
/-- nil in a variable's cell, seen as a row without elements. -/
theorem Ent.nilcell {n : Nat} {I : List Id} {s : St} (id : Id) (j : Nat) (b : Id) {cs : List AV} {t : TypeId} (hb : s.bx id = some (.cells cs t)) (hj : cs[j]? = some (.v (.slice none 0 0))) (hal : s.al b = false) {α : Type} (sz : Nat) (enc : α → List AV) (t' : TypeId) :
    Ent n I s ((Eff.mk .any [(id, .cells (cs.set j (.row b)) t)] [] [] []).app none ((Eff.mk .any [(b, .row sz enc ([] : List α) t')] [] [b] []).app none s)) := by
  intro C a w h β hi k
  have hB : BoxAt w h (β.set b (.slice none 0 0)) b (.row sz enc ([] : List α) t') :=
    ⟨_, [], Bt.set_same _ _ _, World.ownsRow_nil w 0 t' sz, RepL.nil, (fun x hx => by cases hx), (fun g hg => by simp [Value.ownBlock] at hg)⟩
  have k1 := k.addbox hal (bv := .slice none 0 0) hB (fun g hg => by simp [blk] at hg) none (fun t ht => by cases ht) (v := .any) (u := undef) (by simp only [Rep]) []
  have hne : id ≠ b := fun e => by
    subst e;obtain ⟨g, us, e, _⟩ := k.box id _ hb;rw [k.dom id hal] at e; cases e
  have hb1 : ((Eff.mk AV.any [(b, .row sz enc ([] : List α) t')] [] [b] []).app none s).bx id = some (.cells cs t) := by
    simp [Eff.app, updB, delB, beq_ne hne, hb]
  obtain ⟨g, us, e, hh, hr, hn⟩ := k1.box id _ hb1;obtain ⟨u, hu1, hu2⟩ := hr.get j _ hj
  have hu2 : u = .slice none 0 0 := by simpa only [Rep] using hu2
  subst hu2;exact ⟨h, _, k1.setbox (B' := .cells (cs.set j (.row b)) t) hb1 rfl rfl ⟨rfl, Nat.le_refl _⟩ rfl (fun _ _ => rfl) ⟨g, us, e, hh, repL_set (Bt.le.refl _) _ _ j _ _ hr hu1 (by simp only [Rep]; exact ⟨Bt.set_same _ _ _, _, _, _, rfl⟩), hn⟩ ⟨g, by simp [e, blk]⟩ none (fun t ht => by cases ht) (v := .any) (u := undef) (by simp only [Rep]) []⟩
end Go.AL
namespace Go.Proofs.YtcaecieigoplbaaGreat
open Go.AL

theorem cloneI_ok (l : List Int) (hl : l.length ≤ 100000) : PureFn Tryz.prog 233 [aI l] (aI l) := by
  refine PureFn.of_body Tryz.func233 rfl Tryz.ntmps233 rfl rfl ?_;refine AWP.seqS ?_;(repeat' (first |refine Fl.v rfl rfl rfl ?_ |refine Fl.nilF ?_ |refine AWP.region ?_));refine ⟨AWP.seq (AWP.seq (AWP.nilTest rfl rfl rfl rfl rfl rfl rfl rfl rfl rfl ?_))⟩;intro b hb
  cases b with
  | true =>
    (repeat' (first |refine Fl.v rfl rfl rfl ?_ |refine Fl.nilF ?_ |refine AWP.seq ?_ |refine AWP.region ?_ |refine AWP.condT rfl ?_ |refine AWP.ret ?_));rw [hb rfl];exact RetOk.of rfl (AV.Le.nil 1 eI)
  | false =>
    (repeat' (first |refine AWP.seq ?_ |refine AWP.region ?_ |refine AWP.condF rfl ?_ |refine AWP.skip ?_));refine Fl.litrow rfl rfl rfl rfl rfl rfl rfl eI [] rfl rfl rfl rfl (by simp) (LeL.refl _) ?_;(repeat' (first |refine Fl.v rfl rfl rfl ?_));refine Fl.ap rfl rfl rfl rfl rfl rfl rfl rfl rfl rfl rfl rfl rfl (fun _ => rfl) (fun _ => rfl) (AV.Le.refl _) (by dsimp only [List.length_nil]; omega) (by simp; omega) ?_;(repeat' (first |refine Fl.v rfl rfl rfl ?_ |refine Fl.nilF ?_ |refine AWP.ret ?_));refine RetOk.ent (Ent.freeze 7 rfl) ?_;exact RetOk.of rfl (AV.Le.refl _)
end Go.Proofs.YtcaecieigoplbaaGreat
/- Maps: the rules of their operations. -/
namespace Go.AL
open Go.ChangeMaps (setBlock)
section
variable {κ α : Type} {h : Hp} {ek : κ → Value} {av : α → AV}
theorem MapRep.len : ∀ {xs : List (κ × α × Nat)} {es : List MapEntry}, MapRep h ek av xs es → es.length = xs.length
  | [], es, k => by simp only [MapRep] at k; simp [k]
  | _ :: _, es, ⟨e, r, h1, _, _, _, h5⟩ => by rw [h1]; simp [h5.len]
theorem MapRep.stamps : ∀ {xs : List (κ × α × Nat)} {es : List MapEntry}, MapRep h ek av xs es → es.map (·.born) = xs.map (·.2.2)
  | [], es, k => by simp only [MapRep] at k; simp [k]
  | _ :: _, es, ⟨e, r, h1, _, _, h4, h5⟩ => by rw [h1]; simp [h4, h5.stamps]
theorem MapRep.mem : ∀ {xs : List (κ × α × Nat)} {es : List MapEntry}, MapRep h ek av xs es → ∀ e ∈ es, ∃ p ∈ xs, e.key = ek p.1 ∧ Rep h noB (av p.2.1) e.val ∧ e.born = p.2.2
  | [], es, k, e, he => by simp only [MapRep] at k; subst k; cases he
  | p :: xs, es, ⟨e, r, h1, h2, h3, h4, h5⟩, e', he => by
    subst h1;rcases List.mem_cons.1 he with rfl | he
    · exact ⟨p, by simp, h2, h3, h4⟩
    · obtain ⟨q, hq, h⟩ := h5.mem e' he;exact ⟨q, by simp [hq], h⟩
theorem MapRep.mem' : ∀ {xs : List (κ × α × Nat)} {es : List MapEntry}, MapRep h ek av xs es → ∀ p ∈ xs, ∃ e ∈ es, e.key = ek p.1 ∧ Rep h noB (av p.2.1) e.val ∧ e.born = p.2.2
  | [], es, k, e, he => by cases he
  | p :: xs, es, ⟨e, r, h1, h2, h3, h4, h5⟩, p', he => by
    subst h1;rcases List.mem_cons.1 he with rfl | he
    · exact ⟨e, by simp, h2, h3, h4⟩
    · obtain ⟨q, hq, h⟩ := h5.mem' p' he;exact ⟨q, by simp [hq], h⟩
theorem MapRep.push {k : κ} {x : α} {c : Nat} {v : Value} (hv : Rep h noB (av x) v) : ∀ {xs : List (κ × α × Nat)} {es : List MapEntry}, MapRep h ek av xs es → MapRep h ek av (xs ++ [(k, x, c)]) (es ++ [⟨ek k, v, c⟩])
  | [], es, m => by simp only [MapRep] at m; subst m; exact ⟨_, [], rfl, rfl, hv, rfl, rfl⟩
  | p :: xs, es, ⟨e, r, h1, h2, h3, h4, h5⟩ => by subst h1; exact ⟨e, _, rfl, h2, h3, h4, h5.push hv⟩
theorem MapRep.set {k : κ} {x : α} {v : Value} (hv : Rep h noB (av x) v) : ∀ {xs : List (κ × α × Nat)} {es : List MapEntry} (j : Nat) (p : κ × α × Nat), MapRep h ek av xs es → xs[j]? = some p → MapRep h ek av (xs.set j (k, x, p.2.2)) (es.modify j fun e => { e with key := ek k, val := v })
  | [], es, j, p, m, hp => by simp at hp
  | q :: xs, es, 0, p, ⟨e, r, h1, h2, h3, h4, h5⟩, hp => by
    subst h1; simp at hp; subst hp;exact ⟨_, r, rfl, rfl, hv, h4, h5⟩
  | q :: xs, es, j + 1, p, ⟨e, r, h1, h2, h3, h4, h5⟩, hp => by
    subst h1;exact ⟨e, _, rfl, h2, h3, h4, MapRep.set hv j p h5 (by simpa using hp)⟩
theorem MapRep.erase : ∀ {xs : List (κ × α × Nat)} {es : List MapEntry} (j : Nat), MapRep h ek av xs es → MapRep h ek av (xs.eraseIdx j) (es.eraseIdx j)
  | [], es, j, m => by simp only [MapRep] at m; subst m; simp [MapRep]
  | q :: xs, es, 0, ⟨e, r, h1, h2, h3, h4, h5⟩ => by subst h1; exact h5
  | q :: xs, es, j + 1, ⟨e, r, h1, h2, h3, h4, h5⟩ => by subst h1; exact ⟨e, _, rfl, h2, h3, h4, MapRep.erase j h5⟩
variable [DecidableEq κ]
def findM (k : κ) : List (κ × α × Nat) → Nat → Option (Nat × (κ × α × Nat))
  | [], _ => none
  | p :: xs, i => if k = p.1 then some (i, p) else findM k xs (i + 1)
def putM (k : κ) (x : α) (c : Nat) (xs : List (κ × α × Nat)) : List (κ × α × Nat) := match findM k xs 0 with | some (j, p) => xs.set j (k, x, p.2.2) | none => xs ++ [(k, x, c)]
def putC (k : κ) (c : Nat) (xs : List (κ × α × Nat)) : Nat := match findM k xs 0 with | some _ => c | none => c + 1
def delM (k : κ) (xs : List (κ × α × Nat)) : List (κ × α × Nat) := match findM k xs 0 with | some (j, _) => xs.eraseIdx j | none => xs
theorem findM_get {k : κ} : ∀ {xs : List (κ × α × Nat)} {i j : Nat} {p : κ × α × Nat}, findM k xs i = some (j, p) → i ≤ j ∧ xs[j - i]? = some p ∧ p.1 = k
  | [], i, j, p, hf => by simp [findM] at hf
  | q :: xs, i, j, p, hf => by
    unfold findM at hf;split at hf
    · rename_i hk;injection hf with hf; injection hf with h1 h2; subst h1 h2;exact ⟨Nat.le_refl _, by simp, hk.symm⟩
    · obtain ⟨h1, h2, h3⟩ := findM_get hf;refine ⟨by omega, ?_, h3⟩;rw [show j - i = (j - (i + 1)) + 1 by omega];simpa using h2
def FindRes (h : Hp) (av : α → AV) : Option (Nat × (κ × α × Nat)) → Option (Nat × Value) → Prop
  | none, r => r = none
  | some (j, p), r => ∃ u, r = some (j, u) ∧ Rep h noB (av p.2.1) u
end
theorem findM_put {κ α : Type} [DecidableEq κ] (k : κ) (x : α) (c : Nat) (xs : List (κ × α × Nat)) : ∃ j p, findM k (putM k x c xs) 0 = some (j, p) ∧ p.2.1 = x := by
  have app : ∀ (xs : List (κ × α × Nat)) (i : Nat), findM k xs i = none → findM k (xs ++ [(k, x, c)]) i = some (i + xs.length, (k, x, c)) := by
    intro xs
    induction xs with
    | nil => intro i _; simp [findM]
    | cons q xs ih =>
      intro i h;unfold findM at h;split at h
      · cases h
      · rename_i hk;rw [List.cons_append];unfold findM;rw [if_neg hk, ih (i + 1) h];simp only [List.length_cons];congr 2; omega
  have st : ∀ (xs : List (κ × α × Nat)) (i j : Nat) (p : κ × α × Nat) (c' : Nat), findM k xs i = some (j, p) → findM k (xs.set (j - i) (k, x, c')) i = some (j, (k, x, c')) := by
    intro xs
    induction xs with
    | nil => intro i j p c' h; simp [findM] at h
    | cons q xs ih =>
      intro i j p c' h;have h0 := findM_get h;unfold findM at h;split at h
      · injection h with h; injection h with h1 h2; subst h1;rw [Nat.sub_self];simp [findM]
      · rename_i hk;have h1 := findM_get h;rw [show j - i = (j - (i + 1)) + 1 by omega, List.set_cons_succ];unfold findM;rw [if_neg hk];exact ih (i + 1) j p c' h
  unfold putM
  cases hf : findM k xs 0 with
  | none => exact ⟨_, _, app xs 0 hf, rfl⟩
  | some q => obtain ⟨j, p⟩ := q; exact ⟨_, _, by have := st xs 0 j p p.2.2 hf; rwa [Nat.sub_zero] at this, rfl⟩
/-- What keys of a type are: values; compared; found. -/
structure KeyLaw (P : Program) (kt : TypeId) {κ : Type} [DecidableEq κ] (ek : κ → Value) (kc : κ → AV) : Prop where
  rep : ∀ (h : Hp) (β : Bt) (k : κ) (u : Value), Rep h β (kc k) u → u = ek k
  back : ∀ (h : Hp) (β : Bt) (k : κ), Rep h β (kc k) (ek k)
  check : ∀ (e : Bool) (k : κ) (w : World), (Instr.checkKey e 10000 kt (ek k)).run P w = .ok () w
  find : ∀ (h : Hp) {α : Type} (av : α → AV) (k : κ) (xs : List (κ × α × Nat)) (es : List MapEntry) (w : World), MapRep h ek av xs es → ∃ r, (Instr.findKey kt (ek k) es).run P w = .ok r w ∧ FindRes h av (findM k xs 0) r
  bits : ∀ k : κ, Instr.sameBits 10000 (ek k) (ek k) = true
theorem findAsking_run {P : Program} {kt : TypeId} {κ : Type} [DecidableEq κ] {ek : κ → Value} (heq : ∀ (a b : κ) (w : World), (Op.equal kt (ek a) (ek b)).run P w = .ok (decide (a = b)) w) (h : Hp) {α : Type} (av : α → AV) (k : κ) (w : World) :
    ∀ (xs : List (κ × α × Nat)) (es : List MapEntry) (i : Nat), MapRep h ek av xs es → ∃ r, (Instr.findAsking kt (ek k) es i).run P w = .ok r w ∧ FindRes h av (findM k xs i) r
  | [], es, i, m => by simp only [MapRep] at m; subst m; exact ⟨none, by simp [Instr.findAsking], rfl⟩
  | p :: xs, es, i, ⟨e, r, h1, h2, h3, h4, h5⟩ => by
    subst h1;simp only [Instr.findAsking, Sem.run_bind, h2, heq k p.1 w, Result.andThen, findM];by_cases hk : k = p.1
    · simp only [hk, decide_true, if_true];exact ⟨_, rfl, e.val, rfl, h3⟩
    · simp only [hk, decide_false, Bool.false_eq_true, if_false];exact findAsking_run heq h av k w xs r (i + 1) h5
theorem setBlock_size (w : World) (b : Nat) (o : Obj) : (setBlock w b o).heap.size = w.heap.size := by simp [setBlock]
theorem setBlock_other (w : World) (b i : Nat) (o : Obj) (hi : i ≠ b) : (setBlock w b o).heap[i]? = w.heap[i]? := by
  simp [setBlock, Array.getElem?_setIfInBounds, Ne.symm hi]
theorem setBlock_same (w : World) (b : Nat) (o o' : Obj) (hb : w.heap[b]? = some o') : (setBlock w b o).heap[b]? = some o := by
  have := (Array.getElem?_eq_some_iff.1 hb).1;simp [setBlock, Array.getElem?_setIfInBounds, this]
section
variable {P : Program} {tab : Tab} {n : Nat} {s : St}
variable {ops : Array Oper} {draw : Dr} {o : Oper} {l : List Oper} {acc : List Eff} {K : Exit → St → Prop}
theorem opd_tmp {s s' : St} {z : Operand} (hs : ∀ t, z = .tmp t → s'.env t = s.env t) : opd s' z = opd s z := by
  cases z with
  | tmp t => exact hs t rfl
  | _ => rfl
theorem getMap_run {w : World} {g : Nat} {es : Array MapEntry} {c : Nat} (hh : w.heap[g]? = some (.map es c)) : (getObj g).run P w = .ok (.map es c) w := by simp [getObj, Sem.run, hh]
theorem setMap_run {w : World} {g : Nat} {es : Array MapEntry} {c : Nat} (hh : w.heap[g]? = some (.map es c)) (o : Obj) : (setObj g o).run P w = .ok () (setBlock w g o) := by simp [setObj, Sem.run, hh, setBlock]
/-- 'make(map)' -/
theorem Fl.mkmap {t : TypeId} (hop : o.op = .makeMap t none) (hg : gOk ops s o = true) {d : Tmp} (hdst : o.dst = some d) (hd : Nat.blt d n = true) {κ α : Type} (ek : κ → Value) (av : α → AV) (hn : s.al d = false)
    (r : Fl P n ops draw l ((Eff.mk (.mp d) [(d, .map ek av ([] : List (κ × α × Nat)) 0)] [] [d] []).app o.dst s) (Eff.mk (.mp d) [(d, .map ek av ([] : List (κ × α × Nat)) 0)] [] [d] [] :: acc) K)
    (hJ : presOk draw.J (Eff.mk (.mp d) [(d, .map ek av ([] : List (κ × α × Nat)) 0)] [] [d] []) := by repeat' (first | exact True.intro | exact rfl | refine ⟨?_, ?_⟩ | fail)) : Fl P n ops draw (o :: l) s acc K := by
  refine Fl.op hg ⟨fun t ht => (by rw [hdst] at ht; injection ht with ht; subst ht; exact ltOf hd), fun C s' a w h β Q K hs hb hal k hK => ?_⟩ (newOk1 hn) hJ r
  have hrun : (execOp a.eval o).run P w = .ok (.value (.map (some w.heap.size))) (w.alloc (.map #[] 0)) := by
    simp only [execOp, hop, Instr.makeMap, Sem.run_bind, Result.andThen];rfl
  unfold Oper.wp;rw [hrun];simp only [Oper.upon];refine hK _ _ h (β.set d (.map (some w.heap.size))) ?_;have k1 := k.step (evo_alloc k.evo.has (.map #[] 0));rw [hdst];refine k1.addbox (hal d (by simp)) ?_ ?_ (some d) (fun t ht => by injection ht with ht; subst ht; exact ltOf hd) ?_ []
  · exact ⟨w.heap.size, #[], Bt.set_same _ _ _, heap_alloc_new w _, rfl, has_none k.evo.has (Nat.le_refl _)⟩
  · intro g hg;simp [blk] at hg;subst hg;refine ⟨fun id' B' hb' e => ?_, .inr k.evo.size⟩;have := (k.blk_lt hb' e).1;omega
  · simp only [Rep]; exact ⟨_, Bt.set_same _ _ _, rfl⟩
/-- 'm[k]', at values of several cells -/
theorem Fl.lookup [f : Facts P tab] {t kt e : TypeId} {x y : Operand} (hop : o.op = .lookup t x y false) {m : Id} (hx : opd s x = .mp m) {sz' by' : Nat} {z' : List Value} (hts : tab t = some ⟨.map kt e, sz', by', z'⟩) {i : TI} (hti : tab e = some i) (hag : Nat.blt 1 i.size = true)
    {κ α : Type} [DecidableEq κ] {ek : κ → Value} {av : α → AV} {xs : List (κ × α × Nat)} {clock : Nat} (hb : s.bx m = some (.map ek av xs clock)) {kc : κ → AV} (law : KeyLaw P kt ek kc) (k0 : κ) (hy : (opd s y).Le (kc k0)) (hyc : (opd s y).closed = true)
    {v : AV} (hv : match findM k0 xs 0 with | some (_, p) => (av p.2.1).Le v | none => (AV.agg (vL i.zero)).Le v) (hvc : ∀ a, (av a).closed = true) (hg : gOk ops s o = true) (hd : dOk n o.dst = true)
    (r : Fl P n ops draw l ((Eff.mk v [] [] [] [m]).app o.dst s) (Eff.mk v [] [] [] [m] :: acc) K) : Fl P n ops draw (o :: l) s acc K := by
  refine Fl.opv hg (OpJ.of_run (tb := [m]) (dOk_lt hd) fun C s' a w h β ho hbs k => ?_) r;have hxr := opd_rep k x;have hyr := opd_rep k y;rw [ho x (by rw [hop]; simp [Op.operands]), hx] at hxr;rw [ho y (by rw [hop]; simp [Op.operands])] at hyr;simp only [Rep] at hxr;obtain ⟨g, e1, e2⟩ := hxr;obtain ⟨g', es, e3, hh, hm, _⟩ := k.box m _ ((hbs m (by simp)).trans hb);rw [e1] at e3; injection e3 with e3; injection e3 with e3; injection e3 with e3; subst e3;have hyk := law.rep _ _ _ _ (hy _ _ _ hyr);obtain ⟨res, hf, hfr⟩ := law.find h av k0 xs es.toList w hm;obtain ⟨inf, zv, h1, h2, h3, h4, h5⟩ := (f.tabOk e i hti).info;have hu := (f.tabOk _ _ hts).und;simp only at hu
  have hz : (zeroValue e).run P w = .ok zv w := by simp [zeroValue, typeInfo, h1, h4]
  have hzv : ∃ us, zv = .agg us ∧ us.toList = i.zero := by
    cases zv with
    | agg us => exact ⟨us, rfl, h5⟩
    | _ =>
      have hs := (f.tabOk e i hti).zs;have := ltOf hag;simp [Value.cells] at h5;rw [← h5] at hs; simp at hs; omega
  have hgo : (getObj g).run P w = .ok (.map es clock) w := getMap_run hh
  cases hfm : findM k0 xs 0 with
  | none =>
    rw [hfm] at hv hfr;have hfr : res = none := hfr;subst hfr;obtain ⟨us, rfl, hus⟩ := hzv;refine ⟨.agg us, ?_, hv _ _ _ (by simp only [Rep]; exact ⟨us, rfl, by rw [← hus]; exact vL_rep _⟩)⟩;simp only [execOp, hop, e2, hyk, Instr.lookup, Sem.run_bind, run_underlying hu, Result.andThen, hgo, Sem.run_pure, law.check, hf, hz, Bool.false_eq_true, if_false]
  | some q =>
    obtain ⟨j, p⟩ := q;rw [hfm] at hv hfr;obtain ⟨u, rfl, hur⟩ := hfr;have hv : (av p.2.1).Le v := hv;refine ⟨u, ?_, hv _ _ _ (hur.closed _ _ (hvc _))⟩;simp only [execOp, hop, e2, hyk, Instr.lookup, Sem.run_bind, run_underlying hu, Result.andThen, hgo, Sem.run_pure, law.check, hf, Bool.false_eq_true, if_false]
/-- 'm[k] = x' -/
theorem Fl.mupd [f : Facts P tab] {t kt e : TypeId} {x y z : Operand} (hop : o.op = .mapUpdate t x y z) {m : Id} (hx : opd s x = .mp m) {sz' by' : Nat} {z' : List Value} (hts : tab t = some ⟨.map kt e, sz', by', z'⟩)
    {κ α : Type} [DecidableEq κ] {ek : κ → Value} {av : α → AV} {xs : List (κ × α × Nat)} {clock : Nat} (hb : s.bx m = some (.map ek av xs clock)) {kc : κ → AV} (law : KeyLaw P kt ek kc) (k0 : κ) (hy : (opd s y).Le (kc k0)) (hyc : (opd s y).closed = true) (x0 : α) (hz : (opd s z).Le (av x0)) (hzc : (opd s z).closed = true) (hg : gOk ops s o = true) (hdst : o.dst = none)
    (r : Fl P n ops draw l ((Eff.mk .any [(m, .map ek av (putM k0 x0 clock xs) (putC k0 clock xs))] [] [] [m]).app o.dst s) (Eff.mk .any [(m, .map ek av (putM k0 x0 clock xs) (putC k0 clock xs))] [] [] [m] :: acc) K)
    (hJ : presOk draw.J (Eff.mk .any [(m, .map ek av (putM k0 x0 clock xs) (putC k0 clock xs))] [] [] [m]) := by repeat' (first | exact True.intro | exact rfl | refine ⟨?_, ?_⟩ | fail)) : Fl P n ops draw (o :: l) s acc K := by
  refine Fl.op hg ⟨fun t ht => (by rw [hdst] at ht; cases ht), fun C s' a w h β Q K hs hbs hal k hK => ?_⟩ rfl hJ r;have same : ∀ q : Operand, q ∈ o.op.operands → opd s' q = opd s q := fun q hq => opd_tmp fun t ht => hs t (by rw [← ht]; exact hq);have hxr := opd_rep k x;have hyr := opd_rep k y;have hzr := opd_rep k z;rw [same x (by rw [hop]; simp [Op.operands]), hx] at hxr;rw [same y (by rw [hop]; simp [Op.operands])] at hyr;rw [same z (by rw [hop]; simp [Op.operands])] at hzr;simp only [Rep] at hxr;obtain ⟨g, e1, e2⟩ := hxr;have hb' : s'.bx m = some (.map ek av xs clock) := (hbs m (by simp [Eff.ts])).trans hb;obtain ⟨g', es, e3, hh, hm, hnone⟩ := k.box m _ hb';rw [e1] at e3; injection e3 with e3; injection e3 with e3; injection e3 with e3; subst e3;have hyk := law.rep _ _ _ _ (hy _ _ _ hyr);have hzk : Rep h noB (av x0) (a.eval z) := hz _ _ _ (hzr.closed _ _ hzc);obtain ⟨res, hf, hfr⟩ := law.find h av k0 xs es.toList w hm;have hu := (f.tabOk _ _ hts).und;simp only at hu;have hgo : (getObj g).run P w = .ok (.map es clock) w := getMap_run hh
  have key : ∃ es', (execOp a.eval o).run P w = .ok .skip (setBlock w g (.map es' (putC k0 clock xs))) ∧ MapRep h ek av (putM k0 x0 clock xs) es'.toList := by
    unfold putM putC
    cases hfm : findM k0 xs 0 with
    | none =>
      rw [hfm] at hfr;have hfr : res = none := hfr;subst hfr;refine ⟨es.push ⟨ek k0, a.eval z, clock⟩, ?_, by rw [Array.toList_push]; exact hm.push hzk⟩;simp only [execOp, hop, e2, hyk, Instr.mapUpdate, Sem.run_bind, run_underlying hu, Result.andThen, hgo, law.check, hf, setMap_run hh, Sem.run_pure]
    | some q =>
      obtain ⟨j, p⟩ := q;rw [hfm] at hfr;obtain ⟨u, rfl, hur⟩ := hfr;obtain ⟨_, hget, hpk⟩ := findM_get hfm;rw [Nat.sub_zero] at hget
      have hold : ((es[j]?).map (·.key)).getD (ek k0) = ek k0 := by
        have hjl : j < es.toList.length := by rw [hm.len]; exact (List.getElem?_eq_some_iff.1 hget).1
        have hall : ∀ (xs : List (κ × α × Nat)) (es : List MapEntry) (j : Nat) (p : κ × α × Nat) (e : MapEntry), MapRep h ek av xs es → xs[j]? = some p → es[j]? = some e → e.key = ek p.1 := by
          intro xs
          induction xs with
          | nil => intro es j p e _ hp; simp at hp
          | cons q xs ih =>
            intro es j p e hm hp he;obtain ⟨e0, r0, q1, q2, _, _, q5⟩ := hm;subst q1
            cases j with
            | zero => simp at hp he; subst hp he; exact q2
            | succ j => exact ih r0 j p e q5 (by simpa using hp) (by simpa using he)
        have := hall xs es.toList j p es.toList[j] hm hget (List.getElem?_eq_getElem hjl);rw [← Array.getElem?_toList, List.getElem?_eq_getElem hjl, Option.map_some, Option.getD_some, this, hpk]
      refine ⟨es.modify j fun e => { e with key := ek k0, val := a.eval z }, ?_, by rw [Array.toList_modify]; exact hm.set hzk j p hget⟩;simp only [execOp, hop, e2, hyk, Instr.mapUpdate, Sem.run_bind, run_underlying hu, Result.andThen, hgo, law.check, hf, hold, Instr.keyThatStays, law.bits, if_true, setMap_run hh, Sem.run_pure]
  obtain ⟨es', hrun, hm'⟩ := key;unfold Oper.wp;rw [hrun];simp only [Oper.upon];refine hK _ _ h β ?_;refine k.setbox (B' := .map ek av (putM k0 x0 clock xs) (putC k0 clock xs)) (w' := setBlock w g (.map es' (putC k0 clock xs))) hb' rfl rfl ⟨rfl, Nat.le_refl _⟩ (setBlock_size _ _ _) (fun j hj => setBlock_other w g j _ (fun e => hj (by simp [e1, blk, e]))) ⟨g, es', e1, setBlock_same w g _ _ hh, hm', hnone⟩ ⟨g, by simp [e1, blk]⟩ o.dst (fun t ht => by rw [hdst] at ht; cases ht) (v := .any) (u := undef) (by simp only [Rep]) [m]
/-- 'delete(m, k)' -/
theorem Fl.mdel [f : Facts P tab] {t kt e : TypeId} {ty2 : TypeId} {x y : Operand} (hop : o.op = .call { callee := .builtin .delete, args := ⟨[x, y]⟩, argTypes := ⟨[t, ty2]⟩ }) {m : Id} (hx : opd s x = .mp m) {sz' by' : Nat} {z' : List Value} (hts : tab t = some ⟨.map kt e, sz', by', z'⟩)
    {κ α : Type} [DecidableEq κ] {ek : κ → Value} {av : α → AV} {xs : List (κ × α × Nat)} {clock : Nat} (hb : s.bx m = some (.map ek av xs clock)) {kc : κ → AV} (law : KeyLaw P kt ek kc) (k0 : κ) (hy : (opd s y).Le (kc k0)) (hyc : (opd s y).closed = true) (hg : gOk ops s o = true) (hdst : o.dst = none)
    (r : Fl P n ops draw l ((Eff.mk .any [(m, .map ek av (delM k0 xs) clock)] [] [] [m]).app o.dst s) (Eff.mk .any [(m, .map ek av (delM k0 xs) clock)] [] [] [m] :: acc) K)
    (hJ : presOk draw.J (Eff.mk .any [(m, .map ek av (delM k0 xs) clock)] [] [] [m]) := by repeat' (first | exact True.intro | exact rfl | refine ⟨?_, ?_⟩ | fail)) : Fl P n ops draw (o :: l) s acc K := by
  refine Fl.op hg ⟨fun t ht => (by rw [hdst] at ht; cases ht), fun C s' a w h β Q K hs hbs hal k hK => ?_⟩ rfl hJ r;have same : ∀ q : Operand, q ∈ o.op.operands → opd s' q = opd s q := fun q hq => opd_tmp fun t ht => hs t (by rw [← ht]; exact hq);have hxr := opd_rep k x;have hyr := opd_rep k y;rw [same x (by rw [hop]; simp [Op.operands, Call.operands]), hx] at hxr;rw [same y (by rw [hop]; simp [Op.operands, Call.operands])] at hyr;simp only [Rep] at hxr;obtain ⟨g, e1, e2⟩ := hxr;have hb' : s'.bx m = some (.map ek av xs clock) := (hbs m (by simp [Eff.ts])).trans hb;obtain ⟨g', es, e3, hh, hm, hnone⟩ := k.box m _ hb';rw [e1] at e3; injection e3 with e3; injection e3 with e3; injection e3 with e3; subst e3;have hyk := law.rep _ _ _ _ (hy _ _ _ hyr);obtain ⟨res, hf, hfr⟩ := law.find h av k0 xs es.toList w hm;have hu := (f.tabOk _ _ hts).und;simp only at hu;have hgo : (getObj g).run P w = .ok (.map es clock) w := getMap_run hh
  have key : ∃ es', (execOp a.eval o).run P w = .ok (.value (.tuple #[])) (setBlock w g (.map es' clock)) ∧ MapRep h ek av (delM k0 xs) es'.toList := by
    unfold delM
    cases hfm : findM k0 xs 0 with
    | none =>
      rw [hfm] at hfr;have hfr : res = none := hfr;subst hfr;refine ⟨es, ?_, hm⟩;simp [execOp, hop, resolve, invoke, builtin, e2, hyk, Builtin.delete_, run_underlying hu, Result.andThen, hgo, law.check, hf, setMap_run hh]
    | some q =>
      obtain ⟨j, p⟩ := q;rw [hfm] at hfr;obtain ⟨u, rfl, hur⟩ := hfr;refine ⟨es.eraseIdxIfInBounds j, ?_, by rw [Array.toList_eraseIdxIfInBounds]; exact hm.erase j⟩;simp [execOp, hop, resolve, invoke, builtin, e2, hyk, Builtin.delete_, run_underlying hu, Result.andThen, hgo, law.check, hf, setMap_run hh]
  obtain ⟨es', hrun, hm'⟩ := key;unfold Oper.wp;rw [hrun];simp only [Oper.upon];refine hK _ _ h β ?_;have := k.setbox (B' := .map ek av (delM k0 xs) clock) (w' := setBlock w g (.map es' clock)) hb' rfl rfl ⟨rfl, Nat.le_refl _⟩ (setBlock_size _ _ _) (fun j hj => setBlock_other w g j _ (fun e => hj (by simp [e1, blk, e]))) ⟨g, es', e1, setBlock_same w g _ _ hh, hm', hnone⟩ ⟨g, by simp [e1, blk]⟩ o.dst (fun t ht => by rw [hdst] at ht; cases ht) (v := .any) (u := .tuple #[]) (by simp only [Rep]) [m];exact this
/-- 'range m' -/
theorem Fl.range [f : Facts P tab] {t kt e : TypeId} {x : Operand} (hop : o.op = .range t x) {m : Id} (hx : opd s x = .mp m) {sz' by' : Nat} {z' : List Value} (hts : tab t = some ⟨.map kt e, sz', by', z'⟩)
    {κ α : Type} {ek : κ → Value} {av : α → AV} {xs : List (κ × α × Nat)} {clock : Nat} (hb : s.bx m = some (.map ek av xs clock)) (hg : gOk ops s o = true) {d : Tmp} (hdst : o.dst = some d) (hd : Nat.blt d n = true) (hn : s.al d = false)
    (r : Fl P n ops draw l ((Eff.mk (.ptr d 0) [(d, .iter m clock [] clock)] [] [d] [m]).app o.dst s) (Eff.mk (.ptr d 0) [(d, .iter m clock [] clock)] [] [d] [m] :: acc) K)
    (hJ : presOk draw.J (Eff.mk (.ptr d 0) [(d, .iter m clock [] clock)] [] [d] [m]) := by repeat' (first | exact True.intro | exact rfl | refine ⟨?_, ?_⟩ | fail)) : Fl P n ops draw (o :: l) s acc K := by
  refine Fl.op hg ⟨fun t ht => (by rw [hdst] at ht; injection ht with ht; subst ht; exact ltOf hd), fun C s' a w h β Q K hs hbs hal k hK => ?_⟩ (newOk1 hn) hJ r;have same : ∀ q : Operand, q ∈ o.op.operands → opd s' q = opd s q := fun q hq => opd_tmp fun t ht => hs t (by rw [← ht]; exact hq);have hxr := opd_rep k x;rw [same x (by rw [hop]; simp [Op.operands]), hx] at hxr;simp only [Rep] at hxr;obtain ⟨g, e1, e2⟩ := hxr;obtain ⟨g', es, e3, hh, hm, hnone⟩ := k.box m _ ((hbs m (by simp [Eff.ts])).trans hb);rw [e1] at e3; injection e3 with e3; injection e3 with e3; injection e3 with e3; subst e3;have hu := (f.tabOk _ _ hts).und;simp only at hu;have hgo : (getObj g).run P w = .ok (.map es clock) w := getMap_run hh
  have hrun : (execOp a.eval o).run P w = .ok (.value (.pointer (some ⟨w.heap.size, 0, none⟩))) (w.alloc (.mapIter (some g) clock #[] clock)) := by
    simp only [execOp, hop, e2, Instr.range, Sem.run_bind, run_underlying hu, Result.andThen, hgo, Sem.run_pure];rfl
  unfold Oper.wp;rw [hrun];simp only [Oper.upon];refine hK _ _ h (β.set d (.pointer (some ⟨w.heap.size, 0, none⟩))) ?_;have k1 := k.step (evo_alloc k.evo.has (.mapIter (some g) clock #[] clock));have hdn := k.dom d (hal d (by simp))
  have hmd : m ≠ d := fun e => by rw [e, hdn] at e1; cases e1
  rw [hdst];refine k1.addbox (hal d (by simp)) ?_ ?_ (some d) (fun t ht => by injection ht with ht; subst ht; exact ltOf hd) ?_ [m]
  · exact ⟨w.heap.size, g, Bt.set_same _ _ _, by rw [Bt.set_ne _ _ _ _ hmd]; exact e1, heap_alloc_new w _, has_none k.evo.has (Nat.le_refl _)⟩
  · intro g hg;simp [blk] at hg;subst hg;refine ⟨fun id' B' hb' e => ?_, .inr k.evo.size⟩;have := (k.blk_lt hb' e).1;omega
  · simp only [Rep]; exact ⟨_, Bt.set_same _ _ _, rfl⟩
end
end Go.AL
/- Maps: ranges over them; arrays: slices of them. -/
namespace Go.AL
open Go.ChangeMaps (setBlock)
section
variable {P : Program} {tab : Tab} {n : Nat} {s : St}
variable {ops : Array Oper} {draw : Dr} {o : Oper} {l : List Oper} {acc : List Eff} {K : Exit → St → Prop}
/-- the entry of a range's step -/
theorem Fl.entry {x : Operand} (hop : o.op = .entry x) {r m : Id} (hx : opd s x = .ptr r 0) {since : Nat} {seen : List Nat} {st last : Nat} (hr : s.bx r = some (.iter m since (seen ++ [st]) last))
    {κ α : Type} {ek : κ → Value} {av : α → AV} {xs : List (κ × α × Nat)} (hb : s.bx m = some (.map ek av xs last)) {kc : κ → AV} (hkc : ∀ (h : Hp) (β : Bt) (k : κ), Rep h β (kc k) (ek k)) (hvc : ∀ a, (av a).closed = true) {p : κ × α × Nat} (hp : p ∈ xs) (hst : p.2.2 = st) (hnd : (xs.map (·.2.2)).Nodup) (hg : gOk ops s o = true) (hd : dOk n o.dst = true)
    (k : Fl P n ops draw l ((Eff.mk (.tup [kc p.1, av p.2.1]) [] [] [] [r, m]).app o.dst s) (Eff.mk (.tup [kc p.1, av p.2.1]) [] [] [] [r, m] :: acc) K) : Fl P n ops draw (o :: l) s acc K := by
  refine Fl.opv hg (OpJ.of_run (tb := [r, m]) (dOk_lt hd) fun C s' a w h β ho hbs q => ?_) k;have hxr := opd_rep q x;rw [ho x (by rw [hop]; simp [Op.operands]), hx] at hxr;simp only [Rep] at hxr;obtain ⟨gr, e1, e2⟩ := hxr;obtain ⟨gr', g, e3, e4, hh, _⟩ := q.box r _ ((hbs r (by simp)).trans hr);rw [e1] at e3; injection e3 with e3; injection e3 with e3; injection e3 with e3; injection e3 with e3; subst e3;obtain ⟨g', es, e5, hh2, hm, _⟩ := q.box m _ ((hbs m (by simp)).trans hb);rw [e4] at e5; injection e5 with e5; injection e5 with e5; injection e5 with e5; subst e5
  have hseen : (seen ++ [st]).toArray = seen.toArray.push st := by simp
  obtain ⟨e, he, k1, k2, k3⟩ := hm.mem' p hp;rw [hseen, ← hst, ← k3] at hh;have hrun := run_entry_at (P := P) w gr g since seen.toArray es last e hh hh2 he (by rw [hm.stamps]; exact hnd);refine ⟨.tuple #[e.key, e.val], ?_, ?_⟩
  · simp only [execOp, hop, e2, Sem.run_bind, hrun, Result.andThen, Sem.run_pure]
  · simp only [Rep];exact ⟨_, rfl, ⟨_, _, rfl, by rw [k1]; exact hkc _ _ _, ⟨_, _, rfl, k2.closed _ _ (hvc _), rfl⟩⟩⟩
/-- a range's step: nothing is left, or one that has not been seen -/
theorem AWP.next {I : List Id} {Q : Exit → St → Prop} {id : Nat} {o1 o2 : Oper} {d1 d2 : Tmp} {x : Operand} (h1 : o1.op = .next x false) (g1 : o1.guard = none) (e1 : o1.dst = some d1) (l1 : Nat.blt d1 n = true) (h2 : o2.op = .extract (.tmp d1) 0) (g2 : o2.guard = none) (e2 : o2.dst = some d2) (l2 : Nat.blt d2 n = true)
    {r m : Id} (hx : opd s x = .ptr r 0) {since : Nat} {seen : List Nat} (hr : s.bx r = some (.iter m since seen since)) {κ α : Type} {ek : κ → Value} {av : α → AV} {xs : List (κ × α × Nat)} (hb : s.bx m = some (.map ek av xs since)) (hold : ∀ p ∈ xs, p.2.2 < since)
    (q1 : (∀ p ∈ xs, p.2.2 ∈ seen) → Q .normal ((Eff.mk (.v (.bool false)) [] [] [] []).app (some d2) ((Eff.mk .any [] [] [] []).app (some d1) s)))
    (q2 : ∀ p ∈ xs, p.2.2 ∉ seen → Q .normal ((Eff.mk (.v (.bool true)) [] [] [] []).app (some d2) ((Eff.mk .any [(r, .iter m since (seen ++ [p.2.2]) since)] [] [] [r]).app (some d1) s))) : AWP P n I (.region id ⟨[o1, o2]⟩ false) Q s := by
  refine ⟨fun C a w hp β hi k => ?_⟩;refine wp_region ?_;have hrg : List.range (Array.size ⟨[o1, o2]⟩) = [0, 1] := rfl;rw [hrg]
  have hw1 : Region.wanted o1 (yielded ⟨[o1, o2]⟩ a.tmps) = true := by simp [Region.wanted, g1]
  simp only [wpOps, List.getElem?_toArray, List.getElem?_cons_zero, hw1, if_true];left;have hxr := opd_rep k x;rw [hx] at hxr;simp only [Rep] at hxr;obtain ⟨gr, b1, b2⟩ := hxr;obtain ⟨gr', g, b3, b4, hh, hnone⟩ := k.box r _ hr;rw [b1] at b3; injection b3 with b3; injection b3 with b3; injection b3 with b3; injection b3 with b3; subst b3;obtain ⟨g', es, b5, hh2, hm, _⟩ := k.box m _ hb;rw [b4] at b5; injection b5 with b5; injection b5 with b5; injection b5 with b5; subst b5
  have hold' : ∀ y ∈ es.toList, y.born < since := fun y hy => by
    obtain ⟨p, hp, _, _, h3⟩ := hm.mem y hy;rw [h3]; exact hold p hp
  have hd1 : d1 < a.tmps.size := by rw [k.size]; exact ltOf l1
  have ext : ∀ (tl : List Value) (b : Bool) (a1 : Act) (w1 : World), a1.tmps.getD d1 undef = .tuple (.bool b :: tl).toArray → (execOp a1.eval o2).run P w1 = .ok (.value (.bool b)) w1 := by
    intro tl b a1 w1 ht;have hev : a1.eval (.tmp d1) = .tuple (.bool b :: tl).toArray := ht;simp [execOp, h2, hev, Instr.extract, Sem.run_bind, Result.andThen, Sem.run_pure]
  have second : ∀ (tl : List Value) (b : Bool) (w1 : World) (hp1 : Hp) (β1 : Bt) (s1 : St), Base C n s1 (a.put (some d1) (.tuple (.bool b :: tl).toArray)) w1 hp1 β1 → Q .normal ((Eff.mk (.v (.bool b)) [] [] [] []).app (some d2) s1) →
      wpOps P ⟨[o1, o2]⟩ (fun e a' w' => ∃ s' h' β', Base C n s' a' w' h' β' ∧ Q e s') [1] (a.put (some d1) (.tuple (.bool b :: tl).toArray)) w1 := by
    intro tl b w1 hp1 β1 s1 k1 hq
    have hw2 : Region.wanted o2 (yielded ⟨[o1, o2]⟩ (a.put (some d1) (.tuple (.bool b :: tl).toArray)).tmps) = true := by simp [Region.wanted, g2]
    simp only [wpOps, List.getElem?_toArray, List.getElem?_cons_succ, List.getElem?_cons_zero, hw2, if_true];left;unfold Oper.wp;rw [ext tl b _ w1 (by simp [Act.put, hd1])];simp only [Oper.upon, e2, wpOps];exact ⟨_, hp1, β1, k1.val (some d2) (fun t ht => by injection ht with ht; subst ht; exact ltOf l2) (v := .v (.bool b)) (by simp only [Rep]) [], hq⟩
  rcases run_next_at (P := P) w o1.type gr g since since seen.toArray es since hh hh2 hold' (Nat.le_refl _) with ⟨hz, hrun⟩ | ⟨e, he, w1, hw1', hrun⟩
  · unfold Oper.wp
    have hex : (execOp a.eval o1).run P w = .ok (.value (.tuple #[.bool false])) w := by simp only [execOp, h1, b2, Sem.run_bind, hrun, Result.andThen, Sem.run_pure]
    rw [hex];simp only [Oper.upon, e1];refine second [] false w hp β _ (k.val (some d1) (fun t ht => by injection ht with ht; subst ht; exact ltOf l1) (v := .any) (by simp only [Rep]) []) (q1 fun p hpx => ?_);obtain ⟨e, he, _, _, h3⟩ := hm.mem' p hpx;have hempty : leftOf es seen.toArray = #[] := Array.eq_empty_of_size_eq_zero hz;unfold leftOf at hempty;rw [Array.filter_eq_empty_iff] at hempty;have := hempty e (by simpa using he);rw [← h3]; simpa using this
  · have he' : e ∈ es.toList ∧ e.born ∉ seen := by
      unfold leftOf at he;simpa using he
    obtain ⟨p, hp1, h3, h4, h5⟩ := hm.mem e he'.1;unfold Oper.wp
    have hex : (execOp a.eval o1).run P w = .ok (.value (.tuple #[.bool true, e.key, e.val])) (setBlock w1 gr (.mapIter (some g) since (seen.toArray.push e.born) since)) := by simp only [execOp, h1, b2, Sem.run_bind, hrun, Result.andThen, Sem.run_pure]
    rw [hex];simp only [Oper.upon, e1]
    have kd : Base C n s a w1 hp β := by
      rcases hw1' with rfl | rfl
      · exact k
      · exact k.drew
    have hh1 : w1.heap[gr]? = some (.mapIter (some g) since seen.toArray since) := by rcases hw1' with rfl | rfl <;> exact hh
    have k2 := kd.setbox (B' := .iter m since (seen ++ [p.2.2]) since) (w' := setBlock w1 gr (.mapIter (some g) since (seen.toArray.push e.born) since)) hr rfl rfl ⟨rfl, Nat.le_refl _⟩ (setBlock_size _ _ _) (fun j hj => setBlock_other w1 gr j _ (fun q => hj (by simp [b1, blk, q]))) ⟨gr, g, b1, b4, by rw [setBlock_same w1 gr _ _ hh1, h5]; simp, hnone⟩ ⟨gr, by simp [b1, blk]⟩ (some d1) (fun t ht => by injection ht with ht; subst ht; exact ltOf l1) (v := .any) (u := .tuple #[.bool true, e.key, e.val]) (by simp only [Rep]) [r];exact second [e.key, e.val] true _ hp β _ k2 (q2 p hp1 (by rw [← h5]; exact he'.2))
/-- 'copy(k[:], s)', k an array variable -/
theorem AWP.arrCopy [f : Facts P tab] {I : List Id} {Q : Exit → St → Prop} {id : Nat} {o1 o2 o3 : Oper} {d1 d2 d3 : Tmp} {t e t1 t2 : TypeId} {x y : Operand} (h1 : o1.op = .slice t x none none none) (g1 : o1.guard = none) (e1 : o1.dst = some d1) (l1 : Nat.blt d1 n = true) (h2 : o2.op = .move y) (g2 : o2.guard = none) (e2 : o2.dst = some d2) (l2 : Nat.blt d2 n = true) (h3 : o3.op = .call { callee := .builtin .copy, args := ⟨[.tmp d1, .tmp d2]⟩, argTypes := ⟨[t1, t2]⟩ }) (g3 : o3.guard = none) (e3 : o3.dst = some d3) (l3 : Nat.blt d3 n = true) (hne : Nat.beq d1 d2 = false)
    {N sz' by' sz2 by2 : Nat} {z' z2 : List Value} (hts : tab t = some ⟨.array N e, sz', by', z'⟩) (hts1 : tab t1 = some ⟨.slice e, sz2, by2, z2⟩) {i : TI} (hti : tab e = some i) (hi1 : Nat.beq i.size 1 = true) {b : Id} (hx : opd s x = .ptr b 0) {cs : List AV} {bt : TypeId} (hb : s.bx b = some (.cells cs bt)) (hN : Nat.beq cs.length N = true) (hNm : Nat.ble N 1000000 = true) (hN0 : Nat.blt 0 N = true) {α : Type} {enc : α → List AV} {ys : List α} (hy : opd s y = .sl 1 enc ys) (hyd : y ≠ .tmp d1) (hone : ∀ y, allOne (enc y) = true) (hel : ∀ y, (enc y).length = 1) (hl : ys.length ≤ N) {cs' : List AV} (hcs : ys.flatMap enc ++ cs.drop ys.length = cs')
    (q : Q .normal ((Eff.mk .any [(b, .cells cs' bt)] [] [] [b]).app (some d3) ((Eff.mk (.sl 1 enc ys) [] [] [] []).app (some d2) ((Eff.mk .any [] [] [] []).app (some d1) s)))) : AWP P n I (.region id ⟨[o1, o2, o3]⟩ false) Q s := by
  subst hcs;have hi1 := Nat.eq_of_beq_eq_true hi1;have hN := Nat.eq_of_beq_eq_true hN;have hNm := Nat.le_of_ble_eq_true hNm;have hN0 := ltOf hN0
  have hd12 : d1 ≠ d2 := fun e => by rw [e, Nat.beq_refl] at hne; cases hne
  refine ⟨fun C a w hp β hi k => ?_⟩;refine wp_region ?_;have hrg : List.range (Array.size ⟨[o1, o2, o3]⟩) = [0, 1, 2] := rfl;rw [hrg];refine wpOps_cons (ops := ⟨[o1, o2, o3]⟩) (i := 0) (o := o1) rfl g1 ?_;have hxr := opd_rep k x;rw [hx] at hxr;simp only [Rep] at hxr;obtain ⟨g, b1, b2⟩ := hxr;have hu := (f.tabOk _ _ hts).und;simp only at hu;have hu1 := (f.tabOk _ _ hts1).und;simp only at hu1;have hd1 : d1 < n := ltOf l1;have hd2 : d2 < n := ltOf l2
  have hr1 : (execOp a.eval o1).run P w = .ok (.value (.slice (some ⟨g, 0, none⟩) N N)) w := by
    have hN0' : ¬ N = 0 := by omega
    simp only [execOp, h1, b2, Option.map_none, Instr.sliceAt, Instr.sureAddr, Sem.run_bind, run_underlying hu, Result.andThen, Instr.sliceBounds, Sem.run_pure, size_ok (f.tabOk _ _ hti), Nat.zero_mul, Addr.add, if_true, Nat.sub_zero, if_neg hN0']
  unfold Oper.wp;rw [hr1];simp only [Oper.upon, e1];have k1 := k.val (some d1) (fun t ht => by injection ht with ht; subst ht; exact hd1) (v := .any) (u := .slice (some ⟨g, 0, none⟩) N N) (by simp only [Rep]) [];refine wpOps_cons (ops := ⟨[o1, o2, o3]⟩) (i := 1) (o := o2) rfl g2 ?_
  have hys : opd ((Eff.mk AV.any [] [] [] []).app (some d1) s) y = .sl 1 enc ys := by
    rw [← hy];refine opd_tmp fun t ht => ?_;simp only [Eff.app];exact putE_ne _ _ _ _ (fun h => hyd (by injection h with h; rw [ht, h]))
  have hyr := opd_rep k1 y;rw [hys] at hyr
  have hr2 : (execOp (a.put (some d1) (.slice (some ⟨g, 0, none⟩) N N)).eval o2).run P w = .ok (.value ((a.put (some d1) (.slice (some ⟨g, 0, none⟩) N N)).eval y)) w := by
    simp only [execOp, h2, Sem.run_pure]
  unfold Oper.wp;rw [hr2];simp only [Oper.upon, e2];have k2 := k1.val (some d2) (fun t ht => by injection ht with ht; subst ht; exact hd2) (v := .sl 1 enc ys) hyr [];generalize hyv : (a.put (some d1) (.slice (some ⟨g, 0, none⟩) N N)).eval y = yv at hyr k2 ⊢;refine wpOps_cons (ops := ⟨[o1, o2, o3]⟩) (i := 2) (o := o3) rfl g3 ?_
  have hsz : d1 < a.tmps.size ∧ d2 < a.tmps.size := by rw [k.size]; exact ⟨hd1, hd2⟩
  have ev1 : ((a.put (some d1) (.slice (some ⟨g, 0, none⟩) N N)).put (some d2) yv).eval (.tmp d1) = .slice (some ⟨g, 0, none⟩) N N := by
    simp [Act.eval, Act.put, Array.getElem?_setIfInBounds, hsz.1, Ne.symm hd12]
  have ev2 : ((a.put (some d1) (.slice (some ⟨g, 0, none⟩) N N)).put (some d2) yv).eval (.tmp d2) = yv := by
    simp [Act.eval, Act.put, hsz.2]
  have hb2 : ((Eff.mk (.sl 1 enc ys) [] [] [] []).app (some d2) ((Eff.mk AV.any [] [] [] []).app (some d1) s)).bx b = some (.cells cs bt) := hb;obtain ⟨g', us, b3, hh, hr, hnone⟩ := k2.box b _ hb2;rw [b1] at b3; injection b3 with b3; injection b3 with b3; injection b3 with b3; injection b3 with b3; subst b3
  have hul : us.size = N := by rw [← Array.length_toList, hr.length, hN]
  have his : (P.info? e).map (·.size) = some 1 := by
    obtain ⟨inf, zv, i1, i2, _⟩ := (f.tabOk e i hti).info;rw [i1]; simp [i2, hi1]
  simp only [Rep] at hyr;obtain ⟨B, cB, rfl, hcB, hmB, hall⟩ := hyr
  have key : ∃ (r : Int) (w' : World) (us' : Array Value), (Builtin.copy_ #[t1, t2] o3.type #[.slice (some ⟨g, 0, none⟩) N N, .slice B ys.length cB]).run P w = .ok (goInt r) w' ∧ w'.os = w.os ∧ w'.tape = w.tape ∧ (w'.output = w.output ∧ w.drawn ≤ w'.drawn) ∧ w'.heap.size = w.heap.size ∧
      (∀ j, j ≠ g → w'.heap[j]? = w.heap[j]?) ∧ w'.heap[g]? = some (.cells us' bt (0, 0)) ∧ RepL hp β (ys.flatMap enc ++ cs.drop ys.length) us'.toList := by
    by_cases hy0 : ys = []
    · subst hy0;exact ⟨0, w, us, run_copy_none w t1 t2 o3.type e _ B N N 0 cB hu1 his (by simp [Nat.min_def]), rfl, rfl, ⟨rfl, Nat.le_refl _⟩, rfl, fun _ _ => rfl, hh, by simpa using hr⟩
    · have hyp : 0 < ys.length := List.length_pos_iff.2 hy0;obtain ⟨adB, _, eB, _⟩ := hall 0 ys[0] (by simp [hyp]);subst eB
      obtain ⟨news, n1, n2, n3⟩ := sl_cells (h := hp) (sz := 1) (enc := enc) (A := adB) ys 0 (fun i x hx => by
        obtain ⟨ad', us, e, q1, q2, q3⟩ := hall i x hx
        exact ⟨ad', us, e, q1, q2, fun j u hu => by have := q3 j u hu; rwa [Nat.zero_add]⟩)
      have hmn : Nat.min ys.length N = min ys.length N := rfl
      have hnl : news.length = Nat.min ys.length N := by rw [n2, hmn]; omega
      have hrun := run_copy_row (P := P) w t1 t2 o3.type e g 0 N N adB ys.length cB us bt news hu1 his hh hnl (fun j u hu => by
        have := (n3 j u hu).cell k.evo.has
        rwa [Nat.zero_mul, Nat.zero_add] at this) (by rw [hnl, hmn]; omega) (flat_one hone _ news n1)
      refine ⟨_, w.setRow g (us.toList.take 0 ++ news ++ us.toList.drop (0 + news.length)).toArray, _, hrun, rfl, rfl, ⟨rfl, Nat.le_refl _⟩, by simp, fun j hj => setRow_other w g j _ (fun q => hj q), setRow_heap w g us _ bt _ hh, ?_⟩;simp only [List.take_zero, List.nil_append, Nat.zero_add];rw [show news.length = ys.length by rw [hnl, hmn]; omega];exact (n1.mono (Hp.le.refl _) (noB_le β)).append (hr.drop _)
  obtain ⟨r, w', us', hrun, q1, q2, q3, q4, q5, q6, q7⟩ := key
  have hex : (execOp ((a.put (some d1) (.slice (some ⟨g, 0, none⟩) N N)).put (some d2) (.slice B ys.length cB)).eval o3).run P w = .ok (.value (goInt r)) w' := by
    simp only [execOp, h3, resolve, invoke, builtin, Sem.run_bind, Sem.run_pure, Result.andThen, List.map_toArray, List.map_cons, List.map_nil, ev1, ev2];rw [show (Builtin.copy_ { toList := [t1, t2] } o3.type { toList := [.slice (some ⟨g, 0, none⟩) N N, .slice B ys.length cB] }).run P w = .ok (goInt r) w' from hrun]
  unfold Oper.wp;rw [hex];simp only [Oper.upon, e3, wpOps];exact ⟨_, hp, β, k2.setbox (B' := .cells (ys.flatMap enc ++ cs.drop ys.length) bt) (w' := w') hb2 q1 q2 q3 q4 (fun j hj => q5 j (fun q => hj (by simp [b1, blk, q]))) ⟨g, us', b1, q6, q7, hnone⟩ ⟨g, by simp [b1, blk]⟩ (some d3) (fun t ht => by injection ht with ht; subst ht; exact ltOf l3) (v := .any) (u := goInt r) (by simp only [Rep]) [b], q⟩
/-- A variable is not written any more: fixed cells. -/
theorem Ent.freezeC {I : List Id} (b : Id) (d : Tmp) {cs : List AV} {t : TypeId} (hb : s.bx b = some (.cells cs t)) (hd : s.env d = .ptr b 0) (hdn : Nat.blt d n = true) (hcl : closedL cs = true) : Ent n I s ⟨putE s.env (some d) (.cptr cs), delB [b] s.bx, s.al⟩ := by
  intro C a w h β hi k;obtain ⟨g, us, e1, hh, hr, hnone⟩ := k.box b _ hb
  have hbx : ∀ x Bx', delB [b] s.bx x = some Bx' → x ≠ b ∧ s.bx x = some Bx' := by
    intro x Bx' hx;by_cases he : x = b
    · subst he; simp [delB] at hx
    · simp only [delB, beq_ne he] at hx; exact ⟨he, hx⟩
  have hle : h.le (h.set g us) := fun c cs hc => by
    by_cases he : c = g
    · subst he; rw [hnone] at hc; cases hc
    · rw [Hp.set_ne _ _ _ _ he]; exact hc
  have hhas : Has w (h.set g us) := fun c cs hc => by
    by_cases he : c = g
    · subst he; rw [Hp.set_same] at hc; injection hc with hc; subst hc; exact ⟨t, (0, 0), hh⟩
    · rw [Hp.set_ne _ _ _ _ he] at hc; exact k.evo.has c cs hc
  have hfr : ∀ c, h.set g us c ≠ none → h c ≠ none ∨ c = g := fun c hc => by
    by_cases he : c = g
    · exact .inr he
    · rw [Hp.set_ne _ _ _ _ he] at hc; exact .inl hc
  have hcp : Rep (h.set g us) β (.cptr cs) (.pointer (some ⟨g, 0, none⟩)) := by
    simp only [Rep];refine ⟨⟨g, 0, none⟩, us.toList, rfl, RepL.closed _ _ hcl (hr.mono hle (Bt.le.refl _)), fun j u hu => ?_⟩
    have hadd : (⟨g, 0, none⟩ : Addr).add j = ⟨g, j, none⟩ := by unfold Addr.add; split <;> simp_all
    rw [hadd];exact ⟨rfl, us, Hp.set_same _ _ _, by simpa using hu⟩
  refine ⟨h.set g us, β, ⟨k.evo.os, k.evo.tape, k.evo.output, k.evo.size, k.evo.block, k.evo.le.trans hle, fun c hc => ?_, hhas⟩, k.b0, fun i => ?_, fun x Bx' hx => ?_, fun x y B1 B2 h1 h2 hne => k.apart x y B1 B2 (hbx x B1 h1).2 (hbx y B2 h2).2 hne, fun x B1 c hx hc => k.own x B1 c (hbx x B1 hx).2 hc, k.dom, k.size, k.defers⟩
  · rcases hfr c hc with h1 | h1
    · exact k.evo.fresh c h1
    · subst h1;rcases k.own b _ c hb (by simp [e1, blk]) with h2 | h2
      · exact .inr (.inr h2)
      · exact .inr (.inl h2)
  · by_cases hid : i = d
    · subst hid;show Rep _ β (putE s.env (some i) (.cptr cs) i) _;rw [putE_same];have hs := k.slot i;rw [hd] at hs;simp only [Rep] at hs;obtain ⟨g', e2, e3⟩ := hs;rw [e1] at e2; injection e2 with e2; injection e2 with e2; injection e2 with e2; injection e2 with e2; subst e2;rw [e3]; exact hcp
    · show Rep _ β (putE s.env (some d) (.cptr cs) i) _;rw [putE_ne _ _ _ _ (fun e => hid (by injection e with e; exact e.symm))];exact (k.slot i).mono hle (Bt.le.refl β)
  · obtain ⟨hne, h1⟩ := hbx x Bx' hx;refine (k.box x Bx' h1).keep hle (Bt.le.refl β) fun c hc => ⟨rfl, ?_⟩
    cases hq : h.set g us c with
    | none => rfl
    | some cs' =>
      rcases hfr c (by simp [hq]) with h2 | h2
      · exact absurd (k.blk_lt h1 hc).2 h2
      · exact absurd (show blk (β b) = some c by simp [e1, blk, h2]) (k.apart x b Bx' _ h1 hb hne c hc)
/-- 'k[:i]', k an array that is not written -/
theorem Fl.cutArr [f : Facts P tab] {t : TypeId} {x z : Operand} (hop : o.op = .slice t x none (some z) none) {N : Nat} {e : TypeId} {sz' by' : Nat} {z' : List Value} (hts : tab t = some ⟨.array N e, sz', by', z'⟩) {i : TI} (hti : tab e = some i) (hi1 : Nat.beq i.size 1 = true) {cs : List AV} (hx : opd s x = .cptr cs) (hN : Nat.beq cs.length N = true) (hNm : Nat.ble N 1000000 = true) (hN0 : Nat.blt 0 N = true) {k' : IntKind} {m : Int} (hz : opd s z = .v (.int k' m)) (h0 : 0 ≤ m) (h2 : m ≤ N) {α : Type} {enc : α → List AV} {ys : List α} (hys : cs.take m.toNat = ys.flatMap enc) (hyl : (ys.length : Int) = m) (hel : ∀ y, (enc y).length = 1) (hg : gOk ops s o = true) (hd : dOk n o.dst = true)
    (r : Fl P n ops draw l ((Eff.mk (.sl 1 enc ys) [] [] [] []).app o.dst s) (Eff.mk (.sl 1 enc ys) [] [] [] [] :: acc) K) : Fl P n ops draw (o :: l) s acc K := by
  have hi1 := Nat.eq_of_beq_eq_true hi1;have hN := Nat.eq_of_beq_eq_true hN;have hNm := Nat.le_of_ble_eq_true hNm;have hN0 := ltOf hN0;refine Fl.opv hg (OpJ.of_run (tb := []) (dOk_lt hd) fun C s' a w h β ho _ k => ?_) r;have hxr := opd_rep k x;have hzr := opd_rep k z;rw [ho x (by simp [hop, Op.operands]), hx] at hxr;rw [ho z (by simp [hop, Op.operands]), hz] at hzr;simp only [Rep] at hxr hzr;obtain ⟨ad, us, e1, hr, hall⟩ := hxr;have hu := (f.tabOk _ _ hts).und;simp only at hu
  have hul : us.length = N := by rw [hr.length, hN]
  have hsp : ad.spot = none := by
    obtain ⟨u, hu0⟩ : ∃ u, us[0]? = some u := ⟨_, List.getElem?_eq_getElem (by omega)⟩;have h1 := (hall 0 u hu0).1;simpa [Addr.add] using h1
  have b1 := run_sliceBound (P := P) w k' m N .sliceAlen (by omega) (by omega);refine ⟨.slice (some ad) m.toNat N, ?_, ?_⟩
  · have hN0' : ¬ N = 0 := by omega
    have hsa : (Instr.sureAddr (.pointer (some ad))).run P w = .ok ad w := by simp [Instr.sureAddr]
    simp only [execOp, hop, e1, hzr, Option.map_some, Option.map_none, Instr.sliceAt, Sem.run_bind, run_underlying hu, Result.andThen, hsa, Instr.sliceBounds, Bool.false_eq_true, if_false, Sem.run_pure, b1, Option.isSome_none, size_ok (f.tabOk _ _ hti), Nat.zero_mul, Nat.sub_zero, if_neg hN0', Addr.add, if_true]
  · simp only [Rep];refine ⟨some ad, N, by rw [← hyl]; simp, by omega, by simp only [maxLen]; omega, fun j y hj => ?_⟩;have hjl := (List.getElem?_eq_some_iff.1 hj).1
    have hcj : ∀ (ys : List α) (cs : List AV) (us : List Value) (j : Nat) (y : α), RepL h noB cs us → cs = ys.flatMap enc → ys[j]? = some y → ∃ c u, enc y = [c] ∧ us[j]? = some u ∧ Rep h noB c u := by
      intro ys
      induction ys with
      | nil => intro cs us j y _ _ hy; simp at hy
      | cons y0 ys ih =>
        intro cs us j y hr hc hy;have h1 := hel y0
        obtain ⟨c, hcc⟩ : ∃ c, enc y0 = [c] := by
          cases hq : enc y0 with
          | nil => rw [hq] at h1; simp at h1
          | cons c r => rw [hq] at h1; simp at h1; exact ⟨c, by rw [h1]⟩
        rw [hc, List.flatMap_cons, hcc, List.singleton_append] at hr;simp only [RepL] at hr;obtain ⟨u, r, rfl, r1, r2⟩ := hr
        cases j with
        | zero => simp at hy; subst hy; exact ⟨c, u, hcc, rfl, r1⟩
        | succ j =>
          obtain ⟨c', u', e1, e2, e3⟩ := ih _ r j y r2 rfl (by simpa using hy);exact ⟨c', u', e1, by simpa using e2, e3⟩
    obtain ⟨c, u, q1, q2, q3⟩ := hcj ys _ _ j y (hr.take m.toNat) hys hj
    have hq2 : us[j]? = some u := by
      rw [List.getElem?_take] at q2;split at q2
      · exact q2
      · cases q2
    refine ⟨ad, [u], rfl, rfl, by rw [q1]; exact RepL.cons q3 RepL.nil, fun j' u' hu' => ?_⟩
    cases j' with
    | zero =>
      simp at hu'; subst hu';rw [Nat.mul_one, Nat.add_zero];exact hall j u hq2
    | succ j' => simp at hu'
end
end Go.AL
/- Terms put in order by Go's own sort. -/
namespace Go.AL
theorem cmpL_refl : ∀ a : List Int, cmpL a a = 0
  | [] => rfl
  | x :: a => by simp only [cmpL]; rw [if_pos (cmpI_zero.2 rfl)]; exact cmpL_refl a
theorem cmpL_sw : ∀ a b : List Int, cmpL a b = - cmpL b a
  | [], [] => rfl
  | [], _ :: _ => rfl
  | _ :: _, [] => rfl
  | x :: a, y :: b => by
    simp only [cmpL];have hs := cmpI_swap x y;by_cases hz : cmpI x y = 0
    · rw [if_pos hz, if_pos (by omega)]; exact cmpL_sw a b
    · rw [if_neg hz, if_neg (by omega)]; exact hs
theorem cmpL_eq : ∀ {a b : List Int}, cmpL a b = 0 → a = b
  | [], [], _ => rfl
  | [], _ :: _, k => by simp [cmpL] at k
  | _ :: _, [], k => by simp [cmpL] at k
  | x :: a, y :: b, k => by
    simp only [cmpL] at k;split at k
    · rename_i hz; rw [cmpI_zero.1 hz, cmpL_eq k]
    · rename_i hz; exact absurd k hz
theorem cmpL_trans : ∀ {a b c : List Int}, cmpL a b = 1 → cmpL b c = 1 → cmpL a c = 1
  | [], [], _, k, _ => by simp [cmpL] at k
  | [], _ :: _, _, k, _ => by simp [cmpL] at k
  | _ :: _, [], [], _, _ => rfl
  | _ :: _, [], _ :: _, _, k => by simp [cmpL] at k
  | _ :: _, _ :: _, [], _, _ => rfl
  | x :: a, y :: b, z :: c, k1, k2 => by
    simp only [cmpL] at k1 k2 ⊢;have c1 := cmpI_cases x y;have c2 := cmpI_cases y z;have c3 := cmpI_cases x z;by_cases e1 : cmpI x y = 0
    · rw [if_pos e1] at k1;by_cases e2 : cmpI y z = 0
      · rw [if_pos e2] at k2;rw [if_pos (by omega)];exact cmpL_trans k1 k2
      · rw [if_neg e2] at k2;rw [if_neg (by omega)]; omega
    · rw [if_neg e1] at k1;by_cases e2 : cmpI y z = 0
      · rw [if_neg (by omega)]; omega
      · rw [if_neg e2] at k2;rw [if_neg (by omega)]; omega
theorem ordI_lt {a b : List Int} : ordI a b < 0 ↔ sumL b < sumL a ∨ (sumL a = sumL b ∧ cmpL a b = 1) := by
  unfold ordI;have hs := cmpL_sw a b;have hr := cmpL_range a b;by_cases hz : sumL b - sumL a = 0
  · rw [if_pos hz]; omega
  · rw [if_neg hz]; omega
theorem ordI_eq {a b : List Int} (k : ordI a b = 0) : a = b := by
  unfold ordI at k;by_cases hz : sumL b - sumL a = 0
  · rw [if_pos hz] at k; exact (cmpL_eq k).symm
  · rw [if_neg hz] at k; omega
theorem ordI_refl (a : List Int) : ordI a a = 0 := by unfold ordI; rw [if_pos (by omega)]; exact cmpL_refl a
theorem ordI_trans {a b c : List Int} (k1 : ordI a b < 0) (k2 : ordI b c < 0) : ordI a c < 0 := by
  rw [ordI_lt] at k1 k2 ⊢;rcases k1 with k1 | ⟨k1, k1'⟩ <;> rcases k2 with k2 | ⟨k2, k2'⟩
  · left; omega
  · left; omega
  · left; omega
  · right; exact ⟨by omega, cmpL_trans k1' k2'⟩
theorem ordI_total (a b : List Int) : ordI a b < 0 ∨ a = b ∨ ordI b a < 0 := by
  rw [ordI_lt, ordI_lt];have hs := cmpL_sw a b;rcases cmpL_range a b with k | k | k
  · by_cases e : sumL a = sumL b
    · exact .inl (.inr ⟨e, k⟩)
    · omega
  · exact .inr (.inl (cmpL_eq k))
  · by_cases e : sumL a = sumL b
    · exact .inr (.inr (.inr ⟨e.symm, by omega⟩))
    · omega
/-- terms in order -/
def leT (a b : TZ) : Bool := decide (ordI a.e b.e ≤ 0)
def sortT (xs : List TZ) : List TZ := xs.mergeSort leT
theorem sortT_perm (xs : List TZ) : (sortT xs).Perm xs := List.mergeSort_perm _ _
theorem leT_iff {a b : TZ} : leT a b = true ↔ ordI a.e b.e < 0 ∨ a.e = b.e := by
  simp only [leT, decide_eq_true_eq];constructor
  · intro h;rcases ordI_total a.e b.e with k | k | k
    · exact .inl k
    · exact .inr k
    · by_cases h0 : ordI a.e b.e = 0
      · exact .inr (ordI_eq h0)
      · omega
  · rintro (h | h)
    · omega
    · rw [h, ordI_refl]; omega
theorem leT_trans (a b c : TZ) (h1 : leT a b = true) (h2 : leT b c = true) : leT a c = true := by
  rw [leT_iff] at h1 h2 ⊢;rcases h1 with h1 | h1 <;> rcases h2 with h2 | h2
  · exact .inl (ordI_trans h1 h2)
  · exact .inl (by rw [← h2]; exact h1)
  · exact .inl (by rw [h1]; exact h2)
  · exact .inr (h1.trans h2)
theorem leT_total (a b : TZ) : (leT a b || leT b a) = true := by
  rw [Bool.or_eq_true, leT_iff, leT_iff];rcases ordI_total a.e b.e with k | k | k
  · exact .inl (.inl k)
  · exact .inl (.inr k)
  · exact .inr (.inl k)
theorem sortT_sorted (xs : List TZ) : (sortT xs).Pairwise fun a b => leT a b = true := List.pairwise_mergeSort leT_trans leT_total xs
/-- there is one order alone of terms whose exponents part -/
theorem sortT_unique {xs ys : List TZ} (hnd : xs.Pairwise fun a b => a.e ≠ b.e) (hp : ys.Perm xs) (hs : ys.Pairwise fun a b => leT a b = true) : ys = sortT xs := by
  refine List.Perm.eq_of_pairwise (le := fun a b => leT a b = true) (fun a b ha hb h1 h2 => ?_) hs (sortT_sorted xs) (hp.trans (sortT_perm xs).symm)
  have he : a.e = b.e := by
    rw [leT_iff] at h1 h2;rcases h1 with h1 | h1
    · rcases h2 with h2 | h2
      · have := ordI_trans h1 h2; rw [ordI_refl] at this; omega
      · exact h2.symm
    · exact h1
  have ha' : a ∈ xs := hp.mem_iff.1 ha;have hb' : b ∈ xs := (sortT_perm xs).mem_iff.1 hb
  have key : ∀ l : List TZ, l.Pairwise (fun a b => a.e ≠ b.e) → a ∈ l → b ∈ l → a = b := by
    intro l
    induction l with
    | nil => intro _ h; cases h
    | cons x l ih =>
      intro hl h1 h2;rw [List.pairwise_cons] at hl;rcases List.mem_cons.1 h1 with e1 | h1
      · rcases List.mem_cons.1 h2 with e2 | h2
        · rw [e1, e2]
        · exact absurd (by rw [← e1]; exact he) (hl.1 b h2)
      · rcases List.mem_cons.1 h2 with e2 | h2
        · exact absurd (by rw [← e2]; exact he.symm) (hl.1 a h1)
        · exact ih hl.2 h1 h2
  exact key xs hnd ha' hb'
/-- terms as they lie in memory -/
structure AT (h : Hp) (n : Nat) : Type where
  t : TZ
  v : List Value
  rep : RepL h noB (eT t) v
  ok : EOk t.e
  len : t.e.length = n
theorem at_list {h : Hp} {n : Nat} : ∀ (xs : List TZ) (vals : List Value), RepL h noB (xs.flatMap eT) vals → (∀ t ∈ xs, EOk t.e ∧ t.e.length = n) → ∃ l : List (AT h n), l.map (·.t) = xs ∧ l.flatMap (·.v) = vals
  | [], vals, hr, _ => by simp only [List.flatMap_nil, RepL] at hr; subst hr; exact ⟨[], rfl, rfl⟩
  | t :: xs, vals, hr, hx => by
    rw [List.flatMap_cons] at hr;obtain ⟨h1, h2⟩ := hr.split;obtain ⟨l, e1, e2⟩ := at_list xs _ h2 fun q hq => hx q (by simp [hq]);refine ⟨⟨t, vals.take (eT t).length, h1, (hx t (by simp)).1, (hx t (by simp)).2⟩ :: l, by simp [e1], ?_⟩;rw [List.flatMap_cons, e2];exact List.take_append_drop _ _
theorem at_rep {h : Hp} {n : Nat} : ∀ l : List (AT h n), RepL h noB ((l.map (·.t)).flatMap eT) (l.flatMap (·.v))
  | [] => RepL.nil
  | x :: l => by simp only [List.map_cons, List.flatMap_cons]; exact x.rep.append (at_rep l)
theorem flatK_list {α : Type} [Inhabited α] (enc : α → List Value) (k : Nat) (hk : ∀ x, (enc x).length = k) : ∀ l : List α, (Go.Sort.flatK enc k l.toArray).toList = l.flatMap enc := by
  intro l;apply List.ext_getElem?;intro t
  have hlen : ∀ l : List α, (l.flatMap enc).length = l.length * k := by
    intro l
    induction l with
    | nil => simp
    | cons x l ih => simp [List.flatMap_cons, hk, ih, Nat.succ_mul, Nat.add_comm]
  have hget : ∀ (l : List α) (t : Nat), t < l.length * k → (l.flatMap enc)[t]? = some (enc l[t / k]!)[t % k]! := by
    intro l
    induction l with
    | nil => intro t ht; simp at ht
    | cons x l ih =>
      intro t ht;rw [List.flatMap_cons];by_cases h1 : t < k
      · rw [List.getElem?_append_left (by rw [hk]; exact h1), Nat.div_eq_of_lt h1, Nat.mod_eq_of_lt h1];simp [hk, h1]
      · have hk0 : 0 < k := by rcases Nat.eq_zero_or_pos k with h | h
                               · subst h; simp at ht
                               · exact h
        rw [List.getElem?_append_right (by rw [hk]; omega), hk]
        have ht2 : t < l.length * k + k := by rw [← Nat.succ_mul]; exact ht
        have h2 := ih (t - k) (by omega);rw [h2]
        have e1 : t / k = (t - k) / k + 1 := by rw [← Nat.add_div_right _ hk0]; congr 1; omega
        have e2 : t % k = (t - k) % k := by
          have := Nat.add_mod_right (t - k) k;rwa [show t - k + k = t by omega] at this
        rw [e1, e2];simp
  by_cases ht : t < l.length * k
  · rw [hget l t ht, Array.getElem?_toList, Array.getElem?_eq_getElem (by simpa using ht)];have := Go.Sort.get_flatK enc k l.toArray t (by simpa using ht);rw [getElem!_pos _ t (by simpa using ht)] at this;rw [this];simp
  · rw [List.getElem?_eq_none (by simp; omega), List.getElem?_eq_none (by rw [hlen]; omega)]
theorem evo_grow {W w' : World} {h h' : Hp} (e : Evo never W h w' h') : ∃ q os, w' = Go.Sort.grow (W.drewN q) os := by
  refine ⟨w'.drawn - W.drawn, w'.heap.extract W.heap.size w'.heap.size, ?_⟩;have h1 := e.output.2
  have hheap : w'.heap = W.heap ++ w'.heap.extract W.heap.size w'.heap.size := by
    apply Array.ext_getElem?;intro i;by_cases hi : i < W.heap.size
    · rw [e.block i hi (fun x => x), Array.getElem?_append_left hi]
    · rw [Array.getElem?_append_right (by omega)];by_cases hi2 : i < w'.heap.size
      · rw [Array.getElem?_eq_getElem hi2, Array.getElem?_eq_getElem (by simp; omega)];congr 1;simp [show W.heap.size + (i - W.heap.size) = i by omega]
      · rw [Array.getElem?_eq_none (by omega), Array.getElem?_eq_none (by simp; omega)]
  have h0 : w' = ⟨w'.heap, w'.tape, w'.drawn, w'.os, w'.output⟩ := rfl;rw [h0];simp only [Go.Sort.grow, World.drewN];rw [← hheap, e.os, e.tape, e.output.1, show W.drawn + (w'.drawn - W.drawn) = w'.drawn by omega]
end Go.AL
namespace Go.Proofs.YtcaecieigoplbaaGreat
open Go.AL

set_option maxHeartbeats 4000000 in
set_option maxRecDepth 100000 in
theorem sort_calls {w : World} {h : Hp} (hw : Has w h) (n : Nat) (hn : n ≤ 100000) (xs : List TZ) (hx : ∀ t ∈ xs, EOk t.e ∧ t.e.length = n) (hnd : xs.Pairwise fun a b => a.e ≠ b.e) (hne : xs ≠ []) (g cap : Nat) (cur : Array Value) (T : TypeId) (hg : w.heap[g]? = some (.cells cur T (0, 0))) (hgn : h g = none) (vals : List Value) (hv : RepL h noB (xs.flatMap eT) vals) (hc : cur.toList.take (xs.length * 3) = vals) (hle : xs.length ≤ cap) (hsz : cur.size = cap * 3) (hbig : xs.length < 4611686018427387904) :
    Calls Tryz.prog 234 #[.slice (some ⟨g, 0, none⟩) xs.length cap, .func (.func 225) #[] #[]] w fun e w' => e = .returned (.tuple #[]) ∧
      ∃ vals' cur', RepL h noB ((sortT xs).flatMap eT) vals' ∧ w'.os = w.os ∧ w'.tape = w.tape ∧ (w'.output = w.output ∧ w.drawn ≤ w'.drawn) ∧ w.heap.size ≤ w'.heap.size ∧ (∀ i, i < w.heap.size → i ≠ g → w'.heap[i]? = w.heap[i]?) ∧ w'.heap[g]? = some (.cells cur' T (0, 0)) ∧ cur'.size = cap * 3 ∧ cur'.toList.take (xs.length * 3) = vals' := by
  obtain ⟨l, e1, e2⟩ := at_list (n := n) xs vals hv hx
  obtain ⟨x0, l0, hl0⟩ : ∃ x0 l0, l = x0 :: l0 := by
    cases l with
    | nil => simp at e1; exact absurd e1 hne
    | cons a b => exact ⟨a, b, rfl⟩
  haveI : Inhabited (AT h n) := ⟨x0⟩
  have hlen : l.length = xs.length := by rw [← e1]; simp
  let enc : AT h n → List Value := fun x => x.v
  have hk : ∀ x : AT h n, (enc x).length = 3 := fun x => by rw [x.rep.length]; rfl
  have h1 : ∀ x : AT h n, ∀ v ∈ enc x, v.oneCell' = true := fun x v hvv => allOne_cells (h := h) (β := noB) (cs := eT x.t) rfl x.rep v hvv
  have hO : Go.Sort.SWO (Go.Proofs.ltOf fun x y : AT h n => ordI x.t.e y.t.e) := by
    refine ⟨fun x => ?_, fun x y z k1 k2 => ?_, fun x y z k1 k2 => ?_⟩
    · simp only [Go.Proofs.ltOf, decide_eq_false_iff_not]; rw [ordI_refl]; omega
    · simp only [Go.Proofs.ltOf, decide_eq_true_eq] at k1 k2 ⊢;exact ordI_trans k1 k2
    · simp only [Go.Proofs.ltOf, decide_eq_false_iff_not] at k1 k2 ⊢;intro k3;rcases ordI_total y.t.e x.t.e with k | k | k
      · exact k2 (ordI_trans k k3)
      · exact k2 (by rw [k]; exact k3)
      · exact k1 k
  have hcell : ∀ i, (⟨g, i, none⟩ : Addr).block = g := fun _ => rfl
  have hH : Go.Sort.HoldsK enc 3 w g 0 l.toArray := by
    intro j hj;have hflat := flatK_list enc 3 hk l
    have hjl : j < xs.length * 3 := by simpa [hlen] using hj
    have hget : (Go.Sort.flatK enc 3 l.toArray)[j]! = (cur[j]?).getD default := by
      rw [getElem!_pos _ j hj, ← Array.getElem_toList (h := by simpa using hj)]
      have h2 : (Go.Sort.flatK enc 3 l.toArray).toList = cur.toList.take (xs.length * 3) := by rw [hflat, hc]; exact e2
      have h3 : (Go.Sort.flatK enc 3 l.toArray).toList[j]? = cur.toList[j]? := by
        rw [h2, List.getElem?_take_of_lt hjl]
      rw [List.getElem?_eq_getElem (by simpa using hj)] at h3;rw [← Array.getElem?_toList, ← h3]; rfl
    have hjc : j < cur.size := by omega
    refine ⟨?_, ?_⟩
    · simp only [Nat.zero_add, World.cell?, hg, hget, id];simp [hjc]
    · simp [World.frozen?, hg]
  have hblk : g < w.heap.size := (Array.getElem?_eq_some_iff.1 hg).1
  have hthere : ∀ (m : Nat) (os : Array Obj) (dk : Array (AT h n)) (i : Nat), i < w.heap.size → i ≠ g → (Go.Proofs.sortWorldK enc 3 w g 0 m dk os).heap[i]? = w.heap[i]? := by
    intro m os dk i hi hig;simp only [Go.Proofs.sortWorldK, Go.Sort.grow, Go.Sort.putRowK, Go.Sort.putRow, Go.Sort.mapBlock, Go.Sort.ahead];rw [Array.getElem?_append_left (by simpa using hi), Array.getElem?_modify, if_neg (Ne.symm hig)]
  have hcmp : Go.Proofs.CmpLays Tryz.prog 225 #[] enc 3 (fun x y : AT h n => ordI x.t.e y.t.e) g 0 l.toArray.size w := by
    intro m os dk hdk x y
    have hW : Has (Go.Proofs.sortWorldK enc 3 w g 0 m dk os) h := fun b cs hb => by
      obtain ⟨t, fr, hh⟩ := hw b cs hb;refine ⟨t, fr, ?_⟩;rw [hthere m os dk b (Array.getElem?_eq_some_iff.1 hh).1 (fun e => by subst e; rw [hgn] at hb; cases hb)];exact hh
    have hord := order_ok x.t y.t x.ok y.ok (by rw [x.len]; omega) (by rw [y.len]; omega);rw [Array.append_empty];have hrl : RepL h noB [aT x.t, aT y.t] [.agg (enc x).toArray, .agg (enc y).toArray] := RepL.cons (by simp only [Rep]; exact ⟨_, rfl, x.rep⟩) (RepL.cons (by simp only [Rep]; exact ⟨_, rfl, y.rep⟩) RepL.nil);have hcl := hord.calls _ h #[.agg (enc x).toArray, .agg (enc y).toArray] hW hrl;refine hcl.mono fun e w' ⟨u, h', he, hev, hrep⟩ => ?_;simp only [Rep] at hrep;subst hrep;exact ⟨he, evo_grow hev⟩
  have hA : ∀ w, (isAgg (sortL_ren.t 24)).run Tryz.prog w = .ok true w := Tryz.isAgg124;have hZ : ∀ w, (Go.sizeOf (sortL_ren.t 24)).run Tryz.prog w = .ok 3 w := Tryz.sizeOf124;have hS := Go.Proofs.AnyQ.slices_SortFunc sortL 3 hA hZ enc hk h1 (fun x y : AT h n => ordI x.t.e y.t.e) hO 225 #[] g 0 cap l.toArray w (enters_of Tryz.func225 (by kernel_rfl) rfl) hcmp hH hblk (by simp; omega);change Calls Tryz.prog 234 _ _ _ at hS;simp only [List.size_toArray] at hS;rw [hlen] at hS;refine Calls.mono hS fun e w' ⟨he, d', m, os, hp, hs, hw'⟩ => ?_;subst hw';obtain ⟨hd1, hd2, hd3⟩ := hp
  have hd1 : d'.size = xs.length := by rw [hd1]; simp [hlen]
  have hperm : d'.toList.Perm l := by
    have q1 : d'.extract 0 xs.length = d' := by rw [← hd1]; simp
    have q2 : l.toArray.extract 0 xs.length = l.toArray := by rw [← hlen]; simp
    rw [q1, q2] at hd3;simpa using hd3
  have hsorted : (d'.toList.map (·.t)).Pairwise fun a b => leT a b = true := by
    rw [List.pairwise_map];rw [List.pairwise_iff_getElem];intro i j hi hj hij;have := hs i j (Nat.zero_le _) hij (by rw [← hd1]; simpa using hj)
    have hi' : i < d'.size := by simpa using hi
    have hj' : j < d'.size := by simpa using hj
    rw [getElem!_pos d' i hi', getElem!_pos d' j hj'] at this;simp only [Go.Proofs.ltOf, decide_eq_false_iff_not] at this;rw [Array.getElem_toList, Array.getElem_toList];rw [leT_iff];rcases ordI_total (d'[i]).t.e (d'[j]).t.e with k | k | k
    · exact .inl k
    · exact .inr k
    · exact absurd k this
  have hys : d'.toList.map (·.t) = sortT xs := sortT_unique hnd (by rw [← e1]; exact hperm.map _) hsorted;have hrep := at_rep d'.toList;rw [hys] at hrep
  have hfl : (Go.Sort.flatK enc 3 d').toList = d'.toList.flatMap (·.v) := by
    have := flatK_list enc 3 hk d'.toList;simpa using this
  refine ⟨he, d'.toList.flatMap (·.v), Go.Sort.putCells id 0 (Go.Sort.flatK enc 3 d') cur, hrep, rfl, rfl, ⟨rfl, Nat.le_add_right _ _⟩, ?_, fun i hi hig => hthere m os d' i hi hig, ?_, by simp [Go.Sort.putCells, hsz], ?_⟩
  · simp only [Go.Proofs.sortWorldK, Go.Sort.grow, Go.Sort.putRowK, Go.Sort.putRow, Go.Sort.mapBlock, Go.Sort.ahead, Array.size_append, Array.size_modify];omega
  · simp only [Go.Proofs.sortWorldK, Go.Sort.grow, Go.Sort.putRowK, Go.Sort.putRow, Go.Sort.mapBlock, Go.Sort.ahead];rw [Array.getElem?_append_left (by simpa using hblk), Array.getElem?_modify, if_pos rfl, hg];rfl
  · rw [← hfl];apply List.ext_getElem?;intro t;by_cases ht : t < xs.length * 3
    · have htc : t < cur.size := by omega
      rw [List.getElem?_take_of_lt ht, Array.getElem?_toList, Array.getElem?_toList];simp only [Go.Sort.putCells, Array.getElem?_mapIdx, Array.getElem?_eq_getElem htc, Option.map_some, Nat.zero_le, true_and, Nat.zero_add, Go.Sort.size_flatK, hd1, if_pos ht, Nat.sub_zero, id];rw [getElem!_pos _ t (by simpa [hd1] using ht), Array.getElem?_eq_getElem (by simpa [hd1] using ht)]
    · rw [List.getElem?_eq_none (by simp; omega), List.getElem?_eq_none (by simp [hd1]; omega)]
end Go.Proofs.YtcaecieigoplbaaGreat
/- slices.SortFunc on terms: a contract with a box. -/
namespace Go.Proofs.YtcaecieigoplbaaGreat
open Go.AL

set_option maxHeartbeats 4000000 in
set_option maxRecDepth 100000 in
theorem sort_ok (n : Nat) (hn : n ≤ 100000) (xs : List TZ) (hx : ∀ t ∈ xs, EOk t.e ∧ t.e.length = n) (hnd : xs.Pairwise fun a b => a.e ≠ b.e) (hlen : xs.length ≤ 1000000000000) (T : TypeId) :
    IoFn Tryz.prog 234 [.row 900, .fn 225 []] [(900, .row 3 eT xs T)] (.ret .any) [(900, .row 3 eT (sortT xs) T)] := by
  refine ⟨⟨_, Tryz.func234, by kernel_rfl, by kernel_rfl⟩, fun w h β us hw hbx hβ hr => ?_⟩;obtain ⟨v, vals, hv, ⟨hl, ho⟩, hrv, hsz3, hno⟩ := hbx.box 900 (.row 3 eT xs T) rfl
  have hus : us = #[v, .func (.func 225) #[] #[]] := by
    simp only [RepL, Rep] at hr;obtain ⟨u0, r0, e0, ⟨e1, _⟩, u1, r1, e2, ⟨us2, e3, e4⟩, e5⟩ := hr;rw [hv] at e1; injection e1 with e1; subst e1;have : us2 = #[] := Array.toList_inj.1 e4;subst this;rw [e2, e3, e5] at e0;exact Array.toList_inj.1 e0
  subst hus
  have fin : ∀ (w' : World) (vals' : List Value), w'.os = w.os → w'.tape = w.tape → (w'.output = w.output ∧ w.drawn ≤ w'.drawn) → w.heap.size ≤ w'.heap.size → (∀ i, i < w.heap.size → v.ownBlock ≠ some i → w'.heap[i]? = w.heap[i]?) → w'.ownsRow 0 T 3 v (sortT xs).length vals' → RepL h noB ((sortT xs).flatMap eT) vals' →
      ∃ h' β', β.le β' ∧ Evo (blksOf [(900, .row 3 eT xs T)] β) w h w' h' ∧ ∃ u, Ending.returned (.tuple #[]) = .returned u ∧ BoxesAt w' h' β' [(900, .row 3 eT (sortT xs) T)] ∧ Rep h' β' .any u ∧ ∀ id g, id ∉ idsB [(900, .row 3 eT xs T)] → blk (β' id) = some g → w.heap.size ≤ g := by
    intro w' vals' q1 q2 q3 q4 q5 q6 q7;have hbk : ∀ g, blk (some v) = some g ↔ v.ownBlock = some g := blk_own q6;refine ⟨h, β, Bt.le.refl _, evo_of hw q1 q2 q3 q4 (fun i hi hm => q5 i hi fun e => hm ⟨900, _, rfl, by rw [hv]; exact (hbk i).2 e⟩) (fun g ⟨id, B, hB, hg⟩ => ?_), .tuple #[], rfl, ⟨fun id B hB => ?_, fun id id' B B' h1 h2 hne => ?_⟩, by simp only [Rep], fun id g hid hg => ?_⟩
    · by_cases hid : id = 900
      · subst hid; rw [hv] at hg; exact hno g ((hbk g).1 hg)
      · simp [lookB, beq_ne hid] at hB
    · by_cases hid : id = 900
      · subst hid;simp only [lookB, Nat.beq_refl] at hB;injection hB with hB; subst hB;exact ⟨v, vals', hv, q6, q7, fun _ _ => rfl, hno⟩
      · simp [lookB, beq_ne hid] at hB
    · by_cases hid : id = 900
      · by_cases hid' : id' = 900
        · exact absurd (hid.trans hid'.symm) hne
        · simp [lookB, beq_ne hid'] at h2
      · simp [lookB, beq_ne hid] at h1
    · rw [hβ id hid] at hg; simp [blk] at hg
  have hsl : (sortT xs).length = xs.length := (sortT_perm xs).length_eq;by_cases hne : xs = []
  · subst hne
    have hs0 : sortT [] = [] := by simp [sortT]
    have hvs : ∃ p c, v = .slice p 0 c := by
      rcases ho with ⟨e, _⟩ | ⟨g, cap, cur, e, _⟩
      · exact ⟨none, 0, e⟩
      · exact ⟨_, cap, by simpa using e⟩
    obtain ⟨p, c, hvp⟩ := hvs;have hS := Go.Proofs.AnyF.slices_SortFunc_none (P := Tryz.prog) (ρ := sortL_ren) { sortL with } p c (.func (.func 225) #[] #[]) w;change Calls Tryz.prog 234 _ _ _ at hS;rw [hvp];refine Calls.mono hS fun e w' ⟨he, hw'⟩ => ?_;subst he hw';have hr0 : RepL h noB (([] : List TZ).flatMap eT) [] := RepL.nil;have hvals : vals = [] := List.eq_nil_of_length_eq_zero (by simpa using hl);have := fin w' vals rfl rfl ⟨rfl, Nat.le_refl _⟩ (Nat.le_refl _) (fun _ _ _ => rfl) (by rw [hs0]; exact ⟨hl, ho⟩) (by rw [hs0]; exact hrv);exact this
  · have hpos : 0 < xs.length := List.length_pos_iff.2 hne;rcases ho with ⟨_, e⟩ | ⟨g, cap, cur, e, _, hh, h1, h2, h3, h4⟩
    · omega
    · subst e;have hgn : h g = none := hno g rfl
      have hb : xs.length < 4611686018427387904 := by omega
      refine Calls.mono (sort_calls hw n hn xs hx hnd hne g cap cur T hh hgn vals hrv h4 h1 h3 hb) fun e w' ⟨he, vals', cur', p1, p2, p3, p4, p5, p6, p7, p8, p9⟩ => ?_;subst he;refine fin w' vals' p2 p3 p4 p5 (fun i hi hm => p6 i hi fun e => hm (by rw [e]; rfl)) ?_ p1;rw [hsl];have hln := p1.length
      have hk : ((sortT xs).flatMap eT).length = xs.length * 3 := by
        rw [← hsl];generalize sortT xs = l
        induction l with
        | nil => rfl
        | cons t l ih => rw [List.flatMap_cons, List.length_append, ih, List.length_cons]; simp [eT]; omega
      exact ⟨by rw [hln, hk], .inr ⟨g, cap, cur', rfl, Nat.zero_le _, p7, h1, h2, p8, p9⟩⟩
end Go.Proofs.YtcaecieigoplbaaGreat
/- The keys of the program's sums: lists of 32 exponents. -/
namespace Go.AL
abbrev Key := {l : List Int // l.length = 32}
def kg (k : Key) (i : Nat) : Int := k.1.getD i 0
def keyC (k : Key) : List AV := [aN (kg k 0), aN (kg k 1), aN (kg k 2), aN (kg k 3), aN (kg k 4), aN (kg k 5), aN (kg k 6), aN (kg k 7), aN (kg k 8), aN (kg k 9), aN (kg k 10), aN (kg k 11), aN (kg k 12), aN (kg k 13), aN (kg k 14), aN (kg k 15), aN (kg k 16), aN (kg k 17), aN (kg k 18), aN (kg k 19), aN (kg k 20), aN (kg k 21), aN (kg k 22), aN (kg k 23), aN (kg k 24), aN (kg k 25), aN (kg k 26), aN (kg k 27), aN (kg k 28), aN (kg k 29), aN (kg k 30), aN (kg k 31)]
def keyV (k : Key) : List Value := [.int .i64 (kg k 0), .int .i64 (kg k 1), .int .i64 (kg k 2), .int .i64 (kg k 3), .int .i64 (kg k 4), .int .i64 (kg k 5), .int .i64 (kg k 6), .int .i64 (kg k 7), .int .i64 (kg k 8), .int .i64 (kg k 9), .int .i64 (kg k 10), .int .i64 (kg k 11), .int .i64 (kg k 12), .int .i64 (kg k 13), .int .i64 (kg k 14), .int .i64 (kg k 15), .int .i64 (kg k 16), .int .i64 (kg k 17), .int .i64 (kg k 18), .int .i64 (kg k 19), .int .i64 (kg k 20), .int .i64 (kg k 21), .int .i64 (kg k 22), .int .i64 (kg k 23), .int .i64 (kg k 24), .int .i64 (kg k 25), .int .i64 (kg k 26), .int .i64 (kg k 27), .int .i64 (kg k 28), .int .i64 (kg k 29), .int .i64 (kg k 30), .int .i64 (kg k 31)]
def ekK (k : Key) : Value := .agg ⟨keyV k⟩
abbrev kcK (k : Key) : AV := .agg (keyC k)
theorem keyC_eq (k : Key) : keyC k = k.1.map aN := by
  obtain ⟨l, hl⟩ := k;have e : keyC ⟨l, hl⟩ = (List.range 32).map fun i => aN (l.getD i 0) := rfl;rw [e];apply List.ext_getElem?;intro i;by_cases h : i < 32
  · simp [h, hl]
  · rw [List.getElem?_eq_none (by simp; omega), List.getElem?_eq_none (by simp; omega)]
theorem keyV_eq (k : Key) : keyV k = k.1.map (Value.int .i64) := by
  obtain ⟨l, hl⟩ := k;have e : keyV ⟨l, hl⟩ = (List.range 32).map fun i => Value.int .i64 (l.getD i 0) := rfl;rw [e];apply List.ext_getElem?;intro i;by_cases h : i < 32
  · simp [h, hl]
  · rw [List.getElem?_eq_none (by simp; omega), List.getElem?_eq_none (by simp; omega)]
theorem repN (h : Hp) (β : Bt) : ∀ (l : List Int) (us : List Value), RepL h β (l.map aN) us ↔ us = l.map (Value.int .i64)
  | [], us => by simp [RepL]
  | x :: l, us => by
    simp only [List.map_cons, RepL, Rep, repN h β l];constructor
    · rintro ⟨u, r, rfl, rfl, rfl⟩; rfl
    · rintro rfl; exact ⟨_, _, rfl, rfl, rfl⟩
/-- an exponents' key -/
def expK (e : List Int) (he : e.length ≤ 32) : Key := ⟨e ++ List.replicate (32 - e.length) 0, by simp; omega⟩
theorem expK_cells (e : List Int) (he : e.length ≤ 32) : e.flatMap eI ++ (List.replicate 32 (aN 0)).drop e.length = keyC (expK e he) := by
  rw [keyC_eq];simp only [expK, List.map_append, List.map_replicate, List.drop_replicate];congr 1
  induction e with
  | nil => rfl
  | cons x e ih => simp [eI, List.flatMap_cons] at ih ⊢; exact ih (by simp at he; omega)
theorem expK_inj {a b : List Int} {ha : a.length ≤ 32} {hb : b.length ≤ 32} (hl : a.length = b.length) (h : expK a ha = expK b hb) : a = b := by
  have h1 : a ++ List.replicate (32 - a.length) 0 = b ++ List.replicate (32 - b.length) 0 := congrArg Subtype.val h;exact (List.append_inj h1 hl).1
end Go.AL
namespace Go.Proofs.YtcaecieigoplbaaGreat
open Go.AL
theorem und_key : Tryz.prog.underlying 218 = some (.array 32 3) := by kernel_rfl
theorem und_int : Tryz.prog.underlying 3 = some (.int .i64) := by kernel_rfl
theorem key_items (a b : Key) (w : World) (d : Nat) : ∀ is : List Nat, (∀ i ∈ is, i < 32) → (Op.eqItems (d + 1) 3 1 ⟨keyV a⟩ ⟨keyV b⟩ is).run Tryz.prog w = .ok (is.all fun i => kg a i == kg b i) w
  | [], _ => by simp [Op.eqItems]
  | i :: is, h => by
    have hp : Tryz.prog.plainKey 3 = true := by kernel_rfl
    have hg : ∀ k : Key, (⟨keyV k⟩ : Array Value)[i * 1]? = some (.int .i64 (kg k i)) := fun k => by
      rw [Nat.mul_one, List.getElem?_toArray, keyV_eq, List.getElem?_map]
      have hi : i < k.1.length := by rw [k.2]; exact h i (by simp)
      simp [kg, hi]
    simp only [Op.eqItems, Sem.run_bind, run_part_plain w hp (hg a), run_part_plain w hp (hg b), Result.andThen_ok, run_equalIn_int w d 3 .i64 .i64 _ _ und_int, List.all_cons]
    cases hq : (kg a i == kg b i) with
    | false => simp
    | true => simp [key_items a b w d is fun j hj => h j (by simp [hj])]
theorem key_eq (a b : Key) (w : World) : (Op.equal 218 (ekK a) (ekK b)).run Tryz.prog w = .ok (decide (a = b)) w := by
  obtain ⟨i, hi⟩ := info_of_underlying und_int
  have hc : Tryz.prog.cellsOf 3 = 1 := by kernel_rfl
  have h := run_equalIn_array w 9999 ⟨keyV a⟩ ⟨keyV b⟩ und_key hi;rw [hc, key_items a b w 9998 _ (fun i hi => List.mem_range.1 hi)] at h;have h2 : (Op.equal 218 (ekK a) (ekK b)).run Tryz.prog w = .ok ((List.range 32).all fun i => kg a i == kg b i) w := h;rw [h2];refine congrArg (fun b => Result.ok b w) ?_;rw [Bool.eq_iff_iff, List.all_eq_true, decide_eq_true_eq];constructor
  · intro hall;apply Subtype.ext;apply List.ext_getElem
    · rw [a.2, b.2]
    · intro i h1 h2;have := hall i (List.mem_range.2 (by rw [a.2] at h1; exact h1));simp only [kg, beq_iff_eq, List.getD_eq_getElem?_getD, List.getElem?_eq_getElem h1, List.getElem?_eq_getElem h2, Option.getD_some] at this;exact this
  · rintro rfl i _; simp
theorem key_part (k : Key) (w : World) (i : Nat) (h : i < 32) : (part 3 ⟨keyV k⟩ (i * 1)).run Tryz.prog w = .ok (.int .i64 (kg k i)) w := by
  have hp : Tryz.prog.plainKey 3 = true := by kernel_rfl
  refine run_part_plain w hp ?_;rw [Nat.mul_one, List.getElem?_toArray, keyV_eq, List.getElem?_map]
  have hi : i < k.1.length := by rw [k.2]; exact h
  simp [kg, hi]
theorem key_check (e : Bool) (k : Key) (w : World) : (Instr.checkKey e 10000 218 (ekK k)).run Tryz.prog w = .ok () w := by
  obtain ⟨inf, hi⟩ := info_of_underlying und_int
  have hc : Tryz.prog.cellsOf 3 = 1 := by kernel_rfl
  have one : ∀ x, (Instr.checkKey e 9999 3 (.int .i64 x)).run Tryz.prog w = .ok () w := fun x => by
    rw [show 9999 = 9998 + 1 from rfl];unfold Instr.checkKey;simp [Sem.run_bind, run_underlying und_int]
  rw [show 10000 = 9999 + 1 from rfl, Instr.checkKey, ekK];simp only [Sem.run_bind, run_underlying und_key, Result.andThen_ok];simp only [Std.Legacy.Range.forIn_eq_forIn_range', Std.Legacy.Range.size, Nat.sub_zero, Nat.add_one_sub_one, Nat.div_one]
  have each : ∀ i ∈ List.range' 0 32, i < 32 := fun i hi => by simpa using hi
  generalize List.range' 0 32 = is at each
  induction is with
  | nil => simp
  | cons j is ih =>
    simp only [List.forIn_cons, Sem.run_bind, run_sizeOf w hi, hc, Result.andThen_ok, key_part k w j (each j (by simp)), one, Sem.run_pure];exact ih (fun y hy => each y (by simp [hy]))
theorem key_law : KeyLaw Tryz.prog 218 ekK kcK where
  rep h β k u hr := by
    simp only [Rep] at hr;obtain ⟨us, rfl, hr⟩ := hr;rw [keyC_eq, repN, ← keyV_eq] at hr;rw [ekK, ← hr]
  back h β k := by
    simp only [Rep];refine ⟨_, rfl, ?_⟩;rw [keyC_eq, repN, ← keyV_eq]
  check := key_check
  find h α av k xs es w hm := by
    obtain ⟨r, h1, h2⟩ := findAsking_run (fun a b w => key_eq a b w) h av k w xs es 0 hm;refine ⟨r, ?_, h2⟩;simp only [Instr.findKey, Sem.run_bind, run_underlying und_key, Result.andThen]
    have hn : es = [] ∨ Instr.findNow (.array 32 3) (ekK k) es 0 = none := by
      cases es with
      | nil => exact .inl rfl
      | cons e es =>
        right;simp only [Instr.findNow]
        cases he : e.key <;> simp [Instr.sameNow]
    rcases hn with rfl | hn
    · simp only [Instr.findNow];simp only [Instr.findAsking, Sem.run_pure] at h1;exact h1
    · rw [hn]; exact h1
  bits k := by
    have : ∀ x : Int, (Instr.sameBits 9999 (.int .i64 x) (.int .i64 x)) = true := fun x => by simp [Instr.sameBits]
    simp only [ekK, Instr.sameBits, beq_self_eq_true, Bool.true_and, keyV];simp [this]
end Go.Proofs.YtcaecieigoplbaaGreat
/- poly.empty, (*sums).add. -/
namespace Go.AL
abbrev ME := Key × Int × Nat
def getM (k : Key) (xs : List ME) : Int := match findM k xs 0 with | some (_, p) => p.2.1 | none => 0
def setM (k : Key) (y : Int) (c : Nat) (xs : List ME) : List ME := if y = 0 then delM k (putM k y c xs) else putM k y c xs
abbrev bM (xs : List ME) (c : Nat) : Bx := .map ekK aX xs c
end Go.AL
namespace Go.Proofs.YtcaecieigoplbaaGreat
open Go.AL
abbrev smB (V : Int) (xs : List ME) (c : Nat) : List (AL.Id × Bx) := [(900, .cells [aN V, .mp 901] 216), (901, bM xs c)]

theorem empty_ok (V : Int) : IoFn Tryz.prog 219 [aN V] [] (.ret (.ptr 900 0)) (smB V [] 0) := by
  refine IoFn.of_body Tryz.func219 rfl Tryz.ntmps219 rfl rfl rfl ?_;(repeat' (first |refine Fl.v rfl rfl rfl ?_ |refine Fl.nilF ?_ |refine AWP.seq ?_ |refine AWP.region ?_));refine Fl.mkmap rfl rfl rfl rfl ekK aX rfl ?_;(repeat' (first |refine Fl.v rfl rfl rfl ?_ |refine Fl.nilF ?_ |refine Fl.b rfl rfl rfl rfl ?_ |refine AWP.ret ?_));exact ⟨⟨[(900, 6), (901, 4)], _, _, Ent.refl _ _ _, rfl, AV.Le.refl _, rfl, ⟨⟨⟨_, rfl, BLe.cells (LeL.refl _)⟩, rfl⟩, ⟨⟨_, rfl, BLe.map rfl rfl⟩, rfl⟩, trivial⟩, rfl, rfl⟩⟩

theorem sAdd_io (V : Int) (xs : List ME) (clock : Nat) (c : Int) (e : List Int) (hc : Fit c) (hxs : ∀ p ∈ xs, Fit p.2.1) (he : e.length ≤ 32) (res : Res) (bx' : List (AL.Id × Bx))
    (hr1 : Fit (getM (expK e he) xs + c) → res = .ret (.tup []) ∧ bx' = smB V (setM (expK e he) (getM (expK e he) xs + c) clock xs) (putC (expK e he) clock xs))
    (hr2 : ¬ Fit (getM (expK e he) xs + c) → res = .thr (thrown 4) ∧ bx' = smB V xs clock) :
    IoFn Tryz.prog 220 [.ptr 900 0, aX c, aI e] (smB V xs clock) res bx' := by
  have hg : Fit (getM (expK e he) xs) := by
    unfold getM
    cases hf : findM (expK e he) xs 0 with
    | none => exact Fit.zero
    | some q => obtain ⟨j, p⟩ := q; exact hxs p (List.mem_of_getElem? (findM_get hf).2.1)
  have hle : match findM (expK e he) xs 0 with | some (_, p) => (aX p.2.1).Le (aX (getM (expK e he) xs)) | none => (AV.agg [aB false, .v (.slice none 0 0)]).Le (aX (getM (expK e he) xs)) := by
    unfold getM
    cases hf : findM (expK e he) xs 0 with
    | none => exact aX_zero
    | some q => exact AV.Le.refl _
  by_cases hfit : Fit (getM (expK e he) xs + c)
  · obtain ⟨rfl, rfl⟩ := hr1 hfit;refine IoFn.of_body Tryz.func220 rfl Tryz.ntmps220 rfl rfl rfl ?_;refine AWP.seqS ?_;(repeat' (first |refine Fl.nilF ?_ |refine AWP.region ?_ |refine Fl.b rfl rfl rfl rfl ?_));refine ⟨?_⟩;refine AWP.seqS ?_;(repeat' (first |refine Fl.nilF ?_ |refine AWP.region ?_ |refine Fl.b rfl rfl rfl rfl ?_));refine ⟨?_⟩;refine AWP.seq ?_;refine AWP.arrCopy rfl rfl rfl rfl rfl rfl rfl rfl rfl rfl rfl rfl rfl rfl rfl rfl rfl rfl rfl rfl rfl rfl rfl (by intro h; cases h) (fun _ => rfl) (fun _ => rfl) (by omega) (expK_cells e he) ?_;refine AWP.seq ?_;(repeat' (first |refine Fl.v rfl rfl rfl ?_ |refine AWP.region ?_));refine Fl.lookup (v := aX (getM (expK e he) xs)) rfl rfl rfl rfl rfl rfl key_law (expK e he) (AV.Le.refl _) rfl ?_ (fun _ => rfl) rfl rfl ?_
    · revert hle; generalize findM (expK e he) xs 0 = r; cases r <;> exact id
    (repeat' (first |refine Fl.v rfl rfl rfl ?_));refine Fl.call rfl (xAdd_ret _ _ hg hc hfit) rfl rfl rfl (LeL.refl _) ?_;skip;refine Fl.mupd rfl rfl rfl rfl key_law (expK e he) (AV.Le.refl _) rfl (getM (expK e he) xs + c) (AV.Le.refl _) rfl rfl rfl ?_;(repeat' (first |refine Fl.v rfl rfl rfl ?_ |refine Fl.nil (fun _ => by kernel_rfl) ?_ |refine AWP.seq ?_ |refine AWP.region ?_));refine Fl.lookup (v := aX (getM (expK e he) xs + c)) rfl rfl rfl rfl rfl rfl key_law (expK e he) (AV.Le.refl _) rfl ?_ (fun _ => rfl) rfl rfl ?_
    · obtain ⟨j, p, h1, h2⟩ := findM_put (expK e he) (getM (expK e he) xs + c) clock xs;rw [h1];exact AV.Le.of_eq (by rw [h2])
    skip;refine Fl.call rfl (ZeroX_ok _) rfl rfl rfl (LeL.refl _) ?_;(repeat' (first |refine Fl.v rfl rfl rfl ?_ |refine Fl.nil (fun _ => by kernel_rfl) ?_ |refine AWP.region ?_ |(refine AWP.condD rfl ?_ ?_ <;> intro _ <;> try (exfalso; omega)) |refine AWP.skip ?_))
    · rename_i h0;refine Fl.mdel rfl rfl rfl rfl key_law (expK e he) (AV.Le.refl _) rfl rfl rfl ?_;(repeat' (first |refine Fl.nil (fun _ => by kernel_rfl) ?_|fail));refine ⟨⟨[], _, _, Ent.refl _ _ _, rfl, AV.Le.refl _, rfl, ⟨⟨⟨_, rfl, BLe.cells (LeL.refl _)⟩, rfl⟩, ⟨⟨_, rfl, BLe.map ?_ rfl⟩, rfl⟩, trivial⟩, rfl, rfl⟩⟩;unfold setM; rw [if_pos h0]
    · rename_i h0;refine ⟨⟨[], _, _, Ent.refl _ _ _, rfl, AV.Le.refl _, rfl, ⟨⟨⟨_, rfl, BLe.cells (LeL.refl _)⟩, rfl⟩, ⟨⟨_, rfl, BLe.map ?_ rfl⟩, rfl⟩, trivial⟩, rfl, rfl⟩⟩;unfold setM; rw [if_neg h0]
  · obtain ⟨rfl, rfl⟩ := hr2 hfit;refine IoFn.of_body Tryz.func220 rfl Tryz.ntmps220 rfl rfl rfl ?_;refine AWP.seqS ?_;(repeat' (first |refine Fl.nilF ?_ |refine AWP.region ?_ |refine Fl.b rfl rfl rfl rfl ?_));refine ⟨?_⟩;refine AWP.seqS ?_;(repeat' (first |refine Fl.nilF ?_ |refine AWP.region ?_ |refine Fl.b rfl rfl rfl rfl ?_));refine ⟨?_⟩;refine AWP.seq ?_;refine AWP.arrCopy rfl rfl rfl rfl rfl rfl rfl rfl rfl rfl rfl rfl rfl rfl rfl rfl rfl rfl rfl rfl rfl rfl rfl (by intro h; cases h) (fun _ => rfl) (fun _ => rfl) (by omega) (expK_cells e he) ?_;refine AWP.seq ?_;(repeat' (first |refine Fl.v rfl rfl rfl ?_ |refine AWP.region ?_));refine Fl.lookup (v := aX (getM (expK e he) xs)) rfl rfl rfl rfl rfl rfl key_law (expK e he) (AV.Le.refl _) rfl ?_ (fun _ => rfl) rfl rfl ?_
    · revert hle; generalize findM (expK e he) xs 0 = r; cases r <;> exact id
    (repeat' (first |refine Fl.v rfl rfl rfl ?_));exact Fl.thrC rfl [] (xAdd_thr _ _ hg hc hfit) rfl (LeL.refl _) rfl trivial rfl (fun _ => by kernel_rfl) (fun _ => rfl)
end Go.Proofs.YtcaecieigoplbaaGreat
/- (*sums).poly. -/
namespace Go.AL
structure MOk (V : Nat) (xs : List ME) (c : Nat) : Prop where
  nd : (xs.map (·.2.2)).Nodup
  lt : ∀ p ∈ xs, p.2.2 < c
  keys : xs.Pairwise fun a b => a.1 ≠ b.1
  fit : ∀ p ∈ xs, Fit p.2.1
  nz : ∀ p ∈ xs, p.2.1 ≠ 0
  exp : ∀ p ∈ xs, ∃ (e : List Int) (he : e.length ≤ 32), p.1 = expK e he ∧ e.length = V ∧ EOk e
/-- an entry as a term -/
def tmM (V : Nat) (p : ME) : TZ := ⟨zOf p.2.1, p.1.1.take V⟩
theorem tmM_exp {V : Nat} {p : ME} {e : List Int} {he : e.length ≤ 32} (h : p.1 = expK e he) (hl : e.length = V) : (tmM V p).e = e := by
  show p.1.1.take V = e;rw [h];show (e ++ List.replicate (32 - e.length) 0).take V = e;rw [← hl]; simp
theorem MOk.eok {V : Nat} {xs : List ME} {c : Nat} (m : MOk V xs c) : ∀ t ∈ xs.map (tmM V), EOk t.e ∧ t.e.length = V := by
  intro t ht;obtain ⟨p, hp, rfl⟩ := List.mem_map.1 ht;obtain ⟨e, he, h1, h2, h3⟩ := m.exp p hp;rw [tmM_exp h1 h2]; exact ⟨h3, h2⟩
theorem MOk.parts {V : Nat} {xs : List ME} {c : Nat} (m : MOk V xs c) : (xs.map (tmM V)).Pairwise fun a b => a.e ≠ b.e := by
  rw [List.pairwise_map];refine m.keys.imp_of_mem fun {a b} ha hb hne h => hne ?_;obtain ⟨e, he, h1, h2, h3⟩ := m.exp a ha;obtain ⟨e', he', h1', h2', h3'⟩ := m.exp b hb;rw [tmM_exp h1 h2, tmM_exp h1' h2'] at h;subst h;rw [h1, h1']
theorem keyC_take (k : Key) (V : Nat) : (keyC k).take V = (k.1.take V).flatMap eI := by
  rw [keyC_eq, ← List.map_take]
  induction k.1.take V with
  | nil => rfl
  | cons x l ih => simp only [List.map_cons, ih, List.flatMap_cons]; rfl
/-- what is seen of a map's entries, one after the other -/
theorem seen_perm : ∀ (ys xs : List ME), (xs.map (·.2.2)).Nodup → (ys.map (·.2.2)).Nodup → (∀ p ∈ ys, p ∈ xs) → ys.length ≤ xs.length ∧ ((∀ p ∈ xs, p.2.2 ∈ ys.map (·.2.2)) → ys.Perm xs)
  | [], xs, _, _, _ => ⟨Nat.zero_le _, fun h => by
    cases xs with
    | nil => exact List.Perm.nil
    | cons p xs => have := h p (by simp); simp at this⟩
  | p :: ys, xs, hx, hy, hsub => by
    obtain ⟨A, B, rfl⟩ := List.append_of_mem (hsub p (by simp));have hm : (A ++ p :: B).Perm (p :: (A ++ B)) := List.perm_middle;have hx2 : ((p :: (A ++ B)).map (·.2.2)).Nodup := (hm.map _).nodup_iff.1 hx;rw [List.map_cons, List.nodup_cons] at hx2 hy
    have ih := seen_perm ys (A ++ B) hx2.2 hy.2 fun q hq => by
      have h1 := hm.mem_iff.1 (hsub q (by simp [hq]));rcases List.mem_cons.1 h1 with h1 | h1
      · subst h1; exact absurd (List.mem_map.2 ⟨q, hq, rfl⟩) hy.1
      · exact h1
    refine ⟨by have := ih.1; simp at this ⊢; omega, fun hall => ((ih.2 fun q hq => ?_).cons p).trans hm.symm⟩;have h1 := hall q (hm.mem_iff.2 (by simp [List.mem_append.1 hq]));rw [List.map_cons, List.mem_cons] at h1;rcases h1 with h1 | h1
    · exact absurd (List.mem_map.2 ⟨q, hq, h1⟩) hx2.1
    · exact h1
theorem sortT_perm_eq {xs ys : List TZ} (hnd : xs.Pairwise fun a b => a.e ≠ b.e) (hp : ys.Perm xs) : sortT ys = sortT xs :=
  sortT_unique hnd ((sortT_perm ys).trans hp) (sortT_sorted ys)
end Go.AL
namespace Go.Proofs.YtcaecieigoplbaaGreat
open Go.AL

set_option maxHeartbeats 1000000 in
theorem sPoly_io (V : Nat) (xs : List ME) (clock : Nat) (m : MOk V xs clock) (hV : V ≤ 32) (hl : xs.length ≤ 1000000000) (res : Res) (bx' : List (AL.Id × Bx))
    (hr1 : OkP ⟨V, sortT (xs.map (tmM V))⟩ → res = .ret (aP ⟨V, sortT (xs.map (tmM V))⟩) ∧ bx' = smB V xs clock)
    (hr2 : ¬ OkP ⟨V, sortT (xs.map (tmM V))⟩ → res = .thr (thrown 4) ∧ bx' = smB V xs clock) :
    IoFn Tryz.prog 222 [.ptr 900 0] (smB V xs clock) res bx' := by
  have hb' : bx' = smB V xs clock := (Classical.em (OkP ⟨V, sortT (xs.map (tmM V))⟩)).elim (fun h => (hr1 h).2) (fun h => (hr2 h).2);subst hb';refine IoFn.of_body Tryz.func222 rfl Tryz.ntmps222 rfl rfl rfl ?_;refine AWP.seqS ?_;(repeat' (first |refine Fl.nilF ?_ |refine AWP.region ?_ |refine Fl.b rfl rfl rfl rfl ?_));refine ⟨?_⟩;refine AWP.seqS ?_;(repeat' (first |refine Fl.v rfl rfl rfl ?_ |refine Fl.nilF ?_ |refine AWP.region ?_ |refine Fl.b rfl rfl rfl rfl ?_));refine ⟨?_⟩;refine AWP.ent (Ent.nilcell 3 1 703 rfl rfl rfl 3 eT 124) ?_;refine AWP.seq ?_;refine AWP.seq ?_;(repeat' (first |refine Fl.v rfl rfl rfl ?_ |refine AWP.region ?_));refine Fl.range rfl rfl rfl rfl rfl rfl rfl rfl ?_;(repeat' (first |refine Fl.nilF ?_ |refine AWP.block ?_));refine AWP.loop (G := List ME) (fun ys => (ys.map (·.2.2)).Nodup ∧ ∀ p ∈ ys, p ∈ xs) (fun ys => St.of [900, 901] [(0, .ptr 900 0), (2, .ptr 2 0), (3, .ptr 3 0), (15, .ptr 15 0)] [(900, .cells [aN V, .mp 901] 216), (901, bM xs clock), (2, .cells [aN 0, .v (.slice none 0 0)] 70), (3, .cells [aN V, .row 700] 70), (700, .row 3 eT (ys.map (tmM V)) 124), (15, .iter 901 clock (ys.map (·.2.2)) clock)]) (fun ys => xs.length - ys.length) [] ⟨by simp, by simp⟩ ?_ ?_
  · refine Ent.of [(700, 703)] ?_ ?_ rfl rfl;(repeat' (first |exact True.intro |refine ⟨⟨AV.Le.refl _, rfl⟩, ?_⟩ |refine ⟨⟨⟨_, rfl, BLe.cells (LeL.refl _)⟩, rfl⟩, ?_⟩ |refine ⟨⟨⟨_, rfl, BLe.row rfl⟩, rfl⟩, ?_⟩ |refine ⟨⟨⟨_, rfl, BLe.map rfl rfl⟩, rfl⟩, ?_⟩ |refine ⟨⟨⟨_, rfl, BLe.iter rfl rfl rfl rfl⟩, rfl⟩, ?_⟩|fail))
  · intro ys ⟨k0, k1⟩;obtain ⟨q1, q2⟩ := seen_perm ys xs m.nd k0 k1;refine AWP.seq ?_;refine AWP.next rfl rfl rfl rfl rfl rfl rfl rfl rfl rfl rfl m.lt (fun hall => ?_) (fun p hp hps => ?_)
    · have hperm := (q2 hall).map (tmM V);have hse := sortT_perm_eq m.parts hperm;have hl2 := q1;(repeat' (first |refine Fl.v rfl rfl rfl ?_ |refine AWP.seq ?_ |refine AWP.region ?_ |refine AWP.condF rfl ?_ |refine AWP.exit ?_));refine Fl.io rfl [(900, 700)] (sort_ok V (by omega) (ys.map (tmM V)) (fun t ht => m.eok t (hperm.mem_iff.1 ht)) ((List.Perm.pairwise_iff (fun h => Ne.symm h) hperm).2 m.parts) (by simp; omega) _) rfl rfl (LeL.refl _) rfl ⟨⟨⟨_, rfl, BLe.row rfl⟩, rfl⟩, trivial⟩ rfl rfl rfl rfl rfl ?_;refine Fl.nilF ?_;rw [hse];refine AWP.ent (Ent.freeze 700 rfl) ?_;(repeat' (first |refine Fl.v rfl rfl rfl ?_ |refine AWP.seq ?_ |refine AWP.region ?_))
      have hW : WP ⟨V, sortT (xs.map (tmM V))⟩ := by
        intro t ht;obtain ⟨p, hp, rfl⟩ := List.mem_map.1 ((sortT_perm _).mem_iff.1 ht);exact toW_ok _
      by_cases hok : OkP ⟨V, sortT (xs.map (tmM V))⟩
      · obtain ⟨rfl, _⟩ := hr1 hok;refine Fl.call rfl (pValid_ok ⟨V, sortT (xs.map (tmM V))⟩ hW true (by simp [hok])) rfl rfl rfl (LeL.refl _) ?_;(repeat' (first |refine Fl.v rfl rfl rfl ?_ |refine Fl.nilF ?_ |refine AWP.seq ?_ |refine AWP.region ?_ |refine Fl.b rfl rfl rfl rfl ?_ |refine AWP.condF rfl ?_ |refine AWP.skip ?_ |refine AWP.ret ?_));exact ⟨⟨[], _, _, Ent.refl _ _ _, rfl, AV.Le.refl _, rfl, ⟨⟨⟨_, rfl, BLe.cells (LeL.refl _)⟩, rfl⟩, ⟨⟨_, rfl, BLe.map rfl rfl⟩, rfl⟩, trivial⟩, rfl, rfl⟩⟩
      · obtain ⟨rfl, _⟩ := hr2 hok;refine Fl.call rfl (pValid_ok ⟨V, sortT (xs.map (tmM V))⟩ hW false (by simp [hok])) rfl rfl rfl (LeL.refl _) ?_;(repeat' (first |refine Fl.v rfl rfl rfl ?_ |refine Fl.nilF ?_ |refine AWP.region ?_ |refine AWP.condT rfl ?_));exact Fl.thrC rfl [] (Throw_ok 4) rfl (LeL.refl _) rfl trivial rfl (fun _ => by kernel_rfl) (fun _ => rfl)
    · obtain ⟨e, he, hpe, hel, heo⟩ := m.exp p hp;have h32 := p.1.2
      have htl : (p.1.1.take V).length = V := by rw [List.length_take]; omega
      have hlt : ys.length < xs.length := by
        have := (seen_perm (ys ++ [p]) xs m.nd (by rw [List.map_append, List.nodup_append]; exact ⟨k0, by simp, fun a ha b hb => by simp at hb; subst hb; exact fun e => hps (e ▸ ha)⟩) (fun q hq => by rcases List.mem_append.1 hq with h | h; exact k1 q h; simp at h; exact h ▸ hp)).1;simp at this; omega
      refine AWP.seqS ?_;(repeat' (first |refine AWP.condT rfl ?_ |refine AWP.skip ?_));refine ⟨?_⟩;refine AWP.block ?_;refine AWP.seqS ?_;(repeat' (first |refine AWP.region ?_));refine Fl.entry rfl rfl rfl rfl key_law.back (fun _ => rfl) hp rfl m.nd rfl rfl ?_;(repeat' (first |refine Fl.v rfl rfl rfl ?_ |refine Fl.nilF ?_ |refine Fl.b rfl rfl rfl rfl ?_));refine ⟨?_⟩;refine AWP.ent (Ent.freezeC 4 4 rfl rfl rfl rfl) ?_;(repeat' (first |refine Fl.v rfl rfl rfl ?_ |refine AWP.region ?_));refine Fl.cutArr rfl rfl rfl rfl rfl rfl rfl rfl rfl (by omega) (by omega) (keyC_take p.1 V) (by omega) (fun _ => rfl) rfl rfl ?_;skip;refine Fl.call rfl (cloneI_ok (p.1.1.take V) (by omega)) rfl rfl rfl (LeL.refl _) ?_;(repeat' (first |refine Fl.b rfl rfl rfl rfl ?_));refine Fl.lit rfl rfl rfl rfl rfl eT [tmM V p] rfl rfl rfl rfl (by intro _ _; rfl) rfl ?_;skip;refine Fl.ap rfl rfl rfl rfl rfl rfl rfl rfl rfl rfl rfl rfl rfl (fun _ => rfl) (fun _ => rfl) (AV.Le.refl _) (by dsimp only [List.length_nil, List.length_cons]; simp; omega) (by simp; omega) ?_;(repeat' (first |refine Fl.v rfl rfl rfl ?_ |refine Fl.nil (fun _ => by kernel_rfl) ?_ |refine Fl.b rfl rfl rfl rfl ?_));refine LoopEnd.of (ys ++ [p]) ⟨?_, ?_⟩ (by simp; omega) ?_
      · rw [List.map_append, List.nodup_append]; exact ⟨k0, by simp, fun a ha b hb => by simp at hb; subst hb; exact fun e => hps (e ▸ ha)⟩
      · intro q hq;rcases List.mem_append.1 hq with h | h
        · exact k1 q h
        · simp at h; exact h ▸ hp
      · refine Ent.of [(700, 32)] ?_ ?_ rfl rfl;(repeat' (first |exact True.intro |refine ⟨⟨AV.Le.refl _, rfl⟩, ?_⟩ |refine ⟨⟨⟨_, rfl, BLe.cells (LeL.refl _)⟩, rfl⟩, ?_⟩ |refine ⟨⟨⟨_, rfl, BLe.map rfl rfl⟩, rfl⟩, ?_⟩ |refine ⟨⟨⟨_, rfl, BLe.iter rfl rfl ?_ rfl⟩, rfl⟩, ?_⟩ |refine ⟨⟨⟨_, rfl, BLe.row ?_⟩, rfl⟩, ?_⟩|fail))
        all_goals simp
end Go.Proofs.YtcaecieigoplbaaGreat
/- Sums of terms, as the map collects them. -/
namespace Go.AL
theorem findM_none {k : Key} : ∀ {xs : List ME} {i : Nat}, findM k xs i = none → ∀ q ∈ xs, q.1 ≠ k
  | [], _, _, q, hq => by cases hq
  | p :: xs, i, h, q, hq => by
    unfold findM at h;split at h
    · cases h
    · rename_i hk;rcases List.mem_cons.1 hq with rfl | hq
      · exact fun e => hk e.symm
      · exact findM_none h q hq
theorem findM_miss {k : Key} : ∀ {xs : List ME} (i : Nat), (∀ q ∈ xs, q.1 ≠ k) → findM k xs i = none
  | [], _, _ => rfl
  | p :: xs, i, h => by
    unfold findM;rw [if_neg (fun e => h p (by simp) e.symm)];exact findM_miss (i + 1) fun q hq => h q (by simp [hq])
theorem findM_split {k : Key} : ∀ {xs : List ME} {i j : Nat} {p : ME}, findM k xs i = some (j, p) → ∃ A B, xs = A ++ p :: B ∧ A.length + i = j ∧ p.1 = k ∧ ∀ q ∈ A, q.1 ≠ k
  | [], _, _, _, h => by simp [findM] at h
  | q :: xs, i, j, p, h => by
    unfold findM at h;split at h
    · rename_i hk;injection h with h; injection h with h1 h2; subst h1 h2;exact ⟨[], xs, rfl, by simp, hk.symm, by simp⟩
    · rename_i hk;obtain ⟨A, B, h1, h2, h3, h4⟩ := findM_split h;refine ⟨q :: A, B, by rw [h1]; rfl, by simp; omega, h3, fun r hr => ?_⟩;rcases List.mem_cons.1 hr with rfl | hr
      · exact fun e => hk e.symm
      · exact h4 r hr
theorem findM_hit {k : Key} {p : ME} (hk : p.1 = k) : ∀ {A B : List ME} (i : Nat), (∀ q ∈ A, q.1 ≠ k) → findM k (A ++ p :: B) i = some (A.length + i, p)
  | [], B, i, _ => by simp [findM, hk]
  | q :: A, B, i, h => by
    rw [List.cons_append];unfold findM;rw [if_neg (fun e => h q (by simp) e.symm), findM_hit hk (i + 1) fun r hr => h r (by simp [hr])];simp only [List.length_cons];congr 2; omega
/-- what setting an entry makes of a map -/
theorem setM_cases (k : Key) (y : Int) (c : Nat) (xs : List ME) :
    (findM k xs 0 = none ∧ putC k c xs = c + 1 ∧ ((y = 0 ∧ setM k y c xs = xs) ∨ (y ≠ 0 ∧ setM k y c xs = xs ++ [(k, y, c)]))) ∨
    (∃ A p B, findM k xs 0 = some (A.length, p) ∧ xs = A ++ p :: B ∧ p.1 = k ∧ (∀ q ∈ A, q.1 ≠ k) ∧ putC k c xs = c ∧ ((y = 0 ∧ setM k y c xs = A ++ B) ∨ (y ≠ 0 ∧ setM k y c xs = A ++ (k, y, p.2.2) :: B))) := by
  cases hf : findM k xs 0 with
  | none =>
    left;refine ⟨rfl, by unfold putC; rw [hf], ?_⟩
    have hp : putM k y c xs = xs ++ [(k, y, c)] := by unfold putM; rw [hf]
    by_cases hy : y = 0
    · left;refine ⟨hy, ?_⟩;unfold setM;have hh := findM_hit (k := k) (p := (k, y, c)) rfl (A := xs) (B := []) 0 (findM_none hf);rw [if_pos hy, hp];unfold delM;rw [hh];simp only [Nat.add_zero];rw [List.eraseIdx_append_of_length_le (Nat.le_refl _)];simp
    · right; exact ⟨hy, by unfold setM; rw [if_neg hy, hp]⟩
  | some q =>
    obtain ⟨j, p⟩ := q;obtain ⟨A, B, h1, h2, h3, h4⟩ := findM_split hf
    have h2 : A.length = j := by omega
    subst h2;right;refine ⟨A, p, B, rfl, h1, h3, h4, by unfold putC; rw [hf], ?_⟩
    have hp : putM k y c xs = A ++ (k, y, p.2.2) :: B := by unfold putM; rw [hf, h1]; simp
    by_cases hy : y = 0
    · left;refine ⟨hy, ?_⟩;unfold setM;have hh := findM_hit (k := k) (p := (k, y, p.2.2)) rfl (A := A) (B := B) 0 h4;rw [if_pos hy, hp];unfold delM;rw [hh];simp only [Nat.add_zero];rw [List.eraseIdx_append_of_length_le (Nat.le_refl _)];simp
    · right; exact ⟨hy, by unfold setM; rw [if_neg hy, hp]⟩
def exK (e : List Int) : Key := if h : e.length ≤ 32 then expK e h else ⟨List.replicate 32 0, by simp⟩
theorem exK_eq {e : List Int} (h : e.length ≤ 32) : exK e = expK e h := dif_pos h
abbrev UT := Int × List Int
abbrev MS := List ME × Nat
def stepM (s : MS) (u : UT) : MS := (setM (exK u.2) (getM (exK u.2) s.1 + u.1) s.2 s.1, putC (exK u.2) s.2 s.1)
noncomputable def runM : List UT → MS → Option MS
  | [], s => some s
  | u :: us, s => @ite _ (Fit (getM (exK u.2) s.1 + u.1)) (Classical.propDecidable _) (runM us (stepM s u)) none
theorem runM_append : ∀ (a b : List UT) (s : MS), runM (a ++ b) s = (runM a s).bind (runM b)
  | [], b, s => rfl
  | u :: a, b, s => by
    rw [List.cons_append];unfold runM;split
    · exact runM_append a b _
    · rfl
theorem runM_snoc {a : List UT} {u : UT} {s s' : MS} (h : runM a s = some s') (hf : Fit (getM (exK u.2) s'.1 + u.1)) : runM (a ++ [u]) s = some (stepM s' u) := by
  rw [runM_append, h];simp [runM, hf]
theorem runM_stop {a b : List UT} {u : UT} {s s' : MS} (h : runM a s = some s') (hf : ¬ Fit (getM (exK u.2) s'.1 + u.1)) : runM (a ++ u :: b) s = none := by
  rw [runM_append, h];simp [runM, hf]
/-- terms to be added: exponents of so many variables -/
def UOk (V : Nat) (us : List UT) : Prop := ∀ u ∈ us, u.2.length = V ∧ EOk u.2
theorem MOk.step {V : Nat} {xs : List ME} {c : Nat} (m : MOk V xs c) (hV : V ≤ 32) {a : Int} {e : List Int} (hl : e.length = V) (he : EOk e) (hf : Fit (getM (exK e) xs + a)) : MOk V (stepM (xs, c) (a, e)).1 (stepM (xs, c) (a, e)).2 := by
  have h32 : e.length ≤ 32 := by omega
  show MOk V (setM (exK e) (getM (exK e) xs + a) c xs) (putC (exK e) c xs);have hexp : ∀ (p : ME), p.1 = exK e → ∃ (e : List Int) (he : e.length ≤ 32), p.1 = expK e he ∧ e.length = V ∧ EOk e := fun p hp => ⟨e, h32, by rw [hp, exK_eq h32], hl, he⟩;rcases setM_cases (exK e) (getM (exK e) xs + a) c xs with ⟨h1, h2, h3⟩ | ⟨A, p, B, h1, h2, h3, h4, h5, h6⟩
  · rw [h2];rcases h3 with ⟨_, h3⟩ | ⟨hy, h3⟩
    · rw [h3];exact ⟨m.nd, fun p hp => Nat.lt_succ_of_lt (m.lt p hp), m.keys, m.fit, m.nz, m.exp⟩
    · rw [h3]
      have hm : ∀ {Q : ME → Prop}, (∀ p ∈ xs, Q p) → Q (exK e, getM (exK e) xs + a, c) → ∀ p ∈ xs ++ [(exK e, getM (exK e) xs + a, c)], Q p := fun hq h p hp => by
        rcases List.mem_append.1 hp with hp | hp
        · exact hq p hp
        · simp at hp; subst hp; exact h
      refine ⟨?_, hm (fun p hp => Nat.lt_succ_of_lt (m.lt p hp)) (Nat.lt_succ_self c), ?_, hm m.fit hf, hm m.nz hy, hm m.exp (hexp _ rfl)⟩
      · rw [List.map_append, List.nodup_append];refine ⟨m.nd, by simp, fun x hx y hy' => ?_⟩;obtain ⟨p, hp, rfl⟩ := List.mem_map.1 hx;simp at hy'; subst hy';have := m.lt p hp; omega
      · rw [List.pairwise_append];refine ⟨m.keys, by simp, fun x hx y hy' => ?_⟩;simp at hy'; subst hy';exact findM_none h1 x hx
  · rw [h5];subst h2;rcases h6 with ⟨_, h6⟩ | ⟨hy, h6⟩
    · rw [h6];have hsub : (A ++ B).Sublist (A ++ p :: B) := List.Sublist.append_left (List.sublist_cons_self p B) A;have hm : ∀ q ∈ A ++ B, q ∈ A ++ p :: B := fun q hq => hsub.mem hq;exact ⟨(hsub.map _).nodup m.nd, fun q hq => m.lt q (hm q hq), m.keys.sublist hsub, fun q hq => m.fit q (hm q hq), fun q hq => m.nz q (hm q hq), fun q hq => m.exp q (hm q hq)⟩
    · rw [h6]
      have hm : ∀ {Q : ME → Prop}, (∀ q ∈ A ++ p :: B, Q q) → Q (exK e, getM (exK e) (A ++ p :: B) + a, p.2.2) → ∀ q ∈ A ++ (exK e, getM (exK e) (A ++ p :: B) + a, p.2.2) :: B, Q q := fun hq h q hq' => by
        rcases List.mem_append.1 hq' with hq' | hq'
        · exact hq q (by simp [hq'])
        · rcases List.mem_cons.1 hq' with rfl | hq'
          · exact h
          · exact hq q (by simp [hq'])
      refine ⟨by have := m.nd; simpa using this, hm m.lt (m.lt p (by simp)), ?_, hm m.fit hf, hm m.nz hy, hm m.exp (hexp _ rfl)⟩;have hk := m.keys;rw [List.pairwise_append, List.pairwise_cons] at hk ⊢;obtain ⟨k1, ⟨k2, k3⟩, k4⟩ := hk;rw [h3] at k2
      exact ⟨k1, ⟨k2, k3⟩, fun x hx y hy' => by
        rcases List.mem_cons.1 hy' with rfl | hy'
        · exact h4 x hx
        · exact k4 x hx y (by simp [hy'])⟩
theorem runM_ok {V : Nat} (hV : V ≤ 32) : ∀ {us : List UT} {xs : List ME} {c : Nat} {s' : MS}, MOk V xs c → UOk V us → runM us (xs, c) = some s' → MOk V s'.1 s'.2 ∧ s'.1.length ≤ xs.length + us.length
  | [], xs, c, s', m, _, h => by
    simp only [runM] at h; injection h with h; subst h; exact ⟨m, by simp⟩
  | (a, e) :: us, xs, c, s', m, hu, h => by
    unfold runM at h;split at h
    · rename_i hf;have hu1 := hu (a, e) (by simp);have hs := m.step hV hu1.1 hu1.2 hf
      have hlen : (stepM (xs, c) (a, e)).1.length ≤ xs.length + 1 := by
        show (setM (exK e) (getM (exK e) xs + a) c xs).length ≤ _;rcases setM_cases (exK e) (getM (exK e) xs + a) c xs with ⟨h1, h2, h3⟩ | ⟨A, p, B, h1, h2, h3, h4, h5, h6⟩
        · rcases h3 with ⟨_, h3⟩ | ⟨_, h3⟩ <;> rw [h3] <;> simp
        · rcases h6 with ⟨_, h6⟩ | ⟨_, h6⟩ <;> rw [h6, h2] <;> simp <;> omega
      have := runM_ok hV (xs := (stepM (xs, c) (a, e)).1) (c := (stepM (xs, c) (a, e)).2) hs (fun u hu' => hu u (by simp [hu'])) h;refine ⟨this.1, ?_⟩;have h2 := this.2;simp only [List.length_cons]; omega
    · cases h
theorem MOk.nil (V : Nat) : MOk V [] 0 := ⟨by simp, by simp, by simp, by simp, by simp, by simp⟩
end Go.AL
/- poly.plus. -/
namespace Go.AL
abbrev u1 (t : TZ) : UT := (zval t.c, t.e)
abbrev u2 (b : Int) (t : TZ) : UT := (zval t.c * b, t.e)
def plusU (b : Int) (p q : PZ) : List UT := p.terms.map u1 ++ q.terms.map (u2 b)
def SumOk (V : Nat) (us : List UT) (r : PZ) : Prop := ∃ s, runM us ([], 0) = some s ∧ r = ⟨V, sortT (s.1.map (tmM V))⟩ ∧ OkP r
theorem OkP.uok {p : PZ} {V : Nat} (hp : OkP p) (hV : p.vars = V) {t : TZ} (ht : t ∈ p.terms) : t.e.length = V ∧ EOk t.e := by
  have := hp.terms t ht;have h2 := this.len;exact ⟨by omega, this.exps⟩
theorem take_map_snoc {α β : Type} (f : α → β) {l : List α} {i : Nat} {x : α} (h : l[i]? = some x) : (l.map f).take (i + 1) = (l.map f).take i ++ [f x] := take_snoc (by rw [List.getElem?_map, h]; rfl)
theorem map_split {α β : Type} (f : α → β) {l : List α} {i : Nat} {x : α} (h : l[i]? = some x) : l.map f = (l.map f).take i ++ f x :: (l.map f).drop (i + 1) := by
  have hi := (List.getElem?_eq_some_iff.1 h).1
  have h2 : (l.map f)[i]'(by simpa using hi) = f x := by
    have := (List.getElem?_eq_some_iff.1 h).2;rw [List.getElem_map, this]
  rw [← h2, List.getElem_cons_drop, List.take_append_drop]
end Go.AL
namespace Go.Proofs.YtcaecieigoplbaaGreat
open Go.AL
theorem sAdd_ret (V : Nat) (hV : V ≤ 32) (s : MS) (m : MOk V s.1 s.2) (u : UT) (hc : Fit u.1) (he : u.2.length = V) (hf : Fit (getM (exK u.2) s.1 + u.1)) :
    IoFn Tryz.prog 220 [.ptr 900 0, aX u.1, aI u.2] (smB V s.1 s.2) (.ret (.tup [])) (smB V (stepM s u).1 (stepM s u).2) := by
  have h32 : u.2.length ≤ 32 := by omega
  rw [exK_eq h32] at hf;exact sAdd_io V s.1 s.2 u.1 u.2 hc m.fit h32 _ _ (fun _ => ⟨rfl, by simp only [stepM, exK_eq h32]⟩) (fun h => absurd hf h)
theorem sAdd_thr (V : Nat) (hV : V ≤ 32) (s : MS) (m : MOk V s.1 s.2) (u : UT) (hc : Fit u.1) (he : u.2.length = V) (hf : ¬ Fit (getM (exK u.2) s.1 + u.1)) :
    IoFn Tryz.prog 220 [.ptr 900 0, aX u.1, aI u.2] (smB V s.1 s.2) (.thr (thrown 4)) (smB V s.1 s.2) := by
  have h32 : u.2.length ≤ 32 := by omega
  rw [exK_eq h32] at hf;exact sAdd_io V s.1 s.2 u.1 u.2 hc m.fit h32 _ _ (fun h => absurd h hf) (fun _ => ⟨rfl, rfl⟩)

set_option maxHeartbeats 1000000 in
theorem plus_io (V : Nat) (hV : V ≤ 32) (p q : PZ) (b : Int) (hb : Fit b) (hwp : WP p) (hwq : WP q) (hp : OkP p) (hq : OkP q) (hpv : p.vars = V) (hqv : q.vars = V) (hmul : ∀ t ∈ q.terms, Fit (zval t.c * b)) (res : Res)
    (hr1 : ∀ r, SumOk V (plusU b p q) r → res = .ret (aP r)) (hr2 : (¬ ∃ r, SumOk V (plusU b p q) r) → res = .thr (thrown 4)) :
    IoFn Tryz.prog 185 [aP p, aP q, aX b] [] res [] := by
  have hfp : ∀ t ∈ p.terms, Fit (zval t.c) ∧ t.c = zOf (zval t.c) := fun t ht => by
    have := okZ_eq (hwp t ht) (hp.terms t ht).coef; exact ⟨this.2, this.1⟩
  have hfq : ∀ t ∈ q.terms, Fit (zval t.c) ∧ t.c = zOf (zval t.c) := fun t ht => by
    have := okZ_eq (hwq t ht) (hq.terms t ht).coef; exact ⟨this.2, this.1⟩
  have hup : UOk V (p.terms.map u1) := fun u hu => by
    obtain ⟨t, ht, rfl⟩ := List.mem_map.1 hu; exact hp.uok hpv ht
  have huq : UOk V (q.terms.map (u2 b)) := fun u hu => by
    obtain ⟨t, ht, rfl⟩ := List.mem_map.1 hu; exact hq.uok hqv ht
  have hplen := hp.len;have hqlen := hq.len;refine IoFn.of_body Tryz.func185 rfl Tryz.ntmps185 rfl rfl rfl ?_;(repeat' (first |refine Fl.v rfl rfl rfl ?_ |refine Fl.nilF ?_ |refine AWP.seq ?_ |refine AWP.region ?_ |refine Fl.b rfl rfl rfl rfl ?_));refine Fl.io rfl [(900, 710), (901, 711)] (empty_ok V) rfl rfl (LeL.cons (AV.Le.int hpv) LeL.nil) rfl trivial rfl rfl rfl rfl rfl ?_;(repeat' (first |refine Fl.v rfl rfl rfl ?_ |refine Fl.nilF ?_ |refine AWP.seq ?_ |refine AWP.region ?_ |refine AWP.block ?_));refine AWP.loop (G := Nat × MS) (fun (i, s) => i ≤ p.terms.length ∧ runM ((p.terms.map u1).take i) ([], 0) = some s)
    (fun (i, s) => St.of [] [(3, .ptr 3 0), (4, .ptr 4 0), (5, .ptr 5 0), (6, .ptr 6 0), (7, .ptr 710 0), (16, .sl 3 eT p.terms), (17, aN p.terms.length), (18, aN i)] [(3, .cells (eP p) 70), (4, .cells (eP q) 70), (5, .cells (eX b) 35), (6, .cells [aN 0, .v (.slice none 0 0)] 70), (710, .cells [aN V, .mp 711] 216), (711, bM s.1 s.2)]) (fun (i, s) => p.terms.length - i) (0, ([], 0)) ⟨by omega, by simp [runM]⟩ ?_ ?_
  · refine Ent.of [] ?_ ?_ rfl rfl;(repeat' (first |exact True.intro |refine ⟨⟨AV.Le.refl _, rfl⟩, ?_⟩ |refine ⟨⟨⟨_, rfl, BLe.cells (LeL.refl _)⟩, rfl⟩, ?_⟩ |refine ⟨⟨⟨_, rfl, BLe.map rfl rfl⟩, rfl⟩, ?_⟩|fail))
  · intro ⟨i, s⟩ ⟨k0, k1⟩;have hm := (runM_ok hV (MOk.nil V) (fun u hu => hup u (List.mem_of_mem_take hu)) k1);by_cases hi : i < p.terms.length
    · obtain ⟨t, ht⟩ : ∃ t, p.terms[i]? = some t := ⟨_, List.getElem?_eq_getElem hi⟩;have htm := List.mem_of_getElem? ht;by_cases hf : Fit (getM (exK t.e) s.1 + zval t.c)
      · (repeat' (first |refine Fl.v rfl rfl rfl ?_ |refine Fl.nilF ?_ |refine AWP.seq ?_ |refine AWP.region ?_ |refine Fl.b rfl rfl rfl rfl ?_ |(refine AWP.condD rfl ?_ ?_ <;> intro _ <;> try (exfalso; omega)) |refine AWP.block ?_ |refine AWP.skip ?_ |refine Fl.elK rfl rfl rfl rfl rfl rfl rfl rfl (by assumption) (by omega) ?_|fail));refine Fl.io rfl [(900, 710), (901, 711)] (sAdd_ret V hV s hm.1 (u1 t) (hfp t htm).1 (hp.uok hpv htm).1 hf) rfl rfl (LeL.cons (AV.Le.refl _) (LeL.cons (AV.Le.agg (leZ (hfp t htm).2)) (LeL.refl _))) rfl ⟨⟨⟨_, rfl, BLe.cells (LeL.refl _)⟩, rfl⟩, ⟨⟨_, rfl, BLe.map rfl rfl⟩, rfl⟩, trivial⟩ rfl rfl rfl rfl rfl ?_;(repeat' (first |refine Fl.v rfl rfl rfl ?_ |refine Fl.nilF ?_ |refine AWP.region ?_ |refine Fl.w rfl rfl rfl (by first | exact True.intro | omega) ?_|fail));refine LoopEnd.of (i + 1, stepM s (u1 t)) ⟨by omega, by rw [take_map_snoc u1 ht]; exact runM_snoc k1 hf⟩ (by simp only; omega) ?_;refine Ent.of [] ?_ ?_ rfl rfl;(repeat' (first |exact True.intro |refine ⟨⟨AV.Le.refl _, rfl⟩, ?_⟩ |refine ⟨⟨⟨_, rfl, BLe.cells (LeL.refl _)⟩, rfl⟩, ?_⟩ |refine ⟨⟨⟨_, rfl, BLe.map rfl rfl⟩, rfl⟩, ?_⟩|fail))
      · have e1 := hr2 (by
          rintro ⟨r, s', h1, _⟩;have := runM_stop (u := u1 t) (b := (p.terms.map u1).drop (i + 1)) k1 hf;rw [show (p.terms.map u1).take i ++ (zval t.c, t.e) :: (p.terms.map u1).drop (i + 1) = p.terms.map u1 from (map_split u1 ht).symm] at this;unfold plusU at h1;rw [runM_append, this] at h1
          cases h1)
        subst e1;(repeat' (first |refine Fl.v rfl rfl rfl ?_ |refine Fl.nilF ?_ |refine AWP.seq ?_ |refine AWP.region ?_ |refine Fl.b rfl rfl rfl rfl ?_ |(refine AWP.condD rfl ?_ ?_ <;> intro _ <;> try (exfalso; omega)) |refine AWP.block ?_ |refine AWP.skip ?_ |refine Fl.elK rfl rfl rfl rfl rfl rfl rfl rfl (by assumption) (by omega) ?_|fail));exact Fl.thrC rfl [(900, 710), (901, 711)] (sAdd_thr V hV s hm.1 (u1 t) (hfp t htm).1 (hp.uok hpv htm).1 hf) rfl (LeL.cons (AV.Le.refl _) (LeL.cons (AV.Le.agg (leZ (hfp t htm).2)) (LeL.refl _))) rfl ⟨⟨⟨_, rfl, BLe.cells (LeL.refl _)⟩, rfl⟩, ⟨⟨_, rfl, BLe.map rfl rfl⟩, rfl⟩, trivial⟩ rfl (fun _ => by kernel_rfl) (fun _ => rfl)
    · have hti : (p.terms.map u1).take i = p.terms.map u1 := List.take_of_length_le (by simp; omega);rw [hti] at k1;clear hti hm;(repeat' (first |refine Fl.v rfl rfl rfl ?_ |refine Fl.nilF ?_ |refine AWP.seq ?_ |refine AWP.region ?_ |(refine AWP.condD rfl ?_ ?_ <;> intro _ <;> try (exfalso; omega)) |refine AWP.block ?_ |refine AWP.exit ?_));rename_i hi9; clear hi hi9 k0;refine AWP.loop (G := Nat × MS) (fun (i, s') => i ≤ q.terms.length ∧ runM ((q.terms.map (u2 b)).take i) s = some s')
        (fun (i, s') => St.of [] [(3, .ptr 3 0), (4, .ptr 4 0), (5, .ptr 5 0), (6, .ptr 6 0), (7, .ptr 710 0), (30, .sl 3 eT q.terms), (31, aN q.terms.length), (32, aN i)] [(3, .cells (eP p) 70), (4, .cells (eP q) 70), (5, .cells (eX b) 35), (6, .cells [aN 0, .v (.slice none 0 0)] 70), (710, .cells [aN V, .mp 711] 216), (711, bM s'.1 s'.2)]) (fun (i, s') => q.terms.length - i) (0, s) ⟨by omega, by simp [runM]⟩ ?_ ?_
      · refine Ent.of [] ?_ ?_ rfl rfl;(repeat' (first |exact True.intro |refine ⟨⟨AV.Le.refl _, rfl⟩, ?_⟩ |refine ⟨⟨⟨_, rfl, BLe.cells (LeL.refl _)⟩, rfl⟩, ?_⟩ |refine ⟨⟨⟨_, rfl, BLe.map rfl rfl⟩, rfl⟩, ?_⟩|fail))
      · have hm0 := runM_ok hV (MOk.nil V) hup k1;intro ⟨i, s'⟩ ⟨k0, k2⟩;have hm := (runM_ok hV hm0.1 (fun u hu => huq u (List.mem_of_mem_take hu)) k2);by_cases hi : i < q.terms.length
        · obtain ⟨t, ht⟩ : ∃ t, q.terms[i]? = some t := ⟨_, List.getElem?_eq_getElem hi⟩;have htm := List.mem_of_getElem? ht;by_cases hf : Fit (getM (exK t.e) s'.1 + zval t.c * b)
          · (repeat' (first |refine Fl.v rfl rfl rfl ?_ |refine Fl.nilF ?_ |refine AWP.seq ?_ |refine AWP.region ?_ |refine Fl.b rfl rfl rfl rfl ?_ |(refine AWP.condD rfl ?_ ?_ <;> intro _ <;> try (exfalso; omega)) |refine AWP.block ?_ |refine AWP.skip ?_ |refine Fl.elK rfl rfl rfl rfl rfl rfl rfl rfl (by assumption) (by omega) ?_|fail));refine Fl.call rfl (xMul_ret _ _ (hfq t htm).1 hb (hmul t htm)) rfl rfl rfl (LeL.cons (AV.Le.agg (leZ (σ := []) (hfq t htm).2)) (LeL.refl _)) ?_;(repeat' (first |refine Fl.v rfl rfl rfl ?_));refine Fl.io rfl [(900, 710), (901, 711)] (sAdd_ret V hV s' hm.1 (u2 b t) (hmul t htm) (hq.uok hqv htm).1 hf) rfl rfl (LeL.refl _) rfl ⟨⟨⟨_, rfl, BLe.cells (LeL.refl _)⟩, rfl⟩, ⟨⟨_, rfl, BLe.map rfl rfl⟩, rfl⟩, trivial⟩ rfl rfl rfl rfl rfl ?_;(repeat' (first |refine Fl.v rfl rfl rfl ?_ |refine Fl.nilF ?_ |refine Fl.nil (fun _ => by kernel_rfl) ?_ |refine AWP.region ?_ |refine Fl.w rfl rfl rfl (by first | exact True.intro | omega) ?_|fail));refine LoopEnd.of (i + 1, stepM s' (u2 b t)) ⟨by omega, by rw [take_map_snoc (u2 b) ht]; exact runM_snoc k2 hf⟩ (by simp only; omega) ?_;refine Ent.of [] ?_ ?_ rfl rfl;(repeat' (first |exact True.intro |refine ⟨⟨AV.Le.refl _, rfl⟩, ?_⟩ |refine ⟨⟨⟨_, rfl, BLe.cells (LeL.refl _)⟩, rfl⟩, ?_⟩ |refine ⟨⟨⟨_, rfl, BLe.map rfl rfl⟩, rfl⟩, ?_⟩|fail))
          · have e1 := hr2 (by
              rintro ⟨r, s2, h1, _⟩;have := runM_stop (u := u2 b t) (b := (q.terms.map (u2 b)).drop (i + 1)) k2 hf;rw [show (q.terms.map (u2 b)).take i ++ u2 b t :: (q.terms.map (u2 b)).drop (i + 1) = q.terms.map (u2 b) from (map_split (u2 b) ht).symm] at this;unfold plusU at h1;rw [runM_append, k1] at h1;change runM _ s = _ at h1;rw [this] at h1
              cases h1)
            subst e1;(repeat' (first |refine Fl.v rfl rfl rfl ?_ |refine Fl.nilF ?_ |refine AWP.seq ?_ |refine AWP.region ?_ |refine Fl.b rfl rfl rfl rfl ?_ |(refine AWP.condD rfl ?_ ?_ <;> intro _ <;> try (exfalso; omega)) |refine AWP.block ?_ |refine AWP.skip ?_ |refine Fl.elK rfl rfl rfl rfl rfl rfl rfl rfl (by assumption) (by omega) ?_|fail));refine Fl.call rfl (xMul_ret _ _ (hfq t htm).1 hb (hmul t htm)) rfl rfl rfl (LeL.cons (AV.Le.agg (leZ (σ := []) (hfq t htm).2)) (LeL.refl _)) ?_;(repeat' (first |refine Fl.v rfl rfl rfl ?_));exact Fl.thrC rfl [(900, 710), (901, 711)] (sAdd_thr V hV s' hm.1 (u2 b t) (hmul t htm) (hq.uok hqv htm).1 hf) rfl (LeL.refl _) rfl ⟨⟨⟨_, rfl, BLe.cells (LeL.refl _)⟩, rfl⟩, ⟨⟨_, rfl, BLe.map rfl rfl⟩, rfl⟩, trivial⟩ rfl (fun _ => by kernel_rfl) (fun _ => rfl)
        · have hti : (q.terms.map (u2 b)).take i = q.terms.map (u2 b) := List.take_of_length_le (by simp; omega);rw [hti] at k2
          have hall : runM (plusU b p q) ([], 0) = some s' := by
            unfold plusU;rw [runM_append, k1];exact k2
          have hln := (runM_ok hV (MOk.nil V) (us := plusU b p q) (fun u hu => (List.mem_append.1 hu).elim (hup u) (huq u)) hall).2
          have hlu : (plusU b p q).length = p.terms.length + q.terms.length := by simp [plusU]
          simp only [List.length_nil] at hln;by_cases hok : OkP ⟨V, sortT (s'.1.map (tmM V))⟩
          · have e1 := hr1 _ ⟨s', hall, rfl, hok⟩;subst e1;(repeat' (first |refine Fl.v rfl rfl rfl ?_ |refine Fl.nilF ?_ |refine AWP.seq ?_ |refine AWP.region ?_ |(refine AWP.condD rfl ?_ ?_ <;> intro _ <;> try (exfalso; omega)) |refine AWP.exit ?_));refine Fl.io rfl [(900, 710), (901, 711)] (sPoly_io V s'.1 s'.2 hm.1 hV (by omega) _ _ (fun _ => ⟨rfl, rfl⟩) (fun h => absurd hok h)) rfl rfl (LeL.refl _) rfl ⟨⟨⟨_, rfl, BLe.cells (LeL.refl _)⟩, rfl⟩, ⟨⟨_, rfl, BLe.map rfl rfl⟩, rfl⟩, trivial⟩ rfl rfl rfl rfl rfl ?_;(repeat' (first |refine Fl.nilF ?_ |refine Fl.b rfl rfl rfl rfl ?_ |refine AWP.ret ?_));exact ⟨⟨[], _, _, Ent.refl _ _ _, rfl, AV.Le.refl _, rfl, trivial, rfl, rfl⟩⟩
          · have e1 := hr2 (by
              rintro ⟨r, s2, h1, h2, h3⟩;rw [hall] at h1;injection h1 with h1;subst h1
              exact hok (h2 ▸ h3))
            subst e1;(repeat' (first |refine Fl.v rfl rfl rfl ?_ |refine Fl.nilF ?_ |refine AWP.seq ?_ |refine AWP.region ?_ |(refine AWP.condD rfl ?_ ?_ <;> intro _ <;> try (exfalso; omega)) |refine AWP.exit ?_));exact Fl.thrC rfl [(900, 710), (901, 711)] (sPoly_io V s'.1 s'.2 hm.1 hV (by omega) _ _ (fun h => absurd h hok) (fun _ => ⟨rfl, rfl⟩)) rfl (LeL.refl _) rfl ⟨⟨⟨_, rfl, BLe.cells (LeL.refl _)⟩, rfl⟩, ⟨⟨_, rfl, BLe.map rfl rfl⟩, rfl⟩, trivial⟩ rfl (fun _ => by kernel_rfl) (fun _ => rfl)
end Go.Proofs.YtcaecieigoplbaaGreat

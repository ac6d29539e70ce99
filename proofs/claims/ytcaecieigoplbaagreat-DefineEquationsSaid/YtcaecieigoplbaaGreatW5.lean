/- Part 5 of a proof layer and of the contracts of the functions. -/
import Derived.Test.YtcaecieigoplbaaGreatW4
set_option linter.unusedVariables false
set_option linter.unusedSimpArgs false
/- poly.both, tried, Add, Mul. -/
namespace Go.AL
structure RetD1 (n : Nat) (I : List Id) (tab : Tab) (rs : List ResultVar) (r : AV) (s : St) : Prop where
  out : ∃ s' r', Ent n I s s' ∧ resA tab s' rs = some r' ∧ r'.closed = true ∧ r'.Le r
def RetD (n : Nat) (I : List Id) (tab : Tab) (rs : List ResultVar) (r : AV) : Exit → St → Prop
  | .normal, s => RetD1 n I tab rs r s
  | .ret, s => RetD1 n I tab rs r s
  | _, _ => False
theorem RetD1.of {n : Nat} {I : List Id} {tab : Tab} {rs : List ResultVar} {r r' : AV} {s : St} (h1 : resA tab s rs = some r') (h2 : r'.Le r) (hc : r'.closed = true := by rfl) : RetD1 n I tab rs r s := ⟨s, r', Ent.refl _ _ _, h1, hc, h2⟩
section
variable {P : Program} {tab : Tab} {n : Nat}
theorem IoFn.of_bodyD [f : Facts P tab] {k : FuncId} {fn : Func} {c : Code} {args : List AV} {bxs : List (Id × Bx)} {r : AV} (hf : P.funcs[k]? = some fn) (hb : fn.body = some c) (hn : fn.ntmps = n) (hname : (fn.name == "runtime.NumGoroutine") = false) (hl : Nat.ble args.length n = true)
  (h : AWP P n (idsB bxs) c (RetD n (idsB bxs) tab fn.results.toList r) (St.initB args bxs)) : IoFn P k args bxs (.ret r) [] := by
 have hl := Nat.le_of_ble_eq_true hl;refine ⟨⟨fn, hf, hname, by rw [hb]; rfl⟩, fun w hp β us hw hbx hβn hr => ?_⟩;refine calls_of_wp hf hb ?_
 have hus : us.size = args.length := by rw [← Array.length_toList]; exact hr.length
 have hbase : Base ⟨w, hp, β, blksOf bxs β, []⟩ n (St.initB args bxs) { tmps := us ++ Array.replicate (fn.ntmps - us.size) undef, defers := [] } w hp β := by
  refine ⟨Evo.refl _ hw, Bt.le.refl _, fun i => ?_, hbx.box, hbx.apart, fun id B g hB hg => .inl ⟨id, B, hB, hg⟩, fun id hid => hβn id (fun hm => by rw [← memI_mem] at hm; simp only [St.initB] at hid; rw [hm] at hid; cases hid), by simp; omega, rfl⟩;simp only [St.initB];by_cases hi : i < us.size
  ·have hget : (us ++ Array.replicate (fn.ntmps - us.size) undef).getD i undef = us[i] := by
    simp [Array.getD_eq_getD_getElem?, Array.getElem?_append, hi]
   rw [hget];exact initE_rep args us.toList i _ hr (by simp [hi])
  ·rw [initE_any args i (by omega)];simp only [Rep]
 have hini : IniOk ⟨w, hp, β, blksOf bxs β, []⟩ (idsB bxs) := fun id hid => by
  rcases Classical.em (id ∈ idsB bxs) with hm | hm
  ·exact hm
  ·exact absurd (hβn id hm) hid
 refine wp_mono (h.out ⟨w, hp, β, blksOf bxs β, []⟩ _ w hp β hini hbase) fun e a' w' ⟨s', h', β', b, q⟩ => ?_
 have fin : RetD1 n (idsB bxs) tab fn.results.toList r s' → a'.defers = [] ∧ ∃ v, (results fn a'.tmps).run P w' = .ok v w' ∧ ∃ h' β', β.le β' ∧ Evo (blksOf bxs β) w hp w' h' ∧ ∃ u, Ending.returned v = .returned u ∧ BoxesAt w' h' β' [] ∧ Rep h' β' r u ∧ ∀ id g, id ∉ idsB bxs → blk (β' id) = some g → w.heap.size ≤ g := by
  intro hq;obtain ⟨s2, r', hent, h1, hc, h2⟩ := hq.out;obtain ⟨h', β', b⟩ := hent _ _ _ _ _ hini b;obtain ⟨v, hv1, hv2⟩ := results_ok (P := P) b h1;refine ⟨b.defers, v, hv1, h', β, Bt.le.refl _, b.evo, v, rfl, ⟨fun id B hB => by simp [lookB] at hB, fun _ _ _ _ hB => by simp [lookB] at hB⟩, h2 _ _ _ (hv2.closed _ _ hc), fun id g hid hg => ?_⟩;rw [hβn id hid] at hg; simp [blk] at hg
 cases e with
 | normal => exact fin q
 | ret => exact fin q
 | _ => exact q.elim
end
end Go.AL
namespace Go.Proofs.YtcaecieigoplbaaGreat
open Go.AL
theorem aP_zero : (AV.agg [aN 0, .v (.slice none 0 0)]).Le (aP ⟨0, []⟩) := AV.Le.agg (LeL.cons (AV.Le.refl _) (LeL.cons (AV.Le.nil 3 eT) LeL.nil))
noncomputable def bothE (p q : PZ) : Int := @ite _ (OkP p ∧ OkP q) (Classical.propDecidable _) (if p.vars = q.vars then 0 else 2) 1
theorem bothE_bad {p q : PZ} (h : ¬ (OkP p ∧ OkP q)) : bothE p q = 1 := if_neg h
theorem bothE_ok {p q : PZ} (h1 : OkP p) (h2 : OkP q) : bothE p q = if p.vars = q.vars then 0 else 2 := if_pos ⟨h1, h2⟩
theorem both_ok (p q : PZ) (hwp : WP p) (hwq : WP q) : PureFn Tryz.prog 182 [aP p, aP q] (aN (bothE p q)) := by
 refine PureFn.of_body Tryz.func182 rfl Tryz.ntmps182 rfl rfl ?_;by_cases hp : OkP p
 ·by_cases hq : OkP q
  ·rw [bothE_ok hp hq];(repeat' (first |refine qv ?_ |apply qn |apply qs |apply qr |refine qe ?_|fail));refine qc (pValid_ok p hwp true (by simp [hp])) ?_;(repeat' (first |refine qv ?_|fail));refine qc (pValid_ok q hwq true (by simp [hq])) ?_;(repeat' (first |refine qv ?_ |apply qn |apply qs |apply qr |refine AWP.condF rfl ?_ |(refine AWP.condN rfl ?_ ?_ <;> intro _ <;> try (exfalso; omega)) |apply qk |apply qt))
   ·rename_i h; exact RetOk.of rfl (AV.Le.int (if_neg h).symm)
   ·rename_i h; exact RetOk.of rfl (AV.Le.int (if_pos h).symm)
  ·rw [bothE_bad (fun h => hq h.2)];(repeat' (first |refine qv ?_ |apply qn |apply qs |apply qr |refine qe ?_|fail));refine qc (pValid_ok p hwp true (by simp [hp])) ?_;(repeat' (first |refine qv ?_|fail));refine qc (pValid_ok q hwq false (by simp [hq])) ?_;(repeat' (first |refine qv ?_ |apply qn |apply qs |apply qr |refine AWP.condT rfl ?_ |apply qt));exact RetOk.of rfl (AV.Le.refl _)
 ·rw [bothE_bad (fun h => hp h.1)];(repeat' (first |refine qv ?_ |apply qn |apply qs |apply qr |refine qe ?_|fail));refine qc (pValid_ok p hwp false (by simp [hp])) ?_;(repeat' (first |refine qv ?_ |apply qn |apply qs |apply qr |refine Fl.skip rfl rfl ?_ |refine AWP.condT rfl ?_ |apply qt));exact RetOk.of rfl (AV.Le.refl _)
abbrev bPQ (p q : PZ) : List (AL.Id × Bx) := [(900, .cells (eP p) 70), (901, .cells (eP q) 70)]
abbrev bT (cf : FuncId) (p q : PZ) (o : List AV) : List (AL.Id × Bx) := [(902, .cells [.fn cf [.ptr 900 0, .ptr 901 0]] 71), (903, .cells o 70), (900, .cells (eP p) 70), (901, .cells (eP q) 70)]
theorem tried1_ret {cf : FuncId} {p q r : PZ} (h : IoFn Tryz.prog cf [.ptr 900 0, .ptr 901 0] (bPQ p q) (.ret (aP r)) (bPQ p q)) :
  IoFn Tryz.prog 218 [.ptr 902 0, .ptr 903 0] (bT cf p q [aN 0, .v (.slice none 0 0)]) (.ret (.tup [])) (bT cf p q (eP r)) := by
 refine IoFn.of_body Tryz.func218 rfl Tryz.ntmps218 rfl rfl rfl ?_;(repeat' (first |refine qv ?_ |apply qr));refine Fl.ioV rfl rfl [] h rfl rfl (LeL.refl _) rfl ⟨⟨⟨_, rfl, BLe.cells (LeL.refl _)⟩, rfl⟩, ⟨⟨_, rfl, BLe.cells (LeL.refl _)⟩, rfl⟩, trivial⟩ rfl rfl rfl rfl rfl ?_;(repeat' (first |apply qn |refine qe ?_|fail));exact ⟨⟨[], _, _, Ent.refl _ _ _, rfl, AV.Le.refl _, rfl, ⟨⟨⟨_, rfl, BLe.cells (LeL.refl _)⟩, rfl⟩, ⟨⟨_, rfl, BLe.cells (LeL.refl _)⟩, rfl⟩, ⟨⟨_, rfl, BLe.cells (LeL.refl _)⟩, rfl⟩, ⟨⟨_, rfl, BLe.cells (LeL.refl _)⟩, rfl⟩, trivial⟩, rfl, rfl⟩⟩
theorem tried1_thr {cf : FuncId} {p q : PZ} (h : IoFn Tryz.prog cf [.ptr 900 0, .ptr 901 0] (bPQ p q) (.thr (thrown 4)) (bPQ p q)) :
  IoFn Tryz.prog 218 [.ptr 902 0, .ptr 903 0] (bT cf p q [aN 0, .v (.slice none 0 0)]) (.thr (thrown 4)) (bT cf p q [aN 0, .v (.slice none 0 0)]) := by
 refine IoFn.of_body Tryz.func218 rfl Tryz.ntmps218 rfl rfl rfl ?_;(repeat' (first |refine qv ?_ |apply qr));exact Fl.thrV rfl rfl [] h rfl (LeL.refl _) rfl ⟨⟨⟨_, rfl, BLe.cells (LeL.refl _)⟩, rfl⟩, ⟨⟨_, rfl, BLe.cells (LeL.refl _)⟩, rfl⟩, trivial⟩ rfl (fun h => by cases h) (fun _ => rfl)
theorem tried_ret {cf : FuncId} {p q r : PZ} (h : IoFn Tryz.prog cf [.ptr 900 0, .ptr 901 0] (bPQ p q) (.ret (aP r)) (bPQ p q)) :
  IoFn Tryz.prog 183 [.fn cf [.ptr 900 0, .ptr 901 0]] (bPQ p q) (.ret (.tup [aP r, aN 0])) (bPQ p q) := by
 refine IoFn.of_body Tryz.func183 rfl Tryz.ntmps183 rfl rfl rfl ?_;(repeat' (first |refine qv ?_ |apply qn |apply qs |apply qr |refine qe ?_|fail));refine Fl.io rfl [(902, 1), (903, 4)] (Try_ret (tried1_ret h)) rfl rfl (LeL.refl _) rfl ⟨⟨⟨_, rfl, BLe.cells (LeL.refl _)⟩, rfl⟩, ⟨⟨_, rfl, BLe.cells (LeL.refl _)⟩, rfl⟩, ⟨⟨_, rfl, BLe.cells (LeL.refl _)⟩, rfl⟩, ⟨⟨_, rfl, BLe.cells (LeL.refl _)⟩, rfl⟩, trivial⟩ rfl rfl rfl rfl rfl ?_;(repeat' (first |refine qv ?_ |apply qn |apply qs |apply qr |refine qe ?_ |refine AWP.condF rfl ?_ |apply qk |apply qt));exact ⟨⟨[], _, _, Ent.refl _ _ _, rfl, AV.Le.refl _, rfl, ⟨⟨⟨_, rfl, BLe.cells (LeL.refl _)⟩, rfl⟩, ⟨⟨_, rfl, BLe.cells (LeL.refl _)⟩, rfl⟩, trivial⟩, rfl, rfl⟩⟩
theorem tried_thr {cf : FuncId} {p q : PZ} (h : IoFn Tryz.prog cf [.ptr 900 0, .ptr 901 0] (bPQ p q) (.thr (thrown 4)) (bPQ p q)) :
  IoFn Tryz.prog 183 [.fn cf [.ptr 900 0, .ptr 901 0]] (bPQ p q) (.ret (.tup [aP ⟨0, []⟩, aN 4])) [] := by
 refine IoFn.of_bodyD Tryz.func183 rfl Tryz.ntmps183 rfl rfl ?_;(repeat' (first |refine qv ?_ |apply qn |apply qs |apply qr |refine qe ?_|fail));refine Fl.io rfl [(902, 1), (903, 4)] (Try_thr (tried1_thr h)) rfl rfl (LeL.refl _) rfl ⟨⟨⟨_, rfl, BLe.cells (LeL.refl _)⟩, rfl⟩, ⟨⟨_, rfl, BLe.cells (LeL.refl _)⟩, rfl⟩, ⟨⟨_, rfl, BLe.cells (LeL.refl _)⟩, rfl⟩, ⟨⟨_, rfl, BLe.cells (LeL.refl _)⟩, rfl⟩, trivial⟩ rfl rfl rfl rfl rfl ?_;(repeat' (first |refine qv ?_ |apply qn |apply qs |apply qr |refine qe ?_ |refine AWP.condT rfl ?_ |apply qt));exact RetD1.of rfl (AV.Le.tup (LeL.cons aP_zero (LeL.refl _)))
theorem Mul1_io (V : Nat) (hV : V ≤ 32) (p q : PZ) (hwp : WP p) (hwq : WP q) (hp : OkP p) (hq : OkP q) (hpv : p.vars = V) (hqv : q.vars = V) (res : Res)
  (hr1 : ∀ r, ProdOk V p q r → res = .ret (aP r)) (hr2 : (¬ ∃ r, ProdOk V p q r) → res = .thr (thrown 4)) :
  IoFn Tryz.prog 186 [.ptr 900 0, .ptr 901 0] (bPQ p q) res (bPQ p q) := by
 have h := times_io V hV p q hwp hwq hp hq hpv hqv res hr1 hr2;refine IoFn.of_body Tryz.func186 rfl Tryz.ntmps186 rfl rfl rfl ?_;by_cases hg : ∃ r, ProdOk V p q r
 ·obtain ⟨r, hr⟩ := hg;have e1 := hr1 r hr;subst e1;(repeat' (first |refine qv ?_ |apply qn |apply qs |apply qr |refine qe ?_|fail));refine Fl.io rfl [] h rfl rfl (LeL.refl _) rfl trivial rfl rfl rfl rfl rfl ?_;(repeat' (first |apply qn |refine qe ?_ |apply qt));exact ⟨⟨[], _, _, Ent.refl _ _ _, rfl, AV.Le.refl _, rfl, ⟨⟨⟨_, rfl, BLe.cells (LeL.refl _)⟩, rfl⟩, ⟨⟨_, rfl, BLe.cells (LeL.refl _)⟩, rfl⟩, trivial⟩, rfl, rfl⟩⟩
 ·have e1 := hr2 hg;subst e1;(repeat' (first |refine qv ?_ |apply qn |apply qs |apply qr |refine qe ?_|fail));exact Fl.thrC rfl [] h rfl (LeL.refl _) rfl trivial rfl (fun h => by cases h) (fun _ => rfl)
theorem Add1_io (V : Nat) (hV : V ≤ 32) (p q : PZ) (hwp : WP p) (hwq : WP q) (hp : OkP p) (hq : OkP q) (hpv : p.vars = V) (hqv : q.vars = V) (res : Res)
  (hr1 : ∀ r, SumOk V (plusU 1 p q) r → res = .ret (aP r)) (hr2 : (¬ ∃ r, SumOk V (plusU 1 p q) r) → res = .thr (thrown 4)) :
  IoFn Tryz.prog 184 [.ptr 900 0, .ptr 901 0] (bPQ p q) res (bPQ p q) := by
 have h := plus_io V hV p q 1 fit_one hwp hwq hp hq hpv hqv (fun t ht => by rw [Int.mul_one]; exact (okZ_eq (hwq t ht) (hq.terms t ht).coef).2) res hr1 hr2;refine IoFn.of_body Tryz.func184 rfl Tryz.ntmps184 rfl rfl rfl ?_;by_cases hg : ∃ r, SumOk V (plusU 1 p q) r
 ·obtain ⟨r, hr⟩ := hg;have e1 := hr1 r hr;subst e1;(repeat' (first |refine qv ?_ |apply qn |apply qs |apply qr |refine qe ?_|fail));refine qc (Of_ok 1 (by omega) (by omega)) ?_;skip;refine Fl.io rfl [] h rfl rfl (LeL.refl _) rfl trivial rfl rfl rfl rfl rfl ?_;(repeat' (first |refine Fl.nil (fun _ => by kernel_rfl) ?_ |refine qe ?_ |apply qt));exact ⟨⟨[], _, _, Ent.refl _ _ _, rfl, AV.Le.refl _, rfl, ⟨⟨⟨_, rfl, BLe.cells (LeL.refl _)⟩, rfl⟩, ⟨⟨_, rfl, BLe.cells (LeL.refl _)⟩, rfl⟩, trivial⟩, rfl, rfl⟩⟩
 ·have e1 := hr2 hg;subst e1;(repeat' (first |refine qv ?_ |apply qn |apply qs |apply qr |refine qe ?_|fail));refine qc (Of_ok 1 (by omega) (by omega)) ?_;skip;exact Fl.thrC rfl [] h rfl (LeL.refl _) rfl trivial rfl (fun _ => by kernel_rfl) (fun _ => rfl)
theorem pMul_ok (V : Nat) (hV : V ≤ 32) (p q : PZ) (hwp : WP p) (hwq : WP q) (hp : OkP p) (hq : OkP q) (hpv : p.vars = V) (hqv : q.vars = V) (r : AV)
  (hr1 : ∀ x, ProdOk V p q x → r = .tup [aP x, aN 0]) (hr2 : (¬ ∃ x, ProdOk V p q x) → r = .tup [aP ⟨0, []⟩, aN 4]) :
  PureFn Tryz.prog 138 [aP p, aP q] r := by
 refine PureFn.of_body Tryz.func138 rfl Tryz.ntmps138 rfl rfl ?_;have hb := both_ok p q hwp hwq;rw [bothE_ok hp hq, if_pos (hpv.trans hqv.symm)] at hb;(repeat' (first |refine qv ?_ |apply qn |apply qs |apply qr |refine qe ?_|fail));refine qc (hb) ?_;(repeat' (first |refine qv ?_ |apply qn |apply qs |apply qr |refine AWP.condF rfl ?_ |apply qk));by_cases hg : ∃ x, ProdOk V p q x
 ·obtain ⟨x, hx⟩ := hg;rw [hr1 x hx]
  have hx' : ∀ y, ProdOk V p q y → (Res.ret (aP x)) = .ret (aP y) := fun y hy => by
   have := (hr1 x hx).symm.trans (hr1 y hy);injection this with this;injection this with this;rw [this]
  refine Fl.io rfl [(900, 2), (901, 3)] (tried_ret (Mul1_io V hV p q hwp hwq hp hq hpv hqv (.ret (aP x)) hx' (fun h => absurd ⟨x, hx⟩ h))) rfl rfl (LeL.refl _) rfl ⟨⟨⟨_, rfl, BLe.cells (LeL.refl _)⟩, rfl⟩, ⟨⟨_, rfl, BLe.cells (LeL.refl _)⟩, rfl⟩, trivial⟩ rfl rfl rfl rfl rfl ?_;(repeat' (first |refine qv ?_ |apply qn |refine qe ?_ |apply qt));exact RetOk.of rfl (AV.Le.refl _)
 ·rw [hr2 hg];refine Fl.io rfl [(900, 2), (901, 3)] (tried_thr (Mul1_io V hV p q hwp hwq hp hq hpv hqv _ (fun y hy => absurd ⟨y, hy⟩ hg) (fun _ => rfl))) rfl rfl (LeL.refl _) rfl ⟨⟨⟨_, rfl, BLe.cells (LeL.refl _)⟩, rfl⟩, ⟨⟨_, rfl, BLe.cells (LeL.refl _)⟩, rfl⟩, trivial⟩ rfl rfl rfl rfl rfl ?_;(repeat' (first |refine qv ?_ |apply qn |refine qe ?_ |apply qt));exact RetOk.of rfl (AV.Le.refl _)
theorem pAdd_ok (V : Nat) (hV : V ≤ 32) (p q : PZ) (hwp : WP p) (hwq : WP q) (hp : OkP p) (hq : OkP q) (hpv : p.vars = V) (hqv : q.vars = V) (r : AV)
  (hr1 : ∀ x, SumOk V (plusU 1 p q) x → r = .tup [aP x, aN 0]) (hr2 : (¬ ∃ x, SumOk V (plusU 1 p q) x) → r = .tup [aP ⟨0, []⟩, aN 4]) :
  PureFn Tryz.prog 137 [aP p, aP q] r := by
 refine PureFn.of_body Tryz.func137 rfl Tryz.ntmps137 rfl rfl ?_;have hb := both_ok p q hwp hwq;rw [bothE_ok hp hq, if_pos (hpv.trans hqv.symm)] at hb;(repeat' (first |refine qv ?_ |apply qn |apply qs |apply qr |refine qe ?_|fail));refine qc (hb) ?_;(repeat' (first |refine qv ?_ |apply qn |apply qs |apply qr |refine AWP.condF rfl ?_ |apply qk));by_cases hg : ∃ x, SumOk V (plusU 1 p q) x
 ·obtain ⟨x, hx⟩ := hg;rw [hr1 x hx]
  have hx' : ∀ y, SumOk V (plusU 1 p q) y → (Res.ret (aP x)) = .ret (aP y) := fun y hy => by
   have := (hr1 x hx).symm.trans (hr1 y hy);injection this with this;injection this with this;rw [this]
  refine Fl.io rfl [(900, 2), (901, 3)] (tried_ret (Add1_io V hV p q hwp hwq hp hq hpv hqv (.ret (aP x)) hx' (fun h => absurd ⟨x, hx⟩ h))) rfl rfl (LeL.refl _) rfl ⟨⟨⟨_, rfl, BLe.cells (LeL.refl _)⟩, rfl⟩, ⟨⟨_, rfl, BLe.cells (LeL.refl _)⟩, rfl⟩, trivial⟩ rfl rfl rfl rfl rfl ?_;(repeat' (first |refine qv ?_ |apply qn |refine qe ?_ |apply qt));exact RetOk.of rfl (AV.Le.refl _)
 ·rw [hr2 hg];refine Fl.io rfl [(900, 2), (901, 3)] (tried_thr (Add1_io V hV p q hwp hwq hp hq hpv hqv _ (fun y hy => absurd ⟨y, hy⟩ hg) (fun _ => rfl))) rfl rfl (LeL.refl _) rfl ⟨⟨⟨_, rfl, BLe.cells (LeL.refl _)⟩, rfl⟩, ⟨⟨_, rfl, BLe.cells (LeL.refl _)⟩, rfl⟩, trivial⟩ rfl rfl rfl rfl rfl ?_;(repeat' (first |refine qv ?_ |apply qn |refine qe ?_ |apply qt));exact RetOk.of rfl (AV.Le.refl _)
end Go.Proofs.YtcaecieigoplbaaGreat
/- The values of sums and products. -/
namespace Go.AL
theorem plop (v : Int) : plI v + opI v = v := by unfold plI opI; split <;> omega
theorem pv_sum (X : List Int) (p : PZ) : pv X p = sumL (p.terms.map (tv X)) := by
 unfold pv PS OS
 induction p.terms with
 | nil => rfl
 | cons t l ih =>
  have := plop (tv X t);simp only [List.map_cons, sumL] at ih ⊢; omega
theorem sumL_perm {l m : List Int} (h : l.Perm m) : sumL l = sumL m := by
 induction h with
 | nil => rfl
 | cons x _ ih => simp only [sumL, ih]
 | swap x y l => simp only [sumL]; omega
 | trans _ _ h1 h2 => exact h1.trans h2
def mv (X : List Int) (V : Nat) (xs : List ME) : Int := sumL (xs.map fun p => p.2.1 * prodE X (p.1.1.take V))
def uv (X : List Int) (us : List UT) : Int := sumL (us.map fun u => u.1 * prodE X u.2)
theorem uv_append (X : List Int) (a b : List UT) : uv X (a ++ b) = uv X a + uv X b := by simp [uv, sumL_append]
theorem mv_append (X : List Int) (V : Nat) (a b : List ME) : mv X V (a ++ b) = mv X V a + mv X V b := by simp [mv, sumL_append]
theorem mv_cons (X : List Int) (V : Nat) (p : ME) (b : List ME) : mv X V (p :: b) = p.2.1 * prodE X (p.1.1.take V) + mv X V b := rfl
theorem exK_take {e : List Int} {V : Nat} (h : e.length = V) (hV : V ≤ 32) : (exK e).1.take V = e := by
 rw [exK_eq (by omega)];show (e ++ List.replicate (32 - e.length) 0).take V = e;rw [← h]; simp
theorem mv_step (X : List Int) {V : Nat} (hV : V ≤ 32) (s : MS) (u : UT) (hl : u.2.length = V) : mv X V (stepM s u).1 = mv X V s.1 + u.1 * prodE X u.2 := by
 obtain ⟨xs, c⟩ := s;obtain ⟨a, e⟩ := u;show mv X V (setM (exK e) (getM (exK e) xs + a) c xs) = mv X V xs + a * prodE X e;simp only at hl;have hk : (exK e).1.take V = e := exK_take hl hV;rcases setM_cases (exK e) (getM (exK e) xs + a) c xs with ⟨h1, h2, h3⟩ | ⟨A, p, B, h1, h2, h3, h4, h5, h6⟩
 ·have hg : getM (exK e) xs = 0 := by unfold getM; rw [h1]
  rcases h3 with ⟨hy, h3⟩ | ⟨hy, h3⟩
  ·rw [h3]
   have : a = 0 := by omega
   subst this; simp
  ·rw [h3, mv_append, mv_cons, hg];show mv X V xs + ((0 + a) * prodE X ((exK e).1.take V) + 0) = _;rw [hk]; simp
 ·have hg : getM (exK e) xs = p.2.1 := by unfold getM; rw [h1]
  have hpk : p.1.1.take V = e := by rw [h3]; exact hk
  rcases h6 with ⟨hy, h6⟩ | ⟨hy, h6⟩
  ·rw [h6, h2, mv_append, mv_append, mv_cons, hpk]
   have : a = - p.2.1 := by omega
   show mv X V A + mv X V B = mv X V A + (p.2.1 * prodE X e + mv X V B) + a * prodE X e;rw [this, Int.neg_mul]; omega
  ·rw [h6, mv_append, mv_cons, hg]
   conv => rhs; rw [h2, mv_append, mv_cons, hpk]
   show mv X V A + ((p.2.1 + a) * prodE X ((exK e).1.take V) + mv X V B) = mv X V A + (p.2.1 * prodE X e + mv X V B) + a * prodE X e;rw [hk, Int.add_mul]; omega
theorem mv_run (X : List Int) {V : Nat} (hV : V ≤ 32) : ∀ {us : List UT} {s s' : MS}, UOk V us → runM us s = some s' → mv X V s'.1 = mv X V s.1 + uv X us
 | [], s, s', _, h => by
  simp only [runM] at h; injection h with h; subst h; simp [uv, sumL]
 | u :: us, s, s', hu, h => by
  unfold runM at h;split at h
  ·have := mv_run X hV (us := us) (fun v hv => hu v (by simp [hv])) h;rw [this, mv_step X hV s u (hu u (by simp)).1];show _ = mv X V s.1 + (u.1 * prodE X u.2 + uv X us);omega
  ·cases h
theorem tv_tmM (X : List Int) (V : Nat) (p : ME) : tv X (tmM V p) = p.2.1 * prodE X (p.1.1.take V) := by
 show zval (zOf p.2.1) * _ = _;rw [zval_zOf]; rfl
theorem SumOk.val {V : Nat} (hV : V ≤ 32) {us : List UT} {r : PZ} (h : SumOk V us r) (hu : UOk V us) (X : List Int) : pv X r = uv X us := by
 obtain ⟨s, h1, h2, h3⟩ := h;have := mv_run X hV hu h1;subst h2;rw [pv_sum];show sumL ((sortT (s.1.map (tmM V))).map (tv X)) = _;rw [sumL_perm ((sortT_perm _).map _), List.map_map];show sumL (s.1.map (fun p => tv X (tmM V p))) = _;rw [show (fun p => tv X (tmM V p)) = (fun (p : ME) => p.2.1 * prodE X (p.1.1.take V)) from funext (tv_tmM X V)];show mv X V s.1 = _;rw [this];simp [mv, sumL]
theorem uv_u1 (X : List Int) (l : List TZ) : uv X (l.map u1) = sumL (l.map (tv X)) := by simp only [uv, List.map_map]; rfl
theorem uv_u2 (X : List Int) (b : Int) (l : List TZ) : uv X (l.map (u2 b)) = sumL (l.map (tv X)) * b := by
 induction l with
 | nil => simp [uv, sumL]
 | cons t l ih =>
  simp only [uv, List.map_cons, sumL] at ih ⊢;rw [ih, Int.add_mul];congr 1;show zval t.c * b * prodE X t.e = zval t.c * prodE X t.e * b;rw [Int.mul_assoc, Int.mul_comm b, ← Int.mul_assoc]
theorem uv_plus (X : List Int) (b : Int) (p q : PZ) : uv X (plusU b p q) = pv X p + pv X q * b := by
 unfold plusU;rw [uv_append, uv_u1, uv_u2, pv_sum, pv_sum]
theorem prodE_add : ∀ {X a b : List Int}, EOk a → EOk b → a.length = b.length → prodE X (addE a b) = prodE X a * prodE X b
 | _, [], [], _, _, _ => by simp [addE, prodE]
 | _, [], _ :: _, _, _, h => by simp at h
 | _, _ :: _, [], _, _, h => by simp at h
 | [], x :: a, y :: b, _, _, _ => by simp [addE, prodE]
 | z :: X, x :: a, y :: b, ha, hb, h => by
  have hx := ha x (by simp);have hy := hb y (by simp);have := prodE_add (X := X) (a := a) (b := b) (fun e he => ha e (by simp [he])) (fun e he => hb e (by simp [he])) (by simpa using h);show z ^ (x + y).toNat * prodE X (addE a b) = z ^ x.toNat * prodE X a * (z ^ y.toNat * prodE X b);rw [this, show (x + y).toNat = x.toNat + y.toNat by omega, Int.pow_add];simp only [Int.mul_assoc, Int.mul_left_comm]
theorem uv_times (X : List Int) (p q : PZ) (h : ∀ t ∈ p.terms, ∀ u ∈ q.terms, EOk t.e ∧ EOk u.e ∧ t.e.length = u.e.length) : uv X (timesU p q) = pv X p * pv X q := by
 rw [pv_sum, pv_sum];unfold timesU
 have key : ∀ (l : List TZ), (∀ t ∈ l, t ∈ p.terms) → uv X (l.flatMap (rowU q.terms)) = sumL (l.map (tv X)) * sumL (q.terms.map (tv X)) := by
  intro l
  induction l with
  | nil => intro _; simp [uv, sumL]
  | cons t l ih =>
   intro hl;rw [List.flatMap_cons, uv_append, ih (fun u hu => hl u (by simp [hu])), List.map_cons];show _ = (tv X t + sumL (l.map (tv X))) * _;rw [Int.add_mul];congr 1
   have hrow : ∀ (m : List TZ), (∀ u ∈ m, u ∈ q.terms) → uv X (m.map (uM t)) = tv X t * sumL (m.map (tv X)) := by
    intro m
    induction m with
    | nil => intro _; simp [uv, sumL]
    | cons u m ih2 =>
     intro hm;have h2 := ih2 (fun v hv => hm v (by simp [hv]));obtain ⟨h3, h4, h5⟩ := h t (hl t (by simp)) u (hm u (by simp));show zval t.c * zval u.c * prodE X (addE t.e u.e) + uv X (m.map (uM t)) = tv X t * (tv X u + sumL (m.map (tv X)));rw [h2, Int.mul_add, prodE_add h3 h4 h5];unfold tv;simp only [Int.mul_assoc, Int.mul_left_comm]
   exact hrow q.terms fun u hu => hu
 exact key p.terms fun t ht => ht
theorem SumOk.okp {V : Nat} {us : List UT} {r : PZ} (h : SumOk V us r) : OkP r ∧ r.vars = V ∧ WP r := by
 obtain ⟨s, h1, h2, h3⟩ := h;refine ⟨h3, by rw [h2], fun t ht => ?_⟩;rw [h2] at ht;obtain ⟨p, _, rfl⟩ := List.mem_map.1 ((sortT_perm _).mem_iff.1 ht);exact toW_ok _
end Go.AL
/- system.spread. -/
namespace Go.AL
def spr : Nat → Int → List Int → List Int → List Int
  | 0, _, _, _ => []
  | n + 1, k, v :: vs, x :: e => if v = k then x :: spr n (k + 1) vs e else 0 :: spr n (k + 1) (v :: vs) (x :: e)
  | n + 1, k, _, _ => 0 :: spr n (k + 1) [] []
theorem spr_length : ∀ (n : Nat) (k : Int) (vs e : List Int), (spr n k vs e).length = n
 | 0, _, _, _ => rfl
 | n + 1, k, [], e => by simp [spr, spr_length n]
 | n + 1, k, v :: vs, [] => by simp [spr, spr_length n]
 | n + 1, k, v :: vs, x :: e => by
  simp only [spr];split <;> simp [spr_length n]
theorem spr_nil : ∀ (n : Nat) (k : Int), spr n k [] [] = List.replicate n 0
 | 0, _ => rfl
 | n + 1, k => by simp only [spr, spr_nil n, List.replicate_succ]
def incK : Int → Int → List Int → Prop
  | _, _, [] => True
  | lo, hi, v :: vs => lo ≤ v ∧ v < hi ∧ incK (v + 1) hi vs
theorem incK.mono {lo lo' hi : Int} (h : lo' ≤ lo) : ∀ {vs : List Int}, incK lo hi vs → incK lo' hi vs
 | [], _ => trivial
 | _ :: _, ⟨h1, h2, h3⟩ => ⟨by omega, h2, h3⟩
theorem incK.imp_hi {lo hi hi' : Int} {vs : List Int} (h : incK lo hi vs) (e : hi = hi') : incK lo hi' vs := e ▸ h
theorem incK_of : ∀ {vs : List Int} {lo hi : Int}, incB lo hi vs → incK (lo + 1) hi vs
 | [], _, _, _ => trivial
 | v :: vs, lo, hi, ⟨h1, h2, h3⟩ => ⟨by omega, h2, incK_of h3⟩
theorem incK_last : ∀ {lo hi v : Int} {vs : List Int}, incK lo hi (vs ++ [v]) → lo ≤ v
 | _, _, _, [], h => h.1
 | _, _, _, w :: vs, h => by have := incK_last (vs := vs) h.2.2; have := h.1; omega
theorem incK.up {k hi v : Int} {vs : List Int} (h : incK k hi (v :: vs)) (hv : ¬ v = k) : incK (k + 1) hi (v :: vs) := ⟨by have := h.1; omega, h.2.1, h.2.2⟩
theorem incK.tail {k hi v : Int} {vs : List Int} (h : incK k hi (v :: vs)) (hv : v = k) : incK (k + 1) hi vs := by have := h.2.2; rwa [hv] at this
theorem spr_snoc : ∀ (n : Nat) (k : Int) (vs e : List Int) (v x : Int), vs.length = e.length → incK k (k + n) (vs ++ [v]) → spr n k (vs ++ [v]) (e ++ [x]) = (spr n k vs e).set (v - k).toNat x
 | 0, k, vs, e, v, x, hl, h => by
  cases vs with
  | nil => have := h.1; have := h.2.1; omega
  | cons w vs => have := h.1; have := h.2.1; omega
 | n + 1, k, [], [], v, x, hl, h => by
  simp only [List.nil_append, spr];by_cases hv : v = k
  ·rw [if_pos hv];rw [show (v - k).toNat = 0 by omega];simp
  ·rw [if_neg hv];have h1 := h.1;have := spr_snoc n (k + 1) [] [] v x rfl ((h.up hv).imp_hi (by omega));simp only [List.nil_append] at this;rw [this, show (v - k).toNat = (v - (k + 1)).toNat + 1 by omega];simp
 | n + 1, k, w :: vs, y :: e, v, x, hl, h => by
  simp only [List.cons_append, spr];have h1 := h.1;by_cases hw : w = k
  ·rw [if_pos hw, if_pos hw];have h2 := h.tail hw;have h3 : k + 1 ≤ v := incK_last h2;have := spr_snoc n (k + 1) vs e v x (by simpa using hl) (h2.imp_hi (by omega));rw [this, show (v - k).toNat = (v - (k + 1)).toNat + 1 by omega];simp
  ·rw [if_neg hw, if_neg hw];have h2 := h.up hw;have h3 : k + 1 ≤ v := incK_last (vs := w :: vs) h2;have := spr_snoc n (k + 1) (w :: vs) (y :: e) v x hl (h2.imp_hi (by omega));rw [List.cons_append, List.cons_append] at this;rw [this, show (v - k).toNat = (v - (k + 1)).toNat + 1 by omega];simp
 | _ + 1, _, [], _ :: _, _, _, hl, _ => by simp at hl
 | _ + 1, _, _ :: _, [], _, _, hl, _ => by simp at hl
theorem spr_sum : ∀ (n : Nat) (k : Int) (vs e : List Int), vs.length = e.length → incK k (k + n) vs → sumL (spr n k vs e) = sumL e
 | 0, k, vs, e, hl, h => by
  cases vs with
  | nil => cases e with
   | nil => rfl
   | cons _ _ => simp at hl
  | cons w vs => have := h.1; have := h.2.1; omega
 | n + 1, k, [], [], hl, h => by
  simp only [spr, sumL];have := spr_sum n (k + 1) [] [] rfl trivial;simp only [sumL] at this; omega
 | n + 1, k, w :: vs, y :: e, hl, h => by
  simp only [spr];by_cases hw : w = k
  ·rw [if_pos hw];have := spr_sum n (k + 1) vs e (by simpa using hl) ((h.tail hw).imp_hi (by omega));simp only [sumL, this]
  ·rw [if_neg hw];have := spr_sum n (k + 1) (w :: vs) (y :: e) hl ((h.up hw).imp_hi (by omega));simp only [sumL] at this ⊢; omega
 | _ + 1, _, [], _ :: _, hl, _ => by simp at hl
 | _ + 1, _, _ :: _, [], hl, _ => by simp at hl
theorem spr_cmp : ∀ (n : Nat) (k : Int) (vs a b : List Int), vs.length = a.length → vs.length = b.length → incK k (k + n) vs → cmpL (spr n k vs a) (spr n k vs b) = cmpL a b
 | 0, k, vs, a, b, ha, hb, h => by
  cases vs with
  | nil =>
   have h1 : a = [] := List.eq_nil_of_length_eq_zero (by simpa using ha.symm);have h2 : b = [] := List.eq_nil_of_length_eq_zero (by simpa using hb.symm);subst h1 h2; rfl
  | cons w vs => have := h.1; have := h.2.1; omega
 | n + 1, k, [], [], [], _, _, _ => cmpL_refl _
 | n + 1, k, w :: vs, x :: a, y :: b, ha, hb, h => by
  simp only [spr];by_cases hw : w = k
  ·rw [if_pos hw, if_pos hw];have := spr_cmp n (k + 1) vs a b (by simpa using ha) (by simpa using hb) ((h.tail hw).imp_hi (by omega));simp only [cmpL, this]
  ·rw [if_neg hw, if_neg hw];have := spr_cmp n (k + 1) (w :: vs) (x :: a) (y :: b) ha hb ((h.up hw).imp_hi (by omega))
   rw [show cmpL (0 :: spr n (k + 1) (w :: vs) (x :: a)) (0 :: spr n (k + 1) (w :: vs) (y :: b)) = cmpL (spr n (k + 1) (w :: vs) (x :: a)) (spr n (k + 1) (w :: vs) (y :: b)) by
    conv => lhs; unfold cmpL
    rw [if_pos (cmpI_zero.2 rfl)]]
   exact this
 | _ + 1, _, [], _ :: _, _, ha, _, _ => by simp at ha
 | _ + 1, _, [], [], _ :: _, _, hb, _ => by simp at hb
 | _ + 1, _, _ :: _, [], _, ha, _, _ => by simp at ha
 | _ + 1, _, _ :: _, _ :: _, [], _, hb, _ => by simp at hb
theorem spr_ord {n : Nat} {vs a b : List Int} (ha : vs.length = a.length) (hb : vs.length = b.length) (h : incK 0 n vs) : ordI (spr n 0 vs a) (spr n 0 vs b) = ordI a b := by
 have h' : incK 0 (0 + (n : Int)) vs := h.imp_hi (by omega);unfold ordI;rw [spr_sum n 0 vs a ha h', spr_sum n 0 vs b hb h', spr_cmp n 0 vs b a hb ha h']
theorem spr_eok : ∀ (n : Nat) (k : Int) (vs e : List Int), EOk e → EOk (spr n k vs e)
 | 0, _, _, _, _ => fun e he => by cases he
 | n + 1, k, [], e, h => by
  intro x hx;simp only [spr, List.mem_cons] at hx;rcases hx with rfl | hx
  ·omega
  ·exact spr_eok n (k + 1) [] [] (fun e he => by cases he) x hx
 | n + 1, k, v :: vs, [], h => by
  intro x hx;simp only [spr, List.mem_cons] at hx;rcases hx with rfl | hx
  ·omega
  ·exact spr_eok n (k + 1) [] [] (fun e he => by cases he) x hx
 | n + 1, k, v :: vs, y :: e, h => by
  intro x hx;simp only [spr] at hx;split at hx
  ·rcases List.mem_cons.1 hx with rfl | hx
   ·exact h _ (by simp)
   ·exact spr_eok n (k + 1) vs e (fun z hz => h z (by simp [hz])) x hx
  ·rcases List.mem_cons.1 hx with rfl | hx
   ·omega
   ·exact spr_eok n (k + 1) (v :: vs) (y :: e) h x hx
theorem spr_prod : ∀ (n : Nat) (k : Int) (vs e X : List Int), 0 ≤ k → vs.length = e.length → incK k (k + n) vs → X.length = n → ∀ (Y : List Int), (∀ (i : Nat), Y[k.toNat + i]? = X[i]?) → prodE X (spr n k vs e) = prodE (vs.map fun v => Y[v.toNat]?.getD 0) e
 | 0, k, vs, e, X, hk, hl, h, hX, Y, hY => by
  cases vs with
  | nil => cases e with
   | nil => simp [spr, prodE]
   | cons _ _ => simp at hl
  | cons w vs => have := h.1; have := h.2.1; omega
 | n + 1, k, vs, e, [], hk, hl, h, hX, Y, hY => by simp at hX
 | n + 1, k, [], [], x :: X, hk, hl, h, hX, Y, hY => by
  have := spr_prod n (k + 1) [] [] X (by omega) rfl trivial (by simpa using hX) Y (fun i => by have := hY (i + 1); rw [show (k + 1).toNat + i = k.toNat + (i + 1) by omega, this]; simp);simp only [spr, prodE, this, List.map_nil];simp
 | n + 1, k, w :: vs, y :: e, x :: X, hk, hl, h, hX, Y, hY => by
  have hY' : ∀ (i : Nat), Y[(k + 1).toNat + i]? = X[i]? := fun i => by have := hY (i + 1); rw [show (k + 1).toNat + i = k.toNat + (i + 1) by omega, this]; simp
  simp only [spr];by_cases hw : w = k
  ·rw [if_pos hw];have := spr_prod n (k + 1) vs e X (by omega) (by simpa using hl) ((h.tail hw).imp_hi (by omega)) (by simpa using hX) Y hY';have h0 := hY 0;simp only [Nat.add_zero, List.getElem?_cons_zero] at h0;simp only [prodE, List.map_cons, this, hw, h0, Option.getD_some]
  ·rw [if_neg hw];have := spr_prod n (k + 1) (w :: vs) (y :: e) X (by omega) hl ((h.up hw).imp_hi (by omega)) (by simpa using hX) Y hY';rw [← this];simp [prodE]
 | _ + 1, _, [], _ :: _, _ :: _, _, hl, _, _, _, _ => by simp at hl
 | _ + 1, _, _ :: _, [], _ :: _, _, hl, _, _, _, _ => by simp at hl
def sprP (n : Nat) (l : LZ) (p : PZ) : PZ := ⟨n, p.terms.map fun t => ⟨t.c, spr n 0 l.vars t.e⟩⟩
end Go.AL
/- system.spread: the walk; what it returns is valid. -/
namespace Go.AL
abbrev spT (n : Nat) (vs : List Int) (t : TZ) : TZ := ⟨t.c, spr n 0 vs t.e⟩
theorem sprP_ok {n : Nat} {l : LZ} {p : PZ} (hn : n ≤ 32) (hL : OkL n l) (hp : p ∈ l.polys) : OkP (sprP n l p) := by
 obtain ⟨hv, hP⟩ := hL.polys p hp;have hinc : incK 0 n l.vars := incK_of hL.inc;have hinc' : incK 0 (0 + (n : Int)) l.vars := hinc.imp_hi (by omega)
 have hlen : ∀ t ∈ p.terms, l.vars.length = t.e.length := fun t ht => by
  have := (hP.terms t ht).len; omega
 refine ⟨by simp [sprP], by simp [sprP]; omega, by simpa [sprP] using hP.len, fun t ht => ?_, fun i a b ha hb => ?_⟩
 ·obtain ⟨u, hu, rfl⟩ := List.mem_map.1 ht;have h := hP.terms u hu
  exact ⟨h.coef, h.nz, by simp [sprP, spr_length], spr_eok n 0 _ _ h.exps, by
   show sumL (spr n 0 l.vars u.e) ≤ 120
   rw [spr_sum n 0 _ _ (hlen u hu) hinc']; exact h.deg⟩
 ·simp only [sprP, List.getElem?_map, Option.map_eq_some_iff] at ha hb;obtain ⟨u, hu, rfl⟩ := ha;obtain ⟨v, hv', rfl⟩ := hb;show ordI (spr n 0 l.vars u.e) (spr n 0 l.vars v.e) < 0;rw [spr_ord (hlen u (List.mem_of_getElem? hu)) (hlen v (List.mem_of_getElem? hv')) hinc];exact hP.ord i u v hu hv'
theorem sprP_val {n : Nat} {l : LZ} {p : PZ} (hL : OkL n l) (hp : p ∈ l.polys) {X : List Int} (hX : X.length = n) : pv X (sprP n l p) = pv (atOf X l.vars) p := by
 obtain ⟨hv, hP⟩ := hL.polys p hp;have hinc' : incK 0 (0 + (n : Int)) l.vars := (incK_of hL.inc).imp_hi (by omega);rw [pv_sum, pv_sum];show sumL ((p.terms.map (spT n l.vars)).map (tv X)) = _;rw [List.map_map];congr 1;refine List.map_congr_left fun t ht => ?_;have hl := (hP.terms t ht).len;show zval t.c * prodE X (spr n 0 l.vars t.e) = zval t.c * prodE (atOf X l.vars) t.e;rw [spr_prod n 0 l.vars t.e X (by omega) (by omega) hinc' hX X (fun i => by simp)];rfl
theorem sprP_wp {n : Nat} {l : LZ} {p : PZ} (h : WP p) : WP (sprP n l p) := fun t ht => by
 obtain ⟨u, hu, rfl⟩ := List.mem_map.1 ht; exact h u hu
theorem incK_get : ∀ {vs : List Int} {lo hi : Int}, incK lo hi vs → ∀ (j : Nat), incK lo hi (vs.take j)
 | [], _, _, _, j => by simp [incK]
 | v :: vs, lo, hi, h, 0 => trivial
 | v :: vs, lo, hi, ⟨h1, h2, h3⟩, j + 1 => ⟨h1, h2, incK_get h3 j⟩
end Go.AL
namespace Go.Proofs.YtcaecieigoplbaaGreat
open Go.AL
set_option maxHeartbeats 1000000 in
theorem spread_ok (n : Nat) (hn : n ≤ 32) (l : LZ) (p : PZ) (hL : OkL n l) (hp0 : l.polys[0]? = some p) : PureFn Tryz.prog 171 [aL l, aN n] (aP (sprP n l p)) := by
 obtain ⟨hv, hP⟩ := hL.polys p (List.mem_of_getElem? hp0);have hinc : incK 0 (0 + (n : Int)) l.vars := (incK_of hL.inc).imp_hi (by omega);have htl := hP.len;have hvl := hL.vlen;refine PureFn.of_body Tryz.func171 rfl Tryz.ntmps171 rfl rfl ?_;refine AWP.seqS ?_;(repeat' (first |apply qn |apply qr |refine qe ?_|fail));refine ⟨?_⟩;refine AWP.seqS ?_;(repeat' (first |refine qv ?_ |apply qn |apply qr |refine qe ?_|fail));refine ⟨?_⟩;refine AWP.ent (Ent.nilcell 5 1 705 rfl rfl rfl 3 eT 124) ?_;have hp0' : l.polys[(0 : Int).toNat]? = some p := hp0;(repeat' (first |refine qv ?_ |apply qn |apply qs |apply qr |apply qb |refine qK ?_|fail));refine AWP.loop (G := Nat) (fun i => i ≤ p.terms.length) (fun i => St.of [] [(1, aN n), (2, .ptr 2 0), (4, .ptr 4 0), (5, .ptr 5 0), (17, .sl 3 eT p.terms), (18, aN p.terms.length), (19, aN i)] [(2, .cells (eL l) 82), (4, .cells [aN 0, .v (.slice none 0 0)] 70), (5, .cells [aN n, .row 700] 70), (700, .row 3 eT ((p.terms.take i).map (spT n l.vars)) 124)]) (fun i => p.terms.length - i) 0 (by omega) ?_ ?_
 ·refine Ent.of [(700, 705)] ?_ ?_ rfl rfl;(repeat' (first |exact True.intro |refine ⟨⟨AV.Le.refl _, rfl⟩, ?_⟩ |refine ⟨⟨⟨_, rfl, BLe.cells (LeL.refl _)⟩, rfl⟩, ?_⟩ |refine ⟨⟨⟨_, rfl, BLe.row rfl⟩, rfl⟩, ?_⟩|fail))
 ·intro i k0;by_cases hi : i < p.terms.length
  ·obtain ⟨t, ht⟩ : ∃ t, p.terms[i]? = some t := ⟨_, List.getElem?_eq_getElem hi⟩;have hT := hP.terms t (List.mem_of_getElem? ht);have hel := hT.len
   have hli : ((p.terms.take i).map (spT n l.vars)).length = i := by simp; omega
   (repeat' (first |refine qv ?_ |apply qn |apply qs |apply qr |refine qe ?_ |(refine AWP.condD rfl ?_ ?_ <;> intro _ <;> try (exfalso; omega)) |apply qb |apply qk |refine qK ?_ |refine Fl.make rfl rfl rfl rfl rfl rfl rfl rfl rfl rfl eI 0 (by exact LeL.refl _) (by rfl) (by first | omega | (dsimp only; omega)) (by first | omega | (dsimp only; omega)) (by first | omega | (dsimp only; omega)) ?_|fail));refine AWP.loop (G := Nat) (fun j => j ≤ t.e.length) (fun j => St.of [] [(1, aN n), (2, .ptr 2 0), (4, .ptr 4 0), (5, .ptr 5 0), (17, .sl 3 eT p.terms), (18, aN p.terms.length), (19, aN i), (7, .ptr 7 0), (8, .row 708), (26, aI t.e), (27, aN t.e.length), (28, aN j)] [(2, .cells (eL l) 82), (4, .cells [aN 0, .v (.slice none 0 0)] 70), (5, .cells [aN n, .row 700] 70), (700, .row 3 eT ((p.terms.take i).map (spT n l.vars)) 124), (7, .cells (eT t) 124), (708, .row 1 eI (spr n 0 (l.vars.take j) (t.e.take j)) 3)]) (fun j => t.e.length - j) 0 (by omega) ?_ ?_
   ·refine Ent.of [(708, 24)] ?_ ?_ rfl rfl;(repeat' (first |exact True.intro |refine ⟨⟨AV.Le.refl _, rfl⟩, ?_⟩ |refine ⟨⟨⟨_, rfl, BLe.cells (LeL.refl _)⟩, rfl⟩, ?_⟩ |refine ⟨⟨⟨_, rfl, BLe.row rfl⟩, rfl⟩, ?_⟩ |refine ⟨⟨⟨_, rfl, BLe.row ?_⟩, rfl⟩, ?_⟩|fail));simp only [List.take_zero, spr_nil];congr 1
   ·intro j k1;have hrl : (spr n 0 (l.vars.take j) (t.e.take j)).length = n := spr_length _ _ _ _;by_cases hj : j < t.e.length
    ·obtain ⟨x, hx⟩ : ∃ x, t.e[j]? = some x := ⟨_, List.getElem?_eq_getElem hj⟩;obtain ⟨v, hv1⟩ : ∃ v, l.vars[j]? = some v := ⟨_, List.getElem?_eq_getElem (by omega)⟩;have hvb := incB_mem hL.inc (List.mem_of_getElem? hv1);(repeat' (first |refine qv ?_ |apply qn |apply qs |apply qr |refine qw ?_ |(refine AWP.condD rfl ?_ ?_ <;> intro _ <;> try (exfalso; omega)) |apply qb |apply qk |refine qK ?_ |refine Fl.rel rfl rfl rfl rfl rfl rfl rfl rfl (by omega) (by first | omega | (simp; omega)) ?_ |refine Fl.rst rfl rfl rfl rfl rfl rfl rfl rfl rfl rfl rfl (LeL.refl _) rfl (by first | omega | (simp; omega)) ?_|fail));refine LoopEnd.of (j + 1) (by omega) (by omega) ?_;refine Ent.of [] ?_ ?_ rfl rfl;(repeat' (first |exact True.intro |refine ⟨⟨AV.Le.refl _, rfl⟩, ?_⟩ |refine ⟨⟨⟨_, rfl, BLe.cells (LeL.refl _)⟩, rfl⟩, ?_⟩ |refine ⟨⟨⟨_, rfl, BLe.row rfl⟩, rfl⟩, ?_⟩ |refine ⟨⟨⟨_, rfl, BLe.row ?_⟩, rfl⟩, ?_⟩|fail));rw [take_snoc hx, take_snoc hv1, spr_snoc n 0 (l.vars.take j) (t.e.take j) v x (by simp; omega) (by rw [← take_snoc hv1]; exact incK_get hinc (j + 1))];congr 1;omega
    ·have h1 : l.vars.take j = l.vars := List.take_of_length_le (by omega);have h2 : t.e.take j = t.e := List.take_of_length_le (by omega);rw [h1, h2];refine AWP.ent (Ent.freeze 708 rfl) ?_;(repeat' (first |refine qv ?_ |apply qn |apply qs |apply qr |refine qe ?_ |(refine AWP.condD rfl ?_ ?_ <;> intro _ <;> try (exfalso; omega)) |apply qx));refine ql eT [spT n l.vars t] ?_;skip;refine qa (hby := (by dsimp only [List.length_nil, List.length_cons]; omega)) (hm := (by simp; omega)) (r := ?_);(repeat' (first |refine qv ?_ |apply qn |apply qr |refine qw ?_ |refine qe ?_|fail));refine LoopEnd.of (i + 1) (by omega) (by omega) ?_;refine Ent.of [(700, 49)] ?_ ?_ rfl rfl;(repeat' (first |exact True.intro |refine ⟨⟨AV.Le.refl _, rfl⟩, ?_⟩ |refine ⟨⟨⟨_, rfl, BLe.cells (LeL.refl _)⟩, rfl⟩, ?_⟩ |refine ⟨⟨⟨_, rfl, BLe.row ?_⟩, rfl⟩, ?_⟩|fail));rw [take_snoc ht, List.map_append]; rfl
  ·have hti : p.terms.take i = p.terms := List.take_of_length_le (by omega);rw [hti];refine AWP.ent (Ent.freeze 700 rfl) ?_;(repeat' (first |refine qv ?_ |apply qn |apply qs |apply qr |refine qe ?_ |(refine AWP.condD rfl ?_ ?_ <;> intro _ <;> try (exfalso; omega)) |apply qx |apply qt));exact RetOk.of rfl (AV.Le.refl _)
end Go.Proofs.YtcaecieigoplbaaGreat
/- system.One. -/
namespace Go.AL
theorem SumOk.uniq {V : Nat} {us : List UT} {x y : PZ} (h1 : SumOk V us x) (h2 : SumOk V us y) : x = y := by
 obtain ⟨s, a1, a2, _⟩ := h1;obtain ⟨t, b1, b2, _⟩ := h2;rw [a1] at b1; injection b1 with b1; subst b1;rw [a2, b2]
noncomputable def mulV (V : Nat) (p q : PZ) : Option PZ := @dite _ (∃ x, ProdOk V p q x) (Classical.propDecidable _) (fun h => some (Classical.choose h)) fun _ => none
noncomputable def addV (V : Nat) (p q : PZ) : Option PZ := @dite _ (∃ x, SumOk V (plusU 1 p q) x) (Classical.propDecidable _) (fun h => some (Classical.choose h)) fun _ => none
theorem mulV_none {V : Nat} {p q : PZ} (h : mulV V p q = none) : ¬ ∃ x, ProdOk V p q x := fun k => by
 unfold mulV at h; rw [dif_pos k] at h; cases h
theorem mulV_some {V : Nat} {p q x : PZ} (h : mulV V p q = some x) : ProdOk V p q x := by
 unfold mulV at h;split at h
 ·rename_i k; injection h with h; subst h; exact Classical.choose_spec k
 ·cases h
theorem addV_none {V : Nat} {p q : PZ} (h : addV V p q = none) : ¬ ∃ x, SumOk V (plusU 1 p q) x := fun k => by
 unfold addV at h; rw [dif_pos k] at h; cases h
theorem addV_some {V : Nat} {p q x : PZ} (h : addV V p q = some x) : SumOk V (plusU 1 p q) x := by
 unfold addV at h;split at h
 ·rename_i k; injection h with h; subst h; exact Classical.choose_spec k
 ·cases h
def eqP (n : Nat) (l : LZ) : PZ := sprP n l (l.polys.getD 0 ⟨0, []⟩)
noncomputable def oneV (V : Nat) : PZ → List LZ → Option PZ
  | s, [] => some s
  | s, l :: ls => match mulV V (eqP V l) (eqP V l) with
    | none => none
    | some q => match addV V s q with
      | none => none
      | some x => oneV V x ls
theorem oneV_drop {V : Nat} {s : PZ} {ls : List LZ} {i : Nat} {l : LZ} (h : ls[i]? = some l) : oneV V s (ls.drop i) = match mulV V (eqP V l) (eqP V l) with
  | none => none
  | some q => match addV V s q with
   | none => none
   | some x => oneV V x (ls.drop (i + 1)) := by
 have hi := (List.getElem?_eq_some_iff.1 h).1;rw [List.drop_eq_getElem_cons hi, (List.getElem?_eq_some_iff.1 h).2];rfl
theorem wp_nil {n : Int} : WP ⟨n, []⟩ := fun t ht => by simp at ht
theorem okP_nil {V : Nat} (hV : V ≤ 32) : OkP ⟨V, []⟩ := ⟨by simp, by simp; omega, by simp, by simp, by simp⟩
theorem oneV_ok {V : Nat} (hV : V ≤ 32) (X : List Int) (hX : X.length = V) : ∀ {ls : List LZ} {s x : PZ}, (∀ l ∈ ls, OkL V l ∧ WL l ∧ l.kind = 0) → OkP s → WP s → s.vars = V → oneV V s ls = some x → OkP x ∧ WP x ∧ x.vars = V ∧ pv X x = pv X s + sqS X ls
 | [], s, x, _, h1, h2, h3, h => by
  simp only [oneV] at h; injection h with h; subst h;exact ⟨h1, h2, h3, by simp [sqS, sumL]⟩
 | l :: ls, s, x, hl, h1, h2, h3, h => by
  obtain ⟨hL, hWL, hk⟩ := hl l (by simp);have hpl := hL.len;rw [hk] at hpl;have hpl : (l.polys.length : Int) = 1 := hpl
  obtain ⟨p, hp⟩ : ∃ p, l.polys = [p] := by
   cases hq : l.polys with
   | nil => rw [hq] at hpl; simp at hpl
   | cons a b => cases b with
    | nil => exact ⟨a, rfl⟩
    | cons c d => rw [hq] at hpl; simp at hpl; omega
  have hpm : p ∈ l.polys := by rw [hp]; simp
  have he : eqP V l = sprP V l p := by unfold eqP; rw [hp]; rfl
  have o1 := sprP_ok hV hL hpm;have o2 : WP (sprP V l p) := sprP_wp (hWL p hpm);have o3 := sprP_val hL hpm hX
  have hfv : fv X l = pv X (sprP V l p) := by
   rw [o3]; unfold fv lvals; rw [hp]; rfl
  simp only [oneV, he] at h
  cases hm : mulV V (sprP V l p) (sprP V l p) with
  | none => rw [hm] at h; cases h
  | some q =>
   rw [hm] at h;simp only at h;obtain ⟨d1, d2, d3⟩ := mulV_some hm;obtain ⟨q1, q2, q3⟩ := d3.okp
   have hus : UOk V (timesU (sprP V l p) (sprP V l p)) := fun u hu => by
    obtain ⟨t, ht, hu⟩ := List.mem_flatMap.1 hu;obtain ⟨v, hv, rfl⟩ := List.mem_map.1 hu;exact timesU_ok o1 o1 rfl rfl d1 ht hv
   have hval := d3.val hV hus X;rw [uv_times X _ _ (fun t ht u hu => ⟨(o1.terms t ht).exps, (o1.terms u hu).exps, by have := (o1.terms t ht).len; have := (o1.terms u hu).len; omega⟩)] at hval
   cases ha : addV V s q with
   | none => rw [ha] at h; cases h
   | some y =>
    rw [ha] at h;simp only at h;have a1 := addV_some ha;obtain ⟨y1, y2, y3⟩ := a1.okp
    have hus2 : UOk V (plusU 1 s q) := fun u hu => by
     rcases List.mem_append.1 hu with hu | hu
     ·obtain ⟨t, ht, rfl⟩ := List.mem_map.1 hu; exact h1.uok h3 ht
     ·obtain ⟨t, ht, rfl⟩ := List.mem_map.1 hu; exact q1.uok q2 ht
    have hval2 := a1.val hV hus2 X;rw [uv_plus] at hval2;obtain ⟨z1, z2, z3, z4⟩ := oneV_ok hV X hX (fun m hm => hl m (by simp [hm])) y1 y3 y2 h;refine ⟨z1, z2, z3, ?_⟩;rw [z4, hval2, hval];show _ = pv X s + (fv X l * fv X l + sqS X ls);rw [hfv]; omega
end Go.AL
namespace Go.Proofs.YtcaecieigoplbaaGreat
open Go.AL
theorem pMulV (V : Nat) (hV : V ≤ 32) (p q : PZ) (hwp : WP p) (hwq : WP q) (hp : OkP p) (hq : OkP q) (hpv : p.vars = V) (hqv : q.vars = V) :
  (∀ x, mulV V p q = some x → PureFn Tryz.prog 138 [aP p, aP q] (.tup [aP x, aN 0])) ∧ (mulV V p q = none → PureFn Tryz.prog 138 [aP p, aP q] (.tup [aP ⟨0, []⟩, aN 4])) := by
 refine ⟨fun x hx => ?_, fun hx => ?_⟩
 ·have h := mulV_some hx;exact pMul_ok V hV p q hwp hwq hp hq hpv hqv _ (fun y hy => by rw [h.2.2.uniq hy.2.2]) (fun k => absurd ⟨x, h⟩ k)
 ·have h := mulV_none hx;exact pMul_ok V hV p q hwp hwq hp hq hpv hqv _ (fun y hy => absurd ⟨y, hy⟩ h) (fun _ => rfl)
theorem pAddV (V : Nat) (hV : V ≤ 32) (p q : PZ) (hwp : WP p) (hwq : WP q) (hp : OkP p) (hq : OkP q) (hpv : p.vars = V) (hqv : q.vars = V) :
  (∀ x, addV V p q = some x → PureFn Tryz.prog 137 [aP p, aP q] (.tup [aP x, aN 0])) ∧ (addV V p q = none → PureFn Tryz.prog 137 [aP p, aP q] (.tup [aP ⟨0, []⟩, aN 4])) := by
 refine ⟨fun x hx => ?_, fun hx => ?_⟩
 ·have h := addV_some hx;exact pAdd_ok V hV p q hwp hwq hp hq hpv hqv _ (fun y hy => by rw [h.uniq hy]) (fun k => absurd ⟨x, h⟩ k)
 ·have h := addV_none hx;exact pAdd_ok V hV p q hwp hwq hp hq hpv hqv _ (fun y hy => absurd ⟨y, hy⟩ h) (fun _ => rfl)
set_option maxHeartbeats 1000000 in
theorem One_ok (s : SZ) (hw : WS s) (hs : OkS s) (hk : ∀ l ∈ s.links, l.kind = 0) (r : AV) (V : Nat) (hVs : s.vars = V) (hr0 : 32 < V → r = .tup [aP ⟨0, []⟩, aN 4]) (hr1 : V ≤ 32 → ∀ x, oneV V ⟨V, []⟩ s.links = some x → r = .tup [aP x, aN 0]) (hr2 : V ≤ 32 → oneV V ⟨V, []⟩ s.links = none → r = .tup [aP ⟨0, []⟩, aN 4]) :
  PureFn Tryz.prog 120 [aS s] r := by
 refine PureFn.of_body Tryz.func120 rfl Tryz.ntmps120 rfl rfl ?_;have hsl := hs.len;have hv0 := hs.v0;(repeat' (first |refine qv ?_ |apply qn |apply qs |apply qr |refine qe ?_ |apply qb));refine qc (sValid_ok s hw true ⟨fun _ => hs, fun _ => rfl⟩) ?_;(repeat' (first |refine qv ?_ |apply qn |apply qs |apply qr |refine AWP.condF rfl ?_));refine Fl.call rfl (equations_ok s (by omega) true ⟨fun _ => hk, fun _ => rfl⟩) rfl rfl rfl (LeL.refl _) ?_;(repeat' (first |refine qv ?_ |apply qn |apply qs |apply qr |refine qe ?_ |refine AWP.condF rfl ?_ |(refine AWP.condD rfl ?_ ?_ <;> intro _ <;> try (exfalso; omega)) |apply qb |apply qk |apply qt))
 ·rename_i h;rw [hr0 (by omega)];exact RetOk.of rfl (AV.Le.tup (LeL.cons aP_zero (LeL.refl _)))
 rename_i h
 have hV : V ≤ 32 := by omega
 have hr1 := hr1 hV;have hr2 := hr2 hV;refine AWP.loop (G := Nat × PZ) (fun (i, m) => i ≤ s.links.length ∧ OkP m ∧ WP m ∧ m.vars = V ∧ oneV V m (s.links.drop i) = oneV V ⟨V, []⟩ s.links) (fun (i, m) => St.of [] [(1, .ptr 1 0), (2, .ptr 2 0), (4, .ptr 4 0), (29, .sl 3 eL s.links), (30, aN s.links.length), (31, aN i)] [(1, .cells [aN s.vars, .sl 3 eL s.links] 25), (2, .cells [aN 0, .v (.slice none 0 0)] 70), (4, .cells (eP m) 70)]) (fun (i, m) => s.links.length - i) (0, ⟨V, []⟩) ⟨by omega, okP_nil hV, wp_nil, rfl, rfl⟩ ?_ ?_
 ·refine Ent.of [] ?_ ?_ rfl rfl;(repeat' (first |exact True.intro |refine ⟨⟨AV.Le.refl _, rfl⟩, ?_⟩ |refine ⟨⟨⟨_, rfl, BLe.cells (LeL.refl _)⟩, rfl⟩, ?_⟩ |refine ⟨⟨⟨_, rfl, BLe.cells ?_⟩, rfl⟩, ?_⟩|fail));exact LeL.cons (AV.Le.int hVs) (LeL.cons (AV.Le.nil 3 eT) LeL.nil)
 ·intro ⟨i, m⟩ ⟨k0, k1, k2, k3, k4⟩;by_cases hi : i < s.links.length
  ·obtain ⟨l, hl⟩ : ∃ l, s.links[i]? = some l := ⟨_, List.getElem?_eq_getElem hi⟩;have hlm := List.mem_of_getElem? hl;have hL := hs.links l hlm;rw [hVs] at hL;have hpl := hL.len;rw [hk l hlm] at hpl;have hpl : (l.polys.length : Int) = 1 := hpl
   obtain ⟨p, hp⟩ : ∃ p, l.polys = [p] := by
    cases hq : l.polys with
    | nil => rw [hq] at hpl; simp at hpl
    | cons a b => cases b with
     | nil => exact ⟨a, rfl⟩
     | cons c d => rw [hq] at hpl; simp at hpl; omega
   have hpm : p ∈ l.polys := by rw [hp]; simp
   have he : eqP V l = sprP V l p := by unfold eqP; rw [hp]; rfl
   have o1 := sprP_ok hV hL hpm;have o2 : WP (sprP V l p) := sprP_wp (hw l hlm p hpm);have hm := pMulV V hV _ _ o2 o2 o1 o1 rfl rfl;have hsp := spread_ok V hV l p hL (by rw [hp]; rfl);rw [oneV_drop hl, he] at k4
   cases hmv : mulV V (sprP V l p) (sprP V l p) with
   | none =>
    rw [hmv] at k4;rw [hr2 k4.symm];(repeat' (first |refine qv ?_ |apply qn |apply qs |apply qr |refine qe ?_ |(refine AWP.condD rfl ?_ ?_ <;> intro _ <;> try (exfalso; omega)) |apply qb |apply qk |refine qK ?_|fail));refine Fl.call rfl hsp rfl rfl rfl (LeL.cons (AV.Le.refl _) (LeL.cons (AV.Le.int hVs) LeL.nil)) ?_;(repeat' (first |refine qv ?_ |apply qn |apply qs |apply qr |refine qe ?_|fail));refine qc (hm.2 hmv) ?_;(repeat' (first |refine qv ?_ |apply qn |apply qs |apply qr |refine qe ?_ |refine AWP.condT rfl ?_ |refine AWP.condF rfl ?_ |apply qk |apply qt));exact RetOk.of rfl (AV.Le.tup (LeL.cons aP_zero (LeL.refl _)))
   | some q =>
    rw [hmv] at k4;simp only at k4;obtain ⟨q1, q2, q3⟩ := (mulV_some hmv).2.2.okp;have ha := pAddV V hV m q k2 q3 k1 q1 k3 q2
    cases hav : addV V m q with
    | none =>
     rw [hav] at k4;rw [hr2 k4.symm];(repeat' (first |refine qv ?_ |apply qn |apply qs |apply qr |refine qe ?_ |(refine AWP.condD rfl ?_ ?_ <;> intro _ <;> try (exfalso; omega)) |apply qb |apply qk |refine qK ?_|fail));refine Fl.call rfl hsp rfl rfl rfl (LeL.cons (AV.Le.refl _) (LeL.cons (AV.Le.int hVs) LeL.nil)) ?_;(repeat' (first |refine qv ?_ |apply qn |apply qs |apply qr |refine qe ?_|fail));refine qc (hm.1 q hmv) ?_;(repeat' (first |refine qv ?_ |apply qn |apply qs |apply qr |refine qe ?_ |refine AWP.condT rfl ?_));refine qc (ha.2 hav) ?_;(repeat' (first |refine qv ?_ |apply qn |apply qs |apply qr |refine qe ?_ |refine AWP.condT rfl ?_ |apply qt));exact RetOk.of rfl (AV.Le.tup (LeL.cons aP_zero (LeL.refl _)))
    | some x =>
     rw [hav] at k4;simp only at k4;obtain ⟨x1, x2, x3⟩ := (addV_some hav).okp;(repeat' (first |refine qv ?_ |apply qn |apply qs |apply qr |refine qe ?_ |(refine AWP.condD rfl ?_ ?_ <;> intro _ <;> try (exfalso; omega)) |apply qb |apply qk |refine qK ?_|fail));refine Fl.call rfl hsp rfl rfl rfl (LeL.cons (AV.Le.refl _) (LeL.cons (AV.Le.int hVs) LeL.nil)) ?_;(repeat' (first |refine qv ?_ |apply qn |apply qs |apply qr |refine qe ?_|fail));refine qc (hm.1 q hmv) ?_;(repeat' (first |refine qv ?_ |apply qn |apply qs |apply qr |refine qe ?_ |refine AWP.condT rfl ?_));refine qc (ha.1 x hav) ?_;(repeat' (first |refine qv ?_ |apply qn |apply qs |apply qr |refine qw ?_ |refine qe ?_ |refine AWP.condF rfl ?_ |apply qk));refine LoopEnd.of (i + 1, x) ⟨by omega, x1, x3, x2, k4⟩ (by simp only; omega) ?_;refine Ent.of [] ?_ ?_ rfl rfl;(repeat' (first |exact True.intro |refine ⟨⟨AV.Le.refl _, rfl⟩, ?_⟩ |refine ⟨⟨⟨_, rfl, BLe.cells (LeL.refl _)⟩, rfl⟩, ?_⟩|fail))
  ·have hd : s.links.drop i = [] := List.drop_of_length_le (by omega);rw [hd] at k4;rw [hr1 m k4.symm];(repeat' (first |refine qv ?_ |apply qn |apply qs |apply qr |refine qe ?_ |(refine AWP.condD rfl ?_ ?_ <;> intro _ <;> try (exfalso; omega)) |apply qx |apply qt));exact RetOk.of rfl (AV.Le.refl _)
end Go.Proofs.YtcaecieigoplbaaGreat
/- Division by words: plain. -/
namespace Go.AL
theorem kn_step {q r v1 v2 top u2 un V U Q Bn : Int} (hqr : q * v1 + r = top) (hr : 0 ≤ r) (hBn : 0 < Bn) (hV : (v1 * 4294967296 + v2) * Bn ≤ V) (hU : U < (top * 4294967296 + u2 + 1) * Bn) (hQ : Q * V ≤ U) (hQB : Q < 4294967296) (hV0 : 0 < V) (hv1 : 0 < v1) (hv2 : 0 ≤ v2) (hq0 : 0 ≤ q)
  (h : 4294967296 ≤ q ∨ r * 4294967296 + u2 < q * v2) : Q ≤ q - 1 := by
 rcases h with h | h
 ·omega
 ·have h1 : (q * v1 * 4294967296 + q * v2) * Bn ≤ q * V := by
   have e : (q * v1 * 4294967296 + q * v2) * Bn = q * ((v1 * 4294967296 + v2) * Bn) := by grind
   rw [e];exact Int.mul_le_mul_of_nonneg_left hV hq0
  have h2 : (top * 4294967296 + u2 + 1) * Bn ≤ (q * v1 * 4294967296 + q * v2) * Bn := by
   refine Int.mul_le_mul_of_nonneg_right ?_ (by omega)
   have : top * 4294967296 = q * v1 * 4294967296 + r * 4294967296 := by rw [← hqr]; grind
   omega
  have h3 : Q * V < q * V := by omega
  have h4 : Q < q := Int.lt_of_mul_lt_mul_right h3 (by omega);omega
theorem kn_stop {q r v1 v2 top u2 V U Q Bn : Int} (hqr : q * v1 + r = top) (hBn : 0 < Bn) (hV : V < (v1 * 4294967296 + v2 + 1) * Bn) (hVB : 4294967296 * Bn ≤ V) (hU : (top * 4294967296 + u2) * Bn ≤ U) (hQ : U < (Q + 1) * V) (hV0 : 0 < V) (hq0 : 0 ≤ q) (hqB : q < 4294967296)
  (h : q * v2 ≤ r * 4294967296 + u2) (hQ0 : 0 ≤ Q) : q ≤ Q + 1 := by
 have h1 : q * V ≤ q * ((v1 * 4294967296 + v2 + 1) * Bn) := Int.mul_le_mul_of_nonneg_left (by omega) hq0
 have h2 : q * ((v1 * 4294967296 + v2 + 1) * Bn) ≤ (top * 4294967296 + u2) * Bn + 4294967296 * Bn := by
  have e : q * ((v1 * 4294967296 + v2 + 1) * Bn) = (q * v1 * 4294967296 + q * v2 + q) * Bn := by grind
  rw [e, ← Int.add_mul];refine Int.mul_le_mul_of_nonneg_right ?_ (by omega)
  have : top * 4294967296 = q * v1 * 4294967296 + r * 4294967296 := by rw [← hqr]; grind
  omega
 have h3 : q * V ≤ U + V := by omega
 have h4 : q * V < (Q + 1) * V + V := by omega
 have h5 : q * V < (Q + 2) * V := by
  have : (Q + 2) * V = (Q + 1) * V + V := by grind
  omega
 have h6 : q < Q + 2 := Int.lt_of_mul_lt_mul_right h5 (by omega);omega
end Go.AL
/- Division by words: a digit's subtraction; words of a given number. -/
namespace Go.AL
def wdW : Nat → Int → List Int
  | 0, _ => []
  | n + 1, z => z % 4294967296 :: wdW n (z / 4294967296)
theorem wdW_length : ∀ (n : Nat) (z : Int), (wdW n z).length = n
 | 0, _ => rfl
 | n + 1, z => by simp [wdW, wdW_length n]
theorem wdW_ok : ∀ (n : Nat) (z : Int), WOk (wdW n z)
 | 0, _ => WOk.nil
 | n + 1, z => WOk.cons (by omega) (by omega) (wdW_ok n _)
theorem val_wdW : ∀ (n : Nat) (z : Int), 0 ≤ z → z < BB n → val (wdW n z) = z
 | 0, z, h0, h1 => by simp only [BB_zero] at h1; simp only [wdW, val]; omega
 | n + 1, z, h0, h1 => by
  rw [BB_succ] at h1;have := val_wdW n (z / 4294967296) (by omega) (by omega);simp only [wdW, val, this]; omega
theorem wdW_eq : ∀ {l : List Int}, WOk l → l = wdW l.length (val l)
 | [], _ => rfl
 | x :: l, h => by
  have h1 := h.head;have ih := wdW_eq h.tail;simp only [List.length_cons, wdW, val]
  have e1 : (x + 4294967296 * val l) % 4294967296 = x := by omega
  have e2 : (x + 4294967296 * val l) / 4294967296 = val l := by omega
  rw [e1, e2, ← ih]
theorem sub_step {lo m v : List Int} {i : Nat} {q b x y w b' : Int} (hlo : lo.length = i) (hm : m[i]? = some y) (hv : v[i]? = some x) (hval : val lo = val (m.take i) - q * val (v.take i) + b * BB i) (hw : w + (q * x + b) = y + 4294967296 * b') :
  val (lo ++ [w]) = val (m.take (i + 1)) - q * val (v.take (i + 1)) + b' * BB (i + 1) := by
 have hmi : (m.take i).length = i := by have := (List.getElem?_eq_some_iff.1 hm).1; simp; omega
 have hvi : (v.take i).length = i := by have := (List.getElem?_eq_some_iff.1 hv).1; simp; omega
 have t1 : m.take (i + 1) = m.take i ++ [y] := by rw [List.take_add_one, hm]; rfl
 have t2 : v.take (i + 1) = v.take i ++ [x] := by rw [List.take_add_one, hv]; rfl
 rw [val_snoc, t1, t2, val_snoc, val_snoc, hmi, hvi, hlo, hval, BB_succ]
 have : w = y + 4294967296 * b' - (q * x + b) := by omega
 rw [this];grind
theorem add_step {lo m v : List Int} {i : Nat} {c x y w c' : Int} (hlo : lo.length = i) (hm : m[i]? = some y) (hv : v[i]? = some x) (hval : val lo + c * BB i = val (m.take i) + val (v.take i)) (hw : w + 4294967296 * c' = y + x + c) :
  val (lo ++ [w]) + c' * BB (i + 1) = val (m.take (i + 1)) + val (v.take (i + 1)) := by
 have hmi : (m.take i).length = i := by have := (List.getElem?_eq_some_iff.1 hm).1; simp; omega
 have hvi : (v.take i).length = i := by have := (List.getElem?_eq_some_iff.1 hv).1; simp; omega
 have t1 : m.take (i + 1) = m.take i ++ [y] := by rw [List.take_add_one, hm]; rfl
 have t2 : v.take (i + 1) = v.take i ++ [x] := by rw [List.take_add_one, hv]; rfl
 rw [val_snoc, t1, t2, val_snoc, val_snoc, hmi, hvi, hlo, BB_succ]
 have : w = y + x + c - 4294967296 * c' := by omega
 rw [this]
 have h2 : val lo = val (m.take i) + val (v.take i) - c * BB i := by omega
 rw [h2];grind
end Go.AL
/- Division by words: the highest words; a digit's end. -/
namespace Go.AL
theorem take_top {l : List Int} {k : Nat} {x : Int} (h : l[k]? = some x) : l.take (k + 1) = l.take k ++ [x] := by rw [List.take_add_one, h]; rfl
theorem val_top {l : List Int} {k : Nat} {x : Int} (h : l[k]? = some x) : val (l.take (k + 1)) = val (l.take k) + BB k * x := by
 have hl : (l.take k).length = k := by have := (List.getElem?_eq_some_iff.1 h).1; simp; omega
 rw [take_top h, val_snoc, hl]
theorem val_bounds {l : List Int} {k : Nat} (w : WOk l) (h : k ≤ l.length) : 0 ≤ val (l.take k) ∧ val (l.take k) < BB k := by
 refine ⟨val_nonneg (w.take k), ?_⟩;have := val_lt (w.take k);rwa [List.length_take, Nat.min_eq_left h] at this
theorem dig_facts {m v : List Int} {k : Nat} (hm : m.length = k + 3) (hv : v.length = k + 2) (wm : WOk m) (wv : WOk v) {un u1 u2 v1 v2 : Int} (e0 : m[k + 2]? = some un) (e1 : m[k + 1]? = some u1) (e2 : m[k]? = some u2) (f1 : v[k + 1]? = some v1) (f2 : v[k]? = some v2) :
  (v1 * 4294967296 + v2) * BB k ≤ val v ∧ val v < (v1 * 4294967296 + v2 + 1) * BB k ∧ ((un * 4294967296 + u1) * 4294967296 + u2) * BB k ≤ val m ∧ val m < ((un * 4294967296 + u1) * 4294967296 + u2 + 1) * BB k := by
 have h1 : val v = val (v.take k) + BB k * v2 + BB (k + 1) * v1 := by
  have a := val_top f1;rw [show k + 1 + 1 = k + 2 from rfl, ← hv, List.take_length, val_top f2] at a;exact a
 have h2 : val m = val (m.take k) + BB k * u2 + BB (k + 1) * u1 + BB (k + 2) * un := by
  have a := val_top e0;rw [show k + 2 + 1 = k + 3 from rfl, ← hm, List.take_length, show k + 2 = k + 1 + 1 from rfl, val_top e1, val_top e2] at a;exact a
 have b1 := val_bounds (k := k) wv (by omega);have b2 := val_bounds (k := k) wm (by omega);rw [show k + 2 = k + 1 + 1 from rfl] at h2;simp only [BB_succ] at h1 h2;rw [h1, h2];refine ⟨?_, ?_, ?_, ?_⟩ <;> grind
theorem quo_between {U V q : Int} (hV : 0 < V) (h1 : q * V ≤ U) (h2 : U < (q + 1) * V) : q = U / V := by
 have a : U / V * V ≤ U := by have := Int.mul_ediv_add_emod U V; have := Int.emod_nonneg U (show V ≠ 0 by omega); have e : V * (U / V) = U / V * V := Int.mul_comm _ _; omega
 have b : U < (U / V + 1) * V := by
  have := Int.mul_ediv_add_emod U V;have := Int.emod_lt_of_pos U hV;have e : V * (U / V) = U / V * V := Int.mul_comm _ _;rw [Int.add_mul]; omega
 have c : q < U / V + 1 := Int.lt_of_mul_lt_mul_right (Int.lt_of_le_of_lt h1 b) (by omega);have d : U / V < q + 1 := Int.lt_of_mul_lt_mul_right (Int.lt_of_le_of_lt a h2) (by omega);omega
theorem quo_spec {U V : Int} (hV : 0 < V) (hU : 0 ≤ U) : U / V * V ≤ U ∧ U < (U / V + 1) * V ∧ 0 ≤ U / V ∧ U % V = U - U / V * V := by
 have h1 := Int.mul_ediv_add_emod U V;have h2 := Int.emod_nonneg U (show V ≠ 0 by omega);have h3 := Int.emod_lt_of_pos U hV;have e : V * (U / V) = U / V * V := Int.mul_comm _ _;refine ⟨by omega, by rw [Int.add_mul]; omega, Int.ediv_nonneg hU (by omega), by omega⟩
theorem dig_end0 {U V q : Int} (hV : 0 < V) (hU : 0 ≤ U) (h1 : U / V ≤ q) (h2 : q ≤ U / V + 1) (h : 0 ≤ U - q * V) : q = U / V ∧ U - q * V = U % V := by
 obtain ⟨a, b, c, d⟩ := quo_spec hV hU
 have hq : q = U / V := by
  rcases (show q = U / V ∨ q = U / V + 1 by omega) with h3 | h3
  ·exact h3
  ·rw [h3] at h; omega
 exact ⟨hq, by rw [d, hq]⟩
theorem dig_end1 {U V q : Int} (hV : 0 < V) (hU : 0 ≤ U) (h1 : U / V ≤ q) (h2 : q ≤ U / V + 1) (h : U - q * V < 0) : q - 1 = U / V ∧ U - q * V + V = U % V := by
 obtain ⟨a, b, c, d⟩ := quo_spec hV hU
 have hq : q = U / V + 1 := by
  rcases (show q = U / V ∨ q = U / V + 1 by omega) with h3 | h3
  ·rw [h3] at h; omega
  ·exact h3
 refine ⟨by omega, ?_⟩;rw [d, hq, Int.add_mul]; omega
end Go.AL
/- Division by a word, shifts by binary digits: plain. -/
namespace Go.AL
theorem over_step {A os : List Int} {i : Nat} {b r x : Int} (hx : A[i]? = some x) (h : val (A.drop (i + 1)) = val os * b + r) :
  val (A.drop i) = val ((r * 4294967296 + x) / b :: os) * b + (r * 4294967296 + x) % b := by
 have hd : A.drop i = x :: A.drop (i + 1) := by
  have hi := (List.getElem?_eq_some_iff.1 hx);rw [List.drop_eq_getElem_cons hi.1, hi.2]
 have hm := Int.mul_ediv_add_emod (r * 4294967296 + x) b;rw [hd];simp only [val];rw [h];grind
theorem over_word {b r x : Int} (hb : 0 < b) (h0 : 0 ≤ r) (h1 : r < b) (h2 : 0 ≤ x) (h3 : x < 4294967296) : 0 ≤ (r * 4294967296 + x) / b ∧ (r * 4294967296 + x) / b < 4294967296 := by
 refine ⟨Int.ediv_nonneg (by omega) (by omega), Int.ediv_lt_of_lt_mul hb ?_⟩
 have : r * 4294967296 + x < (r + 1) * 4294967296 := by omega
 have h4 : (r + 1) * 4294967296 ≤ b * 4294967296 := Int.mul_le_mul_of_nonneg_right (by omega) (by omega);rw [Int.mul_comm]; omega
theorem over_end {V Q b r : Int} (h : V = Q * b + r) (h0 : 0 ≤ r) (h1 : r < b) : Q = V / b ∧ r = V % b := by
 have hq : Q = V / b := quo_between (by omega) (by omega) (by rw [Int.add_mul]; omega);refine ⟨hq, ?_⟩;have := Int.mul_ediv_add_emod V b;have e : b * (V / b) = V / b * b := Int.mul_comm _ _;rw [← hq] at e;rw [← hq] at this;omega
theorem or_low {r x : Int} (h0 : 0 ≤ r) (h1 : r < 4294967296) (h2 : 0 ≤ x) (h3 : x < 4294967296) : bitN .or (r * 4294967296 % 18446744073709551616) x = r * 4294967296 + x := by
 show (((r * 4294967296 % 18446744073709551616).toNat ||| x.toNat : Nat) : Int) = _
 have e : (r * 4294967296 % 18446744073709551616).toNat = r.toNat <<< 32 := by rw [Nat.shiftLeft_eq]; omega
 rw [e, ← Nat.shiftLeft_add_eq_or_of_lt (by omega : x.toNat < 2 ^ 32), Nat.shiftLeft_eq];omega
theorem or_carry {c x : Int} {k : Nat} (hk : k < 32) (h0 : 0 ≤ c) (h1 : c < 2 ^ k) (h2 : 0 ≤ x) (h3 : x < 4294967296) : bitN .or c (x * 2 ^ k % 4294967296) = c + x * 2 ^ k % 4294967296 ∧ c + x * 2 ^ k % 4294967296 < 4294967296 := by
 have hp : (2 : Int) ^ k = ((2 ^ k : Nat) : Int) := by norm_cast
 have hs : (2 : Int) ^ 32 = 2 ^ k * 2 ^ (32 - k) := by rw [← Int.pow_add]; congr 1; omega
 have hs' : (4294967296 : Int) = 2 ^ k * 2 ^ (32 - k) := by rw [← hs]; rfl
 have e : x * 2 ^ k % 4294967296 = (x % 2 ^ (32 - k)) * 2 ^ k := by
  rw [hs', Int.mul_comm x, Int.mul_emod_mul_of_pos _ _ (Int.pow_pos (by omega)), Int.mul_comm]
 have hx := Int.emod_nonneg x (show (2 : Int) ^ (32 - k) ≠ 0 from Int.ne_of_gt (Int.pow_pos (by omega)));have hx2 := Int.emod_lt_of_pos x (show (0 : Int) < 2 ^ (32 - k) from Int.pow_pos (by omega));obtain ⟨m, hm⟩ : ∃ m : Nat, x % 2 ^ (32 - k) = m := ⟨_, (Int.toNat_of_nonneg hx).symm⟩;obtain ⟨d, hd⟩ : ∃ d : Nat, c = d := ⟨_, (Int.toNat_of_nonneg h0).symm⟩;rw [e, hm, hd];rw [hd, hp] at h1;rw [hm] at hx2;constructor
 ·show (((d : Int).toNat ||| ((m : Int) * 2 ^ k).toNat : Nat) : Int) = _
  have e2 : ((m : Int) * 2 ^ k).toNat = m <<< k := by rw [Nat.shiftLeft_eq, hp, ← Int.natCast_mul, Int.toNat_natCast]
  rw [e2, Int.toNat_natCast, Nat.or_comm, ← Nat.shiftLeft_add_eq_or_of_lt (by exact_mod_cast h1), Nat.shiftLeft_eq, hp, ← Int.natCast_mul, ← Int.natCast_add, Nat.add_comm]
 ·have h4 : ((m : Int) + 1) * 2 ^ k ≤ 2 ^ (32 - k) * 2 ^ k := Int.mul_le_mul_of_nonneg_right (by omega) (Int.le_of_lt (Int.pow_pos (by omega)));rw [Int.mul_comm (2 ^ (32 - k)), ← hs'] at h4;rw [hp] at h4 ⊢;rw [Int.add_mul] at h4;omega
theorem left_step {A P : List Int} {i : Nat} {c x B w c' S : Int} (hx : A[i]? = some x) (hB : BB P.length = B * BB i) (h : val P + BB P.length * c = B * S * val (A.take i)) (hw : w + 4294967296 * c' = c + x * S) :
  val (P ++ [w]) + BB (P ++ [w]).length * c' = B * S * val (A.take (i + 1)) := by
 have e : (P ++ [w]).length = P.length + 1 := by simp
 rw [e, val_snoc, val_take_succ hx, BB_succ]
 have e2 : w = c + x * S - 4294967296 * c' := by omega
 rw [e2]
 have e3 : B * S * (val (A.take i) + BB i * x) = B * S * val (A.take i) + (B * BB i) * (x * S) := by grind
 rw [e3, ← h, ← hB];grind
theorem right_step {A os : List Int} {i : Nat} {k : Nat} {w V : Int} (hk : k < 32) (wA : WOk A) (hV : V = val A) (hlen : os.length = i) (h : val os = V / 2 ^ k % BB i) (hi : i < A.length)
  (hw : w = val (A.drop i) / 2 ^ k % 4294967296) : val (os ++ [w]) = V / 2 ^ k % BB (i + 1) := by
 have hsp : V = val (A.take i) + BB i * val (A.drop i) := by
  rw [hV]
  conv => lhs; rw [← List.take_append_drop i A, val_append]
  rw [List.length_take, Nat.min_eq_left (by omega)]
 have hb := val_bounds (k := i) wA (by omega);have hB := BB_pos i;have h2 : (0 : Int) < 2 ^ k := Int.pow_pos (by omega)
 have e1 : V / BB i = val (A.drop i) := by
  rw [hsp, Int.add_mul_ediv_left _ _ (by omega), Int.ediv_eq_zero_of_lt hb.1 hb.2]; omega
 have e2 : V / 2 ^ k / BB i = val (A.drop i) / 2 ^ k := by
  rw [← e1, Int.ediv_ediv_of_nonneg (by omega), Int.ediv_ediv_of_nonneg (by omega), Int.mul_comm]
 rw [val_snoc, hlen, h, hw, ← e2, BB_succ];generalize V / 2 ^ k = U;have a1 := Int.mul_ediv_add_emod U (BB i);have a2 := Int.mul_ediv_add_emod (U / BB i) 4294967296;have a3 := Int.emod_nonneg U (show BB i ≠ 0 by omega);have a4 := Int.emod_lt_of_pos U hB;have a5 := Int.emod_nonneg (U / BB i) (show (4294967296 : Int) ≠ 0 by omega);have a6 := Int.emod_lt_of_pos (U / BB i) (show (0 : Int) < 4294967296 by omega)
 have e : U = U % BB i + BB i * (U / BB i % 4294967296) + 4294967296 * BB i * (U / BB i / 4294967296) := by
  conv => lhs; rw [← a1, ← a2]
  grind
 have hlt : U % BB i + BB i * (U / BB i % 4294967296) < 4294967296 * BB i := by
  have : BB i * (U / BB i % 4294967296) ≤ BB i * 4294967295 := Int.mul_le_mul_of_nonneg_left (by omega) (by omega);omega
 have hnn : 0 ≤ U % BB i + BB i * (U / BB i % 4294967296) := Int.add_nonneg a3 (Int.mul_nonneg (by omega) a5)
 conv => rhs; rw [e]
 rw [Int.add_mul_emod_self_left, Int.emod_eq_of_lt hnn hlt]
end Go.AL
/- A byte of a fixed string; bits.Len32, bits.LeadingZeros32. -/
namespace Go.AL
section
variable {P : Program} {tab : Tab} {n : Nat} {s : St}
variable {ops : Array Oper} {draw : Dr} {o : Oper} {l : List Oper} {acc : List Eff} {K : Exit → St → Prop}
theorem Fl.ixS [f : Facts P tab] {t : TypeId} {x y : Operand} (hop : o.op = .index t x y) {sz' by' : Nat} {z : List Value} (hts : tab t = some ⟨.string, sz', by', z⟩) {d : ByteArray} (hx : opd s x = .v (.string d)) {k : IntKind} {m : Int} (hy : opd s y = .v (.int k m)) (q : Nat) (hg : gOk ops s o = true) (hd : dOk n o.dst = true) (h0 : 0 ≤ m) (hv : (d[m.toNat]?).map (·.toNat) = some q)
  (r : Fl P n ops draw l ((Eff.mk (.v (.int .u8 q)) [] [] [] []).app o.dst s) (Eff.mk (.v (.int .u8 q)) [] [] [] [] :: acc) K) : Fl P n ops draw (o :: l) s acc K := by
 refine Fl.opv hg (OpJ.of_run (dOk_lt hd) fun C s' a w h β ho _ b => ?_) r;have hxr := opd_rep b x;have hyr := opd_rep b y;rw [ho x (by simp [hop, Op.operands]), hx] at hxr;rw [ho y (by simp [hop, Op.operands]), hy] at hyr;simp only [Rep] at hxr hyr;have hu := (f.tabOk _ _ hts).und;simp only at hu;obtain ⟨c, hc, hq⟩ := Option.map_eq_some_iff.1 hv;refine ⟨.int .u8 q, ?_, by simp only [Rep]⟩;simp only [execOp, hop, hxr, hyr, Instr.index, asIntOf, Sem.run_bind, Sem.run_pure, Result.andThen, run_underlying hu];rw [if_pos h0, hc];simp only [Sem.run_pure, hq]
end
def lenB (n : Nat) : Nat := if n = 0 then 0 else Nat.log2 n + 1
theorem lenB_shift {n k : Nat} (h : 2 ^ k ≤ n) : lenB n = lenB (n / 2 ^ k) + k := by
 have h2 : 0 < 2 ^ k := Nat.two_pow_pos k
 have hq : n / 2 ^ k ≠ 0 := by have := Nat.div_pos h h2; omega
 have hn : n ≠ 0 := by omega
 unfold lenB;rw [if_neg hn, if_neg hq]
 have : n.log2 = (n / 2 ^ k).log2 + k := by
  rw [Nat.log2_eq_iff hn];have a1 := Nat.log2_self_le hq;have a2 := @Nat.lt_log2_self (n / 2 ^ k);constructor
  ·rw [Nat.pow_add];have := Nat.mul_le_mul_right (2 ^ k) a1;have := Nat.div_mul_le_self n (2 ^ k);omega
  ·have b1 : n / 2 ^ k < 2 ^ ((n / 2 ^ k).log2 + 1) := a2;have := (Nat.div_lt_iff_lt_mul h2).1 b1;rw [show (n / 2 ^ k).log2 + k + 1 = (n / 2 ^ k).log2 + 1 + k by omega, Nat.pow_add];exact this
 omega
theorem lenB_spec {n : Nat} (h : n ≠ 0) : 1 ≤ lenB n ∧ 2 ^ (lenB n - 1) ≤ n ∧ n < 2 ^ lenB n := by
 unfold lenB;rw [if_neg h];exact ⟨by omega, Nat.log2_self_le h, Nat.lt_log2_self⟩
theorem lenB_le {n k : Nat} (h : n < 2 ^ k) : lenB n ≤ k := by
 rcases Nat.eq_zero_or_pos n with h0 | h0
 ·subst h0; simp [lenB]
 ·obtain ⟨a, b, c⟩ := lenB_spec (n := n) (by omega);have := (Nat.pow_lt_pow_iff_right (a := 2) (by omega)).1 (Nat.lt_of_le_of_lt b h);omega
theorem tab_of {d : ByteArray} {f : Nat → Nat} (h : (List.range 256).all (fun y => match d[y]? with | some b => Nat.beq b.toNat (f y) | none => false) = true) {y : Nat} (hy : y < 256) : (d[(y : Int).toNat]?).map (·.toNat) = some (f y) := by
 have := List.all_eq_true.1 h y (List.mem_range.2 hy);rw [Int.toNat_natCast];split at this
 ·rename_i b hb;rw [hb];exact congrArg some (Nat.eq_of_beq_eq_true this)
 ·cases this
end Go.AL
namespace Go.Proofs.YtcaecieigoplbaaGreat
open Go.AL
set_option maxRecDepth 100000 in
theorem Len32_ok (x : Nat) (h : x < 4294967296) : PureFn Tryz.prog 210 [.v (.int .u32 x)] (aN (lenB x)) := by
 refine PureFn.of_body Tryz.func210 rfl Tryz.ntmps210 rfl rfl ?_;refine AWP.seqS ?_;(repeat' (first |refine qv ?_ |apply qn |apply qr));refine ⟨?_⟩;refine AWP.seqJ (G := Nat × Nat) (fun (y, k) => y < 65536 ∧ k ≤ 16 ∧ lenB x = lenB y + k) (fun (y, k) => St.of [] [(0, .v (.int .u32 y)), (2, aN k)] []) ?_ ?_
 ·(repeat' (first |refine qv ?_ |apply qn |apply qs |apply qr |refine qw ?_ |(refine AWP.condD rfl ?_ ?_ <;> intro _ <;> try (exfalso; omega)) |apply qk))
  ·refine JoinOk.of (x / 65536, 16) ⟨by omega, by omega, lenB_shift (k := 16) (by omega)⟩ ?_;refine Ent.of [] ?_ ?_ rfl rfl;(repeat' (first |exact True.intro |refine ⟨⟨AV.Le.refl _, rfl⟩, ?_⟩|fail))
  ·refine JoinOk.of (x, 0) ⟨by omega, by omega, rfl⟩ ?_;refine Ent.of [] ?_ ?_ rfl rfl;(repeat' (first |exact True.intro |refine ⟨⟨AV.Le.refl _, rfl⟩, ?_⟩|fail))
 ·intro ⟨y, k⟩ ⟨h0, h1, h2⟩;refine AWP.seqJ (G := Nat × Nat) (fun (y, k) => y < 256 ∧ k ≤ 24 ∧ lenB x = lenB y + k) (fun (y, k) => St.of [] [(0, .v (.int .u32 y)), (2, aN k)] []) ?_ ?_
  ·(repeat' (first |refine qv ?_ |apply qn |apply qs |apply qr |refine qw ?_ |(refine AWP.condD rfl ?_ ?_ <;> intro _ <;> try (exfalso; omega)) |apply qk))
   ·refine JoinOk.of (y / 256, k + 8) ⟨by omega, by omega, by have e := lenB_shift (n := y) (k := 8) (by omega); rw [show 2 ^ 8 = 256 from rfl] at e; show _ = lenB (y / 256) + (k + 8); omega⟩ ?_;refine Ent.of [] ?_ ?_ rfl rfl;(repeat' (first |exact True.intro |refine ⟨⟨AV.Le.refl _, rfl⟩, ?_⟩|fail))
   ·refine JoinOk.of (y, k) ⟨by omega, by omega, h2⟩ ?_;refine Ent.of [] ?_ ?_ rfl rfl;(repeat' (first |exact True.intro |refine ⟨⟨AV.Le.refl _, rfl⟩, ?_⟩|fail))
  ·intro ⟨y, k⟩ ⟨h0, h1, h2⟩;have hl8 := lenB_le (k := 8) h0;(repeat' (first |refine qv ?_ |apply qs |apply qr));refine Fl.ixS rfl rfl rfl rfl (lenB y) rfl rfl (by omega) ?_ ?_
   ·have e : ((y : Int) % 256) = y := by omega
    rw [e];refine tab_of (f := lenB) ?_ h0;kernel_rfl
   (repeat' (first |refine qv ?_ |apply qn |refine qw ?_ |apply qt |refine Fl.cvS rfl rfl rfl rfl rfl rfl ?_));refine RetOk.of rfl (AV.Le.int ?_);omega
theorem LeadingZeros32_ok (x : Nat) (h : x < 4294967296) : PureFn Tryz.prog 212 [.v (.int .u32 x)] (aN (32 - lenB x)) := by
 have hl := lenB_le (k := 32) h;refine PureFn.of_body Tryz.func212 rfl Tryz.ntmps212 rfl rfl ?_;(repeat' (first |refine qv ?_ |apply qn |apply qs |apply qr));refine qc (Len32_ok x h) ?_;(repeat' (first |refine qv ?_ |apply qn |refine qw ?_ |apply qt));exact RetOk.of rfl (AV.Le.refl _)
end Go.Proofs.YtcaecieigoplbaaGreat
/- large.over, large.left, large.right (by less than a word). -/
namespace Go.AL
theorem set_zeros {i m : Nat} {q q' : Int} {os : List Int} {k : Nat} (hk : k = m) (hm : m + 1 = i) (hq : q = q') : (List.replicate i 0 ++ os).set k q = List.replicate m 0 ++ q' :: os := by
 subst hk hm hq;rw [List.replicate_succ', List.append_assoc];simp
end Go.AL
namespace Go.Proofs.YtcaecieigoplbaaGreat
open Go.AL
theorem over_ok (x b : Int) (hx : 0 ≤ x) (hxl : (toW x).length ≤ 50000) (hb : 0 < b) (hb1 : b < 4294967296) : PureFn Tryz.prog 211 [aW (toW x), .v (.int .u32 b)] (.tup [aW (toW (x / b)), .v (.int .u32 (x % b))]) := by
 refine PureFn.of_body Tryz.func211 rfl Tryz.ntmps211 rfl rfl ?_;have wx := toW_ok x;have hsx := val_toW hx
 generalize toW x = A at *
 subst hsx;(repeat' (first |refine qv ?_ |apply qn |apply qs |apply qr |refine qw ?_ |apply qb |refine Fl.make rfl rfl rfl rfl rfl rfl rfl rfl rfl rfl eW 0 (by exact LeL.refl _) (by rfl) (by first | omega | (dsimp only; omega)) (by first | omega | (dsimp only; omega)) (by first | omega | (dsimp only; omega)) ?_|fail));refine AWP.loop (G := Nat × List Int × Int) (fun (i, os, r) => os.length + i = A.length ∧ WOk os ∧ 0 ≤ r ∧ r < b ∧ val (A.drop i) = val os * b + r)
  (fun (i, os, r) => St.of [] [(0, aW A), (1, .v (.int .u32 b)), (6, .row 11), (7, aU r), (8, aN ((i : Int) - 1))] [(11, .row 1 eW (List.replicate i 0 ++ os) 62)])
  (fun (i, os, r) => i) (A.length, [], 0) ⟨by simp, WOk.nil, by omega, by omega, by simp [val]⟩ ?_ ?_
 ·refine Ent.of [] ?_ ?_ rfl rfl;(repeat' (first |exact True.intro |refine ⟨⟨AV.Le.refl _, rfl⟩, ?_⟩ |refine ⟨⟨⟨_, rfl, BLe.row ?_⟩, rfl⟩, ?_⟩|fail));simp
 ·intro ⟨i, os, r⟩ ⟨h0, h1, h2, h3, h4⟩;refine AWP.seqS ?_;(repeat' (first |refine qv ?_ |apply qn |apply qs |apply qr |(refine AWP.condD rfl ?_ ?_ <;> intro _ <;> try (exfalso; omega)) |apply qk |apply qx))
  ·refine ⟨?_⟩;refine AWP.seq (AWP.block (AWP.seqJ (G := Int) (fun y => A[i - 1]? = some y ∧ 0 ≤ y ∧ y < 4294967296) (fun y => St.of [] [(0, aW A), (1, .v (.int .u32 b)), (6, .row 11), (7, aU (r * 4294967296 + y)), (8, aN ((i : Int) - 1))] [(11, .row 1 eW (List.replicate i 0 ++ os) 62)]) ?_ ?_))
   ·(repeat' (first |refine qv ?_ |apply qn |apply qr |refine qw ?_ |(refine Fl.elW rfl rfl rfl rfl rfl rfl rfl rfl (by omega) (by omega) (by assumption) ?_; intro _ _ _ _)|fail));rename_i hi y hy hy0 hy1;rw [show ((i : Int) - 1).toNat = i - 1 by omega] at hy;refine JoinOk.of y ⟨hy, hy0, hy1⟩ ?_;refine Ent.of [] ?_ ?_ rfl rfl;(repeat' (first |exact True.intro |refine ⟨⟨AV.Le.refl _, rfl⟩, ?_⟩ |refine ⟨⟨⟨_, rfl, BLe.row rfl⟩, rfl⟩, ?_⟩ |refine ⟨⟨AV.Le.int ?_, rfl⟩, ?_⟩|fail));rw [show (2 : Int) ^ (32 : Int).toNat = 4294967296 from rfl];exact or_low h2 (by omega) hy0 hy1
   ·intro y ⟨hy, hy0, hy1⟩
    have hi : 0 < i := by
     rcases Nat.eq_zero_or_pos i with h | h
     ·subst h; omega
     ·exact h
    obtain ⟨q, hq⟩ : ∃ q, q = (r * 4294967296 + y) / b := ⟨_, rfl⟩;obtain ⟨r', hr'⟩ : ∃ r', r' = (r * 4294967296 + y) % b := ⟨_, rfl⟩;have hw := over_word hb h2 h3 hy0 hy1;have hm0 := Int.emod_nonneg (r * 4294967296 + y) (show b ≠ 0 by omega);have hm1 := Int.emod_lt_of_pos (r * 4294967296 + y) hb;have hst := over_step (i := i - 1) hy (by rw [show i - 1 + 1 = i by omega]; exact h4);rw [← hq] at hw hst;rw [← hr'] at hm0 hm1 hst;(repeat' (first |refine qv ?_ |apply qn |apply qs |apply qr |refine qw ?_ |refine Fl.w rfl rfl rfl ⟨by omega, by omega, by dsimp only [hiK]; omega⟩ ?_ |refine Fl.rel rfl rfl rfl rfl rfl rfl rfl rfl (by omega) (by first | omega | (simp; omega)) ?_ |refine Fl.rst rfl rfl rfl rfl rfl rfl rfl rfl rfl rfl rfl (LeL.refl _) rfl (by first | omega | (simp; omega)) ?_|fail));refine LoopEnd.of (i - 1, q :: os, r') ⟨by simp only [List.length_cons]; omega, WOk.cons hw.1 hw.2 h1, hm0, hm1, hst⟩ (by simp only; omega) ?_;refine Ent.of [] ?_ ?_ rfl rfl;(repeat' (first |exact True.intro |refine ⟨⟨AV.Le.refl _, rfl⟩, ?_⟩ |refine ⟨⟨⟨_, rfl, BLe.row ?_⟩, rfl⟩, ?_⟩ |refine ⟨⟨AV.Le.int ?_, rfl⟩, ?_⟩|fail))
    ·exact hr'.symm
    ·omega
    ·refine set_zeros (by omega) (by omega) ?_;rw [← hq]; omega
  ·rename_i hi
   have hi0 : i = 0 := by omega
   subst hi0;rw [List.drop_zero] at h4;obtain ⟨e1, e2⟩ := over_end h4 h2 h3;refine Fl.callF rfl 11 rfl (trim_ok os h1 (by omega)) rfl rfl rfl (LeL.refl _) ?_;(repeat' (first |refine qv ?_ |apply qn |apply qt));refine RetOk.of rfl ?_;rw [← e1, ← e2];exact AV.Le.tup (LeL.cons (AV.Le.refl _) (LeL.cons (AV.Le.int (by omega)) LeL.nil))
theorem set_carry {P : List Int} {c w w' v v' : Int} {m M : Nat} {i j : Nat} (hi : i = P.length) (hj : j = P.length + 1) (hM : M = m + 1) (hv : v = v') (hw : w = w') : ((P ++ c :: List.replicate M 0).set i v).set j w = (P ++ [v']) ++ w' :: List.replicate m 0 := by
 subst hi hj hM hv hw;rw [List.replicate_succ];simp
theorem get_carry {P R : List Int} {c : Int} {i : Nat} (hi : i = P.length) : (P ++ c :: R)[i]? = some c := by subst hi; simp
theorem left_ok (x : Int) (k n : Nat) (hx : 0 ≤ x) (hxl : (toW x).length ≤ 40000) (hk : k < 32) (hn : n ≤ 200000) (hd : n % 32 = k) : PureFn Tryz.prog 175 [aW (toW x), aN n] (aW (toW (x * 2 ^ n))) := by
 refine PureFn.of_body Tryz.func175 rfl Tryz.ntmps175 rfl rfl ?_;have wx := toW_ok x;have hsx := val_toW hx;obtain ⟨d, hdn⟩ : ∃ d, d = n / 32 := ⟨_, rfl⟩;have h2 : (0 : Int) < 2 ^ k := Int.pow_pos (by omega)
 have hpw : (2 : Int) ^ n = BB d * 2 ^ k := by rw [BB_pow, ← Int.pow_add]; congr 1; omega
 rw [hpw];refine AWP.seqS ?_;(repeat' (first |refine qv ?_ |apply qn |apply qr));refine ⟨AWP.seqS ?_⟩;(repeat' (first |refine qv ?_ |apply qn |apply qs |apply qr |(refine AWP.condD rfl ?_ ?_ <;> intro _ <;> try (exfalso; omega)) |apply qk |apply qt))
 ·rename_i h0;have hx0 : x = 0 := (toW_nil_iff hx).1 (List.eq_nil_of_length_eq_zero (by omega));refine RetOk.of rfl ?_;rw [hx0, Int.zero_mul, toW_zero];exact AV.Le.nil 1 eW
 rename_i hne
 generalize toW x = A at *
 subst hsx;refine ⟨AWP.seqS ?_⟩;(repeat' (first |refine qv ?_ |apply qn |apply qr |refine qw ?_ |refine Fl.w rfl rfl rfl ⟨by omega, by omega, by dsimp only [hiK]; omega⟩ ?_ |refine Fl.make rfl rfl rfl rfl rfl rfl rfl rfl rfl rfl eW 0 (by exact LeL.refl _) (by rfl) (by first | omega | (dsimp only; omega)) (by first | omega | (dsimp only; omega)) (by first | omega | (dsimp only; omega)) ?_|fail));refine ⟨AWP.seqS ?_⟩;(repeat' (first |refine qv ?_ |apply qn |apply qr |refine qw ?_|fail));refine ⟨?_⟩;refine AWP.seqJ (G := List Int) (fun os => WOk os ∧ os.length ≤ 90000 ∧ val os = val A * (BB d * 2 ^ k)) (fun os => St.of [] [(5, .row 19)] [(19, .row 1 eW os 62)]) ?_ ?_
 ·(repeat' (first |refine qv ?_ |apply qn |apply qs |apply qr |apply qb));refine AWP.loop (G := Nat × List Int × Int) (fun (i, P, c) => i ≤ A.length ∧ P.length = d + i ∧ WOk P ∧ 0 ≤ c ∧ c < 2 ^ k ∧ val P + BB P.length * c = BB d * 2 ^ k * val (A.take i))
   (fun (i, P, c) => St.of [] [(1, aN n), (5, .row 19), (6, .v (.int .u64 k)), (23, aW A), (24, aN A.length), (25, aN i)] [(19, .row 1 eW (P ++ c :: List.replicate (A.length - i) 0) 62)])
   (fun (i, P, c) => A.length - i) (0, List.replicate d 0, 0) ⟨by omega, by simp, WOk.zeros _, by omega, h2, by simp [val, val_zeros]⟩ ?_ ?_
  ·refine Ent.of [] ?_ ?_ rfl rfl;(repeat' (first |exact True.intro |refine ⟨⟨AV.Le.refl _, rfl⟩, ?_⟩ |refine ⟨⟨⟨_, rfl, BLe.row ?_⟩, rfl⟩, ?_⟩ |refine ⟨⟨AV.Le.int ?_, rfl⟩, ?_⟩|fail))
   ·omega
   ·rw [← List.replicate_succ, List.replicate_append_replicate]; congr 1; omega
  ·intro ⟨i, P, c⟩ ⟨h0, h1, h3, h4, h5, h6⟩
   have h5' : c < 4294967296 := Int.lt_of_lt_of_le h5 (by
    have : (2 : Int) ^ k ≤ 2 ^ 32 := pow_le_r (by omega) (by omega)
    rw [show (2 : Int) ^ 32 = 4294967296 from rfl] at this; exact this)
   have hW : WOk (P ++ c :: List.replicate (A.length - i) 0) := h3.append (WOk.cons h4 h5' (WOk.zeros _));(repeat' (first |refine qv ?_ |apply qn |apply qs |apply qr |refine qw ?_ |refine Fl.w rfl rfl rfl ⟨by omega, by omega, by dsimp only [hiK]; omega⟩ ?_ |(refine AWP.condD rfl ?_ ?_ <;> intro _ <;> try (exfalso; omega)) |apply qb |apply qk |apply qx |(refine Fl.elW rfl rfl rfl rfl rfl rfl rfl rfl (by omega) (by omega) (by assumption) ?_; intro _ _ _ _) |refine Fl.rel rfl rfl rfl rfl rfl rfl rfl rfl (by omega) (by first | omega | (simp; omega)) ?_ |(refine Fl.rldW rfl rfl rfl rfl rfl rfl rfl (fun _ => rfl) (fun _ => rfl) (by first | omega | (simp; omega)) (by assumption) ?_; intro _ _ _ _) |refine Fl.rst rfl rfl rfl rfl rfl rfl rfl rfl rfl rfl rfl (LeL.refl _) rfl (by first | omega | (simp; omega)) ?_|fail))
   ·rename_i hi y hy hy0 hy1 x hx hx0 hx1;rw [Int.toNat_natCast] at hy;rw [get_carry (by omega)] at hx;injection hx with hx;subst hx;have hb := or_carry hk h4 h5 hy0 hy1
    have hp : (2 : Int) ^ k ≤ 2147483648 := by
     have : (2 : Int) ^ k ≤ 2 ^ 31 := pow_le_r (by omega) (by omega);rw [show (2 : Int) ^ 31 = 2147483648 from rfl] at this; exact this
    obtain ⟨Y, hY⟩ : ∃ Y, Y = y * 2 ^ k := ⟨_, rfl⟩
    have hY0 : 0 ≤ Y := by rw [hY]; exact Int.mul_nonneg hy0 (by omega)
    have hY1 : Y ≤ 4294967295 * 2 ^ k := by rw [hY]; exact Int.mul_le_mul_of_nonneg_right (by omega) (by omega)
    have hY2 : Y / 4294967296 < 2 ^ k := by omega
    have hst := left_step (S := 2 ^ k) (B := BB d) (w := c + Y % 4294967296) (c' := Y / 4294967296) hy (by rw [h1, BB_add]) h6 (by rw [← hY]; omega);rw [← hY] at hb;refine LoopEnd.of (i + 1, P ++ [c + Y % 4294967296], Y / 4294967296) ⟨by omega, by simp; omega, h3.append (WOk.cons (by omega) hb.2 WOk.nil), by omega, hY2, hst⟩ (by simp only; omega) ?_;refine Ent.of [] ?_ ?_ rfl rfl;(repeat' (first |exact True.intro |refine ⟨⟨AV.Le.refl _, rfl⟩, ?_⟩ |refine ⟨⟨⟨_, rfl, BLe.row ?_⟩, rfl⟩, ?_⟩|fail));refine set_carry (by omega) (by omega) (by omega) ?_ ?_
    ·rw [show ((k : Int)).toNat = k from Int.toNat_natCast k, ← hY];rw [← hb.1, show Y % 18446744073709551616 % 4294967296 = Y % 4294967296 by omega]
    ·rw [show ((k : Int)).toNat = k from Int.toNat_natCast k, ← hY];rw [p32];omega
   ·have hi : i = A.length := by omega
    subst hi;refine JoinOk.of (P ++ [c]) ⟨h3.append (WOk.cons h4 h5' WOk.nil), by simp; omega, ?_⟩ ?_
    ·rw [val_snoc, h6, List.take_length, Int.mul_comm]
    ·refine Ent.of [] ?_ ?_ rfl rfl;(repeat' (first |exact True.intro |refine ⟨⟨AV.Le.refl _, rfl⟩, ?_⟩ |refine ⟨⟨⟨_, rfl, BLe.row ?_⟩, rfl⟩, ?_⟩|fail));simp
 ·intro os ⟨h0, h1, h3⟩;(repeat' (first |refine qv ?_ |apply qs |apply qr));refine Fl.callF rfl 19 rfl (trim_ok os h0 (by omega)) rfl rfl rfl (LeL.refl _) ?_;(repeat' (first |refine qv ?_ |apply qn |apply qt));refine RetOk.of rfl ?_;rw [h3];exact AV.Le.refl _
theorem rightF_ok (s : List Int) (hs : s = []) : PureFn Tryz.prog 231 [aW s, .fn 215 []] (aN (-1)) := by
 refine PureFn.of_body Tryz.func231 rfl Tryz.ntmps231 rfl rfl ?_;subst hs;(repeat' (first |refine qv ?_ |apply qn |apply qs |apply qr |apply qb));refine AWP.loop (G := Unit) (fun _ => True) (fun _ => St.of [] [(7, aN 0), (8, aN 0)] []) (fun _ => 0) () trivial ?_ ?_
 ·refine Ent.of [] ?_ ?_ rfl rfl;(repeat' (first |exact True.intro |refine ⟨⟨AV.Le.refl _, rfl⟩, ?_⟩|fail))
 ·intro _ _;(repeat' (first |refine qv ?_ |apply qn |apply qs |apply qr |refine AWP.condF rfl ?_ |apply qx |apply qt));exact RetOk.of rfl (AV.Le.refl _)
theorem rightC_ok (s : List Int) (hs : s = []) : PureFn Tryz.prog 214 [aW s, .fn 215 []] (aB false) := by
 refine PureFn.of_body Tryz.func214 rfl Tryz.ntmps214 rfl rfl ?_;(repeat' (first |refine qv ?_ |apply qn |apply qs |apply qr));refine qc (rightF_ok s hs) ?_;(repeat' (first |refine qv ?_ |apply qn |apply qt));exact RetOk.of rfl (AV.Le.refl _)
theorem right_word {A : List Int} {i k : Nat} {x y : Int} (hk : k < 32) (hx : A[i]? = some x) (hy : A[i + 1]? = some y ∨ (A.length ≤ i + 1 ∧ y = 0)) : (x + 4294967296 * y) / 2 ^ k % 4294967296 = val (A.drop i) / 2 ^ k % 4294967296 := by
 have hd : ∀ (j : Nat) (z : Int), A[j]? = some z → A.drop j = z :: A.drop (j + 1) := fun j z hz => by
  have hi := List.getElem?_eq_some_iff.1 hz;rw [List.drop_eq_getElem_cons hi.1, hi.2]
 obtain ⟨R, hR⟩ : ∃ R, val (A.drop (i + 1)) = y + 4294967296 * R := by
  rcases hy with hy | ⟨h1, h2⟩
  ·exact ⟨val (A.drop (i + 1 + 1)), by rw [hd _ _ hy]; simp only [val]⟩
  ·exact ⟨0, by rw [List.drop_eq_nil_of_le h1, h2]; simp [val]⟩
 rw [hd i x hx, val, hR];have h2 : (0 : Int) < 2 ^ k := Int.pow_pos (by omega)
 have hs : (4294967296 : Int) = 2 ^ k * 2 ^ (32 - k) := by rw [← Int.pow_add, show k + (32 - k) = 32 by omega]; rfl
 have e : x + 4294967296 * (y + 4294967296 * R) = x + 4294967296 * y + 2 ^ k * (2 ^ (32 - k) * R * 4294967296) := by
  have : (4294967296 : Int) * (4294967296 * R) = 2 ^ k * (2 ^ (32 - k) * R * 4294967296) := by
   conv => lhs; arg 1; rw [hs]
   grind
  rw [← this]; grind
 rw [e, Int.add_mul_ediv_left _ _ (by omega), Int.add_mul_emod_self_right]
theorem or_high {x y : Int} (h0 : 0 ≤ x) (h1 : x < 4294967296) (h2 : 0 ≤ y) (h3 : y < 4294967296) : bitN .or x (y * 2 ^ (32 : Int).toNat % 18446744073709551616) = x + 4294967296 * y := by
 have := or_shift (m := x) (u := y) (i := 1) h0 (by rw [BB_succ, BB_zero]; omega) h2 h3 (by omega);rw [BB_succ, BB_zero] at this;exact this
theorem right_next {A os : List Int} {i k : Nat} {x y : Int} (hk : k < 32) (wA : WOk A) (hl : os.length = i) (h : val os = val A / 2 ^ k % BB i) (hi : i < A.length) (hx : A[i]? = some x) (hy : A[i + 1]? = some y ∨ (A.length ≤ i + 1 ∧ y = 0)) :
  val (os ++ [(x + 4294967296 * y) / 2 ^ k % 4294967296]) = val A / 2 ^ k % BB (i + 1) :=
 right_step hk wA rfl hl h hi (right_word hk hx hy)
set_option maxHeartbeats 400000 in
theorem right_ok (x : Int) (k : Nat) (hx : 0 ≤ x) (hxl : (toW x).length ≤ 100000) (hk : k < 32) : PureFn Tryz.prog 177 [aW (toW x), aN k] (.tup [aW (toW (x / 2 ^ k)), .any]) := by
 refine PureFn.of_body Tryz.func177 rfl Tryz.ntmps177 rfl rfl ?_;have wx := toW_ok x;have hsx := val_toW hx;have h2 : (0 : Int) < 2 ^ k := Int.pow_pos (by omega)
 have hp : (2 : Int) ^ k ≤ 2147483648 := by
  have : (2 : Int) ^ k ≤ 2 ^ 31 := pow_le_r (by omega) (by omega);rw [show (2 : Int) ^ 31 = 2147483648 from rfl] at this; exact this
 refine AWP.seqS ?_;(repeat' (first |refine qv ?_ |apply qn |apply qr));refine ⟨AWP.seqS ?_⟩;(repeat' (first |refine qv ?_ |apply qn |apply qs |apply qr |refine Fl.w rfl rfl rfl ⟨by omega, by omega, by dsimp only [hiK]; omega⟩ ?_ |(refine AWP.condD rfl ?_ ?_ <;> intro _ <;> try (exfalso; omega)) |apply qk |apply qt))
 ·rename_i h0;have hx0 : x = 0 := (toW_nil_iff hx).1 (List.eq_nil_of_length_eq_zero (by omega));refine RetOk.of rfl (AV.Le.tup (LeL.cons ?_ (LeL.cons (AV.Le.any _) LeL.nil)));rw [hx0, Int.zero_ediv, toW_zero];exact AV.Le.nil 1 eW
 rename_i hne
 generalize toW x = A at *
 subst hsx;refine ⟨AWP.seqS ?_⟩;(repeat' (first |refine qv ?_ |apply qr |refine qw ?_ |refine Fl.w rfl rfl rfl ⟨by omega, by omega, by dsimp only [hiK]; omega⟩ ?_|fail));refine qc (rightC_ok (A.take ((k : Int) / 32).toNat) (by rw [show ((k : Int) / 32).toNat = 0 by omega]; rfl)) ?_;(repeat' (first |refine qv ?_ |apply qn));refine ⟨AWP.seqS ?_⟩;(repeat' (first |refine qv ?_ |apply qn |apply qr |refine qw ?_|fail));refine ⟨AWP.seqJ (G := Unit) (fun _ => True) (fun _ => St.of [] [(0, aW A), (6, aB false), (7, .v (.int .u64 k))] []) ?_ ?_⟩
 ·(repeat' (first |refine qv ?_ |apply qn |apply qr |refine qw ?_ |refine Fl.w rfl rfl rfl ⟨by omega, by omega, by dsimp only [hiK]; omega⟩ ?_|fail));refine JoinOk.of () trivial ?_;refine Ent.of [] ?_ ?_ rfl rfl;(repeat' (first |exact True.intro |refine ⟨⟨AV.Le.refl _, rfl⟩, ?_⟩ |refine ⟨⟨AV.Le.int ?_, rfl⟩, ?_⟩ |refine ⟨⟨AV.Le.sl ?_, rfl⟩, ?_⟩|fail))
  ·rw [show ((k : Int) / 32).toNat = 0 by omega]; rfl
  ·omega
 intro _ _;refine AWP.seqJ (G := Unit) (fun _ => True) (fun _ => St.of [] [(0, aW A), (6, .any), (7, .v (.int .u64 k))] []) ?_ ?_
 ·(repeat' (first |refine qv ?_ |apply qn |apply qr |refine qw ?_ |(refine Fl.elW rfl rfl rfl rfl rfl rfl rfl rfl (by omega) (by omega) (by assumption) ?_; intro _ _ _ _)|fail));refine JoinOk.of () trivial ?_;refine Ent.of [] ?_ ?_ rfl rfl;(repeat' (first |exact True.intro |refine ⟨⟨AV.Le.refl _, rfl⟩, ?_⟩ |refine ⟨⟨AV.Le.any _, rfl⟩, ?_⟩|fail))
 intro _ _;refine AWP.seqS ?_;(repeat' (first |refine qv ?_ |apply qn |apply qr |refine Fl.make rfl rfl rfl rfl rfl rfl rfl rfl rfl rfl eW 0 (by exact LeL.refl _) (by rfl) (by first | omega | (dsimp only; omega)) (by first | omega | (dsimp only; omega)) (by first | omega | (dsimp only; omega)) ?_|fail));refine ⟨?_⟩;refine AWP.seqJ (G := List Int) (fun os => os.length = A.length ∧ WOk os ∧ val os = val A / 2 ^ k) (fun os => St.of [] [(6, .any), (8, .row 45)] [(45, .row 1 eW os 62)]) ?_ ?_
 ·(repeat' (first |refine qv ?_ |apply qn |apply qs |apply qr |apply qb));refine AWP.loop (G := Nat × List Int) (fun (i, os) => i ≤ A.length ∧ os.length = i ∧ WOk os ∧ val os = val A / 2 ^ k % BB i)
   (fun (i, os) => St.of [] [(0, aW A), (6, .any), (7, .v (.int .u64 k)), (8, .row 45), (46, aW A), (47, aN A.length), (48, aN i)] [(45, .row 1 eW (os ++ List.replicate (A.length - i) 0) 62)])
   (fun (i, os) => A.length - i) (0, []) ⟨by omega, rfl, WOk.nil, by simp [val, BB_zero]⟩ ?_ ?_
  ·refine Ent.of [] ?_ ?_ rfl rfl;(repeat' (first |exact True.intro |refine ⟨⟨AV.Le.refl _, rfl⟩, ?_⟩ |refine ⟨⟨⟨_, rfl, BLe.row rfl⟩, rfl⟩, ?_⟩|fail))
  ·intro ⟨i, os⟩ ⟨h0, h1, h3, h4⟩;refine AWP.seq ?_;(repeat' (first |refine qv ?_ |apply qn |apply qs |apply qr |refine qw ?_ |(refine AWP.condD rfl ?_ ?_ <;> intro _ <;> try (exfalso; omega)) |apply qb |apply qk |apply qx |(refine Fl.elW rfl rfl rfl rfl rfl rfl rfl rfl (by omega) (by omega) (by assumption) ?_; intro _ _ _ _) |refine Fl.rel rfl rfl rfl rfl rfl rfl rfl rfl (by omega) (by first | omega | (simp; omega)) ?_ |refine Fl.rst rfl rfl rfl rfl rfl rfl rfl rfl rfl rfl rfl (LeL.refl _) rfl (by first | omega | (simp; omega)) ?_|fail))
   ·rename_i hi x hx hx0 hx1 hi2 y hy hy0 hy1;rw [Int.toNat_natCast] at hx;rw [show ((i : Int) + 1).toNat = i + 1 by omega] at hy;have hst := right_next hk wx h1 h4 (by omega) hx (.inl hy);refine LoopEnd.of (i + 1, os ++ [(x + 4294967296 * y) / 2 ^ k % 4294967296]) ⟨by omega, by simp; omega, h3.append (WOk.cons (by omega) (by omega) WOk.nil), hst⟩ (by simp only; omega) ?_;refine Ent.of [] ?_ ?_ rfl rfl;(repeat' (first |exact True.intro |refine ⟨⟨AV.Le.refl _, rfl⟩, ?_⟩ |refine ⟨⟨⟨_, rfl, BLe.row ?_⟩, rfl⟩, ?_⟩|fail));refine set_rep (by omega) (by omega) ?_;rw [show ((k : Int)).toNat = k from Int.toNat_natCast k, or_high hx0 hx1 hy0 hy1]
   ·rename_i hi x hx hx0 hx1 hi2;rw [Int.toNat_natCast] at hx;have hst := right_next (y := 0) hk wx h1 h4 (by omega) hx (.inr ⟨by omega, rfl⟩);refine LoopEnd.of (i + 1, os ++ [(x + 4294967296 * 0) / 2 ^ k % 4294967296]) ⟨by omega, by simp; omega, h3.append (WOk.cons (by omega) (by omega) WOk.nil), hst⟩ (by simp only; omega) ?_;refine Ent.of [] ?_ ?_ rfl rfl;(repeat' (first |exact True.intro |refine ⟨⟨AV.Le.refl _, rfl⟩, ?_⟩ |refine ⟨⟨⟨_, rfl, BLe.row ?_⟩, rfl⟩, ?_⟩|fail));refine set_rep (by omega) (by omega) ?_;rw [show ((k : Int)).toNat = k from Int.toNat_natCast k, show x + 4294967296 * 0 = x by omega]
   ·have hi : i = A.length := by omega
    refine JoinOk.of os ⟨by omega, h3, ?_⟩ ?_
    ·rw [h4, hi];refine Int.emod_eq_of_lt (Int.ediv_nonneg hx (by omega)) ?_;have := val_lt wx;exact Int.lt_of_le_of_lt (Int.ediv_le_self _ hx) this
    ·refine Ent.of [] ?_ ?_ rfl rfl;(repeat' (first |exact True.intro |refine ⟨⟨AV.Le.refl _, rfl⟩, ?_⟩ |refine ⟨⟨⟨_, rfl, BLe.row ?_⟩, rfl⟩, ?_⟩|fail));rw [hi, Nat.sub_self];simp
 ·intro os ⟨h0, h1, h3⟩;(repeat' (first |refine qv ?_ |apply qs |apply qr));refine Fl.callF rfl 45 rfl (trim_ok os h1 (by omega)) rfl rfl rfl (LeL.refl _) ?_;(repeat' (first |refine qv ?_ |apply qn |apply qt));refine RetOk.of rfl ?_;rw [h3];exact AV.Le.refl _
end Go.Proofs.YtcaecieigoplbaaGreat
/- Parts of rows: a row cut; a part of a row that is written through. -/
namespace Go.AL
section
variable {P : Program} {tab : Tab} {n : Nat} {o : Oper} {s : St}
theorem OpJ.selem (ht : TabOk P tab) (hd : ∀ d, o.dst = some d → d < n) {t : TypeId} {x y : Operand} (hop : o.op = .indexAddr t x y) {e : TypeId} {i : TI} {sz' by' : Nat} {z : List Value} (hts : tab t = some ⟨.slice e, sz', by', z⟩) (hti : tab e = some i) (hi1 : i.size = 1)
  {b : Id} {off len : Nat} (hx : opd s x = .sub b off len) {k : IntKind} {m : Int} (hy : opd s y = .v (.int k m)) (h0 : 0 ≤ m) (h1 : m < len) :
  OpJ P n o s ⟨.rptr b (off + m.toNat), [], [], [], []⟩ := by
 refine OpJ.of_run hd fun C s' a w h β ho hbs q => ?_;have hxr := opd_rep q x;have hyr := opd_rep q y;rw [ho x (by simp [hop, Op.operands]), hx] at hxr;rw [ho y (by simp [hop, Op.operands]), hy] at hyr;simp only [Rep] at hxr hyr;obtain ⟨g, m0, c0, c', e1, e2⟩ := hxr;have hu := (ht _ _ hts).und;simp only at hu;refine ⟨.pointer (some ((⟨g, off, none⟩ : Addr).add (m.toNat * i.size))), ?_, ?_⟩
 ·simp only [execOp, hop, hyr, e2, Instr.indexAt, asIntOf, Sem.run_bind, Sem.run_pure, Result.andThen, run_underlying hu];rw [if_pos ⟨h0, h1⟩];simp only [Sem.run_bind, size_ok (ht _ _ hti), Result.andThen, Sem.run_pure]
 ·simp only [Rep];refine ⟨g, _, _, e1, ?_⟩;rw [hi1, Nat.mul_one];unfold Addr.add;split <;> simp_all
variable {ops : Array Oper} {draw : Dr} {l : List Oper} {acc : List Eff} {K : Exit → St → Prop}
theorem Fl.sel [f : Facts P tab] {t : TypeId} {x y : Operand} (hop : o.op = .indexAddr t x y) {b : Id} {off len : Nat} (hx : opd s x = .sub b off len) {k : IntKind} {m : Int} (hy : opd s y = .v (.int k m)) {e : TypeId} {i : TI} {sz' by' : Nat} {z : List Value} (hts : tab t = some ⟨.slice e, sz', by', z⟩) (hti : tab e = some i) (hi1 : Nat.beq i.size 1 = true) (hg : gOk ops s o = true) (hd : dOk n o.dst = true) (h0 : 0 ≤ m) (h1 : m < len)
  (r : Fl P n ops draw l ((Eff.mk (.rptr b ((off + m.toNat) * 1)) [] [] [] []).app o.dst s) (Eff.mk (.rptr b ((off + m.toNat) * 1)) [] [] [] [] :: acc) K) : Fl P n ops draw (o :: l) s acc K :=
 Fl.opv hg (by rw [Nat.mul_one]; exact OpJ.selem f.tabOk (dOk_lt hd) hop hts hti (Nat.eq_of_beq_eq_true hi1) hx hy h0 h1) r
theorem Fl.subR [f : Facts P tab] {t : TypeId} {x y z : Operand} (hop : o.op = .slice t x (some y) (some z) none) {b : Id} (hx : opd s x = .row b) {α : Type} {enc : α → List AV} {xs : List α} {bt : TypeId} (hb : s.bx b = some (.row 1 enc xs bt)) {e : TypeId} {i : TI} {sz' by' : Nat} {z' : List Value} (hts : tab t = some ⟨.slice e, sz', by', z'⟩) (hti : tab e = some i) (hi1 : Nat.beq i.size 1 = true)
  {k k' : IntKind} {m m' : Int} (hy : opd s y = .v (.int k m)) (hz : opd s z = .v (.int k' m')) (h0 : 0 ≤ m) (h1 : m < m') (h2 : m' ≤ xs.length) {off len : Nat} (ho : off = m.toNat) (hl : len = m'.toNat - m.toNat) (hg : gOk ops s o = true) (hd : dOk n o.dst = true)
  (r : Fl P n ops draw l ((Eff.mk (.sub b off len) [] [] [] [b]).app o.dst s) (Eff.mk (.sub b off len) [] [] [] [b] :: acc) K) : Fl P n ops draw (o :: l) s acc K := by
 have hi1 := Nat.eq_of_beq_eq_true hi1;subst ho hl;refine Fl.opv hg (OpJ.of_run (dOk_lt hd) fun C s' a w h β ho hbs q => ?_) r;have hxr := opd_rep q x;have hyr := opd_rep q y;have hzr := opd_rep q z;rw [ho x (by simp [hop, Op.operands]), hx] at hxr;rw [ho y (by simp [hop, Op.operands]), hy] at hyr;rw [ho z (by simp [hop, Op.operands]), hz] at hzr;simp only [Rep] at hxr hyr hzr;obtain ⟨e1, A, m0, c0, e2⟩ := hxr;obtain ⟨v, vals, e3, hown, _⟩ := q.box b _ ((hbs b (by simp)).trans hb);rw [e1] at e3; injection e3 with e3;have hu := (f.tabOk _ _ hts).und;simp only at hu;rcases hown.2 with ⟨rfl, hn⟩ | ⟨g, cap, cur, rfl, _, hh, hc1, hc2, hc3, hc4⟩
 ·omega
 ·refine ⟨.slice (some ⟨g, m.toNat, none⟩) (m'.toNat - m.toNat) (cap - m.toNat), ?_, ?_⟩
  ·have b1 := run_sliceBound (P := P) w k' m' cap .sliceAcap (by omega) (by omega);have b2 := run_sliceBound (P := P) w k m m'.toNat .sliceB h0 (by omega)
   have hne : ¬ cap = m.toNat := by omega
   have hadd : (⟨g, 0, none⟩ : Addr).add m.toNat = ⟨g, m.toNat, none⟩ := by unfold Addr.add; split <;> simp_all
   simp only [execOp, hop, e3, hyr, hzr, Option.map_some, Option.map_none, Instr.sliceAt, Sem.run_bind, run_underlying hu, Result.andThen, Instr.slice, Instr.sliceBounds, if_true, Sem.run_pure, b1, b2, Option.isSome_none, Bool.false_eq_true, if_false, size_ok (f.tabOk _ _ hti), if_neg hne, hi1, Nat.mul_one, hadd]
  ·simp only [Rep];exact ⟨g, _, _, _, e1.trans (by rw [e3]), rfl⟩
theorem Fl.cutR [f : Facts P tab] {t : TypeId} {x z : Operand} (hop : o.op = .slice t x none (some z) none) {b : Id} (hx : opd s x = .row b) {α : Type} {enc : α → List AV} {xs : List α} {bt : TypeId} (hb : s.bx b = some (.row 1 enc xs bt)) {e : TypeId} {i : TI} {sz' by' : Nat} {z' : List Value} (hts : tab t = some ⟨.slice e, sz', by', z'⟩) (hti : tab e = some i) (hi1 : Nat.beq i.size 1 = true)
  {k' : IntKind} {m : Int} (hz : opd s z = .v (.int k' m)) (h0 : 0 ≤ m) (h2 : m ≤ xs.length) (hg : gOk ops s o = true) {d : Tmp} (hdst : o.dst = some d) (hd : Nat.blt d n = true) (hn : s.al d = false)
  (r : Fl P n ops draw l ((Eff.mk (.row d) [(d, .row 1 enc (xs.take m.toNat) bt)] [b] [d] [b]).app o.dst s) (Eff.mk (.row d) [(d, .row 1 enc (xs.take m.toNat) bt)] [b] [d] [b] :: acc) K)
  (hJ : presOk draw.J (Eff.mk (.row d) [(d, .row 1 enc (xs.take m.toNat) bt)] [b] [d] [b]) := by repeat' (first | exact True.intro | exact rfl | refine ⟨?_, ?_⟩ | fail)) : Fl P n ops draw (o :: l) s acc K := by
 have hi1 := Nat.eq_of_beq_eq_true hi1;refine Fl.op hg ⟨fun t ht => (by rw [hdst] at ht; injection ht with ht; subst ht; exact ltOf hd), fun C s' a w h β Q K hs hbs hal q hK => ?_⟩ (newOk1 hn) hJ r;have same : ∀ q : Operand, q ∈ o.op.operands → opd s' q = opd s q := fun q hq => opd_tmp fun t ht => hs t (by rw [← ht]; exact hq);have hb' : s'.bx b = some (.row 1 enc xs bt) := (hbs b (by simp [Eff.ts])).trans hb;have hxr := opd_rep q x;have hzr := opd_rep q z;rw [same x (by simp [hop, Op.operands]), hx] at hxr;rw [same z (by simp [hop, Op.operands]), hz] at hzr;simp only [Rep] at hxr hzr;obtain ⟨e1, A, m0, c0, e2⟩ := hxr;obtain ⟨v, vals, e3, hown, hvr, hel, hno⟩ := q.box b _ hb';rw [e1] at e3; injection e3 with e3;have hu := (f.tabOk _ _ hts).und;simp only at hu;have hbk := blk_own hown
 have key : ∃ v', (execOp a.eval o).run P w = .ok (.value v') w ∧ w.ownsRow 0 bt 1 v' (xs.take m.toNat).length (vals.take m.toNat) ∧ v'.ownBlock = v.ownBlock := by
  have hml : (xs.take m.toNat).length = m.toNat := by rw [List.length_take]; omega
  rw [hml]
  have hvl : (vals.take m.toNat).length = m.toNat * 1 := by rw [List.length_take, hown.1]; omega
  rcases hown.2 with ⟨rfl, hn0⟩ | ⟨g, cap, cur, rfl, hb0, hh, hc1, hc2, hc3, hc4⟩
  ·have hm0 : m.toNat = 0 := by omega
   refine ⟨.slice none 0 0, ?_, ⟨hvl, .inl ⟨rfl, hm0⟩⟩, rfl⟩;have b1 := run_sliceBound (P := P) w k' m 0 .sliceAcap (by omega) (by omega);rw [hm0] at b1;simp only [execOp, hop, e3, hzr, Option.map_some, Option.map_none, Instr.sliceAt, Sem.run_bind, run_underlying hu, Result.andThen, Instr.slice, Instr.sliceBounds, if_true, Sem.run_pure, b1, Option.isSome_none, Bool.false_eq_true, if_false, size_ok (f.tabOk _ _ hti), Nat.sub_self]
  ·refine ⟨.slice (some ⟨g, 0, none⟩) m.toNat cap, ?_, ⟨hvl, .inr ⟨g, cap, cur, rfl, hb0, hh, by omega, hc2, hc3, ?_⟩⟩, rfl⟩
   ·have b1 := run_sliceBound (P := P) w k' m cap .sliceAcap (by omega) (by omega)
    have hadd : (⟨g, 0, none⟩ : Addr).add (0 * i.size) = ⟨g, 0, none⟩ := by rw [Nat.zero_mul]; unfold Addr.add; split <;> simp_all
    simp only [execOp, hop, e3, hzr, Option.map_some, Option.map_none, Instr.sliceAt, Sem.run_bind, run_underlying hu, Result.andThen, Instr.slice, Instr.sliceBounds, if_true, Sem.run_pure, b1, Option.isSome_none, Bool.false_eq_true, if_false, size_ok (f.tabOk _ _ hti), Nat.sub_zero, hadd];split <;> rfl
   ·rw [← hc4, List.take_take];congr 1;omega
 obtain ⟨v', hrun, hown', hob⟩ := key;unfold Oper.wp;rw [hrun];simp only [Oper.upon];refine hK _ _ h (β.set d v') ?_;rw [hdst];refine q.turnbox hb' (hal d (by simp)) rfl rfl ⟨rfl, Nat.le_refl _⟩ (Nat.le_refl _) (fun j hj hne => rfl) ?_ ?_ (some d) (fun t ht => by injection ht with ht; subst ht; exact ltOf hd) ?_ [b]
 ·refine ⟨v', vals.take m.toNat, Bt.set_same _ _ _, hown', ?_, fun x hx => hel x (List.mem_of_mem_take hx), fun g hg => hno g (by rw [← hob]; exact hg)⟩
  have hsp : xs.flatMap enc = (xs.take m.toNat).flatMap enc ++ (xs.drop m.toNat).flatMap enc := by rw [← List.flatMap_append, List.take_append_drop]
  have hfl : ∀ (ys : List α), (∀ y ∈ ys, (enc y).length = 1) → (ys.flatMap enc).length = ys.length := by
   intro ys
   induction ys with
   | nil => intro _; rfl
   | cons y ys ih => intro hy; rw [List.flatMap_cons, List.length_append, hy y (by simp), ih (fun z hz => hy z (by simp [hz])), List.length_cons]; omega
  rw [hsp] at hvr;have := hvr.split.1;rwa [hfl _ (fun x hx => hel x (List.mem_of_mem_take hx)), List.length_take, Nat.min_eq_left (by omega)] at this
 ·intro g hg;rw [blk_own hown'] at hg;left;rw [e1, e3, hbk, ← hob];exact hg
 ·simp only [Rep];refine ⟨Bt.set_same _ _ _, ?_⟩;rcases hown'.2 with ⟨h1, _⟩ | ⟨g, cap, cur, h1, _⟩
  ·exact ⟨_, _, _, h1⟩
  ·exact ⟨_, _, _, h1⟩
end
end Go.AL
/- large.digit: a digit of a quotient. -/
namespace Go.AL
theorem get_part {α : Type} {A M C : List α} {k j : Nat} (hk : k = A.length + j) (hj : j < M.length) : (A ++ M ++ C)[k]? = M[j]? := by
 subst hk;rw [List.append_assoc, List.getElem?_append_right (by omega), Nat.add_sub_cancel_left, List.getElem?_append_left hj]
theorem set_part {α : Type} {A M C : List α} {k j : Nat} {w : α} (hk : k = A.length + j) (hj : j < M.length) : (A ++ M ++ C).set k w = A ++ M.set j w ++ C := by
 subst hk;rw [List.append_assoc, List.set_append_right _ _ (by omega), Nat.add_sub_cancel_left, List.set_append_left _ _ hj, List.append_assoc]
structure DigOk (m : Nat) (mid v : List Int) : Prop where
  hm : mid.length = m + 3
  hv : v.length = m + 2
  wm : WOk mid
  wv : WOk v
  top : ∀ x, v[m + 1]? = some x → 2147483648 ≤ x
  lt : val mid < 4294967296 * val v
  big : m ≤ 50000
theorem DigOk.pos {m : Nat} {mid v : List Int} (d : DigOk m mid v) : BB (m + 1) ≤ val v ∧ val v < BB (m + 2) := by
 obtain ⟨x, hx⟩ : ∃ x, v[m + 1]? = some x := ⟨_, List.getElem?_eq_getElem (by have := d.hv; omega)⟩;have h1 := d.top x hx;have h2 := val_top hx;rw [show m + 1 + 1 = v.length by have := d.hv; omega, List.take_length] at h2;have h3 := val_bounds (k := m + 1) d.wv (by have := d.hv; omega);have h4 := val_lt d.wv;rw [d.hv] at h4;refine ⟨?_, h4⟩;have : BB (m + 1) * 1 ≤ BB (m + 1) * x := Int.mul_le_mul_of_nonneg_left (by omega) (Int.le_of_lt (BB_pos _));omega
theorem DigOk.facts {m : Nat} {mid v : List Int} (d : DigOk m mid v) {un u1 u2 v1 v2 : Int} (e0 : mid[m + 2]? = some un) (e1 : mid[m + 1]? = some u1) (e2 : mid[m]? = some u2) (f1 : v[m + 1]? = some v1) (f2 : v[m]? = some v2) :
  un ≤ v1 ∧ un * 4294967296 + u1 < v1 * 4294967296 + 4294967296 := by
 obtain ⟨a, b, c, e⟩ := dig_facts d.hm d.hv d.wm d.wv e0 e1 e2 f1 f2;have h := d.lt;have w2 := d.wv.get f2;have wu1 := d.wm.get e1;have wu2 := d.wm.get e2;have hB := BB_pos m
 have h1 : ((un * 4294967296 + u1) * 4294967296 + u2) * BB m < (4294967296 * (v1 * 4294967296 + v2 + 1)) * BB m := by
  have : 4294967296 * val v < 4294967296 * ((v1 * 4294967296 + v2 + 1) * BB m) := by omega
  have e3 : (4294967296 * (v1 * 4294967296 + v2 + 1)) * BB m = 4294967296 * ((v1 * 4294967296 + v2 + 1) * BB m) := by grind
  rw [e3]; omega
 have h2 := Int.lt_of_mul_lt_mul_right h1 (by omega);omega
theorem DigOk.down {m : Nat} {mid v : List Int} (d : DigOk m mid v) {un u1 u2 v1 v2 q r : Int} (e0 : mid[m + 2]? = some un) (e1 : mid[m + 1]? = some u1) (e2 : mid[m]? = some u2) (f1 : v[m + 1]? = some v1) (f2 : v[m]? = some v2)
  (hqr : q * v1 + r = un * 4294967296 + u1) (hr : 0 ≤ r) (hq : 0 ≤ q) (h : 4294967296 ≤ q ∨ r * 4294967296 + u2 < q * v2) : val mid / val v ≤ q - 1 := by
 obtain ⟨a, b, c, e⟩ := dig_facts d.hm d.hv d.wm d.wv e0 e1 e2 f1 f2;have hp := d.pos;have hV : 0 < val v := Int.lt_of_lt_of_le (BB_pos _) hp.1;obtain ⟨s1, s2, s3, s4⟩ := quo_spec hV (val_nonneg d.wm);have hQ : val mid / val v < 4294967296 := Int.ediv_lt_of_lt_mul hV d.lt;have w1 := d.top _ f1;have w2 := d.wv.get f2;exact kn_step (un := un) hqr hr (BB_pos m) a e s1 hQ hV (by omega) w2.1 hq h
theorem DigOk.stop {m : Nat} {mid v : List Int} (d : DigOk m mid v) {un u1 u2 v1 v2 q r : Int} (e0 : mid[m + 2]? = some un) (e1 : mid[m + 1]? = some u1) (e2 : mid[m]? = some u2) (f1 : v[m + 1]? = some v1) (f2 : v[m]? = some v2)
  (hqr : q * v1 + r = un * 4294967296 + u1) (hr : 0 ≤ r) (hq : 0 ≤ q) (h : (q < 4294967296 ∧ q * v2 ≤ r * 4294967296 + u2) ∨ 4294967296 ≤ r) : q < 4294967296 ∧ q ≤ val mid / val v + 1 := by
 obtain ⟨a, b, c, e⟩ := dig_facts d.hm d.hv d.wm d.wv e0 e1 e2 f1 f2;have hf := d.facts e0 e1 e2 f1 f2;have hp := d.pos;have hV : 0 < val v := Int.lt_of_lt_of_le (BB_pos _) hp.1;obtain ⟨s1, s2, s3, s4⟩ := quo_spec hV (val_nonneg d.wm);have w1 := d.top _ f1;have w2 := d.wv.get f2;have wu2 := d.wm.get e2
 have hVB : 4294967296 * BB m ≤ val v := by rw [← BB_succ]; exact hp.1
 have key : q < 4294967296 ∧ q * v2 ≤ r * 4294967296 + u2 := by
  rcases h with h | h
  ·exact h
  ·have hq2 : q < 4294967296 := by
    rcases Int.lt_or_le q 4294967296 with h1 | h1
    ·exact h1
    ·have : 4294967296 * v1 ≤ q * v1 := Int.mul_le_mul_of_nonneg_right h1 (by omega);omega
   have h3 : q * v2 ≤ 4294967295 * v2 := Int.mul_le_mul_of_nonneg_right (by omega) w2.1;exact ⟨hq2, by omega⟩
 exact ⟨key.1, kn_stop hqr (BB_pos m) b hVB c s2 hV hq key.1 key.2 s3⟩
end Go.AL
/- large.digit: the walk. -/
namespace Go.AL
theorem dig_back {Bm s h t : Int} (hB : 0 < Bm) (e : h + Bm * s = t + 4294967296 * Bm) (h0 : 0 ≤ h) (h1 : h < Bm) (t0 : 0 ≤ t) (t1 : t < Bm) : s = 4294967296 ∧ h = t := by
 have hs : s = 4294967296 := by
  rcases Int.lt_trichotomy s 4294967296 with k | k | k
  ·have : Bm * s ≤ Bm * 4294967295 := Int.mul_le_mul_of_nonneg_left (by omega) (by omega);omega
  ·exact k
  ·have : Bm * 4294967297 ≤ Bm * s := Int.mul_le_mul_of_nonneg_left (by omega) (by omega);omega
 exact ⟨hs, by rw [hs] at e; omega⟩
end Go.AL
namespace Go.Proofs.YtcaecieigoplbaaGreat
open Go.AL
set_option maxHeartbeats 1000000 in
theorem digit_ok (m : Nat) (A mid C v : List Int) (d : DigOk m mid v) (wA : WOk A) (wC : WOk C) (hA : A.length ≤ 100000) (hC : C.length ≤ 100000) : IoFn Tryz.prog 213 [.sub 900 A.length mid.length, aW v] [(900, .row 1 eW (A ++ mid ++ C) 62)] (.ret (.v (.int .u32 (val mid / val v)))) [(900, .row 1 eW (A ++ wdW mid.length (val mid % val v) ++ C) 62)] := by
 refine IoFn.of_body Tryz.func213 rfl Tryz.ntmps213 rfl rfl rfl ?_;have hm := d.hm;have hv := d.hv;have hbig := d.big;have wv := d.wv;have wW : WOk (A ++ mid ++ C) := (wA.append d.wm).append wC;obtain ⟨un, e0⟩ : ∃ x, mid[m + 2]? = some x := ⟨_, List.getElem?_eq_getElem (by omega)⟩;obtain ⟨u1, e1⟩ : ∃ x, mid[m + 1]? = some x := ⟨_, List.getElem?_eq_getElem (by omega)⟩;obtain ⟨u2, e2⟩ : ∃ x, mid[m]? = some x := ⟨_, List.getElem?_eq_getElem (by omega)⟩;obtain ⟨v1, f1⟩ : ∃ x, v[m + 1]? = some x := ⟨_, List.getElem?_eq_getElem (by omega)⟩;obtain ⟨v2, f2⟩ : ∃ x, v[m]? = some x := ⟨_, List.getElem?_eq_getElem (by omega)⟩;have b0 := d.wm.get e0;have b1 := d.wm.get e1;have b2 := d.wm.get e2;have c1 := d.wv.get f1;have c2 := d.wv.get f2;have c3 := d.top _ f1;have hf := d.facts e0 e1 e2 f1 f2;refine AWP.seqS ?_;(repeat' (first |refine qv ?_ |apply qn |apply qr));refine ⟨AWP.seqS ?_⟩;(repeat' (first |refine qv ?_ |apply qn |apply qr));refine ⟨?_⟩;refine AWP.seqJ (G := Unit) (fun _ => True) (fun _ => St.of [900] [(0, .sub 900 A.length mid.length), (1, aW v), (5, aN (m + 2)), (6, aU (un * 4294967296 + u1))] [(900, .row 1 eW (A ++ mid ++ C) 62)]) ?_ ?_
 ·(repeat' (first |refine qv ?_ |refine Fl.nil (fun _ => by kernel_rfl) ?_ |apply qr |refine qw ?_ |refine Fl.sel rfl rfl rfl rfl rfl rfl rfl rfl (by omega) (by omega) ?_ |(refine Fl.rldW rfl rfl rfl rfl rfl rfl rfl (fun _ => rfl) (fun _ => rfl) (by first | omega | (simp; omega)) (by assumption) ?_; intro _ _ _ _)|fail));rename_i x hx hx0 hx1 y hy hy0 hy1;rw [get_part (j := m + 2) (by omega) (by omega), e0] at hx;rw [get_part (j := m + 1) (by omega) (by omega), e1] at hy;injection hx with hx;injection hy with hy;subst hx hy;refine JoinOk.of () trivial ?_;refine Ent.of [] ?_ ?_ rfl rfl;(repeat' (first |exact True.intro |refine ⟨⟨AV.Le.refl _, rfl⟩, ?_⟩ |refine ⟨⟨⟨_, rfl, BLe.row rfl⟩, rfl⟩, ?_⟩ |refine ⟨⟨AV.Le.int ?_, rfl⟩, ?_⟩|fail))
  ·omega
  ·rw [p32];exact or_low hx0 hx1 hy0 hy1
 intro _ _
 have f1' : v[((m : Int) + 2 - 1).toNat]? = some v1 := by rw [show ((m : Int) + 2 - 1).toNat = m + 1 by omega]; exact f1
 have f2' : v[((m : Int) + 2 - 2).toNat]? = some v2 := by rw [show ((m : Int) + 2 - 2).toNat = m by omega]; exact f2
 refine AWP.seqJ (G := Unit) (fun _ => True) (fun _ => St.of [900] [(0, .sub 900 A.length mid.length), (1, aW v), (5, aN (m + 2)), (7, aU ((un * 4294967296 + u1) / v1)), (8, aU ((un * 4294967296 + u1) % v1))] [(900, .row 1 eW (A ++ mid ++ C) 62)]) ?_ ?_
 ·(repeat' (first |refine qv ?_ |refine Fl.nil (fun _ => by kernel_rfl) ?_ |apply qr |refine qw ?_ |refine Fl.w rfl rfl rfl ⟨by omega, by omega, by dsimp only [hiK]; omega⟩ ?_ |refine qK ?_|fail));refine JoinOk.of () trivial ?_;refine Ent.of [] ?_ ?_ rfl rfl;(repeat' (first |exact True.intro |refine ⟨⟨AV.Le.refl _, rfl⟩, ?_⟩ |refine ⟨⟨⟨_, rfl, BLe.row rfl⟩, rfl⟩, ?_⟩|fail))
 intro _ _;obtain ⟨q0, hq0⟩ : ∃ q, q = (un * 4294967296 + u1) / v1 := ⟨_, rfl⟩;obtain ⟨r0, hr0⟩ : ∃ r, r = (un * 4294967296 + u1) % v1 := ⟨_, rfl⟩;have hdm := Int.mul_ediv_add_emod (un * 4294967296 + u1) v1;have hm0 := Int.emod_nonneg (un * 4294967296 + u1) (show v1 ≠ 0 by omega);have hm1 := Int.emod_lt_of_pos (un * 4294967296 + u1) (show 0 < v1 by omega);have hqn : 0 ≤ (un * 4294967296 + u1) / v1 := Int.ediv_nonneg (by omega) (by omega)
 have hqb : (un * 4294967296 + u1) / v1 ≤ 8589934592 := by
  rcases Int.lt_or_le 8589934592 ((un * 4294967296 + u1) / v1) with h | h
  ·have : v1 * 8589934593 ≤ v1 * ((un * 4294967296 + u1) / v1) := Int.mul_le_mul_of_nonneg_left (by omega) (by omega);omega
  ·exact h
 rw [← hq0] at hdm hqn hqb;rw [← hr0] at hdm hm0 hm1;rw [Int.mul_comm] at hdm;have hp := d.pos;have hV : 0 < val v := Int.lt_of_lt_of_le (BB_pos _) hp.1;have hU := val_nonneg d.wm
 have hQ0 : val mid / val v ≤ q0 := by
  obtain ⟨a, b, c, e⟩ := dig_facts d.hm d.hv d.wm d.wv e0 e1 e2 f1 f2;obtain ⟨s1, s2, s3, s4⟩ := quo_spec hV hU;have hB := BB_pos m
  have t1 : val mid / val v * ((v1 * 4294967296) * BB m) ≤ val mid / val v * val v := Int.mul_le_mul_of_nonneg_left (by
   have : v1 * 4294967296 * BB m ≤ (v1 * 4294967296 + v2) * BB m := Int.mul_le_mul_of_nonneg_right (by omega) (by omega)
   omega) s3
  have t2 : ((un * 4294967296 + u1) * 4294967296 + u2 + 1) * BB m ≤ ((un * 4294967296 + u1 + 1) * 4294967296) * BB m := Int.mul_le_mul_of_nonneg_right (by omega) (by omega)
  have t3 : (val mid / val v * v1) * (4294967296 * BB m) < (un * 4294967296 + u1 + 1) * (4294967296 * BB m) := by
   have g1 : (val mid / val v * v1) * (4294967296 * BB m) = val mid / val v * ((v1 * 4294967296) * BB m) := by grind
   have g2 : (un * 4294967296 + u1 + 1) * (4294967296 * BB m) = ((un * 4294967296 + u1 + 1) * 4294967296) * BB m := by grind
   rw [g1, g2]; omega
  have t4 := Int.lt_of_mul_lt_mul_right t3 (by omega);rw [hq0];exact Int.le_ediv_of_mul_le (by omega) (by omega)
 refine AWP.seqJ (G := Int) (fun q => val mid / val v ≤ q ∧ q ≤ val mid / val v + 1 ∧ 0 ≤ q ∧ q < 4294967296) (fun q => St.of [900] [(0, .sub 900 A.length mid.length), (1, aW v), (5, aN (m + 2)), (7, aU q)] [(900, .row 1 eW (A ++ mid ++ C) 62)]) ?_ ?_
 ·refine AWP.block ?_;refine AWP.loop (G := Int × Int) (fun (q, r) => q * v1 + r = un * 4294967296 + u1 ∧ 0 ≤ r ∧ r < 4294967296 ∧ 0 ≤ q ∧ q ≤ 8589934592 ∧ val mid / val v ≤ q) (fun (q, r) => St.of [900] [(0, .sub 900 A.length mid.length), (1, aW v), (5, aN (m + 2)), (7, aU q), (8, aU r)] [(900, .row 1 eW (A ++ mid ++ C) 62)]) (fun (q, r) => q.toNat) (q0, r0) ⟨hdm, hm0, by omega, hqn, hqb, hQ0⟩ ?_ ?_
  ·refine Ent.of [] ?_ ?_ rfl rfl;(repeat' (first |exact True.intro |refine ⟨⟨AV.Le.refl _, rfl⟩, ?_⟩ |refine ⟨⟨⟨_, rfl, BLe.row rfl⟩, rfl⟩, ?_⟩ |refine ⟨⟨AV.Le.int ?_, rfl⟩, ?_⟩|fail))
   ·exact hq0.symm
   ·exact hr0.symm
  ·intro ⟨q, r⟩ ⟨g0, g1, g2, g3, g4, g5⟩;refine AWP.seq ?_;(repeat' (first |refine qv ?_ |apply qn |refine Fl.nil (fun _ => by kernel_rfl) ?_ |apply qs |apply qr |refine qw ?_ |refine Fl.skip rfl rfl ?_ |refine AWP.condT rfl ?_ |(refine AWP.condD rfl ?_ ?_ <;> intro _ <;> try (exfalso; omega)) |(refine AWP.condN rfl ?_ ?_ <;> intro _ <;> try (exfalso; omega)) |apply qb |apply qk |apply qx |refine qK ?_ |refine Fl.sel rfl rfl rfl rfl rfl rfl rfl rfl (by omega) (by omega) ?_ |(refine Fl.rldW rfl rfl rfl rfl rfl rfl rfl (fun _ => rfl) (fun _ => rfl) (by first | omega | (simp; omega)) (by assumption) ?_; intro _ _ _ _) |refine Fl.sumM rfl rfl rfl rfl rfl rfl ?_ |(refine Fl.splitN rfl rfl ?_ ?_ <;> intro _ <;> try (exfalso; omega))))
   ·rename_i h1 h2;rw [p32] at h1 h2;have hq := d.down e0 e1 e2 f1 f2 g0 g1 g3 (.inl (by omega));have hs := d.stop (q := q - 1) (r := r + v1) e0 e1 e2 f1 f2 (by rw [Int.sub_mul]; omega) (by omega) (by omega) (.inr (by omega));refine JoinOk.of (q - 1) ⟨hq, hs.2, by omega, hs.1⟩ ?_;refine Ent.of [] ?_ ?_ rfl rfl;(repeat' (first |exact True.intro |refine ⟨⟨AV.Le.refl _, rfl⟩, ?_⟩ |refine ⟨⟨⟨_, rfl, BLe.row rfl⟩, rfl⟩, ?_⟩ |refine ⟨⟨AV.Le.int ?_, rfl⟩, ?_⟩|fail));omega
   ·rename_i h1 h2;rw [p32] at h1 h2;have hq := d.down e0 e1 e2 f1 f2 g0 g1 g3 (.inl (by omega));refine LoopEnd.of (q - 1, r + v1) ⟨by rw [Int.sub_mul]; omega, by omega, by omega, by omega, by omega, hq⟩ (by simp only; omega) ?_;refine Ent.of [] ?_ ?_ rfl rfl;(repeat' (first |exact True.intro |refine ⟨⟨AV.Le.refl _, rfl⟩, ?_⟩ |refine ⟨⟨⟨_, rfl, BLe.row rfl⟩, rfl⟩, ?_⟩ |refine ⟨⟨AV.Le.int ?_, rfl⟩, ?_⟩|fail));omega
   ·rename_i h1 x hx hx0 hx1 h3 h2;rw [p32] at h1 h2 h3;rw [get_part (j := m) (by omega) (by omega), e2] at hx;injection hx with hx;subst hx;rw [or_low g1 g2 hx0 hx1] at h3;have hqv : 0 ≤ q * v2 := Int.mul_nonneg g3 c2.1;have hqv2 : q * v2 ≤ 4294967295 * v2 := Int.mul_le_mul_of_nonneg_right (by omega) c2.1;have hq := d.down e0 e1 e2 f1 f2 g0 g1 g3 (.inr (by omega));have hQ := (quo_spec hV hU).2.2.1;have hs := d.stop (q := q - 1) (r := r + v1) e0 e1 e2 f1 f2 (by rw [Int.sub_mul]; omega) (by omega) (by omega) (.inr (by omega));refine JoinOk.of (q - 1) ⟨hq, hs.2, by omega, hs.1⟩ ?_;refine Ent.of [] ?_ ?_ rfl rfl;(repeat' (first |exact True.intro |refine ⟨⟨AV.Le.refl _, rfl⟩, ?_⟩ |refine ⟨⟨⟨_, rfl, BLe.row rfl⟩, rfl⟩, ?_⟩ |refine ⟨⟨AV.Le.int ?_, rfl⟩, ?_⟩|fail));omega
   ·rename_i h1 x hx hx0 hx1 h3 h2;rw [p32] at h1 h2 h3;rw [get_part (j := m) (by omega) (by omega), e2] at hx;injection hx with hx;subst hx;rw [or_low g1 g2 hx0 hx1] at h3;have hqv : 0 ≤ q * v2 := Int.mul_nonneg g3 c2.1;have hqv2 : q * v2 ≤ 4294967295 * v2 := Int.mul_le_mul_of_nonneg_right (by omega) c2.1;have hq := d.down e0 e1 e2 f1 f2 g0 g1 g3 (.inr (by omega));have hQ := (quo_spec hV hU).2.2.1;refine LoopEnd.of (q - 1, r + v1) ⟨by rw [Int.sub_mul]; omega, by omega, by omega, by omega, by omega, hq⟩ (by simp only; omega) ?_;refine Ent.of [] ?_ ?_ rfl rfl;(repeat' (first |exact True.intro |refine ⟨⟨AV.Le.refl _, rfl⟩, ?_⟩ |refine ⟨⟨⟨_, rfl, BLe.row rfl⟩, rfl⟩, ?_⟩ |refine ⟨⟨AV.Le.int ?_, rfl⟩, ?_⟩|fail));omega
   ·rename_i h1 x hx hx0 hx1 h3;rw [p32] at h1 h3;rw [get_part (j := m) (by omega) (by omega), e2] at hx;injection hx with hx;subst hx;rw [or_low g1 g2 hx0 hx1] at h3;have hqv : 0 ≤ q * v2 := Int.mul_nonneg g3 c2.1;have hqv2 : q * v2 ≤ 4294967295 * v2 := Int.mul_le_mul_of_nonneg_right (by omega) c2.1;have hs := d.stop (q := q) (r := r) e0 e1 e2 f1 f2 g0 g1 g3 (.inl ⟨by omega, by omega⟩);refine JoinOk.of q ⟨g5, hs.2, g3, hs.1⟩ ?_;refine Ent.of [] ?_ ?_ rfl rfl;(repeat' (first |exact True.intro |refine ⟨⟨AV.Le.refl _, rfl⟩, ?_⟩ |refine ⟨⟨⟨_, rfl, BLe.row rfl⟩, rfl⟩, ?_⟩|fail))
 ·intro q ⟨g0, g1, g2, g3⟩;refine AWP.seqS ?_;(repeat' (first |refine qv ?_ |apply qn |apply qr));refine ⟨?_⟩;refine AWP.seqJ (G := List Int × Int) (fun (lo, b) => lo.length = m + 2 ∧ WOk lo ∧ 0 ≤ b ∧ b < 4294967296 ∧ val lo = val (mid.take (m + 2)) - q * val v + b * BB (m + 2)) (fun (lo, b) => St.of [900] [(0, .sub 900 A.length mid.length), (1, aW v), (5, aN (m + 2)), (7, aU q), (9, aU b)] [(900, .row 1 eW (A ++ (lo ++ mid.drop lo.length) ++ C) 62)]) ?_ ?_
  ·(repeat' (first |refine qv ?_ |apply qn |apply qs |apply qr |apply qb));refine AWP.loop (G := List Int × Int) (fun (lo, b) => lo.length ≤ m + 2 ∧ WOk lo ∧ 0 ≤ b ∧ b < 4294967296 ∧ val lo = val (mid.take lo.length) - q * val (v.take lo.length) + b * BB lo.length) (fun (lo, b) => St.of [900] [(0, .sub 900 A.length mid.length), (1, aW v), (5, aN (m + 2)), (7, aU q), (9, aU b), (85, aW v), (86, aN v.length), (87, aN lo.length)] [(900, .row 1 eW (A ++ (lo ++ mid.drop lo.length) ++ C) 62)]) (fun (lo, b) => m + 2 - lo.length) ([], 0) ⟨by simp, WOk.nil, by omega, by omega, by simp [val]⟩ ?_ ?_
   ·refine Ent.of [] ?_ ?_ rfl rfl;(repeat' (first |exact True.intro |refine ⟨⟨AV.Le.refl _, rfl⟩, ?_⟩ |refine ⟨⟨⟨_, rfl, BLe.row rfl⟩, rfl⟩, ?_⟩|fail))
   ·intro ⟨lo, b⟩ ⟨k0, k1, k2, k3, k4⟩;have hW2 : WOk (A ++ (lo ++ mid.drop lo.length) ++ C) := (wA.append (k1.append (d.wm.drop _))).append wC
    have hml : (lo ++ mid.drop lo.length).length = mid.length := by rw [List.length_append, List.length_drop]; omega
    (repeat' (first |refine qv ?_ |apply qn |apply qs |apply qr |refine qw ?_ |(refine Fl.mulW rfl rfl rfl rfl rfl (by omega) (by omega) (by omega) (by omega) ?_; intro _ _) |(refine AWP.condD rfl ?_ ?_ <;> intro _ <;> try (exfalso; omega)) |apply qb |apply qk |apply qx |(refine Fl.elW rfl rfl rfl rfl rfl rfl rfl rfl (by omega) (by omega) (by assumption) ?_; intro _ _ _ _) |refine Fl.sel rfl rfl rfl rfl rfl rfl rfl rfl (by omega) (by omega) ?_ |(refine Fl.rldW rfl rfl rfl rfl rfl rfl rfl (fun _ => rfl) (fun _ => rfl) (by first | omega | (simp; omega)) (by assumption) ?_; intro _ _ _ _) |refine Fl.rst rfl rfl rfl rfl rfl rfl rfl rfl rfl rfl rfl (LeL.refl _) rfl (by first | omega | (simp; omega)) ?_ |refine Fl.sumM rfl rfl rfl rfl rfl rfl ?_))
    ·rename_i hi x hx hx0 hx1 p0 p1 y hy hy0 hy1;rw [Int.toNat_natCast] at hx;rw [get_part (j := lo.length) (by omega) (by omega), get_drop rfl] at hy;obtain ⟨w, hw⟩ : ∃ w, w = (y - (q * x + b) % 4294967296) % 4294967296 := ⟨_, rfl⟩;obtain ⟨b', hb'⟩ : ∃ b', b' = (q * x + b) / 4294967296 + (y - (q * x + b) % 4294967296) % 18446744073709551616 / 9223372036854775808 := ⟨_, rfl⟩;have hst := sub_step (w := w) (b' := b') rfl hy hx k4 (by omega);refine LoopEnd.of (lo ++ [w], b') ⟨by simp; omega, k1.append (WOk.cons (by omega) (by omega) WOk.nil), by omega, by omega, by rw [List.length_append]; exact hst⟩ (by simp only [List.length_append, List.length_cons, List.length_nil]; omega) ?_;refine Ent.of [] ?_ ?_ rfl rfl;(repeat' (first |exact True.intro |refine ⟨⟨AV.Le.refl _, rfl⟩, ?_⟩ |refine ⟨⟨⟨_, rfl, BLe.row ?_⟩, rfl⟩, ?_⟩ |refine ⟨⟨AV.Le.int ?_, rfl⟩, ?_⟩|fail))
     ·rw [p32, p63, bitN_and32 (by omega)];omega
     ·simp
     ·rw [show (lo ++ [w]).length = lo.length + 1 by simp];refine (set_part (j := lo.length) (by omega) (by omega)).trans (congrArg (fun M => A ++ M ++ C) (set_drop (w' := w) rfl (by omega) ?_));rw [bitN_and32 (by omega)];omega
    ·have hl : lo.length = m + 2 := by omega
     refine JoinOk.of (lo, b) ⟨hl, k1, k2, k3, ?_⟩ ?_
     ·rw [k4, hl, show v.take (m + 2) = v by rw [← hv, List.take_length]]
     ·refine Ent.of [] ?_ ?_ rfl rfl;(repeat' (first |exact True.intro |refine ⟨⟨AV.Le.refl _, rfl⟩, ?_⟩ |refine ⟨⟨⟨_, rfl, BLe.row rfl⟩, rfl⟩, ?_⟩|fail))
  ·intro ⟨lo, b⟩ ⟨k0, k1, k2, k3, k4⟩;have hW2 : WOk (A ++ (lo ++ mid.drop lo.length) ++ C) := (wA.append (k1.append (d.wm.drop _))).append wC
   have hml : (lo ++ mid.drop lo.length).length = mid.length := by rw [List.length_append, List.length_drop]; omega
   have hun : (A ++ (lo ++ mid.drop lo.length) ++ C)[A.length + (m + 2)]? = some un := by rw [get_part rfl (by omega), ← k0, get_drop rfl, k0, e0]
   obtain ⟨y, hy⟩ : ∃ y, y = (un - b) % 18446744073709551616 := ⟨_, rfl⟩;obtain ⟨w, hw⟩ : ∃ w, w = (un - b) % 4294967296 := ⟨_, rfl⟩;obtain ⟨b', hb'⟩ : ∃ b', b' = y / 9223372036854775808 := ⟨_, rfl⟩;refine AWP.seqJ (G := Unit) (fun _ => True) (fun _ => St.of [900] [(0, .sub 900 A.length mid.length), (1, aW v), (5, aN (m + 2)), (7, aU q), (14, aU y)] [(900, .row 1 eW (A ++ (lo ++ mid.drop lo.length) ++ C) 62)]) ?_ ?_
   ·(repeat' (first |refine qv ?_ |apply qn |apply qr |refine qw ?_ |refine Fl.sel rfl rfl rfl rfl rfl rfl rfl rfl (by omega) (by omega) ?_ |(refine Fl.rldW rfl rfl rfl rfl rfl rfl rfl (fun _ => rfl) (fun _ => rfl) (by first | omega | (simp; omega)) (by assumption) ?_; intro _ _ _ _) |refine Fl.sumM rfl rfl rfl rfl rfl rfl ?_));rename_i x hx hx0 hx1;rw [show ((m : Int) + 2).toNat = m + 2 by omega, hun] at hx;injection hx with hx;subst hx;refine JoinOk.of () trivial ?_;refine Ent.of [] ?_ ?_ rfl rfl;(repeat' (first |exact True.intro |refine ⟨⟨AV.Le.refl _, rfl⟩, ?_⟩ |refine ⟨⟨⟨_, rfl, BLe.row rfl⟩, rfl⟩, ?_⟩ |refine ⟨⟨AV.Le.int ?_, rfl⟩, ?_⟩|fail));exact hy.symm
   intro _ _;refine AWP.seqJ (G := Unit) (fun _ => True) (fun _ => St.of [900] [(0, .sub 900 A.length mid.length), (1, aW v), (5, aN (m + 2)), (7, aU q), (14, aU y)] [(900, .row 1 eW (A ++ (lo ++ [w]) ++ C) 62)]) ?_ ?_
   ·(repeat' (first |refine qv ?_ |apply qn |apply qr |refine Fl.sel rfl rfl rfl rfl rfl rfl rfl rfl (by omega) (by omega) ?_ |refine Fl.rst rfl rfl rfl rfl rfl rfl rfl rfl rfl rfl rfl (LeL.refl _) rfl (by first | omega | (simp; omega)) ?_|fail));refine JoinOk.of () trivial ?_;refine Ent.of [] ?_ ?_ rfl rfl;(repeat' (first |exact True.intro |refine ⟨⟨AV.Le.refl _, rfl⟩, ?_⟩ |refine ⟨⟨⟨_, rfl, BLe.row ?_⟩, rfl⟩, ?_⟩|fail));rw [show ((m : Int) + 2).toNat = m + 2 by omega];refine (set_part (j := lo.length) (by omega) (by omega)).trans (congrArg (fun M => A ++ M ++ C) ((set_drop (w' := w) rfl (by omega) ?_).trans ?_))
    ·omega
    ·rw [List.drop_eq_nil_of_le (by omega), List.append_nil]
   intro _ _
   have hU3 : val mid = val (mid.take (m + 2)) + BB (m + 2) * un := by
    have := val_top e0;rw [show m + 2 + 1 = mid.length by omega, List.take_length] at this;exact this
   obtain ⟨β, hβ⟩ : ∃ β : Int, w = un - b + β * 4294967296 ∧ ((β = 0 ∧ y / 9223372036854775808 = 0) ∨ (β = 1 ∧ y / 9223372036854775808 ≠ 0)) := by
    rcases Int.lt_or_le (un - b) 0 with h | h
    ·exact ⟨1, by omega, .inr ⟨rfl, by omega⟩⟩
    ·exact ⟨0, by omega, .inl ⟨rfl, by omega⟩⟩
   have hL : val (lo ++ [w]) = val mid - q * val v + β * BB (m + 3) := by
    rw [val_snoc, k0, k4, hU3, hβ.1, show m + 3 = m + 2 + 1 from rfl, BB_succ (m + 2)];grind
   have wL : WOk (lo ++ [w]) := k1.append (WOk.cons (by omega) (by omega) WOk.nil)
   have hLl : (lo ++ [w]).length = m + 3 := by simp; omega
   have hLw : lo ++ [w] = wdW mid.length (val (lo ++ [w])) := by
    have := wdW_eq wL;rw [hLl, ← hm] at this;exact this
   refine AWP.seq ?_;(repeat' (first |refine qv ?_ |apply qn |apply qs |apply qr |refine qw ?_ |(refine AWP.condD rfl ?_ ?_ <;> intro _ <;> try (exfalso; omega)) |apply qb |apply qk |apply qt))
   ·rename_i h1;rw [p63] at h1
    have hβ0 : β = 0 := by omega
    rw [hβ0, Int.zero_mul, Int.add_zero] at hL;have hn := val_nonneg wL;rw [hL] at hn;obtain ⟨r1, r2⟩ := dig_end0 hV hU g0 g1 hn;rw [hL, r2] at hLw;exact ⟨⟨[], _, _, Ent.refl _ _ _, rfl, AV.Le.int (by omega), rfl, ⟨⟨⟨_, rfl, BLe.row (by rw [hLw])⟩, rfl⟩, trivial⟩, rfl, rfl⟩⟩
   ·rename_i h1;rw [p63] at h1
    have hβ1 : β = 1 := by omega
    rw [hβ1, Int.one_mul] at hL;have hlt := val_lt wL;rw [hLl, hL] at hlt;obtain ⟨r1, r2⟩ := dig_end1 hV hU g0 g1 (by omega)
    have hLi : (lo ++ [w])[m + 2]? = some w := by rw [List.getElem?_append_right (by omega), k0]; simp
    generalize lo ++ [w] = L at *
    refine AWP.loop (G := List Int × Int) (fun (hi, c) => hi.length ≤ m + 2 ∧ WOk hi ∧ 0 ≤ c ∧ c ≤ 1 ∧ val hi + c * BB hi.length = val (L.take hi.length) + val (v.take hi.length)) (fun (hi, c) => St.of [900] [(0, .sub 900 A.length mid.length), (1, aW v), (5, aN (m + 2)), (7, aU q), (15, aU c), (134, aW v), (135, aN v.length), (136, aN hi.length)] [(900, .row 1 eW (A ++ (hi ++ L.drop hi.length) ++ C) 62)]) (fun (hi, c) => m + 2 - hi.length) ([], 0) ⟨by simp, WOk.nil, by omega, by omega, by simp [val]⟩ ?_ ?_
    ·refine Ent.of [] ?_ ?_ rfl rfl;(repeat' (first |exact True.intro |refine ⟨⟨AV.Le.refl _, rfl⟩, ?_⟩ |refine ⟨⟨⟨_, rfl, BLe.row rfl⟩, rfl⟩, ?_⟩|fail))
    ·intro ⟨hi, c⟩ ⟨j0, j1, j2, j3, j4⟩;have hW3 : WOk (A ++ (hi ++ L.drop hi.length) ++ C) := (wA.append (j1.append (wL.drop _))).append wC
     have hml3 : (hi ++ L.drop hi.length).length = mid.length := by rw [List.length_append, List.length_drop]; omega
     (repeat' (first |refine qv ?_ |apply qn |apply qs |apply qr |refine qw ?_ |(refine AWP.condD rfl ?_ ?_ <;> intro _ <;> try (exfalso; omega)) |apply qb |apply qk |apply qx |apply qt |(refine Fl.elW rfl rfl rfl rfl rfl rfl rfl rfl (by omega) (by omega) (by assumption) ?_; intro _ _ _ _) |refine Fl.sel rfl rfl rfl rfl rfl rfl rfl rfl (by omega) (by omega) ?_ |(refine Fl.rldW rfl rfl rfl rfl rfl rfl rfl (fun _ => rfl) (fun _ => rfl) (by first | omega | (simp; omega)) (by assumption) ?_; intro _ _ _ _) |refine Fl.rst rfl rfl rfl rfl rfl rfl rfl rfl rfl rfl rfl (LeL.refl _) rfl (by first | omega | (simp; omega)) ?_ |refine Fl.sumM rfl rfl rfl rfl rfl rfl ?_))
     ·rename_i hi0 x hx hx0 hx1 z hz hz0 hz1;rw [Int.toNat_natCast] at hx;rw [get_part (j := hi.length) (by omega) (by omega), get_drop rfl] at hz;obtain ⟨s, hs⟩ : ∃ s, s = z + x + c := ⟨_, rfl⟩;have hst := add_step (w := s % 4294967296) (c' := s / 4294967296) rfl hz hx j4 (by omega);refine LoopEnd.of (hi ++ [s % 4294967296], s / 4294967296) ⟨by simp; omega, j1.append (WOk.cons (by omega) (by omega) WOk.nil), by omega, by omega, by rw [List.length_append]; exact hst⟩ (by simp only [List.length_append, List.length_cons, List.length_nil]; omega) ?_;refine Ent.of [] ?_ ?_ rfl rfl;(repeat' (first |exact True.intro |refine ⟨⟨AV.Le.refl _, rfl⟩, ?_⟩ |refine ⟨⟨⟨_, rfl, BLe.row ?_⟩, rfl⟩, ?_⟩ |refine ⟨⟨AV.Le.int ?_, rfl⟩, ?_⟩|fail))
      ·rw [p32];omega
      ·simp
      ·rw [show (hi ++ [s % 4294967296]).length = hi.length + 1 by simp];refine (set_part (j := hi.length) (by omega) (by omega)).trans (congrArg (fun M => A ++ M ++ C) (set_drop (w' := s % 4294967296) rfl (by omega) ?_));rw [hs];congr 1;omega
     ·rename_i hlt2 x hx hx0 hx1
      have hhl : hi.length = m + 2 := by omega
      have hx2 : (hi ++ L.drop hi.length)[hi.length]? = L[hi.length]? := get_drop rfl;rw [show ((m : Int) + 2).toNat = hi.length by omega, get_part (j := hi.length) rfl (by omega), hx2, hhl, hLi] at hx;injection hx with hx;subst hx
      have hLv : val L = val (L.take (m + 2)) + BB (m + 2) * w := by
       have := val_top hLi;rw [show m + 2 + 1 = L.length by omega, List.take_length] at this;exact this
      rw [hhl, show v.take (m + 2) = v by rw [← hv, List.take_length]] at j4;have hh0 := val_nonneg j1;have hh1 := val_lt j1;rw [hhl] at hh1;have ht0 := Int.emod_nonneg (val mid) (show val v ≠ 0 by omega);have ht1 := Int.emod_lt_of_pos (val mid) hV
      have hback := dig_back (s := w + c) (h := val hi) (t := val mid % val v) (BB_pos (m + 2)) (by
       rw [← BB_succ, Int.mul_add, Int.mul_comm _ c];show _ = _ + BB (m + 3)
       omega) hh0 hh1 ht0 (by omega)
      have wF : WOk (hi ++ [0]) := j1.append (WOk.cons (by omega) (by omega) WOk.nil);have hF := wdW_eq wF;have hQ := (quo_spec hV hU).2.2.1;rw [val_snoc, Int.mul_zero, Int.add_zero, hback.2, (by simp; omega : (hi ++ [(0 : Int)]).length = mid.length)] at hF;refine ⟨⟨[], _, _, Ent.refl _ _ _, rfl, AV.Le.int ?_, rfl, ⟨⟨⟨_, rfl, BLe.row ?_⟩, rfl⟩, trivial⟩, rfl, rfl⟩⟩
      ·omega
      ·rw [show ((m : Int) + 2).toNat = hi.length by omega, ← hF];refine (set_part (j := hi.length) rfl (by omega)).trans (congrArg (fun M => A ++ M ++ C) ((set_drop (w' := 0) rfl (by omega) ?_).trans ?_))
       ·omega
       ·rw [List.drop_eq_nil_of_le (by omega), List.append_nil]
end Go.Proofs.YtcaecieigoplbaaGreat
/- Division of long numbers: plain. -/
namespace Go.AL
theorem wdW_snoc0 : ∀ (n : Nat) (z : Int), 0 ≤ z → z < BB n → wdW (n + 1) z = wdW n z ++ [0]
 | 0, z, h0, h1 => by
  rw [BB_zero] at h1
  have : z = 0 := by omega
  subst this; rfl
 | n + 1, z, h0, h1 => by
  rw [BB_succ] at h1;have ih := wdW_snoc0 n (z / 4294967296) (by omega) (by omega);show z % 4294967296 :: wdW (n + 1) (z / 4294967296) = z % 4294967296 :: wdW n (z / 4294967296) ++ [0];rw [ih]; rfl
structure DivInv (U : List Int) (V : Int) (n N i : Nat) (os : List Int) (ρ : Int) : Prop where
  hi : i ≤ N
  hl : os.length + i = N
  wo : WOk os
  r0 : 0 ≤ ρ
  r1 : ρ < V
  hv : val (U.drop i) = val os * V + ρ
theorem DivInv.step {U os : List Int} {V ρ : Int} {n N i : Nat} {u : Int} (d : DivInv U V n N (i + 1) os ρ) (hV : 0 < V) (hu : U[i]? = some u) (wu : WOk U) :
  DivInv U V n N i (val (u :: wdW n ρ) / V :: os) (val (u :: wdW n ρ) % V) ∨ ¬ (V < BB n) := by
 rcases Classical.em (V < BB n) with hn | hn
 ·left;have w := wu.get hu;have d0 := d.r0;have d1 := d.r1
  have hm : val (u :: wdW n ρ) = u + 4294967296 * ρ := by
   rw [val, val_wdW n ρ d0 (by omega)]
  rw [hm]
  have hlt : u + 4294967296 * ρ < 4294967296 * V := by omega
  have hdiv := Int.mul_ediv_add_emod (u + 4294967296 * ρ) V;have hm0 := Int.emod_nonneg (u + 4294967296 * ρ) (show V ≠ 0 by omega);have hm1 := Int.emod_lt_of_pos (u + 4294967296 * ρ) hV;refine ⟨by have := d.hi; omega, by have := d.hl; simp; omega, ?_, hm0, hm1, ?_⟩
  ·refine WOk.cons (Int.ediv_nonneg (by omega) (by omega)) (Int.ediv_lt_of_lt_mul hV hlt) d.wo
  ·have hd : U.drop i = u :: U.drop (i + 1) := by
    have hi := List.getElem?_eq_some_iff.1 hu;rw [List.drop_eq_getElem_cons hi.1, hi.2]
   rw [hd, val, d.hv, val]
   generalize (u + 4294967296 * ρ) / V = q at *
   generalize (u + 4294967296 * ρ) % V = r at *
   grind
 ·exact .inr hn
theorem norm_facts {y w : Int} {n k : Nat} (hy : 0 < y) (hn : (toW y).length = n + 1) (hw : (toW y)[n]? = some w) (hk : k = 32 - lenB w.toNat) :
  k < 32 ∧ lenB w.toNat + k = 32 ∧ (toW (y * 2 ^ k)).length = n + 1 ∧ (∀ t, (toW (y * 2 ^ k))[n]? = some t → 2147483648 ≤ t) ∧ BB n * 2 ^ k ≤ y * 2 ^ k := by
 have wy := toW_ok y;have ww := wy.get hw;have hsy := val_toW (show 0 ≤ y by omega)
 have hwn : w ≠ 0 := by
  have e : toW y = (toW y).take n ++ [w] := by
   conv => lhs; rw [← List.take_length (l := toW y), hn, take_top hw]
  have := (NW.toW y);rw [e] at this;exact this.last
 obtain ⟨W, hW⟩ : ∃ W : Nat, w = W := ⟨w.toNat, by omega⟩;subst hW;rw [Int.toNat_natCast] at hk ⊢;have hl := lenB_spec (n := W) (by omega);have hl2 := lenB_le (n := W) (k := 32) (by omega)
 have hk1 : lenB W + k = 32 := by omega
 have h2 : (0 : Int) < 2 ^ k := Int.pow_pos (by omega)
 have hv : y = val ((toW y).take n) + BB n * W := by
  have := val_top hw;rw [← hn, List.take_length, hsy] at this;exact this
 have hb := val_bounds (k := n) wy (by omega);have hB := BB_pos n
 have p1 : (W : Int) * 2 ^ k < 4294967296 ∧ ((W : Int) + 1) * 2 ^ k ≤ 4294967296 := by
  have a : W + 1 ≤ 2 ^ lenB W := hl.2.2;have b : (W + 1) * 2 ^ k ≤ 2 ^ lenB W * 2 ^ k := Nat.mul_le_mul_right _ a;rw [← Nat.pow_add, hk1] at b
  have c : (((W + 1) * 2 ^ k : Nat) : Int) ≤ ((2 ^ 32 : Nat) : Int) := by exact_mod_cast b
  rw [Int.natCast_mul, Int.natCast_pow] at c
  have e : (((W + 1 : Nat)) : Int) = (W : Int) + 1 := by omega
  rw [e] at c;have c2 : ((W : Int) + 1) * 2 ^ k ≤ 4294967296 := c;refine ⟨?_, c2⟩;rw [Int.add_mul] at c2; omega
 have p2 : 2147483648 ≤ (W : Int) * 2 ^ k := by
  have a : 2 ^ (lenB W - 1) ≤ W := hl.2.1;have b : 2 ^ (lenB W - 1) * 2 ^ k ≤ W * 2 ^ k := Nat.mul_le_mul_right _ a;rw [← Nat.pow_add, show lenB W - 1 + k = 31 by omega] at b
  have c : ((2 ^ 31 : Nat) : Int) ≤ ((W * 2 ^ k : Nat) : Int) := by exact_mod_cast b
  rw [Int.natCast_mul, Int.natCast_pow] at c;exact c
 have hlt : y * 2 ^ k < BB (n + 1) := by
  have a : y * 2 ^ k < (BB n * ((W : Int) + 1)) * 2 ^ k := Int.mul_lt_mul_of_pos_right (by rw [Int.mul_add]; omega) h2
  have b : (BB n * ((W : Int) + 1)) * 2 ^ k = BB n * (((W : Int) + 1) * 2 ^ k) := by grind
  have c : BB n * (((W : Int) + 1) * 2 ^ k) ≤ BB n * 4294967296 := Int.mul_le_mul_of_nonneg_left p1.2 (by omega);rw [BB_succ]; omega
 have hge : BB n * 2147483648 ≤ y * 2 ^ k := by
  have a : BB n * W * 2 ^ k ≤ y * 2 ^ k := Int.mul_le_mul_of_nonneg_right (by omega) (by omega)
  have b : BB n * W * 2 ^ k = BB n * (W * 2 ^ k) := by grind
  have c : BB n * 2147483648 ≤ BB n * (W * 2 ^ k) := Int.mul_le_mul_of_nonneg_left p2 (by omega);omega
 have hlen : (toW (y * 2 ^ k)).length = n + 1 := by
  have a := (toW_len_le (z := y * 2 ^ k) (by omega) (n + 1)).2 hlt;rcases Nat.lt_or_ge (toW (y * 2 ^ k)).length (n + 1) with h | h
  ·have := (toW_len_le (z := y * 2 ^ k) (by omega) n).1 (by omega);omega
  ·omega
 refine ⟨by omega, hk1, hlen, fun t ht => ?_, Int.mul_le_mul_of_nonneg_right ?_ (by omega)⟩
 ·have wz := toW_ok (y * 2 ^ k);have hz := val_top ht;rw [← hlen, List.take_length, val_toW (by omega)] at hz;have hb2 := val_bounds (k := n) wz (by omega);rcases Int.lt_or_le t 2147483648 with h | h
  ·have : BB n * t ≤ BB n * 2147483647 := Int.mul_le_mul_of_nonneg_left (by omega) (by omega);omega
  ·exact h
 ·have : BB n * 1 ≤ BB n * W := Int.mul_le_mul_of_nonneg_left (by omega) (by omega);omega
theorem dend_facts {x : Int} {k : Nat} (hx : 0 < x) (hk : k < 32) :
  ((toW (x * 2 ^ k) ++ [0, 0]).take ((toW x).length + 1)).length = (toW x).length + 1 ∧ WOk ((toW (x * 2 ^ k) ++ [0, 0]).take ((toW x).length + 1)) ∧ val ((toW (x * 2 ^ k) ++ [0, 0]).take ((toW x).length + 1)) = x * 2 ^ k ∧ toW (x * 2 ^ k) ≠ [] ∧ (toW (x * 2 ^ k)).length ≤ (toW x).length + 1 := by
 have h2 : (0 : Int) < 2 ^ k := Int.pow_pos (by omega)
 have hp : (2 : Int) ^ k ≤ 4294967296 := by
  have : (2 : Int) ^ k ≤ 2 ^ 32 := pow_le_r (by omega) (by omega);rw [show (2 : Int) ^ 32 = 4294967296 from rfl] at this; exact this
 have hX : 0 < x * 2 ^ k := Int.mul_pos hx h2
 have hxX : x ≤ x * 2 ^ k := by
  have : x * 1 ≤ x * 2 ^ k := Int.mul_le_mul_of_nonneg_left (by omega) (by omega);omega
 obtain ⟨L, hL⟩ : ∃ L, L = (toW x).length := ⟨_, rfl⟩;rw [← hL];have hxl : x < BB L := (toW_len_le (by omega) L).1 (by omega)
 have hXl : x * 2 ^ k < BB (L + 1) := by
  have a : x * 2 ^ k < BB L * 2 ^ k := Int.mul_lt_mul_of_pos_right hxl h2;have b : BB L * 2 ^ k ≤ BB L * 4294967296 := Int.mul_le_mul_of_nonneg_left hp (Int.le_of_lt (BB_pos _));rw [BB_succ]; omega
 have hlen1 : (toW (x * 2 ^ k)).length ≤ L + 1 := (toW_len_le (by omega) _).2 hXl
 have hlen2 : L ≤ (toW (x * 2 ^ k)).length := by
  rcases Nat.lt_or_ge (toW (x * 2 ^ k)).length L with h | h
  ·have a := (toW_len_le (z := x * 2 ^ k) (by omega) (L - 1)).1 (by omega);have b := (toW_len_le (z := x) (by omega) (L - 1)).2 (by omega);omega
  ·exact h
 have wX := toW_ok (x * 2 ^ k);have hsX := val_toW (show 0 ≤ x * 2 ^ k by omega);have hne := toW_ne_nil hX
 generalize toW (x * 2 ^ k) = D at *
 have ww : WOk (D ++ [0, 0]) := wX.append (WOk.cons (by omega) (by omega) (WOk.cons (by omega) (by omega) WOk.nil));refine ⟨by simp; omega, ww.take _, ?_, hne, hlen1⟩;rw [List.take_append, List.take_of_length_le (by omega), val_append, hsX]
 have : val ([0, 0].take (L + 1 - D.length)) = 0 := by
  rcases (show L + 1 - D.length = 0 ∨ L + 1 - D.length = 1 by omega) with h | h <;> rw [h] <;> simp [val]
 rw [this]; omega
theorem div_shift {x y : Int} {k : Nat} (hy : 0 < y) (hx : 0 ≤ x) : x * 2 ^ k / (y * 2 ^ k) = x / y ∧ x * 2 ^ k % (y * 2 ^ k) / 2 ^ k = x % y := by
 have h2 : (0 : Int) < 2 ^ k := Int.pow_pos (by omega);refine ⟨Int.mul_ediv_mul_of_pos_left _ _ h2, ?_⟩;rw [Int.mul_comm x, Int.mul_comm y, Int.mul_emod_mul_of_pos _ _ h2, Int.mul_ediv_cancel_left _ (by omega)]
end Go.AL
/- large.divide: the walk. -/
namespace Go.Proofs.YtcaecieigoplbaaGreat
open Go.AL
theorem cloneRow_ok (l : List Int) (hl : l.length ≤ 100000) (hne : l ≠ []) : IoFn Tryz.prog 191 [aW l] [] (.ret (.row 900)) [(900, .row 1 eW l 62)] := by
 refine IoFn.of_body Tryz.func191 rfl Tryz.ntmps191 rfl rfl rfl ?_;refine AWP.seqS ?_;(repeat' (first |refine qv ?_ |apply qn |apply qr));refine ⟨AWP.seq (AWP.seq (AWP.nilTest rfl rfl rfl rfl rfl rfl rfl rfl rfl rfl ?_))⟩;intro b hb
 cases b with
 | true => exact absurd (hb rfl) hne
 | false =>
  (repeat' (first |apply qs |apply qr |refine AWP.condF rfl ?_ |apply qk));refine Fl.litrow rfl rfl rfl rfl rfl rfl rfl eW [] rfl rfl rfl rfl (by simp) (LeL.refl _) ?_;(repeat' (first |refine qv ?_|fail));refine qa (hby := (by dsimp only [List.length_nil]; omega)) (hm := (by simp; omega)) (r := ?_);(repeat' (first |refine qv ?_ |apply qn |apply qt));exact ⟨⟨[(900, 7)], _, _, Ent.refl _ _ _, rfl, AV.Le.refl _, rfl, ⟨⟨⟨_, rfl, BLe.row rfl⟩, rfl⟩, trivial⟩, rfl, rfl⟩⟩
set_option maxHeartbeats 1000000 in
theorem divide_ok (x y : Int) (hx : 0 ≤ x) (hy : 0 < y) (hxl : (toW x).length ≤ 40000) (hyl : (toW y).length ≤ 40000) : PureFn Tryz.prog 176 [aW (toW x), aW (toW y)] (.tup [aW (toW (x / y)), aW (toW (x % y))]) := by
 refine PureFn.of_body Tryz.func176 rfl Tryz.ntmps176 rfl rfl ?_;have hyne := toW_ne_nil hy;have hy0 : 0 < (toW y).length := List.length_pos_iff.2 hyne;have wy := toW_ok y;have hsy := val_toW (show 0 ≤ y by omega);refine AWP.seqS ?_;(repeat' (first |refine qv ?_ |apply qn |apply qr));refine ⟨AWP.seqS ?_⟩;(repeat' (first |refine qv ?_ |apply qs |apply qr));refine qc (compare_ok x y hx (by omega) (by omega) (by omega)) ?_;(repeat' (first |refine qv ?_ |apply qn |apply qs |apply qr |(refine AWP.condD rfl ?_ ?_ <;> intro _ <;> try (exfalso; omega)) |apply qk))
 ·rename_i h
  have hlt : x < y := by
   rcases Int.lt_or_le x y with h1 | h1
   ·exact h1
   ·rcases Int.lt_or_eq_of_le h1 with h2 | h2
    ·rw [cmpI_gt h2] at h; omega
    ·rw [cmpI_eq h2.symm] at h; omega
  refine qc (clone_ok (toW x) (by omega)) ?_;(repeat' (first |refine qv ?_ |apply qn |apply qt));refine RetOk.of rfl ?_;rw [Int.ediv_eq_zero_of_lt hx hlt, Int.emod_eq_of_lt hx hlt, toW_zero];exact AV.Le.tup (LeL.cons (AV.Le.nil 1 eW) (LeL.refl _))
 rename_i hcmp
 have hxy : y ≤ x := by
  rcases Int.lt_or_le x y with h1 | h1
  ·rw [cmpI_lt h1] at hcmp; omega
  ·exact h1
 refine ⟨AWP.seqS ?_⟩;(repeat' (first |refine qv ?_ |apply qn |apply qs |apply qr |(refine AWP.condD rfl ?_ ?_ <;> intro _ <;> try (exfalso; omega)) |apply qk |(refine Fl.elW rfl rfl rfl rfl rfl rfl rfl rfl (by omega) (by omega) (by assumption) ?_; intro _ _ _ _)|fail))
 ·rename_i h1 w hw hw0 hw1
  have hyw : y = w := by
   have := val_top hw;rw [show (0 : Int).toNat + 1 = (toW y).length by omega, List.take_length, hsy] at this;rw [this]; simp [val, BB_zero]
  refine qc (over_ok x w hx (by omega) (by omega) hw1) ?_;(repeat' (first |refine qv ?_ |apply qn |apply qs |apply qr));refine ql eW [x % w] ?_;skip;have hr0 := Int.emod_nonneg x (show w ≠ 0 by omega);have hr1 := Int.emod_lt_of_pos x (show 0 < w by omega);refine qc (trim_ok [x % w] (WOk.cons hr0 (by omega) WOk.nil) (by simp)) ?_;(repeat' (first |refine qv ?_ |apply qn |apply qt));refine RetOk.of rfl ?_;rw [hyw];refine AV.Le.tup (LeL.cons (AV.Le.refl _) (LeL.cons (AV.Le.of_eq ?_) LeL.nil));rw [show val [x % w] = x % w by simp [val]]
 rename_i hn1;refine ⟨AWP.seqS ?_⟩;(repeat' (first |refine qv ?_ |apply qr |refine qw ?_ |(refine Fl.elW rfl rfl rfl rfl rfl rfl rfl rfl (by omega) (by omega) (by assumption) ?_; intro _ _ _ _)|fail));rename_i w hw hw0 hw1;obtain ⟨m, hm⟩ : ∃ m, (toW y).length = m + 2 := ⟨(toW y).length - 2, by omega⟩;rw [show ((((toW y).length : Nat) : Int) - 1).toNat = m + 1 by omega] at hw;obtain ⟨k, hk⟩ : ∃ k, k = 32 - lenB w.toNat := ⟨_, rfl⟩;obtain ⟨n1, n2, n3, n4, n5⟩ := norm_facts hy hm hw hk;obtain ⟨d1, d2, d3, d4, d5⟩ := dend_facts (x := x) (k := k) (by omega) n1;have h2 : (0 : Int) < 2 ^ k := Int.pow_pos (by omega);have hV : 0 < y * 2 ^ k := Int.mul_pos hy h2;have hX : 0 ≤ x * 2 ^ k := Int.mul_nonneg hx (by omega);refine Fl.call rfl (LeadingZeros32_ok w.toNat (by omega)) rfl rfl rfl (LeL.cons (AV.Le.int (by omega)) LeL.nil) ?_;(repeat' (first |refine qv ?_ |apply qn));refine ⟨AWP.seqS ?_⟩;(repeat' (first |refine qv ?_ |apply qr));refine Fl.call rfl (left_ok y k k (by omega) (by omega) n1 (by omega) (by omega)) rfl rfl rfl (LeL.cons (AV.Le.refl _) (LeL.cons (AV.Le.int (by omega)) LeL.nil)) ?_;(repeat' (first |refine qv ?_ |apply qn))
 obtain ⟨N, hN⟩ : ∃ N, N + (m + 1) = (toW x).length := ⟨(toW x).length - (m + 1), by
  have : (toW y).length ≤ (toW x).length := by
   rcases Nat.lt_or_ge (toW x).length (toW y).length with h | h
   ·have := toW_len_lt hx (by omega) h; omega
   ·exact h
  omega⟩
 have d6 : (toW x).length + 1 ≤ (toW (x * 2 ^ k)).length + 2 := by
  have := d1;rw [List.length_take, List.length_append] at this;dsimp only [List.length_cons, List.length_nil] at this;omega
 obtain ⟨U, hU⟩ : ∃ U, U = (toW (x * 2 ^ k) ++ [0, 0]).take ((toW x).length + 1) := ⟨_, rfl⟩;refine ⟨AWP.seqJ (G := Unit) (fun _ => True) (fun _ => St.of [] [(8, aN k), (9, aW (toW (y * 2 ^ k))), (10, .row 56)] [(56, .row 1 eW U 62)]) ?_ ?_⟩
 ·(repeat' (first |refine qv ?_ |apply qr));refine Fl.call rfl (left_ok x k k (by omega) (by omega) n1 (by omega) (by omega)) rfl rfl rfl (LeL.cons (AV.Le.refl _) (LeL.cons (AV.Le.int (by omega)) LeL.nil)) ?_;skip;refine Fl.io rfl [(900, 50)] (cloneRow_ok (toW (x * 2 ^ k)) (by omega) d4) rfl rfl (LeL.refl _) rfl trivial rfl rfl rfl rfl rfl ?_;skip;refine ql eW [0, 0] ?_;skip;refine qa (hby := (by dsimp only [List.length_nil, List.length_cons]; omega)) (hm := (by dsimp only [List.length_nil, List.length_cons]; omega)) (r := ?_);(repeat' (first |refine qv ?_ |refine qw ?_|fail));refine Fl.cutR rfl rfl rfl rfl rfl rfl rfl (by omega) (by rw [List.length_append]; dsimp only [List.length_cons, List.length_nil]; omega) rfl rfl rfl rfl ?_;(repeat' (first |refine qv ?_ |apply qn));refine JoinOk.of () trivial ?_;refine Ent.of [] ?_ ?_ rfl rfl;(repeat' (first |exact True.intro |refine ⟨⟨AV.Le.refl _, rfl⟩, ?_⟩ |refine ⟨⟨⟨_, rfl, BLe.row ?_⟩, rfl⟩, ?_⟩ |refine ⟨⟨AV.Le.int ?_, rfl⟩, ?_⟩|fail))
  ·omega
  ·rw [hU]; congr 1
 intro _ _
 have wU : WOk U := by rw [hU]; exact d2
 have hUl : U.length = N + (m + 2) := by rw [hU]; omega
 have hUv : val U = x * 2 ^ k := by rw [hU]; exact d3
 have wV := toW_ok (y * 2 ^ k);have hVv := val_toW (show 0 ≤ y * 2 ^ k by omega)
 have hVB : y * 2 ^ k < BB (m + 2) := by
  have := val_lt wV;rwa [n3, hVv] at this
 clear hU;refine AWP.seqS ?_;(repeat' (first |refine qv ?_ |apply qn |apply qr));refine ⟨AWP.seqJ (G := List Int) (fun z => z = List.replicate N 0 ∧ z.length = N) (fun z => St.of [] [(8, aN k), (9, aW (toW (y * 2 ^ k))), (10, .row 56), (11, aN (m + 2)), (12, .row 63)] [(56, .row 1 eW U 62), (63, .row 1 eW z 62)]) ?_ ?_⟩
 ·(repeat' (first |refine qv ?_ |apply qn |apply qr |refine qw ?_ |refine Fl.make rfl rfl rfl rfl rfl rfl rfl rfl rfl rfl eW 0 (by exact LeL.refl _) (by rfl) (by first | omega | (dsimp only; omega)) (by first | omega | (dsimp only; omega)) (by first | omega | (dsimp only; omega)) ?_|fail));refine JoinOk.of (List.replicate N 0) ⟨rfl, by simp⟩ ?_;refine Ent.of [] ?_ ?_ rfl rfl;(repeat' (first |exact True.intro |refine ⟨⟨AV.Le.refl _, rfl⟩, ?_⟩ |refine ⟨⟨⟨_, rfl, BLe.row rfl⟩, rfl⟩, ?_⟩ |refine ⟨⟨⟨_, rfl, BLe.row ?_⟩, rfl⟩, ?_⟩ |refine ⟨⟨AV.Le.int ?_, rfl⟩, ?_⟩|fail))
  ·omega
  ·congr 1; omega
 intro z ⟨hz, hzl⟩;refine AWP.seqJ (G := List Int × Int) (fun (os, ρ) => DivInv U (y * 2 ^ k) (m + 2) N 0 os ρ) (fun (os, ρ) => St.of [] [(8, aN k), (10, .row 56), (12, .row 63)] [(56, .row 1 eW (wdW (m + 2) ρ ++ List.replicate N 0) 62), (63, .row 1 eW os 62)]) ?_ ?_
 ·(repeat' (first |refine qv ?_ |apply qn |apply qs |apply qr |refine qw ?_ |apply qb));refine AWP.loop (G := Nat × List Int × Int) (fun (i, os, ρ) => DivInv U (y * 2 ^ k) (m + 2) N i os ρ)
   (fun (i, os, ρ) => St.of [] [(8, aN k), (9, aW (toW (y * 2 ^ k))), (10, .row 56), (11, aN (m + 2)), (12, .row 63), (13, aN ((i : Int) - 1))] [(56, .row 1 eW (U.take i ++ (wdW (m + 2) ρ ++ List.replicate (N - i) 0)) 62), (63, .row 1 eW (List.replicate i 0 ++ os) 62)])
   (fun (i, os, ρ) => i) (N, [], val (U.drop N)) ?_ ?_ ?_
  ·have hsp : val U = val (U.take N) + BB N * val (U.drop N) := by
    conv => lhs; rw [← List.take_append_drop N U, val_append]
    rw [List.length_take, Nat.min_eq_left (by omega)]
   have ht := val_bounds (k := N) wU (by omega);have hdn := val_nonneg (wU.drop N);refine ⟨Nat.le_refl _, by simp, WOk.nil, hdn, ?_, by simp [val]⟩;rcases Int.lt_or_le (val (U.drop N)) (y * 2 ^ k) with h | h
   ·exact h
   ·have a1 : BB N * (y * 2 ^ k) ≤ BB N * val (U.drop N) := Int.mul_le_mul_of_nonneg_left h (Int.le_of_lt (BB_pos _));have a2 : BB N * (BB (m + 1) * 2 ^ k) ≤ BB N * (y * 2 ^ k) := Int.mul_le_mul_of_nonneg_left n5 (Int.le_of_lt (BB_pos _));have a3 : x < BB (N + (m + 1)) := (toW_len_le hx _).1 (by omega);have a4 : x * 2 ^ k < BB (N + (m + 1)) * 2 ^ k := Int.mul_lt_mul_of_pos_right a3 h2;rw [BB_add] at a4;have a5 : BB N * BB (m + 1) * 2 ^ k = BB N * (BB (m + 1) * 2 ^ k) := Int.mul_assoc _ _ _;omega
  ·refine Ent.of [] ?_ ?_ rfl rfl;(repeat' (first |exact True.intro |refine ⟨⟨AV.Le.refl _, rfl⟩, ?_⟩ |refine ⟨⟨⟨_, rfl, BLe.row ?_⟩, rfl⟩, ?_⟩ |refine ⟨⟨AV.Le.int ?_, rfl⟩, ?_⟩|fail))
   ·omega
   ·have hdl : (U.drop N).length = m + 2 := by rw [List.length_drop]; omega
    have := wdW_eq (wU.drop N);rw [hdl] at this;rw [← this, Nat.sub_self, List.replicate_zero, List.append_nil, List.take_append_drop]
   ·rw [hz, List.append_nil]
  ·intro ⟨i, os, ρ⟩ hd;refine AWP.seqS ?_;(repeat' (first |refine qv ?_ |apply qn |apply qs |apply qr |(refine AWP.condD rfl ?_ ?_ <;> intro _ <;> try (exfalso; omega)) |apply qk |apply qx))
   ·rename_i hi;obtain ⟨i', rfl⟩ : ∃ i', i = i' + 1 := ⟨i - 1, by omega⟩;have hiN : i' + 1 ≤ N := hd.hi;obtain ⟨u, hu⟩ : ∃ u, U[i']? = some u := ⟨_, List.getElem?_eq_getElem (by omega)⟩;have wu := wU.get hu;have hst := (hd.step hV hu wU).resolve_right (fun h => h hVB)
    have hAl : (U.take i').length = i' := by rw [List.length_take]; omega
    have hml : (u :: wdW (m + 2) ρ).length = m + 3 := by rw [List.length_cons, wdW_length]
    have hrow : U.take (i' + 1) ++ (wdW (m + 2) ρ ++ List.replicate (N - (i' + 1)) 0) = U.take i' ++ (u :: wdW (m + 2) ρ) ++ List.replicate (N - (i' + 1)) 0 := by
     rw [take_top hu]; simp
    have hrl : (U.take (i' + 1) ++ (wdW (m + 2) ρ ++ List.replicate (N - (i' + 1)) 0)).length = N + (m + 2) := by
     rw [List.length_append, List.length_append, List.length_take, wdW_length, List.length_replicate]; omega
    have hmv : val (u :: wdW (m + 2) ρ) = u + 4294967296 * ρ := by
     rw [val, val_wdW (m + 2) ρ hd.r0 (by have := hd.r1; omega)]
    have hdg : DigOk m (u :: wdW (m + 2) ρ) (toW (y * 2 ^ k)) := ⟨hml, n3, WOk.cons wu.1 wu.2 (wdW_ok _ _), wV, n4, by rw [hmv, hVv]; have := hd.r1; omega, by omega⟩;have hdig := digit_ok m (U.take i') (u :: wdW (m + 2) ρ) (List.replicate (N - (i' + 1)) 0) (toW (y * 2 ^ k)) hdg (wU.take _) (WOk.zeros _) (by omega) (by rw [List.length_replicate]; omega);rw [hVv] at hdig;obtain ⟨q, hq⟩ : ∃ q, q = val (u :: wdW (m + 2) ρ) / (y * 2 ^ k) := ⟨_, rfl⟩;obtain ⟨ρ', hρ'⟩ : ∃ r, r = val (u :: wdW (m + 2) ρ) % (y * 2 ^ k) := ⟨_, rfl⟩;rw [← hq, ← hρ'] at hdig hst;refine ⟨AWP.seq (AWP.block ?_)⟩;(repeat' (first |refine qv ?_ |apply qr |refine qw ?_|fail));refine Fl.subR rfl rfl rfl rfl rfl rfl rfl rfl (off := (U.take i').length) (len := (u :: wdW (m + 2) ρ).length) (by omega) (by omega) (by rw [hrl]; omega) (by omega) (by omega) rfl rfl ?_;(repeat' (first |refine qv ?_|fail));refine Fl.io rfl [(900, 56)] hdig rfl rfl (LeL.refl _) rfl ⟨⟨⟨_, rfl, BLe.row hrow⟩, rfl⟩, trivial⟩ rfl rfl rfl rfl rfl ?_;(repeat' (first |refine qv ?_ |apply qn |apply qr |refine qw ?_ |refine Fl.rel rfl rfl rfl rfl rfl rfl rfl rfl (by omega) (by first | omega | (simp; omega)) ?_ |refine Fl.rst rfl rfl rfl rfl rfl rfl rfl rfl rfl rfl rfl (LeL.refl _) rfl (by first | omega | (simp; omega)) ?_|fail));refine LoopEnd.of (i', q :: os, ρ') hst (by simp only; omega) ?_;refine Ent.of [] ?_ ?_ rfl rfl;(repeat' (first |exact True.intro |refine ⟨⟨AV.Le.refl _, rfl⟩, ?_⟩ |refine ⟨⟨⟨_, rfl, BLe.row ?_⟩, rfl⟩, ?_⟩ |refine ⟨⟨AV.Le.int ?_, rfl⟩, ?_⟩|fail))
    ·omega
    ·rw [hml, wdW_snoc0 (m + 2) ρ' hst.r0 (by have := hst.r1; omega), show N - i' = N - (i' + 1) + 1 by omega, List.replicate_succ];simp
    ·exact set_zeros (by omega) rfl rfl
   ·have hi : i = 0 := by omega
    subst hi;refine JoinOk.of (os, ρ) hd ?_;refine Ent.of [] ?_ ?_ rfl rfl;(repeat' (first |exact True.intro |refine ⟨⟨AV.Le.refl _, rfl⟩, ?_⟩ |refine ⟨⟨⟨_, rfl, BLe.row rfl⟩, rfl⟩, ?_⟩|fail))
 ·intro ⟨os, ρ⟩ hd;have hd : DivInv U (y * 2 ^ k) (m + 2) N 0 os ρ := hd;have hv := hd.hv;rw [List.drop_zero, hUv] at hv;obtain ⟨r1, r2⟩ := over_end hv hd.r0 hd.r1;obtain ⟨s1, s2⟩ := div_shift (x := x) (k := k) hy hx;have hr1 := hd.r1
  have hu : val (wdW (m + 2) ρ ++ List.replicate N 0) = ρ := by
   rw [val_append, val_zeros, val_wdW (m + 2) ρ hd.r0 (by omega)]; omega
  have hul : (wdW (m + 2) ρ ++ List.replicate N 0).length = N + (m + 2) := by
   rw [List.length_append, wdW_length, List.length_replicate]; omega
  have htr := trim_ok (wdW (m + 2) ρ ++ List.replicate N 0) ((wdW_ok _ _).append (WOk.zeros _)) (by omega);rw [hu] at htr;refine AWP.seqS ?_;(repeat' (first |refine qv ?_ |apply qr));refine Fl.callF rfl 56 rfl htr rfl rfl rfl (LeL.refl _) ?_;(repeat' (first |refine qv ?_|fail))
  refine Fl.call rfl (right_ok ρ k hd.r0 (by
   have := (toW_len_le hd.r0 (m + 2)).2 (by omega)
   omega) n1) rfl rfl rfl (LeL.refl _) ?_
  (repeat' (first |refine qv ?_ |apply qn));refine ⟨?_⟩;(repeat' (first |refine qv ?_ |apply qs |apply qr));refine Fl.callF rfl 63 rfl (trim_ok os hd.wo (by have := hd.hl; omega)) rfl rfl rfl (LeL.refl _) ?_;(repeat' (first |refine qv ?_ |apply qn |apply qt));refine RetOk.of rfl ?_;rw [r1, s1, r2, s2];exact AV.Le.refl _
end Go.Proofs.YtcaecieigoplbaaGreat
/- large.Div; chain.Quo, chain.Rest, chain.Power. -/
namespace Go.AL
theorem div_fit {x y : Int} (hx : Fit x) (hy : Fit y) (h : y ≠ 0) : Fit (x / y) ∧ Fit (x % y) := by
 have hm := Int.mul_ediv_add_emod x y;have h0 := Int.emod_nonneg x h;have h1 := Int.emod_lt x h;constructor
 ·refine Fit.mk ?_;have hl := hx.lt;have : (x / y).natAbs ≤ x.natAbs := Int.natAbs_ediv_le_natAbs x y;omega
 ·exact Fit.mk (by have := hy.lt; omega)
theorem toW_one : toW 1 = [1] := by
 have := toW_cons (x := 1) (z := 0) (by omega) (by omega) (by omega) (.inl (by omega));rw [toW_zero] at this;exact this
theorem div_signs (x y : Int) (hy : y ≠ 0) :
  (¬ (x < 0 ∧ (x.natAbs : Int) % y.natAbs ≠ 0) → x / y = sg (!(decide (x < 0) == decide (y < 0))) ((x.natAbs : Int) / y.natAbs) ∧ x % y = (x.natAbs : Int) % y.natAbs) ∧
  ((x < 0 ∧ (x.natAbs : Int) % y.natAbs ≠ 0) → x / y = sg (!(decide (x < 0) == decide (y < 0))) ((x.natAbs : Int) / y.natAbs + 1) ∧ x % y = y.natAbs - (x.natAbs : Int) % y.natAbs) := by
 have hm := Int.mul_ediv_add_emod (x.natAbs : Int) y.natAbs
 have hp : (0 : Int) < y.natAbs := by omega
 have h0 := Int.emod_nonneg (x.natAbs : Int) (show (y.natAbs : Int) ≠ 0 by omega);have h1 := Int.emod_lt_of_pos (x.natAbs : Int) hp
 generalize (x.natAbs : Int) / y.natAbs = Q at *
 generalize (x.natAbs : Int) % y.natAbs = R at *
 have key : ∀ q r : Int, x = y * q + r → 0 ≤ r → r < y.natAbs → x / y = q ∧ x % y = r := fun q r e r0 r1 => by
  rcases Int.lt_or_lt_of_ne hy with h | h
  ·exact (Int.ediv_emod_unique' h).2 ⟨by omega, r0, by omega⟩
  ·exact (Int.ediv_emod_unique h).2 ⟨by omega, r0, by omega⟩
 have hyy : (y < 0 ∧ (y.natAbs : Int) = -y) ∨ (¬ y < 0 ∧ (y.natAbs : Int) = y) := by omega
 have hxx : (x < 0 ∧ (x.natAbs : Int) = -x) ∨ (¬ x < 0 ∧ (x.natAbs : Int) = x) := by omega
 have ny : ∀ q : Int, -y * q = -(y * q) := fun q => Int.neg_mul _ _;have ny2 : ∀ q : Int, y * -q = -(y * q) := fun q => Int.mul_neg _ _
 have ny3 : ∀ q : Int, y * (q + 1) = y * q + y := fun q => by rw [Int.mul_add, Int.mul_one]
 constructor
 ·intro hn;refine key _ _ ?_ h0 h1;rcases hxx with ⟨a, b⟩ | ⟨a, b⟩ <;> rcases hyy with ⟨c, d⟩ | ⟨c, d⟩ <;> rw [b, d] at hm <;> simp only [a, c, decide_true, decide_false, sg, beq_self_eq_true, Bool.not_true, Bool.not_false, Bool.false_eq_true, if_true, if_false, ny, ny2, show (true == false) = false from rfl, show (false == true) = false from rfl] at hm ⊢
  ·have : R = 0 := by
    rcases Classical.em (R = 0) with h | h
    ·exact h
    ·exact absurd ⟨a, h⟩ hn
   omega
  ·have : R = 0 := by
    rcases Classical.em (R = 0) with h | h
    ·exact h
    ·exact absurd ⟨a, h⟩ hn
   omega
  ·omega
  ·omega
 ·intro hn;refine key _ _ ?_ (by omega) (by omega);obtain ⟨a, hR⟩ := hn
  have b : (x.natAbs : Int) = -x := by omega
  rcases hyy with ⟨c, d⟩ | ⟨c, d⟩ <;> rw [b, d] at hm <;> simp only [a, c, d, decide_true, decide_false, sg, beq_self_eq_true, Bool.not_true, Bool.not_false, Bool.false_eq_true, if_true, if_false, ny, ny2, ny3, show (true == false) = false from rfl, show (false == true) = false from rfl] at hm ⊢
  ·omega
  ·omega
end Go.AL
namespace Go.Proofs.YtcaecieigoplbaaGreat
open Go.AL
theorem Div_ok (x y : Int) (hx : Fit x) (hy : Fit y) (h : y ≠ 0) : PureFn Tryz.prog 151 [aX x, aX y] (.tup [aX (x / y), aX (x % y), aN 0]) := by
 refine PureFn.of_body Tryz.func151 rfl Tryz.ntmps151 rfl rfl ?_;have hxl := hx.len;have hyl := hy.len
 have hyp : (0 : Int) < y.natAbs := by omega
 have hyne := toW_ne_nil hyp;have hy0 : 0 < (toW (y.natAbs : Int)).length := List.length_pos_iff.2 hyne;obtain ⟨s1, s2⟩ := div_signs x y h;obtain ⟨f1, f2⟩ := div_fit hx hy h;obtain ⟨Q, hQ⟩ : ∃ Q, Q = (x.natAbs : Int) / y.natAbs := ⟨_, rfl⟩;obtain ⟨R, hR⟩ : ∃ R, R = (x.natAbs : Int) % y.natAbs := ⟨_, rfl⟩;have hdiv := divide_ok x.natAbs y.natAbs (by omega) hyp (by omega) (by omega);have h0 := Int.emod_nonneg (x.natAbs : Int) (show (y.natAbs : Int) ≠ 0 by omega);have h1 := Int.emod_lt_of_pos (x.natAbs : Int) hyp;have hq0 : (0 : Int) ≤ (x.natAbs : Int) / y.natAbs := Int.ediv_nonneg (by omega) (by omega);have hq1 : (x.natAbs : Int) / y.natAbs ≤ x.natAbs := Int.ediv_le_self _ (by omega);rw [← hQ] at hq0 hq1;rw [← hQ, ← hR] at s1 s2 hdiv;rw [← hR] at h0 h1;have hQl : (toW Q).length ≤ 4096 := (toW_len_le hq0 _).2 (by have := hx.lt; omega);have hRl : (toW R).length ≤ 4096 := (toW_len_le h0 _).2 (by have := hy.lt; omega);refine AWP.seqS ?_;(repeat' (first |refine qv ?_ |apply qn |apply qr |refine qe ?_|fail));refine ⟨AWP.seqS ?_⟩;(repeat' (first |refine qv ?_ |apply qs |apply qr));refine ql eZ [zOf x, zOf y] ?_;skip;refine qc (valid_two x y hx hy) ?_;(repeat' (first |refine qv ?_ |apply qn |refine AWP.condF rfl ?_ |apply qk));refine ⟨AWP.seqS ?_⟩;(repeat' (first |refine qv ?_ |apply qn |apply qs |apply qr |(refine AWP.condD rfl ?_ ?_ <;> intro _ <;> try (exfalso; omega)) |apply qk));refine ⟨AWP.seqS ?_⟩;(repeat' (first |refine qv ?_ |apply qr));refine qc (hdiv) ?_;(repeat' (first |refine qv ?_ |apply qn));refine ⟨?_⟩;refine AWP.seqJ (G := Int × Int) (fun (q, r) => 0 ≤ q ∧ (toW q).length ≤ 50000 ∧ x / y = sg (!(decide (x < 0) == decide (y < 0))) q ∧ r = x % y ∧ 0 ≤ r) (fun (q, r) => St.of [] [(2, .ptr 2 0), (3, .ptr 3 0), (4, .ptr 4 0), (5, .ptr 5 0), (7, aW (toW q)), (8, aW (toW r))] [(2, .cells (eX x) 35), (3, .cells (eX y) 35), (4, .cells [aB false, .v (.slice none 0 0)] 35), (5, .cells [aB false, .v (.slice none 0 0)] 35)]) ?_ ?_
 ·refine AWP.seq ?_;(repeat' (first |refine qv ?_ |apply qn |apply qr |refine Fl.skip rfl rfl ?_ |refine AWP.condF rfl ?_ |(refine AWP.condD rfl ?_ ?_ <;> intro _ <;> try (exfalso; omega)) |apply qk |(refine Fl.splitD rfl rfl ?_ ?_ <;> intro _ <;> try (exfalso; omega))))
  ·rename_i hxn hrp
   have hr0 : R ≠ 0 := by
    intro h; subst h;rw [toW_zero] at hrp;simp at hrp
   obtain ⟨t1, t2⟩ := s2 ⟨hxn, hr0⟩;refine ql eW [1] ?_;skip;refine Fl.call rfl (plus_ok Q 1 hq0 (by omega) (by omega) (by rw [toW_one]; simp)) rfl rfl rfl (LeL.cons (AV.Le.refl _) (LeL.cons (AV.Le.sl toW_one.symm) LeL.nil)) ?_;(repeat' (first |refine qv ?_|fail));refine qc (minus_ok y.natAbs R h0 (by omega) (by omega)) ?_;(repeat' (first |refine qv ?_ |refine Fl.nil (fun _ => by kernel_rfl) ?_|fail));refine JoinOk.of (Q + 1, y.natAbs - R) ⟨by omega, ?_, t1, t2.symm, by omega⟩ ?_
   ·have := (toW_len_le (z := Q + 1) (by omega) 4097).2 (by
     have := (toW_len_le hq0 4096).1 hQl;have e : BB 4097 = 4294967296 * BB 4096 := BB_succ 4096;have := BB_pos 4096
     omega)
    omega
   ·refine Ent.of [] ?_ ?_ rfl rfl;(repeat' (first |exact True.intro |refine ⟨⟨AV.Le.refl _, rfl⟩, ?_⟩ |refine ⟨⟨⟨_, rfl, BLe.cells (LeL.refl _)⟩, rfl⟩, ?_⟩|fail))
  ·rename_i hxn hrp
   have hr0 : R = 0 := by
    rcases Int.lt_or_eq_of_le h0 with h | h
    ·exact absurd (by have := List.length_pos_iff.2 (toW_ne_nil h); omega) hrp
    ·exact h.symm
   obtain ⟨t1, t2⟩ := s1 (fun hh => hh.2 hr0);refine JoinOk.of (Q, R) ⟨hq0, by omega, t1, t2.symm, h0⟩ ?_;refine Ent.of [] ?_ ?_ rfl rfl;(repeat' (first |exact True.intro |refine ⟨⟨AV.Le.refl _, rfl⟩, ?_⟩ |refine ⟨⟨⟨_, rfl, BLe.cells (LeL.refl _)⟩, rfl⟩, ?_⟩|fail))
  ·rename_i hxn;obtain ⟨t1, t2⟩ := s1 (fun hh => hxn hh.1);refine JoinOk.of (Q, R) ⟨hq0, by omega, t1, t2.symm, h0⟩ ?_;refine Ent.of [] ?_ ?_ rfl rfl;(repeat' (first |exact True.intro |refine ⟨⟨AV.Le.refl _, rfl⟩, ?_⟩ |refine ⟨⟨⟨_, rfl, BLe.cells (LeL.refl _)⟩, rfl⟩, ?_⟩|fail))
 ·intro ⟨q, r⟩ ⟨k0, k1, k2, k3, k4⟩
  have hrl : (toW r).length ≤ 4096 := by
   have := f2.len;rw [← k3, show ((r.natAbs : Nat) : Int) = r by omega] at this;exact this
  refine AWP.seqS ?_;(repeat' (first |refine qv ?_ |apply qr));refine qc (made_ok (!(decide (x < 0) == decide (y < 0))) (toW q) (toW_ok q) (by omega)) ?_;rw [val_toW k0, ← k2, aR_fit f1];(repeat' (first |refine qv ?_ |apply qn |refine qe ?_|fail));refine ⟨AWP.seqS ?_⟩;(repeat' (first |refine qv ?_ |apply qn |apply qs |apply qr |refine AWP.condF rfl ?_ |apply qk));refine ⟨AWP.seqS ?_⟩;(repeat' (first |refine qv ?_ |apply qr));refine qc (made_ok false (toW r) (toW_ok r) (by omega)) ?_;rw [show sg false (val (toW r)) = x % y by rw [val_toW k4, k3]; simp [sg], aR_fit f2];(repeat' (first |refine qv ?_ |apply qn |refine qe ?_|fail));refine ⟨?_⟩;(repeat' (first |refine qv ?_ |refine Fl.nil (fun _ => by kernel_rfl) ?_ |apply qs |apply qr |refine qe ?_ |apply qt));exact RetOk.of rfl (AV.Le.refl _)
theorem chRest_ok (o : Option Int) (e x y : Int) (hx : Fit x) (hy : Fit y) (h : e = 0 → y ≠ 0) : IoFn Tryz.prog 81 [.ptr 900 0, aX x, aX y] [(900, chB o e)] (.ret (aX (cV e (x % y)))) [(900, chB o (cE e (x % y)))] := by
 have hk := keep_ok o e (x % y)
 cases o
 all_goals
  refine IoFn.of_body Tryz.func81 rfl Tryz.ntmps81 rfl rfl rfl ?_;refine AWP.seqS ?_;(repeat' (first |apply qn |apply qr |refine qe ?_|fail));refine ⟨AWP.seqS ?_⟩;(repeat' (first |refine qv ?_ |apply qn |apply qs |apply qr |refine qe ?_ |(refine AWP.condN rfl ?_ ?_ <;> intro _ <;> try (exfalso; omega)) |apply qk |apply qt))
  ·rename_i he;refine ⟨⟨[], _, _, Ent.refl _ _ _, rfl, AV.Le.agg (leX_zero (cV_err he)), rfl, ⟨⟨⟨_, rfl, BLe.cells (LeL.cons (AV.Le.int (cE_err he).symm) (LeL.refl _))⟩, rfl⟩, trivial⟩, rfl, rfl⟩⟩
  ·rename_i he;obtain ⟨f1, f2⟩ := div_fit hx hy (h he);rw [clip_fit f2, szErr_fit f2] at hk;refine ⟨AWP.seqS ?_⟩;(repeat' (first |refine qv ?_ |apply qr));refine qc (Div_ok x y hx hy (h he)) ?_;(repeat' (first |refine qv ?_ |apply qn |refine qe ?_|fail));refine ⟨?_⟩;(repeat' (first |refine qv ?_ |apply qs |apply qr));refine qi [] hk ?_;(repeat' (first |apply qn |refine qe ?_ |apply qt));exact ⟨⟨[], _, _, Ent.refl _ _ _, rfl, AV.Le.refl _, rfl, ⟨⟨⟨_, rfl, BLe.cells (LeL.refl _)⟩, rfl⟩, trivial⟩, rfl, rfl⟩⟩
end Go.Proofs.YtcaecieigoplbaaGreat
/- append(nil, ..) whose result is not written; a made slice without elements. -/
namespace Go.AL
section
variable {P : Program} {tab : Tab} {n : Nat} {s : St}
variable {ops : Array Oper} {draw : Dr} {o : Oper} {l : List Oper} {acc : List Eff} {K : Exit → St → Prop}
theorem OpJ.ap0C (ht : TabOk P tab) (hd : ∀ d, o.dst = some d → d < n) {x y : Operand} {t : TypeId} (hop : o.op = .call { callee := .builtin .append, args := ⟨[x, y]⟩, argTypes := ⟨[t, t]⟩ }) {e : TypeId} {i : TI} {sz' by' : Nat} {z : List Value} (hts : tab t = some ⟨.slice e, sz', by', z⟩) (hti : tab e = some i) (hsz : Nat.blt 0 i.size = true)
  (hx : opd s x = .v (.slice none 0 0)) {α : Type} (enc : α → List AV) {ys : List α} (hy : (opd s y).Le (.sl i.size enc ys)) (hyc : (opd s y).closed = true) (hone : ∀ y, allOne (enc y) = true) (hel : ∀ y, (enc y).length = i.size)
  (hby : ys.length * i.bytes ≤ 140737488355328) (hm : ys.length ≤ 9223372036854775807) :
  OpJ P n o s ⟨.sl i.size enc ys, [], [], [], []⟩ := by
 refine ⟨hd, fun C s' a w h β Q K hs hbs hal k hK => ?_⟩
 have same : ∀ z : Operand, (z = x ∨ z = y) → opd s' z = opd s z := by
  intro z hz
  cases z with
  | tmp t => exact hs t (by rw [hop]; simpa [Op.operands, Call.operands] using hz)
  | _ => rfl
 have hxr := opd_rep k x;rw [same x (.inl rfl), hx] at hxr;have hyr := opd_rep k y;rw [same y (.inr rfl)] at hyr;have hyr := hy _ _ _ (hyr.closed (β' := noB) _ _ hyc);simp only [Rep] at hxr;obtain ⟨inf, zv, h1, h2, h3, h4, h5⟩ := (ht e i hti).info;have hu := (ht _ _ hts).und;simp only at hu
 have hzs : zv.cells.size = inf.size := by rw [← Array.length_toList, h5, (ht e i hti).zs, h2]
 have ho := World.ownsRow_nil w 0 e inf.size;rw [← h2] at hyr;obtain ⟨v', w', news, r1, r2, r3, r4, r5⟩ := run_append_any (P := P) (ty := o.type) hu h1 h4 hzs (by rw [h2]; exact Nat.le_of_ble_eq_true hsz) ho k.evo.has hone hyr (by rw [h3, Nat.zero_add]; exact hby) (by omega);rw [← hxr] at r1;have hrun := append_exec (P := P) (o := o) hop r1;unfold Oper.wp;rw [hrun];simp only [Oper.upon];simp only [Nat.zero_add, List.nil_append] at r2;have hnb : (Value.slice none 0 0).ownBlock = none := rfl;rw [hnb] at r3 r4;have hev : Evo never w h w' h := evo_of k.evo.has r3.os r3.tape ⟨r3.output, run_drawn _ _ _ _ r1⟩ r3.size (fun j hj _ => r3.block j hj (by simp)) (fun g hg => hg.elim);rw [h2] at r2;have hlen : ∀ x ∈ ys, (enc x).length = i.size := fun x _ => hel x
 have key : ∃ h', h.le h' ∧ Has w' h' ∧ (∀ g, h' g ≠ none → h g ≠ none ∨ v'.ownBlock = some g) ∧ Rep h' noB (.sl i.size enc ys) v' := by
  rcases r2.2 with ⟨hv, hn⟩ | ⟨g, cap, cur, hv, _, hg, hnc, hmx, hcs, htake⟩
  ·have hx : ys = [] := List.eq_nil_of_length_eq_zero hn;subst hx;refine ⟨h, Hp.le.refl h, hev.has, fun g hg => .inl hg, ?_⟩;rw [hv];exact AV.Le.nil i.size enc h noB _ (by simp only [Rep])
  ·have hgb : v'.ownBlock = some g := by simp [hv, Value.ownBlock]
   have hgn : h g = none := by
    rcases r4 with r4 | r4
    ·rw [r4] at hgb; cases hgb
    ·rw [r4] at hgb; injection hgb with hgb; subst hgb; exact has_none k.evo.has (Nat.le_refl _)
   have hle : h.le (h.set g cur) := fun b cs hb' => by
    by_cases he : b = g
    ·subst he; rw [hgn] at hb'; cases hb'
    ·rw [Hp.set_ne _ _ _ _ he]; exact hb'
   refine ⟨h.set g cur, hle, fun b cs hb' => ?_, fun b hb' => ?_, ?_⟩
   ·by_cases he : b = g
    ·subst he; rw [Hp.set_same] at hb'; injection hb' with hb'; subst hb'; exact ⟨e, (0, 0), hg⟩
    ·rw [Hp.set_ne _ _ _ _ he] at hb'; exact hev.has b cs hb'
   ·by_cases he : b = g
    ·subst he; exact .inr hgb
    ·rw [Hp.set_ne _ _ _ _ he] at hb'; exact .inl hb'
   ·subst hv;simp only [Rep];refine ⟨some ⟨g, 0, none⟩, cap, rfl, hnc, hmx, fun j x hx => ?_⟩;obtain ⟨hr1, hr2⟩ := flat_at ys news j x hlen (r5.mono hle (Bt.le.refl _)) hx;refine ⟨⟨g, 0, none⟩, _, rfl, by rw [hr1.length]; exact hlen x (List.mem_of_getElem? hx), hr1, fun q u hu => ?_⟩
    have hadd : (⟨g, 0, none⟩ : Addr).add (j * i.size + q) = ⟨g, j * i.size + q, none⟩ := by unfold Addr.add; split <;> simp_all
    rw [hadd];refine ⟨rfl, cur, Hp.set_same _ _ _, ?_⟩;rw [List.getElem?_take] at hu;split at hu
    ·rw [List.getElem?_drop, ← htake, List.getElem?_take] at hu;split at hu
     ·simpa using hu
     ·cases hu
    ·cases hu
 obtain ⟨h', hle, hhas, hfr, hrep⟩ := key
 have hev' : Evo never w h w' h' := ⟨hev.os, hev.tape, hev.output, hev.size, hev.block, hle, fun g hg => by
  rcases hfr g hg with h1 | h1
  ·exact .inl h1
  ·rcases r4 with r4 | r4
   ·rw [r4] at h1; cases h1
   ·rw [r4] at h1; injection h1 with h1; subst h1; exact .inr (.inl (Nat.le_refl _)), hhas⟩
 exact hK _ _ h' β (Base.val (k.step hev') o.dst hd (hrep.mono (Hp.le.refl _) (noB_le β)) [])
theorem Fl.ap0C [f : Facts P tab] {x y : Operand} {t : TypeId} (hop : o.op = .call { callee := .builtin .append, args := ⟨[x, y]⟩, argTypes := ⟨[t, t]⟩ }) (hx : opd s x = .v (.slice none 0 0)) (hg : gOk ops s o = true) (hd : dOk n o.dst = true) {e : TypeId} {i : TI} {sz' by' : Nat} {z : List Value} (hts : tab t = some ⟨.slice e, sz', by', z⟩) (hti : tab e = some i) (hsz : Nat.blt 0 i.size = true)
  {α : Type} (enc : α → List AV) {ys : List α} (hyc : (opd s y).closed = true) (hone : ∀ y, allOne (enc y) = true) (hel : ∀ y, (enc y).length = i.size) (hy : (opd s y).Le (.sl i.size enc ys))
  (hby : ys.length * i.bytes ≤ 140737488355328) (hm : ys.length ≤ 9223372036854775807)
  (r : Fl P n ops draw l ((Eff.mk (.sl i.size enc ys) [] [] [] []).app o.dst s) (Eff.mk (.sl i.size enc ys) [] [] [] [] :: acc) K) : Fl P n ops draw (o :: l) s acc K :=
 Fl.opv hg (OpJ.ap0C f.tabOk (dOk_lt hd) hop hts hti hsz hx enc hy hyc hone hel hby hm) r
theorem OpJ.make0 (ht : TabOk P tab) {d : Tmp} (hdst : o.dst = some d) (hd : d < n) {t : TypeId} {x y : Operand} (hop : o.op = .makeSlice t x y) {e : TypeId} {i : TI} {sz' by' : Nat} {z : List Value} (hts : tab t = some ⟨.slice e, sz', by', z⟩) (hti : tab e = some i)
  {k k' : IntKind} {m' : Int} (hx : opd s x = .v (.int k 0)) (hy : opd s y = .v (.int k' m')) (h0 : 0 ≤ m') (hby : m' * i.bytes ≤ 281474976710656) (hm : m' ≤ 9223372036854775807) {α : Type} (enc : α → List AV) :
  OpJ P n o s ⟨.row d, [(d, .row i.size enc [] e)], [], [d], []⟩ := by
 refine ⟨fun t ht => (by rw [hdst] at ht; injection ht with ht; subst ht; exact hd), fun C s' a w h β Q K hs hb hal b hK => ?_⟩
 have same : ∀ z : Operand, (z = x ∨ z = y) → opd s' z = opd s z := by
  intro z hz
  cases z with
  | tmp t => exact hs t (by rw [hop]; simpa [Op.operands] using hz)
  | _ => rfl
 have hxr := opd_rep b x;have hyr := opd_rep b y;rw [same x (.inl rfl), hx] at hxr;rw [same y (.inr rfl), hy] at hyr;simp only [Rep] at hxr hyr;obtain ⟨inf, zv, h1, h2, h3, h4, h5⟩ := (ht e i hti).info;have hu := (ht _ _ hts).und;simp only at hu;obtain ⟨c, rfl⟩ := Int.eq_ofNat_of_zero_le h0
 have hzs : zv.cells.size = i.size := by rw [← Array.length_toList, h5, (ht e i hti).zs]
 have hmk := run_make (P := P) w t e inf zv hu h1 h4 k k' (0 : Int) (c : Int) (Int.le_refl _) h0 (by rw [h3, Int.mul_comm]; exact hby) hm;rw [Int.toNat_natCast, h2] at hmk
 have hrun : (execOp a.eval o).run P w = .ok (.value (.slice (some ⟨w.heap.size, 0, none⟩) 0 c)) (w.alloc (.cells (madeCells zv.cells (c * i.size)) e)) := by
  simp only [execOp, hop, hxr, hyr, Sem.run_bind, hmk, Result.andThen, Sem.run_pure];rfl
 unfold Oper.wp;rw [hrun];simp only [Oper.upon];refine hK _ _ h (β.set d (.slice (some ⟨w.heap.size, 0, none⟩) 0 c)) ?_;have k1 := b.step (evo_alloc b.evo.has (.cells (madeCells zv.cells (c * i.size)) e));rw [hdst];refine k1.addbox (hal d (by simp)) ?_ ?_ (some d) (fun t ht => by injection ht with ht; subst ht; exact hd) ?_ []
 ·refine ⟨_, [], Bt.set_same _ _ _, ⟨by simp, .inr ⟨w.heap.size, c, _, by simp, Nat.zero_le _, heap_alloc_new w _, by simp, by simp only [maxLen]; omega, size_madeCells _ _, by simp⟩⟩, ?_, ?_, ?_⟩
  ·exact RepL.nil
  ·intro x hx; cases hx
  ·intro g hg;simp [Value.ownBlock] at hg;subst hg;exact has_none b.evo.has (Nat.le_refl _)
 ·intro g hg;simp [blk] at hg;subst hg;refine ⟨fun id' B' hb' e => ?_, .inr b.evo.size⟩;have := (b.blk_lt hb' e).1;omega
 ·simp only [Rep]; exact ⟨Bt.set_same _ _ _, _, _, _, rfl⟩
theorem Fl.make0 [f : Facts P tab] {t : TypeId} {x y : Operand} (hop : o.op = .makeSlice t x y) (hg : gOk ops s o = true) {d : Tmp} (hdst : o.dst = some d) (hd : Nat.blt d n = true) {e : TypeId} {i : TI} {sz' by' : Nat} {z : List Value} (hts : tab t = some ⟨.slice e, sz', by', z⟩) (hti : tab e = some i)
  {k k' : IntKind} {m' : Int} (hx : opd s x = .v (.int k 0)) (hy : opd s y = .v (.int k' m')) (hn : s.al d = false) {α : Type} (enc : α → List AV) (h0 : 0 ≤ m') (hby : m' * i.bytes ≤ 281474976710656) (hm : m' ≤ 9223372036854775807)
  (r : Fl P n ops draw l ((Eff.mk (.row d) [(d, .row i.size enc [] e)] [] [d] []).app o.dst s) (Eff.mk (.row d) [(d, .row i.size enc [] e)] [] [d] [] :: acc) K) (hJ : presOk draw.J (Eff.mk (.row d) [(d, .row i.size enc [] e)] [] [d] []) := by repeat' (first | exact True.intro | exact rfl | refine ⟨?_, ?_⟩ | fail)) : Fl P n ops draw (o :: l) s acc K :=
 Fl.op hg (OpJ.make0 f.tabOk hdst (ltOf hd) hop hts hti hx hy h0 hby hm enc) (newOk1 hn) hJ r
end
end Go.AL
/- Polynomials with few small numbers: sums by inspection. -/
namespace Go.AL
abbrev tz (u : UT) : TZ := ⟨zOf u.1, u.2⟩
def mkP (V : Nat) (l : List UT) : PZ := ⟨V, l.map tz⟩
def cfU : List UT → List Int → Int
  | [], _ => 0
  | u :: us, e => (if u.2 = e then u.1 else 0) + cfU us e
def absU : List UT → Nat
  | [] => 0
  | u :: us => u.1.natAbs + absU us
theorem cfU_append : ∀ (a b : List UT) (e : List Int), cfU (a ++ b) e = cfU a e + cfU b e
 | [], b, e => by simp [cfU]
 | u :: a, b, e => by simp only [List.cons_append, cfU, cfU_append a b e]; omega
theorem cfU_abs : ∀ (us : List UT) (e : List Int), (cfU us e).natAbs ≤ absU us
 | [], _ => by simp [cfU, absU]
 | u :: us, e => by
  have := cfU_abs us e;simp only [cfU, absU];split <;> omega
theorem getM_of {k : Key} {A B : List ME} {p : ME} (hk : p.1 = k) (hA : ∀ q ∈ A, q.1 ≠ k) : getM k (A ++ p :: B) = p.2.1 := by
 unfold getM; rw [findM_hit hk 0 hA]
theorem getM_miss {k : Key} {xs : List ME} (h : ∀ q ∈ xs, q.1 ≠ k) : getM k xs = 0 := by
 unfold getM; rw [findM_miss 0 h]
def getR (k : Key) : List ME → Int
  | [] => 0
  | p :: xs => if k = p.1 then p.2.1 else getR k xs
theorem getM_R (k : Key) (xs : List ME) : getM k xs = getR k xs := by
 have : ∀ (xs : List ME) (i : Nat), (match findM k xs i with | some (_, p) => p.2.1 | none => (0 : Int)) = getR k xs := by
  intro xs
  induction xs with
  | nil => intro i; rfl
  | cons p xs ih =>
   intro i;unfold findM getR;by_cases h : k = p.1
   ·rw [if_pos h, if_pos h]
   ·rw [if_neg h, if_neg h]; exact ih (i + 1)
 exact this xs 0
theorem getM_step (s : MS) (u : UT) (V : Nat) (m : MOk V s.1 s.2) (k : Key) : getM k (stepM s u).1 = if k = exK u.2 then getM (exK u.2) s.1 + u.1 else getM k s.1 := by
 obtain ⟨xs, c⟩ := s;obtain ⟨a, e⟩ := u;show getM k (setM (exK e) (getM (exK e) xs + a) c xs) = _
 have other : ∀ (A B : List ME) (p q : ME), p.1 = exK e → q.1 = exK e → k ≠ exK e → getM k (A ++ p :: B) = getM k (A ++ q :: B) ∧ getM k (A ++ p :: B) = getM k (A ++ B) := by
  intro A B p q hp hq hk
  have f : ∀ (A : List ME) (r : ME), r.1 = exK e → getR k (A ++ r :: B) = getR k (A ++ B) := by
   intro A
   induction A with
   | nil => intro r hr; simp only [List.nil_append, getR]; rw [if_neg (by rw [hr]; exact hk)]
   | cons b A ih => intro r hr; simp only [List.cons_append, getR]; rw [ih r hr]
  simp only [getM_R];exact ⟨(f A p hp).trans (f A q hq).symm, f A p hp⟩
 rcases setM_cases (exK e) (getM (exK e) xs + a) c xs with ⟨h1, h2, h3⟩ | ⟨A, p, B, h1, h2, h3, h4, h5, h6⟩
 ·have hg : getM (exK e) xs = 0 := by unfold getM; rw [h1]
  have hno := findM_none h1;rcases h3 with ⟨hy, h3⟩ | ⟨hy, h3⟩
  ·rw [h3];split
   ·rename_i hk; rw [hk]; show getM (exK e) xs = getM (exK e) xs + a; omega
   ·rfl
  ·rw [h3];split
   ·rename_i hk; rw [hk]; exact getM_of (k := exK e) (A := xs) (B := []) (p := (exK e, getM (exK e) xs + a, c)) rfl hno
   ·rename_i hk;have := (other xs [] (exK e, getM (exK e) xs + a, c) (exK e, 0, 0) rfl rfl hk).2;rw [List.append_nil] at this;exact this
 ·have hg : getM (exK e) xs = p.2.1 := by rw [h2]; exact getM_of h3 h4
  have hB : ∀ q ∈ B, q.1 ≠ exK e := by
   have hk := m.keys;simp only at hk;rw [h2, List.pairwise_append, List.pairwise_cons] at hk;intro q hq e';exact hk.2.1.1 q hq (by rw [h3, e'])
  rcases h6 with ⟨hy, h6⟩ | ⟨hy, h6⟩
  ·rw [h6];split
   ·rename_i hk;rw [hk, getM_miss (fun q hq => (List.mem_append.1 hq).elim (h4 q) (hB q))];show (0 : Int) = getM (exK e) xs + a;omega
   ·rename_i hk;rw [h2];exact (other A B p p h3 h3 hk).2.symm
  ·rw [h6];split
   ·rename_i hk;rw [hk]; exact getM_of (k := exK e) (A := A) (B := B) (p := (exK e, getM (exK e) xs + a, p.2.2)) rfl h4
   ·rename_i hk;rw [h2];exact (other A B (exK e, getM (exK e) (A ++ p :: B) + a, p.2.2) p rfl h3 hk).1
theorem exK_inj {V : Nat} {a b : List Int} (ha : a.length = V) (hb : b.length = V) (hV : V ≤ 32) (h : exK a = exK b) : a = b := by
 rw [exK_eq (by omega), exK_eq (by omega)] at h;exact expK_inj (by omega) h
theorem runM_cf {V : Nat} (hV : V ≤ 32) : ∀ (us : List UT) (s : MS) (pre : List UT), MOk V s.1 s.2 → UOk V us → (∀ e : List Int, e.length = V → getM (exK e) s.1 = cfU pre e) → absU pre + absU us < 4294967296 →
  ∃ s', runM us s = some s' ∧ MOk V s'.1 s'.2 ∧ ∀ e : List Int, e.length = V → getM (exK e) s'.1 = cfU (pre ++ us) e
 | [], s, pre, m, _, hg, _ => ⟨s, rfl, m, by simpa using hg⟩
 | u :: us, s, pre, m, hu, hg, hab => by
  obtain ⟨hl, he⟩ := hu u (by simp);have hab' : absU pre + (u.1.natAbs + absU us) < 4294967296 := hab
  have hap : ∀ (a b : List UT), absU (a ++ b) = absU a + absU b := by
   intro a b
   induction a with
   | nil => simp [absU]
   | cons x a ih => simp only [List.cons_append, absU, ih]; omega
  have hf : Fit (getM (exK u.2) s.1 + u.1) := by
   rw [hg _ hl];have := cfU_abs pre u.2;exact fit_small (by omega) (by omega)
  have ms : MOk V (stepM s u).1 (stepM s u).2 := m.step hV hl he hf
  obtain ⟨s', h1, h2, h3⟩ := runM_cf hV us (stepM s u) (pre ++ [u]) ms (fun v hv => hu v (by simp [hv])) (fun e hel => by
   rw [getM_step s u V m, cfU_append];split
   ·rename_i hk;have := exK_inj hel hl hV hk;subst this;rw [hg _ hel]; simp [cfU]
   ·rename_i hk;have hne : ¬ u.2 = e := fun h => hk (by rw [h])
    rw [hg _ hel]; simp [cfU, hne]) (by rw [hap]; simp only [absU]; omega)
  refine ⟨s', ?_, h2, ?_⟩
  ·unfold runM; rw [if_pos hf]; exact h1
  ·simpa [List.append_assoc] using h3
end Go.AL
/- Sums by inspection: the lists that are asked for. -/
namespace Go.AL
theorem sorted_ext : ∀ {a b : List TZ}, a.Pairwise (fun x y => ordI x.e y.e < 0) → b.Pairwise (fun x y => ordI x.e y.e < 0) → (∀ t, t ∈ a ↔ t ∈ b) → a = b
 | [], [], _, _, _ => rfl
 | [], y :: b, _, _, h => by have := (h y).2 (by simp); cases this
 | x :: a, [], _, _, h => by have := (h x).1 (by simp); cases this
 | x :: a, y :: b, ha, hb, h => by
  rw [List.pairwise_cons] at ha hb
  have irr : ∀ t : TZ, ¬ ordI t.e t.e < 0 := fun t k => by rw [ordI_refl] at k; omega
  have hxy : x = y := by
   rcases List.mem_cons.1 ((h x).1 (by simp)) with h1 | h1
   ·exact h1
   ·rcases List.mem_cons.1 ((h y).2 (by simp)) with h2 | h2
    ·exact h2.symm
    ·exact absurd (ordI_trans (hb.1 x h1) (ha.1 y h2)) (irr y)
  subst hxy;rw [sorted_ext ha.2 hb.2 fun t => ?_];constructor
  ·intro ht;rcases List.mem_cons.1 ((h t).1 (by simp [ht])) with h1 | h1
   ·subst h1; exact absurd (ha.1 t ht) (irr t)
   ·exact h1
  ·intro ht;rcases List.mem_cons.1 ((h t).2 (by simp [ht])) with h1 | h1
   ·subst h1; exact absurd (hb.1 t ht) (irr t)
   ·exact h1
def sortedU : List UT → Bool
  | [] => true
  | u :: l => l.all (fun v => decide (ordI u.2 v.2 < 0)) && sortedU l
theorem sortedU_pw : ∀ {l : List UT}, sortedU l = true → l.Pairwise fun u v => ordI u.2 v.2 < 0
 | [], _ => List.Pairwise.nil
 | u :: l, h => by
  simp only [sortedU, Bool.and_eq_true, List.all_eq_true, decide_eq_true_eq] at h;exact List.pairwise_cons.2 ⟨h.1, sortedU_pw h.2⟩
def okU (V : Nat) (u : UT) : Bool := Nat.beq u.2.length V && u.2.all fun x => decide (0 ≤ x) && decide (x ≤ 120)
def chkU (V : Nat) (us l : List UT) : Bool :=
  us.all (okU V) && l.all (fun u => okU V u && decide (u.1 ≠ 0) && decide (sumL u.2 ≤ 120)) && sortedU l && decide (l.length ≤ 3000) && decide (absU us < 4294967296) && decide (absU l < 4294967296) && us.all (fun u => decide (cfU us u.2 = cfU l u.2)) && l.all (fun u => decide (cfU us u.2 = cfU l u.2))
theorem okU_ok {V : Nat} {u : UT} (h : okU V u = true) : u.2.length = V ∧ EOk u.2 := by
 simp only [okU, Bool.and_eq_true, List.all_eq_true, decide_eq_true_eq] at h;exact ⟨Nat.eq_of_beq_eq_true h.1, fun e he => h.2 e he⟩
theorem cfU_zero : ∀ {us : List UT} {e : List Int}, (∀ u ∈ us, u.2 ≠ e) → cfU us e = 0
 | [], _, _ => rfl
 | u :: us, e, h => by
  simp only [cfU, if_neg (h u (by simp)), cfU_zero (us := us) fun v hv => h v (by simp [hv])];rfl
theorem cfU_one : ∀ {l : List UT} {u : UT}, l.Pairwise (fun u v => ordI u.2 v.2 < 0) → u ∈ l → cfU l u.2 = u.1
 | v :: l, u, hp, hu => by
  rw [List.pairwise_cons] at hp;rcases List.mem_cons.1 hu with rfl | hu
  ·simp only [cfU, if_true];rw [cfU_zero (us := l) fun w hw k => by have := hp.1 w hw; rw [k, ordI_refl] at this; omega];omega
  ·have := hp.1 u hu
   have hne : ¬ v.2 = u.2 := fun k => by rw [k, ordI_refl] at this; omega
   simp only [cfU, if_neg hne, cfU_one hp.2 hu];omega
theorem cfU_mem {us : List UT} {e : List Int} (h : cfU us e ≠ 0) : ∃ u ∈ us, u.2 = e := by
 rcases Classical.em (∃ u ∈ us, u.2 = e) with k | k
 ·exact k
 ·exact absurd (cfU_zero fun u hu he => k ⟨u, hu, he⟩) h
theorem absU_mem : ∀ {l : List UT} {u : UT}, u ∈ l → u.1.natAbs ≤ absU l
 | v :: l, u, h => by
  rcases List.mem_cons.1 h with rfl | h
  ·simp only [absU]; omega
  ·have := absU_mem h; simp only [absU]; omega
theorem chkU_ok {V : Nat} (hV : V ≤ 32) {us l : List UT} (h : chkU V us l = true) : SumOk V us (mkP V l) := by
 simp only [chkU, Bool.and_eq_true, List.all_eq_true, decide_eq_true_eq] at h;obtain ⟨⟨⟨⟨⟨⟨⟨h1, h2⟩, h3⟩, h4⟩, h5⟩, h6⟩, h7⟩, h8⟩ := h;have hus : UOk V us := fun u hu => okU_ok (h1 u hu);have hpw := sortedU_pw h3;obtain ⟨s, r1, r2, r3⟩ := runM_cf hV us ([], 0) [] (MOk.nil V) hus (fun e _ => by simp [getM, findM, cfU]) (by simp only [absU]; omega);simp only [List.nil_append] at r3
 have hstr : (sortT (s.1.map (tmM V))).Pairwise fun a b => ordI a.e b.e < 0 := by
  have p1 := sortT_sorted (s.1.map (tmM V));have p2 := (List.Perm.pairwise_iff (fun h => Ne.symm h) (sortT_perm (s.1.map (tmM V)))).2 r2.parts;refine (p1.and p2).imp fun {a b} hab => ?_;rcases leT_iff.1 hab.1 with k | k
  ·exact k
  ·exact absurd k hab.2
 have hget : ∀ p ∈ s.1, getM p.1 s.1 = p.2.1 := by
  intro p hp;obtain ⟨A, B, hAB⟩ := List.append_of_mem hp;have hk := r2.keys;rw [hAB] at hk ⊢;rw [List.pairwise_append] at hk;exact getM_of rfl fun q hq => hk.2.2 q hq p (by simp)
 have hl : sortT (s.1.map (tmM V)) = l.map tz := by
  refine sorted_ext hstr (by rw [List.pairwise_map]; exact hpw) fun t => ?_;rw [(sortT_perm _).mem_iff];constructor
  ·intro ht;obtain ⟨p, hp, rfl⟩ := List.mem_map.1 ht;obtain ⟨e, he, k1, k2, k3⟩ := r2.exp p hp
   have hc : cfU us e = p.2.1 := by
    rw [← r3 e k2, exK_eq he, ← k1]; exact hget p hp
   obtain ⟨u, hu, hue⟩ := cfU_mem (us := us) (e := e) (by rw [hc]; exact r2.nz p hp)
   have hc2 : cfU l e = p.2.1 := by rw [← hc, ← hue]; exact (h7 u hu).symm
   obtain ⟨v, hv, hve⟩ := cfU_mem (us := l) (e := e) (by rw [hc2]; exact r2.nz p hp);have hv1 := cfU_one hpw hv;rw [hve, hc2] at hv1;refine List.mem_map.2 ⟨v, hv, ?_⟩;have he2 := tmM_exp k1 k2;show (⟨zOf v.1, v.2⟩ : TZ) = tmM V p;rw [← hv1, hve];show (⟨zOf p.2.1, e⟩ : TZ) = ⟨zOf p.2.1, (tmM V p).e⟩;rw [he2]
  ·intro ht;obtain ⟨v, hv, rfl⟩ := List.mem_map.1 ht;have hv2 := h2 v hv;obtain ⟨hl1, _⟩ := okU_ok hv2.1.1
   have hc : getM (exK v.2) s.1 = v.1 := by rw [r3 _ hl1, h8 v hv]; exact cfU_one hpw hv
   unfold getM at hc
   cases hf : findM (exK v.2) s.1 0 with
   | none => rw [hf] at hc; exact absurd hc.symm hv2.1.2
   | some q =>
    obtain ⟨j, p⟩ := q;rw [hf] at hc;have hc : p.2.1 = v.1 := hc;obtain ⟨_, g1, g2⟩ := findM_get hf;refine List.mem_map.2 ⟨p, List.mem_of_getElem? g1, ?_⟩
    have h32 : v.2.length ≤ 32 := by omega
    have he2 := tmM_exp (V := V) (p := p) (he := h32) (by rw [← exK_eq h32]; exact g2) hl1;show (⟨zOf p.2.1, (tmM V p).e⟩ : TZ) = ⟨zOf v.1, v.2⟩;rw [he2, hc]
 refine ⟨s, r1, by rw [hl]; rfl, ⟨by simp [mkP], by simp [mkP]; omega, by simpa [mkP] using h4, fun t ht => ?_, fun i a b ha hb => ?_⟩⟩
 ·obtain ⟨v, hv, rfl⟩ := List.mem_map.1 ht;obtain ⟨⟨k1, k2⟩, k3⟩ := h2 v hv;obtain ⟨hl1, hl2⟩ := okU_ok k1;have hb := absU_mem hv;have hf : Fit v.1 := fit_small (by omega) (by omega);refine ⟨okZ_zOf hf, fun hz => k2 ?_, by simp [mkP, hl1], hl2, k3⟩;have := (toW_nil_iff (show (0 : Int) ≤ v.1.natAbs by omega)).1 (List.eq_nil_of_length_eq_zero hz);omega
 ·simp only [mkP, List.getElem?_map, Option.map_eq_some_iff] at ha hb;obtain ⟨u, hu, rfl⟩ := ha;obtain ⟨v, hv, rfl⟩ := hb;rw [List.pairwise_iff_getElem] at hpw;have hi := (List.getElem?_eq_some_iff.1 hu);have hj := (List.getElem?_eq_some_iff.1 hv);have := hpw i (i + 1) hi.1 hj.1 (by omega);rw [hi.2, hj.2] at this;exact this
theorem plusU_mk (b : Int) (V : Nat) (a l : List UT) : plusU b (mkP V a) (mkP V l) = a ++ l.map fun u => (u.1 * b, u.2) := by
 unfold plusU mkP;simp only [List.map_map];congr 1
 ·conv => rhs; rw [← List.map_id a]
  exact List.map_congr_left fun u _ => by show (zval (zOf u.1), u.2) = u; rw [zval_zOf]
 ·exact List.map_congr_left fun u _ => by show (zval (zOf u.1) * b, u.2) = _; rw [zval_zOf]
theorem timesU_mk (V : Nat) (a l : List UT) : timesU (mkP V a) (mkP V l) = a.flatMap fun t => l.map fun u => (t.1 * u.1, addE t.2 u.2) := by
 unfold timesU mkP rowU;rw [List.flatMap_map];congr 1;funext t;rw [List.map_map];refine List.map_congr_left fun u _ => ?_;show (zval (zOf t.1) * zval (zOf u.1), addE t.2 u.2) = _;rw [zval_zOf, zval_zOf]
end Go.AL
/- Add and Mul of polynomials with few small numbers. -/
namespace Go.AL
def insU (u : UT) : List UT → List UT
  | [] => if u.1 = 0 then [] else [u]
  | v :: l => if ordI u.2 v.2 < 0 then (if u.1 = 0 then v :: l else u :: v :: l) else if u.2 = v.2 then (if u.1 + v.1 = 0 then l else (u.1 + v.1, u.2) :: l) else v :: insU u l
def canU (us : List UT) : List UT := us.foldr insU []
def addUs (b : Int) (p q : List UT) : List UT := p ++ q.map fun u => (u.1 * b, u.2)
def mulUs (p q : List UT) : List UT := p.flatMap fun t => q.map fun u => (t.1 * u.1, addE t.2 u.2)
def addL (p q : List UT) : List UT := canU (addUs 1 p q)
def subL (p q : List UT) : List UT := canU (addUs (-1) p q)
def mulL2 (p q : List UT) : List UT := canU (mulUs p q)
theorem mk_ok {V : Nat} (hV : V ≤ 32) {l : List UT} (h : chkU V l l = true) : OkP (mkP V l) ∧ (mkP V l).vars = V ∧ WP (mkP V l) := (chkU_ok hV h).okp
def degU (p q : List UT) : Bool := match p, q with
  | t :: _, u :: _ => decide (sumL t.2 + sumL u.2 ≤ 120)
  | _, _ => true
theorem degU_ok {V : Nat} {p q : List UT} (h : degU p q = true) : DegOk (mkP V p) (mkP V q) := by
 intro t u ht hu
 cases p with
 | nil => simp [mkP] at ht
 | cons a p =>
  cases q with
  | nil => simp [mkP] at hu
  | cons b q =>
   simp only [mkP, List.map_cons, List.getElem?_cons_zero, Option.some.injEq] at ht hu;subst ht hu;simpa [degU] using h
end Go.AL
namespace Go.Proofs.YtcaecieigoplbaaGreat
open Go.AL
theorem addMk (V : Nat) (hV : V ≤ 32) (p q l : List UT) (hp : chkU V p p = true) (hq : chkU V q q = true) (h : chkU V (addUs 1 p q) l = true) : PureFn Tryz.prog 137 [aP (mkP V p), aP (mkP V q)] (.tup [aP (mkP V l), aN 0]) := by
 obtain ⟨p1, p2, p3⟩ := mk_ok hV hp;obtain ⟨q1, q2, q3⟩ := mk_ok hV hq
 have hs : SumOk V (plusU 1 (mkP V p) (mkP V q)) (mkP V l) := by rw [plusU_mk]; exact chkU_ok hV h
 exact pAdd_ok V hV _ _ p3 q3 p1 q1 p2 q2 _ (fun x hx => by rw [hs.uniq hx]) (fun k => absurd ⟨_, hs⟩ k)
theorem mulMk (V : Nat) (hV : V ≤ 32) (p q l : List UT) (hp : chkU V p p = true) (hq : chkU V q q = true) (hd : degU p q = true) (h : chkU V (mulUs p q) l = true) : PureFn Tryz.prog 138 [aP (mkP V p), aP (mkP V q)] (.tup [aP (mkP V l), aN 0]) := by
 obtain ⟨p1, p2, p3⟩ := mk_ok hV hp;obtain ⟨q1, q2, q3⟩ := mk_ok hV hq
 have hs : SumOk V (timesU (mkP V p) (mkP V q)) (mkP V l) := by rw [timesU_mk]; exact chkU_ok hV h
 have hpr : ∀ t ∈ (mkP V p).terms, ∀ u ∈ (mkP V q).terms, Fit (zval t.c * zval u.c) := by
  intro t ht u hu;obtain ⟨a, ha, rfl⟩ := List.mem_map.1 ht;obtain ⟨b, hb, rfl⟩ := List.mem_map.1 hu;show Fit (zval (zOf a.1) * zval (zOf b.1));rw [zval_zOf, zval_zOf];have hm : (a.1 * b.1, addE a.2 b.2) ∈ mulUs p q := List.mem_flatMap.2 ⟨a, ha, List.mem_map.2 ⟨b, hb, rfl⟩⟩;have h1 := absU_mem hm;simp only [chkU, Bool.and_eq_true, decide_eq_true_eq] at h;exact fit_small (by simp only at h1; omega) (by simp only at h1; omega)
 have hP : ProdOk V (mkP V p) (mkP V q) (mkP V l) := ⟨degU_ok hd, hpr, hs⟩;exact pMul_ok V hV _ _ p3 q3 p1 q1 p2 q2 _ (fun x hx => by rw [hs.uniq hx.2.2]) (fun k => absurd ⟨_, hP⟩ k)
end Go.Proofs.YtcaecieigoplbaaGreat
/- poly.Sub. (Not built yet: needs a seat that reaches it.) -/
namespace Go.Proofs.YtcaecieigoplbaaGreat
open Go.AL
theorem fit_m1 : Fit (-1) := fit_small (by omega) (by omega)
theorem Sub1_io (V : Nat) (hV : V ≤ 32) (p q : PZ) (hwp : WP p) (hwq : WP q) (hp : OkP p) (hq : OkP q) (hpv : p.vars = V) (hqv : q.vars = V) (res : Res)
  (hr1 : ∀ r, SumOk V (plusU (-1) p q) r → res = .ret (aP r)) (hr2 : (¬ ∃ r, SumOk V (plusU (-1) p q) r) → res = .thr (thrown 4)) :
  IoFn Tryz.prog 203 [.ptr 900 0, .ptr 901 0] (bPQ p q) res (bPQ p q) := by
 have h := plus_io V hV p q (-1) fit_m1 hwp hwq hp hq hpv hqv (fun t ht => (okZ_eq (hwq t ht) (hq.terms t ht).coef).2.le (by omega)) res hr1 hr2;refine IoFn.of_body Tryz.func203 rfl Tryz.ntmps203 rfl rfl rfl ?_;by_cases hg : ∃ r, SumOk V (plusU (-1) p q) r
 ·obtain ⟨r, hr⟩ := hg;have e1 := hr1 r hr;subst e1;(repeat' (first |refine qv ?_ |apply qn |apply qs |apply qr |refine qe ?_|fail));refine qc (Of_ok (-1) (by omega) (by omega)) ?_;skip;refine Fl.io rfl [] h rfl rfl (LeL.refl _) rfl trivial rfl rfl rfl rfl rfl ?_;(repeat' (first |refine Fl.nil (fun _ => by kernel_rfl) ?_ |refine qe ?_ |apply qt));exact ⟨⟨[], _, _, Ent.refl _ _ _, rfl, AV.Le.refl _, rfl, ⟨⟨⟨_, rfl, BLe.cells (LeL.refl _)⟩, rfl⟩, ⟨⟨_, rfl, BLe.cells (LeL.refl _)⟩, rfl⟩, trivial⟩, rfl, rfl⟩⟩
 ·have e1 := hr2 hg;subst e1;(repeat' (first |refine qv ?_ |apply qn |apply qs |apply qr |refine qe ?_|fail));refine qc (Of_ok (-1) (by omega) (by omega)) ?_;skip;exact Fl.thrC rfl [] h rfl (LeL.refl _) rfl trivial rfl (fun _ => by kernel_rfl) (fun _ => rfl)
theorem pSub_ok (V : Nat) (hV : V ≤ 32) (p q : PZ) (hwp : WP p) (hwq : WP q) (hp : OkP p) (hq : OkP q) (hpv : p.vars = V) (hqv : q.vars = V) (r : AV)
  (hr1 : ∀ x, SumOk V (plusU (-1) p q) x → r = .tup [aP x, aN 0]) (hr2 : (¬ ∃ x, SumOk V (plusU (-1) p q) x) → r = .tup [aP ⟨0, []⟩, aN 4]) :
  PureFn Tryz.prog 161 [aP p, aP q] r := by
 refine PureFn.of_body Tryz.func161 rfl Tryz.ntmps161 rfl rfl ?_;have hb := both_ok p q hwp hwq;rw [bothE_ok hp hq, if_pos (hpv.trans hqv.symm)] at hb;(repeat' (first |refine qv ?_ |apply qn |apply qs |apply qr |refine qe ?_|fail));refine qc (hb) ?_;(repeat' (first |refine qv ?_ |apply qn |apply qs |apply qr |refine AWP.condF rfl ?_ |apply qk));by_cases hg : ∃ x, SumOk V (plusU (-1) p q) x
 ·obtain ⟨x, hx⟩ := hg;rw [hr1 x hx]
  have hx' : ∀ y, SumOk V (plusU (-1) p q) y → (Res.ret (aP x)) = .ret (aP y) := fun y hy => by
   have := (hr1 x hx).symm.trans (hr1 y hy);injection this with this;injection this with this;rw [this]
  refine Fl.io rfl [(900, 2), (901, 3)] (tried_ret (Sub1_io V hV p q hwp hwq hp hq hpv hqv (.ret (aP x)) hx' (fun h => absurd ⟨x, hx⟩ h))) rfl rfl (LeL.refl _) rfl ⟨⟨⟨_, rfl, BLe.cells (LeL.refl _)⟩, rfl⟩, ⟨⟨_, rfl, BLe.cells (LeL.refl _)⟩, rfl⟩, trivial⟩ rfl rfl rfl rfl rfl ?_;(repeat' (first |refine qv ?_ |apply qn |refine qe ?_ |apply qt));exact RetOk.of rfl (AV.Le.refl _)
 ·rw [hr2 hg];refine Fl.io rfl [(900, 2), (901, 3)] (tried_thr (Sub1_io V hV p q hwp hwq hp hq hpv hqv _ (fun y hy => absurd ⟨y, hy⟩ hg) (fun _ => rfl))) rfl rfl (LeL.refl _) rfl ⟨⟨⟨_, rfl, BLe.cells (LeL.refl _)⟩, rfl⟩, ⟨⟨_, rfl, BLe.cells (LeL.refl _)⟩, rfl⟩, trivial⟩ rfl rfl rfl rfl rfl ?_;(repeat' (first |refine qv ?_ |apply qn |refine qe ?_ |apply qt));exact RetOk.of rfl (AV.Le.refl _)
end Go.Proofs.YtcaecieigoplbaaGreat
/- poly.Var, poly.Const; expr's Kit: New, V, N, Sub, Add, Mul. -/
namespace Go.AL
def unU (V i : Nat) : List Int := (List.replicate V 0).set i 1
def varU (V i : Nat) : List UT := [(1, unU V i)]
def conU (V : Nat) (c : Int) : List UT := if c = 0 then [] else [(c, List.replicate V 0)]
def okSums (V : Nat) : List UT → List (List UT) → Bool
  | acc, [] => chkU V acc acc
  | acc, p :: l => chkU V acc acc && chkU V p p && chkU V (addUs 1 acc p) (addL acc p) && okSums V (addL acc p) l
def okMuls (V : Nat) : List UT → List (List UT) → Bool
  | acc, [] => chkU V acc acc
  | acc, p :: l => chkU V acc acc && chkU V p p && degU acc p && chkU V (mulUs acc p) (mulL2 acc p) && okMuls V (mulL2 acc p) l
def sumsU (acc : List UT) (l : List (List UT)) : List UT := l.foldl addL acc
def mulsU (acc : List UT) (l : List (List UT)) : List UT := l.foldl mulL2 acc
end Go.AL
namespace Go.Proofs.YtcaecieigoplbaaGreat
open Go.AL
abbrev aK (V : Nat) : AV := .agg [aN V]
theorem pVarP_ok (V i : Nat) (hV : V ≤ 32) (hi : i < V) : PureFn Tryz.prog 135 [aN V, aN i] (.tup [aP (mkP V (varU V i)), aN 0]) := by
 refine PureFn.of_body Tryz.func135 rfl Tryz.ntmps135 rfl rfl ?_;refine AWP.seqS ?_;(repeat' (first |refine qv ?_ |apply qn |apply qr |refine qe ?_|fail));refine ⟨AWP.seqS ?_⟩;(repeat' (first |refine qv ?_ |apply qn |apply qs |apply qr |(refine AWP.condD rfl ?_ ?_ <;> intro _ <;> try (exfalso; omega)) |apply qk |(refine Fl.splitD rfl rfl ?_ ?_ <;> intro _ <;> try (exfalso; omega))));refine ⟨AWP.seqS ?_⟩;(repeat' (first |refine qv ?_ |apply qn |apply qr |refine Fl.make rfl rfl rfl rfl rfl rfl rfl rfl rfl rfl eI 0 (by exact LeL.refl _) (by rfl) (by first | omega | (dsimp only; omega)) (by first | omega | (dsimp only; omega)) (by first | omega | (dsimp only; omega)) ?_|fail));refine ⟨AWP.seqS ?_⟩;(repeat' (first |refine qv ?_ |apply qn |apply qr |refine Fl.rel rfl rfl rfl rfl rfl rfl rfl rfl (by omega) (by first | omega | (simp; omega)) ?_ |refine Fl.rst rfl rfl rfl rfl rfl rfl rfl rfl rfl rfl rfl (LeL.refl _) rfl (by first | omega | (simp; omega)) ?_|fail));refine ⟨?_⟩;refine AWP.ent (Ent.freeze 24 rfl) ?_;(repeat' (first |refine qv ?_ |apply qs |apply qr));refine qc (Of_ok 1 (by omega) (by omega)) ?_;(repeat' (first |refine qv ?_ |refine qe ?_|fail));refine ql eT [⟨zOf 1, unU V i⟩] ?_;(repeat' (first |refine qv ?_ |apply qn |refine qe ?_ |apply qt));exact RetOk.of rfl (AV.Le.refl _)
theorem xCopy_ok (X : List Int) (hX : ∀ x ∈ X, Fit x) (hl : X.length ≤ 1000000) : PureFn Tryz.prog 217 [.sl 2 eX X] (.sl 2 eX X) := by
 refine PureFn.of_body Tryz.func217 rfl Tryz.ntmps217 rfl rfl ?_;refine AWP.seqS ?_;(repeat' (first |refine qv ?_ |apply qn |apply qr));refine ⟨AWP.seqS ?_⟩;(repeat' (first |refine qv ?_ |apply qr));refine Fl.make rfl rfl rfl rfl rfl rfl rfl rfl rfl rfl eX 0 (by exact leX_zero (σ := []) rfl) (by rfl) (by omega) (by dsimp only; omega) (by omega) ?_;(repeat' (first |refine qv ?_ |apply qn));refine ⟨?_⟩;refine AWP.seqJ (G := Unit) (fun _ => True) (fun _ => St.of [] [(3, .row 8)] [(8, .row 2 eX X 35)]) ?_ ?_
 ·(repeat' (first |refine qv ?_ |apply qn |apply qs |apply qr |apply qb));refine AWP.loop (G := Nat) (fun i => i ≤ X.length) (fun i => St.of [] [(3, .row 8), (9, .sl 2 eX X), (10, aN X.length), (11, aN i)] [(8, .row 2 eX (X.take i ++ List.replicate (X.length - i) 0) 35)]) (fun i => X.length - i) 0 (by omega) ?_ ?_
  ·refine Ent.of [] ?_ ?_ rfl rfl;(repeat' (first |exact True.intro |refine ⟨⟨AV.Le.refl _, rfl⟩, ?_⟩ |refine ⟨⟨⟨_, rfl, BLe.row rfl⟩, rfl⟩, ?_⟩|fail))
  ·intro i h0
   have hli : (X.take i ++ List.replicate (X.length - i) (0 : Int)).length = X.length := by simp; omega
   (repeat' (first |refine qv ?_ |apply qn |apply qs |apply qr |refine qe ?_ |(refine AWP.condD rfl ?_ ?_ <;> intro _ <;> try (exfalso; omega)) |apply qb |apply qk |apply qx |(refine Fl.el rfl rfl rfl rfl rfl rfl rfl rfl (by omega) (by omega) ?_; intro _ _)|fail))
   ·rename_i hi x hx;rw [Int.toNat_natCast] at hx;have hxl := (hX x (List.mem_of_getElem? hx)).len;refine Fl.ap0C rfl rfl rfl rfl rfl rfl rfl eW rfl (fun _ => rfl) (fun _ => rfl) (AV.Le.refl _) (by dsimp only; omega) (by omega) ?_;(repeat' (first |refine qv ?_ |apply qn |refine Fl.nil (fun _ => by kernel_rfl) ?_ |apply qr |refine qw ?_ |refine qe ?_ |refine Fl.rel rfl rfl rfl rfl rfl rfl rfl rfl (by omega) (by first | omega | (simp; omega)) ?_ |refine Fl.rst rfl rfl rfl rfl rfl rfl rfl rfl rfl rfl rfl (LeL.refl _) rfl (by first | omega | (simp; omega)) ?_|fail));refine LoopEnd.of (i + 1) (by omega) (by omega) ?_;refine Ent.of [] ?_ ?_ rfl rfl;(repeat' (first |exact True.intro |refine ⟨⟨AV.Le.refl _, rfl⟩, ?_⟩ |refine ⟨⟨⟨_, rfl, BLe.row ?_⟩, rfl⟩, ?_⟩|fail));rw [take_snoc hx];exact set_rep (by rw [List.length_take]; omega) (by omega) rfl
   ·have hi : i = X.length := by omega
    refine JoinOk.of () trivial ?_;refine Ent.of [] ?_ ?_ rfl rfl;(repeat' (first |exact True.intro |refine ⟨⟨AV.Le.refl _, rfl⟩, ?_⟩ |refine ⟨⟨⟨_, rfl, BLe.row ?_⟩, rfl⟩, ?_⟩|fail));rw [hi]; simp
 ·intro _ _;(repeat' (first |refine qv ?_ |apply qn |apply qs |apply qr |apply qt));refine RetOk.ent (Ent.freeze 8 rfl) ?_;exact RetOk.of rfl (AV.Le.refl _)
theorem constant_ok (V : Nat) (x : Int) (hV : V ≤ 32) (hx : Fit x) : PureFn Tryz.prog 181 [aN V, aX x] (aP (mkP V (conU V x))) := by
 refine PureFn.of_body Tryz.func181 rfl Tryz.ntmps181 rfl rfl ?_;refine AWP.seqS ?_;(repeat' (first |apply qn |apply qr |refine qe ?_|fail));refine ⟨AWP.seqS ?_⟩;(repeat' (first |refine qv ?_ |apply qn |apply qr |refine qe ?_|fail));refine ⟨?_⟩;refine AWP.seq ?_;(repeat' (first |refine qv ?_ |apply qs |apply qr));refine qc (ZeroX_ok x) ?_;(repeat' (first |refine qv ?_ |apply qn |apply qs |apply qr |refine qe ?_ |(refine AWP.condN rfl ?_ ?_ <;> intro _ <;> try (exfalso; omega)) |apply qk |apply qt))
 ·rename_i h0;refine ql eX [x] ?_;skip;have e0 : [x][(0 : Int).toNat]? = some x := rfl;refine qc (xCopy_ok [x] (by simp [hx]) (by simp)) ?_;(repeat' (first | refine Fl.v rfl rfl rfl ?_ | refine Fl.elK rfl rfl rfl rfl rfl rfl rfl rfl (by assumption) (by omega) ?_ | fail));refine Fl.makeC rfl rfl rfl rfl rfl rfl rfl rfl rfl eI 0 (by exact LeL.refl _) (by rfl) (by omega) (by dsimp only; omega) (by omega) ?_;(repeat' (first |refine qe ?_|fail));refine ql eT [⟨zOf x, List.replicate V 0⟩] ?_;(repeat' (first |refine qv ?_ |apply qn |refine Fl.nil (fun _ => by kernel_rfl) ?_ |apply qs |apply qr |refine qe ?_ |apply qt));refine RetOk.of rfl ?_;rw [conU, if_neg h0];exact AV.Le.refl _
 ·rename_i h0;refine RetOk.of rfl ?_;rw [conU, if_pos h0];exact AV.Le.agg (LeL.cons (AV.Le.refl _) (LeL.cons (AV.Le.nil 3 eT) LeL.nil))
theorem pConstP_ok (V : Nat) (x : Int) (hV : V ≤ 32) (hx : Fit x) : PureFn Tryz.prog 136 [aN V, aX x] (.tup [aP (mkP V (conU V x)), aN 0]) := by
 refine PureFn.of_body Tryz.func136 rfl Tryz.ntmps136 rfl rfl ?_;(repeat' (first |refine qv ?_ |apply qn |apply qs |apply qr |refine qe ?_|fail));refine qc (Valid_int x hx) ?_;(repeat' (first |refine qv ?_ |apply qn |apply qs |apply qr |refine AWP.condF rfl ?_ |(refine AWP.condD rfl ?_ ?_ <;> intro _ <;> try (exfalso; omega)) |apply qk));refine qc (constant_ok V x hV hx) ?_;(repeat' (first |refine qv ?_ |apply qn |refine qe ?_ |apply qt));exact RetOk.of rfl (AV.Le.refl _)
theorem kNew_ok (V : Nat) : PureFn Tryz.prog 63 [aN V] (aK V) := by
 refine PureFn.of_body Tryz.func63 rfl Tryz.ntmps63 rfl rfl ?_;(repeat' (first |refine qv ?_ |apply qn |apply qs |apply qr |refine qe ?_ |apply qt));exact RetOk.of rfl (AV.Le.refl _)
theorem kV_ok (V i : Nat) (hV : V ≤ 32) (hi : i < V) : PureFn Tryz.prog 64 [aK V, aN i] (aP (mkP V (varU V i))) := by
 refine PureFn.of_body Tryz.func64 rfl Tryz.ntmps64 rfl rfl ?_;(repeat' (first |refine qv ?_ |apply qn |apply qs |apply qr |refine qe ?_|fail));refine qc (pVarP_ok V i hV hi) ?_;(repeat' (first |refine qv ?_ |apply qn |apply qs |apply qr |refine qe ?_ |apply qt));exact RetOk.of rfl (AV.Le.refl _)
theorem kN_ok (V : Nat) (c : Int) (hV : V ≤ 32) (h0 : -4294967296 < c) (h1 : c < 4294967296) : PureFn Tryz.prog 65 [aK V, aN c] (aP (mkP V (conU V c))) := by
 refine PureFn.of_body Tryz.func65 rfl Tryz.ntmps65 rfl rfl ?_;(repeat' (first |refine qv ?_ |apply qn |apply qs |apply qr |refine qe ?_|fail));refine qc (Of_ok c (by omega) (by omega)) ?_;skip;refine qc (pConstP_ok V c hV (fit_small (by omega) (by omega))) ?_;(repeat' (first |refine qv ?_ |apply qn |refine Fl.nil (fun _ => by kernel_rfl) ?_ |apply qs |apply qr |refine qe ?_ |apply qt));exact RetOk.of rfl (AV.Le.refl _)
theorem subMk (V : Nat) (hV : V ≤ 32) (p q l : List UT) (hp : chkU V p p = true) (hq : chkU V q q = true) (h : chkU V (addUs (-1) p q) l = true) : PureFn Tryz.prog 161 [aP (mkP V p), aP (mkP V q)] (.tup [aP (mkP V l), aN 0]) := by
 obtain ⟨p1, p2, p3⟩ := mk_ok hV hp;obtain ⟨q1, q2, q3⟩ := mk_ok hV hq
 have hs : SumOk V (plusU (-1) (mkP V p) (mkP V q)) (mkP V l) := by rw [plusU_mk]; exact chkU_ok hV h
 exact pSub_ok V hV _ _ p3 q3 p1 q1 p2 q2 _ (fun x hx => by rw [hs.uniq hx]) (fun k => absurd ⟨_, hs⟩ k)
theorem kSub_ok (V : Nat) (hV : V ≤ 32) (p q l : List UT) (hp : chkU V p p = true) (hq : chkU V q q = true) (h : chkU V (addUs (-1) p q) l = true) : PureFn Tryz.prog 93 [aK V, aP (mkP V p), aP (mkP V q)] (aP (mkP V l)) := by
 refine PureFn.of_body Tryz.func93 rfl Tryz.ntmps93 rfl rfl ?_;(repeat' (first |refine qv ?_ |apply qn |apply qs |apply qr |refine qe ?_|fail));refine qc (subMk V hV p q l hp hq h) ?_;(repeat' (first |refine qv ?_ |apply qn |apply qs |apply qr |refine qe ?_ |apply qt));exact RetOk.of rfl (AV.Le.refl _)
end Go.Proofs.YtcaecieigoplbaaGreat
/- Kit.Add, Kit.Mul. -/
namespace Go.AL
theorem okSums_cons {V : Nat} {acc p : List UT} {l : List (List UT)} (h : okSums V acc (p :: l) = true) : chkU V acc acc = true ∧ chkU V p p = true ∧ chkU V (addUs 1 acc p) (addL acc p) = true ∧ okSums V (addL acc p) l = true := by
 simp only [okSums, Bool.and_eq_true] at h;exact ⟨h.1.1.1, h.1.1.2, h.1.2, h.2⟩
theorem okMuls_cons {V : Nat} {acc p : List UT} {l : List (List UT)} (h : okMuls V acc (p :: l) = true) : chkU V acc acc = true ∧ chkU V p p = true ∧ degU acc p = true ∧ chkU V (mulUs acc p) (mulL2 acc p) = true ∧ okMuls V (mulL2 acc p) l = true := by
 simp only [okMuls, Bool.and_eq_true] at h;exact ⟨h.1.1.1.1, h.1.1.1.2, h.1.1.2, h.1.2, h.2⟩
theorem drop_cons {α : Type} {l : List α} {i : Nat} {x : α} (h : l[i]? = some x) : l.drop i = x :: l.drop (i + 1) := by
 have hi := List.getElem?_eq_some_iff.1 h;rw [List.drop_eq_getElem_cons hi.1, hi.2]
end Go.AL
namespace Go.Proofs.YtcaecieigoplbaaGreat
open Go.AL
theorem kAdd_ok (V : Nat) (hV : V ≤ 32) (ls : List (List UT)) (hl : ls.length ≤ 1000) (h : okSums V [] ls = true) : PureFn Tryz.prog 66 [aK V, .sl 2 eP (ls.map (mkP V))] (aP (mkP V (sumsU [] ls))) := by
 refine PureFn.of_body Tryz.func66 rfl Tryz.ntmps66 rfl rfl ?_;have hN := kN_ok V 0 hV (by omega) (by omega);rw [show conU V 0 = [] from rfl] at hN;refine AWP.seqS ?_;(repeat' (first |apply qn |apply qr |refine qe ?_|fail));refine ⟨AWP.seqS ?_⟩;(repeat' (first |refine qv ?_ |apply qr));refine qc (hN) ?_;(repeat' (first |apply qn |refine qe ?_|fail));refine ⟨?_⟩;obtain ⟨L, hL⟩ : ∃ L, L = ls.map (mkP V) := ⟨_, rfl⟩
 have hLl : L.length = ls.length := by rw [hL, List.length_map]
 rw [← hL];(repeat' (first |refine qv ?_ |apply qn |apply qs |apply qr |apply qb));refine AWP.loop (G := Nat × List UT) (fun (i, acc) => i ≤ ls.length ∧ okSums V acc (ls.drop i) = true ∧ sumsU acc (ls.drop i) = sumsU [] ls) (fun (i, acc) => St.of [] [(4, .ptr 4 0), (5, .ptr 5 0), (10, .sl 2 eP L), (11, aN L.length), (12, aN i)] [(4, .cells [aN 0, .v (.slice none 0 0)] 70), (5, .cells (eP (mkP V acc)) 70)]) (fun (i, acc) => ls.length - i) (0, []) ⟨by omega, h, rfl⟩ ?_ ?_
 ·refine Ent.of [] ?_ ?_ rfl rfl;(repeat' (first |exact True.intro |refine ⟨⟨AV.Le.refl _, rfl⟩, ?_⟩ |refine ⟨⟨⟨_, rfl, BLe.cells (LeL.refl _)⟩, rfl⟩, ?_⟩|fail))
 ·intro ⟨i, acc⟩ ⟨h0, h1, h2⟩;(repeat' (first |refine qv ?_ |apply qn |apply qs |apply qr |refine qe ?_ |(refine AWP.condD rfl ?_ ?_ <;> intro _ <;> try (exfalso; omega)) |apply qb |apply qk |apply qx |apply qt |(refine Fl.el rfl rfl rfl rfl rfl rfl rfl rfl (by omega) (by omega) ?_; intro _ _)|fail))
  ·rename_i hi p hp;rw [Int.toNat_natCast, hL, List.getElem?_map] at hp;obtain ⟨q, hq, rfl⟩ := Option.map_eq_some_iff.1 hp;rw [drop_cons hq] at h1 h2;obtain ⟨c1, c2, c3, c4⟩ := okSums_cons h1;refine qc (addMk V hV acc q _ c1 c2 c3) ?_;(repeat' (first |refine qv ?_ |apply qn |apply qr |refine qw ?_ |refine qe ?_|fail));refine LoopEnd.of (i + 1, addL acc q) ⟨by omega, c4, h2⟩ (by simp only; omega) ?_;refine Ent.of [] ?_ ?_ rfl rfl;(repeat' (first |exact True.intro |refine ⟨⟨AV.Le.refl _, rfl⟩, ?_⟩ |refine ⟨⟨⟨_, rfl, BLe.cells (LeL.refl _)⟩, rfl⟩, ?_⟩|fail))
  ·rename_i hi;rw [List.drop_of_length_le (by omega)] at h2;refine RetOk.of rfl (AV.Le.of_eq ?_);rw [← h2]; rfl
theorem kMul_ok (V : Nat) (hV : V ≤ 32) (ls : List (List UT)) (hl : ls.length ≤ 1000) (h : okMuls V (conU V 1) ls = true) : PureFn Tryz.prog 67 [aK V, .sl 2 eP (ls.map (mkP V))] (aP (mkP V (mulsU (conU V 1) ls))) := by
 refine PureFn.of_body Tryz.func67 rfl Tryz.ntmps67 rfl rfl ?_;have hN := kN_ok V 1 hV (by omega) (by omega);refine AWP.seqS ?_;(repeat' (first |apply qn |apply qr |refine qe ?_|fail));refine ⟨AWP.seqS ?_⟩;(repeat' (first |refine qv ?_ |apply qr));refine qc (hN) ?_;(repeat' (first |apply qn |refine qe ?_|fail));refine ⟨?_⟩;obtain ⟨L, hL⟩ : ∃ L, L = ls.map (mkP V) := ⟨_, rfl⟩
 have hLl : L.length = ls.length := by rw [hL, List.length_map]
 rw [← hL];(repeat' (first |refine qv ?_ |apply qn |apply qs |apply qr |apply qb));refine AWP.loop (G := Nat × List UT) (fun (i, acc) => i ≤ ls.length ∧ okMuls V acc (ls.drop i) = true ∧ mulsU acc (ls.drop i) = mulsU (conU V 1) ls) (fun (i, acc) => St.of [] [(4, .ptr 4 0), (5, .ptr 5 0), (10, .sl 2 eP L), (11, aN L.length), (12, aN i)] [(4, .cells [aN 0, .v (.slice none 0 0)] 70), (5, .cells (eP (mkP V acc)) 70)]) (fun (i, acc) => ls.length - i) (0, conU V 1) ⟨by omega, h, rfl⟩ ?_ ?_
 ·refine Ent.of [] ?_ ?_ rfl rfl;(repeat' (first |exact True.intro |refine ⟨⟨AV.Le.refl _, rfl⟩, ?_⟩ |refine ⟨⟨⟨_, rfl, BLe.cells (LeL.refl _)⟩, rfl⟩, ?_⟩|fail))
 ·intro ⟨i, acc⟩ ⟨h0, h1, h2⟩;(repeat' (first |refine qv ?_ |apply qn |apply qs |apply qr |refine qe ?_ |(refine AWP.condD rfl ?_ ?_ <;> intro _ <;> try (exfalso; omega)) |apply qb |apply qk |apply qx |apply qt |(refine Fl.el rfl rfl rfl rfl rfl rfl rfl rfl (by omega) (by omega) ?_; intro _ _)|fail))
  ·rename_i hi p hp;rw [Int.toNat_natCast, hL, List.getElem?_map] at hp;obtain ⟨q, hq, rfl⟩ := Option.map_eq_some_iff.1 hp;rw [drop_cons hq] at h1 h2;obtain ⟨c1, c2, c3, c4, c5⟩ := okMuls_cons h1;refine qc (mulMk V hV acc q _ c1 c2 c3 c4) ?_;(repeat' (first |refine qv ?_ |apply qn |apply qr |refine qw ?_ |refine qe ?_|fail));refine LoopEnd.of (i + 1, mulL2 acc q) ⟨by omega, c5, h2⟩ (by simp only; omega) ?_;refine Ent.of [] ?_ ?_ rfl rfl;(repeat' (first |exact True.intro |refine ⟨⟨AV.Le.refl _, rfl⟩, ?_⟩ |refine ⟨⟨⟨_, rfl, BLe.cells (LeL.refl _)⟩, rfl⟩, ?_⟩|fail))
  ·rename_i hi;rw [List.drop_of_length_le (by omega)] at h2;refine RetOk.of rfl (AV.Le.of_eq ?_);rw [← h2]; rfl
end Go.Proofs.YtcaecieigoplbaaGreat
/- Kit.Link: its closures; what occurs. -/
namespace Go.AL
def occL (V : Nat) (ls : List (List UT)) : List Nat := (List.range V).filter fun i => ls.any fun p => p.any fun u => decide (0 < u.2.getD i 0)
def pickE (occ : List Nat) (e : List Int) : List Int := occ.map fun i => e.getD i 0
def pickU (occ : List Nat) (p : List UT) : List UT := p.map fun u => (u.1, pickE occ u.2)
def linkU (V : Nat) (kind : Int) (ls : List (List UT)) : LZ := ⟨kind, (occL V ls).map fun (i : Nat) => (i : Int), ls.map fun p => mkP (occL V ls).length (pickU (occL V ls) p)⟩
end Go.AL
namespace Go.Proofs.YtcaecieigoplbaaGreat
open Go.AL
abbrev iB (i : Int) : List (AL.Id × Bx) := [(900, .cells [aN i] 3)]
theorem idxT_ok (o : Int) (f : TZ → Bool) (ps : List TZ) (hl : ps.length ≤ 1000000) (hf : ∀ p ∈ ps, IoFn Tryz.prog 142 ([aT p] ++ [.ptr 900 0]) (iB o) (.ret (aB (f p))) (iB o)) :
  IoFn Tryz.prog 189 [.sl 3 eT ps, .fn 142 [.ptr 900 0]] (iB o) (.ret (aN (idxI f ps 0))) (iB o) := by
 refine IoFn.of_body Tryz.func189 rfl Tryz.ntmps189 rfl rfl rfl ?_;(repeat' (first |refine qv ?_ |apply qn |apply qs |apply qr |apply qb));refine AWP.loop (G := Nat) (fun i => i ≤ ps.length ∧ idxI f (ps.drop i) i = idxI f ps 0) (fun i => St.of [900] [(0, .sl 3 eT ps), (1, .fn 142 [.ptr 900 0]), (7, aN ps.length), (8, aN i)] [(900, .cells [aN o] 3)]) (fun i => ps.length - i) 0 ⟨by omega, by simp⟩ ?_ ?_
 ·refine Ent.of [] ?_ ?_ rfl rfl;(repeat' (first |exact True.intro |refine ⟨⟨AV.Le.refl _, rfl⟩, ?_⟩ |refine ⟨⟨⟨_, rfl, BLe.cells (LeL.refl _)⟩, rfl⟩, ?_⟩|fail))
 ·intro i ⟨k0, k1⟩;(repeat' (first |refine qv ?_ |apply qn |apply qs |apply qr |(refine AWP.condD rfl ?_ ?_ <;> intro _ <;> try (exfalso; omega)) |apply qb |apply qk |apply qx |apply qt |(refine Fl.el rfl rfl rfl rfl rfl rfl rfl rfl (by omega) (by omega) ?_; intro _ _)|fail))
  ·rename_i hi p hp;rw [Int.toNat_natCast] at hp;have hd := idxI_drop (f := f) hp;refine Fl.ioV rfl rfl [] (hf p (List.mem_of_getElem? hp)) rfl rfl (LeL.refl _) rfl ⟨⟨⟨_, rfl, BLe.cells (LeL.refl _)⟩, rfl⟩, trivial⟩ rfl rfl rfl rfl rfl ?_;(repeat' (first |refine qv ?_ |apply qn |apply qs |apply qr |refine qw ?_ |apply qk |apply qt |(refine AWP.condB rfl ?_ ?_ <;> intro _)))
   ·rename_i hb;rw [if_pos hb] at hd;refine ⟨⟨[], _, _, Ent.refl _ _ _, rfl, AV.Le.int ?_, rfl, ⟨⟨⟨_, rfl, BLe.cells (LeL.refl _)⟩, rfl⟩, trivial⟩, rfl, rfl⟩⟩;rw [← k1, hd]
   ·rename_i hb;rw [if_neg (by rw [hb]; simp)] at hd;refine LoopEnd.of (i + 1) ⟨by omega, by rw [← k1, hd]⟩ (by omega) ?_;refine Ent.of [] ?_ ?_ rfl rfl;(repeat' (first |exact True.intro |refine ⟨⟨AV.Le.refl _, rfl⟩, ?_⟩ |refine ⟨⟨⟨_, rfl, BLe.cells (LeL.refl _)⟩, rfl⟩, ?_⟩|fail))
  ·refine ⟨⟨[], _, _, Ent.refl _ _ _, rfl, AV.Le.int ?_, rfl, ⟨⟨⟨_, rfl, BLe.cells (LeL.refl _)⟩, rfl⟩, trivial⟩, rfl, rfl⟩⟩;rw [← k1, List.drop_of_length_le (by omega)]; rfl
theorem conT_ok (o : Int) (f : TZ → Bool) (ps : List TZ) (hl : ps.length ≤ 1000000) (hf : ∀ p ∈ ps, IoFn Tryz.prog 142 ([aT p] ++ [.ptr 900 0]) (iB o) (.ret (aB (f p))) (iB o)) :
  IoFn Tryz.prog 141 [.sl 3 eT ps, .fn 142 [.ptr 900 0]] (iB o) (.ret (aB (ps.any f))) (iB o) := by
 refine IoFn.of_body Tryz.func141 rfl Tryz.ntmps141 rfl rfl rfl ?_;have h := idxT_ok o f ps hl hf;have he := idxI_any f ps 0 (by omega);(repeat' (first |refine qv ?_ |apply qn |apply qs |apply qr));refine qi [] h ?_;(repeat' (first |refine qv ?_ |apply qn |apply qt));exact ⟨⟨[], _, _, Ent.refl _ _ _, rfl, AV.Le.bool he, rfl, ⟨⟨⟨_, rfl, BLe.cells (LeL.refl _)⟩, rfl⟩, trivial⟩, rfl, rfl⟩⟩
theorem link11_ok (i : Nat) (t : TZ) (hi : i < t.e.length) : IoFn Tryz.prog 142 [aT t, .ptr 900 0] (iB i) (.ret (aB (decide (0 < t.e.getD i 0)))) (iB i) := by
 refine IoFn.of_body Tryz.func142 rfl Tryz.ntmps142 rfl rfl rfl ?_;(repeat' (first |refine qv ?_ |apply qn |apply qs |apply qr |refine qe ?_ |apply qt |(refine Fl.el rfl rfl rfl rfl rfl rfl rfl rfl (by omega) (by omega) ?_; intro _ _)|fail));rename_i x hx
 have hx : t.e[i]? = some x := by simpa using hx
 refine ⟨⟨[], _, _, Ent.refl _ _ _, rfl, AV.Le.bool ?_, rfl, ⟨⟨⟨_, rfl, BLe.cells (LeL.refl _)⟩, rfl⟩, trivial⟩, rfl, rfl⟩⟩;rw [List.getD_eq_getElem?_getD, hx];rfl
theorem idxK_ok (o : Int) (f : PZ → Bool) (ps : List PZ) (hl : ps.length ≤ 1000000) (hf : ∀ p ∈ ps, IoFn Tryz.prog 140 ([aP p] ++ [.ptr 900 0]) (iB o) (.ret (aB (f p))) (iB o)) :
  IoFn Tryz.prog 188 [.sl 2 eP ps, .fn 140 [.ptr 900 0]] (iB o) (.ret (aN (idxI f ps 0))) (iB o) := by
 refine IoFn.of_body Tryz.func188 rfl Tryz.ntmps188 rfl rfl rfl ?_;(repeat' (first |refine qv ?_ |apply qn |apply qs |apply qr |apply qb));refine AWP.loop (G := Nat) (fun i => i ≤ ps.length ∧ idxI f (ps.drop i) i = idxI f ps 0) (fun i => St.of [900] [(0, .sl 2 eP ps), (1, .fn 140 [.ptr 900 0]), (7, aN ps.length), (8, aN i)] [(900, .cells [aN o] 3)]) (fun i => ps.length - i) 0 ⟨by omega, by simp⟩ ?_ ?_
 ·refine Ent.of [] ?_ ?_ rfl rfl;(repeat' (first |exact True.intro |refine ⟨⟨AV.Le.refl _, rfl⟩, ?_⟩ |refine ⟨⟨⟨_, rfl, BLe.cells (LeL.refl _)⟩, rfl⟩, ?_⟩|fail))
 ·intro i ⟨k0, k1⟩;(repeat' (first |refine qv ?_ |apply qn |apply qs |apply qr |(refine AWP.condD rfl ?_ ?_ <;> intro _ <;> try (exfalso; omega)) |apply qb |apply qk |apply qx |apply qt |(refine Fl.el rfl rfl rfl rfl rfl rfl rfl rfl (by omega) (by omega) ?_; intro _ _)|fail))
  ·rename_i hi p hp;rw [Int.toNat_natCast] at hp;have hd := idxI_drop (f := f) hp;refine Fl.ioV rfl rfl [] (hf p (List.mem_of_getElem? hp)) rfl rfl (LeL.refl _) rfl ⟨⟨⟨_, rfl, BLe.cells (LeL.refl _)⟩, rfl⟩, trivial⟩ rfl rfl rfl rfl rfl ?_;(repeat' (first |refine qv ?_ |apply qn |apply qs |apply qr |refine qw ?_ |apply qk |apply qt |(refine AWP.condB rfl ?_ ?_ <;> intro _)))
   ·rename_i hb;rw [if_pos hb] at hd;refine ⟨⟨[], _, _, Ent.refl _ _ _, rfl, AV.Le.int ?_, rfl, ⟨⟨⟨_, rfl, BLe.cells (LeL.refl _)⟩, rfl⟩, trivial⟩, rfl, rfl⟩⟩;rw [← k1, hd]
   ·rename_i hb;rw [if_neg (by rw [hb]; simp)] at hd;refine LoopEnd.of (i + 1) ⟨by omega, by rw [← k1, hd]⟩ (by omega) ?_;refine Ent.of [] ?_ ?_ rfl rfl;(repeat' (first |exact True.intro |refine ⟨⟨AV.Le.refl _, rfl⟩, ?_⟩ |refine ⟨⟨⟨_, rfl, BLe.cells (LeL.refl _)⟩, rfl⟩, ?_⟩|fail))
  ·refine ⟨⟨[], _, _, Ent.refl _ _ _, rfl, AV.Le.int ?_, rfl, ⟨⟨⟨_, rfl, BLe.cells (LeL.refl _)⟩, rfl⟩, trivial⟩, rfl, rfl⟩⟩;rw [← k1, List.drop_of_length_le (by omega)]; rfl
theorem conK_ok (o : Int) (f : PZ → Bool) (ps : List PZ) (hl : ps.length ≤ 1000000) (hf : ∀ p ∈ ps, IoFn Tryz.prog 140 ([aP p] ++ [.ptr 900 0]) (iB o) (.ret (aB (f p))) (iB o)) :
  IoFn Tryz.prog 139 [.sl 2 eP ps, .fn 140 [.ptr 900 0]] (iB o) (.ret (aB (ps.any f))) (iB o) := by
 refine IoFn.of_body Tryz.func139 rfl Tryz.ntmps139 rfl rfl rfl ?_;have h := idxK_ok o f ps hl hf;have he := idxI_any f ps 0 (by omega);(repeat' (first |refine qv ?_ |apply qn |apply qs |apply qr));refine qi [] h ?_;(repeat' (first |refine qv ?_ |apply qn |apply qt));exact ⟨⟨[], _, _, Ent.refl _ _ _, rfl, AV.Le.bool he, rfl, ⟨⟨⟨_, rfl, BLe.cells (LeL.refl _)⟩, rfl⟩, trivial⟩, rfl, rfl⟩⟩
theorem linkK1_ok (i : Nat) (p : PZ) (hl : p.terms.length ≤ 1000000) (hi : ∀ t ∈ p.terms, i < t.e.length) : IoFn Tryz.prog 140 [aP p, .ptr 900 0] (iB i) (.ret (aB (p.terms.any fun t => decide (0 < t.e.getD i 0)))) (iB i) := by
 refine IoFn.of_body Tryz.func140 rfl Tryz.ntmps140 rfl rfl rfl ?_;have h := conT_ok i (fun t => decide (0 < t.e.getD i 0)) p.terms hl (fun t ht => link11_ok i t (hi t ht));(repeat' (first |refine qv ?_ |apply qn |apply qs |apply qr |refine qe ?_|fail))
 refine qi [] h ?_;(repeat' (first |refine qv ?_ |apply qn |apply qt));exact ⟨⟨[], _, _, Ent.refl _ _ _, rfl, AV.Le.refl _, rfl, ⟨⟨⟨_, rfl, BLe.cells (LeL.refl _)⟩, rfl⟩, trivial⟩, rfl, rfl⟩⟩
end Go.Proofs.YtcaecieigoplbaaGreat
/- Kit.Link, Kit.Eq: the walk. -/
namespace Go.AL
def occP (ls : List (List UT)) (i : Nat) : Bool := ls.any fun p => p.any fun u => decide (0 < u.2.getD i 0)
def occI (ls : List (List UT)) (i : Nat) : List Int := ((List.range i).filter (occP ls)).map fun (j : Nat) => (j : Int)
theorem occI_step (ls : List (List UT)) (i : Nat) : occI ls (i + 1) = if occP ls i = true then occI ls i ++ [(i : Int)] else occI ls i := by
 unfold occI;rw [List.range_succ, List.filter_append, List.map_append];by_cases h : occP ls i = true
 ·rw [if_pos h]; simp [h]
 ·rw [if_neg h]; simp [h]
theorem occI_len (ls : List (List UT)) (i : Nat) : (occI ls i).length ≤ i := by
 unfold occI;rw [List.length_map];exact Nat.le_trans (List.length_filter_le _ _) (by simp)
theorem occI_mem {ls : List (List UT)} {V : Nat} {x : Int} (h : x ∈ occI ls V) : 0 ≤ x ∧ x < V := by
 unfold occI at h;obtain ⟨j, hj, rfl⟩ := List.mem_map.1 h;have := (List.mem_filter.1 hj).1;rw [List.mem_range] at this;omega
theorem occP_any (V : Nat) (ls : List (List UT)) (i : Nat) : ((ls.map (mkP V)).any fun p => p.terms.any fun t => decide (0 < t.e.getD i 0)) = occP ls i := by
 unfold occP;rw [List.any_map];congr 1;funext p;simp only [Function.comp, mkP, List.any_map];rfl
def pickX (occ : List Int) (e : List Int) : List Int := occ.map fun x => e.getD x.toNat 0
theorem pickX_eq (occ : List Nat) (e : List Int) : pickX (occ.map fun (i : Nat) => (i : Int)) e = pickE occ e := by
 unfold pickX pickE;rw [List.map_map];rfl
end Go.AL
namespace Go.Proofs.YtcaecieigoplbaaGreat
open Go.AL
set_option maxHeartbeats 1000000 in
theorem kLink_ok (V : Nat) (kind : Int) (ls : List (List UT)) (hV : V ≤ 32) (hl : ls.length ≤ 1000) (hk : ∀ p ∈ ls, p.length ≤ 3000 ∧ ∀ u ∈ p, u.2.length = V) : PureFn Tryz.prog 68 [aK V, aN kind, .sl 2 eP (ls.map (mkP V))] (aL (linkU V kind ls)) := by
 refine PureFn.of_body Tryz.func68 rfl Tryz.ntmps68 rfl rfl ?_;obtain ⟨L, hL⟩ : ∃ L, L = ls.map (mkP V) := ⟨_, rfl⟩
 have hLl : L.length = ls.length := by rw [hL, List.length_map]
 rw [← hL]
 have hcon : ∀ i : Nat, i < V → IoFn Tryz.prog 139 [.sl 2 eP L, .fn 140 [.ptr 900 0]] (iB i) (.ret (aB (occP ls i))) (iB i) := fun i hi => by
  have h := conK_ok i (fun p => p.terms.any fun t => decide (0 < t.e.getD i 0)) L (by omega) (fun p hp => by
   rw [hL] at hp;obtain ⟨q, hq, rfl⟩ := List.mem_map.1 hp;have := hk q hq;refine linkK1_ok i (mkP V q) (by simp only [mkP, List.length_map]; omega) (fun t ht => ?_);obtain ⟨u, hu, rfl⟩ := List.mem_map.1 ht;have := this.2 u hu;show i < u.2.length
   omega)
  rw [hL, occP_any] at h;rw [hL];exact h
 refine AWP.seqS ?_;(repeat' (first |apply qn |apply qr |refine qe ?_|fail));refine ⟨AWP.seqS ?_⟩;(repeat' (first |refine qv ?_ |apply qn |apply qr |refine qe ?_|fail));refine ⟨?_⟩;refine AWP.ent (Ent.nilcell 7 1 805 rfl rfl rfl 1 eI 3) ?_;(repeat' (first |refine qv ?_ |apply qn |apply qs |apply qr |apply qb));refine AWP.loop (G := Nat) (fun i => i ≤ V) (fun i => St.of [] [(2, .sl 2 eP L), (6, .ptr 6 0), (7, .ptr 7 0), (20, aN V), (21, aN i)] [(6, .cells [aN 0, .v (.slice none 0 0), .v (.slice none 0 0)] 82), (7, .cells [aN kind, .row 700, .v (.slice none 0 0)] 82), (700, .row 1 eI (occI ls i) 3)]) (fun i => V - i) 0 (by omega) ?_ ?_
 ·refine Ent.of [(700, 805)] ?_ ?_ rfl rfl;(repeat' (first |exact True.intro |refine ⟨⟨AV.Le.refl _, rfl⟩, ?_⟩ |refine ⟨⟨⟨_, rfl, BLe.cells (LeL.refl _)⟩, rfl⟩, ?_⟩ |refine ⟨⟨⟨_, rfl, BLe.row rfl⟩, rfl⟩, ?_⟩|fail))
 ·intro i k0;have hol := occI_len ls i;have hst := occI_step ls i;(repeat' (first |refine qv ?_ |apply qn |apply qs |apply qr |refine qe ?_ |(refine AWP.condD rfl ?_ ?_ <;> intro _ <;> try (exfalso; omega)) |apply qb |apply qk |apply qx))
  ·rename_i hi;refine qi [(900, 8)] (hcon i (by omega)) ?_;(repeat' (first |refine qv ?_ |apply qn |apply qr |refine qw ?_ |apply qk |(refine AWP.condB rfl ?_ ?_ <;> intro _)))
   ·rename_i hb;rw [if_pos hb] at hst;refine ql eI [(i : Int)] ?_;skip;refine qa (hby := (by dsimp only [List.length_nil, List.length_cons]; omega)) (hm := (by simp; omega)) (r := ?_);(repeat' (first |refine qv ?_ |apply qn |apply qr |refine qw ?_ |refine qe ?_|fail));refine LoopEnd.of (i + 1) (by omega) (by omega) ?_;refine Ent.of [(700, 31)] ?_ ?_ rfl rfl;(repeat' (first |exact True.intro |refine ⟨⟨AV.Le.refl _, rfl⟩, ?_⟩ |refine ⟨⟨⟨_, rfl, BLe.cells (LeL.refl _)⟩, rfl⟩, ?_⟩ |refine ⟨⟨⟨_, rfl, BLe.row ?_⟩, rfl⟩, ?_⟩|fail));exact hst.symm
   ·rename_i hb;rw [if_neg (by rw [hb]; simp)] at hst;refine LoopEnd.of (i + 1) (by omega) (by omega) ?_;refine Ent.of [] ?_ ?_ rfl rfl;(repeat' (first |exact True.intro |refine ⟨⟨AV.Le.refl _, rfl⟩, ?_⟩ |refine ⟨⟨⟨_, rfl, BLe.cells (LeL.refl _)⟩, rfl⟩, ?_⟩ |refine ⟨⟨⟨_, rfl, BLe.row ?_⟩, rfl⟩, ?_⟩|fail));exact hst.symm
  ·rename_i hi
   have hiV : i = V := by omega
   subst hiV;have hom : ∀ (m : Nat) (x : Int), (occI ls i)[m]? = some x → 0 ≤ x ∧ x < i := fun m x hx => occI_mem (List.mem_of_getElem? hx);have hocc : occI ls i = (occL i ls).map fun (i : Nat) => (i : Int) := rfl
   have hon : (occL i ls).length = (occI ls i).length := by rw [hocc, List.length_map]
   have hres : linkU i kind ls = ⟨kind, occI ls i, ls.map fun p => mkP (occI ls i).length (p.map fun u => (u.1, pickX (occI ls i) u.2))⟩ := by
    unfold linkU;rw [← hocc, hon];congr 1;refine List.map_congr_left fun p _ => ?_;unfold pickU;congr 1;refine List.map_congr_left fun u _ => ?_;rw [hocc, pickX_eq]
   rw [hres]
   generalize occI ls i = occ at *
   refine AWP.ent (Ent.freeze 700 rfl) ?_;refine AWP.ent (Ent.nilcell 7 2 806 rfl rfl rfl 2 eP 70) ?_;skip;refine AWP.loop (G := Nat) (fun j => j ≤ ls.length) (fun j => St.of [] [(6, .ptr 6 0), (7, .ptr 7 0), (34, .sl 2 eP L), (35, aN L.length), (36, aN j)] [(6, .cells [aN 0, .v (.slice none 0 0), .v (.slice none 0 0)] 82), (7, .cells [aN kind, aI occ, .row 701] 82), (701, .row 2 eP ((ls.take j).map fun p => mkP occ.length (p.map fun u => (u.1, pickX occ u.2))) 70)]) (fun j => ls.length - j) 0 (by omega) ?_ ?_
   ·refine Ent.of [(701, 806)] ?_ ?_ rfl rfl;(repeat' (first |exact True.intro |refine ⟨⟨AV.Le.refl _, rfl⟩, ?_⟩ |refine ⟨⟨⟨_, rfl, BLe.cells (LeL.refl _)⟩, rfl⟩, ?_⟩ |refine ⟨⟨⟨_, rfl, BLe.row rfl⟩, rfl⟩, ?_⟩|fail))
   ·intro j g0
    have hlj : ((ls.take j).map fun p => mkP occ.length (p.map fun u => (u.1, pickX occ u.2))).length = j := by rw [List.length_map, List.length_take]; omega
    by_cases hj : j < ls.length
    ·obtain ⟨q, hq⟩ : ∃ q, ls[j]? = some q := ⟨_, List.getElem?_eq_getElem hj⟩
     have hLq : L[j]? = some (mkP i q) := by rw [hL, List.getElem?_map, hq]; rfl
     obtain ⟨hq1, hq2⟩ := hk q (List.mem_of_getElem? hq);refine AWP.seqS ?_;(repeat' (first |refine qv ?_ |apply qn |apply qr));refine ⟨?_⟩;refine AWP.seqS ?_;(repeat' (first |(refine AWP.condD rfl ?_ ?_ <;> intro _ <;> try (exfalso; omega)) |apply qk));refine ⟨?_⟩;refine AWP.seq (AWP.block (AWP.seqS ?_));(repeat' (first |refine qv ?_ |apply qn |apply qr |refine qe ?_ |refine qK ?_|fail));refine ⟨?_⟩;refine AWP.seqS ?_;(repeat' (first |refine qv ?_ |apply qn |apply qr |refine qe ?_|fail));refine ⟨?_⟩;refine AWP.ent (Ent.nilcell 11 1 807 rfl rfl rfl 3 eT 124) ?_;(repeat' (first |refine qv ?_ |apply qn |apply qs |apply qr |apply qb));obtain ⟨T, hT⟩ : ∃ T, T = (mkP i q).terms := ⟨_, rfl⟩
     have hTl : T.length = q.length := by rw [hT]; simp [mkP]
     refine AWP.loop (G := Nat) (fun k => k ≤ q.length) (fun k => St.of [] [(6, .ptr 6 0), (7, .ptr 7 0), (34, .sl 2 eP L), (35, aN L.length), (36, aN j), (11, .ptr 11 0), (45, .sl 3 eT T), (46, aN T.length), (47, aN k)] [(6, .cells [aN 0, .v (.slice none 0 0), .v (.slice none 0 0)] 82), (7, .cells [aN kind, aI occ, .row 701] 82), (701, .row 2 eP ((ls.take j).map fun p => mkP occ.length (p.map fun u => (u.1, pickX occ u.2))) 70), (11, .cells [aN occ.length, .row 702] 70), (702, .row 3 eT (((q.take k).map fun u => (u.1, pickX occ u.2)).map tz) 124)]) (fun k => q.length - k) 0 (by omega) ?_ ?_
     ·refine Ent.of [(702, 807)] ?_ ?_ rfl rfl;(repeat' (first |exact True.intro |refine ⟨⟨AV.Le.refl _, rfl⟩, ?_⟩ |refine ⟨⟨⟨_, rfl, BLe.cells (LeL.refl _)⟩, rfl⟩, ?_⟩ |refine ⟨⟨⟨_, rfl, BLe.row rfl⟩, rfl⟩, ?_⟩ |refine ⟨⟨AV.Le.int ?_, rfl⟩, ?_⟩ |refine ⟨⟨AV.Le.sl ?_, rfl⟩, ?_⟩|fail))
      ·exact hT.symm
      ·rw [hTl]; simp [mkP]
     ·intro k e0
      have hlk : (((q.take k).map fun u => (u.1, pickX occ u.2)).map tz).length = k := by rw [List.length_map, List.length_map, List.length_take]; omega
      by_cases hkq : k < q.length
      ·obtain ⟨u, hu⟩ : ∃ u, q[k]? = some u := ⟨_, List.getElem?_eq_getElem hkq⟩
       have hTu : T[k]? = some (tz u) := by rw [hT]; show (q.map tz)[k]? = _; rw [List.getElem?_map, hu]; rfl
       have hul := hq2 u (List.mem_of_getElem? hu);refine AWP.seqS ?_;(repeat' (first |refine qv ?_ |apply qn |apply qr));refine ⟨?_⟩;refine AWP.seqS ?_;(repeat' (first |(refine AWP.condD rfl ?_ ?_ <;> intro _ <;> try (exfalso; omega)) |apply qk));refine ⟨AWP.seq (AWP.block (AWP.seqS ?_))⟩;(repeat' (first |refine qv ?_ |apply qn |apply qr |refine qe ?_ |refine qK ?_|fail));refine ⟨AWP.seqS ?_⟩;(repeat' (first |refine qv ?_ |apply qr));refine Fl.make0 rfl rfl rfl rfl rfl rfl rfl rfl rfl eI (by omega) (by dsimp only; omega) (by omega) ?_;(repeat' (first |refine qv ?_ |apply qn));refine ⟨AWP.seq ?_⟩;(repeat' (first |refine qv ?_ |apply qn |apply qs |apply qr |apply qb));refine AWP.loop (G := Nat) (fun m => m ≤ occ.length) (fun m => St.of [] [(6, .ptr 6 0), (7, .ptr 7 0), (34, .sl 2 eP L), (35, aN L.length), (36, aN j), (11, .ptr 11 0), (45, .sl 3 eT T), (46, aN T.length), (47, aN k), (13, .ptr 13 0), (14, .row 703), (56, aI occ), (57, aN occ.length), (58, aN m)] [(6, .cells [aN 0, .v (.slice none 0 0), .v (.slice none 0 0)] 82), (7, .cells [aN kind, aI occ, .row 701] 82), (701, .row 2 eP ((ls.take j).map fun p => mkP occ.length (p.map fun u => (u.1, pickX occ u.2))) 70), (11, .cells [aN occ.length, .row 702] 70), (702, .row 3 eT (((q.take k).map fun u => (u.1, pickX occ u.2)).map tz) 124), (13, .cells (eT (tz u)) 124), (703, .row 1 eI ((occ.take m).map fun x => u.2.getD x.toNat 0) 3)]) (fun m => occ.length - m) 0 (by omega) ?_ ?_
       ·refine Ent.of [(703, 54)] ?_ ?_ rfl rfl;(repeat' (first |exact True.intro |refine ⟨⟨AV.Le.refl _, rfl⟩, ?_⟩ |refine ⟨⟨⟨_, rfl, BLe.cells (LeL.refl _)⟩, rfl⟩, ?_⟩ |refine ⟨⟨⟨_, rfl, BLe.row rfl⟩, rfl⟩, ?_⟩|fail))
       ·intro m m0
        have hlm : ((occ.take m).map fun x => u.2.getD x.toNat 0).length = m := by rw [List.length_map, List.length_take]; omega
        by_cases hm : m < occ.length
        ·obtain ⟨x, hx⟩ : ∃ x, occ[m]? = some x := ⟨_, List.getElem?_eq_getElem hm⟩;have hxb := hom m x hx;obtain ⟨y, hy⟩ : ∃ y, u.2[x.toNat]? = some y := ⟨_, List.getElem?_eq_getElem (by omega)⟩;(repeat' (first |refine qv ?_ |apply qn |apply qs |apply qr |(refine AWP.condD rfl ?_ ?_ <;> intro _ <;> try (exfalso; omega)) |apply qb |apply qk |refine qK ?_|fail));refine ql eI [y] ?_;skip;refine qa (hby := (by dsimp only [List.length_nil, List.length_cons]; omega)) (hm := (by dsimp only [List.length_nil, List.length_cons]; omega)) (r := ?_);(repeat' (first |refine qv ?_ |apply qn |apply qr |refine qw ?_|fail));refine LoopEnd.of (m + 1) (by omega) (by omega) ?_;refine Ent.of [(703, 69)] ?_ ?_ rfl rfl;(repeat' (first |exact True.intro |refine ⟨⟨AV.Le.refl _, rfl⟩, ?_⟩ |refine ⟨⟨⟨_, rfl, BLe.cells (LeL.refl _)⟩, rfl⟩, ?_⟩ |refine ⟨⟨⟨_, rfl, BLe.row rfl⟩, rfl⟩, ?_⟩ |refine ⟨⟨⟨_, rfl, BLe.row ?_⟩, rfl⟩, ?_⟩|fail));rw [take_snoc hx, List.map_append];congr 1;show [y] = [u.2.getD x.toNat 0];rw [List.getD_eq_getElem?_getD, hy];rfl
        ·have htm : occ.take m = occ := List.take_of_length_le (by omega);rw [htm];refine AWP.ent (Ent.freeze 703 rfl) ?_;(repeat' (first |refine qv ?_ |apply qn |apply qs |apply qr |refine qe ?_ |(refine AWP.condD rfl ?_ ?_ <;> intro _ <;> try (exfalso; omega)) |apply qx));refine ql eT [tz (u.1, pickX occ u.2)] ?_;skip;refine qa (hby := (by dsimp only [List.length_nil, List.length_cons]; omega)) (hm := (by dsimp only [List.length_nil, List.length_cons]; omega)) (r := ?_);(repeat' (first |refine qv ?_ |apply qn |apply qr |refine qw ?_ |refine qe ?_|fail));refine LoopEnd.of (k + 1) (by omega) (by omega) ?_;refine Ent.of [(702, 78)] ?_ ?_ rfl rfl;(repeat' (first |exact True.intro |refine ⟨⟨AV.Le.refl _, rfl⟩, ?_⟩ |refine ⟨⟨⟨_, rfl, BLe.cells (LeL.refl _)⟩, rfl⟩, ?_⟩ |refine ⟨⟨⟨_, rfl, BLe.row rfl⟩, rfl⟩, ?_⟩ |refine ⟨⟨⟨_, rfl, BLe.row ?_⟩, rfl⟩, ?_⟩|fail));rw [take_snoc hu, List.map_append, List.map_append];rfl
      ·have htk : q.take k = q := List.take_of_length_le (by omega);rw [htk];refine AWP.ent (Ent.freeze 702 rfl) ?_;(repeat' (first |refine qv ?_ |apply qn |apply qs |apply qr |(refine AWP.condD rfl ?_ ?_ <;> intro _ <;> try (exfalso; omega)) |apply qx));refine ql eP [mkP occ.length (q.map fun u => (u.1, pickX occ u.2))] ?_;skip;refine qa (hby := (by dsimp only [List.length_nil, List.length_cons]; omega)) (hm := (by dsimp only [List.length_nil, List.length_cons]; omega)) (r := ?_);(repeat' (first |refine qv ?_ |apply qn |apply qr |refine qw ?_ |refine qe ?_|fail));refine LoopEnd.of (j + 1) (by omega) (by omega) ?_;refine Ent.of [(701, 85)] ?_ ?_ rfl rfl;(repeat' (first |exact True.intro |refine ⟨⟨AV.Le.refl _, rfl⟩, ?_⟩ |refine ⟨⟨⟨_, rfl, BLe.cells (LeL.refl _)⟩, rfl⟩, ?_⟩ |refine ⟨⟨⟨_, rfl, BLe.row ?_⟩, rfl⟩, ?_⟩|fail));rw [take_snoc hq, List.map_append];rfl
    ·have htj : ls.take j = ls := List.take_of_length_le (by omega);rw [htj];refine AWP.ent (Ent.freeze 701 rfl) ?_;(repeat' (first |refine qv ?_ |apply qn |apply qs |apply qr |refine qe ?_ |(refine AWP.condD rfl ?_ ?_ <;> intro _ <;> try (exfalso; omega)) |apply qx |apply qt));exact RetOk.of rfl (AV.Le.refl _)
theorem kEq_ok (V : Nat) (hV : V ≤ 32) (p q l : List UT) (hp : chkU V p p = true) (hq : chkU V q q = true) (h : chkU V (addUs (-1) p q) l = true) (hl : l.length ≤ 3000 ∧ ∀ u ∈ l, u.2.length = V) : PureFn Tryz.prog 69 [aK V, aP (mkP V p), aP (mkP V q)] (aL (linkU V 0 [l])) := by
 refine PureFn.of_body Tryz.func69 rfl Tryz.ntmps69 rfl rfl ?_;have hk := kLink_ok V 0 [l] hV (by simp) (by simpa using hl);(repeat' (first |refine qv ?_ |apply qn |apply qs |apply qr |refine qe ?_|fail));refine qc (kSub_ok V hV p q l hp hq h) ?_;skip;refine ql eP [mkP V l] ?_;skip;refine qc (hk) ?_;(repeat' (first |refine Fl.nil (fun _ => by kernel_rfl) ?_ |refine qe ?_ |apply qt));exact RetOk.of rfl (AV.Le.refl _)
end Go.Proofs.YtcaecieigoplbaaGreat

/- Part 6 of a proof layer and of the contracts of the functions. -/
import Derived.Test.YtmmfloplhopioaaGreatW5
set_option linter.unusedVariables false
set_option linter.unusedSimpArgs false
/- The reference's Valid, Input; the law's wide, code. -/
namespace Go.AL
section
variable {P : Program} {tab : Tab} {n : Nat} {s : St}
variable {ops : Array Oper} {draw : Dr} {o : Oper} {l : List Oper} {acc : List Eff} {K : Exit → St → Prop}
theorem Fl.neV [f : Facts P tab] {t t' : TypeId} {x y : Operand} (hop : o.op = .binOp .neq t x y t') {cs ds : List AV} (hx : opd s x = .agg cs) (hy : opd s y = .agg ds) {us vs : List Value} (h1 : litL cs = some us) (h2 : litL ds = some vs) (r0 : Bool) (hg : gOk ops s o = true) (hd : dOk n o.dst = true)
  (hgd : ∀ w : World, (eqGuard .neq t x y (.agg us.toArray) (.agg vs.toArray)).run P w = .ok () w) (hrun : ∀ w : World, (binOp .neq t (.agg us.toArray) (.agg vs.toArray)).run P w = .ok (.bool r0) w)
  (r : Fl P n ops draw l ((Eff.mk (.v (.bool r0)) [] [] [] []).app o.dst s) (Eff.mk (.v (.bool r0)) [] [] [] [] :: acc) K) : Fl P n ops draw (o :: l) s acc K := by
 refine Ad hg (AP (tb := []) (AZ hd) fun C s' a w h β ho _ k => ?_) r;have hxr := AH k x;have hyr := AH k y;rw [ho x (by rw [hop]; simp [Op.operands]), hx] at hxr;rw [ho y (by rw [hop]; simp [Op.operands]), hy] at hyr;simp only [Rep] at hxr hyr;obtain ⟨us', e1, hr1⟩ := hxr;obtain ⟨vs', e2, hr2⟩ := hyr
 have e3 : us' = us.toArray := by rw [← litL_rep h1 hr1]
 have e4 : vs' = vs.toArray := by rw [← litL_rep h2 hr2]
 refine ⟨.bool r0, ?_, by simp only [Rep]⟩;simp only [execOp, hop, e1, e2, e3, e4, Sem.run_bind, hgd w, Result.andThen, hrun w, Sem.run_pure]
end
end Go.AL
namespace Go.Proofs.YtmmfloplhopioaaGreat
open Go.AL
set_option maxHeartbeats 4000000 in
theorem Do (m : MZ) (hl : m.code.length ≤ 100000) (b : Bool) (hb : b = true ↔ OkMZ m) : PureFn Tryz.prog 56 [aMz m] (aB b) := by
  refine AC Tryz.func56 rfl Tryz.ntmps56 rfl rfl ?_
  have hfalse : ¬ OkMZ m → false = b := fun h => by cases b with | false => rfl | true => exact absurd (hb.1 rfl) h
  refine AE ?_;(repeat' (first |refine qv ?_ |apply qn |apply qr |refine qe ?_|fail));refine ⟨AE ?_⟩;(repeat' (first |refine qv ?_ |apply qn |apply qs |apply qr |refine Fl.skip rfl rfl ?_ |refine AM rfl ?_ |(refine AD rfl ?_ ?_ <;> intro _ <;> try (exfalso; omega)) |apply qk |apply qt |(refine AJ rfl rfl ?_ ?_ <;> intro _ <;> try (exfalso; omega))))
  any_goals exact RetOk.of rfl (AV.Le.bool (hfalse fun k => by
    have k1 := k.r1;have k2 := k.r4;have k3 : 1 ≤ m.code.length := k.l1;have k4 : m.code.length ≤ 15 := k.l15
    omega))
  refine ⟨AE ?_⟩;(repeat' (first |refine qv ?_ |apply qn |apply qs |apply qr |apply qb));refine AWP.loop (G := Nat) (fun i => i ≤ m.code.length ∧ ∀ j, j < i → okIns m j (m.at j)) (fun i => AO [] [(1, .ptr 1 0), (3, aN i)] [(1, .cells (eMz m) 24)]) (fun i => m.code.length - i) 0 ⟨by omega, fun j hj => by omega⟩ ?_ ?_
  · refine Ent.of [] ?_ ?_ rfl rfl;(repeat' (first |exact True.intro |refine ⟨⟨AA _, rfl⟩, ?_⟩ |refine ⟨⟨⟨_, rfl, BLe.cells (AB _)⟩, rfl⟩, ?_⟩|fail))
  · intro i ⟨k0, k1⟩;refine AE ?_;(repeat' (first |refine qv ?_ |apply qn |apply qs |apply qr |(refine AD rfl ?_ ?_ <;> intro _ <;> try (exfalso; omega)) |apply qk |apply qx));rotate_left
    · rename_i hi;refine ⟨?_⟩;(repeat' (first |refine qv ?_ |apply qn |apply qs |apply qr |apply qt));refine RetOk.of rfl (AV.Le.bool ?_);exact (hb.2 ⟨by omega, by omega, by show 1 ≤ m.code.length; omega, by show m.code.length ≤ 15; omega, fun j hj => k1 j (by have : j < m.code.length := hj; omega)⟩).symm
    · rename_i hi;obtain ⟨x, hx⟩ : ∃ x, m.code[i]? = some x := ⟨_, List.getElem?_eq_getElem (by omega)⟩;have hat := MZ.at_get hx
      have hx' : m.code[Int.toNat (i : Int)]? = some x := by rw [Int.toNat_natCast]; exact hx
      have hno : ¬ okIns m i x → false = b := fun h => hfalse fun k => h (hat ▸ k.ins i (by show i < m.code.length; omega))
      have hyes : okIns m i x → ∀ j, j < i + 1 → okIns m j (m.at j) := fun h j hj => by
        rcases (show j < i ∨ j = i by omega) with h' | h'
        · exact k1 j h'
        · rw [h', hat]; exact h
      rw [okIns_iff] at hno hyes;refine ⟨AWP.seq (AWP.block (AE ?_))⟩;(repeat' (first |refine qv ?_ |apply qn |apply qr |refine qe ?_ |refine qK ?_|fail));refine ⟨?_⟩;(repeat' (first |refine qv ?_ |apply qn |apply qs |apply qr |refine qw ?_ |refine qe ?_ |refine Fl.skip rfl rfl ?_ |refine AM rfl ?_ |(refine AD rfl ?_ ?_ <;> intro _ <;> try (exfalso; omega)) |(refine AU rfl ?_ ?_ <;> intro _ <;> try (exfalso; omega)) |apply qb |apply qk |apply qt |(refine AJ rfl rfl ?_ ?_ <;> intro _ <;> try (exfalso; omega))))
      · refine Fl.neV rfl rfl rfl rfl rfl _ rfl rfl (fun w => by kernel_rfl) (fun w => insNe_run w _ _ _ _ _ _ _ _) ?_;(repeat' (first |refine qv ?_ |apply qn |apply qs |apply qr |refine qw ?_ |(refine AU rfl ?_ ?_ <;> intro _ <;> try (exfalso; omega)) |apply qk |apply qx |apply qt))
        · refine RetOk.of rfl (AV.Le.bool (hno ?_));omega
        · refine LoopEnd.of (i + 1) ⟨by omega, hyes (by omega)⟩ (by omega) ?_;refine Ent.of [] ?_ ?_ rfl rfl;(repeat' (first |exact True.intro |refine ⟨⟨AA _, rfl⟩, ?_⟩ |refine ⟨⟨⟨_, rfl, BLe.cells (AB _)⟩, rfl⟩, ?_⟩|fail))
      all_goals first
        | (refine RetOk.of rfl (AV.Le.bool (hno ?_)); omega)
        | (refine LoopEnd.of (i + 1) ⟨by omega, hyes (by omega)⟩ (by omega) ?_
           refine Ent.of [] ?_ ?_ rfl rfl
           repeat' (first |exact True.intro |refine ⟨⟨AA _, rfl⟩, ?_⟩ |refine ⟨⟨⟨_, rfl, BLe.cells (AB _)⟩, rfl⟩, ?_⟩|fail))
theorem r13Input_ok (m : MZ) (x : List Int) (hl : x.length ≤ 100000) (b : Bool) (hb : b = true ↔ (x.length : Int) = m.regs ∧ ∀ n ∈ x, 0 ≤ n ∧ n ≤ 1000) : PureFn Tryz.prog 57 [aMz m, aI x] (aB b) := by
  refine AC Tryz.func57 rfl Tryz.ntmps57 rfl rfl ?_
  have hfalse : (¬ ∀ n ∈ x, 0 ≤ n ∧ n ≤ 1000) → false = b := fun h => by cases b with | false => rfl | true => exact absurd (hb.1 rfl).2 h
  (repeat' (first |refine qv ?_ |apply qn |apply qs |apply qr |refine qe ?_ |apply qb));refine AWP.loop (G := Nat) (fun i => i ≤ x.length ∧ ∀ n ∈ x.take i, 0 ≤ n ∧ n ≤ 1000) (fun i => AO [] [(1, aI x), (2, .ptr 2 0), (5, aN i)] [(2, .cells (eMz m) 24)]) (fun i => x.length - i) 0 ⟨by omega, fun n hn => by simp at hn⟩ ?_ ?_
  · refine Ent.of [] ?_ ?_ rfl rfl;(repeat' (first |exact True.intro |refine ⟨⟨AA _, rfl⟩, ?_⟩ |refine ⟨⟨⟨_, rfl, BLe.cells (AB _)⟩, rfl⟩, ?_⟩|fail))
  · intro i ⟨k0, k1⟩;refine AE ?_;(repeat' (first |refine qv ?_ |apply qn |apply qs |apply qr |(refine AD rfl ?_ ?_ <;> intro _ <;> try (exfalso; omega)) |apply qk |apply qx |apply qt))
    · rename_i hi;obtain ⟨y, hy⟩ : ∃ y, x[i]? = some y := ⟨_, List.getElem?_eq_getElem (by omega)⟩
      have hy' : x[Int.toNat (i : Int)]? = some y := by rw [Int.toNat_natCast]; exact hy
      refine ⟨?_⟩;(repeat' (first |refine qv ?_ |apply qn |apply qs |apply qr |refine qw ?_ |refine Fl.skip rfl rfl ?_ |refine AM rfl ?_ |(refine AD rfl ?_ ?_ <;> intro _ <;> try (exfalso; omega)) |apply qb |apply qk |apply qt |refine qK ?_ |(refine AJ rfl rfl ?_ ?_ <;> intro _ <;> try (exfalso; omega))))
      all_goals first
        | exact RetOk.of rfl (AV.Le.bool (hfalse fun k => by have := k y (List.mem_of_getElem? hy); omega))
        | (refine LoopEnd.of (i + 1) ⟨by omega, fun n hn => ?_⟩ (by omega) ?_
           · rw [Ac hy, List.mem_append, List.mem_singleton] at hn;rcases hn with hn | rfl
             · exact k1 n hn
             · omega
           · refine Ent.of [] ?_ ?_ rfl rfl
             repeat' (first |exact True.intro |refine ⟨⟨AA _, rfl⟩, ?_⟩ |refine ⟨⟨⟨_, rfl, BLe.cells (AB _)⟩, rfl⟩, ?_⟩|fail))
    · rename_i hi;rw [List.take_of_length_le (by omega)] at k1;refine RetOk.of rfl (AV.Le.bool ?_);exact dec_of hb ⟨fun h => ⟨h, k1⟩, fun h => h.1⟩
theorem law14Wide_ok (m : MZ) (x : List Int) (b : Bool) (hb : b = true ↔ 100 < m.code.length ∨ 100 < x.length) (hl : m.code.length ≤ 9223372036854775807) (hx : x.length ≤ 9223372036854775807) : PureFn Tryz.prog 21 [aMz m, aI x] (aB b) := by
 refine AC Tryz.func21 rfl Tryz.ntmps21 rfl rfl ?_;(repeat' (first |refine qv ?_ |apply qn |apply qs |apply qr |refine qe ?_ |refine Fl.skip rfl rfl ?_ |apply qt |(refine AJ rfl rfl ?_ ?_ <;> intro _ <;> try (exfalso; omega))))
 all_goals refine RetOk.of rfl (AV.Le.bool ?_)
 all_goals first
  | exact (hb.2 (by omega)).symm
  | exact dec_of hb (by omega)
theorem Ec (m : MZ) (x : List Int) (hl : m.code.length ≤ 100) (hx : x.length ≤ 100) (e : Int) (h1 : ¬ OkMZ m → e = 1) (h2 : OkMZ m → ¬ OkIn m x → e = 2) (h3 : OkMZ m → OkIn m x → e = 0) : PureFn Tryz.prog 23 [aMz m, aI x] (aN e) := by
 refine AC Tryz.func23 rfl Tryz.ntmps23 rfl rfl ?_;by_cases k1 : OkMZ m
 ·have hR := k1.r1
  have hI : ∀ b : Bool, (b = true ↔ OkIn m x) → (b = true ↔ (x.length : Int) = m.regs ∧ ∀ n ∈ x, 0 ≤ n ∧ n ≤ 1000) := fun b hb => by
   rw [hb];unfold OkIn
   have : x.length = m.R ↔ (x.length : Int) = m.regs := by show x.length = m.regs.toNat ↔ _; omega
   rw [this]
  by_cases k2 : OkIn m x
  ·(repeat' (first |refine qv ?_ |apply qn |apply qs |apply qr |refine qe ?_ |apply qb));refine Fl.call rfl (Do m (by omega) true ⟨fun _ => k1, fun _ => rfl⟩) rfl rfl rfl (AB _) ?_;(repeat' (first |refine qv ?_ |apply qn |apply qs |apply qr |refine AF rfl ?_));refine Fl.call rfl (r13Input_ok m x (by omega) true (hI true (Iff.intro (fun _ => k2) fun _ => rfl))) rfl rfl rfl (AB _) ?_;(repeat' (first |refine qv ?_ |apply qn |apply qs |apply qr |refine AF rfl ?_ |apply qk |apply qt));exact RetOk.of rfl (AV.Le.int (h3 k1 k2).symm)
  ·(repeat' (first |refine qv ?_ |apply qn |apply qs |apply qr |refine qe ?_ |apply qb));refine Fl.call rfl (Do m (by omega) true ⟨fun _ => k1, fun _ => rfl⟩) rfl rfl rfl (AB _) ?_;(repeat' (first |refine qv ?_ |apply qn |apply qs |apply qr |refine AF rfl ?_));refine qc (r13Input_ok m x (by omega) false (hI false (Iff.intro (fun h => by cases h) fun h => absurd h k2))) ?_;(repeat' (first |refine qv ?_ |apply qn |apply qs |apply qr |refine AM rfl ?_ |apply qt));exact RetOk.of rfl (AV.Le.int (h2 k1 k2).symm)
 ·(repeat' (first |refine qv ?_ |apply qn |apply qs |apply qr |refine qe ?_ |apply qb));refine qc (Do m (by omega) false (Iff.intro (fun h => by cases h) fun h => absurd h k1)) ?_;(repeat' (first |refine qv ?_ |apply qn |apply qs |apply qr |refine AM rfl ?_ |apply qt));exact RetOk.of rfl (AV.Le.int (h1 k1).symm)
end Go.Proofs.YtmmfloplhopioaaGreat
/- Calls that leave their boxes az they are: they only read. -/
namespace Go.AL
def SameB (s : St) : List (Id × Bx) → Prop
  | [] => True
  | (b, B) :: r => s.bx b = some B ∧ SameB s r
theorem SameB.upd {s : St} (f : Id → Option Bx) : ∀ (U : List (Id × Bx)), SameB s U → (∀ id ∈ U.map (·.1), f id = s.bx id) → updB U f = f
 | [], _, _ => rfl
 | (b, B) :: r, h, hf => by
  have ih := SameB.upd f r h.2 fun id hid => hf id (by simp only [List.map_cons, List.mem_cons]; exact .inr hid);funext id;simp only [updB];split
  ·rename_i e;have : id = b := Nat.eq_of_beq_eq_true e;rw [this, hf b (by simp), h.1]
  ·rw [ih]
section
variable {P : Program} {tab : Tab} {n : Nat} {s : St}
variable {ops : Array Oper} {draw : Dr} {o : Oper} {l : List Oper} {acc : List Eff} {K : Exit → St → Prop}
theorem OpJ.same {v : AV} {U : List (Id × Bx)} {tb : List Id} (k : OpJ P n o s ⟨v, U, [], [], tb⟩) (hs : SameB s U) (ht : ∀ id ∈ U.map (·.1), id ∈ tb) : OpJ P n o s ⟨v, [], [], [], tb⟩ := by
 refine ⟨k.1, fun C s' a w h β Q K hs' hb hal b hK => ?_⟩;have hb' : ∀ id ∈ tb, s'.bx id = s.bx id := fun id hid => hb id (by simp [Eff.ts, hid]);refine k.2 C s' a w h β Q K hs' (fun id hid => ?_) (fun id hid => ?_) b ?_
 ·simp only [Eff.ts, Eff.wr, List.append_nil, List.mem_append] at hid;rcases hid with hid | hid
  ·exact hb' id hid
  ·exact hb' id (ht id hid)
 ·cases hid
 ·have e : (Eff.mk v U [] [] tb).app o.dst s' = (Eff.mk v [] [] [] tb).app o.dst s' := by
   simp only [Eff.app];rw [SameB.upd s'.bx U hs fun id hid => hb' id (ht id hid)];rfl
  rw [e];exact hK
theorem renB_ids (σ : Id → Id) : ∀ l : List (Id × Bx), (renB σ l).map (·.1) = (idsB l).map σ
 | [] => rfl
 | (i, B) :: r => by simp only [renB, List.map_cons, idsB]; rw [renB_ids σ r]; rfl
theorem Fl.ioR {f : FuncId} {args : List Operand} {ts : Array TypeId} (hop : o.op = .call { callee := .value (.func f), args := ⟨args⟩, argTypes := ts }) (σ : List (Id × Id)) {az : List AV} {bxs : List (Id × Bx)} {ret : AV} (hf : IoFn P f az bxs (.ret ret) bxs) (hg : gOk ops s o = true) (hd : dOk n o.dst = true) (hle : LeL (opds s args) (renL (renI σ) az)) (hw : A6 (idsB bxs) az = true) (hb : CD (renI σ) (idsB bxs) s bxs)
  (hs : SameB s (renB (renI σ) bxs)) (hd1 : Ae (renI σ) (idsB bxs) = true) (hrw : ret.within (idsB bxs) = true) (hbw : (bxs.all fun p => p.2.within (idsB bxs)) = true) (hn : newB bxs (renI σ) bxs = [])
  (r : Fl P n ops draw l ((Eff.mk (ret.ren (renI σ)) [] [] [] ((idsB bxs).map (renI σ))).app o.dst s) (Eff.mk (ret.ren (renI σ)) [] [] [] ((idsB bxs).map (renI σ)) :: acc) K) : Fl P n ops draw (o :: l) s acc K := by
 have k := OpJ.io (AZ hd) (Dz hop).out σ hf hle hw hb hd1 hrw hbw hd1;rw [hn] at k;exact Ad hg (k.same hs fun id hid => by rw [renB_ids] at hid; exact hid) r
theorem qR {f : FuncId} {args : List Operand} {ts : Array TypeId} (σ : List (Id × Id)) {az : List AV} {bxs : List (Id × Bx)} {ret : AV} (hf : IoFn P f az bxs (.ret ret) bxs) (r : Fl P n ops draw l ((Eff.mk (ret.ren (renI σ)) [] [] [] ((idsB bxs).map (renI σ))).app o.dst s) (Eff.mk (ret.ren (renI σ)) [] [] [] ((idsB bxs).map (renI σ)) :: acc) K) (hop : o.op = .call { callee := .value (.func f), args := ⟨args⟩, argTypes := ts } := by exact rfl) (hg : gOk ops s o = true := by exact rfl) (hd : dOk n o.dst = true := by exact rfl) (hle : LeL (opds s args) (renL (renI σ) az) := by exact AB _) (hw : A6 (idsB bxs) az = true := by exact rfl) (hb : CD (renI σ) (idsB bxs) s bxs := by exact ⟨⟨⟨_, rfl, BLe.cells (AB _)⟩, rfl⟩, ⟨⟨_, rfl, BLe.row rfl⟩, rfl⟩, trivial⟩) (hs : SameB s (renB (renI σ) bxs) := by exact ⟨rfl, rfl, trivial⟩) (hd1 : Ae (renI σ) (idsB bxs) = true := by exact rfl) (hrw : ret.within (idsB bxs) = true := by exact rfl) (hbw : (bxs.all fun p => p.2.within (idsB bxs)) = true := by exact rfl) (hn : newB bxs (renI σ) bxs = [] := by exact rfl) : Fl P n ops draw (o :: l) s acc K := Fl.ioR hop σ hf hg hd hle hw hb hs hd1 hrw hbw hn r
theorem Fl.ioVR {f : FuncId} {x : Operand} {args : List Operand} {ts : Array TypeId} (hop : o.op = .call { callee := .value x, args := ⟨args⟩, argTypes := ts }) {caps : List AV} (hx : opd s x = .fn f caps) (σ : List (Id × Id)) {az : List AV} {bxs : List (Id × Bx)} {ret : AV} (hf : IoFn P f az bxs (.ret ret) bxs) (hg : gOk ops s o = true) (hd : dOk n o.dst = true) (hle : LeL (opds s args ++ caps) (renL (renI σ) az)) (hw : A6 (idsB bxs) az = true) (hb : CD (renI σ) (idsB bxs) s bxs)
  (hs : SameB s (renB (renI σ) bxs)) (hd1 : Ae (renI σ) (idsB bxs) = true) (hrw : ret.within (idsB bxs) = true) (hbw : (bxs.all fun p => p.2.within (idsB bxs)) = true) (hn : newB bxs (renI σ) bxs = [])
  (r : Fl P n ops draw l ((Eff.mk (ret.ren (renI σ)) [] [] [] ((idsB bxs).map (renI σ))).app o.dst s) (Eff.mk (ret.ren (renI σ)) [] [] [] ((idsB bxs).map (renI σ)) :: acc) K) : Fl P n ops draw (o :: l) s acc K := by
 have k := OpJ.io (AZ hd) (Runs.value hop hx).out σ hf hle hw hb hd1 hrw hbw hd1;rw [hn] at k;exact Ad hg (k.same hs fun id hid => by rw [renB_ids] at hid; exact hid) r
end
end Go.AL
/- Contracts whose boxes are given back under other names: a row that grew in a variable's cell. -/
namespace Go.AL
structure IoGn (P : Program) (f : FuncId) (args : List AV) (bxs : List (Id × Bx)) (r : AV) (bxs' : List (Id × Bx)) : Prop where
  fn : ∃ fn, P.funcs[f]? = some fn ∧ (fn.name == "runtime.NumGoroutine") = false ∧ fn.body.isNone = false
  calls : ∀ (w : World) (h : Hp) (β : Bt) (us : Array Value), Has w h → BoxesAt w h β bxs → (∀ id, id ∉ idsB bxs → β id = none) → RepL h β args us.toList →
    Calls P f us w fun e w' => ∃ h' β', β.le β' ∧ Evo (Ao bxs β) w h w' h' ∧ ∃ u, e = .returned u ∧ BoxesAt w' h' β' bxs' ∧ Rep h' β' r u ∧ ∀ id g, id ∈ idsB bxs' → id ∉ idsB bxs → blk (β' id) = some g → w.heap.size ≤ g ∨ Ao bxs β g
section
variable {P : Program} {tab : Tab} {n : Nat} {o : Oper} {s : St}
theorem OpJ.ioG (hd : ∀ d, o.dst = some d → d < n) {f : FuncId} {args args' : List AV} (hrun : ∀ (s' : St) (C : Cx) (a : Act) (w : World) (h : Hp) (β : Bt), (∀ t, Operand.tmp t ∈ o.op.operands → s'.env t = s.env t) → Base C n s' a w h β → ∃ us : Array Value, ((∃ fn, P.funcs[f]? = some fn ∧ (fn.name == "runtime.NumGoroutine") = false ∧ fn.body.isNone = false) → (execOp a.eval o).run P w = .ok (.enter f us) w) ∧ RepL h β args us.toList)
  (σ : List (Id × Id)) {bxs bxs' : List (Id × Bx)} {r : AV} (hf : IoGn P f args' bxs r bxs') (hle : LeL args (renL (renI σ) args')) (hw : A6 (idsB bxs) args' = true) (hb : CD (renI σ) (idsB bxs) s bxs)
  (hd1 : Ae (renI σ) (idsB bxs') = true) (hrw : r.within (idsB bxs') = true) (hbw : (bxs'.all fun p => p.2.within (idsB bxs')) = true) (hdb : Ae (renI σ) (idsB bxs) = true) :
  OpJ P n o s ⟨r.ren (renI σ), renB (renI σ) bxs', newB bxs' (renI σ) bxs, newB bxs (renI σ) bxs', (idsB bxs).map (renI σ)⟩ := by
 refine ⟨hd, fun C s' a w h β Q K hs hbs hal k hK => ?_⟩;rw [List.all_eq_true] at hbw;have hb' : CD (renI σ) (idsB bxs) s' bxs := Em bxs (fun i hi => hbs _ (by simp only [Eff.ts, List.mem_append, List.mem_map]; exact .inl ⟨i, hi, rfl⟩)) hb;obtain ⟨us, hrun, hus⟩ := hrun s' C a w h β hs k;have hrun := hrun hf.fn
 let β1 : Bt := fun id => match memI (idsB bxs) id with | true => β (renI σ id) | false => none
 have hβ : ∀ id v, id ∈ idsB bxs → β (renI σ id) = some v → β1 id = some v := fun id v hm hv => by
  show (match memI (idsB bxs) id with | true => β (renI σ id) | false => none) = some v;rw [(AY _ _).2 hm]; exact hv
 have hβ2 : ∀ id v, β1 id = some v → β (renI σ id) = some v := fun id v hv => by
  have hv : (match memI (idsB bxs) id with | true => β (renI σ id) | false => none) = some v := hv;split at hv
  ·exact hv
  ·cases hv
 have hβn : ∀ id, id ∉ idsB bxs → β1 id = none := fun id hid => by
  show (match memI (idsB bxs) id with | true => β (renI σ id) | false => none) = none
  have : memI (idsB bxs) id = false := by
   cases hm : memI (idsB bxs) id with
   | false => rfl
   | true => exact absurd ((AY _ _).1 hm) hid
  rw [this]
 have hbx := boxes_of hβ hβ2 (fun _ h => h) hb' hdb k.box k.apart;have hargs : RepL h β1 args' us.toList := RepL.within hβ args' _ hw (hle _ _ _ hus);unfold Oper.wp;rw [hrun];simp only [Oper.upon];refine (hf.calls w h β1 us k.evo.has hbx hβn hargs).mono fun e w' ⟨h', β1', hle1, hev, q⟩ => ?_;obtain ⟨u, rfl, hbx', hru, hnew⟩ := q
 -- who is whose
 have hM : ∀ g, Ao bxs β1 g → ∃ id B, id ∈ idsB bxs ∧ s'.bx (renI σ id) = some B ∧ blk (β (renI σ id)) = some g := by
  rintro g ⟨id, B, h1, h2⟩;have hm := BW bxs id B h1;obtain ⟨⟨B0, h3, _⟩, _, _⟩ := Au bxs hb' id B h1;refine ⟨id, B0, hm, h3, ?_⟩
  cases hq : β1 id with
  | none => rw [hq] at h2; simp [blk] at h2
  | some v => rw [hβ2 id v hq, ← hq]; exact h2
 have hold : ∀ id, id ∈ idsB bxs → β1' id = β (renI σ id) := by
  intro id hm;obtain ⟨B, hB⟩ := Ar bxs id hm
  have hbv : ∃ v, β1 id = some v := by
   have := hbx.box id B hB
   cases B with
   | cells cs t => obtain ⟨g, us, e, _⟩ := this; exact ⟨_, e⟩
   | row sz enc xs t => obtain ⟨v, vals, e, _⟩ := this; exact ⟨_, e⟩
   | map ek av xs c => obtain ⟨g, es, e, _⟩ := this; exact ⟨_, e⟩
   | iter m a l c => obtain ⟨r, g, e, _⟩ := this; exact ⟨_, e⟩
  obtain ⟨v, hv⟩ := hbv;rw [hle1 _ _ hv, hβ2 _ _ hv]
 let β' : Bt := fun j => match DL (renI σ) bxs' j with | some i => β1' i | none => β j
 have hfind : ∀ id, id ∈ idsB bxs' → β' (renI σ id) = β1' id := fun id hid => by
  show (match DL (renI σ) bxs' (renI σ id) with | some i => β1' i | none => β (renI σ id)) = _;rw [findB_of _ _ hd1 id hid]
 have hother : ∀ j, (∀ id ∈ idsB bxs', renI σ id ≠ j) → β' j = β j := fun j hj => by
  show (match DL (renI σ) bxs' j with | some i => β1' i | none => β j) = _
  cases hf : DL (renI σ) bxs' j with
  | none => rfl
  | some i => exact absurd (C3 _ _ _ _ hf).1 (hj i (C3 _ _ _ _ hf).2)
 have hnewal : ∀ id, id ∈ idsB bxs' → id ∉ idsB bxs → β (renI σ id) = none := fun id h1 h2 =>
  k.dom _ (hal _ ((C7 bxs (renI σ) bxs' _).2 ⟨id, h1, h2, rfl⟩))
 have hββ' : β.le β' := by
  intro j v hv;rcases Classical.em (∃ id ∈ idsB bxs', renI σ id = j) with ⟨id, h1, rfl⟩ | hn
  ·rw [hfind id h1];rcases Classical.em (id ∈ idsB bxs) with h2 | h2
   ·rw [hold id h2]; exact hv
   ·rw [hnewal id h1 h2] at hv; cases hv
  ·rw [hother j (fun id h1 h2 => hn ⟨id, h1, h2⟩)]; exact hv
 have hto : ∀ id v, id ∈ idsB bxs' → β1' id = some v → β' (renI σ id) = some v := fun id v h1 h2 => by rw [hfind id h1]; exact h2
 have hevo : Evo C.M C.w0 C.h0 w' h' := k.evo.trans hev fun g hg => by
  obtain ⟨id, B, _, h1, h2⟩ := hM g hg;exact k.own _ B g h1 h2
 -- boxes: the renamed ones; the others
 have hcase : ∀ j B, delB (newB bxs' (renI σ) bxs) (updB (renB (renI σ) bxs') s'.bx) j = some B → (∃ id B0, id ∈ idsB bxs' ∧ Aq bxs' id = some B0 ∧ renI σ id = j ∧ B = B0.ren (renI σ)) ∨ (((∀ id ∈ idsB bxs', renI σ id ≠ j) ∧ ∀ id ∈ idsB bxs, renI σ id ≠ j) ∧ s'.bx j = some B) := by
  intro j B hB;obtain ⟨hB, hnd⟩ := delB_some _ _ _ _ hB;rcases updB_renB (renI σ) s'.bx bxs' hd1 j with ⟨id, B0, h1, h2, h3⟩ | ⟨h1, h2⟩
  ·rw [h3] at hB; injection hB with hB;exact .inl ⟨id, B0, BW _ _ _ h1, h1, h2, hB.symm⟩
  ·rw [h2] at hB;refine .inr ⟨⟨h1, fun id hid e => ?_⟩, hB⟩;rcases Classical.em (id ∈ idsB bxs') with hm | hm
   ·exact h1 id hm e
   ·exact hnd ((C7 bxs' (renI σ) bxs j).2 ⟨id, hid, hm, e⟩)
 have hblkNew : ∀ id g, id ∈ idsB bxs' → blk (β1' id) = some g → (∃ id0 B0, id0 ∈ idsB bxs ∧ s'.bx (renI σ id0) = some B0 ∧ blk (β (renI σ id0)) = some g) ∨ w.heap.size ≤ g := by
  intro id g h1 h2;rcases Classical.em (id ∈ idsB bxs) with h3 | h3
  ·obtain ⟨B, hB⟩ := Ar bxs id h3;obtain ⟨⟨B0, h5, _⟩, _, _⟩ := Au bxs hb' id B hB;exact .inl ⟨id, B0, h3, h5, by rw [← hold id h3]; exact h2⟩
  ·rcases hnew id g h1 h3 h2 with h4 | h4
   ·exact .inr h4
   ·exact .inl (hM g h4)
 have hsafe : ∀ j B g, ((∀ id ∈ idsB bxs', renI σ id ≠ j) ∧ ∀ id ∈ idsB bxs, renI σ id ≠ j) → s'.bx j = some B → blk (β j) = some g → ¬ Ao bxs β1 g := by
  intro j B g h1 h2 h3 h4;obtain ⟨id, B0, h5, h6, h7⟩ := hM g h4;exact k.apart _ _ _ _ h6 h2 (h1.2 id h5) g h7 h3
 have hblk : ∀ j B g, ((∀ id ∈ idsB bxs', renI σ id ≠ j) ∧ ∀ id ∈ idsB bxs, renI σ id ≠ j) → s'.bx j = some B → blk (β j) = some g → w'.heap[g]? = w.heap[g]? ∧ h' g = none := by
  intro j B g h1 h2 h3;have hlt := k.blk_lt h2 h3;have hs := hsafe j B g h1 h2 h3;refine ⟨hev.block g hlt.1 hs, ?_⟩
  cases hh : h' g with
  | none => rfl
  | some cs =>
   rcases hev.fresh g (by simp [hh]) with h4 | h4 | h4
   ·exact absurd hlt.2 h4
   ·omega
   ·exact absurd h4 hs
 refine hK _ _ h' β' ⟨hevo, k.b0.trans hββ', fun i => ?_, fun j B hB => ?_, fun x y B1 B2 h1 h2 hne g e1 e2 => ?_, fun x B1 g hx hg => ?_, fun id hid => ?_, ?_, ?_⟩
 ·have hr : Rep h' β' (r.ren (renI σ)) u := Rep.renTo hto _ _ hrw hru
  cases hdst : o.dst with
  | none => exact (k.slot i).mono hev.le hββ'
  | some d =>
   by_cases hi : i = d
   ·subst hi;simp only [Eff.app, BU]
    have : (a.put (some i) u).tmps.getD i undef = u := by
     have hlt : i < a.tmps.size := by rw [k.size]; exact hd i hdst
     simp [Act.put, hlt]
    rw [this]; exact hr
   ·simp only [Eff.app];rw [Bb _ _ _ _ (by intro e; injection e with e; exact hi e.symm)]
    have : (a.put (some d) u).tmps.getD i undef = a.tmps.getD i undef := by
     simp [Act.put, Array.getElem?_setIfInBounds_ne (Ne.symm hi)]
    rw [this]; exact (k.slot i).mono hev.le hββ'
 ·simp only [Eff.app] at hB;rcases hcase j B hB with ⟨id, B0, h1, h2, rfl, rfl⟩ | ⟨h1, h2⟩
  ·refine BoxAt.renTo hto h1 ?_ (hbx'.box id B0 h2)
   have hm : ∀ (l : List (Id × Bx)) (i : Id) (B : Bx), Aq l i = some B → (i, B) ∈ l := by
    intro l
    induction l with
    | nil => intro i B h; simp [Aq] at h
    | cons p l ih =>
     obtain ⟨q, V⟩ := p;intro i B h;by_cases hi : i = q
     ·subst hi; simp [Aq] at h; subst h; simp
     ·simp only [Aq, Ah hi] at h; exact List.mem_cons_of_mem _ (ih i B h)
   exact hbw _ (hm bxs' id B0 h2)
  ·exact (k.box j B h2).keep hev.le hββ' (hblk j B · h1 h2)
 ·simp only [Eff.app] at h1 h2;rcases hcase x B1 h1 with ⟨i1, C1, m1, l1, rfl, rfl⟩ | ⟨n1, b1⟩ <;> rcases hcase y B2 h2 with ⟨i2, C2, m2, l2, rfl, rfl⟩ | ⟨n2, b2⟩
  ·rw [hfind i1 m1] at e1; rw [hfind i2 m2] at e2;exact hbx'.apart i1 i2 C1 C2 l1 l2 (fun e => hne (by rw [e])) g e1 e2
  ·rw [hfind i1 m1] at e1; rw [hother y n2.1] at e2;rcases hblkNew i1 g m1 e1 with ⟨i0, B0, h3, h5, h4⟩ | h3
   ·exact k.apart _ _ _ _ h5 b2 (n2.2 i0 h3) g h4 e2
   ·have := (k.blk_lt b2 e2).1; omega
  ·rw [hother x n1.1] at e1; rw [hfind i2 m2] at e2;rcases hblkNew i2 g m2 e2 with ⟨i0, B0, h3, h5, h4⟩ | h3
   ·exact k.apart _ _ _ _ b1 h5 (fun e => n1.2 i0 h3 e.symm) g e1 h4
   ·have := (k.blk_lt b1 e1).1; omega
  ·rw [hother x n1.1] at e1; rw [hother y n2.1] at e2;exact k.apart x y B1 B2 b1 b2 hne g e1 e2
 ·simp only [Eff.app] at hx;rcases hcase x B1 hx with ⟨i1, C1, m1, l1, rfl, rfl⟩ | ⟨n1, b1⟩
  ·rw [hfind i1 m1] at hg;rcases hblkNew i1 g m1 hg with ⟨i0, B0, h3, h5, h4⟩ | h3
   ·exact k.own _ B0 g h5 h4
   ·exact .inr (Nat.le_trans k.evo.size h3)
  ·rw [hother x n1.1] at hg;exact k.own x B1 g b1 hg
 ·simp only [Eff.app] at hid;rw [Ea] at hid;simp only [Bool.or_eq_false_iff] at hid;have hb0 := k.dom id hid.2;rcases Classical.em (∃ i ∈ idsB bxs', renI σ i = id) with ⟨i, h1, rfl⟩ | hn
  ·rw [hfind i h1];rcases Classical.em (i ∈ idsB bxs) with h2 | h2
   ·rw [hold i h2]; exact hb0
   ·have := (C7 bxs (renI σ) bxs' (renI σ i)).2 ⟨i, h1, h2, rfl⟩;have h3 := hid.1;rw [List.elem_eq_mem] at h3;simp [this] at h3
  ·rw [hother id (fun i h1 h2 => hn ⟨i, h1, h2⟩)]; exact hb0
 ·cases o.dst <;> simp [Act.put, k.size]
 ·cases o.dst <;> simp [Act.put, k.defers]
theorem RetIo.finG [f : Facts P tab] {fn : Func} {bxs bxs' : List (Id × Bx)} {β : Bt} {w w' : World} {hp h' : Hp} {β' : Bt} {a' : Act} {s' : St} (hβn : ∀ id, id ∉ idsB bxs → β id = none) (hini : IniOk ⟨w, hp, β, Ao bxs β, []⟩ (idsB bxs)) (b : Base ⟨w, hp, β, Ao bxs β, []⟩ n s' a' w' h' β') : ∀ r, RetIo n (idsB bxs) tab fn.results.toList r bxs' s' → a'.defers = [] ∧ ∃ v, (results fn a'.tmps).run P w' = .ok v w' ∧ ∃ h' β', β.le β' ∧ Evo (Ao bxs β) w hp w' h' ∧ ∃ u, Ending.returned v = .returned u ∧ BoxesAt w' h' β' bxs' ∧ Rep h' β' r u ∧ ∀ id g, id ∈ idsB bxs' → id ∉ idsB bxs → blk (β' id) = some g → w.heap.size ≤ g ∨ Ao bxs β g := by
 intro r hq;obtain ⟨σ, s2, r', hent, h1, h2, h3, h4, h5, h6⟩ := hq.out;obtain ⟨h', β', b⟩ := hent _ _ _ _ _ hini b;obtain ⟨v, hv1, hv2⟩ := EV (P := P) b h1;refine ⟨b.defers, v, hv1, h', fun id => match memI (idsB bxs') id with | true => β' (renI σ id) | false => β id, ?_, b.evo, v, rfl, ?_, ?_, ?_⟩
 ·intro id u hu;have hm : id ∈ idsB bxs := hini id (by simp [hu]);rw [List.all_eq_true] at h6;show (match memI (idsB bxs') id with | true => β' (renI σ id) | false => β id) = some u;split
  ·rw [Nat.eq_of_beq_eq_true (h6 id hm)];exact b.b0 _ _ hu
  ·exact hu
 ·refine boxes_of (β := β') (σ := renI σ) (ids := idsB bxs') (s := s2) (fun id v hm hv => ?_) (fun id v hv => ?_) (fun _ h => h) h4 h5 b.box b.apart
  ·simp only [(AY _ _).2 hm]; exact hv
  ·have hv : (match memI (idsB bxs') id with | true => β' (renI σ id) | false => β id) = some v := hv;split at hv
   ·exact hv
   ·have hm : id ∈ idsB bxs := hini id (by simp [hv]);rw [List.all_eq_true] at h6;rw [Nat.eq_of_beq_eq_true (h6 id hm)];exact b.b0 _ _ hv
 ·exact Rep.within (fun id v hm hv => by simp only [(AY _ _).2 hm]; exact hv) _ _ h3 (h2 _ _ _ hv2)
 ·intro id g hid hnid hg;have hg : blk (match memI (idsB bxs') id with | true => β' (renI σ id) | false => β id) = some g := hg;rw [(AY _ _).2 hid] at hg;obtain ⟨B, hB⟩ := Ar bxs' id hid;obtain ⟨⟨B0, hB0, _⟩, _, _⟩ := Au bxs' h4 id B hB;rcases b.own _ B0 g hB0 hg with hM | hM
  ·exact .inr hM
  ·exact .inl hM
theorem B9 [f : Facts P tab] {k : FuncId} {fn : Func} {c : Code} {args : List AV} {bxs bxs' : List (Id × Bx)} {r : AV} (hf : P.funcs[k]? = some fn) (hb : fn.body = some c) (hn : fn.ntmps = n) (hname : (fn.name == "runtime.NumGoroutine") = false) (hl : Nat.ble args.length n = true)
  (h : AWP P n (idsB bxs) c (RetX n (idsB bxs) tab fn.results.toList (.ret r) bxs') (Ba args bxs)) : IoGn P k args bxs r bxs' := by
 have hl := Nat.le_of_ble_eq_true hl;refine ⟨⟨fn, hf, hname, by rw [hb]; rfl⟩, fun w hp β us hw hbx hβn hr => ?_⟩;refine calls_of_wp hf hb ?_
 have hus : us.size = args.length := by rw [← Array.length_toList]; exact hr.length
 have hbase : Base ⟨w, hp, β, Ao bxs β, []⟩ n (Ba args bxs) { tmps := us ++ Array.replicate (fn.ntmps - us.size) undef, defers := [] } w hp β := by
  refine ⟨Evo.refl _ hw, AR _, fun i => ?_, hbx.box, hbx.apart, fun id B g hB hg => .inl ⟨id, B, hB, hg⟩, fun id hid => hβn id (fun hm => by rw [← AY] at hm; simp only [Ba] at hid; rw [hm] at hid; cases hid), by simp; omega, rfl⟩;simp only [Ba];by_cases hi : i < us.size
  ·have hget : (us ++ Array.replicate (fn.ntmps - us.size) undef).getD i undef = us[i] := by
    simp [Array.getD_eq_getD_getElem?, Array.getElem?_append, hi]
   rw [hget];exact EH args us.toList i _ hr (by simp [hi])
  ·rw [EI args i (by omega)];simp only [Rep]
 have hini : IniOk ⟨w, hp, β, Ao bxs β, []⟩ (idsB bxs) := fun id hid => by
  rcases Classical.em (id ∈ idsB bxs) with hm | hm
  ·exact hm
  ·exact absurd (hβn id hm) hid
 refine wp_mono (h.out ⟨w, hp, β, Ao bxs β, []⟩ _ w hp β hini hbase) fun e a' w' ⟨s', h', β', b, q⟩ => ?_;have fin := RetIo.finG (f := f) (fn := fn) (bxs' := bxs') hβn hini b r
 cases e with
 | normal => exact fin q
 | ret => exact fin q
 | panic c => exact q.elim
 | _ => exact q.elim
end
section
variable {P : Program} {tab : Tab} {n : Nat} {s : St}
variable {ops : Array Oper} {draw : Dr} {o : Oper} {l : List Oper} {acc : List Eff} {K : Exit → St → Prop}
theorem CB {f : FuncId} {args : List Operand} {ts : Array TypeId} (hop : o.op = .call { callee := .value (.func f), args := ⟨args⟩, argTypes := ts }) (σ : List (Id × Id)) {az : List AV} {bxs bxs' : List (Id × Bx)} {ret : AV} (hf : IoGn P f az bxs ret bxs') (hg : gOk ops s o = true) (hd : dOk n o.dst = true) (hle : LeL (opds s args) (renL (renI σ) az)) (hw : A6 (idsB bxs) az = true) (hb : CD (renI σ) (idsB bxs) s bxs)
  (hd1 : Ae (renI σ) (idsB bxs') = true) (hrw : ret.within (idsB bxs') = true) (hbw : (bxs'.all fun p => p.2.within (idsB bxs')) = true) (hdb : Ae (renI σ) (idsB bxs) = true) (hn : Ds (newB bxs (renI σ) bxs') s.al = true)
  (r : Fl P n ops draw l ((Eff.mk (ret.ren (renI σ)) (renB (renI σ) bxs') (newB bxs' (renI σ) bxs) (newB bxs (renI σ) bxs') ((idsB bxs).map (renI σ))).app o.dst s) (Eff.mk (ret.ren (renI σ)) (renB (renI σ) bxs') (newB bxs' (renI σ) bxs) (newB bxs (renI σ) bxs') ((idsB bxs).map (renI σ)) :: acc) K)
  (hJ : A9 draw.J (Eff.mk (ret.ren (renI σ)) (renB (renI σ) bxs') (newB bxs' (renI σ) bxs) (newB bxs (renI σ) bxs') ((idsB bxs).map (renI σ))) := by repeat' (first | exact True.intro | exact rfl | refine ⟨?_, ?_⟩ | fail)) : Fl P n ops draw (o :: l) s acc K :=
 Fl.op hg (OpJ.ioG (AZ hd) (Dz hop).out σ hf hle hw hb hd1 hrw hbw hdb) hn hJ r
theorem qG {f : FuncId} {args : List Operand} {ts : Array TypeId} (σ : List (Id × Id)) {az : List AV} {bxs bxs' : List (Id × Bx)} {ret : AV} (hf : IoGn P f az bxs ret bxs') (r : Fl P n ops draw l ((Eff.mk (ret.ren (renI σ)) (renB (renI σ) bxs') (newB bxs' (renI σ) bxs) (newB bxs (renI σ) bxs') ((idsB bxs).map (renI σ))).app o.dst s) (Eff.mk (ret.ren (renI σ)) (renB (renI σ) bxs') (newB bxs' (renI σ) bxs) (newB bxs (renI σ) bxs') ((idsB bxs).map (renI σ)) :: acc) K) (hop : o.op = .call { callee := .value (.func f), args := ⟨args⟩, argTypes := ts } := by exact rfl) (hg : gOk ops s o = true := by exact rfl) (hd : dOk n o.dst = true := by exact rfl) (hle : LeL (opds s args) (renL (renI σ) az) := by exact AB _) (hw : A6 (idsB bxs) az = true := by exact rfl) (hb : CD (renI σ) (idsB bxs) s bxs := by exact ⟨⟨⟨_, rfl, BLe.cells (AB _)⟩, rfl⟩, ⟨⟨_, rfl, BLe.row rfl⟩, rfl⟩, trivial⟩) (hd1 : Ae (renI σ) (idsB bxs') = true := by exact rfl) (hrw : ret.within (idsB bxs') = true := by exact rfl) (hbw : (bxs'.all fun p => p.2.within (idsB bxs')) = true := by exact rfl) (hdb : Ae (renI σ) (idsB bxs) = true := by exact rfl) (hn : Ds (newB bxs (renI σ) bxs') s.al = true := by exact rfl) (hJ : A9 draw.J (Eff.mk (ret.ren (renI σ)) (renB (renI σ) bxs') (newB bxs' (renI σ) bxs) (newB bxs (renI σ) bxs') ((idsB bxs).map (renI σ))) := by repeat' (first | exact True.intro | exact rfl | refine ⟨?_, ?_⟩ | fail)) : Fl P n ops draw (o :: l) s acc K := CB hop σ hf hg hd hle hw hb hd1 hrw hbw hdb hn r hJ
end
end Go.AL
/- The reference's polynomials and links, by sizes. -/
namespace Go.AL
theorem linkR_eq {V : Nat} {kind : Int} {ls : List (List UT)} (h : ∀ p ∈ ls, SzU V 4 10000 200 p) : linkR V kind ls = A7 V kind ls := by
 have e : occI ls V = (occL V ls).map fun (i : Nat) => (i : Int) := rfl;unfold linkR A7;rw [e, List.length_map];congr 1;refine List.map_congr_left fun p hp => ?_;have := (pick_sz hp (h p hp)).can.can;unfold Dc at this;simp only [pickX_eq];rw [this]; rfl
theorem addE_nn : ∀ {a b : List Int}, (∀ e ∈ a, 0 ≤ e) → (∀ e ∈ b, 0 ≤ e) → ∀ e ∈ addE a b, 0 ≤ e
 | [], b, _, _, e, he => by simp [addE] at he
 | x :: a, [], _, _, e, he => by simp [addE] at he
 | x :: a, y :: b, ha, hb, e, he => by
  simp only [addE, List.zipWith_cons_cons, List.mem_cons] at he;rcases he with rfl | he
  ·have := ha x (by simp); have := hb y (by simp); omega
  ·exact addE_nn (fun e h => ha e (by simp [h])) (fun e h => hb e (by simp [h])) e he
end Go.AL
namespace Go.Proofs.YtmmfloplhopioaaGreat
open Go.AL
theorem szOkT {V d c n : Nat} {p : List UT} (h : SzU V d c n p) (hd : d ≤ 120) (hc : c < 4294967296) : okT V 1 p := fun u hu => by
 refine ⟨(h.ex u hu).1, (ex_ok hd (h.ex u hu)).2.2, lenI_small ?_⟩
 have : u.1.natAbs ≤ absU p := by
  have : ∀ {l : List UT} {u : UT}, u ∈ l → u.1.natAbs ≤ absU l := by
   intro l
   induction l with
   | nil => intro u hu; simp at hu
   | cons v l ih =>
    intro u hu;simp only [absU];rcases List.mem_cons.1 hu with rfl | hu
    ·omega
    ·have := ih hu; omega
  exact this hu
 have := h.ab;omega
theorem r2Add {V d c n d' c' n' : Nat} {a b : List UT} (hV : V ≤ 32) (ha : SzU V d c n a) (hb : SzU V d' c' n' b) (h1 : d ≤ 120) (h2 : d' ≤ 120) (h3 : c < 4294967296) (h4 : c' < 4294967296) (h5 : n ≤ 3000) (h6 : n' ≤ 3000) : PureFn Tryz.prog 62 [aP (mkP V a), aP (mkP V b)] (aP (mkP V (addL a b))) := by
 have := rAddU V 1 (by omega) (by omega) a b ha.can hb.can (szOkT ha h1 h3) (szOkT hb h2 h4) (by have := ha.ln; omega) (by have := hb.ln; omega);rwa [addUs_one] at this
theorem r2Sub {V d c n d' c' n' : Nat} {a b : List UT} (hV : V ≤ 32) (ha : SzU V d c n a) (hb : SzU V d' c' n' b) (h1 : d ≤ 120) (h2 : d' ≤ 120) (h3 : c < 4294967296) (h4 : c' < 4294967296) (h5 : n ≤ 3000) (h6 : n' ≤ 3000) : PureFn Tryz.prog 63 [aP (mkP V a), aP (mkP V b)] (aP (mkP V (subL a b))) :=
 rSubU V 1 (by omega) (by omega) a b ha.can hb.can (szOkT ha h1 h3) (szOkT hb h2 h4) (by have := ha.ln; omega) (by have := hb.ln; omega)
theorem r2Mul {V d c n d' c' n' : Nat} {a b : List UT} (hV : V ≤ 32) (ha : SzU V d c n a) (hb : SzU V d' c' n' b) (h1 : d + d' ≤ 120) (h3 : c < 4294967296) (h4 : c' < 4294967296) (h5 : n ≤ 3000) (h6 : n' ≤ 3000) (h7 : n' * n ≤ 4096) : PureFn Tryz.prog 60 [aP (mkP V a), aP (mkP V b)] (aP (mkP V (An a b))) := by
 refine rMulU V 1 12 (by omega) (by omega) a b (szOkT ha (by omega) h3) (szOkT hb (by omega) h4) hb.can.nz (fun s hs t ht => ?_) (by have := ha.ln; omega) (by have := hb.ln; omega) (by have := Nat.mul_le_mul hb.ln ha.ln; omega) (by decide) (by decide);have e1 := ha.ex s hs;have e2 := hb.ex t ht;intro e he;have hs := sumL_addE (by rw [e1.1, e2.1]) (a := s.2) (b := t.2);have h0 : ∀ e ∈ addE s.2 t.2, 0 ≤ e := addE_nn e1.2.1 e2.2.1;have := (sumL_ge h0).2 e he;have := e1.2.2;have := e2.2.2;exact ⟨h0 e he, by omega⟩
theorem r2Con (V : Nat) (k : Int) (hV : V ≤ 32) (hk : k.natAbs < 4294967296) : PureFn Tryz.prog 122 [aN V, aX k] (aP (mkP V (conU V k))) := rConstU V k (by omega) (by have := lenI_small hk; omega)
abbrev w14r (r : AL.Id) (V : Nat) (L : List LZ) : List (AL.Id × Bx) := [(900, .cells [aN V, .row r] 102), (r, .row 3 eL L 99)]
theorem Bg (V : Nat) (L : List LZ) (i : Nat) (hi : i < V) (hV : V ≤ 32) : IoFn Tryz.prog 59 [.ptr 900 0, aN i] (w14r 901 V L) (.ret (aP (mkP V (varU V i)))) (w14r 901 V L) := by
 refine AG Tryz.func59 rfl Tryz.ntmps59 rfl rfl rfl ?_;(repeat' (first |refine qv ?_ |apply qn |apply qs |apply qr |refine qe ?_|fail));refine qc (rVarU V i hi (by omega)) ?_;(repeat' (first |apply qn |refine qe ?_ |apply qt));exact ⟨⟨[], _, _, AK _ _ _, rfl, AA _, rfl, ⟨⟨⟨_, rfl, BLe.cells (AB _)⟩, rfl⟩, ⟨⟨_, rfl, BLe.row rfl⟩, rfl⟩, trivial⟩, rfl, rfl⟩⟩
theorem C5 (V : Nat) (L : List LZ) (k : Int) (hk : k.natAbs < 4294967296) (hV : V ≤ 32) : IoFn Tryz.prog 61 [.ptr 900 0, aN k] (w14r 901 V L) (.ret (aP (mkP V (conU V k)))) (w14r 901 V L) := by
 refine AG Tryz.func61 rfl Tryz.ntmps61 rfl rfl rfl ?_;(repeat' (first |refine qv ?_ |apply qn |apply qs |apply qr |refine qe ?_|fail));refine qc (rOf_ok k (by omega) (by omega)) ?_;refine qc (r2Con V k hV hk) ?_;(repeat' (first |refine Fl.nil (fun _ => by kernel_rfl) ?_ |refine qe ?_ |apply qt));exact ⟨⟨[], _, _, AK _ _ _, rfl, AA _, rfl, ⟨⟨⟨_, rfl, BLe.cells (AB _)⟩, rfl⟩, ⟨⟨_, rfl, BLe.row rfl⟩, rfl⟩, trivial⟩, rfl, rfl⟩⟩
theorem Bf (V : Nat) (L : List LZ) (hL : L.length ≤ 10000) (kind : Int) (ls : List (List UT)) (hV : V ≤ 32) (hl : ls.length ≤ 100) (h : ∀ p ∈ ls, SzU V 4 10000 200 p) : IoGn Tryz.prog 64 [.ptr 900 0, aN kind, .sl 2 eP (ls.map (mkP V))] (w14r 901 V L) (.tup []) (w14r 902 V (L ++ [A7 V kind ls])) := by
 refine B9 Tryz.func64 rfl Tryz.ntmps64 rfl rfl ?_;have cm := rMakeL_ok V 1 kind ls (ixN V) rfl (by omega) (by omega) (by omega) fun p hp => ⟨by have := (h p hp).ln; omega, szOkT (h p hp) (by omega) (by omega)⟩;rw [linkR_eq h] at cm;(repeat' (first |refine qv ?_ |apply qr));refine qc (rFirst_ok V (by omega)) ?_;(repeat' (first |refine qv ?_|fail));refine qc (cm) ?_;refine ql eL [A7 V kind ls] ?_;refine qa (hby := (by dsimp only [List.length_nil, List.length_cons]; omega)) (hm := (by simp; omega)) (r := ?_);(repeat' (first |refine qv ?_ |refine Fl.nil (fun _ => by kernel_rfl) ?_ |refine qe ?_|fail));exact ⟨⟨[(902, 20)], _, _, AK _ _ _, rfl, AA _, rfl, ⟨⟨⟨_, rfl, BLe.cells (AB _)⟩, rfl⟩, ⟨⟨_, rfl, BLe.row rfl⟩, rfl⟩, trivial⟩, rfl, rfl⟩⟩
theorem r14Vars_ok (m : MZ) (hl : m.code.length ≤ 1000) (h0 : 0 ≤ m.regs) (h4 : m.regs ≤ 1000) : PureFn Tryz.prog 34 [aMz m] (aN m.V) := by
 refine AC Tryz.func34 rfl Tryz.ntmps34 rfl rfl ?_;have hV : m.V = 3 + m.code.length + 2 * m.regs.toNat := rfl;(repeat' (first |refine qv ?_ |apply qn |apply qs |apply qr |refine qw ?_ |refine qe ?_ |apply qt));exact RetOk.of rfl (AV.Le.int (by omega))
theorem r14Sum_ok (m : MZ) (x : List Int) (hl : m.code.length ≤ 1000) (hx : OkIn m x) (hxl : x.length ≤ 1000) : PureFn Tryz.prog 65 [aMz m, aI x] (aN (addZ m x)) := by
 refine AC Tryz.func65 rfl Tryz.ntmps65 rfl rfl ?_
 have hb : ∀ i, i ≤ x.length → 0 ≤ sumL (x.take i) ∧ sumL (x.take i) ≤ 1000 * i := fun i hi => by
  have := sumL_in (l := x.take i) fun n hn => hx.2 n (List.mem_of_mem_take hn);rw [List.length_take] at this;omega
 (repeat' (first |refine qv ?_ |apply qn |apply qs |apply qr |refine qe ?_ |apply qb));refine AWP.loop (G := Nat) (fun i => i ≤ x.length) (fun i => AO [] [(1, aI x), (5, aN ((m.code.length : Int) + sumL (x.take i))), (6, aN i)] []) (fun i => x.length - i) 0 (by omega) ?_ ?_
 ·refine Ent.of [] ?_ ?_ rfl rfl;(repeat' (first |exact True.intro |refine ⟨⟨AA _, rfl⟩, ?_⟩|fail))
  all_goals simp [sumL]
 ·intro i k0;have hbi := hb i k0;refine AE ?_;(repeat' (first |refine qv ?_ |apply qn |apply qs |apply qr |(refine AD rfl ?_ ?_ <;> intro _ <;> try (exfalso; omega)) |apply qk |apply qx |apply qt))
  ·rename_i hi;obtain ⟨y, hy⟩ : ∃ y, x[i]? = some y := ⟨_, List.getElem?_eq_getElem (by omega)⟩
   have hy' : x[Int.toNat (i : Int)]? = some y := by rw [Int.toNat_natCast]; exact hy
   have hyb := hx.2 y (List.mem_of_getElem? hy);refine ⟨?_⟩;(repeat' (first |refine qv ?_ |apply qn |apply qs |apply qr |refine qw ?_ |apply qb |refine qK ?_|fail));refine LoopEnd.of (i + 1) (by omega) (by omega) ?_;refine Ent.of [] ?_ ?_ rfl rfl;(repeat' (first |exact True.intro |refine ⟨⟨AA _, rfl⟩, ?_⟩ |refine ⟨⟨AV.Le.int ?_, rfl⟩, ?_⟩|fail));rw [Ac hy, Cc];simp only [sumL]; omega
  ·rename_i hi;rw [List.take_of_length_le (by omega)];exact RetOk.of rfl (AA _)
end Go.Proofs.YtmmfloplhopioaaGreat
/- history's maker: put, sum. -/
namespace Go.AL
abbrev aSz (m : MZ) (x : List Int) : AV := .agg [aN m.regs, .sl 4 eIz m.code, aI x, aN m.V, aN (addZ m x)]
end Go.AL
namespace Go.Proofs.YtmmfloplhopioaaGreat
open Go.AL
theorem Bp (m : MZ) (x : List Int) (i : Nat) (hi : i ≤ 1000) : PureFn Tryz.prog 96 [aSz m x, aN i] (aN ((3 + i : Nat) : Int)) := by
 refine AC Tryz.func96 rfl Tryz.ntmps96 rfl rfl ?_;(repeat' (first |refine qv ?_ |apply qn |apply qs |apply qr |refine qw ?_ |refine qe ?_ |apply qt));exact RetOk.of rfl (AV.Le.int (by omega))
theorem szReg_ok (m : MZ) (x : List Int) (i : Nat) (hl : m.code.length ≤ 1000) (hi : i ≤ 1000) : PureFn Tryz.prog 98 [aSz m x, aN i] (aN ((3 + m.l + i : Nat) : Int)) := by
 refine AC Tryz.func98 rfl Tryz.ntmps98 rfl rfl ?_;have hl2 : m.l = m.code.length := rfl;(repeat' (first |refine qv ?_ |apply qn |apply qs |apply qr |refine qw ?_ |refine qe ?_ |apply qt));exact RetOk.of rfl (AV.Le.int (by omega))
theorem szEnd_ok (m : MZ) (x : List Int) (i : Nat) (hl : m.code.length ≤ 1000) (h0 : 0 ≤ m.regs) (h4 : m.regs ≤ 4) (hi : i ≤ 1000) : PureFn Tryz.prog 100 [aSz m x, aN i] (aN ((3 + m.l + m.R + i : Nat) : Int)) := by
 refine AC Tryz.func100 rfl Tryz.ntmps100 rfl rfl ?_;have hl2 : m.l = m.code.length := rfl;have hR : m.R = m.regs.toNat := rfl;(repeat' (first |refine qv ?_ |apply qn |apply qs |apply qr |refine qw ?_ |refine qe ?_ |apply qt));exact RetOk.of rfl (AV.Le.int (by omega))
abbrev kBr (r : AL.Id) (m : MZ) (x : List Int) (q al : PZ) (L : List LZ) : List (AL.Id × Bx) := [(900, .cells [aN m.regs, .sl 4 eIz m.code, aI x, aN m.V, aN (addZ m x), aN m.V, aN q.vars, .sl 3 eT q.terms, aN al.vars, .sl 3 eT al.terms, .row r] 144), (r, .row 3 eL L 99)]
abbrev kB (m : MZ) (x : List Int) (q al : PZ) (L : List LZ) : List (AL.Id × Bx) := kBr 901 m x q al L
theorem Cm (m : MZ) (hm : OkMZ m) (x : List Int) (q al : PZ) (L : List LZ) (hL : L.length ≤ 10000) (kind : Int) (ls : List (List UT)) (h : SmLk m.V (kind, ls)) : IoGn Tryz.prog 107 [.ptr 900 0, aN kind, .sl 2 eP (ls.map (mkP m.V))] (kB m x q al L) (.tup []) (kBr 902 m x q al (L ++ [A7 m.V kind ls])) := by
 refine B9 Tryz.func107 rfl Tryz.ntmps107 rfl rfl ?_;have hV := hm.V32
 have h3 : BQ kind ≤ 3 := by unfold BQ; repeat' split <;> omega
 have hll : (ls.length : Int) = BQ kind := h.2.1;have hsz : ∀ p ∈ ls, SzU m.V 4 10000 200 p := h.2.2;(repeat' (first |refine qv ?_ |apply qr));refine qc (kLink_ok m.V kind ls (by omega) (by omega) fun p hp => ⟨by have := (hsz p hp).ln; omega, fun u hu => ((hsz p hp).ex u hu).1⟩) ?_;refine ql eL [A7 m.V kind ls] ?_;refine qa (hby := (by dsimp only [List.length_nil, List.length_cons]; omega)) (hm := (by simp; omega)) (r := ?_);(repeat' (first |refine qv ?_ |refine Fl.nil (fun _ => by kernel_rfl) ?_ |refine qe ?_|fail));exact ⟨⟨[(902, 19)], _, _, AK _ _ _, rfl, AA _, rfl, ⟨⟨⟨_, rfl, BLe.cells (AB _)⟩, rfl⟩, ⟨⟨_, rfl, BLe.row rfl⟩, rfl⟩, trivial⟩, rfl, rfl⟩⟩
theorem Ee {V : Nat} {c : IZ → Bool} {code : List IZ} {i : Nat} {y : IZ} (h : code[i]? = some y) (acc : List UT) : Ag V c i (code.drop i) acc = Ag V c (i + 1) (code.drop (i + 1)) (if c y then Al [] [acc, varU V (3 + i)] else acc) := by
 have hi := (List.getElem?_eq_some_iff.1 h).1;rw [List.drop_eq_getElem_cons hi, (List.getElem?_eq_some_iff.1 h).2];rfl
set_option maxHeartbeats 1000000 in
theorem mkSum_ok (m : MZ) (hm : OkMZ m) (x : List Int) (q al : PZ) (L : List LZ) (g : FuncId) (c : IZ → Bool) (hg : ∀ y, PureFn Tryz.prog g [aIz y] (aB (c y))) : IoFn Tryz.prog 109 [.ptr 900 0, .fn g []] (kB m x q al L) (.ret (aP (mkP m.V (Ag m.V c 0 m.code (conU m.V 0))))) (kB m x q al L) := by
 refine AG Tryz.func109 rfl Tryz.ntmps109 rfl rfl rfl ?_;have hV := hm.V32;have hl : m.code.length ≤ 15 := hm.l15;have hVe : m.V = 3 + m.code.length + 2 * m.R := rfl;(repeat' (first |refine qv ?_ |apply qn |apply qs |apply qr |refine qe ?_|fail));refine qc (Dt m.V 0 (by omega) (by omega) (by omega)) ?_;(repeat' (first |refine qv ?_ |apply qn |apply qs |apply qr |refine qe ?_ |apply qb));refine AWP.loop (G := Nat × List UT) (fun (i, out) => i ≤ m.code.length ∧ SzU m.V 1 i (1 + i) out ∧ Ag m.V c i (m.code.drop i) out = Ag m.V c 0 m.code (conU m.V 0)) (fun (i, out) => AO [900, 901] [(0, .ptr 900 0), (1, .fn g []), (4, .ptr 4 0), (5, .ptr 5 0), (18, .sl 4 eIz m.code), (19, aN m.code.length), (20, aN i)] (kB m x q al L ++ [(5, .cells (eP (mkP m.V out)) 105), (4, .cells [aN 0, .v (.slice none 0 0)] 105)])) (fun (i, _) => m.code.length - i) (0, conU m.V 0) ⟨by omega, (SzU.con m.V 0).mono (by omega) (by decide) (by omega), rfl⟩ ?_ ?_
 ·refine Ent.of [] ?_ ?_ rfl rfl;(repeat' (first |exact True.intro |refine ⟨⟨AA _, rfl⟩, ?_⟩ |refine ⟨⟨⟨_, rfl, BLe.cells (AB _)⟩, rfl⟩, ?_⟩ |refine ⟨⟨⟨_, rfl, BLe.row rfl⟩, rfl⟩, ?_⟩|fail))
 ·intro ⟨i, out⟩ ⟨k0, k1, k2⟩;have hlen := k1.ln;(repeat' (first |refine qv ?_ |apply qn |apply qs |apply qr |refine qe ?_ |(refine AD rfl ?_ ?_ <;> intro _ <;> try (exfalso; omega)) |apply qb |apply qk |apply qx |apply qt |(refine Az rfl rfl rfl rfl rfl rfl rfl rfl (by omega) (by omega) ?_; intro _ _)|fail))
  ·rename_i hi y hy;rw [Int.toNat_natCast] at hy;rw [Ee hy] at k2;refine Cq rfl rfl (hg y) rfl rfl rfl (AB _) ?_;(repeat' (first |refine qv ?_ |apply qn |apply qr |refine qw ?_ |apply qk |(refine BF rfl ?_ ?_ <;> intro _)))
   ·rename_i hc;rw [if_pos hc] at k2;have v := AN (V := m.V) (i := 3 + i) (by omega);refine qc (Bp m x i (by omega)) ?_;refine qc (Bw m.V (3 + i) (by omega) (by omega)) ?_;refine ql eP [mkP m.V out, mkP m.V (varU m.V (3 + i))] ?_;refine qc (DQ m.V (by omega) [out, varU m.V (3 + i)] (by simp) (DP k1 v (by omega) (by omega) (by omega) (by omega))) ?_;(repeat' (first |refine qv ?_ |apply qn |refine Fl.nil (fun _ => by kernel_rfl) ?_ |apply qr |refine qw ?_ |refine qe ?_|fail));refine LoopEnd.of (i + 1, Al [] [out, varU m.V (3 + i)]) ⟨by omega, ?_, k2⟩ (by simp only; omega) ?_
    ·rw [CC k1 v];exact (k1.add v).mono (by omega) (by omega) (by omega)
    ·refine Ent.of [] ?_ ?_ rfl rfl;(repeat' (first |exact True.intro |refine ⟨⟨AA _, rfl⟩, ?_⟩ |refine ⟨⟨⟨_, rfl, BLe.cells (AB _)⟩, rfl⟩, ?_⟩ |refine ⟨⟨⟨_, rfl, BLe.row rfl⟩, rfl⟩, ?_⟩|fail))
   ·rename_i hc;rw [if_neg (by rw [hc]; simp)] at k2;refine LoopEnd.of (i + 1, out) ⟨by omega, k1.mono (by omega) (by omega) (by omega), k2⟩ (by simp only; omega) ?_;refine Ent.of [] ?_ ?_ rfl rfl;(repeat' (first |exact True.intro |refine ⟨⟨AA _, rfl⟩, ?_⟩ |refine ⟨⟨⟨_, rfl, BLe.cells (AB _)⟩, rfl⟩, ?_⟩ |refine ⟨⟨⟨_, rfl, BLe.row rfl⟩, rfl⟩, ?_⟩|fail))
  ·rename_i hi;rw [List.drop_of_length_le (by omega)] at k2;rw [← k2];exact ⟨⟨[], _, _, AK _ _ _, rfl, AA _, rfl, ⟨⟨⟨_, rfl, BLe.cells (AB _)⟩, rfl⟩, ⟨⟨_, rfl, BLe.row rfl⟩, rfl⟩, trivial⟩, rfl, rfl⟩⟩
end Go.Proofs.YtmmfloplhopioaaGreat
/- history's maker: does, masks, goes. -/
namespace Go.AL
abbrev lkZ (m : MZ) (s : LkU) : LZ := A7 m.V s.1 s.2
theorem hsK_A {m : MZ} {x : List Int} {s : LkU} (h : s ∈ hsA m x) : s ∈ hsK m x := by simp [hsK, h]
theorem hsK_B {m : MZ} {x : List Int} {i : Nat} (h : i < m.l) : hsB m i ∈ hsK m x := by
 have : hsB m i ∈ (List.range m.l).map (hsB m) := List.mem_map.2 ⟨i, List.mem_range.2 h, rfl⟩;simp only [hsK, List.mem_append];exact .inl (.inl (.inl (.inl (.inr this))))
theorem hsK_C {m : MZ} {x : List Int} {s : LkU} (h : s ∈ hsC m) : s ∈ hsK m x := by
 simp only [hsK, List.mem_append];exact .inl (.inl (.inl (.inr h)))
theorem hsK_D {m : MZ} {x : List Int} {j : Nat} (h : j < m.R) : hsD m j ∈ hsK m x := by
 have : hsD m j ∈ (List.range m.R).map (hsD m) := List.mem_map.2 ⟨j, List.mem_range.2 h, rfl⟩;simp only [hsK, List.mem_append];exact .inl (.inl (.inr this))
theorem hsK_G {m : MZ} {x : List Int} {i : Nat} (h : i < m.l) {s : LkU} (hs : s ∈ hsGo m i (m.at i)) : s ∈ hsK m x := by
 have : s ∈ (List.range m.l).flatMap (fun i => hsGo m i (m.at i)) := List.mem_flatMap.2 ⟨i, List.mem_range.2 h, hs⟩;simp only [hsK, List.mem_append];exact .inl (.inr this)
theorem hsK_F {m : MZ} {x : List Int} {j : Nat} (h : j < m.R) : hsF m x j ∈ hsK m x := by
 have : hsF m x j ∈ (List.range m.R).map (hsF m x) := List.mem_map.2 ⟨j, List.mem_range.2 h, rfl⟩;simp only [hsK, List.mem_append];exact .inr this
theorem Br {α : Type} (L : List α) (f : Nat → α) (i : Nat) : L ++ (List.range (i + 1)).map f = L ++ (List.range i).map f ++ [f i] := by
 rw [List.range_succ, List.map_append, List.append_assoc]; rfl
end Go.AL
namespace Go.Proofs.YtmmfloplhopioaaGreat
open Go.AL
theorem mkHalt_ok (y : IZ) : PureFn Tryz.prog 163 [aIz y] (aB (decide (y.op = 3))) := by
 refine AC Tryz.func163 rfl Tryz.ntmps163 rfl rfl ?_;(repeat' (first |refine qv ?_ |apply qn |apply qs |apply qr |refine qe ?_ |apply qt));exact RetOk.of rfl (AA _)
theorem mkTrue_ok (y : IZ) : PureFn Tryz.prog 110 [aIz y] (aB true) := by
 refine AC Tryz.func110 rfl Tryz.ntmps110 rfl rfl ?_;(repeat' (first |refine qv ?_ |apply qn |apply qs |apply qr |refine qe ?_ |apply qt));exact RetOk.of rfl (AA _)
abbrev dB (op : Int) (j : Nat) : List (AL.Id × Bx) := [(902, .cells [aN op] 3), (903, .cells [aN j] 3)]
theorem mkIs_ok (op : Int) (j : Nat) (y : IZ) : IoFn Tryz.prog 165 ([aIz y] ++ [.ptr 902 0, .ptr 903 0]) (dB op j) (.ret (aB (decide (y.op = op) && decide (y.rg = (j : Int))))) (dB op j) := by
 refine AG Tryz.func165 rfl Tryz.ntmps165 rfl rfl rfl ?_;(repeat' (first |refine qv ?_ |apply qn |apply qs |apply qr |refine qe ?_ |refine Fl.skip rfl rfl ?_ |apply qt |(refine AJ rfl rfl ?_ ?_ <;> intro _ <;> try (exfalso; omega))))
 ·rename_i h;rw [decide_eq_true h];exact ⟨⟨[], _, _, AK _ _ _, rfl, AA _, rfl, ⟨⟨⟨_, rfl, BLe.cells (AB _)⟩, rfl⟩, ⟨⟨_, rfl, BLe.cells (AB _)⟩, rfl⟩, trivial⟩, rfl, rfl⟩⟩
 ·rename_i h;rw [decide_eq_false h];exact ⟨⟨[], _, _, AK _ _ _, rfl, AA _, rfl, ⟨⟨⟨_, rfl, BLe.cells (AB _)⟩, rfl⟩, ⟨⟨_, rfl, BLe.cells (AB _)⟩, rfl⟩, trivial⟩, rfl, rfl⟩⟩
set_option maxHeartbeats 1000000 in
theorem mkSum2_ok (m : MZ) (hm : OkMZ m) (x : List Int) (q al : PZ) (L : List LZ) (op : Int) (j : Nat) : IoFn Tryz.prog 109 [.ptr 900 0, .fn 165 [.ptr 902 0, .ptr 903 0]] (kB m x q al L ++ dB op j) (.ret (aP (mkP m.V (Ag m.V (fun y => decide (y.op = op) && decide (y.rg = (j : Int))) 0 m.code (conU m.V 0))))) (kB m x q al L ++ dB op j) := by
 refine AG Tryz.func109 rfl Tryz.ntmps109 rfl rfl rfl ?_;have hV := hm.V32;have hl : m.code.length ≤ 15 := hm.l15;have hVe : m.V = 3 + m.code.length + 2 * m.R := rfl;obtain ⟨c, ec⟩ : ∃ c : IZ → Bool, c = fun y => decide (y.op = op) && decide (y.rg = (j : Int)) := ⟨_, rfl⟩
 have hg : ∀ y, IoFn Tryz.prog 165 ([aIz y] ++ [.ptr 902 0, .ptr 903 0]) (dB op j) (.ret (aB (c y))) (dB op j) := fun y => by rw [ec]; exact mkIs_ok op j y
 rw [← ec];(repeat' (first |refine qv ?_ |apply qn |apply qs |apply qr |refine qe ?_|fail));refine qc (Dt m.V 0 (by omega) (by omega) (by omega)) ?_;(repeat' (first |refine qv ?_ |apply qn |apply qs |apply qr |refine qe ?_ |apply qb));refine AWP.loop (G := Nat × List UT) (fun (i, out) => i ≤ m.code.length ∧ SzU m.V 1 i (1 + i) out ∧ Ag m.V c i (m.code.drop i) out = Ag m.V c 0 m.code (conU m.V 0)) (fun (i, out) => AO [900, 901, 902, 903] [(0, .ptr 900 0), (1, .fn 165 [.ptr 902 0, .ptr 903 0]), (4, .ptr 4 0), (5, .ptr 5 0), (18, .sl 4 eIz m.code), (19, aN m.code.length), (20, aN i)] (kB m x q al L ++ dB op j ++ [(5, .cells (eP (mkP m.V out)) 105), (4, .cells [aN 0, .v (.slice none 0 0)] 105)])) (fun (i, _) => m.code.length - i) (0, conU m.V 0) ⟨by omega, (SzU.con m.V 0).mono (by omega) (by decide) (by omega), rfl⟩ ?_ ?_
 ·refine Ent.of [] ?_ ?_ rfl rfl;(repeat' (first |exact True.intro |refine ⟨⟨AA _, rfl⟩, ?_⟩ |refine ⟨⟨⟨_, rfl, BLe.cells (AB _)⟩, rfl⟩, ?_⟩ |refine ⟨⟨⟨_, rfl, BLe.row rfl⟩, rfl⟩, ?_⟩|fail))
 ·intro ⟨i, out⟩ ⟨k0, k1, k2⟩;have hlen := k1.ln;(repeat' (first |refine qv ?_ |apply qn |apply qs |apply qr |refine qe ?_ |(refine AD rfl ?_ ?_ <;> intro _ <;> try (exfalso; omega)) |apply qb |apply qk |apply qx |apply qt |(refine Az rfl rfl rfl rfl rfl rfl rfl rfl (by omega) (by omega) ?_; intro _ _)|fail))
  ·rename_i hi y hy;rw [Int.toNat_natCast] at hy;rw [Ee hy] at k2;refine Fl.ioVR rfl rfl [] (hg y) rfl rfl (AB _) rfl ⟨⟨⟨_, rfl, BLe.cells (AB _)⟩, rfl⟩, ⟨⟨_, rfl, BLe.cells (AB _)⟩, rfl⟩, trivial⟩ ⟨rfl, rfl, trivial⟩ rfl rfl rfl rfl ?_;(repeat' (first |refine qv ?_ |apply qn |apply qr |refine qw ?_ |apply qk |(refine BF rfl ?_ ?_ <;> intro _)))
   ·rename_i hc;rw [if_pos hc] at k2;have v := AN (V := m.V) (i := 3 + i) (by omega);refine qc (Bp m x i (by omega)) ?_;refine qc (Bw m.V (3 + i) (by omega) (by omega)) ?_;refine ql eP [mkP m.V out, mkP m.V (varU m.V (3 + i))] ?_;refine qc (DQ m.V (by omega) [out, varU m.V (3 + i)] (by simp) (DP k1 v (by omega) (by omega) (by omega) (by omega))) ?_;(repeat' (first |refine qv ?_ |apply qn |refine Fl.nil (fun _ => by kernel_rfl) ?_ |apply qr |refine qw ?_ |refine qe ?_|fail));refine LoopEnd.of (i + 1, Al [] [out, varU m.V (3 + i)]) ⟨by omega, ?_, k2⟩ (by simp only; omega) ?_
    ·rw [CC k1 v];exact (k1.add v).mono (by omega) (by omega) (by omega)
    ·refine Ent.of [] ?_ ?_ rfl rfl;(repeat' (first |exact True.intro |refine ⟨⟨AA _, rfl⟩, ?_⟩ |refine ⟨⟨⟨_, rfl, BLe.cells (AB _)⟩, rfl⟩, ?_⟩ |refine ⟨⟨⟨_, rfl, BLe.row rfl⟩, rfl⟩, ?_⟩|fail))
   ·rename_i hc;rw [if_neg (by rw [hc]; simp)] at k2;refine LoopEnd.of (i + 1, out) ⟨by omega, k1.mono (by omega) (by omega) (by omega), k2⟩ (by simp only; omega) ?_;refine Ent.of [] ?_ ?_ rfl rfl;(repeat' (first |exact True.intro |refine ⟨⟨AA _, rfl⟩, ?_⟩ |refine ⟨⟨⟨_, rfl, BLe.cells (AB _)⟩, rfl⟩, ?_⟩ |refine ⟨⟨⟨_, rfl, BLe.row rfl⟩, rfl⟩, ?_⟩|fail))
  ·rename_i hi;rw [List.drop_of_length_le (by omega)] at k2;rw [← k2];exact ⟨⟨[], _, _, AK _ _ _, rfl, AA _, rfl, ⟨⟨⟨_, rfl, BLe.cells (AB _)⟩, rfl⟩, ⟨⟨_, rfl, BLe.row rfl⟩, rfl⟩, ⟨⟨_, rfl, BLe.cells (AB _)⟩, rfl⟩, ⟨⟨_, rfl, BLe.cells (AB _)⟩, rfl⟩, trivial⟩, rfl, rfl⟩⟩
abbrev kQ (m : MZ) : PZ := mkP m.V (hsQ m.V)
abbrev kAll (m : MZ) : PZ := mkP m.V (Bi m.V)
set_option maxHeartbeats 1000000 in
theorem mkMasks_ok (m : MZ) (hm : OkMZ m) (x : List Int) (hx : OkIn m x) (L : List LZ) (hL : L.length ≤ 1000) : IoGn Tryz.prog 111 [.ptr 900 0] (kB m x (kQ m) (kAll m) L) (.tup []) (kBr 902 m x (kQ m) (kAll m) (L ++ (List.range m.l).map (fun i => lkZ m (hsB m i)) ++ (hsC m).map (lkZ m) ++ (List.range m.R).map (fun j => lkZ m (hsD m j)))) := by
 refine B9 Tryz.func111 rfl Tryz.ntmps111 rfl rfl ?_;have hV := hm.V32;have hl : m.code.length ≤ 15 := hm.l15;have hR4 := hm.r4;have hR1 := hm.r1;have hR : m.R = m.regs.toNat := rfl;have hVe : m.V = 3 + m.code.length + 2 * m.R := rfl;have hl1 : 1 ≤ m.code.length := hm.l1;(repeat' (first |refine qv ?_ |apply qn |apply qs |apply qr |apply qb));refine AWP.loop (G := Nat) (fun i => i ≤ m.code.length) (fun i => AO [900, 901] [(0, .ptr 900 0), (10, aN m.code.length), (11, aN i)] (kBr 902 m x (kQ m) (kAll m) (L ++ (List.range i).map (fun i => lkZ m (hsB m i))))) (fun i => m.code.length - i) 0 (by omega) ?_ ?_
 ·refine Ent.of [(902, 901)] ?_ ?_ rfl rfl;(repeat' (first |exact True.intro |refine ⟨⟨AA _, rfl⟩, ?_⟩ |refine ⟨⟨⟨_, rfl, BLe.cells (AB _)⟩, rfl⟩, ?_⟩ |refine ⟨⟨⟨_, rfl, BLe.row ?_⟩, rfl⟩, ?_⟩|fail));simp
 ·intro i k0;(repeat' (first |refine qv ?_ |apply qn |apply qs |apply qr |(refine AD rfl ?_ ?_ <;> intro _ <;> try (exfalso; omega)) |apply qb |apply qk |apply qx))
  ·rename_i hi;have hsm := Cz hm hx (hsB m i) (hsK_B (show i < m.l by show i < m.code.length; omega));refine qc (Bp m x i (by omega)) ?_;refine qc (Bw m.V (3 + i) (by omega) (by omega)) ?_;(repeat' (first |refine qv ?_|fail));refine qc (Bw m.V 2 (by omega) (by omega)) ?_;refine ql eP [mkP m.V (varU m.V (3 + i)), mkP m.V (varU m.V 2)] ?_;refine CB rfl [(901, 902), (902, 32)] (Cm m hm x (kQ m) (kAll m) _ (by simp; omega) 3 [varU m.V (3 + i), varU m.V 2] hsm) rfl rfl (AB _) rfl ⟨⟨⟨_, rfl, BLe.cells (AB _)⟩, rfl⟩, ⟨⟨_, rfl, BLe.row rfl⟩, rfl⟩, trivial⟩ rfl rfl rfl rfl rfl ?_;(repeat' (first |refine qv ?_ |apply qn |refine Fl.nil (fun _ => by kernel_rfl) ?_ |apply qr |refine qw ?_|fail));refine LoopEnd.of (i + 1) (by omega) (by omega) ?_;refine Ent.of [(902, 32)] ?_ ?_ rfl rfl;(repeat' (first |exact True.intro |refine ⟨⟨AA _, rfl⟩, ?_⟩ |refine ⟨⟨⟨_, rfl, BLe.cells (AB _)⟩, rfl⟩, ?_⟩ |refine ⟨⟨⟨_, rfl, BLe.row ?_⟩, rfl⟩, ?_⟩|fail));rw [Br]; rfl
  ·rename_i hi
   have hi : i = m.code.length := by omega
   subst hi;have hsm1 := Cz hm hx (3, [conU m.V 1, varU m.V 3]) (hsK_C (by simp [hsC]));have hsm2 := Cz hm hx (2, [hsQ m.V, varU m.V 0, Ag m.V (fun x => decide (x.op = 3)) 0 m.code (conU m.V 0)]) (hsK_C (by simp [hsC]));refine qc (Dt m.V 1 (by omega) (by omega) (by omega)) ?_;(repeat' (first |refine qv ?_|fail));refine qc (Bp m x 0 (by omega)) ?_;refine qc (Bw m.V 3 (by omega) (by omega)) ?_;refine ql eP [mkP m.V (conU m.V 1), mkP m.V (varU m.V 3)] ?_;refine CB rfl [(901, 902), (902, 51)] (Cm m hm x (kQ m) (kAll m) _ (by simp; omega) 3 [conU m.V 1, varU m.V 3] hsm1) rfl rfl (AB _) rfl ⟨⟨⟨_, rfl, BLe.cells (AB _)⟩, rfl⟩, ⟨⟨_, rfl, BLe.row rfl⟩, rfl⟩, trivial⟩ rfl rfl rfl rfl rfl ?_;(repeat' (first |refine qv ?_ |refine Fl.nil (fun _ => by kernel_rfl) ?_ |apply qs |apply qr));refine qc (Bw m.V 0 (by omega) (by omega)) ?_;(repeat' (first |refine qv ?_|fail));refine qR [(901, 51)] (mkSum_ok m hm x (kQ m) (kAll m) _ 163 (fun y => decide (y.op = 3)) mkHalt_ok) ?_;refine ql eP [mkP m.V (hsQ m.V), mkP m.V (varU m.V 0), mkP m.V (Ag m.V (fun x => decide (x.op = 3)) 0 m.code (conU m.V 0))] ?_;refine CB rfl [(901, 51), (902, 65)] (Cm m hm x (kQ m) (kAll m) _ (by simp; omega) 2 [hsQ m.V, varU m.V 0, Ag m.V (fun x => decide (x.op = 3)) 0 m.code (conU m.V 0)] hsm2) rfl rfl (AB _) rfl ⟨⟨⟨_, rfl, BLe.cells (AB _)⟩, rfl⟩, ⟨⟨_, rfl, BLe.row rfl⟩, rfl⟩, trivial⟩ rfl rfl rfl rfl rfl ?_;(repeat' (first |refine qv ?_ |apply qn |refine Fl.nil (fun _ => by kernel_rfl) ?_ |apply qs |apply qr |apply qb));refine AWP.loop (G := Nat) (fun j => j ≤ m.R) (fun j => AO [900, 901] [(0, .ptr 900 0), (71, aN m.R), (72, aN j)] (kBr 902 m x (kQ m) (kAll m) (L ++ (List.range m.code.length).map (fun i => lkZ m (hsB m i)) ++ (hsC m).map (lkZ m) ++ (List.range j).map (fun j => lkZ m (hsD m j))))) (fun j => m.R - j) 0 (by omega) ?_ ?_
   ·refine Ent.of [(902, 65)] ?_ ?_ rfl rfl;(repeat' (first |exact True.intro |refine ⟨⟨AA _, rfl⟩, ?_⟩ |refine ⟨⟨⟨_, rfl, BLe.cells (AB _)⟩, rfl⟩, ?_⟩ |refine ⟨⟨⟨_, rfl, BLe.row ?_⟩, rfl⟩, ?_⟩ |refine ⟨⟨AV.Le.int ?_, rfl⟩, ?_⟩|fail))
    ·omega
    ·simp [hsC]
   ·intro j k1;(repeat' (first |refine qv ?_ |apply qn |apply qs |apply qr |(refine AD rfl ?_ ?_ <;> intro _ <;> try (exfalso; omega)) |apply qb |apply qk |apply qx))
    ·rename_i hj;have hsm := Cz hm hx (hsD m j) (hsK_D (show j < m.R by omega));have a := (AN (V := m.V) (i := 1) (by omega));have b := (SzU.con m.V 1);have c := (AN (V := m.V) (i := 2) (by omega));refine qc (szReg_ok m x j (by omega) (by omega)) ?_;refine qc (Bw m.V (3 + m.l + j) (by omega) (by show 3 + m.code.length + j < m.V; omega)) ?_;(repeat' (first |refine qv ?_|fail));refine qc (Bw m.V 1 (by omega) (by omega)) ?_;(repeat' (first |refine qv ?_|fail));refine qc (Dt m.V 1 (by omega) (by omega) (by omega)) ?_;refine qc (kSub_ok m.V (by omega) (varU m.V 1) (conU m.V 1) (subL (varU m.V 1) (conU m.V 1)) (a.chk (by omega) (by omega) (by omega)) (b.chk (by omega) (by decide) (by omega)) (a.subChk b (by omega) (by omega) (by decide) (by omega))) ?_;(repeat' (first |refine qv ?_|fail));refine qc (Bw m.V 2 (by omega) (by omega)) ?_;refine ql eP [mkP m.V (subL (varU m.V 1) (conU m.V 1)), mkP m.V (varU m.V 2)] ?_;refine qc (Cn m.V (by omega) [subL (varU m.V 1) (conU m.V 1), varU m.V 2] (by simp) (CX (a.sub b) c (by omega) (by decide) (by decide) (by decide) (by omega) (by omega) (by omega))) ?_;refine ql eP [mkP m.V (varU m.V (3 + m.l + j)), mkP m.V (Av (conU m.V 1) [subL (varU m.V 1) (conU m.V 1), varU m.V 2])] ?_;refine CB rfl [(901, 902), (902, 114)] (Cm m hm x (kQ m) (kAll m) _ (by simp [hsC]; omega) 3 [varU m.V (3 + m.l + j), Av (conU m.V 1) [subL (varU m.V 1) (conU m.V 1), varU m.V 2]] hsm) rfl rfl (AB _) rfl ⟨⟨⟨_, rfl, BLe.cells (AB _)⟩, rfl⟩, ⟨⟨_, rfl, BLe.row rfl⟩, rfl⟩, trivial⟩ rfl rfl rfl rfl rfl ?_;(repeat' (first |refine qv ?_ |apply qn |refine Fl.nil (fun _ => by kernel_rfl) ?_ |apply qr |refine qw ?_|fail));refine LoopEnd.of (j + 1) (by omega) (by omega) ?_;refine Ent.of [(902, 114)] ?_ ?_ rfl rfl;(repeat' (first |exact True.intro |refine ⟨⟨AA _, rfl⟩, ?_⟩ |refine ⟨⟨⟨_, rfl, BLe.cells (AB _)⟩, rfl⟩, ?_⟩ |refine ⟨⟨⟨_, rfl, BLe.row ?_⟩, rfl⟩, ?_⟩|fail));rw [Br]; rfl
    ·rename_i hj
     have hj : j = m.R := by omega
     subst hj;exact ⟨⟨[], _, _, AK _ _ _, rfl, AA _, rfl, ⟨⟨⟨_, rfl, BLe.cells (AB _)⟩, rfl⟩, ⟨⟨_, rfl, BLe.row rfl⟩, rfl⟩, trivial⟩, rfl, rfl⟩⟩
end Go.Proofs.YtmmfloplhopioaaGreat
/- That the links of a machine's system hold is the history's equations. Plain. -/
namespace Go.AL
theorem hol_sz {V : Nat} {kind : Int} {ls : List (List UT)} {X : List Int} (hX : X.length = V) (h : ∀ p ∈ ls, SzU V 4 10000 200 p) : HoL X (A7 V kind ls) ↔ holdP kind (ls.map (uv X)) := by
 unfold HoL;rw [lvals_linkU hX fun p hp => fun u hu => ⟨((h p hp).ex u hu).1, (ex_ok (by omega) ((h p hp).ex u hu)).2.2⟩];exact Iff.rfl
theorem A5 (a b : Int) : holdP 3 [a, b] ↔ 0 ≤ a ∧ 0 ≤ b ∧ undN a.toNat b.toNat := by
 unfold holdP; simp; intros; exact Iff.rfl
theorem holdP_pow (a b c : Int) : holdP 2 [a, b, c] ↔ 1 ≤ a ∧ 0 ≤ b ∧ a ^ b.toNat = c := by
 unfold holdP; simp
theorem holdP_eq (a : Int) : holdP 0 [a] ↔ a = 0 := by
 unfold holdP; simp
section
variable {m : MZ} {x X : List Int}
abbrev nX (X : List Int) (i : Nat) : Nat := (X.getD i 0).toNat
theorem nX_cast (h0 : ∀ y ∈ X, 0 ≤ y) (i : Nat) : ((nX X i : Nat) : Int) = X.getD i 0 := by
 have : 0 ≤ X.getD i 0 := by
  rw [List.getD_eq_getElem?_getD]
  cases h : X[i]? with
  | none => simp
  | some y => exact h0 y (List.mem_of_getElem? h)
 show (((X.getD i 0).toNat : Nat) : Int) = _;omega
theorem sum_val (ok : OkMZ m) (hX : X.length = m.V) (h0 : ∀ y ∈ X, 0 ≤ y) (c : IZ → Bool) : uv X (Ag m.V c 0 m.code (conU m.V 0)) = (sumN m.l fun j => if c (m.at j) then nX X (3 + j) else 0 : Nat) := by
 have hV := ok.V32;have hl := ok.l15;have hVe : m.V = 3 + m.l + 2 * m.R := rfl;rw [hsSum_val (by omega) hX h0 c m.code (i := 0) ((SzU.con m.V 0).mono (d' := 1) (c' := 0) (n' := 1) (by omega) (by decide) (by omega)) (by show 3 + 0 + m.l ≤ m.V; omega) (by omega) (by show 1 ≤ 100 - m.l; omega) (by show m.l ≤ 50; omega), DD]
 have : (sumN m.code.length fun j => if c (m.code.getD j haltZ) = true then (X.getD (3 + 0 + j) 0).toNat else 0) = sumN m.l fun j => if c (m.at j) = true then nX X (3 + j) else 0 := BJ fun j _ => by rw [Nat.add_zero]; rfl
 rw [this]; omega
structure HistZ (m : MZ) (x X : List Int) : Prop where
  a1 : (2 : Int) ^ (X.getD 0 0 + addZ m x).toNat = X.getD 1 0
  a2 : 1 ≤ 2 * X.getD 1 0 ∧ (2 * X.getD 1 0) ^ (X.getD 0 0 + 1).toNat = 1 + (2 * X.getD 1 0 - 1) * X.getD 2 0
  a3 : X.getD 2 0 = (sumN m.l fun j => nX X (3 + j) : Nat)
  b : ∀ i, i < m.l → undN (nX X (3 + i)) (nX X 2)
  c1 : undN 1 (nX X 3)
  c2 : (2 * X.getD 1 0) ^ (nX X 0) = (sumN m.l fun j => if (m.at j).op = 3 then nX X (3 + j) else 0 : Nat)
  d : ∀ j, j < m.R → 0 ≤ (X.getD 1 0 - 1) * X.getD 2 0 ∧ undN (nX X (3 + m.l + j)) ((X.getD 1 0 - 1) * X.getD 2 0).toNat
  e : ∀ i, i < m.l → (m.at i).op ≠ 3 → if (m.at i).op = 2 ∧ (m.at i).zr ≠ (m.at i).nx then undN (2 * X.getD 1 0 * X.getD (3 + i) 0).toNat (X.getD (3 + (m.at i).nx.toNat) 0 + X.getD (3 + (m.at i).zr.toNat) 0).toNat ∧ 0 ≤ X.getD (3 + (m.at i).nx.toNat) 0 + 2 * X.getD 1 0 * X.getD 2 0 - 2 * X.getD (3 + m.l + (m.at i).rg.toNat) 0 ∧ undN (2 * X.getD 1 0 * X.getD (3 + i) 0).toNat (X.getD (3 + (m.at i).nx.toNat) 0 + 2 * X.getD 1 0 * X.getD 2 0 - 2 * X.getD (3 + m.l + (m.at i).rg.toNat) 0).toNat else undN (2 * X.getD 1 0 * X.getD (3 + i) 0).toNat (nX X (3 + (m.at i).nx.toNat))
  f : ∀ j, j < m.R → X.getD (3 + m.l + j) 0 + X.getD (3 + m.l + m.R + j) 0 * (1 + (2 * X.getD 1 0 - 1) * X.getD 2 0) = x.getD j 0 + 2 * X.getD 1 0 * X.getD (3 + m.l + j) 0 + 2 * X.getD 1 0 * (sumN m.l fun i => if (m.at i).op = 0 ∧ (m.at i).rg = j then nX X (3 + i) else 0 : Nat) - 2 * X.getD 1 0 * (sumN m.l fun i => if (m.at i).op = 1 ∧ (m.at i).rg = j then nX X (3 + i) else 0 : Nat)
theorem does_val (ok : OkMZ m) (hX : X.length = m.V) (h0 : ∀ y ∈ X, 0 ≤ y) (op : Int) (j : Nat) : uv X (BA m op j) = 2 * X.getD 1 0 * (sumN m.l fun i => if (m.at i).op = op ∧ (m.at i).rg = j then nX X (3 + i) else 0 : Nat) := by
 have hV := ok.V32;unfold BA;rw [DM (by omega) X (BM ok.V6).1 (DG ok _) (by omega) (by omega) (by omega) (by omega) (by omega) (by omega) (by omega), hsQ_val ok.V6 (by omega) hX, sum_val ok hX h0];congr 2;refine BJ fun i _ => ?_;simp only [Bool.and_eq_true, decide_eq_true_eq]
theorem here_val (ok : OkMZ m) (hX : X.length = m.V) {i : Nat} (hi : i < m.l) : uv X (Af m i) = 2 * X.getD 1 0 * X.getD (3 + i) 0 := by
 have hV := ok.V32;have hVe : m.V = 3 + m.l + 2 * m.R := rfl;unfold Af;rw [DM (by omega) X (BM ok.V6).1 (AN (by omega)) (by omega) (by omega) (by omega) (by omega) (by omega) (by omega) (by omega), hsQ_val ok.V6 (by omega) hX, DC hX (by omega)]
theorem jmp_val (ok : OkMZ m) (hX : X.length = m.V) {y : IZ} (hn : y.nx.toNat < m.l) (hr : y.rg.toNat < m.R) : uv X (Cs m y) = X.getD (3 + y.nx.toNat) 0 + 2 * X.getD 1 0 * X.getD 2 0 - 2 * X.getD (3 + m.l + y.rg.toNat) 0 := by
 have hV := ok.V32;have hV6 := ok.V6;have hVe : m.V = 3 + m.l + 2 * m.R := rfl;have q := (BM hV6).1;have vn := AN (V := m.V) (i := 3 + y.nx.toNat) (by omega);have v2 := AN (V := m.V) (i := 2) (by omega);have vr := AN (V := m.V) (i := 3 + m.l + y.rg.toNat) (by omega);have e1 := q.mul v2;have e2 := (SzU.con m.V 2).mul vr;have e3 := vn.add e1;rw [← BC q] at e1;rw [← BC (SzU.con m.V 2)] at e2;rw [← BC q, ← CC vn e1] at e3;unfold Cs;rw [EQ (by omega) X e3 e2 (by omega) (by omega) (by decide) (by omega), uv_add2 (by omega) X vn e1 (by omega) (by omega) (by decide) (by omega), DM (by omega) X q v2 (by omega) (by omega) (by omega) (by omega) (by omega) (by omega) (by omega), DM (by omega) X (SzU.con m.V 2) vr (by omega) (by decide) (by decide) (by omega) (by omega) (by omega) (by omega), hsQ_val hV6 (by omega) hX, DD, DC hX (by omega), DC hX (by omega), DC hX (by omega)]
theorem f_val (ok : OkMZ m) (hx : OkIn m x) (hX : X.length = m.V) (h0 : ∀ y ∈ X, 0 ≤ y) {j : Nat} (hj : j < m.R) : uv X (subL (hsL m j) (subL (hsR0 m x j) (BA m 1 j))) = X.getD (3 + m.l + j) 0 + X.getD (3 + m.l + m.R + j) 0 * (1 + (2 * X.getD 1 0 - 1) * X.getD 2 0) - (x.getD j 0 + 2 * X.getD 1 0 * X.getD (3 + m.l + j) 0 + 2 * X.getD 1 0 * (sumN m.l fun i => if (m.at i).op = 0 ∧ (m.at i).rg = j then nX X (3 + i) else 0 : Nat) - 2 * X.getD 1 0 * (sumN m.l fun i => if (m.at i).op = 1 ∧ (m.at i).rg = j then nX X (3 + i) else 0 : Nat)) := by
 have hV := ok.V32;have hV6 := ok.V6;have hVe : m.V = 3 + m.l + 2 * m.R := rfl;obtain ⟨sL, sL2⟩ := sz_L ok hj;obtain ⟨sR, okR, sR2⟩ := sz_R0 ok hx hj;have sD := sz_does ok 1 j;have q := (BM hV6).1;have va := AN (V := m.V) (i := 3 + m.l + j) (by omega);have vb := AN (V := m.V) (i := 3 + m.l + m.R + j) (by omega)
 have eL : uv X (hsL m j) = X.getD (3 + m.l + j) 0 + X.getD (3 + m.l + m.R + j) 0 * (1 + (2 * X.getD 1 0 - 1) * X.getD 2 0) := by
  unfold hsL;rw [uv_add2 (by omega) X va sL2 (by omega) (by omega) (by omega) (by omega), DM (by omega) X vb (Co hV6).1 (by omega) (by omega) (by omega) (by omega) (by omega) (by omega) (by omega), hsAll_val hV6 (by omega) hX, DC hX (by omega), DC hX (by omega)]
 have eR : uv X (hsR0 m x j) = x.getD j 0 + 2 * X.getD 1 0 * X.getD (3 + m.l + j) 0 + 2 * X.getD 1 0 * (sumN m.l fun i => if (m.at i).op = 0 ∧ (m.at i).rg = j then nX X (3 + i) else 0 : Nat) := by
  unfold hsR0;rw [uv_sums (by omega) X _ _ okR];simp only [List.map_cons, List.map_nil, sumL];rw [DD, does_val ok hX h0, DM (by omega) X q va (by omega) (by omega) (by omega) (by omega) (by omega) (by omega) (by omega), hsQ_val hV6 (by omega) hX, DC hX (by omega)];show (0 : Int) + _ = _;omega
 rw [EQ (by omega) X sL (sR.sub sD) (by omega) (by omega) (by omega) (by omega), EQ (by omega) X sR sD (by omega) (by omega) (by omega) (by omega), eL, eR, does_val ok hX h0]
theorem hs_hol (ok : OkMZ m) (hx : OkIn m x) (hX : X.length = m.V) (h0 : ∀ y ∈ X, 0 ≤ y) : (∀ l ∈ (hsS m x).links, HoL X l) ↔ HistZ m x X := by
 have hV := ok.V32;have hV6 := ok.V6;have hVe : m.V = 3 + m.l + 2 * m.R := rfl;obtain ⟨s1, s2, s3⟩ := addZ_b ok hx;have sm := Cz ok hx;have q := (BM hV6).1;have v : ∀ i, i < m.V → uv X (varU m.V i) = X.getD i 0 := fun i hi => DC hX hi
 have g0 : ∀ i, 0 ≤ X.getD i 0 := fun i => by have := nX_cast h0 i; omega
 have vsum : ∀ k : Int, 0 ≤ k → k ≤ 5000 → uv X (Al [] [varU m.V 0, conU m.V k]) = X.getD 0 0 + k := fun k k0 k1 => by
  rw [uv_add2 (by omega) X (AN (by omega)) (SzU.con m.V k) (by omega) (by omega) (by omega) (by omega), v 0 (by omega), DD]
 have vq := hsQ_val hV6 (by omega) hX;have val := hsAll_val hV6 (by omega) hX
 have vd : uv X (Av (conU m.V 1) [subL (varU m.V 1) (conU m.V 1), varU m.V 2]) = (X.getD 1 0 - 1) * X.getD 2 0 := by
  have a := AN (V := m.V) (i := 1) (by omega);have b := SzU.con m.V 1;rw [DM (by omega) X (a.sub b) (AN (by omega)) (by omega) (by decide) (by decide) (by decide) (by omega) (by omega) (by omega), EQ (by omega) X a b (by omega) (by omega) (by decide) (by omega), v 1 (by omega), v 2 (by omega), DD]
 have hfor : (∀ l ∈ (hsS m x).links, HoL X l) ↔ ∀ s ∈ hsK m x, holdP s.1 (s.2.map (uv X)) := by
  show (∀ l ∈ (hsK m x).map (fun s => A7 m.V s.1 s.2), HoL X l) ↔ _;rw [List.forall_mem_map];exact ⟨fun h s hs => (hol_sz hX (sm s hs).2.2).1 (h s hs), fun h s hs => (hol_sz hX (sm s hs).2.2).2 (h s hs)⟩
 rw [hfor]
 have nxb : ∀ i, i < m.l → (m.at i).op ≠ 3 → (m.at i).nx.toNat < m.l ∧ (m.at i).rg.toNat < m.R ∧ ((m.at i).op = 2 → (m.at i).zr.toNat < m.l) := fun i hi h3 => by
  rcases ok.ins i hi with k | ⟨⟨a1, a2⟩, ⟨b1, b2⟩, k⟩
  ·rw [k] at h3; exact absurd rfl h3
  ·have hR : ((m.R : Nat) : Int) = m.regs := by have := ok.r1; show ((m.regs.toNat : Nat) : Int) = _; omega
   refine ⟨by omega, by omega, fun h2 => ?_⟩;rcases k with k | k
   ·have := k.2.1; have := k.2.2.1; omega
   ·omega
 have v2z : ∀ i, i < m.l → (m.at i).op ≠ 3 → (m.at i).op = 2 → uv X (Al [] [varU m.V (3 + (m.at i).nx.toNat), varU m.V (3 + (m.at i).zr.toNat)]) = X.getD (3 + (m.at i).nx.toNat) 0 + X.getD (3 + (m.at i).zr.toNat) 0 := fun i hi h3 h2 => by
  obtain ⟨n1, n2, n3⟩ := nxb i hi h3;have n3 := n3 h2;rw [uv_add2 (by omega) X (AN (by omega)) (AN (by omega)) (by omega) (by omega) (by omega) (by omega), v _ (by omega), v _ (by omega)]
 have hmem : ∀ s, s ∈ hsK m x ↔ (s ∈ hsA m x ∨ (∃ i, i < m.l ∧ hsB m i = s) ∨ s ∈ hsC m ∨ (∃ j, j < m.R ∧ hsD m j = s) ∨ (∃ i, i < m.l ∧ s ∈ hsGo m i (m.at i)) ∨ ∃ j, j < m.R ∧ hsF m x j = s) := fun s => by
  simp only [hsK, List.mem_append, List.mem_map, List.mem_flatMap, List.mem_range, or_assoc]
 have hP : ∀ i j : Nat, 0 ≤ 2 * X.getD i 0 * X.getD j 0 := fun i j => Int.mul_nonneg (by have := g0 i; omega) (g0 j);constructor
 ·intro h;have hA := fun s (hs : s ∈ hsA m x) => h s ((hmem s).2 (.inl hs));have hB := fun i (hi : i < m.l) => h (hsB m i) ((hmem _).2 (.inr (.inl ⟨i, hi, rfl⟩)));have hC := fun s (hs : s ∈ hsC m) => h s ((hmem s).2 (.inr (.inr (.inl hs))));have hD := fun j (hj : j < m.R) => h (hsD m j) ((hmem _).2 (.inr (.inr (.inr (.inl ⟨j, hj, rfl⟩)))));have hE := fun i (hi : i < m.l) s (hs : s ∈ hsGo m i (m.at i)) => h s ((hmem s).2 (.inr (.inr (.inr (.inr (.inl ⟨i, hi, hs⟩))))));have hF := fun j (hj : j < m.R) => h (hsF m x j) ((hmem _).2 (.inr (.inr (.inr (.inr (.inr ⟨j, hj, rfl⟩))))));simp only [hsA, List.forall_mem_cons] at hA;simp only [hsC, List.forall_mem_cons] at hC;obtain ⟨k1, k2, k3, _⟩ := hA;obtain ⟨k4, k5, _⟩ := hC;simp only [List.map_cons, List.map_nil, DD, vsum _ (show 0 ≤ addZ m x by omega) (by omega), vsum 1 (by omega) (by omega), v 1 (by omega), v 0 (by omega), v 3 (by omega), vq, val, sum_val ok hX h0] at k1 k2 k3 k4 k5;rw [holdP_pow] at k1 k2 k5;rw [A5] at k4;rw [EQ (by omega) X (AN (by omega)) (DG ok _) (by omega) (by omega) (by omega) (by omega), sum_val ok hX h0, v 2 (by omega), holdP_eq] at k3;refine ⟨k1.2.2, ⟨k2.1, k2.2.2⟩, ?_, fun i hi => ?_, k4.2.2, ?_, fun j hj => ?_, fun i hi h3 => ?_, fun j hj => ?_⟩
  ·simp only [if_true] at k3; omega
  ·have := hB i hi;simp only [hsB, List.map_cons, List.map_nil, v (3 + i) (by omega), v 2 (by omega)] at this;exact ((A5 _ _).1 this).2.2
  ·have := k5.2.2;simp only [decide_eq_true_eq] at this;exact this
  ·have := hD j hj;simp only [hsD, List.map_cons, List.map_nil, v (3 + m.l + j) (by omega), vd] at this;exact ((A5 _ _).1 this).2
  ·have hE := hE i hi;obtain ⟨n1, n2, n3⟩ := nxb i hi h3;unfold hsGo at hE;rw [if_neg h3] at hE;by_cases hj : (m.at i).op = 2 ∧ (m.at i).zr ≠ (m.at i).nx
   ·rw [if_pos hj] at hE ⊢;simp only [List.forall_mem_cons] at hE;obtain ⟨e1, e2, _⟩ := hE;simp only [List.map_cons, List.map_nil, here_val ok hX hi, v2z i hi h3 hj.1, jmp_val ok hX n1 n2] at e1 e2;have e1 := (A5 _ _).1 e1;have e2 := (A5 _ _).1 e2;exact ⟨e1.2.2, e2.2.1, e2.2.2⟩
   ·rw [if_neg hj] at hE ⊢;simp only [List.forall_mem_cons] at hE;have e1 := hE.1;simp only [List.map_cons, List.map_nil, here_val ok hX hi, v (3 + (m.at i).nx.toNat) (by omega)] at e1;exact ((A5 _ _).1 e1).2.2
  ·have := hF j hj;simp only [hsF, List.map_cons, List.map_nil, f_val ok hx hX h0 hj] at this;have := (holdP_eq _).1 this;omega
 ·intro H s hs;rcases (hmem s).1 hs with hs | ⟨i, hi, rfl⟩ | hs | ⟨j, hj, rfl⟩ | ⟨i, hi, hs⟩ | ⟨j, hj, rfl⟩
  ·simp only [hsA, List.mem_cons, List.not_mem_nil, or_false] at hs;rcases hs with rfl | rfl | rfl
   ·simp only [List.map_cons, List.map_nil, DD, vsum _ (show 0 ≤ addZ m x by omega) (by omega), v 1 (by omega)];exact (holdP_pow _ _ _).2 ⟨by omega, by have := g0 0; omega, H.a1⟩
   ·simp only [List.map_cons, List.map_nil, vsum 1 (by omega) (by omega), vq, val];exact (holdP_pow _ _ _).2 ⟨H.a2.1, by have := g0 0; omega, H.a2.2⟩
   ·simp only [List.map_cons, List.map_nil];rw [EQ (by omega) X (AN (by omega)) (DG ok _) (by omega) (by omega) (by omega) (by omega), sum_val ok hX h0, v 2 (by omega), holdP_eq];simp only [if_true];have := H.a3;omega
  ·simp only [hsB, List.map_cons, List.map_nil, v (3 + i) (by omega), v 2 (by omega)];exact (A5 _ _).2 ⟨g0 _, g0 _, H.b i hi⟩
  ·simp only [hsC, List.mem_cons, List.not_mem_nil, or_false] at hs;rcases hs with rfl | rfl
   ·simp only [List.map_cons, List.map_nil, DD, v 3 (by omega)];exact (A5 _ _).2 ⟨by omega, g0 _, H.c1⟩
   ·simp only [List.map_cons, List.map_nil, vq, v 0 (by omega), sum_val ok hX h0];refine (holdP_pow _ _ _).2 ⟨H.a2.1, g0 0, ?_⟩;simp only [decide_eq_true_eq];exact H.c2
  ·simp only [hsD, List.map_cons, List.map_nil, v (3 + m.l + j) (by omega), vd];exact (A5 _ _).2 ⟨g0 _, H.d j hj⟩
  ·unfold hsGo at hs;split at hs
   ·simp at hs
   ·rename_i h3;obtain ⟨n1, n2, n3⟩ := nxb i hi h3;have He := H.e i hi h3;have hp1 := hP 1 (3 + i);split at hs
    ·rename_i hj;rw [if_pos hj] at He;simp only [List.mem_cons, List.not_mem_nil, or_false] at hs;rcases hs with rfl | rfl
     ·simp only [List.map_cons, List.map_nil, here_val ok hX hi, v2z i hi h3 hj.1];exact (A5 _ _).2 ⟨hp1, by have := g0 (3 + (m.at i).nx.toNat); have := g0 (3 + (m.at i).zr.toNat); omega, He.1⟩
     ·simp only [List.map_cons, List.map_nil, here_val ok hX hi, jmp_val ok hX n1 n2];exact (A5 _ _).2 ⟨hp1, He.2.1, He.2.2⟩
    ·rename_i hj;rw [if_neg hj] at He;simp only [List.mem_cons, List.not_mem_nil, or_false] at hs;subst hs;simp only [List.map_cons, List.map_nil, here_val ok hX hi, v (3 + (m.at i).nx.toNat) (by omega)];exact (A5 _ _).2 ⟨hp1, g0 _, He⟩
  ·simp only [hsF, List.map_cons, List.map_nil, f_val ok hx hX h0 hj];have := H.f j hj;exact (holdP_eq _).2 (by omega)
end
end Go.AL
/- The history's equations in naturals. Plain. -/
namespace Go.AL
section
variable {m : MZ} {x X : List Int}
theorem at_facts (ok : OkMZ m) {i : Nat} (hi : i < m.l) : 0 ≤ (m.at i).op ∧ (m.at i).op ≤ 3 ∧ 0 ≤ (m.at i).rg ∧ 0 ≤ (m.at i).nx ∧ 0 ≤ (m.at i).zr := by
 rcases ok.ins i hi with k | ⟨⟨a1, a2⟩, ⟨b1, b2⟩, k⟩
 ·rw [k]; decide
 ·rcases k with ⟨c1, c2, c3, c4⟩ | ⟨c1, c2⟩ <;> exact ⟨by omega, by omega, by omega, by omega, by omega⟩
theorem cast_mul3 (a b : Nat) : (2 * (a : Int) * (b : Int)).toNat = 2 * a * b := by
 have : 2 * (a : Int) * (b : Int) = ((2 * a * b : Nat) : Int) := by simp
 rw [this, Int.toNat_natCast]
theorem histZ_eq (ok : OkMZ m) (hx : OkIn m x) (h0 : ∀ y ∈ X, 0 ≤ y) : HistZ m x X ↔ HistEq m.mach (fun j => (x.getD j 0).toNat) (addZ m x).toNat (nX X 0) (nX X 1) (nX X 2) (fun i => nX X (3 + i)) (fun j => nX X (3 + m.l + j)) (fun j => nX X (3 + m.l + m.R + j)) := by
 obtain ⟨N, hN⟩ : ∃ N : Nat → Nat, ∀ i, X.getD i 0 = (N i : Int) := ⟨nX X, fun i => (nX_cast h0 i).symm⟩
 have hn : ∀ i, nX X i = N i := fun i => by show (X.getD i 0).toNat = _; rw [hN, Int.toNat_natCast]
 obtain ⟨s1, s2, s3⟩ := addZ_b ok hx;obtain ⟨A, hA⟩ : ∃ A : Nat, addZ m x = (A : Int) := ⟨(addZ m x).toNat, by omega⟩;obtain ⟨y, hy⟩ : ∃ y : Nat → Nat, ∀ j, x.getD j 0 = (y j : Int) := ⟨fun j => (x.getD j 0).toNat, fun j => by have := (getD_in hx j).1; show x.getD j 0 = (((x.getD j 0).toNat : Nat) : Int); omega⟩;have hf := fun i hi => at_facts ok (i := i) hi
 -- the conditions
 have p3 : ∀ i, i < m.l → ((m.at i).op = 3 ↔ m.mach.op i = 3) := fun i hi => by
  have := hf i hi;show _ ↔ (m.at i).op.toNat = 3;omega
 have pj : ∀ i, i < m.l → ((m.at i).op = 2 ∧ (m.at i).zr ≠ (m.at i).nx ↔ m.mach.op i = 2 ∧ m.mach.zr i ≠ m.mach.nx i) := fun i hi => by
  have := hf i hi;show _ ↔ (m.at i).op.toNat = 2 ∧ (m.at i).zr.toNat ≠ (m.at i).nx.toNat;omega
 have p0 : ∀ i, i < m.l → ∀ j : Nat, ((m.at i).op = 0 ∧ (m.at i).rg = j ↔ m.mach.op i = 0 ∧ m.mach.rg i = j) := fun i hi j => by
  have := hf i hi;show _ ↔ (m.at i).op.toNat = 0 ∧ (m.at i).rg.toNat = j;omega
 have p1 : ∀ i, i < m.l → ∀ j : Nat, ((m.at i).op = 1 ∧ (m.at i).rg = j ↔ m.mach.op i = 1 ∧ m.mach.rg i = j) := fun i hi j => by
  have := hf i hi;show _ ↔ (m.at i).op.toNat = 1 ∧ (m.at i).rg.toNat = j;omega
 have q3 : (sumN m.l fun j => if (m.at j).op = 3 then N (3 + j) else 0) = sumN m.mach.l fun i => if m.mach.op i = 3 then N (3 + i) else 0 := BJ fun i hi => by
  by_cases h : (m.at i).op = 3
  ·rw [if_pos h, if_pos ((p3 i hi).1 h)]
  ·rw [if_neg h, if_neg fun k => h ((p3 i hi).2 k)]
 have q0 : ∀ j : Nat, (sumN m.l fun i => if (m.at i).op = 0 ∧ (m.at i).rg = j then N (3 + i) else 0) = sumN m.mach.l fun i => if m.mach.op i = 0 ∧ m.mach.rg i = j then N (3 + i) else 0 := fun j => BJ fun i hi => by
  by_cases h : (m.at i).op = 0 ∧ (m.at i).rg = j
  ·rw [if_pos h, if_pos ((p0 i hi j).1 h)]
  ·rw [if_neg h, if_neg fun k => h ((p0 i hi j).2 k)]
 have q1 : ∀ j : Nat, (sumN m.l fun i => if (m.at i).op = 1 ∧ (m.at i).rg = j then N (3 + i) else 0) = sumN m.mach.l fun i => if m.mach.op i = 1 ∧ m.mach.rg i = j then N (3 + i) else 0 := fun j => BJ fun i hi => by
  by_cases h : (m.at i).op = 1 ∧ (m.at i).rg = j
  ·rw [if_pos h, if_pos ((p1 i hi j).1 h)]
  ·rw [if_neg h, if_neg fun k => h ((p1 i hi j).2 k)]
 -- the numbers
 have e1 : (2 : Int) ^ (X.getD 0 0 + addZ m x).toNat = X.getD 1 0 ↔ N 1 = 2 ^ (N 0 + A) := by
  rw [hN, hN, hA, show ((N 0 : Int) + (A : Int)).toNat = N 0 + A by omega]
  have : (2 : Int) ^ (N 0 + A) = ((2 ^ (N 0 + A) : Nat) : Int) := by rw [Int.natCast_pow]; rfl
  rw [this];omega
 have e2 : 1 ≤ N 1 → ((2 * X.getD 1 0) ^ (X.getD 0 0 + 1).toNat = 1 + (2 * X.getD 1 0 - 1) * X.getD 2 0 ↔ 1 + (2 * N 1 - 1) * N 2 = (2 * N 1) ^ (N 0 + 1)) := fun h1 => by
  rw [hN, hN, hN, show ((N 0 : Int) + 1).toNat = N 0 + 1 by omega]
  have c1 : (2 * (N 1 : Int)) ^ (N 0 + 1) = (((2 * N 1) ^ (N 0 + 1) : Nat) : Int) := by rw [Int.natCast_pow]; congr 1
  have c2 : 1 + (2 * (N 1 : Int) - 1) * (N 2 : Int) = ((1 + (2 * N 1 - 1) * N 2 : Nat) : Int) := by
   rw [Int.natCast_add, Int.natCast_mul, Int.natCast_sub (by omega)]; rfl
  rw [c1, c2];omega
 have eall : 1 ≤ N 1 → 1 + (2 * N 1 - 1) * N 2 = (2 * N 1) ^ (N 0 + 1) → 1 + (2 * X.getD 1 0 - 1) * X.getD 2 0 = (((2 * N 1) ^ (N 0 + 1) : Nat) : Int) := fun h1 h2 => by
  rw [← h2, hN, hN, Int.natCast_add, Int.natCast_mul, Int.natCast_sub (by omega)]; rfl
 have ed : 1 ≤ N 1 → (X.getD 1 0 - 1) * X.getD 2 0 = (((N 1 - 1) * N 2 : Nat) : Int) := fun h1 => by
  rw [hN, hN, Int.natCast_mul, Int.natCast_sub (by omega)]; rfl
 have ef : ∀ j, 1 ≤ N 1 → 1 + (2 * N 1 - 1) * N 2 = (2 * N 1) ^ (N 0 + 1) → (X.getD (3 + m.l + j) 0 + X.getD (3 + m.l + m.R + j) 0 * (1 + (2 * X.getD 1 0 - 1) * X.getD 2 0) = x.getD j 0 + 2 * X.getD 1 0 * X.getD (3 + m.l + j) 0 + 2 * X.getD 1 0 * (sumN m.l fun i => if (m.at i).op = 0 ∧ (m.at i).rg = j then nX X (3 + i) else 0 : Nat) - 2 * X.getD 1 0 * (sumN m.l fun i => if (m.at i).op = 1 ∧ (m.at i).rg = j then nX X (3 + i) else 0 : Nat) ↔ N (3 + m.l + j) + N (3 + m.l + m.R + j) * (2 * N 1) ^ (N 0 + 1) + 2 * N 1 * (sumN m.mach.l fun i => if m.mach.op i = 1 ∧ m.mach.rg i = j then N (3 + i) else 0) = y j + 2 * N 1 * N (3 + m.l + j) + 2 * N 1 * (sumN m.mach.l fun i => if m.mach.op i = 0 ∧ m.mach.rg i = j then N (3 + i) else 0)) := fun j h1 h2 => by
  rw [eall h1 h2];have g0 : (sumN m.l fun i => if (m.at i).op = 0 ∧ (m.at i).rg = j then nX X (3 + i) else 0) = _ := (BJ fun i _ => by rw [hn]).trans (q0 j);have g1 : (sumN m.l fun i => if (m.at i).op = 1 ∧ (m.at i).rg = j then nX X (3 + i) else 0) = _ := (BJ fun i _ => by rw [hn]).trans (q1 j);rw [g0, g1, hN, hN, hN, hy];generalize (2 * N 1) ^ (N 0 + 1) = P;generalize (sumN m.mach.l fun i => if m.mach.op i = 0 ∧ m.mach.rg i = j then N (3 + i) else 0) = S0;generalize (sumN m.mach.l fun i => if m.mach.op i = 1 ∧ m.mach.rg i = j then N (3 + i) else 0) = S1;generalize N (3 + m.l + j) = a;generalize N (3 + m.l + m.R + j) = b;generalize N 1 = H
  have t1 : (b : Int) * (P : Int) = ((b * P : Nat) : Int) := by simp
  have t2 : 2 * (H : Int) * (a : Int) = ((2 * H * a : Nat) : Int) := by simp
  have t3 : 2 * (H : Int) * (S0 : Int) = ((2 * H * S0 : Nat) : Int) := by simp
  have t4 : 2 * (H : Int) * (S1 : Int) = ((2 * H * S1 : Nat) : Int) := by simp
  rw [t1, t2, t3, t4];generalize b * P = B;generalize 2 * H * a = C;generalize 2 * H * S0 = D;generalize 2 * H * S1 = E;omega
 have ec : (2 * X.getD 1 0) ^ (nX X 0) = ((sumN m.l fun j => if (m.at j).op = 3 then nX X (3 + j) else 0 : Nat) : Int) ↔ (2 * N 1) ^ (N 0) = sumN m.mach.l fun i => if m.mach.op i = 3 then N (3 + i) else 0 := by
  have g3 : (sumN m.l fun j => if (m.at j).op = 3 then nX X (3 + j) else 0) = _ := (BJ fun i _ => by rw [hn]).trans q3;rw [g3, hn, hN]
  have c1 : (2 * (N 1 : Int)) ^ (N 0) = (((2 * N 1) ^ (N 0) : Nat) : Int) := by rw [Int.natCast_pow]; congr 1
  rw [c1];omega
 have ee : ∀ i, i < m.l → ((if (m.at i).op = 2 ∧ (m.at i).zr ≠ (m.at i).nx then undN (2 * X.getD 1 0 * X.getD (3 + i) 0).toNat (X.getD (3 + (m.at i).nx.toNat) 0 + X.getD (3 + (m.at i).zr.toNat) 0).toNat ∧ 0 ≤ X.getD (3 + (m.at i).nx.toNat) 0 + 2 * X.getD 1 0 * X.getD 2 0 - 2 * X.getD (3 + m.l + (m.at i).rg.toNat) 0 ∧ undN (2 * X.getD 1 0 * X.getD (3 + i) 0).toNat (X.getD (3 + (m.at i).nx.toNat) 0 + 2 * X.getD 1 0 * X.getD 2 0 - 2 * X.getD (3 + m.l + (m.at i).rg.toNat) 0).toNat else undN (2 * X.getD 1 0 * X.getD (3 + i) 0).toNat (nX X (3 + (m.at i).nx.toNat))) ↔ if m.mach.op i = 2 ∧ m.mach.zr i ≠ m.mach.nx i then undN (2 * N 1 * N (3 + i)) (N (3 + m.mach.nx i) + N (3 + m.mach.zr i)) ∧ ∃ w, w + 2 * N (3 + m.l + m.mach.rg i) = N (3 + m.mach.nx i) + 2 * N 1 * N 2 ∧ undN (2 * N 1 * N (3 + i)) w else undN (2 * N 1 * N (3 + i)) (N (3 + m.mach.nx i))) := fun i hi => by
  have en : (m.at i).nx.toNat = m.mach.nx i := rfl;have ez : (m.at i).zr.toNat = m.mach.zr i := rfl;have er : (m.at i).rg.toNat = m.mach.rg i := rfl;rw [en, ez, er, hn];simp only [hN, cast_mul3]
  have t : 2 * (N 1 : Int) * (N 2 : Int) = ((2 * N 1 * N 2 : Nat) : Int) := by simp
  rw [t];by_cases h : (m.at i).op = 2 ∧ (m.at i).zr ≠ (m.at i).nx
  ·rw [if_pos h, if_pos ((pj i hi).1 h), show ((N (3 + m.mach.nx i) : Int) + (N (3 + m.mach.zr i) : Int)).toNat = N (3 + m.mach.nx i) + N (3 + m.mach.zr i) by omega];refine and_congr Iff.rfl ⟨fun ⟨k1, k2⟩ => ⟨_, ?_, k2⟩, fun ⟨w, k1, k2⟩ => ⟨by omega, ?_⟩⟩
   ·omega
   ·rw [show ((N (3 + m.mach.nx i) : Int) + ((2 * N 1 * N 2 : Nat) : Int) - 2 * (N (3 + m.l + m.mach.rg i) : Int)).toNat = w by omega]; exact k2
  ·rw [if_neg h, if_neg fun k => h ((pj i hi).2 k)]
 have hpow : N 1 = 2 ^ (N 0 + A) → 1 ≤ N 1 := fun h => by rw [h]; exact Nat.two_pow_pos _
 have hyf : (fun j => (x.getD j 0).toNat) = y := by
  funext j; rw [hy, Int.toNat_natCast]
 have hsa : (sumN m.l fun j => nX X (3 + j)) = sumN m.mach.l fun j => N (3 + j) := BJ fun i _ => hn _
 have hAt : (addZ m x).toNat = A := by rw [hA, Int.toNat_natCast]
 simp only [hn, hyf, hAt];constructor
 ·intro h;have k1 := e1.1 h.a1;have kp := hpow k1;have k2 := (e2 kp).1 h.a2.2;refine ⟨k1, k2, ?_, fun i hi => ?_, ?_, ec.1 (by have := h.c2; exact this), fun j hj => ?_, fun i hi h3 => (ee i hi).1 (h.e i hi fun k => h3 ((p3 i hi).1 k)), fun j hj => (ef j kp k2).1 (h.f j hj)⟩
  ·have := h.a3;rw [hsa, hN] at this;show N 2 = sumN m.mach.l fun i => N (3 + i);omega
  ·have := h.b i hi; rwa [hn, hn] at this
  ·have := h.c1; rw [hn] at this; exact this
  ·have := (h.d j hj).2;rw [ed kp, Int.toNat_natCast, hn] at this;exact this
 ·intro h;have kp := hpow h.h1;refine ⟨e1.2 h.h1, ⟨by rw [hN]; omega, (e2 kp).2 h.h2⟩, ?_, fun i hi => ?_, ?_, ec.2 h.h6, fun j hj => ?_, fun i hi h3 => (ee i hi).2 (h.h8 i hi fun k => h3 ((p3 i hi).2 k)), fun j hj => (ef j kp h.h2).2 (h.h9 j hj)⟩
  ·rw [hsa, hN];have := h.h3;have e : N 2 = sumN m.mach.l fun i => N (3 + i) := this;omega
  ·rw [hn, hn]; exact h.h4 i hi
  ·rw [hn]; exact h.h5
  ·rw [ed kp, Int.toNat_natCast, hn];exact ⟨by omega, h.h7 j hj⟩
end
end Go.AL
/- The history of a run az a list of numbers; it is the one solution of the system. Plain. -/
namespace Go.AL
section
variable {m : MZ} {x X : List Int}
def BR (m : MZ) (x : List Int) (s : Nat) (pl : Nat → Nat) (r : Nat → Nat → Nat) : List Int :=
  [(s : Int), ((2 ^ (s + (addZ m x).toNat) : Nat) : Int), ((ds (2 * 2 ^ (s + (addZ m x).toNat)) (s + 1) fun _ => 1 : Nat) : Int)] ++ (List.range m.l).map (fun i => ((ds (2 * 2 ^ (s + (addZ m x).toNat)) (s + 1) (plD pl i) : Nat) : Int)) ++ (List.range m.R).map (fun j => ((ds (2 * 2 ^ (s + (addZ m x).toNat)) (s + 1) (fun t => r t j) : Nat) : Int)) ++ (List.range m.R).map (fun j => ((r s j : Nat) : Int))
theorem histL_len (s : Nat) (pl : Nat → Nat) (r : Nat → Nat → Nat) : (BR m x s pl r).length = m.V := by
 simp only [BR, List.length_append, List.length_map, List.length_range, List.length_cons, List.length_nil];show 0 + 1 + 1 + 1 + m.l + m.R + m.R = 3 + m.l + 2 * m.R;omega
theorem histL_get (s : Nat) (pl : Nat → Nat) (r : Nat → Nat → Nat) : (BR m x s pl r).getD 0 0 = s ∧ (BR m x s pl r).getD 1 0 = ((2 ^ (s + (addZ m x).toNat) : Nat) : Int) ∧ (BR m x s pl r).getD 2 0 = ((ds (2 * 2 ^ (s + (addZ m x).toNat)) (s + 1) fun _ => 1 : Nat) : Int) ∧ (∀ i, i < m.l → (BR m x s pl r).getD (3 + i) 0 = ((ds (2 * 2 ^ (s + (addZ m x).toNat)) (s + 1) (plD pl i) : Nat) : Int)) ∧ (∀ j, j < m.R → (BR m x s pl r).getD (3 + m.l + j) 0 = ((ds (2 * 2 ^ (s + (addZ m x).toNat)) (s + 1) (fun t => r t j) : Nat) : Int)) ∧ ∀ j, j < m.R → (BR m x s pl r).getD (3 + m.l + m.R + j) 0 = ((r s j : Nat) : Int) := by
 refine ⟨rfl, rfl, rfl, fun i hi => ?_, fun j hj => ?_, fun j hj => ?_⟩
 ·unfold BR;rw [List.getD_eq_getElem?_getD, List.getElem?_append_left (by simp; omega), List.getElem?_append_left (by simp; omega), List.getElem?_append_right (by simp)];simp only [List.length_cons, List.length_nil, List.getElem?_map];rw [show 3 + i - (0 + 1 + 1 + 1) = i by omega, List.getElem?_range hi];rfl
 ·unfold BR;rw [List.getD_eq_getElem?_getD, List.getElem?_append_left (by simp; omega), List.getElem?_append_right (by simp; omega)];simp only [List.length_append, List.length_cons, List.length_nil, List.getElem?_map, List.length_map, List.length_range];rw [show 3 + m.l + j - (0 + 1 + 1 + 1 + m.l) = j by omega, List.getElem?_range hj];rfl
 ·unfold BR;rw [List.getD_eq_getElem?_getD, List.getElem?_append_right (by simp; omega)];simp only [List.length_append, List.length_cons, List.length_nil, List.getElem?_map, List.length_map, List.length_range];rw [show 3 + m.l + m.R + j - (0 + 1 + 1 + 1 + m.l + m.R) = j by omega, List.getElem?_range hj];rfl
theorem histL_nn (s : Nat) (pl : Nat → Nat) (r : Nat → Nat → Nat) : ∀ y ∈ BR m x s pl r, 0 ≤ y := by
 intro y hy;simp only [BR, List.mem_append, List.mem_cons, List.not_mem_nil, or_false, List.mem_map] at hy;rcases hy with (((rfl | rfl | rfl) | ⟨i, _, rfl⟩) | ⟨j, _, rfl⟩) | ⟨j, _, rfl⟩ <;> exact Int.natCast_nonneg _
theorem in_le (ok : OkMZ m) (hx : OkIn m x) : m.mach.l ≤ (addZ m x).toNat ∧ ∀ j, j < m.mach.R → (x.getD j 0).toNat ≤ (addZ m x).toNat := by
 obtain ⟨s1, s2, s3⟩ := addZ_b ok hx;refine ⟨by show m.l ≤ _; omega, fun j hj => ?_⟩;have hs := sumL_ge (l := x) fun e he => (hx.2 e he).1;have hl : ((m.l : Nat) : Int) ≤ addZ m x := s3
 have hle : x.getD j 0 ≤ sumL x := by
  rw [List.getD_eq_getElem?_getD]
  cases h : x[j]? with
  | none => simpa using hs.1
  | some n => exact hs.2 n (List.mem_of_getElem? h)
 have e : addZ m x = (m.l : Int) + sumL x := rfl;omega
theorem hs_there (ok : OkMZ m) (hx : OkIn m x) {s : Nat} {pl : Nat → Nat} {r : Nat → Nat → Nat} (hr : m.mach.Run (fun j => (x.getD j 0).toNat) s pl r) : ∀ l ∈ (hsS m x).links, HoL (BR m x s pl r) l := by
 have h0 := histL_nn (m := m) (x := x) s pl r;refine (hs_hol ok hx (histL_len s pl r) h0).2 ((histZ_eq ok hx h0).2 ?_);obtain ⟨i1, i2⟩ := in_le ok hx;obtain ⟨g0, g1, g2, g3, g4, g5⟩ := histL_get (m := m) (x := x) s pl r;have hE := hist_there ok.mach i1 i2 hr (H := 2 ^ (s + (addZ m x).toNat)) rfl
 have n0 : nX (BR m x s pl r) 0 = s := by show ((BR m x s pl r).getD 0 0).toNat = _; rw [g0, Int.toNat_natCast]
 have n1 : nX (BR m x s pl r) 1 = 2 ^ (s + (addZ m x).toNat) := by show ((BR m x s pl r).getD 1 0).toNat = _; rw [g1, Int.toNat_natCast]
 have n2 : nX (BR m x s pl r) 2 = ds (2 * 2 ^ (s + (addZ m x).toNat)) (s + 1) (fun _ => 1) := by show ((BR m x s pl r).getD 2 0).toNat = _; rw [g2, Int.toNat_natCast]
 have n3 : ∀ i, i < m.l → nX (BR m x s pl r) (3 + i) = ds (2 * 2 ^ (s + (addZ m x).toNat)) (s + 1) (plD pl i) := fun i hi => by show ((BR m x s pl r).getD (3 + i) 0).toNat = _; rw [g3 i hi, Int.toNat_natCast]
 have n4 : ∀ j, j < m.R → nX (BR m x s pl r) (3 + m.l + j) = ds (2 * 2 ^ (s + (addZ m x).toNat)) (s + 1) (fun t => r t j) := fun j hj => by show ((BR m x s pl r).getD (3 + m.l + j) 0).toNat = _; rw [g4 j hj, Int.toNat_natCast]
 have n5 : ∀ j, j < m.R → nX (BR m x s pl r) (3 + m.l + m.R + j) = r s j := fun j hj => by show ((BR m x s pl r).getD (3 + m.l + m.R + j) 0).toNat = _; rw [g5 j hj, Int.toNat_natCast]
 rw [n0, n1, n2];refine ⟨hE.h1, hE.h2, ?_, fun i hi => ?_, ?_, ?_, fun j hj => ?_, fun i hi h3 => ?_, fun j hj => ?_⟩
 ·rw [hE.h3]; exact BJ fun i hi => (n3 i hi).symm
 ·rw [n3 i hi]; exact hE.h4 i hi
 ·rw [n3 0 ok.l1]; exact hE.h5
 ·rw [hE.h6]; exact BJ fun i hi => by rw [n3 i hi]
 ·rw [n4 j hj]; exact hE.h7 j hj
 ·have h8 := hE.h8 i hi h3;rcases ok.mach.ins i hi with k | ⟨o1, o2, o3, o4, o5⟩
  ·exact absurd k h3
  rw [n3 i hi, n3 _ o3, n3 _ o4, n4 _ o2];exact h8
 ·have h9 := hE.h9 j hj;rw [n4 j hj, n5 j hj];rw [show (sumN m.mach.l fun i => if m.mach.op i = 1 ∧ m.mach.rg i = j then nX (BR m x s pl r) (3 + i) else 0) = _ from BJ fun i hi => by rw [n3 i hi], show (sumN m.mach.l fun i => if m.mach.op i = 0 ∧ m.mach.rg i = j then nX (BR m x s pl r) (3 + i) else 0) = _ from BJ fun i hi => by rw [n3 i hi]];exact h9
end
end Go.AL
/- The run az a function. Plain. -/
namespace Go.AL
def Mach.F (m : Mach) (x : Nat → Nat) : Nat → Nat × (Nat → Nat)
  | 0 => (0, x)
  | t + 1 => (m.to (m.F x t).1 (m.F x t).2, fun j => if m.op (m.F x t).1 = 0 ∧ m.rg (m.F x t).1 = j then (m.F x t).2 j + 1 else if m.op (m.F x t).1 = 1 ∧ m.rg (m.F x t).1 = j then (m.F x t).2 j - 1 else (m.F x t).2 j)
def Mach.Over (m : Mach) (c : Nat × (Nat → Nat)) : Prop := m.op c.1 = 3 ∨ (m.op c.1 = 1 ∧ c.2 (m.rg c.1) = 0)
instance (m : Mach) (c : Nat × (Nat → Nat)) : Decidable (m.Over c) := inferInstanceAs (Decidable (_ ∨ _))
theorem Mach.F_lt {m : Mach} (ok : m.Ok) (x : Nat → Nat) {s : Nat} : (∀ t, t < s → ¬ m.Over (m.F x t)) → ∀ t, t ≤ s → (m.F x t).1 < m.l := by
 intro h t
 induction t with
 | zero => exact fun _ => ok.l0
 | succ t ih =>
  intro ht;have hi := ih (by omega);have hn := h t (by omega);rcases ok.ins _ hi with k | ⟨_, _, o3, o4, _⟩
  ·exact absurd (.inl k) hn
  ·show m.to _ _ < m.l;unfold Mach.to;split
   ·exact o4
   ·exact o3
theorem Mach.F_run {m : Mach} (ok : m.Ok) {x : Nat → Nat} {s : Nat} (h : ∀ t, t < s → ¬ m.Over (m.F x t)) (hs : m.op (m.F x s).1 = 3) : m.Run x s (fun t => (m.F x t).1) fun t => (m.F x t).2 := by
 refine ⟨m.F_lt ok x h, rfl, fun _ _ => rfl, fun t ht => ⟨fun k => h t ht (.inl k), rfl⟩, fun t ht j hj => ?_, hs⟩;have hn := h t ht;show (if m.op (m.F x t).1 = 0 ∧ m.rg (m.F x t).1 = j then (m.F x t).2 j + 1 else if m.op (m.F x t).1 = 1 ∧ m.rg (m.F x t).1 = j then (m.F x t).2 j - 1 else (m.F x t).2 j) + _ = _;by_cases h0 : m.op (m.F x t).1 = 0 ∧ m.rg (m.F x t).1 = j
 ·rw [if_pos h0, if_neg (by omega), if_pos h0]
 ·rw [if_neg h0];by_cases h1 : m.op (m.F x t).1 = 1 ∧ m.rg (m.F x t).1 = j
  ·rw [if_pos h1, if_pos h1, if_neg h0];have : (m.F x t).2 j ≠ 0 := fun k => hn (.inr ⟨h1.1, by rw [h1.2]; exact k⟩);omega
  ·rw [if_neg h1, if_neg h1, if_neg h0]
theorem Mach.F_le {m : Mach} {x : Nat → Nat} (j : Nat) : ∀ t, (m.F x t).2 j ≤ x j + t
 | 0 => Nat.le_refl _
 | t + 1 => by
  have ih := m.F_le (x := x) j t;show (if m.op (m.F x t).1 = 0 ∧ m.rg (m.F x t).1 = j then (m.F x t).2 j + 1 else if m.op (m.F x t).1 = 1 ∧ m.rg (m.F x t).1 = j then (m.F x t).2 j - 1 else (m.F x t).2 j) ≤ _;split
  ·omega
  ·split <;> omega
theorem Mach.stop {m : Mach} (x : Nat → Nat) (n : Nat) : ∃ k, k ≤ n ∧ (∀ t, t < k → ¬ m.Over (m.F x t)) ∧ (k = n ∨ m.Over (m.F x k)) := by
 induction n with
 | zero => exact ⟨0, Nat.le_refl _, fun t ht => by omega, .inl rfl⟩
 | succ n ih =>
  obtain ⟨k, h1, h2, h3⟩ := ih;by_cases ho : m.Over (m.F x k)
  ·exact ⟨k, by omega, h2, .inr ho⟩
  ·have hk : k = n := by
    rcases h3 with h | h
    ·exact h
    ·exact absurd h ho
   subst hk;refine ⟨k + 1, Nat.le_refl _, fun t ht => ?_, .inl rfl⟩;rcases (show t < k ∨ t = k by omega) with h | h
   ·exact h2 t h
   ·rw [h]; exact ho
end Go.AL
/- Registers az lists: a step. Plain. -/
namespace Go.AL
def rgL (R : Nat) (f : Nat → Nat) : List Int := (List.range R).map fun j => ((f j : Nat) : Int)
theorem CF (R : Nat) (f : Nat → Nat) : (rgL R f).length = R := by simp [rgL]
theorem DO {R : Nat} {f : Nat → Nat} {k : Nat} (hk : k < R) : (rgL R f)[k]? = some ((f k : Nat) : Int) := by
 unfold rgL;rw [List.getElem?_map, List.getElem?_range hk]; rfl
theorem rgL_ext {R : Nat} {f g : Nat → Nat} (h : ∀ j, j < R → f j = g j) : rgL R f = rgL R g := by
 unfold rgL
 exact List.map_congr_left fun j hj => by rw [h j (List.mem_range.1 hj)]
theorem rgL_set {R : Nat} {f g : Nat → Nat} {k v : Nat} (hk : k < R) (h : ∀ j, j < R → g j = if k = j then v else f j) : rgL R g = (rgL R f).set k (v : Int) := by
 refine List.ext_getElem? fun j => ?_;rw [List.getElem?_set];by_cases hj : j < R
 ·rw [DO hj, h j hj];by_cases e : k = j
  ·rw [if_pos e, if_pos e, if_pos (by rw [CF]; omega)]
  ·rw [if_neg e, if_neg e, DO hj]
 ·rw [List.getElem?_eq_none (by rw [CF]; omega), if_neg (by omega), List.getElem?_eq_none (by rw [CF]; omega)]
theorem rgL_of {x : List Int} (h0 : ∀ n ∈ x, 0 ≤ n) : x = rgL x.length fun j => (x.getD j 0).toNat := by
 refine List.ext_getElem? fun j => ?_;by_cases hj : j < x.length
 ·rw [DO hj, List.getD_eq_getElem?_getD, List.getElem?_eq_getElem hj];have := h0 _ (List.getElem_mem hj);show some _ = some ((((x[j]) : Int).toNat : Nat) : Int);congr 1;omega
 ·rw [List.getElem?_eq_none (by omega), List.getElem?_eq_none (by rw [CF]; omega)]
section
variable {m : MZ} {x : Nat → Nat} {t : Nat}
theorem F_inc (h : m.mach.op (m.mach.F x t).1 = 0) (hr : m.mach.rg (m.mach.F x t).1 < m.R) : (m.mach.F x (t + 1)).1 = m.mach.nx (m.mach.F x t).1 ∧ rgL m.R (m.mach.F x (t + 1)).2 = (rgL m.R (m.mach.F x t).2).set (m.mach.rg (m.mach.F x t).1) (((m.mach.F x t).2 (m.mach.rg (m.mach.F x t).1) + 1 : Nat) : Int) := by
 refine ⟨?_, rgL_set hr fun j _ => ?_⟩
 ·show m.mach.to _ _ = _;unfold Mach.to;rw [if_neg (by omega)]
 ·show (if m.mach.op (m.mach.F x t).1 = 0 ∧ m.mach.rg (m.mach.F x t).1 = j then (m.mach.F x t).2 j + 1 else if m.mach.op (m.mach.F x t).1 = 1 ∧ m.mach.rg (m.mach.F x t).1 = j then (m.mach.F x t).2 j - 1 else (m.mach.F x t).2 j) = _;by_cases e : m.mach.rg (m.mach.F x t).1 = j
  ·rw [if_pos ⟨h, e⟩, if_pos e, e]
  ·rw [if_neg fun k => e k.2, if_neg fun k => e k.2, if_neg e]
theorem F_dec (h : m.mach.op (m.mach.F x t).1 = 1) (hr : m.mach.rg (m.mach.F x t).1 < m.R) : (m.mach.F x (t + 1)).1 = m.mach.nx (m.mach.F x t).1 ∧ rgL m.R (m.mach.F x (t + 1)).2 = (rgL m.R (m.mach.F x t).2).set (m.mach.rg (m.mach.F x t).1) (((m.mach.F x t).2 (m.mach.rg (m.mach.F x t).1) - 1 : Nat) : Int) := by
 refine ⟨?_, rgL_set hr fun j _ => ?_⟩
 ·show m.mach.to _ _ = _;unfold Mach.to;rw [if_neg (by omega)]
 ·show (if m.mach.op (m.mach.F x t).1 = 0 ∧ m.mach.rg (m.mach.F x t).1 = j then (m.mach.F x t).2 j + 1 else if m.mach.op (m.mach.F x t).1 = 1 ∧ m.mach.rg (m.mach.F x t).1 = j then (m.mach.F x t).2 j - 1 else (m.mach.F x t).2 j) = _;rw [if_neg fun k => by omega];by_cases e : m.mach.rg (m.mach.F x t).1 = j
  ·rw [if_pos ⟨h, e⟩, if_pos e, e]
  ·rw [if_neg fun k => e k.2, if_neg e]
theorem F_jmp (h : m.mach.op (m.mach.F x t).1 = 2) : (m.mach.F x (t + 1)).1 = (if (m.mach.F x t).2 (m.mach.rg (m.mach.F x t).1) = 0 then m.mach.zr (m.mach.F x t).1 else m.mach.nx (m.mach.F x t).1) ∧ rgL m.R (m.mach.F x (t + 1)).2 = rgL m.R (m.mach.F x t).2 := by
 refine ⟨?_, rgL_ext fun j _ => ?_⟩
 ·show m.mach.to _ _ = _;unfold Mach.to;by_cases e : (m.mach.F x t).2 (m.mach.rg (m.mach.F x t).1) = 0
  ·rw [if_pos ⟨h, e⟩, if_pos e]
  ·rw [if_neg fun k => e k.2, if_neg e]
 ·show (if m.mach.op (m.mach.F x t).1 = 0 ∧ m.mach.rg (m.mach.F x t).1 = j then (m.mach.F x t).2 j + 1 else if m.mach.op (m.mach.F x t).1 = 1 ∧ m.mach.rg (m.mach.F x t).1 = j then (m.mach.F x t).2 j - 1 else (m.mach.F x t).2 j) = _;rw [if_neg fun k => by omega, if_neg fun k => by omega]
end
end Go.AL
/- register.Run, Halts, Start, Step. -/
namespace Go.AL
theorem D0 {m : MZ} (h : OkMZ m) : ((m.R : Nat) : Int) = m.regs := by
 have := h.r1;show ((m.regs.toNat : Nat) : Int) = m.regs;omega
theorem MZ.ins_at {m : MZ} (h : OkMZ m) {a : Nat} (ha : a < m.l) : m.at a = haltZ ∨ ((0 ≤ (m.at a).rg ∧ (m.at a).rg < m.R) ∧ (0 ≤ (m.at a).nx ∧ (m.at a).nx < m.l) ∧ (((m.at a).op = 2 ∧ 0 ≤ (m.at a).zr ∧ (m.at a).zr < m.l ∧ (m.at a).nx ≠ a) ∨ (((m.at a).op = 0 ∨ (m.at a).op = 1) ∧ (m.at a).zr = 0))) := by
 have := D0 h;rcases h.ins a ha with k | ⟨⟨k1, k2⟩, k3⟩
 ·exact .inl k
 ·exact .inr ⟨⟨k1, by omega⟩, k3⟩
theorem rgL_all {R : Nat} {f : Nat → Nat} {B : Nat} (h : ∀ j, f j ≤ B) : ∀ v ∈ rgL R f, 0 ≤ v ∧ v ≤ (B : Int) := by
 intro v hv;obtain ⟨j, _, rfl⟩ := List.mem_map.1 hv;have := h j;exact ⟨Int.natCast_nonneg _, by omega⟩
def inF (x : List Int) : Nat → Nat := fun j => (x.getD j 0).toNat
theorem inF_le {m : MZ} {x : List Int} (hx : OkIn m x) (j : Nat) : inF x j ≤ 1000 := by
 unfold inF;rw [List.getD_eq_getElem?_getD]
 cases h : x[j]? with
 | none => simp
 | some v => have := hx.2 v (List.mem_of_getElem? h); simp only [Option.getD_some]; omega
theorem inF_eq {m : MZ} {x : List Int} (hx : OkIn m x) : rgL m.R (inF x) = x := by
 have ex := rgL_of fun v hv => (hx.2 v hv).1;rw [show m.R = x.length from hx.1.symm];exact ex.symm
end Go.AL
namespace Go.Proofs.YtmmfloplhopioaaGreat
open Go.AL
theorem rnOverC_ok (m : MZ) (hm : OkMZ m) (c : Nat × (Nat → Nat)) (hc : c.1 < m.l) : IoFn Tryz.prog 85 [.ptr 900 0] (rnB m c.1 (rgL m.R c.2)) (.ret (aB (decide (m.mach.Over c)))) (rnB m c.1 (rgL m.R c.2)) := by
 have hI := MZ.ins_at hm hc
 have hz : m.code[Int.toNat ((c.1 : Nat) : Int)]? = some (m.at c.1) := by rw [Int.toNat_natCast]; exact MZ.get_at hc
 refine rnOver_ok m c.1 (m.at c.1) _ hz (fun h => ?_) _ ?_
 ·rcases hI with k | ⟨k, _⟩
  ·rw [k] at h; exact absurd rfl h
  ·rw [CF]; exact k
 ·rw [decide_eq_true_iff];show ((m.at c.1).op.toNat = 3 ∨ ((m.at c.1).op.toNat = 1 ∧ c.2 (m.at c.1).rg.toNat = 0)) ↔ _;rcases hI with k | ⟨⟨k1, k2⟩, k3, k4⟩
  ·rw [k]; exact ⟨fun _ => .inl rfl, fun _ => .inl rfl⟩
  ·have hg : (rgL m.R c.2)[(m.at c.1).rg.toNat]? = some ((c.2 (m.at c.1).rg.toNat : Nat) : Int) := DO (by omega);rw [hg]
   have : (some ((c.2 (m.at c.1).rg.toNat : Nat) : Int) = some 0) ↔ c.2 (m.at c.1).rg.toNat = 0 := by
    constructor
    ·intro h; injection h with h; omega
    ·intro h; rw [h]; rfl
   rw [this]
   have h1 : (m.at c.1).op = 0 ∨ (m.at c.1).op = 1 ∨ (m.at c.1).op = 2 := by omega
   constructor <;> intro h <;> omega
theorem rnStepF_ok (m : MZ) (hm : OkMZ m) (x : Nat → Nat) (t : Nat) (hc : (m.mach.F x t).1 < m.l) (hno : ¬ m.mach.Over (m.mach.F x t)) (hb : ∀ j, (m.mach.F x t).2 j < 1099511627776) : IoFn Tryz.prog 86 [.ptr 900 0] (rnB m (m.mach.F x t).1 (rgL m.R (m.mach.F x t).2)) (.ret (aB true)) (rnB m (m.mach.F x (t + 1)).1 (rgL m.R (m.mach.F x (t + 1)).2)) := by
 have hI := MZ.ins_at hm hc
 have hz : m.code[Int.toNat (((m.mach.F x t).1 : Nat) : Int)]? = some (m.at (m.mach.F x t).1) := by rw [Int.toNat_natCast]; exact MZ.get_at hc
 obtain ⟨z, ez⟩ : ∃ z, z = m.at (m.mach.F x t).1 := ⟨_, rfl⟩
 have eo : m.mach.op (m.mach.F x t).1 = z.op.toNat := by rw [ez]; rfl
 have er : m.mach.rg (m.mach.F x t).1 = z.rg.toNat := by rw [ez]; rfl
 have en : m.mach.nx (m.mach.F x t).1 = z.nx.toNat := by rw [ez]; rfl
 have ezr : m.mach.zr (m.mach.F x t).1 = z.zr.toNat := by rw [ez]; rfl
 rw [← ez] at hI hz;rcases hI with k | ⟨⟨k1, k2⟩, ⟨k3, k3'⟩, k4⟩
 ·exact absurd (.inl (by rw [eo, k]; rfl)) hno
 ·have hrl : 0 ≤ z.rg ∧ z.rg < (rgL m.R (m.mach.F x t).2).length := by rw [CF]; exact ⟨k1, k2⟩
  have hv : (rgL m.R (m.mach.F x t).2)[z.rg.toNat]? = some (((m.mach.F x t).2 z.rg.toNat : Nat) : Int) := DO (by omega);have hbv := hb z.rg.toNat;rcases (show z.op = 0 ∨ z.op = 1 ∨ z.op = 2 by omega) with h | h | h
  ·obtain ⟨f1, f2⟩ := F_inc (m := m) (x := x) (t := t) (by rw [eo, h]; rfl) (by rw [er]; omega);have := rnInc_ok m _ z _ _ hz h hrl hv (by omega) (by omega);rw [f1, f2, en, er, show ((z.nx.toNat : Nat) : Int) = z.nx by omega];exact this
  ·obtain ⟨f1, f2⟩ := F_dec (m := m) (x := x) (t := t) (by rw [eo, h]; rfl) (by rw [er]; omega);have := rnDec_ok m _ z _ _ hz h hrl hv (by omega) (by omega);have hpos : (m.mach.F x t).2 z.rg.toNat ≠ 0 := fun k => hno (.inr ⟨by rw [eo, h]; rfl, by rw [er]; exact k⟩);rw [f1, f2, en, er, show ((z.nx.toNat : Nat) : Int) = z.nx by omega, show (((m.mach.F x t).2 z.rg.toNat - 1 : Nat) : Int) = (((m.mach.F x t).2 z.rg.toNat : Nat) : Int) - 1 by omega];exact this
  ·obtain ⟨f1, f2⟩ := F_jmp (m := m) (x := x) (t := t) (by rw [eo, h]; rfl);have := rnJmp_ok m _ z _ _ hz h hrl hv (by omega);rw [f1, f2, en, er, ezr];by_cases e : (m.mach.F x t).2 z.rg.toNat = 0
   ·rw [if_pos e, show ((z.zr.toNat : Nat) : Int) = z.zr by omega];rw [if_pos (by omega)] at this;exact this
   ·rw [if_neg e, show ((z.nx.toNat : Nat) : Int) = z.nx by omega];rw [if_neg (by omega)] at this;exact this
theorem rnRun_ok (m : MZ) (hm : OkMZ m) (x : Nat → Nat) (n k : Nat) (hn : n ≤ 1000000) (hx : ∀ j, x j ≤ 1000) (hk : k ≤ n) (h1 : ∀ t, t < k → ¬ m.mach.Over (m.mach.F x t)) (h2 : k = n ∨ m.mach.Over (m.mach.F x k)) : IoFn Tryz.prog 140 [.ptr 900 0, aN n] (rnB m (m.mach.F x 0).1 (rgL m.R (m.mach.F x 0).2)) (.ret (.tup [aN k, aB true])) (rnB m (m.mach.F x k).1 (rgL m.R (m.mach.F x k).2)) := by
 refine AG Tryz.func140 rfl Tryz.ntmps140 rfl rfl rfl ?_;have hlt := Mach.F_lt hm.mach x h1;(repeat' (first |refine qv ?_ |apply qn |apply qs |apply qr |apply qb));refine AWP.loop (G := Nat) (fun t => t ≤ k) (fun t => AO [900, 901] [(0, .ptr 900 0), (1, aN n), (7, aN n), (8, aN t)] (rnB m (m.mach.F x t).1 (rgL m.R (m.mach.F x t).2))) (fun t => n - t) 0 (by omega) ?_ ?_
 ·refine Ent.of [] ?_ ?_ rfl rfl;(repeat' (first |exact True.intro |refine ⟨⟨AA _, rfl⟩, ?_⟩ |refine ⟨⟨⟨_, rfl, BLe.cells (AB _)⟩, rfl⟩, ?_⟩ |refine ⟨⟨⟨_, rfl, BLe.row rfl⟩, rfl⟩, ?_⟩|fail))
 ·intro t ht;have ho := rnOverC_ok m hm (m.mach.F x t) (hlt t ht);rcases Nat.lt_or_ge t k with hk1 | hk1
  ·rw [decide_eq_false (h1 t hk1)] at ho
   have hs := rnStepF_ok m hm x t (hlt t ht) (h1 t hk1) fun j => by
    have := m.mach.F_le (x := x) j t;have := hx j;omega
   (repeat' (first |refine qv ?_ |apply qn |apply qs |apply qr |(refine AD rfl ?_ ?_ <;> intro _ <;> try (exfalso; omega)) |apply qb |apply qk));refine BS rfl [] ho rfl rfl (AB _) rfl ⟨⟨⟨_, rfl, BLe.cells (AB _)⟩, rfl⟩, ⟨⟨_, rfl, BLe.row rfl⟩, rfl⟩, trivial⟩ rfl rfl rfl rfl rfl ?_;(repeat' (first |refine qv ?_ |apply qn |apply qs |apply qr |refine AF rfl ?_ |apply qk));refine BS rfl [] hs rfl rfl (AB _) rfl ⟨⟨⟨_, rfl, BLe.cells (AB _)⟩, rfl⟩, ⟨⟨_, rfl, BLe.row rfl⟩, rfl⟩, trivial⟩ rfl rfl rfl rfl rfl ?_;(repeat' (first |refine qv ?_ |apply qn |apply qr |refine qw ?_ |refine AF rfl ?_ |apply qk));refine LoopEnd.of (t + 1) (by omega) (by omega) ?_;refine Ent.of [] ?_ ?_ rfl rfl;(repeat' (first |exact True.intro |refine ⟨⟨AA _, rfl⟩, ?_⟩ |refine ⟨⟨⟨_, rfl, BLe.cells (AB _)⟩, rfl⟩, ?_⟩ |refine ⟨⟨⟨_, rfl, BLe.row rfl⟩, rfl⟩, ?_⟩|fail))
  ·have etk : t = k := by omega
   subst etk;rcases h2 with h | h
   ·subst h;(repeat' (first |refine qv ?_ |apply qn |apply qs |apply qr |(refine AD rfl ?_ ?_ <;> intro _ <;> try (exfalso; omega)) |apply qx |apply qt));exact ⟨⟨[], _, _, AK _ _ _, rfl, AA _, rfl, ⟨⟨⟨_, rfl, BLe.cells (AB _)⟩, rfl⟩, ⟨⟨_, rfl, BLe.row rfl⟩, rfl⟩, trivial⟩, rfl, rfl⟩⟩
   ·rw [decide_eq_true h] at ho;(repeat' (first |refine qv ?_ |apply qn |apply qs |apply qr |(refine AD rfl ?_ ?_ <;> intro _ <;> try (exfalso; omega)) |apply qb |apply qk |apply qx |apply qt))
    ·refine BS rfl [] ho rfl rfl (AB _) rfl ⟨⟨⟨_, rfl, BLe.cells (AB _)⟩, rfl⟩, ⟨⟨_, rfl, BLe.row rfl⟩, rfl⟩, trivial⟩ rfl rfl rfl rfl rfl ?_;(repeat' (first |refine qv ?_ |apply qn |apply qs |apply qr |refine AM rfl ?_ |apply qt));exact ⟨⟨[], _, _, AK _ _ _, rfl, AA _, rfl, ⟨⟨⟨_, rfl, BLe.cells (AB _)⟩, rfl⟩, ⟨⟨_, rfl, BLe.row rfl⟩, rfl⟩, trivial⟩, rfl, rfl⟩⟩
    ·have : t = n := by omega
     subst this;exact ⟨⟨[], _, _, AK _ _ _, rfl, AA _, rfl, ⟨⟨⟨_, rfl, BLe.cells (AB _)⟩, rfl⟩, ⟨⟨_, rfl, BLe.row rfl⟩, rfl⟩, trivial⟩, rfl, rfl⟩⟩
theorem rgFits_ok (m : MZ) (hm : OkMZ m) (a : Nat) (rs : List Int) (ha : a < m.l) (hl : rs.length = m.R) (hr : ∀ v ∈ rs, 0 ≤ v ∧ v ≤ 1099511627776) : PureFn Tryz.prog 83 [aMz m, aSt a rs] (aB true) := by
 refine AC Tryz.func83 rfl Tryz.ntmps83 rfl rfl ?_;have hR := D0 hm;have h4 := hm.r4;have h15 : m.code.length ≤ 15 := hm.l15;have hlt : a < m.code.length := ha;(repeat' (first |refine qv ?_ |apply qn |apply qs |apply qr |refine qe ?_|fail));refine Fl.call rfl (Db m (by omega) true ⟨fun _ => hm, fun _ => rfl⟩) rfl rfl rfl (AB _) ?_;(repeat' (first |refine qv ?_ |(refine AJ rfl rfl ?_ ?_ <;> intro _ <;> try (exfalso; omega))));have hc := containsI_ok 149 (fun v => decide (v < 0 ∨ 1099511627776 < v)) rs (by omega) rgFits1_ok;rw [anyOut.2 hr] at hc;refine qc (hc) ?_;(repeat' (first |refine qv ?_ |apply qn |apply qt));exact RetOk.of rfl (AA _)
theorem rgStart_ok (m : MZ) (hm : OkMZ m) (x : List Int) (hx : OkIn m x) : PureFn Tryz.prog 38 [aMz m, aI x] (.tup [aSt 0 x, aN 0]) := by
 refine AC Tryz.func38 rfl Tryz.ntmps38 rfl rfl ?_;have hR := D0 hm;have h1 := hm.r1;have h4 := hm.r4;have h15 : m.code.length ≤ 15 := hm.l15;have hxl := hx.1;(repeat' (first |refine qv ?_ |apply qn |apply qs |apply qr |refine qe ?_|fail));refine Fl.call rfl (Db m (by omega) true ⟨fun _ => hm, fun _ => rfl⟩) rfl rfl rfl (AB _) ?_;(repeat' (first |refine qv ?_ |apply qn |apply qs |apply qr |refine AF rfl ?_ |apply qk));refine Fl.call rfl (rgInput_ok m x (by omega) (by omega) true ⟨fun _ => hx, fun _ => rfl⟩) rfl rfl rfl (AB _) ?_;(repeat' (first |refine qv ?_ |apply qn |apply qs |apply qr |refine AF rfl ?_ |apply qk));refine qc (cloneI_ok x (by omega)) ?_;(repeat' (first |refine qv ?_ |apply qn |refine qe ?_ |apply qt));exact RetOk.of rfl (AA _)
theorem rgRun_ok (m : MZ) (hm : OkMZ m) (x : Nat → Nat) (n k : Nat) (hn : n ≤ 1000000) (hx : ∀ j, x j ≤ 1000) (hk : k ≤ n) (h1 : ∀ t, t < k → ¬ m.mach.Over (m.mach.F x t)) (h2 : k = n ∨ m.mach.Over (m.mach.F x k)) : PureFn Tryz.prog 74 [aMz m, aSt 0 (rgL m.R x), aN n] (.tup [aSt (m.mach.F x k).1 (rgL m.R (m.mach.F x k).2), aN k, aN 0]) := by
 refine AC Tryz.func74 rfl Tryz.ntmps74 rfl rfl ?_;have hR := D0 hm;have hr1 := hm.r1;have hr4 := hm.r4
 have hf := rgFits_ok m hm 0 (rgL m.R x) hm.l1 (CF _ _) fun v hv => by
  have := rgL_all hx v hv;omega
 have hb := rnBegin_ok m 0 (rgL m.R x) (by rw [CF]; omega) fun h => by
  have := congrArg List.length h;rw [CF] at this;simp at this;omega
 have hrun := rnRun_ok m hm x n k hn hx hk h1 h2;(repeat' (first |refine qv ?_ |apply qn |apply qs |apply qr |refine qe ?_|fail));refine qc (hf) ?_;(repeat' (first |refine qv ?_ |apply qn |apply qs |apply qr |refine AF rfl ?_ |(refine AD rfl ?_ ?_ <;> intro _ <;> try (exfalso; omega)) |apply qk));refine BS rfl [(900, 26), (901, 901)] hb rfl rfl (AB _) rfl trivial rfl rfl rfl rfl rfl ?_;(repeat' (first |refine qv ?_ |apply qn |apply qs |apply qr));refine BS rfl [(900, 26), (901, 901)] hrun rfl rfl (AB _) rfl ⟨⟨⟨_, rfl, BLe.cells (AB _)⟩, rfl⟩, ⟨⟨_, rfl, BLe.row rfl⟩, rfl⟩, trivial⟩ rfl rfl rfl rfl rfl ?_;(repeat' (first |refine qv ?_ |apply qn |apply qs |apply qr |refine qe ?_ |refine AF rfl ?_ |apply qk |apply qt));refine A3 (Ent.freeze 901 rfl) ?_;exact RetOk.of rfl (AA _)
theorem rgHalts_ok (m : MZ) (hm : OkMZ m) (x : List Int) (hx : OkIn m x) (n k : Nat) (hn : n ≤ 1000000) (hk : k ≤ n) (h1 : ∀ t, t < k → ¬ m.mach.Over (m.mach.F (inF x) t)) (h2 : k = n ∨ m.mach.Over (m.mach.F (inF x) k)) : PureFn Tryz.prog 32 [aMz m, aI x, aN n] (if m.mach.op (m.mach.F (inF x) k).1 = 3 then .tup [aN k, aI (rgL m.R (m.mach.F (inF x) k).2), aN 0] else .tup [aN 0, .v (.slice none 0 0), aN 6]) := by
 refine AC Tryz.func32 rfl Tryz.ntmps32 rfl rfl ?_;have hs := rgStart_ok m hm x hx;have hr := rgRun_ok m hm (inF x) n k hn (inF_le hx) hk h1 h2;rw [inF_eq hx] at hr;have hc := Mach.F_lt hm.mach (inF x) h1 k (Nat.le_refl _);have hI := MZ.ins_at hm hc
 have hz : m.code[Int.toNat (((m.mach.F (inF x) k).1 : Nat) : Int)]? = some (m.at (m.mach.F (inF x) k).1) := by rw [Int.toNat_natCast]; exact MZ.get_at hc
 have hlt : (m.mach.F (inF x) k).1 < m.code.length := hc;have eo : m.mach.op (m.mach.F (inF x) k).1 = (m.at (m.mach.F (inF x) k).1).op.toNat := rfl;obtain ⟨z, ez⟩ : ∃ z, z = m.at (m.mach.F (inF x) k).1 := ⟨_, rfl⟩;rw [eo];rw [← ez] at hI hz ⊢;(repeat' (first |refine qv ?_ |apply qn |apply qs |apply qr |refine qe ?_|fail));refine qc (hs) ?_;(repeat' (first |refine qv ?_ |apply qn |apply qs |apply qr |refine qe ?_ |refine AF rfl ?_ |apply qk));refine qc (hr) ?_;(repeat' (first |refine qv ?_ |apply qn |refine Fl.nil (fun _ => by kernel_rfl) ?_ |apply qs |apply qr |refine qe ?_ |refine AF rfl ?_ |(refine AU rfl ?_ ?_ <;> intro _ <;> try (exfalso; omega)) |apply qk |apply qt |refine qK ?_|fail))
 ·rename_i h;rw [if_neg (fun k => h (by omega))];exact RetOk.of rfl (AA _)
 ·rename_i h;rw [if_pos (by omega)];exact RetOk.of rfl (AA _)
theorem rgStep_ok (m : MZ) (hm : OkMZ m) (x : Nat → Nat) (t : Nat) (ht : t ≤ 1000000) (hx : ∀ j, x j ≤ 1000) (hc : (m.mach.F x t).1 < m.l) (ho : ¬ m.mach.Over (m.mach.F x t)) : PureFn Tryz.prog 39 [aMz m, aSt (m.mach.F x t).1 (rgL m.R (m.mach.F x t).2)] (.tup [aSt (m.mach.F x (t + 1)).1 (rgL m.R (m.mach.F x (t + 1)).2), aN 0]) := by
 refine AC Tryz.func39 rfl Tryz.ntmps39 rfl rfl ?_;have hR := D0 hm;have hr1 := hm.r1;have hr4 := hm.r4
 have hbd : ∀ j, (m.mach.F x t).2 j ≤ 1001000 := fun j => by
  have := m.mach.F_le (x := x) j t;have := hx j;omega
 have hf := rgFits_ok m hm _ (rgL m.R (m.mach.F x t).2) hc (CF _ _) fun v hv => by
  have := rgL_all hbd v hv;omega
 have hb := rnBegin_ok m (m.mach.F x t).1 (rgL m.R (m.mach.F x t).2) (by rw [CF]; omega) fun h => by
  have := congrArg List.length h;rw [CF] at this;simp at this;omega
 have hov := rnOverC_ok m hm (m.mach.F x t) hc;rw [decide_eq_false ho] at hov
 have hst := rnStepF_ok m hm x t hc ho fun j => by have := hbd j; omega
 (repeat' (first |refine qv ?_ |apply qn |apply qs |apply qr |refine qe ?_|fail));refine qc (hf) ?_;(repeat' (first |refine qv ?_ |apply qn |apply qs |apply qr |refine AF rfl ?_ |apply qk));refine BS rfl [(900, 14), (901, 901)] hb rfl rfl (AB _) rfl trivial rfl rfl rfl rfl rfl ?_;(repeat' (first |refine qv ?_ |apply qn |apply qs |apply qr));refine BS rfl [(900, 14), (901, 901)] hov rfl rfl (AB _) rfl ⟨⟨⟨_, rfl, BLe.cells (AB _)⟩, rfl⟩, ⟨⟨_, rfl, BLe.row rfl⟩, rfl⟩, trivial⟩ rfl rfl rfl rfl rfl ?_;(repeat' (first |refine qv ?_ |apply qn |apply qs |apply qr |refine AF rfl ?_ |apply qk));refine BS rfl [(900, 14), (901, 901)] hst rfl rfl (AB _) rfl ⟨⟨⟨_, rfl, BLe.cells (AB _)⟩, rfl⟩, ⟨⟨_, rfl, BLe.row rfl⟩, rfl⟩, trivial⟩ rfl rfl rfl rfl rfl ?_;(repeat' (first |refine qv ?_ |apply qn |apply qs |apply qr |refine qe ?_ |refine AF rfl ?_ |apply qk |apply qt));refine A3 (Ent.freeze 901 rfl) ?_;exact RetOk.of rfl (AA _)
end Go.Proofs.YtmmfloplhopioaaGreat
/- history's maker: goes, changes; the system. -/
namespace Go.AL
theorem go_len {m : MZ} : ∀ i, ((List.range i).flatMap (fun k => (hsGo m k (m.at k)).map (lkZ m))).length ≤ 2 * i
 | 0 => by simp
 | i + 1 => by
  have ih := go_len (m := m) i;rw [List.range_succ, List.flatMap_append, List.length_append]
  have : ((hsGo m i (m.at i)).map (lkZ m)).length ≤ 2 := by
   rw [List.length_map];unfold hsGo;split
   ·simp
   ·split <;> simp
  simp only [List.flatMap_cons, List.flatMap_nil, List.append_nil];omega
theorem go_succ {m : MZ} (L : List LZ) (i : Nat) : L ++ (List.range (i + 1)).flatMap (fun k => (hsGo m k (m.at k)).map (lkZ m)) = L ++ (List.range i).flatMap (fun k => (hsGo m k (m.at k)).map (lkZ m)) ++ (hsGo m i (m.at i)).map (lkZ m) := by
 rw [List.range_succ, List.flatMap_append, List.append_assoc];simp
end Go.AL
namespace Go.Proofs.YtmmfloplhopioaaGreat
open Go.AL
set_option maxHeartbeats 1000000 in
theorem mkGoes_ok (m : MZ) (hm : OkMZ m) (x : List Int) (hx : OkIn m x) (L : List LZ) (hL : L.length ≤ 1000) (i : Nat) (hi : i < m.l) : IoGn Tryz.prog 112 [.ptr 900 0, aN i, aIz (m.at i)] (kB m x (kQ m) (kAll m) L) (.tup []) (kBr 902 m x (kQ m) (kAll m) (L ++ (hsGo m i (m.at i)).map (lkZ m))) := by
 have hV := hm.V32;have hl : m.code.length ≤ 15 := hm.l15;have hl2 : m.l = m.code.length := rfl;have hR4 := hm.r4;have hR1 := hm.r1;have hR : m.R = m.regs.toNat := rfl;have hVe : m.V = 3 + m.code.length + 2 * m.R := rfl;have hI := MZ.ins_at hm hi;have hsm := fun s hs => Cz hm hx s (hsK_G hi hs);have q := (BM hm.V6).1;have vi := AN (V := m.V) (i := 3 + i) (by omega);have here := sz_here hm hi;obtain ⟨⟨op, r0, n0, k0⟩, ez⟩ : ∃ z, z = m.at i := ⟨_, rfl⟩;rw [← ez] at hI hsm ⊢;by_cases h3 : op = 3
 ·subst h3;show IoGn Tryz.prog 112 [.ptr 900 0, aN i, .agg [aN 3, aN r0, aN n0, aN k0]] _ _ _;refine B9 Tryz.func112 rfl Tryz.ntmps112 rfl rfl ?_;(repeat' (first |refine qv ?_ |apply qn |apply qs |apply qr |refine qe ?_|fail));refine qc (Bp m x i (by omega)) ?_;refine qc (Bw m.V (3 + i) (by omega) (by omega)) ?_;refine ql eP [mkP m.V (hsQ m.V), mkP m.V (varU m.V (3 + i))] ?_;refine qc (Cn m.V (by omega) [hsQ m.V, varU m.V (3 + i)] (by simp) (CX q vi (by omega) (by decide) (by decide) (by decide) (by omega) (by omega) (by omega))) ?_;(repeat' (first |refine qv ?_ |apply qn |refine Fl.nil (fun _ => by kernel_rfl) ?_ |apply qs |apply qr |refine qe ?_ |refine AM rfl ?_ |apply qb |apply qk));refine ⟨⟨[(902, 901)], _, _, AK _ _ _, rfl, AA _, rfl, ⟨⟨⟨_, rfl, BLe.cells (AB _)⟩, rfl⟩, ⟨⟨_, rfl, BLe.row ?_⟩, rfl⟩, trivial⟩, rfl, rfl⟩⟩;simp [hsGo]
 ·rcases hI with kk | ⟨⟨a1, a2⟩, ⟨b1, b2⟩, kk⟩
  ·injection kk with kk; exact absurd kk h3
  simp only at a1 a2 b1 b2 kk;obtain ⟨r, rfl⟩ : ∃ r : Nat, r0 = r := ⟨r0.toNat, by omega⟩;obtain ⟨n, rfl⟩ : ∃ n : Nat, n0 = n := ⟨n0.toNat, by omega⟩;have vn := AN (V := m.V) (i := 3 + n) (by omega);by_cases h2 : op = 2 ∧ k0 ≠ n
  ·obtain ⟨h2, hkn⟩ := h2;obtain ⟨k, rfl⟩ : ∃ k : Nat, k0 = k := ⟨k0.toNat, by omega⟩;have vk := AN (V := m.V) (i := 3 + k) (by omega);have v2 := AN (V := m.V) (i := 2) (by omega);have vr := AN (V := m.V) (i := 3 + m.l + r) (by omega);have c2 := SzU.con m.V 2
   have ego : hsGo m i ⟨op, r, n, k⟩ = [(3, [Af m i, Al [] [varU m.V (3 + n), varU m.V (3 + k)]]), (3, [Af m i, Cs m ⟨op, r, n, k⟩])] := by
    unfold hsGo;rw [if_neg h3, if_pos ⟨h2, hkn⟩]; rfl
   have s1 := hsm _ (by rw [ego]; exact List.mem_cons_self);have s2 := hsm _ (by rw [ego]; exact List.mem_cons_of_mem _ List.mem_cons_self)
   have e1 : SzU m.V 2 2 1 (Av (conU m.V 1) [hsQ m.V, varU m.V 2]) := by rw [BC q]; exact (q.mul v2).mono (by omega) (by decide) (by omega)
   have e2 : SzU m.V 1 2 1 (Av (conU m.V 1) [conU m.V 2, varU m.V (3 + m.l + r)]) := by rw [BC c2]; exact (c2.mul vr).mono (by omega) (by decide) (by omega)
   have e3 : SzU m.V 2 3 2 (Al [] [varU m.V (3 + n), Av (conU m.V 1) [hsQ m.V, varU m.V 2]]) := by rw [CC vn e1]; exact (vn.add e1).mono (by omega) (by decide) (by omega)
   show IoGn Tryz.prog 112 [.ptr 900 0, aN i, .agg [aN op, aN (r : Int), aN (n : Int), aN (k : Int)]] _ _ _;refine B9 Tryz.func112 rfl Tryz.ntmps112 rfl rfl ?_;(repeat' (first |refine qv ?_ |apply qn |apply qs |apply qr |refine qe ?_|fail));refine qc (Bp m x i (by omega)) ?_;refine qc (Bw m.V (3 + i) (by omega) (by omega)) ?_;refine ql eP [mkP m.V (hsQ m.V), mkP m.V (varU m.V (3 + i))] ?_;refine qc (Cn m.V (by omega) [hsQ m.V, varU m.V (3 + i)] (by simp) (CX q vi (by omega) (by decide) (by decide) (by decide) (by omega) (by omega) (by omega))) ?_;(repeat' (first |refine qv ?_ |apply qn |refine Fl.nil (fun _ => by kernel_rfl) ?_ |apply qs |apply qr |refine qe ?_ |(refine AD rfl ?_ ?_ <;> intro _ <;> try (exfalso; omega)) |(refine AU rfl ?_ ?_ <;> intro _ <;> try (exfalso; omega)) |apply qb |(refine AJ rfl rfl ?_ ?_ <;> intro _ <;> try (exfalso; omega))));refine qc (Bp m x n (by omega)) ?_;refine qc (Bw m.V (3 + n) (by omega) (by omega)) ?_;(repeat' (first |refine qv ?_ |refine Fl.nil (fun _ => by kernel_rfl) ?_ |apply qs |apply qr |refine qe ?_|fail));refine qc (Bp m x k (by omega)) ?_;refine qc (Bw m.V (3 + k) (by omega) (by omega)) ?_;refine ql eP [mkP m.V (varU m.V (3 + n)), mkP m.V (varU m.V (3 + k))] ?_;refine qc (DQ m.V (by omega) [varU m.V (3 + n), varU m.V (3 + k)] (by simp) (DP vn vk (by omega) (by omega) (by decide) (by omega))) ?_;refine ql eP [mkP m.V (Af m i), mkP m.V (Al [] [varU m.V (3 + n), varU m.V (3 + k)])] ?_;refine qG [(902, 94)] (Cm m hm x (kQ m) (kAll m) L (by omega) 3 [Af m i, Al [] [varU m.V (3 + n), varU m.V (3 + k)]] s1) ?_;(repeat' (first |refine qv ?_ |refine Fl.nil (fun _ => by kernel_rfl) ?_ |apply qr));refine qc (Bw m.V 2 (by omega) (by omega)) ?_;refine ql eP [mkP m.V (hsQ m.V), mkP m.V (varU m.V 2)] ?_;refine qc (Cn m.V (by omega) [hsQ m.V, varU m.V 2] (by simp) (CX q v2 (by omega) (by decide) (by decide) (by decide) (by omega) (by omega) (by omega))) ?_;refine ql eP [mkP m.V (varU m.V (3 + n)), mkP m.V (Av (conU m.V 1) [hsQ m.V, varU m.V 2])] ?_;refine qc (DQ m.V (by omega) [varU m.V (3 + n), Av (conU m.V 1) [hsQ m.V, varU m.V 2]] (by simp) (DP vn e1 (by omega) (by omega) (by decide) (by omega))) ?_;(repeat' (first |refine qv ?_|fail));refine qc (Dt m.V 2 (by omega) (by omega) (by omega)) ?_;(repeat' (first |refine qv ?_|fail));refine qc (szReg_ok m x r (by omega) (by omega)) ?_;refine qc (Bw m.V (3 + m.l + r) (by omega) (by omega)) ?_;refine ql eP [mkP m.V (conU m.V 2), mkP m.V (varU m.V (3 + m.l + r))] ?_;refine qc (Cn m.V (by omega) [conU m.V 2, varU m.V (3 + m.l + r)] (by simp) (CX c2 vr (by omega) (by decide) (by decide) (by decide) (by omega) (by omega) (by omega))) ?_;refine Fl.call rfl (kSub_ok m.V (by omega) _ _ (Cs m ⟨op, r, n, k⟩) (e3.chk (by omega) (by omega) (by omega)) (e2.chk (by omega) (by omega) (by omega)) (e3.subChk e2 (by omega) (by omega) (by omega) (by omega))) rfl rfl rfl (AB _) ?_;refine ql eP [mkP m.V (Af m i), mkP m.V (Cs m ⟨op, r, n, k⟩)] ?_;refine CB rfl [(901, 94), (902, 148)] (Cm m hm x (kQ m) (kAll m) _ (by simp; omega) 3 [Af m i, Cs m ⟨op, r, n, k⟩] s2) rfl rfl (AB _) rfl ⟨⟨⟨_, rfl, BLe.cells (AB _)⟩, rfl⟩, ⟨⟨_, rfl, BLe.row rfl⟩, rfl⟩, trivial⟩ rfl rfl rfl rfl rfl ?_;(repeat' (first |refine Fl.nil (fun _ => by kernel_rfl) ?_|fail));refine ⟨⟨[(902, 148)], _, _, AK _ _ _, rfl, AA _, rfl, ⟨⟨⟨_, rfl, BLe.cells (AB _)⟩, rfl⟩, ⟨⟨_, rfl, BLe.row ?_⟩, rfl⟩, trivial⟩, rfl, rfl⟩⟩;rw [ego]; simp
  ·have ego : hsGo m i ⟨op, r, n, k0⟩ = [(3, [Af m i, varU m.V (3 + n)])] := by
    unfold hsGo;rw [if_neg h3, if_neg h2]; rfl
   have s1 := hsm _ (by rw [ego]; exact List.mem_cons_self);show IoGn Tryz.prog 112 [.ptr 900 0, aN i, .agg [aN op, aN (r : Int), aN (n : Int), aN k0]] _ _ _;refine B9 Tryz.func112 rfl Tryz.ntmps112 rfl rfl ?_;(repeat' (first |refine qv ?_ |apply qn |apply qs |apply qr |refine qe ?_|fail));refine qc (Bp m x i (by omega)) ?_;refine qc (Bw m.V (3 + i) (by omega) (by omega)) ?_;refine ql eP [mkP m.V (hsQ m.V), mkP m.V (varU m.V (3 + i))] ?_;refine qc (Cn m.V (by omega) [hsQ m.V, varU m.V (3 + i)] (by simp) (CX q vi (by omega) (by decide) (by decide) (by decide) (by omega) (by omega) (by omega))) ?_;(repeat' (first |refine qv ?_ |apply qn |refine Fl.nil (fun _ => by kernel_rfl) ?_ |apply qs |apply qr |refine qe ?_ |refine Fl.skip rfl rfl ?_ |refine AF rfl ?_ |(refine AD rfl ?_ ?_ <;> intro _ <;> try (exfalso; omega)) |(refine AU rfl ?_ ?_ <;> intro _ <;> try (exfalso; omega)) |apply qb |(refine AJ rfl rfl ?_ ?_ <;> intro _ <;> try (exfalso; omega))))
   all_goals (refine Fl.call rfl (Bp m x n (by omega)) rfl rfl rfl (AB _) ?_)
   all_goals skip
   all_goals (refine Fl.call rfl (Bw m.V (3 + n) (by omega) (by omega)) rfl rfl rfl (AB _) ?_)
   all_goals skip
   all_goals (refine Fl.lit rfl rfl rfl rfl rfl eP [mkP m.V (Af m i), mkP m.V (varU m.V (3 + n))] rfl rfl rfl rfl (by intro _ _; rfl) rfl ?_)
   all_goals skip
   all_goals (refine CB rfl [(902, 44)] (Cm m hm x (kQ m) (kAll m) L (by omega) 3 [Af m i, varU m.V (3 + n)] s1) rfl rfl (AB _) rfl ⟨⟨⟨_, rfl, BLe.cells (AB _)⟩, rfl⟩, ⟨⟨_, rfl, BLe.row rfl⟩, rfl⟩, trivial⟩ rfl rfl rfl rfl rfl ?_)
   all_goals repeat' (first |refine Fl.nil (fun _ => by kernel_rfl) ?_|fail)
   all_goals (refine ⟨⟨[(902, 44)], _, _, AK _ _ _, rfl, AA _, rfl, ⟨⟨⟨_, rfl, BLe.cells (AB _)⟩, rfl⟩, ⟨⟨_, rfl, BLe.row ?_⟩, rfl⟩, trivial⟩, rfl, rfl⟩⟩)
   all_goals (rw [ego]; rfl)
abbrev eB (j : Nat) : List (AL.Id × Bx) := [(904, .cells [.ptr 900 0] 139), (905, .cells [aN j] 3)]
theorem mkDoes_ok (m : MZ) (hm : OkMZ m) (x : List Int) (L : List LZ) (op : Int) (j : Nat) : IoFn Tryz.prog 164 ([aN op] ++ [.ptr 904 0, .ptr 905 0]) (kB m x (kQ m) (kAll m) L ++ eB j) (.ret (aP (mkP m.V (BA m op j)))) (kB m x (kQ m) (kAll m) L ++ eB j) := by
 refine AG Tryz.func164 rfl Tryz.ntmps164 rfl rfl rfl ?_;have hV := hm.V32;have q := (BM hm.V6).1;have sm := DG hm (fun y => decide (y.op = op) && decide (y.rg = (j : Int)));(repeat' (first |refine qv ?_ |apply qn |apply qs |apply qr |refine qe ?_|fail));refine Fl.ioR rfl [(902, 3), (903, 905)] (mkSum2_ok m hm x (kQ m) (kAll m) L op j) rfl rfl (AB _) rfl ⟨⟨⟨_, rfl, BLe.cells (AB _)⟩, rfl⟩, ⟨⟨_, rfl, BLe.row rfl⟩, rfl⟩, ⟨⟨_, rfl, BLe.cells (AB _)⟩, rfl⟩, ⟨⟨_, rfl, BLe.cells (AB _)⟩, rfl⟩, trivial⟩ ⟨rfl, rfl, rfl, rfl, trivial⟩ rfl rfl rfl rfl ?_;refine ql eP [mkP m.V (hsQ m.V), mkP m.V (Ag m.V (fun y => decide (y.op = op) && decide (y.rg = (j : Int))) 0 m.code (conU m.V 0))] ?_;refine qc (Cn m.V (by omega) [hsQ m.V, Ag m.V (fun y => decide (y.op = op) && decide (y.rg = (j : Int))) 0 m.code (conU m.V 0)] (by simp) (CX q sm (by omega) (by decide) (by decide) (by decide) (by omega) (by omega) (by omega))) ?_;(repeat' (first |refine Fl.nil (fun _ => by kernel_rfl) ?_ |refine qe ?_ |apply qt));exact ⟨⟨[], _, _, AK _ _ _, rfl, AA _, rfl, ⟨⟨⟨_, rfl, BLe.cells (AB _)⟩, rfl⟩, ⟨⟨_, rfl, BLe.row rfl⟩, rfl⟩, ⟨⟨_, rfl, BLe.cells (AB _)⟩, rfl⟩, ⟨⟨_, rfl, BLe.cells (AB _)⟩, rfl⟩, trivial⟩, rfl, rfl⟩⟩
set_option maxHeartbeats 1000000 in
theorem mkChanges_ok (m : MZ) (hm : OkMZ m) (x : List Int) (hx : OkIn m x) (L : List LZ) (hL : L.length ≤ 1000) (j : Nat) (hj : j < m.R) : IoGn Tryz.prog 113 [.ptr 900 0, aN j] (kB m x (kQ m) (kAll m) L) (.tup []) (kBr 902 m x (kQ m) (kAll m) (L ++ [lkZ m (hsF m x j)])) := by
 refine B9 Tryz.func113 rfl Tryz.ntmps113 rfl rfl ?_;have hV := hm.V32;have hl : m.code.length ≤ 15 := hm.l15;have hl2 : m.l = m.code.length := rfl;have hR4 := hm.r4;have hR1 := hm.r1;have hR : m.R = m.regs.toNat := rfl;have hVe : m.V = 3 + m.code.length + 2 * m.R := rfl;have hxl : x.length = m.R := hx.1;have hxb := getD_in hx j
 have hxj : x[Int.toNat ((j : Nat) : Int)]? = some (x.getD j 0) := by
  rw [Int.toNat_natCast, List.getD_eq_getElem?_getD, List.getElem?_eq_getElem (by omega)]; rfl
 have q := (BM hm.V6).1;have al := (Co hm.V6).1;have vj := AN (V := m.V) (i := 3 + m.l + j) (by omega);have ve := AN (V := m.V) (i := 3 + m.l + m.R + j) (by omega);obtain ⟨sL, sL2⟩ := sz_L hm hj;obtain ⟨sR, okR, sR2⟩ := sz_R0 hm hx hj;have sd := sz_does hm 1 j;have hsF := Cz hm hx _ (hsK_F (x := x) hj);have hlast := hsF.2.2 _ List.mem_cons_self;(repeat' (first |refine qv ?_ |apply qn |apply qs |apply qr |refine qe ?_|fail));refine qc (szReg_ok m x j (by omega) (by omega)) ?_;refine qc (Bw m.V (3 + m.l + j) (by omega) (by omega)) ?_;(repeat' (first |refine qv ?_|fail));refine qc (szEnd_ok m x j (by omega) (by omega) (by omega) (by omega)) ?_;refine qc (Bw m.V (3 + m.l + m.R + j) (by omega) (by omega)) ?_;(repeat' (first |refine qv ?_|fail));refine ql eP [mkP m.V (varU m.V (3 + m.l + m.R + j)), mkP m.V (Bi m.V)] ?_;refine qc (Cn m.V (by omega) [varU m.V (3 + m.l + m.R + j), Bi m.V] (by simp) (CX ve al (by omega) (by decide) (by decide) (by decide) (by omega) (by omega) (by omega))) ?_;refine ql eP [mkP m.V (varU m.V (3 + m.l + j)), mkP m.V (Av (conU m.V 1) [varU m.V (3 + m.l + m.R + j), Bi m.V])] ?_;refine qc (DQ m.V (by omega) [varU m.V (3 + m.l + j), Av (conU m.V 1) [varU m.V (3 + m.l + m.R + j), Bi m.V]] (by simp) (DP vj sL2 (by omega) (by omega) (by decide) (by omega))) ?_;(repeat' (first |refine qv ?_ |refine Fl.nil (fun _ => by kernel_rfl) ?_ |apply qs |apply qr |refine qe ?_ |refine qK ?_|fail));refine qc (Dt m.V (x.getD j 0) (by omega) (by omega) (by omega)) ?_;(repeat' (first |refine qv ?_|fail));refine qc (szReg_ok m x j (by omega) (by omega)) ?_;refine qc (Bw m.V (3 + m.l + j) (by omega) (by omega)) ?_;refine ql eP [mkP m.V (hsQ m.V), mkP m.V (varU m.V (3 + m.l + j))] ?_;refine qc (Cn m.V (by omega) [hsQ m.V, varU m.V (3 + m.l + j)] (by simp) (CX q vj (by omega) (by decide) (by decide) (by decide) (by omega) (by omega) (by omega))) ?_;(repeat' (first |refine qv ?_|fail));refine Fl.ioVR rfl rfl [(904, 2), (905, 3)] (mkDoes_ok m hm x L 0 j) rfl rfl (AB _) rfl ⟨⟨⟨_, rfl, BLe.cells (AB _)⟩, rfl⟩, ⟨⟨_, rfl, BLe.row rfl⟩, rfl⟩, ⟨⟨_, rfl, BLe.cells (AB _)⟩, rfl⟩, ⟨⟨_, rfl, BLe.cells (AB _)⟩, rfl⟩, trivial⟩ ⟨rfl, rfl, rfl, rfl, trivial⟩ rfl rfl rfl rfl ?_;refine ql eP [mkP m.V (conU m.V (x.getD j 0)), mkP m.V (Av (conU m.V 1) [hsQ m.V, varU m.V (3 + m.l + j)]), mkP m.V (BA m 0 j)] ?_;refine qc (DQ m.V (by omega) [conU m.V (x.getD j 0), Av (conU m.V 1) [hsQ m.V, varU m.V (3 + m.l + j)], BA m 0 j] (by simp) okR) ?_;(repeat' (first |refine qv ?_|fail));refine Fl.ioVR rfl rfl [(904, 2), (905, 3)] (mkDoes_ok m hm x L 1 j) rfl rfl (AB _) rfl ⟨⟨⟨_, rfl, BLe.cells (AB _)⟩, rfl⟩, ⟨⟨_, rfl, BLe.row rfl⟩, rfl⟩, ⟨⟨_, rfl, BLe.cells (AB _)⟩, rfl⟩, ⟨⟨_, rfl, BLe.cells (AB _)⟩, rfl⟩, trivial⟩ ⟨rfl, rfl, rfl, rfl, trivial⟩ rfl rfl rfl rfl ?_;refine qc (kSub_ok m.V (by omega) (hsR0 m x j) (BA m 1 j) (subL (hsR0 m x j) (BA m 1 j)) (sR.chk (by omega) (by omega) (by omega)) (sd.chk (by omega) (by omega) (by omega)) (sR.subChk sd (by omega) (by omega) (by omega) (by omega))) ?_;(repeat' (first |refine qv ?_ |refine Fl.nil (fun _ => by kernel_rfl) ?_ |apply qr |refine qe ?_|fail));refine qc (kEq_ok m.V (by omega) (hsL m j) (subL (hsR0 m x j) (BA m 1 j)) (subL (hsL m j) (subL (hsR0 m x j) (BA m 1 j))) (sL.chk (by omega) (by omega) (by omega)) ((sR.sub sd).chk (by omega) (by omega) (by omega)) (sL.subChk (sR.sub sd) (by omega) (by omega) (by omega) (by omega)) ⟨by have := hlast.ln; omega, fun u hu => (hlast.ex u hu).1⟩) ?_;refine ql eL [A7 m.V 0 [subL (hsL m j) (subL (hsR0 m x j) (BA m 1 j))]] ?_;refine qa (hby := (by dsimp only [List.length_nil, List.length_cons]; omega)) (hm := (by simp; omega)) (r := ?_);(repeat' (first |refine qv ?_ |refine Fl.nil (fun _ => by kernel_rfl) ?_ |refine qe ?_|fail));exact ⟨⟨[(902, 108)], _, _, AK _ _ _, rfl, AA _, rfl, ⟨⟨⟨_, rfl, BLe.cells (AB _)⟩, rfl⟩, ⟨⟨_, rfl, BLe.row rfl⟩, rfl⟩, trivial⟩, rfl, rfl⟩⟩
end Go.Proofs.YtmmfloplhopioaaGreat
/- history's sizesOf, system, System. -/
namespace Go.AL
theorem sumL_snoc (l : List Int) (y : Int) : sumL (l ++ [y]) = sumL l + y := by
 induction l with
 | nil => simp [sumL]
 | cons x l ih => simp only [List.cons_append, sumL, ih]; omega
abbrev szZero : AV := .agg [aN 0, .v (.slice none 0 0), .v (.slice none 0 0), aN 0, aN 0]
end Go.AL
namespace Go.Proofs.YtmmfloplhopioaaGreat
open Go.AL
theorem sizesOf_form (m : MZ) (x : List Int) (hl : m.code.length ≤ 100000) (h : ¬ OkMZ m) : PureFn Tryz.prog 45 [aMz m, aI x] (.tup [szZero, aN 1]) := by
 refine AC Tryz.func45 rfl Tryz.ntmps45 rfl rfl ?_;(repeat' (first |refine qv ?_ |apply qn |apply qs |apply qr |refine qe ?_|fail));refine qc (Db m hl false ⟨fun k => (by cases k), fun k => absurd k h⟩) ?_;(repeat' (first |refine qv ?_ |apply qn |apply qs |apply qr |refine qe ?_ |refine AM rfl ?_ |apply qt));exact RetOk.of rfl (AA _)
theorem sizesOf_arg (m : MZ) (x : List Int) (hxl : x.length ≤ 100000) (hm : OkMZ m) (h : ¬ OkIn m x) : PureFn Tryz.prog 45 [aMz m, aI x] (.tup [szZero, aN 2]) := by
 refine AC Tryz.func45 rfl Tryz.ntmps45 rfl rfl ?_;have h1 := hm.r1;have hl : m.code.length ≤ 15 := hm.l15;(repeat' (first |refine qv ?_ |apply qn |apply qs |apply qr |refine qe ?_|fail));refine Fl.call rfl (Db m (by omega) true ⟨fun _ => hm, fun _ => rfl⟩) rfl rfl rfl (AB _) ?_;(repeat' (first |refine qv ?_ |apply qn |apply qs |apply qr |refine AF rfl ?_ |apply qk));refine qc (rgInput_ok m x hxl (by omega) false ⟨fun k => (by cases k), fun k => absurd k h⟩) ?_;(repeat' (first |refine qv ?_ |apply qn |apply qs |apply qr |refine qe ?_ |refine AM rfl ?_ |apply qt));exact RetOk.of rfl (AA _)
theorem sizesOf_ok (m : MZ) (x : List Int) (hm : OkMZ m) (hx : OkIn m x) : PureFn Tryz.prog 45 [aMz m, aI x] (.tup [aSz m x, aN 0]) := by
 refine AC Tryz.func45 rfl Tryz.ntmps45 rfl rfl ?_;have h1 := hm.r1;have h4 := hm.r4;have hl : m.code.length ≤ 15 := hm.l15;have hxl := hx.1;have hR : m.R = m.regs.toNat := rfl;have hVe : m.V = 3 + m.code.length + 2 * m.R := rfl;have hsum := fun i => sumL_in (l := x.take i) fun n hn => hx.2 n (List.mem_of_mem_take hn);(repeat' (first |refine qv ?_ |apply qn |apply qs |apply qr |refine qe ?_|fail));refine Fl.call rfl (Db m (by omega) true ⟨fun _ => hm, fun _ => rfl⟩) rfl rfl rfl (AB _) ?_;(repeat' (first |refine qv ?_ |apply qn |apply qs |apply qr |refine AF rfl ?_ |apply qk));refine Fl.call rfl (rgInput_ok m x (by omega) (by omega) true ⟨fun _ => hx, fun _ => rfl⟩) rfl rfl rfl (AB _) ?_;(repeat' (first |refine qv ?_ |apply qn |apply qs |apply qr |refine qw ?_ |refine qe ?_ |refine AF rfl ?_ |apply qb |apply qk));refine AWP.loop (G := Nat) (fun i => i ≤ x.length) (fun i => AO [] [(4, .ptr 4 0), (6, .ptr 6 0), (32, aI x), (33, aN x.length), (34, aN i)] [(4, .cells [aN 0, .v (.slice none 0 0), .v (.slice none 0 0), aN 0, aN 0] 82), (6, .cells [aN m.regs, .sl 4 eIz m.code, aI x, aN m.V, aN (m.l + sumL (x.take i))] 82)]) (fun i => x.length - i) 0 (by omega) ?_ ?_
 ·refine Ent.of [] ?_ ?_ rfl rfl;(repeat' (first |exact True.intro |refine ⟨⟨AA _, rfl⟩, ?_⟩ |refine ⟨⟨⟨_, rfl, BLe.cells (AB _)⟩, rfl⟩, ?_⟩ |refine ⟨⟨⟨_, rfl, BLe.cells ?_⟩, rfl⟩, ?_⟩|fail))
  ·exact LeL.cons (AA _) (LeL.cons (AA _) (LeL.cons (AA _) (LeL.cons (AV.Le.int (by omega)) (LeL.cons (AV.Le.int (by simp [sumL])) LeL.nil))))
 ·intro i k0;have s0 := hsum i
  have hti : (x.take i).length = i := by rw [List.length_take]; omega
  have hl2 : m.l = m.code.length := rfl;(repeat' (first |refine qv ?_ |apply qn |apply qs |apply qr |refine qe ?_ |(refine AD rfl ?_ ?_ <;> intro _ <;> try (exfalso; omega)) |apply qb |apply qk |apply qx |apply qt |(refine Az rfl rfl rfl rfl rfl rfl rfl rfl (by omega) (by omega) ?_; intro _ _)|fail))
  ·rename_i hi y hy;rw [Int.toNat_natCast] at hy;have hyb := hx.2 y (List.mem_of_getElem? hy);(repeat' (first |refine qv ?_ |apply qn |apply qr |refine qw ?_ |refine qe ?_|fail));refine LoopEnd.of (i + 1) (by omega) (by omega) ?_;refine Ent.of [] ?_ ?_ rfl rfl;(repeat' (first |exact True.intro |refine ⟨⟨AA _, rfl⟩, ?_⟩ |refine ⟨⟨⟨_, rfl, BLe.cells (AB _)⟩, rfl⟩, ?_⟩ |refine ⟨⟨⟨_, rfl, BLe.cells ?_⟩, rfl⟩, ?_⟩|fail));exact LeL.cons (AA _) (LeL.cons (AA _) (LeL.cons (AA _) (LeL.cons (AA _) (LeL.cons (AV.Le.int (by rw [Ac hy, sumL_snoc]; omega)) LeL.nil))))
  ·rename_i hi;refine RetOk.of rfl ?_;rw [List.take_of_length_le (by omega)];exact AA _
set_option maxHeartbeats 1000000 in
theorem hsSystem_ok (m : MZ) (x : List Int) (hm : OkMZ m) (hx : OkIn m x) : PureFn Tryz.prog 47 [aSz m x] (aS (hsS m x)) := by
 refine AC Tryz.func47 rfl Tryz.ntmps47 rfl rfl ?_;have hV := hm.V32;have hl : m.code.length ≤ 15 := hm.l15;have hl1 : 1 ≤ m.code.length := hm.l1;have hl2 : m.l = m.code.length := rfl;have hR4 := hm.r4;have hR1 := hm.r1;have hR : m.R = m.regs.toNat := rfl;have hVe : m.V = 3 + m.code.length + 2 * m.R := rfl;obtain ⟨s1, s2, s3⟩ := addZ_b hm hx;have q := (BM hm.V6).1;have c2 := SzU.con m.V 2;have c1 := SzU.con m.V 1;have v0 := AN (V := m.V) (i := 0) (by omega);have v1 := AN (V := m.V) (i := 1) (by omega);have v2 := AN (V := m.V) (i := 2) (by omega);have ca := SzU.con m.V (addZ m x);obtain ⟨al1, al2, al3, al4, al5, al6⟩ := Co hm.V6;have tA := fun s hs => Cz hm hx s (hsK_A hs);have t1 := tA _ (show _ ∈ hsA m x from List.mem_cons_self);have t2 := tA _ (show _ ∈ hsA m x from List.mem_cons_of_mem _ List.mem_cons_self);have t3 := tA _ (show _ ∈ hsA m x from List.mem_cons_of_mem _ (List.mem_cons_of_mem _ List.mem_cons_self));have hlast := t3.2.2 _ List.mem_cons_self;have sm := DG hm (fun _ => true);refine AE ?_;(repeat' (first |apply qn |apply qr |refine qe ?_|fail));refine ⟨AE ?_⟩;(repeat' (first |refine qv ?_ |apply qr));refine qc (kNew_ok m.V) ?_;(repeat' (first |refine qv ?_ |refine Fl.nil (fun _ => by kernel_rfl) ?_ |refine qe ?_|fail));refine ⟨?_⟩;refine Ab (BT 12 10 901 rfl rfl rfl 3 eL 99) ?_;refine AE ?_;(repeat' (first |refine qv ?_ |apply qr));refine qc (Dt m.V 2 (by omega) (by omega) (by omega)) ?_;(repeat' (first |refine qv ?_|fail));refine qc (Bw m.V 1 (by omega) (by omega)) ?_;refine ql eP [mkP m.V (conU m.V 2), mkP m.V (varU m.V 1)] ?_;refine qc (Cn m.V (by omega) [conU m.V 2, varU m.V 1] (by simp) (BM hm.V6).2) ?_;(repeat' (first |refine qv ?_ |refine Fl.nil (fun _ => by kernel_rfl) ?_ |refine qe ?_|fail));refine ⟨AE ?_⟩;(repeat' (first |refine qv ?_ |apply qr));refine qc (Dt m.V 1 (by omega) (by omega) (by omega)) ?_;(repeat' (first |refine qv ?_|fail));refine qc (Dt m.V 1 (by omega) (by omega) (by omega)) ?_;refine qc (kSub_ok m.V (by omega) (hsQ m.V) (conU m.V 1) (subL (hsQ m.V) (conU m.V 1)) (q.chk (by omega) (by omega) (by omega)) (c1.chk (by omega) (by decide) (by omega)) al5) ?_;(repeat' (first |refine qv ?_|fail));refine qc (Bw m.V 2 (by omega) (by omega)) ?_;refine ql eP [mkP m.V (subL (hsQ m.V) (conU m.V 1)), mkP m.V (varU m.V 2)] ?_;refine qc (Cn m.V (by omega) [subL (hsQ m.V) (conU m.V 1), varU m.V 2] (by simp) al2) ?_;refine ql eP [mkP m.V (conU m.V 1), mkP m.V (Av (conU m.V 1) [subL (hsQ m.V) (conU m.V 1), varU m.V 2])] ?_;refine qc (DQ m.V (by omega) [conU m.V 1, Av (conU m.V 1) [subL (hsQ m.V) (conU m.V 1), varU m.V 2]] (by simp) al3) ?_;(repeat' (first |refine qv ?_ |refine Fl.nil (fun _ => by kernel_rfl) ?_ |refine qe ?_|fail));refine ⟨AE ?_⟩;refine Ab (s' := AO [] [(1, .ptr 1 0), (2, .ptr 2 0), (3, .ptr 12 0)] [(1, .cells [aN m.regs, .sl 4 eIz m.code, aI x, aN m.V, aN (addZ m x)] 82), (2, .cells [aN 0, .v (.slice none 0 0)] 39), (12, .cells [aN m.regs, .sl 4 eIz m.code, aI x, aN m.V, aN (addZ m x), aN m.V, aN (kQ m).vars, .sl 3 eT (kQ m).terms, aN (kAll m).vars, .sl 3 eT (kAll m).terms, .row 901] 144), (901, .row 3 eL ([] : List LZ) 99)]) ?_ ?_
 ·refine Ent.of [] ?_ ?_ rfl rfl;(repeat' (first |exact True.intro |refine ⟨⟨AA _, rfl⟩, ?_⟩ |refine ⟨⟨⟨_, rfl, BLe.cells (AB _)⟩, rfl⟩, ?_⟩ |refine ⟨⟨⟨_, rfl, BLe.row rfl⟩, rfl⟩, ?_⟩|fail))
 (repeat' (first |refine qv ?_ |apply qr));refine qc (Dt m.V 2 (by omega) (by omega) (by omega)) ?_;(repeat' (first |refine qv ?_|fail));refine qc (Bw m.V 0 (by omega) (by omega)) ?_;(repeat' (first |refine qv ?_|fail));refine qc (Dt m.V (addZ m x) (by omega) (by omega) (by omega)) ?_;refine ql eP [mkP m.V (varU m.V 0), mkP m.V (conU m.V (addZ m x))] ?_;refine qc (DQ m.V (by omega) [varU m.V 0, conU m.V (addZ m x)] (by simp) (DP v0 ca (by omega) (by omega) (by omega) (by omega))) ?_;(repeat' (first |refine qv ?_|fail));refine qc (Bw m.V 1 (by omega) (by omega)) ?_;refine ql eP [mkP m.V (conU m.V 2), mkP m.V (Al [] [varU m.V 0, conU m.V (addZ m x)]), mkP m.V (varU m.V 1)] ?_;refine qG [(900, 12), (902, 101)] (Cm m hm x (kQ m) (kAll m) [] (by simp) 2 [conU m.V 2, Al [] [varU m.V 0, conU m.V (addZ m x)], varU m.V 1] t1) ?_;(repeat' (first |refine Fl.nil (fun _ => by kernel_rfl) ?_|fail));refine ⟨AE ?_⟩;(repeat' (first |refine qv ?_ |apply qr));refine qc (Bw m.V 0 (by omega) (by omega)) ?_;(repeat' (first |refine qv ?_|fail));refine qc (Dt m.V 1 (by omega) (by omega) (by omega)) ?_;refine ql eP [mkP m.V (varU m.V 0), mkP m.V (conU m.V 1)] ?_;refine qc (DQ m.V (by omega) [varU m.V 0, conU m.V 1] (by simp) (DP v0 c1 (by omega) (by omega) (by decide) (by omega))) ?_;(repeat' (first |refine qv ?_|fail));refine ql eP [mkP m.V (hsQ m.V), mkP m.V (Al [] [varU m.V 0, conU m.V 1]), mkP m.V (Bi m.V)] ?_;refine CB rfl [(900, 12), (901, 101), (902, 128)] (Cm m hm x (kQ m) (kAll m) _ (by simp) 2 [hsQ m.V, Al [] [varU m.V 0, conU m.V 1], Bi m.V] t2) rfl rfl (AB _) rfl ⟨⟨⟨_, rfl, BLe.cells (AB _)⟩, rfl⟩, ⟨⟨_, rfl, BLe.row rfl⟩, rfl⟩, trivial⟩ rfl rfl rfl rfl rfl ?_;(repeat' (first |refine Fl.nil (fun _ => by kernel_rfl) ?_|fail));refine ⟨AE ?_⟩;(repeat' (first |refine qv ?_ |apply qr));refine qc (Bw m.V 2 (by omega) (by omega)) ?_;(repeat' (first |refine qv ?_|fail));refine qR [(900, 12), (901, 128)] (mkSum_ok m hm x (kQ m) (kAll m) _ 110 (fun _ => true) mkTrue_ok) ?_;refine Fl.call rfl (kEq_ok m.V (by omega) (varU m.V 2) (Ag m.V (fun _ => true) 0 m.code (conU m.V 0)) (subL (varU m.V 2) (Ag m.V (fun _ => true) 0 m.code (conU m.V 0))) (v2.chk (by omega) (by omega) (by omega)) (sm.chk (by omega) (by omega) (by omega)) (v2.subChk sm (by omega) (by omega) (by omega) (by omega)) ⟨by have := hlast.ln; omega, fun u hu => (hlast.ex u hu).1⟩) rfl rfl rfl (AB _) ?_;refine ql eL [A7 m.V 0 [subL (varU m.V 2) (Ag m.V (fun _ => true) 0 m.code (conU m.V 0))]] ?_;refine qa (hby := (by first | (simp; done) | (simp; omega))) (hm := (by first | (simp; done) | (simp; omega))) (r := ?_);(repeat' (first |refine qv ?_ |refine Fl.nil (fun _ => by kernel_rfl) ?_ |refine qe ?_|fail));refine ⟨AE ?_⟩;(repeat' (first |refine qv ?_ |apply qr));refine qG [(900, 12), (901, 147), (902, 151)] (mkMasks_ok m hm x hx ((hsA m x).map (lkZ m)) (by simp [hsA])) ?_;(repeat' (first |apply qn));refine ⟨?_⟩;obtain ⟨L1, eL1⟩ : ∃ L1, L1 = (hsA m x).map (lkZ m) ++ (List.range m.l).map (fun i => lkZ m (hsB m i)) ++ (hsC m).map (lkZ m) ++ (List.range m.R).map (fun j => lkZ m (hsD m j)) := ⟨_, rfl⟩
 have hL1 : L1.length ≤ 24 := by rw [eL1]; simp [hsA, hsC]; omega
 rw [← eL1];have gl := go_len (m := m);(repeat' (first |refine qv ?_ |apply qn |apply qs |apply qr |apply qb));refine AWP.loop (G := Nat) (fun i => i ≤ m.code.length) (fun i => AO [] [(1, .ptr 1 0), (2, .ptr 2 0), (3, .ptr 12 0), (154, .sl 4 eIz m.code), (155, aN m.code.length), (156, aN i)] [(1, .cells [aN m.regs, .sl 4 eIz m.code, aI x, aN m.V, aN (addZ m x)] 82), (2, .cells [aN 0, .v (.slice none 0 0)] 39), (12, .cells [aN m.regs, .sl 4 eIz m.code, aI x, aN m.V, aN (addZ m x), aN m.V, aN (kQ m).vars, .sl 3 eT (kQ m).terms, aN (kAll m).vars, .sl 3 eT (kAll m).terms, .row 901] 144), (901, .row 3 eL (L1 ++ (List.range i).flatMap (fun k => (hsGo m k (m.at k)).map (lkZ m))) 99)]) (fun i => m.code.length - i) 0 (by omega) ?_ ?_
 ·refine Ent.of [(901, 151)] ?_ ?_ rfl rfl;(repeat' (first |exact True.intro |refine ⟨⟨AA _, rfl⟩, ?_⟩ |refine ⟨⟨⟨_, rfl, BLe.cells (AB _)⟩, rfl⟩, ?_⟩ |refine ⟨⟨⟨_, rfl, BLe.row ?_⟩, rfl⟩, ?_⟩|fail));simp
 ·intro i k0;have hgi := gl i;(repeat' (first |refine qv ?_ |apply qn |apply qs |apply qr |refine qe ?_ |(refine AD rfl ?_ ?_ <;> intro _ <;> try (exfalso; omega)) |apply qb |apply qk |apply qx |(refine Az rfl rfl rfl rfl rfl rfl rfl rfl (by omega) (by omega) ?_; intro _ _)|fail))
  ·rename_i hi y hy;rw [Int.toNat_natCast] at hy;have hat := MZ.at_get hy;have hgo := mkGoes_ok m hm x hx (L1 ++ (List.range i).flatMap (fun k => (hsGo m k (m.at k)).map (lkZ m))) (by rw [List.length_append]; omega) i (by show i < m.code.length; omega);rw [hat] at hgo;refine qG [(900, 12), (902, 164)] hgo ?_;(repeat' (first |refine qv ?_ |apply qn |apply qr |refine qw ?_|fail));refine LoopEnd.of (i + 1) (by omega) (by omega) ?_;refine Ent.of [(901, 164)] ?_ ?_ rfl rfl;(repeat' (first |exact True.intro |refine ⟨⟨AA _, rfl⟩, ?_⟩ |refine ⟨⟨⟨_, rfl, BLe.cells (AB _)⟩, rfl⟩, ?_⟩ |refine ⟨⟨⟨_, rfl, BLe.row ?_⟩, rfl⟩, ?_⟩|fail));rw [go_succ, hat]
  ·rename_i hi
   have hi : i = m.code.length := by omega
   subst hi;obtain ⟨L2, eL2⟩ : ∃ L2, L2 = L1 ++ (List.range m.code.length).flatMap (fun k => (hsGo m k (m.at k)).map (lkZ m)) := ⟨_, rfl⟩
   have hL2 : L2.length ≤ 54 := by rw [eL2, List.length_append]; omega
   rw [← eL2];refine AWP.loop (G := Nat) (fun j => j ≤ m.R) (fun j => AO [] [(1, .ptr 1 0), (2, .ptr 2 0), (3, .ptr 12 0), (168, aN m.R), (169, aN j)] [(1, .cells [aN m.regs, .sl 4 eIz m.code, aI x, aN m.V, aN (addZ m x)] 82), (2, .cells [aN 0, .v (.slice none 0 0)] 39), (12, .cells [aN m.regs, .sl 4 eIz m.code, aI x, aN m.V, aN (addZ m x), aN m.V, aN (kQ m).vars, .sl 3 eT (kQ m).terms, aN (kAll m).vars, .sl 3 eT (kAll m).terms, .row 901] 144), (901, .row 3 eL (L2 ++ (List.range j).map (fun k => lkZ m (hsF m x k))) 99)]) (fun j => m.R - j) 0 (by omega) ?_ ?_
   ·refine Ent.of [] ?_ ?_ rfl rfl;(repeat' (first |exact True.intro |refine ⟨⟨AA _, rfl⟩, ?_⟩ |refine ⟨⟨⟨_, rfl, BLe.cells (AB _)⟩, rfl⟩, ?_⟩ |refine ⟨⟨⟨_, rfl, BLe.row ?_⟩, rfl⟩, ?_⟩ |refine ⟨⟨AV.Le.int ?_, rfl⟩, ?_⟩|fail))
    ·omega
    ·simp
   ·intro j k1;(repeat' (first |refine qv ?_ |apply qn |refine Fl.nil (fun _ => by kernel_rfl) ?_ |apply qs |apply qr |refine qe ?_ |(refine AD rfl ?_ ?_ <;> intro _ <;> try (exfalso; omega)) |apply qb |apply qk |apply qx |apply qt))
    ·rename_i hj;refine qG [(900, 12), (902, 174)] (mkChanges_ok m hm x hx (L2 ++ (List.range j).map (fun k => lkZ m (hsF m x k))) (by simp; omega) j (by omega)) ?_;(repeat' (first |refine qv ?_ |apply qn |apply qr |refine qw ?_|fail));refine LoopEnd.of (j + 1) (by omega) (by omega) ?_;refine Ent.of [(901, 174)] ?_ ?_ rfl rfl;(repeat' (first |exact True.intro |refine ⟨⟨AA _, rfl⟩, ?_⟩ |refine ⟨⟨⟨_, rfl, BLe.cells (AB _)⟩, rfl⟩, ?_⟩ |refine ⟨⟨⟨_, rfl, BLe.row ?_⟩, rfl⟩, ?_⟩|fail));rw [Br]
    ·rename_i hj
     have hj : j = m.R := by omega
     subst hj;refine A3 (Ent.freeze 901 rfl) ?_;refine RetOk.of rfl (AW ?_);rw [eL2, eL1];simp only [hsS, hsK, List.map_append, List.map_map, List.map_flatMap, lkZ];rfl
theorem hSystem_ok (m : MZ) (x : List Int) (hm : OkMZ m) (hx : OkIn m x) : PureFn Tryz.prog 14 [aMz m, aI x] (.tup [aS (hsS m x), aN 0]) := by
 refine AC Tryz.func14 rfl Tryz.ntmps14 rfl rfl ?_;have h1 := sizesOf_ok m x hm hx;have h2 := hsSystem_ok m x hm hx;(repeat' (first |refine qv ?_ |apply qn |apply qs |apply qr |refine qe ?_|fail));refine qc (h1) ?_;(repeat' (first |refine qv ?_ |apply qn |apply qs |apply qr |refine qe ?_ |refine AF rfl ?_ |apply qk));refine qc (h2) ?_;(repeat' (first |refine qv ?_ |apply qn |refine qe ?_ |apply qt));exact RetOk.of rfl (AA _)
theorem hSystem_bad (m : MZ) (x : List Int) (e : Int) (he : e ≠ 0) (h : PureFn Tryz.prog 45 [aMz m, aI x] (.tup [szZero, aN e])) : PureFn Tryz.prog 14 [aMz m, aI x] (.tup [.agg [aN 0, .v (.slice none 0 0)], aN e]) := by
 refine AC Tryz.func14 rfl Tryz.ntmps14 rfl rfl ?_;(repeat' (first |refine qv ?_ |apply qn |apply qs |apply qr |refine qe ?_|fail));refine qc (h) ?_;(repeat' (first |refine qv ?_ |apply qn |apply qs |apply qr |refine qe ?_ |(refine AU rfl ?_ ?_ <;> intro _ <;> try (exfalso; omega)) |apply qt));exact RetOk.of rfl (AA _)
end Go.Proofs.YtmmfloplhopioaaGreat
/- The reference's sum, System. -/
namespace Go.Proofs.YtmmfloplhopioaaGreat
open Go.AL
set_option maxHeartbeats 1000000 in
theorem r14sum_ok (m : MZ) (hm : OkMZ m) (op reg : Int) (c : IZ → Bool) (hc : ∀ y, c y = true ↔ y.op = op ∧ (reg < 0 ∨ y.rg = reg)) : PureFn Tryz.prog 66 [aMz m, aN op, aN reg] (aP (mkP m.V (Ag m.V c 0 m.code (conU m.V 0)))) := by
  refine AC Tryz.func66 rfl Tryz.ntmps66 rfl rfl ?_;have hV := hm.V32;have hl : m.code.length ≤ 15 := hm.l15;have hVe : m.V = 3 + m.code.length + 2 * m.R := rfl;have hr1 := hm.r1;have hr4 := hm.r4;have cv := r14Vars_ok m (by omega) (by omega) (by omega);refine AE ?_;(repeat' (first |apply qn |apply qr |refine qe ?_|fail));refine ⟨AE ?_⟩;(repeat' (first |refine qv ?_ |apply qr));refine qc (cv) ?_;(repeat' (first |apply qn |refine qe ?_|fail));refine ⟨AE ?_⟩;(repeat' (first |refine qv ?_ |apply qn |apply qs |apply qr |apply qb));refine AWP.loop (G := Nat × List UT) (fun (i, out) => i ≤ m.code.length ∧ SzU m.V 1 i (1 + i) out ∧ Ag m.V c i (m.code.drop i) out = Ag m.V c 0 m.code (conU m.V 0)) (fun (i, out) => AO [] [(1, aN op), (2, aN reg), (3, .ptr 3 0), (6, .ptr 6 0), (7, .ptr 7 0), (8, aN i)] [(3, .cells (eMz m) 24), (6, .cells [aN 0, .v (.slice none 0 0)] 105), (7, .cells (eP (mkP m.V out)) 105)]) (fun (i, _) => m.code.length - i) (0, conU m.V 0) ⟨by omega, (SzU.con m.V 0).mono (by omega) (by decide) (by omega), rfl⟩ ?_ ?_
  · refine Ent.of [] ?_ ?_ rfl rfl;(repeat' (first |exact True.intro |refine ⟨⟨AA _, rfl⟩, ?_⟩ |refine ⟨⟨⟨_, rfl, BLe.cells (AB _)⟩, rfl⟩, ?_⟩ |refine ⟨⟨⟨_, rfl, BLe.cells ?_⟩, rfl⟩, ?_⟩|fail));exact LeL.cons (AA _) (LeL.cons (AV.Le.nil 3 eT) LeL.nil)
  · intro ⟨i, out⟩ ⟨k0, k1, k2⟩;refine AE ?_;(repeat' (first |refine qv ?_ |apply qn |apply qs |apply qr |(refine AD rfl ?_ ?_ <;> intro _ <;> try (exfalso; omega)) |apply qk |apply qx))
    · rename_i hi;obtain ⟨y, hy⟩ : ∃ y, m.code[i]? = some y := ⟨_, List.getElem?_eq_getElem (by omega)⟩
      have hy' : m.code[Int.toNat (i : Int)]? = some y := by rw [Int.toNat_natCast]; exact hy
      rw [Ee hy] at k2;have hcy := hc y;have v := AN (V := m.V) (i := 3 + i) (by omega);have ca := r2Add (show m.V ≤ 32 by omega) k1 v (by omega) (by omega) (by omega) (by omega) (by omega) (by omega)
      have yes : y.op = op ∧ (reg < 0 ∨ y.rg = reg) → Ag m.V c (i + 1) (m.code.drop (i + 1)) (addL out (varU m.V (3 + i))) = Ag m.V c 0 m.code (conU m.V 0) := fun h => by
        rw [if_pos (hcy.2 h), CC k1 v] at k2; exact k2
      have no : ¬ (y.op = op ∧ (reg < 0 ∨ y.rg = reg)) → Ag m.V c (i + 1) (m.code.drop (i + 1)) out = Ag m.V c 0 m.code (conU m.V 0) := fun h => by
        rw [if_neg fun k => h (hcy.1 k)] at k2; exact k2
      refine ⟨?_⟩;(repeat' (first |refine qv ?_ |apply qn |apply qs |apply qr |refine qw ?_ |refine Fl.skip rfl rfl ?_ |refine AM rfl ?_ |refine AF rfl ?_ |(refine AD rfl ?_ ?_ <;> intro _ <;> try (exfalso; omega)) |apply qb |apply qk |refine qK ?_ |(refine AJ rfl rfl ?_ ?_ <;> intro _ <;> try (exfalso; omega))))
      all_goals first
        | (refine LoopEnd.of (i + 1, out) ⟨by omega, k1.mono (by omega) (by omega) (by omega), no (by omega)⟩ (by simp only; omega) ?_
           refine Ent.of [] ?_ ?_ rfl rfl
           repeat' (first |exact True.intro |refine ⟨⟨AA _, rfl⟩, ?_⟩ |refine ⟨⟨⟨_, rfl, BLe.cells (AB _)⟩, rfl⟩, ?_⟩|fail))
        | skip
      · refine qc (cv) ?_;(repeat' (first |refine qv ?_ |refine qw ?_|fail));refine qc (rVarU m.V (3 + i) (by omega) (by omega)) ?_;refine qc (ca) ?_;(repeat' (first |refine qv ?_ |apply qn |refine Fl.nil (fun _ => by kernel_rfl) ?_ |apply qr |refine qw ?_ |refine qe ?_|fail));refine LoopEnd.of (i + 1, addL out (varU m.V (3 + i))) ⟨by omega, (k1.add v).mono (by omega) (by omega) (by omega), yes (by omega)⟩ (by simp only; omega) ?_;refine Ent.of [] ?_ ?_ rfl rfl;(repeat' (first |exact True.intro |refine ⟨⟨AA _, rfl⟩, ?_⟩ |refine ⟨⟨⟨_, rfl, BLe.cells (AB _)⟩, rfl⟩, ?_⟩|fail))
      · refine qc (cv) ?_;(repeat' (first |refine qv ?_ |refine qw ?_|fail));refine qc (rVarU m.V (3 + i) (by omega) (by omega)) ?_;refine qc (ca) ?_;(repeat' (first |refine qv ?_ |apply qn |refine Fl.nil (fun _ => by kernel_rfl) ?_ |apply qr |refine qw ?_ |refine qe ?_|fail));refine LoopEnd.of (i + 1, addL out (varU m.V (3 + i))) ⟨by omega, (k1.add v).mono (by omega) (by omega) (by omega), yes (by omega)⟩ (by simp only; omega) ?_;refine Ent.of [] ?_ ?_ rfl rfl;(repeat' (first |exact True.intro |refine ⟨⟨AA _, rfl⟩, ?_⟩ |refine ⟨⟨⟨_, rfl, BLe.cells (AB _)⟩, rfl⟩, ?_⟩|fail))
    · rename_i hi;rw [List.drop_of_length_le (by omega)] at k2;rw [← k2];refine ⟨?_⟩;(repeat' (first |refine qv ?_ |apply qn |apply qs |apply qr |refine qe ?_ |apply qt));exact RetOk.of rfl (AA _)
abbrev r14E (m : MZ) (x : List Int) : List (Nat × AV) := [(1, aI x), (2, .ptr 2 0), (4, .ptr 4 0), (5, .ptr 25 0), (6, aN m.code.length), (7, .ptr 7 0), (8, .ptr 8 0), (9, .ptr 9 0), (10, .ptr 10 0), (11, .ptr 11 0)]
abbrev r14B (m : MZ) (L : List LZ) : List (AL.Id × Bx) := [(2, .cells (eMz m) 24), (4, .cells [aN 0, .v (.slice none 0 0)] 39), (25, .cells [aN m.V, .row 801] 102), (801, .row 3 eL (L) 99), (7, .cells (eP (mkP m.V (varU m.V 0))) 105), (8, .cells (eP (mkP m.V (varU m.V 1))) 105), (9, .cells (eP (mkP m.V (varU m.V 2))) 105), (10, .cells (eP (mkP m.V (hsQ m.V))) 105), (11, .cells (eP (mkP m.V (Bi m.V))) 105)]
set_option maxHeartbeats 4000000 in
theorem r14System_ok (m : MZ) (x : List Int) (hm : OkMZ m) (hx : OkIn m x) : PureFn Tryz.prog 25 [aMz m, aI x] (aS (hsS m x)) := by
 refine AC Tryz.func25 rfl Tryz.ntmps25 rfl rfl ?_
 have hV : m.V ≤ 32 := by have := hm.V32; omega
 have h6 := hm.V6;have hl : m.code.length ≤ 15 := hm.l15;have hll : m.l = m.code.length := rfl;have hl1 : 1 ≤ m.code.length := hm.l1;have hVe : m.V = 3 + m.code.length + 2 * m.R := rfl;have hr1 := hm.r1;have hr4 := hm.r4;have hRe := D0 hm;have hxl := hx.1;obtain ⟨s1, s2, s3⟩ := addZ_b hm hx;have hsm := Cz hm hx;have cv := r14Vars_ok m (by omega) (by omega) (by omega);have cs := r14Sum_ok m x (by omega) hx (by omega);have q := (BM h6).1;have eq : hsQ m.V = An (conU m.V 2) (varU m.V 1) := BC (SzU.con m.V 2);have v0 := AN (V := m.V) (i := 0) (by omega);have v1 := AN (V := m.V) (i := 1) (by omega);have v2 := AN (V := m.V) (i := 2) (by omega);have k1 := SzU.con m.V 1;have k2 := SzU.con m.V 2;have ka := SzU.con m.V (addZ m x);have qm := q.sub k1;have qi := (Co h6).2.2.2.2.2;have al := (Co h6).1;have cq := r2Mul hV k2 v1 (by omega) (by decide) (by omega) (by omega) (by omega) (by omega);rw [← eq] at cq;have cqm := r2Sub hV q k1 (by omega) (by omega) (by omega) (by decide) (by omega) (by omega);have cqi := r2Mul hV qm v2 (by omega) (by decide) (by omega) (by omega) (by omega) (by omega)
 have eal : Bi m.V = addL (conU m.V 1) (An (subL (hsQ m.V) (conU m.V 1)) (varU m.V 2)) := by unfold Bi; rw [BC qm, CC k1 (qm.mul v2)]
 have cal := r2Add hV k1 (qm.mul v2) (by omega) (by omega) (by decide) (by decide) (by omega) (by omega);rw [← eal] at cal;have csa := r2Add hV v0 ka (by omega) (by omega) (by omega) (by omega) (by omega) (by omega);have cs1 := r2Add hV v0 k1 (by omega) (by omega) (by omega) (by decide) (by omega) (by omega);have esa : addL (varU m.V 0) (conU m.V (addZ m x)) = Al [] [varU m.V 0, conU m.V (addZ m x)] := (CC v0 ka).symm;have es1 : addL (varU m.V 0) (conU m.V 1) = Al [] [varU m.V 0, conU m.V 1] := (CC v0 k1).symm;rw [esa] at csa;rw [es1] at cs1;have smA : ∀ s ∈ hsA m x, ∀ p ∈ s.2, SzU m.V 4 10000 200 p := fun s hs p hp => (hsm s (by simp only [hsK, List.mem_append]; exact .inl (.inl (.inl (.inl (.inl hs)))))).2.2 p hp;have z1 : ∀ p ∈ [conU m.V 2, Al [] [varU m.V 0, conU m.V (addZ m x)], varU m.V 1], SzU m.V 4 10000 200 p := smA (2, _) (by simp [hsA]);have z2 : ∀ p ∈ [hsQ m.V, Al [] [varU m.V 0, conU m.V 1], Bi m.V], SzU m.V 4 10000 200 p := smA (2, _) (by simp [hsA]);have z3 : ∀ p ∈ [subL (varU m.V 2) (Ag m.V (fun _ => true) 0 m.code (conU m.V 0))], SzU m.V 4 10000 200 p := smA (0, _) (by simp [hsA]);have z4 : ∀ p ∈ [conU m.V 1, varU m.V 3], SzU m.V 4 10000 200 p := fun p hp => (hsm (3, [conU m.V 1, varU m.V 3]) (by simp only [hsK, List.mem_append]; exact .inl (.inl (.inl (.inr (by simp [hsC])))))).2.2 p hp;have z5 : ∀ p ∈ [hsQ m.V, varU m.V 0, Ag m.V (fun x => decide (x.op = 3)) 0 m.code (conU m.V 0)], SzU m.V 4 10000 200 p := fun p hp => (hsm (2, [hsQ m.V, varU m.V 0, Ag m.V (fun x => decide (x.op = 3)) 0 m.code (conU m.V 0)]) (by simp only [hsK, List.mem_append]; exact .inl (.inl (.inl (.inr (by simp [hsC])))))).2.2 p hp;have smB : ∀ i, i < m.code.length → ∀ p ∈ [varU m.V (3 + i), varU m.V 2], SzU m.V 4 10000 200 p := fun i hi p hp => (hsm (hsB m i) (by simp only [hsK, List.mem_append]; exact .inl (.inl (.inl (.inl (.inr (List.mem_map.2 ⟨i, List.mem_range.2 hi, rfl⟩))))))).2.2 p hp;have hm1 := v1.sub k1;have chm := r2Sub hV v1 k1 (by omega) (by omega) (by omega) (by decide) (by omega) (by omega);have chi := r2Mul hV hm1 v2 (by omega) (by decide) (by omega) (by omega) (by omega) (by omega)
 have eD : ∀ j, lkZ m (hsD m j) = A7 m.V 3 [varU m.V (3 + m.code.length + j), An (subL (varU m.V 1) (conU m.V 1)) (varU m.V 2)] := fun j => by
  show A7 m.V 3 [varU m.V (3 + m.code.length + j), Av (conU m.V 1) [subL (varU m.V 1) (conU m.V 1), varU m.V 2]] = _;rw [BC hm1]
 have smD : ∀ j, j < m.R → ∀ p ∈ [varU m.V (3 + m.code.length + j), An (subL (varU m.V 1) (conU m.V 1)) (varU m.V 2)], SzU m.V 4 10000 200 p := fun j hj p hp => (hsm (hsD m j) (by simp only [hsK, List.mem_append]; exact .inl (.inl (.inr (List.mem_map.2 ⟨j, List.mem_range.2 hj, rfl⟩))))).2.2 p (by
  show p ∈ [varU m.V (3 + m.code.length + j), Av (conU m.V 1) [subL (varU m.V 1) (conU m.V 1), varU m.V 2]]
  rw [BC hm1]; exact hp)
 have ch := r14sum_ok m hm 3 (-1) (fun x => decide (x.op = 3)) fun y => by rw [decide_eq_true_eq]; exact ⟨fun h => ⟨h, .inl (by omega)⟩, fun h => h.1⟩
 have hqv : ∀ i, i < m.V → SzU m.V 2 2 1 (An (hsQ m.V) (varU m.V i)) := fun i hi => (q.mul (AN (V := m.V) hi)).mono (by omega) (by decide) (by omega)
 have cH : ∀ i, i < m.code.length → PureFn Tryz.prog 60 [aP (mkP m.V (hsQ m.V)), aP (mkP m.V (varU m.V (3 + i)))] (aP (mkP m.V (Af m i))) := fun i hi => by
  have := r2Mul hV q (AN (V := m.V) (i := 3 + i) (by omega)) (by omega) (by omega) (by omega) (by omega) (by omega) (by omega);unfold Af; rw [BC q]; exact this
 have cqo := r2Mul hV q v2 (by omega) (by omega) (by omega) (by omega) (by omega) (by omega);have hqo := hqv 2 (by omega);have h2v : ∀ i, i < m.V → SzU m.V 1 2 1 (An (conU m.V 2) (varU m.V i)) := fun i hi => (k2.mul (AN (V := m.V) hi)).mono (by omega) (by decide) (by omega);have c2r : ∀ i, i < m.V → PureFn Tryz.prog 60 [aP (mkP m.V (conU m.V 2)), aP (mkP m.V (varU m.V i))] (aP (mkP m.V (An (conU m.V 2) (varU m.V i)))) := fun i hi => r2Mul hV k2 (AN (V := m.V) hi) (by omega) (by decide) (by omega) (by omega) (by omega) (by omega);have cJ1 : ∀ i, i < m.V → PureFn Tryz.prog 63 [aP (mkP m.V (An (hsQ m.V) (varU m.V 2))), aP (mkP m.V (An (conU m.V 2) (varU m.V i)))] (aP (mkP m.V (subL (An (hsQ m.V) (varU m.V 2)) (An (conU m.V 2) (varU m.V i))))) := fun i hi => r2Sub hV hqo (h2v i hi) (by omega) (by omega) (by omega) (by omega) (by omega) (by omega)
 have cJ2 : ∀ y : IZ, y.nx.toNat < m.l → y.rg.toNat < m.R → PureFn Tryz.prog 62 [aP (mkP m.V (varU m.V (3 + y.nx.toNat))), aP (mkP m.V (subL (An (hsQ m.V) (varU m.V 2)) (An (conU m.V 2) (varU m.V (3 + m.code.length + y.rg.toNat)))))] (aP (mkP m.V (Cs m y))) := fun y h1 h2 => by
  rw [jmp_ref hm h1 h2, ← eq];exact r2Add hV (AN (V := m.V) (i := 3 + y.nx.toNat) (by omega)) (hqo.sub (h2v (3 + m.code.length + y.rg.toNat) (by omega))) (by omega) (by omega) (by omega) (by omega) (by omega) (by omega)
 have cN : ∀ a b, a < m.V → b < m.V → PureFn Tryz.prog 62 [aP (mkP m.V (varU m.V a)), aP (mkP m.V (varU m.V b))] (aP (mkP m.V (Al [] [varU m.V a, varU m.V b]))) := fun a b ha hb => by
  rw [CC (AN (V := m.V) ha) (AN (V := m.V) hb)];exact r2Add hV (AN (V := m.V) ha) (AN (V := m.V) hb) (by omega) (by omega) (by omega) (by omega) (by omega) (by omega)
 have smG : ∀ i, i < m.code.length → ∀ s ∈ hsGo m i (m.at i), ∀ p ∈ s.2, SzU m.V 4 10000 200 p := fun i hi s hs p hp => (hsm s (by simp only [hsK, List.mem_append]; exact .inl (.inr (List.mem_flatMap.2 ⟨i, List.mem_range.2 hi, hs⟩)))).2.2 p hp;have smF : ∀ j, j < m.R → ∀ p ∈ (hsF m x j).2, SzU m.V 4 10000 200 p := fun j hj p hp => (hsm (hsF m x j) (by simp only [hsK, List.mem_append]; exact .inr (List.mem_map.2 ⟨j, List.mem_range.2 hj, rfl⟩))).2.2 p hp;have cL1 : ∀ j, j < m.R → PureFn Tryz.prog 60 [aP (mkP m.V (varU m.V (3 + m.code.length + m.R + j))), aP (mkP m.V (Bi m.V))] (aP (mkP m.V (An (varU m.V (3 + m.code.length + m.R + j)) (Bi m.V)))) := fun j hj => r2Mul hV (AN (V := m.V) (by omega)) al (by omega) (by omega) (by omega) (by omega) (by omega) (by omega)
 have cL2 : ∀ j, j < m.R → PureFn Tryz.prog 62 [aP (mkP m.V (varU m.V (3 + m.code.length + j))), aP (mkP m.V (An (varU m.V (3 + m.code.length + m.R + j)) (Bi m.V)))] (aP (mkP m.V (hsL m j))) := fun j hj => by
  have va := AN (V := m.V) (i := 3 + m.code.length + j) (by omega);have vb := AN (V := m.V) (i := 3 + m.code.length + m.R + j) (by omega)
  have e : hsL m j = addL (varU m.V (3 + m.code.length + j)) (An (varU m.V (3 + m.code.length + m.R + j)) (Bi m.V)) := by
   show Al [] [varU m.V (3 + m.code.length + j), Av (conU m.V 1) [varU m.V (3 + m.code.length + m.R + j), Bi m.V]] = _;rw [BC vb, CC va (vb.mul al)]
  rw [e];exact r2Add hV va (vb.mul al) (by omega) (by omega) (by omega) (by omega) (by omega) (by omega)
 have hsu := fun c => DG hm c
 have cu0 : ∀ j : Nat, PureFn Tryz.prog 66 [aMz m, aN 0, aN j] (aP (mkP m.V (Ag m.V (fun x => decide (x.op = 0) && decide (x.rg = j)) 0 m.code (conU m.V 0)))) := fun j => r14sum_ok m hm 0 j _ fun y => by simp only [Bool.and_eq_true, decide_eq_true_eq]; omega
 have cu1 : ∀ j : Nat, PureFn Tryz.prog 66 [aMz m, aN 1, aN j] (aP (mkP m.V (Ag m.V (fun x => decide (x.op = 1) && decide (x.rg = j)) 0 m.code (conU m.V 0)))) := fun j => r14sum_ok m hm 1 j _ fun y => by simp only [Bool.and_eq_true, decide_eq_true_eq]; omega
 have cM1 := fun c c' => r2Sub hV (hsu c) (hsu c') (by omega) (by omega) (by omega) (by omega) (by omega) (by omega);have cM2 := fun (j : Nat) (hj : j < m.R) c c' => r2Add hV (AN (V := m.V) (i := 3 + m.code.length + j) (by omega)) ((hsu c).sub (hsu c')) (by omega) (by omega) (by omega) (by omega) (by omega) (by omega);have cM3 := fun (j : Nat) (hj : j < m.R) c c' => r2Mul hV q ((AN (V := m.V) (i := 3 + m.code.length + j) (by omega)).add ((hsu c).sub (hsu c'))) (by omega) (by omega) (by omega) (by omega) (by omega) (by omega)
 have cM4 : ∀ j : Nat, j < m.R → PureFn Tryz.prog 62 [aP (mkP m.V (conU m.V (x.getD j 0))), aP (mkP m.V (An (hsQ m.V) (addL (varU m.V (3 + m.code.length + j)) (subL (Ag m.V (fun x => decide (x.op = 0) && decide (x.rg = j)) 0 m.code (conU m.V 0)) (Ag m.V (fun x => decide (x.op = 1) && decide (x.rg = j)) 0 m.code (conU m.V 0))))))] (aP (mkP m.V (subL (hsR0 m x j) (BA m 1 j)))) := fun j hj => by
  rw [right_ref hm hx hj, ← eq];have hb := getD_in hx j;exact r2Add hV (SzU.con m.V (x.getD j 0)) (q.mul ((AN (V := m.V) (i := 3 + m.code.length + j) (by omega)).add ((hsu _).sub (hsu _)))) (by omega) (by omega) (by omega) (by omega) (by omega) (by omega)
 have cM5 : ∀ j : Nat, j < m.R → PureFn Tryz.prog 63 [aP (mkP m.V (hsL m j)), aP (mkP m.V (subL (hsR0 m x j) (BA m 1 j)))] (aP (mkP m.V (subL (hsL m j) (subL (hsR0 m x j) (BA m 1 j))))) := fun j hj => r2Sub hV (sz_L hm hj).1 ((sz_R0 hm hx hj).1.sub (sz_does hm 1 j)) (by omega) (by omega) (by omega) (by omega) (by omega) (by omega);have gl := go_len (m := m);clear smA;clear eq eal esa es1;refine AE ?_;(repeat' (first |apply qn |apply qr |refine qe ?_|fail));refine ⟨AE ?_⟩;(repeat' (first |refine qv ?_ |apply qr));refine qc (cv) ?_;(repeat' (first |refine qv ?_ |apply qn |refine qe ?_|fail));refine ⟨AE ?_⟩;refine Ab (BT 25 1 825 rfl rfl rfl 3 eL 99) ?_;(repeat' (first |refine qv ?_ |apply qn |apply qr));refine ⟨AE ?_⟩;(repeat' (first |refine qv ?_ |apply qr));refine qR [(900, 25), (901, 825)] (Bg m.V _ (0) (by omega) hV) ?_;(repeat' (first |refine qv ?_|fail));refine qR [(900, 25), (901, 825)] (Bg m.V _ (1) (by omega) hV) ?_;(repeat' (first |refine qv ?_|fail));refine qR [(900, 25), (901, 825)] (Bg m.V _ (2) (by omega) hV) ?_;(repeat' (first |apply qn |refine qe ?_|fail));refine ⟨AE ?_⟩;(repeat' (first |refine qv ?_ |apply qr));refine qR [(900, 25), (901, 825)] (C5 m.V _ (2) (by decide) hV) ?_;(repeat' (first |refine qv ?_|fail));refine qc (cq) ?_;(repeat' (first |refine Fl.nil (fun _ => by kernel_rfl) ?_ |refine qe ?_|fail));refine ⟨AE ?_⟩;(repeat' (first |refine qv ?_ |apply qr));refine qR [(900, 25), (901, 825)] (C5 m.V _ (1) (by decide) hV) ?_;(repeat' (first |refine qv ?_|fail));refine qR [(900, 25), (901, 825)] (C5 m.V _ (1) (by decide) hV) ?_;refine qc (cqm) ?_;(repeat' (first |refine qv ?_|fail));refine qc (cqi) ?_;refine qc (cal) ?_;(repeat' (first |refine Fl.nil (fun _ => by kernel_rfl) ?_ |refine qe ?_|fail));refine ⟨AE ?_⟩;(repeat' (first |refine qv ?_ |apply qr));refine qR [(900, 25), (901, 825)] (C5 m.V _ (2) (by decide) hV) ?_;(repeat' (first |refine qv ?_|fail));refine qc (cs) ?_;refine qR [(900, 25), (901, 825)] (C5 m.V _ (addZ m x) (by omega) hV) ?_;refine qc (csa) ?_;(repeat' (first |refine qv ?_|fail));refine ql eP [mkP m.V (conU m.V 2), mkP m.V (Al [] [varU m.V 0, conU m.V (addZ m x)]), mkP m.V (varU m.V 1)] ?_;refine CB rfl [(900, 25), (901, 825), (902, 60)] (Bf m.V _ (by simp) 2 [conU m.V 2, Al [] [varU m.V 0, conU m.V (addZ m x)], varU m.V 1] hV (by simp) z1) rfl rfl (AB _) rfl ⟨⟨⟨_, rfl, BLe.cells (AB _)⟩, rfl⟩, ⟨⟨_, rfl, BLe.row rfl⟩, rfl⟩, trivial⟩ rfl rfl rfl rfl rfl ?_;(repeat' (first |refine Fl.nil (fun _ => by kernel_rfl) ?_|fail));refine ⟨AE ?_⟩;(repeat' (first |refine qv ?_ |apply qr));refine qR [(900, 25), (901, 60)] (C5 m.V _ (1) (by decide) hV) ?_;refine qc (cs1) ?_;(repeat' (first |refine qv ?_|fail));refine ql eP [mkP m.V (hsQ m.V), mkP m.V (Al [] [varU m.V 0, conU m.V 1]), mkP m.V (Bi m.V)] ?_;refine CB rfl [(900, 25), (901, 60), (902, 69)] (Bf m.V _ (by simp) 2 [hsQ m.V, Al [] [varU m.V 0, conU m.V 1], Bi m.V] hV (by simp) z2) rfl rfl (AB _) rfl ⟨⟨⟨_, rfl, BLe.cells (AB _)⟩, rfl⟩, ⟨⟨_, rfl, BLe.row rfl⟩, rfl⟩, trivial⟩ rfl rfl rfl rfl rfl ?_;(repeat' (first |refine Fl.nil (fun _ => by kernel_rfl) ?_|fail));refine ⟨AE ?_⟩;(repeat' (first |refine qv ?_ |apply qn |apply qr |refine qe ?_|fail));refine ⟨AE ?_⟩;(repeat' (first |refine qv ?_ |apply qn |apply qs |apply qr |apply qb));obtain ⟨L1, eL1⟩ : ∃ L1, L1 = [] ++ [A7 m.V 2 [conU m.V 2, Al [] [varU m.V 0, conU m.V (addZ m x)], varU m.V 1]] ++ [A7 m.V 2 [hsQ m.V, Al [] [varU m.V 0, conU m.V 1], Bi m.V]] := ⟨_, rfl⟩
 have hL1 : L1.length = 2 := by rw [eL1]; rfl
 rw [← eL1];refine AWP.loop (G := Nat × List UT) (fun (i, out) => i ≤ m.code.length ∧ SzU m.V 1 i (1 + i) out ∧ Ag m.V (fun _ => true) i (m.code.drop i) out = Ag m.V (fun _ => true) 0 m.code (conU m.V 0)) (fun (i, out) => AO [] (r14E m x ++ [(12, .ptr 12 0), (13, aN i)]) (r14B m (L1) ++ [(12, .cells (eP (mkP m.V out)) 105)])) (fun (i, _) => m.code.length - i) (0, conU m.V 0) ⟨by omega, (SzU.con m.V 0).mono (by omega) (by decide) (by omega), rfl⟩ ?_ ?_
 ·refine Ent.of [(801, 69)] ?_ ?_ rfl rfl;(repeat' (first |exact True.intro |refine ⟨⟨AA _, rfl⟩, ?_⟩ |refine ⟨⟨⟨_, rfl, BLe.cells (AB _)⟩, rfl⟩, ?_⟩ |refine ⟨⟨⟨_, rfl, BLe.row rfl⟩, rfl⟩, ?_⟩ |refine ⟨⟨⟨_, rfl, BLe.cells ?_⟩, rfl⟩, ?_⟩|fail))
  all_goals exact LeL.cons (AA _) (LeL.cons (AV.Le.nil 3 eT) LeL.nil)
 ·intro ⟨i, out⟩ ⟨j0, j1, j2⟩;refine AE ?_;(repeat' (first |refine qv ?_ |apply qn |apply qs |apply qr |(refine AD rfl ?_ ?_ <;> intro _ <;> try (exfalso; omega)) |apply qk |apply qx))
  ·rename_i hi;obtain ⟨y, hy⟩ : ∃ y, m.code[i]? = some y := ⟨_, List.getElem?_eq_getElem (by omega)⟩;have vi := AN (V := m.V) (i := 3 + i) (by omega);rw [Ee hy, if_pos rfl, CC j1 vi] at j2;have ca := r2Add hV j1 vi (by omega) (by omega) (by omega) (by omega) (by omega) (by omega);refine ⟨?_⟩;(repeat' (first |refine qv ?_ |apply qs |apply qr |refine qw ?_ |apply qb));refine qR [(900, 25), (901, 801)] (Bg m.V _ (3 + i) (by omega) hV) ?_;refine qc (ca) ?_;(repeat' (first |refine qv ?_ |apply qn |refine Fl.nil (fun _ => by kernel_rfl) ?_ |apply qr |refine qw ?_ |refine qe ?_|fail));refine LoopEnd.of (i + 1, addL out (varU m.V (3 + i))) ⟨by omega, (j1.add vi).mono (by omega) (by omega) (by omega), j2⟩ (by simp only; omega) ?_;refine Ent.of [] ?_ ?_ rfl rfl;(repeat' (first |exact True.intro |refine ⟨⟨AA _, rfl⟩, ?_⟩ |refine ⟨⟨⟨_, rfl, BLe.cells (AB _)⟩, rfl⟩, ?_⟩ |refine ⟨⟨⟨_, rfl, BLe.row rfl⟩, rfl⟩, ?_⟩|fail))
  ·rename_i hi;rw [List.drop_of_length_le (by omega)] at j2;have j3 : out = Ag m.V (fun _ => true) 0 m.code (conU m.V 0) := j2
   have hil : i = m.code.length := by omega
   subst hil;have cu := r2Sub hV v2 j1 (by omega) (by omega) (by omega) (by omega) (by omega) (by omega);clear j2;subst j3;refine ⟨AE ?_⟩;(repeat' (first |refine qv ?_ |apply qr));refine qc (cu) ?_;refine ql eP [mkP m.V (subL (varU m.V 2) (Ag m.V (fun _ => true) 0 m.code (conU m.V 0)))] ?_;refine CB rfl [(900, 25), (901, 801), (902, 91)] (Bf m.V L1 (by omega) 0 [subL (varU m.V 2) (Ag m.V (fun _ => true) 0 m.code (conU m.V 0))] hV (by simp) z3) rfl rfl (AB _) rfl ⟨⟨⟨_, rfl, BLe.cells (AB _)⟩, rfl⟩, ⟨⟨_, rfl, BLe.row rfl⟩, rfl⟩, trivial⟩ rfl rfl rfl rfl rfl ?_;(repeat' (first |apply qn));refine ⟨AE ?_⟩;(repeat' (first |refine qv ?_ |apply qn |apply qs |apply qr |apply qb));obtain ⟨L2, eL2⟩ : ∃ L2, L2 = L1 ++ [A7 m.V 0 [subL (varU m.V 2) (Ag m.V (fun _ => true) 0 m.code (conU m.V 0))]] := ⟨_, rfl⟩
   have hL2 : L2.length = 3 := by rw [eL2, List.length_append, hL1]; rfl
   rw [← eL2];refine AWP.loop (G := Nat) (fun i => i ≤ m.code.length) (fun i => AO [] (r14E m x ++ [(14, aN i)]) (r14B m (L2 ++ (List.range i).map (fun k => lkZ m (hsB m k))))) (fun i => m.code.length - i) 0 (by omega) ?_ ?_
   ·refine Ent.of [(801, 91)] ?_ ?_ rfl rfl;(repeat' (first |exact True.intro |refine ⟨⟨AA _, rfl⟩, ?_⟩ |refine ⟨⟨⟨_, rfl, BLe.cells (AB _)⟩, rfl⟩, ?_⟩ |refine ⟨⟨⟨_, rfl, BLe.row ?_⟩, rfl⟩, ?_⟩|fail));simp
   ·intro i j0;refine AE ?_;(repeat' (first |refine qv ?_ |apply qn |apply qs |apply qr |(refine AD rfl ?_ ?_ <;> intro _ <;> try (exfalso; omega)) |apply qk |apply qx))
    ·rename_i hi;refine ⟨?_⟩;(repeat' (first |refine qv ?_ |apply qs |apply qr |refine qw ?_ |apply qb));refine qR [(900, 25), (901, 801)] (Bg m.V _ (3 + i) (by omega) hV) ?_;(repeat' (first |refine qv ?_|fail));refine ql eP [mkP m.V (varU m.V (3 + i)), mkP m.V (varU m.V 2)] ?_;refine CB rfl [(900, 25), (901, 801), (902, 104)] (Bf m.V _ (by simp; omega) 3 [varU m.V (3 + i), varU m.V 2] hV (by simp) (smB i (by omega))) rfl rfl (AB _) rfl ⟨⟨⟨_, rfl, BLe.cells (AB _)⟩, rfl⟩, ⟨⟨_, rfl, BLe.row rfl⟩, rfl⟩, trivial⟩ rfl rfl rfl rfl rfl ?_;(repeat' (first |refine qv ?_ |apply qn |refine Fl.nil (fun _ => by kernel_rfl) ?_ |apply qr |refine qw ?_|fail));refine LoopEnd.of (i + 1) (by omega) (by omega) ?_;refine Ent.of [(801, 104)] ?_ ?_ rfl rfl;(repeat' (first |exact True.intro |refine ⟨⟨AA _, rfl⟩, ?_⟩ |refine ⟨⟨⟨_, rfl, BLe.cells (AB _)⟩, rfl⟩, ?_⟩ |refine ⟨⟨⟨_, rfl, BLe.row ?_⟩, rfl⟩, ?_⟩|fail));rw [Br]; rfl
    ·rename_i hi
     have hil : i = m.code.length := by omega
     subst hil;obtain ⟨L3, eL3⟩ : ∃ L3, L3 = L2 ++ (List.range m.code.length).map (fun k => lkZ m (hsB m k)) := ⟨_, rfl⟩
     have hL3 : L3.length ≤ 18 := by rw [eL3, List.length_append, hL2]; simp; omega
     rw [← eL3];refine ⟨AE ?_⟩;(repeat' (first |refine qv ?_ |apply qr));refine qR [(900, 25), (901, 801)] (C5 m.V _ (1) (by decide) hV) ?_;(repeat' (first |refine qv ?_|fail));refine qR [(900, 25), (901, 801)] (Bg m.V _ (3) (by omega) hV) ?_;refine ql eP [mkP m.V (conU m.V 1), mkP m.V (varU m.V 3)] ?_;refine qG [(900, 25), (901, 801), (902, 111)] (Bf m.V L3 (by omega) 3 [conU m.V 1, varU m.V 3] hV (by simp) z4) ?_;(repeat' (first |apply qn));refine ⟨AE ?_⟩;(repeat' (first |refine qv ?_ |apply qr));refine qc (ch) ?_;refine ql eP [mkP m.V (hsQ m.V), mkP m.V (varU m.V 0), mkP m.V (Ag m.V (fun x => decide (x.op = 3)) 0 m.code (conU m.V 0))] ?_;refine CB rfl [(900, 25), (901, 111), (902, 118)] (Bf m.V _ (by simp; omega) 2 [hsQ m.V, varU m.V 0, Ag m.V (fun x => decide (x.op = 3)) 0 m.code (conU m.V 0)] hV (by simp) z5) rfl rfl (AB _) rfl ⟨⟨⟨_, rfl, BLe.cells (AB _)⟩, rfl⟩, ⟨⟨_, rfl, BLe.row rfl⟩, rfl⟩, trivial⟩ rfl rfl rfl rfl rfl ?_;(repeat' (first |refine Fl.nil (fun _ => by kernel_rfl) ?_|fail));obtain ⟨L4, eL4⟩ : ∃ L4, L4 = L3 ++ [A7 m.V 3 [conU m.V 1, varU m.V 3]] ++ [A7 m.V 2 [hsQ m.V, varU m.V 0, Ag m.V (fun x => decide (x.op = 3)) 0 m.code (conU m.V 0)]] := ⟨_, rfl⟩
     have hL4 : L4.length ≤ 20 := by rw [eL4, List.length_append, List.length_append]; simp; omega
     rw [← eL4];refine ⟨AE ?_⟩;(repeat' (first |refine qv ?_ |apply qn |apply qs |apply qr |apply qb));refine AWP.loop (G := Nat) (fun j => j ≤ m.R) (fun j => AO [] (r14E m x ++ [(15, aN j)]) (r14B m (L4 ++ (List.range j).map (fun k => lkZ m (hsD m k))))) (fun j => m.R - j) 0 (by omega) ?_ ?_
     ·refine Ent.of [(801, 118)] ?_ ?_ rfl rfl;(repeat' (first |exact True.intro |refine ⟨⟨AA _, rfl⟩, ?_⟩ |refine ⟨⟨⟨_, rfl, BLe.cells (AB _)⟩, rfl⟩, ?_⟩ |refine ⟨⟨⟨_, rfl, BLe.row ?_⟩, rfl⟩, ?_⟩|fail));simp
     ·intro j j0;refine AE ?_;(repeat' (first |refine qv ?_ |apply qn |apply qs |apply qr |(refine AD rfl ?_ ?_ <;> intro _ <;> try (exfalso; omega)) |apply qk |apply qx))
      ·rename_i hj;refine ⟨?_⟩;(repeat' (first |refine qv ?_ |apply qs |apply qr |refine qw ?_ |apply qb));refine qR [(900, 25), (901, 801)] (Bg m.V _ (3 + m.code.length + j) (by omega) hV) ?_;(repeat' (first |refine qv ?_|fail));refine qR [(900, 25), (901, 801)] (C5 m.V _ (1) (by decide) hV) ?_;refine qc (chm) ?_;(repeat' (first |refine qv ?_|fail));refine qc (chi) ?_;refine ql eP [mkP m.V (varU m.V (3 + m.code.length + j)), mkP m.V (An (subL (varU m.V 1) (conU m.V 1)) (varU m.V 2))] ?_;refine CB rfl [(900, 25), (901, 801), (902, 139)] (Bf m.V _ (by simp; omega) 3 [varU m.V (3 + m.code.length + j), An (subL (varU m.V 1) (conU m.V 1)) (varU m.V 2)] hV (by simp) (smD j (by omega))) rfl rfl (AB _) rfl ⟨⟨⟨_, rfl, BLe.cells (AB _)⟩, rfl⟩, ⟨⟨_, rfl, BLe.row rfl⟩, rfl⟩, trivial⟩ rfl rfl rfl rfl rfl ?_;(repeat' (first |refine qv ?_ |apply qn |refine Fl.nil (fun _ => by kernel_rfl) ?_ |apply qr |refine qw ?_|fail));refine LoopEnd.of (j + 1) (by omega) (by omega) ?_;refine Ent.of [(801, 139)] ?_ ?_ rfl rfl;(repeat' (first |exact True.intro |refine ⟨⟨AA _, rfl⟩, ?_⟩ |refine ⟨⟨⟨_, rfl, BLe.cells (AB _)⟩, rfl⟩, ?_⟩ |refine ⟨⟨⟨_, rfl, BLe.row ?_⟩, rfl⟩, ?_⟩|fail));rw [Br, eD]
      ·rename_i hj
       have hjl : j = m.R := by omega
       subst hjl;obtain ⟨L5, eL5⟩ : ∃ L5, L5 = L4 ++ (List.range m.R).map (fun k => lkZ m (hsD m k)) := ⟨_, rfl⟩
       have hL5 : L5.length ≤ 24 := by rw [eL5, List.length_append]; simp; omega
       rw [← eL5];refine ⟨AE ?_⟩;(repeat' (first |refine qv ?_ |apply qn |apply qs |apply qr |apply qb));refine AWP.loop (G := Nat) (fun i => i ≤ m.code.length) (fun i => AO [] (r14E m x ++ [(16, aN i)]) (r14B m (L5 ++ (List.range i).flatMap (fun k => (hsGo m k (m.at k)).map (lkZ m))))) (fun i => m.code.length - i) 0 (by omega) ?_ ?_
       ·refine Ent.of [] ?_ ?_ rfl rfl;(repeat' (first |exact True.intro |refine ⟨⟨AA _, rfl⟩, ?_⟩ |refine ⟨⟨⟨_, rfl, BLe.cells (AB _)⟩, rfl⟩, ?_⟩ |refine ⟨⟨⟨_, rfl, BLe.row ?_⟩, rfl⟩, ?_⟩|fail));simp
       ·intro i j0;have hgi := gl i;refine AE ?_;(repeat' (first |refine qv ?_ |apply qn |apply qs |apply qr |(refine AD rfl ?_ ?_ <;> intro _ <;> try (exfalso; omega)) |apply qk |apply qx))
        ·rename_i hi;obtain ⟨y, hy⟩ : ∃ y, m.code[i]? = some y := ⟨_, List.getElem?_eq_getElem (by omega)⟩;have hat := MZ.at_get hy
         have hy' : m.code[Int.toNat (i : Int)]? = some y := by rw [Int.toNat_natCast]; exact hy
         have hins := hm.ins i (by omega);have hG := smG i (by omega);rw [hat, okIns_iff] at hins;rw [hat] at hG;have cHi := cH i (by omega);refine ⟨AWP.seq (AWP.block (AE ?_))⟩;(repeat' (first |refine qv ?_ |apply qn |apply qr |refine qe ?_ |refine qK ?_|fail));refine ⟨AE ?_⟩;(repeat' (first |refine qv ?_ |apply qn |apply qs |apply qr |refine qw ?_ |(refine AD rfl ?_ ?_ <;> intro _ <;> try (exfalso; omega)) |apply qk |apply qx))
         ·rename_i h3
          have e : hsGo m i y = [] := by unfold hsGo; rw [if_pos h3]
          refine LoopEnd.of (i + 1) (by omega) (by omega) ?_;refine Ent.of [] ?_ ?_ rfl rfl;(repeat' (first |exact True.intro |refine ⟨⟨AA _, rfl⟩, ?_⟩ |refine ⟨⟨⟨_, rfl, BLe.cells (AB _)⟩, rfl⟩, ?_⟩ |refine ⟨⟨⟨_, rfl, BLe.row ?_⟩, rfl⟩, ?_⟩|fail));rw [go_succ, hat, e]; simp
         ·rename_i h3;refine ⟨AE ?_⟩;(repeat' (first |refine qv ?_ |apply qr |refine qw ?_|fail));refine Fl.ioR rfl [(900, 25), (901, 801)] (Bg m.V _ (3 + y.nx.toNat) (by omega) hV) rfl rfl (LeL.cons (AA _) (LeL.cons (AV.Le.int (by omega)) LeL.nil)) rfl ⟨⟨⟨_, rfl, BLe.cells (AB _)⟩, rfl⟩, ⟨⟨_, rfl, BLe.row rfl⟩, rfl⟩, trivial⟩ ⟨rfl, rfl, trivial⟩ rfl rfl rfl rfl ?_;(repeat' (first |apply qn |refine qe ?_|fail));refine ⟨AE ?_⟩;(repeat' (first |refine qv ?_ |apply qn |apply qs |apply qr |refine qw ?_ |refine Fl.skip rfl rfl ?_ |refine AM rfl ?_ |(refine AD rfl ?_ ?_ <;> intro _ <;> try (exfalso; omega)) |apply qk |(refine Ay rfl rfl ?_ ?_ <;> intro _ <;> try (exfalso; omega))))
          ·rename_i h2
           have e : hsGo m i y = [(3, [Af m i, varU m.V (3 + y.nx.toNat)])] := by unfold hsGo; rw [if_neg h3, if_neg (by omega)]
           rw [e] at hG;have hG1 : ∀ p ∈ [Af m i, varU m.V (3 + y.nx.toNat)], SzU m.V 4 10000 200 p := hG (3, [Af m i, varU m.V (3 + y.nx.toNat)]) (by simp);clear e hG;refine qR [(900, 25), (901, 801)] (Bg m.V _ (3 + i) (by omega) hV) ?_;refine qc (cHi) ?_;(repeat' (first |refine qv ?_|fail));refine ql eP [mkP m.V (Af m i), mkP m.V (varU m.V (3 + y.nx.toNat))] ?_;refine CB rfl [(900, 25), (901, 801), (902, 177)] (Bf m.V _ (by rw [List.length_append]; omega) 3 [Af m i, varU m.V (3 + y.nx.toNat)] hV (by simp) hG1) rfl rfl (AB _) rfl ⟨⟨⟨_, rfl, BLe.cells (AB _)⟩, rfl⟩, ⟨⟨_, rfl, BLe.row rfl⟩, rfl⟩, trivial⟩ rfl rfl rfl rfl rfl ?_;(repeat' (first |refine qv ?_ |apply qn |refine Fl.nil (fun _ => by kernel_rfl) ?_ |apply qr |refine qw ?_ |apply qx));refine LoopEnd.of (i + 1) (by omega) (by omega) ?_;refine Ent.of [(801, 177)] ?_ ?_ rfl rfl;(repeat' (first |exact True.intro |refine ⟨⟨AA _, rfl⟩, ?_⟩ |refine ⟨⟨⟨_, rfl, BLe.cells (AB _)⟩, rfl⟩, ?_⟩ |refine ⟨⟨⟨_, rfl, BLe.row ?_⟩, rfl⟩, ?_⟩|fail));rw [go_succ, hat, show hsGo m i y = [(3, [Af m i, varU m.V (3 + y.nx.toNat)])] by unfold hsGo; rw [if_neg h3, if_neg (by omega)]];rfl
          ·rename_i h2 hz
           have e : hsGo m i y = [(3, [Af m i, varU m.V (3 + y.nx.toNat)])] := by unfold hsGo; rw [if_neg h3, if_neg (by omega)]
           rw [e] at hG;have hG1 : ∀ p ∈ [Af m i, varU m.V (3 + y.nx.toNat)], SzU m.V 4 10000 200 p := hG (3, [Af m i, varU m.V (3 + y.nx.toNat)]) (by simp);clear e hG;refine qR [(900, 25), (901, 801)] (Bg m.V _ (3 + i) (by omega) hV) ?_;refine qc (cHi) ?_;(repeat' (first |refine qv ?_|fail));refine ql eP [mkP m.V (Af m i), mkP m.V (varU m.V (3 + y.nx.toNat))] ?_;refine CB rfl [(900, 25), (901, 801), (902, 177)] (Bf m.V _ (by rw [List.length_append]; omega) 3 [Af m i, varU m.V (3 + y.nx.toNat)] hV (by simp) hG1) rfl rfl (AB _) rfl ⟨⟨⟨_, rfl, BLe.cells (AB _)⟩, rfl⟩, ⟨⟨_, rfl, BLe.row rfl⟩, rfl⟩, trivial⟩ rfl rfl rfl rfl rfl ?_;(repeat' (first |refine qv ?_ |apply qn |refine Fl.nil (fun _ => by kernel_rfl) ?_ |apply qr |refine qw ?_ |apply qx));refine LoopEnd.of (i + 1) (by omega) (by omega) ?_;refine Ent.of [(801, 177)] ?_ ?_ rfl rfl;(repeat' (first |exact True.intro |refine ⟨⟨AA _, rfl⟩, ?_⟩ |refine ⟨⟨⟨_, rfl, BLe.cells (AB _)⟩, rfl⟩, ?_⟩ |refine ⟨⟨⟨_, rfl, BLe.row ?_⟩, rfl⟩, ?_⟩|fail));rw [go_succ, hat, show hsGo m i y = [(3, [Af m i, varU m.V (3 + y.nx.toNat)])] by unfold hsGo; rw [if_neg h3, if_neg (by omega)]];rfl
          ·rename_i h2 hz
           have e : hsGo m i y = [(3, [Af m i, Al [] [varU m.V (3 + y.nx.toNat), varU m.V (3 + y.zr.toNat)]]), (3, [Af m i, Cs m y])] := by unfold hsGo; rw [if_neg h3, if_pos (by omega)]
           rw [e] at hG;have hG1 : ∀ p ∈ [Af m i, Al [] [varU m.V (3 + y.nx.toNat), varU m.V (3 + y.zr.toNat)]], SzU m.V 4 10000 200 p := hG (3, [Af m i, Al [] [varU m.V (3 + y.nx.toNat), varU m.V (3 + y.zr.toNat)]]) (by simp);have hG2 : ∀ p ∈ [Af m i, Cs m y], SzU m.V 4 10000 200 p := hG (3, [Af m i, Cs m y]) (by simp);clear e hG
           have hb : y.nx.toNat < m.l ∧ y.rg.toNat < m.R ∧ y.zr.toNat < m.l := by omega
           have cJ2y := cJ2 y hb.1 hb.2.1;have cJ1y := cJ1 (3 + m.code.length + y.rg.toNat) (by omega);have c2ry := c2r (3 + m.code.length + y.rg.toNat) (by omega);have cNy := cN (3 + y.nx.toNat) (3 + y.zr.toNat) (by omega) (by omega);refine ⟨AE ?_⟩;(repeat' (first |refine qv ?_ |apply qr |refine qw ?_|fail));refine qR [(900, 25), (901, 801)] (Bg m.V _ (3 + i) (by omega) hV) ?_;refine qc (cHi) ?_;(repeat' (first |refine qv ?_ |refine qw ?_|fail));refine Fl.ioR rfl [(900, 25), (901, 801)] (Bg m.V _ (3 + y.zr.toNat) (by omega) hV) rfl rfl (LeL.cons (AA _) (LeL.cons (AV.Le.int (by omega)) LeL.nil)) rfl ⟨⟨⟨_, rfl, BLe.cells (AB _)⟩, rfl⟩, ⟨⟨_, rfl, BLe.row rfl⟩, rfl⟩, trivial⟩ ⟨rfl, rfl, trivial⟩ rfl rfl rfl rfl ?_;refine qc (cNy) ?_;refine ql eP [mkP m.V (Af m i), mkP m.V (Al [] [varU m.V (3 + y.nx.toNat), varU m.V (3 + y.zr.toNat)])] ?_;refine CB rfl [(900, 25), (901, 801), (902, 193)] (Bf m.V _ (by rw [List.length_append]; omega) 3 [Af m i, Al [] [varU m.V (3 + y.nx.toNat), varU m.V (3 + y.zr.toNat)]] hV (by simp) hG1) rfl rfl (AB _) rfl ⟨⟨⟨_, rfl, BLe.cells (AB _)⟩, rfl⟩, ⟨⟨_, rfl, BLe.row rfl⟩, rfl⟩, trivial⟩ rfl rfl rfl rfl rfl ?_;(repeat' (first |refine Fl.nil (fun _ => by kernel_rfl) ?_|fail));refine ⟨?_⟩;(repeat' (first |refine qv ?_ |apply qr |refine qw ?_|fail));refine qR [(900, 25), (901, 193)] (Bg m.V _ (3 + i) (by omega) hV) ?_;refine qc (cHi) ?_;(repeat' (first |refine qv ?_|fail));refine qc (cqo) ?_;(repeat' (first |refine qv ?_|fail));refine qR [(900, 25), (901, 193)] (C5 m.V _ (2) (by decide) hV) ?_;(repeat' (first |refine qv ?_ |refine qw ?_|fail));refine Fl.ioR rfl [(900, 25), (901, 193)] (Bg m.V _ (3 + m.code.length + y.rg.toNat) (by omega) hV) rfl rfl (LeL.cons (AA _) (LeL.cons (AV.Le.int (by omega)) LeL.nil)) rfl ⟨⟨⟨_, rfl, BLe.cells (AB _)⟩, rfl⟩, ⟨⟨_, rfl, BLe.row rfl⟩, rfl⟩, trivial⟩ ⟨rfl, rfl, trivial⟩ rfl rfl rfl rfl ?_;refine qc (c2ry) ?_;refine qc (cJ1y) ?_;refine qc (cJ2y) ?_;refine ql eP [mkP m.V (Af m i), mkP m.V (Cs m y)] ?_;refine CB rfl [(900, 25), (901, 193), (902, 218)] (Bf m.V _ (by rw [List.length_append, List.length_append]; simp only [List.length_cons, List.length_nil]; omega) 3 [Af m i, Cs m y] hV (by simp) hG2) rfl rfl (AB _) rfl ⟨⟨⟨_, rfl, BLe.cells (AB _)⟩, rfl⟩, ⟨⟨_, rfl, BLe.row rfl⟩, rfl⟩, trivial⟩ rfl rfl rfl rfl rfl ?_;(repeat' (first |refine qv ?_ |apply qn |refine Fl.nil (fun _ => by kernel_rfl) ?_ |apply qr |refine qw ?_|fail));refine LoopEnd.of (i + 1) (by omega) (by omega) ?_;refine Ent.of [(801, 218)] ?_ ?_ rfl rfl;(repeat' (first |exact True.intro |refine ⟨⟨AA _, rfl⟩, ?_⟩ |refine ⟨⟨⟨_, rfl, BLe.cells (AB _)⟩, rfl⟩, ?_⟩ |refine ⟨⟨⟨_, rfl, BLe.row ?_⟩, rfl⟩, ?_⟩|fail));rw [go_succ, hat, show hsGo m i y = [(3, [Af m i, Al [] [varU m.V (3 + y.nx.toNat), varU m.V (3 + y.zr.toNat)]]), (3, [Af m i, Cs m y])] by unfold hsGo; rw [if_neg h3, if_pos (by omega)]];simp [lkZ]
        ·rename_i hi
         have hil : i = m.code.length := by omega
         subst hil;obtain ⟨L6, eL6⟩ : ∃ L6, L6 = L5 ++ (List.range m.code.length).flatMap (fun k => (hsGo m k (m.at k)).map (lkZ m)) := ⟨_, rfl⟩
         have hL6 : L6.length ≤ 54 := by rw [eL6, List.length_append]; omega
         rw [← eL6];refine ⟨AE ?_⟩;(repeat' (first |refine qv ?_ |apply qn |apply qs |apply qr |apply qb));refine AWP.loop (G := Nat) (fun j => j ≤ m.R) (fun j => AO [] (r14E m x ++ [(19, aN j)]) (r14B m (L6 ++ (List.range j).map (fun k => lkZ m (hsF m x k))))) (fun j => m.R - j) 0 (by omega) ?_ ?_
         ·refine Ent.of [] ?_ ?_ rfl rfl;(repeat' (first |exact True.intro |refine ⟨⟨AA _, rfl⟩, ?_⟩ |refine ⟨⟨⟨_, rfl, BLe.cells (AB _)⟩, rfl⟩, ?_⟩ |refine ⟨⟨⟨_, rfl, BLe.row ?_⟩, rfl⟩, ?_⟩|fail));simp
         ·intro j j0;refine AE ?_;(repeat' (first |refine qv ?_ |apply qn |apply qs |apply qr |(refine AD rfl ?_ ?_ <;> intro _ <;> try (exfalso; omega)) |apply qk |apply qx))
          ·rename_i hj
           have hjR : j < m.R := by omega
           obtain ⟨v, hv⟩ : ∃ v, x[j]? = some v := ⟨_, List.getElem?_eq_getElem (by omega)⟩
           have hv' : x[Int.toNat (j : Int)]? = some v := by rw [Int.toNat_natCast]; exact hv
           have hvb := hx.2 v (List.mem_of_getElem? hv);have cM4j := cM4 j hjR;rw [show x.getD j 0 = v by rw [List.getD_eq_getElem?_getD, hv]; rfl] at cM4j;have hFj := smF j hjR;have hFe : (hsF m x j).2 = [subL (hsL m j) (subL (hsR0 m x j) (BA m 1 j))] := rfl;rw [hFe] at hFj;clear hFe;have c1 := cL1 j hjR;have c2 := cL2 j hjR;have c3 := cu0 j;have c4 := cu1 j;have c5 := cM1 (fun x => decide (x.op = 0) && decide (x.rg = j)) (fun x => decide (x.op = 1) && decide (x.rg = j));have c6 := cM2 j hjR (fun x => decide (x.op = 0) && decide (x.rg = j)) (fun x => decide (x.op = 1) && decide (x.rg = j));have c7 := cM3 j hjR (fun x => decide (x.op = 0) && decide (x.rg = j)) (fun x => decide (x.op = 1) && decide (x.rg = j));have c9 := cM5 j hjR;refine ⟨AWP.seq (AWP.block (AE ?_))⟩;(repeat' (first |refine qv ?_ |apply qr |refine qw ?_|fail));refine qR [(900, 25), (901, 801)] (Bg m.V _ (3 + m.code.length + j) (by omega) hV) ?_;(repeat' (first |refine qv ?_ |refine qw ?_|fail));refine Fl.ioR rfl [(900, 25), (901, 801)] (Bg m.V _ (3 + m.code.length + m.R + j) (by omega) hV) rfl rfl (LeL.cons (AA _) (LeL.cons (AV.Le.int (by omega)) LeL.nil)) rfl ⟨⟨⟨_, rfl, BLe.cells (AB _)⟩, rfl⟩, ⟨⟨_, rfl, BLe.row rfl⟩, rfl⟩, trivial⟩ ⟨rfl, rfl, trivial⟩ rfl rfl rfl rfl ?_;(repeat' (first |refine qv ?_|fail));refine qc (c1) ?_;refine qc (c2) ?_;(repeat' (first |refine Fl.nil (fun _ => by kernel_rfl) ?_ |refine qe ?_|fail));refine ⟨AE ?_⟩;(repeat' (first |refine qv ?_ |apply qr |refine qw ?_|fail));refine qR [(900, 25), (901, 801)] (Bg m.V _ (3 + m.code.length + j) (by omega) hV) ?_;(repeat' (first |refine qv ?_|fail));refine qc (c3) ?_;(repeat' (first |refine qv ?_|fail));refine qc (c4) ?_;refine qc (c5) ?_;refine qc (c6) ?_;(repeat' (first |refine Fl.nil (fun _ => by kernel_rfl) ?_ |refine qe ?_|fail));refine ⟨?_⟩;(repeat' (first |refine qv ?_ |apply qr |refine qK ?_|fail));refine qR [(900, 25), (901, 801)] (C5 m.V _ (v) (by omega) hV) ?_;(repeat' (first |refine qv ?_|fail));refine qc (c7) ?_;refine qc (cM4j) ?_;refine qc (c9) ?_;refine ql eP [mkP m.V (subL (hsL m j) (subL (hsR0 m x j) (BA m 1 j)))] ?_;refine CB rfl [(900, 25), (901, 801), (902, 271)] (Bf m.V _ (by simp; omega) 0 [subL (hsL m j) (subL (hsR0 m x j) (BA m 1 j))] hV (by simp) hFj) rfl rfl (AB _) rfl ⟨⟨⟨_, rfl, BLe.cells (AB _)⟩, rfl⟩, ⟨⟨_, rfl, BLe.row rfl⟩, rfl⟩, trivial⟩ rfl rfl rfl rfl rfl ?_;(repeat' (first |refine qv ?_ |apply qn |refine Fl.nil (fun _ => by kernel_rfl) ?_ |apply qr |refine qw ?_|fail));refine LoopEnd.of (j + 1) (by omega) (by omega) ?_;refine Ent.of [(801, 271)] ?_ ?_ rfl rfl;(repeat' (first |exact True.intro |refine ⟨⟨AA _, rfl⟩, ?_⟩ |refine ⟨⟨⟨_, rfl, BLe.cells (AB _)⟩, rfl⟩, ?_⟩ |refine ⟨⟨⟨_, rfl, BLe.row ?_⟩, rfl⟩, ?_⟩|fail));rw [Br]; rfl
          ·rename_i hj
           have hjl : j = m.R := by omega
           subst hjl;refine ⟨?_⟩;refine Ab (Ent.freeze 801 rfl) ?_;(repeat' (first |refine qv ?_ |refine Fl.nil (fun _ => by kernel_rfl) ?_ |apply qs |apply qr |refine qe ?_ |apply qt));refine RetOk.of rfl (AW ?_);rw [eL6, eL5, eL4, eL3, eL2, eL1];simp only [hsS, hsK, hsA, hsC, List.map_append, List.map_map, List.map_flatMap, lkZ, List.map_cons, List.map_nil, List.nil_append, List.append_assoc, List.cons_append];rfl
end Go.Proofs.YtmmfloplhopioaaGreat
/- history's states, column. -/
namespace Go.AL
def eSt : Int × List Int → List AV := fun c => [aN c.1, aI c.2]
def stF (m : MZ) (x : List Int) (t : Nat) : Int × List Int := (((m.mach.F (inF x) t).1 : Int), rgL m.R (m.mach.F (inF x) t).2)
def stL (m : MZ) (x : List Int) (n : Nat) : List (Int × List Int) := (List.range n).map (stF m x)
theorem stL_len (m : MZ) (x : List Int) (n : Nat) : (stL m x n).length = n := by simp [stL]
theorem stL_succ (m : MZ) (x : List Int) (n : Nat) : stL m x (n + 1) = stL m x n ++ [stF m x n] := by
 unfold stL;rw [List.range_succ, List.map_append]; rfl
theorem stL_get {m : MZ} {x : List Int} {n t : Nat} (h : t < n) : (stL m x n)[t]? = some (stF m x t) := by
 unfold stL;rw [List.getElem?_map, List.getElem?_range h]; rfl
theorem map_take_succ {α : Type} {l : List α} {f : α → Int} {i : Nat} {y : α} (h : l[i]? = some y) : (l.take (i + 1)).map f = (l.take i).map f ++ [f y] := by
 rw [Ac h, List.map_append]; rfl
end Go.AL
namespace Go.Proofs.YtmmfloplhopioaaGreat
open Go.AL
theorem hStates_ok (m : MZ) (hm : OkMZ m) (x : List Int) (hx : OkIn m x) (s : Nat) (hs : s ≤ 1000000) (h1 : ∀ t, t < s → ¬ m.mach.Over (m.mach.F (inF x) t)) : PureFn Tryz.prog 52 [aSz m x, aN s] (.sl 2 eSt (stL m x (s + 1))) := by
 refine AC Tryz.func52 rfl Tryz.ntmps52 rfl rfl ?_;have hst := rgStart_ok m hm x hx;have hlt := Mach.F_lt hm.mach (inF x) h1;have e0 : rgL m.R (m.mach.F (inF x) 0).2 = x := inF_eq hx;(repeat' (first |refine qv ?_ |apply qn |apply qs |apply qr |refine qe ?_|fail));refine qc (hst) ?_;(repeat' (first |refine qv ?_ |apply qn |apply qs |apply qr |refine qe ?_|fail));refine Fl.litrow rfl rfl rfl rfl rfl rfl rfl eSt [(0, x)] rfl rfl rfl rfl (by intro _ _; rfl) (AB _) ?_;(repeat' (first |refine qv ?_ |apply qn |apply qs |apply qr |apply qb));refine AWP.loop (G := Nat) (fun i => i ≤ s) (fun i => AO [] [(2, .ptr 2 0), (5, .ptr 5 0), (7, .row 7), (18, aN s), (19, aN i)] [(2, .cells [aN m.regs, .sl 4 eIz m.code, aI x, aN m.V, aN (addZ m x)] 82), (5, .cells (eSt (stF m x i)) 71), (7, .row 2 eSt (stL m x (i + 1)) 71)]) (fun i => s - i) 0 (by omega) ?_ ?_
 ·refine Ent.of [(7, 17)] ?_ ?_ rfl rfl;(repeat' (first |exact True.intro |refine ⟨⟨AA _, rfl⟩, ?_⟩ |refine ⟨⟨⟨_, rfl, BLe.cells (AB _)⟩, rfl⟩, ?_⟩ |refine ⟨⟨⟨_, rfl, BLe.row ?_⟩, rfl⟩, ?_⟩ |refine ⟨⟨⟨_, rfl, BLe.cells ?_⟩, rfl⟩, ?_⟩|fail))
  ·exact LeL.cons (AA _) (LeL.cons (AW (congrArg (AV.sl 1 eI) e0.symm)) LeL.nil)
  ·show [(0, x)] = [stF m x 0];rw [stF, e0]; rfl
 ·intro i k0;have hll := stL_len m x (i + 1);(repeat' (first |refine qv ?_ |apply qn |apply qs |apply qr |(refine AD rfl ?_ ?_ <;> intro _ <;> try (exfalso; omega)) |apply qb |apply qk |apply qx |apply qt))
  ·rename_i hi;have hstep := rgStep_ok m hm (inF x) i (by omega) (inF_le hx) (hlt i k0) (h1 i (by omega));refine qc (hstep) ?_;(repeat' (first |refine qv ?_ |apply qn |apply qr |refine qe ?_|fail));refine ql eSt [stF m x (i + 1)] ?_;refine qa (hby := (by dsimp only [List.length_nil, List.length_cons]; omega)) (hm := (by simp; omega)) (r := ?_);(repeat' (first |refine qv ?_ |apply qn |apply qr |refine qw ?_|fail));refine LoopEnd.of (i + 1) (by omega) (by omega) ?_;refine Ent.of [(7, 31)] ?_ ?_ rfl rfl;(repeat' (first |exact True.intro |refine ⟨⟨AA _, rfl⟩, ?_⟩ |refine ⟨⟨⟨_, rfl, BLe.cells (AB _)⟩, rfl⟩, ?_⟩ |refine ⟨⟨⟨_, rfl, BLe.row ?_⟩, rfl⟩, ?_⟩|fail));exact (stL_succ m x (i + 1)).symm
  ·rename_i hi
   have hi : i = s := by omega
   subst hi;refine A3 (Ent.freeze 7 rfl) ?_;exact RetOk.of rfl (AA _)
theorem hColumn_ok (g : FuncId) (f : Int × List Int → Int) (L : List (Int × List Int)) (hL : L.length ≤ 1000000) (hg : ∀ c, PureFn Tryz.prog g [aSt c.1 c.2] (aN (f c))) : PureFn Tryz.prog 92 [.sl 2 eSt L, .fn g []] (aI (L.map f)) := by
 refine AC Tryz.func92 rfl Tryz.ntmps92 rfl rfl ?_;(repeat' (first |refine qv ?_ |apply qn |apply qs |apply qr |apply qb));refine Ab (Bl 5 805 rfl rfl 1 eI 3) ?_;refine AWP.loop (G := Nat) (fun i => i ≤ L.length) (fun i => AO [] [(1, .fn g []), (5, .row 5), (8, .sl 2 eSt L), (9, aN L.length), (10, aN i)] [(5, .row 1 eI ((L.take i).map f) 3)]) (fun i => L.length - i) 0 (by omega) ?_ ?_
 ·refine Ent.of [(5, 805)] ?_ ?_ rfl rfl;(repeat' (first |exact True.intro |refine ⟨⟨AA _, rfl⟩, ?_⟩ |refine ⟨⟨⟨_, rfl, BLe.row rfl⟩, rfl⟩, ?_⟩|fail))
 ·intro i k0
  have hll : ((L.take i).map f).length = i := by simp; omega
  (repeat' (first |refine qv ?_ |apply qn |apply qs |apply qr |refine qe ?_ |(refine AD rfl ?_ ?_ <;> intro _ <;> try (exfalso; omega)) |apply qb |apply qk |apply qx |apply qt |(refine Az rfl rfl rfl rfl rfl rfl rfl rfl (by omega) (by omega) ?_; intro _ _)|fail))
  ·rename_i hi c hc;rw [Int.toNat_natCast] at hc;refine Cq rfl rfl (hg c) rfl rfl rfl (AB _) ?_;refine ql eI [f c] ?_;refine qa (hby := (by dsimp only [List.length_nil, List.length_cons]; omega)) (hm := (by simp; omega)) (r := ?_);(repeat' (first |refine qv ?_ |apply qn |apply qr |refine qw ?_|fail));refine LoopEnd.of (i + 1) (by omega) (by omega) ?_;refine Ent.of [(5, 19)] ?_ ?_ rfl rfl;(repeat' (first |exact True.intro |refine ⟨⟨AA _, rfl⟩, ?_⟩ |refine ⟨⟨⟨_, rfl, BLe.row ?_⟩, rfl⟩, ?_⟩|fail));exact (map_take_succ hc).symm
  ·rename_i hi;refine A3 (Ent.freeze 5 rfl) ?_;refine RetOk.of rfl (AV.Le.sl ?_);rw [List.take_of_length_le (by omega)]
abbrev nB1 (i : Nat) : List (AL.Id × Bx) := [(904, .cells [aN i] 3)]
theorem hColumn1_ok (g : FuncId) (i0 : Nat) (f : Int × List Int → Int) (L : List (Int × List Int)) (hL : L.length ≤ 1000000) (hg : ∀ c ∈ L, IoFn Tryz.prog g ([aSt c.1 c.2] ++ [.ptr 904 0]) (nB1 i0) (.ret (aN (f c))) (nB1 i0)) : IoFn Tryz.prog 92 [.sl 2 eSt L, .fn g [.ptr 904 0]] (nB1 i0) (.ret (aI (L.map f))) (nB1 i0) := by
 refine AG Tryz.func92 rfl Tryz.ntmps92 rfl rfl rfl ?_;(repeat' (first |refine qv ?_ |apply qn |apply qs |apply qr |apply qb));refine Ab (Bl 5 805 rfl rfl 1 eI 3) ?_;refine AWP.loop (G := Nat) (fun i => i ≤ L.length) (fun i => AO [904] [(1, .fn g [.ptr 904 0]), (5, .row 5), (8, .sl 2 eSt L), (9, aN L.length), (10, aN i)] (nB1 i0 ++ [(5, .row 1 eI ((L.take i).map f) 3)])) (fun i => L.length - i) 0 (by omega) ?_ ?_
 ·refine Ent.of [(5, 805)] ?_ ?_ rfl rfl;(repeat' (first |exact True.intro |refine ⟨⟨AA _, rfl⟩, ?_⟩ |refine ⟨⟨⟨_, rfl, BLe.cells (AB _)⟩, rfl⟩, ?_⟩ |refine ⟨⟨⟨_, rfl, BLe.row rfl⟩, rfl⟩, ?_⟩|fail))
 ·intro i k0
  have hll : ((L.take i).map f).length = i := by simp; omega
  (repeat' (first |refine qv ?_ |apply qn |apply qs |apply qr |refine qe ?_ |(refine AD rfl ?_ ?_ <;> intro _ <;> try (exfalso; omega)) |apply qb |apply qk |apply qx |apply qt |(refine Az rfl rfl rfl rfl rfl rfl rfl rfl (by omega) (by omega) ?_; intro _ _)|fail))
  ·rename_i hi c hc;rw [Int.toNat_natCast] at hc;refine Fl.ioVR rfl rfl [] (hg c (List.mem_of_getElem? hc)) rfl rfl (AB _) rfl ⟨⟨⟨_, rfl, BLe.cells (AB _)⟩, rfl⟩, trivial⟩ ⟨rfl, trivial⟩ rfl rfl rfl rfl ?_;refine ql eI [f c] ?_;refine qa (hby := (by dsimp only [List.length_nil, List.length_cons]; omega)) (hm := (by simp; omega)) (r := ?_);(repeat' (first |refine qv ?_ |apply qn |apply qr |refine qw ?_|fail));refine LoopEnd.of (i + 1) (by omega) (by omega) ?_;refine Ent.of [(5, 19)] ?_ ?_ rfl rfl;(repeat' (first |exact True.intro |refine ⟨⟨AA _, rfl⟩, ?_⟩ |refine ⟨⟨⟨_, rfl, BLe.cells (AB _)⟩, rfl⟩, ?_⟩ |refine ⟨⟨⟨_, rfl, BLe.row ?_⟩, rfl⟩, ?_⟩|fail));exact (map_take_succ hc).symm
  ·rename_i hi;refine ⟨⟨[], _, _, Ent.freeze 5 rfl, rfl, AV.Le.sl ?_, rfl, ⟨⟨⟨_, rfl, BLe.cells (AB _)⟩, rfl⟩, trivial⟩, rfl, rfl⟩⟩;rw [List.take_of_length_le (by omega)]
theorem tell2_ok (c : Int × List Int) : PureFn Tryz.prog 95 [aSt c.1 c.2] (aN 1) := by
 refine AC Tryz.func95 rfl Tryz.ntmps95 rfl rfl ?_;(repeat' (first |refine qv ?_ |apply qn |apply qs |apply qr |refine qe ?_ |apply qt));exact RetOk.of rfl (AA _)
theorem tell3_ok (i0 : Nat) (c : Int × List Int) : IoFn Tryz.prog 97 ([aSt c.1 c.2] ++ [.ptr 904 0]) (nB1 i0) (.ret (aN (if c.1 = i0 then 1 else 0))) (nB1 i0) := by
 refine AG Tryz.func97 rfl Tryz.ntmps97 rfl rfl rfl ?_;(repeat' (first |refine qv ?_ |apply qn |apply qs |apply qr |refine qe ?_ |(refine AD rfl ?_ ?_ <;> intro _ <;> try (exfalso; omega)) |apply qk |apply qt))
 ·rename_i h;rw [if_pos h];exact ⟨⟨[], _, _, AK _ _ _, rfl, AA _, rfl, ⟨⟨⟨_, rfl, BLe.cells (AB _)⟩, rfl⟩, trivial⟩, rfl, rfl⟩⟩
 ·rename_i h;rw [if_neg h];exact ⟨⟨[], _, _, AK _ _ _, rfl, AA _, rfl, ⟨⟨⟨_, rfl, BLe.cells (AB _)⟩, rfl⟩, trivial⟩, rfl, rfl⟩⟩
theorem tell4_ok (j0 : Nat) (c : Int × List Int) (v : Int) (hv : c.2[Int.toNat (j0 : Int)]? = some v) : IoFn Tryz.prog 99 ([aSt c.1 c.2] ++ [.ptr 904 0]) (nB1 j0) (.ret (aN v)) (nB1 j0) := by
 refine AG Tryz.func99 rfl Tryz.ntmps99 rfl rfl rfl ?_
 have hl : (j0 : Int) < c.2.length := by have := (List.getElem?_eq_some_iff.1 hv).1; omega
 (repeat' (first |refine qv ?_ |apply qn |apply qs |apply qr |refine qe ?_ |apply qt |refine qK ?_|fail));exact ⟨⟨[], _, _, AK _ _ _, rfl, AA _, rfl, ⟨⟨⟨_, rfl, BLe.cells (AB _)⟩, rfl⟩, trivial⟩, rfl, rfl⟩⟩
end Go.Proofs.YtmmfloplhopioaaGreat
/- A bit of a list of words; digits az bits. Plain. -/
namespace Go.AL
theorem set_bit {ws : List Int} (hw : WOk ws) {i : Nat} (hi : i / 32 < ws.length) (hlt : val ws < 2 ^ i) : ∃ w, ws[i / 32]? = some w ∧ 0 ≤ w ∧ w < 2 ^ (i % 32) ∧ WOk (ws.set (i / 32) (w + 2 ^ (i % 32))) ∧ val (ws.set (i / 32) (w + 2 ^ (i % 32))) = val ws + 2 ^ i := by
 obtain ⟨k, hk⟩ : ∃ k, k = i / 32 := ⟨_, rfl⟩;obtain ⟨j, hj⟩ : ∃ j, j = i % 32 := ⟨_, rfl⟩;rw [← hk] at hi ⊢;rw [← hj]
 have hij : i = 32 * k + j := by omega
 obtain ⟨w, hwk⟩ : ∃ w, ws[k]? = some w := ⟨_, List.getElem?_eq_getElem hi⟩
 have hsp : ws = ws.take k ++ w :: ws.drop (k + 1) := by
  have h1 := (List.take_append_drop k ws).symm;rw [List.drop_eq_getElem_cons hi, (List.getElem?_eq_some_iff.1 hwk).2] at h1;exact h1
 have hset : ∀ v, ws.set k v = ws.take k ++ v :: ws.drop (k + 1) := fun v => by
  rw [List.set_eq_take_append_cons_drop, if_pos hi]
 have hlen : (ws.take k).length = k := by rw [List.length_take]; omega
 have hv : val ws = val (ws.take k) + BB k * (w + 4294967296 * val (ws.drop (k + 1))) := by
  have h2 := congrArg val hsp;rw [DW, hlen, val] at h2;exact h2
 have hvs : ∀ v, val (ws.set k v) = val (ws.take k) + BB k * (v + 4294967296 * val (ws.drop (k + 1))) := fun v => by
  rw [hset, DW, hlen, val]
 have h0 := Aw (hw.take k);have h1 := Aw (hw.drop (k + 1));have hw0 := hw w (List.mem_of_getElem? hwk)
 have hp : (2 : Int) ^ i = BB k * 2 ^ j := by rw [BB_pow, ← Int.pow_add, hij]
 have hB := Be k
 have hlt2 : w + 4294967296 * val (ws.drop (k + 1)) < 2 ^ j := by
  rcases Int.lt_or_le (w + 4294967296 * val (ws.drop (k + 1))) (2 ^ j) with h | h
  ·exact h
  ·have := Int.mul_le_mul_of_nonneg_left h (Int.le_of_lt hB);rw [← hp] at this;omega
 have hj32 : (2 : Int) ^ j ≤ 2147483648 := by
  have := pow_le_r (x := 2) (by omega) (show j ≤ 31 by omega)
  have e : (2 : Int) ^ 31 = 2147483648 := by decide
  omega
 refine ⟨w, hwk, hw0.1, by omega, hw.set k (by have := Int.pow_pos (n := 2) (m := j) (by omega); omega) (by omega), ?_⟩;rw [hvs, hv, hp, Int.mul_add, Int.mul_add, Int.mul_add];omega
theorem low_succ (d k : Nat) : d % 2 ^ (k + 1) = d % 2 ^ k + (if d.testBit k then 2 ^ k else 0) := by
 rw [Nat.pow_succ, Nat.mod_mul, Nat.testBit_eq_decide_div_mod_eq];by_cases h : d / 2 ^ k % 2 = 1
 ·rw [h]; simp
 ·have : d / 2 ^ k % 2 = 0 := by omega
  rw [this]; simp
theorem low_all {d k : Nat} (h : d / 2 ^ k = 0) : d % 2 ^ k = d := by
 rcases Nat.div_eq_zero_iff.1 h with h | h
 ·exact absurd h (Nat.pos_iff_ne_zero.1 (Nat.two_pow_pos k))
 ·exact Nat.mod_eq_of_lt h
end Go.AL
/- history's digits. -/
namespace Go.AL
theorem WOk_zeros (n : Nat) : WOk (List.replicate n 0) := fun w hw => by
 rw [List.eq_of_mem_replicate hw]; omega
abbrev dgW (bits n : Nat) : Nat := (n * bits + 63) / 32 + 2
end Go.AL
namespace Go.Proofs.YtmmfloplhopioaaGreat
open Go.AL
set_option maxHeartbeats 1000000 in
theorem digits_ok (bits n : Nat) (f : Nat → Nat) (hb : bits ≤ 1000000) (hn : n ≤ 1000000) (hnb : n * bits ≤ 3000000) (hf : ∀ t, t < n → f t < 2 ^ 41 ∧ f t < 2 ^ bits) : PureFn Tryz.prog 91 [aN bits, aI (rgL n f)] (aX ((ds (2 ^ bits) n f : Nat) : Int)) := by
 refine AC Tryz.func91 rfl Tryz.ntmps91 rfl rfl ?_;obtain ⟨l, el⟩ : ∃ l, l = rgL n f := ⟨_, rfl⟩
 have hlen : l.length = n := by rw [el, CF]
 have hget : ∀ t, t < n → l[t]? = some ((f t : Nat) : Int) := fun t ht => by rw [el]; exact DO ht
 rw [← el];obtain ⟨NB, eNB⟩ : ∃ NB, NB = n * bits := ⟨_, rfl⟩
 have hnb' : (l.length : Int) * (bits : Int) = (NB : Int) := by rw [hlen, eNB, Int.natCast_mul]
 have hW : dgW bits n = (NB + 63) / 32 + 2 := by rw [eNB]
 have hA : ∀ t : Nat, t < n → t * bits + bits ≤ NB := fun t ht => by rw [eNB]; have := Nat.mul_le_mul_right bits (show t + 1 ≤ n from ht); rw [Nat.succ_mul] at this; exact this
 rw [← eNB] at hnb;refine AE ?_;(repeat' (first |apply qn |apply qr |refine qe ?_|fail));refine ⟨AE ?_⟩;(repeat' (first |refine qv ?_ |apply qn |apply qr |refine qw ?_ |refine Fl.w rfl rfl rfl ⟨by omega, by omega, by dsimp only [hiK]; omega⟩ ?_ |refine CA rfl rfl rfl rfl rfl rfl rfl rfl rfl rfl eW 0 (by exact AB _) (by rfl) (by first | omega | (dsimp only; omega)) (by first | omega | (dsimp only; omega)) (by first | omega | (dsimp only; omega)) ?_|fail));refine ⟨AE ?_⟩;(repeat' (first |refine qv ?_ |apply qn |apply qs |apply qr |apply qb));refine AWP.loop (G := Nat × List Int) (fun (t, ws) => t ≤ n ∧ WOk ws ∧ ws.length = dgW bits n ∧ val ws = ((ds (2 ^ bits) t f : Nat) : Int)) (fun (t, ws) => AO [] [(0, aN bits), (4, .ptr 4 0), (5, .row 18), (19, aI l), (20, aN n), (21, aN t)] [(4, .cells [aB false, .v (.slice none 0 0)] 48), (18, .row 1 eW ws 94)]) (fun (t, _) => n - t) (0, List.replicate (dgW bits n) 0) ⟨by omega, WOk_zeros _, List.length_replicate, by rw [val_zeros]; rfl⟩ ?_ ?_
 ·refine Ent.of [] ?_ ?_ rfl rfl;(repeat' (first |exact True.intro |refine ⟨⟨AA _, rfl⟩, ?_⟩ |refine ⟨⟨⟨_, rfl, BLe.cells (AB _)⟩, rfl⟩, ?_⟩ |refine ⟨⟨⟨_, rfl, BLe.row ?_⟩, rfl⟩, ?_⟩ |refine ⟨⟨AV.Le.int ?_, rfl⟩, ?_⟩|fail))
  ·omega
  ·congr 1; omega
 ·intro ⟨t, ws⟩ ⟨k0, k1, k2, k3⟩;(repeat' (first |refine qv ?_ |apply qn |apply qs |apply qr |(refine AD rfl ?_ ?_ <;> intro _ <;> try (exfalso; omega)) |apply qb |apply qk |apply qx |(refine Az rfl rfl rfl rfl rfl rfl rfl rfl (by omega) (by omega) ?_; intro _ _)|fail))
  ·rename_i hi d hd;rw [Int.toNat_natCast, hget t (by omega)] at hd;injection hd with hd;subst hd;have hAt := hA t (by omega);obtain ⟨hf1, hf2⟩ := hf t (by omega);obtain ⟨A, eA⟩ : ∃ A, A = t * bits := ⟨_, rfl⟩
   have eA' : (t : Int) * (bits : Int) = (A : Int) := by rw [eA, Int.natCast_mul]
   rw [← eA] at hAt;(repeat' (first |refine qv ?_ |apply qn |apply qs |apply qr |refine qw ?_ |apply qb));refine AWP.loop (G := Nat × List Int) (fun (k, vs) => k ≤ 41 ∧ k ≤ bits ∧ WOk vs ∧ vs.length = dgW bits n ∧ val vs = ((ds (2 ^ bits) t f + f t % 2 ^ k * 2 ^ A : Nat) : Int)) (fun (k, vs) => AO [] [(0, aN bits), (4, .ptr 4 0), (5, .row 18), (7, aN (f t)), (8, aN A), (9, aN k), (19, aI l), (20, aN n), (21, aN t)] [(4, .cells [aB false, .v (.slice none 0 0)] 48), (18, .row 1 eW vs 94)]) (fun (k, _) => 41 - k) (0, ws) ⟨by omega, by omega, k1, k2, by rw [k3, Nat.pow_zero, Nat.mod_one, Nat.zero_mul, Nat.add_zero]⟩ ?_ ?_
   ·refine Ent.of [] ?_ ?_ rfl rfl;(repeat' (first |exact True.intro |refine ⟨⟨AA _, rfl⟩, ?_⟩ |refine ⟨⟨⟨_, rfl, BLe.cells (AB _)⟩, rfl⟩, ?_⟩ |refine ⟨⟨⟨_, rfl, BLe.row rfl⟩, rfl⟩, ?_⟩ |refine ⟨⟨AV.Le.int ?_, rfl⟩, ?_⟩|fail));exact eA'
   ·intro ⟨k, vs⟩ ⟨q0, q1, q2, q3, q4⟩;obtain ⟨q, hq⟩ : ∃ q, q = f t / 2 ^ k := ⟨_, rfl⟩
    have ediv : ((f t : Nat) : Int) / 2 ^ (Int.toNat (k : Int)) = (q : Int) := by
     rw [Int.toNat_natCast, hq, Int.natCast_ediv, Int.natCast_pow]; rfl
    have hq1 : q ≤ f t := by rw [hq]; exact Nat.div_le_self _ _
    have hq2 : q ≠ 0 → k < bits ∧ k < 41 := fun h => by
     have h1 : 2 ^ k ≤ f t := by
      rcases Nat.lt_or_ge (f t) (2 ^ k) with h1 | h1
      ·exact absurd (by rw [hq]; exact Nat.div_eq_of_lt h1) h
      ·exact h1
     have e1 := Nat.lt_of_le_of_lt h1 hf1;have e2 := Nat.lt_of_le_of_lt h1 hf2;rw [Nat.pow_lt_pow_iff_right (by omega)] at e1 e2;exact ⟨e2, e1⟩
    have hdv0 : 0 ≤ ((f t : Nat) : Int) / 2 ^ (Int.toNat (k : Int)) := by rw [ediv]; omega
    have hdv1 : ((f t : Nat) : Int) / 2 ^ (Int.toNat (k : Int)) ≤ 2199023255552 := by rw [ediv]; omega
    (repeat' (first |refine qv ?_ |apply qn |apply qs |apply qr |refine qw ?_ |refine Fl.w rfl rfl rfl ⟨by omega, by omega, by dsimp only [hiK]; omega⟩ ?_ |(refine AD rfl ?_ ?_ <;> intro _ <;> try (exfalso; omega)) |(refine AU rfl ?_ ?_ <;> intro _ <;> try (exfalso; omega)) |apply qb |apply qk |apply qx |refine BN rfl rfl rfl rfl rfl rfl rfl rfl (by omega) (by first | omega | (simp; omega)) ?_ |(refine Fl.rldW rfl rfl rfl rfl rfl rfl rfl (fun _ => rfl) (fun _ => rfl) (by first | omega | (simp; omega)) (by assumption) ?_; intro _ _ _ _) |refine Bd rfl rfl rfl rfl rfl rfl rfl rfl rfl rfl rfl (AB _) rfl (by first | omega | (simp; omega)) ?_|fail))
    ·rename_i g1 g2 w hw hw0 hw1;rw [ediv] at g1 g2;rw [bitN_and1 (by omega)] at g2;obtain ⟨p1, p2⟩ := hq2 (by omega);have hlow : f t % 2 ^ k < 2 ^ k := Nat.mod_lt _ (Nat.two_pow_pos k)
     have hA2 : (2 ^ bits) ^ t = 2 ^ A := by rw [eA, ← Nat.pow_mul, Nat.mul_comm]
     have hds : ds (2 ^ bits) t f < 2 ^ A := by
      rw [← hA2];exact ds_lt fun u hu => (hf u (by omega)).2
     have hlt : ds (2 ^ bits) t f + f t % 2 ^ k * 2 ^ A < 2 ^ (A + k) := by
      have h1 := Nat.mul_le_mul_right (2 ^ A) (show f t % 2 ^ k + 1 ≤ 2 ^ k from hlow);rw [Nat.add_mul, Nat.one_mul] at h1;rw [Nat.pow_add, Nat.mul_comm (2 ^ A)];omega
     obtain ⟨w', b1, b2, b3, b4, b5⟩ := set_bit (i := A + k) q2 (by omega) (by
      rw [q4]
      have : ((2 ^ (A + k) : Nat) : Int) = 2 ^ (A + k) := by rw [Int.natCast_pow]; rfl
      omega)
     have hwi : (((A : Int) + (k : Int)) / 32).toNat = (A + k) / 32 := by omega
     have hwm : (((A : Int) + (k : Int)) % 32).toNat = (A + k) % 32 := by omega
     rw [hwi] at hw;rw [b1] at hw;injection hw with hw;subst hw;have hor := (or_carry (c := w') (x := 1) (k := (A + k) % 32) (by omega) b2 b3 (by omega) (by omega)).1
     have hp : (1 : Int) * 2 ^ ((A + k) % 32) % 4294967296 = 2 ^ ((A + k) % 32) := by
      rw [Int.one_mul];have := pow_le_r (x := 2) (by omega) (show (A + k) % 32 ≤ 31 by omega)
      have e : (2 : Int) ^ 31 = 2147483648 := by decide
      have := Int.pow_pos (n := 2) (m := (A + k) % 32) (by omega);omega
     rw [hp] at hor;refine LoopEnd.of (k + 1, vs.set ((A + k) / 32) (w' + 2 ^ ((A + k) % 32))) ⟨by omega, by omega, b4, by rw [List.length_set]; exact q3, ?_⟩ (by simp only; omega) ?_
     ·rw [b5, q4, low_succ, if_pos (by rw [Nat.testBit_eq_decide_div_mod_eq, ← hq]; simp; omega), Nat.add_mul, ← Nat.pow_add, Nat.add_comm k A]
      have : ((2 ^ (A + k) : Nat) : Int) = 2 ^ (A + k) := by rw [Int.natCast_pow]; rfl
      omega
     ·refine Ent.of [] ?_ ?_ rfl rfl;(repeat' (first |exact True.intro |refine ⟨⟨AA _, rfl⟩, ?_⟩ |refine ⟨⟨⟨_, rfl, BLe.cells (AB _)⟩, rfl⟩, ?_⟩ |refine ⟨⟨⟨_, rfl, BLe.row ?_⟩, rfl⟩, ?_⟩|fail));rw [hwi, hwm, hp, hor]
    ·rename_i g1 g2;rw [ediv] at g1 g2;rw [bitN_and1 (by omega)] at g2;obtain ⟨p1, p2⟩ := hq2 (by omega);refine LoopEnd.of (k + 1, vs) ⟨by omega, by omega, q2, q3, ?_⟩ (by simp only; omega) ?_
     ·rw [q4, low_succ, if_neg (by rw [Nat.testBit_eq_decide_div_mod_eq, ← hq]; simp; omega), Nat.add_zero]
     ·refine Ent.of [] ?_ ?_ rfl rfl;(repeat' (first |exact True.intro |refine ⟨⟨AA _, rfl⟩, ?_⟩ |refine ⟨⟨⟨_, rfl, BLe.cells (AB _)⟩, rfl⟩, ?_⟩ |refine ⟨⟨⟨_, rfl, BLe.row rfl⟩, rfl⟩, ?_⟩|fail))
    ·rename_i g1;rw [ediv] at g1
     have hq0 : f t / 2 ^ k = 0 := by omega
     rw [low_all hq0] at q4;refine LoopEnd.of (t + 1, vs) ⟨by omega, q2, q3, ?_⟩ (by simp only; omega) ?_
     ·rw [q4, Ej, eA, Nat.mul_comm t bits, Nat.pow_mul]
     ·refine Ent.of [] ?_ ?_ rfl rfl;(repeat' (first |exact True.intro |refine ⟨⟨AA _, rfl⟩, ?_⟩ |refine ⟨⟨⟨_, rfl, BLe.cells (AB _)⟩, rfl⟩, ?_⟩ |refine ⟨⟨⟨_, rfl, BLe.row rfl⟩, rfl⟩, ?_⟩|fail))
  ·rename_i hn2
   have htn : t = n := by omega
   subst htn;refine ⟨AE ?_⟩;refine Ab (Ent.freeze 18 rfl) ?_;(repeat' (first |refine qv ?_ |apply qn |apply qr));refine ⟨AWP.seq (AWP.block ?_)⟩
   have hws : (ws.length : Int) ≤ 200000 := by omega
   have fin : ∀ v : List Int, v = toW (val ws) → LeL [AV.v (.bool false), aW v] [aB (decide (((ds (2 ^ bits) t f : Nat) : Int) < 0)), aW (toW (((ds (2 ^ bits) t f : Nat) : Int).natAbs))] := fun v hv => by
    rw [hv, k3, Int.natAbs_natCast, show decide (((ds (2 ^ bits) t f : Nat) : Int) < 0) = false from decide_eq_false (by omega)];exact AB _
   refine AWP.loop (G := Int) (fun c => 0 ≤ c ∧ c ≤ ws.length ∧ A4 (ws.take c.toNat) = A4 ws) (fun c => AO [] [(4, .ptr 4 0), (5, aW ws), (10, aN c)] [(4, .cells [aB false, .v (.slice none 0 0)] 48)]) (fun c => c.toNat) (ws.length : Int) ⟨by omega, by omega, by simp⟩ ?_ ?_
   ·refine Ent.of [] ?_ ?_ rfl rfl;(repeat' (first |exact True.intro |refine ⟨⟨AA _, rfl⟩, ?_⟩ |refine ⟨⟨⟨_, rfl, BLe.cells (AB _)⟩, rfl⟩, ?_⟩|fail))
   ·intro c ⟨c0, c1, c2⟩;(repeat' (first |refine qv ?_ |apply qn |apply qs |apply qr |refine qw ?_ |refine qe ?_ |refine Fl.skip rfl rfl ?_ |refine AF rfl ?_ |(refine AD rfl ?_ ?_ <;> intro _ <;> try (exfalso; omega)) |apply qb |apply qk |apply qx |apply qt |(refine CN rfl rfl rfl rfl rfl rfl rfl rfl (by omega) (by omega) (by assumption) ?_; intro _ _ _ _) |(refine AJ rfl rfl ?_ ?_ <;> intro _ <;> try (exfalso; omega))))
    ·rename_i h0 e hx hx0 hx1 hz;subst hz;refine LoopEnd.of (c - 1) ⟨by omega, by omega, ?_⟩ (by omega) ?_
     ·rw [← c2, trimL_take0 (by omega) hx]
     ·refine Ent.of [] ?_ ?_ rfl rfl;(repeat' (first |exact True.intro |refine ⟨⟨AA _, rfl⟩, ?_⟩ |refine ⟨⟨⟨_, rfl, BLe.cells (AB _)⟩, rfl⟩, ?_⟩|fail))
    ·rename_i h0 e hx hx0 hx1 hz;refine RetOk.of rfl (AV.Le.agg (fin _ ?_));rw [← CG k1, ← c2, trimL_take1 (by omega) hx hz]
    ·rename_i h0
     have h0 : c = 0 := by omega
     subst h0;refine RetOk.of rfl (AV.Le.agg (fin _ ?_));rw [← CG k1, ← c2]; simp [A4]
end Go.Proofs.YtmmfloplhopioaaGreat
/- What the terms of built polynomials come to, at most. Plain. -/
namespace Go.AL
theorem Ax (X : List Int) (u : UT) (p : List UT) : auv X (u :: p) = ((u.1 * AX X u.2).natAbs : Int) + auv X p := rfl
theorem auv_nn (X : List Int) : ∀ p : List UT, 0 ≤ auv X p
 | [] => by simp [auv, sumL]
 | u :: p => by rw [Ax]; have := auv_nn X p; omega
theorem Eo (X : List Int) : ∀ p q : List UT, auv X (p ++ q) = auv X p + auv X q
 | [], q => by simp [auv, sumL]
 | u :: p, q => by rw [List.cons_append, Ax, Ax, Eo X p q]; omega
theorem auv_insU (X : List Int) (u : UT) : ∀ l : List UT, auv X (insU u l) ≤ ((u.1 * AX X u.2).natAbs : Int) + auv X l
 | [] => by
  unfold insU;split
  ·simp [auv, sumL]
  ·rw [Ax]; exact Int.le_refl _
 | v :: l => by
  have ih := auv_insU X u l;unfold insU;split
  ·split
   ·rw [Ax]; omega
   ·rw [Ax, Ax]; exact Int.le_refl _
  ·split
   ·rename_i e
    have hs : ((u.1 + v.1) * AX X u.2).natAbs ≤ (u.1 * AX X u.2).natAbs + (v.1 * AX X v.2).natAbs := by
     rw [← e, Int.add_mul]; exact Int.natAbs_add_le _ _
    split
    ·rw [Ax]; omega
    ·rw [Ax, Ax];show (((u.1 + v.1) * AX X u.2).natAbs : Int) + auv X l ≤ _;omega
   ·rw [Ax, Ax]; omega
theorem auv_canU (X : List Int) : ∀ us : List UT, auv X (canU us) ≤ auv X us
 | [] => Int.le_refl _
 | u :: us => by
  have h1 := auv_canU X us;have h2 := auv_insU X u (canU us);show auv X (insU u (canU us)) ≤ _;rw [Ax]; omega
theorem auv_scale (X : List Int) (k : Int) : ∀ q : List UT, auv X (q.map fun u => (u.1 * k, u.2)) = auv X q * (k.natAbs : Int)
 | [] => by simp [auv, sumL]
 | u :: q => by
  rw [List.map_cons, Ax, Ax, auv_scale X k q, Int.add_mul];congr 1;show ((u.1 * k * AX X u.2).natAbs : Int) = _;rw [show u.1 * k * AX X u.2 = u.1 * AX X u.2 * k by grind, Int.natAbs_mul];simp
theorem auv_add (X : List Int) (p q : List UT) : auv X (addL p q) ≤ auv X p + auv X q := by
 have h := auv_canU X (Bm 1 p q);unfold addL;unfold Bm at h ⊢;rw [Eo, auv_scale] at h;simpa using h
theorem auv_sub (X : List Int) (p q : List UT) : auv X (subL p q) ≤ auv X p + auv X q := by
 have h := auv_canU X (Bm (-1) p q);unfold subL;unfold Bm at h ⊢;rw [Eo, auv_scale] at h;simpa using h
theorem auv_times {V d c n : Nat} (X : List Int) (t : UT) (ht : t.2.length = V ∧ (∀ e ∈ t.2, 0 ≤ e) ∧ sumL t.2 ≤ 120) : ∀ {q : List UT}, (∀ u ∈ q, u.2.length = V ∧ (∀ e ∈ u.2, 0 ≤ e) ∧ sumL u.2 ≤ 120) → auv X (q.map fun u => (t.1 * u.1, addE t.2 u.2)) = ((t.1 * AX X t.2).natAbs : Int) * auv X q
 | [], _ => by simp [auv, sumL]
 | u :: q, h => by
  have ih := auv_times (d := d) (c := c) (n := n) X t ht (q := q) fun v hv => h v (by simp [hv]);have hu := h u (by simp);have e1 := (ex_ok (d := 120) (by omega) ht).2.2;have e2 := (ex_ok (d := 120) (by omega) hu).2.2;rw [List.map_cons, Ax, Ax, ih, Int.mul_add];congr 1;show ((t.1 * u.1 * AX X (addE t.2 u.2)).natAbs : Int) = _;rw [prodE_add e1 e2 (by omega), show t.1 * u.1 * (AX X t.2 * AX X u.2) = t.1 * AX X t.2 * (u.1 * AX X u.2) by grind, Int.natAbs_mul];simp
theorem auv_mulUs {V d c n d' c' n' : Nat} (X : List Int) {q : List UT} (hq : SzU V d' c' n' q) (h2 : d' ≤ 120) (h1 : d ≤ 120) : ∀ {p : List UT}, (∀ u ∈ p, u.2.length = V ∧ (∀ e ∈ u.2, 0 ≤ e) ∧ sumL u.2 ≤ d) → auv X (Bh p q) = auv X p * auv X q
 | [], _ => by simp [Bh, auv, sumL]
 | t :: p, h => by
  have ih := auv_mulUs (c := c) (n := n) X hq h2 h1 (p := p) fun u hu => h u (by simp [hu]);have ht := h t (by simp);have e := auv_times (V := V) (d := d) (c := c) (n := n) X t ⟨ht.1, ht.2.1, by have := ht.2.2; omega⟩ (q := q) fun u hu => ⟨(hq.ex u hu).1, (hq.ex u hu).2.1, by have := (hq.ex u hu).2.2; omega⟩;unfold Bh at ih ⊢;rw [List.flatMap_cons, Eo, e, ih, Ax, Int.add_mul]
theorem auv_mul {V d c n d' c' n' : Nat} (X : List Int) {p q : List UT} (hp : SzU V d c n p) (hq : SzU V d' c' n' q) (h1 : d ≤ 120) (h2 : d' ≤ 120) : auv X (An p q) ≤ auv X p * auv X q := by
 have h := auv_canU X (Bh p q);rw [auv_mulUs (d := d) (c := c) (n := n) X hq h2 h1 hp.ex] at h;exact h
theorem auv_con (X : List Int) (V : Nat) (k : Int) : auv X (conU V k) = (k.natAbs : Int) := by
 unfold conU;split
 ·rename_i h; subst h; simp [auv, sumL]
 ·rw [Ax];show ((k * AX X (List.replicate V 0)).natAbs : Int) + auv X [] = _;rw [Dp];simp [auv, sumL]
theorem CY {X : List Int} {V i : Nat} (hX : X.length = V) (hi : i < V) (h0 : ∀ y ∈ X, 0 ≤ y) : auv X (varU V i) = X.getD i 0 := by
 have h := DC hX hi;unfold varU uv at h;simp only [List.map_cons, List.map_nil, sumL] at h;unfold varU;rw [Ax]
 have hg : 0 ≤ X.getD i 0 := by
  rw [List.getD_eq_getElem?_getD, List.getElem?_eq_getElem (by omega)];exact h0 _ (List.getElem_mem _)
 show ((1 * AX X (unU V i)).natAbs : Int) + 0 = _;omega
end Go.AL

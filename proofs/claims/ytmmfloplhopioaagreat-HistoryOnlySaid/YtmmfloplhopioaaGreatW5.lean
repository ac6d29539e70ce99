/- Part 5 of a proof layer and of the contracts of the functions. -/
import Derived.Test.YtmmfloplhopioaaGreatW4
set_option linter.unusedVariables false
set_option linter.unusedSimpArgs false
/- The same of a row that is still written. -/
namespace Go.AL
open Go.ChangeMaps (setBlock)
section
variable {P : Program} {tab : Tab} {n : Nat} {s : St}
theorem AWP.arrCopyR [f : Facts P tab] {I : List Id} {Q : Exit → St → Prop} {id : Nat} {o1 o2 o3 : Oper} {d1 d2 d3 : Tmp} {t e t1 t2 : TypeId} {x y : Operand} (h1 : o1.op = .slice t x none none none) (g1 : o1.guard = none) (e1 : o1.dst = some d1) (l1 : Nat.blt d1 n = true) (h2 : o2.op = .move y) (g2 : o2.guard = none) (e2 : o2.dst = some d2) (l2 : Nat.blt d2 n = true) (h3 : o3.op = .call { callee := .builtin .copy, args := ⟨[.tmp d1, .tmp d2]⟩, argTypes := ⟨[t1, t2]⟩ }) (g3 : o3.guard = none) (e3 : o3.dst = some d3) (l3 : Nat.blt d3 n = true) (hne : Nat.beq d1 d2 = false)
  {N sz' by' sz2 by2 : Nat} {z' z2 : List Value} (hts : tab t = some ⟨.array N e, sz', by', z'⟩) (hts1 : tab t1 = some ⟨.slice e, sz2, by2, z2⟩) {i : TI} (hti : tab e = some i) (hi1 : Nat.beq i.size 1 = true) {b : Id} (hx : opd s x = .ptr b 0) {cs : List AV} {bt : TypeId} (hb : s.bx b = some (.cells cs bt)) (hN : Nat.beq cs.length N = true) (hNm : Nat.ble N 1000000 = true) (hN0 : Nat.blt 0 N = true) {α : Type} {enc : α → List AV} {ys : List α} {r2 : Id} {bt2 : TypeId} (hy : opd s y = .row r2) (hb2 : s.bx r2 = some (.row 1 enc ys bt2)) (hyd : y ≠ .tmp d1) (hone : ∀ y, allOne (enc y) = true) (hel : ∀ y, (enc y).length = 1) (hl : ys.length ≤ N) {cs' : List AV} (hcs : ys.flatMap enc ++ cs.drop ys.length = cs')
  (q : Q .normal ((Eff.mk .any [(b, .cells cs' bt)] [] [] [b]).app (some d3) ((Eff.mk (.row r2) [] [] [] []).app (some d2) ((Eff.mk .any [] [] [] []).app (some d1) s)))) : AWP P n I (.region id ⟨[o1, o2, o3]⟩ false) Q s := by
 subst hcs;have hi1 := Nat.eq_of_beq_eq_true hi1;have hN := Nat.eq_of_beq_eq_true hN;have hNm := Nat.le_of_ble_eq_true hNm;have hN0 := ltOf hN0
 have hd12 : d1 ≠ d2 := fun e => by rw [e, Nat.beq_refl] at hne; cases hne
 refine ⟨fun C a w hp β hi k => ?_⟩;refine wp_region ?_;have hrg : List.range (Array.size ⟨[o1, o2, o3]⟩) = [0, 1, 2] := rfl;rw [hrg];refine wpOps_cons (ops := ⟨[o1, o2, o3]⟩) (i := 0) (o := o1) rfl g1 ?_;have hxr := opd_rep k x;rw [hx] at hxr;simp only [Rep] at hxr;obtain ⟨g, b1, b2⟩ := hxr;have hu := (f.tabOk _ _ hts).und;simp only at hu;have hu1 := (f.tabOk _ _ hts1).und;simp only at hu1;have hd1 : d1 < n := ltOf l1;have hd2 : d2 < n := ltOf l2
 have hr1 : (execOp a.eval o1).run P w = .ok (.value (.slice (some ⟨g, 0, none⟩) N N)) w := by
  have hN0' : ¬ N = 0 := by omega
  simp only [execOp, h1, b2, Option.map_none, Instr.sliceAt, Instr.sureAddr, Sem.run_bind, run_underlying hu, Result.andThen, Instr.sliceBounds, Sem.run_pure, size_ok (f.tabOk _ _ hti), Nat.zero_mul, Addr.add, if_true, Nat.sub_zero, if_neg hN0']
 unfold Oper.wp;rw [hr1];simp only [Oper.upon, e1];have k1 := k.val (some d1) (fun t ht => by injection ht with ht; subst ht; exact hd1) (v := .any) (u := .slice (some ⟨g, 0, none⟩) N N) (by simp only [Rep]) [];refine wpOps_cons (ops := ⟨[o1, o2, o3]⟩) (i := 1) (o := o2) rfl g2 ?_
 have hys : opd ((Eff.mk AV.any [] [] [] []).app (some d1) s) y = .row r2 := by
  rw [← hy];refine opd_tmp fun t ht => ?_;simp only [Eff.app];exact putE_ne _ _ _ _ (fun h => hyd (by injection h with h; rw [ht, h]))
 have hyr := opd_rep k1 y;rw [hys] at hyr
 have hr2 : (execOp (a.put (some d1) (.slice (some ⟨g, 0, none⟩) N N)).eval o2).run P w = .ok (.value ((a.put (some d1) (.slice (some ⟨g, 0, none⟩) N N)).eval y)) w := by
  simp only [execOp, h2, Sem.run_pure]
 unfold Oper.wp;rw [hr2];simp only [Oper.upon, e2];have k2 := k1.val (some d2) (fun t ht => by injection ht with ht; subst ht; exact hd2) (v := .row r2) hyr [];generalize hyv : (a.put (some d1) (.slice (some ⟨g, 0, none⟩) N N)).eval y = yv at hyr k2 ⊢;refine wpOps_cons (ops := ⟨[o1, o2, o3]⟩) (i := 2) (o := o3) rfl g3 ?_
 have hsz : d1 < a.tmps.size ∧ d2 < a.tmps.size := by rw [k.size]; exact ⟨hd1, hd2⟩
 have ev1 : ((a.put (some d1) (.slice (some ⟨g, 0, none⟩) N N)).put (some d2) yv).eval (.tmp d1) = .slice (some ⟨g, 0, none⟩) N N := by
  simp [Act.eval, Act.put, Array.getElem?_setIfInBounds, hsz.1, Ne.symm hd12]
 have ev2 : ((a.put (some d1) (.slice (some ⟨g, 0, none⟩) N N)).put (some d2) yv).eval (.tmp d2) = yv := by
  simp [Act.eval, Act.put, hsz.2]
 have hb3 : ((Eff.mk (.row r2) [] [] [] []).app (some d2) ((Eff.mk AV.any [] [] [] []).app (some d1) s)).bx b = some (.cells cs bt) := hb;obtain ⟨g', us, b3, hh, hr, hnone⟩ := k2.box b _ hb3;rw [b1] at b3; injection b3 with b3; injection b3 with b3; injection b3 with b3; injection b3 with b3; subst b3
 have hul : us.size = N := by rw [← Array.length_toList, hr.length, hN]
 have his : (P.info? e).map (·.size) = some 1 := by
  obtain ⟨inf, zv, i1, i2, _⟩ := (f.tabOk e i hti).info;rw [i1]; simp [i2, hi1]
 simp only [Rep] at hyr;obtain ⟨v2, vals, e4, ⟨hvl, hown⟩, hrv, hsz2, hno2⟩ := k2.box r2 _ (show _ = some (.row 1 enc ys bt2) from hb2)
 have hyv2 : yv = v2 := by
  have := hyr.1;rw [e4] at this; injection this with this; exact this.symm
 obtain ⟨B, cB, hv2, hcells⟩ : ∃ B cB, yv = .slice B ys.length cB ∧ (ys ≠ [] → ∃ adB, B = some adB ∧ ∀ (j : Nat) (u : Value), vals[j]? = some u → w.cell? (adB.add j) = some u) := by
  rw [hyv2];rcases hown with ⟨h1, h2⟩ | ⟨g2, cap, cur, h1, h2, h3, h4, h5, h6, h7⟩
  ·have hy0 : ys = [] := List.eq_nil_of_length_eq_zero h2;subst hy0;exact ⟨none, 0, h1, fun h => absurd rfl h⟩
  ·refine ⟨_, _, h1, fun _ => ⟨_, rfl, fun j u hu => ?_⟩⟩
   have hadd : (⟨g2, 0, none⟩ : Addr).add j = ⟨g2, j, none⟩ := by unfold Addr.add; split <;> simp_all
   rw [hadd];rw [← h7, List.getElem?_take] at hu;split at hu
   ·simp only [World.cell?, h3];rw [← Array.getElem?_toList]; simpa using hu
   ·cases hu
 subst hv2
 have key : ∃ (r : Int) (w' : World) (us' : Array Value), (Builtin.copy_ #[t1, t2] o3.type #[.slice (some ⟨g, 0, none⟩) N N, .slice B ys.length cB]).run P w = .ok (goInt r) w' ∧ w'.os = w.os ∧ w'.tape = w.tape ∧ (w'.output = w.output ∧ w.drawn ≤ w'.drawn) ∧ w'.heap.size = w.heap.size ∧
   (∀ j, j ≠ g → w'.heap[j]? = w.heap[j]?) ∧ w'.heap[g]? = some (.cells us' bt (0, 0)) ∧ RepL hp β (ys.flatMap enc ++ cs.drop ys.length) us'.toList := by
  by_cases hy0 : ys = []
  ·subst hy0;exact ⟨0, w, us, run_copy_none w t1 t2 o3.type e _ B N N 0 cB hu1 his (by simp [Nat.min_def]), rfl, rfl, ⟨rfl, Nat.le_refl _⟩, rfl, fun _ _ => rfl, hh, by simpa using hr⟩
  ·have hyp : 0 < ys.length := List.length_pos_iff.2 hy0;obtain ⟨adB, eB, hcl⟩ := hcells hy0;subst eB;have hmn : Nat.min ys.length N = min ys.length N := rfl
   have hnl : vals.length = Nat.min ys.length N := by rw [hvl, hmn]; omega
   have hrun := run_copy_row (P := P) w t1 t2 o3.type e g 0 N N adB ys.length cB us bt vals hu1 his hh hnl (fun j u hu => by
    exact hcl j u hu) (by rw [hnl, hmn]; omega) (flat_one hone _ vals hrv)
   refine ⟨_, w.setRow g (us.toList.take 0 ++ vals ++ us.toList.drop (0 + vals.length)).toArray, _, hrun, rfl, rfl, ⟨rfl, Nat.le_refl _⟩, by simp, fun j hj => setRow_other w g j _ (fun q => hj q), setRow_heap w g us _ bt _ hh, ?_⟩;simp only [List.take_zero, List.nil_append, Nat.zero_add];rw [show vals.length = ys.length by rw [hnl, hmn]; omega];exact (hrv.mono (Hp.le.refl _) (noB_le β)).append (hr.drop _)
 obtain ⟨r, w', us', hrun, q1, q2, q3, q4, q5, q6, q7⟩ := key
 have hex : (execOp ((a.put (some d1) (.slice (some ⟨g, 0, none⟩) N N)).put (some d2) (.slice B ys.length cB)).eval o3).run P w = .ok (.value (goInt r)) w' := by
  simp only [execOp, h3, resolve, invoke, builtin, Sem.run_bind, Sem.run_pure, Result.andThen, List.map_toArray, List.map_cons, List.map_nil, ev1, ev2];rw [show (Builtin.copy_ { toList := [t1, t2] } o3.type { toList := [.slice (some ⟨g, 0, none⟩) N N, .slice B ys.length cB] }).run P w = .ok (goInt r) w' from hrun]
 unfold Oper.wp;rw [hex];simp only [Oper.upon, e3, wpOps];exact ⟨_, hp, β, k2.setbox (B' := .cells (ys.flatMap enc ++ cs.drop ys.length) bt) (w' := w') hb3 q1 q2 q3 q4 (fun j hj => q5 j (fun q => hj (by simp [b1, blk, q]))) ⟨g, us', b1, q6, q7, hnone⟩ ⟨g, by simp [b1, blk]⟩ (some d3) (fun t ht => by injection ht with ht; subst ht; exact ltOf l3) (v := .any) (u := goInt r) (by simp only [Rep]) [b], q⟩
end
end Go.AL
/- poly.times. -/
namespace Go.AL
def addE (a b : List Int) : List Int := List.zipWith (· + ·) a b
abbrev uM (t u : TZ) : UT := (zval t.c * zval u.c, addE t.e u.e)
def rowU (q : List TZ) (t : TZ) : List UT := q.map (uM t)
def timesU (p q : PZ) : List UT := p.terms.flatMap (rowU q.terms)
def DegOk (p q : PZ) : Prop := ∀ t u, p.terms[0]? = some t → q.terms[0]? = some u → sumL t.e + sumL u.e ≤ 120
def ProdOk (V : Nat) (p q : PZ) (r : PZ) : Prop := DegOk p q ∧ (∀ t ∈ p.terms, ∀ u ∈ q.terms, Fit (zval t.c * zval u.c)) ∧ SumOk V (timesU p q) r
theorem flatMap_take_succ {α β : Type} (f : α → List β) {l : List α} {i : Nat} {x : α} (h : l[i]? = some x) : (l.take (i + 1)).flatMap f = (l.take i).flatMap f ++ f x := by
 rw [take_snoc h]; simp
theorem addE_length {a b : List Int} (h : a.length = b.length) : (addE a b).length = a.length := by simp [addE, h]
theorem addE_get {a b : List Int} {k : Nat} {x y : Int} (ha : a[k]? = some x) (hb : b[k]? = some y) : (addE a b)[k]? = some (x + y) := by simp [addE, List.getElem?_zipWith, ha, hb]
theorem sumL_addE : ∀ {a b : List Int}, a.length = b.length → sumL (addE a b) = sumL a + sumL b
 | [], [], _ => rfl
 | [], _ :: _, h => by simp at h
 | _ :: _, [], h => by simp at h
 | x :: a, y :: b, h => by
  have := sumL_addE (a := a) (b := b) (by simpa using h);simp only [addE, List.zipWith_cons_cons, sumL] at this ⊢;omega
theorem EOk.addE {a b : List Int} (ha : EOk a) (hb : EOk b) (hl : a.length = b.length) (hs : sumL a + sumL b ≤ 120) : EOk (addE a b) := by
 intro e he
 have h0 : ∀ x ∈ AL.addE a b, 0 ≤ x := by
  intro x hx;obtain ⟨k, hk⟩ := List.mem_iff_getElem?.1 hx;simp only [AL.addE, List.getElem?_zipWith] at hk;split at hk
  ·rename_i x1 y1 h1 h2;injection hk with hk; subst hk;have := ha.get h1; have := hb.get h2; omega
  ·cases hk
 refine ⟨h0 e he, ?_⟩
 have h1 : ∀ (l : List Int), (∀ x ∈ l, 0 ≤ x) → ∀ x ∈ l, x ≤ sumL l := by
  intro l
  induction l with
  | nil => intro _ x hx; cases hx
  | cons y l ih =>
   intro hp x hx;have h2 := sumL_nonneg (l := l) fun z hz => hp z (by simp [hz]);simp only [sumL];rcases List.mem_cons.1 hx with rfl | hx
   ·omega
   ·have := ih (fun z hz => hp z (by simp [hz])) x hx;have := hp y (by simp); omega
 have := h1 _ h0 e he;rw [sumL_addE hl] at this; omega
theorem OkP.top {p : PZ} (hp : OkP p) {t0 : TZ} (h0 : p.terms[0]? = some t0) : ∀ (j : Nat) (t : TZ), p.terms[j]? = some t → sumL t.e ≤ sumL t0.e
 | 0, t, h => by rw [h0] at h; injection h with h; subst h; exact Int.le_refl _
 | j + 1, t, h => by
  have hj := (List.getElem?_eq_some_iff.1 h).1;have h1 : p.terms[j]? = some (p.terms[j]'(by omega)) := List.getElem?_eq_getElem _;have h2 := OkP.top hp h0 j _ h1;have h3 := hp.ord j _ _ h1 h;rw [ordI_lt] at h3;omega
theorem OkP.topm {p : PZ} (hp : OkP p) {t0 t : TZ} (h0 : p.terms[0]? = some t0) (h : t ∈ p.terms) : sumL t.e ≤ sumL t0.e := by
 obtain ⟨j, hj⟩ := List.mem_iff_getElem?.1 h;exact hp.top h0 j t hj
theorem timesU_ok {p q : PZ} {V : Nat} (hp : OkP p) (hq : OkP q) (hpv : p.vars = V) (hqv : q.vars = V) (hd : DegOk p q) {t u : TZ} (ht : t ∈ p.terms) (hu : u ∈ q.terms) : (addE t.e u.e).length = V ∧ EOk (addE t.e u.e) := by
 have h1 := hp.uok hpv ht;have h2 := hq.uok hqv hu
 have hl : t.e.length = u.e.length := by rw [h1.1, h2.1]
 refine ⟨by rw [addE_length hl, h1.1], h1.2.addE h2.2 hl ?_⟩
 obtain ⟨t0, ht0⟩ : ∃ t0, p.terms[0]? = some t0 := by
  cases h : p.terms with
  | nil => rw [h] at ht; cases ht
  | cons a l => exact ⟨a, rfl⟩
 obtain ⟨u0, hu0⟩ : ∃ u0, q.terms[0]? = some u0 := by
  cases h : q.terms with
  | nil => rw [h] at hu; cases hu
  | cons a l => exact ⟨a, rfl⟩
 have := hd t0 u0 ht0 hu0;have := hp.topm ht0 ht;have := hq.topm hu0 hu;omega
end Go.AL
namespace Go.Proofs.YtmmfloplhopioaaGreat
open Go.AL
abbrev smR (V : Int) (e : List Int) (xs : List ME) (c : Nat) : List (AL.Id × Bx) := [(900, .cells [aN V, .mp 901] 249), (901, bM xs c), (902, .row 1 eI e 3)]
theorem sAddR_io (V : Int) (xs : List ME) (clock : Nat) (c : Int) (e : List Int) (hc : Fit c) (hxs : ∀ p ∈ xs, Fit p.2.1) (he : e.length ≤ 32) (res : Res) (bx' : List (AL.Id × Bx))
  (hr1 : Fit (getM (expK e he) xs + c) → res = .ret (.tup []) ∧ bx' = smR V e (setM (expK e he) (getM (expK e he) xs + c) clock xs) (putC (expK e he) clock xs))
  (hr2 : ¬ Fit (getM (expK e he) xs + c) → res = .thr (thrown 4) ∧ bx' = smR V e xs clock) :
  IoFn Tryz.prog 213 [.ptr 900 0, aX c, .row 902] (smR V e xs clock) res bx' := by
 have hg : Fit (getM (expK e he) xs) := by
  unfold getM
  cases hf : findM (expK e he) xs 0 with
  | none => exact Fit.zero
  | some q => obtain ⟨j, p⟩ := q; exact hxs p (List.mem_of_getElem? (findM_get hf).2.1)
 have hle : match findM (expK e he) xs 0 with | some (_, p) => (aX p.2.1).Le (aX (getM (expK e he) xs)) | none => (AV.agg [aB false, .v (.slice none 0 0)]).Le (aX (getM (expK e he) xs)) := by
  unfold getM
  cases hf : findM (expK e he) xs 0 with
  | none => exact aX_zero
  | some q => exact AV.Le.refl _
 by_cases hfit : Fit (getM (expK e he) xs + c)
 ·obtain ⟨rfl, rfl⟩ := hr1 hfit;refine IoFn.of_body Tryz.func213 rfl Tryz.ntmps213 rfl rfl rfl ?_;refine AWP.seqS ?_;(repeat' (first |apply qn |apply qr |refine qe ?_|fail));refine ⟨?_⟩;refine AWP.seqS ?_;(repeat' (first |apply qn |apply qr |refine qe ?_|fail));refine ⟨?_⟩;refine AWP.seq ?_;refine AWP.arrCopyR rfl rfl rfl rfl rfl rfl rfl rfl rfl rfl rfl rfl rfl rfl rfl rfl rfl rfl rfl rfl rfl rfl rfl rfl (by intro h; cases h) (fun _ => rfl) (fun _ => rfl) (by omega) (expK_cells e he) ?_;refine AWP.seq ?_;(repeat' (first |refine qv ?_ |apply qr));refine Fl.lookup (v := aX (getM (expK e he) xs)) rfl rfl rfl rfl rfl rfl key_law (expK e he) (AV.Le.refl _) rfl ?_ (fun _ => rfl) rfl rfl ?_
  ·revert hle; generalize findM (expK e he) xs 0 = r; cases r <;> exact id
  (repeat' (first |refine qv ?_|fail));refine qc (xAdd_ret _ _ hg hc hfit) ?_;skip;refine Fl.mupd rfl rfl rfl rfl key_law (expK e he) (AV.Le.refl _) rfl (getM (expK e he) xs + c) (AV.Le.refl _) rfl rfl rfl ?_;(repeat' (first |refine qv ?_ |refine Fl.nil (fun _ => by kernel_rfl) ?_ |apply qs |apply qr));refine Fl.lookup (v := aX (getM (expK e he) xs + c)) rfl rfl rfl rfl rfl rfl key_law (expK e he) (AV.Le.refl _) rfl ?_ (fun _ => rfl) rfl rfl ?_
  ·obtain ⟨j, p, h1, h2⟩ := findM_put (expK e he) (getM (expK e he) xs + c) clock xs;rw [h1];exact AV.Le.of_eq (by rw [h2])
  skip;refine qc (ZeroX_ok _) ?_;(repeat' (first |refine qv ?_ |refine Fl.nil (fun _ => by kernel_rfl) ?_ |apply qr |(refine AWP.condD rfl ?_ ?_ <;> intro _ <;> try (exfalso; omega)) |apply qk))
  ·rename_i h0;refine Fl.mdel rfl rfl rfl rfl key_law (expK e he) (AV.Le.refl _) rfl rfl rfl ?_;(repeat' (first |refine Fl.nil (fun _ => by kernel_rfl) ?_|fail));refine ⟨⟨[], _, _, Ent.refl _ _ _, rfl, AV.Le.refl _, rfl, ⟨⟨⟨_, rfl, BLe.cells (LeL.refl _)⟩, rfl⟩, ⟨⟨_, rfl, BLe.map ?_ rfl⟩, rfl⟩, ⟨⟨_, rfl, BLe.row rfl⟩, rfl⟩, trivial⟩, rfl, rfl⟩⟩;unfold setM; rw [if_pos h0]
  ·rename_i h0;refine ⟨⟨[], _, _, Ent.refl _ _ _, rfl, AV.Le.refl _, rfl, ⟨⟨⟨_, rfl, BLe.cells (LeL.refl _)⟩, rfl⟩, ⟨⟨_, rfl, BLe.map ?_ rfl⟩, rfl⟩, ⟨⟨_, rfl, BLe.row rfl⟩, rfl⟩, trivial⟩, rfl, rfl⟩⟩;unfold setM; rw [if_neg h0]
 ·obtain ⟨rfl, rfl⟩ := hr2 hfit;refine IoFn.of_body Tryz.func213 rfl Tryz.ntmps213 rfl rfl rfl ?_;refine AWP.seqS ?_;(repeat' (first |apply qn |apply qr |refine qe ?_|fail));refine ⟨?_⟩;refine AWP.seqS ?_;(repeat' (first |apply qn |apply qr |refine qe ?_|fail));refine ⟨?_⟩;refine AWP.seq ?_;refine AWP.arrCopyR rfl rfl rfl rfl rfl rfl rfl rfl rfl rfl rfl rfl rfl rfl rfl rfl rfl rfl rfl rfl rfl rfl rfl rfl (by intro h; cases h) (fun _ => rfl) (fun _ => rfl) (by omega) (expK_cells e he) ?_;refine AWP.seq ?_;(repeat' (first |refine qv ?_ |apply qr));refine Fl.lookup (v := aX (getM (expK e he) xs)) rfl rfl rfl rfl rfl rfl key_law (expK e he) (AV.Le.refl _) rfl ?_ (fun _ => rfl) rfl rfl ?_
  ·revert hle; generalize findM (expK e he) xs 0 = r; cases r <;> exact id
  (repeat' (first |refine qv ?_|fail));exact Fl.thrC rfl [] (xAdd_thr _ _ hg hc hfit) rfl (LeL.refl _) rfl trivial rfl (fun _ => by kernel_rfl) (fun _ => rfl)
theorem sAddR_ret (V : Nat) (hV : V ≤ 32) (s : MS) (m : MOk V s.1 s.2) (u : UT) (hc : Fit u.1) (he : u.2.length = V) (hf : Fit (getM (exK u.2) s.1 + u.1)) :
  IoFn Tryz.prog 213 [.ptr 900 0, aX u.1, .row 902] (smR V u.2 s.1 s.2) (.ret (.tup [])) (smR V u.2 (stepM s u).1 (stepM s u).2) := by
 have h32 : u.2.length ≤ 32 := by omega
 rw [exK_eq h32] at hf;exact sAddR_io V s.1 s.2 u.1 u.2 hc m.fit h32 _ _ (fun _ => ⟨rfl, by simp only [stepM, exK_eq h32]⟩) (fun h => absurd hf h)
theorem sAddR_thr (V : Nat) (hV : V ≤ 32) (s : MS) (m : MOk V s.1 s.2) (u : UT) (hc : Fit u.1) (he : u.2.length = V) (hf : ¬ Fit (getM (exK u.2) s.1 + u.1)) :
  IoFn Tryz.prog 213 [.ptr 900 0, aX u.1, .row 902] (smR V u.2 s.1 s.2) (.thr (thrown 4)) (smR V u.2 s.1 s.2) := by
 have h32 : u.2.length ≤ 32 := by omega
 rw [exK_eq h32] at hf;exact sAddR_io V s.1 s.2 u.1 u.2 hc m.fit h32 _ _ (fun h => absurd h hf) (fun _ => ⟨rfl, rfl⟩)
end Go.Proofs.YtmmfloplhopioaaGreat
/- poly.times: the walk. -/
namespace Go.Proofs.YtmmfloplhopioaaGreat
open Go.AL
theorem set_mid {a b : List Int} {k : Nat} (v : Int) (m : Nat) (ha : a.length = k) (hb : k < b.length) (hm : m = k := by omega) : (a ++ b.drop k).set m v = a ++ ([v] ++ b.drop (k + 1)) := by
 subst hm;rw [List.set_append_right _ _ (by omega), ha, Nat.sub_self];congr 1;rw [List.drop_eq_getElem_cons hb];rfl
set_option maxHeartbeats 2000000 in
theorem times_io (V : Nat) (hV : V ≤ 32) (p q : PZ) (hwp : WP p) (hwq : WP q) (hp : OkP p) (hq : OkP q) (hpv : p.vars = V) (hqv : q.vars = V) (res : Res)
  (hr1 : ∀ r, ProdOk V p q r → res = .ret (aP r)) (hr2 : (¬ ∃ r, ProdOk V p q r) → res = .thr (thrown 4)) :
  IoFn Tryz.prog 190 [aP p, aP q] [] res [] := by
 have hfp : ∀ t ∈ p.terms, Fit (zval t.c) ∧ t.c = zOf (zval t.c) := fun t ht => by
  have := okZ_eq (hwp t ht) (hp.terms t ht).coef; exact ⟨this.2, this.1⟩
 have hfq : ∀ t ∈ q.terms, Fit (zval t.c) ∧ t.c = zOf (zval t.c) := fun t ht => by
  have := okZ_eq (hwq t ht) (hq.terms t ht).coef; exact ⟨this.2, this.1⟩
 have hplen := hp.len;have hqlen := hq.len;refine IoFn.of_body Tryz.func190 rfl Tryz.ntmps190 rfl rfl rfl ?_;refine AWP.seqS ?_;(repeat' (first |apply qn |apply qr |refine qe ?_|fail));refine ⟨?_⟩;refine AWP.seqS ?_;(repeat' (first |refine qv ?_ |apply qr));refine Fl.io rfl [(900, 710), (901, 711)] (empty_ok V) rfl rfl (LeL.cons (AV.Le.int hpv) LeL.nil) rfl trivial rfl rfl rfl rfl rfl ?_;(repeat' (first |refine qv ?_ |apply qn));refine ⟨?_⟩;refine AWP.seqS ?_;(repeat' (first |refine qv ?_ |apply qn |apply qr |refine Fl.make rfl rfl rfl rfl rfl rfl rfl rfl rfl rfl eI 0 (by exact LeL.refl _) (by rfl) (by first | omega | (dsimp only; omega)) (by first | omega | (dsimp only; omega)) (by first | omega | (dsimp only; omega)) ?_|fail));refine ⟨?_⟩;refine AWP.seqJ (G := Unit) (fun _ => DegOk p q) (fun _ => St.of [] [(2, .ptr 2 0), (3, .ptr 3 0), (4, .ptr 4 0), (5, .ptr 710 0), (6, .row 712)] [(2, .cells (eP p) 105), (3, .cells (eP q) 105), (4, .cells [aN 0, .v (.slice none 0 0)] 105), (710, .cells [aN V, .mp 711] 249), (711, bM [] 0), (712, .row 1 eI (List.replicate V 0) 3)]) ?_ ?_
 ·have hrep : List.replicate p.vars.toNat (0 : Int) = List.replicate V 0 := by rw [show p.vars.toNat = V by omega]
  (repeat' (first |refine qv ?_ |refine Fl.nil (fun _ => by kernel_rfl) ?_ |apply qs |apply qr |refine Fl.skip rfl rfl ?_ |refine AWP.condF rfl ?_ |apply qk |(refine Fl.el rfl rfl rfl rfl rfl rfl rfl rfl (by omega) (by omega) ?_; intro _ _) |(refine Fl.splitD rfl rfl ?_ ?_ <;> intro _ <;> try (exfalso; omega))))
  ·rename_i h1 h2 t ht;have ht : p.terms[0]? = some t := ht;have hot := hp.terms t (List.mem_of_getElem? ht);have hb1 := hot.deg;have hb2 := (sumL_bound hot.exps).1;have hb3 := hot.len;refine qc (degree_ok t hot.exps (by omega)) ?_;(repeat' (first |refine qv ?_ |(refine Fl.el rfl rfl rfl rfl rfl rfl rfl rfl (by omega) (by omega) ?_; intro _ _)|fail))
   all_goals
    rename_i u hu;have hu : q.terms[0]? = some u := hu;have hou := hq.terms u (List.mem_of_getElem? hu);have hc1 := hou.deg;have hc2 := (sumL_bound hou.exps).1;have hc3 := hou.len;refine qc (degree_ok u hou.exps (by omega)) ?_;(repeat' (first |refine qv ?_ |refine Fl.nil (fun _ => by kernel_rfl) ?_ |apply qr |refine qw ?_ |(refine AWP.condD rfl ?_ ?_ <;> intro _ <;> try (exfalso; omega)) |apply qk))
   ·rename_i hgt;have e1 := hr2 (by rintro ⟨r, hdd, _⟩; have := hdd t u ht hu; omega);subst e1;exact Fl.thrC rfl [] (Throw_ok 4) rfl (LeL.refl _) rfl trivial rfl (fun _ => by kernel_rfl) (fun _ => rfl)
   ·rename_i hgt;refine JoinOk.of () (fun t' u' h1' h2' => ?_) ?_
    ·rw [ht] at h1'; rw [hu] at h2'; injection h1' with h1'; injection h2' with h2'; subst h1' h2'; omega
    ·refine Ent.of [(712, 17)] ?_ ?_ rfl rfl;(repeat' (first |exact True.intro |refine ⟨⟨AV.Le.refl _, rfl⟩, ?_⟩ |refine ⟨⟨⟨_, rfl, BLe.cells (LeL.refl _)⟩, rfl⟩, ?_⟩ |refine ⟨⟨⟨_, rfl, BLe.map rfl rfl⟩, rfl⟩, ?_⟩ |refine ⟨⟨⟨_, rfl, BLe.row ?_⟩, rfl⟩, ?_⟩|fail));exact hrep
  ·rename_i h1 h2;refine JoinOk.of () (fun t' u' h1' h2' => ?_) ?_
   ·have := (List.getElem?_eq_some_iff.1 h2').1; omega
   ·refine Ent.of [(712, 17)] ?_ ?_ rfl rfl;(repeat' (first |exact True.intro |refine ⟨⟨AV.Le.refl _, rfl⟩, ?_⟩ |refine ⟨⟨⟨_, rfl, BLe.cells (LeL.refl _)⟩, rfl⟩, ?_⟩ |refine ⟨⟨⟨_, rfl, BLe.map rfl rfl⟩, rfl⟩, ?_⟩ |refine ⟨⟨⟨_, rfl, BLe.row ?_⟩, rfl⟩, ?_⟩|fail));exact hrep
  ·rename_i h1;refine JoinOk.of () (fun t' u' h1' h2' => ?_) ?_
   ·have := (List.getElem?_eq_some_iff.1 h1').1; omega
   ·refine Ent.of [(712, 17)] ?_ ?_ rfl rfl;(repeat' (first |exact True.intro |refine ⟨⟨AV.Le.refl _, rfl⟩, ?_⟩ |refine ⟨⟨⟨_, rfl, BLe.cells (LeL.refl _)⟩, rfl⟩, ?_⟩ |refine ⟨⟨⟨_, rfl, BLe.map rfl rfl⟩, rfl⟩, ?_⟩ |refine ⟨⟨⟨_, rfl, BLe.row ?_⟩, rfl⟩, ?_⟩|fail));exact hrep
 ·intro _ hd;(repeat' (first |refine qv ?_ |apply qn |apply qs |apply qr |apply qb))
  have hrowU : ∀ t ∈ p.terms, UOk V (rowU q.terms t) := fun t ht u hu => by
   obtain ⟨v, hv, rfl⟩ := List.mem_map.1 hu; exact timesU_ok hp hq hpv hqv hd ht hv
  have htU : ∀ i, UOk V ((p.terms.take i).flatMap (rowU q.terms)) := fun i u hu => by
   obtain ⟨t, ht, hu⟩ := List.mem_flatMap.1 hu;exact hrowU t (List.mem_of_mem_take ht) u hu
  refine AWP.loop (G := Nat × MS × List Int) (fun (i, s, ex) => i ≤ p.terms.length ∧ runM ((p.terms.take i).flatMap (rowU q.terms)) ([], 0) = some s ∧ ex.length = V ∧ ∀ j, j < i → ∀ t ∈ p.terms[j]?, ∀ u ∈ q.terms, Fit (zval t.c * zval u.c))
   (fun (i, s, ex) => St.of [] [(2, .ptr 2 0), (3, .ptr 3 0), (4, .ptr 4 0), (5, .ptr 710 0), (6, .row 712), (44, .sl 3 eT p.terms), (45, aN p.terms.length), (46, aN i)] [(2, .cells (eP p) 105), (3, .cells (eP q) 105), (4, .cells [aN 0, .v (.slice none 0 0)] 105), (710, .cells [aN V, .mp 711] 249), (711, bM s.1 s.2), (712, .row 1 eI ex 3)]) (fun (i, s, ex) => p.terms.length - i) (0, ([], 0), List.replicate V 0) ⟨by omega, by simp [runM], by simp, fun j hj => by omega⟩ ?_ ?_
  ·refine Ent.of [] ?_ ?_ rfl rfl;(repeat' (first |exact True.intro |refine ⟨⟨AV.Le.refl _, rfl⟩, ?_⟩ |refine ⟨⟨⟨_, rfl, BLe.cells (LeL.refl _)⟩, rfl⟩, ?_⟩ |refine ⟨⟨⟨_, rfl, BLe.row rfl⟩, rfl⟩, ?_⟩ |refine ⟨⟨⟨_, rfl, BLe.map rfl rfl⟩, rfl⟩, ?_⟩|fail))
  ·intro ⟨i, s, ex⟩ ⟨k0, k1, k2, k3⟩;by_cases hi : i < p.terms.length
   ·obtain ⟨t, ht⟩ : ∃ t, p.terms[i]? = some t := ⟨_, List.getElem?_eq_getElem hi⟩;have htm := List.mem_of_getElem? ht;have hot := hp.terms t htm;(repeat' (first |refine qv ?_ |apply qn |apply qs |apply qr |refine qe ?_ |(refine AWP.condD rfl ?_ ?_ <;> intro _ <;> try (exfalso; omega)) |apply qb |apply qk |refine qK ?_|fail));refine AWP.loop (G := Nat × MS × List Int) (fun (j, s', ex) => j ≤ q.terms.length ∧ runM ((rowU q.terms t).take j) s = some s' ∧ ex.length = V ∧ ∀ k, k < j → ∀ u ∈ q.terms[k]?, Fit (zval t.c * zval u.c))
     (fun (j, s', ex) => St.of [] [(2, .ptr 2 0), (3, .ptr 3 0), (4, .ptr 4 0), (5, .ptr 710 0), (6, .row 712), (44, .sl 3 eT p.terms), (45, aN p.terms.length), (46, aN i), (8, .ptr 8 0), (51, .sl 3 eT q.terms), (52, aN q.terms.length), (53, aN j)] [(2, .cells (eP p) 105), (3, .cells (eP q) 105), (4, .cells [aN 0, .v (.slice none 0 0)] 105), (710, .cells [aN V, .mp 711] 249), (711, bM s'.1 s'.2), (712, .row 1 eI ex 3), (8, .cells (eT t) 158)]) (fun (j, s', ex) => q.terms.length - j) (0, s, ex) ⟨by omega, by simp [runM], k2, fun j hj => by omega⟩ ?_ ?_
    ·refine Ent.of [] ?_ ?_ rfl rfl;(repeat' (first |exact True.intro |refine ⟨⟨AV.Le.refl _, rfl⟩, ?_⟩ |refine ⟨⟨⟨_, rfl, BLe.cells (LeL.refl _)⟩, rfl⟩, ?_⟩ |refine ⟨⟨⟨_, rfl, BLe.row rfl⟩, rfl⟩, ?_⟩ |refine ⟨⟨⟨_, rfl, BLe.map rfl rfl⟩, rfl⟩, ?_⟩|fail))
    ·intro ⟨j, s', ex'⟩ ⟨m0, m1, m2, m3⟩
     have hs1 : runM ((p.terms.take i).flatMap (rowU q.terms) ++ (rowU q.terms t).take j) ([], 0) = some s' := by rw [runM_append, k1]; exact m1
     have hmok := (runM_ok hV (MOk.nil V) (fun u hu => (List.mem_append.1 hu).elim (htU i u) (fun h => hrowU t htm u (List.mem_of_mem_take h))) hs1).1;by_cases hj : j < q.terms.length
     ·obtain ⟨u, hu⟩ : ∃ u, q.terms[j]? = some u := ⟨_, List.getElem?_eq_getElem hj⟩;have hum := List.mem_of_getElem? hu;have hou := hq.terms u hum;have htl := (hp.uok hpv htm).1;have hul := (hq.uok hqv hum).1
      have hadl : (addE t.e u.e).length = V := by rw [addE_length (by omega), htl]
      have hstop : ∀ b, timesU p q = (p.terms.take i).flatMap (rowU q.terms) ++ (rowU q.terms t).take j ++ uM t u :: ((rowU q.terms t).drop (j + 1) ++ b) → ¬ Fit (getM (exK (addE t.e u.e)) s'.1 + zval t.c * zval u.c) → ¬ ∃ r, ProdOk V p q r := by
       intro b he hf ⟨r, _, _, s2, h1, _⟩;rw [he, runM_stop hs1 hf] at h1
       cases h1
      have hsplit : timesU p q = (p.terms.take i).flatMap (rowU q.terms) ++ (rowU q.terms t).take j ++ uM t u :: ((rowU q.terms t).drop (j + 1) ++ (p.terms.drop (i + 1)).flatMap (rowU q.terms)) := by
       have e1 : p.terms = p.terms.take i ++ t :: p.terms.drop (i + 1) := by
        have := map_split id ht;simpa using this
       have e2 : rowU q.terms t = (rowU q.terms t).take j ++ uM t u :: (rowU q.terms t).drop (j + 1) := map_split (uM t) hu;unfold timesU
       conv => lhs; rw [e1, List.flatMap_append, List.flatMap_cons, e2]
       simp
      (repeat' (first |refine qv ?_ |apply qn |apply qs |apply qr |refine qe ?_ |(refine AWP.condD rfl ?_ ?_ <;> intro _ <;> try (exfalso; omega)) |apply qb |apply qk |refine qK ?_|fail));refine AWP.loop (G := Nat) (fun k => k ≤ V) (fun k => St.of [] [(2, .ptr 2 0), (3, .ptr 3 0), (4, .ptr 4 0), (5, .ptr 710 0), (6, .row 712), (44, .sl 3 eT p.terms), (45, aN p.terms.length), (46, aN i), (8, .ptr 8 0), (51, .sl 3 eT q.terms), (52, aN q.terms.length), (53, aN j), (10, .ptr 10 0), (58, aN V), (59, aN k)] [(2, .cells (eP p) 105), (3, .cells (eP q) 105), (4, .cells [aN 0, .v (.slice none 0 0)] 105), (710, .cells [aN V, .mp 711] 249), (711, bM s'.1 s'.2), (712, .row 1 eI ((addE t.e u.e).take k ++ ex'.drop k) 3), (8, .cells (eT t) 158), (10, .cells (eT u) 158)]) (fun k => V - k) 0 (by omega) ?_ ?_
      ·refine Ent.of [] ?_ ?_ rfl rfl;(repeat' (first |exact True.intro |refine ⟨⟨AV.Le.refl _, rfl⟩, ?_⟩ |refine ⟨⟨⟨_, rfl, BLe.cells (LeL.refl _)⟩, rfl⟩, ?_⟩ |refine ⟨⟨⟨_, rfl, BLe.row rfl⟩, rfl⟩, ?_⟩ |refine ⟨⟨⟨_, rfl, BLe.map rfl rfl⟩, rfl⟩, ?_⟩ |refine ⟨⟨AV.Le.int ?_, rfl⟩, ?_⟩|fail));omega
      ·intro k kk
       have hlk : ((addE t.e u.e).take k ++ ex'.drop k).length = V := by simp; omega
       by_cases hk : k < V
       ·obtain ⟨x, hx⟩ : ∃ x, t.e[k]? = some x := ⟨_, List.getElem?_eq_getElem (by omega)⟩;obtain ⟨y, hy⟩ : ∃ y, u.e[k]? = some y := ⟨_, List.getElem?_eq_getElem (by omega)⟩;have hx1 := hot.exps.get hx;have hy1 := hou.exps.get hy;(repeat' (first |refine qv ?_ |apply qn |refine Fl.nil (fun _ => by kernel_rfl) ?_ |apply qs |apply qr |refine qw ?_ |(refine AWP.condD rfl ?_ ?_ <;> intro _ <;> try (exfalso; omega)) |apply qb |apply qk |refine qK ?_ |refine Fl.rel rfl rfl rfl rfl rfl rfl rfl rfl (by omega) (by first | omega | (simp; omega)) ?_ |refine Fl.rst rfl rfl rfl rfl rfl rfl rfl rfl rfl rfl rfl (LeL.refl _) rfl (by first | omega | (simp; omega)) ?_|fail));refine LoopEnd.of (k + 1) (by omega) (by omega) ?_;refine Ent.of [] ?_ ?_ rfl rfl;(repeat' (first |exact True.intro |refine ⟨⟨AV.Le.refl _, rfl⟩, ?_⟩ |refine ⟨⟨⟨_, rfl, BLe.cells (LeL.refl _)⟩, rfl⟩, ?_⟩ |refine ⟨⟨⟨_, rfl, BLe.map rfl rfl⟩, rfl⟩, ?_⟩ |refine ⟨⟨⟨_, rfl, BLe.row ?_⟩, rfl⟩, ?_⟩|fail));have hg := addE_get hx hy;rw [take_snoc hg, List.append_assoc];exact set_mid _ _ (by rw [List.length_take]; omega) (by omega)
       ·have hrow : (addE t.e u.e).take k ++ ex'.drop k = addE t.e u.e := by
         rw [List.take_of_length_le (by omega), List.drop_of_length_le (by omega), List.append_nil]
        rw [hrow];clear hlk hrow;by_cases hmu : Fit (zval t.c * zval u.c)
        ·by_cases hf : Fit (getM (exK (addE t.e u.e)) s'.1 + zval t.c * zval u.c)
         ·(repeat' (first |refine qv ?_ |apply qn |apply qs |apply qr |(refine AWP.condD rfl ?_ ?_ <;> intro _ <;> try (exfalso; omega)) |apply qx));refine Fl.call rfl (xMul_ret _ _ (hfp t htm).1 (hfq u hum).1 hmu) rfl rfl rfl (LeL.cons (AV.Le.agg (leZ (σ := []) (hfp t htm).2)) (LeL.cons (AV.Le.agg (leZ (σ := []) (hfq u hum).2)) LeL.nil)) ?_;(repeat' (first |refine qv ?_|fail));refine Fl.io rfl [(900, 710), (901, 711), (902, 712)] (sAddR_ret V hV s' hmok (uM t u) hmu hadl hf) rfl rfl (LeL.refl _) rfl ⟨⟨⟨_, rfl, BLe.cells (LeL.refl _)⟩, rfl⟩, ⟨⟨_, rfl, BLe.map rfl rfl⟩, rfl⟩, ⟨⟨_, rfl, BLe.row rfl⟩, rfl⟩, trivial⟩ rfl rfl rfl rfl rfl ?_;(repeat' (first |refine qv ?_ |apply qn |apply qr |refine qw ?_|fail));refine LoopEnd.of (j + 1, stepM s' (uM t u), addE t.e u.e) ⟨by omega, by rw [show (rowU q.terms t).take (j + 1) = _ from take_map_snoc (uM t) hu]; exact runM_snoc m1 hf, hadl, fun k' hk' v hv => ?_⟩ (by simp only; omega) ?_
          ·rcases Nat.lt_succ_iff_lt_or_eq.1 hk' with h | h
           ·exact m3 k' h v hv
           ·subst h;rw [hu] at hv;injection hv with hv; subst hv; exact hmu
          ·refine Ent.of [] ?_ ?_ rfl rfl;(repeat' (first |exact True.intro |refine ⟨⟨AV.Le.refl _, rfl⟩, ?_⟩ |refine ⟨⟨⟨_, rfl, BLe.cells (LeL.refl _)⟩, rfl⟩, ?_⟩ |refine ⟨⟨⟨_, rfl, BLe.row rfl⟩, rfl⟩, ?_⟩ |refine ⟨⟨⟨_, rfl, BLe.map rfl rfl⟩, rfl⟩, ?_⟩|fail))
         ·have e1 := hr2 (hstop _ hsplit hf);subst e1;(repeat' (first |refine qv ?_ |apply qn |apply qs |apply qr |(refine AWP.condD rfl ?_ ?_ <;> intro _ <;> try (exfalso; omega)) |apply qx));refine Fl.call rfl (xMul_ret _ _ (hfp t htm).1 (hfq u hum).1 hmu) rfl rfl rfl (LeL.cons (AV.Le.agg (leZ (σ := []) (hfp t htm).2)) (LeL.cons (AV.Le.agg (leZ (σ := []) (hfq u hum).2)) LeL.nil)) ?_;(repeat' (first |refine qv ?_|fail));exact Fl.thrC rfl [(900, 710), (901, 711), (902, 712)] (sAddR_thr V hV s' hmok (uM t u) hmu hadl hf) rfl (LeL.refl _) rfl ⟨⟨⟨_, rfl, BLe.cells (LeL.refl _)⟩, rfl⟩, ⟨⟨_, rfl, BLe.map rfl rfl⟩, rfl⟩, ⟨⟨_, rfl, BLe.row rfl⟩, rfl⟩, trivial⟩ rfl (fun _ => by kernel_rfl) (fun _ => rfl)
        ·have e1 := hr2 (by rintro ⟨r, _, hall, _⟩; exact hmu (hall t htm u hum));subst e1;(repeat' (first |refine qv ?_ |apply qn |apply qs |apply qr |(refine AWP.condD rfl ?_ ?_ <;> intro _ <;> try (exfalso; omega)) |apply qx));exact Fl.thrC rfl [] (xMul_thr _ _ (hfp t htm).1 (hfq u hum).1 hmu) rfl (LeL.cons (AV.Le.agg (leZ (hfp t htm).2)) (LeL.cons (AV.Le.agg (leZ (hfq u hum).2)) LeL.nil)) rfl trivial rfl (fun h => by cases h) (fun _ => rfl)
     ·have hti : (rowU q.terms t).take j = rowU q.terms t := List.take_of_length_le (by simp [rowU]; omega);rw [hti] at m1;(repeat' (first |refine qv ?_ |apply qn |apply qs |apply qr |refine qw ?_ |(refine AWP.condD rfl ?_ ?_ <;> intro _ <;> try (exfalso; omega)) |apply qx));refine LoopEnd.of (i + 1, s', ex') ⟨by omega, by rw [flatMap_take_succ _ ht, runM_append, k1]; exact m1, m2, fun j' hj' t' ht' u hu => ?_⟩ (by simp only; omega) ?_
      ·rcases Nat.lt_succ_iff_lt_or_eq.1 hj' with h | h
       ·exact k3 j' h t' ht' u hu
       ·subst h;rw [ht] at ht';injection ht' with ht'; subst ht';obtain ⟨k, hk⟩ := List.mem_iff_getElem?.1 hu;exact m3 k (by have := (List.getElem?_eq_some_iff.1 hk).1; omega) u hk
      ·refine Ent.of [] ?_ ?_ rfl rfl;(repeat' (first |exact True.intro |refine ⟨⟨AV.Le.refl _, rfl⟩, ?_⟩ |refine ⟨⟨⟨_, rfl, BLe.cells (LeL.refl _)⟩, rfl⟩, ?_⟩ |refine ⟨⟨⟨_, rfl, BLe.row rfl⟩, rfl⟩, ?_⟩ |refine ⟨⟨⟨_, rfl, BLe.map rfl rfl⟩, rfl⟩, ?_⟩|fail))
   ·have hti : p.terms.take i = p.terms := List.take_of_length_le (by omega);rw [hti] at k1;have hall : runM (timesU p q) ([], 0) = some s := k1
    have hprods : ∀ t ∈ p.terms, ∀ u ∈ q.terms, Fit (zval t.c * zval u.c) := fun t ht u hu => by
     obtain ⟨j, hj⟩ := List.mem_iff_getElem?.1 ht;exact k3 j (by have := (List.getElem?_eq_some_iff.1 hj).1; omega) t hj u hu
    have hmok := runM_ok hV (MOk.nil V) (us := timesU p q) (fun u hu => by
     obtain ⟨t, ht, hu⟩ := List.mem_flatMap.1 hu
     exact hrowU t ht u hu) hall
    have hlu : (timesU p q).length ≤ 3000 * 3000 := by
     have : (timesU p q).length = p.terms.length * q.terms.length := by
      unfold timesU;generalize p.terms = l
      induction l with
      | nil => simp
      | cons a l ih => rw [List.flatMap_cons, List.length_append, ih, List.length_cons]; simp [rowU, Nat.succ_mul]; omega
     rw [this];exact Nat.mul_le_mul hplen hqlen
    have hln := hmok.2;simp only [List.length_nil] at hln;by_cases hok : OkP ⟨V, sortT (s.1.map (tmM V))⟩
    ·have e1 := hr1 _ ⟨hd, hprods, s, hall, rfl, hok⟩;subst e1;(repeat' (first |refine qv ?_ |apply qn |apply qs |apply qr |(refine AWP.condD rfl ?_ ?_ <;> intro _ <;> try (exfalso; omega)) |apply qx));refine Fl.io rfl [(900, 710), (901, 711)] (sPoly_io V s.1 s.2 hmok.1 hV (by omega) _ _ (fun _ => ⟨rfl, rfl⟩) (fun h => absurd hok h)) rfl rfl (LeL.refl _) rfl ⟨⟨⟨_, rfl, BLe.cells (LeL.refl _)⟩, rfl⟩, ⟨⟨_, rfl, BLe.map rfl rfl⟩, rfl⟩, trivial⟩ rfl rfl rfl rfl rfl ?_;(repeat' (first |apply qn |refine qe ?_ |apply qt));exact ⟨⟨[], _, _, Ent.refl _ _ _, rfl, AV.Le.refl _, rfl, trivial, rfl, rfl⟩⟩
    ·have e1 := hr2 (by
      rintro ⟨r, _, _, s2, h1, h2, h3⟩;rw [hall] at h1;injection h1 with h1;subst h1
      exact hok (h2 ▸ h3))
     subst e1;(repeat' (first |refine qv ?_ |apply qn |apply qs |apply qr |(refine AWP.condD rfl ?_ ?_ <;> intro _ <;> try (exfalso; omega)) |apply qx));exact Fl.thrC rfl [(900, 710), (901, 711)] (sPoly_io V s.1 s.2 hmok.1 hV (by omega) _ _ (fun h => absurd h hok) (fun _ => ⟨rfl, rfl⟩)) rfl (LeL.refl _) rfl ⟨⟨⟨_, rfl, BLe.cells (LeL.refl _)⟩, rfl⟩, ⟨⟨_, rfl, BLe.map rfl rfl⟩, rfl⟩, trivial⟩ rfl (fun _ => by kernel_rfl) (fun _ => rfl)
end Go.Proofs.YtmmfloplhopioaaGreat
/- poly.both, tried, Add, Mul. -/
namespace Go.AL
structure RetD1 (n : Nat) (I : List Id) (tab : Tab) (rs : List ResultVar) (r : AV) (s : St) : Prop where
  out : ∃ s' r', Ent n I s s' ∧ resA tab s' rs = some r' ∧ r'.closed = true ∧ r'.Le r
def RetD (n : Nat) (I : List Id) (tab : Tab) (rs : List ResultVar) (r : AV) : Exit → St → Prop
  | .normal, s => RetD1 n I tab rs r s
  | .ret, s => RetD1 n I tab rs r s
  | _, _ => False
theorem RetD1.of {n : Nat} {I : List Id} {tab : Tab} {rs : List ResultVar} {r r' : AV} {s : St} (h1 : resA tab s rs = some r') (h2 : r'.Le r) (hc : r'.closed = true := by rfl) : RetD1 n I tab rs r s := ⟨s, r', Ent.refl _ _ _, h1, hc, h2⟩
section
variable {P : Program} {tab : Tab} {n : Nat}
theorem IoFn.of_bodyD [f : Facts P tab] {k : FuncId} {fn : Func} {c : Code} {args : List AV} {bxs : List (Id × Bx)} {r : AV} (hf : P.funcs[k]? = some fn) (hb : fn.body = some c) (hn : fn.ntmps = n) (hname : (fn.name == "runtime.NumGoroutine") = false) (hl : Nat.ble args.length n = true)
  (h : AWP P n (idsB bxs) c (RetD n (idsB bxs) tab fn.results.toList r) (St.initB args bxs)) : IoFn P k args bxs (.ret r) [] := by
 have hl := Nat.le_of_ble_eq_true hl;refine ⟨⟨fn, hf, hname, by rw [hb]; rfl⟩, fun w hp β us hw hbx hβn hr => ?_⟩;refine calls_of_wp hf hb ?_
 have hus : us.size = args.length := by rw [← Array.length_toList]; exact hr.length
 have hbase : Base ⟨w, hp, β, blksOf bxs β, []⟩ n (St.initB args bxs) { tmps := us ++ Array.replicate (fn.ntmps - us.size) undef, defers := [] } w hp β := by
  refine ⟨Evo.refl _ hw, Bt.le.refl _, fun i => ?_, hbx.box, hbx.apart, fun id B g hB hg => .inl ⟨id, B, hB, hg⟩, fun id hid => hβn id (fun hm => by rw [← memI_mem] at hm; simp only [St.initB] at hid; rw [hm] at hid; cases hid), by simp; omega, rfl⟩;simp only [St.initB];by_cases hi : i < us.size
  ·have hget : (us ++ Array.replicate (fn.ntmps - us.size) undef).getD i undef = us[i] := by
    simp [Array.getD_eq_getD_getElem?, Array.getElem?_append, hi]
   rw [hget];exact initE_rep args us.toList i _ hr (by simp [hi])
  ·rw [initE_any args i (by omega)];simp only [Rep]
 have hini : IniOk ⟨w, hp, β, blksOf bxs β, []⟩ (idsB bxs) := fun id hid => by
  rcases Classical.em (id ∈ idsB bxs) with hm | hm
  ·exact hm
  ·exact absurd (hβn id hm) hid
 refine wp_mono (h.out ⟨w, hp, β, blksOf bxs β, []⟩ _ w hp β hini hbase) fun e a' w' ⟨s', h', β', b, q⟩ => ?_
 have fin : RetD1 n (idsB bxs) tab fn.results.toList r s' → a'.defers = [] ∧ ∃ v, (results fn a'.tmps).run P w' = .ok v w' ∧ ∃ h' β', β.le β' ∧ Evo (blksOf bxs β) w hp w' h' ∧ ∃ u, Ending.returned v = .returned u ∧ BoxesAt w' h' β' [] ∧ Rep h' β' r u ∧ ∀ id g, id ∉ idsB bxs → blk (β' id) = some g → w.heap.size ≤ g := by
  intro hq;obtain ⟨s2, r', hent, h1, hc, h2⟩ := hq.out;obtain ⟨h', β', b⟩ := hent _ _ _ _ _ hini b;obtain ⟨v, hv1, hv2⟩ := results_ok (P := P) b h1;refine ⟨b.defers, v, hv1, h', β, Bt.le.refl _, b.evo, v, rfl, ⟨fun id B hB => by simp [lookB] at hB, fun _ _ _ _ hB => by simp [lookB] at hB⟩, h2 _ _ _ (hv2.closed _ _ hc), fun id g hid hg => ?_⟩;rw [hβn id hid] at hg; simp [blk] at hg
 cases e with
 | normal => exact fin q
 | ret => exact fin q
 | _ => exact q.elim
end
end Go.AL
namespace Go.Proofs.YtmmfloplhopioaaGreat
open Go.AL
theorem aP_zero : (AV.agg [aN 0, .v (.slice none 0 0)]).Le (aP ⟨0, []⟩) := AV.Le.agg (LeL.cons (AV.Le.refl _) (LeL.cons (AV.Le.nil 3 eT) LeL.nil))
noncomputable def bothE (p q : PZ) : Int := @ite _ (OkP p ∧ OkP q) (Classical.propDecidable _) (if p.vars = q.vars then 0 else 2) 1
theorem bothE_bad {p q : PZ} (h : ¬ (OkP p ∧ OkP q)) : bothE p q = 1 := if_neg h
theorem bothE_ok {p q : PZ} (h1 : OkP p) (h2 : OkP q) : bothE p q = if p.vars = q.vars then 0 else 2 := if_pos ⟨h1, h2⟩
theorem both_ok (p q : PZ) (hwp : WP p) (hwq : WP q) : PureFn Tryz.prog 187 [aP p, aP q] (aN (bothE p q)) := by
 refine PureFn.of_body Tryz.func187 rfl Tryz.ntmps187 rfl rfl ?_;by_cases hp : OkP p
 ·by_cases hq : OkP q
  ·rw [bothE_ok hp hq];(repeat' (first |refine qv ?_ |apply qn |apply qs |apply qr |refine qe ?_|fail));refine qc (pValid_ok p hwp true (by simp [hp])) ?_;(repeat' (first |refine qv ?_|fail));refine qc (pValid_ok q hwq true (by simp [hq])) ?_;(repeat' (first |refine qv ?_ |apply qn |apply qs |apply qr |refine AWP.condF rfl ?_ |(refine AWP.condN rfl ?_ ?_ <;> intro _ <;> try (exfalso; omega)) |apply qk |apply qt))
   ·rename_i h; exact RetOk.of rfl (AV.Le.int (if_neg h).symm)
   ·rename_i h; exact RetOk.of rfl (AV.Le.int (if_pos h).symm)
  ·rw [bothE_bad (fun h => hq h.2)];(repeat' (first |refine qv ?_ |apply qn |apply qs |apply qr |refine qe ?_|fail));refine qc (pValid_ok p hwp true (by simp [hp])) ?_;(repeat' (first |refine qv ?_|fail));refine qc (pValid_ok q hwq false (by simp [hq])) ?_;(repeat' (first |refine qv ?_ |apply qn |apply qs |apply qr |refine AWP.condT rfl ?_ |apply qt));exact RetOk.of rfl (AV.Le.refl _)
 ·rw [bothE_bad (fun h => hp h.1)];(repeat' (first |refine qv ?_ |apply qn |apply qs |apply qr |refine qe ?_|fail));refine qc (pValid_ok p hwp false (by simp [hp])) ?_;(repeat' (first |refine qv ?_ |apply qn |apply qs |apply qr |refine Fl.skip rfl rfl ?_ |refine AWP.condT rfl ?_ |apply qt));exact RetOk.of rfl (AV.Le.refl _)
abbrev bPQ (p q : PZ) : List (AL.Id × Bx) := [(900, .cells (eP p) 105), (901, .cells (eP q) 105)]
abbrev bT (cf : FuncId) (p q : PZ) (o : List AV) : List (AL.Id × Bx) := [(902, .cells [.fn cf [.ptr 900 0, .ptr 901 0]] 209), (903, .cells o 105), (900, .cells (eP p) 105), (901, .cells (eP q) 105)]
theorem tried1_ret {cf : FuncId} {p q r : PZ} (h : IoFn Tryz.prog cf [.ptr 900 0, .ptr 901 0] (bPQ p q) (.ret (aP r)) (bPQ p q)) :
  IoFn Tryz.prog 210 [.ptr 902 0, .ptr 903 0] (bT cf p q [aN 0, .v (.slice none 0 0)]) (.ret (.tup [])) (bT cf p q (eP r)) := by
 refine IoFn.of_body Tryz.func210 rfl Tryz.ntmps210 rfl rfl rfl ?_;(repeat' (first |refine qv ?_ |apply qr));refine Fl.ioV rfl rfl [] h rfl rfl (LeL.refl _) rfl ⟨⟨⟨_, rfl, BLe.cells (LeL.refl _)⟩, rfl⟩, ⟨⟨_, rfl, BLe.cells (LeL.refl _)⟩, rfl⟩, trivial⟩ rfl rfl rfl rfl rfl ?_;(repeat' (first |apply qn |refine qe ?_|fail));exact ⟨⟨[], _, _, Ent.refl _ _ _, rfl, AV.Le.refl _, rfl, ⟨⟨⟨_, rfl, BLe.cells (LeL.refl _)⟩, rfl⟩, ⟨⟨_, rfl, BLe.cells (LeL.refl _)⟩, rfl⟩, ⟨⟨_, rfl, BLe.cells (LeL.refl _)⟩, rfl⟩, ⟨⟨_, rfl, BLe.cells (LeL.refl _)⟩, rfl⟩, trivial⟩, rfl, rfl⟩⟩
theorem tried1_thr {cf : FuncId} {p q : PZ} (h : IoFn Tryz.prog cf [.ptr 900 0, .ptr 901 0] (bPQ p q) (.thr (thrown 4)) (bPQ p q)) :
  IoFn Tryz.prog 210 [.ptr 902 0, .ptr 903 0] (bT cf p q [aN 0, .v (.slice none 0 0)]) (.thr (thrown 4)) (bT cf p q [aN 0, .v (.slice none 0 0)]) := by
 refine IoFn.of_body Tryz.func210 rfl Tryz.ntmps210 rfl rfl rfl ?_;(repeat' (first |refine qv ?_ |apply qr));exact Fl.thrV rfl rfl [] h rfl (LeL.refl _) rfl ⟨⟨⟨_, rfl, BLe.cells (LeL.refl _)⟩, rfl⟩, ⟨⟨_, rfl, BLe.cells (LeL.refl _)⟩, rfl⟩, trivial⟩ rfl (fun h => by cases h) (fun _ => rfl)
theorem tried_ret {cf : FuncId} {p q r : PZ} (h : IoFn Tryz.prog cf [.ptr 900 0, .ptr 901 0] (bPQ p q) (.ret (aP r)) (bPQ p q)) :
  IoFn Tryz.prog 188 [.fn cf [.ptr 900 0, .ptr 901 0]] (bPQ p q) (.ret (.tup [aP r, aN 0])) (bPQ p q) := by
 refine IoFn.of_body Tryz.func188 rfl Tryz.ntmps188 rfl rfl rfl ?_;(repeat' (first |refine qv ?_ |apply qn |apply qs |apply qr |refine qe ?_|fail));refine Fl.io rfl [(902, 1), (903, 4)] (Try_ret (tried1_ret h)) rfl rfl (LeL.refl _) rfl ⟨⟨⟨_, rfl, BLe.cells (LeL.refl _)⟩, rfl⟩, ⟨⟨_, rfl, BLe.cells (LeL.refl _)⟩, rfl⟩, ⟨⟨_, rfl, BLe.cells (LeL.refl _)⟩, rfl⟩, ⟨⟨_, rfl, BLe.cells (LeL.refl _)⟩, rfl⟩, trivial⟩ rfl rfl rfl rfl rfl ?_;(repeat' (first |refine qv ?_ |apply qn |apply qs |apply qr |refine qe ?_ |refine AWP.condF rfl ?_ |apply qk |apply qt));exact ⟨⟨[], _, _, Ent.refl _ _ _, rfl, AV.Le.refl _, rfl, ⟨⟨⟨_, rfl, BLe.cells (LeL.refl _)⟩, rfl⟩, ⟨⟨_, rfl, BLe.cells (LeL.refl _)⟩, rfl⟩, trivial⟩, rfl, rfl⟩⟩
theorem tried_thr {cf : FuncId} {p q : PZ} (h : IoFn Tryz.prog cf [.ptr 900 0, .ptr 901 0] (bPQ p q) (.thr (thrown 4)) (bPQ p q)) :
  IoFn Tryz.prog 188 [.fn cf [.ptr 900 0, .ptr 901 0]] (bPQ p q) (.ret (.tup [aP ⟨0, []⟩, aN 4])) [] := by
 refine IoFn.of_bodyD Tryz.func188 rfl Tryz.ntmps188 rfl rfl ?_;(repeat' (first |refine qv ?_ |apply qn |apply qs |apply qr |refine qe ?_|fail));refine Fl.io rfl [(902, 1), (903, 4)] (Try_thr (tried1_thr h)) rfl rfl (LeL.refl _) rfl ⟨⟨⟨_, rfl, BLe.cells (LeL.refl _)⟩, rfl⟩, ⟨⟨_, rfl, BLe.cells (LeL.refl _)⟩, rfl⟩, ⟨⟨_, rfl, BLe.cells (LeL.refl _)⟩, rfl⟩, ⟨⟨_, rfl, BLe.cells (LeL.refl _)⟩, rfl⟩, trivial⟩ rfl rfl rfl rfl rfl ?_;(repeat' (first |refine qv ?_ |apply qn |apply qs |apply qr |refine qe ?_ |refine AWP.condT rfl ?_ |apply qt));exact RetD1.of rfl (AV.Le.tup (LeL.cons aP_zero (LeL.refl _)))
theorem Mul1_io (V : Nat) (hV : V ≤ 32) (p q : PZ) (hwp : WP p) (hwq : WP q) (hp : OkP p) (hq : OkP q) (hpv : p.vars = V) (hqv : q.vars = V) (res : Res)
  (hr1 : ∀ r, ProdOk V p q r → res = .ret (aP r)) (hr2 : (¬ ∃ r, ProdOk V p q r) → res = .thr (thrown 4)) :
  IoFn Tryz.prog 189 [.ptr 900 0, .ptr 901 0] (bPQ p q) res (bPQ p q) := by
 have h := times_io V hV p q hwp hwq hp hq hpv hqv res hr1 hr2;refine IoFn.of_body Tryz.func189 rfl Tryz.ntmps189 rfl rfl rfl ?_;by_cases hg : ∃ r, ProdOk V p q r
 ·obtain ⟨r, hr⟩ := hg;have e1 := hr1 r hr;subst e1;(repeat' (first |refine qv ?_ |apply qn |apply qs |apply qr |refine qe ?_|fail));refine Fl.io rfl [] h rfl rfl (LeL.refl _) rfl trivial rfl rfl rfl rfl rfl ?_;(repeat' (first |apply qn |refine qe ?_ |apply qt));exact ⟨⟨[], _, _, Ent.refl _ _ _, rfl, AV.Le.refl _, rfl, ⟨⟨⟨_, rfl, BLe.cells (LeL.refl _)⟩, rfl⟩, ⟨⟨_, rfl, BLe.cells (LeL.refl _)⟩, rfl⟩, trivial⟩, rfl, rfl⟩⟩
 ·have e1 := hr2 hg;subst e1;(repeat' (first |refine qv ?_ |apply qn |apply qs |apply qr |refine qe ?_|fail));exact Fl.thrC rfl [] h rfl (LeL.refl _) rfl trivial rfl (fun h => by cases h) (fun _ => rfl)
theorem Add1_io (V : Nat) (hV : V ≤ 32) (p q : PZ) (hwp : WP p) (hwq : WP q) (hp : OkP p) (hq : OkP q) (hpv : p.vars = V) (hqv : q.vars = V) (res : Res)
  (hr1 : ∀ r, SumOk V (plusU 1 p q) r → res = .ret (aP r)) (hr2 : (¬ ∃ r, SumOk V (plusU 1 p q) r) → res = .thr (thrown 4)) :
  IoFn Tryz.prog 192 [.ptr 900 0, .ptr 901 0] (bPQ p q) res (bPQ p q) := by
 have h := plus_io V hV p q 1 fit_one hwp hwq hp hq hpv hqv (fun t ht => by rw [Int.mul_one]; exact (okZ_eq (hwq t ht) (hq.terms t ht).coef).2) res hr1 hr2;refine IoFn.of_body Tryz.func192 rfl Tryz.ntmps192 rfl rfl rfl ?_;by_cases hg : ∃ r, SumOk V (plusU 1 p q) r
 ·obtain ⟨r, hr⟩ := hg;have e1 := hr1 r hr;subst e1;(repeat' (first |refine qv ?_ |apply qn |apply qs |apply qr |refine qe ?_|fail));refine qc (Of_ok 1 (by omega) (by omega)) ?_;skip;refine Fl.io rfl [] h rfl rfl (LeL.refl _) rfl trivial rfl rfl rfl rfl rfl ?_;(repeat' (first |refine Fl.nil (fun _ => by kernel_rfl) ?_ |refine qe ?_ |apply qt));exact ⟨⟨[], _, _, Ent.refl _ _ _, rfl, AV.Le.refl _, rfl, ⟨⟨⟨_, rfl, BLe.cells (LeL.refl _)⟩, rfl⟩, ⟨⟨_, rfl, BLe.cells (LeL.refl _)⟩, rfl⟩, trivial⟩, rfl, rfl⟩⟩
 ·have e1 := hr2 hg;subst e1;(repeat' (first |refine qv ?_ |apply qn |apply qs |apply qr |refine qe ?_|fail));refine qc (Of_ok 1 (by omega) (by omega)) ?_;skip;exact Fl.thrC rfl [] h rfl (LeL.refl _) rfl trivial rfl (fun _ => by kernel_rfl) (fun _ => rfl)
theorem pMul_ok (V : Nat) (hV : V ≤ 32) (p q : PZ) (hwp : WP p) (hwq : WP q) (hp : OkP p) (hq : OkP q) (hpv : p.vars = V) (hqv : q.vars = V) (r : AV)
  (hr1 : ∀ x, ProdOk V p q x → r = .tup [aP x, aN 0]) (hr2 : (¬ ∃ x, ProdOk V p q x) → r = .tup [aP ⟨0, []⟩, aN 4]) :
  PureFn Tryz.prog 157 [aP p, aP q] r := by
 refine PureFn.of_body Tryz.func157 rfl Tryz.ntmps157 rfl rfl ?_;have hb := both_ok p q hwp hwq;rw [bothE_ok hp hq, if_pos (hpv.trans hqv.symm)] at hb;(repeat' (first |refine qv ?_ |apply qn |apply qs |apply qr |refine qe ?_|fail));refine qc (hb) ?_;(repeat' (first |refine qv ?_ |apply qn |apply qs |apply qr |refine AWP.condF rfl ?_ |apply qk));by_cases hg : ∃ x, ProdOk V p q x
 ·obtain ⟨x, hx⟩ := hg;rw [hr1 x hx]
  have hx' : ∀ y, ProdOk V p q y → (Res.ret (aP x)) = .ret (aP y) := fun y hy => by
   have := (hr1 x hx).symm.trans (hr1 y hy);injection this with this;injection this with this;rw [this]
  refine Fl.io rfl [(900, 2), (901, 3)] (tried_ret (Mul1_io V hV p q hwp hwq hp hq hpv hqv (.ret (aP x)) hx' (fun h => absurd ⟨x, hx⟩ h))) rfl rfl (LeL.refl _) rfl ⟨⟨⟨_, rfl, BLe.cells (LeL.refl _)⟩, rfl⟩, ⟨⟨_, rfl, BLe.cells (LeL.refl _)⟩, rfl⟩, trivial⟩ rfl rfl rfl rfl rfl ?_;(repeat' (first |refine qv ?_ |apply qn |refine qe ?_ |apply qt));exact RetOk.of rfl (AV.Le.refl _)
 ·rw [hr2 hg];refine Fl.io rfl [(900, 2), (901, 3)] (tried_thr (Mul1_io V hV p q hwp hwq hp hq hpv hqv _ (fun y hy => absurd ⟨y, hy⟩ hg) (fun _ => rfl))) rfl rfl (LeL.refl _) rfl ⟨⟨⟨_, rfl, BLe.cells (LeL.refl _)⟩, rfl⟩, ⟨⟨_, rfl, BLe.cells (LeL.refl _)⟩, rfl⟩, trivial⟩ rfl rfl rfl rfl rfl ?_;(repeat' (first |refine qv ?_ |apply qn |refine qe ?_ |apply qt));exact RetOk.of rfl (AV.Le.refl _)
theorem pAdd_ok (V : Nat) (hV : V ≤ 32) (p q : PZ) (hwp : WP p) (hwq : WP q) (hp : OkP p) (hq : OkP q) (hpv : p.vars = V) (hqv : q.vars = V) (r : AV)
  (hr1 : ∀ x, SumOk V (plusU 1 p q) x → r = .tup [aP x, aN 0]) (hr2 : (¬ ∃ x, SumOk V (plusU 1 p q) x) → r = .tup [aP ⟨0, []⟩, aN 4]) :
  PureFn Tryz.prog 160 [aP p, aP q] r := by
 refine PureFn.of_body Tryz.func160 rfl Tryz.ntmps160 rfl rfl ?_;have hb := both_ok p q hwp hwq;rw [bothE_ok hp hq, if_pos (hpv.trans hqv.symm)] at hb;(repeat' (first |refine qv ?_ |apply qn |apply qs |apply qr |refine qe ?_|fail));refine qc (hb) ?_;(repeat' (first |refine qv ?_ |apply qn |apply qs |apply qr |refine AWP.condF rfl ?_ |apply qk));by_cases hg : ∃ x, SumOk V (plusU 1 p q) x
 ·obtain ⟨x, hx⟩ := hg;rw [hr1 x hx]
  have hx' : ∀ y, SumOk V (plusU 1 p q) y → (Res.ret (aP x)) = .ret (aP y) := fun y hy => by
   have := (hr1 x hx).symm.trans (hr1 y hy);injection this with this;injection this with this;rw [this]
  refine Fl.io rfl [(900, 2), (901, 3)] (tried_ret (Add1_io V hV p q hwp hwq hp hq hpv hqv (.ret (aP x)) hx' (fun h => absurd ⟨x, hx⟩ h))) rfl rfl (LeL.refl _) rfl ⟨⟨⟨_, rfl, BLe.cells (LeL.refl _)⟩, rfl⟩, ⟨⟨_, rfl, BLe.cells (LeL.refl _)⟩, rfl⟩, trivial⟩ rfl rfl rfl rfl rfl ?_;(repeat' (first |refine qv ?_ |apply qn |refine qe ?_ |apply qt));exact RetOk.of rfl (AV.Le.refl _)
 ·rw [hr2 hg];refine Fl.io rfl [(900, 2), (901, 3)] (tried_thr (Add1_io V hV p q hwp hwq hp hq hpv hqv _ (fun y hy => absurd ⟨y, hy⟩ hg) (fun _ => rfl))) rfl rfl (LeL.refl _) rfl ⟨⟨⟨_, rfl, BLe.cells (LeL.refl _)⟩, rfl⟩, ⟨⟨_, rfl, BLe.cells (LeL.refl _)⟩, rfl⟩, trivial⟩ rfl rfl rfl rfl rfl ?_;(repeat' (first |refine qv ?_ |apply qn |refine qe ?_ |apply qt));exact RetOk.of rfl (AV.Le.refl _)
end Go.Proofs.YtmmfloplhopioaaGreat
/- The values of sums and products. -/
namespace Go.AL
theorem plop (v : Int) : plI v + opI v = v := by unfold plI opI; split <;> omega
theorem pv_sum (X : List Int) (p : PZ) : pv X p = sumL (p.terms.map (tv X)) := by
 unfold pv PS OS
 induction p.terms with
 | nil => rfl
 | cons t l ih =>
  have := plop (tv X t);simp only [List.map_cons, sumL] at ih ⊢; omega
theorem sumL_perm {l m : List Int} (h : l.Perm m) : sumL l = sumL m := by
 induction h with
 | nil => rfl
 | cons x _ ih => simp only [sumL, ih]
 | swap x y l => simp only [sumL]; omega
 | trans _ _ h1 h2 => exact h1.trans h2
def mv (X : List Int) (V : Nat) (xs : List ME) : Int := sumL (xs.map fun p => p.2.1 * prodE X (p.1.1.take V))
def uv (X : List Int) (us : List UT) : Int := sumL (us.map fun u => u.1 * prodE X u.2)
theorem uv_append (X : List Int) (a b : List UT) : uv X (a ++ b) = uv X a + uv X b := by simp [uv, sumL_append]
theorem mv_append (X : List Int) (V : Nat) (a b : List ME) : mv X V (a ++ b) = mv X V a + mv X V b := by simp [mv, sumL_append]
theorem mv_cons (X : List Int) (V : Nat) (p : ME) (b : List ME) : mv X V (p :: b) = p.2.1 * prodE X (p.1.1.take V) + mv X V b := rfl
theorem exK_take {e : List Int} {V : Nat} (h : e.length = V) (hV : V ≤ 32) : (exK e).1.take V = e := by
 rw [exK_eq (by omega)];show (e ++ List.replicate (32 - e.length) 0).take V = e;rw [← h]; simp
theorem mv_step (X : List Int) {V : Nat} (hV : V ≤ 32) (s : MS) (u : UT) (hl : u.2.length = V) : mv X V (stepM s u).1 = mv X V s.1 + u.1 * prodE X u.2 := by
 obtain ⟨xs, c⟩ := s;obtain ⟨a, e⟩ := u;show mv X V (setM (exK e) (getM (exK e) xs + a) c xs) = mv X V xs + a * prodE X e;simp only at hl;have hk : (exK e).1.take V = e := exK_take hl hV;rcases setM_cases (exK e) (getM (exK e) xs + a) c xs with ⟨h1, h2, h3⟩ | ⟨A, p, B, h1, h2, h3, h4, h5, h6⟩
 ·have hg : getM (exK e) xs = 0 := by unfold getM; rw [h1]
  rcases h3 with ⟨hy, h3⟩ | ⟨hy, h3⟩
  ·rw [h3]
   have : a = 0 := by omega
   subst this; simp
  ·rw [h3, mv_append, mv_cons, hg];show mv X V xs + ((0 + a) * prodE X ((exK e).1.take V) + 0) = _;rw [hk]; simp
 ·have hg : getM (exK e) xs = p.2.1 := by unfold getM; rw [h1]
  have hpk : p.1.1.take V = e := by rw [h3]; exact hk
  rcases h6 with ⟨hy, h6⟩ | ⟨hy, h6⟩
  ·rw [h6, h2, mv_append, mv_append, mv_cons, hpk]
   have : a = - p.2.1 := by omega
   show mv X V A + mv X V B = mv X V A + (p.2.1 * prodE X e + mv X V B) + a * prodE X e;rw [this, Int.neg_mul]; omega
  ·rw [h6, mv_append, mv_cons, hg]
   conv => rhs; rw [h2, mv_append, mv_cons, hpk]
   show mv X V A + ((p.2.1 + a) * prodE X ((exK e).1.take V) + mv X V B) = mv X V A + (p.2.1 * prodE X e + mv X V B) + a * prodE X e;rw [hk, Int.add_mul]; omega
theorem mv_run (X : List Int) {V : Nat} (hV : V ≤ 32) : ∀ {us : List UT} {s s' : MS}, UOk V us → runM us s = some s' → mv X V s'.1 = mv X V s.1 + uv X us
 | [], s, s', _, h => by
  simp only [runM] at h; injection h with h; subst h; simp [uv, sumL]
 | u :: us, s, s', hu, h => by
  unfold runM at h;split at h
  ·have := mv_run X hV (us := us) (fun v hv => hu v (by simp [hv])) h;rw [this, mv_step X hV s u (hu u (by simp)).1];show _ = mv X V s.1 + (u.1 * prodE X u.2 + uv X us);omega
  ·cases h
theorem tv_tmM (X : List Int) (V : Nat) (p : ME) : tv X (tmM V p) = p.2.1 * prodE X (p.1.1.take V) := by
 show zval (zOf p.2.1) * _ = _;rw [zval_zOf]; rfl
theorem SumOk.val {V : Nat} (hV : V ≤ 32) {us : List UT} {r : PZ} (h : SumOk V us r) (hu : UOk V us) (X : List Int) : pv X r = uv X us := by
 obtain ⟨s, h1, h2, h3⟩ := h;have := mv_run X hV hu h1;subst h2;rw [pv_sum];show sumL ((sortT (s.1.map (tmM V))).map (tv X)) = _;rw [sumL_perm ((sortT_perm _).map _), List.map_map];show sumL (s.1.map (fun p => tv X (tmM V p))) = _;rw [show (fun p => tv X (tmM V p)) = (fun (p : ME) => p.2.1 * prodE X (p.1.1.take V)) from funext (tv_tmM X V)];show mv X V s.1 = _;rw [this];simp [mv, sumL]
theorem prodE_add : ∀ {X a b : List Int}, EOk a → EOk b → a.length = b.length → prodE X (addE a b) = prodE X a * prodE X b
 | _, [], [], _, _, _ => by simp [addE, prodE]
 | _, [], _ :: _, _, _, h => by simp at h
 | _, _ :: _, [], _, _, h => by simp at h
 | [], x :: a, y :: b, _, _, _ => by simp [addE, prodE]
 | z :: X, x :: a, y :: b, ha, hb, h => by
  have hx := ha x (by simp);have hy := hb y (by simp);have := prodE_add (X := X) (a := a) (b := b) (fun e he => ha e (by simp [he])) (fun e he => hb e (by simp [he])) (by simpa using h);show z ^ (x + y).toNat * prodE X (addE a b) = z ^ x.toNat * prodE X a * (z ^ y.toNat * prodE X b);rw [this, show (x + y).toNat = x.toNat + y.toNat by omega, Int.pow_add];simp only [Int.mul_assoc, Int.mul_left_comm]
theorem SumOk.okp {V : Nat} {us : List UT} {r : PZ} (h : SumOk V us r) : OkP r ∧ r.vars = V ∧ WP r := by
 obtain ⟨s, h1, h2, h3⟩ := h;refine ⟨h3, by rw [h2], fun t ht => ?_⟩;rw [h2] at ht;obtain ⟨p, _, rfl⟩ := List.mem_map.1 ((sortT_perm _).mem_iff.1 ht);exact toW_ok _
end Go.AL
/- system.spread. -/
namespace Go.AL
def spr : Nat → Int → List Int → List Int → List Int
  | 0, _, _, _ => []
  | n + 1, k, v :: vs, x :: e => if v = k then x :: spr n (k + 1) vs e else 0 :: spr n (k + 1) (v :: vs) (x :: e)
  | n + 1, k, _, _ => 0 :: spr n (k + 1) [] []
def incK : Int → Int → List Int → Prop
  | _, _, [] => True
  | lo, hi, v :: vs => lo ≤ v ∧ v < hi ∧ incK (v + 1) hi vs
theorem incK.mono {lo lo' hi : Int} (h : lo' ≤ lo) : ∀ {vs : List Int}, incK lo hi vs → incK lo' hi vs
 | [], _ => trivial
 | _ :: _, ⟨h1, h2, h3⟩ => ⟨by omega, h2, h3⟩
theorem incK.imp_hi {lo hi hi' : Int} {vs : List Int} (h : incK lo hi vs) (e : hi = hi') : incK lo hi' vs := e ▸ h
theorem incK_of : ∀ {vs : List Int} {lo hi : Int}, incB lo hi vs → incK (lo + 1) hi vs
 | [], _, _, _ => trivial
 | v :: vs, lo, hi, ⟨h1, h2, h3⟩ => ⟨by omega, h2, incK_of h3⟩
theorem incK.up {k hi v : Int} {vs : List Int} (h : incK k hi (v :: vs)) (hv : ¬ v = k) : incK (k + 1) hi (v :: vs) := ⟨by have := h.1; omega, h.2.1, h.2.2⟩
theorem incK.tail {k hi v : Int} {vs : List Int} (h : incK k hi (v :: vs)) (hv : v = k) : incK (k + 1) hi vs := by have := h.2.2; rwa [hv] at this
theorem spr_sum : ∀ (n : Nat) (k : Int) (vs e : List Int), vs.length = e.length → incK k (k + n) vs → sumL (spr n k vs e) = sumL e
 | 0, k, vs, e, hl, h => by
  cases vs with
  | nil => cases e with
   | nil => rfl
   | cons _ _ => simp at hl
  | cons w vs => have := h.1; have := h.2.1; omega
 | n + 1, k, [], [], hl, h => by
  simp only [spr, sumL];have := spr_sum n (k + 1) [] [] rfl trivial;simp only [sumL] at this; omega
 | n + 1, k, w :: vs, y :: e, hl, h => by
  simp only [spr];by_cases hw : w = k
  ·rw [if_pos hw];have := spr_sum n (k + 1) vs e (by simpa using hl) ((h.tail hw).imp_hi (by omega));simp only [sumL, this]
  ·rw [if_neg hw];have := spr_sum n (k + 1) (w :: vs) (y :: e) hl ((h.up hw).imp_hi (by omega));simp only [sumL] at this ⊢; omega
 | _ + 1, _, [], _ :: _, hl, _ => by simp at hl
 | _ + 1, _, _ :: _, [], hl, _ => by simp at hl
theorem spr_cmp : ∀ (n : Nat) (k : Int) (vs a b : List Int), vs.length = a.length → vs.length = b.length → incK k (k + n) vs → cmpL (spr n k vs a) (spr n k vs b) = cmpL a b
 | 0, k, vs, a, b, ha, hb, h => by
  cases vs with
  | nil =>
   have h1 : a = [] := List.eq_nil_of_length_eq_zero (by simpa using ha.symm);have h2 : b = [] := List.eq_nil_of_length_eq_zero (by simpa using hb.symm);subst h1 h2; rfl
  | cons w vs => have := h.1; have := h.2.1; omega
 | n + 1, k, [], [], [], _, _, _ => cmpL_refl _
 | n + 1, k, w :: vs, x :: a, y :: b, ha, hb, h => by
  simp only [spr];by_cases hw : w = k
  ·rw [if_pos hw, if_pos hw];have := spr_cmp n (k + 1) vs a b (by simpa using ha) (by simpa using hb) ((h.tail hw).imp_hi (by omega));simp only [cmpL, this]
  ·rw [if_neg hw, if_neg hw];have := spr_cmp n (k + 1) (w :: vs) (x :: a) (y :: b) ha hb ((h.up hw).imp_hi (by omega))
   rw [show cmpL (0 :: spr n (k + 1) (w :: vs) (x :: a)) (0 :: spr n (k + 1) (w :: vs) (y :: b)) = cmpL (spr n (k + 1) (w :: vs) (x :: a)) (spr n (k + 1) (w :: vs) (y :: b)) by
    conv => lhs; unfold cmpL
    rw [if_pos (cmpI_zero.2 rfl)]]
   exact this
 | _ + 1, _, [], _ :: _, _, ha, _, _ => by simp at ha
 | _ + 1, _, [], [], _ :: _, _, hb, _ => by simp at hb
 | _ + 1, _, _ :: _, [], _, ha, _, _ => by simp at ha
 | _ + 1, _, _ :: _, _ :: _, [], _, hb, _ => by simp at hb
theorem spr_ord {n : Nat} {vs a b : List Int} (ha : vs.length = a.length) (hb : vs.length = b.length) (h : incK 0 n vs) : ordI (spr n 0 vs a) (spr n 0 vs b) = ordI a b := by
 have h' : incK 0 (0 + (n : Int)) vs := h.imp_hi (by omega);unfold ordI;rw [spr_sum n 0 vs a ha h', spr_sum n 0 vs b hb h', spr_cmp n 0 vs b a hb ha h']
end Go.AL
/- system.spread: the walk; what it returns is valid. -/
namespace Go.AL
end Go.AL
namespace Go.Proofs.YtmmfloplhopioaaGreat
open Go.AL
end Go.Proofs.YtmmfloplhopioaaGreat
/- system.One. -/
namespace Go.AL
theorem SumOk.uniq {V : Nat} {us : List UT} {x y : PZ} (h1 : SumOk V us x) (h2 : SumOk V us y) : x = y := by
 obtain ⟨s, a1, a2, _⟩ := h1;obtain ⟨t, b1, b2, _⟩ := h2;rw [a1] at b1; injection b1 with b1; subst b1;rw [a2, b2]
end Go.AL
namespace Go.Proofs.YtmmfloplhopioaaGreat
open Go.AL
end Go.Proofs.YtmmfloplhopioaaGreat
/- Polynomials with few small numbers: sums by inspection. -/
namespace Go.AL
abbrev tz (u : UT) : TZ := ⟨zOf u.1, u.2⟩
def mkP (V : Nat) (l : List UT) : PZ := ⟨V, l.map tz⟩
def cfU : List UT → List Int → Int
  | [], _ => 0
  | u :: us, e => (if u.2 = e then u.1 else 0) + cfU us e
def absU : List UT → Nat
  | [] => 0
  | u :: us => u.1.natAbs + absU us
theorem cfU_append : ∀ (a b : List UT) (e : List Int), cfU (a ++ b) e = cfU a e + cfU b e
 | [], b, e => by simp [cfU]
 | u :: a, b, e => by simp only [List.cons_append, cfU, cfU_append a b e]; omega
theorem cfU_abs : ∀ (us : List UT) (e : List Int), (cfU us e).natAbs ≤ absU us
 | [], _ => by simp [cfU, absU]
 | u :: us, e => by
  have := cfU_abs us e;simp only [cfU, absU];split <;> omega
theorem getM_of {k : Key} {A B : List ME} {p : ME} (hk : p.1 = k) (hA : ∀ q ∈ A, q.1 ≠ k) : getM k (A ++ p :: B) = p.2.1 := by
 unfold getM; rw [findM_hit hk 0 hA]
theorem getM_miss {k : Key} {xs : List ME} (h : ∀ q ∈ xs, q.1 ≠ k) : getM k xs = 0 := by
 unfold getM; rw [findM_miss 0 h]
def getR (k : Key) : List ME → Int
  | [] => 0
  | p :: xs => if k = p.1 then p.2.1 else getR k xs
theorem getM_R (k : Key) (xs : List ME) : getM k xs = getR k xs := by
 have : ∀ (xs : List ME) (i : Nat), (match findM k xs i with | some (_, p) => p.2.1 | none => (0 : Int)) = getR k xs := by
  intro xs
  induction xs with
  | nil => intro i; rfl
  | cons p xs ih =>
   intro i;unfold findM getR;by_cases h : k = p.1
   ·rw [if_pos h, if_pos h]
   ·rw [if_neg h, if_neg h]; exact ih (i + 1)
 exact this xs 0
theorem getM_step (s : MS) (u : UT) (V : Nat) (m : MOk V s.1 s.2) (k : Key) : getM k (stepM s u).1 = if k = exK u.2 then getM (exK u.2) s.1 + u.1 else getM k s.1 := by
 obtain ⟨xs, c⟩ := s;obtain ⟨a, e⟩ := u;show getM k (setM (exK e) (getM (exK e) xs + a) c xs) = _
 have other : ∀ (A B : List ME) (p q : ME), p.1 = exK e → q.1 = exK e → k ≠ exK e → getM k (A ++ p :: B) = getM k (A ++ q :: B) ∧ getM k (A ++ p :: B) = getM k (A ++ B) := by
  intro A B p q hp hq hk
  have f : ∀ (A : List ME) (r : ME), r.1 = exK e → getR k (A ++ r :: B) = getR k (A ++ B) := by
   intro A
   induction A with
   | nil => intro r hr; simp only [List.nil_append, getR]; rw [if_neg (by rw [hr]; exact hk)]
   | cons b A ih => intro r hr; simp only [List.cons_append, getR]; rw [ih r hr]
  simp only [getM_R];exact ⟨(f A p hp).trans (f A q hq).symm, f A p hp⟩
 rcases setM_cases (exK e) (getM (exK e) xs + a) c xs with ⟨h1, h2, h3⟩ | ⟨A, p, B, h1, h2, h3, h4, h5, h6⟩
 ·have hg : getM (exK e) xs = 0 := by unfold getM; rw [h1]
  have hno := findM_none h1;rcases h3 with ⟨hy, h3⟩ | ⟨hy, h3⟩
  ·rw [h3];split
   ·rename_i hk; rw [hk]; show getM (exK e) xs = getM (exK e) xs + a; omega
   ·rfl
  ·rw [h3];split
   ·rename_i hk; rw [hk]; exact getM_of (k := exK e) (A := xs) (B := []) (p := (exK e, getM (exK e) xs + a, c)) rfl hno
   ·rename_i hk;have := (other xs [] (exK e, getM (exK e) xs + a, c) (exK e, 0, 0) rfl rfl hk).2;rw [List.append_nil] at this;exact this
 ·have hg : getM (exK e) xs = p.2.1 := by rw [h2]; exact getM_of h3 h4
  have hB : ∀ q ∈ B, q.1 ≠ exK e := by
   have hk := m.keys;simp only at hk;rw [h2, List.pairwise_append, List.pairwise_cons] at hk;intro q hq e';exact hk.2.1.1 q hq (by rw [h3, e'])
  rcases h6 with ⟨hy, h6⟩ | ⟨hy, h6⟩
  ·rw [h6];split
   ·rename_i hk;rw [hk, getM_miss (fun q hq => (List.mem_append.1 hq).elim (h4 q) (hB q))];show (0 : Int) = getM (exK e) xs + a;omega
   ·rename_i hk;rw [h2];exact (other A B p p h3 h3 hk).2.symm
  ·rw [h6];split
   ·rename_i hk;rw [hk]; exact getM_of (k := exK e) (A := A) (B := B) (p := (exK e, getM (exK e) xs + a, p.2.2)) rfl h4
   ·rename_i hk;rw [h2];exact (other A B (exK e, getM (exK e) (A ++ p :: B) + a, p.2.2) p rfl h3 hk).1
theorem exK_inj {V : Nat} {a b : List Int} (ha : a.length = V) (hb : b.length = V) (hV : V ≤ 32) (h : exK a = exK b) : a = b := by
 rw [exK_eq (by omega), exK_eq (by omega)] at h;exact expK_inj (by omega) h
theorem runM_cf {V : Nat} (hV : V ≤ 32) : ∀ (us : List UT) (s : MS) (pre : List UT), MOk V s.1 s.2 → UOk V us → (∀ e : List Int, e.length = V → getM (exK e) s.1 = cfU pre e) → absU pre + absU us < 4294967296 →
  ∃ s', runM us s = some s' ∧ MOk V s'.1 s'.2 ∧ ∀ e : List Int, e.length = V → getM (exK e) s'.1 = cfU (pre ++ us) e
 | [], s, pre, m, _, hg, _ => ⟨s, rfl, m, by simpa using hg⟩
 | u :: us, s, pre, m, hu, hg, hab => by
  obtain ⟨hl, he⟩ := hu u (by simp);have hab' : absU pre + (u.1.natAbs + absU us) < 4294967296 := hab
  have hap : ∀ (a b : List UT), absU (a ++ b) = absU a + absU b := by
   intro a b
   induction a with
   | nil => simp [absU]
   | cons x a ih => simp only [List.cons_append, absU, ih]; omega
  have hf : Fit (getM (exK u.2) s.1 + u.1) := by
   rw [hg _ hl];have := cfU_abs pre u.2;exact fit_small (by omega) (by omega)
  have ms : MOk V (stepM s u).1 (stepM s u).2 := m.step hV hl he hf
  obtain ⟨s', h1, h2, h3⟩ := runM_cf hV us (stepM s u) (pre ++ [u]) ms (fun v hv => hu v (by simp [hv])) (fun e hel => by
   rw [getM_step s u V m, cfU_append];split
   ·rename_i hk;have := exK_inj hel hl hV hk;subst this;rw [hg _ hel]; simp [cfU]
   ·rename_i hk;have hne : ¬ u.2 = e := fun h => hk (by rw [h])
    rw [hg _ hel]; simp [cfU, hne]) (by rw [hap]; simp only [absU]; omega)
  refine ⟨s', ?_, h2, ?_⟩
  ·unfold runM; rw [if_pos hf]; exact h1
  ·simpa [List.append_assoc] using h3
end Go.AL
/- Sums by inspection: the lists that are asked for. -/
namespace Go.AL
theorem sorted_ext : ∀ {a b : List TZ}, a.Pairwise (fun x y => ordI x.e y.e < 0) → b.Pairwise (fun x y => ordI x.e y.e < 0) → (∀ t, t ∈ a ↔ t ∈ b) → a = b
 | [], [], _, _, _ => rfl
 | [], y :: b, _, _, h => by have := (h y).2 (by simp); cases this
 | x :: a, [], _, _, h => by have := (h x).1 (by simp); cases this
 | x :: a, y :: b, ha, hb, h => by
  rw [List.pairwise_cons] at ha hb
  have irr : ∀ t : TZ, ¬ ordI t.e t.e < 0 := fun t k => by rw [ordI_refl] at k; omega
  have hxy : x = y := by
   rcases List.mem_cons.1 ((h x).1 (by simp)) with h1 | h1
   ·exact h1
   ·rcases List.mem_cons.1 ((h y).2 (by simp)) with h2 | h2
    ·exact h2.symm
    ·exact absurd (ordI_trans (hb.1 x h1) (ha.1 y h2)) (irr y)
  subst hxy;rw [sorted_ext ha.2 hb.2 fun t => ?_];constructor
  ·intro ht;rcases List.mem_cons.1 ((h t).1 (by simp [ht])) with h1 | h1
   ·subst h1; exact absurd (ha.1 t ht) (irr t)
   ·exact h1
  ·intro ht;rcases List.mem_cons.1 ((h t).2 (by simp [ht])) with h1 | h1
   ·subst h1; exact absurd (hb.1 t ht) (irr t)
   ·exact h1
def sortedU : List UT → Bool
  | [] => true
  | u :: l => l.all (fun v => decide (ordI u.2 v.2 < 0)) && sortedU l
theorem sortedU_pw : ∀ {l : List UT}, sortedU l = true → l.Pairwise fun u v => ordI u.2 v.2 < 0
 | [], _ => List.Pairwise.nil
 | u :: l, h => by
  simp only [sortedU, Bool.and_eq_true, List.all_eq_true, decide_eq_true_eq] at h;exact List.pairwise_cons.2 ⟨h.1, sortedU_pw h.2⟩
def okU (V : Nat) (u : UT) : Bool := Nat.beq u.2.length V && u.2.all fun x => decide (0 ≤ x) && decide (x ≤ 120)
def chkU (V : Nat) (us l : List UT) : Bool :=
  us.all (okU V) && l.all (fun u => okU V u && decide (u.1 ≠ 0) && decide (sumL u.2 ≤ 120)) && sortedU l && decide (l.length ≤ 3000) && decide (absU us < 4294967296) && decide (absU l < 4294967296) && us.all (fun u => decide (cfU us u.2 = cfU l u.2)) && l.all (fun u => decide (cfU us u.2 = cfU l u.2))
theorem okU_ok {V : Nat} {u : UT} (h : okU V u = true) : u.2.length = V ∧ EOk u.2 := by
 simp only [okU, Bool.and_eq_true, List.all_eq_true, decide_eq_true_eq] at h;exact ⟨Nat.eq_of_beq_eq_true h.1, fun e he => h.2 e he⟩
theorem cfU_zero : ∀ {us : List UT} {e : List Int}, (∀ u ∈ us, u.2 ≠ e) → cfU us e = 0
 | [], _, _ => rfl
 | u :: us, e, h => by
  simp only [cfU, if_neg (h u (by simp)), cfU_zero (us := us) fun v hv => h v (by simp [hv])];rfl
theorem cfU_one : ∀ {l : List UT} {u : UT}, l.Pairwise (fun u v => ordI u.2 v.2 < 0) → u ∈ l → cfU l u.2 = u.1
 | v :: l, u, hp, hu => by
  rw [List.pairwise_cons] at hp;rcases List.mem_cons.1 hu with rfl | hu
  ·simp only [cfU, if_true];rw [cfU_zero (us := l) fun w hw k => by have := hp.1 w hw; rw [k, ordI_refl] at this; omega];omega
  ·have := hp.1 u hu
   have hne : ¬ v.2 = u.2 := fun k => by rw [k, ordI_refl] at this; omega
   simp only [cfU, if_neg hne, cfU_one hp.2 hu];omega
theorem cfU_mem {us : List UT} {e : List Int} (h : cfU us e ≠ 0) : ∃ u ∈ us, u.2 = e := by
 rcases Classical.em (∃ u ∈ us, u.2 = e) with k | k
 ·exact k
 ·exact absurd (cfU_zero fun u hu he => k ⟨u, hu, he⟩) h
theorem absU_mem : ∀ {l : List UT} {u : UT}, u ∈ l → u.1.natAbs ≤ absU l
 | v :: l, u, h => by
  rcases List.mem_cons.1 h with rfl | h
  ·simp only [absU]; omega
  ·have := absU_mem h; simp only [absU]; omega
theorem chkU_ok {V : Nat} (hV : V ≤ 32) {us l : List UT} (h : chkU V us l = true) : SumOk V us (mkP V l) := by
 simp only [chkU, Bool.and_eq_true, List.all_eq_true, decide_eq_true_eq] at h;obtain ⟨⟨⟨⟨⟨⟨⟨h1, h2⟩, h3⟩, h4⟩, h5⟩, h6⟩, h7⟩, h8⟩ := h;have hus : UOk V us := fun u hu => okU_ok (h1 u hu);have hpw := sortedU_pw h3;obtain ⟨s, r1, r2, r3⟩ := runM_cf hV us ([], 0) [] (MOk.nil V) hus (fun e _ => by simp [getM, findM, cfU]) (by simp only [absU]; omega);simp only [List.nil_append] at r3
 have hstr : (sortT (s.1.map (tmM V))).Pairwise fun a b => ordI a.e b.e < 0 := by
  have p1 := sortT_sorted (s.1.map (tmM V));have p2 := (List.Perm.pairwise_iff (fun h => Ne.symm h) (sortT_perm (s.1.map (tmM V)))).2 r2.parts;refine (p1.and p2).imp fun {a b} hab => ?_;rcases leT_iff.1 hab.1 with k | k
  ·exact k
  ·exact absurd k hab.2
 have hget : ∀ p ∈ s.1, getM p.1 s.1 = p.2.1 := by
  intro p hp;obtain ⟨A, B, hAB⟩ := List.append_of_mem hp;have hk := r2.keys;rw [hAB] at hk ⊢;rw [List.pairwise_append] at hk;exact getM_of rfl fun q hq => hk.2.2 q hq p (by simp)
 have hl : sortT (s.1.map (tmM V)) = l.map tz := by
  refine sorted_ext hstr (by rw [List.pairwise_map]; exact hpw) fun t => ?_;rw [(sortT_perm _).mem_iff];constructor
  ·intro ht;obtain ⟨p, hp, rfl⟩ := List.mem_map.1 ht;obtain ⟨e, he, k1, k2, k3⟩ := r2.exp p hp
   have hc : cfU us e = p.2.1 := by
    rw [← r3 e k2, exK_eq he, ← k1]; exact hget p hp
   obtain ⟨u, hu, hue⟩ := cfU_mem (us := us) (e := e) (by rw [hc]; exact r2.nz p hp)
   have hc2 : cfU l e = p.2.1 := by rw [← hc, ← hue]; exact (h7 u hu).symm
   obtain ⟨v, hv, hve⟩ := cfU_mem (us := l) (e := e) (by rw [hc2]; exact r2.nz p hp);have hv1 := cfU_one hpw hv;rw [hve, hc2] at hv1;refine List.mem_map.2 ⟨v, hv, ?_⟩;have he2 := tmM_exp k1 k2;show (⟨zOf v.1, v.2⟩ : TZ) = tmM V p;rw [← hv1, hve];show (⟨zOf p.2.1, e⟩ : TZ) = ⟨zOf p.2.1, (tmM V p).e⟩;rw [he2]
  ·intro ht;obtain ⟨v, hv, rfl⟩ := List.mem_map.1 ht;have hv2 := h2 v hv;obtain ⟨hl1, _⟩ := okU_ok hv2.1.1
   have hc : getM (exK v.2) s.1 = v.1 := by rw [r3 _ hl1, h8 v hv]; exact cfU_one hpw hv
   unfold getM at hc
   cases hf : findM (exK v.2) s.1 0 with
   | none => rw [hf] at hc; exact absurd hc.symm hv2.1.2
   | some q =>
    obtain ⟨j, p⟩ := q;rw [hf] at hc;have hc : p.2.1 = v.1 := hc;obtain ⟨_, g1, g2⟩ := findM_get hf;refine List.mem_map.2 ⟨p, List.mem_of_getElem? g1, ?_⟩
    have h32 : v.2.length ≤ 32 := by omega
    have he2 := tmM_exp (V := V) (p := p) (he := h32) (by rw [← exK_eq h32]; exact g2) hl1;show (⟨zOf p.2.1, (tmM V p).e⟩ : TZ) = ⟨zOf v.1, v.2⟩;rw [he2, hc]
 refine ⟨s, r1, by rw [hl]; rfl, ⟨by simp [mkP], by simp [mkP]; omega, by simpa [mkP] using h4, fun t ht => ?_, fun i a b ha hb => ?_⟩⟩
 ·obtain ⟨v, hv, rfl⟩ := List.mem_map.1 ht;obtain ⟨⟨k1, k2⟩, k3⟩ := h2 v hv;obtain ⟨hl1, hl2⟩ := okU_ok k1;have hb := absU_mem hv;have hf : Fit v.1 := fit_small (by omega) (by omega);refine ⟨okZ_zOf hf, fun hz => k2 ?_, by simp [mkP, hl1], hl2, k3⟩;have := (toW_nil_iff (show (0 : Int) ≤ v.1.natAbs by omega)).1 (List.eq_nil_of_length_eq_zero hz);omega
 ·simp only [mkP, List.getElem?_map, Option.map_eq_some_iff] at ha hb;obtain ⟨u, hu, rfl⟩ := ha;obtain ⟨v, hv, rfl⟩ := hb;rw [List.pairwise_iff_getElem] at hpw;have hi := (List.getElem?_eq_some_iff.1 hu);have hj := (List.getElem?_eq_some_iff.1 hv);have := hpw i (i + 1) hi.1 hj.1 (by omega);rw [hi.2, hj.2] at this;exact this
theorem plusU_mk (b : Int) (V : Nat) (a l : List UT) : plusU b (mkP V a) (mkP V l) = a ++ l.map fun u => (u.1 * b, u.2) := by
 unfold plusU mkP;simp only [List.map_map];congr 1
 ·conv => rhs; rw [← List.map_id a]
  exact List.map_congr_left fun u _ => by show (zval (zOf u.1), u.2) = u; rw [zval_zOf]
 ·exact List.map_congr_left fun u _ => by show (zval (zOf u.1) * b, u.2) = _; rw [zval_zOf]
theorem timesU_mk (V : Nat) (a l : List UT) : timesU (mkP V a) (mkP V l) = a.flatMap fun t => l.map fun u => (t.1 * u.1, addE t.2 u.2) := by
 unfold timesU mkP rowU;rw [List.flatMap_map];congr 1;funext t;rw [List.map_map];refine List.map_congr_left fun u _ => ?_;show (zval (zOf t.1) * zval (zOf u.1), addE t.2 u.2) = _;rw [zval_zOf, zval_zOf]
end Go.AL
/- Add and Mul of polynomials with few small numbers. -/
namespace Go.AL
def insU (u : UT) : List UT → List UT
  | [] => if u.1 = 0 then [] else [u]
  | v :: l => if ordI u.2 v.2 < 0 then (if u.1 = 0 then v :: l else u :: v :: l) else if u.2 = v.2 then (if u.1 + v.1 = 0 then l else (u.1 + v.1, u.2) :: l) else v :: insU u l
def canU (us : List UT) : List UT := us.foldr insU []
def addUs (b : Int) (p q : List UT) : List UT := p ++ q.map fun u => (u.1 * b, u.2)
def mulUs (p q : List UT) : List UT := p.flatMap fun t => q.map fun u => (t.1 * u.1, addE t.2 u.2)
def addL (p q : List UT) : List UT := canU (addUs 1 p q)
def subL (p q : List UT) : List UT := canU (addUs (-1) p q)
def mulL2 (p q : List UT) : List UT := canU (mulUs p q)
theorem mk_ok {V : Nat} (hV : V ≤ 32) {l : List UT} (h : chkU V l l = true) : OkP (mkP V l) ∧ (mkP V l).vars = V ∧ WP (mkP V l) := (chkU_ok hV h).okp
def degU (p q : List UT) : Bool := match p, q with
  | t :: _, u :: _ => decide (sumL t.2 + sumL u.2 ≤ 120)
  | _, _ => true
theorem degU_ok {V : Nat} {p q : List UT} (h : degU p q = true) : DegOk (mkP V p) (mkP V q) := by
 intro t u ht hu
 cases p with
 | nil => simp [mkP] at ht
 | cons a p =>
  cases q with
  | nil => simp [mkP] at hu
  | cons b q =>
   simp only [mkP, List.map_cons, List.getElem?_cons_zero, Option.some.injEq] at ht hu;subst ht hu;simpa [degU] using h
end Go.AL
namespace Go.Proofs.YtmmfloplhopioaaGreat
open Go.AL
theorem addMk (V : Nat) (hV : V ≤ 32) (p q l : List UT) (hp : chkU V p p = true) (hq : chkU V q q = true) (h : chkU V (addUs 1 p q) l = true) : PureFn Tryz.prog 160 [aP (mkP V p), aP (mkP V q)] (.tup [aP (mkP V l), aN 0]) := by
 obtain ⟨p1, p2, p3⟩ := mk_ok hV hp;obtain ⟨q1, q2, q3⟩ := mk_ok hV hq
 have hs : SumOk V (plusU 1 (mkP V p) (mkP V q)) (mkP V l) := by rw [plusU_mk]; exact chkU_ok hV h
 exact pAdd_ok V hV _ _ p3 q3 p1 q1 p2 q2 _ (fun x hx => by rw [hs.uniq hx]) (fun k => absurd ⟨_, hs⟩ k)
theorem mulMk (V : Nat) (hV : V ≤ 32) (p q l : List UT) (hp : chkU V p p = true) (hq : chkU V q q = true) (hd : degU p q = true) (h : chkU V (mulUs p q) l = true) : PureFn Tryz.prog 157 [aP (mkP V p), aP (mkP V q)] (.tup [aP (mkP V l), aN 0]) := by
 obtain ⟨p1, p2, p3⟩ := mk_ok hV hp;obtain ⟨q1, q2, q3⟩ := mk_ok hV hq
 have hs : SumOk V (timesU (mkP V p) (mkP V q)) (mkP V l) := by rw [timesU_mk]; exact chkU_ok hV h
 have hpr : ∀ t ∈ (mkP V p).terms, ∀ u ∈ (mkP V q).terms, Fit (zval t.c * zval u.c) := by
  intro t ht u hu;obtain ⟨a, ha, rfl⟩ := List.mem_map.1 ht;obtain ⟨b, hb, rfl⟩ := List.mem_map.1 hu;show Fit (zval (zOf a.1) * zval (zOf b.1));rw [zval_zOf, zval_zOf];have hm : (a.1 * b.1, addE a.2 b.2) ∈ mulUs p q := List.mem_flatMap.2 ⟨a, ha, List.mem_map.2 ⟨b, hb, rfl⟩⟩;have h1 := absU_mem hm;simp only [chkU, Bool.and_eq_true, decide_eq_true_eq] at h;exact fit_small (by simp only at h1; omega) (by simp only at h1; omega)
 have hP : ProdOk V (mkP V p) (mkP V q) (mkP V l) := ⟨degU_ok hd, hpr, hs⟩;exact pMul_ok V hV _ _ p3 q3 p1 q1 p2 q2 _ (fun x hx => by rw [hs.uniq hx.2.2]) (fun k => absurd ⟨_, hP⟩ k)
end Go.Proofs.YtmmfloplhopioaaGreat
/- Polynomials by their coefficients: what is ordered and without zeros is told by them. -/
namespace Go.AL
structure CanU (l : List UT) : Prop where
  nz : ∀ u ∈ l, u.1 ≠ 0
  pw : l.Pairwise fun u v => ordI u.2 v.2 < 0
theorem CanU.nil : CanU [] := ⟨by simp, List.Pairwise.nil⟩
theorem CanU.tail {u : UT} {l : List UT} (h : CanU (u :: l)) : CanU l := ⟨fun v hv => h.nz v (by simp [hv]), (List.pairwise_cons.1 h.pw).2⟩
theorem CanU.head {u : UT} {l : List UT} (h : CanU (u :: l)) : ∀ v ∈ l, ordI u.2 v.2 < 0 := (List.pairwise_cons.1 h.pw).1
theorem CanU.cons {u : UT} {l : List UT} (h : CanU l) (h1 : u.1 ≠ 0) (h2 : ∀ v ∈ l, ordI u.2 v.2 < 0) : CanU (u :: l) := ⟨fun v hv => by
 rcases List.mem_cons.1 hv with rfl | hv
 ·exact h1
 ·exact h.nz v hv, List.pairwise_cons.2 ⟨h2, h.pw⟩⟩
theorem insU_mem {u v : UT} : ∀ {l : List UT}, v ∈ insU u l → v.2 = u.2 ∨ ∃ w ∈ l, v.2 = w.2
 | [], h => by
  unfold insU at h;split at h
  ·simp at h
  ·simp at h; exact .inl (by rw [h])
 | w :: l, h => by
  unfold insU at h;split at h
  ·split at h
   ·exact .inr ⟨v, h, rfl⟩
   ·rcases List.mem_cons.1 h with rfl | h
    ·exact .inl rfl
    ·exact .inr ⟨v, h, rfl⟩
  ·split at h
   ·split at h
    ·exact .inr ⟨v, by simp [h], rfl⟩
    ·rcases List.mem_cons.1 h with rfl | h
     ·exact .inl rfl
     ·exact .inr ⟨v, by simp [h], rfl⟩
   ·rcases List.mem_cons.1 h with rfl | h
    ·exact .inr ⟨v, by simp, rfl⟩
    ·rcases insU_mem h with h | ⟨x, hx, e⟩
     ·exact .inl h
     ·exact .inr ⟨x, by simp [hx], e⟩
theorem insU_can {u : UT} : ∀ {l : List UT}, CanU l → CanU (insU u l)
 | [], h => by
  unfold insU;split
  ·exact CanU.nil
  ·rename_i hz; exact CanU.nil.cons hz (by simp)
 | w :: l, h => by
  unfold insU;split
  ·rename_i ho;split
   ·exact h
   ·rename_i hz;refine h.cons hz fun v hv => ?_;rcases List.mem_cons.1 hv with rfl | hv
    ·exact ho
    ·exact ordI_trans ho (h.head v hv)
  ·rename_i ho;split
   ·rename_i he;split
    ·exact h.tail
    ·rename_i hz
     exact h.tail.cons hz fun v hv => by show ordI u.2 v.2 < 0; rw [he]; exact h.head v hv
   ·rename_i he;refine (insU_can h.tail).cons (h.nz w (by simp)) fun v hv => ?_;rcases insU_mem hv with h1 | ⟨x, hx, e⟩
    ·rw [h1];rcases ordI_total u.2 w.2 with k | k | k
     ·exact absurd k ho
     ·exact absurd k he
     ·exact k
    ·rw [e]; exact h.head x hx
theorem cfU_insU (u : UT) (e : List Int) : ∀ l : List UT, cfU (insU u l) e = (if u.2 = e then u.1 else 0) + cfU l e
 | [] => by
  unfold insU;split
  ·rename_i hz; simp [cfU, hz]
  ·simp [cfU]
 | w :: l => by
  unfold insU;split
  ·split
   ·rename_i hz; simp only [cfU]; rw [hz]; split <;> omega
   ·simp only [cfU]
  ·split
   ·rename_i he;split
    ·rename_i hz;simp only [cfU];rw [he];split <;> omega
    ·simp only [cfU];rw [he];split <;> omega
   ·simp only [cfU];rw [cfU_insU u e l];omega
theorem canU_can : ∀ us : List UT, CanU (canU us)
 | [] => CanU.nil
 | u :: us => insU_can (canU_can us)
theorem cfU_canU (e : List Int) : ∀ us : List UT, cfU (canU us) e = cfU us e
 | [] => rfl
 | u :: us => by
  show cfU (insU u (canU us)) e = _;rw [cfU_insU, cfU_canU e us];rfl
theorem canU_mem {v : UT} : ∀ {us : List UT}, v ∈ canU us → ∃ w ∈ us, v.2 = w.2
 | [], h => by simp [canU] at h
 | u :: us, h => by
  have h' : v ∈ insU u (canU us) := h;rcases insU_mem h' with h1 | ⟨x, hx, e⟩
  ·exact ⟨u, by simp, h1⟩
  ·obtain ⟨w, hw, e2⟩ := canU_mem hx;exact ⟨w, by simp [hw], by rw [e, e2]⟩
theorem zOf_inj {x y : Int} (h : zOf x = zOf y) : x = y := by
 have := congrArg zval h;rwa [zval_zOf, zval_zOf] at this
theorem tz_inj {u v : UT} (h : tz u = tz v) : u = v := by
 obtain ⟨a, e⟩ := u;obtain ⟨b, f⟩ := v;injection h with h1 h2;have h3 := zOf_inj h1;dsimp only at h2 h3;subst h2 h3;rfl
theorem CanU.mem_iff {l : List UT} (h : CanU l) (u : UT) : u ∈ l ↔ u.1 ≠ 0 ∧ cfU l u.2 = u.1 := by
 refine ⟨fun k => ⟨h.nz u k, cfU_one h.pw k⟩, fun ⟨k1, k2⟩ => ?_⟩;obtain ⟨v, hv, e⟩ := cfU_mem (us := l) (e := u.2) (by rw [k2]; exact k1);have := cfU_one h.pw hv;rw [e, k2] at this
 have : u = v := by cases u; cases v; simp_all
 rwa [this]
theorem CanU.pw_tz {l : List UT} (h : CanU l) : (l.map tz).Pairwise fun x y => ordI x.e y.e < 0 := List.pairwise_map.2 h.pw
theorem CanU.ext {a b : List UT} (ha : CanU a) (hb : CanU b) (h : ∀ e, cfU a e = cfU b e) : a = b := by
 have key : a.map tz = b.map tz := sorted_ext ha.pw_tz hb.pw_tz fun t => by
  simp only [List.mem_map];constructor
  ·rintro ⟨u, hu, rfl⟩;exact ⟨u, (hb.mem_iff u).2 (by rw [← h]; exact (ha.mem_iff u).1 hu), rfl⟩
  ·rintro ⟨u, hu, rfl⟩;exact ⟨u, (ha.mem_iff u).2 (by rw [h]; exact (hb.mem_iff u).1 hu), rfl⟩
 have inj : ∀ {a b : List UT}, a.map tz = b.map tz → a = b := by
  intro a
  induction a with
  | nil => intro b h; cases b with
   | nil => rfl
   | cons x b => simp at h
  | cons x a ih => intro b h; cases b with
   | nil => simp at h
   | cons y b =>
    simp only [List.map_cons, List.cons.injEq] at h;rw [tz_inj (u := x) (v := y) (by rw [tz, tz]; simpa using h.1), ih h.2]
 exact inj key
theorem CanU.eq_can {l us : List UT} (h : CanU l) (he : ∀ e, cfU l e = cfU us e) : l = canU us := h.ext (canU_can us) fun e => by rw [he, cfU_canU]
theorem CanU.can {l : List UT} (h : CanU l) : canU l = l := (h.eq_can fun _ => rfl).symm
end Go.AL
/- Division by words: plain. -/
namespace Go.AL
theorem kn_step {q r v1 v2 top u2 un V U Q Bn : Int} (hqr : q * v1 + r = top) (hr : 0 ≤ r) (hBn : 0 < Bn) (hV : (v1 * 4294967296 + v2) * Bn ≤ V) (hU : U < (top * 4294967296 + u2 + 1) * Bn) (hQ : Q * V ≤ U) (hQB : Q < 4294967296) (hV0 : 0 < V) (hv1 : 0 < v1) (hv2 : 0 ≤ v2) (hq0 : 0 ≤ q)
  (h : 4294967296 ≤ q ∨ r * 4294967296 + u2 < q * v2) : Q ≤ q - 1 := by
 rcases h with h | h
 ·omega
 ·have h1 : (q * v1 * 4294967296 + q * v2) * Bn ≤ q * V := by
   have e : (q * v1 * 4294967296 + q * v2) * Bn = q * ((v1 * 4294967296 + v2) * Bn) := by grind
   rw [e];exact Int.mul_le_mul_of_nonneg_left hV hq0
  have h2 : (top * 4294967296 + u2 + 1) * Bn ≤ (q * v1 * 4294967296 + q * v2) * Bn := by
   refine Int.mul_le_mul_of_nonneg_right ?_ (by omega)
   have : top * 4294967296 = q * v1 * 4294967296 + r * 4294967296 := by rw [← hqr]; grind
   omega
  have h3 : Q * V < q * V := by omega
  have h4 : Q < q := Int.lt_of_mul_lt_mul_right h3 (by omega);omega
theorem kn_stop {q r v1 v2 top u2 V U Q Bn : Int} (hqr : q * v1 + r = top) (hBn : 0 < Bn) (hV : V < (v1 * 4294967296 + v2 + 1) * Bn) (hVB : 4294967296 * Bn ≤ V) (hU : (top * 4294967296 + u2) * Bn ≤ U) (hQ : U < (Q + 1) * V) (hV0 : 0 < V) (hq0 : 0 ≤ q) (hqB : q < 4294967296)
  (h : q * v2 ≤ r * 4294967296 + u2) (hQ0 : 0 ≤ Q) : q ≤ Q + 1 := by
 have h1 : q * V ≤ q * ((v1 * 4294967296 + v2 + 1) * Bn) := Int.mul_le_mul_of_nonneg_left (by omega) hq0
 have h2 : q * ((v1 * 4294967296 + v2 + 1) * Bn) ≤ (top * 4294967296 + u2) * Bn + 4294967296 * Bn := by
  have e : q * ((v1 * 4294967296 + v2 + 1) * Bn) = (q * v1 * 4294967296 + q * v2 + q) * Bn := by grind
  rw [e, ← Int.add_mul];refine Int.mul_le_mul_of_nonneg_right ?_ (by omega)
  have : top * 4294967296 = q * v1 * 4294967296 + r * 4294967296 := by rw [← hqr]; grind
  omega
 have h3 : q * V ≤ U + V := by omega
 have h4 : q * V < (Q + 1) * V + V := by omega
 have h5 : q * V < (Q + 2) * V := by
  have : (Q + 2) * V = (Q + 1) * V + V := by grind
  omega
 have h6 : q < Q + 2 := Int.lt_of_mul_lt_mul_right h5 (by omega);omega
end Go.AL
/- Division by words: a digit's subtraction; words of a given number. -/
namespace Go.AL
def wdW : Nat → Int → List Int
  | 0, _ => []
  | n + 1, z => z % 4294967296 :: wdW n (z / 4294967296)
theorem wdW_length : ∀ (n : Nat) (z : Int), (wdW n z).length = n
 | 0, _ => rfl
 | n + 1, z => by simp [wdW, wdW_length n]
theorem wdW_ok : ∀ (n : Nat) (z : Int), WOk (wdW n z)
 | 0, _ => WOk.nil
 | n + 1, z => WOk.cons (by omega) (by omega) (wdW_ok n _)
theorem val_wdW : ∀ (n : Nat) (z : Int), 0 ≤ z → z < BB n → val (wdW n z) = z
 | 0, z, h0, h1 => by simp only [BB_zero] at h1; simp only [wdW, val]; omega
 | n + 1, z, h0, h1 => by
  rw [BB_succ] at h1;have := val_wdW n (z / 4294967296) (by omega) (by omega);simp only [wdW, val, this]; omega
theorem wdW_eq : ∀ {l : List Int}, WOk l → l = wdW l.length (val l)
 | [], _ => rfl
 | x :: l, h => by
  have h1 := h.head;have ih := wdW_eq h.tail;simp only [List.length_cons, wdW, val]
  have e1 : (x + 4294967296 * val l) % 4294967296 = x := by omega
  have e2 : (x + 4294967296 * val l) / 4294967296 = val l := by omega
  rw [e1, e2, ← ih]
end Go.AL
/- Division by words: the highest words; a digit's end. -/
namespace Go.AL
theorem take_top {l : List Int} {k : Nat} {x : Int} (h : l[k]? = some x) : l.take (k + 1) = l.take k ++ [x] := by rw [List.take_add_one, h]; rfl
theorem val_top {l : List Int} {k : Nat} {x : Int} (h : l[k]? = some x) : val (l.take (k + 1)) = val (l.take k) + BB k * x := by
 have hl : (l.take k).length = k := by have := (List.getElem?_eq_some_iff.1 h).1; simp; omega
 rw [take_top h, val_snoc, hl]
theorem val_bounds {l : List Int} {k : Nat} (w : WOk l) (h : k ≤ l.length) : 0 ≤ val (l.take k) ∧ val (l.take k) < BB k := by
 refine ⟨val_nonneg (w.take k), ?_⟩;have := val_lt (w.take k);rwa [List.length_take, Nat.min_eq_left h] at this
theorem dig_facts {m v : List Int} {k : Nat} (hm : m.length = k + 3) (hv : v.length = k + 2) (wm : WOk m) (wv : WOk v) {un u1 u2 v1 v2 : Int} (e0 : m[k + 2]? = some un) (e1 : m[k + 1]? = some u1) (e2 : m[k]? = some u2) (f1 : v[k + 1]? = some v1) (f2 : v[k]? = some v2) :
  (v1 * 4294967296 + v2) * BB k ≤ val v ∧ val v < (v1 * 4294967296 + v2 + 1) * BB k ∧ ((un * 4294967296 + u1) * 4294967296 + u2) * BB k ≤ val m ∧ val m < ((un * 4294967296 + u1) * 4294967296 + u2 + 1) * BB k := by
 have h1 : val v = val (v.take k) + BB k * v2 + BB (k + 1) * v1 := by
  have a := val_top f1;rw [show k + 1 + 1 = k + 2 from rfl, ← hv, List.take_length, val_top f2] at a;exact a
 have h2 : val m = val (m.take k) + BB k * u2 + BB (k + 1) * u1 + BB (k + 2) * un := by
  have a := val_top e0;rw [show k + 2 + 1 = k + 3 from rfl, ← hm, List.take_length, show k + 2 = k + 1 + 1 from rfl, val_top e1, val_top e2] at a;exact a
 have b1 := val_bounds (k := k) wv (by omega);have b2 := val_bounds (k := k) wm (by omega);rw [show k + 2 = k + 1 + 1 from rfl] at h2;simp only [BB_succ] at h1 h2;rw [h1, h2];refine ⟨?_, ?_, ?_, ?_⟩ <;> grind
theorem quo_between {U V q : Int} (hV : 0 < V) (h1 : q * V ≤ U) (h2 : U < (q + 1) * V) : q = U / V := by
 have a : U / V * V ≤ U := by have := Int.mul_ediv_add_emod U V; have := Int.emod_nonneg U (show V ≠ 0 by omega); have e : V * (U / V) = U / V * V := Int.mul_comm _ _; omega
 have b : U < (U / V + 1) * V := by
  have := Int.mul_ediv_add_emod U V;have := Int.emod_lt_of_pos U hV;have e : V * (U / V) = U / V * V := Int.mul_comm _ _;rw [Int.add_mul]; omega
 have c : q < U / V + 1 := Int.lt_of_mul_lt_mul_right (Int.lt_of_le_of_lt h1 b) (by omega);have d : U / V < q + 1 := Int.lt_of_mul_lt_mul_right (Int.lt_of_le_of_lt a h2) (by omega);omega
theorem quo_spec {U V : Int} (hV : 0 < V) (hU : 0 ≤ U) : U / V * V ≤ U ∧ U < (U / V + 1) * V ∧ 0 ≤ U / V ∧ U % V = U - U / V * V := by
 have h1 := Int.mul_ediv_add_emod U V;have h2 := Int.emod_nonneg U (show V ≠ 0 by omega);have h3 := Int.emod_lt_of_pos U hV;have e : V * (U / V) = U / V * V := Int.mul_comm _ _;refine ⟨by omega, by rw [Int.add_mul]; omega, Int.ediv_nonneg hU (by omega), by omega⟩
end Go.AL
/- Division by a word, shifts by binary digits: plain. -/
namespace Go.AL
theorem over_step {A os : List Int} {i : Nat} {b r x : Int} (hx : A[i]? = some x) (h : val (A.drop (i + 1)) = val os * b + r) :
  val (A.drop i) = val ((r * 4294967296 + x) / b :: os) * b + (r * 4294967296 + x) % b := by
 have hd : A.drop i = x :: A.drop (i + 1) := by
  have hi := (List.getElem?_eq_some_iff.1 hx);rw [List.drop_eq_getElem_cons hi.1, hi.2]
 have hm := Int.mul_ediv_add_emod (r * 4294967296 + x) b;rw [hd];simp only [val];rw [h];grind
theorem over_word {b r x : Int} (hb : 0 < b) (h0 : 0 ≤ r) (h1 : r < b) (h2 : 0 ≤ x) (h3 : x < 4294967296) : 0 ≤ (r * 4294967296 + x) / b ∧ (r * 4294967296 + x) / b < 4294967296 := by
 refine ⟨Int.ediv_nonneg (by omega) (by omega), Int.ediv_lt_of_lt_mul hb ?_⟩
 have : r * 4294967296 + x < (r + 1) * 4294967296 := by omega
 have h4 : (r + 1) * 4294967296 ≤ b * 4294967296 := Int.mul_le_mul_of_nonneg_right (by omega) (by omega);rw [Int.mul_comm]; omega
theorem over_end {V Q b r : Int} (h : V = Q * b + r) (h0 : 0 ≤ r) (h1 : r < b) : Q = V / b ∧ r = V % b := by
 have hq : Q = V / b := quo_between (by omega) (by omega) (by rw [Int.add_mul]; omega);refine ⟨hq, ?_⟩;have := Int.mul_ediv_add_emod V b;have e : b * (V / b) = V / b * b := Int.mul_comm _ _;rw [← hq] at e;rw [← hq] at this;omega
theorem or_carry {c x : Int} {k : Nat} (hk : k < 32) (h0 : 0 ≤ c) (h1 : c < 2 ^ k) (h2 : 0 ≤ x) (h3 : x < 4294967296) : bitN .or c (x * 2 ^ k % 4294967296) = c + x * 2 ^ k % 4294967296 ∧ c + x * 2 ^ k % 4294967296 < 4294967296 := by
 have hp : (2 : Int) ^ k = ((2 ^ k : Nat) : Int) := by norm_cast
 have hs : (2 : Int) ^ 32 = 2 ^ k * 2 ^ (32 - k) := by rw [← Int.pow_add]; congr 1; omega
 have hs' : (4294967296 : Int) = 2 ^ k * 2 ^ (32 - k) := by rw [← hs]; rfl
 have e : x * 2 ^ k % 4294967296 = (x % 2 ^ (32 - k)) * 2 ^ k := by
  rw [hs', Int.mul_comm x, Int.mul_emod_mul_of_pos _ _ (Int.pow_pos (by omega)), Int.mul_comm]
 have hx := Int.emod_nonneg x (show (2 : Int) ^ (32 - k) ≠ 0 from Int.ne_of_gt (Int.pow_pos (by omega)));have hx2 := Int.emod_lt_of_pos x (show (0 : Int) < 2 ^ (32 - k) from Int.pow_pos (by omega));obtain ⟨m, hm⟩ : ∃ m : Nat, x % 2 ^ (32 - k) = m := ⟨_, (Int.toNat_of_nonneg hx).symm⟩;obtain ⟨d, hd⟩ : ∃ d : Nat, c = d := ⟨_, (Int.toNat_of_nonneg h0).symm⟩;rw [e, hm, hd];rw [hd, hp] at h1;rw [hm] at hx2;constructor
 ·show (((d : Int).toNat ||| ((m : Int) * 2 ^ k).toNat : Nat) : Int) = _
  have e2 : ((m : Int) * 2 ^ k).toNat = m <<< k := by rw [Nat.shiftLeft_eq, hp, ← Int.natCast_mul, Int.toNat_natCast]
  rw [e2, Int.toNat_natCast, Nat.or_comm, ← Nat.shiftLeft_add_eq_or_of_lt (by exact_mod_cast h1), Nat.shiftLeft_eq, hp, ← Int.natCast_mul, ← Int.natCast_add, Nat.add_comm]
 ·have h4 : ((m : Int) + 1) * 2 ^ k ≤ 2 ^ (32 - k) * 2 ^ k := Int.mul_le_mul_of_nonneg_right (by omega) (Int.le_of_lt (Int.pow_pos (by omega)));rw [Int.mul_comm (2 ^ (32 - k)), ← hs'] at h4;rw [hp] at h4 ⊢;rw [Int.add_mul] at h4;omega
end Go.AL
/- A byte of a fixed string; bits.Len32, bits.LeadingZeros32. -/
namespace Go.AL
section
variable {P : Program} {tab : Tab} {n : Nat} {s : St}
variable {ops : Array Oper} {draw : Dr} {o : Oper} {l : List Oper} {acc : List Eff} {K : Exit → St → Prop}
end
end Go.AL
namespace Go.Proofs.YtmmfloplhopioaaGreat
open Go.AL
end Go.Proofs.YtmmfloplhopioaaGreat
/- large.over, large.left, large.right (by less than a word). -/
namespace Go.AL
theorem set_zeros {i m : Nat} {q q' : Int} {os : List Int} {k : Nat} (hk : k = m) (hm : m + 1 = i) (hq : q = q') : (List.replicate i 0 ++ os).set k q = List.replicate m 0 ++ q' :: os := by
 subst hk hm hq;rw [List.replicate_succ', List.append_assoc];simp
end Go.AL
namespace Go.Proofs.YtmmfloplhopioaaGreat
open Go.AL
end Go.Proofs.YtmmfloplhopioaaGreat
/- Parts of rows: a row cut; a part of a row that is written through. -/
namespace Go.AL
section
variable {P : Program} {tab : Tab} {n : Nat} {o : Oper} {s : St}
variable {ops : Array Oper} {draw : Dr} {l : List Oper} {acc : List Eff} {K : Exit → St → Prop}
end
end Go.AL
/- large.digit: a digit of a quotient. -/
namespace Go.AL
structure DigOk (m : Nat) (mid v : List Int) : Prop where
  hm : mid.length = m + 3
  hv : v.length = m + 2
  wm : WOk mid
  wv : WOk v
  top : ∀ x, v[m + 1]? = some x → 2147483648 ≤ x
  lt : val mid < 4294967296 * val v
  big : m ≤ 50000
theorem DigOk.pos {m : Nat} {mid v : List Int} (d : DigOk m mid v) : BB (m + 1) ≤ val v ∧ val v < BB (m + 2) := by
 obtain ⟨x, hx⟩ : ∃ x, v[m + 1]? = some x := ⟨_, List.getElem?_eq_getElem (by have := d.hv; omega)⟩;have h1 := d.top x hx;have h2 := val_top hx;rw [show m + 1 + 1 = v.length by have := d.hv; omega, List.take_length] at h2;have h3 := val_bounds (k := m + 1) d.wv (by have := d.hv; omega);have h4 := val_lt d.wv;rw [d.hv] at h4;refine ⟨?_, h4⟩;have : BB (m + 1) * 1 ≤ BB (m + 1) * x := Int.mul_le_mul_of_nonneg_left (by omega) (Int.le_of_lt (BB_pos _));omega
theorem DigOk.facts {m : Nat} {mid v : List Int} (d : DigOk m mid v) {un u1 u2 v1 v2 : Int} (e0 : mid[m + 2]? = some un) (e1 : mid[m + 1]? = some u1) (e2 : mid[m]? = some u2) (f1 : v[m + 1]? = some v1) (f2 : v[m]? = some v2) :
  un ≤ v1 ∧ un * 4294967296 + u1 < v1 * 4294967296 + 4294967296 := by
 obtain ⟨a, b, c, e⟩ := dig_facts d.hm d.hv d.wm d.wv e0 e1 e2 f1 f2;have h := d.lt;have w2 := d.wv.get f2;have wu1 := d.wm.get e1;have wu2 := d.wm.get e2;have hB := BB_pos m
 have h1 : ((un * 4294967296 + u1) * 4294967296 + u2) * BB m < (4294967296 * (v1 * 4294967296 + v2 + 1)) * BB m := by
  have : 4294967296 * val v < 4294967296 * ((v1 * 4294967296 + v2 + 1) * BB m) := by omega
  have e3 : (4294967296 * (v1 * 4294967296 + v2 + 1)) * BB m = 4294967296 * ((v1 * 4294967296 + v2 + 1) * BB m) := by grind
  rw [e3]; omega
 have h2 := Int.lt_of_mul_lt_mul_right h1 (by omega);omega
theorem DigOk.down {m : Nat} {mid v : List Int} (d : DigOk m mid v) {un u1 u2 v1 v2 q r : Int} (e0 : mid[m + 2]? = some un) (e1 : mid[m + 1]? = some u1) (e2 : mid[m]? = some u2) (f1 : v[m + 1]? = some v1) (f2 : v[m]? = some v2)
  (hqr : q * v1 + r = un * 4294967296 + u1) (hr : 0 ≤ r) (hq : 0 ≤ q) (h : 4294967296 ≤ q ∨ r * 4294967296 + u2 < q * v2) : val mid / val v ≤ q - 1 := by
 obtain ⟨a, b, c, e⟩ := dig_facts d.hm d.hv d.wm d.wv e0 e1 e2 f1 f2;have hp := d.pos;have hV : 0 < val v := Int.lt_of_lt_of_le (BB_pos _) hp.1;obtain ⟨s1, s2, s3, s4⟩ := quo_spec hV (val_nonneg d.wm);have hQ : val mid / val v < 4294967296 := Int.ediv_lt_of_lt_mul hV d.lt;have w1 := d.top _ f1;have w2 := d.wv.get f2;exact kn_step (un := un) hqr hr (BB_pos m) a e s1 hQ hV (by omega) w2.1 hq h
theorem DigOk.stop {m : Nat} {mid v : List Int} (d : DigOk m mid v) {un u1 u2 v1 v2 q r : Int} (e0 : mid[m + 2]? = some un) (e1 : mid[m + 1]? = some u1) (e2 : mid[m]? = some u2) (f1 : v[m + 1]? = some v1) (f2 : v[m]? = some v2)
  (hqr : q * v1 + r = un * 4294967296 + u1) (hr : 0 ≤ r) (hq : 0 ≤ q) (h : (q < 4294967296 ∧ q * v2 ≤ r * 4294967296 + u2) ∨ 4294967296 ≤ r) : q < 4294967296 ∧ q ≤ val mid / val v + 1 := by
 obtain ⟨a, b, c, e⟩ := dig_facts d.hm d.hv d.wm d.wv e0 e1 e2 f1 f2;have hf := d.facts e0 e1 e2 f1 f2;have hp := d.pos;have hV : 0 < val v := Int.lt_of_lt_of_le (BB_pos _) hp.1;obtain ⟨s1, s2, s3, s4⟩ := quo_spec hV (val_nonneg d.wm);have w1 := d.top _ f1;have w2 := d.wv.get f2;have wu2 := d.wm.get e2
 have hVB : 4294967296 * BB m ≤ val v := by rw [← BB_succ]; exact hp.1
 have key : q < 4294967296 ∧ q * v2 ≤ r * 4294967296 + u2 := by
  rcases h with h | h
  ·exact h
  ·have hq2 : q < 4294967296 := by
    rcases Int.lt_or_le q 4294967296 with h1 | h1
    ·exact h1
    ·have : 4294967296 * v1 ≤ q * v1 := Int.mul_le_mul_of_nonneg_right h1 (by omega);omega
   have h3 : q * v2 ≤ 4294967295 * v2 := Int.mul_le_mul_of_nonneg_right (by omega) w2.1;exact ⟨hq2, by omega⟩
 exact ⟨key.1, kn_stop hqr (BB_pos m) b hVB c s2 hV hq key.1 key.2 s3⟩
end Go.AL
/- large.digit: the walk. -/
namespace Go.AL
end Go.AL
namespace Go.Proofs.YtmmfloplhopioaaGreat
open Go.AL
end Go.Proofs.YtmmfloplhopioaaGreat
/- Division of long numbers: plain. -/
namespace Go.AL
structure DivInv (U : List Int) (V : Int) (n N i : Nat) (os : List Int) (ρ : Int) : Prop where
  hi : i ≤ N
  hl : os.length + i = N
  wo : WOk os
  r0 : 0 ≤ ρ
  r1 : ρ < V
  hv : val (U.drop i) = val os * V + ρ
theorem DivInv.step {U os : List Int} {V ρ : Int} {n N i : Nat} {u : Int} (d : DivInv U V n N (i + 1) os ρ) (hV : 0 < V) (hu : U[i]? = some u) (wu : WOk U) :
  DivInv U V n N i (val (u :: wdW n ρ) / V :: os) (val (u :: wdW n ρ) % V) ∨ ¬ (V < BB n) := by
 rcases Classical.em (V < BB n) with hn | hn
 ·left;have w := wu.get hu;have d0 := d.r0;have d1 := d.r1
  have hm : val (u :: wdW n ρ) = u + 4294967296 * ρ := by
   rw [val, val_wdW n ρ d0 (by omega)]
  rw [hm]
  have hlt : u + 4294967296 * ρ < 4294967296 * V := by omega
  have hdiv := Int.mul_ediv_add_emod (u + 4294967296 * ρ) V;have hm0 := Int.emod_nonneg (u + 4294967296 * ρ) (show V ≠ 0 by omega);have hm1 := Int.emod_lt_of_pos (u + 4294967296 * ρ) hV;refine ⟨by have := d.hi; omega, by have := d.hl; simp; omega, ?_, hm0, hm1, ?_⟩
  ·refine WOk.cons (Int.ediv_nonneg (by omega) (by omega)) (Int.ediv_lt_of_lt_mul hV hlt) d.wo
  ·have hd : U.drop i = u :: U.drop (i + 1) := by
    have hi := List.getElem?_eq_some_iff.1 hu;rw [List.drop_eq_getElem_cons hi.1, hi.2]
   rw [hd, val, d.hv, val]
   generalize (u + 4294967296 * ρ) / V = q at *
   generalize (u + 4294967296 * ρ) % V = r at *
   grind
 ·exact .inr hn
end Go.AL
/- large.divide: the walk. -/
namespace Go.Proofs.YtmmfloplhopioaaGreat
open Go.AL
end Go.Proofs.YtmmfloplhopioaaGreat
/- large.Div; chain.Quo, chain.Rest, chain.Power. -/
namespace Go.AL
theorem toW_one : toW 1 = [1] := by
 have := toW_cons (x := 1) (z := 0) (by omega) (by omega) (by omega) (.inl (by omega));rw [toW_zero] at this;exact this
end Go.AL
namespace Go.Proofs.YtmmfloplhopioaaGreat
open Go.AL
end Go.Proofs.YtmmfloplhopioaaGreat
/- append(nil, ..) whose result is not written; a made slice without elements. -/
namespace Go.AL
section
variable {P : Program} {tab : Tab} {n : Nat} {s : St}
variable {ops : Array Oper} {draw : Dr} {o : Oper} {l : List Oper} {acc : List Eff} {K : Exit → St → Prop}
theorem OpJ.ap0C (ht : TabOk P tab) (hd : ∀ d, o.dst = some d → d < n) {x y : Operand} {t : TypeId} (hop : o.op = .call { callee := .builtin .append, args := ⟨[x, y]⟩, argTypes := ⟨[t, t]⟩ }) {e : TypeId} {i : TI} {sz' by' : Nat} {z : List Value} (hts : tab t = some ⟨.slice e, sz', by', z⟩) (hti : tab e = some i) (hsz : Nat.blt 0 i.size = true)
  (hx : opd s x = .v (.slice none 0 0)) {α : Type} (enc : α → List AV) {ys : List α} (hy : (opd s y).Le (.sl i.size enc ys)) (hyc : (opd s y).closed = true) (hone : ∀ y, allOne (enc y) = true) (hel : ∀ y, (enc y).length = i.size)
  (hby : ys.length * i.bytes ≤ 140737488355328) (hm : ys.length ≤ 9223372036854775807) :
  OpJ P n o s ⟨.sl i.size enc ys, [], [], [], []⟩ := by
 refine ⟨hd, fun C s' a w h β Q K hs hbs hal k hK => ?_⟩
 have same : ∀ z : Operand, (z = x ∨ z = y) → opd s' z = opd s z := by
  intro z hz
  cases z with
  | tmp t => exact hs t (by rw [hop]; simpa [Op.operands, Call.operands] using hz)
  | _ => rfl
 have hxr := opd_rep k x;rw [same x (.inl rfl), hx] at hxr;have hyr := opd_rep k y;rw [same y (.inr rfl)] at hyr;have hyr := hy _ _ _ (hyr.closed (β' := noB) _ _ hyc);simp only [Rep] at hxr;obtain ⟨inf, zv, h1, h2, h3, h4, h5⟩ := (ht e i hti).info;have hu := (ht _ _ hts).und;simp only at hu
 have hzs : zv.cells.size = inf.size := by rw [← Array.length_toList, h5, (ht e i hti).zs, h2]
 have ho := World.ownsRow_nil w 0 e inf.size;rw [← h2] at hyr;obtain ⟨v', w', news, r1, r2, r3, r4, r5⟩ := run_append_any (P := P) (ty := o.type) hu h1 h4 hzs (by rw [h2]; exact Nat.le_of_ble_eq_true hsz) ho k.evo.has hone hyr (by rw [h3, Nat.zero_add]; exact hby) (by omega);rw [← hxr] at r1;have hrun := append_exec (P := P) (o := o) hop r1;unfold Oper.wp;rw [hrun];simp only [Oper.upon];simp only [Nat.zero_add, List.nil_append] at r2;have hnb : (Value.slice none 0 0).ownBlock = none := rfl;rw [hnb] at r3 r4;have hev : Evo never w h w' h := evo_of k.evo.has r3.os r3.tape ⟨r3.output, run_drawn _ _ _ _ r1⟩ r3.size (fun j hj _ => r3.block j hj (by simp)) (fun g hg => hg.elim);rw [h2] at r2;have hlen : ∀ x ∈ ys, (enc x).length = i.size := fun x _ => hel x
 have key : ∃ h', h.le h' ∧ Has w' h' ∧ (∀ g, h' g ≠ none → h g ≠ none ∨ v'.ownBlock = some g) ∧ Rep h' noB (.sl i.size enc ys) v' := by
  rcases r2.2 with ⟨hv, hn⟩ | ⟨g, cap, cur, hv, _, hg, hnc, hmx, hcs, htake⟩
  ·have hx : ys = [] := List.eq_nil_of_length_eq_zero hn;subst hx;refine ⟨h, Hp.le.refl h, hev.has, fun g hg => .inl hg, ?_⟩;rw [hv];exact AV.Le.nil i.size enc h noB _ (by simp only [Rep])
  ·have hgb : v'.ownBlock = some g := by simp [hv, Value.ownBlock]
   have hgn : h g = none := by
    rcases r4 with r4 | r4
    ·rw [r4] at hgb; cases hgb
    ·rw [r4] at hgb; injection hgb with hgb; subst hgb; exact has_none k.evo.has (Nat.le_refl _)
   have hle : h.le (h.set g cur) := fun b cs hb' => by
    by_cases he : b = g
    ·subst he; rw [hgn] at hb'; cases hb'
    ·rw [Hp.set_ne _ _ _ _ he]; exact hb'
   refine ⟨h.set g cur, hle, fun b cs hb' => ?_, fun b hb' => ?_, ?_⟩
   ·by_cases he : b = g
    ·subst he; rw [Hp.set_same] at hb'; injection hb' with hb'; subst hb'; exact ⟨e, (0, 0), hg⟩
    ·rw [Hp.set_ne _ _ _ _ he] at hb'; exact hev.has b cs hb'
   ·by_cases he : b = g
    ·subst he; exact .inr hgb
    ·rw [Hp.set_ne _ _ _ _ he] at hb'; exact .inl hb'
   ·subst hv;simp only [Rep];refine ⟨some ⟨g, 0, none⟩, cap, rfl, hnc, hmx, fun j x hx => ?_⟩;obtain ⟨hr1, hr2⟩ := flat_at ys news j x hlen (r5.mono hle (Bt.le.refl _)) hx;refine ⟨⟨g, 0, none⟩, _, rfl, by rw [hr1.length]; exact hlen x (List.mem_of_getElem? hx), hr1, fun q u hu => ?_⟩
    have hadd : (⟨g, 0, none⟩ : Addr).add (j * i.size + q) = ⟨g, j * i.size + q, none⟩ := by unfold Addr.add; split <;> simp_all
    rw [hadd];refine ⟨rfl, cur, Hp.set_same _ _ _, ?_⟩;rw [List.getElem?_take] at hu;split at hu
    ·rw [List.getElem?_drop, ← htake, List.getElem?_take] at hu;split at hu
     ·simpa using hu
     ·cases hu
    ·cases hu
 obtain ⟨h', hle, hhas, hfr, hrep⟩ := key
 have hev' : Evo never w h w' h' := ⟨hev.os, hev.tape, hev.output, hev.size, hev.block, hle, fun g hg => by
  rcases hfr g hg with h1 | h1
  ·exact .inl h1
  ·rcases r4 with r4 | r4
   ·rw [r4] at h1; cases h1
   ·rw [r4] at h1; injection h1 with h1; subst h1; exact .inr (.inl (Nat.le_refl _)), hhas⟩
 exact hK _ _ h' β (Base.val (k.step hev') o.dst hd (hrep.mono (Hp.le.refl _) (noB_le β)) [])
theorem Fl.ap0C [f : Facts P tab] {x y : Operand} {t : TypeId} (hop : o.op = .call { callee := .builtin .append, args := ⟨[x, y]⟩, argTypes := ⟨[t, t]⟩ }) (hx : opd s x = .v (.slice none 0 0)) (hg : gOk ops s o = true) (hd : dOk n o.dst = true) {e : TypeId} {i : TI} {sz' by' : Nat} {z : List Value} (hts : tab t = some ⟨.slice e, sz', by', z⟩) (hti : tab e = some i) (hsz : Nat.blt 0 i.size = true)
  {α : Type} (enc : α → List AV) {ys : List α} (hyc : (opd s y).closed = true) (hone : ∀ y, allOne (enc y) = true) (hel : ∀ y, (enc y).length = i.size) (hy : (opd s y).Le (.sl i.size enc ys))
  (hby : ys.length * i.bytes ≤ 140737488355328) (hm : ys.length ≤ 9223372036854775807)
  (r : Fl P n ops draw l ((Eff.mk (.sl i.size enc ys) [] [] [] []).app o.dst s) (Eff.mk (.sl i.size enc ys) [] [] [] [] :: acc) K) : Fl P n ops draw (o :: l) s acc K :=
 Fl.opv hg (OpJ.ap0C f.tabOk (dOk_lt hd) hop hts hti hsz hx enc hy hyc hone hel hby hm) r
theorem OpJ.make0 (ht : TabOk P tab) {d : Tmp} (hdst : o.dst = some d) (hd : d < n) {t : TypeId} {x y : Operand} (hop : o.op = .makeSlice t x y) {e : TypeId} {i : TI} {sz' by' : Nat} {z : List Value} (hts : tab t = some ⟨.slice e, sz', by', z⟩) (hti : tab e = some i)
  {k k' : IntKind} {m' : Int} (hx : opd s x = .v (.int k 0)) (hy : opd s y = .v (.int k' m')) (h0 : 0 ≤ m') (hby : m' * i.bytes ≤ 281474976710656) (hm : m' ≤ 9223372036854775807) {α : Type} (enc : α → List AV) :
  OpJ P n o s ⟨.row d, [(d, .row i.size enc [] e)], [], [d], []⟩ := by
 refine ⟨fun t ht => (by rw [hdst] at ht; injection ht with ht; subst ht; exact hd), fun C s' a w h β Q K hs hb hal b hK => ?_⟩
 have same : ∀ z : Operand, (z = x ∨ z = y) → opd s' z = opd s z := by
  intro z hz
  cases z with
  | tmp t => exact hs t (by rw [hop]; simpa [Op.operands] using hz)
  | _ => rfl
 have hxr := opd_rep b x;have hyr := opd_rep b y;rw [same x (.inl rfl), hx] at hxr;rw [same y (.inr rfl), hy] at hyr;simp only [Rep] at hxr hyr;obtain ⟨inf, zv, h1, h2, h3, h4, h5⟩ := (ht e i hti).info;have hu := (ht _ _ hts).und;simp only at hu;obtain ⟨c, rfl⟩ := Int.eq_ofNat_of_zero_le h0
 have hzs : zv.cells.size = i.size := by rw [← Array.length_toList, h5, (ht e i hti).zs]
 have hmk := run_make (P := P) w t e inf zv hu h1 h4 k k' (0 : Int) (c : Int) (Int.le_refl _) h0 (by rw [h3, Int.mul_comm]; exact hby) hm;rw [Int.toNat_natCast, h2] at hmk
 have hrun : (execOp a.eval o).run P w = .ok (.value (.slice (some ⟨w.heap.size, 0, none⟩) 0 c)) (w.alloc (.cells (madeCells zv.cells (c * i.size)) e)) := by
  simp only [execOp, hop, hxr, hyr, Sem.run_bind, hmk, Result.andThen, Sem.run_pure];rfl
 unfold Oper.wp;rw [hrun];simp only [Oper.upon];refine hK _ _ h (β.set d (.slice (some ⟨w.heap.size, 0, none⟩) 0 c)) ?_;have k1 := b.step (evo_alloc b.evo.has (.cells (madeCells zv.cells (c * i.size)) e));rw [hdst];refine k1.addbox (hal d (by simp)) ?_ ?_ (some d) (fun t ht => by injection ht with ht; subst ht; exact hd) ?_ []
 ·refine ⟨_, [], Bt.set_same _ _ _, ⟨by simp, .inr ⟨w.heap.size, c, _, by simp, Nat.zero_le _, heap_alloc_new w _, by simp, by simp only [maxLen]; omega, size_madeCells _ _, by simp⟩⟩, ?_, ?_, ?_⟩
  ·exact RepL.nil
  ·intro x hx; cases hx
  ·intro g hg;simp [Value.ownBlock] at hg;subst hg;exact has_none b.evo.has (Nat.le_refl _)
 ·intro g hg;simp [blk] at hg;subst hg;refine ⟨fun id' B' hb' e => ?_, .inr b.evo.size⟩;have := (b.blk_lt hb' e).1;omega
 ·simp only [Rep]; exact ⟨Bt.set_same _ _ _, _, _, _, rfl⟩
theorem Fl.make0 [f : Facts P tab] {t : TypeId} {x y : Operand} (hop : o.op = .makeSlice t x y) (hg : gOk ops s o = true) {d : Tmp} (hdst : o.dst = some d) (hd : Nat.blt d n = true) {e : TypeId} {i : TI} {sz' by' : Nat} {z : List Value} (hts : tab t = some ⟨.slice e, sz', by', z⟩) (hti : tab e = some i)
  {k k' : IntKind} {m' : Int} (hx : opd s x = .v (.int k 0)) (hy : opd s y = .v (.int k' m')) (hn : s.al d = false) {α : Type} (enc : α → List AV) (h0 : 0 ≤ m') (hby : m' * i.bytes ≤ 281474976710656) (hm : m' ≤ 9223372036854775807)
  (r : Fl P n ops draw l ((Eff.mk (.row d) [(d, .row i.size enc [] e)] [] [d] []).app o.dst s) (Eff.mk (.row d) [(d, .row i.size enc [] e)] [] [d] [] :: acc) K) (hJ : presOk draw.J (Eff.mk (.row d) [(d, .row i.size enc [] e)] [] [d] []) := by repeat' (first | exact True.intro | exact rfl | refine ⟨?_, ?_⟩ | fail)) : Fl P n ops draw (o :: l) s acc K :=
 Fl.op hg (OpJ.make0 f.tabOk hdst (ltOf hd) hop hts hti hx hy h0 hby hm enc) (newOk1 hn) hJ r
end
end Go.AL
/- poly.Sub. (Not built yet: needs a seat that reaches it.) -/
namespace Go.Proofs.YtmmfloplhopioaaGreat
open Go.AL
theorem fit_m1 : Fit (-1) := fit_small (by omega) (by omega)
theorem Sub1_io (V : Nat) (hV : V ≤ 32) (p q : PZ) (hwp : WP p) (hwq : WP q) (hp : OkP p) (hq : OkP q) (hpv : p.vars = V) (hqv : q.vars = V) (res : Res)
  (hr1 : ∀ r, SumOk V (plusU (-1) p q) r → res = .ret (aP r)) (hr2 : (¬ ∃ r, SumOk V (plusU (-1) p q) r) → res = .thr (thrown 4)) :
  IoFn Tryz.prog 194 [.ptr 900 0, .ptr 901 0] (bPQ p q) res (bPQ p q) := by
 have h := plus_io V hV p q (-1) fit_m1 hwp hwq hp hq hpv hqv (fun t ht => (okZ_eq (hwq t ht) (hq.terms t ht).coef).2.le (by omega)) res hr1 hr2;refine IoFn.of_body Tryz.func194 rfl Tryz.ntmps194 rfl rfl rfl ?_;by_cases hg : ∃ r, SumOk V (plusU (-1) p q) r
 ·obtain ⟨r, hr⟩ := hg;have e1 := hr1 r hr;subst e1;(repeat' (first |refine qv ?_ |apply qn |apply qs |apply qr |refine qe ?_|fail));refine qc (Of_ok (-1) (by omega) (by omega)) ?_;skip;refine Fl.io rfl [] h rfl rfl (LeL.refl _) rfl trivial rfl rfl rfl rfl rfl ?_;(repeat' (first |refine Fl.nil (fun _ => by kernel_rfl) ?_ |refine qe ?_ |apply qt));exact ⟨⟨[], _, _, Ent.refl _ _ _, rfl, AV.Le.refl _, rfl, ⟨⟨⟨_, rfl, BLe.cells (LeL.refl _)⟩, rfl⟩, ⟨⟨_, rfl, BLe.cells (LeL.refl _)⟩, rfl⟩, trivial⟩, rfl, rfl⟩⟩
 ·have e1 := hr2 hg;subst e1;(repeat' (first |refine qv ?_ |apply qn |apply qs |apply qr |refine qe ?_|fail));refine qc (Of_ok (-1) (by omega) (by omega)) ?_;skip;exact Fl.thrC rfl [] h rfl (LeL.refl _) rfl trivial rfl (fun _ => by kernel_rfl) (fun _ => rfl)
theorem pSub_ok (V : Nat) (hV : V ≤ 32) (p q : PZ) (hwp : WP p) (hwq : WP q) (hp : OkP p) (hq : OkP q) (hpv : p.vars = V) (hqv : q.vars = V) (r : AV)
  (hr1 : ∀ x, SumOk V (plusU (-1) p q) x → r = .tup [aP x, aN 0]) (hr2 : (¬ ∃ x, SumOk V (plusU (-1) p q) x) → r = .tup [aP ⟨0, []⟩, aN 4]) :
  PureFn Tryz.prog 161 [aP p, aP q] r := by
 refine PureFn.of_body Tryz.func161 rfl Tryz.ntmps161 rfl rfl ?_;have hb := both_ok p q hwp hwq;rw [bothE_ok hp hq, if_pos (hpv.trans hqv.symm)] at hb;(repeat' (first |refine qv ?_ |apply qn |apply qs |apply qr |refine qe ?_|fail));refine qc (hb) ?_;(repeat' (first |refine qv ?_ |apply qn |apply qs |apply qr |refine AWP.condF rfl ?_ |apply qk));by_cases hg : ∃ x, SumOk V (plusU (-1) p q) x
 ·obtain ⟨x, hx⟩ := hg;rw [hr1 x hx]
  have hx' : ∀ y, SumOk V (plusU (-1) p q) y → (Res.ret (aP x)) = .ret (aP y) := fun y hy => by
   have := (hr1 x hx).symm.trans (hr1 y hy);injection this with this;injection this with this;rw [this]
  refine Fl.io rfl [(900, 2), (901, 3)] (tried_ret (Sub1_io V hV p q hwp hwq hp hq hpv hqv (.ret (aP x)) hx' (fun h => absurd ⟨x, hx⟩ h))) rfl rfl (LeL.refl _) rfl ⟨⟨⟨_, rfl, BLe.cells (LeL.refl _)⟩, rfl⟩, ⟨⟨_, rfl, BLe.cells (LeL.refl _)⟩, rfl⟩, trivial⟩ rfl rfl rfl rfl rfl ?_;(repeat' (first |refine qv ?_ |apply qn |refine qe ?_ |apply qt));exact RetOk.of rfl (AV.Le.refl _)
 ·rw [hr2 hg];refine Fl.io rfl [(900, 2), (901, 3)] (tried_thr (Sub1_io V hV p q hwp hwq hp hq hpv hqv _ (fun y hy => absurd ⟨y, hy⟩ hg) (fun _ => rfl))) rfl rfl (LeL.refl _) rfl ⟨⟨⟨_, rfl, BLe.cells (LeL.refl _)⟩, rfl⟩, ⟨⟨_, rfl, BLe.cells (LeL.refl _)⟩, rfl⟩, trivial⟩ rfl rfl rfl rfl rfl ?_;(repeat' (first |refine qv ?_ |apply qn |refine qe ?_ |apply qt));exact RetOk.of rfl (AV.Le.refl _)
end Go.Proofs.YtmmfloplhopioaaGreat
/- poly.Var, poly.Const; expr's Kit: New, V, N, Sub, Add, Mul. -/
namespace Go.AL
def unU (V i : Nat) : List Int := (List.replicate V 0).set i 1
def varU (V i : Nat) : List UT := [(1, unU V i)]
def conU (V : Nat) (c : Int) : List UT := if c = 0 then [] else [(c, List.replicate V 0)]
def okSums (V : Nat) : List UT → List (List UT) → Bool
  | acc, [] => chkU V acc acc
  | acc, p :: l => chkU V acc acc && chkU V p p && chkU V (addUs 1 acc p) (addL acc p) && okSums V (addL acc p) l
def okMuls (V : Nat) : List UT → List (List UT) → Bool
  | acc, [] => chkU V acc acc
  | acc, p :: l => chkU V acc acc && chkU V p p && degU acc p && chkU V (mulUs acc p) (mulL2 acc p) && okMuls V (mulL2 acc p) l
def sumsU (acc : List UT) (l : List (List UT)) : List UT := l.foldl addL acc
def mulsU (acc : List UT) (l : List (List UT)) : List UT := l.foldl mulL2 acc
end Go.AL
namespace Go.Proofs.YtmmfloplhopioaaGreat
open Go.AL
abbrev aK (V : Nat) : AV := .agg [aN V]
theorem pVarP_ok (V i : Nat) (hV : V ≤ 32) (hi : i < V) : PureFn Tryz.prog 159 [aN V, aN i] (.tup [aP (mkP V (varU V i)), aN 0]) := by
 refine PureFn.of_body Tryz.func159 rfl Tryz.ntmps159 rfl rfl ?_;refine AWP.seqS ?_;(repeat' (first |refine qv ?_ |apply qn |apply qr |refine qe ?_|fail));refine ⟨AWP.seqS ?_⟩;(repeat' (first |refine qv ?_ |apply qn |apply qs |apply qr |(refine AWP.condD rfl ?_ ?_ <;> intro _ <;> try (exfalso; omega)) |apply qk |(refine Fl.splitD rfl rfl ?_ ?_ <;> intro _ <;> try (exfalso; omega))));refine ⟨AWP.seqS ?_⟩;(repeat' (first |refine qv ?_ |apply qn |apply qr |refine Fl.make rfl rfl rfl rfl rfl rfl rfl rfl rfl rfl eI 0 (by exact LeL.refl _) (by rfl) (by first | omega | (dsimp only; omega)) (by first | omega | (dsimp only; omega)) (by first | omega | (dsimp only; omega)) ?_|fail));refine ⟨AWP.seqS ?_⟩;(repeat' (first |refine qv ?_ |apply qn |apply qr |refine Fl.rel rfl rfl rfl rfl rfl rfl rfl rfl (by omega) (by first | omega | (simp; omega)) ?_ |refine Fl.rst rfl rfl rfl rfl rfl rfl rfl rfl rfl rfl rfl (LeL.refl _) rfl (by first | omega | (simp; omega)) ?_|fail));refine ⟨?_⟩;refine AWP.ent (Ent.freeze 24 rfl) ?_;(repeat' (first |refine qv ?_ |apply qs |apply qr));refine qc (Of_ok 1 (by omega) (by omega)) ?_;(repeat' (first |refine qv ?_ |refine qe ?_|fail));refine ql eT [⟨zOf 1, unU V i⟩] ?_;(repeat' (first |refine qv ?_ |apply qn |refine qe ?_ |apply qt));exact RetOk.of rfl (AV.Le.refl _)
theorem xCopy_ok (X : List Int) (hX : ∀ x ∈ X, Fit x) (hl : X.length ≤ 1000000) : PureFn Tryz.prog 216 [.sl 2 eX X] (.sl 2 eX X) := by
 refine PureFn.of_body Tryz.func216 rfl Tryz.ntmps216 rfl rfl ?_;refine AWP.seqS ?_;(repeat' (first |refine qv ?_ |apply qn |apply qr));refine ⟨AWP.seqS ?_⟩;(repeat' (first |refine qv ?_ |apply qr));refine Fl.make rfl rfl rfl rfl rfl rfl rfl rfl rfl rfl eX 0 (by exact leX_zero (σ := []) rfl) (by rfl) (by omega) (by dsimp only; omega) (by omega) ?_;(repeat' (first |refine qv ?_ |apply qn));refine ⟨?_⟩;refine AWP.seqJ (G := Unit) (fun _ => True) (fun _ => St.of [] [(3, .row 8)] [(8, .row 2 eX X 48)]) ?_ ?_
 ·(repeat' (first |refine qv ?_ |apply qn |apply qs |apply qr |apply qb));refine AWP.loop (G := Nat) (fun i => i ≤ X.length) (fun i => St.of [] [(3, .row 8), (9, .sl 2 eX X), (10, aN X.length), (11, aN i)] [(8, .row 2 eX (X.take i ++ List.replicate (X.length - i) 0) 48)]) (fun i => X.length - i) 0 (by omega) ?_ ?_
  ·refine Ent.of [] ?_ ?_ rfl rfl;(repeat' (first |exact True.intro |refine ⟨⟨AV.Le.refl _, rfl⟩, ?_⟩ |refine ⟨⟨⟨_, rfl, BLe.row rfl⟩, rfl⟩, ?_⟩|fail))
  ·intro i h0
   have hli : (X.take i ++ List.replicate (X.length - i) (0 : Int)).length = X.length := by simp; omega
   (repeat' (first |refine qv ?_ |apply qn |apply qs |apply qr |refine qe ?_ |(refine AWP.condD rfl ?_ ?_ <;> intro _ <;> try (exfalso; omega)) |apply qb |apply qk |apply qx |(refine Fl.el rfl rfl rfl rfl rfl rfl rfl rfl (by omega) (by omega) ?_; intro _ _)|fail))
   ·rename_i hi x hx;rw [Int.toNat_natCast] at hx;have hxl := (hX x (List.mem_of_getElem? hx)).len;refine Fl.ap0C rfl rfl rfl rfl rfl rfl rfl eW rfl (fun _ => rfl) (fun _ => rfl) (AV.Le.refl _) (by dsimp only; omega) (by omega) ?_;(repeat' (first |refine qv ?_ |apply qn |refine Fl.nil (fun _ => by kernel_rfl) ?_ |apply qr |refine qw ?_ |refine qe ?_ |refine Fl.rel rfl rfl rfl rfl rfl rfl rfl rfl (by omega) (by first | omega | (simp; omega)) ?_ |refine Fl.rst rfl rfl rfl rfl rfl rfl rfl rfl rfl rfl rfl (LeL.refl _) rfl (by first | omega | (simp; omega)) ?_|fail));refine LoopEnd.of (i + 1) (by omega) (by omega) ?_;refine Ent.of [] ?_ ?_ rfl rfl;(repeat' (first |exact True.intro |refine ⟨⟨AV.Le.refl _, rfl⟩, ?_⟩ |refine ⟨⟨⟨_, rfl, BLe.row ?_⟩, rfl⟩, ?_⟩|fail));rw [take_snoc hx];exact set_rep (by rw [List.length_take]; omega) (by omega) rfl
   ·have hi : i = X.length := by omega
    refine JoinOk.of () trivial ?_;refine Ent.of [] ?_ ?_ rfl rfl;(repeat' (first |exact True.intro |refine ⟨⟨AV.Le.refl _, rfl⟩, ?_⟩ |refine ⟨⟨⟨_, rfl, BLe.row ?_⟩, rfl⟩, ?_⟩|fail));rw [hi]; simp
 ·intro _ _;(repeat' (first |refine qv ?_ |apply qn |apply qs |apply qr |apply qt));refine RetOk.ent (Ent.freeze 8 rfl) ?_;exact RetOk.of rfl (AV.Le.refl _)
theorem constant_ok (V : Nat) (x : Int) (hV : V ≤ 32) (hx : Fit x) : PureFn Tryz.prog 191 [aN V, aX x] (aP (mkP V (conU V x))) := by
 refine PureFn.of_body Tryz.func191 rfl Tryz.ntmps191 rfl rfl ?_;refine AWP.seqS ?_;(repeat' (first |apply qn |apply qr |refine qe ?_|fail));refine ⟨AWP.seqS ?_⟩;(repeat' (first |refine qv ?_ |apply qn |apply qr |refine qe ?_|fail));refine ⟨?_⟩;refine AWP.seq ?_;(repeat' (first |refine qv ?_ |apply qs |apply qr));refine qc (ZeroX_ok x) ?_;(repeat' (first |refine qv ?_ |apply qn |apply qs |apply qr |refine qe ?_ |(refine AWP.condN rfl ?_ ?_ <;> intro _ <;> try (exfalso; omega)) |apply qk |apply qt))
 ·rename_i h0;refine ql eX [x] ?_;skip;have e0 : [x][(0 : Int).toNat]? = some x := rfl;refine qc (xCopy_ok [x] (by simp [hx]) (by simp)) ?_;(repeat' (first | refine Fl.v rfl rfl rfl ?_ | refine Fl.elK rfl rfl rfl rfl rfl rfl rfl rfl (by assumption) (by omega) ?_ | fail));refine Fl.makeC rfl rfl rfl rfl rfl rfl rfl rfl rfl eI 0 (by exact LeL.refl _) (by rfl) (by omega) (by dsimp only; omega) (by omega) ?_;(repeat' (first |refine qe ?_|fail));refine ql eT [⟨zOf x, List.replicate V 0⟩] ?_;(repeat' (first |refine qv ?_ |apply qn |refine Fl.nil (fun _ => by kernel_rfl) ?_ |apply qs |apply qr |refine qe ?_ |apply qt));refine RetOk.of rfl ?_;rw [conU, if_neg h0];exact AV.Le.refl _
 ·rename_i h0;refine RetOk.of rfl ?_;rw [conU, if_pos h0];exact AV.Le.agg (LeL.cons (AV.Le.refl _) (LeL.cons (AV.Le.nil 3 eT) LeL.nil))
theorem pConstP_ok (V : Nat) (x : Int) (hV : V ≤ 32) (hx : Fit x) : PureFn Tryz.prog 158 [aN V, aX x] (.tup [aP (mkP V (conU V x)), aN 0]) := by
 refine PureFn.of_body Tryz.func158 rfl Tryz.ntmps158 rfl rfl ?_;(repeat' (first |refine qv ?_ |apply qn |apply qs |apply qr |refine qe ?_|fail));refine qc (Valid_int x hx) ?_;(repeat' (first |refine qv ?_ |apply qn |apply qs |apply qr |refine AWP.condF rfl ?_ |(refine AWP.condD rfl ?_ ?_ <;> intro _ <;> try (exfalso; omega)) |apply qk));refine qc (constant_ok V x hV hx) ?_;(repeat' (first |refine qv ?_ |apply qn |refine qe ?_ |apply qt));exact RetOk.of rfl (AV.Le.refl _)
theorem kNew_ok (V : Nat) : PureFn Tryz.prog 101 [aN V] (aK V) := by
 refine PureFn.of_body Tryz.func101 rfl Tryz.ntmps101 rfl rfl ?_;(repeat' (first |refine qv ?_ |apply qn |apply qs |apply qr |refine qe ?_ |apply qt));exact RetOk.of rfl (AV.Le.refl _)
theorem kV_ok (V i : Nat) (hV : V ≤ 32) (hi : i < V) : PureFn Tryz.prog 104 [aK V, aN i] (aP (mkP V (varU V i))) := by
 refine PureFn.of_body Tryz.func104 rfl Tryz.ntmps104 rfl rfl ?_;(repeat' (first |refine qv ?_ |apply qn |apply qs |apply qr |refine qe ?_|fail));refine qc (pVarP_ok V i hV hi) ?_;(repeat' (first |refine qv ?_ |apply qn |apply qs |apply qr |refine qe ?_ |apply qt));exact RetOk.of rfl (AV.Le.refl _)
theorem kN_ok (V : Nat) (c : Int) (hV : V ≤ 32) (h0 : -4294967296 < c) (h1 : c < 4294967296) : PureFn Tryz.prog 103 [aK V, aN c] (aP (mkP V (conU V c))) := by
 refine PureFn.of_body Tryz.func103 rfl Tryz.ntmps103 rfl rfl ?_;(repeat' (first |refine qv ?_ |apply qn |apply qs |apply qr |refine qe ?_|fail));refine qc (Of_ok c (by omega) (by omega)) ?_;skip;refine qc (pConstP_ok V c hV (fit_small (by omega) (by omega))) ?_;(repeat' (first |refine qv ?_ |apply qn |refine Fl.nil (fun _ => by kernel_rfl) ?_ |apply qs |apply qr |refine qe ?_ |apply qt));exact RetOk.of rfl (AV.Le.refl _)
theorem subMk (V : Nat) (hV : V ≤ 32) (p q l : List UT) (hp : chkU V p p = true) (hq : chkU V q q = true) (h : chkU V (addUs (-1) p q) l = true) : PureFn Tryz.prog 161 [aP (mkP V p), aP (mkP V q)] (.tup [aP (mkP V l), aN 0]) := by
 obtain ⟨p1, p2, p3⟩ := mk_ok hV hp;obtain ⟨q1, q2, q3⟩ := mk_ok hV hq
 have hs : SumOk V (plusU (-1) (mkP V p) (mkP V q)) (mkP V l) := by rw [plusU_mk]; exact chkU_ok hV h
 exact pSub_ok V hV _ _ p3 q3 p1 q1 p2 q2 _ (fun x hx => by rw [hs.uniq hx]) (fun k => absurd ⟨_, hs⟩ k)
theorem kSub_ok (V : Nat) (hV : V ≤ 32) (p q l : List UT) (hp : chkU V p p = true) (hq : chkU V q q = true) (h : chkU V (addUs (-1) p q) l = true) : PureFn Tryz.prog 106 [aK V, aP (mkP V p), aP (mkP V q)] (aP (mkP V l)) := by
 refine PureFn.of_body Tryz.func106 rfl Tryz.ntmps106 rfl rfl ?_;(repeat' (first |refine qv ?_ |apply qn |apply qs |apply qr |refine qe ?_|fail));refine qc (subMk V hV p q l hp hq h) ?_;(repeat' (first |refine qv ?_ |apply qn |apply qs |apply qr |refine qe ?_ |apply qt));exact RetOk.of rfl (AV.Le.refl _)
end Go.Proofs.YtmmfloplhopioaaGreat
/- Lists of terms az the reference holds them: bounds. -/
namespace Go.AL
theorem lenI_add {x y : Int} {M : Nat} (hx : lenI x ≤ M) (hy : lenI y ≤ M) : lenI (x + y) ≤ M + 1 := by
 rw [lenI_le] at *
 rw [BB_succ];have := BB_pos M;omega
theorem lenI_zero : lenI 0 = 0 := by
 have := (lenI_le (x := 0) (n := 0)).2 (by simp [BB_zero]);omega
def okT (V M : Nat) (l : List UT) : Prop := ∀ u ∈ l, u.2.length = V ∧ EOk u.2 ∧ lenI u.1 ≤ M
theorem okT.nil (V M : Nat) : okT V M [] := fun u h => by simp at h
theorem okT.mono {V M N : Nat} {l : List UT} (h : okT V M l) (hm : M ≤ N) : okT V N l := fun u hu => ⟨(h u hu).1, (h u hu).2.1, Nat.le_trans (h u hu).2.2 hm⟩
theorem okT.append {V M : Nat} {a b : List UT} (ha : okT V M a) (hb : okT V M b) : okT V M (a ++ b) := fun u hu => (List.mem_append.1 hu).elim (ha u) (hb u)
theorem okT.sub {V M : Nat} {a b : List UT} (h : okT V M a) (hs : ∀ u ∈ b, u ∈ a) : okT V M b := fun u hu => h u (hs u hu)
theorem okT.terms {V M : Nat} {l : List UT} (h : okT V M l) : TermsOk V M (l.map tz) := by
 refine ⟨?_, ?_, ?_, ?_⟩ <;> (intro t ht; obtain ⟨u, hu, rfl⟩ := List.mem_map.1 ht)
 ·exact toW_ok _
 ·show zOf u.1 = zOf (zval (zOf u.1)); rw [zval_zOf]
 ·exact ⟨(h u hu).2.1, (h u hu).1⟩
 ·show lenI (zval (zOf u.1)) ≤ M; rw [zval_zOf]; exact (h u hu).2.2
theorem cfU_len {V M : Nat} {l : List UT} (hc : CanU l) (h : okT V M l) (e : List Int) : lenI (cfU l e) ≤ M := by
 by_cases hz : cfU l e = 0
 ·rw [hz, lenI_zero]; omega
 ·obtain ⟨u, hu, he⟩ := cfU_mem hz;rw [← he, cfU_one hc.pw hu];exact (h u hu).2.2
theorem okT.can {V M : Nat} {a b : List UT} (ca : CanU a) (cb : CanU b) (ha : okT V M a) (hb : okT V M b) : okT V (M + 1) (canU (a ++ b)) := fun u hu => by
 obtain ⟨w, hw, he⟩ := canU_mem hu;have h1 := (ha.append hb) w hw;refine ⟨by rw [he]; exact h1.1, by rw [he]; exact h1.2.1, ?_⟩;have := ((canU_can (a ++ b)).mem_iff u).1 hu;rw [← this.2, cfU_canU, cfU_append];exact lenI_add (cfU_len ca ha _) (cfU_len cb hb _)
theorem insU_length (u : UT) : ∀ l : List UT, (insU u l).length ≤ l.length + 1
 | [] => by unfold insU; split <;> simp
 | w :: l => by
  unfold insU;split
  ·split <;> simp
  ·split
   ·split <;> simp <;> omega
   ·have := insU_length u l;simp; omega
theorem canU_length : ∀ l : List UT, (canU l).length ≤ l.length
 | [] => Nat.le_refl _
 | u :: l => by
  show (insU u (canU l)).length ≤ _;have := insU_length u (canU l);have := canU_length l;simp; omega
theorem conU_can (V : Nat) (c : Int) : canU [(c, List.replicate V 0)] = conU V c := by
 show insU _ [] = _;unfold insU conU;rfl
theorem okT.con {V M : Nat} {c : Int} (h : lenI c ≤ M) : okT V M (conU V c) := by
 unfold conU;split
 ·exact okT.nil V M
 ·intro u hu;simp only [List.mem_singleton] at hu;subst hu;exact ⟨by simp, EOk.zeros V, h⟩
theorem CanU.one {u : UT} (h : u.1 ≠ 0) : CanU [u] := CanU.nil.cons h (by simp)
theorem conU_canU (V : Nat) (c : Int) : CanU (conU V c) := by rw [← conU_can]; exact canU_can _
theorem EOk.unU (V i : Nat) : EOk (unU V i) := fun e he => by
 unfold Go.AL.unU at he;rcases List.mem_or_eq_of_mem_set he with h | h
 ·rw [List.eq_of_mem_replicate h]; omega
 ·omega
end Go.AL
/- Kit.Add, Kit.Mul. -/
namespace Go.AL
theorem okSums_cons {V : Nat} {acc p : List UT} {l : List (List UT)} (h : okSums V acc (p :: l) = true) : chkU V acc acc = true ∧ chkU V p p = true ∧ chkU V (addUs 1 acc p) (addL acc p) = true ∧ okSums V (addL acc p) l = true := by
 simp only [okSums, Bool.and_eq_true] at h;exact ⟨h.1.1.1, h.1.1.2, h.1.2, h.2⟩
theorem okMuls_cons {V : Nat} {acc p : List UT} {l : List (List UT)} (h : okMuls V acc (p :: l) = true) : chkU V acc acc = true ∧ chkU V p p = true ∧ degU acc p = true ∧ chkU V (mulUs acc p) (mulL2 acc p) = true ∧ okMuls V (mulL2 acc p) l = true := by
 simp only [okMuls, Bool.and_eq_true] at h;exact ⟨h.1.1.1.1, h.1.1.1.2, h.1.1.2, h.1.2, h.2⟩
theorem drop_cons {α : Type} {l : List α} {i : Nat} {x : α} (h : l[i]? = some x) : l.drop i = x :: l.drop (i + 1) := by
 have hi := List.getElem?_eq_some_iff.1 h;rw [List.drop_eq_getElem_cons hi.1, hi.2]
end Go.AL
namespace Go.Proofs.YtmmfloplhopioaaGreat
open Go.AL
theorem kAdd_ok (V : Nat) (hV : V ≤ 32) (ls : List (List UT)) (hl : ls.length ≤ 1000) (h : okSums V [] ls = true) : PureFn Tryz.prog 105 [aK V, .sl 2 eP (ls.map (mkP V))] (aP (mkP V (sumsU [] ls))) := by
 refine PureFn.of_body Tryz.func105 rfl Tryz.ntmps105 rfl rfl ?_;have hN := kN_ok V 0 hV (by omega) (by omega);rw [show conU V 0 = [] from rfl] at hN;refine AWP.seqS ?_;(repeat' (first |apply qn |apply qr |refine qe ?_|fail));refine ⟨AWP.seqS ?_⟩;(repeat' (first |refine qv ?_ |apply qr));refine qc (hN) ?_;(repeat' (first |apply qn |refine qe ?_|fail));refine ⟨?_⟩;obtain ⟨L, hL⟩ : ∃ L, L = ls.map (mkP V) := ⟨_, rfl⟩
 have hLl : L.length = ls.length := by rw [hL, List.length_map]
 rw [← hL];(repeat' (first |refine qv ?_ |apply qn |apply qs |apply qr |apply qb));refine AWP.loop (G := Nat × List UT) (fun (i, acc) => i ≤ ls.length ∧ okSums V acc (ls.drop i) = true ∧ sumsU acc (ls.drop i) = sumsU [] ls) (fun (i, acc) => St.of [] [(4, .ptr 4 0), (5, .ptr 5 0), (10, .sl 2 eP L), (11, aN L.length), (12, aN i)] [(4, .cells [aN 0, .v (.slice none 0 0)] 105), (5, .cells (eP (mkP V acc)) 105)]) (fun (i, acc) => ls.length - i) (0, []) ⟨by omega, h, rfl⟩ ?_ ?_
 ·refine Ent.of [] ?_ ?_ rfl rfl;(repeat' (first |exact True.intro |refine ⟨⟨AV.Le.refl _, rfl⟩, ?_⟩ |refine ⟨⟨⟨_, rfl, BLe.cells (LeL.refl _)⟩, rfl⟩, ?_⟩|fail))
 ·intro ⟨i, acc⟩ ⟨h0, h1, h2⟩;(repeat' (first |refine qv ?_ |apply qn |apply qs |apply qr |refine qe ?_ |(refine AWP.condD rfl ?_ ?_ <;> intro _ <;> try (exfalso; omega)) |apply qb |apply qk |apply qx |apply qt |(refine Fl.el rfl rfl rfl rfl rfl rfl rfl rfl (by omega) (by omega) ?_; intro _ _)|fail))
  ·rename_i hi p hp;rw [Int.toNat_natCast, hL, List.getElem?_map] at hp;obtain ⟨q, hq, rfl⟩ := Option.map_eq_some_iff.1 hp;rw [drop_cons hq] at h1 h2;obtain ⟨c1, c2, c3, c4⟩ := okSums_cons h1;refine qc (addMk V hV acc q _ c1 c2 c3) ?_;(repeat' (first |refine qv ?_ |apply qn |apply qr |refine qw ?_ |refine qe ?_|fail));refine LoopEnd.of (i + 1, addL acc q) ⟨by omega, c4, h2⟩ (by simp only; omega) ?_;refine Ent.of [] ?_ ?_ rfl rfl;(repeat' (first |exact True.intro |refine ⟨⟨AV.Le.refl _, rfl⟩, ?_⟩ |refine ⟨⟨⟨_, rfl, BLe.cells (LeL.refl _)⟩, rfl⟩, ?_⟩|fail))
  ·rename_i hi;rw [List.drop_of_length_le (by omega)] at h2;refine RetOk.of rfl (AV.Le.of_eq ?_);rw [← h2]; rfl
theorem kMul_ok (V : Nat) (hV : V ≤ 32) (ls : List (List UT)) (hl : ls.length ≤ 1000) (h : okMuls V (conU V 1) ls = true) : PureFn Tryz.prog 102 [aK V, .sl 2 eP (ls.map (mkP V))] (aP (mkP V (mulsU (conU V 1) ls))) := by
 refine PureFn.of_body Tryz.func102 rfl Tryz.ntmps102 rfl rfl ?_;have hN := kN_ok V 1 hV (by omega) (by omega);refine AWP.seqS ?_;(repeat' (first |apply qn |apply qr |refine qe ?_|fail));refine ⟨AWP.seqS ?_⟩;(repeat' (first |refine qv ?_ |apply qr));refine qc (hN) ?_;(repeat' (first |apply qn |refine qe ?_|fail));refine ⟨?_⟩;obtain ⟨L, hL⟩ : ∃ L, L = ls.map (mkP V) := ⟨_, rfl⟩
 have hLl : L.length = ls.length := by rw [hL, List.length_map]
 rw [← hL];(repeat' (first |refine qv ?_ |apply qn |apply qs |apply qr |apply qb));refine AWP.loop (G := Nat × List UT) (fun (i, acc) => i ≤ ls.length ∧ okMuls V acc (ls.drop i) = true ∧ mulsU acc (ls.drop i) = mulsU (conU V 1) ls) (fun (i, acc) => St.of [] [(4, .ptr 4 0), (5, .ptr 5 0), (10, .sl 2 eP L), (11, aN L.length), (12, aN i)] [(4, .cells [aN 0, .v (.slice none 0 0)] 105), (5, .cells (eP (mkP V acc)) 105)]) (fun (i, acc) => ls.length - i) (0, conU V 1) ⟨by omega, h, rfl⟩ ?_ ?_
 ·refine Ent.of [] ?_ ?_ rfl rfl;(repeat' (first |exact True.intro |refine ⟨⟨AV.Le.refl _, rfl⟩, ?_⟩ |refine ⟨⟨⟨_, rfl, BLe.cells (LeL.refl _)⟩, rfl⟩, ?_⟩|fail))
 ·intro ⟨i, acc⟩ ⟨h0, h1, h2⟩;(repeat' (first |refine qv ?_ |apply qn |apply qs |apply qr |refine qe ?_ |(refine AWP.condD rfl ?_ ?_ <;> intro _ <;> try (exfalso; omega)) |apply qb |apply qk |apply qx |apply qt |(refine Fl.el rfl rfl rfl rfl rfl rfl rfl rfl (by omega) (by omega) ?_; intro _ _)|fail))
  ·rename_i hi p hp;rw [Int.toNat_natCast, hL, List.getElem?_map] at hp;obtain ⟨q, hq, rfl⟩ := Option.map_eq_some_iff.1 hp;rw [drop_cons hq] at h1 h2;obtain ⟨c1, c2, c3, c4, c5⟩ := okMuls_cons h1;refine qc (mulMk V hV acc q _ c1 c2 c3 c4) ?_;(repeat' (first |refine qv ?_ |apply qn |apply qr |refine qw ?_ |refine qe ?_|fail));refine LoopEnd.of (i + 1, mulL2 acc q) ⟨by omega, c5, h2⟩ (by simp only; omega) ?_;refine Ent.of [] ?_ ?_ rfl rfl;(repeat' (first |exact True.intro |refine ⟨⟨AV.Le.refl _, rfl⟩, ?_⟩ |refine ⟨⟨⟨_, rfl, BLe.cells (LeL.refl _)⟩, rfl⟩, ?_⟩|fail))
  ·rename_i hi;rw [List.drop_of_length_le (by omega)] at h2;refine RetOk.of rfl (AV.Le.of_eq ?_);rw [← h2]; rfl
end Go.Proofs.YtmmfloplhopioaaGreat
/- Kit.Link: its closures; what occurs. -/
namespace Go.AL
def occL (V : Nat) (ls : List (List UT)) : List Nat := (List.range V).filter fun i => ls.any fun p => p.any fun u => decide (0 < u.2.getD i 0)
def pickE (occ : List Nat) (e : List Int) : List Int := occ.map fun i => e.getD i 0
def pickU (occ : List Nat) (p : List UT) : List UT := p.map fun u => (u.1, pickE occ u.2)
def linkU (V : Nat) (kind : Int) (ls : List (List UT)) : LZ := ⟨kind, (occL V ls).map fun (i : Nat) => (i : Int), ls.map fun p => mkP (occL V ls).length (pickU (occL V ls) p)⟩
end Go.AL
namespace Go.Proofs.YtmmfloplhopioaaGreat
open Go.AL
abbrev iB (i : Int) : List (AL.Id × Bx) := [(900, .cells [aN i] 3)]
theorem idxT_ok (o : Int) (f : TZ → Bool) (ps : List TZ) (hl : ps.length ≤ 1000000) (hf : ∀ p ∈ ps, IoFn Tryz.prog 197 ([aT p] ++ [.ptr 900 0]) (iB o) (.ret (aB (f p))) (iB o)) :
  IoFn Tryz.prog 217 [.sl 3 eT ps, .fn 197 [.ptr 900 0]] (iB o) (.ret (aN (idxI f ps 0))) (iB o) := by
 refine IoFn.of_body Tryz.func217 rfl Tryz.ntmps217 rfl rfl rfl ?_;(repeat' (first |refine qv ?_ |apply qn |apply qs |apply qr |apply qb));refine AWP.loop (G := Nat) (fun i => i ≤ ps.length ∧ idxI f (ps.drop i) i = idxI f ps 0) (fun i => St.of [900] [(0, .sl 3 eT ps), (1, .fn 197 [.ptr 900 0]), (7, aN ps.length), (8, aN i)] [(900, .cells [aN o] 3)]) (fun i => ps.length - i) 0 ⟨by omega, by simp⟩ ?_ ?_
 ·refine Ent.of [] ?_ ?_ rfl rfl;(repeat' (first |exact True.intro |refine ⟨⟨AV.Le.refl _, rfl⟩, ?_⟩ |refine ⟨⟨⟨_, rfl, BLe.cells (LeL.refl _)⟩, rfl⟩, ?_⟩|fail))
 ·intro i ⟨k0, k1⟩;(repeat' (first |refine qv ?_ |apply qn |apply qs |apply qr |(refine AWP.condD rfl ?_ ?_ <;> intro _ <;> try (exfalso; omega)) |apply qb |apply qk |apply qx |apply qt |(refine Fl.el rfl rfl rfl rfl rfl rfl rfl rfl (by omega) (by omega) ?_; intro _ _)|fail))
  ·rename_i hi p hp;rw [Int.toNat_natCast] at hp;have hd := idxI_drop (f := f) hp;refine Fl.ioV rfl rfl [] (hf p (List.mem_of_getElem? hp)) rfl rfl (LeL.refl _) rfl ⟨⟨⟨_, rfl, BLe.cells (LeL.refl _)⟩, rfl⟩, trivial⟩ rfl rfl rfl rfl rfl ?_;(repeat' (first |refine qv ?_ |apply qn |apply qs |apply qr |refine qw ?_ |apply qk |apply qt |(refine AWP.condB rfl ?_ ?_ <;> intro _)))
   ·rename_i hb;rw [if_pos hb] at hd;refine ⟨⟨[], _, _, Ent.refl _ _ _, rfl, AV.Le.int ?_, rfl, ⟨⟨⟨_, rfl, BLe.cells (LeL.refl _)⟩, rfl⟩, trivial⟩, rfl, rfl⟩⟩;rw [← k1, hd]
   ·rename_i hb;rw [if_neg (by rw [hb]; simp)] at hd;refine LoopEnd.of (i + 1) ⟨by omega, by rw [← k1, hd]⟩ (by omega) ?_;refine Ent.of [] ?_ ?_ rfl rfl;(repeat' (first |exact True.intro |refine ⟨⟨AV.Le.refl _, rfl⟩, ?_⟩ |refine ⟨⟨⟨_, rfl, BLe.cells (LeL.refl _)⟩, rfl⟩, ?_⟩|fail))
  ·refine ⟨⟨[], _, _, Ent.refl _ _ _, rfl, AV.Le.int ?_, rfl, ⟨⟨⟨_, rfl, BLe.cells (LeL.refl _)⟩, rfl⟩, trivial⟩, rfl, rfl⟩⟩;rw [← k1, List.drop_of_length_le (by omega)]; rfl
theorem conT_ok (o : Int) (f : TZ → Bool) (ps : List TZ) (hl : ps.length ≤ 1000000) (hf : ∀ p ∈ ps, IoFn Tryz.prog 197 ([aT p] ++ [.ptr 900 0]) (iB o) (.ret (aB (f p))) (iB o)) :
  IoFn Tryz.prog 196 [.sl 3 eT ps, .fn 197 [.ptr 900 0]] (iB o) (.ret (aB (ps.any f))) (iB o) := by
 refine IoFn.of_body Tryz.func196 rfl Tryz.ntmps196 rfl rfl rfl ?_;have h := idxT_ok o f ps hl hf;have he := idxI_any f ps 0 (by omega);(repeat' (first |refine qv ?_ |apply qn |apply qs |apply qr));refine qi [] h ?_;(repeat' (first |refine qv ?_ |apply qn |apply qt));exact ⟨⟨[], _, _, Ent.refl _ _ _, rfl, AV.Le.bool he, rfl, ⟨⟨⟨_, rfl, BLe.cells (LeL.refl _)⟩, rfl⟩, trivial⟩, rfl, rfl⟩⟩
theorem link11_ok (i : Nat) (t : TZ) (hi : i < t.e.length) : IoFn Tryz.prog 197 [aT t, .ptr 900 0] (iB i) (.ret (aB (decide (0 < t.e.getD i 0)))) (iB i) := by
 refine IoFn.of_body Tryz.func197 rfl Tryz.ntmps197 rfl rfl rfl ?_;(repeat' (first |refine qv ?_ |apply qn |apply qs |apply qr |refine qe ?_ |apply qt |(refine Fl.el rfl rfl rfl rfl rfl rfl rfl rfl (by omega) (by omega) ?_; intro _ _)|fail));rename_i x hx
 have hx : t.e[i]? = some x := by simpa using hx
 refine ⟨⟨[], _, _, Ent.refl _ _ _, rfl, AV.Le.bool ?_, rfl, ⟨⟨⟨_, rfl, BLe.cells (LeL.refl _)⟩, rfl⟩, trivial⟩, rfl, rfl⟩⟩;rw [List.getD_eq_getElem?_getD, hx];rfl
theorem idxK_ok (o : Int) (f : PZ → Bool) (ps : List PZ) (hl : ps.length ≤ 1000000) (hf : ∀ p ∈ ps, IoFn Tryz.prog 195 ([aP p] ++ [.ptr 900 0]) (iB o) (.ret (aB (f p))) (iB o)) :
  IoFn Tryz.prog 200 [.sl 2 eP ps, .fn 195 [.ptr 900 0]] (iB o) (.ret (aN (idxI f ps 0))) (iB o) := by
 refine IoFn.of_body Tryz.func200 rfl Tryz.ntmps200 rfl rfl rfl ?_;(repeat' (first |refine qv ?_ |apply qn |apply qs |apply qr |apply qb));refine AWP.loop (G := Nat) (fun i => i ≤ ps.length ∧ idxI f (ps.drop i) i = idxI f ps 0) (fun i => St.of [900] [(0, .sl 2 eP ps), (1, .fn 195 [.ptr 900 0]), (7, aN ps.length), (8, aN i)] [(900, .cells [aN o] 3)]) (fun i => ps.length - i) 0 ⟨by omega, by simp⟩ ?_ ?_
 ·refine Ent.of [] ?_ ?_ rfl rfl;(repeat' (first |exact True.intro |refine ⟨⟨AV.Le.refl _, rfl⟩, ?_⟩ |refine ⟨⟨⟨_, rfl, BLe.cells (LeL.refl _)⟩, rfl⟩, ?_⟩|fail))
 ·intro i ⟨k0, k1⟩;(repeat' (first |refine qv ?_ |apply qn |apply qs |apply qr |(refine AWP.condD rfl ?_ ?_ <;> intro _ <;> try (exfalso; omega)) |apply qb |apply qk |apply qx |apply qt |(refine Fl.el rfl rfl rfl rfl rfl rfl rfl rfl (by omega) (by omega) ?_; intro _ _)|fail))
  ·rename_i hi p hp;rw [Int.toNat_natCast] at hp;have hd := idxI_drop (f := f) hp;refine Fl.ioV rfl rfl [] (hf p (List.mem_of_getElem? hp)) rfl rfl (LeL.refl _) rfl ⟨⟨⟨_, rfl, BLe.cells (LeL.refl _)⟩, rfl⟩, trivial⟩ rfl rfl rfl rfl rfl ?_;(repeat' (first |refine qv ?_ |apply qn |apply qs |apply qr |refine qw ?_ |apply qk |apply qt |(refine AWP.condB rfl ?_ ?_ <;> intro _)))
   ·rename_i hb;rw [if_pos hb] at hd;refine ⟨⟨[], _, _, Ent.refl _ _ _, rfl, AV.Le.int ?_, rfl, ⟨⟨⟨_, rfl, BLe.cells (LeL.refl _)⟩, rfl⟩, trivial⟩, rfl, rfl⟩⟩;rw [← k1, hd]
   ·rename_i hb;rw [if_neg (by rw [hb]; simp)] at hd;refine LoopEnd.of (i + 1) ⟨by omega, by rw [← k1, hd]⟩ (by omega) ?_;refine Ent.of [] ?_ ?_ rfl rfl;(repeat' (first |exact True.intro |refine ⟨⟨AV.Le.refl _, rfl⟩, ?_⟩ |refine ⟨⟨⟨_, rfl, BLe.cells (LeL.refl _)⟩, rfl⟩, ?_⟩|fail))
  ·refine ⟨⟨[], _, _, Ent.refl _ _ _, rfl, AV.Le.int ?_, rfl, ⟨⟨⟨_, rfl, BLe.cells (LeL.refl _)⟩, rfl⟩, trivial⟩, rfl, rfl⟩⟩;rw [← k1, List.drop_of_length_le (by omega)]; rfl
theorem conK_ok (o : Int) (f : PZ → Bool) (ps : List PZ) (hl : ps.length ≤ 1000000) (hf : ∀ p ∈ ps, IoFn Tryz.prog 195 ([aP p] ++ [.ptr 900 0]) (iB o) (.ret (aB (f p))) (iB o)) :
  IoFn Tryz.prog 174 [.sl 2 eP ps, .fn 195 [.ptr 900 0]] (iB o) (.ret (aB (ps.any f))) (iB o) := by
 refine IoFn.of_body Tryz.func174 rfl Tryz.ntmps174 rfl rfl rfl ?_;have h := idxK_ok o f ps hl hf;have he := idxI_any f ps 0 (by omega);(repeat' (first |refine qv ?_ |apply qn |apply qs |apply qr));refine qi [] h ?_;(repeat' (first |refine qv ?_ |apply qn |apply qt));exact ⟨⟨[], _, _, Ent.refl _ _ _, rfl, AV.Le.bool he, rfl, ⟨⟨⟨_, rfl, BLe.cells (LeL.refl _)⟩, rfl⟩, trivial⟩, rfl, rfl⟩⟩
theorem linkK1_ok (i : Nat) (p : PZ) (hl : p.terms.length ≤ 1000000) (hi : ∀ t ∈ p.terms, i < t.e.length) : IoFn Tryz.prog 195 [aP p, .ptr 900 0] (iB i) (.ret (aB (p.terms.any fun t => decide (0 < t.e.getD i 0)))) (iB i) := by
 refine IoFn.of_body Tryz.func195 rfl Tryz.ntmps195 rfl rfl rfl ?_;have h := conT_ok i (fun t => decide (0 < t.e.getD i 0)) p.terms hl (fun t ht => link11_ok i t (hi t ht));(repeat' (first |refine qv ?_ |apply qn |apply qs |apply qr |refine qe ?_|fail))
 refine qi [] h ?_;(repeat' (first |refine qv ?_ |apply qn |apply qt));exact ⟨⟨[], _, _, Ent.refl _ _ _, rfl, AV.Le.refl _, rfl, ⟨⟨⟨_, rfl, BLe.cells (LeL.refl _)⟩, rfl⟩, trivial⟩, rfl, rfl⟩⟩
end Go.Proofs.YtmmfloplhopioaaGreat
/- Kit.Link, Kit.Eq: the walk. -/
namespace Go.AL
def occP (ls : List (List UT)) (i : Nat) : Bool := ls.any fun p => p.any fun u => decide (0 < u.2.getD i 0)
def occI (ls : List (List UT)) (i : Nat) : List Int := ((List.range i).filter (occP ls)).map fun (j : Nat) => (j : Int)
theorem occI_step (ls : List (List UT)) (i : Nat) : occI ls (i + 1) = if occP ls i = true then occI ls i ++ [(i : Int)] else occI ls i := by
 unfold occI;rw [List.range_succ, List.filter_append, List.map_append];by_cases h : occP ls i = true
 ·rw [if_pos h]; simp [h]
 ·rw [if_neg h]; simp [h]
theorem occI_len (ls : List (List UT)) (i : Nat) : (occI ls i).length ≤ i := by
 unfold occI;rw [List.length_map];exact Nat.le_trans (List.length_filter_le _ _) (by simp)
theorem occI_mem {ls : List (List UT)} {V : Nat} {x : Int} (h : x ∈ occI ls V) : 0 ≤ x ∧ x < V := by
 unfold occI at h;obtain ⟨j, hj, rfl⟩ := List.mem_map.1 h;have := (List.mem_filter.1 hj).1;rw [List.mem_range] at this;omega
theorem occP_any (V : Nat) (ls : List (List UT)) (i : Nat) : ((ls.map (mkP V)).any fun p => p.terms.any fun t => decide (0 < t.e.getD i 0)) = occP ls i := by
 unfold occP;rw [List.any_map];congr 1;funext p;simp only [Function.comp, mkP, List.any_map];rfl
def pickX (occ : List Int) (e : List Int) : List Int := occ.map fun x => e.getD x.toNat 0
theorem pickX_eq (occ : List Nat) (e : List Int) : pickX (occ.map fun (i : Nat) => (i : Int)) e = pickE occ e := by
 unfold pickX pickE;rw [List.map_map];rfl
end Go.AL
namespace Go.Proofs.YtmmfloplhopioaaGreat
open Go.AL
set_option maxHeartbeats 1000000 in
theorem kLink_ok (V : Nat) (kind : Int) (ls : List (List UT)) (hV : V ≤ 32) (hl : ls.length ≤ 1000) (hk : ∀ p ∈ ls, p.length ≤ 3000 ∧ ∀ u ∈ p, u.2.length = V) : PureFn Tryz.prog 162 [aK V, aN kind, .sl 2 eP (ls.map (mkP V))] (aL (linkU V kind ls)) := by
 refine PureFn.of_body Tryz.func162 rfl Tryz.ntmps162 rfl rfl ?_;obtain ⟨L, hL⟩ : ∃ L, L = ls.map (mkP V) := ⟨_, rfl⟩
 have hLl : L.length = ls.length := by rw [hL, List.length_map]
 rw [← hL]
 have hcon : ∀ i : Nat, i < V → IoFn Tryz.prog 174 [.sl 2 eP L, .fn 195 [.ptr 900 0]] (iB i) (.ret (aB (occP ls i))) (iB i) := fun i hi => by
  have h := conK_ok i (fun p => p.terms.any fun t => decide (0 < t.e.getD i 0)) L (by omega) (fun p hp => by
   rw [hL] at hp;obtain ⟨q, hq, rfl⟩ := List.mem_map.1 hp;have := hk q hq;refine linkK1_ok i (mkP V q) (by simp only [mkP, List.length_map]; omega) (fun t ht => ?_);obtain ⟨u, hu, rfl⟩ := List.mem_map.1 ht;have := this.2 u hu;show i < u.2.length
   omega)
  rw [hL, occP_any] at h;rw [hL];exact h
 refine AWP.seqS ?_;(repeat' (first |apply qn |apply qr |refine qe ?_|fail));refine ⟨AWP.seqS ?_⟩;(repeat' (first |refine qv ?_ |apply qn |apply qr |refine qe ?_|fail));refine ⟨?_⟩;refine AWP.ent (Ent.nilcell 7 1 805 rfl rfl rfl 1 eI 3) ?_;(repeat' (first |refine qv ?_ |apply qn |apply qs |apply qr |apply qb));refine AWP.loop (G := Nat) (fun i => i ≤ V) (fun i => St.of [] [(2, .sl 2 eP L), (6, .ptr 6 0), (7, .ptr 7 0), (20, aN V), (21, aN i)] [(6, .cells [aN 0, .v (.slice none 0 0), .v (.slice none 0 0)] 99), (7, .cells [aN kind, .row 700, .v (.slice none 0 0)] 99), (700, .row 1 eI (occI ls i) 3)]) (fun i => V - i) 0 (by omega) ?_ ?_
 ·refine Ent.of [(700, 805)] ?_ ?_ rfl rfl;(repeat' (first |exact True.intro |refine ⟨⟨AV.Le.refl _, rfl⟩, ?_⟩ |refine ⟨⟨⟨_, rfl, BLe.cells (LeL.refl _)⟩, rfl⟩, ?_⟩ |refine ⟨⟨⟨_, rfl, BLe.row rfl⟩, rfl⟩, ?_⟩|fail))
 ·intro i k0;have hol := occI_len ls i;have hst := occI_step ls i;(repeat' (first |refine qv ?_ |apply qn |apply qs |apply qr |refine qe ?_ |(refine AWP.condD rfl ?_ ?_ <;> intro _ <;> try (exfalso; omega)) |apply qb |apply qk |apply qx))
  ·rename_i hi;refine qi [(900, 8)] (hcon i (by omega)) ?_;(repeat' (first |refine qv ?_ |apply qn |apply qr |refine qw ?_ |apply qk |(refine AWP.condB rfl ?_ ?_ <;> intro _)))
   ·rename_i hb;rw [if_pos hb] at hst;refine ql eI [(i : Int)] ?_;skip;refine qa (hby := (by dsimp only [List.length_nil, List.length_cons]; omega)) (hm := (by simp; omega)) (r := ?_);(repeat' (first |refine qv ?_ |apply qn |apply qr |refine qw ?_ |refine qe ?_|fail));refine LoopEnd.of (i + 1) (by omega) (by omega) ?_;refine Ent.of [(700, 31)] ?_ ?_ rfl rfl;(repeat' (first |exact True.intro |refine ⟨⟨AV.Le.refl _, rfl⟩, ?_⟩ |refine ⟨⟨⟨_, rfl, BLe.cells (LeL.refl _)⟩, rfl⟩, ?_⟩ |refine ⟨⟨⟨_, rfl, BLe.row ?_⟩, rfl⟩, ?_⟩|fail));exact hst.symm
   ·rename_i hb;rw [if_neg (by rw [hb]; simp)] at hst;refine LoopEnd.of (i + 1) (by omega) (by omega) ?_;refine Ent.of [] ?_ ?_ rfl rfl;(repeat' (first |exact True.intro |refine ⟨⟨AV.Le.refl _, rfl⟩, ?_⟩ |refine ⟨⟨⟨_, rfl, BLe.cells (LeL.refl _)⟩, rfl⟩, ?_⟩ |refine ⟨⟨⟨_, rfl, BLe.row ?_⟩, rfl⟩, ?_⟩|fail));exact hst.symm
  ·rename_i hi
   have hiV : i = V := by omega
   subst hiV;have hom : ∀ (m : Nat) (x : Int), (occI ls i)[m]? = some x → 0 ≤ x ∧ x < i := fun m x hx => occI_mem (List.mem_of_getElem? hx);have hocc : occI ls i = (occL i ls).map fun (i : Nat) => (i : Int) := rfl
   have hon : (occL i ls).length = (occI ls i).length := by rw [hocc, List.length_map]
   have hres : linkU i kind ls = ⟨kind, occI ls i, ls.map fun p => mkP (occI ls i).length (p.map fun u => (u.1, pickX (occI ls i) u.2))⟩ := by
    unfold linkU;rw [← hocc, hon];congr 1;refine List.map_congr_left fun p _ => ?_;unfold pickU;congr 1;refine List.map_congr_left fun u _ => ?_;rw [hocc, pickX_eq]
   rw [hres]
   generalize occI ls i = occ at *
   refine AWP.ent (Ent.freeze 700 rfl) ?_;refine AWP.ent (Ent.nilcell 7 2 806 rfl rfl rfl 2 eP 105) ?_;skip;refine AWP.loop (G := Nat) (fun j => j ≤ ls.length) (fun j => St.of [] [(6, .ptr 6 0), (7, .ptr 7 0), (34, .sl 2 eP L), (35, aN L.length), (36, aN j)] [(6, .cells [aN 0, .v (.slice none 0 0), .v (.slice none 0 0)] 99), (7, .cells [aN kind, aI occ, .row 701] 99), (701, .row 2 eP ((ls.take j).map fun p => mkP occ.length (p.map fun u => (u.1, pickX occ u.2))) 105)]) (fun j => ls.length - j) 0 (by omega) ?_ ?_
   ·refine Ent.of [(701, 806)] ?_ ?_ rfl rfl;(repeat' (first |exact True.intro |refine ⟨⟨AV.Le.refl _, rfl⟩, ?_⟩ |refine ⟨⟨⟨_, rfl, BLe.cells (LeL.refl _)⟩, rfl⟩, ?_⟩ |refine ⟨⟨⟨_, rfl, BLe.row rfl⟩, rfl⟩, ?_⟩|fail))
   ·intro j g0
    have hlj : ((ls.take j).map fun p => mkP occ.length (p.map fun u => (u.1, pickX occ u.2))).length = j := by rw [List.length_map, List.length_take]; omega
    by_cases hj : j < ls.length
    ·obtain ⟨q, hq⟩ : ∃ q, ls[j]? = some q := ⟨_, List.getElem?_eq_getElem hj⟩
     have hLq : L[j]? = some (mkP i q) := by rw [hL, List.getElem?_map, hq]; rfl
     obtain ⟨hq1, hq2⟩ := hk q (List.mem_of_getElem? hq);refine AWP.seqS ?_;(repeat' (first |refine qv ?_ |apply qn |apply qr));refine ⟨?_⟩;refine AWP.seqS ?_;(repeat' (first |(refine AWP.condD rfl ?_ ?_ <;> intro _ <;> try (exfalso; omega)) |apply qk));refine ⟨?_⟩;refine AWP.seq (AWP.block (AWP.seqS ?_));(repeat' (first |refine qv ?_ |apply qn |apply qr |refine qe ?_ |refine qK ?_|fail));refine ⟨?_⟩;refine AWP.seqS ?_;(repeat' (first |refine qv ?_ |apply qn |apply qr |refine qe ?_|fail));refine ⟨?_⟩;refine AWP.ent (Ent.nilcell 11 1 807 rfl rfl rfl 3 eT 158) ?_;(repeat' (first |refine qv ?_ |apply qn |apply qs |apply qr |apply qb));obtain ⟨T, hT⟩ : ∃ T, T = (mkP i q).terms := ⟨_, rfl⟩
     have hTl : T.length = q.length := by rw [hT]; simp [mkP]
     refine AWP.loop (G := Nat) (fun k => k ≤ q.length) (fun k => St.of [] [(6, .ptr 6 0), (7, .ptr 7 0), (34, .sl 2 eP L), (35, aN L.length), (36, aN j), (11, .ptr 11 0), (45, .sl 3 eT T), (46, aN T.length), (47, aN k)] [(6, .cells [aN 0, .v (.slice none 0 0), .v (.slice none 0 0)] 99), (7, .cells [aN kind, aI occ, .row 701] 99), (701, .row 2 eP ((ls.take j).map fun p => mkP occ.length (p.map fun u => (u.1, pickX occ u.2))) 105), (11, .cells [aN occ.length, .row 702] 105), (702, .row 3 eT (((q.take k).map fun u => (u.1, pickX occ u.2)).map tz) 158)]) (fun k => q.length - k) 0 (by omega) ?_ ?_
     ·refine Ent.of [(702, 807)] ?_ ?_ rfl rfl;(repeat' (first |exact True.intro |refine ⟨⟨AV.Le.refl _, rfl⟩, ?_⟩ |refine ⟨⟨⟨_, rfl, BLe.cells (LeL.refl _)⟩, rfl⟩, ?_⟩ |refine ⟨⟨⟨_, rfl, BLe.row rfl⟩, rfl⟩, ?_⟩ |refine ⟨⟨AV.Le.int ?_, rfl⟩, ?_⟩ |refine ⟨⟨AV.Le.sl ?_, rfl⟩, ?_⟩|fail))
      ·exact hT.symm
      ·rw [hTl]; simp [mkP]
     ·intro k e0
      have hlk : (((q.take k).map fun u => (u.1, pickX occ u.2)).map tz).length = k := by rw [List.length_map, List.length_map, List.length_take]; omega
      by_cases hkq : k < q.length
      ·obtain ⟨u, hu⟩ : ∃ u, q[k]? = some u := ⟨_, List.getElem?_eq_getElem hkq⟩
       have hTu : T[k]? = some (tz u) := by rw [hT]; show (q.map tz)[k]? = _; rw [List.getElem?_map, hu]; rfl
       have hul := hq2 u (List.mem_of_getElem? hu);refine AWP.seqS ?_;(repeat' (first |refine qv ?_ |apply qn |apply qr));refine ⟨?_⟩;refine AWP.seqS ?_;(repeat' (first |(refine AWP.condD rfl ?_ ?_ <;> intro _ <;> try (exfalso; omega)) |apply qk));refine ⟨AWP.seq (AWP.block (AWP.seqS ?_))⟩;(repeat' (first |refine qv ?_ |apply qn |apply qr |refine qe ?_ |refine qK ?_|fail));refine ⟨AWP.seqS ?_⟩;(repeat' (first |refine qv ?_ |apply qr));refine Fl.make0 rfl rfl rfl rfl rfl rfl rfl rfl rfl eI (by omega) (by dsimp only; omega) (by omega) ?_;(repeat' (first |refine qv ?_ |apply qn));refine ⟨AWP.seq ?_⟩;(repeat' (first |refine qv ?_ |apply qn |apply qs |apply qr |apply qb));refine AWP.loop (G := Nat) (fun m => m ≤ occ.length) (fun m => St.of [] [(6, .ptr 6 0), (7, .ptr 7 0), (34, .sl 2 eP L), (35, aN L.length), (36, aN j), (11, .ptr 11 0), (45, .sl 3 eT T), (46, aN T.length), (47, aN k), (13, .ptr 13 0), (14, .row 703), (56, aI occ), (57, aN occ.length), (58, aN m)] [(6, .cells [aN 0, .v (.slice none 0 0), .v (.slice none 0 0)] 99), (7, .cells [aN kind, aI occ, .row 701] 99), (701, .row 2 eP ((ls.take j).map fun p => mkP occ.length (p.map fun u => (u.1, pickX occ u.2))) 105), (11, .cells [aN occ.length, .row 702] 105), (702, .row 3 eT (((q.take k).map fun u => (u.1, pickX occ u.2)).map tz) 158), (13, .cells (eT (tz u)) 158), (703, .row 1 eI ((occ.take m).map fun x => u.2.getD x.toNat 0) 3)]) (fun m => occ.length - m) 0 (by omega) ?_ ?_
       ·refine Ent.of [(703, 54)] ?_ ?_ rfl rfl;(repeat' (first |exact True.intro |refine ⟨⟨AV.Le.refl _, rfl⟩, ?_⟩ |refine ⟨⟨⟨_, rfl, BLe.cells (LeL.refl _)⟩, rfl⟩, ?_⟩ |refine ⟨⟨⟨_, rfl, BLe.row rfl⟩, rfl⟩, ?_⟩|fail))
       ·intro m m0
        have hlm : ((occ.take m).map fun x => u.2.getD x.toNat 0).length = m := by rw [List.length_map, List.length_take]; omega
        by_cases hm : m < occ.length
        ·obtain ⟨x, hx⟩ : ∃ x, occ[m]? = some x := ⟨_, List.getElem?_eq_getElem hm⟩;have hxb := hom m x hx;obtain ⟨y, hy⟩ : ∃ y, u.2[x.toNat]? = some y := ⟨_, List.getElem?_eq_getElem (by omega)⟩;(repeat' (first |refine qv ?_ |apply qn |apply qs |apply qr |(refine AWP.condD rfl ?_ ?_ <;> intro _ <;> try (exfalso; omega)) |apply qb |apply qk |refine qK ?_|fail));refine ql eI [y] ?_;skip;refine qa (hby := (by dsimp only [List.length_nil, List.length_cons]; omega)) (hm := (by dsimp only [List.length_nil, List.length_cons]; omega)) (r := ?_);(repeat' (first |refine qv ?_ |apply qn |apply qr |refine qw ?_|fail));refine LoopEnd.of (m + 1) (by omega) (by omega) ?_;refine Ent.of [(703, 69)] ?_ ?_ rfl rfl;(repeat' (first |exact True.intro |refine ⟨⟨AV.Le.refl _, rfl⟩, ?_⟩ |refine ⟨⟨⟨_, rfl, BLe.cells (LeL.refl _)⟩, rfl⟩, ?_⟩ |refine ⟨⟨⟨_, rfl, BLe.row rfl⟩, rfl⟩, ?_⟩ |refine ⟨⟨⟨_, rfl, BLe.row ?_⟩, rfl⟩, ?_⟩|fail));rw [take_snoc hx, List.map_append];congr 1;show [y] = [u.2.getD x.toNat 0];rw [List.getD_eq_getElem?_getD, hy];rfl
        ·have htm : occ.take m = occ := List.take_of_length_le (by omega);rw [htm];refine AWP.ent (Ent.freeze 703 rfl) ?_;(repeat' (first |refine qv ?_ |apply qn |apply qs |apply qr |refine qe ?_ |(refine AWP.condD rfl ?_ ?_ <;> intro _ <;> try (exfalso; omega)) |apply qx));refine ql eT [tz (u.1, pickX occ u.2)] ?_;skip;refine qa (hby := (by dsimp only [List.length_nil, List.length_cons]; omega)) (hm := (by dsimp only [List.length_nil, List.length_cons]; omega)) (r := ?_);(repeat' (first |refine qv ?_ |apply qn |apply qr |refine qw ?_ |refine qe ?_|fail));refine LoopEnd.of (k + 1) (by omega) (by omega) ?_;refine Ent.of [(702, 78)] ?_ ?_ rfl rfl;(repeat' (first |exact True.intro |refine ⟨⟨AV.Le.refl _, rfl⟩, ?_⟩ |refine ⟨⟨⟨_, rfl, BLe.cells (LeL.refl _)⟩, rfl⟩, ?_⟩ |refine ⟨⟨⟨_, rfl, BLe.row rfl⟩, rfl⟩, ?_⟩ |refine ⟨⟨⟨_, rfl, BLe.row ?_⟩, rfl⟩, ?_⟩|fail));rw [take_snoc hu, List.map_append, List.map_append];rfl
      ·have htk : q.take k = q := List.take_of_length_le (by omega);rw [htk];refine AWP.ent (Ent.freeze 702 rfl) ?_;(repeat' (first |refine qv ?_ |apply qn |apply qs |apply qr |(refine AWP.condD rfl ?_ ?_ <;> intro _ <;> try (exfalso; omega)) |apply qx));refine ql eP [mkP occ.length (q.map fun u => (u.1, pickX occ u.2))] ?_;skip;refine qa (hby := (by dsimp only [List.length_nil, List.length_cons]; omega)) (hm := (by dsimp only [List.length_nil, List.length_cons]; omega)) (r := ?_);(repeat' (first |refine qv ?_ |apply qn |apply qr |refine qw ?_ |refine qe ?_|fail));refine LoopEnd.of (j + 1) (by omega) (by omega) ?_;refine Ent.of [(701, 85)] ?_ ?_ rfl rfl;(repeat' (first |exact True.intro |refine ⟨⟨AV.Le.refl _, rfl⟩, ?_⟩ |refine ⟨⟨⟨_, rfl, BLe.cells (LeL.refl _)⟩, rfl⟩, ?_⟩ |refine ⟨⟨⟨_, rfl, BLe.row ?_⟩, rfl⟩, ?_⟩|fail));rw [take_snoc hq, List.map_append];rfl
    ·have htj : ls.take j = ls := List.take_of_length_le (by omega);rw [htj];refine AWP.ent (Ent.freeze 701 rfl) ?_;(repeat' (first |refine qv ?_ |apply qn |apply qs |apply qr |refine qe ?_ |(refine AWP.condD rfl ?_ ?_ <;> intro _ <;> try (exfalso; omega)) |apply qx |apply qt));exact RetOk.of rfl (AV.Le.refl _)
theorem kEq_ok (V : Nat) (hV : V ≤ 32) (p q l : List UT) (hp : chkU V p p = true) (hq : chkU V q q = true) (h : chkU V (addUs (-1) p q) l = true) (hl : l.length ≤ 3000 ∧ ∀ u ∈ l, u.2.length = V) : PureFn Tryz.prog 108 [aK V, aP (mkP V p), aP (mkP V q)] (aL (linkU V 0 [l])) := by
 refine PureFn.of_body Tryz.func108 rfl Tryz.ntmps108 rfl rfl ?_;have hk := kLink_ok V 0 [l] hV (by simp) (by simpa using hl);(repeat' (first |refine qv ?_ |apply qn |apply qs |apply qr |refine qe ?_|fail));refine qc (kSub_ok V hV p q l hp hq h) ?_;skip;refine ql eP [mkP V l] ?_;skip;refine qc (hk) ?_;(repeat' (first |refine Fl.nil (fun _ => by kernel_rfl) ?_ |refine qe ?_ |apply qt));exact RetOk.of rfl (AV.Le.refl _)
end Go.Proofs.YtmmfloplhopioaaGreat
/- Method values of plain receivers: made, called. -/
namespace Go.AL
section
variable {P : Program} {tab : Tab} {n : Nat} {s : St}
variable {ops : Array Oper} {draw : Dr} {o : Oper} {l : List Oper} {acc : List Eff} {K : Exit → St → Prop}
abbrev bfn (f : FuncId) (us : List Value) : AV := .v (.func (.func f) #[.agg us.toArray] #[])
theorem Runs.bound {f : FuncId} {x : Operand} {args : List Operand} {ts : Array TypeId} {us : List Value} (hop : o.op = .call { callee := .value x, args := ⟨args⟩, argTypes := ts }) (hx : opd s x = bfn f us) : Runs P n o s f (.v (.agg us.toArray) :: opds s args) := by
 refine ⟨fun s' C a w h β hs k => ?_⟩
 have hxs : opd s' x = opd s x := by
  cases x with
  | tmp t => exact hs t (by rw [hop]; simp [Op.operands, Call.operands])
  | _ => rfl
 have hxr := opd_rep k x;rw [hxs, hx] at hxr;simp only [Rep] at hxr
 have hps : opds s' args = opds s args := opds_same args fun x hx => by
  cases x with
  | tmp t => exact hs t (by rw [hop]; simp [Op.operands, Call.operands, hx])
  | _ => rfl
 have hr := opds_rep k args;rw [hps] at hr;refine ⟨#[.agg us.toArray] ++ (args.map a.eval).toArray, fun hfn => ?_, ?_⟩
 ·simp only [execOp, hop, resolve, hxr, Deferred.ofValue, Sem.run_bind, Sem.run_pure, Result.andThen, invoke, List.map_toArray];have := run_callFunc hfn (#[.agg us.toArray] ++ (args.map a.eval).toArray) w;simpa using this
 ·simp only [RepL];exact ⟨.agg us.toArray, args.map a.eval, by simp, by simp only [Rep], hr⟩
end
end Go.AL
/- arithmancy/mask.Links: the system. Written by links.py. -/
namespace Go.AL
end Go.AL
namespace Go.Proofs.YtmmfloplhopioaaGreat
open Go.AL
end Go.Proofs.YtmmfloplhopioaaGreat
/- The values of built links. -/
namespace Go.AL
theorem pick_prod (P : Nat → Bool) (Y E : List Int) : ∀ (n k : Nat), (∀ i, k ≤ i → i < k + n → P i = false → E.getD i 0 = 0) →
  prodE (((List.range' k n).filter P).map fun i => Y.getD i 0) (((List.range' k n).filter P).map fun i => E.getD i 0) = prodE ((List.range' k n).map fun i => Y.getD i 0) ((List.range' k n).map fun i => E.getD i 0)
 | 0, k, _ => rfl
 | n + 1, k, h => by
  have ih := pick_prod P Y E n (k + 1) fun i h1 h2 h3 => h i (by omega) (by omega) h3;rw [List.range'_succ, List.filter_cons];by_cases hp : P k = true
  ·rw [if_pos hp];simp only [List.map_cons, prodE, ih]
  ·rw [if_neg hp, ih];have h0 := h k (Nat.le_refl _) (by omega) (by simpa using hp);simp only [List.map_cons, prodE, h0];simp
theorem map_range_getD {V : Nat} {X : List Int} (h : X.length = V) : ((List.range V).map fun i => X.getD i 0) = X := by
 subst h;refine List.ext_getElem (by simp) fun i h1 h2 => ?_;simp [List.getD_eq_getElem?_getD, List.getElem?_eq_getElem h2]
def auv (X : List Int) (p : List UT) : Int := sumL (p.map fun u => ((u.1 * prodE X u.2).natAbs : Int))
theorem pick_term {V : Nat} {X : List Int} (hX : X.length = V) {ls : List (List UT)} {p : List UT} (hp : p ∈ ls) {u : UT} (hu : u ∈ p) (hl : u.2.length = V) (he : EOk u.2) :
  prodE (atOf X ((occL V ls).map fun (i : Nat) => (i : Int))) (pickE (occL V ls) u.2) = prodE X u.2 := by
 have e1 : atOf X ((occL V ls).map fun (i : Nat) => (i : Int)) = (occL V ls).map fun i => X.getD i 0 := by
  unfold atOf;rw [List.map_map];rfl
 have h := pick_prod (occP ls) X u.2 V 0 fun i _ h2 h3 => by
  have hb : i < u.2.length := by omega
  have hn : ¬ 0 < u.2.getD i 0 := fun hc => by
   have : occP ls i = true := List.any_eq_true.2 ⟨p, hp, List.any_eq_true.2 ⟨u, hu, by simpa using hc⟩⟩;rw [this] at h3; cases h3
  have hge : 0 ≤ u.2.getD i 0 := by
   rw [List.getD_eq_getElem?_getD, List.getElem?_eq_getElem hb];exact (he _ (List.getElem_mem hb)).1
  omega
 rw [← List.range_eq_range'] at h;rw [e1];unfold pickE occL;rw [show (List.filter (fun i => ls.any fun p => p.any fun u => decide (0 < u.2.getD i 0)) (List.range V)) = (List.range V).filter (occP ls) from rfl, h, map_range_getD hX, map_range_getD hl]
theorem tv_tz (X : List Int) (u : UT) : tv X (tz u) = u.1 * prodE X u.2 := by
 show zval (zOf u.1) * prodE X u.2 = _;rw [zval_zOf]
def nnU (V : Nat) (p : List UT) : Prop := ∀ u ∈ p, u.2.length = V ∧ EOk u.2
theorem pick_val {V n : Nat} {X : List Int} (hX : X.length = V) {ls : List (List UT)} {p : List UT} (hp : p ∈ ls) (hl : nnU V p) :
  pv (atOf X ((occL V ls).map fun (i : Nat) => (i : Int))) (mkP n (pickU (occL V ls) p)) = uv X p := by
 rw [pv_sum];unfold mkP pickU uv;simp only [List.map_map];congr 1;refine List.map_congr_left fun u hu => ?_;show tv _ (tz (u.1, pickE (occL V ls) u.2)) = _;rw [tv_tz, pick_term hX hp hu (hl u hu).1 (hl u hu).2]
theorem pick_abs {V n : Nat} {X : List Int} (hX : X.length = V) {ls : List (List UT)} {p : List UT} (hp : p ∈ ls) (hl : nnU V p) :
  AS (atOf X ((occL V ls).map fun (i : Nat) => (i : Int))) (mkP n (pickU (occL V ls) p)).terms = auv X p := by
 unfold mkP pickU AS auv;simp only [List.map_map];congr 1;refine List.map_congr_left fun u hu => ?_;show ((tv _ (tz (u.1, pickE (occL V ls) u.2))).natAbs : Int) = _;rw [tv_tz, pick_term hX hp hu (hl u hu).1 (hl u hu).2]
theorem lvals_linkU {V : Nat} {X : List Int} (hX : X.length = V) {kind : Int} {ls : List (List UT)} (h : ∀ p ∈ ls, nnU V p) : lvals X (linkU V kind ls) = ls.map (uv X) := by
 unfold lvals linkU;simp only [List.map_map];exact List.map_congr_left fun p hp => pick_val hX hp (h p hp)
theorem plop_abs (v : Int) : 0 ≤ plI v ∧ plI v ≤ v.natAbs ∧ opI v ≤ 0 ∧ -(v.natAbs : Int) ≤ opI v := by
 unfold plI opI;split <;> omega
theorem PS_ASm (X : List Int) : ∀ l : List TZ, 0 ≤ PS X l ∧ PS X l ≤ AS X l ∧ OS X l ≤ 0 ∧ -AS X l ≤ OS X l
 | [] => by simp [PS, OS, AS, sumL]
 | t :: l => by
  have h1 := PS_ASm X l;have h2 := plop_abs (tv X t);simp only [PS, AS, OS, List.map_cons, sumL] at h1 ⊢;omega
theorem EvOk.ofA {X : List Int} {p : PZ} (h : Fit (AS X p.terms)) : EvOk X p := by
 have h1 := PS_ASm X p.terms;exact ⟨h.le (by omega), h.le (by omega)⟩
theorem evL_linkU {V : Nat} {X : List Int} (hX : X.length = V) {kind : Int} {ls : List (List UT)} (h : ∀ p ∈ ls, nnU V p) (hf : ∀ p ∈ ls, Fit (auv X p)) : EvL X (linkU V kind ls) := by
 intro q hq;obtain ⟨p, hp, rfl⟩ := List.mem_map.1 hq;refine EvOk.ofA ?_;show Fit (AS (atOf X ((occL V ls).map fun (i : Nat) => (i : Int))) (mkP (occL V ls).length (pickU (occL V ls) p)).terms);rw [pick_abs hX hp (h p hp)];exact hf p hp
def okLU (V : Nat) (kind : Int) (ls : List (List UT)) : Bool :=
  decide (needI kind ≠ 0) && decide ((ls.length : Int) = needI kind) && ls.all (fun p => chkU (occL V ls).length (pickU (occL V ls) p) (pickU (occL V ls) p) && p.all (okU V))
theorem incB_range (P : Nat → Bool) : ∀ (n k : Nat) (last top : Int), last < k → ((k + n : Nat) : Int) ≤ top → incB last top (((List.range' k n).filter P).map fun (i : Nat) => (i : Int))
 | 0, _, _, _, _, _ => by simp [incB]
 | n + 1, k, last, top, h1, h2 => by
  rw [List.range'_succ, List.filter_cons];by_cases hp : P k = true
  ·rw [if_pos hp];simp only [List.map_cons, incB];exact ⟨h1, by omega, incB_range P n (k + 1) k top (by omega) (by omega)⟩
  ·rw [if_neg hp];exact incB_range P n (k + 1) last top (by omega) (by omega)
theorem okLU_ok {V : Nat} (hV : V ≤ 32) {kind : Int} {ls : List (List UT)} (h : okLU V kind ls = true) : OkL V (linkU V kind ls) ∧ WL (linkU V kind ls) ∧ ∀ p ∈ ls, nnU V p := by
 simp only [okLU, Bool.and_eq_true, decide_eq_true_eq, List.all_eq_true] at h;obtain ⟨⟨h1, h2⟩, h3⟩ := h
 have hn : (occL V ls).length ≤ V := by
  unfold occL;exact Nat.le_trans (List.length_filter_le _ _) (by simp)
 refine ⟨⟨h1, by simp only [linkU, List.length_map]; exact h2, by simp only [linkU, List.length_map]; omega, ?_, fun q hq => ?_⟩, fun q hq => ?_, fun p hp u hu => okU_ok ((h3 p hp).2 u hu)⟩
 ·have := incB_range (occP ls) V 0 (-1) V (by omega) (by omega);rw [← List.range_eq_range'] at this;exact this
 ·obtain ⟨p, hp, rfl⟩ := List.mem_map.1 hq;obtain ⟨a, b, c⟩ := mk_ok (V := (occL V ls).length) (by omega) (h3 p hp).1;exact ⟨by simp [linkU, mkP], a⟩
 ·obtain ⟨p, hp, rfl⟩ := List.mem_map.1 hq;exact (mk_ok (V := (occL V ls).length) (by omega) (h3 p hp).1).2.2
end Go.AL
/- The values of built polynomials; bounds. -/
namespace Go.AL
theorem prodE_zeros : ∀ (X : List Int) (n : Nat), prodE X (List.replicate n 0) = 1
 | [], 0 => rfl
 | [], _ + 1 => rfl
 | _ :: _, 0 => rfl
 | x :: X, n + 1 => by rw [List.replicate_succ, prodE, prodE_zeros X n]; simp
theorem prodE_unit : ∀ (X : List Int) (i : Nat), i < X.length → prodE X (unU X.length i) = X.getD i 0
 | [], i, h => by simp at h
 | x :: X, 0, _ => by
  unfold unU;rw [List.length_cons, List.replicate_succ, List.set_cons_zero, prodE, prodE_zeros];simp [Int.pow_succ]
 | x :: X, i + 1, h => by
  have ih := prodE_unit X i (by simpa using h);unfold unU at ih ⊢;rw [List.length_cons, List.replicate_succ, List.set_cons_succ, prodE, ih];simp
theorem uv_con (X : List Int) (V : Nat) (c : Int) : uv X (conU V c) = c := by
 unfold conU uv;split
 ·rename_i h; rw [h]; rfl
 ·simp [sumL, prodE_zeros]
theorem uv_var {X : List Int} {V i : Nat} (hX : X.length = V) (hi : i < V) : uv X (varU V i) = X.getD i 0 := by
 subst hX;unfold varU uv;simp only [List.map_cons, List.map_nil, sumL, prodE_unit X i hi];omega
theorem pv_mkP (X : List Int) (V : Nat) (p : List UT) : pv X (mkP V p) = uv X p := by
 rw [pv_sum];unfold mkP uv;simp only [List.map_map];congr 1;exact List.map_congr_left fun u _ => tv_tz X u
theorem chkU_UOk {V : Nat} {us l : List UT} (h : chkU V us l = true) : UOk V us := by
 simp only [chkU, Bool.and_eq_true, List.all_eq_true] at h;exact fun u hu => okU_ok (h.1.1.1.1.1.1.1 u hu)
theorem uv_chk {V : Nat} (hV : V ≤ 32) {us l : List UT} (h : chkU V us l = true) (X : List Int) : uv X l = uv X us := by
 have := (chkU_ok hV h).val hV (chkU_UOk h) X;rwa [pv_mkP] at this
theorem uv_scale (X : List Int) (b : Int) (q : List UT) : uv X (q.map fun u => (u.1 * b, u.2)) = uv X q * b := by
 unfold uv
 induction q with
 | nil => simp [sumL]
 | cons u q ih =>
  simp only [List.map_cons, sumL] at ih ⊢;rw [ih]; grind
theorem uv_addUs (X : List Int) (b : Int) (p q : List UT) : uv X (addUs b p q) = uv X p + uv X q * b := by
 unfold addUs;rw [uv_append, uv_scale]
theorem uv_mulUs {V : Nat} (X : List Int) {p q : List UT} (hp : nnU V p) (hq : nnU V q) : uv X (mulUs p q) = uv X p * uv X q := by
 unfold mulUs
 induction p with
 | nil => simp [uv, sumL]
 | cons t p ih =>
  rw [List.flatMap_cons, uv_append, ih fun u hu => hp u (by simp [hu])];have ht := hp t (by simp)
  have h1 : uv X (q.map fun u => (t.1 * u.1, addE t.2 u.2)) = t.1 * prodE X t.2 * uv X q := by
   clear ih;unfold uv
   induction q with
   | nil => simp [sumL]
   | cons u q ih2 =>
    have hu := hq u (by simp);simp only [List.map_cons, sumL];rw [ih2 fun v hv => hq v (by simp [hv]), prodE_add ht.2 hu.2 (by rw [ht.1, hu.1])];grind
  rw [h1];show _ = (t.1 * prodE X t.2 + uv X p) * uv X q;grind
theorem chk_nn {V : Nat} {p : List UT} (h : chkU V p p = true) : nnU V p := chkU_UOk h
theorem uv_sums {V : Nat} (hV : V ≤ 32) (X : List Int) : ∀ (ls : List (List UT)) (acc : List UT), okSums V acc ls = true → uv X (sumsU acc ls) = uv X acc + sumL (ls.map (uv X))
 | [], acc, _ => by simp [sumsU, sumL]
 | p :: ls, acc, h => by
  obtain ⟨c1, c2, c3, c4⟩ := okSums_cons h;show uv X (sumsU (addL acc p) ls) = _;rw [uv_sums hV X ls _ c4, uv_chk hV c3, uv_addUs];simp only [List.map_cons, sumL];omega
def prodL : List Int → Int
  | [] => 1
  | x :: l => x * prodL l
theorem uv_muls {V : Nat} (hV : V ≤ 32) (X : List Int) : ∀ (ls : List (List UT)) (acc : List UT), okMuls V acc ls = true → uv X (mulsU acc ls) = uv X acc * prodL (ls.map (uv X))
 | [], acc, _ => by simp [mulsU, prodL]
 | p :: ls, acc, h => by
  obtain ⟨c1, c2, c3, c4, c5⟩ := okMuls_cons h;show uv X (mulsU (mulL2 acc p) ls) = _;rw [uv_muls hV X ls _ c5, uv_chk hV c4, uv_mulUs X (chk_nn c1) (chk_nn c2)];simp only [List.map_cons, prodL];rw [Int.mul_assoc]
theorem uv_sub {V : Nat} (hV : V ≤ 32) (X : List Int) {p q : List UT} (h : chkU V (addUs (-1) p q) (subL p q) = true) : uv X (subL p q) = uv X p - uv X q := by
 rw [uv_chk hV h, uv_addUs]; omega
end Go.AL
/- Polynomials by sizes: what the Kit needs, for any variables and numbers. Plain. -/
namespace Go.AL
structure SzU (V d c n : Nat) (p : List UT) : Prop where
  can : CanU p
  ex : ∀ u ∈ p, u.2.length = V ∧ (∀ e ∈ u.2, 0 ≤ e) ∧ sumL u.2 ≤ d
  ab : absU p ≤ c
  ln : p.length ≤ n
theorem SzU.mono {V d c n d' c' n' : Nat} {p : List UT} (h : SzU V d c n p) (h1 : d ≤ d') (h2 : c ≤ c') (h3 : n ≤ n') : SzU V d' c' n' p :=
 ⟨h.can, fun u hu => ⟨(h.ex u hu).1, (h.ex u hu).2.1, by have := (h.ex u hu).2.2; omega⟩, Nat.le_trans h.ab h2, Nat.le_trans h.ln h3⟩
theorem sumL_ge : ∀ {l : List Int}, (∀ e ∈ l, 0 ≤ e) → 0 ≤ sumL l ∧ ∀ e ∈ l, e ≤ sumL l
 | [], _ => by simp [sumL]
 | x :: l, h => by
  obtain ⟨h1, h2⟩ := sumL_ge (l := l) fun e he => h e (by simp [he]);have hx := h x (by simp);refine ⟨by simp only [sumL]; omega, fun e he => ?_⟩;simp only [sumL];rcases List.mem_cons.1 he with rfl | he
  ·omega
  ·have := h2 e he; omega
theorem ex_ok {V d : Nat} (hd : d ≤ 120) {u : UT} (h : u.2.length = V ∧ (∀ e ∈ u.2, 0 ≤ e) ∧ sumL u.2 ≤ d) : okU V u = true ∧ sumL u.2 ≤ 120 ∧ EOk u.2 := by
 obtain ⟨h1, h2, h3⟩ := h;have hE : EOk u.2 := fun e he => ⟨h2 e he, by have := (sumL_ge h2).2 e he; omega⟩;refine ⟨?_, by omega, hE⟩;simp only [okU, Bool.and_eq_true, List.all_eq_true, decide_eq_true_eq];exact ⟨by rw [Nat.beq_eq]; exact h1, fun e he => hE e he⟩
theorem sortedU_of : ∀ {l : List UT}, (l.Pairwise fun u v => ordI u.2 v.2 < 0) → sortedU l = true
 | [], _ => rfl
 | u :: l, h => by
  rw [List.pairwise_cons] at h;simp only [sortedU, Bool.and_eq_true, List.all_eq_true, decide_eq_true_eq];exact ⟨h.1, sortedU_of h.2⟩
theorem absU_insU (u : UT) : ∀ l : List UT, absU (insU u l) ≤ u.1.natAbs + absU l
 | [] => by unfold insU; split <;> simp [absU]
 | v :: l => by
  have ih := absU_insU u l;unfold insU;split
  ·split
   ·simp only [absU]; omega
   ·simp only [absU]; omega
  ·split
   ·split
    ·simp only [absU]; omega
    ·simp only [absU]; omega
   ·simp only [absU]; omega
theorem absU_canU : ∀ l : List UT, absU (canU l) ≤ absU l
 | [] => Nat.le_refl _
 | u :: l => by
  have := absU_canU l;have := absU_insU u (canU l);show absU (insU u (canU l)) ≤ _;simp only [absU]; omega
theorem absU_append : ∀ a b : List UT, absU (a ++ b) = absU a + absU b
 | [], b => by simp [absU]
 | u :: a, b => by simp only [List.cons_append, absU, absU_append a b]; omega
theorem absU_scale (k : Int) : ∀ l : List UT, absU (l.map fun u => (u.1 * k, u.2)) = absU l * k.natAbs
 | [] => by simp [absU]
 | u :: l => by simp only [List.map_cons, absU, absU_scale k l, Int.natAbs_mul, Nat.add_mul]
theorem absU_times (t : UT) : ∀ l : List UT, absU (l.map fun u => (t.1 * u.1, addE t.2 u.2)) = t.1.natAbs * absU l
 | [] => by simp [absU]
 | u :: l => by simp only [List.map_cons, absU, absU_times t l, Int.natAbs_mul, Nat.mul_add]
theorem absU_mulUs (q : List UT) : ∀ p : List UT, absU (mulUs p q) = absU p * absU q
 | [] => by simp [mulUs, absU]
 | t :: p => by
  have ih := absU_mulUs q p;unfold mulUs at ih ⊢;rw [List.flatMap_cons, absU_append, absU_times, ih];simp only [absU, Nat.add_mul]
theorem len_mulUs (q : List UT) : ∀ p : List UT, (mulUs p q).length = p.length * q.length
 | [] => by simp [mulUs]
 | t :: p => by
  have ih := len_mulUs q p;unfold mulUs at ih ⊢;rw [List.flatMap_cons, List.length_append, List.length_map, ih, List.length_cons, Nat.add_mul]; omega
theorem can_sz {V d c n : Nat} {us : List UT} (he : ∀ u ∈ us, u.2.length = V ∧ (∀ e ∈ u.2, 0 ≤ e) ∧ sumL u.2 ≤ d) (ha : absU us ≤ c) (hl : us.length ≤ n) : SzU V d c n (canU us) :=
 ⟨canU_can us, fun u hu => by obtain ⟨w, hw, e⟩ := canU_mem hu; rw [e]; exact he w hw, Nat.le_trans (absU_canU us) ha, Nat.le_trans (canU_length us) hl⟩
theorem can_chk {V d : Nat} {us : List UT} (hd : d ≤ 120) (he : ∀ u ∈ us, u.2.length = V ∧ (∀ e ∈ u.2, 0 ≤ e) ∧ sumL u.2 ≤ d) (ha : absU us < 4294967296) (hl : us.length ≤ 3000) : chkU V us (canU us) = true := by
 have h := can_sz he (Nat.le_refl _) (Nat.le_refl _);simp only [chkU, Bool.and_eq_true, List.all_eq_true, decide_eq_true_eq];refine ⟨⟨⟨⟨⟨⟨⟨fun u hu => (ex_ok hd (he u hu)).1, fun u hu => ?_⟩, sortedU_of h.can.pw⟩, ?_⟩, ha⟩, ?_⟩, fun u _ => (cfU_canU _ _).symm⟩, fun u _ => (cfU_canU _ _).symm⟩
 ·obtain ⟨a, b, _⟩ := ex_ok hd (h.ex u hu);exact ⟨⟨a, h.can.nz u hu⟩, b⟩
 ·have := h.ln; omega
 ·have := h.ab; omega
theorem SzU.chk {V d c n : Nat} {p : List UT} (h : SzU V d c n p) (hd : d ≤ 120) (hc : c < 4294967296) (hn : n ≤ 3000) : chkU V p p = true := by
 have := can_chk hd h.ex (by have := h.ab; omega) (by have := h.ln; omega);rwa [h.can.can] at this
theorem SzU.nil (V : Nat) : SzU V 0 0 0 [] := ⟨CanU.nil, fun u hu => by simp at hu, Nat.le_refl _, Nat.le_refl _⟩
theorem sumL_rep : ∀ n : Nat, sumL (List.replicate n 0) = 0
 | 0 => rfl
 | n + 1 => by rw [List.replicate_succ, sumL, sumL_rep n]; rfl
theorem sumL_set : ∀ (n i : Nat), i < n → sumL ((List.replicate n (0 : Int)).set i 1) = 1
 | 0, i, h => by omega
 | n + 1, 0, _ => by simp [List.replicate_succ, sumL, sumL_rep]
 | n + 1, i + 1, h => by
  rw [List.replicate_succ, List.set_cons_succ, sumL, sumL_set n i (by omega)]; rfl
theorem SzU.con (V : Nat) (k : Int) : SzU V 0 k.natAbs 1 (conU V k) := by
 refine ⟨conU_canU V k, fun u hu => ?_, ?_, ?_⟩
 ·unfold conU at hu;split at hu
  ·simp at hu
  ·rw [List.mem_singleton] at hu;subst hu;refine ⟨by simp, fun e he => ?_, by simp [sumL_rep]⟩;rw [(List.mem_replicate.1 he).2]; omega
 ·unfold conU; split <;> simp [absU]
 ·unfold conU; split <;> simp
theorem SzU.var {V i : Nat} (hi : i < V) : SzU V 1 1 1 (varU V i) := by
 refine ⟨CanU.one (show (1 : Int) ≠ 0 by decide), fun u hu => ?_, by simp [varU, absU], by simp [varU]⟩;unfold varU at hu;rw [List.mem_singleton] at hu;subst hu;refine ⟨by simp [unU], fun e he => ?_, ?_⟩
 ·rcases List.mem_or_eq_of_mem_set he with h | h
  ·rw [(List.mem_replicate.1 h).2]; omega
  ·rw [h]; omega
 ·show sumL ((List.replicate V (0 : Int)).set i 1) ≤ _;rw [sumL_set V i hi]; omega
theorem addUs_sz {V d c n d' c' n' : Nat} (k : Int) {p q : List UT} (hp : SzU V d c n p) (hq : SzU V d' c' n' q) : (∀ u ∈ addUs k p q, u.2.length = V ∧ (∀ e ∈ u.2, 0 ≤ e) ∧ sumL u.2 ≤ ((max d d' : Nat) : Int)) ∧ absU (addUs k p q) ≤ c + c' * k.natAbs ∧ (addUs k p q).length ≤ n + n' := by
 unfold addUs;refine ⟨fun u hu => ?_, ?_, ?_⟩
 ·rcases List.mem_append.1 hu with hu | hu
  ·have := hp.ex u hu;exact ⟨this.1, this.2.1, by have := this.2.2; omega⟩
  ·obtain ⟨v, hv, rfl⟩ := List.mem_map.1 hu;have := hq.ex v hv;exact ⟨this.1, this.2.1, by have := this.2.2; show sumL v.2 ≤ _; omega⟩
 ·rw [absU_append, absU_scale];have h1 := hp.ab;have h2 : absU q * k.natAbs ≤ c' * k.natAbs := Nat.mul_le_mul_right _ hq.ab;omega
 ·rw [List.length_append, List.length_map];have := hp.ln;have := hq.ln;omega
theorem SzU.add {V d c n d' c' n' : Nat} {p q : List UT} (hp : SzU V d c n p) (hq : SzU V d' c' n' q) : SzU V (max d d') (c + c') (n + n') (addL p q) := by
 obtain ⟨a, b, e⟩ := addUs_sz 1 hp hq;exact can_sz a (by simpa using b) e
theorem SzU.addChk {V d c n d' c' n' : Nat} {p q : List UT} (hp : SzU V d c n p) (hq : SzU V d' c' n' q) (h1 : d ≤ 120) (h2 : d' ≤ 120) (hc : c + c' < 4294967296) (hn : n + n' ≤ 3000) : chkU V (addUs 1 p q) (addL p q) = true := by
  obtain ⟨a, b, e⟩ := addUs_sz 1 hp hq
  exact can_chk (d := max d d') (by omega) a (by have : absU (addUs 1 p q) ≤ c + c' := by simpa using b
                                                 omega) (by omega)
theorem SzU.sub {V d c n d' c' n' : Nat} {p q : List UT} (hp : SzU V d c n p) (hq : SzU V d' c' n' q) : SzU V (max d d') (c + c') (n + n') (subL p q) := by
 obtain ⟨a, b, e⟩ := addUs_sz (-1) hp hq;exact can_sz a (by simpa using b) e
theorem SzU.subChk {V d c n d' c' n' : Nat} {p q : List UT} (hp : SzU V d c n p) (hq : SzU V d' c' n' q) (h1 : d ≤ 120) (h2 : d' ≤ 120) (hc : c + c' < 4294967296) (hn : n + n' ≤ 3000) : chkU V (addUs (-1) p q) (subL p q) = true := by
  obtain ⟨a, b, e⟩ := addUs_sz (-1) hp hq
  exact can_chk (d := max d d') (by omega) a (by have : absU (addUs (-1) p q) ≤ c + c' := by simpa using b
                                                 omega) (by omega)
theorem mulUs_sz {V d c n d' c' n' : Nat} {p q : List UT} (hp : SzU V d c n p) (hq : SzU V d' c' n' q) : (∀ u ∈ mulUs p q, u.2.length = V ∧ (∀ e ∈ u.2, 0 ≤ e) ∧ sumL u.2 ≤ ((d + d' : Nat) : Int)) ∧ absU (mulUs p q) ≤ c * c' ∧ (mulUs p q).length ≤ n * n' := by
 refine ⟨fun u hu => ?_, ?_, ?_⟩
 ·unfold mulUs at hu;obtain ⟨t, ht, hu⟩ := List.mem_flatMap.1 hu;obtain ⟨v, hv, rfl⟩ := List.mem_map.1 hu;have h1 := hp.ex t ht;have h2 := hq.ex v hv
  have hlen : t.2.length = v.2.length := by omega
  refine ⟨by show (addE t.2 v.2).length = V; rw [addE_length hlen]; exact h1.1, fun e he => ?_, ?_⟩
  ·obtain ⟨k, hk⟩ := List.getElem?_of_mem (show e ∈ addE t.2 v.2 from he);have hkl := (List.getElem?_eq_some_iff.1 hk).1;rw [addE_length hlen] at hkl;obtain ⟨x, hx⟩ : ∃ x, t.2[k]? = some x := ⟨_, List.getElem?_eq_getElem hkl⟩;obtain ⟨y, hy⟩ : ∃ y, v.2[k]? = some y := ⟨_, List.getElem?_eq_getElem (by omega)⟩;rw [addE_get hx hy] at hk;injection hk with hk;have := h1.2.1 x (List.mem_of_getElem? hx);have := h2.2.1 y (List.mem_of_getElem? hy);omega
  ·show sumL (addE t.2 v.2) ≤ _;rw [sumL_addE hlen];have := h1.2.2;have := h2.2.2;omega
 ·rw [absU_mulUs]; exact Nat.mul_le_mul hp.ab hq.ab
 ·rw [len_mulUs]; exact Nat.mul_le_mul hp.ln hq.ln
theorem SzU.mul {V d c n d' c' n' : Nat} {p q : List UT} (hp : SzU V d c n p) (hq : SzU V d' c' n' q) : SzU V (d + d') (c * c') (n * n') (mulL2 p q) := by
 obtain ⟨a, b, e⟩ := mulUs_sz hp hq;exact can_sz a b e
theorem SzU.mulChk {V d c n d' c' n' : Nat} {p q : List UT} (hp : SzU V d c n p) (hq : SzU V d' c' n' q) (hd : d + d' ≤ 120) (hc : c * c' < 4294967296) (hn : n * n' ≤ 3000) : chkU V (mulUs p q) (mulL2 p q) = true ∧ degU p q = true := by
 obtain ⟨a, b, e⟩ := mulUs_sz hp hq;refine ⟨can_chk hd a (by omega) (by omega), ?_⟩;unfold degU;split
 ·rename_i t _ u _;have h1 := (hp.ex t (by simp)).2.2;have h2 := (hq.ex u (by simp)).2.2;exact decide_eq_true (by omega)
 ·rfl
theorem okSums_sz {V d cp np : Nat} (hd : d ≤ 120) : ∀ (ps : List (List UT)) {acc : List UT} {c n : Nat}, SzU V d c n acc → (∀ p ∈ ps, SzU V d cp np p) → c + ps.length * cp + cp < 4294967296 → n + ps.length * np + np ≤ 3000 → okSums V acc ps = true ∧ SzU V d (c + ps.length * cp) (n + ps.length * np) (sumsU acc ps)
 | [], acc, c, n, h, _, hc, hn => by
  refine ⟨?_, by simpa [sumsU] using h⟩;unfold okSums;exact h.chk hd (by simp at hc; omega) (by simp at hn; omega)
 | p :: ps, acc, c, n, h, hp, hc, hn => by
  have h1 := hp p (by simp);rw [List.length_cons, Nat.succ_mul] at hc hn;have hadd := h.add h1;rw [Nat.max_self] at hadd;obtain ⟨k1, k2⟩ := okSums_sz hd ps hadd (fun q hq => hp q (by simp [hq])) (by omega) (by omega);refine ⟨?_, ?_⟩
  ·unfold okSums;simp only [Bool.and_eq_true];exact ⟨⟨⟨h.chk hd (by omega) (by omega), h1.chk hd (by omega) (by omega)⟩, h.addChk h1 hd hd (by omega) (by omega)⟩, k1⟩
  ·show SzU V d _ _ (sumsU (addL acc p) ps);refine k2.mono (Nat.le_refl _) ?_ ?_ <;> rw [List.length_cons, Nat.succ_mul] <;> omega
theorem mul_one_l {V : Nat} {p : List UT} (hc : CanU p) (hl : ∀ u ∈ p, u.2.length = V) : mulL2 (conU V 1) p = p := by
 unfold mulL2 mulUs conU;rw [if_neg (by decide)];simp only [List.flatMap_cons, List.flatMap_nil, List.append_nil];rw [show (p.map fun u => ((1 : Int) * u.1, addE (List.replicate V 0) u.2)) = p from ?_, hc.can];refine (List.map_congr_left (g := id) fun u hu => ?_).trans (List.map_id p)
 have : addE (List.replicate V 0) u.2 = u.2 := by
  rw [← hl u hu];generalize u.2 = l
  induction l with
  | nil => rfl
  | cons x l ih =>
   rw [List.length_cons, List.replicate_succ];unfold addE at ih ⊢;rw [List.zipWith_cons_cons, ih];simp
 rw [Int.one_mul, this]; rfl
theorem add_nil_l {p : List UT} (hc : CanU p) : addL [] p = p := by
 unfold addL addUs;rw [List.nil_append];rw [show (p.map fun u => (u.1 * 1, u.2)) = p from ?_, hc.can];exact (List.map_congr_left (g := id) fun u _ => by rw [Int.mul_one]; rfl).trans (List.map_id p)
theorem SzU.len {V d c n : Nat} {p : List UT} (h : SzU V d c n p) : ∀ u ∈ p, u.2.length = V := fun u hu => (h.ex u hu).1
theorem sums2 {V d c n d' c' n' : Nat} {p q : List UT} (hp : SzU V d c n p) (_ : SzU V d' c' n' q) : sumsU [] [p, q] = addL p q := by
 show addL (addL [] p) q = _;rw [add_nil_l hp.can]
theorem muls2 {V d c n : Nat} {p q : List UT} (hp : SzU V d c n p) : mulsU (conU V 1) [p, q] = mulL2 p q := by
 show mulL2 (mulL2 (conU V 1) p) q = _;rw [mul_one_l hp.can hp.len]
theorem okMuls2 {V d c n d' c' n' : Nat} {p q : List UT} (hp : SzU V d c n p) (hq : SzU V d' c' n' q) (hd : d + d' ≤ 120) (hc : c * c' < 4294967296) (hc1 : c < 4294967296) (hc2 : c' < 4294967296) (hn : n * n' ≤ 3000) (hn1 : n ≤ 3000) (hn2 : n' ≤ 3000) : okMuls V (conU V 1) [p, q] = true := by
 have h1 := SzU.con V 1;have m1 := h1.mulChk hp (by omega) (by simpa using hc1) (by omega);have e1 := mul_one_l hp.can hp.len;have m2 := hp.mulChk hq hd hc hn;unfold okMuls okMuls okMuls;rw [e1] at m1 ⊢;simp only [Bool.and_eq_true];exact ⟨⟨⟨⟨h1.chk (by omega) (by decide) (by omega), hp.chk (by omega) hc1 hn1⟩, m1.2⟩, m1.1⟩, ⟨⟨⟨hp.chk (by omega) hc1 hn1, hq.chk (by omega) hc2 hn2⟩, m2.2⟩, m2.1⟩, (hp.mul hq).chk hd hc hn⟩
theorem okSums2 {V d c n d' c' n' : Nat} {p q : List UT} (hp : SzU V d c n p) (hq : SzU V d' c' n' q) (hd : d ≤ 120) (hd2 : d' ≤ 120) (hc : c + c' < 4294967296) (hn : n + n' ≤ 3000) : okSums V [] [p, q] = true := by
 have h1 := SzU.nil V;have a1 := h1.addChk hp (by omega) hd (by omega) (by omega);have a2 := hp.addChk hq hd hd2 hc hn;unfold okSums okSums okSums;rw [add_nil_l hp.can] at a1 ⊢;simp only [Bool.and_eq_true];exact ⟨⟨⟨h1.chk (by omega) (by omega) (by omega), hp.chk hd (by omega) (by omega)⟩, a1⟩, ⟨⟨hp.chk hd (by omega) (by omega), hq.chk hd2 (by omega) (by omega)⟩, a2⟩, (hp.add hq).chk (by omega) hc hn⟩
end Go.AL
/- A link of polynomials by sizes. Plain. -/
namespace Go.AL
theorem mem_filt {P : Nat → Bool} {n k : Nat} {v : Int} (h : v ∈ ((List.range' k n).filter P).map fun (i : Nat) => (i : Int)) : (k : Int) ≤ v := by
 obtain ⟨i, hi, rfl⟩ := List.mem_map.1 h;have := (List.mem_range'_1.1 (List.mem_filter.1 hi).1).1;omega
theorem spr_pick (P : Nat → Bool) (E : List Int) : ∀ (n k : Nat) (e : List Int), e.length = n → (∀ i, i < n → e[i]? = E[k + i]?) → (∀ i, i < n → P (k + i) = false → e[i]? = some 0) → spr n k (((List.range' k n).filter P).map fun (i : Nat) => (i : Int)) (((List.range' k n).filter P).map fun i => E.getD i 0) = e
 | 0, k, e, h, _, _ => by
  rw [List.eq_nil_of_length_eq_zero h]; rfl
 | n + 1, k, [], h, _, _ => by simp at h
 | n + 1, k, x :: e, h, h1, h2 => by
  have ih := spr_pick P E n (k + 1) e (by simpa using h) (fun i hi => by
   have := h1 (i + 1) (by omega);rw [List.getElem?_cons_succ] at this
   rw [this]; congr 1; omega) (fun i hi hP => by
   have := h2 (i + 1) (by omega) (by rw [← hP]; congr 1; omega)
   rwa [List.getElem?_cons_succ] at this)
  have h0 := h1 0 (by omega);rw [List.getElem?_cons_zero, Nat.add_zero] at h0;rw [List.range'_succ, List.filter_cons];rw [show ((k + 1 : Nat) : Int) = (k : Int) + 1 by omega] at ih;by_cases hp : P k = true
  ·rw [if_pos hp];simp only [List.map_cons, spr];rw [if_pos trivial, ih, List.getD_eq_getElem?_getD, ← h0]; rfl
  ·rw [if_neg hp]
   have hx : x = 0 := by
    have := h2 0 (by omega) (by rw [Nat.add_zero]; simpa using hp);simpa using this
   have hne : ∀ v ∈ ((List.range' (k + 1) n).filter P).map (fun (i : Nat) => (i : Int)), v ≠ (k : Int) := fun v hv => by
    have := mem_filt hv; omega
   subst hx
   generalize hA : ((List.range' (k + 1) n).filter P).map (fun (i : Nat) => (i : Int)) = A at *
   generalize hB : ((List.range' (k + 1) n).filter P).map (fun i => E.getD i 0) = B at *
   have hlen : A.length = B.length := by rw [← hA, ← hB]; simp
   match A, B, hlen with
   | [], [], _ => simp only [spr]; rw [ih]
   | v :: A, b :: B, _ =>
    simp only [spr];rw [if_neg (hne v (by simp)), ih]
theorem occ_zero {V : Nat} {ls : List (List UT)} {p : List UT} (hp : p ∈ ls) {u : UT} (hu : u ∈ p) (hl : u.2.length = V) (h0 : ∀ e ∈ u.2, 0 ≤ e) {i : Nat} (hi : i < V) (hP : occP ls i = false) : u.2[i]? = some 0 := by
 obtain ⟨x, hx⟩ : ∃ x, u.2[i]? = some x := ⟨_, List.getElem?_eq_getElem (by omega)⟩;have hx0 := h0 x (List.mem_of_getElem? hx);rcases (show x = 0 ∨ 0 < x by omega) with h | h
 ·rw [hx, h]
 ·exfalso
  have : occP ls i = true := by
   unfold occP;refine List.any_eq_true.2 ⟨p, hp, List.any_eq_true.2 ⟨u, hu, ?_⟩⟩;rw [List.getD_eq_getElem?_getD, hx];exact decide_eq_true h
  rw [this] at hP; cases hP
theorem spr_pickE {V : Nat} {ls : List (List UT)} {p : List UT} (hp : p ∈ ls) {u : UT} (hu : u ∈ p) (hl : u.2.length = V) (h0 : ∀ e ∈ u.2, 0 ≤ e) : spr V 0 ((occL V ls).map fun (i : Nat) => (i : Int)) (pickE (occL V ls) u.2) = u.2 := by
 have := spr_pick (occP ls) u.2 V 0 u.2 hl (fun i _ => by rw [Nat.zero_add]) fun i hi hP => occ_zero hp hu hl h0 hi (by rwa [Nat.zero_add] at hP);rw [← List.range_eq_range'] at this;exact this
theorem occ_inc (V : Nat) (ls : List (List UT)) : incK 0 V ((occL V ls).map fun (i : Nat) => (i : Int)) := by
 have := incB_range (occP ls) V 0 (-1) V (by omega) (by omega);rw [← List.range_eq_range'] at this;exact incK_of this
theorem pick_sz {V d c n : Nat} {ls : List (List UT)} {p : List UT} (hp : p ∈ ls) (h : SzU V d c n p) : SzU (occL V ls).length d c n (pickU (occL V ls) p) := by
 have hinc := occ_inc V ls
 have hlen : ∀ e : List Int, (((occL V ls).map fun (i : Nat) => (i : Int))).length = (pickE (occL V ls) e).length := fun e => by simp [pickE]
 refine ⟨⟨fun u hu => ?_, ?_⟩, fun u hu => ?_, ?_, by simpa [pickU] using h.ln⟩
 ·obtain ⟨v, hv, rfl⟩ := List.mem_map.1 hu;exact h.can.nz v hv
 ·unfold pickU;rw [List.pairwise_map];have := h.can.pw;refine List.Pairwise.imp_of_mem (fun {a b} ha hb hab => ?_) this;have e1 := h.ex a ha;have e2 := h.ex b hb;have := spr_ord (n := V) (hlen a.2) (hlen b.2) hinc;rw [spr_pickE hp ha e1.1 e1.2.1, spr_pickE hp hb e2.1 e2.2.1] at this;show ordI (pickE (occL V ls) a.2) (pickE (occL V ls) b.2) < 0;rw [← this]; exact hab
 ·obtain ⟨v, hv, rfl⟩ := List.mem_map.1 hu;have e1 := h.ex v hv;refine ⟨by simp [pickE], fun e he => ?_, ?_⟩
  ·obtain ⟨i, _, rfl⟩ := List.mem_map.1 (show e ∈ pickE (occL V ls) v.2 from he);rw [List.getD_eq_getElem?_getD]
   cases hx : v.2[i]? with
   | none => simp
   | some x => exact e1.2.1 x (List.mem_of_getElem? hx)
  ·have := spr_sum V 0 ((occL V ls).map fun (i : Nat) => (i : Int)) (pickE (occL V ls) v.2) (hlen v.2) (hinc.imp_hi (by omega));rw [spr_pickE hp hv e1.1 e1.2.1] at this;show sumL (pickE (occL V ls) v.2) ≤ _;rw [← this]; exact e1.2.2
 ·unfold pickU
  have : ∀ l : List UT, absU (l.map fun u => (u.1, pickE (occL V ls) u.2)) = absU l := by
   intro l
   induction l with
   | nil => rfl
   | cons u l ih => simp only [List.map_cons, absU, ih]
  rw [this]; exact h.ab
theorem linkU_sz {V d c n : Nat} {kind : Int} {ls : List (List UT)} (hV : V ≤ 32) (hd : d ≤ 120) (hc : c < 4294967296) (hn : n ≤ 3000) (hk : needI kind ≠ 0) (hl : (ls.length : Int) = needI kind) (h : ∀ p ∈ ls, SzU V d c n p) : OkL V (linkU V kind ls) ∧ WL (linkU V kind ls) ∧ ∀ p ∈ ls, nnU V p := by
 refine okLU_ok hV ?_;simp only [okLU, Bool.and_eq_true, decide_eq_true_eq, List.all_eq_true];exact ⟨⟨hk, hl⟩, fun p hp => ⟨(pick_sz hp (h p hp)).chk hd hc hn, fun u hu => (ex_ok hd ((h p hp).ex u hu)).1⟩⟩
end Go.AL
/- The system of a machine and an input: its polynomials, their sizes and values. Plain. -/
namespace Go.AL
structure IZ where
  op : Int
  rg : Int
  nx : Int
  zr : Int
structure MZ where
  regs : Int
  code : List IZ
def haltZ : IZ := ⟨3, 0, 0, 0⟩
abbrev MZ.l (m : MZ) : Nat := m.code.length
abbrev MZ.R (m : MZ) : Nat := m.regs.toNat
abbrev MZ.V (m : MZ) : Nat := 3 + m.l + 2 * m.R
def MZ.at (m : MZ) (i : Nat) : IZ := m.code.getD i haltZ
def okIns (m : MZ) (i : Nat) (x : IZ) : Prop :=
  x = haltZ ∨ ((0 ≤ x.rg ∧ x.rg < m.regs) ∧ (0 ≤ x.nx ∧ x.nx < m.l) ∧ ((x.op = 2 ∧ 0 ≤ x.zr ∧ x.zr < m.l ∧ x.nx ≠ i) ∨ ((x.op = 0 ∨ x.op = 1) ∧ x.zr = 0)))
structure OkMZ (m : MZ) : Prop where
  r1 : 1 ≤ m.regs
  r4 : m.regs ≤ 4
  l1 : 1 ≤ m.l
  l15 : m.l ≤ 15
  ins : ∀ i, i < m.l → okIns m i (m.at i)
def OkIn (m : MZ) (x : List Int) : Prop := x.length = m.R ∧ ∀ n ∈ x, 0 ≤ n ∧ n ≤ 1000
def MZ.mach (m : MZ) : Mach := ⟨m.l, m.R, fun i => (m.at i).op.toNat, fun i => (m.at i).rg.toNat, fun i => (m.at i).nx.toNat, fun i => (m.at i).zr.toNat⟩
theorem OkMZ.mach {m : MZ} (h : OkMZ m) : m.mach.Ok := by
 refine ⟨h.l1, fun i hi => ?_⟩;rcases h.ins i hi with k | ⟨⟨a1, a2⟩, ⟨b1, b2⟩, k⟩
 ·left; show (m.at i).op.toNat = 3; rw [k]; rfl
 ·right
  have hR : ((m.R : Nat) : Int) = m.regs := by have := h.r1; show ((m.regs.toNat : Nat) : Int) = _; omega
  have hl : ((m.l : Nat) : Int) = m.code.length := rfl;have := h.l1;show (m.at i).op.toNat ≤ 2 ∧ (m.at i).rg.toNat < m.R ∧ (m.at i).nx.toNat < m.l ∧ (m.at i).zr.toNat < m.l ∧ ((m.at i).op.toNat = 2 → (m.at i).nx.toNat ≠ i);rcases k with ⟨c1, c2, c3, c4⟩ | ⟨c1, c2⟩
  ·exact ⟨by omega, by omega, by omega, by omega, fun _ => by omega⟩
  ·exact ⟨by omega, by omega, by omega, by omega, fun k => by omega⟩
theorem OkMZ.V32 {m : MZ} (h : OkMZ m) : m.V ≤ 26 := by
 have := h.l15;have := h.r4;show 3 + m.code.length + 2 * m.regs.toNat ≤ 26;have : m.code.length ≤ 15 := h.l15;omega
def hsQ (V : Nat) : List UT := mulsU (conU V 1) [conU V 2, varU V 1]
def hsAll (V : Nat) : List UT := sumsU [] [conU V 1, mulsU (conU V 1) [subL (hsQ V) (conU V 1), varU V 2]]
def hsSum (V : Nat) (c : IZ → Bool) : Nat → List IZ → List UT → List UT
  | _, [], acc => acc
  | i, x :: xs, acc => hsSum V c (i + 1) xs (if c x then sumsU [] [acc, varU V (3 + i)] else acc)
theorem hsQ_sz {V : Nat} (hV : 6 ≤ V) : SzU V 1 2 1 (hsQ V) ∧ okMuls V (conU V 1) [conU V 2, varU V 1] = true := by
 have a := SzU.con V 2;have b := SzU.var (V := V) (i := 1) (by omega);refine ⟨?_, okMuls2 a b (by omega) (by decide) (by decide) (by decide) (by omega) (by omega) (by omega)⟩;unfold hsQ;rw [muls2 a];exact (a.mul b).mono (by omega) (by decide) (by omega)
theorem hsAll_sz {V : Nat} (hV : 6 ≤ V) : SzU V 2 4 3 (hsAll V) ∧ okMuls V (conU V 1) [subL (hsQ V) (conU V 1), varU V 2] = true ∧ okSums V [] [conU V 1, mulsU (conU V 1) [subL (hsQ V) (conU V 1), varU V 2]] = true ∧ SzU V 1 3 2 (subL (hsQ V) (conU V 1)) ∧ chkU V (addUs (-1) (hsQ V) (conU V 1)) (subL (hsQ V) (conU V 1)) = true ∧ SzU V 2 3 2 (mulsU (conU V 1) [subL (hsQ V) (conU V 1), varU V 2]) := by
 have a := (hsQ_sz hV).1;have c1 := SzU.con V 1;have b := SzU.var (V := V) (i := 2) (by omega);have s := (a.sub c1).mono (d' := 1) (c' := 3) (n' := 2) (by omega) (by decide) (by omega);have e := muls2 (p := subL (hsQ V) (conU V 1)) (q := varU V 2) s
 have p : SzU V 2 3 2 (mulsU (conU V 1) [subL (hsQ V) (conU V 1), varU V 2]) := by
  rw [e]; exact (s.mul b).mono (by omega) (by decide) (by omega)
 refine ⟨?_, okMuls2 s b (by omega) (by decide) (by decide) (by decide) (by omega) (by omega) (by omega), okSums2 c1 p (by omega) (by omega) (by decide) (by omega), s, a.subChk c1 (by omega) (by omega) (by decide) (by omega), p⟩;unfold hsAll;rw [sums2 c1 p];exact (c1.add p).mono (by omega) (by decide) (by omega)
theorem hsSum_sz {V : Nat} (c : IZ → Bool) : ∀ (xs : List IZ) {i : Nat} {acc : List UT} {k n : Nat}, SzU V 1 k n acc → 3 + i + xs.length ≤ V → SzU V 1 (k + xs.length) (n + xs.length) (hsSum V c i xs acc)
 | [], i, acc, k, n, h, _ => by simpa [hsSum] using h
 | x :: xs, i, acc, k, n, h, hV => by
  rw [List.length_cons] at hV;have v := SzU.var (V := V) (i := 3 + i) (by omega);unfold hsSum;split
  ·rw [sums2 h v];have := hsSum_sz c xs (i := i + 1) ((h.add v).mono (d' := 1) (c' := k + 1) (n' := n + 1) (by omega) (by omega) (by omega)) (by omega);exact this.mono (by omega) (by rw [List.length_cons]; omega) (by rw [List.length_cons]; omega)
  ·have := hsSum_sz c xs (i := i + 1) h (by omega);exact this.mono (by omega) (by rw [List.length_cons]; omega) (by rw [List.length_cons]; omega)
theorem hsSum0_sz {m : MZ} (c : IZ → Bool) : SzU m.V 1 m.l (1 + m.l) (hsSum m.V c 0 m.code (conU m.V 0)) := by
 have := hsSum_sz (V := m.V) c m.code (i := 0) ((SzU.con m.V 0).mono (d' := 1) (c' := 0) (n' := 1) (by omega) (by decide) (by omega)) (by show 3 + 0 + m.code.length ≤ 3 + m.code.length + 2 * m.R; omega);exact this.mono (by omega) (Nat.le_of_eq (Nat.zero_add _)) (Nat.le_refl _)
/-! values -/
theorem sumN_front : ∀ (n : Nat) (f : Nat → Nat), sumN (n + 1) f = f 0 + sumN n fun k => f (k + 1)
 | 0, f => by simp [sumN]
 | n + 1, f => by rw [sumN, sumN_front n f, sumN]; omega
theorem uv_add2 {V d c n d' c' n' : Nat} (hV : V ≤ 32) (X : List Int) {p q : List UT} (hp : SzU V d c n p) (hq : SzU V d' c' n' q) (h1 : d ≤ 120) (h2 : d' ≤ 120) (hc : c + c' < 4294967296) (hn : n + n' ≤ 3000) : uv X (sumsU [] [p, q]) = uv X p + uv X q := by
 rw [uv_sums hV X _ _ (okSums2 hp hq h1 h2 hc hn)];simp only [List.map_cons, List.map_nil, sumL];show (0 : Int) + _ = _;omega
theorem uv_mul2 {V d c n d' c' n' : Nat} (hV : V ≤ 32) (X : List Int) {p q : List UT} (hp : SzU V d c n p) (hq : SzU V d' c' n' q) (hd : d + d' ≤ 120) (hc : c * c' < 4294967296) (hc1 : c < 4294967296) (hc2 : c' < 4294967296) (hn : n * n' ≤ 3000) (hn1 : n ≤ 3000) (hn2 : n' ≤ 3000) : uv X (mulsU (conU V 1) [p, q]) = uv X p * uv X q := by
 rw [uv_muls hV X _ _ (okMuls2 hp hq hd hc hc1 hc2 hn hn1 hn2), uv_con];simp only [List.map_cons, List.map_nil, prodL];grind
theorem uv_sub2 {V d c n d' c' n' : Nat} (hV : V ≤ 32) (X : List Int) {p q : List UT} (hp : SzU V d c n p) (hq : SzU V d' c' n' q) (h1 : d ≤ 120) (h2 : d' ≤ 120) (hc : c + c' < 4294967296) (hn : n + n' ≤ 3000) : uv X (subL p q) = uv X p - uv X q := uv_sub hV X (hp.subChk hq h1 h2 hc hn)
theorem hsQ_val {V : Nat} (h6 : 6 ≤ V) (hV : V ≤ 32) {X : List Int} (hX : X.length = V) : uv X (hsQ V) = 2 * X.getD 1 0 := by
 unfold hsQ;rw [uv_mul2 hV X (SzU.con V 2) (SzU.var (by omega)) (by omega) (by decide) (by decide) (by decide) (by omega) (by omega) (by omega), uv_con, uv_var hX (by omega)]
theorem hsAll_val {V : Nat} (h6 : 6 ≤ V) (hV : V ≤ 32) {X : List Int} (hX : X.length = V) : uv X (hsAll V) = 1 + (2 * X.getD 1 0 - 1) * X.getD 2 0 := by
 obtain ⟨_, _, _, s, _, p⟩ := hsAll_sz h6;unfold hsAll;rw [uv_add2 hV X (SzU.con V 1) p (by omega) (by omega) (by decide) (by omega), uv_con, uv_mul2 hV X s (SzU.var (by omega)) (by omega) (by decide) (by decide) (by decide) (by omega) (by omega) (by omega), uv_sub2 hV X (hsQ_sz h6).1 (SzU.con V 1) (by omega) (by omega) (by decide) (by omega), hsQ_val h6 hV hX, uv_con, uv_var hX (by omega)]
theorem hsSum_val {V : Nat} (hV : V ≤ 32) {X : List Int} (hX : X.length = V) (h0 : ∀ y ∈ X, 0 ≤ y) (c : IZ → Bool) : ∀ (xs : List IZ) {i : Nat} {acc : List UT} {k n : Nat}, SzU V 1 k n acc → 3 + i + xs.length ≤ V → k ≤ 100 - xs.length → n ≤ 100 - xs.length → xs.length ≤ 50 →
  uv X (hsSum V c i xs acc) = uv X acc + (sumN xs.length fun j => if c (xs.getD j haltZ) then (X.getD (3 + i + j) 0).toNat else 0 : Nat)
 | [], i, acc, k, n, h, _, _, _, _ => by simp [hsSum, sumN]
 | x :: xs, i, acc, k, n, h, hl, hk, hn, h50 => by
  rw [List.length_cons] at hl hk hn h50;have v := SzU.var (V := V) (i := 3 + i) (by omega)
  have hx0 : 0 ≤ X.getD (3 + i) 0 := by
   rw [List.getD_eq_getElem?_getD, List.getElem?_eq_getElem (by omega)];exact h0 _ (List.getElem_mem _)
  rw [List.length_cons, sumN_front]
  have hs : (sumN xs.length fun j => if c ((x :: xs).getD (j + 1) haltZ) then (X.getD (3 + i + (j + 1)) 0).toNat else 0) = sumN xs.length fun j => if c (xs.getD j haltZ) then (X.getD (3 + (i + 1) + j) 0).toNat else 0 := by
   refine sumN_ext fun j _ => ?_;rw [List.getD_cons_succ, show 3 + i + (j + 1) = 3 + (i + 1) + j by omega]
  rw [hs, List.getD_cons_zero, Nat.add_zero];unfold hsSum;by_cases hc : c x = true
  ·rw [if_pos hc, if_pos hc];have ha := (h.add v).mono (d' := 1) (c' := k + 1) (n' := n + 1) (by omega) (by omega) (by omega);rw [← sums2 h v] at ha;rw [hsSum_val hV hX h0 c xs ha (by omega) (by omega) (by omega) (by omega), uv_add2 hV X h v (by omega) (by omega) (by omega) (by omega), uv_var hX (by omega)];omega
  ·rw [if_neg hc, if_neg hc, hsSum_val hV hX h0 c xs h (by omega) (by omega) (by omega) (by omega)];omega
end Go.AL
/- register.Valid, Input. -/
namespace Go.AL
def eIz : IZ → List AV := fun x => [aN x.op, aN x.rg, aN x.nx, aN x.zr]
abbrev aIz (x : IZ) : AV := .agg [aN x.op, aN x.rg, aN x.nx, aN x.zr]
abbrev eMz (m : MZ) : List AV := [aN m.regs, .sl 4 eIz m.code]
abbrev aMz (m : MZ) : AV := .agg [aN m.regs, .sl 4 eIz m.code]
theorem dec_of {p q : Prop} [Decidable p] {b : Bool} (hb : b = true ↔ q) (h : p ↔ q) : decide p = b := by
 cases b with
 | true => exact decide_eq_true (h.2 (hb.1 rfl))
 | false => exact decide_eq_false fun k => by have := hb.2 (h.1 k); cases this
theorem okIns_iff (m : MZ) (i : Nat) (x : IZ) : okIns m i x ↔ ((x.op = 3 ∧ x.rg = 0 ∧ x.nx = 0 ∧ x.zr = 0) ∨ ((0 ≤ x.rg ∧ x.rg < m.regs) ∧ (0 ≤ x.nx ∧ x.nx < m.code.length) ∧ ((x.op = 2 ∧ 0 ≤ x.zr ∧ x.zr < m.code.length ∧ x.nx ≠ i) ∨ ((x.op = 0 ∨ x.op = 1) ∧ x.zr = 0)))) := by
 unfold okIns
 have : x = haltZ ↔ (x.op = 3 ∧ x.rg = 0 ∧ x.nx = 0 ∧ x.zr = 0) := by
  obtain ⟨a, b, c, d⟩ := x;unfold haltZ;constructor
  ·intro h; injection h with h1 h2 h3 h4; exact ⟨h1, h2, h3, h4⟩
  ·rintro ⟨h1, h2, h3, h4⟩;simp only at h1 h2 h3 h4;rw [h1, h2, h3, h4]
 rw [this]
theorem MZ.at_get {m : MZ} {i : Nat} {x : IZ} (h : m.code[i]? = some x) : m.at i = x := by
 unfold MZ.at;rw [List.getD_eq_getElem?_getD, h]; rfl
theorem MZ.get_at {m : MZ} {i : Nat} (h : i < m.l) : m.code[i]? = some (m.at i) := by
 unfold MZ.at;rw [List.getD_eq_getElem?_getD, List.getElem?_eq_getElem h]; rfl
end Go.AL
namespace Go.Proofs.YtmmfloplhopioaaGreat
open Go.AL
abbrev mB (m : MZ) : List (AL.Id × Bx) := [(900, .cells (eMz m) 24)]
theorem goes1_ok (m : MZ) (t : Int) : IoFn Tryz.prog 166 ([aN t] ++ [.ptr 900 0]) (mB m) (.ret (aB (decide (0 ≤ t ∧ t < m.code.length)))) (mB m) := by
 refine IoFn.of_body Tryz.func166 rfl Tryz.ntmps166 rfl rfl rfl ?_;(repeat' (first |refine qv ?_ |apply qn |apply qs |apply qr |refine Fl.skip rfl rfl ?_ |apply qt |(refine Fl.splitD rfl rfl ?_ ?_ <;> intro _ <;> try (exfalso; omega))))
 all_goals refine ⟨⟨[], _, _, Ent.refl _ _ _, rfl, AV.Le.bool ?_, rfl, ⟨⟨⟨_, rfl, BLe.cells (LeL.refl _)⟩, rfl⟩, trivial⟩, rfl, rfl⟩⟩
 ·exact decide_eq_decide.2 (by omega)
 ·exact (decide_eq_false (by omega)).symm
set_option maxHeartbeats 4000000 in
theorem rgInsn_ok (m : MZ) (i : Nat) (x : IZ) (b : Bool) (hb : b = true ↔ okIns m i x) : PureFn Tryz.prog 114 [aMz m, aN i, aIz x] (aB b) := by
 refine PureFn.of_body Tryz.func114 rfl Tryz.ntmps114 rfl rfl ?_;rw [okIns_iff] at hb;have fin0 : ∀ {p : Prop} [Decidable p], (p ↔ _) → decide p = b := fun h => dec_of hb h;(repeat' (first |refine qv ?_ |apply qn |apply qs |apply qr |refine qe ?_ |refine Fl.skip rfl rfl ?_ |(refine AWP.condD rfl ?_ ?_ <;> intro _ <;> try (exfalso; omega)) |apply qb |apply qk |apply qt |(refine Fl.splitD rfl rfl ?_ ?_ <;> intro _ <;> try (exfalso; omega))))
 all_goals (try (refine Fl.ioV rfl rfl [(900, 3)] (goes1_ok m _) rfl rfl (LeL.refl _) rfl ⟨⟨⟨_, rfl, BLe.cells (LeL.refl _)⟩, rfl⟩, trivial⟩ rfl rfl rfl rfl rfl ?_))
 all_goals repeat' (first |refine qv ?_ |apply qn |refine Fl.skip rfl rfl ?_ |apply qt |(refine Fl.splitD rfl rfl ?_ ?_ <;> intro _ <;> try (exfalso; omega)))
 all_goals (try (refine Fl.ioV rfl rfl [(900, 3)] (goes1_ok m _) rfl rfl (LeL.refl _) rfl ⟨⟨⟨_, rfl, BLe.cells (LeL.refl _)⟩, rfl⟩, trivial⟩ rfl rfl rfl rfl rfl ?_))
 all_goals repeat' (first |refine qv ?_ |apply qn |refine Fl.skip rfl rfl ?_ |apply qt |(refine Fl.splitD rfl rfl ?_ ?_ <;> intro _ <;> try (exfalso; omega)))
 all_goals (try (refine Fl.eqV rfl rfl rfl rfl rfl _ rfl rfl (fun w => by kernel_rfl) (fun w => insEq_run w _ _ _ _ _ _ _ _) ?_))
 all_goals repeat' (first |refine qv ?_ |apply qn |apply qt)
 all_goals refine RetOk.of rfl (AV.Le.bool ?_)
 all_goals first
  | exact (hb.2 (by omega)).symm
  | exact (Bool.eq_false_iff.2 fun h => by have := hb.1 h; omega).symm
  | exact fin0 (by omega)
  | (rw [← decide_not]; exact fin0 (by omega))
theorem rgValid_ok (m : MZ) (hl : m.code.length ≤ 100000) (b : Bool) (hb : b = true ↔ OkMZ m) : PureFn Tryz.prog 48 [aMz m] (aB b) := by
 refine PureFn.of_body Tryz.func48 rfl Tryz.ntmps48 rfl rfl ?_
 have hfalse : ¬ OkMZ m → false = b := fun h => by cases b with | false => rfl | true => exact absurd (hb.1 rfl) h
 refine AWP.seqS ?_;(repeat' (first |refine qv ?_ |apply qn |apply qr |refine qe ?_|fail));refine ⟨AWP.seqS ?_⟩;(repeat' (first |refine qv ?_ |apply qn |apply qs |apply qr |refine Fl.skip rfl rfl ?_ |refine AWP.condT rfl ?_ |(refine AWP.condD rfl ?_ ?_ <;> intro _ <;> try (exfalso; omega)) |apply qk |apply qt |(refine Fl.splitD rfl rfl ?_ ?_ <;> intro _ <;> try (exfalso; omega))))
 any_goals exact RetOk.of rfl (AV.Le.bool (hfalse fun k => by
  have k1 := k.r1;have k2 := k.r4;have k3 : 1 ≤ m.code.length := k.l1;have k4 : m.code.length ≤ 15 := k.l15
  omega))
 refine ⟨AWP.seqS ?_⟩;(repeat' (first |refine qv ?_ |apply qn |apply qs |apply qr |apply qb));refine AWP.loop (G := Nat) (fun i => i ≤ m.code.length ∧ ∀ j, j < i → okIns m j (m.at j)) (fun i => St.of [] [(1, .ptr 1 0), (26, .sl 4 eIz m.code), (27, aN m.code.length), (28, aN i)] [(1, .cells (eMz m) 24)]) (fun i => m.code.length - i) 0 ⟨by omega, fun j hj => by omega⟩ ?_ ?_
 ·refine Ent.of [] ?_ ?_ rfl rfl;(repeat' (first |exact True.intro |refine ⟨⟨AV.Le.refl _, rfl⟩, ?_⟩ |refine ⟨⟨⟨_, rfl, BLe.cells (LeL.refl _)⟩, rfl⟩, ?_⟩|fail))
 ·intro i ⟨k0, k1⟩;(repeat' (first |refine qv ?_ |apply qn |apply qs |apply qr |refine qe ?_ |(refine AWP.condD rfl ?_ ?_ <;> intro _ <;> try (exfalso; omega)) |apply qb |apply qk |apply qx |(refine Fl.el rfl rfl rfl rfl rfl rfl rfl rfl (by omega) (by omega) ?_; intro _ _)|fail))
  ·rename_i hi x hx;rw [Int.toNat_natCast] at hx;have hat := MZ.at_get hx;obtain ⟨f, hf⟩ := boolOf (fun _ : Unit => okIns m i x);refine qc (rgInsn_ok m i x (f ()) (hf ())) ?_;(repeat' (first |refine qv ?_ |apply qn |apply qs |apply qr |refine qw ?_ |apply qk |apply qt |(refine AWP.condB rfl ?_ ?_ <;> intro _)))
   ·rename_i hff;refine RetOk.of rfl (AV.Le.bool (hfalse fun k => ?_));have h := (hf ()).2 (hat ▸ k.ins i (by show i < m.code.length; omega));rw [h] at hff
    cases hff
   ·rename_i hff
    have hff' : f () = true := by cases h : f () with | true => rfl | false => rw [h] at hff; cases hff
    refine LoopEnd.of (i + 1) ⟨by omega, fun j hj => ?_⟩ (by omega) ?_
    ·rcases (show j < i ∨ j = i by omega) with h | h
     ·exact k1 j h
     ·rw [h, hat]; exact (hf ()).1 hff'
    ·refine Ent.of [] ?_ ?_ rfl rfl;(repeat' (first |exact True.intro |refine ⟨⟨AV.Le.refl _, rfl⟩, ?_⟩ |refine ⟨⟨⟨_, rfl, BLe.cells (LeL.refl _)⟩, rfl⟩, ?_⟩|fail))
  ·rename_i hi;refine ⟨?_⟩;(repeat' (first |refine qv ?_ |apply qn |apply qs |apply qr |apply qt));refine RetOk.of rfl (AV.Le.bool ?_);exact (hb.2 ⟨by omega, by omega, by show 1 ≤ m.code.length; omega, by show m.code.length ≤ 15; omega, fun j hj => k1 j (by have : j < m.code.length := hj; omega)⟩).symm
end Go.Proofs.YtmmfloplhopioaaGreat
/- mask.Witness. -/
namespace Go.AL
section
variable {P : Program} {tab : Tab} {n : Nat} {s : St}
variable {ops : Array Oper} {draw : Dr} {o : Oper} {l : List Oper} {acc : List Eff} {K : Exit → St → Prop}
theorem Fl.rldK [f : Facts P tab] {t : TypeId} {x : Operand} (hop : o.op = .load t x) {b : Id} {off : Nat} (hx : opd s x = .rptr b off) {α : Type} {sz : Nat} {enc : α → List AV} {xs : List α} {bt : TypeId} (hb : s.bx b = some (.row sz enc xs bt)) {i : TI} (hti : tab t = some i) (hg : gOk ops s o = true) (hd : dOk n o.dst = true)
  {j : Nat} (hj : off = j * sz) {v : α → AV} (hv : ∀ x0, ofCells (aggD i.desc) i.size (enc x0) = some (v x0)) (hvc : ∀ x0, (v x0).closed = true) {x0 : α} (he : xs[j]? = some x0)
  (r : Fl P n ops draw l ((Eff.mk (v x0) [] [] [] [b]).app o.dst s) (Eff.mk (v x0) [] [] [] [b] :: acc) K) : Fl P n ops draw (o :: l) s acc K :=
 Fl.opv hg (OpJ.rload f.tabOk (dOk_lt hd) hop hx hb hti hj he (hv _) (hvc _)) r
end
structure MW where
  u : Int
  p : Int
  q : Int
  z : Int
  y : Int
  r : Int
  s : Int
  t : Int
def MW.X (w : MW) (a b : Int) : List Int := [a, b, w.u, w.p, w.q, w.z, w.y, w.r, w.s, w.t]
end Go.AL
namespace Go.Proofs.YtmmfloplhopioaaGreat
open Go.AL
end Go.Proofs.YtmmfloplhopioaaGreat
/- register.Input, Start; the runner. -/
namespace Go.AL
abbrev aSt (a : Int) (rs : List Int) : AV := .agg [aN a, aI rs]
end Go.AL
namespace Go.Proofs.YtmmfloplhopioaaGreat
open Go.AL
theorem indexI_ok (g : FuncId) (f : Int → Bool) (xs : List Int) (hl : xs.length ≤ 1000000) (hf : ∀ v, PureFn Tryz.prog g [aN v] (aB (f v))) : PureFn Tryz.prog 185 [aI xs, .fn g []] (aN (idxI f xs 0)) := by
 refine PureFn.of_body Tryz.func185 rfl Tryz.ntmps185 rfl rfl ?_;(repeat' (first |refine qv ?_ |apply qn |apply qs |apply qr |apply qb));refine AWP.loop (G := Nat) (fun i => i ≤ xs.length ∧ idxI f (xs.drop i) i = idxI f xs 0) (fun i => St.of [] [(0, aI xs), (1, .fn g []), (7, aN xs.length), (8, aN i)] []) (fun i => xs.length - i) 0 ⟨by omega, by simp⟩ ?_ ?_
 ·refine Ent.of [] ?_ ?_ rfl rfl;(repeat' (first |exact True.intro |refine ⟨⟨AV.Le.refl _, rfl⟩, ?_⟩|fail))
 ·intro i ⟨k0, k1⟩;(repeat' (first |refine qv ?_ |apply qn |apply qs |apply qr |(refine AWP.condD rfl ?_ ?_ <;> intro _ <;> try (exfalso; omega)) |apply qb |apply qk |apply qx |apply qt |(refine Fl.el rfl rfl rfl rfl rfl rfl rfl rfl (by omega) (by omega) ?_; intro _ _)|fail))
  ·rename_i hi p hp;rw [Int.toNat_natCast] at hp;have hd := idxI_drop (f := f) hp;refine Fl.callV rfl rfl (hf p) rfl rfl rfl (LeL.refl _) ?_;(repeat' (first |refine qv ?_ |apply qn |apply qs |apply qr |refine qw ?_ |apply qk |apply qt |(refine AWP.condB rfl ?_ ?_ <;> intro _)))
   ·rename_i hb;rw [if_pos hb] at hd;refine RetOk.of rfl (AV.Le.int ?_);rw [← k1, hd]
   ·rename_i hb;rw [if_neg (by rw [hb]; simp)] at hd;refine LoopEnd.of (i + 1) ⟨by omega, by rw [← k1, hd]⟩ (by omega) ?_;refine Ent.of [] ?_ ?_ rfl rfl;(repeat' (first |exact True.intro |refine ⟨⟨AV.Le.refl _, rfl⟩, ?_⟩|fail))
  ·refine RetOk.of rfl (AV.Le.int ?_);rw [← k1, List.drop_of_length_le (by omega)]; rfl
theorem containsI_ok (g : FuncId) (f : Int → Bool) (xs : List Int) (hl : xs.length ≤ 1000000) (hf : ∀ v, PureFn Tryz.prog g [aN v] (aB (f v))) : PureFn Tryz.prog 147 [aI xs, .fn g []] (aB (xs.any f)) := by
 refine PureFn.of_body Tryz.func147 rfl Tryz.ntmps147 rfl rfl ?_;have h := indexI_ok g f xs hl hf;have he := idxI_any f xs 0 (by omega);(repeat' (first |refine qv ?_ |apply qn |apply qs |apply qr));refine qc (h) ?_;(repeat' (first |refine qv ?_ |apply qn |apply qt));exact RetOk.of rfl (AV.Le.bool he)
theorem rgInput1_ok (v : Int) : PureFn Tryz.prog 148 [aN v] (aB (decide (v < 0 ∨ 1000 < v))) := by
 refine PureFn.of_body Tryz.func148 rfl Tryz.ntmps148 rfl rfl ?_;(repeat' (first |refine qv ?_ |apply qn |apply qs |apply qr |refine Fl.skip rfl rfl ?_ |apply qt |(refine Fl.splitD rfl rfl ?_ ?_ <;> intro _ <;> try (exfalso; omega))))
 all_goals refine RetOk.of rfl (AV.Le.bool ?_)
 all_goals first
  | exact (decide_eq_true (by omega)).symm
  | exact decide_eq_decide.2 (by omega)
theorem rgFits1_ok (v : Int) : PureFn Tryz.prog 149 [aN v] (aB (decide (v < 0 ∨ 1099511627776 < v))) := by
 refine PureFn.of_body Tryz.func149 rfl Tryz.ntmps149 rfl rfl ?_;(repeat' (first |refine qv ?_ |apply qn |apply qs |apply qr |refine Fl.skip rfl rfl ?_ |apply qt |(refine Fl.splitD rfl rfl ?_ ?_ <;> intro _ <;> try (exfalso; omega))))
 all_goals refine RetOk.of rfl (AV.Le.bool ?_)
 all_goals first
  | exact (decide_eq_true (by omega)).symm
  | exact decide_eq_decide.2 (by omega)
theorem anyOut {lo hi : Int} {xs : List Int} : (xs.any fun v => decide (v < lo ∨ hi < v)) = false ↔ ∀ v ∈ xs, lo ≤ v ∧ v ≤ hi := by
 rw [List.any_eq_false];refine ⟨fun h v hv => ?_, fun h v hv => ?_⟩
 ·have := h v hv;simp only [decide_eq_true_eq] at this;omega
 ·have := h v hv;simp only [decide_eq_true_eq];omega
theorem rgInput_ok (m : MZ) (x : List Int) (hl : x.length ≤ 100000) (h1 : 0 ≤ m.regs) (b : Bool) (hb : b = true ↔ OkIn m x) : PureFn Tryz.prog 81 [aMz m, aI x] (aB b) := by
 refine PureFn.of_body Tryz.func81 rfl Tryz.ntmps81 rfl rfl ?_;(repeat' (first |refine qv ?_ |apply qn |apply qs |apply qr |refine qe ?_ |refine Fl.skip rfl rfl ?_ |apply qt |(refine Fl.splitD rfl rfl ?_ ?_ <;> intro _ <;> try (exfalso; omega))))
 ·rename_i h;refine qc (containsI_ok 148 (fun v => decide (v < 0 ∨ 1000 < v)) x (by omega) rgInput1_ok) ?_;(repeat' (first |refine qv ?_ |apply qn |apply qt));refine RetOk.of rfl (AV.Le.bool ?_)
  cases b with
  | true =>
   have := (hb.1 rfl).2;rw [anyOut.2 this]; rfl
  | false =>
   cases hc : x.any fun v => decide (v < 0 ∨ 1000 < v) with
   | true => rfl
   | false =>
    have := hb.2 ⟨by show x.length = m.regs.toNat; omega, anyOut.1 hc⟩
    cases this
 ·rename_i h;refine RetOk.of rfl (AV.Le.bool ?_)
  cases b with
  | false => rfl
  | true => have : x.length = m.regs.toNat := (hb.1 rfl).1; omega
theorem cloneRowI_ok (l : List Int) (hl : l.length ≤ 100000) (hne : l ≠ []) : IoFn Tryz.prog 82 [aI l] [] (.ret (.row 900)) [(900, .row 1 eI l 3)] := by
 refine IoFn.of_body Tryz.func82 rfl Tryz.ntmps82 rfl rfl rfl ?_;refine AWP.seqS ?_;(repeat' (first |refine qv ?_ |apply qn |apply qr));refine ⟨AWP.seq (AWP.seq (AWP.nilTest rfl rfl rfl rfl rfl rfl rfl rfl rfl rfl ?_))⟩;intro b hb
 cases b with
 | true => exact absurd (hb rfl) hne
 | false =>
  (repeat' (first |apply qs |apply qr |refine AWP.condF rfl ?_ |apply qk));refine Fl.litrow rfl rfl rfl rfl rfl rfl rfl eI [] rfl rfl rfl rfl (by simp) (LeL.refl _) ?_;(repeat' (first |refine qv ?_|fail));refine qa (hby := (by dsimp only [List.length_nil]; omega)) (hm := (by simp; omega)) (r := ?_);(repeat' (first |refine qv ?_ |apply qn |apply qt));exact ⟨⟨[(900, 7)], _, _, Ent.refl _ _ _, rfl, AV.Le.refl _, rfl, ⟨⟨⟨_, rfl, BLe.row rfl⟩, rfl⟩, trivial⟩, rfl, rfl⟩⟩
abbrev rnB (m : MZ) (a : Int) (rs : List Int) : List (AL.Id × Bx) := [(900, .cells [aN m.regs, .sl 4 eIz m.code, aN a, .row 901] 127), (901, .row 1 eI rs 3)]
theorem rnBegin_ok (m : MZ) (a : Int) (rs : List Int) (hl : rs.length ≤ 100000) (hne : rs ≠ []) : IoFn Tryz.prog 84 [aMz m, aSt a rs] [] (.ret (.ptr 900 0)) (rnB m a rs) := by
 refine IoFn.of_body Tryz.func84 rfl Tryz.ntmps84 rfl rfl rfl ?_;(repeat' (first |refine qv ?_ |apply qn |apply qs |apply qr |refine qe ?_|fail));refine Fl.io rfl [(900, 10)] (cloneRowI_ok rs hl hne) rfl rfl (LeL.refl _) rfl trivial rfl rfl rfl rfl rfl ?_;(repeat' (first |refine qv ?_ |refine Fl.nil (fun _ => by kernel_rfl) ?_ |refine qe ?_ |apply qt));exact ⟨⟨[(900, 13), (901, 10)], _, _, Ent.refl _ _ _, rfl, AV.Le.refl _, rfl, ⟨⟨⟨_, rfl, BLe.cells (LeL.refl _)⟩, rfl⟩, ⟨⟨_, rfl, BLe.row rfl⟩, rfl⟩, trivial⟩, rfl, rfl⟩⟩
theorem rnOver_ok (m : MZ) (a : Nat) (x : IZ) (rs : List Int) (hx : m.code[Int.toNat (a : Int)]? = some x) (hr : x.op ≠ 3 → 0 ≤ x.rg ∧ x.rg < rs.length) (b : Bool) (hb : b = true ↔ x.op = 3 ∨ (x.op = 1 ∧ rs[x.rg.toNat]? = some 0)) : IoFn Tryz.prog 85 [.ptr 900 0] (rnB m a rs) (.ret (aB b)) (rnB m a rs) := by
 refine IoFn.of_body Tryz.func85 rfl Tryz.ntmps85 rfl rfl rfl ?_
 have ha : (a : Int) < m.code.length := by have := (List.getElem?_eq_some_iff.1 hx).1; omega
 by_cases h3 : x.op = 3
 ·rw [hb.2 (.inl h3)];(repeat' (first |refine qv ?_ |apply qn |refine Fl.nil (fun _ => by kernel_rfl) ?_ |apply qs |apply qr |refine qe ?_ |refine Fl.skip rfl rfl ?_ |apply qt |refine qK ?_ |(refine Fl.splitD rfl rfl ?_ ?_ <;> intro _ <;> try (exfalso; omega))));exact ⟨⟨[], _, _, Ent.refl _ _ _, rfl, AV.Le.refl _, rfl, ⟨⟨⟨_, rfl, BLe.cells (LeL.refl _)⟩, rfl⟩, ⟨⟨_, rfl, BLe.row rfl⟩, rfl⟩, trivial⟩, rfl, rfl⟩⟩
 ·obtain ⟨r0, r1⟩ := hr h3;(repeat' (first |refine qv ?_ |apply qn |refine Fl.nil (fun _ => by kernel_rfl) ?_ |apply qs |apply qr |refine qe ?_ |refine Fl.skip rfl rfl ?_ |apply qt |refine qK ?_ |refine Fl.rel rfl rfl rfl rfl rfl rfl rfl rfl (by omega) (by first | omega | (simp; omega)) ?_ |(refine Fl.rld rfl rfl rfl rfl rfl rfl rfl (fun _ => rfl) (fun _ => rfl) (by first | omega | (simp; omega)) ?_; intro _ _) |(refine Fl.splitD rfl rfl ?_ ?_ <;> intro _ <;> try (exfalso; omega))))
  ·rename_i h1 y hy;refine ⟨⟨[], _, _, Ent.refl _ _ _, rfl, AV.Le.bool ?_, rfl, ⟨⟨⟨_, rfl, BLe.cells (LeL.refl _)⟩, rfl⟩, ⟨⟨_, rfl, BLe.row rfl⟩, rfl⟩, trivial⟩, rfl, rfl⟩⟩;refine dec_of hb ⟨fun h => .inr ⟨h1, by rw [hy, h]⟩, fun h => ?_⟩;rcases h with h | ⟨_, h⟩
   ·exact absurd h h3
   ·rw [hy] at h; injection h
  ·rename_i h1;refine ⟨⟨[], _, _, Ent.refl _ _ _, rfl, AV.Le.bool ?_, rfl, ⟨⟨⟨_, rfl, BLe.cells (LeL.refl _)⟩, rfl⟩, ⟨⟨_, rfl, BLe.row rfl⟩, rfl⟩, trivial⟩, rfl, rfl⟩⟩;refine (Bool.eq_false_iff.2 fun h => ?_).symm;rcases hb.1 h with k | k
   ·exact h3 k
   ·exact h1 k.1
theorem rnInc_ok (m : MZ) (a : Nat) (x : IZ) (rs : List Int) (v : Int) (hx : m.code[Int.toNat (a : Int)]? = some x) (ho : x.op = 0) (hr : 0 ≤ x.rg ∧ x.rg < rs.length) (hv : rs[x.rg.toNat]? = some v) (h0 : 0 ≤ v) (h1 : v < 1099511627776) : IoFn Tryz.prog 86 [.ptr 900 0] (rnB m a rs) (.ret (aB true)) (rnB m x.nx (rs.set x.rg.toNat (v + 1))) := by
 refine IoFn.of_body Tryz.func86 rfl Tryz.ntmps86 rfl rfl rfl ?_
 have ha : (a : Int) < m.code.length := by have := (List.getElem?_eq_some_iff.1 hx).1; omega
 obtain ⟨r0, r1⟩ := hr;(repeat' (first |refine qv ?_ |apply qn |refine Fl.nil (fun _ => by kernel_rfl) ?_ |apply qs |apply qr |refine qe ?_ |apply qb |refine qK ?_ |refine Fl.rel rfl rfl rfl rfl rfl rfl rfl rfl (by omega) (by first | omega | (simp; omega)) ?_ |(refine Fl.splitD rfl rfl ?_ ?_ <;> intro _ <;> try (exfalso; omega))));refine Fl.ncR rfl rfl rfl rfl ?_;refine Fl.rldK rfl rfl rfl rfl rfl rfl rfl (fun _ => rfl) (fun _ => rfl) hv ?_;(repeat' (first |refine qv ?_ |apply qn |apply qs |apply qr |(refine AWP.condD rfl ?_ ?_ <;> intro _ <;> try (exfalso; omega))));refine Fl.ncR rfl rfl rfl rfl ?_;refine Fl.rldK rfl rfl rfl rfl rfl rfl rfl (fun _ => rfl) (fun _ => rfl) hv ?_;(repeat' (first |refine qw ?_|fail));refine Fl.ncR rfl rfl rfl rfl ?_;(repeat' (first |refine qv ?_ |apply qn |apply qs |apply qr |refine qe ?_ |apply qt |refine Fl.rst rfl rfl rfl rfl rfl rfl rfl rfl rfl rfl rfl (LeL.refl _) rfl (by first | omega | (simp; omega)) ?_|fail));exact ⟨⟨[], _, _, Ent.refl _ _ _, rfl, AV.Le.refl _, rfl, ⟨⟨⟨_, rfl, BLe.cells (LeL.refl _)⟩, rfl⟩, ⟨⟨_, rfl, BLe.row rfl⟩, rfl⟩, trivial⟩, rfl, rfl⟩⟩
theorem rnDec_ok (m : MZ) (a : Nat) (x : IZ) (rs : List Int) (v : Int) (hx : m.code[Int.toNat (a : Int)]? = some x) (ho : x.op = 1) (hr : 0 ≤ x.rg ∧ x.rg < rs.length) (hv : rs[x.rg.toNat]? = some v) (h0 : 0 ≤ v) (h1 : v < 1099511627776) : IoFn Tryz.prog 86 [.ptr 900 0] (rnB m a rs) (.ret (aB true)) (rnB m x.nx (rs.set x.rg.toNat (v - 1))) := by
 refine IoFn.of_body Tryz.func86 rfl Tryz.ntmps86 rfl rfl rfl ?_
 have ha : (a : Int) < m.code.length := by have := (List.getElem?_eq_some_iff.1 hx).1; omega
 obtain ⟨r0, r1⟩ := hr;(repeat' (first |refine qv ?_ |apply qn |refine Fl.nil (fun _ => by kernel_rfl) ?_ |apply qs |apply qr |refine qe ?_ |refine Fl.skip rfl rfl ?_ |refine AWP.condF rfl ?_ |(refine AWP.condD rfl ?_ ?_ <;> intro _ <;> try (exfalso; omega)) |apply qb |refine qK ?_ |refine Fl.rel rfl rfl rfl rfl rfl rfl rfl rfl (by omega) (by first | omega | (simp; omega)) ?_ |(refine Fl.splitD rfl rfl ?_ ?_ <;> intro _ <;> try (exfalso; omega))));refine Fl.ncR rfl rfl rfl rfl ?_;refine Fl.rldK rfl rfl rfl rfl rfl rfl rfl (fun _ => rfl) (fun _ => rfl) hv ?_;(repeat' (first |refine qw ?_|fail));refine Fl.ncR rfl rfl rfl rfl ?_;(repeat' (first |refine qv ?_ |apply qn |apply qs |apply qr |refine qe ?_ |apply qt |refine Fl.rst rfl rfl rfl rfl rfl rfl rfl rfl rfl rfl rfl (LeL.refl _) rfl (by first | omega | (simp; omega)) ?_|fail));exact ⟨⟨[], _, _, Ent.refl _ _ _, rfl, AV.Le.refl _, rfl, ⟨⟨⟨_, rfl, BLe.cells (LeL.refl _)⟩, rfl⟩, ⟨⟨_, rfl, BLe.row rfl⟩, rfl⟩, trivial⟩, rfl, rfl⟩⟩
theorem rnJmp_ok (m : MZ) (a : Nat) (x : IZ) (rs : List Int) (v : Int) (hx : m.code[Int.toNat (a : Int)]? = some x) (ho : x.op = 2) (hr : 0 ≤ x.rg ∧ x.rg < rs.length) (hv : rs[x.rg.toNat]? = some v) (h0 : 0 ≤ v) : IoFn Tryz.prog 86 [.ptr 900 0] (rnB m a rs) (.ret (aB true)) (rnB m (if v = 0 then x.zr else x.nx) rs) := by
 refine IoFn.of_body Tryz.func86 rfl Tryz.ntmps86 rfl rfl rfl ?_
 have ha : (a : Int) < m.code.length := by have := (List.getElem?_eq_some_iff.1 hx).1; omega
 obtain ⟨r0, r1⟩ := hr;(repeat' (first |refine qv ?_ |apply qn |refine Fl.nil (fun _ => by kernel_rfl) ?_ |apply qs |apply qr |refine qe ?_ |refine Fl.skip rfl rfl ?_ |refine AWP.condF rfl ?_ |(refine AWP.condD rfl ?_ ?_ <;> intro _ <;> try (exfalso; omega)) |apply qb |refine qK ?_ |refine Fl.rel rfl rfl rfl rfl rfl rfl rfl rfl (by omega) (by first | omega | (simp; omega)) ?_ |(refine Fl.splitD rfl rfl ?_ ?_ <;> intro _ <;> try (exfalso; omega))));refine Fl.ncR rfl rfl rfl rfl ?_;refine Fl.rldK rfl rfl rfl rfl rfl rfl rfl (fun _ => rfl) (fun _ => rfl) hv ?_;(repeat' (first |refine qv ?_ |apply qn |apply qs |apply qr |refine qe ?_ |(refine AWP.condD rfl ?_ ?_ <;> intro _ <;> try (exfalso; omega)) |apply qk |apply qt))
 ·rename_i h;rw [if_pos h];exact ⟨⟨[], _, _, Ent.refl _ _ _, rfl, AV.Le.refl _, rfl, ⟨⟨⟨_, rfl, BLe.cells (LeL.refl _)⟩, rfl⟩, ⟨⟨_, rfl, BLe.row rfl⟩, rfl⟩, trivial⟩, rfl, rfl⟩⟩
 ·rename_i h;rw [if_neg h];exact ⟨⟨[], _, _, Ent.refl _ _ _, rfl, AV.Le.refl _, rfl, ⟨⟨⟨_, rfl, BLe.cells (LeL.refl _)⟩, rfl⟩, ⟨⟨_, rfl, BLe.row rfl⟩, rfl⟩, trivial⟩, rfl, rfl⟩⟩
end Go.Proofs.YtmmfloplhopioaaGreat
/- The system of a machine and an input: its links; that they hold is the history's equations. Plain. -/
namespace Go.AL
abbrev addZ (m : MZ) (x : List Int) : Int := m.l + sumL x
abbrev LkU := Int × List (List UT)
def hsA (m : MZ) (x : List Int) : List LkU := [(2, [conU m.V 2, sumsU [] [varU m.V 0, conU m.V (addZ m x)], varU m.V 1]), (2, [hsQ m.V, sumsU [] [varU m.V 0, conU m.V 1], hsAll m.V]), (0, [subL (varU m.V 2) (hsSum m.V (fun _ => true) 0 m.code (conU m.V 0))])]
def hsB (m : MZ) (i : Nat) : LkU := (3, [varU m.V (3 + i), varU m.V 2])
def hsC (m : MZ) : List LkU := [(3, [conU m.V 1, varU m.V 3]), (2, [hsQ m.V, varU m.V 0, hsSum m.V (fun x => decide (x.op = 3)) 0 m.code (conU m.V 0)])]
def hsD (m : MZ) (j : Nat) : LkU := (3, [varU m.V (3 + m.l + j), mulsU (conU m.V 1) [subL (varU m.V 1) (conU m.V 1), varU m.V 2]])
def hsHere (m : MZ) (i : Nat) : List UT := mulsU (conU m.V 1) [hsQ m.V, varU m.V (3 + i)]
def hsJmp (m : MZ) (x : IZ) : List UT := subL (sumsU [] [varU m.V (3 + x.nx.toNat), mulsU (conU m.V 1) [hsQ m.V, varU m.V 2]]) (mulsU (conU m.V 1) [conU m.V 2, varU m.V (3 + m.l + x.rg.toNat)])
def hsGo (m : MZ) (i : Nat) (x : IZ) : List LkU :=
  if x.op = 3 then [] else if x.op = 2 ∧ x.zr ≠ x.nx then [(3, [hsHere m i, sumsU [] [varU m.V (3 + x.nx.toNat), varU m.V (3 + x.zr.toNat)]]), (3, [hsHere m i, hsJmp m x])] else [(3, [hsHere m i, varU m.V (3 + x.nx.toNat)])]
def hsDoes (m : MZ) (op : Int) (j : Nat) : List UT := mulsU (conU m.V 1) [hsQ m.V, hsSum m.V (fun x => decide (x.op = op) && decide (x.rg = j)) 0 m.code (conU m.V 0)]
def hsL (m : MZ) (j : Nat) : List UT := sumsU [] [varU m.V (3 + m.l + j), mulsU (conU m.V 1) [varU m.V (3 + m.l + m.R + j), hsAll m.V]]
def hsR0 (m : MZ) (x : List Int) (j : Nat) : List UT := sumsU [] [conU m.V (x.getD j 0), mulsU (conU m.V 1) [hsQ m.V, varU m.V (3 + m.l + j)], hsDoes m 0 j]
def hsF (m : MZ) (x : List Int) (j : Nat) : LkU := (0, [subL (hsL m j) (subL (hsR0 m x j) (hsDoes m 1 j))])
def hsK (m : MZ) (x : List Int) : List LkU := hsA m x ++ (List.range m.l).map (hsB m) ++ hsC m ++ (List.range m.R).map (hsD m) ++ (List.range m.l).flatMap (fun i => hsGo m i (m.at i)) ++ (List.range m.R).map (hsF m x)
def hsS (m : MZ) (x : List Int) : SZ := ⟨m.V, (hsK m x).map fun s => linkU m.V s.1 s.2⟩
/-! sizes -/
theorem OkMZ.V6 {m : MZ} (h : OkMZ m) : 6 ≤ m.V := by
 have := h.l1;have := h.r1;show 6 ≤ 3 + m.code.length + 2 * m.regs.toNat;have : 1 ≤ m.code.length := h.l1;omega
theorem sumL_in : ∀ {l : List Int}, (∀ n ∈ l, 0 ≤ n ∧ n ≤ 1000) → 0 ≤ sumL l ∧ sumL l ≤ 1000 * l.length
 | [], _ => by simp [sumL]
 | x :: l, h => by
  have := sumL_in (l := l) fun n hn => h n (by simp [hn]);have := h x (by simp);simp only [sumL, List.length_cons];omega
theorem addZ_b {m : MZ} {x : List Int} (ok : OkMZ m) (hx : OkIn m x) : 1 ≤ addZ m x ∧ addZ m x ≤ 4015 ∧ (m.l : Int) ≤ addZ m x := by
 obtain ⟨h1, h2⟩ := sumL_in hx.2;have e := hx.1;have := ok.l1;have := ok.l15;have := ok.r4
 have hR : m.R ≤ 4 := by show m.regs.toNat ≤ 4; omega
 show 1 ≤ (m.l : Int) + sumL x ∧ (m.l : Int) + sumL x ≤ 4015 ∧ (m.l : Int) ≤ (m.l : Int) + sumL x;rw [e] at h2;omega
section
variable {m : MZ} {x : List Int}
theorem sz_here (ok : OkMZ m) {i : Nat} (hi : i < m.l) : SzU m.V 2 2 1 (hsHere m i) := by
 have a := (hsQ_sz ok.V6).1;have b := SzU.var (V := m.V) (i := 3 + i) (by show 3 + i < 3 + m.l + 2 * m.R; omega);unfold hsHere;rw [muls2 a];exact (a.mul b).mono (by omega) (by decide) (by omega)
theorem sz_sum (ok : OkMZ m) (c : IZ → Bool) : SzU m.V 1 15 16 (hsSum m.V c 0 m.code (conU m.V 0)) := (hsSum0_sz c).mono (by omega) ok.l15 (by have := ok.l15; omega)
theorem sz_does (ok : OkMZ m) (op : Int) (j : Nat) : SzU m.V 2 30 16 (hsDoes m op j) := by
 have a := (hsQ_sz ok.V6).1;have b := sz_sum ok (fun x => decide (x.op = op) && decide (x.rg = j));unfold hsDoes;rw [muls2 a];exact (a.mul b).mono (by omega) (by decide) (by omega)
theorem sz_L (ok : OkMZ m) {j : Nat} (hj : j < m.R) : SzU m.V 3 5 4 (hsL m j) ∧ SzU m.V 3 4 3 (mulsU (conU m.V 1) [varU m.V (3 + m.l + m.R + j), hsAll m.V]) := by
 have a := SzU.var (V := m.V) (i := 3 + m.l + j) (by show 3 + m.l + j < 3 + m.l + 2 * m.R; omega);have b := SzU.var (V := m.V) (i := 3 + m.l + m.R + j) (by show 3 + m.l + m.R + j < 3 + m.l + 2 * m.R; omega);have c := (hsAll_sz ok.V6).1
 have d : SzU m.V 3 4 3 (mulsU (conU m.V 1) [varU m.V (3 + m.l + m.R + j), hsAll m.V]) := by
  rw [muls2 b]; exact (b.mul c).mono (by omega) (by decide) (by omega)
 refine ⟨?_, d⟩;unfold hsL;rw [sums2 a d];exact (a.add d).mono (by omega) (by decide) (by omega)
theorem getD_in (hx : OkIn m x) (j : Nat) : 0 ≤ x.getD j 0 ∧ x.getD j 0 ≤ 1000 := by
 rw [List.getD_eq_getElem?_getD]
 cases h : x[j]? with
 | none => simp
 | some n => exact hx.2 n (List.mem_of_getElem? h)
theorem sz_R0 (ok : OkMZ m) (hx : OkIn m x) {j : Nat} (hj : j < m.R) : SzU m.V 2 3000 48 (hsR0 m x j) ∧ okSums m.V [] [conU m.V (x.getD j 0), mulsU (conU m.V 1) [hsQ m.V, varU m.V (3 + m.l + j)], hsDoes m 0 j] = true ∧ SzU m.V 2 2 1 (mulsU (conU m.V 1) [hsQ m.V, varU m.V (3 + m.l + j)]) := by
 have hb := getD_in hx j;have a := (SzU.con m.V (x.getD j 0)).mono (d' := 2) (c' := 1000) (n' := 16) (by omega) (by omega) (by omega);have q := (hsQ_sz ok.V6).1;have v := SzU.var (V := m.V) (i := 3 + m.l + j) (by show 3 + m.l + j < 3 + m.l + 2 * m.R; omega)
 have b : SzU m.V 2 2 1 (mulsU (conU m.V 1) [hsQ m.V, varU m.V (3 + m.l + j)]) := by
  rw [muls2 q]; exact (q.mul v).mono (by omega) (by decide) (by omega)
 have d := sz_does ok 0 j
 obtain ⟨k1, k2⟩ := okSums_sz (V := m.V) (d := 2) (cp := 1000) (np := 16) (by omega) [conU m.V (x.getD j 0), mulsU (conU m.V 1) [hsQ m.V, varU m.V (3 + m.l + j)], hsDoes m 0 j] ((SzU.nil m.V).mono (d' := 2) (c' := 0) (n' := 0) (by omega) (by omega) (by omega)) (fun p hp => by
  simp only [List.mem_cons, List.not_mem_nil, or_false] at hp;rcases hp with rfl | rfl | rfl
  ·exact a
  ·exact b.mono (by omega) (by omega) (by omega)
  ·exact d.mono (by omega) (by omega) (by omega)) (by simp only [List.length_cons, List.length_nil]; omega) (by simp only [List.length_cons, List.length_nil]; omega)
 exact ⟨k2.mono (by omega) (by simp only [List.length_cons, List.length_nil]; omega) (by simp only [List.length_cons, List.length_nil]; omega), k1, b⟩
def SmLk (V : Nat) (s : LkU) : Prop := needI s.1 ≠ 0 ∧ (s.2.length : Int) = needI s.1 ∧ ∀ p ∈ s.2, SzU V 4 10000 200 p
theorem SmLk.of {V : Nat} {kind : Int} {ls : List (List UT)} (h1 : needI kind ≠ 0) (h2 : (ls.length : Int) = needI kind) (h : ∀ p ∈ ls, SzU V 4 10000 200 p) : SmLk V (kind, ls) := ⟨h1, h2, h⟩
theorem SzU.big {V d c n : Nat} {p : List UT} (h : SzU V d c n p) (h1 : d ≤ 4) (h2 : c ≤ 10000) (h3 : n ≤ 200) : SzU V 4 10000 200 p := h.mono h1 h2 h3
theorem hsK_sm (ok : OkMZ m) (hx : OkIn m x) : ∀ s ∈ hsK m x, SmLk m.V s := by
 obtain ⟨s1, s2, s3⟩ := addZ_b ok hx;have hV6 := ok.V6;have v := fun (i : Nat) (hi : i < m.V) => (SzU.var (V := m.V) hi).big (by omega) (by omega) (by omega);have q := (hsQ_sz hV6).1;have al := (hsAll_sz hV6).1;have hVe : m.V = 3 + m.l + 2 * m.R := rfl
 have sadd : ∀ k : Int, 0 ≤ k → k ≤ 5000 → SzU m.V 4 10000 200 (sumsU [] [varU m.V 0, conU m.V k]) := fun k k0 k1 => by
  have a := SzU.var (V := m.V) (i := 0) (by omega);have b := SzU.con m.V k;rw [sums2 a b];exact (a.add b).big (by omega) (by omega) (by omega)
 intro l hl;simp only [hsK, List.mem_append, List.mem_map, List.mem_flatMap, List.mem_range] at hl;rcases hl with ((((hl | ⟨i, hi, rfl⟩) | hl) | ⟨j, hj, rfl⟩) | ⟨i, hi, hl⟩) | ⟨j, hj, rfl⟩
 ·simp only [hsA, List.mem_cons, List.not_mem_nil, or_false] at hl;rcases hl with rfl | rfl | rfl
  ·refine SmLk.of (by decide) rfl ?_;simp only [List.forall_mem_cons];exact ⟨(SzU.con m.V 2).big (by omega) (by decide) (by omega), sadd _ (by omega) (by omega), v 1 (by omega), by simp⟩
  ·refine SmLk.of (by decide) rfl ?_;simp only [List.forall_mem_cons];exact ⟨q.big (by omega) (by omega) (by omega), sadd 1 (by omega) (by omega), al.big (by omega) (by omega) (by omega), by simp⟩
  ·refine SmLk.of (by decide) rfl ?_;simp only [List.forall_mem_cons];exact ⟨((SzU.var (V := m.V) (i := 2) (by omega)).sub (sz_sum ok _)).big (by omega) (by omega) (by omega), by simp⟩
 ·unfold hsB;refine SmLk.of (by decide) rfl ?_;simp only [List.forall_mem_cons];exact ⟨v _ (by omega), v 2 (by omega), by simp⟩
 ·simp only [hsC, List.mem_cons, List.not_mem_nil, or_false] at hl;rcases hl with rfl | rfl
  ·refine SmLk.of (by decide) rfl ?_;simp only [List.forall_mem_cons];exact ⟨(SzU.con m.V 1).big (by omega) (by decide) (by omega), v 3 (by omega), by simp⟩
  ·refine SmLk.of (by decide) rfl ?_;simp only [List.forall_mem_cons];exact ⟨q.big (by omega) (by omega) (by omega), v 0 (by omega), (sz_sum ok _).big (by omega) (by omega) (by omega), by simp⟩
 ·unfold hsD;refine SmLk.of (by decide) rfl ?_;simp only [List.forall_mem_cons];have a := (SzU.var (V := m.V) (i := 1) (by omega)).sub (SzU.con m.V 1);refine ⟨v _ (by omega), ?_, by simp⟩;rw [muls2 a];exact (a.mul (SzU.var (V := m.V) (i := 2) (by omega))).big (by omega) (by decide) (by omega)
 ·have hh := (sz_here ok hi).big (by omega) (by omega) (by omega);unfold hsGo at hl;split at hl
  ·simp at hl
  ·rename_i h3;rcases ok.ins i hi with k | ⟨⟨a1, a2⟩, ⟨b1, b2⟩, k⟩
   ·rw [k] at h3; exact absurd rfl h3
   have hR : ((m.R : Nat) : Int) = m.regs := by have := ok.r1; show ((m.regs.toNat : Nat) : Int) = _; omega
   split at hl
   ·rename_i h2
    have hz : 0 ≤ (m.at i).zr ∧ (m.at i).zr < m.l := by
     rcases k with k | k
     ·exact ⟨k.2.1, k.2.2.1⟩
     ·omega
    simp only [List.mem_cons, List.not_mem_nil, or_false] at hl;have vn := SzU.var (V := m.V) (i := 3 + (m.at i).nx.toNat) (by omega);have vz := SzU.var (V := m.V) (i := 3 + (m.at i).zr.toNat) (by omega);have vr := SzU.var (V := m.V) (i := 3 + m.l + (m.at i).rg.toNat) (by omega);have v2 := SzU.var (V := m.V) (i := 2) (by omega);rcases hl with rfl | rfl
    ·refine SmLk.of (by decide) rfl ?_;simp only [List.forall_mem_cons];refine ⟨hh, ?_, by simp⟩;rw [sums2 vn vz];exact (vn.add vz).big (by omega) (by omega) (by omega)
    ·refine SmLk.of (by decide) rfl ?_;simp only [List.forall_mem_cons];refine ⟨hh, ?_, by simp⟩;have e1 := q.mul v2;have e2 := (SzU.con m.V 2).mul vr;unfold hsJmp;rw [muls2 q, muls2 (SzU.con m.V 2), sums2 vn e1];exact ((vn.add e1).sub e2).big (by omega) (by decide) (by omega)
   ·simp only [List.mem_cons, List.not_mem_nil, or_false] at hl;subst hl;refine SmLk.of (by decide) rfl ?_;simp only [List.forall_mem_cons];exact ⟨hh, v _ (by omega), by simp⟩
 ·unfold hsF;refine SmLk.of (by decide) rfl ?_;simp only [List.forall_mem_cons];exact ⟨((sz_L ok hj).1.sub ((sz_R0 ok hx hj).1.sub (sz_does ok 1 j))).big (by omega) (by omega) (by omega), by simp⟩
theorem SmLk.ok {V : Nat} (hV : V ≤ 32) {s : LkU} (h : SmLk V s) : OkL V (linkU V s.1 s.2) ∧ WL (linkU V s.1 s.2) := by
 have := linkU_sz hV (by omega) (by decide) (by omega) h.1 h.2.1 h.2.2;exact ⟨this.1, this.2.1⟩
theorem hsS_w (ok : OkMZ m) (hx : OkIn m x) : WS (hsS m x) := fun l hl => by
 obtain ⟨s, hs, rfl⟩ := List.mem_map.1 hl;exact ((hsK_sm ok hx s hs).ok (by have := ok.V32; omega)).2
end
end Go.AL

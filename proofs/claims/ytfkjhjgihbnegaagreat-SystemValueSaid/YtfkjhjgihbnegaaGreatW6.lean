/- Part 6 of a proof layer and of the contracts of the functions (XP9 XPA XPB XPC XPD XPE XPF XPG XL0 XL1 XL2 XL3 XL4 XL5 XL6 XL7). -/
import Derived.Test.YtfkjhjgihbnegaaGreatW5
set_option linter.unusedVariables false
set_option linter.unusedSimpArgs false
/- The same of a row that is still written. -/
namespace Go.AL
open Go.ChangeMaps (setBlock)
section
variable {P : Program} {tab : Tab} {n : Nat} {s : St}
/-- the same, s a growing row -/
theorem AWP.arrCopyR [f : Facts P tab] {I : List Id} {Q : Exit → St → Prop} {id : Nat} {o1 o2 o3 : Oper} {d1 d2 d3 : Tmp} {t e t1 t2 : TypeId} {x y : Operand} (h1 : o1.op = .slice t x none none none) (g1 : o1.guard = none) (e1 : o1.dst = some d1) (l1 : Nat.blt d1 n = true) (h2 : o2.op = .move y) (g2 : o2.guard = none) (e2 : o2.dst = some d2) (l2 : Nat.blt d2 n = true) (h3 : o3.op = .call { callee := .builtin .copy, args := ⟨[.tmp d1, .tmp d2]⟩, argTypes := ⟨[t1, t2]⟩ }) (g3 : o3.guard = none) (e3 : o3.dst = some d3) (l3 : Nat.blt d3 n = true) (hne : Nat.beq d1 d2 = false)
    {N sz' by' sz2 by2 : Nat} {z' z2 : List Value} (hts : tab t = some ⟨.array N e, sz', by', z'⟩) (hts1 : tab t1 = some ⟨.slice e, sz2, by2, z2⟩) {i : TI} (hti : tab e = some i) (hi1 : Nat.beq i.size 1 = true) {b : Id} (hx : opd s x = .ptr b 0) {cs : List AV} {bt : TypeId} (hb : s.bx b = some (.cells cs bt)) (hN : Nat.beq cs.length N = true) (hNm : Nat.ble N 1000000 = true) (hN0 : Nat.blt 0 N = true) {α : Type} {enc : α → List AV} {ys : List α} {r2 : Id} {bt2 : TypeId} (hy : opd s y = .row r2) (hb2 : s.bx r2 = some (.row 1 enc ys bt2)) (hyd : y ≠ .tmp d1) (hone : ∀ y, allOne (enc y) = true) (hel : ∀ y, (enc y).length = 1) (hl : ys.length ≤ N) {cs' : List AV} (hcs : ys.flatMap enc ++ cs.drop ys.length = cs')
    (q : Q .normal ((Eff.mk .any [(b, .cells cs' bt)] [] [] [b]).app (some d3) ((Eff.mk (.row r2) [] [] [] []).app (some d2) ((Eff.mk .any [] [] [] []).app (some d1) s)))) : AWP P n I (.region id ⟨[o1, o2, o3]⟩ false) Q s := by
  subst hcs
  have hi1 := Nat.eq_of_beq_eq_true hi1
  have hN := Nat.eq_of_beq_eq_true hN
  have hNm := Nat.le_of_ble_eq_true hNm
  have hN0 := ltOf hN0
  have hd12 : d1 ≠ d2 := fun e => by rw [e, Nat.beq_refl] at hne; cases hne
  refine ⟨fun C a w hp β hi k => ?_⟩
  refine wp_region ?_
  have hrg : List.range (Array.size ⟨[o1, o2, o3]⟩) = [0, 1, 2] := rfl
  rw [hrg]
  refine wpOps_cons (ops := ⟨[o1, o2, o3]⟩) (i := 0) (o := o1) rfl g1 ?_
  have hxr := opd_rep k x
  rw [hx] at hxr
  simp only [Rep] at hxr
  obtain ⟨g, b1, b2⟩ := hxr
  have hu := (f.tabOk _ _ hts).und
  simp only at hu
  have hu1 := (f.tabOk _ _ hts1).und
  simp only at hu1
  have hd1 : d1 < n := ltOf l1
  have hd2 : d2 < n := ltOf l2
  have hr1 : (execOp a.eval o1).run P w = .ok (.value (.slice (some ⟨g, 0, none⟩) N N)) w := by
    have hN0' : ¬ N = 0 := by omega
    simp only [execOp, h1, b2, Option.map_none, Instr.sliceAt, Instr.sureAddr, Sem.run_bind, run_underlying hu, Result.andThen, Instr.sliceBounds, Sem.run_pure, size_ok (f.tabOk _ _ hti), Nat.zero_mul, Addr.add, if_true, Nat.sub_zero, if_neg hN0']
  unfold Oper.wp
  rw [hr1]
  simp only [Oper.upon, e1]
  have k1 := k.val (some d1) (fun t ht => by injection ht with ht; subst ht; exact hd1) (v := .any) (u := .slice (some ⟨g, 0, none⟩) N N) (by simp only [Rep]) []
  refine wpOps_cons (ops := ⟨[o1, o2, o3]⟩) (i := 1) (o := o2) rfl g2 ?_
  have hys : opd ((Eff.mk AV.any [] [] [] []).app (some d1) s) y = .row r2 := by
    rw [← hy]
    refine opd_tmp fun t ht => ?_
    simp only [Eff.app]
    exact putE_ne _ _ _ _ (fun h => hyd (by injection h with h; rw [ht, h]))
  have hyr := opd_rep k1 y
  rw [hys] at hyr
  have hr2 : (execOp (a.put (some d1) (.slice (some ⟨g, 0, none⟩) N N)).eval o2).run P w = .ok (.value ((a.put (some d1) (.slice (some ⟨g, 0, none⟩) N N)).eval y)) w := by
    simp only [execOp, h2, Sem.run_pure]
  unfold Oper.wp
  rw [hr2]
  simp only [Oper.upon, e2]
  have k2 := k1.val (some d2) (fun t ht => by injection ht with ht; subst ht; exact hd2) (v := .row r2) hyr []
  generalize hyv : (a.put (some d1) (.slice (some ⟨g, 0, none⟩) N N)).eval y = yv at hyr k2 ⊢
  refine wpOps_cons (ops := ⟨[o1, o2, o3]⟩) (i := 2) (o := o3) rfl g3 ?_
  have hsz : d1 < a.tmps.size ∧ d2 < a.tmps.size := by rw [k.size]; exact ⟨hd1, hd2⟩
  have ev1 : ((a.put (some d1) (.slice (some ⟨g, 0, none⟩) N N)).put (some d2) yv).eval (.tmp d1) = .slice (some ⟨g, 0, none⟩) N N := by
    simp [Act.eval, Act.put, Array.getElem?_setIfInBounds, hsz.1, Ne.symm hd12]
  have ev2 : ((a.put (some d1) (.slice (some ⟨g, 0, none⟩) N N)).put (some d2) yv).eval (.tmp d2) = yv := by
    simp [Act.eval, Act.put, hsz.2]
  have hb3 : ((Eff.mk (.row r2) [] [] [] []).app (some d2) ((Eff.mk AV.any [] [] [] []).app (some d1) s)).bx b = some (.cells cs bt) := hb
  obtain ⟨g', us, b3, hh, hr, hnone⟩ := k2.box b _ hb3
  rw [b1] at b3; injection b3 with b3; injection b3 with b3; injection b3 with b3; injection b3 with b3; subst b3
  have hul : us.size = N := by rw [← Array.length_toList, hr.length, hN]
  have his : (P.info? e).map (·.size) = some 1 := by
    obtain ⟨inf, zv, i1, i2, _⟩ := (f.tabOk e i hti).info
    rw [i1]; simp [i2, hi1]
  simp only [Rep] at hyr
  obtain ⟨v2, vals, e4, ⟨hvl, hown⟩, hrv, hsz2, hno2⟩ := k2.box r2 _ (show _ = some (.row 1 enc ys bt2) from hb2)
  have hyv2 : yv = v2 := by
    have := hyr.1
    rw [e4] at this; injection this with this; exact this.symm
  obtain ⟨B, cB, hv2, hcells⟩ : ∃ B cB, yv = .slice B ys.length cB ∧ (ys ≠ [] → ∃ adB, B = some adB ∧ ∀ (j : Nat) (u : Value), vals[j]? = some u → w.cell? (adB.add j) = some u) := by
    rw [hyv2]
    rcases hown with ⟨h1, h2⟩ | ⟨g2, cap, cur, h1, h2, h3, h4, h5, h6, h7⟩
    · have hy0 : ys = [] := List.eq_nil_of_length_eq_zero h2
      subst hy0
      exact ⟨none, 0, h1, fun h => absurd rfl h⟩
    · refine ⟨_, _, h1, fun _ => ⟨_, rfl, fun j u hu => ?_⟩⟩
      have hadd : (⟨g2, 0, none⟩ : Addr).add j = ⟨g2, j, none⟩ := by unfold Addr.add; split <;> simp_all
      rw [hadd]
      rw [← h7, List.getElem?_take] at hu
      split at hu
      · simp only [World.cell?, h3]
        rw [← Array.getElem?_toList]; simpa using hu
      · cases hu
  subst hv2
  have key : ∃ (r : Int) (w' : World) (us' : Array Value), (Builtin.copy_ #[t1, t2] o3.type #[.slice (some ⟨g, 0, none⟩) N N, .slice B ys.length cB]).run P w = .ok (goInt r) w' ∧ w'.os = w.os ∧ w'.tape = w.tape ∧ (w'.output = w.output ∧ w.drawn ≤ w'.drawn) ∧ w'.heap.size = w.heap.size ∧
      (∀ j, j ≠ g → w'.heap[j]? = w.heap[j]?) ∧ w'.heap[g]? = some (.cells us' bt (0, 0)) ∧ RepL hp β (ys.flatMap enc ++ cs.drop ys.length) us'.toList := by
    by_cases hy0 : ys = []
    · subst hy0
      exact ⟨0, w, us, run_copy_none w t1 t2 o3.type e _ B N N 0 cB hu1 his (by simp [Nat.min_def]), rfl, rfl, ⟨rfl, Nat.le_refl _⟩, rfl, fun _ _ => rfl, hh, by simpa using hr⟩
    · have hyp : 0 < ys.length := List.length_pos_iff.2 hy0
      obtain ⟨adB, eB, hcl⟩ := hcells hy0
      subst eB
      have hmn : Nat.min ys.length N = min ys.length N := rfl
      have hnl : vals.length = Nat.min ys.length N := by rw [hvl, hmn]; omega
      have hrun := run_copy_row (P := P) w t1 t2 o3.type e g 0 N N adB ys.length cB us bt vals hu1 his hh hnl (fun j u hu => by
        exact hcl j u hu) (by rw [hnl, hmn]; omega) (flat_one hone _ vals hrv)
      refine ⟨_, w.setRow g (us.toList.take 0 ++ vals ++ us.toList.drop (0 + vals.length)).toArray, _, hrun, rfl, rfl, ⟨rfl, Nat.le_refl _⟩, by simp, fun j hj => setRow_other w g j _ (fun q => hj q), setRow_heap w g us _ bt _ hh, ?_⟩
      simp only [List.take_zero, List.nil_append, Nat.zero_add]
      rw [show vals.length = ys.length by rw [hnl, hmn]; omega]
      exact (hrv.mono (Hp.le.refl _) (noB_le β)).append (hr.drop _)
  obtain ⟨r, w', us', hrun, q1, q2, q3, q4, q5, q6, q7⟩ := key
  have hex : (execOp ((a.put (some d1) (.slice (some ⟨g, 0, none⟩) N N)).put (some d2) (.slice B ys.length cB)).eval o3).run P w = .ok (.value (goInt r)) w' := by
    simp only [execOp, h3, resolve, invoke, builtin, Sem.run_bind, Sem.run_pure, Result.andThen, List.map_toArray, List.map_cons, List.map_nil, ev1, ev2]
    rw [show (Builtin.copy_ { toList := [t1, t2] } o3.type { toList := [.slice (some ⟨g, 0, none⟩) N N, .slice B ys.length cB] }).run P w = .ok (goInt r) w' from hrun]
  unfold Oper.wp
  rw [hex]
  simp only [Oper.upon, e3, wpOps]
  exact ⟨_, hp, β, k2.setbox (B' := .cells (ys.flatMap enc ++ cs.drop ys.length) bt) (w' := w') hb3 q1 q2 q3 q4 (fun j hj => q5 j (fun q => hj (by simp [b1, blk, q]))) ⟨g, us', b1, q6, q7, hnone⟩ ⟨g, by simp [b1, blk]⟩ (some d3) (fun t ht => by injection ht with ht; subst ht; exact ltOf l3) (v := .any) (u := goInt r) (by simp only [Rep]) [b], q⟩
end
end Go.AL
/- poly.times. -/
namespace Go.AL
def addE (a b : List Int) : List Int := List.zipWith (· + ·) a b
abbrev uM (t u : TZ) : UT := (zval t.c * zval u.c, addE t.e u.e)
def rowU (q : List TZ) (t : TZ) : List UT := q.map (uM t)
def timesU (p q : PZ) : List UT := p.terms.flatMap (rowU q.terms)
def DegOk (p q : PZ) : Prop := ∀ t u, p.terms[0]? = some t → q.terms[0]? = some u → sumL t.e + sumL u.e ≤ 120
def ProdOk (V : Nat) (p q : PZ) (r : PZ) : Prop := DegOk p q ∧ (∀ t ∈ p.terms, ∀ u ∈ q.terms, Fit (zval t.c * zval u.c)) ∧ SumOk V (timesU p q) r
theorem flatMap_take_succ {α β : Type} (f : α → List β) {l : List α} {i : Nat} {x : α} (h : l[i]? = some x) : (l.take (i + 1)).flatMap f = (l.take i).flatMap f ++ f x := by
  rw [take_snoc h]; simp
theorem addE_length {a b : List Int} (h : a.length = b.length) : (addE a b).length = a.length := by simp [addE, h]
theorem addE_get {a b : List Int} {k : Nat} {x y : Int} (ha : a[k]? = some x) (hb : b[k]? = some y) : (addE a b)[k]? = some (x + y) := by simp [addE, List.getElem?_zipWith, ha, hb]
theorem sumL_addE : ∀ {a b : List Int}, a.length = b.length → sumL (addE a b) = sumL a + sumL b
  | [], [], _ => rfl
  | [], _ :: _, h => by simp at h
  | _ :: _, [], h => by simp at h
  | x :: a, y :: b, h => by
    have := sumL_addE (a := a) (b := b) (by simpa using h)
    simp only [addE, List.zipWith_cons_cons, sumL] at this ⊢
    omega
theorem EOk.addE {a b : List Int} (ha : EOk a) (hb : EOk b) (hl : a.length = b.length) (hs : sumL a + sumL b ≤ 120) : EOk (addE a b) := by
  intro e he
  have h0 : ∀ x ∈ AL.addE a b, 0 ≤ x := by
    intro x hx
    obtain ⟨k, hk⟩ := List.mem_iff_getElem?.1 hx
    simp only [AL.addE, List.getElem?_zipWith] at hk
    split at hk
    · rename_i x1 y1 h1 h2
      injection hk with hk; subst hk
      have := ha.get h1; have := hb.get h2; omega
    · cases hk
  refine ⟨h0 e he, ?_⟩
  have h1 : ∀ (l : List Int), (∀ x ∈ l, 0 ≤ x) → ∀ x ∈ l, x ≤ sumL l := by
    intro l
    induction l with
    | nil => intro _ x hx; cases hx
    | cons y l ih =>
      intro hp x hx
      have h2 := sumL_nonneg (l := l) fun z hz => hp z (by simp [hz])
      simp only [sumL]
      rcases List.mem_cons.1 hx with rfl | hx
      · omega
      · have := ih (fun z hz => hp z (by simp [hz])) x hx
        have := hp y (by simp); omega
  have := h1 _ h0 e he
  rw [sumL_addE hl] at this; omega
theorem OkP.top {p : PZ} (hp : OkP p) {t0 : TZ} (h0 : p.terms[0]? = some t0) : ∀ (j : Nat) (t : TZ), p.terms[j]? = some t → sumL t.e ≤ sumL t0.e
  | 0, t, h => by rw [h0] at h; injection h with h; subst h; exact Int.le_refl _
  | j + 1, t, h => by
    have hj := (List.getElem?_eq_some_iff.1 h).1
    have h1 : p.terms[j]? = some (p.terms[j]'(by omega)) := List.getElem?_eq_getElem _
    have h2 := OkP.top hp h0 j _ h1
    have h3 := hp.ord j _ _ h1 h
    rw [ordI_lt] at h3
    omega
theorem OkP.topm {p : PZ} (hp : OkP p) {t0 t : TZ} (h0 : p.terms[0]? = some t0) (h : t ∈ p.terms) : sumL t.e ≤ sumL t0.e := by
  obtain ⟨j, hj⟩ := List.mem_iff_getElem?.1 h
  exact hp.top h0 j t hj
theorem timesU_ok {p q : PZ} {V : Nat} (hp : OkP p) (hq : OkP q) (hpv : p.vars = V) (hqv : q.vars = V) (hd : DegOk p q) {t u : TZ} (ht : t ∈ p.terms) (hu : u ∈ q.terms) : (addE t.e u.e).length = V ∧ EOk (addE t.e u.e) := by
  have h1 := hp.uok hpv ht
  have h2 := hq.uok hqv hu
  have hl : t.e.length = u.e.length := by rw [h1.1, h2.1]
  refine ⟨by rw [addE_length hl, h1.1], h1.2.addE h2.2 hl ?_⟩
  obtain ⟨t0, ht0⟩ : ∃ t0, p.terms[0]? = some t0 := by
    cases h : p.terms with
    | nil => rw [h] at ht; cases ht
    | cons a l => exact ⟨a, rfl⟩
  obtain ⟨u0, hu0⟩ : ∃ u0, q.terms[0]? = some u0 := by
    cases h : q.terms with
    | nil => rw [h] at hu; cases hu
    | cons a l => exact ⟨a, rfl⟩
  have := hd t0 u0 ht0 hu0
  have := hp.topm ht0 ht
  have := hq.topm hu0 hu
  omega
end Go.AL
namespace Go.Proofs.YtfkjhjgihbnegaaGreat
open Go.AL
abbrev smR (V : Int) (e : List Int) (xs : List ME) (c : Nat) : List (AL.Id × Bx) := [(900, .cells [aN V, .mp 901] 160), (901, bM xs c), (902, .row 1 eI e 3)]
theorem sAddR_io (V : Int) (xs : List ME) (clock : Nat) (c : Int) (e : List Int) (hc : Fit c) (hxs : ∀ p ∈ xs, Fit p.2.1) (he : e.length ≤ 32) (res : Res) (bx' : List (AL.Id × Bx))
    (hr1 : Fit (getM (expK e he) xs + c) → res = .ret (.tup []) ∧ bx' = smR V e (setM (expK e he) (getM (expK e he) xs + c) clock xs) (putC (expK e he) clock xs))
    (hr2 : ¬ Fit (getM (expK e he) xs + c) → res = .thr (thrown 4) ∧ bx' = smR V e xs clock) :
    IoFn Tryz.prog 128 [.ptr 900 0, aX c, .row 902] (smR V e xs clock) res bx' := by
  have hg : Fit (getM (expK e he) xs) := by
    unfold getM
    cases hf : findM (expK e he) xs 0 with
    | none => exact Fit.zero
    | some q => obtain ⟨j, p⟩ := q; exact hxs p (List.mem_of_getElem? (findM_get hf).2.1)
  have hle : match findM (expK e he) xs 0 with | some (_, p) => (aX p.2.1).Le (aX (getM (expK e he) xs)) | none => (AV.agg [aB false, .v (.slice none 0 0)]).Le (aX (getM (expK e he) xs)) := by
    unfold getM
    cases hf : findM (expK e he) xs 0 with
    | none => exact aX_zero
    | some q => exact AV.Le.refl _
  by_cases hfit : Fit (getM (expK e he) xs + c)
  · obtain ⟨rfl, rfl⟩ := hr1 hfit
    refine IoFn.of_body Tryz.func128 rfl Tryz.ntmps128 rfl rfl rfl ?_
    refine AWP.seqS ?_
    repeat' (first |refine Fl.nilF ?_ |refine AWP.region ?_ |refine Fl.b rfl rfl rfl rfl ?_ |fail)
    refine ⟨?_⟩
    refine AWP.seqS ?_
    repeat' (first |refine Fl.nilF ?_ |refine AWP.region ?_ |refine Fl.b rfl rfl rfl rfl ?_ |fail)
    refine ⟨?_⟩
    refine AWP.seq ?_
    refine AWP.arrCopyR rfl rfl rfl rfl rfl rfl rfl rfl rfl rfl rfl rfl rfl rfl rfl rfl rfl rfl rfl rfl rfl rfl rfl rfl (by intro h; cases h) (fun _ => rfl) (fun _ => rfl) (by omega) (expK_cells e he) ?_
    refine AWP.seq ?_
    repeat' (first |refine Fl.v rfl rfl rfl ?_ |refine AWP.region ?_ |fail)
    refine Fl.lookup (v := aX (getM (expK e he) xs)) rfl rfl rfl rfl rfl rfl key_law (expK e he) (AV.Le.refl _) rfl ?_ (fun _ => rfl) rfl rfl ?_
    · revert hle; generalize findM (expK e he) xs 0 = r; cases r <;> exact id
    repeat' (first |refine Fl.v rfl rfl rfl ?_ |fail)
    refine Fl.call rfl (xAdd_ret _ _ hg hc hfit) rfl rfl rfl (LeL.refl _) ?_
    skip
    refine Fl.mupd rfl rfl rfl rfl key_law (expK e he) (AV.Le.refl _) rfl (getM (expK e he) xs + c) (AV.Le.refl _) rfl rfl rfl ?_
    repeat' (first |refine Fl.v rfl rfl rfl ?_ |refine Fl.nil (fun _ => by kernel_rfl) ?_ |refine AWP.seq ?_ |refine AWP.region ?_ |fail)
    refine Fl.lookup (v := aX (getM (expK e he) xs + c)) rfl rfl rfl rfl rfl rfl key_law (expK e he) (AV.Le.refl _) rfl ?_ (fun _ => rfl) rfl rfl ?_
    · obtain ⟨j, p, h1, h2⟩ := findM_put (expK e he) (getM (expK e he) xs + c) clock xs
      rw [h1]
      exact AV.Le.of_eq (by rw [h2])
    skip
    refine Fl.call rfl (ZeroX_ok _) rfl rfl rfl (LeL.refl _) ?_
    repeat' (first |refine Fl.v rfl rfl rfl ?_ |refine Fl.nil (fun _ => by kernel_rfl) ?_ |refine AWP.region ?_ |(refine AWP.condD rfl ?_ ?_ <;> intro _ <;> try (exfalso; omega)) |refine AWP.skip ?_ |fail)
    · rename_i h0
      refine Fl.mdel rfl rfl rfl rfl key_law (expK e he) (AV.Le.refl _) rfl rfl rfl ?_
      repeat' (first |refine Fl.nil (fun _ => by kernel_rfl) ?_ |fail)
      refine ⟨⟨[], _, _, Ent.refl _ _ _, rfl, AV.Le.refl _, rfl, ⟨⟨⟨_, rfl, BLe.cells (LeL.refl _)⟩, rfl⟩, ⟨⟨_, rfl, BLe.map ?_ rfl⟩, rfl⟩, ⟨⟨_, rfl, BLe.row rfl⟩, rfl⟩, trivial⟩, rfl, rfl⟩⟩
      unfold setM; rw [if_pos h0]
    · rename_i h0
      refine ⟨⟨[], _, _, Ent.refl _ _ _, rfl, AV.Le.refl _, rfl, ⟨⟨⟨_, rfl, BLe.cells (LeL.refl _)⟩, rfl⟩, ⟨⟨_, rfl, BLe.map ?_ rfl⟩, rfl⟩, ⟨⟨_, rfl, BLe.row rfl⟩, rfl⟩, trivial⟩, rfl, rfl⟩⟩
      unfold setM; rw [if_neg h0]
  · obtain ⟨rfl, rfl⟩ := hr2 hfit
    refine IoFn.of_body Tryz.func128 rfl Tryz.ntmps128 rfl rfl rfl ?_
    refine AWP.seqS ?_
    repeat' (first |refine Fl.nilF ?_ |refine AWP.region ?_ |refine Fl.b rfl rfl rfl rfl ?_ |fail)
    refine ⟨?_⟩
    refine AWP.seqS ?_
    repeat' (first |refine Fl.nilF ?_ |refine AWP.region ?_ |refine Fl.b rfl rfl rfl rfl ?_ |fail)
    refine ⟨?_⟩
    refine AWP.seq ?_
    refine AWP.arrCopyR rfl rfl rfl rfl rfl rfl rfl rfl rfl rfl rfl rfl rfl rfl rfl rfl rfl rfl rfl rfl rfl rfl rfl rfl (by intro h; cases h) (fun _ => rfl) (fun _ => rfl) (by omega) (expK_cells e he) ?_
    refine AWP.seq ?_
    repeat' (first |refine Fl.v rfl rfl rfl ?_ |refine AWP.region ?_ |fail)
    refine Fl.lookup (v := aX (getM (expK e he) xs)) rfl rfl rfl rfl rfl rfl key_law (expK e he) (AV.Le.refl _) rfl ?_ (fun _ => rfl) rfl rfl ?_
    · revert hle; generalize findM (expK e he) xs 0 = r; cases r <;> exact id
    repeat' (first |refine Fl.v rfl rfl rfl ?_ |fail)
    exact Fl.thrC rfl [] (xAdd_thr _ _ hg hc hfit) rfl (LeL.refl _) rfl trivial rfl (fun _ => by kernel_rfl) (fun _ => rfl)
theorem sAddR_ret (V : Nat) (hV : V ≤ 32) (s : MS) (m : MOk V s.1 s.2) (u : UT) (hc : Fit u.1) (he : u.2.length = V) (hf : Fit (getM (exK u.2) s.1 + u.1)) :
    IoFn Tryz.prog 128 [.ptr 900 0, aX u.1, .row 902] (smR V u.2 s.1 s.2) (.ret (.tup [])) (smR V u.2 (stepM s u).1 (stepM s u).2) := by
  have h32 : u.2.length ≤ 32 := by omega
  rw [exK_eq h32] at hf
  exact sAddR_io V s.1 s.2 u.1 u.2 hc m.fit h32 _ _ (fun _ => ⟨rfl, by simp only [stepM, exK_eq h32]⟩) (fun h => absurd hf h)
theorem sAddR_thr (V : Nat) (hV : V ≤ 32) (s : MS) (m : MOk V s.1 s.2) (u : UT) (hc : Fit u.1) (he : u.2.length = V) (hf : ¬ Fit (getM (exK u.2) s.1 + u.1)) :
    IoFn Tryz.prog 128 [.ptr 900 0, aX u.1, .row 902] (smR V u.2 s.1 s.2) (.thr (thrown 4)) (smR V u.2 s.1 s.2) := by
  have h32 : u.2.length ≤ 32 := by omega
  rw [exK_eq h32] at hf
  exact sAddR_io V s.1 s.2 u.1 u.2 hc m.fit h32 _ _ (fun h => absurd h hf) (fun _ => ⟨rfl, rfl⟩)
end Go.Proofs.YtfkjhjgihbnegaaGreat
/- poly.times: the walk. -/
namespace Go.Proofs.YtfkjhjgihbnegaaGreat
open Go.AL

theorem set_mid {a b : List Int} {k : Nat} (v : Int) (m : Nat) (ha : a.length = k) (hb : k < b.length) (hm : m = k := by omega) : (a ++ b.drop k).set m v = a ++ ([v] ++ b.drop (k + 1)) := by
  subst hm
  rw [List.set_append_right _ _ (by omega), ha, Nat.sub_self]
  congr 1
  rw [List.drop_eq_getElem_cons hb]
  rfl
set_option maxHeartbeats 2000000 in
theorem times_io (V : Nat) (hV : V ≤ 32) (p q : PZ) (hwp : WP p) (hwq : WP q) (hp : OkP p) (hq : OkP q) (hpv : p.vars = V) (hqv : q.vars = V) (res : Res)
    (hr1 : ∀ r, ProdOk V p q r → res = .ret (aP r)) (hr2 : (¬ ∃ r, ProdOk V p q r) → res = .thr (thrown 4)) :
    IoFn Tryz.prog 96 [aP p, aP q] [] res [] := by
  have hfp : ∀ t ∈ p.terms, Fit (zval t.c) ∧ t.c = zOf (zval t.c) := fun t ht => by
    have := okZ_eq (hwp t ht) (hp.terms t ht).coef; exact ⟨this.2, this.1⟩
  have hfq : ∀ t ∈ q.terms, Fit (zval t.c) ∧ t.c = zOf (zval t.c) := fun t ht => by
    have := okZ_eq (hwq t ht) (hq.terms t ht).coef; exact ⟨this.2, this.1⟩
  have hplen := hp.len
  have hqlen := hq.len
  refine IoFn.of_body Tryz.func96 rfl Tryz.ntmps96 rfl rfl rfl ?_
  refine AWP.seqS ?_
  repeat' (first |refine Fl.nilF ?_ |refine AWP.region ?_ |refine Fl.b rfl rfl rfl rfl ?_ |fail)
  refine ⟨?_⟩
  refine AWP.seqS ?_
  repeat' (first |refine Fl.v rfl rfl rfl ?_ |refine AWP.region ?_ |fail)
  refine Fl.io rfl [(900, 710), (901, 711)] (empty_ok V) rfl rfl (LeL.cons (AV.Le.int hpv) LeL.nil) rfl trivial rfl rfl rfl rfl rfl ?_
  repeat' (first |refine Fl.v rfl rfl rfl ?_ |refine Fl.nilF ?_ |fail)
  refine ⟨?_⟩
  refine AWP.seqS ?_
  repeat' (first |refine Fl.v rfl rfl rfl ?_ |refine Fl.nilF ?_ |refine AWP.region ?_ |refine Fl.make rfl rfl rfl rfl rfl rfl rfl rfl rfl rfl eI 0 (by exact LeL.refl _) (by rfl) (by first | omega | (dsimp only; omega)) (by first | omega | (dsimp only; omega)) (by first | omega | (dsimp only; omega)) ?_ |fail)
  refine ⟨?_⟩
  refine AWP.seqJ (G := Unit) (fun _ => DegOk p q) (fun _ => St.of [] [(2, .ptr 2 0), (3, .ptr 3 0), (4, .ptr 4 0), (5, .ptr 710 0), (6, .row 712)] [(2, .cells (eP p) 45), (3, .cells (eP q) 45), (4, .cells [aN 0, .v (.slice none 0 0)] 45), (710, .cells [aN V, .mp 711] 160), (711, bM [] 0), (712, .row 1 eI (List.replicate V 0) 3)]) ?_ ?_
  · have hrep : List.replicate p.vars.toNat (0 : Int) = List.replicate V 0 := by rw [show p.vars.toNat = V by omega]
    repeat' (first |refine Fl.v rfl rfl rfl ?_ |refine Fl.nil (fun _ => by kernel_rfl) ?_ |refine AWP.seq ?_ |refine AWP.region ?_ |refine Fl.skip rfl rfl ?_ |refine AWP.condF rfl ?_ |refine AWP.skip ?_ |(refine Fl.el rfl rfl rfl rfl rfl rfl rfl rfl (by omega) (by omega) ?_; intro _ _) |(refine Fl.splitD rfl rfl ?_ ?_ <;> intro _ <;> try (exfalso; omega)) |fail)
    · rename_i h1 h2 t ht
      have ht : p.terms[0]? = some t := ht
      have hot := hp.terms t (List.mem_of_getElem? ht)
      have hb1 := hot.deg
      have hb2 := (sumL_bound hot.exps).1
      have hb3 := hot.len
      refine Fl.call rfl (degree_ok t hot.exps (by omega)) rfl rfl rfl (LeL.refl _) ?_
      repeat' (first |refine Fl.v rfl rfl rfl ?_ |(refine Fl.el rfl rfl rfl rfl rfl rfl rfl rfl (by omega) (by omega) ?_; intro _ _) |fail)
      all_goals
        rename_i u hu
        have hu : q.terms[0]? = some u := hu
        have hou := hq.terms u (List.mem_of_getElem? hu)
        have hc1 := hou.deg
        have hc2 := (sumL_bound hou.exps).1
        have hc3 := hou.len
        refine Fl.call rfl (degree_ok u hou.exps (by omega)) rfl rfl rfl (LeL.refl _) ?_
        repeat' (first |refine Fl.v rfl rfl rfl ?_ |refine Fl.nil (fun _ => by kernel_rfl) ?_ |refine AWP.region ?_ |refine Fl.w rfl rfl rfl (by first | exact True.intro | omega) ?_ |(refine AWP.condD rfl ?_ ?_ <;> intro _ <;> try (exfalso; omega)) |refine AWP.skip ?_ |fail)
      · rename_i hgt
        have e1 := hr2 (by rintro ⟨r, hdd, _⟩; have := hdd t u ht hu; omega)
        subst e1
        exact Fl.thrC rfl [] (Throw_ok 4) rfl (LeL.refl _) rfl trivial rfl (fun _ => by kernel_rfl) (fun _ => rfl)
      · rename_i hgt
        refine JoinOk.of () (fun t' u' h1' h2' => ?_) ?_
        · rw [ht] at h1'; rw [hu] at h2'; injection h1' with h1'; injection h2' with h2'; subst h1' h2'; omega
        · refine Ent.of [(712, 17)] ?_ ?_ rfl rfl
          repeat' (first | exact True.intro | refine ⟨⟨AV.Le.refl _, rfl⟩, ?_⟩ | refine ⟨⟨⟨_, rfl, BLe.cells (LeL.refl _)⟩, rfl⟩, ?_⟩ | refine ⟨⟨⟨_, rfl, BLe.row rfl⟩, rfl⟩, ?_⟩ | refine ⟨⟨⟨_, rfl, BLe.map rfl rfl⟩, rfl⟩, ?_⟩ | refine ⟨⟨⟨_, rfl, BLe.iter rfl rfl rfl rfl⟩, rfl⟩, ?_⟩ | refine ⟨⟨⟨_, rfl, BLe.iter rfl rfl ?_ rfl⟩, rfl⟩, ?_⟩ | refine ⟨⟨⟨_, rfl, BLe.row ?_⟩, rfl⟩, ?_⟩ | refine ⟨⟨⟨_, rfl, BLe.cells ?_⟩, rfl⟩, ?_⟩ | refine ⟨⟨AV.Le.int ?_, rfl⟩, ?_⟩ | refine ⟨⟨AV.Le.bool ?_, rfl⟩, ?_⟩ | refine ⟨⟨AV.Le.sl ?_, rfl⟩, ?_⟩ | refine ⟨⟨AV.Le.of_eq ?_, rfl⟩, ?_⟩ | refine ⟨⟨⟨_, rfl, BLe.map ?_ rfl⟩, rfl⟩, ?_⟩ | refine ⟨⟨⟨_, rfl, BLe.map ?_ ?_⟩, rfl⟩, ?_⟩ | fail)
          exact hrep
    · rename_i h1 h2
      refine JoinOk.of () (fun t' u' h1' h2' => ?_) ?_
      · have := (List.getElem?_eq_some_iff.1 h2').1; omega
      · refine Ent.of [(712, 17)] ?_ ?_ rfl rfl
        repeat' (first | exact True.intro | refine ⟨⟨AV.Le.refl _, rfl⟩, ?_⟩ | refine ⟨⟨⟨_, rfl, BLe.cells (LeL.refl _)⟩, rfl⟩, ?_⟩ | refine ⟨⟨⟨_, rfl, BLe.row rfl⟩, rfl⟩, ?_⟩ | refine ⟨⟨⟨_, rfl, BLe.map rfl rfl⟩, rfl⟩, ?_⟩ | refine ⟨⟨⟨_, rfl, BLe.iter rfl rfl rfl rfl⟩, rfl⟩, ?_⟩ | refine ⟨⟨⟨_, rfl, BLe.iter rfl rfl ?_ rfl⟩, rfl⟩, ?_⟩ | refine ⟨⟨⟨_, rfl, BLe.row ?_⟩, rfl⟩, ?_⟩ | refine ⟨⟨⟨_, rfl, BLe.cells ?_⟩, rfl⟩, ?_⟩ | refine ⟨⟨AV.Le.int ?_, rfl⟩, ?_⟩ | refine ⟨⟨AV.Le.bool ?_, rfl⟩, ?_⟩ | refine ⟨⟨AV.Le.sl ?_, rfl⟩, ?_⟩ | refine ⟨⟨AV.Le.of_eq ?_, rfl⟩, ?_⟩ | refine ⟨⟨⟨_, rfl, BLe.map ?_ rfl⟩, rfl⟩, ?_⟩ | refine ⟨⟨⟨_, rfl, BLe.map ?_ ?_⟩, rfl⟩, ?_⟩ | fail)
        exact hrep
    · rename_i h1
      refine JoinOk.of () (fun t' u' h1' h2' => ?_) ?_
      · have := (List.getElem?_eq_some_iff.1 h1').1; omega
      · refine Ent.of [(712, 17)] ?_ ?_ rfl rfl
        repeat' (first | exact True.intro | refine ⟨⟨AV.Le.refl _, rfl⟩, ?_⟩ | refine ⟨⟨⟨_, rfl, BLe.cells (LeL.refl _)⟩, rfl⟩, ?_⟩ | refine ⟨⟨⟨_, rfl, BLe.row rfl⟩, rfl⟩, ?_⟩ | refine ⟨⟨⟨_, rfl, BLe.map rfl rfl⟩, rfl⟩, ?_⟩ | refine ⟨⟨⟨_, rfl, BLe.iter rfl rfl rfl rfl⟩, rfl⟩, ?_⟩ | refine ⟨⟨⟨_, rfl, BLe.iter rfl rfl ?_ rfl⟩, rfl⟩, ?_⟩ | refine ⟨⟨⟨_, rfl, BLe.row ?_⟩, rfl⟩, ?_⟩ | refine ⟨⟨⟨_, rfl, BLe.cells ?_⟩, rfl⟩, ?_⟩ | refine ⟨⟨AV.Le.int ?_, rfl⟩, ?_⟩ | refine ⟨⟨AV.Le.bool ?_, rfl⟩, ?_⟩ | refine ⟨⟨AV.Le.sl ?_, rfl⟩, ?_⟩ | refine ⟨⟨AV.Le.of_eq ?_, rfl⟩, ?_⟩ | refine ⟨⟨⟨_, rfl, BLe.map ?_ rfl⟩, rfl⟩, ?_⟩ | refine ⟨⟨⟨_, rfl, BLe.map ?_ ?_⟩, rfl⟩, ?_⟩ | fail)
        exact hrep
  · intro _ hd
    repeat' (first |refine Fl.v rfl rfl rfl ?_ |refine Fl.nilF ?_ |refine AWP.seq ?_ |refine AWP.region ?_ |refine AWP.block ?_ |fail)
    have hrowU : ∀ t ∈ p.terms, UOk V (rowU q.terms t) := fun t ht u hu => by
      obtain ⟨v, hv, rfl⟩ := List.mem_map.1 hu; exact timesU_ok hp hq hpv hqv hd ht hv
    have htU : ∀ i, UOk V ((p.terms.take i).flatMap (rowU q.terms)) := fun i u hu => by
      obtain ⟨t, ht, hu⟩ := List.mem_flatMap.1 hu
      exact hrowU t (List.mem_of_mem_take ht) u hu
    refine AWP.loop (G := Nat × MS × List Int) (fun (i, s, ex) => i ≤ p.terms.length ∧ runM ((p.terms.take i).flatMap (rowU q.terms)) ([], 0) = some s ∧ ex.length = V ∧ ∀ j, j < i → ∀ t ∈ p.terms[j]?, ∀ u ∈ q.terms, Fit (zval t.c * zval u.c))
      (fun (i, s, ex) => St.of [] [(2, .ptr 2 0), (3, .ptr 3 0), (4, .ptr 4 0), (5, .ptr 710 0), (6, .row 712), (44, .sl 3 eT p.terms), (45, aN p.terms.length), (46, aN i)] [(2, .cells (eP p) 45), (3, .cells (eP q) 45), (4, .cells [aN 0, .v (.slice none 0 0)] 45), (710, .cells [aN V, .mp 711] 160), (711, bM s.1 s.2), (712, .row 1 eI ex 3)]) (fun (i, s, ex) => p.terms.length - i) (0, ([], 0), List.replicate V 0) ⟨by omega, by simp [runM], by simp, fun j hj => by omega⟩ ?_ ?_
    · refine Ent.of [] ?_ ?_ rfl rfl
      repeat' (first | exact True.intro | refine ⟨⟨AV.Le.refl _, rfl⟩, ?_⟩ | refine ⟨⟨⟨_, rfl, BLe.cells (LeL.refl _)⟩, rfl⟩, ?_⟩ | refine ⟨⟨⟨_, rfl, BLe.row rfl⟩, rfl⟩, ?_⟩ | refine ⟨⟨⟨_, rfl, BLe.map rfl rfl⟩, rfl⟩, ?_⟩ | refine ⟨⟨⟨_, rfl, BLe.iter rfl rfl rfl rfl⟩, rfl⟩, ?_⟩ | refine ⟨⟨⟨_, rfl, BLe.iter rfl rfl ?_ rfl⟩, rfl⟩, ?_⟩ | refine ⟨⟨⟨_, rfl, BLe.row ?_⟩, rfl⟩, ?_⟩ | refine ⟨⟨⟨_, rfl, BLe.cells ?_⟩, rfl⟩, ?_⟩ | refine ⟨⟨AV.Le.int ?_, rfl⟩, ?_⟩ | refine ⟨⟨AV.Le.bool ?_, rfl⟩, ?_⟩ | refine ⟨⟨AV.Le.sl ?_, rfl⟩, ?_⟩ | refine ⟨⟨AV.Le.of_eq ?_, rfl⟩, ?_⟩ | refine ⟨⟨⟨_, rfl, BLe.map ?_ rfl⟩, rfl⟩, ?_⟩ | refine ⟨⟨⟨_, rfl, BLe.map ?_ ?_⟩, rfl⟩, ?_⟩ | fail)
    · intro ⟨i, s, ex⟩ ⟨k0, k1, k2, k3⟩
      by_cases hi : i < p.terms.length
      · obtain ⟨t, ht⟩ : ∃ t, p.terms[i]? = some t := ⟨_, List.getElem?_eq_getElem hi⟩
        have htm := List.mem_of_getElem? ht
        have hot := hp.terms t htm
        repeat' (first |refine Fl.v rfl rfl rfl ?_ |refine Fl.nilF ?_ |refine AWP.seq ?_ |refine AWP.region ?_ |refine Fl.b rfl rfl rfl rfl ?_ |(refine AWP.condD rfl ?_ ?_ <;> intro _ <;> try (exfalso; omega)) |refine AWP.block ?_ |refine AWP.skip ?_ |refine Fl.elK rfl rfl rfl rfl rfl rfl rfl rfl (by assumption) (by omega) ?_ |fail)
        refine AWP.loop (G := Nat × MS × List Int) (fun (j, s', ex) => j ≤ q.terms.length ∧ runM ((rowU q.terms t).take j) s = some s' ∧ ex.length = V ∧ ∀ k, k < j → ∀ u ∈ q.terms[k]?, Fit (zval t.c * zval u.c))
          (fun (j, s', ex) => St.of [] [(2, .ptr 2 0), (3, .ptr 3 0), (4, .ptr 4 0), (5, .ptr 710 0), (6, .row 712), (44, .sl 3 eT p.terms), (45, aN p.terms.length), (46, aN i), (8, .ptr 8 0), (51, .sl 3 eT q.terms), (52, aN q.terms.length), (53, aN j)] [(2, .cells (eP p) 45), (3, .cells (eP q) 45), (4, .cells [aN 0, .v (.slice none 0 0)] 45), (710, .cells [aN V, .mp 711] 160), (711, bM s'.1 s'.2), (712, .row 1 eI ex 3), (8, .cells (eT t) 68)]) (fun (j, s', ex) => q.terms.length - j) (0, s, ex) ⟨by omega, by simp [runM], k2, fun j hj => by omega⟩ ?_ ?_
        · refine Ent.of [] ?_ ?_ rfl rfl
          repeat' (first | exact True.intro | refine ⟨⟨AV.Le.refl _, rfl⟩, ?_⟩ | refine ⟨⟨⟨_, rfl, BLe.cells (LeL.refl _)⟩, rfl⟩, ?_⟩ | refine ⟨⟨⟨_, rfl, BLe.row rfl⟩, rfl⟩, ?_⟩ | refine ⟨⟨⟨_, rfl, BLe.map rfl rfl⟩, rfl⟩, ?_⟩ | refine ⟨⟨⟨_, rfl, BLe.iter rfl rfl rfl rfl⟩, rfl⟩, ?_⟩ | refine ⟨⟨⟨_, rfl, BLe.iter rfl rfl ?_ rfl⟩, rfl⟩, ?_⟩ | refine ⟨⟨⟨_, rfl, BLe.row ?_⟩, rfl⟩, ?_⟩ | refine ⟨⟨⟨_, rfl, BLe.cells ?_⟩, rfl⟩, ?_⟩ | refine ⟨⟨AV.Le.int ?_, rfl⟩, ?_⟩ | refine ⟨⟨AV.Le.bool ?_, rfl⟩, ?_⟩ | refine ⟨⟨AV.Le.sl ?_, rfl⟩, ?_⟩ | refine ⟨⟨AV.Le.of_eq ?_, rfl⟩, ?_⟩ | refine ⟨⟨⟨_, rfl, BLe.map ?_ rfl⟩, rfl⟩, ?_⟩ | refine ⟨⟨⟨_, rfl, BLe.map ?_ ?_⟩, rfl⟩, ?_⟩ | fail)
        · intro ⟨j, s', ex'⟩ ⟨m0, m1, m2, m3⟩
          have hs1 : runM ((p.terms.take i).flatMap (rowU q.terms) ++ (rowU q.terms t).take j) ([], 0) = some s' := by rw [runM_append, k1]; exact m1
          have hmok := (runM_ok hV (MOk.nil V) (fun u hu => (List.mem_append.1 hu).elim (htU i u) (fun h => hrowU t htm u (List.mem_of_mem_take h))) hs1).1
          by_cases hj : j < q.terms.length
          · obtain ⟨u, hu⟩ : ∃ u, q.terms[j]? = some u := ⟨_, List.getElem?_eq_getElem hj⟩
            have hum := List.mem_of_getElem? hu
            have hou := hq.terms u hum
            have htl := (hp.uok hpv htm).1
            have hul := (hq.uok hqv hum).1
            have hadl : (addE t.e u.e).length = V := by rw [addE_length (by omega), htl]
            have hstop : ∀ b, timesU p q = (p.terms.take i).flatMap (rowU q.terms) ++ (rowU q.terms t).take j ++ uM t u :: ((rowU q.terms t).drop (j + 1) ++ b) → ¬ Fit (getM (exK (addE t.e u.e)) s'.1 + zval t.c * zval u.c) → ¬ ∃ r, ProdOk V p q r := by
              intro b he hf ⟨r, _, _, s2, h1, _⟩
              rw [he, runM_stop hs1 hf] at h1
              cases h1
            have hsplit : timesU p q = (p.terms.take i).flatMap (rowU q.terms) ++ (rowU q.terms t).take j ++ uM t u :: ((rowU q.terms t).drop (j + 1) ++ (p.terms.drop (i + 1)).flatMap (rowU q.terms)) := by
              have e1 : p.terms = p.terms.take i ++ t :: p.terms.drop (i + 1) := by
                have := map_split id ht
                simpa using this
              have e2 : rowU q.terms t = (rowU q.terms t).take j ++ uM t u :: (rowU q.terms t).drop (j + 1) := map_split (uM t) hu
              unfold timesU
              conv => lhs; rw [e1, List.flatMap_append, List.flatMap_cons, e2]
              simp
            repeat' (first |refine Fl.v rfl rfl rfl ?_ |refine Fl.nilF ?_ |refine AWP.seq ?_ |refine AWP.region ?_ |refine Fl.b rfl rfl rfl rfl ?_ |(refine AWP.condD rfl ?_ ?_ <;> intro _ <;> try (exfalso; omega)) |refine AWP.block ?_ |refine AWP.skip ?_ |refine Fl.elK rfl rfl rfl rfl rfl rfl rfl rfl (by assumption) (by omega) ?_ |fail)
            refine AWP.loop (G := Nat) (fun k => k ≤ V) (fun k => St.of [] [(2, .ptr 2 0), (3, .ptr 3 0), (4, .ptr 4 0), (5, .ptr 710 0), (6, .row 712), (44, .sl 3 eT p.terms), (45, aN p.terms.length), (46, aN i), (8, .ptr 8 0), (51, .sl 3 eT q.terms), (52, aN q.terms.length), (53, aN j), (10, .ptr 10 0), (58, aN V), (59, aN k)] [(2, .cells (eP p) 45), (3, .cells (eP q) 45), (4, .cells [aN 0, .v (.slice none 0 0)] 45), (710, .cells [aN V, .mp 711] 160), (711, bM s'.1 s'.2), (712, .row 1 eI ((addE t.e u.e).take k ++ ex'.drop k) 3), (8, .cells (eT t) 68), (10, .cells (eT u) 68)]) (fun k => V - k) 0 (by omega) ?_ ?_
            · refine Ent.of [] ?_ ?_ rfl rfl
              repeat' (first | exact True.intro | refine ⟨⟨AV.Le.refl _, rfl⟩, ?_⟩ | refine ⟨⟨⟨_, rfl, BLe.cells (LeL.refl _)⟩, rfl⟩, ?_⟩ | refine ⟨⟨⟨_, rfl, BLe.row rfl⟩, rfl⟩, ?_⟩ | refine ⟨⟨⟨_, rfl, BLe.map rfl rfl⟩, rfl⟩, ?_⟩ | refine ⟨⟨⟨_, rfl, BLe.iter rfl rfl rfl rfl⟩, rfl⟩, ?_⟩ | refine ⟨⟨⟨_, rfl, BLe.iter rfl rfl ?_ rfl⟩, rfl⟩, ?_⟩ | refine ⟨⟨⟨_, rfl, BLe.row ?_⟩, rfl⟩, ?_⟩ | refine ⟨⟨⟨_, rfl, BLe.cells ?_⟩, rfl⟩, ?_⟩ | refine ⟨⟨AV.Le.int ?_, rfl⟩, ?_⟩ | refine ⟨⟨AV.Le.bool ?_, rfl⟩, ?_⟩ | refine ⟨⟨AV.Le.sl ?_, rfl⟩, ?_⟩ | refine ⟨⟨AV.Le.of_eq ?_, rfl⟩, ?_⟩ | refine ⟨⟨⟨_, rfl, BLe.map ?_ rfl⟩, rfl⟩, ?_⟩ | refine ⟨⟨⟨_, rfl, BLe.map ?_ ?_⟩, rfl⟩, ?_⟩ | fail)
              omega
            · intro k kk
              have hlk : ((addE t.e u.e).take k ++ ex'.drop k).length = V := by simp; omega
              by_cases hk : k < V
              · obtain ⟨x, hx⟩ : ∃ x, t.e[k]? = some x := ⟨_, List.getElem?_eq_getElem (by omega)⟩
                obtain ⟨y, hy⟩ : ∃ y, u.e[k]? = some y := ⟨_, List.getElem?_eq_getElem (by omega)⟩
                have hx1 := hot.exps.get hx
                have hy1 := hou.exps.get hy
                repeat' (first |refine Fl.v rfl rfl rfl ?_ |refine Fl.nilF ?_ |refine Fl.nil (fun _ => by kernel_rfl) ?_ |refine AWP.seq ?_ |refine AWP.region ?_ |refine Fl.w rfl rfl rfl (by first | exact True.intro | omega) ?_ |(refine AWP.condD rfl ?_ ?_ <;> intro _ <;> try (exfalso; omega)) |refine AWP.block ?_ |refine AWP.skip ?_ |refine Fl.elK rfl rfl rfl rfl rfl rfl rfl rfl (by assumption) (by omega) ?_ |refine Fl.rel rfl rfl rfl rfl rfl rfl rfl rfl (by omega) (by first | omega | (simp; omega)) ?_ |refine Fl.rst rfl rfl rfl rfl rfl rfl rfl rfl rfl rfl rfl (LeL.refl _) rfl (by first | omega | (simp; omega)) ?_ |fail)
                refine LoopEnd.of (k + 1) (by omega) (by omega) ?_
                refine Ent.of [] ?_ ?_ rfl rfl
                repeat' (first | exact True.intro | refine ⟨⟨AV.Le.refl _, rfl⟩, ?_⟩ | refine ⟨⟨⟨_, rfl, BLe.cells (LeL.refl _)⟩, rfl⟩, ?_⟩ | refine ⟨⟨⟨_, rfl, BLe.row rfl⟩, rfl⟩, ?_⟩ | refine ⟨⟨⟨_, rfl, BLe.map rfl rfl⟩, rfl⟩, ?_⟩ | refine ⟨⟨⟨_, rfl, BLe.iter rfl rfl rfl rfl⟩, rfl⟩, ?_⟩ | refine ⟨⟨⟨_, rfl, BLe.iter rfl rfl ?_ rfl⟩, rfl⟩, ?_⟩ | refine ⟨⟨⟨_, rfl, BLe.row ?_⟩, rfl⟩, ?_⟩ | refine ⟨⟨⟨_, rfl, BLe.cells ?_⟩, rfl⟩, ?_⟩ | refine ⟨⟨AV.Le.int ?_, rfl⟩, ?_⟩ | refine ⟨⟨AV.Le.bool ?_, rfl⟩, ?_⟩ | refine ⟨⟨AV.Le.sl ?_, rfl⟩, ?_⟩ | refine ⟨⟨AV.Le.of_eq ?_, rfl⟩, ?_⟩ | refine ⟨⟨⟨_, rfl, BLe.map ?_ rfl⟩, rfl⟩, ?_⟩ | refine ⟨⟨⟨_, rfl, BLe.map ?_ ?_⟩, rfl⟩, ?_⟩ | fail)
                have hg := addE_get hx hy
                rw [take_snoc hg, List.append_assoc]
                exact set_mid _ _ (by rw [List.length_take]; omega) (by omega)
              · have hrow : (addE t.e u.e).take k ++ ex'.drop k = addE t.e u.e := by
                  rw [List.take_of_length_le (by omega), List.drop_of_length_le (by omega), List.append_nil]
                rw [hrow]
                clear hlk hrow
                by_cases hmu : Fit (zval t.c * zval u.c)
                · by_cases hf : Fit (getM (exK (addE t.e u.e)) s'.1 + zval t.c * zval u.c)
                  · repeat' (first |refine Fl.v rfl rfl rfl ?_ |refine Fl.nilF ?_ |refine AWP.seq ?_ |refine AWP.region ?_ |(refine AWP.condD rfl ?_ ?_ <;> intro _ <;> try (exfalso; omega)) |refine AWP.exit ?_ |fail)
                    refine Fl.call rfl (xMul_ret _ _ (hfp t htm).1 (hfq u hum).1 hmu) rfl rfl rfl (LeL.cons (AV.Le.agg (leZ (σ := []) (hfp t htm).2)) (LeL.cons (AV.Le.agg (leZ (σ := []) (hfq u hum).2)) LeL.nil)) ?_
                    repeat' (first |refine Fl.v rfl rfl rfl ?_ |fail)
                    refine Fl.io rfl [(900, 710), (901, 711), (902, 712)] (sAddR_ret V hV s' hmok (uM t u) hmu hadl hf) rfl rfl (LeL.refl _) rfl ⟨⟨⟨_, rfl, BLe.cells (LeL.refl _)⟩, rfl⟩, ⟨⟨_, rfl, BLe.map rfl rfl⟩, rfl⟩, ⟨⟨_, rfl, BLe.row rfl⟩, rfl⟩, trivial⟩ rfl rfl rfl rfl rfl ?_
                    repeat' (first |refine Fl.v rfl rfl rfl ?_ |refine Fl.nilF ?_ |refine AWP.region ?_ |refine Fl.w rfl rfl rfl (by first | exact True.intro | omega) ?_ |fail)
                    refine LoopEnd.of (j + 1, stepM s' (uM t u), addE t.e u.e) ⟨by omega, by rw [show (rowU q.terms t).take (j + 1) = _ from take_map_snoc (uM t) hu]; exact runM_snoc m1 hf, hadl, fun k' hk' v hv => ?_⟩ (by simp only; omega) ?_
                    · rcases Nat.lt_succ_iff_lt_or_eq.1 hk' with h | h
                      · exact m3 k' h v hv
                      · subst h
                        rw [hu] at hv
                        injection hv with hv; subst hv; exact hmu
                    · refine Ent.of [] ?_ ?_ rfl rfl
                      repeat' (first | exact True.intro | refine ⟨⟨AV.Le.refl _, rfl⟩, ?_⟩ | refine ⟨⟨⟨_, rfl, BLe.cells (LeL.refl _)⟩, rfl⟩, ?_⟩ | refine ⟨⟨⟨_, rfl, BLe.row rfl⟩, rfl⟩, ?_⟩ | refine ⟨⟨⟨_, rfl, BLe.map rfl rfl⟩, rfl⟩, ?_⟩ | refine ⟨⟨⟨_, rfl, BLe.iter rfl rfl rfl rfl⟩, rfl⟩, ?_⟩ | refine ⟨⟨⟨_, rfl, BLe.iter rfl rfl ?_ rfl⟩, rfl⟩, ?_⟩ | refine ⟨⟨⟨_, rfl, BLe.row ?_⟩, rfl⟩, ?_⟩ | refine ⟨⟨⟨_, rfl, BLe.cells ?_⟩, rfl⟩, ?_⟩ | refine ⟨⟨AV.Le.int ?_, rfl⟩, ?_⟩ | refine ⟨⟨AV.Le.bool ?_, rfl⟩, ?_⟩ | refine ⟨⟨AV.Le.sl ?_, rfl⟩, ?_⟩ | refine ⟨⟨AV.Le.of_eq ?_, rfl⟩, ?_⟩ | refine ⟨⟨⟨_, rfl, BLe.map ?_ rfl⟩, rfl⟩, ?_⟩ | refine ⟨⟨⟨_, rfl, BLe.map ?_ ?_⟩, rfl⟩, ?_⟩ | fail)
                  · have e1 := hr2 (hstop _ hsplit hf)
                    subst e1
                    repeat' (first |refine Fl.v rfl rfl rfl ?_ |refine Fl.nilF ?_ |refine AWP.seq ?_ |refine AWP.region ?_ |(refine AWP.condD rfl ?_ ?_ <;> intro _ <;> try (exfalso; omega)) |refine AWP.exit ?_ |fail)
                    refine Fl.call rfl (xMul_ret _ _ (hfp t htm).1 (hfq u hum).1 hmu) rfl rfl rfl (LeL.cons (AV.Le.agg (leZ (σ := []) (hfp t htm).2)) (LeL.cons (AV.Le.agg (leZ (σ := []) (hfq u hum).2)) LeL.nil)) ?_
                    repeat' (first |refine Fl.v rfl rfl rfl ?_ |fail)
                    exact Fl.thrC rfl [(900, 710), (901, 711), (902, 712)] (sAddR_thr V hV s' hmok (uM t u) hmu hadl hf) rfl (LeL.refl _) rfl ⟨⟨⟨_, rfl, BLe.cells (LeL.refl _)⟩, rfl⟩, ⟨⟨_, rfl, BLe.map rfl rfl⟩, rfl⟩, ⟨⟨_, rfl, BLe.row rfl⟩, rfl⟩, trivial⟩ rfl (fun _ => by kernel_rfl) (fun _ => rfl)
                · have e1 := hr2 (by rintro ⟨r, _, hall, _⟩; exact hmu (hall t htm u hum))
                  subst e1
                  repeat' (first |refine Fl.v rfl rfl rfl ?_ |refine Fl.nilF ?_ |refine AWP.seq ?_ |refine AWP.region ?_ |(refine AWP.condD rfl ?_ ?_ <;> intro _ <;> try (exfalso; omega)) |refine AWP.exit ?_ |fail)
                  exact Fl.thrC rfl [] (xMul_thr _ _ (hfp t htm).1 (hfq u hum).1 hmu) rfl (LeL.cons (AV.Le.agg (leZ (hfp t htm).2)) (LeL.cons (AV.Le.agg (leZ (hfq u hum).2)) LeL.nil)) rfl trivial rfl (fun h => by cases h) (fun _ => rfl)
          · have hti : (rowU q.terms t).take j = rowU q.terms t := List.take_of_length_le (by simp [rowU]; omega)
            rw [hti] at m1
            repeat' (first |refine Fl.v rfl rfl rfl ?_ |refine Fl.nilF ?_ |refine AWP.seq ?_ |refine AWP.region ?_ |refine Fl.w rfl rfl rfl (by first | exact True.intro | omega) ?_ |(refine AWP.condD rfl ?_ ?_ <;> intro _ <;> try (exfalso; omega)) |refine AWP.exit ?_ |fail)
            refine LoopEnd.of (i + 1, s', ex') ⟨by omega, by rw [flatMap_take_succ _ ht, runM_append, k1]; exact m1, m2, fun j' hj' t' ht' u hu => ?_⟩ (by simp only; omega) ?_
            · rcases Nat.lt_succ_iff_lt_or_eq.1 hj' with h | h
              · exact k3 j' h t' ht' u hu
              · subst h
                rw [ht] at ht'
                injection ht' with ht'; subst ht'
                obtain ⟨k, hk⟩ := List.mem_iff_getElem?.1 hu
                exact m3 k (by have := (List.getElem?_eq_some_iff.1 hk).1; omega) u hk
            · refine Ent.of [] ?_ ?_ rfl rfl
              repeat' (first | exact True.intro | refine ⟨⟨AV.Le.refl _, rfl⟩, ?_⟩ | refine ⟨⟨⟨_, rfl, BLe.cells (LeL.refl _)⟩, rfl⟩, ?_⟩ | refine ⟨⟨⟨_, rfl, BLe.row rfl⟩, rfl⟩, ?_⟩ | refine ⟨⟨⟨_, rfl, BLe.map rfl rfl⟩, rfl⟩, ?_⟩ | refine ⟨⟨⟨_, rfl, BLe.iter rfl rfl rfl rfl⟩, rfl⟩, ?_⟩ | refine ⟨⟨⟨_, rfl, BLe.iter rfl rfl ?_ rfl⟩, rfl⟩, ?_⟩ | refine ⟨⟨⟨_, rfl, BLe.row ?_⟩, rfl⟩, ?_⟩ | refine ⟨⟨⟨_, rfl, BLe.cells ?_⟩, rfl⟩, ?_⟩ | refine ⟨⟨AV.Le.int ?_, rfl⟩, ?_⟩ | refine ⟨⟨AV.Le.bool ?_, rfl⟩, ?_⟩ | refine ⟨⟨AV.Le.sl ?_, rfl⟩, ?_⟩ | refine ⟨⟨AV.Le.of_eq ?_, rfl⟩, ?_⟩ | refine ⟨⟨⟨_, rfl, BLe.map ?_ rfl⟩, rfl⟩, ?_⟩ | refine ⟨⟨⟨_, rfl, BLe.map ?_ ?_⟩, rfl⟩, ?_⟩ | fail)
      · have hti : p.terms.take i = p.terms := List.take_of_length_le (by omega)
        rw [hti] at k1
        have hall : runM (timesU p q) ([], 0) = some s := k1
        have hprods : ∀ t ∈ p.terms, ∀ u ∈ q.terms, Fit (zval t.c * zval u.c) := fun t ht u hu => by
          obtain ⟨j, hj⟩ := List.mem_iff_getElem?.1 ht
          exact k3 j (by have := (List.getElem?_eq_some_iff.1 hj).1; omega) t hj u hu
        have hmok := runM_ok hV (MOk.nil V) (us := timesU p q) (fun u hu => by
          obtain ⟨t, ht, hu⟩ := List.mem_flatMap.1 hu
          exact hrowU t ht u hu) hall
        have hlu : (timesU p q).length ≤ 3000 * 3000 := by
          have : (timesU p q).length = p.terms.length * q.terms.length := by
            unfold timesU
            generalize p.terms = l
            induction l with
            | nil => simp
            | cons a l ih => rw [List.flatMap_cons, List.length_append, ih, List.length_cons]; simp [rowU, Nat.succ_mul]; omega
          rw [this]
          exact Nat.mul_le_mul hplen hqlen
        have hln := hmok.2
        simp only [List.length_nil] at hln
        by_cases hok : OkP ⟨V, sortT (s.1.map (tmM V))⟩
        · have e1 := hr1 _ ⟨hd, hprods, s, hall, rfl, hok⟩
          subst e1
          repeat' (first |refine Fl.v rfl rfl rfl ?_ |refine Fl.nilF ?_ |refine AWP.seq ?_ |refine AWP.region ?_ |(refine AWP.condD rfl ?_ ?_ <;> intro _ <;> try (exfalso; omega)) |refine AWP.exit ?_ |fail)
          refine Fl.io rfl [(900, 710), (901, 711)] (sPoly_io V s.1 s.2 hmok.1 hV (by omega) _ _ (fun _ => ⟨rfl, rfl⟩) (fun h => absurd hok h)) rfl rfl (LeL.refl _) rfl ⟨⟨⟨_, rfl, BLe.cells (LeL.refl _)⟩, rfl⟩, ⟨⟨_, rfl, BLe.map rfl rfl⟩, rfl⟩, trivial⟩ rfl rfl rfl rfl rfl ?_
          repeat' (first |refine Fl.nilF ?_ |refine Fl.b rfl rfl rfl rfl ?_ |refine AWP.ret ?_ |fail)
          exact ⟨⟨[], _, _, Ent.refl _ _ _, rfl, AV.Le.refl _, rfl, trivial, rfl, rfl⟩⟩
        · have e1 := hr2 (by
            rintro ⟨r, _, _, s2, h1, h2, h3⟩
            rw [hall] at h1
            injection h1 with h1
            subst h1
            exact hok (h2 ▸ h3))
          subst e1
          repeat' (first |refine Fl.v rfl rfl rfl ?_ |refine Fl.nilF ?_ |refine AWP.seq ?_ |refine AWP.region ?_ |(refine AWP.condD rfl ?_ ?_ <;> intro _ <;> try (exfalso; omega)) |refine AWP.exit ?_ |fail)
          exact Fl.thrC rfl [(900, 710), (901, 711)] (sPoly_io V s.1 s.2 hmok.1 hV (by omega) _ _ (fun h => absurd h hok) (fun _ => ⟨rfl, rfl⟩)) rfl (LeL.refl _) rfl ⟨⟨⟨_, rfl, BLe.cells (LeL.refl _)⟩, rfl⟩, ⟨⟨_, rfl, BLe.map rfl rfl⟩, rfl⟩, trivial⟩ rfl (fun _ => by kernel_rfl) (fun _ => rfl)
end Go.Proofs.YtfkjhjgihbnegaaGreat
/- poly.both, tried, Add, Mul. -/
namespace Go.AL
/-- The end of a function whose boxes are given up. -/
structure RetD1 (n : Nat) (I : List Id) (tab : Tab) (rs : List ResultVar) (r : AV) (s : St) : Prop where
  out : ∃ s' r', Ent n I s s' ∧ resA tab s' rs = some r' ∧ r'.closed = true ∧ r'.Le r
def RetD (n : Nat) (I : List Id) (tab : Tab) (rs : List ResultVar) (r : AV) : Exit → St → Prop
  | .normal, s => RetD1 n I tab rs r s
  | .ret, s => RetD1 n I tab rs r s
  | _, _ => False
theorem RetD1.of {n : Nat} {I : List Id} {tab : Tab} {rs : List ResultVar} {r r' : AV} {s : St} (h1 : resA tab s rs = some r') (h2 : r'.Le r) (hc : r'.closed = true := by rfl) : RetD1 n I tab rs r s := ⟨s, r', Ent.refl _ _ _, h1, hc, h2⟩
section
variable {P : Program} {tab : Tab} {n : Nat}
theorem IoFn.of_bodyD [f : Facts P tab] {k : FuncId} {fn : Func} {c : Code} {args : List AV} {bxs : List (Id × Bx)} {r : AV} (hf : P.funcs[k]? = some fn) (hb : fn.body = some c) (hn : fn.ntmps = n) (hname : (fn.name == "runtime.NumGoroutine") = false) (hl : Nat.ble args.length n = true)
    (h : AWP P n (idsB bxs) c (RetD n (idsB bxs) tab fn.results.toList r) (St.initB args bxs)) : IoFn P k args bxs (.ret r) [] := by
  have hl := Nat.le_of_ble_eq_true hl
  refine ⟨⟨fn, hf, hname, by rw [hb]; rfl⟩, fun w hp β us hw hbx hβn hr => ?_⟩
  refine calls_of_wp hf hb ?_
  have hus : us.size = args.length := by rw [← Array.length_toList]; exact hr.length
  have hbase : Base ⟨w, hp, β, blksOf bxs β, []⟩ n (St.initB args bxs) { tmps := us ++ Array.replicate (fn.ntmps - us.size) undef, defers := [] } w hp β := by
    refine ⟨Evo.refl _ hw, Bt.le.refl _, fun i => ?_, hbx.box, hbx.apart, fun id B g hB hg => .inl ⟨id, B, hB, hg⟩, fun id hid => hβn id (fun hm => by rw [← memI_mem] at hm; simp only [St.initB] at hid; rw [hm] at hid; cases hid), by simp; omega, rfl⟩
    simp only [St.initB]
    by_cases hi : i < us.size
    · have hget : (us ++ Array.replicate (fn.ntmps - us.size) undef).getD i undef = us[i] := by
        simp [Array.getD_eq_getD_getElem?, Array.getElem?_append, hi]
      rw [hget]
      exact initE_rep args us.toList i _ hr (by simp [hi])
    · rw [initE_any args i (by omega)]
      simp only [Rep]
  have hini : IniOk ⟨w, hp, β, blksOf bxs β, []⟩ (idsB bxs) := fun id hid => by
    rcases Classical.em (id ∈ idsB bxs) with hm | hm
    · exact hm
    · exact absurd (hβn id hm) hid
  refine wp_mono (h.out ⟨w, hp, β, blksOf bxs β, []⟩ _ w hp β hini hbase) fun e a' w' ⟨s', h', β', b, q⟩ => ?_
  have fin : RetD1 n (idsB bxs) tab fn.results.toList r s' → a'.defers = [] ∧ ∃ v, (results fn a'.tmps).run P w' = .ok v w' ∧ ∃ h' β', β.le β' ∧ Evo (blksOf bxs β) w hp w' h' ∧ ∃ u, Ending.returned v = .returned u ∧ BoxesAt w' h' β' [] ∧ Rep h' β' r u ∧ ∀ id g, id ∉ idsB bxs → blk (β' id) = some g → w.heap.size ≤ g := by
    intro hq
    obtain ⟨s2, r', hent, h1, hc, h2⟩ := hq.out
    obtain ⟨h', β', b⟩ := hent _ _ _ _ _ hini b
    obtain ⟨v, hv1, hv2⟩ := results_ok (P := P) b h1
    refine ⟨b.defers, v, hv1, h', β, Bt.le.refl _, b.evo, v, rfl, ⟨fun id B hB => by simp [lookB] at hB, fun _ _ _ _ hB => by simp [lookB] at hB⟩, h2 _ _ _ (hv2.closed _ _ hc), fun id g hid hg => ?_⟩
    rw [hβn id hid] at hg; simp [blk] at hg
  cases e with
  | normal => exact fin q
  | ret => exact fin q
  | _ => exact q.elim
end
end Go.AL
namespace Go.Proofs.YtfkjhjgihbnegaaGreat
open Go.AL

theorem aP_zero : (AV.agg [aN 0, .v (.slice none 0 0)]).Le (aP ⟨0, []⟩) := AV.Le.agg (LeL.cons (AV.Le.refl _) (LeL.cons (AV.Le.nil 3 eT) LeL.nil))
/-- the error of two polynomials -/
noncomputable def bothE (p q : PZ) : Int := @ite _ (OkP p ∧ OkP q) (Classical.propDecidable _) (if p.vars = q.vars then 0 else 2) 1
theorem bothE_bad {p q : PZ} (h : ¬ (OkP p ∧ OkP q)) : bothE p q = 1 := if_neg h
theorem bothE_ok {p q : PZ} (h1 : OkP p) (h2 : OkP q) : bothE p q = if p.vars = q.vars then 0 else 2 := if_pos ⟨h1, h2⟩
theorem both_ok (p q : PZ) (hwp : WP p) (hwq : WP q) : PureFn Tryz.prog 93 [aP p, aP q] (aN (bothE p q)) := by
  refine PureFn.of_body Tryz.func93 rfl Tryz.ntmps93 rfl rfl ?_
  by_cases hp : OkP p
  · by_cases hq : OkP q
    · rw [bothE_ok hp hq]
      repeat' (first |refine Fl.v rfl rfl rfl ?_ |refine Fl.nilF ?_ |refine AWP.seq ?_ |refine AWP.region ?_ |refine Fl.b rfl rfl rfl rfl ?_ |fail)
      refine Fl.call rfl (pValid_ok p hwp true (by simp [hp])) rfl rfl rfl (LeL.refl _) ?_
      repeat' (first |refine Fl.v rfl rfl rfl ?_ |fail)
      refine Fl.call rfl (pValid_ok q hwq true (by simp [hq])) rfl rfl rfl (LeL.refl _) ?_
      repeat' (first |refine Fl.v rfl rfl rfl ?_ |refine Fl.nilF ?_ |refine AWP.seq ?_ |refine AWP.region ?_ |refine AWP.condF rfl ?_ |(refine AWP.condN rfl ?_ ?_ <;> intro _ <;> try (exfalso; omega)) |refine AWP.skip ?_ |refine AWP.ret ?_ |fail)
      · rename_i h; exact RetOk.of rfl (AV.Le.int (if_neg h).symm)
      · rename_i h; exact RetOk.of rfl (AV.Le.int (if_pos h).symm)
    · rw [bothE_bad (fun h => hq h.2)]
      repeat' (first |refine Fl.v rfl rfl rfl ?_ |refine Fl.nilF ?_ |refine AWP.seq ?_ |refine AWP.region ?_ |refine Fl.b rfl rfl rfl rfl ?_ |fail)
      refine Fl.call rfl (pValid_ok p hwp true (by simp [hp])) rfl rfl rfl (LeL.refl _) ?_
      repeat' (first |refine Fl.v rfl rfl rfl ?_ |fail)
      refine Fl.call rfl (pValid_ok q hwq false (by simp [hq])) rfl rfl rfl (LeL.refl _) ?_
      repeat' (first |refine Fl.v rfl rfl rfl ?_ |refine Fl.nilF ?_ |refine AWP.seq ?_ |refine AWP.region ?_ |refine AWP.condT rfl ?_ |refine AWP.ret ?_ |fail)
      exact RetOk.of rfl (AV.Le.refl _)
  · rw [bothE_bad (fun h => hp h.1)]
    repeat' (first |refine Fl.v rfl rfl rfl ?_ |refine Fl.nilF ?_ |refine AWP.seq ?_ |refine AWP.region ?_ |refine Fl.b rfl rfl rfl rfl ?_ |fail)
    refine Fl.call rfl (pValid_ok p hwp false (by simp [hp])) rfl rfl rfl (LeL.refl _) ?_
    repeat' (first |refine Fl.v rfl rfl rfl ?_ |refine Fl.nilF ?_ |refine AWP.seq ?_ |refine AWP.region ?_ |refine Fl.skip rfl rfl ?_ |refine AWP.condT rfl ?_ |refine AWP.ret ?_ |fail)
    exact RetOk.of rfl (AV.Le.refl _)
abbrev bPQ (p q : PZ) : List (AL.Id × Bx) := [(900, .cells (eP p) 45), (901, .cells (eP q) 45)]
abbrev bT (cf : FuncId) (p q : PZ) (o : List AV) : List (AL.Id × Bx) := [(902, .cells [.fn cf [.ptr 900 0, .ptr 901 0]] 124), (903, .cells o 45), (900, .cells (eP p) 45), (901, .cells (eP q) 45)]
theorem tried1_ret {cf : FuncId} {p q r : PZ} (h : IoFn Tryz.prog cf [.ptr 900 0, .ptr 901 0] (bPQ p q) (.ret (aP r)) (bPQ p q)) :
    IoFn Tryz.prog 125 [.ptr 902 0, .ptr 903 0] (bT cf p q [aN 0, .v (.slice none 0 0)]) (.ret (.tup [])) (bT cf p q (eP r)) := by
  refine IoFn.of_body Tryz.func125 rfl Tryz.ntmps125 rfl rfl rfl ?_
  repeat' (first |refine Fl.v rfl rfl rfl ?_ |refine AWP.region ?_ |fail)
  refine Fl.ioV rfl rfl [] h rfl rfl (LeL.refl _) rfl ⟨⟨⟨_, rfl, BLe.cells (LeL.refl _)⟩, rfl⟩, ⟨⟨_, rfl, BLe.cells (LeL.refl _)⟩, rfl⟩, trivial⟩ rfl rfl rfl rfl rfl ?_
  repeat' (first |refine Fl.nilF ?_ |refine Fl.b rfl rfl rfl rfl ?_ |fail)
  exact ⟨⟨[], _, _, Ent.refl _ _ _, rfl, AV.Le.refl _, rfl, ⟨⟨⟨_, rfl, BLe.cells (LeL.refl _)⟩, rfl⟩, ⟨⟨_, rfl, BLe.cells (LeL.refl _)⟩, rfl⟩, ⟨⟨_, rfl, BLe.cells (LeL.refl _)⟩, rfl⟩, ⟨⟨_, rfl, BLe.cells (LeL.refl _)⟩, rfl⟩, trivial⟩, rfl, rfl⟩⟩
theorem tried1_thr {cf : FuncId} {p q : PZ} (h : IoFn Tryz.prog cf [.ptr 900 0, .ptr 901 0] (bPQ p q) (.thr (thrown 4)) (bPQ p q)) :
    IoFn Tryz.prog 125 [.ptr 902 0, .ptr 903 0] (bT cf p q [aN 0, .v (.slice none 0 0)]) (.thr (thrown 4)) (bT cf p q [aN 0, .v (.slice none 0 0)]) := by
  refine IoFn.of_body Tryz.func125 rfl Tryz.ntmps125 rfl rfl rfl ?_
  repeat' (first |refine Fl.v rfl rfl rfl ?_ |refine AWP.region ?_ |fail)
  exact Fl.thrV rfl rfl [] h rfl (LeL.refl _) rfl ⟨⟨⟨_, rfl, BLe.cells (LeL.refl _)⟩, rfl⟩, ⟨⟨_, rfl, BLe.cells (LeL.refl _)⟩, rfl⟩, trivial⟩ rfl (fun h => by cases h) (fun _ => rfl)
theorem tried_ret {cf : FuncId} {p q r : PZ} (h : IoFn Tryz.prog cf [.ptr 900 0, .ptr 901 0] (bPQ p q) (.ret (aP r)) (bPQ p q)) :
    IoFn Tryz.prog 94 [.fn cf [.ptr 900 0, .ptr 901 0]] (bPQ p q) (.ret (.tup [aP r, aN 0])) (bPQ p q) := by
  refine IoFn.of_body Tryz.func94 rfl Tryz.ntmps94 rfl rfl rfl ?_
  repeat' (first |refine Fl.v rfl rfl rfl ?_ |refine Fl.nilF ?_ |refine AWP.seq ?_ |refine AWP.region ?_ |refine Fl.b rfl rfl rfl rfl ?_ |fail)
  refine Fl.io rfl [(902, 1), (903, 4)] (Try_ret (tried1_ret h)) rfl rfl (LeL.refl _) rfl ⟨⟨⟨_, rfl, BLe.cells (LeL.refl _)⟩, rfl⟩, ⟨⟨_, rfl, BLe.cells (LeL.refl _)⟩, rfl⟩, ⟨⟨_, rfl, BLe.cells (LeL.refl _)⟩, rfl⟩, ⟨⟨_, rfl, BLe.cells (LeL.refl _)⟩, rfl⟩, trivial⟩ rfl rfl rfl rfl rfl ?_
  repeat' (first |refine Fl.v rfl rfl rfl ?_ |refine Fl.nilF ?_ |refine AWP.seq ?_ |refine AWP.region ?_ |refine Fl.b rfl rfl rfl rfl ?_ |refine AWP.condF rfl ?_ |refine AWP.skip ?_ |refine AWP.ret ?_ |fail)
  exact ⟨⟨[], _, _, Ent.refl _ _ _, rfl, AV.Le.refl _, rfl, ⟨⟨⟨_, rfl, BLe.cells (LeL.refl _)⟩, rfl⟩, ⟨⟨_, rfl, BLe.cells (LeL.refl _)⟩, rfl⟩, trivial⟩, rfl, rfl⟩⟩
theorem tried_thr {cf : FuncId} {p q : PZ} (h : IoFn Tryz.prog cf [.ptr 900 0, .ptr 901 0] (bPQ p q) (.thr (thrown 4)) (bPQ p q)) :
    IoFn Tryz.prog 94 [.fn cf [.ptr 900 0, .ptr 901 0]] (bPQ p q) (.ret (.tup [aP ⟨0, []⟩, aN 4])) [] := by
  refine IoFn.of_bodyD Tryz.func94 rfl Tryz.ntmps94 rfl rfl ?_
  repeat' (first |refine Fl.v rfl rfl rfl ?_ |refine Fl.nilF ?_ |refine AWP.seq ?_ |refine AWP.region ?_ |refine Fl.b rfl rfl rfl rfl ?_ |fail)
  refine Fl.io rfl [(902, 1), (903, 4)] (Try_thr (tried1_thr h)) rfl rfl (LeL.refl _) rfl ⟨⟨⟨_, rfl, BLe.cells (LeL.refl _)⟩, rfl⟩, ⟨⟨_, rfl, BLe.cells (LeL.refl _)⟩, rfl⟩, ⟨⟨_, rfl, BLe.cells (LeL.refl _)⟩, rfl⟩, ⟨⟨_, rfl, BLe.cells (LeL.refl _)⟩, rfl⟩, trivial⟩ rfl rfl rfl rfl rfl ?_
  repeat' (first |refine Fl.v rfl rfl rfl ?_ |refine Fl.nilF ?_ |refine AWP.seq ?_ |refine AWP.region ?_ |refine Fl.b rfl rfl rfl rfl ?_ |refine AWP.condT rfl ?_ |refine AWP.ret ?_ |fail)
  exact RetD1.of rfl (AV.Le.tup (LeL.cons aP_zero (LeL.refl _)))
theorem Mul1_io (V : Nat) (hV : V ≤ 32) (p q : PZ) (hwp : WP p) (hwq : WP q) (hp : OkP p) (hq : OkP q) (hpv : p.vars = V) (hqv : q.vars = V) (res : Res)
    (hr1 : ∀ r, ProdOk V p q r → res = .ret (aP r)) (hr2 : (¬ ∃ r, ProdOk V p q r) → res = .thr (thrown 4)) :
    IoFn Tryz.prog 95 [.ptr 900 0, .ptr 901 0] (bPQ p q) res (bPQ p q) := by
  have h := times_io V hV p q hwp hwq hp hq hpv hqv res hr1 hr2
  refine IoFn.of_body Tryz.func95 rfl Tryz.ntmps95 rfl rfl rfl ?_
  by_cases hg : ∃ r, ProdOk V p q r
  · obtain ⟨r, hr⟩ := hg
    have e1 := hr1 r hr
    subst e1
    repeat' (first |refine Fl.v rfl rfl rfl ?_ |refine Fl.nilF ?_ |refine AWP.seq ?_ |refine AWP.region ?_ |refine Fl.b rfl rfl rfl rfl ?_ |fail)
    refine Fl.io rfl [] h rfl rfl (LeL.refl _) rfl trivial rfl rfl rfl rfl rfl ?_
    repeat' (first |refine Fl.nilF ?_ |refine Fl.b rfl rfl rfl rfl ?_ |refine AWP.ret ?_ |fail)
    exact ⟨⟨[], _, _, Ent.refl _ _ _, rfl, AV.Le.refl _, rfl, ⟨⟨⟨_, rfl, BLe.cells (LeL.refl _)⟩, rfl⟩, ⟨⟨_, rfl, BLe.cells (LeL.refl _)⟩, rfl⟩, trivial⟩, rfl, rfl⟩⟩
  · have e1 := hr2 hg
    subst e1
    repeat' (first |refine Fl.v rfl rfl rfl ?_ |refine Fl.nilF ?_ |refine AWP.seq ?_ |refine AWP.region ?_ |refine Fl.b rfl rfl rfl rfl ?_ |fail)
    exact Fl.thrC rfl [] h rfl (LeL.refl _) rfl trivial rfl (fun h => by cases h) (fun _ => rfl)
theorem Add1_io (V : Nat) (hV : V ≤ 32) (p q : PZ) (hwp : WP p) (hwq : WP q) (hp : OkP p) (hq : OkP q) (hpv : p.vars = V) (hqv : q.vars = V) (res : Res)
    (hr1 : ∀ r, SumOk V (plusU 1 p q) r → res = .ret (aP r)) (hr2 : (¬ ∃ r, SumOk V (plusU 1 p q) r) → res = .thr (thrown 4)) :
    IoFn Tryz.prog 97 [.ptr 900 0, .ptr 901 0] (bPQ p q) res (bPQ p q) := by
  have h := plus_io V hV p q 1 fit_one hwp hwq hp hq hpv hqv (fun t ht => by rw [Int.mul_one]; exact (okZ_eq (hwq t ht) (hq.terms t ht).coef).2) res hr1 hr2
  refine IoFn.of_body Tryz.func97 rfl Tryz.ntmps97 rfl rfl rfl ?_
  by_cases hg : ∃ r, SumOk V (plusU 1 p q) r
  · obtain ⟨r, hr⟩ := hg
    have e1 := hr1 r hr
    subst e1
    repeat' (first |refine Fl.v rfl rfl rfl ?_ |refine Fl.nilF ?_ |refine AWP.seq ?_ |refine AWP.region ?_ |refine Fl.b rfl rfl rfl rfl ?_ |fail)
    refine Fl.call rfl (Of_ok 1 (by omega) (by omega)) rfl rfl rfl (LeL.refl _) ?_
    skip
    refine Fl.io rfl [] h rfl rfl (LeL.refl _) rfl trivial rfl rfl rfl rfl rfl ?_
    repeat' (first |refine Fl.nil (fun _ => by kernel_rfl) ?_ |refine Fl.b rfl rfl rfl rfl ?_ |refine AWP.ret ?_ |fail)
    exact ⟨⟨[], _, _, Ent.refl _ _ _, rfl, AV.Le.refl _, rfl, ⟨⟨⟨_, rfl, BLe.cells (LeL.refl _)⟩, rfl⟩, ⟨⟨_, rfl, BLe.cells (LeL.refl _)⟩, rfl⟩, trivial⟩, rfl, rfl⟩⟩
  · have e1 := hr2 hg
    subst e1
    repeat' (first |refine Fl.v rfl rfl rfl ?_ |refine Fl.nilF ?_ |refine AWP.seq ?_ |refine AWP.region ?_ |refine Fl.b rfl rfl rfl rfl ?_ |fail)
    refine Fl.call rfl (Of_ok 1 (by omega) (by omega)) rfl rfl rfl (LeL.refl _) ?_
    skip
    exact Fl.thrC rfl [] h rfl (LeL.refl _) rfl trivial rfl (fun _ => by kernel_rfl) (fun _ => rfl)
theorem pMul_ok (V : Nat) (hV : V ≤ 32) (p q : PZ) (hwp : WP p) (hwq : WP q) (hp : OkP p) (hq : OkP q) (hpv : p.vars = V) (hqv : q.vars = V) (r : AV)
    (hr1 : ∀ x, ProdOk V p q x → r = .tup [aP x, aN 0]) (hr2 : (¬ ∃ x, ProdOk V p q x) → r = .tup [aP ⟨0, []⟩, aN 4]) :
    PureFn Tryz.prog 52 [aP p, aP q] r := by
  refine PureFn.of_body Tryz.func52 rfl Tryz.ntmps52 rfl rfl ?_
  have hb := both_ok p q hwp hwq
  rw [bothE_ok hp hq, if_pos (hpv.trans hqv.symm)] at hb
  repeat' (first |refine Fl.v rfl rfl rfl ?_ |refine Fl.nilF ?_ |refine AWP.seq ?_ |refine AWP.region ?_ |refine Fl.b rfl rfl rfl rfl ?_ |fail)
  refine Fl.call rfl (hb) rfl rfl rfl (LeL.refl _) ?_
  repeat' (first |refine Fl.v rfl rfl rfl ?_ |refine Fl.nilF ?_ |refine AWP.seq ?_ |refine AWP.region ?_ |refine AWP.condF rfl ?_ |refine AWP.skip ?_ |fail)
  by_cases hg : ∃ x, ProdOk V p q x
  · obtain ⟨x, hx⟩ := hg
    rw [hr1 x hx]
    have hx' : ∀ y, ProdOk V p q y → (Res.ret (aP x)) = .ret (aP y) := fun y hy => by
      have := (hr1 x hx).symm.trans (hr1 y hy)
      injection this with this
      injection this with this
      rw [this]
    refine Fl.io rfl [(900, 2), (901, 3)] (tried_ret (Mul1_io V hV p q hwp hwq hp hq hpv hqv (.ret (aP x)) hx' (fun h => absurd ⟨x, hx⟩ h))) rfl rfl (LeL.refl _) rfl ⟨⟨⟨_, rfl, BLe.cells (LeL.refl _)⟩, rfl⟩, ⟨⟨_, rfl, BLe.cells (LeL.refl _)⟩, rfl⟩, trivial⟩ rfl rfl rfl rfl rfl ?_
    repeat' (first |refine Fl.v rfl rfl rfl ?_ |refine Fl.nilF ?_ |refine Fl.b rfl rfl rfl rfl ?_ |refine AWP.ret ?_ |fail)
    exact RetOk.of rfl (AV.Le.refl _)
  · rw [hr2 hg]
    refine Fl.io rfl [(900, 2), (901, 3)] (tried_thr (Mul1_io V hV p q hwp hwq hp hq hpv hqv _ (fun y hy => absurd ⟨y, hy⟩ hg) (fun _ => rfl))) rfl rfl (LeL.refl _) rfl ⟨⟨⟨_, rfl, BLe.cells (LeL.refl _)⟩, rfl⟩, ⟨⟨_, rfl, BLe.cells (LeL.refl _)⟩, rfl⟩, trivial⟩ rfl rfl rfl rfl rfl ?_
    repeat' (first |refine Fl.v rfl rfl rfl ?_ |refine Fl.nilF ?_ |refine Fl.b rfl rfl rfl rfl ?_ |refine AWP.ret ?_ |fail)
    exact RetOk.of rfl (AV.Le.refl _)
theorem pAdd_ok (V : Nat) (hV : V ≤ 32) (p q : PZ) (hwp : WP p) (hwq : WP q) (hp : OkP p) (hq : OkP q) (hpv : p.vars = V) (hqv : q.vars = V) (r : AV)
    (hr1 : ∀ x, SumOk V (plusU 1 p q) x → r = .tup [aP x, aN 0]) (hr2 : (¬ ∃ x, SumOk V (plusU 1 p q) x) → r = .tup [aP ⟨0, []⟩, aN 4]) :
    PureFn Tryz.prog 53 [aP p, aP q] r := by
  refine PureFn.of_body Tryz.func53 rfl Tryz.ntmps53 rfl rfl ?_
  have hb := both_ok p q hwp hwq
  rw [bothE_ok hp hq, if_pos (hpv.trans hqv.symm)] at hb
  repeat' (first |refine Fl.v rfl rfl rfl ?_ |refine Fl.nilF ?_ |refine AWP.seq ?_ |refine AWP.region ?_ |refine Fl.b rfl rfl rfl rfl ?_ |fail)
  refine Fl.call rfl (hb) rfl rfl rfl (LeL.refl _) ?_
  repeat' (first |refine Fl.v rfl rfl rfl ?_ |refine Fl.nilF ?_ |refine AWP.seq ?_ |refine AWP.region ?_ |refine AWP.condF rfl ?_ |refine AWP.skip ?_ |fail)
  by_cases hg : ∃ x, SumOk V (plusU 1 p q) x
  · obtain ⟨x, hx⟩ := hg
    rw [hr1 x hx]
    have hx' : ∀ y, SumOk V (plusU 1 p q) y → (Res.ret (aP x)) = .ret (aP y) := fun y hy => by
      have := (hr1 x hx).symm.trans (hr1 y hy)
      injection this with this
      injection this with this
      rw [this]
    refine Fl.io rfl [(900, 2), (901, 3)] (tried_ret (Add1_io V hV p q hwp hwq hp hq hpv hqv (.ret (aP x)) hx' (fun h => absurd ⟨x, hx⟩ h))) rfl rfl (LeL.refl _) rfl ⟨⟨⟨_, rfl, BLe.cells (LeL.refl _)⟩, rfl⟩, ⟨⟨_, rfl, BLe.cells (LeL.refl _)⟩, rfl⟩, trivial⟩ rfl rfl rfl rfl rfl ?_
    repeat' (first |refine Fl.v rfl rfl rfl ?_ |refine Fl.nilF ?_ |refine Fl.b rfl rfl rfl rfl ?_ |refine AWP.ret ?_ |fail)
    exact RetOk.of rfl (AV.Le.refl _)
  · rw [hr2 hg]
    refine Fl.io rfl [(900, 2), (901, 3)] (tried_thr (Add1_io V hV p q hwp hwq hp hq hpv hqv _ (fun y hy => absurd ⟨y, hy⟩ hg) (fun _ => rfl))) rfl rfl (LeL.refl _) rfl ⟨⟨⟨_, rfl, BLe.cells (LeL.refl _)⟩, rfl⟩, ⟨⟨_, rfl, BLe.cells (LeL.refl _)⟩, rfl⟩, trivial⟩ rfl rfl rfl rfl rfl ?_
    repeat' (first |refine Fl.v rfl rfl rfl ?_ |refine Fl.nilF ?_ |refine Fl.b rfl rfl rfl rfl ?_ |refine AWP.ret ?_ |fail)
    exact RetOk.of rfl (AV.Le.refl _)
end Go.Proofs.YtfkjhjgihbnegaaGreat
/- The values of sums and products. -/
namespace Go.AL
theorem plop (v : Int) : plI v + opI v = v := by unfold plI opI; split <;> omega
theorem pv_sum (X : List Int) (p : PZ) : pv X p = sumL (p.terms.map (tv X)) := by
  unfold pv PS OS
  induction p.terms with
  | nil => rfl
  | cons t l ih =>
    have := plop (tv X t)
    simp only [List.map_cons, sumL] at ih ⊢; omega
theorem sumL_perm {l m : List Int} (h : l.Perm m) : sumL l = sumL m := by
  induction h with
  | nil => rfl
  | cons x _ ih => simp only [sumL, ih]
  | swap x y l => simp only [sumL]; omega
  | trans _ _ h1 h2 => exact h1.trans h2
def mv (X : List Int) (V : Nat) (xs : List ME) : Int := sumL (xs.map fun p => p.2.1 * prodE X (p.1.1.take V))
def uv (X : List Int) (us : List UT) : Int := sumL (us.map fun u => u.1 * prodE X u.2)
theorem uv_append (X : List Int) (a b : List UT) : uv X (a ++ b) = uv X a + uv X b := by simp [uv, sumL_append]
theorem mv_append (X : List Int) (V : Nat) (a b : List ME) : mv X V (a ++ b) = mv X V a + mv X V b := by simp [mv, sumL_append]
theorem mv_cons (X : List Int) (V : Nat) (p : ME) (b : List ME) : mv X V (p :: b) = p.2.1 * prodE X (p.1.1.take V) + mv X V b := rfl
theorem exK_take {e : List Int} {V : Nat} (h : e.length = V) (hV : V ≤ 32) : (exK e).1.take V = e := by
  rw [exK_eq (by omega)]
  show (e ++ List.replicate (32 - e.length) 0).take V = e
  rw [← h]; simp
theorem mv_step (X : List Int) {V : Nat} (hV : V ≤ 32) (s : MS) (u : UT) (hl : u.2.length = V) : mv X V (stepM s u).1 = mv X V s.1 + u.1 * prodE X u.2 := by
  obtain ⟨xs, c⟩ := s
  obtain ⟨a, e⟩ := u
  show mv X V (setM (exK e) (getM (exK e) xs + a) c xs) = mv X V xs + a * prodE X e
  simp only at hl
  have hk : (exK e).1.take V = e := exK_take hl hV
  rcases setM_cases (exK e) (getM (exK e) xs + a) c xs with ⟨h1, h2, h3⟩ | ⟨A, p, B, h1, h2, h3, h4, h5, h6⟩
  · have hg : getM (exK e) xs = 0 := by unfold getM; rw [h1]
    rcases h3 with ⟨hy, h3⟩ | ⟨hy, h3⟩
    · rw [h3]
      have : a = 0 := by omega
      subst this; simp
    · rw [h3, mv_append, mv_cons, hg]
      show mv X V xs + ((0 + a) * prodE X ((exK e).1.take V) + 0) = _
      rw [hk]; simp
  · have hg : getM (exK e) xs = p.2.1 := by unfold getM; rw [h1]
    have hpk : p.1.1.take V = e := by rw [h3]; exact hk
    rcases h6 with ⟨hy, h6⟩ | ⟨hy, h6⟩
    · rw [h6, h2, mv_append, mv_append, mv_cons, hpk]
      have : a = - p.2.1 := by omega
      show mv X V A + mv X V B = mv X V A + (p.2.1 * prodE X e + mv X V B) + a * prodE X e
      rw [this, Int.neg_mul]; omega
    · rw [h6, mv_append, mv_cons, hg]
      conv => rhs; rw [h2, mv_append, mv_cons, hpk]
      show mv X V A + ((p.2.1 + a) * prodE X ((exK e).1.take V) + mv X V B) = mv X V A + (p.2.1 * prodE X e + mv X V B) + a * prodE X e
      rw [hk, Int.add_mul]; omega
theorem mv_run (X : List Int) {V : Nat} (hV : V ≤ 32) : ∀ {us : List UT} {s s' : MS}, UOk V us → runM us s = some s' → mv X V s'.1 = mv X V s.1 + uv X us
  | [], s, s', _, h => by
    simp only [runM] at h; injection h with h; subst h; simp [uv, sumL]
  | u :: us, s, s', hu, h => by
    unfold runM at h
    split at h
    · have := mv_run X hV (us := us) (fun v hv => hu v (by simp [hv])) h
      rw [this, mv_step X hV s u (hu u (by simp)).1]
      show _ = mv X V s.1 + (u.1 * prodE X u.2 + uv X us)
      omega
    · cases h
theorem tv_tmM (X : List Int) (V : Nat) (p : ME) : tv X (tmM V p) = p.2.1 * prodE X (p.1.1.take V) := by
  show zval (zOf p.2.1) * _ = _
  rw [zval_zOf]; rfl
/-- what is summed up has the sum of the values -/
theorem SumOk.val {V : Nat} (hV : V ≤ 32) {us : List UT} {r : PZ} (h : SumOk V us r) (hu : UOk V us) (X : List Int) : pv X r = uv X us := by
  obtain ⟨s, h1, h2, h3⟩ := h
  have := mv_run X hV hu h1
  subst h2
  rw [pv_sum]
  show sumL ((sortT (s.1.map (tmM V))).map (tv X)) = _
  rw [sumL_perm ((sortT_perm _).map _), List.map_map]
  show sumL (s.1.map (fun p => tv X (tmM V p))) = _
  rw [show (fun p => tv X (tmM V p)) = (fun (p : ME) => p.2.1 * prodE X (p.1.1.take V)) from funext (tv_tmM X V)]
  show mv X V s.1 = _
  rw [this]
  simp [mv, sumL]
theorem uv_u1 (X : List Int) (l : List TZ) : uv X (l.map u1) = sumL (l.map (tv X)) := by simp only [uv, List.map_map]; rfl
theorem uv_u2 (X : List Int) (b : Int) (l : List TZ) : uv X (l.map (u2 b)) = sumL (l.map (tv X)) * b := by
  induction l with
  | nil => simp [uv, sumL]
  | cons t l ih =>
    simp only [uv, List.map_cons, sumL] at ih ⊢
    rw [ih, Int.add_mul]
    congr 1
    show zval t.c * b * prodE X t.e = zval t.c * prodE X t.e * b
    rw [Int.mul_assoc, Int.mul_comm b, ← Int.mul_assoc]
theorem uv_plus (X : List Int) (b : Int) (p q : PZ) : uv X (plusU b p q) = pv X p + pv X q * b := by
  unfold plusU
  rw [uv_append, uv_u1, uv_u2, pv_sum, pv_sum]
theorem prodE_add : ∀ {X a b : List Int}, EOk a → EOk b → a.length = b.length → prodE X (addE a b) = prodE X a * prodE X b
  | _, [], [], _, _, _ => by simp [addE, prodE]
  | _, [], _ :: _, _, _, h => by simp at h
  | _, _ :: _, [], _, _, h => by simp at h
  | [], x :: a, y :: b, _, _, _ => by simp [addE, prodE]
  | z :: X, x :: a, y :: b, ha, hb, h => by
    have hx := ha x (by simp)
    have hy := hb y (by simp)
    have := prodE_add (X := X) (a := a) (b := b) (fun e he => ha e (by simp [he])) (fun e he => hb e (by simp [he])) (by simpa using h)
    show z ^ (x + y).toNat * prodE X (addE a b) = z ^ x.toNat * prodE X a * (z ^ y.toNat * prodE X b)
    rw [this, show (x + y).toNat = x.toNat + y.toNat by omega, Int.pow_add]
    simp only [Int.mul_assoc, Int.mul_left_comm]
theorem uv_times (X : List Int) (p q : PZ) (h : ∀ t ∈ p.terms, ∀ u ∈ q.terms, EOk t.e ∧ EOk u.e ∧ t.e.length = u.e.length) : uv X (timesU p q) = pv X p * pv X q := by
  rw [pv_sum, pv_sum]
  unfold timesU
  have key : ∀ (l : List TZ), (∀ t ∈ l, t ∈ p.terms) → uv X (l.flatMap (rowU q.terms)) = sumL (l.map (tv X)) * sumL (q.terms.map (tv X)) := by
    intro l
    induction l with
    | nil => intro _; simp [uv, sumL]
    | cons t l ih =>
      intro hl
      rw [List.flatMap_cons, uv_append, ih (fun u hu => hl u (by simp [hu])), List.map_cons]
      show _ = (tv X t + sumL (l.map (tv X))) * _
      rw [Int.add_mul]
      congr 1
      have hrow : ∀ (m : List TZ), (∀ u ∈ m, u ∈ q.terms) → uv X (m.map (uM t)) = tv X t * sumL (m.map (tv X)) := by
        intro m
        induction m with
        | nil => intro _; simp [uv, sumL]
        | cons u m ih2 =>
          intro hm
          have h2 := ih2 (fun v hv => hm v (by simp [hv]))
          obtain ⟨h3, h4, h5⟩ := h t (hl t (by simp)) u (hm u (by simp))
          show zval t.c * zval u.c * prodE X (addE t.e u.e) + uv X (m.map (uM t)) = tv X t * (tv X u + sumL (m.map (tv X)))
          rw [h2, Int.mul_add, prodE_add h3 h4 h5]
          unfold tv
          simp only [Int.mul_assoc, Int.mul_left_comm]
      exact hrow q.terms fun u hu => hu
  exact key p.terms fun t ht => ht
theorem SumOk.okp {V : Nat} {us : List UT} {r : PZ} (h : SumOk V us r) : OkP r ∧ r.vars = V ∧ WP r := by
  obtain ⟨s, h1, h2, h3⟩ := h
  refine ⟨h3, by rw [h2], fun t ht => ?_⟩
  rw [h2] at ht
  obtain ⟨p, _, rfl⟩ := List.mem_map.1 ((sortT_perm _).mem_iff.1 ht)
  exact toW_ok _
end Go.AL
/- system.spread. -/
namespace Go.AL
/-- exponents, spread over more variables: n places from k on -/
def spr : Nat → Int → List Int → List Int → List Int
  | 0, _, _, _ => []
  | n + 1, k, v :: vs, x :: e => if v = k then x :: spr n (k + 1) vs e else 0 :: spr n (k + 1) (v :: vs) (x :: e)
  | n + 1, k, _, _ => 0 :: spr n (k + 1) [] []
theorem spr_length : ∀ (n : Nat) (k : Int) (vs e : List Int), (spr n k vs e).length = n
  | 0, _, _, _ => rfl
  | n + 1, k, [], e => by simp [spr, spr_length n]
  | n + 1, k, v :: vs, [] => by simp [spr, spr_length n]
  | n + 1, k, v :: vs, x :: e => by
    simp only [spr]
    split <;> simp [spr_length n]
theorem spr_nil : ∀ (n : Nat) (k : Int), spr n k [] [] = List.replicate n 0
  | 0, _ => rfl
  | n + 1, k => by simp only [spr, spr_nil n, List.replicate_succ]
/-- increasing, within bounds -/
def incK : Int → Int → List Int → Prop
  | _, _, [] => True
  | lo, hi, v :: vs => lo ≤ v ∧ v < hi ∧ incK (v + 1) hi vs
theorem incK.mono {lo lo' hi : Int} (h : lo' ≤ lo) : ∀ {vs : List Int}, incK lo hi vs → incK lo' hi vs
  | [], _ => trivial
  | _ :: _, ⟨h1, h2, h3⟩ => ⟨by omega, h2, h3⟩
theorem incK.imp_hi {lo hi hi' : Int} {vs : List Int} (h : incK lo hi vs) (e : hi = hi') : incK lo hi' vs := e ▸ h
theorem incK_of : ∀ {vs : List Int} {lo hi : Int}, incB lo hi vs → incK (lo + 1) hi vs
  | [], _, _, _ => trivial
  | v :: vs, lo, hi, ⟨h1, h2, h3⟩ => ⟨by omega, h2, incK_of h3⟩
theorem incK_last : ∀ {lo hi v : Int} {vs : List Int}, incK lo hi (vs ++ [v]) → lo ≤ v
  | _, _, _, [], h => h.1
  | _, _, _, w :: vs, h => by have := incK_last (vs := vs) h.2.2; have := h.1; omega
theorem incK.up {k hi v : Int} {vs : List Int} (h : incK k hi (v :: vs)) (hv : ¬ v = k) : incK (k + 1) hi (v :: vs) := ⟨by have := h.1; omega, h.2.1, h.2.2⟩
theorem incK.tail {k hi v : Int} {vs : List Int} (h : incK k hi (v :: vs)) (hv : v = k) : incK (k + 1) hi vs := by have := h.2.2; rwa [hv] at this
/-- one exponent more -/
theorem spr_snoc : ∀ (n : Nat) (k : Int) (vs e : List Int) (v x : Int), vs.length = e.length → incK k (k + n) (vs ++ [v]) → spr n k (vs ++ [v]) (e ++ [x]) = (spr n k vs e).set (v - k).toNat x
  | 0, k, vs, e, v, x, hl, h => by
    cases vs with
    | nil => have := h.1; have := h.2.1; omega
    | cons w vs => have := h.1; have := h.2.1; omega
  | n + 1, k, [], [], v, x, hl, h => by
    simp only [List.nil_append, spr]
    by_cases hv : v = k
    · rw [if_pos hv]
      rw [show (v - k).toNat = 0 by omega]
      simp
    · rw [if_neg hv]
      have h1 := h.1
      have := spr_snoc n (k + 1) [] [] v x rfl ((h.up hv).imp_hi (by omega))
      simp only [List.nil_append] at this
      rw [this, show (v - k).toNat = (v - (k + 1)).toNat + 1 by omega]
      simp
  | n + 1, k, w :: vs, y :: e, v, x, hl, h => by
    simp only [List.cons_append, spr]
    have h1 := h.1
    by_cases hw : w = k
    · rw [if_pos hw, if_pos hw]
      have h2 := h.tail hw
      have h3 : k + 1 ≤ v := incK_last h2
      have := spr_snoc n (k + 1) vs e v x (by simpa using hl) (h2.imp_hi (by omega))
      rw [this, show (v - k).toNat = (v - (k + 1)).toNat + 1 by omega]
      simp
    · rw [if_neg hw, if_neg hw]
      have h2 := h.up hw
      have h3 : k + 1 ≤ v := incK_last (vs := w :: vs) h2
      have := spr_snoc n (k + 1) (w :: vs) (y :: e) v x hl (h2.imp_hi (by omega))
      rw [List.cons_append, List.cons_append] at this
      rw [this, show (v - k).toNat = (v - (k + 1)).toNat + 1 by omega]
      simp
  | _ + 1, _, [], _ :: _, _, _, hl, _ => by simp at hl
  | _ + 1, _, _ :: _, [], _, _, hl, _ => by simp at hl
theorem spr_sum : ∀ (n : Nat) (k : Int) (vs e : List Int), vs.length = e.length → incK k (k + n) vs → sumL (spr n k vs e) = sumL e
  | 0, k, vs, e, hl, h => by
    cases vs with
    | nil => cases e with
      | nil => rfl
      | cons _ _ => simp at hl
    | cons w vs => have := h.1; have := h.2.1; omega
  | n + 1, k, [], [], hl, h => by
    simp only [spr, sumL]
    have := spr_sum n (k + 1) [] [] rfl trivial
    simp only [sumL] at this; omega
  | n + 1, k, w :: vs, y :: e, hl, h => by
    simp only [spr]
    by_cases hw : w = k
    · rw [if_pos hw]
      have := spr_sum n (k + 1) vs e (by simpa using hl) ((h.tail hw).imp_hi (by omega))
      simp only [sumL, this]
    · rw [if_neg hw]
      have := spr_sum n (k + 1) (w :: vs) (y :: e) hl ((h.up hw).imp_hi (by omega))
      simp only [sumL] at this ⊢; omega
  | _ + 1, _, [], _ :: _, hl, _ => by simp at hl
  | _ + 1, _, _ :: _, [], hl, _ => by simp at hl
theorem spr_cmp : ∀ (n : Nat) (k : Int) (vs a b : List Int), vs.length = a.length → vs.length = b.length → incK k (k + n) vs → cmpL (spr n k vs a) (spr n k vs b) = cmpL a b
  | 0, k, vs, a, b, ha, hb, h => by
    cases vs with
    | nil =>
      have h1 : a = [] := List.eq_nil_of_length_eq_zero (by simpa using ha.symm)
      have h2 : b = [] := List.eq_nil_of_length_eq_zero (by simpa using hb.symm)
      subst h1 h2; rfl
    | cons w vs => have := h.1; have := h.2.1; omega
  | n + 1, k, [], [], [], _, _, _ => cmpL_refl _
  | n + 1, k, w :: vs, x :: a, y :: b, ha, hb, h => by
    simp only [spr]
    by_cases hw : w = k
    · rw [if_pos hw, if_pos hw]
      have := spr_cmp n (k + 1) vs a b (by simpa using ha) (by simpa using hb) ((h.tail hw).imp_hi (by omega))
      simp only [cmpL, this]
    · rw [if_neg hw, if_neg hw]
      have := spr_cmp n (k + 1) (w :: vs) (x :: a) (y :: b) ha hb ((h.up hw).imp_hi (by omega))
      rw [show cmpL (0 :: spr n (k + 1) (w :: vs) (x :: a)) (0 :: spr n (k + 1) (w :: vs) (y :: b)) = cmpL (spr n (k + 1) (w :: vs) (x :: a)) (spr n (k + 1) (w :: vs) (y :: b)) by
        conv => lhs; unfold cmpL
        rw [if_pos (cmpI_zero.2 rfl)]]
      exact this
  | _ + 1, _, [], _ :: _, _, ha, _, _ => by simp at ha
  | _ + 1, _, [], [], _ :: _, _, hb, _ => by simp at hb
  | _ + 1, _, _ :: _, [], _, ha, _, _ => by simp at ha
  | _ + 1, _, _ :: _, _ :: _, [], _, hb, _ => by simp at hb
theorem spr_ord {n : Nat} {vs a b : List Int} (ha : vs.length = a.length) (hb : vs.length = b.length) (h : incK 0 n vs) : ordI (spr n 0 vs a) (spr n 0 vs b) = ordI a b := by
  have h' : incK 0 (0 + (n : Int)) vs := h.imp_hi (by omega)
  unfold ordI
  rw [spr_sum n 0 vs a ha h', spr_sum n 0 vs b hb h', spr_cmp n 0 vs b a hb ha h']
theorem spr_eok : ∀ (n : Nat) (k : Int) (vs e : List Int), EOk e → EOk (spr n k vs e)
  | 0, _, _, _, _ => fun e he => by cases he
  | n + 1, k, [], e, h => by
    intro x hx
    simp only [spr, List.mem_cons] at hx
    rcases hx with rfl | hx
    · omega
    · exact spr_eok n (k + 1) [] [] (fun e he => by cases he) x hx
  | n + 1, k, v :: vs, [], h => by
    intro x hx
    simp only [spr, List.mem_cons] at hx
    rcases hx with rfl | hx
    · omega
    · exact spr_eok n (k + 1) [] [] (fun e he => by cases he) x hx
  | n + 1, k, v :: vs, y :: e, h => by
    intro x hx
    simp only [spr] at hx
    split at hx
    · rcases List.mem_cons.1 hx with rfl | hx
      · exact h _ (by simp)
      · exact spr_eok n (k + 1) vs e (fun z hz => h z (by simp [hz])) x hx
    · rcases List.mem_cons.1 hx with rfl | hx
      · omega
      · exact spr_eok n (k + 1) (v :: vs) (y :: e) h x hx
/-- the numbers at which a link's polynomials are taken -/
theorem spr_prod : ∀ (n : Nat) (k : Int) (vs e X : List Int), 0 ≤ k → vs.length = e.length → incK k (k + n) vs → X.length = n → ∀ (Y : List Int), (∀ (i : Nat), Y[k.toNat + i]? = X[i]?) → prodE X (spr n k vs e) = prodE (vs.map fun v => Y[v.toNat]?.getD 0) e
  | 0, k, vs, e, X, hk, hl, h, hX, Y, hY => by
    cases vs with
    | nil => cases e with
      | nil => simp [spr, prodE]
      | cons _ _ => simp at hl
    | cons w vs => have := h.1; have := h.2.1; omega
  | n + 1, k, vs, e, [], hk, hl, h, hX, Y, hY => by simp at hX
  | n + 1, k, [], [], x :: X, hk, hl, h, hX, Y, hY => by
    have := spr_prod n (k + 1) [] [] X (by omega) rfl trivial (by simpa using hX) Y (fun i => by have := hY (i + 1); rw [show (k + 1).toNat + i = k.toNat + (i + 1) by omega, this]; simp)
    simp only [spr, prodE, this, List.map_nil]
    simp
  | n + 1, k, w :: vs, y :: e, x :: X, hk, hl, h, hX, Y, hY => by
    have hY' : ∀ (i : Nat), Y[(k + 1).toNat + i]? = X[i]? := fun i => by have := hY (i + 1); rw [show (k + 1).toNat + i = k.toNat + (i + 1) by omega, this]; simp
    simp only [spr]
    by_cases hw : w = k
    · rw [if_pos hw]
      have := spr_prod n (k + 1) vs e X (by omega) (by simpa using hl) ((h.tail hw).imp_hi (by omega)) (by simpa using hX) Y hY'
      have h0 := hY 0
      simp only [Nat.add_zero, List.getElem?_cons_zero] at h0
      simp only [prodE, List.map_cons, this, hw, h0, Option.getD_some]
    · rw [if_neg hw]
      have := spr_prod n (k + 1) (w :: vs) (y :: e) X (by omega) hl ((h.up hw).imp_hi (by omega)) (by simpa using hX) Y hY'
      rw [← this]
      simp [prodE]
  | _ + 1, _, [], _ :: _, _ :: _, _, hl, _, _, _, _ => by simp at hl
  | _ + 1, _, _ :: _, [], _ :: _, _, hl, _, _, _, _ => by simp at hl
/-- a polynomial in more variables -/
def sprP (n : Nat) (l : LZ) (p : PZ) : PZ := ⟨n, p.terms.map fun t => ⟨t.c, spr n 0 l.vars t.e⟩⟩
end Go.AL
/- system.spread: the walk; what it returns is valid. -/
namespace Go.AL
abbrev spT (n : Nat) (vs : List Int) (t : TZ) : TZ := ⟨t.c, spr n 0 vs t.e⟩
theorem sprP_ok {n : Nat} {l : LZ} {p : PZ} (hn : n ≤ 32) (hL : OkL n l) (hp : p ∈ l.polys) : OkP (sprP n l p) := by
  obtain ⟨hv, hP⟩ := hL.polys p hp
  have hinc : incK 0 n l.vars := incK_of hL.inc
  have hinc' : incK 0 (0 + (n : Int)) l.vars := hinc.imp_hi (by omega)
  have hlen : ∀ t ∈ p.terms, l.vars.length = t.e.length := fun t ht => by
    have := (hP.terms t ht).len; omega
  refine ⟨by simp [sprP], by simp [sprP]; omega, by simpa [sprP] using hP.len, fun t ht => ?_, fun i a b ha hb => ?_⟩
  · obtain ⟨u, hu, rfl⟩ := List.mem_map.1 ht
    have h := hP.terms u hu
    exact ⟨h.coef, h.nz, by simp [sprP, spr_length], spr_eok n 0 _ _ h.exps, by
      show sumL (spr n 0 l.vars u.e) ≤ 120
      rw [spr_sum n 0 _ _ (hlen u hu) hinc']; exact h.deg⟩
  · simp only [sprP, List.getElem?_map, Option.map_eq_some_iff] at ha hb
    obtain ⟨u, hu, rfl⟩ := ha
    obtain ⟨v, hv', rfl⟩ := hb
    show ordI (spr n 0 l.vars u.e) (spr n 0 l.vars v.e) < 0
    rw [spr_ord (hlen u (List.mem_of_getElem? hu)) (hlen v (List.mem_of_getElem? hv')) hinc]
    exact hP.ord i u v hu hv'
theorem sprP_val {n : Nat} {l : LZ} {p : PZ} (hL : OkL n l) (hp : p ∈ l.polys) {X : List Int} (hX : X.length = n) : pv X (sprP n l p) = pv (atOf X l.vars) p := by
  obtain ⟨hv, hP⟩ := hL.polys p hp
  have hinc' : incK 0 (0 + (n : Int)) l.vars := (incK_of hL.inc).imp_hi (by omega)
  rw [pv_sum, pv_sum]
  show sumL ((p.terms.map (spT n l.vars)).map (tv X)) = _
  rw [List.map_map]
  congr 1
  refine List.map_congr_left fun t ht => ?_
  have hl := (hP.terms t ht).len
  show zval t.c * prodE X (spr n 0 l.vars t.e) = zval t.c * prodE (atOf X l.vars) t.e
  rw [spr_prod n 0 l.vars t.e X (by omega) (by omega) hinc' hX X (fun i => by simp)]
  rfl
theorem sprP_wp {n : Nat} {l : LZ} {p : PZ} (h : WP p) : WP (sprP n l p) := fun t ht => by
  obtain ⟨u, hu, rfl⟩ := List.mem_map.1 ht; exact h u hu
theorem incK_get : ∀ {vs : List Int} {lo hi : Int}, incK lo hi vs → ∀ (j : Nat), incK lo hi (vs.take j)
  | [], _, _, _, j => by simp [incK]
  | v :: vs, lo, hi, h, 0 => trivial
  | v :: vs, lo, hi, ⟨h1, h2, h3⟩, j + 1 => ⟨h1, h2, incK_get h3 j⟩
end Go.AL
namespace Go.Proofs.YtfkjhjgihbnegaaGreat
open Go.AL

set_option maxHeartbeats 1000000 in
theorem spread_ok (n : Nat) (hn : n ≤ 32) (l : LZ) (p : PZ) (hL : OkL n l) (hp0 : l.polys[0]? = some p) : PureFn Tryz.prog 51 [aL l, aN n] (aP (sprP n l p)) := by
  obtain ⟨hv, hP⟩ := hL.polys p (List.mem_of_getElem? hp0)
  have hinc : incK 0 (0 + (n : Int)) l.vars := (incK_of hL.inc).imp_hi (by omega)
  have htl := hP.len
  have hvl := hL.vlen
  refine PureFn.of_body Tryz.func51 rfl Tryz.ntmps51 rfl rfl ?_
  refine AWP.seqS ?_
  repeat' (first |refine Fl.nilF ?_ |refine AWP.region ?_ |refine Fl.b rfl rfl rfl rfl ?_ |fail)
  refine ⟨?_⟩
  refine AWP.seqS ?_
  repeat' (first |refine Fl.v rfl rfl rfl ?_ |refine Fl.nilF ?_ |refine AWP.region ?_ |refine Fl.b rfl rfl rfl rfl ?_ |fail)
  refine ⟨?_⟩
  refine AWP.ent (Ent.nilcell 5 1 705 rfl rfl rfl 3 eT 68) ?_
  have hp0' : l.polys[(0 : Int).toNat]? = some p := hp0
  repeat' (first |refine Fl.v rfl rfl rfl ?_ |refine Fl.nilF ?_ |refine AWP.seq ?_ |refine AWP.region ?_ |refine AWP.block ?_ |refine Fl.elK rfl rfl rfl rfl rfl rfl rfl rfl (by assumption) (by omega) ?_ |fail)
  refine AWP.loop (G := Nat) (fun i => i ≤ p.terms.length) (fun i => St.of [] [(1, aN n), (2, .ptr 2 0), (4, .ptr 4 0), (5, .ptr 5 0), (17, .sl 3 eT p.terms), (18, aN p.terms.length), (19, aN i)] [(2, .cells (eL l) 51), (4, .cells [aN 0, .v (.slice none 0 0)] 45), (5, .cells [aN n, .row 700] 45), (700, .row 3 eT ((p.terms.take i).map (spT n l.vars)) 68)]) (fun i => p.terms.length - i) 0 (by omega) ?_ ?_
  · refine Ent.of [(700, 705)] ?_ ?_ rfl rfl
    repeat' (first | exact True.intro | refine ⟨⟨AV.Le.refl _, rfl⟩, ?_⟩ | refine ⟨⟨⟨_, rfl, BLe.cells (LeL.refl _)⟩, rfl⟩, ?_⟩ | refine ⟨⟨⟨_, rfl, BLe.row rfl⟩, rfl⟩, ?_⟩ | refine ⟨⟨⟨_, rfl, BLe.map rfl rfl⟩, rfl⟩, ?_⟩ | refine ⟨⟨⟨_, rfl, BLe.iter rfl rfl rfl rfl⟩, rfl⟩, ?_⟩ | refine ⟨⟨⟨_, rfl, BLe.iter rfl rfl ?_ rfl⟩, rfl⟩, ?_⟩ | refine ⟨⟨⟨_, rfl, BLe.row ?_⟩, rfl⟩, ?_⟩ | refine ⟨⟨⟨_, rfl, BLe.cells ?_⟩, rfl⟩, ?_⟩ | refine ⟨⟨AV.Le.int ?_, rfl⟩, ?_⟩ | refine ⟨⟨AV.Le.bool ?_, rfl⟩, ?_⟩ | refine ⟨⟨AV.Le.sl ?_, rfl⟩, ?_⟩ | refine ⟨⟨AV.Le.of_eq ?_, rfl⟩, ?_⟩ | refine ⟨⟨⟨_, rfl, BLe.map ?_ rfl⟩, rfl⟩, ?_⟩ | refine ⟨⟨⟨_, rfl, BLe.map ?_ ?_⟩, rfl⟩, ?_⟩ | fail)
  · intro i k0
    by_cases hi : i < p.terms.length
    · obtain ⟨t, ht⟩ : ∃ t, p.terms[i]? = some t := ⟨_, List.getElem?_eq_getElem hi⟩
      have hT := hP.terms t (List.mem_of_getElem? ht)
      have hel := hT.len
      have hli : ((p.terms.take i).map (spT n l.vars)).length = i := by simp; omega
      repeat' (first |refine Fl.v rfl rfl rfl ?_ |refine Fl.nilF ?_ |refine AWP.seq ?_ |refine AWP.region ?_ |refine Fl.b rfl rfl rfl rfl ?_ |(refine AWP.condD rfl ?_ ?_ <;> intro _ <;> try (exfalso; omega)) |refine AWP.block ?_ |refine AWP.skip ?_ |refine Fl.elK rfl rfl rfl rfl rfl rfl rfl rfl (by assumption) (by omega) ?_ |refine Fl.make rfl rfl rfl rfl rfl rfl rfl rfl rfl rfl eI 0 (by exact LeL.refl _) (by rfl) (by first | omega | (dsimp only; omega)) (by first | omega | (dsimp only; omega)) (by first | omega | (dsimp only; omega)) ?_ |fail)
      refine AWP.loop (G := Nat) (fun j => j ≤ t.e.length) (fun j => St.of [] [(1, aN n), (2, .ptr 2 0), (4, .ptr 4 0), (5, .ptr 5 0), (17, .sl 3 eT p.terms), (18, aN p.terms.length), (19, aN i), (7, .ptr 7 0), (8, .row 708), (26, aI t.e), (27, aN t.e.length), (28, aN j)] [(2, .cells (eL l) 51), (4, .cells [aN 0, .v (.slice none 0 0)] 45), (5, .cells [aN n, .row 700] 45), (700, .row 3 eT ((p.terms.take i).map (spT n l.vars)) 68), (7, .cells (eT t) 68), (708, .row 1 eI (spr n 0 (l.vars.take j) (t.e.take j)) 3)]) (fun j => t.e.length - j) 0 (by omega) ?_ ?_
      · refine Ent.of [(708, 24)] ?_ ?_ rfl rfl
        repeat' (first | exact True.intro | refine ⟨⟨AV.Le.refl _, rfl⟩, ?_⟩ | refine ⟨⟨⟨_, rfl, BLe.cells (LeL.refl _)⟩, rfl⟩, ?_⟩ | refine ⟨⟨⟨_, rfl, BLe.row rfl⟩, rfl⟩, ?_⟩ | refine ⟨⟨⟨_, rfl, BLe.map rfl rfl⟩, rfl⟩, ?_⟩ | refine ⟨⟨⟨_, rfl, BLe.iter rfl rfl rfl rfl⟩, rfl⟩, ?_⟩ | refine ⟨⟨⟨_, rfl, BLe.iter rfl rfl ?_ rfl⟩, rfl⟩, ?_⟩ | refine ⟨⟨⟨_, rfl, BLe.row ?_⟩, rfl⟩, ?_⟩ | refine ⟨⟨⟨_, rfl, BLe.cells ?_⟩, rfl⟩, ?_⟩ | refine ⟨⟨AV.Le.int ?_, rfl⟩, ?_⟩ | refine ⟨⟨AV.Le.bool ?_, rfl⟩, ?_⟩ | refine ⟨⟨AV.Le.sl ?_, rfl⟩, ?_⟩ | refine ⟨⟨AV.Le.of_eq ?_, rfl⟩, ?_⟩ | refine ⟨⟨⟨_, rfl, BLe.map ?_ rfl⟩, rfl⟩, ?_⟩ | refine ⟨⟨⟨_, rfl, BLe.map ?_ ?_⟩, rfl⟩, ?_⟩ | fail)
        simp only [List.take_zero, spr_nil]
        congr 1
      · intro j k1
        have hrl : (spr n 0 (l.vars.take j) (t.e.take j)).length = n := spr_length _ _ _ _
        by_cases hj : j < t.e.length
        · obtain ⟨x, hx⟩ : ∃ x, t.e[j]? = some x := ⟨_, List.getElem?_eq_getElem hj⟩
          obtain ⟨v, hv1⟩ : ∃ v, l.vars[j]? = some v := ⟨_, List.getElem?_eq_getElem (by omega)⟩
          have hvb := incB_mem hL.inc (List.mem_of_getElem? hv1)
          repeat' (first |refine Fl.v rfl rfl rfl ?_ |refine Fl.nilF ?_ |refine AWP.seq ?_ |refine AWP.region ?_ |refine Fl.w rfl rfl rfl (by first | exact True.intro | omega) ?_ |(refine AWP.condD rfl ?_ ?_ <;> intro _ <;> try (exfalso; omega)) |refine AWP.block ?_ |refine AWP.skip ?_ |refine Fl.elK rfl rfl rfl rfl rfl rfl rfl rfl (by assumption) (by omega) ?_ |refine Fl.rel rfl rfl rfl rfl rfl rfl rfl rfl (by omega) (by first | omega | (simp; omega)) ?_ |refine Fl.rst rfl rfl rfl rfl rfl rfl rfl rfl rfl rfl rfl (LeL.refl _) rfl (by first | omega | (simp; omega)) ?_ |fail)
          refine LoopEnd.of (j + 1) (by omega) (by omega) ?_
          refine Ent.of [] ?_ ?_ rfl rfl
          repeat' (first | exact True.intro | refine ⟨⟨AV.Le.refl _, rfl⟩, ?_⟩ | refine ⟨⟨⟨_, rfl, BLe.cells (LeL.refl _)⟩, rfl⟩, ?_⟩ | refine ⟨⟨⟨_, rfl, BLe.row rfl⟩, rfl⟩, ?_⟩ | refine ⟨⟨⟨_, rfl, BLe.map rfl rfl⟩, rfl⟩, ?_⟩ | refine ⟨⟨⟨_, rfl, BLe.iter rfl rfl rfl rfl⟩, rfl⟩, ?_⟩ | refine ⟨⟨⟨_, rfl, BLe.iter rfl rfl ?_ rfl⟩, rfl⟩, ?_⟩ | refine ⟨⟨⟨_, rfl, BLe.row ?_⟩, rfl⟩, ?_⟩ | refine ⟨⟨⟨_, rfl, BLe.cells ?_⟩, rfl⟩, ?_⟩ | refine ⟨⟨AV.Le.int ?_, rfl⟩, ?_⟩ | refine ⟨⟨AV.Le.bool ?_, rfl⟩, ?_⟩ | refine ⟨⟨AV.Le.sl ?_, rfl⟩, ?_⟩ | refine ⟨⟨AV.Le.of_eq ?_, rfl⟩, ?_⟩ | refine ⟨⟨⟨_, rfl, BLe.map ?_ rfl⟩, rfl⟩, ?_⟩ | refine ⟨⟨⟨_, rfl, BLe.map ?_ ?_⟩, rfl⟩, ?_⟩ | fail)
          rw [take_snoc hx, take_snoc hv1, spr_snoc n 0 (l.vars.take j) (t.e.take j) v x (by simp; omega) (by rw [← take_snoc hv1]; exact incK_get hinc (j + 1))]
          congr 1
          omega
        · have h1 : l.vars.take j = l.vars := List.take_of_length_le (by omega)
          have h2 : t.e.take j = t.e := List.take_of_length_le (by omega)
          rw [h1, h2]
          refine AWP.ent (Ent.freeze 708 rfl) ?_
          repeat' (first |refine Fl.v rfl rfl rfl ?_ |refine Fl.nilF ?_ |refine AWP.seq ?_ |refine AWP.region ?_ |refine Fl.b rfl rfl rfl rfl ?_ |(refine AWP.condD rfl ?_ ?_ <;> intro _ <;> try (exfalso; omega)) |refine AWP.exit ?_ |fail)
          refine Fl.lit rfl rfl rfl rfl rfl eT [spT n l.vars t] rfl rfl rfl rfl (by intro _ _; rfl) rfl ?_
          skip
          refine Fl.ap rfl rfl rfl rfl rfl rfl rfl rfl rfl rfl rfl rfl rfl (fun _ => rfl) (fun _ => rfl) (AV.Le.refl _) (by dsimp only [List.length_nil, List.length_cons]; omega) (by simp; omega) ?_
          repeat' (first |refine Fl.v rfl rfl rfl ?_ |refine Fl.nilF ?_ |refine AWP.region ?_ |refine Fl.w rfl rfl rfl (by first | exact True.intro | omega) ?_ |refine Fl.b rfl rfl rfl rfl ?_ |fail)
          refine LoopEnd.of (i + 1) (by omega) (by omega) ?_
          refine Ent.of [(700, 49)] ?_ ?_ rfl rfl
          repeat' (first | exact True.intro | refine ⟨⟨AV.Le.refl _, rfl⟩, ?_⟩ | refine ⟨⟨⟨_, rfl, BLe.cells (LeL.refl _)⟩, rfl⟩, ?_⟩ | refine ⟨⟨⟨_, rfl, BLe.row rfl⟩, rfl⟩, ?_⟩ | refine ⟨⟨⟨_, rfl, BLe.map rfl rfl⟩, rfl⟩, ?_⟩ | refine ⟨⟨⟨_, rfl, BLe.iter rfl rfl rfl rfl⟩, rfl⟩, ?_⟩ | refine ⟨⟨⟨_, rfl, BLe.iter rfl rfl ?_ rfl⟩, rfl⟩, ?_⟩ | refine ⟨⟨⟨_, rfl, BLe.row ?_⟩, rfl⟩, ?_⟩ | refine ⟨⟨⟨_, rfl, BLe.cells ?_⟩, rfl⟩, ?_⟩ | refine ⟨⟨AV.Le.int ?_, rfl⟩, ?_⟩ | refine ⟨⟨AV.Le.bool ?_, rfl⟩, ?_⟩ | refine ⟨⟨AV.Le.sl ?_, rfl⟩, ?_⟩ | refine ⟨⟨AV.Le.of_eq ?_, rfl⟩, ?_⟩ | refine ⟨⟨⟨_, rfl, BLe.map ?_ rfl⟩, rfl⟩, ?_⟩ | refine ⟨⟨⟨_, rfl, BLe.map ?_ ?_⟩, rfl⟩, ?_⟩ | fail)
          rw [take_snoc ht, List.map_append]; rfl
    · have hti : p.terms.take i = p.terms := List.take_of_length_le (by omega)
      rw [hti]
      refine AWP.ent (Ent.freeze 700 rfl) ?_
      repeat' (first |refine Fl.v rfl rfl rfl ?_ |refine Fl.nilF ?_ |refine AWP.seq ?_ |refine AWP.region ?_ |refine Fl.b rfl rfl rfl rfl ?_ |(refine AWP.condD rfl ?_ ?_ <;> intro _ <;> try (exfalso; omega)) |refine AWP.exit ?_ |refine AWP.ret ?_ |fail)
      exact RetOk.of rfl (AV.Le.refl _)
end Go.Proofs.YtfkjhjgihbnegaaGreat
/- system.One. -/
namespace Go.AL
theorem SumOk.uniq {V : Nat} {us : List UT} {x y : PZ} (h1 : SumOk V us x) (h2 : SumOk V us y) : x = y := by
  obtain ⟨s, a1, a2, _⟩ := h1
  obtain ⟨t, b1, b2, _⟩ := h2
  rw [a1] at b1; injection b1 with b1; subst b1
  rw [a2, b2]
noncomputable def mulV (V : Nat) (p q : PZ) : Option PZ := @dite _ (∃ x, ProdOk V p q x) (Classical.propDecidable _) (fun h => some (Classical.choose h)) fun _ => none
noncomputable def addV (V : Nat) (p q : PZ) : Option PZ := @dite _ (∃ x, SumOk V (plusU 1 p q) x) (Classical.propDecidable _) (fun h => some (Classical.choose h)) fun _ => none
theorem mulV_none {V : Nat} {p q : PZ} (h : mulV V p q = none) : ¬ ∃ x, ProdOk V p q x := fun k => by
  unfold mulV at h; rw [dif_pos k] at h; cases h
theorem mulV_some {V : Nat} {p q x : PZ} (h : mulV V p q = some x) : ProdOk V p q x := by
  unfold mulV at h
  split at h
  · rename_i k; injection h with h; subst h; exact Classical.choose_spec k
  · cases h
theorem addV_none {V : Nat} {p q : PZ} (h : addV V p q = none) : ¬ ∃ x, SumOk V (plusU 1 p q) x := fun k => by
  unfold addV at h; rw [dif_pos k] at h; cases h
theorem addV_some {V : Nat} {p q x : PZ} (h : addV V p q = some x) : SumOk V (plusU 1 p q) x := by
  unfold addV at h
  split at h
  · rename_i k; injection h with h; subst h; exact Classical.choose_spec k
  · cases h
/-- the polynomial of an equation -/
def eqP (n : Nat) (l : LZ) : PZ := sprP n l (l.polys.getD 0 ⟨0, []⟩)
noncomputable def oneV (V : Nat) : PZ → List LZ → Option PZ
  | s, [] => some s
  | s, l :: ls => match mulV V (eqP V l) (eqP V l) with
    | none => none
    | some q => match addV V s q with
      | none => none
      | some x => oneV V x ls
theorem oneV_drop {V : Nat} {s : PZ} {ls : List LZ} {i : Nat} {l : LZ} (h : ls[i]? = some l) : oneV V s (ls.drop i) = match mulV V (eqP V l) (eqP V l) with
    | none => none
    | some q => match addV V s q with
      | none => none
      | some x => oneV V x (ls.drop (i + 1)) := by
  have hi := (List.getElem?_eq_some_iff.1 h).1
  rw [List.drop_eq_getElem_cons hi, (List.getElem?_eq_some_iff.1 h).2]
  rfl
theorem wp_nil {n : Int} : WP ⟨n, []⟩ := fun t ht => by simp at ht
theorem okP_nil {V : Nat} (hV : V ≤ 32) : OkP ⟨V, []⟩ := ⟨by simp, by simp; omega, by simp, by simp, by simp⟩
theorem oneV_ok {V : Nat} (hV : V ≤ 32) (X : List Int) (hX : X.length = V) : ∀ {ls : List LZ} {s x : PZ}, (∀ l ∈ ls, OkL V l ∧ WL l ∧ l.kind = 0) → OkP s → WP s → s.vars = V → oneV V s ls = some x → OkP x ∧ WP x ∧ x.vars = V ∧ pv X x = pv X s + sqS X ls
  | [], s, x, _, h1, h2, h3, h => by
    simp only [oneV] at h; injection h with h; subst h
    exact ⟨h1, h2, h3, by simp [sqS, sumL]⟩
  | l :: ls, s, x, hl, h1, h2, h3, h => by
    obtain ⟨hL, hWL, hk⟩ := hl l (by simp)
    have hpl := hL.len
    rw [hk] at hpl
    have hpl : (l.polys.length : Int) = 1 := hpl
    obtain ⟨p, hp⟩ : ∃ p, l.polys = [p] := by
      cases hq : l.polys with
      | nil => rw [hq] at hpl; simp at hpl
      | cons a b => cases b with
        | nil => exact ⟨a, rfl⟩
        | cons c d => rw [hq] at hpl; simp at hpl; omega
    have hpm : p ∈ l.polys := by rw [hp]; simp
    have he : eqP V l = sprP V l p := by unfold eqP; rw [hp]; rfl
    have o1 := sprP_ok hV hL hpm
    have o2 : WP (sprP V l p) := sprP_wp (hWL p hpm)
    have o3 := sprP_val hL hpm hX
    have hfv : fv X l = pv X (sprP V l p) := by
      rw [o3]; unfold fv lvals; rw [hp]; rfl
    simp only [oneV, he] at h
    cases hm : mulV V (sprP V l p) (sprP V l p) with
    | none => rw [hm] at h; cases h
    | some q =>
      rw [hm] at h
      simp only at h
      obtain ⟨d1, d2, d3⟩ := mulV_some hm
      obtain ⟨q1, q2, q3⟩ := d3.okp
      have hus : UOk V (timesU (sprP V l p) (sprP V l p)) := fun u hu => by
        obtain ⟨t, ht, hu⟩ := List.mem_flatMap.1 hu
        obtain ⟨v, hv, rfl⟩ := List.mem_map.1 hu
        exact timesU_ok o1 o1 rfl rfl d1 ht hv
      have hval := d3.val hV hus X
      rw [uv_times X _ _ (fun t ht u hu => ⟨(o1.terms t ht).exps, (o1.terms u hu).exps, by have := (o1.terms t ht).len; have := (o1.terms u hu).len; omega⟩)] at hval
      cases ha : addV V s q with
      | none => rw [ha] at h; cases h
      | some y =>
        rw [ha] at h
        simp only at h
        have a1 := addV_some ha
        obtain ⟨y1, y2, y3⟩ := a1.okp
        have hus2 : UOk V (plusU 1 s q) := fun u hu => by
          rcases List.mem_append.1 hu with hu | hu
          · obtain ⟨t, ht, rfl⟩ := List.mem_map.1 hu; exact h1.uok h3 ht
          · obtain ⟨t, ht, rfl⟩ := List.mem_map.1 hu; exact q1.uok q2 ht
        have hval2 := a1.val hV hus2 X
        rw [uv_plus] at hval2
        obtain ⟨z1, z2, z3, z4⟩ := oneV_ok hV X hX (fun m hm => hl m (by simp [hm])) y1 y3 y2 h
        refine ⟨z1, z2, z3, ?_⟩
        rw [z4, hval2, hval]
        show _ = pv X s + (fv X l * fv X l + sqS X ls)
        rw [hfv]; omega
end Go.AL
namespace Go.Proofs.YtfkjhjgihbnegaaGreat
open Go.AL

theorem pMulV (V : Nat) (hV : V ≤ 32) (p q : PZ) (hwp : WP p) (hwq : WP q) (hp : OkP p) (hq : OkP q) (hpv : p.vars = V) (hqv : q.vars = V) :
    (∀ x, mulV V p q = some x → PureFn Tryz.prog 52 [aP p, aP q] (.tup [aP x, aN 0])) ∧ (mulV V p q = none → PureFn Tryz.prog 52 [aP p, aP q] (.tup [aP ⟨0, []⟩, aN 4])) := by
  refine ⟨fun x hx => ?_, fun hx => ?_⟩
  · have h := mulV_some hx
    exact pMul_ok V hV p q hwp hwq hp hq hpv hqv _ (fun y hy => by rw [h.2.2.uniq hy.2.2]) (fun k => absurd ⟨x, h⟩ k)
  · have h := mulV_none hx
    exact pMul_ok V hV p q hwp hwq hp hq hpv hqv _ (fun y hy => absurd ⟨y, hy⟩ h) (fun _ => rfl)
theorem pAddV (V : Nat) (hV : V ≤ 32) (p q : PZ) (hwp : WP p) (hwq : WP q) (hp : OkP p) (hq : OkP q) (hpv : p.vars = V) (hqv : q.vars = V) :
    (∀ x, addV V p q = some x → PureFn Tryz.prog 53 [aP p, aP q] (.tup [aP x, aN 0])) ∧ (addV V p q = none → PureFn Tryz.prog 53 [aP p, aP q] (.tup [aP ⟨0, []⟩, aN 4])) := by
  refine ⟨fun x hx => ?_, fun hx => ?_⟩
  · have h := addV_some hx
    exact pAdd_ok V hV p q hwp hwq hp hq hpv hqv _ (fun y hy => by rw [h.uniq hy]) (fun k => absurd ⟨x, h⟩ k)
  · have h := addV_none hx
    exact pAdd_ok V hV p q hwp hwq hp hq hpv hqv _ (fun y hy => absurd ⟨y, hy⟩ h) (fun _ => rfl)

set_option maxHeartbeats 1000000 in
theorem One_ok (s : SZ) (hw : WS s) (hs : OkS s) (hk : ∀ l ∈ s.links, l.kind = 0) (r : AV) (V : Nat) (hVs : s.vars = V) (hr0 : 32 < V → r = .tup [aP ⟨0, []⟩, aN 4]) (hr1 : V ≤ 32 → ∀ x, oneV V ⟨V, []⟩ s.links = some x → r = .tup [aP x, aN 0]) (hr2 : V ≤ 32 → oneV V ⟨V, []⟩ s.links = none → r = .tup [aP ⟨0, []⟩, aN 4]) :
    PureFn Tryz.prog 20 [aS s] r := by
  refine PureFn.of_body Tryz.func20 rfl Tryz.ntmps20 rfl rfl ?_
  have hsl := hs.len
  have hv0 := hs.v0
  repeat' (first |refine Fl.v rfl rfl rfl ?_ |refine Fl.nilF ?_ |refine AWP.seq ?_ |refine AWP.region ?_ |refine Fl.b rfl rfl rfl rfl ?_ |refine AWP.block ?_ |fail)
  refine Fl.call rfl (sValid_ok s hw true ⟨fun _ => hs, fun _ => rfl⟩) rfl rfl rfl (LeL.refl _) ?_
  repeat' (first |refine Fl.v rfl rfl rfl ?_ |refine Fl.nilF ?_ |refine AWP.seq ?_ |refine AWP.region ?_ |refine AWP.condF rfl ?_ |fail)
  refine Fl.call rfl (equations_ok s (by omega) true ⟨fun _ => hk, fun _ => rfl⟩) rfl rfl rfl (LeL.refl _) ?_
  repeat' (first |refine Fl.v rfl rfl rfl ?_ |refine Fl.nilF ?_ |refine AWP.seq ?_ |refine AWP.region ?_ |refine Fl.b rfl rfl rfl rfl ?_ |refine AWP.condF rfl ?_ |(refine AWP.condD rfl ?_ ?_ <;> intro _ <;> try (exfalso; omega)) |refine AWP.block ?_ |refine AWP.skip ?_ |refine AWP.ret ?_ |fail)
  · rename_i h
    rw [hr0 (by omega)]
    exact RetOk.of rfl (AV.Le.tup (LeL.cons aP_zero (LeL.refl _)))
  rename_i h
  have hV : V ≤ 32 := by omega
  have hr1 := hr1 hV
  have hr2 := hr2 hV
  refine AWP.loop (G := Nat × PZ) (fun (i, m) => i ≤ s.links.length ∧ OkP m ∧ WP m ∧ m.vars = V ∧ oneV V m (s.links.drop i) = oneV V ⟨V, []⟩ s.links) (fun (i, m) => St.of [] [(1, .ptr 1 0), (2, .ptr 2 0), (4, .ptr 4 0), (29, .sl 3 eL s.links), (30, aN s.links.length), (31, aN i)] [(1, .cells [aN s.vars, .sl 3 eL s.links] 24), (2, .cells [aN 0, .v (.slice none 0 0)] 45), (4, .cells (eP m) 45)]) (fun (i, m) => s.links.length - i) (0, ⟨V, []⟩) ⟨by omega, okP_nil hV, wp_nil, rfl, rfl⟩ ?_ ?_
  · refine Ent.of [] ?_ ?_ rfl rfl
    repeat' (first | exact True.intro | refine ⟨⟨AV.Le.refl _, rfl⟩, ?_⟩ | refine ⟨⟨⟨_, rfl, BLe.cells (LeL.refl _)⟩, rfl⟩, ?_⟩ | refine ⟨⟨⟨_, rfl, BLe.row rfl⟩, rfl⟩, ?_⟩ | refine ⟨⟨⟨_, rfl, BLe.map rfl rfl⟩, rfl⟩, ?_⟩ | refine ⟨⟨⟨_, rfl, BLe.iter rfl rfl rfl rfl⟩, rfl⟩, ?_⟩ | refine ⟨⟨⟨_, rfl, BLe.iter rfl rfl ?_ rfl⟩, rfl⟩, ?_⟩ | refine ⟨⟨⟨_, rfl, BLe.row ?_⟩, rfl⟩, ?_⟩ | refine ⟨⟨⟨_, rfl, BLe.cells ?_⟩, rfl⟩, ?_⟩ | refine ⟨⟨AV.Le.int ?_, rfl⟩, ?_⟩ | refine ⟨⟨AV.Le.bool ?_, rfl⟩, ?_⟩ | refine ⟨⟨AV.Le.sl ?_, rfl⟩, ?_⟩ | refine ⟨⟨AV.Le.of_eq ?_, rfl⟩, ?_⟩ | refine ⟨⟨⟨_, rfl, BLe.map ?_ rfl⟩, rfl⟩, ?_⟩ | refine ⟨⟨⟨_, rfl, BLe.map ?_ ?_⟩, rfl⟩, ?_⟩ | fail)
    exact LeL.cons (AV.Le.int hVs) (LeL.cons (AV.Le.nil 3 eT) LeL.nil)
  · intro ⟨i, m⟩ ⟨k0, k1, k2, k3, k4⟩
    by_cases hi : i < s.links.length
    · obtain ⟨l, hl⟩ : ∃ l, s.links[i]? = some l := ⟨_, List.getElem?_eq_getElem hi⟩
      have hlm := List.mem_of_getElem? hl
      have hL := hs.links l hlm
      rw [hVs] at hL
      have hpl := hL.len
      rw [hk l hlm] at hpl
      have hpl : (l.polys.length : Int) = 1 := hpl
      obtain ⟨p, hp⟩ : ∃ p, l.polys = [p] := by
        cases hq : l.polys with
        | nil => rw [hq] at hpl; simp at hpl
        | cons a b => cases b with
          | nil => exact ⟨a, rfl⟩
          | cons c d => rw [hq] at hpl; simp at hpl; omega
      have hpm : p ∈ l.polys := by rw [hp]; simp
      have he : eqP V l = sprP V l p := by unfold eqP; rw [hp]; rfl
      have o1 := sprP_ok hV hL hpm
      have o2 : WP (sprP V l p) := sprP_wp (hw l hlm p hpm)
      have hm := pMulV V hV _ _ o2 o2 o1 o1 rfl rfl
      have hsp := spread_ok V hV l p hL (by rw [hp]; rfl)
      rw [oneV_drop hl, he] at k4
      cases hmv : mulV V (sprP V l p) (sprP V l p) with
      | none =>
        rw [hmv] at k4
        rw [hr2 k4.symm]
        repeat' (first |refine Fl.v rfl rfl rfl ?_ |refine Fl.nilF ?_ |refine AWP.seq ?_ |refine AWP.region ?_ |refine Fl.b rfl rfl rfl rfl ?_ |(refine AWP.condD rfl ?_ ?_ <;> intro _ <;> try (exfalso; omega)) |refine AWP.block ?_ |refine AWP.skip ?_ |refine Fl.elK rfl rfl rfl rfl rfl rfl rfl rfl (by assumption) (by omega) ?_ |fail)
        refine Fl.call rfl hsp rfl rfl rfl (LeL.cons (AV.Le.refl _) (LeL.cons (AV.Le.int hVs) LeL.nil)) ?_
        repeat' (first |refine Fl.v rfl rfl rfl ?_ |refine Fl.nilF ?_ |refine AWP.seq ?_ |refine AWP.region ?_ |refine Fl.b rfl rfl rfl rfl ?_ |fail)
        refine Fl.call rfl (hm.2 hmv) rfl rfl rfl (LeL.refl _) ?_
        repeat' (first |refine Fl.v rfl rfl rfl ?_ |refine Fl.nilF ?_ |refine AWP.seq ?_ |refine AWP.region ?_ |refine Fl.b rfl rfl rfl rfl ?_ |refine AWP.condT rfl ?_ |refine AWP.condF rfl ?_ |refine AWP.skip ?_ |refine AWP.ret ?_ |fail)
        exact RetOk.of rfl (AV.Le.tup (LeL.cons aP_zero (LeL.refl _)))
      | some q =>
        rw [hmv] at k4
        simp only at k4
        obtain ⟨q1, q2, q3⟩ := (mulV_some hmv).2.2.okp
        have ha := pAddV V hV m q k2 q3 k1 q1 k3 q2
        cases hav : addV V m q with
        | none =>
          rw [hav] at k4
          rw [hr2 k4.symm]
          repeat' (first |refine Fl.v rfl rfl rfl ?_ |refine Fl.nilF ?_ |refine AWP.seq ?_ |refine AWP.region ?_ |refine Fl.b rfl rfl rfl rfl ?_ |(refine AWP.condD rfl ?_ ?_ <;> intro _ <;> try (exfalso; omega)) |refine AWP.block ?_ |refine AWP.skip ?_ |refine Fl.elK rfl rfl rfl rfl rfl rfl rfl rfl (by assumption) (by omega) ?_ |fail)
          refine Fl.call rfl hsp rfl rfl rfl (LeL.cons (AV.Le.refl _) (LeL.cons (AV.Le.int hVs) LeL.nil)) ?_
          repeat' (first |refine Fl.v rfl rfl rfl ?_ |refine Fl.nilF ?_ |refine AWP.seq ?_ |refine AWP.region ?_ |refine Fl.b rfl rfl rfl rfl ?_ |fail)
          refine Fl.call rfl (hm.1 q hmv) rfl rfl rfl (LeL.refl _) ?_
          repeat' (first |refine Fl.v rfl rfl rfl ?_ |refine Fl.nilF ?_ |refine AWP.seq ?_ |refine AWP.region ?_ |refine Fl.b rfl rfl rfl rfl ?_ |refine AWP.condT rfl ?_ |fail)
          refine Fl.call rfl (ha.2 hav) rfl rfl rfl (LeL.refl _) ?_
          repeat' (first |refine Fl.v rfl rfl rfl ?_ |refine Fl.nilF ?_ |refine AWP.seq ?_ |refine AWP.region ?_ |refine Fl.b rfl rfl rfl rfl ?_ |refine AWP.condT rfl ?_ |refine AWP.ret ?_ |fail)
          exact RetOk.of rfl (AV.Le.tup (LeL.cons aP_zero (LeL.refl _)))
        | some x =>
          rw [hav] at k4
          simp only at k4
          obtain ⟨x1, x2, x3⟩ := (addV_some hav).okp
          repeat' (first |refine Fl.v rfl rfl rfl ?_ |refine Fl.nilF ?_ |refine AWP.seq ?_ |refine AWP.region ?_ |refine Fl.b rfl rfl rfl rfl ?_ |(refine AWP.condD rfl ?_ ?_ <;> intro _ <;> try (exfalso; omega)) |refine AWP.block ?_ |refine AWP.skip ?_ |refine Fl.elK rfl rfl rfl rfl rfl rfl rfl rfl (by assumption) (by omega) ?_ |fail)
          refine Fl.call rfl hsp rfl rfl rfl (LeL.cons (AV.Le.refl _) (LeL.cons (AV.Le.int hVs) LeL.nil)) ?_
          repeat' (first |refine Fl.v rfl rfl rfl ?_ |refine Fl.nilF ?_ |refine AWP.seq ?_ |refine AWP.region ?_ |refine Fl.b rfl rfl rfl rfl ?_ |fail)
          refine Fl.call rfl (hm.1 q hmv) rfl rfl rfl (LeL.refl _) ?_
          repeat' (first |refine Fl.v rfl rfl rfl ?_ |refine Fl.nilF ?_ |refine AWP.seq ?_ |refine AWP.region ?_ |refine Fl.b rfl rfl rfl rfl ?_ |refine AWP.condT rfl ?_ |fail)
          refine Fl.call rfl (ha.1 x hav) rfl rfl rfl (LeL.refl _) ?_
          repeat' (first |refine Fl.v rfl rfl rfl ?_ |refine Fl.nilF ?_ |refine AWP.seq ?_ |refine AWP.region ?_ |refine Fl.w rfl rfl rfl (by first | exact True.intro | omega) ?_ |refine Fl.b rfl rfl rfl rfl ?_ |refine AWP.condF rfl ?_ |refine AWP.skip ?_ |fail)
          refine LoopEnd.of (i + 1, x) ⟨by omega, x1, x3, x2, k4⟩ (by simp only; omega) ?_
          refine Ent.of [] ?_ ?_ rfl rfl
          repeat' (first | exact True.intro | refine ⟨⟨AV.Le.refl _, rfl⟩, ?_⟩ | refine ⟨⟨⟨_, rfl, BLe.cells (LeL.refl _)⟩, rfl⟩, ?_⟩ | refine ⟨⟨⟨_, rfl, BLe.row rfl⟩, rfl⟩, ?_⟩ | refine ⟨⟨⟨_, rfl, BLe.map rfl rfl⟩, rfl⟩, ?_⟩ | refine ⟨⟨⟨_, rfl, BLe.iter rfl rfl rfl rfl⟩, rfl⟩, ?_⟩ | refine ⟨⟨⟨_, rfl, BLe.iter rfl rfl ?_ rfl⟩, rfl⟩, ?_⟩ | refine ⟨⟨⟨_, rfl, BLe.row ?_⟩, rfl⟩, ?_⟩ | refine ⟨⟨⟨_, rfl, BLe.cells ?_⟩, rfl⟩, ?_⟩ | refine ⟨⟨AV.Le.int ?_, rfl⟩, ?_⟩ | refine ⟨⟨AV.Le.bool ?_, rfl⟩, ?_⟩ | refine ⟨⟨AV.Le.sl ?_, rfl⟩, ?_⟩ | refine ⟨⟨AV.Le.of_eq ?_, rfl⟩, ?_⟩ | refine ⟨⟨⟨_, rfl, BLe.map ?_ rfl⟩, rfl⟩, ?_⟩ | refine ⟨⟨⟨_, rfl, BLe.map ?_ ?_⟩, rfl⟩, ?_⟩ | fail)
    · have hd : s.links.drop i = [] := List.drop_of_length_le (by omega)
      rw [hd] at k4
      rw [hr1 m k4.symm]
      repeat' (first |refine Fl.v rfl rfl rfl ?_ |refine Fl.nilF ?_ |refine AWP.seq ?_ |refine AWP.region ?_ |refine Fl.b rfl rfl rfl rfl ?_ |(refine AWP.condD rfl ?_ ?_ <;> intro _ <;> try (exfalso; omega)) |refine AWP.exit ?_ |refine AWP.ret ?_ |fail)
      exact RetOk.of rfl (AV.Le.refl _)
end Go.Proofs.YtfkjhjgihbnegaaGreat
namespace Go.AL
theorem undI_zero {x : Int} (h : 0 ≤ x) : undI x 0 ↔ x = 0 := by
  unfold undI
  rw [show (0 : Int).toNat = 0 from rfl, Nat.and_zero]
  omega
theorem undI_wordsD : ∀ {a b : List Int}, WOk a → WOk b → (undI (val a) (val b) ↔ ∀ (j : Nat) (x : Int), a[j]? = some x → undI x (b[j]?.getD 0))
  | [], b, _, _ => by
    simp only [val_nil]
    constructor
    · intro _ j x h; simp at h
    · intro _; unfold undI; simp
  | x :: a, [], ha, hb => by
    have hx := ha.head
    have h0 : val ([] : List Int) = val [(0 : Int)] := by simp [val]
    rw [h0, undI_cons hx.1 hx.2 (by omega) (by omega) (val_nonneg ha.tail) (val_nonneg hb), undI_wordsD ha.tail hb]
    constructor
    · intro ⟨h1, h2⟩ j y hy
      cases j with
      | zero => simp at hy; subst hy; simpa using h1
      | succ j => simpa using h2 j y (by simpa using hy)
    · intro h
      refine ⟨by simpa using h 0 x rfl, fun j y hy => ?_⟩
      simpa using h (j + 1) y (by simpa using hy)
  | x :: a, y :: b, ha, hb => by
    have hx := ha.head
    have hy := hb.head
    rw [undI_cons hx.1 hx.2 hy.1 hy.2 (val_nonneg ha.tail) (val_nonneg hb.tail), undI_wordsD ha.tail hb.tail]
    constructor
    · intro ⟨h1, h2⟩ j z hz
      cases j with
      | zero => simp at hz; subst hz; simpa using h1
      | succ j => simpa using h2 j z (by simpa using hz)
    · intro h
      refine ⟨by simpa using h 0 x rfl, fun j z hz => ?_⟩
      simpa using h (j + 1) z (by simpa using hz)
theorem and_eq {x y : Int} (h : 0 ≤ x) : bitN .and x y = x ↔ undI x y := by
  show ((x.toNat &&& y.toNat : Nat) : Int) = x ↔ _
  unfold undI
  omega
end Go.AL
namespace Go.Proofs.YtfkjhjgihbnegaaGreat
open Go.AL

theorem rAll_ok (zs : List Z) (hz : ∀ z ∈ zs, WOk z.w) (hm : ∀ z ∈ zs, z.w.length ≤ 9223372036854775807) (hl : zs.length ≤ 1000000000) : PureFn Tryz.prog 14 [.sl 2 eZ zs] (aB (decide (∀ z ∈ zs, OkZ z))) := by
  refine PureFn.of_body Tryz.func14 rfl Tryz.ntmps14 rfl rfl ?_
  repeat' (first |refine Fl.v rfl rfl rfl ?_ |refine Fl.nilF ?_ |refine AWP.seq ?_ |refine AWP.region ?_ |refine AWP.block ?_ |fail)
  refine AWP.loop (G := Nat) (fun i => i ≤ zs.length ∧ ∀ z ∈ zs.take i, OkZ z) (fun i => St.of [] [(0, .sl 2 eZ zs), (3, aN i)] []) (fun i => zs.length - i) 0 ⟨by omega, by simp⟩ ?_ ?_
  · refine Ent.of [] ?_ ?_ rfl rfl
    repeat' (first | exact True.intro |refine ⟨⟨AV.Le.refl _, rfl⟩, ?_⟩ |refine ⟨⟨⟨_, rfl, BLe.cells (LeL.refl _)⟩, rfl⟩, ?_⟩ |refine ⟨⟨⟨_, rfl, BLe.row rfl⟩, rfl⟩, ?_⟩ |refine ⟨⟨⟨_, rfl, BLe.row ?_⟩, rfl⟩, ?_⟩ |refine ⟨⟨⟨_, rfl, BLe.cells ?_⟩, rfl⟩, ?_⟩ |refine ⟨⟨AV.Le.int ?_, rfl⟩, ?_⟩ |refine ⟨⟨AV.Le.bool ?_, rfl⟩, ?_⟩ |refine ⟨⟨AV.Le.sl ?_, rfl⟩, ?_⟩ |refine ⟨⟨AV.Le.of_eq ?_, rfl⟩, ?_⟩ | fail)
  · intro i ⟨h0, h1⟩
    by_cases hi : i < zs.length
    · obtain ⟨z, hzi⟩ : ∃ z, zs[i]? = some z := ⟨_, List.getElem?_eq_getElem hi⟩
      have hm1 := List.mem_of_getElem? hzi
      repeat' (first |refine Fl.v rfl rfl rfl ?_ |refine Fl.nilF ?_ |refine AWP.seq ?_ |refine AWP.region ?_ |(refine AWP.condD rfl ?_ ?_ <;> intro _ <;> try (exfalso; omega)) |refine AWP.block ?_ |refine AWP.skip ?_ |refine Fl.elK rfl rfl rfl rfl rfl rfl rfl rfl (by assumption) (by omega) ?_ |fail)
      refine Fl.call rfl (rValid_ok z (hz z hm1) (hm z hm1)) rfl rfl rfl (LeL.refl _) ?_
      repeat' (first |refine Fl.v rfl rfl rfl ?_ |refine Fl.nilF ?_ |refine AWP.seq ?_ |refine AWP.region ?_ |refine Fl.w rfl rfl rfl (by first | exact True.intro | omega) ?_ |(refine AWP.condN rfl ?_ ?_ <;> intro _ <;> try (exfalso; omega)) |refine AWP.skip ?_ |refine AWP.ret ?_ |fail)
      · rename_i h
        exact RetOk.of rfl (AV.Le.bool (Eq.symm (decide_eq_false fun k => h (k z hm1))))
      · rename_i h
        refine LoopEnd.of (i + 1) ⟨by omega, all_take_succ hzi h1 h⟩ (by omega) ?_
        refine Ent.of [] ?_ ?_ rfl rfl
        repeat' (first | exact True.intro |refine ⟨⟨AV.Le.refl _, rfl⟩, ?_⟩ |refine ⟨⟨⟨_, rfl, BLe.cells (LeL.refl _)⟩, rfl⟩, ?_⟩ |refine ⟨⟨⟨_, rfl, BLe.row rfl⟩, rfl⟩, ?_⟩ |refine ⟨⟨⟨_, rfl, BLe.row ?_⟩, rfl⟩, ?_⟩ |refine ⟨⟨⟨_, rfl, BLe.cells ?_⟩, rfl⟩, ?_⟩ |refine ⟨⟨AV.Le.int ?_, rfl⟩, ?_⟩ |refine ⟨⟨AV.Le.bool ?_, rfl⟩, ?_⟩ |refine ⟨⟨AV.Le.sl ?_, rfl⟩, ?_⟩ |refine ⟨⟨AV.Le.of_eq ?_, rfl⟩, ?_⟩ | fail)
    · repeat' (first |refine Fl.v rfl rfl rfl ?_ |refine Fl.nilF ?_ |refine AWP.seq ?_ |refine AWP.region ?_ |(refine AWP.condD rfl ?_ ?_ <;> intro _ <;> try (exfalso; omega)) |refine AWP.exit ?_ |refine AWP.ret ?_ |fail)
      rw [List.take_of_length_le (by omega)] at h1
      exact RetOk.of rfl (AV.Le.bool (Eq.symm (decide_eq_true h1)))
theorem rNaturals_ok (X : List Int) (hl : X.length ≤ 1000000000) : PureFn Tryz.prog 15 [.sl 2 eX X] (aB (decide (∀ x ∈ X, 0 ≤ x))) := by
  refine PureFn.of_body Tryz.func15 rfl Tryz.ntmps15 rfl rfl ?_
  repeat' (first |refine Fl.v rfl rfl rfl ?_ |refine Fl.nilF ?_ |refine AWP.seq ?_ |refine AWP.region ?_ |refine AWP.block ?_ |fail)
  refine AWP.loop (G := Nat) (fun i => i ≤ X.length ∧ ∀ z ∈ X.take i, 0 ≤ z) (fun i => St.of [] [(0, .sl 2 eX X), (3, aN i)] []) (fun i => X.length - i) 0 ⟨by omega, by simp⟩ ?_ ?_
  · refine Ent.of [] ?_ ?_ rfl rfl
    repeat' (first | exact True.intro |refine ⟨⟨AV.Le.refl _, rfl⟩, ?_⟩ |refine ⟨⟨⟨_, rfl, BLe.cells (LeL.refl _)⟩, rfl⟩, ?_⟩ |refine ⟨⟨⟨_, rfl, BLe.row rfl⟩, rfl⟩, ?_⟩ |refine ⟨⟨⟨_, rfl, BLe.row ?_⟩, rfl⟩, ?_⟩ |refine ⟨⟨⟨_, rfl, BLe.cells ?_⟩, rfl⟩, ?_⟩ |refine ⟨⟨AV.Le.int ?_, rfl⟩, ?_⟩ |refine ⟨⟨AV.Le.bool ?_, rfl⟩, ?_⟩ |refine ⟨⟨AV.Le.sl ?_, rfl⟩, ?_⟩ |refine ⟨⟨AV.Le.of_eq ?_, rfl⟩, ?_⟩ | fail)
  · intro i ⟨h0, h1⟩
    by_cases hi : i < X.length
    · obtain ⟨z, hzi⟩ : ∃ z, X[i]? = some z := ⟨_, List.getElem?_eq_getElem hi⟩
      have hm1 := List.mem_of_getElem? hzi
      repeat' (first |refine Fl.v rfl rfl rfl ?_ |refine Fl.nilF ?_ |refine AWP.seq ?_ |refine AWP.region ?_ |refine Fl.w rfl rfl rfl (by first | exact True.intro | omega) ?_ |(refine AWP.condD rfl ?_ ?_ <;> intro _ <;> try (exfalso; omega)) |refine AWP.block ?_ |refine AWP.skip ?_ |refine AWP.ret ?_ |refine Fl.elK rfl rfl rfl rfl rfl rfl rfl rfl (by assumption) (by omega) ?_ |fail)
      · rename_i h
        exact RetOk.of rfl (AV.Le.bool (Eq.symm (decide_eq_false fun k => by have := k z hm1; omega)))
      · rename_i h
        refine LoopEnd.of (i + 1) ⟨by omega, all_take_succ hzi h1 (by omega)⟩ (by omega) ?_
        refine Ent.of [] ?_ ?_ rfl rfl
        repeat' (first | exact True.intro |refine ⟨⟨AV.Le.refl _, rfl⟩, ?_⟩ |refine ⟨⟨⟨_, rfl, BLe.cells (LeL.refl _)⟩, rfl⟩, ?_⟩ |refine ⟨⟨⟨_, rfl, BLe.row rfl⟩, rfl⟩, ?_⟩ |refine ⟨⟨⟨_, rfl, BLe.row ?_⟩, rfl⟩, ?_⟩ |refine ⟨⟨⟨_, rfl, BLe.cells ?_⟩, rfl⟩, ?_⟩ |refine ⟨⟨AV.Le.int ?_, rfl⟩, ?_⟩ |refine ⟨⟨AV.Le.bool ?_, rfl⟩, ?_⟩ |refine ⟨⟨AV.Le.sl ?_, rfl⟩, ?_⟩ |refine ⟨⟨AV.Le.of_eq ?_, rfl⟩, ?_⟩ | fail)
    · repeat' (first |refine Fl.v rfl rfl rfl ?_ |refine Fl.nilF ?_ |refine AWP.seq ?_ |refine AWP.region ?_ |(refine AWP.condD rfl ?_ ?_ <;> intro _ <;> try (exfalso; omega)) |refine AWP.exit ?_ |refine AWP.ret ?_ |fail)
      rw [List.take_of_length_le (by omega)] at h1
      exact RetOk.of rfl (AV.Le.bool (Eq.symm (decide_eq_true h1)))
theorem rCmp_ok (x y : Int) (hx : lenI x ≤ 100000) (hy : lenI y ≤ 100000) : PureFn Tryz.prog 85 [aX x, aX y] (aN (cmpI x y)) := by
  refine PureFn.of_body Tryz.func85 rfl Tryz.ntmps85 rfl rfl ?_
  have h1 := rorder_ok x.natAbs y.natAbs (by omega) (by omega) hx hy
  have h2 := rorder_ok y.natAbs x.natAbs (by omega) (by omega) hy hx
  have c := cmpI_cases x y
  by_cases hx0 : x < 0
  · by_cases hy0 : y < 0
    · have c2 := cmpI_cases (y.natAbs : Int) (x.natAbs : Int)
      repeat' (first |refine Fl.v rfl rfl rfl ?_ |refine Fl.nilF ?_ |refine AWP.seq ?_ |refine AWP.region ?_ |refine Fl.b rfl rfl rfl rfl ?_ |refine Fl.skip rfl rfl ?_ |refine AWP.condF rfl ?_ |(refine AWP.condD rfl ?_ ?_ <;> intro _ <;> try (exfalso; omega)) |(refine AWP.condN rfl ?_ ?_ <;> intro _ <;> try (exfalso; omega)) |refine AWP.block ?_ |(refine Fl.splitD rfl rfl ?_ ?_ <;> intro _ <;> try (exfalso; omega)) |(refine Fl.splitN rfl rfl ?_ ?_ <;> intro _ <;> try (exfalso; omega)) |fail)
      refine Fl.call rfl (h2) rfl rfl rfl (LeL.refl _) ?_
      repeat' (first |refine Fl.v rfl rfl rfl ?_ |refine Fl.nilF ?_ |refine AWP.ret ?_ |fail)
      exact RetOk.of rfl (AV.Le.int (by omega))
    · repeat' (first |refine Fl.v rfl rfl rfl ?_ |refine Fl.nilF ?_ |refine AWP.seq ?_ |refine AWP.region ?_ |refine Fl.b rfl rfl rfl rfl ?_ |(refine AWP.condN rfl ?_ ?_ <;> intro _ <;> try (exfalso; omega)) |refine AWP.block ?_ |refine AWP.ret ?_ |(refine Fl.splitD rfl rfl ?_ ?_ <;> intro _ <;> try (exfalso; omega)) |fail)
      exact RetOk.of rfl (AV.Le.int (by omega))
  · by_cases hy0 : y < 0
    · repeat' (first |refine Fl.v rfl rfl rfl ?_ |refine Fl.nilF ?_ |refine AWP.seq ?_ |refine AWP.region ?_ |refine Fl.b rfl rfl rfl rfl ?_ |refine Fl.skip rfl rfl ?_ |refine AWP.condF rfl ?_ |(refine AWP.condD rfl ?_ ?_ <;> intro _ <;> try (exfalso; omega)) |refine AWP.block ?_ |refine AWP.ret ?_ |(refine Fl.splitD rfl rfl ?_ ?_ <;> intro _ <;> try (exfalso; omega)) |(refine Fl.splitN rfl rfl ?_ ?_ <;> intro _ <;> try (exfalso; omega)) |fail)
      exact RetOk.of rfl (AV.Le.int (by omega))
    · have c2 := cmpI_cases (x.natAbs : Int) (y.natAbs : Int)
      repeat' (first |refine Fl.v rfl rfl rfl ?_ |refine Fl.nilF ?_ |refine AWP.seq ?_ |refine AWP.region ?_ |refine Fl.b rfl rfl rfl rfl ?_ |refine Fl.skip rfl rfl ?_ |refine AWP.condF rfl ?_ |(refine AWP.condD rfl ?_ ?_ <;> intro _ <;> try (exfalso; omega)) |refine AWP.block ?_ |refine AWP.skip ?_ |(refine Fl.splitD rfl rfl ?_ ?_ <;> intro _ <;> try (exfalso; omega)) |(refine Fl.splitN rfl rfl ?_ ?_ <;> intro _ <;> try (exfalso; omega)) |fail)
      refine Fl.call rfl (h1) rfl rfl rfl (LeL.refl _) ?_
      repeat' (first |refine Fl.v rfl rfl rfl ?_ |refine Fl.nilF ?_ |refine AWP.ret ?_ |fail)
      exact RetOk.of rfl (AV.Le.int (by omega))
theorem rNeg_ok (x : Int) (hx : lenI x ≤ 100000) : PureFn Tryz.prog 124 [aX x] (aX (-x)) := by
  refine PureFn.of_body Tryz.func124 rfl Tryz.ntmps124 rfl rfl ?_
  have hv : val (toW x.natAbs) = (x.natAbs : Int) := val_toW (by omega)
  have hsg : sg (!decide (x < 0)) (val (toW x.natAbs)) = -x := by
    rw [hv]
    by_cases h : x < 0
    · simp [sg, h]; omega
    · simp [sg, h]; omega
  have hm := rMake_ok (!decide (x < 0)) (toW x.natAbs) (toW_ok _) hx
  rw [hsg] at hm
  repeat' (first |refine Fl.v rfl rfl rfl ?_ |refine Fl.nilF ?_ |refine AWP.seq ?_ |refine AWP.region ?_ |refine Fl.b rfl rfl rfl rfl ?_ |fail)
  refine Fl.call rfl (hm) rfl rfl rfl (LeL.refl _) ?_
  repeat' (first |refine Fl.nilF ?_ |refine Fl.b rfl rfl rfl rfl ?_ |refine AWP.ret ?_ |fail)
  exact RetOk.of rfl (AV.Le.refl _)
theorem rSub_ok (x y : Int) (hx : lenI x ≤ 40000) (hy : lenI y ≤ 40000) : PureFn Tryz.prog 86 [aX x, aX y] (aX (x - y)) := by
  refine PureFn.of_body Tryz.func86 rfl Tryz.ntmps86 rfl rfl ?_
  have ha := rAdd_ok x (-y) hx (by rw [Int.natAbs_neg]; exact hy)
  rw [← Int.sub_eq_add_neg] at ha
  repeat' (first |refine Fl.v rfl rfl rfl ?_ |refine Fl.nilF ?_ |refine AWP.seq ?_ |refine AWP.region ?_ |refine Fl.b rfl rfl rfl rfl ?_ |fail)
  refine Fl.call rfl (rNeg_ok y (by omega)) rfl rfl rfl (LeL.refl _) ?_
  skip
  refine Fl.call rfl (ha) rfl rfl rfl (LeL.refl _) ?_
  repeat' (first |refine Fl.nil (fun _ => by kernel_rfl) ?_ |refine Fl.b rfl rfl rfl rfl ?_ |refine AWP.ret ?_ |fail)
  exact RetOk.of rfl (AV.Le.refl _)
theorem rUnder_ok (x y : Int) (hx : Fit x) (hy : Fit y) (h0 : 0 ≤ x) (h1 : 0 ≤ y) : PureFn Tryz.prog 46 [aX x, aX y] (aB (decide (undI x y))) := by
  refine PureFn.of_body Tryz.func46 rfl Tryz.ntmps46 rfl rfl ?_
  have lx := hx.len
  have ly := hy.len
  have wx := toW_ok x.natAbs
  have wy := toW_ok y.natAbs
  have hvx : val (toW x.natAbs) = x := by rw [val_toW (by omega)]; omega
  have hvy : val (toW y.natAbs) = y := by rw [val_toW (by omega)]; omega
  have hw := undI_wordsD wx wy
  rw [hvx, hvy] at hw
  repeat' (first |refine Fl.v rfl rfl rfl ?_ |refine Fl.nilF ?_ |refine AWP.seq ?_ |refine AWP.region ?_ |refine Fl.b rfl rfl rfl rfl ?_ |refine AWP.block ?_ |fail)
  refine AWP.loop (G := Nat) (fun i => i ≤ (toW x.natAbs).length ∧ ∀ (j : Nat) (u : Int), j < i → (toW x.natAbs)[j]? = some u → undI u ((toW y.natAbs)[j]?.getD 0))
      (fun i => St.of [] [(2, .ptr 2 0), (3, .ptr 3 0), (5, aN i)] [(2, .cells (eX x) 58), (3, .cells (eX y) 58)])
      (fun i => (toW x.natAbs).length - i) 0 ⟨by omega, fun j u hj => by omega⟩ ?_ ?_
  · refine Ent.of [] ?_ ?_ rfl rfl
    repeat' (first | exact True.intro |refine ⟨⟨AV.Le.refl _, rfl⟩, ?_⟩ |refine ⟨⟨⟨_, rfl, BLe.cells (LeL.refl _)⟩, rfl⟩, ?_⟩ |refine ⟨⟨⟨_, rfl, BLe.row rfl⟩, rfl⟩, ?_⟩ |refine ⟨⟨⟨_, rfl, BLe.row ?_⟩, rfl⟩, ?_⟩ |refine ⟨⟨⟨_, rfl, BLe.cells ?_⟩, rfl⟩, ?_⟩ |refine ⟨⟨AV.Le.int ?_, rfl⟩, ?_⟩ |refine ⟨⟨AV.Le.bool ?_, rfl⟩, ?_⟩ |refine ⟨⟨AV.Le.sl ?_, rfl⟩, ?_⟩ |refine ⟨⟨AV.Le.of_eq ?_, rfl⟩, ?_⟩ | fail)
  · intro i ⟨k0, k1⟩
    by_cases hi : i < (toW x.natAbs).length
    · obtain ⟨u, hu⟩ : ∃ u, (toW x.natAbs)[i]? = some u := ⟨_, List.getElem?_eq_getElem hi⟩
      have hub := wx u (List.mem_of_getElem? hu)
      have hstep : ∀ v, ((toW y.natAbs)[i]?.getD 0) = v → undI u v → ∀ (j : Nat) (p : Int), j < i + 1 → (toW x.natAbs)[j]? = some p → undI p ((toW y.natAbs)[j]?.getD 0) := fun v hv hz j p hj hp => by
        rcases Nat.lt_or_ge j i with h | h
        · exact k1 j p h hp
        · have : j = i := by omega
          subst this
          rw [hu] at hp
          injection hp with hp
          subst hp
          rw [hv]; exact hz
      by_cases hi2 : i < (toW y.natAbs).length
      · obtain ⟨v, hv⟩ : ∃ v, (toW y.natAbs)[i]? = some v := ⟨_, List.getElem?_eq_getElem hi2⟩
        have hvb := wy v (List.mem_of_getElem? hv)
        have hvd : (toW y.natAbs)[i]?.getD 0 = v := by rw [hv]; rfl
        repeat' (first |refine Fl.v rfl rfl rfl ?_ |refine Fl.nilF ?_ |refine Fl.nil (fun _ => by kernel_rfl) ?_ |refine AWP.seq ?_ |refine AWP.region ?_ |refine Fl.w rfl rfl rfl (by first | exact True.intro | omega) ?_ |(refine AWP.condD rfl ?_ ?_ <;> intro _ <;> try (exfalso; omega)) |(refine AWP.condN rfl ?_ ?_ <;> intro _ <;> try (exfalso; omega)) |refine AWP.block ?_ |refine AWP.skip ?_ |refine AWP.ret ?_ |refine Fl.elK rfl rfl rfl rfl rfl rfl rfl rfl (by assumption) (by omega) ?_ |fail)
        · rename_i hz
          refine RetOk.of rfl (AV.Le.bool (Eq.symm (decide_eq_false fun h2 => hz ((and_eq hub.1).2 ?_))))
          have := hw.1 h2 i u hu
          rwa [hvd] at this
        · rename_i hz
          refine LoopEnd.of (i + 1) ⟨by omega, hstep v hvd ((and_eq hub.1).1 hz)⟩ (by omega) ?_
          refine Ent.of [] ?_ ?_ rfl rfl
          repeat' (first | exact True.intro |refine ⟨⟨AV.Le.refl _, rfl⟩, ?_⟩ |refine ⟨⟨⟨_, rfl, BLe.cells (LeL.refl _)⟩, rfl⟩, ?_⟩ |refine ⟨⟨⟨_, rfl, BLe.row rfl⟩, rfl⟩, ?_⟩ |refine ⟨⟨⟨_, rfl, BLe.row ?_⟩, rfl⟩, ?_⟩ |refine ⟨⟨⟨_, rfl, BLe.cells ?_⟩, rfl⟩, ?_⟩ |refine ⟨⟨AV.Le.int ?_, rfl⟩, ?_⟩ |refine ⟨⟨AV.Le.bool ?_, rfl⟩, ?_⟩ |refine ⟨⟨AV.Le.sl ?_, rfl⟩, ?_⟩ |refine ⟨⟨AV.Le.of_eq ?_, rfl⟩, ?_⟩ | fail)
      · have hvd : (toW y.natAbs)[i]?.getD 0 = 0 := by rw [List.getElem?_eq_none (by omega)]; rfl
        repeat' (first |refine Fl.v rfl rfl rfl ?_ |refine Fl.nilF ?_ |refine Fl.nil (fun _ => by kernel_rfl) ?_ |refine AWP.seq ?_ |refine AWP.region ?_ |refine Fl.w rfl rfl rfl (by first | exact True.intro | omega) ?_ |(refine AWP.condD rfl ?_ ?_ <;> intro _ <;> try (exfalso; omega)) |(refine AWP.condN rfl ?_ ?_ <;> intro _ <;> try (exfalso; omega)) |refine AWP.block ?_ |refine AWP.skip ?_ |refine AWP.ret ?_ |refine Fl.elK rfl rfl rfl rfl rfl rfl rfl rfl (by assumption) (by omega) ?_ |fail)
        · rename_i hz
          refine RetOk.of rfl (AV.Le.bool (Eq.symm (decide_eq_false fun h2 => hz ((and_eq hub.1).2 ?_))))
          have := hw.1 h2 i u hu
          rwa [hvd] at this
        · rename_i hz
          refine LoopEnd.of (i + 1) ⟨by omega, hstep 0 hvd ((and_eq hub.1).1 hz)⟩ (by omega) ?_
          refine Ent.of [] ?_ ?_ rfl rfl
          repeat' (first | exact True.intro |refine ⟨⟨AV.Le.refl _, rfl⟩, ?_⟩ |refine ⟨⟨⟨_, rfl, BLe.cells (LeL.refl _)⟩, rfl⟩, ?_⟩ |refine ⟨⟨⟨_, rfl, BLe.row rfl⟩, rfl⟩, ?_⟩ |refine ⟨⟨⟨_, rfl, BLe.row ?_⟩, rfl⟩, ?_⟩ |refine ⟨⟨⟨_, rfl, BLe.cells ?_⟩, rfl⟩, ?_⟩ |refine ⟨⟨AV.Le.int ?_, rfl⟩, ?_⟩ |refine ⟨⟨AV.Le.bool ?_, rfl⟩, ?_⟩ |refine ⟨⟨AV.Le.sl ?_, rfl⟩, ?_⟩ |refine ⟨⟨AV.Le.of_eq ?_, rfl⟩, ?_⟩ | fail)
    · repeat' (first |refine Fl.v rfl rfl rfl ?_ |refine Fl.nilF ?_ |refine AWP.seq ?_ |refine AWP.region ?_ |(refine AWP.condD rfl ?_ ?_ <;> intro _ <;> try (exfalso; omega)) |refine AWP.exit ?_ |refine AWP.ret ?_ |fail)
      exact RetOk.of rfl (AV.Le.bool (Eq.symm (decide_eq_true (hw.2 fun j u hu => k1 j u (by have := (List.getElem?_eq_some_iff.1 hu).1; omega) hu))))
end Go.Proofs.YtfkjhjgihbnegaaGreat
namespace Go.AL
/-- the int that is returned for a number, whether or not there is one -/
def smallV (x : Int) : Int := if 18446744073709551616 ≤ x.natAbs then 0 else if 0 ≤ x then x % 9223372036854775808 else if x < -9223372036854775808 then 0 else x
theorem smallV_eq {x : Int} (h : I64 x) : smallV x = x := by
  unfold I64 at h
  unfold smallV
  rw [if_neg (by omega)]
  split
  · omega
  · rw [if_neg (by omega)]
theorem big_of_len {x : Int} (h : 2 < (toW x.natAbs).length) : 18446744073709551616 ≤ x.natAbs := by
  have h1 := BB_len_le (z := x.natAbs) (by
    rcases Nat.eq_zero_or_pos x.natAbs with h0 | h0
    · rw [h0, show ((0 : Nat) : Int) = 0 from rfl, toW_zero] at h; simp at h
    · omega)
  have h2 := BB_le (show 2 ≤ (toW x.natAbs).length - 1 by omega)
  rw [BB_2] at h2
  omega
theorem bitN_and63 {a : Int} (h : 0 ≤ a) : bitN .and a 9223372036854775807 = a % 9223372036854775808 := by
  show ((a.toNat &&& 9223372036854775807 : Nat) : Int) = _
  have : a.toNat &&& 9223372036854775807 = a.toNat % 2 ^ 63 := Nat.and_two_pow_sub_one_eq_mod a.toNat 63
  rw [this]
  omega
end Go.AL
namespace Go.Proofs.YtfkjhjgihbnegaaGreat
open Go.AL

theorem rSmall_ok (x : Int) : PureFn Tryz.prog 123 [aX x] (.tup [aN (smallV x), aB (decide (I64 x))]) := by
  refine PureFn.of_body Tryz.func123 rfl Tryz.ntmps123 rfl rfl ?_
  have wx := toW_ok x.natAbs
  have vx := val_toW (show (0 : Int) ≤ x.natAbs by omega)
  repeat' (first |refine Fl.v rfl rfl rfl ?_ |refine Fl.nilF ?_ |refine AWP.seq ?_ |refine AWP.region ?_ |refine Fl.b rfl rfl rfl rfl ?_ |refine AWP.block ?_ |fail)
  refine AWP.loop (G := Nat × Int) (fun (i, m) => i ≤ (toW x.natAbs).length ∧ i ≤ 2 ∧ m = val ((toW x.natAbs).take i) ∧ 0 ≤ m ∧ m < BB i ∧ m ≤ 18446744073709551615)
      (fun (i, m) => St.of [] [(1, .ptr 1 0), (4, .v (.int .u64 m)), (5, aN i)] [(1, .cells (eX x) 58)])
      (fun (i, m) => (toW x.natAbs).length - i) (0, 0) ⟨by omega, by omega, by simp [val], by omega, by rw [BB_zero]; omega, by omega⟩ ?_ ?_
  · refine Ent.of [] ?_ ?_ rfl rfl
    repeat' (first | exact True.intro |refine ⟨⟨AV.Le.refl _, rfl⟩, ?_⟩ |refine ⟨⟨⟨_, rfl, BLe.cells (LeL.refl _)⟩, rfl⟩, ?_⟩ |refine ⟨⟨⟨_, rfl, BLe.row rfl⟩, rfl⟩, ?_⟩ |refine ⟨⟨⟨_, rfl, BLe.row ?_⟩, rfl⟩, ?_⟩ |refine ⟨⟨⟨_, rfl, BLe.cells ?_⟩, rfl⟩, ?_⟩ |refine ⟨⟨AV.Le.int ?_, rfl⟩, ?_⟩ |refine ⟨⟨AV.Le.bool ?_, rfl⟩, ?_⟩ |refine ⟨⟨AV.Le.sl ?_, rfl⟩, ?_⟩ |refine ⟨⟨AV.Le.of_eq ?_, rfl⟩, ?_⟩ | fail)
  · intro (i, m) ⟨k0, k5, k1, k2, k3, k4⟩
    by_cases hi : i < (toW x.natAbs).length
    · by_cases hi2 : i < 2
      · obtain ⟨u, hu⟩ : ∃ u, (toW x.natAbs)[i]? = some u := ⟨_, List.getElem?_eq_getElem hi⟩
        have hub := wx u (List.mem_of_getElem? hu)
        have hb : BB (i + 1) ≤ BB 2 := BB_le (by omega)
        rw [BB_2] at hb
        have hlt : m + BB i * u < BB (i + 1) := by
          rw [BB_succ]
          have h5 := BB_pos i
          have h6 : BB i * u ≤ BB i * 4294967295 := Int.mul_le_mul_of_nonneg_left (by omega) (by omega)
          omega
        have h0 : 0 ≤ BB i * u := Int.mul_nonneg (Int.le_of_lt (BB_pos i)) hub.1
        have hsh : u * 2 ^ (32 * (i : Int)).toNat % 18446744073709551616 = BB i * u := by
          rcases (show i = 0 ∨ i = 1 by omega) with rfl | rfl
          · rw [BB_zero, show (32 * ((0 : Nat) : Int)).toNat = 0 from rfl]; omega
          · rw [show BB 1 = 4294967296 by rw [BB_succ, BB_zero]; rfl, show (32 * ((1 : Nat) : Int)).toNat = 32 from rfl]; omega
        repeat' (first |refine Fl.v rfl rfl rfl ?_ |refine Fl.nilF ?_ |refine AWP.seq ?_ |refine AWP.region ?_ |refine Fl.w rfl rfl rfl (by first | exact True.intro | omega) ?_ |(refine AWP.condD rfl ?_ ?_ <;> intro _ <;> try (exfalso; omega)) |refine AWP.block ?_ |refine AWP.skip ?_ |refine Fl.elK rfl rfl rfl rfl rfl rfl rfl rfl (by assumption) (by omega) ?_ |fail)
        refine LoopEnd.of (i + 1, m + BB i * u) ⟨by omega, by omega, by rw [k1, val_take_succ hu], by omega, hlt, by omega⟩ (show (toW x.natAbs).length - (i + 1) < (toW x.natAbs).length - i by omega) ?_
        refine Ent.of [] ?_ ?_ rfl rfl
        repeat' (first | exact True.intro |refine ⟨⟨AV.Le.refl _, rfl⟩, ?_⟩ |refine ⟨⟨⟨_, rfl, BLe.cells (LeL.refl _)⟩, rfl⟩, ?_⟩ |refine ⟨⟨⟨_, rfl, BLe.row rfl⟩, rfl⟩, ?_⟩ |refine ⟨⟨⟨_, rfl, BLe.row ?_⟩, rfl⟩, ?_⟩ |refine ⟨⟨⟨_, rfl, BLe.cells ?_⟩, rfl⟩, ?_⟩ |refine ⟨⟨AV.Le.int ?_, rfl⟩, ?_⟩ |refine ⟨⟨AV.Le.bool ?_, rfl⟩, ?_⟩ |refine ⟨⟨AV.Le.sl ?_, rfl⟩, ?_⟩ |refine ⟨⟨AV.Le.of_eq ?_, rfl⟩, ?_⟩ | fail)
        rw [hsh]
      · have hbig := big_of_len (x := x) (by omega)
        repeat' (first |refine Fl.v rfl rfl rfl ?_ |refine Fl.nilF ?_ |refine AWP.seq ?_ |refine AWP.region ?_ |(refine AWP.condD rfl ?_ ?_ <;> intro _ <;> try (exfalso; omega)) |refine AWP.block ?_ |refine AWP.skip ?_ |refine AWP.ret ?_ |fail)
        refine RetOk.of rfl (AV.Le.tup (LeL.cons (AV.Le.int ?_) (LeL.cons (AV.Le.bool ?_) LeL.nil)))
        · unfold smallV; rw [if_pos hbig]
        · exact (decide_eq_false (by unfold I64; omega)).symm
    · have hm : m = x.natAbs := by rw [k1, show i = (toW x.natAbs).length by omega, List.take_length, vx]
      by_cases hx0 : x < 0
      · by_cases hxb : 9223372036854775808 < m
        · repeat' (first |refine Fl.v rfl rfl rfl ?_ |refine Fl.nilF ?_ |refine AWP.seq ?_ |refine AWP.region ?_ |(refine AWP.condD rfl ?_ ?_ <;> intro _ <;> try (exfalso; omega)) |(refine AWP.condN rfl ?_ ?_ <;> intro _ <;> try (exfalso; omega)) |refine AWP.skip ?_ |refine AWP.exit ?_ |refine AWP.ret ?_ |fail)
          refine RetOk.of rfl (AV.Le.tup (LeL.cons (AV.Le.int ?_) (LeL.cons (AV.Le.bool ?_) LeL.nil)))
          · unfold smallV; rw [if_neg (by omega), if_neg (by omega), if_pos (by omega)]
          · exact (decide_eq_false (by unfold I64; omega)).symm
        · repeat' (first |refine Fl.v rfl rfl rfl ?_ |refine Fl.nilF ?_ |refine AWP.seq ?_ |refine AWP.region ?_ |refine Fl.w rfl rfl rfl (by first | exact True.intro | omega) ?_ |(refine AWP.condD rfl ?_ ?_ <;> intro _ <;> try (exfalso; omega)) |(refine AWP.condN rfl ?_ ?_ <;> intro _ <;> try (exfalso; omega)) |refine AWP.skip ?_ |refine AWP.exit ?_ |refine AWP.ret ?_ |refine Fl.cvS rfl rfl rfl rfl rfl rfl ?_ |fail)
          refine RetOk.of rfl (AV.Le.tup (LeL.cons (AV.Le.int ?_) (LeL.cons (AV.Le.bool ?_) LeL.nil)))
          · rw [smallV_eq (by unfold I64; omega)]; omega
          · exact (decide_eq_true (by unfold I64; omega)).symm
      · repeat' (first |refine Fl.v rfl rfl rfl ?_ |refine Fl.nilF ?_ |refine AWP.seq ?_ |refine AWP.region ?_ |refine Fl.w rfl rfl rfl (by first | exact True.intro | omega) ?_ |(refine AWP.condD rfl ?_ ?_ <;> intro _ <;> try (exfalso; omega)) |(refine AWP.condN rfl ?_ ?_ <;> intro _ <;> try (exfalso; omega)) |refine AWP.exit ?_ |refine AWP.ret ?_ |refine Fl.cvS rfl rfl rfl rfl rfl rfl ?_ |fail)
        refine RetOk.of rfl (AV.Le.tup (LeL.cons (AV.Le.int ?_) (LeL.cons (AV.Le.bool ?_) LeL.nil)))
        · rw [bitN_and63 k2]; unfold smallV; rw [if_neg (by omega), if_pos (by omega)]; omega
        · rw [decide_eq_decide]; unfold I64; omega
theorem rfew_ok (x : Int) : PureFn Tryz.prog 84 [aX x] (.tup [aN (smallV x), aB (decide (0 ≤ x ∧ x ≤ 163840))]) := by
  refine PureFn.of_body Tryz.func84 rfl Tryz.ntmps84 rfl rfl ?_
  have hs := rSmall_ok x
  by_cases h : I64 x
  · rw [decide_eq_true h, smallV_eq h] at hs
    rw [smallV_eq h]
    by_cases h1 : 0 ≤ x ∧ x ≤ 163840
    · rw [decide_eq_true h1]
      repeat' (first |refine Fl.v rfl rfl rfl ?_ |refine Fl.nilF ?_ |refine AWP.seq ?_ |refine AWP.region ?_ |refine Fl.b rfl rfl rfl rfl ?_ |fail)
      refine Fl.call rfl (hs) rfl rfl rfl (LeL.refl _) ?_
      repeat' (first |refine Fl.v rfl rfl rfl ?_ |refine Fl.nilF ?_ |refine AWP.seq ?_ |refine AWP.region ?_ |refine AWP.ret ?_ |(refine Fl.splitD rfl rfl ?_ ?_ <;> intro _ <;> try (exfalso; omega)) |fail)
      exact RetOk.of rfl (AV.Le.tup (LeL.cons (AV.Le.refl _) (LeL.cons (AV.Le.bool (decide_eq_true (by omega))) LeL.nil)))
    · rw [decide_eq_false h1]
      repeat' (first |refine Fl.v rfl rfl rfl ?_ |refine Fl.nilF ?_ |refine AWP.seq ?_ |refine AWP.region ?_ |refine Fl.b rfl rfl rfl rfl ?_ |fail)
      refine Fl.call rfl (hs) rfl rfl rfl (LeL.refl _) ?_
      repeat' (first |refine Fl.v rfl rfl rfl ?_ |refine Fl.nilF ?_ |refine AWP.seq ?_ |refine AWP.region ?_ |refine Fl.skip rfl rfl ?_ |refine AWP.ret ?_ |(refine Fl.splitD rfl rfl ?_ ?_ <;> intro _ <;> try (exfalso; omega)) |fail)
      all_goals exact RetOk.of rfl (AV.Le.tup (LeL.cons (AV.Le.refl _) (LeL.cons (AV.Le.bool (by first | rfl | exact decide_eq_false (by omega))) LeL.nil)))
  · rw [decide_eq_false h] at hs
    rw [decide_eq_false (show ¬ (0 ≤ x ∧ x ≤ 163840) by unfold I64 at h; omega)]
    repeat' (first |refine Fl.v rfl rfl rfl ?_ |refine Fl.nilF ?_ |refine AWP.seq ?_ |refine AWP.region ?_ |refine Fl.b rfl rfl rfl rfl ?_ |fail)
    refine Fl.call rfl (hs) rfl rfl rfl (LeL.refl _) ?_
    repeat' (first |refine Fl.v rfl rfl rfl ?_ |refine Fl.nilF ?_ |refine AWP.seq ?_ |refine AWP.region ?_ |refine Fl.skip rfl rfl ?_ |refine AWP.ret ?_ |fail)
    exact RetOk.of rfl (AV.Le.refl _)
end Go.Proofs.YtfkjhjgihbnegaaGreat
namespace Go.AL
/-- how many binary digits -/
def bitl (n : Nat) : Nat := if n = 0 then 0 else Nat.log2 n + 1
theorem bitl_eq {n k : Nat} (h1 : 2 ^ k ≤ n) (h2 : n < 2 ^ (k + 1)) : bitl n = k + 1 := by
  have := Nat.two_pow_pos k
  rw [bitl, if_neg (by omega), (Nat.log2_eq_iff (by omega)).2 ⟨h1, h2⟩]
theorem bitl_lt (n : Nat) : n < 2 ^ bitl n := by
  unfold bitl
  split
  · omega
  · exact Nat.lt_log2_self
theorem bitl_ge {n : Nat} (h : n ≠ 0) : 1 ≤ bitl n ∧ 2 ^ (bitl n - 1) ≤ n := by
  unfold bitl
  rw [if_neg h]
  exact ⟨by omega, Nat.log2_self_le h⟩
theorem bitl_le {n k : Nat} (h : n < 2 ^ k) : bitl n ≤ k := by
  rcases Nat.eq_zero_or_pos n with h0 | h0
  · rw [bitl, if_pos h0]; omega
  · have h1 := bitl_ge (n := n) (by omega)
    have h2 : 2 ^ (bitl n - 1) < 2 ^ k := by omega
    have := (Nat.pow_lt_pow_iff_right (by omega : 1 < 2)).1 h2
    omega
/-- the words, and the digits of the last one -/
theorem bitl_words {m n k : Nat} {u lo : Int} (hk : 1 ≤ k) (hlo : 0 ≤ lo) (hlo2 : lo < BB n) (hm : (m : Int) = lo + BB n * u) (h1 : 2 ^ (k - 1) ≤ u.toNat) (h2 : u.toNat < 2 ^ k) : bitl m = 32 * n + k := by
  have hB : BB n = ((2 ^ (32 * n) : Nat) : Int) := by rw [BB_pow]; simp
  have hup : u = (u.toNat : Int) := by
    have := Nat.two_pow_pos (k - 1)
    omega
  have hlt : ∃ l : Nat, lo = (l : Int) := ⟨lo.toNat, by omega⟩
  obtain ⟨l, rfl⟩ := hlt
  have hm' : m = l + 2 ^ (32 * n) * u.toNat := by
    rw [hB, hup] at hm
    exact_mod_cast hm
  have hl : l < 2 ^ (32 * n) := by rw [hB] at hlo2; exact_mod_cast hlo2
  have e : 32 * n + k = (32 * n + (k - 1)) + 1 := by omega
  rw [e]
  refine bitl_eq ?_ ?_
  · rw [Nat.pow_add, hm']
    have := Nat.mul_le_mul_left (2 ^ (32 * n)) h1
    omega
  · rw [← e, Nat.pow_add, hm']
    have h3 : u.toNat + 1 ≤ 2 ^ k := h2
    have := Nat.mul_le_mul_left (2 ^ (32 * n)) h3
    rw [Nat.mul_add] at this
    omega
end Go.AL
namespace Go.Proofs.YtfkjhjgihbnegaaGreat
open Go.AL

theorem rBits_ok (x : Int) (hx : lenI x ≤ 100000) : PureFn Tryz.prog 87 [aX x] (aN (bitl x.natAbs)) := by
  refine PureFn.of_body Tryz.func87 rfl Tryz.ntmps87 rfl rfl ?_
  have wx := toW_ok x.natAbs
  have vx := val_toW (show (0 : Int) ≤ x.natAbs by omega)
  obtain ⟨n, hn⟩ : ∃ n, n = (toW x.natAbs).length := ⟨_, rfl⟩
  have hx' : n ≤ 100000 := by rw [hn]; exact hx
  by_cases h0 : n = 0
  · have hx0 : x.natAbs = 0 := by
      have : toW x.natAbs = [] := List.eq_nil_of_length_eq_zero (by omega)
      rw [this, val_nil] at vx
      omega
    repeat' (first |refine Fl.v rfl rfl rfl ?_ |refine Fl.nilF ?_ |refine AWP.seq ?_ |refine AWP.region ?_ |refine Fl.b rfl rfl rfl rfl ?_ |(refine AWP.condD rfl ?_ ?_ <;> intro _ <;> try (exfalso; omega)) |refine AWP.ret ?_ |fail)
    exact RetOk.of rfl (AV.Le.int (by rw [hx0]; rfl))
  · obtain ⟨u, hu⟩ : ∃ u, (toW x.natAbs)[n - 1]? = some u := ⟨_, List.getElem?_eq_getElem (by omega)⟩
    have hu' : (toW x.natAbs)[(((toW x.natAbs).length : Int) - 1).toNat]? = some u := by rwa [show (((toW x.natAbs).length : Int) - 1).toNat = n - 1 by omega]
    have hub := wx u (List.mem_of_getElem? hu)
    have hval := val_take_succ hu
    rw [show n - 1 + 1 = n by omega, hn, List.take_length, vx, ← hn] at hval
    have wt : WOk ((toW x.natAbs).take (n - 1)) := fun y hy => wx y (List.mem_of_mem_take hy)
    have hlo := val_nonneg wt
    have hlo2 := val_lt wt
    rw [List.length_take_of_le (by omega)] at hlo2
    have hx1 : x.natAbs ≠ 0 := by
      intro h
      rw [h, show ((0 : Nat) : Int) = 0 from rfl, toW_zero] at hn
      exact h0 hn
    have hge := BB_len_le (z := x.natAbs) (by omega)
    rw [← hn] at hge
    have hu1 : 1 ≤ u := by
      rcases Int.lt_or_le u 1 with h | h
      · have : u = 0 := by omega
        subst this
        omega
      · exact h
    repeat' (first |refine Fl.v rfl rfl rfl ?_ |refine Fl.nilF ?_ |refine AWP.seq ?_ |refine AWP.region ?_ |refine Fl.w rfl rfl rfl (by first | exact True.intro | omega) ?_ |refine Fl.b rfl rfl rfl rfl ?_ |(refine AWP.condD rfl ?_ ?_ <;> intro _ <;> try (exfalso; omega)) |refine AWP.block ?_ |refine AWP.skip ?_ |refine Fl.elK rfl rfl rfl rfl rfl rfl rfl rfl (by assumption) (by omega) ?_ |fail)
    refine AWP.loop (G := Nat) (fun k => k ≤ 32 ∧ (k = 0 ∨ 2 ^ (k - 1) ≤ u.toNat)) (fun k => St.of [] [(3, aN (toW x.natAbs).length), (4, aN k), (5, .v (.int .u32 ((u.toNat / 2 ^ k : Nat) : Int)))] []) (fun k => u.toNat / 2 ^ k) 0 ⟨by omega, .inl rfl⟩ ?_ ?_
    · refine Ent.of [] ?_ ?_ rfl rfl
      repeat' (first | exact True.intro |refine ⟨⟨AV.Le.refl _, rfl⟩, ?_⟩ |refine ⟨⟨⟨_, rfl, BLe.cells (LeL.refl _)⟩, rfl⟩, ?_⟩ |refine ⟨⟨⟨_, rfl, BLe.row rfl⟩, rfl⟩, ?_⟩ |refine ⟨⟨⟨_, rfl, BLe.row ?_⟩, rfl⟩, ?_⟩ |refine ⟨⟨⟨_, rfl, BLe.cells ?_⟩, rfl⟩, ?_⟩ |refine ⟨⟨AV.Le.int ?_, rfl⟩, ?_⟩ |refine ⟨⟨AV.Le.bool ?_, rfl⟩, ?_⟩ |refine ⟨⟨AV.Le.sl ?_, rfl⟩, ?_⟩ |refine ⟨⟨AV.Le.of_eq ?_, rfl⟩, ?_⟩ | fail)
      rw [Nat.pow_zero, Nat.div_one]; omega
    · intro k ⟨k0, k1⟩
      obtain ⟨q, hq⟩ : ∃ q, q = u.toNat / 2 ^ k := ⟨_, rfl⟩
      have hq1 : u.toNat / 2 ^ (k + 1) = q / 2 := by rw [hq, Nat.pow_succ, ← Nat.div_div_eq_div_mul]
      rw [← hq]
      by_cases hw : 0 < q
      · have h2k : 2 ^ k ≤ u.toNat := by
          rcases Nat.lt_or_ge u.toNat (2 ^ k) with h | h
          · rw [Nat.div_eq_of_lt h] at hq; omega
          · exact h
        have hk32 : k < 32 := by
          have h3 : 2 ^ k < 2 ^ 32 := by omega
          exact (Nat.pow_lt_pow_iff_right (by omega : 1 < 2)).1 h3
        have hhi : hiK .u32 = 4294967295 := rfl
        have hqu : q ≤ u.toNat := by rw [hq]; exact Nat.div_le_self _ _
        repeat' (first |refine Fl.v rfl rfl rfl ?_ |refine Fl.nilF ?_ |refine AWP.seq ?_ |refine AWP.region ?_ |refine Fl.w rfl rfl rfl (by first | exact True.intro | omega) ?_ |(refine AWP.condD rfl ?_ ?_ <;> intro _ <;> try (exfalso; omega)) |refine AWP.block ?_ |refine AWP.skip ?_ |fail)
        refine LoopEnd.of (k + 1) ⟨by omega, .inr (by simpa using h2k)⟩ (by rw [hq1, ← hq]; omega) ?_
        refine Ent.of [] ?_ ?_ rfl rfl
        repeat' (first | exact True.intro |refine ⟨⟨AV.Le.refl _, rfl⟩, ?_⟩ |refine ⟨⟨⟨_, rfl, BLe.cells (LeL.refl _)⟩, rfl⟩, ?_⟩ |refine ⟨⟨⟨_, rfl, BLe.row rfl⟩, rfl⟩, ?_⟩ |refine ⟨⟨⟨_, rfl, BLe.row ?_⟩, rfl⟩, ?_⟩ |refine ⟨⟨⟨_, rfl, BLe.cells ?_⟩, rfl⟩, ?_⟩ |refine ⟨⟨AV.Le.int ?_, rfl⟩, ?_⟩ |refine ⟨⟨AV.Le.bool ?_, rfl⟩, ?_⟩ |refine ⟨⟨AV.Le.sl ?_, rfl⟩, ?_⟩ |refine ⟨⟨AV.Le.of_eq ?_, rfl⟩, ?_⟩ | fail)
        rw [hq1]; omega
      · have hlt : u.toNat < 2 ^ k := by
          rcases Nat.lt_or_ge u.toNat (2 ^ k) with h | h
          · exact h
          · have := Nat.div_pos h (Nat.two_pow_pos k); omega
        have hk1 : 1 ≤ k := by
          rcases k1 with h | h
          · subst h; simp at hlt; omega
          · rcases Nat.eq_zero_or_pos k with h' | h'
            · subst h'; simp at hlt; omega
            · exact h'
        have hb := bitl_words hk1 hlo hlo2 hval (k1.resolve_left (by omega)) hlt
        repeat' (first |refine Fl.v rfl rfl rfl ?_ |refine Fl.nilF ?_ |refine AWP.seq ?_ |refine AWP.region ?_ |refine Fl.w rfl rfl rfl (by first | exact True.intro | omega) ?_ |(refine AWP.condD rfl ?_ ?_ <;> intro _ <;> try (exfalso; omega)) |refine AWP.exit ?_ |refine AWP.ret ?_ |fail)
        exact RetOk.of rfl (AV.Le.int (by rw [hb]; omega))
end Go.Proofs.YtfkjhjgihbnegaaGreat
namespace Go.AL
theorem pow_ge_one {x : Int} (h : 1 ≤ x) : ∀ k : Nat, 1 ≤ x ^ k
  | 0 => by rw [Int.pow_zero]; omega
  | k + 1 => by
    rw [Int.pow_succ]
    have h1 := pow_ge_one h k
    have := Int.mul_le_mul h1 h (by omega) (by omega)
    omega
theorem le_mul_one {a b : Int} (ha : 1 ≤ a) (hb : 0 ≤ b) : b ≤ b * a := by
  have := Int.mul_le_mul_of_nonneg_left ha hb
  omega
theorem sq_pow (x : Int) (k : Nat) : (x * x) ^ k = x ^ (2 * k) := by
  rw [Int.mul_pow, ← Int.pow_add]; congr 1; omega
theorem lt_BB {m k n : Nat} (h : m ≤ 2 ^ k) (hk : k < 32 * n) : (m : Int) < BB n := by
  have h3 : 2 ^ k < 2 ^ (32 * n) := Nat.pow_lt_pow_right (by omega) hk
  have h4 : m < 2 ^ (32 * n) := Nat.lt_of_le_of_lt h h3
  rw [BB_pow]
  exact_mod_cast h4
theorem bitl_BB {m n : Nat} (h : (m : Int) < BB n) : bitl m ≤ 32 * n := bitl_le (by
  rw [BB_pow] at h
  exact_mod_cast h)
/-- what is returned is not too long -/
theorem pow_small {p n b : Int} (hp : 2 ≤ p) (h0 : 0 ≤ n) (hb : b = (bitl p.natAbs : Int)) (h : n * (b - 1) ≤ 131072) : p ^ n.toNat < BB 8193 := by
  have hb2 : 2 ≤ b := by
    have h1 := bitl_ge (n := p.natAbs) (by omega)
    have h2 := bitl_lt p.natAbs
    rcases Nat.lt_or_ge (bitl p.natAbs) 2 with h3 | h3
    · have : bitl p.natAbs = 1 := by omega
      rw [this] at h2; omega
    · omega
  have h1 : p.natAbs ^ n.toNat ≤ (2 ^ bitl p.natAbs) ^ n.toNat := Nat.pow_le_pow_left (Nat.le_of_lt (bitl_lt _)) _
  rw [← Nat.pow_mul] at h1
  have h2 : bitl p.natAbs * n.toNat ≤ 262144 := by
    have e1 : n * b ≤ n * (2 * (b - 1)) := Int.mul_le_mul_of_nonneg_left (by omega) h0
    have e2 : n * (2 * (b - 1)) = 2 * (n * (b - 1)) := by rw [← Int.mul_assoc, Int.mul_comm n 2, Int.mul_assoc]
    have e3 : ((bitl p.natAbs * n.toNat : Nat) : Int) = n * b := by
      rw [Int.natCast_mul, hb, Int.mul_comm, show ((n.toNat : Nat) : Int) = n by omega]
    omega
  have h5 : p ^ n.toNat = ((p.natAbs ^ n.toNat : Nat) : Int) := by
    rw [Int.natCast_pow, show ((p.natAbs : Nat) : Int) = p by omega]
  rw [h5]
  exact lt_BB h1 (by omega)
end Go.AL
namespace Go.Proofs.YtfkjhjgihbnegaaGreat
open Go.AL

set_option maxHeartbeats 1000000 in
theorem rPower_ok (p n : Int) (hp : 2 ≤ p) (hpf : Fit p) (h0 : 0 ≤ n) (h1 : n ≤ 163840) (b : Int) (hb : b = (bitl p.natAbs : Int)) (h : n * (b - 1) ≤ 131072) : PureFn Tryz.prog 88 [aX p, aN n] (.tup [aX (p ^ n.toNat), aB true]) := by
  refine PureFn.of_body Tryz.func88 rfl Tryz.ntmps88 rfl rfl ?_
  have hlp := hpf.len
  have hb2 : 2 ≤ b := by
    have h1 := bitl_ge (n := p.natAbs) (by omega)
    have h2 := bitl_lt p.natAbs
    rcases Nat.lt_or_ge (bitl p.natAbs) 2 with h3 | h3
    · have : bitl p.natAbs = 1 := by omega
      rw [this] at h2; omega
    · omega
  have hbu : b ≤ 131072 := by
    have h3 : bitl p.natAbs ≤ 32 * 4096 := bitl_BB (by have := hpf; unfold Fit at this; exact this)
    omega
  have hsmall := pow_small hp h0 hb h
  have hbits := rBits_ok p (show lenI p ≤ 100000 by unfold lenI; omega)
  rw [← hb] at hbits
  have hhi : hiK .i64 = 9223372036854775807 := rfl
  have hquo : n ≤ 262144 / (b - 1) := (Int.le_ediv_iff_mul_le (by omega)).2 (by omega)
  obtain ⟨T, hT⟩ : ∃ T, T = p ^ n.toNat := ⟨_, rfl⟩
  have hp8 : p < BB 8193 := by
    have := hpf
    unfold Fit at this
    have h3 := BB_le (show 4096 ≤ 8193 by omega)
    omega
  rw [← hT] at hsmall ⊢
  repeat' (first |refine Fl.v rfl rfl rfl ?_ |refine Fl.nilF ?_ |refine AWP.seq ?_ |refine AWP.region ?_ |refine Fl.b rfl rfl rfl rfl ?_ |fail)
  refine Fl.call rfl (hbits) rfl rfl rfl (LeL.refl _) ?_
  repeat' (first |refine Fl.v rfl rfl rfl ?_ |refine Fl.nilF ?_ |refine AWP.seq ?_ |refine AWP.region ?_ |refine Fl.w rfl rfl rfl (by first | exact True.intro | omega) ?_ |(refine AWP.condD rfl ?_ ?_ <;> intro _ <;> try (exfalso; omega)) |refine AWP.skip ?_ |fail)
  refine Fl.call rfl (rOf_ok 1 (by omega) (by omega)) rfl rfl rfl (LeL.refl _) ?_
  repeat' (first |refine Fl.v rfl rfl rfl ?_ |refine Fl.nilF ?_ |refine AWP.seq ?_ |refine AWP.region ?_ |refine Fl.b rfl rfl rfl rfl ?_ |refine AWP.block ?_ |fail)
  refine AWP.loop (G := Int × Int × Int) (fun (m, o, x) => (0 ≤ m ∧ m ≤ n) ∧ (1 ≤ o ∧ o < BB 8193) ∧ (1 ≤ x ∧ x < BB 8193) ∧ o * x ^ m.toNat = T)
    (fun (m, o, x) => St.of [] [(1, aN m), (4, .ptr 4 0), (7, .ptr 7 0), (8, .ptr 700 0)] [(4, .cells [aB false, .v (.slice none 0 0)] 58), (7, .cells (eX o) 58), (700, .cells (eX x) 58)])
    (fun (m, o, x) => m.toNat) (n, 1, p) ⟨⟨h0, by omega⟩, ⟨by omega, by have := BB_le (show 1 ≤ 8193 by omega); rw [BB_succ 0, BB_zero] at this; omega⟩, ⟨by omega, hp8⟩, by rw [Int.one_mul]; exact hT.symm⟩ ?_ ?_
  · refine Ent.of [(700, 8)] ?_ ?_ rfl rfl
    repeat' (first | exact True.intro |refine ⟨⟨AV.Le.refl _, rfl⟩, ?_⟩ |refine ⟨⟨⟨_, rfl, BLe.cells (LeL.refl _)⟩, rfl⟩, ?_⟩ |refine ⟨⟨⟨_, rfl, BLe.row rfl⟩, rfl⟩, ?_⟩ |refine ⟨⟨⟨_, rfl, BLe.row ?_⟩, rfl⟩, ?_⟩ |refine ⟨⟨⟨_, rfl, BLe.cells ?_⟩, rfl⟩, ?_⟩ |refine ⟨⟨AV.Le.int ?_, rfl⟩, ?_⟩ |refine ⟨⟨AV.Le.bool ?_, rfl⟩, ?_⟩ |refine ⟨⟨AV.Le.sl ?_, rfl⟩, ?_⟩ |refine ⟨⟨AV.Le.of_eq ?_, rfl⟩, ?_⟩ | fail)
  · intro (m, o, x) ⟨⟨k0, k1⟩, ⟨k2, k3⟩, ⟨k4, k5⟩, k6⟩
    have lo : lenI o ≤ 8193 := lenI_le.2 (by omega)
    have lx : lenI x ≤ 8193 := lenI_le.2 (by omega)
    have hmo := rMul_ok o x (show lenI o ≤ 40000 by omega) (show lenI x ≤ 40000 by omega)
    have hmx := rMul_ok x x (show lenI x ≤ 40000 by omega) (show lenI x ≤ 40000 by omega)
    have hox : 1 ≤ o * x := by have := le_mul_one k4 (show 0 ≤ o by omega); omega
    have hxx : 1 ≤ x * x := by have := le_mul_one k4 (show 0 ≤ x by omega); omega
    by_cases hm : 0 < m
    · have hodd : m % 2 = 1 → o * x ≤ T ∧ o * x * (x * x) ^ (m / 2).toNat = T := fun hmo => by
        have e : x ^ m.toNat = x * (x * x) ^ (m / 2).toNat := by
          rw [sq_pow, Int.mul_comm, ← Int.pow_succ]; congr 1; omega
        rw [e, ← Int.mul_assoc] at k6
        exact ⟨by rw [← k6]; exact le_mul_one (pow_ge_one hxx _) (by omega), k6⟩
      have heven : m % 2 ≠ 1 → o * (x * x) ^ (m / 2).toNat = T := fun hmo => by
        have e : x ^ m.toNat = (x * x) ^ (m / 2).toNat := by
          rw [sq_pow]; congr 1; omega
        rw [e] at k6
        exact k6
      have hsq : 1 < m → x * x ≤ T := fun hm1 => by
        have e : x ^ m.toNat = (x * x) * x ^ (m.toNat - 2) := by
          rw [show x * x = x ^ 2 by rw [Int.pow_succ, Int.pow_succ, Int.pow_zero, Int.one_mul], ← Int.pow_add]; congr 1; omega
        rw [e, ← Int.mul_assoc] at k6
        rw [← k6]
        have g1 := le_mul_one (pow_ge_one k4 (m.toNat - 2)) (show 0 ≤ o * (x * x) from Int.mul_nonneg (by omega) (by omega))
        have g2 := Int.mul_le_mul_of_nonneg_right k2 (show 0 ≤ x * x by omega)
        omega
      by_cases hr : m % 2 = 1
      · obtain ⟨q1, q2⟩ := hodd hr
        by_cases hm1 : 1 < m
        · repeat' (first |refine Fl.v rfl rfl rfl ?_ |refine Fl.nilF ?_ |refine AWP.seq ?_ |refine AWP.region ?_ |refine Fl.w rfl rfl rfl (by first | exact True.intro | omega) ?_ |(refine AWP.condD rfl ?_ ?_ <;> intro _ <;> try (exfalso; omega)) |refine AWP.block ?_ |refine AWP.skip ?_ |fail)
          refine Fl.call rfl (hmo) rfl rfl rfl (LeL.refl _) ?_
          repeat' (first |refine Fl.v rfl rfl rfl ?_ |refine Fl.nilF ?_ |refine AWP.seq ?_ |refine AWP.region ?_ |refine Fl.b rfl rfl rfl rfl ?_ |(refine AWP.condD rfl ?_ ?_ <;> intro _ <;> try (exfalso; omega)) |fail)
          refine Fl.call rfl (hmx) rfl rfl rfl (LeL.refl _) ?_
          repeat' (first |refine Fl.v rfl rfl rfl ?_ |refine Fl.nilF ?_ |refine AWP.seq ?_ |refine AWP.region ?_ |refine Fl.w rfl rfl rfl (by first | exact True.intro | omega) ?_ |refine Fl.b rfl rfl rfl rfl ?_ |fail)
          refine LoopEnd.of (m / 2, o * x, x * x) ⟨⟨by omega, by omega⟩, ⟨by omega, by omega⟩, ⟨by omega, by have := hsq hm1; omega⟩, q2⟩ (show (m / 2).toNat < m.toNat by omega) ?_
          refine Ent.of [(700, 8)] ?_ ?_ rfl rfl
          repeat' (first | exact True.intro |refine ⟨⟨AV.Le.refl _, rfl⟩, ?_⟩ |refine ⟨⟨⟨_, rfl, BLe.cells (LeL.refl _)⟩, rfl⟩, ?_⟩ |refine ⟨⟨⟨_, rfl, BLe.row rfl⟩, rfl⟩, ?_⟩ |refine ⟨⟨⟨_, rfl, BLe.row ?_⟩, rfl⟩, ?_⟩ |refine ⟨⟨⟨_, rfl, BLe.cells ?_⟩, rfl⟩, ?_⟩ |refine ⟨⟨AV.Le.int ?_, rfl⟩, ?_⟩ |refine ⟨⟨AV.Le.bool ?_, rfl⟩, ?_⟩ |refine ⟨⟨AV.Le.sl ?_, rfl⟩, ?_⟩ |refine ⟨⟨AV.Le.of_eq ?_, rfl⟩, ?_⟩ | fail)
        · have hm2 : m = 1 := by omega
          subst hm2
          repeat' (first |refine Fl.v rfl rfl rfl ?_ |refine Fl.nilF ?_ |refine AWP.seq ?_ |refine AWP.region ?_ |refine Fl.w rfl rfl rfl (by first | exact True.intro | omega) ?_ |refine AWP.condT rfl ?_ |refine AWP.block ?_ |refine AWP.skip ?_ |fail)
          refine Fl.call rfl (hmo) rfl rfl rfl (LeL.refl _) ?_
          repeat' (first |refine Fl.v rfl rfl rfl ?_ |refine Fl.nilF ?_ |refine AWP.seq ?_ |refine AWP.region ?_ |refine Fl.w rfl rfl rfl (by first | exact True.intro | omega) ?_ |refine Fl.b rfl rfl rfl rfl ?_ |refine AWP.condF rfl ?_ |refine AWP.skip ?_ |fail)
          refine LoopEnd.of (0, o * x, x) ⟨⟨by omega, by omega⟩, ⟨by omega, by omega⟩, ⟨by omega, k5⟩, by simpa using q2⟩ (show (0 : Int).toNat < (1 : Int).toNat by decide) ?_
          refine Ent.of [(700, 8)] ?_ ?_ rfl rfl
          repeat' (first | exact True.intro |refine ⟨⟨AV.Le.refl _, rfl⟩, ?_⟩ |refine ⟨⟨⟨_, rfl, BLe.cells (LeL.refl _)⟩, rfl⟩, ?_⟩ |refine ⟨⟨⟨_, rfl, BLe.row rfl⟩, rfl⟩, ?_⟩ |refine ⟨⟨⟨_, rfl, BLe.row ?_⟩, rfl⟩, ?_⟩ |refine ⟨⟨⟨_, rfl, BLe.cells ?_⟩, rfl⟩, ?_⟩ |refine ⟨⟨AV.Le.int ?_, rfl⟩, ?_⟩ |refine ⟨⟨AV.Le.bool ?_, rfl⟩, ?_⟩ |refine ⟨⟨AV.Le.sl ?_, rfl⟩, ?_⟩ |refine ⟨⟨AV.Le.of_eq ?_, rfl⟩, ?_⟩ | fail)
      · have q2 := heven hr
        repeat' (first |refine Fl.v rfl rfl rfl ?_ |refine Fl.nilF ?_ |refine AWP.seq ?_ |refine AWP.region ?_ |refine Fl.w rfl rfl rfl (by first | exact True.intro | omega) ?_ |(refine AWP.condD rfl ?_ ?_ <;> intro _ <;> try (exfalso; omega)) |refine AWP.block ?_ |refine AWP.skip ?_ |fail)
        refine Fl.call rfl (hmx) rfl rfl rfl (LeL.refl _) ?_
        repeat' (first |refine Fl.v rfl rfl rfl ?_ |refine Fl.nilF ?_ |refine AWP.seq ?_ |refine AWP.region ?_ |refine Fl.w rfl rfl rfl (by first | exact True.intro | omega) ?_ |refine Fl.b rfl rfl rfl rfl ?_ |fail)
        refine LoopEnd.of (m / 2, o, x * x) ⟨⟨by omega, by omega⟩, ⟨by omega, by omega⟩, ⟨by omega, by have := hsq (by omega); omega⟩, q2⟩ (show (m / 2).toNat < m.toNat by omega) ?_
        refine Ent.of [(700, 8)] ?_ ?_ rfl rfl
        repeat' (first | exact True.intro |refine ⟨⟨AV.Le.refl _, rfl⟩, ?_⟩ |refine ⟨⟨⟨_, rfl, BLe.cells (LeL.refl _)⟩, rfl⟩, ?_⟩ |refine ⟨⟨⟨_, rfl, BLe.row rfl⟩, rfl⟩, ?_⟩ |refine ⟨⟨⟨_, rfl, BLe.row ?_⟩, rfl⟩, ?_⟩ |refine ⟨⟨⟨_, rfl, BLe.cells ?_⟩, rfl⟩, ?_⟩ |refine ⟨⟨AV.Le.int ?_, rfl⟩, ?_⟩ |refine ⟨⟨AV.Le.bool ?_, rfl⟩, ?_⟩ |refine ⟨⟨AV.Le.sl ?_, rfl⟩, ?_⟩ |refine ⟨⟨AV.Le.of_eq ?_, rfl⟩, ?_⟩ | fail)
    · rw [show m.toNat = 0 by omega, Int.pow_zero, Int.mul_one] at k6
      rw [← k6]
      repeat' (first |refine Fl.v rfl rfl rfl ?_ |refine Fl.nilF ?_ |refine AWP.seq ?_ |refine AWP.region ?_ |refine Fl.b rfl rfl rfl rfl ?_ |(refine AWP.condD rfl ?_ ?_ <;> intro _ <;> try (exfalso; omega)) |refine AWP.exit ?_ |refine AWP.ret ?_ |fail)
      exact RetOk.of rfl (AV.Le.refl _)
end Go.Proofs.YtfkjhjgihbnegaaGreat
namespace Go.AL
theorem psi_one (a : Int) : psiN a 1 = 1 := by rw [psi_succ, psi_zero, Int.mul_zero]; rfl
theorem psi_rec (a : Int) (n : Nat) : (a + a) * psiN a (n + 1) - psiN a n = psiN a (n + 2) := by
  have h1 := psi_succ a (n + 1)
  have h2 := chi_succ a n
  have h3 := psi_succ a n
  rw [show n + 1 + 1 = n + 2 from rfl] at h1
  grind
theorem psi_two (a : Int) : psiN a 2 = a + a := by
  have := psi_rec a 0
  simp only [Nat.zero_add, psi_one, psi_zero] at this
  omega
theorem psi_up {a : Int} (ha : 2 ≤ a) (n : Nat) : psiN a (n + 1) ≤ (a + a) * psiN a n ∨ n = 0 := by
  cases n with
  | zero => exact .inr rfl
  | succ n =>
    left
    have h1 := psi_rec a n
    have h2 := (cp_pos ha n).2.1
    rw [show n + 1 + 1 = n + 2 from rfl]
    omega
theorem psi_bound {a : Int} (ha : 2 ≤ a) (hf : Fit a) {n k : Nat} (hn : n ≠ 0) (h : psiN a n < BB k) : psiN a (n + 1) < BB (4097 + k) := by
  have h1 := (psi_up ha n).resolve_right hn
  have h2 : a + a < BB 4097 := by
    have := hf
    unfold Fit at this
    rw [BB_succ]
    have := BB_pos 4096
    omega
  have h3 := (cp_pos ha n).2.1
  have h4 := BB_pos k
  rw [BB_add]
  have g1 : (a + a) * psiN a n ≤ (a + a) * BB k := Int.mul_le_mul_of_nonneg_left (by omega) (by omega)
  have g2 : (a + a) * BB k < BB 4097 * BB k := Int.mul_lt_mul_of_pos_right h2 h4
  omega
theorem twice_lt {x : Int} {k : Nat} (hx : Fit x) (hk : 4097 ≤ k) : x + x < BB k := by
  have h1 := hx
  unfold Fit at h1
  have h2 := BB_le hk
  rw [BB_succ] at h2
  have := BB_pos 4096
  omega
theorem pow_gt {x z : Int} {y : Int} {bx bz : Int} (hx : 2 ≤ x) (hz : 1 ≤ z) (hy : 0 ≤ y) (hbx : bx = (bitl x.natAbs : Int)) (hbz : bz = (bitl z.natAbs : Int)) (h : bz < y * (bx - 1)) : z < x ^ y.toNat := by
  have h1 := bitl_ge (n := x.natAbs) (by omega)
  have h2 := bitl_lt z.natAbs
  have h3 : (2 ^ (bitl x.natAbs - 1)) ^ y.toNat ≤ x.natAbs ^ y.toNat := Nat.pow_le_pow_left h1.2 _
  rw [← Nat.pow_mul] at h3
  have h4 : bitl z.natAbs ≤ (bitl x.natAbs - 1) * y.toNat := by
    have e : (((bitl x.natAbs - 1) * y.toNat : Nat) : Int) = y * (bx - 1) := by
      rw [Int.natCast_mul, hbx, Int.mul_comm, show ((y.toNat : Nat) : Int) = y by omega, Int.natCast_sub h1.1]
      rfl
    omega
  have h5 : 2 ^ bitl z.natAbs ≤ 2 ^ ((bitl x.natAbs - 1) * y.toNat) := Nat.pow_le_pow_right (by omega) h4
  have h6 : z.natAbs < x.natAbs ^ y.toNat := by omega
  have h7 : x ^ y.toNat = ((x.natAbs ^ y.toNat : Nat) : Int) := by
    rw [Int.natCast_pow, show ((x.natAbs : Nat) : Int) = x by omega]
  rw [h7]
  omega
end Go.AL
namespace Go.Proofs.YtfkjhjgihbnegaaGreat
open Go.AL

set_option maxHeartbeats 1000000 in
theorem rIsPsi_ok (x y z : Int) (hx : Fit x) (hy : Fit y) (hz : Fit z) (b : Bool) (hb : b = true ↔ 2 ≤ x ∧ 1 ≤ y ∧ psiN x y.toNat = z) : PureFn Tryz.prog 44 [aX x, aX y, aX z] (aB b) := by
  refine PureFn.of_body Tryz.func44 rfl Tryz.ntmps44 rfl rfl ?_
  have hfalse : ¬ (2 ≤ x ∧ 1 ≤ y ∧ psiN x y.toNat = z) → false = b := fun h => by cases b with | false => rfl | true => exact absurd (hb.1 rfl) h
  have lx : lenI x ≤ 4096 := hx.len
  have lz : lenI z ≤ 4096 := hz.len
  have l2 : lenI 2 ≤ 4096 := fit_two.len
  have hfew := rfew_ok y
  have hcmp := rCmp_ok x 2 (by omega) (by omega)
  have c2 := cmpI_cases x 2
  by_cases hfe : 0 ≤ y ∧ y ≤ 163840
  · rw [decide_eq_true hfe, smallV_eq (by unfold I64; omega)] at hfew
    by_cases h1 : 2 ≤ x ∧ 1 ≤ y
    · repeat' (first |refine Fl.v rfl rfl rfl ?_ |refine Fl.nilF ?_ |refine AWP.seq ?_ |refine AWP.region ?_ |refine Fl.b rfl rfl rfl rfl ?_ |fail)
      refine Fl.call rfl (hfew) rfl rfl rfl (LeL.refl _) ?_
      repeat' (first |refine Fl.v rfl rfl rfl ?_ |refine Fl.nilF ?_ |refine AWP.seq ?_ |refine AWP.region ?_ |fail)
      refine Fl.call rfl (rOf_ok 2 (by omega) (by omega)) rfl rfl rfl (LeL.refl _) ?_
      skip
      refine Fl.call rfl (hcmp) rfl rfl rfl (LeL.refl _) ?_
      repeat' (first |refine Fl.v rfl rfl rfl ?_ |refine Fl.nil (fun _ => by kernel_rfl) ?_ |refine AWP.seq ?_ |refine AWP.region ?_ |(refine AWP.condD rfl ?_ ?_ <;> intro _ <;> try (exfalso; omega)) |refine AWP.skip ?_ |(refine Fl.splitD rfl rfl ?_ ?_ <;> intro _ <;> try (exfalso; omega)) |fail)
      refine Fl.call rfl (rOf_ok 1 (by omega) (by omega)) rfl rfl rfl (LeL.refl _) ?_
      repeat' (first |refine Fl.v rfl rfl rfl ?_ |fail)
      refine Fl.call rfl (rAdd_ok x x (show lenI x ≤ 40000 by omega) (show lenI x ≤ 40000 by omega)) rfl rfl rfl (LeL.refl _) ?_
      repeat' (first |refine Fl.v rfl rfl rfl ?_ |refine Fl.nilF ?_ |refine Fl.nil (fun _ => by kernel_rfl) ?_ |refine AWP.seq ?_ |refine AWP.region ?_ |refine Fl.b rfl rfl rfl rfl ?_ |refine AWP.block ?_ |fail)
      refine AWP.loop (G := Nat) (fun i => (1 ≤ i ∧ (i : Int) ≤ y) ∧ psiN x i < BB 8193 ∧ psiN x (i + 1) < BB 12290)
        (fun i => St.of [] [(3, .ptr 3 0), (5, .ptr 5 0), (7, aN y), (9, .ptr 9 0), (10, .ptr 10 0), (11, aN i)] [(3, .cells (eX x) 58), (5, .cells (eX z) 58), (9, .cells (eX (psiN x i)) 58), (10, .cells (eX (psiN x (i + 1))) 58)])
        (fun i => y.toNat - i) 1 ⟨⟨by omega, by omega⟩, ?_, ?_⟩ ?_ ?_
      · rw [psi_one]
        have := BB_le (show 1 ≤ 8193 by omega)
        rw [BB_succ 0, BB_zero] at this
        omega
      · rw [psi_two]
        exact twice_lt hx (by omega)
      · refine Ent.of [] ?_ ?_ rfl rfl
        repeat' (first | exact True.intro |refine ⟨⟨AV.Le.refl _, rfl⟩, ?_⟩ |refine ⟨⟨⟨_, rfl, BLe.cells (LeL.refl _)⟩, rfl⟩, ?_⟩ |refine ⟨⟨⟨_, rfl, BLe.row rfl⟩, rfl⟩, ?_⟩ |refine ⟨⟨⟨_, rfl, BLe.row ?_⟩, rfl⟩, ?_⟩ |refine ⟨⟨⟨_, rfl, BLe.cells ?_⟩, rfl⟩, ?_⟩ |refine ⟨⟨AV.Le.int ?_, rfl⟩, ?_⟩ |refine ⟨⟨AV.Le.bool ?_, rfl⟩, ?_⟩ |refine ⟨⟨AV.Le.sl ?_, rfl⟩, ?_⟩ |refine ⟨⟨AV.Le.of_eq ?_, rfl⟩, ?_⟩ | fail)
        · exact leX (psi_one x).symm
        · exact leX (psi_two x).symm
      · intro i ⟨⟨k0, k1⟩, k2, k3⟩
        have p0 := (cp_pos h1.1 i).2.1
        have p1 := (cp_pos h1.1 (i + 1)).2.1
        have li : lenI (psiN x i) ≤ 8193 := lenI_le.2 (by omega)
        have li1 : lenI (psiN x (i + 1)) ≤ 12290 := lenI_le.2 (by omega)
        have hcm := rCmp_ok (psiN x i) z (by omega) (by omega)
        have c := cmpI_cases (psiN x i) z
        have hsame := rSame_ok (psiN x i) z (show lenI (psiN x i) ≤ 1000000 by omega)
        by_cases hin : (i : Int) < y
        · by_cases hle : psiN x i ≤ z
          · have lxx : lenI (x + x) ≤ 4097 := lenI_le.2 (by have := twice_lt hx (Nat.le_refl 4097); omega)
            have hm := rMul_ok (x + x) (psiN x (i + 1)) (show lenI (x + x) ≤ 40000 by omega) (show lenI (psiN x (i + 1)) ≤ 40000 by omega)
            have b1 : psiN x (i + 1) < BB 8193 := psi_bound h1.1 hx (k := 4096) (by omega) (by
              have := hz
              unfold Fit at this
              omega)
            have b2 : psiN x (i + 2) < BB 12290 := psi_bound h1.1 hx (k := 8193) (n := i + 1) (by omega) b1
            have lm : lenI ((x + x) * psiN x (i + 1)) ≤ 40000 := by
              have := lenI_mul (x + x) (psiN x (i + 1))
              omega
            have hs := rSub_ok ((x + x) * psiN x (i + 1)) (psiN x i) lm (by omega)
            rw [psi_rec] at hs
            repeat' (first |refine Fl.v rfl rfl rfl ?_ |refine AWP.seq ?_ |refine AWP.region ?_ |(refine Fl.splitD rfl rfl ?_ ?_ <;> intro _ <;> try (exfalso; omega)) |fail)
            refine Fl.call rfl (hcm) rfl rfl rfl (LeL.refl _) ?_
            repeat' (first |refine Fl.v rfl rfl rfl ?_ |refine Fl.nilF ?_ |refine AWP.seq ?_ |refine AWP.region ?_ |(refine AWP.condD rfl ?_ ?_ <;> intro _ <;> try (exfalso; omega)) |refine AWP.block ?_ |refine AWP.skip ?_ |fail)
            refine Fl.call rfl (rAdd_ok x x (show lenI x ≤ 40000 by omega) (show lenI x ≤ 40000 by omega)) rfl rfl rfl (LeL.refl _) ?_
            repeat' (first |refine Fl.v rfl rfl rfl ?_ |fail)
            refine Fl.call rfl (hm) rfl rfl rfl (LeL.refl _) ?_
            repeat' (first |refine Fl.v rfl rfl rfl ?_ |fail)
            refine Fl.call rfl (hs) rfl rfl rfl (LeL.refl _) ?_
            repeat' (first |refine Fl.v rfl rfl rfl ?_ |refine Fl.nilF ?_ |refine Fl.nil (fun _ => by kernel_rfl) ?_ |refine AWP.region ?_ |refine Fl.w rfl rfl rfl (by first | exact True.intro | omega) ?_ |refine Fl.b rfl rfl rfl rfl ?_ |fail)
            refine LoopEnd.of (i + 1) ⟨⟨by omega, by omega⟩, b1, b2⟩ (by omega) ?_
            refine Ent.of [] ?_ ?_ rfl rfl
            repeat' (first | exact True.intro |refine ⟨⟨AV.Le.refl _, rfl⟩, ?_⟩ |refine ⟨⟨⟨_, rfl, BLe.cells (LeL.refl _)⟩, rfl⟩, ?_⟩ |refine ⟨⟨⟨_, rfl, BLe.row rfl⟩, rfl⟩, ?_⟩ |refine ⟨⟨⟨_, rfl, BLe.row ?_⟩, rfl⟩, ?_⟩ |refine ⟨⟨⟨_, rfl, BLe.cells ?_⟩, rfl⟩, ?_⟩ |refine ⟨⟨AV.Le.int ?_, rfl⟩, ?_⟩ |refine ⟨⟨AV.Le.bool ?_, rfl⟩, ?_⟩ |refine ⟨⟨AV.Le.sl ?_, rfl⟩, ?_⟩ |refine ⟨⟨AV.Le.of_eq ?_, rfl⟩, ?_⟩ | fail)
          · repeat' (first |refine Fl.v rfl rfl rfl ?_ |refine AWP.seq ?_ |refine AWP.region ?_ |(refine Fl.splitD rfl rfl ?_ ?_ <;> intro _ <;> try (exfalso; omega)) |fail)
            refine Fl.call rfl (hcm) rfl rfl rfl (LeL.refl _) ?_
            repeat' (first |refine Fl.v rfl rfl rfl ?_ |refine Fl.nilF ?_ |refine AWP.seq ?_ |refine AWP.region ?_ |(refine AWP.condD rfl ?_ ?_ <;> intro _ <;> try (exfalso; omega)) |refine AWP.exit ?_ |fail)
            refine Fl.call rfl (hsame) rfl rfl rfl (LeL.refl _) ?_
            repeat' (first |refine Fl.v rfl rfl rfl ?_ |refine Fl.nilF ?_ |refine AWP.ret ?_ |fail)
            refine RetOk.of rfl (AV.Le.bool ?_)
            rw [decide_eq_false (by omega)]
            refine hfalse fun k => ?_
            have := psi_mono h1.1 (show i ≤ y.toNat by omega)
            omega
        · have hiy : y.toNat = i := by omega
          repeat' (first |refine Fl.v rfl rfl rfl ?_ |refine Fl.nilF ?_ |refine AWP.seq ?_ |refine AWP.region ?_ |refine Fl.skip rfl rfl ?_ |refine AWP.condF rfl ?_ |refine AWP.exit ?_ |(refine Fl.splitD rfl rfl ?_ ?_ <;> intro _ <;> try (exfalso; omega)) |fail)
          refine Fl.call rfl (hsame) rfl rfl rfl (LeL.refl _) ?_
          repeat' (first |refine Fl.v rfl rfl rfl ?_ |refine Fl.nilF ?_ |refine AWP.ret ?_ |fail)
          refine RetOk.of rfl (AV.Le.bool ?_)
          rw [hiy] at hb
          cases b with
          | false => exact decide_eq_false fun k => by have := hb.2 ⟨h1.1, h1.2, k⟩; cases this
          | true => exact decide_eq_true (hb.1 rfl).2.2
    · have hbad := hfalse fun k => h1 ⟨k.1, k.2.1⟩
      repeat' (first |refine Fl.v rfl rfl rfl ?_ |refine Fl.nilF ?_ |refine AWP.seq ?_ |refine AWP.region ?_ |refine Fl.b rfl rfl rfl rfl ?_ |fail)
      refine Fl.call rfl (hfew) rfl rfl rfl (LeL.refl _) ?_
      repeat' (first |refine Fl.v rfl rfl rfl ?_ |refine Fl.nilF ?_ |refine AWP.seq ?_ |refine AWP.region ?_ |fail)
      refine Fl.call rfl (rOf_ok 2 (by omega) (by omega)) rfl rfl rfl (LeL.refl _) ?_
      skip
      refine Fl.call rfl (hcmp) rfl rfl rfl (LeL.refl _) ?_
      repeat' (first |refine Fl.v rfl rfl rfl ?_ |refine Fl.nilF ?_ |refine Fl.nil (fun _ => by kernel_rfl) ?_ |refine AWP.seq ?_ |refine AWP.region ?_ |refine Fl.skip rfl rfl ?_ |refine AWP.condT rfl ?_ |(refine AWP.condD rfl ?_ ?_ <;> intro _ <;> try (exfalso; omega)) |refine AWP.ret ?_ |(refine Fl.splitD rfl rfl ?_ ?_ <;> intro _ <;> try (exfalso; omega)) |fail)
      all_goals exact RetOk.of rfl (AV.Le.bool hbad)
  · rw [decide_eq_false hfe] at hfew
    have hbad := hfalse fun k => by
      refine psi_not_fit (a := x) (n := y.toNat) k.1 ?_ (by rw [k.2.2]; exact hz)
      have := k.2.1
      omega
    repeat' (first |refine Fl.v rfl rfl rfl ?_ |refine Fl.nilF ?_ |refine AWP.seq ?_ |refine AWP.region ?_ |refine Fl.b rfl rfl rfl rfl ?_ |fail)
    refine Fl.call rfl (hfew) rfl rfl rfl (LeL.refl _) ?_
    repeat' (first |refine Fl.v rfl rfl rfl ?_ |refine Fl.nilF ?_ |refine AWP.seq ?_ |refine AWP.region ?_ |fail)
    refine Fl.call rfl (rOf_ok 2 (by omega) (by omega)) rfl rfl rfl (LeL.refl _) ?_
    skip
    refine Fl.call rfl (hcmp) rfl rfl rfl (LeL.refl _) ?_
    repeat' (first |refine Fl.v rfl rfl rfl ?_ |refine Fl.nilF ?_ |refine Fl.nil (fun _ => by kernel_rfl) ?_ |refine AWP.seq ?_ |refine AWP.region ?_ |refine Fl.skip rfl rfl ?_ |refine AWP.condT rfl ?_ |refine AWP.ret ?_ |(refine Fl.splitD rfl rfl ?_ ?_ <;> intro _ <;> try (exfalso; omega)) |fail)
    all_goals exact RetOk.of rfl (AV.Le.bool hbad)

set_option maxHeartbeats 1000000 in
theorem rIsPower_ok (x y z : Int) (hx : Fit x) (hy : Fit y) (hz : Fit z) (b : Bool) (hb : b = true ↔ 1 ≤ x ∧ 0 ≤ y ∧ x ^ y.toNat = z) : PureFn Tryz.prog 45 [aX x, aX y, aX z] (aB b) := by
  refine PureFn.of_body Tryz.func45 rfl Tryz.ntmps45 rfl rfl ?_
  have hfalse : ¬ (1 ≤ x ∧ 0 ≤ y ∧ x ^ y.toNat = z) → false = b := fun h => by cases b with | false => rfl | true => exact absurd (hb.1 rfl) h
  have lx : lenI x ≤ 4096 := hx.len
  have lz : lenI z ≤ 4096 := hz.len
  have l1 : lenI 1 ≤ 4096 := fit_one.len
  have hfew := rfew_ok y
  have hcmp := rCmp_ok x 1 (by omega) (by omega)
  have c2 := cmpI_cases x 1
  have hs1 := rSame_ok x 1 (show lenI x ≤ 1000000 by omega)
  by_cases h1 : 1 ≤ x ∧ 0 ≤ y
  · by_cases hx1 : x = 1
    · rw [decide_eq_true hx1] at hs1
      have hzx := rSame_ok z x (show lenI z ≤ 1000000 by omega)
      repeat' (first |refine Fl.v rfl rfl rfl ?_ |refine Fl.nilF ?_ |refine AWP.seq ?_ |refine AWP.region ?_ |refine Fl.b rfl rfl rfl rfl ?_ |fail)
      refine Fl.call rfl (rOf_ok 1 (by omega) (by omega)) rfl rfl rfl (LeL.refl _) ?_
      skip
      refine Fl.call rfl (hcmp) rfl rfl rfl (LeL.refl _) ?_
      repeat' (first |refine Fl.v rfl rfl rfl ?_ |refine Fl.nil (fun _ => by kernel_rfl) ?_ |refine AWP.seq ?_ |refine AWP.region ?_ |(refine AWP.condD rfl ?_ ?_ <;> intro _ <;> try (exfalso; omega)) |refine AWP.skip ?_ |(refine Fl.splitD rfl rfl ?_ ?_ <;> intro _ <;> try (exfalso; omega)) |fail)
      refine Fl.call rfl (rOf_ok 1 (by omega) (by omega)) rfl rfl rfl (LeL.refl _) ?_
      skip
      refine Fl.call rfl (hs1) rfl rfl rfl (LeL.refl _) ?_
      repeat' (first |refine Fl.v rfl rfl rfl ?_ |refine Fl.nil (fun _ => by kernel_rfl) ?_ |refine AWP.seq ?_ |refine AWP.region ?_ |refine AWP.condT rfl ?_ |fail)
      refine Fl.call rfl (hzx) rfl rfl rfl (LeL.refl _) ?_
      repeat' (first |refine Fl.v rfl rfl rfl ?_ |refine Fl.nilF ?_ |refine AWP.ret ?_ |fail)
      refine RetOk.of rfl (AV.Le.bool ?_)
      subst hx1
      cases b with
      | false => exact decide_eq_false fun k => by have := hb.2 ⟨by omega, by omega, by rw [Int.one_pow, k]⟩; cases this
      | true => exact decide_eq_true (by have := (hb.1 rfl).2.2; rw [Int.one_pow] at this; exact this.symm)
    · rw [decide_eq_false hx1] at hs1
      by_cases hfe : 0 ≤ y ∧ y ≤ 163840
      · rw [decide_eq_true hfe, smallV_eq (by unfold I64; omega)] at hfew
        by_cases hz0 : z ≤ 0
        · have hbad := hfalse fun k => by
            have := pow_ge_one (x := x) (by omega) y.toNat
            omega
          repeat' (first |refine Fl.v rfl rfl rfl ?_ |refine Fl.nilF ?_ |refine AWP.seq ?_ |refine AWP.region ?_ |refine Fl.b rfl rfl rfl rfl ?_ |fail)
          refine Fl.call rfl (rOf_ok 1 (by omega) (by omega)) rfl rfl rfl (LeL.refl _) ?_
          skip
          refine Fl.call rfl (hcmp) rfl rfl rfl (LeL.refl _) ?_
          repeat' (first |refine Fl.v rfl rfl rfl ?_ |refine Fl.nil (fun _ => by kernel_rfl) ?_ |refine AWP.seq ?_ |refine AWP.region ?_ |(refine AWP.condD rfl ?_ ?_ <;> intro _ <;> try (exfalso; omega)) |refine AWP.skip ?_ |(refine Fl.splitD rfl rfl ?_ ?_ <;> intro _ <;> try (exfalso; omega)) |fail)
          refine Fl.call rfl (rOf_ok 1 (by omega) (by omega)) rfl rfl rfl (LeL.refl _) ?_
          skip
          refine Fl.call rfl (hs1) rfl rfl rfl (LeL.refl _) ?_
          repeat' (first |refine Fl.v rfl rfl rfl ?_ |refine Fl.nil (fun _ => by kernel_rfl) ?_ |refine AWP.seq ?_ |refine AWP.region ?_ |refine AWP.condF rfl ?_ |refine AWP.skip ?_ |fail)
          refine Fl.call rfl (hfew) rfl rfl rfl (LeL.refl _) ?_
          repeat' (first |refine Fl.v rfl rfl rfl ?_ |refine Fl.nilF ?_ |refine AWP.seq ?_ |refine AWP.region ?_ |refine Fl.skip rfl rfl ?_ |refine AWP.condT rfl ?_ |refine AWP.ret ?_ |(refine Fl.splitD rfl rfl ?_ ?_ <;> intro _ <;> try (exfalso; omega)) |fail)
          · exact RetOk.of rfl (AV.Le.bool hbad)
          · have hzz := rZeroX_ok z
            rw [decide_eq_true (show z = 0 by omega)] at hzz
            refine Fl.call rfl (hzz) rfl rfl rfl (LeL.refl _) ?_
            repeat' (first |refine Fl.v rfl rfl rfl ?_ |refine Fl.nilF ?_ |refine AWP.seq ?_ |refine AWP.region ?_ |refine AWP.condT rfl ?_ |refine AWP.ret ?_ |fail)
            exact RetOk.of rfl (AV.Le.bool hbad)
        · obtain ⟨bx, hbx⟩ : ∃ bx : Int, bx = bitl x.natAbs := ⟨_, rfl⟩
          obtain ⟨bz, hbz⟩ : ∃ bz : Int, bz = bitl z.natAbs := ⟨_, rfl⟩
          have hbitx := rBits_ok x (by omega)
          have hbitz := rBits_ok z (by omega)
          rw [← hbx] at hbitx
          rw [← hbz] at hbitz
          have ux : bitl x.natAbs ≤ 32 * 4096 := bitl_BB (by have := hx; unfold Fit at this; exact this)
          have uz : bitl z.natAbs ≤ 32 * 4096 := bitl_BB (by have := hz; unfold Fit at this; exact this)
          have gx := (bitl_ge (n := x.natAbs) (by omega)).1
          have m0 : 0 ≤ y * (bx - 1) := Int.mul_nonneg (by omega) (by omega)
          have m1 : y * (bx - 1) ≤ 163840 * (bx - 1) := Int.mul_le_mul_of_nonneg_right (by omega) (by omega)
          have hzz := rZeroX_ok z
          rw [decide_eq_false (show ¬ z = 0 by omega)] at hzz
          repeat' (first |refine Fl.v rfl rfl rfl ?_ |refine Fl.nilF ?_ |refine AWP.seq ?_ |refine AWP.region ?_ |refine Fl.b rfl rfl rfl rfl ?_ |fail)
          refine Fl.call rfl (rOf_ok 1 (by omega) (by omega)) rfl rfl rfl (LeL.refl _) ?_
          skip
          refine Fl.call rfl (hcmp) rfl rfl rfl (LeL.refl _) ?_
          repeat' (first |refine Fl.v rfl rfl rfl ?_ |refine Fl.nil (fun _ => by kernel_rfl) ?_ |refine AWP.seq ?_ |refine AWP.region ?_ |(refine AWP.condD rfl ?_ ?_ <;> intro _ <;> try (exfalso; omega)) |refine AWP.skip ?_ |(refine Fl.splitD rfl rfl ?_ ?_ <;> intro _ <;> try (exfalso; omega)) |fail)
          refine Fl.call rfl (rOf_ok 1 (by omega) (by omega)) rfl rfl rfl (LeL.refl _) ?_
          skip
          refine Fl.call rfl (hs1) rfl rfl rfl (LeL.refl _) ?_
          repeat' (first |refine Fl.v rfl rfl rfl ?_ |refine Fl.nil (fun _ => by kernel_rfl) ?_ |refine AWP.seq ?_ |refine AWP.region ?_ |refine AWP.condF rfl ?_ |refine AWP.skip ?_ |fail)
          refine Fl.call rfl (hfew) rfl rfl rfl (LeL.refl _) ?_
          repeat' (first |refine Fl.v rfl rfl rfl ?_ |refine Fl.nilF ?_ |refine AWP.seq ?_ |refine AWP.region ?_ |(refine Fl.splitD rfl rfl ?_ ?_ <;> intro _ <;> try (exfalso; omega)) |fail)
          refine Fl.call rfl (hzz) rfl rfl rfl (LeL.refl _) ?_
          repeat' (first |refine Fl.v rfl rfl rfl ?_ |refine Fl.nilF ?_ |refine AWP.seq ?_ |refine AWP.region ?_ |refine AWP.condF rfl ?_ |refine AWP.skip ?_ |fail)
          refine Fl.call rfl (hbitx) rfl rfl rfl (LeL.refl _) ?_
          repeat' (first |refine Fl.v rfl rfl rfl ?_ |refine Fl.w rfl rfl rfl (by first | exact True.intro | omega) ?_ |fail)
          refine Fl.call rfl (hbitz) rfl rfl rfl (LeL.refl _) ?_
          repeat' (first |refine Fl.v rfl rfl rfl ?_ |refine Fl.nilF ?_ |refine Fl.nil (fun _ => by kernel_rfl) ?_ |refine AWP.seq ?_ |refine AWP.region ?_ |(refine AWP.condD rfl ?_ ?_ <;> intro _ <;> try (exfalso; omega)) |refine AWP.skip ?_ |refine AWP.ret ?_ |fail)
          · rename_i hgt
            have := pow_gt (x := x) (z := z) (y := y) (by omega) (by omega) (by omega) hbx hbz hgt
            exact RetOk.of rfl (AV.Le.bool (hfalse fun k => by omega))
          · rename_i hgt
            have hsm := pow_small (p := x) (n := y) (by omega) (by omega) hbx (by omega)
            have hT := pow_ge_one (x := x) (by omega) y.toNat
            have hsame := rSame_ok (x ^ y.toNat) z (show lenI (x ^ y.toNat) ≤ 1000000 by
              have : lenI (x ^ y.toNat) ≤ 8193 := lenI_le.2 (by omega)
              omega)
            refine Fl.call rfl (rPower_ok x y (by omega) hx (by omega) (by omega) bx hbx (by omega)) rfl rfl rfl (LeL.refl _) ?_
            repeat' (first |refine Fl.v rfl rfl rfl ?_ |refine Fl.nilF ?_ |refine AWP.seq ?_ |refine AWP.region ?_ |refine Fl.b rfl rfl rfl rfl ?_ |fail)
            refine Fl.call rfl (hsame) rfl rfl rfl (LeL.refl _) ?_
            repeat' (first |refine Fl.v rfl rfl rfl ?_ |refine Fl.nilF ?_ |refine AWP.ret ?_ |fail)
            refine RetOk.of rfl (AV.Le.bool ?_)
            cases b with
            | false => exact decide_eq_false fun k => by have := hb.2 ⟨by omega, by omega, k⟩; cases this
            | true => exact decide_eq_true (hb.1 rfl).2.2
      · rw [decide_eq_false hfe] at hfew
        have hbad := hfalse fun k => by
          refine pow_not_fit (x := x) (n := y.toNat) (by omega) ?_ (by rw [k.2.2]; exact hz)
          omega
        repeat' (first |refine Fl.v rfl rfl rfl ?_ |refine Fl.nilF ?_ |refine AWP.seq ?_ |refine AWP.region ?_ |refine Fl.b rfl rfl rfl rfl ?_ |fail)
        refine Fl.call rfl (rOf_ok 1 (by omega) (by omega)) rfl rfl rfl (LeL.refl _) ?_
        skip
        refine Fl.call rfl (hcmp) rfl rfl rfl (LeL.refl _) ?_
        repeat' (first |refine Fl.v rfl rfl rfl ?_ |refine Fl.nil (fun _ => by kernel_rfl) ?_ |refine AWP.seq ?_ |refine AWP.region ?_ |(refine AWP.condD rfl ?_ ?_ <;> intro _ <;> try (exfalso; omega)) |refine AWP.skip ?_ |(refine Fl.splitD rfl rfl ?_ ?_ <;> intro _ <;> try (exfalso; omega)) |fail)
        refine Fl.call rfl (rOf_ok 1 (by omega) (by omega)) rfl rfl rfl (LeL.refl _) ?_
        skip
        refine Fl.call rfl (hs1) rfl rfl rfl (LeL.refl _) ?_
        repeat' (first |refine Fl.v rfl rfl rfl ?_ |refine Fl.nil (fun _ => by kernel_rfl) ?_ |refine AWP.seq ?_ |refine AWP.region ?_ |refine AWP.condF rfl ?_ |refine AWP.skip ?_ |fail)
        refine Fl.call rfl (hfew) rfl rfl rfl (LeL.refl _) ?_
        repeat' (first |refine Fl.v rfl rfl rfl ?_ |refine Fl.nilF ?_ |refine AWP.seq ?_ |refine AWP.region ?_ |refine Fl.skip rfl rfl ?_ |refine AWP.condT rfl ?_ |refine AWP.ret ?_ |fail)
        exact RetOk.of rfl (AV.Le.bool hbad)
  · have hbad := hfalse fun k => h1 ⟨k.1, k.2.1⟩
    repeat' (first |refine Fl.v rfl rfl rfl ?_ |refine Fl.nilF ?_ |refine AWP.seq ?_ |refine AWP.region ?_ |refine Fl.b rfl rfl rfl rfl ?_ |fail)
    refine Fl.call rfl (rOf_ok 1 (by omega) (by omega)) rfl rfl rfl (LeL.refl _) ?_
    skip
    refine Fl.call rfl (hcmp) rfl rfl rfl (LeL.refl _) ?_
    repeat' (first |refine Fl.v rfl rfl rfl ?_ |refine Fl.nilF ?_ |refine Fl.nil (fun _ => by kernel_rfl) ?_ |refine AWP.seq ?_ |refine AWP.region ?_ |refine Fl.skip rfl rfl ?_ |refine AWP.condT rfl ?_ |(refine AWP.condD rfl ?_ ?_ <;> intro _ <;> try (exfalso; omega)) |refine AWP.ret ?_ |(refine Fl.splitD rfl rfl ?_ ?_ <;> intro _ <;> try (exfalso; omega)) |fail)
    all_goals exact RetOk.of rfl (AV.Le.bool hbad)
end Go.Proofs.YtfkjhjgihbnegaaGreat
namespace Go.AL
theorem ord_sum {a b : List Int} (hl : a.length = b.length) (h : ordI a b < 0) : sumL b ≤ sumL a := by
  have h1 := (rOrd_one hl).2 h
  unfold rOrd at h1
  rw [ordX_eq a b _ _ hl] at h1
  split at h1
  · omega
  · rcases cmpI_cases (sumL a) (sumL b) with k | k | k <;> omega
theorem pdeg_ge {p : PZ} (hp : OkP p) : ∀ (i : Nat) (t : TZ), p.terms[i]? = some t → sumL t.e ≤ pdeg p ∧ (i = 0 → sumL t.e = pdeg p)
  | 0, t, h => by
    unfold pdeg
    cases hl : p.terms with
    | nil => rw [hl] at h; simp at h
    | cons a l => rw [hl] at h; simp at h; subst h; exact ⟨Int.le_refl _, fun _ => rfl⟩
  | i + 1, t, h => by
    have hi : i < p.terms.length := by have := (List.getElem?_eq_some_iff.1 h).1; omega
    obtain ⟨a, ha⟩ : ∃ a, p.terms[i]? = some a := ⟨_, List.getElem?_eq_getElem hi⟩
    have h1 := (pdeg_ge hp i a ha).1
    have o1 := (hp.terms a (List.mem_of_getElem? ha)).len
    have o2 := (hp.terms t (List.mem_of_getElem? h)).len
    have h2 := ord_sum (by omega) (hp.ord i a t ha h)
    exact ⟨by omega, fun h => by omega⟩
end Go.AL
namespace Go.Proofs.YtfkjhjgihbnegaaGreat
open Go.AL

theorem rDegree_ok (p : PZ) (hp : OkP p) : PureFn Tryz.prog 23 [aP p] (aN (pdeg p)) := by
  refine PureFn.of_body Tryz.func23 rfl Tryz.ntmps23 rfl rfl ?_
  have hlen := hp.len
  have hv1 := hp.v1
  repeat' (first |refine Fl.v rfl rfl rfl ?_ |refine Fl.nilF ?_ |refine AWP.seq ?_ |refine AWP.region ?_ |refine Fl.b rfl rfl rfl rfl ?_ |refine AWP.block ?_ |fail)
  refine AWP.loop (G := Nat × Int) (fun (i, d) => i ≤ p.terms.length ∧ (i = 0 ∧ d = -1 ∨ 0 < i ∧ d = pdeg p)) (fun (i, d) => St.of [] [(1, .ptr 1 0), (3, aN d), (4, aN i)] [(1, .cells [aN p.vars, .sl 3 eT p.terms] 45)]) (fun (i, d) => p.terms.length - i) (0, -1) ⟨by omega, .inl ⟨rfl, rfl⟩⟩ ?_ ?_
  · refine Ent.of [] ?_ ?_ rfl rfl
    repeat' (first | exact True.intro |refine ⟨⟨AV.Le.refl _, rfl⟩, ?_⟩ |refine ⟨⟨⟨_, rfl, BLe.cells (LeL.refl _)⟩, rfl⟩, ?_⟩ |refine ⟨⟨⟨_, rfl, BLe.row rfl⟩, rfl⟩, ?_⟩ |refine ⟨⟨⟨_, rfl, BLe.row ?_⟩, rfl⟩, ?_⟩ |refine ⟨⟨⟨_, rfl, BLe.cells ?_⟩, rfl⟩, ?_⟩ |refine ⟨⟨AV.Le.int ?_, rfl⟩, ?_⟩ |refine ⟨⟨AV.Le.bool ?_, rfl⟩, ?_⟩ |refine ⟨⟨AV.Le.sl ?_, rfl⟩, ?_⟩ |refine ⟨⟨AV.Le.of_eq ?_, rfl⟩, ?_⟩ | fail)
  · intro (i, d) ⟨k0, k1⟩
    by_cases hi : i < p.terms.length
    · obtain ⟨t, ht⟩ : ∃ t, p.terms[i]? = some t := ⟨_, List.getElem?_eq_getElem hi⟩
      have hot := hp.terms t (List.mem_of_getElem? ht)
      have htl := hot.len
      have hge := pdeg_ge hp i t ht
      have hs0 := (sumL_bound hot.exps).1
      repeat' (first |refine Fl.v rfl rfl rfl ?_ |refine Fl.nilF ?_ |refine AWP.seq ?_ |refine AWP.region ?_ |(refine AWP.condD rfl ?_ ?_ <;> intro _ <;> try (exfalso; omega)) |refine AWP.block ?_ |refine AWP.skip ?_ |refine Fl.elK rfl rfl rfl rfl rfl rfl rfl rfl (by assumption) (by omega) ?_ |fail)
      refine Fl.call rfl (rdegree_ok t.e hot.exps (by omega)) rfl rfl rfl (LeL.refl _) ?_
      repeat' (first |refine Fl.v rfl rfl rfl ?_ |refine Fl.nilF ?_ |refine AWP.region ?_ |refine Fl.w rfl rfl rfl (by first | exact True.intro | omega) ?_ |fail)
      refine LoopEnd.of (i + 1, pdeg p) ⟨by omega, .inr ⟨by omega, rfl⟩⟩ (show p.terms.length - (i + 1) < p.terms.length - i by omega) ?_
      refine Ent.of [] ?_ ?_ rfl rfl
      repeat' (first | exact True.intro |refine ⟨⟨AV.Le.refl _, rfl⟩, ?_⟩ |refine ⟨⟨⟨_, rfl, BLe.cells (LeL.refl _)⟩, rfl⟩, ?_⟩ |refine ⟨⟨⟨_, rfl, BLe.row rfl⟩, rfl⟩, ?_⟩ |refine ⟨⟨⟨_, rfl, BLe.row ?_⟩, rfl⟩, ?_⟩ |refine ⟨⟨⟨_, rfl, BLe.cells ?_⟩, rfl⟩, ?_⟩ |refine ⟨⟨AV.Le.int ?_, rfl⟩, ?_⟩ |refine ⟨⟨AV.Le.bool ?_, rfl⟩, ?_⟩ |refine ⟨⟨AV.Le.sl ?_, rfl⟩, ?_⟩ |refine ⟨⟨AV.Le.of_eq ?_, rfl⟩, ?_⟩ | fail)
      rcases k1 with ⟨h1, h2⟩ | ⟨h1, h2⟩
      · have := hge.2 h1
        rw [if_pos (by omega)]; exact this
      · rw [if_neg (by omega)]; exact h2
    · repeat' (first |refine Fl.v rfl rfl rfl ?_ |refine Fl.nilF ?_ |refine AWP.seq ?_ |refine AWP.region ?_ |(refine AWP.condD rfl ?_ ?_ <;> intro _ <;> try (exfalso; omega)) |refine AWP.exit ?_ |refine AWP.ret ?_ |fail)
      refine RetOk.of rfl (AV.Le.int ?_)
      rcases k1 with ⟨h1, h2⟩ | ⟨h1, h2⟩
      · have : p.terms = [] := List.eq_nil_of_length_eq_zero (by omega)
        rw [pdeg, this]; exact h2
      · exact h2
set_option maxHeartbeats 1000000 in
theorem rCounts_ok (s : SZ) (hs : OkS s) : PureFn Tryz.prog 13 [aS s] (aC (cntR s.vars s.links)) := by
  refine PureFn.of_body Tryz.func13 rfl Tryz.ntmps13 rfl rfl ?_
  have hsl := hs.len
  repeat' (first |refine Fl.v rfl rfl rfl ?_ |refine Fl.nilF ?_ |refine AWP.seq ?_ |refine AWP.region ?_ |refine Fl.b rfl rfl rfl rfl ?_ |refine AWP.block ?_ |fail)
  refine AWP.loop (G := Nat) (fun i => i ≤ s.links.length ∧ CTb i (cntR s.vars (s.links.take i))) (fun i => St.of [] [(1, .ptr 1 0), (2, .ptr 2 0), (3, .ptr 3 0), (4, aN i)] [(1, .cells [aN s.vars, .sl 3 eL s.links] 24), (2, .cells (eC ⟨0, 0, 0, 0, 0, 0⟩) 29), (3, .cells (eC (cntR s.vars (s.links.take i))) 29)]) (fun i => s.links.length - i) 0 ⟨by omega, by refine ⟨?_, ?_, ?_, ?_, ?_, ?_, ?_, ?_⟩ <;> (simp [cntR])⟩ ?_ ?_
  · refine Ent.of [] ?_ ?_ rfl rfl
    repeat' (first | exact True.intro |refine ⟨⟨AV.Le.refl _, rfl⟩, ?_⟩ |refine ⟨⟨⟨_, rfl, BLe.cells (LeL.refl _)⟩, rfl⟩, ?_⟩ |refine ⟨⟨⟨_, rfl, BLe.row rfl⟩, rfl⟩, ?_⟩ |refine ⟨⟨⟨_, rfl, BLe.row ?_⟩, rfl⟩, ?_⟩ |refine ⟨⟨⟨_, rfl, BLe.cells ?_⟩, rfl⟩, ?_⟩ |refine ⟨⟨AV.Le.int ?_, rfl⟩, ?_⟩ |refine ⟨⟨AV.Le.bool ?_, rfl⟩, ?_⟩ |refine ⟨⟨AV.Le.sl ?_, rfl⟩, ?_⟩ |refine ⟨⟨AV.Le.of_eq ?_, rfl⟩, ?_⟩ | fail)
  · intro i ⟨k0, k1⟩
    by_cases hi : i < s.links.length
    · obtain ⟨l, hl⟩ : ∃ l, s.links[i]? = some l := ⟨_, List.getElem?_eq_getElem hi⟩
      have hlm := List.mem_of_getElem? hl
      have hL := hs.links l hlm
      have hsn := cntR_snoc (vars := s.vars) hl
      have hst := k1.step l
      obtain ⟨q1, q2, q3, q4, q5, q6, q7, q8⟩ := k1
      have hpl := hL.len
      rcases kinds hL.kind with hk | hk | hk | hk
      · rw [hk] at hpl
        have hpl : l.polys.length = 1 := by have : (l.polys.length : Int) = 1 := hpl; omega
        obtain ⟨p, hps⟩ : ∃ p, l.polys = [p] := by
          match hq : l.polys, hpl with
          | [a], _ => exact ⟨a, rfl⟩
        have hp0 : l.polys[(0 : Int).toNat]? = some p := by rw [hps]; rfl
        have hop := (hL.polys p (by rw [hps]; simp)).2
        repeat' (first |refine Fl.v rfl rfl rfl ?_ |refine Fl.nilF ?_ |refine AWP.seq ?_ |refine AWP.region ?_ |refine Fl.w rfl rfl rfl (by first | exact True.intro | omega) ?_ |refine Fl.b rfl rfl rfl rfl ?_ |(refine AWP.condD rfl ?_ ?_ <;> intro _ <;> try (exfalso; omega)) |refine AWP.block ?_ |refine AWP.skip ?_ |refine Fl.elK rfl rfl rfl rfl rfl rfl rfl rfl (by assumption) (by omega) ?_ |fail)
        refine Fl.call rfl (rDegree_ok p hop) rfl rfl rfl (LeL.refl _) ?_
        repeat' (first |refine Fl.v rfl rfl rfl ?_ |refine Fl.nilF ?_ |refine Fl.nil (fun _ => by kernel_rfl) ?_ |refine AWP.region ?_ |refine Fl.w rfl rfl rfl (by first | exact True.intro | omega) ?_ |refine Fl.b rfl rfl rfl rfl ?_ |fail)
        have he : stepC (cntR s.vars (s.links.take i)) l = { cntR s.vars (s.links.take i) with e := (cntR s.vars (s.links.take i)).e + 1, d := if pdeg p > (cntR s.vars (s.links.take i)).d then pdeg p else (cntR s.vars (s.links.take i)).d } := by simp [stepC, hk, hps]
        refine LoopEnd.of (i + 1) ⟨by omega, by rw [hsn]; exact hst⟩ (by omega) ?_
        refine Ent.of [] ?_ ?_ rfl rfl
        repeat' (first | exact True.intro |refine ⟨⟨AV.Le.refl _, rfl⟩, ?_⟩ |refine ⟨⟨⟨_, rfl, BLe.cells (LeL.refl _)⟩, rfl⟩, ?_⟩ |refine ⟨⟨⟨_, rfl, BLe.row rfl⟩, rfl⟩, ?_⟩ |refine ⟨⟨⟨_, rfl, BLe.row ?_⟩, rfl⟩, ?_⟩ |refine ⟨⟨⟨_, rfl, BLe.cells ?_⟩, rfl⟩, ?_⟩ |refine ⟨⟨AV.Le.int ?_, rfl⟩, ?_⟩ |refine ⟨⟨AV.Le.bool ?_, rfl⟩, ?_⟩ |refine ⟨⟨AV.Le.sl ?_, rfl⟩, ?_⟩ |refine ⟨⟨AV.Le.of_eq ?_, rfl⟩, ?_⟩ | fail)
        exact leC (hsn.trans he).symm
      · repeat' (first |refine Fl.v rfl rfl rfl ?_ |refine Fl.nilF ?_ |refine AWP.seq ?_ |refine AWP.region ?_ |refine Fl.w rfl rfl rfl (by first | exact True.intro | omega) ?_ |refine Fl.b rfl rfl rfl rfl ?_ |(refine AWP.condD rfl ?_ ?_ <;> intro _ <;> try (exfalso; omega)) |refine AWP.block ?_ |refine AWP.skip ?_ |refine Fl.elK rfl rfl rfl rfl rfl rfl rfl rfl (by assumption) (by omega) ?_ |fail)
        have he : stepC (cntR s.vars (s.links.take i)) l = { cntR s.vars (s.links.take i) with p := (cntR s.vars (s.links.take i)).p + 1 } := by simp [stepC, hk]
        refine LoopEnd.of (i + 1) ⟨by omega, by rw [hsn]; exact hst⟩ (by omega) ?_
        refine Ent.of [] ?_ ?_ rfl rfl
        repeat' (first | exact True.intro |refine ⟨⟨AV.Le.refl _, rfl⟩, ?_⟩ |refine ⟨⟨⟨_, rfl, BLe.cells (LeL.refl _)⟩, rfl⟩, ?_⟩ |refine ⟨⟨⟨_, rfl, BLe.row rfl⟩, rfl⟩, ?_⟩ |refine ⟨⟨⟨_, rfl, BLe.row ?_⟩, rfl⟩, ?_⟩ |refine ⟨⟨⟨_, rfl, BLe.cells ?_⟩, rfl⟩, ?_⟩ |refine ⟨⟨AV.Le.int ?_, rfl⟩, ?_⟩ |refine ⟨⟨AV.Le.bool ?_, rfl⟩, ?_⟩ |refine ⟨⟨AV.Le.sl ?_, rfl⟩, ?_⟩ |refine ⟨⟨AV.Le.of_eq ?_, rfl⟩, ?_⟩ | fail)
        exact leC (hsn.trans he).symm
      · repeat' (first |refine Fl.v rfl rfl rfl ?_ |refine Fl.nilF ?_ |refine AWP.seq ?_ |refine AWP.region ?_ |refine Fl.w rfl rfl rfl (by first | exact True.intro | omega) ?_ |refine Fl.b rfl rfl rfl rfl ?_ |(refine AWP.condD rfl ?_ ?_ <;> intro _ <;> try (exfalso; omega)) |refine AWP.block ?_ |refine AWP.skip ?_ |refine Fl.elK rfl rfl rfl rfl rfl rfl rfl rfl (by assumption) (by omega) ?_ |fail)
        have he : stepC (cntR s.vars (s.links.take i)) l = { cntR s.vars (s.links.take i) with w := (cntR s.vars (s.links.take i)).w + 1 } := by simp [stepC, hk]
        refine LoopEnd.of (i + 1) ⟨by omega, by rw [hsn]; exact hst⟩ (by omega) ?_
        refine Ent.of [] ?_ ?_ rfl rfl
        repeat' (first | exact True.intro |refine ⟨⟨AV.Le.refl _, rfl⟩, ?_⟩ |refine ⟨⟨⟨_, rfl, BLe.cells (LeL.refl _)⟩, rfl⟩, ?_⟩ |refine ⟨⟨⟨_, rfl, BLe.row rfl⟩, rfl⟩, ?_⟩ |refine ⟨⟨⟨_, rfl, BLe.row ?_⟩, rfl⟩, ?_⟩ |refine ⟨⟨⟨_, rfl, BLe.cells ?_⟩, rfl⟩, ?_⟩ |refine ⟨⟨AV.Le.int ?_, rfl⟩, ?_⟩ |refine ⟨⟨AV.Le.bool ?_, rfl⟩, ?_⟩ |refine ⟨⟨AV.Le.sl ?_, rfl⟩, ?_⟩ |refine ⟨⟨AV.Le.of_eq ?_, rfl⟩, ?_⟩ | fail)
        exact leC (hsn.trans he).symm
      · repeat' (first |refine Fl.v rfl rfl rfl ?_ |refine Fl.nilF ?_ |refine AWP.seq ?_ |refine AWP.region ?_ |refine Fl.w rfl rfl rfl (by first | exact True.intro | omega) ?_ |refine Fl.b rfl rfl rfl rfl ?_ |(refine AWP.condD rfl ?_ ?_ <;> intro _ <;> try (exfalso; omega)) |refine AWP.block ?_ |refine AWP.skip ?_ |refine Fl.elK rfl rfl rfl rfl rfl rfl rfl rfl (by assumption) (by omega) ?_ |fail)
        have he : stepC (cntR s.vars (s.links.take i)) l = { cntR s.vars (s.links.take i) with u := (cntR s.vars (s.links.take i)).u + 1 } := by simp [stepC, hk]
        refine LoopEnd.of (i + 1) ⟨by omega, by rw [hsn]; exact hst⟩ (by omega) ?_
        refine Ent.of [] ?_ ?_ rfl rfl
        repeat' (first | exact True.intro |refine ⟨⟨AV.Le.refl _, rfl⟩, ?_⟩ |refine ⟨⟨⟨_, rfl, BLe.cells (LeL.refl _)⟩, rfl⟩, ?_⟩ |refine ⟨⟨⟨_, rfl, BLe.row rfl⟩, rfl⟩, ?_⟩ |refine ⟨⟨⟨_, rfl, BLe.row ?_⟩, rfl⟩, ?_⟩ |refine ⟨⟨⟨_, rfl, BLe.cells ?_⟩, rfl⟩, ?_⟩ |refine ⟨⟨AV.Le.int ?_, rfl⟩, ?_⟩ |refine ⟨⟨AV.Le.bool ?_, rfl⟩, ?_⟩ |refine ⟨⟨AV.Le.sl ?_, rfl⟩, ?_⟩ |refine ⟨⟨AV.Le.of_eq ?_, rfl⟩, ?_⟩ | fail)
        exact leC (hsn.trans he).symm
    · repeat' (first |refine Fl.v rfl rfl rfl ?_ |refine Fl.nilF ?_ |refine AWP.seq ?_ |refine AWP.region ?_ |refine Fl.b rfl rfl rfl rfl ?_ |(refine AWP.condD rfl ?_ ?_ <;> intro _ <;> try (exfalso; omega)) |refine AWP.exit ?_ |refine AWP.ret ?_ |fail)
      rw [show s.links.take i = s.links from List.take_of_length_le (by omega)]
      exact RetOk.of rfl (AV.Le.refl _)
end Go.Proofs.YtfkjhjgihbnegaaGreat
namespace Go.AL
theorem plI_le (x : Int) : 0 ≤ plI x ∧ plI x ≤ (x.natAbs : Int) ∧ opI x ≤ 0 ∧ -(x.natAbs : Int) ≤ opI x := by
  unfold plI opI
  repeat' split
  all_goals omega
theorem PS_AS (X : List Int) : ∀ l : List TZ, 0 ≤ PS X l ∧ PS X l ≤ AS X l ∧ OS X l ≤ 0 ∧ - AS X l ≤ OS X l
  | [] => by simp [PS, AS, OS, sumL]
  | t :: l => by
    have h1 := PS_AS X l
    have h2 := plI_le (tv X t)
    simp only [PS, AS, OS, List.map_cons, sumL] at h1 ⊢
    omega
theorem EvOk.of_as {X : List Int} {p : PZ} (h : Fit (AS X p.terms)) : EvOk X p := by
  have h1 := PS_AS X p.terms
  exact ⟨h.le (by omega), h.le (by omega)⟩
theorem AsL.ev {X : List Int} {l : LZ} (h : AsL X l) : EvL X l := fun p hp => EvOk.of_as (h p hp)
end Go.AL
namespace Go.Proofs.YtfkjhjgihbnegaaGreat
open Go.AL

set_option maxHeartbeats 2000000 in
theorem rHolds_ok (s : SZ) (X : List Int) (hw : WS s) (hs : OkS s) (hlen : (X.length : Int) = s.vars) (M : Nat) (hM : M ≤ 30000) (hload : ∀ l ∈ s.links, LoadL M X l) (has : ∀ l ∈ s.links, AsL X l) (b : Bool) (hb : b = true ↔ ∀ l ∈ s.links, HoL X l) : PureFn Tryz.prog 16 [aS s, .sl 2 eX X] (.tup [aB b, aN 0]) := by
  refine PureFn.of_body Tryz.func16 rfl Tryz.ntmps16 rfl rfl ?_
  have hsl := hs.len
  have hfalse : ¬ (∀ l ∈ s.links, HoL X l) → false = b := fun h => by cases b with | false => rfl | true => exact absurd (hb.1 rfl) h
  repeat' (first |refine Fl.v rfl rfl rfl ?_ |refine Fl.nilF ?_ |refine AWP.seq ?_ |refine AWP.region ?_ |refine Fl.b rfl rfl rfl rfl ?_ |refine AWP.block ?_ |fail)
  refine AWP.loop (G := Nat) (fun i => i ≤ s.links.length ∧ ∀ l ∈ s.links.take i, HoL X l) (fun i => St.of [] [(1, .sl 2 eX X), (2, .ptr 2 0), (6, aN i)] [(2, .cells [aN s.vars, .sl 3 eL s.links] 24)]) (fun i => s.links.length - i) 0 ⟨by omega, by simp⟩ ?_ ?_
  · refine Ent.of [] ?_ ?_ rfl rfl
    repeat' (first | exact True.intro |refine ⟨⟨AV.Le.refl _, rfl⟩, ?_⟩ |refine ⟨⟨⟨_, rfl, BLe.cells (LeL.refl _)⟩, rfl⟩, ?_⟩ |refine ⟨⟨⟨_, rfl, BLe.row rfl⟩, rfl⟩, ?_⟩ |refine ⟨⟨⟨_, rfl, BLe.row ?_⟩, rfl⟩, ?_⟩ |refine ⟨⟨⟨_, rfl, BLe.cells ?_⟩, rfl⟩, ?_⟩ |refine ⟨⟨AV.Le.int ?_, rfl⟩, ?_⟩ |refine ⟨⟨AV.Le.bool ?_, rfl⟩, ?_⟩ |refine ⟨⟨AV.Le.sl ?_, rfl⟩, ?_⟩ |refine ⟨⟨AV.Le.of_eq ?_, rfl⟩, ?_⟩ | fail)
  · intro i ⟨k0, k1⟩
    by_cases hi : i < s.links.length
    · obtain ⟨l, hl⟩ : ∃ l, s.links[i]? = some l := ⟨_, List.getElem?_eq_getElem hi⟩
      have hlm := List.mem_of_getElem? hl
      have hL := hs.links l hlm
      rw [← hlen] at hL
      have hv := rvalues_ok l X (hw l hlm) hL M hM (hload l hlm) _ (fun _ => rfl) (fun h => absurd (has l hlm) h)
      have hall : ¬ HoL X l → false = b := fun h => hfalse fun k => h (k l hlm)
      have hup : HoL X l → ∀ q ∈ s.links.take (i + 1), HoL X q := all_take_succ hl k1
      have hvf := lvals_fit (has l hlm).ev
      have hvl : ((lvals X l).length : Int) = needI l.kind := by rw [← hL.len]; simp [lvals]
      have hho : HoL X l ↔ holdP l.kind (lvals X l) := Iff.rfl
      revert hv hvf hvl hho
      generalize lvals X l = vs
      intro hv hvf hvl hho
      rcases kinds hL.kind with hk | hk | hk | hk
      · rw [hk] at hvl
        have hvl : vs.length = 1 := by have : (vs.length : Int) = 1 := hvl; omega
        obtain ⟨x, rfl⟩ : ∃ x, vs = [x] := by
          match vs, hvl with
          | [a], _ => exact ⟨a, rfl⟩
        have g0 : [x][(0 : Int).toNat]? = some x := rfl
        rw [hk] at hho
        have hho : HoL X l ↔ x = 0 := hho
        have hz := rZeroX_ok x
        by_cases h : x = 0
        · rw [decide_eq_true h] at hz
          repeat' (first |refine Fl.v rfl rfl rfl ?_ |refine Fl.nilF ?_ |refine AWP.seq ?_ |refine AWP.region ?_ |(refine AWP.condD rfl ?_ ?_ <;> intro _ <;> try (exfalso; omega)) |refine AWP.block ?_ |refine AWP.skip ?_ |refine Fl.elK rfl rfl rfl rfl rfl rfl rfl rfl (by assumption) (by omega) ?_ |fail)
          refine Fl.call rfl (hv) rfl rfl rfl (LeL.refl _) ?_
          repeat' (first |refine Fl.v rfl rfl rfl ?_ |refine Fl.nilF ?_ |refine AWP.seq ?_ |refine AWP.region ?_ |refine AWP.condF rfl ?_ |(refine AWP.condD rfl ?_ ?_ <;> intro _ <;> try (exfalso; omega)) |refine AWP.block ?_ |refine AWP.skip ?_ |refine Fl.elK rfl rfl rfl rfl rfl rfl rfl rfl (by assumption) (by omega) ?_ |fail)
          refine Fl.call rfl (hz) rfl rfl rfl (LeL.refl _) ?_
          repeat' (first |refine Fl.v rfl rfl rfl ?_ |refine Fl.nilF ?_ |refine AWP.seq ?_ |refine AWP.region ?_ |refine Fl.w rfl rfl rfl (by first | exact True.intro | omega) ?_ |refine AWP.condF rfl ?_ |refine AWP.skip ?_ |fail)
          refine LoopEnd.of (i + 1) ⟨by omega, hup (hho.2 h)⟩ (by omega) ?_
          refine Ent.of [] ?_ ?_ rfl rfl
          repeat' (first | exact True.intro |refine ⟨⟨AV.Le.refl _, rfl⟩, ?_⟩ |refine ⟨⟨⟨_, rfl, BLe.cells (LeL.refl _)⟩, rfl⟩, ?_⟩ |refine ⟨⟨⟨_, rfl, BLe.row rfl⟩, rfl⟩, ?_⟩ |refine ⟨⟨⟨_, rfl, BLe.row ?_⟩, rfl⟩, ?_⟩ |refine ⟨⟨⟨_, rfl, BLe.cells ?_⟩, rfl⟩, ?_⟩ |refine ⟨⟨AV.Le.int ?_, rfl⟩, ?_⟩ |refine ⟨⟨AV.Le.bool ?_, rfl⟩, ?_⟩ |refine ⟨⟨AV.Le.sl ?_, rfl⟩, ?_⟩ |refine ⟨⟨AV.Le.of_eq ?_, rfl⟩, ?_⟩ | fail)
        · rw [decide_eq_false h] at hz
          repeat' (first |refine Fl.v rfl rfl rfl ?_ |refine Fl.nilF ?_ |refine AWP.seq ?_ |refine AWP.region ?_ |(refine AWP.condD rfl ?_ ?_ <;> intro _ <;> try (exfalso; omega)) |refine AWP.block ?_ |refine AWP.skip ?_ |refine Fl.elK rfl rfl rfl rfl rfl rfl rfl rfl (by assumption) (by omega) ?_ |fail)
          refine Fl.call rfl (hv) rfl rfl rfl (LeL.refl _) ?_
          repeat' (first |refine Fl.v rfl rfl rfl ?_ |refine Fl.nilF ?_ |refine AWP.seq ?_ |refine AWP.region ?_ |refine AWP.condF rfl ?_ |(refine AWP.condD rfl ?_ ?_ <;> intro _ <;> try (exfalso; omega)) |refine AWP.block ?_ |refine AWP.skip ?_ |refine Fl.elK rfl rfl rfl rfl rfl rfl rfl rfl (by assumption) (by omega) ?_ |fail)
          refine Fl.call rfl (hz) rfl rfl rfl (LeL.refl _) ?_
          repeat' (first |refine Fl.v rfl rfl rfl ?_ |refine Fl.nilF ?_ |refine AWP.seq ?_ |refine AWP.region ?_ |refine AWP.condT rfl ?_ |refine AWP.ret ?_ |fail)
          exact RetOk.of rfl (AV.Le.tup (LeL.cons (AV.Le.bool (hall fun k => h (hho.1 k))) (LeL.refl _)))
      · rw [hk] at hvl
        have hvl : vs.length = 3 := by have : (vs.length : Int) = 3 := hvl; omega
        obtain ⟨x, y, z, rfl⟩ : ∃ x y z, vs = [x, y, z] := by
          match vs, hvl with
          | [a, b, c], _ => exact ⟨a, b, c, rfl⟩
        have g0 : [x, y, z][(0 : Int).toNat]? = some x := rfl
        have g1 : [x, y, z][(1 : Int).toNat]? = some y := rfl
        have g2 : [x, y, z][(2 : Int).toNat]? = some z := rfl
        rw [hk] at hho
        have hho : HoL X l ↔ 2 ≤ x ∧ 1 ≤ y ∧ psiN x y.toNat = z := hho
        by_cases h : HoL X l
        · have hz := rIsPsi_ok x y z (hvf x (by simp)) (hvf y (by simp)) (hvf z (by simp)) true ⟨fun _ => hho.1 h, fun _ => rfl⟩
          repeat' (first |refine Fl.v rfl rfl rfl ?_ |refine Fl.nilF ?_ |refine AWP.seq ?_ |refine AWP.region ?_ |(refine AWP.condD rfl ?_ ?_ <;> intro _ <;> try (exfalso; omega)) |refine AWP.block ?_ |refine AWP.skip ?_ |refine Fl.elK rfl rfl rfl rfl rfl rfl rfl rfl (by assumption) (by omega) ?_ |fail)
          refine Fl.call rfl (hv) rfl rfl rfl (LeL.refl _) ?_
          repeat' (first |refine Fl.v rfl rfl rfl ?_ |refine Fl.nilF ?_ |refine AWP.seq ?_ |refine AWP.region ?_ |refine AWP.condF rfl ?_ |(refine AWP.condD rfl ?_ ?_ <;> intro _ <;> try (exfalso; omega)) |refine AWP.block ?_ |refine AWP.skip ?_ |refine Fl.elK rfl rfl rfl rfl rfl rfl rfl rfl (by assumption) (by omega) ?_ |fail)
          refine Fl.call rfl (hz) rfl rfl rfl (LeL.refl _) ?_
          repeat' (first |refine Fl.v rfl rfl rfl ?_ |refine Fl.nilF ?_ |refine Fl.nil (fun _ => by kernel_rfl) ?_ |refine AWP.seq ?_ |refine AWP.region ?_ |refine Fl.w rfl rfl rfl (by first | exact True.intro | omega) ?_ |refine AWP.condF rfl ?_ |refine AWP.skip ?_ |fail)
          refine LoopEnd.of (i + 1) ⟨by omega, hup h⟩ (by omega) ?_
          refine Ent.of [] ?_ ?_ rfl rfl
          repeat' (first | exact True.intro |refine ⟨⟨AV.Le.refl _, rfl⟩, ?_⟩ |refine ⟨⟨⟨_, rfl, BLe.cells (LeL.refl _)⟩, rfl⟩, ?_⟩ |refine ⟨⟨⟨_, rfl, BLe.row rfl⟩, rfl⟩, ?_⟩ |refine ⟨⟨⟨_, rfl, BLe.row ?_⟩, rfl⟩, ?_⟩ |refine ⟨⟨⟨_, rfl, BLe.cells ?_⟩, rfl⟩, ?_⟩ |refine ⟨⟨AV.Le.int ?_, rfl⟩, ?_⟩ |refine ⟨⟨AV.Le.bool ?_, rfl⟩, ?_⟩ |refine ⟨⟨AV.Le.sl ?_, rfl⟩, ?_⟩ |refine ⟨⟨AV.Le.of_eq ?_, rfl⟩, ?_⟩ | fail)
        · have hz := rIsPsi_ok x y z (hvf x (by simp)) (hvf y (by simp)) (hvf z (by simp)) false ⟨fun k => (by cases k), fun k => absurd (hho.2 k) h⟩
          repeat' (first |refine Fl.v rfl rfl rfl ?_ |refine Fl.nilF ?_ |refine AWP.seq ?_ |refine AWP.region ?_ |(refine AWP.condD rfl ?_ ?_ <;> intro _ <;> try (exfalso; omega)) |refine AWP.block ?_ |refine AWP.skip ?_ |refine Fl.elK rfl rfl rfl rfl rfl rfl rfl rfl (by assumption) (by omega) ?_ |fail)
          refine Fl.call rfl (hv) rfl rfl rfl (LeL.refl _) ?_
          repeat' (first |refine Fl.v rfl rfl rfl ?_ |refine Fl.nilF ?_ |refine AWP.seq ?_ |refine AWP.region ?_ |refine AWP.condF rfl ?_ |(refine AWP.condD rfl ?_ ?_ <;> intro _ <;> try (exfalso; omega)) |refine AWP.block ?_ |refine AWP.skip ?_ |refine Fl.elK rfl rfl rfl rfl rfl rfl rfl rfl (by assumption) (by omega) ?_ |fail)
          refine Fl.call rfl (hz) rfl rfl rfl (LeL.refl _) ?_
          repeat' (first |refine Fl.v rfl rfl rfl ?_ |refine Fl.nilF ?_ |refine Fl.nil (fun _ => by kernel_rfl) ?_ |refine AWP.seq ?_ |refine AWP.region ?_ |refine AWP.condT rfl ?_ |refine AWP.ret ?_ |fail)
          exact RetOk.of rfl (AV.Le.tup (LeL.cons (AV.Le.bool (hall h)) (LeL.refl _)))
      · rw [hk] at hvl
        have hvl : vs.length = 3 := by have : (vs.length : Int) = 3 := hvl; omega
        obtain ⟨x, y, z, rfl⟩ : ∃ x y z, vs = [x, y, z] := by
          match vs, hvl with
          | [a, b, c], _ => exact ⟨a, b, c, rfl⟩
        have g0 : [x, y, z][(0 : Int).toNat]? = some x := rfl
        have g1 : [x, y, z][(1 : Int).toNat]? = some y := rfl
        have g2 : [x, y, z][(2 : Int).toNat]? = some z := rfl
        rw [hk] at hho
        have hho : HoL X l ↔ 1 ≤ x ∧ 0 ≤ y ∧ x ^ y.toNat = z := hho
        by_cases h : HoL X l
        · have hz := rIsPower_ok x y z (hvf x (by simp)) (hvf y (by simp)) (hvf z (by simp)) true ⟨fun _ => hho.1 h, fun _ => rfl⟩
          repeat' (first |refine Fl.v rfl rfl rfl ?_ |refine Fl.nilF ?_ |refine AWP.seq ?_ |refine AWP.region ?_ |(refine AWP.condD rfl ?_ ?_ <;> intro _ <;> try (exfalso; omega)) |refine AWP.block ?_ |refine AWP.skip ?_ |refine Fl.elK rfl rfl rfl rfl rfl rfl rfl rfl (by assumption) (by omega) ?_ |fail)
          refine Fl.call rfl (hv) rfl rfl rfl (LeL.refl _) ?_
          repeat' (first |refine Fl.v rfl rfl rfl ?_ |refine Fl.nilF ?_ |refine AWP.seq ?_ |refine AWP.region ?_ |refine AWP.condF rfl ?_ |(refine AWP.condD rfl ?_ ?_ <;> intro _ <;> try (exfalso; omega)) |refine AWP.block ?_ |refine AWP.skip ?_ |refine Fl.elK rfl rfl rfl rfl rfl rfl rfl rfl (by assumption) (by omega) ?_ |fail)
          refine Fl.call rfl (hz) rfl rfl rfl (LeL.refl _) ?_
          repeat' (first |refine Fl.v rfl rfl rfl ?_ |refine Fl.nilF ?_ |refine Fl.nil (fun _ => by kernel_rfl) ?_ |refine AWP.seq ?_ |refine AWP.region ?_ |refine Fl.w rfl rfl rfl (by first | exact True.intro | omega) ?_ |refine AWP.condF rfl ?_ |refine AWP.skip ?_ |fail)
          refine LoopEnd.of (i + 1) ⟨by omega, hup h⟩ (by omega) ?_
          refine Ent.of [] ?_ ?_ rfl rfl
          repeat' (first | exact True.intro |refine ⟨⟨AV.Le.refl _, rfl⟩, ?_⟩ |refine ⟨⟨⟨_, rfl, BLe.cells (LeL.refl _)⟩, rfl⟩, ?_⟩ |refine ⟨⟨⟨_, rfl, BLe.row rfl⟩, rfl⟩, ?_⟩ |refine ⟨⟨⟨_, rfl, BLe.row ?_⟩, rfl⟩, ?_⟩ |refine ⟨⟨⟨_, rfl, BLe.cells ?_⟩, rfl⟩, ?_⟩ |refine ⟨⟨AV.Le.int ?_, rfl⟩, ?_⟩ |refine ⟨⟨AV.Le.bool ?_, rfl⟩, ?_⟩ |refine ⟨⟨AV.Le.sl ?_, rfl⟩, ?_⟩ |refine ⟨⟨AV.Le.of_eq ?_, rfl⟩, ?_⟩ | fail)
        · have hz := rIsPower_ok x y z (hvf x (by simp)) (hvf y (by simp)) (hvf z (by simp)) false ⟨fun k => (by cases k), fun k => absurd (hho.2 k) h⟩
          repeat' (first |refine Fl.v rfl rfl rfl ?_ |refine Fl.nilF ?_ |refine AWP.seq ?_ |refine AWP.region ?_ |(refine AWP.condD rfl ?_ ?_ <;> intro _ <;> try (exfalso; omega)) |refine AWP.block ?_ |refine AWP.skip ?_ |refine Fl.elK rfl rfl rfl rfl rfl rfl rfl rfl (by assumption) (by omega) ?_ |fail)
          refine Fl.call rfl (hv) rfl rfl rfl (LeL.refl _) ?_
          repeat' (first |refine Fl.v rfl rfl rfl ?_ |refine Fl.nilF ?_ |refine AWP.seq ?_ |refine AWP.region ?_ |refine AWP.condF rfl ?_ |(refine AWP.condD rfl ?_ ?_ <;> intro _ <;> try (exfalso; omega)) |refine AWP.block ?_ |refine AWP.skip ?_ |refine Fl.elK rfl rfl rfl rfl rfl rfl rfl rfl (by assumption) (by omega) ?_ |fail)
          refine Fl.call rfl (hz) rfl rfl rfl (LeL.refl _) ?_
          repeat' (first |refine Fl.v rfl rfl rfl ?_ |refine Fl.nilF ?_ |refine Fl.nil (fun _ => by kernel_rfl) ?_ |refine AWP.seq ?_ |refine AWP.region ?_ |refine AWP.condT rfl ?_ |refine AWP.ret ?_ |fail)
          exact RetOk.of rfl (AV.Le.tup (LeL.cons (AV.Le.bool (hall h)) (LeL.refl _)))
      · rw [hk] at hvl
        have hvl : vs.length = 2 := by have : (vs.length : Int) = 2 := hvl; omega
        obtain ⟨x, y, rfl⟩ : ∃ x y, vs = [x, y] := by
          match vs, hvl with
          | [a, b], _ => exact ⟨a, b, rfl⟩
        have g0 : [x, y][(0 : Int).toNat]? = some x := rfl
        have g1 : [x, y][(1 : Int).toNat]? = some y := rfl
        rw [hk] at hho
        have hho : HoL X l ↔ 0 ≤ x ∧ 0 ≤ y ∧ undI x y := hho
        by_cases h0 : x < 0
        · repeat' (first |refine Fl.v rfl rfl rfl ?_ |refine Fl.nilF ?_ |refine AWP.seq ?_ |refine AWP.region ?_ |(refine AWP.condD rfl ?_ ?_ <;> intro _ <;> try (exfalso; omega)) |refine AWP.block ?_ |refine AWP.skip ?_ |refine Fl.elK rfl rfl rfl rfl rfl rfl rfl rfl (by assumption) (by omega) ?_ |fail)
          refine Fl.call rfl (hv) rfl rfl rfl (LeL.refl _) ?_
          repeat' (first |refine Fl.v rfl rfl rfl ?_ |refine Fl.nilF ?_ |refine Fl.nil (fun _ => by kernel_rfl) ?_ |refine AWP.seq ?_ |refine AWP.region ?_ |refine Fl.skip rfl rfl ?_ |refine AWP.condT rfl ?_ |refine AWP.condF rfl ?_ |(refine AWP.condD rfl ?_ ?_ <;> intro _ <;> try (exfalso; omega)) |refine AWP.block ?_ |refine AWP.skip ?_ |refine AWP.ret ?_ |refine Fl.elK rfl rfl rfl rfl rfl rfl rfl rfl (by assumption) (by omega) ?_ |(refine Fl.splitN rfl rfl ?_ ?_ <;> intro _ <;> try (exfalso; omega)) |fail)
          exact RetOk.of rfl (AV.Le.tup (LeL.cons (AV.Le.bool (hall fun k => by have := (hho.1 k).1; omega)) (LeL.refl _)))
        · by_cases h1 : y < 0
          · repeat' (first |refine Fl.v rfl rfl rfl ?_ |refine Fl.nilF ?_ |refine AWP.seq ?_ |refine AWP.region ?_ |(refine AWP.condD rfl ?_ ?_ <;> intro _ <;> try (exfalso; omega)) |refine AWP.block ?_ |refine AWP.skip ?_ |refine Fl.elK rfl rfl rfl rfl rfl rfl rfl rfl (by assumption) (by omega) ?_ |fail)
            refine Fl.call rfl (hv) rfl rfl rfl (LeL.refl _) ?_
            repeat' (first |refine Fl.v rfl rfl rfl ?_ |refine Fl.nilF ?_ |refine Fl.nil (fun _ => by kernel_rfl) ?_ |refine AWP.seq ?_ |refine AWP.region ?_ |refine Fl.skip rfl rfl ?_ |refine AWP.condT rfl ?_ |refine AWP.condF rfl ?_ |(refine AWP.condD rfl ?_ ?_ <;> intro _ <;> try (exfalso; omega)) |refine AWP.block ?_ |refine AWP.skip ?_ |refine AWP.ret ?_ |refine Fl.elK rfl rfl rfl rfl rfl rfl rfl rfl (by assumption) (by omega) ?_ |(refine Fl.splitN rfl rfl ?_ ?_ <;> intro _ <;> try (exfalso; omega)) |fail)
            exact RetOk.of rfl (AV.Le.tup (LeL.cons (AV.Le.bool (hall fun k => by have := (hho.1 k).2.1; omega)) (LeL.refl _)))
          · have hz := rUnder_ok x y (hvf x (by simp)) (hvf y (by simp)) (by omega) (by omega)
            by_cases h : undI x y
            · rw [decide_eq_true h] at hz
              repeat' (first |refine Fl.v rfl rfl rfl ?_ |refine Fl.nilF ?_ |refine AWP.seq ?_ |refine AWP.region ?_ |(refine AWP.condD rfl ?_ ?_ <;> intro _ <;> try (exfalso; omega)) |refine AWP.block ?_ |refine AWP.skip ?_ |refine Fl.elK rfl rfl rfl rfl rfl rfl rfl rfl (by assumption) (by omega) ?_ |fail)
              refine Fl.call rfl (hv) rfl rfl rfl (LeL.refl _) ?_
              repeat' (first |refine Fl.v rfl rfl rfl ?_ |refine Fl.nilF ?_ |refine AWP.seq ?_ |refine AWP.region ?_ |refine AWP.condF rfl ?_ |(refine AWP.condD rfl ?_ ?_ <;> intro _ <;> try (exfalso; omega)) |refine AWP.block ?_ |refine AWP.skip ?_ |refine Fl.elK rfl rfl rfl rfl rfl rfl rfl rfl (by assumption) (by omega) ?_ |(refine Fl.splitN rfl rfl ?_ ?_ <;> intro _ <;> try (exfalso; omega)) |fail)
              refine Fl.call rfl (hz) rfl rfl rfl (LeL.refl _) ?_
              repeat' (first |refine Fl.v rfl rfl rfl ?_ |refine Fl.nilF ?_ |refine Fl.nil (fun _ => by kernel_rfl) ?_ |refine AWP.seq ?_ |refine AWP.region ?_ |refine Fl.w rfl rfl rfl (by first | exact True.intro | omega) ?_ |refine AWP.condF rfl ?_ |refine AWP.skip ?_ |fail)
              refine LoopEnd.of (i + 1) ⟨by omega, hup (hho.2 ⟨by omega, by omega, h⟩)⟩ (by omega) ?_
              refine Ent.of [] ?_ ?_ rfl rfl
              repeat' (first | exact True.intro |refine ⟨⟨AV.Le.refl _, rfl⟩, ?_⟩ |refine ⟨⟨⟨_, rfl, BLe.cells (LeL.refl _)⟩, rfl⟩, ?_⟩ |refine ⟨⟨⟨_, rfl, BLe.row rfl⟩, rfl⟩, ?_⟩ |refine ⟨⟨⟨_, rfl, BLe.row ?_⟩, rfl⟩, ?_⟩ |refine ⟨⟨⟨_, rfl, BLe.cells ?_⟩, rfl⟩, ?_⟩ |refine ⟨⟨AV.Le.int ?_, rfl⟩, ?_⟩ |refine ⟨⟨AV.Le.bool ?_, rfl⟩, ?_⟩ |refine ⟨⟨AV.Le.sl ?_, rfl⟩, ?_⟩ |refine ⟨⟨AV.Le.of_eq ?_, rfl⟩, ?_⟩ | fail)
            · rw [decide_eq_false h] at hz
              repeat' (first |refine Fl.v rfl rfl rfl ?_ |refine Fl.nilF ?_ |refine AWP.seq ?_ |refine AWP.region ?_ |(refine AWP.condD rfl ?_ ?_ <;> intro _ <;> try (exfalso; omega)) |refine AWP.block ?_ |refine AWP.skip ?_ |refine Fl.elK rfl rfl rfl rfl rfl rfl rfl rfl (by assumption) (by omega) ?_ |fail)
              refine Fl.call rfl (hv) rfl rfl rfl (LeL.refl _) ?_
              repeat' (first |refine Fl.v rfl rfl rfl ?_ |refine Fl.nilF ?_ |refine AWP.seq ?_ |refine AWP.region ?_ |refine AWP.condF rfl ?_ |(refine AWP.condD rfl ?_ ?_ <;> intro _ <;> try (exfalso; omega)) |refine AWP.block ?_ |refine AWP.skip ?_ |refine Fl.elK rfl rfl rfl rfl rfl rfl rfl rfl (by assumption) (by omega) ?_ |(refine Fl.splitN rfl rfl ?_ ?_ <;> intro _ <;> try (exfalso; omega)) |fail)
              refine Fl.call rfl (hz) rfl rfl rfl (LeL.refl _) ?_
              repeat' (first |refine Fl.v rfl rfl rfl ?_ |refine Fl.nilF ?_ |refine Fl.nil (fun _ => by kernel_rfl) ?_ |refine AWP.seq ?_ |refine AWP.region ?_ |refine AWP.condT rfl ?_ |refine AWP.ret ?_ |fail)
              exact RetOk.of rfl (AV.Le.tup (LeL.cons (AV.Le.bool (hall fun k => h (hho.1 k).2.2)) (LeL.refl _)))
    · repeat' (first |refine Fl.v rfl rfl rfl ?_ |refine Fl.nilF ?_ |refine AWP.seq ?_ |refine AWP.region ?_ |(refine AWP.condD rfl ?_ ?_ <;> intro _ <;> try (exfalso; omega)) |refine AWP.exit ?_ |refine AWP.ret ?_ |fail)
      rw [List.take_of_length_le (by omega)] at k1
      exact RetOk.of rfl (AV.Le.tup (LeL.cons (AV.Le.bool (hb.2 k1).symm) (LeL.refl _)))
end Go.Proofs.YtfkjhjgihbnegaaGreat
namespace Go.AL
theorem w64_id {m : Int} (h0 : -9223372036854775808 ≤ m) (h1 : m ≤ 9223372036854775807) : w64 m = m := by unfold w64; omega
theorem loadE_le {C : Nat} : ∀ {X E : List Int}, (∀ x ∈ X, ∀ e ∈ E, e.toNat * lenI x ≤ C) → loadE X E ≤ E.length * C
  | [], E, _ => by simp [loadE]
  | _ :: _, [], _ => by simp [loadE]
  | x :: X, e :: E, h => by
    have h1 := loadE_le (X := X) (E := E) fun y hy d hd => h y (by simp [hy]) d (by simp [hd])
    have h2 := h x (by simp) e (by simp)
    simp only [loadE, List.length_cons, Nat.succ_mul]
    omega
theorem ldE_eq {X e : List Int} {n : Int} {L : Int} (he : EOk e) (hl : e.length = X.length) (hL : ((loadE X e : Nat) : Int) = L) (hL2 : L ≤ 1000000000) (hn0 : 0 ≤ n) (hn : n ≤ 1000000000) : ∀ k, k ≤ e.length → ldE e (X.map zOf) n k = n + (loadE (X.take k) (e.take k) : Nat)
  | 0, _ => by simp [ldE, loadE]
  | k + 1, hk => by
    have h1 := ldE_eq he hl hL hL2 hn0 hn k (by omega)
    obtain ⟨y, hy⟩ : ∃ y, e[k]? = some y := ⟨_, List.getElem?_eq_getElem (by omega)⟩
    obtain ⟨x, hx⟩ : ∃ x, X[k]? = some x := ⟨_, List.getElem?_eq_getElem (by omega)⟩
    have hz : (X.map zOf)[k]? = some (zOf x) := by rw [List.getElem?_map, hx]; rfl
    have hyb := (he.get hy).1
    have hs := loadE_snoc hx hy
    have ht := loadE_take X e (k + 1)
    obtain ⟨w, hw⟩ : ∃ w : Nat, w = y.toNat * lenI x := ⟨_, rfl⟩
    have hcast : ((w : Nat) : Int) = y * (lenI x : Nat) := by
      rw [hw, Int.natCast_mul, show ((y.toNat : Nat) : Int) = y by omega]
    have hstep : ldE e (X.map zOf) n (k + 1) = w64 (ldE e (X.map zOf) n k + w64 (y * (lenI x : Nat))) := by
      simp only [ldE, hy, hz]; rfl
    rw [← hw] at hs
    obtain ⟨p, hp⟩ : ∃ p : Nat, p = loadE (X.take k) (e.take k) := ⟨_, rfl⟩
    obtain ⟨q, hq⟩ : ∃ q : Nat, q = loadE (X.take (k + 1)) (e.take (k + 1)) := ⟨_, rfl⟩
    obtain ⟨r, hr⟩ : ∃ r : Nat, r = loadE X e := ⟨_, rfl⟩
    rw [← hp, ← hq] at hs
    rw [← hq, ← hr] at ht
    rw [← hr] at hL
    rw [hstep, ← hcast, h1, ← hp, ← hq, hs]
    clear hstep h1 hp hq hr hcast hw hz hx hy hyb he hl hk
    rw [w64_id (m := (w : Int)) (by omega) (by omega), w64_id (by omega) (by omega)]
    omega
theorem ldT_eq {X : List Int} {t : TZ} {vars : Int} (h : OkT vars t) (hX : ∀ x ∈ X, Fit x) (hl : (X.length : Int) = vars) (h32 : vars ≤ 32) : ldT (X.map zOf) t = t.c.w.length + 1 + (loadE X t.e : Nat) := by
  have h1 := h.len
  have h2 := h.coef.1
  have hb := loadE_le (X := X) (E := t.e) (C := 491520) fun x hx e he => by
    have g1 := h.exps e he
    have g2 : lenI x ≤ 4096 := (hX x hx).len
    exact Nat.le_trans (Nat.mul_le_mul (show e.toNat ≤ 120 by omega) g2) (Nat.le_of_ble_eq_true rfl)
  have hb2 : loadE X t.e ≤ 15728640 := Nat.le_trans hb (Nat.le_trans (Nat.mul_le_mul_right 491520 (show t.e.length ≤ 32 by omega)) (Nat.le_of_ble_eq_true rfl))
  have h3 := ldE_eq (X := X) (n := t.c.w.length + 1) h.exps (by clear hb hb2; omega) rfl (by clear hb; omega) (by clear hb; omega) (by clear hb; omega) t.e.length (Nat.le_refl _)
  rw [ldT, h3, List.take_length, List.take_of_length_le (by omega)]
theorem mxI_ge (a b : Int) : a ≤ mxI a b ∧ b ≤ mxI a b := by unfold mxI; split <;> omega
theorem foldl_up {α : Type} {F : Int → α → Int} (hF : ∀ m x, m ≤ F m x) : ∀ (l : List α) (m : Int), m ≤ l.foldl F m ∧ ∀ x ∈ l, ∃ m', F m' x ≤ l.foldl F m
  | [], m => ⟨Int.le_refl _, by simp⟩
  | x :: l, m => by
    obtain ⟨h1, h2⟩ := foldl_up hF l (F m x)
    refine ⟨Int.le_trans (hF m x) h1, fun y hy => ?_⟩
    rcases List.mem_cons.1 hy with rfl | hy
    · exact ⟨m, h1⟩
    · exact h2 y hy
theorem atZ_map (X vs : List Int) : atZ (X.map zOf) vs = (atOf X vs).map zOf := by
  unfold atZ atOf
  rw [List.map_map]
  refine List.map_congr_left fun v _ => ?_
  show (X.map zOf).getD v.toNat ⟨false, []⟩ = zOf (X.getD v.toNat 0)
  rw [List.getD_eq_getElem?_getD, List.getD_eq_getElem?_getD, List.getElem?_map]
  cases X[v.toNat]? with
  | some x => rfl
  | none =>
    show (⟨false, []⟩ : Z) = ⟨decide ((0 : Int) < 0), toW ((0 : Int).natAbs)⟩
    rw [show (((0 : Int).natAbs : Nat) : Int) = 0 from rfl, toW_zero]; rfl
theorem load_of {s : SZ} {X : List Int} {M : Nat} (hw : WS s) (hs : OkS s) (hX : ∀ x ∈ X, Fit x) (h : ldS (X.map zOf) s.links ≤ M) : ∀ l ∈ s.links, LoadL M X l := fun l hl p hp t ht => by
  have hL := hs.links l hl
  have hP := hL.polys p hp
  have hvl := hL.vlen
  have hT := hP.2.terms t ht
  have hpm : ∀ (l : LZ) (m : Int) (p : PZ), m ≤ mxI m (ldP (atZ (X.map zOf) l.vars) p.terms) := fun l m p => (mxI_ge _ _).1
  have h0 : ∀ (m : Int) (l : LZ), m ≤ ldL (X.map zOf) l m l.polys := fun m l => (foldl_up (hpm l) l.polys m).1
  obtain ⟨m1, h1⟩ := (foldl_up h0 s.links 0).2 l hl
  obtain ⟨m2, h2⟩ := (foldl_up (hpm l) l.polys m1).2 p hp
  have h3 := (mxI_ge m2 (ldP (atZ (X.map zOf) l.vars) p.terms)).2
  have hpt : ∀ (m : Int) (t : TZ), m ≤ mxI m (ldT (atZ (X.map zOf) l.vars) t) := fun m t => (mxI_ge _ _).1
  obtain ⟨m3, h4⟩ := (foldl_up hpt p.terms 0).2 t ht
  have h5 := (mxI_ge m3 (ldT (atZ (X.map zOf) l.vars) t)).2
  have h6 : ldT (atZ (X.map zOf) l.vars) t ≤ M := by
    have g1 : ldP (atZ (X.map zOf) l.vars) p.terms ≤ ldL (X.map zOf) l m1 l.polys := Int.le_trans h3 h2
    have g2 : ldL (X.map zOf) l m1 l.polys ≤ ldS (X.map zOf) s.links := h1
    have g3 : ldT (atZ (X.map zOf) l.vars) t ≤ ldP (atZ (X.map zOf) l.vars) p.terms := Int.le_trans h5 h4
    omega
  rw [atZ_map, ldT_eq (X := atOf X l.vars) hT (atOf_fit hX _) (by rw [hP.1]; simp [atOf]) hP.2.v1] at h6
  have hc := (okZ_eq (hw l hl p hp t ht) hT.coef).1
  have hlen : lenI (zval t.c) = t.c.w.length := by
    conv => rhs; rw [hc]
    rfl
  omega
theorem as_of_load {X : List Int} {l : LZ} {vars : Int} {M : Nat} (hM : M ≤ 4000) (hL : OkL vars l) (h : LoadL M X l) : AsL X l := fun p hp => by
  have hP := (hL.polys p hp).2
  have h1 := (AS_len (X := atOf X l.vars) (M := M) hP.len (fun t ht => Nat.le_trans (lenI_prodE _ _ _) (h p hp t ht)) p.terms.length).1
  rw [List.take_length] at h1
  rw [Fit.iff]
  unfold lenI at h1
  omega
end Go.AL

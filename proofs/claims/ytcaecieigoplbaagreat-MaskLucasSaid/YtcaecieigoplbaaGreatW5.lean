/- Part 5 of a proof layer and of the contracts of the functions (XP7 XP8 XP9 XR0 XRA XRB XRC XYI XYK XYJ XL0 XYL XU0 XU2 XU3 XYE XY0 XY1 XY2 XY3 XY4 XY5 XY6 XY7). -/
import Derived.RangeFuncIn
import Derived.RangeFuncCalls
import Derived.RangeFuncFrom
import Derived.OrdersIn
import Derived.RangeFuncLeaves
import Derived.RangeFuncBound
import Derived.Sort.LoopGhostIn
import Derived.Test.YtcaecieigoplbaaGreatW4
set_option linter.unusedVariables false
set_option linter.unusedSimpArgs false
/- Sums of terms, as the map collects them. -/
namespace Go.AL
theorem findM_none {k : Key} : ∀ {xs : List ME} {i : Nat}, findM k xs i = none → ∀ q ∈ xs, q.1 ≠ k
  | [], _, _, q, hq => by cases hq
  | p :: xs, i, h, q, hq => by
    unfold findM at h;split at h
    · cases h
    · rename_i hk;rcases List.mem_cons.1 hq with rfl | hq
      · exact fun e => hk e.symm
      · exact findM_none h q hq
theorem findM_miss {k : Key} : ∀ {xs : List ME} (i : Nat), (∀ q ∈ xs, q.1 ≠ k) → findM k xs i = none
  | [], _, _ => rfl
  | p :: xs, i, h => by
    unfold findM;rw [if_neg (fun e => h p (by simp) e.symm)];exact findM_miss (i + 1) fun q hq => h q (by simp [hq])
theorem findM_split {k : Key} : ∀ {xs : List ME} {i j : Nat} {p : ME}, findM k xs i = some (j, p) → ∃ A B, xs = A ++ p :: B ∧ A.length + i = j ∧ p.1 = k ∧ ∀ q ∈ A, q.1 ≠ k
  | [], _, _, _, h => by simp [findM] at h
  | q :: xs, i, j, p, h => by
    unfold findM at h;split at h
    · rename_i hk;injection h with h; injection h with h1 h2; subst h1 h2;exact ⟨[], xs, rfl, by simp, hk.symm, by simp⟩
    · rename_i hk;obtain ⟨A, B, h1, h2, h3, h4⟩ := findM_split h;refine ⟨q :: A, B, by rw [h1]; rfl, by simp; omega, h3, fun r hr => ?_⟩;rcases List.mem_cons.1 hr with rfl | hr
      · exact fun e => hk e.symm
      · exact h4 r hr
theorem findM_hit {k : Key} {p : ME} (hk : p.1 = k) : ∀ {A B : List ME} (i : Nat), (∀ q ∈ A, q.1 ≠ k) → findM k (A ++ p :: B) i = some (A.length + i, p)
  | [], B, i, _ => by simp [findM, hk]
  | q :: A, B, i, h => by
    rw [List.cons_append];unfold findM;rw [if_neg (fun e => h q (by simp) e.symm), findM_hit hk (i + 1) fun r hr => h r (by simp [hr])];simp only [List.length_cons];congr 2; omega
/-- what setting an entry makes of a map -/
theorem setM_cases (k : Key) (y : Int) (c : Nat) (xs : List ME) :
    (findM k xs 0 = none ∧ putC k c xs = c + 1 ∧ ((y = 0 ∧ setM k y c xs = xs) ∨ (y ≠ 0 ∧ setM k y c xs = xs ++ [(k, y, c)]))) ∨
    (∃ A p B, findM k xs 0 = some (A.length, p) ∧ xs = A ++ p :: B ∧ p.1 = k ∧ (∀ q ∈ A, q.1 ≠ k) ∧ putC k c xs = c ∧ ((y = 0 ∧ setM k y c xs = A ++ B) ∨ (y ≠ 0 ∧ setM k y c xs = A ++ (k, y, p.2.2) :: B))) := by
  cases hf : findM k xs 0 with
  | none =>
    left;refine ⟨rfl, by unfold putC; rw [hf], ?_⟩
    have hp : putM k y c xs = xs ++ [(k, y, c)] := by unfold putM; rw [hf]
    by_cases hy : y = 0
    · left;refine ⟨hy, ?_⟩;unfold setM;have hh := findM_hit (k := k) (p := (k, y, c)) rfl (A := xs) (B := []) 0 (findM_none hf);rw [if_pos hy, hp];unfold delM;rw [hh];simp only [Nat.add_zero];rw [List.eraseIdx_append_of_length_le (Nat.le_refl _)];simp
    · right; exact ⟨hy, by unfold setM; rw [if_neg hy, hp]⟩
  | some q =>
    obtain ⟨j, p⟩ := q;obtain ⟨A, B, h1, h2, h3, h4⟩ := findM_split hf
    have h2 : A.length = j := by omega
    subst h2;right;refine ⟨A, p, B, rfl, h1, h3, h4, by unfold putC; rw [hf], ?_⟩
    have hp : putM k y c xs = A ++ (k, y, p.2.2) :: B := by unfold putM; rw [hf, h1]; simp
    by_cases hy : y = 0
    · left;refine ⟨hy, ?_⟩;unfold setM;have hh := findM_hit (k := k) (p := (k, y, p.2.2)) rfl (A := A) (B := B) 0 h4;rw [if_pos hy, hp];unfold delM;rw [hh];simp only [Nat.add_zero];rw [List.eraseIdx_append_of_length_le (Nat.le_refl _)];simp
    · right; exact ⟨hy, by unfold setM; rw [if_neg hy, hp]⟩
def exK (e : List Int) : Key := if h : e.length ≤ 32 then expK e h else ⟨List.replicate 32 0, by simp⟩
theorem exK_eq {e : List Int} (h : e.length ≤ 32) : exK e = expK e h := dif_pos h
abbrev UT := Int × List Int
abbrev MS := List ME × Nat
def stepM (s : MS) (u : UT) : MS := (setM (exK u.2) (getM (exK u.2) s.1 + u.1) s.2 s.1, putC (exK u.2) s.2 s.1)
noncomputable def runM : List UT → MS → Option MS
  | [], s => some s
  | u :: us, s => @ite _ (Fit (getM (exK u.2) s.1 + u.1)) (Classical.propDecidable _) (runM us (stepM s u)) none
theorem runM_append : ∀ (a b : List UT) (s : MS), runM (a ++ b) s = (runM a s).bind (runM b)
  | [], b, s => rfl
  | u :: a, b, s => by
    rw [List.cons_append];unfold runM;split
    · exact runM_append a b _
    · rfl
theorem runM_snoc {a : List UT} {u : UT} {s s' : MS} (h : runM a s = some s') (hf : Fit (getM (exK u.2) s'.1 + u.1)) : runM (a ++ [u]) s = some (stepM s' u) := by
  rw [runM_append, h];simp [runM, hf]
theorem runM_stop {a b : List UT} {u : UT} {s s' : MS} (h : runM a s = some s') (hf : ¬ Fit (getM (exK u.2) s'.1 + u.1)) : runM (a ++ u :: b) s = none := by
  rw [runM_append, h];simp [runM, hf]
/-- terms to be added: exponents of so many variables -/
def UOk (V : Nat) (us : List UT) : Prop := ∀ u ∈ us, u.2.length = V ∧ EOk u.2
theorem MOk.step {V : Nat} {xs : List ME} {c : Nat} (m : MOk V xs c) (hV : V ≤ 32) {a : Int} {e : List Int} (hl : e.length = V) (he : EOk e) (hf : Fit (getM (exK e) xs + a)) : MOk V (stepM (xs, c) (a, e)).1 (stepM (xs, c) (a, e)).2 := by
  have h32 : e.length ≤ 32 := by omega
  show MOk V (setM (exK e) (getM (exK e) xs + a) c xs) (putC (exK e) c xs);have hexp : ∀ (p : ME), p.1 = exK e → ∃ (e : List Int) (he : e.length ≤ 32), p.1 = expK e he ∧ e.length = V ∧ EOk e := fun p hp => ⟨e, h32, by rw [hp, exK_eq h32], hl, he⟩;rcases setM_cases (exK e) (getM (exK e) xs + a) c xs with ⟨h1, h2, h3⟩ | ⟨A, p, B, h1, h2, h3, h4, h5, h6⟩
  · rw [h2];rcases h3 with ⟨_, h3⟩ | ⟨hy, h3⟩
    · rw [h3];exact ⟨m.nd, fun p hp => Nat.lt_succ_of_lt (m.lt p hp), m.keys, m.fit, m.nz, m.exp⟩
    · rw [h3]
      have hm : ∀ {Q : ME → Prop}, (∀ p ∈ xs, Q p) → Q (exK e, getM (exK e) xs + a, c) → ∀ p ∈ xs ++ [(exK e, getM (exK e) xs + a, c)], Q p := fun hq h p hp => by
        rcases List.mem_append.1 hp with hp | hp
        · exact hq p hp
        · simp at hp; subst hp; exact h
      refine ⟨?_, hm (fun p hp => Nat.lt_succ_of_lt (m.lt p hp)) (Nat.lt_succ_self c), ?_, hm m.fit hf, hm m.nz hy, hm m.exp (hexp _ rfl)⟩
      · rw [List.map_append, List.nodup_append];refine ⟨m.nd, by simp, fun x hx y hy' => ?_⟩;obtain ⟨p, hp, rfl⟩ := List.mem_map.1 hx;simp at hy'; subst hy';have := m.lt p hp; omega
      · rw [List.pairwise_append];refine ⟨m.keys, by simp, fun x hx y hy' => ?_⟩;simp at hy'; subst hy';exact findM_none h1 x hx
  · rw [h5];subst h2;rcases h6 with ⟨_, h6⟩ | ⟨hy, h6⟩
    · rw [h6];have hsub : (A ++ B).Sublist (A ++ p :: B) := List.Sublist.append_left (List.sublist_cons_self p B) A;have hm : ∀ q ∈ A ++ B, q ∈ A ++ p :: B := fun q hq => hsub.mem hq;exact ⟨(hsub.map _).nodup m.nd, fun q hq => m.lt q (hm q hq), m.keys.sublist hsub, fun q hq => m.fit q (hm q hq), fun q hq => m.nz q (hm q hq), fun q hq => m.exp q (hm q hq)⟩
    · rw [h6]
      have hm : ∀ {Q : ME → Prop}, (∀ q ∈ A ++ p :: B, Q q) → Q (exK e, getM (exK e) (A ++ p :: B) + a, p.2.2) → ∀ q ∈ A ++ (exK e, getM (exK e) (A ++ p :: B) + a, p.2.2) :: B, Q q := fun hq h q hq' => by
        rcases List.mem_append.1 hq' with hq' | hq'
        · exact hq q (by simp [hq'])
        · rcases List.mem_cons.1 hq' with rfl | hq'
          · exact h
          · exact hq q (by simp [hq'])
      refine ⟨by have := m.nd; simpa using this, hm m.lt (m.lt p (by simp)), ?_, hm m.fit hf, hm m.nz hy, hm m.exp (hexp _ rfl)⟩;have hk := m.keys;rw [List.pairwise_append, List.pairwise_cons] at hk ⊢;obtain ⟨k1, ⟨k2, k3⟩, k4⟩ := hk;rw [h3] at k2
      exact ⟨k1, ⟨k2, k3⟩, fun x hx y hy' => by
        rcases List.mem_cons.1 hy' with rfl | hy'
        · exact h4 x hx
        · exact k4 x hx y (by simp [hy'])⟩
theorem runM_ok {V : Nat} (hV : V ≤ 32) : ∀ {us : List UT} {xs : List ME} {c : Nat} {s' : MS}, MOk V xs c → UOk V us → runM us (xs, c) = some s' → MOk V s'.1 s'.2 ∧ s'.1.length ≤ xs.length + us.length
  | [], xs, c, s', m, _, h => by
    simp only [runM] at h; injection h with h; subst h; exact ⟨m, by simp⟩
  | (a, e) :: us, xs, c, s', m, hu, h => by
    unfold runM at h;split at h
    · rename_i hf;have hu1 := hu (a, e) (by simp);have hs := m.step hV hu1.1 hu1.2 hf
      have hlen : (stepM (xs, c) (a, e)).1.length ≤ xs.length + 1 := by
        show (setM (exK e) (getM (exK e) xs + a) c xs).length ≤ _;rcases setM_cases (exK e) (getM (exK e) xs + a) c xs with ⟨h1, h2, h3⟩ | ⟨A, p, B, h1, h2, h3, h4, h5, h6⟩
        · rcases h3 with ⟨_, h3⟩ | ⟨_, h3⟩ <;> rw [h3] <;> simp
        · rcases h6 with ⟨_, h6⟩ | ⟨_, h6⟩ <;> rw [h6, h2] <;> simp <;> omega
      have := runM_ok hV (xs := (stepM (xs, c) (a, e)).1) (c := (stepM (xs, c) (a, e)).2) hs (fun u hu' => hu u (by simp [hu'])) h;refine ⟨this.1, ?_⟩;have h2 := this.2;simp only [List.length_cons]; omega
    · cases h
theorem MOk.nil (V : Nat) : MOk V [] 0 := ⟨by simp, by simp, by simp, by simp, by simp, by simp⟩
end Go.AL
/- poly.plus. -/
namespace Go.AL
abbrev u1 (t : TZ) : UT := (zval t.c, t.e)
abbrev u2 (b : Int) (t : TZ) : UT := (zval t.c * b, t.e)
def plusU (b : Int) (p q : PZ) : List UT := p.terms.map u1 ++ q.terms.map (u2 b)
def SumOk (V : Nat) (us : List UT) (r : PZ) : Prop := ∃ s, runM us ([], 0) = some s ∧ r = ⟨V, sortT (s.1.map (tmM V))⟩ ∧ OkP r
theorem OkP.uok {p : PZ} {V : Nat} (hp : OkP p) (hV : p.vars = V) {t : TZ} (ht : t ∈ p.terms) : t.e.length = V ∧ EOk t.e := by
  have := hp.terms t ht;have h2 := this.len;exact ⟨by omega, this.exps⟩
theorem take_map_snoc {α β : Type} (f : α → β) {l : List α} {i : Nat} {x : α} (h : l[i]? = some x) : (l.map f).take (i + 1) = (l.map f).take i ++ [f x] := take_snoc (by rw [List.getElem?_map, h]; rfl)
theorem map_split {α β : Type} (f : α → β) {l : List α} {i : Nat} {x : α} (h : l[i]? = some x) : l.map f = (l.map f).take i ++ f x :: (l.map f).drop (i + 1) := by
  have hi := (List.getElem?_eq_some_iff.1 h).1
  have h2 : (l.map f)[i]'(by simpa using hi) = f x := by
    have := (List.getElem?_eq_some_iff.1 h).2;rw [List.getElem_map, this]
  rw [← h2, List.getElem_cons_drop, List.take_append_drop]
end Go.AL
namespace Go.Proofs.YtcaecieigoplbaaGreat
open Go.AL
theorem sAdd_ret (V : Nat) (hV : V ≤ 32) (s : MS) (m : MOk V s.1 s.2) (u : UT) (hc : Fit u.1) (he : u.2.length = V) (hf : Fit (getM (exK u.2) s.1 + u.1)) :
    IoFn Tryz.prog 220 [.ptr 900 0, aX u.1, aI u.2] (smB V s.1 s.2) (.ret (.tup [])) (smB V (stepM s u).1 (stepM s u).2) := by
  have h32 : u.2.length ≤ 32 := by omega
  rw [exK_eq h32] at hf;exact sAdd_io V s.1 s.2 u.1 u.2 hc m.fit h32 _ _ (fun _ => ⟨rfl, by simp only [stepM, exK_eq h32]⟩) (fun h => absurd hf h)
theorem sAdd_thr (V : Nat) (hV : V ≤ 32) (s : MS) (m : MOk V s.1 s.2) (u : UT) (hc : Fit u.1) (he : u.2.length = V) (hf : ¬ Fit (getM (exK u.2) s.1 + u.1)) :
    IoFn Tryz.prog 220 [.ptr 900 0, aX u.1, aI u.2] (smB V s.1 s.2) (.thr (thrown 4)) (smB V s.1 s.2) := by
  have h32 : u.2.length ≤ 32 := by omega
  rw [exK_eq h32] at hf;exact sAdd_io V s.1 s.2 u.1 u.2 hc m.fit h32 _ _ (fun h => absurd h hf) (fun _ => ⟨rfl, rfl⟩)

set_option maxHeartbeats 1000000 in
theorem plus_io (V : Nat) (hV : V ≤ 32) (p q : PZ) (b : Int) (hb : Fit b) (hwp : WP p) (hwq : WP q) (hp : OkP p) (hq : OkP q) (hpv : p.vars = V) (hqv : q.vars = V) (hmul : ∀ t ∈ q.terms, Fit (zval t.c * b)) (res : Res)
    (hr1 : ∀ r, SumOk V (plusU b p q) r → res = .ret (aP r)) (hr2 : (¬ ∃ r, SumOk V (plusU b p q) r) → res = .thr (thrown 4)) :
    IoFn Tryz.prog 185 [aP p, aP q, aX b] [] res [] := by
  have hfp : ∀ t ∈ p.terms, Fit (zval t.c) ∧ t.c = zOf (zval t.c) := fun t ht => by
    have := okZ_eq (hwp t ht) (hp.terms t ht).coef; exact ⟨this.2, this.1⟩
  have hfq : ∀ t ∈ q.terms, Fit (zval t.c) ∧ t.c = zOf (zval t.c) := fun t ht => by
    have := okZ_eq (hwq t ht) (hq.terms t ht).coef; exact ⟨this.2, this.1⟩
  have hup : UOk V (p.terms.map u1) := fun u hu => by
    obtain ⟨t, ht, rfl⟩ := List.mem_map.1 hu; exact hp.uok hpv ht
  have huq : UOk V (q.terms.map (u2 b)) := fun u hu => by
    obtain ⟨t, ht, rfl⟩ := List.mem_map.1 hu; exact hq.uok hqv ht
  have hplen := hp.len;have hqlen := hq.len;refine IoFn.of_body Tryz.func185 rfl Tryz.ntmps185 rfl rfl rfl ?_;(repeat' (first |refine Fl.v rfl rfl rfl ?_ |refine Fl.nilF ?_ |refine AWP.seq ?_ |refine AWP.region ?_ |refine Fl.b rfl rfl rfl rfl ?_));refine Fl.io rfl [(900, 710), (901, 711)] (empty_ok V) rfl rfl (LeL.cons (AV.Le.int hpv) LeL.nil) rfl trivial rfl rfl rfl rfl rfl ?_;(repeat' (first |refine Fl.v rfl rfl rfl ?_ |refine Fl.nilF ?_ |refine AWP.seq ?_ |refine AWP.region ?_ |refine AWP.block ?_));refine AWP.loop (G := Nat × MS) (fun (i, s) => i ≤ p.terms.length ∧ runM ((p.terms.map u1).take i) ([], 0) = some s)
    (fun (i, s) => St.of [] [(3, .ptr 3 0), (4, .ptr 4 0), (5, .ptr 5 0), (6, .ptr 6 0), (7, .ptr 710 0), (16, .sl 3 eT p.terms), (17, aN p.terms.length), (18, aN i)] [(3, .cells (eP p) 70), (4, .cells (eP q) 70), (5, .cells (eX b) 35), (6, .cells [aN 0, .v (.slice none 0 0)] 70), (710, .cells [aN V, .mp 711] 216), (711, bM s.1 s.2)]) (fun (i, s) => p.terms.length - i) (0, ([], 0)) ⟨by omega, by simp [runM]⟩ ?_ ?_
  · refine Ent.of [] ?_ ?_ rfl rfl;(repeat' (first |exact True.intro |refine ⟨⟨AV.Le.refl _, rfl⟩, ?_⟩ |refine ⟨⟨⟨_, rfl, BLe.cells (LeL.refl _)⟩, rfl⟩, ?_⟩ |refine ⟨⟨⟨_, rfl, BLe.map rfl rfl⟩, rfl⟩, ?_⟩|fail))
  · intro ⟨i, s⟩ ⟨k0, k1⟩;have hm := (runM_ok hV (MOk.nil V) (fun u hu => hup u (List.mem_of_mem_take hu)) k1);by_cases hi : i < p.terms.length
    · obtain ⟨t, ht⟩ : ∃ t, p.terms[i]? = some t := ⟨_, List.getElem?_eq_getElem hi⟩;have htm := List.mem_of_getElem? ht;by_cases hf : Fit (getM (exK t.e) s.1 + zval t.c)
      · (repeat' (first |refine Fl.v rfl rfl rfl ?_ |refine Fl.nilF ?_ |refine AWP.seq ?_ |refine AWP.region ?_ |refine Fl.b rfl rfl rfl rfl ?_ |(refine AWP.condD rfl ?_ ?_ <;> intro _ <;> try (exfalso; omega)) |refine AWP.block ?_ |refine AWP.skip ?_ |refine Fl.elK rfl rfl rfl rfl rfl rfl rfl rfl (by assumption) (by omega) ?_|fail));refine Fl.io rfl [(900, 710), (901, 711)] (sAdd_ret V hV s hm.1 (u1 t) (hfp t htm).1 (hp.uok hpv htm).1 hf) rfl rfl (LeL.cons (AV.Le.refl _) (LeL.cons (AV.Le.agg (leZ (hfp t htm).2)) (LeL.refl _))) rfl ⟨⟨⟨_, rfl, BLe.cells (LeL.refl _)⟩, rfl⟩, ⟨⟨_, rfl, BLe.map rfl rfl⟩, rfl⟩, trivial⟩ rfl rfl rfl rfl rfl ?_;(repeat' (first |refine Fl.v rfl rfl rfl ?_ |refine Fl.nilF ?_ |refine AWP.region ?_ |refine Fl.w rfl rfl rfl (by first | exact True.intro | omega) ?_|fail));refine LoopEnd.of (i + 1, stepM s (u1 t)) ⟨by omega, by rw [take_map_snoc u1 ht]; exact runM_snoc k1 hf⟩ (by simp only; omega) ?_;refine Ent.of [] ?_ ?_ rfl rfl;(repeat' (first |exact True.intro |refine ⟨⟨AV.Le.refl _, rfl⟩, ?_⟩ |refine ⟨⟨⟨_, rfl, BLe.cells (LeL.refl _)⟩, rfl⟩, ?_⟩ |refine ⟨⟨⟨_, rfl, BLe.map rfl rfl⟩, rfl⟩, ?_⟩|fail))
      · have e1 := hr2 (by
          rintro ⟨r, s', h1, _⟩;have := runM_stop (u := u1 t) (b := (p.terms.map u1).drop (i + 1)) k1 hf;rw [show (p.terms.map u1).take i ++ (zval t.c, t.e) :: (p.terms.map u1).drop (i + 1) = p.terms.map u1 from (map_split u1 ht).symm] at this;unfold plusU at h1;rw [runM_append, this] at h1
          cases h1)
        subst e1;(repeat' (first |refine Fl.v rfl rfl rfl ?_ |refine Fl.nilF ?_ |refine AWP.seq ?_ |refine AWP.region ?_ |refine Fl.b rfl rfl rfl rfl ?_ |(refine AWP.condD rfl ?_ ?_ <;> intro _ <;> try (exfalso; omega)) |refine AWP.block ?_ |refine AWP.skip ?_ |refine Fl.elK rfl rfl rfl rfl rfl rfl rfl rfl (by assumption) (by omega) ?_|fail));exact Fl.thrC rfl [(900, 710), (901, 711)] (sAdd_thr V hV s hm.1 (u1 t) (hfp t htm).1 (hp.uok hpv htm).1 hf) rfl (LeL.cons (AV.Le.refl _) (LeL.cons (AV.Le.agg (leZ (hfp t htm).2)) (LeL.refl _))) rfl ⟨⟨⟨_, rfl, BLe.cells (LeL.refl _)⟩, rfl⟩, ⟨⟨_, rfl, BLe.map rfl rfl⟩, rfl⟩, trivial⟩ rfl (fun _ => by kernel_rfl) (fun _ => rfl)
    · have hti : (p.terms.map u1).take i = p.terms.map u1 := List.take_of_length_le (by simp; omega);rw [hti] at k1;clear hti hm;(repeat' (first |refine Fl.v rfl rfl rfl ?_ |refine Fl.nilF ?_ |refine AWP.seq ?_ |refine AWP.region ?_ |(refine AWP.condD rfl ?_ ?_ <;> intro _ <;> try (exfalso; omega)) |refine AWP.block ?_ |refine AWP.exit ?_));rename_i hi9; clear hi hi9 k0;refine AWP.loop (G := Nat × MS) (fun (i, s') => i ≤ q.terms.length ∧ runM ((q.terms.map (u2 b)).take i) s = some s')
        (fun (i, s') => St.of [] [(3, .ptr 3 0), (4, .ptr 4 0), (5, .ptr 5 0), (6, .ptr 6 0), (7, .ptr 710 0), (30, .sl 3 eT q.terms), (31, aN q.terms.length), (32, aN i)] [(3, .cells (eP p) 70), (4, .cells (eP q) 70), (5, .cells (eX b) 35), (6, .cells [aN 0, .v (.slice none 0 0)] 70), (710, .cells [aN V, .mp 711] 216), (711, bM s'.1 s'.2)]) (fun (i, s') => q.terms.length - i) (0, s) ⟨by omega, by simp [runM]⟩ ?_ ?_
      · refine Ent.of [] ?_ ?_ rfl rfl;(repeat' (first |exact True.intro |refine ⟨⟨AV.Le.refl _, rfl⟩, ?_⟩ |refine ⟨⟨⟨_, rfl, BLe.cells (LeL.refl _)⟩, rfl⟩, ?_⟩ |refine ⟨⟨⟨_, rfl, BLe.map rfl rfl⟩, rfl⟩, ?_⟩|fail))
      · have hm0 := runM_ok hV (MOk.nil V) hup k1;intro ⟨i, s'⟩ ⟨k0, k2⟩;have hm := (runM_ok hV hm0.1 (fun u hu => huq u (List.mem_of_mem_take hu)) k2);by_cases hi : i < q.terms.length
        · obtain ⟨t, ht⟩ : ∃ t, q.terms[i]? = some t := ⟨_, List.getElem?_eq_getElem hi⟩;have htm := List.mem_of_getElem? ht;by_cases hf : Fit (getM (exK t.e) s'.1 + zval t.c * b)
          · (repeat' (first |refine Fl.v rfl rfl rfl ?_ |refine Fl.nilF ?_ |refine AWP.seq ?_ |refine AWP.region ?_ |refine Fl.b rfl rfl rfl rfl ?_ |(refine AWP.condD rfl ?_ ?_ <;> intro _ <;> try (exfalso; omega)) |refine AWP.block ?_ |refine AWP.skip ?_ |refine Fl.elK rfl rfl rfl rfl rfl rfl rfl rfl (by assumption) (by omega) ?_|fail));refine Fl.call rfl (xMul_ret _ _ (hfq t htm).1 hb (hmul t htm)) rfl rfl rfl (LeL.cons (AV.Le.agg (leZ (σ := []) (hfq t htm).2)) (LeL.refl _)) ?_;(repeat' (first |refine Fl.v rfl rfl rfl ?_));refine Fl.io rfl [(900, 710), (901, 711)] (sAdd_ret V hV s' hm.1 (u2 b t) (hmul t htm) (hq.uok hqv htm).1 hf) rfl rfl (LeL.refl _) rfl ⟨⟨⟨_, rfl, BLe.cells (LeL.refl _)⟩, rfl⟩, ⟨⟨_, rfl, BLe.map rfl rfl⟩, rfl⟩, trivial⟩ rfl rfl rfl rfl rfl ?_;(repeat' (first |refine Fl.v rfl rfl rfl ?_ |refine Fl.nilF ?_ |refine Fl.nil (fun _ => by kernel_rfl) ?_ |refine AWP.region ?_ |refine Fl.w rfl rfl rfl (by first | exact True.intro | omega) ?_|fail));refine LoopEnd.of (i + 1, stepM s' (u2 b t)) ⟨by omega, by rw [take_map_snoc (u2 b) ht]; exact runM_snoc k2 hf⟩ (by simp only; omega) ?_;refine Ent.of [] ?_ ?_ rfl rfl;(repeat' (first |exact True.intro |refine ⟨⟨AV.Le.refl _, rfl⟩, ?_⟩ |refine ⟨⟨⟨_, rfl, BLe.cells (LeL.refl _)⟩, rfl⟩, ?_⟩ |refine ⟨⟨⟨_, rfl, BLe.map rfl rfl⟩, rfl⟩, ?_⟩|fail))
          · have e1 := hr2 (by
              rintro ⟨r, s2, h1, _⟩;have := runM_stop (u := u2 b t) (b := (q.terms.map (u2 b)).drop (i + 1)) k2 hf;rw [show (q.terms.map (u2 b)).take i ++ u2 b t :: (q.terms.map (u2 b)).drop (i + 1) = q.terms.map (u2 b) from (map_split (u2 b) ht).symm] at this;unfold plusU at h1;rw [runM_append, k1] at h1;change runM _ s = _ at h1;rw [this] at h1
              cases h1)
            subst e1;(repeat' (first |refine Fl.v rfl rfl rfl ?_ |refine Fl.nilF ?_ |refine AWP.seq ?_ |refine AWP.region ?_ |refine Fl.b rfl rfl rfl rfl ?_ |(refine AWP.condD rfl ?_ ?_ <;> intro _ <;> try (exfalso; omega)) |refine AWP.block ?_ |refine AWP.skip ?_ |refine Fl.elK rfl rfl rfl rfl rfl rfl rfl rfl (by assumption) (by omega) ?_|fail));refine Fl.call rfl (xMul_ret _ _ (hfq t htm).1 hb (hmul t htm)) rfl rfl rfl (LeL.cons (AV.Le.agg (leZ (σ := []) (hfq t htm).2)) (LeL.refl _)) ?_;(repeat' (first |refine Fl.v rfl rfl rfl ?_));exact Fl.thrC rfl [(900, 710), (901, 711)] (sAdd_thr V hV s' hm.1 (u2 b t) (hmul t htm) (hq.uok hqv htm).1 hf) rfl (LeL.refl _) rfl ⟨⟨⟨_, rfl, BLe.cells (LeL.refl _)⟩, rfl⟩, ⟨⟨_, rfl, BLe.map rfl rfl⟩, rfl⟩, trivial⟩ rfl (fun _ => by kernel_rfl) (fun _ => rfl)
        · have hti : (q.terms.map (u2 b)).take i = q.terms.map (u2 b) := List.take_of_length_le (by simp; omega);rw [hti] at k2
          have hall : runM (plusU b p q) ([], 0) = some s' := by
            unfold plusU;rw [runM_append, k1];exact k2
          have hln := (runM_ok hV (MOk.nil V) (us := plusU b p q) (fun u hu => (List.mem_append.1 hu).elim (hup u) (huq u)) hall).2
          have hlu : (plusU b p q).length = p.terms.length + q.terms.length := by simp [plusU]
          simp only [List.length_nil] at hln;by_cases hok : OkP ⟨V, sortT (s'.1.map (tmM V))⟩
          · have e1 := hr1 _ ⟨s', hall, rfl, hok⟩;subst e1;(repeat' (first |refine Fl.v rfl rfl rfl ?_ |refine Fl.nilF ?_ |refine AWP.seq ?_ |refine AWP.region ?_ |(refine AWP.condD rfl ?_ ?_ <;> intro _ <;> try (exfalso; omega)) |refine AWP.exit ?_));refine Fl.io rfl [(900, 710), (901, 711)] (sPoly_io V s'.1 s'.2 hm.1 hV (by omega) _ _ (fun _ => ⟨rfl, rfl⟩) (fun h => absurd hok h)) rfl rfl (LeL.refl _) rfl ⟨⟨⟨_, rfl, BLe.cells (LeL.refl _)⟩, rfl⟩, ⟨⟨_, rfl, BLe.map rfl rfl⟩, rfl⟩, trivial⟩ rfl rfl rfl rfl rfl ?_;(repeat' (first |refine Fl.nilF ?_ |refine Fl.b rfl rfl rfl rfl ?_ |refine AWP.ret ?_));exact ⟨⟨[], _, _, Ent.refl _ _ _, rfl, AV.Le.refl _, rfl, trivial, rfl, rfl⟩⟩
          · have e1 := hr2 (by
              rintro ⟨r, s2, h1, h2, h3⟩;rw [hall] at h1;injection h1 with h1;subst h1
              exact hok (h2 ▸ h3))
            subst e1;(repeat' (first |refine Fl.v rfl rfl rfl ?_ |refine Fl.nilF ?_ |refine AWP.seq ?_ |refine AWP.region ?_ |(refine AWP.condD rfl ?_ ?_ <;> intro _ <;> try (exfalso; omega)) |refine AWP.exit ?_));exact Fl.thrC rfl [(900, 710), (901, 711)] (sPoly_io V s'.1 s'.2 hm.1 hV (by omega) _ _ (fun h => absurd h hok) (fun _ => ⟨rfl, rfl⟩)) rfl (LeL.refl _) rfl ⟨⟨⟨_, rfl, BLe.cells (LeL.refl _)⟩, rfl⟩, ⟨⟨_, rfl, BLe.map rfl rfl⟩, rfl⟩, trivial⟩ rfl (fun _ => by kernel_rfl) (fun _ => rfl)
end Go.Proofs.YtcaecieigoplbaaGreat
/- The same of a row that is still written. -/
namespace Go.AL
open Go.ChangeMaps (setBlock)
section
variable {P : Program} {tab : Tab} {n : Nat} {s : St}
/-- the same, s a growing row -/
theorem AWP.arrCopyR [f : Facts P tab] {I : List Id} {Q : Exit → St → Prop} {id : Nat} {o1 o2 o3 : Oper} {d1 d2 d3 : Tmp} {t e t1 t2 : TypeId} {x y : Operand} (h1 : o1.op = .slice t x none none none) (g1 : o1.guard = none) (e1 : o1.dst = some d1) (l1 : Nat.blt d1 n = true) (h2 : o2.op = .move y) (g2 : o2.guard = none) (e2 : o2.dst = some d2) (l2 : Nat.blt d2 n = true) (h3 : o3.op = .call { callee := .builtin .copy, args := ⟨[.tmp d1, .tmp d2]⟩, argTypes := ⟨[t1, t2]⟩ }) (g3 : o3.guard = none) (e3 : o3.dst = some d3) (l3 : Nat.blt d3 n = true) (hne : Nat.beq d1 d2 = false)
    {N sz' by' sz2 by2 : Nat} {z' z2 : List Value} (hts : tab t = some ⟨.array N e, sz', by', z'⟩) (hts1 : tab t1 = some ⟨.slice e, sz2, by2, z2⟩) {i : TI} (hti : tab e = some i) (hi1 : Nat.beq i.size 1 = true) {b : Id} (hx : opd s x = .ptr b 0) {cs : List AV} {bt : TypeId} (hb : s.bx b = some (.cells cs bt)) (hN : Nat.beq cs.length N = true) (hNm : Nat.ble N 1000000 = true) (hN0 : Nat.blt 0 N = true) {α : Type} {enc : α → List AV} {ys : List α} {r2 : Id} {bt2 : TypeId} (hy : opd s y = .row r2) (hb2 : s.bx r2 = some (.row 1 enc ys bt2)) (hyd : y ≠ .tmp d1) (hone : ∀ y, allOne (enc y) = true) (hel : ∀ y, (enc y).length = 1) (hl : ys.length ≤ N) {cs' : List AV} (hcs : ys.flatMap enc ++ cs.drop ys.length = cs')
    (q : Q .normal ((Eff.mk .any [(b, .cells cs' bt)] [] [] [b]).app (some d3) ((Eff.mk (.row r2) [] [] [] []).app (some d2) ((Eff.mk .any [] [] [] []).app (some d1) s)))) : AWP P n I (.region id ⟨[o1, o2, o3]⟩ false) Q s := by
  subst hcs;have hi1 := Nat.eq_of_beq_eq_true hi1;have hN := Nat.eq_of_beq_eq_true hN;have hNm := Nat.le_of_ble_eq_true hNm;have hN0 := ltOf hN0
  have hd12 : d1 ≠ d2 := fun e => by rw [e, Nat.beq_refl] at hne; cases hne
  refine ⟨fun C a w hp β hi k => ?_⟩;refine wp_region ?_;have hrg : List.range (Array.size ⟨[o1, o2, o3]⟩) = [0, 1, 2] := rfl;rw [hrg];refine wpOps_cons (ops := ⟨[o1, o2, o3]⟩) (i := 0) (o := o1) rfl g1 ?_;have hxr := opd_rep k x;rw [hx] at hxr;simp only [Rep] at hxr;obtain ⟨g, b1, b2⟩ := hxr;have hu := (f.tabOk _ _ hts).und;simp only at hu;have hu1 := (f.tabOk _ _ hts1).und;simp only at hu1;have hd1 : d1 < n := ltOf l1;have hd2 : d2 < n := ltOf l2
  have hr1 : (execOp a.eval o1).run P w = .ok (.value (.slice (some ⟨g, 0, none⟩) N N)) w := by
    have hN0' : ¬ N = 0 := by omega
    simp only [execOp, h1, b2, Option.map_none, Instr.sliceAt, Instr.sureAddr, Sem.run_bind, run_underlying hu, Result.andThen, Instr.sliceBounds, Sem.run_pure, size_ok (f.tabOk _ _ hti), Nat.zero_mul, Addr.add, if_true, Nat.sub_zero, if_neg hN0']
  unfold Oper.wp;rw [hr1];simp only [Oper.upon, e1];have k1 := k.val (some d1) (fun t ht => by injection ht with ht; subst ht; exact hd1) (v := .any) (u := .slice (some ⟨g, 0, none⟩) N N) (by simp only [Rep]) [];refine wpOps_cons (ops := ⟨[o1, o2, o3]⟩) (i := 1) (o := o2) rfl g2 ?_
  have hys : opd ((Eff.mk AV.any [] [] [] []).app (some d1) s) y = .row r2 := by
    rw [← hy];refine opd_tmp fun t ht => ?_;simp only [Eff.app];exact putE_ne _ _ _ _ (fun h => hyd (by injection h with h; rw [ht, h]))
  have hyr := opd_rep k1 y;rw [hys] at hyr
  have hr2 : (execOp (a.put (some d1) (.slice (some ⟨g, 0, none⟩) N N)).eval o2).run P w = .ok (.value ((a.put (some d1) (.slice (some ⟨g, 0, none⟩) N N)).eval y)) w := by
    simp only [execOp, h2, Sem.run_pure]
  unfold Oper.wp;rw [hr2];simp only [Oper.upon, e2];have k2 := k1.val (some d2) (fun t ht => by injection ht with ht; subst ht; exact hd2) (v := .row r2) hyr [];generalize hyv : (a.put (some d1) (.slice (some ⟨g, 0, none⟩) N N)).eval y = yv at hyr k2 ⊢;refine wpOps_cons (ops := ⟨[o1, o2, o3]⟩) (i := 2) (o := o3) rfl g3 ?_
  have hsz : d1 < a.tmps.size ∧ d2 < a.tmps.size := by rw [k.size]; exact ⟨hd1, hd2⟩
  have ev1 : ((a.put (some d1) (.slice (some ⟨g, 0, none⟩) N N)).put (some d2) yv).eval (.tmp d1) = .slice (some ⟨g, 0, none⟩) N N := by
    simp [Act.eval, Act.put, Array.getElem?_setIfInBounds, hsz.1, Ne.symm hd12]
  have ev2 : ((a.put (some d1) (.slice (some ⟨g, 0, none⟩) N N)).put (some d2) yv).eval (.tmp d2) = yv := by
    simp [Act.eval, Act.put, hsz.2]
  have hb3 : ((Eff.mk (.row r2) [] [] [] []).app (some d2) ((Eff.mk AV.any [] [] [] []).app (some d1) s)).bx b = some (.cells cs bt) := hb;obtain ⟨g', us, b3, hh, hr, hnone⟩ := k2.box b _ hb3;rw [b1] at b3; injection b3 with b3; injection b3 with b3; injection b3 with b3; injection b3 with b3; subst b3
  have hul : us.size = N := by rw [← Array.length_toList, hr.length, hN]
  have his : (P.info? e).map (·.size) = some 1 := by
    obtain ⟨inf, zv, i1, i2, _⟩ := (f.tabOk e i hti).info;rw [i1]; simp [i2, hi1]
  simp only [Rep] at hyr;obtain ⟨v2, vals, e4, ⟨hvl, hown⟩, hrv, hsz2, hno2⟩ := k2.box r2 _ (show _ = some (.row 1 enc ys bt2) from hb2)
  have hyv2 : yv = v2 := by
    have := hyr.1;rw [e4] at this; injection this with this; exact this.symm
  obtain ⟨B, cB, hv2, hcells⟩ : ∃ B cB, yv = .slice B ys.length cB ∧ (ys ≠ [] → ∃ adB, B = some adB ∧ ∀ (j : Nat) (u : Value), vals[j]? = some u → w.cell? (adB.add j) = some u) := by
    rw [hyv2];rcases hown with ⟨h1, h2⟩ | ⟨g2, cap, cur, h1, h2, h3, h4, h5, h6, h7⟩
    · have hy0 : ys = [] := List.eq_nil_of_length_eq_zero h2;subst hy0;exact ⟨none, 0, h1, fun h => absurd rfl h⟩
    · refine ⟨_, _, h1, fun _ => ⟨_, rfl, fun j u hu => ?_⟩⟩
      have hadd : (⟨g2, 0, none⟩ : Addr).add j = ⟨g2, j, none⟩ := by unfold Addr.add; split <;> simp_all
      rw [hadd];rw [← h7, List.getElem?_take] at hu;split at hu
      · simp only [World.cell?, h3];rw [← Array.getElem?_toList]; simpa using hu
      · cases hu
  subst hv2
  have key : ∃ (r : Int) (w' : World) (us' : Array Value), (Builtin.copy_ #[t1, t2] o3.type #[.slice (some ⟨g, 0, none⟩) N N, .slice B ys.length cB]).run P w = .ok (goInt r) w' ∧ w'.os = w.os ∧ w'.tape = w.tape ∧ (w'.output = w.output ∧ w.drawn ≤ w'.drawn) ∧ w'.heap.size = w.heap.size ∧
      (∀ j, j ≠ g → w'.heap[j]? = w.heap[j]?) ∧ w'.heap[g]? = some (.cells us' bt (0, 0)) ∧ RepL hp β (ys.flatMap enc ++ cs.drop ys.length) us'.toList := by
    by_cases hy0 : ys = []
    · subst hy0;exact ⟨0, w, us, run_copy_none w t1 t2 o3.type e _ B N N 0 cB hu1 his (by simp [Nat.min_def]), rfl, rfl, ⟨rfl, Nat.le_refl _⟩, rfl, fun _ _ => rfl, hh, by simpa using hr⟩
    · have hyp : 0 < ys.length := List.length_pos_iff.2 hy0;obtain ⟨adB, eB, hcl⟩ := hcells hy0;subst eB;have hmn : Nat.min ys.length N = min ys.length N := rfl
      have hnl : vals.length = Nat.min ys.length N := by rw [hvl, hmn]; omega
      have hrun := run_copy_row (P := P) w t1 t2 o3.type e g 0 N N adB ys.length cB us bt vals hu1 his hh hnl (fun j u hu => by
        exact hcl j u hu) (by rw [hnl, hmn]; omega) (flat_one hone _ vals hrv)
      refine ⟨_, w.setRow g (us.toList.take 0 ++ vals ++ us.toList.drop (0 + vals.length)).toArray, _, hrun, rfl, rfl, ⟨rfl, Nat.le_refl _⟩, by simp, fun j hj => setRow_other w g j _ (fun q => hj q), setRow_heap w g us _ bt _ hh, ?_⟩;simp only [List.take_zero, List.nil_append, Nat.zero_add];rw [show vals.length = ys.length by rw [hnl, hmn]; omega];exact (hrv.mono (Hp.le.refl _) (noB_le β)).append (hr.drop _)
  obtain ⟨r, w', us', hrun, q1, q2, q3, q4, q5, q6, q7⟩ := key
  have hex : (execOp ((a.put (some d1) (.slice (some ⟨g, 0, none⟩) N N)).put (some d2) (.slice B ys.length cB)).eval o3).run P w = .ok (.value (goInt r)) w' := by
    simp only [execOp, h3, resolve, invoke, builtin, Sem.run_bind, Sem.run_pure, Result.andThen, List.map_toArray, List.map_cons, List.map_nil, ev1, ev2];rw [show (Builtin.copy_ { toList := [t1, t2] } o3.type { toList := [.slice (some ⟨g, 0, none⟩) N N, .slice B ys.length cB] }).run P w = .ok (goInt r) w' from hrun]
  unfold Oper.wp;rw [hex];simp only [Oper.upon, e3, wpOps];exact ⟨_, hp, β, k2.setbox (B' := .cells (ys.flatMap enc ++ cs.drop ys.length) bt) (w' := w') hb3 q1 q2 q3 q4 (fun j hj => q5 j (fun q => hj (by simp [b1, blk, q]))) ⟨g, us', b1, q6, q7, hnone⟩ ⟨g, by simp [b1, blk]⟩ (some d3) (fun t ht => by injection ht with ht; subst ht; exact ltOf l3) (v := .any) (u := goInt r) (by simp only [Rep]) [b], q⟩
end
end Go.AL
/- Parts of rows: a row cut; a part of a row that is written through. -/
namespace Go.AL
section
variable {P : Program} {tab : Tab} {n : Nat} {o : Oper} {s : St}
/-- The address of an element of a part of a row. -/
theorem OpJ.selem (ht : TabOk P tab) (hd : ∀ d, o.dst = some d → d < n) {t : TypeId} {x y : Operand} (hop : o.op = .indexAddr t x y) {e : TypeId} {i : TI} {sz' by' : Nat} {z : List Value} (hts : tab t = some ⟨.slice e, sz', by', z⟩) (hti : tab e = some i) (hi1 : i.size = 1)
    {b : Id} {off len : Nat} (hx : opd s x = .sub b off len) {k : IntKind} {m : Int} (hy : opd s y = .v (.int k m)) (h0 : 0 ≤ m) (h1 : m < len) :
    OpJ P n o s ⟨.rptr b (off + m.toNat), [], [], [], []⟩ := by
  refine OpJ.of_run hd fun C s' a w h β ho hbs q => ?_;have hxr := opd_rep q x;have hyr := opd_rep q y;rw [ho x (by simp [hop, Op.operands]), hx] at hxr;rw [ho y (by simp [hop, Op.operands]), hy] at hyr;simp only [Rep] at hxr hyr;obtain ⟨g, m0, c0, c', e1, e2⟩ := hxr;have hu := (ht _ _ hts).und;simp only at hu;refine ⟨.pointer (some ((⟨g, off, none⟩ : Addr).add (m.toNat * i.size))), ?_, ?_⟩
  · simp only [execOp, hop, hyr, e2, Instr.indexAt, asIntOf, Sem.run_bind, Sem.run_pure, Result.andThen, run_underlying hu];rw [if_pos ⟨h0, h1⟩];simp only [Sem.run_bind, size_ok (ht _ _ hti), Result.andThen, Sem.run_pure]
  · simp only [Rep];refine ⟨g, _, _, e1, ?_⟩;rw [hi1, Nat.mul_one];unfold Addr.add;split <;> simp_all
variable {ops : Array Oper} {draw : Dr} {l : List Oper} {acc : List Eff} {K : Exit → St → Prop}
theorem Fl.sel [f : Facts P tab] {t : TypeId} {x y : Operand} (hop : o.op = .indexAddr t x y) {b : Id} {off len : Nat} (hx : opd s x = .sub b off len) {k : IntKind} {m : Int} (hy : opd s y = .v (.int k m)) {e : TypeId} {i : TI} {sz' by' : Nat} {z : List Value} (hts : tab t = some ⟨.slice e, sz', by', z⟩) (hti : tab e = some i) (hi1 : Nat.beq i.size 1 = true) (hg : gOk ops s o = true) (hd : dOk n o.dst = true) (h0 : 0 ≤ m) (h1 : m < len)
    (r : Fl P n ops draw l ((Eff.mk (.rptr b ((off + m.toNat) * 1)) [] [] [] []).app o.dst s) (Eff.mk (.rptr b ((off + m.toNat) * 1)) [] [] [] [] :: acc) K) : Fl P n ops draw (o :: l) s acc K :=
  Fl.opv hg (by rw [Nat.mul_one]; exact OpJ.selem f.tabOk (dOk_lt hd) hop hts hti (Nat.eq_of_beq_eq_true hi1) hx hy h0 h1) r
/-- 's[i:j]', s a row of one cell an element -/
theorem Fl.subR [f : Facts P tab] {t : TypeId} {x y z : Operand} (hop : o.op = .slice t x (some y) (some z) none) {b : Id} (hx : opd s x = .row b) {α : Type} {enc : α → List AV} {xs : List α} {bt : TypeId} (hb : s.bx b = some (.row 1 enc xs bt)) {e : TypeId} {i : TI} {sz' by' : Nat} {z' : List Value} (hts : tab t = some ⟨.slice e, sz', by', z'⟩) (hti : tab e = some i) (hi1 : Nat.beq i.size 1 = true)
    {k k' : IntKind} {m m' : Int} (hy : opd s y = .v (.int k m)) (hz : opd s z = .v (.int k' m')) (h0 : 0 ≤ m) (h1 : m < m') (h2 : m' ≤ xs.length) {off len : Nat} (ho : off = m.toNat) (hl : len = m'.toNat - m.toNat) (hg : gOk ops s o = true) (hd : dOk n o.dst = true)
    (r : Fl P n ops draw l ((Eff.mk (.sub b off len) [] [] [] [b]).app o.dst s) (Eff.mk (.sub b off len) [] [] [] [b] :: acc) K) : Fl P n ops draw (o :: l) s acc K := by
  have hi1 := Nat.eq_of_beq_eq_true hi1;subst ho hl;refine Fl.opv hg (OpJ.of_run (dOk_lt hd) fun C s' a w h β ho hbs q => ?_) r;have hxr := opd_rep q x;have hyr := opd_rep q y;have hzr := opd_rep q z;rw [ho x (by simp [hop, Op.operands]), hx] at hxr;rw [ho y (by simp [hop, Op.operands]), hy] at hyr;rw [ho z (by simp [hop, Op.operands]), hz] at hzr;simp only [Rep] at hxr hyr hzr;obtain ⟨e1, A, m0, c0, e2⟩ := hxr;obtain ⟨v, vals, e3, hown, _⟩ := q.box b _ ((hbs b (by simp)).trans hb);rw [e1] at e3; injection e3 with e3;have hu := (f.tabOk _ _ hts).und;simp only at hu;rcases hown.2 with ⟨rfl, hn⟩ | ⟨g, cap, cur, rfl, _, hh, hc1, hc2, hc3, hc4⟩
  · omega
  · refine ⟨.slice (some ⟨g, m.toNat, none⟩) (m'.toNat - m.toNat) (cap - m.toNat), ?_, ?_⟩
    · have b1 := run_sliceBound (P := P) w k' m' cap .sliceAcap (by omega) (by omega);have b2 := run_sliceBound (P := P) w k m m'.toNat .sliceB h0 (by omega)
      have hne : ¬ cap = m.toNat := by omega
      have hadd : (⟨g, 0, none⟩ : Addr).add m.toNat = ⟨g, m.toNat, none⟩ := by unfold Addr.add; split <;> simp_all
      simp only [execOp, hop, e3, hyr, hzr, Option.map_some, Option.map_none, Instr.sliceAt, Sem.run_bind, run_underlying hu, Result.andThen, Instr.slice, Instr.sliceBounds, if_true, Sem.run_pure, b1, b2, Option.isSome_none, Bool.false_eq_true, if_false, size_ok (f.tabOk _ _ hti), if_neg hne, hi1, Nat.mul_one, hadd]
    · simp only [Rep];exact ⟨g, _, _, _, e1.trans (by rw [e3]), rfl⟩
/-- 's[:j]', s a row of one cell an element: it goes on, shorter -/
theorem Fl.cutR [f : Facts P tab] {t : TypeId} {x z : Operand} (hop : o.op = .slice t x none (some z) none) {b : Id} (hx : opd s x = .row b) {α : Type} {enc : α → List AV} {xs : List α} {bt : TypeId} (hb : s.bx b = some (.row 1 enc xs bt)) {e : TypeId} {i : TI} {sz' by' : Nat} {z' : List Value} (hts : tab t = some ⟨.slice e, sz', by', z'⟩) (hti : tab e = some i) (hi1 : Nat.beq i.size 1 = true)
    {k' : IntKind} {m : Int} (hz : opd s z = .v (.int k' m)) (h0 : 0 ≤ m) (h2 : m ≤ xs.length) (hg : gOk ops s o = true) {d : Tmp} (hdst : o.dst = some d) (hd : Nat.blt d n = true) (hn : s.al d = false)
    (r : Fl P n ops draw l ((Eff.mk (.row d) [(d, .row 1 enc (xs.take m.toNat) bt)] [b] [d] [b]).app o.dst s) (Eff.mk (.row d) [(d, .row 1 enc (xs.take m.toNat) bt)] [b] [d] [b] :: acc) K)
    (hJ : presOk draw.J (Eff.mk (.row d) [(d, .row 1 enc (xs.take m.toNat) bt)] [b] [d] [b]) := by repeat' (first | exact True.intro | exact rfl | refine ⟨?_, ?_⟩ | fail)) : Fl P n ops draw (o :: l) s acc K := by
  have hi1 := Nat.eq_of_beq_eq_true hi1;refine Fl.op hg ⟨fun t ht => (by rw [hdst] at ht; injection ht with ht; subst ht; exact ltOf hd), fun C s' a w h β Q K hs hbs hal q hK => ?_⟩ (newOk1 hn) hJ r;have same : ∀ q : Operand, q ∈ o.op.operands → opd s' q = opd s q := fun q hq => opd_tmp fun t ht => hs t (by rw [← ht]; exact hq);have hb' : s'.bx b = some (.row 1 enc xs bt) := (hbs b (by simp [Eff.ts])).trans hb;have hxr := opd_rep q x;have hzr := opd_rep q z;rw [same x (by simp [hop, Op.operands]), hx] at hxr;rw [same z (by simp [hop, Op.operands]), hz] at hzr;simp only [Rep] at hxr hzr;obtain ⟨e1, A, m0, c0, e2⟩ := hxr;obtain ⟨v, vals, e3, hown, hvr, hel, hno⟩ := q.box b _ hb';rw [e1] at e3; injection e3 with e3;have hu := (f.tabOk _ _ hts).und;simp only at hu;have hbk := blk_own hown
  have key : ∃ v', (execOp a.eval o).run P w = .ok (.value v') w ∧ w.ownsRow 0 bt 1 v' (xs.take m.toNat).length (vals.take m.toNat) ∧ v'.ownBlock = v.ownBlock := by
    have hml : (xs.take m.toNat).length = m.toNat := by rw [List.length_take]; omega
    rw [hml]
    have hvl : (vals.take m.toNat).length = m.toNat * 1 := by rw [List.length_take, hown.1]; omega
    rcases hown.2 with ⟨rfl, hn0⟩ | ⟨g, cap, cur, rfl, hb0, hh, hc1, hc2, hc3, hc4⟩
    · have hm0 : m.toNat = 0 := by omega
      refine ⟨.slice none 0 0, ?_, ⟨hvl, .inl ⟨rfl, hm0⟩⟩, rfl⟩;have b1 := run_sliceBound (P := P) w k' m 0 .sliceAcap (by omega) (by omega);rw [hm0] at b1;simp only [execOp, hop, e3, hzr, Option.map_some, Option.map_none, Instr.sliceAt, Sem.run_bind, run_underlying hu, Result.andThen, Instr.slice, Instr.sliceBounds, if_true, Sem.run_pure, b1, Option.isSome_none, Bool.false_eq_true, if_false, size_ok (f.tabOk _ _ hti), Nat.sub_self]
    · refine ⟨.slice (some ⟨g, 0, none⟩) m.toNat cap, ?_, ⟨hvl, .inr ⟨g, cap, cur, rfl, hb0, hh, by omega, hc2, hc3, ?_⟩⟩, rfl⟩
      · have b1 := run_sliceBound (P := P) w k' m cap .sliceAcap (by omega) (by omega)
        have hadd : (⟨g, 0, none⟩ : Addr).add (0 * i.size) = ⟨g, 0, none⟩ := by rw [Nat.zero_mul]; unfold Addr.add; split <;> simp_all
        simp only [execOp, hop, e3, hzr, Option.map_some, Option.map_none, Instr.sliceAt, Sem.run_bind, run_underlying hu, Result.andThen, Instr.slice, Instr.sliceBounds, if_true, Sem.run_pure, b1, Option.isSome_none, Bool.false_eq_true, if_false, size_ok (f.tabOk _ _ hti), Nat.sub_zero, hadd];split <;> rfl
      · rw [← hc4, List.take_take];congr 1;omega
  obtain ⟨v', hrun, hown', hob⟩ := key;unfold Oper.wp;rw [hrun];simp only [Oper.upon];refine hK _ _ h (β.set d v') ?_;rw [hdst];refine q.turnbox hb' (hal d (by simp)) rfl rfl ⟨rfl, Nat.le_refl _⟩ (Nat.le_refl _) (fun j hj hne => rfl) ?_ ?_ (some d) (fun t ht => by injection ht with ht; subst ht; exact ltOf hd) ?_ [b]
  · refine ⟨v', vals.take m.toNat, Bt.set_same _ _ _, hown', ?_, fun x hx => hel x (List.mem_of_mem_take hx), fun g hg => hno g (by rw [← hob]; exact hg)⟩
    have hsp : xs.flatMap enc = (xs.take m.toNat).flatMap enc ++ (xs.drop m.toNat).flatMap enc := by rw [← List.flatMap_append, List.take_append_drop]
    have hfl : ∀ (ys : List α), (∀ y ∈ ys, (enc y).length = 1) → (ys.flatMap enc).length = ys.length := by
      intro ys
      induction ys with
      | nil => intro _; rfl
      | cons y ys ih => intro hy; rw [List.flatMap_cons, List.length_append, hy y (by simp), ih (fun z hz => hy z (by simp [hz])), List.length_cons]; omega
    rw [hsp] at hvr;have := hvr.split.1;rwa [hfl _ (fun x hx => hel x (List.mem_of_mem_take hx)), List.length_take, Nat.min_eq_left (by omega)] at this
  · intro g hg;rw [blk_own hown'] at hg;left;rw [e1, e3, hbk, ← hob];exact hg
  · simp only [Rep];refine ⟨Bt.set_same _ _ _, ?_⟩;rcases hown'.2 with ⟨h1, _⟩ | ⟨g, cap, cur, h1, _⟩
    · exact ⟨_, _, _, h1⟩
    · exact ⟨_, _, _, h1⟩
end
end Go.AL
/- large.digit: a digit of a quotient. -/
namespace Go.AL
theorem get_part {α : Type} {A M C : List α} {k j : Nat} (hk : k = A.length + j) (hj : j < M.length) : (A ++ M ++ C)[k]? = M[j]? := by
  subst hk;rw [List.append_assoc, List.getElem?_append_right (by omega), Nat.add_sub_cancel_left, List.getElem?_append_left hj]
theorem set_part {α : Type} {A M C : List α} {k j : Nat} {w : α} (hk : k = A.length + j) (hj : j < M.length) : (A ++ M ++ C).set k w = A ++ M.set j w ++ C := by
  subst hk;rw [List.append_assoc, List.set_append_right _ _ (by omega), Nat.add_sub_cancel_left, List.set_append_left _ _ hj, List.append_assoc]
/-- what the words of a division's step are like -/
structure DigOk (m : Nat) (mid v : List Int) : Prop where
  hm : mid.length = m + 3
  hv : v.length = m + 2
  wm : WOk mid
  wv : WOk v
  top : ∀ x, v[m + 1]? = some x → 2147483648 ≤ x
  lt : val mid < 4294967296 * val v
  big : m ≤ 50000
theorem DigOk.pos {m : Nat} {mid v : List Int} (d : DigOk m mid v) : BB (m + 1) ≤ val v ∧ val v < BB (m + 2) := by
  obtain ⟨x, hx⟩ : ∃ x, v[m + 1]? = some x := ⟨_, List.getElem?_eq_getElem (by have := d.hv; omega)⟩;have h1 := d.top x hx;have h2 := val_top hx;rw [show m + 1 + 1 = v.length by have := d.hv; omega, List.take_length] at h2;have h3 := val_bounds (k := m + 1) d.wv (by have := d.hv; omega);have h4 := val_lt d.wv;rw [d.hv] at h4;refine ⟨?_, h4⟩;have : BB (m + 1) * 1 ≤ BB (m + 1) * x := Int.mul_le_mul_of_nonneg_left (by omega) (Int.le_of_lt (BB_pos _));omega
theorem DigOk.facts {m : Nat} {mid v : List Int} (d : DigOk m mid v) {un u1 u2 v1 v2 : Int} (e0 : mid[m + 2]? = some un) (e1 : mid[m + 1]? = some u1) (e2 : mid[m]? = some u2) (f1 : v[m + 1]? = some v1) (f2 : v[m]? = some v2) :
    un ≤ v1 ∧ un * 4294967296 + u1 < v1 * 4294967296 + 4294967296 := by
  obtain ⟨a, b, c, e⟩ := dig_facts d.hm d.hv d.wm d.wv e0 e1 e2 f1 f2;have h := d.lt;have w2 := d.wv.get f2;have wu1 := d.wm.get e1;have wu2 := d.wm.get e2;have hB := BB_pos m
  have h1 : ((un * 4294967296 + u1) * 4294967296 + u2) * BB m < (4294967296 * (v1 * 4294967296 + v2 + 1)) * BB m := by
    have : 4294967296 * val v < 4294967296 * ((v1 * 4294967296 + v2 + 1) * BB m) := by omega
    have e3 : (4294967296 * (v1 * 4294967296 + v2 + 1)) * BB m = 4294967296 * ((v1 * 4294967296 + v2 + 1) * BB m) := by grind
    rw [e3]; omega
  have h2 := Int.lt_of_mul_lt_mul_right h1 (by omega);omega
/-- the estimate's loop -/
theorem DigOk.down {m : Nat} {mid v : List Int} (d : DigOk m mid v) {un u1 u2 v1 v2 q r : Int} (e0 : mid[m + 2]? = some un) (e1 : mid[m + 1]? = some u1) (e2 : mid[m]? = some u2) (f1 : v[m + 1]? = some v1) (f2 : v[m]? = some v2)
    (hqr : q * v1 + r = un * 4294967296 + u1) (hr : 0 ≤ r) (hq : 0 ≤ q) (h : 4294967296 ≤ q ∨ r * 4294967296 + u2 < q * v2) : val mid / val v ≤ q - 1 := by
  obtain ⟨a, b, c, e⟩ := dig_facts d.hm d.hv d.wm d.wv e0 e1 e2 f1 f2;have hp := d.pos;have hV : 0 < val v := Int.lt_of_lt_of_le (BB_pos _) hp.1;obtain ⟨s1, s2, s3, s4⟩ := quo_spec hV (val_nonneg d.wm);have hQ : val mid / val v < 4294967296 := Int.ediv_lt_of_lt_mul hV d.lt;have w1 := d.top _ f1;have w2 := d.wv.get f2;exact kn_step (un := un) hqr hr (BB_pos m) a e s1 hQ hV (by omega) w2.1 hq h
theorem DigOk.stop {m : Nat} {mid v : List Int} (d : DigOk m mid v) {un u1 u2 v1 v2 q r : Int} (e0 : mid[m + 2]? = some un) (e1 : mid[m + 1]? = some u1) (e2 : mid[m]? = some u2) (f1 : v[m + 1]? = some v1) (f2 : v[m]? = some v2)
    (hqr : q * v1 + r = un * 4294967296 + u1) (hr : 0 ≤ r) (hq : 0 ≤ q) (h : (q < 4294967296 ∧ q * v2 ≤ r * 4294967296 + u2) ∨ 4294967296 ≤ r) : q < 4294967296 ∧ q ≤ val mid / val v + 1 := by
  obtain ⟨a, b, c, e⟩ := dig_facts d.hm d.hv d.wm d.wv e0 e1 e2 f1 f2;have hf := d.facts e0 e1 e2 f1 f2;have hp := d.pos;have hV : 0 < val v := Int.lt_of_lt_of_le (BB_pos _) hp.1;obtain ⟨s1, s2, s3, s4⟩ := quo_spec hV (val_nonneg d.wm);have w1 := d.top _ f1;have w2 := d.wv.get f2;have wu2 := d.wm.get e2
  have hVB : 4294967296 * BB m ≤ val v := by rw [← BB_succ]; exact hp.1
  have key : q < 4294967296 ∧ q * v2 ≤ r * 4294967296 + u2 := by
    rcases h with h | h
    · exact h
    · have hq2 : q < 4294967296 := by
        rcases Int.lt_or_le q 4294967296 with h1 | h1
        · exact h1
        · have : 4294967296 * v1 ≤ q * v1 := Int.mul_le_mul_of_nonneg_right h1 (by omega);omega
      have h3 : q * v2 ≤ 4294967295 * v2 := Int.mul_le_mul_of_nonneg_right (by omega) w2.1;exact ⟨hq2, by omega⟩
  exact ⟨key.1, kn_stop hqr (BB_pos m) b hVB c s2 hV hq key.1 key.2 s3⟩
end Go.AL
/- large.digit: the walk. -/
namespace Go.AL
theorem dig_back {Bm s h t : Int} (hB : 0 < Bm) (e : h + Bm * s = t + 4294967296 * Bm) (h0 : 0 ≤ h) (h1 : h < Bm) (t0 : 0 ≤ t) (t1 : t < Bm) : s = 4294967296 ∧ h = t := by
  have hs : s = 4294967296 := by
    rcases Int.lt_trichotomy s 4294967296 with k | k | k
    · have : Bm * s ≤ Bm * 4294967295 := Int.mul_le_mul_of_nonneg_left (by omega) (by omega);omega
    · exact k
    · have : Bm * 4294967297 ≤ Bm * s := Int.mul_le_mul_of_nonneg_left (by omega) (by omega);omega
  exact ⟨hs, by rw [hs] at e; omega⟩
end Go.AL
namespace Go.Proofs.YtcaecieigoplbaaGreat
open Go.AL

set_option maxHeartbeats 1000000 in
theorem digit_ok (m : Nat) (A mid C v : List Int) (d : DigOk m mid v) (wA : WOk A) (wC : WOk C) (hA : A.length ≤ 100000) (hC : C.length ≤ 100000) : IoFn Tryz.prog 213 [.sub 900 A.length mid.length, aW v] [(900, .row 1 eW (A ++ mid ++ C) 62)] (.ret (.v (.int .u32 (val mid / val v)))) [(900, .row 1 eW (A ++ wdW mid.length (val mid % val v) ++ C) 62)] := by
  refine IoFn.of_body Tryz.func213 rfl Tryz.ntmps213 rfl rfl rfl ?_;have hm := d.hm;have hv := d.hv;have hbig := d.big;have wv := d.wv;have wW : WOk (A ++ mid ++ C) := (wA.append d.wm).append wC;obtain ⟨un, e0⟩ : ∃ x, mid[m + 2]? = some x := ⟨_, List.getElem?_eq_getElem (by omega)⟩;obtain ⟨u1, e1⟩ : ∃ x, mid[m + 1]? = some x := ⟨_, List.getElem?_eq_getElem (by omega)⟩;obtain ⟨u2, e2⟩ : ∃ x, mid[m]? = some x := ⟨_, List.getElem?_eq_getElem (by omega)⟩;obtain ⟨v1, f1⟩ : ∃ x, v[m + 1]? = some x := ⟨_, List.getElem?_eq_getElem (by omega)⟩;obtain ⟨v2, f2⟩ : ∃ x, v[m]? = some x := ⟨_, List.getElem?_eq_getElem (by omega)⟩;have b0 := d.wm.get e0;have b1 := d.wm.get e1;have b2 := d.wm.get e2;have c1 := d.wv.get f1;have c2 := d.wv.get f2;have c3 := d.top _ f1;have hf := d.facts e0 e1 e2 f1 f2;refine AWP.seqS ?_;(repeat' (first |refine Fl.v rfl rfl rfl ?_ |refine Fl.nilF ?_ |refine AWP.region ?_));refine ⟨AWP.seqS ?_⟩;(repeat' (first |refine Fl.v rfl rfl rfl ?_ |refine Fl.nilF ?_ |refine AWP.region ?_));refine ⟨?_⟩;refine AWP.seqJ (G := Unit) (fun _ => True) (fun _ => St.of [900] [(0, .sub 900 A.length mid.length), (1, aW v), (5, aN (m + 2)), (6, aU (un * 4294967296 + u1))] [(900, .row 1 eW (A ++ mid ++ C) 62)]) ?_ ?_
  · (repeat' (first |refine Fl.v rfl rfl rfl ?_ |refine Fl.nil (fun _ => by kernel_rfl) ?_ |refine AWP.region ?_ |refine Fl.w rfl rfl rfl (by first | exact True.intro | omega) ?_ |refine Fl.sel rfl rfl rfl rfl rfl rfl rfl rfl (by omega) (by omega) ?_ |(refine Fl.rldW rfl rfl rfl rfl rfl rfl rfl (fun _ => rfl) (fun _ => rfl) (by first | omega | (simp; omega)) (by assumption) ?_; intro _ _ _ _)|fail));rename_i x hx hx0 hx1 y hy hy0 hy1;rw [get_part (j := m + 2) (by omega) (by omega), e0] at hx;rw [get_part (j := m + 1) (by omega) (by omega), e1] at hy;injection hx with hx;injection hy with hy;subst hx hy;refine JoinOk.of () trivial ?_;refine Ent.of [] ?_ ?_ rfl rfl;(repeat' (first |exact True.intro |refine ⟨⟨AV.Le.refl _, rfl⟩, ?_⟩ |refine ⟨⟨⟨_, rfl, BLe.row rfl⟩, rfl⟩, ?_⟩ |refine ⟨⟨AV.Le.int ?_, rfl⟩, ?_⟩|fail))
    · omega
    · rw [p32];exact or_low hx0 hx1 hy0 hy1
  intro _ _
  have f1' : v[((m : Int) + 2 - 1).toNat]? = some v1 := by rw [show ((m : Int) + 2 - 1).toNat = m + 1 by omega]; exact f1
  have f2' : v[((m : Int) + 2 - 2).toNat]? = some v2 := by rw [show ((m : Int) + 2 - 2).toNat = m by omega]; exact f2
  refine AWP.seqJ (G := Unit) (fun _ => True) (fun _ => St.of [900] [(0, .sub 900 A.length mid.length), (1, aW v), (5, aN (m + 2)), (7, aU ((un * 4294967296 + u1) / v1)), (8, aU ((un * 4294967296 + u1) % v1))] [(900, .row 1 eW (A ++ mid ++ C) 62)]) ?_ ?_
  · (repeat' (first |refine Fl.v rfl rfl rfl ?_ |refine Fl.nil (fun _ => by kernel_rfl) ?_ |refine AWP.region ?_ |refine Fl.w rfl rfl rfl (by first | exact True.intro | omega) ?_ |refine Fl.w rfl rfl rfl ⟨by omega, by omega, by dsimp only [hiK]; omega⟩ ?_ |refine Fl.elK rfl rfl rfl rfl rfl rfl rfl rfl (by assumption) (by omega) ?_|fail));refine JoinOk.of () trivial ?_;refine Ent.of [] ?_ ?_ rfl rfl;(repeat' (first |exact True.intro |refine ⟨⟨AV.Le.refl _, rfl⟩, ?_⟩ |refine ⟨⟨⟨_, rfl, BLe.row rfl⟩, rfl⟩, ?_⟩|fail))
  intro _ _;obtain ⟨q0, hq0⟩ : ∃ q, q = (un * 4294967296 + u1) / v1 := ⟨_, rfl⟩;obtain ⟨r0, hr0⟩ : ∃ r, r = (un * 4294967296 + u1) % v1 := ⟨_, rfl⟩;have hdm := Int.mul_ediv_add_emod (un * 4294967296 + u1) v1;have hm0 := Int.emod_nonneg (un * 4294967296 + u1) (show v1 ≠ 0 by omega);have hm1 := Int.emod_lt_of_pos (un * 4294967296 + u1) (show 0 < v1 by omega);have hqn : 0 ≤ (un * 4294967296 + u1) / v1 := Int.ediv_nonneg (by omega) (by omega)
  have hqb : (un * 4294967296 + u1) / v1 ≤ 8589934592 := by
    rcases Int.lt_or_le 8589934592 ((un * 4294967296 + u1) / v1) with h | h
    · have : v1 * 8589934593 ≤ v1 * ((un * 4294967296 + u1) / v1) := Int.mul_le_mul_of_nonneg_left (by omega) (by omega);omega
    · exact h
  rw [← hq0] at hdm hqn hqb;rw [← hr0] at hdm hm0 hm1;rw [Int.mul_comm] at hdm;have hp := d.pos;have hV : 0 < val v := Int.lt_of_lt_of_le (BB_pos _) hp.1;have hU := val_nonneg d.wm
  have hQ0 : val mid / val v ≤ q0 := by
    obtain ⟨a, b, c, e⟩ := dig_facts d.hm d.hv d.wm d.wv e0 e1 e2 f1 f2;obtain ⟨s1, s2, s3, s4⟩ := quo_spec hV hU;have hB := BB_pos m
    have t1 : val mid / val v * ((v1 * 4294967296) * BB m) ≤ val mid / val v * val v := Int.mul_le_mul_of_nonneg_left (by
      have : v1 * 4294967296 * BB m ≤ (v1 * 4294967296 + v2) * BB m := Int.mul_le_mul_of_nonneg_right (by omega) (by omega)
      omega) s3
    have t2 : ((un * 4294967296 + u1) * 4294967296 + u2 + 1) * BB m ≤ ((un * 4294967296 + u1 + 1) * 4294967296) * BB m := Int.mul_le_mul_of_nonneg_right (by omega) (by omega)
    have t3 : (val mid / val v * v1) * (4294967296 * BB m) < (un * 4294967296 + u1 + 1) * (4294967296 * BB m) := by
      have g1 : (val mid / val v * v1) * (4294967296 * BB m) = val mid / val v * ((v1 * 4294967296) * BB m) := by grind
      have g2 : (un * 4294967296 + u1 + 1) * (4294967296 * BB m) = ((un * 4294967296 + u1 + 1) * 4294967296) * BB m := by grind
      rw [g1, g2]; omega
    have t4 := Int.lt_of_mul_lt_mul_right t3 (by omega);rw [hq0];exact Int.le_ediv_of_mul_le (by omega) (by omega)
  refine AWP.seqJ (G := Int) (fun q => val mid / val v ≤ q ∧ q ≤ val mid / val v + 1 ∧ 0 ≤ q ∧ q < 4294967296) (fun q => St.of [900] [(0, .sub 900 A.length mid.length), (1, aW v), (5, aN (m + 2)), (7, aU q)] [(900, .row 1 eW (A ++ mid ++ C) 62)]) ?_ ?_
  · refine AWP.block ?_;refine AWP.loop (G := Int × Int) (fun (q, r) => q * v1 + r = un * 4294967296 + u1 ∧ 0 ≤ r ∧ r < 4294967296 ∧ 0 ≤ q ∧ q ≤ 8589934592 ∧ val mid / val v ≤ q) (fun (q, r) => St.of [900] [(0, .sub 900 A.length mid.length), (1, aW v), (5, aN (m + 2)), (7, aU q), (8, aU r)] [(900, .row 1 eW (A ++ mid ++ C) 62)]) (fun (q, r) => q.toNat) (q0, r0) ⟨hdm, hm0, by omega, hqn, hqb, hQ0⟩ ?_ ?_
    · refine Ent.of [] ?_ ?_ rfl rfl;(repeat' (first |exact True.intro |refine ⟨⟨AV.Le.refl _, rfl⟩, ?_⟩ |refine ⟨⟨⟨_, rfl, BLe.row rfl⟩, rfl⟩, ?_⟩ |refine ⟨⟨AV.Le.int ?_, rfl⟩, ?_⟩|fail))
      · exact hq0.symm
      · exact hr0.symm
    · intro ⟨q, r⟩ ⟨g0, g1, g2, g3, g4, g5⟩;refine AWP.seq ?_;(repeat' (first |refine Fl.v rfl rfl rfl ?_ |refine Fl.nilF ?_ |refine Fl.nil (fun _ => by kernel_rfl) ?_ |refine AWP.seq ?_ |refine AWP.region ?_ |refine Fl.w rfl rfl rfl (by first | exact True.intro | omega) ?_ |refine Fl.skip rfl rfl ?_ |refine AWP.condT rfl ?_ |(refine AWP.condD rfl ?_ ?_ <;> intro _ <;> try (exfalso; omega)) |(refine AWP.condN rfl ?_ ?_ <;> intro _ <;> try (exfalso; omega)) |refine AWP.block ?_ |refine AWP.skip ?_ |refine AWP.exit ?_ |refine Fl.elK rfl rfl rfl rfl rfl rfl rfl rfl (by assumption) (by omega) ?_ |refine Fl.sel rfl rfl rfl rfl rfl rfl rfl rfl (by omega) (by omega) ?_ |(refine Fl.rldW rfl rfl rfl rfl rfl rfl rfl (fun _ => rfl) (fun _ => rfl) (by first | omega | (simp; omega)) (by assumption) ?_; intro _ _ _ _) |refine Fl.sumM rfl rfl rfl rfl rfl rfl ?_ |(refine Fl.splitN rfl rfl ?_ ?_ <;> intro _ <;> try (exfalso; omega))))
      · rename_i h1 h2;rw [p32] at h1 h2;have hq := d.down e0 e1 e2 f1 f2 g0 g1 g3 (.inl (by omega));have hs := d.stop (q := q - 1) (r := r + v1) e0 e1 e2 f1 f2 (by rw [Int.sub_mul]; omega) (by omega) (by omega) (.inr (by omega));refine JoinOk.of (q - 1) ⟨hq, hs.2, by omega, hs.1⟩ ?_;refine Ent.of [] ?_ ?_ rfl rfl;(repeat' (first |exact True.intro |refine ⟨⟨AV.Le.refl _, rfl⟩, ?_⟩ |refine ⟨⟨⟨_, rfl, BLe.row rfl⟩, rfl⟩, ?_⟩ |refine ⟨⟨AV.Le.int ?_, rfl⟩, ?_⟩|fail));omega
      · rename_i h1 h2;rw [p32] at h1 h2;have hq := d.down e0 e1 e2 f1 f2 g0 g1 g3 (.inl (by omega));refine LoopEnd.of (q - 1, r + v1) ⟨by rw [Int.sub_mul]; omega, by omega, by omega, by omega, by omega, hq⟩ (by simp only; omega) ?_;refine Ent.of [] ?_ ?_ rfl rfl;(repeat' (first |exact True.intro |refine ⟨⟨AV.Le.refl _, rfl⟩, ?_⟩ |refine ⟨⟨⟨_, rfl, BLe.row rfl⟩, rfl⟩, ?_⟩ |refine ⟨⟨AV.Le.int ?_, rfl⟩, ?_⟩|fail));omega
      · rename_i h1 x hx hx0 hx1 h3 h2;rw [p32] at h1 h2 h3;rw [get_part (j := m) (by omega) (by omega), e2] at hx;injection hx with hx;subst hx;rw [or_low g1 g2 hx0 hx1] at h3;have hqv : 0 ≤ q * v2 := Int.mul_nonneg g3 c2.1;have hqv2 : q * v2 ≤ 4294967295 * v2 := Int.mul_le_mul_of_nonneg_right (by omega) c2.1;have hq := d.down e0 e1 e2 f1 f2 g0 g1 g3 (.inr (by omega));have hQ := (quo_spec hV hU).2.2.1;have hs := d.stop (q := q - 1) (r := r + v1) e0 e1 e2 f1 f2 (by rw [Int.sub_mul]; omega) (by omega) (by omega) (.inr (by omega));refine JoinOk.of (q - 1) ⟨hq, hs.2, by omega, hs.1⟩ ?_;refine Ent.of [] ?_ ?_ rfl rfl;(repeat' (first |exact True.intro |refine ⟨⟨AV.Le.refl _, rfl⟩, ?_⟩ |refine ⟨⟨⟨_, rfl, BLe.row rfl⟩, rfl⟩, ?_⟩ |refine ⟨⟨AV.Le.int ?_, rfl⟩, ?_⟩|fail));omega
      · rename_i h1 x hx hx0 hx1 h3 h2;rw [p32] at h1 h2 h3;rw [get_part (j := m) (by omega) (by omega), e2] at hx;injection hx with hx;subst hx;rw [or_low g1 g2 hx0 hx1] at h3;have hqv : 0 ≤ q * v2 := Int.mul_nonneg g3 c2.1;have hqv2 : q * v2 ≤ 4294967295 * v2 := Int.mul_le_mul_of_nonneg_right (by omega) c2.1;have hq := d.down e0 e1 e2 f1 f2 g0 g1 g3 (.inr (by omega));have hQ := (quo_spec hV hU).2.2.1;refine LoopEnd.of (q - 1, r + v1) ⟨by rw [Int.sub_mul]; omega, by omega, by omega, by omega, by omega, hq⟩ (by simp only; omega) ?_;refine Ent.of [] ?_ ?_ rfl rfl;(repeat' (first |exact True.intro |refine ⟨⟨AV.Le.refl _, rfl⟩, ?_⟩ |refine ⟨⟨⟨_, rfl, BLe.row rfl⟩, rfl⟩, ?_⟩ |refine ⟨⟨AV.Le.int ?_, rfl⟩, ?_⟩|fail));omega
      · rename_i h1 x hx hx0 hx1 h3;rw [p32] at h1 h3;rw [get_part (j := m) (by omega) (by omega), e2] at hx;injection hx with hx;subst hx;rw [or_low g1 g2 hx0 hx1] at h3;have hqv : 0 ≤ q * v2 := Int.mul_nonneg g3 c2.1;have hqv2 : q * v2 ≤ 4294967295 * v2 := Int.mul_le_mul_of_nonneg_right (by omega) c2.1;have hs := d.stop (q := q) (r := r) e0 e1 e2 f1 f2 g0 g1 g3 (.inl ⟨by omega, by omega⟩);refine JoinOk.of q ⟨g5, hs.2, g3, hs.1⟩ ?_;refine Ent.of [] ?_ ?_ rfl rfl;(repeat' (first |exact True.intro |refine ⟨⟨AV.Le.refl _, rfl⟩, ?_⟩ |refine ⟨⟨⟨_, rfl, BLe.row rfl⟩, rfl⟩, ?_⟩|fail))
  · intro q ⟨g0, g1, g2, g3⟩;refine AWP.seqS ?_;(repeat' (first |refine Fl.v rfl rfl rfl ?_ |refine Fl.nilF ?_ |refine AWP.region ?_));refine ⟨?_⟩;refine AWP.seqJ (G := List Int × Int) (fun (lo, b) => lo.length = m + 2 ∧ WOk lo ∧ 0 ≤ b ∧ b < 4294967296 ∧ val lo = val (mid.take (m + 2)) - q * val v + b * BB (m + 2)) (fun (lo, b) => St.of [900] [(0, .sub 900 A.length mid.length), (1, aW v), (5, aN (m + 2)), (7, aU q), (9, aU b)] [(900, .row 1 eW (A ++ (lo ++ mid.drop lo.length) ++ C) 62)]) ?_ ?_
    · (repeat' (first |refine Fl.v rfl rfl rfl ?_ |refine Fl.nilF ?_ |refine AWP.seq ?_ |refine AWP.region ?_ |refine AWP.block ?_));refine AWP.loop (G := List Int × Int) (fun (lo, b) => lo.length ≤ m + 2 ∧ WOk lo ∧ 0 ≤ b ∧ b < 4294967296 ∧ val lo = val (mid.take lo.length) - q * val (v.take lo.length) + b * BB lo.length) (fun (lo, b) => St.of [900] [(0, .sub 900 A.length mid.length), (1, aW v), (5, aN (m + 2)), (7, aU q), (9, aU b), (85, aW v), (86, aN v.length), (87, aN lo.length)] [(900, .row 1 eW (A ++ (lo ++ mid.drop lo.length) ++ C) 62)]) (fun (lo, b) => m + 2 - lo.length) ([], 0) ⟨by simp, WOk.nil, by omega, by omega, by simp [val]⟩ ?_ ?_
      · refine Ent.of [] ?_ ?_ rfl rfl;(repeat' (first |exact True.intro |refine ⟨⟨AV.Le.refl _, rfl⟩, ?_⟩ |refine ⟨⟨⟨_, rfl, BLe.row rfl⟩, rfl⟩, ?_⟩|fail))
      · intro ⟨lo, b⟩ ⟨k0, k1, k2, k3, k4⟩;have hW2 : WOk (A ++ (lo ++ mid.drop lo.length) ++ C) := (wA.append (k1.append (d.wm.drop _))).append wC
        have hml : (lo ++ mid.drop lo.length).length = mid.length := by rw [List.length_append, List.length_drop]; omega
        (repeat' (first |refine Fl.v rfl rfl rfl ?_ |refine Fl.nilF ?_ |refine AWP.seq ?_ |refine AWP.region ?_ |refine Fl.w rfl rfl rfl (by first | exact True.intro | omega) ?_ |(refine Fl.mulW rfl rfl rfl rfl rfl (by omega) (by omega) (by omega) (by omega) ?_; intro _ _) |(refine AWP.condD rfl ?_ ?_ <;> intro _ <;> try (exfalso; omega)) |refine AWP.block ?_ |refine AWP.skip ?_ |refine AWP.exit ?_ |(refine Fl.elW rfl rfl rfl rfl rfl rfl rfl rfl (by omega) (by omega) (by assumption) ?_; intro _ _ _ _) |refine Fl.sel rfl rfl rfl rfl rfl rfl rfl rfl (by omega) (by omega) ?_ |(refine Fl.rldW rfl rfl rfl rfl rfl rfl rfl (fun _ => rfl) (fun _ => rfl) (by first | omega | (simp; omega)) (by assumption) ?_; intro _ _ _ _) |refine Fl.rst rfl rfl rfl rfl rfl rfl rfl rfl rfl rfl rfl (LeL.refl _) rfl (by first | omega | (simp; omega)) ?_ |refine Fl.sumM rfl rfl rfl rfl rfl rfl ?_))
        · rename_i hi x hx hx0 hx1 p0 p1 y hy hy0 hy1;rw [Int.toNat_natCast] at hx;rw [get_part (j := lo.length) (by omega) (by omega), get_drop rfl] at hy;obtain ⟨w, hw⟩ : ∃ w, w = (y - (q * x + b) % 4294967296) % 4294967296 := ⟨_, rfl⟩;obtain ⟨b', hb'⟩ : ∃ b', b' = (q * x + b) / 4294967296 + (y - (q * x + b) % 4294967296) % 18446744073709551616 / 9223372036854775808 := ⟨_, rfl⟩;have hst := sub_step (w := w) (b' := b') rfl hy hx k4 (by omega);refine LoopEnd.of (lo ++ [w], b') ⟨by simp; omega, k1.append (WOk.cons (by omega) (by omega) WOk.nil), by omega, by omega, by rw [List.length_append]; exact hst⟩ (by simp only [List.length_append, List.length_cons, List.length_nil]; omega) ?_;refine Ent.of [] ?_ ?_ rfl rfl;(repeat' (first |exact True.intro |refine ⟨⟨AV.Le.refl _, rfl⟩, ?_⟩ |refine ⟨⟨⟨_, rfl, BLe.row ?_⟩, rfl⟩, ?_⟩ |refine ⟨⟨AV.Le.int ?_, rfl⟩, ?_⟩|fail))
          · rw [p32, p63, bitN_and32 (by omega)];omega
          · simp
          · rw [show (lo ++ [w]).length = lo.length + 1 by simp];refine (set_part (j := lo.length) (by omega) (by omega)).trans (congrArg (fun M => A ++ M ++ C) (set_drop (w' := w) rfl (by omega) ?_));rw [bitN_and32 (by omega)];omega
        · have hl : lo.length = m + 2 := by omega
          refine JoinOk.of (lo, b) ⟨hl, k1, k2, k3, ?_⟩ ?_
          · rw [k4, hl, show v.take (m + 2) = v by rw [← hv, List.take_length]]
          · refine Ent.of [] ?_ ?_ rfl rfl;(repeat' (first |exact True.intro |refine ⟨⟨AV.Le.refl _, rfl⟩, ?_⟩ |refine ⟨⟨⟨_, rfl, BLe.row rfl⟩, rfl⟩, ?_⟩|fail))
    · intro ⟨lo, b⟩ ⟨k0, k1, k2, k3, k4⟩;have hW2 : WOk (A ++ (lo ++ mid.drop lo.length) ++ C) := (wA.append (k1.append (d.wm.drop _))).append wC
      have hml : (lo ++ mid.drop lo.length).length = mid.length := by rw [List.length_append, List.length_drop]; omega
      have hun : (A ++ (lo ++ mid.drop lo.length) ++ C)[A.length + (m + 2)]? = some un := by rw [get_part rfl (by omega), ← k0, get_drop rfl, k0, e0]
      obtain ⟨y, hy⟩ : ∃ y, y = (un - b) % 18446744073709551616 := ⟨_, rfl⟩;obtain ⟨w, hw⟩ : ∃ w, w = (un - b) % 4294967296 := ⟨_, rfl⟩;obtain ⟨b', hb'⟩ : ∃ b', b' = y / 9223372036854775808 := ⟨_, rfl⟩;refine AWP.seqJ (G := Unit) (fun _ => True) (fun _ => St.of [900] [(0, .sub 900 A.length mid.length), (1, aW v), (5, aN (m + 2)), (7, aU q), (14, aU y)] [(900, .row 1 eW (A ++ (lo ++ mid.drop lo.length) ++ C) 62)]) ?_ ?_
      · (repeat' (first |refine Fl.v rfl rfl rfl ?_ |refine Fl.nilF ?_ |refine AWP.region ?_ |refine Fl.w rfl rfl rfl (by first | exact True.intro | omega) ?_ |refine Fl.sel rfl rfl rfl rfl rfl rfl rfl rfl (by omega) (by omega) ?_ |(refine Fl.rldW rfl rfl rfl rfl rfl rfl rfl (fun _ => rfl) (fun _ => rfl) (by first | omega | (simp; omega)) (by assumption) ?_; intro _ _ _ _) |refine Fl.sumM rfl rfl rfl rfl rfl rfl ?_));rename_i x hx hx0 hx1;rw [show ((m : Int) + 2).toNat = m + 2 by omega, hun] at hx;injection hx with hx;subst hx;refine JoinOk.of () trivial ?_;refine Ent.of [] ?_ ?_ rfl rfl;(repeat' (first |exact True.intro |refine ⟨⟨AV.Le.refl _, rfl⟩, ?_⟩ |refine ⟨⟨⟨_, rfl, BLe.row rfl⟩, rfl⟩, ?_⟩ |refine ⟨⟨AV.Le.int ?_, rfl⟩, ?_⟩|fail));exact hy.symm
      intro _ _;refine AWP.seqJ (G := Unit) (fun _ => True) (fun _ => St.of [900] [(0, .sub 900 A.length mid.length), (1, aW v), (5, aN (m + 2)), (7, aU q), (14, aU y)] [(900, .row 1 eW (A ++ (lo ++ [w]) ++ C) 62)]) ?_ ?_
      · (repeat' (first |refine Fl.v rfl rfl rfl ?_ |refine Fl.nilF ?_ |refine AWP.region ?_ |refine Fl.sel rfl rfl rfl rfl rfl rfl rfl rfl (by omega) (by omega) ?_ |refine Fl.rst rfl rfl rfl rfl rfl rfl rfl rfl rfl rfl rfl (LeL.refl _) rfl (by first | omega | (simp; omega)) ?_|fail));refine JoinOk.of () trivial ?_;refine Ent.of [] ?_ ?_ rfl rfl;(repeat' (first |exact True.intro |refine ⟨⟨AV.Le.refl _, rfl⟩, ?_⟩ |refine ⟨⟨⟨_, rfl, BLe.row ?_⟩, rfl⟩, ?_⟩|fail));rw [show ((m : Int) + 2).toNat = m + 2 by omega];refine (set_part (j := lo.length) (by omega) (by omega)).trans (congrArg (fun M => A ++ M ++ C) ((set_drop (w' := w) rfl (by omega) ?_).trans ?_))
        · omega
        · rw [List.drop_eq_nil_of_le (by omega), List.append_nil]
      intro _ _
      have hU3 : val mid = val (mid.take (m + 2)) + BB (m + 2) * un := by
        have := val_top e0;rw [show m + 2 + 1 = mid.length by omega, List.take_length] at this;exact this
      obtain ⟨β, hβ⟩ : ∃ β : Int, w = un - b + β * 4294967296 ∧ ((β = 0 ∧ y / 9223372036854775808 = 0) ∨ (β = 1 ∧ y / 9223372036854775808 ≠ 0)) := by
        rcases Int.lt_or_le (un - b) 0 with h | h
        · exact ⟨1, by omega, .inr ⟨rfl, by omega⟩⟩
        · exact ⟨0, by omega, .inl ⟨rfl, by omega⟩⟩
      have hL : val (lo ++ [w]) = val mid - q * val v + β * BB (m + 3) := by
        rw [val_snoc, k0, k4, hU3, hβ.1, show m + 3 = m + 2 + 1 from rfl, BB_succ (m + 2)];grind
      have wL : WOk (lo ++ [w]) := k1.append (WOk.cons (by omega) (by omega) WOk.nil)
      have hLl : (lo ++ [w]).length = m + 3 := by simp; omega
      have hLw : lo ++ [w] = wdW mid.length (val (lo ++ [w])) := by
        have := wdW_eq wL;rw [hLl, ← hm] at this;exact this
      refine AWP.seq ?_;(repeat' (first |refine Fl.v rfl rfl rfl ?_ |refine Fl.nilF ?_ |refine AWP.seq ?_ |refine AWP.region ?_ |refine Fl.w rfl rfl rfl (by first | exact True.intro | omega) ?_ |(refine AWP.condD rfl ?_ ?_ <;> intro _ <;> try (exfalso; omega)) |refine AWP.block ?_ |refine AWP.skip ?_ |refine AWP.ret ?_))
      · rename_i h1;rw [p63] at h1
        have hβ0 : β = 0 := by omega
        rw [hβ0, Int.zero_mul, Int.add_zero] at hL;have hn := val_nonneg wL;rw [hL] at hn;obtain ⟨r1, r2⟩ := dig_end0 hV hU g0 g1 hn;rw [hL, r2] at hLw;exact ⟨⟨[], _, _, Ent.refl _ _ _, rfl, AV.Le.int (by omega), rfl, ⟨⟨⟨_, rfl, BLe.row (by rw [hLw])⟩, rfl⟩, trivial⟩, rfl, rfl⟩⟩
      · rename_i h1;rw [p63] at h1
        have hβ1 : β = 1 := by omega
        rw [hβ1, Int.one_mul] at hL;have hlt := val_lt wL;rw [hLl, hL] at hlt;obtain ⟨r1, r2⟩ := dig_end1 hV hU g0 g1 (by omega)
        have hLi : (lo ++ [w])[m + 2]? = some w := by rw [List.getElem?_append_right (by omega), k0]; simp
        generalize lo ++ [w] = L at *
        refine AWP.loop (G := List Int × Int) (fun (hi, c) => hi.length ≤ m + 2 ∧ WOk hi ∧ 0 ≤ c ∧ c ≤ 1 ∧ val hi + c * BB hi.length = val (L.take hi.length) + val (v.take hi.length)) (fun (hi, c) => St.of [900] [(0, .sub 900 A.length mid.length), (1, aW v), (5, aN (m + 2)), (7, aU q), (15, aU c), (134, aW v), (135, aN v.length), (136, aN hi.length)] [(900, .row 1 eW (A ++ (hi ++ L.drop hi.length) ++ C) 62)]) (fun (hi, c) => m + 2 - hi.length) ([], 0) ⟨by simp, WOk.nil, by omega, by omega, by simp [val]⟩ ?_ ?_
        · refine Ent.of [] ?_ ?_ rfl rfl;(repeat' (first |exact True.intro |refine ⟨⟨AV.Le.refl _, rfl⟩, ?_⟩ |refine ⟨⟨⟨_, rfl, BLe.row rfl⟩, rfl⟩, ?_⟩|fail))
        · intro ⟨hi, c⟩ ⟨j0, j1, j2, j3, j4⟩;have hW3 : WOk (A ++ (hi ++ L.drop hi.length) ++ C) := (wA.append (j1.append (wL.drop _))).append wC
          have hml3 : (hi ++ L.drop hi.length).length = mid.length := by rw [List.length_append, List.length_drop]; omega
          (repeat' (first |refine Fl.v rfl rfl rfl ?_ |refine Fl.nilF ?_ |refine AWP.seq ?_ |refine AWP.region ?_ |refine Fl.w rfl rfl rfl (by first | exact True.intro | omega) ?_ |(refine AWP.condD rfl ?_ ?_ <;> intro _ <;> try (exfalso; omega)) |refine AWP.block ?_ |refine AWP.skip ?_ |refine AWP.exit ?_ |refine AWP.ret ?_ |(refine Fl.elW rfl rfl rfl rfl rfl rfl rfl rfl (by omega) (by omega) (by assumption) ?_; intro _ _ _ _) |refine Fl.sel rfl rfl rfl rfl rfl rfl rfl rfl (by omega) (by omega) ?_ |(refine Fl.rldW rfl rfl rfl rfl rfl rfl rfl (fun _ => rfl) (fun _ => rfl) (by first | omega | (simp; omega)) (by assumption) ?_; intro _ _ _ _) |refine Fl.rst rfl rfl rfl rfl rfl rfl rfl rfl rfl rfl rfl (LeL.refl _) rfl (by first | omega | (simp; omega)) ?_ |refine Fl.sumM rfl rfl rfl rfl rfl rfl ?_))
          · rename_i hi0 x hx hx0 hx1 z hz hz0 hz1;rw [Int.toNat_natCast] at hx;rw [get_part (j := hi.length) (by omega) (by omega), get_drop rfl] at hz;obtain ⟨s, hs⟩ : ∃ s, s = z + x + c := ⟨_, rfl⟩;have hst := add_step (w := s % 4294967296) (c' := s / 4294967296) rfl hz hx j4 (by omega);refine LoopEnd.of (hi ++ [s % 4294967296], s / 4294967296) ⟨by simp; omega, j1.append (WOk.cons (by omega) (by omega) WOk.nil), by omega, by omega, by rw [List.length_append]; exact hst⟩ (by simp only [List.length_append, List.length_cons, List.length_nil]; omega) ?_;refine Ent.of [] ?_ ?_ rfl rfl;(repeat' (first |exact True.intro |refine ⟨⟨AV.Le.refl _, rfl⟩, ?_⟩ |refine ⟨⟨⟨_, rfl, BLe.row ?_⟩, rfl⟩, ?_⟩ |refine ⟨⟨AV.Le.int ?_, rfl⟩, ?_⟩|fail))
            · rw [p32];omega
            · simp
            · rw [show (hi ++ [s % 4294967296]).length = hi.length + 1 by simp];refine (set_part (j := hi.length) (by omega) (by omega)).trans (congrArg (fun M => A ++ M ++ C) (set_drop (w' := s % 4294967296) rfl (by omega) ?_));rw [hs];congr 1;omega
          · rename_i hlt2 x hx hx0 hx1
            have hhl : hi.length = m + 2 := by omega
            have hx2 : (hi ++ L.drop hi.length)[hi.length]? = L[hi.length]? := get_drop rfl;rw [show ((m : Int) + 2).toNat = hi.length by omega, get_part (j := hi.length) rfl (by omega), hx2, hhl, hLi] at hx;injection hx with hx;subst hx
            have hLv : val L = val (L.take (m + 2)) + BB (m + 2) * w := by
              have := val_top hLi;rw [show m + 2 + 1 = L.length by omega, List.take_length] at this;exact this
            rw [hhl, show v.take (m + 2) = v by rw [← hv, List.take_length]] at j4;have hh0 := val_nonneg j1;have hh1 := val_lt j1;rw [hhl] at hh1;have ht0 := Int.emod_nonneg (val mid) (show val v ≠ 0 by omega);have ht1 := Int.emod_lt_of_pos (val mid) hV
            have hback := dig_back (s := w + c) (h := val hi) (t := val mid % val v) (BB_pos (m + 2)) (by
              rw [← BB_succ, Int.mul_add, Int.mul_comm _ c];show _ = _ + BB (m + 3)
              omega) hh0 hh1 ht0 (by omega)
            have wF : WOk (hi ++ [0]) := j1.append (WOk.cons (by omega) (by omega) WOk.nil);have hF := wdW_eq wF;have hQ := (quo_spec hV hU).2.2.1;rw [val_snoc, Int.mul_zero, Int.add_zero, hback.2, (by simp; omega : (hi ++ [(0 : Int)]).length = mid.length)] at hF;refine ⟨⟨[], _, _, Ent.refl _ _ _, rfl, AV.Le.int ?_, rfl, ⟨⟨⟨_, rfl, BLe.row ?_⟩, rfl⟩, trivial⟩, rfl, rfl⟩⟩
            · omega
            · rw [show ((m : Int) + 2).toNat = hi.length by omega, ← hF];refine (set_part (j := hi.length) rfl (by omega)).trans (congrArg (fun M => A ++ M ++ C) ((set_drop (w' := 0) rfl (by omega) ?_).trans ?_))
              · omega
              · rw [List.drop_eq_nil_of_le (by omega), List.append_nil]
end Go.Proofs.YtcaecieigoplbaaGreat
/- Division of long numbers: plain. -/
namespace Go.AL
theorem wdW_snoc0 : ∀ (n : Nat) (z : Int), 0 ≤ z → z < BB n → wdW (n + 1) z = wdW n z ++ [0]
  | 0, z, h0, h1 => by
    rw [BB_zero] at h1
    have : z = 0 := by omega
    subst this; rfl
  | n + 1, z, h0, h1 => by
    rw [BB_succ] at h1;have ih := wdW_snoc0 n (z / 4294967296) (by omega) (by omega);show z % 4294967296 :: wdW (n + 1) (z / 4294967296) = z % 4294967296 :: wdW n (z / 4294967296) ++ [0];rw [ih]; rfl
/-- What the loop of a division keeps: so many words are still to come. -/
structure DivInv (U : List Int) (V : Int) (n N i : Nat) (os : List Int) (ρ : Int) : Prop where
  hi : i ≤ N
  hl : os.length + i = N
  wo : WOk os
  r0 : 0 ≤ ρ
  r1 : ρ < V
  hv : val (U.drop i) = val os * V + ρ
theorem DivInv.step {U os : List Int} {V ρ : Int} {n N i : Nat} {u : Int} (d : DivInv U V n N (i + 1) os ρ) (hV : 0 < V) (hu : U[i]? = some u) (wu : WOk U) :
    DivInv U V n N i (val (u :: wdW n ρ) / V :: os) (val (u :: wdW n ρ) % V) ∨ ¬ (V < BB n) := by
  rcases Classical.em (V < BB n) with hn | hn
  · left;have w := wu.get hu;have d0 := d.r0;have d1 := d.r1
    have hm : val (u :: wdW n ρ) = u + 4294967296 * ρ := by
      rw [val, val_wdW n ρ d0 (by omega)]
    rw [hm]
    have hlt : u + 4294967296 * ρ < 4294967296 * V := by omega
    have hdiv := Int.mul_ediv_add_emod (u + 4294967296 * ρ) V;have hm0 := Int.emod_nonneg (u + 4294967296 * ρ) (show V ≠ 0 by omega);have hm1 := Int.emod_lt_of_pos (u + 4294967296 * ρ) hV;refine ⟨by have := d.hi; omega, by have := d.hl; simp; omega, ?_, hm0, hm1, ?_⟩
    · refine WOk.cons (Int.ediv_nonneg (by omega) (by omega)) (Int.ediv_lt_of_lt_mul hV hlt) d.wo
    · have hd : U.drop i = u :: U.drop (i + 1) := by
        have hi := List.getElem?_eq_some_iff.1 hu;rw [List.drop_eq_getElem_cons hi.1, hi.2]
      rw [hd, val, d.hv, val]
      generalize (u + 4294967296 * ρ) / V = q at *
      generalize (u + 4294967296 * ρ) % V = r at *
      grind
  · exact .inr hn
/-- The words of a shifted divisor. -/
theorem norm_facts {y w : Int} {n k : Nat} (hy : 0 < y) (hn : (toW y).length = n + 1) (hw : (toW y)[n]? = some w) (hk : k = 32 - lenB w.toNat) :
    k < 32 ∧ lenB w.toNat + k = 32 ∧ (toW (y * 2 ^ k)).length = n + 1 ∧ (∀ t, (toW (y * 2 ^ k))[n]? = some t → 2147483648 ≤ t) ∧ BB n * 2 ^ k ≤ y * 2 ^ k := by
  have wy := toW_ok y;have ww := wy.get hw;have hsy := val_toW (show 0 ≤ y by omega)
  have hwn : w ≠ 0 := by
    have e : toW y = (toW y).take n ++ [w] := by
      conv => lhs; rw [← List.take_length (l := toW y), hn, take_top hw]
    have := (NW.toW y);rw [e] at this;exact this.last
  obtain ⟨W, hW⟩ : ∃ W : Nat, w = W := ⟨w.toNat, by omega⟩;subst hW;rw [Int.toNat_natCast] at hk ⊢;have hl := lenB_spec (n := W) (by omega);have hl2 := lenB_le (n := W) (k := 32) (by omega)
  have hk1 : lenB W + k = 32 := by omega
  have h2 : (0 : Int) < 2 ^ k := Int.pow_pos (by omega)
  have hv : y = val ((toW y).take n) + BB n * W := by
    have := val_top hw;rw [← hn, List.take_length, hsy] at this;exact this
  have hb := val_bounds (k := n) wy (by omega);have hB := BB_pos n
  have p1 : (W : Int) * 2 ^ k < 4294967296 ∧ ((W : Int) + 1) * 2 ^ k ≤ 4294967296 := by
    have a : W + 1 ≤ 2 ^ lenB W := hl.2.2;have b : (W + 1) * 2 ^ k ≤ 2 ^ lenB W * 2 ^ k := Nat.mul_le_mul_right _ a;rw [← Nat.pow_add, hk1] at b
    have c : (((W + 1) * 2 ^ k : Nat) : Int) ≤ ((2 ^ 32 : Nat) : Int) := by exact_mod_cast b
    rw [Int.natCast_mul, Int.natCast_pow] at c
    have e : (((W + 1 : Nat)) : Int) = (W : Int) + 1 := by omega
    rw [e] at c;have c2 : ((W : Int) + 1) * 2 ^ k ≤ 4294967296 := c;refine ⟨?_, c2⟩;rw [Int.add_mul] at c2; omega
  have p2 : 2147483648 ≤ (W : Int) * 2 ^ k := by
    have a : 2 ^ (lenB W - 1) ≤ W := hl.2.1;have b : 2 ^ (lenB W - 1) * 2 ^ k ≤ W * 2 ^ k := Nat.mul_le_mul_right _ a;rw [← Nat.pow_add, show lenB W - 1 + k = 31 by omega] at b
    have c : ((2 ^ 31 : Nat) : Int) ≤ ((W * 2 ^ k : Nat) : Int) := by exact_mod_cast b
    rw [Int.natCast_mul, Int.natCast_pow] at c;exact c
  have hlt : y * 2 ^ k < BB (n + 1) := by
    have a : y * 2 ^ k < (BB n * ((W : Int) + 1)) * 2 ^ k := Int.mul_lt_mul_of_pos_right (by rw [Int.mul_add]; omega) h2
    have b : (BB n * ((W : Int) + 1)) * 2 ^ k = BB n * (((W : Int) + 1) * 2 ^ k) := by grind
    have c : BB n * (((W : Int) + 1) * 2 ^ k) ≤ BB n * 4294967296 := Int.mul_le_mul_of_nonneg_left p1.2 (by omega);rw [BB_succ]; omega
  have hge : BB n * 2147483648 ≤ y * 2 ^ k := by
    have a : BB n * W * 2 ^ k ≤ y * 2 ^ k := Int.mul_le_mul_of_nonneg_right (by omega) (by omega)
    have b : BB n * W * 2 ^ k = BB n * (W * 2 ^ k) := by grind
    have c : BB n * 2147483648 ≤ BB n * (W * 2 ^ k) := Int.mul_le_mul_of_nonneg_left p2 (by omega);omega
  have hlen : (toW (y * 2 ^ k)).length = n + 1 := by
    have a := (toW_len_le (z := y * 2 ^ k) (by omega) (n + 1)).2 hlt;rcases Nat.lt_or_ge (toW (y * 2 ^ k)).length (n + 1) with h | h
    · have := (toW_len_le (z := y * 2 ^ k) (by omega) n).1 (by omega);omega
    · omega
  refine ⟨by omega, hk1, hlen, fun t ht => ?_, Int.mul_le_mul_of_nonneg_right ?_ (by omega)⟩
  · have wz := toW_ok (y * 2 ^ k);have hz := val_top ht;rw [← hlen, List.take_length, val_toW (by omega)] at hz;have hb2 := val_bounds (k := n) wz (by omega);rcases Int.lt_or_le t 2147483648 with h | h
    · have : BB n * t ≤ BB n * 2147483647 := Int.mul_le_mul_of_nonneg_left (by omega) (by omega);omega
    · exact h
  · have : BB n * 1 ≤ BB n * W := Int.mul_le_mul_of_nonneg_left (by omega) (by omega);omega
/-- The words of a shifted dividend, with one more of them. -/
theorem dend_facts {x : Int} {k : Nat} (hx : 0 < x) (hk : k < 32) :
    ((toW (x * 2 ^ k) ++ [0, 0]).take ((toW x).length + 1)).length = (toW x).length + 1 ∧ WOk ((toW (x * 2 ^ k) ++ [0, 0]).take ((toW x).length + 1)) ∧ val ((toW (x * 2 ^ k) ++ [0, 0]).take ((toW x).length + 1)) = x * 2 ^ k ∧ toW (x * 2 ^ k) ≠ [] ∧ (toW (x * 2 ^ k)).length ≤ (toW x).length + 1 := by
  have h2 : (0 : Int) < 2 ^ k := Int.pow_pos (by omega)
  have hp : (2 : Int) ^ k ≤ 4294967296 := by
    have : (2 : Int) ^ k ≤ 2 ^ 32 := pow_le_r (by omega) (by omega);rw [show (2 : Int) ^ 32 = 4294967296 from rfl] at this; exact this
  have hX : 0 < x * 2 ^ k := Int.mul_pos hx h2
  have hxX : x ≤ x * 2 ^ k := by
    have : x * 1 ≤ x * 2 ^ k := Int.mul_le_mul_of_nonneg_left (by omega) (by omega);omega
  obtain ⟨L, hL⟩ : ∃ L, L = (toW x).length := ⟨_, rfl⟩;rw [← hL];have hxl : x < BB L := (toW_len_le (by omega) L).1 (by omega)
  have hXl : x * 2 ^ k < BB (L + 1) := by
    have a : x * 2 ^ k < BB L * 2 ^ k := Int.mul_lt_mul_of_pos_right hxl h2;have b : BB L * 2 ^ k ≤ BB L * 4294967296 := Int.mul_le_mul_of_nonneg_left hp (Int.le_of_lt (BB_pos _));rw [BB_succ]; omega
  have hlen1 : (toW (x * 2 ^ k)).length ≤ L + 1 := (toW_len_le (by omega) _).2 hXl
  have hlen2 : L ≤ (toW (x * 2 ^ k)).length := by
    rcases Nat.lt_or_ge (toW (x * 2 ^ k)).length L with h | h
    · have a := (toW_len_le (z := x * 2 ^ k) (by omega) (L - 1)).1 (by omega);have b := (toW_len_le (z := x) (by omega) (L - 1)).2 (by omega);omega
    · exact h
  have wX := toW_ok (x * 2 ^ k);have hsX := val_toW (show 0 ≤ x * 2 ^ k by omega);have hne := toW_ne_nil hX
  generalize toW (x * 2 ^ k) = D at *
  have ww : WOk (D ++ [0, 0]) := wX.append (WOk.cons (by omega) (by omega) (WOk.cons (by omega) (by omega) WOk.nil));refine ⟨by simp; omega, ww.take _, ?_, hne, hlen1⟩;rw [List.take_append, List.take_of_length_le (by omega), val_append, hsX]
  have : val ([0, 0].take (L + 1 - D.length)) = 0 := by
    rcases (show L + 1 - D.length = 0 ∨ L + 1 - D.length = 1 by omega) with h | h <;> rw [h] <;> simp [val]
  rw [this]; omega
theorem div_shift {x y : Int} {k : Nat} (hy : 0 < y) (hx : 0 ≤ x) : x * 2 ^ k / (y * 2 ^ k) = x / y ∧ x * 2 ^ k % (y * 2 ^ k) / 2 ^ k = x % y := by
  have h2 : (0 : Int) < 2 ^ k := Int.pow_pos (by omega);refine ⟨Int.mul_ediv_mul_of_pos_left _ _ h2, ?_⟩;rw [Int.mul_comm x, Int.mul_comm y, Int.mul_emod_mul_of_pos _ _ h2, Int.mul_ediv_cancel_left _ (by omega)]
end Go.AL
/- ref01.long, by several words: plain facts. -/
namespace Go.AL
theorem norm_of {w : Int} {s : Nat} (h0 : 0 < w) (h1 : 2147483648 ≤ w * 2 ^ s) (h2 : w * 2 ^ s < 4294967296) : s = 32 - lenB w.toNat := by
  obtain ⟨W, hW⟩ : ∃ W : Nat, w = W := ⟨w.toNat, by omega⟩;subst hW;rw [Int.toNat_natCast];have hl := lenB_spec (n := W) (by omega)
  have a1 : 2 ^ 31 ≤ W * 2 ^ s := by
    have : ((2 ^ 31 : Nat) : Int) ≤ ((W * 2 ^ s : Nat) : Int) := by rw [Int.natCast_mul, Int.natCast_pow]; exact h1
    exact_mod_cast this
  have a2 : W * 2 ^ s < 2 ^ 32 := by
    have : ((W * 2 ^ s : Nat) : Int) < ((2 ^ 32 : Nat) : Int) := by rw [Int.natCast_mul, Int.natCast_pow]; exact h2
    exact_mod_cast this
  have a3 : 0 < 2 ^ s := Nat.pow_pos (by omega)
  have hs : s < 32 := by
    rcases Nat.lt_or_ge s 32 with h | h
    · exact h
    · have b : 2 ^ 32 ≤ 2 ^ s := Nat.pow_le_pow_right (by omega) h;have c : 1 * 2 ^ s ≤ W * 2 ^ s := Nat.mul_le_mul_right _ (by omega);omega
  have b1 : W < 2 ^ (32 - s) := by
    have : 2 ^ (32 - s) * 2 ^ s = 2 ^ 32 := by rw [← Nat.pow_add]; congr 1; omega
    exact Nat.lt_of_mul_lt_mul_right (a := 2 ^ s) (by omega)
  have b2 : 2 ^ (31 - s) ≤ W := by
    have : 2 ^ (31 - s) * 2 ^ s = 2 ^ 31 := by rw [← Nat.pow_add]; congr 1; omega
    exact Nat.le_of_mul_le_mul_right (c := 2 ^ s) (by omega) a3
  have c1 : lenB W ≤ 32 - s := lenB_le b1;have c2 : 31 - s < lenB W := (Nat.pow_lt_pow_iff_right (a := 2) (by omega)).1 (by omega);omega
theorem norm_loop {w : Int} {s : Nat} (h0 : 0 < w) (h2 : w * 2 ^ s < 4294967296) : s < 32 := by
  rcases Nat.lt_or_ge s 32 with h | h
  · exact h
  · have b : (2 : Int) ^ 32 ≤ 2 ^ s := pow_le_r (by omega) h;have c : 1 * (2 : Int) ^ s ≤ w * 2 ^ s := Int.mul_le_mul_of_nonneg_right (by omega) (by omega);have d : (2 : Int) ^ 32 = 4294967296 := rfl;omega
theorem wdW_take : ∀ (n k : Nat) (z : Int), k ≤ n → (wdW n z).take k = wdW k z
  | n, 0, z, _ => by simp [wdW]
  | 0, k + 1, z, h => by omega
  | n + 1, k + 1, z, h => by simp only [wdW, List.take_succ_cons, wdW_take n k _ (by omega)]
theorem wdW_toW {z : Int} {n : Nat} (h0 : 0 ≤ z) (h : (toW z).length = n) : wdW n z = toW z := by
  have := wdW_eq (toW_ok z);rw [h, val_toW h0] at this;exact this.symm
/-- the last word of the subtraction of a multiple -/
theorem sub_last {lo m : List Int} {V : Int} {i : Nat} {q b y w b' : Int} (hlo : lo.length = i) (hm : m[i]? = some y) (hval : val lo = val (m.take i) - q * V + b * BB i) (hw : w + b = y + 4294967296 * b') :
    val (lo ++ [w]) = val (m.take (i + 1)) - q * V + b' * BB (i + 1) := by
  have hmi : (m.take i).length = i := by have := (List.getElem?_eq_some_iff.1 hm).1; simp; omega
  have t1 : m.take (i + 1) = m.take i ++ [y] := by rw [List.take_add_one, hm]; rfl
  rw [val_snoc, t1, val_snoc, hmi, hlo, hval, BB_succ]
  have : w = y + 4294967296 * b' - b := by omega
  rw [this];grind
/-- the last word of an addition -/
theorem add_last {lo m : List Int} {V : Int} {i : Nat} {c y w c' : Int} (hlo : lo.length = i) (hm : m[i]? = some y) (hval : val lo + c * BB i = val (m.take i) + V) (hw : w + 4294967296 * c' = y + c) :
    val (lo ++ [w]) + c' * BB (i + 1) = val (m.take (i + 1)) + V := by
  have hmi : (m.take i).length = i := by have := (List.getElem?_eq_some_iff.1 hm).1; simp; omega
  have t1 : m.take (i + 1) = m.take i ++ [y] := by rw [List.take_add_one, hm]; rfl
  rw [val_snoc, t1, val_snoc, hmi, hlo, BB_succ]
  have : w = y + c - 4294967296 * c' := by omega
  rw [this];grind
theorem add_carry {h t c B : Int} (hB : 0 < B) (e : h + c * B = B + t) (h0 : 0 ≤ h) (h1 : h < B) (t0 : 0 ≤ t) (t1 : t < B) : h = t := by
  have hc : c = 1 := by
    rcases Int.lt_trichotomy c 1 with k | k | k
    · have : c * B ≤ 0 * B := Int.mul_le_mul_of_nonneg_right (by omega) (by omega);omega
    · exact k
    · have : 2 * B ≤ c * B := Int.mul_le_mul_of_nonneg_right (by omega) (by omega);omega
  rw [hc] at e; omega
end Go.AL
/- ref01.Shift to the right, of a number that is not negative. -/
namespace Go.AL
theorem dropc {α : Type} {l : List α} {i : Nat} {x : α} (h : l[i]? = some x) : l.drop i = x :: l.drop (i + 1) := by
  have hi := List.getElem?_eq_some_iff.1 h;rw [List.drop_eq_getElem_cons hi.1, hi.2]
end Go.AL
namespace Go.Proofs.YtcaecieigoplbaaGreat
open Go.AL

theorem shiftedRow_ok (A : List Int) (k : Nat) (wx : WOk A) (hxl : A.length ≤ 80000) (hk : k < 32) : IoFn Tryz.prog 109 [aW A, aN k] [] (.ret (.row 900)) [(900, .row 1 eW (wdW (A.length + 1) (val A * 2 ^ k)) 62)] := by
  refine IoFn.of_body Tryz.func109 rfl Tryz.ntmps109 rfl rfl rfl ?_;have h2 : (0 : Int) < 2 ^ k := Int.pow_pos (by omega);refine AWP.seqS ?_;(repeat' (first |refine Fl.v rfl rfl rfl ?_ |refine Fl.nilF ?_ |refine AWP.region ?_));refine ⟨AWP.seqS ?_⟩;(repeat' (first |refine Fl.v rfl rfl rfl ?_ |refine Fl.nilF ?_ |refine AWP.region ?_ |refine Fl.w rfl rfl rfl (by first | exact True.intro | omega) ?_ |refine Fl.make rfl rfl rfl rfl rfl rfl rfl rfl rfl rfl eW 0 (by exact LeL.refl _) (by rfl) (by first | omega | (dsimp only; omega)) (by first | omega | (dsimp only; omega)) (by first | omega | (dsimp only; omega)) ?_|fail));refine ⟨?_⟩;refine AWP.seqJ (G := List Int) (fun os => WOk os ∧ os.length = A.length + 1 ∧ val os = val A * 2 ^ k) (fun os => St.of [] [(5, .row 11)] [(11, .row 1 eW os 62)]) ?_ ?_
  · (repeat' (first |refine Fl.v rfl rfl rfl ?_ |refine Fl.nilF ?_ |refine AWP.seq ?_ |refine AWP.region ?_ |refine AWP.block ?_));refine AWP.loop (G := Nat × List Int × Int) (fun (i, P, c) => i ≤ A.length ∧ P.length = i ∧ WOk P ∧ 0 ≤ c ∧ c < 2 ^ k ∧ val P + BB P.length * c = BB 0 * 2 ^ k * val (A.take i))
      (fun (i, P, c) => St.of [] [(0, aW A), (1, aN k), (5, .row 11), (6, aN i)] [(11, .row 1 eW (P ++ c :: List.replicate (A.length - i) 0) 62)])
      (fun (i, P, c) => A.length - i) (0, [], 0) ⟨by omega, by simp, WOk.nil, by omega, h2, by simp [val]⟩ ?_ ?_
    · refine Ent.of [] ?_ ?_ rfl rfl;(repeat' (first |exact True.intro |refine ⟨⟨AV.Le.refl _, rfl⟩, ?_⟩ |refine ⟨⟨⟨_, rfl, BLe.row rfl⟩, rfl⟩, ?_⟩|fail))
    · intro ⟨i, P, c⟩ ⟨h0, h1, h3, h4, h5, h6⟩
      have h5' : c < 4294967296 := Int.lt_of_lt_of_le h5 (by
        have : (2 : Int) ^ k ≤ 2 ^ 32 := pow_le_r (by omega) (by omega)
        rw [show (2 : Int) ^ 32 = 4294967296 from rfl] at this; exact this)
      have hW : WOk (P ++ c :: List.replicate (A.length - i) 0) := h3.append (WOk.cons h4 h5' (WOk.zeros _));(repeat' (first |refine Fl.v rfl rfl rfl ?_ |refine Fl.nilF ?_ |refine AWP.seq ?_ |refine AWP.region ?_ |refine Fl.w rfl rfl rfl (by first | exact True.intro | omega) ?_ |(refine AWP.condD rfl ?_ ?_ <;> intro _ <;> try (exfalso; omega)) |refine AWP.block ?_ |refine AWP.skip ?_ |refine AWP.exit ?_ |(refine Fl.elW rfl rfl rfl rfl rfl rfl rfl rfl (by omega) (by omega) (by assumption) ?_; intro _ _ _ _) |refine Fl.rel rfl rfl rfl rfl rfl rfl rfl rfl (by omega) (by first | omega | (simp; omega)) ?_ |(refine Fl.rldW rfl rfl rfl rfl rfl rfl rfl (fun _ => rfl) (fun _ => rfl) (by first | omega | (simp; omega)) (by assumption) ?_; intro _ _ _ _) |refine Fl.rst rfl rfl rfl rfl rfl rfl rfl rfl rfl rfl rfl (LeL.refl _) rfl (by first | omega | (simp; omega)) ?_|fail))
      · rename_i hi y hy hy0 hy1 x hx hx0 hx1;rw [Int.toNat_natCast] at hy;rw [get_carry (by omega)] at hx;injection hx with hx;subst hx;have hb := or_carry hk h4 h5 hy0 hy1
        have hp : (2 : Int) ^ k ≤ 2147483648 := by
          have : (2 : Int) ^ k ≤ 2 ^ 31 := pow_le_r (by omega) (by omega);rw [show (2 : Int) ^ 31 = 2147483648 from rfl] at this; exact this
        obtain ⟨Y, hY⟩ : ∃ Y, Y = y * 2 ^ k := ⟨_, rfl⟩
        have hY0 : 0 ≤ Y := by rw [hY]; exact Int.mul_nonneg hy0 (by omega)
        have hY1 : Y ≤ 4294967295 * 2 ^ k := by rw [hY]; exact Int.mul_le_mul_of_nonneg_right (by omega) (by omega)
        have hY2 : Y / 4294967296 < 2 ^ k := by omega
        have hst := left_step (S := 2 ^ k) (B := BB 0) (w := c + Y % 4294967296) (c' := Y / 4294967296) hy (by rw [h1, BB_zero]; omega) h6 (by rw [← hY]; omega);rw [← hY] at hb;refine LoopEnd.of (i + 1, P ++ [c + Y % 4294967296], Y / 4294967296) ⟨by omega, by simp; omega, h3.append (WOk.cons (by omega) hb.2 WOk.nil), by omega, hY2, hst⟩ (by simp only; omega) ?_;refine Ent.of [] ?_ ?_ rfl rfl;(repeat' (first |exact True.intro |refine ⟨⟨AV.Le.refl _, rfl⟩, ?_⟩ |refine ⟨⟨⟨_, rfl, BLe.row ?_⟩, rfl⟩, ?_⟩|fail));refine set_carry (by omega) (by omega) (by omega) ?_ ?_
        · rw [show ((k : Int)).toNat = k from Int.toNat_natCast k, ← hY];rw [← hb.1, bitN_and32 (by omega), show Y % 18446744073709551616 % 4294967296 % 4294967296 = Y % 4294967296 by omega]
        · rw [show ((k : Int)).toNat = k from Int.toNat_natCast k, ← hY];rw [p32];omega
      · have hi : i = A.length := by omega
        subst hi;refine JoinOk.of (P ++ [c]) ⟨h3.append (WOk.cons h4 h5' WOk.nil), by simp; omega, ?_⟩ ?_
        · rw [val_snoc, h6, List.take_length, BB_zero, Int.one_mul, Int.mul_comm]
        · refine Ent.of [] ?_ ?_ rfl rfl;(repeat' (first |exact True.intro |refine ⟨⟨AV.Le.refl _, rfl⟩, ?_⟩ |refine ⟨⟨⟨_, rfl, BLe.row ?_⟩, rfl⟩, ?_⟩|fail));simp
  · intro os ⟨h0, h1, h3⟩;(repeat' (first |refine Fl.v rfl rfl rfl ?_ |refine Fl.nilF ?_ |refine AWP.seq ?_ |refine AWP.region ?_ |refine AWP.ret ?_));refine ⟨⟨[(900, 11)], _, _, Ent.refl _ _ _, rfl, AV.Le.refl _, rfl, ⟨⟨⟨_, rfl, BLe.row ?_⟩, rfl⟩, trivial⟩, rfl, rfl⟩⟩;rw [← h3, ← h1, ← wdW_eq h0]

theorem rShift0_ok (n : Nat) (hn : n ≤ 4294967296) : PureFn Tryz.prog 43 [aX 0, aN n] (aX 0) := by
  refine PureFn.of_body Tryz.func43 rfl Tryz.ntmps43 rfl rfl ?_;(repeat' (first |refine Fl.v rfl rfl rfl ?_ |refine Fl.nilF ?_ |refine AWP.seq ?_ |refine AWP.region ?_ |refine Fl.b rfl rfl rfl rfl ?_ |refine AWP.condT rfl ?_));refine Fl.call rfl (rZeroX_ok 0) rfl rfl rfl (LeL.refl _) ?_;(repeat' (first |refine Fl.v rfl rfl rfl ?_ |refine Fl.nilF ?_ |refine AWP.seq ?_ |refine AWP.region ?_ |refine Fl.b rfl rfl rfl rfl ?_ |refine AWP.condT rfl ?_ |refine AWP.ret ?_));exact RetOk.of rfl (AV.Le.refl _)

theorem rShiftR_ok (x : Int) (k : Nat) (hx : 0 ≤ x) (hxl : (toW x).length ≤ 40000) (hk : k < 32) : PureFn Tryz.prog 43 [aX x, aN (-(k : Int))] (aX (x / 2 ^ k)) := by
  rcases Nat.eq_zero_or_pos k with hk0 | hk0
  · subst hk0;rw [Int.pow_zero, Int.ediv_one];rcases Int.lt_or_eq_of_le hx with h | h
    · have := rShift_ok x 0 0 0 h hxl (by omega) (by omega) rfl;rw [Int.pow_zero, Int.mul_one] at this;exact this
    · subst h;exact rShift0_ok 0 (by omega)
  refine PureFn.of_body Tryz.func43 rfl Tryz.ntmps43 rfl rfl ?_
  have ex : ((x.natAbs : Nat) : Int) = x := by omega
  have wx := toW_ok x;have hsx := val_toW hx;have hneg : decide (x < 0) = false := decide_eq_false (by omega);have h2 : (0 : Int) < 2 ^ k := Int.pow_pos (by omega)
  have eZ : aX x = .agg [aB false, aW (toW x)] := by
    show AV.agg [aB (decide (x < 0)), aW (toW (x.natAbs : Int))] = _;rw [hneg, ex]
  rw [eZ];have hz : (toW x).length = 0 → x = 0 := fun h => (toW_nil_iff hx).1 (List.eq_nil_of_length_eq_zero h)
  generalize hAe : toW x = A at *
  refine AWP.seqS ?_;(repeat' (first |refine Fl.nilF ?_ |refine AWP.region ?_ |refine Fl.b rfl rfl rfl rfl ?_));refine ⟨AWP.seqS ?_⟩;(repeat' (first |refine Fl.v rfl rfl rfl ?_ |refine Fl.nilF ?_ |refine AWP.seq ?_ |refine AWP.region ?_ |(refine AWP.condD rfl ?_ ?_ <;> intro _ <;> try (exfalso; omega)) |refine AWP.skip ?_));refine ⟨?_⟩;refine AWP.seqJ (G := Int) (fun j => (A.length = 0 ∧ j = -1) ∨ (A.length ≠ 0 ∧ j = -(k : Int))) (fun j => St.of [] [(2, .ptr 2 0), (4, .ptr 4 0), (1, aN j)] [(2, .cells [aB false, aW A] 35), (4, .cells [aB false, .v (.slice none 0 0)] 35)]) ?_ ?_
  · (repeat' (first |refine Fl.v rfl rfl rfl ?_ |refine Fl.nilF ?_ |refine AWP.seq ?_ |refine AWP.region ?_ |refine Fl.w rfl rfl rfl (by first | exact True.intro | omega) ?_ |(refine AWP.condD rfl ?_ ?_ <;> intro _ <;> try (exfalso; omega)) |refine AWP.skip ?_))
    · refine JoinOk.of (-1) (.inl ⟨by omega, rfl⟩) ?_;refine Ent.of [] ?_ ?_ rfl rfl;(repeat' (first |exact True.intro |refine ⟨⟨AV.Le.refl _, rfl⟩, ?_⟩ |refine ⟨⟨⟨_, rfl, BLe.cells (LeL.refl _)⟩, rfl⟩, ?_⟩ |refine ⟨⟨AV.Le.int ?_, rfl⟩, ?_⟩|fail));omega
    · refine JoinOk.of (-(k : Int)) (.inr ⟨by omega, rfl⟩) ?_;refine Ent.of [] ?_ ?_ rfl rfl;(repeat' (first |exact True.intro |refine ⟨⟨AV.Le.refl _, rfl⟩, ?_⟩ |refine ⟨⟨⟨_, rfl, BLe.cells (LeL.refl _)⟩, rfl⟩, ?_⟩|fail))
  intro j hj;rcases hj with ⟨hl, hj⟩ | ⟨hl, hj⟩
  · subst hj;have hx0 := hz hl;(repeat' (first |refine Fl.v rfl rfl rfl ?_ |refine Fl.nilF ?_ |refine Fl.nil (fun _ => by kernel_rfl) ?_ |refine AWP.seq ?_ |refine AWP.region ?_ |refine Fl.w rfl rfl rfl (by first | exact True.intro | omega) ?_ |refine Fl.w rfl rfl rfl ⟨by omega, by omega, by dsimp only [hiK]; omega⟩ ?_ |refine Fl.b rfl rfl rfl rfl ?_ |refine Fl.skip rfl rfl ?_ |refine AWP.condF rfl ?_ |(refine AWP.condD rfl ?_ ?_ <;> intro _ <;> try (exfalso; omega)) |refine AWP.skip ?_ |refine AWP.ret ?_));refine RetOk.of rfl ?_;rw [hx0, Int.zero_ediv];show AV.Le _ (.agg [aB (decide ((0 : Int) < 0)), aW (toW (((0 : Int).natAbs : Nat) : Int))]);rw [show (((0 : Int).natAbs : Nat) : Int) = 0 from rfl, toW_zero];exact AV.Le.agg (LeL.cons (AV.Le.refl _) (LeL.cons (AV.Le.nil 1 eW) LeL.nil))
  subst hj
  have hrow : wdW ((A.drop ((k : Int) / 32).toNat).length + 1) (val (A.drop ((k : Int) / 32).toNat) * 2 ^ 0) = A ++ [0] := by
    rw [show ((k : Int) / 32).toNat = 0 by omega, List.drop_zero, Int.pow_zero, Int.mul_one, wdW_snoc0 A.length (val A) (val_nonneg wx) (val_lt wx), ← wdW_eq wx]
  have hd32 : ((k : Int) / 32).toNat = 0 := by omega
  have hm32 : (k : Int) % 32 = k := by omega
  refine AWP.seqS ?_;(repeat' (first |refine Fl.v rfl rfl rfl ?_ |refine Fl.nilF ?_ |refine AWP.region ?_ |refine Fl.w rfl rfl rfl (by first | exact True.intro | omega) ?_|fail));refine ⟨AWP.seqS ?_⟩;(repeat' (first |refine Fl.nilF ?_ |refine AWP.region ?_ |refine Fl.b rfl rfl rfl rfl ?_));refine ⟨?_⟩;refine AWP.seqJ (G := Unit) (fun _ => True) (fun _ => St.of [] [(2, .ptr 2 0), (4, .ptr 4 0), (5, .ptr 5 0)] [(2, .cells [aB false, aW A] 35), (4, .cells [aB false, .v (.slice none 0 0)] 35), (5, .cells [aB false, aW (toW (x / 2 ^ k))] 35)]) ?_ ?_
  · (repeat' (first |refine Fl.v rfl rfl rfl ?_ |refine Fl.nilF ?_ |refine AWP.seq ?_ |refine AWP.region ?_ |refine Fl.w rfl rfl rfl (by first | exact True.intro | omega) ?_ |refine Fl.w rfl rfl rfl ⟨by omega, by omega, by dsimp only [hiK]; omega⟩ ?_ |(refine AWP.condD rfl ?_ ?_ <;> intro _ <;> try (exfalso; omega))));refine Fl.io rfl [(900, 50)] (shiftedRow_ok (A.drop ((k : Int) / 32).toNat) 0 (wx.drop _) (by rw [List.length_drop]; omega) (by omega)) rfl rfl (LeL.cons (AV.Le.sl (by rw [hd32]; congr 1; omega)) (LeL.refl _)) rfl trivial rfl rfl rfl rfl rfl ?_;(repeat' (first |refine Fl.v rfl rfl rfl ?_ |refine Fl.nilF ?_ |refine Fl.b rfl rfl rfl rfl ?_ |refine AWP.condT rfl ?_ |refine AWP.condF rfl ?_ |refine AWP.skip ?_ |fail));refine AWP.seqJ (G := List Int) (fun os => os.length = A.length ∧ WOk os ∧ val os = x / 2 ^ k) (fun os => St.of [] [(2, .ptr 2 0), (4, .ptr 4 0), (5, .ptr 5 0), (6, .row 50)] [(2, .cells [aB false, aW A] 35), (4, .cells [aB false, .v (.slice none 0 0)] 35), (5, .cells [aB false, .v (.slice none 0 0)] 35), (50, .row 1 eW (os ++ [0]) 62)]) ?_ ?_
    · (repeat' (first |refine Fl.v rfl rfl rfl ?_ |refine Fl.nilF ?_ |refine AWP.seq ?_ |refine AWP.region ?_ |refine AWP.block ?_));refine AWP.loop (G := Nat × List Int) (fun (i, os) => i ≤ A.length ∧ os.length = i ∧ WOk os ∧ val os = val A / 2 ^ k % BB i)
        (fun (i, os) => St.of [] [(1, aN k), (2, .ptr 2 0), (4, .ptr 4 0), (5, .ptr 5 0), (6, .row 50), (7, aN i)] [(2, .cells [aB false, aW A] 35), (4, .cells [aB false, .v (.slice none 0 0)] 35), (5, .cells [aB false, .v (.slice none 0 0)] 35), (50, .row 1 eW (os ++ (A.drop i ++ [0])) 62)])
        (fun (i, os) => A.length - i) (0, []) ⟨by omega, rfl, WOk.nil, by simp [val, BB_zero]⟩ ?_ ?_
      · refine Ent.of [] ?_ ?_ rfl rfl;(repeat' (first |exact True.intro |refine ⟨⟨AV.Le.refl _, rfl⟩, ?_⟩ |refine ⟨⟨⟨_, rfl, BLe.cells (LeL.refl _)⟩, rfl⟩, ?_⟩ |refine ⟨⟨⟨_, rfl, BLe.row ?_⟩, rfl⟩, ?_⟩ |refine ⟨⟨AV.Le.int ?_, rfl⟩, ?_⟩|fail))
        · omega
        · rw [hrow, List.nil_append, List.drop_zero]
      · intro ⟨i, os⟩ ⟨h0, h1, h3, h4⟩;have hW : WOk (os ++ (A.drop i ++ [0])) := h3.append ((wx.drop _).append (WOk.zeros 1))
        have hWl : (os ++ (A.drop i ++ [0])).length = A.length + 1 := by simp; omega
        (repeat' (first |refine Fl.v rfl rfl rfl ?_ |refine Fl.nilF ?_ |refine AWP.seq ?_ |refine AWP.region ?_ |refine Fl.w rfl rfl rfl (by first | exact True.intro | omega) ?_ |(refine AWP.condD rfl ?_ ?_ <;> intro _ <;> try (exfalso; omega)) |refine AWP.block ?_ |refine AWP.skip ?_ |refine AWP.exit ?_ |refine Fl.rel rfl rfl rfl rfl rfl rfl rfl rfl (by omega) (by first | omega | (simp; omega)) ?_ |(refine Fl.rldW rfl rfl rfl rfl rfl rfl rfl (fun _ => rfl) (fun _ => rfl) (by first | omega | (simp; omega)) (by assumption) ?_; intro _ _ _ _) |refine Fl.sumM rfl rfl rfl rfl rfl rfl ?_))
        · rename_i hlt x1 hx1 hx10 hx11 y1 hy1 hy10 hy11
          have hi : i < A.length := by rw [hWl] at hlt; omega
          rw [Int.toNat_natCast, ← h1, List.getElem?_append_right (by omega), Nat.sub_self, h1, List.getElem?_append_left (by rw [List.length_drop]; omega), List.getElem?_drop, Nat.add_zero] at hx1
          have hy' : A[i + 1]? = some y1 ∨ (A.length ≤ i + 1 ∧ y1 = 0) := by
            rw [show ((i : Int) + 1).toNat = i + 1 by omega, List.getElem?_append_right (by omega), h1, show i + 1 - i = 1 by omega] at hy1;rcases Nat.lt_or_ge (i + 1) A.length with h | h
            · rw [List.getElem?_append_left (by rw [List.length_drop]; omega), List.getElem?_drop] at hy1;exact .inl hy1
            · rw [List.getElem?_append_right (by rw [List.length_drop]; omega), List.length_drop, show 1 - (A.length - i) = 0 by omega] at hy1;injection hy1 with hy1;exact .inr ⟨h, hy1.symm⟩
          have hst := right_next hk wx h1 h4 hi hx1 hy';refine Fl.w rfl rfl rfl ⟨Int.ediv_nonneg (by omega) (Int.le_of_lt (Int.pow_pos (by omega))), Int.le_trans (Int.ediv_le_self _ (by omega)) (by omega), by omega, by omega⟩ ?_;(repeat' (first |refine Fl.v rfl rfl rfl ?_ |refine Fl.nilF ?_ |refine Fl.nil (fun _ => by kernel_rfl) ?_ |refine AWP.region ?_ |refine Fl.w rfl rfl rfl (by first | exact True.intro | omega) ?_ |refine Fl.rel rfl rfl rfl rfl rfl rfl rfl rfl (by omega) (by first | omega | (simp; omega)) ?_ |refine Fl.rst rfl rfl rfl rfl rfl rfl rfl rfl rfl rfl rfl (LeL.refl _) rfl (by first | omega | (simp; omega)) ?_|fail));refine LoopEnd.of (i + 1, os ++ [(x1 + 4294967296 * y1) / 2 ^ k % 4294967296]) ⟨by omega, by simp; omega, h3.append (WOk.cons (by omega) (by omega) WOk.nil), hst⟩ (by simp only; omega) ?_;refine Ent.of [] ?_ ?_ rfl rfl;(repeat' (first |exact True.intro |refine ⟨⟨AV.Le.refl _, rfl⟩, ?_⟩ |refine ⟨⟨⟨_, rfl, BLe.cells (LeL.refl _)⟩, rfl⟩, ?_⟩ |refine ⟨⟨⟨_, rfl, BLe.row ?_⟩, rfl⟩, ?_⟩|fail));rw [Int.toNat_natCast, hm32, Int.toNat_natCast, p32, show (x1 + y1 * 4294967296 % 18446744073709551616) % 18446744073709551616 = x1 + 4294967296 * y1 by omega];have hqn : 0 ≤ (x1 + 4294967296 * y1) / 2 ^ k := Int.ediv_nonneg (by omega) (by omega);rw [bitN_and32 hqn, Int.emod_emod_of_dvd _ (Int.dvd_refl _), List.set_append_right _ _ (by omega), show i - os.length = 0 by omega, dropc hx1, List.cons_append, List.set_cons_zero, List.append_assoc];rfl
        · rename_i hlt
          have hi : i = A.length := by rw [hWl] at hlt; omega
          refine JoinOk.of os ⟨by omega, h3, ?_⟩ ?_
          · rw [h4, hi, hsx];refine Int.emod_eq_of_lt (Int.ediv_nonneg hx (by omega)) ?_;have := val_lt wx;rw [hsx] at this;exact Int.lt_of_le_of_lt (Int.ediv_le_self _ hx) this
          · refine Ent.of [] ?_ ?_ rfl rfl;(repeat' (first |exact True.intro |refine ⟨⟨AV.Le.refl _, rfl⟩, ?_⟩ |refine ⟨⟨⟨_, rfl, BLe.cells (LeL.refl _)⟩, rfl⟩, ?_⟩ |refine ⟨⟨⟨_, rfl, BLe.row ?_⟩, rfl⟩, ?_⟩|fail));rw [hi, List.drop_of_length_le (Nat.le_refl _), List.nil_append]
    · intro os ⟨h0, h1, h3⟩;have hmk := rMake_ok false (os ++ [0]) (h1.append (WOk.zeros 1)) (by simp; omega);rw [val_snoc, Int.mul_zero, Int.add_zero, h3] at hmk;(repeat' (first |refine Fl.v rfl rfl rfl ?_ |refine AWP.region ?_));refine Fl.callF rfl 50 rfl hmk rfl rfl rfl (LeL.refl _) ?_;(repeat' (first |refine Fl.nilF ?_ |refine Fl.b rfl rfl rfl rfl ?_));refine JoinOk.of () trivial ?_;refine Ent.of [] ?_ ?_ rfl rfl;(repeat' (first |exact True.intro |refine ⟨⟨AV.Le.refl _, rfl⟩, ?_⟩ |refine ⟨⟨⟨_, rfl, BLe.cells (LeL.refl _)⟩, rfl⟩, ?_⟩ |refine ⟨⟨⟨_, rfl, BLe.cells ?_⟩, rfl⟩, ?_⟩|fail));have hq := Int.ediv_nonneg hx (show (0 : Int) ≤ 2 ^ k by omega);rw [show sg false (x / 2 ^ k) = x / 2 ^ k by simp [sg], decide_eq_false (show ¬ x / 2 ^ k < 0 by omega), show ((x / 2 ^ k).natAbs : Int) = x / 2 ^ k by omega];exact LeL.refl _
  intro _ _;(repeat' (first |refine Fl.v rfl rfl rfl ?_ |refine Fl.nilF ?_ |refine Fl.nil (fun _ => by kernel_rfl) ?_ |refine AWP.seq ?_ |refine AWP.region ?_ |refine Fl.b rfl rfl rfl rfl ?_ |refine Fl.skip rfl rfl ?_ |refine AWP.condF rfl ?_ |refine AWP.skip ?_ |refine AWP.ret ?_));refine RetOk.of rfl ?_;show AV.Le _ (.agg [aB (decide (x / 2 ^ k < 0)), aW (toW ((x / 2 ^ k).natAbs : Int))]);have hq := Int.ediv_nonneg hx (show (0 : Int) ≤ 2 ^ k by omega);rw [decide_eq_false (by omega), show ((x / 2 ^ k).natAbs : Int) = x / 2 ^ k by omega];exact AV.Le.refl _
end Go.Proofs.YtcaecieigoplbaaGreat
/- ref01.long, by several words: the walk. -/
namespace Go.Proofs.YtcaecieigoplbaaGreat
open Go.AL

set_option maxHeartbeats 2000000 in
theorem long_ok (x y : Int) (N m : Nat) (hx : 0 ≤ x) (hy : 0 < y) (hxl : (toW x).length ≤ 40000) (hm : (toW y).length = m + 2) (hN : (toW x).length = N + m) (hN2 : 2 ≤ N) : PureFn Tryz.prog 154 [aW (toW x), aW (toW y)] (.tup [aW (wdW N (x / y)), aW (toW (x % y))]) := by
  refine PureFn.of_body Tryz.func154 rfl Tryz.ntmps154 rfl rfl ?_;have wy := toW_ok y;have hsy := val_toW (show 0 ≤ y by omega);have hsx := val_toW hx;obtain ⟨w, hw⟩ : ∃ w, (toW y)[m + 1]? = some w := ⟨_, List.getElem?_eq_getElem (by omega)⟩;have ww := wy.get hw
  have hw0 : 0 < w := by
    have e : toW y = (toW y).take (m + 1) ++ [w] := by
      conv => lhs; rw [← List.take_length (l := toW y), hm, take_top hw]
    have h1 := NW.toW y;rw [e] at h1;have h2 := h1.last;omega
  refine AWP.seqS ?_;(repeat' (first |refine Fl.v rfl rfl rfl ?_ |refine Fl.nilF ?_ |refine AWP.region ?_));refine ⟨?_⟩;refine AWP.seqS ?_;(repeat' (first |refine Fl.v rfl rfl rfl ?_ |refine Fl.nilF ?_ |refine AWP.region ?_));refine ⟨?_⟩;refine AWP.seqJ (G := Nat) (fun k => k = 32 - lenB w.toNat ∧ w * 2 ^ k < 4294967296) (fun k => St.of [] [(0, aW (toW x)), (1, aW (toW y)), (6, aN k)] []) ?_ ?_
  · (repeat' (first |refine AWP.block ?_));refine AWP.loop (G := Nat) (fun k => w * 2 ^ k < 4294967296) (fun k => St.of [] [(0, aW (toW x)), (1, aW (toW y)), (6, aN k)] []) (fun k => 32 - k) 0 (by rw [Int.pow_zero]; omega) ?_ ?_
    · refine Ent.of [] ?_ ?_ rfl rfl;(repeat' (first |exact True.intro |refine ⟨⟨AV.Le.refl _, rfl⟩, ?_⟩|fail))
    · intro k hk;have hk32 := norm_loop hw0 hk;have h2 : (0 : Int) < 2 ^ k := Int.pow_pos (by omega);have hwk : 0 ≤ w * 2 ^ k := Int.mul_nonneg (by omega) (by omega);(repeat' (first |refine Fl.v rfl rfl rfl ?_ |refine Fl.nilF ?_ |refine AWP.seq ?_ |refine AWP.region ?_ |refine Fl.w rfl rfl rfl (by first | exact True.intro | omega) ?_ |(refine AWP.condD rfl ?_ ?_ <;> intro _ <;> try (exfalso; omega)) |refine AWP.block ?_ |refine AWP.skip ?_ |refine AWP.exit ?_ |(refine Fl.elW rfl rfl rfl rfl rfl rfl rfl rfl (by omega) (by omega) (by assumption) ?_; intro _ _ _ _)|fail))
      · rename_i z hz hz0 hz1 hlt;rw [show ((((toW y).length : Nat) : Int) - 1).toNat = m + 1 by omega, hw] at hz;injection hz with hz;subst hz;rw [Int.toNat_natCast] at hlt;refine LoopEnd.of (k + 1) ?_ (by omega) ?_
        · rw [Int.pow_succ, ← Int.mul_assoc]; omega
        · refine Ent.of [] ?_ ?_ rfl rfl;(repeat' (first |exact True.intro |refine ⟨⟨AV.Le.refl _, rfl⟩, ?_⟩|fail))
      · rename_i z hz hz0 hz1 hlt;rw [show ((((toW y).length : Nat) : Int) - 1).toNat = m + 1 by omega, hw] at hz;injection hz with hz;subst hz;rw [Int.toNat_natCast] at hlt;refine JoinOk.of k ⟨norm_of hw0 (by omega) hk, hk⟩ ?_;refine Ent.of [] ?_ ?_ rfl rfl;(repeat' (first |exact True.intro |refine ⟨⟨AV.Le.refl _, rfl⟩, ?_⟩|fail))
  intro k ⟨hk, hkb⟩;obtain ⟨n1, n2, n3, n4, n5⟩ := norm_facts hy hm hw hk;have h2 : (0 : Int) < 2 ^ k := Int.pow_pos (by omega);have hV : 0 < y * 2 ^ k := Int.mul_pos hy h2;have hX : 0 ≤ x * 2 ^ k := Int.mul_nonneg hx (by omega)
  have hp : (2 : Int) ^ k ≤ 4294967296 := by
    have : (2 : Int) ^ k ≤ 2 ^ 32 := pow_le_r (by omega) (by omega);rw [show (2 : Int) ^ 32 = 4294967296 from rfl] at this; exact this
  have hxB : x < BB (toW x).length := (toW_len_le hx _).1 (by omega)
  have hXB : x * 2 ^ k < BB ((toW x).length + 1) := by
    have a : x * 2 ^ k < BB (toW x).length * 2 ^ k := Int.mul_lt_mul_of_pos_right hxB h2;have b : BB (toW x).length * 2 ^ k ≤ BB (toW x).length * 4294967296 := Int.mul_le_mul_of_nonneg_left hp (Int.le_of_lt (BB_pos _));rw [BB_succ]; omega
  obtain ⟨U, hU⟩ : ∃ U, U = wdW ((toW x).length + 1) (val (toW x) * 2 ^ k) ++ [0] := ⟨_, rfl⟩
  have hUl : U.length = N + (m + 2) := by rw [hU, List.length_append, wdW_length]; dsimp only [List.length_cons, List.length_nil]; omega
  have wU : WOk U := by rw [hU]; exact (wdW_ok _ _).append (WOk.zeros 1)
  have hUv : val U = x * 2 ^ k := by
    rw [hU, val_snoc, hsx, val_wdW _ _ hX hXB]; omega
  have wV := toW_ok (y * 2 ^ k);have hVv := val_toW (show 0 ≤ y * 2 ^ k by omega);obtain ⟨v, hv⟩ : ∃ v, v = toW (y * 2 ^ k) := ⟨_, rfl⟩;rw [← hv] at n3 n4 wV hVv
  have hVB : y * 2 ^ k < BB (m + 2) := by
    have := val_lt wV;rwa [n3, hVv] at this
  refine AWP.seqJ (G := Unit) (fun _ => True) (fun _ => St.of [] [(1, aW (toW y)), (6, aN k), (7, .row 37)] [(37, .row 1 eW U 62)]) ?_ ?_
  · (repeat' (first |refine Fl.v rfl rfl rfl ?_ |refine AWP.region ?_));refine Fl.io rfl [(900, 35)] (shiftedRow_ok (toW x) k (toW_ok _) (by omega) n1) rfl rfl (LeL.refl _) rfl trivial rfl rfl rfl rfl rfl ?_;skip;refine Fl.lit rfl rfl rfl rfl rfl eW [0] rfl rfl rfl rfl (by intro _ _; rfl) rfl ?_;skip;refine Fl.ap rfl rfl rfl rfl rfl rfl rfl rfl rfl rfl rfl rfl rfl (fun _ => rfl) (fun _ => rfl) (AV.Le.refl _) (by simp only [wdW_length, List.length_nil, List.length_cons]; omega) (by simp only [wdW_length, List.length_nil, List.length_cons]; omega) ?_;(repeat' (first |refine Fl.v rfl rfl rfl ?_ |refine Fl.nilF ?_));refine JoinOk.of () trivial ?_;refine Ent.of [] ?_ ?_ rfl rfl;(repeat' (first |exact True.intro |refine ⟨⟨AV.Le.refl _, rfl⟩, ?_⟩ |refine ⟨⟨⟨_, rfl, BLe.row ?_⟩, rfl⟩, ?_⟩|fail));exact hU.symm
  intro _ _;obtain ⟨v0, hv0⟩ : ∃ v0, v0 = wdW ((toW y).length + 1) (val (toW y) * 2 ^ k) := ⟨_, rfl⟩
  have hv0l : v0.length = m + 3 := by rw [hv0, wdW_length]; omega
  refine AWP.seqJ (G := Unit) (fun _ => True) (fun _ => St.of [] [(6, aN k), (7, .row 37), (8, aW v)] [(37, .row 1 eW U 62)]) ?_ ?_
  · have c2 := shifted_ok (toW y) k wy (by omega) n1;rw [← hv0] at c2;(repeat' (first |refine Fl.v rfl rfl rfl ?_ |refine AWP.region ?_));refine Fl.call rfl c2 rfl rfl rfl (LeL.refl _) ?_;(repeat' (first |refine Fl.v rfl rfl rfl ?_ |refine Fl.nilF ?_ |refine Fl.w rfl rfl rfl (by first | exact True.intro | omega) ?_|fail));refine JoinOk.of () trivial ?_;refine Ent.of [] ?_ ?_ rfl rfl;(repeat' (first |exact True.intro |refine ⟨⟨AV.Le.refl _, rfl⟩, ?_⟩ |refine ⟨⟨⟨_, rfl, BLe.row rfl⟩, rfl⟩, ?_⟩ |refine ⟨⟨AV.Le.sl ?_, rfl⟩, ?_⟩|fail));rw [hv0, wdW_take _ _ _ (by omega), hsy, hv];exact wdW_toW (by omega) (by rw [← hv, n3]; omega)
  intro _ _;clear hU hv0 hv0l v0;refine AWP.seqS ?_;(repeat' (first |refine Fl.v rfl rfl rfl ?_ |refine Fl.nilF ?_ |refine AWP.region ?_));refine ⟨AWP.seqJ (G := List Int) (fun z => z = List.replicate N 0 ∧ z.length = N) (fun z => St.of [] [(6, aN k), (7, .row 37), (8, aW v), (9, aN (m + 2)), (10, .row 50)] [(37, .row 1 eW U 62), (50, .row 1 eW z 62)]) ?_ ?_⟩
  · (repeat' (first |refine Fl.v rfl rfl rfl ?_ |refine Fl.nilF ?_ |refine AWP.region ?_ |refine Fl.w rfl rfl rfl (by first | exact True.intro | omega) ?_ |refine Fl.make rfl rfl rfl rfl rfl rfl rfl rfl rfl rfl eW 0 (by exact LeL.refl _) (by rfl) (by first | omega | (dsimp only; omega)) (by first | omega | (dsimp only; omega)) (by first | omega | (dsimp only; omega)) ?_|fail));refine JoinOk.of (List.replicate N 0) ⟨rfl, by simp⟩ ?_;refine Ent.of [] ?_ ?_ rfl rfl;(repeat' (first |exact True.intro |refine ⟨⟨AV.Le.refl _, rfl⟩, ?_⟩ |refine ⟨⟨⟨_, rfl, BLe.row rfl⟩, rfl⟩, ?_⟩ |refine ⟨⟨⟨_, rfl, BLe.row ?_⟩, rfl⟩, ?_⟩ |refine ⟨⟨AV.Le.int ?_, rfl⟩, ?_⟩|fail))
    · omega
    · congr 1; omega
  intro z ⟨hz, hzl⟩;refine AWP.seqJ (G := List Int × Int) (fun (os, ρ) => DivInv U (y * 2 ^ k) (m + 2) N 0 os ρ) (fun (os, ρ) => St.of [] [(6, aN k), (7, .row 37), (10, .row 50)] [(37, .row 1 eW (wdW (m + 2) ρ ++ List.replicate N 0) 62), (50, .row 1 eW os 62)]) ?_ ?_
  · (repeat' (first |refine Fl.v rfl rfl rfl ?_ |refine Fl.nilF ?_ |refine AWP.seq ?_ |refine AWP.region ?_ |refine Fl.w rfl rfl rfl (by first | exact True.intro | omega) ?_ |refine AWP.block ?_));refine AWP.loop (G := Nat × List Int × Int) (fun (i, os, ρ) => DivInv U (y * 2 ^ k) (m + 2) N i os ρ)
      (fun (i, os, ρ) => St.of [] [(6, aN k), (7, .row 37), (8, aW v), (9, aN (m + 2)), (10, .row 50), (11, aN ((i : Int) - 1))] [(37, .row 1 eW (U.take i ++ (wdW (m + 2) ρ ++ List.replicate (N - i) 0)) 62), (50, .row 1 eW (List.replicate i 0 ++ os) 62)])
      (fun (i, os, ρ) => i) (N, [], val (U.drop N)) ?_ ?_ ?_
    · have hsp : val U = val (U.take N) + BB N * val (U.drop N) := by
        conv => lhs; rw [← List.take_append_drop N U, val_append]
        rw [List.length_take, Nat.min_eq_left (by omega)]
      have ht := val_bounds (k := N) wU (by omega);have hdn := val_nonneg (wU.drop N);refine ⟨Nat.le_refl _, by simp, WOk.nil, hdn, ?_, by simp [val]⟩;rcases Int.lt_or_le (val (U.drop N)) (y * 2 ^ k) with h | h
      · exact h
      · have a1 : BB N * (y * 2 ^ k) ≤ BB N * val (U.drop N) := Int.mul_le_mul_of_nonneg_left h (Int.le_of_lt (BB_pos _));have a2 : BB N * (BB (m + 1) * 2 ^ k) ≤ BB N * (y * 2 ^ k) := Int.mul_le_mul_of_nonneg_left n5 (Int.le_of_lt (BB_pos _));have a3 : x < BB (N + (m + 1)) := (toW_len_le hx _).1 (by omega);have a4 : x * 2 ^ k < BB (N + (m + 1)) * 2 ^ k := Int.mul_lt_mul_of_pos_right a3 h2;rw [BB_add] at a4;have a5 : BB N * BB (m + 1) * 2 ^ k = BB N * (BB (m + 1) * 2 ^ k) := Int.mul_assoc _ _ _;omega
    · refine Ent.of [] ?_ ?_ rfl rfl;(repeat' (first |exact True.intro |refine ⟨⟨AV.Le.refl _, rfl⟩, ?_⟩ |refine ⟨⟨⟨_, rfl, BLe.row ?_⟩, rfl⟩, ?_⟩ |refine ⟨⟨AV.Le.int ?_, rfl⟩, ?_⟩|fail))
      · omega
      · have hdl : (U.drop N).length = m + 2 := by rw [List.length_drop]; omega
        have := wdW_eq (wU.drop N);rw [hdl] at this;rw [← this, Nat.sub_self, List.replicate_zero, List.append_nil, List.take_append_drop]
      · rw [hz, List.append_nil]
    · intro ⟨i, os, ρ⟩ hd;refine AWP.seqS ?_;(repeat' (first |refine Fl.v rfl rfl rfl ?_ |refine Fl.nilF ?_ |refine AWP.seq ?_ |refine AWP.region ?_ |(refine AWP.condD rfl ?_ ?_ <;> intro _ <;> try (exfalso; omega)) |refine AWP.skip ?_ |refine AWP.exit ?_))
      · rename_i hi;obtain ⟨i', rfl⟩ : ∃ i', i = i' + 1 := ⟨i - 1, by omega⟩;have hiN : i' + 1 ≤ N := hd.hi;obtain ⟨u, hu⟩ : ∃ u, U[i']? = some u := ⟨_, List.getElem?_eq_getElem (by omega)⟩;have wu := wU.get hu;have hst := (hd.step hV hu wU).resolve_right (fun h => h hVB)
        have hml : (u :: wdW (m + 2) ρ).length = m + 3 := by rw [List.length_cons, wdW_length]
        have hrow : U.take (i' + 1) ++ (wdW (m + 2) ρ ++ List.replicate (N - (i' + 1)) 0) = U.take i' ++ (u :: wdW (m + 2) ρ) ++ List.replicate (N - (i' + 1)) 0 := by
          rw [take_top hu]; simp
        have hmv : val (u :: wdW (m + 2) ρ) = u + 4294967296 * ρ := by
          rw [val, val_wdW (m + 2) ρ hd.r0 (by have := hd.r1; omega)]
        have d : DigOk m (u :: wdW (m + 2) ρ) v := ⟨hml, n3, WOk.cons wu.1 wu.2 (wdW_ok _ _), wV, n4, by rw [hmv, hVv]; have := hd.r1; omega, by omega⟩
        have hend : ∀ ρ' : Int, 0 ≤ ρ' → ρ' < y * 2 ^ k → wdW (m + 2) ρ' ++ List.replicate (N - i') 0 = wdW (m + 3) ρ' ++ List.replicate (N - (i' + 1)) 0 := by
          intro ρ' h0 h1;rw [wdW_snoc0 (m + 2) ρ' h0 (by omega), show N - i' = N - (i' + 1) + 1 by omega, List.replicate_succ];simp
        obtain ⟨A, hA⟩ : ∃ A, A = U.take i' := ⟨_, rfl⟩;obtain ⟨mid, hmid⟩ : ∃ M, M = u :: wdW (m + 2) ρ := ⟨_, rfl⟩;obtain ⟨C, hC⟩ : ∃ C : List Int, C = List.replicate (N - (i' + 1)) 0 := ⟨_, rfl⟩;obtain ⟨O, hO⟩ : ∃ O, O = List.replicate (i' + 1) 0 ++ os := ⟨_, rfl⟩
        have hAl : A.length = i' := by rw [hA, List.length_take]; omega
        have hCl : C.length = N - (i' + 1) := by rw [hC, List.length_replicate]
        have hOl : O.length = N := by rw [hO, List.length_append, List.length_replicate]; have := hd.hl; omega
        have wA : WOk A := by rw [hA]; exact wU.take _
        have wC : WOk C := by rw [hC]; exact WOk.zeros _
        rw [← hmid] at d hst hml;rw [← hmid, ← hA, ← hC] at hrow;rw [← hC] at hend;refine ⟨AWP.seq (AWP.block ?_)⟩;refine AWP.ent (s' := St.of [] [(6, aN k), (7, .row 37), (8, aW v), (9, aN (m + 2)), (10, .row 50), (11, aN i')] [(37, .row 1 eW (A ++ mid ++ C) 62), (50, .row 1 eW O 62)]) ?_ ?_
        · refine Ent.of [] ?_ ?_ rfl rfl;(repeat' (first |exact True.intro |refine ⟨⟨AV.Le.refl _, rfl⟩, ?_⟩ |refine ⟨⟨⟨_, rfl, BLe.row ?_⟩, rfl⟩, ?_⟩ |refine ⟨⟨AV.Le.int ?_, rfl⟩, ?_⟩|fail))
          · omega
          · rw [hC] at hrow ⊢; exact hrow
          · exact hO.symm
        clear hrow hmv hz hzl z hC hmid hd hu wu u;have hm' := d.hm;have hbig := d.big;have wv := d.wv;have wW : WOk (A ++ mid ++ C) := (wA.append d.wm).append wC;obtain ⟨un, e0⟩ : ∃ x, mid[m + 2]? = some x := ⟨_, List.getElem?_eq_getElem (by omega)⟩;obtain ⟨u1, e1⟩ : ∃ x, mid[m + 1]? = some x := ⟨_, List.getElem?_eq_getElem (by omega)⟩;obtain ⟨u2, e2⟩ : ∃ x, mid[m]? = some x := ⟨_, List.getElem?_eq_getElem (by omega)⟩;obtain ⟨v1, f1⟩ : ∃ x, v[m + 1]? = some x := ⟨_, List.getElem?_eq_getElem (by omega)⟩;obtain ⟨v2, f2⟩ : ∃ x, v[m]? = some x := ⟨_, List.getElem?_eq_getElem (by omega)⟩;have b0 := d.wm.get e0;have b1 := d.wm.get e1;have b2 := d.wm.get e2;have c1 := d.wv.get f1;have c2 := d.wv.get f2;have c3 := d.top _ f1;have hf := d.facts e0 e1 e2 f1 f2;refine AWP.seqJ (G := Unit) (fun _ => True) (fun _ => St.of [] [(6, aN k), (7, .row 37), (8, aW v), (9, aN (m + 2)), (10, .row 50), (11, aN i'), (12, aU (un * 4294967296 + u1))] [(37, .row 1 eW (A ++ mid ++ C) 62), (50, .row 1 eW O 62)]) ?_ ?_
        · (repeat' (first |refine Fl.v rfl rfl rfl ?_ |refine Fl.nil (fun _ => by kernel_rfl) ?_ |refine AWP.region ?_ |refine Fl.w rfl rfl rfl (by first | exact True.intro | omega) ?_ |refine Fl.rel rfl rfl rfl rfl rfl rfl rfl rfl (by omega) (by first | omega | (simp; omega)) ?_ |(refine Fl.rldW rfl rfl rfl rfl rfl rfl rfl (fun _ => rfl) (fun _ => rfl) (by first | omega | (simp; omega)) (by assumption) ?_; intro _ _ _ _) |refine Fl.sumM rfl rfl rfl rfl rfl rfl ?_));rename_i x1 hx1 hx10 hx11 y1 hy1 hy10 hy11;rw [get_part (j := m + 2) (by omega) (by omega), e0] at hx1;rw [get_part (j := m + 1) (by omega) (by omega), e1] at hy1;injection hx1 with hx1;injection hy1 with hy1;subst hx1 hy1;refine JoinOk.of () trivial ?_;refine Ent.of [] ?_ ?_ rfl rfl;(repeat' (first |exact True.intro |refine ⟨⟨AV.Le.refl _, rfl⟩, ?_⟩ |refine ⟨⟨⟨_, rfl, BLe.row rfl⟩, rfl⟩, ?_⟩ |refine ⟨⟨AV.Le.int ?_, rfl⟩, ?_⟩|fail));rw [p32];omega
        intro _ _
        have f1' : v[((m : Int) + 2 - 1).toNat]? = some v1 := by rw [show ((m : Int) + 2 - 1).toNat = m + 1 by omega]; exact f1
        have f2' : v[((m : Int) + 2 - 2).toNat]? = some v2 := by rw [show ((m : Int) + 2 - 2).toNat = m by omega]; exact f2
        refine AWP.seqJ (G := Unit) (fun _ => True) (fun _ => St.of [] [(6, aN k), (7, .row 37), (8, aW v), (9, aN (m + 2)), (10, .row 50), (11, aN i'), (13, aU ((un * 4294967296 + u1) / v1)), (14, aU ((un * 4294967296 + u1) % v1))] [(37, .row 1 eW (A ++ mid ++ C) 62), (50, .row 1 eW O 62)]) ?_ ?_
        · (repeat' (first |refine Fl.v rfl rfl rfl ?_ |refine Fl.nil (fun _ => by kernel_rfl) ?_ |refine AWP.region ?_ |refine Fl.w rfl rfl rfl (by first | exact True.intro | omega) ?_ |refine Fl.w rfl rfl rfl ⟨by omega, by omega, by dsimp only [hiK]; omega⟩ ?_ |refine Fl.elK rfl rfl rfl rfl rfl rfl rfl rfl (by assumption) (by omega) ?_|fail));refine JoinOk.of () trivial ?_;refine Ent.of [] ?_ ?_ rfl rfl;(repeat' (first |exact True.intro |refine ⟨⟨AV.Le.refl _, rfl⟩, ?_⟩ |refine ⟨⟨⟨_, rfl, BLe.row rfl⟩, rfl⟩, ?_⟩|fail))
        intro _ _;obtain ⟨q0, hq0⟩ : ∃ q, q = (un * 4294967296 + u1) / v1 := ⟨_, rfl⟩;obtain ⟨r0, hr0⟩ : ∃ r, r = (un * 4294967296 + u1) % v1 := ⟨_, rfl⟩;have hdm := Int.mul_ediv_add_emod (un * 4294967296 + u1) v1;have hm0 := Int.emod_nonneg (un * 4294967296 + u1) (show v1 ≠ 0 by omega);have hm1 := Int.emod_lt_of_pos (un * 4294967296 + u1) (show 0 < v1 by omega);have hqn : 0 ≤ (un * 4294967296 + u1) / v1 := Int.ediv_nonneg (by omega) (by omega)
        have hqb : (un * 4294967296 + u1) / v1 ≤ 8589934592 := by
          rcases Int.lt_or_le 8589934592 ((un * 4294967296 + u1) / v1) with h | h
          · have : v1 * 8589934593 ≤ v1 * ((un * 4294967296 + u1) / v1) := Int.mul_le_mul_of_nonneg_left (by omega) (by omega);omega
          · exact h
        rw [← hq0] at hdm hqn hqb;rw [← hr0] at hdm hm0 hm1;rw [Int.mul_comm] at hdm;have hp' := d.pos;have hV' : 0 < val v := Int.lt_of_lt_of_le (BB_pos _) hp'.1;have hU' := val_nonneg d.wm
        have hQ0 : val mid / val v ≤ q0 := by
          obtain ⟨a, b, c, e⟩ := dig_facts d.hm d.hv d.wm d.wv e0 e1 e2 f1 f2;obtain ⟨s1, s2, s3, s4⟩ := quo_spec hV' hU';have hB := BB_pos m
          have t1 : val mid / val v * ((v1 * 4294967296) * BB m) ≤ val mid / val v * val v := Int.mul_le_mul_of_nonneg_left (by
            have : v1 * 4294967296 * BB m ≤ (v1 * 4294967296 + v2) * BB m := Int.mul_le_mul_of_nonneg_right (by omega) (by omega)
            omega) s3
          have t2 : ((un * 4294967296 + u1) * 4294967296 + u2 + 1) * BB m ≤ ((un * 4294967296 + u1 + 1) * 4294967296) * BB m := Int.mul_le_mul_of_nonneg_right (by omega) (by omega)
          have t3 : (val mid / val v * v1) * (4294967296 * BB m) < (un * 4294967296 + u1 + 1) * (4294967296 * BB m) := by
            have g1 : (val mid / val v * v1) * (4294967296 * BB m) = val mid / val v * ((v1 * 4294967296) * BB m) := by grind
            have g2 : (un * 4294967296 + u1 + 1) * (4294967296 * BB m) = ((un * 4294967296 + u1 + 1) * 4294967296) * BB m := by grind
            rw [g1, g2]; omega
          have t4 := Int.lt_of_mul_lt_mul_right t3 (by omega);rw [hq0];exact Int.le_ediv_of_mul_le (by omega) (by omega)
        refine AWP.seqJ (G := Int) (fun q => val mid / val v ≤ q ∧ q ≤ val mid / val v + 1 ∧ 0 ≤ q ∧ q < 4294967296) (fun q => St.of [] [(6, aN k), (7, .row 37), (8, aW v), (9, aN (m + 2)), (10, .row 50), (11, aN i'), (13, aU q)] [(37, .row 1 eW (A ++ mid ++ C) 62), (50, .row 1 eW O 62)]) ?_ ?_
        · refine AWP.block ?_;refine AWP.loop (G := Int × Int) (fun (q, r) => q * v1 + r = un * 4294967296 + u1 ∧ 0 ≤ r ∧ r < 4294967296 ∧ 0 ≤ q ∧ q ≤ 8589934592 ∧ val mid / val v ≤ q) (fun (q, r) => St.of [] [(6, aN k), (7, .row 37), (8, aW v), (9, aN (m + 2)), (10, .row 50), (11, aN i'), (13, aU q), (14, aU r)] [(37, .row 1 eW (A ++ mid ++ C) 62), (50, .row 1 eW O 62)]) (fun (q, r) => q.toNat) (q0, r0) ⟨hdm, hm0, by omega, hqn, hqb, hQ0⟩ ?_ ?_
          · refine Ent.of [] ?_ ?_ rfl rfl;(repeat' (first |exact True.intro |refine ⟨⟨AV.Le.refl _, rfl⟩, ?_⟩ |refine ⟨⟨⟨_, rfl, BLe.row rfl⟩, rfl⟩, ?_⟩ |refine ⟨⟨AV.Le.int ?_, rfl⟩, ?_⟩|fail))
            · exact hq0.symm
            · exact hr0.symm
          · intro ⟨q, r⟩ ⟨g0, g1, g2, g3, g4, g5⟩;refine AWP.seq ?_;(repeat' (first |refine Fl.v rfl rfl rfl ?_ |refine Fl.nilF ?_ |refine Fl.nil (fun _ => by kernel_rfl) ?_ |refine AWP.seq ?_ |refine AWP.region ?_ |refine Fl.w rfl rfl rfl (by first | exact True.intro | omega) ?_ |(refine Fl.mulW rfl rfl rfl rfl rfl (by omega) (by omega) (by omega) (by omega) ?_; intro _ _) |refine Fl.skip rfl rfl ?_ |refine AWP.condT rfl ?_ |(refine AWP.condD rfl ?_ ?_ <;> intro _ <;> try (exfalso; omega)) |refine AWP.block ?_ |refine AWP.skip ?_ |refine AWP.exit ?_ |refine Fl.elK rfl rfl rfl rfl rfl rfl rfl rfl (by assumption) (by omega) ?_ |refine Fl.rel rfl rfl rfl rfl rfl rfl rfl rfl (by omega) (by first | omega | (simp; omega)) ?_ |(refine Fl.rldW rfl rfl rfl rfl rfl rfl rfl (fun _ => rfl) (fun _ => rfl) (by first | omega | (simp; omega)) (by assumption) ?_; intro _ _ _ _) |refine Fl.sumM rfl rfl rfl rfl rfl rfl ?_ |(refine Fl.splitD rfl rfl ?_ ?_ <;> intro _ <;> try (exfalso; omega))))
            · rename_i h1 h2;have hq := d.down e0 e1 e2 f1 f2 g0 g1 g3 (.inl (by omega));have hs := d.stop (q := q - 1) (r := r + v1) e0 e1 e2 f1 f2 (by rw [Int.sub_mul]; omega) (by omega) (by omega) (.inr (by omega));refine JoinOk.of (q - 1) ⟨hq, hs.2, by omega, hs.1⟩ ?_;refine Ent.of [] ?_ ?_ rfl rfl;(repeat' (first |exact True.intro |refine ⟨⟨AV.Le.refl _, rfl⟩, ?_⟩ |refine ⟨⟨⟨_, rfl, BLe.row rfl⟩, rfl⟩, ?_⟩|fail))
              try omega
            · rename_i h1 h2;have hq := d.down e0 e1 e2 f1 f2 g0 g1 g3 (.inl (by omega));refine LoopEnd.of (q - 1, r + v1) ⟨by rw [Int.sub_mul]; omega, by omega, by omega, by omega, by omega, hq⟩ (by simp only; omega) ?_;refine Ent.of [] ?_ ?_ rfl rfl;(repeat' (first |exact True.intro |refine ⟨⟨AV.Le.refl _, rfl⟩, ?_⟩ |refine ⟨⟨⟨_, rfl, BLe.row rfl⟩, rfl⟩, ?_⟩|fail))
              try omega
            · rename_i h1 p0 p1 x2 hx2 hx20 hx21 h3 h2;rw [p32] at h3;rw [get_part (j := m) (by omega) (by omega), e2] at hx2;injection hx2 with hx2;subst hx2;have hqv : 0 ≤ q * v2 := Int.mul_nonneg g3 c2.1;have hqv2 : q * v2 ≤ 4294967295 * v2 := Int.mul_le_mul_of_nonneg_right (by omega) c2.1;have hq := d.down e0 e1 e2 f1 f2 g0 g1 g3 (.inr (by omega));have hQ := (quo_spec hV' hU').2.2.1;have hs := d.stop (q := q - 1) (r := r + v1) e0 e1 e2 f1 f2 (by rw [Int.sub_mul]; omega) (by omega) (by omega) (.inr (by omega));refine JoinOk.of (q - 1) ⟨hq, hs.2, by omega, hs.1⟩ ?_;refine Ent.of [] ?_ ?_ rfl rfl;(repeat' (first |exact True.intro |refine ⟨⟨AV.Le.refl _, rfl⟩, ?_⟩ |refine ⟨⟨⟨_, rfl, BLe.row rfl⟩, rfl⟩, ?_⟩ |refine ⟨⟨AV.Le.int ?_, rfl⟩, ?_⟩|fail))
              try omega
            · rename_i h1 p0 p1 x2 hx2 hx20 hx21 h3 h2;rw [p32] at h3;rw [get_part (j := m) (by omega) (by omega), e2] at hx2;injection hx2 with hx2;subst hx2;have hqv : 0 ≤ q * v2 := Int.mul_nonneg g3 c2.1;have hqv2 : q * v2 ≤ 4294967295 * v2 := Int.mul_le_mul_of_nonneg_right (by omega) c2.1;have hq := d.down e0 e1 e2 f1 f2 g0 g1 g3 (.inr (by omega));have hQ := (quo_spec hV' hU').2.2.1;refine LoopEnd.of (q - 1, r + v1) ⟨by rw [Int.sub_mul]; omega, by omega, by omega, by omega, by omega, hq⟩ (by simp only; omega) ?_;refine Ent.of [] ?_ ?_ rfl rfl;(repeat' (first |exact True.intro |refine ⟨⟨AV.Le.refl _, rfl⟩, ?_⟩ |refine ⟨⟨⟨_, rfl, BLe.row rfl⟩, rfl⟩, ?_⟩ |refine ⟨⟨AV.Le.int ?_, rfl⟩, ?_⟩|fail))
              try omega
            · rename_i h1 p0 p1 x2 hx2 hx20 hx21 h3;rw [p32] at h3;rw [get_part (j := m) (by omega) (by omega), e2] at hx2;injection hx2 with hx2;subst hx2;have hqv : 0 ≤ q * v2 := Int.mul_nonneg g3 c2.1;have hqv2 : q * v2 ≤ 4294967295 * v2 := Int.mul_le_mul_of_nonneg_right (by omega) c2.1;have hs := d.stop (q := q) (r := r) e0 e1 e2 f1 f2 g0 g1 g3 (.inl ⟨by omega, by omega⟩);refine JoinOk.of q ⟨g5, hs.2, g3, hs.1⟩ ?_;refine Ent.of [] ?_ ?_ rfl rfl;(repeat' (first |exact True.intro |refine ⟨⟨AV.Le.refl _, rfl⟩, ?_⟩ |refine ⟨⟨⟨_, rfl, BLe.row rfl⟩, rfl⟩, ?_⟩|fail))
        · intro q ⟨g0, g1, g2, g3⟩;refine AWP.seqS ?_;(repeat' (first |refine Fl.v rfl rfl rfl ?_ |refine Fl.nilF ?_ |refine AWP.region ?_));refine ⟨?_⟩;refine AWP.seqJ (G := List Int × Int) (fun (lo, b) => lo.length = m + 3 ∧ WOk lo ∧ 0 ≤ b ∧ b ≤ 1 ∧ val lo = val mid - q * val v + b * BB (m + 3)) (fun (lo, b) => St.of [] [(6, aN k), (7, .row 37), (8, aW v), (9, aN (m + 2)), (10, .row 50), (11, aN i'), (13, aU q), (16, aU b)] [(37, .row 1 eW (A ++ lo ++ C) 62), (50, .row 1 eW O 62)]) ?_ ?_
          · (repeat' (first |refine Fl.v rfl rfl rfl ?_ |refine Fl.nilF ?_ |refine AWP.seq ?_ |refine AWP.region ?_ |refine AWP.block ?_));refine AWP.loop (G := List Int × Int × Int) (fun (lo, c, b) => lo.length ≤ m + 3 ∧ WOk lo ∧ 0 ≤ c ∧ c < 4294967296 ∧ 0 ≤ b ∧ b ≤ 1 ∧ (lo.length = m + 3 → c = 0) ∧ val lo = val (mid.take lo.length) - q * val (v.take lo.length) + (c + b) * BB lo.length) (fun (lo, c, b) => St.of [] [(6, aN k), (7, .row 37), (8, aW v), (9, aN (m + 2)), (10, .row 50), (11, aN i'), (13, aU q), (15, aU c), (16, aU b), (17, aN lo.length)] [(37, .row 1 eW (A ++ (lo ++ mid.drop lo.length) ++ C) 62), (50, .row 1 eW O 62)]) (fun (lo, c, b) => m + 3 - lo.length) ([], 0, 0) ⟨by simp, WOk.nil, by omega, by omega, by omega, by omega, by simp, by simp [val]⟩ ?_ ?_
            · refine Ent.of [] ?_ ?_ rfl rfl;(repeat' (first |exact True.intro |refine ⟨⟨AV.Le.refl _, rfl⟩, ?_⟩ |refine ⟨⟨⟨_, rfl, BLe.row rfl⟩, rfl⟩, ?_⟩|fail))
            · intro ⟨lo, c, b⟩ ⟨k0, k1, k2, k3, k4, k5, k6, k7⟩;have hW2 : WOk (A ++ (lo ++ mid.drop lo.length) ++ C) := (wA.append (k1.append (d.wm.drop _))).append wC
              have hml2 : (lo ++ mid.drop lo.length).length = mid.length := by rw [List.length_append, List.length_drop]; omega
              (repeat' (first |refine Fl.v rfl rfl rfl ?_ |refine Fl.nilF ?_ |refine AWP.seq ?_ |refine AWP.region ?_ |refine Fl.w rfl rfl rfl (by first | exact True.intro | omega) ?_ |(refine Fl.mulW rfl rfl rfl rfl rfl (by omega) (by omega) (by omega) (by omega) ?_; intro _ _) |(refine AWP.condD rfl ?_ ?_ <;> intro _ <;> try (exfalso; omega)) |refine AWP.block ?_ |refine AWP.skip ?_ |refine AWP.exit ?_ |(refine Fl.elW rfl rfl rfl rfl rfl rfl rfl rfl (by omega) (by omega) (by assumption) ?_; intro _ _ _ _) |refine Fl.rel rfl rfl rfl rfl rfl rfl rfl rfl (by omega) (by first | omega | (simp; omega)) ?_ |(refine Fl.rldW rfl rfl rfl rfl rfl rfl rfl (fun _ => rfl) (fun _ => rfl) (by first | omega | (simp; omega)) (by assumption) ?_; intro _ _ _ _) |refine Fl.rst rfl rfl rfl rfl rfl rfl rfl rfl rfl rfl rfl (LeL.refl _) rfl (by first | omega | (simp; omega)) ?_ |refine Fl.sumM rfl rfl rfl rfl rfl rfl ?_))
              · rename_i hi1 hi2 x1 hx1 hx10 hx11 p0 p1 y1 hy1 hy10 hy11;rw [Int.toNat_natCast] at hx1;rw [get_part (j := lo.length) (by omega) (by omega), get_drop rfl] at hy1;obtain ⟨X, hX'⟩ : ∃ X, X = q * x1 := ⟨_, rfl⟩;rw [← hX'] at p0 p1;obtain ⟨w1, hw1⟩ : ∃ w1, w1 = (y1 - (X + c) % 4294967296 - b) % 4294967296 := ⟨_, rfl⟩;obtain ⟨b', hb'⟩ : ∃ b', b' = 1 - (y1 + 4294967296 - (X + c) % 4294967296 - b) / 4294967296 := ⟨_, rfl⟩;have hst2 := sub_step (w := w1) (b' := (X + c) / 4294967296 + b') rfl hy1 hx1 k7 (by rw [← hX']; omega)
                have hXm : X ≤ 4294967295 * 4294967295 := by
                  rw [hX'];have a : q * x1 ≤ 4294967295 * x1 := Int.mul_le_mul_of_nonneg_right (by omega) hx10;omega
                refine LoopEnd.of (lo ++ [w1], (X + c) / 4294967296, b') ⟨by simp; omega, k1.append (WOk.cons (by omega) (by omega) WOk.nil), by omega, by omega, by omega, by omega, fun h => by simp at h; omega, by rw [List.length_append]; exact hst2⟩ (by simp only [List.length_append, List.length_cons, List.length_nil]; omega) ?_;refine Ent.of [] ?_ ?_ rfl rfl;(repeat' (first |exact True.intro |refine ⟨⟨AV.Le.refl _, rfl⟩, ?_⟩ |refine ⟨⟨⟨_, rfl, BLe.row rfl⟩, rfl⟩, ?_⟩ |refine ⟨⟨⟨_, rfl, BLe.row ?_⟩, rfl⟩, ?_⟩ |refine ⟨⟨AV.Le.int ?_, rfl⟩, ?_⟩|fail))
                · rw [p32, hX', Int.add_comm]
                · rw [p32, hb', bitN_and32 (show (0 : Int) ≤ c + q * x1 by omega), ← hX'];omega
                · simp
                · rw [show (lo ++ [w1]).length = lo.length + 1 by simp];refine (set_part (j := lo.length) (by omega) (by omega)).trans (congrArg (fun M => A ++ M ++ C) (set_drop (w' := w1) rfl (by omega) ?_));rw [bitN_and32 (show (0 : Int) ≤ c + q * x1 by omega), ← hX', bitN_and32 (by omega)];omega
              · rename_i hi1 hi2 y1 hy1 hy10 hy11;rw [get_part (j := lo.length) (by omega) (by omega), get_drop rfl] at hy1
                have hl2 : lo.length = m + 2 := by omega
                obtain ⟨w1, hw1⟩ : ∃ w1, w1 = (y1 - c - b) % 4294967296 := ⟨_, rfl⟩;obtain ⟨b', hb'⟩ : ∃ b', b' = 1 - (y1 + 4294967296 - c - b) / 4294967296 := ⟨_, rfl⟩;have hst2 := sub_last (V := val v) (q := q) (w := w1) (b' := b') rfl hy1 (by rw [k7, hl2, show v.take (m + 2) = v by rw [← d.hv, List.take_length]]) (by omega);refine LoopEnd.of (lo ++ [w1], 0, b') ⟨by simp; omega, k1.append (WOk.cons (by omega) (by omega) WOk.nil), by omega, by omega, by omega, by omega, fun _ => rfl, ?_⟩ (by simp only [List.length_append, List.length_cons, List.length_nil]; omega) ?_
                · rw [List.length_append, Int.zero_add, show v.take (lo.length + [w1].length) = v from List.take_of_length_le (by rw [d.hv]; simp; omega)]; exact hst2
                refine Ent.of [] ?_ ?_ rfl rfl;(repeat' (first |exact True.intro |refine ⟨⟨AV.Le.refl _, rfl⟩, ?_⟩ |refine ⟨⟨⟨_, rfl, BLe.row rfl⟩, rfl⟩, ?_⟩ |refine ⟨⟨⟨_, rfl, BLe.row ?_⟩, rfl⟩, ?_⟩ |refine ⟨⟨AV.Le.int ?_, rfl⟩, ?_⟩|fail))
                · rw [p32]; omega
                · rw [p32, hb', bitN_and32 (show (0 : Int) ≤ c by omega)];omega
                · simp
                · rw [show (lo ++ [w1]).length = lo.length + 1 by simp];refine (set_part (j := lo.length) (by omega) (by omega)).trans (congrArg (fun M => A ++ M ++ C) (set_drop (w' := w1) rfl (by omega) ?_));rw [bitN_and32 (show (0 : Int) ≤ c by omega), bitN_and32 (by omega)];omega
              · rename_i hi1
                have hl : lo.length = m + 3 := by omega
                refine JoinOk.of (lo, b) ⟨hl, k1, k4, k5, ?_⟩ ?_
                · rw [k7, hl, k6 hl, Int.zero_add, show v.take (m + 3) = v from List.take_of_length_le (by rw [d.hv]; omega), show mid.take (m + 3) = mid from List.take_of_length_le (by omega)]
                · refine Ent.of [] ?_ ?_ rfl rfl;(repeat' (first |exact True.intro |refine ⟨⟨AV.Le.refl _, rfl⟩, ?_⟩ |refine ⟨⟨⟨_, rfl, BLe.row rfl⟩, rfl⟩, ?_⟩ |refine ⟨⟨⟨_, rfl, BLe.row ?_⟩, rfl⟩, ?_⟩|fail));rw [List.drop_eq_nil_of_le (by omega), List.append_nil]
          · intro ⟨lo, b⟩ ⟨k0, k1, k2, k3, k4⟩;have hW2 : WOk (A ++ lo ++ C) := (wA.append k1).append wC;have hlo := val_lt k1;have hlo0 := val_nonneg k1;rw [k0] at hlo
            have hml3 : lo.length = mid.length := by omega
            have hr0' := Int.emod_nonneg (val mid) (show val v ≠ 0 by omega);have hr1' := Int.emod_lt_of_pos (val mid) hV';rw [hVv] at hr1'
            have hq1 : val mid / val v = val mid / (y * 2 ^ k) := by rw [hVv]
            have hr2 : val mid % val v = val mid % (y * 2 ^ k) := by rw [hVv]
            refine AWP.seqJ (G := Unit) (fun _ => True) (fun _ => St.of [] [(6, aN k), (7, .row 37), (8, aW v), (9, aN (m + 2)), (10, .row 50), (11, aN i'), (13, aU (val mid / val v))] [(37, .row 1 eW (A ++ wdW (m + 3) (val mid % val v) ++ C) 62), (50, .row 1 eW O 62)]) ?_ ?_
            · (repeat' (first |refine Fl.v rfl rfl rfl ?_ |refine Fl.nilF ?_ |refine AWP.seq ?_ |refine AWP.region ?_ |(refine AWP.condD rfl ?_ ?_ <;> intro _ <;> try (exfalso; omega)) |refine AWP.block ?_ |refine AWP.skip ?_ |refine Fl.sumM rfl rfl rfl rfl rfl rfl ?_))
              · rename_i h1
                have hβ1 : b = 1 := by omega
                rw [hβ1, Int.one_mul] at k4;obtain ⟨r1, r2⟩ := dig_end1 hV' hU' g0 g1 (by omega);have hQn := (quo_spec hV' hU').2.2.1;refine AWP.loop (G := List Int × Int) (fun (hi, c) => hi.length ≤ m + 3 ∧ WOk hi ∧ 0 ≤ c ∧ c ≤ 1 ∧ val hi + c * BB hi.length = val (lo.take hi.length) + val (v.take hi.length)) (fun (hi, c) => St.of [] [(6, aN k), (7, .row 37), (8, aW v), (9, aN (m + 2)), (10, .row 50), (11, aN i'), (13, aU (q - 1)), (20, aU c), (21, aN hi.length)] [(37, .row 1 eW (A ++ (hi ++ lo.drop hi.length) ++ C) 62), (50, .row 1 eW O 62)]) (fun (hi, c) => m + 3 - hi.length) ([], 0) ⟨by simp, WOk.nil, by omega, by omega, by simp [val]⟩ ?_ ?_
                · refine Ent.of [] ?_ ?_ rfl rfl;(repeat' (first |exact True.intro |refine ⟨⟨AV.Le.refl _, rfl⟩, ?_⟩ |refine ⟨⟨⟨_, rfl, BLe.row rfl⟩, rfl⟩, ?_⟩ |refine ⟨⟨AV.Le.int ?_, rfl⟩, ?_⟩|fail));omega
                · intro ⟨hi, c⟩ ⟨j0, j1, j2, j3, j4⟩;have hW3 : WOk (A ++ (hi ++ lo.drop hi.length) ++ C) := (wA.append (j1.append (k1.drop _))).append wC
                  have hml4 : (hi ++ lo.drop hi.length).length = mid.length := by rw [List.length_append, List.length_drop]; omega
                  (repeat' (first |refine Fl.v rfl rfl rfl ?_ |refine Fl.nilF ?_ |refine AWP.seq ?_ |refine AWP.region ?_ |refine Fl.w rfl rfl rfl (by first | exact True.intro | omega) ?_ |(refine AWP.condD rfl ?_ ?_ <;> intro _ <;> try (exfalso; omega)) |refine AWP.block ?_ |refine AWP.skip ?_ |refine AWP.exit ?_ |(refine Fl.elW rfl rfl rfl rfl rfl rfl rfl rfl (by omega) (by omega) (by assumption) ?_; intro _ _ _ _) |refine Fl.rel rfl rfl rfl rfl rfl rfl rfl rfl (by omega) (by first | omega | (simp; omega)) ?_ |(refine Fl.rldW rfl rfl rfl rfl rfl rfl rfl (fun _ => rfl) (fun _ => rfl) (by first | omega | (simp; omega)) (by assumption) ?_; intro _ _ _ _) |refine Fl.rst rfl rfl rfl rfl rfl rfl rfl rfl rfl rfl rfl (LeL.refl _) rfl (by first | omega | (simp; omega)) ?_|fail))
                  · rename_i hi0 z hz hz0 hz1 hi2 x1 hx1 hx10 hx11;rw [Int.toNat_natCast] at hx1;rw [get_part (j := hi.length) (by omega) (by omega), get_drop rfl] at hz;obtain ⟨s, hs⟩ : ∃ s, s = z + x1 + c := ⟨_, rfl⟩;have hst2 := add_step (w := s % 4294967296) (c' := s / 4294967296) rfl hz hx1 j4 (by omega);refine LoopEnd.of (hi ++ [s % 4294967296], s / 4294967296) ⟨by simp; omega, j1.append (WOk.cons (by omega) (by omega) WOk.nil), by omega, by omega, by rw [List.length_append]; exact hst2⟩ (by simp only [List.length_append, List.length_cons, List.length_nil]; omega) ?_;refine Ent.of [] ?_ ?_ rfl rfl;(repeat' (first |exact True.intro |refine ⟨⟨AV.Le.refl _, rfl⟩, ?_⟩ |refine ⟨⟨⟨_, rfl, BLe.row rfl⟩, rfl⟩, ?_⟩ |refine ⟨⟨⟨_, rfl, BLe.row ?_⟩, rfl⟩, ?_⟩ |refine ⟨⟨AV.Le.int ?_, rfl⟩, ?_⟩|fail))
                    · rw [p32]; omega
                    · simp
                    · rw [show (hi ++ [s % 4294967296]).length = hi.length + 1 by simp];refine (set_part (j := hi.length) (by omega) (by omega)).trans (congrArg (fun M => A ++ M ++ C) (set_drop (w' := s % 4294967296) rfl (by omega) ?_));rw [bitN_and32 (by omega)];omega
                  · rename_i hi0 z hz hz0 hz1 hi2;rw [get_part (j := hi.length) (by omega) (by omega), get_drop rfl] at hz
                    have hl2 : hi.length = m + 2 := by omega
                    obtain ⟨s, hs⟩ : ∃ s, s = z + c := ⟨_, rfl⟩;have hst2 := add_last (V := val v) (w := s % 4294967296) (c' := s / 4294967296) rfl hz (by rw [j4, hl2, show v.take (m + 2) = v by rw [← d.hv, List.take_length]]) (by omega);refine LoopEnd.of (hi ++ [s % 4294967296], s / 4294967296) ⟨by simp; omega, j1.append (WOk.cons (by omega) (by omega) WOk.nil), by omega, by omega, ?_⟩ (by simp only [List.length_append, List.length_cons, List.length_nil]; omega) ?_
                    · rw [List.length_append, show v.take (hi.length + [s % 4294967296].length) = v from List.take_of_length_le (by rw [d.hv]; simp; omega)]; exact hst2
                    refine Ent.of [] ?_ ?_ rfl rfl;(repeat' (first |exact True.intro |refine ⟨⟨AV.Le.refl _, rfl⟩, ?_⟩ |refine ⟨⟨⟨_, rfl, BLe.row rfl⟩, rfl⟩, ?_⟩ |refine ⟨⟨⟨_, rfl, BLe.row ?_⟩, rfl⟩, ?_⟩ |refine ⟨⟨AV.Le.int ?_, rfl⟩, ?_⟩|fail))
                    · rw [p32]; omega
                    · simp
                    · rw [show (hi ++ [s % 4294967296]).length = hi.length + 1 by simp];refine (set_part (j := hi.length) (by omega) (by omega)).trans (congrArg (fun M => A ++ M ++ C) (set_drop (w' := s % 4294967296) rfl (by omega) ?_));rw [bitN_and32 (by omega)];omega
                  · rename_i hi0
                    have hhl : hi.length = m + 3 := by omega
                    have hh0 := val_nonneg j1;have hh1 := val_lt j1;rw [hhl] at hh1;rw [hhl, show v.take (m + 3) = v from List.take_of_length_le (by rw [d.hv]; omega), show lo.take (m + 3) = lo from List.take_of_length_le (by omega)] at j4;have hpB := hp'.2
                    have hB2 : BB (m + 2) ≤ BB (m + 3) := by rw [show m + 3 = m + 2 + 1 from rfl, BB_succ (m + 2)]; have := BB_pos (m + 2); omega
                    have ht1 : val mid % val v < BB (m + 3) := by have := Int.emod_lt_of_pos (val mid) hV'; omega
                    have hback := add_carry (BB_pos (m + 3)) (t := val mid % val v) (by rw [j4, k4, ← r2]; omega) hh0 hh1 hr0' ht1;have hF := wdW_eq j1;rw [hhl, hback] at hF;refine JoinOk.of () trivial ?_;refine Ent.of [] ?_ ?_ rfl rfl;(repeat' (first |exact True.intro |refine ⟨⟨AV.Le.refl _, rfl⟩, ?_⟩ |refine ⟨⟨⟨_, rfl, BLe.row rfl⟩, rfl⟩, ?_⟩ |refine ⟨⟨⟨_, rfl, BLe.row ?_⟩, rfl⟩, ?_⟩ |refine ⟨⟨AV.Le.int ?_, rfl⟩, ?_⟩|fail))
                    · exact r1
                    · rw [List.drop_eq_nil_of_le (by omega), List.append_nil, ← hF]
              · rename_i h1
                have hβ0 : b = 0 := by omega
                rw [hβ0, Int.zero_mul, Int.add_zero] at k4;obtain ⟨r1, r2⟩ := dig_end0 hV' hU' g0 g1 (by omega);have hF := wdW_eq k1;rw [k0, k4, r2] at hF;refine JoinOk.of () trivial ?_;refine Ent.of [] ?_ ?_ rfl rfl;(repeat' (first |exact True.intro |refine ⟨⟨AV.Le.refl _, rfl⟩, ?_⟩ |refine ⟨⟨⟨_, rfl, BLe.row rfl⟩, rfl⟩, ?_⟩ |refine ⟨⟨⟨_, rfl, BLe.row ?_⟩, rfl⟩, ?_⟩ |refine ⟨⟨AV.Le.int ?_, rfl⟩, ?_⟩|fail))
                · exact r1
                · rw [← hF]
            · intro _ _;have hwl : (wdW (m + 3) (val mid % val v)).length = m + 3 := wdW_length _ _;(repeat' (first |refine Fl.v rfl rfl rfl ?_ |refine Fl.nilF ?_ |refine AWP.region ?_ |refine Fl.w rfl rfl rfl (by first | exact True.intro | omega) ?_ |refine Fl.rel rfl rfl rfl rfl rfl rfl rfl rfl (by omega) (by first | omega | (simp; omega)) ?_ |refine Fl.rst rfl rfl rfl rfl rfl rfl rfl rfl rfl rfl rfl (LeL.refl _) rfl (by first | omega | (simp; omega)) ?_|fail));refine LoopEnd.of (i', val mid / (y * 2 ^ k) :: os, val mid % (y * 2 ^ k)) hst (by simp only; omega) ?_;refine Ent.of [] ?_ ?_ rfl rfl;(repeat' (first |exact True.intro |refine ⟨⟨AV.Le.refl _, rfl⟩, ?_⟩ |refine ⟨⟨⟨_, rfl, BLe.row ?_⟩, rfl⟩, ?_⟩|fail))
              · rw [hend _ hst.r0 hst.r1, ← hr2, ← List.append_assoc, hA]
              · rw [hO];refine set_zeros (by omega) rfl ?_;have hqB : val mid / val v < 4294967296 := Int.ediv_lt_of_lt_mul hV' d.lt;have hqn := (quo_spec hV' hU').2.2.1;rw [← hq1];exact Int.emod_eq_of_lt hqn hqB
      · have hi : i = 0 := by omega
        subst hi;refine JoinOk.of (os, ρ) hd ?_;refine Ent.of [] ?_ ?_ rfl rfl;(repeat' (first |exact True.intro |refine ⟨⟨AV.Le.refl _, rfl⟩, ?_⟩ |refine ⟨⟨⟨_, rfl, BLe.row rfl⟩, rfl⟩, ?_⟩|fail))
  · intro ⟨os, ρ⟩ hd;have hd : DivInv U (y * 2 ^ k) (m + 2) N 0 os ρ := hd;have hv1 := hd.hv;rw [List.drop_zero, hUv] at hv1;obtain ⟨r1, r2⟩ := over_end hv1 hd.r0 hd.r1;obtain ⟨s1, s2⟩ := div_shift (x := x) (k := k) hy hx;have hr1 := hd.r1;have hr0 := hd.r0;have hol := hd.hl
    have hu : val (wdW (m + 2) ρ ++ List.replicate N 0) = ρ := by
      rw [val_append, val_zeros, val_wdW (m + 2) ρ hd.r0 (by omega)]; omega
    have hul : (wdW (m + 2) ρ ++ List.replicate N 0).length = N + (m + 2) := by
      rw [List.length_append, wdW_length, List.length_replicate]; omega
    have htr := rMake_ok false (wdW (m + 2) ρ ++ List.replicate N 0) ((wdW_ok _ _).append (WOk.zeros _)) (by omega);rw [hu, show sg false ρ = ρ by simp [sg]] at htr
    have hρl : (toW ρ).length ≤ 40000 := by
      have := (toW_len_le hd.r0 (m + 2)).2 (by omega);omega
    (repeat' (first |refine Fl.v rfl rfl rfl ?_ |refine AWP.seq ?_ |refine AWP.region ?_));refine Fl.callF rfl 37 rfl htr rfl rfl rfl (LeL.refl _) ?_;(repeat' (first |refine Fl.v rfl rfl rfl ?_ |refine Fl.w rfl rfl rfl (by first | exact True.intro | omega) ?_|fail));refine Fl.call rfl (rShiftR_ok ρ k hd.r0 hρl (by omega)) rfl rfl rfl (LeL.cons (AV.Le.refl _) (LeL.cons (AV.Le.int (by omega)) LeL.nil)) ?_;(repeat' (first |refine Fl.v rfl rfl rfl ?_ |refine Fl.nilF ?_ |refine AWP.ret ?_));refine RetOk.ent (Ent.freeze 50 rfl) ?_;refine RetOk.of rfl ?_;have ho := wdW_eq hd.wo;rw [show os.length = N by omega, r1, s1] at ho;rw [show ((ρ / 2 ^ k).natAbs : Int) = ρ / 2 ^ k from Int.natAbs_of_nonneg (Int.ediv_nonneg hr0 (by omega)), ← ho, r2, s2];exact AV.Le.refl _
end Go.Proofs.YtcaecieigoplbaaGreat
namespace Go.AL
end Go.AL
namespace Go.Proofs.YtcaecieigoplbaaGreat
open Go.AL

theorem rNeg_ok (x : Int) (hx : lenI x ≤ 100000) : PureFn Tryz.prog 106 [aX x] (aX (-x)) := by
  refine PureFn.of_body Tryz.func106 rfl Tryz.ntmps106 rfl rfl ?_;have hv : val (toW x.natAbs) = (x.natAbs : Int) := val_toW (by omega)
  have hsg : sg (!decide (x < 0)) (val (toW x.natAbs)) = -x := by
    rw [hv];by_cases h : x < 0
    · simp [sg, h]; omega
    · simp [sg, h]; omega
  have hm := rMake_ok (!decide (x < 0)) (toW x.natAbs) (toW_ok _) hx;rw [hsg] at hm;(repeat' (first |refine Fl.v rfl rfl rfl ?_ |refine Fl.nilF ?_ |refine AWP.seq ?_ |refine AWP.region ?_ |refine Fl.b rfl rfl rfl rfl ?_));refine Fl.call rfl (hm) rfl rfl rfl (LeL.refl _) ?_;(repeat' (first |refine Fl.nilF ?_ |refine Fl.b rfl rfl rfl rfl ?_ |refine AWP.ret ?_));exact RetOk.of rfl (AV.Le.refl _)
theorem rSub_ok (x y : Int) (hx : lenI x ≤ 40000) (hy : lenI y ≤ 40000) : PureFn Tryz.prog 61 [aX x, aX y] (aX (x - y)) := by
  refine PureFn.of_body Tryz.func61 rfl Tryz.ntmps61 rfl rfl ?_;have ha := rAdd_ok x (-y) hx (by rw [Int.natAbs_neg]; exact hy);rw [← Int.sub_eq_add_neg] at ha;(repeat' (first |refine Fl.v rfl rfl rfl ?_ |refine Fl.nilF ?_ |refine AWP.seq ?_ |refine AWP.region ?_ |refine Fl.b rfl rfl rfl rfl ?_));refine Fl.call rfl (rNeg_ok y (by omega)) rfl rfl rfl (LeL.refl _) ?_;skip;refine Fl.call rfl (ha) rfl rfl rfl (LeL.refl _) ?_;(repeat' (first |refine Fl.nil (fun _ => by kernel_rfl) ?_ |refine Fl.b rfl rfl rfl rfl ?_ |refine AWP.ret ?_));exact RetOk.of rfl (AV.Le.refl _)
end Go.Proofs.YtcaecieigoplbaaGreat
/- ref01.Div and Divides. -/
namespace Go.AL
theorem quo_signs (x y Q R : Int) (hy : y ≠ 0) (hQ : Q = (x.natAbs : Int) / (y.natAbs : Int)) (hR : R = (x.natAbs : Int) % (y.natAbs : Int)) :
    (0 ≤ x → 0 < y → Q = x / y ∧ R = x % y) ∧ (0 ≤ x → y < 0 → -Q = x / y ∧ R = x % y) ∧
    (x < 0 → R = 0 → 0 < y → -Q = x / y ∧ R = x % y) ∧ (x < 0 → R = 0 → y < 0 → Q = x / y ∧ R = x % y) ∧
    (x < 0 → R ≠ 0 → 0 < y → -(Q + 1) = x / y ∧ (y.natAbs : Int) - R = x % y) ∧ (x < 0 → R ≠ 0 → y < 0 → Q + 1 = x / y ∧ (y.natAbs : Int) - R = x % y) := by
  obtain ⟨Y, hY⟩ : ∃ Y : Int, Y = (y.natAbs : Int) := ⟨_, rfl⟩;obtain ⟨X, hX⟩ : ∃ X : Int, X = (x.natAbs : Int) := ⟨_, rfl⟩;rw [← hX, ← hY] at hQ hR;rw [← hY]
  have hY0 : 0 < Y := by omega
  have h1 := Int.mul_ediv_add_emod X Y;have h2 := Int.emod_nonneg X (show Y ≠ 0 by omega);have h3 := Int.emod_lt_of_pos X hY0;rw [← hQ, ← hR] at h1;rw [← hR] at h2 h3
  have key : ∀ q r : Int, r + Y * q = x → 0 ≤ r → r < Y → (0 < y → q = x / y ∧ r = x % y) ∧ (y < 0 → -q = x / y ∧ r = x % y) := by
    intro q r e a b;have hu := (Int.ediv_emod_unique (a := x) (b := Y) (q := q) (r := r) hY0).2 ⟨e, a, b⟩;refine ⟨fun h => ?_, fun h => ?_⟩
    · rw [show y = Y by omega]; exact ⟨hu.1.symm, hu.2.symm⟩
    · rw [show y = -Y by omega, Int.ediv_neg, Int.emod_neg]; exact ⟨by rw [hu.1], hu.2.symm⟩
  refine ⟨fun a b => ?_, fun a b => ?_, fun a b c => ?_, fun a b c => ?_, fun a b c => ?_, fun a b c => ?_⟩
  · exact (key Q R (by omega) h2 h3).1 b
  · exact (key Q R (by omega) h2 h3).2 b
  · exact (key (-Q) R (by rw [Int.mul_neg]; omega) h2 h3).1 c
  · have := (key (-Q) R (by rw [Int.mul_neg]; omega) h2 h3).2 c;rwa [Int.neg_neg] at this
  · exact (key (-(Q + 1)) (Y - R) (by rw [Int.mul_neg, Int.mul_add]; omega) (by omega) (by omega)).1 c
  · have := (key (-(Q + 1)) (Y - R) (by rw [Int.mul_neg, Int.mul_add]; omega) (by omega) (by omega)).2 c;rwa [Int.neg_neg] at this
theorem toW_mono {a b : Int} (h0 : 0 ≤ a) (h : a ≤ b) : (toW a).length ≤ (toW b).length := by
  refine (toW_len_le h0 _).2 ?_;have := (toW_len_le (z := b) (by omega) (toW b).length).1 (Nat.le_refl _);omega
theorem abs_self {x : Int} (h : 0 ≤ x) : ((x.natAbs : Nat) : Int) = x := by omega
end Go.AL
namespace Go.Proofs.YtcaecieigoplbaaGreat
open Go.AL

set_option maxHeartbeats 1000000 in
theorem rDiv_ok (x y : Int) (hy : y ≠ 0) (hxl : lenI x ≤ 39000) (hyl : lenI y ≤ 39000) : PureFn Tryz.prog 84 [aX x, aX y] (.tup [aX (x / y), aX (x % y)]) := by
  refine PureFn.of_body Tryz.func84 rfl Tryz.ntmps84 rfl rfl ?_;obtain ⟨Y, hY⟩ : ∃ Y : Int, Y = (y.natAbs : Int) := ⟨_, rfl⟩;obtain ⟨X, hX⟩ : ∃ X : Int, X = (x.natAbs : Int) := ⟨_, rfl⟩;obtain ⟨Q, hQ⟩ : ∃ Q : Int, Q = X / Y := ⟨_, rfl⟩;obtain ⟨R, hR⟩ : ∃ R : Int, R = X % Y := ⟨_, rfl⟩
  have hY0 : 0 < Y := by omega
  have hX0 : 0 ≤ X := by omega
  have hlX : (toW X).length ≤ 39000 := by rw [hX]; exact hxl
  have hlY : (toW Y).length ≤ 39000 := by rw [hY]; exact hyl
  have hsg := quo_signs x y Q R hy (by rw [hQ, hX, hY]) (by rw [hR, hX, hY]);rw [← hY] at hsg;have wY := toW_ok Y;have hR0 := Int.emod_nonneg X (show Y ≠ 0 by omega);have hR1 := Int.emod_lt_of_pos X hY0;have hQ0 : 0 ≤ X / Y := Int.ediv_nonneg hX0 (by omega);have hQ1 : X / Y ≤ X := Int.ediv_le_self _ hX0;have hlQ : (toW (X / Y)).length ≤ 39000 := Nat.le_trans (toW_mono hQ0 hQ1) hlX;have hlR : (toW (X % Y)).length ≤ 39000 := Nat.le_trans (toW_mono hR0 (by omega)) hlY
  have eX' : aX x = .agg [aB (decide (x < 0)), aW (toW X)] := by rw [hX]
  have eY' : aX y = .agg [aB (decide (y < 0)), aW (toW Y)] := by rw [hY]
  have cX : eX x = [aB (decide (x < 0)), aW (toW X)] := by rw [hX]; rfl
  have cY : eX y = [aB (decide (y < 0)), aW (toW Y)] := by rw [hY]; rfl
  rw [eX', eY']
  have le0 : LeL [aB false, .v (.slice none 0 0)] (eX 0) := by
    show LeL _ [aB (decide ((0 : Int) < 0)), aW (toW (((0 : Int).natAbs : Nat) : Int))];rw [show (((0 : Int).natAbs : Nat) : Int) = 0 from rfl, toW_zero];exact LeL.cons (AV.Le.refl _) (LeL.cons (AV.Le.nil 1 eW) LeL.nil)
  refine AWP.seqS ?_;(repeat' (first |refine Fl.nilF ?_ |refine AWP.region ?_ |refine Fl.b rfl rfl rfl rfl ?_));refine ⟨AWP.seqS ?_⟩;(repeat' (first |refine Fl.nilF ?_ |refine AWP.region ?_ |refine Fl.b rfl rfl rfl rfl ?_));refine ⟨?_⟩;refine AWP.seqJ (G := Unit) (fun _ => True) (fun _ => St.of [] [(2, .ptr 2 0), (3, .ptr 3 0), (4, .ptr 4 0), (5, .ptr 5 0), (6, .ptr 6 0), (7, .ptr 7 0)] [(2, .cells [aB (decide (x < 0)), aW (toW X)] 35), (3, .cells [aB (decide (y < 0)), aW (toW Y)] 35), (4, .cells [aB false, .v (.slice none 0 0)] 35), (5, .cells [aB false, .v (.slice none 0 0)] 35), (6, .cells (eX Q) 35), (7, .cells (eX R) 35)]) ?_ ?_
  · (repeat' (first |refine Fl.v rfl rfl rfl ?_ |refine AWP.seq ?_ |refine AWP.region ?_));refine Fl.call rfl (rorder_ok X Y hX0 (by omega) (by omega) (by omega)) rfl rfl rfl (LeL.refl _) ?_;(repeat' (first |refine Fl.v rfl rfl rfl ?_ |refine Fl.nilF ?_ |refine AWP.seq ?_ |refine AWP.region ?_ |(refine AWP.condD rfl ?_ ?_ <;> intro _ <;> try (exfalso; omega)) |(refine Fl.elW rfl rfl rfl rfl rfl rfl rfl rfl (by omega) (by omega) (by assumption) ?_; intro _ _ _ _)|fail))
    · rename_i h
      have hlt : X < Y := by
        rcases Int.lt_or_le X Y with h1 | h1
        · exact h1
        · rcases Int.lt_or_eq_of_le h1 with h2 | h2
          · rw [cmpI_gt h2] at h; omega
          · rw [cmpI_eq h2.symm] at h; omega
      refine Fl.call rfl (rAbs_ok x (show (toW x.natAbs).length ≤ 100000 by rw [← hX]; omega)) rfl rfl rfl (LeL.cons (AV.Le.of_eq eX'.symm) LeL.nil) ?_;(repeat' (first |refine Fl.nilF ?_ |refine Fl.b rfl rfl rfl rfl ?_));refine JoinOk.of () trivial ?_;refine Ent.of [] ?_ ?_ rfl rfl;(repeat' (first |exact True.intro |refine ⟨⟨AV.Le.refl _, rfl⟩, ?_⟩ |refine ⟨⟨⟨_, rfl, BLe.cells (LeL.refl _)⟩, rfl⟩, ?_⟩ |refine ⟨⟨⟨_, rfl, BLe.cells ?_⟩, rfl⟩, ?_⟩|fail))
      · rw [hQ, Int.ediv_eq_zero_of_lt hX0 hlt]; exact le0
      · rw [hR, Int.emod_eq_of_lt hX0 hlt, hX]; exact LeL.refl _
    · rename_i h h1 z hz hz0 hz1
      have hYz : Y = z := by
        have := val_top hz;rw [show (0 : Int).toNat + 1 = (toW Y).length by omega, List.take_length, val_toW (by omega)] at this;rw [this]; simp [val, BB_zero]
      have hv := val_wdW (toW X).length (X / z) (by rw [← hYz]; exact hQ0) (by
        have := (toW_len_le hX0 (toW X).length).1 (Nat.le_refl _)
        rw [← hYz]; omega)
      have hm1 := rMake_ok false (wdW (toW X).length (X / Y)) (wdW_ok _ _) (by rw [wdW_length]; omega);rw [← hYz] at hv;rw [show sg false (val (wdW (toW X).length (X / Y))) = Q by rw [hv, hQ]; simp [sg]] at hm1;have hm2 := rMake_ok false [X % Y] (WOk.cons hR0 (by omega) WOk.nil) (by simp);rw [show sg false (val [X % Y]) = R by rw [hR]; simp [val, sg]] at hm2;have hs := short_ok X z hX0 (by omega) (by omega) hz1;rw [← hYz] at hs;refine Fl.call rfl hs rfl rfl rfl (LeL.cons (AV.Le.refl _) (LeL.cons (AV.Le.int hYz.symm) LeL.nil)) ?_;(repeat' (first |refine Fl.v rfl rfl rfl ?_ |refine Fl.nil (fun _ => by kernel_rfl) ?_ |refine AWP.region ?_));refine Fl.call rfl (hm1) rfl rfl rfl (LeL.refl _) ?_;(repeat' (first |refine Fl.v rfl rfl rfl ?_));refine Fl.lit rfl rfl rfl rfl rfl eW [X % Y] rfl rfl rfl rfl (by intro _ _; rfl) rfl ?_;skip;refine Fl.call rfl (hm2) rfl rfl rfl (LeL.refl _) ?_;(repeat' (first |refine Fl.nilF ?_ |refine Fl.b rfl rfl rfl rfl ?_));refine JoinOk.of () trivial ?_;refine Ent.of [] ?_ ?_ rfl rfl;(repeat' (first |exact True.intro |refine ⟨⟨AV.Le.refl _, rfl⟩, ?_⟩ |refine ⟨⟨⟨_, rfl, BLe.cells (LeL.refl _)⟩, rfl⟩, ?_⟩|fail))
    · rename_i h h1
      have hYX : Y ≤ X := by
        rcases Int.lt_or_le X Y with h2 | h2
        · rw [cmpI_lt h2] at h; omega
        · exact h2
      have hlYX := toW_mono (by omega) hYX
      have hYne : (toW Y).length ≠ 0 := fun k => by
        have := (toW_nil_iff (z := Y) (by omega)).1 (List.eq_nil_of_length_eq_zero k);omega
      obtain ⟨m, hm⟩ : ∃ m, (toW Y).length = m + 2 := ⟨(toW Y).length - 2, by omega⟩;obtain ⟨N, hN⟩ : ∃ N, (toW X).length = N + m := ⟨(toW X).length - m, by omega⟩;have hl := long_ok X Y N m hX0 hY0 (by omega) hm hN (by omega)
      have hQB : X / Y < BB N := by
        have a1 : X < BB (toW X).length := (toW_len_le hX0 _).1 (Nat.le_refl _)
        have a2 : BB (m + 1) ≤ Y := by
          rcases Int.lt_or_le Y (BB (m + 1)) with k | k
          · have := (toW_len_le (z := Y) (by omega) (m + 1)).2 k;omega
          · exact k
        have a3 : BB m ≤ Y := by rw [BB_succ] at a2; have := BB_pos m; omega
        rw [hN, BB_add] at a1;refine Int.ediv_lt_of_lt_mul hY0 (Int.lt_of_lt_of_le a1 ?_);exact Int.mul_le_mul_of_nonneg_left a3 (Int.le_of_lt (BB_pos _))
      have hm1 := rMake_ok false (wdW N (X / Y)) (wdW_ok _ _) (by rw [wdW_length]; omega);rw [val_wdW N _ hQ0 hQB, show sg false (X / Y) = X / Y by simp [sg]] at hm1;have hm2 := rMake_ok false (toW (X % Y)) (toW_ok _) (by omega);rw [val_toW hR0, show sg false (X % Y) = X % Y by simp [sg]] at hm2;refine Fl.call rfl (hl) rfl rfl rfl (LeL.refl _) ?_;(repeat' (first |refine Fl.v rfl rfl rfl ?_ |refine Fl.nilF ?_ |refine AWP.region ?_));refine Fl.call rfl (hm1) rfl rfl rfl (LeL.refl _) ?_;(repeat' (first |refine Fl.v rfl rfl rfl ?_));refine Fl.call rfl (hm2) rfl rfl rfl (LeL.refl _) ?_;(repeat' (first |refine Fl.nilF ?_ |refine Fl.b rfl rfl rfl rfl ?_));refine JoinOk.of () trivial ?_;refine Ent.of [] ?_ ?_ rfl rfl;(repeat' (first |exact True.intro |refine ⟨⟨AV.Le.refl _, rfl⟩, ?_⟩ |refine ⟨⟨⟨_, rfl, BLe.cells (LeL.refl _)⟩, rfl⟩, ?_⟩ |refine ⟨⟨⟨_, rfl, BLe.cells ?_⟩, rfl⟩, ?_⟩|fail))
      · rw [hQ]; exact LeL.refl _
      · rw [hR]; exact LeL.refl _
  intro _ _
  have lQ : lenI Q ≤ 39000 := by
    show (toW ((Q.natAbs : Nat) : Int)).length ≤ _;rw [abs_self (by omega), hQ]; exact hlQ
  have lR : lenI R ≤ 39000 := by
    show (toW ((R.natAbs : Nat) : Int)).length ≤ _;rw [abs_self (by omega), hR]; exact hlR
  have lQ1 : lenI (Q + 1) ≤ 39001 := by
    show (toW (((Q + 1).natAbs : Nat) : Int)).length ≤ _;rw [abs_self (by omega)];refine (toW_len_le (by omega) _).2 ?_;have h1 := (toW_len_le (z := Q) (by omega) 39000).1 (by rw [hQ]; exact hlQ);rw [show (39001 : Nat) = 39000 + 1 from rfl, BB_succ];omega
  have l1 : lenI 1 ≤ 1 := lenI_small (by decide);have lY : lenI ((y.natAbs : Nat) : Int) ≤ 39000 := hyl;rcases Int.lt_or_le x 0 with hx | hx
  · rw [decide_eq_true hx];by_cases hRz : R = 0
    · rcases Int.lt_or_le y 0 with hy1 | hy1
      · rw [decide_eq_true hy1];(repeat' (first |refine Fl.v rfl rfl rfl ?_ |refine AWP.seq ?_ |refine AWP.region ?_));refine Fl.call rfl (rZeroX_ok R) rfl rfl rfl (LeL.refl _) ?_;(repeat' (first |refine Fl.v rfl rfl rfl ?_ |refine Fl.nilF ?_ |refine Fl.nil (fun _ => by kernel_rfl) ?_ |refine AWP.seq ?_ |refine AWP.region ?_ |refine Fl.b rfl rfl rfl rfl ?_ |refine AWP.condF rfl ?_ |(refine AWP.condN rfl ?_ ?_ <;> intro _ <;> try (exfalso; omega)) |refine AWP.skip ?_ |refine AWP.ret ?_));obtain ⟨s1, s2⟩ := hsg.2.2.2.1 hx hRz hy1;refine RetOk.of rfl ?_;rw [← s1, ← s2];exact AV.Le.refl _
      · rw [decide_eq_false (show ¬ y < 0 by omega)];(repeat' (first |refine Fl.v rfl rfl rfl ?_ |refine AWP.seq ?_ |refine AWP.region ?_));refine Fl.call rfl (rZeroX_ok R) rfl rfl rfl (LeL.refl _) ?_;(repeat' (first |refine Fl.v rfl rfl rfl ?_ |refine Fl.nilF ?_ |refine AWP.seq ?_ |refine AWP.region ?_ |refine AWP.condT rfl ?_ |(refine AWP.condN rfl ?_ ?_ <;> intro _ <;> try (exfalso; omega)) |refine AWP.skip ?_));refine Fl.call rfl (rNeg_ok Q (show lenI Q ≤ 100000 by omega)) rfl rfl rfl (LeL.refl _) ?_;(repeat' (first |refine Fl.v rfl rfl rfl ?_ |refine Fl.nilF ?_ |refine Fl.nil (fun _ => by kernel_rfl) ?_ |refine AWP.seq ?_ |refine AWP.region ?_ |refine Fl.b rfl rfl rfl rfl ?_ |refine AWP.ret ?_));obtain ⟨s1, s2⟩ := hsg.2.2.1 hx hRz (by omega);refine RetOk.of rfl ?_;rw [← s1, ← s2];exact AV.Le.refl _
    · rcases Int.lt_or_le y 0 with hy1 | hy1
      · rw [decide_eq_true hy1];(repeat' (first |refine Fl.v rfl rfl rfl ?_ |refine AWP.seq ?_ |refine AWP.region ?_));refine Fl.call rfl (rZeroX_ok R) rfl rfl rfl (LeL.refl _) ?_;(repeat' (first |refine Fl.v rfl rfl rfl ?_ |refine Fl.nilF ?_ |refine AWP.region ?_ |(refine AWP.condN rfl ?_ ?_ <;> intro _ <;> try (exfalso; omega))));refine Fl.call rfl (rOf_ok 1 (by omega) (by omega)) rfl rfl rfl (LeL.refl _) ?_;skip;refine Fl.call rfl (rAdd_ok Q 1 (show lenI Q ≤ 40000 by omega) (show lenI 1 ≤ 40000 by omega)) rfl rfl rfl (LeL.refl _) ?_;(repeat' (first |refine Fl.v rfl rfl rfl ?_));refine Fl.call rfl (rAbs_ok y (show lenI y ≤ 100000 by omega)) rfl rfl rfl (LeL.cons (AV.Le.of_eq (by rw [eY', decide_eq_true hy1]; rfl)) LeL.nil) ?_;(repeat' (first |refine Fl.v rfl rfl rfl ?_));refine Fl.call rfl (rSub_ok (y.natAbs : Int) R (by omega) (show lenI R ≤ 40000 by omega)) rfl rfl rfl (LeL.refl _) ?_;(repeat' (first |refine Fl.v rfl rfl rfl ?_ |refine Fl.nilF ?_ |refine Fl.nil (fun _ => by kernel_rfl) ?_ |refine AWP.seq ?_ |refine AWP.region ?_ |refine Fl.b rfl rfl rfl rfl ?_ |refine AWP.condF rfl ?_ |refine AWP.skip ?_ |refine AWP.ret ?_));obtain ⟨s1, s2⟩ := hsg.2.2.2.2.2 hx hRz hy1;refine RetOk.of rfl ?_;rw [← s1, ← s2, hY];exact AV.Le.refl _
      · rw [decide_eq_false (show ¬ y < 0 by omega)];(repeat' (first |refine Fl.v rfl rfl rfl ?_ |refine AWP.seq ?_ |refine AWP.region ?_));refine Fl.call rfl (rZeroX_ok R) rfl rfl rfl (LeL.refl _) ?_;(repeat' (first |refine Fl.v rfl rfl rfl ?_ |refine Fl.nilF ?_ |refine AWP.region ?_ |(refine AWP.condN rfl ?_ ?_ <;> intro _ <;> try (exfalso; omega))));refine Fl.call rfl (rOf_ok 1 (by omega) (by omega)) rfl rfl rfl (LeL.refl _) ?_;skip;refine Fl.call rfl (rAdd_ok Q 1 (show lenI Q ≤ 40000 by omega) (show lenI 1 ≤ 40000 by omega)) rfl rfl rfl (LeL.refl _) ?_;(repeat' (first |refine Fl.v rfl rfl rfl ?_));refine Fl.call rfl (rAbs_ok y (show lenI y ≤ 100000 by omega)) rfl rfl rfl (LeL.cons (AV.Le.of_eq (by rw [eY', decide_eq_false (show ¬ y < 0 by omega)]; rfl)) LeL.nil) ?_;(repeat' (first |refine Fl.v rfl rfl rfl ?_));refine Fl.call rfl (rSub_ok (y.natAbs : Int) R (by omega) (show lenI R ≤ 40000 by omega)) rfl rfl rfl (LeL.refl _) ?_;(repeat' (first |refine Fl.v rfl rfl rfl ?_ |refine Fl.nilF ?_ |refine Fl.nil (fun _ => by kernel_rfl) ?_ |refine AWP.seq ?_ |refine AWP.region ?_ |refine Fl.b rfl rfl rfl rfl ?_ |refine AWP.condT rfl ?_));refine Fl.call rfl (rNeg_ok (Q + 1) (show lenI (Q + 1) ≤ 100000 by omega)) rfl rfl rfl (LeL.refl _) ?_;(repeat' (first |refine Fl.v rfl rfl rfl ?_ |refine Fl.nilF ?_ |refine Fl.nil (fun _ => by kernel_rfl) ?_ |refine AWP.seq ?_ |refine AWP.region ?_ |refine Fl.b rfl rfl rfl rfl ?_ |refine AWP.ret ?_));obtain ⟨s1, s2⟩ := hsg.2.2.2.2.1 hx hRz (by omega);refine RetOk.of rfl ?_;rw [← s1, ← s2, hY];exact AV.Le.refl _
  · rw [decide_eq_false (show ¬ x < 0 by omega)];rcases Int.lt_or_le y 0 with hy1 | hy1
    · rw [decide_eq_true hy1];(repeat' (first |refine Fl.v rfl rfl rfl ?_ |refine Fl.nilF ?_ |refine AWP.seq ?_ |refine AWP.region ?_ |refine Fl.skip rfl rfl ?_ |refine AWP.condT rfl ?_ |refine AWP.condF rfl ?_ |refine AWP.skip ?_));refine Fl.call rfl (rNeg_ok Q (show lenI Q ≤ 100000 by omega)) rfl rfl rfl (LeL.refl _) ?_;(repeat' (first |refine Fl.v rfl rfl rfl ?_ |refine Fl.nilF ?_ |refine Fl.nil (fun _ => by kernel_rfl) ?_ |refine AWP.seq ?_ |refine AWP.region ?_ |refine Fl.b rfl rfl rfl rfl ?_ |refine AWP.ret ?_));obtain ⟨s1, s2⟩ := hsg.2.1 hx hy1;refine RetOk.of rfl ?_;rw [← s1, ← s2];exact AV.Le.refl _
    · rw [decide_eq_false (show ¬ y < 0 by omega)];(repeat' (first |refine Fl.v rfl rfl rfl ?_ |refine Fl.nilF ?_ |refine Fl.nil (fun _ => by kernel_rfl) ?_ |refine AWP.seq ?_ |refine AWP.region ?_ |refine Fl.b rfl rfl rfl rfl ?_ |refine Fl.skip rfl rfl ?_ |refine AWP.condF rfl ?_ |refine AWP.skip ?_ |refine AWP.ret ?_));obtain ⟨s1, s2⟩ := hsg.1 hx (by omega);refine RetOk.of rfl ?_;rw [← s1, ← s2];exact AV.Le.refl _
theorem rDivides_ok (x y : Int) (hxl : lenI x ≤ 39000) (hyl : lenI y ≤ 39000) : PureFn Tryz.prog 42 [aX x, aX y] (aB (decide (x ∣ y))) := by
  refine PureFn.of_body Tryz.func42 rfl Tryz.ntmps42 rfl rfl ?_;(repeat' (first |refine Fl.v rfl rfl rfl ?_ |refine Fl.nilF ?_ |refine AWP.seq ?_ |refine AWP.region ?_ |refine Fl.b rfl rfl rfl rfl ?_));refine Fl.call rfl (rZeroX_ok x) rfl rfl rfl (LeL.refl _) ?_;(repeat' (first |refine Fl.v rfl rfl rfl ?_ |refine Fl.nilF ?_ |refine AWP.seq ?_ |refine AWP.region ?_ |(refine AWP.condD rfl ?_ ?_ <;> intro _ <;> try (exfalso; omega)) |refine AWP.skip ?_))
  · rename_i h;refine Fl.call rfl (rZeroX_ok y) rfl rfl rfl (LeL.refl _) ?_;(repeat' (first |refine Fl.v rfl rfl rfl ?_ |refine Fl.nilF ?_ |refine AWP.ret ?_));refine RetOk.of rfl (AV.Le.bool ?_);rw [h];exact decide_eq_decide.2 Int.zero_dvd.symm
  · rename_i h;refine Fl.call rfl (rDiv_ok y x h hyl hxl) rfl rfl rfl (LeL.refl _) ?_;(repeat' (first |refine Fl.v rfl rfl rfl ?_ |refine Fl.nilF ?_ |refine AWP.seq ?_ |refine AWP.region ?_ |refine Fl.b rfl rfl rfl rfl ?_));refine Fl.call rfl (rZeroX_ok (y % x)) rfl rfl rfl (LeL.refl _) ?_;(repeat' (first |refine Fl.v rfl rfl rfl ?_ |refine Fl.nilF ?_ |refine AWP.ret ?_));refine RetOk.of rfl (AV.Le.bool ?_);exact decide_eq_decide.2 ⟨Int.dvd_of_emod_eq_zero, Int.emod_eq_zero_of_dvd⟩
end Go.Proofs.YtcaecieigoplbaaGreat
/- Binomial coefficients: plain. -/
namespace Go.AL
def ch : Nat → Nat → Nat
  | _, 0 => 1
  | 0, _ + 1 => 0
  | n + 1, k + 1 => ch n k + ch n (k + 1)
theorem ch_zero (n : Nat) : ch n 0 = 1 := by cases n <;> rfl
theorem ch_succ (n k : Nat) : ch (n + 1) (k + 1) = ch n k + ch n (k + 1) := rfl
theorem ch_zero_succ (k : Nat) : ch 0 (k + 1) = 0 := rfl
theorem ch_gt : ∀ {n k : Nat}, n < k → ch n k = 0
  | 0, k + 1, _ => rfl
  | n + 1, k + 1, h => by rw [ch_succ, ch_gt (by omega), ch_gt (by omega)]
theorem ch_self : ∀ n : Nat, ch n n = 1
  | 0 => rfl
  | n + 1 => by rw [ch_succ, ch_self n, ch_gt (by omega)]
theorem ch_le : ∀ n k : Nat, ch n k ≤ 2 ^ n
  | n, 0 => by rw [ch_zero]; exact Nat.one_le_two_pow
  | 0, k + 1 => by simp [ch]
  | n + 1, k + 1 => by
    have h1 := ch_le n k;have h2 := ch_le n (k + 1);rw [ch_succ, Nat.pow_succ]; omega
/-- parity, digit by digit -/
theorem ch_par : ∀ n k : Nat, ch (2 * n) (2 * k) % 2 = ch n k % 2 ∧ ch (2 * n) (2 * k + 1) % 2 = 0 ∧ ch (2 * n + 1) (2 * k) % 2 = ch n k % 2 ∧ ch (2 * n + 1) (2 * k + 1) % 2 = ch n k % 2
  | 0, 0 => by simp [ch]
  | 0, k + 1 => by
    rw [show 2 * 0 = 0 from rfl, show 2 * (k + 1) = 2 * k + 1 + 1 by omega];simp [ch]
  | n + 1, k => by
    have key : ∀ k : Nat, ch (2 * (n + 1)) (2 * k) % 2 = ch (n + 1) k % 2 ∧ ch (2 * (n + 1)) (2 * k + 1) % 2 = 0 := by
      intro k;rw [show 2 * (n + 1) = 2 * n + 1 + 1 by omega];obtain ⟨h1, h2, h3, h4⟩ := ch_par n k;constructor
      · cases k with
        | zero => simp [ch_zero]
        | succ k =>
          obtain ⟨g1, g2, g3, g4⟩ := ch_par n k;rw [show 2 * (k + 1) = 2 * k + 1 + 1 by omega] at h3 ⊢;rw [ch_succ (2 * n + 1), ch_succ n k];omega
      · rw [ch_succ (2 * n + 1) (2 * k)];omega
    obtain ⟨h1, h2⟩ := key k;refine ⟨h1, h2, ?_, ?_⟩
    · cases k with
      | zero => simp [ch_zero]
      | succ k =>
        have g := (key k).2;rw [show 2 * (k + 1) = 2 * k + 1 + 1 by omega] at h1 ⊢;rw [ch_succ (2 * (n + 1)) (2 * k + 1)];omega
    · rw [ch_succ (2 * (n + 1)) (2 * k)];omega
theorem ch_odd : ∀ (n k : Nat), ch n k % 2 = 1 ↔ ∀ i, k.testBit i = true → n.testBit i = true := by
  intro n
  induction n using Nat.strongRecOn with
  | _ n ih =>
    intro k;by_cases hn : n = 0
    · subst hn
      cases k with
      | zero => simp [ch]
      | succ k =>
        simp only [ch_zero_succ, Nat.zero_testBit];constructor
        · intro h; omega
        · intro h;obtain ⟨i, hi⟩ := Nat.exists_testBit_of_ne_zero (show k + 1 ≠ 0 by omega);have := h i hi; cases this
    · have h := ih (n / 2) (by omega) (k / 2);obtain ⟨p1, p2, p3, p4⟩ := ch_par (n / 2) (k / 2)
      have split : (∀ i, k.testBit i = true → n.testBit i = true) ↔ (k % 2 = 1 → n % 2 = 1) ∧ ∀ i, (k / 2).testBit i = true → (n / 2).testBit i = true := by
        constructor
        · intro h;refine ⟨fun hk => ?_, fun i hi => ?_⟩
          · have := h 0;simp only [Nat.testBit_zero, decide_eq_true_eq] at this;exact this hk
          · have := h (i + 1);simp only [Nat.testBit_succ] at this;exact this hi
        · rintro ⟨h0, h1⟩ i hi
          cases i with
          | zero =>
            simp only [Nat.testBit_zero, decide_eq_true_eq] at hi ⊢;exact h0 hi
          | succ i =>
            simp only [Nat.testBit_succ] at hi ⊢;exact h1 i hi
      rw [split, ← h]
      have en : n = 2 * (n / 2) + n % 2 := by omega
      have ek : k = 2 * (k / 2) + k % 2 := by omega
      rcases Nat.mod_two_eq_zero_or_one n with hn2 | hn2 <;> rcases Nat.mod_two_eq_zero_or_one k with hk2 | hk2
      · rw [hn2] at en; rw [hk2] at ek;rw [show ch n k = ch (2 * (n / 2)) (2 * (k / 2)) by rw [← show n = 2 * (n / 2) from en, ← show k = 2 * (k / 2) from ek]];omega
      · rw [hn2] at en; rw [hk2] at ek;rw [show ch n k = ch (2 * (n / 2)) (2 * (k / 2) + 1) by rw [← show n = 2 * (n / 2) from en, ← ek]];omega
      · rw [hn2] at en; rw [hk2] at ek;rw [show ch n k = ch (2 * (n / 2) + 1) (2 * (k / 2)) by rw [← en, ← show k = 2 * (k / 2) from ek]];omega
      · rw [hn2] at en; rw [hk2] at ek;rw [show ch n k = ch (2 * (n / 2) + 1) (2 * (k / 2) + 1) by rw [← en, ← ek]];omega
/-- the powers of u + 1, cut at a digit -/
def binS (u n : Nat) : Nat → Nat
  | 0 => 0
  | k + 1 => binS u n k + ch n k * u ^ k
theorem binS_succ (u n : Nat) : ∀ k : Nat, binS u (n + 1) (k + 1) = binS u n (k + 1) + u * binS u n k
  | 0 => by simp [binS, ch_zero]
  | k + 1 => by
    have ih := binS_succ u n k;rw [binS, ih, ch_succ]
    conv => rhs; rw [binS]
    rw [show binS u n (k + 1) = binS u n k + ch n k * u ^ k from rfl, Nat.pow_succ];grind
theorem bin_split (u : Nat) : ∀ n k : Nat, ∃ h, (u + 1) ^ n = binS u n k + u ^ k * h
  | n, 0 => ⟨(u + 1) ^ n, by simp [binS]⟩
  | 0, k + 1 => ⟨0, by
    have : ∀ k : Nat, binS u 0 (k + 1) = 1 := by
      intro k
      induction k with
      | zero => simp [binS, ch]
      | succ k ih => rw [binS, ih]; simp [ch]
    rw [this]; simp⟩
  | n + 1, k + 1 => by
    obtain ⟨h1, e1⟩ := bin_split u n k;obtain ⟨h2, e2⟩ := bin_split u n (k + 1);refine ⟨h1 + h2, ?_⟩;rw [binS_succ, Nat.pow_succ (u + 1) n, Nat.mul_add, Nat.mul_one]
    conv => lhs; rw [e2]
    have e3 : (u + 1) ^ n = binS u n (k + 1) + u ^ (k + 1) * h2 := e2
    have e4 : (binS u n (k + 1) + u ^ (k + 1) * h2) * u = (binS u n k + u ^ k * h1) * u := by rw [← e2, e1]
    rw [e4, Nat.pow_succ];grind
theorem binS_lt {u n : Nat} (hu : 2 ^ n < u) : ∀ k : Nat, binS u n k < u ^ k
  | 0 => by simp [binS]
  | k + 1 => by
    have ih := binS_lt hu k;have hc := ch_le n k;have h1 : (ch n k + 1) * u ^ k ≤ u * u ^ k := Nat.mul_le_mul_right _ (by omega);rw [binS, Nat.pow_succ, Nat.mul_comm (u ^ k) u];rw [Nat.add_mul] at h1;omega
/-- a digit of a power of u + 1 -/
theorem bin_digit {u n k p o y r : Nat} (hu : 2 ^ n < u) (hp : p = (u + 1) ^ n) (he : p = (o + u * y) * u ^ k + r) (hr : r < u ^ k) (ho : o < u) : o = ch n k := by
  obtain ⟨h, e1⟩ := bin_split u n k;obtain ⟨h', e2⟩ := bin_split u n (k + 1);have l1 := binS_lt hu k;have hc := ch_le n k;have hpos : 0 < u ^ k := Nat.pow_pos (by omega)
  have d1 : p / u ^ k = o + u * y := by rw [he, Nat.add_comm, Nat.add_mul_div_right _ _ hpos, Nat.div_eq_of_lt hr, Nat.zero_add]
  have d2 : p / u ^ k = ch n k + u * h' := by
    rw [hp, e2, binS, Nat.pow_succ]
    have e3 : binS u n k + ch n k * u ^ k + u ^ k * u * h' = binS u n k + (ch n k + u * h') * u ^ k := by grind
    rw [e3, Nat.add_mul_div_right _ _ hpos, Nat.div_eq_of_lt l1, Nat.zero_add]
  have m1 : (o + u * y) % u = o := by rw [Nat.add_mul_mod_self_left, Nat.mod_eq_of_lt ho]
  have m2 : (ch n k + u * h') % u = ch n k := by rw [Nat.add_mul_mod_self_left, Nat.mod_eq_of_lt (by omega)]
  rw [← m1, ← d1, d2, m2]
end Go.AL
/- Digits of binomial coefficients under digits: plain. -/
namespace Go.AL
theorem und_bits (a b : Nat) : undI a b ↔ ∀ i, a.testBit i = true → b.testBit i = true := by
  unfold undI;simp only [Int.toNat_natCast];constructor
  · intro h i hi;rw [← h, Nat.testBit_and] at hi;simp only [Bool.and_eq_true] at hi;exact hi.2
  · intro h;apply Nat.eq_of_testBit_eq;intro i;rw [Nat.testBit_and]
    cases ha : a.testBit i with
    | false => rfl
    | true => simp [h i ha]
theorem ch_und (b a : Nat) : ch b a % 2 = 1 ↔ undI a b := by rw [und_bits]; exact ch_odd b a
/-- what the quotients are -/
theorem mask_digit {a b u p q : Nat} (hu : u = 2 ^ (b + 1)) (hp : p = (u + 1) ^ b) (hq : q = u ^ a) : p / q % u = ch b a ∧ ch b a < u := by
  have hub : 2 ^ b < u := by rw [hu, Nat.pow_succ]; have := Nat.two_pow_pos b; omega
  have hqp : 0 < q := by rw [hq]; exact Nat.pow_pos (by omega)
  have hup : 0 < u := by omega
  refine ⟨?_, by have := ch_le b a; omega⟩;refine bin_digit (u := u) (n := b) (k := a) (p := p) (y := p / q / u) (r := p % q) hub hp ?_ (by rw [← hq]; exact Nat.mod_lt _ hqp) (Nat.mod_lt _ hup);rw [← hq, Nat.mod_add_div (p / q) u, Nat.mul_comm, Nat.div_add_mod]
/-- where a is under b, there are such numbers -/
theorem mask_found {a b u p q : Nat} (hu : u = 2 ^ (b + 1)) (hp : p = (u + 1) ^ b) (hq : q = u ^ a) (h : undI a b) :
    p = (2 * (p / q % u / 2) + 1 + u * (p / q / u)) * q + p % q ∧ q = p % q + (q - p % q - 1) + 1 ∧ u = 2 * (p / q % u / 2) + 1 + 1 + (u - p / q % u - 1) := by
  obtain ⟨h1, h2⟩ := mask_digit hu hp hq;have hodd := (ch_und b a).2 h
  have hqp : 0 < q := by rw [hq]; exact Nat.pow_pos (by omega)
  have e : 2 * (p / q % u / 2) + 1 = p / q % u := by rw [h1]; omega
  have hl := Nat.mod_lt p hqp;refine ⟨?_, by omega, by omega⟩;rw [e, Nat.mod_add_div (p / q) u, Nat.mul_comm, Nat.div_add_mod]
end Go.AL
/- How often 2 divides a binomial coefficient: plain. -/
namespace Go.AL
def fac : Nat → Nat
  | 0 => 1
  | n + 1 => (n + 1) * fac n
theorem ch_fac : ∀ n k : Nat, ch (n + k) k * fac n * fac k = fac (n + k)
  | n, 0 => by simp [ch_zero, fac]
  | 0, k + 1 => by rw [Nat.zero_add, ch_self]; simp [fac]
  | n + 1, k + 1 => by
    have h1 := ch_fac (n + 1) k;have h2 := ch_fac n (k + 1);rw [show n + 1 + (k + 1) = (n + 1 + k) + 1 by omega, ch_succ];rw [show n + (k + 1) = n + 1 + k by omega] at h2;rw [show fac (n + 1 + k + 1) = (n + 1 + k + 1) * fac (n + 1 + k) from rfl]
    have e1 : ch (n + 1 + k) k * fac (n + 1) * fac (k + 1) = (k + 1) * fac (n + 1 + k) := by rw [← h1]; simp only [fac]; grind
    have e2 : ch (n + 1 + k) (k + 1) * fac (n + 1) * fac (k + 1) = (n + 1) * fac (n + 1 + k) := by rw [← h2]; simp only [fac]; grind
    rw [Nat.add_mul, Nat.add_mul, e1, e2];grind
/-- the number of binary digits 1 -/
def s2 (n : Nat) : Nat := if n = 0 then 0 else n % 2 + s2 (n / 2)
termination_by n
decreasing_by omega
theorem s2_zero : s2 0 = 0 := by unfold s2; simp
theorem s2_half (n : Nat) : s2 n = n % 2 + s2 (n / 2) := by
  by_cases h : n = 0
  · subst h; simp [s2_zero]
  · conv => lhs; unfold s2
    rw [if_neg h]
def od : Nat → Nat
  | 0 => 1
  | n + 1 => (2 * n + 1) * od n
theorem odd_mul {a b : Nat} (ha : a % 2 = 1) (hb : b % 2 = 1) : a * b % 2 = 1 := by rw [Nat.mul_mod, ha, hb]
theorem od_odd : ∀ n : Nat, od n % 2 = 1
  | 0 => rfl
  | n + 1 => odd_mul (by omega) (od_odd n)
theorem fac_two : ∀ n : Nat, fac (2 * n) = 2 ^ n * fac n * od n
  | 0 => by simp [fac, od]
  | n + 1 => by
    rw [show 2 * (n + 1) = 2 * n + 1 + 1 by omega];simp only [fac, od, fac_two n, Nat.pow_succ];grind
theorem fac_val : ∀ n : Nat, ∃ o, o % 2 = 1 ∧ fac n * 2 ^ s2 n = 2 ^ n * o := by
  intro n
  induction n using Nat.strongRecOn with
  | _ n ih =>
    by_cases h : n = 0
    · subst h; exact ⟨1, rfl, by simp [fac, s2_zero]⟩
    · obtain ⟨o, h1, h2⟩ := ih (n / 2) (by omega);have hs := s2_half n;rcases Nat.mod_two_eq_zero_or_one n with hn | hn
      · have e : n = 2 * (n / 2) := by omega
        generalize n / 2 = m at *
        subst e;refine ⟨od m * o, odd_mul (od_odd m) h1, ?_⟩;rw [hs, hn, Nat.zero_add, fac_two]
        have : 2 ^ m * fac m * od m * 2 ^ s2 m = 2 ^ m * od m * (fac m * 2 ^ s2 m) := by grind
        rw [this, h2, Nat.two_mul, Nat.pow_add];grind
      · have e : n = 2 * (n / 2) + 1 := by omega
        generalize n / 2 = m at *
        subst e;refine ⟨(2 * m + 1) * (od m * o), odd_mul (by omega) (odd_mul (od_odd m) h1), ?_⟩;rw [hs, hn];simp only [fac];rw [fac_two, Nat.pow_add 2 1]
        have : (2 * m + 1) * (2 ^ m * fac m * od m) * (2 ^ 1 * 2 ^ s2 m) = (2 * m + 1) * 2 * 2 ^ m * od m * (fac m * 2 ^ s2 m) := by grind
        rw [this, h2, Nat.pow_succ, Nat.two_mul, Nat.pow_add];grind
/-- carries of an addition in binary digits -/
def carr : Nat → Nat → Nat → Nat → Nat
  | 0, _, _, _ => 0
  | f + 1, m, k, c => (m % 2 + k % 2 + c) / 2 + carr f (m / 2) (k / 2) ((m % 2 + k % 2 + c) / 2)
theorem carr_s2 : ∀ (f m k c : Nat), c ≤ 1 → m + k + c < 2 ^ f → carr f m k c + s2 (m + k + c) = s2 m + s2 k + c
  | 0, m, k, c, hc, h => by
    have : m + k + c = 0 := by simp at h; omega
    obtain rfl : m = 0 := by omega
    obtain rfl : k = 0 := by omega
    obtain rfl : c = 0 := by omega
    simp [carr, s2_zero]
  | f + 1, m, k, c, hc, h => by
    have e : (m + k + c) / 2 = m / 2 + k / 2 + (m % 2 + k % 2 + c) / 2 := by omega
    have ih := carr_s2 f (m / 2) (k / 2) ((m % 2 + k % 2 + c) / 2) (by omega) (by rw [← e, Nat.pow_succ] at *; omega);have h1 := s2_half m;have h2 := s2_half k;have h3 := s2_half (m + k + c);rw [e] at h3;simp only [carr];omega
theorem odd_cop {c o : Nat} (h : o % 2 = 1) : Nat.Coprime (2 ^ c) o := Nat.Coprime.pow_left c (by unfold Nat.Coprime; rw [Nat.gcd_rec, h, Nat.gcd_one_left])
/-- 2 divides it as often as there are carries -/
theorem kummer {f m k : Nat} (hf : m + k < 2 ^ f) : 2 ^ carr f m k 0 ∣ ch (m + k) k ∧ ¬ 2 ^ (carr f m k 0 + 1) ∣ ch (m + k) k := by
  have hs := carr_s2 f m k 0 (by omega) hf;simp only [Nat.add_zero] at hs;obtain ⟨o1, a1, b1⟩ := fac_val m;obtain ⟨o2, a2, b2⟩ := fac_val k;obtain ⟨o3, a3, b3⟩ := fac_val (m + k);have hc := ch_fac m k
  generalize carr f m k 0 = c at *
  have key : ch (m + k) k * (o1 * o2) = o3 * 2 ^ c := by
    have e1 : ch (m + k) k * (o1 * o2) * (2 ^ (m + k) * 2 ^ s2 (m + k)) = o3 * 2 ^ c * (2 ^ (m + k) * 2 ^ s2 (m + k)) := by
      have l : ch (m + k) k * (o1 * o2) * (2 ^ (m + k) * 2 ^ s2 (m + k)) = ch (m + k) k * (2 ^ m * o1) * (2 ^ k * o2) * 2 ^ s2 (m + k) := by rw [Nat.pow_add 2 m k]; grind
      have r : o3 * 2 ^ c * (2 ^ (m + k) * 2 ^ s2 (m + k)) = (2 ^ (m + k) * o3) * (2 ^ s2 m * 2 ^ s2 k) := by
        rw [← Nat.pow_add 2 (s2 m), ← hs, Nat.pow_add 2 c]; grind
      rw [l, r, ← b1, ← b2, ← b3, ← hc];grind
    exact Nat.eq_of_mul_eq_mul_right (Nat.mul_pos (Nat.two_pow_pos _) (Nat.two_pow_pos _)) e1
  have ho := odd_mul a1 a2;constructor
  · exact (odd_cop ho).dvd_of_dvd_mul_right (by rw [key]; exact Nat.dvd_mul_left _ _)
  · intro h
    have h1 : 2 ^ (c + 1) ∣ o3 * 2 ^ c := by rw [← key]; exact Nat.dvd_trans h (Nat.dvd_mul_right _ _)
    rw [Nat.pow_succ, Nat.mul_comm o3] at h1;have h2 := Nat.dvd_of_mul_dvd_mul_left (Nat.two_pow_pos c) h1;omega
end Go.AL
/- law12's carries. -/
namespace Go.AL
theorem carr_zero : ∀ f : Nat, carr f 0 0 0 = 0
  | 0 => rfl
  | f + 1 => by rw [carr]; simpa using carr_zero f
end Go.AL
namespace Go.Proofs.YtcaecieigoplbaaGreat
open Go.AL
theorem carries_ok (f m k : Nat) (hf : m + k < 2 ^ f) (hm : m ≤ 1000) (hk : k ≤ 1000) : PureFn Tryz.prog 41 [aN m, aN k] (aN (carr f m k 0)) := by
  refine PureFn.of_body Tryz.func41 rfl Tryz.ntmps41 rfl rfl ?_;obtain ⟨R, hR⟩ : ∃ R, R = carr f m k 0 := ⟨_, rfl⟩;rw [← hR];(repeat' (first |refine Fl.v rfl rfl rfl ?_ |refine Fl.nilF ?_ |refine AWP.seq ?_ |refine AWP.region ?_ |refine AWP.block ?_));refine AWP.loop (G := Nat × Nat × Nat × Nat × Nat) (fun (m, k, c, n, f) => c ≤ 1 ∧ m ≤ 1000 ∧ k ≤ 1000 ∧ m + k + c < 2 ^ f ∧ n + carr f m k c = R ∧ n + m + k + c ≤ 2000) (fun (m, k, c, n, _) => St.of [] [(0, aN m), (1, aN k), (5, aN n), (6, aN c)] []) (fun (m, k, c, _, _) => m + k + c) (m, k, 0, 0, f) ⟨by omega, hm, hk, by omega, by omega, by omega⟩ ?_ ?_
  · refine Ent.of [] ?_ ?_ rfl rfl;(repeat' (first |exact True.intro |refine ⟨⟨AV.Le.refl _, rfl⟩, ?_⟩|fail))
  · intro ⟨m, k, c, n, f⟩ ⟨h1, h2, h3, h4, h5, h6⟩
    cases f with
    | zero =>
      simp only [Nat.pow_zero] at h4
      obtain rfl : m = 0 := by omega
      obtain rfl : k = 0 := by omega
      obtain rfl : c = 0 := by omega
      rw [carr] at h5;(repeat' (first |refine Fl.v rfl rfl rfl ?_ |refine Fl.nilF ?_ |refine AWP.seq ?_ |refine AWP.region ?_ |refine AWP.condF rfl ?_ |refine AWP.exit ?_ |refine AWP.ret ?_));exact RetOk.of rfl (AV.Le.int (by omega))
    | succ f =>
      rw [carr] at h5;rw [Nat.pow_succ] at h4;by_cases hz : m = 0 ∧ k = 0 ∧ c = 0
      · obtain ⟨rfl, rfl, rfl⟩ := hz;simp only [Nat.zero_mod, Nat.add_zero, Nat.zero_div, carr_zero] at h5;(repeat' (first |refine Fl.v rfl rfl rfl ?_ |refine Fl.nilF ?_ |refine AWP.seq ?_ |refine AWP.region ?_ |refine AWP.condF rfl ?_ |refine AWP.exit ?_ |refine AWP.ret ?_));exact RetOk.of rfl (AV.Le.int (by omega))
      · (repeat' (first |refine Fl.v rfl rfl rfl ?_ |refine Fl.nilF ?_ |refine AWP.seq ?_ |refine AWP.region ?_ |refine Fl.w rfl rfl rfl (by first | exact True.intro | omega) ?_ |refine Fl.w rfl rfl rfl ⟨by omega, by omega, by dsimp only [hiK]; omega⟩ ?_ |refine Fl.skip rfl rfl ?_ |refine AWP.condT rfl ?_ |(refine AWP.condD rfl ?_ ?_ <;> intro _ <;> try (exfalso; omega)) |refine AWP.block ?_ |refine AWP.skip ?_ |(refine Fl.splitD rfl rfl ?_ ?_ <;> intro _ <;> try (exfalso; omega))))
        all_goals
          refine LoopEnd.of (m / 2, k / 2, (m % 2 + k % 2 + c) / 2, n + (m % 2 + k % 2 + c) / 2, f) ⟨by omega, by omega, by omega, by omega, by omega, by omega⟩ (by dsimp only; omega) ?_;refine Ent.of [] ?_ ?_ rfl rfl;(repeat' (first |exact True.intro |refine ⟨⟨AV.Le.refl _, rfl⟩, ?_⟩|fail))
          all_goals omega
end Go.Proofs.YtcaecieigoplbaaGreat
/- Code in a round of a range over a function: over abstract states. -/
namespace Go.AL
abbrev Rf (l : Nat) : Fence := Fence.wide.inRound l
/-- no operation of a region defers -/
def noDefer (ops : Array Oper) : Bool := ops.toList.all fun o => match o.op with | .defer _ => false | _ => true
theorem noDefer_ok {ops : Array Oper} (h : noDefer ops = true) {i : Nat} {o : Oper} (ho : ops[i]? = some o) : ∀ c, o.op ≠ .defer c := by
  intro c hc
  have hm : o ∈ ops.toList := by
    have : ops.toList[i]? = some o := by simpa using ho
    exact List.mem_of_getElem? this
  have := List.all_eq_true.1 h o hm;rw [hc] at this
  cases this
section
variable {P : Program} {n : Nat} {l : Nat}
theorem opIn {o : Oper} {a : Act} {w : World} {next next' : Act → World → Prop} {Q : Exit → Act → World → Prop} (hnd : ∀ c, o.op ≠ .defer c) (hn : ∀ a w, next a w → next' a w) (h : o.wp P a w next Q) : o.wpIn (Rf l) 0 P a w next' Q := by
  refine ⟨fun _ _ => trivial, ?_⟩;show o.uponIn (Rf l) 0 P a next' Q ((o.semAt (some l) a.eval).run P w);rw [Oper.semAt_eq _ _ _ hnd];unfold Oper.wp at h
  cases hr : (execOp a.eval o).run P w with
  | ok r w' =>
    rw [hr] at h
    cases r with
    | value v => exact hn _ _ h
    | skip => exact hn _ _ h
    | defer d => exact hn _ _ h
    | enter f args =>
      refine ⟨fun hd => (by cases hd), ?_⟩;refine CallsIn.inRound l (callsIn_wide.2 (Calls.mono h fun e w'' hh => ?_))
      cases e with
      | returned v => exact hn _ _ hh
      | panicked ch => exact hh
      | outgrown => exact hh
    | row row args =>
      refine ⟨fun hd => (by cases hd), ?_⟩;exact fun c cs _ => let ⟨v, w'', r, st⟩ := h c cs; ⟨v, w'', hn _ _ r, stepsIn_wide.2 st⟩
    | _ => exact h.elim
  | halt r w' =>
    rw [hr] at h
    cases r with
    | panic v => exact h
    | _ => exact h.elim
theorem wpOps_in {ops : Array Oper} {Q : Exit → Act → World → Prop} (hnd : noDefer ops = true) (hQ : ¬ LetsOut Q) : ∀ (is : List Nat) (a : Act) (w : World), wpOps P ops Q is a w → wpOpsIn (Rf l) 0 P ops Q is a w
  | [], a, w, h => h
  | i :: is, a, w, h => by
    unfold wpOps at h;unfold wpOpsIn
    cases ho : ops[i]? with
    | none => rw [ho] at h; exact wpOps_in hnd hQ is a w h
    | some o =>
      rw [ho] at h;dsimp only at h ⊢;split
      · rename_i hw;rw [if_pos hw] at h;rcases h with h | ⟨_, h⟩
        · exact opIn (noDefer_ok hnd ho) (fun a w => wpOps_in hnd hQ is a w) h
        · exact absurd h hQ
      · rename_i hw;rw [if_neg hw] at h;exact ⟨fun _ _ => trivial, wpOps_in hnd hQ is _ w h⟩
end
end Go.AL
/- Code in a round, over abstract states; code that leaves marks of loops behind. -/
namespace Go.AL
/-- the blocks of a state's boxes -/
def ownM (s : St) (β : Bt) : Nat → Prop := fun g => ∃ id B, s.bx id = some B ∧ blk (β id) = some g
section
variable {P : Program} {tab : Tab} {n : Nat} {I : List Id} {Q : Exit → St → Prop} {s s' : St} {C : Cx} {a a' : Act} {w w' : World} {h h' : Hp} {β β' : Bt}
theorem Base.reroot (k : Base C n s a w h β) (d : List Deferred) {β0 : Bt} (hb : β0.le β) : Base ⟨w, h, β0, ownM s β, d⟩ n s { a with defers := d } w h β :=
  ⟨Evo.refl _ k.evo.has, hb, k.slot, k.box, k.apart, fun id B _ h1 h2 => .inl ⟨id, B, h1, h2⟩, k.dom, k.size, rfl⟩
theorem Base.unroot (k : Base C n s a w h β) {d : List Deferred} {β0 : Bt} (h0 : C.β0.le β0) (r : Base ⟨w, h, β0, ownM s β, d⟩ n s' a' w' h' β') : Base { C with dfr := d } n s' a' w' h' β' := by
  have hown : ∀ g, ownM s β g → C.M g ∨ C.w0.heap.size ≤ g := fun g ⟨id, B, h1, h2⟩ => k.own id B g h1 h2;refine ⟨k.evo.trans r.evo hown, Bt.le.trans h0 r.b0, r.slot, r.box, r.apart, fun id B g h1 h2 => ?_, r.dom, r.size, r.defers⟩;rcases r.own id B g h1 h2 with hg | hg
  · exact hown g hg
  · exact .inr (Nat.le_trans k.evo.size hg)
/-- a block of a box holds no mark, no loop's record -/
theorem BoxAt.obj {id : Id} {B : Bx} (k : BoxAt w h β id B) {g : Nat} (hg : blk (β id) = some g) : (∀ ds, w.heap[g]? ≠ some (.deferred ds)) ∧ (∀ r, w.heap[g]? ≠ some (.loop r)) := by
  cases B with
  | cells cs t =>
    obtain ⟨g', us, e1, e2, _⟩ := k;rw [e1] at hg; simp only [blk] at hg; injection hg with hg; subst hg;rw [e2]; exact ⟨fun _ h => (by cases h), fun _ h => (by cases h)⟩
  | row sz enc xs t =>
    obtain ⟨v, vals, e1, ⟨_, e2 | ⟨g', cap, cur, e2, _, e3, _⟩⟩, _⟩ := k
    · rw [e1, e2.1] at hg; simp [blk] at hg
    · rw [e1, e2] at hg; simp only [blk] at hg; injection hg with hg; subst hg;rw [e3]; exact ⟨fun _ h => (by cases h), fun _ h => (by cases h)⟩
  | map ek av xs clock =>
    obtain ⟨g', es, e1, e2, _⟩ := k;rw [e1] at hg; simp only [blk] at hg; injection hg with hg; subst hg;rw [e2]; exact ⟨fun _ h => (by cases h), fun _ h => (by cases h)⟩
  | iter m since seen last =>
    obtain ⟨r, g', e1, _, e2, _⟩ := k;rw [e1] at hg; simp only [blk] at hg; injection hg with hg; subst hg;rw [e2]; exact ⟨fun _ h => (by cases h), fun _ h => (by cases h)⟩
theorem Base.not_own (k : Base C n s a w h β) {D : Nat} (hD : (∃ ds, w.heap[D]? = some (.deferred ds)) ∨ (∃ r, w.heap[D]? = some (.loop r))) : ¬ ownM s β D := by
  rintro ⟨id, B, h1, h2⟩;obtain ⟨h3, h4⟩ := (k.box id B h1).obj h2;rcases hD with ⟨ds, hd⟩ | ⟨r, hd⟩
  · exact h3 _ hd
  · exact h4 _ hd
/-! ### In a round -/
structure RWP (P : Program) (n : Nat) (I : List Id) (l : Nat) (c : Code) (Q : Exit → St → Prop) (s : St) : Prop where
  out : ∀ (C : Cx) (a : Act) (w : World) (h : Hp) (β : Bt), IniOk C I → Base C n s a w h β → c.wpIn (Rf l) 0 P (fun e a' w' => ∃ s' h' β', Base C n s' a' w' h' β' ∧ Q e s') a w
variable {l : Nat}
theorem RWP.ent {c : Code} (he : Ent n I s s') (k : RWP P n I l c Q s') : RWP P n I l c Q s :=
  ⟨fun C a w hp β hi b => let ⟨h', β', b'⟩ := he C a w hp β hi b; k.out C a w h' β' hi b'⟩
theorem RWP.seq {c d : Code} (k : RWP P n I l c (AThen (fun s => RWP P n I l d Q s) Q) s) : RWP P n I l (.seq c d) Q s :=
  ⟨fun C a w hp β hi b => wpIn_seq (wpIn_mono (k.out C a w hp β hi b) fun e a w ⟨s', h', β', b, q⟩ => by
    cases e with
    | normal => exact q.out C a w h' β' hi b
    | _ => exact ⟨s', h', β', b, q⟩)⟩
theorem RWP.skip (k : Q .normal s) : RWP P n I l .skip Q s := ⟨fun _ _ _ hp β _ b => wpIn_skip ⟨s, hp, β, b, k⟩⟩
theorem RWP.ret (k : Q .ret s) : RWP P n I l .ret Q s := ⟨fun _ _ _ hp β _ b => wpIn_ret ⟨s, hp, β, b, k⟩⟩
theorem RWP.exit {id : Nat} (k : Q (.exit id) s) : RWP P n I l (.exit id) Q s := ⟨fun _ _ _ hp β _ b => wpIn_exit ⟨s, hp, β, b, k⟩⟩
theorem RWP.block {id : Nat} {c : Code} (k : RWP P n I l c (AIn id Q) s) : RWP P n I l (.block id c) Q s :=
  ⟨fun C a w hp β hi b => wpIn_block (wpIn_mono (k.out C a w hp β hi b) fun e a w ⟨s', h', β', b, q⟩ => by
    cases e with
    | exit id' =>
      simp only [Exit.inBlock];by_cases he : id' = id
      · subst he;rw [if_pos rfl];simp only [AIn, Nat.beq_refl] at q;exact ⟨s', h', β', b, q⟩
      · rw [if_neg he];simp only [AIn, beq_ne he] at q;exact ⟨s', h', β', b, q⟩
    | _ => exact ⟨s', h', β', b, q⟩)⟩
theorem RWP.condD {c : Operand} {x y : Code} {p : Prop} [Decidable p] (hc : opd s c = .v (.bool (decide p))) (ht : p → RWP P n I l x Q s) (hf : ¬ p → RWP P n I l y Q s) : RWP P n I l (.cond c x y) Q s :=
  ⟨fun C a w hp β hi b => wpIn_cond_split (eval_bool b hc) (fun e => (ht (of_decide_eq_true e)).out C a w hp β hi b) (fun e => (hf (of_decide_eq_false e)).out C a w hp β hi b)⟩
theorem RWP.region [f : Facts P tab] {id : Nat} {ops : Array Oper} {draw : Bool} {K : St → Prop} (hnd : noDefer ops = true) (hQ : ∀ s, K s → Q .normal s) (k : Fl P n ops ⟨draw, []⟩ ops.toList s [] (fun e s => e = .normal ∧ K s)) : RWP P n I l (.region id ops draw) Q s := by
  have hno : ∀ (l : List Oper) (Es : List Eff) (i : Nat) (s : St), appAll (fun i => (Array.replicate ops.size false).getD i false) i l Es s = s := by
    intro l Es i s;refine appAll_none _ l Es i s fun k _ => ?_;by_cases hk : k < ops.size <;> simp [Array.getD_eq_getD_getElem?, hk]
  have hclo : Closed ops (fun i => (Array.replicate ops.size false).getD i false) := by
    intro j o hj hd;have : j < ops.size := (Array.getElem?_eq_some_iff.1 hj).1;simp [Array.getD_eq_getD_getElem?, this] at hd
  have hcnt : cnt ops.size (fun i => (Array.replicate ops.size false).getD i false) ≤ ops.size := by
    have : ∀ (m : Nat) (D : Nat → Bool), cnt m D ≤ m := by
      intro m D
      induction m with
      | zero => simp [cnt]
      | succ m ih => simp only [cnt]; cases D m <;> simp <;> omega
    exact this _ _
  rcases k.out with ⟨Es, s', hch, hck, _, hK⟩ | ⟨l1, o, l2, Es, s', E, chain, hl, hch, hg, hthr, hck, hQt, hQf⟩
  · refine ⟨fun C a w hp β hi b => ?_⟩
    have hlo : ¬ LetsOut (fun (e : Exit) (a' : Act) (w' : World) => e = .normal ∧ ∃ h' β', Base C n s' a' w' h' β') := fun ⟨_, _, e, _⟩ => by cases e
    have fin : ∀ (e : Exit) (a' : Act) (w' : World), (e = .normal ∧ ∃ h' β', Base C n s' a' w' h' β') → ∃ s' h' β', Base C n s' a' w' h' β' ∧ Q e s' := fun e a' w' ⟨he, h', β', b'⟩ => ⟨s', h', β', b', by rw [he]; exact hQ _ hK⟩
    cases draw with
    | false =>
      refine wpIn_mono (wpIn_region (wpOps_in hnd hlo _ _ _ ?_)) fin;have := wp_seq_ops (C := C) (Q := fun (e : Exit) (a' : Act) (w' : World) => e = .normal ∧ ∃ h' β', Base C n s' a' w' h' β') hch [] (InvJ.nil _) (List.range ops.size) a w hp β (by simp) (fun j i o h1 h2 => ?_) b (fun a w h β _ b => ⟨rfl, h, β, b⟩)
      · rwa [List.append_nil] at this
      · have hji : j = i ∧ j < ops.size := by
          rw [List.getElem?_range] at h1
          · injection h1 with h1; exact ⟨h1, by
              have := (List.getElem?_eq_some_iff.1 h2).1
              simpa using this⟩
          · have := (List.getElem?_eq_some_iff.1 h2).1;simpa using this
        rw [← hji.1]; simpa using h2
    | true =>
      refine wpIn_mono (wpIn_region_draw fun t => wpOps_in hnd hlo _ _ _ ?_) fin;simp only [Region.schedule, f.mixed, Bool.true_or, if_true];refine wpAny_sound ops.size t _ a _ (any_sound (C := C) (s' := s') (InvJ.nil _) hch (by simpa using hck rfl) (fun a w h β b => ⟨rfl, h, β, b⟩) ops.size _ a _ hp β (by simp) hclo hcnt ?_);rw [hno];exact b.drew
  · cases draw with
    | false => exact absurd (hQf rfl).1 (by simp)
    | true => exact absurd (hQt rfl s).1 (by simp)
end
end Go.AL
/- Functions whose loops leave marks behind. -/
namespace Go.AL
section
variable {P : Program} {tab : Tab} {n : Nat} {I : List Id} {Q : Exit → St → Prop} {s s' : St} {C : Cx} {a a' : Act} {w w' : World} {h h' : Hp} {β β' : Bt}
theorem Base.stepN (k : Base C n s a w h β) {N : Nat → Prop} (e : Evo N w h w' h') (hN : ∀ g, N g → C.M g ∨ C.w0.heap.size ≤ g) (hd : ∀ g, N g → ¬ ownM s β g) : Base C n s a w' h' β := by
  refine ⟨k.evo.trans e hN, k.b0, fun i => (k.slot i).mono e.le (Bt.le.refl β), fun id B hb => ?_, k.apart, k.own, k.dom, k.size, k.defers⟩;refine (k.box id B hb).keep e.le (Bt.le.refl β) fun g hg => ?_;obtain ⟨h1, h2⟩ := k.blk_lt hb hg;have hng : ¬ N g := fun hn => hd g hn ⟨id, B, hb, hg⟩;refine ⟨e.block g h1 hng, ?_⟩
  cases hh : h' g with
  | none => rfl
  | some cs =>
    exfalso;rcases e.fresh g (by rw [hh]; simp) with h3 | h3 | h3
    · exact h3 h2
    · omega
    · exact hng h3
theorem evo_mark {D : Nat} {o o' : Obj} (hw : Has w h) (hD : w.heap[D]? = some o) (ho : ∀ us t f, o ≠ .cells us t f) : Evo (fun g => g = D) w h (w.putObj D o') h := by
  have hlt : D < w.heap.size := (Array.getElem?_eq_some_iff.1 hD).1
  have hn : h D = none := by
    cases hh : h D with
    | none => rfl
    | some cs =>
      obtain ⟨t, f, h1⟩ := hw D cs hh;rw [hD] at h1;injection h1 with h1;exact absurd h1 (ho _ _ _)
  refine ⟨rfl, rfl, ⟨rfl, Nat.le_refl _⟩, by simp, fun i _ hi => World.putObj_heap_other hi, Hp.le.refl h, fun _ hb => .inl hb, fun b cs hb => ?_⟩;obtain ⟨t, f, h1⟩ := hw b cs hb
  have hne : b ≠ D := fun e => by rw [e, hn] at hb; cases hb
  exact ⟨t, f, by rw [World.putObj_heap_other hne]; exact h1⟩
abbrev coll (D : Nat) : Deferred := { target := .collected D, args := #[] }
def MarksOk (w0 w : World) (ds : List Nat) : Prop := ds.Nodup ∧ ∀ D ∈ ds, w.heap[D]? = some (.deferred (some [])) ∧ w0.heap.size ≤ D
structure FWP (P : Program) (n : Nat) (I : List Id) (c : Code) (Q : Exit → St → Prop) (s : St) : Prop where
  out : ∀ (C : Cx) (a : Act) (w : World) (h : Hp) (β : Bt) (ds : List Nat), IniOk C I → Base { C with dfr := ds.map coll } n s a w h β → MarksOk C.w0 w ds →
    c.wp P (fun e a' w' => ∃ s' h' β' ds', Base { C with dfr := ds'.map coll } n s' a' w' h' β' ∧ MarksOk C.w0 w' ds' ∧ Q e s') a w
theorem FWP.lift {c : Code} (k : AWP P n I c Q s) : FWP P n I c Q s := ⟨fun C a w h β ds hi b hm => by
  have hr := b.reroot (ds.map coll) b.b0
  have ha : { a with defers := ds.map coll } = a := by cases a; simp only [Act.mk.injEq, true_and]; exact b.defers.symm
  rw [ha] at hr;refine wp_mono (k.out ⟨w, h, C.β0, ownM s β, ds.map coll⟩ a w h β hi hr) fun e a' w' ⟨s', h', β', r, q⟩ => ?_;have hu := b.unroot (β0 := C.β0) (Bt.le.refl _) r;refine ⟨s', h', β', ds, hu, ⟨hm.1, fun D hD => ?_⟩, q⟩;obtain ⟨h1, h2⟩ := hm.2 D hD
  exact ⟨by rw [r.evo.block D (Array.getElem?_eq_some_iff.1 h1).1 (b.not_own (.inl ⟨_, h1⟩))]; exact h1, h2⟩⟩
theorem FWP.ent {c : Code} (he : Ent n I s s') (k : FWP P n I c Q s') : FWP P n I c Q s :=
  ⟨fun C a w h β ds hi b hm => let ⟨h', β', b'⟩ := he { C with dfr := ds.map coll } a w h β hi b; k.out C a w h' β' ds hi b' hm⟩
theorem FWP.seq {c d : Code} (k : FWP P n I c (AThen (fun s => FWP P n I d Q s) Q) s) : FWP P n I (.seq c d) Q s :=
  ⟨fun C a w h β ds hi b hm => wp_seq (wp_mono (k.out C a w h β ds hi b hm) fun e a w ⟨s', h', β', ds', b, m, q⟩ => by
    cases e with
    | normal => exact q.out C a w h' β' ds' hi b m
    | _ => exact ⟨s', h', β', ds', b, m, q⟩)⟩
theorem FWP.block {id : Nat} {c : Code} (k : FWP P n I c (AIn id Q) s) : FWP P n I (.block id c) Q s :=
  ⟨fun C a w h β ds hi b hm => wp_block (wp_mono (k.out C a w h β ds hi b hm) fun e a w ⟨s', h', β', ds', b, m, q⟩ => by
    cases e with
    | exit id' =>
      simp only [Exit.inBlock];by_cases he : id' = id
      · subst he;rw [if_pos rfl];simp only [AIn, Nat.beq_refl] at q;exact ⟨s', h', β', ds', b, m, q⟩
      · rw [if_neg he];simp only [AIn, beq_ne he] at q;exact ⟨s', h', β', ds', b, m, q⟩
    | _ => exact ⟨s', h', β', ds', b, m, q⟩)⟩
theorem leavesM {fn : Func} {R : Ending → World → Prop} {xs : List Deferred} : ∀ (ds : List Nat) (w : World) (h : Hp) (β : Bt), Base { C with dfr := xs } n s a w h β → MarksOk C.w0 w ds →
    (∀ w' h' β', Base { C with dfr := xs } n s a w' h' β' → ∃ v, (results fn a.tmps).run P w' = .ok v w' ∧ R (.returned v) w') → LeavesInM Fence.wide 0 P fn a.tmps R (ds.map coll) .returning w
  | [], w, h, β, b, _, fin => fin w h β b
  | D :: ds, w, h, β, b, m, fin => by
    obtain ⟨h1, h2⟩ := m.2 D (by simp);have hnd := List.nodup_cons.1 m.1;have e := evo_mark (o' := .deferred none) b.evo.has h1 (fun _ _ _ e => by cases e);have b' := b.stepN e (fun g hg => .inr (by rw [hg]; exact h2)) (fun g hg => by rw [hg]; exact b.not_own (.inl ⟨_, h1⟩));refine ⟨by simp, .inl ⟨D, _, rfl, run_takeDeferred h1, leavesM ds _ h β b' ⟨hnd.2, fun D' hD' => ?_⟩ fin⟩⟩;obtain ⟨k1, k2⟩ := m.2 D' (by simp [hD']);refine ⟨?_, k2⟩;have hne : D' ≠ D := fun e => hnd.1 (by rw [← e]; exact hD');rw [World.putObj_heap_other hne];exact k1
/-- A contract, out of what the body does, whose loops leave marks behind. -/
theorem PureFn.of_bodyF [f : Facts P tab] {k : FuncId} {fn : Func} {c : Code} {args : List AV} {r : AV} (hf : P.funcs[k]? = some fn) (hb : fn.body = some c) (hn : fn.ntmps = n) (hname : (fn.name == "runtime.NumGoroutine") = false) (hl : Nat.ble args.length n = true)
    (hk : FWP P n [] c (RetQ n tab fn.results.toList r) (St.init args)) : PureFn P k args r := by
  have hl := Nat.le_of_ble_eq_true hl;refine ⟨⟨fn, hf, hname, by rw [hb]; rfl⟩, fun w hp us hw hr => ?_⟩;refine callsIn_wide.1 (callsIn_of_wp_marks (F := Fence.wide) (n := 0) hf hb trivial (wpIn_wide.2 ?_) rfl)
  have hus : us.size = args.length := by rw [← Array.length_toList]; exact hr.length
  have hbase : Base ⟨w, hp, noB, never, []⟩ n (St.init args) { tmps := us ++ Array.replicate (fn.ntmps - us.size) undef, defers := [] } w hp noB := by
    refine ⟨Evo.refl _ hw, Bt.le.refl _, fun i => ?_, fun id B hB => by simp [St.init] at hB, fun _ _ _ _ hB => by simp [St.init] at hB, fun _ _ _ hB => by simp [St.init] at hB, fun _ _ => rfl, by simp; omega, rfl⟩;simp only [St.init];by_cases hi : i < us.size
    · have hget : (us ++ Array.replicate (fn.ntmps - us.size) undef).getD i undef = us[i] := by
        simp [Array.getD_eq_getD_getElem?, Array.getElem?_append, hi]
      rw [hget]
      have : ∀ (azs : List AV) (vs : List Value) (i : Nat) (v : Value), RepL hp noB azs vs → vs[i]? = some v → Rep hp noB (initE azs i) v := by
        intro azs
        induction azs with
        | nil => intro vs i v hr hv; simp only [RepL] at hr; subst hr; simp at hv
        | cons a azs ih =>
          intro vs i v hr hv;simp only [RepL] at hr;obtain ⟨u, r', rfl, h1, h2⟩ := hr
          cases i with
          | zero => simp at hv; subst hv; exact h1
          | succ i => exact ih r' i v h2 (by simpa using hv)
      exact this args us.toList i _ hr (by simp [hi])
    · have : ∀ (azs : List AV) (i : Nat), azs.length ≤ i → initE azs i = .any := by
        intro azs
        induction azs with
        | nil => intro i _; rfl
        | cons a azs ih => intro i hi; cases i with
          | zero => simp at hi
          | succ i => exact ih i (by simpa using hi)
      rw [this args i (by omega)];simp only [Rep]
  refine wp_mono (hk.out ⟨w, hp, noB, never, []⟩ _ w hp noB [] (fun id hid => (hid rfl).elim) hbase ⟨List.nodup_nil, by simp⟩) fun e a' w' ⟨s', h', β', ds, b, m, q⟩ => ?_
  have fin : RetOk n tab fn.results.toList r s' → LeavesInM Fence.wide 0 P fn a'.tmps (fun e w' => ∃ u h', e = .returned u ∧ Evo never w hp w' h' ∧ Rep h' noB r u) a'.defers .returning w' := by
    intro hq;obtain ⟨s2, r', hent, h1, h2, h3⟩ := hq.out;obtain ⟨h', β', b⟩ := hent _ _ _ _ _ (fun id hid => (hid rfl).elim) b;rw [b.defers];refine leavesM (C := ⟨w, hp, noB, never, []⟩) ds w' h' β' b m fun w3 h3' β3 b3 => ?_;obtain ⟨v, hv1, hv2⟩ := results_ok (P := P) b3 h1;exact ⟨v, hv1, v, h3', rfl, b3.evo, h3 _ _ _ (hv2.closed _ _ h2)⟩
  cases e with
  | normal => exact fin q
  | ret => exact fin q
  | _ => exact q.elim
end
end Go.AL
/- A range over a function, at its caller. -/
namespace Go.AL
/-- What an iterator does: it yields e 0, e 1, .. (values over fixed memory), till e says none, or a round said no; no more than N rounds go on. 'T': the blocks that are the iterator's own. -/
structure IterFn (P : Program) (gf : FuncId) (caps : List AV) (e : Nat → Option (List AV)) (N : Nat) : Prop where
  fn : ∃ fn, P.funcs[gf]? = some fn ∧ (fn.name == "runtime.NumGoroutine") = false ∧ fn.body.isNone = false
  calls : ∀ (W : World) (h : Hp) (us : Array Value) (l : Nat) (J : Nat → World → Hp → (Nat → Prop) → Prop) (Jx : World → Hp → (Nat → Prop) → Prop),
    Has W h → RepL h noB caps us.toList →
    (∀ i A hA T B hB T', J i A hA T → Evo T A hA B hB → (∀ g, T' g → (T g ∨ A.heap.size ≤ g) ∧ g < B.heap.size) → J i B hB T') →
    (∀ A hA T B hB T', Jx A hA T → Evo T A hA B hB → (∀ g, T' g → (T g ∨ A.heap.size ≤ g) ∧ g < B.heap.size) → Jx B hB T') →
    (∀ i xs A hA T (args : Array Value), e i = some xs → Has A hA → J i A hA T → RepL hA noB xs args.toList →
      YieldAt Fence.wide 0 P l args A fun en B => ∃ hB, Evo (fun g => ¬ T g) A hA B hB ∧ ((en = .returned (.bool true) ∧ J (i + 1) B hB T) ∨ (en = .returned (.bool false) ∧ Jx B hB T))) →
    (∀ i A hA T, J i A hA T → i < N) →
    J 0 W h never →
    Calls P gf (#[.func (.yield l) #[] #[]] ++ us) W fun en B => ∃ v hB T, en = .returned v ∧ ((∃ i, e i = none ∧ J i B hB T) ∨ Jx B hB T)
section
variable {P : Program} {tab : Tab} {n : Nat} {I : List Id} {Q : Exit → St → Prop} {s s' : St} {C : Cx} {a a' : Act} {w w' : World} {h h' : Hp} {β β' : Bt}
def anyS (s : St) : St := ⟨fun _ => .any, s.bx, s.al⟩
/-- another world, in which the boxes lie as they lay: a new root -/
theorem Base.rerootN (k : Base C n s a w h β) {N : Nat → Prop} (e : Evo N w h w' h') (hd : ∀ g, N g → ¬ ownM s β g) (d : List Deferred) {β0 : Bt} (hb : β0.le β) : Base ⟨w', h', β0, ownM s β, d⟩ n s { a with defers := d } w' h' β := by
  refine ⟨Evo.refl _ e.has, hb, fun i => (k.slot i).mono e.le (Bt.le.refl β), fun id B hb => ?_, k.apart, fun id B _ h1 h2 => .inl ⟨id, B, h1, h2⟩, k.dom, k.size, rfl⟩;refine (k.box id B hb).keep e.le (Bt.le.refl β) fun g hg => ?_;obtain ⟨h1, h2⟩ := k.blk_lt hb hg;have hng : ¬ N g := fun hn => hd g hn ⟨id, B, hb, hg⟩;refine ⟨e.block g h1 hng, ?_⟩
  cases hh : h' g with
  | none => rfl
  | some cs =>
    exfalso;rcases e.fresh g (by rw [hh]; simp) with h3 | h3 | h3
    · exact h3 h2
    · omega
    · exact hng h3
/-- the caller's part in an iterator's run: boxes, the loop's record, the block for deferred calls -/
structure JB (C0 : Cx) (n : Nat) (sx : St) (a : Act) (l D : Nat) (o : Obj) (W : World) (hW : Hp) (T : Nat → Prop) : Prop where
  out : ∃ β', Base C0 n sx a W hW β' ∧ (∀ g, T g → g < W.heap.size ∧ ¬ ownM sx β' g ∧ C0.w0.heap.size ≤ g ∧ g ≠ l ∧ g ≠ D) ∧ W.heap[l]? = some o ∧ W.heap[D]? = some (.deferred (some []))
theorem JB.stab {C0 : Cx} {sx : St} {l D : Nat} {o : Obj} {W B : World} {hW hB : Hp} {T T' : Nat → Prop} (k : JB C0 n sx a l D o W hW T) (e : Evo T W hW B hB) (hT : ∀ g, T' g → (T g ∨ W.heap.size ≤ g) ∧ g < B.heap.size) : JB C0 n sx a l D o B hB T' := by
  obtain ⟨β', b, ht, hl, hD⟩ := k.out;have ll : l < W.heap.size := (Array.getElem?_eq_some_iff.1 hl).1;have lD : D < W.heap.size := (Array.getElem?_eq_some_iff.1 hD).1;refine ⟨β', b.stepN e (fun g hg => .inr (ht g hg).2.2.1) (fun g hg => (ht g hg).2.1), fun g hg => ?_, ?_, ?_⟩
  · obtain ⟨h1, h2⟩ := hT g hg;rcases h1 with h1 | h1
    · obtain ⟨_, k2, k3, k4, k5⟩ := ht g h1;exact ⟨h2, k2, k3, k4, k5⟩
    · refine ⟨h2, ?_, Nat.le_trans b.evo.size h1, by omega, by omega⟩;rintro ⟨id, Bx', h3, h4⟩;have := (b.blk_lt h3 h4).1;omega
  · rw [e.block l ll fun hn => (ht l hn).2.2.2.1 rfl]; exact hl
  · rw [e.block D lD fun hn => (ht D hn).2.2.2.2 rfl]; exact hD
end
end Go.AL
/- A range over a function, at its caller: the rule. -/
namespace Go.AL
section
variable {P : Program} {tab : Tab} {n : Nat} {I : List Id} {Q : Exit → St → Prop} {s s' : St} {C : Cx} {a a' : Act} {w w' : World} {h h' : Hp} {β β' : Bt}
theorem Base.redfr (k : Base C n s a w h β) (d : List Deferred) : Base { C with dfr := d } n s { a with defers := d } w h β := ⟨k.evo, k.b0, k.slot, k.box, k.apart, k.own, k.dom, k.size, rfl⟩
theorem Base.act (k : Base C n s a w h β) : { a with defers := C.dfr } = a := by cases a; simp only [Act.mk.injEq, true_and]; exact k.defers.symm
/-- how a round may be left: on to the next one, or out of the loop -/
def RoundQ (n : Nat) (Ip : List Id) (s : St) (Q : Exit → St → Prop) (sn : St) (ok : Prop) : Exit → St → Prop
  | .normal, s' => ok ∧ Ent n Ip s' (anyS sn)
  | .ret, s' => ∃ sx, sx.env = s.env ∧ Ent n Ip s' (anyS sx) ∧ Q .ret sx
  | .exit id, s' => ∃ sx, sx.env = s.env ∧ Ent n Ip s' (anyS sx) ∧ Q (.exit id) sx
  | _, _ => False
def setPs (p q : Tmp) (x y : AV) (s : St) : St := (Eff.mk y [] [] [] []).app (some q) ((Eff.mk x [] [] [] []).app (some p) s)
/-- behind the loop -/
theorem rangeEnd {e : Exit} {ds : List Nat} {βp : Bt} {sx : St} {l D : Nat} {r r' : Loop} {W : World} {hW : Hp} {T : Nat → Prop} (b : Base { C with dfr := ds.map coll } n s a w h β) (hm : MarksOk C.w0 w ds) (hC : C.β0.le βp) (hD : D = w.heap.size) (hl : l = w.heap.size + 1)
    (k : JB ⟨w, h, βp, ownM s β, ds.map coll⟩ n sx a l D (.loop r) W hW T) (q : Q e sx) :
    ∃ s' h' β' ds', Base { C with dfr := ds'.map coll } n s' { a with defers := [coll D] ++ a.defers } (W.putObj l (.loop r')) h' β' ∧ MarksOk C.w0 (W.putObj l (.loop r')) ds' ∧ Q e s' := by
  obtain ⟨β', bJ, _, h1, h2⟩ := k.out;have hev := evo_mark (o' := .loop r') bJ.evo.has h1 (fun _ _ _ e => by cases e);have bJ' := bJ.stepN hev (fun g hg => .inr (by show w.heap.size ≤ g; omega)) (fun g hg => by rw [hg]; exact bJ.not_own (.inr ⟨_, h1⟩));have bu := (b.unroot (β0 := βp) hC bJ').redfr ((D :: ds).map coll)
  have ha : ({ a with defers := [coll D] ++ a.defers } : Act) = { a with defers := (D :: ds).map coll } := by rw [b.defers]; rfl
  rw [ha]
  have hne : D ≠ l := by omega
  refine ⟨sx, hW, β', D :: ds, bu, ⟨List.nodup_cons.2 ⟨fun hd => ?_, hm.1⟩, fun D' hD' => ?_⟩, q⟩
  · have := (Array.getElem?_eq_some_iff.1 (hm.2 D hd).1).1;omega
  · rcases List.mem_cons.1 hD' with rfl | hd
    · exact ⟨by rw [World.putObj_heap_other hne]; exact h2, by rw [hD]; exact b.evo.size⟩
    · obtain ⟨k1, k2⟩ := hm.2 D' hd;exact ⟨by rw [bJ'.evo.block D' (Array.getElem?_eq_some_iff.1 k1).1 (b.not_own (.inl ⟨_, k1⟩))]; exact k1, k2⟩
theorem roundEnd {dd : List Deferred} {βp : Bt} {si s1 sx : St} {a1 a3 : Act} {l D : Nat} {A A1 A3 : World} {hA h1 h4 : Hp} {β1 β4 : Bt} {oA ob r : Loop} {T : Nat → Prop}
    (hslot : ∀ i, Rep h βp (s.env i) (a.tmps.getD i undef)) (bJ : Base ⟨w, h, βp, ownM s β, dd⟩ n si a A hA β') (ht : ∀ g, T g → g < A.heap.size ∧ ¬ ownM si β' g ∧ w.heap.size ≤ g ∧ g ≠ l ∧ g ≠ D) (hlD : D ≠ l) (hlw : w.heap.size ≤ l)
    (hl : A.heap[l]? = some (.loop oA)) (hD : A.heap[D]? = some (.deferred (some []))) (b1 : Base ⟨A, hA, βp, ownM si β', []⟩ n s1 a1 A1 h1 β1) (b4 : Base ⟨A1.putObj l (.loop ob), h1, βp, ownM s1 β1, []⟩ n (anyS sx) a3 A3 h4 β4) (hse : sx.env = s.env) :
    A3.heap[l]? = some (.loop ob) ∧ Evo (fun g => ¬ T g) A hA (A3.putObj l (.loop r)) h4 ∧ JB ⟨w, h, βp, ownM s β, dd⟩ n sx a l D (.loop r) (A3.putObj l (.loop r)) h4 T := by
  have ll : l < A.heap.size := (Array.getElem?_eq_some_iff.1 hl).1;have lD : D < A.heap.size := (Array.getElem?_eq_some_iff.1 hD).1;have e1 := b1.evo
  have hl1 : A1.heap[l]? = some (.loop oA) := by rw [e1.block l ll (bJ.not_own (.inr ⟨_, hl⟩))]; exact hl
  have hD1 : A1.heap[D]? = some (.deferred (some [])) := by rw [e1.block D lD (bJ.not_own (.inl ⟨_, hD⟩))]; exact hD
  have e2 := evo_mark (o' := .loop ob) e1.has hl1 (fun _ _ _ e => by cases e);have e4 := b4.evo;have ll1 : l < A1.heap.size := (Array.getElem?_eq_some_iff.1 hl1).1;have lD1 : D < A1.heap.size := (Array.getElem?_eq_some_iff.1 hD1).1
  have hs2 : (A1.putObj l (.loop ob)).heap.size = A1.heap.size := by simp
  have hl3 : A3.heap[l]? = some (.loop ob) := by rw [e4.block l (by rw [hs2]; exact ll1) (b1.not_own (.inr ⟨_, hl1⟩))]; exact World.putObj_heap_same ll1
  have hD3 : A3.heap[D]? = some (.deferred (some [])) := by rw [e4.block D (by rw [hs2]; exact lD1) (b1.not_own (.inl ⟨_, hD1⟩)), World.putObj_heap_other hlD]; exact hD1
  have e5 := evo_mark (o' := .loop r) e4.has hl3 (fun _ _ _ e => by cases e);have b5 := b4.rerootN e5 (fun g hg => by rw [hg]; exact b4.not_own (.inr ⟨_, hl3⟩)) [] b4.b0;have own1 : ∀ g, ownM s1 β1 g → ownM si β' g ∨ A.heap.size ≤ g := fun g ⟨id, B, k1, k2⟩ => b1.own id B g k1 k2
  have own4 : ∀ g, ownM (anyS sx) β4 g → ownM si β' g ∨ A.heap.size ≤ g := fun g ⟨id, B, k1, k2⟩ => by
    rcases b4.own id B g k1 k2 with k | k
    · exact own1 g k
    · have : A1.heap.size ≤ g := by rw [← hs2]; exact k
      exact .inr (Nat.le_trans e1.size this)
  have ownJ : ∀ g, ownM si β' g → ownM s β g ∨ w.heap.size ≤ g := fun g ⟨id, B, k1, k2⟩ => bJ.own id B g k1 k2;have up : ∀ g, ownM si β' g ∨ A.heap.size ≤ g → ownM s β g ∨ w.heap.size ≤ g := fun g k => k.elim (ownJ g) fun k => .inr (Nat.le_trans bJ.evo.size k);have nT : ∀ g, ownM si β' g ∨ A.heap.size ≤ g → ¬ T g ∨ A.heap.size ≤ g := fun g k => k.elim (fun k => .inl fun t => (ht g t).2.1 k) .inr;have lT : ∀ g, g = l → ¬ T g := fun g hg t => (ht g t).2.2.2.1 hg;refine ⟨hl3, (((Evo.refl _ bJ.evo.has).trans e1 fun g k => nT g (.inl k)).trans e2 fun g hg => .inl (lT g hg)).trans e4 (fun g k => nT g (own1 g k)) |>.trans e5 fun g hg => .inl (lT g hg), ⟨β4, ⟨?_, b4.b0, fun i => ?_, b5.box, b5.apart, fun id B g k1 k2 => up g (own4 g ⟨id, B, k1, k2⟩), b5.dom, bJ.size, bJ.defers⟩, fun g t => ?_, ?_, ?_⟩⟩
  · exact (((bJ.evo.trans e1 fun g k => ownJ g k).trans e2 fun g hg => .inr (by rw [hg]; exact hlw)).trans e4 fun g k => up g (own1 g k)).trans e5 fun g hg => .inr (by rw [hg]; exact hlw)
  · rw [hse];have hle : h.le h4 := (bJ.evo.le.trans e1.le).trans e4.le;exact (hslot i).mono hle b4.b0 _ _
  · obtain ⟨t1, t2, t3, t4, t5⟩ := ht g t;refine ⟨?_, fun k => ?_, t3, t4, t5⟩
    · have k1 : A.heap.size ≤ A1.heap.size := e1.size
      have k2 : A1.heap.size ≤ A3.heap.size := by rw [← hs2]; exact e4.size
      rw [World.putObj_size];omega
    · rcases own4 g k with k | k
      · exact t2 k
      · omega
  · exact World.putObj_heap_same (Array.getElem?_eq_some_iff.1 hl3).1
  · rw [World.putObj_heap_other hlD]; exact hD3
end
end Go.AL
/- A range over a function of two variables: the rule at the caller. -/
namespace Go.AL
mutual
theorem AV.ren_id : ∀ c : AV, c.ren (fun i => i) = c
  | .v _ => rfl
  | .agg cs => by simp only [AV.ren, renL_id cs]
  | .tup cs => by simp only [AV.ren, renL_id cs]
  | .sl _ _ _ => rfl
  | .cptr _ => rfl
  | .ptr _ _ => rfl
  | .row _ => rfl
  | .rptr _ _ => rfl
  | .mp _ => rfl
  | .sub _ _ _ => rfl
  | .fn _ cs => by simp only [AV.ren, renL_id cs]
  | .any => rfl
theorem renL_id : ∀ cs : List AV, renL (fun i => i) cs = cs
  | [] => rfl
  | c :: cs => by simp only [renL, AV.ren_id c, renL_id cs]
end
section
variable {P : Program} {tab : Tab} {n : Nat} {I : List Id} {Q : Exit → St → Prop} {s : St}
theorem FWP.rangeFunc {g : Operand} {p q : Tmp} {assign body : Code} {gf : FuncId} {caps : List AV} {e : Nat → Option (List AV)} {N : Nat} (it : IterFn P gf caps e N) (hN0 : 0 < N) (hg : opd s g = .fn gf caps) (hcl : closedL caps = true) (hpn : Nat.blt p n = true) (hqn : Nat.blt q n = true)
    (Ip : List Id) (hI : ∀ id ∈ I, id ∈ Ip) (hin : ∀ t, (s.env t).within Ip = true) (S : Nat → St) (hSe : ∀ i, (S i).env = s.env) (h0 : S 0 = s) (h2 : ∀ i xs, e i = some xs → ∃ x y, xs = [x, y])
    (hround : ∀ i x y l, i < N → e i = some [x, y] → RWP P n Ip l assign (AThen (fun s1 => RWP P n Ip l body (RoundQ n Ip s Q (S (i + 1)) (i + 1 < N)) s1) (fun _ _ => False)) (setPs p q x y (S i)))
    (hdone : ∀ i, e i = none → Q .normal (S i)) : FWP P n I (.rangeFunc g #[p, q] assign body) Q s := by
  have hpn : p < n := Nat.le_of_ble_eq_true hpn;have hqn : q < n := Nat.le_of_ble_eq_true hqn;refine ⟨fun C a w h β ds hi b hm => wpIn_wide (n := 0) |>.1 (wpIn_rangeFunc (F := Fence.wide) (n := 0) fun fn _ => ?_)⟩
  obtain ⟨βp, hβ⟩ : ∃ βp : Bt, βp = fun id => match memI Ip id with | true => β id | false => none := ⟨_, rfl⟩
  have hle : βp.le β := fun id v hv => by
    rw [hβ] at hv;dsimp only at hv;split at hv
    · exact hv
    · cases hv
  have hIp : ∀ id, βp id ≠ none → id ∈ Ip := fun id hv => by
    rw [hβ] at hv;dsimp only at hv
    cases hmm : memI Ip id with
    | true => exact (memI_mem _ _).1 hmm
    | false => rw [hmm] at hv; exact absurd rfl hv
  have hC : C.β0.le βp := fun id v hv => by
    have h1 : id ∈ Ip := hI id (hi id (by show C.β0 id ≠ none; rw [hv]; simp));rw [hβ];dsimp only;rw [(memI_mem _ _).2 h1];exact b.b0 id v hv
  have hslot : ∀ i, Rep h βp (s.env i) (a.tmps.getD i undef) := fun i => by
    refine Rep.within (σ := fun i => i) (ids := Ip) (fun id v h1 h2 => ?_) (s.env i) _ (hin i) (by rw [AV.ren_id]; exact b.slot i);rw [hβ];dsimp only;rw [(memI_mem _ _).2 h1];exact h2
  have hgr := opd_rep b g;rw [hg] at hgr;simp only [Rep] at hgr;obtain ⟨cu, hcu, hcr⟩ := hgr;have hcr : RepL h noB caps cu.toList := RepL.closed _ _ hcl hcr;have b0 := b.reroot (ds.map coll) (β0 := βp) hle;have ha : { a with defers := ds.map coll } = a := b.act;rw [ha] at b0;obtain ⟨rec, hrec⟩ : ∃ rec : LoopState → Option Code → Loop, rec = fun st pe => { state := st, pending := pe, fn, tmps := a.tmps, params := #[p, q], assign, body, defers := w.heap.size } := ⟨_, rfl⟩;obtain ⟨W1, hW1⟩ : ∃ W1, (w.alloc (.deferred (some []))).alloc (.loop (rec .ready none)) = W1 := ⟨_, rfl⟩
  have ev1 : Evo never w h W1 h := by
    rw [← hW1];exact (evo_alloc b.evo.has _).trans (evo_alloc (evo_alloc b.evo.has _).has _) fun _ h => h.elim
  have hL1 : W1.heap[w.heap.size + 1]? = some (.loop (rec .ready none)) := by
    rw [← hW1]; have := World.alloc_heap_new (w.alloc (.deferred (some []))) (.loop (rec .ready none)); rwa [World.size_alloc] at this
  have hK1 : W1.heap[w.heap.size]? = some (.deferred (some [])) := by
    rw [← hW1]; exact (show ((w.alloc (.deferred (some []))).alloc (.loop (rec .ready none))).heap[w.heap.size]? = (w.alloc (.deferred (some []))).heap[w.heap.size]? by first | exact heap_alloc_old _ _ (by simp) | exact heap_alloc_old _ _ _ (by simp)).trans (World.alloc_heap_new w _)
  have hJ0 : JB ⟨w, h, βp, ownM s β, ds.map coll⟩ n (S 0) a (w.heap.size + 1) w.heap.size (.loop (rec .ready none)) W1 h never := by
    rw [h0];exact ⟨β, b0.step ev1, fun g hg => hg.elim, hL1, hK1⟩
  refine ⟨w.heap.size + 1, [coll w.heap.size], W1, { target := .fn (.func gf) cu, args := #[.func (.yield (w.heap.size + 1)) #[] #[]] }, W1, gf, #[.func (.yield (w.heap.size + 1)) #[] #[]] ++ cu, W1, ?_, ?_, fun _ _ => trivial, ?_, fun hd => (by cases hd), ?_⟩
  · rw [← hW1, hrec]; exact run_enterLoop_outer _ _ _ _ _
  · simp only [resolve, hcu];simp [go_sem]
  · simp only [invoke];exact run_callFunc it.fn _ W1
  subst hrec
  refine callsIn_wide.2 ((it.calls W1 h cu (w.heap.size + 1) (fun i W hW T => i < N ∧ JB ⟨w, h, βp, ownM s β, ds.map coll⟩ n (S i) a (w.heap.size + 1) w.heap.size (.loop { state := .ready, pending := none, fn, tmps := a.tmps, params := #[p, q], assign, body, defers := w.heap.size }) W hW T)
    (fun W hW T => ∃ (c : Code) (sx : St), sx.env = s.env ∧ ((c = .ret ∧ Q .ret sx) ∨ ∃ id, c = .exit id ∧ Q (.exit id) sx) ∧ JB ⟨w, h, βp, ownM s β, ds.map coll⟩ n sx a (w.heap.size + 1) w.heap.size (.loop { state := .done, pending := some c, fn, tmps := a.tmps, params := #[p, q], assign, body, defers := w.heap.size }) W hW T)
    ev1.has hcr (fun i A hA T B hB T' k e hT => ⟨k.1, k.2.stab e hT⟩) (by rintro A hA T B hB T' ⟨c, sx, h1, h2, k⟩ e hT; exact ⟨c, sx, h1, h2, k.stab e hT⟩) ?_ (fun i A hA T k => k.1) ⟨hN0, hJ0⟩).mono ?_)
  · intro i xs A hA T args hei hasA k hargs;obtain ⟨x, y, rfl⟩ := h2 i xs hei;simp only [RepL] at hargs;obtain ⟨ux, r1, e1, hx, uy, r2, e2, hy, e3⟩ := hargs
    obtain rfl : args = #[ux, uy] := by
      apply Array.ext';rw [e1, e2, e3]
    obtain ⟨β', bJ, ht, hl, hD⟩ := k.2.out
    have hyd : (Instr.yield (w.heap.size + 1) #[ux, uy]).run P A = .ok (.round (w.heap.size + 1) fn ((a.tmps.setIfInBounds p ux).setIfInBounds q uy) assign body) A := by
      rw [run_yield (P := P) (args := #[ux, uy]) hl rfl];simp
    refine ⟨fn, _, assign, body, hyd, roundIn_of_wpIn trivial ?_⟩;have b1 := bJ.reroot [] (β0 := βp) bJ.b0;have b2 := (b1.val (some p) (fun t ht => by cases ht; exact hpn) (hx.mono (Hp.le.refl hA) (noB_le β') _ _) []).val (some q) (fun t ht => by cases ht; exact hqn) (hy.mono (Hp.le.refl hA) (noB_le β') _ _) [];refine wpIn_mono ((hround i x y (w.heap.size + 1) k.1 hei).out ⟨A, hA, βp, ownM (S i) β', []⟩ _ A hA β' hIp b2) ?_;intro e1 a1 A1 ⟨s1, h1, β1, bb, qq⟩
    cases e1 with
    | normal =>
      have hl1 := bb.evo.block _ (Array.getElem?_eq_some_iff.1 hl).1 (bJ.not_own (.inr ⟨_, hl⟩));rw [hl] at hl1;refine ⟨_, run_beginRound hl1 rfl, ?_⟩;have ev2 := evo_mark (o' := .loop { state := .busy, pending := none, fn, tmps := a.tmps, params := #[p, q], assign, body, defers := w.heap.size }) bb.evo.has hl1 (fun _ _ _ e => by cases e);have b3 := bb.rerootN ev2 (fun g hg => by rw [hg]; exact bb.not_own (.inr ⟨_, hl1⟩)) [] bb.b0;have hact : { a1 with defers := [] } = a1 := bb.act;rw [hact] at b3;refine wpIn_mono (qq.out ⟨A1.putObj (w.heap.size + 1) _, h1, βp, ownM s1 β1, []⟩ a1 _ h1 β1 hIp b3) ?_;intro e3 a3 A3 ⟨s3, h3, β3, b4, q3⟩
      have fin : ∀ (sx : St) (r : Loop), Ent n Ip s3 (anyS sx) → sx.env = s.env → ∃ h4, A3.heap[w.heap.size + 1]? = some (.loop { state := .busy, pending := none, fn, tmps := a.tmps, params := #[p, q], assign, body, defers := w.heap.size }) ∧ Evo (fun g => ¬ T g) A hA (A3.putObj (w.heap.size + 1) (.loop r)) h4 ∧ JB ⟨w, h, βp, ownM s β, ds.map coll⟩ n sx a (w.heap.size + 1) w.heap.size (.loop r) (A3.putObj (w.heap.size + 1) (.loop r)) h4 T := fun sx r he hse => by
        obtain ⟨h4, β4, b5⟩ := he ⟨A1.putObj (w.heap.size + 1) _, h1, βp, ownM s1 β1, []⟩ a3 A3 h3 β3 hIp b4;obtain ⟨k1, k2, k3⟩ := roundEnd (r := r) hslot bJ ht (by omega) (by omega) hl hD bb b5 hse;exact ⟨h4, k1, k2, k3⟩
      cases e3 with
      | normal =>
        obtain ⟨h4, k1, k2, k3⟩ := fin (S (i + 1)) { state := .ready, pending := none, fn, tmps := a.tmps, params := #[p, q], assign, body, defers := w.heap.size } q3.2 (hSe _);exact ⟨_, _, run_endRound none k1, h4, k2, .inl ⟨rfl, q3.1, k3⟩⟩
      | ret =>
        obtain ⟨sx, hse, he, hq⟩ := q3;obtain ⟨h4, k1, k2, k3⟩ := fin sx { state := .done, pending := some .ret, fn, tmps := a.tmps, params := #[p, q], assign, body, defers := w.heap.size } he hse;exact ⟨_, _, run_endRound (some .ret) k1, h4, k2, .inr ⟨rfl, .ret, sx, hse, .inl ⟨rfl, hq⟩, k3⟩⟩
      | exit id =>
        obtain ⟨sx, hse, he, hq⟩ := q3;obtain ⟨h4, k1, k2, k3⟩ := fin sx { state := .done, pending := some (.exit id), fn, tmps := a.tmps, params := #[p, q], assign, body, defers := w.heap.size } he hse;exact ⟨_, _, run_endRound (some (.exit id)) k1, h4, k2, .inr ⟨rfl, .exit id, sx, hse, .inr ⟨id, rfl, hq⟩, k3⟩⟩
      | _ => exact q3.elim
    | _ => exact qq.elim
  · rintro en B ⟨v, hB, T, rfl, ⟨i, hei, k⟩ | ⟨c, sx, hse, hq, k⟩⟩
    · obtain ⟨_, _, _, hl, _⟩ := k.2.out;exact ⟨none, _, run_endLoop hl (by simp), rangeEnd b hm hC rfl rfl k.2 (hdone i hei)⟩
    · obtain ⟨_, _, _, hl, _⟩ := k.out;refine ⟨some c, _, run_endLoop hl (by simp), ?_⟩;rcases hq with ⟨rfl, hq⟩ | ⟨id, rfl, hq⟩
      · exact wpIn_ret (rangeEnd b hm hC rfl rfl k hq)
      · exact wpIn_exit (rangeEnd b hm hC rfl rfl k hq)
end
end Go.AL
/- Iterators: code that yields. -/
namespace Go.AL
/-- what an iterator may count on -/
structure ItEnv (P : Program) (l : Nat) (e : Nat → Option (List AV)) (N : Nat) (J : Nat → World → Hp → (Nat → Prop) → Prop) (Jx : World → Hp → (Nat → Prop) → Prop) : Prop where
  stab : ∀ i A hA T B hB T', J i A hA T → Evo T A hA B hB → (∀ g, T' g → (T g ∨ A.heap.size ≤ g) ∧ g < B.heap.size) → J i B hB T'
  stabx : ∀ A hA T B hB T', Jx A hA T → Evo T A hA B hB → (∀ g, T' g → (T g ∨ A.heap.size ≤ g) ∧ g < B.heap.size) → Jx B hB T'
  round : ∀ i xs A hA T (args : Array Value), e i = some xs → Has A hA → J i A hA T → RepL hA noB xs args.toList →
      YieldAt Fence.wide 0 P l args A fun en B => ∃ hB, Evo (fun g => ¬ T g) A hA B hB ∧ ((en = .returned (.bool true) ∧ J (i + 1) B hB T) ∨ (en = .returned (.bool false) ∧ Jx B hB T))
  bound : ∀ i A hA T, J i A hA T → i < N
/-- where the iterator stands: i elements have been taken (some i), or it has been told to stop -/
def Hold (J : Nat → World → Hp → (Nat → Prop) → Prop) (Jx : World → Hp → (Nat → Prop) → Prop) : Option Nat → World → Hp → (Nat → Prop) → Prop
  | some i => J i
  | none => Jx
structure IWP (P : Program) (n : Nat) (I : List Id) (l : Nat) (e : Nat → Option (List AV)) (N : Nat) (c : Code) (Q : Exit → Option Nat → St → Prop) (ph : Option Nat) (s : St) : Prop where
  out : ∀ J Jx, ItEnv P l e N J Jx → ∀ (C : Cx) (a : Act) (w : World) (h : Hp) (β : Bt), IniOk C I → C.dfr = [] → Base C n s a w h β → Hold J Jx ph w h (ownM s β) →
    c.wpIn Fence.wide 0 P (fun ex a' w' => ∃ C' ph' s' h' β', IniOk C' I ∧ C'.dfr = [] ∧ Base C' n s' a' w' h' β' ∧ Hold J Jx ph' w' h' (ownM s' β') ∧ Q ex ph' s') a w
section
variable {P : Program} {tab : Tab} {n : Nat} {I : List Id} {l : Nat} {e : Nat → Option (List AV)} {N : Nat} {Q : Exit → Option Nat → St → Prop} {ph : Option Nat} {s s' : St} {C : Cx} {a a' : Act} {w w' : World} {h h' : Hp} {β β' : Bt}
variable {J : Nat → World → Hp → (Nat → Prop) → Prop} {Jx : World → Hp → (Nat → Prop) → Prop}
theorem ItEnv.hold (E : ItEnv P l e N J Jx) {T T' : Nat → Prop} (k : Hold J Jx ph w h T) (ev : Evo T w h w' h') (hT : ∀ g, T' g → (T g ∨ w.heap.size ≤ g) ∧ g < w'.heap.size) : Hold J Jx ph w' h' T' := by
  cases ph with
  | none => exact E.stabx _ _ _ _ _ _ k ev hT
  | some i => exact E.stab _ _ _ _ _ _ _ k ev hT
theorem own_step {β0 : Bt} {d : List Deferred} {T : Nat → Prop} (r : Base ⟨w, h, β0, T, d⟩ n s' a' w' h' β') : ∀ g, ownM s' β' g → (T g ∨ w.heap.size ≤ g) ∧ g < w'.heap.size :=
  fun g ⟨id, B, k1, k2⟩ => ⟨r.own id B g k1 k2, (r.blk_lt k1 k2).1⟩
theorem IWP.lift {c : Code} {Q' : Exit → St → Prop} (k : AWP P n I c Q' s) (hQ : ∀ ex s, Q' ex s → Q ex ph s) : IWP P n I l e N c Q ph s := ⟨fun J Jx E C a w h β hi hd b hh => by
  have hr := b.reroot [] (β0 := C.β0) b.b0
  have ha : { a with defers := [] } = a := by cases a; simp only [Act.mk.injEq, true_and]; exact (b.defers.trans hd).symm
  rw [ha] at hr
  exact wpIn_wide.2 (wp_mono (k.out ⟨w, h, C.β0, ownM s β, []⟩ a w h β hi hr) fun ex a' w' ⟨s', h', β', r, q⟩ => ⟨⟨w, h, C.β0, ownM s β, []⟩, ph, s', h', β', hi, rfl, r, E.hold hh r.evo (own_step r), hQ _ _ q⟩)⟩
theorem IWP.ent {c : Code} (he : Ent n I s s') (k : IWP P n I l e N c Q ph s') : IWP P n I l e N c Q ph s := ⟨fun J Jx E C a w h β hi hd b hh => by
  have hr := b.reroot [] (β0 := C.β0) b.b0
  have ha : { a with defers := [] } = a := by cases a; simp only [Act.mk.injEq, true_and]; exact (b.defers.trans hd).symm
  rw [ha] at hr;obtain ⟨h', β', r⟩ := he ⟨w, h, C.β0, ownM s β, []⟩ a w h β hi hr
  exact k.out J Jx E ⟨w, h, C.β0, ownM s β, []⟩ a w h' β' hi rfl r (E.hold hh r.evo (own_step r))⟩
def AThenI (K : Option Nat → St → Prop) (Q : Exit → Option Nat → St → Prop) : Exit → Option Nat → St → Prop
  | .normal, ph, s => K ph s
  | ex, ph, s => Q ex ph s
def AInI (id : Nat) (Q : Exit → Option Nat → St → Prop) : Exit → Option Nat → St → Prop
  | .exit id', ph, s => match Nat.beq id' id with | true => Q .normal ph s | false => Q (.exit id') ph s
  | ex, ph, s => Q ex ph s
theorem IWP.seq {c d : Code} (k : IWP P n I l e N c (AThenI (fun ph s => IWP P n I l e N d Q ph s) Q) ph s) : IWP P n I l e N (.seq c d) Q ph s :=
  ⟨fun J Jx E C a w h β hi hd b hh => wpIn_seq (wpIn_mono (k.out J Jx E C a w h β hi hd b hh) fun ex a w ⟨C', ph', s', h', β', i1, i2, b, hh, q⟩ => by
    cases ex with
    | normal => exact q.out J Jx E C' a w h' β' i1 i2 b hh
    | _ => exact ⟨C', ph', s', h', β', i1, i2, b, hh, q⟩)⟩
theorem IWP.skip (k : Q .normal ph s) : IWP P n I l e N .skip Q ph s := ⟨fun _ _ _ C _ _ h β i1 i2 b hh => wpIn_skip ⟨C, ph, s, h, β, i1, i2, b, hh, k⟩⟩
theorem IWP.exit {id : Nat} (k : Q (.exit id) ph s) : IWP P n I l e N (.exit id) Q ph s := ⟨fun _ _ _ C _ _ h β i1 i2 b hh => wpIn_exit ⟨C, ph, s, h, β, i1, i2, b, hh, k⟩⟩
theorem IWP.block {id : Nat} {c : Code} (k : IWP P n I l e N c (AInI id Q) ph s) : IWP P n I l e N (.block id c) Q ph s :=
  ⟨fun J Jx E C a w h β hi hd b hh => wpIn_block (wpIn_mono (k.out J Jx E C a w h β hi hd b hh) fun ex a w ⟨C', ph', s', h', β', i1, i2, b, hh, q⟩ => by
    cases ex with
    | exit id' =>
      simp only [Exit.inBlock];by_cases he : id' = id
      · subst he;rw [if_pos rfl];simp only [AInI, Nat.beq_refl] at q;exact ⟨C', ph', s', h', β', i1, i2, b, hh, q⟩
      · rw [if_neg he];simp only [AInI, beq_ne he] at q;exact ⟨C', ph', s', h', β', i1, i2, b, hh, q⟩
    | _ => exact ⟨C', ph', s', h', β', i1, i2, b, hh, q⟩)⟩
theorem IWP.condB {c : Operand} {x y : Code} {t : Bool} (hc : opd s c = .v (.bool t)) (ht : t = true → IWP P n I l e N x Q ph s) (hf : t = false → IWP P n I l e N y Q ph s) : IWP P n I l e N (.cond c x y) Q ph s :=
  ⟨fun J Jx E C a w h β i1 i2 b hh => wpIn_cond_split (eval_bool b hc) (fun k => (ht k).out J Jx E C a w h β i1 i2 b hh) (fun k => (hf k).out J Jx E C a w h β i1 i2 b hh)⟩
end
end Go.AL
/- Iterators: loops, the yield itself, the contract. -/
namespace Go.AL
section
variable {P : Program} {tab : Tab} {n : Nat} {I : List Id} {l : Nat} {e : Nat → Option (List AV)} {N : Nat} {Q : Exit → Option Nat → St → Prop} {ph : Option Nat} {s s' : St} {C : Cx} {a a' : Act} {w w' : World} {h h' : Hp} {β β' : Bt}
variable {J : Nat → World → Hp → (Nat → Prop) → Prop} {Jx : World → Hp → (Nat → Prop) → Prop}
structure LoopEndI {G : Type} (n : Nat) (I : List Id) (N : Nat) (K : G → Prop) (S : G → St) (ph : G → Option Nat) (μ : G → Nat) (g : G) (p : Option Nat) (s : St) : Prop where
  out : ∃ g', K g' ∧ ph g' = p ∧ ((∀ i, p = some i → i < N) → μ g' < μ g) ∧ Ent n I s (S g')
def LoopQI {G : Type} (n : Nat) (I : List Id) (N : Nat) (K : G → Prop) (S : G → St) (ph : G → Option Nat) (μ : G → Nat) (g : G) (Q : Exit → Option Nat → St → Prop) : Exit → Option Nat → St → Prop
  | .normal, p, s => LoopEndI n I N K S ph μ g p s
  | ex, p, s => Q ex p s
theorem IWP.loop {c : Code} {G : Type} (K : G → Prop) (S : G → St) (pg : G → Option Nat) (μ : G → Nat) (g0 : G) (hg0 : pg g0 = ph) (hk : K g0) (he : Ent n I s (S g0))
    (round : ∀ g, K g → (∀ i, pg g = some i → i < N) → IWP P n I l e N c (LoopQI n I N K S pg μ g Q) (pg g) (S g)) : IWP P n I l e N (.loop c) Q ph s := by
  refine IWP.ent he ⟨fun J Jx E C a w h β hi hd b hh => ?_⟩;refine wpIn_loop_ghost (fun m a w => ∃ g C h β, K g ∧ μ g = m ∧ IniOk C I ∧ C.dfr = [] ∧ Base C n (S g) a w h β ∧ Hold J Jx (pg g) w h (ownM (S g) β)) (μ g0) ⟨g0, C, h, β, hk, rfl, hi, hd, b, by rw [hg0]; exact hh⟩ ?_;intro m a w ⟨g, C, h, β, hkg, hm, hi, hd, b, hh⟩
  have hN : ∀ i, pg g = some i → i < N := fun i hi => by rw [hi] at hh; exact E.bound _ _ _ _ hh
  refine wpIn_mono ((round g hkg hN).out J Jx E C a w h β hi hd b hh) fun ex a w ⟨C', p, s', h', β', i1, i2, b, hh, q⟩ => ?_
  cases ex with
  | normal =>
    obtain ⟨g', hkg', hp, hμ, hent⟩ := q.out;have hr := b.reroot [] (β0 := C'.β0) b.b0
    have ha : { a with defers := [] } = a := by cases a; simp only [Act.mk.injEq, true_and]; exact (b.defers.trans i2).symm
    rw [ha] at hr;obtain ⟨h2, β2, r⟩ := hent ⟨w, h', C'.β0, ownM s' β', []⟩ a w h' β' i1 hr
    have hN' : ∀ i, p = some i → i < N := fun i hi => by rw [hi] at hh; exact E.bound _ _ _ _ hh
    exact ⟨μ g', hm ▸ hμ hN', g', ⟨w, h', C'.β0, ownM s' β', []⟩, h2, β2, hkg', rfl, i1, rfl, r, by rw [hp]; exact E.hold hh r.evo (own_step r)⟩
  | _ => exact ⟨C', p, s', h', β', i1, i2, b, hh, q⟩
/-- an operation, in the fenced form -/
theorem opW {o : Oper} {next next' : Act → World → Prop} {Q : Exit → Act → World → Prop} (hn : ∀ a w, next a w → next' a w) (k : o.wp P a w next Q) : o.wpIn Fence.wide 0 P a w next' Q := by
  refine ⟨fun _ _ => trivial, ?_⟩;show o.uponIn Fence.wide 0 P a next' Q ((execOp a.eval o).run P w);unfold Oper.wp at k
  cases hr : (execOp a.eval o).run P w with
  | ok r w' =>
    rw [hr] at k
    cases r with
    | value v => exact hn _ _ k
    | skip => exact hn _ _ k
    | defer d => exact hn _ _ k
    | enter f args =>
      refine ⟨fun hd => (by cases hd), ?_⟩;refine callsIn_wide.2 (Calls.mono k fun e w'' hh => ?_)
      cases e with
      | returned v => exact hn _ _ hh
      | panicked ch => exact hh
      | outgrown => exact hh
    | row row args =>
      refine ⟨fun hd => (by cases hd), ?_⟩;exact fun c cs _ => let ⟨v, w'', r, st⟩ := k c cs; ⟨v, w'', hn _ _ r, stepsIn_wide.2 st⟩
    | _ => exact k.elim
  | halt r w' =>
    rw [hr] at k
    cases r with
    | panic v => exact k
    | _ => exact k.elim
theorem wp_seq_opsW {ops : Array Oper} {Q : Exit → Act → World → Prop} {l : List Oper} {s s' : St} {Es : List Eff} (c : Ch P n [] ops l s Es s') :
    ∀ (rest is : List Nat) (a : Act) (w : World) (h : Hp) (β : Bt), is.length = l.length → (∀ (k i : Nat) (o : Oper), is[k]? = some i → l[k]? = some o → ops[i]? = some o) → Base C n s a w h β →
      (∀ a w h β, Base C n s' a w h β → wpOpsIn Fence.wide 0 P ops Q rest a w) → wpOpsIn Fence.wide 0 P ops Q (is ++ rest) a w := by
  induction c with
  | nil s =>
    intro rest is a w h β hl _ k K;have : is = [] := List.eq_nil_of_length_eq_zero (by simpa using hl);subst this;exact K _ _ _ _ k
  | @op o l s s' E Es hg hj hn hp r ih =>
    intro rest is a w h β hl hi k K
    cases is with
    | nil => simp at hl
    | cons i is =>
      have ho : ops[i]? = some o := hi 0 i o (by simp) (by simp);simp only [List.cons_append, wpOpsIn, ho]
      have hw : Region.wanted o (yielded ops a.tmps) = true := by simp [Region.wanted, hg]
      simp only [hw, if_true];exact opW (fun a w k => k) (hj.2 C s a w h β Q _ (InvJ.nil _) (fun _ _ => rfl) (fun _ _ => rfl) hn k (fun a' w' h' β' k' => ih rest is a' w' h' β' (by simpa using hl) (fun j i' o' h1 h2 => hi (j + 1) i' o' (by simpa using h1) (by simpa using h2)) k' K))
  | @guarded o l s s' E Es d b hg hs hj hn hp r ih =>
    intro rest is a w h β hl hi k K
    cases is with
    | nil => simp at hl
    | cons i is =>
      have ho : ops[i]? = some o := hi 0 i o (by simp) (by simp);simp only [List.cons_append, wpOpsIn, ho]
      have hw : Region.wanted o (yielded ops a.tmps) = true := by rw [yielded_of k hg hs]; simp
      simp only [hw, if_true];exact opW (fun a w k => k) (hj.2 C s a w h β Q _ (InvJ.nil _) (fun _ _ => rfl) (fun _ _ => rfl) hn k (fun a' w' h' β' k' => ih rest is a' w' h' β' (by simpa using hl) (fun j i' o' h1 h2 => hi (j + 1) i' o' (by simpa using h1) (by simpa using h2)) k' K))
  | @skip o l s s' Es d b hg hs hd r ih =>
    intro rest is a w h β hl hi k K
    cases is with
    | nil => simp at hl
    | cons i is =>
      have ho : ops[i]? = some o := hi 0 i o (by simp) (by simp);simp only [List.cons_append, wpOpsIn, ho];have hw : Region.wanted o (yielded ops a.tmps) = false := unwanted_of k hg hs;simp only [hw, Bool.false_eq_true, if_false];exact ⟨fun _ _ => trivial, ih rest is _ w h β (by simpa using hl) (fun j i' o' h1 h2 => hi (j + 1) i' o' (by simpa using h1) (by simpa using h2)) (k.skip o.dst hd) K⟩
end
end Go.AL

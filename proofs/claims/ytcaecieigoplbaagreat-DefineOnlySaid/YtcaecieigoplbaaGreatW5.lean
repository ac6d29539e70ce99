/- Part 5 of a proof layer and of the contracts of the functions (XP7 XP8 XP9 XR0 XRA XRB XRC XRD XRE XRF XPA XPB XPC XPD XPE XPF XPG XR2 XR3 XR6 XQ0 XRG XRH XRI XRJ XRK XRL XRM XRN). -/
import Derived.Test.YtcaecieigoplbaaGreatW4
set_option linter.unusedVariables false
set_option linter.unusedSimpArgs false
/- Sums of terms, az the map collects them. -/
namespace Go.AL
theorem findM_none {k : Key} : ∀ {xs : List ME} {i : Nat}, findM k xs i = none → ∀ q ∈ xs, q.1 ≠ k
 | [], _, _, q, hq => by cases hq
 | p :: xs, i, h, q, hq => by
  unfold findM at h;split at h
  ·cases h
  ·rename_i hk;rcases List.mem_cons.1 hq with rfl | hq
   ·exact fun e => hk e.symm
   ·exact findM_none h q hq
theorem findM_miss {k : Key} : ∀ {xs : List ME} (i : Nat), (∀ q ∈ xs, q.1 ≠ k) → findM k xs i = none
 | [], _, _ => rfl
 | p :: xs, i, h => by
  unfold findM;rw [if_neg (fun e => h p (by simp) e.symm)];exact findM_miss (i + 1) fun q hq => h q (by simp [hq])
theorem findM_split {k : Key} : ∀ {xs : List ME} {i j : Nat} {p : ME}, findM k xs i = some (j, p) → ∃ A B, xs = A ++ p :: B ∧ A.length + i = j ∧ p.1 = k ∧ ∀ q ∈ A, q.1 ≠ k
 | [], _, _, _, h => by simp [findM] at h
 | q :: xs, i, j, p, h => by
  unfold findM at h;split at h
  ·rename_i hk;injection h with h; injection h with h1 h2; subst h1 h2;exact ⟨[], xs, rfl, by simp, hk.symm, by simp⟩
  ·rename_i hk;obtain ⟨A, B, h1, h2, h3, h4⟩ := findM_split h;refine ⟨q :: A, B, by rw [h1]; rfl, by simp; omega, h3, fun r hr => ?_⟩;rcases List.mem_cons.1 hr with rfl | hr
   ·exact fun e => hk e.symm
   ·exact h4 r hr
theorem findM_hit {k : Key} {p : ME} (hk : p.1 = k) : ∀ {A B : List ME} (i : Nat), (∀ q ∈ A, q.1 ≠ k) → findM k (A ++ p :: B) i = some (A.length + i, p)
 | [], B, i, _ => by simp [findM, hk]
 | q :: A, B, i, h => by
  rw [List.cons_append];unfold findM;rw [if_neg (fun e => h q (by simp) e.symm), findM_hit hk (i + 1) fun r hr => h r (by simp [hr])];simp only [List.length_cons];congr 2; omega
theorem setM_cases (k : Key) (y : Int) (c : Nat) (xs : List ME) :
  (findM k xs 0 = none ∧ putC k c xs = c + 1 ∧ ((y = 0 ∧ setM k y c xs = xs) ∨ (y ≠ 0 ∧ setM k y c xs = xs ++ [(k, y, c)]))) ∨
  (∃ A p B, findM k xs 0 = some (A.length, p) ∧ xs = A ++ p :: B ∧ p.1 = k ∧ (∀ q ∈ A, q.1 ≠ k) ∧ putC k c xs = c ∧ ((y = 0 ∧ setM k y c xs = A ++ B) ∨ (y ≠ 0 ∧ setM k y c xs = A ++ (k, y, p.2.2) :: B))) := by
 cases hf : findM k xs 0 with
 | none =>
  left;refine ⟨rfl, by unfold putC; rw [hf], ?_⟩
  have hp : putM k y c xs = xs ++ [(k, y, c)] := by unfold putM; rw [hf]
  by_cases hy : y = 0
  ·left;refine ⟨hy, ?_⟩;unfold setM;have hh := findM_hit (k := k) (p := (k, y, c)) rfl (A := xs) (B := []) 0 (findM_none hf);rw [if_pos hy, hp];unfold delM;rw [hh];simp only [Nat.add_zero];rw [List.eraseIdx_append_of_length_le (Nat.le_refl _)];simp
  ·right; exact ⟨hy, by unfold setM; rw [if_neg hy, hp]⟩
 | some q =>
  obtain ⟨j, p⟩ := q;obtain ⟨A, B, h1, h2, h3, h4⟩ := findM_split hf
  have h2 : A.length = j := by omega
  subst h2;right;refine ⟨A, p, B, rfl, h1, h3, h4, by unfold putC; rw [hf], ?_⟩
  have hp : putM k y c xs = A ++ (k, y, p.2.2) :: B := by unfold putM; rw [hf, h1]; simp
  by_cases hy : y = 0
  ·left;refine ⟨hy, ?_⟩;unfold setM;have hh := findM_hit (k := k) (p := (k, y, p.2.2)) rfl (A := A) (B := B) 0 h4;rw [if_pos hy, hp];unfold delM;rw [hh];simp only [Nat.add_zero];rw [List.eraseIdx_append_of_length_le (Nat.le_refl _)];simp
  ·right; exact ⟨hy, by unfold setM; rw [if_neg hy, hp]⟩
def exK (e : List Int) : Key := if h : e.length ≤ 32 then expK e h else ⟨List.replicate 32 0, by simp⟩
theorem exK_eq {e : List Int} (h : e.length ≤ 32) : exK e = expK e h := dif_pos h
abbrev UT := Int × List Int
abbrev MS := List ME × Nat
def stepM (s : MS) (u : UT) : MS := (setM (exK u.2) (getM (exK u.2) s.1 + u.1) s.2 s.1, putC (exK u.2) s.2 s.1)
noncomputable def runM : List UT → MS → Option MS
  | [], s => some s
  | u :: us, s => @ite _ (Fit (getM (exK u.2) s.1 + u.1)) (Classical.propDecidable _) (runM us (stepM s u)) none
theorem runM_append : ∀ (a b : List UT) (s : MS), runM (a ++ b) s = (runM a s).bind (runM b)
 | [], b, s => rfl
 | u :: a, b, s => by
  rw [List.cons_append];unfold runM;split
  ·exact runM_append a b _
  ·rfl
theorem runM_snoc {a : List UT} {u : UT} {s s' : MS} (h : runM a s = some s') (hf : Fit (getM (exK u.2) s'.1 + u.1)) : runM (a ++ [u]) s = some (stepM s' u) := by
 rw [runM_append, h];simp [runM, hf]
theorem runM_stop {a b : List UT} {u : UT} {s s' : MS} (h : runM a s = some s') (hf : ¬ Fit (getM (exK u.2) s'.1 + u.1)) : runM (a ++ u :: b) s = none := by
 rw [runM_append, h];simp [runM, hf]
def UOk (V : Nat) (us : List UT) : Prop := ∀ u ∈ us, u.2.length = V ∧ EOk u.2
theorem MOk.step {V : Nat} {xs : List ME} {c : Nat} (m : MOk V xs c) (hV : V ≤ 32) {a : Int} {e : List Int} (hl : e.length = V) (he : EOk e) (hf : Fit (getM (exK e) xs + a)) : MOk V (stepM (xs, c) (a, e)).1 (stepM (xs, c) (a, e)).2 := by
 have h32 : e.length ≤ 32 := by omega
 show MOk V (setM (exK e) (getM (exK e) xs + a) c xs) (putC (exK e) c xs);have hexp : ∀ (p : ME), p.1 = exK e → ∃ (e : List Int) (he : e.length ≤ 32), p.1 = expK e he ∧ e.length = V ∧ EOk e := fun p hp => ⟨e, h32, by rw [hp, exK_eq h32], hl, he⟩;rcases setM_cases (exK e) (getM (exK e) xs + a) c xs with ⟨h1, h2, h3⟩ | ⟨A, p, B, h1, h2, h3, h4, h5, h6⟩
 ·rw [h2];rcases h3 with ⟨_, h3⟩ | ⟨hy, h3⟩
  ·rw [h3];exact ⟨m.nd, fun p hp => Nat.lt_succ_of_lt (m.lt p hp), m.keys, m.fit, m.nz, m.exp⟩
  ·rw [h3]
   have hm : ∀ {Q : ME → Prop}, (∀ p ∈ xs, Q p) → Q (exK e, getM (exK e) xs + a, c) → ∀ p ∈ xs ++ [(exK e, getM (exK e) xs + a, c)], Q p := fun hq h p hp => by
    rcases List.mem_append.1 hp with hp | hp
    ·exact hq p hp
    ·simp at hp; subst hp; exact h
   refine ⟨?_, hm (fun p hp => Nat.lt_succ_of_lt (m.lt p hp)) (Nat.lt_succ_self c), ?_, hm m.fit hf, hm m.nz hy, hm m.exp (hexp _ rfl)⟩
   ·rw [List.map_append, List.nodup_append];refine ⟨m.nd, by simp, fun x hx y hy' => ?_⟩;obtain ⟨p, hp, rfl⟩ := List.mem_map.1 hx;simp at hy'; subst hy';have := m.lt p hp; omega
   ·rw [List.pairwise_append];refine ⟨m.keys, by simp, fun x hx y hy' => ?_⟩;simp at hy'; subst hy';exact findM_none h1 x hx
 ·rw [h5];subst h2;rcases h6 with ⟨_, h6⟩ | ⟨hy, h6⟩
  ·rw [h6];have hsub : (A ++ B).Sublist (A ++ p :: B) := List.Sublist.append_left (List.sublist_cons_self p B) A;have hm : ∀ q ∈ A ++ B, q ∈ A ++ p :: B := fun q hq => hsub.mem hq;exact ⟨(hsub.map _).nodup m.nd, fun q hq => m.lt q (hm q hq), m.keys.sublist hsub, fun q hq => m.fit q (hm q hq), fun q hq => m.nz q (hm q hq), fun q hq => m.exp q (hm q hq)⟩
  ·rw [h6]
   have hm : ∀ {Q : ME → Prop}, (∀ q ∈ A ++ p :: B, Q q) → Q (exK e, getM (exK e) (A ++ p :: B) + a, p.2.2) → ∀ q ∈ A ++ (exK e, getM (exK e) (A ++ p :: B) + a, p.2.2) :: B, Q q := fun hq h q hq' => by
    rcases List.mem_append.1 hq' with hq' | hq'
    ·exact hq q (by simp [hq'])
    ·rcases List.mem_cons.1 hq' with rfl | hq'
     ·exact h
     ·exact hq q (by simp [hq'])
   refine ⟨by have := m.nd; simpa using this, hm m.lt (m.lt p (by simp)), ?_, hm m.fit hf, hm m.nz hy, hm m.exp (hexp _ rfl)⟩;have hk := m.keys;rw [List.pairwise_append, List.pairwise_cons] at hk ⊢;obtain ⟨k1, ⟨k2, k3⟩, k4⟩ := hk;rw [h3] at k2
   exact ⟨k1, ⟨k2, k3⟩, fun x hx y hy' => by
    rcases List.mem_cons.1 hy' with rfl | hy'
    ·exact h4 x hx
    ·exact k4 x hx y (by simp [hy'])⟩
theorem runM_ok {V : Nat} (hV : V ≤ 32) : ∀ {us : List UT} {xs : List ME} {c : Nat} {s' : MS}, MOk V xs c → UOk V us → runM us (xs, c) = some s' → MOk V s'.1 s'.2 ∧ s'.1.length ≤ xs.length + us.length
 | [], xs, c, s', m, _, h => by
  simp only [runM] at h; injection h with h; subst h; exact ⟨m, by simp⟩
 | (a, e) :: us, xs, c, s', m, hu, h => by
  unfold runM at h;split at h
  ·rename_i hf;have hu1 := hu (a, e) (by simp);have hs := m.step hV hu1.1 hu1.2 hf
   have hlen : (stepM (xs, c) (a, e)).1.length ≤ xs.length + 1 := by
    show (setM (exK e) (getM (exK e) xs + a) c xs).length ≤ _;rcases setM_cases (exK e) (getM (exK e) xs + a) c xs with ⟨h1, h2, h3⟩ | ⟨A, p, B, h1, h2, h3, h4, h5, h6⟩
    ·rcases h3 with ⟨_, h3⟩ | ⟨_, h3⟩ <;> rw [h3] <;> simp
    ·rcases h6 with ⟨_, h6⟩ | ⟨_, h6⟩ <;> rw [h6, h2] <;> simp <;> omega
   have := runM_ok hV (xs := (stepM (xs, c) (a, e)).1) (c := (stepM (xs, c) (a, e)).2) hs (fun u hu' => hu u (by simp [hu'])) h;refine ⟨this.1, ?_⟩;have h2 := this.2;simp only [List.length_cons]; omega
  ·cases h
theorem MOk.nil (V : Nat) : MOk V [] 0 := ⟨by simp, by simp, by simp, by simp, by simp, by simp⟩
end Go.AL
/- poly.plus. -/
namespace Go.AL
abbrev u1 (t : TZ) : UT := (zval t.c, t.e)
abbrev u2 (b : Int) (t : TZ) : UT := (zval t.c * b, t.e)
def plusU (b : Int) (p q : PZ) : List UT := p.terms.map u1 ++ q.terms.map (u2 b)
def SumOk (V : Nat) (us : List UT) (r : PZ) : Prop := ∃ s, runM us ([], 0) = some s ∧ r = ⟨V, sortT (s.1.map (tmM V))⟩ ∧ OkP r
theorem OkP.uok {p : PZ} {V : Nat} (hp : OkP p) (hV : p.vars = V) {t : TZ} (ht : t ∈ p.terms) : t.e.length = V ∧ EOk t.e := by
 have := hp.terms t ht;have h2 := this.len;exact ⟨by omega, this.exps⟩
theorem take_map_snoc {α β : Type} (f : α → β) {l : List α} {i : Nat} {x : α} (h : l[i]? = some x) : (l.map f).take (i + 1) = (l.map f).take i ++ [f x] := take_snoc (by rw [List.getElem?_map, h]; rfl)
theorem map_split {α β : Type} (f : α → β) {l : List α} {i : Nat} {x : α} (h : l[i]? = some x) : l.map f = (l.map f).take i ++ f x :: (l.map f).drop (i + 1) := by
 have hi := (List.getElem?_eq_some_iff.1 h).1
 have h2 : (l.map f)[i]'(by simpa using hi) = f x := by
  have := (List.getElem?_eq_some_iff.1 h).2;rw [List.getElem_map, this]
 rw [← h2, List.getElem_cons_drop, List.take_append_drop]
end Go.AL
namespace Go.Proofs.YtcaecieigoplbaaGreat
open Go.AL
theorem sAdd_ret (V : Nat) (hV : V ≤ 32) (s : MS) (m : MOk V s.1 s.2) (u : UT) (hc : Fit u.1) (he : u.2.length = V) (hf : Fit (getM (exK u.2) s.1 + u.1)) :
  IoFn Tryz.prog 220 [.ptr 900 0, aX u.1, aI u.2] (smB V s.1 s.2) (.ret (.tup [])) (smB V (stepM s u).1 (stepM s u).2) := by
 have h32 : u.2.length ≤ 32 := by omega
 rw [exK_eq h32] at hf;exact sAdd_io V s.1 s.2 u.1 u.2 hc m.fit h32 _ _ (fun _ => ⟨rfl, by simp only [stepM, exK_eq h32]⟩) (fun h => absurd hf h)
theorem sAdd_thr (V : Nat) (hV : V ≤ 32) (s : MS) (m : MOk V s.1 s.2) (u : UT) (hc : Fit u.1) (he : u.2.length = V) (hf : ¬ Fit (getM (exK u.2) s.1 + u.1)) :
  IoFn Tryz.prog 220 [.ptr 900 0, aX u.1, aI u.2] (smB V s.1 s.2) (.thr (thrown 4)) (smB V s.1 s.2) := by
 have h32 : u.2.length ≤ 32 := by omega
 rw [exK_eq h32] at hf;exact sAdd_io V s.1 s.2 u.1 u.2 hc m.fit h32 _ _ (fun h => absurd h hf) (fun _ => ⟨rfl, rfl⟩)

set_option maxHeartbeats 1000000 in
theorem plus_io (V : Nat) (hV : V ≤ 32) (p q : PZ) (b : Int) (hb : Fit b) (hwp : WP p) (hwq : WP q) (hp : OkP p) (hq : OkP q) (hpv : p.vars = V) (hqv : q.vars = V) (hmul : ∀ t ∈ q.terms, Fit (zval t.c * b)) (res : Res)
  (hr1 : ∀ r, SumOk V (plusU b p q) r → res = .ret (aP r)) (hr2 : (¬ ∃ r, SumOk V (plusU b p q) r) → res = .thr (thrown 4)) :
  IoFn Tryz.prog 185 [aP p, aP q, aX b] [] res [] := by
 have hfp : ∀ t ∈ p.terms, Fit (zval t.c) ∧ t.c = zOf (zval t.c) := fun t ht => by
  have := okZ_eq (hwp t ht) (hp.terms t ht).coef; exact ⟨this.2, this.1⟩
 have hfq : ∀ t ∈ q.terms, Fit (zval t.c) ∧ t.c = zOf (zval t.c) := fun t ht => by
  have := okZ_eq (hwq t ht) (hq.terms t ht).coef; exact ⟨this.2, this.1⟩
 have hup : UOk V (p.terms.map u1) := fun u hu => by
  obtain ⟨t, ht, rfl⟩ := List.mem_map.1 hu; exact hp.uok hpv ht
 have huq : UOk V (q.terms.map (u2 b)) := fun u hu => by
  obtain ⟨t, ht, rfl⟩ := List.mem_map.1 hu; exact hq.uok hqv ht
 have hplen := hp.len;have hqlen := hq.len;refine IoFn.of_body Tryz.func185 rfl Tryz.ntmps185 rfl rfl rfl ?_;(repeat' (first |refine qv ?_ |apply qn |apply qs |apply qr |refine qe ?_|fail));refine Fl.io rfl [(900, 710), (901, 711)] (empty_ok V) rfl rfl (LeL.cons (AV.Le.int hpv) LeL.nil) rfl trivial rfl rfl rfl rfl rfl ?_;(repeat' (first |refine qv ?_ |apply qn |apply qs |apply qr |apply qb));refine AWP.loop (G := Nat × MS) (fun (i, s) => i ≤ p.terms.length ∧ runM ((p.terms.map u1).take i) ([], 0) = some s)
  (fun (i, s) => St.of [] [(3, .ptr 3 0), (4, .ptr 4 0), (5, .ptr 5 0), (6, .ptr 6 0), (7, .ptr 710 0), (16, .sl 3 eT p.terms), (17, aN p.terms.length), (18, aN i)] [(3, .cells (eP p) 70), (4, .cells (eP q) 70), (5, .cells (eX b) 35), (6, .cells [aN 0, .v (.slice none 0 0)] 70), (710, .cells [aN V, .mp 711] 216), (711, bM s.1 s.2)]) (fun (i, s) => p.terms.length - i) (0, ([], 0)) ⟨by omega, by simp [runM]⟩ ?_ ?_
 ·refine Ent.of [] ?_ ?_ rfl rfl;(repeat' (first |exact True.intro |refine ⟨⟨AV.Le.refl _, rfl⟩, ?_⟩ |refine ⟨⟨⟨_, rfl, BLe.cells (LeL.refl _)⟩, rfl⟩, ?_⟩ |refine ⟨⟨⟨_, rfl, BLe.map rfl rfl⟩, rfl⟩, ?_⟩|fail))
 ·intro ⟨i, s⟩ ⟨k0, k1⟩;have hm := (runM_ok hV (MOk.nil V) (fun u hu => hup u (List.mem_of_mem_take hu)) k1);by_cases hi : i < p.terms.length
  ·obtain ⟨t, ht⟩ : ∃ t, p.terms[i]? = some t := ⟨_, List.getElem?_eq_getElem hi⟩;have htm := List.mem_of_getElem? ht;by_cases hf : Fit (getM (exK t.e) s.1 + zval t.c)
   ·(repeat' (first |refine qv ?_ |apply qn |apply qs |apply qr |refine qe ?_ |(refine AWP.condD rfl ?_ ?_ <;> intro _ <;> try (exfalso; omega)) |apply qb |apply qk |refine qK ?_|fail));refine Fl.io rfl [(900, 710), (901, 711)] (sAdd_ret V hV s hm.1 (u1 t) (hfp t htm).1 (hp.uok hpv htm).1 hf) rfl rfl (LeL.cons (AV.Le.refl _) (LeL.cons (AV.Le.agg (leZ (hfp t htm).2)) (LeL.refl _))) rfl ⟨⟨⟨_, rfl, BLe.cells (LeL.refl _)⟩, rfl⟩, ⟨⟨_, rfl, BLe.map rfl rfl⟩, rfl⟩, trivial⟩ rfl rfl rfl rfl rfl ?_;(repeat' (first |refine qv ?_ |apply qn |apply qr |refine qw ?_|fail));refine LoopEnd.of (i + 1, stepM s (u1 t)) ⟨by omega, by rw [take_map_snoc u1 ht]; exact runM_snoc k1 hf⟩ (by simp only; omega) ?_;refine Ent.of [] ?_ ?_ rfl rfl;(repeat' (first |exact True.intro |refine ⟨⟨AV.Le.refl _, rfl⟩, ?_⟩ |refine ⟨⟨⟨_, rfl, BLe.cells (LeL.refl _)⟩, rfl⟩, ?_⟩ |refine ⟨⟨⟨_, rfl, BLe.map rfl rfl⟩, rfl⟩, ?_⟩|fail))
   ·have e1 := hr2 (by
     rintro ⟨r, s', h1, _⟩;have := runM_stop (u := u1 t) (b := (p.terms.map u1).drop (i + 1)) k1 hf;rw [show (p.terms.map u1).take i ++ (zval t.c, t.e) :: (p.terms.map u1).drop (i + 1) = p.terms.map u1 from (map_split u1 ht).symm] at this;unfold plusU at h1;rw [runM_append, this] at h1
     cases h1)
    subst e1;(repeat' (first |refine qv ?_ |apply qn |apply qs |apply qr |refine qe ?_ |(refine AWP.condD rfl ?_ ?_ <;> intro _ <;> try (exfalso; omega)) |apply qb |apply qk |refine qK ?_|fail));exact Fl.thrC rfl [(900, 710), (901, 711)] (sAdd_thr V hV s hm.1 (u1 t) (hfp t htm).1 (hp.uok hpv htm).1 hf) rfl (LeL.cons (AV.Le.refl _) (LeL.cons (AV.Le.agg (leZ (hfp t htm).2)) (LeL.refl _))) rfl ⟨⟨⟨_, rfl, BLe.cells (LeL.refl _)⟩, rfl⟩, ⟨⟨_, rfl, BLe.map rfl rfl⟩, rfl⟩, trivial⟩ rfl (fun _ => by kernel_rfl) (fun _ => rfl)
  ·have hti : (p.terms.map u1).take i = p.terms.map u1 := List.take_of_length_le (by simp; omega);rw [hti] at k1;clear hti hm;(repeat' (first |refine qv ?_ |apply qn |apply qs |apply qr |(refine AWP.condD rfl ?_ ?_ <;> intro _ <;> try (exfalso; omega)) |apply qb |apply qx));rename_i hi9; clear hi hi9 k0;refine AWP.loop (G := Nat × MS) (fun (i, s') => i ≤ q.terms.length ∧ runM ((q.terms.map (u2 b)).take i) s = some s')
    (fun (i, s') => St.of [] [(3, .ptr 3 0), (4, .ptr 4 0), (5, .ptr 5 0), (6, .ptr 6 0), (7, .ptr 710 0), (30, .sl 3 eT q.terms), (31, aN q.terms.length), (32, aN i)] [(3, .cells (eP p) 70), (4, .cells (eP q) 70), (5, .cells (eX b) 35), (6, .cells [aN 0, .v (.slice none 0 0)] 70), (710, .cells [aN V, .mp 711] 216), (711, bM s'.1 s'.2)]) (fun (i, s') => q.terms.length - i) (0, s) ⟨by omega, by simp [runM]⟩ ?_ ?_
   ·refine Ent.of [] ?_ ?_ rfl rfl;(repeat' (first |exact True.intro |refine ⟨⟨AV.Le.refl _, rfl⟩, ?_⟩ |refine ⟨⟨⟨_, rfl, BLe.cells (LeL.refl _)⟩, rfl⟩, ?_⟩ |refine ⟨⟨⟨_, rfl, BLe.map rfl rfl⟩, rfl⟩, ?_⟩|fail))
   ·have hm0 := runM_ok hV (MOk.nil V) hup k1;intro ⟨i, s'⟩ ⟨k0, k2⟩;have hm := (runM_ok hV hm0.1 (fun u hu => huq u (List.mem_of_mem_take hu)) k2);by_cases hi : i < q.terms.length
    ·obtain ⟨t, ht⟩ : ∃ t, q.terms[i]? = some t := ⟨_, List.getElem?_eq_getElem hi⟩;have htm := List.mem_of_getElem? ht;by_cases hf : Fit (getM (exK t.e) s'.1 + zval t.c * b)
     ·(repeat' (first |refine qv ?_ |apply qn |apply qs |apply qr |refine qe ?_ |(refine AWP.condD rfl ?_ ?_ <;> intro _ <;> try (exfalso; omega)) |apply qb |apply qk |refine qK ?_|fail));refine Fl.call rfl (xMul_ret _ _ (hfq t htm).1 hb (hmul t htm)) rfl rfl rfl (LeL.cons (AV.Le.agg (leZ (σ := []) (hfq t htm).2)) (LeL.refl _)) ?_;(repeat' (first |refine qv ?_|fail));refine Fl.io rfl [(900, 710), (901, 711)] (sAdd_ret V hV s' hm.1 (u2 b t) (hmul t htm) (hq.uok hqv htm).1 hf) rfl rfl (LeL.refl _) rfl ⟨⟨⟨_, rfl, BLe.cells (LeL.refl _)⟩, rfl⟩, ⟨⟨_, rfl, BLe.map rfl rfl⟩, rfl⟩, trivial⟩ rfl rfl rfl rfl rfl ?_;(repeat' (first |refine qv ?_ |apply qn |refine Fl.nil (fun _ => by kernel_rfl) ?_ |apply qr |refine qw ?_|fail));refine LoopEnd.of (i + 1, stepM s' (u2 b t)) ⟨by omega, by rw [take_map_snoc (u2 b) ht]; exact runM_snoc k2 hf⟩ (by simp only; omega) ?_;refine Ent.of [] ?_ ?_ rfl rfl;(repeat' (first |exact True.intro |refine ⟨⟨AV.Le.refl _, rfl⟩, ?_⟩ |refine ⟨⟨⟨_, rfl, BLe.cells (LeL.refl _)⟩, rfl⟩, ?_⟩ |refine ⟨⟨⟨_, rfl, BLe.map rfl rfl⟩, rfl⟩, ?_⟩|fail))
     ·have e1 := hr2 (by
       rintro ⟨r, s2, h1, _⟩;have := runM_stop (u := u2 b t) (b := (q.terms.map (u2 b)).drop (i + 1)) k2 hf;rw [show (q.terms.map (u2 b)).take i ++ u2 b t :: (q.terms.map (u2 b)).drop (i + 1) = q.terms.map (u2 b) from (map_split (u2 b) ht).symm] at this;unfold plusU at h1;rw [runM_append, k1] at h1;change runM _ s = _ at h1;rw [this] at h1
       cases h1)
      subst e1;(repeat' (first |refine qv ?_ |apply qn |apply qs |apply qr |refine qe ?_ |(refine AWP.condD rfl ?_ ?_ <;> intro _ <;> try (exfalso; omega)) |apply qb |apply qk |refine qK ?_|fail));refine Fl.call rfl (xMul_ret _ _ (hfq t htm).1 hb (hmul t htm)) rfl rfl rfl (LeL.cons (AV.Le.agg (leZ (σ := []) (hfq t htm).2)) (LeL.refl _)) ?_;(repeat' (first |refine qv ?_|fail));exact Fl.thrC rfl [(900, 710), (901, 711)] (sAdd_thr V hV s' hm.1 (u2 b t) (hmul t htm) (hq.uok hqv htm).1 hf) rfl (LeL.refl _) rfl ⟨⟨⟨_, rfl, BLe.cells (LeL.refl _)⟩, rfl⟩, ⟨⟨_, rfl, BLe.map rfl rfl⟩, rfl⟩, trivial⟩ rfl (fun _ => by kernel_rfl) (fun _ => rfl)
    ·have hti : (q.terms.map (u2 b)).take i = q.terms.map (u2 b) := List.take_of_length_le (by simp; omega);rw [hti] at k2
     have hall : runM (plusU b p q) ([], 0) = some s' := by
      unfold plusU;rw [runM_append, k1];exact k2
     have hln := (runM_ok hV (MOk.nil V) (us := plusU b p q) (fun u hu => (List.mem_append.1 hu).elim (hup u) (huq u)) hall).2
     have hlu : (plusU b p q).length = p.terms.length + q.terms.length := by simp [plusU]
     simp only [List.length_nil] at hln;by_cases hok : OkP ⟨V, sortT (s'.1.map (tmM V))⟩
     ·have e1 := hr1 _ ⟨s', hall, rfl, hok⟩;subst e1;(repeat' (first |refine qv ?_ |apply qn |apply qs |apply qr |(refine AWP.condD rfl ?_ ?_ <;> intro _ <;> try (exfalso; omega)) |apply qx));refine Fl.io rfl [(900, 710), (901, 711)] (sPoly_io V s'.1 s'.2 hm.1 hV (by omega) _ _ (fun _ => ⟨rfl, rfl⟩) (fun h => absurd hok h)) rfl rfl (LeL.refl _) rfl ⟨⟨⟨_, rfl, BLe.cells (LeL.refl _)⟩, rfl⟩, ⟨⟨_, rfl, BLe.map rfl rfl⟩, rfl⟩, trivial⟩ rfl rfl rfl rfl rfl ?_;(repeat' (first |apply qn |refine qe ?_ |apply qt));exact ⟨⟨[], _, _, Ent.refl _ _ _, rfl, AV.Le.refl _, rfl, trivial, rfl, rfl⟩⟩
     ·have e1 := hr2 (by
       rintro ⟨r, s2, h1, h2, h3⟩;rw [hall] at h1;injection h1 with h1;subst h1
       exact hok (h2 ▸ h3))
      subst e1;(repeat' (first |refine qv ?_ |apply qn |apply qs |apply qr |(refine AWP.condD rfl ?_ ?_ <;> intro _ <;> try (exfalso; omega)) |apply qx));exact Fl.thrC rfl [(900, 710), (901, 711)] (sPoly_io V s'.1 s'.2 hm.1 hV (by omega) _ _ (fun h => absurd h hok) (fun _ => ⟨rfl, rfl⟩)) rfl (LeL.refl _) rfl ⟨⟨⟨_, rfl, BLe.cells (LeL.refl _)⟩, rfl⟩, ⟨⟨_, rfl, BLe.map rfl rfl⟩, rfl⟩, trivial⟩ rfl (fun _ => by kernel_rfl) (fun _ => rfl)
end Go.Proofs.YtcaecieigoplbaaGreat
/- The same of a row that is still written. -/
namespace Go.AL
open Go.ChangeMaps (setBlock)
section
variable {P : Program} {tab : Tab} {n : Nat} {s : St}
theorem AWP.arrCopyR [f : Facts P tab] {I : List Id} {Q : Exit → St → Prop} {id : Nat} {o1 o2 o3 : Oper} {d1 d2 d3 : Tmp} {t e t1 t2 : TypeId} {x y : Operand} (h1 : o1.op = .slice t x none none none) (g1 : o1.guard = none) (e1 : o1.dst = some d1) (l1 : Nat.blt d1 n = true) (h2 : o2.op = .move y) (g2 : o2.guard = none) (e2 : o2.dst = some d2) (l2 : Nat.blt d2 n = true) (h3 : o3.op = .call { callee := .builtin .copy, args := ⟨[.tmp d1, .tmp d2]⟩, argTypes := ⟨[t1, t2]⟩ }) (g3 : o3.guard = none) (e3 : o3.dst = some d3) (l3 : Nat.blt d3 n = true) (hne : Nat.beq d1 d2 = false)
  {N sz' by' sz2 by2 : Nat} {z' z2 : List Value} (hts : tab t = some ⟨.array N e, sz', by', z'⟩) (hts1 : tab t1 = some ⟨.slice e, sz2, by2, z2⟩) {i : TI} (hti : tab e = some i) (hi1 : Nat.beq i.size 1 = true) {b : Id} (hx : opd s x = .ptr b 0) {cs : List AV} {bt : TypeId} (hb : s.bx b = some (.cells cs bt)) (hN : Nat.beq cs.length N = true) (hNm : Nat.ble N 1000000 = true) (hN0 : Nat.blt 0 N = true) {α : Type} {enc : α → List AV} {ys : List α} {r2 : Id} {bt2 : TypeId} (hy : opd s y = .row r2) (hb2 : s.bx r2 = some (.row 1 enc ys bt2)) (hyd : y ≠ .tmp d1) (hone : ∀ y, allOne (enc y) = true) (hel : ∀ y, (enc y).length = 1) (hl : ys.length ≤ N) {cs' : List AV} (hcs : ys.flatMap enc ++ cs.drop ys.length = cs')
  (q : Q .normal ((Eff.mk .any [(b, .cells cs' bt)] [] [] [b]).app (some d3) ((Eff.mk (.row r2) [] [] [] []).app (some d2) ((Eff.mk .any [] [] [] []).app (some d1) s)))) : AWP P n I (.region id ⟨[o1, o2, o3]⟩ false) Q s := by
 subst hcs;have hi1 := Nat.eq_of_beq_eq_true hi1;have hN := Nat.eq_of_beq_eq_true hN;have hNm := Nat.le_of_ble_eq_true hNm;have hN0 := ltOf hN0
 have hd12 : d1 ≠ d2 := fun e => by rw [e, Nat.beq_refl] at hne; cases hne
 refine ⟨fun C a w hp β hi k => ?_⟩;refine wp_region ?_;have hrg : List.range (Array.size ⟨[o1, o2, o3]⟩) = [0, 1, 2] := rfl;rw [hrg];refine wpOps_cons (ops := ⟨[o1, o2, o3]⟩) (i := 0) (o := o1) rfl g1 ?_;have hxr := opd_rep k x;rw [hx] at hxr;simp only [Rep] at hxr;obtain ⟨g, b1, b2⟩ := hxr;have hu := (f.tabOk _ _ hts).und;simp only at hu;have hu1 := (f.tabOk _ _ hts1).und;simp only at hu1;have hd1 : d1 < n := ltOf l1;have hd2 : d2 < n := ltOf l2
 have hr1 : (execOp a.eval o1).run P w = .ok (.value (.slice (some ⟨g, 0, none⟩) N N)) w := by
  have hN0' : ¬ N = 0 := by omega
  simp only [execOp, h1, b2, Option.map_none, Instr.sliceAt, Instr.sureAddr, Sem.run_bind, run_underlying hu, Result.andThen, Instr.sliceBounds, Sem.run_pure, size_ok (f.tabOk _ _ hti), Nat.zero_mul, Addr.add, if_true, Nat.sub_zero, if_neg hN0']
 unfold Oper.wp;rw [hr1];simp only [Oper.upon, e1];have k1 := k.val (some d1) (fun t ht => by injection ht with ht; subst ht; exact hd1) (v := .any) (u := .slice (some ⟨g, 0, none⟩) N N) (by simp only [Rep]) [];refine wpOps_cons (ops := ⟨[o1, o2, o3]⟩) (i := 1) (o := o2) rfl g2 ?_
 have hys : opd ((Eff.mk AV.any [] [] [] []).app (some d1) s) y = .row r2 := by
  rw [← hy];refine opd_tmp fun t ht => ?_;simp only [Eff.app];exact putE_ne _ _ _ _ (fun h => hyd (by injection h with h; rw [ht, h]))
 have hyr := opd_rep k1 y;rw [hys] at hyr
 have hr2 : (execOp (a.put (some d1) (.slice (some ⟨g, 0, none⟩) N N)).eval o2).run P w = .ok (.value ((a.put (some d1) (.slice (some ⟨g, 0, none⟩) N N)).eval y)) w := by
  simp only [execOp, h2, Sem.run_pure]
 unfold Oper.wp;rw [hr2];simp only [Oper.upon, e2];have k2 := k1.val (some d2) (fun t ht => by injection ht with ht; subst ht; exact hd2) (v := .row r2) hyr [];generalize hyv : (a.put (some d1) (.slice (some ⟨g, 0, none⟩) N N)).eval y = yv at hyr k2 ⊢;refine wpOps_cons (ops := ⟨[o1, o2, o3]⟩) (i := 2) (o := o3) rfl g3 ?_
 have hsz : d1 < a.tmps.size ∧ d2 < a.tmps.size := by rw [k.size]; exact ⟨hd1, hd2⟩
 have ev1 : ((a.put (some d1) (.slice (some ⟨g, 0, none⟩) N N)).put (some d2) yv).eval (.tmp d1) = .slice (some ⟨g, 0, none⟩) N N := by
  simp [Act.eval, Act.put, Array.getElem?_setIfInBounds, hsz.1, Ne.symm hd12]
 have ev2 : ((a.put (some d1) (.slice (some ⟨g, 0, none⟩) N N)).put (some d2) yv).eval (.tmp d2) = yv := by
  simp [Act.eval, Act.put, hsz.2]
 have hb3 : ((Eff.mk (.row r2) [] [] [] []).app (some d2) ((Eff.mk AV.any [] [] [] []).app (some d1) s)).bx b = some (.cells cs bt) := hb;obtain ⟨g', us, b3, hh, hr, hnone⟩ := k2.box b _ hb3;rw [b1] at b3; injection b3 with b3; injection b3 with b3; injection b3 with b3; injection b3 with b3; subst b3
 have hul : us.size = N := by rw [← Array.length_toList, hr.length, hN]
 have his : (P.info? e).map (·.size) = some 1 := by
  obtain ⟨inf, zv, i1, i2, _⟩ := (f.tabOk e i hti).info;rw [i1]; simp [i2, hi1]
 simp only [Rep] at hyr;obtain ⟨v2, vals, e4, ⟨hvl, hown⟩, hrv, hsz2, hno2⟩ := k2.box r2 _ (show _ = some (.row 1 enc ys bt2) from hb2)
 have hyv2 : yv = v2 := by
  have := hyr.1;rw [e4] at this; injection this with this; exact this.symm
 obtain ⟨B, cB, hv2, hcells⟩ : ∃ B cB, yv = .slice B ys.length cB ∧ (ys ≠ [] → ∃ adB, B = some adB ∧ ∀ (j : Nat) (u : Value), vals[j]? = some u → w.cell? (adB.add j) = some u) := by
  rw [hyv2];rcases hown with ⟨h1, h2⟩ | ⟨g2, cap, cur, h1, h2, h3, h4, h5, h6, h7⟩
  ·have hy0 : ys = [] := List.eq_nil_of_length_eq_zero h2;subst hy0;exact ⟨none, 0, h1, fun h => absurd rfl h⟩
  ·refine ⟨_, _, h1, fun _ => ⟨_, rfl, fun j u hu => ?_⟩⟩
   have hadd : (⟨g2, 0, none⟩ : Addr).add j = ⟨g2, j, none⟩ := by unfold Addr.add; split <;> simp_all
   rw [hadd];rw [← h7, List.getElem?_take] at hu;split at hu
   ·simp only [World.cell?, h3];rw [← Array.getElem?_toList]; simpa using hu
   ·cases hu
 subst hv2
 have key : ∃ (r : Int) (w' : World) (us' : Array Value), (Builtin.copy_ #[t1, t2] o3.type #[.slice (some ⟨g, 0, none⟩) N N, .slice B ys.length cB]).run P w = .ok (goInt r) w' ∧ w'.os = w.os ∧ w'.tape = w.tape ∧ (w'.output = w.output ∧ w.drawn ≤ w'.drawn) ∧ w'.heap.size = w.heap.size ∧
   (∀ j, j ≠ g → w'.heap[j]? = w.heap[j]?) ∧ w'.heap[g]? = some (.cells us' bt (0, 0)) ∧ RepL hp β (ys.flatMap enc ++ cs.drop ys.length) us'.toList := by
  by_cases hy0 : ys = []
  ·subst hy0;exact ⟨0, w, us, run_copy_none w t1 t2 o3.type e _ B N N 0 cB hu1 his (by simp [Nat.min_def]), rfl, rfl, ⟨rfl, Nat.le_refl _⟩, rfl, fun _ _ => rfl, hh, by simpa using hr⟩
  ·have hyp : 0 < ys.length := List.length_pos_iff.2 hy0;obtain ⟨adB, eB, hcl⟩ := hcells hy0;subst eB;have hmn : Nat.min ys.length N = min ys.length N := rfl
   have hnl : vals.length = Nat.min ys.length N := by rw [hvl, hmn]; omega
   have hrun := run_copy_row (P := P) w t1 t2 o3.type e g 0 N N adB ys.length cB us bt vals hu1 his hh hnl (fun j u hu => by
    exact hcl j u hu) (by rw [hnl, hmn]; omega) (flat_one hone _ vals hrv)
   refine ⟨_, w.setRow g (us.toList.take 0 ++ vals ++ us.toList.drop (0 + vals.length)).toArray, _, hrun, rfl, rfl, ⟨rfl, Nat.le_refl _⟩, by simp, fun j hj => setRow_other w g j _ (fun q => hj q), setRow_heap w g us _ bt _ hh, ?_⟩;simp only [List.take_zero, List.nil_append, Nat.zero_add];rw [show vals.length = ys.length by rw [hnl, hmn]; omega];exact (hrv.mono (Hp.le.refl _) (noB_le β)).append (hr.drop _)
 obtain ⟨r, w', us', hrun, q1, q2, q3, q4, q5, q6, q7⟩ := key
 have hex : (execOp ((a.put (some d1) (.slice (some ⟨g, 0, none⟩) N N)).put (some d2) (.slice B ys.length cB)).eval o3).run P w = .ok (.value (goInt r)) w' := by
  simp only [execOp, h3, resolve, invoke, builtin, Sem.run_bind, Sem.run_pure, Result.andThen, List.map_toArray, List.map_cons, List.map_nil, ev1, ev2];rw [show (Builtin.copy_ { toList := [t1, t2] } o3.type { toList := [.slice (some ⟨g, 0, none⟩) N N, .slice B ys.length cB] }).run P w = .ok (goInt r) w' from hrun]
 unfold Oper.wp;rw [hex];simp only [Oper.upon, e3, wpOps];exact ⟨_, hp, β, k2.setbox (B' := .cells (ys.flatMap enc ++ cs.drop ys.length) bt) (w' := w') hb3 q1 q2 q3 q4 (fun j hj => q5 j (fun q => hj (by simp [b1, blk, q]))) ⟨g, us', b1, q6, q7, hnone⟩ ⟨g, by simp [b1, blk]⟩ (some d3) (fun t ht => by injection ht with ht; subst ht; exact ltOf l3) (v := .any) (u := goInt r) (by simp only [Rep]) [b], q⟩
end
end Go.AL
/- Parts of rows: a row cut; a part of a row that is written through. -/
namespace Go.AL
section
variable {P : Program} {tab : Tab} {n : Nat} {o : Oper} {s : St}
theorem OpJ.selem (ht : TabOk P tab) (hd : ∀ d, o.dst = some d → d < n) {t : TypeId} {x y : Operand} (hop : o.op = .indexAddr t x y) {e : TypeId} {i : TI} {sz' by' : Nat} {z : List Value} (hts : tab t = some ⟨.slice e, sz', by', z⟩) (hti : tab e = some i) (hi1 : i.size = 1)
  {b : Id} {off len : Nat} (hx : opd s x = .sub b off len) {k : IntKind} {m : Int} (hy : opd s y = .v (.int k m)) (h0 : 0 ≤ m) (h1 : m < len) :
  OpJ P n o s ⟨.rptr b (off + m.toNat), [], [], [], []⟩ := by
 refine OpJ.of_run hd fun C s' a w h β ho hbs q => ?_;have hxr := opd_rep q x;have hyr := opd_rep q y;rw [ho x (by simp [hop, Op.operands]), hx] at hxr;rw [ho y (by simp [hop, Op.operands]), hy] at hyr;simp only [Rep] at hxr hyr;obtain ⟨g, m0, c0, c', e1, e2⟩ := hxr;have hu := (ht _ _ hts).und;simp only at hu;refine ⟨.pointer (some ((⟨g, off, none⟩ : Addr).add (m.toNat * i.size))), ?_, ?_⟩
 ·simp only [execOp, hop, hyr, e2, Instr.indexAt, asIntOf, Sem.run_bind, Sem.run_pure, Result.andThen, run_underlying hu];rw [if_pos ⟨h0, h1⟩];simp only [Sem.run_bind, size_ok (ht _ _ hti), Result.andThen, Sem.run_pure]
 ·simp only [Rep];refine ⟨g, _, _, e1, ?_⟩;rw [hi1, Nat.mul_one];unfold Addr.add;split <;> simp_all
variable {ops : Array Oper} {draw : Dr} {l : List Oper} {acc : List Eff} {K : Exit → St → Prop}
theorem Fl.sel [f : Facts P tab] {t : TypeId} {x y : Operand} (hop : o.op = .indexAddr t x y) {b : Id} {off len : Nat} (hx : opd s x = .sub b off len) {k : IntKind} {m : Int} (hy : opd s y = .v (.int k m)) {e : TypeId} {i : TI} {sz' by' : Nat} {z : List Value} (hts : tab t = some ⟨.slice e, sz', by', z⟩) (hti : tab e = some i) (hi1 : Nat.beq i.size 1 = true) (hg : gOk ops s o = true) (hd : dOk n o.dst = true) (h0 : 0 ≤ m) (h1 : m < len)
  (r : Fl P n ops draw l ((Eff.mk (.rptr b ((off + m.toNat) * 1)) [] [] [] []).app o.dst s) (Eff.mk (.rptr b ((off + m.toNat) * 1)) [] [] [] [] :: acc) K) : Fl P n ops draw (o :: l) s acc K :=
 Fl.opv hg (by rw [Nat.mul_one]; exact OpJ.selem f.tabOk (dOk_lt hd) hop hts hti (Nat.eq_of_beq_eq_true hi1) hx hy h0 h1) r
theorem Fl.subR [f : Facts P tab] {t : TypeId} {x y z : Operand} (hop : o.op = .slice t x (some y) (some z) none) {b : Id} (hx : opd s x = .row b) {α : Type} {enc : α → List AV} {xs : List α} {bt : TypeId} (hb : s.bx b = some (.row 1 enc xs bt)) {e : TypeId} {i : TI} {sz' by' : Nat} {z' : List Value} (hts : tab t = some ⟨.slice e, sz', by', z'⟩) (hti : tab e = some i) (hi1 : Nat.beq i.size 1 = true)
  {k k' : IntKind} {m m' : Int} (hy : opd s y = .v (.int k m)) (hz : opd s z = .v (.int k' m')) (h0 : 0 ≤ m) (h1 : m < m') (h2 : m' ≤ xs.length) {off len : Nat} (ho : off = m.toNat) (hl : len = m'.toNat - m.toNat) (hg : gOk ops s o = true) (hd : dOk n o.dst = true)
  (r : Fl P n ops draw l ((Eff.mk (.sub b off len) [] [] [] [b]).app o.dst s) (Eff.mk (.sub b off len) [] [] [] [b] :: acc) K) : Fl P n ops draw (o :: l) s acc K := by
 have hi1 := Nat.eq_of_beq_eq_true hi1;subst ho hl;refine Fl.opv hg (OpJ.of_run (dOk_lt hd) fun C s' a w h β ho hbs q => ?_) r;have hxr := opd_rep q x;have hyr := opd_rep q y;have hzr := opd_rep q z;rw [ho x (by simp [hop, Op.operands]), hx] at hxr;rw [ho y (by simp [hop, Op.operands]), hy] at hyr;rw [ho z (by simp [hop, Op.operands]), hz] at hzr;simp only [Rep] at hxr hyr hzr;obtain ⟨e1, A, m0, c0, e2⟩ := hxr;obtain ⟨v, vals, e3, hown, _⟩ := q.box b _ ((hbs b (by simp)).trans hb);rw [e1] at e3; injection e3 with e3;have hu := (f.tabOk _ _ hts).und;simp only at hu;rcases hown.2 with ⟨rfl, hn⟩ | ⟨g, cap, cur, rfl, _, hh, hc1, hc2, hc3, hc4⟩
 ·omega
 ·refine ⟨.slice (some ⟨g, m.toNat, none⟩) (m'.toNat - m.toNat) (cap - m.toNat), ?_, ?_⟩
  ·have b1 := run_sliceBound (P := P) w k' m' cap .sliceAcap (by omega) (by omega);have b2 := run_sliceBound (P := P) w k m m'.toNat .sliceB h0 (by omega)
   have hne : ¬ cap = m.toNat := by omega
   have hadd : (⟨g, 0, none⟩ : Addr).add m.toNat = ⟨g, m.toNat, none⟩ := by unfold Addr.add; split <;> simp_all
   simp only [execOp, hop, e3, hyr, hzr, Option.map_some, Option.map_none, Instr.sliceAt, Sem.run_bind, run_underlying hu, Result.andThen, Instr.slice, Instr.sliceBounds, if_true, Sem.run_pure, b1, b2, Option.isSome_none, Bool.false_eq_true, if_false, size_ok (f.tabOk _ _ hti), if_neg hne, hi1, Nat.mul_one, hadd]
  ·simp only [Rep];exact ⟨g, _, _, _, e1.trans (by rw [e3]), rfl⟩
theorem Fl.cutR [f : Facts P tab] {t : TypeId} {x z : Operand} (hop : o.op = .slice t x none (some z) none) {b : Id} (hx : opd s x = .row b) {α : Type} {enc : α → List AV} {xs : List α} {bt : TypeId} (hb : s.bx b = some (.row 1 enc xs bt)) {e : TypeId} {i : TI} {sz' by' : Nat} {z' : List Value} (hts : tab t = some ⟨.slice e, sz', by', z'⟩) (hti : tab e = some i) (hi1 : Nat.beq i.size 1 = true)
  {k' : IntKind} {m : Int} (hz : opd s z = .v (.int k' m)) (h0 : 0 ≤ m) (h2 : m ≤ xs.length) (hg : gOk ops s o = true) {d : Tmp} (hdst : o.dst = some d) (hd : Nat.blt d n = true) (hn : s.al d = false)
  (r : Fl P n ops draw l ((Eff.mk (.row d) [(d, .row 1 enc (xs.take m.toNat) bt)] [b] [d] [b]).app o.dst s) (Eff.mk (.row d) [(d, .row 1 enc (xs.take m.toNat) bt)] [b] [d] [b] :: acc) K)
  (hJ : presOk draw.J (Eff.mk (.row d) [(d, .row 1 enc (xs.take m.toNat) bt)] [b] [d] [b]) := by repeat' (first | exact True.intro | exact rfl | refine ⟨?_, ?_⟩ | fail)) : Fl P n ops draw (o :: l) s acc K := by
 have hi1 := Nat.eq_of_beq_eq_true hi1;refine Fl.op hg ⟨fun t ht => (by rw [hdst] at ht; injection ht with ht; subst ht; exact ltOf hd), fun C s' a w h β Q K hs hbs hal q hK => ?_⟩ (newOk1 hn) hJ r;have same : ∀ q : Operand, q ∈ o.op.operands → opd s' q = opd s q := fun q hq => opd_tmp fun t ht => hs t (by rw [← ht]; exact hq);have hb' : s'.bx b = some (.row 1 enc xs bt) := (hbs b (by simp [Eff.ts])).trans hb;have hxr := opd_rep q x;have hzr := opd_rep q z;rw [same x (by simp [hop, Op.operands]), hx] at hxr;rw [same z (by simp [hop, Op.operands]), hz] at hzr;simp only [Rep] at hxr hzr;obtain ⟨e1, A, m0, c0, e2⟩ := hxr;obtain ⟨v, vals, e3, hown, hvr, hel, hno⟩ := q.box b _ hb';rw [e1] at e3; injection e3 with e3;have hu := (f.tabOk _ _ hts).und;simp only at hu;have hbk := blk_own hown
 have key : ∃ v', (execOp a.eval o).run P w = .ok (.value v') w ∧ w.ownsRow 0 bt 1 v' (xs.take m.toNat).length (vals.take m.toNat) ∧ v'.ownBlock = v.ownBlock := by
  have hml : (xs.take m.toNat).length = m.toNat := by rw [List.length_take]; omega
  rw [hml]
  have hvl : (vals.take m.toNat).length = m.toNat * 1 := by rw [List.length_take, hown.1]; omega
  rcases hown.2 with ⟨rfl, hn0⟩ | ⟨g, cap, cur, rfl, hb0, hh, hc1, hc2, hc3, hc4⟩
  ·have hm0 : m.toNat = 0 := by omega
   refine ⟨.slice none 0 0, ?_, ⟨hvl, .inl ⟨rfl, hm0⟩⟩, rfl⟩;have b1 := run_sliceBound (P := P) w k' m 0 .sliceAcap (by omega) (by omega);rw [hm0] at b1;simp only [execOp, hop, e3, hzr, Option.map_some, Option.map_none, Instr.sliceAt, Sem.run_bind, run_underlying hu, Result.andThen, Instr.slice, Instr.sliceBounds, if_true, Sem.run_pure, b1, Option.isSome_none, Bool.false_eq_true, if_false, size_ok (f.tabOk _ _ hti), Nat.sub_self]
  ·refine ⟨.slice (some ⟨g, 0, none⟩) m.toNat cap, ?_, ⟨hvl, .inr ⟨g, cap, cur, rfl, hb0, hh, by omega, hc2, hc3, ?_⟩⟩, rfl⟩
   ·have b1 := run_sliceBound (P := P) w k' m cap .sliceAcap (by omega) (by omega)
    have hadd : (⟨g, 0, none⟩ : Addr).add (0 * i.size) = ⟨g, 0, none⟩ := by rw [Nat.zero_mul]; unfold Addr.add; split <;> simp_all
    simp only [execOp, hop, e3, hzr, Option.map_some, Option.map_none, Instr.sliceAt, Sem.run_bind, run_underlying hu, Result.andThen, Instr.slice, Instr.sliceBounds, if_true, Sem.run_pure, b1, Option.isSome_none, Bool.false_eq_true, if_false, size_ok (f.tabOk _ _ hti), Nat.sub_zero, hadd];split <;> rfl
   ·rw [← hc4, List.take_take];congr 1;omega
 obtain ⟨v', hrun, hown', hob⟩ := key;unfold Oper.wp;rw [hrun];simp only [Oper.upon];refine hK _ _ h (β.set d v') ?_;rw [hdst];refine q.turnbox hb' (hal d (by simp)) rfl rfl ⟨rfl, Nat.le_refl _⟩ (Nat.le_refl _) (fun j hj hne => rfl) ?_ ?_ (some d) (fun t ht => by injection ht with ht; subst ht; exact ltOf hd) ?_ [b]
 ·refine ⟨v', vals.take m.toNat, Bt.set_same _ _ _, hown', ?_, fun x hx => hel x (List.mem_of_mem_take hx), fun g hg => hno g (by rw [← hob]; exact hg)⟩
  have hsp : xs.flatMap enc = (xs.take m.toNat).flatMap enc ++ (xs.drop m.toNat).flatMap enc := by rw [← List.flatMap_append, List.take_append_drop]
  have hfl : ∀ (ys : List α), (∀ y ∈ ys, (enc y).length = 1) → (ys.flatMap enc).length = ys.length := by
   intro ys
   induction ys with
   | nil => intro _; rfl
   | cons y ys ih => intro hy; rw [List.flatMap_cons, List.length_append, hy y (by simp), ih (fun z hz => hy z (by simp [hz])), List.length_cons]; omega
  rw [hsp] at hvr;have := hvr.split.1;rwa [hfl _ (fun x hx => hel x (List.mem_of_mem_take hx)), List.length_take, Nat.min_eq_left (by omega)] at this
 ·intro g hg;rw [blk_own hown'] at hg;left;rw [e1, e3, hbk, ← hob];exact hg
 ·simp only [Rep];refine ⟨Bt.set_same _ _ _, ?_⟩;rcases hown'.2 with ⟨h1, _⟩ | ⟨g, cap, cur, h1, _⟩
  ·exact ⟨_, _, _, h1⟩
  ·exact ⟨_, _, _, h1⟩
end
end Go.AL
/- large.digit: a digit of a quotient. -/
namespace Go.AL
theorem get_part {α : Type} {A M C : List α} {k j : Nat} (hk : k = A.length + j) (hj : j < M.length) : (A ++ M ++ C)[k]? = M[j]? := by
 subst hk;rw [List.append_assoc, List.getElem?_append_right (by omega), Nat.add_sub_cancel_left, List.getElem?_append_left hj]
theorem set_part {α : Type} {A M C : List α} {k j : Nat} {w : α} (hk : k = A.length + j) (hj : j < M.length) : (A ++ M ++ C).set k w = A ++ M.set j w ++ C := by
 subst hk;rw [List.append_assoc, List.set_append_right _ _ (by omega), Nat.add_sub_cancel_left, List.set_append_left _ _ hj, List.append_assoc]
structure DigOk (m : Nat) (mid v : List Int) : Prop where
  hm : mid.length = m + 3
  hv : v.length = m + 2
  wm : WOk mid
  wv : WOk v
  top : ∀ x, v[m + 1]? = some x → 2147483648 ≤ x
  lt : val mid < 4294967296 * val v
  big : m ≤ 50000
theorem DigOk.pos {m : Nat} {mid v : List Int} (d : DigOk m mid v) : BB (m + 1) ≤ val v ∧ val v < BB (m + 2) := by
 obtain ⟨x, hx⟩ : ∃ x, v[m + 1]? = some x := ⟨_, List.getElem?_eq_getElem (by have := d.hv; omega)⟩;have h1 := d.top x hx;have h2 := val_top hx;rw [show m + 1 + 1 = v.length by have := d.hv; omega, List.take_length] at h2;have h3 := val_bounds (k := m + 1) d.wv (by have := d.hv; omega);have h4 := val_lt d.wv;rw [d.hv] at h4;refine ⟨?_, h4⟩;have : BB (m + 1) * 1 ≤ BB (m + 1) * x := Int.mul_le_mul_of_nonneg_left (by omega) (Int.le_of_lt (BB_pos _));omega
theorem DigOk.facts {m : Nat} {mid v : List Int} (d : DigOk m mid v) {un u1 u2 v1 v2 : Int} (e0 : mid[m + 2]? = some un) (e1 : mid[m + 1]? = some u1) (e2 : mid[m]? = some u2) (f1 : v[m + 1]? = some v1) (f2 : v[m]? = some v2) :
  un ≤ v1 ∧ un * 4294967296 + u1 < v1 * 4294967296 + 4294967296 := by
 obtain ⟨a, b, c, e⟩ := dig_facts d.hm d.hv d.wm d.wv e0 e1 e2 f1 f2;have h := d.lt;have w2 := d.wv.get f2;have wu1 := d.wm.get e1;have wu2 := d.wm.get e2;have hB := BB_pos m
 have h1 : ((un * 4294967296 + u1) * 4294967296 + u2) * BB m < (4294967296 * (v1 * 4294967296 + v2 + 1)) * BB m := by
  have : 4294967296 * val v < 4294967296 * ((v1 * 4294967296 + v2 + 1) * BB m) := by omega
  have e3 : (4294967296 * (v1 * 4294967296 + v2 + 1)) * BB m = 4294967296 * ((v1 * 4294967296 + v2 + 1) * BB m) := by grind
  rw [e3]; omega
 have h2 := Int.lt_of_mul_lt_mul_right h1 (by omega);omega
theorem DigOk.down {m : Nat} {mid v : List Int} (d : DigOk m mid v) {un u1 u2 v1 v2 q r : Int} (e0 : mid[m + 2]? = some un) (e1 : mid[m + 1]? = some u1) (e2 : mid[m]? = some u2) (f1 : v[m + 1]? = some v1) (f2 : v[m]? = some v2)
  (hqr : q * v1 + r = un * 4294967296 + u1) (hr : 0 ≤ r) (hq : 0 ≤ q) (h : 4294967296 ≤ q ∨ r * 4294967296 + u2 < q * v2) : val mid / val v ≤ q - 1 := by
 obtain ⟨a, b, c, e⟩ := dig_facts d.hm d.hv d.wm d.wv e0 e1 e2 f1 f2;have hp := d.pos;have hV : 0 < val v := Int.lt_of_lt_of_le (BB_pos _) hp.1;obtain ⟨s1, s2, s3, s4⟩ := quo_spec hV (val_nonneg d.wm);have hQ : val mid / val v < 4294967296 := Int.ediv_lt_of_lt_mul hV d.lt;have w1 := d.top _ f1;have w2 := d.wv.get f2;exact kn_step (un := un) hqr hr (BB_pos m) a e s1 hQ hV (by omega) w2.1 hq h
theorem DigOk.stop {m : Nat} {mid v : List Int} (d : DigOk m mid v) {un u1 u2 v1 v2 q r : Int} (e0 : mid[m + 2]? = some un) (e1 : mid[m + 1]? = some u1) (e2 : mid[m]? = some u2) (f1 : v[m + 1]? = some v1) (f2 : v[m]? = some v2)
  (hqr : q * v1 + r = un * 4294967296 + u1) (hr : 0 ≤ r) (hq : 0 ≤ q) (h : (q < 4294967296 ∧ q * v2 ≤ r * 4294967296 + u2) ∨ 4294967296 ≤ r) : q < 4294967296 ∧ q ≤ val mid / val v + 1 := by
 obtain ⟨a, b, c, e⟩ := dig_facts d.hm d.hv d.wm d.wv e0 e1 e2 f1 f2;have hf := d.facts e0 e1 e2 f1 f2;have hp := d.pos;have hV : 0 < val v := Int.lt_of_lt_of_le (BB_pos _) hp.1;obtain ⟨s1, s2, s3, s4⟩ := quo_spec hV (val_nonneg d.wm);have w1 := d.top _ f1;have w2 := d.wv.get f2;have wu2 := d.wm.get e2
 have hVB : 4294967296 * BB m ≤ val v := by rw [← BB_succ]; exact hp.1
 have key : q < 4294967296 ∧ q * v2 ≤ r * 4294967296 + u2 := by
  rcases h with h | h
  ·exact h
  ·have hq2 : q < 4294967296 := by
    rcases Int.lt_or_le q 4294967296 with h1 | h1
    ·exact h1
    ·have : 4294967296 * v1 ≤ q * v1 := Int.mul_le_mul_of_nonneg_right h1 (by omega);omega
   have h3 : q * v2 ≤ 4294967295 * v2 := Int.mul_le_mul_of_nonneg_right (by omega) w2.1;exact ⟨hq2, by omega⟩
 exact ⟨key.1, kn_stop hqr (BB_pos m) b hVB c s2 hV hq key.1 key.2 s3⟩
end Go.AL
/- large.digit: the walk. -/
namespace Go.AL
theorem dig_back {Bm s h t : Int} (hB : 0 < Bm) (e : h + Bm * s = t + 4294967296 * Bm) (h0 : 0 ≤ h) (h1 : h < Bm) (t0 : 0 ≤ t) (t1 : t < Bm) : s = 4294967296 ∧ h = t := by
 have hs : s = 4294967296 := by
  rcases Int.lt_trichotomy s 4294967296 with k | k | k
  ·have : Bm * s ≤ Bm * 4294967295 := Int.mul_le_mul_of_nonneg_left (by omega) (by omega);omega
  ·exact k
  ·have : Bm * 4294967297 ≤ Bm * s := Int.mul_le_mul_of_nonneg_left (by omega) (by omega);omega
 exact ⟨hs, by rw [hs] at e; omega⟩
end Go.AL
namespace Go.Proofs.YtcaecieigoplbaaGreat
open Go.AL

set_option maxHeartbeats 1000000 in
theorem digit_ok (m : Nat) (A mid C v : List Int) (d : DigOk m mid v) (wA : WOk A) (wC : WOk C) (hA : A.length ≤ 100000) (hC : C.length ≤ 100000) : IoFn Tryz.prog 213 [.sub 900 A.length mid.length, aW v] [(900, .row 1 eW (A ++ mid ++ C) 62)] (.ret (.v (.int .u32 (val mid / val v)))) [(900, .row 1 eW (A ++ wdW mid.length (val mid % val v) ++ C) 62)] := by
 refine IoFn.of_body Tryz.func213 rfl Tryz.ntmps213 rfl rfl rfl ?_;have hm := d.hm;have hv := d.hv;have hbig := d.big;have wv := d.wv;have wW : WOk (A ++ mid ++ C) := (wA.append d.wm).append wC;obtain ⟨un, e0⟩ : ∃ x, mid[m + 2]? = some x := ⟨_, List.getElem?_eq_getElem (by omega)⟩;obtain ⟨u1, e1⟩ : ∃ x, mid[m + 1]? = some x := ⟨_, List.getElem?_eq_getElem (by omega)⟩;obtain ⟨u2, e2⟩ : ∃ x, mid[m]? = some x := ⟨_, List.getElem?_eq_getElem (by omega)⟩;obtain ⟨v1, f1⟩ : ∃ x, v[m + 1]? = some x := ⟨_, List.getElem?_eq_getElem (by omega)⟩;obtain ⟨v2, f2⟩ : ∃ x, v[m]? = some x := ⟨_, List.getElem?_eq_getElem (by omega)⟩;have b0 := d.wm.get e0;have b1 := d.wm.get e1;have b2 := d.wm.get e2;have c1 := d.wv.get f1;have c2 := d.wv.get f2;have c3 := d.top _ f1;have hf := d.facts e0 e1 e2 f1 f2;refine AWP.seqS ?_;(repeat' (first |refine qv ?_ |apply qn |apply qr));refine ⟨AWP.seqS ?_⟩;(repeat' (first |refine qv ?_ |apply qn |apply qr));refine ⟨?_⟩;refine AWP.seqJ (G := Unit) (fun _ => True) (fun _ => St.of [900] [(0, .sub 900 A.length mid.length), (1, aW v), (5, aN (m + 2)), (6, aU (un * 4294967296 + u1))] [(900, .row 1 eW (A ++ mid ++ C) 62)]) ?_ ?_
 ·(repeat' (first |refine qv ?_ |refine Fl.nil (fun _ => by kernel_rfl) ?_ |apply qr |refine qw ?_ |refine Fl.sel rfl rfl rfl rfl rfl rfl rfl rfl (by omega) (by omega) ?_ |(refine Fl.rldW rfl rfl rfl rfl rfl rfl rfl (fun _ => rfl) (fun _ => rfl) (by first | omega | (simp; omega)) (by assumption) ?_; intro _ _ _ _)|fail));rename_i x hx hx0 hx1 y hy hy0 hy1;rw [get_part (j := m + 2) (by omega) (by omega), e0] at hx;rw [get_part (j := m + 1) (by omega) (by omega), e1] at hy;injection hx with hx;injection hy with hy;subst hx hy;refine JoinOk.of () trivial ?_;refine Ent.of [] ?_ ?_ rfl rfl;(repeat' (first |exact True.intro |refine ⟨⟨AV.Le.refl _, rfl⟩, ?_⟩ |refine ⟨⟨⟨_, rfl, BLe.row rfl⟩, rfl⟩, ?_⟩ |refine ⟨⟨AV.Le.int ?_, rfl⟩, ?_⟩|fail))
  ·omega
  ·rw [p32];exact or_low hx0 hx1 hy0 hy1
 intro _ _
 have f1' : v[((m : Int) + 2 - 1).toNat]? = some v1 := by rw [show ((m : Int) + 2 - 1).toNat = m + 1 by omega]; exact f1
 have f2' : v[((m : Int) + 2 - 2).toNat]? = some v2 := by rw [show ((m : Int) + 2 - 2).toNat = m by omega]; exact f2
 refine AWP.seqJ (G := Unit) (fun _ => True) (fun _ => St.of [900] [(0, .sub 900 A.length mid.length), (1, aW v), (5, aN (m + 2)), (7, aU ((un * 4294967296 + u1) / v1)), (8, aU ((un * 4294967296 + u1) % v1))] [(900, .row 1 eW (A ++ mid ++ C) 62)]) ?_ ?_
 ·(repeat' (first |refine qv ?_ |refine Fl.nil (fun _ => by kernel_rfl) ?_ |apply qr |refine qw ?_ |refine Fl.w rfl rfl rfl ⟨by omega, by omega, by dsimp only [hiK]; omega⟩ ?_ |refine qK ?_|fail));refine JoinOk.of () trivial ?_;refine Ent.of [] ?_ ?_ rfl rfl;(repeat' (first |exact True.intro |refine ⟨⟨AV.Le.refl _, rfl⟩, ?_⟩ |refine ⟨⟨⟨_, rfl, BLe.row rfl⟩, rfl⟩, ?_⟩|fail))
 intro _ _;obtain ⟨q0, hq0⟩ : ∃ q, q = (un * 4294967296 + u1) / v1 := ⟨_, rfl⟩;obtain ⟨r0, hr0⟩ : ∃ r, r = (un * 4294967296 + u1) % v1 := ⟨_, rfl⟩;have hdm := Int.mul_ediv_add_emod (un * 4294967296 + u1) v1;have hm0 := Int.emod_nonneg (un * 4294967296 + u1) (show v1 ≠ 0 by omega);have hm1 := Int.emod_lt_of_pos (un * 4294967296 + u1) (show 0 < v1 by omega);have hqn : 0 ≤ (un * 4294967296 + u1) / v1 := Int.ediv_nonneg (by omega) (by omega)
 have hqb : (un * 4294967296 + u1) / v1 ≤ 8589934592 := by
  rcases Int.lt_or_le 8589934592 ((un * 4294967296 + u1) / v1) with h | h
  ·have : v1 * 8589934593 ≤ v1 * ((un * 4294967296 + u1) / v1) := Int.mul_le_mul_of_nonneg_left (by omega) (by omega);omega
  ·exact h
 rw [← hq0] at hdm hqn hqb;rw [← hr0] at hdm hm0 hm1;rw [Int.mul_comm] at hdm;have hp := d.pos;have hV : 0 < val v := Int.lt_of_lt_of_le (BB_pos _) hp.1;have hU := val_nonneg d.wm
 have hQ0 : val mid / val v ≤ q0 := by
  obtain ⟨a, b, c, e⟩ := dig_facts d.hm d.hv d.wm d.wv e0 e1 e2 f1 f2;obtain ⟨s1, s2, s3, s4⟩ := quo_spec hV hU;have hB := BB_pos m
  have t1 : val mid / val v * ((v1 * 4294967296) * BB m) ≤ val mid / val v * val v := Int.mul_le_mul_of_nonneg_left (by
   have : v1 * 4294967296 * BB m ≤ (v1 * 4294967296 + v2) * BB m := Int.mul_le_mul_of_nonneg_right (by omega) (by omega)
   omega) s3
  have t2 : ((un * 4294967296 + u1) * 4294967296 + u2 + 1) * BB m ≤ ((un * 4294967296 + u1 + 1) * 4294967296) * BB m := Int.mul_le_mul_of_nonneg_right (by omega) (by omega)
  have t3 : (val mid / val v * v1) * (4294967296 * BB m) < (un * 4294967296 + u1 + 1) * (4294967296 * BB m) := by
   have g1 : (val mid / val v * v1) * (4294967296 * BB m) = val mid / val v * ((v1 * 4294967296) * BB m) := by grind
   have g2 : (un * 4294967296 + u1 + 1) * (4294967296 * BB m) = ((un * 4294967296 + u1 + 1) * 4294967296) * BB m := by grind
   rw [g1, g2]; omega
  have t4 := Int.lt_of_mul_lt_mul_right t3 (by omega);rw [hq0];exact Int.le_ediv_of_mul_le (by omega) (by omega)
 refine AWP.seqJ (G := Int) (fun q => val mid / val v ≤ q ∧ q ≤ val mid / val v + 1 ∧ 0 ≤ q ∧ q < 4294967296) (fun q => St.of [900] [(0, .sub 900 A.length mid.length), (1, aW v), (5, aN (m + 2)), (7, aU q)] [(900, .row 1 eW (A ++ mid ++ C) 62)]) ?_ ?_
 ·refine AWP.block ?_;refine AWP.loop (G := Int × Int) (fun (q, r) => q * v1 + r = un * 4294967296 + u1 ∧ 0 ≤ r ∧ r < 4294967296 ∧ 0 ≤ q ∧ q ≤ 8589934592 ∧ val mid / val v ≤ q) (fun (q, r) => St.of [900] [(0, .sub 900 A.length mid.length), (1, aW v), (5, aN (m + 2)), (7, aU q), (8, aU r)] [(900, .row 1 eW (A ++ mid ++ C) 62)]) (fun (q, r) => q.toNat) (q0, r0) ⟨hdm, hm0, by omega, hqn, hqb, hQ0⟩ ?_ ?_
  ·refine Ent.of [] ?_ ?_ rfl rfl;(repeat' (first |exact True.intro |refine ⟨⟨AV.Le.refl _, rfl⟩, ?_⟩ |refine ⟨⟨⟨_, rfl, BLe.row rfl⟩, rfl⟩, ?_⟩ |refine ⟨⟨AV.Le.int ?_, rfl⟩, ?_⟩|fail))
   ·exact hq0.symm
   ·exact hr0.symm
  ·intro ⟨q, r⟩ ⟨g0, g1, g2, g3, g4, g5⟩;refine AWP.seq ?_;(repeat' (first |refine qv ?_ |apply qn |refine Fl.nil (fun _ => by kernel_rfl) ?_ |apply qs |apply qr |refine qw ?_ |refine Fl.skip rfl rfl ?_ |refine AWP.condT rfl ?_ |(refine AWP.condD rfl ?_ ?_ <;> intro _ <;> try (exfalso; omega)) |(refine AWP.condN rfl ?_ ?_ <;> intro _ <;> try (exfalso; omega)) |apply qb |apply qk |apply qx |refine qK ?_ |refine Fl.sel rfl rfl rfl rfl rfl rfl rfl rfl (by omega) (by omega) ?_ |(refine Fl.rldW rfl rfl rfl rfl rfl rfl rfl (fun _ => rfl) (fun _ => rfl) (by first | omega | (simp; omega)) (by assumption) ?_; intro _ _ _ _) |refine Fl.sumM rfl rfl rfl rfl rfl rfl ?_ |(refine Fl.splitN rfl rfl ?_ ?_ <;> intro _ <;> try (exfalso; omega))))
   ·rename_i h1 h2;rw [p32] at h1 h2;have hq := d.down e0 e1 e2 f1 f2 g0 g1 g3 (.inl (by omega));have hs := d.stop (q := q - 1) (r := r + v1) e0 e1 e2 f1 f2 (by rw [Int.sub_mul]; omega) (by omega) (by omega) (.inr (by omega));refine JoinOk.of (q - 1) ⟨hq, hs.2, by omega, hs.1⟩ ?_;refine Ent.of [] ?_ ?_ rfl rfl;(repeat' (first |exact True.intro |refine ⟨⟨AV.Le.refl _, rfl⟩, ?_⟩ |refine ⟨⟨⟨_, rfl, BLe.row rfl⟩, rfl⟩, ?_⟩ |refine ⟨⟨AV.Le.int ?_, rfl⟩, ?_⟩|fail));omega
   ·rename_i h1 h2;rw [p32] at h1 h2;have hq := d.down e0 e1 e2 f1 f2 g0 g1 g3 (.inl (by omega));refine LoopEnd.of (q - 1, r + v1) ⟨by rw [Int.sub_mul]; omega, by omega, by omega, by omega, by omega, hq⟩ (by simp only; omega) ?_;refine Ent.of [] ?_ ?_ rfl rfl;(repeat' (first |exact True.intro |refine ⟨⟨AV.Le.refl _, rfl⟩, ?_⟩ |refine ⟨⟨⟨_, rfl, BLe.row rfl⟩, rfl⟩, ?_⟩ |refine ⟨⟨AV.Le.int ?_, rfl⟩, ?_⟩|fail));omega
   ·rename_i h1 x hx hx0 hx1 h3 h2;rw [p32] at h1 h2 h3;rw [get_part (j := m) (by omega) (by omega), e2] at hx;injection hx with hx;subst hx;rw [or_low g1 g2 hx0 hx1] at h3;have hqv : 0 ≤ q * v2 := Int.mul_nonneg g3 c2.1;have hqv2 : q * v2 ≤ 4294967295 * v2 := Int.mul_le_mul_of_nonneg_right (by omega) c2.1;have hq := d.down e0 e1 e2 f1 f2 g0 g1 g3 (.inr (by omega));have hQ := (quo_spec hV hU).2.2.1;have hs := d.stop (q := q - 1) (r := r + v1) e0 e1 e2 f1 f2 (by rw [Int.sub_mul]; omega) (by omega) (by omega) (.inr (by omega));refine JoinOk.of (q - 1) ⟨hq, hs.2, by omega, hs.1⟩ ?_;refine Ent.of [] ?_ ?_ rfl rfl;(repeat' (first |exact True.intro |refine ⟨⟨AV.Le.refl _, rfl⟩, ?_⟩ |refine ⟨⟨⟨_, rfl, BLe.row rfl⟩, rfl⟩, ?_⟩ |refine ⟨⟨AV.Le.int ?_, rfl⟩, ?_⟩|fail));omega
   ·rename_i h1 x hx hx0 hx1 h3 h2;rw [p32] at h1 h2 h3;rw [get_part (j := m) (by omega) (by omega), e2] at hx;injection hx with hx;subst hx;rw [or_low g1 g2 hx0 hx1] at h3;have hqv : 0 ≤ q * v2 := Int.mul_nonneg g3 c2.1;have hqv2 : q * v2 ≤ 4294967295 * v2 := Int.mul_le_mul_of_nonneg_right (by omega) c2.1;have hq := d.down e0 e1 e2 f1 f2 g0 g1 g3 (.inr (by omega));have hQ := (quo_spec hV hU).2.2.1;refine LoopEnd.of (q - 1, r + v1) ⟨by rw [Int.sub_mul]; omega, by omega, by omega, by omega, by omega, hq⟩ (by simp only; omega) ?_;refine Ent.of [] ?_ ?_ rfl rfl;(repeat' (first |exact True.intro |refine ⟨⟨AV.Le.refl _, rfl⟩, ?_⟩ |refine ⟨⟨⟨_, rfl, BLe.row rfl⟩, rfl⟩, ?_⟩ |refine ⟨⟨AV.Le.int ?_, rfl⟩, ?_⟩|fail));omega
   ·rename_i h1 x hx hx0 hx1 h3;rw [p32] at h1 h3;rw [get_part (j := m) (by omega) (by omega), e2] at hx;injection hx with hx;subst hx;rw [or_low g1 g2 hx0 hx1] at h3;have hqv : 0 ≤ q * v2 := Int.mul_nonneg g3 c2.1;have hqv2 : q * v2 ≤ 4294967295 * v2 := Int.mul_le_mul_of_nonneg_right (by omega) c2.1;have hs := d.stop (q := q) (r := r) e0 e1 e2 f1 f2 g0 g1 g3 (.inl ⟨by omega, by omega⟩);refine JoinOk.of q ⟨g5, hs.2, g3, hs.1⟩ ?_;refine Ent.of [] ?_ ?_ rfl rfl;(repeat' (first |exact True.intro |refine ⟨⟨AV.Le.refl _, rfl⟩, ?_⟩ |refine ⟨⟨⟨_, rfl, BLe.row rfl⟩, rfl⟩, ?_⟩|fail))
 ·intro q ⟨g0, g1, g2, g3⟩;refine AWP.seqS ?_;(repeat' (first |refine qv ?_ |apply qn |apply qr));refine ⟨?_⟩;refine AWP.seqJ (G := List Int × Int) (fun (lo, b) => lo.length = m + 2 ∧ WOk lo ∧ 0 ≤ b ∧ b < 4294967296 ∧ val lo = val (mid.take (m + 2)) - q * val v + b * BB (m + 2)) (fun (lo, b) => St.of [900] [(0, .sub 900 A.length mid.length), (1, aW v), (5, aN (m + 2)), (7, aU q), (9, aU b)] [(900, .row 1 eW (A ++ (lo ++ mid.drop lo.length) ++ C) 62)]) ?_ ?_
  ·(repeat' (first |refine qv ?_ |apply qn |apply qs |apply qr |apply qb));refine AWP.loop (G := List Int × Int) (fun (lo, b) => lo.length ≤ m + 2 ∧ WOk lo ∧ 0 ≤ b ∧ b < 4294967296 ∧ val lo = val (mid.take lo.length) - q * val (v.take lo.length) + b * BB lo.length) (fun (lo, b) => St.of [900] [(0, .sub 900 A.length mid.length), (1, aW v), (5, aN (m + 2)), (7, aU q), (9, aU b), (85, aW v), (86, aN v.length), (87, aN lo.length)] [(900, .row 1 eW (A ++ (lo ++ mid.drop lo.length) ++ C) 62)]) (fun (lo, b) => m + 2 - lo.length) ([], 0) ⟨by simp, WOk.nil, by omega, by omega, by simp [val]⟩ ?_ ?_
   ·refine Ent.of [] ?_ ?_ rfl rfl;(repeat' (first |exact True.intro |refine ⟨⟨AV.Le.refl _, rfl⟩, ?_⟩ |refine ⟨⟨⟨_, rfl, BLe.row rfl⟩, rfl⟩, ?_⟩|fail))
   ·intro ⟨lo, b⟩ ⟨k0, k1, k2, k3, k4⟩;have hW2 : WOk (A ++ (lo ++ mid.drop lo.length) ++ C) := (wA.append (k1.append (d.wm.drop _))).append wC
    have hml : (lo ++ mid.drop lo.length).length = mid.length := by rw [List.length_append, List.length_drop]; omega
    (repeat' (first |refine qv ?_ |apply qn |apply qs |apply qr |refine qw ?_ |(refine Fl.mulW rfl rfl rfl rfl rfl (by omega) (by omega) (by omega) (by omega) ?_; intro _ _) |(refine AWP.condD rfl ?_ ?_ <;> intro _ <;> try (exfalso; omega)) |apply qb |apply qk |apply qx |(refine Fl.elW rfl rfl rfl rfl rfl rfl rfl rfl (by omega) (by omega) (by assumption) ?_; intro _ _ _ _) |refine Fl.sel rfl rfl rfl rfl rfl rfl rfl rfl (by omega) (by omega) ?_ |(refine Fl.rldW rfl rfl rfl rfl rfl rfl rfl (fun _ => rfl) (fun _ => rfl) (by first | omega | (simp; omega)) (by assumption) ?_; intro _ _ _ _) |refine Fl.rst rfl rfl rfl rfl rfl rfl rfl rfl rfl rfl rfl (LeL.refl _) rfl (by first | omega | (simp; omega)) ?_ |refine Fl.sumM rfl rfl rfl rfl rfl rfl ?_))
    ·rename_i hi x hx hx0 hx1 p0 p1 y hy hy0 hy1;rw [Int.toNat_natCast] at hx;rw [get_part (j := lo.length) (by omega) (by omega), get_drop rfl] at hy;obtain ⟨w, hw⟩ : ∃ w, w = (y - (q * x + b) % 4294967296) % 4294967296 := ⟨_, rfl⟩;obtain ⟨b', hb'⟩ : ∃ b', b' = (q * x + b) / 4294967296 + (y - (q * x + b) % 4294967296) % 18446744073709551616 / 9223372036854775808 := ⟨_, rfl⟩;have hst := sub_step (w := w) (b' := b') rfl hy hx k4 (by omega);refine LoopEnd.of (lo ++ [w], b') ⟨by simp; omega, k1.append (WOk.cons (by omega) (by omega) WOk.nil), by omega, by omega, by rw [List.length_append]; exact hst⟩ (by simp only [List.length_append, List.length_cons, List.length_nil]; omega) ?_;refine Ent.of [] ?_ ?_ rfl rfl;(repeat' (first |exact True.intro |refine ⟨⟨AV.Le.refl _, rfl⟩, ?_⟩ |refine ⟨⟨⟨_, rfl, BLe.row ?_⟩, rfl⟩, ?_⟩ |refine ⟨⟨AV.Le.int ?_, rfl⟩, ?_⟩|fail))
     ·rw [p32, p63, bitN_and32 (by omega)];omega
     ·simp
     ·rw [show (lo ++ [w]).length = lo.length + 1 by simp];refine (set_part (j := lo.length) (by omega) (by omega)).trans (congrArg (fun M => A ++ M ++ C) (set_drop (w' := w) rfl (by omega) ?_));rw [bitN_and32 (by omega)];omega
    ·have hl : lo.length = m + 2 := by omega
     refine JoinOk.of (lo, b) ⟨hl, k1, k2, k3, ?_⟩ ?_
     ·rw [k4, hl, show v.take (m + 2) = v by rw [← hv, List.take_length]]
     ·refine Ent.of [] ?_ ?_ rfl rfl;(repeat' (first |exact True.intro |refine ⟨⟨AV.Le.refl _, rfl⟩, ?_⟩ |refine ⟨⟨⟨_, rfl, BLe.row rfl⟩, rfl⟩, ?_⟩|fail))
  ·intro ⟨lo, b⟩ ⟨k0, k1, k2, k3, k4⟩;have hW2 : WOk (A ++ (lo ++ mid.drop lo.length) ++ C) := (wA.append (k1.append (d.wm.drop _))).append wC
   have hml : (lo ++ mid.drop lo.length).length = mid.length := by rw [List.length_append, List.length_drop]; omega
   have hun : (A ++ (lo ++ mid.drop lo.length) ++ C)[A.length + (m + 2)]? = some un := by rw [get_part rfl (by omega), ← k0, get_drop rfl, k0, e0]
   obtain ⟨y, hy⟩ : ∃ y, y = (un - b) % 18446744073709551616 := ⟨_, rfl⟩;obtain ⟨w, hw⟩ : ∃ w, w = (un - b) % 4294967296 := ⟨_, rfl⟩;obtain ⟨b', hb'⟩ : ∃ b', b' = y / 9223372036854775808 := ⟨_, rfl⟩;refine AWP.seqJ (G := Unit) (fun _ => True) (fun _ => St.of [900] [(0, .sub 900 A.length mid.length), (1, aW v), (5, aN (m + 2)), (7, aU q), (14, aU y)] [(900, .row 1 eW (A ++ (lo ++ mid.drop lo.length) ++ C) 62)]) ?_ ?_
   ·(repeat' (first |refine qv ?_ |apply qn |apply qr |refine qw ?_ |refine Fl.sel rfl rfl rfl rfl rfl rfl rfl rfl (by omega) (by omega) ?_ |(refine Fl.rldW rfl rfl rfl rfl rfl rfl rfl (fun _ => rfl) (fun _ => rfl) (by first | omega | (simp; omega)) (by assumption) ?_; intro _ _ _ _) |refine Fl.sumM rfl rfl rfl rfl rfl rfl ?_));rename_i x hx hx0 hx1;rw [show ((m : Int) + 2).toNat = m + 2 by omega, hun] at hx;injection hx with hx;subst hx;refine JoinOk.of () trivial ?_;refine Ent.of [] ?_ ?_ rfl rfl;(repeat' (first |exact True.intro |refine ⟨⟨AV.Le.refl _, rfl⟩, ?_⟩ |refine ⟨⟨⟨_, rfl, BLe.row rfl⟩, rfl⟩, ?_⟩ |refine ⟨⟨AV.Le.int ?_, rfl⟩, ?_⟩|fail));exact hy.symm
   intro _ _;refine AWP.seqJ (G := Unit) (fun _ => True) (fun _ => St.of [900] [(0, .sub 900 A.length mid.length), (1, aW v), (5, aN (m + 2)), (7, aU q), (14, aU y)] [(900, .row 1 eW (A ++ (lo ++ [w]) ++ C) 62)]) ?_ ?_
   ·(repeat' (first |refine qv ?_ |apply qn |apply qr |refine Fl.sel rfl rfl rfl rfl rfl rfl rfl rfl (by omega) (by omega) ?_ |refine Fl.rst rfl rfl rfl rfl rfl rfl rfl rfl rfl rfl rfl (LeL.refl _) rfl (by first | omega | (simp; omega)) ?_|fail));refine JoinOk.of () trivial ?_;refine Ent.of [] ?_ ?_ rfl rfl;(repeat' (first |exact True.intro |refine ⟨⟨AV.Le.refl _, rfl⟩, ?_⟩ |refine ⟨⟨⟨_, rfl, BLe.row ?_⟩, rfl⟩, ?_⟩|fail));rw [show ((m : Int) + 2).toNat = m + 2 by omega];refine (set_part (j := lo.length) (by omega) (by omega)).trans (congrArg (fun M => A ++ M ++ C) ((set_drop (w' := w) rfl (by omega) ?_).trans ?_))
    ·omega
    ·rw [List.drop_eq_nil_of_le (by omega), List.append_nil]
   intro _ _
   have hU3 : val mid = val (mid.take (m + 2)) + BB (m + 2) * un := by
    have := val_top e0;rw [show m + 2 + 1 = mid.length by omega, List.take_length] at this;exact this
   obtain ⟨β, hβ⟩ : ∃ β : Int, w = un - b + β * 4294967296 ∧ ((β = 0 ∧ y / 9223372036854775808 = 0) ∨ (β = 1 ∧ y / 9223372036854775808 ≠ 0)) := by
    rcases Int.lt_or_le (un - b) 0 with h | h
    ·exact ⟨1, by omega, .inr ⟨rfl, by omega⟩⟩
    ·exact ⟨0, by omega, .inl ⟨rfl, by omega⟩⟩
   have hL : val (lo ++ [w]) = val mid - q * val v + β * BB (m + 3) := by
    rw [val_snoc, k0, k4, hU3, hβ.1, show m + 3 = m + 2 + 1 from rfl, BB_succ (m + 2)];grind
   have wL : WOk (lo ++ [w]) := k1.append (WOk.cons (by omega) (by omega) WOk.nil)
   have hLl : (lo ++ [w]).length = m + 3 := by simp; omega
   have hLw : lo ++ [w] = wdW mid.length (val (lo ++ [w])) := by
    have := wdW_eq wL;rw [hLl, ← hm] at this;exact this
   refine AWP.seq ?_;(repeat' (first |refine qv ?_ |apply qn |apply qs |apply qr |refine qw ?_ |(refine AWP.condD rfl ?_ ?_ <;> intro _ <;> try (exfalso; omega)) |apply qb |apply qk |apply qt))
   ·rename_i h1;rw [p63] at h1
    have hβ0 : β = 0 := by omega
    rw [hβ0, Int.zero_mul, Int.add_zero] at hL;have hn := val_nonneg wL;rw [hL] at hn;obtain ⟨r1, r2⟩ := dig_end0 hV hU g0 g1 hn;rw [hL, r2] at hLw;exact ⟨⟨[], _, _, Ent.refl _ _ _, rfl, AV.Le.int (by omega), rfl, ⟨⟨⟨_, rfl, BLe.row (by rw [hLw])⟩, rfl⟩, trivial⟩, rfl, rfl⟩⟩
   ·rename_i h1;rw [p63] at h1
    have hβ1 : β = 1 := by omega
    rw [hβ1, Int.one_mul] at hL;have hlt := val_lt wL;rw [hLl, hL] at hlt;obtain ⟨r1, r2⟩ := dig_end1 hV hU g0 g1 (by omega)
    have hLi : (lo ++ [w])[m + 2]? = some w := by rw [List.getElem?_append_right (by omega), k0]; simp
    generalize lo ++ [w] = L at *
    refine AWP.loop (G := List Int × Int) (fun (hi, c) => hi.length ≤ m + 2 ∧ WOk hi ∧ 0 ≤ c ∧ c ≤ 1 ∧ val hi + c * BB hi.length = val (L.take hi.length) + val (v.take hi.length)) (fun (hi, c) => St.of [900] [(0, .sub 900 A.length mid.length), (1, aW v), (5, aN (m + 2)), (7, aU q), (15, aU c), (134, aW v), (135, aN v.length), (136, aN hi.length)] [(900, .row 1 eW (A ++ (hi ++ L.drop hi.length) ++ C) 62)]) (fun (hi, c) => m + 2 - hi.length) ([], 0) ⟨by simp, WOk.nil, by omega, by omega, by simp [val]⟩ ?_ ?_
    ·refine Ent.of [] ?_ ?_ rfl rfl;(repeat' (first |exact True.intro |refine ⟨⟨AV.Le.refl _, rfl⟩, ?_⟩ |refine ⟨⟨⟨_, rfl, BLe.row rfl⟩, rfl⟩, ?_⟩|fail))
    ·intro ⟨hi, c⟩ ⟨j0, j1, j2, j3, j4⟩;have hW3 : WOk (A ++ (hi ++ L.drop hi.length) ++ C) := (wA.append (j1.append (wL.drop _))).append wC
     have hml3 : (hi ++ L.drop hi.length).length = mid.length := by rw [List.length_append, List.length_drop]; omega
     (repeat' (first |refine qv ?_ |apply qn |apply qs |apply qr |refine qw ?_ |(refine AWP.condD rfl ?_ ?_ <;> intro _ <;> try (exfalso; omega)) |apply qb |apply qk |apply qx |apply qt |(refine Fl.elW rfl rfl rfl rfl rfl rfl rfl rfl (by omega) (by omega) (by assumption) ?_; intro _ _ _ _) |refine Fl.sel rfl rfl rfl rfl rfl rfl rfl rfl (by omega) (by omega) ?_ |(refine Fl.rldW rfl rfl rfl rfl rfl rfl rfl (fun _ => rfl) (fun _ => rfl) (by first | omega | (simp; omega)) (by assumption) ?_; intro _ _ _ _) |refine Fl.rst rfl rfl rfl rfl rfl rfl rfl rfl rfl rfl rfl (LeL.refl _) rfl (by first | omega | (simp; omega)) ?_ |refine Fl.sumM rfl rfl rfl rfl rfl rfl ?_))
     ·rename_i hi0 x hx hx0 hx1 z hz hz0 hz1;rw [Int.toNat_natCast] at hx;rw [get_part (j := hi.length) (by omega) (by omega), get_drop rfl] at hz;obtain ⟨s, hs⟩ : ∃ s, s = z + x + c := ⟨_, rfl⟩;have hst := add_step (w := s % 4294967296) (c' := s / 4294967296) rfl hz hx j4 (by omega);refine LoopEnd.of (hi ++ [s % 4294967296], s / 4294967296) ⟨by simp; omega, j1.append (WOk.cons (by omega) (by omega) WOk.nil), by omega, by omega, by rw [List.length_append]; exact hst⟩ (by simp only [List.length_append, List.length_cons, List.length_nil]; omega) ?_;refine Ent.of [] ?_ ?_ rfl rfl;(repeat' (first |exact True.intro |refine ⟨⟨AV.Le.refl _, rfl⟩, ?_⟩ |refine ⟨⟨⟨_, rfl, BLe.row ?_⟩, rfl⟩, ?_⟩ |refine ⟨⟨AV.Le.int ?_, rfl⟩, ?_⟩|fail))
      ·rw [p32];omega
      ·simp
      ·rw [show (hi ++ [s % 4294967296]).length = hi.length + 1 by simp];refine (set_part (j := hi.length) (by omega) (by omega)).trans (congrArg (fun M => A ++ M ++ C) (set_drop (w' := s % 4294967296) rfl (by omega) ?_));rw [hs];congr 1;omega
     ·rename_i hlt2 x hx hx0 hx1
      have hhl : hi.length = m + 2 := by omega
      have hx2 : (hi ++ L.drop hi.length)[hi.length]? = L[hi.length]? := get_drop rfl;rw [show ((m : Int) + 2).toNat = hi.length by omega, get_part (j := hi.length) rfl (by omega), hx2, hhl, hLi] at hx;injection hx with hx;subst hx
      have hLv : val L = val (L.take (m + 2)) + BB (m + 2) * w := by
       have := val_top hLi;rw [show m + 2 + 1 = L.length by omega, List.take_length] at this;exact this
      rw [hhl, show v.take (m + 2) = v by rw [← hv, List.take_length]] at j4;have hh0 := val_nonneg j1;have hh1 := val_lt j1;rw [hhl] at hh1;have ht0 := Int.emod_nonneg (val mid) (show val v ≠ 0 by omega);have ht1 := Int.emod_lt_of_pos (val mid) hV
      have hback := dig_back (s := w + c) (h := val hi) (t := val mid % val v) (BB_pos (m + 2)) (by
       rw [← BB_succ, Int.mul_add, Int.mul_comm _ c];show _ = _ + BB (m + 3)
       omega) hh0 hh1 ht0 (by omega)
      have wF : WOk (hi ++ [0]) := j1.append (WOk.cons (by omega) (by omega) WOk.nil);have hF := wdW_eq wF;have hQ := (quo_spec hV hU).2.2.1;rw [val_snoc, Int.mul_zero, Int.add_zero, hback.2, (by simp; omega : (hi ++ [(0 : Int)]).length = mid.length)] at hF;refine ⟨⟨[], _, _, Ent.refl _ _ _, rfl, AV.Le.int ?_, rfl, ⟨⟨⟨_, rfl, BLe.row ?_⟩, rfl⟩, trivial⟩, rfl, rfl⟩⟩
      ·omega
      ·rw [show ((m : Int) + 2).toNat = hi.length by omega, ← hF];refine (set_part (j := hi.length) rfl (by omega)).trans (congrArg (fun M => A ++ M ++ C) ((set_drop (w' := 0) rfl (by omega) ?_).trans ?_))
       ·omega
       ·rw [List.drop_eq_nil_of_le (by omega), List.append_nil]
end Go.Proofs.YtcaecieigoplbaaGreat
/- Division of long numbers: plain. -/
namespace Go.AL
theorem wdW_snoc0 : ∀ (n : Nat) (z : Int), 0 ≤ z → z < BB n → wdW (n + 1) z = wdW n z ++ [0]
 | 0, z, h0, h1 => by
  rw [BB_zero] at h1
  have : z = 0 := by omega
  subst this; rfl
 | n + 1, z, h0, h1 => by
  rw [BB_succ] at h1;have ih := wdW_snoc0 n (z / 4294967296) (by omega) (by omega);show z % 4294967296 :: wdW (n + 1) (z / 4294967296) = z % 4294967296 :: wdW n (z / 4294967296) ++ [0];rw [ih]; rfl
structure DivInv (U : List Int) (V : Int) (n N i : Nat) (os : List Int) (ρ : Int) : Prop where
  hi : i ≤ N
  hl : os.length + i = N
  wo : WOk os
  r0 : 0 ≤ ρ
  r1 : ρ < V
  hv : val (U.drop i) = val os * V + ρ
theorem DivInv.step {U os : List Int} {V ρ : Int} {n N i : Nat} {u : Int} (d : DivInv U V n N (i + 1) os ρ) (hV : 0 < V) (hu : U[i]? = some u) (wu : WOk U) :
  DivInv U V n N i (val (u :: wdW n ρ) / V :: os) (val (u :: wdW n ρ) % V) ∨ ¬ (V < BB n) := by
 rcases Classical.em (V < BB n) with hn | hn
 ·left;have w := wu.get hu;have d0 := d.r0;have d1 := d.r1
  have hm : val (u :: wdW n ρ) = u + 4294967296 * ρ := by
   rw [val, val_wdW n ρ d0 (by omega)]
  rw [hm]
  have hlt : u + 4294967296 * ρ < 4294967296 * V := by omega
  have hdiv := Int.mul_ediv_add_emod (u + 4294967296 * ρ) V;have hm0 := Int.emod_nonneg (u + 4294967296 * ρ) (show V ≠ 0 by omega);have hm1 := Int.emod_lt_of_pos (u + 4294967296 * ρ) hV;refine ⟨by have := d.hi; omega, by have := d.hl; simp; omega, ?_, hm0, hm1, ?_⟩
  ·refine WOk.cons (Int.ediv_nonneg (by omega) (by omega)) (Int.ediv_lt_of_lt_mul hV hlt) d.wo
  ·have hd : U.drop i = u :: U.drop (i + 1) := by
    have hi := List.getElem?_eq_some_iff.1 hu;rw [List.drop_eq_getElem_cons hi.1, hi.2]
   rw [hd, val, d.hv, val]
   generalize (u + 4294967296 * ρ) / V = q at *
   generalize (u + 4294967296 * ρ) % V = r at *
   grind
 ·exact .inr hn
theorem norm_facts {y w : Int} {n k : Nat} (hy : 0 < y) (hn : (toW y).length = n + 1) (hw : (toW y)[n]? = some w) (hk : k = 32 - lenB w.toNat) :
  k < 32 ∧ lenB w.toNat + k = 32 ∧ (toW (y * 2 ^ k)).length = n + 1 ∧ (∀ t, (toW (y * 2 ^ k))[n]? = some t → 2147483648 ≤ t) ∧ BB n * 2 ^ k ≤ y * 2 ^ k := by
 have wy := toW_ok y;have ww := wy.get hw;have hsy := val_toW (show 0 ≤ y by omega)
 have hwn : w ≠ 0 := by
  have e : toW y = (toW y).take n ++ [w] := by
   conv => lhs; rw [← List.take_length (l := toW y), hn, take_top hw]
  have := (NW.toW y);rw [e] at this;exact this.last
 obtain ⟨W, hW⟩ : ∃ W : Nat, w = W := ⟨w.toNat, by omega⟩;subst hW;rw [Int.toNat_natCast] at hk ⊢;have hl := lenB_spec (n := W) (by omega);have hl2 := lenB_le (n := W) (k := 32) (by omega)
 have hk1 : lenB W + k = 32 := by omega
 have h2 : (0 : Int) < 2 ^ k := Int.pow_pos (by omega)
 have hv : y = val ((toW y).take n) + BB n * W := by
  have := val_top hw;rw [← hn, List.take_length, hsy] at this;exact this
 have hb := val_bounds (k := n) wy (by omega);have hB := BB_pos n
 have p1 : (W : Int) * 2 ^ k < 4294967296 ∧ ((W : Int) + 1) * 2 ^ k ≤ 4294967296 := by
  have a : W + 1 ≤ 2 ^ lenB W := hl.2.2;have b : (W + 1) * 2 ^ k ≤ 2 ^ lenB W * 2 ^ k := Nat.mul_le_mul_right _ a;rw [← Nat.pow_add, hk1] at b
  have c : (((W + 1) * 2 ^ k : Nat) : Int) ≤ ((2 ^ 32 : Nat) : Int) := by exact_mod_cast b
  rw [Int.natCast_mul, Int.natCast_pow] at c
  have e : (((W + 1 : Nat)) : Int) = (W : Int) + 1 := by omega
  rw [e] at c;have c2 : ((W : Int) + 1) * 2 ^ k ≤ 4294967296 := c;refine ⟨?_, c2⟩;rw [Int.add_mul] at c2; omega
 have p2 : 2147483648 ≤ (W : Int) * 2 ^ k := by
  have a : 2 ^ (lenB W - 1) ≤ W := hl.2.1;have b : 2 ^ (lenB W - 1) * 2 ^ k ≤ W * 2 ^ k := Nat.mul_le_mul_right _ a;rw [← Nat.pow_add, show lenB W - 1 + k = 31 by omega] at b
  have c : ((2 ^ 31 : Nat) : Int) ≤ ((W * 2 ^ k : Nat) : Int) := by exact_mod_cast b
  rw [Int.natCast_mul, Int.natCast_pow] at c;exact c
 have hlt : y * 2 ^ k < BB (n + 1) := by
  have a : y * 2 ^ k < (BB n * ((W : Int) + 1)) * 2 ^ k := Int.mul_lt_mul_of_pos_right (by rw [Int.mul_add]; omega) h2
  have b : (BB n * ((W : Int) + 1)) * 2 ^ k = BB n * (((W : Int) + 1) * 2 ^ k) := by grind
  have c : BB n * (((W : Int) + 1) * 2 ^ k) ≤ BB n * 4294967296 := Int.mul_le_mul_of_nonneg_left p1.2 (by omega);rw [BB_succ]; omega
 have hge : BB n * 2147483648 ≤ y * 2 ^ k := by
  have a : BB n * W * 2 ^ k ≤ y * 2 ^ k := Int.mul_le_mul_of_nonneg_right (by omega) (by omega)
  have b : BB n * W * 2 ^ k = BB n * (W * 2 ^ k) := by grind
  have c : BB n * 2147483648 ≤ BB n * (W * 2 ^ k) := Int.mul_le_mul_of_nonneg_left p2 (by omega);omega
 have hlen : (toW (y * 2 ^ k)).length = n + 1 := by
  have a := (toW_len_le (z := y * 2 ^ k) (by omega) (n + 1)).2 hlt;rcases Nat.lt_or_ge (toW (y * 2 ^ k)).length (n + 1) with h | h
  ·have := (toW_len_le (z := y * 2 ^ k) (by omega) n).1 (by omega);omega
  ·omega
 refine ⟨by omega, hk1, hlen, fun t ht => ?_, Int.mul_le_mul_of_nonneg_right ?_ (by omega)⟩
 ·have wz := toW_ok (y * 2 ^ k);have hz := val_top ht;rw [← hlen, List.take_length, val_toW (by omega)] at hz;have hb2 := val_bounds (k := n) wz (by omega);rcases Int.lt_or_le t 2147483648 with h | h
  ·have : BB n * t ≤ BB n * 2147483647 := Int.mul_le_mul_of_nonneg_left (by omega) (by omega);omega
  ·exact h
 ·have : BB n * 1 ≤ BB n * W := Int.mul_le_mul_of_nonneg_left (by omega) (by omega);omega
theorem dend_facts {x : Int} {k : Nat} (hx : 0 < x) (hk : k < 32) :
  ((toW (x * 2 ^ k) ++ [0, 0]).take ((toW x).length + 1)).length = (toW x).length + 1 ∧ WOk ((toW (x * 2 ^ k) ++ [0, 0]).take ((toW x).length + 1)) ∧ val ((toW (x * 2 ^ k) ++ [0, 0]).take ((toW x).length + 1)) = x * 2 ^ k ∧ toW (x * 2 ^ k) ≠ [] ∧ (toW (x * 2 ^ k)).length ≤ (toW x).length + 1 := by
 have h2 : (0 : Int) < 2 ^ k := Int.pow_pos (by omega)
 have hp : (2 : Int) ^ k ≤ 4294967296 := by
  have : (2 : Int) ^ k ≤ 2 ^ 32 := pow_le_r (by omega) (by omega);rw [show (2 : Int) ^ 32 = 4294967296 from rfl] at this; exact this
 have hX : 0 < x * 2 ^ k := Int.mul_pos hx h2
 have hxX : x ≤ x * 2 ^ k := by
  have : x * 1 ≤ x * 2 ^ k := Int.mul_le_mul_of_nonneg_left (by omega) (by omega);omega
 obtain ⟨L, hL⟩ : ∃ L, L = (toW x).length := ⟨_, rfl⟩;rw [← hL];have hxl : x < BB L := (toW_len_le (by omega) L).1 (by omega)
 have hXl : x * 2 ^ k < BB (L + 1) := by
  have a : x * 2 ^ k < BB L * 2 ^ k := Int.mul_lt_mul_of_pos_right hxl h2;have b : BB L * 2 ^ k ≤ BB L * 4294967296 := Int.mul_le_mul_of_nonneg_left hp (Int.le_of_lt (BB_pos _));rw [BB_succ]; omega
 have hlen1 : (toW (x * 2 ^ k)).length ≤ L + 1 := (toW_len_le (by omega) _).2 hXl
 have hlen2 : L ≤ (toW (x * 2 ^ k)).length := by
  rcases Nat.lt_or_ge (toW (x * 2 ^ k)).length L with h | h
  ·have a := (toW_len_le (z := x * 2 ^ k) (by omega) (L - 1)).1 (by omega);have b := (toW_len_le (z := x) (by omega) (L - 1)).2 (by omega);omega
  ·exact h
 have wX := toW_ok (x * 2 ^ k);have hsX := val_toW (show 0 ≤ x * 2 ^ k by omega);have hne := toW_ne_nil hX
 generalize toW (x * 2 ^ k) = D at *
 have ww : WOk (D ++ [0, 0]) := wX.append (WOk.cons (by omega) (by omega) (WOk.cons (by omega) (by omega) WOk.nil));refine ⟨by simp; omega, ww.take _, ?_, hne, hlen1⟩;rw [List.take_append, List.take_of_length_le (by omega), val_append, hsX]
 have : val ([0, 0].take (L + 1 - D.length)) = 0 := by
  rcases (show L + 1 - D.length = 0 ∨ L + 1 - D.length = 1 by omega) with h | h <;> rw [h] <;> simp [val]
 rw [this]; omega
theorem div_shift {x y : Int} {k : Nat} (hy : 0 < y) (hx : 0 ≤ x) : x * 2 ^ k / (y * 2 ^ k) = x / y ∧ x * 2 ^ k % (y * 2 ^ k) / 2 ^ k = x % y := by
 have h2 : (0 : Int) < 2 ^ k := Int.pow_pos (by omega);refine ⟨Int.mul_ediv_mul_of_pos_left _ _ h2, ?_⟩;rw [Int.mul_comm x, Int.mul_comm y, Int.mul_emod_mul_of_pos _ _ h2, Int.mul_ediv_cancel_left _ (by omega)]
end Go.AL
/- large.divide: the walk. -/
namespace Go.Proofs.YtcaecieigoplbaaGreat
open Go.AL

theorem cloneRow_ok (l : List Int) (hl : l.length ≤ 100000) (hne : l ≠ []) : IoFn Tryz.prog 191 [aW l] [] (.ret (.row 900)) [(900, .row 1 eW l 62)] := by
 refine IoFn.of_body Tryz.func191 rfl Tryz.ntmps191 rfl rfl rfl ?_;refine AWP.seqS ?_;(repeat' (first |refine qv ?_ |apply qn |apply qr));refine ⟨AWP.seq (AWP.seq (AWP.nilTest rfl rfl rfl rfl rfl rfl rfl rfl rfl rfl ?_))⟩;intro b hb
 cases b with
 | true => exact absurd (hb rfl) hne
 | false =>
  (repeat' (first |apply qs |apply qr |refine AWP.condF rfl ?_ |apply qk));refine Fl.litrow rfl rfl rfl rfl rfl rfl rfl eW [] rfl rfl rfl rfl (by simp) (LeL.refl _) ?_;(repeat' (first |refine qv ?_|fail));refine qa (hby := (by dsimp only [List.length_nil]; omega)) (hm := (by simp; omega)) (r := ?_);(repeat' (first |refine qv ?_ |apply qn |apply qt));exact ⟨⟨[(900, 7)], _, _, Ent.refl _ _ _, rfl, AV.Le.refl _, rfl, ⟨⟨⟨_, rfl, BLe.row rfl⟩, rfl⟩, trivial⟩, rfl, rfl⟩⟩

set_option maxHeartbeats 1000000 in
theorem divide_ok (x y : Int) (hx : 0 ≤ x) (hy : 0 < y) (hxl : (toW x).length ≤ 40000) (hyl : (toW y).length ≤ 40000) : PureFn Tryz.prog 176 [aW (toW x), aW (toW y)] (.tup [aW (toW (x / y)), aW (toW (x % y))]) := by
 refine PureFn.of_body Tryz.func176 rfl Tryz.ntmps176 rfl rfl ?_;have hyne := toW_ne_nil hy;have hy0 : 0 < (toW y).length := List.length_pos_iff.2 hyne;have wy := toW_ok y;have hsy := val_toW (show 0 ≤ y by omega);refine AWP.seqS ?_;(repeat' (first |refine qv ?_ |apply qn |apply qr));refine ⟨AWP.seqS ?_⟩;(repeat' (first |refine qv ?_ |apply qs |apply qr));refine qc (compare_ok x y hx (by omega) (by omega) (by omega)) ?_;(repeat' (first |refine qv ?_ |apply qn |apply qs |apply qr |(refine AWP.condD rfl ?_ ?_ <;> intro _ <;> try (exfalso; omega)) |apply qk))
 ·rename_i h
  have hlt : x < y := by
   rcases Int.lt_or_le x y with h1 | h1
   ·exact h1
   ·rcases Int.lt_or_eq_of_le h1 with h2 | h2
    ·rw [cmpI_gt h2] at h; omega
    ·rw [cmpI_eq h2.symm] at h; omega
  refine qc (clone_ok (toW x) (by omega)) ?_;(repeat' (first |refine qv ?_ |apply qn |apply qt));refine RetOk.of rfl ?_;rw [Int.ediv_eq_zero_of_lt hx hlt, Int.emod_eq_of_lt hx hlt, toW_zero];exact AV.Le.tup (LeL.cons (AV.Le.nil 1 eW) (LeL.refl _))
 rename_i hcmp
 have hxy : y ≤ x := by
  rcases Int.lt_or_le x y with h1 | h1
  ·rw [cmpI_lt h1] at hcmp; omega
  ·exact h1
 refine ⟨AWP.seqS ?_⟩;(repeat' (first |refine qv ?_ |apply qn |apply qs |apply qr |(refine AWP.condD rfl ?_ ?_ <;> intro _ <;> try (exfalso; omega)) |apply qk |(refine Fl.elW rfl rfl rfl rfl rfl rfl rfl rfl (by omega) (by omega) (by assumption) ?_; intro _ _ _ _)|fail))
 ·rename_i h1 w hw hw0 hw1
  have hyw : y = w := by
   have := val_top hw;rw [show (0 : Int).toNat + 1 = (toW y).length by omega, List.take_length, hsy] at this;rw [this]; simp [val, BB_zero]
  refine qc (over_ok x w hx (by omega) (by omega) hw1) ?_;(repeat' (first |refine qv ?_ |apply qn |apply qs |apply qr));refine ql eW [x % w] ?_;skip;have hr0 := Int.emod_nonneg x (show w ≠ 0 by omega);have hr1 := Int.emod_lt_of_pos x (show 0 < w by omega);refine qc (trim_ok [x % w] (WOk.cons hr0 (by omega) WOk.nil) (by simp)) ?_;(repeat' (first |refine qv ?_ |apply qn |apply qt));refine RetOk.of rfl ?_;rw [hyw];refine AV.Le.tup (LeL.cons (AV.Le.refl _) (LeL.cons (AV.Le.of_eq ?_) LeL.nil));rw [show val [x % w] = x % w by simp [val]]
 rename_i hn1;refine ⟨AWP.seqS ?_⟩;(repeat' (first |refine qv ?_ |apply qr |refine qw ?_ |(refine Fl.elW rfl rfl rfl rfl rfl rfl rfl rfl (by omega) (by omega) (by assumption) ?_; intro _ _ _ _)|fail));rename_i w hw hw0 hw1;obtain ⟨m, hm⟩ : ∃ m, (toW y).length = m + 2 := ⟨(toW y).length - 2, by omega⟩;rw [show ((((toW y).length : Nat) : Int) - 1).toNat = m + 1 by omega] at hw;obtain ⟨k, hk⟩ : ∃ k, k = 32 - lenB w.toNat := ⟨_, rfl⟩;obtain ⟨n1, n2, n3, n4, n5⟩ := norm_facts hy hm hw hk;obtain ⟨d1, d2, d3, d4, d5⟩ := dend_facts (x := x) (k := k) (by omega) n1;have h2 : (0 : Int) < 2 ^ k := Int.pow_pos (by omega);have hV : 0 < y * 2 ^ k := Int.mul_pos hy h2;have hX : 0 ≤ x * 2 ^ k := Int.mul_nonneg hx (by omega);refine Fl.call rfl (LeadingZeros32_ok w.toNat (by omega)) rfl rfl rfl (LeL.cons (AV.Le.int (by omega)) LeL.nil) ?_;(repeat' (first |refine qv ?_ |apply qn));refine ⟨AWP.seqS ?_⟩;(repeat' (first |refine qv ?_ |apply qr));refine Fl.call rfl (left_ok y k k (by omega) (by omega) n1 (by omega) (by omega)) rfl rfl rfl (LeL.cons (AV.Le.refl _) (LeL.cons (AV.Le.int (by omega)) LeL.nil)) ?_;(repeat' (first |refine qv ?_ |apply qn))
 obtain ⟨N, hN⟩ : ∃ N, N + (m + 1) = (toW x).length := ⟨(toW x).length - (m + 1), by
  have : (toW y).length ≤ (toW x).length := by
   rcases Nat.lt_or_ge (toW x).length (toW y).length with h | h
   ·have := toW_len_lt hx (by omega) h; omega
   ·exact h
  omega⟩
 have d6 : (toW x).length + 1 ≤ (toW (x * 2 ^ k)).length + 2 := by
  have := d1;rw [List.length_take, List.length_append] at this;dsimp only [List.length_cons, List.length_nil] at this;omega
 obtain ⟨U, hU⟩ : ∃ U, U = (toW (x * 2 ^ k) ++ [0, 0]).take ((toW x).length + 1) := ⟨_, rfl⟩;refine ⟨AWP.seqJ (G := Unit) (fun _ => True) (fun _ => St.of [] [(8, aN k), (9, aW (toW (y * 2 ^ k))), (10, .row 56)] [(56, .row 1 eW U 62)]) ?_ ?_⟩
 ·(repeat' (first |refine qv ?_ |apply qr));refine Fl.call rfl (left_ok x k k (by omega) (by omega) n1 (by omega) (by omega)) rfl rfl rfl (LeL.cons (AV.Le.refl _) (LeL.cons (AV.Le.int (by omega)) LeL.nil)) ?_;skip;refine Fl.io rfl [(900, 50)] (cloneRow_ok (toW (x * 2 ^ k)) (by omega) d4) rfl rfl (LeL.refl _) rfl trivial rfl rfl rfl rfl rfl ?_;skip;refine ql eW [0, 0] ?_;skip;refine qa (hby := (by dsimp only [List.length_nil, List.length_cons]; omega)) (hm := (by dsimp only [List.length_nil, List.length_cons]; omega)) (r := ?_);(repeat' (first |refine qv ?_ |refine qw ?_|fail));refine Fl.cutR rfl rfl rfl rfl rfl rfl rfl (by omega) (by rw [List.length_append]; dsimp only [List.length_cons, List.length_nil]; omega) rfl rfl rfl rfl ?_;(repeat' (first |refine qv ?_ |apply qn));refine JoinOk.of () trivial ?_;refine Ent.of [] ?_ ?_ rfl rfl;(repeat' (first |exact True.intro |refine ⟨⟨AV.Le.refl _, rfl⟩, ?_⟩ |refine ⟨⟨⟨_, rfl, BLe.row ?_⟩, rfl⟩, ?_⟩ |refine ⟨⟨AV.Le.int ?_, rfl⟩, ?_⟩|fail))
  ·omega
  ·rw [hU]; congr 1
 intro _ _
 have wU : WOk U := by rw [hU]; exact d2
 have hUl : U.length = N + (m + 2) := by rw [hU]; omega
 have hUv : val U = x * 2 ^ k := by rw [hU]; exact d3
 have wV := toW_ok (y * 2 ^ k);have hVv := val_toW (show 0 ≤ y * 2 ^ k by omega)
 have hVB : y * 2 ^ k < BB (m + 2) := by
  have := val_lt wV;rwa [n3, hVv] at this
 clear hU;refine AWP.seqS ?_;(repeat' (first |refine qv ?_ |apply qn |apply qr));refine ⟨AWP.seqJ (G := List Int) (fun z => z = List.replicate N 0 ∧ z.length = N) (fun z => St.of [] [(8, aN k), (9, aW (toW (y * 2 ^ k))), (10, .row 56), (11, aN (m + 2)), (12, .row 63)] [(56, .row 1 eW U 62), (63, .row 1 eW z 62)]) ?_ ?_⟩
 ·(repeat' (first |refine qv ?_ |apply qn |apply qr |refine qw ?_ |refine Fl.make rfl rfl rfl rfl rfl rfl rfl rfl rfl rfl eW 0 (by exact LeL.refl _) (by rfl) (by first | omega | (dsimp only; omega)) (by first | omega | (dsimp only; omega)) (by first | omega | (dsimp only; omega)) ?_|fail));refine JoinOk.of (List.replicate N 0) ⟨rfl, by simp⟩ ?_;refine Ent.of [] ?_ ?_ rfl rfl;(repeat' (first |exact True.intro |refine ⟨⟨AV.Le.refl _, rfl⟩, ?_⟩ |refine ⟨⟨⟨_, rfl, BLe.row rfl⟩, rfl⟩, ?_⟩ |refine ⟨⟨⟨_, rfl, BLe.row ?_⟩, rfl⟩, ?_⟩ |refine ⟨⟨AV.Le.int ?_, rfl⟩, ?_⟩|fail))
  ·omega
  ·congr 1; omega
 intro z ⟨hz, hzl⟩;refine AWP.seqJ (G := List Int × Int) (fun (os, ρ) => DivInv U (y * 2 ^ k) (m + 2) N 0 os ρ) (fun (os, ρ) => St.of [] [(8, aN k), (10, .row 56), (12, .row 63)] [(56, .row 1 eW (wdW (m + 2) ρ ++ List.replicate N 0) 62), (63, .row 1 eW os 62)]) ?_ ?_
 ·(repeat' (first |refine qv ?_ |apply qn |apply qs |apply qr |refine qw ?_ |apply qb));refine AWP.loop (G := Nat × List Int × Int) (fun (i, os, ρ) => DivInv U (y * 2 ^ k) (m + 2) N i os ρ)
   (fun (i, os, ρ) => St.of [] [(8, aN k), (9, aW (toW (y * 2 ^ k))), (10, .row 56), (11, aN (m + 2)), (12, .row 63), (13, aN ((i : Int) - 1))] [(56, .row 1 eW (U.take i ++ (wdW (m + 2) ρ ++ List.replicate (N - i) 0)) 62), (63, .row 1 eW (List.replicate i 0 ++ os) 62)])
   (fun (i, os, ρ) => i) (N, [], val (U.drop N)) ?_ ?_ ?_
  ·have hsp : val U = val (U.take N) + BB N * val (U.drop N) := by
    conv => lhs; rw [← List.take_append_drop N U, val_append]
    rw [List.length_take, Nat.min_eq_left (by omega)]
   have ht := val_bounds (k := N) wU (by omega);have hdn := val_nonneg (wU.drop N);refine ⟨Nat.le_refl _, by simp, WOk.nil, hdn, ?_, by simp [val]⟩;rcases Int.lt_or_le (val (U.drop N)) (y * 2 ^ k) with h | h
   ·exact h
   ·have a1 : BB N * (y * 2 ^ k) ≤ BB N * val (U.drop N) := Int.mul_le_mul_of_nonneg_left h (Int.le_of_lt (BB_pos _));have a2 : BB N * (BB (m + 1) * 2 ^ k) ≤ BB N * (y * 2 ^ k) := Int.mul_le_mul_of_nonneg_left n5 (Int.le_of_lt (BB_pos _));have a3 : x < BB (N + (m + 1)) := (toW_len_le hx _).1 (by omega);have a4 : x * 2 ^ k < BB (N + (m + 1)) * 2 ^ k := Int.mul_lt_mul_of_pos_right a3 h2;rw [BB_add] at a4;have a5 : BB N * BB (m + 1) * 2 ^ k = BB N * (BB (m + 1) * 2 ^ k) := Int.mul_assoc _ _ _;omega
  ·refine Ent.of [] ?_ ?_ rfl rfl;(repeat' (first |exact True.intro |refine ⟨⟨AV.Le.refl _, rfl⟩, ?_⟩ |refine ⟨⟨⟨_, rfl, BLe.row ?_⟩, rfl⟩, ?_⟩ |refine ⟨⟨AV.Le.int ?_, rfl⟩, ?_⟩|fail))
   ·omega
   ·have hdl : (U.drop N).length = m + 2 := by rw [List.length_drop]; omega
    have := wdW_eq (wU.drop N);rw [hdl] at this;rw [← this, Nat.sub_self, List.replicate_zero, List.append_nil, List.take_append_drop]
   ·rw [hz, List.append_nil]
  ·intro ⟨i, os, ρ⟩ hd;refine AWP.seqS ?_;(repeat' (first |refine qv ?_ |apply qn |apply qs |apply qr |(refine AWP.condD rfl ?_ ?_ <;> intro _ <;> try (exfalso; omega)) |apply qk |apply qx))
   ·rename_i hi;obtain ⟨i', rfl⟩ : ∃ i', i = i' + 1 := ⟨i - 1, by omega⟩;have hiN : i' + 1 ≤ N := hd.hi;obtain ⟨u, hu⟩ : ∃ u, U[i']? = some u := ⟨_, List.getElem?_eq_getElem (by omega)⟩;have wu := wU.get hu;have hst := (hd.step hV hu wU).resolve_right (fun h => h hVB)
    have hAl : (U.take i').length = i' := by rw [List.length_take]; omega
    have hml : (u :: wdW (m + 2) ρ).length = m + 3 := by rw [List.length_cons, wdW_length]
    have hrow : U.take (i' + 1) ++ (wdW (m + 2) ρ ++ List.replicate (N - (i' + 1)) 0) = U.take i' ++ (u :: wdW (m + 2) ρ) ++ List.replicate (N - (i' + 1)) 0 := by
     rw [take_top hu]; simp
    have hrl : (U.take (i' + 1) ++ (wdW (m + 2) ρ ++ List.replicate (N - (i' + 1)) 0)).length = N + (m + 2) := by
     rw [List.length_append, List.length_append, List.length_take, wdW_length, List.length_replicate]; omega
    have hmv : val (u :: wdW (m + 2) ρ) = u + 4294967296 * ρ := by
     rw [val, val_wdW (m + 2) ρ hd.r0 (by have := hd.r1; omega)]
    have hdg : DigOk m (u :: wdW (m + 2) ρ) (toW (y * 2 ^ k)) := ⟨hml, n3, WOk.cons wu.1 wu.2 (wdW_ok _ _), wV, n4, by rw [hmv, hVv]; have := hd.r1; omega, by omega⟩;have hdig := digit_ok m (U.take i') (u :: wdW (m + 2) ρ) (List.replicate (N - (i' + 1)) 0) (toW (y * 2 ^ k)) hdg (wU.take _) (WOk.zeros _) (by omega) (by rw [List.length_replicate]; omega);rw [hVv] at hdig;obtain ⟨q, hq⟩ : ∃ q, q = val (u :: wdW (m + 2) ρ) / (y * 2 ^ k) := ⟨_, rfl⟩;obtain ⟨ρ', hρ'⟩ : ∃ r, r = val (u :: wdW (m + 2) ρ) % (y * 2 ^ k) := ⟨_, rfl⟩;rw [← hq, ← hρ'] at hdig hst;refine ⟨AWP.seq (AWP.block ?_)⟩;(repeat' (first |refine qv ?_ |apply qr |refine qw ?_|fail));refine Fl.subR rfl rfl rfl rfl rfl rfl rfl rfl (off := (U.take i').length) (len := (u :: wdW (m + 2) ρ).length) (by omega) (by omega) (by rw [hrl]; omega) (by omega) (by omega) rfl rfl ?_;(repeat' (first |refine qv ?_|fail));refine Fl.io rfl [(900, 56)] hdig rfl rfl (LeL.refl _) rfl ⟨⟨⟨_, rfl, BLe.row hrow⟩, rfl⟩, trivial⟩ rfl rfl rfl rfl rfl ?_;(repeat' (first |refine qv ?_ |apply qn |apply qr |refine qw ?_ |refine Fl.rel rfl rfl rfl rfl rfl rfl rfl rfl (by omega) (by first | omega | (simp; omega)) ?_ |refine Fl.rst rfl rfl rfl rfl rfl rfl rfl rfl rfl rfl rfl (LeL.refl _) rfl (by first | omega | (simp; omega)) ?_|fail));refine LoopEnd.of (i', q :: os, ρ') hst (by simp only; omega) ?_;refine Ent.of [] ?_ ?_ rfl rfl;(repeat' (first |exact True.intro |refine ⟨⟨AV.Le.refl _, rfl⟩, ?_⟩ |refine ⟨⟨⟨_, rfl, BLe.row ?_⟩, rfl⟩, ?_⟩ |refine ⟨⟨AV.Le.int ?_, rfl⟩, ?_⟩|fail))
    ·omega
    ·rw [hml, wdW_snoc0 (m + 2) ρ' hst.r0 (by have := hst.r1; omega), show N - i' = N - (i' + 1) + 1 by omega, List.replicate_succ];simp
    ·exact set_zeros (by omega) rfl rfl
   ·have hi : i = 0 := by omega
    subst hi;refine JoinOk.of (os, ρ) hd ?_;refine Ent.of [] ?_ ?_ rfl rfl;(repeat' (first |exact True.intro |refine ⟨⟨AV.Le.refl _, rfl⟩, ?_⟩ |refine ⟨⟨⟨_, rfl, BLe.row rfl⟩, rfl⟩, ?_⟩|fail))
 ·intro ⟨os, ρ⟩ hd;have hd : DivInv U (y * 2 ^ k) (m + 2) N 0 os ρ := hd;have hv := hd.hv;rw [List.drop_zero, hUv] at hv;obtain ⟨r1, r2⟩ := over_end hv hd.r0 hd.r1;obtain ⟨s1, s2⟩ := div_shift (x := x) (k := k) hy hx;have hr1 := hd.r1
  have hu : val (wdW (m + 2) ρ ++ List.replicate N 0) = ρ := by
   rw [val_append, val_zeros, val_wdW (m + 2) ρ hd.r0 (by omega)]; omega
  have hul : (wdW (m + 2) ρ ++ List.replicate N 0).length = N + (m + 2) := by
   rw [List.length_append, wdW_length, List.length_replicate]; omega
  have htr := trim_ok (wdW (m + 2) ρ ++ List.replicate N 0) ((wdW_ok _ _).append (WOk.zeros _)) (by omega);rw [hu] at htr;refine AWP.seqS ?_;(repeat' (first |refine qv ?_ |apply qr));refine Fl.callF rfl 56 rfl htr rfl rfl rfl (LeL.refl _) ?_;(repeat' (first |refine qv ?_|fail))
  refine Fl.call rfl (right_ok ρ k hd.r0 (by
   have := (toW_len_le hd.r0 (m + 2)).2 (by omega)
   omega) n1) rfl rfl rfl (LeL.refl _) ?_
  (repeat' (first |refine qv ?_ |apply qn));refine ⟨?_⟩;(repeat' (first |refine qv ?_ |apply qs |apply qr));refine Fl.callF rfl 63 rfl (trim_ok os hd.wo (by have := hd.hl; omega)) rfl rfl rfl (LeL.refl _) ?_;(repeat' (first |refine qv ?_ |apply qn |apply qt));refine RetOk.of rfl ?_;rw [r1, s1, r2, s2];exact AV.Le.refl _
end Go.Proofs.YtcaecieigoplbaaGreat
/- large.Div; chain.Quo, chain.Rest, chain.Power. -/
namespace Go.AL
theorem div_fit {x y : Int} (hx : Fit x) (hy : Fit y) (h : y ≠ 0) : Fit (x / y) ∧ Fit (x % y) := by
 have hm := Int.mul_ediv_add_emod x y;have h0 := Int.emod_nonneg x h;have h1 := Int.emod_lt x h;constructor
 ·refine Fit.mk ?_;have hl := hx.lt;have : (x / y).natAbs ≤ x.natAbs := Int.natAbs_ediv_le_natAbs x y;omega
 ·exact Fit.mk (by have := hy.lt; omega)
theorem toW_one : toW 1 = [1] := by
 have := toW_cons (x := 1) (z := 0) (by omega) (by omega) (by omega) (.inl (by omega));rw [toW_zero] at this;exact this
theorem div_signs (x y : Int) (hy : y ≠ 0) :
  (¬ (x < 0 ∧ (x.natAbs : Int) % y.natAbs ≠ 0) → x / y = sg (!(decide (x < 0) == decide (y < 0))) ((x.natAbs : Int) / y.natAbs) ∧ x % y = (x.natAbs : Int) % y.natAbs) ∧
  ((x < 0 ∧ (x.natAbs : Int) % y.natAbs ≠ 0) → x / y = sg (!(decide (x < 0) == decide (y < 0))) ((x.natAbs : Int) / y.natAbs + 1) ∧ x % y = y.natAbs - (x.natAbs : Int) % y.natAbs) := by
 have hm := Int.mul_ediv_add_emod (x.natAbs : Int) y.natAbs
 have hp : (0 : Int) < y.natAbs := by omega
 have h0 := Int.emod_nonneg (x.natAbs : Int) (show (y.natAbs : Int) ≠ 0 by omega);have h1 := Int.emod_lt_of_pos (x.natAbs : Int) hp
 generalize (x.natAbs : Int) / y.natAbs = Q at *
 generalize (x.natAbs : Int) % y.natAbs = R at *
 have key : ∀ q r : Int, x = y * q + r → 0 ≤ r → r < y.natAbs → x / y = q ∧ x % y = r := fun q r e r0 r1 => by
  rcases Int.lt_or_lt_of_ne hy with h | h
  ·exact (Int.ediv_emod_unique' h).2 ⟨by omega, r0, by omega⟩
  ·exact (Int.ediv_emod_unique h).2 ⟨by omega, r0, by omega⟩
 have hyy : (y < 0 ∧ (y.natAbs : Int) = -y) ∨ (¬ y < 0 ∧ (y.natAbs : Int) = y) := by omega
 have hxx : (x < 0 ∧ (x.natAbs : Int) = -x) ∨ (¬ x < 0 ∧ (x.natAbs : Int) = x) := by omega
 have ny : ∀ q : Int, -y * q = -(y * q) := fun q => Int.neg_mul _ _;have ny2 : ∀ q : Int, y * -q = -(y * q) := fun q => Int.mul_neg _ _
 have ny3 : ∀ q : Int, y * (q + 1) = y * q + y := fun q => by rw [Int.mul_add, Int.mul_one]
 constructor
 ·intro hn;refine key _ _ ?_ h0 h1;rcases hxx with ⟨a, b⟩ | ⟨a, b⟩ <;> rcases hyy with ⟨c, d⟩ | ⟨c, d⟩ <;> rw [b, d] at hm <;> simp only [a, c, decide_true, decide_false, sg, beq_self_eq_true, Bool.not_true, Bool.not_false, Bool.false_eq_true, if_true, if_false, ny, ny2, show (true == false) = false from rfl, show (false == true) = false from rfl] at hm ⊢
  ·have : R = 0 := by
    rcases Classical.em (R = 0) with h | h
    ·exact h
    ·exact absurd ⟨a, h⟩ hn
   omega
  ·have : R = 0 := by
    rcases Classical.em (R = 0) with h | h
    ·exact h
    ·exact absurd ⟨a, h⟩ hn
   omega
  ·omega
  ·omega
 ·intro hn;refine key _ _ ?_ (by omega) (by omega);obtain ⟨a, hR⟩ := hn
  have b : (x.natAbs : Int) = -x := by omega
  rcases hyy with ⟨c, d⟩ | ⟨c, d⟩ <;> rw [b, d] at hm <;> simp only [a, c, d, decide_true, decide_false, sg, beq_self_eq_true, Bool.not_true, Bool.not_false, Bool.false_eq_true, if_true, if_false, ny, ny2, ny3, show (true == false) = false from rfl, show (false == true) = false from rfl] at hm ⊢
  ·omega
  ·omega
end Go.AL
namespace Go.Proofs.YtcaecieigoplbaaGreat
open Go.AL

theorem Div_ok (x y : Int) (hx : Fit x) (hy : Fit y) (h : y ≠ 0) : PureFn Tryz.prog 151 [aX x, aX y] (.tup [aX (x / y), aX (x % y), aN 0]) := by
 refine PureFn.of_body Tryz.func151 rfl Tryz.ntmps151 rfl rfl ?_;have hxl := hx.len;have hyl := hy.len
 have hyp : (0 : Int) < y.natAbs := by omega
 have hyne := toW_ne_nil hyp;have hy0 : 0 < (toW (y.natAbs : Int)).length := List.length_pos_iff.2 hyne;obtain ⟨s1, s2⟩ := div_signs x y h;obtain ⟨f1, f2⟩ := div_fit hx hy h;obtain ⟨Q, hQ⟩ : ∃ Q, Q = (x.natAbs : Int) / y.natAbs := ⟨_, rfl⟩;obtain ⟨R, hR⟩ : ∃ R, R = (x.natAbs : Int) % y.natAbs := ⟨_, rfl⟩;have hdiv := divide_ok x.natAbs y.natAbs (by omega) hyp (by omega) (by omega);have h0 := Int.emod_nonneg (x.natAbs : Int) (show (y.natAbs : Int) ≠ 0 by omega);have h1 := Int.emod_lt_of_pos (x.natAbs : Int) hyp;have hq0 : (0 : Int) ≤ (x.natAbs : Int) / y.natAbs := Int.ediv_nonneg (by omega) (by omega);have hq1 : (x.natAbs : Int) / y.natAbs ≤ x.natAbs := Int.ediv_le_self _ (by omega);rw [← hQ] at hq0 hq1;rw [← hQ, ← hR] at s1 s2 hdiv;rw [← hR] at h0 h1;have hQl : (toW Q).length ≤ 4096 := (toW_len_le hq0 _).2 (by have := hx.lt; omega);have hRl : (toW R).length ≤ 4096 := (toW_len_le h0 _).2 (by have := hy.lt; omega);refine AWP.seqS ?_;(repeat' (first |refine qv ?_ |apply qn |apply qr |refine qe ?_|fail));refine ⟨AWP.seqS ?_⟩;(repeat' (first |refine qv ?_ |apply qs |apply qr));refine ql eZ [zOf x, zOf y] ?_;skip;refine qc (valid_two x y hx hy) ?_;(repeat' (first |refine qv ?_ |apply qn |refine AWP.condF rfl ?_ |apply qk));refine ⟨AWP.seqS ?_⟩;(repeat' (first |refine qv ?_ |apply qn |apply qs |apply qr |(refine AWP.condD rfl ?_ ?_ <;> intro _ <;> try (exfalso; omega)) |apply qk));refine ⟨AWP.seqS ?_⟩;(repeat' (first |refine qv ?_ |apply qr));refine qc (hdiv) ?_;(repeat' (first |refine qv ?_ |apply qn));refine ⟨?_⟩;refine AWP.seqJ (G := Int × Int) (fun (q, r) => 0 ≤ q ∧ (toW q).length ≤ 50000 ∧ x / y = sg (!(decide (x < 0) == decide (y < 0))) q ∧ r = x % y ∧ 0 ≤ r) (fun (q, r) => St.of [] [(2, .ptr 2 0), (3, .ptr 3 0), (4, .ptr 4 0), (5, .ptr 5 0), (7, aW (toW q)), (8, aW (toW r))] [(2, .cells (eX x) 35), (3, .cells (eX y) 35), (4, .cells [aB false, .v (.slice none 0 0)] 35), (5, .cells [aB false, .v (.slice none 0 0)] 35)]) ?_ ?_
 ·refine AWP.seq ?_;(repeat' (first |refine qv ?_ |apply qn |apply qr |refine Fl.skip rfl rfl ?_ |refine AWP.condF rfl ?_ |(refine AWP.condD rfl ?_ ?_ <;> intro _ <;> try (exfalso; omega)) |apply qk |(refine Fl.splitD rfl rfl ?_ ?_ <;> intro _ <;> try (exfalso; omega))))
  ·rename_i hxn hrp
   have hr0 : R ≠ 0 := by
    intro h; subst h;rw [toW_zero] at hrp;simp at hrp
   obtain ⟨t1, t2⟩ := s2 ⟨hxn, hr0⟩;refine ql eW [1] ?_;skip;refine Fl.call rfl (plus_ok Q 1 hq0 (by omega) (by omega) (by rw [toW_one]; simp)) rfl rfl rfl (LeL.cons (AV.Le.refl _) (LeL.cons (AV.Le.sl toW_one.symm) LeL.nil)) ?_;(repeat' (first |refine qv ?_|fail));refine qc (minus_ok y.natAbs R h0 (by omega) (by omega)) ?_;(repeat' (first |refine qv ?_ |refine Fl.nil (fun _ => by kernel_rfl) ?_|fail));refine JoinOk.of (Q + 1, y.natAbs - R) ⟨by omega, ?_, t1, t2.symm, by omega⟩ ?_
   ·have := (toW_len_le (z := Q + 1) (by omega) 4097).2 (by
     have := (toW_len_le hq0 4096).1 hQl;have e : BB 4097 = 4294967296 * BB 4096 := BB_succ 4096;have := BB_pos 4096
     omega)
    omega
   ·refine Ent.of [] ?_ ?_ rfl rfl;(repeat' (first |exact True.intro |refine ⟨⟨AV.Le.refl _, rfl⟩, ?_⟩ |refine ⟨⟨⟨_, rfl, BLe.cells (LeL.refl _)⟩, rfl⟩, ?_⟩|fail))
  ·rename_i hxn hrp
   have hr0 : R = 0 := by
    rcases Int.lt_or_eq_of_le h0 with h | h
    ·exact absurd (by have := List.length_pos_iff.2 (toW_ne_nil h); omega) hrp
    ·exact h.symm
   obtain ⟨t1, t2⟩ := s1 (fun hh => hh.2 hr0);refine JoinOk.of (Q, R) ⟨hq0, by omega, t1, t2.symm, h0⟩ ?_;refine Ent.of [] ?_ ?_ rfl rfl;(repeat' (first |exact True.intro |refine ⟨⟨AV.Le.refl _, rfl⟩, ?_⟩ |refine ⟨⟨⟨_, rfl, BLe.cells (LeL.refl _)⟩, rfl⟩, ?_⟩|fail))
  ·rename_i hxn;obtain ⟨t1, t2⟩ := s1 (fun hh => hxn hh.1);refine JoinOk.of (Q, R) ⟨hq0, by omega, t1, t2.symm, h0⟩ ?_;refine Ent.of [] ?_ ?_ rfl rfl;(repeat' (first |exact True.intro |refine ⟨⟨AV.Le.refl _, rfl⟩, ?_⟩ |refine ⟨⟨⟨_, rfl, BLe.cells (LeL.refl _)⟩, rfl⟩, ?_⟩|fail))
 ·intro ⟨q, r⟩ ⟨k0, k1, k2, k3, k4⟩
  have hrl : (toW r).length ≤ 4096 := by
   have := f2.len;rw [← k3, show ((r.natAbs : Nat) : Int) = r by omega] at this;exact this
  refine AWP.seqS ?_;(repeat' (first |refine qv ?_ |apply qr));refine qc (made_ok (!(decide (x < 0) == decide (y < 0))) (toW q) (toW_ok q) (by omega)) ?_;rw [val_toW k0, ← k2, aR_fit f1];(repeat' (first |refine qv ?_ |apply qn |refine qe ?_|fail));refine ⟨AWP.seqS ?_⟩;(repeat' (first |refine qv ?_ |apply qn |apply qs |apply qr |refine AWP.condF rfl ?_ |apply qk));refine ⟨AWP.seqS ?_⟩;(repeat' (first |refine qv ?_ |apply qr));refine qc (made_ok false (toW r) (toW_ok r) (by omega)) ?_;rw [show sg false (val (toW r)) = x % y by rw [val_toW k4, k3]; simp [sg], aR_fit f2];(repeat' (first |refine qv ?_ |apply qn |refine qe ?_|fail));refine ⟨?_⟩;(repeat' (first |refine qv ?_ |refine Fl.nil (fun _ => by kernel_rfl) ?_ |apply qs |apply qr |refine qe ?_ |apply qt));exact RetOk.of rfl (AV.Le.refl _)
theorem chRest_ok (o : Option Int) (e x y : Int) (hx : Fit x) (hy : Fit y) (h : e = 0 → y ≠ 0) : IoFn Tryz.prog 81 [.ptr 900 0, aX x, aX y] [(900, chB o e)] (.ret (aX (cV e (x % y)))) [(900, chB o (cE e (x % y)))] := by
 have hk := keep_ok o e (x % y)
 cases o
 all_goals
  refine IoFn.of_body Tryz.func81 rfl Tryz.ntmps81 rfl rfl rfl ?_;refine AWP.seqS ?_;(repeat' (first |apply qn |apply qr |refine qe ?_|fail));refine ⟨AWP.seqS ?_⟩;(repeat' (first |refine qv ?_ |apply qn |apply qs |apply qr |refine qe ?_ |(refine AWP.condN rfl ?_ ?_ <;> intro _ <;> try (exfalso; omega)) |apply qk |apply qt))
  ·rename_i he;refine ⟨⟨[], _, _, Ent.refl _ _ _, rfl, AV.Le.agg (leX_zero (cV_err he)), rfl, ⟨⟨⟨_, rfl, BLe.cells (LeL.cons (AV.Le.int (cE_err he).symm) (LeL.refl _))⟩, rfl⟩, trivial⟩, rfl, rfl⟩⟩
  ·rename_i he;obtain ⟨f1, f2⟩ := div_fit hx hy (h he);rw [clip_fit f2, szErr_fit f2] at hk;refine ⟨AWP.seqS ?_⟩;(repeat' (first |refine qv ?_ |apply qr));refine qc (Div_ok x y hx hy (h he)) ?_;(repeat' (first |refine qv ?_ |apply qn |refine qe ?_|fail));refine ⟨?_⟩;(repeat' (first |refine qv ?_ |apply qs |apply qr));refine qi [] hk ?_;(repeat' (first |apply qn |refine qe ?_ |apply qt));exact ⟨⟨[], _, _, Ent.refl _ _ _, rfl, AV.Le.refl _, rfl, ⟨⟨⟨_, rfl, BLe.cells (LeL.refl _)⟩, rfl⟩, trivial⟩, rfl, rfl⟩⟩
end Go.Proofs.YtcaecieigoplbaaGreat
/- append(nil, ..) whose result is not written; a made slice without elements. -/
namespace Go.AL
section
variable {P : Program} {tab : Tab} {n : Nat} {s : St}
variable {ops : Array Oper} {draw : Dr} {o : Oper} {l : List Oper} {acc : List Eff} {K : Exit → St → Prop}
theorem OpJ.ap0C (ht : TabOk P tab) (hd : ∀ d, o.dst = some d → d < n) {x y : Operand} {t : TypeId} (hop : o.op = .call { callee := .builtin .append, args := ⟨[x, y]⟩, argTypes := ⟨[t, t]⟩ }) {e : TypeId} {i : TI} {sz' by' : Nat} {z : List Value} (hts : tab t = some ⟨.slice e, sz', by', z⟩) (hti : tab e = some i) (hsz : Nat.blt 0 i.size = true)
  (hx : opd s x = .v (.slice none 0 0)) {α : Type} (enc : α → List AV) {ys : List α} (hy : (opd s y).Le (.sl i.size enc ys)) (hyc : (opd s y).closed = true) (hone : ∀ y, allOne (enc y) = true) (hel : ∀ y, (enc y).length = i.size)
  (hby : ys.length * i.bytes ≤ 140737488355328) (hm : ys.length ≤ 9223372036854775807) :
  OpJ P n o s ⟨.sl i.size enc ys, [], [], [], []⟩ := by
 refine ⟨hd, fun C s' a w h β Q K hs hbs hal k hK => ?_⟩
 have same : ∀ z : Operand, (z = x ∨ z = y) → opd s' z = opd s z := by
  intro z hz
  cases z with
  | tmp t => exact hs t (by rw [hop]; simpa [Op.operands, Call.operands] using hz)
  | _ => rfl
 have hxr := opd_rep k x;rw [same x (.inl rfl), hx] at hxr;have hyr := opd_rep k y;rw [same y (.inr rfl)] at hyr;have hyr := hy _ _ _ (hyr.closed (β' := noB) _ _ hyc);simp only [Rep] at hxr;obtain ⟨inf, zv, h1, h2, h3, h4, h5⟩ := (ht e i hti).info;have hu := (ht _ _ hts).und;simp only at hu
 have hzs : zv.cells.size = inf.size := by rw [← Array.length_toList, h5, (ht e i hti).zs, h2]
 have ho := World.ownsRow_nil w 0 e inf.size;rw [← h2] at hyr;obtain ⟨v', w', news, r1, r2, r3, r4, r5⟩ := run_append_any (P := P) (ty := o.type) hu h1 h4 hzs (by rw [h2]; exact Nat.le_of_ble_eq_true hsz) ho k.evo.has hone hyr (by rw [h3, Nat.zero_add]; exact hby) (by omega);rw [← hxr] at r1;have hrun := append_exec (P := P) (o := o) hop r1;unfold Oper.wp;rw [hrun];simp only [Oper.upon];simp only [Nat.zero_add, List.nil_append] at r2;have hnb : (Value.slice none 0 0).ownBlock = none := rfl;rw [hnb] at r3 r4;have hev : Evo never w h w' h := evo_of k.evo.has r3.os r3.tape ⟨r3.output, run_drawn _ _ _ _ r1⟩ r3.size (fun j hj _ => r3.block j hj (by simp)) (fun g hg => hg.elim);rw [h2] at r2;have hlen : ∀ x ∈ ys, (enc x).length = i.size := fun x _ => hel x
 have key : ∃ h', h.le h' ∧ Has w' h' ∧ (∀ g, h' g ≠ none → h g ≠ none ∨ v'.ownBlock = some g) ∧ Rep h' noB (.sl i.size enc ys) v' := by
  rcases r2.2 with ⟨hv, hn⟩ | ⟨g, cap, cur, hv, _, hg, hnc, hmx, hcs, htake⟩
  ·have hx : ys = [] := List.eq_nil_of_length_eq_zero hn;subst hx;refine ⟨h, Hp.le.refl h, hev.has, fun g hg => .inl hg, ?_⟩;rw [hv];exact AV.Le.nil i.size enc h noB _ (by simp only [Rep])
  ·have hgb : v'.ownBlock = some g := by simp [hv, Value.ownBlock]
   have hgn : h g = none := by
    rcases r4 with r4 | r4
    ·rw [r4] at hgb; cases hgb
    ·rw [r4] at hgb; injection hgb with hgb; subst hgb; exact has_none k.evo.has (Nat.le_refl _)
   have hle : h.le (h.set g cur) := fun b cs hb' => by
    by_cases he : b = g
    ·subst he; rw [hgn] at hb'; cases hb'
    ·rw [Hp.set_ne _ _ _ _ he]; exact hb'
   refine ⟨h.set g cur, hle, fun b cs hb' => ?_, fun b hb' => ?_, ?_⟩
   ·by_cases he : b = g
    ·subst he; rw [Hp.set_same] at hb'; injection hb' with hb'; subst hb'; exact ⟨e, (0, 0), hg⟩
    ·rw [Hp.set_ne _ _ _ _ he] at hb'; exact hev.has b cs hb'
   ·by_cases he : b = g
    ·subst he; exact .inr hgb
    ·rw [Hp.set_ne _ _ _ _ he] at hb'; exact .inl hb'
   ·subst hv;simp only [Rep];refine ⟨some ⟨g, 0, none⟩, cap, rfl, hnc, hmx, fun j x hx => ?_⟩;obtain ⟨hr1, hr2⟩ := flat_at ys news j x hlen (r5.mono hle (Bt.le.refl _)) hx;refine ⟨⟨g, 0, none⟩, _, rfl, by rw [hr1.length]; exact hlen x (List.mem_of_getElem? hx), hr1, fun q u hu => ?_⟩
    have hadd : (⟨g, 0, none⟩ : Addr).add (j * i.size + q) = ⟨g, j * i.size + q, none⟩ := by unfold Addr.add; split <;> simp_all
    rw [hadd];refine ⟨rfl, cur, Hp.set_same _ _ _, ?_⟩;rw [List.getElem?_take] at hu;split at hu
    ·rw [List.getElem?_drop, ← htake, List.getElem?_take] at hu;split at hu
     ·simpa using hu
     ·cases hu
    ·cases hu
 obtain ⟨h', hle, hhas, hfr, hrep⟩ := key
 have hev' : Evo never w h w' h' := ⟨hev.os, hev.tape, hev.output, hev.size, hev.block, hle, fun g hg => by
  rcases hfr g hg with h1 | h1
  ·exact .inl h1
  ·rcases r4 with r4 | r4
   ·rw [r4] at h1; cases h1
   ·rw [r4] at h1; injection h1 with h1; subst h1; exact .inr (.inl (Nat.le_refl _)), hhas⟩
 exact hK _ _ h' β (Base.val (k.step hev') o.dst hd (hrep.mono (Hp.le.refl _) (noB_le β)) [])
theorem Fl.ap0C [f : Facts P tab] {x y : Operand} {t : TypeId} (hop : o.op = .call { callee := .builtin .append, args := ⟨[x, y]⟩, argTypes := ⟨[t, t]⟩ }) (hx : opd s x = .v (.slice none 0 0)) (hg : gOk ops s o = true) (hd : dOk n o.dst = true) {e : TypeId} {i : TI} {sz' by' : Nat} {z : List Value} (hts : tab t = some ⟨.slice e, sz', by', z⟩) (hti : tab e = some i) (hsz : Nat.blt 0 i.size = true)
  {α : Type} (enc : α → List AV) {ys : List α} (hyc : (opd s y).closed = true) (hone : ∀ y, allOne (enc y) = true) (hel : ∀ y, (enc y).length = i.size) (hy : (opd s y).Le (.sl i.size enc ys))
  (hby : ys.length * i.bytes ≤ 140737488355328) (hm : ys.length ≤ 9223372036854775807)
  (r : Fl P n ops draw l ((Eff.mk (.sl i.size enc ys) [] [] [] []).app o.dst s) (Eff.mk (.sl i.size enc ys) [] [] [] [] :: acc) K) : Fl P n ops draw (o :: l) s acc K :=
 Fl.opv hg (OpJ.ap0C f.tabOk (dOk_lt hd) hop hts hti hsz hx enc hy hyc hone hel hby hm) r
theorem OpJ.make0 (ht : TabOk P tab) {d : Tmp} (hdst : o.dst = some d) (hd : d < n) {t : TypeId} {x y : Operand} (hop : o.op = .makeSlice t x y) {e : TypeId} {i : TI} {sz' by' : Nat} {z : List Value} (hts : tab t = some ⟨.slice e, sz', by', z⟩) (hti : tab e = some i)
  {k k' : IntKind} {m' : Int} (hx : opd s x = .v (.int k 0)) (hy : opd s y = .v (.int k' m')) (h0 : 0 ≤ m') (hby : m' * i.bytes ≤ 281474976710656) (hm : m' ≤ 9223372036854775807) {α : Type} (enc : α → List AV) :
  OpJ P n o s ⟨.row d, [(d, .row i.size enc [] e)], [], [d], []⟩ := by
 refine ⟨fun t ht => (by rw [hdst] at ht; injection ht with ht; subst ht; exact hd), fun C s' a w h β Q K hs hb hal b hK => ?_⟩
 have same : ∀ z : Operand, (z = x ∨ z = y) → opd s' z = opd s z := by
  intro z hz
  cases z with
  | tmp t => exact hs t (by rw [hop]; simpa [Op.operands] using hz)
  | _ => rfl
 have hxr := opd_rep b x;have hyr := opd_rep b y;rw [same x (.inl rfl), hx] at hxr;rw [same y (.inr rfl), hy] at hyr;simp only [Rep] at hxr hyr;obtain ⟨inf, zv, h1, h2, h3, h4, h5⟩ := (ht e i hti).info;have hu := (ht _ _ hts).und;simp only at hu;obtain ⟨c, rfl⟩ := Int.eq_ofNat_of_zero_le h0
 have hzs : zv.cells.size = i.size := by rw [← Array.length_toList, h5, (ht e i hti).zs]
 have hmk := run_make (P := P) w t e inf zv hu h1 h4 k k' (0 : Int) (c : Int) (Int.le_refl _) h0 (by rw [h3, Int.mul_comm]; exact hby) hm;rw [Int.toNat_natCast, h2] at hmk
 have hrun : (execOp a.eval o).run P w = .ok (.value (.slice (some ⟨w.heap.size, 0, none⟩) 0 c)) (w.alloc (.cells (madeCells zv.cells (c * i.size)) e)) := by
  simp only [execOp, hop, hxr, hyr, Sem.run_bind, hmk, Result.andThen, Sem.run_pure];rfl
 unfold Oper.wp;rw [hrun];simp only [Oper.upon];refine hK _ _ h (β.set d (.slice (some ⟨w.heap.size, 0, none⟩) 0 c)) ?_;have k1 := b.step (evo_alloc b.evo.has (.cells (madeCells zv.cells (c * i.size)) e));rw [hdst];refine k1.addbox (hal d (by simp)) ?_ ?_ (some d) (fun t ht => by injection ht with ht; subst ht; exact hd) ?_ []
 ·refine ⟨_, [], Bt.set_same _ _ _, ⟨by simp, .inr ⟨w.heap.size, c, _, by simp, Nat.zero_le _, heap_alloc_new w _, by simp, by simp only [maxLen]; omega, size_madeCells _ _, by simp⟩⟩, ?_, ?_, ?_⟩
  ·exact RepL.nil
  ·intro x hx; cases hx
  ·intro g hg;simp [Value.ownBlock] at hg;subst hg;exact has_none b.evo.has (Nat.le_refl _)
 ·intro g hg;simp [blk] at hg;subst hg;refine ⟨fun id' B' hb' e => ?_, .inr b.evo.size⟩;have := (b.blk_lt hb' e).1;omega
 ·simp only [Rep]; exact ⟨Bt.set_same _ _ _, _, _, _, rfl⟩
theorem Fl.make0 [f : Facts P tab] {t : TypeId} {x y : Operand} (hop : o.op = .makeSlice t x y) (hg : gOk ops s o = true) {d : Tmp} (hdst : o.dst = some d) (hd : Nat.blt d n = true) {e : TypeId} {i : TI} {sz' by' : Nat} {z : List Value} (hts : tab t = some ⟨.slice e, sz', by', z⟩) (hti : tab e = some i)
  {k k' : IntKind} {m' : Int} (hx : opd s x = .v (.int k 0)) (hy : opd s y = .v (.int k' m')) (hn : s.al d = false) {α : Type} (enc : α → List AV) (h0 : 0 ≤ m') (hby : m' * i.bytes ≤ 281474976710656) (hm : m' ≤ 9223372036854775807)
  (r : Fl P n ops draw l ((Eff.mk (.row d) [(d, .row i.size enc [] e)] [] [d] []).app o.dst s) (Eff.mk (.row d) [(d, .row i.size enc [] e)] [] [d] [] :: acc) K) (hJ : presOk draw.J (Eff.mk (.row d) [(d, .row i.size enc [] e)] [] [d] []) := by repeat' (first | exact True.intro | exact rfl | refine ⟨?_, ?_⟩ | fail)) : Fl P n ops draw (o :: l) s acc K :=
 Fl.op hg (OpJ.make0 f.tabOk hdst (ltOf hd) hop hts hti hx hy h0 hby hm enc) (newOk1 hn) hJ r
end
end Go.AL
/- poly.times. -/
namespace Go.AL
def addE (a b : List Int) : List Int := List.zipWith (· + ·) a b
abbrev uM (t u : TZ) : UT := (zval t.c * zval u.c, addE t.e u.e)
def rowU (q : List TZ) (t : TZ) : List UT := q.map (uM t)
def timesU (p q : PZ) : List UT := p.terms.flatMap (rowU q.terms)
def DegOk (p q : PZ) : Prop := ∀ t u, p.terms[0]? = some t → q.terms[0]? = some u → sumL t.e + sumL u.e ≤ 120
def ProdOk (V : Nat) (p q : PZ) (r : PZ) : Prop := DegOk p q ∧ (∀ t ∈ p.terms, ∀ u ∈ q.terms, Fit (zval t.c * zval u.c)) ∧ SumOk V (timesU p q) r
theorem flatMap_take_succ {α β : Type} (f : α → List β) {l : List α} {i : Nat} {x : α} (h : l[i]? = some x) : (l.take (i + 1)).flatMap f = (l.take i).flatMap f ++ f x := by
 rw [take_snoc h]; simp
theorem addE_length {a b : List Int} (h : a.length = b.length) : (addE a b).length = a.length := by simp [addE, h]
theorem addE_get {a b : List Int} {k : Nat} {x y : Int} (ha : a[k]? = some x) (hb : b[k]? = some y) : (addE a b)[k]? = some (x + y) := by simp [addE, List.getElem?_zipWith, ha, hb]
theorem sumL_addE : ∀ {a b : List Int}, a.length = b.length → sumL (addE a b) = sumL a + sumL b
 | [], [], _ => rfl
 | [], _ :: _, h => by simp at h
 | _ :: _, [], h => by simp at h
 | x :: a, y :: b, h => by
  have := sumL_addE (a := a) (b := b) (by simpa using h);simp only [addE, List.zipWith_cons_cons, sumL] at this ⊢;omega
theorem EOk.addE {a b : List Int} (ha : EOk a) (hb : EOk b) (hl : a.length = b.length) (hs : sumL a + sumL b ≤ 120) : EOk (addE a b) := by
 intro e he
 have h0 : ∀ x ∈ AL.addE a b, 0 ≤ x := by
  intro x hx;obtain ⟨k, hk⟩ := List.mem_iff_getElem?.1 hx;simp only [AL.addE, List.getElem?_zipWith] at hk;split at hk
  ·rename_i x1 y1 h1 h2;injection hk with hk; subst hk;have := ha.get h1; have := hb.get h2; omega
  ·cases hk
 refine ⟨h0 e he, ?_⟩
 have h1 : ∀ (l : List Int), (∀ x ∈ l, 0 ≤ x) → ∀ x ∈ l, x ≤ sumL l := by
  intro l
  induction l with
  | nil => intro _ x hx; cases hx
  | cons y l ih =>
   intro hp x hx;have h2 := sumL_nonneg (l := l) fun z hz => hp z (by simp [hz]);simp only [sumL];rcases List.mem_cons.1 hx with rfl | hx
   ·omega
   ·have := ih (fun z hz => hp z (by simp [hz])) x hx;have := hp y (by simp); omega
 have := h1 _ h0 e he;rw [sumL_addE hl] at this; omega
theorem OkP.top {p : PZ} (hp : OkP p) {t0 : TZ} (h0 : p.terms[0]? = some t0) : ∀ (j : Nat) (t : TZ), p.terms[j]? = some t → sumL t.e ≤ sumL t0.e
 | 0, t, h => by rw [h0] at h; injection h with h; subst h; exact Int.le_refl _
 | j + 1, t, h => by
  have hj := (List.getElem?_eq_some_iff.1 h).1;have h1 : p.terms[j]? = some (p.terms[j]'(by omega)) := List.getElem?_eq_getElem _;have h2 := OkP.top hp h0 j _ h1;have h3 := hp.ord j _ _ h1 h;rw [ordI_lt] at h3;omega
theorem OkP.topm {p : PZ} (hp : OkP p) {t0 t : TZ} (h0 : p.terms[0]? = some t0) (h : t ∈ p.terms) : sumL t.e ≤ sumL t0.e := by
 obtain ⟨j, hj⟩ := List.mem_iff_getElem?.1 h;exact hp.top h0 j t hj
theorem timesU_ok {p q : PZ} {V : Nat} (hp : OkP p) (hq : OkP q) (hpv : p.vars = V) (hqv : q.vars = V) (hd : DegOk p q) {t u : TZ} (ht : t ∈ p.terms) (hu : u ∈ q.terms) : (addE t.e u.e).length = V ∧ EOk (addE t.e u.e) := by
 have h1 := hp.uok hpv ht;have h2 := hq.uok hqv hu
 have hl : t.e.length = u.e.length := by rw [h1.1, h2.1]
 refine ⟨by rw [addE_length hl, h1.1], h1.2.addE h2.2 hl ?_⟩
 obtain ⟨t0, ht0⟩ : ∃ t0, p.terms[0]? = some t0 := by
  cases h : p.terms with
  | nil => rw [h] at ht; cases ht
  | cons a l => exact ⟨a, rfl⟩
 obtain ⟨u0, hu0⟩ : ∃ u0, q.terms[0]? = some u0 := by
  cases h : q.terms with
  | nil => rw [h] at hu; cases hu
  | cons a l => exact ⟨a, rfl⟩
 have := hd t0 u0 ht0 hu0;have := hp.topm ht0 ht;have := hq.topm hu0 hu;omega
end Go.AL
namespace Go.Proofs.YtcaecieigoplbaaGreat
open Go.AL
abbrev smR (V : Int) (e : List Int) (xs : List ME) (c : Nat) : List (AL.Id × Bx) := [(900, .cells [aN V, .mp 901] 216), (901, bM xs c), (902, .row 1 eI e 3)]
theorem sAddR_io (V : Int) (xs : List ME) (clock : Nat) (c : Int) (e : List Int) (hc : Fit c) (hxs : ∀ p ∈ xs, Fit p.2.1) (he : e.length ≤ 32) (res : Res) (bx' : List (AL.Id × Bx))
  (hr1 : Fit (getM (expK e he) xs + c) → res = .ret (.tup []) ∧ bx' = smR V e (setM (expK e he) (getM (expK e he) xs + c) clock xs) (putC (expK e he) clock xs))
  (hr2 : ¬ Fit (getM (expK e he) xs + c) → res = .thr (thrown 4) ∧ bx' = smR V e xs clock) :
  IoFn Tryz.prog 220 [.ptr 900 0, aX c, .row 902] (smR V e xs clock) res bx' := by
 have hg : Fit (getM (expK e he) xs) := by
  unfold getM
  cases hf : findM (expK e he) xs 0 with
  | none => exact Fit.zero
  | some q => obtain ⟨j, p⟩ := q; exact hxs p (List.mem_of_getElem? (findM_get hf).2.1)
 have hle : match findM (expK e he) xs 0 with | some (_, p) => (aX p.2.1).Le (aX (getM (expK e he) xs)) | none => (AV.agg [aB false, .v (.slice none 0 0)]).Le (aX (getM (expK e he) xs)) := by
  unfold getM
  cases hf : findM (expK e he) xs 0 with
  | none => exact aX_zero
  | some q => exact AV.Le.refl _
 by_cases hfit : Fit (getM (expK e he) xs + c)
 ·obtain ⟨rfl, rfl⟩ := hr1 hfit;refine IoFn.of_body Tryz.func220 rfl Tryz.ntmps220 rfl rfl rfl ?_;refine AWP.seqS ?_;(repeat' (first |apply qn |apply qr |refine qe ?_|fail));refine ⟨?_⟩;refine AWP.seqS ?_;(repeat' (first |apply qn |apply qr |refine qe ?_|fail));refine ⟨?_⟩;refine AWP.seq ?_;refine AWP.arrCopyR rfl rfl rfl rfl rfl rfl rfl rfl rfl rfl rfl rfl rfl rfl rfl rfl rfl rfl rfl rfl rfl rfl rfl rfl (by intro h; cases h) (fun _ => rfl) (fun _ => rfl) (by omega) (expK_cells e he) ?_;refine AWP.seq ?_;(repeat' (first |refine qv ?_ |apply qr));refine Fl.lookup (v := aX (getM (expK e he) xs)) rfl rfl rfl rfl rfl rfl key_law (expK e he) (AV.Le.refl _) rfl ?_ (fun _ => rfl) rfl rfl ?_
  ·revert hle; generalize findM (expK e he) xs 0 = r; cases r <;> exact id
  (repeat' (first |refine qv ?_|fail));refine qc (xAdd_ret _ _ hg hc hfit) ?_;skip;refine Fl.mupd rfl rfl rfl rfl key_law (expK e he) (AV.Le.refl _) rfl (getM (expK e he) xs + c) (AV.Le.refl _) rfl rfl rfl ?_;(repeat' (first |refine qv ?_ |refine Fl.nil (fun _ => by kernel_rfl) ?_ |apply qs |apply qr));refine Fl.lookup (v := aX (getM (expK e he) xs + c)) rfl rfl rfl rfl rfl rfl key_law (expK e he) (AV.Le.refl _) rfl ?_ (fun _ => rfl) rfl rfl ?_
  ·obtain ⟨j, p, h1, h2⟩ := findM_put (expK e he) (getM (expK e he) xs + c) clock xs;rw [h1];exact AV.Le.of_eq (by rw [h2])
  skip;refine qc (ZeroX_ok _) ?_;(repeat' (first |refine qv ?_ |refine Fl.nil (fun _ => by kernel_rfl) ?_ |apply qr |(refine AWP.condD rfl ?_ ?_ <;> intro _ <;> try (exfalso; omega)) |apply qk))
  ·rename_i h0;refine Fl.mdel rfl rfl rfl rfl key_law (expK e he) (AV.Le.refl _) rfl rfl rfl ?_;(repeat' (first |refine Fl.nil (fun _ => by kernel_rfl) ?_|fail));refine ⟨⟨[], _, _, Ent.refl _ _ _, rfl, AV.Le.refl _, rfl, ⟨⟨⟨_, rfl, BLe.cells (LeL.refl _)⟩, rfl⟩, ⟨⟨_, rfl, BLe.map ?_ rfl⟩, rfl⟩, ⟨⟨_, rfl, BLe.row rfl⟩, rfl⟩, trivial⟩, rfl, rfl⟩⟩;unfold setM; rw [if_pos h0]
  ·rename_i h0;refine ⟨⟨[], _, _, Ent.refl _ _ _, rfl, AV.Le.refl _, rfl, ⟨⟨⟨_, rfl, BLe.cells (LeL.refl _)⟩, rfl⟩, ⟨⟨_, rfl, BLe.map ?_ rfl⟩, rfl⟩, ⟨⟨_, rfl, BLe.row rfl⟩, rfl⟩, trivial⟩, rfl, rfl⟩⟩;unfold setM; rw [if_neg h0]
 ·obtain ⟨rfl, rfl⟩ := hr2 hfit;refine IoFn.of_body Tryz.func220 rfl Tryz.ntmps220 rfl rfl rfl ?_;refine AWP.seqS ?_;(repeat' (first |apply qn |apply qr |refine qe ?_|fail));refine ⟨?_⟩;refine AWP.seqS ?_;(repeat' (first |apply qn |apply qr |refine qe ?_|fail));refine ⟨?_⟩;refine AWP.seq ?_;refine AWP.arrCopyR rfl rfl rfl rfl rfl rfl rfl rfl rfl rfl rfl rfl rfl rfl rfl rfl rfl rfl rfl rfl rfl rfl rfl rfl (by intro h; cases h) (fun _ => rfl) (fun _ => rfl) (by omega) (expK_cells e he) ?_;refine AWP.seq ?_;(repeat' (first |refine qv ?_ |apply qr));refine Fl.lookup (v := aX (getM (expK e he) xs)) rfl rfl rfl rfl rfl rfl key_law (expK e he) (AV.Le.refl _) rfl ?_ (fun _ => rfl) rfl rfl ?_
  ·revert hle; generalize findM (expK e he) xs 0 = r; cases r <;> exact id
  (repeat' (first |refine qv ?_|fail));exact Fl.thrC rfl [] (xAdd_thr _ _ hg hc hfit) rfl (LeL.refl _) rfl trivial rfl (fun _ => by kernel_rfl) (fun _ => rfl)
theorem sAddR_ret (V : Nat) (hV : V ≤ 32) (s : MS) (m : MOk V s.1 s.2) (u : UT) (hc : Fit u.1) (he : u.2.length = V) (hf : Fit (getM (exK u.2) s.1 + u.1)) :
  IoFn Tryz.prog 220 [.ptr 900 0, aX u.1, .row 902] (smR V u.2 s.1 s.2) (.ret (.tup [])) (smR V u.2 (stepM s u).1 (stepM s u).2) := by
 have h32 : u.2.length ≤ 32 := by omega
 rw [exK_eq h32] at hf;exact sAddR_io V s.1 s.2 u.1 u.2 hc m.fit h32 _ _ (fun _ => ⟨rfl, by simp only [stepM, exK_eq h32]⟩) (fun h => absurd hf h)
theorem sAddR_thr (V : Nat) (hV : V ≤ 32) (s : MS) (m : MOk V s.1 s.2) (u : UT) (hc : Fit u.1) (he : u.2.length = V) (hf : ¬ Fit (getM (exK u.2) s.1 + u.1)) :
  IoFn Tryz.prog 220 [.ptr 900 0, aX u.1, .row 902] (smR V u.2 s.1 s.2) (.thr (thrown 4)) (smR V u.2 s.1 s.2) := by
 have h32 : u.2.length ≤ 32 := by omega
 rw [exK_eq h32] at hf;exact sAddR_io V s.1 s.2 u.1 u.2 hc m.fit h32 _ _ (fun h => absurd h hf) (fun _ => ⟨rfl, rfl⟩)
end Go.Proofs.YtcaecieigoplbaaGreat
/- poly.times: the walk. -/
namespace Go.Proofs.YtcaecieigoplbaaGreat
open Go.AL

theorem set_mid {a b : List Int} {k : Nat} (v : Int) (m : Nat) (ha : a.length = k) (hb : k < b.length) (hm : m = k := by omega) : (a ++ b.drop k).set m v = a ++ ([v] ++ b.drop (k + 1)) := by
 subst hm;rw [List.set_append_right _ _ (by omega), ha, Nat.sub_self];congr 1;rw [List.drop_eq_getElem_cons hb];rfl
set_option maxHeartbeats 2000000 in
theorem times_io (V : Nat) (hV : V ≤ 32) (p q : PZ) (hwp : WP p) (hwq : WP q) (hp : OkP p) (hq : OkP q) (hpv : p.vars = V) (hqv : q.vars = V) (res : Res)
  (hr1 : ∀ r, ProdOk V p q r → res = .ret (aP r)) (hr2 : (¬ ∃ r, ProdOk V p q r) → res = .thr (thrown 4)) :
  IoFn Tryz.prog 187 [aP p, aP q] [] res [] := by
 have hfp : ∀ t ∈ p.terms, Fit (zval t.c) ∧ t.c = zOf (zval t.c) := fun t ht => by
  have := okZ_eq (hwp t ht) (hp.terms t ht).coef; exact ⟨this.2, this.1⟩
 have hfq : ∀ t ∈ q.terms, Fit (zval t.c) ∧ t.c = zOf (zval t.c) := fun t ht => by
  have := okZ_eq (hwq t ht) (hq.terms t ht).coef; exact ⟨this.2, this.1⟩
 have hplen := hp.len;have hqlen := hq.len;refine IoFn.of_body Tryz.func187 rfl Tryz.ntmps187 rfl rfl rfl ?_;refine AWP.seqS ?_;(repeat' (first |apply qn |apply qr |refine qe ?_|fail));refine ⟨?_⟩;refine AWP.seqS ?_;(repeat' (first |refine qv ?_ |apply qr));refine Fl.io rfl [(900, 710), (901, 711)] (empty_ok V) rfl rfl (LeL.cons (AV.Le.int hpv) LeL.nil) rfl trivial rfl rfl rfl rfl rfl ?_;(repeat' (first |refine qv ?_ |apply qn));refine ⟨?_⟩;refine AWP.seqS ?_;(repeat' (first |refine qv ?_ |apply qn |apply qr |refine Fl.make rfl rfl rfl rfl rfl rfl rfl rfl rfl rfl eI 0 (by exact LeL.refl _) (by rfl) (by first | omega | (dsimp only; omega)) (by first | omega | (dsimp only; omega)) (by first | omega | (dsimp only; omega)) ?_|fail));refine ⟨?_⟩;refine AWP.seqJ (G := Unit) (fun _ => DegOk p q) (fun _ => St.of [] [(2, .ptr 2 0), (3, .ptr 3 0), (4, .ptr 4 0), (5, .ptr 710 0), (6, .row 712)] [(2, .cells (eP p) 70), (3, .cells (eP q) 70), (4, .cells [aN 0, .v (.slice none 0 0)] 70), (710, .cells [aN V, .mp 711] 216), (711, bM [] 0), (712, .row 1 eI (List.replicate V 0) 3)]) ?_ ?_
 ·have hrep : List.replicate p.vars.toNat (0 : Int) = List.replicate V 0 := by rw [show p.vars.toNat = V by omega]
  (repeat' (first |refine qv ?_ |refine Fl.nil (fun _ => by kernel_rfl) ?_ |apply qs |apply qr |refine Fl.skip rfl rfl ?_ |refine AWP.condF rfl ?_ |apply qk |(refine Fl.el rfl rfl rfl rfl rfl rfl rfl rfl (by omega) (by omega) ?_; intro _ _) |(refine Fl.splitD rfl rfl ?_ ?_ <;> intro _ <;> try (exfalso; omega))))
  ·rename_i h1 h2 t ht;have ht : p.terms[0]? = some t := ht;have hot := hp.terms t (List.mem_of_getElem? ht);have hb1 := hot.deg;have hb2 := (sumL_bound hot.exps).1;have hb3 := hot.len;refine qc (degree_ok t hot.exps (by omega)) ?_;(repeat' (first |refine qv ?_ |(refine Fl.el rfl rfl rfl rfl rfl rfl rfl rfl (by omega) (by omega) ?_; intro _ _)|fail))
   all_goals
    rename_i u hu;have hu : q.terms[0]? = some u := hu;have hou := hq.terms u (List.mem_of_getElem? hu);have hc1 := hou.deg;have hc2 := (sumL_bound hou.exps).1;have hc3 := hou.len;refine qc (degree_ok u hou.exps (by omega)) ?_;(repeat' (first |refine qv ?_ |refine Fl.nil (fun _ => by kernel_rfl) ?_ |apply qr |refine qw ?_ |(refine AWP.condD rfl ?_ ?_ <;> intro _ <;> try (exfalso; omega)) |apply qk))
   ·rename_i hgt;have e1 := hr2 (by rintro ⟨r, hdd, _⟩; have := hdd t u ht hu; omega);subst e1;exact Fl.thrC rfl [] (Throw_ok 4) rfl (LeL.refl _) rfl trivial rfl (fun _ => by kernel_rfl) (fun _ => rfl)
   ·rename_i hgt;refine JoinOk.of () (fun t' u' h1' h2' => ?_) ?_
    ·rw [ht] at h1'; rw [hu] at h2'; injection h1' with h1'; injection h2' with h2'; subst h1' h2'; omega
    ·refine Ent.of [(712, 17)] ?_ ?_ rfl rfl;(repeat' (first |exact True.intro |refine ⟨⟨AV.Le.refl _, rfl⟩, ?_⟩ |refine ⟨⟨⟨_, rfl, BLe.cells (LeL.refl _)⟩, rfl⟩, ?_⟩ |refine ⟨⟨⟨_, rfl, BLe.map rfl rfl⟩, rfl⟩, ?_⟩ |refine ⟨⟨⟨_, rfl, BLe.row ?_⟩, rfl⟩, ?_⟩|fail));exact hrep
  ·rename_i h1 h2;refine JoinOk.of () (fun t' u' h1' h2' => ?_) ?_
   ·have := (List.getElem?_eq_some_iff.1 h2').1; omega
   ·refine Ent.of [(712, 17)] ?_ ?_ rfl rfl;(repeat' (first |exact True.intro |refine ⟨⟨AV.Le.refl _, rfl⟩, ?_⟩ |refine ⟨⟨⟨_, rfl, BLe.cells (LeL.refl _)⟩, rfl⟩, ?_⟩ |refine ⟨⟨⟨_, rfl, BLe.map rfl rfl⟩, rfl⟩, ?_⟩ |refine ⟨⟨⟨_, rfl, BLe.row ?_⟩, rfl⟩, ?_⟩|fail));exact hrep
  ·rename_i h1;refine JoinOk.of () (fun t' u' h1' h2' => ?_) ?_
   ·have := (List.getElem?_eq_some_iff.1 h1').1; omega
   ·refine Ent.of [(712, 17)] ?_ ?_ rfl rfl;(repeat' (first |exact True.intro |refine ⟨⟨AV.Le.refl _, rfl⟩, ?_⟩ |refine ⟨⟨⟨_, rfl, BLe.cells (LeL.refl _)⟩, rfl⟩, ?_⟩ |refine ⟨⟨⟨_, rfl, BLe.map rfl rfl⟩, rfl⟩, ?_⟩ |refine ⟨⟨⟨_, rfl, BLe.row ?_⟩, rfl⟩, ?_⟩|fail));exact hrep
 ·intro _ hd;(repeat' (first |refine qv ?_ |apply qn |apply qs |apply qr |apply qb))
  have hrowU : ∀ t ∈ p.terms, UOk V (rowU q.terms t) := fun t ht u hu => by
   obtain ⟨v, hv, rfl⟩ := List.mem_map.1 hu; exact timesU_ok hp hq hpv hqv hd ht hv
  have htU : ∀ i, UOk V ((p.terms.take i).flatMap (rowU q.terms)) := fun i u hu => by
   obtain ⟨t, ht, hu⟩ := List.mem_flatMap.1 hu;exact hrowU t (List.mem_of_mem_take ht) u hu
  refine AWP.loop (G := Nat × MS × List Int) (fun (i, s, ex) => i ≤ p.terms.length ∧ runM ((p.terms.take i).flatMap (rowU q.terms)) ([], 0) = some s ∧ ex.length = V ∧ ∀ j, j < i → ∀ t ∈ p.terms[j]?, ∀ u ∈ q.terms, Fit (zval t.c * zval u.c))
   (fun (i, s, ex) => St.of [] [(2, .ptr 2 0), (3, .ptr 3 0), (4, .ptr 4 0), (5, .ptr 710 0), (6, .row 712), (44, .sl 3 eT p.terms), (45, aN p.terms.length), (46, aN i)] [(2, .cells (eP p) 70), (3, .cells (eP q) 70), (4, .cells [aN 0, .v (.slice none 0 0)] 70), (710, .cells [aN V, .mp 711] 216), (711, bM s.1 s.2), (712, .row 1 eI ex 3)]) (fun (i, s, ex) => p.terms.length - i) (0, ([], 0), List.replicate V 0) ⟨by omega, by simp [runM], by simp, fun j hj => by omega⟩ ?_ ?_
  ·refine Ent.of [] ?_ ?_ rfl rfl;(repeat' (first |exact True.intro |refine ⟨⟨AV.Le.refl _, rfl⟩, ?_⟩ |refine ⟨⟨⟨_, rfl, BLe.cells (LeL.refl _)⟩, rfl⟩, ?_⟩ |refine ⟨⟨⟨_, rfl, BLe.row rfl⟩, rfl⟩, ?_⟩ |refine ⟨⟨⟨_, rfl, BLe.map rfl rfl⟩, rfl⟩, ?_⟩|fail))
  ·intro ⟨i, s, ex⟩ ⟨k0, k1, k2, k3⟩;by_cases hi : i < p.terms.length
   ·obtain ⟨t, ht⟩ : ∃ t, p.terms[i]? = some t := ⟨_, List.getElem?_eq_getElem hi⟩;have htm := List.mem_of_getElem? ht;have hot := hp.terms t htm;(repeat' (first |refine qv ?_ |apply qn |apply qs |apply qr |refine qe ?_ |(refine AWP.condD rfl ?_ ?_ <;> intro _ <;> try (exfalso; omega)) |apply qb |apply qk |refine qK ?_|fail));refine AWP.loop (G := Nat × MS × List Int) (fun (j, s', ex) => j ≤ q.terms.length ∧ runM ((rowU q.terms t).take j) s = some s' ∧ ex.length = V ∧ ∀ k, k < j → ∀ u ∈ q.terms[k]?, Fit (zval t.c * zval u.c))
     (fun (j, s', ex) => St.of [] [(2, .ptr 2 0), (3, .ptr 3 0), (4, .ptr 4 0), (5, .ptr 710 0), (6, .row 712), (44, .sl 3 eT p.terms), (45, aN p.terms.length), (46, aN i), (8, .ptr 8 0), (51, .sl 3 eT q.terms), (52, aN q.terms.length), (53, aN j)] [(2, .cells (eP p) 70), (3, .cells (eP q) 70), (4, .cells [aN 0, .v (.slice none 0 0)] 70), (710, .cells [aN V, .mp 711] 216), (711, bM s'.1 s'.2), (712, .row 1 eI ex 3), (8, .cells (eT t) 124)]) (fun (j, s', ex) => q.terms.length - j) (0, s, ex) ⟨by omega, by simp [runM], k2, fun j hj => by omega⟩ ?_ ?_
    ·refine Ent.of [] ?_ ?_ rfl rfl;(repeat' (first |exact True.intro |refine ⟨⟨AV.Le.refl _, rfl⟩, ?_⟩ |refine ⟨⟨⟨_, rfl, BLe.cells (LeL.refl _)⟩, rfl⟩, ?_⟩ |refine ⟨⟨⟨_, rfl, BLe.row rfl⟩, rfl⟩, ?_⟩ |refine ⟨⟨⟨_, rfl, BLe.map rfl rfl⟩, rfl⟩, ?_⟩|fail))
    ·intro ⟨j, s', ex'⟩ ⟨m0, m1, m2, m3⟩
     have hs1 : runM ((p.terms.take i).flatMap (rowU q.terms) ++ (rowU q.terms t).take j) ([], 0) = some s' := by rw [runM_append, k1]; exact m1
     have hmok := (runM_ok hV (MOk.nil V) (fun u hu => (List.mem_append.1 hu).elim (htU i u) (fun h => hrowU t htm u (List.mem_of_mem_take h))) hs1).1;by_cases hj : j < q.terms.length
     ·obtain ⟨u, hu⟩ : ∃ u, q.terms[j]? = some u := ⟨_, List.getElem?_eq_getElem hj⟩;have hum := List.mem_of_getElem? hu;have hou := hq.terms u hum;have htl := (hp.uok hpv htm).1;have hul := (hq.uok hqv hum).1
      have hadl : (addE t.e u.e).length = V := by rw [addE_length (by omega), htl]
      have hstop : ∀ b, timesU p q = (p.terms.take i).flatMap (rowU q.terms) ++ (rowU q.terms t).take j ++ uM t u :: ((rowU q.terms t).drop (j + 1) ++ b) → ¬ Fit (getM (exK (addE t.e u.e)) s'.1 + zval t.c * zval u.c) → ¬ ∃ r, ProdOk V p q r := by
       intro b he hf ⟨r, _, _, s2, h1, _⟩;rw [he, runM_stop hs1 hf] at h1
       cases h1
      have hsplit : timesU p q = (p.terms.take i).flatMap (rowU q.terms) ++ (rowU q.terms t).take j ++ uM t u :: ((rowU q.terms t).drop (j + 1) ++ (p.terms.drop (i + 1)).flatMap (rowU q.terms)) := by
       have e1 : p.terms = p.terms.take i ++ t :: p.terms.drop (i + 1) := by
        have := map_split id ht;simpa using this
       have e2 : rowU q.terms t = (rowU q.terms t).take j ++ uM t u :: (rowU q.terms t).drop (j + 1) := map_split (uM t) hu;unfold timesU
       conv => lhs; rw [e1, List.flatMap_append, List.flatMap_cons, e2]
       simp
      (repeat' (first |refine qv ?_ |apply qn |apply qs |apply qr |refine qe ?_ |(refine AWP.condD rfl ?_ ?_ <;> intro _ <;> try (exfalso; omega)) |apply qb |apply qk |refine qK ?_|fail));refine AWP.loop (G := Nat) (fun k => k ≤ V) (fun k => St.of [] [(2, .ptr 2 0), (3, .ptr 3 0), (4, .ptr 4 0), (5, .ptr 710 0), (6, .row 712), (44, .sl 3 eT p.terms), (45, aN p.terms.length), (46, aN i), (8, .ptr 8 0), (51, .sl 3 eT q.terms), (52, aN q.terms.length), (53, aN j), (10, .ptr 10 0), (58, aN V), (59, aN k)] [(2, .cells (eP p) 70), (3, .cells (eP q) 70), (4, .cells [aN 0, .v (.slice none 0 0)] 70), (710, .cells [aN V, .mp 711] 216), (711, bM s'.1 s'.2), (712, .row 1 eI ((addE t.e u.e).take k ++ ex'.drop k) 3), (8, .cells (eT t) 124), (10, .cells (eT u) 124)]) (fun k => V - k) 0 (by omega) ?_ ?_
      ·refine Ent.of [] ?_ ?_ rfl rfl;(repeat' (first |exact True.intro |refine ⟨⟨AV.Le.refl _, rfl⟩, ?_⟩ |refine ⟨⟨⟨_, rfl, BLe.cells (LeL.refl _)⟩, rfl⟩, ?_⟩ |refine ⟨⟨⟨_, rfl, BLe.row rfl⟩, rfl⟩, ?_⟩ |refine ⟨⟨⟨_, rfl, BLe.map rfl rfl⟩, rfl⟩, ?_⟩ |refine ⟨⟨AV.Le.int ?_, rfl⟩, ?_⟩|fail));omega
      ·intro k kk
       have hlk : ((addE t.e u.e).take k ++ ex'.drop k).length = V := by simp; omega
       by_cases hk : k < V
       ·obtain ⟨x, hx⟩ : ∃ x, t.e[k]? = some x := ⟨_, List.getElem?_eq_getElem (by omega)⟩;obtain ⟨y, hy⟩ : ∃ y, u.e[k]? = some y := ⟨_, List.getElem?_eq_getElem (by omega)⟩;have hx1 := hot.exps.get hx;have hy1 := hou.exps.get hy;(repeat' (first |refine qv ?_ |apply qn |refine Fl.nil (fun _ => by kernel_rfl) ?_ |apply qs |apply qr |refine qw ?_ |(refine AWP.condD rfl ?_ ?_ <;> intro _ <;> try (exfalso; omega)) |apply qb |apply qk |refine qK ?_ |refine Fl.rel rfl rfl rfl rfl rfl rfl rfl rfl (by omega) (by first | omega | (simp; omega)) ?_ |refine Fl.rst rfl rfl rfl rfl rfl rfl rfl rfl rfl rfl rfl (LeL.refl _) rfl (by first | omega | (simp; omega)) ?_|fail));refine LoopEnd.of (k + 1) (by omega) (by omega) ?_;refine Ent.of [] ?_ ?_ rfl rfl;(repeat' (first |exact True.intro |refine ⟨⟨AV.Le.refl _, rfl⟩, ?_⟩ |refine ⟨⟨⟨_, rfl, BLe.cells (LeL.refl _)⟩, rfl⟩, ?_⟩ |refine ⟨⟨⟨_, rfl, BLe.map rfl rfl⟩, rfl⟩, ?_⟩ |refine ⟨⟨⟨_, rfl, BLe.row ?_⟩, rfl⟩, ?_⟩|fail));have hg := addE_get hx hy;rw [take_snoc hg, List.append_assoc];exact set_mid _ _ (by rw [List.length_take]; omega) (by omega)
       ·have hrow : (addE t.e u.e).take k ++ ex'.drop k = addE t.e u.e := by
         rw [List.take_of_length_le (by omega), List.drop_of_length_le (by omega), List.append_nil]
        rw [hrow];clear hlk hrow;by_cases hmu : Fit (zval t.c * zval u.c)
        ·by_cases hf : Fit (getM (exK (addE t.e u.e)) s'.1 + zval t.c * zval u.c)
         ·(repeat' (first |refine qv ?_ |apply qn |apply qs |apply qr |(refine AWP.condD rfl ?_ ?_ <;> intro _ <;> try (exfalso; omega)) |apply qx));refine Fl.call rfl (xMul_ret _ _ (hfp t htm).1 (hfq u hum).1 hmu) rfl rfl rfl (LeL.cons (AV.Le.agg (leZ (σ := []) (hfp t htm).2)) (LeL.cons (AV.Le.agg (leZ (σ := []) (hfq u hum).2)) LeL.nil)) ?_;(repeat' (first |refine qv ?_|fail));refine Fl.io rfl [(900, 710), (901, 711), (902, 712)] (sAddR_ret V hV s' hmok (uM t u) hmu hadl hf) rfl rfl (LeL.refl _) rfl ⟨⟨⟨_, rfl, BLe.cells (LeL.refl _)⟩, rfl⟩, ⟨⟨_, rfl, BLe.map rfl rfl⟩, rfl⟩, ⟨⟨_, rfl, BLe.row rfl⟩, rfl⟩, trivial⟩ rfl rfl rfl rfl rfl ?_;(repeat' (first |refine qv ?_ |apply qn |apply qr |refine qw ?_|fail));refine LoopEnd.of (j + 1, stepM s' (uM t u), addE t.e u.e) ⟨by omega, by rw [show (rowU q.terms t).take (j + 1) = _ from take_map_snoc (uM t) hu]; exact runM_snoc m1 hf, hadl, fun k' hk' v hv => ?_⟩ (by simp only; omega) ?_
          ·rcases Nat.lt_succ_iff_lt_or_eq.1 hk' with h | h
           ·exact m3 k' h v hv
           ·subst h;rw [hu] at hv;injection hv with hv; subst hv; exact hmu
          ·refine Ent.of [] ?_ ?_ rfl rfl;(repeat' (first |exact True.intro |refine ⟨⟨AV.Le.refl _, rfl⟩, ?_⟩ |refine ⟨⟨⟨_, rfl, BLe.cells (LeL.refl _)⟩, rfl⟩, ?_⟩ |refine ⟨⟨⟨_, rfl, BLe.row rfl⟩, rfl⟩, ?_⟩ |refine ⟨⟨⟨_, rfl, BLe.map rfl rfl⟩, rfl⟩, ?_⟩|fail))
         ·have e1 := hr2 (hstop _ hsplit hf);subst e1;(repeat' (first |refine qv ?_ |apply qn |apply qs |apply qr |(refine AWP.condD rfl ?_ ?_ <;> intro _ <;> try (exfalso; omega)) |apply qx));refine Fl.call rfl (xMul_ret _ _ (hfp t htm).1 (hfq u hum).1 hmu) rfl rfl rfl (LeL.cons (AV.Le.agg (leZ (σ := []) (hfp t htm).2)) (LeL.cons (AV.Le.agg (leZ (σ := []) (hfq u hum).2)) LeL.nil)) ?_;(repeat' (first |refine qv ?_|fail));exact Fl.thrC rfl [(900, 710), (901, 711), (902, 712)] (sAddR_thr V hV s' hmok (uM t u) hmu hadl hf) rfl (LeL.refl _) rfl ⟨⟨⟨_, rfl, BLe.cells (LeL.refl _)⟩, rfl⟩, ⟨⟨_, rfl, BLe.map rfl rfl⟩, rfl⟩, ⟨⟨_, rfl, BLe.row rfl⟩, rfl⟩, trivial⟩ rfl (fun _ => by kernel_rfl) (fun _ => rfl)
        ·have e1 := hr2 (by rintro ⟨r, _, hall, _⟩; exact hmu (hall t htm u hum));subst e1;(repeat' (first |refine qv ?_ |apply qn |apply qs |apply qr |(refine AWP.condD rfl ?_ ?_ <;> intro _ <;> try (exfalso; omega)) |apply qx));exact Fl.thrC rfl [] (xMul_thr _ _ (hfp t htm).1 (hfq u hum).1 hmu) rfl (LeL.cons (AV.Le.agg (leZ (hfp t htm).2)) (LeL.cons (AV.Le.agg (leZ (hfq u hum).2)) LeL.nil)) rfl trivial rfl (fun h => by cases h) (fun _ => rfl)
     ·have hti : (rowU q.terms t).take j = rowU q.terms t := List.take_of_length_le (by simp [rowU]; omega);rw [hti] at m1;(repeat' (first |refine qv ?_ |apply qn |apply qs |apply qr |refine qw ?_ |(refine AWP.condD rfl ?_ ?_ <;> intro _ <;> try (exfalso; omega)) |apply qx));refine LoopEnd.of (i + 1, s', ex') ⟨by omega, by rw [flatMap_take_succ _ ht, runM_append, k1]; exact m1, m2, fun j' hj' t' ht' u hu => ?_⟩ (by simp only; omega) ?_
      ·rcases Nat.lt_succ_iff_lt_or_eq.1 hj' with h | h
       ·exact k3 j' h t' ht' u hu
       ·subst h;rw [ht] at ht';injection ht' with ht'; subst ht';obtain ⟨k, hk⟩ := List.mem_iff_getElem?.1 hu;exact m3 k (by have := (List.getElem?_eq_some_iff.1 hk).1; omega) u hk
      ·refine Ent.of [] ?_ ?_ rfl rfl;(repeat' (first |exact True.intro |refine ⟨⟨AV.Le.refl _, rfl⟩, ?_⟩ |refine ⟨⟨⟨_, rfl, BLe.cells (LeL.refl _)⟩, rfl⟩, ?_⟩ |refine ⟨⟨⟨_, rfl, BLe.row rfl⟩, rfl⟩, ?_⟩ |refine ⟨⟨⟨_, rfl, BLe.map rfl rfl⟩, rfl⟩, ?_⟩|fail))
   ·have hti : p.terms.take i = p.terms := List.take_of_length_le (by omega);rw [hti] at k1;have hall : runM (timesU p q) ([], 0) = some s := k1
    have hprods : ∀ t ∈ p.terms, ∀ u ∈ q.terms, Fit (zval t.c * zval u.c) := fun t ht u hu => by
     obtain ⟨j, hj⟩ := List.mem_iff_getElem?.1 ht;exact k3 j (by have := (List.getElem?_eq_some_iff.1 hj).1; omega) t hj u hu
    have hmok := runM_ok hV (MOk.nil V) (us := timesU p q) (fun u hu => by
     obtain ⟨t, ht, hu⟩ := List.mem_flatMap.1 hu
     exact hrowU t ht u hu) hall
    have hlu : (timesU p q).length ≤ 3000 * 3000 := by
     have : (timesU p q).length = p.terms.length * q.terms.length := by
      unfold timesU;generalize p.terms = l
      induction l with
      | nil => simp
      | cons a l ih => rw [List.flatMap_cons, List.length_append, ih, List.length_cons]; simp [rowU, Nat.succ_mul]; omega
     rw [this];exact Nat.mul_le_mul hplen hqlen
    have hln := hmok.2;simp only [List.length_nil] at hln;by_cases hok : OkP ⟨V, sortT (s.1.map (tmM V))⟩
    ·have e1 := hr1 _ ⟨hd, hprods, s, hall, rfl, hok⟩;subst e1;(repeat' (first |refine qv ?_ |apply qn |apply qs |apply qr |(refine AWP.condD rfl ?_ ?_ <;> intro _ <;> try (exfalso; omega)) |apply qx));refine Fl.io rfl [(900, 710), (901, 711)] (sPoly_io V s.1 s.2 hmok.1 hV (by omega) _ _ (fun _ => ⟨rfl, rfl⟩) (fun h => absurd hok h)) rfl rfl (LeL.refl _) rfl ⟨⟨⟨_, rfl, BLe.cells (LeL.refl _)⟩, rfl⟩, ⟨⟨_, rfl, BLe.map rfl rfl⟩, rfl⟩, trivial⟩ rfl rfl rfl rfl rfl ?_;(repeat' (first |apply qn |refine qe ?_ |apply qt));exact ⟨⟨[], _, _, Ent.refl _ _ _, rfl, AV.Le.refl _, rfl, trivial, rfl, rfl⟩⟩
    ·have e1 := hr2 (by
      rintro ⟨r, _, _, s2, h1, h2, h3⟩;rw [hall] at h1;injection h1 with h1;subst h1
      exact hok (h2 ▸ h3))
     subst e1;(repeat' (first |refine qv ?_ |apply qn |apply qs |apply qr |(refine AWP.condD rfl ?_ ?_ <;> intro _ <;> try (exfalso; omega)) |apply qx));exact Fl.thrC rfl [(900, 710), (901, 711)] (sPoly_io V s.1 s.2 hmok.1 hV (by omega) _ _ (fun h => absurd h hok) (fun _ => ⟨rfl, rfl⟩)) rfl (LeL.refl _) rfl ⟨⟨⟨_, rfl, BLe.cells (LeL.refl _)⟩, rfl⟩, ⟨⟨_, rfl, BLe.map rfl rfl⟩, rfl⟩, trivial⟩ rfl (fun _ => by kernel_rfl) (fun _ => rfl)
end Go.Proofs.YtcaecieigoplbaaGreat
/- poly.both, tried, Add, Mul. -/
namespace Go.AL
structure RetD1 (n : Nat) (I : List Id) (tab : Tab) (rs : List ResultVar) (r : AV) (s : St) : Prop where
  out : ∃ s' r', Ent n I s s' ∧ resA tab s' rs = some r' ∧ r'.closed = true ∧ r'.Le r
def RetD (n : Nat) (I : List Id) (tab : Tab) (rs : List ResultVar) (r : AV) : Exit → St → Prop
  | .normal, s => RetD1 n I tab rs r s
  | .ret, s => RetD1 n I tab rs r s
  | _, _ => False
theorem RetD1.of {n : Nat} {I : List Id} {tab : Tab} {rs : List ResultVar} {r r' : AV} {s : St} (h1 : resA tab s rs = some r') (h2 : r'.Le r) (hc : r'.closed = true := by rfl) : RetD1 n I tab rs r s := ⟨s, r', Ent.refl _ _ _, h1, hc, h2⟩
section
variable {P : Program} {tab : Tab} {n : Nat}
theorem IoFn.of_bodyD [f : Facts P tab] {k : FuncId} {fn : Func} {c : Code} {args : List AV} {bxs : List (Id × Bx)} {r : AV} (hf : P.funcs[k]? = some fn) (hb : fn.body = some c) (hn : fn.ntmps = n) (hname : (fn.name == "runtime.NumGoroutine") = false) (hl : Nat.ble args.length n = true)
  (h : AWP P n (idsB bxs) c (RetD n (idsB bxs) tab fn.results.toList r) (St.initB args bxs)) : IoFn P k args bxs (.ret r) [] := by
 have hl := Nat.le_of_ble_eq_true hl;refine ⟨⟨fn, hf, hname, by rw [hb]; rfl⟩, fun w hp β us hw hbx hβn hr => ?_⟩;refine calls_of_wp hf hb ?_
 have hus : us.size = args.length := by rw [← Array.length_toList]; exact hr.length
 have hbase : Base ⟨w, hp, β, blksOf bxs β, []⟩ n (St.initB args bxs) { tmps := us ++ Array.replicate (fn.ntmps - us.size) undef, defers := [] } w hp β := by
  refine ⟨Evo.refl _ hw, Bt.le.refl _, fun i => ?_, hbx.box, hbx.apart, fun id B g hB hg => .inl ⟨id, B, hB, hg⟩, fun id hid => hβn id (fun hm => by rw [← memI_mem] at hm; simp only [St.initB] at hid; rw [hm] at hid; cases hid), by simp; omega, rfl⟩;simp only [St.initB];by_cases hi : i < us.size
  ·have hget : (us ++ Array.replicate (fn.ntmps - us.size) undef).getD i undef = us[i] := by
    simp [Array.getD_eq_getD_getElem?, Array.getElem?_append, hi]
   rw [hget];exact initE_rep args us.toList i _ hr (by simp [hi])
  ·rw [initE_any args i (by omega)];simp only [Rep]
 have hini : IniOk ⟨w, hp, β, blksOf bxs β, []⟩ (idsB bxs) := fun id hid => by
  rcases Classical.em (id ∈ idsB bxs) with hm | hm
  ·exact hm
  ·exact absurd (hβn id hm) hid
 refine wp_mono (h.out ⟨w, hp, β, blksOf bxs β, []⟩ _ w hp β hini hbase) fun e a' w' ⟨s', h', β', b, q⟩ => ?_
 have fin : RetD1 n (idsB bxs) tab fn.results.toList r s' → a'.defers = [] ∧ ∃ v, (results fn a'.tmps).run P w' = .ok v w' ∧ ∃ h' β', β.le β' ∧ Evo (blksOf bxs β) w hp w' h' ∧ ∃ u, Ending.returned v = .returned u ∧ BoxesAt w' h' β' [] ∧ Rep h' β' r u ∧ ∀ id g, id ∉ idsB bxs → blk (β' id) = some g → w.heap.size ≤ g := by
  intro hq;obtain ⟨s2, r', hent, h1, hc, h2⟩ := hq.out;obtain ⟨h', β', b⟩ := hent _ _ _ _ _ hini b;obtain ⟨v, hv1, hv2⟩ := results_ok (P := P) b h1;refine ⟨b.defers, v, hv1, h', β, Bt.le.refl _, b.evo, v, rfl, ⟨fun id B hB => by simp [lookB] at hB, fun _ _ _ _ hB => by simp [lookB] at hB⟩, h2 _ _ _ (hv2.closed _ _ hc), fun id g hid hg => ?_⟩;rw [hβn id hid] at hg; simp [blk] at hg
 cases e with
 | normal => exact fin q
 | ret => exact fin q
 | _ => exact q.elim
end
end Go.AL
namespace Go.Proofs.YtcaecieigoplbaaGreat
open Go.AL

theorem aP_zero : (AV.agg [aN 0, .v (.slice none 0 0)]).Le (aP ⟨0, []⟩) := AV.Le.agg (LeL.cons (AV.Le.refl _) (LeL.cons (AV.Le.nil 3 eT) LeL.nil))
noncomputable def bothE (p q : PZ) : Int := @ite _ (OkP p ∧ OkP q) (Classical.propDecidable _) (if p.vars = q.vars then 0 else 2) 1
theorem bothE_bad {p q : PZ} (h : ¬ (OkP p ∧ OkP q)) : bothE p q = 1 := if_neg h
theorem bothE_ok {p q : PZ} (h1 : OkP p) (h2 : OkP q) : bothE p q = if p.vars = q.vars then 0 else 2 := if_pos ⟨h1, h2⟩
theorem both_ok (p q : PZ) (hwp : WP p) (hwq : WP q) : PureFn Tryz.prog 182 [aP p, aP q] (aN (bothE p q)) := by
 refine PureFn.of_body Tryz.func182 rfl Tryz.ntmps182 rfl rfl ?_;by_cases hp : OkP p
 ·by_cases hq : OkP q
  ·rw [bothE_ok hp hq];(repeat' (first |refine qv ?_ |apply qn |apply qs |apply qr |refine qe ?_|fail));refine qc (pValid_ok p hwp true (by simp [hp])) ?_;(repeat' (first |refine qv ?_|fail));refine qc (pValid_ok q hwq true (by simp [hq])) ?_;(repeat' (first |refine qv ?_ |apply qn |apply qs |apply qr |refine AWP.condF rfl ?_ |(refine AWP.condN rfl ?_ ?_ <;> intro _ <;> try (exfalso; omega)) |apply qk |apply qt))
   ·rename_i h; exact RetOk.of rfl (AV.Le.int (if_neg h).symm)
   ·rename_i h; exact RetOk.of rfl (AV.Le.int (if_pos h).symm)
  ·rw [bothE_bad (fun h => hq h.2)];(repeat' (first |refine qv ?_ |apply qn |apply qs |apply qr |refine qe ?_|fail));refine qc (pValid_ok p hwp true (by simp [hp])) ?_;(repeat' (first |refine qv ?_|fail));refine qc (pValid_ok q hwq false (by simp [hq])) ?_;(repeat' (first |refine qv ?_ |apply qn |apply qs |apply qr |refine AWP.condT rfl ?_ |apply qt));exact RetOk.of rfl (AV.Le.refl _)
 ·rw [bothE_bad (fun h => hp h.1)];(repeat' (first |refine qv ?_ |apply qn |apply qs |apply qr |refine qe ?_|fail));refine qc (pValid_ok p hwp false (by simp [hp])) ?_;(repeat' (first |refine qv ?_ |apply qn |apply qs |apply qr |refine Fl.skip rfl rfl ?_ |refine AWP.condT rfl ?_ |apply qt));exact RetOk.of rfl (AV.Le.refl _)
abbrev bPQ (p q : PZ) : List (AL.Id × Bx) := [(900, .cells (eP p) 70), (901, .cells (eP q) 70)]
abbrev bT (cf : FuncId) (p q : PZ) (o : List AV) : List (AL.Id × Bx) := [(902, .cells [.fn cf [.ptr 900 0, .ptr 901 0]] 71), (903, .cells o 70), (900, .cells (eP p) 70), (901, .cells (eP q) 70)]
theorem tried1_ret {cf : FuncId} {p q r : PZ} (h : IoFn Tryz.prog cf [.ptr 900 0, .ptr 901 0] (bPQ p q) (.ret (aP r)) (bPQ p q)) :
  IoFn Tryz.prog 218 [.ptr 902 0, .ptr 903 0] (bT cf p q [aN 0, .v (.slice none 0 0)]) (.ret (.tup [])) (bT cf p q (eP r)) := by
 refine IoFn.of_body Tryz.func218 rfl Tryz.ntmps218 rfl rfl rfl ?_;(repeat' (first |refine qv ?_ |apply qr));refine Fl.ioV rfl rfl [] h rfl rfl (LeL.refl _) rfl ⟨⟨⟨_, rfl, BLe.cells (LeL.refl _)⟩, rfl⟩, ⟨⟨_, rfl, BLe.cells (LeL.refl _)⟩, rfl⟩, trivial⟩ rfl rfl rfl rfl rfl ?_;(repeat' (first |apply qn |refine qe ?_|fail));exact ⟨⟨[], _, _, Ent.refl _ _ _, rfl, AV.Le.refl _, rfl, ⟨⟨⟨_, rfl, BLe.cells (LeL.refl _)⟩, rfl⟩, ⟨⟨_, rfl, BLe.cells (LeL.refl _)⟩, rfl⟩, ⟨⟨_, rfl, BLe.cells (LeL.refl _)⟩, rfl⟩, ⟨⟨_, rfl, BLe.cells (LeL.refl _)⟩, rfl⟩, trivial⟩, rfl, rfl⟩⟩
theorem tried1_thr {cf : FuncId} {p q : PZ} (h : IoFn Tryz.prog cf [.ptr 900 0, .ptr 901 0] (bPQ p q) (.thr (thrown 4)) (bPQ p q)) :
  IoFn Tryz.prog 218 [.ptr 902 0, .ptr 903 0] (bT cf p q [aN 0, .v (.slice none 0 0)]) (.thr (thrown 4)) (bT cf p q [aN 0, .v (.slice none 0 0)]) := by
 refine IoFn.of_body Tryz.func218 rfl Tryz.ntmps218 rfl rfl rfl ?_;(repeat' (first |refine qv ?_ |apply qr));exact Fl.thrV rfl rfl [] h rfl (LeL.refl _) rfl ⟨⟨⟨_, rfl, BLe.cells (LeL.refl _)⟩, rfl⟩, ⟨⟨_, rfl, BLe.cells (LeL.refl _)⟩, rfl⟩, trivial⟩ rfl (fun h => by cases h) (fun _ => rfl)
theorem tried_ret {cf : FuncId} {p q r : PZ} (h : IoFn Tryz.prog cf [.ptr 900 0, .ptr 901 0] (bPQ p q) (.ret (aP r)) (bPQ p q)) :
  IoFn Tryz.prog 183 [.fn cf [.ptr 900 0, .ptr 901 0]] (bPQ p q) (.ret (.tup [aP r, aN 0])) (bPQ p q) := by
 refine IoFn.of_body Tryz.func183 rfl Tryz.ntmps183 rfl rfl rfl ?_;(repeat' (first |refine qv ?_ |apply qn |apply qs |apply qr |refine qe ?_|fail));refine Fl.io rfl [(902, 1), (903, 4)] (Try_ret (tried1_ret h)) rfl rfl (LeL.refl _) rfl ⟨⟨⟨_, rfl, BLe.cells (LeL.refl _)⟩, rfl⟩, ⟨⟨_, rfl, BLe.cells (LeL.refl _)⟩, rfl⟩, ⟨⟨_, rfl, BLe.cells (LeL.refl _)⟩, rfl⟩, ⟨⟨_, rfl, BLe.cells (LeL.refl _)⟩, rfl⟩, trivial⟩ rfl rfl rfl rfl rfl ?_;(repeat' (first |refine qv ?_ |apply qn |apply qs |apply qr |refine qe ?_ |refine AWP.condF rfl ?_ |apply qk |apply qt));exact ⟨⟨[], _, _, Ent.refl _ _ _, rfl, AV.Le.refl _, rfl, ⟨⟨⟨_, rfl, BLe.cells (LeL.refl _)⟩, rfl⟩, ⟨⟨_, rfl, BLe.cells (LeL.refl _)⟩, rfl⟩, trivial⟩, rfl, rfl⟩⟩
theorem tried_thr {cf : FuncId} {p q : PZ} (h : IoFn Tryz.prog cf [.ptr 900 0, .ptr 901 0] (bPQ p q) (.thr (thrown 4)) (bPQ p q)) :
  IoFn Tryz.prog 183 [.fn cf [.ptr 900 0, .ptr 901 0]] (bPQ p q) (.ret (.tup [aP ⟨0, []⟩, aN 4])) [] := by
 refine IoFn.of_bodyD Tryz.func183 rfl Tryz.ntmps183 rfl rfl ?_;(repeat' (first |refine qv ?_ |apply qn |apply qs |apply qr |refine qe ?_|fail));refine Fl.io rfl [(902, 1), (903, 4)] (Try_thr (tried1_thr h)) rfl rfl (LeL.refl _) rfl ⟨⟨⟨_, rfl, BLe.cells (LeL.refl _)⟩, rfl⟩, ⟨⟨_, rfl, BLe.cells (LeL.refl _)⟩, rfl⟩, ⟨⟨_, rfl, BLe.cells (LeL.refl _)⟩, rfl⟩, ⟨⟨_, rfl, BLe.cells (LeL.refl _)⟩, rfl⟩, trivial⟩ rfl rfl rfl rfl rfl ?_;(repeat' (first |refine qv ?_ |apply qn |apply qs |apply qr |refine qe ?_ |refine AWP.condT rfl ?_ |apply qt));exact RetD1.of rfl (AV.Le.tup (LeL.cons aP_zero (LeL.refl _)))
theorem Mul1_io (V : Nat) (hV : V ≤ 32) (p q : PZ) (hwp : WP p) (hwq : WP q) (hp : OkP p) (hq : OkP q) (hpv : p.vars = V) (hqv : q.vars = V) (res : Res)
  (hr1 : ∀ r, ProdOk V p q r → res = .ret (aP r)) (hr2 : (¬ ∃ r, ProdOk V p q r) → res = .thr (thrown 4)) :
  IoFn Tryz.prog 186 [.ptr 900 0, .ptr 901 0] (bPQ p q) res (bPQ p q) := by
 have h := times_io V hV p q hwp hwq hp hq hpv hqv res hr1 hr2;refine IoFn.of_body Tryz.func186 rfl Tryz.ntmps186 rfl rfl rfl ?_;by_cases hg : ∃ r, ProdOk V p q r
 ·obtain ⟨r, hr⟩ := hg;have e1 := hr1 r hr;subst e1;(repeat' (first |refine qv ?_ |apply qn |apply qs |apply qr |refine qe ?_|fail));refine Fl.io rfl [] h rfl rfl (LeL.refl _) rfl trivial rfl rfl rfl rfl rfl ?_;(repeat' (first |apply qn |refine qe ?_ |apply qt));exact ⟨⟨[], _, _, Ent.refl _ _ _, rfl, AV.Le.refl _, rfl, ⟨⟨⟨_, rfl, BLe.cells (LeL.refl _)⟩, rfl⟩, ⟨⟨_, rfl, BLe.cells (LeL.refl _)⟩, rfl⟩, trivial⟩, rfl, rfl⟩⟩
 ·have e1 := hr2 hg;subst e1;(repeat' (first |refine qv ?_ |apply qn |apply qs |apply qr |refine qe ?_|fail));exact Fl.thrC rfl [] h rfl (LeL.refl _) rfl trivial rfl (fun h => by cases h) (fun _ => rfl)
theorem Add1_io (V : Nat) (hV : V ≤ 32) (p q : PZ) (hwp : WP p) (hwq : WP q) (hp : OkP p) (hq : OkP q) (hpv : p.vars = V) (hqv : q.vars = V) (res : Res)
  (hr1 : ∀ r, SumOk V (plusU 1 p q) r → res = .ret (aP r)) (hr2 : (¬ ∃ r, SumOk V (plusU 1 p q) r) → res = .thr (thrown 4)) :
  IoFn Tryz.prog 184 [.ptr 900 0, .ptr 901 0] (bPQ p q) res (bPQ p q) := by
 have h := plus_io V hV p q 1 fit_one hwp hwq hp hq hpv hqv (fun t ht => by rw [Int.mul_one]; exact (okZ_eq (hwq t ht) (hq.terms t ht).coef).2) res hr1 hr2;refine IoFn.of_body Tryz.func184 rfl Tryz.ntmps184 rfl rfl rfl ?_;by_cases hg : ∃ r, SumOk V (plusU 1 p q) r
 ·obtain ⟨r, hr⟩ := hg;have e1 := hr1 r hr;subst e1;(repeat' (first |refine qv ?_ |apply qn |apply qs |apply qr |refine qe ?_|fail));refine qc (Of_ok 1 (by omega) (by omega)) ?_;skip;refine Fl.io rfl [] h rfl rfl (LeL.refl _) rfl trivial rfl rfl rfl rfl rfl ?_;(repeat' (first |refine Fl.nil (fun _ => by kernel_rfl) ?_ |refine qe ?_ |apply qt));exact ⟨⟨[], _, _, Ent.refl _ _ _, rfl, AV.Le.refl _, rfl, ⟨⟨⟨_, rfl, BLe.cells (LeL.refl _)⟩, rfl⟩, ⟨⟨_, rfl, BLe.cells (LeL.refl _)⟩, rfl⟩, trivial⟩, rfl, rfl⟩⟩
 ·have e1 := hr2 hg;subst e1;(repeat' (first |refine qv ?_ |apply qn |apply qs |apply qr |refine qe ?_|fail));refine qc (Of_ok 1 (by omega) (by omega)) ?_;skip;exact Fl.thrC rfl [] h rfl (LeL.refl _) rfl trivial rfl (fun _ => by kernel_rfl) (fun _ => rfl)
theorem pMul_ok (V : Nat) (hV : V ≤ 32) (p q : PZ) (hwp : WP p) (hwq : WP q) (hp : OkP p) (hq : OkP q) (hpv : p.vars = V) (hqv : q.vars = V) (r : AV)
  (hr1 : ∀ x, ProdOk V p q x → r = .tup [aP x, aN 0]) (hr2 : (¬ ∃ x, ProdOk V p q x) → r = .tup [aP ⟨0, []⟩, aN 4]) :
  PureFn Tryz.prog 138 [aP p, aP q] r := by
 refine PureFn.of_body Tryz.func138 rfl Tryz.ntmps138 rfl rfl ?_;have hb := both_ok p q hwp hwq;rw [bothE_ok hp hq, if_pos (hpv.trans hqv.symm)] at hb;(repeat' (first |refine qv ?_ |apply qn |apply qs |apply qr |refine qe ?_|fail));refine qc (hb) ?_;(repeat' (first |refine qv ?_ |apply qn |apply qs |apply qr |refine AWP.condF rfl ?_ |apply qk));by_cases hg : ∃ x, ProdOk V p q x
 ·obtain ⟨x, hx⟩ := hg;rw [hr1 x hx]
  have hx' : ∀ y, ProdOk V p q y → (Res.ret (aP x)) = .ret (aP y) := fun y hy => by
   have := (hr1 x hx).symm.trans (hr1 y hy);injection this with this;injection this with this;rw [this]
  refine Fl.io rfl [(900, 2), (901, 3)] (tried_ret (Mul1_io V hV p q hwp hwq hp hq hpv hqv (.ret (aP x)) hx' (fun h => absurd ⟨x, hx⟩ h))) rfl rfl (LeL.refl _) rfl ⟨⟨⟨_, rfl, BLe.cells (LeL.refl _)⟩, rfl⟩, ⟨⟨_, rfl, BLe.cells (LeL.refl _)⟩, rfl⟩, trivial⟩ rfl rfl rfl rfl rfl ?_;(repeat' (first |refine qv ?_ |apply qn |refine qe ?_ |apply qt));exact RetOk.of rfl (AV.Le.refl _)
 ·rw [hr2 hg];refine Fl.io rfl [(900, 2), (901, 3)] (tried_thr (Mul1_io V hV p q hwp hwq hp hq hpv hqv _ (fun y hy => absurd ⟨y, hy⟩ hg) (fun _ => rfl))) rfl rfl (LeL.refl _) rfl ⟨⟨⟨_, rfl, BLe.cells (LeL.refl _)⟩, rfl⟩, ⟨⟨_, rfl, BLe.cells (LeL.refl _)⟩, rfl⟩, trivial⟩ rfl rfl rfl rfl rfl ?_;(repeat' (first |refine qv ?_ |apply qn |refine qe ?_ |apply qt));exact RetOk.of rfl (AV.Le.refl _)
theorem pAdd_ok (V : Nat) (hV : V ≤ 32) (p q : PZ) (hwp : WP p) (hwq : WP q) (hp : OkP p) (hq : OkP q) (hpv : p.vars = V) (hqv : q.vars = V) (r : AV)
  (hr1 : ∀ x, SumOk V (plusU 1 p q) x → r = .tup [aP x, aN 0]) (hr2 : (¬ ∃ x, SumOk V (plusU 1 p q) x) → r = .tup [aP ⟨0, []⟩, aN 4]) :
  PureFn Tryz.prog 137 [aP p, aP q] r := by
 refine PureFn.of_body Tryz.func137 rfl Tryz.ntmps137 rfl rfl ?_;have hb := both_ok p q hwp hwq;rw [bothE_ok hp hq, if_pos (hpv.trans hqv.symm)] at hb;(repeat' (first |refine qv ?_ |apply qn |apply qs |apply qr |refine qe ?_|fail));refine qc (hb) ?_;(repeat' (first |refine qv ?_ |apply qn |apply qs |apply qr |refine AWP.condF rfl ?_ |apply qk));by_cases hg : ∃ x, SumOk V (plusU 1 p q) x
 ·obtain ⟨x, hx⟩ := hg;rw [hr1 x hx]
  have hx' : ∀ y, SumOk V (plusU 1 p q) y → (Res.ret (aP x)) = .ret (aP y) := fun y hy => by
   have := (hr1 x hx).symm.trans (hr1 y hy);injection this with this;injection this with this;rw [this]
  refine Fl.io rfl [(900, 2), (901, 3)] (tried_ret (Add1_io V hV p q hwp hwq hp hq hpv hqv (.ret (aP x)) hx' (fun h => absurd ⟨x, hx⟩ h))) rfl rfl (LeL.refl _) rfl ⟨⟨⟨_, rfl, BLe.cells (LeL.refl _)⟩, rfl⟩, ⟨⟨_, rfl, BLe.cells (LeL.refl _)⟩, rfl⟩, trivial⟩ rfl rfl rfl rfl rfl ?_;(repeat' (first |refine qv ?_ |apply qn |refine qe ?_ |apply qt));exact RetOk.of rfl (AV.Le.refl _)
 ·rw [hr2 hg];refine Fl.io rfl [(900, 2), (901, 3)] (tried_thr (Add1_io V hV p q hwp hwq hp hq hpv hqv _ (fun y hy => absurd ⟨y, hy⟩ hg) (fun _ => rfl))) rfl rfl (LeL.refl _) rfl ⟨⟨⟨_, rfl, BLe.cells (LeL.refl _)⟩, rfl⟩, ⟨⟨_, rfl, BLe.cells (LeL.refl _)⟩, rfl⟩, trivial⟩ rfl rfl rfl rfl rfl ?_;(repeat' (first |refine qv ?_ |apply qn |refine qe ?_ |apply qt));exact RetOk.of rfl (AV.Le.refl _)
end Go.Proofs.YtcaecieigoplbaaGreat
/- The values of sums and products. -/
namespace Go.AL
theorem plop (v : Int) : plI v + opI v = v := by unfold plI opI; split <;> omega
theorem pv_sum (X : List Int) (p : PZ) : pv X p = sumL (p.terms.map (tv X)) := by
 unfold pv PS OS
 induction p.terms with
 | nil => rfl
 | cons t l ih =>
  have := plop (tv X t);simp only [List.map_cons, sumL] at ih ⊢; omega
theorem sumL_perm {l m : List Int} (h : l.Perm m) : sumL l = sumL m := by
 induction h with
 | nil => rfl
 | cons x _ ih => simp only [sumL, ih]
 | swap x y l => simp only [sumL]; omega
 | trans _ _ h1 h2 => exact h1.trans h2
def mv (X : List Int) (V : Nat) (xs : List ME) : Int := sumL (xs.map fun p => p.2.1 * prodE X (p.1.1.take V))
def uv (X : List Int) (us : List UT) : Int := sumL (us.map fun u => u.1 * prodE X u.2)
theorem uv_append (X : List Int) (a b : List UT) : uv X (a ++ b) = uv X a + uv X b := by simp [uv, sumL_append]
theorem mv_append (X : List Int) (V : Nat) (a b : List ME) : mv X V (a ++ b) = mv X V a + mv X V b := by simp [mv, sumL_append]
theorem mv_cons (X : List Int) (V : Nat) (p : ME) (b : List ME) : mv X V (p :: b) = p.2.1 * prodE X (p.1.1.take V) + mv X V b := rfl
theorem exK_take {e : List Int} {V : Nat} (h : e.length = V) (hV : V ≤ 32) : (exK e).1.take V = e := by
 rw [exK_eq (by omega)];show (e ++ List.replicate (32 - e.length) 0).take V = e;rw [← h]; simp
theorem mv_step (X : List Int) {V : Nat} (hV : V ≤ 32) (s : MS) (u : UT) (hl : u.2.length = V) : mv X V (stepM s u).1 = mv X V s.1 + u.1 * prodE X u.2 := by
 obtain ⟨xs, c⟩ := s;obtain ⟨a, e⟩ := u;show mv X V (setM (exK e) (getM (exK e) xs + a) c xs) = mv X V xs + a * prodE X e;simp only at hl;have hk : (exK e).1.take V = e := exK_take hl hV;rcases setM_cases (exK e) (getM (exK e) xs + a) c xs with ⟨h1, h2, h3⟩ | ⟨A, p, B, h1, h2, h3, h4, h5, h6⟩
 ·have hg : getM (exK e) xs = 0 := by unfold getM; rw [h1]
  rcases h3 with ⟨hy, h3⟩ | ⟨hy, h3⟩
  ·rw [h3]
   have : a = 0 := by omega
   subst this; simp
  ·rw [h3, mv_append, mv_cons, hg];show mv X V xs + ((0 + a) * prodE X ((exK e).1.take V) + 0) = _;rw [hk]; simp
 ·have hg : getM (exK e) xs = p.2.1 := by unfold getM; rw [h1]
  have hpk : p.1.1.take V = e := by rw [h3]; exact hk
  rcases h6 with ⟨hy, h6⟩ | ⟨hy, h6⟩
  ·rw [h6, h2, mv_append, mv_append, mv_cons, hpk]
   have : a = - p.2.1 := by omega
   show mv X V A + mv X V B = mv X V A + (p.2.1 * prodE X e + mv X V B) + a * prodE X e;rw [this, Int.neg_mul]; omega
  ·rw [h6, mv_append, mv_cons, hg]
   conv => rhs; rw [h2, mv_append, mv_cons, hpk]
   show mv X V A + ((p.2.1 + a) * prodE X ((exK e).1.take V) + mv X V B) = mv X V A + (p.2.1 * prodE X e + mv X V B) + a * prodE X e;rw [hk, Int.add_mul]; omega
theorem mv_run (X : List Int) {V : Nat} (hV : V ≤ 32) : ∀ {us : List UT} {s s' : MS}, UOk V us → runM us s = some s' → mv X V s'.1 = mv X V s.1 + uv X us
 | [], s, s', _, h => by
  simp only [runM] at h; injection h with h; subst h; simp [uv, sumL]
 | u :: us, s, s', hu, h => by
  unfold runM at h;split at h
  ·have := mv_run X hV (us := us) (fun v hv => hu v (by simp [hv])) h;rw [this, mv_step X hV s u (hu u (by simp)).1];show _ = mv X V s.1 + (u.1 * prodE X u.2 + uv X us);omega
  ·cases h
theorem tv_tmM (X : List Int) (V : Nat) (p : ME) : tv X (tmM V p) = p.2.1 * prodE X (p.1.1.take V) := by
 show zval (zOf p.2.1) * _ = _;rw [zval_zOf]; rfl
theorem SumOk.val {V : Nat} (hV : V ≤ 32) {us : List UT} {r : PZ} (h : SumOk V us r) (hu : UOk V us) (X : List Int) : pv X r = uv X us := by
 obtain ⟨s, h1, h2, h3⟩ := h;have := mv_run X hV hu h1;subst h2;rw [pv_sum];show sumL ((sortT (s.1.map (tmM V))).map (tv X)) = _;rw [sumL_perm ((sortT_perm _).map _), List.map_map];show sumL (s.1.map (fun p => tv X (tmM V p))) = _;rw [show (fun p => tv X (tmM V p)) = (fun (p : ME) => p.2.1 * prodE X (p.1.1.take V)) from funext (tv_tmM X V)];show mv X V s.1 = _;rw [this];simp [mv, sumL]
theorem prodE_add : ∀ {X a b : List Int}, EOk a → EOk b → a.length = b.length → prodE X (addE a b) = prodE X a * prodE X b
 | _, [], [], _, _, _ => by simp [addE, prodE]
 | _, [], _ :: _, _, _, h => by simp at h
 | _, _ :: _, [], _, _, h => by simp at h
 | [], x :: a, y :: b, _, _, _ => by simp [addE, prodE]
 | z :: X, x :: a, y :: b, ha, hb, h => by
  have hx := ha x (by simp);have hy := hb y (by simp);have := prodE_add (X := X) (a := a) (b := b) (fun e he => ha e (by simp [he])) (fun e he => hb e (by simp [he])) (by simpa using h);show z ^ (x + y).toNat * prodE X (addE a b) = z ^ x.toNat * prodE X a * (z ^ y.toNat * prodE X b);rw [this, show (x + y).toNat = x.toNat + y.toNat by omega, Int.pow_add];simp only [Int.mul_assoc, Int.mul_left_comm]
theorem SumOk.okp {V : Nat} {us : List UT} {r : PZ} (h : SumOk V us r) : OkP r ∧ r.vars = V ∧ WP r := by
 obtain ⟨s, h1, h2, h3⟩ := h;refine ⟨h3, by rw [h2], fun t ht => ?_⟩;rw [h2] at ht;obtain ⟨p, _, rfl⟩ := List.mem_map.1 ((sortT_perm _).mem_iff.1 ht);exact toW_ok _
end Go.AL
/- system.spread. -/
namespace Go.AL
def incK : Int → Int → List Int → Prop
  | _, _, [] => True
  | lo, hi, v :: vs => lo ≤ v ∧ v < hi ∧ incK (v + 1) hi vs
theorem incK.mono {lo lo' hi : Int} (h : lo' ≤ lo) : ∀ {vs : List Int}, incK lo hi vs → incK lo' hi vs
 | [], _ => trivial
 | _ :: _, ⟨h1, h2, h3⟩ => ⟨by omega, h2, h3⟩
theorem incK.up {k hi v : Int} {vs : List Int} (h : incK k hi (v :: vs)) (hv : ¬ v = k) : incK (k + 1) hi (v :: vs) := ⟨by have := h.1; omega, h.2.1, h.2.2⟩
theorem incK.tail {k hi v : Int} {vs : List Int} (h : incK k hi (v :: vs)) (hv : v = k) : incK (k + 1) hi vs := by have := h.2.2; rwa [hv] at this
end Go.AL
/- system.spread: the walk; what it returns is valid. -/
namespace Go.AL
end Go.AL
namespace Go.Proofs.YtcaecieigoplbaaGreat
open Go.AL

end Go.Proofs.YtcaecieigoplbaaGreat
/- system.One. -/
namespace Go.AL
theorem SumOk.uniq {V : Nat} {us : List UT} {x y : PZ} (h1 : SumOk V us x) (h2 : SumOk V us y) : x = y := by
 obtain ⟨s, a1, a2, _⟩ := h1;obtain ⟨t, b1, b2, _⟩ := h2;rw [a1] at b1; injection b1 with b1; subst b1;rw [a2, b2]
end Go.AL
namespace Go.Proofs.YtcaecieigoplbaaGreat
open Go.AL

end Go.Proofs.YtcaecieigoplbaaGreat
/- Polynomials with few small numbers: sums by inspection. -/
namespace Go.AL
abbrev tz (u : UT) : TZ := ⟨zOf u.1, u.2⟩
def mkP (V : Nat) (l : List UT) : PZ := ⟨V, l.map tz⟩
def cfU : List UT → List Int → Int
  | [], _ => 0
  | u :: us, e => (if u.2 = e then u.1 else 0) + cfU us e
def absU : List UT → Nat
  | [] => 0
  | u :: us => u.1.natAbs + absU us
theorem cfU_append : ∀ (a b : List UT) (e : List Int), cfU (a ++ b) e = cfU a e + cfU b e
 | [], b, e => by simp [cfU]
 | u :: a, b, e => by simp only [List.cons_append, cfU, cfU_append a b e]; omega
theorem cfU_abs : ∀ (us : List UT) (e : List Int), (cfU us e).natAbs ≤ absU us
 | [], _ => by simp [cfU, absU]
 | u :: us, e => by
  have := cfU_abs us e;simp only [cfU, absU];split <;> omega
theorem getM_of {k : Key} {A B : List ME} {p : ME} (hk : p.1 = k) (hA : ∀ q ∈ A, q.1 ≠ k) : getM k (A ++ p :: B) = p.2.1 := by
 unfold getM; rw [findM_hit hk 0 hA]
theorem getM_miss {k : Key} {xs : List ME} (h : ∀ q ∈ xs, q.1 ≠ k) : getM k xs = 0 := by
 unfold getM; rw [findM_miss 0 h]
def getR (k : Key) : List ME → Int
  | [] => 0
  | p :: xs => if k = p.1 then p.2.1 else getR k xs
theorem getM_R (k : Key) (xs : List ME) : getM k xs = getR k xs := by
 have : ∀ (xs : List ME) (i : Nat), (match findM k xs i with | some (_, p) => p.2.1 | none => (0 : Int)) = getR k xs := by
  intro xs
  induction xs with
  | nil => intro i; rfl
  | cons p xs ih =>
   intro i;unfold findM getR;by_cases h : k = p.1
   ·rw [if_pos h, if_pos h]
   ·rw [if_neg h, if_neg h]; exact ih (i + 1)
 exact this xs 0
theorem getM_step (s : MS) (u : UT) (V : Nat) (m : MOk V s.1 s.2) (k : Key) : getM k (stepM s u).1 = if k = exK u.2 then getM (exK u.2) s.1 + u.1 else getM k s.1 := by
 obtain ⟨xs, c⟩ := s;obtain ⟨a, e⟩ := u;show getM k (setM (exK e) (getM (exK e) xs + a) c xs) = _
 have other : ∀ (A B : List ME) (p q : ME), p.1 = exK e → q.1 = exK e → k ≠ exK e → getM k (A ++ p :: B) = getM k (A ++ q :: B) ∧ getM k (A ++ p :: B) = getM k (A ++ B) := by
  intro A B p q hp hq hk
  have f : ∀ (A : List ME) (r : ME), r.1 = exK e → getR k (A ++ r :: B) = getR k (A ++ B) := by
   intro A
   induction A with
   | nil => intro r hr; simp only [List.nil_append, getR]; rw [if_neg (by rw [hr]; exact hk)]
   | cons b A ih => intro r hr; simp only [List.cons_append, getR]; rw [ih r hr]
  simp only [getM_R];exact ⟨(f A p hp).trans (f A q hq).symm, f A p hp⟩
 rcases setM_cases (exK e) (getM (exK e) xs + a) c xs with ⟨h1, h2, h3⟩ | ⟨A, p, B, h1, h2, h3, h4, h5, h6⟩
 ·have hg : getM (exK e) xs = 0 := by unfold getM; rw [h1]
  have hno := findM_none h1;rcases h3 with ⟨hy, h3⟩ | ⟨hy, h3⟩
  ·rw [h3];split
   ·rename_i hk; rw [hk]; show getM (exK e) xs = getM (exK e) xs + a; omega
   ·rfl
  ·rw [h3];split
   ·rename_i hk; rw [hk]; exact getM_of (k := exK e) (A := xs) (B := []) (p := (exK e, getM (exK e) xs + a, c)) rfl hno
   ·rename_i hk;have := (other xs [] (exK e, getM (exK e) xs + a, c) (exK e, 0, 0) rfl rfl hk).2;rw [List.append_nil] at this;exact this
 ·have hg : getM (exK e) xs = p.2.1 := by rw [h2]; exact getM_of h3 h4
  have hB : ∀ q ∈ B, q.1 ≠ exK e := by
   have hk := m.keys;simp only at hk;rw [h2, List.pairwise_append, List.pairwise_cons] at hk;intro q hq e';exact hk.2.1.1 q hq (by rw [h3, e'])
  rcases h6 with ⟨hy, h6⟩ | ⟨hy, h6⟩
  ·rw [h6];split
   ·rename_i hk;rw [hk, getM_miss (fun q hq => (List.mem_append.1 hq).elim (h4 q) (hB q))];show (0 : Int) = getM (exK e) xs + a;omega
   ·rename_i hk;rw [h2];exact (other A B p p h3 h3 hk).2.symm
  ·rw [h6];split
   ·rename_i hk;rw [hk]; exact getM_of (k := exK e) (A := A) (B := B) (p := (exK e, getM (exK e) xs + a, p.2.2)) rfl h4
   ·rename_i hk;rw [h2];exact (other A B (exK e, getM (exK e) (A ++ p :: B) + a, p.2.2) p rfl h3 hk).1
theorem exK_inj {V : Nat} {a b : List Int} (ha : a.length = V) (hb : b.length = V) (hV : V ≤ 32) (h : exK a = exK b) : a = b := by
 rw [exK_eq (by omega), exK_eq (by omega)] at h;exact expK_inj (by omega) h
theorem runM_cf {V : Nat} (hV : V ≤ 32) : ∀ (us : List UT) (s : MS) (pre : List UT), MOk V s.1 s.2 → UOk V us → (∀ e : List Int, e.length = V → getM (exK e) s.1 = cfU pre e) → absU pre + absU us < 4294967296 →
  ∃ s', runM us s = some s' ∧ MOk V s'.1 s'.2 ∧ ∀ e : List Int, e.length = V → getM (exK e) s'.1 = cfU (pre ++ us) e
 | [], s, pre, m, _, hg, _ => ⟨s, rfl, m, by simpa using hg⟩
 | u :: us, s, pre, m, hu, hg, hab => by
  obtain ⟨hl, he⟩ := hu u (by simp);have hab' : absU pre + (u.1.natAbs + absU us) < 4294967296 := hab
  have hap : ∀ (a b : List UT), absU (a ++ b) = absU a + absU b := by
   intro a b
   induction a with
   | nil => simp [absU]
   | cons x a ih => simp only [List.cons_append, absU, ih]; omega
  have hf : Fit (getM (exK u.2) s.1 + u.1) := by
   rw [hg _ hl];have := cfU_abs pre u.2;exact fit_small (by omega) (by omega)
  have ms : MOk V (stepM s u).1 (stepM s u).2 := m.step hV hl he hf
  obtain ⟨s', h1, h2, h3⟩ := runM_cf hV us (stepM s u) (pre ++ [u]) ms (fun v hv => hu v (by simp [hv])) (fun e hel => by
   rw [getM_step s u V m, cfU_append];split
   ·rename_i hk;have := exK_inj hel hl hV hk;subst this;rw [hg _ hel]; simp [cfU]
   ·rename_i hk;have hne : ¬ u.2 = e := fun h => hk (by rw [h])
    rw [hg _ hel]; simp [cfU, hne]) (by rw [hap]; simp only [absU]; omega)
  refine ⟨s', ?_, h2, ?_⟩
  ·unfold runM; rw [if_pos hf]; exact h1
  ·simpa [List.append_assoc] using h3
end Go.AL
/- Sums by inspection: the lists that are asked for. -/
namespace Go.AL
theorem sorted_ext : ∀ {a b : List TZ}, a.Pairwise (fun x y => ordI x.e y.e < 0) → b.Pairwise (fun x y => ordI x.e y.e < 0) → (∀ t, t ∈ a ↔ t ∈ b) → a = b
 | [], [], _, _, _ => rfl
 | [], y :: b, _, _, h => by have := (h y).2 (by simp); cases this
 | x :: a, [], _, _, h => by have := (h x).1 (by simp); cases this
 | x :: a, y :: b, ha, hb, h => by
  rw [List.pairwise_cons] at ha hb
  have irr : ∀ t : TZ, ¬ ordI t.e t.e < 0 := fun t k => by rw [ordI_refl] at k; omega
  have hxy : x = y := by
   rcases List.mem_cons.1 ((h x).1 (by simp)) with h1 | h1
   ·exact h1
   ·rcases List.mem_cons.1 ((h y).2 (by simp)) with h2 | h2
    ·exact h2.symm
    ·exact absurd (ordI_trans (hb.1 x h1) (ha.1 y h2)) (irr y)
  subst hxy;rw [sorted_ext ha.2 hb.2 fun t => ?_];constructor
  ·intro ht;rcases List.mem_cons.1 ((h t).1 (by simp [ht])) with h1 | h1
   ·subst h1; exact absurd (ha.1 t ht) (irr t)
   ·exact h1
  ·intro ht;rcases List.mem_cons.1 ((h t).2 (by simp [ht])) with h1 | h1
   ·subst h1; exact absurd (hb.1 t ht) (irr t)
   ·exact h1
def sortedU : List UT → Bool
  | [] => true
  | u :: l => l.all (fun v => decide (ordI u.2 v.2 < 0)) && sortedU l
theorem sortedU_pw : ∀ {l : List UT}, sortedU l = true → l.Pairwise fun u v => ordI u.2 v.2 < 0
 | [], _ => List.Pairwise.nil
 | u :: l, h => by
  simp only [sortedU, Bool.and_eq_true, List.all_eq_true, decide_eq_true_eq] at h;exact List.pairwise_cons.2 ⟨h.1, sortedU_pw h.2⟩
def okU (V : Nat) (u : UT) : Bool := Nat.beq u.2.length V && u.2.all fun x => decide (0 ≤ x) && decide (x ≤ 120)
def chkU (V : Nat) (us l : List UT) : Bool :=
  us.all (okU V) && l.all (fun u => okU V u && decide (u.1 ≠ 0) && decide (sumL u.2 ≤ 120)) && sortedU l && decide (l.length ≤ 3000) && decide (absU us < 4294967296) && decide (absU l < 4294967296) && us.all (fun u => decide (cfU us u.2 = cfU l u.2)) && l.all (fun u => decide (cfU us u.2 = cfU l u.2))
theorem okU_ok {V : Nat} {u : UT} (h : okU V u = true) : u.2.length = V ∧ EOk u.2 := by
 simp only [okU, Bool.and_eq_true, List.all_eq_true, decide_eq_true_eq] at h;exact ⟨Nat.eq_of_beq_eq_true h.1, fun e he => h.2 e he⟩
theorem cfU_zero : ∀ {us : List UT} {e : List Int}, (∀ u ∈ us, u.2 ≠ e) → cfU us e = 0
 | [], _, _ => rfl
 | u :: us, e, h => by
  simp only [cfU, if_neg (h u (by simp)), cfU_zero (us := us) fun v hv => h v (by simp [hv])];rfl
theorem cfU_one : ∀ {l : List UT} {u : UT}, l.Pairwise (fun u v => ordI u.2 v.2 < 0) → u ∈ l → cfU l u.2 = u.1
 | v :: l, u, hp, hu => by
  rw [List.pairwise_cons] at hp;rcases List.mem_cons.1 hu with rfl | hu
  ·simp only [cfU, if_true];rw [cfU_zero (us := l) fun w hw k => by have := hp.1 w hw; rw [k, ordI_refl] at this; omega];omega
  ·have := hp.1 u hu
   have hne : ¬ v.2 = u.2 := fun k => by rw [k, ordI_refl] at this; omega
   simp only [cfU, if_neg hne, cfU_one hp.2 hu];omega
theorem cfU_mem {us : List UT} {e : List Int} (h : cfU us e ≠ 0) : ∃ u ∈ us, u.2 = e := by
 rcases Classical.em (∃ u ∈ us, u.2 = e) with k | k
 ·exact k
 ·exact absurd (cfU_zero fun u hu he => k ⟨u, hu, he⟩) h
theorem absU_mem : ∀ {l : List UT} {u : UT}, u ∈ l → u.1.natAbs ≤ absU l
 | v :: l, u, h => by
  rcases List.mem_cons.1 h with rfl | h
  ·simp only [absU]; omega
  ·have := absU_mem h; simp only [absU]; omega
theorem chkU_ok {V : Nat} (hV : V ≤ 32) {us l : List UT} (h : chkU V us l = true) : SumOk V us (mkP V l) := by
 simp only [chkU, Bool.and_eq_true, List.all_eq_true, decide_eq_true_eq] at h;obtain ⟨⟨⟨⟨⟨⟨⟨h1, h2⟩, h3⟩, h4⟩, h5⟩, h6⟩, h7⟩, h8⟩ := h;have hus : UOk V us := fun u hu => okU_ok (h1 u hu);have hpw := sortedU_pw h3;obtain ⟨s, r1, r2, r3⟩ := runM_cf hV us ([], 0) [] (MOk.nil V) hus (fun e _ => by simp [getM, findM, cfU]) (by simp only [absU]; omega);simp only [List.nil_append] at r3
 have hstr : (sortT (s.1.map (tmM V))).Pairwise fun a b => ordI a.e b.e < 0 := by
  have p1 := sortT_sorted (s.1.map (tmM V));have p2 := (List.Perm.pairwise_iff (fun h => Ne.symm h) (sortT_perm (s.1.map (tmM V)))).2 r2.parts;refine (p1.and p2).imp fun {a b} hab => ?_;rcases leT_iff.1 hab.1 with k | k
  ·exact k
  ·exact absurd k hab.2
 have hget : ∀ p ∈ s.1, getM p.1 s.1 = p.2.1 := by
  intro p hp;obtain ⟨A, B, hAB⟩ := List.append_of_mem hp;have hk := r2.keys;rw [hAB] at hk ⊢;rw [List.pairwise_append] at hk;exact getM_of rfl fun q hq => hk.2.2 q hq p (by simp)
 have hl : sortT (s.1.map (tmM V)) = l.map tz := by
  refine sorted_ext hstr (by rw [List.pairwise_map]; exact hpw) fun t => ?_;rw [(sortT_perm _).mem_iff];constructor
  ·intro ht;obtain ⟨p, hp, rfl⟩ := List.mem_map.1 ht;obtain ⟨e, he, k1, k2, k3⟩ := r2.exp p hp
   have hc : cfU us e = p.2.1 := by
    rw [← r3 e k2, exK_eq he, ← k1]; exact hget p hp
   obtain ⟨u, hu, hue⟩ := cfU_mem (us := us) (e := e) (by rw [hc]; exact r2.nz p hp)
   have hc2 : cfU l e = p.2.1 := by rw [← hc, ← hue]; exact (h7 u hu).symm
   obtain ⟨v, hv, hve⟩ := cfU_mem (us := l) (e := e) (by rw [hc2]; exact r2.nz p hp);have hv1 := cfU_one hpw hv;rw [hve, hc2] at hv1;refine List.mem_map.2 ⟨v, hv, ?_⟩;have he2 := tmM_exp k1 k2;show (⟨zOf v.1, v.2⟩ : TZ) = tmM V p;rw [← hv1, hve];show (⟨zOf p.2.1, e⟩ : TZ) = ⟨zOf p.2.1, (tmM V p).e⟩;rw [he2]
  ·intro ht;obtain ⟨v, hv, rfl⟩ := List.mem_map.1 ht;have hv2 := h2 v hv;obtain ⟨hl1, _⟩ := okU_ok hv2.1.1
   have hc : getM (exK v.2) s.1 = v.1 := by rw [r3 _ hl1, h8 v hv]; exact cfU_one hpw hv
   unfold getM at hc
   cases hf : findM (exK v.2) s.1 0 with
   | none => rw [hf] at hc; exact absurd hc.symm hv2.1.2
   | some q =>
    obtain ⟨j, p⟩ := q;rw [hf] at hc;have hc : p.2.1 = v.1 := hc;obtain ⟨_, g1, g2⟩ := findM_get hf;refine List.mem_map.2 ⟨p, List.mem_of_getElem? g1, ?_⟩
    have h32 : v.2.length ≤ 32 := by omega
    have he2 := tmM_exp (V := V) (p := p) (he := h32) (by rw [← exK_eq h32]; exact g2) hl1;show (⟨zOf p.2.1, (tmM V p).e⟩ : TZ) = ⟨zOf v.1, v.2⟩;rw [he2, hc]
 refine ⟨s, r1, by rw [hl]; rfl, ⟨by simp [mkP], by simp [mkP]; omega, by simpa [mkP] using h4, fun t ht => ?_, fun i a b ha hb => ?_⟩⟩
 ·obtain ⟨v, hv, rfl⟩ := List.mem_map.1 ht;obtain ⟨⟨k1, k2⟩, k3⟩ := h2 v hv;obtain ⟨hl1, hl2⟩ := okU_ok k1;have hb := absU_mem hv;have hf : Fit v.1 := fit_small (by omega) (by omega);refine ⟨okZ_zOf hf, fun hz => k2 ?_, by simp [mkP, hl1], hl2, k3⟩;have := (toW_nil_iff (show (0 : Int) ≤ v.1.natAbs by omega)).1 (List.eq_nil_of_length_eq_zero hz);omega
 ·simp only [mkP, List.getElem?_map, Option.map_eq_some_iff] at ha hb;obtain ⟨u, hu, rfl⟩ := ha;obtain ⟨v, hv, rfl⟩ := hb;rw [List.pairwise_iff_getElem] at hpw;have hi := (List.getElem?_eq_some_iff.1 hu);have hj := (List.getElem?_eq_some_iff.1 hv);have := hpw i (i + 1) hi.1 hj.1 (by omega);rw [hi.2, hj.2] at this;exact this
theorem plusU_mk (b : Int) (V : Nat) (a l : List UT) : plusU b (mkP V a) (mkP V l) = a ++ l.map fun u => (u.1 * b, u.2) := by
 unfold plusU mkP;simp only [List.map_map];congr 1
 ·conv => rhs; rw [← List.map_id a]
  exact List.map_congr_left fun u _ => by show (zval (zOf u.1), u.2) = u; rw [zval_zOf]
 ·exact List.map_congr_left fun u _ => by show (zval (zOf u.1) * b, u.2) = _; rw [zval_zOf]
theorem timesU_mk (V : Nat) (a l : List UT) : timesU (mkP V a) (mkP V l) = a.flatMap fun t => l.map fun u => (t.1 * u.1, addE t.2 u.2) := by
 unfold timesU mkP rowU;rw [List.flatMap_map];congr 1;funext t;rw [List.map_map];refine List.map_congr_left fun u _ => ?_;show (zval (zOf t.1) * zval (zOf u.1), addE t.2 u.2) = _;rw [zval_zOf, zval_zOf]
end Go.AL
/- Add and Mul of polynomials with few small numbers. -/
namespace Go.AL
def insU (u : UT) : List UT → List UT
  | [] => if u.1 = 0 then [] else [u]
  | v :: l => if ordI u.2 v.2 < 0 then (if u.1 = 0 then v :: l else u :: v :: l) else if u.2 = v.2 then (if u.1 + v.1 = 0 then l else (u.1 + v.1, u.2) :: l) else v :: insU u l
def canU (us : List UT) : List UT := us.foldr insU []
def addUs (b : Int) (p q : List UT) : List UT := p ++ q.map fun u => (u.1 * b, u.2)
def mulUs (p q : List UT) : List UT := p.flatMap fun t => q.map fun u => (t.1 * u.1, addE t.2 u.2)
def addL (p q : List UT) : List UT := canU (addUs 1 p q)
def subL (p q : List UT) : List UT := canU (addUs (-1) p q)
def mulL2 (p q : List UT) : List UT := canU (mulUs p q)
theorem mk_ok {V : Nat} (hV : V ≤ 32) {l : List UT} (h : chkU V l l = true) : OkP (mkP V l) ∧ (mkP V l).vars = V ∧ WP (mkP V l) := (chkU_ok hV h).okp
def degU (p q : List UT) : Bool := match p, q with
  | t :: _, u :: _ => decide (sumL t.2 + sumL u.2 ≤ 120)
  | _, _ => true
theorem degU_ok {V : Nat} {p q : List UT} (h : degU p q = true) : DegOk (mkP V p) (mkP V q) := by
 intro t u ht hu
 cases p with
 | nil => simp [mkP] at ht
 | cons a p =>
  cases q with
  | nil => simp [mkP] at hu
  | cons b q =>
   simp only [mkP, List.map_cons, List.getElem?_cons_zero, Option.some.injEq] at ht hu;subst ht hu;simpa [degU] using h
end Go.AL
namespace Go.Proofs.YtcaecieigoplbaaGreat
open Go.AL
theorem addMk (V : Nat) (hV : V ≤ 32) (p q l : List UT) (hp : chkU V p p = true) (hq : chkU V q q = true) (h : chkU V (addUs 1 p q) l = true) : PureFn Tryz.prog 137 [aP (mkP V p), aP (mkP V q)] (.tup [aP (mkP V l), aN 0]) := by
 obtain ⟨p1, p2, p3⟩ := mk_ok hV hp;obtain ⟨q1, q2, q3⟩ := mk_ok hV hq
 have hs : SumOk V (plusU 1 (mkP V p) (mkP V q)) (mkP V l) := by rw [plusU_mk]; exact chkU_ok hV h
 exact pAdd_ok V hV _ _ p3 q3 p1 q1 p2 q2 _ (fun x hx => by rw [hs.uniq hx]) (fun k => absurd ⟨_, hs⟩ k)
theorem mulMk (V : Nat) (hV : V ≤ 32) (p q l : List UT) (hp : chkU V p p = true) (hq : chkU V q q = true) (hd : degU p q = true) (h : chkU V (mulUs p q) l = true) : PureFn Tryz.prog 138 [aP (mkP V p), aP (mkP V q)] (.tup [aP (mkP V l), aN 0]) := by
 obtain ⟨p1, p2, p3⟩ := mk_ok hV hp;obtain ⟨q1, q2, q3⟩ := mk_ok hV hq
 have hs : SumOk V (timesU (mkP V p) (mkP V q)) (mkP V l) := by rw [timesU_mk]; exact chkU_ok hV h
 have hpr : ∀ t ∈ (mkP V p).terms, ∀ u ∈ (mkP V q).terms, Fit (zval t.c * zval u.c) := by
  intro t ht u hu;obtain ⟨a, ha, rfl⟩ := List.mem_map.1 ht;obtain ⟨b, hb, rfl⟩ := List.mem_map.1 hu;show Fit (zval (zOf a.1) * zval (zOf b.1));rw [zval_zOf, zval_zOf];have hm : (a.1 * b.1, addE a.2 b.2) ∈ mulUs p q := List.mem_flatMap.2 ⟨a, ha, List.mem_map.2 ⟨b, hb, rfl⟩⟩;have h1 := absU_mem hm;simp only [chkU, Bool.and_eq_true, decide_eq_true_eq] at h;exact fit_small (by simp only at h1; omega) (by simp only at h1; omega)
 have hP : ProdOk V (mkP V p) (mkP V q) (mkP V l) := ⟨degU_ok hd, hpr, hs⟩;exact pMul_ok V hV _ _ p3 q3 p1 q1 p2 q2 _ (fun x hx => by rw [hs.uniq hx.2.2]) (fun k => absurd ⟨_, hP⟩ k)
end Go.Proofs.YtcaecieigoplbaaGreat
/- poly.Sub. (Not built yet: needs a seat that reaches it.) -/
namespace Go.Proofs.YtcaecieigoplbaaGreat
open Go.AL
theorem fit_m1 : Fit (-1) := fit_small (by omega) (by omega)
theorem Sub1_io (V : Nat) (hV : V ≤ 32) (p q : PZ) (hwp : WP p) (hwq : WP q) (hp : OkP p) (hq : OkP q) (hpv : p.vars = V) (hqv : q.vars = V) (res : Res)
  (hr1 : ∀ r, SumOk V (plusU (-1) p q) r → res = .ret (aP r)) (hr2 : (¬ ∃ r, SumOk V (plusU (-1) p q) r) → res = .thr (thrown 4)) :
  IoFn Tryz.prog 203 [.ptr 900 0, .ptr 901 0] (bPQ p q) res (bPQ p q) := by
 have h := plus_io V hV p q (-1) fit_m1 hwp hwq hp hq hpv hqv (fun t ht => (okZ_eq (hwq t ht) (hq.terms t ht).coef).2.le (by omega)) res hr1 hr2;refine IoFn.of_body Tryz.func203 rfl Tryz.ntmps203 rfl rfl rfl ?_;by_cases hg : ∃ r, SumOk V (plusU (-1) p q) r
 ·obtain ⟨r, hr⟩ := hg;have e1 := hr1 r hr;subst e1;(repeat' (first |refine qv ?_ |apply qn |apply qs |apply qr |refine qe ?_|fail));refine qc (Of_ok (-1) (by omega) (by omega)) ?_;skip;refine Fl.io rfl [] h rfl rfl (LeL.refl _) rfl trivial rfl rfl rfl rfl rfl ?_;(repeat' (first |refine Fl.nil (fun _ => by kernel_rfl) ?_ |refine qe ?_ |apply qt));exact ⟨⟨[], _, _, Ent.refl _ _ _, rfl, AV.Le.refl _, rfl, ⟨⟨⟨_, rfl, BLe.cells (LeL.refl _)⟩, rfl⟩, ⟨⟨_, rfl, BLe.cells (LeL.refl _)⟩, rfl⟩, trivial⟩, rfl, rfl⟩⟩
 ·have e1 := hr2 hg;subst e1;(repeat' (first |refine qv ?_ |apply qn |apply qs |apply qr |refine qe ?_|fail));refine qc (Of_ok (-1) (by omega) (by omega)) ?_;skip;exact Fl.thrC rfl [] h rfl (LeL.refl _) rfl trivial rfl (fun _ => by kernel_rfl) (fun _ => rfl)
theorem pSub_ok (V : Nat) (hV : V ≤ 32) (p q : PZ) (hwp : WP p) (hwq : WP q) (hp : OkP p) (hq : OkP q) (hpv : p.vars = V) (hqv : q.vars = V) (r : AV)
  (hr1 : ∀ x, SumOk V (plusU (-1) p q) x → r = .tup [aP x, aN 0]) (hr2 : (¬ ∃ x, SumOk V (plusU (-1) p q) x) → r = .tup [aP ⟨0, []⟩, aN 4]) :
  PureFn Tryz.prog 161 [aP p, aP q] r := by
 refine PureFn.of_body Tryz.func161 rfl Tryz.ntmps161 rfl rfl ?_;have hb := both_ok p q hwp hwq;rw [bothE_ok hp hq, if_pos (hpv.trans hqv.symm)] at hb;(repeat' (first |refine qv ?_ |apply qn |apply qs |apply qr |refine qe ?_|fail));refine qc (hb) ?_;(repeat' (first |refine qv ?_ |apply qn |apply qs |apply qr |refine AWP.condF rfl ?_ |apply qk));by_cases hg : ∃ x, SumOk V (plusU (-1) p q) x
 ·obtain ⟨x, hx⟩ := hg;rw [hr1 x hx]
  have hx' : ∀ y, SumOk V (plusU (-1) p q) y → (Res.ret (aP x)) = .ret (aP y) := fun y hy => by
   have := (hr1 x hx).symm.trans (hr1 y hy);injection this with this;injection this with this;rw [this]
  refine Fl.io rfl [(900, 2), (901, 3)] (tried_ret (Sub1_io V hV p q hwp hwq hp hq hpv hqv (.ret (aP x)) hx' (fun h => absurd ⟨x, hx⟩ h))) rfl rfl (LeL.refl _) rfl ⟨⟨⟨_, rfl, BLe.cells (LeL.refl _)⟩, rfl⟩, ⟨⟨_, rfl, BLe.cells (LeL.refl _)⟩, rfl⟩, trivial⟩ rfl rfl rfl rfl rfl ?_;(repeat' (first |refine qv ?_ |apply qn |refine qe ?_ |apply qt));exact RetOk.of rfl (AV.Le.refl _)
 ·rw [hr2 hg];refine Fl.io rfl [(900, 2), (901, 3)] (tried_thr (Sub1_io V hV p q hwp hwq hp hq hpv hqv _ (fun y hy => absurd ⟨y, hy⟩ hg) (fun _ => rfl))) rfl rfl (LeL.refl _) rfl ⟨⟨⟨_, rfl, BLe.cells (LeL.refl _)⟩, rfl⟩, ⟨⟨_, rfl, BLe.cells (LeL.refl _)⟩, rfl⟩, trivial⟩ rfl rfl rfl rfl rfl ?_;(repeat' (first |refine qv ?_ |apply qn |refine qe ?_ |apply qt));exact RetOk.of rfl (AV.Le.refl _)
end Go.Proofs.YtcaecieigoplbaaGreat
/- poly.Var, poly.Const; expr's Kit: New, V, N, Sub, Add, Mul. -/
namespace Go.AL
def unU (V i : Nat) : List Int := (List.replicate V 0).set i 1
def varU (V i : Nat) : List UT := [(1, unU V i)]
def conU (V : Nat) (c : Int) : List UT := if c = 0 then [] else [(c, List.replicate V 0)]
def okSums (V : Nat) : List UT → List (List UT) → Bool
  | acc, [] => chkU V acc acc
  | acc, p :: l => chkU V acc acc && chkU V p p && chkU V (addUs 1 acc p) (addL acc p) && okSums V (addL acc p) l
def okMuls (V : Nat) : List UT → List (List UT) → Bool
  | acc, [] => chkU V acc acc
  | acc, p :: l => chkU V acc acc && chkU V p p && degU acc p && chkU V (mulUs acc p) (mulL2 acc p) && okMuls V (mulL2 acc p) l
def sumsU (acc : List UT) (l : List (List UT)) : List UT := l.foldl addL acc
def mulsU (acc : List UT) (l : List (List UT)) : List UT := l.foldl mulL2 acc
end Go.AL
namespace Go.Proofs.YtcaecieigoplbaaGreat
open Go.AL
abbrev aK (V : Nat) : AV := .agg [aN V]

theorem pVarP_ok (V i : Nat) (hV : V ≤ 32) (hi : i < V) : PureFn Tryz.prog 135 [aN V, aN i] (.tup [aP (mkP V (varU V i)), aN 0]) := by
 refine PureFn.of_body Tryz.func135 rfl Tryz.ntmps135 rfl rfl ?_;refine AWP.seqS ?_;(repeat' (first |refine qv ?_ |apply qn |apply qr |refine qe ?_|fail));refine ⟨AWP.seqS ?_⟩;(repeat' (first |refine qv ?_ |apply qn |apply qs |apply qr |(refine AWP.condD rfl ?_ ?_ <;> intro _ <;> try (exfalso; omega)) |apply qk |(refine Fl.splitD rfl rfl ?_ ?_ <;> intro _ <;> try (exfalso; omega))));refine ⟨AWP.seqS ?_⟩;(repeat' (first |refine qv ?_ |apply qn |apply qr |refine Fl.make rfl rfl rfl rfl rfl rfl rfl rfl rfl rfl eI 0 (by exact LeL.refl _) (by rfl) (by first | omega | (dsimp only; omega)) (by first | omega | (dsimp only; omega)) (by first | omega | (dsimp only; omega)) ?_|fail));refine ⟨AWP.seqS ?_⟩;(repeat' (first |refine qv ?_ |apply qn |apply qr |refine Fl.rel rfl rfl rfl rfl rfl rfl rfl rfl (by omega) (by first | omega | (simp; omega)) ?_ |refine Fl.rst rfl rfl rfl rfl rfl rfl rfl rfl rfl rfl rfl (LeL.refl _) rfl (by first | omega | (simp; omega)) ?_|fail));refine ⟨?_⟩;refine AWP.ent (Ent.freeze 24 rfl) ?_;(repeat' (first |refine qv ?_ |apply qs |apply qr));refine qc (Of_ok 1 (by omega) (by omega)) ?_;(repeat' (first |refine qv ?_ |refine qe ?_|fail));refine ql eT [⟨zOf 1, unU V i⟩] ?_;(repeat' (first |refine qv ?_ |apply qn |refine qe ?_ |apply qt));exact RetOk.of rfl (AV.Le.refl _)

theorem xCopy_ok (X : List Int) (hX : ∀ x ∈ X, Fit x) (hl : X.length ≤ 1000000) : PureFn Tryz.prog 217 [.sl 2 eX X] (.sl 2 eX X) := by
 refine PureFn.of_body Tryz.func217 rfl Tryz.ntmps217 rfl rfl ?_;refine AWP.seqS ?_;(repeat' (first |refine qv ?_ |apply qn |apply qr));refine ⟨AWP.seqS ?_⟩;(repeat' (first |refine qv ?_ |apply qr));refine Fl.make rfl rfl rfl rfl rfl rfl rfl rfl rfl rfl eX 0 (by exact leX_zero (σ := []) rfl) (by rfl) (by omega) (by dsimp only; omega) (by omega) ?_;(repeat' (first |refine qv ?_ |apply qn));refine ⟨?_⟩;refine AWP.seqJ (G := Unit) (fun _ => True) (fun _ => St.of [] [(3, .row 8)] [(8, .row 2 eX X 35)]) ?_ ?_
 ·(repeat' (first |refine qv ?_ |apply qn |apply qs |apply qr |apply qb));refine AWP.loop (G := Nat) (fun i => i ≤ X.length) (fun i => St.of [] [(3, .row 8), (9, .sl 2 eX X), (10, aN X.length), (11, aN i)] [(8, .row 2 eX (X.take i ++ List.replicate (X.length - i) 0) 35)]) (fun i => X.length - i) 0 (by omega) ?_ ?_
  ·refine Ent.of [] ?_ ?_ rfl rfl;(repeat' (first |exact True.intro |refine ⟨⟨AV.Le.refl _, rfl⟩, ?_⟩ |refine ⟨⟨⟨_, rfl, BLe.row rfl⟩, rfl⟩, ?_⟩|fail))
  ·intro i h0
   have hli : (X.take i ++ List.replicate (X.length - i) (0 : Int)).length = X.length := by simp; omega
   (repeat' (first |refine qv ?_ |apply qn |apply qs |apply qr |refine qe ?_ |(refine AWP.condD rfl ?_ ?_ <;> intro _ <;> try (exfalso; omega)) |apply qb |apply qk |apply qx |(refine Fl.el rfl rfl rfl rfl rfl rfl rfl rfl (by omega) (by omega) ?_; intro _ _)|fail))
   ·rename_i hi x hx;rw [Int.toNat_natCast] at hx;have hxl := (hX x (List.mem_of_getElem? hx)).len;refine Fl.ap0C rfl rfl rfl rfl rfl rfl rfl eW rfl (fun _ => rfl) (fun _ => rfl) (AV.Le.refl _) (by dsimp only; omega) (by omega) ?_;(repeat' (first |refine qv ?_ |apply qn |refine Fl.nil (fun _ => by kernel_rfl) ?_ |apply qr |refine qw ?_ |refine qe ?_ |refine Fl.rel rfl rfl rfl rfl rfl rfl rfl rfl (by omega) (by first | omega | (simp; omega)) ?_ |refine Fl.rst rfl rfl rfl rfl rfl rfl rfl rfl rfl rfl rfl (LeL.refl _) rfl (by first | omega | (simp; omega)) ?_|fail));refine LoopEnd.of (i + 1) (by omega) (by omega) ?_;refine Ent.of [] ?_ ?_ rfl rfl;(repeat' (first |exact True.intro |refine ⟨⟨AV.Le.refl _, rfl⟩, ?_⟩ |refine ⟨⟨⟨_, rfl, BLe.row ?_⟩, rfl⟩, ?_⟩|fail));rw [take_snoc hx];exact set_rep (by rw [List.length_take]; omega) (by omega) rfl
   ·have hi : i = X.length := by omega
    refine JoinOk.of () trivial ?_;refine Ent.of [] ?_ ?_ rfl rfl;(repeat' (first |exact True.intro |refine ⟨⟨AV.Le.refl _, rfl⟩, ?_⟩ |refine ⟨⟨⟨_, rfl, BLe.row ?_⟩, rfl⟩, ?_⟩|fail));rw [hi]; simp
 ·intro _ _;(repeat' (first |refine qv ?_ |apply qn |apply qs |apply qr |apply qt));refine RetOk.ent (Ent.freeze 8 rfl) ?_;exact RetOk.of rfl (AV.Le.refl _)
theorem constant_ok (V : Nat) (x : Int) (hV : V ≤ 32) (hx : Fit x) : PureFn Tryz.prog 181 [aN V, aX x] (aP (mkP V (conU V x))) := by
 refine PureFn.of_body Tryz.func181 rfl Tryz.ntmps181 rfl rfl ?_;refine AWP.seqS ?_;(repeat' (first |apply qn |apply qr |refine qe ?_|fail));refine ⟨AWP.seqS ?_⟩;(repeat' (first |refine qv ?_ |apply qn |apply qr |refine qe ?_|fail));refine ⟨?_⟩;refine AWP.seq ?_;(repeat' (first |refine qv ?_ |apply qs |apply qr));refine qc (ZeroX_ok x) ?_;(repeat' (first |refine qv ?_ |apply qn |apply qs |apply qr |refine qe ?_ |(refine AWP.condN rfl ?_ ?_ <;> intro _ <;> try (exfalso; omega)) |apply qk |apply qt))
 ·rename_i h0;refine ql eX [x] ?_;skip;have e0 : [x][(0 : Int).toNat]? = some x := rfl;refine qc (xCopy_ok [x] (by simp [hx]) (by simp)) ?_;(repeat' (first | refine Fl.v rfl rfl rfl ?_ | refine Fl.elK rfl rfl rfl rfl rfl rfl rfl rfl (by assumption) (by omega) ?_ | fail));refine Fl.makeC rfl rfl rfl rfl rfl rfl rfl rfl rfl eI 0 (by exact LeL.refl _) (by rfl) (by omega) (by dsimp only; omega) (by omega) ?_;(repeat' (first |refine qe ?_|fail));refine ql eT [⟨zOf x, List.replicate V 0⟩] ?_;(repeat' (first |refine qv ?_ |apply qn |refine Fl.nil (fun _ => by kernel_rfl) ?_ |apply qs |apply qr |refine qe ?_ |apply qt));refine RetOk.of rfl ?_;rw [conU, if_neg h0];exact AV.Le.refl _
 ·rename_i h0;refine RetOk.of rfl ?_;rw [conU, if_pos h0];exact AV.Le.agg (LeL.cons (AV.Le.refl _) (LeL.cons (AV.Le.nil 3 eT) LeL.nil))
theorem pConstP_ok (V : Nat) (x : Int) (hV : V ≤ 32) (hx : Fit x) : PureFn Tryz.prog 136 [aN V, aX x] (.tup [aP (mkP V (conU V x)), aN 0]) := by
 refine PureFn.of_body Tryz.func136 rfl Tryz.ntmps136 rfl rfl ?_;(repeat' (first |refine qv ?_ |apply qn |apply qs |apply qr |refine qe ?_|fail));refine qc (Valid_int x hx) ?_;(repeat' (first |refine qv ?_ |apply qn |apply qs |apply qr |refine AWP.condF rfl ?_ |(refine AWP.condD rfl ?_ ?_ <;> intro _ <;> try (exfalso; omega)) |apply qk));refine qc (constant_ok V x hV hx) ?_;(repeat' (first |refine qv ?_ |apply qn |refine qe ?_ |apply qt));exact RetOk.of rfl (AV.Le.refl _)
theorem kNew_ok (V : Nat) : PureFn Tryz.prog 63 [aN V] (aK V) := by
 refine PureFn.of_body Tryz.func63 rfl Tryz.ntmps63 rfl rfl ?_;(repeat' (first |refine qv ?_ |apply qn |apply qs |apply qr |refine qe ?_ |apply qt));exact RetOk.of rfl (AV.Le.refl _)
theorem kV_ok (V i : Nat) (hV : V ≤ 32) (hi : i < V) : PureFn Tryz.prog 64 [aK V, aN i] (aP (mkP V (varU V i))) := by
 refine PureFn.of_body Tryz.func64 rfl Tryz.ntmps64 rfl rfl ?_;(repeat' (first |refine qv ?_ |apply qn |apply qs |apply qr |refine qe ?_|fail));refine qc (pVarP_ok V i hV hi) ?_;(repeat' (first |refine qv ?_ |apply qn |apply qs |apply qr |refine qe ?_ |apply qt));exact RetOk.of rfl (AV.Le.refl _)
theorem kN_ok (V : Nat) (c : Int) (hV : V ≤ 32) (h0 : -4294967296 < c) (h1 : c < 4294967296) : PureFn Tryz.prog 65 [aK V, aN c] (aP (mkP V (conU V c))) := by
 refine PureFn.of_body Tryz.func65 rfl Tryz.ntmps65 rfl rfl ?_;(repeat' (first |refine qv ?_ |apply qn |apply qs |apply qr |refine qe ?_|fail));refine qc (Of_ok c (by omega) (by omega)) ?_;skip;refine qc (pConstP_ok V c hV (fit_small (by omega) (by omega))) ?_;(repeat' (first |refine qv ?_ |apply qn |refine Fl.nil (fun _ => by kernel_rfl) ?_ |apply qs |apply qr |refine qe ?_ |apply qt));exact RetOk.of rfl (AV.Le.refl _)
theorem subMk (V : Nat) (hV : V ≤ 32) (p q l : List UT) (hp : chkU V p p = true) (hq : chkU V q q = true) (h : chkU V (addUs (-1) p q) l = true) : PureFn Tryz.prog 161 [aP (mkP V p), aP (mkP V q)] (.tup [aP (mkP V l), aN 0]) := by
 obtain ⟨p1, p2, p3⟩ := mk_ok hV hp;obtain ⟨q1, q2, q3⟩ := mk_ok hV hq
 have hs : SumOk V (plusU (-1) (mkP V p) (mkP V q)) (mkP V l) := by rw [plusU_mk]; exact chkU_ok hV h
 exact pSub_ok V hV _ _ p3 q3 p1 q1 p2 q2 _ (fun x hx => by rw [hs.uniq hx]) (fun k => absurd ⟨_, hs⟩ k)
theorem kSub_ok (V : Nat) (hV : V ≤ 32) (p q l : List UT) (hp : chkU V p p = true) (hq : chkU V q q = true) (h : chkU V (addUs (-1) p q) l = true) : PureFn Tryz.prog 93 [aK V, aP (mkP V p), aP (mkP V q)] (aP (mkP V l)) := by
 refine PureFn.of_body Tryz.func93 rfl Tryz.ntmps93 rfl rfl ?_;(repeat' (first |refine qv ?_ |apply qn |apply qs |apply qr |refine qe ?_|fail));refine qc (subMk V hV p q l hp hq h) ?_;(repeat' (first |refine qv ?_ |apply qn |apply qs |apply qr |refine qe ?_ |apply qt));exact RetOk.of rfl (AV.Le.refl _)
end Go.Proofs.YtcaecieigoplbaaGreat
/- Kit.Add, Kit.Mul. -/
namespace Go.AL
theorem okSums_cons {V : Nat} {acc p : List UT} {l : List (List UT)} (h : okSums V acc (p :: l) = true) : chkU V acc acc = true ∧ chkU V p p = true ∧ chkU V (addUs 1 acc p) (addL acc p) = true ∧ okSums V (addL acc p) l = true := by
 simp only [okSums, Bool.and_eq_true] at h;exact ⟨h.1.1.1, h.1.1.2, h.1.2, h.2⟩
theorem okMuls_cons {V : Nat} {acc p : List UT} {l : List (List UT)} (h : okMuls V acc (p :: l) = true) : chkU V acc acc = true ∧ chkU V p p = true ∧ degU acc p = true ∧ chkU V (mulUs acc p) (mulL2 acc p) = true ∧ okMuls V (mulL2 acc p) l = true := by
 simp only [okMuls, Bool.and_eq_true] at h;exact ⟨h.1.1.1.1, h.1.1.1.2, h.1.1.2, h.1.2, h.2⟩
theorem drop_cons {α : Type} {l : List α} {i : Nat} {x : α} (h : l[i]? = some x) : l.drop i = x :: l.drop (i + 1) := by
 have hi := List.getElem?_eq_some_iff.1 h;rw [List.drop_eq_getElem_cons hi.1, hi.2]
end Go.AL
namespace Go.Proofs.YtcaecieigoplbaaGreat
open Go.AL
theorem kAdd_ok (V : Nat) (hV : V ≤ 32) (ls : List (List UT)) (hl : ls.length ≤ 1000) (h : okSums V [] ls = true) : PureFn Tryz.prog 66 [aK V, .sl 2 eP (ls.map (mkP V))] (aP (mkP V (sumsU [] ls))) := by
 refine PureFn.of_body Tryz.func66 rfl Tryz.ntmps66 rfl rfl ?_;have hN := kN_ok V 0 hV (by omega) (by omega);rw [show conU V 0 = [] from rfl] at hN;refine AWP.seqS ?_;(repeat' (first |apply qn |apply qr |refine qe ?_|fail));refine ⟨AWP.seqS ?_⟩;(repeat' (first |refine qv ?_ |apply qr));refine qc (hN) ?_;(repeat' (first |apply qn |refine qe ?_|fail));refine ⟨?_⟩;obtain ⟨L, hL⟩ : ∃ L, L = ls.map (mkP V) := ⟨_, rfl⟩
 have hLl : L.length = ls.length := by rw [hL, List.length_map]
 rw [← hL];(repeat' (first |refine qv ?_ |apply qn |apply qs |apply qr |apply qb));refine AWP.loop (G := Nat × List UT) (fun (i, acc) => i ≤ ls.length ∧ okSums V acc (ls.drop i) = true ∧ sumsU acc (ls.drop i) = sumsU [] ls) (fun (i, acc) => St.of [] [(4, .ptr 4 0), (5, .ptr 5 0), (10, .sl 2 eP L), (11, aN L.length), (12, aN i)] [(4, .cells [aN 0, .v (.slice none 0 0)] 70), (5, .cells (eP (mkP V acc)) 70)]) (fun (i, acc) => ls.length - i) (0, []) ⟨by omega, h, rfl⟩ ?_ ?_
 ·refine Ent.of [] ?_ ?_ rfl rfl;(repeat' (first |exact True.intro |refine ⟨⟨AV.Le.refl _, rfl⟩, ?_⟩ |refine ⟨⟨⟨_, rfl, BLe.cells (LeL.refl _)⟩, rfl⟩, ?_⟩|fail))
 ·intro ⟨i, acc⟩ ⟨h0, h1, h2⟩;(repeat' (first |refine qv ?_ |apply qn |apply qs |apply qr |refine qe ?_ |(refine AWP.condD rfl ?_ ?_ <;> intro _ <;> try (exfalso; omega)) |apply qb |apply qk |apply qx |apply qt |(refine Fl.el rfl rfl rfl rfl rfl rfl rfl rfl (by omega) (by omega) ?_; intro _ _)|fail))
  ·rename_i hi p hp;rw [Int.toNat_natCast, hL, List.getElem?_map] at hp;obtain ⟨q, hq, rfl⟩ := Option.map_eq_some_iff.1 hp;rw [drop_cons hq] at h1 h2;obtain ⟨c1, c2, c3, c4⟩ := okSums_cons h1;refine qc (addMk V hV acc q _ c1 c2 c3) ?_;(repeat' (first |refine qv ?_ |apply qn |apply qr |refine qw ?_ |refine qe ?_|fail));refine LoopEnd.of (i + 1, addL acc q) ⟨by omega, c4, h2⟩ (by simp only; omega) ?_;refine Ent.of [] ?_ ?_ rfl rfl;(repeat' (first |exact True.intro |refine ⟨⟨AV.Le.refl _, rfl⟩, ?_⟩ |refine ⟨⟨⟨_, rfl, BLe.cells (LeL.refl _)⟩, rfl⟩, ?_⟩|fail))
  ·rename_i hi;rw [List.drop_of_length_le (by omega)] at h2;refine RetOk.of rfl (AV.Le.of_eq ?_);rw [← h2]; rfl
theorem kMul_ok (V : Nat) (hV : V ≤ 32) (ls : List (List UT)) (hl : ls.length ≤ 1000) (h : okMuls V (conU V 1) ls = true) : PureFn Tryz.prog 67 [aK V, .sl 2 eP (ls.map (mkP V))] (aP (mkP V (mulsU (conU V 1) ls))) := by
 refine PureFn.of_body Tryz.func67 rfl Tryz.ntmps67 rfl rfl ?_;have hN := kN_ok V 1 hV (by omega) (by omega);refine AWP.seqS ?_;(repeat' (first |apply qn |apply qr |refine qe ?_|fail));refine ⟨AWP.seqS ?_⟩;(repeat' (first |refine qv ?_ |apply qr));refine qc (hN) ?_;(repeat' (first |apply qn |refine qe ?_|fail));refine ⟨?_⟩;obtain ⟨L, hL⟩ : ∃ L, L = ls.map (mkP V) := ⟨_, rfl⟩
 have hLl : L.length = ls.length := by rw [hL, List.length_map]
 rw [← hL];(repeat' (first |refine qv ?_ |apply qn |apply qs |apply qr |apply qb));refine AWP.loop (G := Nat × List UT) (fun (i, acc) => i ≤ ls.length ∧ okMuls V acc (ls.drop i) = true ∧ mulsU acc (ls.drop i) = mulsU (conU V 1) ls) (fun (i, acc) => St.of [] [(4, .ptr 4 0), (5, .ptr 5 0), (10, .sl 2 eP L), (11, aN L.length), (12, aN i)] [(4, .cells [aN 0, .v (.slice none 0 0)] 70), (5, .cells (eP (mkP V acc)) 70)]) (fun (i, acc) => ls.length - i) (0, conU V 1) ⟨by omega, h, rfl⟩ ?_ ?_
 ·refine Ent.of [] ?_ ?_ rfl rfl;(repeat' (first |exact True.intro |refine ⟨⟨AV.Le.refl _, rfl⟩, ?_⟩ |refine ⟨⟨⟨_, rfl, BLe.cells (LeL.refl _)⟩, rfl⟩, ?_⟩|fail))
 ·intro ⟨i, acc⟩ ⟨h0, h1, h2⟩;(repeat' (first |refine qv ?_ |apply qn |apply qs |apply qr |refine qe ?_ |(refine AWP.condD rfl ?_ ?_ <;> intro _ <;> try (exfalso; omega)) |apply qb |apply qk |apply qx |apply qt |(refine Fl.el rfl rfl rfl rfl rfl rfl rfl rfl (by omega) (by omega) ?_; intro _ _)|fail))
  ·rename_i hi p hp;rw [Int.toNat_natCast, hL, List.getElem?_map] at hp;obtain ⟨q, hq, rfl⟩ := Option.map_eq_some_iff.1 hp;rw [drop_cons hq] at h1 h2;obtain ⟨c1, c2, c3, c4, c5⟩ := okMuls_cons h1;refine qc (mulMk V hV acc q _ c1 c2 c3 c4) ?_;(repeat' (first |refine qv ?_ |apply qn |apply qr |refine qw ?_ |refine qe ?_|fail));refine LoopEnd.of (i + 1, mulL2 acc q) ⟨by omega, c5, h2⟩ (by simp only; omega) ?_;refine Ent.of [] ?_ ?_ rfl rfl;(repeat' (first |exact True.intro |refine ⟨⟨AV.Le.refl _, rfl⟩, ?_⟩ |refine ⟨⟨⟨_, rfl, BLe.cells (LeL.refl _)⟩, rfl⟩, ?_⟩|fail))
  ·rename_i hi;rw [List.drop_of_length_le (by omega)] at h2;refine RetOk.of rfl (AV.Le.of_eq ?_);rw [← h2]; rfl
end Go.Proofs.YtcaecieigoplbaaGreat
/- Kit.Link: its closures; what occurs. -/
namespace Go.AL
def occL (V : Nat) (ls : List (List UT)) : List Nat := (List.range V).filter fun i => ls.any fun p => p.any fun u => decide (0 < u.2.getD i 0)
def pickE (occ : List Nat) (e : List Int) : List Int := occ.map fun i => e.getD i 0
def pickU (occ : List Nat) (p : List UT) : List UT := p.map fun u => (u.1, pickE occ u.2)
def linkU (V : Nat) (kind : Int) (ls : List (List UT)) : LZ := ⟨kind, (occL V ls).map fun (i : Nat) => (i : Int), ls.map fun p => mkP (occL V ls).length (pickU (occL V ls) p)⟩
end Go.AL
namespace Go.Proofs.YtcaecieigoplbaaGreat
open Go.AL
abbrev iB (i : Int) : List (AL.Id × Bx) := [(900, .cells [aN i] 3)]
theorem idxT_ok (o : Int) (f : TZ → Bool) (ps : List TZ) (hl : ps.length ≤ 1000000) (hf : ∀ p ∈ ps, IoFn Tryz.prog 142 ([aT p] ++ [.ptr 900 0]) (iB o) (.ret (aB (f p))) (iB o)) :
  IoFn Tryz.prog 189 [.sl 3 eT ps, .fn 142 [.ptr 900 0]] (iB o) (.ret (aN (idxI f ps 0))) (iB o) := by
 refine IoFn.of_body Tryz.func189 rfl Tryz.ntmps189 rfl rfl rfl ?_;(repeat' (first |refine qv ?_ |apply qn |apply qs |apply qr |apply qb));refine AWP.loop (G := Nat) (fun i => i ≤ ps.length ∧ idxI f (ps.drop i) i = idxI f ps 0) (fun i => St.of [900] [(0, .sl 3 eT ps), (1, .fn 142 [.ptr 900 0]), (7, aN ps.length), (8, aN i)] [(900, .cells [aN o] 3)]) (fun i => ps.length - i) 0 ⟨by omega, by simp⟩ ?_ ?_
 ·refine Ent.of [] ?_ ?_ rfl rfl;(repeat' (first |exact True.intro |refine ⟨⟨AV.Le.refl _, rfl⟩, ?_⟩ |refine ⟨⟨⟨_, rfl, BLe.cells (LeL.refl _)⟩, rfl⟩, ?_⟩|fail))
 ·intro i ⟨k0, k1⟩;(repeat' (first |refine qv ?_ |apply qn |apply qs |apply qr |(refine AWP.condD rfl ?_ ?_ <;> intro _ <;> try (exfalso; omega)) |apply qb |apply qk |apply qx |apply qt |(refine Fl.el rfl rfl rfl rfl rfl rfl rfl rfl (by omega) (by omega) ?_; intro _ _)|fail))
  ·rename_i hi p hp;rw [Int.toNat_natCast] at hp;have hd := idxI_drop (f := f) hp;refine Fl.ioV rfl rfl [] (hf p (List.mem_of_getElem? hp)) rfl rfl (LeL.refl _) rfl ⟨⟨⟨_, rfl, BLe.cells (LeL.refl _)⟩, rfl⟩, trivial⟩ rfl rfl rfl rfl rfl ?_;(repeat' (first |refine qv ?_ |apply qn |apply qs |apply qr |refine qw ?_ |apply qk |apply qt |(refine AWP.condB rfl ?_ ?_ <;> intro _)))
   ·rename_i hb;rw [if_pos hb] at hd;refine ⟨⟨[], _, _, Ent.refl _ _ _, rfl, AV.Le.int ?_, rfl, ⟨⟨⟨_, rfl, BLe.cells (LeL.refl _)⟩, rfl⟩, trivial⟩, rfl, rfl⟩⟩;rw [← k1, hd]
   ·rename_i hb;rw [if_neg (by rw [hb]; simp)] at hd;refine LoopEnd.of (i + 1) ⟨by omega, by rw [← k1, hd]⟩ (by omega) ?_;refine Ent.of [] ?_ ?_ rfl rfl;(repeat' (first |exact True.intro |refine ⟨⟨AV.Le.refl _, rfl⟩, ?_⟩ |refine ⟨⟨⟨_, rfl, BLe.cells (LeL.refl _)⟩, rfl⟩, ?_⟩|fail))
  ·refine ⟨⟨[], _, _, Ent.refl _ _ _, rfl, AV.Le.int ?_, rfl, ⟨⟨⟨_, rfl, BLe.cells (LeL.refl _)⟩, rfl⟩, trivial⟩, rfl, rfl⟩⟩;rw [← k1, List.drop_of_length_le (by omega)]; rfl
theorem conT_ok (o : Int) (f : TZ → Bool) (ps : List TZ) (hl : ps.length ≤ 1000000) (hf : ∀ p ∈ ps, IoFn Tryz.prog 142 ([aT p] ++ [.ptr 900 0]) (iB o) (.ret (aB (f p))) (iB o)) :
  IoFn Tryz.prog 141 [.sl 3 eT ps, .fn 142 [.ptr 900 0]] (iB o) (.ret (aB (ps.any f))) (iB o) := by
 refine IoFn.of_body Tryz.func141 rfl Tryz.ntmps141 rfl rfl rfl ?_;have h := idxT_ok o f ps hl hf;have he := idxI_any f ps 0 (by omega);(repeat' (first |refine qv ?_ |apply qn |apply qs |apply qr));refine qi [] h ?_;(repeat' (first |refine qv ?_ |apply qn |apply qt));exact ⟨⟨[], _, _, Ent.refl _ _ _, rfl, AV.Le.bool he, rfl, ⟨⟨⟨_, rfl, BLe.cells (LeL.refl _)⟩, rfl⟩, trivial⟩, rfl, rfl⟩⟩
theorem link11_ok (i : Nat) (t : TZ) (hi : i < t.e.length) : IoFn Tryz.prog 142 [aT t, .ptr 900 0] (iB i) (.ret (aB (decide (0 < t.e.getD i 0)))) (iB i) := by
 refine IoFn.of_body Tryz.func142 rfl Tryz.ntmps142 rfl rfl rfl ?_;(repeat' (first |refine qv ?_ |apply qn |apply qs |apply qr |refine qe ?_ |apply qt |(refine Fl.el rfl rfl rfl rfl rfl rfl rfl rfl (by omega) (by omega) ?_; intro _ _)|fail));rename_i x hx
 have hx : t.e[i]? = some x := by simpa using hx
 refine ⟨⟨[], _, _, Ent.refl _ _ _, rfl, AV.Le.bool ?_, rfl, ⟨⟨⟨_, rfl, BLe.cells (LeL.refl _)⟩, rfl⟩, trivial⟩, rfl, rfl⟩⟩;rw [List.getD_eq_getElem?_getD, hx];rfl
theorem idxK_ok (o : Int) (f : PZ → Bool) (ps : List PZ) (hl : ps.length ≤ 1000000) (hf : ∀ p ∈ ps, IoFn Tryz.prog 140 ([aP p] ++ [.ptr 900 0]) (iB o) (.ret (aB (f p))) (iB o)) :
  IoFn Tryz.prog 188 [.sl 2 eP ps, .fn 140 [.ptr 900 0]] (iB o) (.ret (aN (idxI f ps 0))) (iB o) := by
 refine IoFn.of_body Tryz.func188 rfl Tryz.ntmps188 rfl rfl rfl ?_;(repeat' (first |refine qv ?_ |apply qn |apply qs |apply qr |apply qb));refine AWP.loop (G := Nat) (fun i => i ≤ ps.length ∧ idxI f (ps.drop i) i = idxI f ps 0) (fun i => St.of [900] [(0, .sl 2 eP ps), (1, .fn 140 [.ptr 900 0]), (7, aN ps.length), (8, aN i)] [(900, .cells [aN o] 3)]) (fun i => ps.length - i) 0 ⟨by omega, by simp⟩ ?_ ?_
 ·refine Ent.of [] ?_ ?_ rfl rfl;(repeat' (first |exact True.intro |refine ⟨⟨AV.Le.refl _, rfl⟩, ?_⟩ |refine ⟨⟨⟨_, rfl, BLe.cells (LeL.refl _)⟩, rfl⟩, ?_⟩|fail))
 ·intro i ⟨k0, k1⟩;(repeat' (first |refine qv ?_ |apply qn |apply qs |apply qr |(refine AWP.condD rfl ?_ ?_ <;> intro _ <;> try (exfalso; omega)) |apply qb |apply qk |apply qx |apply qt |(refine Fl.el rfl rfl rfl rfl rfl rfl rfl rfl (by omega) (by omega) ?_; intro _ _)|fail))
  ·rename_i hi p hp;rw [Int.toNat_natCast] at hp;have hd := idxI_drop (f := f) hp;refine Fl.ioV rfl rfl [] (hf p (List.mem_of_getElem? hp)) rfl rfl (LeL.refl _) rfl ⟨⟨⟨_, rfl, BLe.cells (LeL.refl _)⟩, rfl⟩, trivial⟩ rfl rfl rfl rfl rfl ?_;(repeat' (first |refine qv ?_ |apply qn |apply qs |apply qr |refine qw ?_ |apply qk |apply qt |(refine AWP.condB rfl ?_ ?_ <;> intro _)))
   ·rename_i hb;rw [if_pos hb] at hd;refine ⟨⟨[], _, _, Ent.refl _ _ _, rfl, AV.Le.int ?_, rfl, ⟨⟨⟨_, rfl, BLe.cells (LeL.refl _)⟩, rfl⟩, trivial⟩, rfl, rfl⟩⟩;rw [← k1, hd]
   ·rename_i hb;rw [if_neg (by rw [hb]; simp)] at hd;refine LoopEnd.of (i + 1) ⟨by omega, by rw [← k1, hd]⟩ (by omega) ?_;refine Ent.of [] ?_ ?_ rfl rfl;(repeat' (first |exact True.intro |refine ⟨⟨AV.Le.refl _, rfl⟩, ?_⟩ |refine ⟨⟨⟨_, rfl, BLe.cells (LeL.refl _)⟩, rfl⟩, ?_⟩|fail))
  ·refine ⟨⟨[], _, _, Ent.refl _ _ _, rfl, AV.Le.int ?_, rfl, ⟨⟨⟨_, rfl, BLe.cells (LeL.refl _)⟩, rfl⟩, trivial⟩, rfl, rfl⟩⟩;rw [← k1, List.drop_of_length_le (by omega)]; rfl
theorem conK_ok (o : Int) (f : PZ → Bool) (ps : List PZ) (hl : ps.length ≤ 1000000) (hf : ∀ p ∈ ps, IoFn Tryz.prog 140 ([aP p] ++ [.ptr 900 0]) (iB o) (.ret (aB (f p))) (iB o)) :
  IoFn Tryz.prog 139 [.sl 2 eP ps, .fn 140 [.ptr 900 0]] (iB o) (.ret (aB (ps.any f))) (iB o) := by
 refine IoFn.of_body Tryz.func139 rfl Tryz.ntmps139 rfl rfl rfl ?_;have h := idxK_ok o f ps hl hf;have he := idxI_any f ps 0 (by omega);(repeat' (first |refine qv ?_ |apply qn |apply qs |apply qr));refine qi [] h ?_;(repeat' (first |refine qv ?_ |apply qn |apply qt));exact ⟨⟨[], _, _, Ent.refl _ _ _, rfl, AV.Le.bool he, rfl, ⟨⟨⟨_, rfl, BLe.cells (LeL.refl _)⟩, rfl⟩, trivial⟩, rfl, rfl⟩⟩
theorem linkK1_ok (i : Nat) (p : PZ) (hl : p.terms.length ≤ 1000000) (hi : ∀ t ∈ p.terms, i < t.e.length) : IoFn Tryz.prog 140 [aP p, .ptr 900 0] (iB i) (.ret (aB (p.terms.any fun t => decide (0 < t.e.getD i 0)))) (iB i) := by
 refine IoFn.of_body Tryz.func140 rfl Tryz.ntmps140 rfl rfl rfl ?_;have h := conT_ok i (fun t => decide (0 < t.e.getD i 0)) p.terms hl (fun t ht => link11_ok i t (hi t ht));(repeat' (first |refine qv ?_ |apply qn |apply qs |apply qr |refine qe ?_|fail))

 refine qi [] h ?_;(repeat' (first |refine qv ?_ |apply qn |apply qt));exact ⟨⟨[], _, _, Ent.refl _ _ _, rfl, AV.Le.refl _, rfl, ⟨⟨⟨_, rfl, BLe.cells (LeL.refl _)⟩, rfl⟩, trivial⟩, rfl, rfl⟩⟩
end Go.Proofs.YtcaecieigoplbaaGreat
/- Kit.Link, Kit.Eq: the walk. -/
namespace Go.AL
def occP (ls : List (List UT)) (i : Nat) : Bool := ls.any fun p => p.any fun u => decide (0 < u.2.getD i 0)
def occI (ls : List (List UT)) (i : Nat) : List Int := ((List.range i).filter (occP ls)).map fun (j : Nat) => (j : Int)
theorem occI_step (ls : List (List UT)) (i : Nat) : occI ls (i + 1) = if occP ls i = true then occI ls i ++ [(i : Int)] else occI ls i := by
 unfold occI;rw [List.range_succ, List.filter_append, List.map_append];by_cases h : occP ls i = true
 ·rw [if_pos h]; simp [h]
 ·rw [if_neg h]; simp [h]
theorem occI_len (ls : List (List UT)) (i : Nat) : (occI ls i).length ≤ i := by
 unfold occI;rw [List.length_map];exact Nat.le_trans (List.length_filter_le _ _) (by simp)
theorem occI_mem {ls : List (List UT)} {V : Nat} {x : Int} (h : x ∈ occI ls V) : 0 ≤ x ∧ x < V := by
 unfold occI at h;obtain ⟨j, hj, rfl⟩ := List.mem_map.1 h;have := (List.mem_filter.1 hj).1;rw [List.mem_range] at this;omega
theorem occP_any (V : Nat) (ls : List (List UT)) (i : Nat) : ((ls.map (mkP V)).any fun p => p.terms.any fun t => decide (0 < t.e.getD i 0)) = occP ls i := by
 unfold occP;rw [List.any_map];congr 1;funext p;simp only [Function.comp, mkP, List.any_map];rfl
def pickX (occ : List Int) (e : List Int) : List Int := occ.map fun x => e.getD x.toNat 0
theorem pickX_eq (occ : List Nat) (e : List Int) : pickX (occ.map fun (i : Nat) => (i : Int)) e = pickE occ e := by
 unfold pickX pickE;rw [List.map_map];rfl
end Go.AL
namespace Go.Proofs.YtcaecieigoplbaaGreat
open Go.AL

set_option maxHeartbeats 1000000 in
theorem kLink_ok (V : Nat) (kind : Int) (ls : List (List UT)) (hV : V ≤ 32) (hl : ls.length ≤ 1000) (hk : ∀ p ∈ ls, p.length ≤ 3000 ∧ ∀ u ∈ p, u.2.length = V) : PureFn Tryz.prog 68 [aK V, aN kind, .sl 2 eP (ls.map (mkP V))] (aL (linkU V kind ls)) := by
 refine PureFn.of_body Tryz.func68 rfl Tryz.ntmps68 rfl rfl ?_;obtain ⟨L, hL⟩ : ∃ L, L = ls.map (mkP V) := ⟨_, rfl⟩
 have hLl : L.length = ls.length := by rw [hL, List.length_map]
 rw [← hL]
 have hcon : ∀ i : Nat, i < V → IoFn Tryz.prog 139 [.sl 2 eP L, .fn 140 [.ptr 900 0]] (iB i) (.ret (aB (occP ls i))) (iB i) := fun i hi => by
  have h := conK_ok i (fun p => p.terms.any fun t => decide (0 < t.e.getD i 0)) L (by omega) (fun p hp => by
   rw [hL] at hp;obtain ⟨q, hq, rfl⟩ := List.mem_map.1 hp;have := hk q hq;refine linkK1_ok i (mkP V q) (by simp only [mkP, List.length_map]; omega) (fun t ht => ?_);obtain ⟨u, hu, rfl⟩ := List.mem_map.1 ht;have := this.2 u hu;show i < u.2.length
   omega)
  rw [hL, occP_any] at h;rw [hL];exact h
 refine AWP.seqS ?_;(repeat' (first |apply qn |apply qr |refine qe ?_|fail));refine ⟨AWP.seqS ?_⟩;(repeat' (first |refine qv ?_ |apply qn |apply qr |refine qe ?_|fail));refine ⟨?_⟩;refine AWP.ent (Ent.nilcell 7 1 805 rfl rfl rfl 1 eI 3) ?_;(repeat' (first |refine qv ?_ |apply qn |apply qs |apply qr |apply qb));refine AWP.loop (G := Nat) (fun i => i ≤ V) (fun i => St.of [] [(2, .sl 2 eP L), (6, .ptr 6 0), (7, .ptr 7 0), (20, aN V), (21, aN i)] [(6, .cells [aN 0, .v (.slice none 0 0), .v (.slice none 0 0)] 82), (7, .cells [aN kind, .row 700, .v (.slice none 0 0)] 82), (700, .row 1 eI (occI ls i) 3)]) (fun i => V - i) 0 (by omega) ?_ ?_
 ·refine Ent.of [(700, 805)] ?_ ?_ rfl rfl;(repeat' (first |exact True.intro |refine ⟨⟨AV.Le.refl _, rfl⟩, ?_⟩ |refine ⟨⟨⟨_, rfl, BLe.cells (LeL.refl _)⟩, rfl⟩, ?_⟩ |refine ⟨⟨⟨_, rfl, BLe.row rfl⟩, rfl⟩, ?_⟩|fail))
 ·intro i k0;have hol := occI_len ls i;have hst := occI_step ls i;(repeat' (first |refine qv ?_ |apply qn |apply qs |apply qr |refine qe ?_ |(refine AWP.condD rfl ?_ ?_ <;> intro _ <;> try (exfalso; omega)) |apply qb |apply qk |apply qx))
  ·rename_i hi;refine qi [(900, 8)] (hcon i (by omega)) ?_;(repeat' (first |refine qv ?_ |apply qn |apply qr |refine qw ?_ |apply qk |(refine AWP.condB rfl ?_ ?_ <;> intro _)))
   ·rename_i hb;rw [if_pos hb] at hst;refine ql eI [(i : Int)] ?_;skip;refine qa (hby := (by dsimp only [List.length_nil, List.length_cons]; omega)) (hm := (by simp; omega)) (r := ?_);(repeat' (first |refine qv ?_ |apply qn |apply qr |refine qw ?_ |refine qe ?_|fail));refine LoopEnd.of (i + 1) (by omega) (by omega) ?_;refine Ent.of [(700, 31)] ?_ ?_ rfl rfl;(repeat' (first |exact True.intro |refine ⟨⟨AV.Le.refl _, rfl⟩, ?_⟩ |refine ⟨⟨⟨_, rfl, BLe.cells (LeL.refl _)⟩, rfl⟩, ?_⟩ |refine ⟨⟨⟨_, rfl, BLe.row ?_⟩, rfl⟩, ?_⟩|fail));exact hst.symm
   ·rename_i hb;rw [if_neg (by rw [hb]; simp)] at hst;refine LoopEnd.of (i + 1) (by omega) (by omega) ?_;refine Ent.of [] ?_ ?_ rfl rfl;(repeat' (first |exact True.intro |refine ⟨⟨AV.Le.refl _, rfl⟩, ?_⟩ |refine ⟨⟨⟨_, rfl, BLe.cells (LeL.refl _)⟩, rfl⟩, ?_⟩ |refine ⟨⟨⟨_, rfl, BLe.row ?_⟩, rfl⟩, ?_⟩|fail));exact hst.symm
  ·rename_i hi
   have hiV : i = V := by omega
   subst hiV;have hom : ∀ (m : Nat) (x : Int), (occI ls i)[m]? = some x → 0 ≤ x ∧ x < i := fun m x hx => occI_mem (List.mem_of_getElem? hx);have hocc : occI ls i = (occL i ls).map fun (i : Nat) => (i : Int) := rfl
   have hon : (occL i ls).length = (occI ls i).length := by rw [hocc, List.length_map]
   have hres : linkU i kind ls = ⟨kind, occI ls i, ls.map fun p => mkP (occI ls i).length (p.map fun u => (u.1, pickX (occI ls i) u.2))⟩ := by
    unfold linkU;rw [← hocc, hon];congr 1;refine List.map_congr_left fun p _ => ?_;unfold pickU;congr 1;refine List.map_congr_left fun u _ => ?_;rw [hocc, pickX_eq]
   rw [hres]
   generalize occI ls i = occ at *
   refine AWP.ent (Ent.freeze 700 rfl) ?_;refine AWP.ent (Ent.nilcell 7 2 806 rfl rfl rfl 2 eP 70) ?_;skip;refine AWP.loop (G := Nat) (fun j => j ≤ ls.length) (fun j => St.of [] [(6, .ptr 6 0), (7, .ptr 7 0), (34, .sl 2 eP L), (35, aN L.length), (36, aN j)] [(6, .cells [aN 0, .v (.slice none 0 0), .v (.slice none 0 0)] 82), (7, .cells [aN kind, aI occ, .row 701] 82), (701, .row 2 eP ((ls.take j).map fun p => mkP occ.length (p.map fun u => (u.1, pickX occ u.2))) 70)]) (fun j => ls.length - j) 0 (by omega) ?_ ?_
   ·refine Ent.of [(701, 806)] ?_ ?_ rfl rfl;(repeat' (first |exact True.intro |refine ⟨⟨AV.Le.refl _, rfl⟩, ?_⟩ |refine ⟨⟨⟨_, rfl, BLe.cells (LeL.refl _)⟩, rfl⟩, ?_⟩ |refine ⟨⟨⟨_, rfl, BLe.row rfl⟩, rfl⟩, ?_⟩|fail))
   ·intro j g0
    have hlj : ((ls.take j).map fun p => mkP occ.length (p.map fun u => (u.1, pickX occ u.2))).length = j := by rw [List.length_map, List.length_take]; omega
    by_cases hj : j < ls.length
    ·obtain ⟨q, hq⟩ : ∃ q, ls[j]? = some q := ⟨_, List.getElem?_eq_getElem hj⟩
     have hLq : L[j]? = some (mkP i q) := by rw [hL, List.getElem?_map, hq]; rfl
     obtain ⟨hq1, hq2⟩ := hk q (List.mem_of_getElem? hq);refine AWP.seqS ?_;(repeat' (first |refine qv ?_ |apply qn |apply qr));refine ⟨?_⟩;refine AWP.seqS ?_;(repeat' (first |(refine AWP.condD rfl ?_ ?_ <;> intro _ <;> try (exfalso; omega)) |apply qk));refine ⟨?_⟩;refine AWP.seq (AWP.block (AWP.seqS ?_));(repeat' (first |refine qv ?_ |apply qn |apply qr |refine qe ?_ |refine qK ?_|fail));refine ⟨?_⟩;refine AWP.seqS ?_;(repeat' (first |refine qv ?_ |apply qn |apply qr |refine qe ?_|fail));refine ⟨?_⟩;refine AWP.ent (Ent.nilcell 11 1 807 rfl rfl rfl 3 eT 124) ?_;(repeat' (first |refine qv ?_ |apply qn |apply qs |apply qr |apply qb));obtain ⟨T, hT⟩ : ∃ T, T = (mkP i q).terms := ⟨_, rfl⟩
     have hTl : T.length = q.length := by rw [hT]; simp [mkP]
     refine AWP.loop (G := Nat) (fun k => k ≤ q.length) (fun k => St.of [] [(6, .ptr 6 0), (7, .ptr 7 0), (34, .sl 2 eP L), (35, aN L.length), (36, aN j), (11, .ptr 11 0), (45, .sl 3 eT T), (46, aN T.length), (47, aN k)] [(6, .cells [aN 0, .v (.slice none 0 0), .v (.slice none 0 0)] 82), (7, .cells [aN kind, aI occ, .row 701] 82), (701, .row 2 eP ((ls.take j).map fun p => mkP occ.length (p.map fun u => (u.1, pickX occ u.2))) 70), (11, .cells [aN occ.length, .row 702] 70), (702, .row 3 eT (((q.take k).map fun u => (u.1, pickX occ u.2)).map tz) 124)]) (fun k => q.length - k) 0 (by omega) ?_ ?_
     ·refine Ent.of [(702, 807)] ?_ ?_ rfl rfl;(repeat' (first |exact True.intro |refine ⟨⟨AV.Le.refl _, rfl⟩, ?_⟩ |refine ⟨⟨⟨_, rfl, BLe.cells (LeL.refl _)⟩, rfl⟩, ?_⟩ |refine ⟨⟨⟨_, rfl, BLe.row rfl⟩, rfl⟩, ?_⟩ |refine ⟨⟨AV.Le.int ?_, rfl⟩, ?_⟩ |refine ⟨⟨AV.Le.sl ?_, rfl⟩, ?_⟩|fail))
      ·exact hT.symm
      ·rw [hTl]; simp [mkP]
     ·intro k e0
      have hlk : (((q.take k).map fun u => (u.1, pickX occ u.2)).map tz).length = k := by rw [List.length_map, List.length_map, List.length_take]; omega
      by_cases hkq : k < q.length
      ·obtain ⟨u, hu⟩ : ∃ u, q[k]? = some u := ⟨_, List.getElem?_eq_getElem hkq⟩
       have hTu : T[k]? = some (tz u) := by rw [hT]; show (q.map tz)[k]? = _; rw [List.getElem?_map, hu]; rfl
       have hul := hq2 u (List.mem_of_getElem? hu);refine AWP.seqS ?_;(repeat' (first |refine qv ?_ |apply qn |apply qr));refine ⟨?_⟩;refine AWP.seqS ?_;(repeat' (first |(refine AWP.condD rfl ?_ ?_ <;> intro _ <;> try (exfalso; omega)) |apply qk));refine ⟨AWP.seq (AWP.block (AWP.seqS ?_))⟩;(repeat' (first |refine qv ?_ |apply qn |apply qr |refine qe ?_ |refine qK ?_|fail));refine ⟨AWP.seqS ?_⟩;(repeat' (first |refine qv ?_ |apply qr));refine Fl.make0 rfl rfl rfl rfl rfl rfl rfl rfl rfl eI (by omega) (by dsimp only; omega) (by omega) ?_;(repeat' (first |refine qv ?_ |apply qn));refine ⟨AWP.seq ?_⟩;(repeat' (first |refine qv ?_ |apply qn |apply qs |apply qr |apply qb));refine AWP.loop (G := Nat) (fun m => m ≤ occ.length) (fun m => St.of [] [(6, .ptr 6 0), (7, .ptr 7 0), (34, .sl 2 eP L), (35, aN L.length), (36, aN j), (11, .ptr 11 0), (45, .sl 3 eT T), (46, aN T.length), (47, aN k), (13, .ptr 13 0), (14, .row 703), (56, aI occ), (57, aN occ.length), (58, aN m)] [(6, .cells [aN 0, .v (.slice none 0 0), .v (.slice none 0 0)] 82), (7, .cells [aN kind, aI occ, .row 701] 82), (701, .row 2 eP ((ls.take j).map fun p => mkP occ.length (p.map fun u => (u.1, pickX occ u.2))) 70), (11, .cells [aN occ.length, .row 702] 70), (702, .row 3 eT (((q.take k).map fun u => (u.1, pickX occ u.2)).map tz) 124), (13, .cells (eT (tz u)) 124), (703, .row 1 eI ((occ.take m).map fun x => u.2.getD x.toNat 0) 3)]) (fun m => occ.length - m) 0 (by omega) ?_ ?_
       ·refine Ent.of [(703, 54)] ?_ ?_ rfl rfl;(repeat' (first |exact True.intro |refine ⟨⟨AV.Le.refl _, rfl⟩, ?_⟩ |refine ⟨⟨⟨_, rfl, BLe.cells (LeL.refl _)⟩, rfl⟩, ?_⟩ |refine ⟨⟨⟨_, rfl, BLe.row rfl⟩, rfl⟩, ?_⟩|fail))
       ·intro m m0
        have hlm : ((occ.take m).map fun x => u.2.getD x.toNat 0).length = m := by rw [List.length_map, List.length_take]; omega
        by_cases hm : m < occ.length
        ·obtain ⟨x, hx⟩ : ∃ x, occ[m]? = some x := ⟨_, List.getElem?_eq_getElem hm⟩;have hxb := hom m x hx;obtain ⟨y, hy⟩ : ∃ y, u.2[x.toNat]? = some y := ⟨_, List.getElem?_eq_getElem (by omega)⟩;(repeat' (first |refine qv ?_ |apply qn |apply qs |apply qr |(refine AWP.condD rfl ?_ ?_ <;> intro _ <;> try (exfalso; omega)) |apply qb |apply qk |refine qK ?_|fail));refine ql eI [y] ?_;skip;refine qa (hby := (by dsimp only [List.length_nil, List.length_cons]; omega)) (hm := (by dsimp only [List.length_nil, List.length_cons]; omega)) (r := ?_);(repeat' (first |refine qv ?_ |apply qn |apply qr |refine qw ?_|fail));refine LoopEnd.of (m + 1) (by omega) (by omega) ?_;refine Ent.of [(703, 69)] ?_ ?_ rfl rfl;(repeat' (first |exact True.intro |refine ⟨⟨AV.Le.refl _, rfl⟩, ?_⟩ |refine ⟨⟨⟨_, rfl, BLe.cells (LeL.refl _)⟩, rfl⟩, ?_⟩ |refine ⟨⟨⟨_, rfl, BLe.row rfl⟩, rfl⟩, ?_⟩ |refine ⟨⟨⟨_, rfl, BLe.row ?_⟩, rfl⟩, ?_⟩|fail));rw [take_snoc hx, List.map_append];congr 1;show [y] = [u.2.getD x.toNat 0];rw [List.getD_eq_getElem?_getD, hy];rfl
        ·have htm : occ.take m = occ := List.take_of_length_le (by omega);rw [htm];refine AWP.ent (Ent.freeze 703 rfl) ?_;(repeat' (first |refine qv ?_ |apply qn |apply qs |apply qr |refine qe ?_ |(refine AWP.condD rfl ?_ ?_ <;> intro _ <;> try (exfalso; omega)) |apply qx));refine ql eT [tz (u.1, pickX occ u.2)] ?_;skip;refine qa (hby := (by dsimp only [List.length_nil, List.length_cons]; omega)) (hm := (by dsimp only [List.length_nil, List.length_cons]; omega)) (r := ?_);(repeat' (first |refine qv ?_ |apply qn |apply qr |refine qw ?_ |refine qe ?_|fail));refine LoopEnd.of (k + 1) (by omega) (by omega) ?_;refine Ent.of [(702, 78)] ?_ ?_ rfl rfl;(repeat' (first |exact True.intro |refine ⟨⟨AV.Le.refl _, rfl⟩, ?_⟩ |refine ⟨⟨⟨_, rfl, BLe.cells (LeL.refl _)⟩, rfl⟩, ?_⟩ |refine ⟨⟨⟨_, rfl, BLe.row rfl⟩, rfl⟩, ?_⟩ |refine ⟨⟨⟨_, rfl, BLe.row ?_⟩, rfl⟩, ?_⟩|fail));rw [take_snoc hu, List.map_append, List.map_append];rfl
      ·have htk : q.take k = q := List.take_of_length_le (by omega);rw [htk];refine AWP.ent (Ent.freeze 702 rfl) ?_;(repeat' (first |refine qv ?_ |apply qn |apply qs |apply qr |(refine AWP.condD rfl ?_ ?_ <;> intro _ <;> try (exfalso; omega)) |apply qx));refine ql eP [mkP occ.length (q.map fun u => (u.1, pickX occ u.2))] ?_;skip;refine qa (hby := (by dsimp only [List.length_nil, List.length_cons]; omega)) (hm := (by dsimp only [List.length_nil, List.length_cons]; omega)) (r := ?_);(repeat' (first |refine qv ?_ |apply qn |apply qr |refine qw ?_ |refine qe ?_|fail));refine LoopEnd.of (j + 1) (by omega) (by omega) ?_;refine Ent.of [(701, 85)] ?_ ?_ rfl rfl;(repeat' (first |exact True.intro |refine ⟨⟨AV.Le.refl _, rfl⟩, ?_⟩ |refine ⟨⟨⟨_, rfl, BLe.cells (LeL.refl _)⟩, rfl⟩, ?_⟩ |refine ⟨⟨⟨_, rfl, BLe.row ?_⟩, rfl⟩, ?_⟩|fail));rw [take_snoc hq, List.map_append];rfl
    ·have htj : ls.take j = ls := List.take_of_length_le (by omega);rw [htj];refine AWP.ent (Ent.freeze 701 rfl) ?_;(repeat' (first |refine qv ?_ |apply qn |apply qs |apply qr |refine qe ?_ |(refine AWP.condD rfl ?_ ?_ <;> intro _ <;> try (exfalso; omega)) |apply qx |apply qt));exact RetOk.of rfl (AV.Le.refl _)
theorem kEq_ok (V : Nat) (hV : V ≤ 32) (p q l : List UT) (hp : chkU V p p = true) (hq : chkU V q q = true) (h : chkU V (addUs (-1) p q) l = true) (hl : l.length ≤ 3000 ∧ ∀ u ∈ l, u.2.length = V) : PureFn Tryz.prog 69 [aK V, aP (mkP V p), aP (mkP V q)] (aL (linkU V 0 [l])) := by
 refine PureFn.of_body Tryz.func69 rfl Tryz.ntmps69 rfl rfl ?_;have hk := kLink_ok V 0 [l] hV (by simp) (by simpa using hl);(repeat' (first |refine qv ?_ |apply qn |apply qs |apply qr |refine qe ?_|fail));refine qc (kSub_ok V hV p q l hp hq h) ?_;skip;refine ql eP [mkP V l] ?_;skip;refine qc (hk) ?_;(repeat' (first |refine Fl.nil (fun _ => by kernel_rfl) ?_ |refine qe ?_ |apply qt));exact RetOk.of rfl (AV.Le.refl _)
end Go.Proofs.YtcaecieigoplbaaGreat
/- Method values of plain receivers: made, called. -/
namespace Go.AL
section
variable {P : Program} {tab : Tab} {n : Nat} {s : St}
variable {ops : Array Oper} {draw : Dr} {o : Oper} {l : List Oper} {acc : List Eff} {K : Exit → St → Prop}
abbrev bfn (f : FuncId) (us : List Value) : AV := .v (.func (.func f) #[.agg us.toArray] #[])
theorem Runs.bound {f : FuncId} {x : Operand} {args : List Operand} {ts : Array TypeId} {us : List Value} (hop : o.op = .call { callee := .value x, args := ⟨args⟩, argTypes := ts }) (hx : opd s x = bfn f us) : Runs P n o s f (.v (.agg us.toArray) :: opds s args) := by
 refine ⟨fun s' C a w h β hs k => ?_⟩
 have hxs : opd s' x = opd s x := by
  cases x with
  | tmp t => exact hs t (by rw [hop]; simp [Op.operands, Call.operands])
  | _ => rfl
 have hxr := opd_rep k x;rw [hxs, hx] at hxr;simp only [Rep] at hxr
 have hps : opds s' args = opds s args := opds_same args fun x hx => by
  cases x with
  | tmp t => exact hs t (by rw [hop]; simp [Op.operands, Call.operands, hx])
  | _ => rfl
 have hr := opds_rep k args;rw [hps] at hr;refine ⟨#[.agg us.toArray] ++ (args.map a.eval).toArray, fun hfn => ?_, ?_⟩
 ·simp only [execOp, hop, resolve, hxr, Deferred.ofValue, Sem.run_bind, Sem.run_pure, Result.andThen, invoke, List.map_toArray];have := run_callFunc hfn (#[.agg us.toArray] ++ (args.map a.eval).toArray) w;simpa using this
 ·simp only [RepL];exact ⟨.agg us.toArray, args.map a.eval, by simp, by simp only [Rep], hr⟩
end
end Go.AL
/- arithmancy/mask.Links: the system. Written by links.py. -/
namespace Go.AL
def okLk (V : Nat) (ls : List (List UT)) : Bool := ls.all fun p => Nat.ble p.length 3000 && p.all fun u => Nat.beq u.2.length V
theorem okLk_ok {V : Nat} {ls : List (List UT)} (h : okLk V ls = true) : ∀ p ∈ ls, p.length ≤ 3000 ∧ ∀ u ∈ p, u.2.length = V := fun p hp => by
 have := List.all_eq_true.1 h p hp;simp only [Bool.and_eq_true, List.all_eq_true] at this;exact ⟨Nat.le_of_ble_eq_true this.1, fun u hu => Nat.eq_of_beq_eq_true (this.2 u hu)⟩
end Go.AL
namespace Go.Proofs.YtcaecieigoplbaaGreat
open Go.AL
end Go.Proofs.YtcaecieigoplbaaGreat
/- The values of built links. -/
namespace Go.AL
theorem pick_prod (P : Nat → Bool) (Y E : List Int) : ∀ (n k : Nat), (∀ i, k ≤ i → i < k + n → P i = false → E.getD i 0 = 0) →
  prodE (((List.range' k n).filter P).map fun i => Y.getD i 0) (((List.range' k n).filter P).map fun i => E.getD i 0) = prodE ((List.range' k n).map fun i => Y.getD i 0) ((List.range' k n).map fun i => E.getD i 0)
 | 0, k, _ => rfl
 | n + 1, k, h => by
  have ih := pick_prod P Y E n (k + 1) fun i h1 h2 h3 => h i (by omega) (by omega) h3;rw [List.range'_succ, List.filter_cons];by_cases hp : P k = true
  ·rw [if_pos hp];simp only [List.map_cons, prodE, ih]
  ·rw [if_neg hp, ih];have h0 := h k (Nat.le_refl _) (by omega) (by simpa using hp);simp only [List.map_cons, prodE, h0];simp
theorem map_range_getD {V : Nat} {X : List Int} (h : X.length = V) : ((List.range V).map fun i => X.getD i 0) = X := by
 subst h;refine List.ext_getElem (by simp) fun i h1 h2 => ?_;simp [List.getD_eq_getElem?_getD, List.getElem?_eq_getElem h2]
def auv (X : List Int) (p : List UT) : Int := sumL (p.map fun u => ((u.1 * prodE X u.2).natAbs : Int))
theorem pick_term {V : Nat} {X : List Int} (hX : X.length = V) {ls : List (List UT)} {p : List UT} (hp : p ∈ ls) {u : UT} (hu : u ∈ p) (hl : u.2.length = V) (he : EOk u.2) :
  prodE (atOf X ((occL V ls).map fun (i : Nat) => (i : Int))) (pickE (occL V ls) u.2) = prodE X u.2 := by
 have e1 : atOf X ((occL V ls).map fun (i : Nat) => (i : Int)) = (occL V ls).map fun i => X.getD i 0 := by
  unfold atOf;rw [List.map_map];rfl
 have h := pick_prod (occP ls) X u.2 V 0 fun i _ h2 h3 => by
  have hb : i < u.2.length := by omega
  have hn : ¬ 0 < u.2.getD i 0 := fun hc => by
   have : occP ls i = true := List.any_eq_true.2 ⟨p, hp, List.any_eq_true.2 ⟨u, hu, by simpa using hc⟩⟩;rw [this] at h3; cases h3
  have hge : 0 ≤ u.2.getD i 0 := by
   rw [List.getD_eq_getElem?_getD, List.getElem?_eq_getElem hb];exact (he _ (List.getElem_mem hb)).1
  omega
 rw [← List.range_eq_range'] at h;rw [e1];unfold pickE occL;rw [show (List.filter (fun i => ls.any fun p => p.any fun u => decide (0 < u.2.getD i 0)) (List.range V)) = (List.range V).filter (occP ls) from rfl, h, map_range_getD hX, map_range_getD hl]
theorem tv_tz (X : List Int) (u : UT) : tv X (tz u) = u.1 * prodE X u.2 := by
 show zval (zOf u.1) * prodE X u.2 = _;rw [zval_zOf]
def nnU (V : Nat) (p : List UT) : Prop := ∀ u ∈ p, u.2.length = V ∧ EOk u.2
theorem pick_val {V n : Nat} {X : List Int} (hX : X.length = V) {ls : List (List UT)} {p : List UT} (hp : p ∈ ls) (hl : nnU V p) :
  pv (atOf X ((occL V ls).map fun (i : Nat) => (i : Int))) (mkP n (pickU (occL V ls) p)) = uv X p := by
 rw [pv_sum];unfold mkP pickU uv;simp only [List.map_map];congr 1;refine List.map_congr_left fun u hu => ?_;show tv _ (tz (u.1, pickE (occL V ls) u.2)) = _;rw [tv_tz, pick_term hX hp hu (hl u hu).1 (hl u hu).2]
theorem pick_abs {V n : Nat} {X : List Int} (hX : X.length = V) {ls : List (List UT)} {p : List UT} (hp : p ∈ ls) (hl : nnU V p) :
  AS (atOf X ((occL V ls).map fun (i : Nat) => (i : Int))) (mkP n (pickU (occL V ls) p)).terms = auv X p := by
 unfold mkP pickU AS auv;simp only [List.map_map];congr 1;refine List.map_congr_left fun u hu => ?_;show ((tv _ (tz (u.1, pickE (occL V ls) u.2))).natAbs : Int) = _;rw [tv_tz, pick_term hX hp hu (hl u hu).1 (hl u hu).2]
theorem lvals_linkU {V : Nat} {X : List Int} (hX : X.length = V) {kind : Int} {ls : List (List UT)} (h : ∀ p ∈ ls, nnU V p) : lvals X (linkU V kind ls) = ls.map (uv X) := by
 unfold lvals linkU;simp only [List.map_map];exact List.map_congr_left fun p hp => pick_val hX hp (h p hp)
theorem plop_abs (v : Int) : 0 ≤ plI v ∧ plI v ≤ v.natAbs ∧ opI v ≤ 0 ∧ -(v.natAbs : Int) ≤ opI v := by
 unfold plI opI;split <;> omega
theorem PS_ASm (X : List Int) : ∀ l : List TZ, 0 ≤ PS X l ∧ PS X l ≤ AS X l ∧ OS X l ≤ 0 ∧ -AS X l ≤ OS X l
 | [] => by simp [PS, OS, AS, sumL]
 | t :: l => by
  have h1 := PS_ASm X l;have h2 := plop_abs (tv X t);simp only [PS, AS, OS, List.map_cons, sumL] at h1 ⊢;omega
theorem EvOk.ofA {X : List Int} {p : PZ} (h : Fit (AS X p.terms)) : EvOk X p := by
 have h1 := PS_ASm X p.terms;exact ⟨h.le (by omega), h.le (by omega)⟩
theorem evL_linkU {V : Nat} {X : List Int} (hX : X.length = V) {kind : Int} {ls : List (List UT)} (h : ∀ p ∈ ls, nnU V p) (hf : ∀ p ∈ ls, Fit (auv X p)) : EvL X (linkU V kind ls) := by
 intro q hq;obtain ⟨p, hp, rfl⟩ := List.mem_map.1 hq;refine EvOk.ofA ?_;show Fit (AS (atOf X ((occL V ls).map fun (i : Nat) => (i : Int))) (mkP (occL V ls).length (pickU (occL V ls) p)).terms);rw [pick_abs hX hp (h p hp)];exact hf p hp
def okLU (V : Nat) (kind : Int) (ls : List (List UT)) : Bool :=
  decide (needI kind ≠ 0) && decide ((ls.length : Int) = needI kind) && ls.all (fun p => chkU (occL V ls).length (pickU (occL V ls) p) (pickU (occL V ls) p) && p.all (okU V))
theorem incB_range (P : Nat → Bool) : ∀ (n k : Nat) (last top : Int), last < k → ((k + n : Nat) : Int) ≤ top → incB last top (((List.range' k n).filter P).map fun (i : Nat) => (i : Int))
 | 0, _, _, _, _, _ => by simp [incB]
 | n + 1, k, last, top, h1, h2 => by
  rw [List.range'_succ, List.filter_cons];by_cases hp : P k = true
  ·rw [if_pos hp];simp only [List.map_cons, incB];exact ⟨h1, by omega, incB_range P n (k + 1) k top (by omega) (by omega)⟩
  ·rw [if_neg hp];exact incB_range P n (k + 1) last top (by omega) (by omega)
theorem okLU_ok {V : Nat} (hV : V ≤ 32) {kind : Int} {ls : List (List UT)} (h : okLU V kind ls = true) : OkL V (linkU V kind ls) ∧ WL (linkU V kind ls) ∧ ∀ p ∈ ls, nnU V p := by
 simp only [okLU, Bool.and_eq_true, decide_eq_true_eq, List.all_eq_true] at h;obtain ⟨⟨h1, h2⟩, h3⟩ := h
 have hn : (occL V ls).length ≤ V := by
  unfold occL;exact Nat.le_trans (List.length_filter_le _ _) (by simp)
 refine ⟨⟨h1, by simp only [linkU, List.length_map]; exact h2, by simp only [linkU, List.length_map]; omega, ?_, fun q hq => ?_⟩, fun q hq => ?_, fun p hp u hu => okU_ok ((h3 p hp).2 u hu)⟩
 ·have := incB_range (occP ls) V 0 (-1) V (by omega) (by omega);rw [← List.range_eq_range'] at this;exact this
 ·obtain ⟨p, hp, rfl⟩ := List.mem_map.1 hq;obtain ⟨a, b, c⟩ := mk_ok (V := (occL V ls).length) (by omega) (h3 p hp).1;exact ⟨by simp [linkU, mkP], a⟩
 ·obtain ⟨p, hp, rfl⟩ := List.mem_map.1 hq;exact (mk_ok (V := (occL V ls).length) (by omega) (h3 p hp).1).2.2
end Go.AL
/- The values of built polynomials; bounds. -/
namespace Go.AL
theorem prodE_zeros : ∀ (X : List Int) (n : Nat), prodE X (List.replicate n 0) = 1
 | [], 0 => rfl
 | [], _ + 1 => rfl
 | _ :: _, 0 => rfl
 | x :: X, n + 1 => by rw [List.replicate_succ, prodE, prodE_zeros X n]; simp
theorem prodE_unit : ∀ (X : List Int) (i : Nat), i < X.length → prodE X (unU X.length i) = X.getD i 0
 | [], i, h => by simp at h
 | x :: X, 0, _ => by
  unfold unU;rw [List.length_cons, List.replicate_succ, List.set_cons_zero, prodE, prodE_zeros];simp [Int.pow_succ]
 | x :: X, i + 1, h => by
  have ih := prodE_unit X i (by simpa using h);unfold unU at ih ⊢;rw [List.length_cons, List.replicate_succ, List.set_cons_succ, prodE, ih];simp
theorem uv_con (X : List Int) (V : Nat) (c : Int) : uv X (conU V c) = c := by
 unfold conU uv;split
 ·rename_i h; rw [h]; rfl
 ·simp [sumL, prodE_zeros]
theorem uv_var {X : List Int} {V i : Nat} (hX : X.length = V) (hi : i < V) : uv X (varU V i) = X.getD i 0 := by
 subst hX;unfold varU uv;simp only [List.map_cons, List.map_nil, sumL, prodE_unit X i hi];omega
theorem pv_mkP (X : List Int) (V : Nat) (p : List UT) : pv X (mkP V p) = uv X p := by
 rw [pv_sum];unfold mkP uv;simp only [List.map_map];congr 1;exact List.map_congr_left fun u _ => tv_tz X u
theorem chkU_UOk {V : Nat} {us l : List UT} (h : chkU V us l = true) : UOk V us := by
 simp only [chkU, Bool.and_eq_true, List.all_eq_true] at h;exact fun u hu => okU_ok (h.1.1.1.1.1.1.1 u hu)
theorem uv_chk {V : Nat} (hV : V ≤ 32) {us l : List UT} (h : chkU V us l = true) (X : List Int) : uv X l = uv X us := by
 have := (chkU_ok hV h).val hV (chkU_UOk h) X;rwa [pv_mkP] at this
theorem uv_scale (X : List Int) (b : Int) (q : List UT) : uv X (q.map fun u => (u.1 * b, u.2)) = uv X q * b := by
 unfold uv
 induction q with
 | nil => simp [sumL]
 | cons u q ih =>
  simp only [List.map_cons, sumL] at ih ⊢;rw [ih]; grind
theorem uv_addUs (X : List Int) (b : Int) (p q : List UT) : uv X (addUs b p q) = uv X p + uv X q * b := by
 unfold addUs;rw [uv_append, uv_scale]
theorem uv_mulUs {V : Nat} (X : List Int) {p q : List UT} (hp : nnU V p) (hq : nnU V q) : uv X (mulUs p q) = uv X p * uv X q := by
 unfold mulUs
 induction p with
 | nil => simp [uv, sumL]
 | cons t p ih =>
  rw [List.flatMap_cons, uv_append, ih fun u hu => hp u (by simp [hu])];have ht := hp t (by simp)
  have h1 : uv X (q.map fun u => (t.1 * u.1, addE t.2 u.2)) = t.1 * prodE X t.2 * uv X q := by
   clear ih;unfold uv
   induction q with
   | nil => simp [sumL]
   | cons u q ih2 =>
    have hu := hq u (by simp);simp only [List.map_cons, sumL];rw [ih2 fun v hv => hq v (by simp [hv]), prodE_add ht.2 hu.2 (by rw [ht.1, hu.1])];grind
  rw [h1];show _ = (t.1 * prodE X t.2 + uv X p) * uv X q;grind
theorem chk_nn {V : Nat} {p : List UT} (h : chkU V p p = true) : nnU V p := chkU_UOk h
theorem uv_sums {V : Nat} (hV : V ≤ 32) (X : List Int) : ∀ (ls : List (List UT)) (acc : List UT), okSums V acc ls = true → uv X (sumsU acc ls) = uv X acc + sumL (ls.map (uv X))
 | [], acc, _ => by simp [sumsU, sumL]
 | p :: ls, acc, h => by
  obtain ⟨c1, c2, c3, c4⟩ := okSums_cons h;show uv X (sumsU (addL acc p) ls) = _;rw [uv_sums hV X ls _ c4, uv_chk hV c3, uv_addUs];simp only [List.map_cons, sumL];omega
def prodL : List Int → Int
  | [] => 1
  | x :: l => x * prodL l
theorem uv_muls {V : Nat} (hV : V ≤ 32) (X : List Int) : ∀ (ls : List (List UT)) (acc : List UT), okMuls V acc ls = true → uv X (mulsU acc ls) = uv X acc * prodL (ls.map (uv X))
 | [], acc, _ => by simp [mulsU, prodL]
 | p :: ls, acc, h => by
  obtain ⟨c1, c2, c3, c4, c5⟩ := okMuls_cons h;show uv X (mulsU (mulL2 acc p) ls) = _;rw [uv_muls hV X ls _ c5, uv_chk hV c4, uv_mulUs X (chk_nn c1) (chk_nn c2)];simp only [List.map_cons, prodL];rw [Int.mul_assoc]
theorem uv_sub {V : Nat} (hV : V ≤ 32) (X : List Int) {p q : List UT} (h : chkU V (addUs (-1) p q) (subL p q) = true) : uv X (subL p q) = uv X p - uv X q := by
 rw [uv_chk hV h, uv_addUs]; omega
end Go.AL

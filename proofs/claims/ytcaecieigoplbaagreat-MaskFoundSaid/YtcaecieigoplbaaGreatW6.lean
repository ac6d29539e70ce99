/- Part 6 of a proof layer and of the contracts of the functions (XR3 XR6 XQ0 XRG XRH XRI XRJ XRK XRL XRM XRN XRO XRV XRP XRQ XU0 XU2 XRS XRX). -/
import Derived.Test.YtcaecieigoplbaaGreatW5
set_option linter.unusedVariables false
set_option linter.unusedSimpArgs false
/- Sums by inspection: the lists that are asked for. -/
namespace Go.AL
theorem sorted_ext : ∀ {a b : List TZ}, a.Pairwise (fun x y => ordI x.e y.e < 0) → b.Pairwise (fun x y => ordI x.e y.e < 0) → (∀ t, t ∈ a ↔ t ∈ b) → a = b
  | [], [], _, _, _ => rfl
  | [], y :: b, _, _, h => by have := (h y).2 (by simp); cases this
  | x :: a, [], _, _, h => by have := (h x).1 (by simp); cases this
  | x :: a, y :: b, ha, hb, h => by
    rw [List.pairwise_cons] at ha hb
    have irr : ∀ t : TZ, ¬ ordI t.e t.e < 0 := fun t k => by rw [ordI_refl] at k; omega
    have hxy : x = y := by
      rcases List.mem_cons.1 ((h x).1 (by simp)) with h1 | h1
      · exact h1
      · rcases List.mem_cons.1 ((h y).2 (by simp)) with h2 | h2
        · exact h2.symm
        · exact absurd (ordI_trans (hb.1 x h1) (ha.1 y h2)) (irr y)
    subst hxy
    rw [sorted_ext ha.2 hb.2 fun t => ?_]
    constructor
    · intro ht
      rcases List.mem_cons.1 ((h t).1 (by simp [ht])) with h1 | h1
      · subst h1; exact absurd (ha.1 t ht) (irr t)
      · exact h1
    · intro ht
      rcases List.mem_cons.1 ((h t).2 (by simp [ht])) with h1 | h1
      · subst h1; exact absurd (hb.1 t ht) (irr t)
      · exact h1
def sortedU : List UT → Bool
  | [] => true
  | u :: l => l.all (fun v => decide (ordI u.2 v.2 < 0)) && sortedU l
theorem sortedU_pw : ∀ {l : List UT}, sortedU l = true → l.Pairwise fun u v => ordI u.2 v.2 < 0
  | [], _ => List.Pairwise.nil
  | u :: l, h => by
    simp only [sortedU, Bool.and_eq_true, List.all_eq_true, decide_eq_true_eq] at h
    exact List.pairwise_cons.2 ⟨h.1, sortedU_pw h.2⟩
def okU (V : Nat) (u : UT) : Bool := Nat.beq u.2.length V && u.2.all fun x => decide (0 ≤ x) && decide (x ≤ 120)
def chkU (V : Nat) (us l : List UT) : Bool :=
  us.all (okU V) && l.all (fun u => okU V u && decide (u.1 ≠ 0) && decide (sumL u.2 ≤ 120)) && sortedU l && decide (l.length ≤ 3000) && decide (absU us < 4294967296) && decide (absU l < 4294967296) && us.all (fun u => decide (cfU us u.2 = cfU l u.2)) && l.all (fun u => decide (cfU us u.2 = cfU l u.2))
theorem okU_ok {V : Nat} {u : UT} (h : okU V u = true) : u.2.length = V ∧ EOk u.2 := by
  simp only [okU, Bool.and_eq_true, List.all_eq_true, decide_eq_true_eq] at h
  exact ⟨Nat.eq_of_beq_eq_true h.1, fun e he => h.2 e he⟩
theorem cfU_zero : ∀ {us : List UT} {e : List Int}, (∀ u ∈ us, u.2 ≠ e) → cfU us e = 0
  | [], _, _ => rfl
  | u :: us, e, h => by
    simp only [cfU, if_neg (h u (by simp)), cfU_zero (us := us) fun v hv => h v (by simp [hv])]
    rfl
theorem cfU_one : ∀ {l : List UT} {u : UT}, l.Pairwise (fun u v => ordI u.2 v.2 < 0) → u ∈ l → cfU l u.2 = u.1
  | v :: l, u, hp, hu => by
    rw [List.pairwise_cons] at hp
    rcases List.mem_cons.1 hu with rfl | hu
    · simp only [cfU, if_true]
      rw [cfU_zero (us := l) fun w hw k => by have := hp.1 w hw; rw [k, ordI_refl] at this; omega]
      omega
    · have := hp.1 u hu
      have hne : ¬ v.2 = u.2 := fun k => by rw [k, ordI_refl] at this; omega
      simp only [cfU, if_neg hne, cfU_one hp.2 hu]
      omega
theorem cfU_mem {us : List UT} {e : List Int} (h : cfU us e ≠ 0) : ∃ u ∈ us, u.2 = e := by
  rcases Classical.em (∃ u ∈ us, u.2 = e) with k | k
  · exact k
  · exact absurd (cfU_zero fun u hu he => k ⟨u, hu, he⟩) h
theorem absU_mem : ∀ {l : List UT} {u : UT}, u ∈ l → u.1.natAbs ≤ absU l
  | v :: l, u, h => by
    rcases List.mem_cons.1 h with rfl | h
    · simp only [absU]; omega
    · have := absU_mem h; simp only [absU]; omega
theorem chkU_ok {V : Nat} (hV : V ≤ 32) {us l : List UT} (h : chkU V us l = true) : SumOk V us (mkP V l) := by
  simp only [chkU, Bool.and_eq_true, List.all_eq_true, decide_eq_true_eq] at h
  obtain ⟨⟨⟨⟨⟨⟨⟨h1, h2⟩, h3⟩, h4⟩, h5⟩, h6⟩, h7⟩, h8⟩ := h
  have hus : UOk V us := fun u hu => okU_ok (h1 u hu)
  have hpw := sortedU_pw h3
  obtain ⟨s, r1, r2, r3⟩ := runM_cf hV us ([], 0) [] (MOk.nil V) hus (fun e _ => by simp [getM, findM, cfU]) (by simp only [absU]; omega)
  simp only [List.nil_append] at r3
  have hstr : (sortT (s.1.map (tmM V))).Pairwise fun a b => ordI a.e b.e < 0 := by
    have p1 := sortT_sorted (s.1.map (tmM V))
    have p2 := (List.Perm.pairwise_iff (fun h => Ne.symm h) (sortT_perm (s.1.map (tmM V)))).2 r2.parts
    refine (p1.and p2).imp fun {a b} hab => ?_
    rcases leT_iff.1 hab.1 with k | k
    · exact k
    · exact absurd k hab.2
  have hget : ∀ p ∈ s.1, getM p.1 s.1 = p.2.1 := by
    intro p hp
    obtain ⟨A, B, hAB⟩ := List.append_of_mem hp
    have hk := r2.keys
    rw [hAB] at hk ⊢
    rw [List.pairwise_append] at hk
    exact getM_of rfl fun q hq => hk.2.2 q hq p (by simp)
  have hl : sortT (s.1.map (tmM V)) = l.map tz := by
    refine sorted_ext hstr (by rw [List.pairwise_map]; exact hpw) fun t => ?_
    rw [(sortT_perm _).mem_iff]
    constructor
    · intro ht
      obtain ⟨p, hp, rfl⟩ := List.mem_map.1 ht
      obtain ⟨e, he, k1, k2, k3⟩ := r2.exp p hp
      have hc : cfU us e = p.2.1 := by
        rw [← r3 e k2, exK_eq he, ← k1]; exact hget p hp
      obtain ⟨u, hu, hue⟩ := cfU_mem (us := us) (e := e) (by rw [hc]; exact r2.nz p hp)
      have hc2 : cfU l e = p.2.1 := by rw [← hc, ← hue]; exact (h7 u hu).symm
      obtain ⟨v, hv, hve⟩ := cfU_mem (us := l) (e := e) (by rw [hc2]; exact r2.nz p hp)
      have hv1 := cfU_one hpw hv
      rw [hve, hc2] at hv1
      refine List.mem_map.2 ⟨v, hv, ?_⟩
      have he2 := tmM_exp k1 k2
      show (⟨zOf v.1, v.2⟩ : TZ) = tmM V p
      rw [← hv1, hve]
      show (⟨zOf p.2.1, e⟩ : TZ) = ⟨zOf p.2.1, (tmM V p).e⟩
      rw [he2]
    · intro ht
      obtain ⟨v, hv, rfl⟩ := List.mem_map.1 ht
      have hv2 := h2 v hv
      obtain ⟨hl1, _⟩ := okU_ok hv2.1.1
      have hc : getM (exK v.2) s.1 = v.1 := by rw [r3 _ hl1, h8 v hv]; exact cfU_one hpw hv
      unfold getM at hc
      cases hf : findM (exK v.2) s.1 0 with
      | none => rw [hf] at hc; exact absurd hc.symm hv2.1.2
      | some q =>
        obtain ⟨j, p⟩ := q
        rw [hf] at hc
        have hc : p.2.1 = v.1 := hc
        obtain ⟨_, g1, g2⟩ := findM_get hf
        refine List.mem_map.2 ⟨p, List.mem_of_getElem? g1, ?_⟩
        have h32 : v.2.length ≤ 32 := by omega
        have he2 := tmM_exp (V := V) (p := p) (he := h32) (by rw [← exK_eq h32]; exact g2) hl1
        show (⟨zOf p.2.1, (tmM V p).e⟩ : TZ) = ⟨zOf v.1, v.2⟩
        rw [he2, hc]
  refine ⟨s, r1, by rw [hl]; rfl, ⟨by simp [mkP], by simp [mkP]; omega, by simpa [mkP] using h4, fun t ht => ?_, fun i a b ha hb => ?_⟩⟩
  · obtain ⟨v, hv, rfl⟩ := List.mem_map.1 ht
    obtain ⟨⟨k1, k2⟩, k3⟩ := h2 v hv
    obtain ⟨hl1, hl2⟩ := okU_ok k1
    have hb := absU_mem hv
    have hf : Fit v.1 := fit_small (by omega) (by omega)
    refine ⟨okZ_zOf hf, fun hz => k2 ?_, by simp [mkP, hl1], hl2, k3⟩
    have := (toW_nil_iff (show (0 : Int) ≤ v.1.natAbs by omega)).1 (List.eq_nil_of_length_eq_zero hz)
    omega
  · simp only [mkP, List.getElem?_map, Option.map_eq_some_iff] at ha hb
    obtain ⟨u, hu, rfl⟩ := ha
    obtain ⟨v, hv, rfl⟩ := hb
    rw [List.pairwise_iff_getElem] at hpw
    have hi := (List.getElem?_eq_some_iff.1 hu)
    have hj := (List.getElem?_eq_some_iff.1 hv)
    have := hpw i (i + 1) hi.1 hj.1 (by omega)
    rw [hi.2, hj.2] at this
    exact this
theorem plusU_mk (b : Int) (V : Nat) (a l : List UT) : plusU b (mkP V a) (mkP V l) = a ++ l.map fun u => (u.1 * b, u.2) := by
  unfold plusU mkP
  simp only [List.map_map]
  congr 1
  · conv => rhs; rw [← List.map_id a]
    exact List.map_congr_left fun u _ => by show (zval (zOf u.1), u.2) = u; rw [zval_zOf]
  · exact List.map_congr_left fun u _ => by show (zval (zOf u.1) * b, u.2) = _; rw [zval_zOf]
theorem timesU_mk (V : Nat) (a l : List UT) : timesU (mkP V a) (mkP V l) = a.flatMap fun t => l.map fun u => (t.1 * u.1, addE t.2 u.2) := by
  unfold timesU mkP rowU
  rw [List.flatMap_map]
  congr 1
  funext t
  rw [List.map_map]
  refine List.map_congr_left fun u _ => ?_
  show (zval (zOf t.1) * zval (zOf u.1), addE t.2 u.2) = _
  rw [zval_zOf, zval_zOf]
end Go.AL
/- Add and Mul of polynomials with few small numbers. -/
namespace Go.AL
/-- one term more -/
def insU (u : UT) : List UT → List UT
  | [] => if u.1 = 0 then [] else [u]
  | v :: l => if ordI u.2 v.2 < 0 then (if u.1 = 0 then v :: l else u :: v :: l) else if u.2 = v.2 then (if u.1 + v.1 = 0 then l else (u.1 + v.1, u.2) :: l) else v :: insU u l
def canU (us : List UT) : List UT := us.foldr insU []
def addUs (b : Int) (p q : List UT) : List UT := p ++ q.map fun u => (u.1 * b, u.2)
def mulUs (p q : List UT) : List UT := p.flatMap fun t => q.map fun u => (t.1 * u.1, addE t.2 u.2)
def addL (p q : List UT) : List UT := canU (addUs 1 p q)
def subL (p q : List UT) : List UT := canU (addUs (-1) p q)
def mulL2 (p q : List UT) : List UT := canU (mulUs p q)
theorem mk_ok {V : Nat} (hV : V ≤ 32) {l : List UT} (h : chkU V l l = true) : OkP (mkP V l) ∧ (mkP V l).vars = V ∧ WP (mkP V l) := (chkU_ok hV h).okp
def degU (p q : List UT) : Bool := match p, q with
  | t :: _, u :: _ => decide (sumL t.2 + sumL u.2 ≤ 120)
  | _, _ => true
theorem degU_ok {V : Nat} {p q : List UT} (h : degU p q = true) : DegOk (mkP V p) (mkP V q) := by
  intro t u ht hu
  cases p with
  | nil => simp [mkP] at ht
  | cons a p =>
    cases q with
    | nil => simp [mkP] at hu
    | cons b q =>
      simp only [mkP, List.map_cons, List.getElem?_cons_zero, Option.some.injEq] at ht hu
      subst ht hu
      simpa [degU] using h
end Go.AL
namespace Go.Proofs.YtcaecieigoplbaaGreat
open Go.AL
/-- the sum, by inspection -/
theorem addMk (V : Nat) (hV : V ≤ 32) (p q l : List UT) (hp : chkU V p p = true) (hq : chkU V q q = true) (h : chkU V (addUs 1 p q) l = true) : PureFn Tryz.prog 137 [aP (mkP V p), aP (mkP V q)] (.tup [aP (mkP V l), aN 0]) := by
  obtain ⟨p1, p2, p3⟩ := mk_ok hV hp
  obtain ⟨q1, q2, q3⟩ := mk_ok hV hq
  have hs : SumOk V (plusU 1 (mkP V p) (mkP V q)) (mkP V l) := by rw [plusU_mk]; exact chkU_ok hV h
  exact pAdd_ok V hV _ _ p3 q3 p1 q1 p2 q2 _ (fun x hx => by rw [hs.uniq hx]) (fun k => absurd ⟨_, hs⟩ k)
/-- the product, by inspection -/
theorem mulMk (V : Nat) (hV : V ≤ 32) (p q l : List UT) (hp : chkU V p p = true) (hq : chkU V q q = true) (hd : degU p q = true) (h : chkU V (mulUs p q) l = true) : PureFn Tryz.prog 138 [aP (mkP V p), aP (mkP V q)] (.tup [aP (mkP V l), aN 0]) := by
  obtain ⟨p1, p2, p3⟩ := mk_ok hV hp
  obtain ⟨q1, q2, q3⟩ := mk_ok hV hq
  have hs : SumOk V (timesU (mkP V p) (mkP V q)) (mkP V l) := by rw [timesU_mk]; exact chkU_ok hV h
  have hpr : ∀ t ∈ (mkP V p).terms, ∀ u ∈ (mkP V q).terms, Fit (zval t.c * zval u.c) := by
    intro t ht u hu
    obtain ⟨a, ha, rfl⟩ := List.mem_map.1 ht
    obtain ⟨b, hb, rfl⟩ := List.mem_map.1 hu
    show Fit (zval (zOf a.1) * zval (zOf b.1))
    rw [zval_zOf, zval_zOf]
    have hm : (a.1 * b.1, addE a.2 b.2) ∈ mulUs p q := List.mem_flatMap.2 ⟨a, ha, List.mem_map.2 ⟨b, hb, rfl⟩⟩
    have h1 := absU_mem hm
    simp only [chkU, Bool.and_eq_true, decide_eq_true_eq] at h
    exact fit_small (by simp only at h1; omega) (by simp only at h1; omega)
  have hP : ProdOk V (mkP V p) (mkP V q) (mkP V l) := ⟨degU_ok hd, hpr, hs⟩
  exact pMul_ok V hV _ _ p3 q3 p1 q1 p2 q2 _ (fun x hx => by rw [hs.uniq hx.2.2]) (fun k => absurd ⟨_, hP⟩ k)
end Go.Proofs.YtcaecieigoplbaaGreat
/- poly.Sub. (Not built yet: needs a seat that reaches it.) -/
namespace Go.Proofs.YtcaecieigoplbaaGreat
open Go.AL
theorem fit_m1 : Fit (-1) := fit_small (by omega) (by omega)
theorem Sub1_io (V : Nat) (hV : V ≤ 32) (p q : PZ) (hwp : WP p) (hwq : WP q) (hp : OkP p) (hq : OkP q) (hpv : p.vars = V) (hqv : q.vars = V) (res : Res)
    (hr1 : ∀ r, SumOk V (plusU (-1) p q) r → res = .ret (aP r)) (hr2 : (¬ ∃ r, SumOk V (plusU (-1) p q) r) → res = .thr (thrown 4)) :
    IoFn Tryz.prog 203 [.ptr 900 0, .ptr 901 0] (bPQ p q) res (bPQ p q) := by
  have h := plus_io V hV p q (-1) fit_m1 hwp hwq hp hq hpv hqv (fun t ht => (okZ_eq (hwq t ht) (hq.terms t ht).coef).2.le (by omega)) res hr1 hr2
  refine IoFn.of_body Tryz.func203 rfl Tryz.ntmps203 rfl rfl rfl ?_
  by_cases hg : ∃ r, SumOk V (plusU (-1) p q) r
  · obtain ⟨r, hr⟩ := hg
    have e1 := hr1 r hr
    subst e1
    repeat' (first |refine Fl.v rfl rfl rfl ?_ |refine Fl.nilF ?_ |refine AWP.seq ?_ |refine AWP.region ?_ |refine Fl.b rfl rfl rfl rfl ?_ |fail)
    refine Fl.call rfl (Of_ok (-1) (by omega) (by omega)) rfl rfl rfl (LeL.refl _) ?_
    skip
    refine Fl.io rfl [] h rfl rfl (LeL.refl _) rfl trivial rfl rfl rfl rfl rfl ?_
    repeat' (first |refine Fl.nil (fun _ => by kernel_rfl) ?_ |refine Fl.b rfl rfl rfl rfl ?_ |refine AWP.ret ?_ |fail)
    exact ⟨⟨[], _, _, Ent.refl _ _ _, rfl, AV.Le.refl _, rfl, ⟨⟨⟨_, rfl, BLe.cells (LeL.refl _)⟩, rfl⟩, ⟨⟨_, rfl, BLe.cells (LeL.refl _)⟩, rfl⟩, trivial⟩, rfl, rfl⟩⟩
  · have e1 := hr2 hg
    subst e1
    repeat' (first |refine Fl.v rfl rfl rfl ?_ |refine Fl.nilF ?_ |refine AWP.seq ?_ |refine AWP.region ?_ |refine Fl.b rfl rfl rfl rfl ?_ |fail)
    refine Fl.call rfl (Of_ok (-1) (by omega) (by omega)) rfl rfl rfl (LeL.refl _) ?_
    skip
    exact Fl.thrC rfl [] h rfl (LeL.refl _) rfl trivial rfl (fun _ => by kernel_rfl) (fun _ => rfl)
theorem pSub_ok (V : Nat) (hV : V ≤ 32) (p q : PZ) (hwp : WP p) (hwq : WP q) (hp : OkP p) (hq : OkP q) (hpv : p.vars = V) (hqv : q.vars = V) (r : AV)
    (hr1 : ∀ x, SumOk V (plusU (-1) p q) x → r = .tup [aP x, aN 0]) (hr2 : (¬ ∃ x, SumOk V (plusU (-1) p q) x) → r = .tup [aP ⟨0, []⟩, aN 4]) :
    PureFn Tryz.prog 161 [aP p, aP q] r := by
  refine PureFn.of_body Tryz.func161 rfl Tryz.ntmps161 rfl rfl ?_
  have hb := both_ok p q hwp hwq
  rw [bothE_ok hp hq, if_pos (hpv.trans hqv.symm)] at hb
  repeat' (first |refine Fl.v rfl rfl rfl ?_ |refine Fl.nilF ?_ |refine AWP.seq ?_ |refine AWP.region ?_ |refine Fl.b rfl rfl rfl rfl ?_ |fail)
  refine Fl.call rfl (hb) rfl rfl rfl (LeL.refl _) ?_
  repeat' (first |refine Fl.v rfl rfl rfl ?_ |refine Fl.nilF ?_ |refine AWP.seq ?_ |refine AWP.region ?_ |refine AWP.condF rfl ?_ |refine AWP.skip ?_ |fail)
  by_cases hg : ∃ x, SumOk V (plusU (-1) p q) x
  · obtain ⟨x, hx⟩ := hg
    rw [hr1 x hx]
    have hx' : ∀ y, SumOk V (plusU (-1) p q) y → (Res.ret (aP x)) = .ret (aP y) := fun y hy => by
      have := (hr1 x hx).symm.trans (hr1 y hy)
      injection this with this
      injection this with this
      rw [this]
    refine Fl.io rfl [(900, 2), (901, 3)] (tried_ret (Sub1_io V hV p q hwp hwq hp hq hpv hqv (.ret (aP x)) hx' (fun h => absurd ⟨x, hx⟩ h))) rfl rfl (LeL.refl _) rfl ⟨⟨⟨_, rfl, BLe.cells (LeL.refl _)⟩, rfl⟩, ⟨⟨_, rfl, BLe.cells (LeL.refl _)⟩, rfl⟩, trivial⟩ rfl rfl rfl rfl rfl ?_
    repeat' (first |refine Fl.v rfl rfl rfl ?_ |refine Fl.nilF ?_ |refine Fl.b rfl rfl rfl rfl ?_ |refine AWP.ret ?_ |fail)
    exact RetOk.of rfl (AV.Le.refl _)
  · rw [hr2 hg]
    refine Fl.io rfl [(900, 2), (901, 3)] (tried_thr (Sub1_io V hV p q hwp hwq hp hq hpv hqv _ (fun y hy => absurd ⟨y, hy⟩ hg) (fun _ => rfl))) rfl rfl (LeL.refl _) rfl ⟨⟨⟨_, rfl, BLe.cells (LeL.refl _)⟩, rfl⟩, ⟨⟨_, rfl, BLe.cells (LeL.refl _)⟩, rfl⟩, trivial⟩ rfl rfl rfl rfl rfl ?_
    repeat' (first |refine Fl.v rfl rfl rfl ?_ |refine Fl.nilF ?_ |refine Fl.b rfl rfl rfl rfl ?_ |refine AWP.ret ?_ |fail)
    exact RetOk.of rfl (AV.Le.refl _)
end Go.Proofs.YtcaecieigoplbaaGreat
/- poly.Var, poly.Const; expr's Kit: New, V, N, Sub, Add, Mul. -/
namespace Go.AL
def unU (V i : Nat) : List Int := (List.replicate V 0).set i 1
def varU (V i : Nat) : List UT := [(1, unU V i)]
def conU (V : Nat) (c : Int) : List UT := if c = 0 then [] else [(c, List.replicate V 0)]
/-- sums and products one after the other, and whether they stand by inspection -/
def okSums (V : Nat) : List UT → List (List UT) → Bool
  | acc, [] => chkU V acc acc
  | acc, p :: l => chkU V acc acc && chkU V p p && chkU V (addUs 1 acc p) (addL acc p) && okSums V (addL acc p) l
def okMuls (V : Nat) : List UT → List (List UT) → Bool
  | acc, [] => chkU V acc acc
  | acc, p :: l => chkU V acc acc && chkU V p p && degU acc p && chkU V (mulUs acc p) (mulL2 acc p) && okMuls V (mulL2 acc p) l
def sumsU (acc : List UT) (l : List (List UT)) : List UT := l.foldl addL acc
def mulsU (acc : List UT) (l : List (List UT)) : List UT := l.foldl mulL2 acc
end Go.AL
namespace Go.Proofs.YtcaecieigoplbaaGreat
open Go.AL
abbrev aK (V : Nat) : AV := .agg [aN V]

theorem pVarP_ok (V i : Nat) (hV : V ≤ 32) (hi : i < V) : PureFn Tryz.prog 135 [aN V, aN i] (.tup [aP (mkP V (varU V i)), aN 0]) := by
  refine PureFn.of_body Tryz.func135 rfl Tryz.ntmps135 rfl rfl ?_
  refine AWP.seqS ?_
  repeat' (first |refine Fl.v rfl rfl rfl ?_ |refine Fl.nilF ?_ |refine AWP.region ?_ |refine Fl.b rfl rfl rfl rfl ?_ |fail)
  refine ⟨AWP.seqS ?_⟩
  repeat' (first |refine Fl.v rfl rfl rfl ?_ |refine Fl.nilF ?_ |refine AWP.seq ?_ |refine AWP.region ?_ |(refine AWP.condD rfl ?_ ?_ <;> intro _ <;> try (exfalso; omega)) |refine AWP.skip ?_ |(refine Fl.splitD rfl rfl ?_ ?_ <;> intro _ <;> try (exfalso; omega)) |fail)
  refine ⟨AWP.seqS ?_⟩
  repeat' (first |refine Fl.v rfl rfl rfl ?_ |refine Fl.nilF ?_ |refine AWP.region ?_ |refine Fl.make rfl rfl rfl rfl rfl rfl rfl rfl rfl rfl eI 0 (by exact LeL.refl _) (by rfl) (by first | omega | (dsimp only; omega)) (by first | omega | (dsimp only; omega)) (by first | omega | (dsimp only; omega)) ?_ |fail)
  refine ⟨AWP.seqS ?_⟩
  repeat' (first |refine Fl.v rfl rfl rfl ?_ |refine Fl.nilF ?_ |refine AWP.region ?_ |refine Fl.rel rfl rfl rfl rfl rfl rfl rfl rfl (by omega) (by first | omega | (simp; omega)) ?_ |refine Fl.rst rfl rfl rfl rfl rfl rfl rfl rfl rfl rfl rfl (LeL.refl _) rfl (by first | omega | (simp; omega)) ?_ |fail)
  refine ⟨?_⟩
  refine AWP.ent (Ent.freeze 24 rfl) ?_
  repeat' (first |refine Fl.v rfl rfl rfl ?_ |refine AWP.seq ?_ |refine AWP.region ?_ |fail)
  refine Fl.call rfl (Of_ok 1 (by omega) (by omega)) rfl rfl rfl (LeL.refl _) ?_
  repeat' (first |refine Fl.v rfl rfl rfl ?_ |refine Fl.b rfl rfl rfl rfl ?_ |fail)
  refine Fl.lit rfl rfl rfl rfl rfl eT [⟨zOf 1, unU V i⟩] rfl rfl rfl rfl (by intro _ _; rfl) rfl ?_
  repeat' (first |refine Fl.v rfl rfl rfl ?_ |refine Fl.nilF ?_ |refine Fl.b rfl rfl rfl rfl ?_ |refine AWP.ret ?_ |fail)
  exact RetOk.of rfl (AV.Le.refl _)

theorem xCopy_ok (X : List Int) (hX : ∀ x ∈ X, Fit x) (hl : X.length ≤ 1000000) : PureFn Tryz.prog 217 [.sl 2 eX X] (.sl 2 eX X) := by
  refine PureFn.of_body Tryz.func217 rfl Tryz.ntmps217 rfl rfl ?_
  refine AWP.seqS ?_
  repeat' (first |refine Fl.v rfl rfl rfl ?_ |refine Fl.nilF ?_ |refine AWP.region ?_ |fail)
  refine ⟨AWP.seqS ?_⟩
  repeat' (first |refine Fl.v rfl rfl rfl ?_ |refine AWP.region ?_ |fail)
  refine Fl.make rfl rfl rfl rfl rfl rfl rfl rfl rfl rfl eX 0 (by exact leX_zero (σ := []) rfl) (by rfl) (by omega) (by dsimp only; omega) (by omega) ?_
  repeat' (first |refine Fl.v rfl rfl rfl ?_ |refine Fl.nilF ?_ |fail)
  refine ⟨?_⟩
  refine AWP.seqJ (G := Unit) (fun _ => True) (fun _ => St.of [] [(3, .row 8)] [(8, .row 2 eX X 35)]) ?_ ?_
  · repeat' (first |refine Fl.v rfl rfl rfl ?_ |refine Fl.nilF ?_ |refine AWP.seq ?_ |refine AWP.region ?_ |refine AWP.block ?_ |fail)
    refine AWP.loop (G := Nat) (fun i => i ≤ X.length) (fun i => St.of [] [(3, .row 8), (9, .sl 2 eX X), (10, aN X.length), (11, aN i)] [(8, .row 2 eX (X.take i ++ List.replicate (X.length - i) 0) 35)]) (fun i => X.length - i) 0 (by omega) ?_ ?_
    · refine Ent.of [] ?_ ?_ rfl rfl
      repeat' (first | exact True.intro |refine ⟨⟨AV.Le.refl _, rfl⟩, ?_⟩ |refine ⟨⟨AV.Le.any _, rfl⟩, ?_⟩ |refine ⟨⟨⟨_, rfl, BLe.cells (LeL.refl _)⟩, rfl⟩, ?_⟩ |refine ⟨⟨⟨_, rfl, BLe.row rfl⟩, rfl⟩, ?_⟩ |refine ⟨⟨⟨_, rfl, BLe.row ?_⟩, rfl⟩, ?_⟩ |refine ⟨⟨⟨_, rfl, BLe.cells ?_⟩, rfl⟩, ?_⟩ |refine ⟨⟨AV.Le.int ?_, rfl⟩, ?_⟩ |refine ⟨⟨AV.Le.bool ?_, rfl⟩, ?_⟩ |refine ⟨⟨AV.Le.sl ?_, rfl⟩, ?_⟩ |refine ⟨⟨AV.Le.of_eq ?_, rfl⟩, ?_⟩ | fail)
    · intro i h0
      have hli : (X.take i ++ List.replicate (X.length - i) (0 : Int)).length = X.length := by simp; omega
      repeat' (first |refine Fl.v rfl rfl rfl ?_ |refine Fl.nilF ?_ |refine AWP.seq ?_ |refine AWP.region ?_ |refine Fl.b rfl rfl rfl rfl ?_ |(refine AWP.condD rfl ?_ ?_ <;> intro _ <;> try (exfalso; omega)) |refine AWP.block ?_ |refine AWP.skip ?_ |refine AWP.exit ?_ |(refine Fl.el rfl rfl rfl rfl rfl rfl rfl rfl (by omega) (by omega) ?_; intro _ _) |fail)
      · rename_i hi x hx
        rw [Int.toNat_natCast] at hx
        have hxl := (hX x (List.mem_of_getElem? hx)).len
        refine Fl.ap0C rfl rfl rfl rfl rfl rfl rfl eW rfl (fun _ => rfl) (fun _ => rfl) (AV.Le.refl _) (by dsimp only; omega) (by omega) ?_
        repeat' (first |refine Fl.v rfl rfl rfl ?_ |refine Fl.nilF ?_ |refine Fl.nil (fun _ => by kernel_rfl) ?_ |refine AWP.region ?_ |refine Fl.w rfl rfl rfl (by first | exact True.intro | omega) ?_ |refine Fl.b rfl rfl rfl rfl ?_ |refine Fl.rel rfl rfl rfl rfl rfl rfl rfl rfl (by omega) (by first | omega | (simp; omega)) ?_ |refine Fl.rst rfl rfl rfl rfl rfl rfl rfl rfl rfl rfl rfl (LeL.refl _) rfl (by first | omega | (simp; omega)) ?_ |fail)
        refine LoopEnd.of (i + 1) (by omega) (by omega) ?_
        refine Ent.of [] ?_ ?_ rfl rfl
        repeat' (first | exact True.intro |refine ⟨⟨AV.Le.refl _, rfl⟩, ?_⟩ |refine ⟨⟨AV.Le.any _, rfl⟩, ?_⟩ |refine ⟨⟨⟨_, rfl, BLe.cells (LeL.refl _)⟩, rfl⟩, ?_⟩ |refine ⟨⟨⟨_, rfl, BLe.row rfl⟩, rfl⟩, ?_⟩ |refine ⟨⟨⟨_, rfl, BLe.row ?_⟩, rfl⟩, ?_⟩ |refine ⟨⟨⟨_, rfl, BLe.cells ?_⟩, rfl⟩, ?_⟩ |refine ⟨⟨AV.Le.int ?_, rfl⟩, ?_⟩ |refine ⟨⟨AV.Le.bool ?_, rfl⟩, ?_⟩ |refine ⟨⟨AV.Le.sl ?_, rfl⟩, ?_⟩ |refine ⟨⟨AV.Le.of_eq ?_, rfl⟩, ?_⟩ | fail)
        rw [take_snoc hx]
        exact set_rep (by rw [List.length_take]; omega) (by omega) rfl
      · have hi : i = X.length := by omega
        refine JoinOk.of () trivial ?_
        refine Ent.of [] ?_ ?_ rfl rfl
        repeat' (first | exact True.intro |refine ⟨⟨AV.Le.refl _, rfl⟩, ?_⟩ |refine ⟨⟨AV.Le.any _, rfl⟩, ?_⟩ |refine ⟨⟨⟨_, rfl, BLe.cells (LeL.refl _)⟩, rfl⟩, ?_⟩ |refine ⟨⟨⟨_, rfl, BLe.row rfl⟩, rfl⟩, ?_⟩ |refine ⟨⟨⟨_, rfl, BLe.row ?_⟩, rfl⟩, ?_⟩ |refine ⟨⟨⟨_, rfl, BLe.cells ?_⟩, rfl⟩, ?_⟩ |refine ⟨⟨AV.Le.int ?_, rfl⟩, ?_⟩ |refine ⟨⟨AV.Le.bool ?_, rfl⟩, ?_⟩ |refine ⟨⟨AV.Le.sl ?_, rfl⟩, ?_⟩ |refine ⟨⟨AV.Le.of_eq ?_, rfl⟩, ?_⟩ | fail)
        rw [hi]; simp
  · intro _ _
    repeat' (first |refine Fl.v rfl rfl rfl ?_ |refine Fl.nilF ?_ |refine AWP.seq ?_ |refine AWP.region ?_ |refine AWP.ret ?_ |fail)
    refine RetOk.ent (Ent.freeze 8 rfl) ?_
    exact RetOk.of rfl (AV.Le.refl _)
theorem constant_ok (V : Nat) (x : Int) (hV : V ≤ 32) (hx : Fit x) : PureFn Tryz.prog 181 [aN V, aX x] (aP (mkP V (conU V x))) := by
  refine PureFn.of_body Tryz.func181 rfl Tryz.ntmps181 rfl rfl ?_
  refine AWP.seqS ?_
  repeat' (first |refine Fl.nilF ?_ |refine AWP.region ?_ |refine Fl.b rfl rfl rfl rfl ?_ |fail)
  refine ⟨AWP.seqS ?_⟩
  repeat' (first |refine Fl.v rfl rfl rfl ?_ |refine Fl.nilF ?_ |refine AWP.region ?_ |refine Fl.b rfl rfl rfl rfl ?_ |fail)
  refine ⟨?_⟩
  refine AWP.seq ?_
  repeat' (first |refine Fl.v rfl rfl rfl ?_ |refine AWP.seq ?_ |refine AWP.region ?_ |fail)
  refine Fl.call rfl (ZeroX_ok x) rfl rfl rfl (LeL.refl _) ?_
  repeat' (first |refine Fl.v rfl rfl rfl ?_ |refine Fl.nilF ?_ |refine AWP.seq ?_ |refine AWP.region ?_ |refine Fl.b rfl rfl rfl rfl ?_ |(refine AWP.condN rfl ?_ ?_ <;> intro _ <;> try (exfalso; omega)) |refine AWP.skip ?_ |refine AWP.ret ?_ |fail)
  · rename_i h0
    refine Fl.lit rfl rfl rfl rfl rfl eX [x] rfl rfl rfl rfl (by intro _ _; rfl) rfl ?_
    skip
    have e0 : [x][(0 : Int).toNat]? = some x := rfl
    refine Fl.call rfl (xCopy_ok [x] (by simp [hx]) (by simp)) rfl rfl rfl (LeL.refl _) ?_
    repeat' (first | refine Fl.v rfl rfl rfl ?_ | refine Fl.elK rfl rfl rfl rfl rfl rfl rfl rfl (by assumption) (by omega) ?_ | fail)
    refine Fl.makeC rfl rfl rfl rfl rfl rfl rfl rfl rfl eI 0 (by exact LeL.refl _) (by rfl) (by omega) (by dsimp only; omega) (by omega) ?_
    repeat' (first |refine Fl.b rfl rfl rfl rfl ?_ |fail)
    refine Fl.lit rfl rfl rfl rfl rfl eT [⟨zOf x, List.replicate V 0⟩] rfl rfl rfl rfl (by intro _ _; rfl) rfl ?_
    repeat' (first |refine Fl.v rfl rfl rfl ?_ |refine Fl.nilF ?_ |refine Fl.nil (fun _ => by kernel_rfl) ?_ |refine AWP.seq ?_ |refine AWP.region ?_ |refine Fl.b rfl rfl rfl rfl ?_ |refine AWP.ret ?_ |fail)
    refine RetOk.of rfl ?_
    rw [conU, if_neg h0]
    exact AV.Le.refl _
  · rename_i h0
    refine RetOk.of rfl ?_
    rw [conU, if_pos h0]
    exact AV.Le.agg (LeL.cons (AV.Le.refl _) (LeL.cons (AV.Le.nil 3 eT) LeL.nil))
theorem pConstP_ok (V : Nat) (x : Int) (hV : V ≤ 32) (hx : Fit x) : PureFn Tryz.prog 136 [aN V, aX x] (.tup [aP (mkP V (conU V x)), aN 0]) := by
  refine PureFn.of_body Tryz.func136 rfl Tryz.ntmps136 rfl rfl ?_
  repeat' (first |refine Fl.v rfl rfl rfl ?_ |refine Fl.nilF ?_ |refine AWP.seq ?_ |refine AWP.region ?_ |refine Fl.b rfl rfl rfl rfl ?_ |fail)
  refine Fl.call rfl (Valid_int x hx) rfl rfl rfl (LeL.refl _) ?_
  repeat' (first |refine Fl.v rfl rfl rfl ?_ |refine Fl.nilF ?_ |refine AWP.seq ?_ |refine AWP.region ?_ |refine AWP.condF rfl ?_ |(refine AWP.condD rfl ?_ ?_ <;> intro _ <;> try (exfalso; omega)) |refine AWP.skip ?_ |fail)
  refine Fl.call rfl (constant_ok V x hV hx) rfl rfl rfl (LeL.refl _) ?_
  repeat' (first |refine Fl.v rfl rfl rfl ?_ |refine Fl.nilF ?_ |refine Fl.b rfl rfl rfl rfl ?_ |refine AWP.ret ?_ |fail)
  exact RetOk.of rfl (AV.Le.refl _)
theorem kNew_ok (V : Nat) : PureFn Tryz.prog 63 [aN V] (aK V) := by
  refine PureFn.of_body Tryz.func63 rfl Tryz.ntmps63 rfl rfl ?_
  repeat' (first |refine Fl.v rfl rfl rfl ?_ |refine Fl.nilF ?_ |refine AWP.seq ?_ |refine AWP.region ?_ |refine Fl.b rfl rfl rfl rfl ?_ |refine AWP.ret ?_ |fail)
  exact RetOk.of rfl (AV.Le.refl _)
theorem kV_ok (V i : Nat) (hV : V ≤ 32) (hi : i < V) : PureFn Tryz.prog 64 [aK V, aN i] (aP (mkP V (varU V i))) := by
  refine PureFn.of_body Tryz.func64 rfl Tryz.ntmps64 rfl rfl ?_
  repeat' (first |refine Fl.v rfl rfl rfl ?_ |refine Fl.nilF ?_ |refine AWP.seq ?_ |refine AWP.region ?_ |refine Fl.b rfl rfl rfl rfl ?_ |fail)
  refine Fl.call rfl (pVarP_ok V i hV hi) rfl rfl rfl (LeL.refl _) ?_
  repeat' (first |refine Fl.v rfl rfl rfl ?_ |refine Fl.nilF ?_ |refine AWP.seq ?_ |refine AWP.region ?_ |refine Fl.b rfl rfl rfl rfl ?_ |refine AWP.ret ?_ |fail)
  exact RetOk.of rfl (AV.Le.refl _)
theorem kN_ok (V : Nat) (c : Int) (hV : V ≤ 32) (h0 : -4294967296 < c) (h1 : c < 4294967296) : PureFn Tryz.prog 65 [aK V, aN c] (aP (mkP V (conU V c))) := by
  refine PureFn.of_body Tryz.func65 rfl Tryz.ntmps65 rfl rfl ?_
  repeat' (first |refine Fl.v rfl rfl rfl ?_ |refine Fl.nilF ?_ |refine AWP.seq ?_ |refine AWP.region ?_ |refine Fl.b rfl rfl rfl rfl ?_ |fail)
  refine Fl.call rfl (Of_ok c (by omega) (by omega)) rfl rfl rfl (LeL.refl _) ?_
  skip
  refine Fl.call rfl (pConstP_ok V c hV (fit_small (by omega) (by omega))) rfl rfl rfl (LeL.refl _) ?_
  repeat' (first |refine Fl.v rfl rfl rfl ?_ |refine Fl.nilF ?_ |refine Fl.nil (fun _ => by kernel_rfl) ?_ |refine AWP.seq ?_ |refine AWP.region ?_ |refine Fl.b rfl rfl rfl rfl ?_ |refine AWP.ret ?_ |fail)
  exact RetOk.of rfl (AV.Le.refl _)
theorem subMk (V : Nat) (hV : V ≤ 32) (p q l : List UT) (hp : chkU V p p = true) (hq : chkU V q q = true) (h : chkU V (addUs (-1) p q) l = true) : PureFn Tryz.prog 161 [aP (mkP V p), aP (mkP V q)] (.tup [aP (mkP V l), aN 0]) := by
  obtain ⟨p1, p2, p3⟩ := mk_ok hV hp
  obtain ⟨q1, q2, q3⟩ := mk_ok hV hq
  have hs : SumOk V (plusU (-1) (mkP V p) (mkP V q)) (mkP V l) := by rw [plusU_mk]; exact chkU_ok hV h
  exact pSub_ok V hV _ _ p3 q3 p1 q1 p2 q2 _ (fun x hx => by rw [hs.uniq hx]) (fun k => absurd ⟨_, hs⟩ k)
theorem kSub_ok (V : Nat) (hV : V ≤ 32) (p q l : List UT) (hp : chkU V p p = true) (hq : chkU V q q = true) (h : chkU V (addUs (-1) p q) l = true) : PureFn Tryz.prog 93 [aK V, aP (mkP V p), aP (mkP V q)] (aP (mkP V l)) := by
  refine PureFn.of_body Tryz.func93 rfl Tryz.ntmps93 rfl rfl ?_
  repeat' (first |refine Fl.v rfl rfl rfl ?_ |refine Fl.nilF ?_ |refine AWP.seq ?_ |refine AWP.region ?_ |refine Fl.b rfl rfl rfl rfl ?_ |fail)
  refine Fl.call rfl (subMk V hV p q l hp hq h) rfl rfl rfl (LeL.refl _) ?_
  repeat' (first |refine Fl.v rfl rfl rfl ?_ |refine Fl.nilF ?_ |refine AWP.seq ?_ |refine AWP.region ?_ |refine Fl.b rfl rfl rfl rfl ?_ |refine AWP.ret ?_ |fail)
  exact RetOk.of rfl (AV.Le.refl _)
end Go.Proofs.YtcaecieigoplbaaGreat
/- Kit.Add, Kit.Mul. -/
namespace Go.AL
theorem okSums_cons {V : Nat} {acc p : List UT} {l : List (List UT)} (h : okSums V acc (p :: l) = true) : chkU V acc acc = true ∧ chkU V p p = true ∧ chkU V (addUs 1 acc p) (addL acc p) = true ∧ okSums V (addL acc p) l = true := by
  simp only [okSums, Bool.and_eq_true] at h
  exact ⟨h.1.1.1, h.1.1.2, h.1.2, h.2⟩
theorem okMuls_cons {V : Nat} {acc p : List UT} {l : List (List UT)} (h : okMuls V acc (p :: l) = true) : chkU V acc acc = true ∧ chkU V p p = true ∧ degU acc p = true ∧ chkU V (mulUs acc p) (mulL2 acc p) = true ∧ okMuls V (mulL2 acc p) l = true := by
  simp only [okMuls, Bool.and_eq_true] at h
  exact ⟨h.1.1.1.1, h.1.1.1.2, h.1.1.2, h.1.2, h.2⟩
theorem drop_cons {α : Type} {l : List α} {i : Nat} {x : α} (h : l[i]? = some x) : l.drop i = x :: l.drop (i + 1) := by
  have hi := List.getElem?_eq_some_iff.1 h
  rw [List.drop_eq_getElem_cons hi.1, hi.2]
end Go.AL
namespace Go.Proofs.YtcaecieigoplbaaGreat
open Go.AL
theorem kAdd_ok (V : Nat) (hV : V ≤ 32) (ls : List (List UT)) (hl : ls.length ≤ 1000) (h : okSums V [] ls = true) : PureFn Tryz.prog 66 [aK V, .sl 2 eP (ls.map (mkP V))] (aP (mkP V (sumsU [] ls))) := by
  refine PureFn.of_body Tryz.func66 rfl Tryz.ntmps66 rfl rfl ?_
  have hN := kN_ok V 0 hV (by omega) (by omega)
  rw [show conU V 0 = [] from rfl] at hN
  refine AWP.seqS ?_
  repeat' (first |refine Fl.nilF ?_ |refine AWP.region ?_ |refine Fl.b rfl rfl rfl rfl ?_ |fail)
  refine ⟨AWP.seqS ?_⟩
  repeat' (first |refine Fl.v rfl rfl rfl ?_ |refine AWP.region ?_ |fail)
  refine Fl.call rfl (hN) rfl rfl rfl (LeL.refl _) ?_
  repeat' (first |refine Fl.nilF ?_ |refine Fl.b rfl rfl rfl rfl ?_ |fail)
  refine ⟨?_⟩
  obtain ⟨L, hL⟩ : ∃ L, L = ls.map (mkP V) := ⟨_, rfl⟩
  have hLl : L.length = ls.length := by rw [hL, List.length_map]
  rw [← hL]
  repeat' (first |refine Fl.v rfl rfl rfl ?_ |refine Fl.nilF ?_ |refine AWP.seq ?_ |refine AWP.region ?_ |refine AWP.block ?_ |fail)
  refine AWP.loop (G := Nat × List UT) (fun (i, acc) => i ≤ ls.length ∧ okSums V acc (ls.drop i) = true ∧ sumsU acc (ls.drop i) = sumsU [] ls) (fun (i, acc) => St.of [] [(4, .ptr 4 0), (5, .ptr 5 0), (10, .sl 2 eP L), (11, aN L.length), (12, aN i)] [(4, .cells [aN 0, .v (.slice none 0 0)] 70), (5, .cells (eP (mkP V acc)) 70)]) (fun (i, acc) => ls.length - i) (0, []) ⟨by omega, h, rfl⟩ ?_ ?_
  · refine Ent.of [] ?_ ?_ rfl rfl
    repeat' (first | exact True.intro |refine ⟨⟨AV.Le.refl _, rfl⟩, ?_⟩ |refine ⟨⟨AV.Le.any _, rfl⟩, ?_⟩ |refine ⟨⟨⟨_, rfl, BLe.cells (LeL.refl _)⟩, rfl⟩, ?_⟩ |refine ⟨⟨⟨_, rfl, BLe.row rfl⟩, rfl⟩, ?_⟩ |refine ⟨⟨⟨_, rfl, BLe.row ?_⟩, rfl⟩, ?_⟩ |refine ⟨⟨⟨_, rfl, BLe.cells ?_⟩, rfl⟩, ?_⟩ |refine ⟨⟨AV.Le.int ?_, rfl⟩, ?_⟩ |refine ⟨⟨AV.Le.bool ?_, rfl⟩, ?_⟩ |refine ⟨⟨AV.Le.sl ?_, rfl⟩, ?_⟩ |refine ⟨⟨AV.Le.of_eq ?_, rfl⟩, ?_⟩ | fail)
  · intro ⟨i, acc⟩ ⟨h0, h1, h2⟩
    repeat' (first |refine Fl.v rfl rfl rfl ?_ |refine Fl.nilF ?_ |refine AWP.seq ?_ |refine AWP.region ?_ |refine Fl.b rfl rfl rfl rfl ?_ |(refine AWP.condD rfl ?_ ?_ <;> intro _ <;> try (exfalso; omega)) |refine AWP.block ?_ |refine AWP.skip ?_ |refine AWP.exit ?_ |refine AWP.ret ?_ |(refine Fl.el rfl rfl rfl rfl rfl rfl rfl rfl (by omega) (by omega) ?_; intro _ _) |fail)
    · rename_i hi p hp
      rw [Int.toNat_natCast, hL, List.getElem?_map] at hp
      obtain ⟨q, hq, rfl⟩ := Option.map_eq_some_iff.1 hp
      rw [drop_cons hq] at h1 h2
      obtain ⟨c1, c2, c3, c4⟩ := okSums_cons h1
      refine Fl.call rfl (addMk V hV acc q _ c1 c2 c3) rfl rfl rfl (LeL.refl _) ?_
      repeat' (first |refine Fl.v rfl rfl rfl ?_ |refine Fl.nilF ?_ |refine AWP.region ?_ |refine Fl.w rfl rfl rfl (by first | exact True.intro | omega) ?_ |refine Fl.b rfl rfl rfl rfl ?_ |fail)
      refine LoopEnd.of (i + 1, addL acc q) ⟨by omega, c4, h2⟩ (by simp only; omega) ?_
      refine Ent.of [] ?_ ?_ rfl rfl
      repeat' (first | exact True.intro |refine ⟨⟨AV.Le.refl _, rfl⟩, ?_⟩ |refine ⟨⟨AV.Le.any _, rfl⟩, ?_⟩ |refine ⟨⟨⟨_, rfl, BLe.cells (LeL.refl _)⟩, rfl⟩, ?_⟩ |refine ⟨⟨⟨_, rfl, BLe.row rfl⟩, rfl⟩, ?_⟩ |refine ⟨⟨⟨_, rfl, BLe.row ?_⟩, rfl⟩, ?_⟩ |refine ⟨⟨⟨_, rfl, BLe.cells ?_⟩, rfl⟩, ?_⟩ |refine ⟨⟨AV.Le.int ?_, rfl⟩, ?_⟩ |refine ⟨⟨AV.Le.bool ?_, rfl⟩, ?_⟩ |refine ⟨⟨AV.Le.sl ?_, rfl⟩, ?_⟩ |refine ⟨⟨AV.Le.of_eq ?_, rfl⟩, ?_⟩ | fail)
    · rename_i hi
      rw [List.drop_of_length_le (by omega)] at h2
      refine RetOk.of rfl (AV.Le.of_eq ?_)
      rw [← h2]; rfl
theorem kMul_ok (V : Nat) (hV : V ≤ 32) (ls : List (List UT)) (hl : ls.length ≤ 1000) (h : okMuls V (conU V 1) ls = true) : PureFn Tryz.prog 67 [aK V, .sl 2 eP (ls.map (mkP V))] (aP (mkP V (mulsU (conU V 1) ls))) := by
  refine PureFn.of_body Tryz.func67 rfl Tryz.ntmps67 rfl rfl ?_
  have hN := kN_ok V 1 hV (by omega) (by omega)
  refine AWP.seqS ?_
  repeat' (first |refine Fl.nilF ?_ |refine AWP.region ?_ |refine Fl.b rfl rfl rfl rfl ?_ |fail)
  refine ⟨AWP.seqS ?_⟩
  repeat' (first |refine Fl.v rfl rfl rfl ?_ |refine AWP.region ?_ |fail)
  refine Fl.call rfl (hN) rfl rfl rfl (LeL.refl _) ?_
  repeat' (first |refine Fl.nilF ?_ |refine Fl.b rfl rfl rfl rfl ?_ |fail)
  refine ⟨?_⟩
  obtain ⟨L, hL⟩ : ∃ L, L = ls.map (mkP V) := ⟨_, rfl⟩
  have hLl : L.length = ls.length := by rw [hL, List.length_map]
  rw [← hL]
  repeat' (first |refine Fl.v rfl rfl rfl ?_ |refine Fl.nilF ?_ |refine AWP.seq ?_ |refine AWP.region ?_ |refine AWP.block ?_ |fail)
  refine AWP.loop (G := Nat × List UT) (fun (i, acc) => i ≤ ls.length ∧ okMuls V acc (ls.drop i) = true ∧ mulsU acc (ls.drop i) = mulsU (conU V 1) ls) (fun (i, acc) => St.of [] [(4, .ptr 4 0), (5, .ptr 5 0), (10, .sl 2 eP L), (11, aN L.length), (12, aN i)] [(4, .cells [aN 0, .v (.slice none 0 0)] 70), (5, .cells (eP (mkP V acc)) 70)]) (fun (i, acc) => ls.length - i) (0, conU V 1) ⟨by omega, h, rfl⟩ ?_ ?_
  · refine Ent.of [] ?_ ?_ rfl rfl
    repeat' (first | exact True.intro |refine ⟨⟨AV.Le.refl _, rfl⟩, ?_⟩ |refine ⟨⟨AV.Le.any _, rfl⟩, ?_⟩ |refine ⟨⟨⟨_, rfl, BLe.cells (LeL.refl _)⟩, rfl⟩, ?_⟩ |refine ⟨⟨⟨_, rfl, BLe.row rfl⟩, rfl⟩, ?_⟩ |refine ⟨⟨⟨_, rfl, BLe.row ?_⟩, rfl⟩, ?_⟩ |refine ⟨⟨⟨_, rfl, BLe.cells ?_⟩, rfl⟩, ?_⟩ |refine ⟨⟨AV.Le.int ?_, rfl⟩, ?_⟩ |refine ⟨⟨AV.Le.bool ?_, rfl⟩, ?_⟩ |refine ⟨⟨AV.Le.sl ?_, rfl⟩, ?_⟩ |refine ⟨⟨AV.Le.of_eq ?_, rfl⟩, ?_⟩ | fail)
  · intro ⟨i, acc⟩ ⟨h0, h1, h2⟩
    repeat' (first |refine Fl.v rfl rfl rfl ?_ |refine Fl.nilF ?_ |refine AWP.seq ?_ |refine AWP.region ?_ |refine Fl.b rfl rfl rfl rfl ?_ |(refine AWP.condD rfl ?_ ?_ <;> intro _ <;> try (exfalso; omega)) |refine AWP.block ?_ |refine AWP.skip ?_ |refine AWP.exit ?_ |refine AWP.ret ?_ |(refine Fl.el rfl rfl rfl rfl rfl rfl rfl rfl (by omega) (by omega) ?_; intro _ _) |fail)
    · rename_i hi p hp
      rw [Int.toNat_natCast, hL, List.getElem?_map] at hp
      obtain ⟨q, hq, rfl⟩ := Option.map_eq_some_iff.1 hp
      rw [drop_cons hq] at h1 h2
      obtain ⟨c1, c2, c3, c4, c5⟩ := okMuls_cons h1
      refine Fl.call rfl (mulMk V hV acc q _ c1 c2 c3 c4) rfl rfl rfl (LeL.refl _) ?_
      repeat' (first |refine Fl.v rfl rfl rfl ?_ |refine Fl.nilF ?_ |refine AWP.region ?_ |refine Fl.w rfl rfl rfl (by first | exact True.intro | omega) ?_ |refine Fl.b rfl rfl rfl rfl ?_ |fail)
      refine LoopEnd.of (i + 1, mulL2 acc q) ⟨by omega, c5, h2⟩ (by simp only; omega) ?_
      refine Ent.of [] ?_ ?_ rfl rfl
      repeat' (first | exact True.intro |refine ⟨⟨AV.Le.refl _, rfl⟩, ?_⟩ |refine ⟨⟨AV.Le.any _, rfl⟩, ?_⟩ |refine ⟨⟨⟨_, rfl, BLe.cells (LeL.refl _)⟩, rfl⟩, ?_⟩ |refine ⟨⟨⟨_, rfl, BLe.row rfl⟩, rfl⟩, ?_⟩ |refine ⟨⟨⟨_, rfl, BLe.row ?_⟩, rfl⟩, ?_⟩ |refine ⟨⟨⟨_, rfl, BLe.cells ?_⟩, rfl⟩, ?_⟩ |refine ⟨⟨AV.Le.int ?_, rfl⟩, ?_⟩ |refine ⟨⟨AV.Le.bool ?_, rfl⟩, ?_⟩ |refine ⟨⟨AV.Le.sl ?_, rfl⟩, ?_⟩ |refine ⟨⟨AV.Le.of_eq ?_, rfl⟩, ?_⟩ | fail)
    · rename_i hi
      rw [List.drop_of_length_le (by omega)] at h2
      refine RetOk.of rfl (AV.Le.of_eq ?_)
      rw [← h2]; rfl
end Go.Proofs.YtcaecieigoplbaaGreat
/- Kit.Link: its closures; what occurs. -/
namespace Go.AL
/-- the variables that occur in some polynomials -/
def occL (V : Nat) (ls : List (List UT)) : List Nat := (List.range V).filter fun i => ls.any fun p => p.any fun u => decide (0 < u.2.getD i 0)
def pickE (occ : List Nat) (e : List Int) : List Int := occ.map fun i => e.getD i 0
def pickU (occ : List Nat) (p : List UT) : List UT := p.map fun u => (u.1, pickE occ u.2)
def linkU (V : Nat) (kind : Int) (ls : List (List UT)) : LZ := ⟨kind, (occL V ls).map fun (i : Nat) => (i : Int), ls.map fun p => mkP (occL V ls).length (pickU (occL V ls) p)⟩
end Go.AL
namespace Go.Proofs.YtcaecieigoplbaaGreat
open Go.AL
abbrev iB (i : Int) : List (AL.Id × Bx) := [(900, .cells [aN i] 3)]
theorem idxT_ok (o : Int) (f : TZ → Bool) (ps : List TZ) (hl : ps.length ≤ 1000000) (hf : ∀ p ∈ ps, IoFn Tryz.prog 142 ([aT p] ++ [.ptr 900 0]) (iB o) (.ret (aB (f p))) (iB o)) :
    IoFn Tryz.prog 189 [.sl 3 eT ps, .fn 142 [.ptr 900 0]] (iB o) (.ret (aN (idxI f ps 0))) (iB o) := by
  refine IoFn.of_body Tryz.func189 rfl Tryz.ntmps189 rfl rfl rfl ?_
  repeat' (first |refine Fl.v rfl rfl rfl ?_ |refine Fl.nilF ?_ |refine AWP.seq ?_ |refine AWP.region ?_ |refine AWP.block ?_ |fail)
  refine AWP.loop (G := Nat) (fun i => i ≤ ps.length ∧ idxI f (ps.drop i) i = idxI f ps 0) (fun i => St.of [900] [(0, .sl 3 eT ps), (1, .fn 142 [.ptr 900 0]), (7, aN ps.length), (8, aN i)] [(900, .cells [aN o] 3)]) (fun i => ps.length - i) 0 ⟨by omega, by simp⟩ ?_ ?_
  · refine Ent.of [] ?_ ?_ rfl rfl
    repeat' (first | exact True.intro |refine ⟨⟨AV.Le.refl _, rfl⟩, ?_⟩ |refine ⟨⟨AV.Le.any _, rfl⟩, ?_⟩ |refine ⟨⟨⟨_, rfl, BLe.cells (LeL.refl _)⟩, rfl⟩, ?_⟩ |refine ⟨⟨⟨_, rfl, BLe.row rfl⟩, rfl⟩, ?_⟩ |refine ⟨⟨⟨_, rfl, BLe.row ?_⟩, rfl⟩, ?_⟩ |refine ⟨⟨⟨_, rfl, BLe.cells ?_⟩, rfl⟩, ?_⟩ |refine ⟨⟨AV.Le.int ?_, rfl⟩, ?_⟩ |refine ⟨⟨AV.Le.bool ?_, rfl⟩, ?_⟩ |refine ⟨⟨AV.Le.sl ?_, rfl⟩, ?_⟩ |refine ⟨⟨AV.Le.of_eq ?_, rfl⟩, ?_⟩ | fail)
  · intro i ⟨k0, k1⟩
    repeat' (first |refine Fl.v rfl rfl rfl ?_ |refine Fl.nilF ?_ |refine AWP.seq ?_ |refine AWP.region ?_ |(refine AWP.condD rfl ?_ ?_ <;> intro _ <;> try (exfalso; omega)) |refine AWP.block ?_ |refine AWP.skip ?_ |refine AWP.exit ?_ |refine AWP.ret ?_ |(refine Fl.el rfl rfl rfl rfl rfl rfl rfl rfl (by omega) (by omega) ?_; intro _ _) |fail)
    · rename_i hi p hp
      rw [Int.toNat_natCast] at hp
      have hd := idxI_drop (f := f) hp
      refine Fl.ioV rfl rfl [] (hf p (List.mem_of_getElem? hp)) rfl rfl (LeL.refl _) rfl ⟨⟨⟨_, rfl, BLe.cells (LeL.refl _)⟩, rfl⟩, trivial⟩ rfl rfl rfl rfl rfl ?_
      repeat' (first |refine Fl.v rfl rfl rfl ?_ |refine Fl.nilF ?_ |refine AWP.seq ?_ |refine AWP.region ?_ |refine Fl.w rfl rfl rfl (by first | exact True.intro | omega) ?_ |refine AWP.skip ?_ |refine AWP.ret ?_ |(refine AWP.condB rfl ?_ ?_ <;> intro _) |fail)
      · rename_i hb
        rw [if_pos hb] at hd
        refine ⟨⟨[], _, _, Ent.refl _ _ _, rfl, AV.Le.int ?_, rfl, ⟨⟨⟨_, rfl, BLe.cells (LeL.refl _)⟩, rfl⟩, trivial⟩, rfl, rfl⟩⟩
        rw [← k1, hd]
      · rename_i hb
        rw [if_neg (by rw [hb]; simp)] at hd
        refine LoopEnd.of (i + 1) ⟨by omega, by rw [← k1, hd]⟩ (by omega) ?_
        refine Ent.of [] ?_ ?_ rfl rfl
        repeat' (first | exact True.intro |refine ⟨⟨AV.Le.refl _, rfl⟩, ?_⟩ |refine ⟨⟨AV.Le.any _, rfl⟩, ?_⟩ |refine ⟨⟨⟨_, rfl, BLe.cells (LeL.refl _)⟩, rfl⟩, ?_⟩ |refine ⟨⟨⟨_, rfl, BLe.row rfl⟩, rfl⟩, ?_⟩ |refine ⟨⟨⟨_, rfl, BLe.row ?_⟩, rfl⟩, ?_⟩ |refine ⟨⟨⟨_, rfl, BLe.cells ?_⟩, rfl⟩, ?_⟩ |refine ⟨⟨AV.Le.int ?_, rfl⟩, ?_⟩ |refine ⟨⟨AV.Le.bool ?_, rfl⟩, ?_⟩ |refine ⟨⟨AV.Le.sl ?_, rfl⟩, ?_⟩ |refine ⟨⟨AV.Le.of_eq ?_, rfl⟩, ?_⟩ | fail)
    · refine ⟨⟨[], _, _, Ent.refl _ _ _, rfl, AV.Le.int ?_, rfl, ⟨⟨⟨_, rfl, BLe.cells (LeL.refl _)⟩, rfl⟩, trivial⟩, rfl, rfl⟩⟩
      rw [← k1, List.drop_of_length_le (by omega)]; rfl
theorem conT_ok (o : Int) (f : TZ → Bool) (ps : List TZ) (hl : ps.length ≤ 1000000) (hf : ∀ p ∈ ps, IoFn Tryz.prog 142 ([aT p] ++ [.ptr 900 0]) (iB o) (.ret (aB (f p))) (iB o)) :
    IoFn Tryz.prog 141 [.sl 3 eT ps, .fn 142 [.ptr 900 0]] (iB o) (.ret (aB (ps.any f))) (iB o) := by
  refine IoFn.of_body Tryz.func141 rfl Tryz.ntmps141 rfl rfl rfl ?_
  have h := idxT_ok o f ps hl hf
  have he := idxI_any f ps 0 (by omega)
  repeat' (first |refine Fl.v rfl rfl rfl ?_ |refine Fl.nilF ?_ |refine AWP.seq ?_ |refine AWP.region ?_ |fail)
  refine Fl.io rfl [] h rfl rfl (LeL.refl _) rfl ⟨⟨⟨_, rfl, BLe.cells (LeL.refl _)⟩, rfl⟩, trivial⟩ rfl rfl rfl rfl rfl ?_
  repeat' (first |refine Fl.v rfl rfl rfl ?_ |refine Fl.nilF ?_ |refine AWP.ret ?_ |fail)
  exact ⟨⟨[], _, _, Ent.refl _ _ _, rfl, AV.Le.bool he, rfl, ⟨⟨⟨_, rfl, BLe.cells (LeL.refl _)⟩, rfl⟩, trivial⟩, rfl, rfl⟩⟩
theorem link11_ok (i : Nat) (t : TZ) (hi : i < t.e.length) : IoFn Tryz.prog 142 [aT t, .ptr 900 0] (iB i) (.ret (aB (decide (0 < t.e.getD i 0)))) (iB i) := by
  refine IoFn.of_body Tryz.func142 rfl Tryz.ntmps142 rfl rfl rfl ?_
  repeat' (first |refine Fl.v rfl rfl rfl ?_ |refine Fl.nilF ?_ |refine AWP.seq ?_ |refine AWP.region ?_ |refine Fl.b rfl rfl rfl rfl ?_ |refine AWP.ret ?_ |(refine Fl.el rfl rfl rfl rfl rfl rfl rfl rfl (by omega) (by omega) ?_; intro _ _) |fail)
  rename_i x hx
  have hx : t.e[i]? = some x := by simpa using hx
  refine ⟨⟨[], _, _, Ent.refl _ _ _, rfl, AV.Le.bool ?_, rfl, ⟨⟨⟨_, rfl, BLe.cells (LeL.refl _)⟩, rfl⟩, trivial⟩, rfl, rfl⟩⟩
  rw [List.getD_eq_getElem?_getD, hx]
  rfl
theorem idxK_ok (o : Int) (f : PZ → Bool) (ps : List PZ) (hl : ps.length ≤ 1000000) (hf : ∀ p ∈ ps, IoFn Tryz.prog 140 ([aP p] ++ [.ptr 900 0]) (iB o) (.ret (aB (f p))) (iB o)) :
    IoFn Tryz.prog 188 [.sl 2 eP ps, .fn 140 [.ptr 900 0]] (iB o) (.ret (aN (idxI f ps 0))) (iB o) := by
  refine IoFn.of_body Tryz.func188 rfl Tryz.ntmps188 rfl rfl rfl ?_
  repeat' (first |refine Fl.v rfl rfl rfl ?_ |refine Fl.nilF ?_ |refine AWP.seq ?_ |refine AWP.region ?_ |refine AWP.block ?_ |fail)
  refine AWP.loop (G := Nat) (fun i => i ≤ ps.length ∧ idxI f (ps.drop i) i = idxI f ps 0) (fun i => St.of [900] [(0, .sl 2 eP ps), (1, .fn 140 [.ptr 900 0]), (7, aN ps.length), (8, aN i)] [(900, .cells [aN o] 3)]) (fun i => ps.length - i) 0 ⟨by omega, by simp⟩ ?_ ?_
  · refine Ent.of [] ?_ ?_ rfl rfl
    repeat' (first | exact True.intro |refine ⟨⟨AV.Le.refl _, rfl⟩, ?_⟩ |refine ⟨⟨AV.Le.any _, rfl⟩, ?_⟩ |refine ⟨⟨⟨_, rfl, BLe.cells (LeL.refl _)⟩, rfl⟩, ?_⟩ |refine ⟨⟨⟨_, rfl, BLe.row rfl⟩, rfl⟩, ?_⟩ |refine ⟨⟨⟨_, rfl, BLe.row ?_⟩, rfl⟩, ?_⟩ |refine ⟨⟨⟨_, rfl, BLe.cells ?_⟩, rfl⟩, ?_⟩ |refine ⟨⟨AV.Le.int ?_, rfl⟩, ?_⟩ |refine ⟨⟨AV.Le.bool ?_, rfl⟩, ?_⟩ |refine ⟨⟨AV.Le.sl ?_, rfl⟩, ?_⟩ |refine ⟨⟨AV.Le.of_eq ?_, rfl⟩, ?_⟩ | fail)
  · intro i ⟨k0, k1⟩
    repeat' (first |refine Fl.v rfl rfl rfl ?_ |refine Fl.nilF ?_ |refine AWP.seq ?_ |refine AWP.region ?_ |(refine AWP.condD rfl ?_ ?_ <;> intro _ <;> try (exfalso; omega)) |refine AWP.block ?_ |refine AWP.skip ?_ |refine AWP.exit ?_ |refine AWP.ret ?_ |(refine Fl.el rfl rfl rfl rfl rfl rfl rfl rfl (by omega) (by omega) ?_; intro _ _) |fail)
    · rename_i hi p hp
      rw [Int.toNat_natCast] at hp
      have hd := idxI_drop (f := f) hp
      refine Fl.ioV rfl rfl [] (hf p (List.mem_of_getElem? hp)) rfl rfl (LeL.refl _) rfl ⟨⟨⟨_, rfl, BLe.cells (LeL.refl _)⟩, rfl⟩, trivial⟩ rfl rfl rfl rfl rfl ?_
      repeat' (first |refine Fl.v rfl rfl rfl ?_ |refine Fl.nilF ?_ |refine AWP.seq ?_ |refine AWP.region ?_ |refine Fl.w rfl rfl rfl (by first | exact True.intro | omega) ?_ |refine AWP.skip ?_ |refine AWP.ret ?_ |(refine AWP.condB rfl ?_ ?_ <;> intro _) |fail)
      · rename_i hb
        rw [if_pos hb] at hd
        refine ⟨⟨[], _, _, Ent.refl _ _ _, rfl, AV.Le.int ?_, rfl, ⟨⟨⟨_, rfl, BLe.cells (LeL.refl _)⟩, rfl⟩, trivial⟩, rfl, rfl⟩⟩
        rw [← k1, hd]
      · rename_i hb
        rw [if_neg (by rw [hb]; simp)] at hd
        refine LoopEnd.of (i + 1) ⟨by omega, by rw [← k1, hd]⟩ (by omega) ?_
        refine Ent.of [] ?_ ?_ rfl rfl
        repeat' (first | exact True.intro |refine ⟨⟨AV.Le.refl _, rfl⟩, ?_⟩ |refine ⟨⟨AV.Le.any _, rfl⟩, ?_⟩ |refine ⟨⟨⟨_, rfl, BLe.cells (LeL.refl _)⟩, rfl⟩, ?_⟩ |refine ⟨⟨⟨_, rfl, BLe.row rfl⟩, rfl⟩, ?_⟩ |refine ⟨⟨⟨_, rfl, BLe.row ?_⟩, rfl⟩, ?_⟩ |refine ⟨⟨⟨_, rfl, BLe.cells ?_⟩, rfl⟩, ?_⟩ |refine ⟨⟨AV.Le.int ?_, rfl⟩, ?_⟩ |refine ⟨⟨AV.Le.bool ?_, rfl⟩, ?_⟩ |refine ⟨⟨AV.Le.sl ?_, rfl⟩, ?_⟩ |refine ⟨⟨AV.Le.of_eq ?_, rfl⟩, ?_⟩ | fail)
    · refine ⟨⟨[], _, _, Ent.refl _ _ _, rfl, AV.Le.int ?_, rfl, ⟨⟨⟨_, rfl, BLe.cells (LeL.refl _)⟩, rfl⟩, trivial⟩, rfl, rfl⟩⟩
      rw [← k1, List.drop_of_length_le (by omega)]; rfl
theorem conK_ok (o : Int) (f : PZ → Bool) (ps : List PZ) (hl : ps.length ≤ 1000000) (hf : ∀ p ∈ ps, IoFn Tryz.prog 140 ([aP p] ++ [.ptr 900 0]) (iB o) (.ret (aB (f p))) (iB o)) :
    IoFn Tryz.prog 139 [.sl 2 eP ps, .fn 140 [.ptr 900 0]] (iB o) (.ret (aB (ps.any f))) (iB o) := by
  refine IoFn.of_body Tryz.func139 rfl Tryz.ntmps139 rfl rfl rfl ?_
  have h := idxK_ok o f ps hl hf
  have he := idxI_any f ps 0 (by omega)
  repeat' (first |refine Fl.v rfl rfl rfl ?_ |refine Fl.nilF ?_ |refine AWP.seq ?_ |refine AWP.region ?_ |fail)
  refine Fl.io rfl [] h rfl rfl (LeL.refl _) rfl ⟨⟨⟨_, rfl, BLe.cells (LeL.refl _)⟩, rfl⟩, trivial⟩ rfl rfl rfl rfl rfl ?_
  repeat' (first |refine Fl.v rfl rfl rfl ?_ |refine Fl.nilF ?_ |refine AWP.ret ?_ |fail)
  exact ⟨⟨[], _, _, Ent.refl _ _ _, rfl, AV.Le.bool he, rfl, ⟨⟨⟨_, rfl, BLe.cells (LeL.refl _)⟩, rfl⟩, trivial⟩, rfl, rfl⟩⟩
theorem linkK1_ok (i : Nat) (p : PZ) (hl : p.terms.length ≤ 1000000) (hi : ∀ t ∈ p.terms, i < t.e.length) : IoFn Tryz.prog 140 [aP p, .ptr 900 0] (iB i) (.ret (aB (p.terms.any fun t => decide (0 < t.e.getD i 0)))) (iB i) := by
  refine IoFn.of_body Tryz.func140 rfl Tryz.ntmps140 rfl rfl rfl ?_
  have h := conT_ok i (fun t => decide (0 < t.e.getD i 0)) p.terms hl (fun t ht => link11_ok i t (hi t ht))
  repeat' (first |refine Fl.v rfl rfl rfl ?_ |refine Fl.nilF ?_ |refine AWP.seq ?_ |refine AWP.region ?_ |refine Fl.b rfl rfl rfl rfl ?_ |fail)

  refine Fl.io rfl [] h rfl rfl (LeL.refl _) rfl ⟨⟨⟨_, rfl, BLe.cells (LeL.refl _)⟩, rfl⟩, trivial⟩ rfl rfl rfl rfl rfl ?_
  repeat' (first |refine Fl.v rfl rfl rfl ?_ |refine Fl.nilF ?_ |refine AWP.ret ?_ |fail)
  exact ⟨⟨[], _, _, Ent.refl _ _ _, rfl, AV.Le.refl _, rfl, ⟨⟨⟨_, rfl, BLe.cells (LeL.refl _)⟩, rfl⟩, trivial⟩, rfl, rfl⟩⟩
end Go.Proofs.YtcaecieigoplbaaGreat
/- Kit.Link, Kit.Eq: the walk. -/
namespace Go.AL
def occP (ls : List (List UT)) (i : Nat) : Bool := ls.any fun p => p.any fun u => decide (0 < u.2.getD i 0)
def occI (ls : List (List UT)) (i : Nat) : List Int := ((List.range i).filter (occP ls)).map fun (j : Nat) => (j : Int)
theorem occI_step (ls : List (List UT)) (i : Nat) : occI ls (i + 1) = if occP ls i = true then occI ls i ++ [(i : Int)] else occI ls i := by
  unfold occI
  rw [List.range_succ, List.filter_append, List.map_append]
  by_cases h : occP ls i = true
  · rw [if_pos h]; simp [h]
  · rw [if_neg h]; simp [h]
theorem occI_len (ls : List (List UT)) (i : Nat) : (occI ls i).length ≤ i := by
  unfold occI
  rw [List.length_map]
  exact Nat.le_trans (List.length_filter_le _ _) (by simp)
theorem occI_mem {ls : List (List UT)} {V : Nat} {x : Int} (h : x ∈ occI ls V) : 0 ≤ x ∧ x < V := by
  unfold occI at h
  obtain ⟨j, hj, rfl⟩ := List.mem_map.1 h
  have := (List.mem_filter.1 hj).1
  rw [List.mem_range] at this
  omega
theorem occP_any (V : Nat) (ls : List (List UT)) (i : Nat) : ((ls.map (mkP V)).any fun p => p.terms.any fun t => decide (0 < t.e.getD i 0)) = occP ls i := by
  unfold occP
  rw [List.any_map]
  congr 1
  funext p
  simp only [Function.comp, mkP, List.any_map]
  rfl
def pickX (occ : List Int) (e : List Int) : List Int := occ.map fun x => e.getD x.toNat 0
theorem pickX_eq (occ : List Nat) (e : List Int) : pickX (occ.map fun (i : Nat) => (i : Int)) e = pickE occ e := by
  unfold pickX pickE
  rw [List.map_map]
  rfl
end Go.AL
namespace Go.Proofs.YtcaecieigoplbaaGreat
open Go.AL

set_option maxHeartbeats 1000000 in
theorem kLink_ok (V : Nat) (kind : Int) (ls : List (List UT)) (hV : V ≤ 32) (hl : ls.length ≤ 1000) (hk : ∀ p ∈ ls, p.length ≤ 3000 ∧ ∀ u ∈ p, u.2.length = V) : PureFn Tryz.prog 68 [aK V, aN kind, .sl 2 eP (ls.map (mkP V))] (aL (linkU V kind ls)) := by
  refine PureFn.of_body Tryz.func68 rfl Tryz.ntmps68 rfl rfl ?_
  obtain ⟨L, hL⟩ : ∃ L, L = ls.map (mkP V) := ⟨_, rfl⟩
  have hLl : L.length = ls.length := by rw [hL, List.length_map]
  rw [← hL]
  have hcon : ∀ i : Nat, i < V → IoFn Tryz.prog 139 [.sl 2 eP L, .fn 140 [.ptr 900 0]] (iB i) (.ret (aB (occP ls i))) (iB i) := fun i hi => by
    have h := conK_ok i (fun p => p.terms.any fun t => decide (0 < t.e.getD i 0)) L (by omega) (fun p hp => by
      rw [hL] at hp
      obtain ⟨q, hq, rfl⟩ := List.mem_map.1 hp
      have := hk q hq
      refine linkK1_ok i (mkP V q) (by simp only [mkP, List.length_map]; omega) (fun t ht => ?_)
      obtain ⟨u, hu, rfl⟩ := List.mem_map.1 ht
      have := this.2 u hu
      show i < u.2.length
      omega)
    rw [hL, occP_any] at h
    rw [hL]
    exact h
  refine AWP.seqS ?_
  repeat' (first |refine Fl.nilF ?_ |refine AWP.region ?_ |refine Fl.b rfl rfl rfl rfl ?_ |fail)
  refine ⟨AWP.seqS ?_⟩
  repeat' (first |refine Fl.v rfl rfl rfl ?_ |refine Fl.nilF ?_ |refine AWP.region ?_ |refine Fl.b rfl rfl rfl rfl ?_ |fail)
  refine ⟨?_⟩
  refine AWP.ent (Ent.nilcell 7 1 805 rfl rfl rfl 1 eI 3) ?_
  repeat' (first |refine Fl.v rfl rfl rfl ?_ |refine Fl.nilF ?_ |refine AWP.seq ?_ |refine AWP.region ?_ |refine AWP.block ?_ |fail)
  refine AWP.loop (G := Nat) (fun i => i ≤ V) (fun i => St.of [] [(2, .sl 2 eP L), (6, .ptr 6 0), (7, .ptr 7 0), (20, aN V), (21, aN i)] [(6, .cells [aN 0, .v (.slice none 0 0), .v (.slice none 0 0)] 82), (7, .cells [aN kind, .row 700, .v (.slice none 0 0)] 82), (700, .row 1 eI (occI ls i) 3)]) (fun i => V - i) 0 (by omega) ?_ ?_
  · refine Ent.of [(700, 805)] ?_ ?_ rfl rfl
    repeat' (first | exact True.intro |refine ⟨⟨AV.Le.refl _, rfl⟩, ?_⟩ |refine ⟨⟨AV.Le.any _, rfl⟩, ?_⟩ |refine ⟨⟨⟨_, rfl, BLe.cells (LeL.refl _)⟩, rfl⟩, ?_⟩ |refine ⟨⟨⟨_, rfl, BLe.row rfl⟩, rfl⟩, ?_⟩ |refine ⟨⟨⟨_, rfl, BLe.row ?_⟩, rfl⟩, ?_⟩ |refine ⟨⟨⟨_, rfl, BLe.cells ?_⟩, rfl⟩, ?_⟩ |refine ⟨⟨AV.Le.int ?_, rfl⟩, ?_⟩ |refine ⟨⟨AV.Le.bool ?_, rfl⟩, ?_⟩ |refine ⟨⟨AV.Le.sl ?_, rfl⟩, ?_⟩ |refine ⟨⟨AV.Le.of_eq ?_, rfl⟩, ?_⟩ | fail)
  · intro i k0
    have hol := occI_len ls i
    have hst := occI_step ls i
    repeat' (first |refine Fl.v rfl rfl rfl ?_ |refine Fl.nilF ?_ |refine AWP.seq ?_ |refine AWP.region ?_ |refine Fl.b rfl rfl rfl rfl ?_ |(refine AWP.condD rfl ?_ ?_ <;> intro _ <;> try (exfalso; omega)) |refine AWP.block ?_ |refine AWP.skip ?_ |refine AWP.exit ?_ |fail)
    · rename_i hi
      refine Fl.io rfl [(900, 8)] (hcon i (by omega)) rfl rfl (LeL.refl _) rfl ⟨⟨⟨_, rfl, BLe.cells (LeL.refl _)⟩, rfl⟩, trivial⟩ rfl rfl rfl rfl rfl ?_
      repeat' (first |refine Fl.v rfl rfl rfl ?_ |refine Fl.nilF ?_ |refine AWP.region ?_ |refine Fl.w rfl rfl rfl (by first | exact True.intro | omega) ?_ |refine AWP.skip ?_ |(refine AWP.condB rfl ?_ ?_ <;> intro _) |fail)
      · rename_i hb
        rw [if_pos hb] at hst
        refine Fl.lit rfl rfl rfl rfl rfl eI [(i : Int)] rfl rfl rfl rfl (by intro _ _; rfl) rfl ?_
        skip
        refine Fl.ap rfl rfl rfl rfl rfl rfl rfl rfl rfl rfl rfl rfl rfl (fun _ => rfl) (fun _ => rfl) (AV.Le.refl _) (by dsimp only [List.length_nil, List.length_cons]; omega) (by simp; omega) ?_
        repeat' (first |refine Fl.v rfl rfl rfl ?_ |refine Fl.nilF ?_ |refine AWP.region ?_ |refine Fl.w rfl rfl rfl (by first | exact True.intro | omega) ?_ |refine Fl.b rfl rfl rfl rfl ?_ |fail)
        refine LoopEnd.of (i + 1) (by omega) (by omega) ?_
        refine Ent.of [(700, 31)] ?_ ?_ rfl rfl
        repeat' (first | exact True.intro |refine ⟨⟨AV.Le.refl _, rfl⟩, ?_⟩ |refine ⟨⟨AV.Le.any _, rfl⟩, ?_⟩ |refine ⟨⟨⟨_, rfl, BLe.cells (LeL.refl _)⟩, rfl⟩, ?_⟩ |refine ⟨⟨⟨_, rfl, BLe.row rfl⟩, rfl⟩, ?_⟩ |refine ⟨⟨⟨_, rfl, BLe.row ?_⟩, rfl⟩, ?_⟩ |refine ⟨⟨⟨_, rfl, BLe.cells ?_⟩, rfl⟩, ?_⟩ |refine ⟨⟨AV.Le.int ?_, rfl⟩, ?_⟩ |refine ⟨⟨AV.Le.bool ?_, rfl⟩, ?_⟩ |refine ⟨⟨AV.Le.sl ?_, rfl⟩, ?_⟩ |refine ⟨⟨AV.Le.of_eq ?_, rfl⟩, ?_⟩ | fail)
        exact hst.symm
      · rename_i hb
        rw [if_neg (by rw [hb]; simp)] at hst
        refine LoopEnd.of (i + 1) (by omega) (by omega) ?_
        refine Ent.of [] ?_ ?_ rfl rfl
        repeat' (first | exact True.intro |refine ⟨⟨AV.Le.refl _, rfl⟩, ?_⟩ |refine ⟨⟨AV.Le.any _, rfl⟩, ?_⟩ |refine ⟨⟨⟨_, rfl, BLe.cells (LeL.refl _)⟩, rfl⟩, ?_⟩ |refine ⟨⟨⟨_, rfl, BLe.row rfl⟩, rfl⟩, ?_⟩ |refine ⟨⟨⟨_, rfl, BLe.row ?_⟩, rfl⟩, ?_⟩ |refine ⟨⟨⟨_, rfl, BLe.cells ?_⟩, rfl⟩, ?_⟩ |refine ⟨⟨AV.Le.int ?_, rfl⟩, ?_⟩ |refine ⟨⟨AV.Le.bool ?_, rfl⟩, ?_⟩ |refine ⟨⟨AV.Le.sl ?_, rfl⟩, ?_⟩ |refine ⟨⟨AV.Le.of_eq ?_, rfl⟩, ?_⟩ | fail)
        exact hst.symm
    · rename_i hi
      have hiV : i = V := by omega
      subst hiV
      have hom : ∀ (m : Nat) (x : Int), (occI ls i)[m]? = some x → 0 ≤ x ∧ x < i := fun m x hx => occI_mem (List.mem_of_getElem? hx)
      have hocc : occI ls i = (occL i ls).map fun (i : Nat) => (i : Int) := rfl
      have hon : (occL i ls).length = (occI ls i).length := by rw [hocc, List.length_map]
      have hres : linkU i kind ls = ⟨kind, occI ls i, ls.map fun p => mkP (occI ls i).length (p.map fun u => (u.1, pickX (occI ls i) u.2))⟩ := by
        unfold linkU
        rw [← hocc, hon]
        congr 1
        refine List.map_congr_left fun p _ => ?_
        unfold pickU
        congr 1
        refine List.map_congr_left fun u _ => ?_
        rw [hocc, pickX_eq]
      rw [hres]
      generalize occI ls i = occ at *
      refine AWP.ent (Ent.freeze 700 rfl) ?_
      refine AWP.ent (Ent.nilcell 7 2 806 rfl rfl rfl 2 eP 70) ?_
      skip
      refine AWP.loop (G := Nat) (fun j => j ≤ ls.length) (fun j => St.of [] [(6, .ptr 6 0), (7, .ptr 7 0), (34, .sl 2 eP L), (35, aN L.length), (36, aN j)] [(6, .cells [aN 0, .v (.slice none 0 0), .v (.slice none 0 0)] 82), (7, .cells [aN kind, aI occ, .row 701] 82), (701, .row 2 eP ((ls.take j).map fun p => mkP occ.length (p.map fun u => (u.1, pickX occ u.2))) 70)]) (fun j => ls.length - j) 0 (by omega) ?_ ?_
      · refine Ent.of [(701, 806)] ?_ ?_ rfl rfl
        repeat' (first | exact True.intro |refine ⟨⟨AV.Le.refl _, rfl⟩, ?_⟩ |refine ⟨⟨AV.Le.any _, rfl⟩, ?_⟩ |refine ⟨⟨⟨_, rfl, BLe.cells (LeL.refl _)⟩, rfl⟩, ?_⟩ |refine ⟨⟨⟨_, rfl, BLe.row rfl⟩, rfl⟩, ?_⟩ |refine ⟨⟨⟨_, rfl, BLe.row ?_⟩, rfl⟩, ?_⟩ |refine ⟨⟨⟨_, rfl, BLe.cells ?_⟩, rfl⟩, ?_⟩ |refine ⟨⟨AV.Le.int ?_, rfl⟩, ?_⟩ |refine ⟨⟨AV.Le.bool ?_, rfl⟩, ?_⟩ |refine ⟨⟨AV.Le.sl ?_, rfl⟩, ?_⟩ |refine ⟨⟨AV.Le.of_eq ?_, rfl⟩, ?_⟩ | fail)
      · intro j g0
        have hlj : ((ls.take j).map fun p => mkP occ.length (p.map fun u => (u.1, pickX occ u.2))).length = j := by rw [List.length_map, List.length_take]; omega
        by_cases hj : j < ls.length
        · obtain ⟨q, hq⟩ : ∃ q, ls[j]? = some q := ⟨_, List.getElem?_eq_getElem hj⟩
          have hLq : L[j]? = some (mkP i q) := by rw [hL, List.getElem?_map, hq]; rfl
          obtain ⟨hq1, hq2⟩ := hk q (List.mem_of_getElem? hq)
          refine AWP.seqS ?_
          repeat' (first |refine Fl.v rfl rfl rfl ?_ |refine Fl.nilF ?_ |refine AWP.region ?_ |fail)
          refine ⟨?_⟩
          refine AWP.seqS ?_
          repeat' (first |(refine AWP.condD rfl ?_ ?_ <;> intro _ <;> try (exfalso; omega)) |refine AWP.skip ?_ |fail)
          refine ⟨?_⟩
          refine AWP.seq (AWP.block (AWP.seqS ?_))
          repeat' (first |refine Fl.v rfl rfl rfl ?_ |refine Fl.nilF ?_ |refine AWP.region ?_ |refine Fl.b rfl rfl rfl rfl ?_ |refine Fl.elK rfl rfl rfl rfl rfl rfl rfl rfl (by assumption) (by omega) ?_ |fail)
          refine ⟨?_⟩
          refine AWP.seqS ?_
          repeat' (first |refine Fl.v rfl rfl rfl ?_ |refine Fl.nilF ?_ |refine AWP.region ?_ |refine Fl.b rfl rfl rfl rfl ?_ |fail)
          refine ⟨?_⟩
          refine AWP.ent (Ent.nilcell 11 1 807 rfl rfl rfl 3 eT 124) ?_
          repeat' (first |refine Fl.v rfl rfl rfl ?_ |refine Fl.nilF ?_ |refine AWP.seq ?_ |refine AWP.region ?_ |refine AWP.block ?_ |fail)
          obtain ⟨T, hT⟩ : ∃ T, T = (mkP i q).terms := ⟨_, rfl⟩
          have hTl : T.length = q.length := by rw [hT]; simp [mkP]
          refine AWP.loop (G := Nat) (fun k => k ≤ q.length) (fun k => St.of [] [(6, .ptr 6 0), (7, .ptr 7 0), (34, .sl 2 eP L), (35, aN L.length), (36, aN j), (11, .ptr 11 0), (45, .sl 3 eT T), (46, aN T.length), (47, aN k)] [(6, .cells [aN 0, .v (.slice none 0 0), .v (.slice none 0 0)] 82), (7, .cells [aN kind, aI occ, .row 701] 82), (701, .row 2 eP ((ls.take j).map fun p => mkP occ.length (p.map fun u => (u.1, pickX occ u.2))) 70), (11, .cells [aN occ.length, .row 702] 70), (702, .row 3 eT (((q.take k).map fun u => (u.1, pickX occ u.2)).map tz) 124)]) (fun k => q.length - k) 0 (by omega) ?_ ?_
          · refine Ent.of [(702, 807)] ?_ ?_ rfl rfl
            repeat' (first | exact True.intro |refine ⟨⟨AV.Le.refl _, rfl⟩, ?_⟩ |refine ⟨⟨AV.Le.any _, rfl⟩, ?_⟩ |refine ⟨⟨⟨_, rfl, BLe.cells (LeL.refl _)⟩, rfl⟩, ?_⟩ |refine ⟨⟨⟨_, rfl, BLe.row rfl⟩, rfl⟩, ?_⟩ |refine ⟨⟨⟨_, rfl, BLe.row ?_⟩, rfl⟩, ?_⟩ |refine ⟨⟨⟨_, rfl, BLe.cells ?_⟩, rfl⟩, ?_⟩ |refine ⟨⟨AV.Le.int ?_, rfl⟩, ?_⟩ |refine ⟨⟨AV.Le.bool ?_, rfl⟩, ?_⟩ |refine ⟨⟨AV.Le.sl ?_, rfl⟩, ?_⟩ |refine ⟨⟨AV.Le.of_eq ?_, rfl⟩, ?_⟩ | fail)
            · exact hT.symm
            · rw [hTl]; simp [mkP]
          · intro k e0
            have hlk : (((q.take k).map fun u => (u.1, pickX occ u.2)).map tz).length = k := by rw [List.length_map, List.length_map, List.length_take]; omega
            by_cases hkq : k < q.length
            · obtain ⟨u, hu⟩ : ∃ u, q[k]? = some u := ⟨_, List.getElem?_eq_getElem hkq⟩
              have hTu : T[k]? = some (tz u) := by rw [hT]; show (q.map tz)[k]? = _; rw [List.getElem?_map, hu]; rfl
              have hul := hq2 u (List.mem_of_getElem? hu)
              refine AWP.seqS ?_
              repeat' (first |refine Fl.v rfl rfl rfl ?_ |refine Fl.nilF ?_ |refine AWP.region ?_ |fail)
              refine ⟨?_⟩
              refine AWP.seqS ?_
              repeat' (first |(refine AWP.condD rfl ?_ ?_ <;> intro _ <;> try (exfalso; omega)) |refine AWP.skip ?_ |fail)
              refine ⟨AWP.seq (AWP.block (AWP.seqS ?_))⟩
              repeat' (first |refine Fl.v rfl rfl rfl ?_ |refine Fl.nilF ?_ |refine AWP.region ?_ |refine Fl.b rfl rfl rfl rfl ?_ |refine Fl.elK rfl rfl rfl rfl rfl rfl rfl rfl (by assumption) (by omega) ?_ |fail)
              refine ⟨AWP.seqS ?_⟩
              repeat' (first |refine Fl.v rfl rfl rfl ?_ |refine AWP.region ?_ |fail)
              refine Fl.make0 rfl rfl rfl rfl rfl rfl rfl rfl rfl eI (by omega) (by dsimp only; omega) (by omega) ?_
              repeat' (first |refine Fl.v rfl rfl rfl ?_ |refine Fl.nilF ?_ |fail)
              refine ⟨AWP.seq ?_⟩
              repeat' (first |refine Fl.v rfl rfl rfl ?_ |refine Fl.nilF ?_ |refine AWP.seq ?_ |refine AWP.region ?_ |refine AWP.block ?_ |fail)
              refine AWP.loop (G := Nat) (fun m => m ≤ occ.length) (fun m => St.of [] [(6, .ptr 6 0), (7, .ptr 7 0), (34, .sl 2 eP L), (35, aN L.length), (36, aN j), (11, .ptr 11 0), (45, .sl 3 eT T), (46, aN T.length), (47, aN k), (13, .ptr 13 0), (14, .row 703), (56, aI occ), (57, aN occ.length), (58, aN m)] [(6, .cells [aN 0, .v (.slice none 0 0), .v (.slice none 0 0)] 82), (7, .cells [aN kind, aI occ, .row 701] 82), (701, .row 2 eP ((ls.take j).map fun p => mkP occ.length (p.map fun u => (u.1, pickX occ u.2))) 70), (11, .cells [aN occ.length, .row 702] 70), (702, .row 3 eT (((q.take k).map fun u => (u.1, pickX occ u.2)).map tz) 124), (13, .cells (eT (tz u)) 124), (703, .row 1 eI ((occ.take m).map fun x => u.2.getD x.toNat 0) 3)]) (fun m => occ.length - m) 0 (by omega) ?_ ?_
              · refine Ent.of [(703, 54)] ?_ ?_ rfl rfl
                repeat' (first | exact True.intro |refine ⟨⟨AV.Le.refl _, rfl⟩, ?_⟩ |refine ⟨⟨AV.Le.any _, rfl⟩, ?_⟩ |refine ⟨⟨⟨_, rfl, BLe.cells (LeL.refl _)⟩, rfl⟩, ?_⟩ |refine ⟨⟨⟨_, rfl, BLe.row rfl⟩, rfl⟩, ?_⟩ |refine ⟨⟨⟨_, rfl, BLe.row ?_⟩, rfl⟩, ?_⟩ |refine ⟨⟨⟨_, rfl, BLe.cells ?_⟩, rfl⟩, ?_⟩ |refine ⟨⟨AV.Le.int ?_, rfl⟩, ?_⟩ |refine ⟨⟨AV.Le.bool ?_, rfl⟩, ?_⟩ |refine ⟨⟨AV.Le.sl ?_, rfl⟩, ?_⟩ |refine ⟨⟨AV.Le.of_eq ?_, rfl⟩, ?_⟩ | fail)
              · intro m m0
                have hlm : ((occ.take m).map fun x => u.2.getD x.toNat 0).length = m := by rw [List.length_map, List.length_take]; omega
                by_cases hm : m < occ.length
                · obtain ⟨x, hx⟩ : ∃ x, occ[m]? = some x := ⟨_, List.getElem?_eq_getElem hm⟩
                  have hxb := hom m x hx
                  obtain ⟨y, hy⟩ : ∃ y, u.2[x.toNat]? = some y := ⟨_, List.getElem?_eq_getElem (by omega)⟩
                  repeat' (first |refine Fl.v rfl rfl rfl ?_ |refine Fl.nilF ?_ |refine AWP.seq ?_ |refine AWP.region ?_ |(refine AWP.condD rfl ?_ ?_ <;> intro _ <;> try (exfalso; omega)) |refine AWP.block ?_ |refine AWP.skip ?_ |refine Fl.elK rfl rfl rfl rfl rfl rfl rfl rfl (by assumption) (by omega) ?_ |fail)
                  refine Fl.lit rfl rfl rfl rfl rfl eI [y] rfl rfl rfl rfl (by intro _ _; rfl) rfl ?_
                  skip
                  refine Fl.ap rfl rfl rfl rfl rfl rfl rfl rfl rfl rfl rfl rfl rfl (fun _ => rfl) (fun _ => rfl) (AV.Le.refl _) (by dsimp only [List.length_nil, List.length_cons]; omega) (by dsimp only [List.length_nil, List.length_cons]; omega) ?_
                  repeat' (first |refine Fl.v rfl rfl rfl ?_ |refine Fl.nilF ?_ |refine AWP.region ?_ |refine Fl.w rfl rfl rfl (by first | exact True.intro | omega) ?_ |fail)
                  refine LoopEnd.of (m + 1) (by omega) (by omega) ?_
                  refine Ent.of [(703, 69)] ?_ ?_ rfl rfl
                  repeat' (first | exact True.intro |refine ⟨⟨AV.Le.refl _, rfl⟩, ?_⟩ |refine ⟨⟨AV.Le.any _, rfl⟩, ?_⟩ |refine ⟨⟨⟨_, rfl, BLe.cells (LeL.refl _)⟩, rfl⟩, ?_⟩ |refine ⟨⟨⟨_, rfl, BLe.row rfl⟩, rfl⟩, ?_⟩ |refine ⟨⟨⟨_, rfl, BLe.row ?_⟩, rfl⟩, ?_⟩ |refine ⟨⟨⟨_, rfl, BLe.cells ?_⟩, rfl⟩, ?_⟩ |refine ⟨⟨AV.Le.int ?_, rfl⟩, ?_⟩ |refine ⟨⟨AV.Le.bool ?_, rfl⟩, ?_⟩ |refine ⟨⟨AV.Le.sl ?_, rfl⟩, ?_⟩ |refine ⟨⟨AV.Le.of_eq ?_, rfl⟩, ?_⟩ | fail)
                  rw [take_snoc hx, List.map_append]
                  congr 1
                  show [y] = [u.2.getD x.toNat 0]
                  rw [List.getD_eq_getElem?_getD, hy]
                  rfl
                · have htm : occ.take m = occ := List.take_of_length_le (by omega)
                  rw [htm]
                  refine AWP.ent (Ent.freeze 703 rfl) ?_
                  repeat' (first |refine Fl.v rfl rfl rfl ?_ |refine Fl.nilF ?_ |refine AWP.seq ?_ |refine AWP.region ?_ |refine Fl.b rfl rfl rfl rfl ?_ |(refine AWP.condD rfl ?_ ?_ <;> intro _ <;> try (exfalso; omega)) |refine AWP.exit ?_ |fail)
                  refine Fl.lit rfl rfl rfl rfl rfl eT [tz (u.1, pickX occ u.2)] rfl rfl rfl rfl (by intro _ _; rfl) rfl ?_
                  skip
                  refine Fl.ap rfl rfl rfl rfl rfl rfl rfl rfl rfl rfl rfl rfl rfl (fun _ => rfl) (fun _ => rfl) (AV.Le.refl _) (by dsimp only [List.length_nil, List.length_cons]; omega) (by dsimp only [List.length_nil, List.length_cons]; omega) ?_
                  repeat' (first |refine Fl.v rfl rfl rfl ?_ |refine Fl.nilF ?_ |refine AWP.region ?_ |refine Fl.w rfl rfl rfl (by first | exact True.intro | omega) ?_ |refine Fl.b rfl rfl rfl rfl ?_ |fail)
                  refine LoopEnd.of (k + 1) (by omega) (by omega) ?_
                  refine Ent.of [(702, 78)] ?_ ?_ rfl rfl
                  repeat' (first | exact True.intro |refine ⟨⟨AV.Le.refl _, rfl⟩, ?_⟩ |refine ⟨⟨AV.Le.any _, rfl⟩, ?_⟩ |refine ⟨⟨⟨_, rfl, BLe.cells (LeL.refl _)⟩, rfl⟩, ?_⟩ |refine ⟨⟨⟨_, rfl, BLe.row rfl⟩, rfl⟩, ?_⟩ |refine ⟨⟨⟨_, rfl, BLe.row ?_⟩, rfl⟩, ?_⟩ |refine ⟨⟨⟨_, rfl, BLe.cells ?_⟩, rfl⟩, ?_⟩ |refine ⟨⟨AV.Le.int ?_, rfl⟩, ?_⟩ |refine ⟨⟨AV.Le.bool ?_, rfl⟩, ?_⟩ |refine ⟨⟨AV.Le.sl ?_, rfl⟩, ?_⟩ |refine ⟨⟨AV.Le.of_eq ?_, rfl⟩, ?_⟩ | fail)
                  rw [take_snoc hu, List.map_append, List.map_append]
                  rfl
            · have htk : q.take k = q := List.take_of_length_le (by omega)
              rw [htk]
              refine AWP.ent (Ent.freeze 702 rfl) ?_
              repeat' (first |refine Fl.v rfl rfl rfl ?_ |refine Fl.nilF ?_ |refine AWP.seq ?_ |refine AWP.region ?_ |(refine AWP.condD rfl ?_ ?_ <;> intro _ <;> try (exfalso; omega)) |refine AWP.exit ?_ |fail)
              refine Fl.lit rfl rfl rfl rfl rfl eP [mkP occ.length (q.map fun u => (u.1, pickX occ u.2))] rfl rfl rfl rfl (by intro _ _; rfl) rfl ?_
              skip
              refine Fl.ap rfl rfl rfl rfl rfl rfl rfl rfl rfl rfl rfl rfl rfl (fun _ => rfl) (fun _ => rfl) (AV.Le.refl _) (by dsimp only [List.length_nil, List.length_cons]; omega) (by dsimp only [List.length_nil, List.length_cons]; omega) ?_
              repeat' (first |refine Fl.v rfl rfl rfl ?_ |refine Fl.nilF ?_ |refine AWP.region ?_ |refine Fl.w rfl rfl rfl (by first | exact True.intro | omega) ?_ |refine Fl.b rfl rfl rfl rfl ?_ |fail)
              refine LoopEnd.of (j + 1) (by omega) (by omega) ?_
              refine Ent.of [(701, 85)] ?_ ?_ rfl rfl
              repeat' (first | exact True.intro |refine ⟨⟨AV.Le.refl _, rfl⟩, ?_⟩ |refine ⟨⟨AV.Le.any _, rfl⟩, ?_⟩ |refine ⟨⟨⟨_, rfl, BLe.cells (LeL.refl _)⟩, rfl⟩, ?_⟩ |refine ⟨⟨⟨_, rfl, BLe.row rfl⟩, rfl⟩, ?_⟩ |refine ⟨⟨⟨_, rfl, BLe.row ?_⟩, rfl⟩, ?_⟩ |refine ⟨⟨⟨_, rfl, BLe.cells ?_⟩, rfl⟩, ?_⟩ |refine ⟨⟨AV.Le.int ?_, rfl⟩, ?_⟩ |refine ⟨⟨AV.Le.bool ?_, rfl⟩, ?_⟩ |refine ⟨⟨AV.Le.sl ?_, rfl⟩, ?_⟩ |refine ⟨⟨AV.Le.of_eq ?_, rfl⟩, ?_⟩ | fail)
              rw [take_snoc hq, List.map_append]
              rfl
        · have htj : ls.take j = ls := List.take_of_length_le (by omega)
          rw [htj]
          refine AWP.ent (Ent.freeze 701 rfl) ?_
          repeat' (first |refine Fl.v rfl rfl rfl ?_ |refine Fl.nilF ?_ |refine AWP.seq ?_ |refine AWP.region ?_ |refine Fl.b rfl rfl rfl rfl ?_ |(refine AWP.condD rfl ?_ ?_ <;> intro _ <;> try (exfalso; omega)) |refine AWP.exit ?_ |refine AWP.ret ?_ |fail)
          exact RetOk.of rfl (AV.Le.refl _)
theorem kEq_ok (V : Nat) (hV : V ≤ 32) (p q l : List UT) (hp : chkU V p p = true) (hq : chkU V q q = true) (h : chkU V (addUs (-1) p q) l = true) (hl : l.length ≤ 3000 ∧ ∀ u ∈ l, u.2.length = V) : PureFn Tryz.prog 69 [aK V, aP (mkP V p), aP (mkP V q)] (aL (linkU V 0 [l])) := by
  refine PureFn.of_body Tryz.func69 rfl Tryz.ntmps69 rfl rfl ?_
  have hk := kLink_ok V 0 [l] hV (by simp) (by simpa using hl)
  repeat' (first |refine Fl.v rfl rfl rfl ?_ |refine Fl.nilF ?_ |refine AWP.seq ?_ |refine AWP.region ?_ |refine Fl.b rfl rfl rfl rfl ?_ |fail)
  refine Fl.call rfl (kSub_ok V hV p q l hp hq h) rfl rfl rfl (LeL.refl _) ?_
  skip
  refine Fl.lit rfl rfl rfl rfl rfl eP [mkP V l] rfl rfl rfl rfl (by intro _ _; rfl) rfl ?_
  skip
  refine Fl.call rfl (hk) rfl rfl rfl (LeL.refl _) ?_
  repeat' (first |refine Fl.nil (fun _ => by kernel_rfl) ?_ |refine Fl.b rfl rfl rfl rfl ?_ |refine AWP.ret ?_ |fail)
  exact RetOk.of rfl (AV.Le.refl _)
end Go.Proofs.YtcaecieigoplbaaGreat
/- Method values of plain receivers: made, called. -/
namespace Go.AL
section
variable {P : Program} {tab : Tab} {n : Nat} {s : St}
variable {ops : Array Oper} {draw : Dr} {o : Oper} {l : List Oper} {acc : List Eff} {K : Exit → St → Prop}
abbrev bfn (f : FuncId) (us : List Value) : AV := .v (.func (.func f) #[.agg us.toArray] #[])
theorem Fl.bindM [fc : Facts P tab] {f : FuncId} {x : Operand} (hop : o.op = .makeFunc (.func f) ⟨[x]⟩ ⟨[]⟩) {cs : List AV} (hx : opd s x = .agg cs) {us : List Value} (h1 : litL cs = some us) (hg : gOk ops s o = true) (hd : dOk n o.dst = true)
    (r : Fl P n ops draw l ((Eff.mk (bfn f us) [] [] [] []).app o.dst s) (Eff.mk (bfn f us) [] [] [] [] :: acc) K) : Fl P n ops draw (o :: l) s acc K := by
  refine Fl.opv hg (OpJ.of_run (dOk_lt hd) fun C s' a w h β ho _ b => ?_) r
  have hxr := opd_rep b x
  rw [ho x (by simp [hop, Op.operands]), hx] at hxr
  simp only [Rep] at hxr
  obtain ⟨vs, e1, hr⟩ := hxr
  have e2 := litL_rep h1 hr
  refine ⟨.func (.func f) #[a.eval x] #[], by simp [execOp, hop, Instr.makeFunc], ?_⟩
  simp only [Rep]
  rw [e1, ← e2]
theorem Runs.bound {f : FuncId} {x : Operand} {args : List Operand} {ts : Array TypeId} {us : List Value} (hop : o.op = .call { callee := .value x, args := ⟨args⟩, argTypes := ts }) (hx : opd s x = bfn f us) : Runs P n o s f (.v (.agg us.toArray) :: opds s args) := by
  refine ⟨fun s' C a w h β hs k => ?_⟩
  have hxs : opd s' x = opd s x := by
    cases x with
    | tmp t => exact hs t (by rw [hop]; simp [Op.operands, Call.operands])
    | _ => rfl
  have hxr := opd_rep k x
  rw [hxs, hx] at hxr
  simp only [Rep] at hxr
  have hps : opds s' args = opds s args := opds_same args fun x hx => by
    cases x with
    | tmp t => exact hs t (by rw [hop]; simp [Op.operands, Call.operands, hx])
    | _ => rfl
  have hr := opds_rep k args
  rw [hps] at hr
  refine ⟨#[.agg us.toArray] ++ (args.map a.eval).toArray, fun hfn => ?_, ?_⟩
  · simp only [execOp, hop, resolve, hxr, Deferred.ofValue, Sem.run_bind, Sem.run_pure, Result.andThen, invoke, List.map_toArray]
    have := run_callFunc hfn (#[.agg us.toArray] ++ (args.map a.eval).toArray) w
    simpa using this
  · simp only [RepL]
    exact ⟨.agg us.toArray, args.map a.eval, by simp, by simp only [Rep], hr⟩
/-- a call of a method value -/
theorem Fl.callM {f : FuncId} {x : Operand} {args : List Operand} {ts : Array TypeId} {us : List Value} (hop : o.op = .call { callee := .value x, args := ⟨args⟩, argTypes := ts }) (hx : opd s x = bfn f us) {a : AV} {bs : List AV} {ret : AV} (hf : PureFn P f (a :: bs) ret) (hg : gOk ops s o = true) (hd : dOk n o.dst = true) (hcl : closedL (opds s args) = true) (ha : (AV.v (.agg us.toArray)).Le a) (hle : LeL (opds s args) bs)
    (r : Fl P n ops draw l ((Eff.mk ret [] [] [] []).app o.dst s) (Eff.mk ret [] [] [] [] :: acc) K) : Fl P n ops draw (o :: l) s acc K :=
  Fl.opv hg (OpJ.callG (dOk_lt hd) (Runs.bound hop hx) (LeL.cons ha hle) (by simp only [closedL, hcl, AV.closed, Bool.and_true]) hf) r
end
end Go.AL
/- arithmancy/mask.Links: the system. Written by links.py. -/
namespace Go.AL
def okLk (V : Nat) (ls : List (List UT)) : Bool := ls.all fun p => Nat.ble p.length 3000 && p.all fun u => Nat.beq u.2.length V
theorem okLk_ok {V : Nat} {ls : List (List UT)} (h : okLk V ls = true) : ∀ p ∈ ls, p.length ≤ 3000 ∧ ∀ u ∈ p, u.2.length = V := fun p hp => by
  have := List.all_eq_true.1 h p hp
  simp only [Bool.and_eq_true, List.all_eq_true] at this
  exact ⟨Nat.le_of_ble_eq_true this.1, fun u hu => Nat.eq_of_beq_eq_true (this.2 u hu)⟩
def mk0 : List UT := mulsU (conU 10 1) [conU 10 2, varU 10 5]
def mk1 : List UT := sumsU [] [mk0, conU 10 1]
def mk2 : List UT := sumsU [] [varU 10 1, conU 10 1]
def mk3 : List UT := sumsU [] [varU 10 2, conU 10 1]
def mk4 : List UT := mulsU (conU 10 1) [varU 10 2, varU 10 6]
def mk5 : List UT := sumsU [] [mk1, mk4]
def mk6 : List UT := mulsU (conU 10 1) [mk5, varU 10 4]
def mk7 : List UT := sumsU [] [mk6, varU 10 7]
def mk8 : List UT := subL (varU 10 3) mk7
def mk9 : List UT := sumsU [] [varU 10 7, varU 10 8, conU 10 1]
def mk10 : List UT := subL (varU 10 4) mk9
def mk11 : List UT := sumsU [] [mk1, conU 10 1, varU 10 9]
def mk12 : List UT := subL (varU 10 2) mk11
def mkS : SZ := ⟨10, [linkU 10 2 [conU 10 2, mk2, varU 10 2], linkU 10 2 [mk3, varU 10 1, varU 10 3], linkU 10 2 [varU 10 2, varU 10 0, varU 10 4], linkU 10 0 [mk8], linkU 10 0 [mk10], linkU 10 0 [mk12]]⟩
end Go.AL
namespace Go.Proofs.YtcaecieigoplbaaGreat
open Go.AL
set_option maxHeartbeats 2000000 in
set_option maxRecDepth 10000 in
theorem maskLinks_ok : PureFn Tryz.prog 16 [] (aS mkS) := by
  refine PureFn.of_body Tryz.func16 rfl Tryz.ntmps16 rfl rfl ?_
  refine AWP.seqS ?_
  repeat' (first |refine Fl.nilF ?_ |refine AWP.region ?_ |refine Fl.b rfl rfl rfl rfl ?_ |fail)
  refine ⟨AWP.seqS ?_⟩
  repeat' (first |refine AWP.region ?_ |fail)
  refine Fl.call rfl (kNew_ok 10) rfl rfl rfl (LeL.refl _) ?_
  repeat' (first |refine Fl.nilF ?_ |refine Fl.b rfl rfl rfl rfl ?_ |fail)
  refine ⟨AWP.seqS ?_⟩
  repeat' (first |refine Fl.v rfl rfl rfl ?_ |refine AWP.region ?_ |fail)
  refine Fl.bindM rfl rfl rfl rfl rfl ?_
  repeat' (first |refine Fl.v rfl rfl rfl ?_ |fail)
  refine Fl.bindM rfl rfl rfl rfl rfl ?_
  repeat' (first |refine Fl.v rfl rfl rfl ?_ |refine Fl.nil (fun _ => by kernel_rfl) ?_ |fail)
  refine ⟨?_⟩
  refine AWP.seq ?_
  refine AWP.region ?_
  repeat' (first | refine Fl.v rfl rfl rfl ?_ | refine Fl.b rfl rfl rfl rfl ?_ | fail)
  refine Fl.callM (f := 65) (us := [.int .i64 10]) rfl ?_ (kN_ok 10 2 (by omega) (by omega) (by omega)) ?_ ?_ ?_ ?_ ?_ ?_
  iterate 4 exact rfl
  exact AV.Le.vagg (LeL.refl _)
  exact LeL.refl _
  repeat' (first | refine Fl.v rfl rfl rfl ?_ | refine Fl.b rfl rfl rfl rfl ?_ | fail)
  refine Fl.callM (f := 64) (us := [.int .i64 10]) rfl ?_ (kV_ok 10 5 (by omega) (by omega)) ?_ ?_ ?_ ?_ ?_ ?_
  iterate 4 exact rfl
  exact AV.Le.vagg (LeL.refl _)
  exact LeL.refl _
  repeat' (first | refine Fl.v rfl rfl rfl ?_ | refine Fl.b rfl rfl rfl rfl ?_ | fail)
  refine Fl.lit rfl rfl rfl rfl rfl eP [mkP 10 (conU 10 2), mkP 10 (varU 10 5)] rfl rfl rfl rfl (by intro _ _; rfl) rfl ?_
  repeat' (first | refine Fl.v rfl rfl rfl ?_ | refine Fl.b rfl rfl rfl rfl ?_ | fail)
  refine Fl.call rfl (show PureFn Tryz.prog _ _ (aP (mkP 10 mk0)) from kMul_ok 10 (by omega) [conU 10 2, varU 10 5] (by simp) (by kernel_rfl)) rfl rfl rfl (LeL.refl _) ?_
  repeat' (first | refine Fl.v rfl rfl rfl ?_ | refine Fl.b rfl rfl rfl rfl ?_ | fail)
  refine Fl.callM (f := 65) (us := [.int .i64 10]) rfl ?_ (kN_ok 10 1 (by omega) (by omega) (by omega)) ?_ ?_ ?_ ?_ ?_ ?_
  iterate 4 exact rfl
  exact AV.Le.vagg (LeL.refl _)
  exact LeL.refl _
  repeat' (first | refine Fl.v rfl rfl rfl ?_ | refine Fl.b rfl rfl rfl rfl ?_ | fail)
  refine Fl.lit rfl rfl rfl rfl rfl eP [mkP 10 mk0, mkP 10 (conU 10 1)] rfl rfl rfl rfl (by intro _ _; rfl) rfl ?_
  repeat' (first | refine Fl.v rfl rfl rfl ?_ | refine Fl.b rfl rfl rfl rfl ?_ | fail)
  refine Fl.call rfl (show PureFn Tryz.prog _ _ (aP (mkP 10 mk1)) from kAdd_ok 10 (by omega) [mk0, conU 10 1] (by simp) (by kernel_rfl)) rfl rfl rfl (LeL.refl _) ?_
  repeat' (first | refine Fl.v rfl rfl rfl ?_ | refine Fl.b rfl rfl rfl rfl ?_ | fail)
  refine Fl.nil (fun _ => by kernel_rfl) ?_
  refine AWP.seq ?_
  refine AWP.region ?_
  repeat' (first | refine Fl.v rfl rfl rfl ?_ | refine Fl.b rfl rfl rfl rfl ?_ | fail)
  refine Fl.callM (f := 65) (us := [.int .i64 10]) rfl ?_ (kN_ok 10 2 (by omega) (by omega) (by omega)) ?_ ?_ ?_ ?_ ?_ ?_
  iterate 4 exact rfl
  exact AV.Le.vagg (LeL.refl _)
  exact LeL.refl _
  repeat' (first | refine Fl.v rfl rfl rfl ?_ | refine Fl.b rfl rfl rfl rfl ?_ | fail)
  refine Fl.callM (f := 64) (us := [.int .i64 10]) rfl ?_ (kV_ok 10 1 (by omega) (by omega)) ?_ ?_ ?_ ?_ ?_ ?_
  iterate 4 exact rfl
  exact AV.Le.vagg (LeL.refl _)
  exact LeL.refl _
  repeat' (first | refine Fl.v rfl rfl rfl ?_ | refine Fl.b rfl rfl rfl rfl ?_ | fail)
  refine Fl.callM (f := 65) (us := [.int .i64 10]) rfl ?_ (kN_ok 10 1 (by omega) (by omega) (by omega)) ?_ ?_ ?_ ?_ ?_ ?_
  iterate 4 exact rfl
  exact AV.Le.vagg (LeL.refl _)
  exact LeL.refl _
  repeat' (first | refine Fl.v rfl rfl rfl ?_ | refine Fl.b rfl rfl rfl rfl ?_ | fail)
  refine Fl.lit rfl rfl rfl rfl rfl eP [mkP 10 (varU 10 1), mkP 10 (conU 10 1)] rfl rfl rfl rfl (by intro _ _; rfl) rfl ?_
  repeat' (first | refine Fl.v rfl rfl rfl ?_ | refine Fl.b rfl rfl rfl rfl ?_ | fail)
  refine Fl.call rfl (show PureFn Tryz.prog _ _ (aP (mkP 10 mk2)) from kAdd_ok 10 (by omega) [varU 10 1, conU 10 1] (by simp) (by kernel_rfl)) rfl rfl rfl (LeL.refl _) ?_
  repeat' (first | refine Fl.v rfl rfl rfl ?_ | refine Fl.b rfl rfl rfl rfl ?_ | fail)
  refine Fl.callM (f := 64) (us := [.int .i64 10]) rfl ?_ (kV_ok 10 2 (by omega) (by omega)) ?_ ?_ ?_ ?_ ?_ ?_
  iterate 4 exact rfl
  exact AV.Le.vagg (LeL.refl _)
  exact LeL.refl _
  repeat' (first | refine Fl.v rfl rfl rfl ?_ | refine Fl.b rfl rfl rfl rfl ?_ | fail)
  refine Fl.lit rfl rfl rfl rfl rfl eP [mkP 10 (conU 10 2), mkP 10 mk2, mkP 10 (varU 10 2)] rfl rfl rfl rfl (by intro _ _; rfl) rfl ?_
  repeat' (first | refine Fl.v rfl rfl rfl ?_ | refine Fl.b rfl rfl rfl rfl ?_ | fail)
  refine Fl.call rfl (kLink_ok 10 2 [conU 10 2, mk2, varU 10 2] (by omega) (by simp) (okLk_ok (by kernel_rfl))) rfl rfl rfl (LeL.refl _) ?_
  repeat' (first | refine Fl.v rfl rfl rfl ?_ | refine Fl.b rfl rfl rfl rfl ?_ | fail)
  refine Fl.callM (f := 64) (us := [.int .i64 10]) rfl ?_ (kV_ok 10 2 (by omega) (by omega)) ?_ ?_ ?_ ?_ ?_ ?_
  iterate 4 exact rfl
  exact AV.Le.vagg (LeL.refl _)
  exact LeL.refl _
  repeat' (first | refine Fl.v rfl rfl rfl ?_ | refine Fl.b rfl rfl rfl rfl ?_ | fail)
  refine Fl.callM (f := 65) (us := [.int .i64 10]) rfl ?_ (kN_ok 10 1 (by omega) (by omega) (by omega)) ?_ ?_ ?_ ?_ ?_ ?_
  iterate 4 exact rfl
  exact AV.Le.vagg (LeL.refl _)
  exact LeL.refl _
  repeat' (first | refine Fl.v rfl rfl rfl ?_ | refine Fl.b rfl rfl rfl rfl ?_ | fail)
  refine Fl.lit rfl rfl rfl rfl rfl eP [mkP 10 (varU 10 2), mkP 10 (conU 10 1)] rfl rfl rfl rfl (by intro _ _; rfl) rfl ?_
  repeat' (first | refine Fl.v rfl rfl rfl ?_ | refine Fl.b rfl rfl rfl rfl ?_ | fail)
  refine Fl.call rfl (show PureFn Tryz.prog _ _ (aP (mkP 10 mk3)) from kAdd_ok 10 (by omega) [varU 10 2, conU 10 1] (by simp) (by kernel_rfl)) rfl rfl rfl (LeL.refl _) ?_
  repeat' (first | refine Fl.v rfl rfl rfl ?_ | refine Fl.b rfl rfl rfl rfl ?_ | fail)
  refine Fl.callM (f := 64) (us := [.int .i64 10]) rfl ?_ (kV_ok 10 1 (by omega) (by omega)) ?_ ?_ ?_ ?_ ?_ ?_
  iterate 4 exact rfl
  exact AV.Le.vagg (LeL.refl _)
  exact LeL.refl _
  repeat' (first | refine Fl.v rfl rfl rfl ?_ | refine Fl.b rfl rfl rfl rfl ?_ | fail)
  refine Fl.callM (f := 64) (us := [.int .i64 10]) rfl ?_ (kV_ok 10 3 (by omega) (by omega)) ?_ ?_ ?_ ?_ ?_ ?_
  iterate 4 exact rfl
  exact AV.Le.vagg (LeL.refl _)
  exact LeL.refl _
  repeat' (first | refine Fl.v rfl rfl rfl ?_ | refine Fl.b rfl rfl rfl rfl ?_ | fail)
  refine Fl.lit rfl rfl rfl rfl rfl eP [mkP 10 mk3, mkP 10 (varU 10 1), mkP 10 (varU 10 3)] rfl rfl rfl rfl (by intro _ _; rfl) rfl ?_
  repeat' (first | refine Fl.v rfl rfl rfl ?_ | refine Fl.b rfl rfl rfl rfl ?_ | fail)
  refine Fl.call rfl (kLink_ok 10 2 [mk3, varU 10 1, varU 10 3] (by omega) (by simp) (okLk_ok (by kernel_rfl))) rfl rfl rfl (LeL.refl _) ?_
  repeat' (first | refine Fl.v rfl rfl rfl ?_ | refine Fl.b rfl rfl rfl rfl ?_ | fail)
  refine Fl.callM (f := 64) (us := [.int .i64 10]) rfl ?_ (kV_ok 10 2 (by omega) (by omega)) ?_ ?_ ?_ ?_ ?_ ?_
  iterate 4 exact rfl
  exact AV.Le.vagg (LeL.refl _)
  exact LeL.refl _
  repeat' (first | refine Fl.v rfl rfl rfl ?_ | refine Fl.b rfl rfl rfl rfl ?_ | fail)
  refine Fl.callM (f := 64) (us := [.int .i64 10]) rfl ?_ (kV_ok 10 0 (by omega) (by omega)) ?_ ?_ ?_ ?_ ?_ ?_
  iterate 4 exact rfl
  exact AV.Le.vagg (LeL.refl _)
  exact LeL.refl _
  repeat' (first | refine Fl.v rfl rfl rfl ?_ | refine Fl.b rfl rfl rfl rfl ?_ | fail)
  refine Fl.callM (f := 64) (us := [.int .i64 10]) rfl ?_ (kV_ok 10 4 (by omega) (by omega)) ?_ ?_ ?_ ?_ ?_ ?_
  iterate 4 exact rfl
  exact AV.Le.vagg (LeL.refl _)
  exact LeL.refl _
  repeat' (first | refine Fl.v rfl rfl rfl ?_ | refine Fl.b rfl rfl rfl rfl ?_ | fail)
  refine Fl.lit rfl rfl rfl rfl rfl eP [mkP 10 (varU 10 2), mkP 10 (varU 10 0), mkP 10 (varU 10 4)] rfl rfl rfl rfl (by intro _ _; rfl) rfl ?_
  repeat' (first | refine Fl.v rfl rfl rfl ?_ | refine Fl.b rfl rfl rfl rfl ?_ | fail)
  refine Fl.call rfl (kLink_ok 10 2 [varU 10 2, varU 10 0, varU 10 4] (by omega) (by simp) (okLk_ok (by kernel_rfl))) rfl rfl rfl (LeL.refl _) ?_
  repeat' (first | refine Fl.v rfl rfl rfl ?_ | refine Fl.b rfl rfl rfl rfl ?_ | fail)
  refine Fl.callM (f := 64) (us := [.int .i64 10]) rfl ?_ (kV_ok 10 3 (by omega) (by omega)) ?_ ?_ ?_ ?_ ?_ ?_
  iterate 4 exact rfl
  exact AV.Le.vagg (LeL.refl _)
  exact LeL.refl _
  repeat' (first | refine Fl.v rfl rfl rfl ?_ | refine Fl.b rfl rfl rfl rfl ?_ | fail)
  refine Fl.callM (f := 64) (us := [.int .i64 10]) rfl ?_ (kV_ok 10 2 (by omega) (by omega)) ?_ ?_ ?_ ?_ ?_ ?_
  iterate 4 exact rfl
  exact AV.Le.vagg (LeL.refl _)
  exact LeL.refl _
  repeat' (first | refine Fl.v rfl rfl rfl ?_ | refine Fl.b rfl rfl rfl rfl ?_ | fail)
  refine Fl.callM (f := 64) (us := [.int .i64 10]) rfl ?_ (kV_ok 10 6 (by omega) (by omega)) ?_ ?_ ?_ ?_ ?_ ?_
  iterate 4 exact rfl
  exact AV.Le.vagg (LeL.refl _)
  exact LeL.refl _
  repeat' (first | refine Fl.v rfl rfl rfl ?_ | refine Fl.b rfl rfl rfl rfl ?_ | fail)
  refine Fl.lit rfl rfl rfl rfl rfl eP [mkP 10 (varU 10 2), mkP 10 (varU 10 6)] rfl rfl rfl rfl (by intro _ _; rfl) rfl ?_
  repeat' (first | refine Fl.v rfl rfl rfl ?_ | refine Fl.b rfl rfl rfl rfl ?_ | fail)
  refine Fl.call rfl (show PureFn Tryz.prog _ _ (aP (mkP 10 mk4)) from kMul_ok 10 (by omega) [varU 10 2, varU 10 6] (by simp) (by kernel_rfl)) rfl rfl rfl (LeL.refl _) ?_
  repeat' (first | refine Fl.v rfl rfl rfl ?_ | refine Fl.b rfl rfl rfl rfl ?_ | fail)
  refine Fl.lit rfl rfl rfl rfl rfl eP [mkP 10 mk1, mkP 10 mk4] rfl rfl rfl rfl (by intro _ _; rfl) rfl ?_
  repeat' (first | refine Fl.v rfl rfl rfl ?_ | refine Fl.b rfl rfl rfl rfl ?_ | fail)
  refine Fl.call rfl (show PureFn Tryz.prog _ _ (aP (mkP 10 mk5)) from kAdd_ok 10 (by omega) [mk1, mk4] (by simp) (by kernel_rfl)) rfl rfl rfl (LeL.refl _) ?_
  repeat' (first | refine Fl.v rfl rfl rfl ?_ | refine Fl.b rfl rfl rfl rfl ?_ | fail)
  refine Fl.callM (f := 64) (us := [.int .i64 10]) rfl ?_ (kV_ok 10 4 (by omega) (by omega)) ?_ ?_ ?_ ?_ ?_ ?_
  iterate 4 exact rfl
  exact AV.Le.vagg (LeL.refl _)
  exact LeL.refl _
  repeat' (first | refine Fl.v rfl rfl rfl ?_ | refine Fl.b rfl rfl rfl rfl ?_ | fail)
  refine Fl.lit rfl rfl rfl rfl rfl eP [mkP 10 mk5, mkP 10 (varU 10 4)] rfl rfl rfl rfl (by intro _ _; rfl) rfl ?_
  repeat' (first | refine Fl.v rfl rfl rfl ?_ | refine Fl.b rfl rfl rfl rfl ?_ | fail)
  refine Fl.call rfl (show PureFn Tryz.prog _ _ (aP (mkP 10 mk6)) from kMul_ok 10 (by omega) [mk5, varU 10 4] (by simp) (by kernel_rfl)) rfl rfl rfl (LeL.refl _) ?_
  repeat' (first | refine Fl.v rfl rfl rfl ?_ | refine Fl.b rfl rfl rfl rfl ?_ | fail)
  refine Fl.callM (f := 64) (us := [.int .i64 10]) rfl ?_ (kV_ok 10 7 (by omega) (by omega)) ?_ ?_ ?_ ?_ ?_ ?_
  iterate 4 exact rfl
  exact AV.Le.vagg (LeL.refl _)
  exact LeL.refl _
  repeat' (first | refine Fl.v rfl rfl rfl ?_ | refine Fl.b rfl rfl rfl rfl ?_ | fail)
  refine Fl.lit rfl rfl rfl rfl rfl eP [mkP 10 mk6, mkP 10 (varU 10 7)] rfl rfl rfl rfl (by intro _ _; rfl) rfl ?_
  repeat' (first | refine Fl.v rfl rfl rfl ?_ | refine Fl.b rfl rfl rfl rfl ?_ | fail)
  refine Fl.call rfl (show PureFn Tryz.prog _ _ (aP (mkP 10 mk7)) from kAdd_ok 10 (by omega) [mk6, varU 10 7] (by simp) (by kernel_rfl)) rfl rfl rfl (LeL.refl _) ?_
  repeat' (first | refine Fl.v rfl rfl rfl ?_ | refine Fl.b rfl rfl rfl rfl ?_ | fail)
  refine Fl.call rfl (kEq_ok 10 (by omega) (varU 10 3) mk7 mk8 (by kernel_rfl) (by kernel_rfl) (by kernel_rfl) (okLk_ok (V := 10) (ls := [mk8]) (by kernel_rfl) _ (by simp))) rfl rfl rfl (LeL.refl _) ?_
  repeat' (first | refine Fl.v rfl rfl rfl ?_ | refine Fl.b rfl rfl rfl rfl ?_ | fail)
  refine Fl.callM (f := 64) (us := [.int .i64 10]) rfl ?_ (kV_ok 10 4 (by omega) (by omega)) ?_ ?_ ?_ ?_ ?_ ?_
  iterate 4 exact rfl
  exact AV.Le.vagg (LeL.refl _)
  exact LeL.refl _
  repeat' (first | refine Fl.v rfl rfl rfl ?_ | refine Fl.b rfl rfl rfl rfl ?_ | fail)
  refine Fl.callM (f := 64) (us := [.int .i64 10]) rfl ?_ (kV_ok 10 7 (by omega) (by omega)) ?_ ?_ ?_ ?_ ?_ ?_
  iterate 4 exact rfl
  exact AV.Le.vagg (LeL.refl _)
  exact LeL.refl _
  repeat' (first | refine Fl.v rfl rfl rfl ?_ | refine Fl.b rfl rfl rfl rfl ?_ | fail)
  refine Fl.callM (f := 64) (us := [.int .i64 10]) rfl ?_ (kV_ok 10 8 (by omega) (by omega)) ?_ ?_ ?_ ?_ ?_ ?_
  iterate 4 exact rfl
  exact AV.Le.vagg (LeL.refl _)
  exact LeL.refl _
  repeat' (first | refine Fl.v rfl rfl rfl ?_ | refine Fl.b rfl rfl rfl rfl ?_ | fail)
  refine Fl.callM (f := 65) (us := [.int .i64 10]) rfl ?_ (kN_ok 10 1 (by omega) (by omega) (by omega)) ?_ ?_ ?_ ?_ ?_ ?_
  iterate 4 exact rfl
  exact AV.Le.vagg (LeL.refl _)
  exact LeL.refl _
  repeat' (first | refine Fl.v rfl rfl rfl ?_ | refine Fl.b rfl rfl rfl rfl ?_ | fail)
  refine Fl.lit rfl rfl rfl rfl rfl eP [mkP 10 (varU 10 7), mkP 10 (varU 10 8), mkP 10 (conU 10 1)] rfl rfl rfl rfl (by intro _ _; rfl) rfl ?_
  repeat' (first | refine Fl.v rfl rfl rfl ?_ | refine Fl.b rfl rfl rfl rfl ?_ | fail)
  refine Fl.call rfl (show PureFn Tryz.prog _ _ (aP (mkP 10 mk9)) from kAdd_ok 10 (by omega) [varU 10 7, varU 10 8, conU 10 1] (by simp) (by kernel_rfl)) rfl rfl rfl (LeL.refl _) ?_
  repeat' (first | refine Fl.v rfl rfl rfl ?_ | refine Fl.b rfl rfl rfl rfl ?_ | fail)
  refine Fl.call rfl (kEq_ok 10 (by omega) (varU 10 4) mk9 mk10 (by kernel_rfl) (by kernel_rfl) (by kernel_rfl) (okLk_ok (V := 10) (ls := [mk10]) (by kernel_rfl) _ (by simp))) rfl rfl rfl (LeL.refl _) ?_
  repeat' (first | refine Fl.v rfl rfl rfl ?_ | refine Fl.b rfl rfl rfl rfl ?_ | fail)
  refine Fl.callM (f := 64) (us := [.int .i64 10]) rfl ?_ (kV_ok 10 2 (by omega) (by omega)) ?_ ?_ ?_ ?_ ?_ ?_
  iterate 4 exact rfl
  exact AV.Le.vagg (LeL.refl _)
  exact LeL.refl _
  repeat' (first | refine Fl.v rfl rfl rfl ?_ | refine Fl.b rfl rfl rfl rfl ?_ | fail)
  refine Fl.callM (f := 65) (us := [.int .i64 10]) rfl ?_ (kN_ok 10 1 (by omega) (by omega) (by omega)) ?_ ?_ ?_ ?_ ?_ ?_
  iterate 4 exact rfl
  exact AV.Le.vagg (LeL.refl _)
  exact LeL.refl _
  repeat' (first | refine Fl.v rfl rfl rfl ?_ | refine Fl.b rfl rfl rfl rfl ?_ | fail)
  refine Fl.callM (f := 64) (us := [.int .i64 10]) rfl ?_ (kV_ok 10 9 (by omega) (by omega)) ?_ ?_ ?_ ?_ ?_ ?_
  iterate 4 exact rfl
  exact AV.Le.vagg (LeL.refl _)
  exact LeL.refl _
  repeat' (first | refine Fl.v rfl rfl rfl ?_ | refine Fl.b rfl rfl rfl rfl ?_ | fail)
  refine Fl.lit rfl rfl rfl rfl rfl eP [mkP 10 mk1, mkP 10 (conU 10 1), mkP 10 (varU 10 9)] rfl rfl rfl rfl (by intro _ _; rfl) rfl ?_
  repeat' (first | refine Fl.v rfl rfl rfl ?_ | refine Fl.b rfl rfl rfl rfl ?_ | fail)
  refine Fl.call rfl (show PureFn Tryz.prog _ _ (aP (mkP 10 mk11)) from kAdd_ok 10 (by omega) [mk1, conU 10 1, varU 10 9] (by simp) (by kernel_rfl)) rfl rfl rfl (LeL.refl _) ?_
  repeat' (first | refine Fl.v rfl rfl rfl ?_ | refine Fl.b rfl rfl rfl rfl ?_ | fail)
  refine Fl.call rfl (kEq_ok 10 (by omega) (varU 10 2) mk11 mk12 (by kernel_rfl) (by kernel_rfl) (by kernel_rfl) (okLk_ok (V := 10) (ls := [mk12]) (by kernel_rfl) _ (by simp))) rfl rfl rfl (LeL.refl _) ?_
  repeat' (first | refine Fl.v rfl rfl rfl ?_ | refine Fl.b rfl rfl rfl rfl ?_ | fail)
  refine Fl.lit rfl rfl rfl rfl rfl eL [linkU 10 2 [conU 10 2, mk2, varU 10 2], linkU 10 2 [mk3, varU 10 1, varU 10 3], linkU 10 2 [varU 10 2, varU 10 0, varU 10 4], linkU 10 0 [mk8], linkU 10 0 [mk10], linkU 10 0 [mk12]] rfl rfl rfl rfl (by intro _ _; rfl) rfl ?_
  repeat' (first | refine Fl.v rfl rfl rfl ?_ | refine Fl.b rfl rfl rfl rfl ?_ | fail)
  repeat' (first |refine Fl.nil (fun _ => by kernel_rfl) ?_ |refine AWP.ret ?_ |fail)
  exact RetOk.of rfl (AV.Le.refl _)
end Go.Proofs.YtcaecieigoplbaaGreat
/- The values of built links. -/
namespace Go.AL
theorem pick_prod (P : Nat → Bool) (Y E : List Int) : ∀ (n k : Nat), (∀ i, k ≤ i → i < k + n → P i = false → E.getD i 0 = 0) →
    prodE (((List.range' k n).filter P).map fun i => Y.getD i 0) (((List.range' k n).filter P).map fun i => E.getD i 0) = prodE ((List.range' k n).map fun i => Y.getD i 0) ((List.range' k n).map fun i => E.getD i 0)
  | 0, k, _ => rfl
  | n + 1, k, h => by
    have ih := pick_prod P Y E n (k + 1) fun i h1 h2 h3 => h i (by omega) (by omega) h3
    rw [List.range'_succ, List.filter_cons]
    by_cases hp : P k = true
    · rw [if_pos hp]
      simp only [List.map_cons, prodE, ih]
    · rw [if_neg hp, ih]
      have h0 := h k (Nat.le_refl _) (by omega) (by simpa using hp)
      simp only [List.map_cons, prodE, h0]
      simp
theorem map_range_getD {V : Nat} {X : List Int} (h : X.length = V) : ((List.range V).map fun i => X.getD i 0) = X := by
  subst h
  refine List.ext_getElem (by simp) fun i h1 h2 => ?_
  simp [List.getD_eq_getElem?_getD, List.getElem?_eq_getElem h2]
/-- the sum of the absolute values of the terms -/
def auv (X : List Int) (p : List UT) : Int := sumL (p.map fun u => ((u.1 * prodE X u.2).natAbs : Int))
theorem pick_term {V : Nat} {X : List Int} (hX : X.length = V) {ls : List (List UT)} {p : List UT} (hp : p ∈ ls) {u : UT} (hu : u ∈ p) (hl : u.2.length = V) (he : EOk u.2) :
    prodE (atOf X ((occL V ls).map fun (i : Nat) => (i : Int))) (pickE (occL V ls) u.2) = prodE X u.2 := by
  have e1 : atOf X ((occL V ls).map fun (i : Nat) => (i : Int)) = (occL V ls).map fun i => X.getD i 0 := by
    unfold atOf
    rw [List.map_map]
    rfl
  have h := pick_prod (occP ls) X u.2 V 0 fun i _ h2 h3 => by
    have hb : i < u.2.length := by omega
    have hn : ¬ 0 < u.2.getD i 0 := fun hc => by
      have : occP ls i = true := List.any_eq_true.2 ⟨p, hp, List.any_eq_true.2 ⟨u, hu, by simpa using hc⟩⟩
      rw [this] at h3; cases h3
    have hge : 0 ≤ u.2.getD i 0 := by
      rw [List.getD_eq_getElem?_getD, List.getElem?_eq_getElem hb]
      exact (he _ (List.getElem_mem hb)).1
    omega
  rw [← List.range_eq_range'] at h
  rw [e1]
  unfold pickE occL
  rw [show (List.filter (fun i => ls.any fun p => p.any fun u => decide (0 < u.2.getD i 0)) (List.range V)) = (List.range V).filter (occP ls) from rfl, h, map_range_getD hX, map_range_getD hl]
theorem tv_tz (X : List Int) (u : UT) : tv X (tz u) = u.1 * prodE X u.2 := by
  show zval (zOf u.1) * prodE X u.2 = _
  rw [zval_zOf]
def nnU (V : Nat) (p : List UT) : Prop := ∀ u ∈ p, u.2.length = V ∧ EOk u.2
theorem pick_val {V n : Nat} {X : List Int} (hX : X.length = V) {ls : List (List UT)} {p : List UT} (hp : p ∈ ls) (hl : nnU V p) :
    pv (atOf X ((occL V ls).map fun (i : Nat) => (i : Int))) (mkP n (pickU (occL V ls) p)) = uv X p := by
  rw [pv_sum]
  unfold mkP pickU uv
  simp only [List.map_map]
  congr 1
  refine List.map_congr_left fun u hu => ?_
  show tv _ (tz (u.1, pickE (occL V ls) u.2)) = _
  rw [tv_tz, pick_term hX hp hu (hl u hu).1 (hl u hu).2]
theorem pick_abs {V n : Nat} {X : List Int} (hX : X.length = V) {ls : List (List UT)} {p : List UT} (hp : p ∈ ls) (hl : nnU V p) :
    AS (atOf X ((occL V ls).map fun (i : Nat) => (i : Int))) (mkP n (pickU (occL V ls) p)).terms = auv X p := by
  unfold mkP pickU AS auv
  simp only [List.map_map]
  congr 1
  refine List.map_congr_left fun u hu => ?_
  show ((tv _ (tz (u.1, pickE (occL V ls) u.2))).natAbs : Int) = _
  rw [tv_tz, pick_term hX hp hu (hl u hu).1 (hl u hu).2]
theorem lvals_linkU {V : Nat} {X : List Int} (hX : X.length = V) {kind : Int} {ls : List (List UT)} (h : ∀ p ∈ ls, nnU V p) : lvals X (linkU V kind ls) = ls.map (uv X) := by
  unfold lvals linkU
  simp only [List.map_map]
  exact List.map_congr_left fun p hp => pick_val hX hp (h p hp)
theorem plop_abs (v : Int) : 0 ≤ plI v ∧ plI v ≤ v.natAbs ∧ opI v ≤ 0 ∧ -(v.natAbs : Int) ≤ opI v := by
  unfold plI opI
  split <;> omega
theorem PS_ASm (X : List Int) : ∀ l : List TZ, 0 ≤ PS X l ∧ PS X l ≤ AS X l ∧ OS X l ≤ 0 ∧ -AS X l ≤ OS X l
  | [] => by simp [PS, OS, AS, sumL]
  | t :: l => by
    have h1 := PS_ASm X l
    have h2 := plop_abs (tv X t)
    simp only [PS, AS, OS, List.map_cons, sumL] at h1 ⊢
    omega
theorem EvOk.ofA {X : List Int} {p : PZ} (h : Fit (AS X p.terms)) : EvOk X p := by
  have h1 := PS_ASm X p.terms
  exact ⟨h.le (by omega), h.le (by omega)⟩
theorem evL_linkU {V : Nat} {X : List Int} (hX : X.length = V) {kind : Int} {ls : List (List UT)} (h : ∀ p ∈ ls, nnU V p) (hf : ∀ p ∈ ls, Fit (auv X p)) : EvL X (linkU V kind ls) := by
  intro q hq
  obtain ⟨p, hp, rfl⟩ := List.mem_map.1 hq
  refine EvOk.ofA ?_
  show Fit (AS (atOf X ((occL V ls).map fun (i : Nat) => (i : Int))) (mkP (occL V ls).length (pickU (occL V ls) p)).terms)
  rw [pick_abs hX hp (h p hp)]
  exact hf p hp
/-- A link that is built is valid, by inspection. -/
def okLU (V : Nat) (kind : Int) (ls : List (List UT)) : Bool :=
  decide (needI kind ≠ 0) && decide ((ls.length : Int) = needI kind) && ls.all (fun p => chkU (occL V ls).length (pickU (occL V ls) p) (pickU (occL V ls) p) && p.all (okU V))
theorem incB_range (P : Nat → Bool) : ∀ (n k : Nat) (last top : Int), last < k → ((k + n : Nat) : Int) ≤ top → incB last top (((List.range' k n).filter P).map fun (i : Nat) => (i : Int))
  | 0, _, _, _, _, _ => by simp [incB]
  | n + 1, k, last, top, h1, h2 => by
    rw [List.range'_succ, List.filter_cons]
    by_cases hp : P k = true
    · rw [if_pos hp]
      simp only [List.map_cons, incB]
      exact ⟨h1, by omega, incB_range P n (k + 1) k top (by omega) (by omega)⟩
    · rw [if_neg hp]
      exact incB_range P n (k + 1) last top (by omega) (by omega)
theorem okLU_ok {V : Nat} (hV : V ≤ 32) {kind : Int} {ls : List (List UT)} (h : okLU V kind ls = true) : OkL V (linkU V kind ls) ∧ WL (linkU V kind ls) ∧ ∀ p ∈ ls, nnU V p := by
  simp only [okLU, Bool.and_eq_true, decide_eq_true_eq, List.all_eq_true] at h
  obtain ⟨⟨h1, h2⟩, h3⟩ := h
  have hn : (occL V ls).length ≤ V := by
    unfold occL
    exact Nat.le_trans (List.length_filter_le _ _) (by simp)
  refine ⟨⟨h1, by simp only [linkU, List.length_map]; exact h2, by simp only [linkU, List.length_map]; omega, ?_, fun q hq => ?_⟩, fun q hq => ?_, fun p hp u hu => okU_ok ((h3 p hp).2 u hu)⟩
  · have := incB_range (occP ls) V 0 (-1) V (by omega) (by omega)
    rw [← List.range_eq_range'] at this
    exact this
  · obtain ⟨p, hp, rfl⟩ := List.mem_map.1 hq
    obtain ⟨a, b, c⟩ := mk_ok (V := (occL V ls).length) (by omega) (h3 p hp).1
    exact ⟨by simp [linkU, mkP], a⟩
  · obtain ⟨p, hp, rfl⟩ := List.mem_map.1 hq
    exact (mk_ok (V := (occL V ls).length) (by omega) (h3 p hp).1).2.2
end Go.AL
/- The values of built polynomials; bounds. -/
namespace Go.AL
theorem prodE_zeros : ∀ (X : List Int) (n : Nat), prodE X (List.replicate n 0) = 1
  | [], 0 => rfl
  | [], _ + 1 => rfl
  | _ :: _, 0 => rfl
  | x :: X, n + 1 => by rw [List.replicate_succ, prodE, prodE_zeros X n]; simp
theorem prodE_unit : ∀ (X : List Int) (i : Nat), i < X.length → prodE X (unU X.length i) = X.getD i 0
  | [], i, h => by simp at h
  | x :: X, 0, _ => by
    unfold unU
    rw [List.length_cons, List.replicate_succ, List.set_cons_zero, prodE, prodE_zeros]
    simp [Int.pow_succ]
  | x :: X, i + 1, h => by
    have ih := prodE_unit X i (by simpa using h)
    unfold unU at ih ⊢
    rw [List.length_cons, List.replicate_succ, List.set_cons_succ, prodE, ih]
    simp
theorem uv_con (X : List Int) (V : Nat) (c : Int) : uv X (conU V c) = c := by
  unfold conU uv
  split
  · rename_i h; rw [h]; rfl
  · simp [sumL, prodE_zeros]
theorem uv_var {X : List Int} {V i : Nat} (hX : X.length = V) (hi : i < V) : uv X (varU V i) = X.getD i 0 := by
  subst hX
  unfold varU uv
  simp only [List.map_cons, List.map_nil, sumL, prodE_unit X i hi]
  omega
theorem pv_mkP (X : List Int) (V : Nat) (p : List UT) : pv X (mkP V p) = uv X p := by
  rw [pv_sum]
  unfold mkP uv
  simp only [List.map_map]
  congr 1
  exact List.map_congr_left fun u _ => tv_tz X u
theorem chkU_UOk {V : Nat} {us l : List UT} (h : chkU V us l = true) : UOk V us := by
  simp only [chkU, Bool.and_eq_true, List.all_eq_true] at h
  exact fun u hu => okU_ok (h.1.1.1.1.1.1.1 u hu)
theorem uv_chk {V : Nat} (hV : V ≤ 32) {us l : List UT} (h : chkU V us l = true) (X : List Int) : uv X l = uv X us := by
  have := (chkU_ok hV h).val hV (chkU_UOk h) X
  rwa [pv_mkP] at this
theorem uv_scale (X : List Int) (b : Int) (q : List UT) : uv X (q.map fun u => (u.1 * b, u.2)) = uv X q * b := by
  unfold uv
  induction q with
  | nil => simp [sumL]
  | cons u q ih =>
    simp only [List.map_cons, sumL] at ih ⊢
    rw [ih]; grind
theorem uv_addUs (X : List Int) (b : Int) (p q : List UT) : uv X (addUs b p q) = uv X p + uv X q * b := by
  unfold addUs
  rw [uv_append, uv_scale]
theorem uv_mulUs {V : Nat} (X : List Int) {p q : List UT} (hp : nnU V p) (hq : nnU V q) : uv X (mulUs p q) = uv X p * uv X q := by
  unfold mulUs
  induction p with
  | nil => simp [uv, sumL]
  | cons t p ih =>
    rw [List.flatMap_cons, uv_append, ih fun u hu => hp u (by simp [hu])]
    have ht := hp t (by simp)
    have h1 : uv X (q.map fun u => (t.1 * u.1, addE t.2 u.2)) = t.1 * prodE X t.2 * uv X q := by
      clear ih
      unfold uv
      induction q with
      | nil => simp [sumL]
      | cons u q ih2 =>
        have hu := hq u (by simp)
        simp only [List.map_cons, sumL]
        rw [ih2 fun v hv => hq v (by simp [hv]), prodE_add ht.2 hu.2 (by rw [ht.1, hu.1])]
        grind
    rw [h1]
    show _ = (t.1 * prodE X t.2 + uv X p) * uv X q
    grind
theorem chk_nn {V : Nat} {p : List UT} (h : chkU V p p = true) : nnU V p := chkU_UOk h
theorem uv_sums {V : Nat} (hV : V ≤ 32) (X : List Int) : ∀ (ls : List (List UT)) (acc : List UT), okSums V acc ls = true → uv X (sumsU acc ls) = uv X acc + sumL (ls.map (uv X))
  | [], acc, _ => by simp [sumsU, sumL]
  | p :: ls, acc, h => by
    obtain ⟨c1, c2, c3, c4⟩ := okSums_cons h
    show uv X (sumsU (addL acc p) ls) = _
    rw [uv_sums hV X ls _ c4, uv_chk hV c3, uv_addUs]
    simp only [List.map_cons, sumL]
    omega
def prodL : List Int → Int
  | [] => 1
  | x :: l => x * prodL l
theorem uv_muls {V : Nat} (hV : V ≤ 32) (X : List Int) : ∀ (ls : List (List UT)) (acc : List UT), okMuls V acc ls = true → uv X (mulsU acc ls) = uv X acc * prodL (ls.map (uv X))
  | [], acc, _ => by simp [mulsU, prodL]
  | p :: ls, acc, h => by
    obtain ⟨c1, c2, c3, c4, c5⟩ := okMuls_cons h
    show uv X (mulsU (mulL2 acc p) ls) = _
    rw [uv_muls hV X ls _ c5, uv_chk hV c4, uv_mulUs X (chk_nn c1) (chk_nn c2)]
    simp only [List.map_cons, prodL]
    rw [Int.mul_assoc]
theorem uv_sub {V : Nat} (hV : V ≤ 32) (X : List Int) {p q : List UT} (h : chkU V (addUs (-1) p q) (subL p q) = true) : uv X (subL p q) = uv X p - uv X q := by
  rw [uv_chk hV h, uv_addUs]; omega
/-- bounds -/
theorem prodE_bound {m : Nat} : ∀ {X E : List Int}, (∀ x ∈ X, x.natAbs ≤ 2 ^ m) → EOk E → (prodE X E).natAbs ≤ (2 ^ m) ^ (sumL E).toNat
  | [], E, _, _ => by
    show 1 ≤ (2 ^ m) ^ (sumL E).toNat
    exact Nat.pow_pos (Nat.two_pow_pos m)
  | _ :: _, [], _, _ => by simp [prodE, sumL]
  | x :: X, e :: E, hx, he => by
    have ih := prodE_bound (X := X) (E := E) (fun y hy => hx y (by simp [hy])) fun y hy => he y (by simp [hy])
    have h0 := (he e (by simp)).1
    have hs : 0 ≤ sumL E := by
      have := sumL_bound (l := E) fun y hy => he y (by simp [hy])
      omega
    simp only [prodE, sumL]
    rw [Int.natAbs_mul, show (e + sumL E).toNat = e.toNat + (sumL E).toNat by omega, Nat.pow_add, Int.natAbs_pow]
    exact Nat.mul_le_mul (Nat.pow_le_pow_left (hx x (by simp)) _) ih
theorem auv_bound {m d : Nat} {X : List Int} (hX : ∀ x ∈ X, x.natAbs ≤ 2 ^ m) : ∀ {p : List UT}, (∀ u ∈ p, EOk u.2) → (∀ u ∈ p, sumL u.2 ≤ d) → 0 ≤ auv X p ∧ auv X p ≤ ((absU p * (2 ^ m) ^ d : Nat) : Int)
  | [], _, _ => by
    refine ⟨by simp [auv, sumL], ?_⟩
    show (0 : Int) ≤ _
    omega
  | u :: p, h1, h2 => by
    have ih := auv_bound (p := p) hX (fun v hv => h1 v (by simp [hv])) fun v hv => h2 v (by simp [hv])
    have hb := prodE_bound hX (h1 u (by simp))
    have hd := h2 u (by simp)
    have hle : (2 ^ m) ^ (sumL u.2).toNat ≤ (2 ^ m) ^ d := Nat.pow_le_pow_right (Nat.two_pow_pos m) (by omega)
    have hu : (u.1 * prodE X u.2).natAbs ≤ u.1.natAbs * (2 ^ m) ^ d := by
      rw [Int.natAbs_mul]
      exact Nat.mul_le_mul (Nat.le_refl _) (Nat.le_trans hb hle)
    unfold auv at ih ⊢
    simp only [List.map_cons, sumL, absU]
    rw [Nat.add_mul]
    generalize u.1.natAbs * (2 ^ m) ^ d = A at *
    generalize absU p * (2 ^ m) ^ d = B at *
    omega
def okB (d c : Nat) (p : List UT) : Bool := p.all (fun u => decide (sumL u.2 ≤ d)) && Nat.ble (absU p) (2 ^ c)
theorem auv_fit {V m d c : Nat} {X : List Int} (hX : ∀ x ∈ X, x.natAbs ≤ 2 ^ m) {p : List UT} (hn : nnU V p) (h : okB d c p = true) (hm : c + m * d < 131072) : Fit (auv X p) := by
  simp only [okB, Bool.and_eq_true, List.all_eq_true, decide_eq_true_eq] at h
  have h2 : absU p ≤ 2 ^ c := Nat.le_of_ble_eq_true h.2
  obtain ⟨b0, b1⟩ := auv_bound (d := d) hX (fun u hu => (hn u hu).2) h.1
  have h3 : absU p * (2 ^ m) ^ d ≤ 2 ^ c * (2 ^ m) ^ d := Nat.mul_le_mul h2 (Nat.le_refl _)
  rw [← Nat.pow_mul, ← Nat.pow_add] at h3
  obtain ⟨N, hN⟩ : ∃ N : Nat, N = 131072 := ⟨_, rfl⟩
  have h4 : 2 ^ (c + m * d) < 2 ^ N := Nat.pow_lt_pow_right (by omega) (by omega)
  refine Fit.mk ?_
  rw [BB_pow, show 32 * 4096 = N by omega]
  rw [show (((auv X p).natAbs : Nat) : Int) = auv X p by omega]
  have h5 : ((absU p * (2 ^ m) ^ d : Nat) : Int) < ((2 ^ N : Nat) : Int) := by
    rw [← Nat.pow_mul]
    exact Int.ofNat_lt.2 (Nat.lt_of_le_of_lt h3 h4)
  rw [Int.natCast_pow] at h5
  exact Int.lt_of_le_of_lt b1 h5
end Go.AL
/- mask.Witness. -/
namespace Go.AL
section
variable {P : Program} {tab : Tab} {n : Nat} {s : St}
variable {ops : Array Oper} {draw : Dr} {o : Oper} {l : List Oper} {acc : List Eff} {K : Exit → St → Prop}
/-- a load of a known element of a row -/
theorem Fl.rldK [f : Facts P tab] {t : TypeId} {x : Operand} (hop : o.op = .load t x) {b : Id} {off : Nat} (hx : opd s x = .rptr b off) {α : Type} {sz : Nat} {enc : α → List AV} {xs : List α} {bt : TypeId} (hb : s.bx b = some (.row sz enc xs bt)) {i : TI} (hti : tab t = some i) (hg : gOk ops s o = true) (hd : dOk n o.dst = true)
    {j : Nat} (hj : off = j * sz) {v : α → AV} (hv : ∀ x0, ofCells (aggD i.desc) i.size (enc x0) = some (v x0)) (hvc : ∀ x0, (v x0).closed = true) {x0 : α} (he : xs[j]? = some x0)
    (r : Fl P n ops draw l ((Eff.mk (v x0) [] [] [] [b]).app o.dst s) (Eff.mk (v x0) [] [] [] [b] :: acc) K) : Fl P n ops draw (o :: l) s acc K :=
  Fl.opv hg (OpJ.rload f.tabOk (dOk_lt hd) hop hx hb hti hj he (hv _) (hvc _)) r
/-- the address of a known place of a row -/
theorem Fl.relK [f : Facts P tab] {t : TypeId} {x y : Operand} (hop : o.op = .indexAddr t x y) {b : Id} (hx : opd s x = .row b) {k : IntKind} {m : Int} (hy : opd s y = .v (.int k m)) {e : TypeId} {i : TI} {sz' by' : Nat} {z : List Value} (hts : tab t = some ⟨.slice e, sz', by', z⟩) (hti : tab e = some i) {α : Type} {sz : Nat} {enc : α → List AV} {xs : List α} {bt : TypeId} (hb : s.bx b = some (.row sz enc xs bt)) (hg : gOk ops s o = true) (hd : dOk n o.dst = true)
    (hm : (decide (0 ≤ m) && Nat.blt m.toNat xs.length) = true)
    (r : Fl P n ops draw l ((Eff.mk (.rptr b (m.toNat * i.size)) [] [] [] [b]).app o.dst s) (Eff.mk (.rptr b (m.toNat * i.size)) [] [] [] [b] :: acc) K) : Fl P n ops draw (o :: l) s acc K := by
  simp only [Bool.and_eq_true, decide_eq_true_eq] at hm
  have := ltOf hm.2
  exact Fl.rel hop hx hy hts hti hb hg hd hm.1 (by omega) r
/-- a store at a known place of a row -/
theorem Fl.rstK [f : Facts P tab] {t : TypeId} {x y : Operand} (hop : o.op = .store t x y) {b : Id} {off : Nat} (hx : opd s x = .rptr b off) (hg : gOk ops s o = true) (hdst : o.dst = none) {α : Type} {sz : Nat} {enc : α → List AV} {xs : List α} {bt : TypeId} (hb : s.bx b = some (.row sz enc xs bt)) {i : TI} (hti : tab t = some i)
    {vs : List AV} (hv : cellsL (opd s y) = some vs) (hvc : closedL vs = true) (hsz : Nat.beq vs.length i.size = true) (hsz2 : Nat.beq i.size sz = true) {j : Nat} (hj : off = j * sz) {x1 : α} (hle : LeL vs (enc x1)) (hel : Nat.beq (enc x1).length sz = true) (hjl : Nat.blt j xs.length = true)
    (r : Fl P n ops draw l ((Eff.mk .any [(b, .row sz enc (xs.set j x1) bt)] [] [] [b]).app o.dst s) (Eff.mk .any [(b, .row sz enc (xs.set j x1) bt)] [] [] [b] :: acc) K) (hJ : presOk draw.J (Eff.mk .any [(b, .row sz enc (xs.set j x1) bt)] [] [] [b]) := by repeat' (first | exact True.intro | exact rfl | refine ⟨?_, ?_⟩ | fail)) : Fl P n ops draw (o :: l) s acc K :=
  Fl.rst hop hx hg hdst hb hti hv hvc hsz hsz2 hj hle hel (ltOf hjl) r hJ
end
/-- what Witness returns -/
structure MW where
  u : Int
  p : Int
  q : Int
  z : Int
  y : Int
  r : Int
  s : Int
  t : Int
def mw (a b : Int) : MW :=
  let u := (2 : Int) ^ (b + 1).toNat
  let p := (u + 1) ^ b.toNat
  let q := u ^ a.toNat
  ⟨u, p, q, p / q % u / 2, p / q / u, p % q, q - p % q - 1, u - p / q % u - 1⟩
def MW.X (w : MW) (a b : Int) : List Int := [a, b, w.u, w.p, w.q, w.z, w.y, w.r, w.s, w.t]
theorem mw_pos {a b : Int} (ha : 0 ≤ a) (hb : 0 ≤ b) : 2 ≤ (mw a b).u ∧ 1 ≤ (mw a b).p ∧ 1 ≤ (mw a b).q := by
  have h1 : (2 : Int) ≤ (mw a b).u := by
    show (2 : Int) ≤ 2 ^ (b + 1).toNat
    have : (2 : Int) ^ 1 ≤ 2 ^ (b + 1).toNat := pow_le_r (by omega) (by omega)
    simpa using this
  refine ⟨h1, ?_, ?_⟩
  · show 1 ≤ ((mw a b).u + 1) ^ b.toNat
    have := Int.pow_pos (m := b.toNat) (show (0 : Int) < (mw a b).u + 1 by omega)
    omega
  · show 1 ≤ (mw a b).u ^ a.toNat
    have := Int.pow_pos (m := a.toNat) (show (0 : Int) < (mw a b).u by omega)
    omega
theorem fit_pow2 {x : Int} {m : Nat} (h0 : 0 ≤ x) (h : x ≤ 2 ^ m) (hm : m < 131072) : Fit x := by
  refine Fit.mk ?_
  rw [BB_pow, show 32 * 4096 = 131072 from rfl]
  have h4 : (2 : Int) ^ m < 2 ^ (131072 : Nat) := Int.pow_lt_pow_of_lt (by omega) hm
  omega
theorem mw_le {a b : Int} (ha : 0 ≤ a) (hb : 0 ≤ b) (ha2 : a ≤ 300) (hb2 : b ≤ 300) : (mw a b).u ≤ 2 ^ 301 ∧ (mw a b).p ≤ 2 ^ 90600 ∧ (mw a b).q ≤ 2 ^ 90600 := by
  have hu : (mw a b).u ≤ 2 ^ 301 := pow_le_r (by omega) (by omega)
  obtain ⟨p1, p2, p3⟩ := mw_pos ha hb
  refine ⟨hu, ?_, ?_⟩
  · show ((mw a b).u + 1) ^ b.toNat ≤ _
    have h1 : (mw a b).u + 1 ≤ 2 ^ 302 := by
      have : (2 : Int) ^ 302 = 2 * 2 ^ 301 := by rw [Int.pow_succ]; omega
      omega
    have h2 : ((mw a b).u + 1) ^ b.toNat ≤ (2 ^ 302) ^ b.toNat := pow_le_l (by omega) h1 _
    rw [← Int.pow_mul] at h2
    exact Int.le_trans h2 (pow_le_r (by omega) (by omega))
  · show (mw a b).u ^ a.toNat ≤ _
    have h2 : (mw a b).u ^ a.toNat ≤ (2 ^ 301) ^ a.toNat := pow_le_l (by omega) hu _
    rw [← Int.pow_mul] at h2
    exact Int.le_trans h2 (pow_le_r (by omega) (by omega))
end Go.AL
namespace Go.Proofs.YtcaecieigoplbaaGreat
open Go.AL
theorem chainOk {o : Option Int} {f : FuncId} {args : List AV} {x : Int} (hf : Fit x) (h : IoFn Tryz.prog f args [(900, chB o 0)] (.ret (aX (cV 0 x))) [(900, chB o (cE 0 x))]) : IoFn Tryz.prog f args [(900, chB o 0)] (.ret (aX x)) [(900, chB o 0)] := by
  rw [cV_ok hf, cE_ok hf] at h
  exact h

set_option maxHeartbeats 2000000 in
theorem mWitness_ok (a b : Int) (ha : 0 ≤ a) (hb : 0 ≤ b) (ha2 : a ≤ 300) (hb2 : b ≤ 300) (hun : undI a b) : PureFn Tryz.prog 18 [aN a, aN b] (.tup [.sl 2 eX ((mw a b).X a b), aN 0]) := by
  refine PureFn.of_body Tryz.func18 rfl Tryz.ntmps18 rfl rfl ?_
  obtain ⟨p1, p2, p3⟩ := mw_pos ha hb
  obtain ⟨l1, l2, l3⟩ := mw_le ha hb ha2 hb2
  have hu : (2 : Int) ^ (b + 1).toNat = (mw a b).u := rfl
  have hp : ((mw a b).u + 1) ^ b.toNat = (mw a b).p := rfl
  have hq : (mw a b).u ^ a.toNat = (mw a b).q := rfl
  have hr : (mw a b).p % (mw a b).q = (mw a b).r := rfl
  have hy : (mw a b).p / (mw a b).q / (mw a b).u = (mw a b).y := rfl
  have hz : (mw a b).p / (mw a b).q % (mw a b).u / 2 = (mw a b).z := rfl
  have hs : (mw a b).q - (mw a b).r - 1 = (mw a b).s := rfl
  have ht : (mw a b).u - (mw a b).p / (mw a b).q % (mw a b).u - 1 = (mw a b).t := rfl
  have hX : (mw a b).X a b = [a, b, (mw a b).u, (mw a b).p, (mw a b).q, (mw a b).z, (mw a b).y, (mw a b).r, (mw a b).s, (mw a b).t] := rfl
  rw [hX]
  generalize mw a b = w at *
  obtain ⟨u, p, q, z, y, r, s, t⟩ := w
  simp only at p1 p2 p3 l1 l2 l3 hu hp hq hr hy hz hs ht ⊢
  have fa : Fit a := fit_small (by omega) (by omega)
  have fb : Fit b := fit_small (by omega) (by omega)
  have fu : Fit u := fit_pow2 (by omega) l1 (by omega)
  have fu1 : Fit (u + 1) := fit_pow2 (m := 302) (by omega) (by
    have : (2 : Int) ^ 302 = 2 * 2 ^ 301 := by rw [Int.pow_succ]; omega
    omega) (by omega)
  have fp : Fit p := fit_pow2 (by omega) l2 (by omega)
  have fq : Fit q := fit_pow2 (by omega) l3 (by omega)
  have f2 : Fit 2 := fit_small (by omega) (by omega)
  obtain ⟨fk, fr⟩ := div_fit fp fq (by omega)
  obtain ⟨fy, fo⟩ := div_fit fk fu (by omega)
  obtain ⟨fz, _⟩ := div_fit fo f2 (by omega)
  have r0 := Int.emod_nonneg p (show q ≠ 0 by omega)
  have r1 := Int.emod_lt_of_pos p (show 0 < q by omega)
  have k0 : 0 ≤ p / q := Int.ediv_nonneg (by omega) (by omega)
  have o0 := Int.emod_nonneg (p / q) (show u ≠ 0 by omega)
  have o1 := Int.emod_lt_of_pos (p / q) (show 0 < u by omega)
  obtain ⟨k, hk⟩ : ∃ k, k = p / q := ⟨_, rfl⟩
  obtain ⟨o, ho⟩ : ∃ o, o = k % u := ⟨_, rfl⟩
  rw [← hk] at fk fy fo fz hy hz ht k0 o0 o1
  rw [← ho] at fo fz hz ht o0 o1
  rw [hr] at fr r0 r1
  rw [hy] at fy
  rw [hz] at fz
  have fs1 : Fit (q - r) := fq.le (by omega)
  have fs : Fit s := fq.le (by omega)
  have ft1 : Fit (u - o) := fu.le (by omega)
  have ft : Fit t := fu.le (by omega)
  have e1 := chainOk (o := none) (by rw [hu]; exact fu) (chPower_ok none 0 2 (b + 1) f2 (by omega) (by omega))
  rw [hu] at e1
  have e2 := chainOk (o := none) fu1 (chAdd_ok none 0 u 1 fu fit_one)
  have e3 := chainOk (o := none) (by rw [hp]; exact fp) (chPower_ok none 0 (u + 1) b fu1 hb (by omega))
  rw [hp] at e3
  have e4 := chainOk (o := none) (by rw [hq]; exact fq) (chPower_ok none 0 u a fu ha (by omega))
  rw [hq] at e4
  have e5 := chainOk (o := none) (by rw [← hk]; exact fk) (chQuo_ok none 0 p q fp fq (by omega))
  rw [← hk] at e5
  have e6 := chainOk (o := none) (by rw [hr]; exact fr) (chRest_ok none 0 p q fp fq (by omega))
  rw [hr] at e6
  have e7 := chainOk (o := none) (by rw [hy]; exact fy) (chQuo_ok none 0 k u fk fu (by omega))
  rw [hy] at e7
  have e8 := chainOk (o := none) (by rw [← ho]; exact fo) (chRest_ok none 0 k u fk fu (by omega))
  rw [← ho] at e8
  have e9 := chainOk (o := none) (by rw [hz]; exact fz) (chQuo_ok none 0 o 2 fo f2 (by omega))
  rw [hz] at e9
  have e10 := chainOk (o := none) fs1 (chSub_ok none 0 q r fq fr)
  have e11 := chainOk (o := none) (by rw [hs]; exact fs) (chSub_ok none 0 (q - r) 1 fs1 fit_one)
  rw [hs] at e11
  have e12 := chainOk (o := none) ft1 (chSub_ok none 0 u o fu fo)
  have e13 := chainOk (o := none) (by rw [ht]; exact ft) (chSub_ok none 0 (u - o) 1 ft1 fit_one)
  rw [ht] at e13
  have hand : bitN .andNot a b = 0 := andNot_zero.2 hun
  clear l1 l2 l3 hu hp hq hr hy hz hs ht hk ho
  refine AWP.seqS ?_
  repeat' (first |refine Fl.v rfl rfl rfl ?_ |refine Fl.nilF ?_ |refine AWP.region ?_ |fail)
  refine ⟨AWP.seqS ?_⟩
  repeat' (first |refine Fl.v rfl rfl rfl ?_ |refine Fl.nilF ?_ |refine AWP.seq ?_ |refine AWP.region ?_ |(refine AWP.condD rfl ?_ ?_ <;> intro _ <;> try (exfalso; omega)) |refine AWP.skip ?_ |(refine Fl.splitD rfl rfl ?_ ?_ <;> intro _ <;> try (exfalso; omega)) |fail)
  refine ⟨AWP.seqS ?_⟩
  repeat' (first |refine Fl.v rfl rfl rfl ?_ |refine Fl.nilF ?_ |refine AWP.seq ?_ |refine AWP.region ?_ |refine Fl.w rfl rfl rfl (by first | exact True.intro | omega) ?_ |(refine AWP.condN rfl ?_ ?_ <;> intro _ <;> try (exfalso; omega)) |refine AWP.skip ?_ |fail)
  refine ⟨AWP.seqS ?_⟩
  repeat' (first |refine Fl.v rfl rfl rfl ?_ |refine Fl.nilF ?_ |refine AWP.region ?_ |refine Fl.b rfl rfl rfl rfl ?_ |fail)
  refine ⟨AWP.seqS ?_⟩
  repeat' (first |refine AWP.region ?_ |fail)
  refine Fl.make rfl rfl rfl rfl rfl rfl rfl rfl rfl rfl eX 0 (by exact leX_zero (σ := []) rfl) (by rfl) (by omega) (by dsimp only; omega) (by omega) ?_
  repeat' (first |refine Fl.v rfl rfl rfl ?_ |refine Fl.nilF ?_ |fail)
  refine ⟨AWP.seqS ?_⟩
  repeat' (first |refine AWP.region ?_ |fail)
  refine Fl.call rfl (Of_ok 1 (by omega) (by omega)) rfl rfl rfl (LeL.refl _) ?_
  repeat' (first |refine Fl.nilF ?_ |refine Fl.b rfl rfl rfl rfl ?_ |fail)
  refine ⟨AWP.seqS ?_⟩
  repeat' (first |refine Fl.v rfl rfl rfl ?_ |refine AWP.region ?_ |fail)
  refine Fl.call rfl (Of_ok a (by omega) (by omega)) rfl rfl rfl (LeL.refl _) ?_
  repeat' (first |refine Fl.v rfl rfl rfl ?_ |fail)
  refine Fl.call rfl (Of_ok b (by omega) (by omega)) rfl rfl rfl (LeL.refl _) ?_
  repeat' (first |refine Fl.relK rfl rfl rfl rfl rfl rfl rfl rfl rfl ?_ |refine Fl.rstK rfl rfl rfl rfl rfl rfl rfl rfl rfl rfl rfl (LeL.refl _) rfl rfl ?_ |refine Fl.nilF ?_ |fail)
  refine ⟨AWP.seqS ?_⟩
  repeat' (first |refine Fl.v rfl rfl rfl ?_ |refine AWP.region ?_ |fail)
  refine Fl.call rfl (Of_ok 2 (by omega) (by omega)) rfl rfl rfl (LeL.refl _) ?_
  repeat' (first |refine Fl.v rfl rfl rfl ?_ |refine Fl.w rfl rfl rfl (by first | exact True.intro | omega) ?_ |fail)
  refine Fl.io rfl [(900, 30)] (e1) rfl rfl (LeL.refl _) rfl ⟨⟨⟨_, rfl, BLe.cells (LeL.refl _)⟩, rfl⟩, trivial⟩ rfl rfl rfl rfl rfl ?_
  repeat' (first |refine Fl.relK rfl rfl rfl rfl rfl rfl rfl rfl rfl ?_ |refine Fl.rstK rfl rfl rfl rfl rfl rfl rfl rfl rfl rfl rfl (LeL.refl _) rfl rfl ?_ |refine Fl.nilF ?_ |fail)
  refine ⟨AWP.seqS ?_⟩
  repeat' (first |refine Fl.rldK rfl rfl rfl rfl rfl rfl rfl (fun _ => rfl) (fun _ => rfl) rfl ?_ |refine Fl.relK rfl rfl rfl rfl rfl rfl rfl rfl rfl ?_ |refine Fl.v rfl rfl rfl ?_ |refine AWP.region ?_ |fail)
  refine Fl.io rfl [(900, 30)] (e2) rfl rfl (LeL.refl _) rfl ⟨⟨⟨_, rfl, BLe.cells (LeL.refl _)⟩, rfl⟩, trivial⟩ rfl rfl rfl rfl rfl ?_
  repeat' (first |refine Fl.v rfl rfl rfl ?_ |fail)
  refine Fl.io rfl [(900, 30)] (e3) rfl rfl (LeL.refl _) rfl ⟨⟨⟨_, rfl, BLe.cells (LeL.refl _)⟩, rfl⟩, trivial⟩ rfl rfl rfl rfl rfl ?_
  repeat' (first |refine Fl.relK rfl rfl rfl rfl rfl rfl rfl rfl rfl ?_ |refine Fl.rstK rfl rfl rfl rfl rfl rfl rfl rfl rfl rfl rfl (LeL.refl _) rfl rfl ?_ |refine Fl.nil (fun _ => by kernel_rfl) ?_ |fail)
  refine ⟨AWP.seqS ?_⟩
  repeat' (first |refine Fl.rldK rfl rfl rfl rfl rfl rfl rfl (fun _ => rfl) (fun _ => rfl) rfl ?_ |refine Fl.relK rfl rfl rfl rfl rfl rfl rfl rfl rfl ?_ |refine Fl.v rfl rfl rfl ?_ |refine AWP.region ?_ |fail)
  refine Fl.io rfl [(900, 30)] (e4) rfl rfl (LeL.refl _) rfl ⟨⟨⟨_, rfl, BLe.cells (LeL.refl _)⟩, rfl⟩, trivial⟩ rfl rfl rfl rfl rfl ?_
  repeat' (first |refine Fl.relK rfl rfl rfl rfl rfl rfl rfl rfl rfl ?_ |refine Fl.rstK rfl rfl rfl rfl rfl rfl rfl rfl rfl rfl rfl (LeL.refl _) rfl rfl ?_ |refine Fl.nilF ?_ |fail)
  refine ⟨AWP.seqS ?_⟩
  repeat' (first |refine Fl.rldK rfl rfl rfl rfl rfl rfl rfl (fun _ => rfl) (fun _ => rfl) rfl ?_ |refine Fl.relK rfl rfl rfl rfl rfl rfl rfl rfl rfl ?_ |refine Fl.v rfl rfl rfl ?_ |refine AWP.region ?_ |fail)
  refine Fl.io rfl [(900, 30)] (e5) rfl rfl (LeL.refl _) rfl ⟨⟨⟨_, rfl, BLe.cells (LeL.refl _)⟩, rfl⟩, trivial⟩ rfl rfl rfl rfl rfl ?_
  repeat' (first |refine Fl.nil (fun _ => by kernel_rfl) ?_ |refine Fl.b rfl rfl rfl rfl ?_ |fail)
  refine ⟨AWP.seqS ?_⟩
  repeat' (first |refine Fl.rldK rfl rfl rfl rfl rfl rfl rfl (fun _ => rfl) (fun _ => rfl) rfl ?_ |refine Fl.relK rfl rfl rfl rfl rfl rfl rfl rfl rfl ?_ |refine Fl.v rfl rfl rfl ?_ |refine AWP.region ?_ |fail)
  refine Fl.io rfl [(900, 30)] (e6) rfl rfl (LeL.refl _) rfl ⟨⟨⟨_, rfl, BLe.cells (LeL.refl _)⟩, rfl⟩, trivial⟩ rfl rfl rfl rfl rfl ?_
  repeat' (first |refine Fl.relK rfl rfl rfl rfl rfl rfl rfl rfl rfl ?_ |refine Fl.rstK rfl rfl rfl rfl rfl rfl rfl rfl rfl rfl rfl (LeL.refl _) rfl rfl ?_ |refine Fl.nil (fun _ => by kernel_rfl) ?_ |fail)
  refine ⟨AWP.seqS ?_⟩
  repeat' (first |refine Fl.rldK rfl rfl rfl rfl rfl rfl rfl (fun _ => rfl) (fun _ => rfl) rfl ?_ |refine Fl.relK rfl rfl rfl rfl rfl rfl rfl rfl rfl ?_ |refine Fl.v rfl rfl rfl ?_ |refine AWP.region ?_ |fail)
  refine Fl.io rfl [(900, 30)] (e7) rfl rfl (LeL.refl _) rfl ⟨⟨⟨_, rfl, BLe.cells (LeL.refl _)⟩, rfl⟩, trivial⟩ rfl rfl rfl rfl rfl ?_
  repeat' (first |refine Fl.relK rfl rfl rfl rfl rfl rfl rfl rfl rfl ?_ |refine Fl.rstK rfl rfl rfl rfl rfl rfl rfl rfl rfl rfl rfl (LeL.refl _) rfl rfl ?_ |refine Fl.nil (fun _ => by kernel_rfl) ?_ |fail)
  refine ⟨AWP.seqS ?_⟩
  repeat' (first |refine Fl.rldK rfl rfl rfl rfl rfl rfl rfl (fun _ => rfl) (fun _ => rfl) rfl ?_ |refine Fl.relK rfl rfl rfl rfl rfl rfl rfl rfl rfl ?_ |refine Fl.v rfl rfl rfl ?_ |refine AWP.region ?_ |fail)
  refine Fl.io rfl [(900, 30)] (e8) rfl rfl (LeL.refl _) rfl ⟨⟨⟨_, rfl, BLe.cells (LeL.refl _)⟩, rfl⟩, trivial⟩ rfl rfl rfl rfl rfl ?_
  repeat' (first |refine Fl.nil (fun _ => by kernel_rfl) ?_ |refine Fl.b rfl rfl rfl rfl ?_ |fail)
  refine ⟨AWP.seqS ?_⟩
  repeat' (first |refine Fl.v rfl rfl rfl ?_ |refine AWP.region ?_ |fail)
  refine Fl.call rfl (Of_ok 2 (by omega) (by omega)) rfl rfl rfl (LeL.refl _) ?_
  skip
  refine Fl.io rfl [(900, 30)] (e9) rfl rfl (LeL.refl _) rfl ⟨⟨⟨_, rfl, BLe.cells (LeL.refl _)⟩, rfl⟩, trivial⟩ rfl rfl rfl rfl rfl ?_
  repeat' (first |refine Fl.relK rfl rfl rfl rfl rfl rfl rfl rfl rfl ?_ |refine Fl.rstK rfl rfl rfl rfl rfl rfl rfl rfl rfl rfl rfl (LeL.refl _) rfl rfl ?_ |refine Fl.nil (fun _ => by kernel_rfl) ?_ |fail)
  refine ⟨AWP.seqS ?_⟩
  repeat' (first |refine Fl.rldK rfl rfl rfl rfl rfl rfl rfl (fun _ => rfl) (fun _ => rfl) rfl ?_ |refine Fl.relK rfl rfl rfl rfl rfl rfl rfl rfl rfl ?_ |refine Fl.v rfl rfl rfl ?_ |refine AWP.region ?_ |fail)
  refine Fl.io rfl [(900, 30)] (e10) rfl rfl (LeL.refl _) rfl ⟨⟨⟨_, rfl, BLe.cells (LeL.refl _)⟩, rfl⟩, trivial⟩ rfl rfl rfl rfl rfl ?_
  repeat' (first |refine Fl.v rfl rfl rfl ?_ |fail)
  refine Fl.io rfl [(900, 30)] (e11) rfl rfl (LeL.refl _) rfl ⟨⟨⟨_, rfl, BLe.cells (LeL.refl _)⟩, rfl⟩, trivial⟩ rfl rfl rfl rfl rfl ?_
  repeat' (first |refine Fl.relK rfl rfl rfl rfl rfl rfl rfl rfl rfl ?_ |refine Fl.rstK rfl rfl rfl rfl rfl rfl rfl rfl rfl rfl rfl (LeL.refl _) rfl rfl ?_ |refine Fl.nil (fun _ => by kernel_rfl) ?_ |fail)
  refine ⟨AWP.seqS ?_⟩
  repeat' (first |refine Fl.rldK rfl rfl rfl rfl rfl rfl rfl (fun _ => rfl) (fun _ => rfl) rfl ?_ |refine Fl.relK rfl rfl rfl rfl rfl rfl rfl rfl rfl ?_ |refine Fl.v rfl rfl rfl ?_ |refine AWP.region ?_ |fail)
  refine Fl.io rfl [(900, 30)] (e12) rfl rfl (LeL.refl _) rfl ⟨⟨⟨_, rfl, BLe.cells (LeL.refl _)⟩, rfl⟩, trivial⟩ rfl rfl rfl rfl rfl ?_
  repeat' (first |refine Fl.v rfl rfl rfl ?_ |fail)
  refine Fl.io rfl [(900, 30)] (e13) rfl rfl (LeL.refl _) rfl ⟨⟨⟨_, rfl, BLe.cells (LeL.refl _)⟩, rfl⟩, trivial⟩ rfl rfl rfl rfl rfl ?_
  repeat' (first |refine Fl.relK rfl rfl rfl rfl rfl rfl rfl rfl rfl ?_ |refine Fl.rstK rfl rfl rfl rfl rfl rfl rfl rfl rfl rfl rfl (LeL.refl _) rfl rfl ?_ |refine Fl.nil (fun _ => by kernel_rfl) ?_ |fail)
  refine ⟨AWP.seqS ?_⟩
  repeat' (first |refine Fl.v rfl rfl rfl ?_ |refine Fl.nilF ?_ |refine AWP.seq ?_ |refine AWP.region ?_ |refine AWP.condF rfl ?_ |refine AWP.skip ?_ |fail)
  refine ⟨?_⟩
  repeat' (first |refine Fl.v rfl rfl rfl ?_ |refine Fl.nilF ?_ |refine AWP.seq ?_ |refine AWP.region ?_ |refine AWP.ret ?_ |fail)
  refine RetOk.ent (Ent.freeze 31 rfl) ?_
  exact RetOk.of rfl (AV.Le.refl _)
end Go.Proofs.YtcaecieigoplbaaGreat
/- Validity of any many numbers. -/
namespace Go.Proofs.YtcaecieigoplbaaGreat
open Go.AL
end Go.Proofs.YtcaecieigoplbaaGreat
/- mask: the links' meaning; what they need to be evaluated. -/
namespace Go.AL
theorem mkS_all : (∀ l ∈ mkS.links, OkL 10 l ∧ WL l) := by
  intro l hl
  simp only [mkS, List.mem_cons, List.not_mem_nil, or_false] at hl
  rcases hl with rfl | rfl | rfl | rfl | rfl | rfl
  · have := okLU_ok (V := 10) (by omega) (kind := 2) (ls := [conU 10 2, mk2, varU 10 2]) (by kernel_rfl); exact ⟨this.1, this.2.1⟩
  · have := okLU_ok (V := 10) (by omega) (kind := 2) (ls := [mk3, varU 10 1, varU 10 3]) (by kernel_rfl); exact ⟨this.1, this.2.1⟩
  · have := okLU_ok (V := 10) (by omega) (kind := 2) (ls := [varU 10 2, varU 10 0, varU 10 4]) (by kernel_rfl); exact ⟨this.1, this.2.1⟩
  · have := okLU_ok (V := 10) (by omega) (kind := 0) (ls := [mk8]) (by kernel_rfl); exact ⟨this.1, this.2.1⟩
  · have := okLU_ok (V := 10) (by omega) (kind := 0) (ls := [mk10]) (by kernel_rfl); exact ⟨this.1, this.2.1⟩
  · have := okLU_ok (V := 10) (by omega) (kind := 0) (ls := [mk12]) (by kernel_rfl); exact ⟨this.1, this.2.1⟩
theorem mkS_w : WS mkS := fun l hl => (mkS_all l hl).2
theorem mkS_ok : OkS mkS := ⟨by decide, by decide, by decide, fun l hl => (mkS_all l hl).1⟩
theorem mkS_nn : (∀ p ∈ [conU 10 2, mk2, varU 10 2, mk3, varU 10 1, varU 10 3, varU 10 0, varU 10 4, mk8, mk10, mk12], nnU 10 p ∧ okB 3 4 p = true) := by
  have h : ([conU 10 2, mk2, varU 10 2, mk3, varU 10 1, varU 10 3, varU 10 0, varU 10 4, mk8, mk10, mk12].all fun p => p.all (okU 10) && okB 3 4 p) = true := by kernel_rfl
  intro p hp
  have := List.all_eq_true.1 h p hp
  simp only [Bool.and_eq_true, List.all_eq_true] at this
  exact ⟨fun u hu => okU_ok (this.1 u hu), this.2⟩
theorem mk_vals (a b u p q z y r s t : Int) : let X := [a, b, u, p, q, z, y, r, s, t]
    uv X (conU 10 2) = 2 ∧ uv X mk2 = b + 1 ∧ uv X (varU 10 2) = u ∧ uv X mk3 = u + 1 ∧ uv X (varU 10 1) = b ∧ uv X (varU 10 3) = p ∧ uv X (varU 10 0) = a ∧ uv X (varU 10 4) = q ∧ uv X mk8 = p - ((2 * z + 1 + u * y) * q + r) ∧ uv X mk10 = q - (r + s + 1) ∧ uv X mk12 = u - (2 * z + 1 + 1 + t) := by
  intro X
  have v : ∀ i, i < 10 → uv X (varU 10 i) = X.getD i 0 := fun i hi => uv_var rfl hi
  have v0 : uv X (varU 10 0) = a := v 0 (by omega)
  have v1 : uv X (varU 10 1) = b := v 1 (by omega)
  have v2 : uv X (varU 10 2) = u := v 2 (by omega)
  have v3 : uv X (varU 10 3) = p := v 3 (by omega)
  have v4 : uv X (varU 10 4) = q := v 4 (by omega)
  have v5 : uv X (varU 10 5) = z := v 5 (by omega)
  have v6 : uv X (varU 10 6) = y := v 6 (by omega)
  have v7 : uv X (varU 10 7) = r := v 7 (by omega)
  have v8 : uv X (varU 10 8) = s := v 8 (by omega)
  have v9 : uv X (varU 10 9) = t := v 9 (by omega)
  have c : ∀ k, uv X (conU 10 k) = k := fun k => uv_con X 10 k
  have n0 : uv X [] = 0 := rfl
  have m0 : uv X mk0 = 2 * z := by
    unfold mk0; rw [uv_muls (V := 10) (by omega) X _ _ (by kernel_rfl)]; simp only [List.map_cons, List.map_nil, prodL, c, v5]; omega
  have m1 : uv X mk1 = 2 * z + 1 := by
    unfold mk1; rw [uv_sums (V := 10) (by omega) X _ _ (by kernel_rfl)]; simp only [List.map_cons, List.map_nil, sumL, c, m0, n0]; omega
  have m2 : uv X mk2 = b + 1 := by
    unfold mk2; rw [uv_sums (V := 10) (by omega) X _ _ (by kernel_rfl)]; simp only [List.map_cons, List.map_nil, sumL, c, v1, n0]; omega
  have m3 : uv X mk3 = u + 1 := by
    unfold mk3; rw [uv_sums (V := 10) (by omega) X _ _ (by kernel_rfl)]; simp only [List.map_cons, List.map_nil, sumL, c, v2, n0]; omega
  have m4 : uv X mk4 = u * y := by
    unfold mk4; rw [uv_muls (V := 10) (by omega) X _ _ (by kernel_rfl)]; simp only [List.map_cons, List.map_nil, prodL, c, v2, v6]; grind
  have m5 : uv X mk5 = 2 * z + 1 + u * y := by
    unfold mk5; rw [uv_sums (V := 10) (by omega) X _ _ (by kernel_rfl)]; simp only [List.map_cons, List.map_nil, sumL, m1, m4, n0]; omega
  have m6 : uv X mk6 = (2 * z + 1 + u * y) * q := by
    unfold mk6; rw [uv_muls (V := 10) (by omega) X _ _ (by kernel_rfl)]; simp only [List.map_cons, List.map_nil, prodL, c, m5, v4]; grind
  have m7 : uv X mk7 = (2 * z + 1 + u * y) * q + r := by
    unfold mk7; rw [uv_sums (V := 10) (by omega) X _ _ (by kernel_rfl)]; simp only [List.map_cons, List.map_nil, sumL, m6, v7, n0]; omega
  have m8 : uv X mk8 = p - ((2 * z + 1 + u * y) * q + r) := by
    unfold mk8; rw [uv_sub (V := 10) (by omega) X (by kernel_rfl), v3, m7]
  have m9 : uv X mk9 = r + s + 1 := by
    unfold mk9; rw [uv_sums (V := 10) (by omega) X _ _ (by kernel_rfl)]; simp only [List.map_cons, List.map_nil, sumL, c, v7, v8, n0]; omega
  have m10 : uv X mk10 = q - (r + s + 1) := by
    unfold mk10; rw [uv_sub (V := 10) (by omega) X (by kernel_rfl), v4, m9]
  have m11 : uv X mk11 = 2 * z + 1 + 1 + t := by
    unfold mk11; rw [uv_sums (V := 10) (by omega) X _ _ (by kernel_rfl)]; simp only [List.map_cons, List.map_nil, sumL, c, m1, v9, n0]; omega
  have m12 : uv X mk12 = u - (2 * z + 1 + 1 + t) := by
    unfold mk12; rw [uv_sub (V := 10) (by omega) X (by kernel_rfl), v2, m11]
  exact ⟨c 2, m2, v2, m3, v1, v3, v0, v4, m8, m10, m12⟩
/-- the links hold -/
def MaskEq (a b u p q z y r s t : Int) : Prop :=
  (0 ≤ b + 1 ∧ 2 ^ (b + 1).toNat = u) ∧ (1 ≤ u + 1 ∧ 0 ≤ b ∧ (u + 1) ^ b.toNat = p) ∧ (1 ≤ u ∧ 0 ≤ a ∧ u ^ a.toNat = q) ∧ p = (2 * z + 1 + u * y) * q + r ∧ q = r + s + 1 ∧ u = 2 * z + 1 + 1 + t
theorem mk_hol (a b u p q z y r s t : Int) : (∀ l ∈ mkS.links, HoL [a, b, u, p, q, z, y, r, s, t] l) ↔ MaskEq a b u p q z y r s t := by
  obtain ⟨e0, e1, e2, e3, e4, e5, e6, e7, e8, e9, e10⟩ := mk_vals a b u p q z y r s t
  have nn : ∀ p, p ∈ [conU 10 2, mk2, varU 10 2, mk3, varU 10 1, varU 10 3, varU 10 0, varU 10 4, mk8, mk10, mk12] → nnU 10 p := fun p hp => (mkS_nn p hp).1
  have L : ∀ (kind : Int) (ls : List (List UT)), (∀ p ∈ ls, p ∈ [conU 10 2, mk2, varU 10 2, mk3, varU 10 1, varU 10 3, varU 10 0, varU 10 4, mk8, mk10, mk12]) → HoL [a, b, u, p, q, z, y, r, s, t] (linkU 10 kind ls) = holdP kind (ls.map (uv [a, b, u, p, q, z, y, r, s, t])) := fun kind ls h => by
    unfold HoL
    rw [lvals_linkU (V := 10) rfl fun p hp => nn p (h p hp)]
    rfl
  simp only [mkS, List.forall_mem_cons]
  rw [L 2 _ (by simp), L 2 _ (by simp), L 2 _ (by simp), L 0 _ (by simp), L 0 _ (by simp), L 0 _ (by simp)]
  simp only [List.map_cons, List.map_nil, e0, e1, e2, e3, e4, e5, e6, e7, e8, e9, e10]
  unfold holdP MaskEq
  simp
  intros
  constructor
  · intro ⟨h1, h2, h3⟩
    exact ⟨by omega, by omega, by omega⟩
  · intro ⟨h1, h2, h3⟩
    exact ⟨by omega, by omega, by omega⟩
/-- numbers that are not too great: the links can be evaluated -/
theorem mk_ev {X : List Int} {m : Nat} (hm : m ≤ 43000) (hl : X.length = 10) (hX : ∀ x ∈ X, x.natAbs ≤ 2 ^ m) : ∀ l ∈ mkS.links, EvL X l := by
  have A : ∀ p, p ∈ [conU 10 2, mk2, varU 10 2, mk3, varU 10 1, varU 10 3, varU 10 0, varU 10 4, mk8, mk10, mk12] → nnU 10 p ∧ Fit (auv X p) := fun p hp => by
    obtain ⟨h1, h2⟩ := mkS_nn p hp
    exact ⟨h1, auv_fit hX h1 h2 (by omega)⟩
  have L : ∀ (kind : Int) (ls : List (List UT)), (∀ p ∈ ls, p ∈ [conU 10 2, mk2, varU 10 2, mk3, varU 10 1, varU 10 3, varU 10 0, varU 10 4, mk8, mk10, mk12]) → EvL X (linkU 10 kind ls) := fun kind ls h =>
    evL_linkU hl (fun p hp => (A p (h p hp)).1) fun p hp => (A p (h p hp)).2
  simp only [mkS, List.forall_mem_cons]
  exact ⟨L 2 _ (by simp), L 2 _ (by simp), L 2 _ (by simp), L 0 _ (by simp), L 0 _ (by simp), L 0 _ (by simp), by simp⟩
end Go.AL
namespace Go.Proofs.YtcaecieigoplbaaGreat
open Go.AL
theorem holdsR_all {f g : LZ → Bool} : ∀ {ls : List LZ}, (∀ l ∈ ls, f l = true ∧ g l = true) → holdsR f g ls = (true, 0)
  | [], _ => rfl
  | l :: ls, h => by
    obtain ⟨h1, h2⟩ := h l (by simp)
    rw [holdsR, if_pos h1, if_pos h2]
    exact holdsR_all fun x hx => h x (by simp [hx])
/-- Holds, where all stands. -/
theorem Holds_yes (s : SZ) (X : List Int) (hw : WS s) (hs : OkS s) (hX : ∀ x ∈ X, Fit x) (hlen : (X.length : Int) = s.vars) (hnat : ∀ x ∈ X, 0 ≤ x) (he : ∀ l ∈ s.links, EvL X l) (hh : ∀ l ∈ s.links, HoL X l) : PureFn Tryz.prog 25 [aS s, .sl 2 eX X] (.tup [aB true, aN 0]) := by
  obtain ⟨f, hf⟩ := boolOf (EvL X)
  obtain ⟨g, hg⟩ := boolOf (HoL X)
  have := Holds_ok s X hw hs hX hlen hnat f g hf hg
  rw [holdsR_all fun l hl => ⟨(hf l).2 (he l hl), (hg l).2 (hh l hl)⟩] at this
  exact this
end Go.Proofs.YtcaecieigoplbaaGreat
/- ref01: Under, Small, SameAll; mask.Witness where there is none. -/
namespace Go.AL
theorem und_and {x w : Int} (h0 : 0 ≤ x) : bitN .and x w = x ↔ undI x w := by
  show ((x.toNat &&& w.toNat : Nat) : Int) = x ↔ x.toNat &&& w.toNat = x.toNat
  omega
end Go.AL
namespace Go.Proofs.YtcaecieigoplbaaGreat
open Go.AL

theorem rUnder_ok (x y : Int) (hx : 0 ≤ x) (hy : 0 ≤ y) (hxl : (toW x).length ≤ 100000) (hyl : (toW y).length ≤ 100000) (b : Bool) (hb : b = true ↔ undI x y) : PureFn Tryz.prog 20 [aX x, aX y] (aB b) := by
  refine PureFn.of_body Tryz.func20 rfl Tryz.ntmps20 rfl rfl ?_
  have ex : ((x.natAbs : Nat) : Int) = x := by omega
  have ey : ((y.natAbs : Nat) : Int) = y := by omega
  have wx := toW_ok x
  have wy := toW_ok y
  have hsx := val_toW hx
  have hsy := val_toW hy
  obtain ⟨C, hC⟩ : ∃ C, C = toW y ++ List.replicate (toW x).length 0 := ⟨_, rfl⟩
  have wC : WOk C := by rw [hC]; exact wy.append (WOk.zeros _)
  have hCl : (toW x).length ≤ C.length := by rw [hC]; simp
  have hCv : val C = y := by rw [hC, val_append, val_zeros, hsy]; omega
  have hwords := undI_words wx wC hCl
  rw [hsx, hCv] at hwords
  show AWP _ _ _ _ _ (St.init [.agg [aB (decide (x < 0)), aW (toW x.natAbs)], .agg [aB (decide (y < 0)), aW (toW y.natAbs)]])
  rw [ex, ey]
  generalize hA : toW x = A at *
  generalize hB : toW y = B at *
  repeat' (first |refine Fl.v rfl rfl rfl ?_ |refine Fl.nilF ?_ |refine AWP.seq ?_ |refine AWP.region ?_ |refine Fl.b rfl rfl rfl rfl ?_ |refine AWP.block ?_ |fail)
  refine AWP.loop (G := Nat) (fun i => i ≤ A.length ∧ ∀ (j : Nat) (a w : Int), j < i → A[j]? = some a → C[j]? = some w → undI a w) (fun i => St.of [] [(2, .ptr 2 0), (3, .ptr 3 0), (5, aN i)] [(2, .cells [aB (decide (x < 0)), aW A] 35), (3, .cells [aB (decide (y < 0)), aW B] 35)]) (fun i => A.length - i) 0 ⟨by omega, by intro j a w h; omega⟩ ?_ ?_
  · refine Ent.of [] ?_ ?_ rfl rfl
    repeat' (first | exact True.intro |refine ⟨⟨AV.Le.refl _, rfl⟩, ?_⟩ |refine ⟨⟨AV.Le.any _, rfl⟩, ?_⟩ |refine ⟨⟨⟨_, rfl, BLe.cells (LeL.refl _)⟩, rfl⟩, ?_⟩ |refine ⟨⟨⟨_, rfl, BLe.row rfl⟩, rfl⟩, ?_⟩ |refine ⟨⟨⟨_, rfl, BLe.row ?_⟩, rfl⟩, ?_⟩ |refine ⟨⟨⟨_, rfl, BLe.cells ?_⟩, rfl⟩, ?_⟩ |refine ⟨⟨AV.Le.int ?_, rfl⟩, ?_⟩ |refine ⟨⟨AV.Le.bool ?_, rfl⟩, ?_⟩ |refine ⟨⟨AV.Le.sl ?_, rfl⟩, ?_⟩ |refine ⟨⟨AV.Le.of_eq ?_, rfl⟩, ?_⟩ | fail)
  · intro i ⟨h0, h1⟩
    refine AWP.seqS ?_
    repeat' (first |refine Fl.v rfl rfl rfl ?_ |refine Fl.nilF ?_ |refine AWP.seq ?_ |refine AWP.region ?_ |(refine AWP.condD rfl ?_ ?_ <;> intro _ <;> try (exfalso; omega)) |refine AWP.skip ?_ |refine AWP.exit ?_ |refine AWP.ret ?_ |fail)
    · rename_i hi
      obtain ⟨w, hw⟩ : ∃ w, C[i]? = some w := ⟨_, List.getElem?_eq_getElem (by omega)⟩
      have ww := wC.get hw
      refine ⟨AWP.seq (AWP.block (AWP.seqS ?_))⟩
      repeat' (first |refine Fl.v rfl rfl rfl ?_ |refine Fl.nilF ?_ |refine AWP.region ?_ |fail)
      refine ⟨AWP.seqJ (G := Unit) (fun _ => True) (fun _ => St.of [] [(2, .ptr 2 0), (3, .ptr 3 0), (5, aN i), (6, .v (.int .u32 w))] [(2, .cells [aB (decide (x < 0)), aW A] 35), (3, .cells [aB (decide (y < 0)), aW B] 35)]) ?_ ?_⟩
      · repeat' (first |refine Fl.v rfl rfl rfl ?_ |refine Fl.nilF ?_ |refine AWP.seq ?_ |refine AWP.region ?_ |(refine AWP.condD rfl ?_ ?_ <;> intro _ <;> try (exfalso; omega)) |refine AWP.skip ?_ |(refine Fl.elW rfl rfl rfl rfl rfl rfl rfl rfl (by omega) (by omega) (by assumption) ?_; intro _ _ _ _) |fail)
        · rename_i hi2 v hv hv0 hv1
          rw [Int.toNat_natCast] at hv
          rw [hC, List.getElem?_append_left (by omega), hv] at hw
          injection hw with hw
          subst hw
          refine JoinOk.of () trivial ?_
          refine Ent.of [] ?_ ?_ rfl rfl
          repeat' (first | exact True.intro |refine ⟨⟨AV.Le.refl _, rfl⟩, ?_⟩ |refine ⟨⟨AV.Le.any _, rfl⟩, ?_⟩ |refine ⟨⟨⟨_, rfl, BLe.cells (LeL.refl _)⟩, rfl⟩, ?_⟩ |refine ⟨⟨⟨_, rfl, BLe.row rfl⟩, rfl⟩, ?_⟩ |refine ⟨⟨⟨_, rfl, BLe.row ?_⟩, rfl⟩, ?_⟩ |refine ⟨⟨⟨_, rfl, BLe.cells ?_⟩, rfl⟩, ?_⟩ |refine ⟨⟨AV.Le.int ?_, rfl⟩, ?_⟩ |refine ⟨⟨AV.Le.bool ?_, rfl⟩, ?_⟩ |refine ⟨⟨AV.Le.sl ?_, rfl⟩, ?_⟩ |refine ⟨⟨AV.Le.of_eq ?_, rfl⟩, ?_⟩ | fail)
        · rename_i hi2
          rw [hC, List.getElem?_append_right (by omega)] at hw
          have hw0 : w = 0 := List.eq_of_mem_replicate (List.mem_of_getElem? hw)
          refine JoinOk.of () trivial ?_
          refine Ent.of [] ?_ ?_ rfl rfl
          repeat' (first | exact True.intro |refine ⟨⟨AV.Le.refl _, rfl⟩, ?_⟩ |refine ⟨⟨AV.Le.any _, rfl⟩, ?_⟩ |refine ⟨⟨⟨_, rfl, BLe.cells (LeL.refl _)⟩, rfl⟩, ?_⟩ |refine ⟨⟨⟨_, rfl, BLe.row rfl⟩, rfl⟩, ?_⟩ |refine ⟨⟨⟨_, rfl, BLe.row ?_⟩, rfl⟩, ?_⟩ |refine ⟨⟨⟨_, rfl, BLe.cells ?_⟩, rfl⟩, ?_⟩ |refine ⟨⟨AV.Le.int ?_, rfl⟩, ?_⟩ |refine ⟨⟨AV.Le.bool ?_, rfl⟩, ?_⟩ |refine ⟨⟨AV.Le.sl ?_, rfl⟩, ?_⟩ |refine ⟨⟨AV.Le.of_eq ?_, rfl⟩, ?_⟩ | fail)
          exact hw0.symm
      · intro _ _
        repeat' (first |refine Fl.v rfl rfl rfl ?_ |refine Fl.nilF ?_ |refine Fl.nil (fun _ => by kernel_rfl) ?_ |refine AWP.seq ?_ |refine AWP.region ?_ |refine Fl.w rfl rfl rfl (by first | exact True.intro | omega) ?_ |(refine AWP.condN rfl ?_ ?_ <;> intro _ <;> try (exfalso; omega)) |refine AWP.skip ?_ |refine AWP.ret ?_ |refine Fl.elK rfl rfl rfl rfl rfl rfl rfl rfl (by assumption) (by omega) ?_ |(refine Fl.elW rfl rfl rfl rfl rfl rfl rfl rfl (by omega) (by omega) (by assumption) ?_; intro _ _ _ _) |fail)
        · rename_i v hv hv0 hv1 hne
          rw [Int.toNat_natCast] at hv
          refine RetOk.of rfl (AV.Le.bool ?_)
          cases b with
          | false => rfl
          | true => exact absurd ((und_and hv0).2 ((hwords.1 (hb.1 rfl)) i v w hv hw)) (by first | exact hne | exact fun h => hne h)
        · rename_i v hv hv0 hv1 hne
          rw [Int.toNat_natCast] at hv
          refine LoopEnd.of (i + 1) ⟨by omega, fun j a c hj ha hc => ?_⟩ (by omega) ?_
          · rcases Nat.lt_or_eq_of_le (Nat.le_of_lt_succ hj) with h | h
            · exact h1 j a c h ha hc
            · subst h
              rw [hv] at ha
              rw [hw] at hc
              injection ha with ha
              injection hc with hc
              subst ha hc
              exact (und_and hv0).1 hne
          · refine Ent.of [] ?_ ?_ rfl rfl
            repeat' (first | exact True.intro |refine ⟨⟨AV.Le.refl _, rfl⟩, ?_⟩ |refine ⟨⟨AV.Le.any _, rfl⟩, ?_⟩ |refine ⟨⟨⟨_, rfl, BLe.cells (LeL.refl _)⟩, rfl⟩, ?_⟩ |refine ⟨⟨⟨_, rfl, BLe.row rfl⟩, rfl⟩, ?_⟩ |refine ⟨⟨⟨_, rfl, BLe.row ?_⟩, rfl⟩, ?_⟩ |refine ⟨⟨⟨_, rfl, BLe.cells ?_⟩, rfl⟩, ?_⟩ |refine ⟨⟨AV.Le.int ?_, rfl⟩, ?_⟩ |refine ⟨⟨AV.Le.bool ?_, rfl⟩, ?_⟩ |refine ⟨⟨AV.Le.sl ?_, rfl⟩, ?_⟩ |refine ⟨⟨AV.Le.of_eq ?_, rfl⟩, ?_⟩ | fail)
    · rename_i hi
      refine RetOk.of rfl (AV.Le.bool (Eq.symm (hb.2 (hwords.2 fun j a w ha hw => h1 j a w ?_ ha hw))))
      have := (List.getElem?_eq_some_iff.1 ha).1
      omega

theorem mWitness_none (a b : Int) (ha : 0 ≤ a) (hb : 0 ≤ b) (ha2 : a ≤ 300) (hb2 : b ≤ 300) (h : ¬ undI a b) : PureFn Tryz.prog 18 [aN a, aN b] (.tup [.v (.slice none 0 0), aN 6]) := by
  refine PureFn.of_body Tryz.func18 rfl Tryz.ntmps18 rfl rfl ?_
  have hand : ¬ bitN .andNot a b = 0 := fun k => h (andNot_zero.1 k)
  refine AWP.seqS ?_
  repeat' (first |refine Fl.v rfl rfl rfl ?_ |refine Fl.nilF ?_ |refine AWP.region ?_ |fail)
  refine ⟨AWP.seqS ?_⟩
  repeat' (first |refine Fl.v rfl rfl rfl ?_ |refine Fl.nilF ?_ |refine AWP.seq ?_ |refine AWP.region ?_ |(refine AWP.condD rfl ?_ ?_ <;> intro _ <;> try (exfalso; omega)) |refine AWP.skip ?_ |(refine Fl.splitD rfl rfl ?_ ?_ <;> intro _ <;> try (exfalso; omega)) |fail)
  refine ⟨AWP.seqS ?_⟩
  repeat' (first |refine Fl.v rfl rfl rfl ?_ |refine Fl.nilF ?_ |refine AWP.seq ?_ |refine AWP.region ?_ |refine Fl.w rfl rfl rfl (by first | exact True.intro | omega) ?_ |(refine AWP.condN rfl ?_ ?_ <;> intro _ <;> try (exfalso; omega)) |refine AWP.ret ?_ |fail)
  exact RetOk.of rfl (AV.Le.refl _)
end Go.Proofs.YtcaecieigoplbaaGreat
/- Binomial coefficients: plain. -/
namespace Go.AL
def ch : Nat → Nat → Nat
  | _, 0 => 1
  | 0, _ + 1 => 0
  | n + 1, k + 1 => ch n k + ch n (k + 1)
theorem ch_zero (n : Nat) : ch n 0 = 1 := by cases n <;> rfl
theorem ch_succ (n k : Nat) : ch (n + 1) (k + 1) = ch n k + ch n (k + 1) := rfl
theorem ch_zero_succ (k : Nat) : ch 0 (k + 1) = 0 := rfl
theorem ch_le : ∀ n k : Nat, ch n k ≤ 2 ^ n
  | n, 0 => by rw [ch_zero]; exact Nat.one_le_two_pow
  | 0, k + 1 => by simp [ch]
  | n + 1, k + 1 => by
    have h1 := ch_le n k
    have h2 := ch_le n (k + 1)
    rw [ch_succ, Nat.pow_succ]; omega
/-- parity, digit by digit -/
theorem ch_par : ∀ n k : Nat, ch (2 * n) (2 * k) % 2 = ch n k % 2 ∧ ch (2 * n) (2 * k + 1) % 2 = 0 ∧ ch (2 * n + 1) (2 * k) % 2 = ch n k % 2 ∧ ch (2 * n + 1) (2 * k + 1) % 2 = ch n k % 2
  | 0, 0 => by simp [ch]
  | 0, k + 1 => by
    rw [show 2 * 0 = 0 from rfl, show 2 * (k + 1) = 2 * k + 1 + 1 by omega]
    simp [ch]
  | n + 1, k => by
    have key : ∀ k : Nat, ch (2 * (n + 1)) (2 * k) % 2 = ch (n + 1) k % 2 ∧ ch (2 * (n + 1)) (2 * k + 1) % 2 = 0 := by
      intro k
      rw [show 2 * (n + 1) = 2 * n + 1 + 1 by omega]
      obtain ⟨h1, h2, h3, h4⟩ := ch_par n k
      constructor
      · cases k with
        | zero => simp [ch_zero]
        | succ k =>
          obtain ⟨g1, g2, g3, g4⟩ := ch_par n k
          rw [show 2 * (k + 1) = 2 * k + 1 + 1 by omega] at h3 ⊢
          rw [ch_succ (2 * n + 1), ch_succ n k]
          omega
      · rw [ch_succ (2 * n + 1) (2 * k)]
        omega
    obtain ⟨h1, h2⟩ := key k
    refine ⟨h1, h2, ?_, ?_⟩
    · cases k with
      | zero => simp [ch_zero]
      | succ k =>
        have g := (key k).2
        rw [show 2 * (k + 1) = 2 * k + 1 + 1 by omega] at h1 ⊢
        rw [ch_succ (2 * (n + 1)) (2 * k + 1)]
        omega
    · rw [ch_succ (2 * (n + 1)) (2 * k)]
      omega
theorem ch_odd : ∀ (n k : Nat), ch n k % 2 = 1 ↔ ∀ i, k.testBit i = true → n.testBit i = true := by
  intro n
  induction n using Nat.strongRecOn with
  | _ n ih =>
    intro k
    by_cases hn : n = 0
    · subst hn
      cases k with
      | zero => simp [ch]
      | succ k =>
        simp only [ch_zero_succ, Nat.zero_testBit]
        constructor
        · intro h; omega
        · intro h
          obtain ⟨i, hi⟩ := Nat.exists_testBit_of_ne_zero (show k + 1 ≠ 0 by omega)
          have := h i hi; cases this
    · have h := ih (n / 2) (by omega) (k / 2)
      obtain ⟨p1, p2, p3, p4⟩ := ch_par (n / 2) (k / 2)
      have split : (∀ i, k.testBit i = true → n.testBit i = true) ↔ (k % 2 = 1 → n % 2 = 1) ∧ ∀ i, (k / 2).testBit i = true → (n / 2).testBit i = true := by
        constructor
        · intro h
          refine ⟨fun hk => ?_, fun i hi => ?_⟩
          · have := h 0
            simp only [Nat.testBit_zero, decide_eq_true_eq] at this
            exact this hk
          · have := h (i + 1)
            simp only [Nat.testBit_succ] at this
            exact this hi
        · rintro ⟨h0, h1⟩ i hi
          cases i with
          | zero =>
            simp only [Nat.testBit_zero, decide_eq_true_eq] at hi ⊢
            exact h0 hi
          | succ i =>
            simp only [Nat.testBit_succ] at hi ⊢
            exact h1 i hi
      rw [split, ← h]
      have en : n = 2 * (n / 2) + n % 2 := by omega
      have ek : k = 2 * (k / 2) + k % 2 := by omega
      rcases Nat.mod_two_eq_zero_or_one n with hn2 | hn2 <;> rcases Nat.mod_two_eq_zero_or_one k with hk2 | hk2
      · rw [hn2] at en; rw [hk2] at ek
        rw [show ch n k = ch (2 * (n / 2)) (2 * (k / 2)) by rw [← show n = 2 * (n / 2) from en, ← show k = 2 * (k / 2) from ek]]
        omega
      · rw [hn2] at en; rw [hk2] at ek
        rw [show ch n k = ch (2 * (n / 2)) (2 * (k / 2) + 1) by rw [← show n = 2 * (n / 2) from en, ← ek]]
        omega
      · rw [hn2] at en; rw [hk2] at ek
        rw [show ch n k = ch (2 * (n / 2) + 1) (2 * (k / 2)) by rw [← en, ← show k = 2 * (k / 2) from ek]]
        omega
      · rw [hn2] at en; rw [hk2] at ek
        rw [show ch n k = ch (2 * (n / 2) + 1) (2 * (k / 2) + 1) by rw [← en, ← ek]]
        omega
/-- the powers of u + 1, cut at a digit -/
def binS (u n : Nat) : Nat → Nat
  | 0 => 0
  | k + 1 => binS u n k + ch n k * u ^ k
theorem binS_succ (u n : Nat) : ∀ k : Nat, binS u (n + 1) (k + 1) = binS u n (k + 1) + u * binS u n k
  | 0 => by simp [binS, ch_zero]
  | k + 1 => by
    have ih := binS_succ u n k
    rw [binS, ih, ch_succ]
    conv => rhs; rw [binS]
    rw [show binS u n (k + 1) = binS u n k + ch n k * u ^ k from rfl, Nat.pow_succ]
    grind
theorem bin_split (u : Nat) : ∀ n k : Nat, ∃ h, (u + 1) ^ n = binS u n k + u ^ k * h
  | n, 0 => ⟨(u + 1) ^ n, by simp [binS]⟩
  | 0, k + 1 => ⟨0, by
    have : ∀ k : Nat, binS u 0 (k + 1) = 1 := by
      intro k
      induction k with
      | zero => simp [binS, ch]
      | succ k ih => rw [binS, ih]; simp [ch]
    rw [this]; simp⟩
  | n + 1, k + 1 => by
    obtain ⟨h1, e1⟩ := bin_split u n k
    obtain ⟨h2, e2⟩ := bin_split u n (k + 1)
    refine ⟨h1 + h2, ?_⟩
    rw [binS_succ, Nat.pow_succ (u + 1) n, Nat.mul_add, Nat.mul_one]
    conv => lhs; rw [e2]
    have e3 : (u + 1) ^ n = binS u n (k + 1) + u ^ (k + 1) * h2 := e2
    have e4 : (binS u n (k + 1) + u ^ (k + 1) * h2) * u = (binS u n k + u ^ k * h1) * u := by rw [← e2, e1]
    rw [e4, Nat.pow_succ]
    grind
theorem binS_lt {u n : Nat} (hu : 2 ^ n < u) : ∀ k : Nat, binS u n k < u ^ k
  | 0 => by simp [binS]
  | k + 1 => by
    have ih := binS_lt hu k
    have hc := ch_le n k
    have h1 : (ch n k + 1) * u ^ k ≤ u * u ^ k := Nat.mul_le_mul_right _ (by omega)
    rw [binS, Nat.pow_succ, Nat.mul_comm (u ^ k) u]
    rw [Nat.add_mul] at h1
    omega
/-- a digit of a power of u + 1 -/
theorem bin_digit {u n k p o y r : Nat} (hu : 2 ^ n < u) (hp : p = (u + 1) ^ n) (he : p = (o + u * y) * u ^ k + r) (hr : r < u ^ k) (ho : o < u) : o = ch n k := by
  obtain ⟨h, e1⟩ := bin_split u n k
  obtain ⟨h', e2⟩ := bin_split u n (k + 1)
  have l1 := binS_lt hu k
  have hc := ch_le n k
  have hpos : 0 < u ^ k := Nat.pow_pos (by omega)
  have d1 : p / u ^ k = o + u * y := by rw [he, Nat.add_comm, Nat.add_mul_div_right _ _ hpos, Nat.div_eq_of_lt hr, Nat.zero_add]
  have d2 : p / u ^ k = ch n k + u * h' := by
    rw [hp, e2, binS, Nat.pow_succ]
    have e3 : binS u n k + ch n k * u ^ k + u ^ k * u * h' = binS u n k + (ch n k + u * h') * u ^ k := by grind
    rw [e3, Nat.add_mul_div_right _ _ hpos, Nat.div_eq_of_lt l1, Nat.zero_add]
  have m1 : (o + u * y) % u = o := by rw [Nat.add_mul_mod_self_left, Nat.mod_eq_of_lt ho]
  have m2 : (ch n k + u * h') % u = ch n k := by rw [Nat.add_mul_mod_self_left, Nat.mod_eq_of_lt (by omega)]
  rw [← m1, ← d1, d2, m2]
end Go.AL
/- Digits of binomial coefficients under digits: plain. -/
namespace Go.AL
theorem und_bits (a b : Nat) : undI a b ↔ ∀ i, a.testBit i = true → b.testBit i = true := by
  unfold undI
  simp only [Int.toNat_natCast]
  constructor
  · intro h i hi
    rw [← h, Nat.testBit_and] at hi
    simp only [Bool.and_eq_true] at hi
    exact hi.2
  · intro h
    apply Nat.eq_of_testBit_eq
    intro i
    rw [Nat.testBit_and]
    cases ha : a.testBit i with
    | false => rfl
    | true => simp [h i ha]
theorem ch_und (b a : Nat) : ch b a % 2 = 1 ↔ undI a b := by rw [und_bits]; exact ch_odd b a
/-- what the quotients are -/
theorem mask_digit {a b u p q : Nat} (hu : u = 2 ^ (b + 1)) (hp : p = (u + 1) ^ b) (hq : q = u ^ a) : p / q % u = ch b a ∧ ch b a < u := by
  have hub : 2 ^ b < u := by rw [hu, Nat.pow_succ]; have := Nat.two_pow_pos b; omega
  have hqp : 0 < q := by rw [hq]; exact Nat.pow_pos (by omega)
  have hup : 0 < u := by omega
  refine ⟨?_, by have := ch_le b a; omega⟩
  refine bin_digit (u := u) (n := b) (k := a) (p := p) (y := p / q / u) (r := p % q) hub hp ?_ (by rw [← hq]; exact Nat.mod_lt _ hqp) (Nat.mod_lt _ hup)
  rw [← hq, Nat.mod_add_div (p / q) u, Nat.mul_comm, Nat.div_add_mod]
/-- where a is under b, there are such numbers -/
theorem mask_found {a b u p q : Nat} (hu : u = 2 ^ (b + 1)) (hp : p = (u + 1) ^ b) (hq : q = u ^ a) (h : undI a b) :
    p = (2 * (p / q % u / 2) + 1 + u * (p / q / u)) * q + p % q ∧ q = p % q + (q - p % q - 1) + 1 ∧ u = 2 * (p / q % u / 2) + 1 + 1 + (u - p / q % u - 1) := by
  obtain ⟨h1, h2⟩ := mask_digit hu hp hq
  have hodd := (ch_und b a).2 h
  have hqp : 0 < q := by rw [hq]; exact Nat.pow_pos (by omega)
  have e : 2 * (p / q % u / 2) + 1 = p / q % u := by rw [h1]; omega
  have hl := Nat.mod_lt p hqp
  refine ⟨?_, by omega, by omega⟩
  rw [e, Nat.mod_add_div (p / q) u, Nat.mul_comm, Nat.div_add_mod]
end Go.AL
/- MaskOnly, MaskFound. -/
namespace Go.AL
theorem mask_found_int {a b : Int} (ha : 0 ≤ a) (hb : 0 ≤ b) (h : undI a b) : MaskEq a b (mw a b).u (mw a b).p (mw a b).q (mw a b).z (mw a b).y (mw a b).r (mw a b).s (mw a b).t ∧ ∀ x ∈ (mw a b).X a b, 0 ≤ x := by
  obtain ⟨p1, p2, p3⟩ := mw_pos ha hb
  obtain ⟨u, hu⟩ : ∃ u : Nat, (mw a b).u = u := ⟨_, (Int.toNat_of_nonneg (show 0 ≤ (mw a b).u by omega)).symm⟩
  obtain ⟨p, hp⟩ : ∃ p : Nat, (mw a b).p = p := ⟨_, (Int.toNat_of_nonneg (show 0 ≤ (mw a b).p by omega)).symm⟩
  obtain ⟨q, hq⟩ : ∃ q : Nat, (mw a b).q = q := ⟨_, (Int.toNat_of_nonneg (show 0 ≤ (mw a b).q by omega)).symm⟩
  obtain ⟨a, rfl⟩ := Int.eq_ofNat_of_zero_le ha
  obtain ⟨b, rfl⟩ := Int.eq_ofNat_of_zero_le hb
  have f0 : ((b : Int) + 1).toNat = b + 1 := by omega
  have e1 : (2 : Int) ^ ((b : Int) + 1).toNat = u := hu
  have e2 : ((mw (a : Int) b).u + 1) ^ (b : Int).toNat = p := hp
  have e3 : (mw (a : Int) b).u ^ (a : Int).toNat = q := hq
  rw [f0] at e1
  rw [hu, Int.toNat_natCast] at e2 e3
  have k1 : u = 2 ^ (b + 1) := by exact_mod_cast e1.symm
  have k2 : p = (u + 1) ^ b := by exact_mod_cast e2.symm
  have k3 : q = u ^ a := by exact_mod_cast e3.symm
  obtain ⟨o1, o2, o3⟩ := mask_found k1 k2 k3 h
  have hqp : 0 < q := by omega
  have hup : 0 < u := by omega
  have hl := Nat.mod_lt p hqp
  have hl2 := Nat.mod_lt (p / q) hup
  have m4 : (mw (a : Int) b).z = ((p / q % u / 2 : Nat) : Int) := by
    show (mw (a : Int) b).p / (mw (a : Int) b).q % (mw (a : Int) b).u / 2 = _
    rw [hu, hp, hq]; push_cast; rfl
  have m5 : (mw (a : Int) b).y = ((p / q / u : Nat) : Int) := by
    show (mw (a : Int) b).p / (mw (a : Int) b).q / (mw (a : Int) b).u = _
    rw [hu, hp, hq]; push_cast; rfl
  have m6 : (mw (a : Int) b).r = ((p % q : Nat) : Int) := by
    show (mw (a : Int) b).p % (mw (a : Int) b).q = _
    rw [hp, hq]; push_cast; rfl
  have m7 : (mw (a : Int) b).s = ((q - p % q - 1 : Nat) : Int) := by
    show (mw (a : Int) b).q - (mw (a : Int) b).r - 1 = _
    rw [hq, m6]; omega
  have m8 : (mw (a : Int) b).t = ((u - p / q % u - 1 : Nat) : Int) := by
    show (mw (a : Int) b).u - (mw (a : Int) b).p / (mw (a : Int) b).q % (mw (a : Int) b).u - 1 = _
    have : (mw (a : Int) b).p / (mw (a : Int) b).q % (mw (a : Int) b).u = ((p / q % u : Nat) : Int) := by rw [hu, hp, hq]; push_cast; rfl
    rw [this, hu]; omega
  constructor
  · unfold MaskEq
    rw [hu, hp, hq, m4, m5, m6, m7, m8, f0, Int.toNat_natCast, Int.toNat_natCast]
    refine ⟨⟨by omega, e1⟩, ⟨by omega, by omega, e2⟩, ⟨by omega, by omega, e3⟩, ?_, ?_, ?_⟩
    · exact_mod_cast o1
    · exact_mod_cast o2
    · exact_mod_cast o3
  · unfold MW.X
    rw [hu, hp, hq, m4, m5, m6, m7, m8]
    simp only [List.forall_mem_cons]
    exact ⟨Int.natCast_nonneg _, Int.natCast_nonneg _, Int.natCast_nonneg _, Int.natCast_nonneg _, Int.natCast_nonneg _, Int.natCast_nonneg _, Int.natCast_nonneg _, Int.natCast_nonneg _, Int.natCast_nonneg _, Int.natCast_nonneg _, by simp⟩
theorem toW_small {x : Nat} (h : x < 4294967296) : (toW (x : Int)).length ≤ 1 := (toW_len_le (by omega) 1).2 (by rw [BB_succ, BB_zero]; omega)
theorem mask_small {a b : Int} (ha : 0 ≤ a) (hb : 0 ≤ b) (ha2 : a ≤ 120) (hb2 : b ≤ 120) (h : undI a b) : ∃ E : Nat, E ≤ 43000 ∧ ∀ x ∈ (mw a b).X a b, x.natAbs ≤ 2 ^ E ∧ Fit x := by
  obtain ⟨h1, h2⟩ := mask_found_int ha hb h
  obtain ⟨p1, p2, p3⟩ := mw_pos ha hb
  have hu : (mw a b).u ≤ 2 ^ 121 := pow_le_r (by omega) (by omega)
  have hu2 : (mw a b).u + 1 ≤ 2 ^ 122 := by
    have : (2 : Int) ^ 122 = 2 * 2 ^ 121 := by rw [Int.pow_succ]; omega
    omega
  obtain ⟨E, hE⟩ : ∃ E : Nat, E = 15000 := ⟨_, rfl⟩
  have hp : (mw a b).p ≤ 2 ^ E := by
    show ((mw a b).u + 1) ^ b.toNat ≤ _
    have h2 : ((mw a b).u + 1) ^ b.toNat ≤ (2 ^ 122) ^ b.toNat := pow_le_l (by omega) hu2 _
    rw [← Int.pow_mul] at h2
    exact Int.le_trans h2 (pow_le_r (by omega) (by omega))
  have hq : (mw a b).q ≤ 2 ^ E := by
    show (mw a b).u ^ a.toNat ≤ _
    have h2 : (mw a b).u ^ a.toNat ≤ (2 ^ 121) ^ a.toNat := pow_le_l (by omega) hu _
    rw [← Int.pow_mul] at h2
    exact Int.le_trans h2 (pow_le_r (by omega) (by omega))
  have hu3 : (mw a b).u ≤ 2 ^ E := Int.le_trans hu (pow_le_r (by omega) (by omega))
  have hc : (300 : Int) ≤ 2 ^ E := Int.le_trans (by decide : (300 : Int) ≤ 2 ^ 9) (pow_le_r (by omega) (by omega))
  obtain ⟨_, _, _, e4, e5, e6⟩ := h1
  have hX : (mw a b).X a b = [a, b, (mw a b).u, (mw a b).p, (mw a b).q, (mw a b).z, (mw a b).y, (mw a b).r, (mw a b).s, (mw a b).t] := rfl
  have hy : (mw a b).y ≤ (mw a b).p := by
    show (mw a b).p / (mw a b).q / (mw a b).u ≤ _
    exact Int.le_trans (Int.ediv_le_self _ (Int.ediv_nonneg (by omega) (by omega))) (Int.ediv_le_self _ (by omega))
  have hle : ∀ x ∈ (mw a b).X a b, x ≤ 2 ^ E := by
    rw [hX] at h2 ⊢
    simp only [List.forall_mem_cons] at h2 ⊢
    obtain ⟨g0, g1, g2, g3, g4, g5, g6, g7, g8, g9, _⟩ := h2
    exact ⟨by omega, by omega, hu3, hp, hq, by omega, by omega, by omega, by omega, by omega, by simp⟩
  refine ⟨E, by rw [hE]; decide, fun x hx => ?_⟩
  have h0 := h2 x hx
  have hl := hle x hx
  refine ⟨?_, fit_pow2 h0 hl (by omega)⟩
  have h4 : x.natAbs ≤ 2 ^ E := by
    have : ((x.natAbs : Nat) : Int) ≤ ((2 ^ E : Nat) : Int) := by
      rw [Int.natCast_pow]
      show ((x.natAbs : Nat) : Int) ≤ (2 : Int) ^ E
      omega
    exact Int.ofNat_le.1 this
  exact h4
end Go.AL
namespace Go.Proofs.YtcaecieigoplbaaGreat
open Go.AL
theorem mask_yes (a b : Int) (ha : 0 ≤ a) (hb : 0 ≤ b) (ha2 : a ≤ 120) (hb2 : b ≤ 120) (h : undI a b) : PureFn Tryz.prog 25 [aS mkS, .sl 2 eX ((mw a b).X a b)] (.tup [aB true, aN 0]) := by
  obtain ⟨h1, h2⟩ := mask_found_int ha hb h
  obtain ⟨E, hE, hs⟩ := mask_small ha hb ha2 hb2 h
  exact Holds_yes mkS _ mkS_w mkS_ok (fun x hx => (hs x hx).2) rfl h2 (mk_ev hE rfl fun x hx => (hs x hx).1) ((mk_hol _ _ _ _ _ _ _ _ _ _).2 h1)
theorem awake12_ok : PureFn Tryz.prog 22 [] (aB true) := by
  refine PureFn.of_body Tryz.func22 rfl Tryz.ntmps22 rfl rfl ?_
  have u11 : undI 1 1 := rfl
  have u12 : ¬ undI 1 2 := by unfold undI; decide
  have c1 := mWitness_ok 1 1 (by omega) (by omega) (by omega) (by omega) u11
  have c2 := mask_yes 1 1 (by omega) (by omega) (by omega) (by omega) u11
  obtain ⟨L, hL⟩ : ∃ L, L = (mw 1 1).X 1 1 := ⟨_, rfl⟩
  have hLl : L.length = 10 := by rw [hL]; rfl
  have g3 : L[(3 : Int).toNat]? = some 5 := by rw [hL]; rfl
  have g9 : L[(9 : Int).toNat]? = some 2 := by rw [hL]; rfl
  rw [← hL] at c1 c2
  refine AWP.seqS ?_
  repeat' (first |refine Fl.v rfl rfl rfl ?_ |refine Fl.nilF ?_ |refine AWP.region ?_ |fail)
  refine ⟨AWP.seqS ?_⟩
  repeat' (first |refine AWP.region ?_ |fail)
  refine Fl.call rfl (c1) rfl rfl rfl (LeL.refl _) ?_
  repeat' (first |refine Fl.v rfl rfl rfl ?_ |refine Fl.nilF ?_ |fail)
  refine ⟨AWP.seqS ?_⟩
  repeat' (first |refine AWP.region ?_ |fail)
  refine Fl.call rfl (maskLinks_ok) rfl rfl rfl (LeL.refl _) ?_
  repeat' (first |refine Fl.v rfl rfl rfl ?_ |fail)
  refine Fl.call rfl (c2) rfl rfl rfl (LeL.refl _) ?_
  repeat' (first |refine Fl.v rfl rfl rfl ?_ |refine Fl.nilF ?_ |fail)
  refine ⟨AWP.seqS ?_⟩
  repeat' (first |refine AWP.region ?_ |fail)
  refine Fl.call rfl (mWitness_none 1 2 (by omega) (by omega) (by omega) (by omega) u12) rfl rfl rfl (LeL.refl _) ?_
  repeat' (first |refine Fl.v rfl rfl rfl ?_ |refine Fl.nilF ?_ |fail)
  refine ⟨?_⟩
  repeat' (first |refine Fl.v rfl rfl rfl ?_ |refine AWP.seq ?_ |refine AWP.region ?_ |refine Fl.elK rfl rfl rfl rfl rfl rfl rfl rfl (by assumption) (by omega) ?_ |(refine Fl.splitD rfl rfl ?_ ?_ <;> intro _ <;> try (exfalso; omega)) |fail)
  refine Fl.call rfl (rOf_ok 5 (by omega) (by omega)) rfl rfl rfl (LeL.refl _) ?_
  skip
  refine Fl.call rfl (rSame_ok 5 5 (Nat.le_trans (toW_small (x := 5) (by omega)) (by omega))) rfl rfl rfl (LeL.refl _) ?_
  repeat' (first |refine Fl.v rfl rfl rfl ?_ |refine Fl.elK rfl rfl rfl rfl rfl rfl rfl rfl (by assumption) (by omega) ?_ |(refine Fl.splitD rfl rfl ?_ ?_ <;> intro _ <;> try (exfalso; omega)) |fail)
  refine Fl.call rfl (rOf_ok 2 (by omega) (by omega)) rfl rfl rfl (LeL.refl _) ?_
  skip
  refine Fl.call rfl (rSame_ok 2 2 (Nat.le_trans (toW_small (x := 2) (by omega)) (by omega))) rfl rfl rfl (LeL.refl _) ?_
  repeat' (first |refine Fl.v rfl rfl rfl ?_ |refine Fl.nil (fun _ => by kernel_rfl) ?_ |refine AWP.ret ?_ |fail)
  exact RetOk.of rfl (AV.Le.refl _)
end Go.Proofs.YtcaecieigoplbaaGreat
/- MaskFound. -/
namespace Go.Proofs.YtcaecieigoplbaaGreat
open Go.AL
set_option maxHeartbeats 1000000 in
theorem MaskFound_ok (a b : Int) (ha0 : 0 ≤ a) (ha1 : a ≤ 255) (hb0 : 0 ≤ b) (hb1 : b ≤ 255) : PureFn Tryz.prog 5 [.v (.int .u8 a), .v (.int .u8 b)] (aB true) := by
  refine PureFn.of_body Tryz.func5 rfl Tryz.ntmps5 rfl rfl ?_
  refine AWP.seqS ?_
  repeat' (first |refine Fl.v rfl rfl rfl ?_ |refine Fl.nilF ?_ |refine AWP.region ?_ |fail)
  refine ⟨AWP.seqJ (G := Int × Int) (fun (n, k) => 0 ≤ n ∧ n ≤ 120 ∧ 0 ≤ k ∧ k ≤ 120) (fun (n, k) => St.of [] [(5, aN n), (6, aN k)] []) ?_ ?_⟩
  · repeat' (first |refine Fl.v rfl rfl rfl ?_ |refine Fl.nilF ?_ |refine AWP.region ?_ |refine Fl.w rfl rfl rfl (by first | exact True.intro | omega) ?_ |refine Fl.cvS rfl rfl rfl rfl rfl rfl ?_ |fail)
    refine JoinOk.of (a % 121, b % 121) ⟨by omega, by omega, by omega, by omega⟩ ?_
    refine Ent.of [] ?_ ?_ rfl rfl
    repeat' (first | exact True.intro |refine ⟨⟨AV.Le.refl _, rfl⟩, ?_⟩ |refine ⟨⟨AV.Le.any _, rfl⟩, ?_⟩ |refine ⟨⟨⟨_, rfl, BLe.cells (LeL.refl _)⟩, rfl⟩, ?_⟩ |refine ⟨⟨⟨_, rfl, BLe.row rfl⟩, rfl⟩, ?_⟩ |refine ⟨⟨⟨_, rfl, BLe.row ?_⟩, rfl⟩, ?_⟩ |refine ⟨⟨⟨_, rfl, BLe.cells ?_⟩, rfl⟩, ?_⟩ |refine ⟨⟨AV.Le.int ?_, rfl⟩, ?_⟩ |refine ⟨⟨AV.Le.bool ?_, rfl⟩, ?_⟩ |refine ⟨⟨AV.Le.sl ?_, rfl⟩, ?_⟩ |refine ⟨⟨AV.Le.of_eq ?_, rfl⟩, ?_⟩ | fail)
    · omega
    · omega
  intro ⟨n, k⟩ ⟨n0, n1, k0, k1⟩
  have fn : Fit n := fit_small (by omega) (by omega)
  have fk : Fit k := fit_small (by omega) (by omega)
  have ln := fn.len
  have lk := fk.len
  have en : ((n.natAbs : Nat) : Int) = n := by omega
  have ek : ((k.natAbs : Nat) : Int) = k := by omega
  by_cases hun : undI n k
  · obtain ⟨L, hL⟩ : ∃ L, L = (mw n k).X n k := ⟨_, rfl⟩
    have hLl : L.length = 10 := by rw [hL]; rfl
    have g0 : L[(0 : Int).toNat]? = some n := by rw [hL]; rfl
    have g1 : L[(1 : Int).toNat]? = some k := by rw [hL]; rfl
    have c1 := mWitness_ok n k n0 k0 (by omega) (by omega) hun
    have c2 := mask_yes n k n0 k0 n1 k1 hun
    rw [← hL] at c1 c2
    have c3 := rUnder_ok n k n0 k0 (by rw [en] at ln; omega) (by rw [ek] at lk; omega) true ⟨fun _ => hun, fun _ => rfl⟩
    refine AWP.seqS ?_
    repeat' (first |refine Fl.v rfl rfl rfl ?_ |refine AWP.region ?_ |fail)
    refine Fl.call rfl (c1) rfl rfl rfl (LeL.refl _) ?_
    repeat' (first |refine Fl.v rfl rfl rfl ?_ |refine Fl.nilF ?_ |fail)
    refine ⟨AWP.seqS ?_⟩
    repeat' (first |refine Fl.v rfl rfl rfl ?_ |refine AWP.seq ?_ |refine AWP.region ?_ |fail)
    refine Fl.call rfl (rOf_ok n (by omega) (by omega)) rfl rfl rfl (LeL.refl _) ?_
    repeat' (first |refine Fl.v rfl rfl rfl ?_ |fail)
    refine Fl.call rfl (rOf_ok k (by omega) (by omega)) rfl rfl rfl (LeL.refl _) ?_
    skip
    refine Fl.call rfl (c3) rfl rfl rfl (LeL.refl _) ?_
    repeat' (first |refine Fl.v rfl rfl rfl ?_ |refine Fl.nilF ?_ |refine AWP.condF rfl ?_ |refine AWP.skip ?_ |fail)
    refine ⟨AWP.seqS ?_⟩
    repeat' (first |refine AWP.region ?_ |fail)
    refine Fl.call rfl (maskLinks_ok) rfl rfl rfl (LeL.refl _) ?_
    repeat' (first |refine Fl.v rfl rfl rfl ?_ |fail)
    refine Fl.call rfl (c2) rfl rfl rfl (LeL.refl _) ?_
    repeat' (first |refine Fl.v rfl rfl rfl ?_ |refine Fl.nilF ?_ |fail)
    refine ⟨?_⟩
    repeat' (first |refine Fl.v rfl rfl rfl ?_ |refine AWP.seq ?_ |refine AWP.region ?_ |refine Fl.elK rfl rfl rfl rfl rfl rfl rfl rfl (by assumption) (by omega) ?_ |(refine Fl.splitD rfl rfl ?_ ?_ <;> intro _ <;> try (exfalso; omega)) |fail)
    refine Fl.call rfl (rOf_ok n (by omega) (by omega)) rfl rfl rfl (LeL.refl _) ?_
    skip
    refine Fl.call rfl (rSame_ok n n (by omega)) rfl rfl rfl (LeL.refl _) ?_
    repeat' (first |refine Fl.v rfl rfl rfl ?_ |refine Fl.elK rfl rfl rfl rfl rfl rfl rfl rfl (by assumption) (by omega) ?_ |(refine Fl.splitD rfl rfl ?_ ?_ <;> intro _ <;> try (exfalso; omega)) |fail)
    refine Fl.call rfl (rOf_ok k (by omega) (by omega)) rfl rfl rfl (LeL.refl _) ?_
    skip
    refine Fl.call rfl (rSame_ok k k (by omega)) rfl rfl rfl (LeL.refl _) ?_
    repeat' (first |refine Fl.v rfl rfl rfl ?_ |(refine Fl.splitD rfl rfl ?_ ?_ <;> intro _ <;> try (exfalso; omega)) |fail)
    refine Fl.call rfl (awake12_ok) rfl rfl rfl (LeL.refl _) ?_
    repeat' (first |refine Fl.v rfl rfl rfl ?_ |refine Fl.nil (fun _ => by kernel_rfl) ?_ |refine AWP.ret ?_ |fail)
    exact RetOk.of rfl (AV.Le.refl _)
  · have c1 := mWitness_none n k n0 k0 (by omega) (by omega) hun
    have c3 := rUnder_ok n k n0 k0 (by rw [en] at ln; omega) (by rw [ek] at lk; omega) false ⟨fun h => (by cases h), fun h => absurd h hun⟩
    refine AWP.seqS ?_
    repeat' (first |refine Fl.v rfl rfl rfl ?_ |refine AWP.region ?_ |fail)
    refine Fl.call rfl (c1) rfl rfl rfl (LeL.refl _) ?_
    repeat' (first |refine Fl.v rfl rfl rfl ?_ |refine Fl.nilF ?_ |fail)
    refine ⟨AWP.seqS ?_⟩
    repeat' (first |refine Fl.v rfl rfl rfl ?_ |refine AWP.seq ?_ |refine AWP.region ?_ |fail)
    refine Fl.call rfl (rOf_ok n (by omega) (by omega)) rfl rfl rfl (LeL.refl _) ?_
    repeat' (first |refine Fl.v rfl rfl rfl ?_ |fail)
    refine Fl.call rfl (rOf_ok k (by omega) (by omega)) rfl rfl rfl (LeL.refl _) ?_
    skip
    refine Fl.call rfl (c3) rfl rfl rfl (LeL.refl _) ?_
    repeat' (first |refine Fl.v rfl rfl rfl ?_ |refine Fl.nilF ?_ |refine AWP.seq ?_ |refine AWP.region ?_ |refine AWP.condT rfl ?_ |(refine Fl.splitD rfl rfl ?_ ?_ <;> intro _ <;> try (exfalso; omega)) |fail)
    refine Fl.call rfl (awake12_ok) rfl rfl rfl (LeL.refl _) ?_
    repeat' (first |refine Fl.v rfl rfl rfl ?_ |refine Fl.nilF ?_ |refine AWP.ret ?_ |fail)
    exact RetOk.of rfl (AV.Le.refl _)
end Go.Proofs.YtcaecieigoplbaaGreat

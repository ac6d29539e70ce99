/- Part 6 of a proof layer and of the contracts of the functions (XR3 XR6 XQ0 XRG XRH XRI XRJ XRK XRL XV0 XV1 XV2 XU1 XRM XRN XRO XV3 XRV XRP XV4 XRU XV5 XL0 XL1 XL2 XL3 XL4 XV7). -/
import Derived.Test.YtcaecieigoplbaaGreatW5
set_option linter.unusedVariables false
set_option linter.unusedSimpArgs false
/- Sums by inspection: the lists that are asked for. -/
namespace Go.AL
theorem sorted_ext : ∀ {a b : List TZ}, a.Pairwise (fun x y => ordI x.e y.e < 0) → b.Pairwise (fun x y => ordI x.e y.e < 0) → (∀ t, t ∈ a ↔ t ∈ b) → a = b
  | [], [], _, _, _ => rfl
  | [], y :: b, _, _, h => by have := (h y).2 (by simp); cases this
  | x :: a, [], _, _, h => by have := (h x).1 (by simp); cases this
  | x :: a, y :: b, ha, hb, h => by
    rw [List.pairwise_cons] at ha hb
    have irr : ∀ t : TZ, ¬ ordI t.e t.e < 0 := fun t k => by rw [ordI_refl] at k; omega
    have hxy : x = y := by
      rcases List.mem_cons.1 ((h x).1 (by simp)) with h1 | h1
      · exact h1
      · rcases List.mem_cons.1 ((h y).2 (by simp)) with h2 | h2
        · exact h2.symm
        · exact absurd (ordI_trans (hb.1 x h1) (ha.1 y h2)) (irr y)
    subst hxy
    rw [sorted_ext ha.2 hb.2 fun t => ?_]
    constructor
    · intro ht
      rcases List.mem_cons.1 ((h t).1 (by simp [ht])) with h1 | h1
      · subst h1; exact absurd (ha.1 t ht) (irr t)
      · exact h1
    · intro ht
      rcases List.mem_cons.1 ((h t).2 (by simp [ht])) with h1 | h1
      · subst h1; exact absurd (hb.1 t ht) (irr t)
      · exact h1
def sortedU : List UT → Bool
  | [] => true
  | u :: l => l.all (fun v => decide (ordI u.2 v.2 < 0)) && sortedU l
theorem sortedU_pw : ∀ {l : List UT}, sortedU l = true → l.Pairwise fun u v => ordI u.2 v.2 < 0
  | [], _ => List.Pairwise.nil
  | u :: l, h => by
    simp only [sortedU, Bool.and_eq_true, List.all_eq_true, decide_eq_true_eq] at h
    exact List.pairwise_cons.2 ⟨h.1, sortedU_pw h.2⟩
def okU (V : Nat) (u : UT) : Bool := Nat.beq u.2.length V && u.2.all fun x => decide (0 ≤ x) && decide (x ≤ 120)
def chkU (V : Nat) (us l : List UT) : Bool :=
  us.all (okU V) && l.all (fun u => okU V u && decide (u.1 ≠ 0) && decide (sumL u.2 ≤ 120)) && sortedU l && decide (l.length ≤ 3000) && decide (absU us < 4294967296) && decide (absU l < 4294967296) && us.all (fun u => decide (cfU us u.2 = cfU l u.2)) && l.all (fun u => decide (cfU us u.2 = cfU l u.2))
theorem okU_ok {V : Nat} {u : UT} (h : okU V u = true) : u.2.length = V ∧ EOk u.2 := by
  simp only [okU, Bool.and_eq_true, List.all_eq_true, decide_eq_true_eq] at h
  exact ⟨Nat.eq_of_beq_eq_true h.1, fun e he => h.2 e he⟩
theorem cfU_zero : ∀ {us : List UT} {e : List Int}, (∀ u ∈ us, u.2 ≠ e) → cfU us e = 0
  | [], _, _ => rfl
  | u :: us, e, h => by
    simp only [cfU, if_neg (h u (by simp)), cfU_zero (us := us) fun v hv => h v (by simp [hv])]
    rfl
theorem cfU_one : ∀ {l : List UT} {u : UT}, l.Pairwise (fun u v => ordI u.2 v.2 < 0) → u ∈ l → cfU l u.2 = u.1
  | v :: l, u, hp, hu => by
    rw [List.pairwise_cons] at hp
    rcases List.mem_cons.1 hu with rfl | hu
    · simp only [cfU, if_true]
      rw [cfU_zero (us := l) fun w hw k => by have := hp.1 w hw; rw [k, ordI_refl] at this; omega]
      omega
    · have := hp.1 u hu
      have hne : ¬ v.2 = u.2 := fun k => by rw [k, ordI_refl] at this; omega
      simp only [cfU, if_neg hne, cfU_one hp.2 hu]
      omega
theorem cfU_mem {us : List UT} {e : List Int} (h : cfU us e ≠ 0) : ∃ u ∈ us, u.2 = e := by
  rcases Classical.em (∃ u ∈ us, u.2 = e) with k | k
  · exact k
  · exact absurd (cfU_zero fun u hu he => k ⟨u, hu, he⟩) h
theorem absU_mem : ∀ {l : List UT} {u : UT}, u ∈ l → u.1.natAbs ≤ absU l
  | v :: l, u, h => by
    rcases List.mem_cons.1 h with rfl | h
    · simp only [absU]; omega
    · have := absU_mem h; simp only [absU]; omega
theorem chkU_ok {V : Nat} (hV : V ≤ 32) {us l : List UT} (h : chkU V us l = true) : SumOk V us (mkP V l) := by
  simp only [chkU, Bool.and_eq_true, List.all_eq_true, decide_eq_true_eq] at h
  obtain ⟨⟨⟨⟨⟨⟨⟨h1, h2⟩, h3⟩, h4⟩, h5⟩, h6⟩, h7⟩, h8⟩ := h
  have hus : UOk V us := fun u hu => okU_ok (h1 u hu)
  have hpw := sortedU_pw h3
  obtain ⟨s, r1, r2, r3⟩ := runM_cf hV us ([], 0) [] (MOk.nil V) hus (fun e _ => by simp [getM, findM, cfU]) (by simp only [absU]; omega)
  simp only [List.nil_append] at r3
  have hstr : (sortT (s.1.map (tmM V))).Pairwise fun a b => ordI a.e b.e < 0 := by
    have p1 := sortT_sorted (s.1.map (tmM V))
    have p2 := (List.Perm.pairwise_iff (fun h => Ne.symm h) (sortT_perm (s.1.map (tmM V)))).2 r2.parts
    refine (p1.and p2).imp fun {a b} hab => ?_
    rcases leT_iff.1 hab.1 with k | k
    · exact k
    · exact absurd k hab.2
  have hget : ∀ p ∈ s.1, getM p.1 s.1 = p.2.1 := by
    intro p hp
    obtain ⟨A, B, hAB⟩ := List.append_of_mem hp
    have hk := r2.keys
    rw [hAB] at hk ⊢
    rw [List.pairwise_append] at hk
    exact getM_of rfl fun q hq => hk.2.2 q hq p (by simp)
  have hl : sortT (s.1.map (tmM V)) = l.map tz := by
    refine sorted_ext hstr (by rw [List.pairwise_map]; exact hpw) fun t => ?_
    rw [(sortT_perm _).mem_iff]
    constructor
    · intro ht
      obtain ⟨p, hp, rfl⟩ := List.mem_map.1 ht
      obtain ⟨e, he, k1, k2, k3⟩ := r2.exp p hp
      have hc : cfU us e = p.2.1 := by
        rw [← r3 e k2, exK_eq he, ← k1]; exact hget p hp
      obtain ⟨u, hu, hue⟩ := cfU_mem (us := us) (e := e) (by rw [hc]; exact r2.nz p hp)
      have hc2 : cfU l e = p.2.1 := by rw [← hc, ← hue]; exact (h7 u hu).symm
      obtain ⟨v, hv, hve⟩ := cfU_mem (us := l) (e := e) (by rw [hc2]; exact r2.nz p hp)
      have hv1 := cfU_one hpw hv
      rw [hve, hc2] at hv1
      refine List.mem_map.2 ⟨v, hv, ?_⟩
      have he2 := tmM_exp k1 k2
      show (⟨zOf v.1, v.2⟩ : TZ) = tmM V p
      rw [← hv1, hve]
      show (⟨zOf p.2.1, e⟩ : TZ) = ⟨zOf p.2.1, (tmM V p).e⟩
      rw [he2]
    · intro ht
      obtain ⟨v, hv, rfl⟩ := List.mem_map.1 ht
      have hv2 := h2 v hv
      obtain ⟨hl1, _⟩ := okU_ok hv2.1.1
      have hc : getM (exK v.2) s.1 = v.1 := by rw [r3 _ hl1, h8 v hv]; exact cfU_one hpw hv
      unfold getM at hc
      cases hf : findM (exK v.2) s.1 0 with
      | none => rw [hf] at hc; exact absurd hc.symm hv2.1.2
      | some q =>
        obtain ⟨j, p⟩ := q
        rw [hf] at hc
        have hc : p.2.1 = v.1 := hc
        obtain ⟨_, g1, g2⟩ := findM_get hf
        refine List.mem_map.2 ⟨p, List.mem_of_getElem? g1, ?_⟩
        have h32 : v.2.length ≤ 32 := by omega
        have he2 := tmM_exp (V := V) (p := p) (he := h32) (by rw [← exK_eq h32]; exact g2) hl1
        show (⟨zOf p.2.1, (tmM V p).e⟩ : TZ) = ⟨zOf v.1, v.2⟩
        rw [he2, hc]
  refine ⟨s, r1, by rw [hl]; rfl, ⟨by simp [mkP], by simp [mkP]; omega, by simpa [mkP] using h4, fun t ht => ?_, fun i a b ha hb => ?_⟩⟩
  · obtain ⟨v, hv, rfl⟩ := List.mem_map.1 ht
    obtain ⟨⟨k1, k2⟩, k3⟩ := h2 v hv
    obtain ⟨hl1, hl2⟩ := okU_ok k1
    have hb := absU_mem hv
    have hf : Fit v.1 := fit_small (by omega) (by omega)
    refine ⟨okZ_zOf hf, fun hz => k2 ?_, by simp [mkP, hl1], hl2, k3⟩
    have := (toW_nil_iff (show (0 : Int) ≤ v.1.natAbs by omega)).1 (List.eq_nil_of_length_eq_zero hz)
    omega
  · simp only [mkP, List.getElem?_map, Option.map_eq_some_iff] at ha hb
    obtain ⟨u, hu, rfl⟩ := ha
    obtain ⟨v, hv, rfl⟩ := hb
    rw [List.pairwise_iff_getElem] at hpw
    have hi := (List.getElem?_eq_some_iff.1 hu)
    have hj := (List.getElem?_eq_some_iff.1 hv)
    have := hpw i (i + 1) hi.1 hj.1 (by omega)
    rw [hi.2, hj.2] at this
    exact this
theorem plusU_mk (b : Int) (V : Nat) (a l : List UT) : plusU b (mkP V a) (mkP V l) = a ++ l.map fun u => (u.1 * b, u.2) := by
  unfold plusU mkP
  simp only [List.map_map]
  congr 1
  · conv => rhs; rw [← List.map_id a]
    exact List.map_congr_left fun u _ => by show (zval (zOf u.1), u.2) = u; rw [zval_zOf]
  · exact List.map_congr_left fun u _ => by show (zval (zOf u.1) * b, u.2) = _; rw [zval_zOf]
theorem timesU_mk (V : Nat) (a l : List UT) : timesU (mkP V a) (mkP V l) = a.flatMap fun t => l.map fun u => (t.1 * u.1, addE t.2 u.2) := by
  unfold timesU mkP rowU
  rw [List.flatMap_map]
  congr 1
  funext t
  rw [List.map_map]
  refine List.map_congr_left fun u _ => ?_
  show (zval (zOf t.1) * zval (zOf u.1), addE t.2 u.2) = _
  rw [zval_zOf, zval_zOf]
end Go.AL
/- Add and Mul of polynomials with few small numbers. -/
namespace Go.AL
/-- one term more -/
def insU (u : UT) : List UT → List UT
  | [] => if u.1 = 0 then [] else [u]
  | v :: l => if ordI u.2 v.2 < 0 then (if u.1 = 0 then v :: l else u :: v :: l) else if u.2 = v.2 then (if u.1 + v.1 = 0 then l else (u.1 + v.1, u.2) :: l) else v :: insU u l
def canU (us : List UT) : List UT := us.foldr insU []
def addUs (b : Int) (p q : List UT) : List UT := p ++ q.map fun u => (u.1 * b, u.2)
def mulUs (p q : List UT) : List UT := p.flatMap fun t => q.map fun u => (t.1 * u.1, addE t.2 u.2)
def addL (p q : List UT) : List UT := canU (addUs 1 p q)
def subL (p q : List UT) : List UT := canU (addUs (-1) p q)
def mulL2 (p q : List UT) : List UT := canU (mulUs p q)
theorem mk_ok {V : Nat} (hV : V ≤ 32) {l : List UT} (h : chkU V l l = true) : OkP (mkP V l) ∧ (mkP V l).vars = V ∧ WP (mkP V l) := (chkU_ok hV h).okp
def degU (p q : List UT) : Bool := match p, q with
  | t :: _, u :: _ => decide (sumL t.2 + sumL u.2 ≤ 120)
  | _, _ => true
theorem degU_ok {V : Nat} {p q : List UT} (h : degU p q = true) : DegOk (mkP V p) (mkP V q) := by
  intro t u ht hu
  cases p with
  | nil => simp [mkP] at ht
  | cons a p =>
    cases q with
    | nil => simp [mkP] at hu
    | cons b q =>
      simp only [mkP, List.map_cons, List.getElem?_cons_zero, Option.some.injEq] at ht hu
      subst ht hu
      simpa [degU] using h
end Go.AL
namespace Go.Proofs.YtcaecieigoplbaaGreat
open Go.AL
/-- the sum, by inspection -/
theorem addMk (V : Nat) (hV : V ≤ 32) (p q l : List UT) (hp : chkU V p p = true) (hq : chkU V q q = true) (h : chkU V (addUs 1 p q) l = true) : PureFn Tryz.prog 137 [aP (mkP V p), aP (mkP V q)] (.tup [aP (mkP V l), aN 0]) := by
  obtain ⟨p1, p2, p3⟩ := mk_ok hV hp
  obtain ⟨q1, q2, q3⟩ := mk_ok hV hq
  have hs : SumOk V (plusU 1 (mkP V p) (mkP V q)) (mkP V l) := by rw [plusU_mk]; exact chkU_ok hV h
  exact pAdd_ok V hV _ _ p3 q3 p1 q1 p2 q2 _ (fun x hx => by rw [hs.uniq hx]) (fun k => absurd ⟨_, hs⟩ k)
/-- the product, by inspection -/
theorem mulMk (V : Nat) (hV : V ≤ 32) (p q l : List UT) (hp : chkU V p p = true) (hq : chkU V q q = true) (hd : degU p q = true) (h : chkU V (mulUs p q) l = true) : PureFn Tryz.prog 138 [aP (mkP V p), aP (mkP V q)] (.tup [aP (mkP V l), aN 0]) := by
  obtain ⟨p1, p2, p3⟩ := mk_ok hV hp
  obtain ⟨q1, q2, q3⟩ := mk_ok hV hq
  have hs : SumOk V (timesU (mkP V p) (mkP V q)) (mkP V l) := by rw [timesU_mk]; exact chkU_ok hV h
  have hpr : ∀ t ∈ (mkP V p).terms, ∀ u ∈ (mkP V q).terms, Fit (zval t.c * zval u.c) := by
    intro t ht u hu
    obtain ⟨a, ha, rfl⟩ := List.mem_map.1 ht
    obtain ⟨b, hb, rfl⟩ := List.mem_map.1 hu
    show Fit (zval (zOf a.1) * zval (zOf b.1))
    rw [zval_zOf, zval_zOf]
    have hm : (a.1 * b.1, addE a.2 b.2) ∈ mulUs p q := List.mem_flatMap.2 ⟨a, ha, List.mem_map.2 ⟨b, hb, rfl⟩⟩
    have h1 := absU_mem hm
    simp only [chkU, Bool.and_eq_true, decide_eq_true_eq] at h
    exact fit_small (by simp only at h1; omega) (by simp only at h1; omega)
  have hP : ProdOk V (mkP V p) (mkP V q) (mkP V l) := ⟨degU_ok hd, hpr, hs⟩
  exact pMul_ok V hV _ _ p3 q3 p1 q1 p2 q2 _ (fun x hx => by rw [hs.uniq hx.2.2]) (fun k => absurd ⟨_, hP⟩ k)
end Go.Proofs.YtcaecieigoplbaaGreat
/- poly.Sub. (Not built yet: needs a seat that reaches it.) -/
namespace Go.Proofs.YtcaecieigoplbaaGreat
open Go.AL
theorem fit_m1 : Fit (-1) := fit_small (by omega) (by omega)
theorem Sub1_io (V : Nat) (hV : V ≤ 32) (p q : PZ) (hwp : WP p) (hwq : WP q) (hp : OkP p) (hq : OkP q) (hpv : p.vars = V) (hqv : q.vars = V) (res : Res)
    (hr1 : ∀ r, SumOk V (plusU (-1) p q) r → res = .ret (aP r)) (hr2 : (¬ ∃ r, SumOk V (plusU (-1) p q) r) → res = .thr (thrown 4)) :
    IoFn Tryz.prog 203 [.ptr 900 0, .ptr 901 0] (bPQ p q) res (bPQ p q) := by
  have h := plus_io V hV p q (-1) fit_m1 hwp hwq hp hq hpv hqv (fun t ht => (okZ_eq (hwq t ht) (hq.terms t ht).coef).2.le (by omega)) res hr1 hr2
  refine IoFn.of_body Tryz.func203 rfl Tryz.ntmps203 rfl rfl rfl ?_
  by_cases hg : ∃ r, SumOk V (plusU (-1) p q) r
  · obtain ⟨r, hr⟩ := hg
    have e1 := hr1 r hr
    subst e1
    repeat' (first |refine Fl.v rfl rfl rfl ?_ |refine Fl.nilF ?_ |refine AWP.seq ?_ |refine AWP.region ?_ |refine Fl.b rfl rfl rfl rfl ?_ |fail)
    refine Fl.call rfl (Of_ok (-1) (by omega) (by omega)) rfl rfl rfl (LeL.refl _) ?_
    skip
    refine Fl.io rfl [] h rfl rfl (LeL.refl _) rfl trivial rfl rfl rfl rfl rfl ?_
    repeat' (first |refine Fl.nil (fun _ => by kernel_rfl) ?_ |refine Fl.b rfl rfl rfl rfl ?_ |refine AWP.ret ?_ |fail)
    exact ⟨⟨[], _, _, Ent.refl _ _ _, rfl, AV.Le.refl _, rfl, ⟨⟨⟨_, rfl, BLe.cells (LeL.refl _)⟩, rfl⟩, ⟨⟨_, rfl, BLe.cells (LeL.refl _)⟩, rfl⟩, trivial⟩, rfl, rfl⟩⟩
  · have e1 := hr2 hg
    subst e1
    repeat' (first |refine Fl.v rfl rfl rfl ?_ |refine Fl.nilF ?_ |refine AWP.seq ?_ |refine AWP.region ?_ |refine Fl.b rfl rfl rfl rfl ?_ |fail)
    refine Fl.call rfl (Of_ok (-1) (by omega) (by omega)) rfl rfl rfl (LeL.refl _) ?_
    skip
    exact Fl.thrC rfl [] h rfl (LeL.refl _) rfl trivial rfl (fun _ => by kernel_rfl) (fun _ => rfl)
theorem pSub_ok (V : Nat) (hV : V ≤ 32) (p q : PZ) (hwp : WP p) (hwq : WP q) (hp : OkP p) (hq : OkP q) (hpv : p.vars = V) (hqv : q.vars = V) (r : AV)
    (hr1 : ∀ x, SumOk V (plusU (-1) p q) x → r = .tup [aP x, aN 0]) (hr2 : (¬ ∃ x, SumOk V (plusU (-1) p q) x) → r = .tup [aP ⟨0, []⟩, aN 4]) :
    PureFn Tryz.prog 161 [aP p, aP q] r := by
  refine PureFn.of_body Tryz.func161 rfl Tryz.ntmps161 rfl rfl ?_
  have hb := both_ok p q hwp hwq
  rw [bothE_ok hp hq, if_pos (hpv.trans hqv.symm)] at hb
  repeat' (first |refine Fl.v rfl rfl rfl ?_ |refine Fl.nilF ?_ |refine AWP.seq ?_ |refine AWP.region ?_ |refine Fl.b rfl rfl rfl rfl ?_ |fail)
  refine Fl.call rfl (hb) rfl rfl rfl (LeL.refl _) ?_
  repeat' (first |refine Fl.v rfl rfl rfl ?_ |refine Fl.nilF ?_ |refine AWP.seq ?_ |refine AWP.region ?_ |refine AWP.condF rfl ?_ |refine AWP.skip ?_ |fail)
  by_cases hg : ∃ x, SumOk V (plusU (-1) p q) x
  · obtain ⟨x, hx⟩ := hg
    rw [hr1 x hx]
    have hx' : ∀ y, SumOk V (plusU (-1) p q) y → (Res.ret (aP x)) = .ret (aP y) := fun y hy => by
      have := (hr1 x hx).symm.trans (hr1 y hy)
      injection this with this
      injection this with this
      rw [this]
    refine Fl.io rfl [(900, 2), (901, 3)] (tried_ret (Sub1_io V hV p q hwp hwq hp hq hpv hqv (.ret (aP x)) hx' (fun h => absurd ⟨x, hx⟩ h))) rfl rfl (LeL.refl _) rfl ⟨⟨⟨_, rfl, BLe.cells (LeL.refl _)⟩, rfl⟩, ⟨⟨_, rfl, BLe.cells (LeL.refl _)⟩, rfl⟩, trivial⟩ rfl rfl rfl rfl rfl ?_
    repeat' (first |refine Fl.v rfl rfl rfl ?_ |refine Fl.nilF ?_ |refine Fl.b rfl rfl rfl rfl ?_ |refine AWP.ret ?_ |fail)
    exact RetOk.of rfl (AV.Le.refl _)
  · rw [hr2 hg]
    refine Fl.io rfl [(900, 2), (901, 3)] (tried_thr (Sub1_io V hV p q hwp hwq hp hq hpv hqv _ (fun y hy => absurd ⟨y, hy⟩ hg) (fun _ => rfl))) rfl rfl (LeL.refl _) rfl ⟨⟨⟨_, rfl, BLe.cells (LeL.refl _)⟩, rfl⟩, ⟨⟨_, rfl, BLe.cells (LeL.refl _)⟩, rfl⟩, trivial⟩ rfl rfl rfl rfl rfl ?_
    repeat' (first |refine Fl.v rfl rfl rfl ?_ |refine Fl.nilF ?_ |refine Fl.b rfl rfl rfl rfl ?_ |refine AWP.ret ?_ |fail)
    exact RetOk.of rfl (AV.Le.refl _)
end Go.Proofs.YtcaecieigoplbaaGreat
/- poly.Var, poly.Const; expr's Kit: New, V, N, Sub, Add, Mul. -/
namespace Go.AL
def unU (V i : Nat) : List Int := (List.replicate V 0).set i 1
def varU (V i : Nat) : List UT := [(1, unU V i)]
def conU (V : Nat) (c : Int) : List UT := if c = 0 then [] else [(c, List.replicate V 0)]
/-- sums and products one after the other, and whether they stand by inspection -/
def okSums (V : Nat) : List UT → List (List UT) → Bool
  | acc, [] => chkU V acc acc
  | acc, p :: l => chkU V acc acc && chkU V p p && chkU V (addUs 1 acc p) (addL acc p) && okSums V (addL acc p) l
def okMuls (V : Nat) : List UT → List (List UT) → Bool
  | acc, [] => chkU V acc acc
  | acc, p :: l => chkU V acc acc && chkU V p p && degU acc p && chkU V (mulUs acc p) (mulL2 acc p) && okMuls V (mulL2 acc p) l
def sumsU (acc : List UT) (l : List (List UT)) : List UT := l.foldl addL acc
def mulsU (acc : List UT) (l : List (List UT)) : List UT := l.foldl mulL2 acc
end Go.AL
namespace Go.Proofs.YtcaecieigoplbaaGreat
open Go.AL
abbrev aK (V : Nat) : AV := .agg [aN V]

theorem pVarP_ok (V i : Nat) (hV : V ≤ 32) (hi : i < V) : PureFn Tryz.prog 135 [aN V, aN i] (.tup [aP (mkP V (varU V i)), aN 0]) := by
  refine PureFn.of_body Tryz.func135 rfl Tryz.ntmps135 rfl rfl ?_
  refine AWP.seqS ?_
  repeat' (first |refine Fl.v rfl rfl rfl ?_ |refine Fl.nilF ?_ |refine AWP.region ?_ |refine Fl.b rfl rfl rfl rfl ?_ |fail)
  refine ⟨AWP.seqS ?_⟩
  repeat' (first |refine Fl.v rfl rfl rfl ?_ |refine Fl.nilF ?_ |refine AWP.seq ?_ |refine AWP.region ?_ |(refine AWP.condD rfl ?_ ?_ <;> intro _ <;> try (exfalso; omega)) |refine AWP.skip ?_ |(refine Fl.splitD rfl rfl ?_ ?_ <;> intro _ <;> try (exfalso; omega)) |fail)
  refine ⟨AWP.seqS ?_⟩
  repeat' (first |refine Fl.v rfl rfl rfl ?_ |refine Fl.nilF ?_ |refine AWP.region ?_ |refine Fl.make rfl rfl rfl rfl rfl rfl rfl rfl rfl rfl eI 0 (by exact LeL.refl _) (by rfl) (by first | omega | (dsimp only; omega)) (by first | omega | (dsimp only; omega)) (by first | omega | (dsimp only; omega)) ?_ |fail)
  refine ⟨AWP.seqS ?_⟩
  repeat' (first |refine Fl.v rfl rfl rfl ?_ |refine Fl.nilF ?_ |refine AWP.region ?_ |refine Fl.rel rfl rfl rfl rfl rfl rfl rfl rfl (by omega) (by first | omega | (simp; omega)) ?_ |refine Fl.rst rfl rfl rfl rfl rfl rfl rfl rfl rfl rfl rfl (LeL.refl _) rfl (by first | omega | (simp; omega)) ?_ |fail)
  refine ⟨?_⟩
  refine AWP.ent (Ent.freeze 24 rfl) ?_
  repeat' (first |refine Fl.v rfl rfl rfl ?_ |refine AWP.seq ?_ |refine AWP.region ?_ |fail)
  refine Fl.call rfl (Of_ok 1 (by omega) (by omega)) rfl rfl rfl (LeL.refl _) ?_
  repeat' (first |refine Fl.v rfl rfl rfl ?_ |refine Fl.b rfl rfl rfl rfl ?_ |fail)
  refine Fl.lit rfl rfl rfl rfl rfl eT [⟨zOf 1, unU V i⟩] rfl rfl rfl rfl (by intro _ _; rfl) rfl ?_
  repeat' (first |refine Fl.v rfl rfl rfl ?_ |refine Fl.nilF ?_ |refine Fl.b rfl rfl rfl rfl ?_ |refine AWP.ret ?_ |fail)
  exact RetOk.of rfl (AV.Le.refl _)

theorem xCopy_ok (X : List Int) (hX : ∀ x ∈ X, Fit x) (hl : X.length ≤ 1000000) : PureFn Tryz.prog 217 [.sl 2 eX X] (.sl 2 eX X) := by
  refine PureFn.of_body Tryz.func217 rfl Tryz.ntmps217 rfl rfl ?_
  refine AWP.seqS ?_
  repeat' (first |refine Fl.v rfl rfl rfl ?_ |refine Fl.nilF ?_ |refine AWP.region ?_ |fail)
  refine ⟨AWP.seqS ?_⟩
  repeat' (first |refine Fl.v rfl rfl rfl ?_ |refine AWP.region ?_ |fail)
  refine Fl.make rfl rfl rfl rfl rfl rfl rfl rfl rfl rfl eX 0 (by exact leX_zero (σ := []) rfl) (by rfl) (by omega) (by dsimp only; omega) (by omega) ?_
  repeat' (first |refine Fl.v rfl rfl rfl ?_ |refine Fl.nilF ?_ |fail)
  refine ⟨?_⟩
  refine AWP.seqJ (G := Unit) (fun _ => True) (fun _ => St.of [] [(3, .row 8)] [(8, .row 2 eX X 35)]) ?_ ?_
  · repeat' (first |refine Fl.v rfl rfl rfl ?_ |refine Fl.nilF ?_ |refine AWP.seq ?_ |refine AWP.region ?_ |refine AWP.block ?_ |fail)
    refine AWP.loop (G := Nat) (fun i => i ≤ X.length) (fun i => St.of [] [(3, .row 8), (9, .sl 2 eX X), (10, aN X.length), (11, aN i)] [(8, .row 2 eX (X.take i ++ List.replicate (X.length - i) 0) 35)]) (fun i => X.length - i) 0 (by omega) ?_ ?_
    · refine Ent.of [] ?_ ?_ rfl rfl
      repeat' (first | exact True.intro |refine ⟨⟨AV.Le.refl _, rfl⟩, ?_⟩ |refine ⟨⟨AV.Le.any _, rfl⟩, ?_⟩ |refine ⟨⟨⟨_, rfl, BLe.cells (LeL.refl _)⟩, rfl⟩, ?_⟩ |refine ⟨⟨⟨_, rfl, BLe.row rfl⟩, rfl⟩, ?_⟩ |refine ⟨⟨⟨_, rfl, BLe.row ?_⟩, rfl⟩, ?_⟩ |refine ⟨⟨⟨_, rfl, BLe.cells ?_⟩, rfl⟩, ?_⟩ |refine ⟨⟨AV.Le.int ?_, rfl⟩, ?_⟩ |refine ⟨⟨AV.Le.bool ?_, rfl⟩, ?_⟩ |refine ⟨⟨AV.Le.sl ?_, rfl⟩, ?_⟩ |refine ⟨⟨AV.Le.of_eq ?_, rfl⟩, ?_⟩ | fail)
    · intro i h0
      have hli : (X.take i ++ List.replicate (X.length - i) (0 : Int)).length = X.length := by simp; omega
      repeat' (first |refine Fl.v rfl rfl rfl ?_ |refine Fl.nilF ?_ |refine AWP.seq ?_ |refine AWP.region ?_ |refine Fl.b rfl rfl rfl rfl ?_ |(refine AWP.condD rfl ?_ ?_ <;> intro _ <;> try (exfalso; omega)) |refine AWP.block ?_ |refine AWP.skip ?_ |refine AWP.exit ?_ |(refine Fl.el rfl rfl rfl rfl rfl rfl rfl rfl (by omega) (by omega) ?_; intro _ _) |fail)
      · rename_i hi x hx
        rw [Int.toNat_natCast] at hx
        have hxl := (hX x (List.mem_of_getElem? hx)).len
        refine Fl.ap0C rfl rfl rfl rfl rfl rfl rfl eW rfl (fun _ => rfl) (fun _ => rfl) (AV.Le.refl _) (by dsimp only; omega) (by omega) ?_
        repeat' (first |refine Fl.v rfl rfl rfl ?_ |refine Fl.nilF ?_ |refine Fl.nil (fun _ => by kernel_rfl) ?_ |refine AWP.region ?_ |refine Fl.w rfl rfl rfl (by first | exact True.intro | omega) ?_ |refine Fl.b rfl rfl rfl rfl ?_ |refine Fl.rel rfl rfl rfl rfl rfl rfl rfl rfl (by omega) (by first | omega | (simp; omega)) ?_ |refine Fl.rst rfl rfl rfl rfl rfl rfl rfl rfl rfl rfl rfl (LeL.refl _) rfl (by first | omega | (simp; omega)) ?_ |fail)
        refine LoopEnd.of (i + 1) (by omega) (by omega) ?_
        refine Ent.of [] ?_ ?_ rfl rfl
        repeat' (first | exact True.intro |refine ⟨⟨AV.Le.refl _, rfl⟩, ?_⟩ |refine ⟨⟨AV.Le.any _, rfl⟩, ?_⟩ |refine ⟨⟨⟨_, rfl, BLe.cells (LeL.refl _)⟩, rfl⟩, ?_⟩ |refine ⟨⟨⟨_, rfl, BLe.row rfl⟩, rfl⟩, ?_⟩ |refine ⟨⟨⟨_, rfl, BLe.row ?_⟩, rfl⟩, ?_⟩ |refine ⟨⟨⟨_, rfl, BLe.cells ?_⟩, rfl⟩, ?_⟩ |refine ⟨⟨AV.Le.int ?_, rfl⟩, ?_⟩ |refine ⟨⟨AV.Le.bool ?_, rfl⟩, ?_⟩ |refine ⟨⟨AV.Le.sl ?_, rfl⟩, ?_⟩ |refine ⟨⟨AV.Le.of_eq ?_, rfl⟩, ?_⟩ | fail)
        rw [take_snoc hx]
        exact set_rep (by rw [List.length_take]; omega) (by omega) rfl
      · have hi : i = X.length := by omega
        refine JoinOk.of () trivial ?_
        refine Ent.of [] ?_ ?_ rfl rfl
        repeat' (first | exact True.intro |refine ⟨⟨AV.Le.refl _, rfl⟩, ?_⟩ |refine ⟨⟨AV.Le.any _, rfl⟩, ?_⟩ |refine ⟨⟨⟨_, rfl, BLe.cells (LeL.refl _)⟩, rfl⟩, ?_⟩ |refine ⟨⟨⟨_, rfl, BLe.row rfl⟩, rfl⟩, ?_⟩ |refine ⟨⟨⟨_, rfl, BLe.row ?_⟩, rfl⟩, ?_⟩ |refine ⟨⟨⟨_, rfl, BLe.cells ?_⟩, rfl⟩, ?_⟩ |refine ⟨⟨AV.Le.int ?_, rfl⟩, ?_⟩ |refine ⟨⟨AV.Le.bool ?_, rfl⟩, ?_⟩ |refine ⟨⟨AV.Le.sl ?_, rfl⟩, ?_⟩ |refine ⟨⟨AV.Le.of_eq ?_, rfl⟩, ?_⟩ | fail)
        rw [hi]; simp
  · intro _ _
    repeat' (first |refine Fl.v rfl rfl rfl ?_ |refine Fl.nilF ?_ |refine AWP.seq ?_ |refine AWP.region ?_ |refine AWP.ret ?_ |fail)
    refine RetOk.ent (Ent.freeze 8 rfl) ?_
    exact RetOk.of rfl (AV.Le.refl _)
theorem constant_ok (V : Nat) (x : Int) (hV : V ≤ 32) (hx : Fit x) : PureFn Tryz.prog 181 [aN V, aX x] (aP (mkP V (conU V x))) := by
  refine PureFn.of_body Tryz.func181 rfl Tryz.ntmps181 rfl rfl ?_
  refine AWP.seqS ?_
  repeat' (first |refine Fl.nilF ?_ |refine AWP.region ?_ |refine Fl.b rfl rfl rfl rfl ?_ |fail)
  refine ⟨AWP.seqS ?_⟩
  repeat' (first |refine Fl.v rfl rfl rfl ?_ |refine Fl.nilF ?_ |refine AWP.region ?_ |refine Fl.b rfl rfl rfl rfl ?_ |fail)
  refine ⟨?_⟩
  refine AWP.seq ?_
  repeat' (first |refine Fl.v rfl rfl rfl ?_ |refine AWP.seq ?_ |refine AWP.region ?_ |fail)
  refine Fl.call rfl (ZeroX_ok x) rfl rfl rfl (LeL.refl _) ?_
  repeat' (first |refine Fl.v rfl rfl rfl ?_ |refine Fl.nilF ?_ |refine AWP.seq ?_ |refine AWP.region ?_ |refine Fl.b rfl rfl rfl rfl ?_ |(refine AWP.condN rfl ?_ ?_ <;> intro _ <;> try (exfalso; omega)) |refine AWP.skip ?_ |refine AWP.ret ?_ |fail)
  · rename_i h0
    refine Fl.lit rfl rfl rfl rfl rfl eX [x] rfl rfl rfl rfl (by intro _ _; rfl) rfl ?_
    skip
    have e0 : [x][(0 : Int).toNat]? = some x := rfl
    refine Fl.call rfl (xCopy_ok [x] (by simp [hx]) (by simp)) rfl rfl rfl (LeL.refl _) ?_
    repeat' (first | refine Fl.v rfl rfl rfl ?_ | refine Fl.elK rfl rfl rfl rfl rfl rfl rfl rfl (by assumption) (by omega) ?_ | fail)
    refine Fl.makeC rfl rfl rfl rfl rfl rfl rfl rfl rfl eI 0 (by exact LeL.refl _) (by rfl) (by omega) (by dsimp only; omega) (by omega) ?_
    repeat' (first |refine Fl.b rfl rfl rfl rfl ?_ |fail)
    refine Fl.lit rfl rfl rfl rfl rfl eT [⟨zOf x, List.replicate V 0⟩] rfl rfl rfl rfl (by intro _ _; rfl) rfl ?_
    repeat' (first |refine Fl.v rfl rfl rfl ?_ |refine Fl.nilF ?_ |refine Fl.nil (fun _ => by kernel_rfl) ?_ |refine AWP.seq ?_ |refine AWP.region ?_ |refine Fl.b rfl rfl rfl rfl ?_ |refine AWP.ret ?_ |fail)
    refine RetOk.of rfl ?_
    rw [conU, if_neg h0]
    exact AV.Le.refl _
  · rename_i h0
    refine RetOk.of rfl ?_
    rw [conU, if_pos h0]
    exact AV.Le.agg (LeL.cons (AV.Le.refl _) (LeL.cons (AV.Le.nil 3 eT) LeL.nil))
theorem pConstP_ok (V : Nat) (x : Int) (hV : V ≤ 32) (hx : Fit x) : PureFn Tryz.prog 136 [aN V, aX x] (.tup [aP (mkP V (conU V x)), aN 0]) := by
  refine PureFn.of_body Tryz.func136 rfl Tryz.ntmps136 rfl rfl ?_
  repeat' (first |refine Fl.v rfl rfl rfl ?_ |refine Fl.nilF ?_ |refine AWP.seq ?_ |refine AWP.region ?_ |refine Fl.b rfl rfl rfl rfl ?_ |fail)
  refine Fl.call rfl (Valid_int x hx) rfl rfl rfl (LeL.refl _) ?_
  repeat' (first |refine Fl.v rfl rfl rfl ?_ |refine Fl.nilF ?_ |refine AWP.seq ?_ |refine AWP.region ?_ |refine AWP.condF rfl ?_ |(refine AWP.condD rfl ?_ ?_ <;> intro _ <;> try (exfalso; omega)) |refine AWP.skip ?_ |fail)
  refine Fl.call rfl (constant_ok V x hV hx) rfl rfl rfl (LeL.refl _) ?_
  repeat' (first |refine Fl.v rfl rfl rfl ?_ |refine Fl.nilF ?_ |refine Fl.b rfl rfl rfl rfl ?_ |refine AWP.ret ?_ |fail)
  exact RetOk.of rfl (AV.Le.refl _)
theorem kNew_ok (V : Nat) : PureFn Tryz.prog 63 [aN V] (aK V) := by
  refine PureFn.of_body Tryz.func63 rfl Tryz.ntmps63 rfl rfl ?_
  repeat' (first |refine Fl.v rfl rfl rfl ?_ |refine Fl.nilF ?_ |refine AWP.seq ?_ |refine AWP.region ?_ |refine Fl.b rfl rfl rfl rfl ?_ |refine AWP.ret ?_ |fail)
  exact RetOk.of rfl (AV.Le.refl _)
theorem kV_ok (V i : Nat) (hV : V ≤ 32) (hi : i < V) : PureFn Tryz.prog 64 [aK V, aN i] (aP (mkP V (varU V i))) := by
  refine PureFn.of_body Tryz.func64 rfl Tryz.ntmps64 rfl rfl ?_
  repeat' (first |refine Fl.v rfl rfl rfl ?_ |refine Fl.nilF ?_ |refine AWP.seq ?_ |refine AWP.region ?_ |refine Fl.b rfl rfl rfl rfl ?_ |fail)
  refine Fl.call rfl (pVarP_ok V i hV hi) rfl rfl rfl (LeL.refl _) ?_
  repeat' (first |refine Fl.v rfl rfl rfl ?_ |refine Fl.nilF ?_ |refine AWP.seq ?_ |refine AWP.region ?_ |refine Fl.b rfl rfl rfl rfl ?_ |refine AWP.ret ?_ |fail)
  exact RetOk.of rfl (AV.Le.refl _)
theorem kN_ok (V : Nat) (c : Int) (hV : V ≤ 32) (h0 : -4294967296 < c) (h1 : c < 4294967296) : PureFn Tryz.prog 65 [aK V, aN c] (aP (mkP V (conU V c))) := by
  refine PureFn.of_body Tryz.func65 rfl Tryz.ntmps65 rfl rfl ?_
  repeat' (first |refine Fl.v rfl rfl rfl ?_ |refine Fl.nilF ?_ |refine AWP.seq ?_ |refine AWP.region ?_ |refine Fl.b rfl rfl rfl rfl ?_ |fail)
  refine Fl.call rfl (Of_ok c (by omega) (by omega)) rfl rfl rfl (LeL.refl _) ?_
  skip
  refine Fl.call rfl (pConstP_ok V c hV (fit_small (by omega) (by omega))) rfl rfl rfl (LeL.refl _) ?_
  repeat' (first |refine Fl.v rfl rfl rfl ?_ |refine Fl.nilF ?_ |refine Fl.nil (fun _ => by kernel_rfl) ?_ |refine AWP.seq ?_ |refine AWP.region ?_ |refine Fl.b rfl rfl rfl rfl ?_ |refine AWP.ret ?_ |fail)
  exact RetOk.of rfl (AV.Le.refl _)
theorem subMk (V : Nat) (hV : V ≤ 32) (p q l : List UT) (hp : chkU V p p = true) (hq : chkU V q q = true) (h : chkU V (addUs (-1) p q) l = true) : PureFn Tryz.prog 161 [aP (mkP V p), aP (mkP V q)] (.tup [aP (mkP V l), aN 0]) := by
  obtain ⟨p1, p2, p3⟩ := mk_ok hV hp
  obtain ⟨q1, q2, q3⟩ := mk_ok hV hq
  have hs : SumOk V (plusU (-1) (mkP V p) (mkP V q)) (mkP V l) := by rw [plusU_mk]; exact chkU_ok hV h
  exact pSub_ok V hV _ _ p3 q3 p1 q1 p2 q2 _ (fun x hx => by rw [hs.uniq hx]) (fun k => absurd ⟨_, hs⟩ k)
theorem kSub_ok (V : Nat) (hV : V ≤ 32) (p q l : List UT) (hp : chkU V p p = true) (hq : chkU V q q = true) (h : chkU V (addUs (-1) p q) l = true) : PureFn Tryz.prog 93 [aK V, aP (mkP V p), aP (mkP V q)] (aP (mkP V l)) := by
  refine PureFn.of_body Tryz.func93 rfl Tryz.ntmps93 rfl rfl ?_
  repeat' (first |refine Fl.v rfl rfl rfl ?_ |refine Fl.nilF ?_ |refine AWP.seq ?_ |refine AWP.region ?_ |refine Fl.b rfl rfl rfl rfl ?_ |fail)
  refine Fl.call rfl (subMk V hV p q l hp hq h) rfl rfl rfl (LeL.refl _) ?_
  repeat' (first |refine Fl.v rfl rfl rfl ?_ |refine Fl.nilF ?_ |refine AWP.seq ?_ |refine AWP.region ?_ |refine Fl.b rfl rfl rfl rfl ?_ |refine AWP.ret ?_ |fail)
  exact RetOk.of rfl (AV.Le.refl _)
end Go.Proofs.YtcaecieigoplbaaGreat
/- Kit.Add, Kit.Mul. -/
namespace Go.AL
theorem okSums_cons {V : Nat} {acc p : List UT} {l : List (List UT)} (h : okSums V acc (p :: l) = true) : chkU V acc acc = true ∧ chkU V p p = true ∧ chkU V (addUs 1 acc p) (addL acc p) = true ∧ okSums V (addL acc p) l = true := by
  simp only [okSums, Bool.and_eq_true] at h
  exact ⟨h.1.1.1, h.1.1.2, h.1.2, h.2⟩
theorem okMuls_cons {V : Nat} {acc p : List UT} {l : List (List UT)} (h : okMuls V acc (p :: l) = true) : chkU V acc acc = true ∧ chkU V p p = true ∧ degU acc p = true ∧ chkU V (mulUs acc p) (mulL2 acc p) = true ∧ okMuls V (mulL2 acc p) l = true := by
  simp only [okMuls, Bool.and_eq_true] at h
  exact ⟨h.1.1.1.1, h.1.1.1.2, h.1.1.2, h.1.2, h.2⟩
theorem drop_cons {α : Type} {l : List α} {i : Nat} {x : α} (h : l[i]? = some x) : l.drop i = x :: l.drop (i + 1) := by
  have hi := List.getElem?_eq_some_iff.1 h
  rw [List.drop_eq_getElem_cons hi.1, hi.2]
end Go.AL
namespace Go.Proofs.YtcaecieigoplbaaGreat
open Go.AL
theorem kAdd_ok (V : Nat) (hV : V ≤ 32) (ls : List (List UT)) (hl : ls.length ≤ 1000) (h : okSums V [] ls = true) : PureFn Tryz.prog 66 [aK V, .sl 2 eP (ls.map (mkP V))] (aP (mkP V (sumsU [] ls))) := by
  refine PureFn.of_body Tryz.func66 rfl Tryz.ntmps66 rfl rfl ?_
  have hN := kN_ok V 0 hV (by omega) (by omega)
  rw [show conU V 0 = [] from rfl] at hN
  refine AWP.seqS ?_
  repeat' (first |refine Fl.nilF ?_ |refine AWP.region ?_ |refine Fl.b rfl rfl rfl rfl ?_ |fail)
  refine ⟨AWP.seqS ?_⟩
  repeat' (first |refine Fl.v rfl rfl rfl ?_ |refine AWP.region ?_ |fail)
  refine Fl.call rfl (hN) rfl rfl rfl (LeL.refl _) ?_
  repeat' (first |refine Fl.nilF ?_ |refine Fl.b rfl rfl rfl rfl ?_ |fail)
  refine ⟨?_⟩
  obtain ⟨L, hL⟩ : ∃ L, L = ls.map (mkP V) := ⟨_, rfl⟩
  have hLl : L.length = ls.length := by rw [hL, List.length_map]
  rw [← hL]
  repeat' (first |refine Fl.v rfl rfl rfl ?_ |refine Fl.nilF ?_ |refine AWP.seq ?_ |refine AWP.region ?_ |refine AWP.block ?_ |fail)
  refine AWP.loop (G := Nat × List UT) (fun (i, acc) => i ≤ ls.length ∧ okSums V acc (ls.drop i) = true ∧ sumsU acc (ls.drop i) = sumsU [] ls) (fun (i, acc) => St.of [] [(4, .ptr 4 0), (5, .ptr 5 0), (10, .sl 2 eP L), (11, aN L.length), (12, aN i)] [(4, .cells [aN 0, .v (.slice none 0 0)] 70), (5, .cells (eP (mkP V acc)) 70)]) (fun (i, acc) => ls.length - i) (0, []) ⟨by omega, h, rfl⟩ ?_ ?_
  · refine Ent.of [] ?_ ?_ rfl rfl
    repeat' (first | exact True.intro |refine ⟨⟨AV.Le.refl _, rfl⟩, ?_⟩ |refine ⟨⟨AV.Le.any _, rfl⟩, ?_⟩ |refine ⟨⟨⟨_, rfl, BLe.cells (LeL.refl _)⟩, rfl⟩, ?_⟩ |refine ⟨⟨⟨_, rfl, BLe.row rfl⟩, rfl⟩, ?_⟩ |refine ⟨⟨⟨_, rfl, BLe.row ?_⟩, rfl⟩, ?_⟩ |refine ⟨⟨⟨_, rfl, BLe.cells ?_⟩, rfl⟩, ?_⟩ |refine ⟨⟨AV.Le.int ?_, rfl⟩, ?_⟩ |refine ⟨⟨AV.Le.bool ?_, rfl⟩, ?_⟩ |refine ⟨⟨AV.Le.sl ?_, rfl⟩, ?_⟩ |refine ⟨⟨AV.Le.of_eq ?_, rfl⟩, ?_⟩ | fail)
  · intro ⟨i, acc⟩ ⟨h0, h1, h2⟩
    repeat' (first |refine Fl.v rfl rfl rfl ?_ |refine Fl.nilF ?_ |refine AWP.seq ?_ |refine AWP.region ?_ |refine Fl.b rfl rfl rfl rfl ?_ |(refine AWP.condD rfl ?_ ?_ <;> intro _ <;> try (exfalso; omega)) |refine AWP.block ?_ |refine AWP.skip ?_ |refine AWP.exit ?_ |refine AWP.ret ?_ |(refine Fl.el rfl rfl rfl rfl rfl rfl rfl rfl (by omega) (by omega) ?_; intro _ _) |fail)
    · rename_i hi p hp
      rw [Int.toNat_natCast, hL, List.getElem?_map] at hp
      obtain ⟨q, hq, rfl⟩ := Option.map_eq_some_iff.1 hp
      rw [drop_cons hq] at h1 h2
      obtain ⟨c1, c2, c3, c4⟩ := okSums_cons h1
      refine Fl.call rfl (addMk V hV acc q _ c1 c2 c3) rfl rfl rfl (LeL.refl _) ?_
      repeat' (first |refine Fl.v rfl rfl rfl ?_ |refine Fl.nilF ?_ |refine AWP.region ?_ |refine Fl.w rfl rfl rfl (by first | exact True.intro | omega) ?_ |refine Fl.b rfl rfl rfl rfl ?_ |fail)
      refine LoopEnd.of (i + 1, addL acc q) ⟨by omega, c4, h2⟩ (by simp only; omega) ?_
      refine Ent.of [] ?_ ?_ rfl rfl
      repeat' (first | exact True.intro |refine ⟨⟨AV.Le.refl _, rfl⟩, ?_⟩ |refine ⟨⟨AV.Le.any _, rfl⟩, ?_⟩ |refine ⟨⟨⟨_, rfl, BLe.cells (LeL.refl _)⟩, rfl⟩, ?_⟩ |refine ⟨⟨⟨_, rfl, BLe.row rfl⟩, rfl⟩, ?_⟩ |refine ⟨⟨⟨_, rfl, BLe.row ?_⟩, rfl⟩, ?_⟩ |refine ⟨⟨⟨_, rfl, BLe.cells ?_⟩, rfl⟩, ?_⟩ |refine ⟨⟨AV.Le.int ?_, rfl⟩, ?_⟩ |refine ⟨⟨AV.Le.bool ?_, rfl⟩, ?_⟩ |refine ⟨⟨AV.Le.sl ?_, rfl⟩, ?_⟩ |refine ⟨⟨AV.Le.of_eq ?_, rfl⟩, ?_⟩ | fail)
    · rename_i hi
      rw [List.drop_of_length_le (by omega)] at h2
      refine RetOk.of rfl (AV.Le.of_eq ?_)
      rw [← h2]; rfl
theorem kMul_ok (V : Nat) (hV : V ≤ 32) (ls : List (List UT)) (hl : ls.length ≤ 1000) (h : okMuls V (conU V 1) ls = true) : PureFn Tryz.prog 67 [aK V, .sl 2 eP (ls.map (mkP V))] (aP (mkP V (mulsU (conU V 1) ls))) := by
  refine PureFn.of_body Tryz.func67 rfl Tryz.ntmps67 rfl rfl ?_
  have hN := kN_ok V 1 hV (by omega) (by omega)
  refine AWP.seqS ?_
  repeat' (first |refine Fl.nilF ?_ |refine AWP.region ?_ |refine Fl.b rfl rfl rfl rfl ?_ |fail)
  refine ⟨AWP.seqS ?_⟩
  repeat' (first |refine Fl.v rfl rfl rfl ?_ |refine AWP.region ?_ |fail)
  refine Fl.call rfl (hN) rfl rfl rfl (LeL.refl _) ?_
  repeat' (first |refine Fl.nilF ?_ |refine Fl.b rfl rfl rfl rfl ?_ |fail)
  refine ⟨?_⟩
  obtain ⟨L, hL⟩ : ∃ L, L = ls.map (mkP V) := ⟨_, rfl⟩
  have hLl : L.length = ls.length := by rw [hL, List.length_map]
  rw [← hL]
  repeat' (first |refine Fl.v rfl rfl rfl ?_ |refine Fl.nilF ?_ |refine AWP.seq ?_ |refine AWP.region ?_ |refine AWP.block ?_ |fail)
  refine AWP.loop (G := Nat × List UT) (fun (i, acc) => i ≤ ls.length ∧ okMuls V acc (ls.drop i) = true ∧ mulsU acc (ls.drop i) = mulsU (conU V 1) ls) (fun (i, acc) => St.of [] [(4, .ptr 4 0), (5, .ptr 5 0), (10, .sl 2 eP L), (11, aN L.length), (12, aN i)] [(4, .cells [aN 0, .v (.slice none 0 0)] 70), (5, .cells (eP (mkP V acc)) 70)]) (fun (i, acc) => ls.length - i) (0, conU V 1) ⟨by omega, h, rfl⟩ ?_ ?_
  · refine Ent.of [] ?_ ?_ rfl rfl
    repeat' (first | exact True.intro |refine ⟨⟨AV.Le.refl _, rfl⟩, ?_⟩ |refine ⟨⟨AV.Le.any _, rfl⟩, ?_⟩ |refine ⟨⟨⟨_, rfl, BLe.cells (LeL.refl _)⟩, rfl⟩, ?_⟩ |refine ⟨⟨⟨_, rfl, BLe.row rfl⟩, rfl⟩, ?_⟩ |refine ⟨⟨⟨_, rfl, BLe.row ?_⟩, rfl⟩, ?_⟩ |refine ⟨⟨⟨_, rfl, BLe.cells ?_⟩, rfl⟩, ?_⟩ |refine ⟨⟨AV.Le.int ?_, rfl⟩, ?_⟩ |refine ⟨⟨AV.Le.bool ?_, rfl⟩, ?_⟩ |refine ⟨⟨AV.Le.sl ?_, rfl⟩, ?_⟩ |refine ⟨⟨AV.Le.of_eq ?_, rfl⟩, ?_⟩ | fail)
  · intro ⟨i, acc⟩ ⟨h0, h1, h2⟩
    repeat' (first |refine Fl.v rfl rfl rfl ?_ |refine Fl.nilF ?_ |refine AWP.seq ?_ |refine AWP.region ?_ |refine Fl.b rfl rfl rfl rfl ?_ |(refine AWP.condD rfl ?_ ?_ <;> intro _ <;> try (exfalso; omega)) |refine AWP.block ?_ |refine AWP.skip ?_ |refine AWP.exit ?_ |refine AWP.ret ?_ |(refine Fl.el rfl rfl rfl rfl rfl rfl rfl rfl (by omega) (by omega) ?_; intro _ _) |fail)
    · rename_i hi p hp
      rw [Int.toNat_natCast, hL, List.getElem?_map] at hp
      obtain ⟨q, hq, rfl⟩ := Option.map_eq_some_iff.1 hp
      rw [drop_cons hq] at h1 h2
      obtain ⟨c1, c2, c3, c4, c5⟩ := okMuls_cons h1
      refine Fl.call rfl (mulMk V hV acc q _ c1 c2 c3 c4) rfl rfl rfl (LeL.refl _) ?_
      repeat' (first |refine Fl.v rfl rfl rfl ?_ |refine Fl.nilF ?_ |refine AWP.region ?_ |refine Fl.w rfl rfl rfl (by first | exact True.intro | omega) ?_ |refine Fl.b rfl rfl rfl rfl ?_ |fail)
      refine LoopEnd.of (i + 1, mulL2 acc q) ⟨by omega, c5, h2⟩ (by simp only; omega) ?_
      refine Ent.of [] ?_ ?_ rfl rfl
      repeat' (first | exact True.intro |refine ⟨⟨AV.Le.refl _, rfl⟩, ?_⟩ |refine ⟨⟨AV.Le.any _, rfl⟩, ?_⟩ |refine ⟨⟨⟨_, rfl, BLe.cells (LeL.refl _)⟩, rfl⟩, ?_⟩ |refine ⟨⟨⟨_, rfl, BLe.row rfl⟩, rfl⟩, ?_⟩ |refine ⟨⟨⟨_, rfl, BLe.row ?_⟩, rfl⟩, ?_⟩ |refine ⟨⟨⟨_, rfl, BLe.cells ?_⟩, rfl⟩, ?_⟩ |refine ⟨⟨AV.Le.int ?_, rfl⟩, ?_⟩ |refine ⟨⟨AV.Le.bool ?_, rfl⟩, ?_⟩ |refine ⟨⟨AV.Le.sl ?_, rfl⟩, ?_⟩ |refine ⟨⟨AV.Le.of_eq ?_, rfl⟩, ?_⟩ | fail)
    · rename_i hi
      rw [List.drop_of_length_le (by omega)] at h2
      refine RetOk.of rfl (AV.Le.of_eq ?_)
      rw [← h2]; rfl
end Go.Proofs.YtcaecieigoplbaaGreat
/- Kit.Link: its closures; what occurs. -/
namespace Go.AL
/-- the variables that occur in some polynomials -/
def occL (V : Nat) (ls : List (List UT)) : List Nat := (List.range V).filter fun i => ls.any fun p => p.any fun u => decide (0 < u.2.getD i 0)
def pickE (occ : List Nat) (e : List Int) : List Int := occ.map fun i => e.getD i 0
def pickU (occ : List Nat) (p : List UT) : List UT := p.map fun u => (u.1, pickE occ u.2)
def linkU (V : Nat) (kind : Int) (ls : List (List UT)) : LZ := ⟨kind, (occL V ls).map fun (i : Nat) => (i : Int), ls.map fun p => mkP (occL V ls).length (pickU (occL V ls) p)⟩
end Go.AL
namespace Go.Proofs.YtcaecieigoplbaaGreat
open Go.AL
abbrev iB (i : Int) : List (AL.Id × Bx) := [(900, .cells [aN i] 3)]
theorem idxT_ok (o : Int) (f : TZ → Bool) (ps : List TZ) (hl : ps.length ≤ 1000000) (hf : ∀ p ∈ ps, IoFn Tryz.prog 142 ([aT p] ++ [.ptr 900 0]) (iB o) (.ret (aB (f p))) (iB o)) :
    IoFn Tryz.prog 189 [.sl 3 eT ps, .fn 142 [.ptr 900 0]] (iB o) (.ret (aN (idxI f ps 0))) (iB o) := by
  refine IoFn.of_body Tryz.func189 rfl Tryz.ntmps189 rfl rfl rfl ?_
  repeat' (first |refine Fl.v rfl rfl rfl ?_ |refine Fl.nilF ?_ |refine AWP.seq ?_ |refine AWP.region ?_ |refine AWP.block ?_ |fail)
  refine AWP.loop (G := Nat) (fun i => i ≤ ps.length ∧ idxI f (ps.drop i) i = idxI f ps 0) (fun i => St.of [900] [(0, .sl 3 eT ps), (1, .fn 142 [.ptr 900 0]), (7, aN ps.length), (8, aN i)] [(900, .cells [aN o] 3)]) (fun i => ps.length - i) 0 ⟨by omega, by simp⟩ ?_ ?_
  · refine Ent.of [] ?_ ?_ rfl rfl
    repeat' (first | exact True.intro |refine ⟨⟨AV.Le.refl _, rfl⟩, ?_⟩ |refine ⟨⟨AV.Le.any _, rfl⟩, ?_⟩ |refine ⟨⟨⟨_, rfl, BLe.cells (LeL.refl _)⟩, rfl⟩, ?_⟩ |refine ⟨⟨⟨_, rfl, BLe.row rfl⟩, rfl⟩, ?_⟩ |refine ⟨⟨⟨_, rfl, BLe.row ?_⟩, rfl⟩, ?_⟩ |refine ⟨⟨⟨_, rfl, BLe.cells ?_⟩, rfl⟩, ?_⟩ |refine ⟨⟨AV.Le.int ?_, rfl⟩, ?_⟩ |refine ⟨⟨AV.Le.bool ?_, rfl⟩, ?_⟩ |refine ⟨⟨AV.Le.sl ?_, rfl⟩, ?_⟩ |refine ⟨⟨AV.Le.of_eq ?_, rfl⟩, ?_⟩ | fail)
  · intro i ⟨k0, k1⟩
    repeat' (first |refine Fl.v rfl rfl rfl ?_ |refine Fl.nilF ?_ |refine AWP.seq ?_ |refine AWP.region ?_ |(refine AWP.condD rfl ?_ ?_ <;> intro _ <;> try (exfalso; omega)) |refine AWP.block ?_ |refine AWP.skip ?_ |refine AWP.exit ?_ |refine AWP.ret ?_ |(refine Fl.el rfl rfl rfl rfl rfl rfl rfl rfl (by omega) (by omega) ?_; intro _ _) |fail)
    · rename_i hi p hp
      rw [Int.toNat_natCast] at hp
      have hd := idxI_drop (f := f) hp
      refine Fl.ioV rfl rfl [] (hf p (List.mem_of_getElem? hp)) rfl rfl (LeL.refl _) rfl ⟨⟨⟨_, rfl, BLe.cells (LeL.refl _)⟩, rfl⟩, trivial⟩ rfl rfl rfl rfl rfl ?_
      repeat' (first |refine Fl.v rfl rfl rfl ?_ |refine Fl.nilF ?_ |refine AWP.seq ?_ |refine AWP.region ?_ |refine Fl.w rfl rfl rfl (by first | exact True.intro | omega) ?_ |refine AWP.skip ?_ |refine AWP.ret ?_ |(refine AWP.condB rfl ?_ ?_ <;> intro _) |fail)
      · rename_i hb
        rw [if_pos hb] at hd
        refine ⟨⟨[], _, _, Ent.refl _ _ _, rfl, AV.Le.int ?_, rfl, ⟨⟨⟨_, rfl, BLe.cells (LeL.refl _)⟩, rfl⟩, trivial⟩, rfl, rfl⟩⟩
        rw [← k1, hd]
      · rename_i hb
        rw [if_neg (by rw [hb]; simp)] at hd
        refine LoopEnd.of (i + 1) ⟨by omega, by rw [← k1, hd]⟩ (by omega) ?_
        refine Ent.of [] ?_ ?_ rfl rfl
        repeat' (first | exact True.intro |refine ⟨⟨AV.Le.refl _, rfl⟩, ?_⟩ |refine ⟨⟨AV.Le.any _, rfl⟩, ?_⟩ |refine ⟨⟨⟨_, rfl, BLe.cells (LeL.refl _)⟩, rfl⟩, ?_⟩ |refine ⟨⟨⟨_, rfl, BLe.row rfl⟩, rfl⟩, ?_⟩ |refine ⟨⟨⟨_, rfl, BLe.row ?_⟩, rfl⟩, ?_⟩ |refine ⟨⟨⟨_, rfl, BLe.cells ?_⟩, rfl⟩, ?_⟩ |refine ⟨⟨AV.Le.int ?_, rfl⟩, ?_⟩ |refine ⟨⟨AV.Le.bool ?_, rfl⟩, ?_⟩ |refine ⟨⟨AV.Le.sl ?_, rfl⟩, ?_⟩ |refine ⟨⟨AV.Le.of_eq ?_, rfl⟩, ?_⟩ | fail)
    · refine ⟨⟨[], _, _, Ent.refl _ _ _, rfl, AV.Le.int ?_, rfl, ⟨⟨⟨_, rfl, BLe.cells (LeL.refl _)⟩, rfl⟩, trivial⟩, rfl, rfl⟩⟩
      rw [← k1, List.drop_of_length_le (by omega)]; rfl
theorem conT_ok (o : Int) (f : TZ → Bool) (ps : List TZ) (hl : ps.length ≤ 1000000) (hf : ∀ p ∈ ps, IoFn Tryz.prog 142 ([aT p] ++ [.ptr 900 0]) (iB o) (.ret (aB (f p))) (iB o)) :
    IoFn Tryz.prog 141 [.sl 3 eT ps, .fn 142 [.ptr 900 0]] (iB o) (.ret (aB (ps.any f))) (iB o) := by
  refine IoFn.of_body Tryz.func141 rfl Tryz.ntmps141 rfl rfl rfl ?_
  have h := idxT_ok o f ps hl hf
  have he := idxI_any f ps 0 (by omega)
  repeat' (first |refine Fl.v rfl rfl rfl ?_ |refine Fl.nilF ?_ |refine AWP.seq ?_ |refine AWP.region ?_ |fail)
  refine Fl.io rfl [] h rfl rfl (LeL.refl _) rfl ⟨⟨⟨_, rfl, BLe.cells (LeL.refl _)⟩, rfl⟩, trivial⟩ rfl rfl rfl rfl rfl ?_
  repeat' (first |refine Fl.v rfl rfl rfl ?_ |refine Fl.nilF ?_ |refine AWP.ret ?_ |fail)
  exact ⟨⟨[], _, _, Ent.refl _ _ _, rfl, AV.Le.bool he, rfl, ⟨⟨⟨_, rfl, BLe.cells (LeL.refl _)⟩, rfl⟩, trivial⟩, rfl, rfl⟩⟩
theorem link11_ok (i : Nat) (t : TZ) (hi : i < t.e.length) : IoFn Tryz.prog 142 [aT t, .ptr 900 0] (iB i) (.ret (aB (decide (0 < t.e.getD i 0)))) (iB i) := by
  refine IoFn.of_body Tryz.func142 rfl Tryz.ntmps142 rfl rfl rfl ?_
  repeat' (first |refine Fl.v rfl rfl rfl ?_ |refine Fl.nilF ?_ |refine AWP.seq ?_ |refine AWP.region ?_ |refine Fl.b rfl rfl rfl rfl ?_ |refine AWP.ret ?_ |(refine Fl.el rfl rfl rfl rfl rfl rfl rfl rfl (by omega) (by omega) ?_; intro _ _) |fail)
  rename_i x hx
  have hx : t.e[i]? = some x := by simpa using hx
  refine ⟨⟨[], _, _, Ent.refl _ _ _, rfl, AV.Le.bool ?_, rfl, ⟨⟨⟨_, rfl, BLe.cells (LeL.refl _)⟩, rfl⟩, trivial⟩, rfl, rfl⟩⟩
  rw [List.getD_eq_getElem?_getD, hx]
  rfl
theorem idxK_ok (o : Int) (f : PZ → Bool) (ps : List PZ) (hl : ps.length ≤ 1000000) (hf : ∀ p ∈ ps, IoFn Tryz.prog 140 ([aP p] ++ [.ptr 900 0]) (iB o) (.ret (aB (f p))) (iB o)) :
    IoFn Tryz.prog 188 [.sl 2 eP ps, .fn 140 [.ptr 900 0]] (iB o) (.ret (aN (idxI f ps 0))) (iB o) := by
  refine IoFn.of_body Tryz.func188 rfl Tryz.ntmps188 rfl rfl rfl ?_
  repeat' (first |refine Fl.v rfl rfl rfl ?_ |refine Fl.nilF ?_ |refine AWP.seq ?_ |refine AWP.region ?_ |refine AWP.block ?_ |fail)
  refine AWP.loop (G := Nat) (fun i => i ≤ ps.length ∧ idxI f (ps.drop i) i = idxI f ps 0) (fun i => St.of [900] [(0, .sl 2 eP ps), (1, .fn 140 [.ptr 900 0]), (7, aN ps.length), (8, aN i)] [(900, .cells [aN o] 3)]) (fun i => ps.length - i) 0 ⟨by omega, by simp⟩ ?_ ?_
  · refine Ent.of [] ?_ ?_ rfl rfl
    repeat' (first | exact True.intro |refine ⟨⟨AV.Le.refl _, rfl⟩, ?_⟩ |refine ⟨⟨AV.Le.any _, rfl⟩, ?_⟩ |refine ⟨⟨⟨_, rfl, BLe.cells (LeL.refl _)⟩, rfl⟩, ?_⟩ |refine ⟨⟨⟨_, rfl, BLe.row rfl⟩, rfl⟩, ?_⟩ |refine ⟨⟨⟨_, rfl, BLe.row ?_⟩, rfl⟩, ?_⟩ |refine ⟨⟨⟨_, rfl, BLe.cells ?_⟩, rfl⟩, ?_⟩ |refine ⟨⟨AV.Le.int ?_, rfl⟩, ?_⟩ |refine ⟨⟨AV.Le.bool ?_, rfl⟩, ?_⟩ |refine ⟨⟨AV.Le.sl ?_, rfl⟩, ?_⟩ |refine ⟨⟨AV.Le.of_eq ?_, rfl⟩, ?_⟩ | fail)
  · intro i ⟨k0, k1⟩
    repeat' (first |refine Fl.v rfl rfl rfl ?_ |refine Fl.nilF ?_ |refine AWP.seq ?_ |refine AWP.region ?_ |(refine AWP.condD rfl ?_ ?_ <;> intro _ <;> try (exfalso; omega)) |refine AWP.block ?_ |refine AWP.skip ?_ |refine AWP.exit ?_ |refine AWP.ret ?_ |(refine Fl.el rfl rfl rfl rfl rfl rfl rfl rfl (by omega) (by omega) ?_; intro _ _) |fail)
    · rename_i hi p hp
      rw [Int.toNat_natCast] at hp
      have hd := idxI_drop (f := f) hp
      refine Fl.ioV rfl rfl [] (hf p (List.mem_of_getElem? hp)) rfl rfl (LeL.refl _) rfl ⟨⟨⟨_, rfl, BLe.cells (LeL.refl _)⟩, rfl⟩, trivial⟩ rfl rfl rfl rfl rfl ?_
      repeat' (first |refine Fl.v rfl rfl rfl ?_ |refine Fl.nilF ?_ |refine AWP.seq ?_ |refine AWP.region ?_ |refine Fl.w rfl rfl rfl (by first | exact True.intro | omega) ?_ |refine AWP.skip ?_ |refine AWP.ret ?_ |(refine AWP.condB rfl ?_ ?_ <;> intro _) |fail)
      · rename_i hb
        rw [if_pos hb] at hd
        refine ⟨⟨[], _, _, Ent.refl _ _ _, rfl, AV.Le.int ?_, rfl, ⟨⟨⟨_, rfl, BLe.cells (LeL.refl _)⟩, rfl⟩, trivial⟩, rfl, rfl⟩⟩
        rw [← k1, hd]
      · rename_i hb
        rw [if_neg (by rw [hb]; simp)] at hd
        refine LoopEnd.of (i + 1) ⟨by omega, by rw [← k1, hd]⟩ (by omega) ?_
        refine Ent.of [] ?_ ?_ rfl rfl
        repeat' (first | exact True.intro |refine ⟨⟨AV.Le.refl _, rfl⟩, ?_⟩ |refine ⟨⟨AV.Le.any _, rfl⟩, ?_⟩ |refine ⟨⟨⟨_, rfl, BLe.cells (LeL.refl _)⟩, rfl⟩, ?_⟩ |refine ⟨⟨⟨_, rfl, BLe.row rfl⟩, rfl⟩, ?_⟩ |refine ⟨⟨⟨_, rfl, BLe.row ?_⟩, rfl⟩, ?_⟩ |refine ⟨⟨⟨_, rfl, BLe.cells ?_⟩, rfl⟩, ?_⟩ |refine ⟨⟨AV.Le.int ?_, rfl⟩, ?_⟩ |refine ⟨⟨AV.Le.bool ?_, rfl⟩, ?_⟩ |refine ⟨⟨AV.Le.sl ?_, rfl⟩, ?_⟩ |refine ⟨⟨AV.Le.of_eq ?_, rfl⟩, ?_⟩ | fail)
    · refine ⟨⟨[], _, _, Ent.refl _ _ _, rfl, AV.Le.int ?_, rfl, ⟨⟨⟨_, rfl, BLe.cells (LeL.refl _)⟩, rfl⟩, trivial⟩, rfl, rfl⟩⟩
      rw [← k1, List.drop_of_length_le (by omega)]; rfl
theorem conK_ok (o : Int) (f : PZ → Bool) (ps : List PZ) (hl : ps.length ≤ 1000000) (hf : ∀ p ∈ ps, IoFn Tryz.prog 140 ([aP p] ++ [.ptr 900 0]) (iB o) (.ret (aB (f p))) (iB o)) :
    IoFn Tryz.prog 139 [.sl 2 eP ps, .fn 140 [.ptr 900 0]] (iB o) (.ret (aB (ps.any f))) (iB o) := by
  refine IoFn.of_body Tryz.func139 rfl Tryz.ntmps139 rfl rfl rfl ?_
  have h := idxK_ok o f ps hl hf
  have he := idxI_any f ps 0 (by omega)
  repeat' (first |refine Fl.v rfl rfl rfl ?_ |refine Fl.nilF ?_ |refine AWP.seq ?_ |refine AWP.region ?_ |fail)
  refine Fl.io rfl [] h rfl rfl (LeL.refl _) rfl ⟨⟨⟨_, rfl, BLe.cells (LeL.refl _)⟩, rfl⟩, trivial⟩ rfl rfl rfl rfl rfl ?_
  repeat' (first |refine Fl.v rfl rfl rfl ?_ |refine Fl.nilF ?_ |refine AWP.ret ?_ |fail)
  exact ⟨⟨[], _, _, Ent.refl _ _ _, rfl, AV.Le.bool he, rfl, ⟨⟨⟨_, rfl, BLe.cells (LeL.refl _)⟩, rfl⟩, trivial⟩, rfl, rfl⟩⟩
theorem linkK1_ok (i : Nat) (p : PZ) (hl : p.terms.length ≤ 1000000) (hi : ∀ t ∈ p.terms, i < t.e.length) : IoFn Tryz.prog 140 [aP p, .ptr 900 0] (iB i) (.ret (aB (p.terms.any fun t => decide (0 < t.e.getD i 0)))) (iB i) := by
  refine IoFn.of_body Tryz.func140 rfl Tryz.ntmps140 rfl rfl rfl ?_
  have h := conT_ok i (fun t => decide (0 < t.e.getD i 0)) p.terms hl (fun t ht => link11_ok i t (hi t ht))
  repeat' (first |refine Fl.v rfl rfl rfl ?_ |refine Fl.nilF ?_ |refine AWP.seq ?_ |refine AWP.region ?_ |refine Fl.b rfl rfl rfl rfl ?_ |fail)

  refine Fl.io rfl [] h rfl rfl (LeL.refl _) rfl ⟨⟨⟨_, rfl, BLe.cells (LeL.refl _)⟩, rfl⟩, trivial⟩ rfl rfl rfl rfl rfl ?_
  repeat' (first |refine Fl.v rfl rfl rfl ?_ |refine Fl.nilF ?_ |refine AWP.ret ?_ |fail)
  exact ⟨⟨[], _, _, Ent.refl _ _ _, rfl, AV.Le.refl _, rfl, ⟨⟨⟨_, rfl, BLe.cells (LeL.refl _)⟩, rfl⟩, trivial⟩, rfl, rfl⟩⟩
end Go.Proofs.YtcaecieigoplbaaGreat
/- Kit.Link, Kit.Eq: the walk. -/
namespace Go.AL
def occP (ls : List (List UT)) (i : Nat) : Bool := ls.any fun p => p.any fun u => decide (0 < u.2.getD i 0)
def occI (ls : List (List UT)) (i : Nat) : List Int := ((List.range i).filter (occP ls)).map fun (j : Nat) => (j : Int)
theorem occI_step (ls : List (List UT)) (i : Nat) : occI ls (i + 1) = if occP ls i = true then occI ls i ++ [(i : Int)] else occI ls i := by
  unfold occI
  rw [List.range_succ, List.filter_append, List.map_append]
  by_cases h : occP ls i = true
  · rw [if_pos h]; simp [h]
  · rw [if_neg h]; simp [h]
theorem occI_len (ls : List (List UT)) (i : Nat) : (occI ls i).length ≤ i := by
  unfold occI
  rw [List.length_map]
  exact Nat.le_trans (List.length_filter_le _ _) (by simp)
theorem occI_mem {ls : List (List UT)} {V : Nat} {x : Int} (h : x ∈ occI ls V) : 0 ≤ x ∧ x < V := by
  unfold occI at h
  obtain ⟨j, hj, rfl⟩ := List.mem_map.1 h
  have := (List.mem_filter.1 hj).1
  rw [List.mem_range] at this
  omega
theorem occP_any (V : Nat) (ls : List (List UT)) (i : Nat) : ((ls.map (mkP V)).any fun p => p.terms.any fun t => decide (0 < t.e.getD i 0)) = occP ls i := by
  unfold occP
  rw [List.any_map]
  congr 1
  funext p
  simp only [Function.comp, mkP, List.any_map]
  rfl
def pickX (occ : List Int) (e : List Int) : List Int := occ.map fun x => e.getD x.toNat 0
theorem pickX_eq (occ : List Nat) (e : List Int) : pickX (occ.map fun (i : Nat) => (i : Int)) e = pickE occ e := by
  unfold pickX pickE
  rw [List.map_map]
  rfl
end Go.AL
namespace Go.Proofs.YtcaecieigoplbaaGreat
open Go.AL

set_option maxHeartbeats 1000000 in
theorem kLink_ok (V : Nat) (kind : Int) (ls : List (List UT)) (hV : V ≤ 32) (hl : ls.length ≤ 1000) (hk : ∀ p ∈ ls, p.length ≤ 3000 ∧ ∀ u ∈ p, u.2.length = V) : PureFn Tryz.prog 68 [aK V, aN kind, .sl 2 eP (ls.map (mkP V))] (aL (linkU V kind ls)) := by
  refine PureFn.of_body Tryz.func68 rfl Tryz.ntmps68 rfl rfl ?_
  obtain ⟨L, hL⟩ : ∃ L, L = ls.map (mkP V) := ⟨_, rfl⟩
  have hLl : L.length = ls.length := by rw [hL, List.length_map]
  rw [← hL]
  have hcon : ∀ i : Nat, i < V → IoFn Tryz.prog 139 [.sl 2 eP L, .fn 140 [.ptr 900 0]] (iB i) (.ret (aB (occP ls i))) (iB i) := fun i hi => by
    have h := conK_ok i (fun p => p.terms.any fun t => decide (0 < t.e.getD i 0)) L (by omega) (fun p hp => by
      rw [hL] at hp
      obtain ⟨q, hq, rfl⟩ := List.mem_map.1 hp
      have := hk q hq
      refine linkK1_ok i (mkP V q) (by simp only [mkP, List.length_map]; omega) (fun t ht => ?_)
      obtain ⟨u, hu, rfl⟩ := List.mem_map.1 ht
      have := this.2 u hu
      show i < u.2.length
      omega)
    rw [hL, occP_any] at h
    rw [hL]
    exact h
  refine AWP.seqS ?_
  repeat' (first |refine Fl.nilF ?_ |refine AWP.region ?_ |refine Fl.b rfl rfl rfl rfl ?_ |fail)
  refine ⟨AWP.seqS ?_⟩
  repeat' (first |refine Fl.v rfl rfl rfl ?_ |refine Fl.nilF ?_ |refine AWP.region ?_ |refine Fl.b rfl rfl rfl rfl ?_ |fail)
  refine ⟨?_⟩
  refine AWP.ent (Ent.nilcell 7 1 805 rfl rfl rfl 1 eI 3) ?_
  repeat' (first |refine Fl.v rfl rfl rfl ?_ |refine Fl.nilF ?_ |refine AWP.seq ?_ |refine AWP.region ?_ |refine AWP.block ?_ |fail)
  refine AWP.loop (G := Nat) (fun i => i ≤ V) (fun i => St.of [] [(2, .sl 2 eP L), (6, .ptr 6 0), (7, .ptr 7 0), (20, aN V), (21, aN i)] [(6, .cells [aN 0, .v (.slice none 0 0), .v (.slice none 0 0)] 82), (7, .cells [aN kind, .row 700, .v (.slice none 0 0)] 82), (700, .row 1 eI (occI ls i) 3)]) (fun i => V - i) 0 (by omega) ?_ ?_
  · refine Ent.of [(700, 805)] ?_ ?_ rfl rfl
    repeat' (first | exact True.intro |refine ⟨⟨AV.Le.refl _, rfl⟩, ?_⟩ |refine ⟨⟨AV.Le.any _, rfl⟩, ?_⟩ |refine ⟨⟨⟨_, rfl, BLe.cells (LeL.refl _)⟩, rfl⟩, ?_⟩ |refine ⟨⟨⟨_, rfl, BLe.row rfl⟩, rfl⟩, ?_⟩ |refine ⟨⟨⟨_, rfl, BLe.row ?_⟩, rfl⟩, ?_⟩ |refine ⟨⟨⟨_, rfl, BLe.cells ?_⟩, rfl⟩, ?_⟩ |refine ⟨⟨AV.Le.int ?_, rfl⟩, ?_⟩ |refine ⟨⟨AV.Le.bool ?_, rfl⟩, ?_⟩ |refine ⟨⟨AV.Le.sl ?_, rfl⟩, ?_⟩ |refine ⟨⟨AV.Le.of_eq ?_, rfl⟩, ?_⟩ | fail)
  · intro i k0
    have hol := occI_len ls i
    have hst := occI_step ls i
    repeat' (first |refine Fl.v rfl rfl rfl ?_ |refine Fl.nilF ?_ |refine AWP.seq ?_ |refine AWP.region ?_ |refine Fl.b rfl rfl rfl rfl ?_ |(refine AWP.condD rfl ?_ ?_ <;> intro _ <;> try (exfalso; omega)) |refine AWP.block ?_ |refine AWP.skip ?_ |refine AWP.exit ?_ |fail)
    · rename_i hi
      refine Fl.io rfl [(900, 8)] (hcon i (by omega)) rfl rfl (LeL.refl _) rfl ⟨⟨⟨_, rfl, BLe.cells (LeL.refl _)⟩, rfl⟩, trivial⟩ rfl rfl rfl rfl rfl ?_
      repeat' (first |refine Fl.v rfl rfl rfl ?_ |refine Fl.nilF ?_ |refine AWP.region ?_ |refine Fl.w rfl rfl rfl (by first | exact True.intro | omega) ?_ |refine AWP.skip ?_ |(refine AWP.condB rfl ?_ ?_ <;> intro _) |fail)
      · rename_i hb
        rw [if_pos hb] at hst
        refine Fl.lit rfl rfl rfl rfl rfl eI [(i : Int)] rfl rfl rfl rfl (by intro _ _; rfl) rfl ?_
        skip
        refine Fl.ap rfl rfl rfl rfl rfl rfl rfl rfl rfl rfl rfl rfl rfl (fun _ => rfl) (fun _ => rfl) (AV.Le.refl _) (by dsimp only [List.length_nil, List.length_cons]; omega) (by simp; omega) ?_
        repeat' (first |refine Fl.v rfl rfl rfl ?_ |refine Fl.nilF ?_ |refine AWP.region ?_ |refine Fl.w rfl rfl rfl (by first | exact True.intro | omega) ?_ |refine Fl.b rfl rfl rfl rfl ?_ |fail)
        refine LoopEnd.of (i + 1) (by omega) (by omega) ?_
        refine Ent.of [(700, 31)] ?_ ?_ rfl rfl
        repeat' (first | exact True.intro |refine ⟨⟨AV.Le.refl _, rfl⟩, ?_⟩ |refine ⟨⟨AV.Le.any _, rfl⟩, ?_⟩ |refine ⟨⟨⟨_, rfl, BLe.cells (LeL.refl _)⟩, rfl⟩, ?_⟩ |refine ⟨⟨⟨_, rfl, BLe.row rfl⟩, rfl⟩, ?_⟩ |refine ⟨⟨⟨_, rfl, BLe.row ?_⟩, rfl⟩, ?_⟩ |refine ⟨⟨⟨_, rfl, BLe.cells ?_⟩, rfl⟩, ?_⟩ |refine ⟨⟨AV.Le.int ?_, rfl⟩, ?_⟩ |refine ⟨⟨AV.Le.bool ?_, rfl⟩, ?_⟩ |refine ⟨⟨AV.Le.sl ?_, rfl⟩, ?_⟩ |refine ⟨⟨AV.Le.of_eq ?_, rfl⟩, ?_⟩ | fail)
        exact hst.symm
      · rename_i hb
        rw [if_neg (by rw [hb]; simp)] at hst
        refine LoopEnd.of (i + 1) (by omega) (by omega) ?_
        refine Ent.of [] ?_ ?_ rfl rfl
        repeat' (first | exact True.intro |refine ⟨⟨AV.Le.refl _, rfl⟩, ?_⟩ |refine ⟨⟨AV.Le.any _, rfl⟩, ?_⟩ |refine ⟨⟨⟨_, rfl, BLe.cells (LeL.refl _)⟩, rfl⟩, ?_⟩ |refine ⟨⟨⟨_, rfl, BLe.row rfl⟩, rfl⟩, ?_⟩ |refine ⟨⟨⟨_, rfl, BLe.row ?_⟩, rfl⟩, ?_⟩ |refine ⟨⟨⟨_, rfl, BLe.cells ?_⟩, rfl⟩, ?_⟩ |refine ⟨⟨AV.Le.int ?_, rfl⟩, ?_⟩ |refine ⟨⟨AV.Le.bool ?_, rfl⟩, ?_⟩ |refine ⟨⟨AV.Le.sl ?_, rfl⟩, ?_⟩ |refine ⟨⟨AV.Le.of_eq ?_, rfl⟩, ?_⟩ | fail)
        exact hst.symm
    · rename_i hi
      have hiV : i = V := by omega
      subst hiV
      have hom : ∀ (m : Nat) (x : Int), (occI ls i)[m]? = some x → 0 ≤ x ∧ x < i := fun m x hx => occI_mem (List.mem_of_getElem? hx)
      have hocc : occI ls i = (occL i ls).map fun (i : Nat) => (i : Int) := rfl
      have hon : (occL i ls).length = (occI ls i).length := by rw [hocc, List.length_map]
      have hres : linkU i kind ls = ⟨kind, occI ls i, ls.map fun p => mkP (occI ls i).length (p.map fun u => (u.1, pickX (occI ls i) u.2))⟩ := by
        unfold linkU
        rw [← hocc, hon]
        congr 1
        refine List.map_congr_left fun p _ => ?_
        unfold pickU
        congr 1
        refine List.map_congr_left fun u _ => ?_
        rw [hocc, pickX_eq]
      rw [hres]
      generalize occI ls i = occ at *
      refine AWP.ent (Ent.freeze 700 rfl) ?_
      refine AWP.ent (Ent.nilcell 7 2 806 rfl rfl rfl 2 eP 70) ?_
      skip
      refine AWP.loop (G := Nat) (fun j => j ≤ ls.length) (fun j => St.of [] [(6, .ptr 6 0), (7, .ptr 7 0), (34, .sl 2 eP L), (35, aN L.length), (36, aN j)] [(6, .cells [aN 0, .v (.slice none 0 0), .v (.slice none 0 0)] 82), (7, .cells [aN kind, aI occ, .row 701] 82), (701, .row 2 eP ((ls.take j).map fun p => mkP occ.length (p.map fun u => (u.1, pickX occ u.2))) 70)]) (fun j => ls.length - j) 0 (by omega) ?_ ?_
      · refine Ent.of [(701, 806)] ?_ ?_ rfl rfl
        repeat' (first | exact True.intro |refine ⟨⟨AV.Le.refl _, rfl⟩, ?_⟩ |refine ⟨⟨AV.Le.any _, rfl⟩, ?_⟩ |refine ⟨⟨⟨_, rfl, BLe.cells (LeL.refl _)⟩, rfl⟩, ?_⟩ |refine ⟨⟨⟨_, rfl, BLe.row rfl⟩, rfl⟩, ?_⟩ |refine ⟨⟨⟨_, rfl, BLe.row ?_⟩, rfl⟩, ?_⟩ |refine ⟨⟨⟨_, rfl, BLe.cells ?_⟩, rfl⟩, ?_⟩ |refine ⟨⟨AV.Le.int ?_, rfl⟩, ?_⟩ |refine ⟨⟨AV.Le.bool ?_, rfl⟩, ?_⟩ |refine ⟨⟨AV.Le.sl ?_, rfl⟩, ?_⟩ |refine ⟨⟨AV.Le.of_eq ?_, rfl⟩, ?_⟩ | fail)
      · intro j g0
        have hlj : ((ls.take j).map fun p => mkP occ.length (p.map fun u => (u.1, pickX occ u.2))).length = j := by rw [List.length_map, List.length_take]; omega
        by_cases hj : j < ls.length
        · obtain ⟨q, hq⟩ : ∃ q, ls[j]? = some q := ⟨_, List.getElem?_eq_getElem hj⟩
          have hLq : L[j]? = some (mkP i q) := by rw [hL, List.getElem?_map, hq]; rfl
          obtain ⟨hq1, hq2⟩ := hk q (List.mem_of_getElem? hq)
          refine AWP.seqS ?_
          repeat' (first |refine Fl.v rfl rfl rfl ?_ |refine Fl.nilF ?_ |refine AWP.region ?_ |fail)
          refine ⟨?_⟩
          refine AWP.seqS ?_
          repeat' (first |(refine AWP.condD rfl ?_ ?_ <;> intro _ <;> try (exfalso; omega)) |refine AWP.skip ?_ |fail)
          refine ⟨?_⟩
          refine AWP.seq (AWP.block (AWP.seqS ?_))
          repeat' (first |refine Fl.v rfl rfl rfl ?_ |refine Fl.nilF ?_ |refine AWP.region ?_ |refine Fl.b rfl rfl rfl rfl ?_ |refine Fl.elK rfl rfl rfl rfl rfl rfl rfl rfl (by assumption) (by omega) ?_ |fail)
          refine ⟨?_⟩
          refine AWP.seqS ?_
          repeat' (first |refine Fl.v rfl rfl rfl ?_ |refine Fl.nilF ?_ |refine AWP.region ?_ |refine Fl.b rfl rfl rfl rfl ?_ |fail)
          refine ⟨?_⟩
          refine AWP.ent (Ent.nilcell 11 1 807 rfl rfl rfl 3 eT 124) ?_
          repeat' (first |refine Fl.v rfl rfl rfl ?_ |refine Fl.nilF ?_ |refine AWP.seq ?_ |refine AWP.region ?_ |refine AWP.block ?_ |fail)
          obtain ⟨T, hT⟩ : ∃ T, T = (mkP i q).terms := ⟨_, rfl⟩
          have hTl : T.length = q.length := by rw [hT]; simp [mkP]
          refine AWP.loop (G := Nat) (fun k => k ≤ q.length) (fun k => St.of [] [(6, .ptr 6 0), (7, .ptr 7 0), (34, .sl 2 eP L), (35, aN L.length), (36, aN j), (11, .ptr 11 0), (45, .sl 3 eT T), (46, aN T.length), (47, aN k)] [(6, .cells [aN 0, .v (.slice none 0 0), .v (.slice none 0 0)] 82), (7, .cells [aN kind, aI occ, .row 701] 82), (701, .row 2 eP ((ls.take j).map fun p => mkP occ.length (p.map fun u => (u.1, pickX occ u.2))) 70), (11, .cells [aN occ.length, .row 702] 70), (702, .row 3 eT (((q.take k).map fun u => (u.1, pickX occ u.2)).map tz) 124)]) (fun k => q.length - k) 0 (by omega) ?_ ?_
          · refine Ent.of [(702, 807)] ?_ ?_ rfl rfl
            repeat' (first | exact True.intro |refine ⟨⟨AV.Le.refl _, rfl⟩, ?_⟩ |refine ⟨⟨AV.Le.any _, rfl⟩, ?_⟩ |refine ⟨⟨⟨_, rfl, BLe.cells (LeL.refl _)⟩, rfl⟩, ?_⟩ |refine ⟨⟨⟨_, rfl, BLe.row rfl⟩, rfl⟩, ?_⟩ |refine ⟨⟨⟨_, rfl, BLe.row ?_⟩, rfl⟩, ?_⟩ |refine ⟨⟨⟨_, rfl, BLe.cells ?_⟩, rfl⟩, ?_⟩ |refine ⟨⟨AV.Le.int ?_, rfl⟩, ?_⟩ |refine ⟨⟨AV.Le.bool ?_, rfl⟩, ?_⟩ |refine ⟨⟨AV.Le.sl ?_, rfl⟩, ?_⟩ |refine ⟨⟨AV.Le.of_eq ?_, rfl⟩, ?_⟩ | fail)
            · exact hT.symm
            · rw [hTl]; simp [mkP]
          · intro k e0
            have hlk : (((q.take k).map fun u => (u.1, pickX occ u.2)).map tz).length = k := by rw [List.length_map, List.length_map, List.length_take]; omega
            by_cases hkq : k < q.length
            · obtain ⟨u, hu⟩ : ∃ u, q[k]? = some u := ⟨_, List.getElem?_eq_getElem hkq⟩
              have hTu : T[k]? = some (tz u) := by rw [hT]; show (q.map tz)[k]? = _; rw [List.getElem?_map, hu]; rfl
              have hul := hq2 u (List.mem_of_getElem? hu)
              refine AWP.seqS ?_
              repeat' (first |refine Fl.v rfl rfl rfl ?_ |refine Fl.nilF ?_ |refine AWP.region ?_ |fail)
              refine ⟨?_⟩
              refine AWP.seqS ?_
              repeat' (first |(refine AWP.condD rfl ?_ ?_ <;> intro _ <;> try (exfalso; omega)) |refine AWP.skip ?_ |fail)
              refine ⟨AWP.seq (AWP.block (AWP.seqS ?_))⟩
              repeat' (first |refine Fl.v rfl rfl rfl ?_ |refine Fl.nilF ?_ |refine AWP.region ?_ |refine Fl.b rfl rfl rfl rfl ?_ |refine Fl.elK rfl rfl rfl rfl rfl rfl rfl rfl (by assumption) (by omega) ?_ |fail)
              refine ⟨AWP.seqS ?_⟩
              repeat' (first |refine Fl.v rfl rfl rfl ?_ |refine AWP.region ?_ |fail)
              refine Fl.make0 rfl rfl rfl rfl rfl rfl rfl rfl rfl eI (by omega) (by dsimp only; omega) (by omega) ?_
              repeat' (first |refine Fl.v rfl rfl rfl ?_ |refine Fl.nilF ?_ |fail)
              refine ⟨AWP.seq ?_⟩
              repeat' (first |refine Fl.v rfl rfl rfl ?_ |refine Fl.nilF ?_ |refine AWP.seq ?_ |refine AWP.region ?_ |refine AWP.block ?_ |fail)
              refine AWP.loop (G := Nat) (fun m => m ≤ occ.length) (fun m => St.of [] [(6, .ptr 6 0), (7, .ptr 7 0), (34, .sl 2 eP L), (35, aN L.length), (36, aN j), (11, .ptr 11 0), (45, .sl 3 eT T), (46, aN T.length), (47, aN k), (13, .ptr 13 0), (14, .row 703), (56, aI occ), (57, aN occ.length), (58, aN m)] [(6, .cells [aN 0, .v (.slice none 0 0), .v (.slice none 0 0)] 82), (7, .cells [aN kind, aI occ, .row 701] 82), (701, .row 2 eP ((ls.take j).map fun p => mkP occ.length (p.map fun u => (u.1, pickX occ u.2))) 70), (11, .cells [aN occ.length, .row 702] 70), (702, .row 3 eT (((q.take k).map fun u => (u.1, pickX occ u.2)).map tz) 124), (13, .cells (eT (tz u)) 124), (703, .row 1 eI ((occ.take m).map fun x => u.2.getD x.toNat 0) 3)]) (fun m => occ.length - m) 0 (by omega) ?_ ?_
              · refine Ent.of [(703, 54)] ?_ ?_ rfl rfl
                repeat' (first | exact True.intro |refine ⟨⟨AV.Le.refl _, rfl⟩, ?_⟩ |refine ⟨⟨AV.Le.any _, rfl⟩, ?_⟩ |refine ⟨⟨⟨_, rfl, BLe.cells (LeL.refl _)⟩, rfl⟩, ?_⟩ |refine ⟨⟨⟨_, rfl, BLe.row rfl⟩, rfl⟩, ?_⟩ |refine ⟨⟨⟨_, rfl, BLe.row ?_⟩, rfl⟩, ?_⟩ |refine ⟨⟨⟨_, rfl, BLe.cells ?_⟩, rfl⟩, ?_⟩ |refine ⟨⟨AV.Le.int ?_, rfl⟩, ?_⟩ |refine ⟨⟨AV.Le.bool ?_, rfl⟩, ?_⟩ |refine ⟨⟨AV.Le.sl ?_, rfl⟩, ?_⟩ |refine ⟨⟨AV.Le.of_eq ?_, rfl⟩, ?_⟩ | fail)
              · intro m m0
                have hlm : ((occ.take m).map fun x => u.2.getD x.toNat 0).length = m := by rw [List.length_map, List.length_take]; omega
                by_cases hm : m < occ.length
                · obtain ⟨x, hx⟩ : ∃ x, occ[m]? = some x := ⟨_, List.getElem?_eq_getElem hm⟩
                  have hxb := hom m x hx
                  obtain ⟨y, hy⟩ : ∃ y, u.2[x.toNat]? = some y := ⟨_, List.getElem?_eq_getElem (by omega)⟩
                  repeat' (first |refine Fl.v rfl rfl rfl ?_ |refine Fl.nilF ?_ |refine AWP.seq ?_ |refine AWP.region ?_ |(refine AWP.condD rfl ?_ ?_ <;> intro _ <;> try (exfalso; omega)) |refine AWP.block ?_ |refine AWP.skip ?_ |refine Fl.elK rfl rfl rfl rfl rfl rfl rfl rfl (by assumption) (by omega) ?_ |fail)
                  refine Fl.lit rfl rfl rfl rfl rfl eI [y] rfl rfl rfl rfl (by intro _ _; rfl) rfl ?_
                  skip
                  refine Fl.ap rfl rfl rfl rfl rfl rfl rfl rfl rfl rfl rfl rfl rfl (fun _ => rfl) (fun _ => rfl) (AV.Le.refl _) (by dsimp only [List.length_nil, List.length_cons]; omega) (by dsimp only [List.length_nil, List.length_cons]; omega) ?_
                  repeat' (first |refine Fl.v rfl rfl rfl ?_ |refine Fl.nilF ?_ |refine AWP.region ?_ |refine Fl.w rfl rfl rfl (by first | exact True.intro | omega) ?_ |fail)
                  refine LoopEnd.of (m + 1) (by omega) (by omega) ?_
                  refine Ent.of [(703, 69)] ?_ ?_ rfl rfl
                  repeat' (first | exact True.intro |refine ⟨⟨AV.Le.refl _, rfl⟩, ?_⟩ |refine ⟨⟨AV.Le.any _, rfl⟩, ?_⟩ |refine ⟨⟨⟨_, rfl, BLe.cells (LeL.refl _)⟩, rfl⟩, ?_⟩ |refine ⟨⟨⟨_, rfl, BLe.row rfl⟩, rfl⟩, ?_⟩ |refine ⟨⟨⟨_, rfl, BLe.row ?_⟩, rfl⟩, ?_⟩ |refine ⟨⟨⟨_, rfl, BLe.cells ?_⟩, rfl⟩, ?_⟩ |refine ⟨⟨AV.Le.int ?_, rfl⟩, ?_⟩ |refine ⟨⟨AV.Le.bool ?_, rfl⟩, ?_⟩ |refine ⟨⟨AV.Le.sl ?_, rfl⟩, ?_⟩ |refine ⟨⟨AV.Le.of_eq ?_, rfl⟩, ?_⟩ | fail)
                  rw [take_snoc hx, List.map_append]
                  congr 1
                  show [y] = [u.2.getD x.toNat 0]
                  rw [List.getD_eq_getElem?_getD, hy]
                  rfl
                · have htm : occ.take m = occ := List.take_of_length_le (by omega)
                  rw [htm]
                  refine AWP.ent (Ent.freeze 703 rfl) ?_
                  repeat' (first |refine Fl.v rfl rfl rfl ?_ |refine Fl.nilF ?_ |refine AWP.seq ?_ |refine AWP.region ?_ |refine Fl.b rfl rfl rfl rfl ?_ |(refine AWP.condD rfl ?_ ?_ <;> intro _ <;> try (exfalso; omega)) |refine AWP.exit ?_ |fail)
                  refine Fl.lit rfl rfl rfl rfl rfl eT [tz (u.1, pickX occ u.2)] rfl rfl rfl rfl (by intro _ _; rfl) rfl ?_
                  skip
                  refine Fl.ap rfl rfl rfl rfl rfl rfl rfl rfl rfl rfl rfl rfl rfl (fun _ => rfl) (fun _ => rfl) (AV.Le.refl _) (by dsimp only [List.length_nil, List.length_cons]; omega) (by dsimp only [List.length_nil, List.length_cons]; omega) ?_
                  repeat' (first |refine Fl.v rfl rfl rfl ?_ |refine Fl.nilF ?_ |refine AWP.region ?_ |refine Fl.w rfl rfl rfl (by first | exact True.intro | omega) ?_ |refine Fl.b rfl rfl rfl rfl ?_ |fail)
                  refine LoopEnd.of (k + 1) (by omega) (by omega) ?_
                  refine Ent.of [(702, 78)] ?_ ?_ rfl rfl
                  repeat' (first | exact True.intro |refine ⟨⟨AV.Le.refl _, rfl⟩, ?_⟩ |refine ⟨⟨AV.Le.any _, rfl⟩, ?_⟩ |refine ⟨⟨⟨_, rfl, BLe.cells (LeL.refl _)⟩, rfl⟩, ?_⟩ |refine ⟨⟨⟨_, rfl, BLe.row rfl⟩, rfl⟩, ?_⟩ |refine ⟨⟨⟨_, rfl, BLe.row ?_⟩, rfl⟩, ?_⟩ |refine ⟨⟨⟨_, rfl, BLe.cells ?_⟩, rfl⟩, ?_⟩ |refine ⟨⟨AV.Le.int ?_, rfl⟩, ?_⟩ |refine ⟨⟨AV.Le.bool ?_, rfl⟩, ?_⟩ |refine ⟨⟨AV.Le.sl ?_, rfl⟩, ?_⟩ |refine ⟨⟨AV.Le.of_eq ?_, rfl⟩, ?_⟩ | fail)
                  rw [take_snoc hu, List.map_append, List.map_append]
                  rfl
            · have htk : q.take k = q := List.take_of_length_le (by omega)
              rw [htk]
              refine AWP.ent (Ent.freeze 702 rfl) ?_
              repeat' (first |refine Fl.v rfl rfl rfl ?_ |refine Fl.nilF ?_ |refine AWP.seq ?_ |refine AWP.region ?_ |(refine AWP.condD rfl ?_ ?_ <;> intro _ <;> try (exfalso; omega)) |refine AWP.exit ?_ |fail)
              refine Fl.lit rfl rfl rfl rfl rfl eP [mkP occ.length (q.map fun u => (u.1, pickX occ u.2))] rfl rfl rfl rfl (by intro _ _; rfl) rfl ?_
              skip
              refine Fl.ap rfl rfl rfl rfl rfl rfl rfl rfl rfl rfl rfl rfl rfl (fun _ => rfl) (fun _ => rfl) (AV.Le.refl _) (by dsimp only [List.length_nil, List.length_cons]; omega) (by dsimp only [List.length_nil, List.length_cons]; omega) ?_
              repeat' (first |refine Fl.v rfl rfl rfl ?_ |refine Fl.nilF ?_ |refine AWP.region ?_ |refine Fl.w rfl rfl rfl (by first | exact True.intro | omega) ?_ |refine Fl.b rfl rfl rfl rfl ?_ |fail)
              refine LoopEnd.of (j + 1) (by omega) (by omega) ?_
              refine Ent.of [(701, 85)] ?_ ?_ rfl rfl
              repeat' (first | exact True.intro |refine ⟨⟨AV.Le.refl _, rfl⟩, ?_⟩ |refine ⟨⟨AV.Le.any _, rfl⟩, ?_⟩ |refine ⟨⟨⟨_, rfl, BLe.cells (LeL.refl _)⟩, rfl⟩, ?_⟩ |refine ⟨⟨⟨_, rfl, BLe.row rfl⟩, rfl⟩, ?_⟩ |refine ⟨⟨⟨_, rfl, BLe.row ?_⟩, rfl⟩, ?_⟩ |refine ⟨⟨⟨_, rfl, BLe.cells ?_⟩, rfl⟩, ?_⟩ |refine ⟨⟨AV.Le.int ?_, rfl⟩, ?_⟩ |refine ⟨⟨AV.Le.bool ?_, rfl⟩, ?_⟩ |refine ⟨⟨AV.Le.sl ?_, rfl⟩, ?_⟩ |refine ⟨⟨AV.Le.of_eq ?_, rfl⟩, ?_⟩ | fail)
              rw [take_snoc hq, List.map_append]
              rfl
        · have htj : ls.take j = ls := List.take_of_length_le (by omega)
          rw [htj]
          refine AWP.ent (Ent.freeze 701 rfl) ?_
          repeat' (first |refine Fl.v rfl rfl rfl ?_ |refine Fl.nilF ?_ |refine AWP.seq ?_ |refine AWP.region ?_ |refine Fl.b rfl rfl rfl rfl ?_ |(refine AWP.condD rfl ?_ ?_ <;> intro _ <;> try (exfalso; omega)) |refine AWP.exit ?_ |refine AWP.ret ?_ |fail)
          exact RetOk.of rfl (AV.Le.refl _)
theorem kEq_ok (V : Nat) (hV : V ≤ 32) (p q l : List UT) (hp : chkU V p p = true) (hq : chkU V q q = true) (h : chkU V (addUs (-1) p q) l = true) (hl : l.length ≤ 3000 ∧ ∀ u ∈ l, u.2.length = V) : PureFn Tryz.prog 69 [aK V, aP (mkP V p), aP (mkP V q)] (aL (linkU V 0 [l])) := by
  refine PureFn.of_body Tryz.func69 rfl Tryz.ntmps69 rfl rfl ?_
  have hk := kLink_ok V 0 [l] hV (by simp) (by simpa using hl)
  repeat' (first |refine Fl.v rfl rfl rfl ?_ |refine Fl.nilF ?_ |refine AWP.seq ?_ |refine AWP.region ?_ |refine Fl.b rfl rfl rfl rfl ?_ |fail)
  refine Fl.call rfl (kSub_ok V hV p q l hp hq h) rfl rfl rfl (LeL.refl _) ?_
  skip
  refine Fl.lit rfl rfl rfl rfl rfl eP [mkP V l] rfl rfl rfl rfl (by intro _ _; rfl) rfl ?_
  skip
  refine Fl.call rfl (hk) rfl rfl rfl (LeL.refl _) ?_
  repeat' (first |refine Fl.nil (fun _ => by kernel_rfl) ?_ |refine Fl.b rfl rfl rfl rfl ?_ |refine AWP.ret ?_ |fail)
  exact RetOk.of rfl (AV.Le.refl _)
end Go.Proofs.YtcaecieigoplbaaGreat
/- Method values of plain receivers: made, called. -/
namespace Go.AL
section
variable {P : Program} {tab : Tab} {n : Nat} {s : St}
variable {ops : Array Oper} {draw : Dr} {o : Oper} {l : List Oper} {acc : List Eff} {K : Exit → St → Prop}
abbrev bfn (f : FuncId) (us : List Value) : AV := .v (.func (.func f) #[.agg us.toArray] #[])
theorem Fl.bindM [fc : Facts P tab] {f : FuncId} {x : Operand} (hop : o.op = .makeFunc (.func f) ⟨[x]⟩ ⟨[]⟩) {cs : List AV} (hx : opd s x = .agg cs) {us : List Value} (h1 : litL cs = some us) (hg : gOk ops s o = true) (hd : dOk n o.dst = true)
    (r : Fl P n ops draw l ((Eff.mk (bfn f us) [] [] [] []).app o.dst s) (Eff.mk (bfn f us) [] [] [] [] :: acc) K) : Fl P n ops draw (o :: l) s acc K := by
  refine Fl.opv hg (OpJ.of_run (dOk_lt hd) fun C s' a w h β ho _ b => ?_) r
  have hxr := opd_rep b x
  rw [ho x (by simp [hop, Op.operands]), hx] at hxr
  simp only [Rep] at hxr
  obtain ⟨vs, e1, hr⟩ := hxr
  have e2 := litL_rep h1 hr
  refine ⟨.func (.func f) #[a.eval x] #[], by simp [execOp, hop, Instr.makeFunc], ?_⟩
  simp only [Rep]
  rw [e1, ← e2]
theorem Runs.bound {f : FuncId} {x : Operand} {args : List Operand} {ts : Array TypeId} {us : List Value} (hop : o.op = .call { callee := .value x, args := ⟨args⟩, argTypes := ts }) (hx : opd s x = bfn f us) : Runs P n o s f (.v (.agg us.toArray) :: opds s args) := by
  refine ⟨fun s' C a w h β hs k => ?_⟩
  have hxs : opd s' x = opd s x := by
    cases x with
    | tmp t => exact hs t (by rw [hop]; simp [Op.operands, Call.operands])
    | _ => rfl
  have hxr := opd_rep k x
  rw [hxs, hx] at hxr
  simp only [Rep] at hxr
  have hps : opds s' args = opds s args := opds_same args fun x hx => by
    cases x with
    | tmp t => exact hs t (by rw [hop]; simp [Op.operands, Call.operands, hx])
    | _ => rfl
  have hr := opds_rep k args
  rw [hps] at hr
  refine ⟨#[.agg us.toArray] ++ (args.map a.eval).toArray, fun hfn => ?_, ?_⟩
  · simp only [execOp, hop, resolve, hxr, Deferred.ofValue, Sem.run_bind, Sem.run_pure, Result.andThen, invoke, List.map_toArray]
    have := run_callFunc hfn (#[.agg us.toArray] ++ (args.map a.eval).toArray) w
    simpa using this
  · simp only [RepL]
    exact ⟨.agg us.toArray, args.map a.eval, by simp, by simp only [Rep], hr⟩
/-- a call of a method value -/
theorem Fl.callM {f : FuncId} {x : Operand} {args : List Operand} {ts : Array TypeId} {us : List Value} (hop : o.op = .call { callee := .value x, args := ⟨args⟩, argTypes := ts }) (hx : opd s x = bfn f us) {a : AV} {bs : List AV} {ret : AV} (hf : PureFn P f (a :: bs) ret) (hg : gOk ops s o = true) (hd : dOk n o.dst = true) (hcl : closedL (opds s args) = true) (ha : (AV.v (.agg us.toArray)).Le a) (hle : LeL (opds s args) bs)
    (r : Fl P n ops draw l ((Eff.mk ret [] [] [] []).app o.dst s) (Eff.mk ret [] [] [] [] :: acc) K) : Fl P n ops draw (o :: l) s acc K :=
  Fl.opv hg (OpJ.callG (dOk_lt hd) (Runs.bound hop hx) (LeL.cons ha hle) (by simp only [closedL, hcl, AV.closed, Bool.and_true]) hf) r
end
end Go.AL
/- arithmancy/mask.Links: the system. Written by links.py. -/
namespace Go.AL
def okLk (V : Nat) (ls : List (List UT)) : Bool := ls.all fun p => Nat.ble p.length 3000 && p.all fun u => Nat.beq u.2.length V
theorem okLk_ok {V : Nat} {ls : List (List UT)} (h : okLk V ls = true) : ∀ p ∈ ls, p.length ≤ 3000 ∧ ∀ u ∈ p, u.2.length = V := fun p hp => by
  have := List.all_eq_true.1 h p hp
  simp only [Bool.and_eq_true, List.all_eq_true] at this
  exact ⟨Nat.le_of_ble_eq_true this.1, fun u hu => Nat.eq_of_beq_eq_true (this.2 u hu)⟩
end Go.AL
namespace Go.Proofs.YtcaecieigoplbaaGreat
open Go.AL
end Go.Proofs.YtcaecieigoplbaaGreat
/- power.Links' closure: 0 - p. -/
namespace Go.Proofs.YtcaecieigoplbaaGreat
open Go.AL
theorem pwNeg_ok (V : Nat) (hV : V ≤ 32) (p l : List UT) (hp : chkU V p p = true) (h0 : chkU V (conU V 0) (conU V 0) = true) (h : chkU V (addUs (-1) (conU V 0) p) l = true) : IoFn Tryz.prog 92 [aP (mkP V p), .ptr 900 0] [(900, .cells [aN V] 84)] (.ret (aP (mkP V l))) [(900, .cells [aN V] 84)] := by
  refine IoFn.of_body Tryz.func92 rfl Tryz.ntmps92 rfl rfl rfl ?_
  repeat' (first |refine Fl.v rfl rfl rfl ?_ |refine Fl.nilF ?_ |refine AWP.seq ?_ |refine AWP.region ?_ |refine Fl.b rfl rfl rfl rfl ?_ |fail)
  refine Fl.call rfl (kN_ok V 0 hV (by omega) (by omega)) rfl rfl rfl (LeL.refl _) ?_
  repeat' (first |refine Fl.v rfl rfl rfl ?_ |fail)
  refine Fl.call rfl (kSub_ok V hV (conU V 0) p l h0 hp h) rfl rfl rfl (LeL.refl _) ?_
  repeat' (first |refine Fl.nil (fun _ => by kernel_rfl) ?_ |refine Fl.b rfl rfl rfl rfl ?_ |refine AWP.ret ?_ |fail)
  exact ⟨⟨[], _, _, Ent.refl _ _ _, rfl, AV.Le.refl _, rfl, ⟨⟨⟨_, rfl, BLe.cells (LeL.refl _)⟩, rfl⟩, trivial⟩, rfl, rfl⟩⟩
end Go.Proofs.YtcaecieigoplbaaGreat
/- arithmancy/power.Links: the system. Written by links.py. -/
namespace Go.AL
def pw0 : List UT := mulsU (conU 10 1) [varU 10 2, varU 10 0]
def pw1 : List UT := sumsU [] [varU 10 9, conU 10 1]
def pw2 : List UT := subL (varU 10 0) pw1
def pw3 : List UT := sumsU [] [varU 10 0, conU 10 2]
def pw4 : List UT := sumsU [] [varU 10 1, conU 10 2]
def pw5 : List UT := sumsU [] [varU 10 1, conU 10 1]
def pw6 : List UT := mulsU (conU 10 1) [varU 10 5, varU 10 5]
def pw7 : List UT := mulsU (conU 10 1) [varU 10 3, varU 10 3]
def pw8 : List UT := subL pw7 (conU 10 1)
def pw9 : List UT := mulsU (conU 10 1) [pw8, varU 10 4, varU 10 4]
def pw10 : List UT := sumsU [] [pw9, conU 10 1]
def pw11 : List UT := subL pw6 pw10
def pw12 : List UT := mulsU (conU 10 1) [conU 10 2, varU 10 3, varU 10 0]
def pw13 : List UT := mulsU (conU 10 1) [varU 10 0, varU 10 0]
def pw14 : List UT := subL (conU 10 0) pw13
def pw15 : List UT := sumsU [] [pw12, pw14, conU 10 (-1)]
def pw16 : List UT := subL (varU 10 6) pw15
def pw17 : List UT := subL (varU 10 3) (varU 10 0)
def pw18 : List UT := mulsU (conU 10 1) [pw17, varU 10 4]
def pw19 : List UT := mulsU (conU 10 1) [varU 10 6, varU 10 7]
def pw20 : List UT := sumsU [] [pw18, pw0, pw19]
def pw21 : List UT := subL (varU 10 5) pw20
def pw22 : List UT := sumsU [] [pw0, varU 10 8, conU 10 1]
def pw23 : List UT := subL (varU 10 6) pw22
def pwS : SZ := ⟨10, [linkU 10 0 [pw2], linkU 10 1 [pw3, pw4, varU 10 3], linkU 10 1 [varU 10 3, pw5, varU 10 4], linkU 10 0 [pw11], linkU 10 0 [pw16], linkU 10 0 [pw21], linkU 10 0 [pw23]]⟩
end Go.AL
namespace Go.Proofs.YtcaecieigoplbaaGreat
open Go.AL
set_option maxHeartbeats 2000000 in
set_option maxRecDepth 10000 in
theorem powerLinks_ok : PureFn Tryz.prog 29 [] (aS pwS) := by
  refine PureFn.of_body Tryz.func29 rfl Tryz.ntmps29 rfl rfl ?_
  refine AWP.seqS ?_
  repeat' (first |refine Fl.nilF ?_ |refine AWP.region ?_ |refine Fl.b rfl rfl rfl rfl ?_ |fail)
  refine ⟨AWP.seqS ?_⟩
  repeat' (first |refine AWP.region ?_ |fail)
  refine Fl.call rfl (kNew_ok 10) rfl rfl rfl (LeL.refl _) ?_
  repeat' (first |refine Fl.nilF ?_ |refine Fl.b rfl rfl rfl rfl ?_ |fail)
  refine ⟨AWP.seqS ?_⟩
  repeat' (first |refine Fl.v rfl rfl rfl ?_ |refine AWP.region ?_ |fail)
  refine Fl.bindM rfl rfl rfl rfl rfl ?_
  repeat' (first |refine Fl.v rfl rfl rfl ?_ |fail)
  refine Fl.bindM rfl rfl rfl rfl rfl ?_
  repeat' (first |refine Fl.v rfl rfl rfl ?_ |refine Fl.nil (fun _ => by kernel_rfl) ?_ |fail)
  refine ⟨AWP.seqS ?_⟩
  repeat' (first |refine Fl.v rfl rfl rfl ?_ |refine Fl.nilF ?_ |refine AWP.region ?_ |fail)
  refine ⟨?_⟩
  refine AWP.seq ?_
  refine AWP.regionJ [(1, 0, [aN 10])] (InvJ.cons ⟨_, _, rfl, rfl⟩ (InvJ.nil _)) ?_
  repeat' (first | refine Fl.ldJ rfl rfl rfl rfl rfl rfl rfl rfl ?_ | refine Fl.v rfl rfl rfl ?_ | refine Fl.b rfl rfl rfl rfl ?_ | fail)
  refine Fl.callM (f := 64) (us := [.int .i64 10]) rfl ?_ (kV_ok 10 2 (by omega) (by omega)) ?_ ?_ ?_ ?_ ?_ ?_
  iterate 4 exact rfl
  exact AV.Le.vagg (LeL.refl _)
  exact LeL.refl _
  repeat' (first | refine Fl.ldJ rfl rfl rfl rfl rfl rfl rfl rfl ?_ | refine Fl.v rfl rfl rfl ?_ | refine Fl.b rfl rfl rfl rfl ?_ | fail)
  refine Fl.callM (f := 64) (us := [.int .i64 10]) rfl ?_ (kV_ok 10 0 (by omega) (by omega)) ?_ ?_ ?_ ?_ ?_ ?_
  iterate 4 exact rfl
  exact AV.Le.vagg (LeL.refl _)
  exact LeL.refl _
  repeat' (first | refine Fl.ldJ rfl rfl rfl rfl rfl rfl rfl rfl ?_ | refine Fl.v rfl rfl rfl ?_ | refine Fl.b rfl rfl rfl rfl ?_ | fail)
  refine Fl.lit rfl rfl rfl rfl rfl eP [mkP 10 (varU 10 2), mkP 10 (varU 10 0)] rfl rfl rfl rfl (by intro _ _; rfl) rfl ?_
  repeat' (first | refine Fl.ldJ rfl rfl rfl rfl rfl rfl rfl rfl ?_ | refine Fl.v rfl rfl rfl ?_ | refine Fl.b rfl rfl rfl rfl ?_ | fail)
  refine Fl.call rfl (show PureFn Tryz.prog _ _ (aP (mkP 10 pw0)) from kMul_ok 10 (by omega) [varU 10 2, varU 10 0] (by simp) (by kernel_rfl)) rfl rfl rfl (LeL.refl _) ?_
  repeat' (first | refine Fl.ldJ rfl rfl rfl rfl rfl rfl rfl rfl ?_ | refine Fl.v rfl rfl rfl ?_ | refine Fl.b rfl rfl rfl rfl ?_ | fail)
  refine Fl.nil (fun _ => by kernel_rfl) ?_
  refine AWP.seq ?_
  refine AWP.regionJ [(1, 0, [aN 10])] (InvJ.cons ⟨_, _, rfl, rfl⟩ (InvJ.nil _)) ?_
  repeat' (first | refine Fl.ldJ rfl rfl rfl rfl rfl rfl rfl rfl ?_ | refine Fl.v rfl rfl rfl ?_ | refine Fl.b rfl rfl rfl rfl ?_ | fail)
  refine Fl.callM (f := 64) (us := [.int .i64 10]) rfl ?_ (kV_ok 10 0 (by omega) (by omega)) ?_ ?_ ?_ ?_ ?_ ?_
  iterate 4 exact rfl
  exact AV.Le.vagg (LeL.refl _)
  exact LeL.refl _
  repeat' (first | refine Fl.ldJ rfl rfl rfl rfl rfl rfl rfl rfl ?_ | refine Fl.v rfl rfl rfl ?_ | refine Fl.b rfl rfl rfl rfl ?_ | fail)
  refine Fl.callM (f := 64) (us := [.int .i64 10]) rfl ?_ (kV_ok 10 9 (by omega) (by omega)) ?_ ?_ ?_ ?_ ?_ ?_
  iterate 4 exact rfl
  exact AV.Le.vagg (LeL.refl _)
  exact LeL.refl _
  repeat' (first | refine Fl.ldJ rfl rfl rfl rfl rfl rfl rfl rfl ?_ | refine Fl.v rfl rfl rfl ?_ | refine Fl.b rfl rfl rfl rfl ?_ | fail)
  refine Fl.callM (f := 65) (us := [.int .i64 10]) rfl ?_ (kN_ok 10 1 (by omega) (by omega) (by omega)) ?_ ?_ ?_ ?_ ?_ ?_
  iterate 4 exact rfl
  exact AV.Le.vagg (LeL.refl _)
  exact LeL.refl _
  repeat' (first | refine Fl.ldJ rfl rfl rfl rfl rfl rfl rfl rfl ?_ | refine Fl.v rfl rfl rfl ?_ | refine Fl.b rfl rfl rfl rfl ?_ | fail)
  refine Fl.lit rfl rfl rfl rfl rfl eP [mkP 10 (varU 10 9), mkP 10 (conU 10 1)] rfl rfl rfl rfl (by intro _ _; rfl) rfl ?_
  repeat' (first | refine Fl.ldJ rfl rfl rfl rfl rfl rfl rfl rfl ?_ | refine Fl.v rfl rfl rfl ?_ | refine Fl.b rfl rfl rfl rfl ?_ | fail)
  refine Fl.call rfl (show PureFn Tryz.prog _ _ (aP (mkP 10 pw1)) from kAdd_ok 10 (by omega) [varU 10 9, conU 10 1] (by simp) (by kernel_rfl)) rfl rfl rfl (LeL.refl _) ?_
  repeat' (first | refine Fl.ldJ rfl rfl rfl rfl rfl rfl rfl rfl ?_ | refine Fl.v rfl rfl rfl ?_ | refine Fl.b rfl rfl rfl rfl ?_ | fail)
  refine Fl.call rfl (kEq_ok 10 (by omega) (varU 10 0) pw1 pw2 (by kernel_rfl) (by kernel_rfl) (by kernel_rfl) (okLk_ok (V := 10) (ls := [pw2]) (by kernel_rfl) _ (by simp))) rfl rfl rfl (LeL.refl _) ?_
  repeat' (first | refine Fl.ldJ rfl rfl rfl rfl rfl rfl rfl rfl ?_ | refine Fl.v rfl rfl rfl ?_ | refine Fl.b rfl rfl rfl rfl ?_ | fail)
  refine Fl.callM (f := 64) (us := [.int .i64 10]) rfl ?_ (kV_ok 10 0 (by omega) (by omega)) ?_ ?_ ?_ ?_ ?_ ?_
  iterate 4 exact rfl
  exact AV.Le.vagg (LeL.refl _)
  exact LeL.refl _
  repeat' (first | refine Fl.ldJ rfl rfl rfl rfl rfl rfl rfl rfl ?_ | refine Fl.v rfl rfl rfl ?_ | refine Fl.b rfl rfl rfl rfl ?_ | fail)
  refine Fl.callM (f := 65) (us := [.int .i64 10]) rfl ?_ (kN_ok 10 2 (by omega) (by omega) (by omega)) ?_ ?_ ?_ ?_ ?_ ?_
  iterate 4 exact rfl
  exact AV.Le.vagg (LeL.refl _)
  exact LeL.refl _
  repeat' (first | refine Fl.ldJ rfl rfl rfl rfl rfl rfl rfl rfl ?_ | refine Fl.v rfl rfl rfl ?_ | refine Fl.b rfl rfl rfl rfl ?_ | fail)
  refine Fl.lit rfl rfl rfl rfl rfl eP [mkP 10 (varU 10 0), mkP 10 (conU 10 2)] rfl rfl rfl rfl (by intro _ _; rfl) rfl ?_
  repeat' (first | refine Fl.ldJ rfl rfl rfl rfl rfl rfl rfl rfl ?_ | refine Fl.v rfl rfl rfl ?_ | refine Fl.b rfl rfl rfl rfl ?_ | fail)
  refine Fl.call rfl (show PureFn Tryz.prog _ _ (aP (mkP 10 pw3)) from kAdd_ok 10 (by omega) [varU 10 0, conU 10 2] (by simp) (by kernel_rfl)) rfl rfl rfl (LeL.refl _) ?_
  repeat' (first | refine Fl.ldJ rfl rfl rfl rfl rfl rfl rfl rfl ?_ | refine Fl.v rfl rfl rfl ?_ | refine Fl.b rfl rfl rfl rfl ?_ | fail)
  refine Fl.callM (f := 64) (us := [.int .i64 10]) rfl ?_ (kV_ok 10 1 (by omega) (by omega)) ?_ ?_ ?_ ?_ ?_ ?_
  iterate 4 exact rfl
  exact AV.Le.vagg (LeL.refl _)
  exact LeL.refl _
  repeat' (first | refine Fl.ldJ rfl rfl rfl rfl rfl rfl rfl rfl ?_ | refine Fl.v rfl rfl rfl ?_ | refine Fl.b rfl rfl rfl rfl ?_ | fail)
  refine Fl.callM (f := 65) (us := [.int .i64 10]) rfl ?_ (kN_ok 10 2 (by omega) (by omega) (by omega)) ?_ ?_ ?_ ?_ ?_ ?_
  iterate 4 exact rfl
  exact AV.Le.vagg (LeL.refl _)
  exact LeL.refl _
  repeat' (first | refine Fl.ldJ rfl rfl rfl rfl rfl rfl rfl rfl ?_ | refine Fl.v rfl rfl rfl ?_ | refine Fl.b rfl rfl rfl rfl ?_ | fail)
  refine Fl.lit rfl rfl rfl rfl rfl eP [mkP 10 (varU 10 1), mkP 10 (conU 10 2)] rfl rfl rfl rfl (by intro _ _; rfl) rfl ?_
  repeat' (first | refine Fl.ldJ rfl rfl rfl rfl rfl rfl rfl rfl ?_ | refine Fl.v rfl rfl rfl ?_ | refine Fl.b rfl rfl rfl rfl ?_ | fail)
  refine Fl.call rfl (show PureFn Tryz.prog _ _ (aP (mkP 10 pw4)) from kAdd_ok 10 (by omega) [varU 10 1, conU 10 2] (by simp) (by kernel_rfl)) rfl rfl rfl (LeL.refl _) ?_
  repeat' (first | refine Fl.ldJ rfl rfl rfl rfl rfl rfl rfl rfl ?_ | refine Fl.v rfl rfl rfl ?_ | refine Fl.b rfl rfl rfl rfl ?_ | fail)
  refine Fl.callM (f := 64) (us := [.int .i64 10]) rfl ?_ (kV_ok 10 3 (by omega) (by omega)) ?_ ?_ ?_ ?_ ?_ ?_
  iterate 4 exact rfl
  exact AV.Le.vagg (LeL.refl _)
  exact LeL.refl _
  repeat' (first | refine Fl.ldJ rfl rfl rfl rfl rfl rfl rfl rfl ?_ | refine Fl.v rfl rfl rfl ?_ | refine Fl.b rfl rfl rfl rfl ?_ | fail)
  refine Fl.lit rfl rfl rfl rfl rfl eP [mkP 10 pw3, mkP 10 pw4, mkP 10 (varU 10 3)] rfl rfl rfl rfl (by intro _ _; rfl) rfl ?_
  repeat' (first | refine Fl.ldJ rfl rfl rfl rfl rfl rfl rfl rfl ?_ | refine Fl.v rfl rfl rfl ?_ | refine Fl.b rfl rfl rfl rfl ?_ | fail)
  refine Fl.call rfl (kLink_ok 10 1 [pw3, pw4, varU 10 3] (by omega) (by simp) (okLk_ok (by kernel_rfl))) rfl rfl rfl (LeL.refl _) ?_
  repeat' (first | refine Fl.ldJ rfl rfl rfl rfl rfl rfl rfl rfl ?_ | refine Fl.v rfl rfl rfl ?_ | refine Fl.b rfl rfl rfl rfl ?_ | fail)
  refine Fl.callM (f := 64) (us := [.int .i64 10]) rfl ?_ (kV_ok 10 3 (by omega) (by omega)) ?_ ?_ ?_ ?_ ?_ ?_
  iterate 4 exact rfl
  exact AV.Le.vagg (LeL.refl _)
  exact LeL.refl _
  repeat' (first | refine Fl.ldJ rfl rfl rfl rfl rfl rfl rfl rfl ?_ | refine Fl.v rfl rfl rfl ?_ | refine Fl.b rfl rfl rfl rfl ?_ | fail)
  refine Fl.callM (f := 64) (us := [.int .i64 10]) rfl ?_ (kV_ok 10 1 (by omega) (by omega)) ?_ ?_ ?_ ?_ ?_ ?_
  iterate 4 exact rfl
  exact AV.Le.vagg (LeL.refl _)
  exact LeL.refl _
  repeat' (first | refine Fl.ldJ rfl rfl rfl rfl rfl rfl rfl rfl ?_ | refine Fl.v rfl rfl rfl ?_ | refine Fl.b rfl rfl rfl rfl ?_ | fail)
  refine Fl.callM (f := 65) (us := [.int .i64 10]) rfl ?_ (kN_ok 10 1 (by omega) (by omega) (by omega)) ?_ ?_ ?_ ?_ ?_ ?_
  iterate 4 exact rfl
  exact AV.Le.vagg (LeL.refl _)
  exact LeL.refl _
  repeat' (first | refine Fl.ldJ rfl rfl rfl rfl rfl rfl rfl rfl ?_ | refine Fl.v rfl rfl rfl ?_ | refine Fl.b rfl rfl rfl rfl ?_ | fail)
  refine Fl.lit rfl rfl rfl rfl rfl eP [mkP 10 (varU 10 1), mkP 10 (conU 10 1)] rfl rfl rfl rfl (by intro _ _; rfl) rfl ?_
  repeat' (first | refine Fl.ldJ rfl rfl rfl rfl rfl rfl rfl rfl ?_ | refine Fl.v rfl rfl rfl ?_ | refine Fl.b rfl rfl rfl rfl ?_ | fail)
  refine Fl.call rfl (show PureFn Tryz.prog _ _ (aP (mkP 10 pw5)) from kAdd_ok 10 (by omega) [varU 10 1, conU 10 1] (by simp) (by kernel_rfl)) rfl rfl rfl (LeL.refl _) ?_
  repeat' (first | refine Fl.ldJ rfl rfl rfl rfl rfl rfl rfl rfl ?_ | refine Fl.v rfl rfl rfl ?_ | refine Fl.b rfl rfl rfl rfl ?_ | fail)
  refine Fl.callM (f := 64) (us := [.int .i64 10]) rfl ?_ (kV_ok 10 4 (by omega) (by omega)) ?_ ?_ ?_ ?_ ?_ ?_
  iterate 4 exact rfl
  exact AV.Le.vagg (LeL.refl _)
  exact LeL.refl _
  repeat' (first | refine Fl.ldJ rfl rfl rfl rfl rfl rfl rfl rfl ?_ | refine Fl.v rfl rfl rfl ?_ | refine Fl.b rfl rfl rfl rfl ?_ | fail)
  refine Fl.lit rfl rfl rfl rfl rfl eP [mkP 10 (varU 10 3), mkP 10 pw5, mkP 10 (varU 10 4)] rfl rfl rfl rfl (by intro _ _; rfl) rfl ?_
  repeat' (first | refine Fl.ldJ rfl rfl rfl rfl rfl rfl rfl rfl ?_ | refine Fl.v rfl rfl rfl ?_ | refine Fl.b rfl rfl rfl rfl ?_ | fail)
  refine Fl.call rfl (kLink_ok 10 1 [varU 10 3, pw5, varU 10 4] (by omega) (by simp) (okLk_ok (by kernel_rfl))) rfl rfl rfl (LeL.refl _) ?_
  repeat' (first | refine Fl.ldJ rfl rfl rfl rfl rfl rfl rfl rfl ?_ | refine Fl.v rfl rfl rfl ?_ | refine Fl.b rfl rfl rfl rfl ?_ | fail)
  refine Fl.callM (f := 64) (us := [.int .i64 10]) rfl ?_ (kV_ok 10 5 (by omega) (by omega)) ?_ ?_ ?_ ?_ ?_ ?_
  iterate 4 exact rfl
  exact AV.Le.vagg (LeL.refl _)
  exact LeL.refl _
  repeat' (first | refine Fl.ldJ rfl rfl rfl rfl rfl rfl rfl rfl ?_ | refine Fl.v rfl rfl rfl ?_ | refine Fl.b rfl rfl rfl rfl ?_ | fail)
  refine Fl.callM (f := 64) (us := [.int .i64 10]) rfl ?_ (kV_ok 10 5 (by omega) (by omega)) ?_ ?_ ?_ ?_ ?_ ?_
  iterate 4 exact rfl
  exact AV.Le.vagg (LeL.refl _)
  exact LeL.refl _
  repeat' (first | refine Fl.ldJ rfl rfl rfl rfl rfl rfl rfl rfl ?_ | refine Fl.v rfl rfl rfl ?_ | refine Fl.b rfl rfl rfl rfl ?_ | fail)
  refine Fl.lit rfl rfl rfl rfl rfl eP [mkP 10 (varU 10 5), mkP 10 (varU 10 5)] rfl rfl rfl rfl (by intro _ _; rfl) rfl ?_
  repeat' (first | refine Fl.ldJ rfl rfl rfl rfl rfl rfl rfl rfl ?_ | refine Fl.v rfl rfl rfl ?_ | refine Fl.b rfl rfl rfl rfl ?_ | fail)
  refine Fl.call rfl (show PureFn Tryz.prog _ _ (aP (mkP 10 pw6)) from kMul_ok 10 (by omega) [varU 10 5, varU 10 5] (by simp) (by kernel_rfl)) rfl rfl rfl (LeL.refl _) ?_
  repeat' (first | refine Fl.ldJ rfl rfl rfl rfl rfl rfl rfl rfl ?_ | refine Fl.v rfl rfl rfl ?_ | refine Fl.b rfl rfl rfl rfl ?_ | fail)
  refine Fl.callM (f := 64) (us := [.int .i64 10]) rfl ?_ (kV_ok 10 3 (by omega) (by omega)) ?_ ?_ ?_ ?_ ?_ ?_
  iterate 4 exact rfl
  exact AV.Le.vagg (LeL.refl _)
  exact LeL.refl _
  repeat' (first | refine Fl.ldJ rfl rfl rfl rfl rfl rfl rfl rfl ?_ | refine Fl.v rfl rfl rfl ?_ | refine Fl.b rfl rfl rfl rfl ?_ | fail)
  refine Fl.callM (f := 64) (us := [.int .i64 10]) rfl ?_ (kV_ok 10 3 (by omega) (by omega)) ?_ ?_ ?_ ?_ ?_ ?_
  iterate 4 exact rfl
  exact AV.Le.vagg (LeL.refl _)
  exact LeL.refl _
  repeat' (first | refine Fl.ldJ rfl rfl rfl rfl rfl rfl rfl rfl ?_ | refine Fl.v rfl rfl rfl ?_ | refine Fl.b rfl rfl rfl rfl ?_ | fail)
  refine Fl.lit rfl rfl rfl rfl rfl eP [mkP 10 (varU 10 3), mkP 10 (varU 10 3)] rfl rfl rfl rfl (by intro _ _; rfl) rfl ?_
  repeat' (first | refine Fl.ldJ rfl rfl rfl rfl rfl rfl rfl rfl ?_ | refine Fl.v rfl rfl rfl ?_ | refine Fl.b rfl rfl rfl rfl ?_ | fail)
  refine Fl.call rfl (show PureFn Tryz.prog _ _ (aP (mkP 10 pw7)) from kMul_ok 10 (by omega) [varU 10 3, varU 10 3] (by simp) (by kernel_rfl)) rfl rfl rfl (LeL.refl _) ?_
  repeat' (first | refine Fl.ldJ rfl rfl rfl rfl rfl rfl rfl rfl ?_ | refine Fl.v rfl rfl rfl ?_ | refine Fl.b rfl rfl rfl rfl ?_ | fail)
  refine Fl.callM (f := 65) (us := [.int .i64 10]) rfl ?_ (kN_ok 10 1 (by omega) (by omega) (by omega)) ?_ ?_ ?_ ?_ ?_ ?_
  iterate 4 exact rfl
  exact AV.Le.vagg (LeL.refl _)
  exact LeL.refl _
  repeat' (first | refine Fl.ldJ rfl rfl rfl rfl rfl rfl rfl rfl ?_ | refine Fl.v rfl rfl rfl ?_ | refine Fl.b rfl rfl rfl rfl ?_ | fail)
  refine Fl.call rfl (kSub_ok 10 (by omega) pw7 (conU 10 1) pw8 (by kernel_rfl) (by kernel_rfl) (by kernel_rfl)) rfl rfl rfl (LeL.refl _) ?_
  repeat' (first | refine Fl.ldJ rfl rfl rfl rfl rfl rfl rfl rfl ?_ | refine Fl.v rfl rfl rfl ?_ | refine Fl.b rfl rfl rfl rfl ?_ | fail)
  refine Fl.callM (f := 64) (us := [.int .i64 10]) rfl ?_ (kV_ok 10 4 (by omega) (by omega)) ?_ ?_ ?_ ?_ ?_ ?_
  iterate 4 exact rfl
  exact AV.Le.vagg (LeL.refl _)
  exact LeL.refl _
  repeat' (first | refine Fl.ldJ rfl rfl rfl rfl rfl rfl rfl rfl ?_ | refine Fl.v rfl rfl rfl ?_ | refine Fl.b rfl rfl rfl rfl ?_ | fail)
  refine Fl.callM (f := 64) (us := [.int .i64 10]) rfl ?_ (kV_ok 10 4 (by omega) (by omega)) ?_ ?_ ?_ ?_ ?_ ?_
  iterate 4 exact rfl
  exact AV.Le.vagg (LeL.refl _)
  exact LeL.refl _
  repeat' (first | refine Fl.ldJ rfl rfl rfl rfl rfl rfl rfl rfl ?_ | refine Fl.v rfl rfl rfl ?_ | refine Fl.b rfl rfl rfl rfl ?_ | fail)
  refine Fl.lit rfl rfl rfl rfl rfl eP [mkP 10 pw8, mkP 10 (varU 10 4), mkP 10 (varU 10 4)] rfl rfl rfl rfl (by intro _ _; rfl) rfl ?_
  repeat' (first | refine Fl.ldJ rfl rfl rfl rfl rfl rfl rfl rfl ?_ | refine Fl.v rfl rfl rfl ?_ | refine Fl.b rfl rfl rfl rfl ?_ | fail)
  refine Fl.call rfl (show PureFn Tryz.prog _ _ (aP (mkP 10 pw9)) from kMul_ok 10 (by omega) [pw8, varU 10 4, varU 10 4] (by simp) (by kernel_rfl)) rfl rfl rfl (LeL.refl _) ?_
  repeat' (first | refine Fl.ldJ rfl rfl rfl rfl rfl rfl rfl rfl ?_ | refine Fl.v rfl rfl rfl ?_ | refine Fl.b rfl rfl rfl rfl ?_ | fail)
  refine Fl.callM (f := 65) (us := [.int .i64 10]) rfl ?_ (kN_ok 10 1 (by omega) (by omega) (by omega)) ?_ ?_ ?_ ?_ ?_ ?_
  iterate 4 exact rfl
  exact AV.Le.vagg (LeL.refl _)
  exact LeL.refl _
  repeat' (first | refine Fl.ldJ rfl rfl rfl rfl rfl rfl rfl rfl ?_ | refine Fl.v rfl rfl rfl ?_ | refine Fl.b rfl rfl rfl rfl ?_ | fail)
  refine Fl.lit rfl rfl rfl rfl rfl eP [mkP 10 pw9, mkP 10 (conU 10 1)] rfl rfl rfl rfl (by intro _ _; rfl) rfl ?_
  repeat' (first | refine Fl.ldJ rfl rfl rfl rfl rfl rfl rfl rfl ?_ | refine Fl.v rfl rfl rfl ?_ | refine Fl.b rfl rfl rfl rfl ?_ | fail)
  refine Fl.call rfl (show PureFn Tryz.prog _ _ (aP (mkP 10 pw10)) from kAdd_ok 10 (by omega) [pw9, conU 10 1] (by simp) (by kernel_rfl)) rfl rfl rfl (LeL.refl _) ?_
  repeat' (first | refine Fl.ldJ rfl rfl rfl rfl rfl rfl rfl rfl ?_ | refine Fl.v rfl rfl rfl ?_ | refine Fl.b rfl rfl rfl rfl ?_ | fail)
  refine Fl.call rfl (kEq_ok 10 (by omega) pw6 pw10 pw11 (by kernel_rfl) (by kernel_rfl) (by kernel_rfl) (okLk_ok (V := 10) (ls := [pw11]) (by kernel_rfl) _ (by simp))) rfl rfl rfl (LeL.refl _) ?_
  repeat' (first | refine Fl.ldJ rfl rfl rfl rfl rfl rfl rfl rfl ?_ | refine Fl.v rfl rfl rfl ?_ | refine Fl.b rfl rfl rfl rfl ?_ | fail)
  refine Fl.callM (f := 64) (us := [.int .i64 10]) rfl ?_ (kV_ok 10 6 (by omega) (by omega)) ?_ ?_ ?_ ?_ ?_ ?_
  iterate 4 exact rfl
  exact AV.Le.vagg (LeL.refl _)
  exact LeL.refl _
  repeat' (first | refine Fl.ldJ rfl rfl rfl rfl rfl rfl rfl rfl ?_ | refine Fl.v rfl rfl rfl ?_ | refine Fl.b rfl rfl rfl rfl ?_ | fail)
  refine Fl.callM (f := 65) (us := [.int .i64 10]) rfl ?_ (kN_ok 10 2 (by omega) (by omega) (by omega)) ?_ ?_ ?_ ?_ ?_ ?_
  iterate 4 exact rfl
  exact AV.Le.vagg (LeL.refl _)
  exact LeL.refl _
  repeat' (first | refine Fl.ldJ rfl rfl rfl rfl rfl rfl rfl rfl ?_ | refine Fl.v rfl rfl rfl ?_ | refine Fl.b rfl rfl rfl rfl ?_ | fail)
  refine Fl.callM (f := 64) (us := [.int .i64 10]) rfl ?_ (kV_ok 10 3 (by omega) (by omega)) ?_ ?_ ?_ ?_ ?_ ?_
  iterate 4 exact rfl
  exact AV.Le.vagg (LeL.refl _)
  exact LeL.refl _
  repeat' (first | refine Fl.ldJ rfl rfl rfl rfl rfl rfl rfl rfl ?_ | refine Fl.v rfl rfl rfl ?_ | refine Fl.b rfl rfl rfl rfl ?_ | fail)
  refine Fl.callM (f := 64) (us := [.int .i64 10]) rfl ?_ (kV_ok 10 0 (by omega) (by omega)) ?_ ?_ ?_ ?_ ?_ ?_
  iterate 4 exact rfl
  exact AV.Le.vagg (LeL.refl _)
  exact LeL.refl _
  repeat' (first | refine Fl.ldJ rfl rfl rfl rfl rfl rfl rfl rfl ?_ | refine Fl.v rfl rfl rfl ?_ | refine Fl.b rfl rfl rfl rfl ?_ | fail)
  refine Fl.lit rfl rfl rfl rfl rfl eP [mkP 10 (conU 10 2), mkP 10 (varU 10 3), mkP 10 (varU 10 0)] rfl rfl rfl rfl (by intro _ _; rfl) rfl ?_
  repeat' (first | refine Fl.ldJ rfl rfl rfl rfl rfl rfl rfl rfl ?_ | refine Fl.v rfl rfl rfl ?_ | refine Fl.b rfl rfl rfl rfl ?_ | fail)
  refine Fl.call rfl (show PureFn Tryz.prog _ _ (aP (mkP 10 pw12)) from kMul_ok 10 (by omega) [conU 10 2, varU 10 3, varU 10 0] (by simp) (by kernel_rfl)) rfl rfl rfl (LeL.refl _) ?_
  repeat' (first | refine Fl.ldJ rfl rfl rfl rfl rfl rfl rfl rfl ?_ | refine Fl.v rfl rfl rfl ?_ | refine Fl.b rfl rfl rfl rfl ?_ | fail)
  refine Fl.callM (f := 64) (us := [.int .i64 10]) rfl ?_ (kV_ok 10 0 (by omega) (by omega)) ?_ ?_ ?_ ?_ ?_ ?_
  iterate 4 exact rfl
  exact AV.Le.vagg (LeL.refl _)
  exact LeL.refl _
  repeat' (first | refine Fl.ldJ rfl rfl rfl rfl rfl rfl rfl rfl ?_ | refine Fl.v rfl rfl rfl ?_ | refine Fl.b rfl rfl rfl rfl ?_ | fail)
  refine Fl.callM (f := 64) (us := [.int .i64 10]) rfl ?_ (kV_ok 10 0 (by omega) (by omega)) ?_ ?_ ?_ ?_ ?_ ?_
  iterate 4 exact rfl
  exact AV.Le.vagg (LeL.refl _)
  exact LeL.refl _
  repeat' (first | refine Fl.ldJ rfl rfl rfl rfl rfl rfl rfl rfl ?_ | refine Fl.v rfl rfl rfl ?_ | refine Fl.b rfl rfl rfl rfl ?_ | fail)
  refine Fl.lit rfl rfl rfl rfl rfl eP [mkP 10 (varU 10 0), mkP 10 (varU 10 0)] rfl rfl rfl rfl (by intro _ _; rfl) rfl ?_
  repeat' (first | refine Fl.ldJ rfl rfl rfl rfl rfl rfl rfl rfl ?_ | refine Fl.v rfl rfl rfl ?_ | refine Fl.b rfl rfl rfl rfl ?_ | fail)
  refine Fl.call rfl (show PureFn Tryz.prog _ _ (aP (mkP 10 pw13)) from kMul_ok 10 (by omega) [varU 10 0, varU 10 0] (by simp) (by kernel_rfl)) rfl rfl rfl (LeL.refl _) ?_
  repeat' (first | refine Fl.ldJ rfl rfl rfl rfl rfl rfl rfl rfl ?_ | refine Fl.v rfl rfl rfl ?_ | refine Fl.b rfl rfl rfl rfl ?_ | fail)
  refine Fl.ioV rfl rfl [(900, 1)] (show IoFn Tryz.prog _ _ _ (.ret (aP (mkP 10 pw14))) _ from pwNeg_ok 10 (by omega) pw13 pw14 (by kernel_rfl) (by kernel_rfl) (by kernel_rfl)) rfl rfl (LeL.refl _) rfl ⟨⟨⟨_, rfl, BLe.cells (LeL.refl _)⟩, rfl⟩, trivial⟩ rfl rfl rfl rfl rfl ?_
  repeat' (first | refine Fl.ldJ rfl rfl rfl rfl rfl rfl rfl rfl ?_ | refine Fl.v rfl rfl rfl ?_ | refine Fl.b rfl rfl rfl rfl ?_ | fail)
  refine Fl.callM (f := 65) (us := [.int .i64 10]) rfl ?_ (kN_ok 10 (-1) (by omega) (by omega) (by omega)) ?_ ?_ ?_ ?_ ?_ ?_
  iterate 4 exact rfl
  exact AV.Le.vagg (LeL.refl _)
  exact LeL.refl _
  repeat' (first | refine Fl.ldJ rfl rfl rfl rfl rfl rfl rfl rfl ?_ | refine Fl.v rfl rfl rfl ?_ | refine Fl.b rfl rfl rfl rfl ?_ | fail)
  refine Fl.lit rfl rfl rfl rfl rfl eP [mkP 10 pw12, mkP 10 pw14, mkP 10 (conU 10 (-1))] rfl rfl rfl rfl (by intro _ _; rfl) rfl ?_
  repeat' (first | refine Fl.ldJ rfl rfl rfl rfl rfl rfl rfl rfl ?_ | refine Fl.v rfl rfl rfl ?_ | refine Fl.b rfl rfl rfl rfl ?_ | fail)
  refine Fl.call rfl (show PureFn Tryz.prog _ _ (aP (mkP 10 pw15)) from kAdd_ok 10 (by omega) [pw12, pw14, conU 10 (-1)] (by simp) (by kernel_rfl)) rfl rfl rfl (LeL.refl _) ?_
  repeat' (first | refine Fl.ldJ rfl rfl rfl rfl rfl rfl rfl rfl ?_ | refine Fl.v rfl rfl rfl ?_ | refine Fl.b rfl rfl rfl rfl ?_ | fail)
  refine Fl.call rfl (kEq_ok 10 (by omega) (varU 10 6) pw15 pw16 (by kernel_rfl) (by kernel_rfl) (by kernel_rfl) (okLk_ok (V := 10) (ls := [pw16]) (by kernel_rfl) _ (by simp))) rfl rfl rfl (LeL.refl _) ?_
  repeat' (first | refine Fl.ldJ rfl rfl rfl rfl rfl rfl rfl rfl ?_ | refine Fl.v rfl rfl rfl ?_ | refine Fl.b rfl rfl rfl rfl ?_ | fail)
  refine Fl.callM (f := 64) (us := [.int .i64 10]) rfl ?_ (kV_ok 10 5 (by omega) (by omega)) ?_ ?_ ?_ ?_ ?_ ?_
  iterate 4 exact rfl
  exact AV.Le.vagg (LeL.refl _)
  exact LeL.refl _
  repeat' (first | refine Fl.ldJ rfl rfl rfl rfl rfl rfl rfl rfl ?_ | refine Fl.v rfl rfl rfl ?_ | refine Fl.b rfl rfl rfl rfl ?_ | fail)
  refine Fl.callM (f := 64) (us := [.int .i64 10]) rfl ?_ (kV_ok 10 3 (by omega) (by omega)) ?_ ?_ ?_ ?_ ?_ ?_
  iterate 4 exact rfl
  exact AV.Le.vagg (LeL.refl _)
  exact LeL.refl _
  repeat' (first | refine Fl.ldJ rfl rfl rfl rfl rfl rfl rfl rfl ?_ | refine Fl.v rfl rfl rfl ?_ | refine Fl.b rfl rfl rfl rfl ?_ | fail)
  refine Fl.callM (f := 64) (us := [.int .i64 10]) rfl ?_ (kV_ok 10 0 (by omega) (by omega)) ?_ ?_ ?_ ?_ ?_ ?_
  iterate 4 exact rfl
  exact AV.Le.vagg (LeL.refl _)
  exact LeL.refl _
  repeat' (first | refine Fl.ldJ rfl rfl rfl rfl rfl rfl rfl rfl ?_ | refine Fl.v rfl rfl rfl ?_ | refine Fl.b rfl rfl rfl rfl ?_ | fail)
  refine Fl.call rfl (kSub_ok 10 (by omega) (varU 10 3) (varU 10 0) pw17 (by kernel_rfl) (by kernel_rfl) (by kernel_rfl)) rfl rfl rfl (LeL.refl _) ?_
  repeat' (first | refine Fl.ldJ rfl rfl rfl rfl rfl rfl rfl rfl ?_ | refine Fl.v rfl rfl rfl ?_ | refine Fl.b rfl rfl rfl rfl ?_ | fail)
  refine Fl.callM (f := 64) (us := [.int .i64 10]) rfl ?_ (kV_ok 10 4 (by omega) (by omega)) ?_ ?_ ?_ ?_ ?_ ?_
  iterate 4 exact rfl
  exact AV.Le.vagg (LeL.refl _)
  exact LeL.refl _
  repeat' (first | refine Fl.ldJ rfl rfl rfl rfl rfl rfl rfl rfl ?_ | refine Fl.v rfl rfl rfl ?_ | refine Fl.b rfl rfl rfl rfl ?_ | fail)
  refine Fl.lit rfl rfl rfl rfl rfl eP [mkP 10 pw17, mkP 10 (varU 10 4)] rfl rfl rfl rfl (by intro _ _; rfl) rfl ?_
  repeat' (first | refine Fl.ldJ rfl rfl rfl rfl rfl rfl rfl rfl ?_ | refine Fl.v rfl rfl rfl ?_ | refine Fl.b rfl rfl rfl rfl ?_ | fail)
  refine Fl.call rfl (show PureFn Tryz.prog _ _ (aP (mkP 10 pw18)) from kMul_ok 10 (by omega) [pw17, varU 10 4] (by simp) (by kernel_rfl)) rfl rfl rfl (LeL.refl _) ?_
  repeat' (first | refine Fl.ldJ rfl rfl rfl rfl rfl rfl rfl rfl ?_ | refine Fl.v rfl rfl rfl ?_ | refine Fl.b rfl rfl rfl rfl ?_ | fail)
  refine Fl.callM (f := 64) (us := [.int .i64 10]) rfl ?_ (kV_ok 10 6 (by omega) (by omega)) ?_ ?_ ?_ ?_ ?_ ?_
  iterate 4 exact rfl
  exact AV.Le.vagg (LeL.refl _)
  exact LeL.refl _
  repeat' (first | refine Fl.ldJ rfl rfl rfl rfl rfl rfl rfl rfl ?_ | refine Fl.v rfl rfl rfl ?_ | refine Fl.b rfl rfl rfl rfl ?_ | fail)
  refine Fl.callM (f := 64) (us := [.int .i64 10]) rfl ?_ (kV_ok 10 7 (by omega) (by omega)) ?_ ?_ ?_ ?_ ?_ ?_
  iterate 4 exact rfl
  exact AV.Le.vagg (LeL.refl _)
  exact LeL.refl _
  repeat' (first | refine Fl.ldJ rfl rfl rfl rfl rfl rfl rfl rfl ?_ | refine Fl.v rfl rfl rfl ?_ | refine Fl.b rfl rfl rfl rfl ?_ | fail)
  refine Fl.lit rfl rfl rfl rfl rfl eP [mkP 10 (varU 10 6), mkP 10 (varU 10 7)] rfl rfl rfl rfl (by intro _ _; rfl) rfl ?_
  repeat' (first | refine Fl.ldJ rfl rfl rfl rfl rfl rfl rfl rfl ?_ | refine Fl.v rfl rfl rfl ?_ | refine Fl.b rfl rfl rfl rfl ?_ | fail)
  refine Fl.call rfl (show PureFn Tryz.prog _ _ (aP (mkP 10 pw19)) from kMul_ok 10 (by omega) [varU 10 6, varU 10 7] (by simp) (by kernel_rfl)) rfl rfl rfl (LeL.refl _) ?_
  repeat' (first | refine Fl.ldJ rfl rfl rfl rfl rfl rfl rfl rfl ?_ | refine Fl.v rfl rfl rfl ?_ | refine Fl.b rfl rfl rfl rfl ?_ | fail)
  refine Fl.lit rfl rfl rfl rfl rfl eP [mkP 10 pw18, mkP 10 pw0, mkP 10 pw19] rfl rfl rfl rfl (by intro _ _; rfl) rfl ?_
  repeat' (first | refine Fl.ldJ rfl rfl rfl rfl rfl rfl rfl rfl ?_ | refine Fl.v rfl rfl rfl ?_ | refine Fl.b rfl rfl rfl rfl ?_ | fail)
  refine Fl.call rfl (show PureFn Tryz.prog _ _ (aP (mkP 10 pw20)) from kAdd_ok 10 (by omega) [pw18, pw0, pw19] (by simp) (by kernel_rfl)) rfl rfl rfl (LeL.refl _) ?_
  repeat' (first | refine Fl.ldJ rfl rfl rfl rfl rfl rfl rfl rfl ?_ | refine Fl.v rfl rfl rfl ?_ | refine Fl.b rfl rfl rfl rfl ?_ | fail)
  refine Fl.call rfl (kEq_ok 10 (by omega) (varU 10 5) pw20 pw21 (by kernel_rfl) (by kernel_rfl) (by kernel_rfl) (okLk_ok (V := 10) (ls := [pw21]) (by kernel_rfl) _ (by simp))) rfl rfl rfl (LeL.refl _) ?_
  repeat' (first | refine Fl.ldJ rfl rfl rfl rfl rfl rfl rfl rfl ?_ | refine Fl.v rfl rfl rfl ?_ | refine Fl.b rfl rfl rfl rfl ?_ | fail)
  refine Fl.callM (f := 64) (us := [.int .i64 10]) rfl ?_ (kV_ok 10 6 (by omega) (by omega)) ?_ ?_ ?_ ?_ ?_ ?_
  iterate 4 exact rfl
  exact AV.Le.vagg (LeL.refl _)
  exact LeL.refl _
  repeat' (first | refine Fl.ldJ rfl rfl rfl rfl rfl rfl rfl rfl ?_ | refine Fl.v rfl rfl rfl ?_ | refine Fl.b rfl rfl rfl rfl ?_ | fail)
  refine Fl.callM (f := 64) (us := [.int .i64 10]) rfl ?_ (kV_ok 10 8 (by omega) (by omega)) ?_ ?_ ?_ ?_ ?_ ?_
  iterate 4 exact rfl
  exact AV.Le.vagg (LeL.refl _)
  exact LeL.refl _
  repeat' (first | refine Fl.ldJ rfl rfl rfl rfl rfl rfl rfl rfl ?_ | refine Fl.v rfl rfl rfl ?_ | refine Fl.b rfl rfl rfl rfl ?_ | fail)
  refine Fl.callM (f := 65) (us := [.int .i64 10]) rfl ?_ (kN_ok 10 1 (by omega) (by omega) (by omega)) ?_ ?_ ?_ ?_ ?_ ?_
  iterate 4 exact rfl
  exact AV.Le.vagg (LeL.refl _)
  exact LeL.refl _
  repeat' (first | refine Fl.ldJ rfl rfl rfl rfl rfl rfl rfl rfl ?_ | refine Fl.v rfl rfl rfl ?_ | refine Fl.b rfl rfl rfl rfl ?_ | fail)
  refine Fl.lit rfl rfl rfl rfl rfl eP [mkP 10 pw0, mkP 10 (varU 10 8), mkP 10 (conU 10 1)] rfl rfl rfl rfl (by intro _ _; rfl) rfl ?_
  repeat' (first | refine Fl.ldJ rfl rfl rfl rfl rfl rfl rfl rfl ?_ | refine Fl.v rfl rfl rfl ?_ | refine Fl.b rfl rfl rfl rfl ?_ | fail)
  refine Fl.call rfl (show PureFn Tryz.prog _ _ (aP (mkP 10 pw22)) from kAdd_ok 10 (by omega) [pw0, varU 10 8, conU 10 1] (by simp) (by kernel_rfl)) rfl rfl rfl (LeL.refl _) ?_
  repeat' (first | refine Fl.ldJ rfl rfl rfl rfl rfl rfl rfl rfl ?_ | refine Fl.v rfl rfl rfl ?_ | refine Fl.b rfl rfl rfl rfl ?_ | fail)
  refine Fl.call rfl (kEq_ok 10 (by omega) (varU 10 6) pw22 pw23 (by kernel_rfl) (by kernel_rfl) (by kernel_rfl) (okLk_ok (V := 10) (ls := [pw23]) (by kernel_rfl) _ (by simp))) rfl rfl rfl (LeL.refl _) ?_
  repeat' (first | refine Fl.ldJ rfl rfl rfl rfl rfl rfl rfl rfl ?_ | refine Fl.v rfl rfl rfl ?_ | refine Fl.b rfl rfl rfl rfl ?_ | fail)
  refine Fl.lit rfl rfl rfl rfl rfl eL [linkU 10 0 [pw2], linkU 10 1 [pw3, pw4, varU 10 3], linkU 10 1 [varU 10 3, pw5, varU 10 4], linkU 10 0 [pw11], linkU 10 0 [pw16], linkU 10 0 [pw21], linkU 10 0 [pw23]] rfl rfl rfl rfl (by intro _ _; rfl) rfl ?_
  repeat' (first | refine Fl.ldJ rfl rfl rfl rfl rfl rfl rfl rfl ?_ | refine Fl.v rfl rfl rfl ?_ | refine Fl.b rfl rfl rfl rfl ?_ | fail)
  repeat' (first |refine Fl.nil (fun _ => by kernel_rfl) ?_ |refine AWP.ret ?_ |fail)
  exact RetOk.of rfl (AV.Le.refl _)
end Go.Proofs.YtcaecieigoplbaaGreat
/- lucas.Chi, where its result is a number. -/
namespace Go.AL
theorem psi_le_chi {a : Int} (ha : 2 ≤ a) (N : Nat) : psiN a (N + 1) ≤ chiN a (N + 1) := by
  obtain ⟨p1, p2, p3⟩ := cp_pos ha N
  have h4 : 3 * psiN a N ≤ (a * a - 1) * psiN a N := Int.mul_le_mul_of_nonneg_right (by have := Int.mul_le_mul ha ha (by omega) (by omega); omega) p2
  have h5 : 2 * chiN a N ≤ a * chiN a N := Int.mul_le_mul_of_nonneg_right ha (by omega)
  have h6 : (a - 2) * (psiN a N) ≤ (a - 2) * chiN a N := Int.mul_le_mul_of_nonneg_left p3 (by omega)
  have h7 : a * psiN a N ≤ a * (a * psiN a N) := Int.mul_le_mul_of_nonneg_left (by have := Int.mul_le_mul_of_nonneg_right (show 1 ≤ a by omega) p2; omega) (by omega)
  rw [psi_succ, chi_succ]
  have e1 : (a - 2) * (psiN a N) = a * psiN a N - 2 * psiN a N := by grind
  have e2 : (a - 2) * (chiN a N) = a * chiN a N - 2 * chiN a N := by grind
  have e3 : (a * a - 1) * psiN a N = a * (a * psiN a N) - psiN a N := by grind
  omega
theorem chi_res {a : Int} {N : Nat} (ha : 2 ≤ a) (hf : Fit a) (hN : N < 2 ^ 63) (hc : Fit (chiN a (N + 1))) {r : Int × Int} (hr : r = chF a (atL a N 63 (1, 0, 0)).2.2 (atL a N 63 (1, 0, 0)).1 (atL a N 63 (1, 0, 0)).2.1) : r = (chiN a (N + 1), 0) := by
  have h := atL_ok ha hf (N := N) 63 (1, 0, 0) (.inl (by rw [Nat.div_eq_of_lt hN, chi_zero, psi_zero]))
  obtain ⟨p1, p2, p3⟩ := cp_pos ha N
  have hF : FN a N := fit_of hc (cp_pos ha (N + 1)).2.1 (psi_le_chi ha N)
  rcases h with h | ⟨_, h2⟩
  · rw [h] at hr
    simp only [Nat.pow_zero, Nat.div_one] at hr
    have e1 : 0 ≤ a * psiN a N := Int.mul_nonneg (by omega) p2
    have e2 : 0 ≤ a * (a * psiN a N) := Int.mul_nonneg (by omega) e1
    have e3 : 0 ≤ a * chiN a N := Int.mul_nonneg (by omega) (by omega)
    have e4 : 2 * (a * psiN a N) ≤ a * (a * psiN a N) := Int.mul_le_mul_of_nonneg_right ha e1
    have e5 : 2 * psiN a N ≤ a * psiN a N := Int.mul_le_mul_of_nonneg_right ha p2
    have e6 : 2 * chiN a N ≤ a * chiN a N := Int.mul_le_mul_of_nonneg_right ha (by omega)
    have hs : a * chiN a N + (a * (a * psiN a N) - psiN a N) = chiN a (N + 1) := by rw [chi_succ]; grind
    rcases chF_ok (F := True) (a := a) (c := chiN a N) (p := psiN a N) hf (fun _ => fit_of hc e1 (by omega)) (fun _ => fit_of hc e2 (by omega)) (fun _ => fit_of hc (by omega) (by omega)) (fun _ => fit_of hc e3 (by omega)) (fun _ => by rw [hs]; exact hc) with ⟨k1, _⟩ | ⟨_, n1⟩
    · rw [hr, k1, hs]
    · exact absurd trivial n1
  · exact absurd hF h2
end Go.AL
namespace Go.Proofs.YtcaecieigoplbaaGreat
open Go.AL
theorem elementC_ok (a n : Int) (ha : Fit a) (h2 : 2 ≤ a) (h0 : 1 ≤ n) (h1 : n ≤ 131072) (hc : Fit (chiN a n.toNat)) : PureFn Tryz.prog 163 [aX a, aN n, aN 1, .fn 165 []] (.tup [aX (chiN a n.toNat), aN 0]) := by
  refine PureFn.of_body Tryz.func163 rfl Tryz.ntmps163 rfl rfl ?_
  repeat' (first |refine Fl.v rfl rfl rfl ?_ |refine Fl.nilF ?_ |refine AWP.seq ?_ |refine AWP.region ?_ |refine Fl.b rfl rfl rfl rfl ?_ |fail)
  refine Fl.call rfl (fits_ok a ha h2) rfl rfl rfl (LeL.refl _) ?_
  repeat' (first |refine Fl.v rfl rfl rfl ?_ |refine Fl.nilF ?_ |refine AWP.seq ?_ |refine AWP.region ?_ |refine AWP.condF rfl ?_ |(refine AWP.condD rfl ?_ ?_ <;> intro _ <;> try (exfalso; omega)) |refine AWP.block ?_ |refine AWP.skip ?_ |fail)
  refine Fl.io rfl [(900, 33)] (walk_ok a) rfl rfl (LeL.refl _) rfl trivial rfl rfl rfl rfl rfl ?_
  repeat' (first |refine Fl.v rfl rfl rfl ?_ |refine Fl.nilF ?_ |refine AWP.seq ?_ |refine AWP.region ?_ |refine Fl.w rfl rfl rfl (by first | exact True.intro | omega) ?_ |fail)
  refine Fl.io rfl [(900, 33)] (at_ok a (n - 1) ha (by omega) (by omega)) rfl rfl (LeL.refl _) rfl ⟨⟨⟨_, rfl, BLe.cells (LeL.refl _)⟩, rfl⟩, trivial⟩ rfl rfl rfl rfl rfl ?_
  skip
  have hN : (((n - 1).toNat : Nat) : Int) = n - 1 := by omega
  have hfc : Fit (atL a (n - 1) 63 (1, 0, 0)).1 ∧ Fit (atL a (n - 1) 63 (1, 0, 0)).2.1 := atL_fit a (n - 1) 63 _ fit_one Fit.zero
  refine Fl.ioV rfl rfl [(900, 33)] (chiS_ok a _ _ _ ha hfc.1 hfc.2) rfl rfl (LeL.refl _) rfl ⟨⟨⟨_, rfl, BLe.cells (LeL.refl _)⟩, rfl⟩, trivial⟩ rfl rfl rfl rfl rfl ?_
  repeat' (first |refine Fl.v rfl rfl rfl ?_ |refine Fl.nilF ?_ |refine Fl.nil (fun _ => by kernel_rfl) ?_ |refine AWP.seq ?_ |refine AWP.region ?_ |refine Fl.b rfl rfl rfl rfl ?_ |refine AWP.ret ?_ |fail)
  have hr := chi_res (a := a) (N := (n - 1).toNat) h2 ha (by omega) (by rw [show (n - 1).toNat + 1 = n.toNat by omega]; exact hc) rfl
  rw [hN, show (n - 1).toNat + 1 = n.toNat by omega] at hr
  refine RetOk.of rfl (AV.Le.tup (LeL.cons (AV.Le.agg ?_) (LeL.cons (AV.Le.int (by rw [hr])) LeL.nil)))
  exact leX (σ := []) (by rw [hr])
theorem Chi_ok (a n : Int) (ha : Fit a) (h2 : 2 ≤ a) (h0 : 1 ≤ n) (h1 : n ≤ 131072) (hc : Fit (chiN a n.toNat)) : PureFn Tryz.prog 100 [aX a, aN n] (.tup [aX (chiN a n.toNat), aN 0]) := by
  refine PureFn.of_body Tryz.func100 rfl Tryz.ntmps100 rfl rfl ?_
  repeat' (first |refine Fl.v rfl rfl rfl ?_ |refine Fl.nilF ?_ |refine AWP.seq ?_ |refine AWP.region ?_ |refine Fl.b rfl rfl rfl rfl ?_ |fail)
  refine Fl.call rfl (elementC_ok a n ha h2 h0 h1 hc) rfl rfl rfl (LeL.refl _) ?_
  repeat' (first |refine Fl.v rfl rfl rfl ?_ |refine Fl.nilF ?_ |refine Fl.b rfl rfl rfl rfl ?_ |refine AWP.ret ?_ |fail)
  exact RetOk.of rfl (AV.Le.refl _)
end Go.Proofs.YtcaecieigoplbaaGreat
/- Powers by psi: plain. -/
namespace Go.AL
theorem chips_pos {a : Int} (ha : 1 ≤ a) : ∀ n : Nat, 1 ≤ chiN a n ∧ 0 ≤ psiN a n ∧ a ^ n ≤ chiN a n
  | 0 => by simp [chi_zero, psi_zero]
  | n + 1 => by
    obtain ⟨h1, h2, h3⟩ := chips_pos ha n
    have h4 : 0 ≤ (a * a - 1) * psiN a n := Int.mul_nonneg (by have := Int.mul_le_mul ha ha (by omega) (by omega); omega) h2
    have h5 : 0 ≤ a * psiN a n := Int.mul_nonneg (by omega) h2
    have h6 : a * a ^ n ≤ a * chiN a n := Int.mul_le_mul_of_nonneg_left h3 (by omega)
    have h7 : 1 * chiN a n ≤ a * chiN a n := Int.mul_le_mul_of_nonneg_right ha (by omega)
    rw [chi_succ, psi_succ, Int.pow_succ, Int.mul_comm (a ^ n) a]
    refine ⟨by omega, by omega, by omega⟩
theorem psi_ge {a : Int} (ha : 1 ≤ a) (n : Nat) : a ^ n ≤ psiN a (n + 1) := by
  obtain ⟨h1, h2, h3⟩ := chips_pos ha n
  have h5 : 0 ≤ a * psiN a n := Int.mul_nonneg (by omega) h2
  rw [psi_succ]; omega
/-- powers, but for multiples of M -/
theorem pow_cong {a b : Int} (ha : 1 ≤ a) (hb : 0 ≤ b) : ∀ n : Nat, ∃ k, 0 ≤ k ∧ chiN a n - (a - b) * psiN a n = b ^ n + (2 * a * b - b * b - 1) * k
  | 0 => ⟨0, by omega, by simp [chi_zero, psi_zero]⟩
  | n + 1 => by
    obtain ⟨k, hk, h⟩ := pow_cong ha hb n
    obtain ⟨_, h2, _⟩ := chips_pos ha n
    refine ⟨b * k + psiN a n, by have := Int.mul_nonneg hb hk; omega, ?_⟩
    rw [chi_succ, psi_succ, Int.pow_succ]
    have e : chiN a n = b ^ n + (2 * a * b - b * b - 1) * k + (a - b) * psiN a n := by omega
    rw [e]
    grind
/-- the numbers of the links of a power -/
theorem power_only {b e c A Y X M z y : Int} (hb : 1 ≤ b) (he : 0 ≤ e) (hc : 0 ≤ c) (hz : 0 ≤ z) (hy : 0 ≤ y) (hX0 : 0 ≤ X) (hA : A = psiN (b + 2) (e.toNat + 2)) (hY : Y = psiN A (e.toNat + 1)) (hX : X * X = (A * A - 1) * (Y * Y) + 1) (hM : M = 2 * A * b - b * b - 1) (h1 : X = (A - b) * Y + c * b + M * z) (h2 : M = c * b + y + 1) :
    c = b ^ e.toNat ∧ X = chiN A (e.toNat + 1) := by
  generalize e.toNat = n at *
  have hA1 : (b + 2) ^ (n + 1) ≤ A := by rw [hA]; exact psi_ge (by omega) (n + 1)
  have hp0 : 1 ≤ (b + 2) ^ n := Int.pow_pos (by omega)
  have hA2 : b + 2 ≤ A := by
    have : 1 * (b + 2) ≤ (b + 2) ^ n * (b + 2) := Int.mul_le_mul_of_nonneg_right hp0 (by omega)
    rw [Int.pow_succ] at hA1; omega
  obtain ⟨q1, q2, q3⟩ := chips_pos (a := A) (by omega) (n + 1)
  have hXc : X = chiN A (n + 1) := by
    have hp := pell A (n + 1)
    rw [← hY] at hp
    have e : X * X = chiN A (n + 1) * chiN A (n + 1) := by omega
    rcases Int.lt_trichotomy X (chiN A (n + 1)) with h | h | h
    · have := Int.mul_lt_mul' (show X ≤ chiN A (n + 1) by omega) h hX0 (by omega); omega
    · exact h
    · have := Int.mul_lt_mul' (show chiN A (n + 1) ≤ X by omega) h (by omega) (by omega); omega
  refine ⟨?_, hXc⟩
  obtain ⟨k, hk, hc2⟩ := pow_cong (a := A) (b := b) (by omega) (by omega) (n + 1)
  rw [← hXc, ← hY, ← hM] at hc2
  have hpw : b ^ (n + 1) < M := by
    have g1 : b ^ (n + 1) ≤ (b + 2) ^ (n + 1) := by
      have : ∀ m : Nat, b ^ m ≤ (b + 2) ^ m ∧ 0 ≤ b ^ m := by
        intro m
        induction m with
        | zero => simp
        | succ m ih =>
          rw [Int.pow_succ, Int.pow_succ]
          exact ⟨Int.mul_le_mul ih.1 (by omega) (by omega) (by omega), Int.mul_nonneg ih.2 (by omega)⟩
      exact (this (n + 1)).1
    have g2 : A * 1 ≤ A * b := Int.mul_le_mul_of_nonneg_left hb (by omega)
    have g3 : (b + 2) * b ≤ A * b := Int.mul_le_mul_of_nonneg_right hA2 (by omega)
    have g4 : 2 * A * b = A * b + A * b := by grind
    have g5 : (b + 2) * b = b * b + 2 * b := by grind
    omega
  have hpn : 0 ≤ b ^ (n + 1) := Int.le_of_lt (Int.pow_pos (by omega))
  have hcb : 0 ≤ c * b := Int.mul_nonneg hc (by omega)
  have e1 : c * b + M * z = b ^ (n + 1) + M * k := by omega
  have e2 : c * b = b ^ (n + 1) := by
    have hMp : 0 < M := by omega
    have m1 : (c * b + M * z) % M = c * b := by rw [Int.add_mul_emod_self_left]; exact Int.emod_eq_of_lt hcb (by omega)
    have m2 : (b ^ (n + 1) + M * k) % M = b ^ (n + 1) := by rw [Int.add_mul_emod_self_left]; exact Int.emod_eq_of_lt hpn hpw
    rw [← m1, e1, m2]
  rw [Int.pow_succ] at e2
  exact Int.eq_of_mul_eq_mul_right (by omega) e2
end Go.AL
/- The values of built links. -/
namespace Go.AL
theorem pick_prod (P : Nat → Bool) (Y E : List Int) : ∀ (n k : Nat), (∀ i, k ≤ i → i < k + n → P i = false → E.getD i 0 = 0) →
    prodE (((List.range' k n).filter P).map fun i => Y.getD i 0) (((List.range' k n).filter P).map fun i => E.getD i 0) = prodE ((List.range' k n).map fun i => Y.getD i 0) ((List.range' k n).map fun i => E.getD i 0)
  | 0, k, _ => rfl
  | n + 1, k, h => by
    have ih := pick_prod P Y E n (k + 1) fun i h1 h2 h3 => h i (by omega) (by omega) h3
    rw [List.range'_succ, List.filter_cons]
    by_cases hp : P k = true
    · rw [if_pos hp]
      simp only [List.map_cons, prodE, ih]
    · rw [if_neg hp, ih]
      have h0 := h k (Nat.le_refl _) (by omega) (by simpa using hp)
      simp only [List.map_cons, prodE, h0]
      simp
theorem map_range_getD {V : Nat} {X : List Int} (h : X.length = V) : ((List.range V).map fun i => X.getD i 0) = X := by
  subst h
  refine List.ext_getElem (by simp) fun i h1 h2 => ?_
  simp [List.getD_eq_getElem?_getD, List.getElem?_eq_getElem h2]
/-- the sum of the absolute values of the terms -/
def auv (X : List Int) (p : List UT) : Int := sumL (p.map fun u => ((u.1 * prodE X u.2).natAbs : Int))
theorem pick_term {V : Nat} {X : List Int} (hX : X.length = V) {ls : List (List UT)} {p : List UT} (hp : p ∈ ls) {u : UT} (hu : u ∈ p) (hl : u.2.length = V) (he : EOk u.2) :
    prodE (atOf X ((occL V ls).map fun (i : Nat) => (i : Int))) (pickE (occL V ls) u.2) = prodE X u.2 := by
  have e1 : atOf X ((occL V ls).map fun (i : Nat) => (i : Int)) = (occL V ls).map fun i => X.getD i 0 := by
    unfold atOf
    rw [List.map_map]
    rfl
  have h := pick_prod (occP ls) X u.2 V 0 fun i _ h2 h3 => by
    have hb : i < u.2.length := by omega
    have hn : ¬ 0 < u.2.getD i 0 := fun hc => by
      have : occP ls i = true := List.any_eq_true.2 ⟨p, hp, List.any_eq_true.2 ⟨u, hu, by simpa using hc⟩⟩
      rw [this] at h3; cases h3
    have hge : 0 ≤ u.2.getD i 0 := by
      rw [List.getD_eq_getElem?_getD, List.getElem?_eq_getElem hb]
      exact (he _ (List.getElem_mem hb)).1
    omega
  rw [← List.range_eq_range'] at h
  rw [e1]
  unfold pickE occL
  rw [show (List.filter (fun i => ls.any fun p => p.any fun u => decide (0 < u.2.getD i 0)) (List.range V)) = (List.range V).filter (occP ls) from rfl, h, map_range_getD hX, map_range_getD hl]
theorem tv_tz (X : List Int) (u : UT) : tv X (tz u) = u.1 * prodE X u.2 := by
  show zval (zOf u.1) * prodE X u.2 = _
  rw [zval_zOf]
def nnU (V : Nat) (p : List UT) : Prop := ∀ u ∈ p, u.2.length = V ∧ EOk u.2
theorem pick_val {V n : Nat} {X : List Int} (hX : X.length = V) {ls : List (List UT)} {p : List UT} (hp : p ∈ ls) (hl : nnU V p) :
    pv (atOf X ((occL V ls).map fun (i : Nat) => (i : Int))) (mkP n (pickU (occL V ls) p)) = uv X p := by
  rw [pv_sum]
  unfold mkP pickU uv
  simp only [List.map_map]
  congr 1
  refine List.map_congr_left fun u hu => ?_
  show tv _ (tz (u.1, pickE (occL V ls) u.2)) = _
  rw [tv_tz, pick_term hX hp hu (hl u hu).1 (hl u hu).2]
theorem pick_abs {V n : Nat} {X : List Int} (hX : X.length = V) {ls : List (List UT)} {p : List UT} (hp : p ∈ ls) (hl : nnU V p) :
    AS (atOf X ((occL V ls).map fun (i : Nat) => (i : Int))) (mkP n (pickU (occL V ls) p)).terms = auv X p := by
  unfold mkP pickU AS auv
  simp only [List.map_map]
  congr 1
  refine List.map_congr_left fun u hu => ?_
  show ((tv _ (tz (u.1, pickE (occL V ls) u.2))).natAbs : Int) = _
  rw [tv_tz, pick_term hX hp hu (hl u hu).1 (hl u hu).2]
theorem lvals_linkU {V : Nat} {X : List Int} (hX : X.length = V) {kind : Int} {ls : List (List UT)} (h : ∀ p ∈ ls, nnU V p) : lvals X (linkU V kind ls) = ls.map (uv X) := by
  unfold lvals linkU
  simp only [List.map_map]
  exact List.map_congr_left fun p hp => pick_val hX hp (h p hp)
theorem plop_abs (v : Int) : 0 ≤ plI v ∧ plI v ≤ v.natAbs ∧ opI v ≤ 0 ∧ -(v.natAbs : Int) ≤ opI v := by
  unfold plI opI
  split <;> omega
theorem PS_ASm (X : List Int) : ∀ l : List TZ, 0 ≤ PS X l ∧ PS X l ≤ AS X l ∧ OS X l ≤ 0 ∧ -AS X l ≤ OS X l
  | [] => by simp [PS, OS, AS, sumL]
  | t :: l => by
    have h1 := PS_ASm X l
    have h2 := plop_abs (tv X t)
    simp only [PS, AS, OS, List.map_cons, sumL] at h1 ⊢
    omega
theorem EvOk.ofA {X : List Int} {p : PZ} (h : Fit (AS X p.terms)) : EvOk X p := by
  have h1 := PS_ASm X p.terms
  exact ⟨h.le (by omega), h.le (by omega)⟩
theorem evL_linkU {V : Nat} {X : List Int} (hX : X.length = V) {kind : Int} {ls : List (List UT)} (h : ∀ p ∈ ls, nnU V p) (hf : ∀ p ∈ ls, Fit (auv X p)) : EvL X (linkU V kind ls) := by
  intro q hq
  obtain ⟨p, hp, rfl⟩ := List.mem_map.1 hq
  refine EvOk.ofA ?_
  show Fit (AS (atOf X ((occL V ls).map fun (i : Nat) => (i : Int))) (mkP (occL V ls).length (pickU (occL V ls) p)).terms)
  rw [pick_abs hX hp (h p hp)]
  exact hf p hp
/-- A link that is built is valid, by inspection. -/
def okLU (V : Nat) (kind : Int) (ls : List (List UT)) : Bool :=
  decide (needI kind ≠ 0) && decide ((ls.length : Int) = needI kind) && ls.all (fun p => chkU (occL V ls).length (pickU (occL V ls) p) (pickU (occL V ls) p) && p.all (okU V))
theorem incB_range (P : Nat → Bool) : ∀ (n k : Nat) (last top : Int), last < k → ((k + n : Nat) : Int) ≤ top → incB last top (((List.range' k n).filter P).map fun (i : Nat) => (i : Int))
  | 0, _, _, _, _, _ => by simp [incB]
  | n + 1, k, last, top, h1, h2 => by
    rw [List.range'_succ, List.filter_cons]
    by_cases hp : P k = true
    · rw [if_pos hp]
      simp only [List.map_cons, incB]
      exact ⟨h1, by omega, incB_range P n (k + 1) k top (by omega) (by omega)⟩
    · rw [if_neg hp]
      exact incB_range P n (k + 1) last top (by omega) (by omega)
theorem okLU_ok {V : Nat} (hV : V ≤ 32) {kind : Int} {ls : List (List UT)} (h : okLU V kind ls = true) : OkL V (linkU V kind ls) ∧ WL (linkU V kind ls) ∧ ∀ p ∈ ls, nnU V p := by
  simp only [okLU, Bool.and_eq_true, decide_eq_true_eq, List.all_eq_true] at h
  obtain ⟨⟨h1, h2⟩, h3⟩ := h
  have hn : (occL V ls).length ≤ V := by
    unfold occL
    exact Nat.le_trans (List.length_filter_le _ _) (by simp)
  refine ⟨⟨h1, by simp only [linkU, List.length_map]; exact h2, by simp only [linkU, List.length_map]; omega, ?_, fun q hq => ?_⟩, fun q hq => ?_, fun p hp u hu => okU_ok ((h3 p hp).2 u hu)⟩
  · have := incB_range (occP ls) V 0 (-1) V (by omega) (by omega)
    rw [← List.range_eq_range'] at this
    exact this
  · obtain ⟨p, hp, rfl⟩ := List.mem_map.1 hq
    obtain ⟨a, b, c⟩ := mk_ok (V := (occL V ls).length) (by omega) (h3 p hp).1
    exact ⟨by simp [linkU, mkP], a⟩
  · obtain ⟨p, hp, rfl⟩ := List.mem_map.1 hq
    exact (mk_ok (V := (occL V ls).length) (by omega) (h3 p hp).1).2.2
end Go.AL
/- The values of built polynomials; bounds. -/
namespace Go.AL
theorem prodE_zeros : ∀ (X : List Int) (n : Nat), prodE X (List.replicate n 0) = 1
  | [], 0 => rfl
  | [], _ + 1 => rfl
  | _ :: _, 0 => rfl
  | x :: X, n + 1 => by rw [List.replicate_succ, prodE, prodE_zeros X n]; simp
theorem prodE_unit : ∀ (X : List Int) (i : Nat), i < X.length → prodE X (unU X.length i) = X.getD i 0
  | [], i, h => by simp at h
  | x :: X, 0, _ => by
    unfold unU
    rw [List.length_cons, List.replicate_succ, List.set_cons_zero, prodE, prodE_zeros]
    simp [Int.pow_succ]
  | x :: X, i + 1, h => by
    have ih := prodE_unit X i (by simpa using h)
    unfold unU at ih ⊢
    rw [List.length_cons, List.replicate_succ, List.set_cons_succ, prodE, ih]
    simp
theorem uv_con (X : List Int) (V : Nat) (c : Int) : uv X (conU V c) = c := by
  unfold conU uv
  split
  · rename_i h; rw [h]; rfl
  · simp [sumL, prodE_zeros]
theorem uv_var {X : List Int} {V i : Nat} (hX : X.length = V) (hi : i < V) : uv X (varU V i) = X.getD i 0 := by
  subst hX
  unfold varU uv
  simp only [List.map_cons, List.map_nil, sumL, prodE_unit X i hi]
  omega
theorem pv_mkP (X : List Int) (V : Nat) (p : List UT) : pv X (mkP V p) = uv X p := by
  rw [pv_sum]
  unfold mkP uv
  simp only [List.map_map]
  congr 1
  exact List.map_congr_left fun u _ => tv_tz X u
theorem chkU_UOk {V : Nat} {us l : List UT} (h : chkU V us l = true) : UOk V us := by
  simp only [chkU, Bool.and_eq_true, List.all_eq_true] at h
  exact fun u hu => okU_ok (h.1.1.1.1.1.1.1 u hu)
theorem uv_chk {V : Nat} (hV : V ≤ 32) {us l : List UT} (h : chkU V us l = true) (X : List Int) : uv X l = uv X us := by
  have := (chkU_ok hV h).val hV (chkU_UOk h) X
  rwa [pv_mkP] at this
theorem uv_scale (X : List Int) (b : Int) (q : List UT) : uv X (q.map fun u => (u.1 * b, u.2)) = uv X q * b := by
  unfold uv
  induction q with
  | nil => simp [sumL]
  | cons u q ih =>
    simp only [List.map_cons, sumL] at ih ⊢
    rw [ih]; grind
theorem uv_addUs (X : List Int) (b : Int) (p q : List UT) : uv X (addUs b p q) = uv X p + uv X q * b := by
  unfold addUs
  rw [uv_append, uv_scale]
theorem uv_mulUs {V : Nat} (X : List Int) {p q : List UT} (hp : nnU V p) (hq : nnU V q) : uv X (mulUs p q) = uv X p * uv X q := by
  unfold mulUs
  induction p with
  | nil => simp [uv, sumL]
  | cons t p ih =>
    rw [List.flatMap_cons, uv_append, ih fun u hu => hp u (by simp [hu])]
    have ht := hp t (by simp)
    have h1 : uv X (q.map fun u => (t.1 * u.1, addE t.2 u.2)) = t.1 * prodE X t.2 * uv X q := by
      clear ih
      unfold uv
      induction q with
      | nil => simp [sumL]
      | cons u q ih2 =>
        have hu := hq u (by simp)
        simp only [List.map_cons, sumL]
        rw [ih2 fun v hv => hq v (by simp [hv]), prodE_add ht.2 hu.2 (by rw [ht.1, hu.1])]
        grind
    rw [h1]
    show _ = (t.1 * prodE X t.2 + uv X p) * uv X q
    grind
theorem chk_nn {V : Nat} {p : List UT} (h : chkU V p p = true) : nnU V p := chkU_UOk h
theorem uv_sums {V : Nat} (hV : V ≤ 32) (X : List Int) : ∀ (ls : List (List UT)) (acc : List UT), okSums V acc ls = true → uv X (sumsU acc ls) = uv X acc + sumL (ls.map (uv X))
  | [], acc, _ => by simp [sumsU, sumL]
  | p :: ls, acc, h => by
    obtain ⟨c1, c2, c3, c4⟩ := okSums_cons h
    show uv X (sumsU (addL acc p) ls) = _
    rw [uv_sums hV X ls _ c4, uv_chk hV c3, uv_addUs]
    simp only [List.map_cons, sumL]
    omega
def prodL : List Int → Int
  | [] => 1
  | x :: l => x * prodL l
theorem uv_muls {V : Nat} (hV : V ≤ 32) (X : List Int) : ∀ (ls : List (List UT)) (acc : List UT), okMuls V acc ls = true → uv X (mulsU acc ls) = uv X acc * prodL (ls.map (uv X))
  | [], acc, _ => by simp [mulsU, prodL]
  | p :: ls, acc, h => by
    obtain ⟨c1, c2, c3, c4, c5⟩ := okMuls_cons h
    show uv X (mulsU (mulL2 acc p) ls) = _
    rw [uv_muls hV X ls _ c5, uv_chk hV c4, uv_mulUs X (chk_nn c1) (chk_nn c2)]
    simp only [List.map_cons, prodL]
    rw [Int.mul_assoc]
theorem uv_sub {V : Nat} (hV : V ≤ 32) (X : List Int) {p q : List UT} (h : chkU V (addUs (-1) p q) (subL p q) = true) : uv X (subL p q) = uv X p - uv X q := by
  rw [uv_chk hV h, uv_addUs]; omega
/-- bounds -/
theorem prodE_bound {m : Nat} : ∀ {X E : List Int}, (∀ x ∈ X, x.natAbs ≤ 2 ^ m) → EOk E → (prodE X E).natAbs ≤ (2 ^ m) ^ (sumL E).toNat
  | [], E, _, _ => by
    show 1 ≤ (2 ^ m) ^ (sumL E).toNat
    exact Nat.pow_pos (Nat.two_pow_pos m)
  | _ :: _, [], _, _ => by simp [prodE, sumL]
  | x :: X, e :: E, hx, he => by
    have ih := prodE_bound (X := X) (E := E) (fun y hy => hx y (by simp [hy])) fun y hy => he y (by simp [hy])
    have h0 := (he e (by simp)).1
    have hs : 0 ≤ sumL E := by
      have := sumL_bound (l := E) fun y hy => he y (by simp [hy])
      omega
    simp only [prodE, sumL]
    rw [Int.natAbs_mul, show (e + sumL E).toNat = e.toNat + (sumL E).toNat by omega, Nat.pow_add, Int.natAbs_pow]
    exact Nat.mul_le_mul (Nat.pow_le_pow_left (hx x (by simp)) _) ih
theorem auv_bound {m d : Nat} {X : List Int} (hX : ∀ x ∈ X, x.natAbs ≤ 2 ^ m) : ∀ {p : List UT}, (∀ u ∈ p, EOk u.2) → (∀ u ∈ p, sumL u.2 ≤ d) → 0 ≤ auv X p ∧ auv X p ≤ ((absU p * (2 ^ m) ^ d : Nat) : Int)
  | [], _, _ => by
    refine ⟨by simp [auv, sumL], ?_⟩
    show (0 : Int) ≤ _
    omega
  | u :: p, h1, h2 => by
    have ih := auv_bound (p := p) hX (fun v hv => h1 v (by simp [hv])) fun v hv => h2 v (by simp [hv])
    have hb := prodE_bound hX (h1 u (by simp))
    have hd := h2 u (by simp)
    have hle : (2 ^ m) ^ (sumL u.2).toNat ≤ (2 ^ m) ^ d := Nat.pow_le_pow_right (Nat.two_pow_pos m) (by omega)
    have hu : (u.1 * prodE X u.2).natAbs ≤ u.1.natAbs * (2 ^ m) ^ d := by
      rw [Int.natAbs_mul]
      exact Nat.mul_le_mul (Nat.le_refl _) (Nat.le_trans hb hle)
    unfold auv at ih ⊢
    simp only [List.map_cons, sumL, absU]
    rw [Nat.add_mul]
    generalize u.1.natAbs * (2 ^ m) ^ d = A at *
    generalize absU p * (2 ^ m) ^ d = B at *
    omega
def okB (d c : Nat) (p : List UT) : Bool := p.all (fun u => decide (sumL u.2 ≤ d)) && Nat.ble (absU p) (2 ^ c)
theorem auv_fit {V m d c : Nat} {X : List Int} (hX : ∀ x ∈ X, x.natAbs ≤ 2 ^ m) {p : List UT} (hn : nnU V p) (h : okB d c p = true) (hm : c + m * d < 131072) : Fit (auv X p) := by
  simp only [okB, Bool.and_eq_true, List.all_eq_true, decide_eq_true_eq] at h
  have h2 : absU p ≤ 2 ^ c := Nat.le_of_ble_eq_true h.2
  obtain ⟨b0, b1⟩ := auv_bound (d := d) hX (fun u hu => (hn u hu).2) h.1
  have h3 : absU p * (2 ^ m) ^ d ≤ 2 ^ c * (2 ^ m) ^ d := Nat.mul_le_mul h2 (Nat.le_refl _)
  rw [← Nat.pow_mul, ← Nat.pow_add] at h3
  obtain ⟨N, hN⟩ : ∃ N : Nat, N = 131072 := ⟨_, rfl⟩
  have h4 : 2 ^ (c + m * d) < 2 ^ N := Nat.pow_lt_pow_right (by omega) (by omega)
  refine Fit.mk ?_
  rw [BB_pow, show 32 * 4096 = N by omega]
  rw [show (((auv X p).natAbs : Nat) : Int) = auv X p by omega]
  have h5 : ((absU p * (2 ^ m) ^ d : Nat) : Int) < ((2 ^ N : Nat) : Int) := by
    rw [← Nat.pow_mul]
    exact Int.ofNat_lt.2 (Nat.lt_of_le_of_lt h3 h4)
  rw [Int.natCast_pow] at h5
  exact Int.lt_of_le_of_lt b1 h5
end Go.AL
/- mask.Witness. -/
namespace Go.AL
section
variable {P : Program} {tab : Tab} {n : Nat} {s : St}
variable {ops : Array Oper} {draw : Dr} {o : Oper} {l : List Oper} {acc : List Eff} {K : Exit → St → Prop}
/-- a load of a known element of a row -/
theorem Fl.rldK [f : Facts P tab] {t : TypeId} {x : Operand} (hop : o.op = .load t x) {b : Id} {off : Nat} (hx : opd s x = .rptr b off) {α : Type} {sz : Nat} {enc : α → List AV} {xs : List α} {bt : TypeId} (hb : s.bx b = some (.row sz enc xs bt)) {i : TI} (hti : tab t = some i) (hg : gOk ops s o = true) (hd : dOk n o.dst = true)
    {j : Nat} (hj : off = j * sz) {v : α → AV} (hv : ∀ x0, ofCells (aggD i.desc) i.size (enc x0) = some (v x0)) (hvc : ∀ x0, (v x0).closed = true) {x0 : α} (he : xs[j]? = some x0)
    (r : Fl P n ops draw l ((Eff.mk (v x0) [] [] [] [b]).app o.dst s) (Eff.mk (v x0) [] [] [] [b] :: acc) K) : Fl P n ops draw (o :: l) s acc K :=
  Fl.opv hg (OpJ.rload f.tabOk (dOk_lt hd) hop hx hb hti hj he (hv _) (hvc _)) r
/-- the address of a known place of a row -/
theorem Fl.relK [f : Facts P tab] {t : TypeId} {x y : Operand} (hop : o.op = .indexAddr t x y) {b : Id} (hx : opd s x = .row b) {k : IntKind} {m : Int} (hy : opd s y = .v (.int k m)) {e : TypeId} {i : TI} {sz' by' : Nat} {z : List Value} (hts : tab t = some ⟨.slice e, sz', by', z⟩) (hti : tab e = some i) {α : Type} {sz : Nat} {enc : α → List AV} {xs : List α} {bt : TypeId} (hb : s.bx b = some (.row sz enc xs bt)) (hg : gOk ops s o = true) (hd : dOk n o.dst = true)
    (hm : (decide (0 ≤ m) && Nat.blt m.toNat xs.length) = true)
    (r : Fl P n ops draw l ((Eff.mk (.rptr b (m.toNat * i.size)) [] [] [] [b]).app o.dst s) (Eff.mk (.rptr b (m.toNat * i.size)) [] [] [] [b] :: acc) K) : Fl P n ops draw (o :: l) s acc K := by
  simp only [Bool.and_eq_true, decide_eq_true_eq] at hm
  have := ltOf hm.2
  exact Fl.rel hop hx hy hts hti hb hg hd hm.1 (by omega) r
/-- a store at a known place of a row -/
theorem Fl.rstK [f : Facts P tab] {t : TypeId} {x y : Operand} (hop : o.op = .store t x y) {b : Id} {off : Nat} (hx : opd s x = .rptr b off) (hg : gOk ops s o = true) (hdst : o.dst = none) {α : Type} {sz : Nat} {enc : α → List AV} {xs : List α} {bt : TypeId} (hb : s.bx b = some (.row sz enc xs bt)) {i : TI} (hti : tab t = some i)
    {vs : List AV} (hv : cellsL (opd s y) = some vs) (hvc : closedL vs = true) (hsz : Nat.beq vs.length i.size = true) (hsz2 : Nat.beq i.size sz = true) {j : Nat} (hj : off = j * sz) {x1 : α} (hle : LeL vs (enc x1)) (hel : Nat.beq (enc x1).length sz = true) (hjl : Nat.blt j xs.length = true)
    (r : Fl P n ops draw l ((Eff.mk .any [(b, .row sz enc (xs.set j x1) bt)] [] [] [b]).app o.dst s) (Eff.mk .any [(b, .row sz enc (xs.set j x1) bt)] [] [] [b] :: acc) K) (hJ : presOk draw.J (Eff.mk .any [(b, .row sz enc (xs.set j x1) bt)] [] [] [b]) := by repeat' (first | exact True.intro | exact rfl | refine ⟨?_, ?_⟩ | fail)) : Fl P n ops draw (o :: l) s acc K :=
  Fl.rst hop hx hg hdst hb hti hv hvc hsz hsz2 hj hle hel (ltOf hjl) r hJ
end
/-- what Witness returns -/
structure MW where
  u : Int
  p : Int
  q : Int
  z : Int
  y : Int
  r : Int
  s : Int
  t : Int
def MW.X (w : MW) (a b : Int) : List Int := [a, b, w.u, w.p, w.q, w.z, w.y, w.r, w.s, w.t]
theorem fit_pow2 {x : Int} {m : Nat} (h0 : 0 ≤ x) (h : x ≤ 2 ^ m) (hm : m < 131072) : Fit x := by
  refine Fit.mk ?_
  rw [BB_pow, show 32 * 4096 = 131072 from rfl]
  have h4 : (2 : Int) ^ m < 2 ^ (131072 : Nat) := Int.pow_lt_pow_of_lt (by omega) hm
  omega
end Go.AL
namespace Go.Proofs.YtcaecieigoplbaaGreat
open Go.AL
theorem chainOk {o : Option Int} {f : FuncId} {args : List AV} {x : Int} (hf : Fit x) (h : IoFn Tryz.prog f args [(900, chB o 0)] (.ret (aX (cV 0 x))) [(900, chB o (cE 0 x))]) : IoFn Tryz.prog f args [(900, chB o 0)] (.ret (aX x)) [(900, chB o 0)] := by
  rw [cV_ok hf, cE_ok hf] at h
  exact h

end Go.Proofs.YtcaecieigoplbaaGreat
/- power.Witness, where all its numbers fit. -/
namespace Go.AL
/-- what Witness returns -/
structure PW where
  c : Int
  A : Int
  Y : Int
  X : Int
  M : Int
  z : Int
  y : Int
def pw (b e : Int) : PW :=
  let c := b ^ e.toNat
  let A := psiN (b + 2) (e.toNat + 2)
  let Y := psiN A (e.toNat + 1)
  let X := chiN A (e.toNat + 1)
  let M := A * b + ((A - b) * b - 1)
  ⟨c, A, Y, X, M, (X - (A - b) * Y - c * b) / M, M - c * b - 1⟩
def PW.L (w : PW) (b e : Int) : List Int := [b, e, w.c, w.A, w.Y, w.X, w.M, w.z, w.y, b - 1]
/-- all that is computed fits -/
structure PFit (b e : Int) (w : PW) : Prop where
  b0 : Fit b
  b2 : Fit (b + 2)
  c : Fit w.c
  A : Fit w.A
  Y : Fit w.Y
  X : Fit w.X
  M : Fit w.M
  cb : Fit (w.c * b)
  Ab : Fit (w.A * b)
  d : Fit (w.A - b)
  db : Fit ((w.A - b) * b)
  db1 : Fit ((w.A - b) * b - 1)
  dY : Fit ((w.A - b) * w.Y)
  x1 : Fit (w.X - (w.A - b) * w.Y)
  x2 : Fit (w.X - (w.A - b) * w.Y - w.c * b)
  z : Fit w.z
  y1 : Fit (w.M - w.c * b)
  y : Fit w.y
  b1 : Fit (b - 1)
theorem mul2_fit {x y : Int} (h1 : Fit x) (h2 : Fit (x * y)) : mulL 0 1 [x, y] = (x * y, 0) := by
  simp only [mulL, Int.one_mul, cV_ok h1, cE_ok h1, cV_ok h2, cE_ok h2]
end Go.AL
namespace Go.Proofs.YtcaecieigoplbaaGreat
open Go.AL
theorem chMul2 (x y : Int) (h1 : Fit x) (hy : Fit y) (h2 : Fit (x * y)) : IoFn Tryz.prog 101 [.ptr 900 0, .sl 2 eX [x, y]] [(900, chB none 0)] (.ret (aX (x * y))) [(900, chB none 0)] := by
  have h := chMul_ok none 0 [x, y] (by simp [h1, hy]) (by simp)
  rw [mul2_fit h1 h2] at h
  exact h
set_option maxHeartbeats 4000000 in
set_option maxRecDepth 20000 in
theorem pWitness_ok (b e : Int) (hb : 1 ≤ b) (he : 0 ≤ e) (he2 : e ≤ 131070) (hw : PFit b e (pw b e)) (hM : (pw b e).M ≠ 0) (hA2 : 2 ≤ (pw b e).A) : PureFn Tryz.prog 31 [aX b, aN e] (.tup [.sl 2 eX ((pw b e).L b e), aN 0]) := by
  refine PureFn.of_body Tryz.func31 rfl Tryz.ntmps31 rfl rfl ?_
  have hc : b ^ e.toNat = (pw b e).c := rfl
  have hA : psiN (b + 2) (e + 2).toNat = (pw b e).A := by rw [show (e + 2).toNat = e.toNat + 2 by omega]; rfl
  have hY : psiN (pw b e).A (e + 1).toNat = (pw b e).Y := by rw [show (e + 1).toNat = e.toNat + 1 by omega]; rfl
  have hX : chiN (pw b e).A (e + 1).toNat = (pw b e).X := by rw [show (e + 1).toNat = e.toNat + 1 by omega]; rfl
  have hM' : (pw b e).A * b + (((pw b e).A - b) * b - 1) = (pw b e).M := rfl
  have hz : ((pw b e).X - ((pw b e).A - b) * (pw b e).Y - (pw b e).c * b) / (pw b e).M = (pw b e).z := rfl
  have hy : (pw b e).M - (pw b e).c * b - 1 = (pw b e).y := rfl
  have hL : (pw b e).L b e = [b, e, (pw b e).c, (pw b e).A, (pw b e).Y, (pw b e).X, (pw b e).M, (pw b e).z, (pw b e).y, b - 1] := rfl
  rw [hL]
  generalize pw b e = w at *
  obtain ⟨c, A, Y, X, M, z, y⟩ := w
  obtain ⟨fb, fb2, fc, fA, fY, fX, fM, fcb, fAb, fd, fdb, fdb1, fdY, fx1, fx2, fz, fy1, fy, fb1⟩ := hw
  simp only at *
  have e1 := chainOk (o := none) (x := b + 0) (by rw [Int.add_zero]; exact fb) (chAdd_ok none 0 b 0 fb Fit.zero)
  rw [Int.add_zero] at e1
  have e2 := chainOk (o := none) fb1 (chSub_ok none 0 b 1 fb fit_one)
  have e3 := chainOk (o := none) (by rw [hc]; exact fc) (chPower_ok none 0 b e fb he (by omega))
  rw [hc] at e3
  have e4 := chainOk (o := none) fb2 (chAdd_ok none 0 b 2 fb fit_two)
  have e5 := Psi_ok (b + 2) (e + 2) fb2 (by omega) (by omega) (by omega)
  rw [hA, aR_fit fA] at e5
  have e6 := Psi_ok A (e + 1) fA hA2 (by omega) (by omega)
  rw [hY, aR_fit fY] at e6
  have e7 := Chi_ok A (e + 1) fA hA2 (by omega) (by omega) (by rw [hX]; exact fX)
  rw [hX] at e7
  have e8 := chMul2 c b fc fb fcb
  have e9 := chainOk (o := none) fd (chSub_ok none 0 A b fA fb)
  have e10 := chMul2 A b fA fb fAb
  have e11 := chMul2 (A - b) b fd fb fdb
  have e12 := chainOk (o := none) fdb1 (chSub_ok none 0 ((A - b) * b) 1 fdb fit_one)
  have e13 := chainOk (o := none) (by rw [hM']; exact fM) (chAdd_ok none 0 (A * b) ((A - b) * b - 1) fAb fdb1)
  rw [hM'] at e13
  have e14 := chMul2 (A - b) Y fd fY fdY
  have e15 := chainOk (o := none) fx1 (chSub_ok none 0 X ((A - b) * Y) fX fdY)
  have e16 := chainOk (o := none) fx2 (chSub_ok none 0 (X - (A - b) * Y) (c * b) fx1 fcb)
  have e17 := chainOk (o := none) (by rw [hz]; exact fz) (chQuo_ok none 0 (X - (A - b) * Y - c * b) M fx2 fM (fun _ => hM))
  rw [hz] at e17
  have e18 := chainOk (o := none) fy1 (chSub_ok none 0 M (c * b) fM fcb)
  have e19 := chainOk (o := none) (by rw [hy]; exact fy) (chSub_ok none 0 (M - c * b) 1 fy1 fit_one)
  rw [hy] at e19
  clear hc hA hY hX hM' hz hy hL
  refine AWP.seqS ?_
  repeat' (first |refine Fl.v rfl rfl rfl ?_ |refine Fl.nilF ?_ |refine AWP.region ?_ |refine Fl.b rfl rfl rfl rfl ?_ |fail)
  refine ⟨AWP.seqS ?_⟩
  repeat' (first |refine Fl.v rfl rfl rfl ?_ |refine AWP.seq ?_ |refine AWP.region ?_ |refine AWP.block ?_ |fail)
  refine Fl.call rfl (Valid_int b fb) rfl rfl rfl (LeL.refl _) ?_
  repeat' (first |refine Fl.v rfl rfl rfl ?_ |refine Fl.nilF ?_ |refine AWP.seq ?_ |refine AWP.region ?_ |refine AWP.condF rfl ?_ |fail)
  refine Fl.call rfl (Of_ok 1 (by omega) (by omega)) rfl rfl rfl (LeL.refl _) ?_
  skip
  refine Fl.call rfl (Less_ok b 1 fb fit_one) rfl rfl rfl (LeL.refl _) ?_
  repeat' (first |refine Fl.v rfl rfl rfl ?_ |refine Fl.nilF ?_ |refine Fl.nil (fun _ => by kernel_rfl) ?_ |refine AWP.seq ?_ |refine AWP.region ?_ |(refine AWP.condD rfl ?_ ?_ <;> intro _ <;> try (exfalso; omega)) |refine AWP.skip ?_ |(refine Fl.splitD rfl rfl ?_ ?_ <;> intro _ <;> try (exfalso; omega)) |fail)
  refine ⟨AWP.seqS ?_⟩
  repeat' (first |refine Fl.v rfl rfl rfl ?_ |refine Fl.nilF ?_ |refine AWP.region ?_ |refine Fl.b rfl rfl rfl rfl ?_ |fail)
  refine ⟨AWP.seqS ?_⟩
  repeat' (first |refine AWP.region ?_ |fail)
  refine Fl.make rfl rfl rfl rfl rfl rfl rfl rfl rfl rfl eX 0 (by exact leX_zero (σ := []) rfl) (by rfl) (by omega) (by dsimp only; omega) (by omega) ?_
  repeat' (first |refine Fl.v rfl rfl rfl ?_ |refine Fl.nilF ?_ |fail)
  refine ⟨AWP.seqS ?_⟩
  repeat' (first |refine Fl.v rfl rfl rfl ?_ |refine AWP.region ?_ |fail)
  refine Fl.call rfl (Of_ok 0 (by omega) (by omega)) rfl rfl rfl (LeL.refl _) ?_
  skip
  refine Fl.io rfl [(900, 28)] (e1) rfl rfl (LeL.refl _) rfl ⟨⟨⟨_, rfl, BLe.cells (LeL.refl _)⟩, rfl⟩, trivial⟩ rfl rfl rfl rfl rfl ?_
  repeat' (first |refine Fl.v rfl rfl rfl ?_ |fail)
  refine Fl.call rfl (Of_ok e (by omega) (by omega)) rfl rfl rfl (LeL.refl _) ?_
  repeat' (first |refine Fl.v rfl rfl rfl ?_ |fail)
  refine Fl.call rfl (Of_ok 1 (by omega) (by omega)) rfl rfl rfl (LeL.refl _) ?_
  skip
  refine Fl.io rfl [(900, 28)] (e2) rfl rfl (LeL.refl _) rfl ⟨⟨⟨_, rfl, BLe.cells (LeL.refl _)⟩, rfl⟩, trivial⟩ rfl rfl rfl rfl rfl ?_
  repeat' (first |refine Fl.relK rfl rfl rfl rfl rfl rfl rfl rfl rfl ?_ |refine Fl.rstK rfl rfl rfl rfl rfl rfl rfl rfl rfl rfl rfl (LeL.refl _) rfl rfl ?_ |refine Fl.nil (fun _ => by kernel_rfl) ?_ |fail)
  refine ⟨AWP.seqS ?_⟩
  repeat' (first |refine Fl.v rfl rfl rfl ?_ |refine AWP.region ?_ |fail)
  refine Fl.io rfl [(900, 28)] (e3) rfl rfl (LeL.refl _) rfl ⟨⟨⟨_, rfl, BLe.cells (LeL.refl _)⟩, rfl⟩, trivial⟩ rfl rfl rfl rfl rfl ?_
  repeat' (first |refine Fl.relK rfl rfl rfl rfl rfl rfl rfl rfl rfl ?_ |refine Fl.rstK rfl rfl rfl rfl rfl rfl rfl rfl rfl rfl rfl (LeL.refl _) rfl rfl ?_ |refine Fl.nilF ?_ |fail)
  refine ⟨AWP.seqS ?_⟩
  repeat' (first |refine Fl.v rfl rfl rfl ?_ |refine Fl.nilF ?_ |refine AWP.seq ?_ |refine AWP.region ?_ |refine AWP.condF rfl ?_ |refine AWP.skip ?_ |fail)
  refine ⟨AWP.seqS ?_⟩
  repeat' (first |refine Fl.v rfl rfl rfl ?_ |refine AWP.region ?_ |fail)
  refine Fl.call rfl (Of_ok 2 (by omega) (by omega)) rfl rfl rfl (LeL.refl _) ?_
  skip
  refine Fl.io rfl [(900, 28)] (e4) rfl rfl (LeL.refl _) rfl ⟨⟨⟨_, rfl, BLe.cells (LeL.refl _)⟩, rfl⟩, trivial⟩ rfl rfl rfl rfl rfl ?_
  repeat' (first |refine Fl.nil (fun _ => by kernel_rfl) ?_ |refine Fl.b rfl rfl rfl rfl ?_ |fail)
  refine ⟨AWP.seqS ?_⟩
  repeat' (first |refine Fl.nilF ?_ |refine AWP.region ?_ |refine Fl.b rfl rfl rfl rfl ?_ |fail)
  refine ⟨AWP.seqS ?_⟩
  repeat' (first |refine Fl.v rfl rfl rfl ?_ |refine Fl.nilF ?_ |refine AWP.seq ?_ |refine AWP.region ?_ |refine Fl.w rfl rfl rfl (by first | exact True.intro | omega) ?_ |refine AWP.condT rfl ?_ |fail)
  refine Fl.call rfl (e5) rfl rfl rfl (LeL.refl _) ?_
  repeat' (first |refine Fl.relK rfl rfl rfl rfl rfl rfl rfl rfl rfl ?_ |refine Fl.rstK rfl rfl rfl rfl rfl rfl rfl rfl rfl rfl rfl (LeL.refl _) rfl rfl ?_ |refine Fl.v rfl rfl rfl ?_ |fail)
  refine Fl.ixP rfl rfl rfl rfl rfl 0 rfl rfl rfl rfl (by decide) ?_
  repeat' (first |refine Fl.nilF ?_ |refine Fl.b rfl rfl rfl rfl ?_ |fail)
  refine ⟨AWP.seqS ?_⟩
  repeat' (first |refine Fl.v rfl rfl rfl ?_ |refine AWP.seq ?_ |refine AWP.region ?_ |(refine Fl.splitN rfl rfl ?_ ?_ <;> intro _ <;> try (exfalso; omega)) |fail)
  refine Fl.ixP rfl rfl rfl rfl rfl 0 rfl rfl rfl rfl (by decide) ?_
  repeat' (first |refine Fl.v rfl rfl rfl ?_ |refine Fl.nilF ?_ |refine AWP.condF rfl ?_ |refine AWP.skip ?_ |fail)
  refine ⟨AWP.seqS ?_⟩
  repeat' (first |refine Fl.rldK rfl rfl rfl rfl rfl rfl rfl (fun _ => rfl) (fun _ => rfl) rfl ?_ |refine Fl.relK rfl rfl rfl rfl rfl rfl rfl rfl rfl ?_ |refine Fl.v rfl rfl rfl ?_ |refine AWP.region ?_ |refine Fl.w rfl rfl rfl (by first | exact True.intro | omega) ?_ |fail)
  refine Fl.call rfl (e6) rfl rfl rfl (LeL.refl _) ?_
  repeat' (first |refine Fl.relK rfl rfl rfl rfl rfl rfl rfl rfl rfl ?_ |refine Fl.rstK rfl rfl rfl rfl rfl rfl rfl rfl rfl rfl rfl (LeL.refl _) rfl rfl ?_ |refine Fl.v rfl rfl rfl ?_ |fail)
  refine Fl.ixP rfl rfl rfl rfl rfl 1 rfl rfl rfl rfl (by decide) ?_
  repeat' (first |refine Fl.nilF ?_ |refine Fl.b rfl rfl rfl rfl ?_ |fail)
  refine ⟨AWP.seqS ?_⟩
  repeat' (first |refine Fl.rldK rfl rfl rfl rfl rfl rfl rfl (fun _ => rfl) (fun _ => rfl) rfl ?_ |refine Fl.relK rfl rfl rfl rfl rfl rfl rfl rfl rfl ?_ |refine Fl.v rfl rfl rfl ?_ |refine AWP.region ?_ |refine Fl.w rfl rfl rfl (by first | exact True.intro | omega) ?_ |fail)
  refine Fl.call rfl (e7) rfl rfl rfl (LeL.refl _) ?_
  repeat' (first |refine Fl.relK rfl rfl rfl rfl rfl rfl rfl rfl rfl ?_ |refine Fl.rstK rfl rfl rfl rfl rfl rfl rfl rfl rfl rfl rfl (LeL.refl _) rfl rfl ?_ |refine Fl.v rfl rfl rfl ?_ |fail)
  refine Fl.ixP rfl rfl rfl rfl rfl 2 rfl rfl rfl rfl (by decide) ?_
  repeat' (first |refine Fl.nilF ?_ |refine Fl.b rfl rfl rfl rfl ?_ |fail)
  refine ⟨AWP.seqS ?_⟩
  repeat' (first |refine AWP.seq ?_ |refine AWP.region ?_ |fail)
  refine Fl.ixP rfl rfl rfl rfl rfl 1 rfl rfl rfl rfl (by decide) ?_
  repeat' (first |refine Fl.v rfl rfl rfl ?_ |(refine Fl.splitN rfl rfl ?_ ?_ <;> intro _ <;> try (exfalso; omega)) |fail)
  refine Fl.ixP rfl rfl rfl rfl rfl 2 rfl rfl rfl rfl (by decide) ?_
  repeat' (first |refine Fl.v rfl rfl rfl ?_ |refine Fl.nilF ?_ |refine AWP.condF rfl ?_ |refine AWP.skip ?_ |fail)
  refine ⟨AWP.seqS ?_⟩
  repeat' (first |refine Fl.rldK rfl rfl rfl rfl rfl rfl rfl (fun _ => rfl) (fun _ => rfl) rfl ?_ |refine Fl.relK rfl rfl rfl rfl rfl rfl rfl rfl rfl ?_ |refine Fl.v rfl rfl rfl ?_ |refine AWP.region ?_ |fail)
  refine Fl.lit rfl rfl rfl rfl rfl eX [c, b] rfl rfl rfl rfl (by intro _ _; rfl) rfl ?_
  skip
  refine Fl.io rfl [(900, 28)] (e8) rfl rfl (LeL.refl _) rfl ⟨⟨⟨_, rfl, BLe.cells (LeL.refl _)⟩, rfl⟩, trivial⟩ rfl rfl rfl rfl rfl ?_
  repeat' (first |refine Fl.nil (fun _ => by kernel_rfl) ?_ |refine Fl.b rfl rfl rfl rfl ?_ |fail)
  refine ⟨AWP.seqS ?_⟩
  repeat' (first |refine Fl.rldK rfl rfl rfl rfl rfl rfl rfl (fun _ => rfl) (fun _ => rfl) rfl ?_ |refine Fl.relK rfl rfl rfl rfl rfl rfl rfl rfl rfl ?_ |refine Fl.v rfl rfl rfl ?_ |refine AWP.region ?_ |fail)
  refine Fl.io rfl [(900, 28)] (e9) rfl rfl (LeL.refl _) rfl ⟨⟨⟨_, rfl, BLe.cells (LeL.refl _)⟩, rfl⟩, trivial⟩ rfl rfl rfl rfl rfl ?_
  repeat' (first |refine Fl.nil (fun _ => by kernel_rfl) ?_ |refine Fl.b rfl rfl rfl rfl ?_ |fail)
  refine ⟨AWP.seqS ?_⟩
  repeat' (first |refine Fl.rldK rfl rfl rfl rfl rfl rfl rfl (fun _ => rfl) (fun _ => rfl) rfl ?_ |refine Fl.relK rfl rfl rfl rfl rfl rfl rfl rfl rfl ?_ |refine Fl.v rfl rfl rfl ?_ |refine AWP.region ?_ |fail)
  refine Fl.lit rfl rfl rfl rfl rfl eX [A, b] rfl rfl rfl rfl (by intro _ _; rfl) rfl ?_
  skip
  refine Fl.io rfl [(900, 28)] (e10) rfl rfl (LeL.refl _) rfl ⟨⟨⟨_, rfl, BLe.cells (LeL.refl _)⟩, rfl⟩, trivial⟩ rfl rfl rfl rfl rfl ?_
  repeat' (first |refine Fl.v rfl rfl rfl ?_ |fail)
  refine Fl.lit rfl rfl rfl rfl rfl eX [A - b, b] rfl rfl rfl rfl (by intro _ _; rfl) rfl ?_
  skip
  refine Fl.io rfl [(900, 28)] (e11) rfl rfl (LeL.refl _) rfl ⟨⟨⟨_, rfl, BLe.cells (LeL.refl _)⟩, rfl⟩, trivial⟩ rfl rfl rfl rfl rfl ?_
  skip
  refine Fl.call rfl (Of_ok 1 (by omega) (by omega)) rfl rfl rfl (LeL.refl _) ?_
  skip
  refine Fl.io rfl [(900, 28)] (e12) rfl rfl (LeL.refl _) rfl ⟨⟨⟨_, rfl, BLe.cells (LeL.refl _)⟩, rfl⟩, trivial⟩ rfl rfl rfl rfl rfl ?_
  skip
  refine Fl.io rfl [(900, 28)] (e13) rfl rfl (LeL.refl _) rfl ⟨⟨⟨_, rfl, BLe.cells (LeL.refl _)⟩, rfl⟩, trivial⟩ rfl rfl rfl rfl rfl ?_
  repeat' (first |refine Fl.relK rfl rfl rfl rfl rfl rfl rfl rfl rfl ?_ |refine Fl.rstK rfl rfl rfl rfl rfl rfl rfl rfl rfl rfl rfl (LeL.refl _) rfl rfl ?_ |refine Fl.nil (fun _ => by kernel_rfl) ?_ |fail)
  refine ⟨AWP.seqS ?_⟩
  repeat' (first |refine Fl.rldK rfl rfl rfl rfl rfl rfl rfl (fun _ => rfl) (fun _ => rfl) rfl ?_ |refine Fl.relK rfl rfl rfl rfl rfl rfl rfl rfl rfl ?_ |refine Fl.v rfl rfl rfl ?_ |refine AWP.region ?_ |fail)
  refine Fl.lit rfl rfl rfl rfl rfl eX [A - b, Y] rfl rfl rfl rfl (by intro _ _; rfl) rfl ?_
  skip
  refine Fl.io rfl [(900, 28)] (e14) rfl rfl (LeL.refl _) rfl ⟨⟨⟨_, rfl, BLe.cells (LeL.refl _)⟩, rfl⟩, trivial⟩ rfl rfl rfl rfl rfl ?_
  skip
  refine Fl.io rfl [(900, 28)] (e15) rfl rfl (LeL.refl _) rfl ⟨⟨⟨_, rfl, BLe.cells (LeL.refl _)⟩, rfl⟩, trivial⟩ rfl rfl rfl rfl rfl ?_
  repeat' (first |refine Fl.v rfl rfl rfl ?_ |fail)
  refine Fl.io rfl [(900, 28)] (e16) rfl rfl (LeL.refl _) rfl ⟨⟨⟨_, rfl, BLe.cells (LeL.refl _)⟩, rfl⟩, trivial⟩ rfl rfl rfl rfl rfl ?_
  repeat' (first |refine Fl.rldK rfl rfl rfl rfl rfl rfl rfl (fun _ => rfl) (fun _ => rfl) rfl ?_ |refine Fl.relK rfl rfl rfl rfl rfl rfl rfl rfl rfl ?_ |refine Fl.v rfl rfl rfl ?_ |fail)
  refine Fl.io rfl [(900, 28)] (e17) rfl rfl (LeL.refl _) rfl ⟨⟨⟨_, rfl, BLe.cells (LeL.refl _)⟩, rfl⟩, trivial⟩ rfl rfl rfl rfl rfl ?_
  repeat' (first |refine Fl.relK rfl rfl rfl rfl rfl rfl rfl rfl rfl ?_ |refine Fl.rstK rfl rfl rfl rfl rfl rfl rfl rfl rfl rfl rfl (LeL.refl _) rfl rfl ?_ |refine Fl.nil (fun _ => by kernel_rfl) ?_ |fail)
  refine ⟨AWP.seqS ?_⟩
  repeat' (first |refine Fl.rldK rfl rfl rfl rfl rfl rfl rfl (fun _ => rfl) (fun _ => rfl) rfl ?_ |refine Fl.relK rfl rfl rfl rfl rfl rfl rfl rfl rfl ?_ |refine Fl.v rfl rfl rfl ?_ |refine AWP.region ?_ |fail)
  refine Fl.io rfl [(900, 28)] (e18) rfl rfl (LeL.refl _) rfl ⟨⟨⟨_, rfl, BLe.cells (LeL.refl _)⟩, rfl⟩, trivial⟩ rfl rfl rfl rfl rfl ?_
  skip
  refine Fl.call rfl (Of_ok 1 (by omega) (by omega)) rfl rfl rfl (LeL.refl _) ?_
  skip
  refine Fl.io rfl [(900, 28)] (e19) rfl rfl (LeL.refl _) rfl ⟨⟨⟨_, rfl, BLe.cells (LeL.refl _)⟩, rfl⟩, trivial⟩ rfl rfl rfl rfl rfl ?_
  repeat' (first |refine Fl.relK rfl rfl rfl rfl rfl rfl rfl rfl rfl ?_ |refine Fl.rstK rfl rfl rfl rfl rfl rfl rfl rfl rfl rfl rfl (LeL.refl _) rfl rfl ?_ |refine Fl.nil (fun _ => by kernel_rfl) ?_ |fail)
  refine ⟨AWP.seqS ?_⟩
  repeat' (first |refine Fl.v rfl rfl rfl ?_ |refine Fl.nilF ?_ |refine AWP.seq ?_ |refine AWP.region ?_ |refine AWP.condF rfl ?_ |refine AWP.skip ?_ |fail)
  refine ⟨?_⟩
  repeat' (first |refine Fl.v rfl rfl rfl ?_ |refine Fl.nilF ?_ |refine AWP.seq ?_ |refine AWP.region ?_ |refine AWP.ret ?_ |fail)
  refine RetOk.ent (Ent.freeze 29 rfl) ?_
  exact RetOk.of rfl (AV.Le.refl _)
end Go.Proofs.YtcaecieigoplbaaGreat
/- Validity of any many numbers. -/
namespace Go.Proofs.YtcaecieigoplbaaGreat
open Go.AL
end Go.Proofs.YtcaecieigoplbaaGreat
/- mask: the links' meaning; what they need to be evaluated. -/
namespace Go.AL
end Go.AL
namespace Go.Proofs.YtcaecieigoplbaaGreat
open Go.AL
theorem holdsR_all {f g : LZ → Bool} : ∀ {ls : List LZ}, (∀ l ∈ ls, f l = true ∧ g l = true) → holdsR f g ls = (true, 0)
  | [], _ => rfl
  | l :: ls, h => by
    obtain ⟨h1, h2⟩ := h l (by simp)
    rw [holdsR, if_pos h1, if_pos h2]
    exact holdsR_all fun x hx => h x (by simp [hx])
/-- Holds, where all stands. -/
theorem Holds_yes (s : SZ) (X : List Int) (hw : WS s) (hs : OkS s) (hX : ∀ x ∈ X, Fit x) (hlen : (X.length : Int) = s.vars) (hnat : ∀ x ∈ X, 0 ≤ x) (he : ∀ l ∈ s.links, EvL X l) (hh : ∀ l ∈ s.links, HoL X l) : PureFn Tryz.prog 25 [aS s, .sl 2 eX X] (.tup [aB true, aN 0]) := by
  obtain ⟨f, hf⟩ := boolOf (EvL X)
  obtain ⟨g, hg⟩ := boolOf (HoL X)
  have := Holds_ok s X hw hs hX hlen hnat f g hf hg
  rw [holdsR_all fun l hl => ⟨(hf l).2 (he l hl), (hg l).2 (hh l hl)⟩] at this
  exact this
end Go.Proofs.YtcaecieigoplbaaGreat
/- power: the links' meaning; what they need to be evaluated. -/
namespace Go.AL
theorem pwS_all : (∀ l ∈ pwS.links, OkL 10 l ∧ WL l) := by
  intro l hl
  simp only [pwS, List.mem_cons, List.not_mem_nil, or_false] at hl
  rcases hl with rfl | rfl | rfl | rfl | rfl | rfl | rfl
  · have := okLU_ok (V := 10) (by omega) (kind := 0) (ls := [pw2]) (by kernel_rfl); exact ⟨this.1, this.2.1⟩
  · have := okLU_ok (V := 10) (by omega) (kind := 1) (ls := [pw3, pw4, varU 10 3]) (by kernel_rfl); exact ⟨this.1, this.2.1⟩
  · have := okLU_ok (V := 10) (by omega) (kind := 1) (ls := [varU 10 3, pw5, varU 10 4]) (by kernel_rfl); exact ⟨this.1, this.2.1⟩
  · have := okLU_ok (V := 10) (by omega) (kind := 0) (ls := [pw11]) (by kernel_rfl); exact ⟨this.1, this.2.1⟩
  · have := okLU_ok (V := 10) (by omega) (kind := 0) (ls := [pw16]) (by kernel_rfl); exact ⟨this.1, this.2.1⟩
  · have := okLU_ok (V := 10) (by omega) (kind := 0) (ls := [pw21]) (by kernel_rfl); exact ⟨this.1, this.2.1⟩
  · have := okLU_ok (V := 10) (by omega) (kind := 0) (ls := [pw23]) (by kernel_rfl); exact ⟨this.1, this.2.1⟩
theorem pwS_w : WS pwS := fun l hl => (pwS_all l hl).2
theorem pwS_ok : OkS pwS := ⟨by decide, by decide, by decide, fun l hl => (pwS_all l hl).1⟩
theorem pwS_nn : (∀ p ∈ [pw2, pw3, pw4, varU 10 3, pw5, varU 10 4, pw11, pw16, pw21, pw23], nnU 10 p ∧ okB 4 4 p = true) := by
  have h : ([pw2, pw3, pw4, varU 10 3, pw5, varU 10 4, pw11, pw16, pw21, pw23].all fun p => p.all (okU 10) && okB 4 4 p) = true := by kernel_rfl
  intro p hp
  have := List.all_eq_true.1 h p hp
  simp only [Bool.and_eq_true, List.all_eq_true] at this
  exact ⟨fun u hu => okU_ok (this.1 u hu), this.2⟩
theorem pw_vals (b e c A Y X M z y w : Int) : let L := [b, e, c, A, Y, X, M, z, y, w]
    uv L pw2 = b - (w + 1) ∧ uv L pw3 = b + 2 ∧ uv L pw4 = e + 2 ∧ uv L (varU 10 3) = A ∧ uv L pw5 = e + 1 ∧ uv L (varU 10 4) = Y ∧ uv L pw11 = X * X - ((A * A - 1) * (Y * Y) + 1) ∧ uv L pw16 = M - (2 * A * b - b * b - 1) ∧ uv L pw21 = X - ((A - b) * Y + c * b + M * z) ∧ uv L pw23 = M - (c * b + y + 1) := by
  intro L
  have v : ∀ i, i < 10 → uv L (varU 10 i) = L.getD i 0 := fun i hi => uv_var rfl hi
  have v0 : uv L (varU 10 0) = b := v 0 (by omega)
  have v1 : uv L (varU 10 1) = e := v 1 (by omega)
  have v2 : uv L (varU 10 2) = c := v 2 (by omega)
  have v3 : uv L (varU 10 3) = A := v 3 (by omega)
  have v4 : uv L (varU 10 4) = Y := v 4 (by omega)
  have v5 : uv L (varU 10 5) = X := v 5 (by omega)
  have v6 : uv L (varU 10 6) = M := v 6 (by omega)
  have v7 : uv L (varU 10 7) = z := v 7 (by omega)
  have v8 : uv L (varU 10 8) = y := v 8 (by omega)
  have v9 : uv L (varU 10 9) = w := v 9 (by omega)
  have c0 : ∀ k, uv L (conU 10 k) = k := fun k => uv_con L 10 k
  have n0 : uv L [] = 0 := rfl
  have m0 : uv L pw0 = c * b := by
    unfold pw0; rw [uv_muls (V := 10) (by omega) L _ _ (by kernel_rfl)]; simp only [List.map_cons, List.map_nil, prodL, c0, v2, v0]; grind
  have m1 : uv L pw1 = w + 1 := by
    unfold pw1; rw [uv_sums (V := 10) (by omega) L _ _ (by kernel_rfl)]; simp only [List.map_cons, List.map_nil, sumL, c0, n0, v9]; omega
  have m2 : uv L pw2 = b - (w + 1) := by
    unfold pw2; rw [uv_sub (V := 10) (by omega) L (by kernel_rfl), v0, m1]
  have m3 : uv L pw3 = b + 2 := by
    unfold pw3; rw [uv_sums (V := 10) (by omega) L _ _ (by kernel_rfl)]; simp only [List.map_cons, List.map_nil, sumL, c0, n0, v0]; omega
  have m4 : uv L pw4 = e + 2 := by
    unfold pw4; rw [uv_sums (V := 10) (by omega) L _ _ (by kernel_rfl)]; simp only [List.map_cons, List.map_nil, sumL, c0, n0, v1]; omega
  have m5 : uv L pw5 = e + 1 := by
    unfold pw5; rw [uv_sums (V := 10) (by omega) L _ _ (by kernel_rfl)]; simp only [List.map_cons, List.map_nil, sumL, c0, n0, v1]; omega
  have m6 : uv L pw6 = X * X := by
    unfold pw6; rw [uv_muls (V := 10) (by omega) L _ _ (by kernel_rfl)]; simp only [List.map_cons, List.map_nil, prodL, c0, v5]; grind
  have m7 : uv L pw7 = A * A := by
    unfold pw7; rw [uv_muls (V := 10) (by omega) L _ _ (by kernel_rfl)]; simp only [List.map_cons, List.map_nil, prodL, c0, v3]; grind
  have m8 : uv L pw8 = A * A - 1 := by
    unfold pw8; rw [uv_sub (V := 10) (by omega) L (by kernel_rfl), m7, c0]
  have m9 : uv L pw9 = (A * A - 1) * (Y * Y) := by
    unfold pw9; rw [uv_muls (V := 10) (by omega) L _ _ (by kernel_rfl)]; simp only [List.map_cons, List.map_nil, prodL, c0, m8, v4]; grind
  have m10 : uv L pw10 = (A * A - 1) * (Y * Y) + 1 := by
    unfold pw10; rw [uv_sums (V := 10) (by omega) L _ _ (by kernel_rfl)]; simp only [List.map_cons, List.map_nil, sumL, c0, n0, m9]; omega
  have m11 : uv L pw11 = X * X - ((A * A - 1) * (Y * Y) + 1) := by
    unfold pw11; rw [uv_sub (V := 10) (by omega) L (by kernel_rfl), m6, m10]
  have m12 : uv L pw12 = 2 * A * b := by
    unfold pw12; rw [uv_muls (V := 10) (by omega) L _ _ (by kernel_rfl)]; simp only [List.map_cons, List.map_nil, prodL, c0, v3, v0]; grind
  have m13 : uv L pw13 = b * b := by
    unfold pw13; rw [uv_muls (V := 10) (by omega) L _ _ (by kernel_rfl)]; simp only [List.map_cons, List.map_nil, prodL, c0, v0]; grind
  have m14 : uv L pw14 = 0 - b * b := by
    unfold pw14; rw [uv_sub (V := 10) (by omega) L (by kernel_rfl), c0, m13]
  have m15 : uv L pw15 = 2 * A * b - b * b - 1 := by
    unfold pw15; rw [uv_sums (V := 10) (by omega) L _ _ (by kernel_rfl)]; simp only [List.map_cons, List.map_nil, sumL, c0, n0, m12, m14]; omega
  have m16 : uv L pw16 = M - (2 * A * b - b * b - 1) := by
    unfold pw16; rw [uv_sub (V := 10) (by omega) L (by kernel_rfl), v6, m15]
  have m17 : uv L pw17 = A - b := by
    unfold pw17; rw [uv_sub (V := 10) (by omega) L (by kernel_rfl), v3, v0]
  have m18 : uv L pw18 = (A - b) * Y := by
    unfold pw18; rw [uv_muls (V := 10) (by omega) L _ _ (by kernel_rfl)]; simp only [List.map_cons, List.map_nil, prodL, c0, m17, v4]; grind
  have m19 : uv L pw19 = M * z := by
    unfold pw19; rw [uv_muls (V := 10) (by omega) L _ _ (by kernel_rfl)]; simp only [List.map_cons, List.map_nil, prodL, c0, v6, v7]; grind
  have m20 : uv L pw20 = (A - b) * Y + c * b + M * z := by
    unfold pw20; rw [uv_sums (V := 10) (by omega) L _ _ (by kernel_rfl)]; simp only [List.map_cons, List.map_nil, sumL, c0, n0, m18, m0, m19]; omega
  have m21 : uv L pw21 = X - ((A - b) * Y + c * b + M * z) := by
    unfold pw21; rw [uv_sub (V := 10) (by omega) L (by kernel_rfl), v5, m20]
  have m22 : uv L pw22 = c * b + y + 1 := by
    unfold pw22; rw [uv_sums (V := 10) (by omega) L _ _ (by kernel_rfl)]; simp only [List.map_cons, List.map_nil, sumL, c0, n0, m0, v8]; omega
  have m23 : uv L pw23 = M - (c * b + y + 1) := by
    unfold pw23; rw [uv_sub (V := 10) (by omega) L (by kernel_rfl), v6, m22]
  exact ⟨m2, m3, m4, v3, m5, v4, m11, m16, m21, m23⟩
/-- the links hold -/
def PowEq (b e c A Y X M z y w : Int) : Prop :=
  b = w + 1 ∧ (2 ≤ b + 2 ∧ 1 ≤ e + 2 ∧ psiN (b + 2) (e + 2).toNat = A) ∧ (2 ≤ A ∧ 1 ≤ e + 1 ∧ psiN A (e + 1).toNat = Y) ∧ X * X = (A * A - 1) * (Y * Y) + 1 ∧ M = 2 * A * b - b * b - 1 ∧ X = (A - b) * Y + c * b + M * z ∧ M = c * b + y + 1
theorem sub_zero_iff {x y : Int} : x - y = 0 ↔ x = y := by omega
theorem pw_hol (b e c A Y X M z y w : Int) : (∀ l ∈ pwS.links, HoL [b, e, c, A, Y, X, M, z, y, w] l) ↔ PowEq b e c A Y X M z y w := by
  obtain ⟨e0, e1, e2, e3, e4, e5, e6, e7, e8, e9⟩ := pw_vals b e c A Y X M z y w
  have nn : ∀ p, p ∈ [pw2, pw3, pw4, varU 10 3, pw5, varU 10 4, pw11, pw16, pw21, pw23] → nnU 10 p := fun p hp => (pwS_nn p hp).1
  have L : ∀ (kind : Int) (ls : List (List UT)), (∀ p ∈ ls, p ∈ [pw2, pw3, pw4, varU 10 3, pw5, varU 10 4, pw11, pw16, pw21, pw23]) → HoL [b, e, c, A, Y, X, M, z, y, w] (linkU 10 kind ls) = holdP kind (ls.map (uv [b, e, c, A, Y, X, M, z, y, w])) := fun kind ls h => by
    unfold HoL
    rw [lvals_linkU (V := 10) rfl fun p hp => nn p (h p hp)]
    rfl
  simp only [pwS, List.forall_mem_cons]
  rw [L 0 _ (by simp), L 1 _ (by simp), L 1 _ (by simp), L 0 _ (by simp), L 0 _ (by simp), L 0 _ (by simp), L 0 _ (by simp)]
  simp only [List.map_cons, List.map_nil, e0, e1, e2, e3, e4, e5, e6, e7, e8, e9]
  unfold holdP PowEq
  simp only [List.getD_cons_zero, List.getD_cons_succ, sub_zero_iff]
  simp
/-- numbers that are not too great: the links can be evaluated -/
theorem pw_ev {X : List Int} {m : Nat} (hm : m ≤ 32000) (hl : X.length = 10) (hX : ∀ x ∈ X, x.natAbs ≤ 2 ^ m) : ∀ l ∈ pwS.links, EvL X l := by
  have A : ∀ p, p ∈ [pw2, pw3, pw4, varU 10 3, pw5, varU 10 4, pw11, pw16, pw21, pw23] → nnU 10 p ∧ Fit (auv X p) := fun p hp => by
    obtain ⟨h1, h2⟩ := pwS_nn p hp
    exact ⟨h1, auv_fit hX h1 h2 (by omega)⟩
  have L : ∀ (kind : Int) (ls : List (List UT)), (∀ p ∈ ls, p ∈ [pw2, pw3, pw4, varU 10 3, pw5, varU 10 4, pw11, pw16, pw21, pw23]) → EvL X (linkU 10 kind ls) := fun kind ls h =>
    evL_linkU hl (fun p hp => (A p (h p hp)).1) fun p hp => (A p (h p hp)).2
  simp only [pwS, List.forall_mem_cons]
  exact ⟨L 0 _ (by simp), L 1 _ (by simp), L 1 _ (by simp), L 0 _ (by simp), L 0 _ (by simp), L 0 _ (by simp), L 0 _ (by simp), by simp⟩
/-- the first numbers of a power's witness -/
theorem pw_base {b A : Int} {n : Nat} (hb : 1 ≤ b) (hA : A = psiN (b + 2) (n + 2)) : b + 2 ≤ A ∧ b ^ (n + 1) < 2 * A * b - b * b - 1 := by
  have hA1 : (b + 2) ^ (n + 1) ≤ A := by rw [hA]; exact psi_ge (by omega) (n + 1)
  have hp0 : 1 ≤ (b + 2) ^ n := Int.pow_pos (by omega)
  have hA2 : b + 2 ≤ A := by
    have : 1 * (b + 2) ≤ (b + 2) ^ n * (b + 2) := Int.mul_le_mul_of_nonneg_right hp0 (by omega)
    rw [Int.pow_succ] at hA1; omega
  refine ⟨hA2, ?_⟩
  have g1 : b ^ (n + 1) ≤ (b + 2) ^ (n + 1) := pow_le_l (by omega) (by omega) _
  have g2 : A * 1 ≤ A * b := Int.mul_le_mul_of_nonneg_left hb (by omega)
  have g3 : (b + 2) * b ≤ A * b := Int.mul_le_mul_of_nonneg_right hA2 (by omega)
  have g4 : 2 * A * b = A * b + A * b := by grind
  have g5 : (b + 2) * b = b * b + 2 * b := by grind
  omega
/-- links that hold: the numbers are the witness's -/
theorem pw_only {b e c A Y X M z y w : Int} (h0 : ∀ x ∈ [b, e, c, A, Y, X, M, z, y, w], 0 ≤ x) (h : PowEq b e c A Y X M z y w) : 1 ≤ b ∧ c = b ^ e.toNat ∧ b + 2 ≤ A ∧ pw b e = ⟨c, A, Y, X, M, z, y⟩ ∧ [b, e, c, A, Y, X, M, z, y, w] = (pw b e).L b e := by
  simp only [List.forall_mem_cons] at h0
  obtain ⟨g0, g1, g2, g3, g4, g5, g6, g7, g8, g9, _⟩ := h0
  obtain ⟨l1, ⟨_, _, l2⟩, ⟨_, _, l3⟩, l4, l5, l6, l7⟩ := h
  have hb : 1 ≤ b := by omega
  rw [show (e + 2).toNat = e.toNat + 2 by omega] at l2
  rw [show (e + 1).toNat = e.toNat + 1 by omega] at l3
  obtain ⟨hc, hX⟩ := power_only hb g1 g2 g7 g8 g5 l2.symm l3.symm l4 l5 l6 l7
  obtain ⟨b1, b2⟩ := pw_base (n := e.toNat) hb l2.symm
  have hM : A * b + ((A - b) * b - 1) = M := by rw [l5]; grind
  have hM0 : M ≠ 0 := by
    have : 0 ≤ b ^ (e.toNat + 1) := Int.le_of_lt (Int.pow_pos (by omega))
    omega
  have hz : (X - (A - b) * Y - c * b) / M = z := by
    rw [show X - (A - b) * Y - c * b = M * z by omega]
    exact Int.mul_ediv_cancel_left z hM0
  have hpw : pw b e = ⟨c, A, Y, X, M, z, y⟩ := by
    unfold pw
    simp only
    rw [l2, l3, ← hX, ← hc, hM, hz, show M - c * b - 1 = y by omega]
  refine ⟨hb, hc, b1, hpw, ?_⟩
  rw [hpw]
  show _ = [b, e, c, A, Y, X, M, z, y, b - 1]
  rw [show w = b - 1 by omega]
theorem pw_fit {b e c A Y X M z y w : Int} (h0 : ∀ x ∈ [b, e, c, A, Y, X, M, z, y, w], 0 ≤ x) (hf : ∀ x ∈ [b, e, c, A, Y, X, M, z, y, w], Fit x) (h : PowEq b e c A Y X M z y w) : PFit b e ⟨c, A, Y, X, M, z, y⟩ ∧ M ≠ 0 ∧ e + 2 ≤ 131072 := by
  obtain ⟨hb, hc, hA2, _, _⟩ := pw_only h0 h
  simp only [List.forall_mem_cons] at h0 hf
  obtain ⟨g0, g1, g2, g3, g4, g5, g6, g7, g8, g9, _⟩ := h0
  obtain ⟨f0, f1, f2, f3, f4, f5, f6, f7, f8, f9, _⟩ := hf
  obtain ⟨l1, ⟨_, _, l2⟩, ⟨_, _, l3⟩, l4, l5, l6, l7⟩ := h
  have k1 : 0 ≤ c * b := Int.mul_nonneg g2 g0
  have k2 : 0 ≤ M * z := Int.mul_nonneg g6 g7
  have k3 : 2 * b ≤ (A - b) * b := Int.mul_le_mul_of_nonneg_right (by omega) g0
  have k4 : 3 * b ≤ A * b := Int.mul_le_mul_of_nonneg_right (by omega) g0
  have k5 : 0 ≤ (A - b) * Y := Int.mul_nonneg (by omega) g4
  have hM : A * b + ((A - b) * b - 1) = M := by rw [l5]; grind
  refine ⟨⟨f0, fit_of f3 (by omega) hA2, f2, f3, f4, f5, f6, fit_of f6 k1 (by simp only; omega), fit_of f6 (by simp only; omega) (by simp only; omega), fit_of f3 (by simp only; omega) (by simp only; omega), fit_of f6 (by simp only; omega) (by simp only; omega), fit_of f6 (by simp only; omega) (by simp only; omega), fit_of f5 k5 (by simp only; omega), fit_of f5 (by simp only; omega) (by simp only; omega), fit_of f5 (by simp only; omega) (by simp only; omega), f7, fit_of f6 (by simp only; omega) (by simp only; omega), f8, fit_of f0 (by omega) (by omega)⟩, by omega, ?_⟩
  by_cases he : e + 2 ≤ 131072
  · exact he
  · exact absurd (l2 ▸ f3) (psi_not_fit (a := b + 2) (by omega) (by omega))
/-- the witness's numbers: the links hold -/
theorem pw_found {b e : Int} (hb : 1 ≤ b) (he : 0 ≤ e) : PowEq b e (pw b e).c (pw b e).A (pw b e).Y (pw b e).X (pw b e).M (pw b e).z (pw b e).y (b - 1) ∧ ∀ x ∈ (pw b e).L b e, 0 ≤ x := by
  have hc : b ^ e.toNat = (pw b e).c := rfl
  have hA : psiN (b + 2) (e.toNat + 2) = (pw b e).A := rfl
  have hY : psiN (pw b e).A (e.toNat + 1) = (pw b e).Y := rfl
  have hX : chiN (pw b e).A (e.toNat + 1) = (pw b e).X := rfl
  have hM : (pw b e).A * b + (((pw b e).A - b) * b - 1) = (pw b e).M := rfl
  have hz : ((pw b e).X - ((pw b e).A - b) * (pw b e).Y - (pw b e).c * b) / (pw b e).M = (pw b e).z := rfl
  have hy : (pw b e).M - (pw b e).c * b - 1 = (pw b e).y := rfl
  have hL : (pw b e).L b e = [b, e, (pw b e).c, (pw b e).A, (pw b e).Y, (pw b e).X, (pw b e).M, (pw b e).z, (pw b e).y, b - 1] := rfl
  rw [hL]
  generalize pw b e = w at *
  obtain ⟨c, A, Y, X, M, z, y⟩ := w
  simp only at *
  obtain ⟨b1, b2⟩ := pw_base (n := e.toNat) hb hA.symm
  have hM2 : M = 2 * A * b - b * b - 1 := by rw [← hM]; grind
  rw [← hM2, Int.pow_succ, hc] at b2
  obtain ⟨k, hk, hc2⟩ := pow_cong (a := A) (b := b) (by omega) (by omega) (e.toNat + 1)
  rw [hX, hY, ← hM2, Int.pow_succ, hc] at hc2
  obtain ⟨q1, q2, q3⟩ := chips_pos (a := A) (by omega) (e.toNat + 1)
  have hp := pell A (e.toNat + 1)
  rw [hX] at q1 hp
  rw [hY] at q2 hp
  have hc0 : 1 ≤ c := by rw [← hc]; exact Int.pow_pos (by omega)
  have hcb : 0 ≤ c * b := Int.mul_nonneg (by omega) (by omega)
  have hzk : z = k := by
    rw [← hz, show X - (A - b) * Y - c * b = M * k by omega]
    exact Int.mul_ediv_cancel_left k (by omega)
  refine ⟨⟨by omega, ⟨by omega, by omega, ?_⟩, ⟨by omega, by omega, ?_⟩, by omega, hM2, by rw [hzk]; omega, by omega⟩, ?_⟩
  · rw [show (e + 2).toNat = e.toNat + 2 by omega]; exact hA
  · rw [show (e + 1).toNat = e.toNat + 1 by omega]; exact hY
  · simp only [List.forall_mem_cons]
    exact ⟨by omega, he, by omega, by omega, q2, by omega, by omega, by omega, by omega, by omega, by simp⟩
end Go.AL
/- ref01: SameAll. -/
namespace Go.AL
end Go.AL
namespace Go.Proofs.YtcaecieigoplbaaGreat
open Go.AL
end Go.Proofs.YtcaecieigoplbaaGreat
/- power: small witnesses; awake; a power of 1. -/
namespace Go.AL
theorem cp_ub {a : Int} (ha : 1 ≤ a) : ∀ n : Nat, chiN a n ≤ (2 * (a * a)) ^ n ∧ psiN a n ≤ (2 * (a * a)) ^ n
  | 0 => by simp [chi_zero, psi_zero]
  | n + 1 => by
    obtain ⟨h1, h2⟩ := cp_ub ha n
    obtain ⟨p1, p2, _⟩ := chips_pos ha n
    have ha2 : 1 * a ≤ a * a := Int.mul_le_mul_of_nonneg_right ha (by omega)
    rw [chi_succ, psi_succ, Int.pow_succ]
    generalize (2 * (a * a)) ^ n = T at *
    have e1 : a * chiN a n ≤ a * T := Int.mul_le_mul_of_nonneg_left h1 (by omega)
    have e2 : (a * a - 1) * psiN a n ≤ (a * a - 1) * T := Int.mul_le_mul_of_nonneg_left h2 (by omega)
    have e3 : a * psiN a n ≤ a * T := Int.mul_le_mul_of_nonneg_left h2 (by omega)
    have e4 : a * T ≤ (a * a) * T := Int.mul_le_mul_of_nonneg_right (by omega) (by omega)
    have e5 : 1 * T ≤ (a * a) * T := Int.mul_le_mul_of_nonneg_right (by omega) (by omega)
    have e6 : (a * a - 1) * T = (a * a) * T - T := by grind
    have e7 : T * (2 * (a * a)) = (a * a) * T + (a * a) * T := by grind
    omega
theorem pw_small {b e : Int} (hb : 1 ≤ b) (hb2 : b ≤ 1000) (he : 0 ≤ e) (he2 : e ≤ 5) : ∃ E : Nat, E ≤ 32000 ∧ ∀ x ∈ (pw b e).L b e, x.natAbs ≤ 2 ^ E ∧ Fit x := by
  obtain ⟨h1, h2⟩ := pw_found hb he
  have hL : (pw b e).L b e = [b, e, (pw b e).c, (pw b e).A, (pw b e).Y, (pw b e).X, (pw b e).M, (pw b e).z, (pw b e).y, b - 1] := rfl
  rw [hL] at h2 ⊢
  generalize pw b e = w at *
  obtain ⟨c, A, Y, X, M, z, y⟩ := w
  simp only at h1 h2 ⊢
  have hX0 := (power_only hb he (by have := h2 c (by simp); omega) (by have := h2 z (by simp); omega) (by have := h2 y (by simp); omega) (by have := h2 X (by simp); omega) (by rw [← h1.2.1.2.2, show (e + 2).toNat = e.toNat + 2 by omega]) (by rw [← h1.2.2.1.2.2, show (e + 1).toNat = e.toNat + 1 by omega]) h1.2.2.2.1 h1.2.2.2.2.1 h1.2.2.2.2.2.1 h1.2.2.2.2.2.2).2
  obtain ⟨_, ⟨_, _, l2⟩, ⟨hA2, _, l3⟩, l4, l5, l6, l7⟩ := h1
  simp only [List.forall_mem_cons] at h2
  obtain ⟨g0, g1, g2, g3, g4, g5, g6, g7, g8, g9, _⟩ := h2
  rw [show (e + 2).toNat = e.toNat + 2 by omega] at l2
  rw [show (e + 1).toNat = e.toNat + 1 by omega] at l3
  obtain ⟨F, hF⟩ : ∃ F : Nat, F = 147 := ⟨_, rfl⟩
  obtain ⟨E, hE⟩ : ∃ E : Nat, E = 2000 := ⟨_, rfl⟩
  have hA : A ≤ 2 ^ F := by
    rw [← l2]
    refine Int.le_trans (cp_ub (by omega) _).2 ?_
    have k1 : (b + 2) * (b + 2) ≤ 1002 * 1002 := Int.mul_le_mul (by omega) (by omega) (by omega) (by omega)
    have k0 : 0 ≤ (b + 2) * (b + 2) := Int.mul_nonneg (by omega) (by omega)
    have k2 : 2 * ((b + 2) * (b + 2)) ≤ 2 ^ 21 := by omega
    refine Int.le_trans (pow_le_l (by omega) k2 _) ?_
    rw [← Int.pow_mul]
    exact pow_le_r (by omega) (by omega)
  have hA2 : 2 * (A * A) ≤ 2 ^ (2 * F + 1) := by
    have k1 : A * A ≤ 2 ^ F * 2 ^ F := Int.mul_le_mul hA hA g3 (by omega)
    rw [show 2 * F + 1 = F + F + 1 by omega, Int.pow_succ, Int.pow_add]
    omega
  have hub := cp_ub (a := A) (by omega) (e.toNat + 1)
  have hT : (2 * (A * A)) ^ (e.toNat + 1) ≤ 2 ^ E := by
    refine Int.le_trans (pow_le_l (by have := Int.mul_nonneg g3 g3; omega) hA2 _) ?_
    rw [← Int.pow_mul]
    refine pow_le_r (by omega) ?_
    have : (2 * F + 1) * (e.toNat + 1) ≤ (2 * F + 1) * 6 := Nat.mul_le_mul_left _ (by omega)
    omega
  have hX : X ≤ 2 ^ E := by rw [hX0]; exact Int.le_trans hub.1 hT
  have hY : Y ≤ 2 ^ E := by rw [← l3]; exact Int.le_trans hub.2 hT
  have hAE : 2048 * A ≤ 2 ^ E := by
    refine Int.le_trans (Int.mul_le_mul_of_nonneg_left hA (by omega)) ?_
    rw [show (2048 : Int) = 2 ^ 11 by decide, ← Int.pow_add]
    exact pow_le_r (by omega) (by omega)
  have hM : M ≤ 2 ^ E := by
    have k1 : A * b ≤ A * 1000 := Int.mul_le_mul_of_nonneg_left hb2 g3
    have k2 : 0 ≤ b * b := Int.mul_nonneg g0 g0
    have k3 : 2 * A * b = 2 * (A * b) := by grind
    omega
  have hM1 : 1 ≤ M := by have := Int.mul_nonneg g2 g0; omega
  have hc : c ≤ M := by
    have : c * 1 ≤ c * b := Int.mul_le_mul_of_nonneg_left hb g2
    omega
  have hz : z ≤ X := by
    have k1 : 1 * z ≤ M * z := Int.mul_le_mul_of_nonneg_right hM1 g7
    have k2 := Int.mul_nonneg g2 g0
    have k3 : b + 2 ≤ A := (pw_base (n := e.toNat) hb l2.symm).1
    have k4 : 0 ≤ (A - b) * Y := Int.mul_nonneg (by omega) g4
    omega
  have hc2 : (2048 : Int) ≤ 2 ^ E := Int.le_trans (by decide : (2048 : Int) ≤ 2 ^ 11) (pow_le_r (by omega) (by omega))
  have hcb := Int.mul_nonneg g2 g0
  have hle : ∀ x ∈ [b, e, c, A, Y, X, M, z, y, b - 1], 0 ≤ x ∧ x ≤ 2 ^ E := by
    simp only [List.forall_mem_cons]
    exact ⟨⟨g0, by omega⟩, ⟨g1, by omega⟩, ⟨g2, by omega⟩, ⟨g3, by omega⟩, ⟨g4, hY⟩, ⟨g5, hX⟩, ⟨g6, hM⟩, ⟨g7, by omega⟩, ⟨g8, by omega⟩, ⟨g9, by omega⟩, by simp⟩
  refine ⟨E, by omega, fun x hx => ?_⟩
  obtain ⟨k0, k1⟩ := hle x hx
  refine ⟨?_, fit_pow2 k0 k1 (by omega)⟩
  have : ((x.natAbs : Nat) : Int) ≤ ((2 ^ E : Nat) : Int) := by
    rw [Int.natCast_pow]
    show ((x.natAbs : Nat) : Int) ≤ (2 : Int) ^ E
    omega
  exact Int.ofNat_le.1 this
end Go.AL
namespace Go.Proofs.YtcaecieigoplbaaGreat
open Go.AL
/-- Witness, where the links hold of numbers that fit -/
theorem pWitness_eq {b e c A Y X M z y w : Int} (h0 : ∀ x ∈ [b, e, c, A, Y, X, M, z, y, w], 0 ≤ x) (hf : ∀ x ∈ [b, e, c, A, Y, X, M, z, y, w], Fit x) (h : PowEq b e c A Y X M z y w) : e + 2 ≤ 131072 ∧ PureFn Tryz.prog 31 [aX b, aN e] (.tup [.sl 2 eX [b, e, c, A, Y, X, M, z, y, w], aN 0]) := by
  obtain ⟨hb, hc, hA2, hpw, hL⟩ := pw_only h0 h
  obtain ⟨f1, f2, f3⟩ := pw_fit h0 hf h
  refine ⟨f3, ?_⟩
  rw [hL]
  refine pWitness_ok b e hb (h0 e (by simp)) (by omega) (by rw [hpw]; exact f1) (by rw [hpw]; exact f2) (by rw [hpw]; simp only; omega)
theorem pWitness_small (b e : Int) (hb : 1 ≤ b) (hb2 : b ≤ 1000) (he : 0 ≤ e) (he2 : e ≤ 5) : PureFn Tryz.prog 31 [aX b, aN e] (.tup [.sl 2 eX ((pw b e).L b e), aN 0]) ∧ PureFn Tryz.prog 25 [aS pwS, .sl 2 eX ((pw b e).L b e)] (.tup [aB true, aN 0]) := by
  obtain ⟨h1, h2⟩ := pw_found hb he
  obtain ⟨E, hE, hs⟩ := pw_small hb hb2 he he2
  exact ⟨(pWitness_eq h2 (fun x hx => (hs x hx).2) h1).2, Holds_yes pwS _ pwS_w pwS_ok (fun x hx => (hs x hx).2) rfl h2 (pw_ev hE rfl fun x hx => (hs x hx).1) ((pw_hol _ _ _ _ _ _ _ _ _ _).2 h1)⟩
theorem awake11_ok : PureFn Tryz.prog 28 [] (aB true) := by
  refine PureFn.of_body Tryz.func28 rfl Tryz.ntmps28 rfl rfl ?_
  obtain ⟨c1, c2⟩ := pWitness_small 1 0 (by omega) (by omega) (by omega) (by omega)
  obtain ⟨L, hL⟩ : ∃ L, L = (pw 1 0).L 1 0 := ⟨_, rfl⟩
  have hLl : L.length = 10 := by rw [hL]; rfl
  have g3 : L[(3 : Int).toNat]? = some 6 := by rw [hL]; rfl
  have g6 : L[(6 : Int).toNat]? = some 10 := by rw [hL]; rfl
  have g8 : L[(8 : Int).toNat]? = some 8 := by rw [hL]; rfl
  rw [← hL] at c1 c2
  have len1 : ∀ x : Int, 0 ≤ x → x < 4294967296 → (toW x.natAbs).length ≤ 1000000 := fun x h0 h1 => Nat.le_trans ((toW_len_le (by omega) 1).2 (by rw [BB_succ, BB_zero]; omega)) (by omega)
  refine AWP.seqS ?_
  repeat' (first |refine Fl.v rfl rfl rfl ?_ |refine Fl.nilF ?_ |refine AWP.region ?_ |fail)
  refine ⟨AWP.seqS ?_⟩
  repeat' (first |refine AWP.region ?_ |fail)
  refine Fl.call rfl (rOf_ok 1 (by omega) (by omega)) rfl rfl rfl (LeL.refl _) ?_
  skip
  refine Fl.call rfl (c1) rfl rfl rfl (LeL.refl _) ?_
  repeat' (first |refine Fl.v rfl rfl rfl ?_ |refine Fl.nilF ?_ |fail)
  refine ⟨AWP.seqS ?_⟩
  repeat' (first |refine AWP.region ?_ |fail)
  refine Fl.call rfl (powerLinks_ok) rfl rfl rfl (LeL.refl _) ?_
  repeat' (first |refine Fl.v rfl rfl rfl ?_ |fail)
  refine Fl.call rfl (c2) rfl rfl rfl (LeL.refl _) ?_
  repeat' (first |refine Fl.v rfl rfl rfl ?_ |refine Fl.nilF ?_ |fail)
  refine ⟨?_⟩
  repeat' (first |refine Fl.v rfl rfl rfl ?_ |refine AWP.seq ?_ |refine AWP.region ?_ |refine Fl.elK rfl rfl rfl rfl rfl rfl rfl rfl (by assumption) (by omega) ?_ |(refine Fl.splitD rfl rfl ?_ ?_ <;> intro _ <;> try (exfalso; omega)) |fail)
  refine Fl.call rfl (rOf_ok 6 (by omega) (by omega)) rfl rfl rfl (LeL.refl _) ?_
  skip
  refine Fl.call rfl (rSame_ok 6 6 (len1 6 (by omega) (by omega))) rfl rfl rfl (LeL.refl _) ?_
  repeat' (first |refine Fl.v rfl rfl rfl ?_ |refine Fl.elK rfl rfl rfl rfl rfl rfl rfl rfl (by assumption) (by omega) ?_ |(refine Fl.splitD rfl rfl ?_ ?_ <;> intro _ <;> try (exfalso; omega)) |fail)
  refine Fl.call rfl (rOf_ok 10 (by omega) (by omega)) rfl rfl rfl (LeL.refl _) ?_
  skip
  refine Fl.call rfl (rSame_ok 10 10 (len1 10 (by omega) (by omega))) rfl rfl rfl (LeL.refl _) ?_
  repeat' (first |refine Fl.v rfl rfl rfl ?_ |refine Fl.elK rfl rfl rfl rfl rfl rfl rfl rfl (by assumption) (by omega) ?_ |(refine Fl.splitD rfl rfl ?_ ?_ <;> intro _ <;> try (exfalso; omega)) |fail)
  refine Fl.call rfl (rOf_ok 8 (by omega) (by omega)) rfl rfl rfl (LeL.refl _) ?_
  skip
  refine Fl.call rfl (rSame_ok 8 8 (len1 8 (by omega) (by omega))) rfl rfl rfl (LeL.refl _) ?_
  repeat' (first |refine Fl.v rfl rfl rfl ?_ |refine Fl.nil (fun _ => by kernel_rfl) ?_ |refine AWP.ret ?_ |fail)
  exact RetOk.of rfl (AV.Le.refl _)
end Go.Proofs.YtcaecieigoplbaaGreat
namespace Go.AL
end Go.AL
namespace Go.Proofs.YtcaecieigoplbaaGreat
open Go.AL

end Go.Proofs.YtcaecieigoplbaaGreat
namespace Go.AL
end Go.AL
namespace Go.Proofs.YtcaecieigoplbaaGreat
open Go.AL

end Go.Proofs.YtcaecieigoplbaaGreat
namespace Go.AL
/-- how many binary digits -/
def bitl (n : Nat) : Nat := if n = 0 then 0 else Nat.log2 n + 1
theorem bitl_eq {n k : Nat} (h1 : 2 ^ k ≤ n) (h2 : n < 2 ^ (k + 1)) : bitl n = k + 1 := by
  have := Nat.two_pow_pos k
  rw [bitl, if_neg (by omega), (Nat.log2_eq_iff (by omega)).2 ⟨h1, h2⟩]
theorem bitl_lt (n : Nat) : n < 2 ^ bitl n := by
  unfold bitl
  split
  · omega
  · exact Nat.lt_log2_self
theorem bitl_ge {n : Nat} (h : n ≠ 0) : 1 ≤ bitl n ∧ 2 ^ (bitl n - 1) ≤ n := by
  unfold bitl
  rw [if_neg h]
  exact ⟨by omega, Nat.log2_self_le h⟩
theorem bitl_le {n k : Nat} (h : n < 2 ^ k) : bitl n ≤ k := by
  rcases Nat.eq_zero_or_pos n with h0 | h0
  · rw [bitl, if_pos h0]; omega
  · have h1 := bitl_ge (n := n) (by omega)
    have h2 : 2 ^ (bitl n - 1) < 2 ^ k := by omega
    have := (Nat.pow_lt_pow_iff_right (by omega : 1 < 2)).1 h2
    omega
/-- the words, and the digits of the last one -/
theorem bitl_words {m n k : Nat} {u lo : Int} (hk : 1 ≤ k) (hlo : 0 ≤ lo) (hlo2 : lo < BB n) (hm : (m : Int) = lo + BB n * u) (h1 : 2 ^ (k - 1) ≤ u.toNat) (h2 : u.toNat < 2 ^ k) : bitl m = 32 * n + k := by
  have hB : BB n = ((2 ^ (32 * n) : Nat) : Int) := by rw [BB_pow]; simp
  have hup : u = (u.toNat : Int) := by
    have := Nat.two_pow_pos (k - 1)
    omega
  have hlt : ∃ l : Nat, lo = (l : Int) := ⟨lo.toNat, by omega⟩
  obtain ⟨l, rfl⟩ := hlt
  have hm' : m = l + 2 ^ (32 * n) * u.toNat := by
    rw [hB, hup] at hm
    exact_mod_cast hm
  have hl : l < 2 ^ (32 * n) := by rw [hB] at hlo2; exact_mod_cast hlo2
  have e : 32 * n + k = (32 * n + (k - 1)) + 1 := by omega
  rw [e]
  refine bitl_eq ?_ ?_
  · rw [Nat.pow_add, hm']
    have := Nat.mul_le_mul_left (2 ^ (32 * n)) h1
    omega
  · rw [← e, Nat.pow_add, hm']
    have h3 : u.toNat + 1 ≤ 2 ^ k := h2
    have := Nat.mul_le_mul_left (2 ^ (32 * n)) h3
    rw [Nat.mul_add] at this
    omega
end Go.AL
namespace Go.Proofs.YtcaecieigoplbaaGreat
open Go.AL

theorem rBits_ok (x : Int) (hx : lenI x ≤ 100000) : PureFn Tryz.prog 105 [aX x] (aN (bitl x.natAbs)) := by
  refine PureFn.of_body Tryz.func105 rfl Tryz.ntmps105 rfl rfl ?_
  have wx := toW_ok x.natAbs
  have vx := val_toW (show (0 : Int) ≤ x.natAbs by omega)
  obtain ⟨n, hn⟩ : ∃ n, n = (toW x.natAbs).length := ⟨_, rfl⟩
  have hx' : n ≤ 100000 := by rw [hn]; exact hx
  by_cases h0 : n = 0
  · have hx0 : x.natAbs = 0 := by
      have : toW x.natAbs = [] := List.eq_nil_of_length_eq_zero (by omega)
      rw [this, val_nil] at vx
      omega
    repeat' (first |refine Fl.v rfl rfl rfl ?_ |refine Fl.nilF ?_ |refine AWP.seq ?_ |refine AWP.region ?_ |refine Fl.b rfl rfl rfl rfl ?_ |(refine AWP.condD rfl ?_ ?_ <;> intro _ <;> try (exfalso; omega)) |refine AWP.ret ?_ |fail)
    exact RetOk.of rfl (AV.Le.int (by rw [hx0]; rfl))
  · obtain ⟨u, hu⟩ : ∃ u, (toW x.natAbs)[n - 1]? = some u := ⟨_, List.getElem?_eq_getElem (by omega)⟩
    have hu' : (toW x.natAbs)[(((toW x.natAbs).length : Int) - 1).toNat]? = some u := by rwa [show (((toW x.natAbs).length : Int) - 1).toNat = n - 1 by omega]
    have hub := wx u (List.mem_of_getElem? hu)
    have hval := val_take_succ hu
    rw [show n - 1 + 1 = n by omega, hn, List.take_length, vx, ← hn] at hval
    have wt : WOk ((toW x.natAbs).take (n - 1)) := fun y hy => wx y (List.mem_of_mem_take hy)
    have hlo := val_nonneg wt
    have hlo2 := val_lt wt
    rw [List.length_take_of_le (by omega)] at hlo2
    have hx1 : x.natAbs ≠ 0 := by
      intro h
      rw [h, show ((0 : Nat) : Int) = 0 from rfl, toW_zero] at hn
      exact h0 hn
    have hge := BB_len_le (z := x.natAbs) (by omega)
    rw [← hn] at hge
    have hu1 : 1 ≤ u := by
      rcases Int.lt_or_le u 1 with h | h
      · have : u = 0 := by omega
        subst this
        omega
      · exact h
    repeat' (first |refine Fl.v rfl rfl rfl ?_ |refine Fl.nilF ?_ |refine AWP.seq ?_ |refine AWP.region ?_ |refine Fl.w rfl rfl rfl (by first | exact True.intro | omega) ?_ |refine Fl.b rfl rfl rfl rfl ?_ |(refine AWP.condD rfl ?_ ?_ <;> intro _ <;> try (exfalso; omega)) |refine AWP.block ?_ |refine AWP.skip ?_ |refine Fl.elK rfl rfl rfl rfl rfl rfl rfl rfl (by assumption) (by omega) ?_ |fail)
    refine AWP.loop (G := Nat) (fun k => k ≤ 32 ∧ (k = 0 ∨ 2 ^ (k - 1) ≤ u.toNat)) (fun k => St.of [] [(3, aN (toW x.natAbs).length), (4, aN k), (5, .v (.int .u32 ((u.toNat / 2 ^ k : Nat) : Int)))] []) (fun k => u.toNat / 2 ^ k) 0 ⟨by omega, .inl rfl⟩ ?_ ?_
    · refine Ent.of [] ?_ ?_ rfl rfl
      repeat' (first | exact True.intro |refine ⟨⟨AV.Le.refl _, rfl⟩, ?_⟩ |refine ⟨⟨AV.Le.any _, rfl⟩, ?_⟩ |refine ⟨⟨⟨_, rfl, BLe.cells (LeL.refl _)⟩, rfl⟩, ?_⟩ |refine ⟨⟨⟨_, rfl, BLe.row rfl⟩, rfl⟩, ?_⟩ |refine ⟨⟨⟨_, rfl, BLe.row ?_⟩, rfl⟩, ?_⟩ |refine ⟨⟨⟨_, rfl, BLe.cells ?_⟩, rfl⟩, ?_⟩ |refine ⟨⟨AV.Le.int ?_, rfl⟩, ?_⟩ |refine ⟨⟨AV.Le.bool ?_, rfl⟩, ?_⟩ |refine ⟨⟨AV.Le.sl ?_, rfl⟩, ?_⟩ |refine ⟨⟨AV.Le.of_eq ?_, rfl⟩, ?_⟩ | fail)
      rw [Nat.pow_zero, Nat.div_one]; omega
    · intro k ⟨k0, k1⟩
      obtain ⟨q, hq⟩ : ∃ q, q = u.toNat / 2 ^ k := ⟨_, rfl⟩
      have hq1 : u.toNat / 2 ^ (k + 1) = q / 2 := by rw [hq, Nat.pow_succ, ← Nat.div_div_eq_div_mul]
      rw [← hq]
      by_cases hw : 0 < q
      · have h2k : 2 ^ k ≤ u.toNat := by
          rcases Nat.lt_or_ge u.toNat (2 ^ k) with h | h
          · rw [Nat.div_eq_of_lt h] at hq; omega
          · exact h
        have hk32 : k < 32 := by
          have h3 : 2 ^ k < 2 ^ 32 := by omega
          exact (Nat.pow_lt_pow_iff_right (by omega : 1 < 2)).1 h3
        have hhi : hiK .u32 = 4294967295 := rfl
        have hqu : q ≤ u.toNat := by rw [hq]; exact Nat.div_le_self _ _
        repeat' (first |refine Fl.v rfl rfl rfl ?_ |refine Fl.nilF ?_ |refine AWP.seq ?_ |refine AWP.region ?_ |refine Fl.w rfl rfl rfl (by first | exact True.intro | omega) ?_ |(refine AWP.condD rfl ?_ ?_ <;> intro _ <;> try (exfalso; omega)) |refine AWP.block ?_ |refine AWP.skip ?_ |fail)
        refine LoopEnd.of (k + 1) ⟨by omega, .inr (by simpa using h2k)⟩ (by rw [hq1, ← hq]; omega) ?_
        refine Ent.of [] ?_ ?_ rfl rfl
        repeat' (first | exact True.intro |refine ⟨⟨AV.Le.refl _, rfl⟩, ?_⟩ |refine ⟨⟨AV.Le.any _, rfl⟩, ?_⟩ |refine ⟨⟨⟨_, rfl, BLe.cells (LeL.refl _)⟩, rfl⟩, ?_⟩ |refine ⟨⟨⟨_, rfl, BLe.row rfl⟩, rfl⟩, ?_⟩ |refine ⟨⟨⟨_, rfl, BLe.row ?_⟩, rfl⟩, ?_⟩ |refine ⟨⟨⟨_, rfl, BLe.cells ?_⟩, rfl⟩, ?_⟩ |refine ⟨⟨AV.Le.int ?_, rfl⟩, ?_⟩ |refine ⟨⟨AV.Le.bool ?_, rfl⟩, ?_⟩ |refine ⟨⟨AV.Le.sl ?_, rfl⟩, ?_⟩ |refine ⟨⟨AV.Le.of_eq ?_, rfl⟩, ?_⟩ | fail)
        rw [hq1]; omega
      · have hlt : u.toNat < 2 ^ k := by
          rcases Nat.lt_or_ge u.toNat (2 ^ k) with h | h
          · exact h
          · have := Nat.div_pos h (Nat.two_pow_pos k); omega
        have hk1 : 1 ≤ k := by
          rcases k1 with h | h
          · subst h; simp at hlt; omega
          · rcases Nat.eq_zero_or_pos k with h' | h'
            · subst h'; simp at hlt; omega
            · exact h'
        have hb := bitl_words hk1 hlo hlo2 hval (k1.resolve_left (by omega)) hlt
        repeat' (first |refine Fl.v rfl rfl rfl ?_ |refine Fl.nilF ?_ |refine AWP.seq ?_ |refine AWP.region ?_ |refine Fl.w rfl rfl rfl (by first | exact True.intro | omega) ?_ |(refine AWP.condD rfl ?_ ?_ <;> intro _ <;> try (exfalso; omega)) |refine AWP.exit ?_ |refine AWP.ret ?_ |fail)
        exact RetOk.of rfl (AV.Le.int (by rw [hb]; omega))
end Go.Proofs.YtcaecieigoplbaaGreat
namespace Go.AL
theorem pow_ge_one {x : Int} (h : 1 ≤ x) : ∀ k : Nat, 1 ≤ x ^ k
  | 0 => by rw [Int.pow_zero]; omega
  | k + 1 => by
    rw [Int.pow_succ]
    have h1 := pow_ge_one h k
    have := Int.mul_le_mul h1 h (by omega) (by omega)
    omega
theorem le_mul_one {a b : Int} (ha : 1 ≤ a) (hb : 0 ≤ b) : b ≤ b * a := by
  have := Int.mul_le_mul_of_nonneg_left ha hb
  omega
theorem sq_pow (x : Int) (k : Nat) : (x * x) ^ k = x ^ (2 * k) := by
  rw [Int.mul_pow, ← Int.pow_add]; congr 1; omega
theorem lt_BB {m k n : Nat} (h : m ≤ 2 ^ k) (hk : k < 32 * n) : (m : Int) < BB n := by
  have h3 : 2 ^ k < 2 ^ (32 * n) := Nat.pow_lt_pow_right (by omega) hk
  have h4 : m < 2 ^ (32 * n) := Nat.lt_of_le_of_lt h h3
  rw [BB_pow]
  exact_mod_cast h4
theorem bitl_BB {m n : Nat} (h : (m : Int) < BB n) : bitl m ≤ 32 * n := bitl_le (by
  rw [BB_pow] at h
  exact_mod_cast h)
/-- what is returned is not too long -/
theorem pow_small {p n b : Int} (hp : 2 ≤ p) (h0 : 0 ≤ n) (hb : b = (bitl p.natAbs : Int)) (h : n * (b - 1) ≤ 131072) : p ^ n.toNat < BB 8193 := by
  have hb2 : 2 ≤ b := by
    have h1 := bitl_ge (n := p.natAbs) (by omega)
    have h2 := bitl_lt p.natAbs
    rcases Nat.lt_or_ge (bitl p.natAbs) 2 with h3 | h3
    · have : bitl p.natAbs = 1 := by omega
      rw [this] at h2; omega
    · omega
  have h1 : p.natAbs ^ n.toNat ≤ (2 ^ bitl p.natAbs) ^ n.toNat := Nat.pow_le_pow_left (Nat.le_of_lt (bitl_lt _)) _
  rw [← Nat.pow_mul] at h1
  have h2 : bitl p.natAbs * n.toNat ≤ 262144 := by
    have e1 : n * b ≤ n * (2 * (b - 1)) := Int.mul_le_mul_of_nonneg_left (by omega) h0
    have e2 : n * (2 * (b - 1)) = 2 * (n * (b - 1)) := by rw [← Int.mul_assoc, Int.mul_comm n 2, Int.mul_assoc]
    have e3 : ((bitl p.natAbs * n.toNat : Nat) : Int) = n * b := by
      rw [Int.natCast_mul, hb, Int.mul_comm, show ((n.toNat : Nat) : Int) = n by omega]
    omega
  have h5 : p ^ n.toNat = ((p.natAbs ^ n.toNat : Nat) : Int) := by
    rw [Int.natCast_pow, show ((p.natAbs : Nat) : Int) = p by omega]
  rw [h5]
  exact lt_BB h1 (by omega)
end Go.AL
namespace Go.Proofs.YtcaecieigoplbaaGreat
open Go.AL

set_option maxHeartbeats 1000000 in
theorem rPower_ok (p n : Int) (hp : 2 ≤ p) (hpf : Fit p) (h0 : 0 ≤ n) (h1 : n ≤ 163840) (b : Int) (hb : b = (bitl p.natAbs : Int)) (h : n * (b - 1) ≤ 131072) : PureFn Tryz.prog 36 [aX p, aN n] (.tup [aX (p ^ n.toNat), aB true]) := by
  refine PureFn.of_body Tryz.func36 rfl Tryz.ntmps36 rfl rfl ?_
  have hlp := hpf.len
  have hb2 : 2 ≤ b := by
    have h1 := bitl_ge (n := p.natAbs) (by omega)
    have h2 := bitl_lt p.natAbs
    rcases Nat.lt_or_ge (bitl p.natAbs) 2 with h3 | h3
    · have : bitl p.natAbs = 1 := by omega
      rw [this] at h2; omega
    · omega
  have hbu : b ≤ 131072 := by
    have h3 : bitl p.natAbs ≤ 32 * 4096 := bitl_BB (by have := hpf; unfold Fit at this; exact this)
    omega
  have hsmall := pow_small hp h0 hb h
  have hbits := rBits_ok p (show lenI p ≤ 100000 by unfold lenI; omega)
  rw [← hb] at hbits
  have hhi : hiK .i64 = 9223372036854775807 := rfl
  have hquo : n ≤ 262144 / (b - 1) := (Int.le_ediv_iff_mul_le (by omega)).2 (by omega)
  obtain ⟨T, hT⟩ : ∃ T, T = p ^ n.toNat := ⟨_, rfl⟩
  have hp8 : p < BB 8193 := by
    have := hpf
    unfold Fit at this
    have h3 := BB_le (show 4096 ≤ 8193 by omega)
    omega
  rw [← hT] at hsmall ⊢
  repeat' (first |refine Fl.v rfl rfl rfl ?_ |refine Fl.nilF ?_ |refine AWP.seq ?_ |refine AWP.region ?_ |refine Fl.b rfl rfl rfl rfl ?_ |fail)
  refine Fl.call rfl (hbits) rfl rfl rfl (LeL.refl _) ?_
  repeat' (first |refine Fl.v rfl rfl rfl ?_ |refine Fl.nilF ?_ |refine AWP.seq ?_ |refine AWP.region ?_ |refine Fl.w rfl rfl rfl (by first | exact True.intro | omega) ?_ |(refine AWP.condD rfl ?_ ?_ <;> intro _ <;> try (exfalso; omega)) |refine AWP.skip ?_ |fail)
  refine Fl.call rfl (rOf_ok 1 (by omega) (by omega)) rfl rfl rfl (LeL.refl _) ?_
  repeat' (first |refine Fl.v rfl rfl rfl ?_ |refine Fl.nilF ?_ |refine AWP.seq ?_ |refine AWP.region ?_ |refine Fl.b rfl rfl rfl rfl ?_ |refine AWP.block ?_ |fail)
  refine AWP.loop (G := Int × Int × Int) (fun (m, o, x) => (0 ≤ m ∧ m ≤ n) ∧ (1 ≤ o ∧ o < BB 8193) ∧ (1 ≤ x ∧ x < BB 8193) ∧ o * x ^ m.toNat = T)
    (fun (m, o, x) => St.of [] [(1, aN m), (4, .ptr 4 0), (7, .ptr 7 0), (8, .ptr 700 0)] [(4, .cells [aB false, .v (.slice none 0 0)] 35), (7, .cells (eX o) 35), (700, .cells (eX x) 35)])
    (fun (m, o, x) => m.toNat) (n, 1, p) ⟨⟨h0, by omega⟩, ⟨by omega, by have := BB_le (show 1 ≤ 8193 by omega); rw [BB_succ 0, BB_zero] at this; omega⟩, ⟨by omega, hp8⟩, by rw [Int.one_mul]; exact hT.symm⟩ ?_ ?_
  · refine Ent.of [(700, 8)] ?_ ?_ rfl rfl
    repeat' (first | exact True.intro |refine ⟨⟨AV.Le.refl _, rfl⟩, ?_⟩ |refine ⟨⟨AV.Le.any _, rfl⟩, ?_⟩ |refine ⟨⟨⟨_, rfl, BLe.cells (LeL.refl _)⟩, rfl⟩, ?_⟩ |refine ⟨⟨⟨_, rfl, BLe.row rfl⟩, rfl⟩, ?_⟩ |refine ⟨⟨⟨_, rfl, BLe.row ?_⟩, rfl⟩, ?_⟩ |refine ⟨⟨⟨_, rfl, BLe.cells ?_⟩, rfl⟩, ?_⟩ |refine ⟨⟨AV.Le.int ?_, rfl⟩, ?_⟩ |refine ⟨⟨AV.Le.bool ?_, rfl⟩, ?_⟩ |refine ⟨⟨AV.Le.sl ?_, rfl⟩, ?_⟩ |refine ⟨⟨AV.Le.of_eq ?_, rfl⟩, ?_⟩ | fail)
  · intro (m, o, x) ⟨⟨k0, k1⟩, ⟨k2, k3⟩, ⟨k4, k5⟩, k6⟩
    have lo : lenI o ≤ 8193 := lenI_le.2 (by omega)
    have lx : lenI x ≤ 8193 := lenI_le.2 (by omega)
    have hmo := rMul_ok o x (show lenI o ≤ 40000 by omega) (show lenI x ≤ 40000 by omega)
    have hmx := rMul_ok x x (show lenI x ≤ 40000 by omega) (show lenI x ≤ 40000 by omega)
    have hox : 1 ≤ o * x := by have := le_mul_one k4 (show 0 ≤ o by omega); omega
    have hxx : 1 ≤ x * x := by have := le_mul_one k4 (show 0 ≤ x by omega); omega
    by_cases hm : 0 < m
    · have hodd : m % 2 = 1 → o * x ≤ T ∧ o * x * (x * x) ^ (m / 2).toNat = T := fun hmo => by
        have e : x ^ m.toNat = x * (x * x) ^ (m / 2).toNat := by
          rw [sq_pow, Int.mul_comm, ← Int.pow_succ]; congr 1; omega
        rw [e, ← Int.mul_assoc] at k6
        exact ⟨by rw [← k6]; exact le_mul_one (pow_ge_one hxx _) (by omega), k6⟩
      have heven : m % 2 ≠ 1 → o * (x * x) ^ (m / 2).toNat = T := fun hmo => by
        have e : x ^ m.toNat = (x * x) ^ (m / 2).toNat := by
          rw [sq_pow]; congr 1; omega
        rw [e] at k6
        exact k6
      have hsq : 1 < m → x * x ≤ T := fun hm1 => by
        have e : x ^ m.toNat = (x * x) * x ^ (m.toNat - 2) := by
          rw [show x * x = x ^ 2 by rw [Int.pow_succ, Int.pow_succ, Int.pow_zero, Int.one_mul], ← Int.pow_add]; congr 1; omega
        rw [e, ← Int.mul_assoc] at k6
        rw [← k6]
        have g1 := le_mul_one (pow_ge_one k4 (m.toNat - 2)) (show 0 ≤ o * (x * x) from Int.mul_nonneg (by omega) (by omega))
        have g2 := Int.mul_le_mul_of_nonneg_right k2 (show 0 ≤ x * x by omega)
        omega
      by_cases hr : m % 2 = 1
      · obtain ⟨q1, q2⟩ := hodd hr
        by_cases hm1 : 1 < m
        · repeat' (first |refine Fl.v rfl rfl rfl ?_ |refine Fl.nilF ?_ |refine AWP.seq ?_ |refine AWP.region ?_ |refine Fl.w rfl rfl rfl (by first | exact True.intro | omega) ?_ |(refine AWP.condD rfl ?_ ?_ <;> intro _ <;> try (exfalso; omega)) |refine AWP.block ?_ |refine AWP.skip ?_ |fail)
          refine Fl.call rfl (hmo) rfl rfl rfl (LeL.refl _) ?_
          repeat' (first |refine Fl.v rfl rfl rfl ?_ |refine Fl.nilF ?_ |refine AWP.seq ?_ |refine AWP.region ?_ |refine Fl.b rfl rfl rfl rfl ?_ |(refine AWP.condD rfl ?_ ?_ <;> intro _ <;> try (exfalso; omega)) |fail)
          refine Fl.call rfl (hmx) rfl rfl rfl (LeL.refl _) ?_
          repeat' (first |refine Fl.v rfl rfl rfl ?_ |refine Fl.nilF ?_ |refine AWP.seq ?_ |refine AWP.region ?_ |refine Fl.w rfl rfl rfl (by first | exact True.intro | omega) ?_ |refine Fl.b rfl rfl rfl rfl ?_ |fail)
          refine LoopEnd.of (m / 2, o * x, x * x) ⟨⟨by omega, by omega⟩, ⟨by omega, by omega⟩, ⟨by omega, by have := hsq hm1; omega⟩, q2⟩ (show (m / 2).toNat < m.toNat by omega) ?_
          refine Ent.of [(700, 8)] ?_ ?_ rfl rfl
          repeat' (first | exact True.intro |refine ⟨⟨AV.Le.refl _, rfl⟩, ?_⟩ |refine ⟨⟨AV.Le.any _, rfl⟩, ?_⟩ |refine ⟨⟨⟨_, rfl, BLe.cells (LeL.refl _)⟩, rfl⟩, ?_⟩ |refine ⟨⟨⟨_, rfl, BLe.row rfl⟩, rfl⟩, ?_⟩ |refine ⟨⟨⟨_, rfl, BLe.row ?_⟩, rfl⟩, ?_⟩ |refine ⟨⟨⟨_, rfl, BLe.cells ?_⟩, rfl⟩, ?_⟩ |refine ⟨⟨AV.Le.int ?_, rfl⟩, ?_⟩ |refine ⟨⟨AV.Le.bool ?_, rfl⟩, ?_⟩ |refine ⟨⟨AV.Le.sl ?_, rfl⟩, ?_⟩ |refine ⟨⟨AV.Le.of_eq ?_, rfl⟩, ?_⟩ | fail)
        · have hm2 : m = 1 := by omega
          subst hm2
          repeat' (first |refine Fl.v rfl rfl rfl ?_ |refine Fl.nilF ?_ |refine AWP.seq ?_ |refine AWP.region ?_ |refine Fl.w rfl rfl rfl (by first | exact True.intro | omega) ?_ |refine AWP.condT rfl ?_ |refine AWP.block ?_ |refine AWP.skip ?_ |fail)
          refine Fl.call rfl (hmo) rfl rfl rfl (LeL.refl _) ?_
          repeat' (first |refine Fl.v rfl rfl rfl ?_ |refine Fl.nilF ?_ |refine AWP.seq ?_ |refine AWP.region ?_ |refine Fl.w rfl rfl rfl (by first | exact True.intro | omega) ?_ |refine Fl.b rfl rfl rfl rfl ?_ |refine AWP.condF rfl ?_ |refine AWP.skip ?_ |fail)
          refine LoopEnd.of (0, o * x, x) ⟨⟨by omega, by omega⟩, ⟨by omega, by omega⟩, ⟨by omega, k5⟩, by simpa using q2⟩ (show (0 : Int).toNat < (1 : Int).toNat by decide) ?_
          refine Ent.of [(700, 8)] ?_ ?_ rfl rfl
          repeat' (first | exact True.intro |refine ⟨⟨AV.Le.refl _, rfl⟩, ?_⟩ |refine ⟨⟨AV.Le.any _, rfl⟩, ?_⟩ |refine ⟨⟨⟨_, rfl, BLe.cells (LeL.refl _)⟩, rfl⟩, ?_⟩ |refine ⟨⟨⟨_, rfl, BLe.row rfl⟩, rfl⟩, ?_⟩ |refine ⟨⟨⟨_, rfl, BLe.row ?_⟩, rfl⟩, ?_⟩ |refine ⟨⟨⟨_, rfl, BLe.cells ?_⟩, rfl⟩, ?_⟩ |refine ⟨⟨AV.Le.int ?_, rfl⟩, ?_⟩ |refine ⟨⟨AV.Le.bool ?_, rfl⟩, ?_⟩ |refine ⟨⟨AV.Le.sl ?_, rfl⟩, ?_⟩ |refine ⟨⟨AV.Le.of_eq ?_, rfl⟩, ?_⟩ | fail)
      · have q2 := heven hr
        repeat' (first |refine Fl.v rfl rfl rfl ?_ |refine Fl.nilF ?_ |refine AWP.seq ?_ |refine AWP.region ?_ |refine Fl.w rfl rfl rfl (by first | exact True.intro | omega) ?_ |(refine AWP.condD rfl ?_ ?_ <;> intro _ <;> try (exfalso; omega)) |refine AWP.block ?_ |refine AWP.skip ?_ |fail)
        refine Fl.call rfl (hmx) rfl rfl rfl (LeL.refl _) ?_
        repeat' (first |refine Fl.v rfl rfl rfl ?_ |refine Fl.nilF ?_ |refine AWP.seq ?_ |refine AWP.region ?_ |refine Fl.w rfl rfl rfl (by first | exact True.intro | omega) ?_ |refine Fl.b rfl rfl rfl rfl ?_ |fail)
        refine LoopEnd.of (m / 2, o, x * x) ⟨⟨by omega, by omega⟩, ⟨by omega, by omega⟩, ⟨by omega, by have := hsq (by omega); omega⟩, q2⟩ (show (m / 2).toNat < m.toNat by omega) ?_
        refine Ent.of [(700, 8)] ?_ ?_ rfl rfl
        repeat' (first | exact True.intro |refine ⟨⟨AV.Le.refl _, rfl⟩, ?_⟩ |refine ⟨⟨AV.Le.any _, rfl⟩, ?_⟩ |refine ⟨⟨⟨_, rfl, BLe.cells (LeL.refl _)⟩, rfl⟩, ?_⟩ |refine ⟨⟨⟨_, rfl, BLe.row rfl⟩, rfl⟩, ?_⟩ |refine ⟨⟨⟨_, rfl, BLe.row ?_⟩, rfl⟩, ?_⟩ |refine ⟨⟨⟨_, rfl, BLe.cells ?_⟩, rfl⟩, ?_⟩ |refine ⟨⟨AV.Le.int ?_, rfl⟩, ?_⟩ |refine ⟨⟨AV.Le.bool ?_, rfl⟩, ?_⟩ |refine ⟨⟨AV.Le.sl ?_, rfl⟩, ?_⟩ |refine ⟨⟨AV.Le.of_eq ?_, rfl⟩, ?_⟩ | fail)
    · rw [show m.toNat = 0 by omega, Int.pow_zero, Int.mul_one] at k6
      rw [← k6]
      repeat' (first |refine Fl.v rfl rfl rfl ?_ |refine Fl.nilF ?_ |refine AWP.seq ?_ |refine AWP.region ?_ |refine Fl.b rfl rfl rfl rfl ?_ |(refine AWP.condD rfl ?_ ?_ <;> intro _ <;> try (exfalso; omega)) |refine AWP.exit ?_ |refine AWP.ret ?_ |fail)
      exact RetOk.of rfl (AV.Le.refl _)
end Go.Proofs.YtcaecieigoplbaaGreat
namespace Go.AL
end Go.AL
namespace Go.Proofs.YtcaecieigoplbaaGreat
open Go.AL

end Go.Proofs.YtcaecieigoplbaaGreat
/- PowerFound. -/
namespace Go.AL
theorem bitl_small {p : Int} (h0 : 0 ≤ p) (h : p ≤ 1000) : bitl p.natAbs ≤ 10 := bitl_le (by omega)
end Go.AL
namespace Go.Proofs.YtcaecieigoplbaaGreat
open Go.AL
theorem rPower1_ok (n : Int) (h0 : 0 ≤ n) : PureFn Tryz.prog 36 [aX 1, aN n] (.tup [aX 1, aB true]) := by
  refine PureFn.of_body Tryz.func36 rfl Tryz.ntmps36 rfl rfl ?_
  have hb := rBits_ok 1 (by rw [lenI]; exact Nat.le_trans ((toW_len_le (by omega) 1).2 (by rw [BB_succ, BB_zero]; omega)) (by omega))
  have hb1 : (bitl (1 : Int).natAbs : Int) = 1 := by decide
  rw [hb1] at hb
  refine AWP.seqS ?_
  repeat' (first |refine Fl.v rfl rfl rfl ?_ |refine Fl.nilF ?_ |refine AWP.region ?_ |refine Fl.b rfl rfl rfl rfl ?_ |fail)
  refine ⟨AWP.seqS ?_⟩
  repeat' (first |refine Fl.v rfl rfl rfl ?_ |refine AWP.region ?_ |fail)
  refine Fl.call rfl (hb) rfl rfl rfl (LeL.refl _) ?_
  repeat' (first |refine Fl.v rfl rfl rfl ?_ |refine Fl.nilF ?_ |fail)
  refine ⟨AWP.seqS ?_⟩
  repeat' (first |refine Fl.v rfl rfl rfl ?_ |refine Fl.nilF ?_ |refine AWP.seq ?_ |refine AWP.region ?_ |refine Fl.b rfl rfl rfl rfl ?_ |refine Fl.skip rfl rfl ?_ |refine AWP.condT rfl ?_ |refine AWP.condF rfl ?_ |(refine AWP.condD rfl ?_ ?_ <;> intro _ <;> try (exfalso; omega)) |refine AWP.block ?_ |refine AWP.skip ?_ |refine AWP.ret ?_ |fail)
  · refine Fl.call rfl (rOf_ok 1 (by omega) (by omega)) rfl rfl rfl (LeL.refl _) ?_
    repeat' (first |refine Fl.v rfl rfl rfl ?_ |refine Fl.nilF ?_ |refine Fl.b rfl rfl rfl rfl ?_ |refine AWP.ret ?_ |fail)
    exact RetOk.of rfl (AV.Le.refl _)
  · exact RetOk.of rfl (AV.Le.refl _)
theorem rPowerS_ok (b e : Int) (hb : 1 ≤ b) (hb2 : b ≤ 1000) (he : 0 ≤ e) (he2 : e ≤ 5) : PureFn Tryz.prog 36 [aX b, aN e] (.tup [aX (pw b e).c, aB true]) := by
  have hc : (pw b e).c = b ^ e.toNat := rfl
  rw [hc]
  by_cases h1 : b = 1
  · subst h1
    rw [Int.one_pow]
    exact rPower1_ok e he
  · have hbl := bitl_small (p := b) (by omega) hb2
    refine rPower_ok b e (by omega) (fit_small (by omega) (by omega)) he (by omega) _ rfl ?_
    generalize bitl b.natAbs = k at *
    have k1 : e * ((k : Int) - 1) ≤ e * 10 := Int.mul_le_mul_of_nonneg_left (by omega) he
    omega
theorem PowerFound_ok (u v : Int) (hu0 : 0 ≤ u) (hu1 : u ≤ 65535) (hv0 : 0 ≤ v) (hv1 : v ≤ 255) : PureFn Tryz.prog 8 [.v (.int .u16 u), .v (.int .u8 v)] (aB true) := by
  refine PureFn.of_body Tryz.func8 rfl Tryz.ntmps8 rfl rfl ?_
  refine AWP.seqS ?_
  repeat' (first |refine Fl.v rfl rfl rfl ?_ |refine Fl.nilF ?_ |refine AWP.region ?_ |fail)
  refine ⟨AWP.seqJ (G := Int × Int) (fun (b, e) => 1 ≤ b ∧ b ≤ 1000 ∧ 0 ≤ e ∧ e ≤ 5) (fun (b, e) => St.of [] [(5, aN b), (6, aN e)] []) ?_ ?_⟩
  · repeat' (first |refine Fl.v rfl rfl rfl ?_ |refine Fl.nilF ?_ |refine AWP.region ?_ |refine Fl.w rfl rfl rfl (by first | exact True.intro | omega) ?_ |refine Fl.cvS rfl rfl rfl rfl rfl rfl ?_ |fail)
    refine JoinOk.of (1 + u % 1000, v % 6) ⟨by omega, by omega, by omega, by omega⟩ ?_
    refine Ent.of [] ?_ ?_ rfl rfl
    repeat' (first | exact True.intro |refine ⟨⟨AV.Le.refl _, rfl⟩, ?_⟩ |refine ⟨⟨AV.Le.any _, rfl⟩, ?_⟩ |refine ⟨⟨⟨_, rfl, BLe.cells (LeL.refl _)⟩, rfl⟩, ?_⟩ |refine ⟨⟨⟨_, rfl, BLe.row rfl⟩, rfl⟩, ?_⟩ |refine ⟨⟨⟨_, rfl, BLe.row ?_⟩, rfl⟩, ?_⟩ |refine ⟨⟨⟨_, rfl, BLe.cells ?_⟩, rfl⟩, ?_⟩ |refine ⟨⟨AV.Le.int ?_, rfl⟩, ?_⟩ |refine ⟨⟨AV.Le.bool ?_, rfl⟩, ?_⟩ |refine ⟨⟨AV.Le.sl ?_, rfl⟩, ?_⟩ |refine ⟨⟨AV.Le.of_eq ?_, rfl⟩, ?_⟩ | fail)
    · omega
    · omega
  intro ⟨b, e⟩ ⟨b0, b1, e0, e1⟩
  obtain ⟨c1, c2⟩ := pWitness_small b e b0 b1 e0 e1
  have c3 := rPowerS_ok b e b0 b1 e0 e1
  obtain ⟨E, hE, hs⟩ := pw_small b0 b1 e0 e1
  have fc := (hs (pw b e).c (by simp [PW.L])).2
  have lc := fc.len
  have len1 : ∀ x : Int, 0 ≤ x → x < 4294967296 → (toW x.natAbs).length ≤ 1000000 := fun x h0 h1 => Nat.le_trans ((toW_len_le (by omega) 1).2 (by rw [BB_succ, BB_zero]; omega)) (by omega)
  obtain ⟨L, hL⟩ : ∃ L, L = (pw b e).L b e := ⟨_, rfl⟩
  have hLl : L.length = 10 := by rw [hL]; rfl
  have g0 : L[(0 : Int).toNat]? = some b := by rw [hL]; rfl
  have g1 : L[(1 : Int).toNat]? = some e := by rw [hL]; rfl
  have g2 : L[(2 : Int).toNat]? = some (pw b e).c := by rw [hL]; rfl
  rw [← hL] at c1 c2
  generalize (pw b e).c = c at *
  refine AWP.seqS ?_
  repeat' (first |refine Fl.v rfl rfl rfl ?_ |refine AWP.region ?_ |fail)
  refine Fl.call rfl (rOf_ok b (by omega) (by omega)) rfl rfl rfl (LeL.refl _) ?_
  repeat' (first |refine Fl.v rfl rfl rfl ?_ |fail)
  refine Fl.call rfl (c1) rfl rfl rfl (LeL.refl _) ?_
  repeat' (first |refine Fl.v rfl rfl rfl ?_ |refine Fl.nilF ?_ |fail)
  refine ⟨AWP.seqS ?_⟩
  repeat' (first |refine AWP.region ?_ |fail)
  refine Fl.call rfl (powerLinks_ok) rfl rfl rfl (LeL.refl _) ?_
  repeat' (first |refine Fl.v rfl rfl rfl ?_ |fail)
  refine Fl.call rfl (c2) rfl rfl rfl (LeL.refl _) ?_
  repeat' (first |refine Fl.v rfl rfl rfl ?_ |refine Fl.nilF ?_ |fail)
  refine ⟨AWP.seqS ?_⟩
  repeat' (first |refine Fl.v rfl rfl rfl ?_ |refine AWP.region ?_ |fail)
  refine Fl.call rfl (rOf_ok b (by omega) (by omega)) rfl rfl rfl (LeL.refl _) ?_
  repeat' (first |refine Fl.v rfl rfl rfl ?_ |fail)
  refine Fl.call rfl (c3) rfl rfl rfl (LeL.refl _) ?_
  repeat' (first |refine Fl.v rfl rfl rfl ?_ |refine Fl.nilF ?_ |refine Fl.b rfl rfl rfl rfl ?_ |fail)
  refine ⟨?_⟩
  repeat' (first |refine Fl.v rfl rfl rfl ?_ |refine AWP.seq ?_ |refine AWP.region ?_ |refine Fl.elK rfl rfl rfl rfl rfl rfl rfl rfl (by assumption) (by omega) ?_ |(refine Fl.splitD rfl rfl ?_ ?_ <;> intro _ <;> try (exfalso; omega)) |fail)
  refine Fl.call rfl (rOf_ok b (by omega) (by omega)) rfl rfl rfl (LeL.refl _) ?_
  skip
  refine Fl.call rfl (rSame_ok b b (len1 b (by omega) (by omega))) rfl rfl rfl (LeL.refl _) ?_
  repeat' (first |refine Fl.v rfl rfl rfl ?_ |refine Fl.elK rfl rfl rfl rfl rfl rfl rfl rfl (by assumption) (by omega) ?_ |(refine Fl.splitD rfl rfl ?_ ?_ <;> intro _ <;> try (exfalso; omega)) |fail)
  refine Fl.call rfl (rOf_ok e (by omega) (by omega)) rfl rfl rfl (LeL.refl _) ?_
  skip
  refine Fl.call rfl (rSame_ok e e (len1 e (by omega) (by omega))) rfl rfl rfl (LeL.refl _) ?_
  repeat' (first |refine Fl.v rfl rfl rfl ?_ |refine Fl.elK rfl rfl rfl rfl rfl rfl rfl rfl (by assumption) (by omega) ?_ |(refine Fl.splitD rfl rfl ?_ ?_ <;> intro _ <;> try (exfalso; omega)) |fail)
  refine Fl.call rfl (rSame_ok c c (by omega)) rfl rfl rfl (LeL.refl _) ?_
  repeat' (first |refine Fl.v rfl rfl rfl ?_ |(refine Fl.splitD rfl rfl ?_ ?_ <;> intro _ <;> try (exfalso; omega)) |fail)
  refine Fl.call rfl (awake11_ok) rfl rfl rfl (LeL.refl _) ?_
  repeat' (first |refine Fl.v rfl rfl rfl ?_ |refine Fl.nil (fun _ => by kernel_rfl) ?_ |refine AWP.ret ?_ |fail)
  exact RetOk.of rfl (AV.Le.refl _)
end Go.Proofs.YtcaecieigoplbaaGreat

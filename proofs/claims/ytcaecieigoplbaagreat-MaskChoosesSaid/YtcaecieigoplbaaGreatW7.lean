/- Part 7 of a proof layer and of the contracts of the functions (XRO XU0 XYA XYB XRV XRP XRU XRQ XU2 XRS XYC). -/
import Derived.Test.YtcaecieigoplbaaGreatW6
set_option linter.unusedVariables false
set_option linter.unusedSimpArgs false
/- mask.Witness. -/
namespace Go.AL
section
variable {P : Program} {tab : Tab} {n : Nat} {s : St}
variable {ops : Array Oper} {draw : Dr} {o : Oper} {l : List Oper} {acc : List Eff} {K : Exit → St → Prop}
/-- a load of a known element of a row -/
theorem Fl.rldK [f : Facts P tab] {t : TypeId} {x : Operand} (hop : o.op = .load t x) {b : Id} {off : Nat} (hx : opd s x = .rptr b off) {α : Type} {sz : Nat} {enc : α → List AV} {xs : List α} {bt : TypeId} (hb : s.bx b = some (.row sz enc xs bt)) {i : TI} (hti : tab t = some i) (hg : gOk ops s o = true) (hd : dOk n o.dst = true)
    {j : Nat} (hj : off = j * sz) {v : α → AV} (hv : ∀ x0, ofCells (aggD i.desc) i.size (enc x0) = some (v x0)) (hvc : ∀ x0, (v x0).closed = true) {x0 : α} (he : xs[j]? = some x0)
    (r : Fl P n ops draw l ((Eff.mk (v x0) [] [] [] [b]).app o.dst s) (Eff.mk (v x0) [] [] [] [b] :: acc) K) : Fl P n ops draw (o :: l) s acc K :=
  Fl.opv hg (OpJ.rload f.tabOk (dOk_lt hd) hop hx hb hti hj he (hv _) (hvc _)) r
/-- the address of a known place of a row -/
theorem Fl.relK [f : Facts P tab] {t : TypeId} {x y : Operand} (hop : o.op = .indexAddr t x y) {b : Id} (hx : opd s x = .row b) {k : IntKind} {m : Int} (hy : opd s y = .v (.int k m)) {e : TypeId} {i : TI} {sz' by' : Nat} {z : List Value} (hts : tab t = some ⟨.slice e, sz', by', z⟩) (hti : tab e = some i) {α : Type} {sz : Nat} {enc : α → List AV} {xs : List α} {bt : TypeId} (hb : s.bx b = some (.row sz enc xs bt)) (hg : gOk ops s o = true) (hd : dOk n o.dst = true)
    (hm : (decide (0 ≤ m) && Nat.blt m.toNat xs.length) = true)
    (r : Fl P n ops draw l ((Eff.mk (.rptr b (m.toNat * i.size)) [] [] [] [b]).app o.dst s) (Eff.mk (.rptr b (m.toNat * i.size)) [] [] [] [b] :: acc) K) : Fl P n ops draw (o :: l) s acc K := by
  simp only [Bool.and_eq_true, decide_eq_true_eq] at hm
  have := ltOf hm.2
  exact Fl.rel hop hx hy hts hti hb hg hd hm.1 (by omega) r
/-- a store at a known place of a row -/
theorem Fl.rstK [f : Facts P tab] {t : TypeId} {x y : Operand} (hop : o.op = .store t x y) {b : Id} {off : Nat} (hx : opd s x = .rptr b off) (hg : gOk ops s o = true) (hdst : o.dst = none) {α : Type} {sz : Nat} {enc : α → List AV} {xs : List α} {bt : TypeId} (hb : s.bx b = some (.row sz enc xs bt)) {i : TI} (hti : tab t = some i)
    {vs : List AV} (hv : cellsL (opd s y) = some vs) (hvc : closedL vs = true) (hsz : Nat.beq vs.length i.size = true) (hsz2 : Nat.beq i.size sz = true) {j : Nat} (hj : off = j * sz) {x1 : α} (hle : LeL vs (enc x1)) (hel : Nat.beq (enc x1).length sz = true) (hjl : Nat.blt j xs.length = true)
    (r : Fl P n ops draw l ((Eff.mk .any [(b, .row sz enc (xs.set j x1) bt)] [] [] [b]).app o.dst s) (Eff.mk .any [(b, .row sz enc (xs.set j x1) bt)] [] [] [b] :: acc) K) (hJ : presOk draw.J (Eff.mk .any [(b, .row sz enc (xs.set j x1) bt)] [] [] [b]) := by repeat' (first | exact True.intro | exact rfl | refine ⟨?_, ?_⟩ | fail)) : Fl P n ops draw (o :: l) s acc K :=
  Fl.rst hop hx hg hdst hb hti hv hvc hsz hsz2 hj hle hel (ltOf hjl) r hJ
end
/-- what Witness returns -/
structure MW where
  u : Int
  p : Int
  q : Int
  z : Int
  y : Int
  r : Int
  s : Int
  t : Int
def mw (a b : Int) : MW :=
  let u := (2 : Int) ^ (b + 1).toNat
  let p := (u + 1) ^ b.toNat
  let q := u ^ a.toNat
  ⟨u, p, q, p / q % u / 2, p / q / u, p % q, q - p % q - 1, u - p / q % u - 1⟩
def MW.X (w : MW) (a b : Int) : List Int := [a, b, w.u, w.p, w.q, w.z, w.y, w.r, w.s, w.t]
theorem mw_pos {a b : Int} (ha : 0 ≤ a) (hb : 0 ≤ b) : 2 ≤ (mw a b).u ∧ 1 ≤ (mw a b).p ∧ 1 ≤ (mw a b).q := by
  have h1 : (2 : Int) ≤ (mw a b).u := by
    show (2 : Int) ≤ 2 ^ (b + 1).toNat
    have : (2 : Int) ^ 1 ≤ 2 ^ (b + 1).toNat := pow_le_r (by omega) (by omega)
    simpa using this
  refine ⟨h1, ?_, ?_⟩
  · show 1 ≤ ((mw a b).u + 1) ^ b.toNat
    have := Int.pow_pos (m := b.toNat) (show (0 : Int) < (mw a b).u + 1 by omega)
    omega
  · show 1 ≤ (mw a b).u ^ a.toNat
    have := Int.pow_pos (m := a.toNat) (show (0 : Int) < (mw a b).u by omega)
    omega
theorem fit_pow2 {x : Int} {m : Nat} (h0 : 0 ≤ x) (h : x ≤ 2 ^ m) (hm : m < 131072) : Fit x := by
  refine Fit.mk ?_
  rw [BB_pow, show 32 * 4096 = 131072 from rfl]
  have h4 : (2 : Int) ^ m < 2 ^ (131072 : Nat) := Int.pow_lt_pow_of_lt (by omega) hm
  omega
theorem mw_le {a b : Int} (ha : 0 ≤ a) (hb : 0 ≤ b) (ha2 : a ≤ 300) (hb2 : b ≤ 300) : (mw a b).u ≤ 2 ^ 301 ∧ (mw a b).p ≤ 2 ^ 90600 ∧ (mw a b).q ≤ 2 ^ 90600 := by
  have hu : (mw a b).u ≤ 2 ^ 301 := pow_le_r (by omega) (by omega)
  obtain ⟨p1, p2, p3⟩ := mw_pos ha hb
  refine ⟨hu, ?_, ?_⟩
  · show ((mw a b).u + 1) ^ b.toNat ≤ _
    have h1 : (mw a b).u + 1 ≤ 2 ^ 302 := by
      have : (2 : Int) ^ 302 = 2 * 2 ^ 301 := by rw [Int.pow_succ]; omega
      omega
    have h2 : ((mw a b).u + 1) ^ b.toNat ≤ (2 ^ 302) ^ b.toNat := pow_le_l (by omega) h1 _
    rw [← Int.pow_mul] at h2
    exact Int.le_trans h2 (pow_le_r (by omega) (by omega))
  · show (mw a b).u ^ a.toNat ≤ _
    have h2 : (mw a b).u ^ a.toNat ≤ (2 ^ 301) ^ a.toNat := pow_le_l (by omega) hu _
    rw [← Int.pow_mul] at h2
    exact Int.le_trans h2 (pow_le_r (by omega) (by omega))
end Go.AL
namespace Go.Proofs.YtcaecieigoplbaaGreat
open Go.AL
theorem chainOk {o : Option Int} {f : FuncId} {args : List AV} {x : Int} (hf : Fit x) (h : IoFn Tryz.prog f args [(900, chB o 0)] (.ret (aX (cV 0 x))) [(900, chB o (cE 0 x))]) : IoFn Tryz.prog f args [(900, chB o 0)] (.ret (aX x)) [(900, chB o 0)] := by
  rw [cV_ok hf, cE_ok hf] at h
  exact h

set_option maxHeartbeats 2000000 in
theorem mWitness_ok (a b : Int) (ha : 0 ≤ a) (hb : 0 ≤ b) (ha2 : a ≤ 300) (hb2 : b ≤ 300) (hun : undI a b) : PureFn Tryz.prog 18 [aN a, aN b] (.tup [.sl 2 eX ((mw a b).X a b), aN 0]) := by
  refine PureFn.of_body Tryz.func18 rfl Tryz.ntmps18 rfl rfl ?_
  obtain ⟨p1, p2, p3⟩ := mw_pos ha hb
  obtain ⟨l1, l2, l3⟩ := mw_le ha hb ha2 hb2
  have hu : (2 : Int) ^ (b + 1).toNat = (mw a b).u := rfl
  have hp : ((mw a b).u + 1) ^ b.toNat = (mw a b).p := rfl
  have hq : (mw a b).u ^ a.toNat = (mw a b).q := rfl
  have hr : (mw a b).p % (mw a b).q = (mw a b).r := rfl
  have hy : (mw a b).p / (mw a b).q / (mw a b).u = (mw a b).y := rfl
  have hz : (mw a b).p / (mw a b).q % (mw a b).u / 2 = (mw a b).z := rfl
  have hs : (mw a b).q - (mw a b).r - 1 = (mw a b).s := rfl
  have ht : (mw a b).u - (mw a b).p / (mw a b).q % (mw a b).u - 1 = (mw a b).t := rfl
  have hX : (mw a b).X a b = [a, b, (mw a b).u, (mw a b).p, (mw a b).q, (mw a b).z, (mw a b).y, (mw a b).r, (mw a b).s, (mw a b).t] := rfl
  rw [hX]
  generalize mw a b = w at *
  obtain ⟨u, p, q, z, y, r, s, t⟩ := w
  simp only at p1 p2 p3 l1 l2 l3 hu hp hq hr hy hz hs ht ⊢
  have fa : Fit a := fit_small (by omega) (by omega)
  have fb : Fit b := fit_small (by omega) (by omega)
  have fu : Fit u := fit_pow2 (by omega) l1 (by omega)
  have fu1 : Fit (u + 1) := fit_pow2 (m := 302) (by omega) (by
    have : (2 : Int) ^ 302 = 2 * 2 ^ 301 := by rw [Int.pow_succ]; omega
    omega) (by omega)
  have fp : Fit p := fit_pow2 (by omega) l2 (by omega)
  have fq : Fit q := fit_pow2 (by omega) l3 (by omega)
  have f2 : Fit 2 := fit_small (by omega) (by omega)
  obtain ⟨fk, fr⟩ := div_fit fp fq (by omega)
  obtain ⟨fy, fo⟩ := div_fit fk fu (by omega)
  obtain ⟨fz, _⟩ := div_fit fo f2 (by omega)
  have r0 := Int.emod_nonneg p (show q ≠ 0 by omega)
  have r1 := Int.emod_lt_of_pos p (show 0 < q by omega)
  have k0 : 0 ≤ p / q := Int.ediv_nonneg (by omega) (by omega)
  have o0 := Int.emod_nonneg (p / q) (show u ≠ 0 by omega)
  have o1 := Int.emod_lt_of_pos (p / q) (show 0 < u by omega)
  obtain ⟨k, hk⟩ : ∃ k, k = p / q := ⟨_, rfl⟩
  obtain ⟨o, ho⟩ : ∃ o, o = k % u := ⟨_, rfl⟩
  rw [← hk] at fk fy fo fz hy hz ht k0 o0 o1
  rw [← ho] at fo fz hz ht o0 o1
  rw [hr] at fr r0 r1
  rw [hy] at fy
  rw [hz] at fz
  have fs1 : Fit (q - r) := fq.le (by omega)
  have fs : Fit s := fq.le (by omega)
  have ft1 : Fit (u - o) := fu.le (by omega)
  have ft : Fit t := fu.le (by omega)
  have e1 := chainOk (o := none) (by rw [hu]; exact fu) (chPower_ok none 0 2 (b + 1) f2 (by omega) (by omega))
  rw [hu] at e1
  have e2 := chainOk (o := none) fu1 (chAdd_ok none 0 u 1 fu fit_one)
  have e3 := chainOk (o := none) (by rw [hp]; exact fp) (chPower_ok none 0 (u + 1) b fu1 hb (by omega))
  rw [hp] at e3
  have e4 := chainOk (o := none) (by rw [hq]; exact fq) (chPower_ok none 0 u a fu ha (by omega))
  rw [hq] at e4
  have e5 := chainOk (o := none) (by rw [← hk]; exact fk) (chQuo_ok none 0 p q fp fq (by omega))
  rw [← hk] at e5
  have e6 := chainOk (o := none) (by rw [hr]; exact fr) (chRest_ok none 0 p q fp fq (by omega))
  rw [hr] at e6
  have e7 := chainOk (o := none) (by rw [hy]; exact fy) (chQuo_ok none 0 k u fk fu (by omega))
  rw [hy] at e7
  have e8 := chainOk (o := none) (by rw [← ho]; exact fo) (chRest_ok none 0 k u fk fu (by omega))
  rw [← ho] at e8
  have e9 := chainOk (o := none) (by rw [hz]; exact fz) (chQuo_ok none 0 o 2 fo f2 (by omega))
  rw [hz] at e9
  have e10 := chainOk (o := none) fs1 (chSub_ok none 0 q r fq fr)
  have e11 := chainOk (o := none) (by rw [hs]; exact fs) (chSub_ok none 0 (q - r) 1 fs1 fit_one)
  rw [hs] at e11
  have e12 := chainOk (o := none) ft1 (chSub_ok none 0 u o fu fo)
  have e13 := chainOk (o := none) (by rw [ht]; exact ft) (chSub_ok none 0 (u - o) 1 ft1 fit_one)
  rw [ht] at e13
  have hand : bitN .andNot a b = 0 := andNot_zero.2 hun
  clear l1 l2 l3 hu hp hq hr hy hz hs ht hk ho
  refine AWP.seqS ?_
  repeat' (first |refine Fl.v rfl rfl rfl ?_ |refine Fl.nilF ?_ |refine AWP.region ?_ |fail)
  refine ⟨AWP.seqS ?_⟩
  repeat' (first |refine Fl.v rfl rfl rfl ?_ |refine Fl.nilF ?_ |refine AWP.seq ?_ |refine AWP.region ?_ |(refine AWP.condD rfl ?_ ?_ <;> intro _ <;> try (exfalso; omega)) |refine AWP.skip ?_ |(refine Fl.splitD rfl rfl ?_ ?_ <;> intro _ <;> try (exfalso; omega)) |fail)
  refine ⟨AWP.seqS ?_⟩
  repeat' (first |refine Fl.v rfl rfl rfl ?_ |refine Fl.nilF ?_ |refine AWP.seq ?_ |refine AWP.region ?_ |refine Fl.w rfl rfl rfl (by first | exact True.intro | omega) ?_ |(refine AWP.condN rfl ?_ ?_ <;> intro _ <;> try (exfalso; omega)) |refine AWP.skip ?_ |fail)
  refine ⟨AWP.seqS ?_⟩
  repeat' (first |refine Fl.v rfl rfl rfl ?_ |refine Fl.nilF ?_ |refine AWP.region ?_ |refine Fl.b rfl rfl rfl rfl ?_ |fail)
  refine ⟨AWP.seqS ?_⟩
  repeat' (first |refine AWP.region ?_ |fail)
  refine Fl.make rfl rfl rfl rfl rfl rfl rfl rfl rfl rfl eX 0 (by exact leX_zero (σ := []) rfl) (by rfl) (by omega) (by dsimp only; omega) (by omega) ?_
  repeat' (first |refine Fl.v rfl rfl rfl ?_ |refine Fl.nilF ?_ |fail)
  refine ⟨AWP.seqS ?_⟩
  repeat' (first |refine AWP.region ?_ |fail)
  refine Fl.call rfl (Of_ok 1 (by omega) (by omega)) rfl rfl rfl (LeL.refl _) ?_
  repeat' (first |refine Fl.nilF ?_ |refine Fl.b rfl rfl rfl rfl ?_ |fail)
  refine ⟨AWP.seqS ?_⟩
  repeat' (first |refine Fl.v rfl rfl rfl ?_ |refine AWP.region ?_ |fail)
  refine Fl.call rfl (Of_ok a (by omega) (by omega)) rfl rfl rfl (LeL.refl _) ?_
  repeat' (first |refine Fl.v rfl rfl rfl ?_ |fail)
  refine Fl.call rfl (Of_ok b (by omega) (by omega)) rfl rfl rfl (LeL.refl _) ?_
  repeat' (first |refine Fl.relK rfl rfl rfl rfl rfl rfl rfl rfl rfl ?_ |refine Fl.rstK rfl rfl rfl rfl rfl rfl rfl rfl rfl rfl rfl (LeL.refl _) rfl rfl ?_ |refine Fl.nilF ?_ |fail)
  refine ⟨AWP.seqS ?_⟩
  repeat' (first |refine Fl.v rfl rfl rfl ?_ |refine AWP.region ?_ |fail)
  refine Fl.call rfl (Of_ok 2 (by omega) (by omega)) rfl rfl rfl (LeL.refl _) ?_
  repeat' (first |refine Fl.v rfl rfl rfl ?_ |refine Fl.w rfl rfl rfl (by first | exact True.intro | omega) ?_ |fail)
  refine Fl.io rfl [(900, 30)] (e1) rfl rfl (LeL.refl _) rfl ⟨⟨⟨_, rfl, BLe.cells (LeL.refl _)⟩, rfl⟩, trivial⟩ rfl rfl rfl rfl rfl ?_
  repeat' (first |refine Fl.relK rfl rfl rfl rfl rfl rfl rfl rfl rfl ?_ |refine Fl.rstK rfl rfl rfl rfl rfl rfl rfl rfl rfl rfl rfl (LeL.refl _) rfl rfl ?_ |refine Fl.nilF ?_ |fail)
  refine ⟨AWP.seqS ?_⟩
  repeat' (first |refine Fl.rldK rfl rfl rfl rfl rfl rfl rfl (fun _ => rfl) (fun _ => rfl) rfl ?_ |refine Fl.relK rfl rfl rfl rfl rfl rfl rfl rfl rfl ?_ |refine Fl.v rfl rfl rfl ?_ |refine AWP.region ?_ |fail)
  refine Fl.io rfl [(900, 30)] (e2) rfl rfl (LeL.refl _) rfl ⟨⟨⟨_, rfl, BLe.cells (LeL.refl _)⟩, rfl⟩, trivial⟩ rfl rfl rfl rfl rfl ?_
  repeat' (first |refine Fl.v rfl rfl rfl ?_ |fail)
  refine Fl.io rfl [(900, 30)] (e3) rfl rfl (LeL.refl _) rfl ⟨⟨⟨_, rfl, BLe.cells (LeL.refl _)⟩, rfl⟩, trivial⟩ rfl rfl rfl rfl rfl ?_
  repeat' (first |refine Fl.relK rfl rfl rfl rfl rfl rfl rfl rfl rfl ?_ |refine Fl.rstK rfl rfl rfl rfl rfl rfl rfl rfl rfl rfl rfl (LeL.refl _) rfl rfl ?_ |refine Fl.nil (fun _ => by kernel_rfl) ?_ |fail)
  refine ⟨AWP.seqS ?_⟩
  repeat' (first |refine Fl.rldK rfl rfl rfl rfl rfl rfl rfl (fun _ => rfl) (fun _ => rfl) rfl ?_ |refine Fl.relK rfl rfl rfl rfl rfl rfl rfl rfl rfl ?_ |refine Fl.v rfl rfl rfl ?_ |refine AWP.region ?_ |fail)
  refine Fl.io rfl [(900, 30)] (e4) rfl rfl (LeL.refl _) rfl ⟨⟨⟨_, rfl, BLe.cells (LeL.refl _)⟩, rfl⟩, trivial⟩ rfl rfl rfl rfl rfl ?_
  repeat' (first |refine Fl.relK rfl rfl rfl rfl rfl rfl rfl rfl rfl ?_ |refine Fl.rstK rfl rfl rfl rfl rfl rfl rfl rfl rfl rfl rfl (LeL.refl _) rfl rfl ?_ |refine Fl.nilF ?_ |fail)
  refine ⟨AWP.seqS ?_⟩
  repeat' (first |refine Fl.rldK rfl rfl rfl rfl rfl rfl rfl (fun _ => rfl) (fun _ => rfl) rfl ?_ |refine Fl.relK rfl rfl rfl rfl rfl rfl rfl rfl rfl ?_ |refine Fl.v rfl rfl rfl ?_ |refine AWP.region ?_ |fail)
  refine Fl.io rfl [(900, 30)] (e5) rfl rfl (LeL.refl _) rfl ⟨⟨⟨_, rfl, BLe.cells (LeL.refl _)⟩, rfl⟩, trivial⟩ rfl rfl rfl rfl rfl ?_
  repeat' (first |refine Fl.nil (fun _ => by kernel_rfl) ?_ |refine Fl.b rfl rfl rfl rfl ?_ |fail)
  refine ⟨AWP.seqS ?_⟩
  repeat' (first |refine Fl.rldK rfl rfl rfl rfl rfl rfl rfl (fun _ => rfl) (fun _ => rfl) rfl ?_ |refine Fl.relK rfl rfl rfl rfl rfl rfl rfl rfl rfl ?_ |refine Fl.v rfl rfl rfl ?_ |refine AWP.region ?_ |fail)
  refine Fl.io rfl [(900, 30)] (e6) rfl rfl (LeL.refl _) rfl ⟨⟨⟨_, rfl, BLe.cells (LeL.refl _)⟩, rfl⟩, trivial⟩ rfl rfl rfl rfl rfl ?_
  repeat' (first |refine Fl.relK rfl rfl rfl rfl rfl rfl rfl rfl rfl ?_ |refine Fl.rstK rfl rfl rfl rfl rfl rfl rfl rfl rfl rfl rfl (LeL.refl _) rfl rfl ?_ |refine Fl.nil (fun _ => by kernel_rfl) ?_ |fail)
  refine ⟨AWP.seqS ?_⟩
  repeat' (first |refine Fl.rldK rfl rfl rfl rfl rfl rfl rfl (fun _ => rfl) (fun _ => rfl) rfl ?_ |refine Fl.relK rfl rfl rfl rfl rfl rfl rfl rfl rfl ?_ |refine Fl.v rfl rfl rfl ?_ |refine AWP.region ?_ |fail)
  refine Fl.io rfl [(900, 30)] (e7) rfl rfl (LeL.refl _) rfl ⟨⟨⟨_, rfl, BLe.cells (LeL.refl _)⟩, rfl⟩, trivial⟩ rfl rfl rfl rfl rfl ?_
  repeat' (first |refine Fl.relK rfl rfl rfl rfl rfl rfl rfl rfl rfl ?_ |refine Fl.rstK rfl rfl rfl rfl rfl rfl rfl rfl rfl rfl rfl (LeL.refl _) rfl rfl ?_ |refine Fl.nil (fun _ => by kernel_rfl) ?_ |fail)
  refine ⟨AWP.seqS ?_⟩
  repeat' (first |refine Fl.rldK rfl rfl rfl rfl rfl rfl rfl (fun _ => rfl) (fun _ => rfl) rfl ?_ |refine Fl.relK rfl rfl rfl rfl rfl rfl rfl rfl rfl ?_ |refine Fl.v rfl rfl rfl ?_ |refine AWP.region ?_ |fail)
  refine Fl.io rfl [(900, 30)] (e8) rfl rfl (LeL.refl _) rfl ⟨⟨⟨_, rfl, BLe.cells (LeL.refl _)⟩, rfl⟩, trivial⟩ rfl rfl rfl rfl rfl ?_
  repeat' (first |refine Fl.nil (fun _ => by kernel_rfl) ?_ |refine Fl.b rfl rfl rfl rfl ?_ |fail)
  refine ⟨AWP.seqS ?_⟩
  repeat' (first |refine Fl.v rfl rfl rfl ?_ |refine AWP.region ?_ |fail)
  refine Fl.call rfl (Of_ok 2 (by omega) (by omega)) rfl rfl rfl (LeL.refl _) ?_
  skip
  refine Fl.io rfl [(900, 30)] (e9) rfl rfl (LeL.refl _) rfl ⟨⟨⟨_, rfl, BLe.cells (LeL.refl _)⟩, rfl⟩, trivial⟩ rfl rfl rfl rfl rfl ?_
  repeat' (first |refine Fl.relK rfl rfl rfl rfl rfl rfl rfl rfl rfl ?_ |refine Fl.rstK rfl rfl rfl rfl rfl rfl rfl rfl rfl rfl rfl (LeL.refl _) rfl rfl ?_ |refine Fl.nil (fun _ => by kernel_rfl) ?_ |fail)
  refine ⟨AWP.seqS ?_⟩
  repeat' (first |refine Fl.rldK rfl rfl rfl rfl rfl rfl rfl (fun _ => rfl) (fun _ => rfl) rfl ?_ |refine Fl.relK rfl rfl rfl rfl rfl rfl rfl rfl rfl ?_ |refine Fl.v rfl rfl rfl ?_ |refine AWP.region ?_ |fail)
  refine Fl.io rfl [(900, 30)] (e10) rfl rfl (LeL.refl _) rfl ⟨⟨⟨_, rfl, BLe.cells (LeL.refl _)⟩, rfl⟩, trivial⟩ rfl rfl rfl rfl rfl ?_
  repeat' (first |refine Fl.v rfl rfl rfl ?_ |fail)
  refine Fl.io rfl [(900, 30)] (e11) rfl rfl (LeL.refl _) rfl ⟨⟨⟨_, rfl, BLe.cells (LeL.refl _)⟩, rfl⟩, trivial⟩ rfl rfl rfl rfl rfl ?_
  repeat' (first |refine Fl.relK rfl rfl rfl rfl rfl rfl rfl rfl rfl ?_ |refine Fl.rstK rfl rfl rfl rfl rfl rfl rfl rfl rfl rfl rfl (LeL.refl _) rfl rfl ?_ |refine Fl.nil (fun _ => by kernel_rfl) ?_ |fail)
  refine ⟨AWP.seqS ?_⟩
  repeat' (first |refine Fl.rldK rfl rfl rfl rfl rfl rfl rfl (fun _ => rfl) (fun _ => rfl) rfl ?_ |refine Fl.relK rfl rfl rfl rfl rfl rfl rfl rfl rfl ?_ |refine Fl.v rfl rfl rfl ?_ |refine AWP.region ?_ |fail)
  refine Fl.io rfl [(900, 30)] (e12) rfl rfl (LeL.refl _) rfl ⟨⟨⟨_, rfl, BLe.cells (LeL.refl _)⟩, rfl⟩, trivial⟩ rfl rfl rfl rfl rfl ?_
  repeat' (first |refine Fl.v rfl rfl rfl ?_ |fail)
  refine Fl.io rfl [(900, 30)] (e13) rfl rfl (LeL.refl _) rfl ⟨⟨⟨_, rfl, BLe.cells (LeL.refl _)⟩, rfl⟩, trivial⟩ rfl rfl rfl rfl rfl ?_
  repeat' (first |refine Fl.relK rfl rfl rfl rfl rfl rfl rfl rfl rfl ?_ |refine Fl.rstK rfl rfl rfl rfl rfl rfl rfl rfl rfl rfl rfl (LeL.refl _) rfl rfl ?_ |refine Fl.nil (fun _ => by kernel_rfl) ?_ |fail)
  refine ⟨AWP.seqS ?_⟩
  repeat' (first |refine Fl.v rfl rfl rfl ?_ |refine Fl.nilF ?_ |refine AWP.seq ?_ |refine AWP.region ?_ |refine AWP.condF rfl ?_ |refine AWP.skip ?_ |fail)
  refine ⟨?_⟩
  repeat' (first |refine Fl.v rfl rfl rfl ?_ |refine Fl.nilF ?_ |refine AWP.seq ?_ |refine AWP.region ?_ |refine AWP.ret ?_ |fail)
  refine RetOk.ent (Ent.freeze 31 rfl) ?_
  exact RetOk.of rfl (AV.Le.refl _)
end Go.Proofs.YtcaecieigoplbaaGreat
/- Binomial coefficients: plain. -/
namespace Go.AL
def ch : Nat → Nat → Nat
  | _, 0 => 1
  | 0, _ + 1 => 0
  | n + 1, k + 1 => ch n k + ch n (k + 1)
theorem ch_zero (n : Nat) : ch n 0 = 1 := by cases n <;> rfl
theorem ch_succ (n k : Nat) : ch (n + 1) (k + 1) = ch n k + ch n (k + 1) := rfl
theorem ch_zero_succ (k : Nat) : ch 0 (k + 1) = 0 := rfl
theorem ch_gt : ∀ {n k : Nat}, n < k → ch n k = 0
  | 0, k + 1, _ => rfl
  | n + 1, k + 1, h => by rw [ch_succ, ch_gt (by omega), ch_gt (by omega)]
theorem ch_self : ∀ n : Nat, ch n n = 1
  | 0 => rfl
  | n + 1 => by rw [ch_succ, ch_self n, ch_gt (by omega)]
theorem ch_le : ∀ n k : Nat, ch n k ≤ 2 ^ n
  | n, 0 => by rw [ch_zero]; exact Nat.one_le_two_pow
  | 0, k + 1 => by simp [ch]
  | n + 1, k + 1 => by
    have h1 := ch_le n k
    have h2 := ch_le n (k + 1)
    rw [ch_succ, Nat.pow_succ]; omega
/-- parity, digit by digit -/
theorem ch_par : ∀ n k : Nat, ch (2 * n) (2 * k) % 2 = ch n k % 2 ∧ ch (2 * n) (2 * k + 1) % 2 = 0 ∧ ch (2 * n + 1) (2 * k) % 2 = ch n k % 2 ∧ ch (2 * n + 1) (2 * k + 1) % 2 = ch n k % 2
  | 0, 0 => by simp [ch]
  | 0, k + 1 => by
    rw [show 2 * 0 = 0 from rfl, show 2 * (k + 1) = 2 * k + 1 + 1 by omega]
    simp [ch]
  | n + 1, k => by
    have key : ∀ k : Nat, ch (2 * (n + 1)) (2 * k) % 2 = ch (n + 1) k % 2 ∧ ch (2 * (n + 1)) (2 * k + 1) % 2 = 0 := by
      intro k
      rw [show 2 * (n + 1) = 2 * n + 1 + 1 by omega]
      obtain ⟨h1, h2, h3, h4⟩ := ch_par n k
      constructor
      · cases k with
        | zero => simp [ch_zero]
        | succ k =>
          obtain ⟨g1, g2, g3, g4⟩ := ch_par n k
          rw [show 2 * (k + 1) = 2 * k + 1 + 1 by omega] at h3 ⊢
          rw [ch_succ (2 * n + 1), ch_succ n k]
          omega
      · rw [ch_succ (2 * n + 1) (2 * k)]
        omega
    obtain ⟨h1, h2⟩ := key k
    refine ⟨h1, h2, ?_, ?_⟩
    · cases k with
      | zero => simp [ch_zero]
      | succ k =>
        have g := (key k).2
        rw [show 2 * (k + 1) = 2 * k + 1 + 1 by omega] at h1 ⊢
        rw [ch_succ (2 * (n + 1)) (2 * k + 1)]
        omega
    · rw [ch_succ (2 * (n + 1)) (2 * k)]
      omega
theorem ch_odd : ∀ (n k : Nat), ch n k % 2 = 1 ↔ ∀ i, k.testBit i = true → n.testBit i = true := by
  intro n
  induction n using Nat.strongRecOn with
  | _ n ih =>
    intro k
    by_cases hn : n = 0
    · subst hn
      cases k with
      | zero => simp [ch]
      | succ k =>
        simp only [ch_zero_succ, Nat.zero_testBit]
        constructor
        · intro h; omega
        · intro h
          obtain ⟨i, hi⟩ := Nat.exists_testBit_of_ne_zero (show k + 1 ≠ 0 by omega)
          have := h i hi; cases this
    · have h := ih (n / 2) (by omega) (k / 2)
      obtain ⟨p1, p2, p3, p4⟩ := ch_par (n / 2) (k / 2)
      have split : (∀ i, k.testBit i = true → n.testBit i = true) ↔ (k % 2 = 1 → n % 2 = 1) ∧ ∀ i, (k / 2).testBit i = true → (n / 2).testBit i = true := by
        constructor
        · intro h
          refine ⟨fun hk => ?_, fun i hi => ?_⟩
          · have := h 0
            simp only [Nat.testBit_zero, decide_eq_true_eq] at this
            exact this hk
          · have := h (i + 1)
            simp only [Nat.testBit_succ] at this
            exact this hi
        · rintro ⟨h0, h1⟩ i hi
          cases i with
          | zero =>
            simp only [Nat.testBit_zero, decide_eq_true_eq] at hi ⊢
            exact h0 hi
          | succ i =>
            simp only [Nat.testBit_succ] at hi ⊢
            exact h1 i hi
      rw [split, ← h]
      have en : n = 2 * (n / 2) + n % 2 := by omega
      have ek : k = 2 * (k / 2) + k % 2 := by omega
      rcases Nat.mod_two_eq_zero_or_one n with hn2 | hn2 <;> rcases Nat.mod_two_eq_zero_or_one k with hk2 | hk2
      · rw [hn2] at en; rw [hk2] at ek
        rw [show ch n k = ch (2 * (n / 2)) (2 * (k / 2)) by rw [← show n = 2 * (n / 2) from en, ← show k = 2 * (k / 2) from ek]]
        omega
      · rw [hn2] at en; rw [hk2] at ek
        rw [show ch n k = ch (2 * (n / 2)) (2 * (k / 2) + 1) by rw [← show n = 2 * (n / 2) from en, ← ek]]
        omega
      · rw [hn2] at en; rw [hk2] at ek
        rw [show ch n k = ch (2 * (n / 2) + 1) (2 * (k / 2)) by rw [← en, ← show k = 2 * (k / 2) from ek]]
        omega
      · rw [hn2] at en; rw [hk2] at ek
        rw [show ch n k = ch (2 * (n / 2) + 1) (2 * (k / 2) + 1) by rw [← en, ← ek]]
        omega
/-- the powers of u + 1, cut at a digit -/
def binS (u n : Nat) : Nat → Nat
  | 0 => 0
  | k + 1 => binS u n k + ch n k * u ^ k
theorem binS_succ (u n : Nat) : ∀ k : Nat, binS u (n + 1) (k + 1) = binS u n (k + 1) + u * binS u n k
  | 0 => by simp [binS, ch_zero]
  | k + 1 => by
    have ih := binS_succ u n k
    rw [binS, ih, ch_succ]
    conv => rhs; rw [binS]
    rw [show binS u n (k + 1) = binS u n k + ch n k * u ^ k from rfl, Nat.pow_succ]
    grind
theorem bin_split (u : Nat) : ∀ n k : Nat, ∃ h, (u + 1) ^ n = binS u n k + u ^ k * h
  | n, 0 => ⟨(u + 1) ^ n, by simp [binS]⟩
  | 0, k + 1 => ⟨0, by
    have : ∀ k : Nat, binS u 0 (k + 1) = 1 := by
      intro k
      induction k with
      | zero => simp [binS, ch]
      | succ k ih => rw [binS, ih]; simp [ch]
    rw [this]; simp⟩
  | n + 1, k + 1 => by
    obtain ⟨h1, e1⟩ := bin_split u n k
    obtain ⟨h2, e2⟩ := bin_split u n (k + 1)
    refine ⟨h1 + h2, ?_⟩
    rw [binS_succ, Nat.pow_succ (u + 1) n, Nat.mul_add, Nat.mul_one]
    conv => lhs; rw [e2]
    have e3 : (u + 1) ^ n = binS u n (k + 1) + u ^ (k + 1) * h2 := e2
    have e4 : (binS u n (k + 1) + u ^ (k + 1) * h2) * u = (binS u n k + u ^ k * h1) * u := by rw [← e2, e1]
    rw [e4, Nat.pow_succ]
    grind
theorem binS_lt {u n : Nat} (hu : 2 ^ n < u) : ∀ k : Nat, binS u n k < u ^ k
  | 0 => by simp [binS]
  | k + 1 => by
    have ih := binS_lt hu k
    have hc := ch_le n k
    have h1 : (ch n k + 1) * u ^ k ≤ u * u ^ k := Nat.mul_le_mul_right _ (by omega)
    rw [binS, Nat.pow_succ, Nat.mul_comm (u ^ k) u]
    rw [Nat.add_mul] at h1
    omega
/-- a digit of a power of u + 1 -/
theorem bin_digit {u n k p o y r : Nat} (hu : 2 ^ n < u) (hp : p = (u + 1) ^ n) (he : p = (o + u * y) * u ^ k + r) (hr : r < u ^ k) (ho : o < u) : o = ch n k := by
  obtain ⟨h, e1⟩ := bin_split u n k
  obtain ⟨h', e2⟩ := bin_split u n (k + 1)
  have l1 := binS_lt hu k
  have hc := ch_le n k
  have hpos : 0 < u ^ k := Nat.pow_pos (by omega)
  have d1 : p / u ^ k = o + u * y := by rw [he, Nat.add_comm, Nat.add_mul_div_right _ _ hpos, Nat.div_eq_of_lt hr, Nat.zero_add]
  have d2 : p / u ^ k = ch n k + u * h' := by
    rw [hp, e2, binS, Nat.pow_succ]
    have e3 : binS u n k + ch n k * u ^ k + u ^ k * u * h' = binS u n k + (ch n k + u * h') * u ^ k := by grind
    rw [e3, Nat.add_mul_div_right _ _ hpos, Nat.div_eq_of_lt l1, Nat.zero_add]
  have m1 : (o + u * y) % u = o := by rw [Nat.add_mul_mod_self_left, Nat.mod_eq_of_lt ho]
  have m2 : (ch n k + u * h') % u = ch n k := by rw [Nat.add_mul_mod_self_left, Nat.mod_eq_of_lt (by omega)]
  rw [← m1, ← d1, d2, m2]
end Go.AL
/- mask.rows: the rows of the triangle of binomials. -/
namespace Go.AL
def rowP (n m : Nat) : List Int := (List.range m).map fun j => (ch n j : Int)
theorem rowP_len (n m : Nat) : (rowP n m).length = m := by simp [rowP]
theorem rowP_get {n m j : Nat} (h : j < m) : (rowP n m)[j]? = some (ch n j : Int) := by simp [rowP, h]
theorem rowP_succ (n m : Nat) : rowP n (m + 1) = rowP n m ++ [(ch n m : Int)] := by simp [rowP, List.range_succ]
theorem ch_fit {n k : Nat} (h : n ≤ 1000) : Fit (ch n k : Int) := by
  have h1 : ((ch n k : Nat) : Int) ≤ ((2 ^ n : Nat) : Int) := Int.ofNat_le.2 (ch_le n k)
  rw [Int.natCast_pow] at h1
  exact fit_pow2 (by omega) h1 (by omega)
end Go.AL
namespace Go.Proofs.YtcaecieigoplbaaGreat
open Go.AL
def rowE (i : Nat) : Option (List AV) := some [aN i, .sl 2 eX (rowP i (i + 1))]
theorem rows_ok (N : Nat) (hN2 : N ≤ 302) : IterFn Tryz.prog 107 [] rowE N := by
  refine IterFn.of_body Tryz.func107 rfl Tryz.ntmps107 rfl rfl rfl fun l => ?_
  refine IWP.seqL ?_
  repeat' (first |refine AWP.region ?_ |fail)
  refine Fl.call rfl (Of_ok 1 (by omega) (by omega)) rfl rfl rfl (LeL.refl _) ?_
  skip
  refine Fl.lit rfl rfl rfl rfl rfl eX [1] rfl rfl rfl rfl (by intro _ _; rfl) rfl ?_
  repeat' (first |refine Fl.v rfl rfl rfl ?_ |refine Fl.nilF ?_ |fail)
  refine ⟨IWP.seqL ?_⟩
  repeat' (first |refine Fl.v rfl rfl rfl ?_ |refine Fl.nilF ?_ |refine AWP.region ?_ |fail)
  refine ⟨?_⟩
  refine IWP.block ?_
  refine IWP.loop (G := Nat) (fun _ => True) (fun i => St.of [] [(0, .v (.func (.yield l) #[] #[])), (2, .sl 2 eX (rowP i (i + 1))), (3, aN i)] []) (fun i => some i) (fun i => N - i) 0 rfl trivial ?_ ?_
  · refine Ent.of [] ?_ ?_ rfl rfl
    repeat' (first | exact True.intro |refine ⟨⟨AV.Le.refl _, rfl⟩, ?_⟩ |refine ⟨⟨AV.Le.any _, rfl⟩, ?_⟩ |refine ⟨⟨⟨_, rfl, BLe.cells (LeL.refl _)⟩, rfl⟩, ?_⟩ |refine ⟨⟨⟨_, rfl, BLe.row rfl⟩, rfl⟩, ?_⟩ |refine ⟨⟨⟨_, rfl, BLe.row ?_⟩, rfl⟩, ?_⟩ |refine ⟨⟨⟨_, rfl, BLe.cells ?_⟩, rfl⟩, ?_⟩ |refine ⟨⟨AV.Le.int ?_, rfl⟩, ?_⟩ |refine ⟨⟨AV.Le.bool ?_, rfl⟩, ?_⟩ |refine ⟨⟨AV.Le.sl ?_, rfl⟩, ?_⟩ |refine ⟨⟨AV.Le.of_eq ?_, rfl⟩, ?_⟩ | fail)
  intro i _ hN
  have hi : i < N := hN i rfl
  refine IWP.seq ?_
  refine IWP.seq ?_
  refine IWP.yieldT 3 rfl ?_
  show Fl _ _ _ _ [_, _, _] _ _ _
  repeat' (first | refine Fl.v rfl rfl rfl ?_ | refine Fl.b rfl rfl rfl rfl ?_ | fail)
  refine Fl.nil (fun h => (by cases h)) ⟨rfl, ⟨.inl rfl, ⟨_, _, _, _, rfl, rfl, rfl, LeL.refl _, rfl⟩, (fun d hd => by cases hd; decide), ?_, ?_⟩⟩
  · refine Fl.nil (fun h => (by cases h)) ⟨rfl, fun hi1 => ?_⟩
    refine IWP.condB (t := true) rfl (fun _ => IWP.skip ?_) (fun h => (by cases h))
    refine IWP.seqL ?_
    repeat' (first |refine AWP.seq ?_ |refine AWP.region ?_ |refine AWP.block ?_ |fail)
    refine Fl.call rfl (Of_ok 1 (by omega) (by omega)) rfl rfl rfl (LeL.refl _) ?_
    skip
    refine Fl.litrow rfl rfl rfl rfl rfl rfl rfl eX [1] rfl rfl rfl rfl (by intro _ _; rfl) (LeL.refl _) ?_
    repeat' (first |refine Fl.v rfl rfl rfl ?_ |refine Fl.nilF ?_ |refine AWP.seq ?_ |refine AWP.region ?_ |refine AWP.block ?_ |fail)
    refine AWP.loop (G := Nat) (fun j => 1 ≤ j ∧ j ≤ i + 1) (fun j => St.of [] [(0, .v (.func (.yield l) #[] #[])), (2, .sl 2 eX (rowP i (i + 1))), (3, aN i), (4, .row 17), (5, aN j)] [(17, .row 2 eX (rowP (i + 1) j) 35)]) (fun j => i + 1 - j) 1 ⟨by omega, by omega⟩ ?_ ?_
    · refine Ent.of [] ?_ ?_ rfl rfl
      repeat' (first | exact True.intro |refine ⟨⟨AV.Le.refl _, rfl⟩, ?_⟩ |refine ⟨⟨AV.Le.any _, rfl⟩, ?_⟩ |refine ⟨⟨⟨_, rfl, BLe.cells (LeL.refl _)⟩, rfl⟩, ?_⟩ |refine ⟨⟨⟨_, rfl, BLe.row rfl⟩, rfl⟩, ?_⟩ |refine ⟨⟨⟨_, rfl, BLe.row ?_⟩, rfl⟩, ?_⟩ |refine ⟨⟨⟨_, rfl, BLe.cells ?_⟩, rfl⟩, ?_⟩ |refine ⟨⟨AV.Le.int ?_, rfl⟩, ?_⟩ |refine ⟨⟨AV.Le.bool ?_, rfl⟩, ?_⟩ |refine ⟨⟨AV.Le.sl ?_, rfl⟩, ?_⟩ |refine ⟨⟨AV.Le.of_eq ?_, rfl⟩, ?_⟩ | fail)
    · intro j ⟨j0, j1⟩
      repeat' (first |refine Fl.v rfl rfl rfl ?_ |refine Fl.nilF ?_ |refine AWP.seq ?_ |refine AWP.region ?_ |refine Fl.w rfl rfl rfl (by first | exact True.intro | omega) ?_ |(refine AWP.condD rfl ?_ ?_ <;> intro _ <;> try (exfalso; omega)) |refine AWP.block ?_ |refine AWP.skip ?_ |refine AWP.exit ?_ |(refine Fl.el rfl rfl rfl rfl rfl rfl rfl rfl (by omega) (by omega) ?_; intro _ _) |fail)
      · rename_i hlt x hx y hy
        have hjl : j < i + 1 := by rw [rowP_len] at hlt; omega
        obtain ⟨j', rfl⟩ : ∃ j', j = j' + 1 := ⟨j - 1, by omega⟩
        have hx1 : x = (ch i j' : Int) := by
          rw [show (((j' + 1 : Nat) : Int) - 1).toNat = j' by omega, rowP_get (by omega)] at hx
          injection hx with hx
          exact hx.symm
        have hy1 : y = (ch i (j' + 1) : Int) := by
          rw [Int.toNat_natCast, rowP_get (by omega)] at hy
          injection hy with hy
          exact hy.symm
        have hs : x + y = (ch (i + 1) (j' + 1) : Int) := by rw [hx1, hy1, ch_succ]; omega
        have hA := Add_ok x y (by rw [hx1]; exact ch_fit (by omega)) (by rw [hy1]; exact ch_fit (by omega))
        rw [hs, aR_fit (ch_fit (by omega))] at hA
        have hrl := rowP_len (i + 1) (j' + 1)
        refine Fl.call rfl (hA) rfl rfl rfl (LeL.refl _) ?_
        repeat' (first |refine Fl.v rfl rfl rfl ?_ |refine Fl.nil (fun _ => by kernel_rfl) ?_ |refine AWP.region ?_ |refine Fl.b rfl rfl rfl rfl ?_ |fail)
        refine Fl.lit rfl rfl rfl rfl rfl eX [(ch (i + 1) (j' + 1) : Int)] rfl rfl rfl rfl (by intro _ _; rfl) rfl ?_
        skip
        refine Fl.ap rfl rfl rfl rfl rfl rfl rfl rfl rfl rfl rfl rfl rfl (fun _ => rfl) (fun _ => rfl) (AV.Le.refl _) (by dsimp only [List.length_nil, List.length_cons]; omega) (by simp; omega) ?_
        repeat' (first |refine Fl.v rfl rfl rfl ?_ |refine Fl.nilF ?_ |refine AWP.region ?_ |refine Fl.w rfl rfl rfl (by first | exact True.intro | omega) ?_ |fail)
        refine LoopEnd.of (j' + 1 + 1) ⟨by omega, by omega⟩ (by omega) ?_
        refine Ent.of [(17, 40)] ?_ ?_ rfl rfl
        repeat' (first | exact True.intro |refine ⟨⟨AV.Le.refl _, rfl⟩, ?_⟩ |refine ⟨⟨AV.Le.any _, rfl⟩, ?_⟩ |refine ⟨⟨⟨_, rfl, BLe.cells (LeL.refl _)⟩, rfl⟩, ?_⟩ |refine ⟨⟨⟨_, rfl, BLe.row rfl⟩, rfl⟩, ?_⟩ |refine ⟨⟨⟨_, rfl, BLe.row ?_⟩, rfl⟩, ?_⟩ |refine ⟨⟨⟨_, rfl, BLe.cells ?_⟩, rfl⟩, ?_⟩ |refine ⟨⟨AV.Le.int ?_, rfl⟩, ?_⟩ |refine ⟨⟨AV.Le.bool ?_, rfl⟩, ?_⟩ |refine ⟨⟨AV.Le.sl ?_, rfl⟩, ?_⟩ |refine ⟨⟨AV.Le.of_eq ?_, rfl⟩, ?_⟩ | fail)
        exact (rowP_succ (i + 1) (j' + 1)).symm
      · rename_i hge
        have hj : j = i + 1 := by rw [rowP_len] at hge; omega
        subst hj
        have hrl := rowP_len (i + 1) (i + 1)
        refine Fl.call rfl (Of_ok 1 (by omega) (by omega)) rfl rfl rfl (LeL.refl _) ?_
        skip
        refine Fl.lit rfl rfl rfl rfl rfl eX [1] rfl rfl rfl rfl (by intro _ _; rfl) rfl ?_
        skip
        refine Fl.ap rfl rfl rfl rfl rfl rfl rfl rfl rfl rfl rfl rfl rfl (fun _ => rfl) (fun _ => rfl) (AV.Le.refl _) (by dsimp only [List.length_nil, List.length_cons]; omega) (by simp; omega) ?_
        repeat' (first |refine Fl.v rfl rfl rfl ?_ |refine Fl.nilF ?_ |fail)
        refine ⟨IWP.last ?_⟩
        repeat' (first |refine Fl.v rfl rfl rfl ?_ |refine Fl.nilF ?_ |refine AWP.region ?_ |refine Fl.w rfl rfl rfl (by first | exact True.intro | omega) ?_ |fail)
        refine ⟨i + 1, trivial, rfl, fun _ => by show N - (i + 1) < N - i; omega, ?_⟩
        refine (Ent.freeze 44 rfl).trans ?_
        have hrw : rowP (i + 1) (i + 1) ++ [1] = rowP (i + 1) (i + 1 + 1) := by rw [rowP_succ (i + 1) (i + 1), ch_self]; rfl
        rw [hrw]
        refine Ent.of [] ?_ ?_ rfl rfl
        repeat' (first | exact True.intro |refine ⟨⟨AV.Le.refl _, rfl⟩, ?_⟩ |refine ⟨⟨AV.Le.any _, rfl⟩, ?_⟩ |refine ⟨⟨⟨_, rfl, BLe.cells (LeL.refl _)⟩, rfl⟩, ?_⟩ |refine ⟨⟨⟨_, rfl, BLe.row rfl⟩, rfl⟩, ?_⟩ |refine ⟨⟨⟨_, rfl, BLe.row ?_⟩, rfl⟩, ?_⟩ |refine ⟨⟨⟨_, rfl, BLe.cells ?_⟩, rfl⟩, ?_⟩ |refine ⟨⟨AV.Le.int ?_, rfl⟩, ?_⟩ |refine ⟨⟨AV.Le.bool ?_, rfl⟩, ?_⟩ |refine ⟨⟨AV.Le.sl ?_, rfl⟩, ?_⟩ |refine ⟨⟨AV.Le.of_eq ?_, rfl⟩, ?_⟩ | fail)
  · refine Fl.nil (fun h => (by cases h)) ⟨rfl, ?_⟩
    refine IWP.condB (t := false) rfl (fun h => (by cases h)) (fun _ => IWP.exit ?_)
    exact ⟨.inl rfl, fun i h => (by cases h)⟩
end Go.Proofs.YtcaecieigoplbaaGreat
/- mask.Choose. -/
namespace Go.Proofs.YtcaecieigoplbaaGreat
open Go.AL
def chS (n k : Int) (x : Int) : St := St.of [] [(2, .ptr 2 0), (3, .ptr 3 0), (4, .ptr 4 0), (5, aN 0), (6, .ptr 6 0)] [(2, .cells [aN n] 3), (3, .cells [aN k] 3), (4, .cells [aB false, .v (.slice none 0 0)] 35), (6, .cells (eX x) 35)]
theorem chS_eq (n k x : Int) : chS n k x = St.of [2, 3, 4, 6] [(2, .ptr 2 0), (3, .ptr 3 0), (4, .ptr 4 0), (5, aN 0), (6, .ptr 6 0)] [(2, .cells [aN n] 3), (3, .cells [aN k] 3), (4, .cells [aB false, .v (.slice none 0 0)] 35), (6, .cells (eX x) 35)] := by
  unfold chS St.of
  congr 1
  funext id
  show (memI [2, 3, 4, 6] id || memI [] id) = (memI [2, 3, 4, 6] id || memI [2, 3, 4, 6] id)
  cases memI [2, 3, 4, 6] id <;> rfl
theorem Choose_ok (n k : Nat) (hn : n ≤ 300) (hk : k ≤ 300) : PureFn Tryz.prog 37 [aN n, aN k] (.tup [aX (ch n k), aN 0]) := by
  refine PureFn.of_bodyF Tryz.func37 rfl Tryz.ntmps37 rfl rfl ?_
  refine FWP.seqL ?_
  repeat' (first |refine Fl.v rfl rfl rfl ?_ |refine Fl.nilF ?_ |refine AWP.region ?_ |refine Fl.b rfl rfl rfl rfl ?_ |fail)
  refine ⟨FWP.seqL ?_⟩
  repeat' (first |refine Fl.v rfl rfl rfl ?_ |refine Fl.nilF ?_ |refine AWP.seq ?_ |refine AWP.region ?_ |(refine AWP.condD rfl ?_ ?_ <;> intro _ <;> try (exfalso; omega)) |refine AWP.skip ?_ |(refine Fl.splitD rfl rfl ?_ ?_ <;> intro _ <;> try (exfalso; omega)) |fail)
  refine ⟨FWP.seqL ?_⟩
  repeat' (first |refine AWP.region ?_ |fail)
  refine Fl.call rfl (Of_ok 0 (by omega) (by omega)) rfl rfl rfl (LeL.refl _) ?_
  repeat' (first |refine Fl.nilF ?_ |refine Fl.b rfl rfl rfl rfl ?_ |fail)
  refine ⟨FWP.seq (FWP.block ?_)⟩
  refine FWP.ent (s' := chS n k 0) ?_ ?_
  · unfold chS
    refine Ent.of [] ?_ ?_ rfl rfl
    repeat' (first | exact True.intro |refine ⟨⟨AV.Le.refl _, rfl⟩, ?_⟩ |refine ⟨⟨AV.Le.any _, rfl⟩, ?_⟩ |refine ⟨⟨⟨_, rfl, BLe.cells (LeL.refl _)⟩, rfl⟩, ?_⟩ |refine ⟨⟨⟨_, rfl, BLe.row rfl⟩, rfl⟩, ?_⟩ |refine ⟨⟨⟨_, rfl, BLe.row ?_⟩, rfl⟩, ?_⟩ |refine ⟨⟨⟨_, rfl, BLe.cells ?_⟩, rfl⟩, ?_⟩ |refine ⟨⟨AV.Le.int ?_, rfl⟩, ?_⟩ |refine ⟨⟨AV.Le.bool ?_, rfl⟩, ?_⟩ |refine ⟨⟨AV.Le.sl ?_, rfl⟩, ?_⟩ |refine ⟨⟨AV.Le.of_eq ?_, rfl⟩, ?_⟩ | fail)
  refine FWP.rangeFunc (rows_ok (n + 1) (by omega)) (by omega) rfl rfl rfl rfl [2, 3, 4, 6] (by simp) ?_ (fun _ => chS n k 0) (fun _ => rfl) rfl ?_ ?_ ?_
  · exact lookE_within rfl
  · intro i xs h
    injection h with h
    exact ⟨_, _, h.symm⟩
  · intro i x y l hi he
    injection he with he
    injection he with h1 he
    injection he with h2 _
    subst h1 h2
    refine RWP.seqR rfl ?_
    repeat' (first |refine Fl.v rfl rfl rfl ?_ |refine Fl.nilF ?_ |fail)
    refine ⟨rfl, RWP.region (K := fun s1 => RWP _ _ _ _ _ _ s1) rfl (fun s k => k) ?_⟩
    repeat' (first |refine Fl.v rfl rfl rfl ?_ |refine Fl.nilF ?_ |fail)
    refine ⟨rfl, RWP.block (RWP.seqR rfl ?_)⟩
    repeat' (first |refine Fl.v rfl rfl rfl ?_ |refine Fl.nilF ?_ |fail)
    refine ⟨rfl, RWP.condD rfl (fun hin => ?_) (fun hin => RWP.skip ?_)⟩
    · have hin : i = n := by omega
      subst hin
      refine RWP.seq (RWP.seqR rfl ?_)
      repeat' (first |refine Fl.v rfl rfl rfl ?_ |refine Fl.nilF ?_ |fail)
      refine ⟨rfl, RWP.condD rfl (fun hkn => ?_) (fun hkn => RWP.skip ?_)⟩
      · refine RWP.region (K := fun s1 => RWP _ _ _ _ (.exit 0) _ s1) rfl (fun s k => k) ?_
        have hkl : k < (rowP i (i + 1)).length := by rw [rowP_len]; omega
        repeat' (first |refine Fl.v rfl rfl rfl ?_ |refine Fl.nilF ?_ |refine Fl.b rfl rfl rfl rfl ?_ |(refine Fl.el rfl rfl rfl rfl rfl rfl rfl rfl (by omega) (by omega) ?_; intro _ _) |fail)
        rename_i v hv
        rw [Int.toNat_natCast, rowP_get (by omega)] at hv
        injection hv with hv
        subst hv
        refine ⟨rfl, RWP.exit ?_⟩
        refine ⟨chS i k (ch i k), rfl, Ent.anyS ?_, ?_⟩
        · rw [chS_eq i k (ch i k)]
          refine Ent.of [] ?_ ?_ rfl rfl
          repeat' (first | exact True.intro |refine ⟨⟨AV.Le.refl _, rfl⟩, ?_⟩ |refine ⟨⟨AV.Le.any _, rfl⟩, ?_⟩ |refine ⟨⟨⟨_, rfl, BLe.cells (LeL.refl _)⟩, rfl⟩, ?_⟩ |refine ⟨⟨⟨_, rfl, BLe.row rfl⟩, rfl⟩, ?_⟩ |refine ⟨⟨⟨_, rfl, BLe.row ?_⟩, rfl⟩, ?_⟩ |refine ⟨⟨⟨_, rfl, BLe.cells ?_⟩, rfl⟩, ?_⟩ |refine ⟨⟨AV.Le.int ?_, rfl⟩, ?_⟩ |refine ⟨⟨AV.Le.bool ?_, rfl⟩, ?_⟩ |refine ⟨⟨AV.Le.sl ?_, rfl⟩, ?_⟩ |refine ⟨⟨AV.Le.of_eq ?_, rfl⟩, ?_⟩ | fail)
        · refine FWP.lift ?_
          unfold chS
          repeat' (first |refine Fl.v rfl rfl rfl ?_ |refine Fl.nilF ?_ |refine AWP.seq ?_ |refine AWP.region ?_ |refine Fl.b rfl rfl rfl rfl ?_ |refine AWP.ret ?_ |fail)
          exact RetOk.of rfl (AV.Le.refl _)
      · refine RWP.exit ?_
        refine ⟨chS i k 0, rfl, Ent.anyS ?_, ?_⟩
        · rw [chS_eq]
          refine Ent.of [] ?_ ?_ rfl rfl
          repeat' (first | exact True.intro |refine ⟨⟨AV.Le.refl _, rfl⟩, ?_⟩ |refine ⟨⟨AV.Le.any _, rfl⟩, ?_⟩ |refine ⟨⟨⟨_, rfl, BLe.cells (LeL.refl _)⟩, rfl⟩, ?_⟩ |refine ⟨⟨⟨_, rfl, BLe.row rfl⟩, rfl⟩, ?_⟩ |refine ⟨⟨⟨_, rfl, BLe.row ?_⟩, rfl⟩, ?_⟩ |refine ⟨⟨⟨_, rfl, BLe.cells ?_⟩, rfl⟩, ?_⟩ |refine ⟨⟨AV.Le.int ?_, rfl⟩, ?_⟩ |refine ⟨⟨AV.Le.bool ?_, rfl⟩, ?_⟩ |refine ⟨⟨AV.Le.sl ?_, rfl⟩, ?_⟩ |refine ⟨⟨AV.Le.of_eq ?_, rfl⟩, ?_⟩ | fail)
        · refine FWP.lift ?_
          unfold chS
          repeat' (first |refine Fl.v rfl rfl rfl ?_ |refine Fl.nilF ?_ |refine AWP.seq ?_ |refine AWP.region ?_ |refine Fl.b rfl rfl rfl rfl ?_ |refine AWP.ret ?_ |fail)
          refine RetOk.of rfl ?_
          rw [ch_gt (show i < k by omega)]
          exact AV.Le.refl _
    · refine ⟨by omega, Ent.anyS ?_⟩
      rw [chS_eq]
      refine Ent.of [] ?_ ?_ rfl rfl
      repeat' (first | exact True.intro |refine ⟨⟨AV.Le.refl _, rfl⟩, ?_⟩ |refine ⟨⟨AV.Le.any _, rfl⟩, ?_⟩ |refine ⟨⟨⟨_, rfl, BLe.cells (LeL.refl _)⟩, rfl⟩, ?_⟩ |refine ⟨⟨⟨_, rfl, BLe.row rfl⟩, rfl⟩, ?_⟩ |refine ⟨⟨⟨_, rfl, BLe.row ?_⟩, rfl⟩, ?_⟩ |refine ⟨⟨⟨_, rfl, BLe.cells ?_⟩, rfl⟩, ?_⟩ |refine ⟨⟨AV.Le.int ?_, rfl⟩, ?_⟩ |refine ⟨⟨AV.Le.bool ?_, rfl⟩, ?_⟩ |refine ⟨⟨AV.Le.sl ?_, rfl⟩, ?_⟩ |refine ⟨⟨AV.Le.of_eq ?_, rfl⟩, ?_⟩ | fail)
  · intro i h
    cases h
end Go.Proofs.YtcaecieigoplbaaGreat
/- Validity of any many numbers. -/
namespace Go.Proofs.YtcaecieigoplbaaGreat
open Go.AL
end Go.Proofs.YtcaecieigoplbaaGreat
/- mask: the links' meaning; what they need to be evaluated. -/
namespace Go.AL
theorem mkS_all : (∀ l ∈ mkS.links, OkL 10 l ∧ WL l) := by
  intro l hl
  simp only [mkS, List.mem_cons, List.not_mem_nil, or_false] at hl
  rcases hl with rfl | rfl | rfl | rfl | rfl | rfl
  · have := okLU_ok (V := 10) (by omega) (kind := 2) (ls := [conU 10 2, mk2, varU 10 2]) (by kernel_rfl); exact ⟨this.1, this.2.1⟩
  · have := okLU_ok (V := 10) (by omega) (kind := 2) (ls := [mk3, varU 10 1, varU 10 3]) (by kernel_rfl); exact ⟨this.1, this.2.1⟩
  · have := okLU_ok (V := 10) (by omega) (kind := 2) (ls := [varU 10 2, varU 10 0, varU 10 4]) (by kernel_rfl); exact ⟨this.1, this.2.1⟩
  · have := okLU_ok (V := 10) (by omega) (kind := 0) (ls := [mk8]) (by kernel_rfl); exact ⟨this.1, this.2.1⟩
  · have := okLU_ok (V := 10) (by omega) (kind := 0) (ls := [mk10]) (by kernel_rfl); exact ⟨this.1, this.2.1⟩
  · have := okLU_ok (V := 10) (by omega) (kind := 0) (ls := [mk12]) (by kernel_rfl); exact ⟨this.1, this.2.1⟩
theorem mkS_w : WS mkS := fun l hl => (mkS_all l hl).2
theorem mkS_ok : OkS mkS := ⟨by decide, by decide, by decide, fun l hl => (mkS_all l hl).1⟩
theorem mkS_nn : (∀ p ∈ [conU 10 2, mk2, varU 10 2, mk3, varU 10 1, varU 10 3, varU 10 0, varU 10 4, mk8, mk10, mk12], nnU 10 p ∧ okB 3 4 p = true) := by
  have h : ([conU 10 2, mk2, varU 10 2, mk3, varU 10 1, varU 10 3, varU 10 0, varU 10 4, mk8, mk10, mk12].all fun p => p.all (okU 10) && okB 3 4 p) = true := by kernel_rfl
  intro p hp
  have := List.all_eq_true.1 h p hp
  simp only [Bool.and_eq_true, List.all_eq_true] at this
  exact ⟨fun u hu => okU_ok (this.1 u hu), this.2⟩
theorem mk_vals (a b u p q z y r s t : Int) : let X := [a, b, u, p, q, z, y, r, s, t]
    uv X (conU 10 2) = 2 ∧ uv X mk2 = b + 1 ∧ uv X (varU 10 2) = u ∧ uv X mk3 = u + 1 ∧ uv X (varU 10 1) = b ∧ uv X (varU 10 3) = p ∧ uv X (varU 10 0) = a ∧ uv X (varU 10 4) = q ∧ uv X mk8 = p - ((2 * z + 1 + u * y) * q + r) ∧ uv X mk10 = q - (r + s + 1) ∧ uv X mk12 = u - (2 * z + 1 + 1 + t) := by
  intro X
  have v : ∀ i, i < 10 → uv X (varU 10 i) = X.getD i 0 := fun i hi => uv_var rfl hi
  have v0 : uv X (varU 10 0) = a := v 0 (by omega)
  have v1 : uv X (varU 10 1) = b := v 1 (by omega)
  have v2 : uv X (varU 10 2) = u := v 2 (by omega)
  have v3 : uv X (varU 10 3) = p := v 3 (by omega)
  have v4 : uv X (varU 10 4) = q := v 4 (by omega)
  have v5 : uv X (varU 10 5) = z := v 5 (by omega)
  have v6 : uv X (varU 10 6) = y := v 6 (by omega)
  have v7 : uv X (varU 10 7) = r := v 7 (by omega)
  have v8 : uv X (varU 10 8) = s := v 8 (by omega)
  have v9 : uv X (varU 10 9) = t := v 9 (by omega)
  have c : ∀ k, uv X (conU 10 k) = k := fun k => uv_con X 10 k
  have n0 : uv X [] = 0 := rfl
  have m0 : uv X mk0 = 2 * z := by
    unfold mk0; rw [uv_muls (V := 10) (by omega) X _ _ (by kernel_rfl)]; simp only [List.map_cons, List.map_nil, prodL, c, v5]; omega
  have m1 : uv X mk1 = 2 * z + 1 := by
    unfold mk1; rw [uv_sums (V := 10) (by omega) X _ _ (by kernel_rfl)]; simp only [List.map_cons, List.map_nil, sumL, c, m0, n0]; omega
  have m2 : uv X mk2 = b + 1 := by
    unfold mk2; rw [uv_sums (V := 10) (by omega) X _ _ (by kernel_rfl)]; simp only [List.map_cons, List.map_nil, sumL, c, v1, n0]; omega
  have m3 : uv X mk3 = u + 1 := by
    unfold mk3; rw [uv_sums (V := 10) (by omega) X _ _ (by kernel_rfl)]; simp only [List.map_cons, List.map_nil, sumL, c, v2, n0]; omega
  have m4 : uv X mk4 = u * y := by
    unfold mk4; rw [uv_muls (V := 10) (by omega) X _ _ (by kernel_rfl)]; simp only [List.map_cons, List.map_nil, prodL, c, v2, v6]; grind
  have m5 : uv X mk5 = 2 * z + 1 + u * y := by
    unfold mk5; rw [uv_sums (V := 10) (by omega) X _ _ (by kernel_rfl)]; simp only [List.map_cons, List.map_nil, sumL, m1, m4, n0]; omega
  have m6 : uv X mk6 = (2 * z + 1 + u * y) * q := by
    unfold mk6; rw [uv_muls (V := 10) (by omega) X _ _ (by kernel_rfl)]; simp only [List.map_cons, List.map_nil, prodL, c, m5, v4]; grind
  have m7 : uv X mk7 = (2 * z + 1 + u * y) * q + r := by
    unfold mk7; rw [uv_sums (V := 10) (by omega) X _ _ (by kernel_rfl)]; simp only [List.map_cons, List.map_nil, sumL, m6, v7, n0]; omega
  have m8 : uv X mk8 = p - ((2 * z + 1 + u * y) * q + r) := by
    unfold mk8; rw [uv_sub (V := 10) (by omega) X (by kernel_rfl), v3, m7]
  have m9 : uv X mk9 = r + s + 1 := by
    unfold mk9; rw [uv_sums (V := 10) (by omega) X _ _ (by kernel_rfl)]; simp only [List.map_cons, List.map_nil, sumL, c, v7, v8, n0]; omega
  have m10 : uv X mk10 = q - (r + s + 1) := by
    unfold mk10; rw [uv_sub (V := 10) (by omega) X (by kernel_rfl), v4, m9]
  have m11 : uv X mk11 = 2 * z + 1 + 1 + t := by
    unfold mk11; rw [uv_sums (V := 10) (by omega) X _ _ (by kernel_rfl)]; simp only [List.map_cons, List.map_nil, sumL, c, m1, v9, n0]; omega
  have m12 : uv X mk12 = u - (2 * z + 1 + 1 + t) := by
    unfold mk12; rw [uv_sub (V := 10) (by omega) X (by kernel_rfl), v2, m11]
  exact ⟨c 2, m2, v2, m3, v1, v3, v0, v4, m8, m10, m12⟩
/-- the links hold -/
def MaskEq (a b u p q z y r s t : Int) : Prop :=
  (0 ≤ b + 1 ∧ 2 ^ (b + 1).toNat = u) ∧ (1 ≤ u + 1 ∧ 0 ≤ b ∧ (u + 1) ^ b.toNat = p) ∧ (1 ≤ u ∧ 0 ≤ a ∧ u ^ a.toNat = q) ∧ p = (2 * z + 1 + u * y) * q + r ∧ q = r + s + 1 ∧ u = 2 * z + 1 + 1 + t
theorem mk_hol (a b u p q z y r s t : Int) : (∀ l ∈ mkS.links, HoL [a, b, u, p, q, z, y, r, s, t] l) ↔ MaskEq a b u p q z y r s t := by
  obtain ⟨e0, e1, e2, e3, e4, e5, e6, e7, e8, e9, e10⟩ := mk_vals a b u p q z y r s t
  have nn : ∀ p, p ∈ [conU 10 2, mk2, varU 10 2, mk3, varU 10 1, varU 10 3, varU 10 0, varU 10 4, mk8, mk10, mk12] → nnU 10 p := fun p hp => (mkS_nn p hp).1
  have L : ∀ (kind : Int) (ls : List (List UT)), (∀ p ∈ ls, p ∈ [conU 10 2, mk2, varU 10 2, mk3, varU 10 1, varU 10 3, varU 10 0, varU 10 4, mk8, mk10, mk12]) → HoL [a, b, u, p, q, z, y, r, s, t] (linkU 10 kind ls) = holdP kind (ls.map (uv [a, b, u, p, q, z, y, r, s, t])) := fun kind ls h => by
    unfold HoL
    rw [lvals_linkU (V := 10) rfl fun p hp => nn p (h p hp)]
    rfl
  simp only [mkS, List.forall_mem_cons]
  rw [L 2 _ (by simp), L 2 _ (by simp), L 2 _ (by simp), L 0 _ (by simp), L 0 _ (by simp), L 0 _ (by simp)]
  simp only [List.map_cons, List.map_nil, e0, e1, e2, e3, e4, e5, e6, e7, e8, e9, e10]
  unfold holdP MaskEq
  simp
  intros
  constructor
  · intro ⟨h1, h2, h3⟩
    exact ⟨by omega, by omega, by omega⟩
  · intro ⟨h1, h2, h3⟩
    exact ⟨by omega, by omega, by omega⟩
/-- numbers that are not too great: the links can be evaluated -/
theorem mk_ev {X : List Int} {m : Nat} (hm : m ≤ 43000) (hl : X.length = 10) (hX : ∀ x ∈ X, x.natAbs ≤ 2 ^ m) : ∀ l ∈ mkS.links, EvL X l := by
  have A : ∀ p, p ∈ [conU 10 2, mk2, varU 10 2, mk3, varU 10 1, varU 10 3, varU 10 0, varU 10 4, mk8, mk10, mk12] → nnU 10 p ∧ Fit (auv X p) := fun p hp => by
    obtain ⟨h1, h2⟩ := mkS_nn p hp
    exact ⟨h1, auv_fit hX h1 h2 (by omega)⟩
  have L : ∀ (kind : Int) (ls : List (List UT)), (∀ p ∈ ls, p ∈ [conU 10 2, mk2, varU 10 2, mk3, varU 10 1, varU 10 3, varU 10 0, varU 10 4, mk8, mk10, mk12]) → EvL X (linkU 10 kind ls) := fun kind ls h =>
    evL_linkU hl (fun p hp => (A p (h p hp)).1) fun p hp => (A p (h p hp)).2
  simp only [mkS, List.forall_mem_cons]
  exact ⟨L 2 _ (by simp), L 2 _ (by simp), L 2 _ (by simp), L 0 _ (by simp), L 0 _ (by simp), L 0 _ (by simp), by simp⟩
end Go.AL
namespace Go.Proofs.YtcaecieigoplbaaGreat
open Go.AL
theorem holdsR_all {f g : LZ → Bool} : ∀ {ls : List LZ}, (∀ l ∈ ls, f l = true ∧ g l = true) → holdsR f g ls = (true, 0)
  | [], _ => rfl
  | l :: ls, h => by
    obtain ⟨h1, h2⟩ := h l (by simp)
    rw [holdsR, if_pos h1, if_pos h2]
    exact holdsR_all fun x hx => h x (by simp [hx])
/-- Holds, where all stands. -/
theorem Holds_yes (s : SZ) (X : List Int) (hw : WS s) (hs : OkS s) (hX : ∀ x ∈ X, Fit x) (hlen : (X.length : Int) = s.vars) (hnat : ∀ x ∈ X, 0 ≤ x) (he : ∀ l ∈ s.links, EvL X l) (hh : ∀ l ∈ s.links, HoL X l) : PureFn Tryz.prog 25 [aS s, .sl 2 eX X] (.tup [aB true, aN 0]) := by
  obtain ⟨f, hf⟩ := boolOf (EvL X)
  obtain ⟨g, hg⟩ := boolOf (HoL X)
  have := Holds_ok s X hw hs hX hlen hnat f g hf hg
  rw [holdsR_all fun l hl => ⟨(hf l).2 (he l hl), (hg l).2 (hh l hl)⟩] at this
  exact this
end Go.Proofs.YtcaecieigoplbaaGreat
/- ref01: SameAll. -/
namespace Go.AL
end Go.AL
namespace Go.Proofs.YtcaecieigoplbaaGreat
open Go.AL
end Go.Proofs.YtcaecieigoplbaaGreat
/- ref01: Under, Small; mask.Witness where there is none. -/
namespace Go.AL
end Go.AL
namespace Go.Proofs.YtcaecieigoplbaaGreat
open Go.AL

theorem inside_ok (a b : Int) : PureFn Tryz.prog 19 [aN a, aN b] (aB (decide (0 ≤ a ∧ 0 ≤ b ∧ a ≤ 300 ∧ b ≤ 300))) := by
  refine PureFn.of_body Tryz.func19 rfl Tryz.ntmps19 rfl rfl ?_
  repeat' (first |refine Fl.v rfl rfl rfl ?_ |refine Fl.nilF ?_ |refine AWP.seq ?_ |refine AWP.region ?_ |refine Fl.skip rfl rfl ?_ |refine AWP.ret ?_ |(refine Fl.splitD rfl rfl ?_ ?_ <;> intro _ <;> try (exfalso; omega)) |fail)
  all_goals
    refine RetOk.of rfl (AV.Le.bool ?_)
    first
    | exact (decide_eq_false (by omega)).symm
    | exact (decide_eq_true (by omega)).symm
    | (rw [decide_eq_decide]; omega)
theorem mWitness_none (a b : Int) (ha : 0 ≤ a) (hb : 0 ≤ b) (ha2 : a ≤ 300) (hb2 : b ≤ 300) (h : ¬ undI a b) : PureFn Tryz.prog 18 [aN a, aN b] (.tup [.v (.slice none 0 0), aN 6]) := by
  refine PureFn.of_body Tryz.func18 rfl Tryz.ntmps18 rfl rfl ?_
  have hand : ¬ bitN .andNot a b = 0 := fun k => h (andNot_zero.1 k)
  refine AWP.seqS ?_
  repeat' (first |refine Fl.v rfl rfl rfl ?_ |refine Fl.nilF ?_ |refine AWP.region ?_ |fail)
  refine ⟨AWP.seqS ?_⟩
  repeat' (first |refine Fl.v rfl rfl rfl ?_ |refine Fl.nilF ?_ |refine AWP.seq ?_ |refine AWP.region ?_ |(refine AWP.condD rfl ?_ ?_ <;> intro _ <;> try (exfalso; omega)) |refine AWP.skip ?_ |(refine Fl.splitD rfl rfl ?_ ?_ <;> intro _ <;> try (exfalso; omega)) |fail)
  refine ⟨AWP.seqS ?_⟩
  repeat' (first |refine Fl.v rfl rfl rfl ?_ |refine Fl.nilF ?_ |refine AWP.seq ?_ |refine AWP.region ?_ |refine Fl.w rfl rfl rfl (by first | exact True.intro | omega) ?_ |(refine AWP.condN rfl ?_ ?_ <;> intro _ <;> try (exfalso; omega)) |refine AWP.ret ?_ |fail)
  exact RetOk.of rfl (AV.Le.refl _)
end Go.Proofs.YtcaecieigoplbaaGreat
/- Digits of binomial coefficients under digits: plain. -/
namespace Go.AL
theorem und_bits (a b : Nat) : undI a b ↔ ∀ i, a.testBit i = true → b.testBit i = true := by
  unfold undI
  simp only [Int.toNat_natCast]
  constructor
  · intro h i hi
    rw [← h, Nat.testBit_and] at hi
    simp only [Bool.and_eq_true] at hi
    exact hi.2
  · intro h
    apply Nat.eq_of_testBit_eq
    intro i
    rw [Nat.testBit_and]
    cases ha : a.testBit i with
    | false => rfl
    | true => simp [h i ha]
theorem ch_und (b a : Nat) : ch b a % 2 = 1 ↔ undI a b := by rw [und_bits]; exact ch_odd b a
/-- what the quotients are -/
theorem mask_digit {a b u p q : Nat} (hu : u = 2 ^ (b + 1)) (hp : p = (u + 1) ^ b) (hq : q = u ^ a) : p / q % u = ch b a ∧ ch b a < u := by
  have hub : 2 ^ b < u := by rw [hu, Nat.pow_succ]; have := Nat.two_pow_pos b; omega
  have hqp : 0 < q := by rw [hq]; exact Nat.pow_pos (by omega)
  have hup : 0 < u := by omega
  refine ⟨?_, by have := ch_le b a; omega⟩
  refine bin_digit (u := u) (n := b) (k := a) (p := p) (y := p / q / u) (r := p % q) hub hp ?_ (by rw [← hq]; exact Nat.mod_lt _ hqp) (Nat.mod_lt _ hup)
  rw [← hq, Nat.mod_add_div (p / q) u, Nat.mul_comm, Nat.div_add_mod]
/-- where a is under b, there are such numbers -/
theorem mask_found {a b u p q : Nat} (hu : u = 2 ^ (b + 1)) (hp : p = (u + 1) ^ b) (hq : q = u ^ a) (h : undI a b) :
    p = (2 * (p / q % u / 2) + 1 + u * (p / q / u)) * q + p % q ∧ q = p % q + (q - p % q - 1) + 1 ∧ u = 2 * (p / q % u / 2) + 1 + 1 + (u - p / q % u - 1) := by
  obtain ⟨h1, h2⟩ := mask_digit hu hp hq
  have hodd := (ch_und b a).2 h
  have hqp : 0 < q := by rw [hq]; exact Nat.pow_pos (by omega)
  have e : 2 * (p / q % u / 2) + 1 = p / q % u := by rw [h1]; omega
  have hl := Nat.mod_lt p hqp
  refine ⟨?_, by omega, by omega⟩
  rw [e, Nat.mod_add_div (p / q) u, Nat.mul_comm, Nat.div_add_mod]
end Go.AL
/- MaskOnly, MaskFound. -/
namespace Go.AL
theorem mask_found_int {a b : Int} (ha : 0 ≤ a) (hb : 0 ≤ b) (h : undI a b) : MaskEq a b (mw a b).u (mw a b).p (mw a b).q (mw a b).z (mw a b).y (mw a b).r (mw a b).s (mw a b).t ∧ ∀ x ∈ (mw a b).X a b, 0 ≤ x := by
  obtain ⟨p1, p2, p3⟩ := mw_pos ha hb
  obtain ⟨u, hu⟩ : ∃ u : Nat, (mw a b).u = u := ⟨_, (Int.toNat_of_nonneg (show 0 ≤ (mw a b).u by omega)).symm⟩
  obtain ⟨p, hp⟩ : ∃ p : Nat, (mw a b).p = p := ⟨_, (Int.toNat_of_nonneg (show 0 ≤ (mw a b).p by omega)).symm⟩
  obtain ⟨q, hq⟩ : ∃ q : Nat, (mw a b).q = q := ⟨_, (Int.toNat_of_nonneg (show 0 ≤ (mw a b).q by omega)).symm⟩
  obtain ⟨a, rfl⟩ := Int.eq_ofNat_of_zero_le ha
  obtain ⟨b, rfl⟩ := Int.eq_ofNat_of_zero_le hb
  have f0 : ((b : Int) + 1).toNat = b + 1 := by omega
  have e1 : (2 : Int) ^ ((b : Int) + 1).toNat = u := hu
  have e2 : ((mw (a : Int) b).u + 1) ^ (b : Int).toNat = p := hp
  have e3 : (mw (a : Int) b).u ^ (a : Int).toNat = q := hq
  rw [f0] at e1
  rw [hu, Int.toNat_natCast] at e2 e3
  have k1 : u = 2 ^ (b + 1) := by exact_mod_cast e1.symm
  have k2 : p = (u + 1) ^ b := by exact_mod_cast e2.symm
  have k3 : q = u ^ a := by exact_mod_cast e3.symm
  obtain ⟨o1, o2, o3⟩ := mask_found k1 k2 k3 h
  have hqp : 0 < q := by omega
  have hup : 0 < u := by omega
  have hl := Nat.mod_lt p hqp
  have hl2 := Nat.mod_lt (p / q) hup
  have m4 : (mw (a : Int) b).z = ((p / q % u / 2 : Nat) : Int) := by
    show (mw (a : Int) b).p / (mw (a : Int) b).q % (mw (a : Int) b).u / 2 = _
    rw [hu, hp, hq]; push_cast; rfl
  have m5 : (mw (a : Int) b).y = ((p / q / u : Nat) : Int) := by
    show (mw (a : Int) b).p / (mw (a : Int) b).q / (mw (a : Int) b).u = _
    rw [hu, hp, hq]; push_cast; rfl
  have m6 : (mw (a : Int) b).r = ((p % q : Nat) : Int) := by
    show (mw (a : Int) b).p % (mw (a : Int) b).q = _
    rw [hp, hq]; push_cast; rfl
  have m7 : (mw (a : Int) b).s = ((q - p % q - 1 : Nat) : Int) := by
    show (mw (a : Int) b).q - (mw (a : Int) b).r - 1 = _
    rw [hq, m6]; omega
  have m8 : (mw (a : Int) b).t = ((u - p / q % u - 1 : Nat) : Int) := by
    show (mw (a : Int) b).u - (mw (a : Int) b).p / (mw (a : Int) b).q % (mw (a : Int) b).u - 1 = _
    have : (mw (a : Int) b).p / (mw (a : Int) b).q % (mw (a : Int) b).u = ((p / q % u : Nat) : Int) := by rw [hu, hp, hq]; push_cast; rfl
    rw [this, hu]; omega
  constructor
  · unfold MaskEq
    rw [hu, hp, hq, m4, m5, m6, m7, m8, f0, Int.toNat_natCast, Int.toNat_natCast]
    refine ⟨⟨by omega, e1⟩, ⟨by omega, by omega, e2⟩, ⟨by omega, by omega, e3⟩, ?_, ?_, ?_⟩
    · exact_mod_cast o1
    · exact_mod_cast o2
    · exact_mod_cast o3
  · unfold MW.X
    rw [hu, hp, hq, m4, m5, m6, m7, m8]
    simp only [List.forall_mem_cons]
    exact ⟨Int.natCast_nonneg _, Int.natCast_nonneg _, Int.natCast_nonneg _, Int.natCast_nonneg _, Int.natCast_nonneg _, Int.natCast_nonneg _, Int.natCast_nonneg _, Int.natCast_nonneg _, Int.natCast_nonneg _, Int.natCast_nonneg _, by simp⟩
theorem toW_small {x : Nat} (h : x < 4294967296) : (toW (x : Int)).length ≤ 1 := (toW_len_le (by omega) 1).2 (by rw [BB_succ, BB_zero]; omega)
theorem mask_small {a b : Int} (ha : 0 ≤ a) (hb : 0 ≤ b) (ha2 : a ≤ 120) (hb2 : b ≤ 120) (h : undI a b) : ∃ E : Nat, E ≤ 43000 ∧ ∀ x ∈ (mw a b).X a b, x.natAbs ≤ 2 ^ E ∧ Fit x := by
  obtain ⟨h1, h2⟩ := mask_found_int ha hb h
  obtain ⟨p1, p2, p3⟩ := mw_pos ha hb
  have hu : (mw a b).u ≤ 2 ^ 121 := pow_le_r (by omega) (by omega)
  have hu2 : (mw a b).u + 1 ≤ 2 ^ 122 := by
    have : (2 : Int) ^ 122 = 2 * 2 ^ 121 := by rw [Int.pow_succ]; omega
    omega
  obtain ⟨E, hE⟩ : ∃ E : Nat, E = 15000 := ⟨_, rfl⟩
  have hp : (mw a b).p ≤ 2 ^ E := by
    show ((mw a b).u + 1) ^ b.toNat ≤ _
    have h2 : ((mw a b).u + 1) ^ b.toNat ≤ (2 ^ 122) ^ b.toNat := pow_le_l (by omega) hu2 _
    rw [← Int.pow_mul] at h2
    exact Int.le_trans h2 (pow_le_r (by omega) (by omega))
  have hq : (mw a b).q ≤ 2 ^ E := by
    show (mw a b).u ^ a.toNat ≤ _
    have h2 : (mw a b).u ^ a.toNat ≤ (2 ^ 121) ^ a.toNat := pow_le_l (by omega) hu _
    rw [← Int.pow_mul] at h2
    exact Int.le_trans h2 (pow_le_r (by omega) (by omega))
  have hu3 : (mw a b).u ≤ 2 ^ E := Int.le_trans hu (pow_le_r (by omega) (by omega))
  have hc : (300 : Int) ≤ 2 ^ E := Int.le_trans (by decide : (300 : Int) ≤ 2 ^ 9) (pow_le_r (by omega) (by omega))
  obtain ⟨_, _, _, e4, e5, e6⟩ := h1
  have hX : (mw a b).X a b = [a, b, (mw a b).u, (mw a b).p, (mw a b).q, (mw a b).z, (mw a b).y, (mw a b).r, (mw a b).s, (mw a b).t] := rfl
  have hy : (mw a b).y ≤ (mw a b).p := by
    show (mw a b).p / (mw a b).q / (mw a b).u ≤ _
    exact Int.le_trans (Int.ediv_le_self _ (Int.ediv_nonneg (by omega) (by omega))) (Int.ediv_le_self _ (by omega))
  have hle : ∀ x ∈ (mw a b).X a b, x ≤ 2 ^ E := by
    rw [hX] at h2 ⊢
    simp only [List.forall_mem_cons] at h2 ⊢
    obtain ⟨g0, g1, g2, g3, g4, g5, g6, g7, g8, g9, _⟩ := h2
    exact ⟨by omega, by omega, hu3, hp, hq, by omega, by omega, by omega, by omega, by omega, by simp⟩
  refine ⟨E, by rw [hE]; decide, fun x hx => ?_⟩
  have h0 := h2 x hx
  have hl := hle x hx
  refine ⟨?_, fit_pow2 h0 hl (by omega)⟩
  have h4 : x.natAbs ≤ 2 ^ E := by
    have : ((x.natAbs : Nat) : Int) ≤ ((2 ^ E : Nat) : Int) := by
      rw [Int.natCast_pow]
      show ((x.natAbs : Nat) : Int) ≤ (2 : Int) ^ E
      omega
    exact Int.ofNat_le.1 this
  exact h4
end Go.AL
namespace Go.Proofs.YtcaecieigoplbaaGreat
open Go.AL
theorem mask_yes (a b : Int) (ha : 0 ≤ a) (hb : 0 ≤ b) (ha2 : a ≤ 120) (hb2 : b ≤ 120) (h : undI a b) : PureFn Tryz.prog 25 [aS mkS, .sl 2 eX ((mw a b).X a b)] (.tup [aB true, aN 0]) := by
  obtain ⟨h1, h2⟩ := mask_found_int ha hb h
  obtain ⟨E, hE, hs⟩ := mask_small ha hb ha2 hb2 h
  exact Holds_yes mkS _ mkS_w mkS_ok (fun x hx => (hs x hx).2) rfl h2 (mk_ev hE rfl fun x hx => (hs x hx).1) ((mk_hol _ _ _ _ _ _ _ _ _ _).2 h1)
theorem awake12_ok : PureFn Tryz.prog 22 [] (aB true) := by
  refine PureFn.of_body Tryz.func22 rfl Tryz.ntmps22 rfl rfl ?_
  have u11 : undI 1 1 := rfl
  have u12 : ¬ undI 1 2 := by unfold undI; decide
  have c1 := mWitness_ok 1 1 (by omega) (by omega) (by omega) (by omega) u11
  have c2 := mask_yes 1 1 (by omega) (by omega) (by omega) (by omega) u11
  obtain ⟨L, hL⟩ : ∃ L, L = (mw 1 1).X 1 1 := ⟨_, rfl⟩
  have hLl : L.length = 10 := by rw [hL]; rfl
  have g3 : L[(3 : Int).toNat]? = some 5 := by rw [hL]; rfl
  have g9 : L[(9 : Int).toNat]? = some 2 := by rw [hL]; rfl
  rw [← hL] at c1 c2
  refine AWP.seqS ?_
  repeat' (first |refine Fl.v rfl rfl rfl ?_ |refine Fl.nilF ?_ |refine AWP.region ?_ |fail)
  refine ⟨AWP.seqS ?_⟩
  repeat' (first |refine AWP.region ?_ |fail)
  refine Fl.call rfl (c1) rfl rfl rfl (LeL.refl _) ?_
  repeat' (first |refine Fl.v rfl rfl rfl ?_ |refine Fl.nilF ?_ |fail)
  refine ⟨AWP.seqS ?_⟩
  repeat' (first |refine AWP.region ?_ |fail)
  refine Fl.call rfl (maskLinks_ok) rfl rfl rfl (LeL.refl _) ?_
  repeat' (first |refine Fl.v rfl rfl rfl ?_ |fail)
  refine Fl.call rfl (c2) rfl rfl rfl (LeL.refl _) ?_
  repeat' (first |refine Fl.v rfl rfl rfl ?_ |refine Fl.nilF ?_ |fail)
  refine ⟨AWP.seqS ?_⟩
  repeat' (first |refine AWP.region ?_ |fail)
  refine Fl.call rfl (mWitness_none 1 2 (by omega) (by omega) (by omega) (by omega) u12) rfl rfl rfl (LeL.refl _) ?_
  repeat' (first |refine Fl.v rfl rfl rfl ?_ |refine Fl.nilF ?_ |fail)
  refine ⟨?_⟩
  repeat' (first |refine Fl.v rfl rfl rfl ?_ |refine AWP.seq ?_ |refine AWP.region ?_ |refine Fl.elK rfl rfl rfl rfl rfl rfl rfl rfl (by assumption) (by omega) ?_ |(refine Fl.splitD rfl rfl ?_ ?_ <;> intro _ <;> try (exfalso; omega)) |fail)
  refine Fl.call rfl (rOf_ok 5 (by omega) (by omega)) rfl rfl rfl (LeL.refl _) ?_
  skip
  refine Fl.call rfl (rSame_ok 5 5 (Nat.le_trans (toW_small (x := 5) (by omega)) (by omega))) rfl rfl rfl (LeL.refl _) ?_
  repeat' (first |refine Fl.v rfl rfl rfl ?_ |refine Fl.elK rfl rfl rfl rfl rfl rfl rfl rfl (by assumption) (by omega) ?_ |(refine Fl.splitD rfl rfl ?_ ?_ <;> intro _ <;> try (exfalso; omega)) |fail)
  refine Fl.call rfl (rOf_ok 2 (by omega) (by omega)) rfl rfl rfl (LeL.refl _) ?_
  skip
  refine Fl.call rfl (rSame_ok 2 2 (Nat.le_trans (toW_small (x := 2) (by omega)) (by omega))) rfl rfl rfl (LeL.refl _) ?_
  repeat' (first |refine Fl.v rfl rfl rfl ?_ |refine Fl.nil (fun _ => by kernel_rfl) ?_ |refine AWP.ret ?_ |fail)
  exact RetOk.of rfl (AV.Le.refl _)
end Go.Proofs.YtcaecieigoplbaaGreat
/- MaskChooses. -/
namespace Go.Proofs.YtcaecieigoplbaaGreat
open Go.AL
theorem ch_len {n k : Nat} (h : n ≤ 1000) : (toW ((ch n k : Int)).natAbs).length ≤ 4096 := (ch_fit h).len
theorem rChoose_ok (n k : Nat) (hn : n ≤ 300) (hk : k ≤ 300) : PureFn Tryz.prog 39 [aN n, aN k] (aX (ch n k)) := by
  refine PureFn.of_body Tryz.func39 rfl Tryz.ntmps39 rfl rfl ?_
  repeat' (first |refine Fl.nilF ?_ |refine AWP.seq ?_ |refine AWP.region ?_ |refine Fl.b rfl rfl rfl rfl ?_ |fail)
  refine Fl.call rfl (rOf_ok 1 (by omega) (by omega)) rfl rfl rfl (LeL.refl _) ?_
  skip
  refine Fl.lit rfl rfl rfl rfl rfl eX [1] rfl rfl rfl rfl (by intro _ _; rfl) rfl ?_
  repeat' (first |refine Fl.v rfl rfl rfl ?_ |refine Fl.nilF ?_ |refine AWP.seq ?_ |refine AWP.region ?_ |refine AWP.block ?_ |fail)
  refine AWP.loop (G := Nat) (fun i => i ≤ n) (fun i => St.of [] [(0, aN n), (1, aN k), (4, .ptr 4 0), (5, .sl 2 eX (rowP i (i + 1))), (6, aN (i + 1 : Nat))] [(4, .cells [aB false, .v (.slice none 0 0)] 35)]) (fun i => n - i) 0 (by omega) ?_ ?_
  · refine Ent.of [] ?_ ?_ rfl rfl
    repeat' (first | exact True.intro |refine ⟨⟨AV.Le.refl _, rfl⟩, ?_⟩ |refine ⟨⟨AV.Le.any _, rfl⟩, ?_⟩ |refine ⟨⟨⟨_, rfl, BLe.cells (LeL.refl _)⟩, rfl⟩, ?_⟩ |refine ⟨⟨⟨_, rfl, BLe.row rfl⟩, rfl⟩, ?_⟩ |refine ⟨⟨⟨_, rfl, BLe.row ?_⟩, rfl⟩, ?_⟩ |refine ⟨⟨⟨_, rfl, BLe.cells ?_⟩, rfl⟩, ?_⟩ |refine ⟨⟨AV.Le.int ?_, rfl⟩, ?_⟩ |refine ⟨⟨AV.Le.bool ?_, rfl⟩, ?_⟩ |refine ⟨⟨AV.Le.sl ?_, rfl⟩, ?_⟩ |refine ⟨⟨AV.Le.of_eq ?_, rfl⟩, ?_⟩ | fail)
  · intro i k0
    repeat' (first |refine Fl.v rfl rfl rfl ?_ |refine Fl.nilF ?_ |refine AWP.seq ?_ |refine AWP.region ?_ |refine Fl.b rfl rfl rfl rfl ?_ |(refine AWP.condD rfl ?_ ?_ <;> intro _ <;> try (exfalso; omega)) |refine AWP.block ?_ |refine AWP.skip ?_ |refine AWP.exit ?_ |refine AWP.ret ?_ |fail)
    · have hin : i < n := by omega
      refine Fl.call rfl (rOf_ok 1 (by omega) (by omega)) rfl rfl rfl (LeL.refl _) ?_
      skip
      refine Fl.litrow rfl rfl rfl rfl rfl rfl rfl eX [1] rfl rfl rfl rfl (by intro _ _; rfl) (LeL.refl _) ?_
      repeat' (first |refine Fl.v rfl rfl rfl ?_ |refine Fl.nilF ?_ |refine AWP.seq ?_ |refine AWP.region ?_ |refine AWP.block ?_ |fail)
      refine AWP.loop (G := Nat) (fun j => 1 ≤ j ∧ j ≤ i + 1) (fun j => St.of [] [(0, aN n), (1, aN k), (4, .ptr 4 0), (5, .sl 2 eX (rowP i (i + 1))), (6, aN (i + 1 : Nat)), (7, .row 17), (8, aN j)] [(4, .cells [aB false, .v (.slice none 0 0)] 35), (17, .row 2 eX (rowP (i + 1) j) 35)]) (fun j => i + 1 - j) 1 ⟨by omega, by omega⟩ ?_ ?_
      · refine Ent.of [] ?_ ?_ rfl rfl
        repeat' (first | exact True.intro |refine ⟨⟨AV.Le.refl _, rfl⟩, ?_⟩ |refine ⟨⟨AV.Le.any _, rfl⟩, ?_⟩ |refine ⟨⟨⟨_, rfl, BLe.cells (LeL.refl _)⟩, rfl⟩, ?_⟩ |refine ⟨⟨⟨_, rfl, BLe.row rfl⟩, rfl⟩, ?_⟩ |refine ⟨⟨⟨_, rfl, BLe.row ?_⟩, rfl⟩, ?_⟩ |refine ⟨⟨⟨_, rfl, BLe.cells ?_⟩, rfl⟩, ?_⟩ |refine ⟨⟨AV.Le.int ?_, rfl⟩, ?_⟩ |refine ⟨⟨AV.Le.bool ?_, rfl⟩, ?_⟩ |refine ⟨⟨AV.Le.sl ?_, rfl⟩, ?_⟩ |refine ⟨⟨AV.Le.of_eq ?_, rfl⟩, ?_⟩ | fail)
      · intro j ⟨j0, j1⟩
        have hl := rowP_len i (i + 1)
        repeat' (first |refine Fl.v rfl rfl rfl ?_ |refine Fl.nilF ?_ |refine AWP.seq ?_ |refine AWP.region ?_ |refine Fl.w rfl rfl rfl (by first | exact True.intro | omega) ?_ |(refine AWP.condD rfl ?_ ?_ <;> intro _ <;> try (exfalso; omega)) |refine AWP.block ?_ |refine AWP.skip ?_ |refine AWP.exit ?_ |(refine Fl.el rfl rfl rfl rfl rfl rfl rfl rfl (by omega) (by omega) ?_; intro _ _) |fail)
        · rename_i hlt x hx y hy
          have hjl : j < i + 1 := by omega
          obtain ⟨j', rfl⟩ : ∃ j', j = j' + 1 := ⟨j - 1, by omega⟩
          have hx1 : x = (ch i j' : Int) := by
            rw [show (((j' + 1 : Nat) : Int) - 1).toNat = j' by omega, rowP_get (by omega)] at hx
            injection hx with hx
            exact hx.symm
          have hy1 : y = (ch i (j' + 1) : Int) := by
            rw [Int.toNat_natCast, rowP_get (by omega)] at hy
            injection hy with hy
            exact hy.symm
          have hs : x + y = (ch (i + 1) (j' + 1) : Int) := by rw [hx1, hy1, ch_succ]; omega
          have l1 := ch_len (n := i) (k := j') (by omega)
          have l2 := ch_len (n := i) (k := j' + 1) (by omega)
          rw [← hx1] at l1
          rw [← hy1] at l2
          have hA := rAdd_ok x y (by omega) (by omega)
          rw [hs] at hA
          have hrl := rowP_len (i + 1) (j' + 1)
          refine Fl.call rfl (hA) rfl rfl rfl (LeL.refl _) ?_
          skip
          refine Fl.lit rfl rfl rfl rfl rfl eX [(ch (i + 1) (j' + 1) : Int)] rfl rfl rfl rfl (by intro _ _; rfl) rfl ?_
          skip
          refine Fl.ap rfl rfl rfl rfl rfl rfl rfl rfl rfl rfl rfl rfl rfl (fun _ => rfl) (fun _ => rfl) (AV.Le.refl _) (by dsimp only [List.length_nil, List.length_cons]; omega) (by simp; omega) ?_
          repeat' (first |refine Fl.v rfl rfl rfl ?_ |refine Fl.nilF ?_ |refine Fl.nil (fun _ => by kernel_rfl) ?_ |refine AWP.region ?_ |refine Fl.w rfl rfl rfl (by first | exact True.intro | omega) ?_ |fail)
          refine LoopEnd.of (j' + 1 + 1) ⟨by omega, by omega⟩ (by omega) ?_
          refine Ent.of [(17, 35)] ?_ ?_ rfl rfl
          repeat' (first | exact True.intro |refine ⟨⟨AV.Le.refl _, rfl⟩, ?_⟩ |refine ⟨⟨AV.Le.any _, rfl⟩, ?_⟩ |refine ⟨⟨⟨_, rfl, BLe.cells (LeL.refl _)⟩, rfl⟩, ?_⟩ |refine ⟨⟨⟨_, rfl, BLe.row rfl⟩, rfl⟩, ?_⟩ |refine ⟨⟨⟨_, rfl, BLe.row ?_⟩, rfl⟩, ?_⟩ |refine ⟨⟨⟨_, rfl, BLe.cells ?_⟩, rfl⟩, ?_⟩ |refine ⟨⟨AV.Le.int ?_, rfl⟩, ?_⟩ |refine ⟨⟨AV.Le.bool ?_, rfl⟩, ?_⟩ |refine ⟨⟨AV.Le.sl ?_, rfl⟩, ?_⟩ |refine ⟨⟨AV.Le.of_eq ?_, rfl⟩, ?_⟩ | fail)
          exact (rowP_succ (i + 1) (j' + 1)).symm
        · rename_i hge
          have hj : j = i + 1 := by omega
          subst hj
          have hrl := rowP_len (i + 1) (i + 1)
          refine Fl.call rfl (rOf_ok 1 (by omega) (by omega)) rfl rfl rfl (LeL.refl _) ?_
          skip
          refine Fl.lit rfl rfl rfl rfl rfl eX [1] rfl rfl rfl rfl (by intro _ _; rfl) rfl ?_
          skip
          refine Fl.ap rfl rfl rfl rfl rfl rfl rfl rfl rfl rfl rfl rfl rfl (fun _ => rfl) (fun _ => rfl) (AV.Le.refl _) (by dsimp only [List.length_nil, List.length_cons]; omega) (by simp; omega) ?_
          repeat' (first |refine Fl.v rfl rfl rfl ?_ |refine Fl.nilF ?_ |refine AWP.region ?_ |refine Fl.w rfl rfl rfl (by first | exact True.intro | omega) ?_ |fail)
          refine LoopEnd.of (i + 1) (by omega) (by omega) ?_
          refine (Ent.freeze 39 rfl).trans ?_
          have hrw : rowP (i + 1) (i + 1) ++ [1] = rowP (i + 1) (i + 1 + 1) := by rw [rowP_succ (i + 1) (i + 1), ch_self]; rfl
          rw [hrw]
          refine Ent.of [] ?_ ?_ rfl rfl
          repeat' (first | exact True.intro |refine ⟨⟨AV.Le.refl _, rfl⟩, ?_⟩ |refine ⟨⟨AV.Le.any _, rfl⟩, ?_⟩ |refine ⟨⟨⟨_, rfl, BLe.cells (LeL.refl _)⟩, rfl⟩, ?_⟩ |refine ⟨⟨⟨_, rfl, BLe.row rfl⟩, rfl⟩, ?_⟩ |refine ⟨⟨⟨_, rfl, BLe.row ?_⟩, rfl⟩, ?_⟩ |refine ⟨⟨⟨_, rfl, BLe.cells ?_⟩, rfl⟩, ?_⟩ |refine ⟨⟨AV.Le.int ?_, rfl⟩, ?_⟩ |refine ⟨⟨AV.Le.bool ?_, rfl⟩, ?_⟩ |refine ⟨⟨AV.Le.sl ?_, rfl⟩, ?_⟩ |refine ⟨⟨AV.Le.of_eq ?_, rfl⟩, ?_⟩ | fail)
    · have hin : i = n := by omega
      subst hin
      refine RetOk.of rfl ?_
      rw [ch_gt (show i < k by omega)]
      exact AV.Le.agg (leX_zero (σ := []) rfl)
    · have hin : i = n := by omega
      subst hin
      have hl := rowP_len i (i + 1)
      repeat' (first |refine Fl.v rfl rfl rfl ?_ |refine Fl.nilF ?_ |refine Fl.b rfl rfl rfl rfl ?_ |refine AWP.ret ?_ |(refine Fl.el rfl rfl rfl rfl rfl rfl rfl rfl (by omega) (by omega) ?_; intro _ _) |fail)
      rename_i v hv
      rw [Int.toNat_natCast, rowP_get (by omega)] at hv
      injection hv with hv
      subst hv
      exact RetOk.of rfl (AV.Le.refl _)
set_option maxHeartbeats 1000000 in
theorem Choose_arg (n k : Int) (hn : ¬ (0 ≤ n ∧ 0 ≤ k ∧ n ≤ 300 ∧ k ≤ 300)) : PureFn Tryz.prog 37 [aN n, aN k] (.tup [aX 0, aN 2]) := by
  refine PureFn.of_bodyF Tryz.func37 rfl Tryz.ntmps37 rfl rfl ?_
  refine FWP.seqL ?_
  repeat' (first |refine Fl.v rfl rfl rfl ?_ |refine Fl.nilF ?_ |refine AWP.region ?_ |refine Fl.b rfl rfl rfl rfl ?_ |fail)
  refine ⟨FWP.seqL ?_⟩
  repeat' (first |refine Fl.v rfl rfl rfl ?_ |refine Fl.nilF ?_ |refine AWP.seq ?_ |refine AWP.region ?_ |refine Fl.b rfl rfl rfl rfl ?_ |refine Fl.skip rfl rfl ?_ |refine AWP.condT rfl ?_ |(refine AWP.condD rfl ?_ ?_ <;> intro _ <;> try (exfalso; omega)) |refine AWP.ret ?_ |(refine Fl.splitD rfl rfl ?_ ?_ <;> intro _ <;> try (exfalso; omega)) |fail)
  all_goals exact RetOk.of rfl (AV.Le.tup (LeL.cons (AV.Le.agg (leX_zero (σ := []) rfl)) (LeL.refl _)))
theorem MaskChooses_ok (n k : Int) (hn0 : -9223372036854775808 ≤ n) (hn1 : n ≤ 9223372036854775807) (hk0 : -9223372036854775808 ≤ k) (hk1 : k ≤ 9223372036854775807) : PureFn Tryz.prog 9 [aN n, aN k] (aB true) := by
  refine PureFn.of_body Tryz.func9 rfl Tryz.ntmps9 rfl rfl ?_
  by_cases h : 0 ≤ n ∧ 0 ≤ k ∧ n ≤ 300 ∧ k ≤ 300
  · obtain ⟨a, rfl⟩ := Int.eq_ofNat_of_zero_le h.1
    obtain ⟨b, rfl⟩ := Int.eq_ofNat_of_zero_le h.2.1
    have c1 := Choose_ok a b (by omega) (by omega)
    have c2 := rChoose_ok a b (by omega) (by omega)
    have c3 := inside_ok a b
    rw [decide_eq_true h] at c3
    have hl := ch_len (n := a) (k := b) (by omega)
    generalize ((ch a b : Nat) : Int) = c at *
    repeat' (first |refine Fl.v rfl rfl rfl ?_ |refine Fl.nilF ?_ |refine AWP.seq ?_ |refine AWP.region ?_ |fail)
    refine Fl.call rfl (c1) rfl rfl rfl (LeL.refl _) ?_
    repeat' (first |refine Fl.v rfl rfl rfl ?_ |refine Fl.nilF ?_ |refine AWP.seq ?_ |refine AWP.region ?_ |refine Fl.b rfl rfl rfl rfl ?_ |fail)
    refine Fl.call rfl (c3) rfl rfl rfl (LeL.refl _) ?_
    repeat' (first |refine Fl.v rfl rfl rfl ?_ |refine Fl.nilF ?_ |refine AWP.seq ?_ |refine AWP.region ?_ |refine AWP.condF rfl ?_ |refine AWP.skip ?_ |(refine Fl.splitD rfl rfl ?_ ?_ <;> intro _ <;> try (exfalso; omega)) |fail)
    refine Fl.call rfl (c2) rfl rfl rfl (LeL.refl _) ?_
    skip
    refine Fl.call rfl (rSame_ok c c (by omega)) rfl rfl rfl (LeL.refl _) ?_
    repeat' (first |refine Fl.v rfl rfl rfl ?_ |(refine Fl.splitD rfl rfl ?_ ?_ <;> intro _ <;> try (exfalso; omega)) |fail)
    refine Fl.call rfl (awake12_ok) rfl rfl rfl (LeL.refl _) ?_
    repeat' (first |refine Fl.v rfl rfl rfl ?_ |refine Fl.nil (fun _ => by kernel_rfl) ?_ |refine AWP.ret ?_ |fail)
    exact RetOk.of rfl (AV.Le.refl _)
  · have c1 := Choose_arg n k h
    have c3 := inside_ok n k
    rw [decide_eq_false h] at c3
    repeat' (first |refine Fl.v rfl rfl rfl ?_ |refine Fl.nilF ?_ |refine AWP.seq ?_ |refine AWP.region ?_ |fail)
    refine Fl.call rfl (c1) rfl rfl rfl (LeL.refl _) ?_
    repeat' (first |refine Fl.v rfl rfl rfl ?_ |refine Fl.nilF ?_ |refine AWP.seq ?_ |refine AWP.region ?_ |refine Fl.b rfl rfl rfl rfl ?_ |fail)
    refine Fl.call rfl (c3) rfl rfl rfl (LeL.refl _) ?_
    repeat' (first |refine Fl.v rfl rfl rfl ?_ |refine Fl.nilF ?_ |refine AWP.seq ?_ |refine AWP.region ?_ |refine AWP.condT rfl ?_ |(refine Fl.splitD rfl rfl ?_ ?_ <;> intro _ <;> try (exfalso; omega)) |fail)
    refine Fl.call rfl (rZeroX_ok 0) rfl rfl rfl (LeL.refl _) ?_
    repeat' (first |refine Fl.v rfl rfl rfl ?_ |(refine Fl.splitD rfl rfl ?_ ?_ <;> intro _ <;> try (exfalso; omega)) |fail)
    refine Fl.call rfl (awake12_ok) rfl rfl rfl (LeL.refl _) ?_
    repeat' (first |refine Fl.v rfl rfl rfl ?_ |refine Fl.nilF ?_ |refine AWP.ret ?_ |fail)
    exact RetOk.of rfl (AV.Le.refl _)
end Go.Proofs.YtcaecieigoplbaaGreat

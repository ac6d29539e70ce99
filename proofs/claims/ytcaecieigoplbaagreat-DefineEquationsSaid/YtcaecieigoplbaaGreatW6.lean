/- Part 6 of a proof layer and of the contracts of the functions. -/
import Derived.RangeFuncIn
import Derived.RangeFuncCalls
import Derived.RangeFuncFrom
import Derived.OrdersIn
import Derived.RangeFuncLeaves
import Derived.RangeFuncBound
import Derived.Sort.LoopGhostIn
import Derived.Test.YtcaecieigoplbaaGreatW5
set_option linter.unusedVariables false
set_option linter.unusedSimpArgs false
/- Method values of plain receivers: made, called. -/
namespace Go.AL
section
variable {P : Program} {tab : Tab} {n : Nat} {s : St}
variable {ops : Array Oper} {draw : Dr} {o : Oper} {l : List Oper} {acc : List Eff} {K : Exit → St → Prop}
abbrev bfn (f : FuncId) (us : List Value) : AV := .v (.func (.func f) #[.agg us.toArray] #[])
theorem Runs.bound {f : FuncId} {x : Operand} {args : List Operand} {ts : Array TypeId} {us : List Value} (hop : o.op = .call { callee := .value x, args := ⟨args⟩, argTypes := ts }) (hx : opd s x = bfn f us) : Runs P n o s f (.v (.agg us.toArray) :: opds s args) := by
 refine ⟨fun s' C a w h β hs k => ?_⟩
 have hxs : opd s' x = opd s x := by
  cases x with
  | tmp t => exact hs t (by rw [hop]; simp [Op.operands, Call.operands])
  | _ => rfl
 have hxr := opd_rep k x;rw [hxs, hx] at hxr;simp only [Rep] at hxr
 have hps : opds s' args = opds s args := opds_same args fun x hx => by
  cases x with
  | tmp t => exact hs t (by rw [hop]; simp [Op.operands, Call.operands, hx])
  | _ => rfl
 have hr := opds_rep k args;rw [hps] at hr;refine ⟨#[.agg us.toArray] ++ (args.map a.eval).toArray, fun hfn => ?_, ?_⟩
 ·simp only [execOp, hop, resolve, hxr, Deferred.ofValue, Sem.run_bind, Sem.run_pure, Result.andThen, invoke, List.map_toArray];have := run_callFunc hfn (#[.agg us.toArray] ++ (args.map a.eval).toArray) w;simpa using this
 ·simp only [RepL];exact ⟨.agg us.toArray, args.map a.eval, by simp, by simp only [Rep], hr⟩
end
end Go.AL
/- arithmancy/mask.Links: the system. Written by links.py. -/
namespace Go.AL
def okLk (V : Nat) (ls : List (List UT)) : Bool := ls.all fun p => Nat.ble p.length 3000 && p.all fun u => Nat.beq u.2.length V
theorem okLk_ok {V : Nat} {ls : List (List UT)} (h : okLk V ls = true) : ∀ p ∈ ls, p.length ≤ 3000 ∧ ∀ u ∈ p, u.2.length = V := fun p hp => by
 have := List.all_eq_true.1 h p hp;simp only [Bool.and_eq_true, List.all_eq_true] at this;exact ⟨Nat.le_of_ble_eq_true this.1, fun u hu => Nat.eq_of_beq_eq_true (this.2 u hu)⟩
end Go.AL
namespace Go.Proofs.YtcaecieigoplbaaGreat
open Go.AL
end Go.Proofs.YtcaecieigoplbaaGreat
/- The values of built links. -/
namespace Go.AL
theorem pick_prod (P : Nat → Bool) (Y E : List Int) : ∀ (n k : Nat), (∀ i, k ≤ i → i < k + n → P i = false → E.getD i 0 = 0) →
  prodE (((List.range' k n).filter P).map fun i => Y.getD i 0) (((List.range' k n).filter P).map fun i => E.getD i 0) = prodE ((List.range' k n).map fun i => Y.getD i 0) ((List.range' k n).map fun i => E.getD i 0)
 | 0, k, _ => rfl
 | n + 1, k, h => by
  have ih := pick_prod P Y E n (k + 1) fun i h1 h2 h3 => h i (by omega) (by omega) h3;rw [List.range'_succ, List.filter_cons];by_cases hp : P k = true
  ·rw [if_pos hp];simp only [List.map_cons, prodE, ih]
  ·rw [if_neg hp, ih];have h0 := h k (Nat.le_refl _) (by omega) (by simpa using hp);simp only [List.map_cons, prodE, h0];simp
theorem map_range_getD {V : Nat} {X : List Int} (h : X.length = V) : ((List.range V).map fun i => X.getD i 0) = X := by
 subst h;refine List.ext_getElem (by simp) fun i h1 h2 => ?_;simp [List.getD_eq_getElem?_getD, List.getElem?_eq_getElem h2]
def auv (X : List Int) (p : List UT) : Int := sumL (p.map fun u => ((u.1 * prodE X u.2).natAbs : Int))
theorem pick_term {V : Nat} {X : List Int} (hX : X.length = V) {ls : List (List UT)} {p : List UT} (hp : p ∈ ls) {u : UT} (hu : u ∈ p) (hl : u.2.length = V) (he : EOk u.2) :
  prodE (atOf X ((occL V ls).map fun (i : Nat) => (i : Int))) (pickE (occL V ls) u.2) = prodE X u.2 := by
 have e1 : atOf X ((occL V ls).map fun (i : Nat) => (i : Int)) = (occL V ls).map fun i => X.getD i 0 := by
  unfold atOf;rw [List.map_map];rfl
 have h := pick_prod (occP ls) X u.2 V 0 fun i _ h2 h3 => by
  have hb : i < u.2.length := by omega
  have hn : ¬ 0 < u.2.getD i 0 := fun hc => by
   have : occP ls i = true := List.any_eq_true.2 ⟨p, hp, List.any_eq_true.2 ⟨u, hu, by simpa using hc⟩⟩;rw [this] at h3; cases h3
  have hge : 0 ≤ u.2.getD i 0 := by
   rw [List.getD_eq_getElem?_getD, List.getElem?_eq_getElem hb];exact (he _ (List.getElem_mem hb)).1
  omega
 rw [← List.range_eq_range'] at h;rw [e1];unfold pickE occL;rw [show (List.filter (fun i => ls.any fun p => p.any fun u => decide (0 < u.2.getD i 0)) (List.range V)) = (List.range V).filter (occP ls) from rfl, h, map_range_getD hX, map_range_getD hl]
theorem tv_tz (X : List Int) (u : UT) : tv X (tz u) = u.1 * prodE X u.2 := by
 show zval (zOf u.1) * prodE X u.2 = _;rw [zval_zOf]
def nnU (V : Nat) (p : List UT) : Prop := ∀ u ∈ p, u.2.length = V ∧ EOk u.2
theorem pick_val {V n : Nat} {X : List Int} (hX : X.length = V) {ls : List (List UT)} {p : List UT} (hp : p ∈ ls) (hl : nnU V p) :
  pv (atOf X ((occL V ls).map fun (i : Nat) => (i : Int))) (mkP n (pickU (occL V ls) p)) = uv X p := by
 rw [pv_sum];unfold mkP pickU uv;simp only [List.map_map];congr 1;refine List.map_congr_left fun u hu => ?_;show tv _ (tz (u.1, pickE (occL V ls) u.2)) = _;rw [tv_tz, pick_term hX hp hu (hl u hu).1 (hl u hu).2]
theorem pick_abs {V n : Nat} {X : List Int} (hX : X.length = V) {ls : List (List UT)} {p : List UT} (hp : p ∈ ls) (hl : nnU V p) :
  AS (atOf X ((occL V ls).map fun (i : Nat) => (i : Int))) (mkP n (pickU (occL V ls) p)).terms = auv X p := by
 unfold mkP pickU AS auv;simp only [List.map_map];congr 1;refine List.map_congr_left fun u hu => ?_;show ((tv _ (tz (u.1, pickE (occL V ls) u.2))).natAbs : Int) = _;rw [tv_tz, pick_term hX hp hu (hl u hu).1 (hl u hu).2]
theorem lvals_linkU {V : Nat} {X : List Int} (hX : X.length = V) {kind : Int} {ls : List (List UT)} (h : ∀ p ∈ ls, nnU V p) : lvals X (linkU V kind ls) = ls.map (uv X) := by
 unfold lvals linkU;simp only [List.map_map];exact List.map_congr_left fun p hp => pick_val hX hp (h p hp)
theorem plop_abs (v : Int) : 0 ≤ plI v ∧ plI v ≤ v.natAbs ∧ opI v ≤ 0 ∧ -(v.natAbs : Int) ≤ opI v := by
 unfold plI opI;split <;> omega
theorem PS_ASm (X : List Int) : ∀ l : List TZ, 0 ≤ PS X l ∧ PS X l ≤ AS X l ∧ OS X l ≤ 0 ∧ -AS X l ≤ OS X l
 | [] => by simp [PS, OS, AS, sumL]
 | t :: l => by
  have h1 := PS_ASm X l;have h2 := plop_abs (tv X t);simp only [PS, AS, OS, List.map_cons, sumL] at h1 ⊢;omega
theorem EvOk.ofA {X : List Int} {p : PZ} (h : Fit (AS X p.terms)) : EvOk X p := by
 have h1 := PS_ASm X p.terms;exact ⟨h.le (by omega), h.le (by omega)⟩
theorem evL_linkU {V : Nat} {X : List Int} (hX : X.length = V) {kind : Int} {ls : List (List UT)} (h : ∀ p ∈ ls, nnU V p) (hf : ∀ p ∈ ls, Fit (auv X p)) : EvL X (linkU V kind ls) := by
 intro q hq;obtain ⟨p, hp, rfl⟩ := List.mem_map.1 hq;refine EvOk.ofA ?_;show Fit (AS (atOf X ((occL V ls).map fun (i : Nat) => (i : Int))) (mkP (occL V ls).length (pickU (occL V ls) p)).terms);rw [pick_abs hX hp (h p hp)];exact hf p hp
def okLU (V : Nat) (kind : Int) (ls : List (List UT)) : Bool :=
  decide (needI kind ≠ 0) && decide ((ls.length : Int) = needI kind) && ls.all (fun p => chkU (occL V ls).length (pickU (occL V ls) p) (pickU (occL V ls) p) && p.all (okU V))
theorem incB_range (P : Nat → Bool) : ∀ (n k : Nat) (last top : Int), last < k → ((k + n : Nat) : Int) ≤ top → incB last top (((List.range' k n).filter P).map fun (i : Nat) => (i : Int))
 | 0, _, _, _, _, _ => by simp [incB]
 | n + 1, k, last, top, h1, h2 => by
  rw [List.range'_succ, List.filter_cons];by_cases hp : P k = true
  ·rw [if_pos hp];simp only [List.map_cons, incB];exact ⟨h1, by omega, incB_range P n (k + 1) k top (by omega) (by omega)⟩
  ·rw [if_neg hp];exact incB_range P n (k + 1) last top (by omega) (by omega)
theorem okLU_ok {V : Nat} (hV : V ≤ 32) {kind : Int} {ls : List (List UT)} (h : okLU V kind ls = true) : OkL V (linkU V kind ls) ∧ WL (linkU V kind ls) ∧ ∀ p ∈ ls, nnU V p := by
 simp only [okLU, Bool.and_eq_true, decide_eq_true_eq, List.all_eq_true] at h;obtain ⟨⟨h1, h2⟩, h3⟩ := h
 have hn : (occL V ls).length ≤ V := by
  unfold occL;exact Nat.le_trans (List.length_filter_le _ _) (by simp)
 refine ⟨⟨h1, by simp only [linkU, List.length_map]; exact h2, by simp only [linkU, List.length_map]; omega, ?_, fun q hq => ?_⟩, fun q hq => ?_, fun p hp u hu => okU_ok ((h3 p hp).2 u hu)⟩
 ·have := incB_range (occP ls) V 0 (-1) V (by omega) (by omega);rw [← List.range_eq_range'] at this;exact this
 ·obtain ⟨p, hp, rfl⟩ := List.mem_map.1 hq;obtain ⟨a, b, c⟩ := mk_ok (V := (occL V ls).length) (by omega) (h3 p hp).1;exact ⟨by simp [linkU, mkP], a⟩
 ·obtain ⟨p, hp, rfl⟩ := List.mem_map.1 hq;exact (mk_ok (V := (occL V ls).length) (by omega) (h3 p hp).1).2.2
end Go.AL
/- define.Equations: the system. Written by gen_df.py. -/
namespace Go.AL
def df0 : List UT := sumsU [] [varU 16 14, conU 16 2]
def df1 : List UT := subL (varU 16 0) df0
def df2 : List UT := sumsU [] [varU 16 15, conU 16 1]
def df3 : List UT := subL (varU 16 1) df2
def df4 : List UT := mulsU (conU 16 1) [varU 16 0, varU 16 0]
def df5 : List UT := subL df4 (conU 16 1)
def df6 : List UT := mulsU (conU 16 1) [df5, varU 16 2, varU 16 2]
def df7 : List UT := sumsU [] [df6, conU 16 1]
def df8 : List UT := subL (varU 16 3) df7
def df9 : List UT := sumsU [] [varU 16 9, conU 16 1]
def df10 : List UT := mulsU (conU 16 1) [conU 16 2, df9, varU 16 2, varU 16 2, varU 16 3]
def df11 : List UT := subL (varU 16 4) df10
def df12 : List UT := mulsU (conU 16 1) [varU 16 0, varU 16 0]
def df13 : List UT := subL df12 (conU 16 1)
def df14 : List UT := mulsU (conU 16 1) [df13, varU 16 4, varU 16 4]
def df15 : List UT := sumsU [] [df14, conU 16 1]
def df16 : List UT := subL (varU 16 5) df15
def df17 : List UT := subL (varU 16 5) (varU 16 0)
def df18 : List UT := mulsU (conU 16 1) [varU 16 5, df17]
def df19 : List UT := sumsU [] [varU 16 0, df18]
def df20 : List UT := subL (varU 16 6) df19
def df21 : List UT := mulsU (conU 16 1) [conU 16 2, varU 16 10, varU 16 2]
def df22 : List UT := sumsU [] [varU 16 1, df21]
def df23 : List UT := subL (varU 16 7) df22
def df24 : List UT := mulsU (conU 16 1) [varU 16 6, varU 16 6]
def df25 : List UT := subL df24 (conU 16 1)
def df26 : List UT := mulsU (conU 16 1) [df25, varU 16 7, varU 16 7]
def df27 : List UT := sumsU [] [df26, conU 16 1]
def df28 : List UT := subL (varU 16 8) df27
def df29 : List UT := mulsU (conU 16 1) [varU 16 3, varU 16 5, varU 16 8]
def df30 : List UT := mulsU (conU 16 1) [varU 16 13, varU 16 13]
def df31 : List UT := subL df29 df30
def df32 : List UT := mulsU (conU 16 1) [varU 16 5, varU 16 11]
def df33 : List UT := sumsU [] [varU 16 2, df32]
def df34 : List UT := subL (varU 16 7) df33
def df35 : List UT := sumsU [] [varU 16 1, varU 16 12]
def df36 : List UT := subL (varU 16 2) df35
def dfS : SZ := ⟨16, [linkU 16 0 [df1], linkU 16 0 [df3], linkU 16 0 [df8], linkU 16 0 [df11], linkU 16 0 [df16], linkU 16 0 [df20], linkU 16 0 [df23], linkU 16 0 [df28], linkU 16 0 [df31], linkU 16 0 [df34], linkU 16 0 [df36]]⟩
section
variable {P : Program} {tab : Tab} {n : Nat} {s : St}
variable {ops : Array Oper} {draw : Dr} {o : Oper} {l : List Oper} {acc : List Eff} {K : Exit → St → Prop}
theorem Fl.ixPn [f : Facts P tab] {t : TypeId} {x y : Operand} (hop : o.op = .indexAddr t x y) {e : TypeId} {i : TI} {len sz' by' : Nat} {z : List Value} (hts : tab t = some ⟨.array len e, sz', by', z⟩) (hti : tab e = some i) {b : Id} {off : Nat} (hx : opd s x = .ptr b off) {k : IntKind} {m : Int} (hy : opd s y = .v (.int k m)) {q : Nat} (hq : off + m.toNat * i.size = q) (hg : gOk ops s o = true) (hd : dOk n o.dst = true) (h1 : (decide (0 ≤ m) && decide (m.toNat < len)) = true)
  (r : Fl P n ops draw l ((Eff.mk (.ptr b q) [] [] [] []).app o.dst s) (Eff.mk (.ptr b q) [] [] [] [] :: acc) K) : Fl P n ops draw (o :: l) s acc K := by
 simp only [Bool.and_eq_true, decide_eq_true_eq] at h1;exact Fl.ixP hop hts hti hx hy m.toNat (by omega) hq hg hd h1.2 r
end
def dfX : Nat → List (List AV)
  | 0 => List.replicate 16 [aN 0, .v (.slice none 0 0)]
  | n + 1 => (dfX n).set n (eP (mkP 16 (varU 16 n)))
end Go.AL
namespace Go.Proofs.YtcaecieigoplbaaGreat
open Go.AL
theorem kEqS {p q : List UT} (hp : chkU 16 p p = true) (hq : chkU 16 q q = true) (h : chkU 16 (addUs (-1) p q) (subL p q) = true) (hl : okLk 16 [subL p q] = true) : PureFn Tryz.prog 69 [aK 16, aP (mkP 16 p), aP (mkP 16 q)] (aL (linkU 16 0 [subL p q])) := kEq_ok 16 (by omega) p q (subL p q) hp hq h (okLk_ok (V := 16) (ls := [subL p q]) hl _ (by simp))
theorem kSubS {p q : List UT} (hp : chkU 16 p p = true) (hq : chkU 16 q q = true) (h : chkU 16 (addUs (-1) p q) (subL p q) = true) : PureFn Tryz.prog 93 [aK 16, aP (mkP 16 p), aP (mkP 16 q)] (aP (mkP 16 (subL p q))) := kSub_ok 16 (by omega) p q (subL p q) hp hq h
theorem dfPell_ok (p q l2 l : List UT) (hp : chkU 16 p p = true) (hm : okMuls 16 (conU 16 1) [p, p] = true) (h1 : chkU 16 (mulsU (conU 16 1) [p, p]) (mulsU (conU 16 1) [p, p]) = true) (hs : chkU 16 (addUs (-1) (mulsU (conU 16 1) [p, p]) (conU 16 1)) l2 = true) (hm2 : okMuls 16 (conU 16 1) [l2, q, q] = true) (ha : okSums 16 [] [mulsU (conU 16 1) [l2, q, q], conU 16 1] = true) (hl : sumsU [] [mulsU (conU 16 1) [l2, q, q], conU 16 1] = l) : IoFn Tryz.prog 119 [aP (mkP 16 p), aP (mkP 16 q), .ptr 900 0, .ptr 901 0] [(900, .cells [aN 16] 84), (901, .cells (eP (mkP 16 (conU 16 1))) 70)] (.ret (aP (mkP 16 l))) [(900, .cells [aN 16] 84), (901, .cells (eP (mkP 16 (conU 16 1))) 70)] := by
 subst hl;refine IoFn.of_body Tryz.func119 rfl Tryz.ntmps119 rfl rfl rfl ?_;refine AWP.seqS ?_;(repeat' (first |apply qn |apply qr |refine qe ?_|fail));refine ⟨?_⟩;(repeat' (first |refine qv ?_ |apply qs |apply qr));refine ql eP [mkP 16 p, mkP 16 p] ?_;skip;refine qc (kMul_ok 16 (by omega) [p, p] (by simp) hm) ?_;(repeat' (first |refine qv ?_|fail));refine qc (kSub_ok 16 (by omega) (mulsU (conU 16 1) [p, p]) (conU 16 1) l2 h1 (by kernel_rfl) hs) ?_;(repeat' (first |refine qv ?_|fail));refine ql eP [mkP 16 l2, mkP 16 q, mkP 16 q] ?_;skip;refine qc (kMul_ok 16 (by omega) [l2, q, q] (by simp) hm2) ?_;(repeat' (first |refine qv ?_|fail));refine ql eP [mkP 16 (mulsU (conU 16 1) [l2, q, q]), mkP 16 (conU 16 1)] ?_;skip;refine qc (kAdd_ok 16 (by omega) [mulsU (conU 16 1) [l2, q, q], conU 16 1] (by simp) ha) ?_;(repeat' (first |refine Fl.nil (fun _ => by kernel_rfl) ?_ |refine qe ?_ |apply qt));exact ⟨⟨[], _, _, Ent.refl _ _ _, rfl, AV.Le.refl _, rfl, ⟨⟨⟨_, rfl, BLe.cells (LeL.refl _)⟩, rfl⟩, ⟨⟨_, rfl, BLe.cells (LeL.refl _)⟩, rfl⟩, trivial⟩, rfl, rfl⟩⟩
theorem dfPellS {p q : List UT} (hp : chkU 16 p p = true) (hm : okMuls 16 (conU 16 1) [p, p] = true) (h1 : chkU 16 (mulsU (conU 16 1) [p, p]) (mulsU (conU 16 1) [p, p]) = true) (hs : chkU 16 (addUs (-1) (mulsU (conU 16 1) [p, p]) (conU 16 1)) (subL (mulsU (conU 16 1) [p, p]) (conU 16 1)) = true) (hm2 : okMuls 16 (conU 16 1) [subL (mulsU (conU 16 1) [p, p]) (conU 16 1), q, q] = true) (ha : okSums 16 [] [mulsU (conU 16 1) [subL (mulsU (conU 16 1) [p, p]) (conU 16 1), q, q], conU 16 1] = true) : IoFn Tryz.prog 119 [aP (mkP 16 p), aP (mkP 16 q), .ptr 900 0, .ptr 901 0] [(900, .cells [aN 16] 84), (901, .cells (eP (mkP 16 (conU 16 1))) 70)] (.ret (aP (mkP 16 (sumsU [] [mulsU (conU 16 1) [subL (mulsU (conU 16 1) [p, p]) (conU 16 1), q, q], conU 16 1])))) [(900, .cells [aN 16] 84), (901, .cells (eP (mkP 16 (conU 16 1))) 70)] := dfPell_ok p q _ _ hp hm h1 hs hm2 ha rfl
set_option maxHeartbeats 8000000 in
set_option maxRecDepth 20000 in
theorem dfEq_ok : PureFn Tryz.prog 49 [] (aS dfS) := by
 refine PureFn.of_body Tryz.func49 rfl Tryz.ntmps49 rfl rfl ?_;refine AWP.seqS ?_;(repeat' (first |apply qn |apply qr |refine qe ?_|fail));refine ⟨AWP.seqS ?_⟩;(repeat' (first |apply qr));refine qc (kNew_ok 16) ?_;(repeat' (first |apply qn |refine qe ?_|fail));refine ⟨AWP.seqS ?_⟩;(repeat' (first |apply qn |apply qr |refine qe ?_|fail));refine ⟨AWP.seqS ?_⟩;(repeat' (first |refine qv ?_ |apply qn |apply qs |apply qr |apply qb));refine AWP.loop (G := Nat) (fun i => i ≤ 16) (fun i => St.of [] [(0, .ptr 0 0), (1, .ptr 1 0), (2, .ptr 2 0), (7, aN i)] [(0, .cells [aN 0, .v (.slice none 0 0)] 25), (1, .cells [aN 16] 84), (2, .cells (dfX i).flatten 120)]) (fun i => 16 - i) 0 (by omega) ?_ ?_
 ·refine Ent.of [] ?_ ?_ rfl rfl;(repeat' (first |exact True.intro |refine ⟨⟨AV.Le.refl _, rfl⟩, ?_⟩ |refine ⟨⟨⟨_, rfl, BLe.cells (LeL.refl _)⟩, rfl⟩, ?_⟩|fail))
 ·intro i hi;rcases (show i = 16 ∨ i < 16 by omega) with h | h
  ·subst h;(repeat' (first |refine qv ?_ |apply qn |apply qs |apply qr |refine AWP.condF rfl ?_ |apply qx));refine ⟨AWP.seqS ?_⟩;(repeat' (first |refine qv ?_ |apply qr));refine qc (kN_ok 16 1 (by omega) (by omega) (by omega)) ?_;(repeat' (first |apply qn |refine qe ?_|fail));refine ⟨AWP.seqS ?_⟩;(repeat' (first |refine qv ?_ |apply qn |apply qr));refine ⟨AWP.seqS ?_⟩;refine AWP.regionJ [(1, 0, [aN 16]), (4, 0, eP (mkP 16 (conU 16 1))), (2, 0, eP (mkP 16 (varU 16 0))), (2, 2, eP (mkP 16 (varU 16 1))), (2, 4, eP (mkP 16 (varU 16 2))), (2, 6, eP (mkP 16 (varU 16 3))), (2, 8, eP (mkP 16 (varU 16 4))), (2, 10, eP (mkP 16 (varU 16 5))), (2, 12, eP (mkP 16 (varU 16 6))), (2, 14, eP (mkP 16 (varU 16 7))), (2, 16, eP (mkP 16 (varU 16 8))), (2, 18, eP (mkP 16 (varU 16 9))), (2, 20, eP (mkP 16 (varU 16 10))), (2, 22, eP (mkP 16 (varU 16 11))), (2, 24, eP (mkP 16 (varU 16 12))), (2, 26, eP (mkP 16 (varU 16 13))), (2, 28, eP (mkP 16 (varU 16 14))), (2, 30, eP (mkP 16 (varU 16 15)))] (InvJ.cons ⟨_, _, rfl, rfl⟩ (InvJ.cons ⟨_, _, rfl, rfl⟩ (InvJ.cons ⟨_, _, rfl, rfl⟩ (InvJ.cons ⟨_, _, rfl, rfl⟩ (InvJ.cons ⟨_, _, rfl, rfl⟩ (InvJ.cons ⟨_, _, rfl, rfl⟩ (InvJ.cons ⟨_, _, rfl, rfl⟩ (InvJ.cons ⟨_, _, rfl, rfl⟩ (InvJ.cons ⟨_, _, rfl, rfl⟩ (InvJ.cons ⟨_, _, rfl, rfl⟩ (InvJ.cons ⟨_, _, rfl, rfl⟩ (InvJ.cons ⟨_, _, rfl, rfl⟩ (InvJ.cons ⟨_, _, rfl, rfl⟩ (InvJ.cons ⟨_, _, rfl, rfl⟩ (InvJ.cons ⟨_, _, rfl, rfl⟩ (InvJ.cons ⟨_, _, rfl, rfl⟩ (InvJ.cons ⟨_, _, rfl, rfl⟩ (InvJ.cons ⟨_, _, rfl, rfl⟩ (InvJ.nil _))))))))))))))))))) ?_;(repeat' (first | refine Fl.ldJ rfl rfl rfl rfl rfl rfl rfl rfl ?_ | refine Fl.v rfl rfl rfl ?_ | refine Fl.ixPn rfl rfl rfl rfl rfl rfl rfl rfl rfl ?_ | refine Fl.call rfl (kN_ok 16 _ (by omega) (by omega) (by omega)) rfl rfl rfl (LeL.refl _) ?_ | refine Fl.call rfl (kAdd_ok 16 (by omega) [_, _] (by simp) (by kernel_rfl)) rfl rfl rfl (LeL.refl _) ?_ | refine Fl.call rfl (kMul_ok 16 (by omega) [_, _] (by simp) (by kernel_rfl)) rfl rfl rfl (LeL.refl _) ?_ | refine Fl.call rfl (kMul_ok 16 (by omega) [_, _, _] (by simp) (by kernel_rfl)) rfl rfl rfl (LeL.refl _) ?_ | refine Fl.call rfl (kMul_ok 16 (by omega) [_, _, _, _, _] (by simp) (by kernel_rfl)) rfl rfl rfl (LeL.refl _) ?_ | refine Fl.call rfl (kSubS (by kernel_rfl) (by kernel_rfl) (by kernel_rfl)) rfl rfl rfl (LeL.refl _) ?_ | refine Fl.call rfl (kEqS (by kernel_rfl) (by kernel_rfl) (by kernel_rfl) (by kernel_rfl)) rfl rfl rfl (LeL.refl _) ?_ | refine Fl.ioV rfl rfl [(900, 1), (901, 4)] (dfPellS (by kernel_rfl) (by kernel_rfl) (by kernel_rfl) (by kernel_rfl) (by kernel_rfl) (by kernel_rfl)) rfl rfl (LeL.refl _) rfl ⟨⟨⟨_, rfl, BLe.cells (LeL.refl _)⟩, rfl⟩, ⟨⟨_, rfl, BLe.cells (LeL.refl _)⟩, rfl⟩, trivial⟩ rfl rfl rfl rfl rfl ?_ | refine Fl.lit rfl rfl rfl rfl rfl eP [mkP 16 _, mkP 16 _] rfl rfl rfl rfl (by intro _ _; rfl) rfl ?_ | refine Fl.lit rfl rfl rfl rfl rfl eP [mkP 16 _, mkP 16 _, mkP 16 _] rfl rfl rfl rfl (by intro _ _; rfl) rfl ?_ | refine Fl.lit rfl rfl rfl rfl rfl eP [mkP 16 _, mkP 16 _, mkP 16 _, mkP 16 _, mkP 16 _] rfl rfl rfl rfl (by intro _ _; rfl) rfl ?_ | refine Fl.lit rfl rfl rfl rfl rfl eL [linkU 16 0 _, linkU 16 0 _, linkU 16 0 _, linkU 16 0 _, linkU 16 0 _, linkU 16 0 _, linkU 16 0 _, linkU 16 0 _, linkU 16 0 _, linkU 16 0 _, linkU 16 0 _] rfl rfl rfl rfl (by intro _ _; rfl) rfl ?_ | refine Fl.b rfl rfl rfl rfl ?_ | fail));(repeat' (first |refine Fl.nil (fun _ => by kernel_rfl) ?_|fail));refine ⟨?_⟩;(repeat' (first |apply qt));refine RetOk.of rfl (AV.Le.agg (LeL.cons (AV.Le.refl _) (LeL.cons (AV.Le.sl ?_) LeL.nil)));kernel_rfl
  ·(repeat' (first |refine qv ?_ |apply qn |apply qs |apply qr |(refine AWP.condD rfl ?_ ?_ <;> intro _ <;> try (exfalso; omega)) |apply qb |apply qk));refine qc (kV_ok 16 i (by omega) h) ?_;skip;refine Fl.ixP rfl rfl rfl rfl rfl i rfl rfl rfl rfl h ?_;obtain ⟨j, hj⟩ : ∃ j, j = i + 1 := ⟨_, rfl⟩;rcases (show i = 0 ∨ i = 1 ∨ i = 2 ∨ i = 3 ∨ i = 4 ∨ i = 5 ∨ i = 6 ∨ i = 7 ∨ i = 8 ∨ i = 9 ∨ i = 10 ∨ i = 11 ∨ i = 12 ∨ i = 13 ∨ i = 14 ∨ i = 15 by omega) with rfl | rfl | rfl | rfl | rfl | rfl | rfl | rfl | rfl | rfl | rfl | rfl | rfl | rfl | rfl | rfl
   all_goals
    (repeat' (first |refine qv ?_ |apply qn |apply qr |refine qw ?_ |refine qe ?_|fail));refine LoopEnd.of j (by omega) (by omega) ?_;subst hj;refine Ent.of [] ?_ ?_ rfl rfl;(repeat' (first |exact True.intro |refine ⟨⟨AV.Le.refl _, rfl⟩, ?_⟩ |refine ⟨⟨⟨_, rfl, BLe.cells (LeL.refl _)⟩, rfl⟩, ?_⟩|fail))
end Go.Proofs.YtcaecieigoplbaaGreat
/- Code in a round of a range over a function: over abstract states. -/
namespace Go.AL
abbrev Rf (l : Nat) : Fence := Fence.wide.inRound l
def noDefer (ops : Array Oper) : Bool := ops.toList.all fun o => match o.op with | .defer _ => false | _ => true
theorem noDefer_ok {ops : Array Oper} (h : noDefer ops = true) {i : Nat} {o : Oper} (ho : ops[i]? = some o) : ∀ c, o.op ≠ .defer c := by
 intro c hc
 have hm : o ∈ ops.toList := by
  have : ops.toList[i]? = some o := by simpa using ho
  exact List.mem_of_getElem? this
 have := List.all_eq_true.1 h o hm;rw [hc] at this
 cases this
section
variable {P : Program} {n : Nat} {l : Nat}
theorem opIn {o : Oper} {a : Act} {w : World} {next next' : Act → World → Prop} {Q : Exit → Act → World → Prop} (hnd : ∀ c, o.op ≠ .defer c) (hn : ∀ a w, next a w → next' a w) (h : o.wp P a w next Q) : o.wpIn (Rf l) 0 P a w next' Q := by
 refine ⟨fun _ _ => trivial, ?_⟩;show o.uponIn (Rf l) 0 P a next' Q ((o.semAt (some l) a.eval).run P w);rw [Oper.semAt_eq _ _ _ hnd];unfold Oper.wp at h
 cases hr : (execOp a.eval o).run P w with
 | ok r w' =>
  rw [hr] at h
  cases r with
  | value v => exact hn _ _ h
  | skip => exact hn _ _ h
  | defer d => exact hn _ _ h
  | enter f args =>
   refine ⟨fun hd => (by cases hd), ?_⟩;refine CallsIn.inRound l (callsIn_wide.2 (Calls.mono h fun e w'' hh => ?_))
   cases e with
   | returned v => exact hn _ _ hh
   | panicked ch => exact hh
   | outgrown => exact hh
  | row row args =>
   refine ⟨fun hd => (by cases hd), ?_⟩;exact fun c cs _ => let ⟨v, w'', r, st⟩ := h c cs; ⟨v, w'', hn _ _ r, stepsIn_wide.2 st⟩
  | _ => exact h.elim
 | halt r w' =>
  rw [hr] at h
  cases r with
  | panic v => exact h
  | _ => exact h.elim
theorem wpOps_in {ops : Array Oper} {Q : Exit → Act → World → Prop} (hnd : noDefer ops = true) (hQ : ¬ LetsOut Q) : ∀ (is : List Nat) (a : Act) (w : World), wpOps P ops Q is a w → wpOpsIn (Rf l) 0 P ops Q is a w
 | [], a, w, h => h
 | i :: is, a, w, h => by
  unfold wpOps at h;unfold wpOpsIn
  cases ho : ops[i]? with
  | none => rw [ho] at h; exact wpOps_in hnd hQ is a w h
  | some o =>
   rw [ho] at h;dsimp only at h ⊢;split
   ·rename_i hw;rw [if_pos hw] at h;rcases h with h | ⟨_, h⟩
    ·exact opIn (noDefer_ok hnd ho) (fun a w => wpOps_in hnd hQ is a w) h
    ·exact absurd h hQ
   ·rename_i hw;rw [if_neg hw] at h;exact ⟨fun _ _ => trivial, wpOps_in hnd hQ is _ w h⟩
end
end Go.AL
/- Code in a round, over abstract states; code that leaves marks of loops behind. -/
namespace Go.AL
def ownM (s : St) (β : Bt) : Nat → Prop := fun g => ∃ id B, s.bx id = some B ∧ blk (β id) = some g
section
variable {P : Program} {tab : Tab} {n : Nat} {I : List Id} {Q : Exit → St → Prop} {s s' : St} {C : Cx} {a a' : Act} {w w' : World} {h h' : Hp} {β β' : Bt}
theorem Base.reroot (k : Base C n s a w h β) (d : List Deferred) {β0 : Bt} (hb : β0.le β) : Base ⟨w, h, β0, ownM s β, d⟩ n s { a with defers := d } w h β :=
 ⟨Evo.refl _ k.evo.has, hb, k.slot, k.box, k.apart, fun id B _ h1 h2 => .inl ⟨id, B, h1, h2⟩, k.dom, k.size, rfl⟩
theorem Base.unroot (k : Base C n s a w h β) {d : List Deferred} {β0 : Bt} (h0 : C.β0.le β0) (r : Base ⟨w, h, β0, ownM s β, d⟩ n s' a' w' h' β') : Base { C with dfr := d } n s' a' w' h' β' := by
 have hown : ∀ g, ownM s β g → C.M g ∨ C.w0.heap.size ≤ g := fun g ⟨id, B, h1, h2⟩ => k.own id B g h1 h2;refine ⟨k.evo.trans r.evo hown, Bt.le.trans h0 r.b0, r.slot, r.box, r.apart, fun id B g h1 h2 => ?_, r.dom, r.size, r.defers⟩;rcases r.own id B g h1 h2 with hg | hg
 ·exact hown g hg
 ·exact .inr (Nat.le_trans k.evo.size hg)
theorem BoxAt.obj {id : Id} {B : Bx} (k : BoxAt w h β id B) {g : Nat} (hg : blk (β id) = some g) : (∀ ds, w.heap[g]? ≠ some (.deferred ds)) ∧ (∀ r, w.heap[g]? ≠ some (.loop r)) := by
 cases B with
 | cells cs t =>
  obtain ⟨g', us, e1, e2, _⟩ := k;rw [e1] at hg; simp only [blk] at hg; injection hg with hg; subst hg;rw [e2]; exact ⟨fun _ h => (by cases h), fun _ h => (by cases h)⟩
 | row sz enc xs t =>
  obtain ⟨v, vals, e1, ⟨_, e2 | ⟨g', cap, cur, e2, _, e3, _⟩⟩, _⟩ := k
  ·rw [e1, e2.1] at hg; simp [blk] at hg
  ·rw [e1, e2] at hg; simp only [blk] at hg; injection hg with hg; subst hg;rw [e3]; exact ⟨fun _ h => (by cases h), fun _ h => (by cases h)⟩
 | map ek av xs clock =>
  obtain ⟨g', es, e1, e2, _⟩ := k;rw [e1] at hg; simp only [blk] at hg; injection hg with hg; subst hg;rw [e2]; exact ⟨fun _ h => (by cases h), fun _ h => (by cases h)⟩
 | iter m since seen last =>
  obtain ⟨r, g', e1, _, e2, _⟩ := k;rw [e1] at hg; simp only [blk] at hg; injection hg with hg; subst hg;rw [e2]; exact ⟨fun _ h => (by cases h), fun _ h => (by cases h)⟩
theorem Base.not_own (k : Base C n s a w h β) {D : Nat} (hD : (∃ ds, w.heap[D]? = some (.deferred ds)) ∨ (∃ r, w.heap[D]? = some (.loop r))) : ¬ ownM s β D := by
 rintro ⟨id, B, h1, h2⟩;obtain ⟨h3, h4⟩ := (k.box id B h1).obj h2;rcases hD with ⟨ds, hd⟩ | ⟨r, hd⟩
 ·exact h3 _ hd
 ·exact h4 _ hd
/-! ### In a round -/
structure RWP (P : Program) (n : Nat) (I : List Id) (l : Nat) (c : Code) (Q : Exit → St → Prop) (s : St) : Prop where
  out : ∀ (C : Cx) (a : Act) (w : World) (h : Hp) (β : Bt), IniOk C I → Base C n s a w h β → c.wpIn (Rf l) 0 P (fun e a' w' => ∃ s' h' β', Base C n s' a' w' h' β' ∧ Q e s') a w
variable {l : Nat}
theorem RWP.ent {c : Code} (he : Ent n I s s') (k : RWP P n I l c Q s') : RWP P n I l c Q s :=
 ⟨fun C a w hp β hi b => let ⟨h', β', b'⟩ := he C a w hp β hi b; k.out C a w h' β' hi b'⟩
theorem RWP.seq {c d : Code} (k : RWP P n I l c (AThen (fun s => RWP P n I l d Q s) Q) s) : RWP P n I l (.seq c d) Q s :=
 ⟨fun C a w hp β hi b => wpIn_seq (wpIn_mono (k.out C a w hp β hi b) fun e a w ⟨s', h', β', b, q⟩ => by
  cases e with
  | normal => exact q.out C a w h' β' hi b
  | _ => exact ⟨s', h', β', b, q⟩)⟩
theorem RWP.skip (k : Q .normal s) : RWP P n I l .skip Q s := ⟨fun _ _ _ hp β _ b => wpIn_skip ⟨s, hp, β, b, k⟩⟩
theorem RWP.ret (k : Q .ret s) : RWP P n I l .ret Q s := ⟨fun _ _ _ hp β _ b => wpIn_ret ⟨s, hp, β, b, k⟩⟩
theorem RWP.exit {id : Nat} (k : Q (.exit id) s) : RWP P n I l (.exit id) Q s := ⟨fun _ _ _ hp β _ b => wpIn_exit ⟨s, hp, β, b, k⟩⟩
theorem RWP.block {id : Nat} {c : Code} (k : RWP P n I l c (AIn id Q) s) : RWP P n I l (.block id c) Q s :=
 ⟨fun C a w hp β hi b => wpIn_block (wpIn_mono (k.out C a w hp β hi b) fun e a w ⟨s', h', β', b, q⟩ => by
  cases e with
  | exit id' =>
   simp only [Exit.inBlock];by_cases he : id' = id
   ·subst he;rw [if_pos rfl];simp only [AIn, Nat.beq_refl] at q;exact ⟨s', h', β', b, q⟩
   ·rw [if_neg he];simp only [AIn, beq_ne he] at q;exact ⟨s', h', β', b, q⟩
  | _ => exact ⟨s', h', β', b, q⟩)⟩
theorem RWP.condD {c : Operand} {x y : Code} {p : Prop} [Decidable p] (hc : opd s c = .v (.bool (decide p))) (ht : p → RWP P n I l x Q s) (hf : ¬ p → RWP P n I l y Q s) : RWP P n I l (.cond c x y) Q s :=
 ⟨fun C a w hp β hi b => wpIn_cond_split (eval_bool b hc) (fun e => (ht (of_decide_eq_true e)).out C a w hp β hi b) (fun e => (hf (of_decide_eq_false e)).out C a w hp β hi b)⟩
theorem RWP.region [f : Facts P tab] {id : Nat} {ops : Array Oper} {draw : Bool} {K : St → Prop} (hnd : noDefer ops = true) (hQ : ∀ s, K s → Q .normal s) (k : Fl P n ops ⟨draw, []⟩ ops.toList s [] (fun e s => e = .normal ∧ K s)) : RWP P n I l (.region id ops draw) Q s := by
 have hno : ∀ (l : List Oper) (Es : List Eff) (i : Nat) (s : St), appAll (fun i => (Array.replicate ops.size false).getD i false) i l Es s = s := by
  intro l Es i s;refine appAll_none _ l Es i s fun k _ => ?_;by_cases hk : k < ops.size <;> simp [Array.getD_eq_getD_getElem?, hk]
 have hclo : Closed ops (fun i => (Array.replicate ops.size false).getD i false) := by
  intro j o hj hd;have : j < ops.size := (Array.getElem?_eq_some_iff.1 hj).1;simp [Array.getD_eq_getD_getElem?, this] at hd
 have hcnt : cnt ops.size (fun i => (Array.replicate ops.size false).getD i false) ≤ ops.size := by
  have : ∀ (m : Nat) (D : Nat → Bool), cnt m D ≤ m := by
   intro m D
   induction m with
   | zero => simp [cnt]
   | succ m ih => simp only [cnt]; cases D m <;> simp <;> omega
  exact this _ _
 rcases k.out with ⟨Es, s', hch, hck, _, hK⟩ | ⟨l1, o, l2, Es, s', E, chain, hl, hch, hg, hthr, hck, hQt, hQf⟩
 ·refine ⟨fun C a w hp β hi b => ?_⟩
  have hlo : ¬ LetsOut (fun (e : Exit) (a' : Act) (w' : World) => e = .normal ∧ ∃ h' β', Base C n s' a' w' h' β') := fun ⟨_, _, e, _⟩ => by cases e
  have fin : ∀ (e : Exit) (a' : Act) (w' : World), (e = .normal ∧ ∃ h' β', Base C n s' a' w' h' β') → ∃ s' h' β', Base C n s' a' w' h' β' ∧ Q e s' := fun e a' w' ⟨he, h', β', b'⟩ => ⟨s', h', β', b', by rw [he]; exact hQ _ hK⟩
  cases draw with
  | false =>
   refine wpIn_mono (wpIn_region (wpOps_in hnd hlo _ _ _ ?_)) fin;have := wp_seq_ops (C := C) (Q := fun (e : Exit) (a' : Act) (w' : World) => e = .normal ∧ ∃ h' β', Base C n s' a' w' h' β') hch [] (InvJ.nil _) (List.range ops.size) a w hp β (by simp) (fun j i o h1 h2 => ?_) b (fun a w h β _ b => ⟨rfl, h, β, b⟩)
   ·rwa [List.append_nil] at this
   ·have hji : j = i ∧ j < ops.size := by
     rw [List.getElem?_range] at h1
     ·injection h1 with h1; exact ⟨h1, by
       have := (List.getElem?_eq_some_iff.1 h2).1
       simpa using this⟩
     ·have := (List.getElem?_eq_some_iff.1 h2).1;simpa using this
    rw [← hji.1]; simpa using h2
  | true =>
   refine wpIn_mono (wpIn_region_draw fun t => wpOps_in hnd hlo _ _ _ ?_) fin;simp only [Region.schedule, f.mixed, Bool.true_or, if_true];refine wpAny_sound ops.size t _ a _ (any_sound (C := C) (s' := s') (InvJ.nil _) hch (by simpa using hck rfl) (fun a w h β b => ⟨rfl, h, β, b⟩) ops.size _ a _ hp β (by simp) hclo hcnt ?_);rw [hno];exact b.drew
 ·cases draw with
  | false => exact absurd (hQf rfl).1 (by simp)
  | true => exact absurd (hQt rfl s).1 (by simp)
end
end Go.AL
/- Functions whose loops leave marks behind. -/
namespace Go.AL
section
variable {P : Program} {tab : Tab} {n : Nat} {I : List Id} {Q : Exit → St → Prop} {s s' : St} {C : Cx} {a a' : Act} {w w' : World} {h h' : Hp} {β β' : Bt}
theorem Base.stepN (k : Base C n s a w h β) {N : Nat → Prop} (e : Evo N w h w' h') (hN : ∀ g, N g → C.M g ∨ C.w0.heap.size ≤ g) (hd : ∀ g, N g → ¬ ownM s β g) : Base C n s a w' h' β := by
 refine ⟨k.evo.trans e hN, k.b0, fun i => (k.slot i).mono e.le (Bt.le.refl β), fun id B hb => ?_, k.apart, k.own, k.dom, k.size, k.defers⟩;refine (k.box id B hb).keep e.le (Bt.le.refl β) fun g hg => ?_;obtain ⟨h1, h2⟩ := k.blk_lt hb hg;have hng : ¬ N g := fun hn => hd g hn ⟨id, B, hb, hg⟩;refine ⟨e.block g h1 hng, ?_⟩
 cases hh : h' g with
 | none => rfl
 | some cs =>
  exfalso;rcases e.fresh g (by rw [hh]; simp) with h3 | h3 | h3
  ·exact h3 h2
  ·omega
  ·exact hng h3
theorem evo_mark {D : Nat} {o o' : Obj} (hw : Has w h) (hD : w.heap[D]? = some o) (ho : ∀ us t f, o ≠ .cells us t f) : Evo (fun g => g = D) w h (w.putObj D o') h := by
 have hlt : D < w.heap.size := (Array.getElem?_eq_some_iff.1 hD).1
 have hn : h D = none := by
  cases hh : h D with
  | none => rfl
  | some cs =>
   obtain ⟨t, f, h1⟩ := hw D cs hh;rw [hD] at h1;injection h1 with h1;exact absurd h1 (ho _ _ _)
 refine ⟨rfl, rfl, ⟨rfl, Nat.le_refl _⟩, by simp, fun i _ hi => World.putObj_heap_other hi, Hp.le.refl h, fun _ hb => .inl hb, fun b cs hb => ?_⟩;obtain ⟨t, f, h1⟩ := hw b cs hb
 have hne : b ≠ D := fun e => by rw [e, hn] at hb; cases hb
 exact ⟨t, f, by rw [World.putObj_heap_other hne]; exact h1⟩
abbrev coll (D : Nat) : Deferred := { target := .collected D, args := #[] }
def MarksOk (w0 w : World) (ds : List Nat) : Prop := ds.Nodup ∧ ∀ D ∈ ds, w.heap[D]? = some (.deferred (some [])) ∧ w0.heap.size ≤ D
structure FWP (P : Program) (n : Nat) (I : List Id) (c : Code) (Q : Exit → St → Prop) (s : St) : Prop where
  out : ∀ (C : Cx) (a : Act) (w : World) (h : Hp) (β : Bt) (ds : List Nat), IniOk C I → Base { C with dfr := ds.map coll } n s a w h β → MarksOk C.w0 w ds →
    c.wp P (fun e a' w' => ∃ s' h' β' ds', Base { C with dfr := ds'.map coll } n s' a' w' h' β' ∧ MarksOk C.w0 w' ds' ∧ Q e s') a w
theorem FWP.lift {c : Code} (k : AWP P n I c Q s) : FWP P n I c Q s := ⟨fun C a w h β ds hi b hm => by
 have hr := b.reroot (ds.map coll) b.b0
 have ha : { a with defers := ds.map coll } = a := by cases a; simp only [Act.mk.injEq, true_and]; exact b.defers.symm
 rw [ha] at hr;refine wp_mono (k.out ⟨w, h, C.β0, ownM s β, ds.map coll⟩ a w h β hi hr) fun e a' w' ⟨s', h', β', r, q⟩ => ?_;have hu := b.unroot (β0 := C.β0) (Bt.le.refl _) r;refine ⟨s', h', β', ds, hu, ⟨hm.1, fun D hD => ?_⟩, q⟩;obtain ⟨h1, h2⟩ := hm.2 D hD
 exact ⟨by rw [r.evo.block D (Array.getElem?_eq_some_iff.1 h1).1 (b.not_own (.inl ⟨_, h1⟩))]; exact h1, h2⟩⟩
theorem FWP.ent {c : Code} (he : Ent n I s s') (k : FWP P n I c Q s') : FWP P n I c Q s :=
 ⟨fun C a w h β ds hi b hm => let ⟨h', β', b'⟩ := he { C with dfr := ds.map coll } a w h β hi b; k.out C a w h' β' ds hi b' hm⟩
theorem FWP.seq {c d : Code} (k : FWP P n I c (AThen (fun s => FWP P n I d Q s) Q) s) : FWP P n I (.seq c d) Q s :=
 ⟨fun C a w h β ds hi b hm => wp_seq (wp_mono (k.out C a w h β ds hi b hm) fun e a w ⟨s', h', β', ds', b, m, q⟩ => by
  cases e with
  | normal => exact q.out C a w h' β' ds' hi b m
  | _ => exact ⟨s', h', β', ds', b, m, q⟩)⟩
theorem FWP.block {id : Nat} {c : Code} (k : FWP P n I c (AIn id Q) s) : FWP P n I (.block id c) Q s :=
 ⟨fun C a w h β ds hi b hm => wp_block (wp_mono (k.out C a w h β ds hi b hm) fun e a w ⟨s', h', β', ds', b, m, q⟩ => by
  cases e with
  | exit id' =>
   simp only [Exit.inBlock];by_cases he : id' = id
   ·subst he;rw [if_pos rfl];simp only [AIn, Nat.beq_refl] at q;exact ⟨s', h', β', ds', b, m, q⟩
   ·rw [if_neg he];simp only [AIn, beq_ne he] at q;exact ⟨s', h', β', ds', b, m, q⟩
  | _ => exact ⟨s', h', β', ds', b, m, q⟩)⟩
theorem leavesM {fn : Func} {R : Ending → World → Prop} {xs : List Deferred} : ∀ (ds : List Nat) (w : World) (h : Hp) (β : Bt), Base { C with dfr := xs } n s a w h β → MarksOk C.w0 w ds →
  (∀ w' h' β', Base { C with dfr := xs } n s a w' h' β' → ∃ v, (results fn a.tmps).run P w' = .ok v w' ∧ R (.returned v) w') → LeavesInM Fence.wide 0 P fn a.tmps R (ds.map coll) .returning w
 | [], w, h, β, b, _, fin => fin w h β b
 | D :: ds, w, h, β, b, m, fin => by
  obtain ⟨h1, h2⟩ := m.2 D (by simp);have hnd := List.nodup_cons.1 m.1;have e := evo_mark (o' := .deferred none) b.evo.has h1 (fun _ _ _ e => by cases e);have b' := b.stepN e (fun g hg => .inr (by rw [hg]; exact h2)) (fun g hg => by rw [hg]; exact b.not_own (.inl ⟨_, h1⟩));refine ⟨by simp, .inl ⟨D, _, rfl, run_takeDeferred h1, leavesM ds _ h β b' ⟨hnd.2, fun D' hD' => ?_⟩ fin⟩⟩;obtain ⟨k1, k2⟩ := m.2 D' (by simp [hD']);refine ⟨?_, k2⟩;have hne : D' ≠ D := fun e => hnd.1 (by rw [← e]; exact hD');rw [World.putObj_heap_other hne];exact k1
theorem PureFn.of_bodyF [f : Facts P tab] {k : FuncId} {fn : Func} {c : Code} {args : List AV} {r : AV} (hf : P.funcs[k]? = some fn) (hb : fn.body = some c) (hn : fn.ntmps = n) (hname : (fn.name == "runtime.NumGoroutine") = false) (hl : Nat.ble args.length n = true)
  (hk : FWP P n [] c (RetQ n tab fn.results.toList r) (St.init args)) : PureFn P k args r := by
 have hl := Nat.le_of_ble_eq_true hl;refine ⟨⟨fn, hf, hname, by rw [hb]; rfl⟩, fun w hp us hw hr => ?_⟩;refine callsIn_wide.1 (callsIn_of_wp_marks (F := Fence.wide) (n := 0) hf hb trivial (wpIn_wide.2 ?_) rfl)
 have hus : us.size = args.length := by rw [← Array.length_toList]; exact hr.length
 have hbase : Base ⟨w, hp, noB, never, []⟩ n (St.init args) { tmps := us ++ Array.replicate (fn.ntmps - us.size) undef, defers := [] } w hp noB := by
  refine ⟨Evo.refl _ hw, Bt.le.refl _, fun i => ?_, fun id B hB => by simp [St.init] at hB, fun _ _ _ _ hB => by simp [St.init] at hB, fun _ _ _ hB => by simp [St.init] at hB, fun _ _ => rfl, by simp; omega, rfl⟩;simp only [St.init];by_cases hi : i < us.size
  ·have hget : (us ++ Array.replicate (fn.ntmps - us.size) undef).getD i undef = us[i] := by
    simp [Array.getD_eq_getD_getElem?, Array.getElem?_append, hi]
   rw [hget]
   have : ∀ (azs : List AV) (vs : List Value) (i : Nat) (v : Value), RepL hp noB azs vs → vs[i]? = some v → Rep hp noB (initE azs i) v := by
    intro azs
    induction azs with
    | nil => intro vs i v hr hv; simp only [RepL] at hr; subst hr; simp at hv
    | cons a azs ih =>
     intro vs i v hr hv;simp only [RepL] at hr;obtain ⟨u, r', rfl, h1, h2⟩ := hr
     cases i with
     | zero => simp at hv; subst hv; exact h1
     | succ i => exact ih r' i v h2 (by simpa using hv)
   exact this args us.toList i _ hr (by simp [hi])
  ·have : ∀ (azs : List AV) (i : Nat), azs.length ≤ i → initE azs i = .any := by
    intro azs
    induction azs with
    | nil => intro i _; rfl
    | cons a azs ih => intro i hi; cases i with
     | zero => simp at hi
     | succ i => exact ih i (by simpa using hi)
   rw [this args i (by omega)];simp only [Rep]
 refine wp_mono (hk.out ⟨w, hp, noB, never, []⟩ _ w hp noB [] (fun id hid => (hid rfl).elim) hbase ⟨List.nodup_nil, by simp⟩) fun e a' w' ⟨s', h', β', ds, b, m, q⟩ => ?_
 have fin : RetOk n tab fn.results.toList r s' → LeavesInM Fence.wide 0 P fn a'.tmps (fun e w' => ∃ u h', e = .returned u ∧ Evo never w hp w' h' ∧ Rep h' noB r u) a'.defers .returning w' := by
  intro hq;obtain ⟨s2, r', hent, h1, h2, h3⟩ := hq.out;obtain ⟨h', β', b⟩ := hent _ _ _ _ _ (fun id hid => (hid rfl).elim) b;rw [b.defers];refine leavesM (C := ⟨w, hp, noB, never, []⟩) ds w' h' β' b m fun w3 h3' β3 b3 => ?_;obtain ⟨v, hv1, hv2⟩ := results_ok (P := P) b3 h1;exact ⟨v, hv1, v, h3', rfl, b3.evo, h3 _ _ _ (hv2.closed _ _ h2)⟩
 cases e with
 | normal => exact fin q
 | ret => exact fin q
 | _ => exact q.elim
end
end Go.AL
/- A range over a function, at its caller. -/
namespace Go.AL
structure IterFn (P : Program) (gf : FuncId) (caps : List AV) (e : Nat → Option (List AV)) (N : Nat) : Prop where
  fn : ∃ fn, P.funcs[gf]? = some fn ∧ (fn.name == "runtime.NumGoroutine") = false ∧ fn.body.isNone = false
  calls : ∀ (W : World) (h : Hp) (us : Array Value) (l : Nat) (J : Nat → World → Hp → (Nat → Prop) → Prop) (Jx : World → Hp → (Nat → Prop) → Prop),
    Has W h → RepL h noB caps us.toList →
    (∀ i A hA T B hB T', J i A hA T → Evo T A hA B hB → (∀ g, T' g → (T g ∨ A.heap.size ≤ g) ∧ g < B.heap.size) → J i B hB T') →
    (∀ A hA T B hB T', Jx A hA T → Evo T A hA B hB → (∀ g, T' g → (T g ∨ A.heap.size ≤ g) ∧ g < B.heap.size) → Jx B hB T') →
    (∀ i xs A hA T (args : Array Value), e i = some xs → Has A hA → J i A hA T → RepL hA noB xs args.toList →
      YieldAt Fence.wide 0 P l args A fun en B => ∃ hB, Evo (fun g => ¬ T g) A hA B hB ∧ ((en = .returned (.bool true) ∧ J (i + 1) B hB T) ∨ (en = .returned (.bool false) ∧ Jx B hB T))) →
    (∀ i A hA T, J i A hA T → i < N) →
    J 0 W h never →
    Calls P gf (#[.func (.yield l) #[] #[]] ++ us) W fun en B => ∃ v hB T, en = .returned v ∧ ((∃ i, e i = none ∧ J i B hB T) ∨ Jx B hB T)
section
variable {P : Program} {tab : Tab} {n : Nat} {I : List Id} {Q : Exit → St → Prop} {s s' : St} {C : Cx} {a a' : Act} {w w' : World} {h h' : Hp} {β β' : Bt}
def anyS (s : St) : St := ⟨fun _ => .any, s.bx, s.al⟩
theorem Base.rerootN (k : Base C n s a w h β) {N : Nat → Prop} (e : Evo N w h w' h') (hd : ∀ g, N g → ¬ ownM s β g) (d : List Deferred) {β0 : Bt} (hb : β0.le β) : Base ⟨w', h', β0, ownM s β, d⟩ n s { a with defers := d } w' h' β := by
 refine ⟨Evo.refl _ e.has, hb, fun i => (k.slot i).mono e.le (Bt.le.refl β), fun id B hb => ?_, k.apart, fun id B _ h1 h2 => .inl ⟨id, B, h1, h2⟩, k.dom, k.size, rfl⟩;refine (k.box id B hb).keep e.le (Bt.le.refl β) fun g hg => ?_;obtain ⟨h1, h2⟩ := k.blk_lt hb hg;have hng : ¬ N g := fun hn => hd g hn ⟨id, B, hb, hg⟩;refine ⟨e.block g h1 hng, ?_⟩
 cases hh : h' g with
 | none => rfl
 | some cs =>
  exfalso;rcases e.fresh g (by rw [hh]; simp) with h3 | h3 | h3
  ·exact h3 h2
  ·omega
  ·exact hng h3
structure JB (C0 : Cx) (n : Nat) (sx : St) (a : Act) (l D : Nat) (o : Obj) (W : World) (hW : Hp) (T : Nat → Prop) : Prop where
  out : ∃ β', Base C0 n sx a W hW β' ∧ (∀ g, T g → g < W.heap.size ∧ ¬ ownM sx β' g ∧ C0.w0.heap.size ≤ g ∧ g ≠ l ∧ g ≠ D) ∧ W.heap[l]? = some o ∧ W.heap[D]? = some (.deferred (some []))
theorem JB.stab {C0 : Cx} {sx : St} {l D : Nat} {o : Obj} {W B : World} {hW hB : Hp} {T T' : Nat → Prop} (k : JB C0 n sx a l D o W hW T) (e : Evo T W hW B hB) (hT : ∀ g, T' g → (T g ∨ W.heap.size ≤ g) ∧ g < B.heap.size) : JB C0 n sx a l D o B hB T' := by
 obtain ⟨β', b, ht, hl, hD⟩ := k.out;have ll : l < W.heap.size := (Array.getElem?_eq_some_iff.1 hl).1;have lD : D < W.heap.size := (Array.getElem?_eq_some_iff.1 hD).1;refine ⟨β', b.stepN e (fun g hg => .inr (ht g hg).2.2.1) (fun g hg => (ht g hg).2.1), fun g hg => ?_, ?_, ?_⟩
 ·obtain ⟨h1, h2⟩ := hT g hg;rcases h1 with h1 | h1
  ·obtain ⟨_, k2, k3, k4, k5⟩ := ht g h1;exact ⟨h2, k2, k3, k4, k5⟩
  ·refine ⟨h2, ?_, Nat.le_trans b.evo.size h1, by omega, by omega⟩;rintro ⟨id, Bx', h3, h4⟩;have := (b.blk_lt h3 h4).1;omega
 ·rw [e.block l ll fun hn => (ht l hn).2.2.2.1 rfl]; exact hl
 ·rw [e.block D lD fun hn => (ht D hn).2.2.2.2 rfl]; exact hD
end
end Go.AL
/- A range over a function, at its caller: the rule. -/
namespace Go.AL
section
variable {P : Program} {tab : Tab} {n : Nat} {I : List Id} {Q : Exit → St → Prop} {s s' : St} {C : Cx} {a a' : Act} {w w' : World} {h h' : Hp} {β β' : Bt}
theorem Base.redfr (k : Base C n s a w h β) (d : List Deferred) : Base { C with dfr := d } n s { a with defers := d } w h β := ⟨k.evo, k.b0, k.slot, k.box, k.apart, k.own, k.dom, k.size, rfl⟩
theorem Base.act (k : Base C n s a w h β) : { a with defers := C.dfr } = a := by cases a; simp only [Act.mk.injEq, true_and]; exact k.defers.symm
def RoundQ (n : Nat) (Ip : List Id) (s : St) (Q : Exit → St → Prop) (sn : St) (ok : Prop) : Exit → St → Prop
  | .normal, s' => ok ∧ Ent n Ip s' (anyS sn)
  | .ret, s' => ∃ sx, sx.env = s.env ∧ Ent n Ip s' (anyS sx) ∧ Q .ret sx
  | .exit id, s' => ∃ sx, sx.env = s.env ∧ Ent n Ip s' (anyS sx) ∧ Q (.exit id) sx
  | _, _ => False
def setPs (p q : Tmp) (x y : AV) (s : St) : St := (Eff.mk y [] [] [] []).app (some q) ((Eff.mk x [] [] [] []).app (some p) s)
theorem rangeEnd {e : Exit} {ds : List Nat} {βp : Bt} {sx : St} {l D : Nat} {r r' : Loop} {W : World} {hW : Hp} {T : Nat → Prop} (b : Base { C with dfr := ds.map coll } n s a w h β) (hm : MarksOk C.w0 w ds) (hC : C.β0.le βp) (hD : D = w.heap.size) (hl : l = w.heap.size + 1)
  (k : JB ⟨w, h, βp, ownM s β, ds.map coll⟩ n sx a l D (.loop r) W hW T) (q : Q e sx) :
  ∃ s' h' β' ds', Base { C with dfr := ds'.map coll } n s' { a with defers := [coll D] ++ a.defers } (W.putObj l (.loop r')) h' β' ∧ MarksOk C.w0 (W.putObj l (.loop r')) ds' ∧ Q e s' := by
 obtain ⟨β', bJ, _, h1, h2⟩ := k.out;have hev := evo_mark (o' := .loop r') bJ.evo.has h1 (fun _ _ _ e => by cases e);have bJ' := bJ.stepN hev (fun g hg => .inr (by show w.heap.size ≤ g; omega)) (fun g hg => by rw [hg]; exact bJ.not_own (.inr ⟨_, h1⟩));have bu := (b.unroot (β0 := βp) hC bJ').redfr ((D :: ds).map coll)
 have ha : ({ a with defers := [coll D] ++ a.defers } : Act) = { a with defers := (D :: ds).map coll } := by rw [b.defers]; rfl
 rw [ha]
 have hne : D ≠ l := by omega
 refine ⟨sx, hW, β', D :: ds, bu, ⟨List.nodup_cons.2 ⟨fun hd => ?_, hm.1⟩, fun D' hD' => ?_⟩, q⟩
 ·have := (Array.getElem?_eq_some_iff.1 (hm.2 D hd).1).1;omega
 ·rcases List.mem_cons.1 hD' with rfl | hd
  ·exact ⟨by rw [World.putObj_heap_other hne]; exact h2, by rw [hD]; exact b.evo.size⟩
  ·obtain ⟨k1, k2⟩ := hm.2 D' hd;exact ⟨by rw [bJ'.evo.block D' (Array.getElem?_eq_some_iff.1 k1).1 (b.not_own (.inl ⟨_, k1⟩))]; exact k1, k2⟩
theorem roundEnd {dd : List Deferred} {βp : Bt} {si s1 sx : St} {a1 a3 : Act} {l D : Nat} {A A1 A3 : World} {hA h1 h4 : Hp} {β1 β4 : Bt} {oA ob r : Loop} {T : Nat → Prop}
  (hslot : ∀ i, Rep h βp (s.env i) (a.tmps.getD i undef)) (bJ : Base ⟨w, h, βp, ownM s β, dd⟩ n si a A hA β') (ht : ∀ g, T g → g < A.heap.size ∧ ¬ ownM si β' g ∧ w.heap.size ≤ g ∧ g ≠ l ∧ g ≠ D) (hlD : D ≠ l) (hlw : w.heap.size ≤ l)
  (hl : A.heap[l]? = some (.loop oA)) (hD : A.heap[D]? = some (.deferred (some []))) (b1 : Base ⟨A, hA, βp, ownM si β', []⟩ n s1 a1 A1 h1 β1) (b4 : Base ⟨A1.putObj l (.loop ob), h1, βp, ownM s1 β1, []⟩ n (anyS sx) a3 A3 h4 β4) (hse : sx.env = s.env) :
  A3.heap[l]? = some (.loop ob) ∧ Evo (fun g => ¬ T g) A hA (A3.putObj l (.loop r)) h4 ∧ JB ⟨w, h, βp, ownM s β, dd⟩ n sx a l D (.loop r) (A3.putObj l (.loop r)) h4 T := by
 have ll : l < A.heap.size := (Array.getElem?_eq_some_iff.1 hl).1;have lD : D < A.heap.size := (Array.getElem?_eq_some_iff.1 hD).1;have e1 := b1.evo
 have hl1 : A1.heap[l]? = some (.loop oA) := by rw [e1.block l ll (bJ.not_own (.inr ⟨_, hl⟩))]; exact hl
 have hD1 : A1.heap[D]? = some (.deferred (some [])) := by rw [e1.block D lD (bJ.not_own (.inl ⟨_, hD⟩))]; exact hD
 have e2 := evo_mark (o' := .loop ob) e1.has hl1 (fun _ _ _ e => by cases e);have e4 := b4.evo;have ll1 : l < A1.heap.size := (Array.getElem?_eq_some_iff.1 hl1).1;have lD1 : D < A1.heap.size := (Array.getElem?_eq_some_iff.1 hD1).1
 have hs2 : (A1.putObj l (.loop ob)).heap.size = A1.heap.size := by simp
 have hl3 : A3.heap[l]? = some (.loop ob) := by rw [e4.block l (by rw [hs2]; exact ll1) (b1.not_own (.inr ⟨_, hl1⟩))]; exact World.putObj_heap_same ll1
 have hD3 : A3.heap[D]? = some (.deferred (some [])) := by rw [e4.block D (by rw [hs2]; exact lD1) (b1.not_own (.inl ⟨_, hD1⟩)), World.putObj_heap_other hlD]; exact hD1
 have e5 := evo_mark (o' := .loop r) e4.has hl3 (fun _ _ _ e => by cases e);have b5 := b4.rerootN e5 (fun g hg => by rw [hg]; exact b4.not_own (.inr ⟨_, hl3⟩)) [] b4.b0;have own1 : ∀ g, ownM s1 β1 g → ownM si β' g ∨ A.heap.size ≤ g := fun g ⟨id, B, k1, k2⟩ => b1.own id B g k1 k2
 have own4 : ∀ g, ownM (anyS sx) β4 g → ownM si β' g ∨ A.heap.size ≤ g := fun g ⟨id, B, k1, k2⟩ => by
  rcases b4.own id B g k1 k2 with k | k
  ·exact own1 g k
  ·have : A1.heap.size ≤ g := by rw [← hs2]; exact k
   exact .inr (Nat.le_trans e1.size this)
 have ownJ : ∀ g, ownM si β' g → ownM s β g ∨ w.heap.size ≤ g := fun g ⟨id, B, k1, k2⟩ => bJ.own id B g k1 k2;have up : ∀ g, ownM si β' g ∨ A.heap.size ≤ g → ownM s β g ∨ w.heap.size ≤ g := fun g k => k.elim (ownJ g) fun k => .inr (Nat.le_trans bJ.evo.size k);have nT : ∀ g, ownM si β' g ∨ A.heap.size ≤ g → ¬ T g ∨ A.heap.size ≤ g := fun g k => k.elim (fun k => .inl fun t => (ht g t).2.1 k) .inr;have lT : ∀ g, g = l → ¬ T g := fun g hg t => (ht g t).2.2.2.1 hg;refine ⟨hl3, (((Evo.refl _ bJ.evo.has).trans e1 fun g k => nT g (.inl k)).trans e2 fun g hg => .inl (lT g hg)).trans e4 (fun g k => nT g (own1 g k)) |>.trans e5 fun g hg => .inl (lT g hg), ⟨β4, ⟨?_, b4.b0, fun i => ?_, b5.box, b5.apart, fun id B g k1 k2 => up g (own4 g ⟨id, B, k1, k2⟩), b5.dom, bJ.size, bJ.defers⟩, fun g t => ?_, ?_, ?_⟩⟩
 ·exact (((bJ.evo.trans e1 fun g k => ownJ g k).trans e2 fun g hg => .inr (by rw [hg]; exact hlw)).trans e4 fun g k => up g (own1 g k)).trans e5 fun g hg => .inr (by rw [hg]; exact hlw)
 ·rw [hse];have hle : h.le h4 := (bJ.evo.le.trans e1.le).trans e4.le;exact (hslot i).mono hle b4.b0 _ _
 ·obtain ⟨t1, t2, t3, t4, t5⟩ := ht g t;refine ⟨?_, fun k => ?_, t3, t4, t5⟩
  ·have k1 : A.heap.size ≤ A1.heap.size := e1.size
   have k2 : A1.heap.size ≤ A3.heap.size := by rw [← hs2]; exact e4.size
   rw [World.putObj_size];omega
  ·rcases own4 g k with k | k
   ·exact t2 k
   ·omega
 ·exact World.putObj_heap_same (Array.getElem?_eq_some_iff.1 hl3).1
 ·rw [World.putObj_heap_other hlD]; exact hD3
end
end Go.AL
/- A range over a function of two variables: the rule at the caller. -/
namespace Go.AL
mutual
theorem AV.ren_id : ∀ c : AV, c.ren (fun i => i) = c
 | .v _ => rfl
 | .agg cs => by simp only [AV.ren, renL_id cs]
 | .tup cs => by simp only [AV.ren, renL_id cs]
 | .sl _ _ _ => rfl
 | .cptr _ => rfl
 | .ptr _ _ => rfl
 | .row _ => rfl
 | .rptr _ _ => rfl
 | .mp _ => rfl
 | .sub _ _ _ => rfl
 | .fn _ cs => by simp only [AV.ren, renL_id cs]
 | .any => rfl
theorem renL_id : ∀ cs : List AV, renL (fun i => i) cs = cs
 | [] => rfl
 | c :: cs => by simp only [renL, AV.ren_id c, renL_id cs]
end
section
variable {P : Program} {tab : Tab} {n : Nat} {I : List Id} {Q : Exit → St → Prop} {s : St}
theorem FWP.rangeFunc {g : Operand} {p q : Tmp} {assign body : Code} {gf : FuncId} {caps : List AV} {e : Nat → Option (List AV)} {N : Nat} (it : IterFn P gf caps e N) (hN0 : 0 < N) (hg : opd s g = .fn gf caps) (hcl : closedL caps = true) (hpn : Nat.blt p n = true) (hqn : Nat.blt q n = true)
  (Ip : List Id) (hI : ∀ id ∈ I, id ∈ Ip) (hin : ∀ t, (s.env t).within Ip = true) (S : Nat → St) (hSe : ∀ i, (S i).env = s.env) (h0 : S 0 = s) (h2 : ∀ i xs, e i = some xs → ∃ x y, xs = [x, y])
  (hround : ∀ i x y l, i < N → e i = some [x, y] → RWP P n Ip l assign (AThen (fun s1 => RWP P n Ip l body (RoundQ n Ip s Q (S (i + 1)) (i + 1 < N)) s1) (fun _ _ => False)) (setPs p q x y (S i)))
  (hdone : ∀ i, i < N → e i = none → Q .normal (S i)) : FWP P n I (.rangeFunc g #[p, q] assign body) Q s := by
 have hpn : p < n := Nat.le_of_ble_eq_true hpn;have hqn : q < n := Nat.le_of_ble_eq_true hqn;refine ⟨fun C a w h β ds hi b hm => wpIn_wide (n := 0) |>.1 (wpIn_rangeFunc (F := Fence.wide) (n := 0) fun fn _ => ?_)⟩
 obtain ⟨βp, hβ⟩ : ∃ βp : Bt, βp = fun id => match memI Ip id with | true => β id | false => none := ⟨_, rfl⟩
 have hle : βp.le β := fun id v hv => by
  rw [hβ] at hv;dsimp only at hv;split at hv
  ·exact hv
  ·cases hv
 have hIp : ∀ id, βp id ≠ none → id ∈ Ip := fun id hv => by
  rw [hβ] at hv;dsimp only at hv
  cases hmm : memI Ip id with
  | true => exact (memI_mem _ _).1 hmm
  | false => rw [hmm] at hv; exact absurd rfl hv
 have hC : C.β0.le βp := fun id v hv => by
  have h1 : id ∈ Ip := hI id (hi id (by show C.β0 id ≠ none; rw [hv]; simp));rw [hβ];dsimp only;rw [(memI_mem _ _).2 h1];exact b.b0 id v hv
 have hslot : ∀ i, Rep h βp (s.env i) (a.tmps.getD i undef) := fun i => by
  refine Rep.within (σ := fun i => i) (ids := Ip) (fun id v h1 h2 => ?_) (s.env i) _ (hin i) (by rw [AV.ren_id]; exact b.slot i);rw [hβ];dsimp only;rw [(memI_mem _ _).2 h1];exact h2
 have hgr := opd_rep b g;rw [hg] at hgr;simp only [Rep] at hgr;obtain ⟨cu, hcu, hcr⟩ := hgr;have hcr : RepL h noB caps cu.toList := RepL.closed _ _ hcl hcr;have b0 := b.reroot (ds.map coll) (β0 := βp) hle;have ha : { a with defers := ds.map coll } = a := b.act;rw [ha] at b0;obtain ⟨rec, hrec⟩ : ∃ rec : LoopState → Option Code → Loop, rec = fun st pe => { state := st, pending := pe, fn, tmps := a.tmps, params := #[p, q], assign, body, defers := w.heap.size } := ⟨_, rfl⟩;obtain ⟨W1, hW1⟩ : ∃ W1, (w.alloc (.deferred (some []))).alloc (.loop (rec .ready none)) = W1 := ⟨_, rfl⟩
 have ev1 : Evo never w h W1 h := by
  rw [← hW1];exact (evo_alloc b.evo.has _).trans (evo_alloc (evo_alloc b.evo.has _).has _) fun _ h => h.elim
 have hL1 : W1.heap[w.heap.size + 1]? = some (.loop (rec .ready none)) := by
  rw [← hW1]; have := World.alloc_heap_new (w.alloc (.deferred (some []))) (.loop (rec .ready none)); rwa [World.size_alloc] at this
 have hK1 : W1.heap[w.heap.size]? = some (.deferred (some [])) := by
  rw [← hW1]; exact (show ((w.alloc (.deferred (some []))).alloc (.loop (rec .ready none))).heap[w.heap.size]? = (w.alloc (.deferred (some []))).heap[w.heap.size]? by first | exact heap_alloc_old _ _ (by simp) | exact heap_alloc_old _ _ _ (by simp)).trans (World.alloc_heap_new w _)
 have hJ0 : JB ⟨w, h, βp, ownM s β, ds.map coll⟩ n (S 0) a (w.heap.size + 1) w.heap.size (.loop (rec .ready none)) W1 h never := by
  rw [h0];exact ⟨β, b0.step ev1, fun g hg => hg.elim, hL1, hK1⟩
 refine ⟨w.heap.size + 1, [coll w.heap.size], W1, { target := .fn (.func gf) cu, args := #[.func (.yield (w.heap.size + 1)) #[] #[]] }, W1, gf, #[.func (.yield (w.heap.size + 1)) #[] #[]] ++ cu, W1, ?_, ?_, fun _ _ => trivial, ?_, fun hd => (by cases hd), ?_⟩
 ·rw [← hW1, hrec]; exact run_enterLoop_outer _ _ _ _ _
 ·simp only [resolve, hcu];simp [go_sem]
 ·simp only [invoke];exact run_callFunc it.fn _ W1
 subst hrec
 refine callsIn_wide.2 ((it.calls W1 h cu (w.heap.size + 1) (fun i W hW T => i < N ∧ JB ⟨w, h, βp, ownM s β, ds.map coll⟩ n (S i) a (w.heap.size + 1) w.heap.size (.loop { state := .ready, pending := none, fn, tmps := a.tmps, params := #[p, q], assign, body, defers := w.heap.size }) W hW T)
  (fun W hW T => ∃ (c : Code) (sx : St), sx.env = s.env ∧ ((c = .ret ∧ Q .ret sx) ∨ ∃ id, c = .exit id ∧ Q (.exit id) sx) ∧ JB ⟨w, h, βp, ownM s β, ds.map coll⟩ n sx a (w.heap.size + 1) w.heap.size (.loop { state := .done, pending := some c, fn, tmps := a.tmps, params := #[p, q], assign, body, defers := w.heap.size }) W hW T)
  ev1.has hcr (fun i A hA T B hB T' k e hT => ⟨k.1, k.2.stab e hT⟩) (by rintro A hA T B hB T' ⟨c, sx, h1, h2, k⟩ e hT; exact ⟨c, sx, h1, h2, k.stab e hT⟩) ?_ (fun i A hA T k => k.1) ⟨hN0, hJ0⟩).mono ?_)
 ·intro i xs A hA T args hei hasA k hargs;obtain ⟨x, y, rfl⟩ := h2 i xs hei;simp only [RepL] at hargs;obtain ⟨ux, r1, e1, hx, uy, r2, e2, hy, e3⟩ := hargs
  obtain rfl : args = #[ux, uy] := by
   apply Array.ext';rw [e1, e2, e3]
  obtain ⟨β', bJ, ht, hl, hD⟩ := k.2.out
  have hyd : (Instr.yield (w.heap.size + 1) #[ux, uy]).run P A = .ok (.round (w.heap.size + 1) fn ((a.tmps.setIfInBounds p ux).setIfInBounds q uy) assign body) A := by
   rw [run_yield (P := P) (args := #[ux, uy]) hl rfl];simp
  refine ⟨fn, _, assign, body, hyd, roundIn_of_wpIn trivial ?_⟩;have b1 := bJ.reroot [] (β0 := βp) bJ.b0;have b2 := (b1.val (some p) (fun t ht => by cases ht; exact hpn) (hx.mono (Hp.le.refl hA) (noB_le β') _ _) []).val (some q) (fun t ht => by cases ht; exact hqn) (hy.mono (Hp.le.refl hA) (noB_le β') _ _) [];refine wpIn_mono ((hround i x y (w.heap.size + 1) k.1 hei).out ⟨A, hA, βp, ownM (S i) β', []⟩ _ A hA β' hIp b2) ?_;intro e1 a1 A1 ⟨s1, h1, β1, bb, qq⟩
  cases e1 with
  | normal =>
   have hl1 := bb.evo.block _ (Array.getElem?_eq_some_iff.1 hl).1 (bJ.not_own (.inr ⟨_, hl⟩));rw [hl] at hl1;refine ⟨_, run_beginRound hl1 rfl, ?_⟩;have ev2 := evo_mark (o' := .loop { state := .busy, pending := none, fn, tmps := a.tmps, params := #[p, q], assign, body, defers := w.heap.size }) bb.evo.has hl1 (fun _ _ _ e => by cases e);have b3 := bb.rerootN ev2 (fun g hg => by rw [hg]; exact bb.not_own (.inr ⟨_, hl1⟩)) [] bb.b0;have hact : { a1 with defers := [] } = a1 := bb.act;rw [hact] at b3;refine wpIn_mono (qq.out ⟨A1.putObj (w.heap.size + 1) _, h1, βp, ownM s1 β1, []⟩ a1 _ h1 β1 hIp b3) ?_;intro e3 a3 A3 ⟨s3, h3, β3, b4, q3⟩
   have fin : ∀ (sx : St) (r : Loop), Ent n Ip s3 (anyS sx) → sx.env = s.env → ∃ h4, A3.heap[w.heap.size + 1]? = some (.loop { state := .busy, pending := none, fn, tmps := a.tmps, params := #[p, q], assign, body, defers := w.heap.size }) ∧ Evo (fun g => ¬ T g) A hA (A3.putObj (w.heap.size + 1) (.loop r)) h4 ∧ JB ⟨w, h, βp, ownM s β, ds.map coll⟩ n sx a (w.heap.size + 1) w.heap.size (.loop r) (A3.putObj (w.heap.size + 1) (.loop r)) h4 T := fun sx r he hse => by
    obtain ⟨h4, β4, b5⟩ := he ⟨A1.putObj (w.heap.size + 1) _, h1, βp, ownM s1 β1, []⟩ a3 A3 h3 β3 hIp b4;obtain ⟨k1, k2, k3⟩ := roundEnd (r := r) hslot bJ ht (by omega) (by omega) hl hD bb b5 hse;exact ⟨h4, k1, k2, k3⟩
   cases e3 with
   | normal =>
    obtain ⟨h4, k1, k2, k3⟩ := fin (S (i + 1)) { state := .ready, pending := none, fn, tmps := a.tmps, params := #[p, q], assign, body, defers := w.heap.size } q3.2 (hSe _);exact ⟨_, _, run_endRound none k1, h4, k2, .inl ⟨rfl, q3.1, k3⟩⟩
   | ret =>
    obtain ⟨sx, hse, he, hq⟩ := q3;obtain ⟨h4, k1, k2, k3⟩ := fin sx { state := .done, pending := some .ret, fn, tmps := a.tmps, params := #[p, q], assign, body, defers := w.heap.size } he hse;exact ⟨_, _, run_endRound (some .ret) k1, h4, k2, .inr ⟨rfl, .ret, sx, hse, .inl ⟨rfl, hq⟩, k3⟩⟩
   | exit id =>
    obtain ⟨sx, hse, he, hq⟩ := q3;obtain ⟨h4, k1, k2, k3⟩ := fin sx { state := .done, pending := some (.exit id), fn, tmps := a.tmps, params := #[p, q], assign, body, defers := w.heap.size } he hse;exact ⟨_, _, run_endRound (some (.exit id)) k1, h4, k2, .inr ⟨rfl, .exit id, sx, hse, .inr ⟨id, rfl, hq⟩, k3⟩⟩
   | _ => exact q3.elim
  | _ => exact qq.elim
 ·rintro en B ⟨v, hB, T, rfl, ⟨i, hei, k⟩ | ⟨c, sx, hse, hq, k⟩⟩
  ·obtain ⟨_, _, _, hl, _⟩ := k.2.out;exact ⟨none, _, run_endLoop hl (by simp), rangeEnd b hm hC rfl rfl k.2 (hdone i k.1 hei)⟩
  ·obtain ⟨_, _, _, hl, _⟩ := k.out;refine ⟨some c, _, run_endLoop hl (by simp), ?_⟩;rcases hq with ⟨rfl, hq⟩ | ⟨id, rfl, hq⟩
   ·exact wpIn_ret (rangeEnd b hm hC rfl rfl k hq)
   ·exact wpIn_exit (rangeEnd b hm hC rfl rfl k hq)
end
end Go.AL
/- Iterators: code that yields. -/
namespace Go.AL
structure ItEnv (P : Program) (l : Nat) (e : Nat → Option (List AV)) (N : Nat) (J : Nat → World → Hp → (Nat → Prop) → Prop) (Jx : World → Hp → (Nat → Prop) → Prop) : Prop where
  stab : ∀ i A hA T B hB T', J i A hA T → Evo T A hA B hB → (∀ g, T' g → (T g ∨ A.heap.size ≤ g) ∧ g < B.heap.size) → J i B hB T'
  stabx : ∀ A hA T B hB T', Jx A hA T → Evo T A hA B hB → (∀ g, T' g → (T g ∨ A.heap.size ≤ g) ∧ g < B.heap.size) → Jx B hB T'
  round : ∀ i xs A hA T (args : Array Value), e i = some xs → Has A hA → J i A hA T → RepL hA noB xs args.toList →
      YieldAt Fence.wide 0 P l args A fun en B => ∃ hB, Evo (fun g => ¬ T g) A hA B hB ∧ ((en = .returned (.bool true) ∧ J (i + 1) B hB T) ∨ (en = .returned (.bool false) ∧ Jx B hB T))
  bound : ∀ i A hA T, J i A hA T → i < N
def Hold (J : Nat → World → Hp → (Nat → Prop) → Prop) (Jx : World → Hp → (Nat → Prop) → Prop) : Option Nat → World → Hp → (Nat → Prop) → Prop
  | some i => J i
  | none => Jx
structure IWP (P : Program) (n : Nat) (I : List Id) (l : Nat) (e : Nat → Option (List AV)) (N : Nat) (c : Code) (Q : Exit → Option Nat → St → Prop) (ph : Option Nat) (s : St) : Prop where
  out : ∀ J Jx, ItEnv P l e N J Jx → ∀ (C : Cx) (a : Act) (w : World) (h : Hp) (β : Bt), IniOk C I → C.dfr = [] → Base C n s a w h β → Hold J Jx ph w h (ownM s β) →
    c.wpIn Fence.wide 0 P (fun ex a' w' => ∃ C' ph' s' h' β', IniOk C' I ∧ C'.dfr = [] ∧ Base C' n s' a' w' h' β' ∧ Hold J Jx ph' w' h' (ownM s' β') ∧ Q ex ph' s') a w
section
variable {P : Program} {tab : Tab} {n : Nat} {I : List Id} {l : Nat} {e : Nat → Option (List AV)} {N : Nat} {Q : Exit → Option Nat → St → Prop} {ph : Option Nat} {s s' : St} {C : Cx} {a a' : Act} {w w' : World} {h h' : Hp} {β β' : Bt}
variable {J : Nat → World → Hp → (Nat → Prop) → Prop} {Jx : World → Hp → (Nat → Prop) → Prop}
theorem ItEnv.hold (E : ItEnv P l e N J Jx) {T T' : Nat → Prop} (k : Hold J Jx ph w h T) (ev : Evo T w h w' h') (hT : ∀ g, T' g → (T g ∨ w.heap.size ≤ g) ∧ g < w'.heap.size) : Hold J Jx ph w' h' T' := by
 cases ph with
 | none => exact E.stabx _ _ _ _ _ _ k ev hT
 | some i => exact E.stab _ _ _ _ _ _ _ k ev hT
theorem own_step {β0 : Bt} {d : List Deferred} {T : Nat → Prop} (r : Base ⟨w, h, β0, T, d⟩ n s' a' w' h' β') : ∀ g, ownM s' β' g → (T g ∨ w.heap.size ≤ g) ∧ g < w'.heap.size :=
 fun g ⟨id, B, k1, k2⟩ => ⟨r.own id B g k1 k2, (r.blk_lt k1 k2).1⟩
theorem IWP.lift {c : Code} {Q' : Exit → St → Prop} (k : AWP P n I c Q' s) (hQ : ∀ ex s, Q' ex s → Q ex ph s) : IWP P n I l e N c Q ph s := ⟨fun J Jx E C a w h β hi hd b hh => by
 have hr := b.reroot [] (β0 := C.β0) b.b0
 have ha : { a with defers := [] } = a := by cases a; simp only [Act.mk.injEq, true_and]; exact (b.defers.trans hd).symm
 rw [ha] at hr
 exact wpIn_wide.2 (wp_mono (k.out ⟨w, h, C.β0, ownM s β, []⟩ a w h β hi hr) fun ex a' w' ⟨s', h', β', r, q⟩ => ⟨⟨w, h, C.β0, ownM s β, []⟩, ph, s', h', β', hi, rfl, r, E.hold hh r.evo (own_step r), hQ _ _ q⟩)⟩
theorem IWP.ent {c : Code} (he : Ent n I s s') (k : IWP P n I l e N c Q ph s') : IWP P n I l e N c Q ph s := ⟨fun J Jx E C a w h β hi hd b hh => by
 have hr := b.reroot [] (β0 := C.β0) b.b0
 have ha : { a with defers := [] } = a := by cases a; simp only [Act.mk.injEq, true_and]; exact (b.defers.trans hd).symm
 rw [ha] at hr;obtain ⟨h', β', r⟩ := he ⟨w, h, C.β0, ownM s β, []⟩ a w h β hi hr
 exact k.out J Jx E ⟨w, h, C.β0, ownM s β, []⟩ a w h' β' hi rfl r (E.hold hh r.evo (own_step r))⟩
def AThenI (K : Option Nat → St → Prop) (Q : Exit → Option Nat → St → Prop) : Exit → Option Nat → St → Prop
  | .normal, ph, s => K ph s
  | ex, ph, s => Q ex ph s
def AInI (id : Nat) (Q : Exit → Option Nat → St → Prop) : Exit → Option Nat → St → Prop
  | .exit id', ph, s => match Nat.beq id' id with | true => Q .normal ph s | false => Q (.exit id') ph s
  | ex, ph, s => Q ex ph s
theorem IWP.seq {c d : Code} (k : IWP P n I l e N c (AThenI (fun ph s => IWP P n I l e N d Q ph s) Q) ph s) : IWP P n I l e N (.seq c d) Q ph s :=
 ⟨fun J Jx E C a w h β hi hd b hh => wpIn_seq (wpIn_mono (k.out J Jx E C a w h β hi hd b hh) fun ex a w ⟨C', ph', s', h', β', i1, i2, b, hh, q⟩ => by
  cases ex with
  | normal => exact q.out J Jx E C' a w h' β' i1 i2 b hh
  | _ => exact ⟨C', ph', s', h', β', i1, i2, b, hh, q⟩)⟩
theorem IWP.skip (k : Q .normal ph s) : IWP P n I l e N .skip Q ph s := ⟨fun _ _ _ C _ _ h β i1 i2 b hh => wpIn_skip ⟨C, ph, s, h, β, i1, i2, b, hh, k⟩⟩
theorem IWP.exit {id : Nat} (k : Q (.exit id) ph s) : IWP P n I l e N (.exit id) Q ph s := ⟨fun _ _ _ C _ _ h β i1 i2 b hh => wpIn_exit ⟨C, ph, s, h, β, i1, i2, b, hh, k⟩⟩
theorem IWP.block {id : Nat} {c : Code} (k : IWP P n I l e N c (AInI id Q) ph s) : IWP P n I l e N (.block id c) Q ph s :=
 ⟨fun J Jx E C a w h β hi hd b hh => wpIn_block (wpIn_mono (k.out J Jx E C a w h β hi hd b hh) fun ex a w ⟨C', ph', s', h', β', i1, i2, b, hh, q⟩ => by
  cases ex with
  | exit id' =>
   simp only [Exit.inBlock];by_cases he : id' = id
   ·subst he;rw [if_pos rfl];simp only [AInI, Nat.beq_refl] at q;exact ⟨C', ph', s', h', β', i1, i2, b, hh, q⟩
   ·rw [if_neg he];simp only [AInI, beq_ne he] at q;exact ⟨C', ph', s', h', β', i1, i2, b, hh, q⟩
  | _ => exact ⟨C', ph', s', h', β', i1, i2, b, hh, q⟩)⟩
theorem IWP.condB {c : Operand} {x y : Code} {t : Bool} (hc : opd s c = .v (.bool t)) (ht : t = true → IWP P n I l e N x Q ph s) (hf : t = false → IWP P n I l e N y Q ph s) : IWP P n I l e N (.cond c x y) Q ph s :=
 ⟨fun J Jx E C a w h β i1 i2 b hh => wpIn_cond_split (eval_bool b hc) (fun k => (ht k).out J Jx E C a w h β i1 i2 b hh) (fun k => (hf k).out J Jx E C a w h β i1 i2 b hh)⟩
end
end Go.AL
/- Iterators: loops, the yield itself, the contract. -/
namespace Go.AL
section
variable {P : Program} {tab : Tab} {n : Nat} {I : List Id} {l : Nat} {e : Nat → Option (List AV)} {N : Nat} {Q : Exit → Option Nat → St → Prop} {ph : Option Nat} {s s' : St} {C : Cx} {a a' : Act} {w w' : World} {h h' : Hp} {β β' : Bt}
variable {J : Nat → World → Hp → (Nat → Prop) → Prop} {Jx : World → Hp → (Nat → Prop) → Prop}
structure LoopEndI {G : Type} (n : Nat) (I : List Id) (N : Nat) (K : G → Prop) (S : G → St) (ph : G → Option Nat) (μ : G → Nat) (g : G) (p : Option Nat) (s : St) : Prop where
  out : ∃ g', K g' ∧ ph g' = p ∧ ((∀ i, p = some i → i < N) → μ g' < μ g) ∧ Ent n I s (S g')
def LoopQI {G : Type} (n : Nat) (I : List Id) (N : Nat) (K : G → Prop) (S : G → St) (ph : G → Option Nat) (μ : G → Nat) (g : G) (Q : Exit → Option Nat → St → Prop) : Exit → Option Nat → St → Prop
  | .normal, p, s => LoopEndI n I N K S ph μ g p s
  | ex, p, s => Q ex p s
theorem IWP.loop {c : Code} {G : Type} (K : G → Prop) (S : G → St) (pg : G → Option Nat) (μ : G → Nat) (g0 : G) (hg0 : pg g0 = ph) (hk : K g0) (he : Ent n I s (S g0))
  (round : ∀ g, K g → (∀ i, pg g = some i → i < N) → IWP P n I l e N c (LoopQI n I N K S pg μ g Q) (pg g) (S g)) : IWP P n I l e N (.loop c) Q ph s := by
 refine IWP.ent he ⟨fun J Jx E C a w h β hi hd b hh => ?_⟩;refine wpIn_loop_ghost (fun m a w => ∃ g C h β, K g ∧ μ g = m ∧ IniOk C I ∧ C.dfr = [] ∧ Base C n (S g) a w h β ∧ Hold J Jx (pg g) w h (ownM (S g) β)) (μ g0) ⟨g0, C, h, β, hk, rfl, hi, hd, b, by rw [hg0]; exact hh⟩ ?_;intro m a w ⟨g, C, h, β, hkg, hm, hi, hd, b, hh⟩
 have hN : ∀ i, pg g = some i → i < N := fun i hi => by rw [hi] at hh; exact E.bound _ _ _ _ hh
 refine wpIn_mono ((round g hkg hN).out J Jx E C a w h β hi hd b hh) fun ex a w ⟨C', p, s', h', β', i1, i2, b, hh, q⟩ => ?_
 cases ex with
 | normal =>
  obtain ⟨g', hkg', hp, hμ, hent⟩ := q.out;have hr := b.reroot [] (β0 := C'.β0) b.b0
  have ha : { a with defers := [] } = a := by cases a; simp only [Act.mk.injEq, true_and]; exact (b.defers.trans i2).symm
  rw [ha] at hr;obtain ⟨h2, β2, r⟩ := hent ⟨w, h', C'.β0, ownM s' β', []⟩ a w h' β' i1 hr
  have hN' : ∀ i, p = some i → i < N := fun i hi => by rw [hi] at hh; exact E.bound _ _ _ _ hh
  exact ⟨μ g', hm ▸ hμ hN', g', ⟨w, h', C'.β0, ownM s' β', []⟩, h2, β2, hkg', rfl, i1, rfl, r, by rw [hp]; exact E.hold hh r.evo (own_step r)⟩
 | _ => exact ⟨C', p, s', h', β', i1, i2, b, hh, q⟩
theorem opW {o : Oper} {next next' : Act → World → Prop} {Q : Exit → Act → World → Prop} (hn : ∀ a w, next a w → next' a w) (k : o.wp P a w next Q) : o.wpIn Fence.wide 0 P a w next' Q := by
 refine ⟨fun _ _ => trivial, ?_⟩;show o.uponIn Fence.wide 0 P a next' Q ((execOp a.eval o).run P w);unfold Oper.wp at k
 cases hr : (execOp a.eval o).run P w with
 | ok r w' =>
  rw [hr] at k
  cases r with
  | value v => exact hn _ _ k
  | skip => exact hn _ _ k
  | defer d => exact hn _ _ k
  | enter f args =>
   refine ⟨fun hd => (by cases hd), ?_⟩;refine callsIn_wide.2 (Calls.mono k fun e w'' hh => ?_)
   cases e with
   | returned v => exact hn _ _ hh
   | panicked ch => exact hh
   | outgrown => exact hh
  | row row args =>
   refine ⟨fun hd => (by cases hd), ?_⟩;exact fun c cs _ => let ⟨v, w'', r, st⟩ := k c cs; ⟨v, w'', hn _ _ r, stepsIn_wide.2 st⟩
  | _ => exact k.elim
 | halt r w' =>
  rw [hr] at k
  cases r with
  | panic v => exact k
  | _ => exact k.elim
theorem wp_seq_opsW {ops : Array Oper} {Q : Exit → Act → World → Prop} {l : List Oper} {s s' : St} {Es : List Eff} (c : Ch P n [] ops l s Es s') :
  ∀ (rest is : List Nat) (a : Act) (w : World) (h : Hp) (β : Bt), is.length = l.length → (∀ (k i : Nat) (o : Oper), is[k]? = some i → l[k]? = some o → ops[i]? = some o) → Base C n s a w h β →
   (∀ a w h β, Base C n s' a w h β → wpOpsIn Fence.wide 0 P ops Q rest a w) → wpOpsIn Fence.wide 0 P ops Q (is ++ rest) a w := by
 induction c with
 | nil s =>
  intro rest is a w h β hl _ k K;have : is = [] := List.eq_nil_of_length_eq_zero (by simpa using hl);subst this;exact K _ _ _ _ k
 | @op o l s s' E Es hg hj hn hp r ih =>
  intro rest is a w h β hl hi k K
  cases is with
  | nil => simp at hl
  | cons i is =>
   have ho : ops[i]? = some o := hi 0 i o (by simp) (by simp);simp only [List.cons_append, wpOpsIn, ho]
   have hw : Region.wanted o (yielded ops a.tmps) = true := by simp [Region.wanted, hg]
   simp only [hw, if_true];exact opW (fun a w k => k) (hj.2 C s a w h β Q _ (InvJ.nil _) (fun _ _ => rfl) (fun _ _ => rfl) hn k (fun a' w' h' β' k' => ih rest is a' w' h' β' (by simpa using hl) (fun j i' o' h1 h2 => hi (j + 1) i' o' (by simpa using h1) (by simpa using h2)) k' K))
 | @guarded o l s s' E Es d b hg hs hj hn hp r ih =>
  intro rest is a w h β hl hi k K
  cases is with
  | nil => simp at hl
  | cons i is =>
   have ho : ops[i]? = some o := hi 0 i o (by simp) (by simp);simp only [List.cons_append, wpOpsIn, ho]
   have hw : Region.wanted o (yielded ops a.tmps) = true := by rw [yielded_of k hg hs]; simp
   simp only [hw, if_true];exact opW (fun a w k => k) (hj.2 C s a w h β Q _ (InvJ.nil _) (fun _ _ => rfl) (fun _ _ => rfl) hn k (fun a' w' h' β' k' => ih rest is a' w' h' β' (by simpa using hl) (fun j i' o' h1 h2 => hi (j + 1) i' o' (by simpa using h1) (by simpa using h2)) k' K))
 | @skip o l s s' Es d b hg hs hd r ih =>
  intro rest is a w h β hl hi k K
  cases is with
  | nil => simp at hl
  | cons i is =>
   have ho : ops[i]? = some o := hi 0 i o (by simp) (by simp);simp only [List.cons_append, wpOpsIn, ho];have hw : Region.wanted o (yielded ops a.tmps) = false := unwanted_of k hg hs;simp only [hw, Bool.false_eq_true, if_false];exact ⟨fun _ _ => trivial, ih rest is _ w h β (by simpa using hl) (fun j i' o' h1 h2 => hi (j + 1) i' o' (by simpa using h1) (by simpa using h2)) (k.skip o.dst hd) K⟩
end
end Go.AL
/- Iterators: the yield itself, the contract. -/
namespace Go.AL
section
variable {P : Program} {tab : Tab} {n : Nat} {I : List Id} {l : Nat} {e : Nat → Option (List AV)} {N : Nat} {Q : Exit → Option Nat → St → Prop} {ph : Option Nat} {s s' : St} {C : Cx} {a a' : Act} {w w' : World} {h h' : Hp} {β β' : Bt}
variable {J : Nat → World → Hp → (Nat → Prop) → Prop} {Jx : World → Hp → (Nat → Prop) → Prop}
structure YieldQ (P : Program) (n l : Nat) (e : Nat → Option (List AV)) (N i : Nat) (ops : Array Oper) (o : Oper) (l2 : List Oper) (Q : Exit → Option Nat → St → Prop) (s : St) : Prop where
  out : (o.guard = none ∨ ∃ d b, gslot ops o = some (d, b) ∧ s.env d = .v (.bool b)) ∧ (∃ x args ts xs, o.op = .call { callee := .value x, args := ⟨args⟩, argTypes := ts } ∧ opd s x = .v (.func (.yield l) #[] #[]) ∧ e i = some xs ∧ LeL (opds s args) xs ∧ closedL (opds s args) = true) ∧
    (∀ d, o.dst = some d → d < n) ∧ (Fl P n ops ⟨false, []⟩ l2 ((Eff.mk (.v (.bool true)) [] [] [] []).app o.dst s) [] (fun ex s2 => ex = .normal ∧ (i + 1 < N → Q .normal (some (i + 1)) s2))) ∧
    Fl P n ops ⟨false, []⟩ l2 ((Eff.mk (.v (.bool false)) [] [] [] []).app o.dst s) [] (fun ex s2 => ex = .normal ∧ Q .normal none s2)
theorem fl_ok {ops : Array Oper} {l : List Oper} {s : St} {K : St → Prop} (k : Fl P n ops ⟨false, []⟩ l s [] (fun ex s => ex = .normal ∧ K s)) : ∃ Es s', Ch P n [] ops l s Es s' ∧ K s' := by
 rcases k.out with ⟨Es, s', hch, _, _, hK⟩ | ⟨_, _, _, _, _, _, _, _, _, _, _, _, _, hQf⟩
 ·exact ⟨Es, s', hch, hK⟩
 ·exact absurd (hQf rfl).1 (by simp)
theorem IWP.yieldR {id i : Nat} {ops : Array Oper} {o : Oper} {l1 l2 : List Oper} (hs : ops.toList = l1 ++ o :: l2)
  (k : Fl P n ops ⟨false, []⟩ l1 s [] (fun ex s1 => ex = .normal ∧ YieldQ P n l e N i ops o l2 Q s1)) : IWP P n I l e N (.region id ops false) Q (some i) s := ⟨fun J Jx E C a w h β hi hd b hh => by
 obtain ⟨Es, s1, hch, yq⟩ := fl_ok k;obtain ⟨hgd, ⟨x, args, ts, xs, hop, hx, hei, hle, hcl⟩, hdst, kt, kf⟩ := yq.out;obtain ⟨Et, st, cht, qt⟩ := fl_ok kt;obtain ⟨Ef, sf, chf, qf⟩ := fl_ok kf;have hr := b.reroot [] (β0 := C.β0) b.b0
 have ha : { a with defers := [] } = a := by cases a; simp only [Act.mk.injEq, true_and]; exact (b.defers.trans hd).symm
 rw [ha] at hr
 have hsz : ops.size = l1.length + (1 + l2.length) := by rw [← Array.length_toList, hs]; simp; omega
 have hlt : l1.length < ops.size := by omega
 have ho : ops[l1.length]? = some o := by
  have : ops.toList[l1.length]? = some o := by rw [hs, List.getElem?_append_right (Nat.le_refl _), Nat.sub_self]; rfl
  simpa using this
 have hrg : List.range ops.size = List.range l1.length ++ (l1.length :: List.range' (l1.length + 1) l2.length) := by
  rw [List.range_eq_range', List.range_eq_range', hsz, ← List.range'_append_1, Nat.zero_add, Nat.add_comm 1, List.range'_succ]
 refine wpIn_region ?_;rw [hrg];refine wp_seq_opsW hch _ (List.range l1.length) a w h β (by simp) (fun j i o h1 h2 => ?_) hr (fun A0 A hA β1 b1 => ?_)
 ·have hj : j < l1.length := (List.getElem?_eq_some_iff.1 h2).1;rw [List.getElem?_range hj] at h1;injection h1 with h1;subst h1
  have : ops.toList[j]? = some o := by rw [hs, List.getElem?_append_left hj]; exact h2
  simpa using this
 have hh1 := E.hold hh b1.evo (own_step b1);simp only [wpOpsIn, ho]
 have hw : Region.wanted o (yielded ops A0.tmps) = true := by
  rcases hgd with hg | ⟨d, b', hg, hsb⟩
  ·simp [Region.wanted, hg]
  ·rw [yielded_of b1 hg hsb]; simp
 simp only [hw, if_true];have hxr := opd_rep b1 x;rw [hx] at hxr;simp only [Rep] at hxr;have har : RepL hA noB xs (args.map A0.eval) := hle _ _ _ (RepL.closed _ _ hcl (opds_rep b1 args));obtain ⟨fn, tmps, asg, body, hyd, hR⟩ := E.round i xs A hA (ownM s1 β1) (args.map A0.eval).toArray hei b1.evo.has hh1 (by simpa using har);refine ⟨fun _ _ => trivial, ?_⟩;show o.uponIn Fence.wide 0 P A0 _ _ ((execOp A0.eval o).run P A)
 have hex : (execOp A0.eval o).run P A = .ok (.round l fn tmps asg body) A := by
  simp only [execOp, hop, resolve, hxr, Deferred.ofValue, Sem.run_bind, Sem.run_pure, Result.andThen, invoke, List.map_toArray];simpa using hyd
 rw [hex];refine ⟨fun hd => (by cases hd), hR.mono fun en B hB => ?_⟩
 have tail : ∀ (t : Bool) (hB : Hp) (ph' : Option Nat) (s2 : St) (E2 : List Eff), Evo (fun g => ¬ ownM s1 β1 g) A hA B hB → Hold J Jx ph' B hB (ownM s1 β1) → Ch P n [] ops l2 ((Eff.mk (.v (.bool t)) [] [] [] []).app o.dst s1) E2 s2 →
   (∀ w' h' T, Hold J Jx ph' w' h' T → Q .normal ph' s2) → wpOpsIn Fence.wide 0 P ops (fun ex a' w' => ∃ C' ph' s' h' β', IniOk C' I ∧ C'.dfr = [] ∧ Base C' n s' a' w' h' β' ∧ Hold J Jx ph' w' h' (ownM s' β') ∧ Q ex ph' s') (List.range' (l1.length + 1) l2.length) (A0.put o.dst (.bool t)) B := by
  intro t hB ph' s2 E2 ev hh2 c2 q2;have b2 := b1.rerootN ev (fun g hn ho => hn ho) [] (β0 := C.β0) b1.b0
  have ha2 : { A0 with defers := [] } = A0 := by cases A0; simp only [Act.mk.injEq, true_and]; exact b1.defers.symm
  rw [ha2] at b2;have b3 := b2.val (v := .v (.bool t)) (u := .bool t) o.dst hdst rfl [];have := wp_seq_opsW (Q := fun ex a' w' => ∃ C' ph' s' h' β', IniOk C' I ∧ C'.dfr = [] ∧ Base C' n s' a' w' h' β' ∧ Hold J Jx ph' w' h' (ownM s' β') ∧ Q ex ph' s') c2 [] (List.range' (l1.length + 1) l2.length) _ B hB β1 (by simp) (fun j i o h1 h2 => ?_) b3 (fun a' w' h' β' b4 => ⟨⟨B, hB, C.β0, ownM s1 β1, []⟩, ph', s2, h', β', hi, rfl, b4, E.hold hh2 b4.evo (own_step b4), q2 _ _ _ hh2⟩)
  ·rwa [List.append_nil] at this
  ·have hj : j < l2.length := (List.getElem?_eq_some_iff.1 h2).1;rw [List.getElem?_range' hj] at h1;injection h1 with h1;subst h1
   have : ops.toList[l1.length + 1 + j]? = some o := by
    rw [hs, List.getElem?_append_right (by omega), show l1.length + 1 + j - l1.length = j + 1 by omega]; exact h2
   simpa using this
 obtain ⟨h2, ev, ⟨rfl, hJ⟩ | ⟨rfl, hJ⟩⟩ := hB
 ·exact tail true h2 (some (i + 1)) st Et ev hJ cht fun w' h' T k => qt (E.bound _ _ _ _ k)
 ·exact tail false h2 none sf Ef ev hJ chf fun w' h' T k => qf⟩
theorem base_init {args : List AV} {us : Array Value} {hp : Hp} (hw : Has w hp) (hr : RepL hp noB args us.toList) (hl : args.length ≤ n) : Base ⟨w, hp, noB, never, []⟩ n (St.init args) { tmps := us ++ Array.replicate (n - us.size) undef, defers := [] } w hp noB := by
 have hus : us.size = args.length := by rw [← Array.length_toList]; exact hr.length
 refine ⟨Evo.refl _ hw, Bt.le.refl _, fun i => ?_, fun id B hB => by simp [St.init] at hB, fun _ _ _ _ hB => by simp [St.init] at hB, fun _ _ _ hB => by simp [St.init] at hB, fun _ _ => rfl, by simp; omega, rfl⟩;simp only [St.init];by_cases hi : i < us.size
 ·have hget : (us ++ Array.replicate (n - us.size) undef).getD i undef = us[i] := by
   simp [Array.getD_eq_getD_getElem?, Array.getElem?_append, hi]
  rw [hget]
  have : ∀ (azs : List AV) (vs : List Value) (i : Nat) (v : Value), RepL hp noB azs vs → vs[i]? = some v → Rep hp noB (initE azs i) v := by
   intro azs
   induction azs with
   | nil => intro vs i v hr hv; simp only [RepL] at hr; subst hr; simp at hv
   | cons a azs ih =>
    intro vs i v hr hv;simp only [RepL] at hr;obtain ⟨u, r', rfl, h1, h2⟩ := hr
    cases i with
    | zero => simp at hv; subst hv; exact h1
    | succ i => exact ih r' i v h2 (by simpa using hv)
  exact this args us.toList i _ hr (by simp [hi])
 ·have : ∀ (azs : List AV) (i : Nat), azs.length ≤ i → initE azs i = .any := by
   intro azs
   induction azs with
   | nil => intro i _; rfl
   | cons a azs ih => intro i hi; cases i with
    | zero => simp at hi
    | succ i => exact ih i (by simpa using hi)
  rw [this args i (by omega)];simp only [Rep]
theorem IterFn.of_body [f : Facts P tab] {k : FuncId} {fn : Func} {c : Code} {caps : List AV} (hf : P.funcs[k]? = some fn) (hb : fn.body = some c) (hn : fn.ntmps = n) (hname : (fn.name == "runtime.NumGoroutine") = false) (hl : Nat.ble (caps.length + 1) n = true) (hres : fn.results.toList = [])
  (hk : ∀ l, IWP P n [] l e N c (fun ex ph _ => (ex = .normal ∨ ex = .ret) ∧ ∀ i, ph = some i → e i = none) (some 0) (St.init (.v (.func (.yield l) #[] #[]) :: caps))) : IterFn P k caps e N := by
 have hl := Nat.le_of_ble_eq_true hl;refine ⟨⟨fn, hf, hname, by rw [hb]; rfl⟩, fun W h us l J Jx hw hr stab stabx round bound h0 => ?_⟩;refine callsIn_wide.1 (callsIn_of_wp (F := Fence.wide) (n := 0) hf hb trivial ?_ rfl)
 have hr2 : RepL h noB (.v (.func (.yield l) #[] #[]) :: caps) (#[Value.func (.yield l) #[] #[]] ++ us).toList := by
  simp only [RepL, Array.toList_append];exact ⟨_, us.toList, rfl, rfl, hr⟩
 have hbase := base_init hw hr2 (n := n) (by simp; omega);subst hn;have E : ItEnv P l e N J Jx := ⟨stab, stabx, round, bound⟩
 have hh : Hold J Jx (some 0) W h (ownM (St.init (.v (.func (.yield l) #[] #[]) :: caps)) noB) := E.hold (ph := some 0) h0 (Evo.refl never hw) fun g ⟨id, B, k, _⟩ => by simp [St.init] at k
 refine wpIn_mono ((hk l).out J Jx E _ _ W h noB (fun id hid => (hid rfl).elim) rfl hbase hh) fun ex a' w' ⟨C', ph', s', h', β', i1, i2, b, hh, q1, q2⟩ => ?_
 have fin : a'.defers = [] ∧ ∃ v, (results fn a'.tmps).run P w' = .ok v w' ∧ ∃ v' hB T, Ending.returned v = .returned v' ∧ ((∃ i, e i = none ∧ J i w' hB T) ∨ Jx w' hB T) := by
  obtain ⟨v, hv, _⟩ := results_ok (P := P) (fn := fn) b (r := .tup []) (by rw [hres]; rfl);refine ⟨b.defers.trans i2, v, hv, v, h', ownM s' β', rfl, ?_⟩
  cases ph' with
  | none => exact .inr hh
  | some i => exact .inl ⟨i, q2 i rfl, hh⟩
 rcases q1 with rfl | rfl
 ·exact fin
 ·exact fin
end
end Go.AL
/- Iterators, rounds, functions with loops: joined to the walk of regions. -/
namespace Go.AL
section
variable {P : Program} {tab : Tab} {n : Nat} {I : List Id} {l : Nat} {e : Nat → Option (List AV)} {N : Nat} {ph : Option Nat} {s : St}
theorem IWP.seqL {c d : Code} {Q : Exit → Option Nat → St → Prop} (k : AWP P n I c (AThen (fun s => Stop (IWP P n I l e N d Q ph s)) (fun ex s => Q ex ph s)) s) : IWP P n I l e N (.seq c d) Q ph s :=
 IWP.seq (IWP.lift k fun ex s q => by
  cases ex with
  | normal => exact q.out
  | _ => exact q)
theorem FWP.seqL {c d : Code} {Q : Exit → St → Prop} (k : AWP P n I c (AThen (fun s => Stop (FWP P n I d Q s)) Q) s) : FWP P n I (.seq c d) Q s :=
 FWP.seq (FWP.lift (k.mono fun ex s q => by
  cases ex with
  | normal => exact q.out
  | _ => exact q))
theorem RWP.seqR [f : Facts P tab] {id : Nat} {ops : Array Oper} {draw : Bool} {d : Code} {Q : Exit → St → Prop} (hnd : noDefer ops = true) (k : Fl P n ops ⟨draw, []⟩ ops.toList s [] (fun ex s => ex = .normal ∧ RWP P n I l d Q s)) : RWP P n I l (.seq (.region id ops draw) d) Q s :=
 RWP.seq (RWP.region (K := fun s => RWP P n I l d Q s) hnd (fun s k => k) k)
theorem IWP.yieldT {Q : Exit → Option Nat → St → Prop} {id i : Nat} {ops : Array Oper} {o : Oper} {l2 : List Oper} (m : Nat) (hs : ops.toList.drop m = o :: l2)
  (k : Fl P n ops ⟨false, []⟩ (ops.toList.take m) s [] (fun ex s1 => ex = .normal ∧ YieldQ P n l e N i ops o l2 Q s1)) : IWP P n I l e N (.region id ops false) Q (some i) s :=
 IWP.yieldR (by rw [← hs, List.take_append_drop]) k
theorem IWP.last {c : Code} {Q : Exit → Option Nat → St → Prop} (k : AWP P n I c (fun ex s => Q ex ph s) s) : IWP P n I l e N c Q ph s := IWP.lift k fun _ _ q => q
theorem Ent.anyS {s' : St} (he : Ent n I s s') : Ent n I s (Go.AL.anyS s') := fun C a w hp β hi b =>
 let ⟨h', β', b'⟩ := he C a w hp β hi b
 ⟨h', β', ⟨b'.evo, b'.b0, fun _ => by simp only [Go.AL.anyS, Rep], b'.box, b'.apart, b'.own, b'.dom, b'.size, b'.defers⟩⟩
theorem lookE_within {ids : List Id} : ∀ {m : List (Nat × AV)}, (m.all fun p => p.2.within ids) = true → ∀ t, (lookE m t).within ids = true
 | [], _, _ => rfl
 | (j, v) :: m, h, t => by
  simp only [List.all_cons, Bool.and_eq_true] at h;rw [lookE]
  cases Nat.beq t j with
  | true => exact h.1
  | false => exact lookE_within h.2 t
end
end Go.AL
/- lucas.Chi, where its result is a number. -/
namespace Go.AL
theorem psi_le_chi {a : Int} (ha : 2 ≤ a) (N : Nat) : psiN a (N + 1) ≤ chiN a (N + 1) := by
 obtain ⟨p1, p2, p3⟩ := cp_pos ha N;have h4 : 3 * psiN a N ≤ (a * a - 1) * psiN a N := Int.mul_le_mul_of_nonneg_right (by have := Int.mul_le_mul ha ha (by omega) (by omega); omega) p2;have h5 : 2 * chiN a N ≤ a * chiN a N := Int.mul_le_mul_of_nonneg_right ha (by omega);have h6 : (a - 2) * (psiN a N) ≤ (a - 2) * chiN a N := Int.mul_le_mul_of_nonneg_left p3 (by omega);have h7 : a * psiN a N ≤ a * (a * psiN a N) := Int.mul_le_mul_of_nonneg_left (by have := Int.mul_le_mul_of_nonneg_right (show 1 ≤ a by omega) p2; omega) (by omega);rw [psi_succ, chi_succ]
 have e1 : (a - 2) * (psiN a N) = a * psiN a N - 2 * psiN a N := by grind
 have e2 : (a - 2) * (chiN a N) = a * chiN a N - 2 * chiN a N := by grind
 have e3 : (a * a - 1) * psiN a N = a * (a * psiN a N) - psiN a N := by grind
 omega
end Go.AL
namespace Go.Proofs.YtcaecieigoplbaaGreat
open Go.AL
end Go.Proofs.YtcaecieigoplbaaGreat
/- Powers by psi: plain. -/
namespace Go.AL
end Go.AL
/- The values of built polynomials; bounds. -/
namespace Go.AL
theorem prodE_zeros : ∀ (X : List Int) (n : Nat), prodE X (List.replicate n 0) = 1
 | [], 0 => rfl
 | [], _ + 1 => rfl
 | _ :: _, 0 => rfl
 | x :: X, n + 1 => by rw [List.replicate_succ, prodE, prodE_zeros X n]; simp
theorem prodE_unit : ∀ (X : List Int) (i : Nat), i < X.length → prodE X (unU X.length i) = X.getD i 0
 | [], i, h => by simp at h
 | x :: X, 0, _ => by
  unfold unU;rw [List.length_cons, List.replicate_succ, List.set_cons_zero, prodE, prodE_zeros];simp [Int.pow_succ]
 | x :: X, i + 1, h => by
  have ih := prodE_unit X i (by simpa using h);unfold unU at ih ⊢;rw [List.length_cons, List.replicate_succ, List.set_cons_succ, prodE, ih];simp
theorem uv_con (X : List Int) (V : Nat) (c : Int) : uv X (conU V c) = c := by
 unfold conU uv;split
 ·rename_i h; rw [h]; rfl
 ·simp [sumL, prodE_zeros]
theorem uv_var {X : List Int} {V i : Nat} (hX : X.length = V) (hi : i < V) : uv X (varU V i) = X.getD i 0 := by
 subst hX;unfold varU uv;simp only [List.map_cons, List.map_nil, sumL, prodE_unit X i hi];omega
theorem pv_mkP (X : List Int) (V : Nat) (p : List UT) : pv X (mkP V p) = uv X p := by
 rw [pv_sum];unfold mkP uv;simp only [List.map_map];congr 1;exact List.map_congr_left fun u _ => tv_tz X u
theorem chkU_UOk {V : Nat} {us l : List UT} (h : chkU V us l = true) : UOk V us := by
 simp only [chkU, Bool.and_eq_true, List.all_eq_true] at h;exact fun u hu => okU_ok (h.1.1.1.1.1.1.1 u hu)
theorem uv_chk {V : Nat} (hV : V ≤ 32) {us l : List UT} (h : chkU V us l = true) (X : List Int) : uv X l = uv X us := by
 have := (chkU_ok hV h).val hV (chkU_UOk h) X;rwa [pv_mkP] at this
theorem uv_scale (X : List Int) (b : Int) (q : List UT) : uv X (q.map fun u => (u.1 * b, u.2)) = uv X q * b := by
 unfold uv
 induction q with
 | nil => simp [sumL]
 | cons u q ih =>
  simp only [List.map_cons, sumL] at ih ⊢;rw [ih]; grind
theorem uv_addUs (X : List Int) (b : Int) (p q : List UT) : uv X (addUs b p q) = uv X p + uv X q * b := by
 unfold addUs;rw [uv_append, uv_scale]
theorem uv_mulUs {V : Nat} (X : List Int) {p q : List UT} (hp : nnU V p) (hq : nnU V q) : uv X (mulUs p q) = uv X p * uv X q := by
 unfold mulUs
 induction p with
 | nil => simp [uv, sumL]
 | cons t p ih =>
  rw [List.flatMap_cons, uv_append, ih fun u hu => hp u (by simp [hu])];have ht := hp t (by simp)
  have h1 : uv X (q.map fun u => (t.1 * u.1, addE t.2 u.2)) = t.1 * prodE X t.2 * uv X q := by
   clear ih;unfold uv
   induction q with
   | nil => simp [sumL]
   | cons u q ih2 =>
    have hu := hq u (by simp);simp only [List.map_cons, sumL];rw [ih2 fun v hv => hq v (by simp [hv]), prodE_add ht.2 hu.2 (by rw [ht.1, hu.1])];grind
  rw [h1];show _ = (t.1 * prodE X t.2 + uv X p) * uv X q;grind
theorem chk_nn {V : Nat} {p : List UT} (h : chkU V p p = true) : nnU V p := chkU_UOk h
theorem uv_sums {V : Nat} (hV : V ≤ 32) (X : List Int) : ∀ (ls : List (List UT)) (acc : List UT), okSums V acc ls = true → uv X (sumsU acc ls) = uv X acc + sumL (ls.map (uv X))
 | [], acc, _ => by simp [sumsU, sumL]
 | p :: ls, acc, h => by
  obtain ⟨c1, c2, c3, c4⟩ := okSums_cons h;show uv X (sumsU (addL acc p) ls) = _;rw [uv_sums hV X ls _ c4, uv_chk hV c3, uv_addUs];simp only [List.map_cons, sumL];omega
def prodL : List Int → Int
  | [] => 1
  | x :: l => x * prodL l
theorem uv_muls {V : Nat} (hV : V ≤ 32) (X : List Int) : ∀ (ls : List (List UT)) (acc : List UT), okMuls V acc ls = true → uv X (mulsU acc ls) = uv X acc * prodL (ls.map (uv X))
 | [], acc, _ => by simp [mulsU, prodL]
 | p :: ls, acc, h => by
  obtain ⟨c1, c2, c3, c4, c5⟩ := okMuls_cons h;show uv X (mulsU (mulL2 acc p) ls) = _;rw [uv_muls hV X ls _ c5, uv_chk hV c4, uv_mulUs X (chk_nn c1) (chk_nn c2)];simp only [List.map_cons, prodL];rw [Int.mul_assoc]
theorem uv_sub {V : Nat} (hV : V ≤ 32) (X : List Int) {p q : List UT} (h : chkU V (addUs (-1) p q) (subL p q) = true) : uv X (subL p q) = uv X p - uv X q := by
 rw [uv_chk hV h, uv_addUs]; omega
end Go.AL
/- mask.Witness. -/
namespace Go.AL
section
variable {P : Program} {tab : Tab} {n : Nat} {s : St}
variable {ops : Array Oper} {draw : Dr} {o : Oper} {l : List Oper} {acc : List Eff} {K : Exit → St → Prop}
theorem Fl.rldK [f : Facts P tab] {t : TypeId} {x : Operand} (hop : o.op = .load t x) {b : Id} {off : Nat} (hx : opd s x = .rptr b off) {α : Type} {sz : Nat} {enc : α → List AV} {xs : List α} {bt : TypeId} (hb : s.bx b = some (.row sz enc xs bt)) {i : TI} (hti : tab t = some i) (hg : gOk ops s o = true) (hd : dOk n o.dst = true)
  {j : Nat} (hj : off = j * sz) {v : α → AV} (hv : ∀ x0, ofCells (aggD i.desc) i.size (enc x0) = some (v x0)) (hvc : ∀ x0, (v x0).closed = true) {x0 : α} (he : xs[j]? = some x0)
  (r : Fl P n ops draw l ((Eff.mk (v x0) [] [] [] [b]).app o.dst s) (Eff.mk (v x0) [] [] [] [b] :: acc) K) : Fl P n ops draw (o :: l) s acc K :=
 Fl.opv hg (OpJ.rload f.tabOk (dOk_lt hd) hop hx hb hti hj he (hv _) (hvc _)) r
theorem Fl.relK [f : Facts P tab] {t : TypeId} {x y : Operand} (hop : o.op = .indexAddr t x y) {b : Id} (hx : opd s x = .row b) {k : IntKind} {m : Int} (hy : opd s y = .v (.int k m)) {e : TypeId} {i : TI} {sz' by' : Nat} {z : List Value} (hts : tab t = some ⟨.slice e, sz', by', z⟩) (hti : tab e = some i) {α : Type} {sz : Nat} {enc : α → List AV} {xs : List α} {bt : TypeId} (hb : s.bx b = some (.row sz enc xs bt)) (hg : gOk ops s o = true) (hd : dOk n o.dst = true)
  (hm : (decide (0 ≤ m) && Nat.blt m.toNat xs.length) = true)
  (r : Fl P n ops draw l ((Eff.mk (.rptr b (m.toNat * i.size)) [] [] [] [b]).app o.dst s) (Eff.mk (.rptr b (m.toNat * i.size)) [] [] [] [b] :: acc) K) : Fl P n ops draw (o :: l) s acc K := by
 simp only [Bool.and_eq_true, decide_eq_true_eq] at hm;have := ltOf hm.2;exact Fl.rel hop hx hy hts hti hb hg hd hm.1 (by omega) r
theorem Fl.rstK [f : Facts P tab] {t : TypeId} {x y : Operand} (hop : o.op = .store t x y) {b : Id} {off : Nat} (hx : opd s x = .rptr b off) (hg : gOk ops s o = true) (hdst : o.dst = none) {α : Type} {sz : Nat} {enc : α → List AV} {xs : List α} {bt : TypeId} (hb : s.bx b = some (.row sz enc xs bt)) {i : TI} (hti : tab t = some i)
  {vs : List AV} (hv : cellsL (opd s y) = some vs) (hvc : closedL vs = true) (hsz : Nat.beq vs.length i.size = true) (hsz2 : Nat.beq i.size sz = true) {j : Nat} (hj : off = j * sz) {x1 : α} (hle : LeL vs (enc x1)) (hel : Nat.beq (enc x1).length sz = true) (hjl : Nat.blt j xs.length = true)
  (r : Fl P n ops draw l ((Eff.mk .any [(b, .row sz enc (xs.set j x1) bt)] [] [] [b]).app o.dst s) (Eff.mk .any [(b, .row sz enc (xs.set j x1) bt)] [] [] [b] :: acc) K) (hJ : presOk draw.J (Eff.mk .any [(b, .row sz enc (xs.set j x1) bt)] [] [] [b]) := by repeat' (first | exact True.intro | exact rfl | refine ⟨?_, ?_⟩ | fail)) : Fl P n ops draw (o :: l) s acc K :=
 Fl.rst hop hx hg hdst hb hti hv hvc hsz hsz2 hj hle hel (ltOf hjl) r hJ
end
structure MW where
  u : Int
  p : Int
  q : Int
  z : Int
  y : Int
  r : Int
  s : Int
  t : Int
def MW.X (w : MW) (a b : Int) : List Int := [a, b, w.u, w.p, w.q, w.z, w.y, w.r, w.s, w.t]
theorem fit_pow2 {x : Int} {m : Nat} (h0 : 0 ≤ x) (h : x ≤ 2 ^ m) (hm : m < 131072) : Fit x := by
 refine Fit.mk ?_;rw [BB_pow, show 32 * 4096 = 131072 from rfl];have h4 : (2 : Int) ^ m < 2 ^ (131072 : Nat) := Int.pow_lt_pow_of_lt (by omega) hm;omega
end Go.AL
namespace Go.Proofs.YtcaecieigoplbaaGreat
open Go.AL
theorem chainOk {o : Option Int} {f : FuncId} {args : List AV} {x : Int} (hf : Fit x) (h : IoFn Tryz.prog f args [(900, chB o 0)] (.ret (aX (cV 0 x))) [(900, chB o (cE 0 x))]) : IoFn Tryz.prog f args [(900, chB o 0)] (.ret (aX x)) [(900, chB o 0)] := by
 rw [cV_ok hf, cE_ok hf] at h;exact h
end Go.Proofs.YtcaecieigoplbaaGreat
/- power.Witness, where all its numbers fit. -/
namespace Go.AL
structure PW where
  c : Int
  A : Int
  Y : Int
  X : Int
  M : Int
  z : Int
  y : Int
def pw (b e : Int) : PW :=
  let c := b ^ e.toNat
  let A := psiN (b + 2) (e.toNat + 2)
  let Y := psiN A (e.toNat + 1)
  let X := chiN A (e.toNat + 1)
  let M := A * b + ((A - b) * b - 1)
  ⟨c, A, Y, X, M, (X - (A - b) * Y - c * b) / M, M - c * b - 1⟩
def PW.L (w : PW) (b e : Int) : List Int := [b, e, w.c, w.A, w.Y, w.X, w.M, w.z, w.y, b - 1]
theorem mul2_fit {x y : Int} (h1 : Fit x) (h2 : Fit (x * y)) : mulL 0 1 [x, y] = (x * y, 0) := by
 simp only [mulL, Int.one_mul, cV_ok h1, cE_ok h1, cV_ok h2, cE_ok h2]
end Go.AL
namespace Go.Proofs.YtcaecieigoplbaaGreat
open Go.AL
theorem chMul2 (x y : Int) (h1 : Fit x) (hy : Fit y) (h2 : Fit (x * y)) : IoFn Tryz.prog 101 [.ptr 900 0, .sl 2 eX [x, y]] [(900, chB none 0)] (.ret (aX (x * y))) [(900, chB none 0)] := by
 have h := chMul_ok none 0 [x, y] (by simp [h1, hy]) (by simp);rw [mul2_fit h1 h2] at h;exact h
end Go.Proofs.YtcaecieigoplbaaGreat
namespace Go.AL
end Go.AL
namespace Go.Proofs.YtcaecieigoplbaaGreat
open Go.AL
theorem rAll_ok (zs : List Z) (hz : ∀ z ∈ zs, WOk z.w) (hm : ∀ z ∈ zs, z.w.length ≤ 9223372036854775807) (hl : zs.length ≤ 1000000000) : PureFn Tryz.prog 55 [.sl 2 eZ zs] (aB (decide (∀ z ∈ zs, OkZ z))) := by
 refine PureFn.of_body Tryz.func55 rfl Tryz.ntmps55 rfl rfl ?_;(repeat' (first |refine qv ?_ |apply qn |apply qs |apply qr |apply qb));refine AWP.loop (G := Nat) (fun i => i ≤ zs.length ∧ ∀ z ∈ zs.take i, OkZ z) (fun i => St.of [] [(0, .sl 2 eZ zs), (3, aN i)] []) (fun i => zs.length - i) 0 ⟨by omega, by simp⟩ ?_ ?_
 ·refine Ent.of [] ?_ ?_ rfl rfl;(repeat' (first |exact True.intro |refine ⟨⟨AV.Le.refl _, rfl⟩, ?_⟩|fail))
 ·intro i ⟨h0, h1⟩;by_cases hi : i < zs.length
  ·obtain ⟨z, hzi⟩ : ∃ z, zs[i]? = some z := ⟨_, List.getElem?_eq_getElem hi⟩;have hm1 := List.mem_of_getElem? hzi;(repeat' (first |refine qv ?_ |apply qn |apply qs |apply qr |(refine AWP.condD rfl ?_ ?_ <;> intro _ <;> try (exfalso; omega)) |apply qb |apply qk |refine qK ?_|fail));refine qc (rValid_ok z (hz z hm1) (hm z hm1)) ?_;(repeat' (first |refine qv ?_ |apply qn |apply qs |apply qr |refine qw ?_ |(refine AWP.condN rfl ?_ ?_ <;> intro _ <;> try (exfalso; omega)) |apply qk |apply qt))
   ·rename_i h;exact RetOk.of rfl (AV.Le.bool (Eq.symm (decide_eq_false fun k => h (k z hm1))))
   ·rename_i h;refine LoopEnd.of (i + 1) ⟨by omega, all_take_succ hzi h1 h⟩ (by omega) ?_;refine Ent.of [] ?_ ?_ rfl rfl;(repeat' (first |exact True.intro |refine ⟨⟨AV.Le.refl _, rfl⟩, ?_⟩|fail))
  ·(repeat' (first |refine qv ?_ |apply qn |apply qs |apply qr |(refine AWP.condD rfl ?_ ?_ <;> intro _ <;> try (exfalso; omega)) |apply qx |apply qt));rw [List.take_of_length_le (by omega)] at h1;exact RetOk.of rfl (AV.Le.bool (Eq.symm (decide_eq_true h1)))
theorem rNaturals_ok (X : List Int) (hl : X.length ≤ 1000000000) : PureFn Tryz.prog 56 [.sl 2 eX X] (aB (decide (∀ x ∈ X, 0 ≤ x))) := by
 refine PureFn.of_body Tryz.func56 rfl Tryz.ntmps56 rfl rfl ?_;(repeat' (first |refine qv ?_ |apply qn |apply qs |apply qr |apply qb));refine AWP.loop (G := Nat) (fun i => i ≤ X.length ∧ ∀ z ∈ X.take i, 0 ≤ z) (fun i => St.of [] [(0, .sl 2 eX X), (3, aN i)] []) (fun i => X.length - i) 0 ⟨by omega, by simp⟩ ?_ ?_
 ·refine Ent.of [] ?_ ?_ rfl rfl;(repeat' (first |exact True.intro |refine ⟨⟨AV.Le.refl _, rfl⟩, ?_⟩|fail))
 ·intro i ⟨h0, h1⟩;by_cases hi : i < X.length
  ·obtain ⟨z, hzi⟩ : ∃ z, X[i]? = some z := ⟨_, List.getElem?_eq_getElem hi⟩;have hm1 := List.mem_of_getElem? hzi;(repeat' (first |refine qv ?_ |apply qn |apply qs |apply qr |refine qw ?_ |(refine AWP.condD rfl ?_ ?_ <;> intro _ <;> try (exfalso; omega)) |apply qb |apply qk |apply qt |refine qK ?_|fail))
   ·rename_i h;exact RetOk.of rfl (AV.Le.bool (Eq.symm (decide_eq_false fun k => by have := k z hm1; omega)))
   ·rename_i h;refine LoopEnd.of (i + 1) ⟨by omega, all_take_succ hzi h1 (by omega)⟩ (by omega) ?_;refine Ent.of [] ?_ ?_ rfl rfl;(repeat' (first |exact True.intro |refine ⟨⟨AV.Le.refl _, rfl⟩, ?_⟩|fail))
  ·(repeat' (first |refine qv ?_ |apply qn |apply qs |apply qr |(refine AWP.condD rfl ?_ ?_ <;> intro _ <;> try (exfalso; omega)) |apply qx |apply qt));rw [List.take_of_length_le (by omega)] at h1;exact RetOk.of rfl (AV.Le.bool (Eq.symm (decide_eq_true h1)))
end Go.Proofs.YtcaecieigoplbaaGreat
namespace Go.AL
end Go.AL
namespace Go.Proofs.YtcaecieigoplbaaGreat
open Go.AL
end Go.Proofs.YtcaecieigoplbaaGreat
namespace Go.AL
def bitl (n : Nat) : Nat := if n = 0 then 0 else Nat.log2 n + 1
theorem bitl_eq {n k : Nat} (h1 : 2 ^ k ≤ n) (h2 : n < 2 ^ (k + 1)) : bitl n = k + 1 := by
 have := Nat.two_pow_pos k;rw [bitl, if_neg (by omega), (Nat.log2_eq_iff (by omega)).2 ⟨h1, h2⟩]
theorem bitl_lt (n : Nat) : n < 2 ^ bitl n := by
 unfold bitl;split
 ·omega
 ·exact Nat.lt_log2_self
theorem bitl_words {m n k : Nat} {u lo : Int} (hk : 1 ≤ k) (hlo : 0 ≤ lo) (hlo2 : lo < BB n) (hm : (m : Int) = lo + BB n * u) (h1 : 2 ^ (k - 1) ≤ u.toNat) (h2 : u.toNat < 2 ^ k) : bitl m = 32 * n + k := by
 have hB : BB n = ((2 ^ (32 * n) : Nat) : Int) := by rw [BB_pow]; simp
 have hup : u = (u.toNat : Int) := by
  have := Nat.two_pow_pos (k - 1);omega
 have hlt : ∃ l : Nat, lo = (l : Int) := ⟨lo.toNat, by omega⟩;obtain ⟨l, rfl⟩ := hlt
 have hm' : m = l + 2 ^ (32 * n) * u.toNat := by
  rw [hB, hup] at hm;exact_mod_cast hm
 have hl : l < 2 ^ (32 * n) := by rw [hB] at hlo2; exact_mod_cast hlo2
 have e : 32 * n + k = (32 * n + (k - 1)) + 1 := by omega
 rw [e];refine bitl_eq ?_ ?_
 ·rw [Nat.pow_add, hm'];have := Nat.mul_le_mul_left (2 ^ (32 * n)) h1;omega
 ·rw [← e, Nat.pow_add, hm'];have h3 : u.toNat + 1 ≤ 2 ^ k := h2;have := Nat.mul_le_mul_left (2 ^ (32 * n)) h3;rw [Nat.mul_add] at this;omega
end Go.AL
namespace Go.Proofs.YtcaecieigoplbaaGreat
open Go.AL
end Go.Proofs.YtcaecieigoplbaaGreat
namespace Go.AL
end Go.AL
namespace Go.Proofs.YtcaecieigoplbaaGreat
open Go.AL
end Go.Proofs.YtcaecieigoplbaaGreat
namespace Go.AL
theorem psi_one (a : Int) : psiN a 1 = 1 := by rw [psi_succ, psi_zero, Int.mul_zero]; rfl
theorem psi_rec (a : Int) (n : Nat) : (a + a) * psiN a (n + 1) - psiN a n = psiN a (n + 2) := by
 have h1 := psi_succ a (n + 1);have h2 := chi_succ a n;have h3 := psi_succ a n;rw [show n + 1 + 1 = n + 2 from rfl] at h1;grind
end Go.AL
namespace Go.Proofs.YtcaecieigoplbaaGreat
open Go.AL
end Go.Proofs.YtcaecieigoplbaaGreat
/- ref01.shifted. -/
namespace Go.AL
end Go.AL
namespace Go.Proofs.YtcaecieigoplbaaGreat
open Go.AL
end Go.Proofs.YtcaecieigoplbaaGreat
/- ref01.Shift, by a number that is not negative. -/
namespace Go.Proofs.YtcaecieigoplbaaGreat
open Go.AL
end Go.Proofs.YtcaecieigoplbaaGreat
/- ref01.short: by one word. -/
namespace Go.Proofs.YtcaecieigoplbaaGreat
open Go.AL
end Go.Proofs.YtcaecieigoplbaaGreat
/- ref01.long, by several words: plain facts. -/
namespace Go.AL
end Go.AL
/- ref01.Shift to the right, of a number that is not negative. -/
namespace Go.AL
end Go.AL
namespace Go.Proofs.YtcaecieigoplbaaGreat
open Go.AL
end Go.Proofs.YtcaecieigoplbaaGreat
/- ref01.long, by several words: the walk. -/
namespace Go.Proofs.YtcaecieigoplbaaGreat
open Go.AL
end Go.Proofs.YtcaecieigoplbaaGreat
/- ref01.Div and Divides. -/
namespace Go.AL
end Go.AL
namespace Go.Proofs.YtcaecieigoplbaaGreat
open Go.AL
end Go.Proofs.YtcaecieigoplbaaGreat
/- lucas.Chi in full; the reference's Pair. -/
namespace Go.AL
theorem chi_res2 {a : Int} {N : Nat} (ha : 2 ≤ a) (hf : Fit a) (hN : N < 2 ^ 63) {r : Int × Int} (hr : r = chF a (atL a N 63 (1, 0, 0)).2.2 (atL a N 63 (1, 0, 0)).1 (atL a N 63 (1, 0, 0)).2.1) : r.1 = clip (chiN a (N + 1)) ∧ r.2 = szErr (chiN a (N + 1)) := by
 have h := atL_ok ha hf (N := N) 63 (1, 0, 0) (.inl (by rw [Nat.div_eq_of_lt hN, chi_zero, psi_zero]))
 have hz : r.2 ≠ 0 → r.1 = 0 := by
  rw [hr]; unfold chF; exact fun h => cV_of_cE h
 have fin : r.2 = 4 → ¬ Fit (chiN a (N + 1)) → r.1 = clip (chiN a (N + 1)) ∧ r.2 = szErr (chiN a (N + 1)) := fun h1 h2 => by
  rw [clip_not h2, szErr_not h2];exact ⟨hz (by omega), h1⟩
 obtain ⟨p1, p2, p3⟩ := cp_pos ha N;rcases h with h | ⟨h1, h2⟩
 ·rw [h] at hr;simp only [Nat.pow_zero, Nat.div_one] at hr;have e1 : 0 ≤ a * psiN a N := Int.mul_nonneg (by omega) p2;have e2 : 0 ≤ a * (a * psiN a N) := Int.mul_nonneg (by omega) e1;have e3 : 0 ≤ a * chiN a N := Int.mul_nonneg (by omega) (by omega);have e4 : 2 * (a * psiN a N) ≤ a * (a * psiN a N) := Int.mul_le_mul_of_nonneg_right ha e1;have e5 : 2 * psiN a N ≤ a * psiN a N := Int.mul_le_mul_of_nonneg_right ha p2;have e6 : 2 * chiN a N ≤ a * chiN a N := Int.mul_le_mul_of_nonneg_right ha (by omega)
  have hs : a * chiN a N + (a * (a * psiN a N) - psiN a N) = chiN a (N + 1) := by rw [chi_succ]; grind
  rcases chF_ok (F := Fit (chiN a (N + 1))) (a := a) (c := chiN a N) (p := psiN a N) hf (fun hc => fit_of hc e1 (by omega)) (fun hc => fit_of hc e2 (by omega)) (fun hc => fit_of hc (by omega) (by omega)) (fun hc => fit_of hc e3 (by omega)) (fun hc => by rw [hs]; exact hc) with ⟨k1, kf⟩ | ⟨k2, n1⟩
  ·rw [hr, k1, hs];rw [hs] at kf;rw [clip_fit kf, szErr_fit kf]; exact ⟨rfl, rfl⟩
  ·rw [← hr] at k2;exact fin k2 n1
 ·refine fin ?_ fun hc => h2 (fit_of hc (cp_pos ha (N + 1)).2.1 (psi_le_chi ha N));rw [hr, h1, chF_err]
theorem chi_not_fit {a : Int} (ha : 2 ≤ a) {n : Nat} (h : 131072 < n) : ¬ Fit (chiN a n) := fun hc => by
 obtain ⟨m, rfl⟩ : ∃ m, n = m + 1 := ⟨n - 1, by omega⟩;exact psi_not_fit ha h (fit_of hc (cp_pos ha (m + 1)).2.1 (psi_le_chi ha m))
theorem lenI_nonneg {x : Int} {k : Nat} (h : 0 ≤ x) : lenI x ≤ k ↔ x < BB k := by
 rw [lenI_le]
 have : ((x.natAbs : Nat) : Int) = x := by omega
 rw [this]
end Go.AL
namespace Go.Proofs.YtcaecieigoplbaaGreat
open Go.AL
theorem elementC2_ok (a n : Int) (ha : Fit a) (h2 : 2 ≤ a) (h0 : 1 ≤ n) (h1 : n ≤ 9223372036854775807) : PureFn Tryz.prog 163 [aX a, aN n, aN 1, .fn 165 []] (aR (chiN a n.toNat)) := by
 refine PureFn.of_body Tryz.func163 rfl Tryz.ntmps163 rfl rfl ?_;(repeat' (first |refine qv ?_ |apply qn |apply qs |apply qr |refine qe ?_|fail));refine qc (fits_ok a ha h2) ?_;(repeat' (first |refine qv ?_ |apply qn |apply qs |apply qr |refine qe ?_ |refine AWP.condF rfl ?_ |(refine AWP.condD rfl ?_ ?_ <;> intro _ <;> try (exfalso; omega)) |apply qb |apply qk |apply qt))
 ·rename_i h;refine RetOk.of rfl ?_;rw [aR_not (chi_not_fit h2 (by omega))];exact AV.Le.tup (LeL.cons aX_zero (LeL.refl _))
 ·rename_i h;refine Fl.io rfl [(900, 33)] (walk_ok a) rfl rfl (LeL.refl _) rfl trivial rfl rfl rfl rfl rfl ?_;(repeat' (first |refine qv ?_ |apply qn |apply qs |apply qr |refine qw ?_|fail));refine qi [(900, 33)] (at_ok a (n - 1) ha (by omega) (by omega)) ?_;skip
  have hN : (((n - 1).toNat : Nat) : Int) = n - 1 := by omega
  have hfc : Fit (atL a (n - 1) 63 (1, 0, 0)).1 ∧ Fit (atL a (n - 1) 63 (1, 0, 0)).2.1 := atL_fit a (n - 1) 63 _ fit_one Fit.zero;refine Fl.ioV rfl rfl [(900, 33)] (chiS_ok a _ _ _ ha hfc.1 hfc.2) rfl rfl (LeL.refl _) rfl ⟨⟨⟨_, rfl, BLe.cells (LeL.refl _)⟩, rfl⟩, trivial⟩ rfl rfl rfl rfl rfl ?_;(repeat' (first |refine qv ?_ |apply qn |refine Fl.nil (fun _ => by kernel_rfl) ?_ |apply qs |apply qr |refine qe ?_ |apply qt));have hr := chi_res2 (a := a) (N := (n - 1).toNat) h2 ha (by omega) rfl;rw [hN, show (n - 1).toNat + 1 = n.toNat by omega] at hr;refine RetOk.of rfl (AV.Le.tup (LeL.cons (AV.Le.agg ?_) (LeL.cons (AV.Le.int hr.2) LeL.nil)));exact leX (σ := []) hr.1
theorem Chi2_ok (a n : Int) (ha : Fit a) (h2 : 2 ≤ a) (h0 : 1 ≤ n) (h1 : n ≤ 9223372036854775807) : PureFn Tryz.prog 100 [aX a, aN n] (aR (chiN a n.toNat)) := by
 refine PureFn.of_body Tryz.func100 rfl Tryz.ntmps100 rfl rfl ?_;(repeat' (first |refine qv ?_ |apply qn |apply qs |apply qr |refine qe ?_|fail));refine qc (elementC2_ok a n ha h2 h0 h1) ?_;(repeat' (first |refine qv ?_ |apply qn |refine qe ?_ |apply qt));exact RetOk.of rfl (AV.Le.refl _)
end Go.Proofs.YtcaecieigoplbaaGreat
/- Polynomials by their coefficients: what is ordered and without zeros is told by them. -/
namespace Go.AL
structure CanU (l : List UT) : Prop where
  nz : ∀ u ∈ l, u.1 ≠ 0
  pw : l.Pairwise fun u v => ordI u.2 v.2 < 0
theorem CanU.nil : CanU [] := ⟨by simp, List.Pairwise.nil⟩
theorem CanU.tail {u : UT} {l : List UT} (h : CanU (u :: l)) : CanU l := ⟨fun v hv => h.nz v (by simp [hv]), (List.pairwise_cons.1 h.pw).2⟩
theorem CanU.head {u : UT} {l : List UT} (h : CanU (u :: l)) : ∀ v ∈ l, ordI u.2 v.2 < 0 := (List.pairwise_cons.1 h.pw).1
theorem CanU.cons {u : UT} {l : List UT} (h : CanU l) (h1 : u.1 ≠ 0) (h2 : ∀ v ∈ l, ordI u.2 v.2 < 0) : CanU (u :: l) := ⟨fun v hv => by
 rcases List.mem_cons.1 hv with rfl | hv
 ·exact h1
 ·exact h.nz v hv, List.pairwise_cons.2 ⟨h2, h.pw⟩⟩
theorem insU_mem {u v : UT} : ∀ {l : List UT}, v ∈ insU u l → v.2 = u.2 ∨ ∃ w ∈ l, v.2 = w.2
 | [], h => by
  unfold insU at h;split at h
  ·simp at h
  ·simp at h; exact .inl (by rw [h])
 | w :: l, h => by
  unfold insU at h;split at h
  ·split at h
   ·exact .inr ⟨v, h, rfl⟩
   ·rcases List.mem_cons.1 h with rfl | h
    ·exact .inl rfl
    ·exact .inr ⟨v, h, rfl⟩
  ·split at h
   ·split at h
    ·exact .inr ⟨v, by simp [h], rfl⟩
    ·rcases List.mem_cons.1 h with rfl | h
     ·exact .inl rfl
     ·exact .inr ⟨v, by simp [h], rfl⟩
   ·rcases List.mem_cons.1 h with rfl | h
    ·exact .inr ⟨v, by simp, rfl⟩
    ·rcases insU_mem h with h | ⟨x, hx, e⟩
     ·exact .inl h
     ·exact .inr ⟨x, by simp [hx], e⟩
theorem insU_can {u : UT} : ∀ {l : List UT}, CanU l → CanU (insU u l)
 | [], h => by
  unfold insU;split
  ·exact CanU.nil
  ·rename_i hz; exact CanU.nil.cons hz (by simp)
 | w :: l, h => by
  unfold insU;split
  ·rename_i ho;split
   ·exact h
   ·rename_i hz;refine h.cons hz fun v hv => ?_;rcases List.mem_cons.1 hv with rfl | hv
    ·exact ho
    ·exact ordI_trans ho (h.head v hv)
  ·rename_i ho;split
   ·rename_i he;split
    ·exact h.tail
    ·rename_i hz
     exact h.tail.cons hz fun v hv => by show ordI u.2 v.2 < 0; rw [he]; exact h.head v hv
   ·rename_i he;refine (insU_can h.tail).cons (h.nz w (by simp)) fun v hv => ?_;rcases insU_mem hv with h1 | ⟨x, hx, e⟩
    ·rw [h1];rcases ordI_total u.2 w.2 with k | k | k
     ·exact absurd k ho
     ·exact absurd k he
     ·exact k
    ·rw [e]; exact h.head x hx
theorem cfU_insU (u : UT) (e : List Int) : ∀ l : List UT, cfU (insU u l) e = (if u.2 = e then u.1 else 0) + cfU l e
 | [] => by
  unfold insU;split
  ·rename_i hz; simp [cfU, hz]
  ·simp [cfU]
 | w :: l => by
  unfold insU;split
  ·split
   ·rename_i hz; simp only [cfU]; rw [hz]; split <;> omega
   ·simp only [cfU]
  ·split
   ·rename_i he;split
    ·rename_i hz;simp only [cfU];rw [he];split <;> omega
    ·simp only [cfU];rw [he];split <;> omega
   ·simp only [cfU];rw [cfU_insU u e l];omega
theorem canU_can : ∀ us : List UT, CanU (canU us)
 | [] => CanU.nil
 | u :: us => insU_can (canU_can us)
theorem cfU_canU (e : List Int) : ∀ us : List UT, cfU (canU us) e = cfU us e
 | [] => rfl
 | u :: us => by
  show cfU (insU u (canU us)) e = _;rw [cfU_insU, cfU_canU e us];rfl
theorem canU_mem {v : UT} : ∀ {us : List UT}, v ∈ canU us → ∃ w ∈ us, v.2 = w.2
 | [], h => by simp [canU] at h
 | u :: us, h => by
  have h' : v ∈ insU u (canU us) := h;rcases insU_mem h' with h1 | ⟨x, hx, e⟩
  ·exact ⟨u, by simp, h1⟩
  ·obtain ⟨w, hw, e2⟩ := canU_mem hx;exact ⟨w, by simp [hw], by rw [e, e2]⟩
theorem zOf_inj {x y : Int} (h : zOf x = zOf y) : x = y := by
 have := congrArg zval h;rwa [zval_zOf, zval_zOf] at this
theorem tz_inj {u v : UT} (h : tz u = tz v) : u = v := by
 obtain ⟨a, e⟩ := u;obtain ⟨b, f⟩ := v;injection h with h1 h2;have h3 := zOf_inj h1;dsimp only at h2 h3;subst h2 h3;rfl
theorem CanU.mem_iff {l : List UT} (h : CanU l) (u : UT) : u ∈ l ↔ u.1 ≠ 0 ∧ cfU l u.2 = u.1 := by
 refine ⟨fun k => ⟨h.nz u k, cfU_one h.pw k⟩, fun ⟨k1, k2⟩ => ?_⟩;obtain ⟨v, hv, e⟩ := cfU_mem (us := l) (e := u.2) (by rw [k2]; exact k1);have := cfU_one h.pw hv;rw [e, k2] at this
 have : u = v := by cases u; cases v; simp_all
 rwa [this]
theorem CanU.pw_tz {l : List UT} (h : CanU l) : (l.map tz).Pairwise fun x y => ordI x.e y.e < 0 := List.pairwise_map.2 h.pw
theorem CanU.ext {a b : List UT} (ha : CanU a) (hb : CanU b) (h : ∀ e, cfU a e = cfU b e) : a = b := by
 have key : a.map tz = b.map tz := sorted_ext ha.pw_tz hb.pw_tz fun t => by
  simp only [List.mem_map];constructor
  ·rintro ⟨u, hu, rfl⟩;exact ⟨u, (hb.mem_iff u).2 (by rw [← h]; exact (ha.mem_iff u).1 hu), rfl⟩
  ·rintro ⟨u, hu, rfl⟩;exact ⟨u, (ha.mem_iff u).2 (by rw [h]; exact (hb.mem_iff u).1 hu), rfl⟩
 have inj : ∀ {a b : List UT}, a.map tz = b.map tz → a = b := by
  intro a
  induction a with
  | nil => intro b h; cases b with
   | nil => rfl
   | cons x b => simp at h
  | cons x a ih => intro b h; cases b with
   | nil => simp at h
   | cons y b =>
    simp only [List.map_cons, List.cons.injEq] at h;rw [tz_inj (u := x) (v := y) (by rw [tz, tz]; simpa using h.1), ih h.2]
 exact inj key
theorem CanU.eq_can {l us : List UT} (h : CanU l) (he : ∀ e, cfU l e = cfU us e) : l = canU us := h.ext (canU_can us) fun e => by rw [he, cfU_canU]
theorem CanU.can {l : List UT} (h : CanU l) : canU l = l := (h.eq_can fun _ => rfl).symm
theorem canU_congr {a b : List UT} (h : ∀ e, cfU a e = cfU b e) : canU a = canU b := (canU_can a).ext (canU_can b) fun e => by rw [cfU_canU, cfU_canU, h]
theorem keepT_tz (u : UT) (l : List UT) : keepT (tz u) (l.map tz) = (if u.1 = 0 then l else u :: l).map tz := by
 have hl : (tz u).c.w.length = 0 ↔ u.1 = 0 := toW_len0 u.1;by_cases h : u.1 = 0
 ·rw [keepT_0 (hl.2 h), if_pos h]
 ·rw [keepT_1 (fun k => h (hl.1 k)), if_neg h]; rfl
theorem sumT_tz (u v : UT) : sumT (tz u) (tz v) = tz (u.1 + v.1, u.2) := by
 show TZ.mk (zOf (zval (zOf u.1) + zval (zOf v.1))) u.2 = _;rw [zval_zOf, zval_zOf]
def lenU (V : Nat) (l : List UT) : Prop := ∀ u ∈ l, u.2.length = V
theorem rOrd_neg {a b : List Int} (h : a.length = b.length) : rOrd a b = -1 ↔ ordI b a < 0 := by
 have h1 : rOrd a b = - rOrd b a := by
  unfold rOrd;rw [ordX_eq _ _ _ _ h, ordX_eq _ _ _ _ h.symm];by_cases e : sumL a = sumL b
  ·rw [if_pos e, if_pos e.symm, cmpL_swap _ _ h]
  ·rw [if_neg e, if_neg (fun k => e k.symm), cmpI_swap]
 rw [← rOrd_one h.symm, h1]; omega
theorem merge_can (V : Nat) : ∀ (n : Nat) (a b : List UT), a.length + b.length ≤ n → CanU a → CanU b → lenU V a → lenU V b →
  ∃ l, mergeT (a.map tz) (b.map tz) = l.map tz ∧ CanU l ∧ (∀ e, cfU l e = cfU a e + cfU b e) ∧ ∀ u ∈ l, (∃ v ∈ a, u.2 = v.2) ∨ ∃ v ∈ b, u.2 = v.2 := by
 intro n
 induction n with
 | zero =>
  intro a b hn ha hb _ _;have ha0 : a = [] := List.eq_nil_of_length_eq_zero (by omega);have hb0 : b = [] := List.eq_nil_of_length_eq_zero (by omega);subst ha0 hb0;exact ⟨[], by simp [mergeT], CanU.nil, fun e => by simp [cfU], by simp⟩
 | succ n ih =>
  intro a b hn ha hb la lb
  cases a with
  | nil => cases b with
   | nil => exact ⟨[], by simp [mergeT], CanU.nil, fun e => by simp [cfU], by simp⟩
   | cons w b =>
    obtain ⟨l, h1, h2, h3, h4⟩ := ih [] b (by simp at hn ⊢; omega) ha hb.tail la (fun u hu => lb u (by simp [hu]));refine ⟨w :: l, ?_, h2.cons (hb.nz w (by simp)) (fun v hv => ?_), fun e => ?_, fun u hu => ?_⟩
    ·rw [List.map_nil] at h1 ⊢;rw [List.map_cons, mergeT, h1, keepT_tz, if_neg (hb.nz w (by simp))]
    ·rcases h4 v hv with ⟨x, hx, e⟩ | ⟨x, hx, e⟩
     ·simp at hx
     ·rw [e]; exact hb.head x hx
    ·simp only [cfU, h3]; omega
    ·rcases List.mem_cons.1 hu with rfl | hu
     ·exact .inr ⟨u, by simp, rfl⟩
     ·rcases h4 u hu with ⟨x, hx, e⟩ | ⟨x, hx, e⟩
      ·simp at hx
      ·exact .inr ⟨x, by simp [hx], e⟩
  | cons u a => cases b with
   | nil =>
    obtain ⟨l, h1, h2, h3, h4⟩ := ih a [] (by simp at hn ⊢; omega) ha.tail hb (fun v hv => la v (by simp [hv])) lb;refine ⟨u :: l, ?_, h2.cons (ha.nz u (by simp)) (fun v hv => ?_), fun e => ?_, fun v hv => ?_⟩
    ·rw [List.map_nil] at h1 ⊢;rw [List.map_cons, mergeT, h1, keepT_tz, if_neg (ha.nz u (by simp))]
    ·rcases h4 v hv with ⟨x, hx, e⟩ | ⟨x, hx, e⟩
     ·rw [e]; exact ha.head x hx
     ·simp at hx
    ·simp only [cfU, h3]; omega
    ·rcases List.mem_cons.1 hv with rfl | hv
     ·exact .inl ⟨v, by simp, rfl⟩
     ·rcases h4 v hv with ⟨x, hx, e⟩ | ⟨x, hx, e⟩
      ·exact .inl ⟨x, by simp [hx], e⟩
      ·simp at hx
   | cons w b =>
    have hlen : u.2.length = w.2.length := by rw [la u (by simp), lb w (by simp)]
    have la' : lenU V a := fun v hv => la v (by simp [hv]);have lb' : lenU V b := fun v hv => lb v (by simp [hv])
    have hm : mergeT ((u :: a).map tz) ((w :: b).map tz) = if rOrd u.2 w.2 = 1 then keepT (tz u) (mergeT (a.map tz) ((w :: b).map tz)) else if rOrd u.2 w.2 = -1 then keepT (tz w) (mergeT ((u :: a).map tz) (b.map tz)) else keepT (sumT (tz u) (tz w)) (mergeT (a.map tz) (b.map tz)) := by
     rw [List.map_cons, List.map_cons, mergeT]
    rw [hm];by_cases o1 : rOrd u.2 w.2 = 1
    ·rw [if_pos o1];have o := (rOrd_one hlen).1 o1;obtain ⟨l, h1, h2, h3, h4⟩ := ih a (w :: b) (by simp at hn ⊢; omega) ha.tail hb la' lb;refine ⟨u :: l, ?_, h2.cons (ha.nz u (by simp)) (fun v hv => ?_), fun e => ?_, fun v hv => ?_⟩
     ·rw [h1, keepT_tz, if_neg (ha.nz u (by simp))]
     ·rcases h4 v hv with ⟨x, hx, e⟩ | ⟨x, hx, e⟩
      ·rw [e]; exact ha.head x hx
      ·rw [e];rcases List.mem_cons.1 hx with rfl | hx
       ·exact o
       ·exact ordI_trans o (hb.head x hx)
     ·simp only [cfU, h3]; omega
     ·rcases List.mem_cons.1 hv with rfl | hv
      ·exact .inl ⟨v, by simp, rfl⟩
      ·rcases h4 v hv with ⟨x, hx, e⟩ | ⟨x, hx, e⟩
       ·exact .inl ⟨x, by simp [hx], e⟩
       ·exact .inr ⟨x, hx, e⟩
    ·rw [if_neg o1];by_cases o2 : rOrd u.2 w.2 = -1
     ·rw [if_pos o2];have o := (rOrd_neg hlen).1 o2;obtain ⟨l, h1, h2, h3, h4⟩ := ih (u :: a) b (by simp at hn ⊢; omega) ha hb.tail la lb';refine ⟨w :: l, ?_, h2.cons (hb.nz w (by simp)) (fun v hv => ?_), fun e => ?_, fun v hv => ?_⟩
      ·rw [h1, keepT_tz, if_neg (hb.nz w (by simp))]
      ·rcases h4 v hv with ⟨x, hx, e⟩ | ⟨x, hx, e⟩
       ·rw [e];rcases List.mem_cons.1 hx with rfl | hx
        ·exact o
        ·exact ordI_trans o (ha.head x hx)
       ·rw [e]; exact hb.head x hx
      ·simp only [cfU, h3]; omega
      ·rcases List.mem_cons.1 hv with rfl | hv
       ·exact .inr ⟨v, by simp, rfl⟩
       ·rcases h4 v hv with ⟨x, hx, e⟩ | ⟨x, hx, e⟩
        ·exact .inl ⟨x, hx, e⟩
        ·exact .inr ⟨x, by simp [hx], e⟩
     ·rw [if_neg o2]
      have he : u.2 = w.2 := by
       rcases ordI_total u.2 w.2 with k | k | k
       ·exact absurd ((rOrd_one hlen).2 k) o1
       ·exact k
       ·exact absurd ((rOrd_neg hlen).2 k) o2
      obtain ⟨l, h1, h2, h3, h4⟩ := ih a b (by simp at hn ⊢; omega) ha.tail hb.tail la' lb'
      have hgt : ∀ v ∈ l, ordI u.2 v.2 < 0 := fun v hv => by
       rcases h4 v hv with ⟨x, hx, e⟩ | ⟨x, hx, e⟩
       ·rw [e]; exact ha.head x hx
       ·rw [e, he]; exact hb.head x hx
      rw [h1, sumT_tz, keepT_tz];by_cases hz : u.1 + w.1 = 0
      ·refine ⟨l, by rw [if_pos hz], h2, fun e => ?_, fun v hv => ?_⟩
       ·simp only [cfU, h3, he]; split <;> omega
       ·rcases h4 v hv with ⟨x, hx, e⟩ | ⟨x, hx, e⟩
        ·exact .inl ⟨x, by simp [hx], e⟩
        ·exact .inr ⟨x, by simp [hx], e⟩
      ·refine ⟨(u.1 + w.1, u.2) :: l, by rw [if_neg hz], h2.cons hz hgt, fun e => ?_, fun v hv => ?_⟩
       ·simp only [cfU, h3, he]; split <;> omega
       ·rcases List.mem_cons.1 hv with rfl | hv
        ·exact .inl ⟨u, by simp, rfl⟩
        ·rcases h4 v hv with ⟨x, hx, e⟩ | ⟨x, hx, e⟩
         ·exact .inl ⟨x, by simp [hx], e⟩
         ·exact .inr ⟨x, by simp [hx], e⟩
theorem mergeT_can {V : Nat} {a b : List UT} (ha : CanU a) (hb : CanU b) (la : lenU V a) (lb : lenU V b) : mergeT (a.map tz) (b.map tz) = (canU (a ++ b)).map tz := by
 obtain ⟨l, h1, h2, h3, _⟩ := merge_can V _ a b (Nat.le_refl _) ha hb la lb;rw [h1, h2.eq_can (us := a ++ b) fun e => by rw [h3, cfU_append]]
theorem mergeT_short {l : List UT} (h : l.length < 2) : mergeT (l.map tz) [] = (canU l).map tz := by
 match l, h with
 | [], _ => simp [mergeT, canU]
 | [u], _ =>
  rw [List.map_cons, List.map_nil, mergeT, mergeT];have := keepT_tz u [];rw [List.map_nil] at this;rw [this];show _ = (insU u []).map tz;unfold insU;rfl
end Go.AL
/- Lists of terms az the reference holds them: bounds. -/
namespace Go.AL
theorem lenI_neg (x : Int) : lenI (-x) = lenI x := by unfold lenI; rw [Int.natAbs_neg]
theorem lenI_add {x y : Int} {M : Nat} (hx : lenI x ≤ M) (hy : lenI y ≤ M) : lenI (x + y) ≤ M + 1 := by
 rw [lenI_le] at *
 rw [BB_succ];have := BB_pos M;omega
theorem lenI_zero : lenI 0 = 0 := by
 have := (lenI_le (x := 0) (n := 0)).2 (by simp [BB_zero]);omega
def okT (V M : Nat) (l : List UT) : Prop := ∀ u ∈ l, u.2.length = V ∧ EOk u.2 ∧ lenI u.1 ≤ M
theorem okT.nil (V M : Nat) : okT V M [] := fun u h => by simp at h
theorem okT.mono {V M N : Nat} {l : List UT} (h : okT V M l) (hm : M ≤ N) : okT V N l := fun u hu => ⟨(h u hu).1, (h u hu).2.1, Nat.le_trans (h u hu).2.2 hm⟩
theorem okT.lenU {V M : Nat} {l : List UT} (h : okT V M l) : lenU V l := fun u hu => (h u hu).1
theorem okT.append {V M : Nat} {a b : List UT} (ha : okT V M a) (hb : okT V M b) : okT V M (a ++ b) := fun u hu => (List.mem_append.1 hu).elim (ha u) (hb u)
theorem okT.sub {V M : Nat} {a b : List UT} (h : okT V M a) (hs : ∀ u ∈ b, u ∈ a) : okT V M b := fun u hu => h u (hs u hu)
theorem okT.terms {V M : Nat} {l : List UT} (h : okT V M l) : TermsOk V M (l.map tz) := by
 refine ⟨?_, ?_, ?_, ?_⟩ <;> (intro t ht; obtain ⟨u, hu, rfl⟩ := List.mem_map.1 ht)
 ·exact toW_ok _
 ·show zOf u.1 = zOf (zval (zOf u.1)); rw [zval_zOf]
 ·exact ⟨(h u hu).2.1, (h u hu).1⟩
 ·show lenI (zval (zOf u.1)) ≤ M; rw [zval_zOf]; exact (h u hu).2.2
theorem cfU_len {V M : Nat} {l : List UT} (hc : CanU l) (h : okT V M l) (e : List Int) : lenI (cfU l e) ≤ M := by
 by_cases hz : cfU l e = 0
 ·rw [hz, lenI_zero]; omega
 ·obtain ⟨u, hu, he⟩ := cfU_mem hz;rw [← he, cfU_one hc.pw hu];exact (h u hu).2.2
theorem okT.can {V M : Nat} {a b : List UT} (ca : CanU a) (cb : CanU b) (ha : okT V M a) (hb : okT V M b) : okT V (M + 1) (canU (a ++ b)) := fun u hu => by
 obtain ⟨w, hw, he⟩ := canU_mem hu;have h1 := (ha.append hb) w hw;refine ⟨by rw [he]; exact h1.1, by rw [he]; exact h1.2.1, ?_⟩;have := ((canU_can (a ++ b)).mem_iff u).1 hu;rw [← this.2, cfU_canU, cfU_append];exact lenI_add (cfU_len ca ha _) (cfU_len cb hb _)
theorem okT.can0 {V M : Nat} {l : List UT} (h : okT V M l) (hl : l.length < 2) : okT V M (canU l) := by
 match l, hl with
 | [], _ => exact h
 | [u], _ =>
  show okT V M (insU u []);unfold insU;split
  ·exact okT.nil V M
  ·exact h
theorem insU_length (u : UT) : ∀ l : List UT, (insU u l).length ≤ l.length + 1
 | [] => by unfold insU; split <;> simp
 | w :: l => by
  unfold insU;split
  ·split <;> simp
  ·split
   ·split <;> simp <;> omega
   ·have := insU_length u l;simp; omega
theorem canU_length : ∀ l : List UT, (canU l).length ≤ l.length
 | [] => Nat.le_refl _
 | u :: l => by
  show (insU u (canU l)).length ≤ _;have := insU_length u (canU l);have := canU_length l;simp; omega
theorem canU_halves (l : List UT) (k : Nat) : canU (canU (l.take k) ++ canU (l.drop k)) = canU l := canU_congr fun e => by
 rw [cfU_append, cfU_canU, cfU_canU, ← cfU_append, List.take_append_drop]
theorem conU_can (V : Nat) (c : Int) : canU [(c, List.replicate V 0)] = conU V c := by
 show insU _ [] = _;unfold insU conU;rfl
theorem CanU.one {u : UT} (h : u.1 ≠ 0) : CanU [u] := CanU.nil.cons h (by simp)
theorem EOk.unU (V i : Nat) : EOk (unU V i) := fun e he => by
 unfold Go.AL.unU at he;rcases List.mem_or_eq_of_mem_set he with h | h
 ·rw [List.eq_of_mem_replicate h]; omega
 ·omega
def mulR (p q : List UT) : List UT := q.flatMap fun t => p.map fun s => (s.1 * t.1, addE s.2 t.2)
theorem cfU_flatMap (f : UT → List UT) (e : List Int) : ∀ l : List UT, cfU (l.flatMap f) e = sumL (l.map fun u => cfU (f u) e)
 | [] => rfl
 | u :: l => by
  rw [List.flatMap_cons, cfU_append, cfU_flatMap f e l];rfl
theorem cfU_map (f : UT → UT) (e : List Int) : ∀ l : List UT, cfU (l.map f) e = sumL (l.map fun u => if (f u).2 = e then (f u).1 else 0)
 | [] => rfl
 | u :: l => by
  rw [List.map_cons, cfU, cfU_map f e l];rfl
theorem sumL_add {α : Type} (f g : α → Int) : ∀ l : List α, sumL (l.map fun x => f x + g x) = sumL (l.map f) + sumL (l.map g)
 | [] => rfl
 | x :: l => by
  simp only [List.map_cons, sumL];rw [sumL_add f g l]; omega
theorem sumL_zero {α : Type} : ∀ l : List α, sumL (l.map fun _ => (0 : Int)) = 0
 | [] => rfl
 | x :: l => by simp only [List.map_cons, sumL]; rw [sumL_zero l]; omega
theorem sumL_swap {α β : Type} (f : α → β → Int) (b : List β) : ∀ a : List α, sumL (a.map fun x => sumL (b.map fun y => f x y)) = sumL (b.map fun y => sumL (a.map fun x => f x y))
 | [] => by simp only [List.map_nil, sumL]; exact (sumL_zero b).symm
 | x :: a => by
  simp only [List.map_cons, sumL];rw [sumL_swap f b a, ← sumL_add]
theorem cfU_mulR (p q : List UT) (e : List Int) : cfU (mulR p q) e = cfU (mulUs p q) e := by
 unfold mulR mulUs;rw [cfU_flatMap, cfU_flatMap];simp only [cfU_map];exact sumL_swap (fun (t s : UT) => if addE s.2 t.2 = e then s.1 * t.1 else 0) p q
theorem mulR_length (p q : List UT) : (mulR p q).length = q.length * p.length := by
 induction q with
 | nil => simp [mulR]
 | cons t q ih =>
  have : mulR p (t :: q) = (p.map fun s => (s.1 * t.1, addE s.2 t.2)) ++ mulR p q := rfl;rw [this, List.length_append, ih, List.length_map, List.length_cons, Nat.add_mul]; omega
end Go.AL
/- The reference's rests and Rank. -/
namespace Go.AL
def RankIs (a m : Int) (most n : Nat) : Prop := 1 ≤ n ∧ n ≤ most ∧ m ∣ psiN a n ∧ ∀ k, 1 ≤ k → k < n → ¬ m ∣ psiN a k
def NoRank (a m : Int) (most : Nat) : Prop := ∀ k, 1 ≤ k → k ≤ most → ¬ m ∣ psiN a k
theorem psi_mod (a m : Int) (n : Nat) : ((a + a) % m * (psiN a (n + 1) % m) - psiN a n % m) % m = psiN a (n + 2) % m := by
 rw [← psi_rec, Int.sub_emod, Int.mul_emod, Int.emod_emod, Int.emod_emod, ← Int.mul_emod, Int.emod_emod, ← Int.sub_emod]
theorem mod_len {x m : Int} {k : Nat} (hm : 0 < m) (h : lenI m ≤ k) : lenI (x % m) ≤ k := by
 have h0 := Int.emod_nonneg x (show m ≠ 0 by omega);have h1 := Int.emod_lt_of_pos x hm;have := (lenI_nonneg (x := m) (by omega)).1 h;exact (lenI_nonneg h0).2 (by omega)
end Go.AL
namespace Go.Proofs.YtcaecieigoplbaaGreat
open Go.AL
end Go.Proofs.YtcaecieigoplbaaGreat
/- lucas.rests: the rests of psi, an iterator with variables of its own. -/
namespace Go.AL
theorem twice_mod (a m : Int) : 2 * (a % m) % m = (a + a) % m := by
 rw [Int.mul_emod, Int.emod_emod, ← Int.mul_emod]; congr 1; omega
end Go.AL
namespace Go.Proofs.YtcaecieigoplbaaGreat
open Go.AL
def restE (a m : Int) (most i : Nat) : Option (List AV) := if i < most then some [aN ((i : Int) + 1), aX (psiN a (i + 1) % m)] else none
abbrev rsC (a m : Int) (most : Nat) : List AV := [.cptr (eX a), .cptr (eX m), .cptr [aN most]]
def rsS (l : Nat) (a m : Int) (most i : Nat) : St := St.of [] [(0, .v (.func (.yield l) #[] #[])), (1, .cptr (eX a)), (2, .cptr (eX m)), (3, .cptr [aN most]), (5, .ptr 11 0), (6, .ptr 6 0), (7, .ptr 7 0), (8, .ptr 8 0), (9, aN ((i : Int) + 1))] [(11, .cells [aN 0] 95), (6, .cells (eX ((a + a) % m)) 35), (7, .cells (eX (psiN a i % m)) 35), (8, .cells (eX (psiN a (i + 1) % m)) 35)]
theorem rests1_ok (a m : Int) (most N : Nat) (ha : Fit a) (hm : 0 < m) (hl : lenI m ≤ 2000) (hmo : most ≤ 1000000) : IterFn Tryz.prog 230 (rsC a m most) (restE a m most) N := by
 refine IterFn.of_body Tryz.func230 rfl Tryz.ntmps230 rfl rfl rfl fun l => ?_;have fm : Fit m := Fit.mk (lenI_le.1 (Nat.le_trans hl (by omega)));have hlen : ∀ x : Int, lenI (x % m) ≤ 2000 := fun x => mod_len hm hl;have hf : ∀ x : Int, Fit (x % m) := fun x => Fit.mk (lenI_le.1 (Nat.le_trans (hlen x) (by omega)));have hmul : ∀ x y : Int, lenI x ≤ 2001 → lenI y ≤ 2001 → Fit (x * y) := fun x y h1 h2 => Fit.mk (lenI_le.1 (Nat.le_trans (lenI_mul x y) (by omega)));have l2 : lenI 2 ≤ 1 := lenI_small (by decide);have l1 : lenI 1 ≤ 1 := lenI_small (by decide);have e1 := chainOk (o := none) (hf a) (chRest_ok none 0 a m ha fm (by omega));have f2 : Fit (2 * (a % m)) := hmul 2 (a % m) (by omega) (by have := hlen a; omega);have e2 := chMul2 2 (a % m) fit_two (hf a) f2;have e3 := chainOk (o := none) (hf (2 * (a % m))) (chRest_ok none 0 (2 * (a % m)) m f2 fm (by omega));rw [twice_mod] at e3;have e4 := chainOk (o := none) (hf 1) (chRest_ok none 0 1 m fit_one fm (by omega));refine IWP.seqL ?_;(repeat' (first |refine qv ?_ |apply qn |apply qr |refine qe ?_|fail));refine ⟨IWP.seqL ?_⟩;(repeat' (first |refine qv ?_ |apply qr));refine qc (Of_ok 2 (by omega) (by omega)) ?_;(repeat' (first |refine qv ?_|fail));refine qi [(900, 11)] (e1) ?_;skip;refine ql eX [2, a % m] ?_;skip;refine qi [(900, 11)] (e2) ?_;(repeat' (first |refine qv ?_|fail));refine qi [(900, 11)] (e3) ?_;(repeat' (first |refine Fl.nil (fun _ => by kernel_rfl) ?_ |refine qe ?_|fail));refine ⟨IWP.seqL ?_⟩;(repeat' (first |refine qv ?_ |apply qr |refine qe ?_|fail));refine qc (Of_ok 1 (by omega) (by omega)) ?_;(repeat' (first |refine qv ?_|fail));refine qi [(900, 11)] (e4) ?_;(repeat' (first |refine Fl.nil (fun _ => by kernel_rfl) ?_ |refine qe ?_|fail));refine ⟨IWP.seqL ?_⟩;(repeat' (first |refine qv ?_ |apply qn |apply qr));refine ⟨?_⟩;refine IWP.block ?_;refine IWP.loop (G := Nat) (fun i => i ≤ most) (fun i => rsS l a m most i) (fun i => some i) (fun i => most + 1 - i) 0 rfl (by omega) ?_ ?_
 ·unfold rsS;refine Ent.of [] ?_ ?_ rfl rfl;(repeat' (first |exact True.intro |refine ⟨⟨AV.Le.refl _, rfl⟩, ?_⟩ |refine ⟨⟨⟨_, rfl, BLe.cells (LeL.refl _)⟩, rfl⟩, ?_⟩ |refine ⟨⟨⟨_, rfl, BLe.cells ?_⟩, rfl⟩, ?_⟩|fail))
  ·exact leX_zero (σ := []) (by rw [psi_zero, Int.zero_emod])
  ·exact leX (σ := []) (by rw [psi_one])
 intro i hi hN;unfold rsS;by_cases him : i < most
 ·refine IWP.seq ?_;refine IWP.seq ?_;refine IWP.yieldT 7 rfl ?_;show Fl _ _ _ _ [_, _, _, _, _, _, _] _ _ _;(repeat' (first |refine qv ?_ |apply qn |(refine Fl.splitD rfl rfl ?_ ?_ <;> intro _ <;> try (exfalso; omega))));refine ⟨rfl, ⟨.inr ⟨_, _, rfl, rfl⟩, ⟨_, _, _, [aN ((i : Int) + 1), aX (psiN a (i + 1) % m)], rfl, rfl, if_pos him, LeL.refl _, rfl⟩, (fun d hd => by cases hd; decide), ?_, ?_⟩⟩
  ·(repeat' (first | refine Fl.v rfl rfl rfl ?_ | refine Fl.b rfl rfl rfl rfl ?_ | fail));refine Fl.nil (fun h => (by cases h)) ⟨rfl, fun hi1 => ?_⟩;refine IWP.condB (t := true) rfl (fun _ => IWP.skip ?_) (fun h => (by cases h));have f5 := hmul ((a + a) % m) (psiN a (i + 1) % m) (by have := hlen (a + a); omega) (by have := hlen (psiN a (i + 1)); omega);have e5 := chMul2 ((a + a) % m) (psiN a (i + 1) % m) (hf _) (hf _) f5;have g0 := lenI_mul ((a + a) % m) (psiN a (i + 1) % m);have g1 := hlen (a + a);have g2 := hlen (psiN a (i + 1));have g3 := hlen (psiN a i);have g4 := lenI_add (x := (a + a) % m * (psiN a (i + 1) % m)) (y := -(psiN a i % m)) (M := 4000) (by omega) (by rw [lenI_neg]; omega);rw [← Int.sub_eq_add_neg] at g4;have f6 : Fit ((a + a) % m * (psiN a (i + 1) % m) - psiN a i % m) := Fit.mk (lenI_le.1 (Nat.le_trans g4 (by omega)));have e6 := chainOk (o := none) f6 (chSub_ok none 0 ((a + a) % m * (psiN a (i + 1) % m)) (psiN a i % m) f5 (hf _));have e7 := chainOk (o := none) (hf _) (chRest_ok none 0 ((a + a) % m * (psiN a (i + 1) % m) - psiN a i % m) m f6 fm (by omega));rw [psi_mod] at e7;refine IWP.seqL ?_;(repeat' (first |refine qv ?_ |apply qr |apply qb));refine ql eX [(a + a) % m, psiN a (i + 1) % m] ?_;skip;refine qi [(900, 11)] (e5) ?_;(repeat' (first |refine qv ?_|fail));refine qi [(900, 11)] (e6) ?_;(repeat' (first |refine qv ?_|fail));refine qi [(900, 11)] (e7) ?_;(repeat' (first |refine Fl.nil (fun _ => by kernel_rfl) ?_ |refine qe ?_|fail));refine ⟨IWP.last ?_⟩;(repeat' (first |refine qv ?_ |apply qn |apply qr |refine qw ?_|fail));refine ⟨i + 1, by omega, rfl, fun _ => by show most + 1 - (i + 1) < most + 1 - i; omega, ?_⟩;refine Ent.of [] ?_ ?_ rfl rfl;(repeat' (first |exact True.intro |refine ⟨⟨AV.Le.refl _, rfl⟩, ?_⟩ |refine ⟨⟨⟨_, rfl, BLe.cells (LeL.refl _)⟩, rfl⟩, ?_⟩|fail))
  ·(repeat' (first | refine Fl.v rfl rfl rfl ?_ | refine Fl.b rfl rfl rfl rfl ?_ | fail));refine Fl.nil (fun h => (by cases h)) ⟨rfl, ?_⟩;refine IWP.condB (t := false) rfl (fun h => (by cases h)) (fun _ => IWP.exit ?_);exact ⟨.inl rfl, fun i h => (by cases h)⟩
 ·refine IWP.seq ?_;refine IWP.seqL ?_;(repeat' (first |refine qv ?_ |apply qn |apply qr |refine Fl.skip rfl rfl ?_ |(refine Fl.splitD rfl rfl ?_ ?_ <;> intro _ <;> try (exfalso; omega))));refine ⟨?_⟩;refine IWP.condB (t := false) rfl (fun h => (by cases h)) (fun _ => IWP.exit ?_);refine ⟨.inl rfl, fun j h => ?_⟩;injection h with h;subst h;exact if_neg him
end Go.Proofs.YtcaecieigoplbaaGreat
/- large.Bits, lucas.modulus, lucas.Rank. -/
namespace Go.AL
theorem top_facts {x : Int} (h0 : 0 < x) : ∃ (n : Nat) (u lo : Int), (toW x).length = n + 1 ∧ (toW x)[n]? = some u ∧ 0 ≤ lo ∧ lo < BB n ∧ x = lo + BB n * u ∧ 1 ≤ u ∧ u < 4294967296 := by
 have hne := toW_ne_nil h0;have wx := toW_ok x;have vx := val_toW (show 0 ≤ x by omega);obtain ⟨n, hn⟩ : ∃ n, (toW x).length = n + 1 := ⟨(toW x).length - 1, by have := List.length_pos_iff.2 hne; omega⟩;obtain ⟨u, hu⟩ : ∃ u, (toW x)[n]? = some u := ⟨_, List.getElem?_eq_getElem (by omega)⟩;have hub := wx.get hu;have hval := val_top hu;rw [← hn, List.take_length, vx] at hval;have hb := val_bounds (k := n) wx (by omega);have hge := BB_len_le (z := x) h0;rw [show (toW x).length - 1 = n by omega] at hge;refine ⟨n, u, val ((toW x).take n), hn, hu, hb.1, hb.2, hval, ?_, hub.2⟩;rcases Int.lt_or_le u 1 with h | h
 ·have : u = 0 := by omega
  subst this;omega
 ·exact h
theorem rank_ex {a m : Int} {most : Nat} (h : ¬ NoRank a m most) : ∃ n, RankIs a m most n := by
 have h1 : ∃ k, 1 ≤ k ∧ k ≤ most ∧ m ∣ psiN a k := Classical.byContradiction fun hc => h fun k k1 k2 k3 => hc ⟨k, k1, k2, k3⟩;obtain ⟨k, hk⟩ := h1
 induction k using Nat.strongRecOn with
 | ind k ih =>
  by_cases hs : ∃ j, 1 ≤ j ∧ j < k ∧ m ∣ psiN a j
  ·obtain ⟨j, j1, j2, j3⟩ := hs;exact ih j j2 ⟨j1, by omega, j3⟩
  ·exact ⟨k, hk.1, hk.2.1, hk.2.2, fun j j1 j2 j3 => hs ⟨j, j1, j2, j3⟩⟩
end Go.AL
namespace Go.Proofs.YtcaecieigoplbaaGreat
open Go.AL
theorem size_ok (x : Int) (h0 : 0 ≤ x) (hx : (toW x).length ≤ 100000) : PureFn Tryz.prog 174 [aW (toW x)] (aN (bitl x.natAbs)) := by
 refine PureFn.of_body Tryz.func174 rfl Tryz.ntmps174 rfl rfl ?_;have wx := toW_ok x;rcases Int.lt_or_eq_of_le h0 with h | h
 ·obtain ⟨n, u, lo, hn, hu, hlo, hlo2, hval, hu1, hu2⟩ := top_facts h;have hl := lenB_spec (n := u.toNat) (by omega);have hbw := bitl_words (m := x.natAbs) (n := n) (k := lenB u.toNat) (u := u) (lo := lo) hl.1 hlo hlo2 (by omega) hl.2.1 hl.2.2;have hL := Len32_ok u.toNat (by omega)
  have hu' : (toW x)[(((toW x).length : Int) - 1).toNat]? = some u := by rwa [show (((toW x).length : Int) - 1).toNat = n by omega]
  have hl32 : lenB u.toNat ≤ 32 := lenB_le (by omega);(repeat' (first |refine qv ?_ |apply qn |apply qs |apply qr |refine qw ?_ |(refine AWP.condD rfl ?_ ?_ <;> intro _ <;> try (exfalso; omega)) |apply qk |refine qK ?_|fail));refine Fl.call rfl hL rfl rfl rfl (LeL.cons (AV.Le.int (by omega)) LeL.nil) ?_;(repeat' (first |refine qv ?_ |apply qn |refine qw ?_ |apply qt));refine RetOk.of rfl (AV.Le.int ?_);rw [hbw]; omega
 ·subst h
  have : (toW 0).length = 0 := by rw [toW_zero]; rfl
  (repeat' (first |refine qv ?_ |apply qn |apply qs |apply qr |(refine AWP.condD rfl ?_ ?_ <;> intro _ <;> try (exfalso; omega)) |apply qt));exact RetOk.of rfl (AV.Le.refl _)
theorem Bits_ok (x : Int) (hx : Fit x) : PureFn Tryz.prog 132 [aX x] (aN (bitl x.natAbs)) := by
 refine PureFn.of_body Tryz.func132 rfl Tryz.ntmps132 rfl rfl ?_;have hs := size_ok (x.natAbs : Int) (by omega) (by have := hx.lenI; unfold lenI at this; omega);rw [show ((x.natAbs : Nat) : Int).natAbs = x.natAbs from rfl] at hs;(repeat' (first |refine qv ?_ |apply qn |apply qs |apply qr |refine qe ?_|fail));refine qc (Valid_int x hx) ?_;(repeat' (first |refine qv ?_ |apply qn |apply qs |apply qr |refine AWP.condF rfl ?_ |apply qk));refine qc (hs) ?_;(repeat' (first |refine qv ?_ |apply qn |apply qt));exact RetOk.of rfl (AV.Le.refl _)
theorem modulus_ok (m : Int) (hm : Fit m) (b : Bool) (hb : b = true ↔ 1 ≤ m ∧ bitl m.natAbs ≤ 4000) : PureFn Tryz.prog 206 [aX m] (aB b) := by
 refine PureFn.of_body Tryz.func206 rfl Tryz.ntmps206 rfl rfl ?_;(repeat' (first |refine qv ?_ |apply qn |apply qs |apply qr |refine qe ?_|fail));refine qc (Of_ok 1 (by omega) (by omega)) ?_;skip;refine qc (Less_ok m 1 hm fit_one) ?_;(repeat' (first |refine qv ?_ |refine Fl.nil (fun _ => by kernel_rfl) ?_ |refine Fl.skip rfl rfl ?_ |apply qt |(refine Fl.splitN rfl rfl ?_ ?_ <;> intro _ <;> try (exfalso; omega))))
 ·rename_i h;refine qc (Bits_ok m hm) ?_;(repeat' (first |refine qv ?_ |refine Fl.nil (fun _ => by kernel_rfl) ?_ |apply qt));refine RetOk.of rfl (AV.Le.bool ?_)
  cases b with
  | true => exact decide_eq_true (by have := (hb.1 rfl).2; omega)
  | false => exact decide_eq_false fun k => by have := hb.2 ⟨by omega, by omega⟩; cases this
 ·rename_i h;refine RetOk.of rfl (AV.Le.bool ?_)
  cases b with
  | true => have := (hb.1 rfl).1; omega
  | false => rfl
theorem rests_ok (a m : Int) (most : Nat) : PureFn Tryz.prog 207 [aX a, aX m, aN most] (.fn 230 (rsC a m most)) := by
 refine PureFn.of_body Tryz.func207 rfl Tryz.ntmps207 rfl rfl ?_;refine AWP.seqS ?_;(repeat' (first |refine qv ?_ |apply qn |apply qr |refine qe ?_|fail));refine ⟨?_⟩;refine AWP.ent (Ent.freezeC 3 3 rfl rfl rfl rfl) ?_;refine AWP.ent (Ent.freezeC 4 4 rfl rfl rfl rfl) ?_;refine AWP.ent (Ent.freezeC 5 5 rfl rfl rfl rfl) ?_;(repeat' (first |refine qv ?_ |apply qn |apply qs |apply qr |apply qt));exact RetOk.of rfl (AV.Le.refl _)
theorem fits2_ok (a m : Int) (ha : Fit a) (hm : Fit m) (h2 : 2 ≤ a) : PureFn Tryz.prog 129 [aX a, .sl 2 eX [m]] (aN 0) := by
 refine PureFn.of_body Tryz.func129 rfl Tryz.ntmps129 rfl rfl ?_;(repeat' (first |refine qv ?_ |apply qn |apply qs |apply qr |refine qe ?_|fail));refine ql eX [a] ?_;skip;refine qc (chValidX_ok [a] (by simp [ha]) (by simp)) ?_;(repeat' (first |refine qv ?_|fail));refine qc (chValidX_ok [m] (by simp [hm]) (by simp)) ?_;(repeat' (first |refine qv ?_ |apply qn |apply qs |apply qr |refine AWP.condF rfl ?_ |apply qk));refine qc (Of_ok 2 (by omega) (by omega)) ?_;skip;have hl := Less_ok a 2 ha (fit_small (by omega) (by omega));rw [decide_eq_false (by omega)] at hl;refine qc (hl) ?_;(repeat' (first |refine qv ?_ |apply qn |refine Fl.nil (fun _ => by kernel_rfl) ?_ |apply qs |apply qr |refine AWP.condF rfl ?_ |apply qk |apply qt));exact RetOk.of rfl (AV.Le.refl _)
def rkS (a m : Int) (most : Nat) (x : Int) : St := St.of [] [(6, .ptr 6 0), (7, .ptr 7 0), (32, .fn 230 (rsC a m most))] [(6, .cells [aN x] 3), (7, .cells [aN 0] 28)]
theorem rkS_eq (a m : Int) (most : Nat) (x : Int) : rkS a m most x = St.of [6, 7] [(6, .ptr 6 0), (7, .ptr 7 0), (32, .fn 230 (rsC a m most))] [(6, .cells [aN x] 3), (7, .cells [aN 0] 28)] := by
 unfold rkS St.of;congr 1;funext id;show (memI [6, 7] id || memI [] id) = (memI [6, 7] id || memI [6, 7] id)
 cases memI [6, 7] id <;> rfl
theorem lRank_ok (a m : Int) (most : Nat) (ha : Fit a) (h2 : 2 ≤ a) (hm : Fit m) (hm0 : 1 ≤ m) (hmb : bitl m.natAbs ≤ 4000) (hmo : 1 ≤ most) (hmo2 : most ≤ 20000) (r : AV) (hr1 : ∀ n : Nat, RankIs a m most n → r = .tup [aN n, aN 0]) (hr2 : NoRank a m most → r = .tup [aN 0, aN 6]) : PureFn Tryz.prog 168 [aX a, aX m, aN most] r := by
 refine PureFn.of_bodyF Tryz.func168 rfl Tryz.ntmps168 rfl rfl ?_
 have hml : lenI m ≤ 2000 := by
  refine lenI_le.2 ?_;rw [BB_pow];have h3 := bitl_lt m.natAbs;obtain ⟨E, hE⟩ : ∃ E, E = 32 * 2000 := ⟨_, rfl⟩;rw [← hE];have h4 : 2 ^ bitl m.natAbs ≤ 2 ^ E := Nat.pow_le_pow_right (by omega) (by omega)
  have h5 : ((m.natAbs : Nat) : Int) < ((2 ^ E : Nat) : Int) := by exact_mod_cast Nat.lt_of_lt_of_le h3 h4
  rwa [Int.natCast_pow] at h5
 obtain ⟨N, hN0, hNr⟩ : ∃ N : Nat, 0 < N ∧ ((RankIs a m most N) ∨ (N = most + 1 ∧ NoRank a m most)) := by
  rcases Classical.em (NoRank a m most) with h | h
  ·exact ⟨most + 1, by omega, .inr ⟨rfl, h⟩⟩
  ·obtain ⟨n, hn⟩ := rank_ex h;exact ⟨n, hn.1, .inl hn⟩
 have it := rests1_ok a m most N ha (by omega) hml (by omega);have cm := modulus_ok m hm true ⟨fun _ => ⟨hm0, hmb⟩, fun _ => rfl⟩;refine FWP.seqL ?_;(repeat' (first |apply qn |apply qr |refine qe ?_|fail));refine ⟨FWP.seqL ?_⟩;(repeat' (first |refine qv ?_ |apply qs |apply qr));refine ql eX [m] ?_;skip;refine qc (fits2_ok a m ha hm h2) ?_;(repeat' (first |refine qv ?_ |apply qn |apply qs |apply qr |refine AWP.condF rfl ?_ |apply qk));refine ⟨FWP.seqL ?_⟩;(repeat' (first |refine qv ?_ |apply qs |apply qr));refine qc (cm) ?_;(repeat' (first |refine qv ?_ |apply qn |(refine AWP.condD rfl ?_ ?_ <;> intro _ <;> try (exfalso; omega)) |apply qk |(refine Fl.splitD rfl rfl ?_ ?_ <;> intro _ <;> try (exfalso; omega))));refine ⟨FWP.seq (FWP.seqL ?_)⟩;(repeat' (first |refine qv ?_ |apply qr));refine qc (rests_ok a m most) ?_;(repeat' (first |apply qn));refine ⟨FWP.block ?_⟩;refine FWP.ent (s' := rkS a m most 0) ?_ ?_
 ·unfold rkS;refine Ent.of [] ?_ ?_ rfl rfl;(repeat' (first |exact True.intro |refine ⟨⟨AV.Le.refl _, rfl⟩, ?_⟩ |refine ⟨⟨⟨_, rfl, BLe.cells (LeL.refl _)⟩, rfl⟩, ?_⟩|fail))
 refine FWP.rangeFunc it hN0 rfl rfl rfl rfl [6, 7] (by simp) ?_ (fun _ => rkS a m most 0) (fun _ => rfl) rfl ?_ ?_ ?_
 ·exact lookE_within rfl
 ·intro i xs h;unfold restE at h;split at h
  ·injection h with h;exact ⟨_, _, h.symm⟩
  ·cases h
 ·intro i x y l hi he;unfold restE at he;split at he
  ·rename_i him;injection he with he;injection he with h1 he;injection he with h2 _;subst h1 h2;refine RWP.seqR rfl ?_;(repeat' (first |refine qv ?_ |apply qn));refine ⟨rfl, RWP.region (K := fun s1 => RWP _ _ _ _ _ _ s1) rfl (fun s k => k) ?_⟩;(repeat' (first |apply qn |refine qe ?_|fail));refine ⟨rfl, RWP.block (RWP.seqR rfl ?_)⟩;(repeat' (first |refine qv ?_ |apply qn))
   have hzi : ((toW (((psiN a (i + 1) % m).natAbs : Nat) : Int)).length : Int) = 0 ↔ m ∣ psiN a (i + 1) := by
    refine ⟨fun h => ?_, fun h => ?_⟩
    ·have h1 : ((psiN a (i + 1) % m).natAbs : Int) = 0 := (toW_nil_iff (by omega)).1 (List.eq_nil_of_length_eq_zero (by omega));exact Int.dvd_of_emod_eq_zero (by omega)
    ·rw [Int.emod_eq_zero_of_dvd h];show ((toW 0).length : Int) = 0;rw [toW_zero]; rfl
   refine ⟨rfl, RWP.condD rfl (fun hz => ?_) (fun hz => RWP.skip ?_)⟩
   ·have hd := hzi.1 hz
    have hr : RankIs a m most (i + 1) := by
     rcases hNr with k | ⟨_, k⟩
     ·rcases (show i + 1 = N ∨ i + 1 < N by omega) with e | e
      ·rw [e]; exact k
      ·exact absurd hd (k.2.2.2 (i + 1) (by omega) e)
     ·exact absurd hd (k (i + 1) (by omega) (by omega))
    rw [hr1 (i + 1) hr];refine RWP.seqR rfl ?_;(repeat' (first |refine qv ?_ |apply qn |refine qe ?_|fail));refine ⟨rfl, RWP.ret ?_⟩;refine ⟨rkS a m most ((i : Int) + 1), rfl, Ent.anyS ?_, ?_⟩
    ·rw [rkS_eq a m most ((i : Int) + 1)];refine Ent.of [] ?_ ?_ rfl rfl;(repeat' (first |exact True.intro |refine ⟨⟨AV.Le.refl _, rfl⟩, ?_⟩ |refine ⟨⟨⟨_, rfl, BLe.cells (LeL.refl _)⟩, rfl⟩, ?_⟩|fail))
    ·unfold rkS;exact RetOk.of rfl (AV.Le.refl _)
   ·have hd : ¬ m ∣ psiN a (i + 1) := fun k => hz (hzi.2 k);refine ⟨?_, Ent.anyS ?_⟩
    ·rcases hNr with k | ⟨k1, _⟩
     ·rcases (show i + 1 = N ∨ i + 1 < N by omega) with e | e
      ·rw [e] at hd; exact absurd k.2.2.1 hd
      ·exact e
     ·omega
    ·rw [rkS_eq];refine Ent.of [] ?_ ?_ rfl rfl;(repeat' (first |exact True.intro |refine ⟨⟨AV.Le.refl _, rfl⟩, ?_⟩ |refine ⟨⟨⟨_, rfl, BLe.cells (LeL.refl _)⟩, rfl⟩, ?_⟩|fail))
  ·cases he
 ·intro i hiN h
  have hno : NoRank a m most := by
   rcases hNr with k | ⟨_, k⟩
   ·unfold restE at h;split at h
    ·cases h
    ·exfalso; have := k.2.1; omega
   ·exact k
  refine FWP.lift ?_;unfold rkS;rw [hr2 hno];(repeat' (first |apply qn |apply qs |apply qr |refine qe ?_ |apply qt));exact RetOk.of rfl (AV.Le.refl _)
end Go.Proofs.YtcaecieigoplbaaGreat
/- The chain inside define's finder. -/
namespace Go.Proofs.YtcaecieigoplbaaGreat
open Go.AL
abbrev finB (s : Bool) (a : List Int) (e : Int) : Bx := .cells [.v (.int .i64 e), aB s, aW a] 118
theorem fkeep_ok (s : Bool) (a : List Int) (e x : Int) : IoFn Tryz.prog 148 [.ptr 900 0, aX (clip x), aN (szErr x)] [(900, finB s a e)] (.ret (aX (cV e x))) [(900, finB s a (cE e x))] := by
 refine IoFn.of_body Tryz.func148 rfl Tryz.ntmps148 rfl rfl rfl ?_;(repeat' (first |refine qv ?_ |apply qn |apply qs |apply qr |refine qe ?_ |(refine AWP.condD rfl ?_ ?_ <;> intro _ <;> try (exfalso; omega)) |(refine AWP.condN rfl ?_ ?_ <;> intro _ <;> try (exfalso; omega)) |apply qk |apply qt))
 ·rename_i h0 h1;subst h0;have hf : ¬ Fit x := fun h => h1 (szErr_eq.2 h);exact ⟨⟨[], _, _, Ent.refl _ _ _, rfl, AV.Le.agg (leX_zero (cV_not hf)), rfl, ⟨⟨⟨_, rfl, BLe.cells (LeL.cons (AV.Le.int (by unfold cE; rw [if_pos rfl])) (LeL.refl _))⟩, rfl⟩, trivial⟩, rfl, rfl⟩⟩
 ·rename_i h0 h1;subst h0;have hf := szErr_eq.1 h1;exact ⟨⟨[], _, _, Ent.refl _ _ _, rfl, AV.Le.agg (leX (by rw [cV_ok hf, clip_fit hf])), rfl, ⟨⟨⟨_, rfl, BLe.cells (LeL.cons (AV.Le.int (by unfold cE; rw [if_pos rfl])) (LeL.refl _))⟩, rfl⟩, trivial⟩, rfl, rfl⟩⟩
 ·rename_i h0 h1;exact ⟨⟨[], _, _, Ent.refl _ _ _, rfl, AV.Le.agg (leX_zero (cV_err h0)), rfl, ⟨⟨⟨_, rfl, BLe.cells (LeL.cons (AV.Le.int ((cE_err h0).symm)) (LeL.refl _))⟩, rfl⟩, trivial⟩, rfl, rfl⟩⟩
theorem fchAdd_ok (s : Bool) (a : List Int) (e x y : Int) (hx : Fit x) (hy : Fit y) : IoFn Tryz.prog 79 [.ptr 900 0, aX x, aX y] [(900, finB s a e)] (.ret (aX (cV e (x + y)))) [(900, finB s a (cE e (x + y)))] := by
 have hk := fkeep_ok s a e (x + y);refine IoFn.of_body Tryz.func79 rfl Tryz.ntmps79 rfl rfl rfl ?_;(repeat' (first |refine qv ?_ |apply qn |apply qs |apply qr |refine qe ?_|fail));refine qc (Add_ok x y hx hy) ?_;(repeat' (first |refine qv ?_|fail));refine qi [] hk ?_;(repeat' (first |apply qn |refine qe ?_ |apply qt));exact ⟨⟨[], _, _, Ent.refl _ _ _, rfl, AV.Le.refl _, rfl, ⟨⟨⟨_, rfl, BLe.cells (LeL.refl _)⟩, rfl⟩, trivial⟩, rfl, rfl⟩⟩
theorem fchSub_ok (s : Bool) (a : List Int) (e x y : Int) (hx : Fit x) (hy : Fit y) : IoFn Tryz.prog 82 [.ptr 900 0, aX x, aX y] [(900, finB s a e)] (.ret (aX (cV e (x - y)))) [(900, finB s a (cE e (x - y)))] := by
 have hk := fkeep_ok s a e (x - y);refine IoFn.of_body Tryz.func82 rfl Tryz.ntmps82 rfl rfl rfl ?_;(repeat' (first |refine qv ?_ |apply qn |apply qs |apply qr |refine qe ?_|fail));refine qc (Sub_ok x y hx hy) ?_;(repeat' (first |refine qv ?_|fail));refine qi [] hk ?_;(repeat' (first |apply qn |refine qe ?_ |apply qt));exact ⟨⟨[], _, _, Ent.refl _ _ _, rfl, AV.Le.refl _, rfl, ⟨⟨⟨_, rfl, BLe.cells (LeL.refl _)⟩, rfl⟩, trivial⟩, rfl, rfl⟩⟩
theorem fchMul_ok (s : Bool) (a : List Int) (e : Int) (l : List Int) (hl : ∀ x ∈ l, Fit x) (hn : l.length ≤ 1000) : IoFn Tryz.prog 101 [.ptr 900 0, .sl 2 eX l] [(900, finB s a e)] (.ret (aX (mulL e 1 l).1)) [(900, finB s a (mulL e 1 l).2)] := by
 have hk := fkeep_ok s a;refine IoFn.of_body Tryz.func101 rfl Tryz.ntmps101 rfl rfl rfl ?_;(repeat' (first |apply qn |apply qs |apply qr |refine qe ?_|fail));refine qc (Of_ok 1 (by omega) (by omega)) ?_;(repeat' (first |refine qv ?_ |apply qn |apply qs |apply qr |refine qe ?_ |apply qb));refine AWP.loop (G := Nat × Int × Int) (fun g => g.1 ≤ l.length ∧ Fit g.2.1 ∧ mulL g.2.2 g.2.1 (l.drop g.1) = mulL e 1 l) (fun g => St.of [900] [(0, .ptr 900 0), (4, .ptr 4 0), (5, .ptr 5 0), (9, .sl 2 eX l), (10, aN l.length), (11, aN g.1)] [(4, .cells [aB false, .v (.slice none 0 0)] 35), (5, .cells (eX g.2.1) 35), (900, finB s a g.2.2)]) (fun g => l.length - g.1) (0, 1, e) ⟨by omega, fit_one, rfl⟩ ?_ ?_
 ·refine Ent.of [] ?_ ?_ rfl rfl;(repeat' (first |exact True.intro |refine ⟨⟨AV.Le.refl _, rfl⟩, ?_⟩ |refine ⟨⟨⟨_, rfl, BLe.cells (LeL.refl _)⟩, rfl⟩, ?_⟩|fail))
 ·intro ⟨i, out, e'⟩ ⟨k0, k1, k2⟩;(repeat' (first |refine qv ?_ |apply qn |apply qs |apply qr |refine qe ?_ |(refine AWP.condD rfl ?_ ?_ <;> intro _ <;> try (exfalso; omega)) |apply qb |apply qk |apply qx |apply qt |(refine Fl.el rfl rfl rfl rfl rfl rfl rfl rfl (by omega) (by omega) ?_; intro _ _)|fail))
  ·rename_i hi c hc0;rw [Int.toNat_natCast] at hc0;have hk := hk e' (out * c);refine qc (Mul_ok out c k1 (hl c (List.mem_of_getElem? hc0))) ?_;(repeat' (first |refine qv ?_|fail));refine qi [] hk ?_;(repeat' (first |refine qv ?_ |apply qn |apply qr |refine qw ?_ |refine qe ?_|fail));refine LoopEnd.of (i + 1, cV e' (out * c), cE e' (out * c)) ⟨by omega, cV_fit _ _, ?_⟩ (by dsimp only; omega) ?_
   ·rw [← k2];dsimp only;rw [List.drop_eq_getElem_cons (show i < l.length by omega), (List.getElem?_eq_some_iff.1 hc0).2];rfl
   ·refine Ent.of [] ?_ ?_ rfl rfl;(repeat' (first |exact True.intro |refine ⟨⟨AV.Le.refl _, rfl⟩, ?_⟩ |refine ⟨⟨⟨_, rfl, BLe.cells (LeL.refl _)⟩, rfl⟩, ?_⟩|fail))
  ·rename_i hi;have hd : l.drop i = [] := List.drop_of_length_le (by omega);rw [hd] at k2;have k2 : (out, e') = mulL e 1 l := k2;rw [← k2];exact ⟨⟨[], _, _, Ent.refl _ _ _, rfl, AV.Le.refl _, rfl, ⟨⟨⟨_, rfl, BLe.cells (LeL.refl _)⟩, rfl⟩, trivial⟩, rfl, rfl⟩⟩
theorem fchSquare_ok (s : Bool) (a : List Int) (e x : Int) (hx : Fit x) : IoFn Tryz.prog 114 [.ptr 900 0, aX x] [(900, finB s a e)] (.ret (aX (mulL e 1 [x, x]).1)) [(900, finB s a (mulL e 1 [x, x]).2)] := by
 have hk := fchMul_ok s a e [x, x] (by simp [hx]) (by simp);refine IoFn.of_body Tryz.func114 rfl Tryz.ntmps114 rfl rfl rfl ?_;(repeat' (first |refine qv ?_ |apply qn |apply qs |apply qr |refine qe ?_|fail));refine ql eX [x, x] ?_;skip;refine qi [] hk ?_;(repeat' (first |apply qn |refine qe ?_ |apply qt));exact ⟨⟨[], _, _, Ent.refl _ _ _, rfl, AV.Le.refl _, rfl, ⟨⟨⟨_, rfl, BLe.cells (LeL.refl _)⟩, rfl⟩, trivial⟩, rfl, rfl⟩⟩
theorem fchQuo_ok (s : Bool) (a : List Int) (e x y : Int) (hx : Fit x) (hy : Fit y) (h : e = 0 → y ≠ 0) : IoFn Tryz.prog 80 [.ptr 900 0, aX x, aX y] [(900, finB s a e)] (.ret (aX (cV e (x / y)))) [(900, finB s a (cE e (x / y)))] := by
 have hk := fkeep_ok s a e (x / y);refine IoFn.of_body Tryz.func80 rfl Tryz.ntmps80 rfl rfl rfl ?_;refine AWP.seqS ?_;(repeat' (first |apply qn |apply qr |refine qe ?_|fail));refine ⟨AWP.seqS ?_⟩;(repeat' (first |refine qv ?_ |apply qn |apply qs |apply qr |refine qe ?_ |(refine AWP.condN rfl ?_ ?_ <;> intro _ <;> try (exfalso; omega)) |apply qk |apply qt))
 ·rename_i he;refine ⟨⟨[], _, _, Ent.refl _ _ _, rfl, AV.Le.agg (leX_zero (cV_err he)), rfl, ⟨⟨⟨_, rfl, BLe.cells (LeL.cons (AV.Le.int (cE_err he).symm) (LeL.refl _))⟩, rfl⟩, trivial⟩, rfl, rfl⟩⟩
 ·rename_i he;obtain ⟨f1, f2⟩ := div_fit hx hy (h he);rw [clip_fit f1, szErr_fit f1] at hk;refine ⟨AWP.seqS ?_⟩;(repeat' (first |refine qv ?_ |apply qr));refine qc (Div_ok x y hx hy (h he)) ?_;(repeat' (first |refine qv ?_ |apply qn |refine qe ?_|fail));refine ⟨?_⟩;(repeat' (first |refine qv ?_ |apply qs |apply qr));refine qi [] hk ?_;(repeat' (first |apply qn |refine qe ?_ |apply qt));exact ⟨⟨[], _, _, Ent.refl _ _ _, rfl, AV.Le.refl _, rfl, ⟨⟨⟨_, rfl, BLe.cells (LeL.refl _)⟩, rfl⟩, trivial⟩, rfl, rfl⟩⟩
end Go.Proofs.YtcaecieigoplbaaGreat
/- The finder's own methods. -/
namespace Go.AL
theorem RankIs.fun {a m : Int} {N n n' : Nat} (h : RankIs a m N n) (h' : RankIs a m N n') : n = n' := by
 rcases Nat.lt_trichotomy n n' with k | k | k
 ·exact absurd h.2.2.1 (h'.2.2.2 n h.1 k)
 ·exact k
 ·exact absurd h'.2.2.1 (h.2.2.2 n' h'.1 k)
end Go.AL
namespace Go.Proofs.YtcaecieigoplbaaGreat
open Go.AL
theorem fdo_ok (s : Bool) (a : List Int) (e x k : Int) : IoFn Tryz.prog 167 [.ptr 900 0, aX x, aN k] [(900, finB s a e)] (.ret (aX x)) [(900, finB s a (if e = 0 then k else e))] := by
 refine IoFn.of_body Tryz.func167 rfl Tryz.ntmps167 rfl rfl rfl ?_;(repeat' (first |refine qv ?_ |apply qn |apply qs |apply qr |refine qe ?_ |(refine AWP.condD rfl ?_ ?_ <;> intro _ <;> try (exfalso; omega)) |apply qk |apply qt))
 ·rename_i h;exact ⟨⟨[], _, _, Ent.refl _ _ _, rfl, AV.Le.refl _, rfl, ⟨⟨⟨_, rfl, BLe.cells (LeL.cons (AV.Le.int (by rw [if_pos h])) (LeL.refl _))⟩, rfl⟩, trivial⟩, rfl, rfl⟩⟩
 ·rename_i h;exact ⟨⟨[], _, _, Ent.refl _ _ _, rfl, AV.Le.refl _, rfl, ⟨⟨⟨_, rfl, BLe.cells (LeL.cons (AV.Le.int (by rw [if_neg h])) (LeL.refl _))⟩, rfl⟩, trivial⟩, rfl, rfl⟩⟩
theorem fpsi_ok (s : Bool) (b : List Int) (e a n : Int) (ha : Fit a) (h2 : 2 ≤ a) (h0 : 1 ≤ n) (h1 : n ≤ 9223372036854775807) : IoFn Tryz.prog 112 [.ptr 900 0, aX a, aN n] [(900, finB s b e)] (.ret (aX (clip (psiN a n.toNat)))) [(900, finB s b (cE e (psiN a n.toNat)))] := by
 have hk := fdo_ok s b e (clip (psiN a n.toNat)) (szErr (psiN a n.toNat));refine IoFn.of_body Tryz.func112 rfl Tryz.ntmps112 rfl rfl rfl ?_;(repeat' (first |refine qv ?_ |apply qn |apply qs |apply qr |refine qe ?_|fail));refine qc (Psi_ok a n ha h2 h0 h1) ?_;(repeat' (first |refine qv ?_|fail));refine qi [] hk ?_;(repeat' (first |apply qn |refine qe ?_ |apply qt));exact ⟨⟨[], _, _, Ent.refl _ _ _, rfl, AV.Le.refl _, rfl, ⟨⟨⟨_, rfl, BLe.cells (LeL.refl _)⟩, rfl⟩, trivial⟩, rfl, rfl⟩⟩
theorem fchi_ok (s : Bool) (b : List Int) (e a n : Int) (ha : Fit a) (h2 : 2 ≤ a) (h0 : 1 ≤ n) (h1 : n ≤ 9223372036854775807) : IoFn Tryz.prog 113 [.ptr 900 0, aX a, aN n] [(900, finB s b e)] (.ret (aX (clip (chiN a n.toNat)))) [(900, finB s b (cE e (chiN a n.toNat)))] := by
 have hk := fdo_ok s b e (clip (chiN a n.toNat)) (szErr (chiN a n.toNat));refine IoFn.of_body Tryz.func113 rfl Tryz.ntmps113 rfl rfl rfl ?_;(repeat' (first |refine qv ?_ |apply qn |apply qs |apply qr |refine qe ?_|fail));refine qc (Chi2_ok a n ha h2 h0 h1) ?_;(repeat' (first |refine qv ?_|fail));refine qi [] hk ?_;(repeat' (first |apply qn |refine qe ?_ |apply qt));exact ⟨⟨[], _, _, Ent.refl _ _ _, rfl, AV.Le.refl _, rfl, ⟨⟨⟨_, rfl, BLe.cells (LeL.refl _)⟩, rfl⟩, trivial⟩, rfl, rfl⟩⟩
theorem frank_ok (a m : Int) (n : Nat) (ha : Fit a) (h2 : 2 ≤ a) (hm : Fit m) (hm0 : 1 ≤ m) (hmb : bitl m.natAbs ≤ 4000) (hr : RankIs a m 20000 n) : IoFn Tryz.prog 115 [.ptr 900 0, aX m] [(900, finB (decide (a < 0)) (toW a.natAbs) 0)] (.ret (aN n)) [(900, finB (decide (a < 0)) (toW a.natAbs) 0)] := by
 have hk := lRank_ok a m 20000 ha h2 hm hm0 hmb (by omega) (by omega) (.tup [aN n, aN 0]) (fun n' h => by rw [hr.fun h]) (fun h => absurd hr.2.2.1 (h n hr.1 hr.2.1));refine IoFn.of_body Tryz.func115 rfl Tryz.ntmps115 rfl rfl rfl ?_;(repeat' (first |refine qv ?_ |apply qn |apply qs |apply qr |refine qe ?_ |refine AWP.condF rfl ?_ |apply qk));refine qc (hk) ?_;(repeat' (first |refine qv ?_ |apply qn |refine Fl.nil (fun _ => by kernel_rfl) ?_ |apply qs |apply qr |refine AWP.condF rfl ?_ |apply qk |apply qt));exact ⟨⟨[], _, _, Ent.refl _ _ _, rfl, AV.Le.refl _, rfl, ⟨⟨⟨_, rfl, BLe.cells (LeL.refl _)⟩, rfl⟩, trivial⟩, rfl, rfl⟩⟩
theorem frank_none (a m : Int) (ha : Fit a) (h2 : 2 ≤ a) (hm : Fit m) (hm0 : 1 ≤ m) (hmb : bitl m.natAbs ≤ 4000) (hr : NoRank a m 20000) : IoFn Tryz.prog 115 [.ptr 900 0, aX m] [(900, finB (decide (a < 0)) (toW a.natAbs) 0)] (.ret (aN 0)) [(900, finB (decide (a < 0)) (toW a.natAbs) 4)] := by
 have hk := lRank_ok a m 20000 ha h2 hm hm0 hmb (by omega) (by omega) (.tup [aN 0, aN 6]) (fun n h => absurd h.2.2.1 (hr n h.1 h.2.1)) (fun _ => rfl);refine IoFn.of_body Tryz.func115 rfl Tryz.ntmps115 rfl rfl rfl ?_;(repeat' (first |refine qv ?_ |apply qn |apply qs |apply qr |refine qe ?_ |refine AWP.condF rfl ?_ |apply qk));refine qc (hk) ?_;(repeat' (first |refine qv ?_ |apply qn |refine Fl.nil (fun _ => by kernel_rfl) ?_ |apply qs |apply qr |refine qe ?_ |refine AWP.condT rfl ?_ |apply qt));exact ⟨⟨[], _, _, Ent.refl _ _ _, rfl, AV.Le.refl _, rfl, ⟨⟨⟨_, rfl, BLe.cells (LeL.refl _)⟩, rfl⟩, trivial⟩, rfl, rfl⟩⟩
theorem lRank_big (a m : Int) (most : Nat) (ha : Fit a) (h2 : 2 ≤ a) (hm : Fit m) (hmb : ¬ (1 ≤ m ∧ bitl m.natAbs ≤ 4000)) (hmo2 : most ≤ 20000) : PureFn Tryz.prog 168 [aX a, aX m, aN most] (.tup [aN 0, aN 2]) := by
 refine PureFn.of_body Tryz.func168 rfl Tryz.ntmps168 rfl rfl ?_;have cm := modulus_ok m hm false ⟨fun h => absurd h (by simp), fun h => absurd h hmb⟩;refine AWP.seqS ?_;(repeat' (first |apply qn |apply qr |refine qe ?_|fail));refine ⟨AWP.seqS ?_⟩;(repeat' (first |refine qv ?_ |apply qs |apply qr));refine ql eX [m] ?_;skip;refine qc (fits2_ok a m ha hm h2) ?_;(repeat' (first |refine qv ?_ |apply qn |apply qs |apply qr |refine AWP.condF rfl ?_ |apply qk));refine ⟨AWP.seqS ?_⟩;(repeat' (first |refine qv ?_ |apply qs |apply qr));refine qc (cm) ?_;(repeat' (first |refine qv ?_ |apply qn |apply qs |apply qr |refine qe ?_ |refine Fl.skip rfl rfl ?_ |refine AWP.condT rfl ?_ |apply qt));exact RetOk.of rfl (AV.Le.refl _)
theorem frank_big (a m : Int) (ha : Fit a) (h2 : 2 ≤ a) (hm : Fit m) (hmb : ¬ (1 ≤ m ∧ bitl m.natAbs ≤ 4000)) : IoFn Tryz.prog 115 [.ptr 900 0, aX m] [(900, finB (decide (a < 0)) (toW a.natAbs) 0)] (.ret (aN 0)) [(900, finB (decide (a < 0)) (toW a.natAbs) 4)] := by
 have hk := lRank_big a m 20000 ha h2 hm hmb (by omega);refine IoFn.of_body Tryz.func115 rfl Tryz.ntmps115 rfl rfl rfl ?_;(repeat' (first |refine qv ?_ |apply qn |apply qs |apply qr |refine qe ?_ |refine AWP.condF rfl ?_ |apply qk));refine qc (hk) ?_;(repeat' (first |refine qv ?_ |apply qn |refine Fl.nil (fun _ => by kernel_rfl) ?_ |apply qs |apply qr |refine qe ?_ |refine AWP.condT rfl ?_ |apply qt));exact ⟨⟨[], _, _, Ent.refl _ _ _, rfl, AV.Le.refl _, rfl, ⟨⟨⟨_, rfl, BLe.cells (LeL.refl _)⟩, rfl⟩, trivial⟩, rfl, rfl⟩⟩
theorem frank_err (s : Bool) (b : List Int) (m e : Int) (he : e ≠ 0) : IoFn Tryz.prog 115 [.ptr 900 0, aX m] [(900, finB s b e)] (.ret (aN 0)) [(900, finB s b e)] := by
 refine IoFn.of_body Tryz.func115 rfl Tryz.ntmps115 rfl rfl rfl ?_;(repeat' (first |refine qv ?_ |apply qn |apply qs |apply qr |refine qe ?_ |(refine AWP.condN rfl ?_ ?_ <;> intro _ <;> try (exfalso; omega)) |apply qt));exact ⟨⟨[], _, _, Ent.refl _ _ _, rfl, AV.Le.refl _, rfl, ⟨⟨⟨_, rfl, BLe.cells (LeL.refl _)⟩, rfl⟩, trivial⟩, rfl, rfl⟩⟩
end Go.Proofs.YtcaecieigoplbaaGreat
/- Pell's equation: every solution; divisions of psi: plain. -/
namespace Go.AL
end Go.AL
/- Which psi divide which: plain. -/
namespace Go.AL
end Go.AL
/- define.Witness's numbers: when they are all numbers of at most 4096 words. Plain. -/
namespace Go.AL
theorem clip_fits (x : Int) : Fit (clip x) := by
 unfold clip;split
 ·assumption
 ·exact Fit.zero
theorem cE_zero {e x : Int} : cE e x = 0 ↔ e = 0 ∧ Fit x := by
 unfold cE;split
 ·rename_i h; rw [szErr_eq]; exact ⟨fun k => ⟨h, k⟩, fun k => k.2⟩
 ·rename_i h; exact ⟨fun k => absurd k h, fun k => absurd k.1 h⟩
theorem cVE {e x v E : Int} (hv : v = cV e x) (hE : E = cE e x) : (E = 0 ↔ e = 0 ∧ Fit x) ∧ (E = 0 → v = x) := by
 subst hv; subst hE;refine ⟨cE_zero, fun h => ?_⟩;obtain ⟨rfl, h'⟩ := cE_zero.1 h;exact cV_ok h'
theorem clipE {e x v E : Int} (hv : v = clip x) (hE : E = cE e x) : (E = 0 ↔ e = 0 ∧ Fit x) ∧ (E = 0 → v = x) := by
 subst hv; subst hE;refine ⟨cE_zero, fun h => ?_⟩;obtain ⟨rfl, h'⟩ := cE_zero.1 h;exact clip_fit h'
def PF (o : Int) : List Int → Prop
  | [] => True
  | x :: l => Fit (o * x) ∧ PF (o * x) l
def prI (o : Int) : List Int → Int
  | [] => o
  | x :: l => prI (o * x) l
theorem mulL_iff : ∀ (l : List Int) (e o : Int), ((mulL e o l).2 = 0 ↔ e = 0 ∧ PF o l) ∧ ((mulL e o l).2 = 0 → (mulL e o l).1 = prI o l)
 | [], e, o => ⟨⟨fun h => ⟨h, trivial⟩, fun h => h.1⟩, fun _ => rfl⟩
 | x :: l, e, o => by
  rw [mulL];obtain ⟨i1, i2⟩ := mulL_iff l (cE e (o * x)) (cV e (o * x));refine ⟨⟨fun h => ?_, fun h => ?_⟩, fun h => ?_⟩
  ·obtain ⟨h1, h2⟩ := i1.1 h;obtain ⟨h3, h4⟩ := cE_zero.1 h1;subst h3;rw [cV_ok h4] at h2;exact ⟨rfl, h4, h2⟩
  ·obtain ⟨h1, h2, h3⟩ := h;subst h1;refine i1.2 ⟨cE_ok h2, ?_⟩;rw [cV_ok h2]; exact h3
  ·obtain ⟨h1, h2⟩ := i1.1 h;obtain ⟨h3, h4⟩ := cE_zero.1 h1;rw [i2 h];subst h3;rw [cV_ok h4]; rfl
theorem mulE {l : List Int} {e v E : Int} (h : mulL e 1 l = (v, E)) : (E = 0 ↔ e = 0 ∧ PF 1 l) ∧ (E = 0 → v = prI 1 l) := by
 have := mulL_iff l e 1;rw [h] at this;exact this
theorem mulE_fit {l : List Int} {e v E : Int} (h : mulL e 1 l = (v, E)) : Fit v := by
 have := mulL_fit l e 1 fit_one;rwa [h] at this
structure DN where
  (c x d u e s f G h p I i j t v w : Int)
def dn (a b : Int) (n : Nat) : DN :=
  let c := psiN a b.toNat
  let x := chiN a b.toNat
  let d := x * x
  let u := 2 * c * c * d
  let e := psiN a n
  let s := chiN a n
  let f := s * s
  let G := a + f * (f - a)
  let h := psiN G b.toNat
  let p := chiN G b.toNat
  ⟨c, x, d, u, e, s, f, G, h, p, p * p, e / u - 1, (h - b) / (2 * c), (h - c) / f, c - b, x * s * p⟩
def DN.L (w : DN) (a b : Int) : List Int := [a, b, w.c, w.d, w.e, w.f, w.G, w.h, w.I, w.i, w.j, w.t, w.v, w.w, a - 2, b - 1]
theorem dn_L {a b : Int} {n : Nat} {c d e f G h I i j t v w k : Int} (hDc : (dn a b n).c = c) (hDd : (dn a b n).d = d) (hDe : (dn a b n).e = e) (hDf : (dn a b n).f = f) (hDG : (dn a b n).G = G) (m1 : h = (dn a b n).h) (m2 : I = (dn a b n).I) (m3 : i = (dn a b n).i) (m4 : j = (dn a b n).j) (m5 : t = (dn a b n).t) (m6 : v = (dn a b n).v) (m7 : w = (dn a b n).w) (m8 : k = a - 2) : (dn a b n).L a b = [a, b, c, d, e, f, G, h, I, i, j, t, v, w, k, b - 1] := by
 subst hDc hDd hDe hDf hDG m1 m2 m3 m4 m5 m6 m7 m8;rfl
def dU (a b : Int) : Int := 2 * psiN a b.toNat * psiN a b.toNat * (chiN a b.toNat * chiN a b.toNat)
def DOK (a b : Int) (n : Nat) : Prop := bitl (dU a b).natAbs ≤ 4000 ∧ RankIs a (dU a b) 20000 n ∧ ∀ x ∈ (dn a b n).L a b, Fit x
theorem dn_u (a b : Int) (n : Nat) : (dn a b n).u = dU a b := rfl
theorem fit_bitl {x : Int} (h : bitl x.natAbs ≤ 4000) : Fit x := by
 refine Fit.mk ?_;obtain ⟨N, hN⟩ : ∃ N : Nat, N = 4000 := ⟨_, rfl⟩;have h1 := bitl_lt x.natAbs;have h2 : (2 : Nat) ^ bitl x.natAbs ≤ 2 ^ N := Nat.pow_le_pow_right (by omega) (by omega)
 have h3 : (2 : Int) ^ N ≤ BB 4096 := by rw [BB_pow]; exact pow_le_r (by omega) (by omega)
 have h4 : ((x.natAbs : Nat) : Int) < ((2 ^ N : Nat) : Int) := Int.ofNat_lt.2 (by omega);rw [Int.natCast_pow] at h4;exact Int.lt_of_lt_of_le h4 h3
theorem mul_ge {x y : Int} (hx : 0 ≤ x) (hy : 1 ≤ y) : x ≤ x * y := by
 have := Int.mul_le_mul_of_nonneg_left hy hx;omega
theorem dn_pos1 {a b : Int} {n : Nat} (h2 : 2 ≤ a) (hb : 1 ≤ b) (hn : 1 ≤ n) : 1 ≤ (dn a b n).c ∧ 1 ≤ (dn a b n).x ∧ 1 ≤ (dn a b n).e ∧ a ≤ (dn a b n).s ∧ a ≤ (dn a b n).f ∧ 2 ≤ (dn a b n).G ∧ 1 ≤ (dn a b n).u := by
 have e1 : 1 ≤ psiN a b.toNat := psi_pos h2 (by omega);have e2 := (cp_pos h2 b.toNat).1;have e3 : 1 ≤ psiN a n := psi_pos h2 hn;obtain ⟨m, rfl⟩ : ∃ m, n = m + 1 := ⟨n - 1, by omega⟩;have e4 := (chi_step h2 m).2.2.2.2;have e5 : a ≤ chiN a (m + 1) * chiN a (m + 1) := Int.le_trans e4 (mul_ge (by omega) (by omega));have e6 : 0 ≤ chiN a (m + 1) * chiN a (m + 1) * (chiN a (m + 1) * chiN a (m + 1) - a) := Int.mul_nonneg (by omega) (by omega);have e7 : 1 ≤ 2 * psiN a b.toNat * psiN a b.toNat := Int.le_trans (by omega) (mul_ge (x := 2 * psiN a b.toNat) (by omega) e1);have e8 : 1 ≤ chiN a b.toNat * chiN a b.toNat := Int.le_trans e2 (mul_ge (by omega) e2);have e9 := Int.le_trans e7 (mul_ge (x := 2 * psiN a b.toNat * psiN a b.toNat) (by omega) e8);exact ⟨e1, e2, e3, e4, e5, by show 2 ≤ a + chiN a (m + 1) * chiN a (m + 1) * (chiN a (m + 1) * chiN a (m + 1) - a); omega, e9⟩
theorem dn_pos2 {a b : Int} {n : Nat} (hb : 1 ≤ b) (hG : 2 ≤ (dn a b n).G) : 1 ≤ (dn a b n).h ∧ 1 ≤ (dn a b n).p := by
 exact ⟨psi_pos hG (by omega), (cp_pos hG b.toNat).1⟩
theorem d_first {a b : Int} {c x d u E1 E2 E3 E4 : Int} (hc : c = clip (psiN a b.toNat)) (hx : x = clip (chiN a b.toNat)) (hE1 : E1 = cE 0 (psiN a b.toNat)) (hE2 : E2 = cE E1 (chiN a b.toNat)) (hd : mulL E2 1 [x, x] = (d, E3)) (hu : mulL E3 1 [2, c, c, d] = (u, E4)) (hE : E4 = 0) : c = psiN a b.toNat ∧ x = chiN a b.toNat ∧ d = x * x ∧ u = 2 * c * c * d ∧ u = dU a b := by
 obtain ⟨u1, u2⟩ := mulE hu;obtain ⟨d1, d2⟩ := mulE hd;obtain ⟨x1, x2⟩ := clipE hx hE2;obtain ⟨c1, c2⟩ := clipE hc hE1;have h3 := (u1.1 hE).1;have h2 := (d1.1 h3).1;have h1 := (x1.1 h2).1;have k1 := c2 h1;have k2 := x2 h2;have k3 := d2 h3;have k4 := u2 hE;simp only [prI, Int.one_mul] at k3 k4;refine ⟨k1, k2, k3, k4, ?_⟩;rw [k4, k3, k1, k2]; rfl
theorem d_first' {a b : Int} {n : Nat} {c x d u E1 E2 E3 E4 : Int} (h2 : 2 ≤ a) (hb : 1 ≤ b) (hc : c = clip (psiN a b.toNat)) (hx : x = clip (chiN a b.toNat)) (hE1 : E1 = cE 0 (psiN a b.toNat)) (hE2 : E2 = cE E1 (chiN a b.toNat)) (hd : mulL E2 1 [x, x] = (d, E3)) (hu : mulL E3 1 [2, c, c, d] = (u, E4)) (hk : DOK a b n) : E4 = 0 := by
 obtain ⟨k1, k2, k3⟩ := hk;simp only [DN.L, List.forall_mem_cons] at k3;obtain ⟨_, _, f1, f2, _⟩ := k3;have e1 : 1 ≤ psiN a b.toNat := psi_pos h2 (by omega);have e2 := (cp_pos h2 b.toNat).1;have f1 : Fit (psiN a b.toNat) := f1;have f2 : Fit (chiN a b.toNat * chiN a b.toNat) := f2;have f3 : Fit (dU a b) := fit_bitl k1;have f4 : Fit (chiN a b.toNat) := fit_of f2 (by omega) (mul_ge (by omega) e2);have g1 : 1 ≤ chiN a b.toNat * chiN a b.toNat := Int.le_trans e2 (mul_ge (by omega) e2);have g2 : 2 * psiN a b.toNat ≤ 2 * psiN a b.toNat * psiN a b.toNat := mul_ge (by omega) e1;have f5 : Fit (2 * psiN a b.toNat * psiN a b.toNat) := fit_of f3 (by omega) (mul_ge (by omega) g1);have f6 : Fit (2 * psiN a b.toNat) := fit_of f5 (by omega) g2;obtain ⟨u1, u2⟩ := mulE hu;obtain ⟨d1, d2⟩ := mulE hd;obtain ⟨x1, x2⟩ := clipE hx hE2;obtain ⟨c1, c2⟩ := clipE hc hE1;have h1 : E1 = 0 := c1.2 ⟨rfl, f1⟩;have h2' : E2 = 0 := x1.2 ⟨h1, f4⟩;have hc' := c2 h1;have hx' := x2 h2';have h3 : E3 = 0 := d1.2 ⟨h2', by simp only [PF, Int.one_mul, hx']; exact ⟨f4, f2, trivial⟩⟩;have hd' := d2 h3;simp only [prI, Int.one_mul] at hd';refine u1.2 ⟨h3, ?_⟩;simp only [PF, Int.one_mul, hd', hc', hx'];exact ⟨fit_two, f6, f5, f3, trivial⟩
theorem d_second {a : Int} {n : Nat} {e s f g1 g2 G E5 E6 E7 E8 E9 E10 : Int} (he : e = clip (psiN a n)) (hE5 : E5 = cE 0 (psiN a n)) (hs : s = clip (chiN a n)) (hE6 : E6 = cE E5 (chiN a n)) (hf : mulL E6 1 [s, s] = (f, E7)) (hg1 : g1 = cV E7 (f - a)) (hE8 : E8 = cE E7 (f - a)) (hg2 : mulL E8 1 [f, g1] = (g2, E9)) (hG : G = cV E9 (a + g2)) (hE10 : E10 = cE E9 (a + g2)) (hE : E10 = 0) : e = psiN a n ∧ s = chiN a n ∧ f = s * s ∧ G = a + f * (f - a) := by
 obtain ⟨p1, p2⟩ := cVE hG hE10;obtain ⟨q1, q2⟩ := mulE hg2;obtain ⟨r1, r2⟩ := cVE hg1 hE8;obtain ⟨s1, s2⟩ := mulE hf;obtain ⟨t1, t2⟩ := clipE hs hE6;obtain ⟨v1, v2⟩ := clipE he hE5;have h9 := (p1.1 hE).1;have h8 := (q1.1 h9).1;have h7 := (r1.1 h8).1;have h6 := (s1.1 h7).1;have h5 := (t1.1 h6).1;have k1 := p2 hE;have k2 := q2 h9;have k3 := r2 h8;have k4 := s2 h7;simp only [prI, Int.one_mul] at k2 k4;exact ⟨v2 h5, t2 h6, k4, by rw [k1, k2, k3]⟩
theorem d_second' {a b : Int} {n : Nat} {e s f g1 g2 G E5 E6 E7 E8 E9 E10 : Int} (h2 : 2 ≤ a) (hb : 1 ≤ b) (he : e = clip (psiN a n)) (hE5 : E5 = cE 0 (psiN a n)) (hs : s = clip (chiN a n)) (hE6 : E6 = cE E5 (chiN a n)) (hf : mulL E6 1 [s, s] = (f, E7)) (hg1 : g1 = cV E7 (f - a)) (hE8 : E8 = cE E7 (f - a)) (hg2 : mulL E8 1 [f, g1] = (g2, E9)) (hG : G = cV E9 (a + g2)) (hE10 : E10 = cE E9 (a + g2)) (hk : DOK a b n) : E10 = 0 := by
 obtain ⟨k1, k2, k3⟩ := hk;simp only [DN.L, List.forall_mem_cons] at k3;obtain ⟨fa, _, _, _, f1, f2, f3, _⟩ := k3;obtain ⟨e1, e2, e3, e4, e5, e6, e7⟩ := dn_pos1 (n := n) h2 hb k2.1;have f1 : Fit (psiN a n) := f1;have f2 : Fit (chiN a n * chiN a n) := f2;have f3 : Fit (a + chiN a n * chiN a n * (chiN a n * chiN a n - a)) := f3;have e4 : a ≤ chiN a n := e4;have e5 : a ≤ chiN a n * chiN a n := e5;have g0 : 0 ≤ chiN a n * chiN a n * (chiN a n * chiN a n - a) := Int.mul_nonneg (by omega) (by omega);have f4 : Fit (chiN a n) := fit_of f2 (by omega) (mul_ge (by omega) (by omega));have f5 : Fit (chiN a n * chiN a n - a) := fit_of f2 (by omega) (by omega);have f6 : Fit (chiN a n * chiN a n * (chiN a n * chiN a n - a)) := fit_of f3 g0 (by omega);obtain ⟨p1, p2⟩ := cVE hG hE10;obtain ⟨q1, q2⟩ := mulE hg2;obtain ⟨r1, r2⟩ := cVE hg1 hE8;obtain ⟨s1, s2⟩ := mulE hf;obtain ⟨t1, t2⟩ := clipE hs hE6;obtain ⟨v1, v2⟩ := clipE he hE5;have h5 : E5 = 0 := v1.2 ⟨rfl, f1⟩;have h6 : E6 = 0 := t1.2 ⟨h5, f4⟩;have hs' := t2 h6;have h7 : E7 = 0 := s1.2 ⟨h6, by simp only [PF, Int.one_mul, hs']; exact ⟨f4, f2, trivial⟩⟩;have hf' := s2 h7;simp only [prI, Int.one_mul, hs'] at hf';have h8 : E8 = 0 := r1.2 ⟨h7, by rw [hf']; exact f5⟩;have hg' := r2 h8;rw [hf'] at hg';have h9 : E9 = 0 := q1.2 ⟨h8, by simp only [PF, Int.one_mul, hf', hg']; exact ⟨f2, f6, trivial⟩⟩;have hg2' := q2 h9;simp only [prI, Int.one_mul, hf', hg'] at hg2';exact p1.2 ⟨h9, by rw [hg2']; exact f3⟩
theorem d_third {a b : Int} {n : Nat} {h p I q1 i h1 c2 j t1 t v w k E11 E12 E13 E14 E15 E16 E17 E18 E19 E20 E21 E22 E23 : Int} (hh : h = clip (dn a b n).h) (hE11 : E11 = cE 0 (dn a b n).h) (hp : p = clip (dn a b n).p) (hE12 : E12 = cE E11 (dn a b n).p) (hI : mulL E12 1 [p, p] = (I, E13)) (hq1 : q1 = cV E13 ((dn a b n).e / (dn a b n).u)) (hE14 : E14 = cE E13 ((dn a b n).e / (dn a b n).u)) (hi : i = cV E14 (q1 - 1)) (hE15 : E15 = cE E14 (q1 - 1)) (hh1 : h1 = cV E15 (h - b)) (hE16 : E16 = cE E15 (h - b)) (hc2 : mulL E16 1 [2, (dn a b n).c] = (c2, E17)) (hj : j = cV E17 (h1 / c2)) (hE18 : E18 = cE E17 (h1 / c2)) (ht1 : t1 = cV E18 (h - (dn a b n).c)) (hE19 : E19 = cE E18 (h - (dn a b n).c)) (ht : t = cV E19 (t1 / (dn a b n).f)) (hE20 : E20 = cE E19 (t1 / (dn a b n).f)) (hv : v = cV E20 ((dn a b n).c - b)) (hE21 : E21 = cE E20 ((dn a b n).c - b)) (hw : mulL E21 1 [(dn a b n).x, (dn a b n).s, p] = (w, E22)) (hk : k = cV E22 (a - 2)) (hE23 : E23 = cE E22 (a - 2)) :
  (E23 = 0 → h = (dn a b n).h ∧ I = (dn a b n).I ∧ i = (dn a b n).i ∧ j = (dn a b n).j ∧ t = (dn a b n).t ∧ v = (dn a b n).v ∧ w = (dn a b n).w ∧ k = a - 2) ∧
  (E23 = 0 ↔ Fit (dn a b n).h ∧ Fit (dn a b n).p ∧ Fit (dn a b n).I ∧ Fit ((dn a b n).e / (dn a b n).u) ∧ Fit (dn a b n).i ∧ Fit ((dn a b n).h - b) ∧ Fit (2 * (dn a b n).c) ∧ Fit (dn a b n).j ∧ Fit ((dn a b n).h - (dn a b n).c) ∧ Fit (dn a b n).t ∧ Fit (dn a b n).v ∧ Fit (dn a b n).x ∧ Fit ((dn a b n).x * (dn a b n).s) ∧ Fit (dn a b n).w ∧ Fit (a - 2)) := by
 have w1 : (dn a b n).I = (dn a b n).p * (dn a b n).p := rfl;have w2 : (dn a b n).i = (dn a b n).e / (dn a b n).u - 1 := rfl;have w3 : (dn a b n).j = ((dn a b n).h - b) / (2 * (dn a b n).c) := rfl;have w4 : (dn a b n).t = ((dn a b n).h - (dn a b n).c) / (dn a b n).f := rfl;have w5 : (dn a b n).v = (dn a b n).c - b := rfl;have w6 : (dn a b n).w = (dn a b n).x * (dn a b n).s * (dn a b n).p := rfl;rw [w1, w2, w3, w4, w5, w6]
 generalize dn a b n = D at *
 obtain ⟨c, x, d, u, e, s, f, G, H, P, I', i', j', t', v', w'⟩ := D
 simp only at *
 clear w1 w2 w3 w4 w5 w6;obtain ⟨z11, y11⟩ := clipE hh hE11;obtain ⟨z12, y12⟩ := clipE hp hE12;obtain ⟨z13, y13⟩ := mulE hI;obtain ⟨z14, y14⟩ := cVE hq1 hE14;obtain ⟨z15, y15⟩ := cVE hi hE15;obtain ⟨z16, y16⟩ := cVE hh1 hE16;obtain ⟨z17, y17⟩ := mulE hc2;obtain ⟨z18, y18⟩ := cVE hj hE18;obtain ⟨z19, y19⟩ := cVE ht1 hE19;obtain ⟨z20, y20⟩ := cVE ht hE20;obtain ⟨z21, y21⟩ := cVE hv hE21;obtain ⟨z22, y22⟩ := mulE hw;obtain ⟨z23, y23⟩ := cVE hk hE23;clear hh hE11 hp hE12 hI hq1 hE14 hi hE15 hh1 hE16 hc2 hj hE18 ht1 hE19 ht hE20 hv hE21 hw hk hE23
 simp only [prI, PF, Int.one_mul, and_true] at *
 have up : E23 = 0 → h = H ∧ p = P ∧ I = P * P ∧ q1 = e / u ∧ i = e / u - 1 ∧ h1 = H - b ∧ c2 = 2 * c ∧ j = (H - b) / (2 * c) ∧ t1 = H - c ∧ t = (H - c) / f ∧ v = c - b ∧ w = x * s * P ∧ k = a - 2 := fun h0 => by
  have k22 := (z23.1 h0).1;have k21 := (z22.1 k22).1;have k20 := (z21.1 k21).1;have k19 := (z20.1 k20).1;have k18 := (z19.1 k19).1;have k17 := (z18.1 k18).1;have k16 := (z17.1 k17).1;have k15 := (z16.1 k16).1;have k14 := (z15.1 k15).1;have k13 := (z14.1 k14).1;have k12 := (z13.1 k13).1;have k11 := (z12.1 k12).1;have a1 := y11 k11;have a2 := y12 k12;subst a1; subst a2;have a3 := y13 k13;have a4 := y14 k14;subst a4;have a5 := y15 k15;have a6 := y16 k16;subst a6;have a7 := y17 k17;subst a7;have a8 := y18 k18;have a9 := y19 k19;subst a9;exact ⟨rfl, rfl, a3, rfl, a5, rfl, rfl, a8, rfl, y20 k20, y21 k21, y22 k22, y23 h0⟩
 refine ⟨fun h0 => ?_, fun h0 => ?_, fun h0 => ?_⟩
 ·obtain ⟨b1, b2, b3, b4, b5, b6, b7, b8, b9, b10, b11, b12, b13⟩ := up h0;exact ⟨b1, b3, b5, b8, b10, b11, b12, b13⟩
 ·obtain ⟨b1, b2, b3, b4, b5, b6, b7, b8, b9, b10, b11, b12, b13⟩ := up h0;subst b1; subst b2; subst b4; subst b6; subst b7; subst b9;obtain ⟨k22, r23⟩ := z23.1 h0;obtain ⟨k21, r22⟩ := z22.1 k22;obtain ⟨k20, r21⟩ := z21.1 k21;obtain ⟨k19, r20⟩ := z20.1 k20;obtain ⟨k18, r19⟩ := z19.1 k19;obtain ⟨k17, r18⟩ := z18.1 k18;obtain ⟨k16, r17⟩ := z17.1 k17;obtain ⟨k15, r16⟩ := z16.1 k16;obtain ⟨k14, r15⟩ := z15.1 k15;obtain ⟨k13, r14⟩ := z14.1 k14;obtain ⟨k12, r13⟩ := z13.1 k13;obtain ⟨k11, r12⟩ := z12.1 k12;obtain ⟨_, r11⟩ := z11.1 k11;exact ⟨r11, r12, r13.2, r14, r15, r16, r17.2, r18, r19, r20, r21, r22.1, r22.2.1, r22.2.2, r23⟩
 ·obtain ⟨r11, r12, r13, r14, r15, r16, r17, r18, r19, r20, r21, r22, r22', r22'', r23⟩ := h0;have k11 := z11.2 ⟨trivial, r11⟩;have a1 := y11 k11;subst a1;have k12 := z12.2 ⟨k11, r12⟩;have a2 := y12 k12;subst a2;have k13 := z13.2 ⟨k12, r12, r13⟩;have k14 := z14.2 ⟨k13, r14⟩;have a4 := y14 k14;subst a4;have k15 := z15.2 ⟨k14, r15⟩;have k16 := z16.2 ⟨k15, r16⟩;have a6 := y16 k16;subst a6;have k17 := z17.2 ⟨k16, fit_two, r17⟩;have a7 := y17 k17;subst a7;have k18 := z18.2 ⟨k17, r18⟩;have k19 := z19.2 ⟨k18, r19⟩;have a9 := y19 k19;subst a9;have k20 := z20.2 ⟨k19, r20⟩;have k21 := z21.2 ⟨k20, r21⟩;have k22 := z22.2 ⟨k21, r22, r22', r22''⟩;exact z23.2 ⟨k22, r23⟩
theorem fit_minus {x y : Int} (hx : Fit x) (hy : Fit y) (h0 : 0 ≤ x) (h1 : 0 ≤ y) : Fit (x - y) := by
 have := hx.lt;have := hy.lt;exact Fit.mk (by omega)
theorem div_le_fit {x y : Int} (hx : Fit x) (h0 : 0 ≤ x) (hy : 1 ≤ y) : Fit (x / y) := by
 refine fit_of hx (Int.ediv_nonneg h0 (by omega)) ?_;exact Int.ediv_le_self y h0
theorem d_third_iff {a b : Int} {n : Nat} (ha : Fit a) (hbf : Fit b) (h2 : 2 ≤ a) (hb : 1 ≤ b) (hk : bitl (dU a b).natAbs ≤ 4000) (hr : RankIs a (dU a b) 20000 n) (hfc : Fit (dn a b n).c) (hfd : Fit (dn a b n).d) (hfe : Fit (dn a b n).e) (hff : Fit (dn a b n).f) (hfG : Fit (dn a b n).G) :
  (Fit (dn a b n).h ∧ Fit (dn a b n).p ∧ Fit (dn a b n).I ∧ Fit ((dn a b n).e / (dn a b n).u) ∧ Fit (dn a b n).i ∧ Fit ((dn a b n).h - b) ∧ Fit (2 * (dn a b n).c) ∧ Fit (dn a b n).j ∧ Fit ((dn a b n).h - (dn a b n).c) ∧ Fit (dn a b n).t ∧ Fit (dn a b n).v ∧ Fit (dn a b n).x ∧ Fit ((dn a b n).x * (dn a b n).s) ∧ Fit (dn a b n).w ∧ Fit (a - 2)) ↔ DOK a b n := by
 constructor
 ·intro ⟨r1, r2, r3, r4, r5, r6, r7, r8, r9, r10, r11, r12, r13, r14, r15⟩;refine ⟨hk, hr, ?_⟩;simp only [DN.L, List.forall_mem_cons];exact ⟨ha, hbf, hfc, hfd, hfe, hff, hfG, r1, r3, r5, r8, r10, r11, r14, r15, fit_of hbf (by omega) (by omega), by simp⟩
 ·intro ⟨_, _, k3⟩;simp only [DN.L, List.forall_mem_cons] at k3;obtain ⟨_, _, _, _, _, _, _, g1, g2, g3, g4, g5, g6, g7, g8, _⟩ := k3;obtain ⟨e1, e2, e3, e4, e5, e6, e7⟩ := dn_pos1 (n := n) h2 hb hr.1;obtain ⟨p1, p2⟩ := dn_pos2 (a := a) (b := b) (n := n) hb e6;have w1 : (dn a b n).I = (dn a b n).p * (dn a b n).p := rfl;have w6 : (dn a b n).w = (dn a b n).x * (dn a b n).s * (dn a b n).p := rfl;have w7 : (dn a b n).u = 2 * (dn a b n).c * (dn a b n).c * (dn a b n).d := rfl;have w8 : (dn a b n).d = (dn a b n).x * (dn a b n).x := rfl;have hfu : Fit (dn a b n).u := fit_bitl hk
  have hd1 : 1 ≤ (dn a b n).d := by rw [w8]; exact Int.le_trans e2 (mul_ge (by omega) e2)
  have fp : Fit (dn a b n).p := by rw [w1] at g2; exact fit_of g2 (by omega) (mul_ge (by omega) p2)
  have hcc : 2 * (dn a b n).c ≤ 2 * (dn a b n).c * (dn a b n).c := mul_ge (by omega) e1
  have f2c : Fit (2 * (dn a b n).c) := by
   rw [w7] at hfu;exact fit_of hfu (by omega) (Int.le_trans hcc (mul_ge (by omega) hd1))
  have hxs : 0 ≤ (dn a b n).x * (dn a b n).s := Int.mul_nonneg (by omega) (by omega);refine ⟨g1, fp, g2, div_le_fit hfe (by omega) e7, g3, fit_minus g1 hbf (by omega) (by omega), f2c, g4, fit_minus g1 hfc (by omega) (by omega), g5, g6, ?_, ?_, g7, g8⟩
  ·rw [w8] at hfd; exact fit_of hfd (by omega) (mul_ge (by omega) e2)
  ·rw [w6] at g7; exact fit_of g7 hxs (mul_ge hxs p2)
end Go.AL
/- psi modulo chi: plain. -/
namespace Go.AL
end Go.AL
/- The eleven equations: plain. -/
namespace Go.AL
end Go.AL
/- What define.Witness finds solves the equations. Plain. -/
namespace Go.AL
def DfEq (a b c d e f g h I i j t v w k l : Int) : Prop :=
  a = k + 2 ∧ b = l + 1 ∧ d = (a * a - 1) * (c * c) + 1 ∧ e = 2 * (i + 1) * (c * c) * d ∧ f = (a * a - 1) * (e * e) + 1 ∧ g = a + f * (f - a) ∧ h = b + 2 * j * c ∧ I = (g * g - 1) * (h * h) + 1 ∧ d * f * I = w * w ∧ h = c + f * t ∧ c = b + v
end Go.AL
/- The rank where b is 1; small cases; how great the numbers are. Plain. -/
namespace Go.AL
theorem RankIs.le {a m : Int} {N n k : Nat} (h : RankIs a m N n) (hk : 1 ≤ k) (hd : m ∣ psiN a k) : n ≤ k := by
 rcases Nat.lt_or_ge k n with hl | hl
 ·exact absurd hd (h.2.2.2 k hk hl)
 ·exact hl
def BW : List Int → List Nat → Prop
  | [], _ => True
  | x :: X, m :: M => (0 ≤ x ∧ x ≤ 2 ^ m) ∧ BW X M
  | _ :: _, [] => False
def dotE : List Nat → List Int → Nat
  | m :: M, e :: E => m * e.toNat + dotE M E
  | _, _ => 0
theorem prodE_boundW : ∀ {X : List Int} {M : List Nat} {E : List Int}, BW X M → (prodE X E).natAbs ≤ 2 ^ dotE M E
 | [], M, E, _ => by
  show 1 ≤ _;exact Nat.two_pow_pos _
 | _ :: _, _, [], _ => by
  show 1 ≤ _;exact Nat.two_pow_pos _
 | x :: X, [], _ :: _, h => h.elim
 | x :: X, m :: M, e :: E, h => by
  have ih := prodE_boundW (E := E) h.2;simp only [prodE, dotE];rw [Int.natAbs_mul, Nat.pow_add, Int.natAbs_pow, Nat.pow_mul];refine Nat.mul_le_mul (Nat.pow_le_pow_left ?_ _) ih
  have h1 : ((x.natAbs : Nat) : Int) ≤ ((2 ^ m : Nat) : Int) := by
   rw [Int.natCast_pow];have := h.1;show ((x.natAbs : Nat) : Int) ≤ (2 : Int) ^ m;omega
  exact Int.ofNat_le.1 h1
theorem auv_boundW {K : Nat} {X : List Int} {M : List Nat} (hX : BW X M) : ∀ {p : List UT}, (∀ u ∈ p, dotE M u.2 ≤ K) → 0 ≤ auv X p ∧ auv X p ≤ ((absU p * 2 ^ K : Nat) : Int)
 | [], _ => by
  refine ⟨by simp [auv, sumL], ?_⟩;show (0 : Int) ≤ _;omega
 | u :: p, h => by
  have ih := auv_boundW (p := p) hX fun v hv => h v (by simp [hv]);have hb := prodE_boundW (E := u.2) hX;have hle : 2 ^ dotE M u.2 ≤ 2 ^ K := Nat.pow_le_pow_right (by omega) (h u (by simp))
  have hu : (u.1 * prodE X u.2).natAbs ≤ u.1.natAbs * 2 ^ K := by
   rw [Int.natAbs_mul];exact Nat.mul_le_mul (Nat.le_refl _) (Nat.le_trans hb hle)
  unfold auv at ih ⊢;simp only [List.map_cons, sumL, absU];rw [Nat.add_mul]
  generalize u.1.natAbs * 2 ^ K = A at *
  generalize absU p * 2 ^ K = B at *
  omega
def okW (K c : Nat) (M : List Nat) (p : List UT) : Bool := p.all (fun u => decide (dotE M u.2 ≤ K)) && Nat.ble (absU p) (2 ^ c)
theorem auv_fitW {K c : Nat} {X : List Int} {M : List Nat} (hX : BW X M) {p : List UT} (h : okW K c M p = true) (hm : c + K < 131072) : Fit (auv X p) := by
 simp only [okW, Bool.and_eq_true, List.all_eq_true, decide_eq_true_eq] at h;have h2 : absU p ≤ 2 ^ c := Nat.le_of_ble_eq_true h.2;obtain ⟨b0, b1⟩ := auv_boundW hX h.1;have h3 : absU p * 2 ^ K ≤ 2 ^ c * 2 ^ K := Nat.mul_le_mul h2 (Nat.le_refl _);rw [← Nat.pow_add] at h3;obtain ⟨N, hN⟩ : ∃ N : Nat, N = 131072 := ⟨_, rfl⟩;have h4 : 2 ^ (c + K) < 2 ^ N := Nat.pow_lt_pow_right (by omega) (by omega);refine Fit.mk ?_;rw [BB_pow, show 32 * 4096 = N by omega];rw [show (((auv X p).natAbs : Nat) : Int) = auv X p by omega];have h5 : ((absU p * 2 ^ K : Nat) : Int) < ((2 ^ N : Nat) : Int) := Int.ofNat_lt.2 (Nat.lt_of_le_of_lt h3 h4);rw [Int.natCast_pow] at h5;exact Int.lt_of_le_of_lt b1 h5
theorem BW.fit {N : Nat} (hN : N < 131072) : ∀ {X : List Int} {M : List Nat}, BW X M → (∀ m ∈ M, m ≤ N) → ∀ x ∈ X, Fit x
 | [], _, _, _, _, hx => by cases hx
 | _ :: _, [], h, _, _, _ => h.elim
 | y :: X, m :: M, h, hM, x, hx => by
  rcases List.mem_cons.1 hx with rfl | hx
  ·exact fit_pow2 h.1.1 h.1.2 (by have := hM m (by simp); omega)
  ·exact BW.fit hN h.2 (fun k hk => hM k (by simp [hk])) x hx
end Go.AL
/- Validity of any many numbers. -/
namespace Go.Proofs.YtcaecieigoplbaaGreat
open Go.AL
end Go.Proofs.YtcaecieigoplbaaGreat
/- mask: the links' meaning; what they need to be evaluated. -/
namespace Go.AL
end Go.AL
namespace Go.Proofs.YtcaecieigoplbaaGreat
open Go.AL
theorem holdsR_all {f g : LZ → Bool} : ∀ {ls : List LZ}, (∀ l ∈ ls, f l = true ∧ g l = true) → holdsR f g ls = (true, 0)
 | [], _ => rfl
 | l :: ls, h => by
  obtain ⟨h1, h2⟩ := h l (by simp);rw [holdsR, if_pos h1, if_pos h2];exact holdsR_all fun x hx => h x (by simp [hx])
theorem Holds_yes (s : SZ) (X : List Int) (hw : WS s) (hs : OkS s) (hX : ∀ x ∈ X, Fit x) (hlen : (X.length : Int) = s.vars) (hnat : ∀ x ∈ X, 0 ≤ x) (he : ∀ l ∈ s.links, EvL X l) (hh : ∀ l ∈ s.links, HoL X l) : PureFn Tryz.prog 25 [aS s, .sl 2 eX X] (.tup [aB true, aN 0]) := by
 obtain ⟨f, hf⟩ := boolOf (EvL X);obtain ⟨g, hg⟩ := boolOf (HoL X);have := Holds_ok s X hw hs hX hlen hnat f g hf hg;rw [holdsR_all fun l hl => ⟨(hf l).2 (he l hl), (hg l).2 (hh l hl)⟩] at this;exact this
end Go.Proofs.YtcaecieigoplbaaGreat
/- define: the links' meaning; what they need to be evaluated. Written by gen_dg.py. -/
namespace Go.AL
theorem dfS_all : (∀ l ∈ dfS.links, OkL 16 l ∧ WL l ∧ l.kind = 0) := by
 intro l hl;simp only [dfS, List.mem_cons, List.not_mem_nil, or_false] at hl;rcases hl with rfl | rfl | rfl | rfl | rfl | rfl | rfl | rfl | rfl | rfl | rfl
 ·have := okLU_ok (V := 16) (by omega) (kind := 0) (ls := [df1]) (by kernel_rfl); exact ⟨this.1, this.2.1, rfl⟩
 ·have := okLU_ok (V := 16) (by omega) (kind := 0) (ls := [df3]) (by kernel_rfl); exact ⟨this.1, this.2.1, rfl⟩
 ·have := okLU_ok (V := 16) (by omega) (kind := 0) (ls := [df8]) (by kernel_rfl); exact ⟨this.1, this.2.1, rfl⟩
 ·have := okLU_ok (V := 16) (by omega) (kind := 0) (ls := [df11]) (by kernel_rfl); exact ⟨this.1, this.2.1, rfl⟩
 ·have := okLU_ok (V := 16) (by omega) (kind := 0) (ls := [df16]) (by kernel_rfl); exact ⟨this.1, this.2.1, rfl⟩
 ·have := okLU_ok (V := 16) (by omega) (kind := 0) (ls := [df20]) (by kernel_rfl); exact ⟨this.1, this.2.1, rfl⟩
 ·have := okLU_ok (V := 16) (by omega) (kind := 0) (ls := [df23]) (by kernel_rfl); exact ⟨this.1, this.2.1, rfl⟩
 ·have := okLU_ok (V := 16) (by omega) (kind := 0) (ls := [df28]) (by kernel_rfl); exact ⟨this.1, this.2.1, rfl⟩
 ·have := okLU_ok (V := 16) (by omega) (kind := 0) (ls := [df31]) (by kernel_rfl); exact ⟨this.1, this.2.1, rfl⟩
 ·have := okLU_ok (V := 16) (by omega) (kind := 0) (ls := [df34]) (by kernel_rfl); exact ⟨this.1, this.2.1, rfl⟩
 ·have := okLU_ok (V := 16) (by omega) (kind := 0) (ls := [df36]) (by kernel_rfl); exact ⟨this.1, this.2.1, rfl⟩
theorem dfS_w : WS dfS := fun l hl => (dfS_all l hl).2.1
theorem dfS_ok : OkS dfS := ⟨by decide, by decide, by decide, fun l hl => (dfS_all l hl).1⟩
theorem dfS_nn : (∀ p ∈ [df1, df3, df8, df11, df16, df20, df23, df28, df31, df34, df36], nnU 16 p) := by
 have h : ([df1, df3, df8, df11, df16, df20, df23, df28, df31, df34, df36].all fun p => p.all (okU 16)) = true := by kernel_rfl
 intro p hp;have := List.all_eq_true.1 h p hp;simp only [List.all_eq_true] at this;exact fun u hu => okU_ok (this u hu)
set_option maxHeartbeats 1000000 in
theorem df_vals (a b c d e f g h I i j t v w k l : Int) : let L := [a, b, c, d, e, f, g, h, I, i, j, t, v, w, k, l]
  uv L df1 = a - (k + 2) ∧ uv L df3 = b - (l + 1) ∧ uv L df8 = d - (((a * a - 1) * (c * c)) + 1) ∧ uv L df11 = e - (2 * (i + 1) * (c * c) * d) ∧ uv L df16 = f - (((a * a - 1) * (e * e)) + 1) ∧ uv L df20 = g - (a + (f * (f - a))) ∧ uv L df23 = h - (b + 2 * j * c) ∧ uv L df28 = I - (((g * g - 1) * (h * h)) + 1) ∧ uv L df31 = d * f * I - (w * w) ∧ uv L df34 = h - (c + f * t) ∧ uv L df36 = c - (b + v) := by
 intro L;have vv : ∀ i, i < 16 → uv L (varU 16 i) = L.getD i 0 := fun i hi => uv_var rfl hi;have v0 : uv L (varU 16 0) = a := vv 0 (by omega);have v1 : uv L (varU 16 1) = b := vv 1 (by omega);have v2 : uv L (varU 16 2) = c := vv 2 (by omega);have v3 : uv L (varU 16 3) = d := vv 3 (by omega);have v4 : uv L (varU 16 4) = e := vv 4 (by omega);have v5 : uv L (varU 16 5) = f := vv 5 (by omega);have v6 : uv L (varU 16 6) = g := vv 6 (by omega);have v7 : uv L (varU 16 7) = h := vv 7 (by omega);have v8 : uv L (varU 16 8) = I := vv 8 (by omega);have v9 : uv L (varU 16 9) = i := vv 9 (by omega);have v10 : uv L (varU 16 10) = j := vv 10 (by omega);have v11 : uv L (varU 16 11) = t := vv 11 (by omega);have v12 : uv L (varU 16 12) = v := vv 12 (by omega);have v13 : uv L (varU 16 13) = w := vv 13 (by omega);have v14 : uv L (varU 16 14) = k := vv 14 (by omega);have v15 : uv L (varU 16 15) = l := vv 15 (by omega);have c0 : ∀ k, uv L (conU 16 k) = k := fun k => uv_con L 16 k;have n0 : uv L [] = 0 := rfl
 have m0 : uv L df0 = k + 2 := by
  unfold df0; rw [uv_sums (V := 16) (by omega) L _ _ (by kernel_rfl)]; simp only [List.map_cons, List.map_nil, sumL, c0, n0, v14, c0]; omega
 have m1 : uv L df1 = a - (k + 2) := by
  unfold df1; rw [uv_sub (V := 16) (by omega) L (by kernel_rfl), v0, m0]
 have m2 : uv L df2 = l + 1 := by
  unfold df2; rw [uv_sums (V := 16) (by omega) L _ _ (by kernel_rfl)]; simp only [List.map_cons, List.map_nil, sumL, c0, n0, v15, c0]; omega
 have m3 : uv L df3 = b - (l + 1) := by
  unfold df3; rw [uv_sub (V := 16) (by omega) L (by kernel_rfl), v1, m2]
 have m4 : uv L df4 = a * a := by
  unfold df4; rw [uv_muls (V := 16) (by omega) L _ _ (by kernel_rfl)]; simp only [List.map_cons, List.map_nil, prodL, c0, v0]; grind
 have m5 : uv L df5 = a * a - 1 := by
  unfold df5; rw [uv_sub (V := 16) (by omega) L (by kernel_rfl), m4, c0]
 have m6 : uv L df6 = (a * a - 1) * (c * c) := by
  unfold df6; rw [uv_muls (V := 16) (by omega) L _ _ (by kernel_rfl)]; simp only [List.map_cons, List.map_nil, prodL, c0, m5, v2]; grind
 have m7 : uv L df7 = ((a * a - 1) * (c * c)) + 1 := by
  unfold df7; rw [uv_sums (V := 16) (by omega) L _ _ (by kernel_rfl)]; simp only [List.map_cons, List.map_nil, sumL, c0, n0, m6, c0]; omega
 have m8 : uv L df8 = d - (((a * a - 1) * (c * c)) + 1) := by
  unfold df8; rw [uv_sub (V := 16) (by omega) L (by kernel_rfl), v3, m7]
 have m9 : uv L df9 = i + 1 := by
  unfold df9; rw [uv_sums (V := 16) (by omega) L _ _ (by kernel_rfl)]; simp only [List.map_cons, List.map_nil, sumL, c0, n0, v9, c0]; omega
 have m10 : uv L df10 = 2 * (i + 1) * (c * c) * d := by
  unfold df10; rw [uv_muls (V := 16) (by omega) L _ _ (by kernel_rfl)]; simp only [List.map_cons, List.map_nil, prodL, c0, c0, m9, v2, v3]; grind
 have m11 : uv L df11 = e - (2 * (i + 1) * (c * c) * d) := by
  unfold df11; rw [uv_sub (V := 16) (by omega) L (by kernel_rfl), v4, m10]
 have m12 : uv L df12 = a * a := by
  unfold df12; rw [uv_muls (V := 16) (by omega) L _ _ (by kernel_rfl)]; simp only [List.map_cons, List.map_nil, prodL, c0, v0]; grind
 have m13 : uv L df13 = a * a - 1 := by
  unfold df13; rw [uv_sub (V := 16) (by omega) L (by kernel_rfl), m12, c0]
 have m14 : uv L df14 = (a * a - 1) * (e * e) := by
  unfold df14; rw [uv_muls (V := 16) (by omega) L _ _ (by kernel_rfl)]; simp only [List.map_cons, List.map_nil, prodL, c0, m13, v4]; grind
 have m15 : uv L df15 = ((a * a - 1) * (e * e)) + 1 := by
  unfold df15; rw [uv_sums (V := 16) (by omega) L _ _ (by kernel_rfl)]; simp only [List.map_cons, List.map_nil, sumL, c0, n0, m14, c0]; omega
 have m16 : uv L df16 = f - (((a * a - 1) * (e * e)) + 1) := by
  unfold df16; rw [uv_sub (V := 16) (by omega) L (by kernel_rfl), v5, m15]
 have m17 : uv L df17 = f - a := by
  unfold df17; rw [uv_sub (V := 16) (by omega) L (by kernel_rfl), v5, v0]
 have m18 : uv L df18 = f * (f - a) := by
  unfold df18; rw [uv_muls (V := 16) (by omega) L _ _ (by kernel_rfl)]; simp only [List.map_cons, List.map_nil, prodL, c0, v5, m17]; grind
 have m19 : uv L df19 = a + (f * (f - a)) := by
  unfold df19; rw [uv_sums (V := 16) (by omega) L _ _ (by kernel_rfl)]; simp only [List.map_cons, List.map_nil, sumL, c0, n0, v0, m18]; omega
 have m20 : uv L df20 = g - (a + (f * (f - a))) := by
  unfold df20; rw [uv_sub (V := 16) (by omega) L (by kernel_rfl), v6, m19]
 have m21 : uv L df21 = 2 * j * c := by
  unfold df21; rw [uv_muls (V := 16) (by omega) L _ _ (by kernel_rfl)]; simp only [List.map_cons, List.map_nil, prodL, c0, c0, v10, v2]; grind
 have m22 : uv L df22 = b + 2 * j * c := by
  unfold df22; rw [uv_sums (V := 16) (by omega) L _ _ (by kernel_rfl)]; simp only [List.map_cons, List.map_nil, sumL, c0, n0, v1, m21]; omega
 have m23 : uv L df23 = h - (b + 2 * j * c) := by
  unfold df23; rw [uv_sub (V := 16) (by omega) L (by kernel_rfl), v7, m22]
 have m24 : uv L df24 = g * g := by
  unfold df24; rw [uv_muls (V := 16) (by omega) L _ _ (by kernel_rfl)]; simp only [List.map_cons, List.map_nil, prodL, c0, v6]; grind
 have m25 : uv L df25 = g * g - 1 := by
  unfold df25; rw [uv_sub (V := 16) (by omega) L (by kernel_rfl), m24, c0]
 have m26 : uv L df26 = (g * g - 1) * (h * h) := by
  unfold df26; rw [uv_muls (V := 16) (by omega) L _ _ (by kernel_rfl)]; simp only [List.map_cons, List.map_nil, prodL, c0, m25, v7]; grind
 have m27 : uv L df27 = ((g * g - 1) * (h * h)) + 1 := by
  unfold df27; rw [uv_sums (V := 16) (by omega) L _ _ (by kernel_rfl)]; simp only [List.map_cons, List.map_nil, sumL, c0, n0, m26, c0]; omega
 have m28 : uv L df28 = I - (((g * g - 1) * (h * h)) + 1) := by
  unfold df28; rw [uv_sub (V := 16) (by omega) L (by kernel_rfl), v8, m27]
 have m29 : uv L df29 = d * f * I := by
  unfold df29; rw [uv_muls (V := 16) (by omega) L _ _ (by kernel_rfl)]; simp only [List.map_cons, List.map_nil, prodL, c0, v3, v5, v8]; grind
 have m30 : uv L df30 = w * w := by
  unfold df30; rw [uv_muls (V := 16) (by omega) L _ _ (by kernel_rfl)]; simp only [List.map_cons, List.map_nil, prodL, c0, v13]; grind
 have m31 : uv L df31 = d * f * I - (w * w) := by
  unfold df31; rw [uv_sub (V := 16) (by omega) L (by kernel_rfl), m29, m30]
 have m32 : uv L df32 = f * t := by
  unfold df32; rw [uv_muls (V := 16) (by omega) L _ _ (by kernel_rfl)]; simp only [List.map_cons, List.map_nil, prodL, c0, v5, v11]; grind
 have m33 : uv L df33 = c + f * t := by
  unfold df33; rw [uv_sums (V := 16) (by omega) L _ _ (by kernel_rfl)]; simp only [List.map_cons, List.map_nil, sumL, c0, n0, v2, m32]; omega
 have m34 : uv L df34 = h - (c + f * t) := by
  unfold df34; rw [uv_sub (V := 16) (by omega) L (by kernel_rfl), v7, m33]
 have m35 : uv L df35 = b + v := by
  unfold df35; rw [uv_sums (V := 16) (by omega) L _ _ (by kernel_rfl)]; simp only [List.map_cons, List.map_nil, sumL, c0, n0, v1, v12]; omega
 have m36 : uv L df36 = c - (b + v) := by
  unfold df36; rw [uv_sub (V := 16) (by omega) L (by kernel_rfl), v2, m35]
 exact ⟨m1, m3, m8, m11, m16, m20, m23, m28, m31, m34, m36⟩
theorem sub_z_iff {x y : Int} : x - y = 0 ↔ x = y := by omega
theorem df_hol (a b c d e f g h I i j t v w k l : Int) : (∀ y ∈ dfS.links, HoL [a, b, c, d, e, f, g, h, I, i, j, t, v, w, k, l] y) ↔ DfEq a b c d e f g h I i j t v w k l := by
 obtain ⟨e0, e1, e2, e3, e4, e5, e6, e7, e8, e9, e10⟩ := df_vals a b c d e f g h I i j t v w k l
 have L : ∀ (kind : Int) (ls : List (List UT)), (∀ p ∈ ls, p ∈ [df1, df3, df8, df11, df16, df20, df23, df28, df31, df34, df36]) → HoL [a, b, c, d, e, f, g, h, I, i, j, t, v, w, k, l] (linkU 16 kind ls) = holdP kind (ls.map (uv [a, b, c, d, e, f, g, h, I, i, j, t, v, w, k, l])) := fun kind ls h => by
  unfold HoL;rw [lvals_linkU (V := 16) rfl fun p hp => dfS_nn p (h p hp)];rfl
 simp only [dfS, List.forall_mem_cons];rw [L 0 _ (by simp), L 0 _ (by simp), L 0 _ (by simp), L 0 _ (by simp), L 0 _ (by simp), L 0 _ (by simp), L 0 _ (by simp), L 0 _ (by simp), L 0 _ (by simp), L 0 _ (by simp), L 0 _ (by simp)];simp only [List.map_cons, List.map_nil, e0, e1, e2, e3, e4, e5, e6, e7, e8, e9, e10];unfold holdP DfEq;simp only [List.getD_cons_zero, List.getD_cons_succ, sub_z_iff];simp
theorem df_ev {X : List Int} {M : List Nat} (hl : X.length = 16) (hB : BW X M) (h : ([df1, df3, df8, df11, df16, df20, df23, df28, df31, df34, df36].all (okW 131000 5 M)) = true) : ∀ l ∈ dfS.links, EvL X l := by
 have A : ∀ p, p ∈ [df1, df3, df8, df11, df16, df20, df23, df28, df31, df34, df36] → Fit (auv X p) := fun p hp => auv_fitW hB (List.all_eq_true.1 h p hp) (by omega)
 have L : ∀ (kind : Int) (ls : List (List UT)), (∀ p ∈ ls, p ∈ [df1, df3, df8, df11, df16, df20, df23, df28, df31, df34, df36]) → EvL X (linkU 16 kind ls) := fun kind ls h =>
  evL_linkU hl (fun p hp => dfS_nn p (h p hp)) fun p hp => A p (h p hp)
 simp only [dfS, List.forall_mem_cons];exact ⟨L 0 _ (by simp), L 0 _ (by simp), L 0 _ (by simp), L 0 _ (by simp), L 0 _ (by simp), L 0 _ (by simp), L 0 _ (by simp), L 0 _ (by simp), L 0 _ (by simp), L 0 _ (by simp), L 0 _ (by simp), by simp⟩
end Go.AL
namespace Go.Proofs.YtcaecieigoplbaaGreat
open Go.AL
end Go.Proofs.YtcaecieigoplbaaGreat
namespace Go.AL
def addX (a b : List Int) : List Int := List.zipWith (· + ·) a b
def timesT (l : List TZ) (t : TZ) : List TZ := l.map fun s => ⟨zOf (zval s.c * zval t.c), addX s.e t.e⟩
theorem addX_snoc {a b : List Int} {k : Nat} {x y : Int} (ha : a[k]? = some x) (hb : b[k]? = some y) : addX (a.take (k + 1)) (b.take (k + 1)) = addX (a.take k) (b.take k) ++ [x + y] := by
 rw [take_snoc ha, take_snoc hb];unfold addX;rw [List.zipWith_append (by rw [List.length_take, List.length_take]; have := (List.getElem?_eq_some_iff.1 ha).1; have := (List.getElem?_eq_some_iff.1 hb).1; omega)];rfl
theorem addX_len (a b : List Int) : (addX a b).length = min a.length b.length := by simp [addX]
theorem timesT_snoc {l : List TZ} {i : Nat} {s t : TZ} (h : l[i]? = some s) : timesT (l.take (i + 1)) t = timesT (l.take i) t ++ [⟨zOf (zval s.c * zval t.c), addX s.e t.e⟩] := by
 rw [take_snoc h]; simp [timesT]
end Go.AL
namespace Go.Proofs.YtcaecieigoplbaaGreat
open Go.AL
set_option maxHeartbeats 1000000 in
theorem rTimes_ok (n : Nat) (hn : n ≤ 1000) (l : List TZ) (t : TZ) (hl : l.length ≤ 3000) (hlt : TermsOk n 10000 l) (ht : TermsOk n 10000 [t]) (h0 : t.c.w.length ≠ 0) (hne : l.length ≠ 0) : PureFn Tryz.prog 145 [aP ⟨n, l⟩, aT t] (aP ⟨n, timesT l t⟩) := by
 refine PureFn.of_body Tryz.func145 rfl Tryz.ntmps145 rfl rfl ?_;have htc := ht.c t (by simp);have hte := ht.e t (by simp);have htm := ht.m t (by simp);have hzero := rZero_ok t.c;rw [decide_eq_false h0] at hzero;(repeat' (first |refine qv ?_ |apply qn |apply qs |apply qr |refine qe ?_ |apply qb))
 refine AWP.loop (G := Nat) (fun i => i ≤ l.length) (fun i => match i with
  | 0 => St.of [] [(2, .ptr 2 0), (3, .ptr 3 0), (4, .ptr 4 0), (5, .ptr 5 0), (6, aN 0)] [(2, .cells [aN n, .sl 3 eT l] 70), (3, .cells (eT t) 124), (4, .cells [aN 0, .v (.slice none 0 0)] 70), (5, .cells [aN n, .v (.slice none 0 0)] 70)]
  | i + 1 => St.of [] [(2, .ptr 2 0), (3, .ptr 3 0), (4, .ptr 4 0), (5, .ptr 5 0), (6, aN ((i + 1 : Nat) : Int))] [(2, .cells [aN n, .sl 3 eT l] 70), (3, .cells (eT t) 124), (4, .cells [aN 0, .v (.slice none 0 0)] 70), (5, .cells [aN n, .row 700] 70), (700, .row 3 eT (timesT (l.take (i + 1)) t) 124)]) (fun i => l.length - i) 0 (by omega) ?_ ?_
 ·refine Ent.of [] ?_ ?_ rfl rfl;(repeat' (first |exact True.intro |refine ⟨⟨AV.Le.refl _, rfl⟩, ?_⟩ |refine ⟨⟨⟨_, rfl, BLe.cells (LeL.refl _)⟩, rfl⟩, ?_⟩|fail))
 ·intro i hi
  cases i with
  | zero =>
   dsimp only;(repeat' (first |refine qv ?_ |apply qs |apply qr |(refine Fl.splitD rfl rfl ?_ ?_ <;> intro _ <;> try (exfalso; omega))))
   ·rename_i hlt';obtain ⟨s, hs⟩ : ∃ s, l[0]? = some s := ⟨_, List.getElem?_eq_getElem (by omega)⟩;have hsm := List.mem_of_getElem? hs;have hse := hlt.e s hsm;have hsl := hlt.m s hsm;have hsc := hlt.c s hsm
    have htl : (timesT (l.take 0) t).length = 0 := by simp [timesT]
    refine Fl.call rfl hzero rfl rfl rfl (LeL.refl _) ?_;(repeat' (first |refine Fl.v rfl rfl rfl ?_ |refine Fl.nilF ?_ |refine Fl.b rfl rfl rfl rfl ?_ |refine AWP.condT rfl ?_ |refine AWP.condF rfl ?_ |refine AWP.skip ?_ |fail));refine AWP.seq ?_;refine AWP.block ?_;refine AWP.seqS ?_;(repeat' (first |refine qv ?_ |apply qn |apply qr |refine Fl.make rfl rfl rfl rfl rfl rfl rfl rfl rfl rfl eI 0 (by exact LeL.refl _) (by rfl) (by first | omega | (dsimp only; omega)) (by first | omega | (dsimp only; omega)) (by first | omega | (dsimp only; omega)) ?_|fail));refine ⟨AWP.seqS ?_⟩;(repeat' (first |refine qv ?_ |apply qn |apply qs |apply qr |apply qb));refine AWP.loop (G := Nat) (fun k => k ≤ n) (fun k => St.of [] [(2, .ptr 2 0), (3, .ptr 3 0), (4, .ptr 4 0), (5, .ptr 5 0), (6, aN 0), (7, .row 27), (8, aN k)] [(2, .cells [aN n, .sl 3 eT l] 70), (3, .cells (eT t) 124), (4, .cells [aN 0, .v (.slice none 0 0)] 70), (5, .cells [aN n, .v (.slice none 0 0)] 70), (27, .row 1 eI (addX (s.e.take k) (t.e.take k) ++ List.replicate (n - k) 0) 3)]) (fun k => n - k) 0 (by omega) ?_ ?_
    ·refine Ent.of [] ?_ ?_ rfl rfl;(repeat' (first |exact True.intro |refine ⟨⟨AV.Le.refl _, rfl⟩, ?_⟩ |refine ⟨⟨⟨_, rfl, BLe.cells (LeL.refl _)⟩, rfl⟩, ?_⟩ |refine ⟨⟨⟨_, rfl, BLe.row rfl⟩, rfl⟩, ?_⟩|fail))
    ·intro k hk
     have hadl : (addX (s.e.take k) (t.e.take k)).length = k := by rw [addX_len, List.length_take, List.length_take]; omega
     have hrl : (addX (s.e.take k) (t.e.take k) ++ List.replicate (n - k) 0).length = n := by rw [List.length_append, hadl, List.length_replicate]; omega
     by_cases hkn : k < n
     ·obtain ⟨x, hx⟩ : ∃ x, s.e[k]? = some x := ⟨_, List.getElem?_eq_getElem (by omega)⟩;obtain ⟨y, hy⟩ : ∃ y, t.e[k]? = some y := ⟨_, List.getElem?_eq_getElem (by omega)⟩;have hxb := hse.1.get hx;have hyb := hte.1.get hy;(repeat' (first |refine qv ?_ |apply qn |refine Fl.nil (fun _ => by kernel_rfl) ?_ |apply qs |apply qr |refine qw ?_ |(refine AWP.condD rfl ?_ ?_ <;> intro _ <;> try (exfalso; omega)) |apply qb |apply qk |refine qK ?_ |refine Fl.rel rfl rfl rfl rfl rfl rfl rfl rfl (by omega) (by first | omega | (simp; omega)) ?_ |refine Fl.rst rfl rfl rfl rfl rfl rfl rfl rfl rfl rfl rfl (LeL.refl _) rfl (by first | omega | (simp; omega)) ?_|fail));refine LoopEnd.of (k + 1) (by omega) (by omega) ?_;refine Ent.of [] ?_ ?_ rfl rfl;(repeat' (first |exact True.intro |refine ⟨⟨AV.Le.refl _, rfl⟩, ?_⟩ |refine ⟨⟨⟨_, rfl, BLe.cells (LeL.refl _)⟩, rfl⟩, ?_⟩ |refine ⟨⟨⟨_, rfl, BLe.row ?_⟩, rfl⟩, ?_⟩|fail));rw [addX_snoc hx hy];exact set_rep (by rw [hadl]; omega) (by omega) rfl
     ·(repeat' (first |refine qv ?_ |apply qn |apply qs |apply qr |(refine AWP.condD rfl ?_ ?_ <;> intro _ <;> try (exfalso; omega)) |apply qx));refine ⟨?_⟩;refine AWP.ent (Ent.freeze 27 rfl) ?_
      have hkn' : k = n := by omega
      (repeat' (first |refine qv ?_ |apply qr |refine qK ?_|fail))
      have hfin : addX (s.e.take k) (t.e.take k) ++ List.replicate (n - k) 0 = addX s.e t.e := by
       rw [hkn', Nat.sub_self, List.replicate_zero, List.append_nil, List.take_of_length_le (by omega), List.take_of_length_le (by omega)]
      refine Fl.call rfl (rMul_ok (zval s.c) (zval t.c) (show lenI _ ≤ _ by omega) (show lenI _ ≤ _ by omega)) rfl rfl rfl (LeL.cons (AV.Le.agg (leZ (σ := []) hsc)) (LeL.cons (AV.Le.agg (leZ (σ := []) htc)) LeL.nil)) ?_;(repeat' (first |refine qv ?_ |refine qe ?_|fail));refine ql eT [⟨zOf (zval s.c * zval t.c), addX (s.e.take k) (t.e.take k) ++ List.replicate (n - k) 0⟩] ?_;skip;refine Fl.ap0 rfl rfl rfl rfl rfl rfl rfl rfl eT rfl rfl (fun _ => rfl) (fun _ => rfl) (AV.Le.refl _) (by dsimp only [List.length_nil, List.length_cons]; omega) (by simp) ?_;(repeat' (first |refine qv ?_ |apply qn |refine Fl.nil (fun _ => by kernel_rfl) ?_ |apply qr |refine qw ?_ |refine qe ?_|fail));refine LoopEnd.of (0 + 1) (by omega) (by omega) ?_;refine Ent.of [(700, 66)] ?_ ?_ rfl rfl;(repeat' (first |exact True.intro |refine ⟨⟨AV.Le.refl _, rfl⟩, ?_⟩ |refine ⟨⟨⟨_, rfl, BLe.cells (LeL.refl _)⟩, rfl⟩, ?_⟩ |refine ⟨⟨⟨_, rfl, BLe.row ?_⟩, rfl⟩, ?_⟩|fail));rw [timesT_snoc hs, hfin]
      try rfl
  | succ i =>
   dsimp only;(repeat' (first |refine qv ?_ |apply qn |apply qs |apply qr |refine qe ?_ |refine Fl.skip rfl rfl ?_ |refine AWP.condF rfl ?_ |apply qx |apply qt |(refine Fl.splitD rfl rfl ?_ ?_ <;> intro _ <;> try (exfalso; omega))))
   ·rename_i hlt';obtain ⟨s, hs⟩ : ∃ s, l[(i + 1)]? = some s := ⟨_, List.getElem?_eq_getElem (by omega)⟩;have hsm := List.mem_of_getElem? hs;have hse := hlt.e s hsm;have hsl := hlt.m s hsm;have hsc := hlt.c s hsm
    have htl : (timesT (l.take (i + 1)) t).length = (i + 1) := by simp [timesT]; omega
    refine Fl.call rfl hzero rfl rfl rfl (LeL.refl _) ?_;(repeat' (first |refine Fl.v rfl rfl rfl ?_ |refine Fl.nilF ?_ |refine Fl.b rfl rfl rfl rfl ?_ |refine AWP.condT rfl ?_ |refine AWP.condF rfl ?_ |refine AWP.skip ?_ |fail));refine AWP.seq ?_;refine AWP.block ?_;refine AWP.seqS ?_;(repeat' (first |refine qv ?_ |apply qn |apply qr |refine Fl.make rfl rfl rfl rfl rfl rfl rfl rfl rfl rfl eI 0 (by exact LeL.refl _) (by rfl) (by first | omega | (dsimp only; omega)) (by first | omega | (dsimp only; omega)) (by first | omega | (dsimp only; omega)) ?_|fail));refine ⟨AWP.seqS ?_⟩;(repeat' (first |refine qv ?_ |apply qn |apply qs |apply qr |apply qb));refine AWP.loop (G := Nat) (fun k => k ≤ n) (fun k => St.of [] [(2, .ptr 2 0), (3, .ptr 3 0), (4, .ptr 4 0), (5, .ptr 5 0), (6, aN ((i + 1 : Nat) : Int)), (7, .row 27), (8, aN k)] [(2, .cells [aN n, .sl 3 eT l] 70), (3, .cells (eT t) 124), (4, .cells [aN 0, .v (.slice none 0 0)] 70), (5, .cells [aN n, .row 700] 70), (700, .row 3 eT (timesT (l.take (i + 1)) t) 124), (27, .row 1 eI (addX (s.e.take k) (t.e.take k) ++ List.replicate (n - k) 0) 3)]) (fun k => n - k) 0 (by omega) ?_ ?_
    ·refine Ent.of [] ?_ ?_ rfl rfl;(repeat' (first |exact True.intro |refine ⟨⟨AV.Le.refl _, rfl⟩, ?_⟩ |refine ⟨⟨⟨_, rfl, BLe.cells (LeL.refl _)⟩, rfl⟩, ?_⟩ |refine ⟨⟨⟨_, rfl, BLe.row rfl⟩, rfl⟩, ?_⟩|fail))
    ·intro k hk
     have hadl : (addX (s.e.take k) (t.e.take k)).length = k := by rw [addX_len, List.length_take, List.length_take]; omega
     have hrl : (addX (s.e.take k) (t.e.take k) ++ List.replicate (n - k) 0).length = n := by rw [List.length_append, hadl, List.length_replicate]; omega
     by_cases hkn : k < n
     ·obtain ⟨x, hx⟩ : ∃ x, s.e[k]? = some x := ⟨_, List.getElem?_eq_getElem (by omega)⟩;obtain ⟨y, hy⟩ : ∃ y, t.e[k]? = some y := ⟨_, List.getElem?_eq_getElem (by omega)⟩;have hxb := hse.1.get hx;have hyb := hte.1.get hy;(repeat' (first |refine qv ?_ |apply qn |refine Fl.nil (fun _ => by kernel_rfl) ?_ |apply qs |apply qr |refine qw ?_ |(refine AWP.condD rfl ?_ ?_ <;> intro _ <;> try (exfalso; omega)) |apply qb |apply qk |refine qK ?_ |refine Fl.rel rfl rfl rfl rfl rfl rfl rfl rfl (by omega) (by first | omega | (simp; omega)) ?_ |refine Fl.rst rfl rfl rfl rfl rfl rfl rfl rfl rfl rfl rfl (LeL.refl _) rfl (by first | omega | (simp; omega)) ?_|fail));refine LoopEnd.of (k + 1) (by omega) (by omega) ?_;refine Ent.of [] ?_ ?_ rfl rfl;(repeat' (first |exact True.intro |refine ⟨⟨AV.Le.refl _, rfl⟩, ?_⟩ |refine ⟨⟨⟨_, rfl, BLe.cells (LeL.refl _)⟩, rfl⟩, ?_⟩ |refine ⟨⟨⟨_, rfl, BLe.row rfl⟩, rfl⟩, ?_⟩ |refine ⟨⟨⟨_, rfl, BLe.row ?_⟩, rfl⟩, ?_⟩|fail));rw [addX_snoc hx hy];exact set_rep (by rw [hadl]; omega) (by omega) rfl
     ·(repeat' (first |refine qv ?_ |apply qn |apply qs |apply qr |(refine AWP.condD rfl ?_ ?_ <;> intro _ <;> try (exfalso; omega)) |apply qx));refine ⟨?_⟩;refine AWP.ent (Ent.freeze 27 rfl) ?_
      have hkn' : k = n := by omega
      (repeat' (first |refine qv ?_ |apply qr |refine qK ?_|fail))
      have hfin : addX (s.e.take k) (t.e.take k) ++ List.replicate (n - k) 0 = addX s.e t.e := by
       rw [hkn', Nat.sub_self, List.replicate_zero, List.append_nil, List.take_of_length_le (by omega), List.take_of_length_le (by omega)]
      refine Fl.call rfl (rMul_ok (zval s.c) (zval t.c) (show lenI _ ≤ _ by omega) (show lenI _ ≤ _ by omega)) rfl rfl rfl (LeL.cons (AV.Le.agg (leZ (σ := []) hsc)) (LeL.cons (AV.Le.agg (leZ (σ := []) htc)) LeL.nil)) ?_;(repeat' (first |refine qv ?_ |refine qe ?_|fail));refine ql eT [⟨zOf (zval s.c * zval t.c), addX (s.e.take k) (t.e.take k) ++ List.replicate (n - k) 0⟩] ?_;skip;refine qa (hby := (by simp only [htl, List.length_nil, List.length_cons]; omega)) (hm := (by simp only [htl, List.length_cons, List.length_nil]; omega)) (r := ?_);(repeat' (first |refine qv ?_ |apply qn |refine Fl.nil (fun _ => by kernel_rfl) ?_ |apply qr |refine qw ?_ |refine qe ?_|fail));refine LoopEnd.of (i + 1 + 1) (by omega) (by omega) ?_;refine Ent.of [(700, 66)] ?_ ?_ rfl rfl;(repeat' (first |exact True.intro |refine ⟨⟨AV.Le.refl _, rfl⟩, ?_⟩ |refine ⟨⟨⟨_, rfl, BLe.cells (LeL.refl _)⟩, rfl⟩, ?_⟩ |refine ⟨⟨⟨_, rfl, BLe.row ?_⟩, rfl⟩, ?_⟩|fail));rw [timesT_snoc hs, hfin]
      try rfl
   ·rename_i hlt';have hti : l.take (i + 1) = l := List.take_of_length_le (by omega);refine RetOk.ent (Ent.freeze 700 rfl) ?_;refine RetOk.of rfl ?_;rw [hti];exact AV.Le.refl _
end Go.Proofs.YtcaecieigoplbaaGreat
namespace Go.Proofs.YtcaecieigoplbaaGreat
open Go.AL
theorem rAddP_ok (n M : Nat) (hn : n ≤ 1000) (hM : M ≤ 30000) (a b : List TZ) (ha : TermsOk n M a) (hb : TermsOk n M b) (hal : a.length ≤ 100000) (hbl : b.length ≤ 100000) : PureFn Tryz.prog 72 [aP ⟨n, a⟩, aP ⟨n, b⟩] (aP ⟨n, mergeT a b⟩) := by
 refine PureFn.of_body Tryz.func72 rfl Tryz.ntmps72 rfl rfl ?_;(repeat' (first |refine qv ?_ |apply qn |apply qs |apply qr |refine qe ?_|fail));refine qc (merged_ok n M hn hM a b ha hb hal hbl) ?_;(repeat' (first |refine Fl.nil (fun _ => by kernel_rfl) ?_ |refine qe ?_ |apply qt));exact RetOk.of rfl (AV.Le.refl _)
end Go.Proofs.YtcaecieigoplbaaGreat
/- The reference's polynomials: Sorted, Add, Times, Sub, Const, Var. -/
namespace Go.AL
theorem addX_eq : addX = addE := rfl
theorem timesT_tz (p : List UT) (t : UT) : timesT (p.map tz) (tz t) = (p.map fun s => (s.1 * t.1, addE s.2 t.2)).map tz := by
 unfold timesT;rw [List.map_map, List.map_map];refine List.map_congr_left fun s _ => ?_;show TZ.mk (zOf (zval (zOf s.1) * zval (zOf t.1))) (addX s.2 t.2) = tz _;rw [zval_zOf, zval_zOf, addX_eq]
theorem tz_nz {u : UT} (h : u.1 ≠ 0) : (tz u).c.w.length ≠ 0 := fun k => h ((toW_len0 u.1).1 k)
theorem zeros_add : ∀ (l : List Int) (n : Nat), l.length = n → addE l (List.replicate n 0) = l
 | [], _, h => by simp [addE]
 | x :: l, 0, h => by simp at h
 | x :: l, n + 1, h => by
  have ih := zeros_add l n (by simpa using h);unfold addE at ih ⊢;rw [List.replicate_succ, List.zipWith_cons_cons, ih];simp
end Go.AL
namespace Go.Proofs.YtcaecieigoplbaaGreat
open Go.AL
theorem rSortedU (V : Nat) (hV : V ≤ 1000) : ∀ (d M : Nat) (l : List UT), l.length ≤ 2 ^ d → 2 ^ d ≤ 100000 → M + d ≤ 30000 → okT V M l →
  PureFn Tryz.prog 121 [.sl 3 eT (l.map tz)] (.sl 3 eT ((canU l).map tz)) ∧ okT V (M + d) (canU l) := by
 intro d
 induction d with
 | zero =>
  intro M l hl hd hM hok;have hs := rSorted_short V M hV (by omega) (l.map tz) hok.terms (by simp; omega);rw [mergeT_short (by omega)] at hs;exact ⟨hs, hok.can0 (by omega)⟩
 | succ d ih =>
  intro M l hl hd hM hok;rw [Nat.pow_succ] at hl hd;rcases Nat.lt_or_ge l.length 2 with h2 | h2
  ·have hs := rSorted_short V M hV (by omega) (l.map tz) hok.terms (by simp; omega);rw [mergeT_short (by omega)] at hs;exact ⟨hs, (hok.can0 h2).mono (by omega)⟩
  ·obtain ⟨k, hk⟩ : ∃ k, k = l.length / 2 := ⟨_, rfl⟩;have o1 : okT V M (l.take k) := hok.sub fun u hu => List.mem_of_mem_take hu;have o2 : okT V M (l.drop k) := hok.sub fun u hu => List.mem_of_mem_drop hu;obtain ⟨a1, a2⟩ := ih M (l.take k) (by rw [List.length_take]; omega) (by omega) (by omega) o1;obtain ⟨b1, b2⟩ := ih M (l.drop k) (by rw [List.length_drop]; omega) (by omega) (by omega) o2;have l1 := canU_length (l.take k);have l2 := canU_length (l.drop k);rw [List.length_take] at l1;rw [List.length_drop] at l2;have hm := merged_ok V (M + d) hV (by omega) ((canU (l.take k)).map tz) ((canU (l.drop k)).map tz) a2.terms b2.terms (by rw [List.length_map]; omega) (by rw [List.length_map]; omega);rw [mergeT_can (canU_can _) (canU_can _) a2.lenU b2.lenU, canU_halves] at hm;have hres := okT.can (canU_can _) (canU_can _) a2 b2;rw [canU_halves] at hres;refine ⟨?_, hres.mono (by omega)⟩;refine PureFn.of_body Tryz.func121 rfl Tryz.ntmps121 rfl rfl ?_;have hlm : (l.map tz).length = l.length := List.length_map ..
   have e1 : (l.map tz).take (((l.map tz).length : Int) / 2).toNat = (l.take k).map tz := by rw [hlm, show ((l.length : Int) / 2).toNat = k by omega, List.map_take]
   have e2 : (l.map tz).drop (((l.map tz).length : Int) / 2).toNat = (l.drop k).map tz := by rw [hlm, show ((l.length : Int) / 2).toNat = k by omega, List.map_drop]
   (repeat' (first |refine qv ?_ |apply qn |apply qs |apply qr |refine qw ?_ |refine Fl.w rfl rfl rfl ⟨by omega, by omega, by dsimp only [hiK]; omega⟩ ?_ |(refine AWP.condD rfl ?_ ?_ <;> intro _ <;> try (exfalso; omega)) |apply qk));refine Fl.call rfl a1 rfl rfl rfl (LeL.cons (AV.Le.sl e1) LeL.nil) ?_;(repeat' (first |refine qv ?_ |refine qw ?_ |refine Fl.w rfl rfl rfl ⟨by omega, by omega, by dsimp only [hiK]; omega⟩ ?_|fail));refine Fl.call rfl b1 rfl rfl rfl (LeL.cons (AV.Le.sl e2) LeL.nil) ?_;skip;refine qc (hm) ?_;(repeat' (first |refine qv ?_ |refine Fl.nil (fun _ => by kernel_rfl) ?_ |apply qt));exact RetOk.of rfl (AV.Le.refl _)
theorem rAddU (V M : Nat) (hV : V ≤ 1000) (hM : M ≤ 30000) (a b : List UT) (ca : CanU a) (cb : CanU b) (ha : okT V M a) (hb : okT V M b) (la : a.length ≤ 100000) (lb : b.length ≤ 100000) : PureFn Tryz.prog 72 [aP (mkP V a), aP (mkP V b)] (aP (mkP V (canU (a ++ b)))) := by
 have h := rAddP_ok V M hV hM (a.map tz) (b.map tz) ha.terms hb.terms (by rw [List.length_map]; omega) (by rw [List.length_map]; omega);rw [mergeT_can ca cb ha.lenU hb.lenU] at h;exact h
theorem rTimesU0 (V : Nat) (p : List UT) (t : UT) (h : p = [] ∨ t.1 = 0) : PureFn Tryz.prog 145 [aP (mkP V p), aT (tz t)] (aP (mkP V [])) := by
 refine PureFn.of_body Tryz.func145 rfl Tryz.ntmps145 rfl rfl ?_;have hzero := rZero_ok (tz t).c;have hlen : (p.map tz).length = p.length := List.length_map ..;by_cases hp : p = []
 ·subst hp;(repeat' (first |refine qv ?_ |apply qn |apply qs |apply qr |refine qe ?_ |apply qb));refine AWP.loop (G := Unit) (fun _ => True) (fun _ => St.of [] [(2, .ptr 2 0), (3, .ptr 3 0), (4, .ptr 4 0), (5, .ptr 5 0), (6, aN 0)] [(2, .cells [aN V, .sl 3 eT (([] : List UT).map tz)] 70), (3, .cells (eT (tz t)) 124), (4, .cells [aN 0, .v (.slice none 0 0)] 70), (5, .cells [aN V, .v (.slice none 0 0)] 70)]) (fun _ => 0) () trivial ?_ ?_
  ·refine Ent.of [] ?_ ?_ rfl rfl;(repeat' (first |exact True.intro |refine ⟨⟨AV.Le.refl _, rfl⟩, ?_⟩ |refine ⟨⟨⟨_, rfl, BLe.cells (LeL.refl _)⟩, rfl⟩, ?_⟩|fail))
  ·intro _ _;(repeat' (first |refine qv ?_ |apply qn |apply qs |apply qr |refine qe ?_ |refine Fl.skip rfl rfl ?_ |refine AWP.condF rfl ?_ |apply qx |apply qt));exact RetOk.of rfl (AV.Le.agg (LeL.cons (AV.Le.refl _) (LeL.cons (AV.Le.nil 3 eT) LeL.nil)))
 ·have hz : t.1 = 0 := h.resolve_left hp;rw [decide_eq_true (show (tz t).c.w.length = 0 from (toW_len0 t.1).2 hz)] at hzero;have hpl : 0 < p.length := List.length_pos_iff.2 hp;(repeat' (first |refine qv ?_ |apply qn |apply qs |apply qr |refine qe ?_ |apply qb));refine AWP.loop (G := Unit) (fun _ => True) (fun _ => St.of [] [(2, .ptr 2 0), (3, .ptr 3 0), (4, .ptr 4 0), (5, .ptr 5 0), (6, aN 0)] [(2, .cells [aN V, .sl 3 eT (p.map tz)] 70), (3, .cells (eT (tz t)) 124), (4, .cells [aN 0, .v (.slice none 0 0)] 70), (5, .cells [aN V, .v (.slice none 0 0)] 70)]) (fun _ => 0) () trivial ?_ ?_
  ·refine Ent.of [] ?_ ?_ rfl rfl;(repeat' (first |exact True.intro |refine ⟨⟨AV.Le.refl _, rfl⟩, ?_⟩ |refine ⟨⟨⟨_, rfl, BLe.cells (LeL.refl _)⟩, rfl⟩, ?_⟩|fail))
  ·intro _ _;(repeat' (first |refine qv ?_ |apply qs |apply qr |(refine Fl.splitD rfl rfl ?_ ?_ <;> intro _ <;> try (exfalso; omega))))
   ·refine Fl.call rfl hzero rfl rfl rfl (LeL.refl _) ?_;(repeat' (first |refine qv ?_ |apply qn |apply qs |apply qr |refine qe ?_ |refine AWP.condF rfl ?_ |apply qx |apply qt));exact RetOk.of rfl (AV.Le.agg (LeL.cons (AV.Le.refl _) (LeL.cons (AV.Le.nil 3 eT) LeL.nil)))
theorem rTimesU (V M : Nat) (hV : V ≤ 1000) (hM : M ≤ 10000) (p : List UT) (t : UT) (hl : p.length ≤ 3000) (hp : okT V M p) (ht : okT V M [t]) : PureFn Tryz.prog 145 [aP (mkP V p), aT (tz t)] (aP (mkP V (if t.1 = 0 then [] else p.map fun s => (s.1 * t.1, addE s.2 t.2)))) := by
 by_cases hz : t.1 = 0
 ·rw [if_pos hz]; exact rTimesU0 V p t (.inr hz)
 ·rw [if_neg hz];by_cases hn : p = []
  ·subst hn; exact rTimesU0 V [] t (.inl rfl)
  ·have h := rTimes_ok V hV (p.map tz) (tz t) (by rw [List.length_map]; omega) (hp.mono hM).terms (ht.mono hM).terms (tz_nz hz) (by rw [List.length_map]; exact fun k => hn (List.eq_nil_of_length_eq_zero k));rw [timesT_tz] at h;exact h
theorem rConstU (V : Nat) (c : Int) (hV : V ≤ 1000) (hc : lenI c ≤ 20000) : PureFn Tryz.prog 146 [aN V, aX c] (aP (mkP V (conU V c))) := by
 refine PureFn.of_body Tryz.func146 rfl Tryz.ntmps146 rfl rfl ?_;have hs := (rSortedU V hV 0 20000 [(c, List.replicate V 0)] (by simp) (by simp) (by omega) (fun u hu => by simp only [List.mem_singleton] at hu; subst hu; exact ⟨by simp, EOk.zeros V, hc⟩)).1;rw [conU_can] at hs;refine AWP.seqS ?_;(repeat' (first |apply qn |apply qr |refine qe ?_|fail));refine ⟨AWP.seq (AWP.region ?_)⟩;refine Fl.v rfl rfl rfl ?_;refine Fl.v rfl rfl rfl ?_;refine Fl.v rfl rfl rfl ?_;refine Fl.makeC rfl rfl rfl rfl rfl rfl rfl rfl rfl eI 0 (by exact LeL.refl _) (by rfl) (by omega) (by first | omega | (dsimp only; omega)) (by omega) ?_;(repeat' (first |refine qe ?_|fail));refine ql eT [tz (c, List.replicate V 0)] ?_;skip;refine qc (hs) ?_;(repeat' (first |refine Fl.nil (fun _ => by kernel_rfl) ?_ |refine qe ?_ |apply qt));exact RetOk.of rfl (AV.Le.refl _)
theorem rVarU (V i : Nat) (hi : i < V) (hV : V ≤ 1000) : PureFn Tryz.prog 143 [aN V, aN i] (aP (mkP V (varU V i))) := rVar_ok V i hi hV
theorem rSubU (V M : Nat) (hV : V ≤ 1000) (hM : M ≤ 9000) (a b : List UT) (ca : CanU a) (cb : CanU b) (ha : okT V M a) (hb : okT V M b) (la : a.length ≤ 3000) (lb : b.length ≤ 3000) : PureFn Tryz.prog 76 [aP (mkP V a), aP (mkP V b)] (aP (mkP V (subL a b))) := by
 refine PureFn.of_body Tryz.func76 rfl Tryz.ntmps76 rfl rfl ?_;have l1 : lenI (-1) ≤ 1 := lenI_small (by decide);have ht := rTimesU V (M + 1) hV (by omega) b (-1, List.replicate V 0) lb (hb.mono (by omega)) (fun u hu => by simp only [List.mem_singleton] at hu; subst hu; exact ⟨by simp, EOk.zeros V, by show lenI (-1) ≤ M + 1; omega⟩);rw [if_neg (by simp)] at ht
 have hn : (b.map fun s => (s.1 * (-1), addE s.2 (List.replicate V 0))) = b.map fun u => (u.1 * (-1), u.2) := List.map_congr_left fun u hu => by rw [zeros_add _ _ (hb u hu).1]
 simp only at ht;rw [hn] at ht
 have cn : CanU (b.map fun u => (u.1 * (-1), u.2)) := ⟨fun u hu => by
  obtain ⟨v, hv, rfl⟩ := List.mem_map.1 hu;have := cb.nz v hv;show v.1 * (-1) ≠ 0
  omega, List.pairwise_map.2 cb.pw⟩
 have on : okT V M (b.map fun u => (u.1 * (-1), u.2)) := fun u hu => by
  obtain ⟨v, hv, rfl⟩ := List.mem_map.1 hu;refine ⟨(hb v hv).1, (hb v hv).2.1, ?_⟩;show lenI (v.1 * (-1)) ≤ M;rw [show v.1 * (-1) = -v.1 by omega, lenI_neg];exact (hb v hv).2.2
 have hadd := rAddU V M hV (by omega) a (b.map fun u => (u.1 * (-1), u.2)) ca cn ha on (by omega) (by rw [List.length_map]; omega);refine AWP.seqS ?_;(repeat' (first |apply qn |apply qr |refine qe ?_|fail));refine ⟨AWP.seq (AWP.region ?_)⟩;(repeat' (first |refine qv ?_|fail));refine qc (rOf_ok (-1) (by omega) (by omega)) ?_;(repeat' (first |refine qv ?_|fail));refine Fl.makeC rfl rfl rfl rfl rfl rfl rfl rfl rfl eI 0 (by exact LeL.refl _) (by rfl) (by show (0 : Int) ≤ (V : Int); omega) (by show (V : Int) * _ ≤ _; first | omega | (dsimp only; omega)) (by show (V : Int) ≤ _; omega) ?_;(repeat' (first |refine qe ?_|fail));refine qc (ht) ?_;skip;refine qc (hadd) ?_;(repeat' (first |refine Fl.nil (fun _ => by kernel_rfl) ?_ |refine qe ?_ |apply qt));exact RetOk.of rfl (AV.Le.refl _)
end Go.Proofs.YtcaecieigoplbaaGreat
/- The reference's polynomials: Mul; its links: First, Make. -/
namespace Go.AL
def ixN (n : Nat) : List Int := (List.range n).map fun (j : Nat) => (j : Int)
theorem ixN_succ (n : Nat) : ixN (n + 1) = ixN n ++ [(n : Int)] := by unfold ixN; rw [List.range_succ, List.map_append]; rfl
theorem ixN_length (n : Nat) : (ixN n).length = n := by simp [ixN]
theorem ixN_get {n i : Nat} (h : i < n) : (ixN n)[i]? = some (i : Int) := by simp [ixN, h]
theorem mulR_snoc {p q : List UT} {i : Nat} {t : UT} (h : q[i]? = some t) : mulR p (q.take (i + 1)) = mulR p (q.take i) ++ p.map fun s => (s.1 * t.1, addE s.2 t.2) := flatMap_take_succ _ h
theorem okT.mul {V M : Nat} {p q : List UT} (hp : okT V M p) (hq : okT V M q) (hE : ∀ s ∈ p, ∀ t ∈ q, EOk (addE s.2 t.2)) : okT V (M + M) (mulR p q) := fun u hu => by
 obtain ⟨t, ht, hu⟩ := List.mem_flatMap.1 hu;obtain ⟨s, hs, rfl⟩ := List.mem_map.1 hu;have a := hp s hs;have b := hq t ht;refine ⟨by rw [addE_length (by rw [a.1, b.1]), a.1], hE s hs t ht, ?_⟩;have := lenI_mul s.1 t.1;show lenI (s.1 * t.1) ≤ _;omega
def linkR (V : Nat) (kind : Int) (ls : List (List UT)) : LZ := ⟨kind, occI ls V, ls.map fun p => mkP (occI ls V).length (canU (p.map fun u => (u.1, pickX (occI ls V) u.2)))⟩
def anyP (i : Nat) (p : List UT) : Bool := p.any fun u => decide (0 < u.2.getD i 0)
theorem any_take_succ {α : Type} (f : α → Bool) {l : List α} {k : Nat} {x : α} (h : l[k]? = some x) : (l.take (k + 1)).any f = ((l.take k).any f || f x) := by
 rw [take_snoc h, List.any_append]; simp
theorem okT.pick {V M : Nat} {p : List UT} (h : okT V M p) (occ : List Int) : okT occ.length M (p.map fun u => (u.1, pickX occ u.2)) := fun u hu => by
 obtain ⟨v, hv, rfl⟩ := List.mem_map.1 hu;refine ⟨by simp [pickX], fun e he => ?_, (h v hv).2.2⟩;obtain ⟨x, _, rfl⟩ := List.mem_map.1 he;rw [List.getD_eq_getElem?_getD]
 cases hx : v.2[x.toNat]? with
 | none => simp
 | some y => exact (h v hv).2.1 y (List.mem_of_getElem? hx)
end Go.AL
namespace Go.Proofs.YtcaecieigoplbaaGreat
open Go.AL
theorem rMulU (V M d : Nat) (hV : V ≤ 1000) (hM : M ≤ 9000) (p q : List UT) (hp : okT V M p) (hq : okT V M q) (nz : ∀ t ∈ q, t.1 ≠ 0) (hE : ∀ s ∈ p, ∀ t ∈ q, EOk (addE s.2 t.2)) (lp : p.length ≤ 3000) (lq : q.length ≤ 3000) (hd : q.length * p.length ≤ 2 ^ d) (hd2 : 2 ^ d ≤ 100000) (hd3 : d ≤ 20) : PureFn Tryz.prog 73 [aP (mkP V p), aP (mkP V q)] (aP (mkP V (mulL2 p q))) := by
 refine PureFn.of_body Tryz.func73 rfl Tryz.ntmps73 rfl rfl ?_;have hso := (rSortedU V hV d (M + M) (mulR p q) (by rw [mulR_length]; omega) hd2 (by omega) (hp.mul hq hE)).1;rw [canU_congr (cfU_mulR p q)] at hso;have hlen : (q.map tz).length = q.length := List.length_map ..;have hlp : (p.map tz).length = p.length := List.length_map ..;refine AWP.seqS ?_;(repeat' (first |apply qn |apply qr |refine qe ?_|fail));refine ⟨AWP.seqS ?_⟩;(repeat' (first |refine qv ?_ |apply qn |apply qr));refine ⟨?_⟩;refine AWP.ent (Ent.nilrow 5 805 rfl rfl 3 eT 124) ?_;(repeat' (first |refine qv ?_ |apply qn |apply qs |apply qr |apply qb));refine AWP.loop (G := Nat) (fun i => i ≤ q.length) (fun i => St.of [] [(2, .ptr 2 0), (3, .ptr 3 0), (4, .ptr 4 0), (5, .row 700), (6, aN i)] [(2, .cells [aN V, .sl 3 eT (p.map tz)] 70), (3, .cells [aN V, .sl 3 eT (q.map tz)] 70), (4, .cells [aN 0, .v (.slice none 0 0)] 70), (700, .row 3 eT ((mulR p (q.take i)).map tz) 124)]) (fun i => q.length - i) 0 (by omega) ?_ ?_
 ·refine Ent.of [(700, 805)] ?_ ?_ rfl rfl;(repeat' (first |exact True.intro |refine ⟨⟨AV.Le.refl _, rfl⟩, ?_⟩ |refine ⟨⟨⟨_, rfl, BLe.cells (LeL.refl _)⟩, rfl⟩, ?_⟩ |refine ⟨⟨⟨_, rfl, BLe.row rfl⟩, rfl⟩, ?_⟩|fail))
 ·intro i k0
  have hli : ((mulR p (q.take i)).map tz).length = i * p.length := by rw [List.length_map, mulR_length, List.length_take, Nat.min_eq_left k0]
  have hmx : i * p.length ≤ q.length * p.length := Nat.mul_le_mul_right _ k0;by_cases hi : i < q.length
  ·obtain ⟨t, ht⟩ : ∃ t, q[i]? = some t := ⟨_, List.getElem?_eq_getElem hi⟩;have htm := List.mem_of_getElem? ht
   have hqt : (q.map tz)[i]? = some (tz t) := by rw [List.getElem?_map, ht]; rfl
   have hti := rTimesU V M hV (by omega) p t lp hp (hq.sub fun u hu => by simp only [List.mem_singleton] at hu; rw [hu]; exact htm);rw [if_neg (nz t htm)] at hti;have hms := mulR_snoc (p := p) ht;obtain ⟨T, hT⟩ : ∃ T, T = p.map fun s => (s.1 * t.1, addE s.2 t.2) := ⟨_, rfl⟩
   have hTl : (T.map tz).length = p.length := by rw [hT, List.length_map, List.length_map]
   rw [← hT] at hti hms;have hm1 : (i + 1) * p.length ≤ q.length * p.length := Nat.mul_le_mul_right _ hi;rw [Nat.add_mul] at hm1;(repeat' (first |refine qv ?_ |apply qn |apply qs |apply qr |(refine AWP.condD rfl ?_ ?_ <;> intro _ <;> try (exfalso; omega)) |apply qb |apply qk |refine qK ?_|fail));refine qc (hti) ?_;(repeat' (first |refine qv ?_|fail));refine qa (hby := (by show (((mulR p (q.take i)).map tz).length + (T.map tz).length) * _ ≤ _; dsimp only; omega)) (hm := (by show ((mulR p (q.take i)).map tz).length + (T.map tz).length ≤ _; omega)) (r := ?_);(repeat' (first |refine qv ?_ |apply qn |refine Fl.nil (fun _ => by kernel_rfl) ?_ |apply qr |refine qw ?_|fail));refine LoopEnd.of (i + 1) (by omega) (by omega) ?_;refine Ent.of [(700, 23)] ?_ ?_ rfl rfl;(repeat' (first |exact True.intro |refine ⟨⟨AV.Le.refl _, rfl⟩, ?_⟩ |refine ⟨⟨⟨_, rfl, BLe.cells (LeL.refl _)⟩, rfl⟩, ?_⟩ |refine ⟨⟨⟨_, rfl, BLe.row ?_⟩, rfl⟩, ?_⟩|fail));rw [hms, List.map_append];rfl
  ·have hti : q.take i = q := List.take_of_length_le (by omega);rw [hti];(repeat' (first |refine qv ?_ |apply qn |apply qs |apply qr |(refine AWP.condD rfl ?_ ?_ <;> intro _ <;> try (exfalso; omega)) |apply qx));refine Fl.callF rfl 700 rfl hso rfl rfl rfl (LeL.refl _) ?_;(repeat' (first |refine Fl.nil (fun _ => by kernel_rfl) ?_ |refine qe ?_ |apply qt));exact RetOk.of rfl (AV.Le.refl _)
theorem rFirst_ok (n : Nat) (hn : n ≤ 1000000) : PureFn Tryz.prog 71 [aN n] (aI (ixN n)) := by
 refine PureFn.of_body Tryz.func71 rfl Tryz.ntmps71 rfl rfl ?_;(repeat' (first |refine qv ?_ |apply qn |apply qs |apply qr |apply qb));refine AWP.ent (Ent.nilrow 3 805 rfl rfl 1 eI 3) ?_;refine AWP.loop (G := Nat) (fun i => i ≤ n) (fun i => St.of [] [(0, aN n), (3, .row 700), (4, aN i)] [(700, .row 1 eI (ixN i) 3)]) (fun i => n - i) 0 (by omega) ?_ ?_
 ·refine Ent.of [(700, 805)] ?_ ?_ rfl rfl;(repeat' (first |exact True.intro |refine ⟨⟨AV.Le.refl _, rfl⟩, ?_⟩ |refine ⟨⟨⟨_, rfl, BLe.row rfl⟩, rfl⟩, ?_⟩|fail))
 ·intro i k0;have hli := ixN_length i;(repeat' (first |refine qv ?_ |apply qn |apply qs |apply qr |(refine AWP.condD rfl ?_ ?_ <;> intro _ <;> try (exfalso; omega)) |apply qb |apply qk |apply qx |apply qt))
  ·refine ql eI [(i : Int)] ?_;skip;refine qa (hby := (by dsimp only [List.length_nil, List.length_cons]; omega)) (hm := (by dsimp only [List.length_nil, List.length_cons]; omega)) (r := ?_);(repeat' (first |refine qv ?_ |apply qn |apply qr |refine qw ?_|fail));refine LoopEnd.of (i + 1) (by omega) (by omega) ?_;refine Ent.of [(700, 13)] ?_ ?_ rfl rfl;(repeat' (first |exact True.intro |refine ⟨⟨AV.Le.refl _, rfl⟩, ?_⟩ |refine ⟨⟨⟨_, rfl, BLe.row ?_⟩, rfl⟩, ?_⟩|fail));exact (ixN_succ i).symm
  ·rename_i hi
   have : i = n := by omega
   subst this;refine RetOk.ent (Ent.freeze 700 rfl) ?_;exact RetOk.of rfl (AV.Le.refl _)
end Go.Proofs.YtcaecieigoplbaaGreat

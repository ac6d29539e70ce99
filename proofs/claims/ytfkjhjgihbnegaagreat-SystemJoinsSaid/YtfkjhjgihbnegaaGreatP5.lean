/- Part 5 of a proof layer and of the contracts of the functions (XH0 XH1 XK0 XK1 XK2 XK3 XK5 XXS XN2 XN3 XN4 XN5). -/
import Derived.ProofKit
import Derived.OpenShut
import Derived.Carry
import Derived.ChangeSame
import Derived.ReadAgain
import Derived.Test.YtfkjhjgihbnegaaGreatRows
import Derived.Deep.Strs
import Derived.Shelf.SlSortCmp.WholeK
import Derived.Shelf.Spec.SlicesGrow
import Derived.Test.YtfkjhjgihbnegaaGreatProg
import Derived.Test.YtfkjhjgihbnegaaGreatP4
set_option linter.unusedVariables false
set_option linter.unusedSimpArgs false
/- From what a claim's arguments read as to abstract values over the memory as it stands. -/
namespace Go.AL
/-- all cells of a world -/
def hpOf (w : World) : Hp := fun b => match w.heap[b]? with | some (.cells cs _ _) => some cs | _ => none
theorem hpOf_has (w : World) : Has w (hpOf w) := fun b cs h => by
  unfold hpOf at h
  split at h
  · rename_i cs' t fr hb
    injection h with h; subst h
    exact ⟨t, fr, hb⟩
  · cases h
theorem hcell_of {w : World} {a : Addr} {u : Value} (h : w.cell? a = some u) : hcell (hpOf w) a u := by
  unfold World.cell? at h
  split at h
  · rename_i c t fr hb
    split at h
    · cases h
    · rename_i hs
      exact ⟨by simpa using hs, c, by simp [hpOf, hb], h⟩
  · cases h
theorem mapM_get {α β : Type} {f : α → Option β} : ∀ {l : List α} {r : List β}, l.mapM f = some r → r.length = l.length ∧ ∀ (i : Nat) (x : α) (y : β), l[i]? = some x → r[i]? = some y → f x = some y
  | [], r, h => by
    simp at h; subst h; simp
  | x :: l, r, h => by
    simp only [List.mapM_cons, Option.bind_eq_bind, Option.bind_eq_some_iff, Option.pure_def, Option.some.injEq] at h
    obtain ⟨y, h1, ys, h2, rfl⟩ := h
    obtain ⟨h3, h4⟩ := mapM_get h2
    refine ⟨by simp [h3], fun i a b ha hb => ?_⟩
    cases i with
    | zero => simp at ha hb; subst ha hb; exact h1
    | succ i => exact h4 i a b (by simpa using ha) (by simpa using hb)
theorem cells_of {w : World} {base : Nat} {a : Addr} {n : Nat} {cs : List Value} (h : w.cells? base a n = some cs) : cs.length = n ∧ ∀ (j : Nat) (u : Value), cs[j]? = some u → hcell (hpOf w) (a.add j) u := by
  unfold World.cells? at h
  split at h
  · obtain ⟨h1, h2⟩ := mapM_get h
    rw [List.length_range] at h1
    refine ⟨h1, fun j u hu => hcell_of ?_⟩
    have hj : j < n := by rw [← h1]; exact (List.getElem?_eq_some_iff.1 hu).1
    exact h2 j j u (by simp [hj]) hu
  · cases h
section
variable {H : Type} {enc : TypeId × Value → H} {P : Program} {w : World} {base : Nat} {spare : Nat → Bool} {held : Bool}
theorem trodInt {t : TypeId} {k : IntKind} {fuel : Nat} {cs : List Value} {x : DataW H × List MemPlace} (ht : P.underlying t = some (.int k)) (h : DataW.trod enc P w base spare held fuel t cs = some x) : ∃ n, cs = [.int k n] ∧ (Lit.int k n).wf = true := by
  cases fuel with
  | zero => simp [DataW.trod] at h
  | succ fuel =>
    simp only [DataW.trod, ht] at h
    split at h <;> simp_all
theorem trodBool {t : TypeId} {fuel : Nat} {cs : List Value} {x : DataW H × List MemPlace} (ht : P.underlying t = some .bool) (h : DataW.trod enc P w base spare held fuel t cs = some x) : ∃ b, cs = [.bool b] := by
  cases fuel with
  | zero => simp [DataW.trod] at h
  | succ fuel =>
    simp only [DataW.trod, ht] at h
    split at h <;> simp_all
/-- A slice: so many elements, of each what its cells say. -/
theorem trodSlice {α : Type} (sz : Nat) (en : α → List AV) (Q : α → Prop) {t e : TypeId} {fuel : Nat} {cs : List Value} {x : DataW H × List MemPlace} (ht : P.underlying t = some (.slice e)) (hsz : P.cellsOf e = sz)
    (hel : ∀ (fuel : Nat) (us : List Value) (y : DataW H × List MemPlace), us.length = sz → DataW.trod enc P w base spare held fuel e us = some y → ∃ a, RepL (hpOf w) noB (en a) us ∧ Q a)
    (h : DataW.trod enc P w base spare held fuel t cs = some x) : ∃ (xs : List α) (u : Value), cs = [u] ∧ Rep (hpOf w) noB (.sl sz en xs) u ∧ (∀ a ∈ xs, Q a) ∧ xs.length ≤ maxLen := by
  cases fuel with
  | zero => simp [DataW.trod] at h
  | succ fuel =>
    simp only [DataW.trod, ht] at h
    split at h <;> try (simp_all; done)
    · refine ⟨[], _, rfl, ?_, by simp, by simp [maxLen]⟩
      simp only [Rep]
      exact ⟨none, 0, rfl, by simp, by simp [maxLen], fun i y hy => by simp at hy⟩
    · rename_i e' a len cap heq
      injection heq with heq; injection heq with heq; subst heq
      split at h
      · rename_i hc
        simp only [Option.bind_eq_some_iff] at h
        obtain ⟨elems, h1, _⟩ := h
        obtain ⟨h2, h3⟩ := mapM_get h1
        rw [List.length_range] at h2
        have hall : ∀ i, i < len → ∃ (us : List Value) (a' : α), us.length = sz ∧ (∀ (j : Nat) (u : Value), us[j]? = some u → hcell (hpOf w) ((a.add (i * sz)).add j) u) ∧ RepL (hpOf w) noB (en a') us ∧ Q a' := by
          intro i hi
          have := h3 i i (elems[i]'(by omega)) (by simp [hi]) (List.getElem?_eq_getElem _)
          simp only [Option.bind_eq_some_iff] at this
          obtain ⟨us, hu1, hu2⟩ := this
          rw [hsz] at hu1
          obtain ⟨hu3, hu4⟩ := cells_of hu1
          obtain ⟨a', ha1, ha2⟩ := hel fuel us _ hu3 hu2
          exact ⟨us, a', hu3, hu4, ha1, ha2⟩
        have hex : ∃ xs : List α, xs.length = len ∧ ∀ (i : Nat) (y : α), xs[i]? = some y → ∃ us : List Value, us.length = sz ∧ (∀ (j : Nat) (u : Value), us[j]? = some u → hcell (hpOf w) ((a.add (i * sz)).add j) u) ∧ RepL (hpOf w) noB (en y) us ∧ Q y := by
          have : ∀ n, n ≤ len → ∃ xs : List α, xs.length = n ∧ ∀ (i : Nat) (y : α), xs[i]? = some y → ∃ us : List Value, us.length = sz ∧ (∀ (j : Nat) (u : Value), us[j]? = some u → hcell (hpOf w) ((a.add (i * sz)).add j) u) ∧ RepL (hpOf w) noB (en y) us ∧ Q y := by
            intro n
            induction n with
            | zero => exact fun _ => ⟨[], rfl, fun i y hy => by simp at hy⟩
            | succ n ih =>
              intro hn
              obtain ⟨xs, hx1, hx2⟩ := ih (by omega)
              obtain ⟨us, a', q1, q2, q3, q4⟩ := hall n (by omega)
              refine ⟨xs ++ [a'], by simp [hx1], fun i y hy => ?_⟩
              rw [List.getElem?_append] at hy
              split at hy
              · exact hx2 i y hy
              · rename_i hi
                have hin : i = n := by
                  have := (List.getElem?_eq_some_iff.1 hy).1
                  simp at this; omega
                subst hin
                rw [hx1, Nat.sub_self] at hy
                simp at hy; subst hy
                exact ⟨us, q1, q2, q3, q4⟩
          exact this len (Nat.le_refl _)
        obtain ⟨xs, hx1, hx2⟩ := hex
        refine ⟨xs, _, rfl, ?_, fun y hy => ?_, by omega⟩
        · simp only [Rep]
          refine ⟨some a, cap, by rw [hx1], by omega, by omega, fun i y hy => ?_⟩
          obtain ⟨us, q1, q2, q3, _⟩ := hx2 i y hy
          refine ⟨a, us, rfl, q1, q3, fun j u hu => ?_⟩
          have := q2 j u hu
          have hadd : (a.add (i * sz)).add j = a.add (i * sz + j) := by
            unfold Addr.add
            by_cases k1 : i * sz = 0
            · rw [k1]; simp
            · by_cases k2 : j = 0
              · subst k2; simp [k1]
              · simp [k1, k2, Nat.add_assoc]
          rwa [hadd] at this
        · obtain ⟨i, hi, rfl⟩ := List.mem_iff_getElem.1 hy
          obtain ⟨_, _, _, _, hq⟩ := hx2 i _ (List.getElem?_eq_getElem hi)
          exact hq
      · cases h
end
end Go.AL
namespace Go.AL
/-- what a number in memory is -/
def ZB (z : Z) : Prop := WOk z.w ∧ z.w.length ≤ maxLen
theorem list2 {α : Type} {l : List α} (h : l.length = 2) : ∃ a b, l = [a, b] := by
  match l, h with
  | [a, b], _ => exact ⟨a, b, rfl⟩
theorem list3 {α : Type} {l : List α} (h : l.length = 3) : ∃ a b c, l = [a, b, c] := by
  match l, h with
  | [a, b, c], _ => exact ⟨a, b, c, rfl⟩
end Go.AL
namespace Go.Proofs.YtfkjhjgihbnegaaGreat
open Go.AL Go.ChangeShapes Go.WideShapes Go.ChangeAt Go.RowKit

section
variable {H : Type} {enc : TypeId × Value → H} {w : World} {base : Nat} {spare : Nat → Bool} {held : Bool}
theorem wfU32 {n : Int} (h : (Lit.int .u32 n).wf = true) : 0 ≤ n ∧ n < 4294967296 := by
  simp [Lit.wf] at h
  have h1 : IntKind.u32.min = 0 := rfl
  have h2 : IntKind.u32.max = 4294967295 := rfl
  omega
theorem wfU8 {n : Int} (h : (Lit.int .u8 n).wf = true) : 0 ≤ n ∧ n ≤ 255 := by
  simp [Lit.wf] at h
  have h1 : IntKind.u8.min = 0 := rfl
  have h2 : IntKind.u8.max = 255 := rfl
  omega
theorem wfI64 {n : Int} (h : (Lit.int .i64 n).wf = true) : -9223372036854775808 ≤ n ∧ n ≤ 9223372036854775807 := by
  simp [Lit.wf] at h
  have h1 : IntKind.i64.min = -9223372036854775808 := rfl
  have h2 : IntKind.i64.max = 9223372036854775807 := rfl
  omega
theorem trodW {fuel : Nat} {cs : List Value} {x : DataW H × List MemPlace} (h : DataW.trod enc Tryz.prog w base spare held fuel 56 cs = some x) : ∃ (xs : List Int) (u : Value), cs = [u] ∧ Rep (hpOf w) noB (aW xs) u ∧ WOk xs ∧ xs.length ≤ maxLen := by
  refine trodSlice 1 eW (fun n => 0 ≤ n ∧ n < 4294967296) Tryz.underlying56 (by kernel_rfl) (fun fuel us y _ hy => ?_) h
  obtain ⟨n, rfl, hn⟩ := trodInt Tryz.underlying105 hy
  exact ⟨n, ⟨_, _, rfl, by simp only [Rep], rfl⟩, wfU32 hn⟩
theorem trodZ {fuel : Nat} {cs : List Value} {x : DataW H × List MemPlace} (h : DataW.trod enc Tryz.prog w base spare held fuel 58 cs = some x) : ∃ z : Z, RepL (hpOf w) noB (eZ z) cs ∧ ZB z := by
  obtain ⟨y0, y1, n, _, hl, h0, h1⟩ := trod_struct2 Tryz.underlying58 h
  have hc : Tryz.prog.cellsOf 58 = 2 := by kernel_rfl
  have hb : Tryz.prog.cellsOf 4 = 1 := by kernel_rfl
  have hs : Tryz.prog.cellsOf 56 = 1 := by kernel_rfl
  rw [hc] at hl
  obtain ⟨c0, c1, rfl⟩ := list2 hl
  simp only [hb, hs, List.drop_zero, List.take_succ_cons, List.take_zero, List.drop_succ_cons] at h0 h1
  obtain ⟨b, e0⟩ := trodBool Tryz.underlying4 h0
  obtain ⟨xs, u, e1, hr, hw, hm⟩ := trodW h1
  injection e0 with e0; injection e1 with e1; subst e0 e1
  exact ⟨⟨b, xs⟩, ⟨_, _, rfl, by simp only [Rep], ⟨_, _, rfl, hr, rfl⟩⟩, hw, hm⟩
end
theorem below_of {W W' : World} {h h' : Hp} (e : Evo never W h W' h') : Below W.heap.size W W' := ⟨e.os, e.tape, e.output, e.size, fun k hk => e.block k hk (fun x => x)⟩
theorem own : ownKnob Tryz.prog.godebug = none := by kernel_rfl
theorem lb : laidOutB Tryz.prog = true := by kernel_rfl
end Go.Proofs.YtfkjhjgihbnegaaGreat
namespace Go.AL
section
variable {P : Program} {tab : Tab} {n : Nat} {s : St}
variable {ops : Array Oper} {draw : Dr} {o : Oper} {l : List Oper} {acc : List Eff} {K : Exit → St → Prop}
/-- sums of ints, as the machine reckons them -/
theorem Fl.sumS {op : BinOp} {t t' : TypeId} {x y : Operand} (hop : o.op = .binOp op t x y t') {m m' c : Int} (hx : opd s x = .v (.int .i64 m)) (hy : opd s y = .v (.int .i64 m')) (hc : arithI op m m' = some c) (hg : gOk ops s o = true) (hd : dOk n o.dst = true)
    (r : Fl P n ops draw l ((Eff.mk (.v (.int .i64 (w64 c))) [] [] [] []).app o.dst s) (Eff.mk (.v (.int .i64 (w64 c))) [] [] [] [] :: acc) K) : Fl P n ops draw (o :: l) s acc K := by
  refine Fl.opv hg (OpJ.of_run (tb := []) (dOk_lt hd) fun C s' a w h β ho _ b => ?_) r
  have hxr := opd_rep b x
  have hyr := opd_rep b y
  rw [ho x (by simp [hop, Op.operands]), hx] at hxr
  rw [ho y (by simp [hop, Op.operands]), hy] at hyr
  simp only [Rep] at hxr hyr
  exact ⟨_, bin_run hop hxr hyr hc, by simp only [Rep]; rw [wrap_i64]; rfl⟩
end
/-- the two orders of exponents -/
theorem ordX_eq : ∀ (a b : List Int) (x y : Int), a.length = b.length → ordX x y a b = if x = y then cmpL a b else cmpI x y
  | [], [], x, y, _ => by
    simp only [ordX, cmpL]
    split
    · rename_i h; rw [cmpI_eq h]
    · rfl
  | [], _ :: _, _, _, h => by simp at h
  | _ :: _, [], _, _, h => by simp at h
  | a :: l, b :: m, x, y, h => by
    simp only [ordX, cmpL]
    split
    · rw [ordX_eq l m a b (by simpa using h)]
      by_cases hab : a = b
      · rw [if_pos hab, if_pos (cmpI_zero.2 hab)]
      · rw [if_neg hab, if_neg fun k => hab (cmpI_zero.1 k)]
    · rfl
theorem cmpI_cases (x y : Int) : cmpI x y = 1 ∧ y < x ∨ cmpI x y = 0 ∧ x = y ∨ cmpI x y = -1 ∧ x < y := by
  unfold cmpI
  split
  · exact .inr (.inr ⟨rfl, by omega⟩)
  · split
    · exact .inl ⟨rfl, by omega⟩
    · exact .inr (.inl ⟨rfl, by omega⟩)
theorem cmpI_swap (x y : Int) : cmpI x y = - cmpI y x := by
  have h1 := cmpI_cases x y
  have h2 := cmpI_cases y x
  omega
theorem cmpL_swap : ∀ (a b : List Int), a.length = b.length → cmpL a b = - cmpL b a
  | [], [], _ => rfl
  | [], _ :: _, h => by simp at h
  | _ :: _, [], h => by simp at h
  | x :: a, y :: b, h => by
    simp only [cmpL]
    have hs := cmpI_swap x y
    by_cases hz : cmpI x y = 0
    · rw [if_pos hz, if_pos (by omega)]; exact cmpL_swap a b (by simpa using h)
    · rw [if_neg hz, if_neg (by omega)]; exact hs
theorem cmpL_range : ∀ (a b : List Int), cmpL a b = 1 ∨ cmpL a b = 0 ∨ cmpL a b = -1
  | [], [] => .inr (.inl rfl)
  | [], _ :: _ => .inr (.inr rfl)
  | _ :: _, [] => .inl rfl
  | x :: a, y :: b => by
    simp only [cmpL]
    split
    · exact cmpL_range a b
    · rcases cmpI_cases x y with h | h | h <;> omega
theorem rOrd_one {a b : List Int} (h : a.length = b.length) : rOrd a b = 1 ↔ ordI a b < 0 := by
  unfold rOrd ordI
  rw [ordX_eq a b _ _ h]
  have hs := cmpL_swap a b h
  have hr := cmpL_range a b
  by_cases hz : sumL a = sumL b
  · rw [if_pos hz, if_pos (by omega)]; omega
  · rw [if_neg hz, if_neg (by omega)]
    rcases cmpI_cases (sumL a) (sumL b) with k | k | k <;> omega
/-- the words' rows are as long as memory lets them be -/
def WLP (p : PZ) : Prop := p.terms.length ≤ 9223372036854775807 ∧ ∀ t ∈ p.terms, t.c.w.length ≤ 9223372036854775807
end Go.AL
namespace Go.Proofs.YtfkjhjgihbnegaaGreat
open Go.AL

theorem rterm_ok (t : TZ) (vars : Int) (hw : WT t) (hl : t.c.w.length ≤ 9223372036854775807) (hv : vars ≤ 32) (b : Bool) (hb : b = true ↔ OkT vars t) : PureFn Tryz.prog 101 [aT t, aN vars] (aB b) := by
  refine PureFn.of_body Tryz.func101 rfl Tryz.ntmps101 rfl rfl ?_
  have hfalse : ¬ OkT vars t → false = b := fun h => by cases b with | false => rfl | true => exact absurd (hb.1 rfl) h
  repeat' (first |refine Fl.v rfl rfl rfl ?_ |refine Fl.nilF ?_ |refine AWP.seq ?_ |refine AWP.region ?_ |refine Fl.b rfl rfl rfl rfl ?_ |fail)
  refine Fl.call rfl (rValid_ok t.c hw hl) rfl rfl rfl (LeL.refl _) ?_
  repeat' (first |refine Fl.v rfl rfl rfl ?_ |refine Fl.nilF ?_ |refine AWP.seq ?_ |refine AWP.region ?_ |refine Fl.skip rfl rfl ?_ |refine AWP.condT rfl ?_ |refine AWP.ret ?_ |(refine Fl.splitN rfl rfl ?_ ?_ <;> intro _ <;> try (exfalso; omega)) |fail)
  · rename_i h; exact RetOk.of rfl (AV.Le.bool (hfalse fun k => h k.coef))
  refine Fl.call rfl (rZero_ok t.c) rfl rfl rfl (LeL.refl _) ?_
  repeat' (first |refine Fl.v rfl rfl rfl ?_ |refine Fl.nilF ?_ |refine AWP.seq ?_ |refine AWP.region ?_ |refine Fl.skip rfl rfl ?_ |refine AWP.condT rfl ?_ |(refine AWP.condN rfl ?_ ?_ <;> intro _ <;> try (exfalso; omega)) |refine AWP.block ?_ |refine AWP.skip ?_ |refine AWP.ret ?_ |(refine Fl.splitD rfl rfl ?_ ?_ <;> intro _ <;> try (exfalso; omega)) |fail)
  · rename_i h; exact RetOk.of rfl (AV.Le.bool (hfalse fun k => k.nz h))
  · rename_i h; exact RetOk.of rfl (AV.Le.bool (hfalse fun k => h k.len))
  rename_i hc hz hlen
  refine AWP.loop (G := Nat) (fun i => i ≤ t.e.length ∧ EOk (t.e.take i)) (fun i => St.of [] [(1, aN vars), (2, .ptr 2 0), (5, aN i)] [(2, .cells (eT t) 68)]) (fun i => t.e.length - i) 0 ⟨by omega, fun e he => by simp at he⟩ ?_ ?_
  · refine Ent.of [] ?_ ?_ rfl rfl
    repeat' (first | exact True.intro |refine ⟨⟨AV.Le.refl _, rfl⟩, ?_⟩ |refine ⟨⟨⟨_, rfl, BLe.cells (LeL.refl _)⟩, rfl⟩, ?_⟩ |refine ⟨⟨⟨_, rfl, BLe.row rfl⟩, rfl⟩, ?_⟩ |refine ⟨⟨⟨_, rfl, BLe.row ?_⟩, rfl⟩, ?_⟩ |refine ⟨⟨⟨_, rfl, BLe.cells ?_⟩, rfl⟩, ?_⟩ |refine ⟨⟨AV.Le.int ?_, rfl⟩, ?_⟩ |refine ⟨⟨AV.Le.bool ?_, rfl⟩, ?_⟩ |refine ⟨⟨AV.Le.sl ?_, rfl⟩, ?_⟩ |refine ⟨⟨AV.Le.of_eq ?_, rfl⟩, ?_⟩ | fail)
  · intro i ⟨k0, k1⟩
    repeat' (first |refine Fl.v rfl rfl rfl ?_ |refine Fl.nilF ?_ |refine AWP.seq ?_ |refine AWP.region ?_ |refine Fl.w rfl rfl rfl (by first | exact True.intro | omega) ?_ |refine Fl.skip rfl rfl ?_ |refine AWP.condT rfl ?_ |(refine AWP.condD rfl ?_ ?_ <;> intro _ <;> try (exfalso; omega)) |refine AWP.block ?_ |refine AWP.skip ?_ |refine AWP.exit ?_ |refine AWP.ret ?_ |refine Fl.elK rfl rfl rfl rfl rfl rfl rfl rfl (by assumption) (by omega) ?_ |(refine Fl.el rfl rfl rfl rfl rfl rfl rfl rfl (by omega) (by omega) ?_; intro _ _) |(refine Fl.splitD rfl rfl ?_ ?_ <;> intro _ <;> try (exfalso; omega)) |fail)
    · rename_i hi e he h0
      rw [Int.toNat_natCast] at he
      exact RetOk.of rfl (AV.Le.bool (hfalse fun k => by have := k.exps.get he; omega))
    · rename_i hi e he h0 h1
      rw [Int.toNat_natCast] at he
      exact RetOk.of rfl (AV.Le.bool (hfalse fun k => by have := k.exps.get he; omega))
    · rename_i hi e he h0 h1
      rw [Int.toNat_natCast] at he
      refine LoopEnd.of (i + 1) ⟨by omega, ?_⟩ (by omega) ?_
      · rw [take_snoc he]
        intro x hx
        rcases List.mem_append.1 hx with hx | hx
        · exact k1 x hx
        · simp only [List.mem_singleton] at hx; subst hx; omega
      · refine Ent.of [] ?_ ?_ rfl rfl
        repeat' (first | exact True.intro |refine ⟨⟨AV.Le.refl _, rfl⟩, ?_⟩ |refine ⟨⟨⟨_, rfl, BLe.cells (LeL.refl _)⟩, rfl⟩, ?_⟩ |refine ⟨⟨⟨_, rfl, BLe.row rfl⟩, rfl⟩, ?_⟩ |refine ⟨⟨⟨_, rfl, BLe.row ?_⟩, rfl⟩, ?_⟩ |refine ⟨⟨⟨_, rfl, BLe.cells ?_⟩, rfl⟩, ?_⟩ |refine ⟨⟨AV.Le.int ?_, rfl⟩, ?_⟩ |refine ⟨⟨AV.Le.bool ?_, rfl⟩, ?_⟩ |refine ⟨⟨AV.Le.sl ?_, rfl⟩, ?_⟩ |refine ⟨⟨AV.Le.of_eq ?_, rfl⟩, ?_⟩ | fail)
    · rename_i hi
      have hee : EOk t.e := by rwa [List.take_of_length_le (by omega)] at k1
      refine Fl.call rfl (rdegree_ok t.e hee (by omega)) rfl rfl rfl (LeL.refl _) ?_
      repeat' (first |refine Fl.v rfl rfl rfl ?_ |refine Fl.nilF ?_ |refine AWP.ret ?_ |fail)
      refine RetOk.of rfl (AV.Le.bool ?_)
      cases b with
      | true => exact decide_eq_true (hb.1 rfl).deg
      | false => exact decide_eq_false fun k => by have := hb.2 ⟨hc, hz, hlen, hee, k⟩; cases this
theorem rpValid_ok (p : PZ) (hw : WP p) (hl : WLP p) (b : Bool) (hb : b = true ↔ OkP p) : PureFn Tryz.prog 57 [aP p] (aB b) := by
  refine PureFn.of_body Tryz.func57 rfl Tryz.ntmps57 rfl rfl ?_
  have hfalse : ¬ OkP p → false = b := fun h => by cases b with | false => rfl | true => exact absurd (hb.1 rfl) h
  obtain ⟨f, hf⟩ := boolOf (fun t : TZ => OkT p.vars t)
  repeat' (first |refine Fl.v rfl rfl rfl ?_ |refine Fl.nilF ?_ |refine AWP.seq ?_ |refine AWP.region ?_ |refine Fl.b rfl rfl rfl rfl ?_ |refine Fl.skip rfl rfl ?_ |refine AWP.condT rfl ?_ |(refine AWP.condD rfl ?_ ?_ <;> intro _ <;> try (exfalso; omega)) |refine AWP.block ?_ |refine AWP.skip ?_ |refine AWP.ret ?_ |(refine Fl.splitD rfl rfl ?_ ?_ <;> intro _ <;> try (exfalso; omega)) |fail)
  · rename_i h; exact RetOk.of rfl (AV.Le.bool (hfalse fun k => by have := k.v0; omega))
  · rename_i h; exact RetOk.of rfl (AV.Le.bool (hfalse fun k => by have := k.v1; omega))
  · rename_i h; exact RetOk.of rfl (AV.Le.bool (hfalse fun k => by have := k.len; omega))
  rename_i hv0 hv1 hlen
  refine AWP.loop (G := Nat) (fun i => i ≤ p.terms.length ∧ (∀ t ∈ p.terms.take i, OkT p.vars t) ∧ ∀ (j : Nat) (a b : TZ), j + 1 < i → p.terms[j]? = some a → p.terms[j + 1]? = some b → ordI a.e b.e < 0)
    (fun i => St.of [] [(1, .ptr 1 0), (3, aN i)] [(1, .cells [aN p.vars, .sl 3 eT p.terms] 45)]) (fun i => p.terms.length - i) 0 ⟨by omega, by simp, fun j a b h => by omega⟩ ?_ ?_
  · refine Ent.of [] ?_ ?_ rfl rfl
    repeat' (first | exact True.intro |refine ⟨⟨AV.Le.refl _, rfl⟩, ?_⟩ |refine ⟨⟨⟨_, rfl, BLe.cells (LeL.refl _)⟩, rfl⟩, ?_⟩ |refine ⟨⟨⟨_, rfl, BLe.row rfl⟩, rfl⟩, ?_⟩ |refine ⟨⟨⟨_, rfl, BLe.row ?_⟩, rfl⟩, ?_⟩ |refine ⟨⟨⟨_, rfl, BLe.cells ?_⟩, rfl⟩, ?_⟩ |refine ⟨⟨AV.Le.int ?_, rfl⟩, ?_⟩ |refine ⟨⟨AV.Le.bool ?_, rfl⟩, ?_⟩ |refine ⟨⟨AV.Le.sl ?_, rfl⟩, ?_⟩ |refine ⟨⟨AV.Le.of_eq ?_, rfl⟩, ?_⟩ | fail)
  · intro i ⟨k0, k1, k2⟩
    by_cases hi : i < p.terms.length
    · obtain ⟨t, ht⟩ : ∃ t, p.terms[i]? = some t := ⟨_, List.getElem?_eq_getElem hi⟩
      have htm := List.mem_of_getElem? ht
      have hall : ¬ OkT p.vars t → ¬ OkP p := fun h k => h (k.terms t htm)
      have hte := rterm_ok t p.vars (hw t htm) (hl.2 t htm) (by omega) (f t) (hf t)
      by_cases hot : OkT p.vars t
      · rw [(hf t).2 hot] at hte
        by_cases hi0 : 0 < i
        · obtain ⟨a, ha⟩ : ∃ a, p.terms[i - 1]? = some a := ⟨_, List.getElem?_eq_getElem (by omega)⟩
          have ha' : p.terms[((i : Int) - 1).toNat]? = some a := by rwa [show ((i : Int) - 1).toNat = i - 1 by omega]
          have hoa := k1 a (List.mem_of_getElem? (i := i - 1) (by rw [List.getElem?_take_of_lt (by omega)]; exact ha))
          have hleq : a.e.length = t.e.length := by have := hoa.len; have := hot.len; omega
          have hord := rOrder_ok a.e t.e hoa.exps hot.exps (by have := hoa.len; omega) hleq.symm
          have hone := rOrd_one hleq
          repeat' (first |refine Fl.v rfl rfl rfl ?_ |refine Fl.nilF ?_ |refine AWP.seq ?_ |refine AWP.region ?_ |(refine AWP.condD rfl ?_ ?_ <;> intro _ <;> try (exfalso; omega)) |refine AWP.block ?_ |refine AWP.skip ?_ |refine Fl.elK rfl rfl rfl rfl rfl rfl rfl rfl (by assumption) (by omega) ?_ |fail)
          refine Fl.call rfl (hte) rfl rfl rfl (LeL.refl _) ?_
          repeat' (first |refine Fl.v rfl rfl rfl ?_ |refine Fl.w rfl rfl rfl (by first | exact True.intro | omega) ?_ |refine Fl.elK rfl rfl rfl rfl rfl rfl rfl rfl (by assumption) (by omega) ?_ |(refine Fl.splitD rfl rfl ?_ ?_ <;> intro _ <;> try (exfalso; omega)) |fail)
          refine Fl.call rfl (hord) rfl rfl rfl (LeL.refl _) ?_
          repeat' (first |refine Fl.v rfl rfl rfl ?_ |refine Fl.nilF ?_ |refine Fl.nil (fun _ => by kernel_rfl) ?_ |refine AWP.seq ?_ |refine AWP.region ?_ |refine Fl.w rfl rfl rfl (by first | exact True.intro | omega) ?_ |(refine AWP.condN rfl ?_ ?_ <;> intro _ <;> try (exfalso; omega)) |refine AWP.skip ?_ |refine AWP.ret ?_ |fail)
          · rename_i ho
            refine RetOk.of rfl (AV.Le.bool (hfalse fun k => ho (hone.2 (k.ord (i - 1) a t ha (by rwa [show i - 1 + 1 = i by omega])))))
          · rename_i ho
            refine LoopEnd.of (i + 1) ⟨by omega, all_take_succ ht k1 hot, fun j a' b' hj h1 h2 => ?_⟩ (by omega) ?_
            · by_cases hji : j + 1 < i
              · exact k2 j a' b' hji h1 h2
              · have hj' : j = i - 1 := by omega
                subst hj'
                rw [ha] at h1; cases h1
                rw [show i - 1 + 1 = i by omega, ht] at h2; cases h2
                exact hone.1 ho
            · refine Ent.of [] ?_ ?_ rfl rfl
              repeat' (first | exact True.intro |refine ⟨⟨AV.Le.refl _, rfl⟩, ?_⟩ |refine ⟨⟨⟨_, rfl, BLe.cells (LeL.refl _)⟩, rfl⟩, ?_⟩ |refine ⟨⟨⟨_, rfl, BLe.row rfl⟩, rfl⟩, ?_⟩ |refine ⟨⟨⟨_, rfl, BLe.row ?_⟩, rfl⟩, ?_⟩ |refine ⟨⟨⟨_, rfl, BLe.cells ?_⟩, rfl⟩, ?_⟩ |refine ⟨⟨AV.Le.int ?_, rfl⟩, ?_⟩ |refine ⟨⟨AV.Le.bool ?_, rfl⟩, ?_⟩ |refine ⟨⟨AV.Le.sl ?_, rfl⟩, ?_⟩ |refine ⟨⟨AV.Le.of_eq ?_, rfl⟩, ?_⟩ | fail)
        · repeat' (first |refine Fl.v rfl rfl rfl ?_ |refine Fl.nilF ?_ |refine AWP.seq ?_ |refine AWP.region ?_ |(refine AWP.condD rfl ?_ ?_ <;> intro _ <;> try (exfalso; omega)) |refine AWP.block ?_ |refine AWP.skip ?_ |refine Fl.elK rfl rfl rfl rfl rfl rfl rfl rfl (by assumption) (by omega) ?_ |fail)
          refine Fl.call rfl (hte) rfl rfl rfl (LeL.refl _) ?_
          repeat' (first |refine Fl.v rfl rfl rfl ?_ |refine Fl.nilF ?_ |refine Fl.nil (fun _ => by kernel_rfl) ?_ |refine AWP.region ?_ |refine Fl.w rfl rfl rfl (by first | exact True.intro | omega) ?_ |refine Fl.skip rfl rfl ?_ |refine AWP.condF rfl ?_ |refine AWP.skip ?_ |(refine Fl.splitD rfl rfl ?_ ?_ <;> intro _ <;> try (exfalso; omega)) |fail)
          refine LoopEnd.of (i + 1) ⟨by omega, all_take_succ ht k1 hot, fun j a' b' hj h1 h2 => by omega⟩ (by omega) ?_
          refine Ent.of [] ?_ ?_ rfl rfl
          repeat' (first | exact True.intro |refine ⟨⟨AV.Le.refl _, rfl⟩, ?_⟩ |refine ⟨⟨⟨_, rfl, BLe.cells (LeL.refl _)⟩, rfl⟩, ?_⟩ |refine ⟨⟨⟨_, rfl, BLe.row rfl⟩, rfl⟩, ?_⟩ |refine ⟨⟨⟨_, rfl, BLe.row ?_⟩, rfl⟩, ?_⟩ |refine ⟨⟨⟨_, rfl, BLe.cells ?_⟩, rfl⟩, ?_⟩ |refine ⟨⟨AV.Le.int ?_, rfl⟩, ?_⟩ |refine ⟨⟨AV.Le.bool ?_, rfl⟩, ?_⟩ |refine ⟨⟨AV.Le.sl ?_, rfl⟩, ?_⟩ |refine ⟨⟨AV.Le.of_eq ?_, rfl⟩, ?_⟩ | fail)
      · rw [show f t = false from Bool.eq_false_iff.2 fun h => hot ((hf t).1 h)] at hte
        repeat' (first |refine Fl.v rfl rfl rfl ?_ |refine Fl.nilF ?_ |refine AWP.seq ?_ |refine AWP.region ?_ |(refine AWP.condD rfl ?_ ?_ <;> intro _ <;> try (exfalso; omega)) |refine AWP.block ?_ |refine AWP.skip ?_ |refine Fl.elK rfl rfl rfl rfl rfl rfl rfl rfl (by assumption) (by omega) ?_ |fail)
        refine Fl.call rfl (hte) rfl rfl rfl (LeL.refl _) ?_
        repeat' (first |refine Fl.v rfl rfl rfl ?_ |refine Fl.nilF ?_ |refine Fl.nil (fun _ => by kernel_rfl) ?_ |refine AWP.seq ?_ |refine AWP.region ?_ |refine Fl.skip rfl rfl ?_ |refine AWP.condT rfl ?_ |refine AWP.ret ?_ |fail)
        exact RetOk.of rfl (AV.Le.bool (hfalse (hall hot)))
    · repeat' (first |refine Fl.v rfl rfl rfl ?_ |refine Fl.nilF ?_ |refine AWP.seq ?_ |refine AWP.region ?_ |(refine AWP.condD rfl ?_ ?_ <;> intro _ <;> try (exfalso; omega)) |refine AWP.exit ?_ |refine AWP.ret ?_ |fail)
      refine RetOk.of rfl (AV.Le.bool (Eq.symm (hb.2 ⟨by omega, by omega, by omega, fun t ht => k1 t ?_, fun j a b ha hb => k2 j a b ?_ ha hb⟩)))
      · rwa [show i = p.terms.length by omega, List.take_length]
      · have := (List.getElem?_eq_some_iff.1 hb).1
        omega
end Go.Proofs.YtfkjhjgihbnegaaGreat
namespace Go.AL
def needJ (k : Int) : Int := if k = 0 then 1 else if k = 1 then 3 else if k = 2 then 3 else if k = 3 then 2 else -1
theorem needJ_iff (k : Int) (n : Nat) : (n : Int) = needJ k ↔ needI k ≠ 0 ∧ (n : Int) = needI k := by
  unfold needJ needI
  repeat' split
  all_goals omega
theorem needJ_le (k : Int) : needJ k ≤ 3 := by unfold needJ; repeat' split <;> omega
def WLL (l : LZ) : Prop := l.polys.length ≤ 9223372036854775807 ∧ ∀ p ∈ l.polys, WLP p
def WLS (s : SZ) : Prop := ∀ l ∈ s.links, WLL l
theorem incB_get {top : Int} : ∀ {l : List Int} {last : Int} {i : Nat} {v : Int}, incB last top l → l[i]? = some v → last < v ∧ v < top ∧ ∀ u, i ≠ 0 → l[i - 1]? = some u → u < v
  | [], _, _, _, _, h => by simp at h
  | x :: l, last, 0, v, ⟨h1, h2, h3⟩, h => by
    simp at h; subst h
    exact ⟨h1, h2, fun u h => absurd rfl h⟩
  | x :: l, last, i + 1, v, ⟨h1, h2, h3⟩, h => by
    have h' : l[i]? = some v := by simpa using h
    obtain ⟨g1, g2, g3⟩ := incB_get h3 h'
    refine ⟨by omega, g2, fun u _ hu => ?_⟩
    cases i with
    | zero => simp at hu; omega
    | succ i => exact g3 u (by omega) (by simpa using hu)
theorem incB_snoc {top : Int} : ∀ {l : List Int} {last v : Int}, incB last top l → last < v → v < top → (∀ u ∈ l.getLast?, u < v) → incB last top (l ++ [v])
  | [], last, v, _, h1, h2, _ => ⟨h1, h2, trivial⟩
  | x :: l, last, v, ⟨g1, g2, g3⟩, h1, h2, h => by
    cases l with
    | nil => exact ⟨g1, g2, h x rfl, h2, trivial⟩
    | cons y l =>
      refine ⟨g1, g2, incB_snoc g3 ?_ h2 (by simpa using h)⟩
      have hl : ∀ u ∈ (y :: l), x < u := fun u hu => (incB_mem g3 hu).1
      have := h ((y :: l).getLast (by simp)) (by simp [List.getLast?_cons_cons, List.getLast?_eq_some_getLast (l := y :: l) (by simp)])
      have := hl _ (List.getLast_mem (l := y :: l) (by simp))
      omega
end Go.AL
namespace Go.Proofs.YtfkjhjgihbnegaaGreat
open Go.AL

theorem rneeds_ok (k : Int) : PureFn Tryz.prog 83 [aN k] (aN (needJ k)) := by
  refine PureFn.of_body Tryz.func83 rfl Tryz.ntmps83 rfl rfl ?_
  repeat' (first |refine Fl.v rfl rfl rfl ?_ |refine Fl.nilF ?_ |refine AWP.seq ?_ |refine AWP.region ?_ |(refine AWP.condD rfl ?_ ?_ <;> intro _ <;> try (exfalso; omega)) |refine AWP.block ?_ |refine AWP.skip ?_ |refine AWP.ret ?_ |fail)
  all_goals exact RetOk.of rfl (AV.Le.int (by unfold needJ; repeat' split <;> omega))

set_option maxHeartbeats 1000000 in
theorem rLink_ok (l : LZ) (vars : Int) (hw : WL l) (hl : WLL l) (b : Bool) (hb : b = true ↔ OkL vars l) : PureFn Tryz.prog 41 [aL l, aN vars] (aB b) := by
  refine PureFn.of_body Tryz.func41 rfl Tryz.ntmps41 rfl rfl ?_
  have hfalse : ¬ OkL vars l → false = b := fun h => by cases b with | false => rfl | true => exact absurd (hb.1 rfl) h
  obtain ⟨f, hf⟩ := boolOf (fun p : PZ => OkP p)
  have hnj := needJ_le l.kind
  have hni := needJ_iff l.kind l.polys.length
  repeat' (first |refine Fl.v rfl rfl rfl ?_ |refine Fl.nilF ?_ |refine Fl.nil (fun _ => by kernel_rfl) ?_ |refine AWP.seq ?_ |refine AWP.region ?_ |refine Fl.b rfl rfl rfl rfl ?_ |refine Fl.skip rfl rfl ?_ |refine AWP.condT rfl ?_ |refine AWP.ret ?_ |(refine Fl.splitD rfl rfl ?_ ?_ <;> intro _ <;> try (exfalso; omega)) |fail)
  · rename_i h; exact RetOk.of rfl (AV.Le.bool (hfalse fun k => by have := k.vlen; omega))
  refine Fl.call rfl (rneeds_ok l.kind) rfl rfl rfl (LeL.refl _) ?_
  repeat' (first |refine Fl.v rfl rfl rfl ?_ |refine Fl.nilF ?_ |refine Fl.nil (fun _ => by kernel_rfl) ?_ |refine AWP.seq ?_ |refine AWP.region ?_ |(refine AWP.condN rfl ?_ ?_ <;> intro _ <;> try (exfalso; omega)) |refine AWP.block ?_ |refine AWP.skip ?_ |refine AWP.ret ?_ |fail)
  · rename_i h; exact RetOk.of rfl (AV.Le.bool (hfalse fun k => h (hni.2 ⟨k.kind, k.len⟩)))
  rename_i hvl hlen
  obtain ⟨hk, hlen'⟩ := hni.1 (by omega)
  refine AWP.loop (G := Nat) (fun i => i ≤ l.vars.length ∧ incB (-1) vars (l.vars.take i)) (fun i => St.of [] [(1, aN vars), (2, .ptr 2 0), (5, aN i)] [(2, .cells (eL l) 51)]) (fun i => l.vars.length - i) 0 ⟨by omega, trivial⟩ ?_ ?_
  · refine Ent.of [] ?_ ?_ rfl rfl
    repeat' (first | exact True.intro |refine ⟨⟨AV.Le.refl _, rfl⟩, ?_⟩ |refine ⟨⟨⟨_, rfl, BLe.cells (LeL.refl _)⟩, rfl⟩, ?_⟩ |refine ⟨⟨⟨_, rfl, BLe.row rfl⟩, rfl⟩, ?_⟩ |refine ⟨⟨⟨_, rfl, BLe.row ?_⟩, rfl⟩, ?_⟩ |refine ⟨⟨⟨_, rfl, BLe.cells ?_⟩, rfl⟩, ?_⟩ |refine ⟨⟨AV.Le.int ?_, rfl⟩, ?_⟩ |refine ⟨⟨AV.Le.bool ?_, rfl⟩, ?_⟩ |refine ⟨⟨AV.Le.sl ?_, rfl⟩, ?_⟩ |refine ⟨⟨AV.Le.of_eq ?_, rfl⟩, ?_⟩ | fail)
  · intro i ⟨k0, k1⟩
    by_cases hi : i < l.vars.length
    · obtain ⟨v, hv⟩ : ∃ v, l.vars[i]? = some v := ⟨_, List.getElem?_eq_getElem hi⟩
      by_cases hv0 : v < 0
      · have hbad : false = b := hfalse fun k => by have := incB_get k.inc hv; omega
        repeat' (first |refine Fl.v rfl rfl rfl ?_ |refine Fl.nilF ?_ |refine Fl.nil (fun _ => by kernel_rfl) ?_ |refine AWP.seq ?_ |refine AWP.region ?_ |refine Fl.skip rfl rfl ?_ |refine AWP.condT rfl ?_ |(refine AWP.condD rfl ?_ ?_ <;> intro _ <;> try (exfalso; omega)) |refine AWP.block ?_ |refine AWP.skip ?_ |refine AWP.ret ?_ |refine Fl.elK rfl rfl rfl rfl rfl rfl rfl rfl (by assumption) (by omega) ?_ |(refine Fl.splitD rfl rfl ?_ ?_ <;> intro _ <;> try (exfalso; omega)) |fail)
        all_goals exact RetOk.of rfl (AV.Le.bool hbad)
      · by_cases hvt : vars ≤ v
        · have hbad : false = b := hfalse fun k => by have := incB_get k.inc hv; omega
          repeat' (first |refine Fl.v rfl rfl rfl ?_ |refine Fl.nilF ?_ |refine Fl.nil (fun _ => by kernel_rfl) ?_ |refine AWP.seq ?_ |refine AWP.region ?_ |refine Fl.skip rfl rfl ?_ |refine AWP.condT rfl ?_ |(refine AWP.condD rfl ?_ ?_ <;> intro _ <;> try (exfalso; omega)) |refine AWP.block ?_ |refine AWP.skip ?_ |refine AWP.ret ?_ |refine Fl.elK rfl rfl rfl rfl rfl rfl rfl rfl (by assumption) (by omega) ?_ |(refine Fl.splitD rfl rfl ?_ ?_ <;> intro _ <;> try (exfalso; omega)) |fail)
          all_goals exact RetOk.of rfl (AV.Le.bool hbad)
        · by_cases hi0 : 0 < i
          · obtain ⟨u, hu⟩ : ∃ u, l.vars[i - 1]? = some u := ⟨_, List.getElem?_eq_getElem (by omega)⟩
            have hu' : l.vars[((i : Int) - 1).toNat]? = some u := by rwa [show ((i : Int) - 1).toNat = i - 1 by omega]
            by_cases huv : u < v
            · repeat' (first |refine Fl.v rfl rfl rfl ?_ |refine Fl.nilF ?_ |refine Fl.nil (fun _ => by kernel_rfl) ?_ |refine AWP.seq ?_ |refine AWP.region ?_ |refine Fl.w rfl rfl rfl (by first | exact True.intro | omega) ?_ |(refine AWP.condD rfl ?_ ?_ <;> intro _ <;> try (exfalso; omega)) |refine AWP.block ?_ |refine AWP.skip ?_ |refine Fl.elK rfl rfl rfl rfl rfl rfl rfl rfl (by assumption) (by omega) ?_ |(refine Fl.splitD rfl rfl ?_ ?_ <;> intro _ <;> try (exfalso; omega)) |fail)
              refine LoopEnd.of (i + 1) ⟨by omega, ?_⟩ (by omega) ?_
              · rw [take_snoc hv]
                refine incB_snoc k1 (by omega) (by omega) fun y hy => ?_
                rw [List.getLast?_eq_getElem?, List.length_take_of_le (by omega), List.getElem?_take_of_lt (by omega), hu] at hy
                injection hy with hy
                omega
              · refine Ent.of [] ?_ ?_ rfl rfl
                repeat' (first | exact True.intro |refine ⟨⟨AV.Le.refl _, rfl⟩, ?_⟩ |refine ⟨⟨⟨_, rfl, BLe.cells (LeL.refl _)⟩, rfl⟩, ?_⟩ |refine ⟨⟨⟨_, rfl, BLe.row rfl⟩, rfl⟩, ?_⟩ |refine ⟨⟨⟨_, rfl, BLe.row ?_⟩, rfl⟩, ?_⟩ |refine ⟨⟨⟨_, rfl, BLe.cells ?_⟩, rfl⟩, ?_⟩ |refine ⟨⟨AV.Le.int ?_, rfl⟩, ?_⟩ |refine ⟨⟨AV.Le.bool ?_, rfl⟩, ?_⟩ |refine ⟨⟨AV.Le.sl ?_, rfl⟩, ?_⟩ |refine ⟨⟨AV.Le.of_eq ?_, rfl⟩, ?_⟩ | fail)
            · have hbad : false = b := hfalse fun k => by have := (incB_get k.inc hv).2.2 u (by omega) hu; omega
              repeat' (first |refine Fl.v rfl rfl rfl ?_ |refine Fl.nilF ?_ |refine Fl.nil (fun _ => by kernel_rfl) ?_ |refine AWP.seq ?_ |refine AWP.region ?_ |refine Fl.w rfl rfl rfl (by first | exact True.intro | omega) ?_ |(refine AWP.condD rfl ?_ ?_ <;> intro _ <;> try (exfalso; omega)) |refine AWP.block ?_ |refine AWP.skip ?_ |refine AWP.ret ?_ |refine Fl.elK rfl rfl rfl rfl rfl rfl rfl rfl (by assumption) (by omega) ?_ |(refine Fl.splitD rfl rfl ?_ ?_ <;> intro _ <;> try (exfalso; omega)) |fail)
              all_goals exact RetOk.of rfl (AV.Le.bool hbad)
          · repeat' (first |refine Fl.v rfl rfl rfl ?_ |refine Fl.nilF ?_ |refine Fl.nil (fun _ => by kernel_rfl) ?_ |refine AWP.seq ?_ |refine AWP.region ?_ |refine Fl.w rfl rfl rfl (by first | exact True.intro | omega) ?_ |refine Fl.skip rfl rfl ?_ |refine AWP.condF rfl ?_ |(refine AWP.condD rfl ?_ ?_ <;> intro _ <;> try (exfalso; omega)) |refine AWP.block ?_ |refine AWP.skip ?_ |refine Fl.elK rfl rfl rfl rfl rfl rfl rfl rfl (by assumption) (by omega) ?_ |(refine Fl.splitD rfl rfl ?_ ?_ <;> intro _ <;> try (exfalso; omega)) |fail)
            refine LoopEnd.of (i + 1) ⟨by omega, ?_⟩ (by omega) ?_
            · rw [take_snoc hv, show i = 0 by omega, List.take_zero, List.nil_append]
              exact ⟨by omega, by omega, trivial⟩
            · refine Ent.of [] ?_ ?_ rfl rfl
              repeat' (first | exact True.intro |refine ⟨⟨AV.Le.refl _, rfl⟩, ?_⟩ |refine ⟨⟨⟨_, rfl, BLe.cells (LeL.refl _)⟩, rfl⟩, ?_⟩ |refine ⟨⟨⟨_, rfl, BLe.row rfl⟩, rfl⟩, ?_⟩ |refine ⟨⟨⟨_, rfl, BLe.row ?_⟩, rfl⟩, ?_⟩ |refine ⟨⟨⟨_, rfl, BLe.cells ?_⟩, rfl⟩, ?_⟩ |refine ⟨⟨AV.Le.int ?_, rfl⟩, ?_⟩ |refine ⟨⟨AV.Le.bool ?_, rfl⟩, ?_⟩ |refine ⟨⟨AV.Le.sl ?_, rfl⟩, ?_⟩ |refine ⟨⟨AV.Le.of_eq ?_, rfl⟩, ?_⟩ | fail)
    · have hinc : incB (-1) vars l.vars := by rwa [List.take_of_length_le (by omega)] at k1
      repeat' (first |refine Fl.v rfl rfl rfl ?_ |refine Fl.nilF ?_ |refine AWP.seq ?_ |refine AWP.region ?_ |(refine AWP.condD rfl ?_ ?_ <;> intro _ <;> try (exfalso; omega)) |refine AWP.block ?_ |refine AWP.exit ?_ |fail)
      refine AWP.loop (G := Nat) (fun i => i ≤ l.polys.length ∧ ∀ p ∈ l.polys.take i, p.vars = l.vars.length ∧ OkP p) (fun i => St.of [] [(2, .ptr 2 0), (6, aN i)] [(2, .cells (eL l) 51)]) (fun i => l.polys.length - i) 0 ⟨by omega, by simp⟩ ?_ ?_
      · refine Ent.of [] ?_ ?_ rfl rfl
        repeat' (first | exact True.intro |refine ⟨⟨AV.Le.refl _, rfl⟩, ?_⟩ |refine ⟨⟨⟨_, rfl, BLe.cells (LeL.refl _)⟩, rfl⟩, ?_⟩ |refine ⟨⟨⟨_, rfl, BLe.row rfl⟩, rfl⟩, ?_⟩ |refine ⟨⟨⟨_, rfl, BLe.row ?_⟩, rfl⟩, ?_⟩ |refine ⟨⟨⟨_, rfl, BLe.cells ?_⟩, rfl⟩, ?_⟩ |refine ⟨⟨AV.Le.int ?_, rfl⟩, ?_⟩ |refine ⟨⟨AV.Le.bool ?_, rfl⟩, ?_⟩ |refine ⟨⟨AV.Le.sl ?_, rfl⟩, ?_⟩ |refine ⟨⟨AV.Le.of_eq ?_, rfl⟩, ?_⟩ | fail)
      · clear k1 k0; intro i ⟨k0, k1⟩
        by_cases hi : i < l.polys.length
        · obtain ⟨p, hp⟩ : ∃ p, l.polys[i]? = some p := ⟨_, List.getElem?_eq_getElem hi⟩
          have hpm := List.mem_of_getElem? hp
          have hte := rpValid_ok p (hw p hpm) (hl.2 p hpm) (f p) (hf p)
          by_cases hpv : p.vars = l.vars.length
          · by_cases hop : OkP p
            · rw [(hf p).2 hop] at hte
              repeat' (first |refine Fl.v rfl rfl rfl ?_ |refine Fl.nilF ?_ |refine AWP.seq ?_ |refine AWP.region ?_ |(refine AWP.condD rfl ?_ ?_ <;> intro _ <;> try (exfalso; omega)) |refine AWP.block ?_ |refine AWP.skip ?_ |refine Fl.elK rfl rfl rfl rfl rfl rfl rfl rfl (by assumption) (by omega) ?_ |(refine Fl.splitN rfl rfl ?_ ?_ <;> intro _ <;> try (exfalso; omega)) |fail)
              refine Fl.call rfl (hte) rfl rfl rfl (LeL.refl _) ?_
              repeat' (first |refine Fl.v rfl rfl rfl ?_ |refine Fl.nilF ?_ |refine Fl.nil (fun _ => by kernel_rfl) ?_ |refine AWP.region ?_ |refine Fl.w rfl rfl rfl (by first | exact True.intro | omega) ?_ |refine AWP.condF rfl ?_ |refine AWP.skip ?_ |fail)
              refine LoopEnd.of (i + 1) ⟨by omega, all_take_succ hp k1 ⟨hpv, hop⟩⟩ (by omega) ?_
              refine Ent.of [] ?_ ?_ rfl rfl
              repeat' (first | exact True.intro |refine ⟨⟨AV.Le.refl _, rfl⟩, ?_⟩ |refine ⟨⟨⟨_, rfl, BLe.cells (LeL.refl _)⟩, rfl⟩, ?_⟩ |refine ⟨⟨⟨_, rfl, BLe.row rfl⟩, rfl⟩, ?_⟩ |refine ⟨⟨⟨_, rfl, BLe.row ?_⟩, rfl⟩, ?_⟩ |refine ⟨⟨⟨_, rfl, BLe.cells ?_⟩, rfl⟩, ?_⟩ |refine ⟨⟨AV.Le.int ?_, rfl⟩, ?_⟩ |refine ⟨⟨AV.Le.bool ?_, rfl⟩, ?_⟩ |refine ⟨⟨AV.Le.sl ?_, rfl⟩, ?_⟩ |refine ⟨⟨AV.Le.of_eq ?_, rfl⟩, ?_⟩ | fail)
            · rw [show f p = false from Bool.eq_false_iff.2 fun h => hop ((hf p).1 h)] at hte
              have hbad : false = b := hfalse fun k => hop (k.polys p hpm).2
              repeat' (first |refine Fl.v rfl rfl rfl ?_ |refine Fl.nilF ?_ |refine AWP.seq ?_ |refine AWP.region ?_ |(refine AWP.condD rfl ?_ ?_ <;> intro _ <;> try (exfalso; omega)) |refine AWP.block ?_ |refine AWP.skip ?_ |refine Fl.elK rfl rfl rfl rfl rfl rfl rfl rfl (by assumption) (by omega) ?_ |(refine Fl.splitN rfl rfl ?_ ?_ <;> intro _ <;> try (exfalso; omega)) |fail)
              refine Fl.call rfl (hte) rfl rfl rfl (LeL.refl _) ?_
              repeat' (first |refine Fl.v rfl rfl rfl ?_ |refine Fl.nilF ?_ |refine Fl.nil (fun _ => by kernel_rfl) ?_ |refine AWP.seq ?_ |refine AWP.region ?_ |refine AWP.condT rfl ?_ |refine AWP.ret ?_ |fail)
              exact RetOk.of rfl (AV.Le.bool hbad)
          · have hbad : false = b := hfalse fun k => hpv (k.polys p hpm).1
            repeat' (first |refine Fl.v rfl rfl rfl ?_ |refine Fl.nilF ?_ |refine Fl.nil (fun _ => by kernel_rfl) ?_ |refine AWP.seq ?_ |refine AWP.region ?_ |refine Fl.skip rfl rfl ?_ |refine AWP.condT rfl ?_ |(refine AWP.condD rfl ?_ ?_ <;> intro _ <;> try (exfalso; omega)) |refine AWP.block ?_ |refine AWP.skip ?_ |refine AWP.ret ?_ |refine Fl.elK rfl rfl rfl rfl rfl rfl rfl rfl (by assumption) (by omega) ?_ |(refine Fl.splitN rfl rfl ?_ ?_ <;> intro _ <;> try (exfalso; omega)) |fail)
            all_goals exact RetOk.of rfl (AV.Le.bool hbad)
        · rw [List.take_of_length_le (by omega)] at k1
          repeat' (first |refine Fl.v rfl rfl rfl ?_ |refine Fl.nilF ?_ |refine AWP.seq ?_ |refine AWP.region ?_ |(refine AWP.condD rfl ?_ ?_ <;> intro _ <;> try (exfalso; omega)) |refine AWP.exit ?_ |refine AWP.ret ?_ |fail)
          exact RetOk.of rfl (AV.Le.bool (Eq.symm (hb.2 ⟨hk, hlen', by omega, hinc, k1⟩)))

theorem r9Valid_ok (s : SZ) (hw : WS s) (hl : WLS s) (b : Bool) (hb : b = true ↔ OkS s) : PureFn Tryz.prog 12 [aS s] (aB b) := by
  refine PureFn.of_body Tryz.func12 rfl Tryz.ntmps12 rfl rfl ?_
  have hfalse : ¬ OkS s → false = b := fun h => by cases b with | false => rfl | true => exact absurd (hb.1 rfl) h
  obtain ⟨f, hf⟩ := boolOf (fun l : LZ => OkL s.vars l)
  repeat' (first |refine Fl.v rfl rfl rfl ?_ |refine Fl.nilF ?_ |refine AWP.seq ?_ |refine AWP.region ?_ |refine Fl.b rfl rfl rfl rfl ?_ |refine Fl.skip rfl rfl ?_ |refine AWP.condT rfl ?_ |(refine AWP.condD rfl ?_ ?_ <;> intro _ <;> try (exfalso; omega)) |refine AWP.block ?_ |refine AWP.skip ?_ |refine AWP.ret ?_ |(refine Fl.splitD rfl rfl ?_ ?_ <;> intro _ <;> try (exfalso; omega)) |fail)
  · rename_i h; exact RetOk.of rfl (AV.Le.bool (hfalse fun k => by have := k.v0; omega))
  · rename_i h; exact RetOk.of rfl (AV.Le.bool (hfalse fun k => by have := k.v1; omega))
  · rename_i h; exact RetOk.of rfl (AV.Le.bool (hfalse fun k => by have := k.len; omega))
  rename_i hv0 hv1 hlen
  refine AWP.loop (G := Nat) (fun i => i ≤ s.links.length ∧ ∀ t ∈ s.links.take i, OkL s.vars t)
    (fun i => St.of [] [(1, .ptr 1 0), (3, aN i)] [(1, .cells [aN s.vars, .sl 3 eL s.links] 24)]) (fun i => s.links.length - i) 0 ⟨by omega, by simp⟩ ?_ ?_
  · refine Ent.of [] ?_ ?_ rfl rfl
    repeat' (first | exact True.intro |refine ⟨⟨AV.Le.refl _, rfl⟩, ?_⟩ |refine ⟨⟨⟨_, rfl, BLe.cells (LeL.refl _)⟩, rfl⟩, ?_⟩ |refine ⟨⟨⟨_, rfl, BLe.row rfl⟩, rfl⟩, ?_⟩ |refine ⟨⟨⟨_, rfl, BLe.row ?_⟩, rfl⟩, ?_⟩ |refine ⟨⟨⟨_, rfl, BLe.cells ?_⟩, rfl⟩, ?_⟩ |refine ⟨⟨AV.Le.int ?_, rfl⟩, ?_⟩ |refine ⟨⟨AV.Le.bool ?_, rfl⟩, ?_⟩ |refine ⟨⟨AV.Le.sl ?_, rfl⟩, ?_⟩ |refine ⟨⟨AV.Le.of_eq ?_, rfl⟩, ?_⟩ | fail)
  · intro i ⟨k0, k1⟩
    by_cases hi : i < s.links.length
    · obtain ⟨t, ht⟩ : ∃ t, s.links[i]? = some t := ⟨_, List.getElem?_eq_getElem hi⟩
      have htm := List.mem_of_getElem? ht
      have hall : ¬ OkL s.vars t → ¬ OkS s := fun h k => h (k.links t htm)
      have hte := rLink_ok t s.vars (hw t htm) (hl t htm) (f t) (hf t)
      by_cases hot : OkL s.vars t
      · rw [(hf t).2 hot] at hte
        repeat' (first |refine Fl.v rfl rfl rfl ?_ |refine Fl.nilF ?_ |refine AWP.seq ?_ |refine AWP.region ?_ |(refine AWP.condD rfl ?_ ?_ <;> intro _ <;> try (exfalso; omega)) |refine AWP.block ?_ |refine AWP.skip ?_ |refine Fl.elK rfl rfl rfl rfl rfl rfl rfl rfl (by assumption) (by omega) ?_ |fail)
        refine Fl.call rfl (hte) rfl rfl rfl (LeL.refl _) ?_
        repeat' (first |refine Fl.v rfl rfl rfl ?_ |refine Fl.nilF ?_ |refine Fl.nil (fun _ => by kernel_rfl) ?_ |refine AWP.region ?_ |refine Fl.w rfl rfl rfl (by first | exact True.intro | omega) ?_ |refine AWP.condF rfl ?_ |refine AWP.skip ?_ |fail)
        refine LoopEnd.of (i + 1) ⟨by omega, all_take_succ ht k1 hot⟩ (by omega) ?_
        refine Ent.of [] ?_ ?_ rfl rfl
        repeat' (first | exact True.intro |refine ⟨⟨AV.Le.refl _, rfl⟩, ?_⟩ |refine ⟨⟨⟨_, rfl, BLe.cells (LeL.refl _)⟩, rfl⟩, ?_⟩ |refine ⟨⟨⟨_, rfl, BLe.row rfl⟩, rfl⟩, ?_⟩ |refine ⟨⟨⟨_, rfl, BLe.row ?_⟩, rfl⟩, ?_⟩ |refine ⟨⟨⟨_, rfl, BLe.cells ?_⟩, rfl⟩, ?_⟩ |refine ⟨⟨AV.Le.int ?_, rfl⟩, ?_⟩ |refine ⟨⟨AV.Le.bool ?_, rfl⟩, ?_⟩ |refine ⟨⟨AV.Le.sl ?_, rfl⟩, ?_⟩ |refine ⟨⟨AV.Le.of_eq ?_, rfl⟩, ?_⟩ | fail)
      · rw [show f t = false from Bool.eq_false_iff.2 fun h => hot ((hf t).1 h)] at hte
        repeat' (first |refine Fl.v rfl rfl rfl ?_ |refine Fl.nilF ?_ |refine AWP.seq ?_ |refine AWP.region ?_ |(refine AWP.condD rfl ?_ ?_ <;> intro _ <;> try (exfalso; omega)) |refine AWP.block ?_ |refine AWP.skip ?_ |refine Fl.elK rfl rfl rfl rfl rfl rfl rfl rfl (by assumption) (by omega) ?_ |fail)
        refine Fl.call rfl (hte) rfl rfl rfl (LeL.refl _) ?_
        repeat' (first |refine Fl.v rfl rfl rfl ?_ |refine Fl.nilF ?_ |refine Fl.nil (fun _ => by kernel_rfl) ?_ |refine AWP.seq ?_ |refine AWP.region ?_ |refine AWP.condT rfl ?_ |refine AWP.ret ?_ |fail)
        exact RetOk.of rfl (AV.Le.bool (hfalse (hall hot)))
    · repeat' (first |refine Fl.v rfl rfl rfl ?_ |refine Fl.nilF ?_ |refine AWP.seq ?_ |refine AWP.region ?_ |(refine AWP.condD rfl ?_ ?_ <;> intro _ <;> try (exfalso; omega)) |refine AWP.exit ?_ |refine AWP.ret ?_ |fail)
      refine RetOk.of rfl (AV.Le.bool (Eq.symm (hb.2 ⟨by omega, by omega, by omega, fun t ht => k1 t ?_⟩)))
      rwa [show i = s.links.length by omega, List.take_length]
end Go.Proofs.YtfkjhjgihbnegaaGreat
namespace Go.AL
/-- the greater one, as the machine finds it -/
def mxI (a b : Int) : Int := if b > a then b else a
/-- what comes up where a term is computed, as ints reckon -/
def ldE (e : List Int) (zs : List Z) (n : Int) : Nat → Int
  | 0 => n
  | k + 1 => match e[k]?, zs[k]? with
    | some x, some z => w64 (ldE e zs n k + w64 (x * z.w.length))
    | _, _ => ldE e zs n k
def ldT (zs : List Z) (t : TZ) : Int := ldE t.e zs (t.c.w.length + 1) t.e.length
def ldP (zs : List Z) (ts : List TZ) : Int := ts.foldl (fun m t => mxI m (ldT zs t)) 0
def atZ (zs : List Z) (vs : List Int) : List Z := vs.map fun v => zs.getD v.toNat ⟨false, []⟩
def ldL (zs : List Z) (l : LZ) (m : Int) (ps : List PZ) : Int := ps.foldl (fun m p => mxI m (ldP (atZ zs l.vars) p.terms)) m
def ldS (zs : List Z) (ls : List LZ) : Int := ls.foldl (fun m l => ldL zs l m l.polys) 0
theorem ldP_snoc {zs : List Z} {ts : List TZ} {i : Nat} {t : TZ} (h : ts[i]? = some t) : ldP zs (ts.take (i + 1)) = mxI (ldP zs (ts.take i)) (ldT zs t) := by
  rw [take_snoc h]; simp [ldP, List.foldl_append]
theorem ldL_snoc {zs : List Z} {l : LZ} {m : Int} {ps : List PZ} {i : Nat} {p : PZ} (h : ps[i]? = some p) : ldL zs l m (ps.take (i + 1)) = mxI (ldL zs l m (ps.take i)) (ldP (atZ zs l.vars) p.terms) := by
  rw [take_snoc h]; simp [ldL, List.foldl_append]
theorem ldS_snoc {zs : List Z} {ls : List LZ} {i : Nat} {l : LZ} (h : ls[i]? = some l) : ldS zs (ls.take (i + 1)) = ldL zs l (ldS zs (ls.take i)) l.polys := by
  rw [take_snoc h]; simp [ldS, List.foldl_append]
theorem atZ_snoc {zs : List Z} {vs : List Int} {i : Nat} {v : Int} {z : Z} (h : vs[i]? = some v) (hx : zs[v.toNat]? = some z) : atZ zs (vs.take (i + 1)) = atZ zs (vs.take i) ++ [z] := by
  rw [take_snoc h]
  simp [atZ, hx]
end Go.AL
namespace Go.Proofs.YtfkjhjgihbnegaaGreat
open Go.AL

theorem rLoad_ok (p : PZ) (zs : List Z) (hp : OkP p) (hv : p.vars = zs.length) : PureFn Tryz.prog 29 [aP p, .sl 2 eZ zs] (aN (ldP zs p.terms)) := by
  refine PureFn.of_body Tryz.func29 rfl Tryz.ntmps29 rfl rfl ?_
  have hv1 := hp.v1
  have hlen := hp.len
  repeat' (first |refine Fl.v rfl rfl rfl ?_ |refine Fl.nilF ?_ |refine AWP.seq ?_ |refine AWP.region ?_ |refine Fl.b rfl rfl rfl rfl ?_ |refine AWP.block ?_ |fail)
  refine AWP.loop (G := Nat) (fun i => i ≤ p.terms.length) (fun i => St.of [] [(1, .sl 2 eZ zs), (2, .ptr 2 0), (5, aN (ldP zs (p.terms.take i))), (6, aN i)] [(2, .cells [aN p.vars, .sl 3 eT p.terms] 45)]) (fun i => p.terms.length - i) 0 (by omega) ?_ ?_
  · refine Ent.of [] ?_ ?_ rfl rfl
    repeat' (first | exact True.intro |refine ⟨⟨AV.Le.refl _, rfl⟩, ?_⟩ |refine ⟨⟨⟨_, rfl, BLe.cells (LeL.refl _)⟩, rfl⟩, ?_⟩ |refine ⟨⟨⟨_, rfl, BLe.row rfl⟩, rfl⟩, ?_⟩ |refine ⟨⟨⟨_, rfl, BLe.row ?_⟩, rfl⟩, ?_⟩ |refine ⟨⟨⟨_, rfl, BLe.cells ?_⟩, rfl⟩, ?_⟩ |refine ⟨⟨AV.Le.int ?_, rfl⟩, ?_⟩ |refine ⟨⟨AV.Le.bool ?_, rfl⟩, ?_⟩ |refine ⟨⟨AV.Le.sl ?_, rfl⟩, ?_⟩ |refine ⟨⟨AV.Le.of_eq ?_, rfl⟩, ?_⟩ | fail)
  · intro i k0
    by_cases hi : i < p.terms.length
    · obtain ⟨t, ht⟩ : ∃ t, p.terms[i]? = some t := ⟨_, List.getElem?_eq_getElem hi⟩
      have hot := hp.terms t (List.mem_of_getElem? ht)
      have hcl := hot.coef.1
      have htl := hot.len
      repeat' (first |refine Fl.v rfl rfl rfl ?_ |refine Fl.nilF ?_ |refine AWP.seq ?_ |refine AWP.region ?_ |refine Fl.w rfl rfl rfl (by first | exact True.intro | omega) ?_ |(refine AWP.condD rfl ?_ ?_ <;> intro _ <;> try (exfalso; omega)) |refine AWP.block ?_ |refine AWP.skip ?_ |refine Fl.elK rfl rfl rfl rfl rfl rfl rfl rfl (by assumption) (by omega) ?_ |fail)
      refine AWP.loop (G := Nat) (fun k => k ≤ t.e.length) (fun k => St.of [] [(1, .sl 2 eZ zs), (2, .ptr 2 0), (5, aN (ldP zs (p.terms.take i))), (6, aN i), (7, aN (ldE t.e zs (t.c.w.length + 1) k)), (8, aN k)] [(2, .cells [aN p.vars, .sl 3 eT p.terms] 45)]) (fun k => t.e.length - k) 0 (by omega) ?_ ?_
      · refine Ent.of [] ?_ ?_ rfl rfl
        repeat' (first | exact True.intro |refine ⟨⟨AV.Le.refl _, rfl⟩, ?_⟩ |refine ⟨⟨⟨_, rfl, BLe.cells (LeL.refl _)⟩, rfl⟩, ?_⟩ |refine ⟨⟨⟨_, rfl, BLe.row rfl⟩, rfl⟩, ?_⟩ |refine ⟨⟨⟨_, rfl, BLe.row ?_⟩, rfl⟩, ?_⟩ |refine ⟨⟨⟨_, rfl, BLe.cells ?_⟩, rfl⟩, ?_⟩ |refine ⟨⟨AV.Le.int ?_, rfl⟩, ?_⟩ |refine ⟨⟨AV.Le.bool ?_, rfl⟩, ?_⟩ |refine ⟨⟨AV.Le.sl ?_, rfl⟩, ?_⟩ |refine ⟨⟨AV.Le.of_eq ?_, rfl⟩, ?_⟩ | fail)
      · intro k g0
        by_cases hk : k < t.e.length
        · obtain ⟨x, hx⟩ : ∃ x, t.e[k]? = some x := ⟨_, List.getElem?_eq_getElem hk⟩
          obtain ⟨z, hz⟩ : ∃ z, zs[k]? = some z := ⟨_, List.getElem?_eq_getElem (by omega)⟩
          repeat' (first |refine Fl.v rfl rfl rfl ?_ |refine Fl.nilF ?_ |refine Fl.nil (fun _ => by kernel_rfl) ?_ |refine AWP.seq ?_ |refine AWP.region ?_ |refine Fl.w rfl rfl rfl (by first | exact True.intro | omega) ?_ |refine Fl.sumS rfl rfl rfl rfl rfl rfl ?_ |(refine AWP.condD rfl ?_ ?_ <;> intro _ <;> try (exfalso; omega)) |refine AWP.block ?_ |refine AWP.skip ?_ |refine Fl.elK rfl rfl rfl rfl rfl rfl rfl rfl (by assumption) (by omega) ?_ |fail)
          refine LoopEnd.of (k + 1) (by omega) (by omega) ?_
          refine Ent.of [] ?_ ?_ rfl rfl
          repeat' (first | exact True.intro |refine ⟨⟨AV.Le.refl _, rfl⟩, ?_⟩ |refine ⟨⟨⟨_, rfl, BLe.cells (LeL.refl _)⟩, rfl⟩, ?_⟩ |refine ⟨⟨⟨_, rfl, BLe.row rfl⟩, rfl⟩, ?_⟩ |refine ⟨⟨⟨_, rfl, BLe.row ?_⟩, rfl⟩, ?_⟩ |refine ⟨⟨⟨_, rfl, BLe.cells ?_⟩, rfl⟩, ?_⟩ |refine ⟨⟨AV.Le.int ?_, rfl⟩, ?_⟩ |refine ⟨⟨AV.Le.bool ?_, rfl⟩, ?_⟩ |refine ⟨⟨AV.Le.sl ?_, rfl⟩, ?_⟩ |refine ⟨⟨AV.Le.of_eq ?_, rfl⟩, ?_⟩ | fail)
          simp only [ldE, hx, hz]
        · repeat' (first |refine Fl.v rfl rfl rfl ?_ |refine Fl.nilF ?_ |refine AWP.seq ?_ |refine AWP.region ?_ |refine Fl.w rfl rfl rfl (by first | exact True.intro | omega) ?_ |(refine AWP.condD rfl ?_ ?_ <;> intro _ <;> try (exfalso; omega)) |refine AWP.exit ?_ |fail)
          refine LoopEnd.of (i + 1) (by omega) (by omega) ?_
          refine Ent.of [] ?_ ?_ rfl rfl
          repeat' (first | exact True.intro |refine ⟨⟨AV.Le.refl _, rfl⟩, ?_⟩ |refine ⟨⟨⟨_, rfl, BLe.cells (LeL.refl _)⟩, rfl⟩, ?_⟩ |refine ⟨⟨⟨_, rfl, BLe.row rfl⟩, rfl⟩, ?_⟩ |refine ⟨⟨⟨_, rfl, BLe.row ?_⟩, rfl⟩, ?_⟩ |refine ⟨⟨⟨_, rfl, BLe.cells ?_⟩, rfl⟩, ?_⟩ |refine ⟨⟨AV.Le.int ?_, rfl⟩, ?_⟩ |refine ⟨⟨AV.Le.bool ?_, rfl⟩, ?_⟩ |refine ⟨⟨AV.Le.sl ?_, rfl⟩, ?_⟩ |refine ⟨⟨AV.Le.of_eq ?_, rfl⟩, ?_⟩ | fail)
          rw [ldP_snoc ht, ldT, show k = t.e.length by omega]
          rfl
    · repeat' (first |refine Fl.v rfl rfl rfl ?_ |refine Fl.nilF ?_ |refine AWP.seq ?_ |refine AWP.region ?_ |(refine AWP.condD rfl ?_ ?_ <;> intro _ <;> try (exfalso; omega)) |refine AWP.exit ?_ |refine AWP.ret ?_ |fail)
      refine RetOk.of rfl (AV.Le.int ?_)
      rw [List.take_of_length_le (by omega)]

theorem r9Load_ok (s : SZ) (zs : List Z) (hs : OkS s) (hv : (zs.length : Int) = s.vars) : PureFn Tryz.prog 30 [aS s, .sl 2 eZ zs] (aN (ldS zs s.links)) := by
  refine PureFn.of_body Tryz.func30 rfl Tryz.ntmps30 rfl rfl ?_
  have hv1 := hs.v1
  have hlen := hs.len
  repeat' (first |refine Fl.v rfl rfl rfl ?_ |refine Fl.nilF ?_ |refine AWP.seq ?_ |refine AWP.region ?_ |refine Fl.b rfl rfl rfl rfl ?_ |refine AWP.block ?_ |fail)
  refine AWP.loop (G := Nat) (fun i => i ≤ s.links.length) (fun i => St.of [] [(1, .sl 2 eZ zs), (2, .ptr 2 0), (5, aN (ldS zs (s.links.take i))), (6, aN i)] [(2, .cells [aN s.vars, .sl 3 eL s.links] 24)]) (fun i => s.links.length - i) 0 (by omega) ?_ ?_
  · refine Ent.of [] ?_ ?_ rfl rfl
    repeat' (first | exact True.intro |refine ⟨⟨AV.Le.refl _, rfl⟩, ?_⟩ |refine ⟨⟨⟨_, rfl, BLe.cells (LeL.refl _)⟩, rfl⟩, ?_⟩ |refine ⟨⟨⟨_, rfl, BLe.row rfl⟩, rfl⟩, ?_⟩ |refine ⟨⟨⟨_, rfl, BLe.row ?_⟩, rfl⟩, ?_⟩ |refine ⟨⟨⟨_, rfl, BLe.cells ?_⟩, rfl⟩, ?_⟩ |refine ⟨⟨AV.Le.int ?_, rfl⟩, ?_⟩ |refine ⟨⟨AV.Le.bool ?_, rfl⟩, ?_⟩ |refine ⟨⟨AV.Le.sl ?_, rfl⟩, ?_⟩ |refine ⟨⟨AV.Le.of_eq ?_, rfl⟩, ?_⟩ | fail)
  · intro i k0
    by_cases hi : i < s.links.length
    · obtain ⟨l, hl⟩ : ∃ l, s.links[i]? = some l := ⟨_, List.getElem?_eq_getElem hi⟩
      have hol := hs.links l (List.mem_of_getElem? hl)
      have hvl := hol.vlen
      have hn3 : needI l.kind ≤ 3 := by unfold needI; repeat' split <;> omega
      have hpl := hol.len
      repeat' (first |refine Fl.v rfl rfl rfl ?_ |refine Fl.nilF ?_ |refine AWP.seq ?_ |refine AWP.region ?_ |(refine AWP.condD rfl ?_ ?_ <;> intro _ <;> try (exfalso; omega)) |refine AWP.block ?_ |refine AWP.skip ?_ |fail)
      refine AWP.ent (Ent.nilrow 7 807 rfl rfl 2 eZ 58) ?_
      refine AWP.loop (G := Nat) (fun k => k ≤ l.vars.length) (fun k => St.of [] [(1, .sl 2 eZ zs), (2, .ptr 2 0), (5, aN (ldS zs (s.links.take i))), (6, aN i), (7, .row 7), (8, aN k)] [(2, .cells [aN s.vars, .sl 3 eL s.links] 24), (7, .row 2 eZ (atZ zs (l.vars.take k)) 58)]) (fun k => l.vars.length - k) 0 (by omega) ?_ ?_
      · refine Ent.of [(7, 807)] ?_ ?_ rfl rfl
        repeat' (first | exact True.intro |refine ⟨⟨AV.Le.refl _, rfl⟩, ?_⟩ |refine ⟨⟨⟨_, rfl, BLe.cells (LeL.refl _)⟩, rfl⟩, ?_⟩ |refine ⟨⟨⟨_, rfl, BLe.row rfl⟩, rfl⟩, ?_⟩ |refine ⟨⟨⟨_, rfl, BLe.row ?_⟩, rfl⟩, ?_⟩ |refine ⟨⟨⟨_, rfl, BLe.cells ?_⟩, rfl⟩, ?_⟩ |refine ⟨⟨AV.Le.int ?_, rfl⟩, ?_⟩ |refine ⟨⟨AV.Le.bool ?_, rfl⟩, ?_⟩ |refine ⟨⟨AV.Le.sl ?_, rfl⟩, ?_⟩ |refine ⟨⟨AV.Le.of_eq ?_, rfl⟩, ?_⟩ | fail)
      · intro k g0
        have hli : (atZ zs (l.vars.take k)).length = k := by simp [atZ]; omega
        by_cases hk : k < l.vars.length
        · obtain ⟨v, hv⟩ : ∃ v, l.vars[k]? = some v := ⟨_, List.getElem?_eq_getElem hk⟩
          have hvb := incB_mem hol.inc (List.mem_of_getElem? hv)
          obtain ⟨z, hz⟩ : ∃ z, zs[v.toNat]? = some z := ⟨_, List.getElem?_eq_getElem (by omega)⟩
          repeat' (first |refine Fl.v rfl rfl rfl ?_ |refine Fl.nilF ?_ |refine AWP.seq ?_ |refine AWP.region ?_ |(refine AWP.condD rfl ?_ ?_ <;> intro _ <;> try (exfalso; omega)) |refine AWP.block ?_ |refine AWP.skip ?_ |refine Fl.elK rfl rfl rfl rfl rfl rfl rfl rfl (by assumption) (by omega) ?_ |fail)
          refine Fl.lit rfl rfl rfl rfl rfl eZ [z] rfl rfl rfl rfl (by intro _ _; rfl) rfl ?_
          skip
          refine Fl.ap rfl rfl rfl rfl rfl rfl rfl rfl rfl rfl rfl rfl rfl (fun _ => rfl) (fun _ => rfl) (AV.Le.refl _) (by dsimp only [List.length_nil, List.length_cons]; omega) (by simp; omega) ?_
          repeat' (first |refine Fl.v rfl rfl rfl ?_ |refine Fl.nilF ?_ |refine AWP.region ?_ |refine Fl.w rfl rfl rfl (by first | exact True.intro | omega) ?_ |fail)
          refine LoopEnd.of (k + 1) (by omega) (by omega) ?_
          refine Ent.of [(7, 42)] ?_ ?_ rfl rfl
          repeat' (first | exact True.intro |refine ⟨⟨AV.Le.refl _, rfl⟩, ?_⟩ |refine ⟨⟨⟨_, rfl, BLe.cells (LeL.refl _)⟩, rfl⟩, ?_⟩ |refine ⟨⟨⟨_, rfl, BLe.row rfl⟩, rfl⟩, ?_⟩ |refine ⟨⟨⟨_, rfl, BLe.row ?_⟩, rfl⟩, ?_⟩ |refine ⟨⟨⟨_, rfl, BLe.cells ?_⟩, rfl⟩, ?_⟩ |refine ⟨⟨AV.Le.int ?_, rfl⟩, ?_⟩ |refine ⟨⟨AV.Le.bool ?_, rfl⟩, ?_⟩ |refine ⟨⟨AV.Le.sl ?_, rfl⟩, ?_⟩ |refine ⟨⟨AV.Le.of_eq ?_, rfl⟩, ?_⟩ | fail)
          exact (atZ_snoc hv hz).symm
        · have hti : l.vars.take k = l.vars := List.take_of_length_le (by omega)
          refine AWP.ent (Ent.freeze 7 rfl) ?_
          repeat' (first |refine Fl.v rfl rfl rfl ?_ |refine Fl.nilF ?_ |refine AWP.seq ?_ |refine AWP.region ?_ |(refine AWP.condD rfl ?_ ?_ <;> intro _ <;> try (exfalso; omega)) |refine AWP.block ?_ |refine AWP.exit ?_ |refine Fl.elK rfl rfl rfl rfl rfl rfl rfl rfl (by assumption) (by omega) ?_ |fail)
          refine AWP.loop (G := Nat) (fun j => j ≤ l.polys.length) (fun j => St.of [] [(1, .sl 2 eZ zs), (2, .ptr 2 0), (5, aN (ldL zs l (ldS zs (s.links.take i)) (l.polys.take j))), (6, aN i), (7, .sl 2 eZ (atZ zs l.vars)), (9, aN j)] [(2, .cells [aN s.vars, .sl 3 eL s.links] 24)]) (fun j => l.polys.length - j) 0 (by omega) ?_ ?_
          · refine Ent.of [] ?_ ?_ rfl rfl
            repeat' (first | exact True.intro |refine ⟨⟨AV.Le.refl _, rfl⟩, ?_⟩ |refine ⟨⟨⟨_, rfl, BLe.cells (LeL.refl _)⟩, rfl⟩, ?_⟩ |refine ⟨⟨⟨_, rfl, BLe.row rfl⟩, rfl⟩, ?_⟩ |refine ⟨⟨⟨_, rfl, BLe.row ?_⟩, rfl⟩, ?_⟩ |refine ⟨⟨⟨_, rfl, BLe.cells ?_⟩, rfl⟩, ?_⟩ |refine ⟨⟨AV.Le.int ?_, rfl⟩, ?_⟩ |refine ⟨⟨AV.Le.bool ?_, rfl⟩, ?_⟩ |refine ⟨⟨AV.Le.sl ?_, rfl⟩, ?_⟩ |refine ⟨⟨AV.Le.of_eq ?_, rfl⟩, ?_⟩ | fail)
            rw [hti]
          · clear g0; intro j g0
            by_cases hj : j < l.polys.length
            · obtain ⟨p, hp⟩ : ∃ p, l.polys[j]? = some p := ⟨_, List.getElem?_eq_getElem hj⟩
              have hop := hol.polys p (List.mem_of_getElem? hp)
              repeat' (first |refine Fl.v rfl rfl rfl ?_ |refine Fl.nilF ?_ |refine AWP.seq ?_ |refine AWP.region ?_ |(refine AWP.condD rfl ?_ ?_ <;> intro _ <;> try (exfalso; omega)) |refine AWP.block ?_ |refine AWP.skip ?_ |refine Fl.elK rfl rfl rfl rfl rfl rfl rfl rfl (by assumption) (by omega) ?_ |fail)
              refine Fl.call rfl (rLoad_ok p (atZ zs l.vars) hop.2 (by simp [atZ]; exact hop.1)) rfl rfl rfl (LeL.refl _) ?_
              repeat' (first |refine Fl.v rfl rfl rfl ?_ |refine Fl.nilF ?_ |refine AWP.region ?_ |refine Fl.w rfl rfl rfl (by first | exact True.intro | omega) ?_ |fail)
              refine LoopEnd.of (j + 1) (by omega) (by omega) ?_
              refine Ent.of [] ?_ ?_ rfl rfl
              repeat' (first | exact True.intro |refine ⟨⟨AV.Le.refl _, rfl⟩, ?_⟩ |refine ⟨⟨⟨_, rfl, BLe.cells (LeL.refl _)⟩, rfl⟩, ?_⟩ |refine ⟨⟨⟨_, rfl, BLe.row rfl⟩, rfl⟩, ?_⟩ |refine ⟨⟨⟨_, rfl, BLe.row ?_⟩, rfl⟩, ?_⟩ |refine ⟨⟨⟨_, rfl, BLe.cells ?_⟩, rfl⟩, ?_⟩ |refine ⟨⟨AV.Le.int ?_, rfl⟩, ?_⟩ |refine ⟨⟨AV.Le.bool ?_, rfl⟩, ?_⟩ |refine ⟨⟨AV.Le.sl ?_, rfl⟩, ?_⟩ |refine ⟨⟨AV.Le.of_eq ?_, rfl⟩, ?_⟩ | fail)
              exact (ldL_snoc hp).symm
            · repeat' (first |refine Fl.v rfl rfl rfl ?_ |refine Fl.nilF ?_ |refine AWP.seq ?_ |refine AWP.region ?_ |refine Fl.w rfl rfl rfl (by first | exact True.intro | omega) ?_ |(refine AWP.condD rfl ?_ ?_ <;> intro _ <;> try (exfalso; omega)) |refine AWP.exit ?_ |refine Fl.elK rfl rfl rfl rfl rfl rfl rfl rfl (by assumption) (by omega) ?_ |fail)
              refine LoopEnd.of (i + 1) (by omega) (by omega) ?_
              refine Ent.of [] ?_ ?_ rfl rfl
              repeat' (first | exact True.intro |refine ⟨⟨AV.Le.refl _, rfl⟩, ?_⟩ |refine ⟨⟨⟨_, rfl, BLe.cells (LeL.refl _)⟩, rfl⟩, ?_⟩ |refine ⟨⟨⟨_, rfl, BLe.row rfl⟩, rfl⟩, ?_⟩ |refine ⟨⟨⟨_, rfl, BLe.row ?_⟩, rfl⟩, ?_⟩ |refine ⟨⟨⟨_, rfl, BLe.cells ?_⟩, rfl⟩, ?_⟩ |refine ⟨⟨AV.Le.int ?_, rfl⟩, ?_⟩ |refine ⟨⟨AV.Le.bool ?_, rfl⟩, ?_⟩ |refine ⟨⟨AV.Le.sl ?_, rfl⟩, ?_⟩ |refine ⟨⟨AV.Le.of_eq ?_, rfl⟩, ?_⟩ | fail)
              rw [ldS_snoc hl, show l.polys.take j = l.polys from List.take_of_length_le (by omega)]
    · repeat' (first |refine Fl.v rfl rfl rfl ?_ |refine Fl.nilF ?_ |refine AWP.seq ?_ |refine AWP.region ?_ |(refine AWP.condD rfl ?_ ?_ <;> intro _ <;> try (exfalso; omega)) |refine AWP.exit ?_ |refine AWP.ret ?_ |fail)
      refine RetOk.of rfl (AV.Le.int ?_)
      rw [List.take_of_length_le (by omega)]
end Go.Proofs.YtfkjhjgihbnegaaGreat
namespace Go.AL
/-- what is counted, as ints reckon -/
def cnT (n : Int) (t : TZ) : Int := if n ≤ 6000 then w64 (w64 (n + t.e.length) + t.c.w.length) else n
def cnP (n : Int) (p : PZ) : Int := if n ≤ 6000 then p.terms.foldl cnT (w64 (n + p.terms.length)) else n
def cnL0 (n : Int) (l : LZ) : Int := w64 (w64 (n + l.vars.length) + l.polys.length)
def cnL (n : Int) (l : LZ) : Int := l.polys.foldl cnP (cnL0 n l)
def cnB : List LZ → Int → Bool
  | [], _ => true
  | l :: ls, n => if 6000 < cnL n l then false else cnB ls (cnL n l)
def lightB (b : Bool) (s : SZ) (zs : List Z) (most : Int) : Bool :=
  if 400 < s.links.length then false else if 20100 < zs.length then false else if cnB s.links 0 = false then false else if b = false then true else if (zs.length : Int) = s.vars then decide (ldS zs s.links ≤ most) else true
theorem foldl_stuck {α : Type} {f : Int → α → Int} (hf : ∀ n x, 6000 < n → f n x = n) : ∀ (l : List α) (n : Int), 6000 < n → l.foldl f n = n
  | [], _, _ => rfl
  | x :: l, n, h => by rw [List.foldl_cons, hf n x h]; exact foldl_stuck hf l n h
theorem foldl_stop {α : Type} {f : Int → α → Int} (hf : ∀ n x, 6000 < n → f n x = n) (l : List α) (n : Int) (i : Nat) (h : 6000 < (l.take i).foldl f n) : l.foldl f n = (l.take i).foldl f n := by
  rw [show l.foldl f n = (l.take i ++ l.drop i).foldl f n by rw [List.take_append_drop], List.foldl_append]
  exact foldl_stuck hf _ _ h
theorem foldl_snoc {α β : Type} {f : β → α → β} {l : List α} {n : β} {i : Nat} {x : α} (h : l[i]? = some x) : (l.take (i + 1)).foldl f n = f ((l.take i).foldl f n) x := by
  rw [take_snoc h]; simp [List.foldl_append]
theorem cnT_stuck (n : Int) (t : TZ) (h : 6000 < n) : cnT n t = n := if_neg (by omega)
theorem cnP_stuck (n : Int) (t : PZ) (h : 6000 < n) : cnP n t = n := if_neg (by omega)
theorem cnT_go {n : Int} {t : TZ} (h : n ≤ 6000) : cnT n t = w64 (w64 (n + t.e.length) + t.c.w.length) := if_pos h
theorem cnP_go {n : Int} {p : PZ} (h : n ≤ 6000) : cnP n p = p.terms.foldl cnT (w64 (n + p.terms.length)) := if_pos h
theorem drop_get {α : Type} {l : List α} {i : Nat} {x : α} (h : l[i]? = some x) : l.drop i = x :: l.drop (i + 1) := by
  obtain ⟨h1, h2⟩ := List.getElem?_eq_some_iff.1 h
  rw [List.drop_eq_getElem_cons h1, h2]
theorem lightB_len {b : Bool} {s : SZ} {zs : List Z} {most : Int} (h : lightB b s zs most = true) : s.links.length ≤ 400 ∧ zs.length ≤ 20100 := by
  unfold lightB at h
  split at h
  · cases h
  · split at h
    · cases h
    · omega
end Go.AL
namespace Go.Proofs.YtfkjhjgihbnegaaGreat
open Go.AL

set_option maxHeartbeats 1000000 in
theorem Light_ok (s : SZ) (zs : List Z) (most : Int) (hw : WS s) (hwl : WLS s) (b : Bool) (hb : b = true ↔ OkS s) : PureFn Tryz.prog 17 [aS s, .sl 2 eZ zs, aN most] (aB (lightB b s zs most)) := by
  refine PureFn.of_body Tryz.func17 rfl Tryz.ntmps17 rfl rfl ?_
  repeat' (first |refine Fl.v rfl rfl rfl ?_ |refine Fl.nilF ?_ |refine AWP.seq ?_ |refine AWP.region ?_ |refine Fl.b rfl rfl rfl rfl ?_ |refine Fl.skip rfl rfl ?_ |refine AWP.condT rfl ?_ |(refine AWP.condD rfl ?_ ?_ <;> intro _ <;> try (exfalso; omega)) |refine AWP.block ?_ |refine AWP.skip ?_ |refine AWP.ret ?_ |(refine Fl.splitD rfl rfl ?_ ?_ <;> intro _ <;> try (exfalso; omega)) |fail)
  · rename_i h; exact RetOk.of rfl (AV.Le.bool (by unfold lightB; rw [if_pos (by omega)]))
  · rename_i h1 h2; exact RetOk.of rfl (AV.Le.bool (by unfold lightB; rw [if_neg (by omega), if_pos (by omega)]))
  rename_i h1 h2
  refine AWP.loop (G := Nat) (fun i => i ≤ s.links.length ∧ cnB (s.links.drop i) ((s.links.take i).foldl cnL 0) = cnB s.links 0) (fun i => St.of [] [(1, .sl 2 eZ zs), (2, aN most), (3, .ptr 3 0), (7, aN ((s.links.take i).foldl cnL 0)), (8, aN i)] [(3, .cells [aN s.vars, .sl 3 eL s.links] 24)]) (fun i => s.links.length - i) 0 ⟨by omega, by simp⟩ ?_ ?_
  · refine Ent.of [] ?_ ?_ rfl rfl
    repeat' (first | exact True.intro |refine ⟨⟨AV.Le.refl _, rfl⟩, ?_⟩ |refine ⟨⟨⟨_, rfl, BLe.cells (LeL.refl _)⟩, rfl⟩, ?_⟩ |refine ⟨⟨⟨_, rfl, BLe.row rfl⟩, rfl⟩, ?_⟩ |refine ⟨⟨⟨_, rfl, BLe.row ?_⟩, rfl⟩, ?_⟩ |refine ⟨⟨⟨_, rfl, BLe.cells ?_⟩, rfl⟩, ?_⟩ |refine ⟨⟨AV.Le.int ?_, rfl⟩, ?_⟩ |refine ⟨⟨AV.Le.bool ?_, rfl⟩, ?_⟩ |refine ⟨⟨AV.Le.sl ?_, rfl⟩, ?_⟩ |refine ⟨⟨AV.Le.of_eq ?_, rfl⟩, ?_⟩ | fail)
  · intro i ⟨k0, k1⟩
    by_cases hi : i < s.links.length
    · obtain ⟨l, hl⟩ : ∃ l, s.links[i]? = some l := ⟨_, List.getElem?_eq_getElem hi⟩
      obtain ⟨n, hn⟩ : ∃ n, n = (s.links.take i).foldl cnL 0 := ⟨_, rfl⟩
      have hwp := (hwl l (List.mem_of_getElem? hl)).1
      have hnn := foldl_snoc (f := cnL) (n := 0) hl
      rw [drop_get hl] at k1
      rw [← hn] at k1 hnn ⊢
      simp only [cnB] at k1
      repeat' (first |refine Fl.v rfl rfl rfl ?_ |refine Fl.nilF ?_ |refine Fl.nil (fun _ => by kernel_rfl) ?_ |refine AWP.seq ?_ |refine AWP.region ?_ |refine Fl.sumS rfl rfl rfl rfl rfl rfl ?_ |(refine AWP.condD rfl ?_ ?_ <;> intro _ <;> try (exfalso; omega)) |refine AWP.block ?_ |refine AWP.skip ?_ |refine Fl.elK rfl rfl rfl rfl rfl rfl rfl rfl (by assumption) (by omega) ?_ |fail)
      refine AWP.loop (G := Nat) (fun k => k ≤ l.polys.length) (fun k => St.of [] [(1, .sl 2 eZ zs), (2, aN most), (3, .ptr 3 0), (7, aN ((l.polys.take k).foldl cnP (cnL0 n l))), (8, aN i), (9, aN k)] [(3, .cells [aN s.vars, .sl 3 eL s.links] 24)]) (fun k => l.polys.length - k) 0 (by omega) ?_ ?_
      · refine Ent.of [] ?_ ?_ rfl rfl
        repeat' (first | exact True.intro |refine ⟨⟨AV.Le.refl _, rfl⟩, ?_⟩ |refine ⟨⟨⟨_, rfl, BLe.cells (LeL.refl _)⟩, rfl⟩, ?_⟩ |refine ⟨⟨⟨_, rfl, BLe.row rfl⟩, rfl⟩, ?_⟩ |refine ⟨⟨⟨_, rfl, BLe.row ?_⟩, rfl⟩, ?_⟩ |refine ⟨⟨⟨_, rfl, BLe.cells ?_⟩, rfl⟩, ?_⟩ |refine ⟨⟨AV.Le.int ?_, rfl⟩, ?_⟩ |refine ⟨⟨AV.Le.bool ?_, rfl⟩, ?_⟩ |refine ⟨⟨AV.Le.sl ?_, rfl⟩, ?_⟩ |refine ⟨⟨AV.Le.of_eq ?_, rfl⟩, ?_⟩ | fail)
      · intro k g0
        obtain ⟨m, hm⟩ : ∃ m, m = (l.polys.take k).foldl cnP (cnL0 n l) := ⟨_, rfl⟩
        rw [← hm]
        have hend : k = l.polys.length ∨ 6000 < m → cnL n l = m := by
          rintro (h | h)
          · rw [cnL, hm, h, List.take_length]
          · rw [cnL, hm]; rw [hm] at h; exact foldl_stop cnP_stuck _ _ _ h
        by_cases hk : k < l.polys.length ∧ m ≤ 6000
        · obtain ⟨hk, hm6⟩ := hk
          obtain ⟨p, hp⟩ : ∃ p, l.polys[k]? = some p := ⟨_, List.getElem?_eq_getElem hk⟩
          have hwt := ((hwl l (List.mem_of_getElem? hl)).2 p (List.mem_of_getElem? hp)).1
          have hmm := foldl_snoc (f := cnP) (n := cnL0 n l) hp
          rw [← hm, cnP_go hm6] at hmm
          repeat' (first |refine Fl.v rfl rfl rfl ?_ |refine Fl.nilF ?_ |refine AWP.seq ?_ |refine AWP.region ?_ |refine Fl.sumS rfl rfl rfl rfl rfl rfl ?_ |(refine AWP.condD rfl ?_ ?_ <;> intro _ <;> try (exfalso; omega)) |refine AWP.block ?_ |refine AWP.skip ?_ |refine Fl.elK rfl rfl rfl rfl rfl rfl rfl rfl (by assumption) (by omega) ?_ |(refine Fl.splitD rfl rfl ?_ ?_ <;> intro _ <;> try (exfalso; omega)) |fail)
          refine AWP.loop (G := Nat) (fun j => j ≤ p.terms.length) (fun j => St.of [] [(1, .sl 2 eZ zs), (2, aN most), (3, .ptr 3 0), (7, aN ((p.terms.take j).foldl cnT (w64 (m + p.terms.length)))), (8, aN i), (9, aN k), (10, .sl 3 eT p.terms), (11, aN j)] [(3, .cells [aN s.vars, .sl 3 eL s.links] 24)]) (fun j => p.terms.length - j) 0 (by omega) ?_ ?_
          · refine Ent.of [] ?_ ?_ rfl rfl
            repeat' (first | exact True.intro |refine ⟨⟨AV.Le.refl _, rfl⟩, ?_⟩ |refine ⟨⟨⟨_, rfl, BLe.cells (LeL.refl _)⟩, rfl⟩, ?_⟩ |refine ⟨⟨⟨_, rfl, BLe.row rfl⟩, rfl⟩, ?_⟩ |refine ⟨⟨⟨_, rfl, BLe.row ?_⟩, rfl⟩, ?_⟩ |refine ⟨⟨⟨_, rfl, BLe.cells ?_⟩, rfl⟩, ?_⟩ |refine ⟨⟨AV.Le.int ?_, rfl⟩, ?_⟩ |refine ⟨⟨AV.Le.bool ?_, rfl⟩, ?_⟩ |refine ⟨⟨AV.Le.sl ?_, rfl⟩, ?_⟩ |refine ⟨⟨AV.Le.of_eq ?_, rfl⟩, ?_⟩ | fail)
          · intro j g1
            obtain ⟨q, hq⟩ : ∃ q, q = (p.terms.take j).foldl cnT (w64 (m + p.terms.length)) := ⟨_, rfl⟩
            rw [← hq]
            by_cases hj : j < p.terms.length ∧ q ≤ 6000
            · obtain ⟨hj, hq6⟩ := hj
              obtain ⟨t, ht⟩ : ∃ t, p.terms[j]? = some t := ⟨_, List.getElem?_eq_getElem hj⟩
              have hqq := foldl_snoc (f := cnT) (n := w64 (m + p.terms.length)) ht
              rw [← hq, cnT_go hq6] at hqq
              repeat' (first |refine Fl.v rfl rfl rfl ?_ |refine Fl.nilF ?_ |refine Fl.nil (fun _ => by kernel_rfl) ?_ |refine AWP.seq ?_ |refine AWP.region ?_ |refine Fl.w rfl rfl rfl (by first | exact True.intro | omega) ?_ |refine Fl.sumS rfl rfl rfl rfl rfl rfl ?_ |(refine AWP.condD rfl ?_ ?_ <;> intro _ <;> try (exfalso; omega)) |refine AWP.block ?_ |refine AWP.skip ?_ |refine Fl.elK rfl rfl rfl rfl rfl rfl rfl rfl (by assumption) (by omega) ?_ |(refine Fl.splitD rfl rfl ?_ ?_ <;> intro _ <;> try (exfalso; omega)) |fail)
              refine LoopEnd.of (j + 1) (by omega) (by omega) ?_
              refine Ent.of [] ?_ ?_ rfl rfl
              repeat' (first | exact True.intro |refine ⟨⟨AV.Le.refl _, rfl⟩, ?_⟩ |refine ⟨⟨⟨_, rfl, BLe.cells (LeL.refl _)⟩, rfl⟩, ?_⟩ |refine ⟨⟨⟨_, rfl, BLe.row rfl⟩, rfl⟩, ?_⟩ |refine ⟨⟨⟨_, rfl, BLe.row ?_⟩, rfl⟩, ?_⟩ |refine ⟨⟨⟨_, rfl, BLe.cells ?_⟩, rfl⟩, ?_⟩ |refine ⟨⟨AV.Le.int ?_, rfl⟩, ?_⟩ |refine ⟨⟨AV.Le.bool ?_, rfl⟩, ?_⟩ |refine ⟨⟨AV.Le.sl ?_, rfl⟩, ?_⟩ |refine ⟨⟨AV.Le.of_eq ?_, rfl⟩, ?_⟩ | fail)
              exact hqq.symm
            · have hqe : (l.polys.take (k + 1)).foldl cnP (cnL0 n l) = q := by
                rw [hmm, hq]
                by_cases hj' : j < p.terms.length
                · exact foldl_stop cnT_stuck _ _ _ (by rw [← hq]; omega)
                · rw [List.take_of_length_le (by omega)]
              by_cases hj' : j < p.terms.length
              · repeat' (first |refine Fl.v rfl rfl rfl ?_ |refine Fl.nilF ?_ |refine AWP.seq ?_ |refine AWP.region ?_ |refine Fl.w rfl rfl rfl (by first | exact True.intro | omega) ?_ |(refine AWP.condD rfl ?_ ?_ <;> intro _ <;> try (exfalso; omega)) |refine AWP.exit ?_ |(refine Fl.splitD rfl rfl ?_ ?_ <;> intro _ <;> try (exfalso; omega)) |fail)
                refine LoopEnd.of (k + 1) (by omega) (by omega) ?_
                refine Ent.of [] ?_ ?_ rfl rfl
                repeat' (first | exact True.intro |refine ⟨⟨AV.Le.refl _, rfl⟩, ?_⟩ |refine ⟨⟨⟨_, rfl, BLe.cells (LeL.refl _)⟩, rfl⟩, ?_⟩ |refine ⟨⟨⟨_, rfl, BLe.row rfl⟩, rfl⟩, ?_⟩ |refine ⟨⟨⟨_, rfl, BLe.row ?_⟩, rfl⟩, ?_⟩ |refine ⟨⟨⟨_, rfl, BLe.cells ?_⟩, rfl⟩, ?_⟩ |refine ⟨⟨AV.Le.int ?_, rfl⟩, ?_⟩ |refine ⟨⟨AV.Le.bool ?_, rfl⟩, ?_⟩ |refine ⟨⟨AV.Le.sl ?_, rfl⟩, ?_⟩ |refine ⟨⟨AV.Le.of_eq ?_, rfl⟩, ?_⟩ | fail)
                exact hqe.symm
              · repeat' (first |refine Fl.v rfl rfl rfl ?_ |refine Fl.nilF ?_ |refine AWP.seq ?_ |refine AWP.region ?_ |refine Fl.w rfl rfl rfl (by first | exact True.intro | omega) ?_ |refine Fl.skip rfl rfl ?_ |refine AWP.condF rfl ?_ |refine AWP.exit ?_ |(refine Fl.splitD rfl rfl ?_ ?_ <;> intro _ <;> try (exfalso; omega)) |fail)
                refine LoopEnd.of (k + 1) (by omega) (by omega) ?_
                refine Ent.of [] ?_ ?_ rfl rfl
                repeat' (first | exact True.intro |refine ⟨⟨AV.Le.refl _, rfl⟩, ?_⟩ |refine ⟨⟨⟨_, rfl, BLe.cells (LeL.refl _)⟩, rfl⟩, ?_⟩ |refine ⟨⟨⟨_, rfl, BLe.row rfl⟩, rfl⟩, ?_⟩ |refine ⟨⟨⟨_, rfl, BLe.row ?_⟩, rfl⟩, ?_⟩ |refine ⟨⟨⟨_, rfl, BLe.cells ?_⟩, rfl⟩, ?_⟩ |refine ⟨⟨AV.Le.int ?_, rfl⟩, ?_⟩ |refine ⟨⟨AV.Le.bool ?_, rfl⟩, ?_⟩ |refine ⟨⟨AV.Le.sl ?_, rfl⟩, ?_⟩ |refine ⟨⟨AV.Le.of_eq ?_, rfl⟩, ?_⟩ | fail)
                exact hqe.symm
        · have hme := hend (by omega)
          rw [hme] at hnn k1
          have hno : 6000 < m → false = lightB b s zs most := fun h => by
            rw [if_pos h] at k1
            unfold lightB
            rw [if_neg (by omega), if_neg (by omega), if_pos k1.symm]
          by_cases hk' : k < l.polys.length
          · repeat' (first |refine Fl.v rfl rfl rfl ?_ |refine Fl.nilF ?_ |refine AWP.seq ?_ |refine AWP.region ?_ |(refine AWP.condD rfl ?_ ?_ <;> intro _ <;> try (exfalso; omega)) |refine AWP.exit ?_ |refine AWP.ret ?_ |refine Fl.elK rfl rfl rfl rfl rfl rfl rfl rfl (by assumption) (by omega) ?_ |(refine Fl.splitD rfl rfl ?_ ?_ <;> intro _ <;> try (exfalso; omega)) |fail)
            exact RetOk.of rfl (AV.Le.bool (hno (by omega)))
          · repeat' (first |refine Fl.v rfl rfl rfl ?_ |refine Fl.nilF ?_ |refine AWP.seq ?_ |refine AWP.region ?_ |refine Fl.w rfl rfl rfl (by first | exact True.intro | omega) ?_ |refine Fl.skip rfl rfl ?_ |refine AWP.condF rfl ?_ |(refine AWP.condD rfl ?_ ?_ <;> intro _ <;> try (exfalso; omega)) |refine AWP.skip ?_ |refine AWP.exit ?_ |refine AWP.ret ?_ |refine Fl.elK rfl rfl rfl rfl rfl rfl rfl rfl (by assumption) (by omega) ?_ |(refine Fl.splitD rfl rfl ?_ ?_ <;> intro _ <;> try (exfalso; omega)) |fail)
            · rename_i h; exact RetOk.of rfl (AV.Le.bool (hno h))
            · rename_i h
              rw [if_neg h] at k1
              refine LoopEnd.of (i + 1) ⟨by omega, by rw [hnn]; exact k1⟩ (by omega) ?_
              refine Ent.of [] ?_ ?_ rfl rfl
              repeat' (first | exact True.intro |refine ⟨⟨AV.Le.refl _, rfl⟩, ?_⟩ |refine ⟨⟨⟨_, rfl, BLe.cells (LeL.refl _)⟩, rfl⟩, ?_⟩ |refine ⟨⟨⟨_, rfl, BLe.row rfl⟩, rfl⟩, ?_⟩ |refine ⟨⟨⟨_, rfl, BLe.row ?_⟩, rfl⟩, ?_⟩ |refine ⟨⟨⟨_, rfl, BLe.cells ?_⟩, rfl⟩, ?_⟩ |refine ⟨⟨AV.Le.int ?_, rfl⟩, ?_⟩ |refine ⟨⟨AV.Le.bool ?_, rfl⟩, ?_⟩ |refine ⟨⟨AV.Le.sl ?_, rfl⟩, ?_⟩ |refine ⟨⟨AV.Le.of_eq ?_, rfl⟩, ?_⟩ | fail)
              exact hnn.symm
    · have hd : s.links.drop i = [] := List.drop_of_length_le (by omega)
      rw [hd] at k1
      have k1 : cnB s.links 0 = true := k1.symm
      have hB : lightB b s zs most = if b = false then true else if (zs.length : Int) = s.vars then decide (ldS zs s.links ≤ most) else true := by
        unfold lightB
        rw [if_neg (by omega), if_neg (by omega), if_neg (by rw [k1]; simp)]
      rw [hB]
      repeat' (first |refine Fl.v rfl rfl rfl ?_ |refine Fl.nilF ?_ |refine AWP.seq ?_ |refine AWP.region ?_ |(refine AWP.condD rfl ?_ ?_ <;> intro _ <;> try (exfalso; omega)) |refine AWP.exit ?_ |fail)
      refine Fl.call rfl (r9Valid_ok s hw hwl b hb) rfl rfl rfl (LeL.refl _) ?_
      repeat' (first |refine Fl.v rfl rfl rfl ?_ |refine Fl.nilF ?_ |refine AWP.seq ?_ |refine AWP.region ?_ |refine Fl.skip rfl rfl ?_ |refine AWP.condT rfl ?_ |(refine AWP.condN rfl ?_ ?_ <;> intro _ <;> try (exfalso; omega)) |refine AWP.skip ?_ |refine AWP.ret ?_ |(refine Fl.splitB rfl rfl ?_ ?_ <;> (fail_if_success (intro hb_; exact absurd hb_ (by decide))) <;> intro _) |fail)
      · rename_i h
        have h : (!b) = true := h
        refine RetOk.of rfl (AV.Le.bool ?_)
        rw [if_pos (by simpa using h)]
      · rename_i h h'
        have h : (!b) = false := h
        refine RetOk.of rfl (AV.Le.bool ?_)
        rw [if_neg (by simpa using h), if_neg h']
      · rename_i h h'
        have h : (!b) = false := h
        have hbt : b = true := by simpa using h
        refine Fl.call rfl (r9Load_ok s zs (hb.1 hbt) h') rfl rfl rfl (LeL.refl _) ?_
        repeat' (first |refine Fl.v rfl rfl rfl ?_ |refine Fl.nilF ?_ |refine AWP.ret ?_ |fail)
        refine RetOk.of rfl (AV.Le.bool ?_)
        rw [if_neg (by simp [hbt]), if_pos h']
end Go.Proofs.YtfkjhjgihbnegaaGreat
namespace Go.AL
/-- what a system in memory is -/
def TB (t : TZ) : Prop := ZB t.c
def PB (p : PZ) : Prop := (∀ t ∈ p.terms, TB t) ∧ p.terms.length ≤ maxLen
def LB (l : LZ) : Prop := (∀ p ∈ l.polys, PB p) ∧ l.polys.length ≤ maxLen
def SB (s : SZ) : Prop := ∀ l ∈ s.links, LB l
theorem SB.ws {s : SZ} (h : SB s) : WS s := fun l hl p hp t ht => (((h l hl).1 p hp).1 t ht).1
theorem SB.wls {s : SZ} (h : SB s) : WLS s := fun l hl => ⟨by have := (h l hl).2; simp only [maxLen] at this; omega, fun p hp => ⟨by have := ((h l hl).1 p hp).2; simp only [maxLen] at this; omega, fun t ht => by have := (((h l hl).1 p hp).1 t ht).2; simp only [maxLen] at this; omega⟩⟩
end Go.AL
namespace Go.Proofs.YtfkjhjgihbnegaaGreat
open Go.AL Go.ChangeShapes Go.WideShapes Go.ChangeAt Go.RowKit

section
variable {H : Type} {enc : TypeId × Value → H} {w : World} {base : Nat} {spare : Nat → Bool} {held : Bool}
theorem trodIs {fuel : Nat} {cs : List Value} {x : DataW H × List MemPlace} (h : DataW.trod enc Tryz.prog w base spare held fuel 48 cs = some x) : ∃ (xs : List Int) (u : Value), cs = [u] ∧ Rep (hpOf w) noB (aI xs) u := by
  obtain ⟨xs, u, h1, h2, _⟩ := trodSlice 1 eI (fun n => True) Tryz.underlying48 (by kernel_rfl) (fun fuel us y _ hy => by
    obtain ⟨n, rfl, hn⟩ := trodInt Tryz.underlying3 hy
    exact ⟨n, ⟨_, _, rfl, by simp only [Rep], rfl⟩, trivial⟩) h
  exact ⟨xs, u, h1, h2⟩
theorem trodXs {fuel : Nat} {cs : List Value} {x : DataW H × List MemPlace} (h : DataW.trod enc Tryz.prog w base spare held fuel 25 cs = some x) : ∃ (xs : List Z) (u : Value), cs = [u] ∧ Rep (hpOf w) noB (.sl 2 eZ xs) u ∧ (∀ z ∈ xs, ZB z) ∧ xs.length ≤ maxLen :=
  trodSlice 2 eZ ZB Tryz.underlying25 (by kernel_rfl) (fun fuel us y _ hy => trodZ hy) h
theorem trodT {fuel : Nat} {cs : List Value} {x : DataW H × List MemPlace} (h : DataW.trod enc Tryz.prog w base spare held fuel 68 cs = some x) : ∃ t : TZ, RepL (hpOf w) noB (eT t) cs ∧ TB t := by
  obtain ⟨y0, y1, n, _, hl, h0, h1⟩ := trod_struct2 Tryz.underlying68 h
  have hc : Tryz.prog.cellsOf 68 = 3 := by kernel_rfl
  have hb : Tryz.prog.cellsOf 58 = 2 := by kernel_rfl
  have hs : Tryz.prog.cellsOf 48 = 1 := by kernel_rfl
  rw [hc] at hl
  obtain ⟨c0, c1, c2, rfl⟩ := list3 hl
  simp only [hb, hs, List.drop_zero, List.take_succ_cons, List.take_zero, List.drop_succ_cons] at h0 h1
  obtain ⟨z, ⟨_, _, e0, r0, ⟨_, _, e1, r1, e2⟩⟩, hz⟩ := trodZ h0
  obtain ⟨xs, u, e3, hr⟩ := trodIs h1
  injection e0 with e0 e0'; subst e0 e0'
  injection e1 with e1 e1'; subst e1
  injection e3 with e3; subst e3
  exact ⟨⟨z, xs⟩, ⟨_, _, rfl, r0, ⟨_, _, rfl, r1, ⟨_, _, rfl, hr, rfl⟩⟩⟩, hz⟩
theorem trodTs {fuel : Nat} {cs : List Value} {x : DataW H × List MemPlace} (h : DataW.trod enc Tryz.prog w base spare held fuel 43 cs = some x) : ∃ (xs : List TZ) (u : Value), cs = [u] ∧ Rep (hpOf w) noB (.sl 3 eT xs) u ∧ (∀ z ∈ xs, TB z) ∧ xs.length ≤ maxLen :=
  trodSlice 3 eT TB Tryz.underlying43 (by kernel_rfl) (fun fuel us y _ hy => trodT hy) h
theorem trodP {fuel : Nat} {cs : List Value} {x : DataW H × List MemPlace} (h : DataW.trod enc Tryz.prog w base spare held fuel 45 cs = some x) : ∃ t : PZ, RepL (hpOf w) noB (eP t) cs ∧ PB t := by
  obtain ⟨y0, y1, n, _, hl, h0, h1⟩ := trod_struct2 Tryz.underlying45 h
  have hc : Tryz.prog.cellsOf 45 = 2 := by kernel_rfl
  have hb : Tryz.prog.cellsOf 3 = 1 := by kernel_rfl
  have hs : Tryz.prog.cellsOf 43 = 1 := by kernel_rfl
  rw [hc] at hl
  obtain ⟨c0, c1, rfl⟩ := list2 hl
  simp only [hb, hs, List.drop_zero, List.take_succ_cons, List.take_zero, List.drop_succ_cons] at h0 h1
  obtain ⟨n, e0, hn⟩ := trodInt Tryz.underlying3 h0
  obtain ⟨xs, u, e1, hr, hw⟩ := trodTs h1
  injection e0 with e0; injection e1 with e1; subst e0 e1
  exact ⟨⟨n, xs⟩, ⟨_, _, rfl, by simp only [Rep], ⟨_, _, rfl, hr, rfl⟩⟩, hw⟩
theorem trodPs {fuel : Nat} {cs : List Value} {x : DataW H × List MemPlace} (h : DataW.trod enc Tryz.prog w base spare held fuel 49 cs = some x) : ∃ (xs : List PZ) (u : Value), cs = [u] ∧ Rep (hpOf w) noB (.sl 2 eP xs) u ∧ (∀ z ∈ xs, PB z) ∧ xs.length ≤ maxLen :=
  trodSlice 2 eP PB Tryz.underlying49 (by kernel_rfl) (fun fuel us y _ hy => trodP hy) h
theorem trodL {fuel : Nat} {cs : List Value} {x : DataW H × List MemPlace} (h : DataW.trod enc Tryz.prog w base spare held fuel 51 cs = some x) : ∃ t : LZ, RepL (hpOf w) noB (eL t) cs ∧ LB t := by
  obtain ⟨y0, y1, y2, n, _, hl, h0, h1, h2⟩ := Go.Deep.trod_struct3 Tryz.underlying51 h
  have hc : Tryz.prog.cellsOf 51 = 3 := by kernel_rfl
  have hb : Tryz.prog.cellsOf 3 = 1 := by kernel_rfl
  have hs : Tryz.prog.cellsOf 48 = 1 := by kernel_rfl
  have hs2 : Tryz.prog.cellsOf 49 = 1 := by kernel_rfl
  rw [hc] at hl
  obtain ⟨c0, c1, c2, rfl⟩ := list3 hl
  simp only [hb, hs, hs2, List.drop_zero, List.take_succ_cons, List.take_zero, List.drop_succ_cons] at h0 h1 h2
  obtain ⟨n, e0, hn⟩ := trodInt Tryz.underlying3 h0
  obtain ⟨vs, u, e1, hr⟩ := trodIs h1
  obtain ⟨ps, v, e2, hr2, hw⟩ := trodPs h2
  injection e0 with e0; injection e1 with e1; injection e2 with e2; subst e0 e1 e2
  exact ⟨⟨n, vs, ps⟩, ⟨_, _, rfl, by simp only [Rep], ⟨_, _, rfl, hr, ⟨_, _, rfl, hr2, rfl⟩⟩⟩, hw⟩
theorem trodLs {fuel : Nat} {cs : List Value} {x : DataW H × List MemPlace} (h : DataW.trod enc Tryz.prog w base spare held fuel 22 cs = some x) : ∃ (xs : List LZ) (u : Value), cs = [u] ∧ Rep (hpOf w) noB (.sl 3 eL xs) u ∧ (∀ z ∈ xs, LB z) ∧ xs.length ≤ maxLen :=
  trodSlice 3 eL LB Tryz.underlying22 (by kernel_rfl) (fun fuel us y _ hy => trodL hy) h
theorem trodSys {fuel : Nat} {cs : List Value} {x : DataW H × List MemPlace} (h : DataW.trod enc Tryz.prog w base spare held fuel 24 cs = some x) : ∃ s : SZ, RepL (hpOf w) noB [aN s.vars, .sl 3 eL s.links] cs ∧ SB s := by
  obtain ⟨y0, y1, n, _, hl, h0, h1⟩ := trod_struct2 Tryz.underlying24 h
  have hc : Tryz.prog.cellsOf 24 = 2 := by kernel_rfl
  have hb : Tryz.prog.cellsOf 3 = 1 := by kernel_rfl
  have hs : Tryz.prog.cellsOf 22 = 1 := by kernel_rfl
  rw [hc] at hl
  obtain ⟨c0, c1, rfl⟩ := list2 hl
  simp only [hb, hs, List.drop_zero, List.take_succ_cons, List.take_zero, List.drop_succ_cons] at h0 h1
  obtain ⟨n, e0, hn⟩ := trodInt Tryz.underlying3 h0
  obtain ⟨xs, u, e1, hr, hw⟩ := trodLs h1
  injection e0 with e0; injection e1 with e1; subst e0 e1
  exact ⟨⟨n, xs⟩, ⟨_, _, rfl, by simp only [Rep], ⟨_, _, rfl, hr, rfl⟩⟩, hw.1⟩
end
end Go.Proofs.YtfkjhjgihbnegaaGreat
namespace Go.Proofs.YtfkjhjgihbnegaaGreat
open Go.Shelf
def sortL_ren : Go.Shelf.Ren := ⟨fun | 6 => 143 | 15 => 154 | 14 => 153 | 28 => 167 | 29 => 168 | 20 => 159 | 21 => 160 | 22 => 161 | 23 => 162 | 24 => 163 | 25 => 164 | 26 => 165 | 27 => 166 | 46 => 170 | 47 => 171 | 48 => 172 | 49 => 173 | 50 => 174 | 57 => 175 | n => n, fun | 22 => 43 | 24 => 68 | 25 => 137 | 3 => 3 | 39 => 106 | 0 => 0 | 53 => 105 | 55 => 103 | 4 => 4 | 46 => 180 | 45 => 179 | 50 => 113 | 5 => 5 | 9 => 9 | 66 => 187 | 70 => 72 | 76 => 192 | 77 => 193 | n => n, fun | n => n⟩
theorem sortL : Go.Proofs.SlLaysF0.n6 Tryz.prog sortL_ren := {
  mixed := by kernel_rfl
  f6 := ⟨Tryz.f143.name, by decide, Tryz.func143.trans (congrArg some (by kernel_rfl))⟩
  f14 := ⟨Tryz.f153.name, by decide, Tryz.func153.trans (congrArg some (by kernel_rfl))⟩
  f15 := Tryz.func154.trans (congrArg some (by kernel_rfl))
  f20 := ⟨Tryz.f159.name, by decide, Tryz.func159.trans (congrArg some (by kernel_rfl))⟩
  f21 := ⟨Tryz.f160.name, by decide, Tryz.func160.trans (congrArg some (by kernel_rfl))⟩
  f22 := ⟨Tryz.f161.name, by decide, Tryz.func161.trans (congrArg some (by kernel_rfl))⟩
  f23 := ⟨Tryz.f162.name, by decide, Tryz.func162.trans (congrArg some (by kernel_rfl))⟩
  f24 := ⟨Tryz.f163.name, by decide, Tryz.func163.trans (congrArg some (by kernel_rfl))⟩
  f25 := ⟨Tryz.f164.name, by decide, Tryz.func164.trans (congrArg some (by kernel_rfl))⟩
  f26 := ⟨Tryz.f165.name, by decide, Tryz.func165.trans (congrArg some (by kernel_rfl))⟩
  f27 := ⟨Tryz.f166.name, by decide, Tryz.func166.trans (congrArg some (by kernel_rfl))⟩
  f28 := Tryz.func167.trans (congrArg some (by kernel_rfl))
  f29 := Tryz.func168.trans (congrArg some (by kernel_rfl))
  f46 := ⟨Tryz.f170.name, by decide, Tryz.func170.trans (congrArg some (by kernel_rfl))⟩
  f47 := Tryz.func171.trans (congrArg some (by kernel_rfl))
  f48 := Tryz.func172.trans (congrArg some (by kernel_rfl))
  f49 := ⟨Tryz.f173.name, by decide, Tryz.func173.trans (congrArg some (by kernel_rfl))⟩
  f50 := ⟨Tryz.f174.name, by decide, Tryz.func174.trans (congrArg some (by kernel_rfl))⟩
  f57 := ⟨Tryz.f175.name, by decide, Tryz.func175.trans (congrArg some (by kernel_rfl))⟩
  t0 := Tryz.underlying0
  a0 := Tryz.isAgg0
  z0 := Tryz.sizeOf0
  v0 := Tryz.zeroValue0
  t3 := Tryz.underlying3
  a3 := Tryz.isAgg3
  z3 := Tryz.sizeOf3
  v3 := Tryz.zeroValue3
  t4 := Tryz.underlying4
  a4 := Tryz.isAgg4
  z4 := Tryz.sizeOf4
  v4 := Tryz.zeroValue4
  t5 := Tryz.underlying5
  a5 := Tryz.isAgg5
  z5 := Tryz.sizeOf5
  v5 := Tryz.zeroValue5
  t9 := Tryz.underlying9
  a9 := Tryz.isAgg9
  z9 := Tryz.sizeOf9
  v9 := Tryz.zeroValue9
  t22 := Tryz.underlying43
  a22 := Tryz.isAgg43
  z22 := Tryz.sizeOf43
  v22 := Tryz.zeroValue43
  t25 := Tryz.underlying137
  a25 := Tryz.isAgg137
  z25 := Tryz.sizeOf137
  v25 := Tryz.zeroValue137
  t39 := Tryz.underlying106
  a39 := Tryz.isAgg106
  z39 := Tryz.sizeOf106
  v39 := Tryz.zeroValue106
  t45 := Tryz.underlying179
  a45 := Tryz.isAgg179
  z45 := Tryz.sizeOf179
  v45 := Tryz.zeroValue179
  t46 := Tryz.underlying180
  a46 := Tryz.isAgg180
  z46 := Tryz.sizeOf180
  v46 := Tryz.zeroValue180
  t50 := Tryz.underlying113
  a50 := Tryz.isAgg113
  z50 := Tryz.sizeOf113
  v50 := Tryz.zeroValue113
  t53 := Tryz.underlying105
  a53 := Tryz.isAgg105
  z53 := Tryz.sizeOf105
  v53 := Tryz.zeroValue105
  t55 := Tryz.underlying103
  a55 := Tryz.isAgg103
  z55 := Tryz.sizeOf103
  v55 := Tryz.zeroValue103
  t66 := Tryz.underlying187
  a66 := Tryz.isAgg187
  z66 := Tryz.sizeOf187
  v66 := Tryz.zeroValue187
  t70 := Tryz.underlying72
  a70 := Tryz.isAgg72
  z70 := Tryz.sizeOf72
  v70 := Tryz.zeroValue72
  t76 := Tryz.underlying192
  a76 := Tryz.isAgg192
  z76 := Tryz.sizeOf192
  v76 := Tryz.zeroValue192
  t77 := Tryz.underlying193
  a77 := Tryz.isAgg193
  z77 := Tryz.sizeOf193
  v77 := Tryz.zeroValue193 }
def growL_ren : Go.Shelf.Ren := ⟨fun | 4 => 89 | n => n, fun | 22 => 22 | 25 => 51 | 3 => 3 | 4 => 4 | 9 => 9 | 20 => 20 | 0 => 0 | n => n, fun | n => n⟩
theorem growL : Go.Proofs.Lays8.n4 Tryz.prog growL_ren := {
  mixed := by kernel_rfl
  f4 := ⟨Tryz.f89.name, by decide, Tryz.func89.trans (congrArg some (by kernel_rfl))⟩
  t0 := Tryz.underlying0
  a0 := Tryz.isAgg0
  z0 := Tryz.sizeOf0
  v0 := Tryz.zeroValue0
  t3 := Tryz.underlying3
  a3 := Tryz.isAgg3
  z3 := Tryz.sizeOf3
  v3 := Tryz.zeroValue3
  t4 := Tryz.underlying4
  a4 := Tryz.isAgg4
  z4 := Tryz.sizeOf4
  v4 := Tryz.zeroValue4
  t9 := Tryz.underlying9
  a9 := Tryz.isAgg9
  z9 := Tryz.sizeOf9
  v9 := Tryz.zeroValue9
  t20 := Tryz.underlying20
  a20 := Tryz.isAgg20
  z20 := Tryz.sizeOf20
  v20 := Tryz.zeroValue20
  t22 := Tryz.underlying22
  a22 := Tryz.isAgg22
  z22 := Tryz.sizeOf22
  v22 := Tryz.zeroValue22 }
end Go.Proofs.YtfkjhjgihbnegaaGreat
namespace Go.AL
theorem repL_set {h : Hp} {β β' : Bt} (hb : β.le β') : ∀ (cs : List AV) (us : List Value) (j : Nat) (v : AV) (u : Value), RepL h β cs us → us[j]? = some u → Rep h β' v u → RepL h β' (cs.set j v) us
  | [], us, j, v, u, hr, hj, hv => by simp only [RepL] at hr; subst hr; simp at hj
  | c :: cs, us, 0, v, u, hr, hj, hv => by
    simp only [RepL] at hr
    obtain ⟨u0, r, rfl, h1, h2⟩ := hr
    simp at hj; subst hj
    exact RepL.cons hv (h2.mono (Hp.le.refl h) hb)
  | c :: cs, us, j + 1, v, u, hr, hj, hv => by
    simp only [RepL] at hr
    obtain ⟨u0, r, rfl, h1, h2⟩ := hr
    exact RepL.cons (h1.mono (Hp.le.refl h) hb) (repL_set hb cs r j v u h2 (by simpa using hj) hv)
/-- nil in a variable's cell, seen as a row without elements. -/
theorem Ent.nilcell {n : Nat} {I : List Id} {s : St} (id : Id) (j : Nat) (b : Id) {cs : List AV} {t : TypeId} (hb : s.bx id = some (.cells cs t)) (hj : cs[j]? = some (.v (.slice none 0 0))) (hal : s.al b = false) {α : Type} (sz : Nat) (enc : α → List AV) (t' : TypeId) :
    Ent n I s ((Eff.mk .any [(id, .cells (cs.set j (.row b)) t)] [] [] []).app none ((Eff.mk .any [(b, .row sz enc ([] : List α) t')] [] [b] []).app none s)) := by
  intro C a w h β hi k
  have hB : BoxAt w h (β.set b (.slice none 0 0)) b (.row sz enc ([] : List α) t') :=
    ⟨_, [], Bt.set_same _ _ _, World.ownsRow_nil w 0 t' sz, RepL.nil, (fun x hx => by cases hx), (fun g hg => by simp [Value.ownBlock] at hg)⟩
  have k1 := k.addbox hal (bv := .slice none 0 0) hB (fun g hg => by simp [blk] at hg) none (fun t ht => by cases ht) (v := .any) (u := undef) (by simp only [Rep]) []
  have hne : id ≠ b := fun e => by
    subst e
    obtain ⟨g, us, e, _⟩ := k.box id _ hb
    rw [k.dom id hal] at e; cases e
  have hb1 : ((Eff.mk AV.any [(b, .row sz enc ([] : List α) t')] [] [b] []).app none s).bx id = some (.cells cs t) := by
    simp [Eff.app, updB, delB, beq_ne hne, hb]
  obtain ⟨g, us, e, hh, hr, hn⟩ := k1.box id _ hb1
  obtain ⟨u, hu1, hu2⟩ := hr.get j _ hj
  have hu2 : u = .slice none 0 0 := by simpa only [Rep] using hu2
  subst hu2
  exact ⟨h, _, k1.setbox (B' := .cells (cs.set j (.row b)) t) hb1 rfl rfl rfl rfl (fun _ _ => rfl) ⟨g, us, e, hh, repL_set (Bt.le.refl _) _ _ j _ _ hr hu1 (by simp only [Rep]; exact ⟨Bt.set_same _ _ _, _, _, _, rfl⟩), hn⟩ ⟨g, by simp [e, blk]⟩ none (fun t ht => by cases ht) (v := .any) (u := undef) (by simp only [Rep]) []⟩
theorem evo_drew {w : World} {h : Hp} (hw : Has w h) : Evo never w h w.drew h :=
  ⟨rfl, rfl, rfl, Nat.le_refl _, fun _ _ _ => rfl, Hp.le.refl h, fun _ hb => .inl hb, hw⟩
/-- rows of links -/
def eLs : List LZ → List AV := fun ls => [.sl 3 eL ls]
theorem flat_take_succ {α : Type} {xs : List (List α)} {i : Nat} {l : List α} (h : xs[i]? = some l) : (xs.take (i + 1)).flatten = (xs.take i).flatten ++ l := by
  rw [take_snoc h]; simp
theorem flat_take_le {α : Type} (xs : List (List α)) (i : Nat) : (xs.take i).flatten.length ≤ xs.flatten.length := by
  conv => rhs; rw [← List.take_append_drop i xs]
  rw [List.flatten_append, List.length_append]; omega
end Go.AL
namespace Go.Proofs.YtfkjhjgihbnegaaGreat
open Go.AL

theorem cloneW_ok (l : List Int) (hl : l.length ≤ 100000) : PureFn Tryz.prog 90 [aW l] (aW l) := by
  refine PureFn.of_body Tryz.func90 rfl Tryz.ntmps90 rfl rfl ?_
  refine AWP.seqS ?_
  repeat' (first |refine Fl.v rfl rfl rfl ?_ |refine Fl.nilF ?_ |refine AWP.region ?_ |fail)
  refine ⟨AWP.seq (AWP.seq (AWP.nilTest rfl rfl rfl rfl rfl rfl rfl rfl rfl rfl ?_))⟩
  intro b hb
  cases b with
  | true =>
    repeat' (first |refine Fl.v rfl rfl rfl ?_ |refine Fl.nilF ?_ |refine AWP.seq ?_ |refine AWP.region ?_ |refine AWP.condT rfl ?_ |refine AWP.ret ?_ |fail)
    rw [hb rfl]
    exact RetOk.of rfl (AV.Le.nil 1 eW)
  | false =>
    repeat' (first |refine AWP.seq ?_ |refine AWP.region ?_ |refine AWP.condF rfl ?_ |refine AWP.skip ?_ |fail)
    refine Fl.litrow rfl rfl rfl rfl rfl rfl rfl eW [] rfl rfl rfl rfl (by simp) (LeL.refl _) ?_
    repeat' (first |refine Fl.v rfl rfl rfl ?_ |fail)
    refine Fl.ap rfl rfl rfl rfl rfl rfl rfl rfl rfl rfl rfl rfl rfl (fun _ => rfl) (fun _ => rfl) (AV.Le.refl _) (by dsimp only [List.length_nil]; omega) (by simp; omega) ?_
    repeat' (first |refine Fl.v rfl rfl rfl ?_ |refine Fl.nilF ?_ |refine AWP.ret ?_ |fail)
    refine RetOk.ent (Ent.freeze 7 rfl) ?_
    exact RetOk.of rfl (AV.Le.refl _)
theorem cloneI_ok (l : List Int) (hl : l.length ≤ 100000) : PureFn Tryz.prog 91 [aI l] (aI l) := by
  refine PureFn.of_body Tryz.func91 rfl Tryz.ntmps91 rfl rfl ?_
  refine AWP.seqS ?_
  repeat' (first |refine Fl.v rfl rfl rfl ?_ |refine Fl.nilF ?_ |refine AWP.region ?_ |fail)
  refine ⟨AWP.seq (AWP.seq (AWP.nilTest rfl rfl rfl rfl rfl rfl rfl rfl rfl rfl ?_))⟩
  intro b hb
  cases b with
  | true =>
    repeat' (first |refine Fl.v rfl rfl rfl ?_ |refine Fl.nilF ?_ |refine AWP.seq ?_ |refine AWP.region ?_ |refine AWP.condT rfl ?_ |refine AWP.ret ?_ |fail)
    rw [hb rfl]
    exact RetOk.of rfl (AV.Le.nil 1 eI)
  | false =>
    repeat' (first |refine AWP.seq ?_ |refine AWP.region ?_ |refine AWP.condF rfl ?_ |refine AWP.skip ?_ |fail)
    refine Fl.litrow rfl rfl rfl rfl rfl rfl rfl eI [] rfl rfl rfl rfl (by simp) (LeL.refl _) ?_
    repeat' (first |refine Fl.v rfl rfl rfl ?_ |fail)
    refine Fl.ap rfl rfl rfl rfl rfl rfl rfl rfl rfl rfl rfl rfl rfl (fun _ => rfl) (fun _ => rfl) (AV.Le.refl _) (by dsimp only [List.length_nil]; omega) (by simp; omega) ?_
    repeat' (first |refine Fl.v rfl rfl rfl ?_ |refine Fl.nilF ?_ |refine AWP.ret ?_ |fail)
    refine RetOk.ent (Ent.freeze 7 rfl) ?_
    exact RetOk.of rfl (AV.Le.refl _)
theorem grow_ok (n : Nat) (h1 : n ≤ 100000) : IoFn Tryz.prog 89 [.v (.slice none 0 0), aN n] [] (.ret (.row 900)) [(900, .row 3 eL [] 51)] := by
  refine ⟨⟨_, Tryz.func89, by kernel_rfl, by kernel_rfl⟩, fun w h β us hw hbx hβ hr => ?_⟩
  have hus : us = #[.slice none 0 0, .int .i64 n] := by
    simp only [RepL, Rep] at hr
    obtain ⟨u0, r0, e0, rfl, ⟨u1, r1, e1, rfl, e2⟩⟩ := hr
    rw [e1, e2] at e0
    exact Array.toList_inj.1 e0
  subst hus
  have hb0 : β = noB := by funext id; rw [hβ id (by simp [idsB])]; rfl
  subst hb0
  have fin : ∀ (v : Value) (w' : World), v.ownBlock = none ∨ v.ownBlock = some w.heap.size → (∃ A n c, v = .slice A n c) → Evo never w h w' h → w'.ownsRow 0 51 3 v 0 [] →
      ∃ h' β', noB.le β' ∧ Evo (blksOf [] noB) w h w' h' ∧ ∃ u, Ending.returned v = .returned u ∧ BoxesAt w' h' β' [(900, .row 3 eL [] 51)] ∧ Rep h' β' (.row 900) u ∧ ∀ id g, id ∉ idsB [] → blk (β' id) = some g → w.heap.size ≤ g := by
    intro v w' hv hs hev ho
    refine ⟨h, noB.set 900 v, noB_le _, ⟨hev.os, hev.tape, hev.output, hev.size, fun i hi _ => hev.block i hi (fun x => x), hev.le, fun b hb => ?_, hev.has⟩, v, rfl, ⟨fun id B hB => ?_, fun id id' B B' h1 h2 hne => ?_⟩, by simp only [Rep]; exact ⟨Bt.set_same _ _ _, hs⟩, fun id g _ hg => ?_⟩
    · rcases hev.fresh b hb with h1 | h1 | h1
      · exact .inl h1
      · exact .inr (.inl h1)
      · exact h1.elim
    · by_cases hid : id = 900
      · subst hid
        simp only [lookB, Nat.beq_refl] at hB
        injection hB with hB; subst hB
        refine ⟨v, [], Bt.set_same _ _ _, ho, RepL.nil, (fun x hx => by cases hx), fun g hg => ?_⟩
        rcases hv with hv | hv
        · rw [hv] at hg; cases hg
        · rw [hv] at hg; injection hg with hg; subst hg
          exact has_none hw (Nat.le_refl _)
      · simp [lookB, beq_ne hid] at hB
    · by_cases hid : id = 900
      · by_cases hid' : id' = 900
        · exact absurd (hid.trans hid'.symm) hne
        · simp [lookB, beq_ne hid'] at h2
      · simp [lookB, beq_ne hid] at h1
    · by_cases hid : id = 900
      · subst hid
        rw [Bt.set_same] at hg
        rw [blk_own ho] at hg
        rcases hv with hv | hv
        · rw [hv] at hg; cases hg
        · rw [hv] at hg; injection hg with hg; omega
      · rw [Bt.set_ne _ _ _ _ hid] at hg; simp [noB, blk] at hg
  by_cases h0 : n = 0
  · subst h0
    refine (Any8.slices_Grow_room growL none 0 0 0 w (Nat.le_refl _) (by omega) (by omega) (by omega)).mono fun e w' ⟨he, hw'⟩ => ?_
    subst he hw'
    exact fin _ _ (.inl rfl) ⟨_, _, _, rfl⟩ (Evo.refl _ hw) (World.ownsRow_nil _ _ _ _)
  · obtain ⟨inf, zv, i1, i2, i3, i4, i5⟩ := (inferInstance : Facts Tryz.prog tab).tabOk 51 _ rfl |>.info
    have hsz : inf.size = 3 := i2
    have hby : inf.bytes ≤ 100000 := by rw [i3]; decide
    refine (Any8.slices_Grow_grow growL inf zv i1 i4 (by omega) none 0 0 n [] w (Nat.le_refl _) (by omega) ?_ (by omega) (by simp) (fun _ => rfl) (fun a ha => by cases ha)).mono fun e w' ⟨he, hw'⟩ => ?_
    · have : (0 + n) * inf.bytes ≤ 100000 * 100000 := Nat.mul_le_mul (by omega) hby
      omega
    · subst he hw'
      refine fin _ _ (.inr rfl) ⟨_, _, _, rfl⟩ ((evo_drew hw).trans (evo_alloc (w := w.drew) hw _) fun g hg => hg.elim) ?_
      have hc := grownCap_le_maxLen w (0 + n) 0 (growL_ren.t 25) (by unfold maxLen; omega)
      have hg := grownCap_ge w (0 + n) 0 (growL_ren.t 25)
      refine World.ownsRow_made w.drew _ _ (Nat.zero_le _) hc ?_
      have hz : zv.cells.size = 3 := by rw [← Array.length_toList, i5]; rfl
      simp only [Builtin.zeroCells, hz, List.size_toArray, Array.size_append, Array.size_map, Array.size_range, List.length_nil]
      omega
theorem concat_ok (xs : List (List LZ)) (hx : xs.length ≤ 1000) (hl : xs.flatten.length ≤ 100000) : PureFn Tryz.prog 47 [.sl 1 eLs xs] (.sl 3 eL xs.flatten) := by
  refine PureFn.of_body Tryz.func47 rfl Tryz.ntmps47 rfl rfl ?_
  repeat' (first |refine Fl.v rfl rfl rfl ?_ |refine Fl.nilF ?_ |refine AWP.seq ?_ |refine AWP.region ?_ |refine AWP.block ?_ |fail)
  refine AWP.loop (G := Nat) (fun i => i ≤ xs.length) (fun i => St.of [] [(0, .sl 1 eLs xs), (3, aN (xs.take i).flatten.length), (9, .sl 1 eLs xs), (10, aN xs.length), (11, aN i)] []) (fun i => xs.length - i) 0 (by omega) ?_ ?_
  · refine Ent.of [] ?_ ?_ rfl rfl
    repeat' (first | exact True.intro |refine ⟨⟨AV.Le.refl _, rfl⟩, ?_⟩ |refine ⟨⟨⟨_, rfl, BLe.cells (LeL.refl _)⟩, rfl⟩, ?_⟩ |refine ⟨⟨⟨_, rfl, BLe.row rfl⟩, rfl⟩, ?_⟩ |refine ⟨⟨⟨_, rfl, BLe.row ?_⟩, rfl⟩, ?_⟩ |refine ⟨⟨⟨_, rfl, BLe.cells ?_⟩, rfl⟩, ?_⟩ |refine ⟨⟨AV.Le.int ?_, rfl⟩, ?_⟩ |refine ⟨⟨AV.Le.bool ?_, rfl⟩, ?_⟩ |refine ⟨⟨AV.Le.sl ?_, rfl⟩, ?_⟩ |refine ⟨⟨AV.Le.of_eq ?_, rfl⟩, ?_⟩ | fail)
  · intro i k0
    have hb := flat_take_le xs i
    by_cases hi : i < xs.length
    · obtain ⟨l, hli⟩ : ∃ l, xs[i]? = some l := ⟨_, List.getElem?_eq_getElem hi⟩
      have hf := flat_take_succ hli
      have hb2 := flat_take_le xs (i + 1)
      have hlen : (xs.take (i + 1)).flatten.length = (xs.take i).flatten.length + l.length := by rw [hf, List.length_append]
      repeat' (first |refine Fl.v rfl rfl rfl ?_ |refine Fl.nilF ?_ |refine AWP.seq ?_ |refine AWP.region ?_ |refine Fl.w rfl rfl rfl (by first | exact True.intro | omega) ?_ |refine AWP.condF rfl ?_ |(refine AWP.condD rfl ?_ ?_ <;> intro _ <;> try (exfalso; omega)) |refine AWP.block ?_ |refine AWP.skip ?_ |refine Fl.elK rfl rfl rfl rfl rfl rfl rfl rfl (by assumption) (by omega) ?_ |fail)
      refine LoopEnd.of (i + 1) (by omega) (by omega) ?_
      refine Ent.of [] ?_ ?_ rfl rfl
      repeat' (first | exact True.intro |refine ⟨⟨AV.Le.refl _, rfl⟩, ?_⟩ |refine ⟨⟨⟨_, rfl, BLe.cells (LeL.refl _)⟩, rfl⟩, ?_⟩ |refine ⟨⟨⟨_, rfl, BLe.row rfl⟩, rfl⟩, ?_⟩ |refine ⟨⟨⟨_, rfl, BLe.row ?_⟩, rfl⟩, ?_⟩ |refine ⟨⟨⟨_, rfl, BLe.cells ?_⟩, rfl⟩, ?_⟩ |refine ⟨⟨AV.Le.int ?_, rfl⟩, ?_⟩ |refine ⟨⟨AV.Le.bool ?_, rfl⟩, ?_⟩ |refine ⟨⟨AV.Le.sl ?_, rfl⟩, ?_⟩ |refine ⟨⟨AV.Le.of_eq ?_, rfl⟩, ?_⟩ | fail)
      omega
    · have hxi : xs.take i = xs := List.take_of_length_le (by omega)
      repeat' (first |refine Fl.v rfl rfl rfl ?_ |refine Fl.nilF ?_ |refine AWP.seq ?_ |refine AWP.region ?_ |(refine AWP.condD rfl ?_ ?_ <;> intro _ <;> try (exfalso; omega)) |refine AWP.exit ?_ |fail)
      refine Fl.io rfl [(900, 24)] (grow_ok (xs.take i).flatten.length (by omega)) rfl rfl (LeL.refl _) rfl trivial rfl rfl rfl rfl rfl ?_
      repeat' (first |refine Fl.v rfl rfl rfl ?_ |refine Fl.nilF ?_ |refine AWP.seq ?_ |refine AWP.region ?_ |refine AWP.block ?_ |fail)
      refine AWP.loop (G := Nat) (fun i => i ≤ xs.length) (fun i => St.of [] [(6, .row 6), (25, .sl 1 eLs xs), (26, aN xs.length), (27, aN i)] [(6, .row 3 eL (xs.take i).flatten 51)]) (fun i => xs.length - i) 0 (by omega) ?_ ?_
      · refine Ent.of [(6, 24)] ?_ ?_ rfl rfl
        repeat' (first | exact True.intro |refine ⟨⟨AV.Le.refl _, rfl⟩, ?_⟩ |refine ⟨⟨⟨_, rfl, BLe.cells (LeL.refl _)⟩, rfl⟩, ?_⟩ |refine ⟨⟨⟨_, rfl, BLe.row rfl⟩, rfl⟩, ?_⟩ |refine ⟨⟨⟨_, rfl, BLe.row ?_⟩, rfl⟩, ?_⟩ |refine ⟨⟨⟨_, rfl, BLe.cells ?_⟩, rfl⟩, ?_⟩ |refine ⟨⟨AV.Le.int ?_, rfl⟩, ?_⟩ |refine ⟨⟨AV.Le.bool ?_, rfl⟩, ?_⟩ |refine ⟨⟨AV.Le.sl ?_, rfl⟩, ?_⟩ |refine ⟨⟨AV.Le.of_eq ?_, rfl⟩, ?_⟩ | fail)
      · clear hxi hb; intro i k0
        by_cases hi : i < xs.length
        · obtain ⟨l, hli⟩ : ∃ l, xs[i]? = some l := ⟨_, List.getElem?_eq_getElem hi⟩
          have hf := flat_take_succ hli
          have hb2 := flat_take_le xs (i + 1)
          have hlen : (xs.take (i + 1)).flatten.length = (xs.take i).flatten.length + l.length := by rw [hf, List.length_append]
          repeat' (first |refine Fl.v rfl rfl rfl ?_ |refine Fl.nilF ?_ |refine AWP.seq ?_ |refine AWP.region ?_ |(refine AWP.condD rfl ?_ ?_ <;> intro _ <;> try (exfalso; omega)) |refine AWP.block ?_ |refine AWP.skip ?_ |refine Fl.elK rfl rfl rfl rfl rfl rfl rfl rfl (by assumption) (by omega) ?_ |fail)
          refine Fl.ap rfl rfl rfl rfl rfl rfl rfl rfl rfl rfl rfl rfl rfl (fun _ => rfl) (fun _ => rfl) (AV.Le.refl _) (by dsimp only; omega) (by omega) ?_
          repeat' (first |refine Fl.v rfl rfl rfl ?_ |refine Fl.nilF ?_ |refine AWP.region ?_ |refine Fl.w rfl rfl rfl (by first | exact True.intro | omega) ?_ |fail)
          refine LoopEnd.of (i + 1) (by omega) (by omega) ?_
          refine Ent.of [(6, 33)] ?_ ?_ rfl rfl
          repeat' (first | exact True.intro |refine ⟨⟨AV.Le.refl _, rfl⟩, ?_⟩ |refine ⟨⟨⟨_, rfl, BLe.cells (LeL.refl _)⟩, rfl⟩, ?_⟩ |refine ⟨⟨⟨_, rfl, BLe.row rfl⟩, rfl⟩, ?_⟩ |refine ⟨⟨⟨_, rfl, BLe.row ?_⟩, rfl⟩, ?_⟩ |refine ⟨⟨⟨_, rfl, BLe.cells ?_⟩, rfl⟩, ?_⟩ |refine ⟨⟨AV.Le.int ?_, rfl⟩, ?_⟩ |refine ⟨⟨AV.Le.bool ?_, rfl⟩, ?_⟩ |refine ⟨⟨AV.Le.sl ?_, rfl⟩, ?_⟩ |refine ⟨⟨AV.Le.of_eq ?_, rfl⟩, ?_⟩ | fail)
          exact hf.symm
        · repeat' (first |refine Fl.v rfl rfl rfl ?_ |refine Fl.nilF ?_ |refine AWP.seq ?_ |refine AWP.region ?_ |(refine AWP.condD rfl ?_ ?_ <;> intro _ <;> try (exfalso; omega)) |refine AWP.exit ?_ |refine AWP.ret ?_ |fail)
          refine RetOk.ent (Ent.freeze 6 rfl) ?_
          refine RetOk.of rfl (AV.Le.sl ?_)
          rw [List.take_of_length_le (by omega)]
end Go.Proofs.YtfkjhjgihbnegaaGreat
namespace Go.Proofs.YtfkjhjgihbnegaaGreat
open Go.AL

set_option maxHeartbeats 1000000 in
theorem Copied_ok (l : LZ) (d vars : Int) (hL : OkL vars l) (hv : vars ≤ 20000) (h0 : 0 ≤ d) (h1 : d ≤ 1000000) : PureFn Tryz.prog 48 [aL l, aN d] (aL ⟨l.kind, l.vars.map (· + d), l.polys⟩) := by
  refine PureFn.of_body Tryz.func48 rfl Tryz.ntmps48 rfl rfl ?_
  have hvl := hL.vlen
  have hn3 : needI l.kind ≤ 3 := by unfold needI; repeat' split <;> omega
  have hpl := hL.len
  refine AWP.seqS ?_
  repeat' (first |refine Fl.nilF ?_ |refine AWP.region ?_ |refine Fl.b rfl rfl rfl rfl ?_ |fail)
  refine ⟨?_⟩
  refine AWP.seqS ?_
  repeat' (first |refine Fl.v rfl rfl rfl ?_ |refine Fl.nilF ?_ |refine AWP.region ?_ |refine Fl.b rfl rfl rfl rfl ?_ |fail)
  refine ⟨?_⟩
  refine AWP.ent (Ent.nilcell 5 1 805 rfl rfl rfl 1 eI 3) ?_
  repeat' (first |refine Fl.v rfl rfl rfl ?_ |refine Fl.nilF ?_ |refine AWP.seq ?_ |refine AWP.region ?_ |refine AWP.block ?_ |fail)
  refine AWP.loop (G := Nat) (fun i => i ≤ l.vars.length) (fun i => St.of [] [(1, aN d), (2, .ptr 2 0), (4, .ptr 4 0), (5, .ptr 5 0), (17, aI l.vars), (18, aN l.vars.length), (19, aN i)] [(2, .cells (eL l) 51), (4, .cells [aN 0, .v (.slice none 0 0), .v (.slice none 0 0)] 51), (5, .cells [aN l.kind, .row 700, .v (.slice none 0 0)] 51), (700, .row 1 eI ((l.vars.take i).map (· + d)) 3)]) (fun i => l.vars.length - i) 0 (by omega) ?_ ?_
  · refine Ent.of [(700, 805)] ?_ ?_ rfl rfl
    repeat' (first | exact True.intro |refine ⟨⟨AV.Le.refl _, rfl⟩, ?_⟩ |refine ⟨⟨⟨_, rfl, BLe.cells (LeL.refl _)⟩, rfl⟩, ?_⟩ |refine ⟨⟨⟨_, rfl, BLe.row rfl⟩, rfl⟩, ?_⟩ |refine ⟨⟨⟨_, rfl, BLe.row ?_⟩, rfl⟩, ?_⟩ |refine ⟨⟨⟨_, rfl, BLe.cells ?_⟩, rfl⟩, ?_⟩ |refine ⟨⟨AV.Le.int ?_, rfl⟩, ?_⟩ |refine ⟨⟨AV.Le.bool ?_, rfl⟩, ?_⟩ |refine ⟨⟨AV.Le.sl ?_, rfl⟩, ?_⟩ |refine ⟨⟨AV.Le.of_eq ?_, rfl⟩, ?_⟩ | fail)
  · intro i k0
    have hli : ((l.vars.take i).map (· + d)).length = i := by simp; omega
    by_cases hi : i < l.vars.length
    · obtain ⟨v, hvi⟩ : ∃ v, l.vars[i]? = some v := ⟨_, List.getElem?_eq_getElem hi⟩
      have hvb := incB_mem hL.inc (List.mem_of_getElem? hvi)
      repeat' (first |refine Fl.v rfl rfl rfl ?_ |refine Fl.nilF ?_ |refine AWP.seq ?_ |refine AWP.region ?_ |refine Fl.w rfl rfl rfl (by first | exact True.intro | omega) ?_ |(refine AWP.condD rfl ?_ ?_ <;> intro _ <;> try (exfalso; omega)) |refine AWP.block ?_ |refine AWP.skip ?_ |refine Fl.elK rfl rfl rfl rfl rfl rfl rfl rfl (by assumption) (by omega) ?_ |fail)
      refine Fl.lit rfl rfl rfl rfl rfl eI [v + d] rfl rfl rfl rfl (by intro _ _; rfl) rfl ?_
      skip
      refine Fl.ap rfl rfl rfl rfl rfl rfl rfl rfl rfl rfl rfl rfl rfl (fun _ => rfl) (fun _ => rfl) (AV.Le.refl _) (by dsimp only [List.length_nil, List.length_cons]; omega) (by simp; omega) ?_
      repeat' (first |refine Fl.v rfl rfl rfl ?_ |refine Fl.nilF ?_ |refine AWP.region ?_ |refine Fl.w rfl rfl rfl (by first | exact True.intro | omega) ?_ |refine Fl.b rfl rfl rfl rfl ?_ |fail)
      refine LoopEnd.of (i + 1) (by omega) (by omega) ?_
      refine Ent.of [(700, 29)] ?_ ?_ rfl rfl
      repeat' (first | exact True.intro |refine ⟨⟨AV.Le.refl _, rfl⟩, ?_⟩ |refine ⟨⟨⟨_, rfl, BLe.cells (LeL.refl _)⟩, rfl⟩, ?_⟩ |refine ⟨⟨⟨_, rfl, BLe.row rfl⟩, rfl⟩, ?_⟩ |refine ⟨⟨⟨_, rfl, BLe.row ?_⟩, rfl⟩, ?_⟩ |refine ⟨⟨⟨_, rfl, BLe.cells ?_⟩, rfl⟩, ?_⟩ |refine ⟨⟨AV.Le.int ?_, rfl⟩, ?_⟩ |refine ⟨⟨AV.Le.bool ?_, rfl⟩, ?_⟩ |refine ⟨⟨AV.Le.sl ?_, rfl⟩, ?_⟩ |refine ⟨⟨AV.Le.of_eq ?_, rfl⟩, ?_⟩ | fail)
      rw [take_snoc hvi, List.map_append]; rfl
    · have hti : l.vars.take i = l.vars := List.take_of_length_le (by omega)
      rw [hti]
      refine AWP.ent (Ent.freeze 700 rfl) ?_
      refine AWP.ent (Ent.nilcell 5 2 706 rfl rfl rfl 2 eP 45) ?_
      repeat' (first |refine Fl.v rfl rfl rfl ?_ |refine Fl.nilF ?_ |refine AWP.seq ?_ |refine AWP.region ?_ |(refine AWP.condD rfl ?_ ?_ <;> intro _ <;> try (exfalso; omega)) |refine AWP.block ?_ |refine AWP.exit ?_ |fail)
      refine AWP.loop (G := Nat) (fun i => i ≤ l.polys.length) (fun i => St.of [] [(2, .ptr 2 0), (4, .ptr 4 0), (5, .ptr 5 0), (33, .sl 2 eP l.polys), (34, aN l.polys.length), (35, aN i)] [(2, .cells (eL l) 51), (4, .cells [aN 0, .v (.slice none 0 0), .v (.slice none 0 0)] 51), (5, .cells [aN l.kind, aI (l.vars.map (· + d)), .row 701] 51), (701, .row 2 eP (l.polys.take i) 45)]) (fun i => l.polys.length - i) 0 (by omega) ?_ ?_
      · refine Ent.of [(701, 706)] ?_ ?_ rfl rfl
        repeat' (first | exact True.intro |refine ⟨⟨AV.Le.refl _, rfl⟩, ?_⟩ |refine ⟨⟨⟨_, rfl, BLe.cells (LeL.refl _)⟩, rfl⟩, ?_⟩ |refine ⟨⟨⟨_, rfl, BLe.row rfl⟩, rfl⟩, ?_⟩ |refine ⟨⟨⟨_, rfl, BLe.row ?_⟩, rfl⟩, ?_⟩ |refine ⟨⟨⟨_, rfl, BLe.cells ?_⟩, rfl⟩, ?_⟩ |refine ⟨⟨AV.Le.int ?_, rfl⟩, ?_⟩ |refine ⟨⟨AV.Le.bool ?_, rfl⟩, ?_⟩ |refine ⟨⟨AV.Le.sl ?_, rfl⟩, ?_⟩ |refine ⟨⟨AV.Le.of_eq ?_, rfl⟩, ?_⟩ | fail)
      · clear hi hti hli; intro i k0
        have hli : (l.polys.take i).length = i := by simp; omega
        by_cases hi : i < l.polys.length
        · obtain ⟨p, hp⟩ : ∃ p, l.polys[i]? = some p := ⟨_, List.getElem?_eq_getElem hi⟩
          have hP := (hL.polys p (List.mem_of_getElem? hp)).2
          have hv1 := hP.v1
          have htl := hP.len
          refine AWP.seqS ?_
          repeat' (first |refine Fl.v rfl rfl rfl ?_ |refine Fl.nilF ?_ |refine AWP.region ?_ |fail)
          refine ⟨?_⟩
          refine AWP.seqS ?_
          repeat' (first |(refine AWP.condD rfl ?_ ?_ <;> intro _ <;> try (exfalso; omega)) |refine AWP.skip ?_ |fail)
          refine ⟨?_⟩
          refine AWP.seq (AWP.block (AWP.seqS ?_))
          repeat' (first |refine Fl.v rfl rfl rfl ?_ |refine Fl.nilF ?_ |refine AWP.region ?_ |refine Fl.b rfl rfl rfl rfl ?_ |refine Fl.elK rfl rfl rfl rfl rfl rfl rfl rfl (by assumption) (by omega) ?_ |fail)
          refine ⟨?_⟩
          refine AWP.seqS ?_
          repeat' (first |refine Fl.v rfl rfl rfl ?_ |refine Fl.nilF ?_ |refine AWP.region ?_ |refine Fl.b rfl rfl rfl rfl ?_ |fail)
          refine ⟨?_⟩
          refine AWP.ent (Ent.nilcell 10 1 807 rfl rfl rfl 3 eT 68) ?_
          repeat' (first |refine Fl.v rfl rfl rfl ?_ |refine Fl.nilF ?_ |refine AWP.seq ?_ |refine AWP.region ?_ |refine AWP.block ?_ |fail)
          refine AWP.loop (G := Nat) (fun j => j ≤ p.terms.length) (fun j => St.of [] [(2, .ptr 2 0), (4, .ptr 4 0), (5, .ptr 5 0), (33, .sl 2 eP l.polys), (34, aN l.polys.length), (35, aN i), (10, .ptr 10 0), (43, .sl 3 eT p.terms), (44, aN p.terms.length), (45, aN j)] [(2, .cells (eL l) 51), (4, .cells [aN 0, .v (.slice none 0 0), .v (.slice none 0 0)] 51), (5, .cells [aN l.kind, aI (l.vars.map (· + d)), .row 701] 51), (701, .row 2 eP (l.polys.take i) 45), (10, .cells [aN p.vars, .row 702] 45), (702, .row 3 eT (p.terms.take j) 68)]) (fun j => p.terms.length - j) 0 (by omega) ?_ ?_
          · refine Ent.of [(702, 807)] ?_ ?_ rfl rfl
            repeat' (first | exact True.intro |refine ⟨⟨AV.Le.refl _, rfl⟩, ?_⟩ |refine ⟨⟨⟨_, rfl, BLe.cells (LeL.refl _)⟩, rfl⟩, ?_⟩ |refine ⟨⟨⟨_, rfl, BLe.row rfl⟩, rfl⟩, ?_⟩ |refine ⟨⟨⟨_, rfl, BLe.row ?_⟩, rfl⟩, ?_⟩ |refine ⟨⟨⟨_, rfl, BLe.cells ?_⟩, rfl⟩, ?_⟩ |refine ⟨⟨AV.Le.int ?_, rfl⟩, ?_⟩ |refine ⟨⟨AV.Le.bool ?_, rfl⟩, ?_⟩ |refine ⟨⟨AV.Le.sl ?_, rfl⟩, ?_⟩ |refine ⟨⟨AV.Le.of_eq ?_, rfl⟩, ?_⟩ | fail)
          · intro j g0
            have hlj : (p.terms.take j).length = j := by simp; omega
            by_cases hj : j < p.terms.length
            · obtain ⟨t, ht⟩ : ∃ t, p.terms[j]? = some t := ⟨_, List.getElem?_eq_getElem hj⟩
              have hT := hP.terms t (List.mem_of_getElem? ht)
              have htc := hT.coef.1
              have hte := hT.len
              repeat' (first |refine Fl.v rfl rfl rfl ?_ |refine Fl.nilF ?_ |refine AWP.seq ?_ |refine AWP.region ?_ |refine Fl.b rfl rfl rfl rfl ?_ |(refine AWP.condD rfl ?_ ?_ <;> intro _ <;> try (exfalso; omega)) |refine AWP.block ?_ |refine AWP.skip ?_ |refine Fl.elK rfl rfl rfl rfl rfl rfl rfl rfl (by assumption) (by omega) ?_ |fail)
              refine Fl.call rfl (cloneW_ok t.c.w (by omega)) rfl rfl rfl (LeL.refl _) ?_
              repeat' (first |refine Fl.v rfl rfl rfl ?_ |refine Fl.b rfl rfl rfl rfl ?_ |fail)
              refine Fl.call rfl (cloneI_ok t.e (by omega)) rfl rfl rfl (LeL.refl _) ?_
              repeat' (first |refine Fl.b rfl rfl rfl rfl ?_ |fail)
              refine Fl.lit rfl rfl rfl rfl rfl eT [t] rfl rfl rfl rfl (by intro _ _; rfl) rfl ?_
              skip
              refine Fl.ap rfl rfl rfl rfl rfl rfl rfl rfl rfl rfl rfl rfl rfl (fun _ => rfl) (fun _ => rfl) (AV.Le.refl _) (by dsimp only [List.length_nil, List.length_cons]; omega) (by simp; omega) ?_
              repeat' (first |refine Fl.v rfl rfl rfl ?_ |refine Fl.nilF ?_ |refine Fl.nil (fun _ => by kernel_rfl) ?_ |refine AWP.region ?_ |refine Fl.w rfl rfl rfl (by first | exact True.intro | omega) ?_ |refine Fl.b rfl rfl rfl rfl ?_ |fail)
              refine LoopEnd.of (j + 1) (by omega) (by omega) ?_
              refine Ent.of [(702, 64)] ?_ ?_ rfl rfl
              repeat' (first | exact True.intro |refine ⟨⟨AV.Le.refl _, rfl⟩, ?_⟩ |refine ⟨⟨⟨_, rfl, BLe.cells (LeL.refl _)⟩, rfl⟩, ?_⟩ |refine ⟨⟨⟨_, rfl, BLe.row rfl⟩, rfl⟩, ?_⟩ |refine ⟨⟨⟨_, rfl, BLe.row ?_⟩, rfl⟩, ?_⟩ |refine ⟨⟨⟨_, rfl, BLe.cells ?_⟩, rfl⟩, ?_⟩ |refine ⟨⟨AV.Le.int ?_, rfl⟩, ?_⟩ |refine ⟨⟨AV.Le.bool ?_, rfl⟩, ?_⟩ |refine ⟨⟨AV.Le.sl ?_, rfl⟩, ?_⟩ |refine ⟨⟨AV.Le.of_eq ?_, rfl⟩, ?_⟩ | fail)
              exact (take_snoc ht).symm
            · have htj : p.terms.take j = p.terms := List.take_of_length_le (by omega)
              rw [htj]
              refine AWP.ent (Ent.freeze 702 rfl) ?_
              repeat' (first |refine Fl.v rfl rfl rfl ?_ |refine Fl.nilF ?_ |refine AWP.seq ?_ |refine AWP.region ?_ |(refine AWP.condD rfl ?_ ?_ <;> intro _ <;> try (exfalso; omega)) |refine AWP.exit ?_ |fail)
              refine Fl.lit rfl rfl rfl rfl rfl eP [p] rfl rfl rfl rfl (by intro _ _; rfl) rfl ?_
              skip
              refine Fl.ap rfl rfl rfl rfl rfl rfl rfl rfl rfl rfl rfl rfl rfl (fun _ => rfl) (fun _ => rfl) (AV.Le.refl _) (by dsimp only [List.length_nil, List.length_cons]; omega) (by simp; omega) ?_
              repeat' (first |refine Fl.v rfl rfl rfl ?_ |refine Fl.nilF ?_ |refine AWP.region ?_ |refine Fl.w rfl rfl rfl (by first | exact True.intro | omega) ?_ |refine Fl.b rfl rfl rfl rfl ?_ |fail)
              refine LoopEnd.of (i + 1) (by omega) (by omega) ?_
              refine Ent.of [(701, 71)] ?_ ?_ rfl rfl
              repeat' (first | exact True.intro |refine ⟨⟨AV.Le.refl _, rfl⟩, ?_⟩ |refine ⟨⟨⟨_, rfl, BLe.cells (LeL.refl _)⟩, rfl⟩, ?_⟩ |refine ⟨⟨⟨_, rfl, BLe.row rfl⟩, rfl⟩, ?_⟩ |refine ⟨⟨⟨_, rfl, BLe.row ?_⟩, rfl⟩, ?_⟩ |refine ⟨⟨⟨_, rfl, BLe.cells ?_⟩, rfl⟩, ?_⟩ |refine ⟨⟨AV.Le.int ?_, rfl⟩, ?_⟩ |refine ⟨⟨AV.Le.bool ?_, rfl⟩, ?_⟩ |refine ⟨⟨AV.Le.sl ?_, rfl⟩, ?_⟩ |refine ⟨⟨AV.Le.of_eq ?_, rfl⟩, ?_⟩ | fail)
              exact (take_snoc hp).symm
        · have hti : l.polys.take i = l.polys := List.take_of_length_le (by omega)
          rw [hti]
          refine AWP.ent (Ent.freeze 701 rfl) ?_
          repeat' (first |refine Fl.v rfl rfl rfl ?_ |refine Fl.nilF ?_ |refine AWP.seq ?_ |refine AWP.region ?_ |refine Fl.b rfl rfl rfl rfl ?_ |(refine AWP.condD rfl ?_ ?_ <;> intro _ <;> try (exfalso; omega)) |refine AWP.exit ?_ |refine AWP.ret ?_ |fail)
          exact RetOk.of rfl (AV.Le.refl _)
end Go.Proofs.YtfkjhjgihbnegaaGreat
namespace Go.AL
theorem get_eq {α : Type} {a b : List α} (hl : a.length = b.length) (h : ∀ (i : Nat) (x y : α), i < a.length → a[i]? = some x → b[i]? = some y → x = y) : a = b := by
  refine List.ext_getElem? fun i => ?_
  by_cases hi : i < a.length
  · rw [List.getElem?_eq_getElem hi, List.getElem?_eq_getElem (by omega)]
    exact congrArg some (h i _ _ hi (List.getElem?_eq_getElem hi) (List.getElem?_eq_getElem (by omega)))
  · rw [List.getElem?_eq_none (by omega), List.getElem?_eq_none (by omega)]
theorem z_eq {x y : Z} (h1 : x.neg = y.neg) (h2 : x.w = y.w) : x = y := by cases x; cases y; simp_all
theorem t_eq {x y : TZ} (h1 : x.c = y.c) (h2 : x.e = y.e) : x = y := by cases x; cases y; simp_all
theorem p_eq {x y : PZ} (h1 : x.vars = y.vars) (h2 : x.terms = y.terms) : x = y := by cases x; cases y; simp_all
theorem l_eq {x y : LZ} (h1 : x.kind = y.kind) (h2 : x.vars = y.vars) (h3 : x.polys = y.polys) : x = y := by cases x; cases y; simp_all
theorem s_eq {x y : SZ} (h1 : x.vars = y.vars) (h2 : x.links = y.links) : x = y := by cases x; cases y; simp_all
/-- words, lengths as the reference's comparison asks for them -/
def SmZ (z : Z) : Prop := WOk z.w ∧ z.w.length ≤ 1000000
def SmT (t : TZ) : Prop := SmZ t.c ∧ t.e.length ≤ 1000000
def SmP (p : PZ) : Prop := p.terms.length ≤ 1000000 ∧ ∀ t ∈ p.terms, SmT t
def SmL (l : LZ) : Prop := l.vars.length ≤ 1000000 ∧ l.polys.length ≤ 1000000 ∧ ∀ p ∈ l.polys, SmP p
def SmS (s : SZ) : Prop := s.links.length ≤ 1000000 ∧ ∀ l ∈ s.links, SmL l
end Go.AL
namespace Go.Proofs.YtfkjhjgihbnegaaGreat
open Go.AL

theorem rSameZ_ok (x y : Z) (hx : SmZ x) (hy : WOk y.w) (b : Bool) (hb : b = true ↔ x = y) : PureFn Tryz.prog 28 [aZ x, aZ y] (aB b) := by
  refine PureFn.of_body Tryz.func28 rfl Tryz.ntmps28 rfl rfl ?_
  obtain ⟨n, w⟩ := x
  obtain ⟨m, v⟩ := y
  have hsw := sameWords_ok w v hx.2 hx.1 hy
  have hbb : b = (decide (n = m) && decide (w = v)) := by
    rw [Bool.eq_iff_iff, hb]; simp
  repeat' (first |refine Fl.v rfl rfl rfl ?_ |refine Fl.nilF ?_ |refine AWP.seq ?_ |refine AWP.region ?_ |refine Fl.b rfl rfl rfl rfl ?_ |refine Fl.skip rfl rfl ?_ |refine AWP.ret ?_ |(refine Fl.splitD rfl rfl ?_ ?_ <;> intro _ <;> try (exfalso; omega)) |fail)
  · rename_i h
    have h : n = m := h
    refine Fl.call rfl (hsw) rfl rfl rfl (LeL.refl _) ?_
    repeat' (first |refine Fl.v rfl rfl rfl ?_ |refine Fl.nilF ?_ |refine AWP.ret ?_ |fail)
    exact RetOk.of rfl (AV.Le.bool (by rw [hbb, decide_eq_true h, Bool.true_and]))
  · rename_i h
    have h : ¬ n = m := h
    exact RetOk.of rfl (AV.Le.bool (by rw [hbb, decide_eq_false h, Bool.false_and]))
theorem rSameE_ok (a b : List Int) (ha : a.length ≤ 1000000) : PureFn Tryz.prog 58 [aI a, aI b] (aB (decide (a = b))) := by
  refine PureFn.of_body Tryz.func58 rfl Tryz.ntmps58 rfl rfl ?_
  by_cases hl : a.length = b.length
  · repeat' (first |refine Fl.v rfl rfl rfl ?_ |refine Fl.nilF ?_ |refine AWP.seq ?_ |refine AWP.region ?_ |(refine AWP.condN rfl ?_ ?_ <;> intro _ <;> try (exfalso; omega)) |refine AWP.block ?_ |refine AWP.skip ?_ |fail)
    refine AWP.loop (G := Nat) (fun i => i ≤ a.length ∧ ∀ (j : Nat) (x y : Int), j < i → a[j]? = some x → b[j]? = some y → x = y) (fun i => St.of [] [(0, aI a), (1, aI b), (5, aN i)] []) (fun i => a.length - i) 0 ⟨by omega, fun j x y h => by omega⟩ ?_ ?_
    · refine Ent.of [] ?_ ?_ rfl rfl
      repeat' (first | exact True.intro |refine ⟨⟨AV.Le.refl _, rfl⟩, ?_⟩ |refine ⟨⟨⟨_, rfl, BLe.cells (LeL.refl _)⟩, rfl⟩, ?_⟩ |refine ⟨⟨⟨_, rfl, BLe.row rfl⟩, rfl⟩, ?_⟩ |refine ⟨⟨⟨_, rfl, BLe.row ?_⟩, rfl⟩, ?_⟩ |refine ⟨⟨⟨_, rfl, BLe.cells ?_⟩, rfl⟩, ?_⟩ |refine ⟨⟨AV.Le.int ?_, rfl⟩, ?_⟩ |refine ⟨⟨AV.Le.bool ?_, rfl⟩, ?_⟩ |refine ⟨⟨AV.Le.sl ?_, rfl⟩, ?_⟩ |refine ⟨⟨AV.Le.of_eq ?_, rfl⟩, ?_⟩ | fail)
    · intro i ⟨k0, k1⟩
      by_cases hi : i < a.length
      · obtain ⟨x, hx⟩ : ∃ x, a[i]? = some x := ⟨_, List.getElem?_eq_getElem hi⟩
        obtain ⟨y, hy⟩ : ∃ y, b[i]? = some y := ⟨_, List.getElem?_eq_getElem (by omega)⟩
        repeat' (first |refine Fl.v rfl rfl rfl ?_ |refine Fl.nilF ?_ |refine Fl.nil (fun _ => by kernel_rfl) ?_ |refine AWP.seq ?_ |refine AWP.region ?_ |refine Fl.w rfl rfl rfl (by first | exact True.intro | omega) ?_ |(refine AWP.condD rfl ?_ ?_ <;> intro _ <;> try (exfalso; omega)) |(refine AWP.condN rfl ?_ ?_ <;> intro _ <;> try (exfalso; omega)) |refine AWP.block ?_ |refine AWP.skip ?_ |refine AWP.ret ?_ |refine Fl.elK rfl rfl rfl rfl rfl rfl rfl rfl (by assumption) (by omega) ?_ |fail)
        · rename_i h
          refine RetOk.of rfl (AV.Le.bool (Eq.symm (decide_eq_false fun e => h ?_)))
          subst e; rw [hx] at hy; injection hy
        · rename_i h
          refine LoopEnd.of (i + 1) ⟨by omega, fun j u v hj hu hv => ?_⟩ (by omega) ?_
          · by_cases hji : j < i
            · exact k1 j u v hji hu hv
            · have : j = i := by omega
              subst this
              rw [hx] at hu; rw [hy] at hv; cases hu; cases hv; exact h
          · refine Ent.of [] ?_ ?_ rfl rfl
            repeat' (first | exact True.intro |refine ⟨⟨AV.Le.refl _, rfl⟩, ?_⟩ |refine ⟨⟨⟨_, rfl, BLe.cells (LeL.refl _)⟩, rfl⟩, ?_⟩ |refine ⟨⟨⟨_, rfl, BLe.row rfl⟩, rfl⟩, ?_⟩ |refine ⟨⟨⟨_, rfl, BLe.row ?_⟩, rfl⟩, ?_⟩ |refine ⟨⟨⟨_, rfl, BLe.cells ?_⟩, rfl⟩, ?_⟩ |refine ⟨⟨AV.Le.int ?_, rfl⟩, ?_⟩ |refine ⟨⟨AV.Le.bool ?_, rfl⟩, ?_⟩ |refine ⟨⟨AV.Le.sl ?_, rfl⟩, ?_⟩ |refine ⟨⟨AV.Le.of_eq ?_, rfl⟩, ?_⟩ | fail)
      · repeat' (first |refine Fl.v rfl rfl rfl ?_ |refine Fl.nilF ?_ |refine AWP.seq ?_ |refine AWP.region ?_ |(refine AWP.condD rfl ?_ ?_ <;> intro _ <;> try (exfalso; omega)) |refine AWP.exit ?_ |refine AWP.ret ?_ |fail)
        exact RetOk.of rfl (AV.Le.bool (Eq.symm (decide_eq_true (get_eq hl fun j x y hj => k1 j x y (by omega)))))
  · repeat' (first |refine Fl.v rfl rfl rfl ?_ |refine Fl.nilF ?_ |refine AWP.seq ?_ |refine AWP.region ?_ |(refine AWP.condN rfl ?_ ?_ <;> intro _ <;> try (exfalso; omega)) |refine AWP.ret ?_ |fail)
    exact RetOk.of rfl (AV.Le.bool (Eq.symm (decide_eq_false fun e => hl (by rw [e]))))
theorem rSameP_ok (p q : PZ) (hp : SmP p) (hq : WP q) (b : Bool) (hb : b = true ↔ p = q) : PureFn Tryz.prog 22 [aP p, aP q] (aB b) := by
  refine PureFn.of_body Tryz.func22 rfl Tryz.ntmps22 rfl rfl ?_
  have hfalse : ¬ p = q → false = b := fun h => by cases b with | false => rfl | true => exact absurd (hb.1 rfl) h
  have hpl := hp.1
  by_cases hv : p.vars = q.vars
  · by_cases hl : p.terms.length = q.terms.length
    · repeat' (first |refine Fl.v rfl rfl rfl ?_ |refine Fl.nilF ?_ |refine AWP.seq ?_ |refine AWP.region ?_ |refine Fl.b rfl rfl rfl rfl ?_ |(refine AWP.condN rfl ?_ ?_ <;> intro _ <;> try (exfalso; omega)) |refine AWP.block ?_ |refine AWP.skip ?_ |(refine Fl.splitN rfl rfl ?_ ?_ <;> intro _ <;> try (exfalso; omega)) |fail)
      refine AWP.loop (G := Nat) (fun i => i ≤ p.terms.length ∧ ∀ (j : Nat) (x y : TZ), j < i → p.terms[j]? = some x → q.terms[j]? = some y → x = y) (fun i => St.of [] [(2, .ptr 2 0), (3, .ptr 3 0), (5, aN i)] [(2, .cells [aN p.vars, .sl 3 eT p.terms] 45), (3, .cells [aN q.vars, .sl 3 eT q.terms] 45)]) (fun i => p.terms.length - i) 0 ⟨by omega, fun j x y h => by omega⟩ ?_ ?_
      · refine Ent.of [] ?_ ?_ rfl rfl
        repeat' (first | exact True.intro |refine ⟨⟨AV.Le.refl _, rfl⟩, ?_⟩ |refine ⟨⟨⟨_, rfl, BLe.cells (LeL.refl _)⟩, rfl⟩, ?_⟩ |refine ⟨⟨⟨_, rfl, BLe.row rfl⟩, rfl⟩, ?_⟩ |refine ⟨⟨⟨_, rfl, BLe.row ?_⟩, rfl⟩, ?_⟩ |refine ⟨⟨⟨_, rfl, BLe.cells ?_⟩, rfl⟩, ?_⟩ |refine ⟨⟨AV.Le.int ?_, rfl⟩, ?_⟩ |refine ⟨⟨AV.Le.bool ?_, rfl⟩, ?_⟩ |refine ⟨⟨AV.Le.sl ?_, rfl⟩, ?_⟩ |refine ⟨⟨AV.Le.of_eq ?_, rfl⟩, ?_⟩ | fail)
      · intro i ⟨k0, k1⟩
        by_cases hi : i < p.terms.length
        · obtain ⟨x, hx⟩ : ∃ x, p.terms[i]? = some x := ⟨_, List.getElem?_eq_getElem hi⟩
          obtain ⟨y, hy⟩ : ∃ y, q.terms[i]? = some y := ⟨_, List.getElem?_eq_getElem (by omega)⟩
          have hxm := hp.2 x (List.mem_of_getElem? hx)
          have hym := hq y (List.mem_of_getElem? hy)
          have hbad : ¬ x = y → false = b := fun h => hfalse fun e => h (by subst e; rw [hx] at hy; injection hy)
          obtain ⟨f, hf⟩ := boolOf (fun u : Z × Z => u.1 = u.2)
          have hz := rSameZ_ok x.c y.c hxm.1 hym (f (x.c, y.c)) (hf _)
          have he := rSameE_ok x.e y.e hxm.2
          by_cases hc : x.c = y.c
          · rw [(hf (x.c, y.c)).2 hc] at hz
            by_cases hee : x.e = y.e
            · rw [decide_eq_true hee] at he
              repeat' (first |refine Fl.v rfl rfl rfl ?_ |refine Fl.nilF ?_ |refine AWP.seq ?_ |refine AWP.region ?_ |(refine AWP.condD rfl ?_ ?_ <;> intro _ <;> try (exfalso; omega)) |refine AWP.block ?_ |refine AWP.skip ?_ |refine Fl.elK rfl rfl rfl rfl rfl rfl rfl rfl (by assumption) (by omega) ?_ |fail)
              refine Fl.call rfl (hz) rfl rfl rfl (LeL.refl _) ?_
              repeat' (first |refine Fl.v rfl rfl rfl ?_ |refine Fl.elK rfl rfl rfl rfl rfl rfl rfl rfl (by assumption) (by omega) ?_ |fail)
              refine Fl.call rfl (he) rfl rfl rfl (LeL.refl _) ?_
              repeat' (first |refine Fl.v rfl rfl rfl ?_ |refine Fl.nilF ?_ |refine Fl.nil (fun _ => by kernel_rfl) ?_ |refine AWP.region ?_ |refine Fl.w rfl rfl rfl (by first | exact True.intro | omega) ?_ |refine AWP.condF rfl ?_ |refine AWP.skip ?_ |fail)
              refine LoopEnd.of (i + 1) ⟨by omega, fun j u v hj hu hv => ?_⟩ (by omega) ?_
              · by_cases hji : j < i
                · exact k1 j u v hji hu hv
                · have : j = i := by omega
                  subst this
                  rw [hx] at hu; rw [hy] at hv; cases hu; cases hv; exact t_eq hc hee
              · refine Ent.of [] ?_ ?_ rfl rfl
                repeat' (first | exact True.intro |refine ⟨⟨AV.Le.refl _, rfl⟩, ?_⟩ |refine ⟨⟨⟨_, rfl, BLe.cells (LeL.refl _)⟩, rfl⟩, ?_⟩ |refine ⟨⟨⟨_, rfl, BLe.row rfl⟩, rfl⟩, ?_⟩ |refine ⟨⟨⟨_, rfl, BLe.row ?_⟩, rfl⟩, ?_⟩ |refine ⟨⟨⟨_, rfl, BLe.cells ?_⟩, rfl⟩, ?_⟩ |refine ⟨⟨AV.Le.int ?_, rfl⟩, ?_⟩ |refine ⟨⟨AV.Le.bool ?_, rfl⟩, ?_⟩ |refine ⟨⟨AV.Le.sl ?_, rfl⟩, ?_⟩ |refine ⟨⟨AV.Le.of_eq ?_, rfl⟩, ?_⟩ | fail)
            · rw [decide_eq_false hee] at he
              repeat' (first |refine Fl.v rfl rfl rfl ?_ |refine Fl.nilF ?_ |refine AWP.seq ?_ |refine AWP.region ?_ |(refine AWP.condD rfl ?_ ?_ <;> intro _ <;> try (exfalso; omega)) |refine AWP.block ?_ |refine AWP.skip ?_ |refine Fl.elK rfl rfl rfl rfl rfl rfl rfl rfl (by assumption) (by omega) ?_ |fail)
              refine Fl.call rfl (hz) rfl rfl rfl (LeL.refl _) ?_
              repeat' (first |refine Fl.v rfl rfl rfl ?_ |refine Fl.elK rfl rfl rfl rfl rfl rfl rfl rfl (by assumption) (by omega) ?_ |fail)
              refine Fl.call rfl (he) rfl rfl rfl (LeL.refl _) ?_
              repeat' (first |refine Fl.v rfl rfl rfl ?_ |refine Fl.nilF ?_ |refine Fl.nil (fun _ => by kernel_rfl) ?_ |refine AWP.seq ?_ |refine AWP.region ?_ |refine AWP.condT rfl ?_ |refine AWP.ret ?_ |fail)
              exact RetOk.of rfl (AV.Le.bool (hbad fun e => hee (by rw [e])))
          · rw [show f (x.c, y.c) = false from Bool.eq_false_iff.2 fun h => hc ((hf _).1 h)] at hz
            repeat' (first |refine Fl.v rfl rfl rfl ?_ |refine Fl.nilF ?_ |refine AWP.seq ?_ |refine AWP.region ?_ |(refine AWP.condD rfl ?_ ?_ <;> intro _ <;> try (exfalso; omega)) |refine AWP.block ?_ |refine AWP.skip ?_ |refine Fl.elK rfl rfl rfl rfl rfl rfl rfl rfl (by assumption) (by omega) ?_ |fail)
            refine Fl.call rfl (hz) rfl rfl rfl (LeL.refl _) ?_
            repeat' (first |refine Fl.v rfl rfl rfl ?_ |refine Fl.nilF ?_ |refine Fl.nil (fun _ => by kernel_rfl) ?_ |refine AWP.seq ?_ |refine AWP.region ?_ |refine Fl.skip rfl rfl ?_ |refine AWP.condT rfl ?_ |refine AWP.ret ?_ |fail)
            exact RetOk.of rfl (AV.Le.bool (hbad fun e => hc (by rw [e])))
        · repeat' (first |refine Fl.v rfl rfl rfl ?_ |refine Fl.nilF ?_ |refine AWP.seq ?_ |refine AWP.region ?_ |(refine AWP.condD rfl ?_ ?_ <;> intro _ <;> try (exfalso; omega)) |refine AWP.exit ?_ |refine AWP.ret ?_ |fail)
          exact RetOk.of rfl (AV.Le.bool (Eq.symm (hb.2 (p_eq hv (get_eq hl fun j x y hj => k1 j x y (by omega))))))
    · repeat' (first |refine Fl.v rfl rfl rfl ?_ |refine Fl.nilF ?_ |refine AWP.seq ?_ |refine AWP.region ?_ |refine Fl.b rfl rfl rfl rfl ?_ |(refine AWP.condN rfl ?_ ?_ <;> intro _ <;> try (exfalso; omega)) |refine AWP.ret ?_ |(refine Fl.splitN rfl rfl ?_ ?_ <;> intro _ <;> try (exfalso; omega)) |fail)
      exact RetOk.of rfl (AV.Le.bool (hfalse fun e => hl (by rw [e])))
  · repeat' (first |refine Fl.v rfl rfl rfl ?_ |refine Fl.nilF ?_ |refine AWP.seq ?_ |refine AWP.region ?_ |refine Fl.b rfl rfl rfl rfl ?_ |refine Fl.skip rfl rfl ?_ |refine AWP.condT rfl ?_ |refine AWP.ret ?_ |(refine Fl.splitN rfl rfl ?_ ?_ <;> intro _ <;> try (exfalso; omega)) |fail)
    exact RetOk.of rfl (AV.Le.bool (hfalse fun e => hv (by rw [e])))
theorem rSameL_ok (p q : LZ) (hp : SmL p) (hq : WL q) (b : Bool) (hb : b = true ↔ p = q) : PureFn Tryz.prog 49 [aL p, aL q] (aB b) := by
  refine PureFn.of_body Tryz.func49 rfl Tryz.ntmps49 rfl rfl ?_
  have hfalse : ¬ p = q → false = b := fun h => by cases b with | false => rfl | true => exact absurd (hb.1 rfl) h
  obtain ⟨g1, g2, g3⟩ := hp
  have he := rSameE_ok p.vars q.vars g1
  by_cases hk : p.kind = q.kind
  · by_cases hv : p.vars = q.vars
    · rw [decide_eq_true hv] at he
      by_cases hl : p.polys.length = q.polys.length
      · repeat' (first |refine Fl.v rfl rfl rfl ?_ |refine Fl.nilF ?_ |refine AWP.seq ?_ |refine AWP.region ?_ |refine Fl.b rfl rfl rfl rfl ?_ |(refine Fl.splitN rfl rfl ?_ ?_ <;> intro _ <;> try (exfalso; omega)) |fail)
        refine Fl.call rfl (he) rfl rfl rfl (LeL.refl _) ?_
        repeat' (first |refine Fl.v rfl rfl rfl ?_ |refine Fl.nilF ?_ |refine AWP.seq ?_ |refine AWP.region ?_ |(refine AWP.condN rfl ?_ ?_ <;> intro _ <;> try (exfalso; omega)) |refine AWP.block ?_ |refine AWP.skip ?_ |fail)
        refine AWP.loop (G := Nat) (fun i => i ≤ p.polys.length ∧ ∀ (j : Nat) (x y : PZ), j < i → p.polys[j]? = some x → q.polys[j]? = some y → x = y) (fun i => St.of [] [(2, .ptr 2 0), (3, .ptr 3 0), (5, aN i)] [(2, .cells (eL p) 51), (3, .cells (eL q) 51)]) (fun i => p.polys.length - i) 0 ⟨by omega, fun j x y h => by omega⟩ ?_ ?_
        · refine Ent.of [] ?_ ?_ rfl rfl
          repeat' (first | exact True.intro |refine ⟨⟨AV.Le.refl _, rfl⟩, ?_⟩ |refine ⟨⟨⟨_, rfl, BLe.cells (LeL.refl _)⟩, rfl⟩, ?_⟩ |refine ⟨⟨⟨_, rfl, BLe.row rfl⟩, rfl⟩, ?_⟩ |refine ⟨⟨⟨_, rfl, BLe.row ?_⟩, rfl⟩, ?_⟩ |refine ⟨⟨⟨_, rfl, BLe.cells ?_⟩, rfl⟩, ?_⟩ |refine ⟨⟨AV.Le.int ?_, rfl⟩, ?_⟩ |refine ⟨⟨AV.Le.bool ?_, rfl⟩, ?_⟩ |refine ⟨⟨AV.Le.sl ?_, rfl⟩, ?_⟩ |refine ⟨⟨AV.Le.of_eq ?_, rfl⟩, ?_⟩ | fail)
        · intro i ⟨k0, k1⟩
          by_cases hi : i < p.polys.length
          · obtain ⟨x, hx⟩ : ∃ x, p.polys[i]? = some x := ⟨_, List.getElem?_eq_getElem hi⟩
            obtain ⟨y, hy⟩ : ∃ y, q.polys[i]? = some y := ⟨_, List.getElem?_eq_getElem (by omega)⟩
            have hxm := g3 x (List.mem_of_getElem? hx)
            have hym := hq y (List.mem_of_getElem? hy)
            obtain ⟨f, hf⟩ := boolOf (fun u : PZ × PZ => u.1 = u.2)
            have hz := rSameP_ok x y hxm hym (f (x, y)) (hf _)
            by_cases hc : x = y
            · rw [(hf (x, y)).2 hc] at hz
              repeat' (first |refine Fl.v rfl rfl rfl ?_ |refine Fl.nilF ?_ |refine AWP.seq ?_ |refine AWP.region ?_ |(refine AWP.condD rfl ?_ ?_ <;> intro _ <;> try (exfalso; omega)) |refine AWP.block ?_ |refine AWP.skip ?_ |refine Fl.elK rfl rfl rfl rfl rfl rfl rfl rfl (by assumption) (by omega) ?_ |fail)
              refine Fl.call rfl (hz) rfl rfl rfl (LeL.refl _) ?_
              repeat' (first |refine Fl.v rfl rfl rfl ?_ |refine Fl.nilF ?_ |refine Fl.nil (fun _ => by kernel_rfl) ?_ |refine AWP.region ?_ |refine Fl.w rfl rfl rfl (by first | exact True.intro | omega) ?_ |refine AWP.condF rfl ?_ |refine AWP.skip ?_ |fail)
              refine LoopEnd.of (i + 1) ⟨by omega, fun j u v hj hu hv => ?_⟩ (by omega) ?_
              · by_cases hji : j < i
                · exact k1 j u v hji hu hv
                · have : j = i := by omega
                  subst this
                  rw [hx] at hu; rw [hy] at hv; cases hu; cases hv; exact hc
              · refine Ent.of [] ?_ ?_ rfl rfl
                repeat' (first | exact True.intro |refine ⟨⟨AV.Le.refl _, rfl⟩, ?_⟩ |refine ⟨⟨⟨_, rfl, BLe.cells (LeL.refl _)⟩, rfl⟩, ?_⟩ |refine ⟨⟨⟨_, rfl, BLe.row rfl⟩, rfl⟩, ?_⟩ |refine ⟨⟨⟨_, rfl, BLe.row ?_⟩, rfl⟩, ?_⟩ |refine ⟨⟨⟨_, rfl, BLe.cells ?_⟩, rfl⟩, ?_⟩ |refine ⟨⟨AV.Le.int ?_, rfl⟩, ?_⟩ |refine ⟨⟨AV.Le.bool ?_, rfl⟩, ?_⟩ |refine ⟨⟨AV.Le.sl ?_, rfl⟩, ?_⟩ |refine ⟨⟨AV.Le.of_eq ?_, rfl⟩, ?_⟩ | fail)
            · rw [show f (x, y) = false from Bool.eq_false_iff.2 fun h => hc ((hf _).1 h)] at hz
              repeat' (first |refine Fl.v rfl rfl rfl ?_ |refine Fl.nilF ?_ |refine AWP.seq ?_ |refine AWP.region ?_ |(refine AWP.condD rfl ?_ ?_ <;> intro _ <;> try (exfalso; omega)) |refine AWP.block ?_ |refine AWP.skip ?_ |refine Fl.elK rfl rfl rfl rfl rfl rfl rfl rfl (by assumption) (by omega) ?_ |fail)
              refine Fl.call rfl (hz) rfl rfl rfl (LeL.refl _) ?_
              repeat' (first |refine Fl.v rfl rfl rfl ?_ |refine Fl.nilF ?_ |refine Fl.nil (fun _ => by kernel_rfl) ?_ |refine AWP.seq ?_ |refine AWP.region ?_ |refine AWP.condT rfl ?_ |refine AWP.ret ?_ |fail)
              exact RetOk.of rfl (AV.Le.bool (hfalse fun e => hc (by subst e; rw [hx] at hy; injection hy)))
          · repeat' (first |refine Fl.v rfl rfl rfl ?_ |refine Fl.nilF ?_ |refine AWP.seq ?_ |refine AWP.region ?_ |(refine AWP.condD rfl ?_ ?_ <;> intro _ <;> try (exfalso; omega)) |refine AWP.exit ?_ |refine AWP.ret ?_ |fail)
            exact RetOk.of rfl (AV.Le.bool (Eq.symm (hb.2 (l_eq hk hv (get_eq hl fun j x y hj => k1 j x y (by omega))))))
      · repeat' (first |refine Fl.v rfl rfl rfl ?_ |refine Fl.nilF ?_ |refine AWP.seq ?_ |refine AWP.region ?_ |refine Fl.b rfl rfl rfl rfl ?_ |(refine Fl.splitN rfl rfl ?_ ?_ <;> intro _ <;> try (exfalso; omega)) |fail)
        refine Fl.call rfl (he) rfl rfl rfl (LeL.refl _) ?_
        repeat' (first |refine Fl.v rfl rfl rfl ?_ |refine Fl.nilF ?_ |refine AWP.seq ?_ |refine AWP.region ?_ |(refine AWP.condN rfl ?_ ?_ <;> intro _ <;> try (exfalso; omega)) |refine AWP.ret ?_ |fail)
        exact RetOk.of rfl (AV.Le.bool (hfalse fun e => hl (by rw [e])))
    · rw [decide_eq_false hv] at he
      repeat' (first |refine Fl.v rfl rfl rfl ?_ |refine Fl.nilF ?_ |refine AWP.seq ?_ |refine AWP.region ?_ |refine Fl.b rfl rfl rfl rfl ?_ |(refine Fl.splitN rfl rfl ?_ ?_ <;> intro _ <;> try (exfalso; omega)) |fail)
      refine Fl.call rfl (he) rfl rfl rfl (LeL.refl _) ?_
      repeat' (first |refine Fl.v rfl rfl rfl ?_ |refine Fl.nilF ?_ |refine AWP.seq ?_ |refine AWP.region ?_ |refine Fl.skip rfl rfl ?_ |refine AWP.condT rfl ?_ |refine AWP.ret ?_ |fail)
      exact RetOk.of rfl (AV.Le.bool (hfalse fun e => hv (by rw [e])))
  · repeat' (first |refine Fl.v rfl rfl rfl ?_ |refine Fl.nilF ?_ |refine AWP.seq ?_ |refine AWP.region ?_ |refine Fl.b rfl rfl rfl rfl ?_ |refine Fl.skip rfl rfl ?_ |refine AWP.condT rfl ?_ |refine AWP.ret ?_ |(refine Fl.splitN rfl rfl ?_ ?_ <;> intro _ <;> try (exfalso; omega)) |fail)
    exact RetOk.of rfl (AV.Le.bool (hfalse fun e => hk (by rw [e])))
theorem rSameS_ok (p q : SZ) (hp : SmS p) (hq : WS q) (b : Bool) (hb : b = true ↔ p = q) : PureFn Tryz.prog 19 [aS p, aS q] (aB b) := by
  refine PureFn.of_body Tryz.func19 rfl Tryz.ntmps19 rfl rfl ?_
  have hfalse : ¬ p = q → false = b := fun h => by cases b with | false => rfl | true => exact absurd (hb.1 rfl) h
  have hpl := hp.1
  by_cases hv : p.vars = q.vars
  · by_cases hl : p.links.length = q.links.length
    · repeat' (first |refine Fl.v rfl rfl rfl ?_ |refine Fl.nilF ?_ |refine AWP.seq ?_ |refine AWP.region ?_ |refine Fl.b rfl rfl rfl rfl ?_ |(refine AWP.condN rfl ?_ ?_ <;> intro _ <;> try (exfalso; omega)) |refine AWP.block ?_ |refine AWP.skip ?_ |(refine Fl.splitN rfl rfl ?_ ?_ <;> intro _ <;> try (exfalso; omega)) |fail)
      refine AWP.loop (G := Nat) (fun i => i ≤ p.links.length ∧ ∀ (j : Nat) (x y : LZ), j < i → p.links[j]? = some x → q.links[j]? = some y → x = y) (fun i => St.of [] [(2, .ptr 2 0), (3, .ptr 3 0), (5, aN i)] [(2, .cells [aN p.vars, .sl 3 eL p.links] 24), (3, .cells [aN q.vars, .sl 3 eL q.links] 24)]) (fun i => p.links.length - i) 0 ⟨by omega, fun j x y h => by omega⟩ ?_ ?_
      · refine Ent.of [] ?_ ?_ rfl rfl
        repeat' (first | exact True.intro |refine ⟨⟨AV.Le.refl _, rfl⟩, ?_⟩ |refine ⟨⟨⟨_, rfl, BLe.cells (LeL.refl _)⟩, rfl⟩, ?_⟩ |refine ⟨⟨⟨_, rfl, BLe.row rfl⟩, rfl⟩, ?_⟩ |refine ⟨⟨⟨_, rfl, BLe.row ?_⟩, rfl⟩, ?_⟩ |refine ⟨⟨⟨_, rfl, BLe.cells ?_⟩, rfl⟩, ?_⟩ |refine ⟨⟨AV.Le.int ?_, rfl⟩, ?_⟩ |refine ⟨⟨AV.Le.bool ?_, rfl⟩, ?_⟩ |refine ⟨⟨AV.Le.sl ?_, rfl⟩, ?_⟩ |refine ⟨⟨AV.Le.of_eq ?_, rfl⟩, ?_⟩ | fail)
      · intro i ⟨k0, k1⟩
        by_cases hi : i < p.links.length
        · obtain ⟨x, hx⟩ : ∃ x, p.links[i]? = some x := ⟨_, List.getElem?_eq_getElem hi⟩
          obtain ⟨y, hy⟩ : ∃ y, q.links[i]? = some y := ⟨_, List.getElem?_eq_getElem (by omega)⟩
          have hxm := hp.2 x (List.mem_of_getElem? hx)
          have hym := hq y (List.mem_of_getElem? hy)
          obtain ⟨f, hf⟩ := boolOf (fun u : LZ × LZ => u.1 = u.2)
          have hz := rSameL_ok x y hxm hym (f (x, y)) (hf _)
          by_cases hc : x = y
          · rw [(hf (x, y)).2 hc] at hz
            repeat' (first |refine Fl.v rfl rfl rfl ?_ |refine Fl.nilF ?_ |refine AWP.seq ?_ |refine AWP.region ?_ |(refine AWP.condD rfl ?_ ?_ <;> intro _ <;> try (exfalso; omega)) |refine AWP.block ?_ |refine AWP.skip ?_ |refine Fl.elK rfl rfl rfl rfl rfl rfl rfl rfl (by assumption) (by omega) ?_ |fail)
            refine Fl.call rfl (hz) rfl rfl rfl (LeL.refl _) ?_
            repeat' (first |refine Fl.v rfl rfl rfl ?_ |refine Fl.nilF ?_ |refine Fl.nil (fun _ => by kernel_rfl) ?_ |refine AWP.region ?_ |refine Fl.w rfl rfl rfl (by first | exact True.intro | omega) ?_ |refine AWP.condF rfl ?_ |refine AWP.skip ?_ |fail)
            refine LoopEnd.of (i + 1) ⟨by omega, fun j u v hj hu hv => ?_⟩ (by omega) ?_
            · by_cases hji : j < i
              · exact k1 j u v hji hu hv
              · have : j = i := by omega
                subst this
                rw [hx] at hu; rw [hy] at hv; cases hu; cases hv; exact hc
            · refine Ent.of [] ?_ ?_ rfl rfl
              repeat' (first | exact True.intro |refine ⟨⟨AV.Le.refl _, rfl⟩, ?_⟩ |refine ⟨⟨⟨_, rfl, BLe.cells (LeL.refl _)⟩, rfl⟩, ?_⟩ |refine ⟨⟨⟨_, rfl, BLe.row rfl⟩, rfl⟩, ?_⟩ |refine ⟨⟨⟨_, rfl, BLe.row ?_⟩, rfl⟩, ?_⟩ |refine ⟨⟨⟨_, rfl, BLe.cells ?_⟩, rfl⟩, ?_⟩ |refine ⟨⟨AV.Le.int ?_, rfl⟩, ?_⟩ |refine ⟨⟨AV.Le.bool ?_, rfl⟩, ?_⟩ |refine ⟨⟨AV.Le.sl ?_, rfl⟩, ?_⟩ |refine ⟨⟨AV.Le.of_eq ?_, rfl⟩, ?_⟩ | fail)
          · rw [show f (x, y) = false from Bool.eq_false_iff.2 fun h => hc ((hf _).1 h)] at hz
            repeat' (first |refine Fl.v rfl rfl rfl ?_ |refine Fl.nilF ?_ |refine AWP.seq ?_ |refine AWP.region ?_ |(refine AWP.condD rfl ?_ ?_ <;> intro _ <;> try (exfalso; omega)) |refine AWP.block ?_ |refine AWP.skip ?_ |refine Fl.elK rfl rfl rfl rfl rfl rfl rfl rfl (by assumption) (by omega) ?_ |fail)
            refine Fl.call rfl (hz) rfl rfl rfl (LeL.refl _) ?_
            repeat' (first |refine Fl.v rfl rfl rfl ?_ |refine Fl.nilF ?_ |refine Fl.nil (fun _ => by kernel_rfl) ?_ |refine AWP.seq ?_ |refine AWP.region ?_ |refine AWP.condT rfl ?_ |refine AWP.ret ?_ |fail)
            exact RetOk.of rfl (AV.Le.bool (hfalse fun e => hc (by subst e; rw [hx] at hy; injection hy)))
        · repeat' (first |refine Fl.v rfl rfl rfl ?_ |refine Fl.nilF ?_ |refine AWP.seq ?_ |refine AWP.region ?_ |(refine AWP.condD rfl ?_ ?_ <;> intro _ <;> try (exfalso; omega)) |refine AWP.exit ?_ |refine AWP.ret ?_ |fail)
          exact RetOk.of rfl (AV.Le.bool (Eq.symm (hb.2 (s_eq hv (get_eq hl fun j x y hj => k1 j x y (by omega))))))
    · repeat' (first |refine Fl.v rfl rfl rfl ?_ |refine Fl.nilF ?_ |refine AWP.seq ?_ |refine AWP.region ?_ |refine Fl.b rfl rfl rfl rfl ?_ |(refine AWP.condN rfl ?_ ?_ <;> intro _ <;> try (exfalso; omega)) |refine AWP.ret ?_ |(refine Fl.splitN rfl rfl ?_ ?_ <;> intro _ <;> try (exfalso; omega)) |fail)
      exact RetOk.of rfl (AV.Le.bool (hfalse fun e => hl (by rw [e])))
  · repeat' (first |refine Fl.v rfl rfl rfl ?_ |refine Fl.nilF ?_ |refine AWP.seq ?_ |refine AWP.region ?_ |refine Fl.b rfl rfl rfl rfl ?_ |refine Fl.skip rfl rfl ?_ |refine AWP.condT rfl ?_ |refine AWP.ret ?_ |(refine Fl.splitN rfl rfl ?_ ?_ <;> intro _ <;> try (exfalso; omega)) |fail)
    exact RetOk.of rfl (AV.Le.bool (hfalse fun e => hv (by rw [e])))
end Go.Proofs.YtfkjhjgihbnegaaGreat
namespace Go.AL
theorem holdsR_cases (f g : LZ → Bool) : ∀ ls : List LZ, (holdsR f g ls = (true, 0) ∧ ∀ l ∈ ls, g l = true) ∨ (holdsR f g ls = (false, 0) ∧ ∃ l ∈ ls, g l = false) ∨ holdsR f g ls = (false, 4)
  | [] => .inl ⟨rfl, by simp⟩
  | l :: ls => by
    unfold holdsR
    cases hf : f l with
    | false => exact .inr (.inr rfl)
    | true =>
      cases hg : g l with
      | false => exact .inr (.inl ⟨rfl, l, by simp, hg⟩)
      | true =>
        rcases holdsR_cases f g ls with ⟨h1, h2⟩ | ⟨h1, x, hx, h2⟩ | h1
        · exact .inl ⟨by simpa using h1, fun y hy => by
            rcases List.mem_cons.1 hy with rfl | hy
            · exact hg
            · exact h2 y hy⟩
        · exact .inr (.inl ⟨by simpa using h1, x, by simp [hx], h2⟩)
        · exact .inr (.inr (by simpa using h1))
theorem holdsR_app1 (f g : LZ → Bool) (ms : List LZ) : ∀ ls : List LZ, holdsR f g ls = (true, 0) → holdsR f g (ls ++ ms) = holdsR f g ms
  | [], _ => rfl
  | l :: ls, h => by
    change (if f l = true then (if g l = true then holdsR f g (ls ++ ms) else (false, 0)) else (false, 4)) = holdsR f g ms
    unfold holdsR at h
    by_cases hf : f l = true
    · rw [if_pos hf] at h ⊢
      by_cases hg : g l = true
      · rw [if_pos hg] at h ⊢; exact holdsR_app1 f g ms ls h
      · rw [if_neg hg] at h; simp at h
    · rw [if_neg hf] at h; simp at h
theorem holdsR_app2 (f g : LZ → Bool) (ms : List LZ) : ∀ ls : List LZ, holdsR f g ls ≠ (true, 0) → holdsR f g (ls ++ ms) = holdsR f g ls
  | [], h => absurd rfl h
  | l :: ls, h => by
    rw [List.cons_append]
    unfold holdsR at h ⊢
    by_cases hf : f l = true
    · rw [if_pos hf] at h ⊢
      rw [if_pos hf]
      by_cases hg : g l = true
      · rw [if_pos hg] at h ⊢
        rw [if_pos hg]; exact holdsR_app2 f g ms ls h
      · rw [if_neg hg, if_neg hg]
    · rw [if_neg hf, if_neg hf]
/-- what may come out for two systems and for both together -/
inductive Tri : Bool × Int → Bool × Int → Bool × Int → Prop
  | f1 (q r) : Tri (false, 1) q r
  | f2 (q r) : Tri (false, 2) q r
  | f4 (q r) : Tri (false, 4) q r
  | g4 (a r) : Tri (a, 0) (false, 4) r
  | ok (a b : Bool) : Tri (a, 0) (b, 0) (a && b, 0)
theorem Tri.of (f g : LZ → Bool) (ls ms : List LZ) : Tri (holdsR f g ls) (holdsR f g ms) (holdsR f g (ls ++ ms)) := by
  rcases holdsR_cases f g ls with ⟨h1, _⟩ | ⟨h1, _⟩ | h1
  · rw [holdsR_app1 f g ms ls h1, h1]
    rcases holdsR_cases f g ms with ⟨h2, _⟩ | ⟨h2, _⟩ | h2
    · rw [h2]; exact .ok true true
    · rw [h2]; exact .ok true false
    · rw [h2]; exact .g4 _ _
  · rw [holdsR_app2 f g ms ls (by rw [h1]; simp), h1]
    rcases holdsR_cases f g ms with ⟨h2, _⟩ | ⟨h2, _⟩ | h2
    · rw [h2]; exact .ok false true
    · rw [h2]; exact .ok false false
    · rw [h2]; exact .g4 _ _
  · rw [h1]; exact .f4 _ _
theorem map_add0 (l : List Int) : l.map (· + 0) = l := by simp
theorem needI_le (k : Int) : needI k ≤ 3 := by unfold needI; repeat' split <;> omega
theorem OkP.sm {p : PZ} (h : OkP p) (hw : WP p) : SmP p := ⟨by have := h.len; omega, fun t ht => ⟨⟨hw t ht, by have := (h.terms t ht).coef.1; omega⟩, by have := (h.terms t ht).len; have := h.v1; omega⟩⟩
theorem OkL.sm {v : Int} {l : LZ} (h : OkL v l) (hw : WL l) : SmL l := ⟨by have := h.vlen; omega, by have := h.len; have := needI_le l.kind; omega, fun p hp => (h.polys p hp).2.sm (hw p hp)⟩
theorem OkS.sm {s : SZ} (h : OkS s) (hw : WS s) : SmS s := ⟨by have := h.len; omega, fun l hl => (h.links l hl).sm (hw l hl)⟩
end Go.AL
namespace Go.Proofs.YtfkjhjgihbnegaaGreat
open Go.AL

theorem Join_form (a b : SZ) (ha : WS a) (hb : WS b) (h : ¬ (OkS a ∧ OkS b)) : PureFn Tryz.prog 18 [aS a, aS b] (.tup [.agg [aN 0, .v (.slice none 0 0)], aN 1]) := by
  refine PureFn.of_body Tryz.func18 rfl Tryz.ntmps18 rfl rfl ?_
  by_cases hsa : OkS a
  · repeat' (first |refine Fl.v rfl rfl rfl ?_ |refine Fl.nilF ?_ |refine AWP.seq ?_ |refine AWP.region ?_ |refine Fl.b rfl rfl rfl rfl ?_ |refine AWP.block ?_ |fail)
    refine Fl.call rfl (sValid_ok a ha true ⟨fun _ => hsa, fun _ => rfl⟩) rfl rfl rfl (LeL.refl _) ?_
    repeat' (first |refine Fl.v rfl rfl rfl ?_ |fail)
    refine Fl.call rfl (sValid_ok b hb false ⟨fun k => (by cases k), fun k => absurd ⟨hsa, k⟩ h⟩) rfl rfl rfl (LeL.refl _) ?_
    repeat' (first |refine Fl.v rfl rfl rfl ?_ |refine Fl.nilF ?_ |refine AWP.seq ?_ |refine AWP.region ?_ |refine Fl.b rfl rfl rfl rfl ?_ |refine AWP.condT rfl ?_ |refine AWP.ret ?_ |fail)
    exact RetOk.of rfl (AV.Le.refl _)
  · repeat' (first |refine Fl.v rfl rfl rfl ?_ |refine Fl.nilF ?_ |refine AWP.seq ?_ |refine AWP.region ?_ |refine Fl.b rfl rfl rfl rfl ?_ |refine AWP.block ?_ |fail)
    refine Fl.call rfl (sValid_ok a ha false ⟨fun k => (by cases k), fun k => absurd k hsa⟩) rfl rfl rfl (LeL.refl _) ?_
    repeat' (first |refine Fl.v rfl rfl rfl ?_ |refine Fl.nilF ?_ |refine AWP.seq ?_ |refine AWP.region ?_ |refine Fl.b rfl rfl rfl rfl ?_ |refine Fl.skip rfl rfl ?_ |refine AWP.condT rfl ?_ |refine AWP.ret ?_ |fail)
    exact RetOk.of rfl (AV.Le.refl _)
theorem Join_arg (a b : SZ) (ha : WS a) (hb : WS b) (hsa : OkS a) (hsb : OkS b) (h : ¬ a.vars = b.vars) : PureFn Tryz.prog 18 [aS a, aS b] (.tup [.agg [aN 0, .v (.slice none 0 0)], aN 2]) := by
  refine PureFn.of_body Tryz.func18 rfl Tryz.ntmps18 rfl rfl ?_
  repeat' (first |refine Fl.v rfl rfl rfl ?_ |refine Fl.nilF ?_ |refine AWP.seq ?_ |refine AWP.region ?_ |refine Fl.b rfl rfl rfl rfl ?_ |refine AWP.block ?_ |fail)
  refine Fl.call rfl (sValid_ok a ha true ⟨fun _ => hsa, fun _ => rfl⟩) rfl rfl rfl (LeL.refl _) ?_
  repeat' (first |refine Fl.v rfl rfl rfl ?_ |fail)
  refine Fl.call rfl (sValid_ok b hb true ⟨fun _ => hsb, fun _ => rfl⟩) rfl rfl rfl (LeL.refl _) ?_
  repeat' (first |refine Fl.v rfl rfl rfl ?_ |refine Fl.nilF ?_ |refine AWP.seq ?_ |refine AWP.region ?_ |refine Fl.b rfl rfl rfl rfl ?_ |refine AWP.condF rfl ?_ |(refine AWP.condN rfl ?_ ?_ <;> intro _ <;> try (exfalso; omega)) |refine AWP.ret ?_ |fail)
  exact RetOk.of rfl (AV.Le.refl _)
set_option maxHeartbeats 1000000 in
theorem Join_ok (a b : SZ) (ha : WS a) (hb : WS b) (hsa : OkS a) (hsb : OkS b) (hv : a.vars = b.vars) (hl : a.links.length + b.links.length ≤ 20000) : PureFn Tryz.prog 18 [aS a, aS b] (.tup [aS ⟨a.vars, a.links ++ b.links⟩, aN 0]) := by
  refine PureFn.of_body Tryz.func18 rfl Tryz.ntmps18 rfl rfl ?_
  have hv1 := hsa.v1
  have hcc := concat_ok [a.links, b.links] (by simp) (by simp; omega)
  rw [show [a.links, b.links].flatten = a.links ++ b.links by simp] at hcc
  have hok : ∀ l ∈ a.links ++ b.links, OkL a.vars l := fun l hm => by
    rcases List.mem_append.1 hm with h | h
    · exact hsa.links l h
    · rw [hv]; exact hsb.links l h
  have hlen : (a.links ++ b.links).length ≤ 20000 := by rw [List.length_append]; omega
  refine AWP.seqS ?_
  repeat' (first |refine Fl.v rfl rfl rfl ?_ |refine Fl.nilF ?_ |refine AWP.region ?_ |refine Fl.b rfl rfl rfl rfl ?_ |fail)
  refine ⟨?_⟩
  refine AWP.seqS ?_
  repeat' (first |refine Fl.v rfl rfl rfl ?_ |refine AWP.seq ?_ |refine AWP.region ?_ |refine AWP.block ?_ |fail)
  refine Fl.call rfl (sValid_ok a ha true ⟨fun _ => hsa, fun _ => rfl⟩) rfl rfl rfl (LeL.refl _) ?_
  repeat' (first |refine Fl.v rfl rfl rfl ?_ |fail)
  refine Fl.call rfl (sValid_ok b hb true ⟨fun _ => hsb, fun _ => rfl⟩) rfl rfl rfl (LeL.refl _) ?_
  repeat' (first |refine Fl.v rfl rfl rfl ?_ |refine Fl.nilF ?_ |refine AWP.seq ?_ |refine AWP.region ?_ |refine Fl.w rfl rfl rfl (by first | exact True.intro | omega) ?_ |refine AWP.condF rfl ?_ |(refine AWP.condD rfl ?_ ?_ <;> intro _ <;> try (exfalso; omega)) |(refine AWP.condN rfl ?_ ?_ <;> intro _ <;> try (exfalso; omega)) |refine AWP.skip ?_ |fail)
  refine ⟨?_⟩
  refine AWP.seqS ?_
  repeat' (first |refine Fl.v rfl rfl rfl ?_ |refine Fl.nilF ?_ |refine AWP.region ?_ |refine Fl.b rfl rfl rfl rfl ?_ |fail)
  refine ⟨?_⟩
  refine AWP.ent (Ent.nilcell 6 1 806 rfl rfl rfl 3 eL 51) ?_
  repeat' (first |refine Fl.v rfl rfl rfl ?_ |refine AWP.seq ?_ |refine AWP.region ?_ |fail)
  refine Fl.lit rfl rfl rfl rfl rfl eLs [a.links, b.links] rfl rfl rfl rfl (by intro _ _; rfl) rfl ?_
  skip
  refine Fl.call rfl (hcc) rfl rfl rfl (LeL.refl _) ?_
  repeat' (first |refine Fl.v rfl rfl rfl ?_ |refine Fl.nilF ?_ |refine AWP.block ?_ |fail)
  revert hok hlen
  generalize a.links ++ b.links = ls
  intro hok hlen
  refine AWP.loop (G := Nat) (fun i => i ≤ ls.length) (fun i => St.of [] [(4, .ptr 4 0), (6, .ptr 6 0), (44, .sl 3 eL ls), (45, aN ls.length), (46, aN i)] [(4, .cells [aN 0, .v (.slice none 0 0)] 24), (6, .cells [aN a.vars, .row 700] 24), (700, .row 3 eL (ls.take i) 51)]) (fun i => ls.length - i) 0 (by omega) ?_ ?_
  · refine Ent.of [(700, 806)] ?_ ?_ rfl rfl
    repeat' (first | exact True.intro |refine ⟨⟨AV.Le.refl _, rfl⟩, ?_⟩ |refine ⟨⟨⟨_, rfl, BLe.cells (LeL.refl _)⟩, rfl⟩, ?_⟩ |refine ⟨⟨⟨_, rfl, BLe.row rfl⟩, rfl⟩, ?_⟩ |refine ⟨⟨⟨_, rfl, BLe.row ?_⟩, rfl⟩, ?_⟩ |refine ⟨⟨⟨_, rfl, BLe.cells ?_⟩, rfl⟩, ?_⟩ |refine ⟨⟨AV.Le.int ?_, rfl⟩, ?_⟩ |refine ⟨⟨AV.Le.bool ?_, rfl⟩, ?_⟩ |refine ⟨⟨AV.Le.sl ?_, rfl⟩, ?_⟩ |refine ⟨⟨AV.Le.of_eq ?_, rfl⟩, ?_⟩ | fail)
  · intro i k0
    have hli : (ls.take i).length = i := by simp; omega
    by_cases hi : i < ls.length
    · obtain ⟨l, hl⟩ : ∃ l, ls[i]? = some l := ⟨_, List.getElem?_eq_getElem hi⟩
      have hcp := Copied_ok l 0 a.vars (hok l (List.mem_of_getElem? hl)) hv1 (by omega) (by omega)
      rw [map_add0] at hcp
      repeat' (first |refine Fl.v rfl rfl rfl ?_ |refine Fl.nilF ?_ |refine AWP.seq ?_ |refine AWP.region ?_ |refine Fl.b rfl rfl rfl rfl ?_ |(refine AWP.condD rfl ?_ ?_ <;> intro _ <;> try (exfalso; omega)) |refine AWP.block ?_ |refine AWP.skip ?_ |refine Fl.elK rfl rfl rfl rfl rfl rfl rfl rfl (by assumption) (by omega) ?_ |fail)
      refine Fl.call rfl (hcp) rfl rfl rfl (LeL.refl _) ?_
      skip
      refine Fl.lit rfl rfl rfl rfl rfl eL [l] rfl rfl rfl rfl (by intro _ _; rfl) rfl ?_
      skip
      refine Fl.ap rfl rfl rfl rfl rfl rfl rfl rfl rfl rfl rfl rfl rfl (fun _ => rfl) (fun _ => rfl) (AV.Le.refl _) (by dsimp only [List.length_nil, List.length_cons]; omega) (by simp; omega) ?_
      repeat' (first |refine Fl.v rfl rfl rfl ?_ |refine Fl.nilF ?_ |refine Fl.nil (fun _ => by kernel_rfl) ?_ |refine AWP.region ?_ |refine Fl.w rfl rfl rfl (by first | exact True.intro | omega) ?_ |refine Fl.b rfl rfl rfl rfl ?_ |fail)
      refine LoopEnd.of (i + 1) (by omega) (by omega) ?_
      refine Ent.of [(700, 55)] ?_ ?_ rfl rfl
      repeat' (first | exact True.intro |refine ⟨⟨AV.Le.refl _, rfl⟩, ?_⟩ |refine ⟨⟨⟨_, rfl, BLe.cells (LeL.refl _)⟩, rfl⟩, ?_⟩ |refine ⟨⟨⟨_, rfl, BLe.row rfl⟩, rfl⟩, ?_⟩ |refine ⟨⟨⟨_, rfl, BLe.row ?_⟩, rfl⟩, ?_⟩ |refine ⟨⟨⟨_, rfl, BLe.cells ?_⟩, rfl⟩, ?_⟩ |refine ⟨⟨AV.Le.int ?_, rfl⟩, ?_⟩ |refine ⟨⟨AV.Le.bool ?_, rfl⟩, ?_⟩ |refine ⟨⟨AV.Le.sl ?_, rfl⟩, ?_⟩ |refine ⟨⟨AV.Le.of_eq ?_, rfl⟩, ?_⟩ | fail)
      exact (take_snoc hl).symm
    · have hti : ls.take i = ls := List.take_of_length_le (by omega)
      rw [hti]
      refine AWP.ent (Ent.freeze 700 rfl) ?_
      repeat' (first |refine Fl.v rfl rfl rfl ?_ |refine Fl.nilF ?_ |refine AWP.seq ?_ |refine AWP.region ?_ |refine Fl.b rfl rfl rfl rfl ?_ |(refine AWP.condD rfl ?_ ?_ <;> intro _ <;> try (exfalso; omega)) |refine AWP.exit ?_ |refine AWP.ret ?_ |fail)
      exact RetOk.of rfl (AV.Le.refl _)

theorem Holds_join (a b : SZ) (zs : List Z) (ha : WS a) (hb : WS b) (hsa : OkS a) (hsb : OkS b) (hv : a.vars = b.vars) (hl : a.links.length + b.links.length ≤ 20000) (hz : ∀ z ∈ zs, WOk z.w) (hl : zs.length ≤ 1000000000) : ∃ p q r : Bool × Int, PureFn Tryz.prog 10 [aS a, .sl 2 eZ zs] (.tup [aB p.1, aN p.2]) ∧ PureFn Tryz.prog 10 [aS b, .sl 2 eZ zs] (.tup [aB q.1, aN q.2]) ∧ PureFn Tryz.prog 10 [aS ⟨a.vars, a.links ++ b.links⟩, .sl 2 eZ zs] (.tup [aB r.1, aN r.2]) ∧ Tri p q r := by
  have hsc : OkS ⟨a.vars, a.links ++ b.links⟩ := ⟨hsa.v0, hsa.v1, by simp; omega, fun l hm => by
    rcases List.mem_append.1 hm with h | h
    · exact hsa.links l h
    · show OkL a.vars l; rw [hv]; exact hsb.links l h⟩
  have hwc : WS ⟨a.vars, a.links ++ b.links⟩ := fun l hm => by
    rcases List.mem_append.1 hm with h | h
    · exact ha l h
    · exact hb l h
  by_cases hzz : ∀ z ∈ zs, OkZ z
  · obtain ⟨X, hX, hXf⟩ : ∃ X : List Int, zs = X.map zOf ∧ ∀ x ∈ X, Fit x := by
      refine ⟨zs.map zval, ?_, fun x hx => ?_⟩
      · rw [List.map_map]
        conv => lhs; rw [← List.map_id zs]
        exact List.map_congr_left fun z hz' => (okZ_eq (hz z hz') (hzz z hz')).1
      · obtain ⟨z, hz', rfl⟩ := List.mem_map.1 hx
        exact (okZ_eq (hz z hz') (hzz z hz')).2
    subst hX
    have hl' : X.length ≤ 1000000000 := by simpa using hl
    have hle : LeL [.sl 2 eZ (X.map zOf)] [.sl 2 eX X] := LeL.cons (AV.Le.slMap (enc := eZ) (f := zOf)) LeL.nil
    by_cases h2 : (X.length : Int) = a.vars ∧ ∀ x ∈ X, 0 ≤ x
    · obtain ⟨f, hf⟩ := boolOf (fun l : LZ => EvL X l)
      obtain ⟨g, hg⟩ := boolOf (fun l : LZ => HoL X l)
      exact ⟨_, _, _, (Holds_ok a X ha hsa hXf h2.1 h2.2 f g hf hg).le (LeL.cons (AV.Le.refl _) hle) (AV.Le.refl _), (Holds_ok b X hb hsb hXf (by rw [← hv]; exact h2.1) h2.2 f g hf hg).le (LeL.cons (AV.Le.refl _) hle) (AV.Le.refl _), (Holds_ok ⟨a.vars, a.links ++ b.links⟩ X hwc hsc hXf h2.1 h2.2 f g hf hg).le (LeL.cons (AV.Le.refl _) hle) (AV.Le.refl _), Tri.of f g _ _⟩
    · exact ⟨(false, 2), (false, 2), (false, 2), (Holds_arg a X ha hsa hXf hl' h2).le (LeL.cons (AV.Le.refl _) hle) (AV.Le.refl _), (Holds_arg b X hb hsb hXf hl' (by rw [← hv]; exact h2)).le (LeL.cons (AV.Le.refl _) hle) (AV.Le.refl _), (Holds_arg ⟨a.vars, a.links ++ b.links⟩ X hwc hsc hXf hl' h2).le (LeL.cons (AV.Le.refl _) hle) (AV.Le.refl _), .f2 _ _⟩
  · exact ⟨(false, 1), (false, 1), (false, 1), Holds_form a zs ha hz hl fun h => hzz h.2, Holds_form b zs hb hz hl fun h => hzz h.2, Holds_form ⟨a.vars, a.links ++ b.links⟩ zs hwc hz hl fun h => hzz h.2, .f1 _ _⟩
set_option maxHeartbeats 4000000 in
theorem SystemJoins_ok (a b : SZ) (zs : List Z) (ha : SB a) (hb : SB b) (hz : ∀ z ∈ zs, WOk z.w) : PureFn Tryz.prog 4 [aS a, aS b, .sl 2 eZ zs] (aB true) := by
  refine PureFn.of_body Tryz.func4 rfl Tryz.ntmps4 rfl rfl ?_
  obtain ⟨fo, hfo⟩ := boolOf (fun s : SZ => OkS s)
  have hLa := Light_ok a zs 300 ha.ws ha.wls (fo a) (hfo a)
  have hLb := Light_ok b zs 300 hb.ws hb.wls (fo b) (hfo b)
  by_cases h1 : lightB (fo a) a zs 300 = true
  · rw [h1] at hLa
    have hl1 := lightB_len h1
    by_cases h2 : lightB (fo b) b zs 300 = true
    · rw [h2] at hLb
      have hl2 := lightB_len h2
      have hRa := r9Valid_ok a ha.ws ha.wls (fo a) (hfo a)
      have hRb := r9Valid_ok b hb.ws hb.wls (fo b) (hfo b)
      have hsm0 : SmS ⟨0, []⟩ := ⟨by simp, by simp⟩
      have hw0 : WS ⟨0, []⟩ := fun l hl => by cases hl
      have hS0 := (rSameS_ok ⟨0, []⟩ ⟨0, []⟩ hsm0 hw0 true ⟨fun _ => rfl, fun _ => rfl⟩).le (args' := [.agg [aN 0, .v (.slice none 0 0)], .agg [aN 0, .v (.slice none 0 0)]]) (LeL.cons (AV.Le.agg (LeL.cons (AV.Le.refl _) (LeL.cons (AV.Le.nil 3 eL) LeL.nil))) (LeL.cons (AV.Le.agg (LeL.cons (AV.Le.refl _) (LeL.cons (AV.Le.nil 3 eL) LeL.nil))) LeL.nil)) (AV.Le.refl _)
      by_cases hsa : OkS a
      · rw [(hfo a).2 hsa] at hRa
        by_cases hsb : OkS b
        · rw [(hfo b).2 hsb] at hRb
          by_cases hv : a.vars = b.vars
          · have hJ := Join_ok a b ha.ws hb.ws hsa hsb hv (by omega)
            have hsc : SmS ⟨a.vars, a.links ++ b.links⟩ := ⟨by simp; omega, fun l hm => by
              rcases List.mem_append.1 hm with h | h
              · exact (hsa.sm ha.ws).2 l h
              · exact (hsb.sm hb.ws).2 l h⟩
            have hwc : WS ⟨a.vars, a.links ++ b.links⟩ := fun l hm => by
              rcases List.mem_append.1 hm with h | h
              · exact ha.ws l h
              · exact hb.ws l h
            have hS := rSameS_ok ⟨a.vars, a.links ++ b.links⟩ ⟨a.vars, a.links ++ b.links⟩ hsc hwc true ⟨fun _ => rfl, fun _ => rfl⟩
            obtain ⟨p, q, r, hHa, hHb, hHc, htri⟩ := Holds_join a b zs ha.ws hb.ws hsa hsb hv (by omega) hz (by omega)
            repeat' (first |refine Fl.v rfl rfl rfl ?_ |refine Fl.nilF ?_ |refine AWP.seq ?_ |refine AWP.region ?_ |refine Fl.b rfl rfl rfl rfl ?_ |fail)
            refine Fl.call rfl (hLa) rfl rfl rfl (LeL.refl _) ?_
            repeat' (first |refine Fl.v rfl rfl rfl ?_ |fail)
            refine Fl.call rfl (hLb) rfl rfl rfl (LeL.refl _) ?_
            repeat' (first |refine Fl.v rfl rfl rfl ?_ |refine Fl.nilF ?_ |refine AWP.seq ?_ |refine AWP.region ?_ |refine AWP.condF rfl ?_ |refine AWP.skip ?_ |fail)
            refine Fl.call rfl (hJ) rfl rfl rfl (LeL.refl _) ?_
            repeat' (first |refine Fl.v rfl rfl rfl ?_ |refine Fl.nilF ?_ |refine AWP.seq ?_ |refine AWP.region ?_ |refine Fl.b rfl rfl rfl rfl ?_ |refine AWP.block ?_ |fail)
            refine Fl.call rfl (hRa) rfl rfl rfl (LeL.refl _) ?_
            repeat' (first |refine Fl.v rfl rfl rfl ?_ |fail)
            refine Fl.call rfl (hRb) rfl rfl rfl (LeL.refl _) ?_
            repeat' (first |refine Fl.v rfl rfl rfl ?_ |refine Fl.nilF ?_ |refine AWP.seq ?_ |refine AWP.region ?_ |refine AWP.condF rfl ?_ |(refine AWP.condN rfl ?_ ?_ <;> intro _ <;> try (exfalso; omega)) |refine AWP.skip ?_ |fail)
            refine Fl.litrow rfl rfl rfl rfl rfl rfl rfl eL [] rfl rfl rfl rfl (by intro _ h; cases h) (LeL.refl _) ?_
            repeat' (first |refine Fl.v rfl rfl rfl ?_ |fail)
            refine Fl.ap rfl rfl rfl rfl rfl rfl rfl rfl rfl rfl rfl rfl rfl (fun _ => rfl) (fun _ => rfl) (AV.Le.refl _) (by simp only [List.length_nil]; omega) (by simp only [List.length_nil]; omega) ?_
            repeat' (first |refine Fl.v rfl rfl rfl ?_ |fail)
            refine Fl.ap rfl rfl rfl rfl rfl rfl rfl rfl rfl rfl rfl rfl rfl (fun _ => rfl) (fun _ => rfl) (AV.Le.refl _) (by simp only [List.nil_append]; omega) (by simp only [List.nil_append]; omega) ?_
            repeat' (first |refine Fl.v rfl rfl rfl ?_ |refine Fl.nil (fun _ => by kernel_rfl) ?_ |refine AWP.seq ?_ |refine AWP.region ?_ |refine Fl.b rfl rfl rfl rfl ?_ |(refine Fl.splitN rfl rfl ?_ ?_ <;> intro _ <;> try (exfalso; omega)) |fail)
            refine Fl.callF rfl 76 rfl hS rfl rfl rfl (LeL.refl _) ?_
            repeat' (first |refine Fl.v rfl rfl rfl ?_ |refine Fl.nilF ?_ |refine AWP.seq ?_ |refine AWP.region ?_ |refine AWP.condF rfl ?_ |refine AWP.skip ?_ |fail)
            rcases htri with ⟨q, r⟩ | ⟨q, r⟩ | ⟨q, r⟩ | ⟨u, r⟩ | ⟨u, v⟩
            · refine Fl.call rfl (hHa) rfl rfl rfl (LeL.refl _) ?_
              repeat' (first |refine Fl.v rfl rfl rfl ?_ |refine Fl.nilF ?_ |refine AWP.seq ?_ |refine AWP.region ?_ |fail)
              refine Fl.call rfl (hHb) rfl rfl rfl (LeL.refl _) ?_
              repeat' (first |refine Fl.v rfl rfl rfl ?_ |refine Fl.nilF ?_ |refine AWP.seq ?_ |refine AWP.region ?_ |fail)
              refine Fl.call rfl (hHc) rfl rfl rfl (LeL.refl _) ?_
              repeat' (first |refine Fl.v rfl rfl rfl ?_ |refine Fl.nilF ?_ |refine AWP.seq ?_ |refine AWP.region ?_ |refine Fl.skip rfl rfl ?_ |fail)
              refine Fl.call rfl (awake_ok) rfl rfl rfl (LeL.refl _) ?_
              repeat' (first |refine Fl.v rfl rfl rfl ?_ |refine Fl.nilF ?_ |refine AWP.ret ?_ |fail)
              exact RetOk.of rfl (AV.Le.refl _)
            · refine Fl.call rfl (hHa) rfl rfl rfl (LeL.refl _) ?_
              repeat' (first |refine Fl.v rfl rfl rfl ?_ |refine Fl.nilF ?_ |refine AWP.seq ?_ |refine AWP.region ?_ |fail)
              refine Fl.call rfl (hHb) rfl rfl rfl (LeL.refl _) ?_
              repeat' (first |refine Fl.v rfl rfl rfl ?_ |refine Fl.nilF ?_ |refine AWP.seq ?_ |refine AWP.region ?_ |fail)
              refine Fl.call rfl (hHc) rfl rfl rfl (LeL.refl _) ?_
              repeat' (first |refine Fl.v rfl rfl rfl ?_ |refine Fl.nilF ?_ |refine AWP.seq ?_ |refine AWP.region ?_ |refine Fl.skip rfl rfl ?_ |fail)
              refine Fl.call rfl (awake_ok) rfl rfl rfl (LeL.refl _) ?_
              repeat' (first |refine Fl.v rfl rfl rfl ?_ |refine Fl.nilF ?_ |refine AWP.ret ?_ |fail)
              exact RetOk.of rfl (AV.Le.refl _)
            · refine Fl.call rfl (hHa) rfl rfl rfl (LeL.refl _) ?_
              repeat' (first |refine Fl.v rfl rfl rfl ?_ |refine Fl.nilF ?_ |refine AWP.seq ?_ |refine AWP.region ?_ |fail)
              refine Fl.call rfl (hHb) rfl rfl rfl (LeL.refl _) ?_
              repeat' (first |refine Fl.v rfl rfl rfl ?_ |refine Fl.nilF ?_ |refine AWP.seq ?_ |refine AWP.region ?_ |fail)
              refine Fl.call rfl (hHc) rfl rfl rfl (LeL.refl _) ?_
              repeat' (first |refine Fl.v rfl rfl rfl ?_ |refine Fl.nilF ?_ |refine AWP.seq ?_ |refine AWP.region ?_ |refine Fl.skip rfl rfl ?_ |fail)
              refine Fl.call rfl (awake_ok) rfl rfl rfl (LeL.refl _) ?_
              repeat' (first |refine Fl.v rfl rfl rfl ?_ |refine Fl.nilF ?_ |refine AWP.ret ?_ |fail)
              exact RetOk.of rfl (AV.Le.refl _)
            · refine Fl.call rfl (hHa) rfl rfl rfl (LeL.refl _) ?_
              repeat' (first |refine Fl.v rfl rfl rfl ?_ |refine Fl.nilF ?_ |refine AWP.seq ?_ |refine AWP.region ?_ |fail)
              refine Fl.call rfl (hHb) rfl rfl rfl (LeL.refl _) ?_
              repeat' (first |refine Fl.v rfl rfl rfl ?_ |refine Fl.nilF ?_ |refine AWP.seq ?_ |refine AWP.region ?_ |fail)
              refine Fl.call rfl (hHc) rfl rfl rfl (LeL.refl _) ?_
              repeat' (first |refine Fl.v rfl rfl rfl ?_ |refine Fl.nilF ?_ |refine AWP.seq ?_ |refine AWP.region ?_ |refine Fl.skip rfl rfl ?_ |fail)
              refine Fl.call rfl (awake_ok) rfl rfl rfl (LeL.refl _) ?_
              repeat' (first |refine Fl.v rfl rfl rfl ?_ |refine Fl.nilF ?_ |refine AWP.ret ?_ |fail)
              exact RetOk.of rfl (AV.Le.refl _)
            · cases u <;> cases v
              all_goals
                skip
                refine Fl.call rfl (hHa) rfl rfl rfl (LeL.refl _) ?_
                repeat' (first |refine Fl.v rfl rfl rfl ?_ |refine Fl.nilF ?_ |refine AWP.seq ?_ |refine AWP.region ?_ |fail)
                refine Fl.call rfl (hHb) rfl rfl rfl (LeL.refl _) ?_
                repeat' (first |refine Fl.v rfl rfl rfl ?_ |refine Fl.nilF ?_ |refine AWP.seq ?_ |refine AWP.region ?_ |fail)
                refine Fl.call rfl (hHc) rfl rfl rfl (LeL.refl _) ?_
                repeat' (first |refine Fl.v rfl rfl rfl ?_ |refine Fl.nilF ?_ |refine AWP.seq ?_ |refine AWP.region ?_ |refine Fl.skip rfl rfl ?_ |refine AWP.ret ?_ |(refine Fl.splitD rfl rfl ?_ ?_ <;> intro _ <;> try (exfalso; omega)) |fail)
                refine Fl.call rfl (awake_ok) rfl rfl rfl (LeL.refl _) ?_
                repeat' (first |refine Fl.v rfl rfl rfl ?_ |refine Fl.nilF ?_ |refine AWP.ret ?_ |fail)
                · exact RetOk.of rfl (AV.Le.refl _)
                all_goals (rename_i h; exact absurd rfl h)
          · have hJ := Join_arg a b ha.ws hb.ws hsa hsb hv
            repeat' (first |refine Fl.v rfl rfl rfl ?_ |refine Fl.nilF ?_ |refine AWP.seq ?_ |refine AWP.region ?_ |refine Fl.b rfl rfl rfl rfl ?_ |fail)
            refine Fl.call rfl (hLa) rfl rfl rfl (LeL.refl _) ?_
            repeat' (first |refine Fl.v rfl rfl rfl ?_ |fail)
            refine Fl.call rfl (hLb) rfl rfl rfl (LeL.refl _) ?_
            repeat' (first |refine Fl.v rfl rfl rfl ?_ |refine Fl.nilF ?_ |refine AWP.seq ?_ |refine AWP.region ?_ |refine AWP.condF rfl ?_ |refine AWP.skip ?_ |fail)
            refine Fl.call rfl (hJ) rfl rfl rfl (LeL.refl _) ?_
            repeat' (first |refine Fl.v rfl rfl rfl ?_ |refine Fl.nilF ?_ |refine AWP.seq ?_ |refine AWP.region ?_ |refine Fl.b rfl rfl rfl rfl ?_ |refine AWP.block ?_ |fail)
            refine Fl.call rfl (hRa) rfl rfl rfl (LeL.refl _) ?_
            repeat' (first |refine Fl.v rfl rfl rfl ?_ |fail)
            refine Fl.call rfl (hRb) rfl rfl rfl (LeL.refl _) ?_
            repeat' (first |refine Fl.v rfl rfl rfl ?_ |refine Fl.nilF ?_ |refine AWP.seq ?_ |refine AWP.region ?_ |refine Fl.b rfl rfl rfl rfl ?_ |refine AWP.condF rfl ?_ |(refine AWP.condN rfl ?_ ?_ <;> intro _ <;> try (exfalso; omega)) |(refine Fl.splitD rfl rfl ?_ ?_ <;> intro _ <;> try (exfalso; omega)) |fail)
            refine Fl.call rfl (hS0) rfl rfl rfl (LeL.refl _) ?_
            repeat' (first |refine Fl.v rfl rfl rfl ?_ |fail)
            refine Fl.call rfl (awake_ok) rfl rfl rfl (LeL.refl _) ?_
            repeat' (first |refine Fl.v rfl rfl rfl ?_ |refine Fl.nilF ?_ |refine AWP.ret ?_ |fail)
            exact RetOk.of rfl (AV.Le.refl _)
        · rw [Bool.eq_false_iff.2 fun h => hsb ((hfo b).1 h)] at hRb
          have hJ := Join_form a b ha.ws hb.ws fun h => hsb h.2
          repeat' (first |refine Fl.v rfl rfl rfl ?_ |refine Fl.nilF ?_ |refine AWP.seq ?_ |refine AWP.region ?_ |refine Fl.b rfl rfl rfl rfl ?_ |fail)
          refine Fl.call rfl (hLa) rfl rfl rfl (LeL.refl _) ?_
          repeat' (first |refine Fl.v rfl rfl rfl ?_ |fail)
          refine Fl.call rfl (hLb) rfl rfl rfl (LeL.refl _) ?_
          repeat' (first |refine Fl.v rfl rfl rfl ?_ |refine Fl.nilF ?_ |refine AWP.seq ?_ |refine AWP.region ?_ |refine AWP.condF rfl ?_ |refine AWP.skip ?_ |fail)
          refine Fl.call rfl (hJ) rfl rfl rfl (LeL.refl _) ?_
          repeat' (first |refine Fl.v rfl rfl rfl ?_ |refine Fl.nilF ?_ |refine AWP.seq ?_ |refine AWP.region ?_ |refine Fl.b rfl rfl rfl rfl ?_ |refine AWP.block ?_ |fail)
          refine Fl.call rfl (hRa) rfl rfl rfl (LeL.refl _) ?_
          repeat' (first |refine Fl.v rfl rfl rfl ?_ |fail)
          refine Fl.call rfl (hRb) rfl rfl rfl (LeL.refl _) ?_
          repeat' (first |refine Fl.v rfl rfl rfl ?_ |refine Fl.nilF ?_ |refine AWP.seq ?_ |refine AWP.region ?_ |refine Fl.b rfl rfl rfl rfl ?_ |refine AWP.condT rfl ?_ |(refine Fl.splitD rfl rfl ?_ ?_ <;> intro _ <;> try (exfalso; omega)) |fail)
          refine Fl.call rfl (hS0) rfl rfl rfl (LeL.refl _) ?_
          repeat' (first |refine Fl.v rfl rfl rfl ?_ |fail)
          refine Fl.call rfl (awake_ok) rfl rfl rfl (LeL.refl _) ?_
          repeat' (first |refine Fl.v rfl rfl rfl ?_ |refine Fl.nilF ?_ |refine AWP.ret ?_ |fail)
          exact RetOk.of rfl (AV.Le.refl _)
      · rw [Bool.eq_false_iff.2 fun h => hsa ((hfo a).1 h)] at hRa
        have hJ := Join_form a b ha.ws hb.ws fun h => hsa h.1
        repeat' (first |refine Fl.v rfl rfl rfl ?_ |refine Fl.nilF ?_ |refine AWP.seq ?_ |refine AWP.region ?_ |refine Fl.b rfl rfl rfl rfl ?_ |fail)
        refine Fl.call rfl (hLa) rfl rfl rfl (LeL.refl _) ?_
        repeat' (first |refine Fl.v rfl rfl rfl ?_ |fail)
        refine Fl.call rfl (hLb) rfl rfl rfl (LeL.refl _) ?_
        repeat' (first |refine Fl.v rfl rfl rfl ?_ |refine Fl.nilF ?_ |refine AWP.seq ?_ |refine AWP.region ?_ |refine AWP.condF rfl ?_ |refine AWP.skip ?_ |fail)
        refine Fl.call rfl (hJ) rfl rfl rfl (LeL.refl _) ?_
        repeat' (first |refine Fl.v rfl rfl rfl ?_ |refine Fl.nilF ?_ |refine AWP.seq ?_ |refine AWP.region ?_ |refine Fl.b rfl rfl rfl rfl ?_ |refine AWP.block ?_ |fail)
        refine Fl.call rfl (hRa) rfl rfl rfl (LeL.refl _) ?_
        repeat' (first |refine Fl.v rfl rfl rfl ?_ |refine Fl.nilF ?_ |refine AWP.seq ?_ |refine AWP.region ?_ |refine Fl.b rfl rfl rfl rfl ?_ |refine Fl.skip rfl rfl ?_ |refine AWP.condT rfl ?_ |(refine Fl.splitD rfl rfl ?_ ?_ <;> intro _ <;> try (exfalso; omega)) |fail)
        refine Fl.call rfl (hS0) rfl rfl rfl (LeL.refl _) ?_
        repeat' (first |refine Fl.v rfl rfl rfl ?_ |fail)
        refine Fl.call rfl (awake_ok) rfl rfl rfl (LeL.refl _) ?_
        repeat' (first |refine Fl.v rfl rfl rfl ?_ |refine Fl.nilF ?_ |refine AWP.ret ?_ |fail)
        exact RetOk.of rfl (AV.Le.refl _)
    · rw [Bool.eq_false_iff.2 h2] at hLb
      repeat' (first |refine Fl.v rfl rfl rfl ?_ |refine Fl.nilF ?_ |refine AWP.seq ?_ |refine AWP.region ?_ |refine Fl.b rfl rfl rfl rfl ?_ |fail)
      refine Fl.call rfl (hLa) rfl rfl rfl (LeL.refl _) ?_
      repeat' (first |refine Fl.v rfl rfl rfl ?_ |fail)
      refine Fl.call rfl (hLb) rfl rfl rfl (LeL.refl _) ?_
      repeat' (first |refine Fl.v rfl rfl rfl ?_ |refine Fl.nilF ?_ |refine AWP.seq ?_ |refine AWP.region ?_ |refine AWP.condT rfl ?_ |fail)
      refine Fl.call rfl (awake_ok) rfl rfl rfl (LeL.refl _) ?_
      repeat' (first |refine Fl.v rfl rfl rfl ?_ |refine Fl.nilF ?_ |refine AWP.ret ?_ |fail)
      exact RetOk.of rfl (AV.Le.refl _)
  · rw [Bool.eq_false_iff.2 h1] at hLa
    repeat' (first |refine Fl.v rfl rfl rfl ?_ |refine Fl.nilF ?_ |refine AWP.seq ?_ |refine AWP.region ?_ |refine Fl.b rfl rfl rfl rfl ?_ |fail)
    refine Fl.call rfl (hLa) rfl rfl rfl (LeL.refl _) ?_
    repeat' (first |refine Fl.v rfl rfl rfl ?_ |refine Fl.nilF ?_ |refine AWP.seq ?_ |refine AWP.region ?_ |refine Fl.skip rfl rfl ?_ |refine AWP.condT rfl ?_ |fail)
    refine Fl.call rfl (awake_ok) rfl rfl rfl (LeL.refl _) ?_
    repeat' (first |refine Fl.v rfl rfl rfl ?_ |refine Fl.nilF ?_ |refine AWP.ret ?_ |fail)
    exact RetOk.of rfl (AV.Le.refl _)
end Go.Proofs.YtfkjhjgihbnegaaGreat

/- Part 5 of a proof layer and of the contracts of the functions (XH0 XH1 XK0 XK1 XK2 XK3 XK5 XL0 XL1 XL2 XL3 XL4 XL5 XL6 XL7 XL8 XL9 XN0). -/
import Derived.ProofKit
import Derived.OpenShut
import Derived.Carry
import Derived.ChangeSame
import Derived.ReadAgain
import Derived.Test.YtfkjhjgihbnegaaGreatRows
import Derived.Deep.Strs
import Derived.Laws.StructEq
import Derived.Test.YtfkjhjgihbnegaaGreatP4
set_option linter.unusedVariables false
set_option linter.unusedSimpArgs false
/- From what a claim's arguments read as to abstract values over the memory as it stands. -/
namespace Go.AL
/-- all cells of a world -/
def hpOf (w : World) : Hp := fun b => match w.heap[b]? with | some (.cells cs _ _) => some cs | _ => none
theorem hpOf_has (w : World) : Has w (hpOf w) := fun b cs h => by
  unfold hpOf at h
  split at h
  · rename_i cs' t fr hb
    injection h with h; subst h
    exact ⟨t, fr, hb⟩
  · cases h
theorem hcell_of {w : World} {a : Addr} {u : Value} (h : w.cell? a = some u) : hcell (hpOf w) a u := by
  unfold World.cell? at h
  split at h
  · rename_i c t fr hb
    split at h
    · cases h
    · rename_i hs
      exact ⟨by simpa using hs, c, by simp [hpOf, hb], h⟩
  · cases h
theorem mapM_get {α β : Type} {f : α → Option β} : ∀ {l : List α} {r : List β}, l.mapM f = some r → r.length = l.length ∧ ∀ (i : Nat) (x : α) (y : β), l[i]? = some x → r[i]? = some y → f x = some y
  | [], r, h => by
    simp at h; subst h; simp
  | x :: l, r, h => by
    simp only [List.mapM_cons, Option.bind_eq_bind, Option.bind_eq_some_iff, Option.pure_def, Option.some.injEq] at h
    obtain ⟨y, h1, ys, h2, rfl⟩ := h
    obtain ⟨h3, h4⟩ := mapM_get h2
    refine ⟨by simp [h3], fun i a b ha hb => ?_⟩
    cases i with
    | zero => simp at ha hb; subst ha hb; exact h1
    | succ i => exact h4 i a b (by simpa using ha) (by simpa using hb)
theorem cells_of {w : World} {base : Nat} {a : Addr} {n : Nat} {cs : List Value} (h : w.cells? base a n = some cs) : cs.length = n ∧ ∀ (j : Nat) (u : Value), cs[j]? = some u → hcell (hpOf w) (a.add j) u := by
  unfold World.cells? at h
  split at h
  · obtain ⟨h1, h2⟩ := mapM_get h
    rw [List.length_range] at h1
    refine ⟨h1, fun j u hu => hcell_of ?_⟩
    have hj : j < n := by rw [← h1]; exact (List.getElem?_eq_some_iff.1 hu).1
    exact h2 j j u (by simp [hj]) hu
  · cases h
section
variable {H : Type} {enc : TypeId × Value → H} {P : Program} {w : World} {base : Nat} {spare : Nat → Bool} {held : Bool}
theorem trodInt {t : TypeId} {k : IntKind} {fuel : Nat} {cs : List Value} {x : DataW H × List MemPlace} (ht : P.underlying t = some (.int k)) (h : DataW.trod enc P w base spare held fuel t cs = some x) : ∃ n, cs = [.int k n] ∧ (Lit.int k n).wf = true := by
  cases fuel with
  | zero => simp [DataW.trod] at h
  | succ fuel =>
    simp only [DataW.trod, ht] at h
    split at h <;> simp_all
theorem trodBool {t : TypeId} {fuel : Nat} {cs : List Value} {x : DataW H × List MemPlace} (ht : P.underlying t = some .bool) (h : DataW.trod enc P w base spare held fuel t cs = some x) : ∃ b, cs = [.bool b] := by
  cases fuel with
  | zero => simp [DataW.trod] at h
  | succ fuel =>
    simp only [DataW.trod, ht] at h
    split at h <;> simp_all
/-- A slice: so many elements, of each what its cells say. -/
theorem trodSlice {α : Type} (sz : Nat) (en : α → List AV) (Q : α → Prop) {t e : TypeId} {fuel : Nat} {cs : List Value} {x : DataW H × List MemPlace} (ht : P.underlying t = some (.slice e)) (hsz : P.cellsOf e = sz)
    (hel : ∀ (fuel : Nat) (us : List Value) (y : DataW H × List MemPlace), us.length = sz → DataW.trod enc P w base spare held fuel e us = some y → ∃ a, RepL (hpOf w) noB (en a) us ∧ Q a)
    (h : DataW.trod enc P w base spare held fuel t cs = some x) : ∃ (xs : List α) (u : Value), cs = [u] ∧ Rep (hpOf w) noB (.sl sz en xs) u ∧ (∀ a ∈ xs, Q a) ∧ xs.length ≤ maxLen := by
  cases fuel with
  | zero => simp [DataW.trod] at h
  | succ fuel =>
    simp only [DataW.trod, ht] at h
    split at h <;> try (simp_all; done)
    · refine ⟨[], _, rfl, ?_, by simp, by simp [maxLen]⟩
      simp only [Rep]
      exact ⟨none, 0, rfl, by simp, by simp [maxLen], fun i y hy => by simp at hy⟩
    · rename_i e' a len cap heq
      injection heq with heq; injection heq with heq; subst heq
      split at h
      · rename_i hc
        simp only [Option.bind_eq_some_iff] at h
        obtain ⟨elems, h1, _⟩ := h
        obtain ⟨h2, h3⟩ := mapM_get h1
        rw [List.length_range] at h2
        have hall : ∀ i, i < len → ∃ (us : List Value) (a' : α), us.length = sz ∧ (∀ (j : Nat) (u : Value), us[j]? = some u → hcell (hpOf w) ((a.add (i * sz)).add j) u) ∧ RepL (hpOf w) noB (en a') us ∧ Q a' := by
          intro i hi
          have := h3 i i (elems[i]'(by omega)) (by simp [hi]) (List.getElem?_eq_getElem _)
          simp only [Option.bind_eq_some_iff] at this
          obtain ⟨us, hu1, hu2⟩ := this
          rw [hsz] at hu1
          obtain ⟨hu3, hu4⟩ := cells_of hu1
          obtain ⟨a', ha1, ha2⟩ := hel fuel us _ hu3 hu2
          exact ⟨us, a', hu3, hu4, ha1, ha2⟩
        have hex : ∃ xs : List α, xs.length = len ∧ ∀ (i : Nat) (y : α), xs[i]? = some y → ∃ us : List Value, us.length = sz ∧ (∀ (j : Nat) (u : Value), us[j]? = some u → hcell (hpOf w) ((a.add (i * sz)).add j) u) ∧ RepL (hpOf w) noB (en y) us ∧ Q y := by
          have : ∀ n, n ≤ len → ∃ xs : List α, xs.length = n ∧ ∀ (i : Nat) (y : α), xs[i]? = some y → ∃ us : List Value, us.length = sz ∧ (∀ (j : Nat) (u : Value), us[j]? = some u → hcell (hpOf w) ((a.add (i * sz)).add j) u) ∧ RepL (hpOf w) noB (en y) us ∧ Q y := by
            intro n
            induction n with
            | zero => exact fun _ => ⟨[], rfl, fun i y hy => by simp at hy⟩
            | succ n ih =>
              intro hn
              obtain ⟨xs, hx1, hx2⟩ := ih (by omega)
              obtain ⟨us, a', q1, q2, q3, q4⟩ := hall n (by omega)
              refine ⟨xs ++ [a'], by simp [hx1], fun i y hy => ?_⟩
              rw [List.getElem?_append] at hy
              split at hy
              · exact hx2 i y hy
              · rename_i hi
                have hin : i = n := by
                  have := (List.getElem?_eq_some_iff.1 hy).1
                  simp at this; omega
                subst hin
                rw [hx1, Nat.sub_self] at hy
                simp at hy; subst hy
                exact ⟨us, q1, q2, q3, q4⟩
          exact this len (Nat.le_refl _)
        obtain ⟨xs, hx1, hx2⟩ := hex
        refine ⟨xs, _, rfl, ?_, fun y hy => ?_, by omega⟩
        · simp only [Rep]
          refine ⟨some a, cap, by rw [hx1], by omega, by omega, fun i y hy => ?_⟩
          obtain ⟨us, q1, q2, q3, _⟩ := hx2 i y hy
          refine ⟨a, us, rfl, q1, q3, fun j u hu => ?_⟩
          have := q2 j u hu
          have hadd : (a.add (i * sz)).add j = a.add (i * sz + j) := by
            unfold Addr.add
            by_cases k1 : i * sz = 0
            · rw [k1]; simp
            · by_cases k2 : j = 0
              · subst k2; simp [k1]
              · simp [k1, k2, Nat.add_assoc]
          rwa [hadd] at this
        · obtain ⟨i, hi, rfl⟩ := List.mem_iff_getElem.1 hy
          obtain ⟨_, _, _, _, hq⟩ := hx2 i _ (List.getElem?_eq_getElem hi)
          exact hq
      · cases h
end
end Go.AL
namespace Go.AL
/-- what a number in memory is -/
def ZB (z : Z) : Prop := WOk z.w ∧ z.w.length ≤ maxLen
theorem list2 {α : Type} {l : List α} (h : l.length = 2) : ∃ a b, l = [a, b] := by
  match l, h with
  | [a, b], _ => exact ⟨a, b, rfl⟩
theorem list3 {α : Type} {l : List α} (h : l.length = 3) : ∃ a b c, l = [a, b, c] := by
  match l, h with
  | [a, b, c], _ => exact ⟨a, b, c, rfl⟩
end Go.AL
namespace Go.Proofs.YtfkjhjgihbnegaaGreat
open Go.AL Go.ChangeShapes Go.WideShapes Go.ChangeAt Go.RowKit

section
variable {H : Type} {enc : TypeId × Value → H} {w : World} {base : Nat} {spare : Nat → Bool} {held : Bool}
theorem wfU32 {n : Int} (h : (Lit.int .u32 n).wf = true) : 0 ≤ n ∧ n < 4294967296 := by
  simp [Lit.wf] at h
  have h1 : IntKind.u32.min = 0 := rfl
  have h2 : IntKind.u32.max = 4294967295 := rfl
  omega
theorem wfU8 {n : Int} (h : (Lit.int .u8 n).wf = true) : 0 ≤ n ∧ n ≤ 255 := by
  simp [Lit.wf] at h
  have h1 : IntKind.u8.min = 0 := rfl
  have h2 : IntKind.u8.max = 255 := rfl
  omega
theorem wfI64 {n : Int} (h : (Lit.int .i64 n).wf = true) : -9223372036854775808 ≤ n ∧ n ≤ 9223372036854775807 := by
  simp [Lit.wf] at h
  have h1 : IntKind.i64.min = -9223372036854775808 := rfl
  have h2 : IntKind.i64.max = 9223372036854775807 := rfl
  omega
theorem trodW {fuel : Nat} {cs : List Value} {x : DataW H × List MemPlace} (h : DataW.trod enc Tryz.prog w base spare held fuel 56 cs = some x) : ∃ (xs : List Int) (u : Value), cs = [u] ∧ Rep (hpOf w) noB (aW xs) u ∧ WOk xs ∧ xs.length ≤ maxLen := by
  refine trodSlice 1 eW (fun n => 0 ≤ n ∧ n < 4294967296) Tryz.underlying56 (by kernel_rfl) (fun fuel us y _ hy => ?_) h
  obtain ⟨n, rfl, hn⟩ := trodInt Tryz.underlying105 hy
  exact ⟨n, ⟨_, _, rfl, by simp only [Rep], rfl⟩, wfU32 hn⟩
theorem trodZ {fuel : Nat} {cs : List Value} {x : DataW H × List MemPlace} (h : DataW.trod enc Tryz.prog w base spare held fuel 58 cs = some x) : ∃ z : Z, RepL (hpOf w) noB (eZ z) cs ∧ ZB z := by
  obtain ⟨y0, y1, n, _, hl, h0, h1⟩ := trod_struct2 Tryz.underlying58 h
  have hc : Tryz.prog.cellsOf 58 = 2 := by kernel_rfl
  have hb : Tryz.prog.cellsOf 4 = 1 := by kernel_rfl
  have hs : Tryz.prog.cellsOf 56 = 1 := by kernel_rfl
  rw [hc] at hl
  obtain ⟨c0, c1, rfl⟩ := list2 hl
  simp only [hb, hs, List.drop_zero, List.take_succ_cons, List.take_zero, List.drop_succ_cons] at h0 h1
  obtain ⟨b, e0⟩ := trodBool Tryz.underlying4 h0
  obtain ⟨xs, u, e1, hr, hw, hm⟩ := trodW h1
  injection e0 with e0; injection e1 with e1; subst e0 e1
  exact ⟨⟨b, xs⟩, ⟨_, _, rfl, by simp only [Rep], ⟨_, _, rfl, hr, rfl⟩⟩, hw, hm⟩
end
theorem below_of {W W' : World} {h h' : Hp} (e : Evo never W h W' h') : Below W.heap.size W W' := ⟨e.os, e.tape, e.output, e.size, fun k hk => e.block k hk (fun x => x)⟩
theorem own : ownKnob Tryz.prog.godebug = none := by kernel_rfl
theorem lb : laidOutB Tryz.prog = true := by kernel_rfl
end Go.Proofs.YtfkjhjgihbnegaaGreat
namespace Go.AL
section
variable {P : Program} {tab : Tab} {n : Nat} {s : St}
variable {ops : Array Oper} {draw : Dr} {o : Oper} {l : List Oper} {acc : List Eff} {K : Exit → St → Prop}
/-- sums of ints, as the machine reckons them -/
theorem Fl.sumS {op : BinOp} {t t' : TypeId} {x y : Operand} (hop : o.op = .binOp op t x y t') {m m' c : Int} (hx : opd s x = .v (.int .i64 m)) (hy : opd s y = .v (.int .i64 m')) (hc : arithI op m m' = some c) (hg : gOk ops s o = true) (hd : dOk n o.dst = true)
    (r : Fl P n ops draw l ((Eff.mk (.v (.int .i64 (w64 c))) [] [] [] []).app o.dst s) (Eff.mk (.v (.int .i64 (w64 c))) [] [] [] [] :: acc) K) : Fl P n ops draw (o :: l) s acc K := by
  refine Fl.opv hg (OpJ.of_run (tb := []) (dOk_lt hd) fun C s' a w h β ho _ b => ?_) r
  have hxr := opd_rep b x
  have hyr := opd_rep b y
  rw [ho x (by simp [hop, Op.operands]), hx] at hxr
  rw [ho y (by simp [hop, Op.operands]), hy] at hyr
  simp only [Rep] at hxr hyr
  exact ⟨_, bin_run hop hxr hyr hc, by simp only [Rep]; rw [wrap_i64]; rfl⟩
end
/-- the two orders of exponents -/
theorem ordX_eq : ∀ (a b : List Int) (x y : Int), a.length = b.length → ordX x y a b = if x = y then cmpL a b else cmpI x y
  | [], [], x, y, _ => by
    simp only [ordX, cmpL]
    split
    · rename_i h; rw [cmpI_eq h]
    · rfl
  | [], _ :: _, _, _, h => by simp at h
  | _ :: _, [], _, _, h => by simp at h
  | a :: l, b :: m, x, y, h => by
    simp only [ordX, cmpL]
    split
    · rw [ordX_eq l m a b (by simpa using h)]
      by_cases hab : a = b
      · rw [if_pos hab, if_pos (cmpI_zero.2 hab)]
      · rw [if_neg hab, if_neg fun k => hab (cmpI_zero.1 k)]
    · rfl
theorem cmpI_cases (x y : Int) : cmpI x y = 1 ∧ y < x ∨ cmpI x y = 0 ∧ x = y ∨ cmpI x y = -1 ∧ x < y := by
  unfold cmpI
  split
  · exact .inr (.inr ⟨rfl, by omega⟩)
  · split
    · exact .inl ⟨rfl, by omega⟩
    · exact .inr (.inl ⟨rfl, by omega⟩)
theorem cmpI_swap (x y : Int) : cmpI x y = - cmpI y x := by
  have h1 := cmpI_cases x y
  have h2 := cmpI_cases y x
  omega
theorem cmpL_swap : ∀ (a b : List Int), a.length = b.length → cmpL a b = - cmpL b a
  | [], [], _ => rfl
  | [], _ :: _, h => by simp at h
  | _ :: _, [], h => by simp at h
  | x :: a, y :: b, h => by
    simp only [cmpL]
    have hs := cmpI_swap x y
    by_cases hz : cmpI x y = 0
    · rw [if_pos hz, if_pos (by omega)]; exact cmpL_swap a b (by simpa using h)
    · rw [if_neg hz, if_neg (by omega)]; exact hs
theorem cmpL_range : ∀ (a b : List Int), cmpL a b = 1 ∨ cmpL a b = 0 ∨ cmpL a b = -1
  | [], [] => .inr (.inl rfl)
  | [], _ :: _ => .inr (.inr rfl)
  | _ :: _, [] => .inl rfl
  | x :: a, y :: b => by
    simp only [cmpL]
    split
    · exact cmpL_range a b
    · rcases cmpI_cases x y with h | h | h <;> omega
theorem rOrd_one {a b : List Int} (h : a.length = b.length) : rOrd a b = 1 ↔ ordI a b < 0 := by
  unfold rOrd ordI
  rw [ordX_eq a b _ _ h]
  have hs := cmpL_swap a b h
  have hr := cmpL_range a b
  by_cases hz : sumL a = sumL b
  · rw [if_pos hz, if_pos (by omega)]; omega
  · rw [if_neg hz, if_neg (by omega)]
    rcases cmpI_cases (sumL a) (sumL b) with k | k | k <;> omega
/-- the words' rows are as long as memory lets them be -/
def WLP (p : PZ) : Prop := p.terms.length ≤ 9223372036854775807 ∧ ∀ t ∈ p.terms, t.c.w.length ≤ 9223372036854775807
end Go.AL
namespace Go.Proofs.YtfkjhjgihbnegaaGreat
open Go.AL

theorem rterm_ok (t : TZ) (vars : Int) (hw : WT t) (hl : t.c.w.length ≤ 9223372036854775807) (hv : vars ≤ 32) (b : Bool) (hb : b = true ↔ OkT vars t) : PureFn Tryz.prog 101 [aT t, aN vars] (aB b) := by
  refine PureFn.of_body Tryz.func101 rfl Tryz.ntmps101 rfl rfl ?_
  have hfalse : ¬ OkT vars t → false = b := fun h => by cases b with | false => rfl | true => exact absurd (hb.1 rfl) h
  repeat' (first |refine Fl.v rfl rfl rfl ?_ |refine Fl.nilF ?_ |refine AWP.seq ?_ |refine AWP.region ?_ |refine Fl.b rfl rfl rfl rfl ?_ |fail)
  refine Fl.call rfl (rValid_ok t.c hw hl) rfl rfl rfl (LeL.refl _) ?_
  repeat' (first |refine Fl.v rfl rfl rfl ?_ |refine Fl.nilF ?_ |refine AWP.seq ?_ |refine AWP.region ?_ |refine Fl.skip rfl rfl ?_ |refine AWP.condT rfl ?_ |refine AWP.ret ?_ |(refine Fl.splitN rfl rfl ?_ ?_ <;> intro _ <;> try (exfalso; omega)) |fail)
  · rename_i h; exact RetOk.of rfl (AV.Le.bool (hfalse fun k => h k.coef))
  refine Fl.call rfl (rZero_ok t.c) rfl rfl rfl (LeL.refl _) ?_
  repeat' (first |refine Fl.v rfl rfl rfl ?_ |refine Fl.nilF ?_ |refine AWP.seq ?_ |refine AWP.region ?_ |refine Fl.skip rfl rfl ?_ |refine AWP.condT rfl ?_ |(refine AWP.condN rfl ?_ ?_ <;> intro _ <;> try (exfalso; omega)) |refine AWP.block ?_ |refine AWP.skip ?_ |refine AWP.ret ?_ |(refine Fl.splitD rfl rfl ?_ ?_ <;> intro _ <;> try (exfalso; omega)) |fail)
  · rename_i h; exact RetOk.of rfl (AV.Le.bool (hfalse fun k => k.nz h))
  · rename_i h; exact RetOk.of rfl (AV.Le.bool (hfalse fun k => h k.len))
  rename_i hc hz hlen
  refine AWP.loop (G := Nat) (fun i => i ≤ t.e.length ∧ EOk (t.e.take i)) (fun i => St.of [] [(1, aN vars), (2, .ptr 2 0), (5, aN i)] [(2, .cells (eT t) 68)]) (fun i => t.e.length - i) 0 ⟨by omega, fun e he => by simp at he⟩ ?_ ?_
  · refine Ent.of [] ?_ ?_ rfl rfl
    repeat' (first | exact True.intro |refine ⟨⟨AV.Le.refl _, rfl⟩, ?_⟩ |refine ⟨⟨⟨_, rfl, BLe.cells (LeL.refl _)⟩, rfl⟩, ?_⟩ |refine ⟨⟨⟨_, rfl, BLe.row rfl⟩, rfl⟩, ?_⟩ |refine ⟨⟨⟨_, rfl, BLe.row ?_⟩, rfl⟩, ?_⟩ |refine ⟨⟨⟨_, rfl, BLe.cells ?_⟩, rfl⟩, ?_⟩ |refine ⟨⟨AV.Le.int ?_, rfl⟩, ?_⟩ |refine ⟨⟨AV.Le.bool ?_, rfl⟩, ?_⟩ |refine ⟨⟨AV.Le.sl ?_, rfl⟩, ?_⟩ |refine ⟨⟨AV.Le.of_eq ?_, rfl⟩, ?_⟩ | fail)
  · intro i ⟨k0, k1⟩
    repeat' (first |refine Fl.v rfl rfl rfl ?_ |refine Fl.nilF ?_ |refine AWP.seq ?_ |refine AWP.region ?_ |refine Fl.w rfl rfl rfl (by first | exact True.intro | omega) ?_ |refine Fl.skip rfl rfl ?_ |refine AWP.condT rfl ?_ |(refine AWP.condD rfl ?_ ?_ <;> intro _ <;> try (exfalso; omega)) |refine AWP.block ?_ |refine AWP.skip ?_ |refine AWP.exit ?_ |refine AWP.ret ?_ |refine Fl.elK rfl rfl rfl rfl rfl rfl rfl rfl (by assumption) (by omega) ?_ |(refine Fl.el rfl rfl rfl rfl rfl rfl rfl rfl (by omega) (by omega) ?_; intro _ _) |(refine Fl.splitD rfl rfl ?_ ?_ <;> intro _ <;> try (exfalso; omega)) |fail)
    · rename_i hi e he h0
      rw [Int.toNat_natCast] at he
      exact RetOk.of rfl (AV.Le.bool (hfalse fun k => by have := k.exps.get he; omega))
    · rename_i hi e he h0 h1
      rw [Int.toNat_natCast] at he
      exact RetOk.of rfl (AV.Le.bool (hfalse fun k => by have := k.exps.get he; omega))
    · rename_i hi e he h0 h1
      rw [Int.toNat_natCast] at he
      refine LoopEnd.of (i + 1) ⟨by omega, ?_⟩ (by omega) ?_
      · rw [take_snoc he]
        intro x hx
        rcases List.mem_append.1 hx with hx | hx
        · exact k1 x hx
        · simp only [List.mem_singleton] at hx; subst hx; omega
      · refine Ent.of [] ?_ ?_ rfl rfl
        repeat' (first | exact True.intro |refine ⟨⟨AV.Le.refl _, rfl⟩, ?_⟩ |refine ⟨⟨⟨_, rfl, BLe.cells (LeL.refl _)⟩, rfl⟩, ?_⟩ |refine ⟨⟨⟨_, rfl, BLe.row rfl⟩, rfl⟩, ?_⟩ |refine ⟨⟨⟨_, rfl, BLe.row ?_⟩, rfl⟩, ?_⟩ |refine ⟨⟨⟨_, rfl, BLe.cells ?_⟩, rfl⟩, ?_⟩ |refine ⟨⟨AV.Le.int ?_, rfl⟩, ?_⟩ |refine ⟨⟨AV.Le.bool ?_, rfl⟩, ?_⟩ |refine ⟨⟨AV.Le.sl ?_, rfl⟩, ?_⟩ |refine ⟨⟨AV.Le.of_eq ?_, rfl⟩, ?_⟩ | fail)
    · rename_i hi
      have hee : EOk t.e := by rwa [List.take_of_length_le (by omega)] at k1
      refine Fl.call rfl (rdegree_ok t.e hee (by omega)) rfl rfl rfl (LeL.refl _) ?_
      repeat' (first |refine Fl.v rfl rfl rfl ?_ |refine Fl.nilF ?_ |refine AWP.ret ?_ |fail)
      refine RetOk.of rfl (AV.Le.bool ?_)
      cases b with
      | true => exact decide_eq_true (hb.1 rfl).deg
      | false => exact decide_eq_false fun k => by have := hb.2 ⟨hc, hz, hlen, hee, k⟩; cases this
theorem rpValid_ok (p : PZ) (hw : WP p) (hl : WLP p) (b : Bool) (hb : b = true ↔ OkP p) : PureFn Tryz.prog 57 [aP p] (aB b) := by
  refine PureFn.of_body Tryz.func57 rfl Tryz.ntmps57 rfl rfl ?_
  have hfalse : ¬ OkP p → false = b := fun h => by cases b with | false => rfl | true => exact absurd (hb.1 rfl) h
  obtain ⟨f, hf⟩ := boolOf (fun t : TZ => OkT p.vars t)
  repeat' (first |refine Fl.v rfl rfl rfl ?_ |refine Fl.nilF ?_ |refine AWP.seq ?_ |refine AWP.region ?_ |refine Fl.b rfl rfl rfl rfl ?_ |refine Fl.skip rfl rfl ?_ |refine AWP.condT rfl ?_ |(refine AWP.condD rfl ?_ ?_ <;> intro _ <;> try (exfalso; omega)) |refine AWP.block ?_ |refine AWP.skip ?_ |refine AWP.ret ?_ |(refine Fl.splitD rfl rfl ?_ ?_ <;> intro _ <;> try (exfalso; omega)) |fail)
  · rename_i h; exact RetOk.of rfl (AV.Le.bool (hfalse fun k => by have := k.v0; omega))
  · rename_i h; exact RetOk.of rfl (AV.Le.bool (hfalse fun k => by have := k.v1; omega))
  · rename_i h; exact RetOk.of rfl (AV.Le.bool (hfalse fun k => by have := k.len; omega))
  rename_i hv0 hv1 hlen
  refine AWP.loop (G := Nat) (fun i => i ≤ p.terms.length ∧ (∀ t ∈ p.terms.take i, OkT p.vars t) ∧ ∀ (j : Nat) (a b : TZ), j + 1 < i → p.terms[j]? = some a → p.terms[j + 1]? = some b → ordI a.e b.e < 0)
    (fun i => St.of [] [(1, .ptr 1 0), (3, aN i)] [(1, .cells [aN p.vars, .sl 3 eT p.terms] 45)]) (fun i => p.terms.length - i) 0 ⟨by omega, by simp, fun j a b h => by omega⟩ ?_ ?_
  · refine Ent.of [] ?_ ?_ rfl rfl
    repeat' (first | exact True.intro |refine ⟨⟨AV.Le.refl _, rfl⟩, ?_⟩ |refine ⟨⟨⟨_, rfl, BLe.cells (LeL.refl _)⟩, rfl⟩, ?_⟩ |refine ⟨⟨⟨_, rfl, BLe.row rfl⟩, rfl⟩, ?_⟩ |refine ⟨⟨⟨_, rfl, BLe.row ?_⟩, rfl⟩, ?_⟩ |refine ⟨⟨⟨_, rfl, BLe.cells ?_⟩, rfl⟩, ?_⟩ |refine ⟨⟨AV.Le.int ?_, rfl⟩, ?_⟩ |refine ⟨⟨AV.Le.bool ?_, rfl⟩, ?_⟩ |refine ⟨⟨AV.Le.sl ?_, rfl⟩, ?_⟩ |refine ⟨⟨AV.Le.of_eq ?_, rfl⟩, ?_⟩ | fail)
  · intro i ⟨k0, k1, k2⟩
    by_cases hi : i < p.terms.length
    · obtain ⟨t, ht⟩ : ∃ t, p.terms[i]? = some t := ⟨_, List.getElem?_eq_getElem hi⟩
      have htm := List.mem_of_getElem? ht
      have hall : ¬ OkT p.vars t → ¬ OkP p := fun h k => h (k.terms t htm)
      have hte := rterm_ok t p.vars (hw t htm) (hl.2 t htm) (by omega) (f t) (hf t)
      by_cases hot : OkT p.vars t
      · rw [(hf t).2 hot] at hte
        by_cases hi0 : 0 < i
        · obtain ⟨a, ha⟩ : ∃ a, p.terms[i - 1]? = some a := ⟨_, List.getElem?_eq_getElem (by omega)⟩
          have ha' : p.terms[((i : Int) - 1).toNat]? = some a := by rwa [show ((i : Int) - 1).toNat = i - 1 by omega]
          have hoa := k1 a (List.mem_of_getElem? (i := i - 1) (by rw [List.getElem?_take_of_lt (by omega)]; exact ha))
          have hleq : a.e.length = t.e.length := by have := hoa.len; have := hot.len; omega
          have hord := rOrder_ok a.e t.e hoa.exps hot.exps (by have := hoa.len; omega) hleq.symm
          have hone := rOrd_one hleq
          repeat' (first |refine Fl.v rfl rfl rfl ?_ |refine Fl.nilF ?_ |refine AWP.seq ?_ |refine AWP.region ?_ |(refine AWP.condD rfl ?_ ?_ <;> intro _ <;> try (exfalso; omega)) |refine AWP.block ?_ |refine AWP.skip ?_ |refine Fl.elK rfl rfl rfl rfl rfl rfl rfl rfl (by assumption) (by omega) ?_ |fail)
          refine Fl.call rfl (hte) rfl rfl rfl (LeL.refl _) ?_
          repeat' (first |refine Fl.v rfl rfl rfl ?_ |refine Fl.w rfl rfl rfl (by first | exact True.intro | omega) ?_ |refine Fl.elK rfl rfl rfl rfl rfl rfl rfl rfl (by assumption) (by omega) ?_ |(refine Fl.splitD rfl rfl ?_ ?_ <;> intro _ <;> try (exfalso; omega)) |fail)
          refine Fl.call rfl (hord) rfl rfl rfl (LeL.refl _) ?_
          repeat' (first |refine Fl.v rfl rfl rfl ?_ |refine Fl.nilF ?_ |refine Fl.nil (fun _ => by kernel_rfl) ?_ |refine AWP.seq ?_ |refine AWP.region ?_ |refine Fl.w rfl rfl rfl (by first | exact True.intro | omega) ?_ |(refine AWP.condN rfl ?_ ?_ <;> intro _ <;> try (exfalso; omega)) |refine AWP.skip ?_ |refine AWP.ret ?_ |fail)
          · rename_i ho
            refine RetOk.of rfl (AV.Le.bool (hfalse fun k => ho (hone.2 (k.ord (i - 1) a t ha (by rwa [show i - 1 + 1 = i by omega])))))
          · rename_i ho
            refine LoopEnd.of (i + 1) ⟨by omega, all_take_succ ht k1 hot, fun j a' b' hj h1 h2 => ?_⟩ (by omega) ?_
            · by_cases hji : j + 1 < i
              · exact k2 j a' b' hji h1 h2
              · have hj' : j = i - 1 := by omega
                subst hj'
                rw [ha] at h1; cases h1
                rw [show i - 1 + 1 = i by omega, ht] at h2; cases h2
                exact hone.1 ho
            · refine Ent.of [] ?_ ?_ rfl rfl
              repeat' (first | exact True.intro |refine ⟨⟨AV.Le.refl _, rfl⟩, ?_⟩ |refine ⟨⟨⟨_, rfl, BLe.cells (LeL.refl _)⟩, rfl⟩, ?_⟩ |refine ⟨⟨⟨_, rfl, BLe.row rfl⟩, rfl⟩, ?_⟩ |refine ⟨⟨⟨_, rfl, BLe.row ?_⟩, rfl⟩, ?_⟩ |refine ⟨⟨⟨_, rfl, BLe.cells ?_⟩, rfl⟩, ?_⟩ |refine ⟨⟨AV.Le.int ?_, rfl⟩, ?_⟩ |refine ⟨⟨AV.Le.bool ?_, rfl⟩, ?_⟩ |refine ⟨⟨AV.Le.sl ?_, rfl⟩, ?_⟩ |refine ⟨⟨AV.Le.of_eq ?_, rfl⟩, ?_⟩ | fail)
        · repeat' (first |refine Fl.v rfl rfl rfl ?_ |refine Fl.nilF ?_ |refine AWP.seq ?_ |refine AWP.region ?_ |(refine AWP.condD rfl ?_ ?_ <;> intro _ <;> try (exfalso; omega)) |refine AWP.block ?_ |refine AWP.skip ?_ |refine Fl.elK rfl rfl rfl rfl rfl rfl rfl rfl (by assumption) (by omega) ?_ |fail)
          refine Fl.call rfl (hte) rfl rfl rfl (LeL.refl _) ?_
          repeat' (first |refine Fl.v rfl rfl rfl ?_ |refine Fl.nilF ?_ |refine Fl.nil (fun _ => by kernel_rfl) ?_ |refine AWP.region ?_ |refine Fl.w rfl rfl rfl (by first | exact True.intro | omega) ?_ |refine Fl.skip rfl rfl ?_ |refine AWP.condF rfl ?_ |refine AWP.skip ?_ |(refine Fl.splitD rfl rfl ?_ ?_ <;> intro _ <;> try (exfalso; omega)) |fail)
          refine LoopEnd.of (i + 1) ⟨by omega, all_take_succ ht k1 hot, fun j a' b' hj h1 h2 => by omega⟩ (by omega) ?_
          refine Ent.of [] ?_ ?_ rfl rfl
          repeat' (first | exact True.intro |refine ⟨⟨AV.Le.refl _, rfl⟩, ?_⟩ |refine ⟨⟨⟨_, rfl, BLe.cells (LeL.refl _)⟩, rfl⟩, ?_⟩ |refine ⟨⟨⟨_, rfl, BLe.row rfl⟩, rfl⟩, ?_⟩ |refine ⟨⟨⟨_, rfl, BLe.row ?_⟩, rfl⟩, ?_⟩ |refine ⟨⟨⟨_, rfl, BLe.cells ?_⟩, rfl⟩, ?_⟩ |refine ⟨⟨AV.Le.int ?_, rfl⟩, ?_⟩ |refine ⟨⟨AV.Le.bool ?_, rfl⟩, ?_⟩ |refine ⟨⟨AV.Le.sl ?_, rfl⟩, ?_⟩ |refine ⟨⟨AV.Le.of_eq ?_, rfl⟩, ?_⟩ | fail)
      · rw [show f t = false from Bool.eq_false_iff.2 fun h => hot ((hf t).1 h)] at hte
        repeat' (first |refine Fl.v rfl rfl rfl ?_ |refine Fl.nilF ?_ |refine AWP.seq ?_ |refine AWP.region ?_ |(refine AWP.condD rfl ?_ ?_ <;> intro _ <;> try (exfalso; omega)) |refine AWP.block ?_ |refine AWP.skip ?_ |refine Fl.elK rfl rfl rfl rfl rfl rfl rfl rfl (by assumption) (by omega) ?_ |fail)
        refine Fl.call rfl (hte) rfl rfl rfl (LeL.refl _) ?_
        repeat' (first |refine Fl.v rfl rfl rfl ?_ |refine Fl.nilF ?_ |refine Fl.nil (fun _ => by kernel_rfl) ?_ |refine AWP.seq ?_ |refine AWP.region ?_ |refine Fl.skip rfl rfl ?_ |refine AWP.condT rfl ?_ |refine AWP.ret ?_ |fail)
        exact RetOk.of rfl (AV.Le.bool (hfalse (hall hot)))
    · repeat' (first |refine Fl.v rfl rfl rfl ?_ |refine Fl.nilF ?_ |refine AWP.seq ?_ |refine AWP.region ?_ |(refine AWP.condD rfl ?_ ?_ <;> intro _ <;> try (exfalso; omega)) |refine AWP.exit ?_ |refine AWP.ret ?_ |fail)
      refine RetOk.of rfl (AV.Le.bool (Eq.symm (hb.2 ⟨by omega, by omega, by omega, fun t ht => k1 t ?_, fun j a b ha hb => k2 j a b ?_ ha hb⟩)))
      · rwa [show i = p.terms.length by omega, List.take_length]
      · have := (List.getElem?_eq_some_iff.1 hb).1
        omega
end Go.Proofs.YtfkjhjgihbnegaaGreat
namespace Go.AL
def needJ (k : Int) : Int := if k = 0 then 1 else if k = 1 then 3 else if k = 2 then 3 else if k = 3 then 2 else -1
theorem needJ_iff (k : Int) (n : Nat) : (n : Int) = needJ k ↔ needI k ≠ 0 ∧ (n : Int) = needI k := by
  unfold needJ needI
  repeat' split
  all_goals omega
theorem needJ_le (k : Int) : needJ k ≤ 3 := by unfold needJ; repeat' split <;> omega
def WLL (l : LZ) : Prop := l.polys.length ≤ 9223372036854775807 ∧ ∀ p ∈ l.polys, WLP p
def WLS (s : SZ) : Prop := ∀ l ∈ s.links, WLL l
theorem incB_get {top : Int} : ∀ {l : List Int} {last : Int} {i : Nat} {v : Int}, incB last top l → l[i]? = some v → last < v ∧ v < top ∧ ∀ u, i ≠ 0 → l[i - 1]? = some u → u < v
  | [], _, _, _, _, h => by simp at h
  | x :: l, last, 0, v, ⟨h1, h2, h3⟩, h => by
    simp at h; subst h
    exact ⟨h1, h2, fun u h => absurd rfl h⟩
  | x :: l, last, i + 1, v, ⟨h1, h2, h3⟩, h => by
    have h' : l[i]? = some v := by simpa using h
    obtain ⟨g1, g2, g3⟩ := incB_get h3 h'
    refine ⟨by omega, g2, fun u _ hu => ?_⟩
    cases i with
    | zero => simp at hu; omega
    | succ i => exact g3 u (by omega) (by simpa using hu)
theorem incB_snoc {top : Int} : ∀ {l : List Int} {last v : Int}, incB last top l → last < v → v < top → (∀ u ∈ l.getLast?, u < v) → incB last top (l ++ [v])
  | [], last, v, _, h1, h2, _ => ⟨h1, h2, trivial⟩
  | x :: l, last, v, ⟨g1, g2, g3⟩, h1, h2, h => by
    cases l with
    | nil => exact ⟨g1, g2, h x rfl, h2, trivial⟩
    | cons y l =>
      refine ⟨g1, g2, incB_snoc g3 ?_ h2 (by simpa using h)⟩
      have hl : ∀ u ∈ (y :: l), x < u := fun u hu => (incB_mem g3 hu).1
      have := h ((y :: l).getLast (by simp)) (by simp [List.getLast?_cons_cons, List.getLast?_eq_some_getLast (l := y :: l) (by simp)])
      have := hl _ (List.getLast_mem (l := y :: l) (by simp))
      omega
end Go.AL
namespace Go.Proofs.YtfkjhjgihbnegaaGreat
open Go.AL

theorem rneeds_ok (k : Int) : PureFn Tryz.prog 83 [aN k] (aN (needJ k)) := by
  refine PureFn.of_body Tryz.func83 rfl Tryz.ntmps83 rfl rfl ?_
  repeat' (first |refine Fl.v rfl rfl rfl ?_ |refine Fl.nilF ?_ |refine AWP.seq ?_ |refine AWP.region ?_ |(refine AWP.condD rfl ?_ ?_ <;> intro _ <;> try (exfalso; omega)) |refine AWP.block ?_ |refine AWP.skip ?_ |refine AWP.ret ?_ |fail)
  all_goals exact RetOk.of rfl (AV.Le.int (by unfold needJ; repeat' split <;> omega))

set_option maxHeartbeats 1000000 in
theorem rLink_ok (l : LZ) (vars : Int) (hw : WL l) (hl : WLL l) (b : Bool) (hb : b = true ↔ OkL vars l) : PureFn Tryz.prog 41 [aL l, aN vars] (aB b) := by
  refine PureFn.of_body Tryz.func41 rfl Tryz.ntmps41 rfl rfl ?_
  have hfalse : ¬ OkL vars l → false = b := fun h => by cases b with | false => rfl | true => exact absurd (hb.1 rfl) h
  obtain ⟨f, hf⟩ := boolOf (fun p : PZ => OkP p)
  have hnj := needJ_le l.kind
  have hni := needJ_iff l.kind l.polys.length
  repeat' (first |refine Fl.v rfl rfl rfl ?_ |refine Fl.nilF ?_ |refine Fl.nil (fun _ => by kernel_rfl) ?_ |refine AWP.seq ?_ |refine AWP.region ?_ |refine Fl.b rfl rfl rfl rfl ?_ |refine Fl.skip rfl rfl ?_ |refine AWP.condT rfl ?_ |refine AWP.ret ?_ |(refine Fl.splitD rfl rfl ?_ ?_ <;> intro _ <;> try (exfalso; omega)) |fail)
  · rename_i h; exact RetOk.of rfl (AV.Le.bool (hfalse fun k => by have := k.vlen; omega))
  refine Fl.call rfl (rneeds_ok l.kind) rfl rfl rfl (LeL.refl _) ?_
  repeat' (first |refine Fl.v rfl rfl rfl ?_ |refine Fl.nilF ?_ |refine Fl.nil (fun _ => by kernel_rfl) ?_ |refine AWP.seq ?_ |refine AWP.region ?_ |(refine AWP.condN rfl ?_ ?_ <;> intro _ <;> try (exfalso; omega)) |refine AWP.block ?_ |refine AWP.skip ?_ |refine AWP.ret ?_ |fail)
  · rename_i h; exact RetOk.of rfl (AV.Le.bool (hfalse fun k => h (hni.2 ⟨k.kind, k.len⟩)))
  rename_i hvl hlen
  obtain ⟨hk, hlen'⟩ := hni.1 (by omega)
  refine AWP.loop (G := Nat) (fun i => i ≤ l.vars.length ∧ incB (-1) vars (l.vars.take i)) (fun i => St.of [] [(1, aN vars), (2, .ptr 2 0), (5, aN i)] [(2, .cells (eL l) 51)]) (fun i => l.vars.length - i) 0 ⟨by omega, trivial⟩ ?_ ?_
  · refine Ent.of [] ?_ ?_ rfl rfl
    repeat' (first | exact True.intro |refine ⟨⟨AV.Le.refl _, rfl⟩, ?_⟩ |refine ⟨⟨⟨_, rfl, BLe.cells (LeL.refl _)⟩, rfl⟩, ?_⟩ |refine ⟨⟨⟨_, rfl, BLe.row rfl⟩, rfl⟩, ?_⟩ |refine ⟨⟨⟨_, rfl, BLe.row ?_⟩, rfl⟩, ?_⟩ |refine ⟨⟨⟨_, rfl, BLe.cells ?_⟩, rfl⟩, ?_⟩ |refine ⟨⟨AV.Le.int ?_, rfl⟩, ?_⟩ |refine ⟨⟨AV.Le.bool ?_, rfl⟩, ?_⟩ |refine ⟨⟨AV.Le.sl ?_, rfl⟩, ?_⟩ |refine ⟨⟨AV.Le.of_eq ?_, rfl⟩, ?_⟩ | fail)
  · intro i ⟨k0, k1⟩
    by_cases hi : i < l.vars.length
    · obtain ⟨v, hv⟩ : ∃ v, l.vars[i]? = some v := ⟨_, List.getElem?_eq_getElem hi⟩
      by_cases hv0 : v < 0
      · have hbad : false = b := hfalse fun k => by have := incB_get k.inc hv; omega
        repeat' (first |refine Fl.v rfl rfl rfl ?_ |refine Fl.nilF ?_ |refine Fl.nil (fun _ => by kernel_rfl) ?_ |refine AWP.seq ?_ |refine AWP.region ?_ |refine Fl.skip rfl rfl ?_ |refine AWP.condT rfl ?_ |(refine AWP.condD rfl ?_ ?_ <;> intro _ <;> try (exfalso; omega)) |refine AWP.block ?_ |refine AWP.skip ?_ |refine AWP.ret ?_ |refine Fl.elK rfl rfl rfl rfl rfl rfl rfl rfl (by assumption) (by omega) ?_ |(refine Fl.splitD rfl rfl ?_ ?_ <;> intro _ <;> try (exfalso; omega)) |fail)
        all_goals exact RetOk.of rfl (AV.Le.bool hbad)
      · by_cases hvt : vars ≤ v
        · have hbad : false = b := hfalse fun k => by have := incB_get k.inc hv; omega
          repeat' (first |refine Fl.v rfl rfl rfl ?_ |refine Fl.nilF ?_ |refine Fl.nil (fun _ => by kernel_rfl) ?_ |refine AWP.seq ?_ |refine AWP.region ?_ |refine Fl.skip rfl rfl ?_ |refine AWP.condT rfl ?_ |(refine AWP.condD rfl ?_ ?_ <;> intro _ <;> try (exfalso; omega)) |refine AWP.block ?_ |refine AWP.skip ?_ |refine AWP.ret ?_ |refine Fl.elK rfl rfl rfl rfl rfl rfl rfl rfl (by assumption) (by omega) ?_ |(refine Fl.splitD rfl rfl ?_ ?_ <;> intro _ <;> try (exfalso; omega)) |fail)
          all_goals exact RetOk.of rfl (AV.Le.bool hbad)
        · by_cases hi0 : 0 < i
          · obtain ⟨u, hu⟩ : ∃ u, l.vars[i - 1]? = some u := ⟨_, List.getElem?_eq_getElem (by omega)⟩
            have hu' : l.vars[((i : Int) - 1).toNat]? = some u := by rwa [show ((i : Int) - 1).toNat = i - 1 by omega]
            by_cases huv : u < v
            · repeat' (first |refine Fl.v rfl rfl rfl ?_ |refine Fl.nilF ?_ |refine Fl.nil (fun _ => by kernel_rfl) ?_ |refine AWP.seq ?_ |refine AWP.region ?_ |refine Fl.w rfl rfl rfl (by first | exact True.intro | omega) ?_ |(refine AWP.condD rfl ?_ ?_ <;> intro _ <;> try (exfalso; omega)) |refine AWP.block ?_ |refine AWP.skip ?_ |refine Fl.elK rfl rfl rfl rfl rfl rfl rfl rfl (by assumption) (by omega) ?_ |(refine Fl.splitD rfl rfl ?_ ?_ <;> intro _ <;> try (exfalso; omega)) |fail)
              refine LoopEnd.of (i + 1) ⟨by omega, ?_⟩ (by omega) ?_
              · rw [take_snoc hv]
                refine incB_snoc k1 (by omega) (by omega) fun y hy => ?_
                rw [List.getLast?_eq_getElem?, List.length_take_of_le (by omega), List.getElem?_take_of_lt (by omega), hu] at hy
                injection hy with hy
                omega
              · refine Ent.of [] ?_ ?_ rfl rfl
                repeat' (first | exact True.intro |refine ⟨⟨AV.Le.refl _, rfl⟩, ?_⟩ |refine ⟨⟨⟨_, rfl, BLe.cells (LeL.refl _)⟩, rfl⟩, ?_⟩ |refine ⟨⟨⟨_, rfl, BLe.row rfl⟩, rfl⟩, ?_⟩ |refine ⟨⟨⟨_, rfl, BLe.row ?_⟩, rfl⟩, ?_⟩ |refine ⟨⟨⟨_, rfl, BLe.cells ?_⟩, rfl⟩, ?_⟩ |refine ⟨⟨AV.Le.int ?_, rfl⟩, ?_⟩ |refine ⟨⟨AV.Le.bool ?_, rfl⟩, ?_⟩ |refine ⟨⟨AV.Le.sl ?_, rfl⟩, ?_⟩ |refine ⟨⟨AV.Le.of_eq ?_, rfl⟩, ?_⟩ | fail)
            · have hbad : false = b := hfalse fun k => by have := (incB_get k.inc hv).2.2 u (by omega) hu; omega
              repeat' (first |refine Fl.v rfl rfl rfl ?_ |refine Fl.nilF ?_ |refine Fl.nil (fun _ => by kernel_rfl) ?_ |refine AWP.seq ?_ |refine AWP.region ?_ |refine Fl.w rfl rfl rfl (by first | exact True.intro | omega) ?_ |(refine AWP.condD rfl ?_ ?_ <;> intro _ <;> try (exfalso; omega)) |refine AWP.block ?_ |refine AWP.skip ?_ |refine AWP.ret ?_ |refine Fl.elK rfl rfl rfl rfl rfl rfl rfl rfl (by assumption) (by omega) ?_ |(refine Fl.splitD rfl rfl ?_ ?_ <;> intro _ <;> try (exfalso; omega)) |fail)
              all_goals exact RetOk.of rfl (AV.Le.bool hbad)
          · repeat' (first |refine Fl.v rfl rfl rfl ?_ |refine Fl.nilF ?_ |refine Fl.nil (fun _ => by kernel_rfl) ?_ |refine AWP.seq ?_ |refine AWP.region ?_ |refine Fl.w rfl rfl rfl (by first | exact True.intro | omega) ?_ |refine Fl.skip rfl rfl ?_ |refine AWP.condF rfl ?_ |(refine AWP.condD rfl ?_ ?_ <;> intro _ <;> try (exfalso; omega)) |refine AWP.block ?_ |refine AWP.skip ?_ |refine Fl.elK rfl rfl rfl rfl rfl rfl rfl rfl (by assumption) (by omega) ?_ |(refine Fl.splitD rfl rfl ?_ ?_ <;> intro _ <;> try (exfalso; omega)) |fail)
            refine LoopEnd.of (i + 1) ⟨by omega, ?_⟩ (by omega) ?_
            · rw [take_snoc hv, show i = 0 by omega, List.take_zero, List.nil_append]
              exact ⟨by omega, by omega, trivial⟩
            · refine Ent.of [] ?_ ?_ rfl rfl
              repeat' (first | exact True.intro |refine ⟨⟨AV.Le.refl _, rfl⟩, ?_⟩ |refine ⟨⟨⟨_, rfl, BLe.cells (LeL.refl _)⟩, rfl⟩, ?_⟩ |refine ⟨⟨⟨_, rfl, BLe.row rfl⟩, rfl⟩, ?_⟩ |refine ⟨⟨⟨_, rfl, BLe.row ?_⟩, rfl⟩, ?_⟩ |refine ⟨⟨⟨_, rfl, BLe.cells ?_⟩, rfl⟩, ?_⟩ |refine ⟨⟨AV.Le.int ?_, rfl⟩, ?_⟩ |refine ⟨⟨AV.Le.bool ?_, rfl⟩, ?_⟩ |refine ⟨⟨AV.Le.sl ?_, rfl⟩, ?_⟩ |refine ⟨⟨AV.Le.of_eq ?_, rfl⟩, ?_⟩ | fail)
    · have hinc : incB (-1) vars l.vars := by rwa [List.take_of_length_le (by omega)] at k1
      repeat' (first |refine Fl.v rfl rfl rfl ?_ |refine Fl.nilF ?_ |refine AWP.seq ?_ |refine AWP.region ?_ |(refine AWP.condD rfl ?_ ?_ <;> intro _ <;> try (exfalso; omega)) |refine AWP.block ?_ |refine AWP.exit ?_ |fail)
      refine AWP.loop (G := Nat) (fun i => i ≤ l.polys.length ∧ ∀ p ∈ l.polys.take i, p.vars = l.vars.length ∧ OkP p) (fun i => St.of [] [(2, .ptr 2 0), (6, aN i)] [(2, .cells (eL l) 51)]) (fun i => l.polys.length - i) 0 ⟨by omega, by simp⟩ ?_ ?_
      · refine Ent.of [] ?_ ?_ rfl rfl
        repeat' (first | exact True.intro |refine ⟨⟨AV.Le.refl _, rfl⟩, ?_⟩ |refine ⟨⟨⟨_, rfl, BLe.cells (LeL.refl _)⟩, rfl⟩, ?_⟩ |refine ⟨⟨⟨_, rfl, BLe.row rfl⟩, rfl⟩, ?_⟩ |refine ⟨⟨⟨_, rfl, BLe.row ?_⟩, rfl⟩, ?_⟩ |refine ⟨⟨⟨_, rfl, BLe.cells ?_⟩, rfl⟩, ?_⟩ |refine ⟨⟨AV.Le.int ?_, rfl⟩, ?_⟩ |refine ⟨⟨AV.Le.bool ?_, rfl⟩, ?_⟩ |refine ⟨⟨AV.Le.sl ?_, rfl⟩, ?_⟩ |refine ⟨⟨AV.Le.of_eq ?_, rfl⟩, ?_⟩ | fail)
      · clear k1 k0; intro i ⟨k0, k1⟩
        by_cases hi : i < l.polys.length
        · obtain ⟨p, hp⟩ : ∃ p, l.polys[i]? = some p := ⟨_, List.getElem?_eq_getElem hi⟩
          have hpm := List.mem_of_getElem? hp
          have hte := rpValid_ok p (hw p hpm) (hl.2 p hpm) (f p) (hf p)
          by_cases hpv : p.vars = l.vars.length
          · by_cases hop : OkP p
            · rw [(hf p).2 hop] at hte
              repeat' (first |refine Fl.v rfl rfl rfl ?_ |refine Fl.nilF ?_ |refine AWP.seq ?_ |refine AWP.region ?_ |(refine AWP.condD rfl ?_ ?_ <;> intro _ <;> try (exfalso; omega)) |refine AWP.block ?_ |refine AWP.skip ?_ |refine Fl.elK rfl rfl rfl rfl rfl rfl rfl rfl (by assumption) (by omega) ?_ |(refine Fl.splitN rfl rfl ?_ ?_ <;> intro _ <;> try (exfalso; omega)) |fail)
              refine Fl.call rfl (hte) rfl rfl rfl (LeL.refl _) ?_
              repeat' (first |refine Fl.v rfl rfl rfl ?_ |refine Fl.nilF ?_ |refine Fl.nil (fun _ => by kernel_rfl) ?_ |refine AWP.region ?_ |refine Fl.w rfl rfl rfl (by first | exact True.intro | omega) ?_ |refine AWP.condF rfl ?_ |refine AWP.skip ?_ |fail)
              refine LoopEnd.of (i + 1) ⟨by omega, all_take_succ hp k1 ⟨hpv, hop⟩⟩ (by omega) ?_
              refine Ent.of [] ?_ ?_ rfl rfl
              repeat' (first | exact True.intro |refine ⟨⟨AV.Le.refl _, rfl⟩, ?_⟩ |refine ⟨⟨⟨_, rfl, BLe.cells (LeL.refl _)⟩, rfl⟩, ?_⟩ |refine ⟨⟨⟨_, rfl, BLe.row rfl⟩, rfl⟩, ?_⟩ |refine ⟨⟨⟨_, rfl, BLe.row ?_⟩, rfl⟩, ?_⟩ |refine ⟨⟨⟨_, rfl, BLe.cells ?_⟩, rfl⟩, ?_⟩ |refine ⟨⟨AV.Le.int ?_, rfl⟩, ?_⟩ |refine ⟨⟨AV.Le.bool ?_, rfl⟩, ?_⟩ |refine ⟨⟨AV.Le.sl ?_, rfl⟩, ?_⟩ |refine ⟨⟨AV.Le.of_eq ?_, rfl⟩, ?_⟩ | fail)
            · rw [show f p = false from Bool.eq_false_iff.2 fun h => hop ((hf p).1 h)] at hte
              have hbad : false = b := hfalse fun k => hop (k.polys p hpm).2
              repeat' (first |refine Fl.v rfl rfl rfl ?_ |refine Fl.nilF ?_ |refine AWP.seq ?_ |refine AWP.region ?_ |(refine AWP.condD rfl ?_ ?_ <;> intro _ <;> try (exfalso; omega)) |refine AWP.block ?_ |refine AWP.skip ?_ |refine Fl.elK rfl rfl rfl rfl rfl rfl rfl rfl (by assumption) (by omega) ?_ |(refine Fl.splitN rfl rfl ?_ ?_ <;> intro _ <;> try (exfalso; omega)) |fail)
              refine Fl.call rfl (hte) rfl rfl rfl (LeL.refl _) ?_
              repeat' (first |refine Fl.v rfl rfl rfl ?_ |refine Fl.nilF ?_ |refine Fl.nil (fun _ => by kernel_rfl) ?_ |refine AWP.seq ?_ |refine AWP.region ?_ |refine AWP.condT rfl ?_ |refine AWP.ret ?_ |fail)
              exact RetOk.of rfl (AV.Le.bool hbad)
          · have hbad : false = b := hfalse fun k => hpv (k.polys p hpm).1
            repeat' (first |refine Fl.v rfl rfl rfl ?_ |refine Fl.nilF ?_ |refine Fl.nil (fun _ => by kernel_rfl) ?_ |refine AWP.seq ?_ |refine AWP.region ?_ |refine Fl.skip rfl rfl ?_ |refine AWP.condT rfl ?_ |(refine AWP.condD rfl ?_ ?_ <;> intro _ <;> try (exfalso; omega)) |refine AWP.block ?_ |refine AWP.skip ?_ |refine AWP.ret ?_ |refine Fl.elK rfl rfl rfl rfl rfl rfl rfl rfl (by assumption) (by omega) ?_ |(refine Fl.splitN rfl rfl ?_ ?_ <;> intro _ <;> try (exfalso; omega)) |fail)
            all_goals exact RetOk.of rfl (AV.Le.bool hbad)
        · rw [List.take_of_length_le (by omega)] at k1
          repeat' (first |refine Fl.v rfl rfl rfl ?_ |refine Fl.nilF ?_ |refine AWP.seq ?_ |refine AWP.region ?_ |(refine AWP.condD rfl ?_ ?_ <;> intro _ <;> try (exfalso; omega)) |refine AWP.exit ?_ |refine AWP.ret ?_ |fail)
          exact RetOk.of rfl (AV.Le.bool (Eq.symm (hb.2 ⟨hk, hlen', by omega, hinc, k1⟩)))

theorem r9Valid_ok (s : SZ) (hw : WS s) (hl : WLS s) (b : Bool) (hb : b = true ↔ OkS s) : PureFn Tryz.prog 12 [aS s] (aB b) := by
  refine PureFn.of_body Tryz.func12 rfl Tryz.ntmps12 rfl rfl ?_
  have hfalse : ¬ OkS s → false = b := fun h => by cases b with | false => rfl | true => exact absurd (hb.1 rfl) h
  obtain ⟨f, hf⟩ := boolOf (fun l : LZ => OkL s.vars l)
  repeat' (first |refine Fl.v rfl rfl rfl ?_ |refine Fl.nilF ?_ |refine AWP.seq ?_ |refine AWP.region ?_ |refine Fl.b rfl rfl rfl rfl ?_ |refine Fl.skip rfl rfl ?_ |refine AWP.condT rfl ?_ |(refine AWP.condD rfl ?_ ?_ <;> intro _ <;> try (exfalso; omega)) |refine AWP.block ?_ |refine AWP.skip ?_ |refine AWP.ret ?_ |(refine Fl.splitD rfl rfl ?_ ?_ <;> intro _ <;> try (exfalso; omega)) |fail)
  · rename_i h; exact RetOk.of rfl (AV.Le.bool (hfalse fun k => by have := k.v0; omega))
  · rename_i h; exact RetOk.of rfl (AV.Le.bool (hfalse fun k => by have := k.v1; omega))
  · rename_i h; exact RetOk.of rfl (AV.Le.bool (hfalse fun k => by have := k.len; omega))
  rename_i hv0 hv1 hlen
  refine AWP.loop (G := Nat) (fun i => i ≤ s.links.length ∧ ∀ t ∈ s.links.take i, OkL s.vars t)
    (fun i => St.of [] [(1, .ptr 1 0), (3, aN i)] [(1, .cells [aN s.vars, .sl 3 eL s.links] 24)]) (fun i => s.links.length - i) 0 ⟨by omega, by simp⟩ ?_ ?_
  · refine Ent.of [] ?_ ?_ rfl rfl
    repeat' (first | exact True.intro |refine ⟨⟨AV.Le.refl _, rfl⟩, ?_⟩ |refine ⟨⟨⟨_, rfl, BLe.cells (LeL.refl _)⟩, rfl⟩, ?_⟩ |refine ⟨⟨⟨_, rfl, BLe.row rfl⟩, rfl⟩, ?_⟩ |refine ⟨⟨⟨_, rfl, BLe.row ?_⟩, rfl⟩, ?_⟩ |refine ⟨⟨⟨_, rfl, BLe.cells ?_⟩, rfl⟩, ?_⟩ |refine ⟨⟨AV.Le.int ?_, rfl⟩, ?_⟩ |refine ⟨⟨AV.Le.bool ?_, rfl⟩, ?_⟩ |refine ⟨⟨AV.Le.sl ?_, rfl⟩, ?_⟩ |refine ⟨⟨AV.Le.of_eq ?_, rfl⟩, ?_⟩ | fail)
  · intro i ⟨k0, k1⟩
    by_cases hi : i < s.links.length
    · obtain ⟨t, ht⟩ : ∃ t, s.links[i]? = some t := ⟨_, List.getElem?_eq_getElem hi⟩
      have htm := List.mem_of_getElem? ht
      have hall : ¬ OkL s.vars t → ¬ OkS s := fun h k => h (k.links t htm)
      have hte := rLink_ok t s.vars (hw t htm) (hl t htm) (f t) (hf t)
      by_cases hot : OkL s.vars t
      · rw [(hf t).2 hot] at hte
        repeat' (first |refine Fl.v rfl rfl rfl ?_ |refine Fl.nilF ?_ |refine AWP.seq ?_ |refine AWP.region ?_ |(refine AWP.condD rfl ?_ ?_ <;> intro _ <;> try (exfalso; omega)) |refine AWP.block ?_ |refine AWP.skip ?_ |refine Fl.elK rfl rfl rfl rfl rfl rfl rfl rfl (by assumption) (by omega) ?_ |fail)
        refine Fl.call rfl (hte) rfl rfl rfl (LeL.refl _) ?_
        repeat' (first |refine Fl.v rfl rfl rfl ?_ |refine Fl.nilF ?_ |refine Fl.nil (fun _ => by kernel_rfl) ?_ |refine AWP.region ?_ |refine Fl.w rfl rfl rfl (by first | exact True.intro | omega) ?_ |refine AWP.condF rfl ?_ |refine AWP.skip ?_ |fail)
        refine LoopEnd.of (i + 1) ⟨by omega, all_take_succ ht k1 hot⟩ (by omega) ?_
        refine Ent.of [] ?_ ?_ rfl rfl
        repeat' (first | exact True.intro |refine ⟨⟨AV.Le.refl _, rfl⟩, ?_⟩ |refine ⟨⟨⟨_, rfl, BLe.cells (LeL.refl _)⟩, rfl⟩, ?_⟩ |refine ⟨⟨⟨_, rfl, BLe.row rfl⟩, rfl⟩, ?_⟩ |refine ⟨⟨⟨_, rfl, BLe.row ?_⟩, rfl⟩, ?_⟩ |refine ⟨⟨⟨_, rfl, BLe.cells ?_⟩, rfl⟩, ?_⟩ |refine ⟨⟨AV.Le.int ?_, rfl⟩, ?_⟩ |refine ⟨⟨AV.Le.bool ?_, rfl⟩, ?_⟩ |refine ⟨⟨AV.Le.sl ?_, rfl⟩, ?_⟩ |refine ⟨⟨AV.Le.of_eq ?_, rfl⟩, ?_⟩ | fail)
      · rw [show f t = false from Bool.eq_false_iff.2 fun h => hot ((hf t).1 h)] at hte
        repeat' (first |refine Fl.v rfl rfl rfl ?_ |refine Fl.nilF ?_ |refine AWP.seq ?_ |refine AWP.region ?_ |(refine AWP.condD rfl ?_ ?_ <;> intro _ <;> try (exfalso; omega)) |refine AWP.block ?_ |refine AWP.skip ?_ |refine Fl.elK rfl rfl rfl rfl rfl rfl rfl rfl (by assumption) (by omega) ?_ |fail)
        refine Fl.call rfl (hte) rfl rfl rfl (LeL.refl _) ?_
        repeat' (first |refine Fl.v rfl rfl rfl ?_ |refine Fl.nilF ?_ |refine Fl.nil (fun _ => by kernel_rfl) ?_ |refine AWP.seq ?_ |refine AWP.region ?_ |refine AWP.condT rfl ?_ |refine AWP.ret ?_ |fail)
        exact RetOk.of rfl (AV.Le.bool (hfalse (hall hot)))
    · repeat' (first |refine Fl.v rfl rfl rfl ?_ |refine Fl.nilF ?_ |refine AWP.seq ?_ |refine AWP.region ?_ |(refine AWP.condD rfl ?_ ?_ <;> intro _ <;> try (exfalso; omega)) |refine AWP.exit ?_ |refine AWP.ret ?_ |fail)
      refine RetOk.of rfl (AV.Le.bool (Eq.symm (hb.2 ⟨by omega, by omega, by omega, fun t ht => k1 t ?_⟩)))
      rwa [show i = s.links.length by omega, List.take_length]
end Go.Proofs.YtfkjhjgihbnegaaGreat
namespace Go.AL
/-- the greater one, as the machine finds it -/
def mxI (a b : Int) : Int := if b > a then b else a
/-- what comes up where a term is computed, as ints reckon -/
def ldE (e : List Int) (zs : List Z) (n : Int) : Nat → Int
  | 0 => n
  | k + 1 => match e[k]?, zs[k]? with
    | some x, some z => w64 (ldE e zs n k + w64 (x * z.w.length))
    | _, _ => ldE e zs n k
def ldT (zs : List Z) (t : TZ) : Int := ldE t.e zs (t.c.w.length + 1) t.e.length
def ldP (zs : List Z) (ts : List TZ) : Int := ts.foldl (fun m t => mxI m (ldT zs t)) 0
def atZ (zs : List Z) (vs : List Int) : List Z := vs.map fun v => zs.getD v.toNat ⟨false, []⟩
def ldL (zs : List Z) (l : LZ) (m : Int) (ps : List PZ) : Int := ps.foldl (fun m p => mxI m (ldP (atZ zs l.vars) p.terms)) m
def ldS (zs : List Z) (ls : List LZ) : Int := ls.foldl (fun m l => ldL zs l m l.polys) 0
theorem ldP_snoc {zs : List Z} {ts : List TZ} {i : Nat} {t : TZ} (h : ts[i]? = some t) : ldP zs (ts.take (i + 1)) = mxI (ldP zs (ts.take i)) (ldT zs t) := by
  rw [take_snoc h]; simp [ldP, List.foldl_append]
theorem ldL_snoc {zs : List Z} {l : LZ} {m : Int} {ps : List PZ} {i : Nat} {p : PZ} (h : ps[i]? = some p) : ldL zs l m (ps.take (i + 1)) = mxI (ldL zs l m (ps.take i)) (ldP (atZ zs l.vars) p.terms) := by
  rw [take_snoc h]; simp [ldL, List.foldl_append]
theorem ldS_snoc {zs : List Z} {ls : List LZ} {i : Nat} {l : LZ} (h : ls[i]? = some l) : ldS zs (ls.take (i + 1)) = ldL zs l (ldS zs (ls.take i)) l.polys := by
  rw [take_snoc h]; simp [ldS, List.foldl_append]
theorem atZ_snoc {zs : List Z} {vs : List Int} {i : Nat} {v : Int} {z : Z} (h : vs[i]? = some v) (hx : zs[v.toNat]? = some z) : atZ zs (vs.take (i + 1)) = atZ zs (vs.take i) ++ [z] := by
  rw [take_snoc h]
  simp [atZ, hx]
end Go.AL
namespace Go.Proofs.YtfkjhjgihbnegaaGreat
open Go.AL

theorem rLoad_ok (p : PZ) (zs : List Z) (hp : OkP p) (hv : p.vars = zs.length) : PureFn Tryz.prog 29 [aP p, .sl 2 eZ zs] (aN (ldP zs p.terms)) := by
  refine PureFn.of_body Tryz.func29 rfl Tryz.ntmps29 rfl rfl ?_
  have hv1 := hp.v1
  have hlen := hp.len
  repeat' (first |refine Fl.v rfl rfl rfl ?_ |refine Fl.nilF ?_ |refine AWP.seq ?_ |refine AWP.region ?_ |refine Fl.b rfl rfl rfl rfl ?_ |refine AWP.block ?_ |fail)
  refine AWP.loop (G := Nat) (fun i => i ≤ p.terms.length) (fun i => St.of [] [(1, .sl 2 eZ zs), (2, .ptr 2 0), (5, aN (ldP zs (p.terms.take i))), (6, aN i)] [(2, .cells [aN p.vars, .sl 3 eT p.terms] 45)]) (fun i => p.terms.length - i) 0 (by omega) ?_ ?_
  · refine Ent.of [] ?_ ?_ rfl rfl
    repeat' (first | exact True.intro |refine ⟨⟨AV.Le.refl _, rfl⟩, ?_⟩ |refine ⟨⟨⟨_, rfl, BLe.cells (LeL.refl _)⟩, rfl⟩, ?_⟩ |refine ⟨⟨⟨_, rfl, BLe.row rfl⟩, rfl⟩, ?_⟩ |refine ⟨⟨⟨_, rfl, BLe.row ?_⟩, rfl⟩, ?_⟩ |refine ⟨⟨⟨_, rfl, BLe.cells ?_⟩, rfl⟩, ?_⟩ |refine ⟨⟨AV.Le.int ?_, rfl⟩, ?_⟩ |refine ⟨⟨AV.Le.bool ?_, rfl⟩, ?_⟩ |refine ⟨⟨AV.Le.sl ?_, rfl⟩, ?_⟩ |refine ⟨⟨AV.Le.of_eq ?_, rfl⟩, ?_⟩ | fail)
  · intro i k0
    by_cases hi : i < p.terms.length
    · obtain ⟨t, ht⟩ : ∃ t, p.terms[i]? = some t := ⟨_, List.getElem?_eq_getElem hi⟩
      have hot := hp.terms t (List.mem_of_getElem? ht)
      have hcl := hot.coef.1
      have htl := hot.len
      repeat' (first |refine Fl.v rfl rfl rfl ?_ |refine Fl.nilF ?_ |refine AWP.seq ?_ |refine AWP.region ?_ |refine Fl.w rfl rfl rfl (by first | exact True.intro | omega) ?_ |(refine AWP.condD rfl ?_ ?_ <;> intro _ <;> try (exfalso; omega)) |refine AWP.block ?_ |refine AWP.skip ?_ |refine Fl.elK rfl rfl rfl rfl rfl rfl rfl rfl (by assumption) (by omega) ?_ |fail)
      refine AWP.loop (G := Nat) (fun k => k ≤ t.e.length) (fun k => St.of [] [(1, .sl 2 eZ zs), (2, .ptr 2 0), (5, aN (ldP zs (p.terms.take i))), (6, aN i), (7, aN (ldE t.e zs (t.c.w.length + 1) k)), (8, aN k)] [(2, .cells [aN p.vars, .sl 3 eT p.terms] 45)]) (fun k => t.e.length - k) 0 (by omega) ?_ ?_
      · refine Ent.of [] ?_ ?_ rfl rfl
        repeat' (first | exact True.intro |refine ⟨⟨AV.Le.refl _, rfl⟩, ?_⟩ |refine ⟨⟨⟨_, rfl, BLe.cells (LeL.refl _)⟩, rfl⟩, ?_⟩ |refine ⟨⟨⟨_, rfl, BLe.row rfl⟩, rfl⟩, ?_⟩ |refine ⟨⟨⟨_, rfl, BLe.row ?_⟩, rfl⟩, ?_⟩ |refine ⟨⟨⟨_, rfl, BLe.cells ?_⟩, rfl⟩, ?_⟩ |refine ⟨⟨AV.Le.int ?_, rfl⟩, ?_⟩ |refine ⟨⟨AV.Le.bool ?_, rfl⟩, ?_⟩ |refine ⟨⟨AV.Le.sl ?_, rfl⟩, ?_⟩ |refine ⟨⟨AV.Le.of_eq ?_, rfl⟩, ?_⟩ | fail)
      · intro k g0
        by_cases hk : k < t.e.length
        · obtain ⟨x, hx⟩ : ∃ x, t.e[k]? = some x := ⟨_, List.getElem?_eq_getElem hk⟩
          obtain ⟨z, hz⟩ : ∃ z, zs[k]? = some z := ⟨_, List.getElem?_eq_getElem (by omega)⟩
          repeat' (first |refine Fl.v rfl rfl rfl ?_ |refine Fl.nilF ?_ |refine Fl.nil (fun _ => by kernel_rfl) ?_ |refine AWP.seq ?_ |refine AWP.region ?_ |refine Fl.w rfl rfl rfl (by first | exact True.intro | omega) ?_ |refine Fl.sumS rfl rfl rfl rfl rfl rfl ?_ |(refine AWP.condD rfl ?_ ?_ <;> intro _ <;> try (exfalso; omega)) |refine AWP.block ?_ |refine AWP.skip ?_ |refine Fl.elK rfl rfl rfl rfl rfl rfl rfl rfl (by assumption) (by omega) ?_ |fail)
          refine LoopEnd.of (k + 1) (by omega) (by omega) ?_
          refine Ent.of [] ?_ ?_ rfl rfl
          repeat' (first | exact True.intro |refine ⟨⟨AV.Le.refl _, rfl⟩, ?_⟩ |refine ⟨⟨⟨_, rfl, BLe.cells (LeL.refl _)⟩, rfl⟩, ?_⟩ |refine ⟨⟨⟨_, rfl, BLe.row rfl⟩, rfl⟩, ?_⟩ |refine ⟨⟨⟨_, rfl, BLe.row ?_⟩, rfl⟩, ?_⟩ |refine ⟨⟨⟨_, rfl, BLe.cells ?_⟩, rfl⟩, ?_⟩ |refine ⟨⟨AV.Le.int ?_, rfl⟩, ?_⟩ |refine ⟨⟨AV.Le.bool ?_, rfl⟩, ?_⟩ |refine ⟨⟨AV.Le.sl ?_, rfl⟩, ?_⟩ |refine ⟨⟨AV.Le.of_eq ?_, rfl⟩, ?_⟩ | fail)
          simp only [ldE, hx, hz]
        · repeat' (first |refine Fl.v rfl rfl rfl ?_ |refine Fl.nilF ?_ |refine AWP.seq ?_ |refine AWP.region ?_ |refine Fl.w rfl rfl rfl (by first | exact True.intro | omega) ?_ |(refine AWP.condD rfl ?_ ?_ <;> intro _ <;> try (exfalso; omega)) |refine AWP.exit ?_ |fail)
          refine LoopEnd.of (i + 1) (by omega) (by omega) ?_
          refine Ent.of [] ?_ ?_ rfl rfl
          repeat' (first | exact True.intro |refine ⟨⟨AV.Le.refl _, rfl⟩, ?_⟩ |refine ⟨⟨⟨_, rfl, BLe.cells (LeL.refl _)⟩, rfl⟩, ?_⟩ |refine ⟨⟨⟨_, rfl, BLe.row rfl⟩, rfl⟩, ?_⟩ |refine ⟨⟨⟨_, rfl, BLe.row ?_⟩, rfl⟩, ?_⟩ |refine ⟨⟨⟨_, rfl, BLe.cells ?_⟩, rfl⟩, ?_⟩ |refine ⟨⟨AV.Le.int ?_, rfl⟩, ?_⟩ |refine ⟨⟨AV.Le.bool ?_, rfl⟩, ?_⟩ |refine ⟨⟨AV.Le.sl ?_, rfl⟩, ?_⟩ |refine ⟨⟨AV.Le.of_eq ?_, rfl⟩, ?_⟩ | fail)
          rw [ldP_snoc ht, ldT, show k = t.e.length by omega]
          rfl
    · repeat' (first |refine Fl.v rfl rfl rfl ?_ |refine Fl.nilF ?_ |refine AWP.seq ?_ |refine AWP.region ?_ |(refine AWP.condD rfl ?_ ?_ <;> intro _ <;> try (exfalso; omega)) |refine AWP.exit ?_ |refine AWP.ret ?_ |fail)
      refine RetOk.of rfl (AV.Le.int ?_)
      rw [List.take_of_length_le (by omega)]

theorem r9Load_ok (s : SZ) (zs : List Z) (hs : OkS s) (hv : (zs.length : Int) = s.vars) : PureFn Tryz.prog 30 [aS s, .sl 2 eZ zs] (aN (ldS zs s.links)) := by
  refine PureFn.of_body Tryz.func30 rfl Tryz.ntmps30 rfl rfl ?_
  have hv1 := hs.v1
  have hlen := hs.len
  repeat' (first |refine Fl.v rfl rfl rfl ?_ |refine Fl.nilF ?_ |refine AWP.seq ?_ |refine AWP.region ?_ |refine Fl.b rfl rfl rfl rfl ?_ |refine AWP.block ?_ |fail)
  refine AWP.loop (G := Nat) (fun i => i ≤ s.links.length) (fun i => St.of [] [(1, .sl 2 eZ zs), (2, .ptr 2 0), (5, aN (ldS zs (s.links.take i))), (6, aN i)] [(2, .cells [aN s.vars, .sl 3 eL s.links] 24)]) (fun i => s.links.length - i) 0 (by omega) ?_ ?_
  · refine Ent.of [] ?_ ?_ rfl rfl
    repeat' (first | exact True.intro |refine ⟨⟨AV.Le.refl _, rfl⟩, ?_⟩ |refine ⟨⟨⟨_, rfl, BLe.cells (LeL.refl _)⟩, rfl⟩, ?_⟩ |refine ⟨⟨⟨_, rfl, BLe.row rfl⟩, rfl⟩, ?_⟩ |refine ⟨⟨⟨_, rfl, BLe.row ?_⟩, rfl⟩, ?_⟩ |refine ⟨⟨⟨_, rfl, BLe.cells ?_⟩, rfl⟩, ?_⟩ |refine ⟨⟨AV.Le.int ?_, rfl⟩, ?_⟩ |refine ⟨⟨AV.Le.bool ?_, rfl⟩, ?_⟩ |refine ⟨⟨AV.Le.sl ?_, rfl⟩, ?_⟩ |refine ⟨⟨AV.Le.of_eq ?_, rfl⟩, ?_⟩ | fail)
  · intro i k0
    by_cases hi : i < s.links.length
    · obtain ⟨l, hl⟩ : ∃ l, s.links[i]? = some l := ⟨_, List.getElem?_eq_getElem hi⟩
      have hol := hs.links l (List.mem_of_getElem? hl)
      have hvl := hol.vlen
      have hn3 : needI l.kind ≤ 3 := by unfold needI; repeat' split <;> omega
      have hpl := hol.len
      repeat' (first |refine Fl.v rfl rfl rfl ?_ |refine Fl.nilF ?_ |refine AWP.seq ?_ |refine AWP.region ?_ |(refine AWP.condD rfl ?_ ?_ <;> intro _ <;> try (exfalso; omega)) |refine AWP.block ?_ |refine AWP.skip ?_ |fail)
      refine AWP.ent (Ent.nilrow 7 807 rfl rfl 2 eZ 58) ?_
      refine AWP.loop (G := Nat) (fun k => k ≤ l.vars.length) (fun k => St.of [] [(1, .sl 2 eZ zs), (2, .ptr 2 0), (5, aN (ldS zs (s.links.take i))), (6, aN i), (7, .row 7), (8, aN k)] [(2, .cells [aN s.vars, .sl 3 eL s.links] 24), (7, .row 2 eZ (atZ zs (l.vars.take k)) 58)]) (fun k => l.vars.length - k) 0 (by omega) ?_ ?_
      · refine Ent.of [(7, 807)] ?_ ?_ rfl rfl
        repeat' (first | exact True.intro |refine ⟨⟨AV.Le.refl _, rfl⟩, ?_⟩ |refine ⟨⟨⟨_, rfl, BLe.cells (LeL.refl _)⟩, rfl⟩, ?_⟩ |refine ⟨⟨⟨_, rfl, BLe.row rfl⟩, rfl⟩, ?_⟩ |refine ⟨⟨⟨_, rfl, BLe.row ?_⟩, rfl⟩, ?_⟩ |refine ⟨⟨⟨_, rfl, BLe.cells ?_⟩, rfl⟩, ?_⟩ |refine ⟨⟨AV.Le.int ?_, rfl⟩, ?_⟩ |refine ⟨⟨AV.Le.bool ?_, rfl⟩, ?_⟩ |refine ⟨⟨AV.Le.sl ?_, rfl⟩, ?_⟩ |refine ⟨⟨AV.Le.of_eq ?_, rfl⟩, ?_⟩ | fail)
      · intro k g0
        have hli : (atZ zs (l.vars.take k)).length = k := by simp [atZ]; omega
        by_cases hk : k < l.vars.length
        · obtain ⟨v, hv⟩ : ∃ v, l.vars[k]? = some v := ⟨_, List.getElem?_eq_getElem hk⟩
          have hvb := incB_mem hol.inc (List.mem_of_getElem? hv)
          obtain ⟨z, hz⟩ : ∃ z, zs[v.toNat]? = some z := ⟨_, List.getElem?_eq_getElem (by omega)⟩
          repeat' (first |refine Fl.v rfl rfl rfl ?_ |refine Fl.nilF ?_ |refine AWP.seq ?_ |refine AWP.region ?_ |(refine AWP.condD rfl ?_ ?_ <;> intro _ <;> try (exfalso; omega)) |refine AWP.block ?_ |refine AWP.skip ?_ |refine Fl.elK rfl rfl rfl rfl rfl rfl rfl rfl (by assumption) (by omega) ?_ |fail)
          refine Fl.lit rfl rfl rfl rfl rfl eZ [z] rfl rfl rfl rfl (by intro _ _; rfl) rfl ?_
          skip
          refine Fl.ap rfl rfl rfl rfl rfl rfl rfl rfl rfl rfl rfl rfl rfl (fun _ => rfl) (fun _ => rfl) (AV.Le.refl _) (by dsimp only [List.length_nil, List.length_cons]; omega) (by simp; omega) ?_
          repeat' (first |refine Fl.v rfl rfl rfl ?_ |refine Fl.nilF ?_ |refine AWP.region ?_ |refine Fl.w rfl rfl rfl (by first | exact True.intro | omega) ?_ |fail)
          refine LoopEnd.of (k + 1) (by omega) (by omega) ?_
          refine Ent.of [(7, 42)] ?_ ?_ rfl rfl
          repeat' (first | exact True.intro |refine ⟨⟨AV.Le.refl _, rfl⟩, ?_⟩ |refine ⟨⟨⟨_, rfl, BLe.cells (LeL.refl _)⟩, rfl⟩, ?_⟩ |refine ⟨⟨⟨_, rfl, BLe.row rfl⟩, rfl⟩, ?_⟩ |refine ⟨⟨⟨_, rfl, BLe.row ?_⟩, rfl⟩, ?_⟩ |refine ⟨⟨⟨_, rfl, BLe.cells ?_⟩, rfl⟩, ?_⟩ |refine ⟨⟨AV.Le.int ?_, rfl⟩, ?_⟩ |refine ⟨⟨AV.Le.bool ?_, rfl⟩, ?_⟩ |refine ⟨⟨AV.Le.sl ?_, rfl⟩, ?_⟩ |refine ⟨⟨AV.Le.of_eq ?_, rfl⟩, ?_⟩ | fail)
          exact (atZ_snoc hv hz).symm
        · have hti : l.vars.take k = l.vars := List.take_of_length_le (by omega)
          refine AWP.ent (Ent.freeze 7 rfl) ?_
          repeat' (first |refine Fl.v rfl rfl rfl ?_ |refine Fl.nilF ?_ |refine AWP.seq ?_ |refine AWP.region ?_ |(refine AWP.condD rfl ?_ ?_ <;> intro _ <;> try (exfalso; omega)) |refine AWP.block ?_ |refine AWP.exit ?_ |refine Fl.elK rfl rfl rfl rfl rfl rfl rfl rfl (by assumption) (by omega) ?_ |fail)
          refine AWP.loop (G := Nat) (fun j => j ≤ l.polys.length) (fun j => St.of [] [(1, .sl 2 eZ zs), (2, .ptr 2 0), (5, aN (ldL zs l (ldS zs (s.links.take i)) (l.polys.take j))), (6, aN i), (7, .sl 2 eZ (atZ zs l.vars)), (9, aN j)] [(2, .cells [aN s.vars, .sl 3 eL s.links] 24)]) (fun j => l.polys.length - j) 0 (by omega) ?_ ?_
          · refine Ent.of [] ?_ ?_ rfl rfl
            repeat' (first | exact True.intro |refine ⟨⟨AV.Le.refl _, rfl⟩, ?_⟩ |refine ⟨⟨⟨_, rfl, BLe.cells (LeL.refl _)⟩, rfl⟩, ?_⟩ |refine ⟨⟨⟨_, rfl, BLe.row rfl⟩, rfl⟩, ?_⟩ |refine ⟨⟨⟨_, rfl, BLe.row ?_⟩, rfl⟩, ?_⟩ |refine ⟨⟨⟨_, rfl, BLe.cells ?_⟩, rfl⟩, ?_⟩ |refine ⟨⟨AV.Le.int ?_, rfl⟩, ?_⟩ |refine ⟨⟨AV.Le.bool ?_, rfl⟩, ?_⟩ |refine ⟨⟨AV.Le.sl ?_, rfl⟩, ?_⟩ |refine ⟨⟨AV.Le.of_eq ?_, rfl⟩, ?_⟩ | fail)
            rw [hti]
          · clear g0; intro j g0
            by_cases hj : j < l.polys.length
            · obtain ⟨p, hp⟩ : ∃ p, l.polys[j]? = some p := ⟨_, List.getElem?_eq_getElem hj⟩
              have hop := hol.polys p (List.mem_of_getElem? hp)
              repeat' (first |refine Fl.v rfl rfl rfl ?_ |refine Fl.nilF ?_ |refine AWP.seq ?_ |refine AWP.region ?_ |(refine AWP.condD rfl ?_ ?_ <;> intro _ <;> try (exfalso; omega)) |refine AWP.block ?_ |refine AWP.skip ?_ |refine Fl.elK rfl rfl rfl rfl rfl rfl rfl rfl (by assumption) (by omega) ?_ |fail)
              refine Fl.call rfl (rLoad_ok p (atZ zs l.vars) hop.2 (by simp [atZ]; exact hop.1)) rfl rfl rfl (LeL.refl _) ?_
              repeat' (first |refine Fl.v rfl rfl rfl ?_ |refine Fl.nilF ?_ |refine AWP.region ?_ |refine Fl.w rfl rfl rfl (by first | exact True.intro | omega) ?_ |fail)
              refine LoopEnd.of (j + 1) (by omega) (by omega) ?_
              refine Ent.of [] ?_ ?_ rfl rfl
              repeat' (first | exact True.intro |refine ⟨⟨AV.Le.refl _, rfl⟩, ?_⟩ |refine ⟨⟨⟨_, rfl, BLe.cells (LeL.refl _)⟩, rfl⟩, ?_⟩ |refine ⟨⟨⟨_, rfl, BLe.row rfl⟩, rfl⟩, ?_⟩ |refine ⟨⟨⟨_, rfl, BLe.row ?_⟩, rfl⟩, ?_⟩ |refine ⟨⟨⟨_, rfl, BLe.cells ?_⟩, rfl⟩, ?_⟩ |refine ⟨⟨AV.Le.int ?_, rfl⟩, ?_⟩ |refine ⟨⟨AV.Le.bool ?_, rfl⟩, ?_⟩ |refine ⟨⟨AV.Le.sl ?_, rfl⟩, ?_⟩ |refine ⟨⟨AV.Le.of_eq ?_, rfl⟩, ?_⟩ | fail)
              exact (ldL_snoc hp).symm
            · repeat' (first |refine Fl.v rfl rfl rfl ?_ |refine Fl.nilF ?_ |refine AWP.seq ?_ |refine AWP.region ?_ |refine Fl.w rfl rfl rfl (by first | exact True.intro | omega) ?_ |(refine AWP.condD rfl ?_ ?_ <;> intro _ <;> try (exfalso; omega)) |refine AWP.exit ?_ |refine Fl.elK rfl rfl rfl rfl rfl rfl rfl rfl (by assumption) (by omega) ?_ |fail)
              refine LoopEnd.of (i + 1) (by omega) (by omega) ?_
              refine Ent.of [] ?_ ?_ rfl rfl
              repeat' (first | exact True.intro |refine ⟨⟨AV.Le.refl _, rfl⟩, ?_⟩ |refine ⟨⟨⟨_, rfl, BLe.cells (LeL.refl _)⟩, rfl⟩, ?_⟩ |refine ⟨⟨⟨_, rfl, BLe.row rfl⟩, rfl⟩, ?_⟩ |refine ⟨⟨⟨_, rfl, BLe.row ?_⟩, rfl⟩, ?_⟩ |refine ⟨⟨⟨_, rfl, BLe.cells ?_⟩, rfl⟩, ?_⟩ |refine ⟨⟨AV.Le.int ?_, rfl⟩, ?_⟩ |refine ⟨⟨AV.Le.bool ?_, rfl⟩, ?_⟩ |refine ⟨⟨AV.Le.sl ?_, rfl⟩, ?_⟩ |refine ⟨⟨AV.Le.of_eq ?_, rfl⟩, ?_⟩ | fail)
              rw [ldS_snoc hl, show l.polys.take j = l.polys from List.take_of_length_le (by omega)]
    · repeat' (first |refine Fl.v rfl rfl rfl ?_ |refine Fl.nilF ?_ |refine AWP.seq ?_ |refine AWP.region ?_ |(refine AWP.condD rfl ?_ ?_ <;> intro _ <;> try (exfalso; omega)) |refine AWP.exit ?_ |refine AWP.ret ?_ |fail)
      refine RetOk.of rfl (AV.Le.int ?_)
      rw [List.take_of_length_le (by omega)]
end Go.Proofs.YtfkjhjgihbnegaaGreat
namespace Go.AL
/-- what is counted, as ints reckon -/
def cnT (n : Int) (t : TZ) : Int := if n ≤ 6000 then w64 (w64 (n + t.e.length) + t.c.w.length) else n
def cnP (n : Int) (p : PZ) : Int := if n ≤ 6000 then p.terms.foldl cnT (w64 (n + p.terms.length)) else n
def cnL0 (n : Int) (l : LZ) : Int := w64 (w64 (n + l.vars.length) + l.polys.length)
def cnL (n : Int) (l : LZ) : Int := l.polys.foldl cnP (cnL0 n l)
def cnB : List LZ → Int → Bool
  | [], _ => true
  | l :: ls, n => if 6000 < cnL n l then false else cnB ls (cnL n l)
def lightB (b : Bool) (s : SZ) (zs : List Z) (most : Int) : Bool :=
  if 400 < s.links.length then false else if 20100 < zs.length then false else if cnB s.links 0 = false then false else if b = false then true else if (zs.length : Int) = s.vars then decide (ldS zs s.links ≤ most) else true
theorem foldl_stuck {α : Type} {f : Int → α → Int} (hf : ∀ n x, 6000 < n → f n x = n) : ∀ (l : List α) (n : Int), 6000 < n → l.foldl f n = n
  | [], _, _ => rfl
  | x :: l, n, h => by rw [List.foldl_cons, hf n x h]; exact foldl_stuck hf l n h
theorem foldl_stop {α : Type} {f : Int → α → Int} (hf : ∀ n x, 6000 < n → f n x = n) (l : List α) (n : Int) (i : Nat) (h : 6000 < (l.take i).foldl f n) : l.foldl f n = (l.take i).foldl f n := by
  rw [show l.foldl f n = (l.take i ++ l.drop i).foldl f n by rw [List.take_append_drop], List.foldl_append]
  exact foldl_stuck hf _ _ h
theorem foldl_snoc {α β : Type} {f : β → α → β} {l : List α} {n : β} {i : Nat} {x : α} (h : l[i]? = some x) : (l.take (i + 1)).foldl f n = f ((l.take i).foldl f n) x := by
  rw [take_snoc h]; simp [List.foldl_append]
theorem cnT_stuck (n : Int) (t : TZ) (h : 6000 < n) : cnT n t = n := if_neg (by omega)
theorem cnP_stuck (n : Int) (t : PZ) (h : 6000 < n) : cnP n t = n := if_neg (by omega)
theorem cnT_go {n : Int} {t : TZ} (h : n ≤ 6000) : cnT n t = w64 (w64 (n + t.e.length) + t.c.w.length) := if_pos h
theorem cnP_go {n : Int} {p : PZ} (h : n ≤ 6000) : cnP n p = p.terms.foldl cnT (w64 (n + p.terms.length)) := if_pos h
theorem drop_get {α : Type} {l : List α} {i : Nat} {x : α} (h : l[i]? = some x) : l.drop i = x :: l.drop (i + 1) := by
  obtain ⟨h1, h2⟩ := List.getElem?_eq_some_iff.1 h
  rw [List.drop_eq_getElem_cons h1, h2]
theorem lightB_len {b : Bool} {s : SZ} {zs : List Z} {most : Int} (h : lightB b s zs most = true) : s.links.length ≤ 400 ∧ zs.length ≤ 20100 := by
  unfold lightB at h
  split at h
  · cases h
  · split at h
    · cases h
    · omega
end Go.AL
namespace Go.Proofs.YtfkjhjgihbnegaaGreat
open Go.AL

set_option maxHeartbeats 1000000 in
theorem Light_ok (s : SZ) (zs : List Z) (most : Int) (hw : WS s) (hwl : WLS s) (b : Bool) (hb : b = true ↔ OkS s) : PureFn Tryz.prog 17 [aS s, .sl 2 eZ zs, aN most] (aB (lightB b s zs most)) := by
  refine PureFn.of_body Tryz.func17 rfl Tryz.ntmps17 rfl rfl ?_
  repeat' (first |refine Fl.v rfl rfl rfl ?_ |refine Fl.nilF ?_ |refine AWP.seq ?_ |refine AWP.region ?_ |refine Fl.b rfl rfl rfl rfl ?_ |refine Fl.skip rfl rfl ?_ |refine AWP.condT rfl ?_ |(refine AWP.condD rfl ?_ ?_ <;> intro _ <;> try (exfalso; omega)) |refine AWP.block ?_ |refine AWP.skip ?_ |refine AWP.ret ?_ |(refine Fl.splitD rfl rfl ?_ ?_ <;> intro _ <;> try (exfalso; omega)) |fail)
  · rename_i h; exact RetOk.of rfl (AV.Le.bool (by unfold lightB; rw [if_pos (by omega)]))
  · rename_i h1 h2; exact RetOk.of rfl (AV.Le.bool (by unfold lightB; rw [if_neg (by omega), if_pos (by omega)]))
  rename_i h1 h2
  refine AWP.loop (G := Nat) (fun i => i ≤ s.links.length ∧ cnB (s.links.drop i) ((s.links.take i).foldl cnL 0) = cnB s.links 0) (fun i => St.of [] [(1, .sl 2 eZ zs), (2, aN most), (3, .ptr 3 0), (7, aN ((s.links.take i).foldl cnL 0)), (8, aN i)] [(3, .cells [aN s.vars, .sl 3 eL s.links] 24)]) (fun i => s.links.length - i) 0 ⟨by omega, by simp⟩ ?_ ?_
  · refine Ent.of [] ?_ ?_ rfl rfl
    repeat' (first | exact True.intro |refine ⟨⟨AV.Le.refl _, rfl⟩, ?_⟩ |refine ⟨⟨⟨_, rfl, BLe.cells (LeL.refl _)⟩, rfl⟩, ?_⟩ |refine ⟨⟨⟨_, rfl, BLe.row rfl⟩, rfl⟩, ?_⟩ |refine ⟨⟨⟨_, rfl, BLe.row ?_⟩, rfl⟩, ?_⟩ |refine ⟨⟨⟨_, rfl, BLe.cells ?_⟩, rfl⟩, ?_⟩ |refine ⟨⟨AV.Le.int ?_, rfl⟩, ?_⟩ |refine ⟨⟨AV.Le.bool ?_, rfl⟩, ?_⟩ |refine ⟨⟨AV.Le.sl ?_, rfl⟩, ?_⟩ |refine ⟨⟨AV.Le.of_eq ?_, rfl⟩, ?_⟩ | fail)
  · intro i ⟨k0, k1⟩
    by_cases hi : i < s.links.length
    · obtain ⟨l, hl⟩ : ∃ l, s.links[i]? = some l := ⟨_, List.getElem?_eq_getElem hi⟩
      obtain ⟨n, hn⟩ : ∃ n, n = (s.links.take i).foldl cnL 0 := ⟨_, rfl⟩
      have hwp := (hwl l (List.mem_of_getElem? hl)).1
      have hnn := foldl_snoc (f := cnL) (n := 0) hl
      rw [drop_get hl] at k1
      rw [← hn] at k1 hnn ⊢
      simp only [cnB] at k1
      repeat' (first |refine Fl.v rfl rfl rfl ?_ |refine Fl.nilF ?_ |refine Fl.nil (fun _ => by kernel_rfl) ?_ |refine AWP.seq ?_ |refine AWP.region ?_ |refine Fl.sumS rfl rfl rfl rfl rfl rfl ?_ |(refine AWP.condD rfl ?_ ?_ <;> intro _ <;> try (exfalso; omega)) |refine AWP.block ?_ |refine AWP.skip ?_ |refine Fl.elK rfl rfl rfl rfl rfl rfl rfl rfl (by assumption) (by omega) ?_ |fail)
      refine AWP.loop (G := Nat) (fun k => k ≤ l.polys.length) (fun k => St.of [] [(1, .sl 2 eZ zs), (2, aN most), (3, .ptr 3 0), (7, aN ((l.polys.take k).foldl cnP (cnL0 n l))), (8, aN i), (9, aN k)] [(3, .cells [aN s.vars, .sl 3 eL s.links] 24)]) (fun k => l.polys.length - k) 0 (by omega) ?_ ?_
      · refine Ent.of [] ?_ ?_ rfl rfl
        repeat' (first | exact True.intro |refine ⟨⟨AV.Le.refl _, rfl⟩, ?_⟩ |refine ⟨⟨⟨_, rfl, BLe.cells (LeL.refl _)⟩, rfl⟩, ?_⟩ |refine ⟨⟨⟨_, rfl, BLe.row rfl⟩, rfl⟩, ?_⟩ |refine ⟨⟨⟨_, rfl, BLe.row ?_⟩, rfl⟩, ?_⟩ |refine ⟨⟨⟨_, rfl, BLe.cells ?_⟩, rfl⟩, ?_⟩ |refine ⟨⟨AV.Le.int ?_, rfl⟩, ?_⟩ |refine ⟨⟨AV.Le.bool ?_, rfl⟩, ?_⟩ |refine ⟨⟨AV.Le.sl ?_, rfl⟩, ?_⟩ |refine ⟨⟨AV.Le.of_eq ?_, rfl⟩, ?_⟩ | fail)
      · intro k g0
        obtain ⟨m, hm⟩ : ∃ m, m = (l.polys.take k).foldl cnP (cnL0 n l) := ⟨_, rfl⟩
        rw [← hm]
        have hend : k = l.polys.length ∨ 6000 < m → cnL n l = m := by
          rintro (h | h)
          · rw [cnL, hm, h, List.take_length]
          · rw [cnL, hm]; rw [hm] at h; exact foldl_stop cnP_stuck _ _ _ h
        by_cases hk : k < l.polys.length ∧ m ≤ 6000
        · obtain ⟨hk, hm6⟩ := hk
          obtain ⟨p, hp⟩ : ∃ p, l.polys[k]? = some p := ⟨_, List.getElem?_eq_getElem hk⟩
          have hwt := ((hwl l (List.mem_of_getElem? hl)).2 p (List.mem_of_getElem? hp)).1
          have hmm := foldl_snoc (f := cnP) (n := cnL0 n l) hp
          rw [← hm, cnP_go hm6] at hmm
          repeat' (first |refine Fl.v rfl rfl rfl ?_ |refine Fl.nilF ?_ |refine AWP.seq ?_ |refine AWP.region ?_ |refine Fl.sumS rfl rfl rfl rfl rfl rfl ?_ |(refine AWP.condD rfl ?_ ?_ <;> intro _ <;> try (exfalso; omega)) |refine AWP.block ?_ |refine AWP.skip ?_ |refine Fl.elK rfl rfl rfl rfl rfl rfl rfl rfl (by assumption) (by omega) ?_ |(refine Fl.splitD rfl rfl ?_ ?_ <;> intro _ <;> try (exfalso; omega)) |fail)
          refine AWP.loop (G := Nat) (fun j => j ≤ p.terms.length) (fun j => St.of [] [(1, .sl 2 eZ zs), (2, aN most), (3, .ptr 3 0), (7, aN ((p.terms.take j).foldl cnT (w64 (m + p.terms.length)))), (8, aN i), (9, aN k), (10, .sl 3 eT p.terms), (11, aN j)] [(3, .cells [aN s.vars, .sl 3 eL s.links] 24)]) (fun j => p.terms.length - j) 0 (by omega) ?_ ?_
          · refine Ent.of [] ?_ ?_ rfl rfl
            repeat' (first | exact True.intro |refine ⟨⟨AV.Le.refl _, rfl⟩, ?_⟩ |refine ⟨⟨⟨_, rfl, BLe.cells (LeL.refl _)⟩, rfl⟩, ?_⟩ |refine ⟨⟨⟨_, rfl, BLe.row rfl⟩, rfl⟩, ?_⟩ |refine ⟨⟨⟨_, rfl, BLe.row ?_⟩, rfl⟩, ?_⟩ |refine ⟨⟨⟨_, rfl, BLe.cells ?_⟩, rfl⟩, ?_⟩ |refine ⟨⟨AV.Le.int ?_, rfl⟩, ?_⟩ |refine ⟨⟨AV.Le.bool ?_, rfl⟩, ?_⟩ |refine ⟨⟨AV.Le.sl ?_, rfl⟩, ?_⟩ |refine ⟨⟨AV.Le.of_eq ?_, rfl⟩, ?_⟩ | fail)
          · intro j g1
            obtain ⟨q, hq⟩ : ∃ q, q = (p.terms.take j).foldl cnT (w64 (m + p.terms.length)) := ⟨_, rfl⟩
            rw [← hq]
            by_cases hj : j < p.terms.length ∧ q ≤ 6000
            · obtain ⟨hj, hq6⟩ := hj
              obtain ⟨t, ht⟩ : ∃ t, p.terms[j]? = some t := ⟨_, List.getElem?_eq_getElem hj⟩
              have hqq := foldl_snoc (f := cnT) (n := w64 (m + p.terms.length)) ht
              rw [← hq, cnT_go hq6] at hqq
              repeat' (first |refine Fl.v rfl rfl rfl ?_ |refine Fl.nilF ?_ |refine Fl.nil (fun _ => by kernel_rfl) ?_ |refine AWP.seq ?_ |refine AWP.region ?_ |refine Fl.w rfl rfl rfl (by first | exact True.intro | omega) ?_ |refine Fl.sumS rfl rfl rfl rfl rfl rfl ?_ |(refine AWP.condD rfl ?_ ?_ <;> intro _ <;> try (exfalso; omega)) |refine AWP.block ?_ |refine AWP.skip ?_ |refine Fl.elK rfl rfl rfl rfl rfl rfl rfl rfl (by assumption) (by omega) ?_ |(refine Fl.splitD rfl rfl ?_ ?_ <;> intro _ <;> try (exfalso; omega)) |fail)
              refine LoopEnd.of (j + 1) (by omega) (by omega) ?_
              refine Ent.of [] ?_ ?_ rfl rfl
              repeat' (first | exact True.intro |refine ⟨⟨AV.Le.refl _, rfl⟩, ?_⟩ |refine ⟨⟨⟨_, rfl, BLe.cells (LeL.refl _)⟩, rfl⟩, ?_⟩ |refine ⟨⟨⟨_, rfl, BLe.row rfl⟩, rfl⟩, ?_⟩ |refine ⟨⟨⟨_, rfl, BLe.row ?_⟩, rfl⟩, ?_⟩ |refine ⟨⟨⟨_, rfl, BLe.cells ?_⟩, rfl⟩, ?_⟩ |refine ⟨⟨AV.Le.int ?_, rfl⟩, ?_⟩ |refine ⟨⟨AV.Le.bool ?_, rfl⟩, ?_⟩ |refine ⟨⟨AV.Le.sl ?_, rfl⟩, ?_⟩ |refine ⟨⟨AV.Le.of_eq ?_, rfl⟩, ?_⟩ | fail)
              exact hqq.symm
            · have hqe : (l.polys.take (k + 1)).foldl cnP (cnL0 n l) = q := by
                rw [hmm, hq]
                by_cases hj' : j < p.terms.length
                · exact foldl_stop cnT_stuck _ _ _ (by rw [← hq]; omega)
                · rw [List.take_of_length_le (by omega)]
              by_cases hj' : j < p.terms.length
              · repeat' (first |refine Fl.v rfl rfl rfl ?_ |refine Fl.nilF ?_ |refine AWP.seq ?_ |refine AWP.region ?_ |refine Fl.w rfl rfl rfl (by first | exact True.intro | omega) ?_ |(refine AWP.condD rfl ?_ ?_ <;> intro _ <;> try (exfalso; omega)) |refine AWP.exit ?_ |(refine Fl.splitD rfl rfl ?_ ?_ <;> intro _ <;> try (exfalso; omega)) |fail)
                refine LoopEnd.of (k + 1) (by omega) (by omega) ?_
                refine Ent.of [] ?_ ?_ rfl rfl
                repeat' (first | exact True.intro |refine ⟨⟨AV.Le.refl _, rfl⟩, ?_⟩ |refine ⟨⟨⟨_, rfl, BLe.cells (LeL.refl _)⟩, rfl⟩, ?_⟩ |refine ⟨⟨⟨_, rfl, BLe.row rfl⟩, rfl⟩, ?_⟩ |refine ⟨⟨⟨_, rfl, BLe.row ?_⟩, rfl⟩, ?_⟩ |refine ⟨⟨⟨_, rfl, BLe.cells ?_⟩, rfl⟩, ?_⟩ |refine ⟨⟨AV.Le.int ?_, rfl⟩, ?_⟩ |refine ⟨⟨AV.Le.bool ?_, rfl⟩, ?_⟩ |refine ⟨⟨AV.Le.sl ?_, rfl⟩, ?_⟩ |refine ⟨⟨AV.Le.of_eq ?_, rfl⟩, ?_⟩ | fail)
                exact hqe.symm
              · repeat' (first |refine Fl.v rfl rfl rfl ?_ |refine Fl.nilF ?_ |refine AWP.seq ?_ |refine AWP.region ?_ |refine Fl.w rfl rfl rfl (by first | exact True.intro | omega) ?_ |refine Fl.skip rfl rfl ?_ |refine AWP.condF rfl ?_ |refine AWP.exit ?_ |(refine Fl.splitD rfl rfl ?_ ?_ <;> intro _ <;> try (exfalso; omega)) |fail)
                refine LoopEnd.of (k + 1) (by omega) (by omega) ?_
                refine Ent.of [] ?_ ?_ rfl rfl
                repeat' (first | exact True.intro |refine ⟨⟨AV.Le.refl _, rfl⟩, ?_⟩ |refine ⟨⟨⟨_, rfl, BLe.cells (LeL.refl _)⟩, rfl⟩, ?_⟩ |refine ⟨⟨⟨_, rfl, BLe.row rfl⟩, rfl⟩, ?_⟩ |refine ⟨⟨⟨_, rfl, BLe.row ?_⟩, rfl⟩, ?_⟩ |refine ⟨⟨⟨_, rfl, BLe.cells ?_⟩, rfl⟩, ?_⟩ |refine ⟨⟨AV.Le.int ?_, rfl⟩, ?_⟩ |refine ⟨⟨AV.Le.bool ?_, rfl⟩, ?_⟩ |refine ⟨⟨AV.Le.sl ?_, rfl⟩, ?_⟩ |refine ⟨⟨AV.Le.of_eq ?_, rfl⟩, ?_⟩ | fail)
                exact hqe.symm
        · have hme := hend (by omega)
          rw [hme] at hnn k1
          have hno : 6000 < m → false = lightB b s zs most := fun h => by
            rw [if_pos h] at k1
            unfold lightB
            rw [if_neg (by omega), if_neg (by omega), if_pos k1.symm]
          by_cases hk' : k < l.polys.length
          · repeat' (first |refine Fl.v rfl rfl rfl ?_ |refine Fl.nilF ?_ |refine AWP.seq ?_ |refine AWP.region ?_ |(refine AWP.condD rfl ?_ ?_ <;> intro _ <;> try (exfalso; omega)) |refine AWP.exit ?_ |refine AWP.ret ?_ |refine Fl.elK rfl rfl rfl rfl rfl rfl rfl rfl (by assumption) (by omega) ?_ |(refine Fl.splitD rfl rfl ?_ ?_ <;> intro _ <;> try (exfalso; omega)) |fail)
            exact RetOk.of rfl (AV.Le.bool (hno (by omega)))
          · repeat' (first |refine Fl.v rfl rfl rfl ?_ |refine Fl.nilF ?_ |refine AWP.seq ?_ |refine AWP.region ?_ |refine Fl.w rfl rfl rfl (by first | exact True.intro | omega) ?_ |refine Fl.skip rfl rfl ?_ |refine AWP.condF rfl ?_ |(refine AWP.condD rfl ?_ ?_ <;> intro _ <;> try (exfalso; omega)) |refine AWP.skip ?_ |refine AWP.exit ?_ |refine AWP.ret ?_ |refine Fl.elK rfl rfl rfl rfl rfl rfl rfl rfl (by assumption) (by omega) ?_ |(refine Fl.splitD rfl rfl ?_ ?_ <;> intro _ <;> try (exfalso; omega)) |fail)
            · rename_i h; exact RetOk.of rfl (AV.Le.bool (hno h))
            · rename_i h
              rw [if_neg h] at k1
              refine LoopEnd.of (i + 1) ⟨by omega, by rw [hnn]; exact k1⟩ (by omega) ?_
              refine Ent.of [] ?_ ?_ rfl rfl
              repeat' (first | exact True.intro |refine ⟨⟨AV.Le.refl _, rfl⟩, ?_⟩ |refine ⟨⟨⟨_, rfl, BLe.cells (LeL.refl _)⟩, rfl⟩, ?_⟩ |refine ⟨⟨⟨_, rfl, BLe.row rfl⟩, rfl⟩, ?_⟩ |refine ⟨⟨⟨_, rfl, BLe.row ?_⟩, rfl⟩, ?_⟩ |refine ⟨⟨⟨_, rfl, BLe.cells ?_⟩, rfl⟩, ?_⟩ |refine ⟨⟨AV.Le.int ?_, rfl⟩, ?_⟩ |refine ⟨⟨AV.Le.bool ?_, rfl⟩, ?_⟩ |refine ⟨⟨AV.Le.sl ?_, rfl⟩, ?_⟩ |refine ⟨⟨AV.Le.of_eq ?_, rfl⟩, ?_⟩ | fail)
              exact hnn.symm
    · have hd : s.links.drop i = [] := List.drop_of_length_le (by omega)
      rw [hd] at k1
      have k1 : cnB s.links 0 = true := k1.symm
      have hB : lightB b s zs most = if b = false then true else if (zs.length : Int) = s.vars then decide (ldS zs s.links ≤ most) else true := by
        unfold lightB
        rw [if_neg (by omega), if_neg (by omega), if_neg (by rw [k1]; simp)]
      rw [hB]
      repeat' (first |refine Fl.v rfl rfl rfl ?_ |refine Fl.nilF ?_ |refine AWP.seq ?_ |refine AWP.region ?_ |(refine AWP.condD rfl ?_ ?_ <;> intro _ <;> try (exfalso; omega)) |refine AWP.exit ?_ |fail)
      refine Fl.call rfl (r9Valid_ok s hw hwl b hb) rfl rfl rfl (LeL.refl _) ?_
      repeat' (first |refine Fl.v rfl rfl rfl ?_ |refine Fl.nilF ?_ |refine AWP.seq ?_ |refine AWP.region ?_ |refine Fl.skip rfl rfl ?_ |refine AWP.condT rfl ?_ |(refine AWP.condN rfl ?_ ?_ <;> intro _ <;> try (exfalso; omega)) |refine AWP.skip ?_ |refine AWP.ret ?_ |(refine Fl.splitB rfl rfl ?_ ?_ <;> (fail_if_success (intro hb_; exact absurd hb_ (by decide))) <;> intro _) |fail)
      · rename_i h
        have h : (!b) = true := h
        refine RetOk.of rfl (AV.Le.bool ?_)
        rw [if_pos (by simpa using h)]
      · rename_i h h'
        have h : (!b) = false := h
        refine RetOk.of rfl (AV.Le.bool ?_)
        rw [if_neg (by simpa using h), if_neg h']
      · rename_i h h'
        have h : (!b) = false := h
        have hbt : b = true := by simpa using h
        refine Fl.call rfl (r9Load_ok s zs (hb.1 hbt) h') rfl rfl rfl (LeL.refl _) ?_
        repeat' (first |refine Fl.v rfl rfl rfl ?_ |refine Fl.nilF ?_ |refine AWP.ret ?_ |fail)
        refine RetOk.of rfl (AV.Le.bool ?_)
        rw [if_neg (by simp [hbt]), if_pos h']
end Go.Proofs.YtfkjhjgihbnegaaGreat
namespace Go.AL
/-- what a system in memory is -/
def TB (t : TZ) : Prop := ZB t.c
def PB (p : PZ) : Prop := (∀ t ∈ p.terms, TB t) ∧ p.terms.length ≤ maxLen
def LB (l : LZ) : Prop := (∀ p ∈ l.polys, PB p) ∧ l.polys.length ≤ maxLen
def SB (s : SZ) : Prop := ∀ l ∈ s.links, LB l
theorem SB.ws {s : SZ} (h : SB s) : WS s := fun l hl p hp t ht => (((h l hl).1 p hp).1 t ht).1
theorem SB.wls {s : SZ} (h : SB s) : WLS s := fun l hl => ⟨by have := (h l hl).2; simp only [maxLen] at this; omega, fun p hp => ⟨by have := ((h l hl).1 p hp).2; simp only [maxLen] at this; omega, fun t ht => by have := (((h l hl).1 p hp).1 t ht).2; simp only [maxLen] at this; omega⟩⟩
end Go.AL
namespace Go.Proofs.YtfkjhjgihbnegaaGreat
open Go.AL Go.ChangeShapes Go.WideShapes Go.ChangeAt Go.RowKit

section
variable {H : Type} {enc : TypeId × Value → H} {w : World} {base : Nat} {spare : Nat → Bool} {held : Bool}
theorem trodIs {fuel : Nat} {cs : List Value} {x : DataW H × List MemPlace} (h : DataW.trod enc Tryz.prog w base spare held fuel 48 cs = some x) : ∃ (xs : List Int) (u : Value), cs = [u] ∧ Rep (hpOf w) noB (aI xs) u := by
  obtain ⟨xs, u, h1, h2, _⟩ := trodSlice 1 eI (fun n => True) Tryz.underlying48 (by kernel_rfl) (fun fuel us y _ hy => by
    obtain ⟨n, rfl, hn⟩ := trodInt Tryz.underlying3 hy
    exact ⟨n, ⟨_, _, rfl, by simp only [Rep], rfl⟩, trivial⟩) h
  exact ⟨xs, u, h1, h2⟩
theorem trodXs {fuel : Nat} {cs : List Value} {x : DataW H × List MemPlace} (h : DataW.trod enc Tryz.prog w base spare held fuel 25 cs = some x) : ∃ (xs : List Z) (u : Value), cs = [u] ∧ Rep (hpOf w) noB (.sl 2 eZ xs) u ∧ (∀ z ∈ xs, ZB z) ∧ xs.length ≤ maxLen :=
  trodSlice 2 eZ ZB Tryz.underlying25 (by kernel_rfl) (fun fuel us y _ hy => trodZ hy) h
theorem trodT {fuel : Nat} {cs : List Value} {x : DataW H × List MemPlace} (h : DataW.trod enc Tryz.prog w base spare held fuel 68 cs = some x) : ∃ t : TZ, RepL (hpOf w) noB (eT t) cs ∧ TB t := by
  obtain ⟨y0, y1, n, _, hl, h0, h1⟩ := trod_struct2 Tryz.underlying68 h
  have hc : Tryz.prog.cellsOf 68 = 3 := by kernel_rfl
  have hb : Tryz.prog.cellsOf 58 = 2 := by kernel_rfl
  have hs : Tryz.prog.cellsOf 48 = 1 := by kernel_rfl
  rw [hc] at hl
  obtain ⟨c0, c1, c2, rfl⟩ := list3 hl
  simp only [hb, hs, List.drop_zero, List.take_succ_cons, List.take_zero, List.drop_succ_cons] at h0 h1
  obtain ⟨z, ⟨_, _, e0, r0, ⟨_, _, e1, r1, e2⟩⟩, hz⟩ := trodZ h0
  obtain ⟨xs, u, e3, hr⟩ := trodIs h1
  injection e0 with e0 e0'; subst e0 e0'
  injection e1 with e1 e1'; subst e1
  injection e3 with e3; subst e3
  exact ⟨⟨z, xs⟩, ⟨_, _, rfl, r0, ⟨_, _, rfl, r1, ⟨_, _, rfl, hr, rfl⟩⟩⟩, hz⟩
theorem trodTs {fuel : Nat} {cs : List Value} {x : DataW H × List MemPlace} (h : DataW.trod enc Tryz.prog w base spare held fuel 43 cs = some x) : ∃ (xs : List TZ) (u : Value), cs = [u] ∧ Rep (hpOf w) noB (.sl 3 eT xs) u ∧ (∀ z ∈ xs, TB z) ∧ xs.length ≤ maxLen :=
  trodSlice 3 eT TB Tryz.underlying43 (by kernel_rfl) (fun fuel us y _ hy => trodT hy) h
theorem trodP {fuel : Nat} {cs : List Value} {x : DataW H × List MemPlace} (h : DataW.trod enc Tryz.prog w base spare held fuel 45 cs = some x) : ∃ t : PZ, RepL (hpOf w) noB (eP t) cs ∧ PB t := by
  obtain ⟨y0, y1, n, _, hl, h0, h1⟩ := trod_struct2 Tryz.underlying45 h
  have hc : Tryz.prog.cellsOf 45 = 2 := by kernel_rfl
  have hb : Tryz.prog.cellsOf 3 = 1 := by kernel_rfl
  have hs : Tryz.prog.cellsOf 43 = 1 := by kernel_rfl
  rw [hc] at hl
  obtain ⟨c0, c1, rfl⟩ := list2 hl
  simp only [hb, hs, List.drop_zero, List.take_succ_cons, List.take_zero, List.drop_succ_cons] at h0 h1
  obtain ⟨n, e0, hn⟩ := trodInt Tryz.underlying3 h0
  obtain ⟨xs, u, e1, hr, hw⟩ := trodTs h1
  injection e0 with e0; injection e1 with e1; subst e0 e1
  exact ⟨⟨n, xs⟩, ⟨_, _, rfl, by simp only [Rep], ⟨_, _, rfl, hr, rfl⟩⟩, hw⟩
theorem trodPs {fuel : Nat} {cs : List Value} {x : DataW H × List MemPlace} (h : DataW.trod enc Tryz.prog w base spare held fuel 49 cs = some x) : ∃ (xs : List PZ) (u : Value), cs = [u] ∧ Rep (hpOf w) noB (.sl 2 eP xs) u ∧ (∀ z ∈ xs, PB z) ∧ xs.length ≤ maxLen :=
  trodSlice 2 eP PB Tryz.underlying49 (by kernel_rfl) (fun fuel us y _ hy => trodP hy) h
theorem trodL {fuel : Nat} {cs : List Value} {x : DataW H × List MemPlace} (h : DataW.trod enc Tryz.prog w base spare held fuel 51 cs = some x) : ∃ t : LZ, RepL (hpOf w) noB (eL t) cs ∧ LB t := by
  obtain ⟨y0, y1, y2, n, _, hl, h0, h1, h2⟩ := Go.Deep.trod_struct3 Tryz.underlying51 h
  have hc : Tryz.prog.cellsOf 51 = 3 := by kernel_rfl
  have hb : Tryz.prog.cellsOf 3 = 1 := by kernel_rfl
  have hs : Tryz.prog.cellsOf 48 = 1 := by kernel_rfl
  have hs2 : Tryz.prog.cellsOf 49 = 1 := by kernel_rfl
  rw [hc] at hl
  obtain ⟨c0, c1, c2, rfl⟩ := list3 hl
  simp only [hb, hs, hs2, List.drop_zero, List.take_succ_cons, List.take_zero, List.drop_succ_cons] at h0 h1 h2
  obtain ⟨n, e0, hn⟩ := trodInt Tryz.underlying3 h0
  obtain ⟨vs, u, e1, hr⟩ := trodIs h1
  obtain ⟨ps, v, e2, hr2, hw⟩ := trodPs h2
  injection e0 with e0; injection e1 with e1; injection e2 with e2; subst e0 e1 e2
  exact ⟨⟨n, vs, ps⟩, ⟨_, _, rfl, by simp only [Rep], ⟨_, _, rfl, hr, ⟨_, _, rfl, hr2, rfl⟩⟩⟩, hw⟩
theorem trodLs {fuel : Nat} {cs : List Value} {x : DataW H × List MemPlace} (h : DataW.trod enc Tryz.prog w base spare held fuel 22 cs = some x) : ∃ (xs : List LZ) (u : Value), cs = [u] ∧ Rep (hpOf w) noB (.sl 3 eL xs) u ∧ (∀ z ∈ xs, LB z) ∧ xs.length ≤ maxLen :=
  trodSlice 3 eL LB Tryz.underlying22 (by kernel_rfl) (fun fuel us y _ hy => trodL hy) h
theorem trodSys {fuel : Nat} {cs : List Value} {x : DataW H × List MemPlace} (h : DataW.trod enc Tryz.prog w base spare held fuel 24 cs = some x) : ∃ s : SZ, RepL (hpOf w) noB [aN s.vars, .sl 3 eL s.links] cs ∧ SB s := by
  obtain ⟨y0, y1, n, _, hl, h0, h1⟩ := trod_struct2 Tryz.underlying24 h
  have hc : Tryz.prog.cellsOf 24 = 2 := by kernel_rfl
  have hb : Tryz.prog.cellsOf 3 = 1 := by kernel_rfl
  have hs : Tryz.prog.cellsOf 22 = 1 := by kernel_rfl
  rw [hc] at hl
  obtain ⟨c0, c1, rfl⟩ := list2 hl
  simp only [hb, hs, List.drop_zero, List.take_succ_cons, List.take_zero, List.drop_succ_cons] at h0 h1
  obtain ⟨n, e0, hn⟩ := trodInt Tryz.underlying3 h0
  obtain ⟨xs, u, e1, hr, hw⟩ := trodLs h1
  injection e0 with e0; injection e1 with e1; subst e0 e1
  exact ⟨⟨n, xs⟩, ⟨_, _, rfl, by simp only [Rep], ⟨_, _, rfl, hr, rfl⟩⟩, hw.1⟩
end
end Go.Proofs.YtfkjhjgihbnegaaGreat
namespace Go.AL
theorem undI_zero {x : Int} (h : 0 ≤ x) : undI x 0 ↔ x = 0 := by
  unfold undI
  rw [show (0 : Int).toNat = 0 from rfl, Nat.and_zero]
  omega
theorem undI_wordsD : ∀ {a b : List Int}, WOk a → WOk b → (undI (val a) (val b) ↔ ∀ (j : Nat) (x : Int), a[j]? = some x → undI x (b[j]?.getD 0))
  | [], b, _, _ => by
    simp only [val_nil]
    constructor
    · intro _ j x h; simp at h
    · intro _; unfold undI; simp
  | x :: a, [], ha, hb => by
    have hx := ha.head
    have h0 : val ([] : List Int) = val [(0 : Int)] := by simp [val]
    rw [h0, undI_cons hx.1 hx.2 (by omega) (by omega) (val_nonneg ha.tail) (val_nonneg hb), undI_wordsD ha.tail hb]
    constructor
    · intro ⟨h1, h2⟩ j y hy
      cases j with
      | zero => simp at hy; subst hy; simpa using h1
      | succ j => simpa using h2 j y (by simpa using hy)
    · intro h
      refine ⟨by simpa using h 0 x rfl, fun j y hy => ?_⟩
      simpa using h (j + 1) y (by simpa using hy)
  | x :: a, y :: b, ha, hb => by
    have hx := ha.head
    have hy := hb.head
    rw [undI_cons hx.1 hx.2 hy.1 hy.2 (val_nonneg ha.tail) (val_nonneg hb.tail), undI_wordsD ha.tail hb.tail]
    constructor
    · intro ⟨h1, h2⟩ j z hz
      cases j with
      | zero => simp at hz; subst hz; simpa using h1
      | succ j => simpa using h2 j z (by simpa using hz)
    · intro h
      refine ⟨by simpa using h 0 x rfl, fun j z hz => ?_⟩
      simpa using h (j + 1) z (by simpa using hz)
theorem and_eq {x y : Int} (h : 0 ≤ x) : bitN .and x y = x ↔ undI x y := by
  show ((x.toNat &&& y.toNat : Nat) : Int) = x ↔ _
  unfold undI
  omega
end Go.AL
namespace Go.Proofs.YtfkjhjgihbnegaaGreat
open Go.AL

theorem rAll_ok (zs : List Z) (hz : ∀ z ∈ zs, WOk z.w) (hm : ∀ z ∈ zs, z.w.length ≤ 9223372036854775807) (hl : zs.length ≤ 1000000000) : PureFn Tryz.prog 14 [.sl 2 eZ zs] (aB (decide (∀ z ∈ zs, OkZ z))) := by
  refine PureFn.of_body Tryz.func14 rfl Tryz.ntmps14 rfl rfl ?_
  repeat' (first |refine Fl.v rfl rfl rfl ?_ |refine Fl.nilF ?_ |refine AWP.seq ?_ |refine AWP.region ?_ |refine AWP.block ?_ |fail)
  refine AWP.loop (G := Nat) (fun i => i ≤ zs.length ∧ ∀ z ∈ zs.take i, OkZ z) (fun i => St.of [] [(0, .sl 2 eZ zs), (3, aN i)] []) (fun i => zs.length - i) 0 ⟨by omega, by simp⟩ ?_ ?_
  · refine Ent.of [] ?_ ?_ rfl rfl
    repeat' (first | exact True.intro |refine ⟨⟨AV.Le.refl _, rfl⟩, ?_⟩ |refine ⟨⟨⟨_, rfl, BLe.cells (LeL.refl _)⟩, rfl⟩, ?_⟩ |refine ⟨⟨⟨_, rfl, BLe.row rfl⟩, rfl⟩, ?_⟩ |refine ⟨⟨⟨_, rfl, BLe.row ?_⟩, rfl⟩, ?_⟩ |refine ⟨⟨⟨_, rfl, BLe.cells ?_⟩, rfl⟩, ?_⟩ |refine ⟨⟨AV.Le.int ?_, rfl⟩, ?_⟩ |refine ⟨⟨AV.Le.bool ?_, rfl⟩, ?_⟩ |refine ⟨⟨AV.Le.sl ?_, rfl⟩, ?_⟩ |refine ⟨⟨AV.Le.of_eq ?_, rfl⟩, ?_⟩ | fail)
  · intro i ⟨h0, h1⟩
    by_cases hi : i < zs.length
    · obtain ⟨z, hzi⟩ : ∃ z, zs[i]? = some z := ⟨_, List.getElem?_eq_getElem hi⟩
      have hm1 := List.mem_of_getElem? hzi
      repeat' (first |refine Fl.v rfl rfl rfl ?_ |refine Fl.nilF ?_ |refine AWP.seq ?_ |refine AWP.region ?_ |(refine AWP.condD rfl ?_ ?_ <;> intro _ <;> try (exfalso; omega)) |refine AWP.block ?_ |refine AWP.skip ?_ |refine Fl.elK rfl rfl rfl rfl rfl rfl rfl rfl (by assumption) (by omega) ?_ |fail)
      refine Fl.call rfl (rValid_ok z (hz z hm1) (hm z hm1)) rfl rfl rfl (LeL.refl _) ?_
      repeat' (first |refine Fl.v rfl rfl rfl ?_ |refine Fl.nilF ?_ |refine AWP.seq ?_ |refine AWP.region ?_ |refine Fl.w rfl rfl rfl (by first | exact True.intro | omega) ?_ |(refine AWP.condN rfl ?_ ?_ <;> intro _ <;> try (exfalso; omega)) |refine AWP.skip ?_ |refine AWP.ret ?_ |fail)
      · rename_i h
        exact RetOk.of rfl (AV.Le.bool (Eq.symm (decide_eq_false fun k => h (k z hm1))))
      · rename_i h
        refine LoopEnd.of (i + 1) ⟨by omega, all_take_succ hzi h1 h⟩ (by omega) ?_
        refine Ent.of [] ?_ ?_ rfl rfl
        repeat' (first | exact True.intro |refine ⟨⟨AV.Le.refl _, rfl⟩, ?_⟩ |refine ⟨⟨⟨_, rfl, BLe.cells (LeL.refl _)⟩, rfl⟩, ?_⟩ |refine ⟨⟨⟨_, rfl, BLe.row rfl⟩, rfl⟩, ?_⟩ |refine ⟨⟨⟨_, rfl, BLe.row ?_⟩, rfl⟩, ?_⟩ |refine ⟨⟨⟨_, rfl, BLe.cells ?_⟩, rfl⟩, ?_⟩ |refine ⟨⟨AV.Le.int ?_, rfl⟩, ?_⟩ |refine ⟨⟨AV.Le.bool ?_, rfl⟩, ?_⟩ |refine ⟨⟨AV.Le.sl ?_, rfl⟩, ?_⟩ |refine ⟨⟨AV.Le.of_eq ?_, rfl⟩, ?_⟩ | fail)
    · repeat' (first |refine Fl.v rfl rfl rfl ?_ |refine Fl.nilF ?_ |refine AWP.seq ?_ |refine AWP.region ?_ |(refine AWP.condD rfl ?_ ?_ <;> intro _ <;> try (exfalso; omega)) |refine AWP.exit ?_ |refine AWP.ret ?_ |fail)
      rw [List.take_of_length_le (by omega)] at h1
      exact RetOk.of rfl (AV.Le.bool (Eq.symm (decide_eq_true h1)))
theorem rNaturals_ok (X : List Int) (hl : X.length ≤ 1000000000) : PureFn Tryz.prog 15 [.sl 2 eX X] (aB (decide (∀ x ∈ X, 0 ≤ x))) := by
  refine PureFn.of_body Tryz.func15 rfl Tryz.ntmps15 rfl rfl ?_
  repeat' (first |refine Fl.v rfl rfl rfl ?_ |refine Fl.nilF ?_ |refine AWP.seq ?_ |refine AWP.region ?_ |refine AWP.block ?_ |fail)
  refine AWP.loop (G := Nat) (fun i => i ≤ X.length ∧ ∀ z ∈ X.take i, 0 ≤ z) (fun i => St.of [] [(0, .sl 2 eX X), (3, aN i)] []) (fun i => X.length - i) 0 ⟨by omega, by simp⟩ ?_ ?_
  · refine Ent.of [] ?_ ?_ rfl rfl
    repeat' (first | exact True.intro |refine ⟨⟨AV.Le.refl _, rfl⟩, ?_⟩ |refine ⟨⟨⟨_, rfl, BLe.cells (LeL.refl _)⟩, rfl⟩, ?_⟩ |refine ⟨⟨⟨_, rfl, BLe.row rfl⟩, rfl⟩, ?_⟩ |refine ⟨⟨⟨_, rfl, BLe.row ?_⟩, rfl⟩, ?_⟩ |refine ⟨⟨⟨_, rfl, BLe.cells ?_⟩, rfl⟩, ?_⟩ |refine ⟨⟨AV.Le.int ?_, rfl⟩, ?_⟩ |refine ⟨⟨AV.Le.bool ?_, rfl⟩, ?_⟩ |refine ⟨⟨AV.Le.sl ?_, rfl⟩, ?_⟩ |refine ⟨⟨AV.Le.of_eq ?_, rfl⟩, ?_⟩ | fail)
  · intro i ⟨h0, h1⟩
    by_cases hi : i < X.length
    · obtain ⟨z, hzi⟩ : ∃ z, X[i]? = some z := ⟨_, List.getElem?_eq_getElem hi⟩
      have hm1 := List.mem_of_getElem? hzi
      repeat' (first |refine Fl.v rfl rfl rfl ?_ |refine Fl.nilF ?_ |refine AWP.seq ?_ |refine AWP.region ?_ |refine Fl.w rfl rfl rfl (by first | exact True.intro | omega) ?_ |(refine AWP.condD rfl ?_ ?_ <;> intro _ <;> try (exfalso; omega)) |refine AWP.block ?_ |refine AWP.skip ?_ |refine AWP.ret ?_ |refine Fl.elK rfl rfl rfl rfl rfl rfl rfl rfl (by assumption) (by omega) ?_ |fail)
      · rename_i h
        exact RetOk.of rfl (AV.Le.bool (Eq.symm (decide_eq_false fun k => by have := k z hm1; omega)))
      · rename_i h
        refine LoopEnd.of (i + 1) ⟨by omega, all_take_succ hzi h1 (by omega)⟩ (by omega) ?_
        refine Ent.of [] ?_ ?_ rfl rfl
        repeat' (first | exact True.intro |refine ⟨⟨AV.Le.refl _, rfl⟩, ?_⟩ |refine ⟨⟨⟨_, rfl, BLe.cells (LeL.refl _)⟩, rfl⟩, ?_⟩ |refine ⟨⟨⟨_, rfl, BLe.row rfl⟩, rfl⟩, ?_⟩ |refine ⟨⟨⟨_, rfl, BLe.row ?_⟩, rfl⟩, ?_⟩ |refine ⟨⟨⟨_, rfl, BLe.cells ?_⟩, rfl⟩, ?_⟩ |refine ⟨⟨AV.Le.int ?_, rfl⟩, ?_⟩ |refine ⟨⟨AV.Le.bool ?_, rfl⟩, ?_⟩ |refine ⟨⟨AV.Le.sl ?_, rfl⟩, ?_⟩ |refine ⟨⟨AV.Le.of_eq ?_, rfl⟩, ?_⟩ | fail)
    · repeat' (first |refine Fl.v rfl rfl rfl ?_ |refine Fl.nilF ?_ |refine AWP.seq ?_ |refine AWP.region ?_ |(refine AWP.condD rfl ?_ ?_ <;> intro _ <;> try (exfalso; omega)) |refine AWP.exit ?_ |refine AWP.ret ?_ |fail)
      rw [List.take_of_length_le (by omega)] at h1
      exact RetOk.of rfl (AV.Le.bool (Eq.symm (decide_eq_true h1)))
theorem rCmp_ok (x y : Int) (hx : lenI x ≤ 100000) (hy : lenI y ≤ 100000) : PureFn Tryz.prog 85 [aX x, aX y] (aN (cmpI x y)) := by
  refine PureFn.of_body Tryz.func85 rfl Tryz.ntmps85 rfl rfl ?_
  have h1 := rorder_ok x.natAbs y.natAbs (by omega) (by omega) hx hy
  have h2 := rorder_ok y.natAbs x.natAbs (by omega) (by omega) hy hx
  have c := cmpI_cases x y
  by_cases hx0 : x < 0
  · by_cases hy0 : y < 0
    · have c2 := cmpI_cases (y.natAbs : Int) (x.natAbs : Int)
      repeat' (first |refine Fl.v rfl rfl rfl ?_ |refine Fl.nilF ?_ |refine AWP.seq ?_ |refine AWP.region ?_ |refine Fl.b rfl rfl rfl rfl ?_ |refine Fl.skip rfl rfl ?_ |refine AWP.condF rfl ?_ |(refine AWP.condD rfl ?_ ?_ <;> intro _ <;> try (exfalso; omega)) |(refine AWP.condN rfl ?_ ?_ <;> intro _ <;> try (exfalso; omega)) |refine AWP.block ?_ |(refine Fl.splitD rfl rfl ?_ ?_ <;> intro _ <;> try (exfalso; omega)) |(refine Fl.splitN rfl rfl ?_ ?_ <;> intro _ <;> try (exfalso; omega)) |fail)
      refine Fl.call rfl (h2) rfl rfl rfl (LeL.refl _) ?_
      repeat' (first |refine Fl.v rfl rfl rfl ?_ |refine Fl.nilF ?_ |refine AWP.ret ?_ |fail)
      exact RetOk.of rfl (AV.Le.int (by omega))
    · repeat' (first |refine Fl.v rfl rfl rfl ?_ |refine Fl.nilF ?_ |refine AWP.seq ?_ |refine AWP.region ?_ |refine Fl.b rfl rfl rfl rfl ?_ |(refine AWP.condN rfl ?_ ?_ <;> intro _ <;> try (exfalso; omega)) |refine AWP.block ?_ |refine AWP.ret ?_ |(refine Fl.splitD rfl rfl ?_ ?_ <;> intro _ <;> try (exfalso; omega)) |fail)
      exact RetOk.of rfl (AV.Le.int (by omega))
  · by_cases hy0 : y < 0
    · repeat' (first |refine Fl.v rfl rfl rfl ?_ |refine Fl.nilF ?_ |refine AWP.seq ?_ |refine AWP.region ?_ |refine Fl.b rfl rfl rfl rfl ?_ |refine Fl.skip rfl rfl ?_ |refine AWP.condF rfl ?_ |(refine AWP.condD rfl ?_ ?_ <;> intro _ <;> try (exfalso; omega)) |refine AWP.block ?_ |refine AWP.ret ?_ |(refine Fl.splitD rfl rfl ?_ ?_ <;> intro _ <;> try (exfalso; omega)) |(refine Fl.splitN rfl rfl ?_ ?_ <;> intro _ <;> try (exfalso; omega)) |fail)
      exact RetOk.of rfl (AV.Le.int (by omega))
    · have c2 := cmpI_cases (x.natAbs : Int) (y.natAbs : Int)
      repeat' (first |refine Fl.v rfl rfl rfl ?_ |refine Fl.nilF ?_ |refine AWP.seq ?_ |refine AWP.region ?_ |refine Fl.b rfl rfl rfl rfl ?_ |refine Fl.skip rfl rfl ?_ |refine AWP.condF rfl ?_ |(refine AWP.condD rfl ?_ ?_ <;> intro _ <;> try (exfalso; omega)) |refine AWP.block ?_ |refine AWP.skip ?_ |(refine Fl.splitD rfl rfl ?_ ?_ <;> intro _ <;> try (exfalso; omega)) |(refine Fl.splitN rfl rfl ?_ ?_ <;> intro _ <;> try (exfalso; omega)) |fail)
      refine Fl.call rfl (h1) rfl rfl rfl (LeL.refl _) ?_
      repeat' (first |refine Fl.v rfl rfl rfl ?_ |refine Fl.nilF ?_ |refine AWP.ret ?_ |fail)
      exact RetOk.of rfl (AV.Le.int (by omega))
theorem rNeg_ok (x : Int) (hx : lenI x ≤ 100000) : PureFn Tryz.prog 124 [aX x] (aX (-x)) := by
  refine PureFn.of_body Tryz.func124 rfl Tryz.ntmps124 rfl rfl ?_
  have hv : val (toW x.natAbs) = (x.natAbs : Int) := val_toW (by omega)
  have hsg : sg (!decide (x < 0)) (val (toW x.natAbs)) = -x := by
    rw [hv]
    by_cases h : x < 0
    · simp [sg, h]; omega
    · simp [sg, h]; omega
  have hm := rMake_ok (!decide (x < 0)) (toW x.natAbs) (toW_ok _) hx
  rw [hsg] at hm
  repeat' (first |refine Fl.v rfl rfl rfl ?_ |refine Fl.nilF ?_ |refine AWP.seq ?_ |refine AWP.region ?_ |refine Fl.b rfl rfl rfl rfl ?_ |fail)
  refine Fl.call rfl (hm) rfl rfl rfl (LeL.refl _) ?_
  repeat' (first |refine Fl.nilF ?_ |refine Fl.b rfl rfl rfl rfl ?_ |refine AWP.ret ?_ |fail)
  exact RetOk.of rfl (AV.Le.refl _)
theorem rSub_ok (x y : Int) (hx : lenI x ≤ 40000) (hy : lenI y ≤ 40000) : PureFn Tryz.prog 86 [aX x, aX y] (aX (x - y)) := by
  refine PureFn.of_body Tryz.func86 rfl Tryz.ntmps86 rfl rfl ?_
  have ha := rAdd_ok x (-y) hx (by rw [Int.natAbs_neg]; exact hy)
  rw [← Int.sub_eq_add_neg] at ha
  repeat' (first |refine Fl.v rfl rfl rfl ?_ |refine Fl.nilF ?_ |refine AWP.seq ?_ |refine AWP.region ?_ |refine Fl.b rfl rfl rfl rfl ?_ |fail)
  refine Fl.call rfl (rNeg_ok y (by omega)) rfl rfl rfl (LeL.refl _) ?_
  skip
  refine Fl.call rfl (ha) rfl rfl rfl (LeL.refl _) ?_
  repeat' (first |refine Fl.nil (fun _ => by kernel_rfl) ?_ |refine Fl.b rfl rfl rfl rfl ?_ |refine AWP.ret ?_ |fail)
  exact RetOk.of rfl (AV.Le.refl _)
theorem rUnder_ok (x y : Int) (hx : Fit x) (hy : Fit y) (h0 : 0 ≤ x) (h1 : 0 ≤ y) : PureFn Tryz.prog 46 [aX x, aX y] (aB (decide (undI x y))) := by
  refine PureFn.of_body Tryz.func46 rfl Tryz.ntmps46 rfl rfl ?_
  have lx := hx.len
  have ly := hy.len
  have wx := toW_ok x.natAbs
  have wy := toW_ok y.natAbs
  have hvx : val (toW x.natAbs) = x := by rw [val_toW (by omega)]; omega
  have hvy : val (toW y.natAbs) = y := by rw [val_toW (by omega)]; omega
  have hw := undI_wordsD wx wy
  rw [hvx, hvy] at hw
  repeat' (first |refine Fl.v rfl rfl rfl ?_ |refine Fl.nilF ?_ |refine AWP.seq ?_ |refine AWP.region ?_ |refine Fl.b rfl rfl rfl rfl ?_ |refine AWP.block ?_ |fail)
  refine AWP.loop (G := Nat) (fun i => i ≤ (toW x.natAbs).length ∧ ∀ (j : Nat) (u : Int), j < i → (toW x.natAbs)[j]? = some u → undI u ((toW y.natAbs)[j]?.getD 0))
      (fun i => St.of [] [(2, .ptr 2 0), (3, .ptr 3 0), (5, aN i)] [(2, .cells (eX x) 58), (3, .cells (eX y) 58)])
      (fun i => (toW x.natAbs).length - i) 0 ⟨by omega, fun j u hj => by omega⟩ ?_ ?_
  · refine Ent.of [] ?_ ?_ rfl rfl
    repeat' (first | exact True.intro |refine ⟨⟨AV.Le.refl _, rfl⟩, ?_⟩ |refine ⟨⟨⟨_, rfl, BLe.cells (LeL.refl _)⟩, rfl⟩, ?_⟩ |refine ⟨⟨⟨_, rfl, BLe.row rfl⟩, rfl⟩, ?_⟩ |refine ⟨⟨⟨_, rfl, BLe.row ?_⟩, rfl⟩, ?_⟩ |refine ⟨⟨⟨_, rfl, BLe.cells ?_⟩, rfl⟩, ?_⟩ |refine ⟨⟨AV.Le.int ?_, rfl⟩, ?_⟩ |refine ⟨⟨AV.Le.bool ?_, rfl⟩, ?_⟩ |refine ⟨⟨AV.Le.sl ?_, rfl⟩, ?_⟩ |refine ⟨⟨AV.Le.of_eq ?_, rfl⟩, ?_⟩ | fail)
  · intro i ⟨k0, k1⟩
    by_cases hi : i < (toW x.natAbs).length
    · obtain ⟨u, hu⟩ : ∃ u, (toW x.natAbs)[i]? = some u := ⟨_, List.getElem?_eq_getElem hi⟩
      have hub := wx u (List.mem_of_getElem? hu)
      have hstep : ∀ v, ((toW y.natAbs)[i]?.getD 0) = v → undI u v → ∀ (j : Nat) (p : Int), j < i + 1 → (toW x.natAbs)[j]? = some p → undI p ((toW y.natAbs)[j]?.getD 0) := fun v hv hz j p hj hp => by
        rcases Nat.lt_or_ge j i with h | h
        · exact k1 j p h hp
        · have : j = i := by omega
          subst this
          rw [hu] at hp
          injection hp with hp
          subst hp
          rw [hv]; exact hz
      by_cases hi2 : i < (toW y.natAbs).length
      · obtain ⟨v, hv⟩ : ∃ v, (toW y.natAbs)[i]? = some v := ⟨_, List.getElem?_eq_getElem hi2⟩
        have hvb := wy v (List.mem_of_getElem? hv)
        have hvd : (toW y.natAbs)[i]?.getD 0 = v := by rw [hv]; rfl
        repeat' (first |refine Fl.v rfl rfl rfl ?_ |refine Fl.nilF ?_ |refine Fl.nil (fun _ => by kernel_rfl) ?_ |refine AWP.seq ?_ |refine AWP.region ?_ |refine Fl.w rfl rfl rfl (by first | exact True.intro | omega) ?_ |(refine AWP.condD rfl ?_ ?_ <;> intro _ <;> try (exfalso; omega)) |(refine AWP.condN rfl ?_ ?_ <;> intro _ <;> try (exfalso; omega)) |refine AWP.block ?_ |refine AWP.skip ?_ |refine AWP.ret ?_ |refine Fl.elK rfl rfl rfl rfl rfl rfl rfl rfl (by assumption) (by omega) ?_ |fail)
        · rename_i hz
          refine RetOk.of rfl (AV.Le.bool (Eq.symm (decide_eq_false fun h2 => hz ((and_eq hub.1).2 ?_))))
          have := hw.1 h2 i u hu
          rwa [hvd] at this
        · rename_i hz
          refine LoopEnd.of (i + 1) ⟨by omega, hstep v hvd ((and_eq hub.1).1 hz)⟩ (by omega) ?_
          refine Ent.of [] ?_ ?_ rfl rfl
          repeat' (first | exact True.intro |refine ⟨⟨AV.Le.refl _, rfl⟩, ?_⟩ |refine ⟨⟨⟨_, rfl, BLe.cells (LeL.refl _)⟩, rfl⟩, ?_⟩ |refine ⟨⟨⟨_, rfl, BLe.row rfl⟩, rfl⟩, ?_⟩ |refine ⟨⟨⟨_, rfl, BLe.row ?_⟩, rfl⟩, ?_⟩ |refine ⟨⟨⟨_, rfl, BLe.cells ?_⟩, rfl⟩, ?_⟩ |refine ⟨⟨AV.Le.int ?_, rfl⟩, ?_⟩ |refine ⟨⟨AV.Le.bool ?_, rfl⟩, ?_⟩ |refine ⟨⟨AV.Le.sl ?_, rfl⟩, ?_⟩ |refine ⟨⟨AV.Le.of_eq ?_, rfl⟩, ?_⟩ | fail)
      · have hvd : (toW y.natAbs)[i]?.getD 0 = 0 := by rw [List.getElem?_eq_none (by omega)]; rfl
        repeat' (first |refine Fl.v rfl rfl rfl ?_ |refine Fl.nilF ?_ |refine Fl.nil (fun _ => by kernel_rfl) ?_ |refine AWP.seq ?_ |refine AWP.region ?_ |refine Fl.w rfl rfl rfl (by first | exact True.intro | omega) ?_ |(refine AWP.condD rfl ?_ ?_ <;> intro _ <;> try (exfalso; omega)) |(refine AWP.condN rfl ?_ ?_ <;> intro _ <;> try (exfalso; omega)) |refine AWP.block ?_ |refine AWP.skip ?_ |refine AWP.ret ?_ |refine Fl.elK rfl rfl rfl rfl rfl rfl rfl rfl (by assumption) (by omega) ?_ |fail)
        · rename_i hz
          refine RetOk.of rfl (AV.Le.bool (Eq.symm (decide_eq_false fun h2 => hz ((and_eq hub.1).2 ?_))))
          have := hw.1 h2 i u hu
          rwa [hvd] at this
        · rename_i hz
          refine LoopEnd.of (i + 1) ⟨by omega, hstep 0 hvd ((and_eq hub.1).1 hz)⟩ (by omega) ?_
          refine Ent.of [] ?_ ?_ rfl rfl
          repeat' (first | exact True.intro |refine ⟨⟨AV.Le.refl _, rfl⟩, ?_⟩ |refine ⟨⟨⟨_, rfl, BLe.cells (LeL.refl _)⟩, rfl⟩, ?_⟩ |refine ⟨⟨⟨_, rfl, BLe.row rfl⟩, rfl⟩, ?_⟩ |refine ⟨⟨⟨_, rfl, BLe.row ?_⟩, rfl⟩, ?_⟩ |refine ⟨⟨⟨_, rfl, BLe.cells ?_⟩, rfl⟩, ?_⟩ |refine ⟨⟨AV.Le.int ?_, rfl⟩, ?_⟩ |refine ⟨⟨AV.Le.bool ?_, rfl⟩, ?_⟩ |refine ⟨⟨AV.Le.sl ?_, rfl⟩, ?_⟩ |refine ⟨⟨AV.Le.of_eq ?_, rfl⟩, ?_⟩ | fail)
    · repeat' (first |refine Fl.v rfl rfl rfl ?_ |refine Fl.nilF ?_ |refine AWP.seq ?_ |refine AWP.region ?_ |(refine AWP.condD rfl ?_ ?_ <;> intro _ <;> try (exfalso; omega)) |refine AWP.exit ?_ |refine AWP.ret ?_ |fail)
      exact RetOk.of rfl (AV.Le.bool (Eq.symm (decide_eq_true (hw.2 fun j u hu => k1 j u (by have := (List.getElem?_eq_some_iff.1 hu).1; omega) hu))))
end Go.Proofs.YtfkjhjgihbnegaaGreat
namespace Go.AL
/-- the int that is returned for a number, whether or not there is one -/
def smallV (x : Int) : Int := if 18446744073709551616 ≤ x.natAbs then 0 else if 0 ≤ x then x % 9223372036854775808 else if x < -9223372036854775808 then 0 else x
theorem smallV_eq {x : Int} (h : I64 x) : smallV x = x := by
  unfold I64 at h
  unfold smallV
  rw [if_neg (by omega)]
  split
  · omega
  · rw [if_neg (by omega)]
theorem big_of_len {x : Int} (h : 2 < (toW x.natAbs).length) : 18446744073709551616 ≤ x.natAbs := by
  have h1 := BB_len_le (z := x.natAbs) (by
    rcases Nat.eq_zero_or_pos x.natAbs with h0 | h0
    · rw [h0, show ((0 : Nat) : Int) = 0 from rfl, toW_zero] at h; simp at h
    · omega)
  have h2 := BB_le (show 2 ≤ (toW x.natAbs).length - 1 by omega)
  rw [BB_2] at h2
  omega
theorem bitN_and63 {a : Int} (h : 0 ≤ a) : bitN .and a 9223372036854775807 = a % 9223372036854775808 := by
  show ((a.toNat &&& 9223372036854775807 : Nat) : Int) = _
  have : a.toNat &&& 9223372036854775807 = a.toNat % 2 ^ 63 := Nat.and_two_pow_sub_one_eq_mod a.toNat 63
  rw [this]
  omega
end Go.AL
namespace Go.Proofs.YtfkjhjgihbnegaaGreat
open Go.AL

theorem rSmall_ok (x : Int) : PureFn Tryz.prog 123 [aX x] (.tup [aN (smallV x), aB (decide (I64 x))]) := by
  refine PureFn.of_body Tryz.func123 rfl Tryz.ntmps123 rfl rfl ?_
  have wx := toW_ok x.natAbs
  have vx := val_toW (show (0 : Int) ≤ x.natAbs by omega)
  repeat' (first |refine Fl.v rfl rfl rfl ?_ |refine Fl.nilF ?_ |refine AWP.seq ?_ |refine AWP.region ?_ |refine Fl.b rfl rfl rfl rfl ?_ |refine AWP.block ?_ |fail)
  refine AWP.loop (G := Nat × Int) (fun (i, m) => i ≤ (toW x.natAbs).length ∧ i ≤ 2 ∧ m = val ((toW x.natAbs).take i) ∧ 0 ≤ m ∧ m < BB i ∧ m ≤ 18446744073709551615)
      (fun (i, m) => St.of [] [(1, .ptr 1 0), (4, .v (.int .u64 m)), (5, aN i)] [(1, .cells (eX x) 58)])
      (fun (i, m) => (toW x.natAbs).length - i) (0, 0) ⟨by omega, by omega, by simp [val], by omega, by rw [BB_zero]; omega, by omega⟩ ?_ ?_
  · refine Ent.of [] ?_ ?_ rfl rfl
    repeat' (first | exact True.intro |refine ⟨⟨AV.Le.refl _, rfl⟩, ?_⟩ |refine ⟨⟨⟨_, rfl, BLe.cells (LeL.refl _)⟩, rfl⟩, ?_⟩ |refine ⟨⟨⟨_, rfl, BLe.row rfl⟩, rfl⟩, ?_⟩ |refine ⟨⟨⟨_, rfl, BLe.row ?_⟩, rfl⟩, ?_⟩ |refine ⟨⟨⟨_, rfl, BLe.cells ?_⟩, rfl⟩, ?_⟩ |refine ⟨⟨AV.Le.int ?_, rfl⟩, ?_⟩ |refine ⟨⟨AV.Le.bool ?_, rfl⟩, ?_⟩ |refine ⟨⟨AV.Le.sl ?_, rfl⟩, ?_⟩ |refine ⟨⟨AV.Le.of_eq ?_, rfl⟩, ?_⟩ | fail)
  · intro (i, m) ⟨k0, k5, k1, k2, k3, k4⟩
    by_cases hi : i < (toW x.natAbs).length
    · by_cases hi2 : i < 2
      · obtain ⟨u, hu⟩ : ∃ u, (toW x.natAbs)[i]? = some u := ⟨_, List.getElem?_eq_getElem hi⟩
        have hub := wx u (List.mem_of_getElem? hu)
        have hb : BB (i + 1) ≤ BB 2 := BB_le (by omega)
        rw [BB_2] at hb
        have hlt : m + BB i * u < BB (i + 1) := by
          rw [BB_succ]
          have h5 := BB_pos i
          have h6 : BB i * u ≤ BB i * 4294967295 := Int.mul_le_mul_of_nonneg_left (by omega) (by omega)
          omega
        have h0 : 0 ≤ BB i * u := Int.mul_nonneg (Int.le_of_lt (BB_pos i)) hub.1
        have hsh : u * 2 ^ (32 * (i : Int)).toNat % 18446744073709551616 = BB i * u := by
          rcases (show i = 0 ∨ i = 1 by omega) with rfl | rfl
          · rw [BB_zero, show (32 * ((0 : Nat) : Int)).toNat = 0 from rfl]; omega
          · rw [show BB 1 = 4294967296 by rw [BB_succ, BB_zero]; rfl, show (32 * ((1 : Nat) : Int)).toNat = 32 from rfl]; omega
        repeat' (first |refine Fl.v rfl rfl rfl ?_ |refine Fl.nilF ?_ |refine AWP.seq ?_ |refine AWP.region ?_ |refine Fl.w rfl rfl rfl (by first | exact True.intro | omega) ?_ |(refine AWP.condD rfl ?_ ?_ <;> intro _ <;> try (exfalso; omega)) |refine AWP.block ?_ |refine AWP.skip ?_ |refine Fl.elK rfl rfl rfl rfl rfl rfl rfl rfl (by assumption) (by omega) ?_ |fail)
        refine LoopEnd.of (i + 1, m + BB i * u) ⟨by omega, by omega, by rw [k1, val_take_succ hu], by omega, hlt, by omega⟩ (show (toW x.natAbs).length - (i + 1) < (toW x.natAbs).length - i by omega) ?_
        refine Ent.of [] ?_ ?_ rfl rfl
        repeat' (first | exact True.intro |refine ⟨⟨AV.Le.refl _, rfl⟩, ?_⟩ |refine ⟨⟨⟨_, rfl, BLe.cells (LeL.refl _)⟩, rfl⟩, ?_⟩ |refine ⟨⟨⟨_, rfl, BLe.row rfl⟩, rfl⟩, ?_⟩ |refine ⟨⟨⟨_, rfl, BLe.row ?_⟩, rfl⟩, ?_⟩ |refine ⟨⟨⟨_, rfl, BLe.cells ?_⟩, rfl⟩, ?_⟩ |refine ⟨⟨AV.Le.int ?_, rfl⟩, ?_⟩ |refine ⟨⟨AV.Le.bool ?_, rfl⟩, ?_⟩ |refine ⟨⟨AV.Le.sl ?_, rfl⟩, ?_⟩ |refine ⟨⟨AV.Le.of_eq ?_, rfl⟩, ?_⟩ | fail)
        rw [hsh]
      · have hbig := big_of_len (x := x) (by omega)
        repeat' (first |refine Fl.v rfl rfl rfl ?_ |refine Fl.nilF ?_ |refine AWP.seq ?_ |refine AWP.region ?_ |(refine AWP.condD rfl ?_ ?_ <;> intro _ <;> try (exfalso; omega)) |refine AWP.block ?_ |refine AWP.skip ?_ |refine AWP.ret ?_ |fail)
        refine RetOk.of rfl (AV.Le.tup (LeL.cons (AV.Le.int ?_) (LeL.cons (AV.Le.bool ?_) LeL.nil)))
        · unfold smallV; rw [if_pos hbig]
        · exact (decide_eq_false (by unfold I64; omega)).symm
    · have hm : m = x.natAbs := by rw [k1, show i = (toW x.natAbs).length by omega, List.take_length, vx]
      by_cases hx0 : x < 0
      · by_cases hxb : 9223372036854775808 < m
        · repeat' (first |refine Fl.v rfl rfl rfl ?_ |refine Fl.nilF ?_ |refine AWP.seq ?_ |refine AWP.region ?_ |(refine AWP.condD rfl ?_ ?_ <;> intro _ <;> try (exfalso; omega)) |(refine AWP.condN rfl ?_ ?_ <;> intro _ <;> try (exfalso; omega)) |refine AWP.skip ?_ |refine AWP.exit ?_ |refine AWP.ret ?_ |fail)
          refine RetOk.of rfl (AV.Le.tup (LeL.cons (AV.Le.int ?_) (LeL.cons (AV.Le.bool ?_) LeL.nil)))
          · unfold smallV; rw [if_neg (by omega), if_neg (by omega), if_pos (by omega)]
          · exact (decide_eq_false (by unfold I64; omega)).symm
        · repeat' (first |refine Fl.v rfl rfl rfl ?_ |refine Fl.nilF ?_ |refine AWP.seq ?_ |refine AWP.region ?_ |refine Fl.w rfl rfl rfl (by first | exact True.intro | omega) ?_ |(refine AWP.condD rfl ?_ ?_ <;> intro _ <;> try (exfalso; omega)) |(refine AWP.condN rfl ?_ ?_ <;> intro _ <;> try (exfalso; omega)) |refine AWP.skip ?_ |refine AWP.exit ?_ |refine AWP.ret ?_ |refine Fl.cvS rfl rfl rfl rfl rfl rfl ?_ |fail)
          refine RetOk.of rfl (AV.Le.tup (LeL.cons (AV.Le.int ?_) (LeL.cons (AV.Le.bool ?_) LeL.nil)))
          · rw [smallV_eq (by unfold I64; omega)]; omega
          · exact (decide_eq_true (by unfold I64; omega)).symm
      · repeat' (first |refine Fl.v rfl rfl rfl ?_ |refine Fl.nilF ?_ |refine AWP.seq ?_ |refine AWP.region ?_ |refine Fl.w rfl rfl rfl (by first | exact True.intro | omega) ?_ |(refine AWP.condD rfl ?_ ?_ <;> intro _ <;> try (exfalso; omega)) |(refine AWP.condN rfl ?_ ?_ <;> intro _ <;> try (exfalso; omega)) |refine AWP.exit ?_ |refine AWP.ret ?_ |refine Fl.cvS rfl rfl rfl rfl rfl rfl ?_ |fail)
        refine RetOk.of rfl (AV.Le.tup (LeL.cons (AV.Le.int ?_) (LeL.cons (AV.Le.bool ?_) LeL.nil)))
        · rw [bitN_and63 k2]; unfold smallV; rw [if_neg (by omega), if_pos (by omega)]; omega
        · rw [decide_eq_decide]; unfold I64; omega
theorem rfew_ok (x : Int) : PureFn Tryz.prog 84 [aX x] (.tup [aN (smallV x), aB (decide (0 ≤ x ∧ x ≤ 163840))]) := by
  refine PureFn.of_body Tryz.func84 rfl Tryz.ntmps84 rfl rfl ?_
  have hs := rSmall_ok x
  by_cases h : I64 x
  · rw [decide_eq_true h, smallV_eq h] at hs
    rw [smallV_eq h]
    by_cases h1 : 0 ≤ x ∧ x ≤ 163840
    · rw [decide_eq_true h1]
      repeat' (first |refine Fl.v rfl rfl rfl ?_ |refine Fl.nilF ?_ |refine AWP.seq ?_ |refine AWP.region ?_ |refine Fl.b rfl rfl rfl rfl ?_ |fail)
      refine Fl.call rfl (hs) rfl rfl rfl (LeL.refl _) ?_
      repeat' (first |refine Fl.v rfl rfl rfl ?_ |refine Fl.nilF ?_ |refine AWP.seq ?_ |refine AWP.region ?_ |refine AWP.ret ?_ |(refine Fl.splitD rfl rfl ?_ ?_ <;> intro _ <;> try (exfalso; omega)) |fail)
      exact RetOk.of rfl (AV.Le.tup (LeL.cons (AV.Le.refl _) (LeL.cons (AV.Le.bool (decide_eq_true (by omega))) LeL.nil)))
    · rw [decide_eq_false h1]
      repeat' (first |refine Fl.v rfl rfl rfl ?_ |refine Fl.nilF ?_ |refine AWP.seq ?_ |refine AWP.region ?_ |refine Fl.b rfl rfl rfl rfl ?_ |fail)
      refine Fl.call rfl (hs) rfl rfl rfl (LeL.refl _) ?_
      repeat' (first |refine Fl.v rfl rfl rfl ?_ |refine Fl.nilF ?_ |refine AWP.seq ?_ |refine AWP.region ?_ |refine Fl.skip rfl rfl ?_ |refine AWP.ret ?_ |(refine Fl.splitD rfl rfl ?_ ?_ <;> intro _ <;> try (exfalso; omega)) |fail)
      all_goals exact RetOk.of rfl (AV.Le.tup (LeL.cons (AV.Le.refl _) (LeL.cons (AV.Le.bool (by first | rfl | exact decide_eq_false (by omega))) LeL.nil)))
  · rw [decide_eq_false h] at hs
    rw [decide_eq_false (show ¬ (0 ≤ x ∧ x ≤ 163840) by unfold I64 at h; omega)]
    repeat' (first |refine Fl.v rfl rfl rfl ?_ |refine Fl.nilF ?_ |refine AWP.seq ?_ |refine AWP.region ?_ |refine Fl.b rfl rfl rfl rfl ?_ |fail)
    refine Fl.call rfl (hs) rfl rfl rfl (LeL.refl _) ?_
    repeat' (first |refine Fl.v rfl rfl rfl ?_ |refine Fl.nilF ?_ |refine AWP.seq ?_ |refine AWP.region ?_ |refine Fl.skip rfl rfl ?_ |refine AWP.ret ?_ |fail)
    exact RetOk.of rfl (AV.Le.refl _)
end Go.Proofs.YtfkjhjgihbnegaaGreat
namespace Go.AL
/-- how many binary digits -/
def bitl (n : Nat) : Nat := if n = 0 then 0 else Nat.log2 n + 1
theorem bitl_eq {n k : Nat} (h1 : 2 ^ k ≤ n) (h2 : n < 2 ^ (k + 1)) : bitl n = k + 1 := by
  have := Nat.two_pow_pos k
  rw [bitl, if_neg (by omega), (Nat.log2_eq_iff (by omega)).2 ⟨h1, h2⟩]
theorem bitl_lt (n : Nat) : n < 2 ^ bitl n := by
  unfold bitl
  split
  · omega
  · exact Nat.lt_log2_self
theorem bitl_ge {n : Nat} (h : n ≠ 0) : 1 ≤ bitl n ∧ 2 ^ (bitl n - 1) ≤ n := by
  unfold bitl
  rw [if_neg h]
  exact ⟨by omega, Nat.log2_self_le h⟩
theorem bitl_le {n k : Nat} (h : n < 2 ^ k) : bitl n ≤ k := by
  rcases Nat.eq_zero_or_pos n with h0 | h0
  · rw [bitl, if_pos h0]; omega
  · have h1 := bitl_ge (n := n) (by omega)
    have h2 : 2 ^ (bitl n - 1) < 2 ^ k := by omega
    have := (Nat.pow_lt_pow_iff_right (by omega : 1 < 2)).1 h2
    omega
/-- the words, and the digits of the last one -/
theorem bitl_words {m n k : Nat} {u lo : Int} (hk : 1 ≤ k) (hlo : 0 ≤ lo) (hlo2 : lo < BB n) (hm : (m : Int) = lo + BB n * u) (h1 : 2 ^ (k - 1) ≤ u.toNat) (h2 : u.toNat < 2 ^ k) : bitl m = 32 * n + k := by
  have hB : BB n = ((2 ^ (32 * n) : Nat) : Int) := by rw [BB_pow]; simp
  have hup : u = (u.toNat : Int) := by
    have := Nat.two_pow_pos (k - 1)
    omega
  have hlt : ∃ l : Nat, lo = (l : Int) := ⟨lo.toNat, by omega⟩
  obtain ⟨l, rfl⟩ := hlt
  have hm' : m = l + 2 ^ (32 * n) * u.toNat := by
    rw [hB, hup] at hm
    exact_mod_cast hm
  have hl : l < 2 ^ (32 * n) := by rw [hB] at hlo2; exact_mod_cast hlo2
  have e : 32 * n + k = (32 * n + (k - 1)) + 1 := by omega
  rw [e]
  refine bitl_eq ?_ ?_
  · rw [Nat.pow_add, hm']
    have := Nat.mul_le_mul_left (2 ^ (32 * n)) h1
    omega
  · rw [← e, Nat.pow_add, hm']
    have h3 : u.toNat + 1 ≤ 2 ^ k := h2
    have := Nat.mul_le_mul_left (2 ^ (32 * n)) h3
    rw [Nat.mul_add] at this
    omega
end Go.AL
namespace Go.Proofs.YtfkjhjgihbnegaaGreat
open Go.AL

theorem rBits_ok (x : Int) (hx : lenI x ≤ 100000) : PureFn Tryz.prog 87 [aX x] (aN (bitl x.natAbs)) := by
  refine PureFn.of_body Tryz.func87 rfl Tryz.ntmps87 rfl rfl ?_
  have wx := toW_ok x.natAbs
  have vx := val_toW (show (0 : Int) ≤ x.natAbs by omega)
  obtain ⟨n, hn⟩ : ∃ n, n = (toW x.natAbs).length := ⟨_, rfl⟩
  have hx' : n ≤ 100000 := by rw [hn]; exact hx
  by_cases h0 : n = 0
  · have hx0 : x.natAbs = 0 := by
      have : toW x.natAbs = [] := List.eq_nil_of_length_eq_zero (by omega)
      rw [this, val_nil] at vx
      omega
    repeat' (first |refine Fl.v rfl rfl rfl ?_ |refine Fl.nilF ?_ |refine AWP.seq ?_ |refine AWP.region ?_ |refine Fl.b rfl rfl rfl rfl ?_ |(refine AWP.condD rfl ?_ ?_ <;> intro _ <;> try (exfalso; omega)) |refine AWP.ret ?_ |fail)
    exact RetOk.of rfl (AV.Le.int (by rw [hx0]; rfl))
  · obtain ⟨u, hu⟩ : ∃ u, (toW x.natAbs)[n - 1]? = some u := ⟨_, List.getElem?_eq_getElem (by omega)⟩
    have hu' : (toW x.natAbs)[(((toW x.natAbs).length : Int) - 1).toNat]? = some u := by rwa [show (((toW x.natAbs).length : Int) - 1).toNat = n - 1 by omega]
    have hub := wx u (List.mem_of_getElem? hu)
    have hval := val_take_succ hu
    rw [show n - 1 + 1 = n by omega, hn, List.take_length, vx, ← hn] at hval
    have wt : WOk ((toW x.natAbs).take (n - 1)) := fun y hy => wx y (List.mem_of_mem_take hy)
    have hlo := val_nonneg wt
    have hlo2 := val_lt wt
    rw [List.length_take_of_le (by omega)] at hlo2
    have hx1 : x.natAbs ≠ 0 := by
      intro h
      rw [h, show ((0 : Nat) : Int) = 0 from rfl, toW_zero] at hn
      exact h0 hn
    have hge := BB_len_le (z := x.natAbs) (by omega)
    rw [← hn] at hge
    have hu1 : 1 ≤ u := by
      rcases Int.lt_or_le u 1 with h | h
      · have : u = 0 := by omega
        subst this
        omega
      · exact h
    repeat' (first |refine Fl.v rfl rfl rfl ?_ |refine Fl.nilF ?_ |refine AWP.seq ?_ |refine AWP.region ?_ |refine Fl.w rfl rfl rfl (by first | exact True.intro | omega) ?_ |refine Fl.b rfl rfl rfl rfl ?_ |(refine AWP.condD rfl ?_ ?_ <;> intro _ <;> try (exfalso; omega)) |refine AWP.block ?_ |refine AWP.skip ?_ |refine Fl.elK rfl rfl rfl rfl rfl rfl rfl rfl (by assumption) (by omega) ?_ |fail)
    refine AWP.loop (G := Nat) (fun k => k ≤ 32 ∧ (k = 0 ∨ 2 ^ (k - 1) ≤ u.toNat)) (fun k => St.of [] [(3, aN (toW x.natAbs).length), (4, aN k), (5, .v (.int .u32 ((u.toNat / 2 ^ k : Nat) : Int)))] []) (fun k => u.toNat / 2 ^ k) 0 ⟨by omega, .inl rfl⟩ ?_ ?_
    · refine Ent.of [] ?_ ?_ rfl rfl
      repeat' (first | exact True.intro |refine ⟨⟨AV.Le.refl _, rfl⟩, ?_⟩ |refine ⟨⟨⟨_, rfl, BLe.cells (LeL.refl _)⟩, rfl⟩, ?_⟩ |refine ⟨⟨⟨_, rfl, BLe.row rfl⟩, rfl⟩, ?_⟩ |refine ⟨⟨⟨_, rfl, BLe.row ?_⟩, rfl⟩, ?_⟩ |refine ⟨⟨⟨_, rfl, BLe.cells ?_⟩, rfl⟩, ?_⟩ |refine ⟨⟨AV.Le.int ?_, rfl⟩, ?_⟩ |refine ⟨⟨AV.Le.bool ?_, rfl⟩, ?_⟩ |refine ⟨⟨AV.Le.sl ?_, rfl⟩, ?_⟩ |refine ⟨⟨AV.Le.of_eq ?_, rfl⟩, ?_⟩ | fail)
      rw [Nat.pow_zero, Nat.div_one]; omega
    · intro k ⟨k0, k1⟩
      obtain ⟨q, hq⟩ : ∃ q, q = u.toNat / 2 ^ k := ⟨_, rfl⟩
      have hq1 : u.toNat / 2 ^ (k + 1) = q / 2 := by rw [hq, Nat.pow_succ, ← Nat.div_div_eq_div_mul]
      rw [← hq]
      by_cases hw : 0 < q
      · have h2k : 2 ^ k ≤ u.toNat := by
          rcases Nat.lt_or_ge u.toNat (2 ^ k) with h | h
          · rw [Nat.div_eq_of_lt h] at hq; omega
          · exact h
        have hk32 : k < 32 := by
          have h3 : 2 ^ k < 2 ^ 32 := by omega
          exact (Nat.pow_lt_pow_iff_right (by omega : 1 < 2)).1 h3
        have hhi : hiK .u32 = 4294967295 := rfl
        have hqu : q ≤ u.toNat := by rw [hq]; exact Nat.div_le_self _ _
        repeat' (first |refine Fl.v rfl rfl rfl ?_ |refine Fl.nilF ?_ |refine AWP.seq ?_ |refine AWP.region ?_ |refine Fl.w rfl rfl rfl (by first | exact True.intro | omega) ?_ |(refine AWP.condD rfl ?_ ?_ <;> intro _ <;> try (exfalso; omega)) |refine AWP.block ?_ |refine AWP.skip ?_ |fail)
        refine LoopEnd.of (k + 1) ⟨by omega, .inr (by simpa using h2k)⟩ (by rw [hq1, ← hq]; omega) ?_
        refine Ent.of [] ?_ ?_ rfl rfl
        repeat' (first | exact True.intro |refine ⟨⟨AV.Le.refl _, rfl⟩, ?_⟩ |refine ⟨⟨⟨_, rfl, BLe.cells (LeL.refl _)⟩, rfl⟩, ?_⟩ |refine ⟨⟨⟨_, rfl, BLe.row rfl⟩, rfl⟩, ?_⟩ |refine ⟨⟨⟨_, rfl, BLe.row ?_⟩, rfl⟩, ?_⟩ |refine ⟨⟨⟨_, rfl, BLe.cells ?_⟩, rfl⟩, ?_⟩ |refine ⟨⟨AV.Le.int ?_, rfl⟩, ?_⟩ |refine ⟨⟨AV.Le.bool ?_, rfl⟩, ?_⟩ |refine ⟨⟨AV.Le.sl ?_, rfl⟩, ?_⟩ |refine ⟨⟨AV.Le.of_eq ?_, rfl⟩, ?_⟩ | fail)
        rw [hq1]; omega
      · have hlt : u.toNat < 2 ^ k := by
          rcases Nat.lt_or_ge u.toNat (2 ^ k) with h | h
          · exact h
          · have := Nat.div_pos h (Nat.two_pow_pos k); omega
        have hk1 : 1 ≤ k := by
          rcases k1 with h | h
          · subst h; simp at hlt; omega
          · rcases Nat.eq_zero_or_pos k with h' | h'
            · subst h'; simp at hlt; omega
            · exact h'
        have hb := bitl_words hk1 hlo hlo2 hval (k1.resolve_left (by omega)) hlt
        repeat' (first |refine Fl.v rfl rfl rfl ?_ |refine Fl.nilF ?_ |refine AWP.seq ?_ |refine AWP.region ?_ |refine Fl.w rfl rfl rfl (by first | exact True.intro | omega) ?_ |(refine AWP.condD rfl ?_ ?_ <;> intro _ <;> try (exfalso; omega)) |refine AWP.exit ?_ |refine AWP.ret ?_ |fail)
        exact RetOk.of rfl (AV.Le.int (by rw [hb]; omega))
end Go.Proofs.YtfkjhjgihbnegaaGreat
namespace Go.AL
theorem pow_ge_one {x : Int} (h : 1 ≤ x) : ∀ k : Nat, 1 ≤ x ^ k
  | 0 => by rw [Int.pow_zero]; omega
  | k + 1 => by
    rw [Int.pow_succ]
    have h1 := pow_ge_one h k
    have := Int.mul_le_mul h1 h (by omega) (by omega)
    omega
theorem le_mul_one {a b : Int} (ha : 1 ≤ a) (hb : 0 ≤ b) : b ≤ b * a := by
  have := Int.mul_le_mul_of_nonneg_left ha hb
  omega
theorem sq_pow (x : Int) (k : Nat) : (x * x) ^ k = x ^ (2 * k) := by
  rw [Int.mul_pow, ← Int.pow_add]; congr 1; omega
theorem lt_BB {m k n : Nat} (h : m ≤ 2 ^ k) (hk : k < 32 * n) : (m : Int) < BB n := by
  have h3 : 2 ^ k < 2 ^ (32 * n) := Nat.pow_lt_pow_right (by omega) hk
  have h4 : m < 2 ^ (32 * n) := Nat.lt_of_le_of_lt h h3
  rw [BB_pow]
  exact_mod_cast h4
theorem bitl_BB {m n : Nat} (h : (m : Int) < BB n) : bitl m ≤ 32 * n := bitl_le (by
  rw [BB_pow] at h
  exact_mod_cast h)
/-- what is returned is not too long -/
theorem pow_small {p n b : Int} (hp : 2 ≤ p) (h0 : 0 ≤ n) (hb : b = (bitl p.natAbs : Int)) (h : n * (b - 1) ≤ 131072) : p ^ n.toNat < BB 8193 := by
  have hb2 : 2 ≤ b := by
    have h1 := bitl_ge (n := p.natAbs) (by omega)
    have h2 := bitl_lt p.natAbs
    rcases Nat.lt_or_ge (bitl p.natAbs) 2 with h3 | h3
    · have : bitl p.natAbs = 1 := by omega
      rw [this] at h2; omega
    · omega
  have h1 : p.natAbs ^ n.toNat ≤ (2 ^ bitl p.natAbs) ^ n.toNat := Nat.pow_le_pow_left (Nat.le_of_lt (bitl_lt _)) _
  rw [← Nat.pow_mul] at h1
  have h2 : bitl p.natAbs * n.toNat ≤ 262144 := by
    have e1 : n * b ≤ n * (2 * (b - 1)) := Int.mul_le_mul_of_nonneg_left (by omega) h0
    have e2 : n * (2 * (b - 1)) = 2 * (n * (b - 1)) := by rw [← Int.mul_assoc, Int.mul_comm n 2, Int.mul_assoc]
    have e3 : ((bitl p.natAbs * n.toNat : Nat) : Int) = n * b := by
      rw [Int.natCast_mul, hb, Int.mul_comm, show ((n.toNat : Nat) : Int) = n by omega]
    omega
  have h5 : p ^ n.toNat = ((p.natAbs ^ n.toNat : Nat) : Int) := by
    rw [Int.natCast_pow, show ((p.natAbs : Nat) : Int) = p by omega]
  rw [h5]
  exact lt_BB h1 (by omega)
end Go.AL
namespace Go.Proofs.YtfkjhjgihbnegaaGreat
open Go.AL

set_option maxHeartbeats 1000000 in
theorem rPower_ok (p n : Int) (hp : 2 ≤ p) (hpf : Fit p) (h0 : 0 ≤ n) (h1 : n ≤ 163840) (b : Int) (hb : b = (bitl p.natAbs : Int)) (h : n * (b - 1) ≤ 131072) : PureFn Tryz.prog 88 [aX p, aN n] (.tup [aX (p ^ n.toNat), aB true]) := by
  refine PureFn.of_body Tryz.func88 rfl Tryz.ntmps88 rfl rfl ?_
  have hlp := hpf.len
  have hb2 : 2 ≤ b := by
    have h1 := bitl_ge (n := p.natAbs) (by omega)
    have h2 := bitl_lt p.natAbs
    rcases Nat.lt_or_ge (bitl p.natAbs) 2 with h3 | h3
    · have : bitl p.natAbs = 1 := by omega
      rw [this] at h2; omega
    · omega
  have hbu : b ≤ 131072 := by
    have h3 : bitl p.natAbs ≤ 32 * 4096 := bitl_BB (by have := hpf; unfold Fit at this; exact this)
    omega
  have hsmall := pow_small hp h0 hb h
  have hbits := rBits_ok p (show lenI p ≤ 100000 by unfold lenI; omega)
  rw [← hb] at hbits
  have hhi : hiK .i64 = 9223372036854775807 := rfl
  have hquo : n ≤ 262144 / (b - 1) := (Int.le_ediv_iff_mul_le (by omega)).2 (by omega)
  obtain ⟨T, hT⟩ : ∃ T, T = p ^ n.toNat := ⟨_, rfl⟩
  have hp8 : p < BB 8193 := by
    have := hpf
    unfold Fit at this
    have h3 := BB_le (show 4096 ≤ 8193 by omega)
    omega
  rw [← hT] at hsmall ⊢
  repeat' (first |refine Fl.v rfl rfl rfl ?_ |refine Fl.nilF ?_ |refine AWP.seq ?_ |refine AWP.region ?_ |refine Fl.b rfl rfl rfl rfl ?_ |fail)
  refine Fl.call rfl (hbits) rfl rfl rfl (LeL.refl _) ?_
  repeat' (first |refine Fl.v rfl rfl rfl ?_ |refine Fl.nilF ?_ |refine AWP.seq ?_ |refine AWP.region ?_ |refine Fl.w rfl rfl rfl (by first | exact True.intro | omega) ?_ |(refine AWP.condD rfl ?_ ?_ <;> intro _ <;> try (exfalso; omega)) |refine AWP.skip ?_ |fail)
  refine Fl.call rfl (rOf_ok 1 (by omega) (by omega)) rfl rfl rfl (LeL.refl _) ?_
  repeat' (first |refine Fl.v rfl rfl rfl ?_ |refine Fl.nilF ?_ |refine AWP.seq ?_ |refine AWP.region ?_ |refine Fl.b rfl rfl rfl rfl ?_ |refine AWP.block ?_ |fail)
  refine AWP.loop (G := Int × Int × Int) (fun (m, o, x) => (0 ≤ m ∧ m ≤ n) ∧ (1 ≤ o ∧ o < BB 8193) ∧ (1 ≤ x ∧ x < BB 8193) ∧ o * x ^ m.toNat = T)
    (fun (m, o, x) => St.of [] [(1, aN m), (4, .ptr 4 0), (7, .ptr 7 0), (8, .ptr 700 0)] [(4, .cells [aB false, .v (.slice none 0 0)] 58), (7, .cells (eX o) 58), (700, .cells (eX x) 58)])
    (fun (m, o, x) => m.toNat) (n, 1, p) ⟨⟨h0, by omega⟩, ⟨by omega, by have := BB_le (show 1 ≤ 8193 by omega); rw [BB_succ 0, BB_zero] at this; omega⟩, ⟨by omega, hp8⟩, by rw [Int.one_mul]; exact hT.symm⟩ ?_ ?_
  · refine Ent.of [(700, 8)] ?_ ?_ rfl rfl
    repeat' (first | exact True.intro |refine ⟨⟨AV.Le.refl _, rfl⟩, ?_⟩ |refine ⟨⟨⟨_, rfl, BLe.cells (LeL.refl _)⟩, rfl⟩, ?_⟩ |refine ⟨⟨⟨_, rfl, BLe.row rfl⟩, rfl⟩, ?_⟩ |refine ⟨⟨⟨_, rfl, BLe.row ?_⟩, rfl⟩, ?_⟩ |refine ⟨⟨⟨_, rfl, BLe.cells ?_⟩, rfl⟩, ?_⟩ |refine ⟨⟨AV.Le.int ?_, rfl⟩, ?_⟩ |refine ⟨⟨AV.Le.bool ?_, rfl⟩, ?_⟩ |refine ⟨⟨AV.Le.sl ?_, rfl⟩, ?_⟩ |refine ⟨⟨AV.Le.of_eq ?_, rfl⟩, ?_⟩ | fail)
  · intro (m, o, x) ⟨⟨k0, k1⟩, ⟨k2, k3⟩, ⟨k4, k5⟩, k6⟩
    have lo : lenI o ≤ 8193 := lenI_le.2 (by omega)
    have lx : lenI x ≤ 8193 := lenI_le.2 (by omega)
    have hmo := rMul_ok o x (show lenI o ≤ 40000 by omega) (show lenI x ≤ 40000 by omega)
    have hmx := rMul_ok x x (show lenI x ≤ 40000 by omega) (show lenI x ≤ 40000 by omega)
    have hox : 1 ≤ o * x := by have := le_mul_one k4 (show 0 ≤ o by omega); omega
    have hxx : 1 ≤ x * x := by have := le_mul_one k4 (show 0 ≤ x by omega); omega
    by_cases hm : 0 < m
    · have hodd : m % 2 = 1 → o * x ≤ T ∧ o * x * (x * x) ^ (m / 2).toNat = T := fun hmo => by
        have e : x ^ m.toNat = x * (x * x) ^ (m / 2).toNat := by
          rw [sq_pow, Int.mul_comm, ← Int.pow_succ]; congr 1; omega
        rw [e, ← Int.mul_assoc] at k6
        exact ⟨by rw [← k6]; exact le_mul_one (pow_ge_one hxx _) (by omega), k6⟩
      have heven : m % 2 ≠ 1 → o * (x * x) ^ (m / 2).toNat = T := fun hmo => by
        have e : x ^ m.toNat = (x * x) ^ (m / 2).toNat := by
          rw [sq_pow]; congr 1; omega
        rw [e] at k6
        exact k6
      have hsq : 1 < m → x * x ≤ T := fun hm1 => by
        have e : x ^ m.toNat = (x * x) * x ^ (m.toNat - 2) := by
          rw [show x * x = x ^ 2 by rw [Int.pow_succ, Int.pow_succ, Int.pow_zero, Int.one_mul], ← Int.pow_add]; congr 1; omega
        rw [e, ← Int.mul_assoc] at k6
        rw [← k6]
        have g1 := le_mul_one (pow_ge_one k4 (m.toNat - 2)) (show 0 ≤ o * (x * x) from Int.mul_nonneg (by omega) (by omega))
        have g2 := Int.mul_le_mul_of_nonneg_right k2 (show 0 ≤ x * x by omega)
        omega
      by_cases hr : m % 2 = 1
      · obtain ⟨q1, q2⟩ := hodd hr
        by_cases hm1 : 1 < m
        · repeat' (first |refine Fl.v rfl rfl rfl ?_ |refine Fl.nilF ?_ |refine AWP.seq ?_ |refine AWP.region ?_ |refine Fl.w rfl rfl rfl (by first | exact True.intro | omega) ?_ |(refine AWP.condD rfl ?_ ?_ <;> intro _ <;> try (exfalso; omega)) |refine AWP.block ?_ |refine AWP.skip ?_ |fail)
          refine Fl.call rfl (hmo) rfl rfl rfl (LeL.refl _) ?_
          repeat' (first |refine Fl.v rfl rfl rfl ?_ |refine Fl.nilF ?_ |refine AWP.seq ?_ |refine AWP.region ?_ |refine Fl.b rfl rfl rfl rfl ?_ |(refine AWP.condD rfl ?_ ?_ <;> intro _ <;> try (exfalso; omega)) |fail)
          refine Fl.call rfl (hmx) rfl rfl rfl (LeL.refl _) ?_
          repeat' (first |refine Fl.v rfl rfl rfl ?_ |refine Fl.nilF ?_ |refine AWP.seq ?_ |refine AWP.region ?_ |refine Fl.w rfl rfl rfl (by first | exact True.intro | omega) ?_ |refine Fl.b rfl rfl rfl rfl ?_ |fail)
          refine LoopEnd.of (m / 2, o * x, x * x) ⟨⟨by omega, by omega⟩, ⟨by omega, by omega⟩, ⟨by omega, by have := hsq hm1; omega⟩, q2⟩ (show (m / 2).toNat < m.toNat by omega) ?_
          refine Ent.of [(700, 8)] ?_ ?_ rfl rfl
          repeat' (first | exact True.intro |refine ⟨⟨AV.Le.refl _, rfl⟩, ?_⟩ |refine ⟨⟨⟨_, rfl, BLe.cells (LeL.refl _)⟩, rfl⟩, ?_⟩ |refine ⟨⟨⟨_, rfl, BLe.row rfl⟩, rfl⟩, ?_⟩ |refine ⟨⟨⟨_, rfl, BLe.row ?_⟩, rfl⟩, ?_⟩ |refine ⟨⟨⟨_, rfl, BLe.cells ?_⟩, rfl⟩, ?_⟩ |refine ⟨⟨AV.Le.int ?_, rfl⟩, ?_⟩ |refine ⟨⟨AV.Le.bool ?_, rfl⟩, ?_⟩ |refine ⟨⟨AV.Le.sl ?_, rfl⟩, ?_⟩ |refine ⟨⟨AV.Le.of_eq ?_, rfl⟩, ?_⟩ | fail)
        · have hm2 : m = 1 := by omega
          subst hm2
          repeat' (first |refine Fl.v rfl rfl rfl ?_ |refine Fl.nilF ?_ |refine AWP.seq ?_ |refine AWP.region ?_ |refine Fl.w rfl rfl rfl (by first | exact True.intro | omega) ?_ |refine AWP.condT rfl ?_ |refine AWP.block ?_ |refine AWP.skip ?_ |fail)
          refine Fl.call rfl (hmo) rfl rfl rfl (LeL.refl _) ?_
          repeat' (first |refine Fl.v rfl rfl rfl ?_ |refine Fl.nilF ?_ |refine AWP.seq ?_ |refine AWP.region ?_ |refine Fl.w rfl rfl rfl (by first | exact True.intro | omega) ?_ |refine Fl.b rfl rfl rfl rfl ?_ |refine AWP.condF rfl ?_ |refine AWP.skip ?_ |fail)
          refine LoopEnd.of (0, o * x, x) ⟨⟨by omega, by omega⟩, ⟨by omega, by omega⟩, ⟨by omega, k5⟩, by simpa using q2⟩ (show (0 : Int).toNat < (1 : Int).toNat by decide) ?_
          refine Ent.of [(700, 8)] ?_ ?_ rfl rfl
          repeat' (first | exact True.intro |refine ⟨⟨AV.Le.refl _, rfl⟩, ?_⟩ |refine ⟨⟨⟨_, rfl, BLe.cells (LeL.refl _)⟩, rfl⟩, ?_⟩ |refine ⟨⟨⟨_, rfl, BLe.row rfl⟩, rfl⟩, ?_⟩ |refine ⟨⟨⟨_, rfl, BLe.row ?_⟩, rfl⟩, ?_⟩ |refine ⟨⟨⟨_, rfl, BLe.cells ?_⟩, rfl⟩, ?_⟩ |refine ⟨⟨AV.Le.int ?_, rfl⟩, ?_⟩ |refine ⟨⟨AV.Le.bool ?_, rfl⟩, ?_⟩ |refine ⟨⟨AV.Le.sl ?_, rfl⟩, ?_⟩ |refine ⟨⟨AV.Le.of_eq ?_, rfl⟩, ?_⟩ | fail)
      · have q2 := heven hr
        repeat' (first |refine Fl.v rfl rfl rfl ?_ |refine Fl.nilF ?_ |refine AWP.seq ?_ |refine AWP.region ?_ |refine Fl.w rfl rfl rfl (by first | exact True.intro | omega) ?_ |(refine AWP.condD rfl ?_ ?_ <;> intro _ <;> try (exfalso; omega)) |refine AWP.block ?_ |refine AWP.skip ?_ |fail)
        refine Fl.call rfl (hmx) rfl rfl rfl (LeL.refl _) ?_
        repeat' (first |refine Fl.v rfl rfl rfl ?_ |refine Fl.nilF ?_ |refine AWP.seq ?_ |refine AWP.region ?_ |refine Fl.w rfl rfl rfl (by first | exact True.intro | omega) ?_ |refine Fl.b rfl rfl rfl rfl ?_ |fail)
        refine LoopEnd.of (m / 2, o, x * x) ⟨⟨by omega, by omega⟩, ⟨by omega, by omega⟩, ⟨by omega, by have := hsq (by omega); omega⟩, q2⟩ (show (m / 2).toNat < m.toNat by omega) ?_
        refine Ent.of [(700, 8)] ?_ ?_ rfl rfl
        repeat' (first | exact True.intro |refine ⟨⟨AV.Le.refl _, rfl⟩, ?_⟩ |refine ⟨⟨⟨_, rfl, BLe.cells (LeL.refl _)⟩, rfl⟩, ?_⟩ |refine ⟨⟨⟨_, rfl, BLe.row rfl⟩, rfl⟩, ?_⟩ |refine ⟨⟨⟨_, rfl, BLe.row ?_⟩, rfl⟩, ?_⟩ |refine ⟨⟨⟨_, rfl, BLe.cells ?_⟩, rfl⟩, ?_⟩ |refine ⟨⟨AV.Le.int ?_, rfl⟩, ?_⟩ |refine ⟨⟨AV.Le.bool ?_, rfl⟩, ?_⟩ |refine ⟨⟨AV.Le.sl ?_, rfl⟩, ?_⟩ |refine ⟨⟨AV.Le.of_eq ?_, rfl⟩, ?_⟩ | fail)
    · rw [show m.toNat = 0 by omega, Int.pow_zero, Int.mul_one] at k6
      rw [← k6]
      repeat' (first |refine Fl.v rfl rfl rfl ?_ |refine Fl.nilF ?_ |refine AWP.seq ?_ |refine AWP.region ?_ |refine Fl.b rfl rfl rfl rfl ?_ |(refine AWP.condD rfl ?_ ?_ <;> intro _ <;> try (exfalso; omega)) |refine AWP.exit ?_ |refine AWP.ret ?_ |fail)
      exact RetOk.of rfl (AV.Le.refl _)
end Go.Proofs.YtfkjhjgihbnegaaGreat
namespace Go.AL
theorem psi_one (a : Int) : psiN a 1 = 1 := by rw [psi_succ, psi_zero, Int.mul_zero]; rfl
theorem psi_rec (a : Int) (n : Nat) : (a + a) * psiN a (n + 1) - psiN a n = psiN a (n + 2) := by
  have h1 := psi_succ a (n + 1)
  have h2 := chi_succ a n
  have h3 := psi_succ a n
  rw [show n + 1 + 1 = n + 2 from rfl] at h1
  grind
theorem psi_two (a : Int) : psiN a 2 = a + a := by
  have := psi_rec a 0
  simp only [Nat.zero_add, psi_one, psi_zero] at this
  omega
theorem psi_up {a : Int} (ha : 2 ≤ a) (n : Nat) : psiN a (n + 1) ≤ (a + a) * psiN a n ∨ n = 0 := by
  cases n with
  | zero => exact .inr rfl
  | succ n =>
    left
    have h1 := psi_rec a n
    have h2 := (cp_pos ha n).2.1
    rw [show n + 1 + 1 = n + 2 from rfl]
    omega
theorem psi_bound {a : Int} (ha : 2 ≤ a) (hf : Fit a) {n k : Nat} (hn : n ≠ 0) (h : psiN a n < BB k) : psiN a (n + 1) < BB (4097 + k) := by
  have h1 := (psi_up ha n).resolve_right hn
  have h2 : a + a < BB 4097 := by
    have := hf
    unfold Fit at this
    rw [BB_succ]
    have := BB_pos 4096
    omega
  have h3 := (cp_pos ha n).2.1
  have h4 := BB_pos k
  rw [BB_add]
  have g1 : (a + a) * psiN a n ≤ (a + a) * BB k := Int.mul_le_mul_of_nonneg_left (by omega) (by omega)
  have g2 : (a + a) * BB k < BB 4097 * BB k := Int.mul_lt_mul_of_pos_right h2 h4
  omega
theorem twice_lt {x : Int} {k : Nat} (hx : Fit x) (hk : 4097 ≤ k) : x + x < BB k := by
  have h1 := hx
  unfold Fit at h1
  have h2 := BB_le hk
  rw [BB_succ] at h2
  have := BB_pos 4096
  omega
theorem pow_gt {x z : Int} {y : Int} {bx bz : Int} (hx : 2 ≤ x) (hz : 1 ≤ z) (hy : 0 ≤ y) (hbx : bx = (bitl x.natAbs : Int)) (hbz : bz = (bitl z.natAbs : Int)) (h : bz < y * (bx - 1)) : z < x ^ y.toNat := by
  have h1 := bitl_ge (n := x.natAbs) (by omega)
  have h2 := bitl_lt z.natAbs
  have h3 : (2 ^ (bitl x.natAbs - 1)) ^ y.toNat ≤ x.natAbs ^ y.toNat := Nat.pow_le_pow_left h1.2 _
  rw [← Nat.pow_mul] at h3
  have h4 : bitl z.natAbs ≤ (bitl x.natAbs - 1) * y.toNat := by
    have e : (((bitl x.natAbs - 1) * y.toNat : Nat) : Int) = y * (bx - 1) := by
      rw [Int.natCast_mul, hbx, Int.mul_comm, show ((y.toNat : Nat) : Int) = y by omega, Int.natCast_sub h1.1]
      rfl
    omega
  have h5 : 2 ^ bitl z.natAbs ≤ 2 ^ ((bitl x.natAbs - 1) * y.toNat) := Nat.pow_le_pow_right (by omega) h4
  have h6 : z.natAbs < x.natAbs ^ y.toNat := by omega
  have h7 : x ^ y.toNat = ((x.natAbs ^ y.toNat : Nat) : Int) := by
    rw [Int.natCast_pow, show ((x.natAbs : Nat) : Int) = x by omega]
  rw [h7]
  omega
end Go.AL
namespace Go.Proofs.YtfkjhjgihbnegaaGreat
open Go.AL

set_option maxHeartbeats 1000000 in
theorem rIsPsi_ok (x y z : Int) (hx : Fit x) (hy : Fit y) (hz : Fit z) (b : Bool) (hb : b = true ↔ 2 ≤ x ∧ 1 ≤ y ∧ psiN x y.toNat = z) : PureFn Tryz.prog 44 [aX x, aX y, aX z] (aB b) := by
  refine PureFn.of_body Tryz.func44 rfl Tryz.ntmps44 rfl rfl ?_
  have hfalse : ¬ (2 ≤ x ∧ 1 ≤ y ∧ psiN x y.toNat = z) → false = b := fun h => by cases b with | false => rfl | true => exact absurd (hb.1 rfl) h
  have lx : lenI x ≤ 4096 := hx.len
  have lz : lenI z ≤ 4096 := hz.len
  have l2 : lenI 2 ≤ 4096 := fit_two.len
  have hfew := rfew_ok y
  have hcmp := rCmp_ok x 2 (by omega) (by omega)
  have c2 := cmpI_cases x 2
  by_cases hfe : 0 ≤ y ∧ y ≤ 163840
  · rw [decide_eq_true hfe, smallV_eq (by unfold I64; omega)] at hfew
    by_cases h1 : 2 ≤ x ∧ 1 ≤ y
    · repeat' (first |refine Fl.v rfl rfl rfl ?_ |refine Fl.nilF ?_ |refine AWP.seq ?_ |refine AWP.region ?_ |refine Fl.b rfl rfl rfl rfl ?_ |fail)
      refine Fl.call rfl (hfew) rfl rfl rfl (LeL.refl _) ?_
      repeat' (first |refine Fl.v rfl rfl rfl ?_ |refine Fl.nilF ?_ |refine AWP.seq ?_ |refine AWP.region ?_ |fail)
      refine Fl.call rfl (rOf_ok 2 (by omega) (by omega)) rfl rfl rfl (LeL.refl _) ?_
      skip
      refine Fl.call rfl (hcmp) rfl rfl rfl (LeL.refl _) ?_
      repeat' (first |refine Fl.v rfl rfl rfl ?_ |refine Fl.nil (fun _ => by kernel_rfl) ?_ |refine AWP.seq ?_ |refine AWP.region ?_ |(refine AWP.condD rfl ?_ ?_ <;> intro _ <;> try (exfalso; omega)) |refine AWP.skip ?_ |(refine Fl.splitD rfl rfl ?_ ?_ <;> intro _ <;> try (exfalso; omega)) |fail)
      refine Fl.call rfl (rOf_ok 1 (by omega) (by omega)) rfl rfl rfl (LeL.refl _) ?_
      repeat' (first |refine Fl.v rfl rfl rfl ?_ |fail)
      refine Fl.call rfl (rAdd_ok x x (show lenI x ≤ 40000 by omega) (show lenI x ≤ 40000 by omega)) rfl rfl rfl (LeL.refl _) ?_
      repeat' (first |refine Fl.v rfl rfl rfl ?_ |refine Fl.nilF ?_ |refine Fl.nil (fun _ => by kernel_rfl) ?_ |refine AWP.seq ?_ |refine AWP.region ?_ |refine Fl.b rfl rfl rfl rfl ?_ |refine AWP.block ?_ |fail)
      refine AWP.loop (G := Nat) (fun i => (1 ≤ i ∧ (i : Int) ≤ y) ∧ psiN x i < BB 8193 ∧ psiN x (i + 1) < BB 12290)
        (fun i => St.of [] [(3, .ptr 3 0), (5, .ptr 5 0), (7, aN y), (9, .ptr 9 0), (10, .ptr 10 0), (11, aN i)] [(3, .cells (eX x) 58), (5, .cells (eX z) 58), (9, .cells (eX (psiN x i)) 58), (10, .cells (eX (psiN x (i + 1))) 58)])
        (fun i => y.toNat - i) 1 ⟨⟨by omega, by omega⟩, ?_, ?_⟩ ?_ ?_
      · rw [psi_one]
        have := BB_le (show 1 ≤ 8193 by omega)
        rw [BB_succ 0, BB_zero] at this
        omega
      · rw [psi_two]
        exact twice_lt hx (by omega)
      · refine Ent.of [] ?_ ?_ rfl rfl
        repeat' (first | exact True.intro |refine ⟨⟨AV.Le.refl _, rfl⟩, ?_⟩ |refine ⟨⟨⟨_, rfl, BLe.cells (LeL.refl _)⟩, rfl⟩, ?_⟩ |refine ⟨⟨⟨_, rfl, BLe.row rfl⟩, rfl⟩, ?_⟩ |refine ⟨⟨⟨_, rfl, BLe.row ?_⟩, rfl⟩, ?_⟩ |refine ⟨⟨⟨_, rfl, BLe.cells ?_⟩, rfl⟩, ?_⟩ |refine ⟨⟨AV.Le.int ?_, rfl⟩, ?_⟩ |refine ⟨⟨AV.Le.bool ?_, rfl⟩, ?_⟩ |refine ⟨⟨AV.Le.sl ?_, rfl⟩, ?_⟩ |refine ⟨⟨AV.Le.of_eq ?_, rfl⟩, ?_⟩ | fail)
        · exact leX (psi_one x).symm
        · exact leX (psi_two x).symm
      · intro i ⟨⟨k0, k1⟩, k2, k3⟩
        have p0 := (cp_pos h1.1 i).2.1
        have p1 := (cp_pos h1.1 (i + 1)).2.1
        have li : lenI (psiN x i) ≤ 8193 := lenI_le.2 (by omega)
        have li1 : lenI (psiN x (i + 1)) ≤ 12290 := lenI_le.2 (by omega)
        have hcm := rCmp_ok (psiN x i) z (by omega) (by omega)
        have c := cmpI_cases (psiN x i) z
        have hsame := rSame_ok (psiN x i) z (show lenI (psiN x i) ≤ 1000000 by omega)
        by_cases hin : (i : Int) < y
        · by_cases hle : psiN x i ≤ z
          · have lxx : lenI (x + x) ≤ 4097 := lenI_le.2 (by have := twice_lt hx (Nat.le_refl 4097); omega)
            have hm := rMul_ok (x + x) (psiN x (i + 1)) (show lenI (x + x) ≤ 40000 by omega) (show lenI (psiN x (i + 1)) ≤ 40000 by omega)
            have b1 : psiN x (i + 1) < BB 8193 := psi_bound h1.1 hx (k := 4096) (by omega) (by
              have := hz
              unfold Fit at this
              omega)
            have b2 : psiN x (i + 2) < BB 12290 := psi_bound h1.1 hx (k := 8193) (n := i + 1) (by omega) b1
            have lm : lenI ((x + x) * psiN x (i + 1)) ≤ 40000 := by
              have := lenI_mul (x + x) (psiN x (i + 1))
              omega
            have hs := rSub_ok ((x + x) * psiN x (i + 1)) (psiN x i) lm (by omega)
            rw [psi_rec] at hs
            repeat' (first |refine Fl.v rfl rfl rfl ?_ |refine AWP.seq ?_ |refine AWP.region ?_ |(refine Fl.splitD rfl rfl ?_ ?_ <;> intro _ <;> try (exfalso; omega)) |fail)
            refine Fl.call rfl (hcm) rfl rfl rfl (LeL.refl _) ?_
            repeat' (first |refine Fl.v rfl rfl rfl ?_ |refine Fl.nilF ?_ |refine AWP.seq ?_ |refine AWP.region ?_ |(refine AWP.condD rfl ?_ ?_ <;> intro _ <;> try (exfalso; omega)) |refine AWP.block ?_ |refine AWP.skip ?_ |fail)
            refine Fl.call rfl (rAdd_ok x x (show lenI x ≤ 40000 by omega) (show lenI x ≤ 40000 by omega)) rfl rfl rfl (LeL.refl _) ?_
            repeat' (first |refine Fl.v rfl rfl rfl ?_ |fail)
            refine Fl.call rfl (hm) rfl rfl rfl (LeL.refl _) ?_
            repeat' (first |refine Fl.v rfl rfl rfl ?_ |fail)
            refine Fl.call rfl (hs) rfl rfl rfl (LeL.refl _) ?_
            repeat' (first |refine Fl.v rfl rfl rfl ?_ |refine Fl.nilF ?_ |refine Fl.nil (fun _ => by kernel_rfl) ?_ |refine AWP.region ?_ |refine Fl.w rfl rfl rfl (by first | exact True.intro | omega) ?_ |refine Fl.b rfl rfl rfl rfl ?_ |fail)
            refine LoopEnd.of (i + 1) ⟨⟨by omega, by omega⟩, b1, b2⟩ (by omega) ?_
            refine Ent.of [] ?_ ?_ rfl rfl
            repeat' (first | exact True.intro |refine ⟨⟨AV.Le.refl _, rfl⟩, ?_⟩ |refine ⟨⟨⟨_, rfl, BLe.cells (LeL.refl _)⟩, rfl⟩, ?_⟩ |refine ⟨⟨⟨_, rfl, BLe.row rfl⟩, rfl⟩, ?_⟩ |refine ⟨⟨⟨_, rfl, BLe.row ?_⟩, rfl⟩, ?_⟩ |refine ⟨⟨⟨_, rfl, BLe.cells ?_⟩, rfl⟩, ?_⟩ |refine ⟨⟨AV.Le.int ?_, rfl⟩, ?_⟩ |refine ⟨⟨AV.Le.bool ?_, rfl⟩, ?_⟩ |refine ⟨⟨AV.Le.sl ?_, rfl⟩, ?_⟩ |refine ⟨⟨AV.Le.of_eq ?_, rfl⟩, ?_⟩ | fail)
          · repeat' (first |refine Fl.v rfl rfl rfl ?_ |refine AWP.seq ?_ |refine AWP.region ?_ |(refine Fl.splitD rfl rfl ?_ ?_ <;> intro _ <;> try (exfalso; omega)) |fail)
            refine Fl.call rfl (hcm) rfl rfl rfl (LeL.refl _) ?_
            repeat' (first |refine Fl.v rfl rfl rfl ?_ |refine Fl.nilF ?_ |refine AWP.seq ?_ |refine AWP.region ?_ |(refine AWP.condD rfl ?_ ?_ <;> intro _ <;> try (exfalso; omega)) |refine AWP.exit ?_ |fail)
            refine Fl.call rfl (hsame) rfl rfl rfl (LeL.refl _) ?_
            repeat' (first |refine Fl.v rfl rfl rfl ?_ |refine Fl.nilF ?_ |refine AWP.ret ?_ |fail)
            refine RetOk.of rfl (AV.Le.bool ?_)
            rw [decide_eq_false (by omega)]
            refine hfalse fun k => ?_
            have := psi_mono h1.1 (show i ≤ y.toNat by omega)
            omega
        · have hiy : y.toNat = i := by omega
          repeat' (first |refine Fl.v rfl rfl rfl ?_ |refine Fl.nilF ?_ |refine AWP.seq ?_ |refine AWP.region ?_ |refine Fl.skip rfl rfl ?_ |refine AWP.condF rfl ?_ |refine AWP.exit ?_ |(refine Fl.splitD rfl rfl ?_ ?_ <;> intro _ <;> try (exfalso; omega)) |fail)
          refine Fl.call rfl (hsame) rfl rfl rfl (LeL.refl _) ?_
          repeat' (first |refine Fl.v rfl rfl rfl ?_ |refine Fl.nilF ?_ |refine AWP.ret ?_ |fail)
          refine RetOk.of rfl (AV.Le.bool ?_)
          rw [hiy] at hb
          cases b with
          | false => exact decide_eq_false fun k => by have := hb.2 ⟨h1.1, h1.2, k⟩; cases this
          | true => exact decide_eq_true (hb.1 rfl).2.2
    · have hbad := hfalse fun k => h1 ⟨k.1, k.2.1⟩
      repeat' (first |refine Fl.v rfl rfl rfl ?_ |refine Fl.nilF ?_ |refine AWP.seq ?_ |refine AWP.region ?_ |refine Fl.b rfl rfl rfl rfl ?_ |fail)
      refine Fl.call rfl (hfew) rfl rfl rfl (LeL.refl _) ?_
      repeat' (first |refine Fl.v rfl rfl rfl ?_ |refine Fl.nilF ?_ |refine AWP.seq ?_ |refine AWP.region ?_ |fail)
      refine Fl.call rfl (rOf_ok 2 (by omega) (by omega)) rfl rfl rfl (LeL.refl _) ?_
      skip
      refine Fl.call rfl (hcmp) rfl rfl rfl (LeL.refl _) ?_
      repeat' (first |refine Fl.v rfl rfl rfl ?_ |refine Fl.nilF ?_ |refine Fl.nil (fun _ => by kernel_rfl) ?_ |refine AWP.seq ?_ |refine AWP.region ?_ |refine Fl.skip rfl rfl ?_ |refine AWP.condT rfl ?_ |(refine AWP.condD rfl ?_ ?_ <;> intro _ <;> try (exfalso; omega)) |refine AWP.ret ?_ |(refine Fl.splitD rfl rfl ?_ ?_ <;> intro _ <;> try (exfalso; omega)) |fail)
      all_goals exact RetOk.of rfl (AV.Le.bool hbad)
  · rw [decide_eq_false hfe] at hfew
    have hbad := hfalse fun k => by
      refine psi_not_fit (a := x) (n := y.toNat) k.1 ?_ (by rw [k.2.2]; exact hz)
      have := k.2.1
      omega
    repeat' (first |refine Fl.v rfl rfl rfl ?_ |refine Fl.nilF ?_ |refine AWP.seq ?_ |refine AWP.region ?_ |refine Fl.b rfl rfl rfl rfl ?_ |fail)
    refine Fl.call rfl (hfew) rfl rfl rfl (LeL.refl _) ?_
    repeat' (first |refine Fl.v rfl rfl rfl ?_ |refine Fl.nilF ?_ |refine AWP.seq ?_ |refine AWP.region ?_ |fail)
    refine Fl.call rfl (rOf_ok 2 (by omega) (by omega)) rfl rfl rfl (LeL.refl _) ?_
    skip
    refine Fl.call rfl (hcmp) rfl rfl rfl (LeL.refl _) ?_
    repeat' (first |refine Fl.v rfl rfl rfl ?_ |refine Fl.nilF ?_ |refine Fl.nil (fun _ => by kernel_rfl) ?_ |refine AWP.seq ?_ |refine AWP.region ?_ |refine Fl.skip rfl rfl ?_ |refine AWP.condT rfl ?_ |refine AWP.ret ?_ |(refine Fl.splitD rfl rfl ?_ ?_ <;> intro _ <;> try (exfalso; omega)) |fail)
    all_goals exact RetOk.of rfl (AV.Le.bool hbad)

set_option maxHeartbeats 1000000 in
theorem rIsPower_ok (x y z : Int) (hx : Fit x) (hy : Fit y) (hz : Fit z) (b : Bool) (hb : b = true ↔ 1 ≤ x ∧ 0 ≤ y ∧ x ^ y.toNat = z) : PureFn Tryz.prog 45 [aX x, aX y, aX z] (aB b) := by
  refine PureFn.of_body Tryz.func45 rfl Tryz.ntmps45 rfl rfl ?_
  have hfalse : ¬ (1 ≤ x ∧ 0 ≤ y ∧ x ^ y.toNat = z) → false = b := fun h => by cases b with | false => rfl | true => exact absurd (hb.1 rfl) h
  have lx : lenI x ≤ 4096 := hx.len
  have lz : lenI z ≤ 4096 := hz.len
  have l1 : lenI 1 ≤ 4096 := fit_one.len
  have hfew := rfew_ok y
  have hcmp := rCmp_ok x 1 (by omega) (by omega)
  have c2 := cmpI_cases x 1
  have hs1 := rSame_ok x 1 (show lenI x ≤ 1000000 by omega)
  by_cases h1 : 1 ≤ x ∧ 0 ≤ y
  · by_cases hx1 : x = 1
    · rw [decide_eq_true hx1] at hs1
      have hzx := rSame_ok z x (show lenI z ≤ 1000000 by omega)
      repeat' (first |refine Fl.v rfl rfl rfl ?_ |refine Fl.nilF ?_ |refine AWP.seq ?_ |refine AWP.region ?_ |refine Fl.b rfl rfl rfl rfl ?_ |fail)
      refine Fl.call rfl (rOf_ok 1 (by omega) (by omega)) rfl rfl rfl (LeL.refl _) ?_
      skip
      refine Fl.call rfl (hcmp) rfl rfl rfl (LeL.refl _) ?_
      repeat' (first |refine Fl.v rfl rfl rfl ?_ |refine Fl.nil (fun _ => by kernel_rfl) ?_ |refine AWP.seq ?_ |refine AWP.region ?_ |(refine AWP.condD rfl ?_ ?_ <;> intro _ <;> try (exfalso; omega)) |refine AWP.skip ?_ |(refine Fl.splitD rfl rfl ?_ ?_ <;> intro _ <;> try (exfalso; omega)) |fail)
      refine Fl.call rfl (rOf_ok 1 (by omega) (by omega)) rfl rfl rfl (LeL.refl _) ?_
      skip
      refine Fl.call rfl (hs1) rfl rfl rfl (LeL.refl _) ?_
      repeat' (first |refine Fl.v rfl rfl rfl ?_ |refine Fl.nil (fun _ => by kernel_rfl) ?_ |refine AWP.seq ?_ |refine AWP.region ?_ |refine AWP.condT rfl ?_ |fail)
      refine Fl.call rfl (hzx) rfl rfl rfl (LeL.refl _) ?_
      repeat' (first |refine Fl.v rfl rfl rfl ?_ |refine Fl.nilF ?_ |refine AWP.ret ?_ |fail)
      refine RetOk.of rfl (AV.Le.bool ?_)
      subst hx1
      cases b with
      | false => exact decide_eq_false fun k => by have := hb.2 ⟨by omega, by omega, by rw [Int.one_pow, k]⟩; cases this
      | true => exact decide_eq_true (by have := (hb.1 rfl).2.2; rw [Int.one_pow] at this; exact this.symm)
    · rw [decide_eq_false hx1] at hs1
      by_cases hfe : 0 ≤ y ∧ y ≤ 163840
      · rw [decide_eq_true hfe, smallV_eq (by unfold I64; omega)] at hfew
        by_cases hz0 : z ≤ 0
        · have hbad := hfalse fun k => by
            have := pow_ge_one (x := x) (by omega) y.toNat
            omega
          repeat' (first |refine Fl.v rfl rfl rfl ?_ |refine Fl.nilF ?_ |refine AWP.seq ?_ |refine AWP.region ?_ |refine Fl.b rfl rfl rfl rfl ?_ |fail)
          refine Fl.call rfl (rOf_ok 1 (by omega) (by omega)) rfl rfl rfl (LeL.refl _) ?_
          skip
          refine Fl.call rfl (hcmp) rfl rfl rfl (LeL.refl _) ?_
          repeat' (first |refine Fl.v rfl rfl rfl ?_ |refine Fl.nil (fun _ => by kernel_rfl) ?_ |refine AWP.seq ?_ |refine AWP.region ?_ |(refine AWP.condD rfl ?_ ?_ <;> intro _ <;> try (exfalso; omega)) |refine AWP.skip ?_ |(refine Fl.splitD rfl rfl ?_ ?_ <;> intro _ <;> try (exfalso; omega)) |fail)
          refine Fl.call rfl (rOf_ok 1 (by omega) (by omega)) rfl rfl rfl (LeL.refl _) ?_
          skip
          refine Fl.call rfl (hs1) rfl rfl rfl (LeL.refl _) ?_
          repeat' (first |refine Fl.v rfl rfl rfl ?_ |refine Fl.nil (fun _ => by kernel_rfl) ?_ |refine AWP.seq ?_ |refine AWP.region ?_ |refine AWP.condF rfl ?_ |refine AWP.skip ?_ |fail)
          refine Fl.call rfl (hfew) rfl rfl rfl (LeL.refl _) ?_
          repeat' (first |refine Fl.v rfl rfl rfl ?_ |refine Fl.nilF ?_ |refine AWP.seq ?_ |refine AWP.region ?_ |refine Fl.skip rfl rfl ?_ |refine AWP.condT rfl ?_ |refine AWP.ret ?_ |(refine Fl.splitD rfl rfl ?_ ?_ <;> intro _ <;> try (exfalso; omega)) |fail)
          · exact RetOk.of rfl (AV.Le.bool hbad)
          · have hzz := rZeroX_ok z
            rw [decide_eq_true (show z = 0 by omega)] at hzz
            refine Fl.call rfl (hzz) rfl rfl rfl (LeL.refl _) ?_
            repeat' (first |refine Fl.v rfl rfl rfl ?_ |refine Fl.nilF ?_ |refine AWP.seq ?_ |refine AWP.region ?_ |refine AWP.condT rfl ?_ |refine AWP.ret ?_ |fail)
            exact RetOk.of rfl (AV.Le.bool hbad)
        · obtain ⟨bx, hbx⟩ : ∃ bx : Int, bx = bitl x.natAbs := ⟨_, rfl⟩
          obtain ⟨bz, hbz⟩ : ∃ bz : Int, bz = bitl z.natAbs := ⟨_, rfl⟩
          have hbitx := rBits_ok x (by omega)
          have hbitz := rBits_ok z (by omega)
          rw [← hbx] at hbitx
          rw [← hbz] at hbitz
          have ux : bitl x.natAbs ≤ 32 * 4096 := bitl_BB (by have := hx; unfold Fit at this; exact this)
          have uz : bitl z.natAbs ≤ 32 * 4096 := bitl_BB (by have := hz; unfold Fit at this; exact this)
          have gx := (bitl_ge (n := x.natAbs) (by omega)).1
          have m0 : 0 ≤ y * (bx - 1) := Int.mul_nonneg (by omega) (by omega)
          have m1 : y * (bx - 1) ≤ 163840 * (bx - 1) := Int.mul_le_mul_of_nonneg_right (by omega) (by omega)
          have hzz := rZeroX_ok z
          rw [decide_eq_false (show ¬ z = 0 by omega)] at hzz
          repeat' (first |refine Fl.v rfl rfl rfl ?_ |refine Fl.nilF ?_ |refine AWP.seq ?_ |refine AWP.region ?_ |refine Fl.b rfl rfl rfl rfl ?_ |fail)
          refine Fl.call rfl (rOf_ok 1 (by omega) (by omega)) rfl rfl rfl (LeL.refl _) ?_
          skip
          refine Fl.call rfl (hcmp) rfl rfl rfl (LeL.refl _) ?_
          repeat' (first |refine Fl.v rfl rfl rfl ?_ |refine Fl.nil (fun _ => by kernel_rfl) ?_ |refine AWP.seq ?_ |refine AWP.region ?_ |(refine AWP.condD rfl ?_ ?_ <;> intro _ <;> try (exfalso; omega)) |refine AWP.skip ?_ |(refine Fl.splitD rfl rfl ?_ ?_ <;> intro _ <;> try (exfalso; omega)) |fail)
          refine Fl.call rfl (rOf_ok 1 (by omega) (by omega)) rfl rfl rfl (LeL.refl _) ?_
          skip
          refine Fl.call rfl (hs1) rfl rfl rfl (LeL.refl _) ?_
          repeat' (first |refine Fl.v rfl rfl rfl ?_ |refine Fl.nil (fun _ => by kernel_rfl) ?_ |refine AWP.seq ?_ |refine AWP.region ?_ |refine AWP.condF rfl ?_ |refine AWP.skip ?_ |fail)
          refine Fl.call rfl (hfew) rfl rfl rfl (LeL.refl _) ?_
          repeat' (first |refine Fl.v rfl rfl rfl ?_ |refine Fl.nilF ?_ |refine AWP.seq ?_ |refine AWP.region ?_ |(refine Fl.splitD rfl rfl ?_ ?_ <;> intro _ <;> try (exfalso; omega)) |fail)
          refine Fl.call rfl (hzz) rfl rfl rfl (LeL.refl _) ?_
          repeat' (first |refine Fl.v rfl rfl rfl ?_ |refine Fl.nilF ?_ |refine AWP.seq ?_ |refine AWP.region ?_ |refine AWP.condF rfl ?_ |refine AWP.skip ?_ |fail)
          refine Fl.call rfl (hbitx) rfl rfl rfl (LeL.refl _) ?_
          repeat' (first |refine Fl.v rfl rfl rfl ?_ |refine Fl.w rfl rfl rfl (by first | exact True.intro | omega) ?_ |fail)
          refine Fl.call rfl (hbitz) rfl rfl rfl (LeL.refl _) ?_
          repeat' (first |refine Fl.v rfl rfl rfl ?_ |refine Fl.nilF ?_ |refine Fl.nil (fun _ => by kernel_rfl) ?_ |refine AWP.seq ?_ |refine AWP.region ?_ |(refine AWP.condD rfl ?_ ?_ <;> intro _ <;> try (exfalso; omega)) |refine AWP.skip ?_ |refine AWP.ret ?_ |fail)
          · rename_i hgt
            have := pow_gt (x := x) (z := z) (y := y) (by omega) (by omega) (by omega) hbx hbz hgt
            exact RetOk.of rfl (AV.Le.bool (hfalse fun k => by omega))
          · rename_i hgt
            have hsm := pow_small (p := x) (n := y) (by omega) (by omega) hbx (by omega)
            have hT := pow_ge_one (x := x) (by omega) y.toNat
            have hsame := rSame_ok (x ^ y.toNat) z (show lenI (x ^ y.toNat) ≤ 1000000 by
              have : lenI (x ^ y.toNat) ≤ 8193 := lenI_le.2 (by omega)
              omega)
            refine Fl.call rfl (rPower_ok x y (by omega) hx (by omega) (by omega) bx hbx (by omega)) rfl rfl rfl (LeL.refl _) ?_
            repeat' (first |refine Fl.v rfl rfl rfl ?_ |refine Fl.nilF ?_ |refine AWP.seq ?_ |refine AWP.region ?_ |refine Fl.b rfl rfl rfl rfl ?_ |fail)
            refine Fl.call rfl (hsame) rfl rfl rfl (LeL.refl _) ?_
            repeat' (first |refine Fl.v rfl rfl rfl ?_ |refine Fl.nilF ?_ |refine AWP.ret ?_ |fail)
            refine RetOk.of rfl (AV.Le.bool ?_)
            cases b with
            | false => exact decide_eq_false fun k => by have := hb.2 ⟨by omega, by omega, k⟩; cases this
            | true => exact decide_eq_true (hb.1 rfl).2.2
      · rw [decide_eq_false hfe] at hfew
        have hbad := hfalse fun k => by
          refine pow_not_fit (x := x) (n := y.toNat) (by omega) ?_ (by rw [k.2.2]; exact hz)
          omega
        repeat' (first |refine Fl.v rfl rfl rfl ?_ |refine Fl.nilF ?_ |refine AWP.seq ?_ |refine AWP.region ?_ |refine Fl.b rfl rfl rfl rfl ?_ |fail)
        refine Fl.call rfl (rOf_ok 1 (by omega) (by omega)) rfl rfl rfl (LeL.refl _) ?_
        skip
        refine Fl.call rfl (hcmp) rfl rfl rfl (LeL.refl _) ?_
        repeat' (first |refine Fl.v rfl rfl rfl ?_ |refine Fl.nil (fun _ => by kernel_rfl) ?_ |refine AWP.seq ?_ |refine AWP.region ?_ |(refine AWP.condD rfl ?_ ?_ <;> intro _ <;> try (exfalso; omega)) |refine AWP.skip ?_ |(refine Fl.splitD rfl rfl ?_ ?_ <;> intro _ <;> try (exfalso; omega)) |fail)
        refine Fl.call rfl (rOf_ok 1 (by omega) (by omega)) rfl rfl rfl (LeL.refl _) ?_
        skip
        refine Fl.call rfl (hs1) rfl rfl rfl (LeL.refl _) ?_
        repeat' (first |refine Fl.v rfl rfl rfl ?_ |refine Fl.nil (fun _ => by kernel_rfl) ?_ |refine AWP.seq ?_ |refine AWP.region ?_ |refine AWP.condF rfl ?_ |refine AWP.skip ?_ |fail)
        refine Fl.call rfl (hfew) rfl rfl rfl (LeL.refl _) ?_
        repeat' (first |refine Fl.v rfl rfl rfl ?_ |refine Fl.nilF ?_ |refine AWP.seq ?_ |refine AWP.region ?_ |refine Fl.skip rfl rfl ?_ |refine AWP.condT rfl ?_ |refine AWP.ret ?_ |fail)
        exact RetOk.of rfl (AV.Le.bool hbad)
  · have hbad := hfalse fun k => h1 ⟨k.1, k.2.1⟩
    repeat' (first |refine Fl.v rfl rfl rfl ?_ |refine Fl.nilF ?_ |refine AWP.seq ?_ |refine AWP.region ?_ |refine Fl.b rfl rfl rfl rfl ?_ |fail)
    refine Fl.call rfl (rOf_ok 1 (by omega) (by omega)) rfl rfl rfl (LeL.refl _) ?_
    skip
    refine Fl.call rfl (hcmp) rfl rfl rfl (LeL.refl _) ?_
    repeat' (first |refine Fl.v rfl rfl rfl ?_ |refine Fl.nilF ?_ |refine Fl.nil (fun _ => by kernel_rfl) ?_ |refine AWP.seq ?_ |refine AWP.region ?_ |refine Fl.skip rfl rfl ?_ |refine AWP.condT rfl ?_ |(refine AWP.condD rfl ?_ ?_ <;> intro _ <;> try (exfalso; omega)) |refine AWP.ret ?_ |(refine Fl.splitD rfl rfl ?_ ?_ <;> intro _ <;> try (exfalso; omega)) |fail)
    all_goals exact RetOk.of rfl (AV.Le.bool hbad)
end Go.Proofs.YtfkjhjgihbnegaaGreat
namespace Go.AL
theorem ord_sum {a b : List Int} (hl : a.length = b.length) (h : ordI a b < 0) : sumL b ≤ sumL a := by
  have h1 := (rOrd_one hl).2 h
  unfold rOrd at h1
  rw [ordX_eq a b _ _ hl] at h1
  split at h1
  · omega
  · rcases cmpI_cases (sumL a) (sumL b) with k | k | k <;> omega
theorem pdeg_ge {p : PZ} (hp : OkP p) : ∀ (i : Nat) (t : TZ), p.terms[i]? = some t → sumL t.e ≤ pdeg p ∧ (i = 0 → sumL t.e = pdeg p)
  | 0, t, h => by
    unfold pdeg
    cases hl : p.terms with
    | nil => rw [hl] at h; simp at h
    | cons a l => rw [hl] at h; simp at h; subst h; exact ⟨Int.le_refl _, fun _ => rfl⟩
  | i + 1, t, h => by
    have hi : i < p.terms.length := by have := (List.getElem?_eq_some_iff.1 h).1; omega
    obtain ⟨a, ha⟩ : ∃ a, p.terms[i]? = some a := ⟨_, List.getElem?_eq_getElem hi⟩
    have h1 := (pdeg_ge hp i a ha).1
    have o1 := (hp.terms a (List.mem_of_getElem? ha)).len
    have o2 := (hp.terms t (List.mem_of_getElem? h)).len
    have h2 := ord_sum (by omega) (hp.ord i a t ha h)
    exact ⟨by omega, fun h => by omega⟩
end Go.AL
namespace Go.Proofs.YtfkjhjgihbnegaaGreat
open Go.AL

theorem rDegree_ok (p : PZ) (hp : OkP p) : PureFn Tryz.prog 23 [aP p] (aN (pdeg p)) := by
  refine PureFn.of_body Tryz.func23 rfl Tryz.ntmps23 rfl rfl ?_
  have hlen := hp.len
  have hv1 := hp.v1
  repeat' (first |refine Fl.v rfl rfl rfl ?_ |refine Fl.nilF ?_ |refine AWP.seq ?_ |refine AWP.region ?_ |refine Fl.b rfl rfl rfl rfl ?_ |refine AWP.block ?_ |fail)
  refine AWP.loop (G := Nat × Int) (fun (i, d) => i ≤ p.terms.length ∧ (i = 0 ∧ d = -1 ∨ 0 < i ∧ d = pdeg p)) (fun (i, d) => St.of [] [(1, .ptr 1 0), (3, aN d), (4, aN i)] [(1, .cells [aN p.vars, .sl 3 eT p.terms] 45)]) (fun (i, d) => p.terms.length - i) (0, -1) ⟨by omega, .inl ⟨rfl, rfl⟩⟩ ?_ ?_
  · refine Ent.of [] ?_ ?_ rfl rfl
    repeat' (first | exact True.intro |refine ⟨⟨AV.Le.refl _, rfl⟩, ?_⟩ |refine ⟨⟨⟨_, rfl, BLe.cells (LeL.refl _)⟩, rfl⟩, ?_⟩ |refine ⟨⟨⟨_, rfl, BLe.row rfl⟩, rfl⟩, ?_⟩ |refine ⟨⟨⟨_, rfl, BLe.row ?_⟩, rfl⟩, ?_⟩ |refine ⟨⟨⟨_, rfl, BLe.cells ?_⟩, rfl⟩, ?_⟩ |refine ⟨⟨AV.Le.int ?_, rfl⟩, ?_⟩ |refine ⟨⟨AV.Le.bool ?_, rfl⟩, ?_⟩ |refine ⟨⟨AV.Le.sl ?_, rfl⟩, ?_⟩ |refine ⟨⟨AV.Le.of_eq ?_, rfl⟩, ?_⟩ | fail)
  · intro (i, d) ⟨k0, k1⟩
    by_cases hi : i < p.terms.length
    · obtain ⟨t, ht⟩ : ∃ t, p.terms[i]? = some t := ⟨_, List.getElem?_eq_getElem hi⟩
      have hot := hp.terms t (List.mem_of_getElem? ht)
      have htl := hot.len
      have hge := pdeg_ge hp i t ht
      have hs0 := (sumL_bound hot.exps).1
      repeat' (first |refine Fl.v rfl rfl rfl ?_ |refine Fl.nilF ?_ |refine AWP.seq ?_ |refine AWP.region ?_ |(refine AWP.condD rfl ?_ ?_ <;> intro _ <;> try (exfalso; omega)) |refine AWP.block ?_ |refine AWP.skip ?_ |refine Fl.elK rfl rfl rfl rfl rfl rfl rfl rfl (by assumption) (by omega) ?_ |fail)
      refine Fl.call rfl (rdegree_ok t.e hot.exps (by omega)) rfl rfl rfl (LeL.refl _) ?_
      repeat' (first |refine Fl.v rfl rfl rfl ?_ |refine Fl.nilF ?_ |refine AWP.region ?_ |refine Fl.w rfl rfl rfl (by first | exact True.intro | omega) ?_ |fail)
      refine LoopEnd.of (i + 1, pdeg p) ⟨by omega, .inr ⟨by omega, rfl⟩⟩ (show p.terms.length - (i + 1) < p.terms.length - i by omega) ?_
      refine Ent.of [] ?_ ?_ rfl rfl
      repeat' (first | exact True.intro |refine ⟨⟨AV.Le.refl _, rfl⟩, ?_⟩ |refine ⟨⟨⟨_, rfl, BLe.cells (LeL.refl _)⟩, rfl⟩, ?_⟩ |refine ⟨⟨⟨_, rfl, BLe.row rfl⟩, rfl⟩, ?_⟩ |refine ⟨⟨⟨_, rfl, BLe.row ?_⟩, rfl⟩, ?_⟩ |refine ⟨⟨⟨_, rfl, BLe.cells ?_⟩, rfl⟩, ?_⟩ |refine ⟨⟨AV.Le.int ?_, rfl⟩, ?_⟩ |refine ⟨⟨AV.Le.bool ?_, rfl⟩, ?_⟩ |refine ⟨⟨AV.Le.sl ?_, rfl⟩, ?_⟩ |refine ⟨⟨AV.Le.of_eq ?_, rfl⟩, ?_⟩ | fail)
      rcases k1 with ⟨h1, h2⟩ | ⟨h1, h2⟩
      · have := hge.2 h1
        rw [if_pos (by omega)]; exact this
      · rw [if_neg (by omega)]; exact h2
    · repeat' (first |refine Fl.v rfl rfl rfl ?_ |refine Fl.nilF ?_ |refine AWP.seq ?_ |refine AWP.region ?_ |(refine AWP.condD rfl ?_ ?_ <;> intro _ <;> try (exfalso; omega)) |refine AWP.exit ?_ |refine AWP.ret ?_ |fail)
      refine RetOk.of rfl (AV.Le.int ?_)
      rcases k1 with ⟨h1, h2⟩ | ⟨h1, h2⟩
      · have : p.terms = [] := List.eq_nil_of_length_eq_zero (by omega)
        rw [pdeg, this]; exact h2
      · exact h2
set_option maxHeartbeats 1000000 in
theorem rCounts_ok (s : SZ) (hs : OkS s) : PureFn Tryz.prog 13 [aS s] (aC (cntR s.vars s.links)) := by
  refine PureFn.of_body Tryz.func13 rfl Tryz.ntmps13 rfl rfl ?_
  have hsl := hs.len
  repeat' (first |refine Fl.v rfl rfl rfl ?_ |refine Fl.nilF ?_ |refine AWP.seq ?_ |refine AWP.region ?_ |refine Fl.b rfl rfl rfl rfl ?_ |refine AWP.block ?_ |fail)
  refine AWP.loop (G := Nat) (fun i => i ≤ s.links.length ∧ CTb i (cntR s.vars (s.links.take i))) (fun i => St.of [] [(1, .ptr 1 0), (2, .ptr 2 0), (3, .ptr 3 0), (4, aN i)] [(1, .cells [aN s.vars, .sl 3 eL s.links] 24), (2, .cells (eC ⟨0, 0, 0, 0, 0, 0⟩) 29), (3, .cells (eC (cntR s.vars (s.links.take i))) 29)]) (fun i => s.links.length - i) 0 ⟨by omega, by refine ⟨?_, ?_, ?_, ?_, ?_, ?_, ?_, ?_⟩ <;> (simp [cntR])⟩ ?_ ?_
  · refine Ent.of [] ?_ ?_ rfl rfl
    repeat' (first | exact True.intro |refine ⟨⟨AV.Le.refl _, rfl⟩, ?_⟩ |refine ⟨⟨⟨_, rfl, BLe.cells (LeL.refl _)⟩, rfl⟩, ?_⟩ |refine ⟨⟨⟨_, rfl, BLe.row rfl⟩, rfl⟩, ?_⟩ |refine ⟨⟨⟨_, rfl, BLe.row ?_⟩, rfl⟩, ?_⟩ |refine ⟨⟨⟨_, rfl, BLe.cells ?_⟩, rfl⟩, ?_⟩ |refine ⟨⟨AV.Le.int ?_, rfl⟩, ?_⟩ |refine ⟨⟨AV.Le.bool ?_, rfl⟩, ?_⟩ |refine ⟨⟨AV.Le.sl ?_, rfl⟩, ?_⟩ |refine ⟨⟨AV.Le.of_eq ?_, rfl⟩, ?_⟩ | fail)
  · intro i ⟨k0, k1⟩
    by_cases hi : i < s.links.length
    · obtain ⟨l, hl⟩ : ∃ l, s.links[i]? = some l := ⟨_, List.getElem?_eq_getElem hi⟩
      have hlm := List.mem_of_getElem? hl
      have hL := hs.links l hlm
      have hsn := cntR_snoc (vars := s.vars) hl
      have hst := k1.step l
      obtain ⟨q1, q2, q3, q4, q5, q6, q7, q8⟩ := k1
      have hpl := hL.len
      rcases kinds hL.kind with hk | hk | hk | hk
      · rw [hk] at hpl
        have hpl : l.polys.length = 1 := by have : (l.polys.length : Int) = 1 := hpl; omega
        obtain ⟨p, hps⟩ : ∃ p, l.polys = [p] := by
          match hq : l.polys, hpl with
          | [a], _ => exact ⟨a, rfl⟩
        have hp0 : l.polys[(0 : Int).toNat]? = some p := by rw [hps]; rfl
        have hop := (hL.polys p (by rw [hps]; simp)).2
        repeat' (first |refine Fl.v rfl rfl rfl ?_ |refine Fl.nilF ?_ |refine AWP.seq ?_ |refine AWP.region ?_ |refine Fl.w rfl rfl rfl (by first | exact True.intro | omega) ?_ |refine Fl.b rfl rfl rfl rfl ?_ |(refine AWP.condD rfl ?_ ?_ <;> intro _ <;> try (exfalso; omega)) |refine AWP.block ?_ |refine AWP.skip ?_ |refine Fl.elK rfl rfl rfl rfl rfl rfl rfl rfl (by assumption) (by omega) ?_ |fail)
        refine Fl.call rfl (rDegree_ok p hop) rfl rfl rfl (LeL.refl _) ?_
        repeat' (first |refine Fl.v rfl rfl rfl ?_ |refine Fl.nilF ?_ |refine Fl.nil (fun _ => by kernel_rfl) ?_ |refine AWP.region ?_ |refine Fl.w rfl rfl rfl (by first | exact True.intro | omega) ?_ |refine Fl.b rfl rfl rfl rfl ?_ |fail)
        have he : stepC (cntR s.vars (s.links.take i)) l = { cntR s.vars (s.links.take i) with e := (cntR s.vars (s.links.take i)).e + 1, d := if pdeg p > (cntR s.vars (s.links.take i)).d then pdeg p else (cntR s.vars (s.links.take i)).d } := by simp [stepC, hk, hps]
        refine LoopEnd.of (i + 1) ⟨by omega, by rw [hsn]; exact hst⟩ (by omega) ?_
        refine Ent.of [] ?_ ?_ rfl rfl
        repeat' (first | exact True.intro |refine ⟨⟨AV.Le.refl _, rfl⟩, ?_⟩ |refine ⟨⟨⟨_, rfl, BLe.cells (LeL.refl _)⟩, rfl⟩, ?_⟩ |refine ⟨⟨⟨_, rfl, BLe.row rfl⟩, rfl⟩, ?_⟩ |refine ⟨⟨⟨_, rfl, BLe.row ?_⟩, rfl⟩, ?_⟩ |refine ⟨⟨⟨_, rfl, BLe.cells ?_⟩, rfl⟩, ?_⟩ |refine ⟨⟨AV.Le.int ?_, rfl⟩, ?_⟩ |refine ⟨⟨AV.Le.bool ?_, rfl⟩, ?_⟩ |refine ⟨⟨AV.Le.sl ?_, rfl⟩, ?_⟩ |refine ⟨⟨AV.Le.of_eq ?_, rfl⟩, ?_⟩ | fail)
        exact leC (hsn.trans he).symm
      · repeat' (first |refine Fl.v rfl rfl rfl ?_ |refine Fl.nilF ?_ |refine AWP.seq ?_ |refine AWP.region ?_ |refine Fl.w rfl rfl rfl (by first | exact True.intro | omega) ?_ |refine Fl.b rfl rfl rfl rfl ?_ |(refine AWP.condD rfl ?_ ?_ <;> intro _ <;> try (exfalso; omega)) |refine AWP.block ?_ |refine AWP.skip ?_ |refine Fl.elK rfl rfl rfl rfl rfl rfl rfl rfl (by assumption) (by omega) ?_ |fail)
        have he : stepC (cntR s.vars (s.links.take i)) l = { cntR s.vars (s.links.take i) with p := (cntR s.vars (s.links.take i)).p + 1 } := by simp [stepC, hk]
        refine LoopEnd.of (i + 1) ⟨by omega, by rw [hsn]; exact hst⟩ (by omega) ?_
        refine Ent.of [] ?_ ?_ rfl rfl
        repeat' (first | exact True.intro |refine ⟨⟨AV.Le.refl _, rfl⟩, ?_⟩ |refine ⟨⟨⟨_, rfl, BLe.cells (LeL.refl _)⟩, rfl⟩, ?_⟩ |refine ⟨⟨⟨_, rfl, BLe.row rfl⟩, rfl⟩, ?_⟩ |refine ⟨⟨⟨_, rfl, BLe.row ?_⟩, rfl⟩, ?_⟩ |refine ⟨⟨⟨_, rfl, BLe.cells ?_⟩, rfl⟩, ?_⟩ |refine ⟨⟨AV.Le.int ?_, rfl⟩, ?_⟩ |refine ⟨⟨AV.Le.bool ?_, rfl⟩, ?_⟩ |refine ⟨⟨AV.Le.sl ?_, rfl⟩, ?_⟩ |refine ⟨⟨AV.Le.of_eq ?_, rfl⟩, ?_⟩ | fail)
        exact leC (hsn.trans he).symm
      · repeat' (first |refine Fl.v rfl rfl rfl ?_ |refine Fl.nilF ?_ |refine AWP.seq ?_ |refine AWP.region ?_ |refine Fl.w rfl rfl rfl (by first | exact True.intro | omega) ?_ |refine Fl.b rfl rfl rfl rfl ?_ |(refine AWP.condD rfl ?_ ?_ <;> intro _ <;> try (exfalso; omega)) |refine AWP.block ?_ |refine AWP.skip ?_ |refine Fl.elK rfl rfl rfl rfl rfl rfl rfl rfl (by assumption) (by omega) ?_ |fail)
        have he : stepC (cntR s.vars (s.links.take i)) l = { cntR s.vars (s.links.take i) with w := (cntR s.vars (s.links.take i)).w + 1 } := by simp [stepC, hk]
        refine LoopEnd.of (i + 1) ⟨by omega, by rw [hsn]; exact hst⟩ (by omega) ?_
        refine Ent.of [] ?_ ?_ rfl rfl
        repeat' (first | exact True.intro |refine ⟨⟨AV.Le.refl _, rfl⟩, ?_⟩ |refine ⟨⟨⟨_, rfl, BLe.cells (LeL.refl _)⟩, rfl⟩, ?_⟩ |refine ⟨⟨⟨_, rfl, BLe.row rfl⟩, rfl⟩, ?_⟩ |refine ⟨⟨⟨_, rfl, BLe.row ?_⟩, rfl⟩, ?_⟩ |refine ⟨⟨⟨_, rfl, BLe.cells ?_⟩, rfl⟩, ?_⟩ |refine ⟨⟨AV.Le.int ?_, rfl⟩, ?_⟩ |refine ⟨⟨AV.Le.bool ?_, rfl⟩, ?_⟩ |refine ⟨⟨AV.Le.sl ?_, rfl⟩, ?_⟩ |refine ⟨⟨AV.Le.of_eq ?_, rfl⟩, ?_⟩ | fail)
        exact leC (hsn.trans he).symm
      · repeat' (first |refine Fl.v rfl rfl rfl ?_ |refine Fl.nilF ?_ |refine AWP.seq ?_ |refine AWP.region ?_ |refine Fl.w rfl rfl rfl (by first | exact True.intro | omega) ?_ |refine Fl.b rfl rfl rfl rfl ?_ |(refine AWP.condD rfl ?_ ?_ <;> intro _ <;> try (exfalso; omega)) |refine AWP.block ?_ |refine AWP.skip ?_ |refine Fl.elK rfl rfl rfl rfl rfl rfl rfl rfl (by assumption) (by omega) ?_ |fail)
        have he : stepC (cntR s.vars (s.links.take i)) l = { cntR s.vars (s.links.take i) with u := (cntR s.vars (s.links.take i)).u + 1 } := by simp [stepC, hk]
        refine LoopEnd.of (i + 1) ⟨by omega, by rw [hsn]; exact hst⟩ (by omega) ?_
        refine Ent.of [] ?_ ?_ rfl rfl
        repeat' (first | exact True.intro |refine ⟨⟨AV.Le.refl _, rfl⟩, ?_⟩ |refine ⟨⟨⟨_, rfl, BLe.cells (LeL.refl _)⟩, rfl⟩, ?_⟩ |refine ⟨⟨⟨_, rfl, BLe.row rfl⟩, rfl⟩, ?_⟩ |refine ⟨⟨⟨_, rfl, BLe.row ?_⟩, rfl⟩, ?_⟩ |refine ⟨⟨⟨_, rfl, BLe.cells ?_⟩, rfl⟩, ?_⟩ |refine ⟨⟨AV.Le.int ?_, rfl⟩, ?_⟩ |refine ⟨⟨AV.Le.bool ?_, rfl⟩, ?_⟩ |refine ⟨⟨AV.Le.sl ?_, rfl⟩, ?_⟩ |refine ⟨⟨AV.Le.of_eq ?_, rfl⟩, ?_⟩ | fail)
        exact leC (hsn.trans he).symm
    · repeat' (first |refine Fl.v rfl rfl rfl ?_ |refine Fl.nilF ?_ |refine AWP.seq ?_ |refine AWP.region ?_ |refine Fl.b rfl rfl rfl rfl ?_ |(refine AWP.condD rfl ?_ ?_ <;> intro _ <;> try (exfalso; omega)) |refine AWP.exit ?_ |refine AWP.ret ?_ |fail)
      rw [show s.links.take i = s.links from List.take_of_length_le (by omega)]
      exact RetOk.of rfl (AV.Le.refl _)
end Go.Proofs.YtfkjhjgihbnegaaGreat
namespace Go.AL
theorem plI_le (x : Int) : 0 ≤ plI x ∧ plI x ≤ (x.natAbs : Int) ∧ opI x ≤ 0 ∧ -(x.natAbs : Int) ≤ opI x := by
  unfold plI opI
  repeat' split
  all_goals omega
theorem PS_AS (X : List Int) : ∀ l : List TZ, 0 ≤ PS X l ∧ PS X l ≤ AS X l ∧ OS X l ≤ 0 ∧ - AS X l ≤ OS X l
  | [] => by simp [PS, AS, OS, sumL]
  | t :: l => by
    have h1 := PS_AS X l
    have h2 := plI_le (tv X t)
    simp only [PS, AS, OS, List.map_cons, sumL] at h1 ⊢
    omega
theorem EvOk.of_as {X : List Int} {p : PZ} (h : Fit (AS X p.terms)) : EvOk X p := by
  have h1 := PS_AS X p.terms
  exact ⟨h.le (by omega), h.le (by omega)⟩
theorem AsL.ev {X : List Int} {l : LZ} (h : AsL X l) : EvL X l := fun p hp => EvOk.of_as (h p hp)
end Go.AL
namespace Go.Proofs.YtfkjhjgihbnegaaGreat
open Go.AL

set_option maxHeartbeats 2000000 in
theorem rHolds_ok (s : SZ) (X : List Int) (hw : WS s) (hs : OkS s) (hlen : (X.length : Int) = s.vars) (M : Nat) (hM : M ≤ 30000) (hload : ∀ l ∈ s.links, LoadL M X l) (has : ∀ l ∈ s.links, AsL X l) (b : Bool) (hb : b = true ↔ ∀ l ∈ s.links, HoL X l) : PureFn Tryz.prog 16 [aS s, .sl 2 eX X] (.tup [aB b, aN 0]) := by
  refine PureFn.of_body Tryz.func16 rfl Tryz.ntmps16 rfl rfl ?_
  have hsl := hs.len
  have hfalse : ¬ (∀ l ∈ s.links, HoL X l) → false = b := fun h => by cases b with | false => rfl | true => exact absurd (hb.1 rfl) h
  repeat' (first |refine Fl.v rfl rfl rfl ?_ |refine Fl.nilF ?_ |refine AWP.seq ?_ |refine AWP.region ?_ |refine Fl.b rfl rfl rfl rfl ?_ |refine AWP.block ?_ |fail)
  refine AWP.loop (G := Nat) (fun i => i ≤ s.links.length ∧ ∀ l ∈ s.links.take i, HoL X l) (fun i => St.of [] [(1, .sl 2 eX X), (2, .ptr 2 0), (6, aN i)] [(2, .cells [aN s.vars, .sl 3 eL s.links] 24)]) (fun i => s.links.length - i) 0 ⟨by omega, by simp⟩ ?_ ?_
  · refine Ent.of [] ?_ ?_ rfl rfl
    repeat' (first | exact True.intro |refine ⟨⟨AV.Le.refl _, rfl⟩, ?_⟩ |refine ⟨⟨⟨_, rfl, BLe.cells (LeL.refl _)⟩, rfl⟩, ?_⟩ |refine ⟨⟨⟨_, rfl, BLe.row rfl⟩, rfl⟩, ?_⟩ |refine ⟨⟨⟨_, rfl, BLe.row ?_⟩, rfl⟩, ?_⟩ |refine ⟨⟨⟨_, rfl, BLe.cells ?_⟩, rfl⟩, ?_⟩ |refine ⟨⟨AV.Le.int ?_, rfl⟩, ?_⟩ |refine ⟨⟨AV.Le.bool ?_, rfl⟩, ?_⟩ |refine ⟨⟨AV.Le.sl ?_, rfl⟩, ?_⟩ |refine ⟨⟨AV.Le.of_eq ?_, rfl⟩, ?_⟩ | fail)
  · intro i ⟨k0, k1⟩
    by_cases hi : i < s.links.length
    · obtain ⟨l, hl⟩ : ∃ l, s.links[i]? = some l := ⟨_, List.getElem?_eq_getElem hi⟩
      have hlm := List.mem_of_getElem? hl
      have hL := hs.links l hlm
      rw [← hlen] at hL
      have hv := rvalues_ok l X (hw l hlm) hL M hM (hload l hlm) _ (fun _ => rfl) (fun h => absurd (has l hlm) h)
      have hall : ¬ HoL X l → false = b := fun h => hfalse fun k => h (k l hlm)
      have hup : HoL X l → ∀ q ∈ s.links.take (i + 1), HoL X q := all_take_succ hl k1
      have hvf := lvals_fit (has l hlm).ev
      have hvl : ((lvals X l).length : Int) = needI l.kind := by rw [← hL.len]; simp [lvals]
      have hho : HoL X l ↔ holdP l.kind (lvals X l) := Iff.rfl
      revert hv hvf hvl hho
      generalize lvals X l = vs
      intro hv hvf hvl hho
      rcases kinds hL.kind with hk | hk | hk | hk
      · rw [hk] at hvl
        have hvl : vs.length = 1 := by have : (vs.length : Int) = 1 := hvl; omega
        obtain ⟨x, rfl⟩ : ∃ x, vs = [x] := by
          match vs, hvl with
          | [a], _ => exact ⟨a, rfl⟩
        have g0 : [x][(0 : Int).toNat]? = some x := rfl
        rw [hk] at hho
        have hho : HoL X l ↔ x = 0 := hho
        have hz := rZeroX_ok x
        by_cases h : x = 0
        · rw [decide_eq_true h] at hz
          repeat' (first |refine Fl.v rfl rfl rfl ?_ |refine Fl.nilF ?_ |refine AWP.seq ?_ |refine AWP.region ?_ |(refine AWP.condD rfl ?_ ?_ <;> intro _ <;> try (exfalso; omega)) |refine AWP.block ?_ |refine AWP.skip ?_ |refine Fl.elK rfl rfl rfl rfl rfl rfl rfl rfl (by assumption) (by omega) ?_ |fail)
          refine Fl.call rfl (hv) rfl rfl rfl (LeL.refl _) ?_
          repeat' (first |refine Fl.v rfl rfl rfl ?_ |refine Fl.nilF ?_ |refine AWP.seq ?_ |refine AWP.region ?_ |refine AWP.condF rfl ?_ |(refine AWP.condD rfl ?_ ?_ <;> intro _ <;> try (exfalso; omega)) |refine AWP.block ?_ |refine AWP.skip ?_ |refine Fl.elK rfl rfl rfl rfl rfl rfl rfl rfl (by assumption) (by omega) ?_ |fail)
          refine Fl.call rfl (hz) rfl rfl rfl (LeL.refl _) ?_
          repeat' (first |refine Fl.v rfl rfl rfl ?_ |refine Fl.nilF ?_ |refine AWP.seq ?_ |refine AWP.region ?_ |refine Fl.w rfl rfl rfl (by first | exact True.intro | omega) ?_ |refine AWP.condF rfl ?_ |refine AWP.skip ?_ |fail)
          refine LoopEnd.of (i + 1) ⟨by omega, hup (hho.2 h)⟩ (by omega) ?_
          refine Ent.of [] ?_ ?_ rfl rfl
          repeat' (first | exact True.intro |refine ⟨⟨AV.Le.refl _, rfl⟩, ?_⟩ |refine ⟨⟨⟨_, rfl, BLe.cells (LeL.refl _)⟩, rfl⟩, ?_⟩ |refine ⟨⟨⟨_, rfl, BLe.row rfl⟩, rfl⟩, ?_⟩ |refine ⟨⟨⟨_, rfl, BLe.row ?_⟩, rfl⟩, ?_⟩ |refine ⟨⟨⟨_, rfl, BLe.cells ?_⟩, rfl⟩, ?_⟩ |refine ⟨⟨AV.Le.int ?_, rfl⟩, ?_⟩ |refine ⟨⟨AV.Le.bool ?_, rfl⟩, ?_⟩ |refine ⟨⟨AV.Le.sl ?_, rfl⟩, ?_⟩ |refine ⟨⟨AV.Le.of_eq ?_, rfl⟩, ?_⟩ | fail)
        · rw [decide_eq_false h] at hz
          repeat' (first |refine Fl.v rfl rfl rfl ?_ |refine Fl.nilF ?_ |refine AWP.seq ?_ |refine AWP.region ?_ |(refine AWP.condD rfl ?_ ?_ <;> intro _ <;> try (exfalso; omega)) |refine AWP.block ?_ |refine AWP.skip ?_ |refine Fl.elK rfl rfl rfl rfl rfl rfl rfl rfl (by assumption) (by omega) ?_ |fail)
          refine Fl.call rfl (hv) rfl rfl rfl (LeL.refl _) ?_
          repeat' (first |refine Fl.v rfl rfl rfl ?_ |refine Fl.nilF ?_ |refine AWP.seq ?_ |refine AWP.region ?_ |refine AWP.condF rfl ?_ |(refine AWP.condD rfl ?_ ?_ <;> intro _ <;> try (exfalso; omega)) |refine AWP.block ?_ |refine AWP.skip ?_ |refine Fl.elK rfl rfl rfl rfl rfl rfl rfl rfl (by assumption) (by omega) ?_ |fail)
          refine Fl.call rfl (hz) rfl rfl rfl (LeL.refl _) ?_
          repeat' (first |refine Fl.v rfl rfl rfl ?_ |refine Fl.nilF ?_ |refine AWP.seq ?_ |refine AWP.region ?_ |refine AWP.condT rfl ?_ |refine AWP.ret ?_ |fail)
          exact RetOk.of rfl (AV.Le.tup (LeL.cons (AV.Le.bool (hall fun k => h (hho.1 k))) (LeL.refl _)))
      · rw [hk] at hvl
        have hvl : vs.length = 3 := by have : (vs.length : Int) = 3 := hvl; omega
        obtain ⟨x, y, z, rfl⟩ : ∃ x y z, vs = [x, y, z] := by
          match vs, hvl with
          | [a, b, c], _ => exact ⟨a, b, c, rfl⟩
        have g0 : [x, y, z][(0 : Int).toNat]? = some x := rfl
        have g1 : [x, y, z][(1 : Int).toNat]? = some y := rfl
        have g2 : [x, y, z][(2 : Int).toNat]? = some z := rfl
        rw [hk] at hho
        have hho : HoL X l ↔ 2 ≤ x ∧ 1 ≤ y ∧ psiN x y.toNat = z := hho
        by_cases h : HoL X l
        · have hz := rIsPsi_ok x y z (hvf x (by simp)) (hvf y (by simp)) (hvf z (by simp)) true ⟨fun _ => hho.1 h, fun _ => rfl⟩
          repeat' (first |refine Fl.v rfl rfl rfl ?_ |refine Fl.nilF ?_ |refine AWP.seq ?_ |refine AWP.region ?_ |(refine AWP.condD rfl ?_ ?_ <;> intro _ <;> try (exfalso; omega)) |refine AWP.block ?_ |refine AWP.skip ?_ |refine Fl.elK rfl rfl rfl rfl rfl rfl rfl rfl (by assumption) (by omega) ?_ |fail)
          refine Fl.call rfl (hv) rfl rfl rfl (LeL.refl _) ?_
          repeat' (first |refine Fl.v rfl rfl rfl ?_ |refine Fl.nilF ?_ |refine AWP.seq ?_ |refine AWP.region ?_ |refine AWP.condF rfl ?_ |(refine AWP.condD rfl ?_ ?_ <;> intro _ <;> try (exfalso; omega)) |refine AWP.block ?_ |refine AWP.skip ?_ |refine Fl.elK rfl rfl rfl rfl rfl rfl rfl rfl (by assumption) (by omega) ?_ |fail)
          refine Fl.call rfl (hz) rfl rfl rfl (LeL.refl _) ?_
          repeat' (first |refine Fl.v rfl rfl rfl ?_ |refine Fl.nilF ?_ |refine Fl.nil (fun _ => by kernel_rfl) ?_ |refine AWP.seq ?_ |refine AWP.region ?_ |refine Fl.w rfl rfl rfl (by first | exact True.intro | omega) ?_ |refine AWP.condF rfl ?_ |refine AWP.skip ?_ |fail)
          refine LoopEnd.of (i + 1) ⟨by omega, hup h⟩ (by omega) ?_
          refine Ent.of [] ?_ ?_ rfl rfl
          repeat' (first | exact True.intro |refine ⟨⟨AV.Le.refl _, rfl⟩, ?_⟩ |refine ⟨⟨⟨_, rfl, BLe.cells (LeL.refl _)⟩, rfl⟩, ?_⟩ |refine ⟨⟨⟨_, rfl, BLe.row rfl⟩, rfl⟩, ?_⟩ |refine ⟨⟨⟨_, rfl, BLe.row ?_⟩, rfl⟩, ?_⟩ |refine ⟨⟨⟨_, rfl, BLe.cells ?_⟩, rfl⟩, ?_⟩ |refine ⟨⟨AV.Le.int ?_, rfl⟩, ?_⟩ |refine ⟨⟨AV.Le.bool ?_, rfl⟩, ?_⟩ |refine ⟨⟨AV.Le.sl ?_, rfl⟩, ?_⟩ |refine ⟨⟨AV.Le.of_eq ?_, rfl⟩, ?_⟩ | fail)
        · have hz := rIsPsi_ok x y z (hvf x (by simp)) (hvf y (by simp)) (hvf z (by simp)) false ⟨fun k => (by cases k), fun k => absurd (hho.2 k) h⟩
          repeat' (first |refine Fl.v rfl rfl rfl ?_ |refine Fl.nilF ?_ |refine AWP.seq ?_ |refine AWP.region ?_ |(refine AWP.condD rfl ?_ ?_ <;> intro _ <;> try (exfalso; omega)) |refine AWP.block ?_ |refine AWP.skip ?_ |refine Fl.elK rfl rfl rfl rfl rfl rfl rfl rfl (by assumption) (by omega) ?_ |fail)
          refine Fl.call rfl (hv) rfl rfl rfl (LeL.refl _) ?_
          repeat' (first |refine Fl.v rfl rfl rfl ?_ |refine Fl.nilF ?_ |refine AWP.seq ?_ |refine AWP.region ?_ |refine AWP.condF rfl ?_ |(refine AWP.condD rfl ?_ ?_ <;> intro _ <;> try (exfalso; omega)) |refine AWP.block ?_ |refine AWP.skip ?_ |refine Fl.elK rfl rfl rfl rfl rfl rfl rfl rfl (by assumption) (by omega) ?_ |fail)
          refine Fl.call rfl (hz) rfl rfl rfl (LeL.refl _) ?_
          repeat' (first |refine Fl.v rfl rfl rfl ?_ |refine Fl.nilF ?_ |refine Fl.nil (fun _ => by kernel_rfl) ?_ |refine AWP.seq ?_ |refine AWP.region ?_ |refine AWP.condT rfl ?_ |refine AWP.ret ?_ |fail)
          exact RetOk.of rfl (AV.Le.tup (LeL.cons (AV.Le.bool (hall h)) (LeL.refl _)))
      · rw [hk] at hvl
        have hvl : vs.length = 3 := by have : (vs.length : Int) = 3 := hvl; omega
        obtain ⟨x, y, z, rfl⟩ : ∃ x y z, vs = [x, y, z] := by
          match vs, hvl with
          | [a, b, c], _ => exact ⟨a, b, c, rfl⟩
        have g0 : [x, y, z][(0 : Int).toNat]? = some x := rfl
        have g1 : [x, y, z][(1 : Int).toNat]? = some y := rfl
        have g2 : [x, y, z][(2 : Int).toNat]? = some z := rfl
        rw [hk] at hho
        have hho : HoL X l ↔ 1 ≤ x ∧ 0 ≤ y ∧ x ^ y.toNat = z := hho
        by_cases h : HoL X l
        · have hz := rIsPower_ok x y z (hvf x (by simp)) (hvf y (by simp)) (hvf z (by simp)) true ⟨fun _ => hho.1 h, fun _ => rfl⟩
          repeat' (first |refine Fl.v rfl rfl rfl ?_ |refine Fl.nilF ?_ |refine AWP.seq ?_ |refine AWP.region ?_ |(refine AWP.condD rfl ?_ ?_ <;> intro _ <;> try (exfalso; omega)) |refine AWP.block ?_ |refine AWP.skip ?_ |refine Fl.elK rfl rfl rfl rfl rfl rfl rfl rfl (by assumption) (by omega) ?_ |fail)
          refine Fl.call rfl (hv) rfl rfl rfl (LeL.refl _) ?_
          repeat' (first |refine Fl.v rfl rfl rfl ?_ |refine Fl.nilF ?_ |refine AWP.seq ?_ |refine AWP.region ?_ |refine AWP.condF rfl ?_ |(refine AWP.condD rfl ?_ ?_ <;> intro _ <;> try (exfalso; omega)) |refine AWP.block ?_ |refine AWP.skip ?_ |refine Fl.elK rfl rfl rfl rfl rfl rfl rfl rfl (by assumption) (by omega) ?_ |fail)
          refine Fl.call rfl (hz) rfl rfl rfl (LeL.refl _) ?_
          repeat' (first |refine Fl.v rfl rfl rfl ?_ |refine Fl.nilF ?_ |refine Fl.nil (fun _ => by kernel_rfl) ?_ |refine AWP.seq ?_ |refine AWP.region ?_ |refine Fl.w rfl rfl rfl (by first | exact True.intro | omega) ?_ |refine AWP.condF rfl ?_ |refine AWP.skip ?_ |fail)
          refine LoopEnd.of (i + 1) ⟨by omega, hup h⟩ (by omega) ?_
          refine Ent.of [] ?_ ?_ rfl rfl
          repeat' (first | exact True.intro |refine ⟨⟨AV.Le.refl _, rfl⟩, ?_⟩ |refine ⟨⟨⟨_, rfl, BLe.cells (LeL.refl _)⟩, rfl⟩, ?_⟩ |refine ⟨⟨⟨_, rfl, BLe.row rfl⟩, rfl⟩, ?_⟩ |refine ⟨⟨⟨_, rfl, BLe.row ?_⟩, rfl⟩, ?_⟩ |refine ⟨⟨⟨_, rfl, BLe.cells ?_⟩, rfl⟩, ?_⟩ |refine ⟨⟨AV.Le.int ?_, rfl⟩, ?_⟩ |refine ⟨⟨AV.Le.bool ?_, rfl⟩, ?_⟩ |refine ⟨⟨AV.Le.sl ?_, rfl⟩, ?_⟩ |refine ⟨⟨AV.Le.of_eq ?_, rfl⟩, ?_⟩ | fail)
        · have hz := rIsPower_ok x y z (hvf x (by simp)) (hvf y (by simp)) (hvf z (by simp)) false ⟨fun k => (by cases k), fun k => absurd (hho.2 k) h⟩
          repeat' (first |refine Fl.v rfl rfl rfl ?_ |refine Fl.nilF ?_ |refine AWP.seq ?_ |refine AWP.region ?_ |(refine AWP.condD rfl ?_ ?_ <;> intro _ <;> try (exfalso; omega)) |refine AWP.block ?_ |refine AWP.skip ?_ |refine Fl.elK rfl rfl rfl rfl rfl rfl rfl rfl (by assumption) (by omega) ?_ |fail)
          refine Fl.call rfl (hv) rfl rfl rfl (LeL.refl _) ?_
          repeat' (first |refine Fl.v rfl rfl rfl ?_ |refine Fl.nilF ?_ |refine AWP.seq ?_ |refine AWP.region ?_ |refine AWP.condF rfl ?_ |(refine AWP.condD rfl ?_ ?_ <;> intro _ <;> try (exfalso; omega)) |refine AWP.block ?_ |refine AWP.skip ?_ |refine Fl.elK rfl rfl rfl rfl rfl rfl rfl rfl (by assumption) (by omega) ?_ |fail)
          refine Fl.call rfl (hz) rfl rfl rfl (LeL.refl _) ?_
          repeat' (first |refine Fl.v rfl rfl rfl ?_ |refine Fl.nilF ?_ |refine Fl.nil (fun _ => by kernel_rfl) ?_ |refine AWP.seq ?_ |refine AWP.region ?_ |refine AWP.condT rfl ?_ |refine AWP.ret ?_ |fail)
          exact RetOk.of rfl (AV.Le.tup (LeL.cons (AV.Le.bool (hall h)) (LeL.refl _)))
      · rw [hk] at hvl
        have hvl : vs.length = 2 := by have : (vs.length : Int) = 2 := hvl; omega
        obtain ⟨x, y, rfl⟩ : ∃ x y, vs = [x, y] := by
          match vs, hvl with
          | [a, b], _ => exact ⟨a, b, rfl⟩
        have g0 : [x, y][(0 : Int).toNat]? = some x := rfl
        have g1 : [x, y][(1 : Int).toNat]? = some y := rfl
        rw [hk] at hho
        have hho : HoL X l ↔ 0 ≤ x ∧ 0 ≤ y ∧ undI x y := hho
        by_cases h0 : x < 0
        · repeat' (first |refine Fl.v rfl rfl rfl ?_ |refine Fl.nilF ?_ |refine AWP.seq ?_ |refine AWP.region ?_ |(refine AWP.condD rfl ?_ ?_ <;> intro _ <;> try (exfalso; omega)) |refine AWP.block ?_ |refine AWP.skip ?_ |refine Fl.elK rfl rfl rfl rfl rfl rfl rfl rfl (by assumption) (by omega) ?_ |fail)
          refine Fl.call rfl (hv) rfl rfl rfl (LeL.refl _) ?_
          repeat' (first |refine Fl.v rfl rfl rfl ?_ |refine Fl.nilF ?_ |refine Fl.nil (fun _ => by kernel_rfl) ?_ |refine AWP.seq ?_ |refine AWP.region ?_ |refine Fl.skip rfl rfl ?_ |refine AWP.condT rfl ?_ |refine AWP.condF rfl ?_ |(refine AWP.condD rfl ?_ ?_ <;> intro _ <;> try (exfalso; omega)) |refine AWP.block ?_ |refine AWP.skip ?_ |refine AWP.ret ?_ |refine Fl.elK rfl rfl rfl rfl rfl rfl rfl rfl (by assumption) (by omega) ?_ |(refine Fl.splitN rfl rfl ?_ ?_ <;> intro _ <;> try (exfalso; omega)) |fail)
          exact RetOk.of rfl (AV.Le.tup (LeL.cons (AV.Le.bool (hall fun k => by have := (hho.1 k).1; omega)) (LeL.refl _)))
        · by_cases h1 : y < 0
          · repeat' (first |refine Fl.v rfl rfl rfl ?_ |refine Fl.nilF ?_ |refine AWP.seq ?_ |refine AWP.region ?_ |(refine AWP.condD rfl ?_ ?_ <;> intro _ <;> try (exfalso; omega)) |refine AWP.block ?_ |refine AWP.skip ?_ |refine Fl.elK rfl rfl rfl rfl rfl rfl rfl rfl (by assumption) (by omega) ?_ |fail)
            refine Fl.call rfl (hv) rfl rfl rfl (LeL.refl _) ?_
            repeat' (first |refine Fl.v rfl rfl rfl ?_ |refine Fl.nilF ?_ |refine Fl.nil (fun _ => by kernel_rfl) ?_ |refine AWP.seq ?_ |refine AWP.region ?_ |refine Fl.skip rfl rfl ?_ |refine AWP.condT rfl ?_ |refine AWP.condF rfl ?_ |(refine AWP.condD rfl ?_ ?_ <;> intro _ <;> try (exfalso; omega)) |refine AWP.block ?_ |refine AWP.skip ?_ |refine AWP.ret ?_ |refine Fl.elK rfl rfl rfl rfl rfl rfl rfl rfl (by assumption) (by omega) ?_ |(refine Fl.splitN rfl rfl ?_ ?_ <;> intro _ <;> try (exfalso; omega)) |fail)
            exact RetOk.of rfl (AV.Le.tup (LeL.cons (AV.Le.bool (hall fun k => by have := (hho.1 k).2.1; omega)) (LeL.refl _)))
          · have hz := rUnder_ok x y (hvf x (by simp)) (hvf y (by simp)) (by omega) (by omega)
            by_cases h : undI x y
            · rw [decide_eq_true h] at hz
              repeat' (first |refine Fl.v rfl rfl rfl ?_ |refine Fl.nilF ?_ |refine AWP.seq ?_ |refine AWP.region ?_ |(refine AWP.condD rfl ?_ ?_ <;> intro _ <;> try (exfalso; omega)) |refine AWP.block ?_ |refine AWP.skip ?_ |refine Fl.elK rfl rfl rfl rfl rfl rfl rfl rfl (by assumption) (by omega) ?_ |fail)
              refine Fl.call rfl (hv) rfl rfl rfl (LeL.refl _) ?_
              repeat' (first |refine Fl.v rfl rfl rfl ?_ |refine Fl.nilF ?_ |refine AWP.seq ?_ |refine AWP.region ?_ |refine AWP.condF rfl ?_ |(refine AWP.condD rfl ?_ ?_ <;> intro _ <;> try (exfalso; omega)) |refine AWP.block ?_ |refine AWP.skip ?_ |refine Fl.elK rfl rfl rfl rfl rfl rfl rfl rfl (by assumption) (by omega) ?_ |(refine Fl.splitN rfl rfl ?_ ?_ <;> intro _ <;> try (exfalso; omega)) |fail)
              refine Fl.call rfl (hz) rfl rfl rfl (LeL.refl _) ?_
              repeat' (first |refine Fl.v rfl rfl rfl ?_ |refine Fl.nilF ?_ |refine Fl.nil (fun _ => by kernel_rfl) ?_ |refine AWP.seq ?_ |refine AWP.region ?_ |refine Fl.w rfl rfl rfl (by first | exact True.intro | omega) ?_ |refine AWP.condF rfl ?_ |refine AWP.skip ?_ |fail)
              refine LoopEnd.of (i + 1) ⟨by omega, hup (hho.2 ⟨by omega, by omega, h⟩)⟩ (by omega) ?_
              refine Ent.of [] ?_ ?_ rfl rfl
              repeat' (first | exact True.intro |refine ⟨⟨AV.Le.refl _, rfl⟩, ?_⟩ |refine ⟨⟨⟨_, rfl, BLe.cells (LeL.refl _)⟩, rfl⟩, ?_⟩ |refine ⟨⟨⟨_, rfl, BLe.row rfl⟩, rfl⟩, ?_⟩ |refine ⟨⟨⟨_, rfl, BLe.row ?_⟩, rfl⟩, ?_⟩ |refine ⟨⟨⟨_, rfl, BLe.cells ?_⟩, rfl⟩, ?_⟩ |refine ⟨⟨AV.Le.int ?_, rfl⟩, ?_⟩ |refine ⟨⟨AV.Le.bool ?_, rfl⟩, ?_⟩ |refine ⟨⟨AV.Le.sl ?_, rfl⟩, ?_⟩ |refine ⟨⟨AV.Le.of_eq ?_, rfl⟩, ?_⟩ | fail)
            · rw [decide_eq_false h] at hz
              repeat' (first |refine Fl.v rfl rfl rfl ?_ |refine Fl.nilF ?_ |refine AWP.seq ?_ |refine AWP.region ?_ |(refine AWP.condD rfl ?_ ?_ <;> intro _ <;> try (exfalso; omega)) |refine AWP.block ?_ |refine AWP.skip ?_ |refine Fl.elK rfl rfl rfl rfl rfl rfl rfl rfl (by assumption) (by omega) ?_ |fail)
              refine Fl.call rfl (hv) rfl rfl rfl (LeL.refl _) ?_
              repeat' (first |refine Fl.v rfl rfl rfl ?_ |refine Fl.nilF ?_ |refine AWP.seq ?_ |refine AWP.region ?_ |refine AWP.condF rfl ?_ |(refine AWP.condD rfl ?_ ?_ <;> intro _ <;> try (exfalso; omega)) |refine AWP.block ?_ |refine AWP.skip ?_ |refine Fl.elK rfl rfl rfl rfl rfl rfl rfl rfl (by assumption) (by omega) ?_ |(refine Fl.splitN rfl rfl ?_ ?_ <;> intro _ <;> try (exfalso; omega)) |fail)
              refine Fl.call rfl (hz) rfl rfl rfl (LeL.refl _) ?_
              repeat' (first |refine Fl.v rfl rfl rfl ?_ |refine Fl.nilF ?_ |refine Fl.nil (fun _ => by kernel_rfl) ?_ |refine AWP.seq ?_ |refine AWP.region ?_ |refine AWP.condT rfl ?_ |refine AWP.ret ?_ |fail)
              exact RetOk.of rfl (AV.Le.tup (LeL.cons (AV.Le.bool (hall fun k => h (hho.1 k).2.2)) (LeL.refl _)))
    · repeat' (first |refine Fl.v rfl rfl rfl ?_ |refine Fl.nilF ?_ |refine AWP.seq ?_ |refine AWP.region ?_ |(refine AWP.condD rfl ?_ ?_ <;> intro _ <;> try (exfalso; omega)) |refine AWP.exit ?_ |refine AWP.ret ?_ |fail)
      rw [List.take_of_length_le (by omega)] at k1
      exact RetOk.of rfl (AV.Le.tup (LeL.cons (AV.Le.bool (hb.2 k1).symm) (LeL.refl _)))
end Go.Proofs.YtfkjhjgihbnegaaGreat
namespace Go.AL
theorem w64_id {m : Int} (h0 : -9223372036854775808 ≤ m) (h1 : m ≤ 9223372036854775807) : w64 m = m := by unfold w64; omega
theorem loadE_le {C : Nat} : ∀ {X E : List Int}, (∀ x ∈ X, ∀ e ∈ E, e.toNat * lenI x ≤ C) → loadE X E ≤ E.length * C
  | [], E, _ => by simp [loadE]
  | _ :: _, [], _ => by simp [loadE]
  | x :: X, e :: E, h => by
    have h1 := loadE_le (X := X) (E := E) fun y hy d hd => h y (by simp [hy]) d (by simp [hd])
    have h2 := h x (by simp) e (by simp)
    simp only [loadE, List.length_cons, Nat.succ_mul]
    omega
theorem ldE_eq {X e : List Int} {n : Int} {L : Int} (he : EOk e) (hl : e.length = X.length) (hL : ((loadE X e : Nat) : Int) = L) (hL2 : L ≤ 1000000000) (hn0 : 0 ≤ n) (hn : n ≤ 1000000000) : ∀ k, k ≤ e.length → ldE e (X.map zOf) n k = n + (loadE (X.take k) (e.take k) : Nat)
  | 0, _ => by simp [ldE, loadE]
  | k + 1, hk => by
    have h1 := ldE_eq he hl hL hL2 hn0 hn k (by omega)
    obtain ⟨y, hy⟩ : ∃ y, e[k]? = some y := ⟨_, List.getElem?_eq_getElem (by omega)⟩
    obtain ⟨x, hx⟩ : ∃ x, X[k]? = some x := ⟨_, List.getElem?_eq_getElem (by omega)⟩
    have hz : (X.map zOf)[k]? = some (zOf x) := by rw [List.getElem?_map, hx]; rfl
    have hyb := (he.get hy).1
    have hs := loadE_snoc hx hy
    have ht := loadE_take X e (k + 1)
    obtain ⟨w, hw⟩ : ∃ w : Nat, w = y.toNat * lenI x := ⟨_, rfl⟩
    have hcast : ((w : Nat) : Int) = y * (lenI x : Nat) := by
      rw [hw, Int.natCast_mul, show ((y.toNat : Nat) : Int) = y by omega]
    have hstep : ldE e (X.map zOf) n (k + 1) = w64 (ldE e (X.map zOf) n k + w64 (y * (lenI x : Nat))) := by
      simp only [ldE, hy, hz]; rfl
    rw [← hw] at hs
    obtain ⟨p, hp⟩ : ∃ p : Nat, p = loadE (X.take k) (e.take k) := ⟨_, rfl⟩
    obtain ⟨q, hq⟩ : ∃ q : Nat, q = loadE (X.take (k + 1)) (e.take (k + 1)) := ⟨_, rfl⟩
    obtain ⟨r, hr⟩ : ∃ r : Nat, r = loadE X e := ⟨_, rfl⟩
    rw [← hp, ← hq] at hs
    rw [← hq, ← hr] at ht
    rw [← hr] at hL
    rw [hstep, ← hcast, h1, ← hp, ← hq, hs]
    clear hstep h1 hp hq hr hcast hw hz hx hy hyb he hl hk
    rw [w64_id (m := (w : Int)) (by omega) (by omega), w64_id (by omega) (by omega)]
    omega
theorem ldT_eq {X : List Int} {t : TZ} {vars : Int} (h : OkT vars t) (hX : ∀ x ∈ X, Fit x) (hl : (X.length : Int) = vars) (h32 : vars ≤ 32) : ldT (X.map zOf) t = t.c.w.length + 1 + (loadE X t.e : Nat) := by
  have h1 := h.len
  have h2 := h.coef.1
  have hb := loadE_le (X := X) (E := t.e) (C := 491520) fun x hx e he => by
    have g1 := h.exps e he
    have g2 : lenI x ≤ 4096 := (hX x hx).len
    exact Nat.le_trans (Nat.mul_le_mul (show e.toNat ≤ 120 by omega) g2) (Nat.le_of_ble_eq_true rfl)
  have hb2 : loadE X t.e ≤ 15728640 := Nat.le_trans hb (Nat.le_trans (Nat.mul_le_mul_right 491520 (show t.e.length ≤ 32 by omega)) (Nat.le_of_ble_eq_true rfl))
  have h3 := ldE_eq (X := X) (n := t.c.w.length + 1) h.exps (by clear hb hb2; omega) rfl (by clear hb; omega) (by clear hb; omega) (by clear hb; omega) t.e.length (Nat.le_refl _)
  rw [ldT, h3, List.take_length, List.take_of_length_le (by omega)]
theorem mxI_ge (a b : Int) : a ≤ mxI a b ∧ b ≤ mxI a b := by unfold mxI; split <;> omega
theorem foldl_up {α : Type} {F : Int → α → Int} (hF : ∀ m x, m ≤ F m x) : ∀ (l : List α) (m : Int), m ≤ l.foldl F m ∧ ∀ x ∈ l, ∃ m', F m' x ≤ l.foldl F m
  | [], m => ⟨Int.le_refl _, by simp⟩
  | x :: l, m => by
    obtain ⟨h1, h2⟩ := foldl_up hF l (F m x)
    refine ⟨Int.le_trans (hF m x) h1, fun y hy => ?_⟩
    rcases List.mem_cons.1 hy with rfl | hy
    · exact ⟨m, h1⟩
    · exact h2 y hy
theorem atZ_map (X vs : List Int) : atZ (X.map zOf) vs = (atOf X vs).map zOf := by
  unfold atZ atOf
  rw [List.map_map]
  refine List.map_congr_left fun v _ => ?_
  show (X.map zOf).getD v.toNat ⟨false, []⟩ = zOf (X.getD v.toNat 0)
  rw [List.getD_eq_getElem?_getD, List.getD_eq_getElem?_getD, List.getElem?_map]
  cases X[v.toNat]? with
  | some x => rfl
  | none =>
    show (⟨false, []⟩ : Z) = ⟨decide ((0 : Int) < 0), toW ((0 : Int).natAbs)⟩
    rw [show (((0 : Int).natAbs : Nat) : Int) = 0 from rfl, toW_zero]; rfl
theorem load_of {s : SZ} {X : List Int} {M : Nat} (hw : WS s) (hs : OkS s) (hX : ∀ x ∈ X, Fit x) (h : ldS (X.map zOf) s.links ≤ M) : ∀ l ∈ s.links, LoadL M X l := fun l hl p hp t ht => by
  have hL := hs.links l hl
  have hP := hL.polys p hp
  have hvl := hL.vlen
  have hT := hP.2.terms t ht
  have hpm : ∀ (l : LZ) (m : Int) (p : PZ), m ≤ mxI m (ldP (atZ (X.map zOf) l.vars) p.terms) := fun l m p => (mxI_ge _ _).1
  have h0 : ∀ (m : Int) (l : LZ), m ≤ ldL (X.map zOf) l m l.polys := fun m l => (foldl_up (hpm l) l.polys m).1
  obtain ⟨m1, h1⟩ := (foldl_up h0 s.links 0).2 l hl
  obtain ⟨m2, h2⟩ := (foldl_up (hpm l) l.polys m1).2 p hp
  have h3 := (mxI_ge m2 (ldP (atZ (X.map zOf) l.vars) p.terms)).2
  have hpt : ∀ (m : Int) (t : TZ), m ≤ mxI m (ldT (atZ (X.map zOf) l.vars) t) := fun m t => (mxI_ge _ _).1
  obtain ⟨m3, h4⟩ := (foldl_up hpt p.terms 0).2 t ht
  have h5 := (mxI_ge m3 (ldT (atZ (X.map zOf) l.vars) t)).2
  have h6 : ldT (atZ (X.map zOf) l.vars) t ≤ M := by
    have g1 : ldP (atZ (X.map zOf) l.vars) p.terms ≤ ldL (X.map zOf) l m1 l.polys := Int.le_trans h3 h2
    have g2 : ldL (X.map zOf) l m1 l.polys ≤ ldS (X.map zOf) s.links := h1
    have g3 : ldT (atZ (X.map zOf) l.vars) t ≤ ldP (atZ (X.map zOf) l.vars) p.terms := Int.le_trans h5 h4
    omega
  rw [atZ_map, ldT_eq (X := atOf X l.vars) hT (atOf_fit hX _) (by rw [hP.1]; simp [atOf]) hP.2.v1] at h6
  have hc := (okZ_eq (hw l hl p hp t ht) hT.coef).1
  have hlen : lenI (zval t.c) = t.c.w.length := by
    conv => rhs; rw [hc]
    rfl
  omega
theorem as_of_load {X : List Int} {l : LZ} {vars : Int} {M : Nat} (hM : M ≤ 4000) (hL : OkL vars l) (h : LoadL M X l) : AsL X l := fun p hp => by
  have hP := (hL.polys p hp).2
  have h1 := (AS_len (X := atOf X l.vars) (M := M) hP.len (fun t ht => Nat.le_trans (lenI_prodE _ _ _) (h p hp t ht)) p.terms.length).1
  rw [List.take_length] at h1
  rw [Fit.iff]
  unfold lenI at h1
  omega
end Go.AL
namespace Go.AL
/-- what is counted by the wider test -/
def wnT (n : Int) (t : TZ) : Int := if n ≤ 300000 then w64 (w64 (n + t.e.length) + t.c.w.length) else n
def wnP (n : Int) (p : PZ) : Int := if n ≤ 300000 then p.terms.foldl wnT (w64 (n + p.terms.length)) else n
def wnL0 (n : Int) (l : LZ) : Int := w64 (w64 (n + l.vars.length) + l.polys.length)
def wnL (n : Int) (l : LZ) : Int := if n ≤ 300000 then l.polys.foldl wnP (wnL0 n l) else n
def mnI (a b : Int) : Int := if b < a then b else a
def wideB (b : Bool) (s : SZ) (zs : List Z) (most : Int) : Bool :=
  if lightB b s zs most = true then true else if 6000 < s.links.length then false else if 20100 < zs.length then false else if 300000 < s.links.foldl wnL 0 then false else if b = false then true else if (zs.length : Int) = s.vars then decide (ldS zs s.links ≤ mnI most 60) else true
theorem wide_stuck {α : Type} {f : Int → α → Int} (hf : ∀ n x, 300000 < n → f n x = n) : ∀ (l : List α) (n : Int), 300000 < n → l.foldl f n = n
  | [], _, _ => rfl
  | x :: l, n, h => by rw [List.foldl_cons, hf n x h]; exact wide_stuck hf l n h
theorem wide_stop {α : Type} {f : Int → α → Int} (hf : ∀ n x, 300000 < n → f n x = n) (l : List α) (n : Int) (i : Nat) (h : 300000 < (l.take i).foldl f n) : l.foldl f n = (l.take i).foldl f n := by
  rw [show l.foldl f n = (l.take i ++ l.drop i).foldl f n by rw [List.take_append_drop], List.foldl_append]
  exact wide_stuck hf _ _ h
theorem wnT_stuck (n : Int) (t : TZ) (h : 300000 < n) : wnT n t = n := if_neg (by omega)
theorem wnP_stuck (n : Int) (t : PZ) (h : 300000 < n) : wnP n t = n := if_neg (by omega)
theorem wnL_stuck (n : Int) (t : LZ) (h : 300000 < n) : wnL n t = n := if_neg (by omega)
theorem wnT_go {n : Int} {t : TZ} (h : n ≤ 300000) : wnT n t = w64 (w64 (n + t.e.length) + t.c.w.length) := if_pos h
theorem wnP_go {n : Int} {p : PZ} (h : n ≤ 300000) : wnP n p = p.terms.foldl wnT (w64 (n + p.terms.length)) := if_pos h
theorem wnL_go {n : Int} {l : LZ} (h : n ≤ 300000) : wnL n l = l.polys.foldl wnP (wnL0 n l) := if_pos h
theorem wideB_len {b : Bool} {s : SZ} {zs : List Z} {most : Int} (h : wideB b s zs most = true) : zs.length ≤ 20100 := by
  unfold wideB at h
  split at h
  · rename_i h1; exact (lightB_len h1).2
  · split at h
    · cases h
    · split at h
      · cases h
      · omega
theorem lightB_load {s : SZ} {zs : List Z} {most : Int} (h : lightB true s zs most = true) (hv : (zs.length : Int) = s.vars) : ldS zs s.links ≤ most := by
  unfold lightB at h
  split at h
  · cases h
  split at h
  · cases h
  split at h
  · cases h
  have h : decide (ldS zs s.links ≤ most) = true := by simpa [hv] using h
  exact of_decide_eq_true h
theorem wideB_load {s : SZ} {zs : List Z} {most : Int} (h : wideB true s zs most = true) (hv : (zs.length : Int) = s.vars) : ldS zs s.links ≤ most := by
  unfold wideB at h
  split at h
  · rename_i h1; exact lightB_load h1 hv
  split at h
  · cases h
  split at h
  · cases h
  split at h
  · cases h
  have h : decide (ldS zs s.links ≤ mnI most 60) = true := by simpa [hv] using h
  have := of_decide_eq_true h
  unfold mnI at this
  split at this <;> omega
end Go.AL
namespace Go.Proofs.YtfkjhjgihbnegaaGreat
open Go.AL

set_option maxHeartbeats 1000000 in
theorem Wide_ok (s : SZ) (zs : List Z) (most : Int) (hw : WS s) (hwl : WLS s) (b : Bool) (hb : b = true ↔ OkS s) : PureFn Tryz.prog 7 [aS s, .sl 2 eZ zs, aN most] (aB (wideB b s zs most)) := by
  refine PureFn.of_body Tryz.func7 rfl Tryz.ntmps7 rfl rfl ?_
  have hli := Light_ok s zs most hw hwl b hb
  by_cases hlb : lightB b s zs most = true
  · rw [hlb] at hli
    repeat' (first |refine Fl.v rfl rfl rfl ?_ |refine Fl.nilF ?_ |refine AWP.seq ?_ |refine AWP.region ?_ |refine Fl.b rfl rfl rfl rfl ?_ |fail)
    refine Fl.call rfl (hli) rfl rfl rfl (LeL.refl _) ?_
    repeat' (first |refine Fl.v rfl rfl rfl ?_ |refine Fl.nilF ?_ |refine AWP.seq ?_ |refine AWP.region ?_ |refine AWP.condT rfl ?_ |refine AWP.ret ?_ |fail)
    exact RetOk.of rfl (AV.Le.bool (by unfold wideB; rw [if_pos hlb]))
  rw [Bool.eq_false_iff.2 hlb] at hli
  repeat' (first |refine Fl.v rfl rfl rfl ?_ |refine Fl.nilF ?_ |refine AWP.seq ?_ |refine AWP.region ?_ |refine Fl.b rfl rfl rfl rfl ?_ |fail)
  refine Fl.call rfl (hli) rfl rfl rfl (LeL.refl _) ?_
  repeat' (first |refine Fl.v rfl rfl rfl ?_ |refine Fl.nilF ?_ |refine AWP.seq ?_ |refine AWP.region ?_ |refine Fl.skip rfl rfl ?_ |refine AWP.condT rfl ?_ |refine AWP.condF rfl ?_ |(refine AWP.condD rfl ?_ ?_ <;> intro _ <;> try (exfalso; omega)) |refine AWP.block ?_ |refine AWP.skip ?_ |refine AWP.ret ?_ |(refine Fl.splitD rfl rfl ?_ ?_ <;> intro _ <;> try (exfalso; omega)) |fail)
  · rename_i h; exact RetOk.of rfl (AV.Le.bool (by unfold wideB; rw [if_neg hlb, if_pos (by omega)]))
  · rename_i h1 h2; exact RetOk.of rfl (AV.Le.bool (by unfold wideB; rw [if_neg hlb, if_neg (by omega), if_pos (by omega)]))
  rename_i h1 h2
  refine AWP.loop (G := Nat) (fun i => i ≤ s.links.length) (fun i => St.of [] [(1, .sl 2 eZ zs), (2, aN most), (3, .ptr 3 0), (7, aN ((s.links.take i).foldl wnL 0)), (8, aN i)] [(3, .cells [aN s.vars, .sl 3 eL s.links] 24)]) (fun i => s.links.length - i) 0 (by omega) ?_ ?_
  · refine Ent.of [] ?_ ?_ rfl rfl
    repeat' (first | exact True.intro |refine ⟨⟨AV.Le.refl _, rfl⟩, ?_⟩ |refine ⟨⟨⟨_, rfl, BLe.cells (LeL.refl _)⟩, rfl⟩, ?_⟩ |refine ⟨⟨⟨_, rfl, BLe.row rfl⟩, rfl⟩, ?_⟩ |refine ⟨⟨⟨_, rfl, BLe.row ?_⟩, rfl⟩, ?_⟩ |refine ⟨⟨⟨_, rfl, BLe.cells ?_⟩, rfl⟩, ?_⟩ |refine ⟨⟨AV.Le.int ?_, rfl⟩, ?_⟩ |refine ⟨⟨AV.Le.bool ?_, rfl⟩, ?_⟩ |refine ⟨⟨AV.Le.sl ?_, rfl⟩, ?_⟩ |refine ⟨⟨AV.Le.of_eq ?_, rfl⟩, ?_⟩ | fail)
  · intro i k0
    obtain ⟨n, hn⟩ : ∃ n, n = (s.links.take i).foldl wnL 0 := ⟨_, rfl⟩
    rw [← hn]
    have hend : i = s.links.length ∨ 300000 < n → s.links.foldl wnL 0 = n := by
      rintro (h | h)
      · rw [hn, h, List.take_length]
      · rw [hn]; rw [hn] at h; exact wide_stop wnL_stuck _ _ _ h
    by_cases hgo : i < s.links.length ∧ n ≤ 300000
    · obtain ⟨hi, hn6⟩ := hgo
      obtain ⟨l, hl⟩ : ∃ l, s.links[i]? = some l := ⟨_, List.getElem?_eq_getElem hi⟩
      have hwp := (hwl l (List.mem_of_getElem? hl)).1
      have hnn := foldl_snoc (f := wnL) (n := 0) hl
      rw [← hn, wnL_go hn6] at hnn
      repeat' (first |refine Fl.v rfl rfl rfl ?_ |refine Fl.nilF ?_ |refine Fl.nil (fun _ => by kernel_rfl) ?_ |refine AWP.seq ?_ |refine AWP.region ?_ |refine Fl.sumS rfl rfl rfl rfl rfl rfl ?_ |(refine AWP.condD rfl ?_ ?_ <;> intro _ <;> try (exfalso; omega)) |refine AWP.block ?_ |refine AWP.skip ?_ |refine Fl.elK rfl rfl rfl rfl rfl rfl rfl rfl (by assumption) (by omega) ?_ |(refine Fl.splitD rfl rfl ?_ ?_ <;> intro _ <;> try (exfalso; omega)) |fail)
      refine AWP.loop (G := Nat) (fun k => k ≤ l.polys.length) (fun k => St.of [] [(1, .sl 2 eZ zs), (2, aN most), (3, .ptr 3 0), (7, aN ((l.polys.take k).foldl wnP (wnL0 n l))), (8, aN i), (9, aN k)] [(3, .cells [aN s.vars, .sl 3 eL s.links] 24)]) (fun k => l.polys.length - k) 0 (by omega) ?_ ?_
      · refine Ent.of [] ?_ ?_ rfl rfl
        repeat' (first | exact True.intro |refine ⟨⟨AV.Le.refl _, rfl⟩, ?_⟩ |refine ⟨⟨⟨_, rfl, BLe.cells (LeL.refl _)⟩, rfl⟩, ?_⟩ |refine ⟨⟨⟨_, rfl, BLe.row rfl⟩, rfl⟩, ?_⟩ |refine ⟨⟨⟨_, rfl, BLe.row ?_⟩, rfl⟩, ?_⟩ |refine ⟨⟨⟨_, rfl, BLe.cells ?_⟩, rfl⟩, ?_⟩ |refine ⟨⟨AV.Le.int ?_, rfl⟩, ?_⟩ |refine ⟨⟨AV.Le.bool ?_, rfl⟩, ?_⟩ |refine ⟨⟨AV.Le.sl ?_, rfl⟩, ?_⟩ |refine ⟨⟨AV.Le.of_eq ?_, rfl⟩, ?_⟩ | fail)
      · intro k g0
        obtain ⟨m, hm⟩ : ∃ m, m = (l.polys.take k).foldl wnP (wnL0 n l) := ⟨_, rfl⟩
        rw [← hm]
        have hend2 : k = l.polys.length ∨ 300000 < m → l.polys.foldl wnP (wnL0 n l) = m := by
          rintro (h | h)
          · rw [hm, h, List.take_length]
          · rw [hm]; rw [hm] at h; exact wide_stop wnP_stuck _ _ _ h
        by_cases hk : k < l.polys.length ∧ m ≤ 300000
        · obtain ⟨hk, hm6⟩ := hk
          obtain ⟨p, hp⟩ : ∃ p, l.polys[k]? = some p := ⟨_, List.getElem?_eq_getElem hk⟩
          have hwt := ((hwl l (List.mem_of_getElem? hl)).2 p (List.mem_of_getElem? hp)).1
          have hmm := foldl_snoc (f := wnP) (n := wnL0 n l) hp
          rw [← hm, wnP_go hm6] at hmm
          repeat' (first |refine Fl.v rfl rfl rfl ?_ |refine Fl.nilF ?_ |refine AWP.seq ?_ |refine AWP.region ?_ |refine Fl.sumS rfl rfl rfl rfl rfl rfl ?_ |(refine AWP.condD rfl ?_ ?_ <;> intro _ <;> try (exfalso; omega)) |refine AWP.block ?_ |refine AWP.skip ?_ |refine Fl.elK rfl rfl rfl rfl rfl rfl rfl rfl (by assumption) (by omega) ?_ |(refine Fl.splitD rfl rfl ?_ ?_ <;> intro _ <;> try (exfalso; omega)) |fail)
          refine AWP.loop (G := Nat) (fun j => j ≤ p.terms.length) (fun j => St.of [] [(1, .sl 2 eZ zs), (2, aN most), (3, .ptr 3 0), (7, aN ((p.terms.take j).foldl wnT (w64 (m + p.terms.length)))), (8, aN i), (9, aN k), (10, .sl 3 eT p.terms), (11, aN j)] [(3, .cells [aN s.vars, .sl 3 eL s.links] 24)]) (fun j => p.terms.length - j) 0 (by omega) ?_ ?_
          · refine Ent.of [] ?_ ?_ rfl rfl
            repeat' (first | exact True.intro |refine ⟨⟨AV.Le.refl _, rfl⟩, ?_⟩ |refine ⟨⟨⟨_, rfl, BLe.cells (LeL.refl _)⟩, rfl⟩, ?_⟩ |refine ⟨⟨⟨_, rfl, BLe.row rfl⟩, rfl⟩, ?_⟩ |refine ⟨⟨⟨_, rfl, BLe.row ?_⟩, rfl⟩, ?_⟩ |refine ⟨⟨⟨_, rfl, BLe.cells ?_⟩, rfl⟩, ?_⟩ |refine ⟨⟨AV.Le.int ?_, rfl⟩, ?_⟩ |refine ⟨⟨AV.Le.bool ?_, rfl⟩, ?_⟩ |refine ⟨⟨AV.Le.sl ?_, rfl⟩, ?_⟩ |refine ⟨⟨AV.Le.of_eq ?_, rfl⟩, ?_⟩ | fail)
          · intro j g1
            obtain ⟨q, hq⟩ : ∃ q, q = (p.terms.take j).foldl wnT (w64 (m + p.terms.length)) := ⟨_, rfl⟩
            rw [← hq]
            by_cases hj : j < p.terms.length ∧ q ≤ 300000
            · obtain ⟨hj, hq6⟩ := hj
              obtain ⟨t, ht⟩ : ∃ t, p.terms[j]? = some t := ⟨_, List.getElem?_eq_getElem hj⟩
              have hqq := foldl_snoc (f := wnT) (n := w64 (m + p.terms.length)) ht
              rw [← hq, wnT_go hq6] at hqq
              repeat' (first |refine Fl.v rfl rfl rfl ?_ |refine Fl.nilF ?_ |refine Fl.nil (fun _ => by kernel_rfl) ?_ |refine AWP.seq ?_ |refine AWP.region ?_ |refine Fl.w rfl rfl rfl (by first | exact True.intro | omega) ?_ |refine Fl.sumS rfl rfl rfl rfl rfl rfl ?_ |(refine AWP.condD rfl ?_ ?_ <;> intro _ <;> try (exfalso; omega)) |refine AWP.block ?_ |refine AWP.skip ?_ |refine Fl.elK rfl rfl rfl rfl rfl rfl rfl rfl (by assumption) (by omega) ?_ |(refine Fl.splitD rfl rfl ?_ ?_ <;> intro _ <;> try (exfalso; omega)) |fail)
              refine LoopEnd.of (j + 1) (by omega) (by omega) ?_
              refine Ent.of [] ?_ ?_ rfl rfl
              repeat' (first | exact True.intro |refine ⟨⟨AV.Le.refl _, rfl⟩, ?_⟩ |refine ⟨⟨⟨_, rfl, BLe.cells (LeL.refl _)⟩, rfl⟩, ?_⟩ |refine ⟨⟨⟨_, rfl, BLe.row rfl⟩, rfl⟩, ?_⟩ |refine ⟨⟨⟨_, rfl, BLe.row ?_⟩, rfl⟩, ?_⟩ |refine ⟨⟨⟨_, rfl, BLe.cells ?_⟩, rfl⟩, ?_⟩ |refine ⟨⟨AV.Le.int ?_, rfl⟩, ?_⟩ |refine ⟨⟨AV.Le.bool ?_, rfl⟩, ?_⟩ |refine ⟨⟨AV.Le.sl ?_, rfl⟩, ?_⟩ |refine ⟨⟨AV.Le.of_eq ?_, rfl⟩, ?_⟩ | fail)
              exact hqq.symm
            · have hqe : (l.polys.take (k + 1)).foldl wnP (wnL0 n l) = q := by
                rw [hmm, hq]
                by_cases hj' : j < p.terms.length
                · exact wide_stop wnT_stuck _ _ _ (by rw [← hq]; omega)
                · rw [List.take_of_length_le (by omega)]
              by_cases hj' : j < p.terms.length
              · repeat' (first |refine Fl.v rfl rfl rfl ?_ |refine Fl.nilF ?_ |refine AWP.seq ?_ |refine AWP.region ?_ |refine Fl.w rfl rfl rfl (by first | exact True.intro | omega) ?_ |(refine AWP.condD rfl ?_ ?_ <;> intro _ <;> try (exfalso; omega)) |refine AWP.exit ?_ |(refine Fl.splitD rfl rfl ?_ ?_ <;> intro _ <;> try (exfalso; omega)) |fail)
                refine LoopEnd.of (k + 1) (by omega) (by omega) ?_
                refine Ent.of [] ?_ ?_ rfl rfl
                repeat' (first | exact True.intro |refine ⟨⟨AV.Le.refl _, rfl⟩, ?_⟩ |refine ⟨⟨⟨_, rfl, BLe.cells (LeL.refl _)⟩, rfl⟩, ?_⟩ |refine ⟨⟨⟨_, rfl, BLe.row rfl⟩, rfl⟩, ?_⟩ |refine ⟨⟨⟨_, rfl, BLe.row ?_⟩, rfl⟩, ?_⟩ |refine ⟨⟨⟨_, rfl, BLe.cells ?_⟩, rfl⟩, ?_⟩ |refine ⟨⟨AV.Le.int ?_, rfl⟩, ?_⟩ |refine ⟨⟨AV.Le.bool ?_, rfl⟩, ?_⟩ |refine ⟨⟨AV.Le.sl ?_, rfl⟩, ?_⟩ |refine ⟨⟨AV.Le.of_eq ?_, rfl⟩, ?_⟩ | fail)
                exact hqe.symm
              · repeat' (first |refine Fl.v rfl rfl rfl ?_ |refine Fl.nilF ?_ |refine AWP.seq ?_ |refine AWP.region ?_ |refine Fl.w rfl rfl rfl (by first | exact True.intro | omega) ?_ |refine Fl.skip rfl rfl ?_ |refine AWP.condF rfl ?_ |refine AWP.exit ?_ |(refine Fl.splitD rfl rfl ?_ ?_ <;> intro _ <;> try (exfalso; omega)) |fail)
                refine LoopEnd.of (k + 1) (by omega) (by omega) ?_
                refine Ent.of [] ?_ ?_ rfl rfl
                repeat' (first | exact True.intro |refine ⟨⟨AV.Le.refl _, rfl⟩, ?_⟩ |refine ⟨⟨⟨_, rfl, BLe.cells (LeL.refl _)⟩, rfl⟩, ?_⟩ |refine ⟨⟨⟨_, rfl, BLe.row rfl⟩, rfl⟩, ?_⟩ |refine ⟨⟨⟨_, rfl, BLe.row ?_⟩, rfl⟩, ?_⟩ |refine ⟨⟨⟨_, rfl, BLe.cells ?_⟩, rfl⟩, ?_⟩ |refine ⟨⟨AV.Le.int ?_, rfl⟩, ?_⟩ |refine ⟨⟨AV.Le.bool ?_, rfl⟩, ?_⟩ |refine ⟨⟨AV.Le.sl ?_, rfl⟩, ?_⟩ |refine ⟨⟨AV.Le.of_eq ?_, rfl⟩, ?_⟩ | fail)
                exact hqe.symm
        · have hme := hend2 (by omega)
          rw [hme] at hnn
          by_cases hk' : k < l.polys.length
          · repeat' (first |refine Fl.v rfl rfl rfl ?_ |refine Fl.nilF ?_ |refine AWP.seq ?_ |refine AWP.region ?_ |refine Fl.w rfl rfl rfl (by first | exact True.intro | omega) ?_ |(refine AWP.condD rfl ?_ ?_ <;> intro _ <;> try (exfalso; omega)) |refine AWP.exit ?_ |refine Fl.elK rfl rfl rfl rfl rfl rfl rfl rfl (by assumption) (by omega) ?_ |(refine Fl.splitD rfl rfl ?_ ?_ <;> intro _ <;> try (exfalso; omega)) |fail)
            refine LoopEnd.of (i + 1) (by omega) (by omega) ?_
            refine Ent.of [] ?_ ?_ rfl rfl
            repeat' (first | exact True.intro |refine ⟨⟨AV.Le.refl _, rfl⟩, ?_⟩ |refine ⟨⟨⟨_, rfl, BLe.cells (LeL.refl _)⟩, rfl⟩, ?_⟩ |refine ⟨⟨⟨_, rfl, BLe.row rfl⟩, rfl⟩, ?_⟩ |refine ⟨⟨⟨_, rfl, BLe.row ?_⟩, rfl⟩, ?_⟩ |refine ⟨⟨⟨_, rfl, BLe.cells ?_⟩, rfl⟩, ?_⟩ |refine ⟨⟨AV.Le.int ?_, rfl⟩, ?_⟩ |refine ⟨⟨AV.Le.bool ?_, rfl⟩, ?_⟩ |refine ⟨⟨AV.Le.sl ?_, rfl⟩, ?_⟩ |refine ⟨⟨AV.Le.of_eq ?_, rfl⟩, ?_⟩ | fail)
            exact hnn.symm
          · repeat' (first |refine Fl.v rfl rfl rfl ?_ |refine Fl.nilF ?_ |refine AWP.seq ?_ |refine AWP.region ?_ |refine Fl.w rfl rfl rfl (by first | exact True.intro | omega) ?_ |refine Fl.skip rfl rfl ?_ |refine AWP.condF rfl ?_ |refine AWP.exit ?_ |refine Fl.elK rfl rfl rfl rfl rfl rfl rfl rfl (by assumption) (by omega) ?_ |(refine Fl.splitD rfl rfl ?_ ?_ <;> intro _ <;> try (exfalso; omega)) |fail)
            refine LoopEnd.of (i + 1) (by omega) (by omega) ?_
            refine Ent.of [] ?_ ?_ rfl rfl
            repeat' (first | exact True.intro |refine ⟨⟨AV.Le.refl _, rfl⟩, ?_⟩ |refine ⟨⟨⟨_, rfl, BLe.cells (LeL.refl _)⟩, rfl⟩, ?_⟩ |refine ⟨⟨⟨_, rfl, BLe.row rfl⟩, rfl⟩, ?_⟩ |refine ⟨⟨⟨_, rfl, BLe.row ?_⟩, rfl⟩, ?_⟩ |refine ⟨⟨⟨_, rfl, BLe.cells ?_⟩, rfl⟩, ?_⟩ |refine ⟨⟨AV.Le.int ?_, rfl⟩, ?_⟩ |refine ⟨⟨AV.Le.bool ?_, rfl⟩, ?_⟩ |refine ⟨⟨AV.Le.sl ?_, rfl⟩, ?_⟩ |refine ⟨⟨AV.Le.of_eq ?_, rfl⟩, ?_⟩ | fail)
            exact hnn.symm
    · have hne := hend (by omega)
      by_cases hn6 : n ≤ 300000
      · have hB : wideB b s zs most = if b = false then true else if (zs.length : Int) = s.vars then decide (ldS zs s.links ≤ mnI most 60) else true := by
          unfold wideB
          rw [if_neg hlb, if_neg (by omega), if_neg (by omega), hne, if_neg (by omega)]
        rw [hB]
        repeat' (first |refine Fl.v rfl rfl rfl ?_ |refine Fl.nilF ?_ |refine AWP.seq ?_ |refine AWP.region ?_ |refine Fl.skip rfl rfl ?_ |refine AWP.condF rfl ?_ |(refine AWP.condD rfl ?_ ?_ <;> intro _ <;> try (exfalso; omega)) |refine AWP.skip ?_ |refine AWP.exit ?_ |(refine Fl.splitD rfl rfl ?_ ?_ <;> intro _ <;> try (exfalso; omega)) |fail)
        refine Fl.call rfl (r9Valid_ok s hw hwl b hb) rfl rfl rfl (LeL.refl _) ?_
        repeat' (first |refine Fl.v rfl rfl rfl ?_ |refine Fl.nilF ?_ |refine AWP.seq ?_ |refine AWP.region ?_ |refine Fl.skip rfl rfl ?_ |refine AWP.condT rfl ?_ |(refine AWP.condN rfl ?_ ?_ <;> intro _ <;> try (exfalso; omega)) |refine AWP.skip ?_ |refine AWP.ret ?_ |(refine Fl.splitB rfl rfl ?_ ?_ <;> (fail_if_success (intro hb_; exact absurd hb_ (by decide))) <;> intro _) |fail)
        · rename_i h
          have h : (!b) = true := h
          refine RetOk.of rfl (AV.Le.bool ?_)
          rw [if_pos (by simpa using h)]
        · rename_i h h'
          have h : (!b) = false := h
          refine RetOk.of rfl (AV.Le.bool ?_)
          rw [if_neg (by simpa using h), if_neg h']
        · rename_i h h'
          have h : (!b) = false := h
          have hbt : b = true := by simpa using h
          refine Fl.call rfl (r9Load_ok s zs (hb.1 hbt) h') rfl rfl rfl (LeL.refl _) ?_
          repeat' (first |refine Fl.v rfl rfl rfl ?_ |refine Fl.nilF ?_ |refine Fl.w rfl rfl rfl (by first | exact True.intro | omega) ?_ |refine AWP.ret ?_ |fail)
          refine RetOk.of rfl (AV.Le.bool ?_)
          rw [if_neg (show ¬ b = false by simp [hbt]), if_pos h']
          rfl
      · have hB : wideB b s zs most = false := by
          unfold wideB
          rw [if_neg hlb, if_neg (by omega), if_neg (by omega), hne, if_pos (by omega)]
        rw [hB]
        by_cases hi : i < s.links.length
        · repeat' (first |refine Fl.v rfl rfl rfl ?_ |refine Fl.nilF ?_ |refine AWP.seq ?_ |refine AWP.region ?_ |(refine AWP.condD rfl ?_ ?_ <;> intro _ <;> try (exfalso; omega)) |refine AWP.exit ?_ |refine AWP.ret ?_ |(refine Fl.splitD rfl rfl ?_ ?_ <;> intro _ <;> try (exfalso; omega)) |fail)
          exact RetOk.of rfl (AV.Le.refl _)
        · repeat' (first |refine Fl.v rfl rfl rfl ?_ |refine Fl.nilF ?_ |refine AWP.seq ?_ |refine AWP.region ?_ |refine Fl.skip rfl rfl ?_ |refine AWP.condF rfl ?_ |(refine AWP.condD rfl ?_ ?_ <;> intro _ <;> try (exfalso; omega)) |refine AWP.exit ?_ |refine AWP.ret ?_ |(refine Fl.splitD rfl rfl ?_ ?_ <;> intro _ <;> try (exfalso; omega)) |fail)
          exact RetOk.of rfl (AV.Le.refl _)
end Go.Proofs.YtfkjhjgihbnegaaGreat
namespace Go.AL
section
variable {P : Program} {tab : Tab} {n : Nat} {s : St}
variable {ops : Array Oper} {draw : Dr} {o : Oper} {l : List Oper} {acc : List Eff} {K : Exit → St → Prop}
theorem Fl.neV [f : Facts P tab] {t t' : TypeId} {x y : Operand} (hop : o.op = .binOp .neq t x y t') {cs ds : List AV} (hx : opd s x = .agg cs) (hy : opd s y = .agg ds) {us vs : List Value} (h1 : litL cs = some us) (h2 : litL ds = some vs) (r0 : Bool) (hg : gOk ops s o = true) (hd : dOk n o.dst = true)
    (hgd : ∀ w : World, (eqGuard .neq t x y (.agg us.toArray) (.agg vs.toArray)).run P w = .ok () w) (hrun : ∀ w : World, (binOp .neq t (.agg us.toArray) (.agg vs.toArray)).run P w = .ok (.bool r0) w)
    (r : Fl P n ops draw l ((Eff.mk (.v (.bool r0)) [] [] [] []).app o.dst s) (Eff.mk (.v (.bool r0)) [] [] [] [] :: acc) K) : Fl P n ops draw (o :: l) s acc K := by
  refine Fl.opv hg (OpJ.of_run (tb := []) (dOk_lt hd) fun C s' a w h β ho _ k => ?_) r
  have hxr := opd_rep k x
  have hyr := opd_rep k y
  rw [ho x (by rw [hop]; simp [Op.operands]), hx] at hxr
  rw [ho y (by rw [hop]; simp [Op.operands]), hy] at hyr
  simp only [Rep] at hxr hyr
  obtain ⟨us', e1, hr1⟩ := hxr
  obtain ⟨vs', e2, hr2⟩ := hyr
  have e3 : us' = us.toArray := by rw [← litL_rep h1 hr1]
  have e4 : vs' = vs.toArray := by rw [← litL_rep h2 hr2]
  refine ⟨.bool r0, ?_, by simp only [Rep]⟩
  simp only [execOp, hop, e1, e2, e3, e4, Sem.run_bind, hgd w, Result.andThen, hrun w, Sem.run_pure]
/-- fields that are ints, compared with themselves -/
theorem eqFields_self (w : World) (d : Nat) (xs : Array Value) : ∀ fs : List Field, (∀ f ∈ fs, P.underlying f.type = some (.int .i64) ∧ ∃ a, (part f.type xs f.offset).run P w = .ok (.int .i64 a) w) → (Op.eqFields (d + 1) xs xs fs).run P w = .ok true w
  | [], _ => by simp [Op.eqFields]
  | f :: fs, h => by
    obtain ⟨h1, a, h2⟩ := h f (by simp)
    have ih := eqFields_self w d xs fs fun g hg => h g (by simp [hg])
    unfold Op.eqFields
    split
    · simp only [Sem.run_bind, h2, Result.andThen_ok, run_equalIn_int w d f.type .i64 .i64 a a h1, beq_self_eq_true, Bool.not_true, Bool.false_eq_true, if_false]
      exact ih
    · exact ih
end
theorem holdsR_all {f g : LZ → Bool} : ∀ {ls : List LZ}, (∀ l ∈ ls, f l = true) → holdsR f g ls = (ls.all g, 0)
  | [], _ => rfl
  | l :: ls, h => by
    unfold holdsR
    rw [if_pos (h l (by simp))]
    cases hg : g l with
    | true => simp [hg, holdsR_all (ls := ls) fun x hx => h x (by simp [hx])]
    | false => simp [hg]
end Go.AL
namespace Go.Proofs.YtfkjhjgihbnegaaGreat
open Go.AL

theorem cnt_part (a0 a1 a2 a3 a4 a5 : Int) (w : World) : ∀ i : Nat, i < 6 → ∃ a, (part 3 #[.int .i64 a0, .int .i64 a1, .int .i64 a2, .int .i64 a3, .int .i64 a4, .int .i64 a5] i).run Tryz.prog w = .ok (.int .i64 a) w
  | 0, _ => ⟨a0, by kernel_rfl⟩
  | 1, _ => ⟨a1, by kernel_rfl⟩
  | 2, _ => ⟨a2, by kernel_rfl⟩
  | 3, _ => ⟨a3, by kernel_rfl⟩
  | 4, _ => ⟨a4, by kernel_rfl⟩
  | 5, _ => ⟨a5, by kernel_rfl⟩
  | i + 6, h => by omega
theorem cnt_fields : ((Tryz.prog.fieldsOf 29).toList.all fun f => decide (f.type = 3) && decide (f.offset < 6)) = true := by kernel_rfl
theorem cnt_neq (c : CT) (w : World) : (binOp .neq 29 (.agg [.int .i64 c.v, .int .i64 c.e, .int .i64 c.p, .int .i64 c.w, .int .i64 c.u, .int .i64 c.d].toArray) (.agg [.int .i64 c.v, .int .i64 c.e, .int .i64 c.p, .int .i64 c.w, .int .i64 c.u, .int .i64 c.d].toArray)).run Tryz.prog w = .ok (.bool false) w := by
  rw [run_neq_struct]
  have h : ∀ f ∈ (Tryz.prog.fieldsOf 29).toList, Tryz.prog.underlying f.type = some (.int .i64) ∧ ∃ a, (part f.type [Value.int .i64 c.v, .int .i64 c.e, .int .i64 c.p, .int .i64 c.w, .int .i64 c.u, .int .i64 c.d].toArray f.offset).run Tryz.prog w = .ok (.int .i64 a) w := fun f hf => by
    have hh := List.all_eq_true.1 cnt_fields f hf
    simp only [Bool.and_eq_true, decide_eq_true_eq] at hh
    rw [hh.1]
    exact ⟨Tryz.underlying3, cnt_part c.v c.e c.p c.w c.u c.d w f.offset hh.2⟩
  have h2 := run_equalIn_agg (P := Tryz.prog) w 9999 29 [Value.int .i64 c.v, .int .i64 c.e, .int .i64 c.p, .int .i64 c.w, .int .i64 c.u, .int .i64 c.d].toArray [Value.int .i64 c.v, .int .i64 c.e, .int .i64 c.p, .int .i64 c.w, .int .i64 c.u, .int .i64 c.d].toArray (by kernel_rfl) (by kernel_rfl)
  rw [show (10000 : Nat) = 9999 + 1 from rfl, h2, eqFields_self w 9998 _ _ h]
  rfl
end Go.Proofs.YtfkjhjgihbnegaaGreat
namespace Go.AL
/-- valid numbers, as integers -/
theorem zs_map {zs : List Z} (hz : ∀ z ∈ zs, WOk z.w) (hzz : ∀ z ∈ zs, OkZ z) : ∃ X : List Int, zs = X.map zOf ∧ ∀ x ∈ X, Fit x := by
  refine ⟨zs.map zval, ?_, fun x hx => ?_⟩
  · rw [List.map_map]
    conv => lhs; rw [← List.map_id zs]
    exact List.map_congr_left fun z hz' => (okZ_eq (hz z hz') (hzz z hz')).1
  · obtain ⟨z, hz', rfl⟩ := List.mem_map.1 hx
    exact (okZ_eq (hz z hz') (hzz z hz')).2
end Go.AL
namespace Go.Proofs.YtfkjhjgihbnegaaGreat
open Go.AL

set_option maxHeartbeats 4000000 in
theorem SystemHolds_ok (s : SZ) (zs : List Z) (hw : WS s) (hwl : WLS s) (hz : ∀ z ∈ zs, WOk z.w) (hzl : ∀ z ∈ zs, z.w.length ≤ 9223372036854775807) : PureFn Tryz.prog 3 [aS s, .sl 2 eZ zs] (aB true) := by
  refine PureFn.of_body Tryz.func3 rfl Tryz.ntmps3 rfl rfl ?_
  obtain ⟨fo, hfo⟩ := boolOf (fun s : SZ => OkS s)
  have hW := Wide_ok s zs 600 hw hwl (fo s) (hfo s)
  have hlen := @wideB_len (fo s) s zs 600
  by_cases hwb : wideB (fo s) s zs 600 = true
  · rw [hwb] at hW
    have hlen := hlen hwb
    by_cases hs : OkS s
    · have hV := sValid_ok s hw true ⟨fun _ => hs, fun _ => rfl⟩
      have hR := r9Valid_ok s hw hwl true ⟨fun _ => hs, fun _ => rfl⟩
      have hC := Counts_ok s hw hs
      have hRC := rCounts_ok s hs
      have hneq := cnt_neq (cntR s.vars s.links)
      revert hC hRC hneq
      generalize cntR s.vars s.links = c
      intro hC hRC hneq
      have hAll := rAll_ok zs hz hzl (by omega)
      by_cases hzz : ∀ z ∈ zs, OkZ z
      · rw [decide_eq_true hzz] at hAll
        obtain ⟨X, hX, hXf⟩ := zs_map hz hzz
        have hl' : X.length ≤ 1000000000 := by rw [hX] at hlen; simp at hlen; omega
        have hlz : zs.length = X.length := by rw [hX]; simp
        have hle : LeL [.sl 2 eZ zs] [.sl 2 eX X] := by rw [hX]; exact LeL.cons (AV.Le.slMap (enc := eZ) (f := zOf)) LeL.nil
        have hNat := (rNaturals_ok X hl').le hle (AV.Le.refl _)
        by_cases h2 : (X.length : Int) = s.vars ∧ ∀ x ∈ X, 0 ≤ x
        · rw [decide_eq_true h2.2] at hNat
          have hfo1 : fo s = true := (hfo s).2 hs
          rw [hfo1] at hwb
          have hld := wideB_load hwb (by omega)
          rw [hX] at hld
          have hload := load_of (M := 600) hw hs hXf hld
          have has : ∀ l ∈ s.links, AsL X l := fun l hl => as_of_load (by omega) (hs.links l hl) (hload l hl)
          obtain ⟨f, hf⟩ := boolOf (fun l : LZ => EvL X l)
          obtain ⟨g, hg⟩ := boolOf (fun l : LZ => HoL X l)
          have hH := (Holds_ok s X hw hs hXf h2.1 h2.2 f g hf hg).le (LeL.cons (AV.Le.refl _) hle) (AV.Le.refl _)
          rw [holdsR_all fun l hl => (hf l).2 (has l hl).ev] at hH
          have hRH := (rHolds_ok s X hw hs h2.1 600 (by omega) hload has (s.links.all g) (by rw [List.all_eq_true]; exact forall_congr' fun l => forall_congr' fun _ => hg l)).le (LeL.cons (AV.Le.refl _) hle) (AV.Le.refl _)
          revert hH hRH
          generalize s.links.all g = b
          intro hH hRH
          cases b
          all_goals
            repeat' (first |refine Fl.v rfl rfl rfl ?_ |refine Fl.nilF ?_ |refine AWP.seq ?_ |refine AWP.region ?_ |refine Fl.b rfl rfl rfl rfl ?_ |fail)
            refine Fl.call rfl (hW) rfl rfl rfl (LeL.refl _) ?_
            repeat' (first |refine Fl.v rfl rfl rfl ?_ |refine Fl.nilF ?_ |refine AWP.seq ?_ |refine AWP.region ?_ |refine AWP.condF rfl ?_ |refine AWP.skip ?_ |fail)
            refine Fl.call rfl (hC) rfl rfl rfl (LeL.refl _) ?_
            repeat' (first |refine Fl.v rfl rfl rfl ?_ |refine Fl.nilF ?_ |refine AWP.seq ?_ |refine AWP.region ?_ |refine Fl.b rfl rfl rfl rfl ?_ |fail)
            refine Fl.call rfl (hH) rfl rfl rfl (LeL.refl _) ?_
            repeat' (first |refine Fl.v rfl rfl rfl ?_ |refine Fl.nilF ?_ |refine AWP.seq ?_ |refine AWP.region ?_ |fail)
            refine Fl.call rfl (hV) rfl rfl rfl (LeL.refl _) ?_
            repeat' (first |refine Fl.v rfl rfl rfl ?_ |fail)
            refine Fl.call rfl (hR) rfl rfl rfl (LeL.refl _) ?_
            repeat' (first |refine Fl.v rfl rfl rfl ?_ |refine Fl.nil (fun _ => by kernel_rfl) ?_ |refine AWP.seq ?_ |refine AWP.region ?_ |refine AWP.condF rfl ?_ |refine AWP.skip ?_ |fail)
            refine Fl.call rfl (hR) rfl rfl rfl (LeL.refl _) ?_
            repeat' (first |refine Fl.v rfl rfl rfl ?_ |refine Fl.nilF ?_ |refine AWP.seq ?_ |refine AWP.region ?_ |refine AWP.condF rfl ?_ |refine AWP.skip ?_ |(refine Fl.splitN rfl rfl ?_ ?_ <;> intro _ <;> try (exfalso; omega)) |fail)
            refine Fl.call rfl (hRC) rfl rfl rfl (LeL.refl _) ?_
            skip
            refine Fl.neV rfl rfl rfl rfl rfl false rfl rfl (fun w => by kernel_rfl) hneq ?_
            repeat' (first |refine Fl.v rfl rfl rfl ?_ |refine Fl.nil (fun _ => by kernel_rfl) ?_ |refine AWP.seq ?_ |refine AWP.region ?_ |refine AWP.condF rfl ?_ |refine AWP.block ?_ |refine AWP.skip ?_ |fail)
            refine Fl.call rfl (hAll) rfl rfl rfl (LeL.refl _) ?_
            repeat' (first |refine Fl.v rfl rfl rfl ?_ |refine Fl.nilF ?_ |refine AWP.seq ?_ |refine AWP.region ?_ |refine AWP.condF rfl ?_ |(refine Fl.splitN rfl rfl ?_ ?_ <;> intro _ <;> try (exfalso; omega)) |fail)
            refine Fl.call rfl (hNat) rfl rfl rfl (LeL.refl _) ?_
            repeat' (first |refine Fl.v rfl rfl rfl ?_ |refine Fl.nilF ?_ |refine AWP.seq ?_ |refine AWP.region ?_ |refine AWP.condF rfl ?_ |refine AWP.skip ?_ |fail)
            refine Fl.call rfl (hRH) rfl rfl rfl (LeL.refl _) ?_
            repeat' (first |refine Fl.v rfl rfl rfl ?_ |refine Fl.nilF ?_ |refine AWP.seq ?_ |refine AWP.region ?_ |refine Fl.skip rfl rfl ?_ |refine AWP.ret ?_ |(refine Fl.splitD rfl rfl ?_ ?_ <;> intro _ <;> try (exfalso; omega)) |fail)
            refine Fl.call rfl (awake_ok) rfl rfl rfl (LeL.refl _) ?_
            repeat' (first |refine Fl.v rfl rfl rfl ?_ |refine Fl.nilF ?_ |refine AWP.ret ?_ |fail)
            · exact RetOk.of rfl (AV.Le.refl _)
            all_goals (rename_i h; exact absurd rfl h)
        · have hH := (Holds_arg s X hw hs hXf hl' h2).le (LeL.cons (AV.Le.refl _) hle) (AV.Le.refl _)
          repeat' (first |refine Fl.v rfl rfl rfl ?_ |refine Fl.nilF ?_ |refine AWP.seq ?_ |refine AWP.region ?_ |refine Fl.b rfl rfl rfl rfl ?_ |fail)
          refine Fl.call rfl (hW) rfl rfl rfl (LeL.refl _) ?_
          repeat' (first |refine Fl.v rfl rfl rfl ?_ |refine Fl.nilF ?_ |refine AWP.seq ?_ |refine AWP.region ?_ |refine AWP.condF rfl ?_ |refine AWP.skip ?_ |fail)
          refine Fl.call rfl (hC) rfl rfl rfl (LeL.refl _) ?_
          repeat' (first |refine Fl.v rfl rfl rfl ?_ |refine Fl.nilF ?_ |refine AWP.seq ?_ |refine AWP.region ?_ |refine Fl.b rfl rfl rfl rfl ?_ |fail)
          refine Fl.call rfl (hH) rfl rfl rfl (LeL.refl _) ?_
          repeat' (first |refine Fl.v rfl rfl rfl ?_ |refine Fl.nilF ?_ |refine AWP.seq ?_ |refine AWP.region ?_ |fail)
          refine Fl.call rfl (hV) rfl rfl rfl (LeL.refl _) ?_
          repeat' (first |refine Fl.v rfl rfl rfl ?_ |fail)
          refine Fl.call rfl (hR) rfl rfl rfl (LeL.refl _) ?_
          repeat' (first |refine Fl.v rfl rfl rfl ?_ |refine Fl.nil (fun _ => by kernel_rfl) ?_ |refine AWP.seq ?_ |refine AWP.region ?_ |refine AWP.condF rfl ?_ |refine AWP.skip ?_ |fail)
          refine Fl.call rfl (hR) rfl rfl rfl (LeL.refl _) ?_
          repeat' (first |refine Fl.v rfl rfl rfl ?_ |refine Fl.nilF ?_ |refine AWP.seq ?_ |refine AWP.region ?_ |refine AWP.condF rfl ?_ |refine AWP.skip ?_ |(refine Fl.splitN rfl rfl ?_ ?_ <;> intro _ <;> try (exfalso; omega)) |fail)
          refine Fl.call rfl (hRC) rfl rfl rfl (LeL.refl _) ?_
          skip
          refine Fl.neV rfl rfl rfl rfl rfl false rfl rfl (fun w => by kernel_rfl) hneq ?_
          repeat' (first |refine Fl.v rfl rfl rfl ?_ |refine Fl.nil (fun _ => by kernel_rfl) ?_ |refine AWP.seq ?_ |refine AWP.region ?_ |refine AWP.condF rfl ?_ |refine AWP.block ?_ |refine AWP.skip ?_ |fail)
          refine Fl.call rfl (hAll) rfl rfl rfl (LeL.refl _) ?_
          repeat' (first |refine Fl.v rfl rfl rfl ?_ |refine Fl.nilF ?_ |refine AWP.seq ?_ |refine AWP.region ?_ |refine Fl.skip rfl rfl ?_ |refine AWP.condT rfl ?_ |refine AWP.condF rfl ?_ |(refine Fl.splitN rfl rfl ?_ ?_ <;> intro _ <;> try (exfalso; omega)) |fail)
          · refine Fl.call rfl (awake_ok) rfl rfl rfl (LeL.refl _) ?_
            repeat' (first |refine Fl.v rfl rfl rfl ?_ |refine Fl.nilF ?_ |refine AWP.ret ?_ |fail)
            exact RetOk.of rfl (AV.Le.refl _)
          · rename_i hne
            rw [decide_eq_false fun k => h2 ⟨by omega, k⟩] at hNat
            refine Fl.call rfl (hNat) rfl rfl rfl (LeL.refl _) ?_
            repeat' (first |refine Fl.v rfl rfl rfl ?_ |refine Fl.nilF ?_ |refine AWP.seq ?_ |refine AWP.region ?_ |refine AWP.condT rfl ?_ |fail)
            refine Fl.call rfl (awake_ok) rfl rfl rfl (LeL.refl _) ?_
            repeat' (first |refine Fl.v rfl rfl rfl ?_ |refine Fl.nilF ?_ |refine AWP.ret ?_ |fail)
            exact RetOk.of rfl (AV.Le.refl _)
      · rw [decide_eq_false hzz] at hAll
        have hH := Holds_form s zs hw hz (by omega) fun h => hzz h.2
        repeat' (first |refine Fl.v rfl rfl rfl ?_ |refine Fl.nilF ?_ |refine AWP.seq ?_ |refine AWP.region ?_ |refine Fl.b rfl rfl rfl rfl ?_ |fail)
        refine Fl.call rfl (hW) rfl rfl rfl (LeL.refl _) ?_
        repeat' (first |refine Fl.v rfl rfl rfl ?_ |refine Fl.nilF ?_ |refine AWP.seq ?_ |refine AWP.region ?_ |refine AWP.condF rfl ?_ |refine AWP.skip ?_ |fail)
        refine Fl.call rfl (hC) rfl rfl rfl (LeL.refl _) ?_
        repeat' (first |refine Fl.v rfl rfl rfl ?_ |refine Fl.nilF ?_ |refine AWP.seq ?_ |refine AWP.region ?_ |refine Fl.b rfl rfl rfl rfl ?_ |fail)
        refine Fl.call rfl (hH) rfl rfl rfl (LeL.refl _) ?_
        repeat' (first |refine Fl.v rfl rfl rfl ?_ |refine Fl.nilF ?_ |refine AWP.seq ?_ |refine AWP.region ?_ |fail)
        refine Fl.call rfl (hV) rfl rfl rfl (LeL.refl _) ?_
        repeat' (first |refine Fl.v rfl rfl rfl ?_ |fail)
        refine Fl.call rfl (hR) rfl rfl rfl (LeL.refl _) ?_
        repeat' (first |refine Fl.v rfl rfl rfl ?_ |refine Fl.nil (fun _ => by kernel_rfl) ?_ |refine AWP.seq ?_ |refine AWP.region ?_ |refine AWP.condF rfl ?_ |refine AWP.skip ?_ |fail)
        refine Fl.call rfl (hR) rfl rfl rfl (LeL.refl _) ?_
        repeat' (first |refine Fl.v rfl rfl rfl ?_ |refine Fl.nilF ?_ |refine AWP.seq ?_ |refine AWP.region ?_ |refine AWP.condF rfl ?_ |refine AWP.skip ?_ |(refine Fl.splitN rfl rfl ?_ ?_ <;> intro _ <;> try (exfalso; omega)) |fail)
        refine Fl.call rfl (hRC) rfl rfl rfl (LeL.refl _) ?_
        skip
        refine Fl.neV rfl rfl rfl rfl rfl false rfl rfl (fun w => by kernel_rfl) hneq ?_
        repeat' (first |refine Fl.v rfl rfl rfl ?_ |refine Fl.nil (fun _ => by kernel_rfl) ?_ |refine AWP.seq ?_ |refine AWP.region ?_ |refine AWP.condF rfl ?_ |refine AWP.block ?_ |refine AWP.skip ?_ |fail)
        refine Fl.call rfl (hAll) rfl rfl rfl (LeL.refl _) ?_
        repeat' (first |refine Fl.v rfl rfl rfl ?_ |refine Fl.nilF ?_ |refine AWP.seq ?_ |refine AWP.region ?_ |refine AWP.condT rfl ?_ |fail)
        refine Fl.call rfl (awake_ok) rfl rfl rfl (LeL.refl _) ?_
        repeat' (first |refine Fl.v rfl rfl rfl ?_ |refine Fl.nilF ?_ |refine AWP.ret ?_ |fail)
        exact RetOk.of rfl (AV.Le.refl _)
    · have hV := sValid_ok s hw false ⟨fun k => (by cases k), fun k => absurd k hs⟩
      have hR := r9Valid_ok s hw hwl false ⟨fun k => (by cases k), fun k => absurd k hs⟩
      have hC := Counts_form s hw hs
      have hH := Holds_form s zs hw hz (by omega) fun h => hs h.1
      repeat' (first |refine Fl.v rfl rfl rfl ?_ |refine Fl.nilF ?_ |refine AWP.seq ?_ |refine AWP.region ?_ |refine Fl.b rfl rfl rfl rfl ?_ |fail)
      refine Fl.call rfl (hW) rfl rfl rfl (LeL.refl _) ?_
      repeat' (first |refine Fl.v rfl rfl rfl ?_ |refine Fl.nilF ?_ |refine AWP.seq ?_ |refine AWP.region ?_ |refine AWP.condF rfl ?_ |refine AWP.skip ?_ |fail)
      refine Fl.call rfl (hC) rfl rfl rfl (LeL.refl _) ?_
      repeat' (first |refine Fl.v rfl rfl rfl ?_ |refine Fl.nilF ?_ |refine AWP.seq ?_ |refine AWP.region ?_ |refine Fl.b rfl rfl rfl rfl ?_ |fail)
      refine Fl.call rfl (hH) rfl rfl rfl (LeL.refl _) ?_
      repeat' (first |refine Fl.v rfl rfl rfl ?_ |refine Fl.nilF ?_ |refine AWP.seq ?_ |refine AWP.region ?_ |fail)
      refine Fl.call rfl (hV) rfl rfl rfl (LeL.refl _) ?_
      repeat' (first |refine Fl.v rfl rfl rfl ?_ |fail)
      refine Fl.call rfl (hR) rfl rfl rfl (LeL.refl _) ?_
      repeat' (first |refine Fl.v rfl rfl rfl ?_ |refine Fl.nil (fun _ => by kernel_rfl) ?_ |refine AWP.seq ?_ |refine AWP.region ?_ |refine AWP.condF rfl ?_ |refine AWP.skip ?_ |fail)
      refine Fl.call rfl (hR) rfl rfl rfl (LeL.refl _) ?_
      repeat' (first |refine Fl.v rfl rfl rfl ?_ |refine Fl.nilF ?_ |refine AWP.seq ?_ |refine AWP.region ?_ |refine Fl.b rfl rfl rfl rfl ?_ |refine AWP.condT rfl ?_ |(refine Fl.splitD rfl rfl ?_ ?_ <;> intro _ <;> try (exfalso; omega)) |fail)
      refine Fl.eqV rfl rfl rfl rfl rfl true rfl rfl (fun w => by kernel_rfl) (fun w => by kernel_rfl) ?_
      repeat' (first |refine Fl.v rfl rfl rfl ?_ |fail)
      refine Fl.call rfl (awake_ok) rfl rfl rfl (LeL.refl _) ?_
      repeat' (first |refine Fl.v rfl rfl rfl ?_ |refine Fl.nilF ?_ |refine AWP.ret ?_ |fail)
      exact RetOk.of rfl (AV.Le.refl _)
  · rw [Bool.eq_false_iff.2 hwb] at hW
    repeat' (first |refine Fl.v rfl rfl rfl ?_ |refine Fl.nilF ?_ |refine AWP.seq ?_ |refine AWP.region ?_ |refine Fl.b rfl rfl rfl rfl ?_ |fail)
    refine Fl.call rfl (hW) rfl rfl rfl (LeL.refl _) ?_
    repeat' (first |refine Fl.v rfl rfl rfl ?_ |refine Fl.nilF ?_ |refine AWP.seq ?_ |refine AWP.region ?_ |refine AWP.condT rfl ?_ |fail)
    refine Fl.call rfl (awake_ok) rfl rfl rfl (LeL.refl _) ?_
    repeat' (first |refine Fl.v rfl rfl rfl ?_ |refine Fl.nilF ?_ |refine AWP.ret ?_ |fail)
    exact RetOk.of rfl (AV.Le.refl _)
end Go.Proofs.YtfkjhjgihbnegaaGreat

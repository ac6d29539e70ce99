/- Part 5 of a proof layer and of the contracts of the functions (XH0 XH1 XK0 XK1 XK2 XK3 XK4 XK5). -/
import Derived.ProofKit
import Derived.OpenShut
import Derived.Carry
import Derived.ChangeSame
import Derived.ReadAgain
import Derived.Test.YtfkjhjgihbnegaaRows
import Derived.Deep.Strs
import Derived.Test.YtfkjhjgihbnegaaP4
set_option linter.unusedVariables false
set_option linter.unusedSimpArgs false
/- From what a claim's arguments read as to abstract values over the memory as it stands. -/
namespace Go.AL
/-- all cells of a world -/
def hpOf (w : World) : Hp := fun b => match w.heap[b]? with | some (.cells cs _ _) => some cs | _ => none
theorem hpOf_has (w : World) : Has w (hpOf w) := fun b cs h => by
  unfold hpOf at h
  split at h
  · rename_i cs' t fr hb
    injection h with h; subst h
    exact ⟨t, fr, hb⟩
  · cases h
theorem hcell_of {w : World} {a : Addr} {u : Value} (h : w.cell? a = some u) : hcell (hpOf w) a u := by
  unfold World.cell? at h
  split at h
  · rename_i c t fr hb
    split at h
    · cases h
    · rename_i hs
      exact ⟨by simpa using hs, c, by simp [hpOf, hb], h⟩
  · cases h
theorem mapM_get {α β : Type} {f : α → Option β} : ∀ {l : List α} {r : List β}, l.mapM f = some r → r.length = l.length ∧ ∀ (i : Nat) (x : α) (y : β), l[i]? = some x → r[i]? = some y → f x = some y
  | [], r, h => by
    simp at h; subst h; simp
  | x :: l, r, h => by
    simp only [List.mapM_cons, Option.bind_eq_bind, Option.bind_eq_some_iff, Option.pure_def, Option.some.injEq] at h
    obtain ⟨y, h1, ys, h2, rfl⟩ := h
    obtain ⟨h3, h4⟩ := mapM_get h2
    refine ⟨by simp [h3], fun i a b ha hb => ?_⟩
    cases i with
    | zero => simp at ha hb; subst ha hb; exact h1
    | succ i => exact h4 i a b (by simpa using ha) (by simpa using hb)
theorem cells_of {w : World} {base : Nat} {a : Addr} {n : Nat} {cs : List Value} (h : w.cells? base a n = some cs) : cs.length = n ∧ ∀ (j : Nat) (u : Value), cs[j]? = some u → hcell (hpOf w) (a.add j) u := by
  unfold World.cells? at h
  split at h
  · obtain ⟨h1, h2⟩ := mapM_get h
    rw [List.length_range] at h1
    refine ⟨h1, fun j u hu => hcell_of ?_⟩
    have hj : j < n := by rw [← h1]; exact (List.getElem?_eq_some_iff.1 hu).1
    exact h2 j j u (by simp [hj]) hu
  · cases h
section
variable {H : Type} {enc : TypeId × Value → H} {P : Program} {w : World} {base : Nat} {spare : Nat → Bool} {held : Bool}
theorem trodInt {t : TypeId} {k : IntKind} {fuel : Nat} {cs : List Value} {x : DataW H × List MemPlace} (ht : P.underlying t = some (.int k)) (h : DataW.trod enc P w base spare held fuel t cs = some x) : ∃ n, cs = [.int k n] ∧ (Lit.int k n).wf = true := by
  cases fuel with
  | zero => simp [DataW.trod] at h
  | succ fuel =>
    simp only [DataW.trod, ht] at h
    split at h <;> simp_all
theorem trodBool {t : TypeId} {fuel : Nat} {cs : List Value} {x : DataW H × List MemPlace} (ht : P.underlying t = some .bool) (h : DataW.trod enc P w base spare held fuel t cs = some x) : ∃ b, cs = [.bool b] := by
  cases fuel with
  | zero => simp [DataW.trod] at h
  | succ fuel =>
    simp only [DataW.trod, ht] at h
    split at h <;> simp_all
/-- A slice: so many elements, of each what its cells say. -/
theorem trodSlice {α : Type} (sz : Nat) (en : α → List AV) (Q : α → Prop) {t e : TypeId} {fuel : Nat} {cs : List Value} {x : DataW H × List MemPlace} (ht : P.underlying t = some (.slice e)) (hsz : P.cellsOf e = sz)
    (hel : ∀ (fuel : Nat) (us : List Value) (y : DataW H × List MemPlace), us.length = sz → DataW.trod enc P w base spare held fuel e us = some y → ∃ a, RepL (hpOf w) noB (en a) us ∧ Q a)
    (h : DataW.trod enc P w base spare held fuel t cs = some x) : ∃ (xs : List α) (u : Value), cs = [u] ∧ Rep (hpOf w) noB (.sl sz en xs) u ∧ (∀ a ∈ xs, Q a) ∧ xs.length ≤ maxLen := by
  cases fuel with
  | zero => simp [DataW.trod] at h
  | succ fuel =>
    simp only [DataW.trod, ht] at h
    split at h <;> try (simp_all; done)
    · refine ⟨[], _, rfl, ?_, by simp, by simp [maxLen]⟩
      simp only [Rep]
      exact ⟨none, 0, rfl, by simp, by simp [maxLen], fun i y hy => by simp at hy⟩
    · rename_i e' a len cap heq
      injection heq with heq; injection heq with heq; subst heq
      split at h
      · rename_i hc
        simp only [Option.bind_eq_some_iff] at h
        obtain ⟨elems, h1, _⟩ := h
        obtain ⟨h2, h3⟩ := mapM_get h1
        rw [List.length_range] at h2
        have hall : ∀ i, i < len → ∃ (us : List Value) (a' : α), us.length = sz ∧ (∀ (j : Nat) (u : Value), us[j]? = some u → hcell (hpOf w) ((a.add (i * sz)).add j) u) ∧ RepL (hpOf w) noB (en a') us ∧ Q a' := by
          intro i hi
          have := h3 i i (elems[i]'(by omega)) (by simp [hi]) (List.getElem?_eq_getElem _)
          simp only [Option.bind_eq_some_iff] at this
          obtain ⟨us, hu1, hu2⟩ := this
          rw [hsz] at hu1
          obtain ⟨hu3, hu4⟩ := cells_of hu1
          obtain ⟨a', ha1, ha2⟩ := hel fuel us _ hu3 hu2
          exact ⟨us, a', hu3, hu4, ha1, ha2⟩
        have hex : ∃ xs : List α, xs.length = len ∧ ∀ (i : Nat) (y : α), xs[i]? = some y → ∃ us : List Value, us.length = sz ∧ (∀ (j : Nat) (u : Value), us[j]? = some u → hcell (hpOf w) ((a.add (i * sz)).add j) u) ∧ RepL (hpOf w) noB (en y) us ∧ Q y := by
          have : ∀ n, n ≤ len → ∃ xs : List α, xs.length = n ∧ ∀ (i : Nat) (y : α), xs[i]? = some y → ∃ us : List Value, us.length = sz ∧ (∀ (j : Nat) (u : Value), us[j]? = some u → hcell (hpOf w) ((a.add (i * sz)).add j) u) ∧ RepL (hpOf w) noB (en y) us ∧ Q y := by
            intro n
            induction n with
            | zero => exact fun _ => ⟨[], rfl, fun i y hy => by simp at hy⟩
            | succ n ih =>
              intro hn
              obtain ⟨xs, hx1, hx2⟩ := ih (by omega)
              obtain ⟨us, a', q1, q2, q3, q4⟩ := hall n (by omega)
              refine ⟨xs ++ [a'], by simp [hx1], fun i y hy => ?_⟩
              rw [List.getElem?_append] at hy
              split at hy
              · exact hx2 i y hy
              · rename_i hi
                have hin : i = n := by
                  have := (List.getElem?_eq_some_iff.1 hy).1
                  simp at this; omega
                subst hin
                rw [hx1, Nat.sub_self] at hy
                simp at hy; subst hy
                exact ⟨us, q1, q2, q3, q4⟩
          exact this len (Nat.le_refl _)
        obtain ⟨xs, hx1, hx2⟩ := hex
        refine ⟨xs, _, rfl, ?_, fun y hy => ?_, by omega⟩
        · simp only [Rep]
          refine ⟨some a, cap, by rw [hx1], by omega, by omega, fun i y hy => ?_⟩
          obtain ⟨us, q1, q2, q3, _⟩ := hx2 i y hy
          refine ⟨a, us, rfl, q1, q3, fun j u hu => ?_⟩
          have := q2 j u hu
          have hadd : (a.add (i * sz)).add j = a.add (i * sz + j) := by
            unfold Addr.add
            by_cases k1 : i * sz = 0
            · rw [k1]; simp
            · by_cases k2 : j = 0
              · subst k2; simp [k1]
              · simp [k1, k2, Nat.add_assoc]
          rwa [hadd] at this
        · obtain ⟨i, hi, rfl⟩ := List.mem_iff_getElem.1 hy
          obtain ⟨_, _, _, _, hq⟩ := hx2 i _ (List.getElem?_eq_getElem hi)
          exact hq
      · cases h
end
end Go.AL
namespace Go.AL
/-- what a number in memory is -/
def ZB (z : Z) : Prop := WOk z.w ∧ z.w.length ≤ maxLen
theorem list2 {α : Type} {l : List α} (h : l.length = 2) : ∃ a b, l = [a, b] := by
  match l, h with
  | [a, b], _ => exact ⟨a, b, rfl⟩
theorem list3 {α : Type} {l : List α} (h : l.length = 3) : ∃ a b c, l = [a, b, c] := by
  match l, h with
  | [a, b, c], _ => exact ⟨a, b, c, rfl⟩
end Go.AL
namespace Go.Proofs.Ytfkjhjgihbnegaa
open Go.AL Go.ChangeShapes Go.WideShapes Go.ChangeAt Go.RowKit

section
variable {H : Type} {enc : TypeId × Value → H} {w : World} {base : Nat} {spare : Nat → Bool} {held : Bool}
theorem wfU32 {n : Int} (h : (Lit.int .u32 n).wf = true) : 0 ≤ n ∧ n < 4294967296 := by
  simp [Lit.wf] at h
  have h1 : IntKind.u32.min = 0 := rfl
  have h2 : IntKind.u32.max = 4294967295 := rfl
  omega
theorem wfU8 {n : Int} (h : (Lit.int .u8 n).wf = true) : 0 ≤ n ∧ n ≤ 255 := by
  simp [Lit.wf] at h
  have h1 : IntKind.u8.min = 0 := rfl
  have h2 : IntKind.u8.max = 255 := rfl
  omega
theorem wfI64 {n : Int} (h : (Lit.int .i64 n).wf = true) : -9223372036854775808 ≤ n ∧ n ≤ 9223372036854775807 := by
  simp [Lit.wf] at h
  have h1 : IntKind.i64.min = -9223372036854775808 := rfl
  have h2 : IntKind.i64.max = 9223372036854775807 := rfl
  omega
theorem trodW {fuel : Nat} {cs : List Value} {x : DataW H × List MemPlace} (h : DataW.trod enc Try.prog w base spare held fuel 22 cs = some x) : ∃ (xs : List Int) (u : Value), cs = [u] ∧ Rep (hpOf w) noB (aW xs) u ∧ WOk xs ∧ xs.length ≤ maxLen := by
  refine trodSlice 1 eW (fun n => 0 ≤ n ∧ n < 4294967296) Try.underlying22 (by kernel_rfl) (fun fuel us y _ hy => ?_) h
  obtain ⟨n, rfl, hn⟩ := trodInt Try.underlying25 hy
  exact ⟨n, ⟨_, _, rfl, by simp only [Rep], rfl⟩, wfU32 hn⟩
theorem trodZ {fuel : Nat} {cs : List Value} {x : DataW H × List MemPlace} (h : DataW.trod enc Try.prog w base spare held fuel 24 cs = some x) : ∃ z : Z, RepL (hpOf w) noB (eZ z) cs ∧ ZB z := by
  obtain ⟨y0, y1, n, _, hl, h0, h1⟩ := trod_struct2 Try.underlying24 h
  have hc : Try.prog.cellsOf 24 = 2 := by kernel_rfl
  have hb : Try.prog.cellsOf 4 = 1 := by kernel_rfl
  have hs : Try.prog.cellsOf 22 = 1 := by kernel_rfl
  rw [hc] at hl
  obtain ⟨c0, c1, rfl⟩ := list2 hl
  simp only [hb, hs, List.drop_zero, List.take_succ_cons, List.take_zero, List.drop_succ_cons] at h0 h1
  obtain ⟨b, e0⟩ := trodBool Try.underlying4 h0
  obtain ⟨xs, u, e1, hr, hw, hm⟩ := trodW h1
  injection e0 with e0; injection e1 with e1; subst e0 e1
  exact ⟨⟨b, xs⟩, ⟨_, _, rfl, by simp only [Rep], ⟨_, _, rfl, hr, rfl⟩⟩, hw, hm⟩
end
theorem below_of {W W' : World} {h h' : Hp} (e : Evo never W h W' h') : Below W.heap.size W W' := ⟨e.os, e.tape, e.output, e.size, fun k hk => e.block k hk (fun x => x)⟩
theorem own : ownKnob Try.prog.godebug = none := by kernel_rfl
theorem lb : laidOutB Try.prog = true := by kernel_rfl
end Go.Proofs.Ytfkjhjgihbnegaa
namespace Go.AL
section
variable {P : Program} {tab : Tab} {n : Nat} {s : St}
variable {ops : Array Oper} {draw : Dr} {o : Oper} {l : List Oper} {acc : List Eff} {K : Exit → St → Prop}
/-- sums of ints, as the machine reckons them -/
theorem Fl.sumS {op : BinOp} {t t' : TypeId} {x y : Operand} (hop : o.op = .binOp op t x y t') {m m' c : Int} (hx : opd s x = .v (.int .i64 m)) (hy : opd s y = .v (.int .i64 m')) (hc : arithI op m m' = some c) (hg : gOk ops s o = true) (hd : dOk n o.dst = true)
    (r : Fl P n ops draw l ((Eff.mk (.v (.int .i64 (w64 c))) [] [] [] []).app o.dst s) (Eff.mk (.v (.int .i64 (w64 c))) [] [] [] [] :: acc) K) : Fl P n ops draw (o :: l) s acc K := by
  refine Fl.opv hg (OpJ.of_run (tb := []) (dOk_lt hd) fun C s' a w h β ho _ b => ?_) r
  have hxr := opd_rep b x
  have hyr := opd_rep b y
  rw [ho x (by simp [hop, Op.operands]), hx] at hxr
  rw [ho y (by simp [hop, Op.operands]), hy] at hyr
  simp only [Rep] at hxr hyr
  exact ⟨_, bin_run hop hxr hyr hc, by simp only [Rep]; rw [wrap_i64]; rfl⟩
end
/-- the two orders of exponents -/
theorem ordX_eq : ∀ (a b : List Int) (x y : Int), a.length = b.length → ordX x y a b = if x = y then cmpL a b else cmpI x y
  | [], [], x, y, _ => by
    simp only [ordX, cmpL]
    split
    · rename_i h; rw [cmpI_eq h]
    · rfl
  | [], _ :: _, _, _, h => by simp at h
  | _ :: _, [], _, _, h => by simp at h
  | a :: l, b :: m, x, y, h => by
    simp only [ordX, cmpL]
    split
    · rw [ordX_eq l m a b (by simpa using h)]
      by_cases hab : a = b
      · rw [if_pos hab, if_pos (cmpI_zero.2 hab)]
      · rw [if_neg hab, if_neg fun k => hab (cmpI_zero.1 k)]
    · rfl
theorem cmpI_cases (x y : Int) : cmpI x y = 1 ∧ y < x ∨ cmpI x y = 0 ∧ x = y ∨ cmpI x y = -1 ∧ x < y := by
  unfold cmpI
  split
  · exact .inr (.inr ⟨rfl, by omega⟩)
  · split
    · exact .inl ⟨rfl, by omega⟩
    · exact .inr (.inl ⟨rfl, by omega⟩)
theorem cmpI_swap (x y : Int) : cmpI x y = - cmpI y x := by
  have h1 := cmpI_cases x y
  have h2 := cmpI_cases y x
  omega
theorem cmpL_swap : ∀ (a b : List Int), a.length = b.length → cmpL a b = - cmpL b a
  | [], [], _ => rfl
  | [], _ :: _, h => by simp at h
  | _ :: _, [], h => by simp at h
  | x :: a, y :: b, h => by
    simp only [cmpL]
    have hs := cmpI_swap x y
    by_cases hz : cmpI x y = 0
    · rw [if_pos hz, if_pos (by omega)]; exact cmpL_swap a b (by simpa using h)
    · rw [if_neg hz, if_neg (by omega)]; exact hs
theorem cmpL_range : ∀ (a b : List Int), cmpL a b = 1 ∨ cmpL a b = 0 ∨ cmpL a b = -1
  | [], [] => .inr (.inl rfl)
  | [], _ :: _ => .inr (.inr rfl)
  | _ :: _, [] => .inl rfl
  | x :: a, y :: b => by
    simp only [cmpL]
    split
    · exact cmpL_range a b
    · rcases cmpI_cases x y with h | h | h <;> omega
theorem rOrd_one {a b : List Int} (h : a.length = b.length) : rOrd a b = 1 ↔ ordI a b < 0 := by
  unfold rOrd ordI
  rw [ordX_eq a b _ _ h]
  have hs := cmpL_swap a b h
  have hr := cmpL_range a b
  by_cases hz : sumL a = sumL b
  · rw [if_pos hz, if_pos (by omega)]; omega
  · rw [if_neg hz, if_neg (by omega)]
    rcases cmpI_cases (sumL a) (sumL b) with k | k | k <;> omega
/-- the words' rows are as long as memory lets them be -/
def WLP (p : PZ) : Prop := p.terms.length ≤ 9223372036854775807 ∧ ∀ t ∈ p.terms, t.c.w.length ≤ 9223372036854775807
end Go.AL
namespace Go.Proofs.Ytfkjhjgihbnegaa
open Go.AL

theorem rterm_ok (t : TZ) (vars : Int) (hw : WT t) (hl : t.c.w.length ≤ 9223372036854775807) (hv : vars ≤ 32) (b : Bool) (hb : b = true ↔ OkT vars t) : PureFn Try.prog 97 [aT t, aN vars] (aB b) := by
  refine PureFn.of_body Try.func97 rfl Try.ntmps97 rfl rfl ?_
  have hfalse : ¬ OkT vars t → false = b := fun h => by cases b with | false => rfl | true => exact absurd (hb.1 rfl) h
  repeat' (first |refine Fl.v rfl rfl rfl ?_ |refine Fl.nilF ?_ |refine AWP.seq ?_ |refine AWP.region ?_ |refine Fl.b rfl rfl rfl rfl ?_ |fail)
  refine Fl.call rfl (rValid_ok t.c hw hl) rfl rfl rfl (LeL.refl _) ?_
  repeat' (first |refine Fl.v rfl rfl rfl ?_ |refine Fl.nilF ?_ |refine AWP.seq ?_ |refine AWP.region ?_ |refine Fl.skip rfl rfl ?_ |refine AWP.condT rfl ?_ |refine AWP.ret ?_ |(refine Fl.splitN rfl rfl ?_ ?_ <;> intro _ <;> try (exfalso; omega)) |fail)
  · rename_i h; exact RetOk.of rfl (AV.Le.bool (hfalse fun k => h k.coef))
  refine Fl.call rfl (rZero_ok t.c) rfl rfl rfl (LeL.refl _) ?_
  repeat' (first |refine Fl.v rfl rfl rfl ?_ |refine Fl.nilF ?_ |refine AWP.seq ?_ |refine AWP.region ?_ |refine Fl.skip rfl rfl ?_ |refine AWP.condT rfl ?_ |(refine AWP.condN rfl ?_ ?_ <;> intro _ <;> try (exfalso; omega)) |refine AWP.block ?_ |refine AWP.skip ?_ |refine AWP.ret ?_ |(refine Fl.splitD rfl rfl ?_ ?_ <;> intro _ <;> try (exfalso; omega)) |fail)
  · rename_i h; exact RetOk.of rfl (AV.Le.bool (hfalse fun k => k.nz h))
  · rename_i h; exact RetOk.of rfl (AV.Le.bool (hfalse fun k => h k.len))
  rename_i hc hz hlen
  refine AWP.loop (G := Nat) (fun i => i ≤ t.e.length ∧ EOk (t.e.take i)) (fun i => St.of [] [(1, aN vars), (2, .ptr 2 0), (5, aN i)] [(2, .cells (eT t) 64)]) (fun i => t.e.length - i) 0 ⟨by omega, fun e he => by simp at he⟩ ?_ ?_
  · refine Ent.of [] ?_ ?_ rfl rfl
    repeat' (first | exact True.intro |refine ⟨⟨AV.Le.refl _, rfl⟩, ?_⟩ |refine ⟨⟨⟨_, rfl, BLe.cells (LeL.refl _)⟩, rfl⟩, ?_⟩ |refine ⟨⟨⟨_, rfl, BLe.row rfl⟩, rfl⟩, ?_⟩ |refine ⟨⟨⟨_, rfl, BLe.row ?_⟩, rfl⟩, ?_⟩ |refine ⟨⟨⟨_, rfl, BLe.cells ?_⟩, rfl⟩, ?_⟩ |refine ⟨⟨AV.Le.int ?_, rfl⟩, ?_⟩ |refine ⟨⟨AV.Le.bool ?_, rfl⟩, ?_⟩ |refine ⟨⟨AV.Le.sl ?_, rfl⟩, ?_⟩ |refine ⟨⟨AV.Le.of_eq ?_, rfl⟩, ?_⟩ | fail)
  · intro i ⟨k0, k1⟩
    repeat' (first |refine Fl.v rfl rfl rfl ?_ |refine Fl.nilF ?_ |refine AWP.seq ?_ |refine AWP.region ?_ |refine Fl.w rfl rfl rfl (by first | exact True.intro | omega) ?_ |refine Fl.skip rfl rfl ?_ |refine AWP.condT rfl ?_ |(refine AWP.condD rfl ?_ ?_ <;> intro _ <;> try (exfalso; omega)) |refine AWP.block ?_ |refine AWP.skip ?_ |refine AWP.exit ?_ |refine AWP.ret ?_ |refine Fl.elK rfl rfl rfl rfl rfl rfl rfl rfl (by assumption) (by omega) ?_ |(refine Fl.el rfl rfl rfl rfl rfl rfl rfl rfl (by omega) (by omega) ?_; intro _ _) |(refine Fl.splitD rfl rfl ?_ ?_ <;> intro _ <;> try (exfalso; omega)) |fail)
    · rename_i hi e he h0
      rw [Int.toNat_natCast] at he
      exact RetOk.of rfl (AV.Le.bool (hfalse fun k => by have := k.exps.get he; omega))
    · rename_i hi e he h0 h1
      rw [Int.toNat_natCast] at he
      exact RetOk.of rfl (AV.Le.bool (hfalse fun k => by have := k.exps.get he; omega))
    · rename_i hi e he h0 h1
      rw [Int.toNat_natCast] at he
      refine LoopEnd.of (i + 1) ⟨by omega, ?_⟩ (by omega) ?_
      · rw [take_snoc he]
        intro x hx
        rcases List.mem_append.1 hx with hx | hx
        · exact k1 x hx
        · simp only [List.mem_singleton] at hx; subst hx; omega
      · refine Ent.of [] ?_ ?_ rfl rfl
        repeat' (first | exact True.intro |refine ⟨⟨AV.Le.refl _, rfl⟩, ?_⟩ |refine ⟨⟨⟨_, rfl, BLe.cells (LeL.refl _)⟩, rfl⟩, ?_⟩ |refine ⟨⟨⟨_, rfl, BLe.row rfl⟩, rfl⟩, ?_⟩ |refine ⟨⟨⟨_, rfl, BLe.row ?_⟩, rfl⟩, ?_⟩ |refine ⟨⟨⟨_, rfl, BLe.cells ?_⟩, rfl⟩, ?_⟩ |refine ⟨⟨AV.Le.int ?_, rfl⟩, ?_⟩ |refine ⟨⟨AV.Le.bool ?_, rfl⟩, ?_⟩ |refine ⟨⟨AV.Le.sl ?_, rfl⟩, ?_⟩ |refine ⟨⟨AV.Le.of_eq ?_, rfl⟩, ?_⟩ | fail)
    · rename_i hi
      have hee : EOk t.e := by rwa [List.take_of_length_le (by omega)] at k1
      refine Fl.call rfl (rdegree_ok t.e hee (by omega)) rfl rfl rfl (LeL.refl _) ?_
      repeat' (first |refine Fl.v rfl rfl rfl ?_ |refine Fl.nilF ?_ |refine AWP.ret ?_ |fail)
      refine RetOk.of rfl (AV.Le.bool ?_)
      cases b with
      | true => exact decide_eq_true (hb.1 rfl).deg
      | false => exact decide_eq_false fun k => by have := hb.2 ⟨hc, hz, hlen, hee, k⟩; cases this
theorem rpValid_ok (p : PZ) (hw : WP p) (hl : WLP p) (b : Bool) (hb : b = true ↔ OkP p) : PureFn Try.prog 82 [aP p] (aB b) := by
  refine PureFn.of_body Try.func82 rfl Try.ntmps82 rfl rfl ?_
  have hfalse : ¬ OkP p → false = b := fun h => by cases b with | false => rfl | true => exact absurd (hb.1 rfl) h
  obtain ⟨f, hf⟩ := boolOf (fun t : TZ => OkT p.vars t)
  repeat' (first |refine Fl.v rfl rfl rfl ?_ |refine Fl.nilF ?_ |refine AWP.seq ?_ |refine AWP.region ?_ |refine Fl.b rfl rfl rfl rfl ?_ |refine Fl.skip rfl rfl ?_ |refine AWP.condT rfl ?_ |(refine AWP.condD rfl ?_ ?_ <;> intro _ <;> try (exfalso; omega)) |refine AWP.block ?_ |refine AWP.skip ?_ |refine AWP.ret ?_ |(refine Fl.splitD rfl rfl ?_ ?_ <;> intro _ <;> try (exfalso; omega)) |fail)
  · rename_i h; exact RetOk.of rfl (AV.Le.bool (hfalse fun k => by have := k.v0; omega))
  · rename_i h; exact RetOk.of rfl (AV.Le.bool (hfalse fun k => by have := k.v1; omega))
  · rename_i h; exact RetOk.of rfl (AV.Le.bool (hfalse fun k => by have := k.len; omega))
  rename_i hv0 hv1 hlen
  refine AWP.loop (G := Nat) (fun i => i ≤ p.terms.length ∧ (∀ t ∈ p.terms.take i, OkT p.vars t) ∧ ∀ (j : Nat) (a b : TZ), j + 1 < i → p.terms[j]? = some a → p.terms[j + 1]? = some b → ordI a.e b.e < 0)
    (fun i => St.of [] [(1, .ptr 1 0), (3, aN i)] [(1, .cells [aN p.vars, .sl 3 eT p.terms] 30)]) (fun i => p.terms.length - i) 0 ⟨by omega, by simp, fun j a b h => by omega⟩ ?_ ?_
  · refine Ent.of [] ?_ ?_ rfl rfl
    repeat' (first | exact True.intro |refine ⟨⟨AV.Le.refl _, rfl⟩, ?_⟩ |refine ⟨⟨⟨_, rfl, BLe.cells (LeL.refl _)⟩, rfl⟩, ?_⟩ |refine ⟨⟨⟨_, rfl, BLe.row rfl⟩, rfl⟩, ?_⟩ |refine ⟨⟨⟨_, rfl, BLe.row ?_⟩, rfl⟩, ?_⟩ |refine ⟨⟨⟨_, rfl, BLe.cells ?_⟩, rfl⟩, ?_⟩ |refine ⟨⟨AV.Le.int ?_, rfl⟩, ?_⟩ |refine ⟨⟨AV.Le.bool ?_, rfl⟩, ?_⟩ |refine ⟨⟨AV.Le.sl ?_, rfl⟩, ?_⟩ |refine ⟨⟨AV.Le.of_eq ?_, rfl⟩, ?_⟩ | fail)
  · intro i ⟨k0, k1, k2⟩
    by_cases hi : i < p.terms.length
    · obtain ⟨t, ht⟩ : ∃ t, p.terms[i]? = some t := ⟨_, List.getElem?_eq_getElem hi⟩
      have htm := List.mem_of_getElem? ht
      have hall : ¬ OkT p.vars t → ¬ OkP p := fun h k => h (k.terms t htm)
      have hte := rterm_ok t p.vars (hw t htm) (hl.2 t htm) (by omega) (f t) (hf t)
      by_cases hot : OkT p.vars t
      · rw [(hf t).2 hot] at hte
        by_cases hi0 : 0 < i
        · obtain ⟨a, ha⟩ : ∃ a, p.terms[i - 1]? = some a := ⟨_, List.getElem?_eq_getElem (by omega)⟩
          have ha' : p.terms[((i : Int) - 1).toNat]? = some a := by rwa [show ((i : Int) - 1).toNat = i - 1 by omega]
          have hoa := k1 a (List.mem_of_getElem? (i := i - 1) (by rw [List.getElem?_take_of_lt (by omega)]; exact ha))
          have hleq : a.e.length = t.e.length := by have := hoa.len; have := hot.len; omega
          have hord := rOrder_ok a.e t.e hoa.exps hot.exps (by have := hoa.len; omega) hleq.symm
          have hone := rOrd_one hleq
          repeat' (first |refine Fl.v rfl rfl rfl ?_ |refine Fl.nilF ?_ |refine AWP.seq ?_ |refine AWP.region ?_ |(refine AWP.condD rfl ?_ ?_ <;> intro _ <;> try (exfalso; omega)) |refine AWP.block ?_ |refine AWP.skip ?_ |refine Fl.elK rfl rfl rfl rfl rfl rfl rfl rfl (by assumption) (by omega) ?_ |fail)
          refine Fl.call rfl (hte) rfl rfl rfl (LeL.refl _) ?_
          repeat' (first |refine Fl.v rfl rfl rfl ?_ |refine Fl.w rfl rfl rfl (by first | exact True.intro | omega) ?_ |refine Fl.elK rfl rfl rfl rfl rfl rfl rfl rfl (by assumption) (by omega) ?_ |(refine Fl.splitD rfl rfl ?_ ?_ <;> intro _ <;> try (exfalso; omega)) |fail)
          refine Fl.call rfl (hord) rfl rfl rfl (LeL.refl _) ?_
          repeat' (first |refine Fl.v rfl rfl rfl ?_ |refine Fl.nilF ?_ |refine Fl.nil (fun _ => by kernel_rfl) ?_ |refine AWP.seq ?_ |refine AWP.region ?_ |refine Fl.w rfl rfl rfl (by first | exact True.intro | omega) ?_ |(refine AWP.condN rfl ?_ ?_ <;> intro _ <;> try (exfalso; omega)) |refine AWP.skip ?_ |refine AWP.ret ?_ |fail)
          · rename_i ho
            refine RetOk.of rfl (AV.Le.bool (hfalse fun k => ho (hone.2 (k.ord (i - 1) a t ha (by rwa [show i - 1 + 1 = i by omega])))))
          · rename_i ho
            refine LoopEnd.of (i + 1) ⟨by omega, all_take_succ ht k1 hot, fun j a' b' hj h1 h2 => ?_⟩ (by omega) ?_
            · by_cases hji : j + 1 < i
              · exact k2 j a' b' hji h1 h2
              · have hj' : j = i - 1 := by omega
                subst hj'
                rw [ha] at h1; cases h1
                rw [show i - 1 + 1 = i by omega, ht] at h2; cases h2
                exact hone.1 ho
            · refine Ent.of [] ?_ ?_ rfl rfl
              repeat' (first | exact True.intro |refine ⟨⟨AV.Le.refl _, rfl⟩, ?_⟩ |refine ⟨⟨⟨_, rfl, BLe.cells (LeL.refl _)⟩, rfl⟩, ?_⟩ |refine ⟨⟨⟨_, rfl, BLe.row rfl⟩, rfl⟩, ?_⟩ |refine ⟨⟨⟨_, rfl, BLe.row ?_⟩, rfl⟩, ?_⟩ |refine ⟨⟨⟨_, rfl, BLe.cells ?_⟩, rfl⟩, ?_⟩ |refine ⟨⟨AV.Le.int ?_, rfl⟩, ?_⟩ |refine ⟨⟨AV.Le.bool ?_, rfl⟩, ?_⟩ |refine ⟨⟨AV.Le.sl ?_, rfl⟩, ?_⟩ |refine ⟨⟨AV.Le.of_eq ?_, rfl⟩, ?_⟩ | fail)
        · repeat' (first |refine Fl.v rfl rfl rfl ?_ |refine Fl.nilF ?_ |refine AWP.seq ?_ |refine AWP.region ?_ |(refine AWP.condD rfl ?_ ?_ <;> intro _ <;> try (exfalso; omega)) |refine AWP.block ?_ |refine AWP.skip ?_ |refine Fl.elK rfl rfl rfl rfl rfl rfl rfl rfl (by assumption) (by omega) ?_ |fail)
          refine Fl.call rfl (hte) rfl rfl rfl (LeL.refl _) ?_
          repeat' (first |refine Fl.v rfl rfl rfl ?_ |refine Fl.nilF ?_ |refine Fl.nil (fun _ => by kernel_rfl) ?_ |refine AWP.region ?_ |refine Fl.w rfl rfl rfl (by first | exact True.intro | omega) ?_ |refine Fl.skip rfl rfl ?_ |refine AWP.condF rfl ?_ |refine AWP.skip ?_ |(refine Fl.splitD rfl rfl ?_ ?_ <;> intro _ <;> try (exfalso; omega)) |fail)
          refine LoopEnd.of (i + 1) ⟨by omega, all_take_succ ht k1 hot, fun j a' b' hj h1 h2 => by omega⟩ (by omega) ?_
          refine Ent.of [] ?_ ?_ rfl rfl
          repeat' (first | exact True.intro |refine ⟨⟨AV.Le.refl _, rfl⟩, ?_⟩ |refine ⟨⟨⟨_, rfl, BLe.cells (LeL.refl _)⟩, rfl⟩, ?_⟩ |refine ⟨⟨⟨_, rfl, BLe.row rfl⟩, rfl⟩, ?_⟩ |refine ⟨⟨⟨_, rfl, BLe.row ?_⟩, rfl⟩, ?_⟩ |refine ⟨⟨⟨_, rfl, BLe.cells ?_⟩, rfl⟩, ?_⟩ |refine ⟨⟨AV.Le.int ?_, rfl⟩, ?_⟩ |refine ⟨⟨AV.Le.bool ?_, rfl⟩, ?_⟩ |refine ⟨⟨AV.Le.sl ?_, rfl⟩, ?_⟩ |refine ⟨⟨AV.Le.of_eq ?_, rfl⟩, ?_⟩ | fail)
      · rw [show f t = false from Bool.eq_false_iff.2 fun h => hot ((hf t).1 h)] at hte
        repeat' (first |refine Fl.v rfl rfl rfl ?_ |refine Fl.nilF ?_ |refine AWP.seq ?_ |refine AWP.region ?_ |(refine AWP.condD rfl ?_ ?_ <;> intro _ <;> try (exfalso; omega)) |refine AWP.block ?_ |refine AWP.skip ?_ |refine Fl.elK rfl rfl rfl rfl rfl rfl rfl rfl (by assumption) (by omega) ?_ |fail)
        refine Fl.call rfl (hte) rfl rfl rfl (LeL.refl _) ?_
        repeat' (first |refine Fl.v rfl rfl rfl ?_ |refine Fl.nilF ?_ |refine Fl.nil (fun _ => by kernel_rfl) ?_ |refine AWP.seq ?_ |refine AWP.region ?_ |refine Fl.skip rfl rfl ?_ |refine AWP.condT rfl ?_ |refine AWP.ret ?_ |fail)
        exact RetOk.of rfl (AV.Le.bool (hfalse (hall hot)))
    · repeat' (first |refine Fl.v rfl rfl rfl ?_ |refine Fl.nilF ?_ |refine AWP.seq ?_ |refine AWP.region ?_ |(refine AWP.condD rfl ?_ ?_ <;> intro _ <;> try (exfalso; omega)) |refine AWP.exit ?_ |refine AWP.ret ?_ |fail)
      refine RetOk.of rfl (AV.Le.bool (Eq.symm (hb.2 ⟨by omega, by omega, by omega, fun t ht => k1 t ?_, fun j a b ha hb => k2 j a b ?_ ha hb⟩)))
      · rwa [show i = p.terms.length by omega, List.take_length]
      · have := (List.getElem?_eq_some_iff.1 hb).1
        omega
end Go.Proofs.Ytfkjhjgihbnegaa
namespace Go.AL
def needJ (k : Int) : Int := if k = 0 then 1 else if k = 1 then 3 else if k = 2 then 3 else if k = 3 then 2 else -1
theorem needJ_iff (k : Int) (n : Nat) : (n : Int) = needJ k ↔ needI k ≠ 0 ∧ (n : Int) = needI k := by
  unfold needJ needI
  repeat' split
  all_goals omega
theorem needJ_le (k : Int) : needJ k ≤ 3 := by unfold needJ; repeat' split <;> omega
def WLL (l : LZ) : Prop := l.polys.length ≤ 9223372036854775807 ∧ ∀ p ∈ l.polys, WLP p
def WLS (s : SZ) : Prop := ∀ l ∈ s.links, WLL l
theorem incB_get {top : Int} : ∀ {l : List Int} {last : Int} {i : Nat} {v : Int}, incB last top l → l[i]? = some v → last < v ∧ v < top ∧ ∀ u, i ≠ 0 → l[i - 1]? = some u → u < v
  | [], _, _, _, _, h => by simp at h
  | x :: l, last, 0, v, ⟨h1, h2, h3⟩, h => by
    simp at h; subst h
    exact ⟨h1, h2, fun u h => absurd rfl h⟩
  | x :: l, last, i + 1, v, ⟨h1, h2, h3⟩, h => by
    have h' : l[i]? = some v := by simpa using h
    obtain ⟨g1, g2, g3⟩ := incB_get h3 h'
    refine ⟨by omega, g2, fun u _ hu => ?_⟩
    cases i with
    | zero => simp at hu; omega
    | succ i => exact g3 u (by omega) (by simpa using hu)
theorem incB_snoc {top : Int} : ∀ {l : List Int} {last v : Int}, incB last top l → last < v → v < top → (∀ u ∈ l.getLast?, u < v) → incB last top (l ++ [v])
  | [], last, v, _, h1, h2, _ => ⟨h1, h2, trivial⟩
  | x :: l, last, v, ⟨g1, g2, g3⟩, h1, h2, h => by
    cases l with
    | nil => exact ⟨g1, g2, h x rfl, h2, trivial⟩
    | cons y l =>
      refine ⟨g1, g2, incB_snoc g3 ?_ h2 (by simpa using h)⟩
      have hl : ∀ u ∈ (y :: l), x < u := fun u hu => (incB_mem g3 hu).1
      have := h ((y :: l).getLast (by simp)) (by simp [List.getLast?_cons_cons, List.getLast?_eq_some_getLast (l := y :: l) (by simp)])
      have := hl _ (List.getLast_mem (l := y :: l) (by simp))
      omega
end Go.AL
namespace Go.Proofs.Ytfkjhjgihbnegaa
open Go.AL

theorem rneeds_ok (k : Int) : PureFn Try.prog 81 [aN k] (aN (needJ k)) := by
  refine PureFn.of_body Try.func81 rfl Try.ntmps81 rfl rfl ?_
  repeat' (first |refine Fl.v rfl rfl rfl ?_ |refine Fl.nilF ?_ |refine AWP.seq ?_ |refine AWP.region ?_ |(refine AWP.condD rfl ?_ ?_ <;> intro _ <;> try (exfalso; omega)) |refine AWP.block ?_ |refine AWP.skip ?_ |refine AWP.ret ?_ |fail)
  all_goals exact RetOk.of rfl (AV.Le.int (by unfold needJ; repeat' split <;> omega))

set_option maxHeartbeats 1000000 in
theorem rLink_ok (l : LZ) (vars : Int) (hw : WL l) (hl : WLL l) (b : Bool) (hb : b = true ↔ OkL vars l) : PureFn Try.prog 53 [aL l, aN vars] (aB b) := by
  refine PureFn.of_body Try.func53 rfl Try.ntmps53 rfl rfl ?_
  have hfalse : ¬ OkL vars l → false = b := fun h => by cases b with | false => rfl | true => exact absurd (hb.1 rfl) h
  obtain ⟨f, hf⟩ := boolOf (fun p : PZ => OkP p)
  have hnj := needJ_le l.kind
  have hni := needJ_iff l.kind l.polys.length
  repeat' (first |refine Fl.v rfl rfl rfl ?_ |refine Fl.nilF ?_ |refine Fl.nil (fun _ => by kernel_rfl) ?_ |refine AWP.seq ?_ |refine AWP.region ?_ |refine Fl.b rfl rfl rfl rfl ?_ |refine Fl.skip rfl rfl ?_ |refine AWP.condT rfl ?_ |refine AWP.ret ?_ |(refine Fl.splitD rfl rfl ?_ ?_ <;> intro _ <;> try (exfalso; omega)) |fail)
  · rename_i h; exact RetOk.of rfl (AV.Le.bool (hfalse fun k => by have := k.vlen; omega))
  refine Fl.call rfl (rneeds_ok l.kind) rfl rfl rfl (LeL.refl _) ?_
  repeat' (first |refine Fl.v rfl rfl rfl ?_ |refine Fl.nilF ?_ |refine Fl.nil (fun _ => by kernel_rfl) ?_ |refine AWP.seq ?_ |refine AWP.region ?_ |(refine AWP.condN rfl ?_ ?_ <;> intro _ <;> try (exfalso; omega)) |refine AWP.block ?_ |refine AWP.skip ?_ |refine AWP.ret ?_ |fail)
  · rename_i h; exact RetOk.of rfl (AV.Le.bool (hfalse fun k => h (hni.2 ⟨k.kind, k.len⟩)))
  rename_i hvl hlen
  obtain ⟨hk, hlen'⟩ := hni.1 (by omega)
  refine AWP.loop (G := Nat) (fun i => i ≤ l.vars.length ∧ incB (-1) vars (l.vars.take i)) (fun i => St.of [] [(1, aN vars), (2, .ptr 2 0), (5, aN i)] [(2, .cells (eL l) 39)]) (fun i => l.vars.length - i) 0 ⟨by omega, trivial⟩ ?_ ?_
  · refine Ent.of [] ?_ ?_ rfl rfl
    repeat' (first | exact True.intro |refine ⟨⟨AV.Le.refl _, rfl⟩, ?_⟩ |refine ⟨⟨⟨_, rfl, BLe.cells (LeL.refl _)⟩, rfl⟩, ?_⟩ |refine ⟨⟨⟨_, rfl, BLe.row rfl⟩, rfl⟩, ?_⟩ |refine ⟨⟨⟨_, rfl, BLe.row ?_⟩, rfl⟩, ?_⟩ |refine ⟨⟨⟨_, rfl, BLe.cells ?_⟩, rfl⟩, ?_⟩ |refine ⟨⟨AV.Le.int ?_, rfl⟩, ?_⟩ |refine ⟨⟨AV.Le.bool ?_, rfl⟩, ?_⟩ |refine ⟨⟨AV.Le.sl ?_, rfl⟩, ?_⟩ |refine ⟨⟨AV.Le.of_eq ?_, rfl⟩, ?_⟩ | fail)
  · intro i ⟨k0, k1⟩
    by_cases hi : i < l.vars.length
    · obtain ⟨v, hv⟩ : ∃ v, l.vars[i]? = some v := ⟨_, List.getElem?_eq_getElem hi⟩
      by_cases hv0 : v < 0
      · have hbad : false = b := hfalse fun k => by have := incB_get k.inc hv; omega
        repeat' (first |refine Fl.v rfl rfl rfl ?_ |refine Fl.nilF ?_ |refine Fl.nil (fun _ => by kernel_rfl) ?_ |refine AWP.seq ?_ |refine AWP.region ?_ |refine Fl.skip rfl rfl ?_ |refine AWP.condT rfl ?_ |(refine AWP.condD rfl ?_ ?_ <;> intro _ <;> try (exfalso; omega)) |refine AWP.block ?_ |refine AWP.skip ?_ |refine AWP.ret ?_ |refine Fl.elK rfl rfl rfl rfl rfl rfl rfl rfl (by assumption) (by omega) ?_ |(refine Fl.splitD rfl rfl ?_ ?_ <;> intro _ <;> try (exfalso; omega)) |fail)
        all_goals exact RetOk.of rfl (AV.Le.bool hbad)
      · by_cases hvt : vars ≤ v
        · have hbad : false = b := hfalse fun k => by have := incB_get k.inc hv; omega
          repeat' (first |refine Fl.v rfl rfl rfl ?_ |refine Fl.nilF ?_ |refine Fl.nil (fun _ => by kernel_rfl) ?_ |refine AWP.seq ?_ |refine AWP.region ?_ |refine Fl.skip rfl rfl ?_ |refine AWP.condT rfl ?_ |(refine AWP.condD rfl ?_ ?_ <;> intro _ <;> try (exfalso; omega)) |refine AWP.block ?_ |refine AWP.skip ?_ |refine AWP.ret ?_ |refine Fl.elK rfl rfl rfl rfl rfl rfl rfl rfl (by assumption) (by omega) ?_ |(refine Fl.splitD rfl rfl ?_ ?_ <;> intro _ <;> try (exfalso; omega)) |fail)
          all_goals exact RetOk.of rfl (AV.Le.bool hbad)
        · by_cases hi0 : 0 < i
          · obtain ⟨u, hu⟩ : ∃ u, l.vars[i - 1]? = some u := ⟨_, List.getElem?_eq_getElem (by omega)⟩
            have hu' : l.vars[((i : Int) - 1).toNat]? = some u := by rwa [show ((i : Int) - 1).toNat = i - 1 by omega]
            by_cases huv : u < v
            · repeat' (first |refine Fl.v rfl rfl rfl ?_ |refine Fl.nilF ?_ |refine Fl.nil (fun _ => by kernel_rfl) ?_ |refine AWP.seq ?_ |refine AWP.region ?_ |refine Fl.w rfl rfl rfl (by first | exact True.intro | omega) ?_ |(refine AWP.condD rfl ?_ ?_ <;> intro _ <;> try (exfalso; omega)) |refine AWP.block ?_ |refine AWP.skip ?_ |refine Fl.elK rfl rfl rfl rfl rfl rfl rfl rfl (by assumption) (by omega) ?_ |(refine Fl.splitD rfl rfl ?_ ?_ <;> intro _ <;> try (exfalso; omega)) |fail)
              refine LoopEnd.of (i + 1) ⟨by omega, ?_⟩ (by omega) ?_
              · rw [take_snoc hv]
                refine incB_snoc k1 (by omega) (by omega) fun y hy => ?_
                rw [List.getLast?_eq_getElem?, List.length_take_of_le (by omega), List.getElem?_take_of_lt (by omega), hu] at hy
                injection hy with hy
                omega
              · refine Ent.of [] ?_ ?_ rfl rfl
                repeat' (first | exact True.intro |refine ⟨⟨AV.Le.refl _, rfl⟩, ?_⟩ |refine ⟨⟨⟨_, rfl, BLe.cells (LeL.refl _)⟩, rfl⟩, ?_⟩ |refine ⟨⟨⟨_, rfl, BLe.row rfl⟩, rfl⟩, ?_⟩ |refine ⟨⟨⟨_, rfl, BLe.row ?_⟩, rfl⟩, ?_⟩ |refine ⟨⟨⟨_, rfl, BLe.cells ?_⟩, rfl⟩, ?_⟩ |refine ⟨⟨AV.Le.int ?_, rfl⟩, ?_⟩ |refine ⟨⟨AV.Le.bool ?_, rfl⟩, ?_⟩ |refine ⟨⟨AV.Le.sl ?_, rfl⟩, ?_⟩ |refine ⟨⟨AV.Le.of_eq ?_, rfl⟩, ?_⟩ | fail)
            · have hbad : false = b := hfalse fun k => by have := (incB_get k.inc hv).2.2 u (by omega) hu; omega
              repeat' (first |refine Fl.v rfl rfl rfl ?_ |refine Fl.nilF ?_ |refine Fl.nil (fun _ => by kernel_rfl) ?_ |refine AWP.seq ?_ |refine AWP.region ?_ |refine Fl.w rfl rfl rfl (by first | exact True.intro | omega) ?_ |(refine AWP.condD rfl ?_ ?_ <;> intro _ <;> try (exfalso; omega)) |refine AWP.block ?_ |refine AWP.skip ?_ |refine AWP.ret ?_ |refine Fl.elK rfl rfl rfl rfl rfl rfl rfl rfl (by assumption) (by omega) ?_ |(refine Fl.splitD rfl rfl ?_ ?_ <;> intro _ <;> try (exfalso; omega)) |fail)
              all_goals exact RetOk.of rfl (AV.Le.bool hbad)
          · repeat' (first |refine Fl.v rfl rfl rfl ?_ |refine Fl.nilF ?_ |refine Fl.nil (fun _ => by kernel_rfl) ?_ |refine AWP.seq ?_ |refine AWP.region ?_ |refine Fl.w rfl rfl rfl (by first | exact True.intro | omega) ?_ |refine Fl.skip rfl rfl ?_ |refine AWP.condF rfl ?_ |(refine AWP.condD rfl ?_ ?_ <;> intro _ <;> try (exfalso; omega)) |refine AWP.block ?_ |refine AWP.skip ?_ |refine Fl.elK rfl rfl rfl rfl rfl rfl rfl rfl (by assumption) (by omega) ?_ |(refine Fl.splitD rfl rfl ?_ ?_ <;> intro _ <;> try (exfalso; omega)) |fail)
            refine LoopEnd.of (i + 1) ⟨by omega, ?_⟩ (by omega) ?_
            · rw [take_snoc hv, show i = 0 by omega, List.take_zero, List.nil_append]
              exact ⟨by omega, by omega, trivial⟩
            · refine Ent.of [] ?_ ?_ rfl rfl
              repeat' (first | exact True.intro |refine ⟨⟨AV.Le.refl _, rfl⟩, ?_⟩ |refine ⟨⟨⟨_, rfl, BLe.cells (LeL.refl _)⟩, rfl⟩, ?_⟩ |refine ⟨⟨⟨_, rfl, BLe.row rfl⟩, rfl⟩, ?_⟩ |refine ⟨⟨⟨_, rfl, BLe.row ?_⟩, rfl⟩, ?_⟩ |refine ⟨⟨⟨_, rfl, BLe.cells ?_⟩, rfl⟩, ?_⟩ |refine ⟨⟨AV.Le.int ?_, rfl⟩, ?_⟩ |refine ⟨⟨AV.Le.bool ?_, rfl⟩, ?_⟩ |refine ⟨⟨AV.Le.sl ?_, rfl⟩, ?_⟩ |refine ⟨⟨AV.Le.of_eq ?_, rfl⟩, ?_⟩ | fail)
    · have hinc : incB (-1) vars l.vars := by rwa [List.take_of_length_le (by omega)] at k1
      repeat' (first |refine Fl.v rfl rfl rfl ?_ |refine Fl.nilF ?_ |refine AWP.seq ?_ |refine AWP.region ?_ |(refine AWP.condD rfl ?_ ?_ <;> intro _ <;> try (exfalso; omega)) |refine AWP.block ?_ |refine AWP.exit ?_ |fail)
      refine AWP.loop (G := Nat) (fun i => i ≤ l.polys.length ∧ ∀ p ∈ l.polys.take i, p.vars = l.vars.length ∧ OkP p) (fun i => St.of [] [(2, .ptr 2 0), (6, aN i)] [(2, .cells (eL l) 39)]) (fun i => l.polys.length - i) 0 ⟨by omega, by simp⟩ ?_ ?_
      · refine Ent.of [] ?_ ?_ rfl rfl
        repeat' (first | exact True.intro |refine ⟨⟨AV.Le.refl _, rfl⟩, ?_⟩ |refine ⟨⟨⟨_, rfl, BLe.cells (LeL.refl _)⟩, rfl⟩, ?_⟩ |refine ⟨⟨⟨_, rfl, BLe.row rfl⟩, rfl⟩, ?_⟩ |refine ⟨⟨⟨_, rfl, BLe.row ?_⟩, rfl⟩, ?_⟩ |refine ⟨⟨⟨_, rfl, BLe.cells ?_⟩, rfl⟩, ?_⟩ |refine ⟨⟨AV.Le.int ?_, rfl⟩, ?_⟩ |refine ⟨⟨AV.Le.bool ?_, rfl⟩, ?_⟩ |refine ⟨⟨AV.Le.sl ?_, rfl⟩, ?_⟩ |refine ⟨⟨AV.Le.of_eq ?_, rfl⟩, ?_⟩ | fail)
      · clear k1 k0; intro i ⟨k0, k1⟩
        by_cases hi : i < l.polys.length
        · obtain ⟨p, hp⟩ : ∃ p, l.polys[i]? = some p := ⟨_, List.getElem?_eq_getElem hi⟩
          have hpm := List.mem_of_getElem? hp
          have hte := rpValid_ok p (hw p hpm) (hl.2 p hpm) (f p) (hf p)
          by_cases hpv : p.vars = l.vars.length
          · by_cases hop : OkP p
            · rw [(hf p).2 hop] at hte
              repeat' (first |refine Fl.v rfl rfl rfl ?_ |refine Fl.nilF ?_ |refine AWP.seq ?_ |refine AWP.region ?_ |(refine AWP.condD rfl ?_ ?_ <;> intro _ <;> try (exfalso; omega)) |refine AWP.block ?_ |refine AWP.skip ?_ |refine Fl.elK rfl rfl rfl rfl rfl rfl rfl rfl (by assumption) (by omega) ?_ |(refine Fl.splitN rfl rfl ?_ ?_ <;> intro _ <;> try (exfalso; omega)) |fail)
              refine Fl.call rfl (hte) rfl rfl rfl (LeL.refl _) ?_
              repeat' (first |refine Fl.v rfl rfl rfl ?_ |refine Fl.nilF ?_ |refine Fl.nil (fun _ => by kernel_rfl) ?_ |refine AWP.region ?_ |refine Fl.w rfl rfl rfl (by first | exact True.intro | omega) ?_ |refine AWP.condF rfl ?_ |refine AWP.skip ?_ |fail)
              refine LoopEnd.of (i + 1) ⟨by omega, all_take_succ hp k1 ⟨hpv, hop⟩⟩ (by omega) ?_
              refine Ent.of [] ?_ ?_ rfl rfl
              repeat' (first | exact True.intro |refine ⟨⟨AV.Le.refl _, rfl⟩, ?_⟩ |refine ⟨⟨⟨_, rfl, BLe.cells (LeL.refl _)⟩, rfl⟩, ?_⟩ |refine ⟨⟨⟨_, rfl, BLe.row rfl⟩, rfl⟩, ?_⟩ |refine ⟨⟨⟨_, rfl, BLe.row ?_⟩, rfl⟩, ?_⟩ |refine ⟨⟨⟨_, rfl, BLe.cells ?_⟩, rfl⟩, ?_⟩ |refine ⟨⟨AV.Le.int ?_, rfl⟩, ?_⟩ |refine ⟨⟨AV.Le.bool ?_, rfl⟩, ?_⟩ |refine ⟨⟨AV.Le.sl ?_, rfl⟩, ?_⟩ |refine ⟨⟨AV.Le.of_eq ?_, rfl⟩, ?_⟩ | fail)
            · rw [show f p = false from Bool.eq_false_iff.2 fun h => hop ((hf p).1 h)] at hte
              have hbad : false = b := hfalse fun k => hop (k.polys p hpm).2
              repeat' (first |refine Fl.v rfl rfl rfl ?_ |refine Fl.nilF ?_ |refine AWP.seq ?_ |refine AWP.region ?_ |(refine AWP.condD rfl ?_ ?_ <;> intro _ <;> try (exfalso; omega)) |refine AWP.block ?_ |refine AWP.skip ?_ |refine Fl.elK rfl rfl rfl rfl rfl rfl rfl rfl (by assumption) (by omega) ?_ |(refine Fl.splitN rfl rfl ?_ ?_ <;> intro _ <;> try (exfalso; omega)) |fail)
              refine Fl.call rfl (hte) rfl rfl rfl (LeL.refl _) ?_
              repeat' (first |refine Fl.v rfl rfl rfl ?_ |refine Fl.nilF ?_ |refine Fl.nil (fun _ => by kernel_rfl) ?_ |refine AWP.seq ?_ |refine AWP.region ?_ |refine AWP.condT rfl ?_ |refine AWP.ret ?_ |fail)
              exact RetOk.of rfl (AV.Le.bool hbad)
          · have hbad : false = b := hfalse fun k => hpv (k.polys p hpm).1
            repeat' (first |refine Fl.v rfl rfl rfl ?_ |refine Fl.nilF ?_ |refine Fl.nil (fun _ => by kernel_rfl) ?_ |refine AWP.seq ?_ |refine AWP.region ?_ |refine Fl.skip rfl rfl ?_ |refine AWP.condT rfl ?_ |(refine AWP.condD rfl ?_ ?_ <;> intro _ <;> try (exfalso; omega)) |refine AWP.block ?_ |refine AWP.skip ?_ |refine AWP.ret ?_ |refine Fl.elK rfl rfl rfl rfl rfl rfl rfl rfl (by assumption) (by omega) ?_ |(refine Fl.splitN rfl rfl ?_ ?_ <;> intro _ <;> try (exfalso; omega)) |fail)
            all_goals exact RetOk.of rfl (AV.Le.bool hbad)
        · rw [List.take_of_length_le (by omega)] at k1
          repeat' (first |refine Fl.v rfl rfl rfl ?_ |refine Fl.nilF ?_ |refine AWP.seq ?_ |refine AWP.region ?_ |(refine AWP.condD rfl ?_ ?_ <;> intro _ <;> try (exfalso; omega)) |refine AWP.exit ?_ |refine AWP.ret ?_ |fail)
          exact RetOk.of rfl (AV.Le.bool (Eq.symm (hb.2 ⟨hk, hlen', by omega, hinc, k1⟩)))

theorem r9Valid_ok (s : SZ) (hw : WS s) (hl : WLS s) (b : Bool) (hb : b = true ↔ OkS s) : PureFn Try.prog 34 [aS s] (aB b) := by
  refine PureFn.of_body Try.func34 rfl Try.ntmps34 rfl rfl ?_
  have hfalse : ¬ OkS s → false = b := fun h => by cases b with | false => rfl | true => exact absurd (hb.1 rfl) h
  obtain ⟨f, hf⟩ := boolOf (fun l : LZ => OkL s.vars l)
  repeat' (first |refine Fl.v rfl rfl rfl ?_ |refine Fl.nilF ?_ |refine AWP.seq ?_ |refine AWP.region ?_ |refine Fl.b rfl rfl rfl rfl ?_ |refine Fl.skip rfl rfl ?_ |refine AWP.condT rfl ?_ |(refine AWP.condD rfl ?_ ?_ <;> intro _ <;> try (exfalso; omega)) |refine AWP.block ?_ |refine AWP.skip ?_ |refine AWP.ret ?_ |(refine Fl.splitD rfl rfl ?_ ?_ <;> intro _ <;> try (exfalso; omega)) |fail)
  · rename_i h; exact RetOk.of rfl (AV.Le.bool (hfalse fun k => by have := k.v0; omega))
  · rename_i h; exact RetOk.of rfl (AV.Le.bool (hfalse fun k => by have := k.v1; omega))
  · rename_i h; exact RetOk.of rfl (AV.Le.bool (hfalse fun k => by have := k.len; omega))
  rename_i hv0 hv1 hlen
  refine AWP.loop (G := Nat) (fun i => i ≤ s.links.length ∧ ∀ t ∈ s.links.take i, OkL s.vars t)
    (fun i => St.of [] [(1, .ptr 1 0), (3, aN i)] [(1, .cells [aN s.vars, .sl 3 eL s.links] 42)]) (fun i => s.links.length - i) 0 ⟨by omega, by simp⟩ ?_ ?_
  · refine Ent.of [] ?_ ?_ rfl rfl
    repeat' (first | exact True.intro |refine ⟨⟨AV.Le.refl _, rfl⟩, ?_⟩ |refine ⟨⟨⟨_, rfl, BLe.cells (LeL.refl _)⟩, rfl⟩, ?_⟩ |refine ⟨⟨⟨_, rfl, BLe.row rfl⟩, rfl⟩, ?_⟩ |refine ⟨⟨⟨_, rfl, BLe.row ?_⟩, rfl⟩, ?_⟩ |refine ⟨⟨⟨_, rfl, BLe.cells ?_⟩, rfl⟩, ?_⟩ |refine ⟨⟨AV.Le.int ?_, rfl⟩, ?_⟩ |refine ⟨⟨AV.Le.bool ?_, rfl⟩, ?_⟩ |refine ⟨⟨AV.Le.sl ?_, rfl⟩, ?_⟩ |refine ⟨⟨AV.Le.of_eq ?_, rfl⟩, ?_⟩ | fail)
  · intro i ⟨k0, k1⟩
    by_cases hi : i < s.links.length
    · obtain ⟨t, ht⟩ : ∃ t, s.links[i]? = some t := ⟨_, List.getElem?_eq_getElem hi⟩
      have htm := List.mem_of_getElem? ht
      have hall : ¬ OkL s.vars t → ¬ OkS s := fun h k => h (k.links t htm)
      have hte := rLink_ok t s.vars (hw t htm) (hl t htm) (f t) (hf t)
      by_cases hot : OkL s.vars t
      · rw [(hf t).2 hot] at hte
        repeat' (first |refine Fl.v rfl rfl rfl ?_ |refine Fl.nilF ?_ |refine AWP.seq ?_ |refine AWP.region ?_ |(refine AWP.condD rfl ?_ ?_ <;> intro _ <;> try (exfalso; omega)) |refine AWP.block ?_ |refine AWP.skip ?_ |refine Fl.elK rfl rfl rfl rfl rfl rfl rfl rfl (by assumption) (by omega) ?_ |fail)
        refine Fl.call rfl (hte) rfl rfl rfl (LeL.refl _) ?_
        repeat' (first |refine Fl.v rfl rfl rfl ?_ |refine Fl.nilF ?_ |refine Fl.nil (fun _ => by kernel_rfl) ?_ |refine AWP.region ?_ |refine Fl.w rfl rfl rfl (by first | exact True.intro | omega) ?_ |refine AWP.condF rfl ?_ |refine AWP.skip ?_ |fail)
        refine LoopEnd.of (i + 1) ⟨by omega, all_take_succ ht k1 hot⟩ (by omega) ?_
        refine Ent.of [] ?_ ?_ rfl rfl
        repeat' (first | exact True.intro |refine ⟨⟨AV.Le.refl _, rfl⟩, ?_⟩ |refine ⟨⟨⟨_, rfl, BLe.cells (LeL.refl _)⟩, rfl⟩, ?_⟩ |refine ⟨⟨⟨_, rfl, BLe.row rfl⟩, rfl⟩, ?_⟩ |refine ⟨⟨⟨_, rfl, BLe.row ?_⟩, rfl⟩, ?_⟩ |refine ⟨⟨⟨_, rfl, BLe.cells ?_⟩, rfl⟩, ?_⟩ |refine ⟨⟨AV.Le.int ?_, rfl⟩, ?_⟩ |refine ⟨⟨AV.Le.bool ?_, rfl⟩, ?_⟩ |refine ⟨⟨AV.Le.sl ?_, rfl⟩, ?_⟩ |refine ⟨⟨AV.Le.of_eq ?_, rfl⟩, ?_⟩ | fail)
      · rw [show f t = false from Bool.eq_false_iff.2 fun h => hot ((hf t).1 h)] at hte
        repeat' (first |refine Fl.v rfl rfl rfl ?_ |refine Fl.nilF ?_ |refine AWP.seq ?_ |refine AWP.region ?_ |(refine AWP.condD rfl ?_ ?_ <;> intro _ <;> try (exfalso; omega)) |refine AWP.block ?_ |refine AWP.skip ?_ |refine Fl.elK rfl rfl rfl rfl rfl rfl rfl rfl (by assumption) (by omega) ?_ |fail)
        refine Fl.call rfl (hte) rfl rfl rfl (LeL.refl _) ?_
        repeat' (first |refine Fl.v rfl rfl rfl ?_ |refine Fl.nilF ?_ |refine Fl.nil (fun _ => by kernel_rfl) ?_ |refine AWP.seq ?_ |refine AWP.region ?_ |refine AWP.condT rfl ?_ |refine AWP.ret ?_ |fail)
        exact RetOk.of rfl (AV.Le.bool (hfalse (hall hot)))
    · repeat' (first |refine Fl.v rfl rfl rfl ?_ |refine Fl.nilF ?_ |refine AWP.seq ?_ |refine AWP.region ?_ |(refine AWP.condD rfl ?_ ?_ <;> intro _ <;> try (exfalso; omega)) |refine AWP.exit ?_ |refine AWP.ret ?_ |fail)
      refine RetOk.of rfl (AV.Le.bool (Eq.symm (hb.2 ⟨by omega, by omega, by omega, fun t ht => k1 t ?_⟩)))
      rwa [show i = s.links.length by omega, List.take_length]
end Go.Proofs.Ytfkjhjgihbnegaa
namespace Go.AL
/-- the greater one, as the machine finds it -/
def mxI (a b : Int) : Int := if b > a then b else a
/-- what comes up where a term is computed, as ints reckon -/
def ldE (e : List Int) (zs : List Z) (n : Int) : Nat → Int
  | 0 => n
  | k + 1 => match e[k]?, zs[k]? with
    | some x, some z => w64 (ldE e zs n k + w64 (x * z.w.length))
    | _, _ => ldE e zs n k
def ldT (zs : List Z) (t : TZ) : Int := ldE t.e zs (t.c.w.length + 1) t.e.length
def ldP (zs : List Z) (ts : List TZ) : Int := ts.foldl (fun m t => mxI m (ldT zs t)) 0
def atZ (zs : List Z) (vs : List Int) : List Z := vs.map fun v => zs.getD v.toNat ⟨false, []⟩
def ldL (zs : List Z) (l : LZ) (m : Int) (ps : List PZ) : Int := ps.foldl (fun m p => mxI m (ldP (atZ zs l.vars) p.terms)) m
def ldS (zs : List Z) (ls : List LZ) : Int := ls.foldl (fun m l => ldL zs l m l.polys) 0
theorem ldP_snoc {zs : List Z} {ts : List TZ} {i : Nat} {t : TZ} (h : ts[i]? = some t) : ldP zs (ts.take (i + 1)) = mxI (ldP zs (ts.take i)) (ldT zs t) := by
  rw [take_snoc h]; simp [ldP, List.foldl_append]
theorem ldL_snoc {zs : List Z} {l : LZ} {m : Int} {ps : List PZ} {i : Nat} {p : PZ} (h : ps[i]? = some p) : ldL zs l m (ps.take (i + 1)) = mxI (ldL zs l m (ps.take i)) (ldP (atZ zs l.vars) p.terms) := by
  rw [take_snoc h]; simp [ldL, List.foldl_append]
theorem ldS_snoc {zs : List Z} {ls : List LZ} {i : Nat} {l : LZ} (h : ls[i]? = some l) : ldS zs (ls.take (i + 1)) = ldL zs l (ldS zs (ls.take i)) l.polys := by
  rw [take_snoc h]; simp [ldS, List.foldl_append]
theorem atZ_snoc {zs : List Z} {vs : List Int} {i : Nat} {v : Int} {z : Z} (h : vs[i]? = some v) (hx : zs[v.toNat]? = some z) : atZ zs (vs.take (i + 1)) = atZ zs (vs.take i) ++ [z] := by
  rw [take_snoc h]
  simp [atZ, hx]
end Go.AL
namespace Go.Proofs.Ytfkjhjgihbnegaa
open Go.AL

theorem rLoad_ok (p : PZ) (zs : List Z) (hp : OkP p) (hv : p.vars = zs.length) : PureFn Try.prog 54 [aP p, .sl 2 eZ zs] (aN (ldP zs p.terms)) := by
  refine PureFn.of_body Try.func54 rfl Try.ntmps54 rfl rfl ?_
  have hv1 := hp.v1
  have hlen := hp.len
  repeat' (first |refine Fl.v rfl rfl rfl ?_ |refine Fl.nilF ?_ |refine AWP.seq ?_ |refine AWP.region ?_ |refine Fl.b rfl rfl rfl rfl ?_ |refine AWP.block ?_ |fail)
  refine AWP.loop (G := Nat) (fun i => i ≤ p.terms.length) (fun i => St.of [] [(1, .sl 2 eZ zs), (2, .ptr 2 0), (5, aN (ldP zs (p.terms.take i))), (6, aN i)] [(2, .cells [aN p.vars, .sl 3 eT p.terms] 30)]) (fun i => p.terms.length - i) 0 (by omega) ?_ ?_
  · refine Ent.of [] ?_ ?_ rfl rfl
    repeat' (first | exact True.intro |refine ⟨⟨AV.Le.refl _, rfl⟩, ?_⟩ |refine ⟨⟨⟨_, rfl, BLe.cells (LeL.refl _)⟩, rfl⟩, ?_⟩ |refine ⟨⟨⟨_, rfl, BLe.row rfl⟩, rfl⟩, ?_⟩ |refine ⟨⟨⟨_, rfl, BLe.row ?_⟩, rfl⟩, ?_⟩ |refine ⟨⟨⟨_, rfl, BLe.cells ?_⟩, rfl⟩, ?_⟩ |refine ⟨⟨AV.Le.int ?_, rfl⟩, ?_⟩ |refine ⟨⟨AV.Le.bool ?_, rfl⟩, ?_⟩ |refine ⟨⟨AV.Le.sl ?_, rfl⟩, ?_⟩ |refine ⟨⟨AV.Le.of_eq ?_, rfl⟩, ?_⟩ | fail)
  · intro i k0
    by_cases hi : i < p.terms.length
    · obtain ⟨t, ht⟩ : ∃ t, p.terms[i]? = some t := ⟨_, List.getElem?_eq_getElem hi⟩
      have hot := hp.terms t (List.mem_of_getElem? ht)
      have hcl := hot.coef.1
      have htl := hot.len
      repeat' (first |refine Fl.v rfl rfl rfl ?_ |refine Fl.nilF ?_ |refine AWP.seq ?_ |refine AWP.region ?_ |refine Fl.w rfl rfl rfl (by first | exact True.intro | omega) ?_ |(refine AWP.condD rfl ?_ ?_ <;> intro _ <;> try (exfalso; omega)) |refine AWP.block ?_ |refine AWP.skip ?_ |refine Fl.elK rfl rfl rfl rfl rfl rfl rfl rfl (by assumption) (by omega) ?_ |fail)
      refine AWP.loop (G := Nat) (fun k => k ≤ t.e.length) (fun k => St.of [] [(1, .sl 2 eZ zs), (2, .ptr 2 0), (5, aN (ldP zs (p.terms.take i))), (6, aN i), (7, aN (ldE t.e zs (t.c.w.length + 1) k)), (8, aN k)] [(2, .cells [aN p.vars, .sl 3 eT p.terms] 30)]) (fun k => t.e.length - k) 0 (by omega) ?_ ?_
      · refine Ent.of [] ?_ ?_ rfl rfl
        repeat' (first | exact True.intro |refine ⟨⟨AV.Le.refl _, rfl⟩, ?_⟩ |refine ⟨⟨⟨_, rfl, BLe.cells (LeL.refl _)⟩, rfl⟩, ?_⟩ |refine ⟨⟨⟨_, rfl, BLe.row rfl⟩, rfl⟩, ?_⟩ |refine ⟨⟨⟨_, rfl, BLe.row ?_⟩, rfl⟩, ?_⟩ |refine ⟨⟨⟨_, rfl, BLe.cells ?_⟩, rfl⟩, ?_⟩ |refine ⟨⟨AV.Le.int ?_, rfl⟩, ?_⟩ |refine ⟨⟨AV.Le.bool ?_, rfl⟩, ?_⟩ |refine ⟨⟨AV.Le.sl ?_, rfl⟩, ?_⟩ |refine ⟨⟨AV.Le.of_eq ?_, rfl⟩, ?_⟩ | fail)
      · intro k g0
        by_cases hk : k < t.e.length
        · obtain ⟨x, hx⟩ : ∃ x, t.e[k]? = some x := ⟨_, List.getElem?_eq_getElem hk⟩
          obtain ⟨z, hz⟩ : ∃ z, zs[k]? = some z := ⟨_, List.getElem?_eq_getElem (by omega)⟩
          repeat' (first |refine Fl.v rfl rfl rfl ?_ |refine Fl.nilF ?_ |refine Fl.nil (fun _ => by kernel_rfl) ?_ |refine AWP.seq ?_ |refine AWP.region ?_ |refine Fl.w rfl rfl rfl (by first | exact True.intro | omega) ?_ |refine Fl.sumS rfl rfl rfl rfl rfl rfl ?_ |(refine AWP.condD rfl ?_ ?_ <;> intro _ <;> try (exfalso; omega)) |refine AWP.block ?_ |refine AWP.skip ?_ |refine Fl.elK rfl rfl rfl rfl rfl rfl rfl rfl (by assumption) (by omega) ?_ |fail)
          refine LoopEnd.of (k + 1) (by omega) (by omega) ?_
          refine Ent.of [] ?_ ?_ rfl rfl
          repeat' (first | exact True.intro |refine ⟨⟨AV.Le.refl _, rfl⟩, ?_⟩ |refine ⟨⟨⟨_, rfl, BLe.cells (LeL.refl _)⟩, rfl⟩, ?_⟩ |refine ⟨⟨⟨_, rfl, BLe.row rfl⟩, rfl⟩, ?_⟩ |refine ⟨⟨⟨_, rfl, BLe.row ?_⟩, rfl⟩, ?_⟩ |refine ⟨⟨⟨_, rfl, BLe.cells ?_⟩, rfl⟩, ?_⟩ |refine ⟨⟨AV.Le.int ?_, rfl⟩, ?_⟩ |refine ⟨⟨AV.Le.bool ?_, rfl⟩, ?_⟩ |refine ⟨⟨AV.Le.sl ?_, rfl⟩, ?_⟩ |refine ⟨⟨AV.Le.of_eq ?_, rfl⟩, ?_⟩ | fail)
          simp only [ldE, hx, hz]
        · repeat' (first |refine Fl.v rfl rfl rfl ?_ |refine Fl.nilF ?_ |refine AWP.seq ?_ |refine AWP.region ?_ |refine Fl.w rfl rfl rfl (by first | exact True.intro | omega) ?_ |(refine AWP.condD rfl ?_ ?_ <;> intro _ <;> try (exfalso; omega)) |refine AWP.exit ?_ |fail)
          refine LoopEnd.of (i + 1) (by omega) (by omega) ?_
          refine Ent.of [] ?_ ?_ rfl rfl
          repeat' (first | exact True.intro |refine ⟨⟨AV.Le.refl _, rfl⟩, ?_⟩ |refine ⟨⟨⟨_, rfl, BLe.cells (LeL.refl _)⟩, rfl⟩, ?_⟩ |refine ⟨⟨⟨_, rfl, BLe.row rfl⟩, rfl⟩, ?_⟩ |refine ⟨⟨⟨_, rfl, BLe.row ?_⟩, rfl⟩, ?_⟩ |refine ⟨⟨⟨_, rfl, BLe.cells ?_⟩, rfl⟩, ?_⟩ |refine ⟨⟨AV.Le.int ?_, rfl⟩, ?_⟩ |refine ⟨⟨AV.Le.bool ?_, rfl⟩, ?_⟩ |refine ⟨⟨AV.Le.sl ?_, rfl⟩, ?_⟩ |refine ⟨⟨AV.Le.of_eq ?_, rfl⟩, ?_⟩ | fail)
          rw [ldP_snoc ht, ldT, show k = t.e.length by omega]
          rfl
    · repeat' (first |refine Fl.v rfl rfl rfl ?_ |refine Fl.nilF ?_ |refine AWP.seq ?_ |refine AWP.region ?_ |(refine AWP.condD rfl ?_ ?_ <;> intro _ <;> try (exfalso; omega)) |refine AWP.exit ?_ |refine AWP.ret ?_ |fail)
      refine RetOk.of rfl (AV.Le.int ?_)
      rw [List.take_of_length_le (by omega)]

theorem r9Load_ok (s : SZ) (zs : List Z) (hs : OkS s) (hv : (zs.length : Int) = s.vars) : PureFn Try.prog 35 [aS s, .sl 2 eZ zs] (aN (ldS zs s.links)) := by
  refine PureFn.of_body Try.func35 rfl Try.ntmps35 rfl rfl ?_
  have hv1 := hs.v1
  have hlen := hs.len
  repeat' (first |refine Fl.v rfl rfl rfl ?_ |refine Fl.nilF ?_ |refine AWP.seq ?_ |refine AWP.region ?_ |refine Fl.b rfl rfl rfl rfl ?_ |refine AWP.block ?_ |fail)
  refine AWP.loop (G := Nat) (fun i => i ≤ s.links.length) (fun i => St.of [] [(1, .sl 2 eZ zs), (2, .ptr 2 0), (5, aN (ldS zs (s.links.take i))), (6, aN i)] [(2, .cells [aN s.vars, .sl 3 eL s.links] 42)]) (fun i => s.links.length - i) 0 (by omega) ?_ ?_
  · refine Ent.of [] ?_ ?_ rfl rfl
    repeat' (first | exact True.intro |refine ⟨⟨AV.Le.refl _, rfl⟩, ?_⟩ |refine ⟨⟨⟨_, rfl, BLe.cells (LeL.refl _)⟩, rfl⟩, ?_⟩ |refine ⟨⟨⟨_, rfl, BLe.row rfl⟩, rfl⟩, ?_⟩ |refine ⟨⟨⟨_, rfl, BLe.row ?_⟩, rfl⟩, ?_⟩ |refine ⟨⟨⟨_, rfl, BLe.cells ?_⟩, rfl⟩, ?_⟩ |refine ⟨⟨AV.Le.int ?_, rfl⟩, ?_⟩ |refine ⟨⟨AV.Le.bool ?_, rfl⟩, ?_⟩ |refine ⟨⟨AV.Le.sl ?_, rfl⟩, ?_⟩ |refine ⟨⟨AV.Le.of_eq ?_, rfl⟩, ?_⟩ | fail)
  · intro i k0
    by_cases hi : i < s.links.length
    · obtain ⟨l, hl⟩ : ∃ l, s.links[i]? = some l := ⟨_, List.getElem?_eq_getElem hi⟩
      have hol := hs.links l (List.mem_of_getElem? hl)
      have hvl := hol.vlen
      have hn3 : needI l.kind ≤ 3 := by unfold needI; repeat' split <;> omega
      have hpl := hol.len
      repeat' (first |refine Fl.v rfl rfl rfl ?_ |refine Fl.nilF ?_ |refine AWP.seq ?_ |refine AWP.region ?_ |(refine AWP.condD rfl ?_ ?_ <;> intro _ <;> try (exfalso; omega)) |refine AWP.block ?_ |refine AWP.skip ?_ |fail)
      refine AWP.ent (Ent.nilrow 7 807 rfl rfl 2 eZ 24) ?_
      refine AWP.loop (G := Nat) (fun k => k ≤ l.vars.length) (fun k => St.of [] [(1, .sl 2 eZ zs), (2, .ptr 2 0), (5, aN (ldS zs (s.links.take i))), (6, aN i), (7, .row 7), (8, aN k)] [(2, .cells [aN s.vars, .sl 3 eL s.links] 42), (7, .row 2 eZ (atZ zs (l.vars.take k)) 24)]) (fun k => l.vars.length - k) 0 (by omega) ?_ ?_
      · refine Ent.of [(7, 807)] ?_ ?_ rfl rfl
        repeat' (first | exact True.intro |refine ⟨⟨AV.Le.refl _, rfl⟩, ?_⟩ |refine ⟨⟨⟨_, rfl, BLe.cells (LeL.refl _)⟩, rfl⟩, ?_⟩ |refine ⟨⟨⟨_, rfl, BLe.row rfl⟩, rfl⟩, ?_⟩ |refine ⟨⟨⟨_, rfl, BLe.row ?_⟩, rfl⟩, ?_⟩ |refine ⟨⟨⟨_, rfl, BLe.cells ?_⟩, rfl⟩, ?_⟩ |refine ⟨⟨AV.Le.int ?_, rfl⟩, ?_⟩ |refine ⟨⟨AV.Le.bool ?_, rfl⟩, ?_⟩ |refine ⟨⟨AV.Le.sl ?_, rfl⟩, ?_⟩ |refine ⟨⟨AV.Le.of_eq ?_, rfl⟩, ?_⟩ | fail)
      · intro k g0
        have hli : (atZ zs (l.vars.take k)).length = k := by simp [atZ]; omega
        by_cases hk : k < l.vars.length
        · obtain ⟨v, hv⟩ : ∃ v, l.vars[k]? = some v := ⟨_, List.getElem?_eq_getElem hk⟩
          have hvb := incB_mem hol.inc (List.mem_of_getElem? hv)
          obtain ⟨z, hz⟩ : ∃ z, zs[v.toNat]? = some z := ⟨_, List.getElem?_eq_getElem (by omega)⟩
          repeat' (first |refine Fl.v rfl rfl rfl ?_ |refine Fl.nilF ?_ |refine AWP.seq ?_ |refine AWP.region ?_ |(refine AWP.condD rfl ?_ ?_ <;> intro _ <;> try (exfalso; omega)) |refine AWP.block ?_ |refine AWP.skip ?_ |refine Fl.elK rfl rfl rfl rfl rfl rfl rfl rfl (by assumption) (by omega) ?_ |fail)
          refine Fl.lit rfl rfl rfl rfl rfl eZ [z] rfl rfl rfl rfl (by intro _ _; rfl) rfl ?_
          skip
          refine Fl.ap rfl rfl rfl rfl rfl rfl rfl rfl rfl rfl rfl rfl rfl (fun _ => rfl) (fun _ => rfl) (AV.Le.refl _) (by dsimp only [List.length_nil, List.length_cons]; omega) (by simp; omega) ?_
          repeat' (first |refine Fl.v rfl rfl rfl ?_ |refine Fl.nilF ?_ |refine AWP.region ?_ |refine Fl.w rfl rfl rfl (by first | exact True.intro | omega) ?_ |fail)
          refine LoopEnd.of (k + 1) (by omega) (by omega) ?_
          refine Ent.of [(7, 42)] ?_ ?_ rfl rfl
          repeat' (first | exact True.intro |refine ⟨⟨AV.Le.refl _, rfl⟩, ?_⟩ |refine ⟨⟨⟨_, rfl, BLe.cells (LeL.refl _)⟩, rfl⟩, ?_⟩ |refine ⟨⟨⟨_, rfl, BLe.row rfl⟩, rfl⟩, ?_⟩ |refine ⟨⟨⟨_, rfl, BLe.row ?_⟩, rfl⟩, ?_⟩ |refine ⟨⟨⟨_, rfl, BLe.cells ?_⟩, rfl⟩, ?_⟩ |refine ⟨⟨AV.Le.int ?_, rfl⟩, ?_⟩ |refine ⟨⟨AV.Le.bool ?_, rfl⟩, ?_⟩ |refine ⟨⟨AV.Le.sl ?_, rfl⟩, ?_⟩ |refine ⟨⟨AV.Le.of_eq ?_, rfl⟩, ?_⟩ | fail)
          exact (atZ_snoc hv hz).symm
        · have hti : l.vars.take k = l.vars := List.take_of_length_le (by omega)
          refine AWP.ent (Ent.freeze 7 rfl) ?_
          repeat' (first |refine Fl.v rfl rfl rfl ?_ |refine Fl.nilF ?_ |refine AWP.seq ?_ |refine AWP.region ?_ |(refine AWP.condD rfl ?_ ?_ <;> intro _ <;> try (exfalso; omega)) |refine AWP.block ?_ |refine AWP.exit ?_ |refine Fl.elK rfl rfl rfl rfl rfl rfl rfl rfl (by assumption) (by omega) ?_ |fail)
          refine AWP.loop (G := Nat) (fun j => j ≤ l.polys.length) (fun j => St.of [] [(1, .sl 2 eZ zs), (2, .ptr 2 0), (5, aN (ldL zs l (ldS zs (s.links.take i)) (l.polys.take j))), (6, aN i), (7, .sl 2 eZ (atZ zs l.vars)), (9, aN j)] [(2, .cells [aN s.vars, .sl 3 eL s.links] 42)]) (fun j => l.polys.length - j) 0 (by omega) ?_ ?_
          · refine Ent.of [] ?_ ?_ rfl rfl
            repeat' (first | exact True.intro |refine ⟨⟨AV.Le.refl _, rfl⟩, ?_⟩ |refine ⟨⟨⟨_, rfl, BLe.cells (LeL.refl _)⟩, rfl⟩, ?_⟩ |refine ⟨⟨⟨_, rfl, BLe.row rfl⟩, rfl⟩, ?_⟩ |refine ⟨⟨⟨_, rfl, BLe.row ?_⟩, rfl⟩, ?_⟩ |refine ⟨⟨⟨_, rfl, BLe.cells ?_⟩, rfl⟩, ?_⟩ |refine ⟨⟨AV.Le.int ?_, rfl⟩, ?_⟩ |refine ⟨⟨AV.Le.bool ?_, rfl⟩, ?_⟩ |refine ⟨⟨AV.Le.sl ?_, rfl⟩, ?_⟩ |refine ⟨⟨AV.Le.of_eq ?_, rfl⟩, ?_⟩ | fail)
            rw [hti]
          · clear g0; intro j g0
            by_cases hj : j < l.polys.length
            · obtain ⟨p, hp⟩ : ∃ p, l.polys[j]? = some p := ⟨_, List.getElem?_eq_getElem hj⟩
              have hop := hol.polys p (List.mem_of_getElem? hp)
              repeat' (first |refine Fl.v rfl rfl rfl ?_ |refine Fl.nilF ?_ |refine AWP.seq ?_ |refine AWP.region ?_ |(refine AWP.condD rfl ?_ ?_ <;> intro _ <;> try (exfalso; omega)) |refine AWP.block ?_ |refine AWP.skip ?_ |refine Fl.elK rfl rfl rfl rfl rfl rfl rfl rfl (by assumption) (by omega) ?_ |fail)
              refine Fl.call rfl (rLoad_ok p (atZ zs l.vars) hop.2 (by simp [atZ]; exact hop.1)) rfl rfl rfl (LeL.refl _) ?_
              repeat' (first |refine Fl.v rfl rfl rfl ?_ |refine Fl.nilF ?_ |refine AWP.region ?_ |refine Fl.w rfl rfl rfl (by first | exact True.intro | omega) ?_ |fail)
              refine LoopEnd.of (j + 1) (by omega) (by omega) ?_
              refine Ent.of [] ?_ ?_ rfl rfl
              repeat' (first | exact True.intro |refine ⟨⟨AV.Le.refl _, rfl⟩, ?_⟩ |refine ⟨⟨⟨_, rfl, BLe.cells (LeL.refl _)⟩, rfl⟩, ?_⟩ |refine ⟨⟨⟨_, rfl, BLe.row rfl⟩, rfl⟩, ?_⟩ |refine ⟨⟨⟨_, rfl, BLe.row ?_⟩, rfl⟩, ?_⟩ |refine ⟨⟨⟨_, rfl, BLe.cells ?_⟩, rfl⟩, ?_⟩ |refine ⟨⟨AV.Le.int ?_, rfl⟩, ?_⟩ |refine ⟨⟨AV.Le.bool ?_, rfl⟩, ?_⟩ |refine ⟨⟨AV.Le.sl ?_, rfl⟩, ?_⟩ |refine ⟨⟨AV.Le.of_eq ?_, rfl⟩, ?_⟩ | fail)
              exact (ldL_snoc hp).symm
            · repeat' (first |refine Fl.v rfl rfl rfl ?_ |refine Fl.nilF ?_ |refine AWP.seq ?_ |refine AWP.region ?_ |refine Fl.w rfl rfl rfl (by first | exact True.intro | omega) ?_ |(refine AWP.condD rfl ?_ ?_ <;> intro _ <;> try (exfalso; omega)) |refine AWP.exit ?_ |refine Fl.elK rfl rfl rfl rfl rfl rfl rfl rfl (by assumption) (by omega) ?_ |fail)
              refine LoopEnd.of (i + 1) (by omega) (by omega) ?_
              refine Ent.of [] ?_ ?_ rfl rfl
              repeat' (first | exact True.intro |refine ⟨⟨AV.Le.refl _, rfl⟩, ?_⟩ |refine ⟨⟨⟨_, rfl, BLe.cells (LeL.refl _)⟩, rfl⟩, ?_⟩ |refine ⟨⟨⟨_, rfl, BLe.row rfl⟩, rfl⟩, ?_⟩ |refine ⟨⟨⟨_, rfl, BLe.row ?_⟩, rfl⟩, ?_⟩ |refine ⟨⟨⟨_, rfl, BLe.cells ?_⟩, rfl⟩, ?_⟩ |refine ⟨⟨AV.Le.int ?_, rfl⟩, ?_⟩ |refine ⟨⟨AV.Le.bool ?_, rfl⟩, ?_⟩ |refine ⟨⟨AV.Le.sl ?_, rfl⟩, ?_⟩ |refine ⟨⟨AV.Le.of_eq ?_, rfl⟩, ?_⟩ | fail)
              rw [ldS_snoc hl, show l.polys.take j = l.polys from List.take_of_length_le (by omega)]
    · repeat' (first |refine Fl.v rfl rfl rfl ?_ |refine Fl.nilF ?_ |refine AWP.seq ?_ |refine AWP.region ?_ |(refine AWP.condD rfl ?_ ?_ <;> intro _ <;> try (exfalso; omega)) |refine AWP.exit ?_ |refine AWP.ret ?_ |fail)
      refine RetOk.of rfl (AV.Le.int ?_)
      rw [List.take_of_length_le (by omega)]
end Go.Proofs.Ytfkjhjgihbnegaa
namespace Go.AL
/-- what is counted, as ints reckon -/
def cnT (n : Int) (t : TZ) : Int := if n ≤ 6000 then w64 (w64 (n + t.e.length) + t.c.w.length) else n
def cnP (n : Int) (p : PZ) : Int := if n ≤ 6000 then p.terms.foldl cnT (w64 (n + p.terms.length)) else n
def cnL0 (n : Int) (l : LZ) : Int := w64 (w64 (n + l.vars.length) + l.polys.length)
def cnL (n : Int) (l : LZ) : Int := l.polys.foldl cnP (cnL0 n l)
def cnB : List LZ → Int → Bool
  | [], _ => true
  | l :: ls, n => if 6000 < cnL n l then false else cnB ls (cnL n l)
def lightB (b : Bool) (s : SZ) (zs : List Z) (most : Int) : Bool :=
  if 400 < s.links.length then false else if 20100 < zs.length then false else if cnB s.links 0 = false then false else if b = false then true else if (zs.length : Int) = s.vars then decide (ldS zs s.links ≤ most) else true
theorem foldl_stuck {α : Type} {f : Int → α → Int} (hf : ∀ n x, 6000 < n → f n x = n) : ∀ (l : List α) (n : Int), 6000 < n → l.foldl f n = n
  | [], _, _ => rfl
  | x :: l, n, h => by rw [List.foldl_cons, hf n x h]; exact foldl_stuck hf l n h
theorem foldl_stop {α : Type} {f : Int → α → Int} (hf : ∀ n x, 6000 < n → f n x = n) (l : List α) (n : Int) (i : Nat) (h : 6000 < (l.take i).foldl f n) : l.foldl f n = (l.take i).foldl f n := by
  rw [show l.foldl f n = (l.take i ++ l.drop i).foldl f n by rw [List.take_append_drop], List.foldl_append]
  exact foldl_stuck hf _ _ h
theorem foldl_snoc {α β : Type} {f : β → α → β} {l : List α} {n : β} {i : Nat} {x : α} (h : l[i]? = some x) : (l.take (i + 1)).foldl f n = f ((l.take i).foldl f n) x := by
  rw [take_snoc h]; simp [List.foldl_append]
theorem cnT_stuck (n : Int) (t : TZ) (h : 6000 < n) : cnT n t = n := if_neg (by omega)
theorem cnP_stuck (n : Int) (t : PZ) (h : 6000 < n) : cnP n t = n := if_neg (by omega)
theorem cnT_go {n : Int} {t : TZ} (h : n ≤ 6000) : cnT n t = w64 (w64 (n + t.e.length) + t.c.w.length) := if_pos h
theorem cnP_go {n : Int} {p : PZ} (h : n ≤ 6000) : cnP n p = p.terms.foldl cnT (w64 (n + p.terms.length)) := if_pos h
theorem drop_get {α : Type} {l : List α} {i : Nat} {x : α} (h : l[i]? = some x) : l.drop i = x :: l.drop (i + 1) := by
  obtain ⟨h1, h2⟩ := List.getElem?_eq_some_iff.1 h
  rw [List.drop_eq_getElem_cons h1, h2]
theorem lightB_len {b : Bool} {s : SZ} {zs : List Z} {most : Int} (h : lightB b s zs most = true) : s.links.length ≤ 400 ∧ zs.length ≤ 20100 := by
  unfold lightB at h
  split at h
  · cases h
  · split at h
    · cases h
    · omega
end Go.AL
namespace Go.Proofs.Ytfkjhjgihbnegaa
open Go.AL

set_option maxHeartbeats 1000000 in
theorem Light_ok (s : SZ) (zs : List Z) (most : Int) (hw : WS s) (hwl : WLS s) (b : Bool) (hb : b = true ↔ OkS s) : PureFn Try.prog 19 [aS s, .sl 2 eZ zs, aN most] (aB (lightB b s zs most)) := by
  refine PureFn.of_body Try.func19 rfl Try.ntmps19 rfl rfl ?_
  repeat' (first |refine Fl.v rfl rfl rfl ?_ |refine Fl.nilF ?_ |refine AWP.seq ?_ |refine AWP.region ?_ |refine Fl.b rfl rfl rfl rfl ?_ |refine Fl.skip rfl rfl ?_ |refine AWP.condT rfl ?_ |(refine AWP.condD rfl ?_ ?_ <;> intro _ <;> try (exfalso; omega)) |refine AWP.block ?_ |refine AWP.skip ?_ |refine AWP.ret ?_ |(refine Fl.splitD rfl rfl ?_ ?_ <;> intro _ <;> try (exfalso; omega)) |fail)
  · rename_i h; exact RetOk.of rfl (AV.Le.bool (by unfold lightB; rw [if_pos (by omega)]))
  · rename_i h1 h2; exact RetOk.of rfl (AV.Le.bool (by unfold lightB; rw [if_neg (by omega), if_pos (by omega)]))
  rename_i h1 h2
  refine AWP.loop (G := Nat) (fun i => i ≤ s.links.length ∧ cnB (s.links.drop i) ((s.links.take i).foldl cnL 0) = cnB s.links 0) (fun i => St.of [] [(1, .sl 2 eZ zs), (2, aN most), (3, .ptr 3 0), (7, aN ((s.links.take i).foldl cnL 0)), (8, aN i)] [(3, .cells [aN s.vars, .sl 3 eL s.links] 42)]) (fun i => s.links.length - i) 0 ⟨by omega, by simp⟩ ?_ ?_
  · refine Ent.of [] ?_ ?_ rfl rfl
    repeat' (first | exact True.intro |refine ⟨⟨AV.Le.refl _, rfl⟩, ?_⟩ |refine ⟨⟨⟨_, rfl, BLe.cells (LeL.refl _)⟩, rfl⟩, ?_⟩ |refine ⟨⟨⟨_, rfl, BLe.row rfl⟩, rfl⟩, ?_⟩ |refine ⟨⟨⟨_, rfl, BLe.row ?_⟩, rfl⟩, ?_⟩ |refine ⟨⟨⟨_, rfl, BLe.cells ?_⟩, rfl⟩, ?_⟩ |refine ⟨⟨AV.Le.int ?_, rfl⟩, ?_⟩ |refine ⟨⟨AV.Le.bool ?_, rfl⟩, ?_⟩ |refine ⟨⟨AV.Le.sl ?_, rfl⟩, ?_⟩ |refine ⟨⟨AV.Le.of_eq ?_, rfl⟩, ?_⟩ | fail)
  · intro i ⟨k0, k1⟩
    by_cases hi : i < s.links.length
    · obtain ⟨l, hl⟩ : ∃ l, s.links[i]? = some l := ⟨_, List.getElem?_eq_getElem hi⟩
      obtain ⟨n, hn⟩ : ∃ n, n = (s.links.take i).foldl cnL 0 := ⟨_, rfl⟩
      have hwp := (hwl l (List.mem_of_getElem? hl)).1
      have hnn := foldl_snoc (f := cnL) (n := 0) hl
      rw [drop_get hl] at k1
      rw [← hn] at k1 hnn ⊢
      simp only [cnB] at k1
      repeat' (first |refine Fl.v rfl rfl rfl ?_ |refine Fl.nilF ?_ |refine Fl.nil (fun _ => by kernel_rfl) ?_ |refine AWP.seq ?_ |refine AWP.region ?_ |refine Fl.sumS rfl rfl rfl rfl rfl rfl ?_ |(refine AWP.condD rfl ?_ ?_ <;> intro _ <;> try (exfalso; omega)) |refine AWP.block ?_ |refine AWP.skip ?_ |refine Fl.elK rfl rfl rfl rfl rfl rfl rfl rfl (by assumption) (by omega) ?_ |fail)
      refine AWP.loop (G := Nat) (fun k => k ≤ l.polys.length) (fun k => St.of [] [(1, .sl 2 eZ zs), (2, aN most), (3, .ptr 3 0), (7, aN ((l.polys.take k).foldl cnP (cnL0 n l))), (8, aN i), (9, aN k)] [(3, .cells [aN s.vars, .sl 3 eL s.links] 42)]) (fun k => l.polys.length - k) 0 (by omega) ?_ ?_
      · refine Ent.of [] ?_ ?_ rfl rfl
        repeat' (first | exact True.intro |refine ⟨⟨AV.Le.refl _, rfl⟩, ?_⟩ |refine ⟨⟨⟨_, rfl, BLe.cells (LeL.refl _)⟩, rfl⟩, ?_⟩ |refine ⟨⟨⟨_, rfl, BLe.row rfl⟩, rfl⟩, ?_⟩ |refine ⟨⟨⟨_, rfl, BLe.row ?_⟩, rfl⟩, ?_⟩ |refine ⟨⟨⟨_, rfl, BLe.cells ?_⟩, rfl⟩, ?_⟩ |refine ⟨⟨AV.Le.int ?_, rfl⟩, ?_⟩ |refine ⟨⟨AV.Le.bool ?_, rfl⟩, ?_⟩ |refine ⟨⟨AV.Le.sl ?_, rfl⟩, ?_⟩ |refine ⟨⟨AV.Le.of_eq ?_, rfl⟩, ?_⟩ | fail)
      · intro k g0
        obtain ⟨m, hm⟩ : ∃ m, m = (l.polys.take k).foldl cnP (cnL0 n l) := ⟨_, rfl⟩
        rw [← hm]
        have hend : k = l.polys.length ∨ 6000 < m → cnL n l = m := by
          rintro (h | h)
          · rw [cnL, hm, h, List.take_length]
          · rw [cnL, hm]; rw [hm] at h; exact foldl_stop cnP_stuck _ _ _ h
        by_cases hk : k < l.polys.length ∧ m ≤ 6000
        · obtain ⟨hk, hm6⟩ := hk
          obtain ⟨p, hp⟩ : ∃ p, l.polys[k]? = some p := ⟨_, List.getElem?_eq_getElem hk⟩
          have hwt := ((hwl l (List.mem_of_getElem? hl)).2 p (List.mem_of_getElem? hp)).1
          have hmm := foldl_snoc (f := cnP) (n := cnL0 n l) hp
          rw [← hm, cnP_go hm6] at hmm
          repeat' (first |refine Fl.v rfl rfl rfl ?_ |refine Fl.nilF ?_ |refine AWP.seq ?_ |refine AWP.region ?_ |refine Fl.sumS rfl rfl rfl rfl rfl rfl ?_ |(refine AWP.condD rfl ?_ ?_ <;> intro _ <;> try (exfalso; omega)) |refine AWP.block ?_ |refine AWP.skip ?_ |refine Fl.elK rfl rfl rfl rfl rfl rfl rfl rfl (by assumption) (by omega) ?_ |(refine Fl.splitD rfl rfl ?_ ?_ <;> intro _ <;> try (exfalso; omega)) |fail)
          refine AWP.loop (G := Nat) (fun j => j ≤ p.terms.length) (fun j => St.of [] [(1, .sl 2 eZ zs), (2, aN most), (3, .ptr 3 0), (7, aN ((p.terms.take j).foldl cnT (w64 (m + p.terms.length)))), (8, aN i), (9, aN k), (10, .sl 3 eT p.terms), (11, aN j)] [(3, .cells [aN s.vars, .sl 3 eL s.links] 42)]) (fun j => p.terms.length - j) 0 (by omega) ?_ ?_
          · refine Ent.of [] ?_ ?_ rfl rfl
            repeat' (first | exact True.intro |refine ⟨⟨AV.Le.refl _, rfl⟩, ?_⟩ |refine ⟨⟨⟨_, rfl, BLe.cells (LeL.refl _)⟩, rfl⟩, ?_⟩ |refine ⟨⟨⟨_, rfl, BLe.row rfl⟩, rfl⟩, ?_⟩ |refine ⟨⟨⟨_, rfl, BLe.row ?_⟩, rfl⟩, ?_⟩ |refine ⟨⟨⟨_, rfl, BLe.cells ?_⟩, rfl⟩, ?_⟩ |refine ⟨⟨AV.Le.int ?_, rfl⟩, ?_⟩ |refine ⟨⟨AV.Le.bool ?_, rfl⟩, ?_⟩ |refine ⟨⟨AV.Le.sl ?_, rfl⟩, ?_⟩ |refine ⟨⟨AV.Le.of_eq ?_, rfl⟩, ?_⟩ | fail)
          · intro j g1
            obtain ⟨q, hq⟩ : ∃ q, q = (p.terms.take j).foldl cnT (w64 (m + p.terms.length)) := ⟨_, rfl⟩
            rw [← hq]
            by_cases hj : j < p.terms.length ∧ q ≤ 6000
            · obtain ⟨hj, hq6⟩ := hj
              obtain ⟨t, ht⟩ : ∃ t, p.terms[j]? = some t := ⟨_, List.getElem?_eq_getElem hj⟩
              have hqq := foldl_snoc (f := cnT) (n := w64 (m + p.terms.length)) ht
              rw [← hq, cnT_go hq6] at hqq
              repeat' (first |refine Fl.v rfl rfl rfl ?_ |refine Fl.nilF ?_ |refine Fl.nil (fun _ => by kernel_rfl) ?_ |refine AWP.seq ?_ |refine AWP.region ?_ |refine Fl.w rfl rfl rfl (by first | exact True.intro | omega) ?_ |refine Fl.sumS rfl rfl rfl rfl rfl rfl ?_ |(refine AWP.condD rfl ?_ ?_ <;> intro _ <;> try (exfalso; omega)) |refine AWP.block ?_ |refine AWP.skip ?_ |refine Fl.elK rfl rfl rfl rfl rfl rfl rfl rfl (by assumption) (by omega) ?_ |(refine Fl.splitD rfl rfl ?_ ?_ <;> intro _ <;> try (exfalso; omega)) |fail)
              refine LoopEnd.of (j + 1) (by omega) (by omega) ?_
              refine Ent.of [] ?_ ?_ rfl rfl
              repeat' (first | exact True.intro |refine ⟨⟨AV.Le.refl _, rfl⟩, ?_⟩ |refine ⟨⟨⟨_, rfl, BLe.cells (LeL.refl _)⟩, rfl⟩, ?_⟩ |refine ⟨⟨⟨_, rfl, BLe.row rfl⟩, rfl⟩, ?_⟩ |refine ⟨⟨⟨_, rfl, BLe.row ?_⟩, rfl⟩, ?_⟩ |refine ⟨⟨⟨_, rfl, BLe.cells ?_⟩, rfl⟩, ?_⟩ |refine ⟨⟨AV.Le.int ?_, rfl⟩, ?_⟩ |refine ⟨⟨AV.Le.bool ?_, rfl⟩, ?_⟩ |refine ⟨⟨AV.Le.sl ?_, rfl⟩, ?_⟩ |refine ⟨⟨AV.Le.of_eq ?_, rfl⟩, ?_⟩ | fail)
              exact hqq.symm
            · have hqe : (l.polys.take (k + 1)).foldl cnP (cnL0 n l) = q := by
                rw [hmm, hq]
                by_cases hj' : j < p.terms.length
                · exact foldl_stop cnT_stuck _ _ _ (by rw [← hq]; omega)
                · rw [List.take_of_length_le (by omega)]
              by_cases hj' : j < p.terms.length
              · repeat' (first |refine Fl.v rfl rfl rfl ?_ |refine Fl.nilF ?_ |refine AWP.seq ?_ |refine AWP.region ?_ |refine Fl.w rfl rfl rfl (by first | exact True.intro | omega) ?_ |(refine AWP.condD rfl ?_ ?_ <;> intro _ <;> try (exfalso; omega)) |refine AWP.exit ?_ |(refine Fl.splitD rfl rfl ?_ ?_ <;> intro _ <;> try (exfalso; omega)) |fail)
                refine LoopEnd.of (k + 1) (by omega) (by omega) ?_
                refine Ent.of [] ?_ ?_ rfl rfl
                repeat' (first | exact True.intro |refine ⟨⟨AV.Le.refl _, rfl⟩, ?_⟩ |refine ⟨⟨⟨_, rfl, BLe.cells (LeL.refl _)⟩, rfl⟩, ?_⟩ |refine ⟨⟨⟨_, rfl, BLe.row rfl⟩, rfl⟩, ?_⟩ |refine ⟨⟨⟨_, rfl, BLe.row ?_⟩, rfl⟩, ?_⟩ |refine ⟨⟨⟨_, rfl, BLe.cells ?_⟩, rfl⟩, ?_⟩ |refine ⟨⟨AV.Le.int ?_, rfl⟩, ?_⟩ |refine ⟨⟨AV.Le.bool ?_, rfl⟩, ?_⟩ |refine ⟨⟨AV.Le.sl ?_, rfl⟩, ?_⟩ |refine ⟨⟨AV.Le.of_eq ?_, rfl⟩, ?_⟩ | fail)
                exact hqe.symm
              · repeat' (first |refine Fl.v rfl rfl rfl ?_ |refine Fl.nilF ?_ |refine AWP.seq ?_ |refine AWP.region ?_ |refine Fl.w rfl rfl rfl (by first | exact True.intro | omega) ?_ |refine Fl.skip rfl rfl ?_ |refine AWP.condF rfl ?_ |refine AWP.exit ?_ |(refine Fl.splitD rfl rfl ?_ ?_ <;> intro _ <;> try (exfalso; omega)) |fail)
                refine LoopEnd.of (k + 1) (by omega) (by omega) ?_
                refine Ent.of [] ?_ ?_ rfl rfl
                repeat' (first | exact True.intro |refine ⟨⟨AV.Le.refl _, rfl⟩, ?_⟩ |refine ⟨⟨⟨_, rfl, BLe.cells (LeL.refl _)⟩, rfl⟩, ?_⟩ |refine ⟨⟨⟨_, rfl, BLe.row rfl⟩, rfl⟩, ?_⟩ |refine ⟨⟨⟨_, rfl, BLe.row ?_⟩, rfl⟩, ?_⟩ |refine ⟨⟨⟨_, rfl, BLe.cells ?_⟩, rfl⟩, ?_⟩ |refine ⟨⟨AV.Le.int ?_, rfl⟩, ?_⟩ |refine ⟨⟨AV.Le.bool ?_, rfl⟩, ?_⟩ |refine ⟨⟨AV.Le.sl ?_, rfl⟩, ?_⟩ |refine ⟨⟨AV.Le.of_eq ?_, rfl⟩, ?_⟩ | fail)
                exact hqe.symm
        · have hme := hend (by omega)
          rw [hme] at hnn k1
          have hno : 6000 < m → false = lightB b s zs most := fun h => by
            rw [if_pos h] at k1
            unfold lightB
            rw [if_neg (by omega), if_neg (by omega), if_pos k1.symm]
          by_cases hk' : k < l.polys.length
          · repeat' (first |refine Fl.v rfl rfl rfl ?_ |refine Fl.nilF ?_ |refine AWP.seq ?_ |refine AWP.region ?_ |(refine AWP.condD rfl ?_ ?_ <;> intro _ <;> try (exfalso; omega)) |refine AWP.exit ?_ |refine AWP.ret ?_ |refine Fl.elK rfl rfl rfl rfl rfl rfl rfl rfl (by assumption) (by omega) ?_ |(refine Fl.splitD rfl rfl ?_ ?_ <;> intro _ <;> try (exfalso; omega)) |fail)
            exact RetOk.of rfl (AV.Le.bool (hno (by omega)))
          · repeat' (first |refine Fl.v rfl rfl rfl ?_ |refine Fl.nilF ?_ |refine AWP.seq ?_ |refine AWP.region ?_ |refine Fl.w rfl rfl rfl (by first | exact True.intro | omega) ?_ |refine Fl.skip rfl rfl ?_ |refine AWP.condF rfl ?_ |(refine AWP.condD rfl ?_ ?_ <;> intro _ <;> try (exfalso; omega)) |refine AWP.skip ?_ |refine AWP.exit ?_ |refine AWP.ret ?_ |refine Fl.elK rfl rfl rfl rfl rfl rfl rfl rfl (by assumption) (by omega) ?_ |(refine Fl.splitD rfl rfl ?_ ?_ <;> intro _ <;> try (exfalso; omega)) |fail)
            · rename_i h; exact RetOk.of rfl (AV.Le.bool (hno h))
            · rename_i h
              rw [if_neg h] at k1
              refine LoopEnd.of (i + 1) ⟨by omega, by rw [hnn]; exact k1⟩ (by omega) ?_
              refine Ent.of [] ?_ ?_ rfl rfl
              repeat' (first | exact True.intro |refine ⟨⟨AV.Le.refl _, rfl⟩, ?_⟩ |refine ⟨⟨⟨_, rfl, BLe.cells (LeL.refl _)⟩, rfl⟩, ?_⟩ |refine ⟨⟨⟨_, rfl, BLe.row rfl⟩, rfl⟩, ?_⟩ |refine ⟨⟨⟨_, rfl, BLe.row ?_⟩, rfl⟩, ?_⟩ |refine ⟨⟨⟨_, rfl, BLe.cells ?_⟩, rfl⟩, ?_⟩ |refine ⟨⟨AV.Le.int ?_, rfl⟩, ?_⟩ |refine ⟨⟨AV.Le.bool ?_, rfl⟩, ?_⟩ |refine ⟨⟨AV.Le.sl ?_, rfl⟩, ?_⟩ |refine ⟨⟨AV.Le.of_eq ?_, rfl⟩, ?_⟩ | fail)
              exact hnn.symm
    · have hd : s.links.drop i = [] := List.drop_of_length_le (by omega)
      rw [hd] at k1
      have k1 : cnB s.links 0 = true := k1.symm
      have hB : lightB b s zs most = if b = false then true else if (zs.length : Int) = s.vars then decide (ldS zs s.links ≤ most) else true := by
        unfold lightB
        rw [if_neg (by omega), if_neg (by omega), if_neg (by rw [k1]; simp)]
      rw [hB]
      repeat' (first |refine Fl.v rfl rfl rfl ?_ |refine Fl.nilF ?_ |refine AWP.seq ?_ |refine AWP.region ?_ |(refine AWP.condD rfl ?_ ?_ <;> intro _ <;> try (exfalso; omega)) |refine AWP.exit ?_ |fail)
      refine Fl.call rfl (r9Valid_ok s hw hwl b hb) rfl rfl rfl (LeL.refl _) ?_
      repeat' (first |refine Fl.v rfl rfl rfl ?_ |refine Fl.nilF ?_ |refine AWP.seq ?_ |refine AWP.region ?_ |refine Fl.skip rfl rfl ?_ |refine AWP.condT rfl ?_ |(refine AWP.condN rfl ?_ ?_ <;> intro _ <;> try (exfalso; omega)) |refine AWP.skip ?_ |refine AWP.ret ?_ |(refine Fl.splitB rfl rfl ?_ ?_ <;> (fail_if_success (intro hb_; exact absurd hb_ (by decide))) <;> intro _) |fail)
      · rename_i h
        have h : (!b) = true := h
        refine RetOk.of rfl (AV.Le.bool ?_)
        rw [if_pos (by simpa using h)]
      · rename_i h h'
        have h : (!b) = false := h
        refine RetOk.of rfl (AV.Le.bool ?_)
        rw [if_neg (by simpa using h), if_neg h']
      · rename_i h h'
        have h : (!b) = false := h
        have hbt : b = true := by simpa using h
        refine Fl.call rfl (r9Load_ok s zs (hb.1 hbt) h') rfl rfl rfl (LeL.refl _) ?_
        repeat' (first |refine Fl.v rfl rfl rfl ?_ |refine Fl.nilF ?_ |refine AWP.ret ?_ |fail)
        refine RetOk.of rfl (AV.Le.bool ?_)
        rw [if_neg (by simp [hbt]), if_pos h']
end Go.Proofs.Ytfkjhjgihbnegaa
namespace Go.AL
/-- bytes -/
def eY : Int → List AV := fun n => [.v (.int .u8 n)]
theorem holdsR_cases (f g : LZ → Bool) : ∀ ls : List LZ, (holdsR f g ls = (true, 0) ∧ ∀ l ∈ ls, g l = true) ∨ (holdsR f g ls = (false, 0) ∧ ∃ l ∈ ls, g l = false) ∨ holdsR f g ls = (false, 4)
  | [] => .inl ⟨rfl, by simp⟩
  | l :: ls => by
    unfold holdsR
    cases hf : f l with
    | false => exact .inr (.inr rfl)
    | true =>
      cases hg : g l with
      | false => exact .inr (.inl ⟨rfl, l, by simp, hg⟩)
      | true =>
        rcases holdsR_cases f g ls with ⟨h1, h2⟩ | ⟨h1, x, hx, h2⟩ | h1
        · exact .inl ⟨by simpa using h1, fun y hy => by
            rcases List.mem_cons.1 hy with rfl | hy
            · exact hg
            · exact h2 y hy⟩
        · exact .inr (.inl ⟨by simpa using h1, x, by simp [hx], h2⟩)
        · exact .inr (.inr (by simpa using h1))
/-- what may come out for two orders of the same links -/
inductive Pair2 : Bool × Int → Bool × Int → Prop
  | form : Pair2 (false, 1) (false, 1)
  | arg : Pair2 (false, 2) (false, 2)
  | tt : Pair2 (true, 0) (true, 0)
  | ff : Pair2 (false, 0) (false, 0)
  | l4 (a : Bool) : Pair2 (false, 4) (a, 0)
  | r4 (a : Bool) : Pair2 (a, 0) (false, 4)
  | b4 : Pair2 (false, 4) (false, 4)
theorem Pair2.of (f g : LZ → Bool) {ls ms : List LZ} (hp : ms.Perm ls) : Pair2 (holdsR f g ls) (holdsR f g ms) := by
  rcases holdsR_cases f g ls with ⟨h1, h2⟩ | ⟨h1, x, hx, h2⟩ | h1 <;> rcases holdsR_cases f g ms with ⟨k1, k2⟩ | ⟨k1, y, hy, k2⟩ | k1 <;> rw [h1, k1]
  · exact .tt
  · have := h2 y (hp.mem_iff.1 hy); rw [k2] at this; cases this
  · exact .r4 _
  · have := k2 x (hp.mem_iff.2 hx); rw [h2] at this; cases this
  · exact .ff
  · exact .r4 _
  · exact .l4 _
  · exact .l4 _
  · exact .b4
theorem perm_swap {α : Type} {l : List α} {i k : Nat} {x y : α} (hx : l[k]? = some x) (hy : l[i]? = some y) : ((l.set i x).set k y).Perm l := by
  obtain ⟨h1, rfl⟩ := List.getElem?_eq_some_iff.1 hx
  obtain ⟨h2, rfl⟩ := List.getElem?_eq_some_iff.1 hy
  exact List.set_set_perm h2 h1
theorem OkS.perm {s : SZ} {ms : List LZ} (h : OkS s) (hp : ms.Perm s.links) : OkS ⟨s.vars, ms⟩ :=
  ⟨h.v0, h.v1, by have := h.len; rw [← hp.length_eq] at this; exact this, fun l hl => h.links l (hp.mem_iff.1 hl)⟩
end Go.AL
namespace Go.Proofs.Ytfkjhjgihbnegaa
open Go.AL

theorem Holds_two (s : SZ) (ms : List LZ) (hp : ms.Perm s.links) (zs : List Z) (hw : WS s) (hz : ∀ z ∈ zs, WOk z.w) (hl : zs.length ≤ 1000000000) : ∃ p q : Bool × Int, PureFn Try.prog 12 [aS s, .sl 2 eZ zs] (.tup [aB p.1, aN p.2]) ∧ PureFn Try.prog 12 [aS ⟨s.vars, ms⟩, .sl 2 eZ zs] (.tup [aB q.1, aN q.2]) ∧ Pair2 p q := by
  have hwt : WS ⟨s.vars, ms⟩ := fun l hl => hw l (hp.mem_iff.1 hl)
  by_cases h1 : OkS s ∧ ∀ z ∈ zs, OkZ z
  · obtain ⟨hs, hzz⟩ := h1
    have ht := hs.perm hp
    obtain ⟨X, hX, hXf⟩ : ∃ X : List Int, zs = X.map zOf ∧ ∀ x ∈ X, Fit x := by
      refine ⟨zs.map zval, ?_, fun x hx => ?_⟩
      · rw [List.map_map]
        conv => lhs; rw [← List.map_id zs]
        exact List.map_congr_left fun z hz' => (okZ_eq (hz z hz') (hzz z hz')).1
      · obtain ⟨z, hz', rfl⟩ := List.mem_map.1 hx
        exact (okZ_eq (hz z hz') (hzz z hz')).2
    subst hX
    have hl' : X.length ≤ 1000000000 := by simpa using hl
    have hle : LeL [.sl 2 eZ (X.map zOf)] [.sl 2 eX X] := LeL.cons (AV.Le.slMap (enc := eZ) (f := zOf)) LeL.nil
    by_cases h2 : (X.length : Int) = s.vars ∧ ∀ x ∈ X, 0 ≤ x
    · obtain ⟨f, hf⟩ := boolOf (fun l : LZ => EvL X l)
      obtain ⟨g, hg⟩ := boolOf (fun l : LZ => HoL X l)
      exact ⟨_, _, (Holds_ok s X hw hs hXf h2.1 h2.2 f g hf hg).le (LeL.cons (AV.Le.refl _) hle) (AV.Le.refl _), (Holds_ok ⟨s.vars, ms⟩ X hwt ht hXf h2.1 h2.2 f g hf hg).le (LeL.cons (AV.Le.refl _) hle) (AV.Le.refl _), Pair2.of f g hp⟩
    · exact ⟨(false, 2), (false, 2), (Holds_arg s X hw hs hXf hl' h2).le (LeL.cons (AV.Le.refl _) hle) (AV.Le.refl _), (Holds_arg ⟨s.vars, ms⟩ X hwt ht hXf hl' h2).le (LeL.cons (AV.Le.refl _) hle) (AV.Le.refl _), .arg⟩
  · refine ⟨(false, 1), (false, 1), Holds_form s zs hw hz hl h1, Holds_form ⟨s.vars, ms⟩ zs hwt hz hl fun h => h1 ⟨?_, h.2⟩, .form⟩
    exact h.1.perm hp.symm
set_option maxHeartbeats 4000000 in
theorem SystemOrder_ok (s : SZ) (zs : List Z) (tn : List Int) (hw : WS s) (hwl : WLS s) (hz : ∀ z ∈ zs, WOk z.w) (htn : ∀ b ∈ tn, 0 ≤ b ∧ b ≤ 255) : PureFn Try.prog 4 [aS s, .sl 2 eZ zs, .sl 1 eY tn] (aB true) := by
  refine PureFn.of_body Try.func4 rfl Try.ntmps4 rfl rfl ?_
  obtain ⟨f, hf⟩ := boolOf (fun s : SZ => OkS s)
  have hL := Light_ok s zs 300 hw hwl (f s) (hf s)
  have hlen := @lightB_len (f s) s zs 300
  revert hL hlen
  generalize lightB (f s) s zs 300 = lb
  intro hL hlen
  repeat' (first |refine Fl.v rfl rfl rfl ?_ |refine Fl.nilF ?_ |refine AWP.seq ?_ |refine AWP.region ?_ |refine Fl.b rfl rfl rfl rfl ?_ |refine Fl.skip rfl rfl ?_ |refine AWP.condT rfl ?_ |(refine Fl.splitD rfl rfl ?_ ?_ <;> intro _ <;> try (exfalso; omega)) |fail)
  · refine Fl.call rfl (awake_ok) rfl rfl rfl (LeL.refl _) ?_
    repeat' (first |refine Fl.v rfl rfl rfl ?_ |refine Fl.nilF ?_ |refine AWP.ret ?_ |fail)
    exact RetOk.of rfl (AV.Le.refl _)
  cases lb with
  | false =>
    refine Fl.call rfl (hL) rfl rfl rfl (LeL.refl _) ?_
    repeat' (first |refine Fl.v rfl rfl rfl ?_ |refine Fl.nilF ?_ |refine AWP.seq ?_ |refine AWP.region ?_ |refine AWP.condT rfl ?_ |fail)
    refine Fl.call rfl (awake_ok) rfl rfl rfl (LeL.refl _) ?_
    repeat' (first |refine Fl.v rfl rfl rfl ?_ |refine Fl.nilF ?_ |refine AWP.ret ?_ |fail)
    exact RetOk.of rfl (AV.Le.refl _)
  | true =>
    obtain ⟨hl1, hl2⟩ := hlen rfl
    refine Fl.call rfl (hL) rfl rfl rfl (LeL.refl _) ?_
    repeat' (first |refine Fl.v rfl rfl rfl ?_ |refine Fl.nilF ?_ |refine AWP.seq ?_ |refine AWP.region ?_ |refine AWP.condF rfl ?_ |refine AWP.skip ?_ |fail)
    refine Fl.litrow rfl rfl rfl rfl rfl rfl rfl eL [] rfl rfl rfl rfl (by intro _ h; cases h) (LeL.refl _) ?_
    repeat' (first |refine Fl.v rfl rfl rfl ?_ |fail)
    refine Fl.ap rfl rfl rfl rfl rfl rfl rfl rfl rfl rfl rfl rfl rfl (fun _ => rfl) (fun _ => rfl) (AV.Le.refl _) (by simp only [List.length_nil]; omega) (by simp only [List.length_nil]; omega) ?_
    repeat' (first |refine Fl.v rfl rfl rfl ?_ |refine Fl.nilF ?_ |refine Fl.nil (fun _ => by kernel_rfl) ?_ |refine AWP.seq ?_ |refine AWP.region ?_ |refine Fl.b rfl rfl rfl rfl ?_ |refine AWP.block ?_ |fail)
    refine AWP.loop (G := Nat × List LZ) (fun (i, ms) => ms.Perm s.links) (fun (i, ms) => St.of [] [(1, .sl 2 eZ zs), (2, .sl 1 eY tn), (3, .ptr 3 0), (7, .ptr 7 0), (8, aN i)] [(3, .cells [aN s.vars, .sl 3 eL s.links] 42), (7, .cells [aN s.vars, .row 700] 42), (700, .row 3 eL ms 39)]) (fun (i, ms) => s.links.length - i) (0, s.links) (List.Perm.refl _) ?_ ?_
    · refine Ent.of [(700, 30)] ?_ ?_ rfl rfl
      repeat' (first | exact True.intro |refine ⟨⟨AV.Le.refl _, rfl⟩, ?_⟩ |refine ⟨⟨⟨_, rfl, BLe.cells (LeL.refl _)⟩, rfl⟩, ?_⟩ |refine ⟨⟨⟨_, rfl, BLe.row rfl⟩, rfl⟩, ?_⟩ |refine ⟨⟨⟨_, rfl, BLe.row ?_⟩, rfl⟩, ?_⟩ |refine ⟨⟨⟨_, rfl, BLe.cells ?_⟩, rfl⟩, ?_⟩ |refine ⟨⟨AV.Le.int ?_, rfl⟩, ?_⟩ |refine ⟨⟨AV.Le.bool ?_, rfl⟩, ?_⟩ |refine ⟨⟨AV.Le.sl ?_, rfl⟩, ?_⟩ |refine ⟨⟨AV.Le.of_eq ?_, rfl⟩, ?_⟩ | fail)
    · intro (i, ms) hp
      have hp : ms.Perm s.links := hp
      have hml := hp.length_eq
      by_cases hi : i < tn.length
      · by_cases hi2 : i < ms.length
        · obtain ⟨b, hb⟩ : ∃ b, tn[i]? = some b := ⟨_, List.getElem?_eq_getElem hi⟩
          have hbb := htn b (List.mem_of_getElem? hb)
          have hk0 : 0 ≤ ((b + 9223372036854775808) % 18446744073709551616 - 9223372036854775808) % (ms.length : Int) := Int.emod_nonneg _ (by omega)
          have hk1 : ((b + 9223372036854775808) % 18446744073709551616 - 9223372036854775808) % (ms.length : Int) < ms.length := Int.emod_lt_of_pos _ (by omega)
          repeat' (first |refine Fl.v rfl rfl rfl ?_ |refine Fl.nilF ?_ |refine Fl.nil (fun _ => by kernel_rfl) ?_ |refine AWP.seq ?_ |refine AWP.region ?_ |refine Fl.w rfl rfl rfl (by first | exact True.intro | omega) ?_ |(refine AWP.condD rfl ?_ ?_ <;> intro _ <;> try (exfalso; omega)) |refine AWP.block ?_ |refine AWP.skip ?_ |refine Fl.elK rfl rfl rfl rfl rfl rfl rfl rfl (by assumption) (by omega) ?_ |refine Fl.rel rfl rfl rfl rfl rfl rfl rfl rfl (by omega) (by first | omega | (simp; omega)) ?_ |(refine Fl.rld rfl rfl rfl rfl rfl rfl rfl (fun _ => rfl) (fun _ => rfl) (by first | omega | (simp; omega)) ?_; intro _ _) |refine Fl.rst rfl rfl rfl rfl rfl rfl rfl rfl rfl rfl rfl (LeL.refl _) rfl (by first | omega | (simp; omega)) ?_ |refine Fl.cvS rfl rfl rfl rfl rfl rfl ?_ |(refine Fl.splitD rfl rfl ?_ ?_ <;> intro _ <;> try (exfalso; omega)) |fail)
          rename_i x hx y hy
          refine LoopEnd.of (i + 1, _) (List.Perm.trans (perm_swap hx hy) hp) (show s.links.length - (i + 1) < s.links.length - i by omega) ?_
          refine Ent.of [] ?_ ?_ rfl rfl
          repeat' (first | exact True.intro |refine ⟨⟨AV.Le.refl _, rfl⟩, ?_⟩ |refine ⟨⟨⟨_, rfl, BLe.cells (LeL.refl _)⟩, rfl⟩, ?_⟩ |refine ⟨⟨⟨_, rfl, BLe.row rfl⟩, rfl⟩, ?_⟩ |refine ⟨⟨⟨_, rfl, BLe.row ?_⟩, rfl⟩, ?_⟩ |refine ⟨⟨⟨_, rfl, BLe.cells ?_⟩, rfl⟩, ?_⟩ |refine ⟨⟨AV.Le.int ?_, rfl⟩, ?_⟩ |refine ⟨⟨AV.Le.bool ?_, rfl⟩, ?_⟩ |refine ⟨⟨AV.Le.sl ?_, rfl⟩, ?_⟩ |refine ⟨⟨AV.Le.of_eq ?_, rfl⟩, ?_⟩ | fail)
        · refine AWP.ent (Ent.freeze 700 rfl) ?_
          obtain ⟨p, q, hc1, hc2, hpq⟩ := Holds_two s ms hp zs hw hz (by omega)
          repeat' (first |refine Fl.v rfl rfl rfl ?_ |refine Fl.nilF ?_ |refine AWP.seq ?_ |refine AWP.region ?_ |(refine AWP.condD rfl ?_ ?_ <;> intro _ <;> try (exfalso; omega)) |refine AWP.exit ?_ |(refine Fl.splitD rfl rfl ?_ ?_ <;> intro _ <;> try (exfalso; omega)) |fail)
          cases hpq
          · refine Fl.call rfl (hc1) rfl rfl rfl (LeL.refl _) ?_
            repeat' (first |refine Fl.v rfl rfl rfl ?_ |refine Fl.nilF ?_ |refine AWP.seq ?_ |refine AWP.region ?_ |fail)
            refine Fl.call rfl (hc2) rfl rfl rfl (LeL.refl _) ?_
            repeat' (first |refine Fl.v rfl rfl rfl ?_ |refine Fl.nilF ?_ |refine AWP.seq ?_ |refine AWP.region ?_ |refine Fl.skip rfl rfl ?_ |refine AWP.ret ?_ |(refine Fl.splitD rfl rfl ?_ ?_ <;> intro _ <;> try (exfalso; omega)) |fail)
            refine Fl.call rfl (awake_ok) rfl rfl rfl (LeL.refl _) ?_
            repeat' (first |refine Fl.v rfl rfl rfl ?_ |refine Fl.nilF ?_ |refine AWP.ret ?_ |fail)
            · exact RetOk.of rfl (AV.Le.refl _)
            all_goals (rename_i h; exact absurd rfl h)
          · refine Fl.call rfl (hc1) rfl rfl rfl (LeL.refl _) ?_
            repeat' (first |refine Fl.v rfl rfl rfl ?_ |refine Fl.nilF ?_ |refine AWP.seq ?_ |refine AWP.region ?_ |fail)
            refine Fl.call rfl (hc2) rfl rfl rfl (LeL.refl _) ?_
            repeat' (first |refine Fl.v rfl rfl rfl ?_ |refine Fl.nilF ?_ |refine AWP.seq ?_ |refine AWP.region ?_ |refine Fl.skip rfl rfl ?_ |refine AWP.ret ?_ |(refine Fl.splitD rfl rfl ?_ ?_ <;> intro _ <;> try (exfalso; omega)) |fail)
            refine Fl.call rfl (awake_ok) rfl rfl rfl (LeL.refl _) ?_
            repeat' (first |refine Fl.v rfl rfl rfl ?_ |refine Fl.nilF ?_ |refine AWP.ret ?_ |fail)
            · exact RetOk.of rfl (AV.Le.refl _)
            all_goals (rename_i h; exact absurd rfl h)
          · refine Fl.call rfl (hc1) rfl rfl rfl (LeL.refl _) ?_
            repeat' (first |refine Fl.v rfl rfl rfl ?_ |refine Fl.nilF ?_ |refine AWP.seq ?_ |refine AWP.region ?_ |fail)
            refine Fl.call rfl (hc2) rfl rfl rfl (LeL.refl _) ?_
            repeat' (first |refine Fl.v rfl rfl rfl ?_ |refine Fl.nilF ?_ |refine AWP.seq ?_ |refine AWP.region ?_ |refine Fl.skip rfl rfl ?_ |refine AWP.ret ?_ |(refine Fl.splitD rfl rfl ?_ ?_ <;> intro _ <;> try (exfalso; omega)) |fail)
            refine Fl.call rfl (awake_ok) rfl rfl rfl (LeL.refl _) ?_
            repeat' (first |refine Fl.v rfl rfl rfl ?_ |refine Fl.nilF ?_ |refine AWP.ret ?_ |fail)
            · exact RetOk.of rfl (AV.Le.refl _)
            all_goals (rename_i h; exact absurd rfl h)
          · refine Fl.call rfl (hc1) rfl rfl rfl (LeL.refl _) ?_
            repeat' (first |refine Fl.v rfl rfl rfl ?_ |refine Fl.nilF ?_ |refine AWP.seq ?_ |refine AWP.region ?_ |fail)
            refine Fl.call rfl (hc2) rfl rfl rfl (LeL.refl _) ?_
            repeat' (first |refine Fl.v rfl rfl rfl ?_ |refine Fl.nilF ?_ |refine AWP.seq ?_ |refine AWP.region ?_ |refine Fl.skip rfl rfl ?_ |refine AWP.ret ?_ |(refine Fl.splitD rfl rfl ?_ ?_ <;> intro _ <;> try (exfalso; omega)) |fail)
            refine Fl.call rfl (awake_ok) rfl rfl rfl (LeL.refl _) ?_
            repeat' (first |refine Fl.v rfl rfl rfl ?_ |refine Fl.nilF ?_ |refine AWP.ret ?_ |fail)
            · exact RetOk.of rfl (AV.Le.refl _)
            all_goals (rename_i h; exact absurd rfl h)
          · refine Fl.call rfl (hc1) rfl rfl rfl (LeL.refl _) ?_
            repeat' (first |refine Fl.v rfl rfl rfl ?_ |refine Fl.nilF ?_ |refine AWP.seq ?_ |refine AWP.region ?_ |fail)
            refine Fl.call rfl (hc2) rfl rfl rfl (LeL.refl _) ?_
            repeat' (first |refine Fl.v rfl rfl rfl ?_ |refine Fl.nilF ?_ |refine AWP.seq ?_ |refine AWP.region ?_ |refine Fl.skip rfl rfl ?_ |refine AWP.ret ?_ |(refine Fl.splitD rfl rfl ?_ ?_ <;> intro _ <;> try (exfalso; omega)) |fail)
            refine Fl.call rfl (awake_ok) rfl rfl rfl (LeL.refl _) ?_
            repeat' (first |refine Fl.v rfl rfl rfl ?_ |refine Fl.nilF ?_ |refine AWP.ret ?_ |fail)
            · exact RetOk.of rfl (AV.Le.refl _)
            all_goals (rename_i h; exact absurd rfl h)
          · refine Fl.call rfl (hc1) rfl rfl rfl (LeL.refl _) ?_
            repeat' (first |refine Fl.v rfl rfl rfl ?_ |refine Fl.nilF ?_ |refine AWP.seq ?_ |refine AWP.region ?_ |fail)
            refine Fl.call rfl (hc2) rfl rfl rfl (LeL.refl _) ?_
            repeat' (first |refine Fl.v rfl rfl rfl ?_ |refine Fl.nilF ?_ |refine AWP.seq ?_ |refine AWP.region ?_ |refine Fl.skip rfl rfl ?_ |refine AWP.ret ?_ |(refine Fl.splitD rfl rfl ?_ ?_ <;> intro _ <;> try (exfalso; omega)) |fail)
            refine Fl.call rfl (awake_ok) rfl rfl rfl (LeL.refl _) ?_
            repeat' (first |refine Fl.v rfl rfl rfl ?_ |refine Fl.nilF ?_ |refine AWP.ret ?_ |fail)
            · exact RetOk.of rfl (AV.Le.refl _)
            all_goals (rename_i h; exact absurd rfl h)
          · refine Fl.call rfl (hc1) rfl rfl rfl (LeL.refl _) ?_
            repeat' (first |refine Fl.v rfl rfl rfl ?_ |refine Fl.nilF ?_ |refine AWP.seq ?_ |refine AWP.region ?_ |fail)
            refine Fl.call rfl (hc2) rfl rfl rfl (LeL.refl _) ?_
            repeat' (first |refine Fl.v rfl rfl rfl ?_ |refine Fl.nilF ?_ |refine AWP.seq ?_ |refine AWP.region ?_ |refine Fl.skip rfl rfl ?_ |refine AWP.ret ?_ |(refine Fl.splitD rfl rfl ?_ ?_ <;> intro _ <;> try (exfalso; omega)) |fail)
            refine Fl.call rfl (awake_ok) rfl rfl rfl (LeL.refl _) ?_
            repeat' (first |refine Fl.v rfl rfl rfl ?_ |refine Fl.nilF ?_ |refine AWP.ret ?_ |fail)
            · exact RetOk.of rfl (AV.Le.refl _)
            all_goals (rename_i h; exact absurd rfl h)
      · refine AWP.ent (Ent.freeze 700 rfl) ?_
        obtain ⟨p, q, hc1, hc2, hpq⟩ := Holds_two s ms hp zs hw hz (by omega)
        repeat' (first |refine Fl.v rfl rfl rfl ?_ |refine Fl.nilF ?_ |refine AWP.seq ?_ |refine AWP.region ?_ |refine Fl.skip rfl rfl ?_ |refine AWP.condF rfl ?_ |refine AWP.exit ?_ |(refine Fl.splitD rfl rfl ?_ ?_ <;> intro _ <;> try (exfalso; omega)) |fail)
        cases hpq
        · refine Fl.call rfl (hc1) rfl rfl rfl (LeL.refl _) ?_
          repeat' (first |refine Fl.v rfl rfl rfl ?_ |refine Fl.nilF ?_ |refine AWP.seq ?_ |refine AWP.region ?_ |fail)
          refine Fl.call rfl (hc2) rfl rfl rfl (LeL.refl _) ?_
          repeat' (first |refine Fl.v rfl rfl rfl ?_ |refine Fl.nilF ?_ |refine AWP.seq ?_ |refine AWP.region ?_ |refine Fl.skip rfl rfl ?_ |refine AWP.ret ?_ |(refine Fl.splitD rfl rfl ?_ ?_ <;> intro _ <;> try (exfalso; omega)) |fail)
          refine Fl.call rfl (awake_ok) rfl rfl rfl (LeL.refl _) ?_
          repeat' (first |refine Fl.v rfl rfl rfl ?_ |refine Fl.nilF ?_ |refine AWP.ret ?_ |fail)
          · exact RetOk.of rfl (AV.Le.refl _)
          all_goals (rename_i h; exact absurd rfl h)
        · refine Fl.call rfl (hc1) rfl rfl rfl (LeL.refl _) ?_
          repeat' (first |refine Fl.v rfl rfl rfl ?_ |refine Fl.nilF ?_ |refine AWP.seq ?_ |refine AWP.region ?_ |fail)
          refine Fl.call rfl (hc2) rfl rfl rfl (LeL.refl _) ?_
          repeat' (first |refine Fl.v rfl rfl rfl ?_ |refine Fl.nilF ?_ |refine AWP.seq ?_ |refine AWP.region ?_ |refine Fl.skip rfl rfl ?_ |refine AWP.ret ?_ |(refine Fl.splitD rfl rfl ?_ ?_ <;> intro _ <;> try (exfalso; omega)) |fail)
          refine Fl.call rfl (awake_ok) rfl rfl rfl (LeL.refl _) ?_
          repeat' (first |refine Fl.v rfl rfl rfl ?_ |refine Fl.nilF ?_ |refine AWP.ret ?_ |fail)
          · exact RetOk.of rfl (AV.Le.refl _)
          all_goals (rename_i h; exact absurd rfl h)
        · refine Fl.call rfl (hc1) rfl rfl rfl (LeL.refl _) ?_
          repeat' (first |refine Fl.v rfl rfl rfl ?_ |refine Fl.nilF ?_ |refine AWP.seq ?_ |refine AWP.region ?_ |fail)
          refine Fl.call rfl (hc2) rfl rfl rfl (LeL.refl _) ?_
          repeat' (first |refine Fl.v rfl rfl rfl ?_ |refine Fl.nilF ?_ |refine AWP.seq ?_ |refine AWP.region ?_ |refine Fl.skip rfl rfl ?_ |refine AWP.ret ?_ |(refine Fl.splitD rfl rfl ?_ ?_ <;> intro _ <;> try (exfalso; omega)) |fail)
          refine Fl.call rfl (awake_ok) rfl rfl rfl (LeL.refl _) ?_
          repeat' (first |refine Fl.v rfl rfl rfl ?_ |refine Fl.nilF ?_ |refine AWP.ret ?_ |fail)
          · exact RetOk.of rfl (AV.Le.refl _)
          all_goals (rename_i h; exact absurd rfl h)
        · refine Fl.call rfl (hc1) rfl rfl rfl (LeL.refl _) ?_
          repeat' (first |refine Fl.v rfl rfl rfl ?_ |refine Fl.nilF ?_ |refine AWP.seq ?_ |refine AWP.region ?_ |fail)
          refine Fl.call rfl (hc2) rfl rfl rfl (LeL.refl _) ?_
          repeat' (first |refine Fl.v rfl rfl rfl ?_ |refine Fl.nilF ?_ |refine AWP.seq ?_ |refine AWP.region ?_ |refine Fl.skip rfl rfl ?_ |refine AWP.ret ?_ |(refine Fl.splitD rfl rfl ?_ ?_ <;> intro _ <;> try (exfalso; omega)) |fail)
          refine Fl.call rfl (awake_ok) rfl rfl rfl (LeL.refl _) ?_
          repeat' (first |refine Fl.v rfl rfl rfl ?_ |refine Fl.nilF ?_ |refine AWP.ret ?_ |fail)
          · exact RetOk.of rfl (AV.Le.refl _)
          all_goals (rename_i h; exact absurd rfl h)
        · refine Fl.call rfl (hc1) rfl rfl rfl (LeL.refl _) ?_
          repeat' (first |refine Fl.v rfl rfl rfl ?_ |refine Fl.nilF ?_ |refine AWP.seq ?_ |refine AWP.region ?_ |fail)
          refine Fl.call rfl (hc2) rfl rfl rfl (LeL.refl _) ?_
          repeat' (first |refine Fl.v rfl rfl rfl ?_ |refine Fl.nilF ?_ |refine AWP.seq ?_ |refine AWP.region ?_ |refine Fl.skip rfl rfl ?_ |refine AWP.ret ?_ |(refine Fl.splitD rfl rfl ?_ ?_ <;> intro _ <;> try (exfalso; omega)) |fail)
          refine Fl.call rfl (awake_ok) rfl rfl rfl (LeL.refl _) ?_
          repeat' (first |refine Fl.v rfl rfl rfl ?_ |refine Fl.nilF ?_ |refine AWP.ret ?_ |fail)
          · exact RetOk.of rfl (AV.Le.refl _)
          all_goals (rename_i h; exact absurd rfl h)
        · refine Fl.call rfl (hc1) rfl rfl rfl (LeL.refl _) ?_
          repeat' (first |refine Fl.v rfl rfl rfl ?_ |refine Fl.nilF ?_ |refine AWP.seq ?_ |refine AWP.region ?_ |fail)
          refine Fl.call rfl (hc2) rfl rfl rfl (LeL.refl _) ?_
          repeat' (first |refine Fl.v rfl rfl rfl ?_ |refine Fl.nilF ?_ |refine AWP.seq ?_ |refine AWP.region ?_ |refine Fl.skip rfl rfl ?_ |refine AWP.ret ?_ |(refine Fl.splitD rfl rfl ?_ ?_ <;> intro _ <;> try (exfalso; omega)) |fail)
          refine Fl.call rfl (awake_ok) rfl rfl rfl (LeL.refl _) ?_
          repeat' (first |refine Fl.v rfl rfl rfl ?_ |refine Fl.nilF ?_ |refine AWP.ret ?_ |fail)
          · exact RetOk.of rfl (AV.Le.refl _)
          all_goals (rename_i h; exact absurd rfl h)
        · refine Fl.call rfl (hc1) rfl rfl rfl (LeL.refl _) ?_
          repeat' (first |refine Fl.v rfl rfl rfl ?_ |refine Fl.nilF ?_ |refine AWP.seq ?_ |refine AWP.region ?_ |fail)
          refine Fl.call rfl (hc2) rfl rfl rfl (LeL.refl _) ?_
          repeat' (first |refine Fl.v rfl rfl rfl ?_ |refine Fl.nilF ?_ |refine AWP.seq ?_ |refine AWP.region ?_ |refine Fl.skip rfl rfl ?_ |refine AWP.ret ?_ |(refine Fl.splitD rfl rfl ?_ ?_ <;> intro _ <;> try (exfalso; omega)) |fail)
          refine Fl.call rfl (awake_ok) rfl rfl rfl (LeL.refl _) ?_
          repeat' (first |refine Fl.v rfl rfl rfl ?_ |refine Fl.nilF ?_ |refine AWP.ret ?_ |fail)
          · exact RetOk.of rfl (AV.Le.refl _)
          all_goals (rename_i h; exact absurd rfl h)
end Go.Proofs.Ytfkjhjgihbnegaa
namespace Go.AL
/-- what a system in memory is -/
def TB (t : TZ) : Prop := ZB t.c
def PB (p : PZ) : Prop := (∀ t ∈ p.terms, TB t) ∧ p.terms.length ≤ maxLen
def LB (l : LZ) : Prop := (∀ p ∈ l.polys, PB p) ∧ l.polys.length ≤ maxLen
def SB (s : SZ) : Prop := ∀ l ∈ s.links, LB l
theorem SB.ws {s : SZ} (h : SB s) : WS s := fun l hl p hp t ht => (((h l hl).1 p hp).1 t ht).1
theorem SB.wls {s : SZ} (h : SB s) : WLS s := fun l hl => ⟨by have := (h l hl).2; simp only [maxLen] at this; omega, fun p hp => ⟨by have := ((h l hl).1 p hp).2; simp only [maxLen] at this; omega, fun t ht => by have := (((h l hl).1 p hp).1 t ht).2; simp only [maxLen] at this; omega⟩⟩
end Go.AL
namespace Go.Proofs.Ytfkjhjgihbnegaa
open Go.AL Go.ChangeShapes Go.WideShapes Go.ChangeAt Go.RowKit

section
variable {H : Type} {enc : TypeId × Value → H} {w : World} {base : Nat} {spare : Nat → Bool} {held : Bool}
theorem trodIs {fuel : Nat} {cs : List Value} {x : DataW H × List MemPlace} (h : DataW.trod enc Try.prog w base spare held fuel 33 cs = some x) : ∃ (xs : List Int) (u : Value), cs = [u] ∧ Rep (hpOf w) noB (aI xs) u := by
  obtain ⟨xs, u, h1, h2, _⟩ := trodSlice 1 eI (fun n => True) Try.underlying33 (by kernel_rfl) (fun fuel us y _ hy => by
    obtain ⟨n, rfl, hn⟩ := trodInt Try.underlying3 hy
    exact ⟨n, ⟨_, _, rfl, by simp only [Rep], rfl⟩, trivial⟩) h
  exact ⟨xs, u, h1, h2⟩
theorem trodBs {fuel : Nat} {cs : List Value} {x : DataW H × List MemPlace} (h : DataW.trod enc Try.prog w base spare held fuel 50 cs = some x) : ∃ (xs : List Int) (u : Value), cs = [u] ∧ Rep (hpOf w) noB (.sl 1 eY xs) u ∧ (∀ b ∈ xs, 0 ≤ b ∧ b ≤ 255) ∧ xs.length ≤ maxLen := by
  refine trodSlice 1 eY (fun n => 0 ≤ n ∧ n ≤ 255) Try.underlying50 (by kernel_rfl) (fun fuel us y _ hy => ?_) h
  obtain ⟨n, rfl, hn⟩ := trodInt Try.underlying5 hy
  exact ⟨n, ⟨_, _, rfl, by simp only [Rep], rfl⟩, wfU8 hn⟩
theorem trodXs {fuel : Nat} {cs : List Value} {x : DataW H × List MemPlace} (h : DataW.trod enc Try.prog w base spare held fuel 35 cs = some x) : ∃ (xs : List Z) (u : Value), cs = [u] ∧ Rep (hpOf w) noB (.sl 2 eZ xs) u ∧ (∀ z ∈ xs, ZB z) ∧ xs.length ≤ maxLen :=
  trodSlice 2 eZ ZB Try.underlying35 (by kernel_rfl) (fun fuel us y _ hy => trodZ hy) h
theorem trodT {fuel : Nat} {cs : List Value} {x : DataW H × List MemPlace} (h : DataW.trod enc Try.prog w base spare held fuel 64 cs = some x) : ∃ t : TZ, RepL (hpOf w) noB (eT t) cs ∧ TB t := by
  obtain ⟨y0, y1, n, _, hl, h0, h1⟩ := trod_struct2 Try.underlying64 h
  have hc : Try.prog.cellsOf 64 = 3 := by kernel_rfl
  have hb : Try.prog.cellsOf 24 = 2 := by kernel_rfl
  have hs : Try.prog.cellsOf 33 = 1 := by kernel_rfl
  rw [hc] at hl
  obtain ⟨c0, c1, c2, rfl⟩ := list3 hl
  simp only [hb, hs, List.drop_zero, List.take_succ_cons, List.take_zero, List.drop_succ_cons] at h0 h1
  obtain ⟨z, ⟨_, _, e0, r0, ⟨_, _, e1, r1, e2⟩⟩, hz⟩ := trodZ h0
  obtain ⟨xs, u, e3, hr⟩ := trodIs h1
  injection e0 with e0 e0'; subst e0 e0'
  injection e1 with e1 e1'; subst e1
  injection e3 with e3; subst e3
  exact ⟨⟨z, xs⟩, ⟨_, _, rfl, r0, ⟨_, _, rfl, r1, ⟨_, _, rfl, hr, rfl⟩⟩⟩, hz⟩
theorem trodTs {fuel : Nat} {cs : List Value} {x : DataW H × List MemPlace} (h : DataW.trod enc Try.prog w base spare held fuel 28 cs = some x) : ∃ (xs : List TZ) (u : Value), cs = [u] ∧ Rep (hpOf w) noB (.sl 3 eT xs) u ∧ (∀ z ∈ xs, TB z) ∧ xs.length ≤ maxLen :=
  trodSlice 3 eT TB Try.underlying28 (by kernel_rfl) (fun fuel us y _ hy => trodT hy) h
theorem trodP {fuel : Nat} {cs : List Value} {x : DataW H × List MemPlace} (h : DataW.trod enc Try.prog w base spare held fuel 30 cs = some x) : ∃ t : PZ, RepL (hpOf w) noB (eP t) cs ∧ PB t := by
  obtain ⟨y0, y1, n, _, hl, h0, h1⟩ := trod_struct2 Try.underlying30 h
  have hc : Try.prog.cellsOf 30 = 2 := by kernel_rfl
  have hb : Try.prog.cellsOf 3 = 1 := by kernel_rfl
  have hs : Try.prog.cellsOf 28 = 1 := by kernel_rfl
  rw [hc] at hl
  obtain ⟨c0, c1, rfl⟩ := list2 hl
  simp only [hb, hs, List.drop_zero, List.take_succ_cons, List.take_zero, List.drop_succ_cons] at h0 h1
  obtain ⟨n, e0, hn⟩ := trodInt Try.underlying3 h0
  obtain ⟨xs, u, e1, hr, hw⟩ := trodTs h1
  injection e0 with e0; injection e1 with e1; subst e0 e1
  exact ⟨⟨n, xs⟩, ⟨_, _, rfl, by simp only [Rep], ⟨_, _, rfl, hr, rfl⟩⟩, hw⟩
theorem trodPs {fuel : Nat} {cs : List Value} {x : DataW H × List MemPlace} (h : DataW.trod enc Try.prog w base spare held fuel 37 cs = some x) : ∃ (xs : List PZ) (u : Value), cs = [u] ∧ Rep (hpOf w) noB (.sl 2 eP xs) u ∧ (∀ z ∈ xs, PB z) ∧ xs.length ≤ maxLen :=
  trodSlice 2 eP PB Try.underlying37 (by kernel_rfl) (fun fuel us y _ hy => trodP hy) h
theorem trodL {fuel : Nat} {cs : List Value} {x : DataW H × List MemPlace} (h : DataW.trod enc Try.prog w base spare held fuel 39 cs = some x) : ∃ t : LZ, RepL (hpOf w) noB (eL t) cs ∧ LB t := by
  obtain ⟨y0, y1, y2, n, _, hl, h0, h1, h2⟩ := Go.Deep.trod_struct3 Try.underlying39 h
  have hc : Try.prog.cellsOf 39 = 3 := by kernel_rfl
  have hb : Try.prog.cellsOf 3 = 1 := by kernel_rfl
  have hs : Try.prog.cellsOf 33 = 1 := by kernel_rfl
  have hs2 : Try.prog.cellsOf 37 = 1 := by kernel_rfl
  rw [hc] at hl
  obtain ⟨c0, c1, c2, rfl⟩ := list3 hl
  simp only [hb, hs, hs2, List.drop_zero, List.take_succ_cons, List.take_zero, List.drop_succ_cons] at h0 h1 h2
  obtain ⟨n, e0, hn⟩ := trodInt Try.underlying3 h0
  obtain ⟨vs, u, e1, hr⟩ := trodIs h1
  obtain ⟨ps, v, e2, hr2, hw⟩ := trodPs h2
  injection e0 with e0; injection e1 with e1; injection e2 with e2; subst e0 e1 e2
  exact ⟨⟨n, vs, ps⟩, ⟨_, _, rfl, by simp only [Rep], ⟨_, _, rfl, hr, ⟨_, _, rfl, hr2, rfl⟩⟩⟩, hw⟩
theorem trodLs {fuel : Nat} {cs : List Value} {x : DataW H × List MemPlace} (h : DataW.trod enc Try.prog w base spare held fuel 40 cs = some x) : ∃ (xs : List LZ) (u : Value), cs = [u] ∧ Rep (hpOf w) noB (.sl 3 eL xs) u ∧ (∀ z ∈ xs, LB z) ∧ xs.length ≤ maxLen :=
  trodSlice 3 eL LB Try.underlying40 (by kernel_rfl) (fun fuel us y _ hy => trodL hy) h
theorem trodSys {fuel : Nat} {cs : List Value} {x : DataW H × List MemPlace} (h : DataW.trod enc Try.prog w base spare held fuel 42 cs = some x) : ∃ s : SZ, RepL (hpOf w) noB [aN s.vars, .sl 3 eL s.links] cs ∧ SB s := by
  obtain ⟨y0, y1, n, _, hl, h0, h1⟩ := trod_struct2 Try.underlying42 h
  have hc : Try.prog.cellsOf 42 = 2 := by kernel_rfl
  have hb : Try.prog.cellsOf 3 = 1 := by kernel_rfl
  have hs : Try.prog.cellsOf 40 = 1 := by kernel_rfl
  rw [hc] at hl
  obtain ⟨c0, c1, rfl⟩ := list2 hl
  simp only [hb, hs, List.drop_zero, List.take_succ_cons, List.take_zero, List.drop_succ_cons] at h0 h1
  obtain ⟨n, e0, hn⟩ := trodInt Try.underlying3 h0
  obtain ⟨xs, u, e1, hr, hw⟩ := trodLs h1
  injection e0 with e0; injection e1 with e1; subst e0 e1
  exact ⟨⟨n, xs⟩, ⟨_, _, rfl, by simp only [Rep], ⟨_, _, rfl, hr, rfl⟩⟩, hw.1⟩
end
end Go.Proofs.Ytfkjhjgihbnegaa

/- Part 2 of a proof layer and of the contracts of the functions. -/
import Derived.Laws.CopyRow
import Derived.Laws.IdiomCopy
import Derived.Laws.Cover3
import Derived.WideLaws
import Derived.Recover
import Derived.Defers
import Derived.Test.YtmmfloplhopioaaGreatProg
import Derived.Test.YtmmfloplhopioaaGreatW1
set_option linter.unusedVariables false
set_option linter.unusedSimpArgs false
/- States given by lists; freezing; the rules of operations ready for use. -/
namespace Go.AL
def lookE : List (Nat × AV) → Nat → AV
  | [], _ => .any
  | (j, v) :: r, i => match Nat.beq i j with | true => v | false => lookE r i
def Al : List (Id × Bx) → Id → Option Bx
  | [], _ => none
  | (j, v) :: r, i => match Nat.beq i j with | true => some v | false => Al r i
def memI (l : List Nat) (i : Nat) : Bool :=
  match l with
  | [] => false
  | j :: r => match Nat.beq i j with | true => true | false => memI r i
theorem AX : ∀ (l : List Nat) (i : Nat), memI l i = true ↔ i ∈ l
 | [], i => by simp [memI]
 | j :: r, i => by
  by_cases h : i = j
  ·subst h; simp [memI]
  ·simp only [memI, Ae h, AX r i, List.mem_cons, h, false_or]
def AU (I : List Id) (env : List (Nat × AV)) (bx : List (Id × Bx)) : St := ⟨lookE env, Al bx, fun id => memI (bx.map (·.1)) id || memI I id⟩
mutual
def AV.within (ids : List Id) : AV → Bool
  | .agg cs => A2 ids cs
  | .tup cs => A2 ids cs
  | .ptr b _ => memI ids b
  | .row b => memI ids b
  | .rptr b _ => memI ids b
  | .mp b => memI ids b
  | .sub b _ _ => memI ids b
  | .fn _ caps => A2 ids caps
  | .v _ => true
  | .sl _ _ _ => true
  | .cptr _ => true
  | .any => true
def A2 (ids : List Id) : List AV → Bool
  | [] => true
  | c :: cs => c.within ids && A2 ids cs
end
def renI (σ : List (Id × Id)) (i : Id) : Id :=
  match σ with
  | [] => i
  | (a, b) :: r => match Nat.beq i a with | true => b | false => renI r i
def Bx.within (ids : List Id) : Bx → Bool
  | .cells cs _ => A2 ids cs
  | .row _ _ _ _ => true
  | .map _ _ _ _ => true
  | .iter m _ _ _ => memI ids m
inductive BLe (σ : Id → Id) : Bx → Bx → Prop
  | cells {cs cs' : List AV} {t : TypeId} (h : LeL cs (renL σ cs')) : BLe σ (.cells cs t) (.cells cs' t)
  | row {α : Type} {sz : Nat} {enc : α → List AV} {xs ys : List α} {t : TypeId} (h : xs = ys) : BLe σ (.row sz enc xs t) (.row sz enc ys t)
  | map {κ α : Type} {ek : κ → Value} {av : α → AV} {xs ys : List (κ × α × Nat)} {c c' : Nat} (h : xs = ys) (hc : c = c') : BLe σ (.map ek av xs c) (.map ek av ys c')
  | iter {m m' : Id} {a a' : Nat} {l l' : List Nat} {b b' : Nat} (hm : m = σ m') (ha : a = a') (hl : l = l') (hb : b = b') : BLe σ (.iter m a l b) (.iter m' a' l' b')
def EnvOk (σ : Id → Id) (ids : List Id) (s : St) : List (Nat × AV) → Prop
  | [] => True
  | (i, v) :: r => ((s.env i).Le (v.ren σ) ∧ v.within ids = true) ∧ EnvOk σ ids s r
def Bl (σ : Id → Id) (ids : List Id) (s : St) : List (Id × Bx) → Prop
  | [] => True
  | (b, B) :: r => ((∃ B0, s.bx (σ b) = some B0 ∧ BLe σ B0 B) ∧ B.within ids = true) ∧ Bl σ ids s r
def Ac (σ : Id → Id) : List Id → Bool
  | [] => true
  | b :: r => (r.all fun c => !Nat.beq (σ b) (σ c)) && Ac σ r
mutual
theorem Rep.within {h : Hp} {σ : Id → Id} {ids : List Id} : ∀ {β β' : Bt} (_ : ∀ id v, id ∈ ids → β (σ id) = some v → β' id = some v) (c : AV) (u : Value), c.within ids = true → Rep h β (c.ren σ) u → Rep h β' c u
 | _, _, _, .v x, u, _, k => by simpa [Rep, AV.ren] using k
 | _, _, hb, .agg cs, u, hc, k => by
  simp only [Rep, AV.ren] at k ⊢;simp only [AV.within] at hc;obtain ⟨us, rfl, k⟩ := k;exact ⟨us, rfl, RepL.within hb cs _ hc k⟩
 | _, _, hb, .tup cs, u, hc, k => by
  simp only [Rep, AV.ren] at k ⊢;simp only [AV.within] at hc;obtain ⟨us, rfl, k⟩ := k;exact ⟨us, rfl, RepL.within hb cs _ hc k⟩
 | _, _, _, .sl sz enc xs, u, _, k => by simp only [Rep, AV.ren] at k ⊢; exact k
 | _, _, _, .cptr cs, u, _, k => by simp only [Rep, AV.ren] at k ⊢; exact k
 | _, _, hb, .ptr b off, u, hc, k => by
  simp only [Rep, AV.ren] at k ⊢;simp only [AV.within, AX] at hc;obtain ⟨g, e, rfl⟩ := k;exact ⟨g, hb _ _ hc e, rfl⟩
 | _, _, hb, .row b, u, hc, k => by
  simp only [Rep, AV.ren] at k ⊢;simp only [AV.within, AX] at hc;exact ⟨hb _ _ hc k.1, k.2⟩
 | _, _, hb, .rptr b i, u, hc, k => by
  simp only [Rep, AV.ren] at k ⊢;simp only [AV.within, AX] at hc;obtain ⟨g, n, c, e, rfl⟩ := k;exact ⟨g, n, c, hb _ _ hc e, rfl⟩
 | _, _, hb, .mp b, u, hc, k => by
  simp only [Rep, AV.ren] at k ⊢;simp only [AV.within, AX] at hc;obtain ⟨g, e, rfl⟩ := k;exact ⟨g, hb _ _ hc e, rfl⟩
 | _, _, hb, .sub b off len, u, hc, k => by
  simp only [Rep, AV.ren] at k ⊢;simp only [AV.within, AX] at hc;obtain ⟨g, n, c, c', e, rfl⟩ := k;exact ⟨g, n, c, c', hb _ _ hc e, rfl⟩
 | _, _, hb, .fn f caps, u, hc, k => by
  simp only [Rep, AV.ren] at k ⊢;simp only [AV.within] at hc;obtain ⟨us, rfl, k⟩ := k;exact ⟨us, rfl, RepL.within hb caps _ hc k⟩
 | _, _, _, .any, u, _, _ => by simp only [Rep]
theorem RepL.within {h : Hp} {σ : Id → Id} {ids : List Id} : ∀ {β β' : Bt} (_ : ∀ id v, id ∈ ids → β (σ id) = some v → β' id = some v) (cs : List AV) (us : List Value), A2 ids cs = true → RepL h β (renL σ cs) us → RepL h β' cs us
 | _, _, _, [], us, _, k => by simpa [RepL, renL] using k
 | _, _, hb, c :: cs, us, hc, k => by
  simp only [RepL, renL] at k ⊢;simp only [A2, Bool.and_eq_true] at hc;obtain ⟨u, r, rfl, k1, k2⟩ := k;exact ⟨u, r, rfl, Rep.within hb c u hc.1 k1, RepL.within hb cs r hc.2 k2⟩
end
theorem Ar {σ : Id → Id} {ids : List Id} {s : St} : ∀ (bx : List (Id × Bx)), Bl σ ids s bx → ∀ b B, Al bx b = some B → (∃ B0, s.bx (σ b) = some B0 ∧ BLe σ B0 B) ∧ B.within ids = true ∧ b ∈ bx.map (·.1)
 | [], _, b, B, h => by simp [Al] at h
 | (j, v) :: r, ho, b, B, h => by
  simp only [Bl] at ho;by_cases hb : b = j
  ·subst hb;simp only [Al, Nat.beq_refl, Option.some.injEq] at h;subst h;exact ⟨ho.1.1, ho.1.2, by simp⟩
  ·simp only [Al, Ae hb] at h;obtain ⟨h1, h2, h3⟩ := Ar r ho.2 b B h;exact ⟨h1, h2, by simp at h3 ⊢; exact .inr h3⟩
theorem lookE_ok {σ : Id → Id} {ids : List Id} {s : St} : ∀ (env : List (Nat × AV)), EnvOk σ ids s env → ∀ i, lookE env i = .any ∨ ((s.env i).Le ((lookE env i).ren σ) ∧ (lookE env i).within ids = true)
 | [], _, i => .inl rfl
 | (j, v) :: r, ho, i => by
  simp only [EnvOk] at ho;by_cases hb : i = j
  ·subst hb;simp only [lookE, Nat.beq_refl];exact .inr ho.1
  ·simp only [lookE, Ae hb];exact lookE_ok r ho.2 i
theorem Cs {σ : Id → Id} : ∀ (l : List Id), Ac σ l = true → ∀ x y, x ∈ l → y ∈ l → x ≠ y → σ x ≠ σ y
 | [], _, x, _, hx, _, _ => by cases hx
 | b :: r, hd, x, y, hx, hy, hne => by
  simp only [Ac, Bool.and_eq_true, List.all_eq_true, Bool.not_eq_true'] at hd
  have nb : ∀ z ∈ r, σ b ≠ σ z := fun z hz e => by have := hd.1 z hz; rw [e] at this; simp at this
  rcases List.mem_cons.1 hx with e1 | hx2
  ·rcases List.mem_cons.1 hy with e2 | hy2
   ·exact (hne (e1.trans e2.symm)).elim
   ·rw [e1]; exact nb y hy2
  ·rcases List.mem_cons.1 hy with e2 | hy2
   ·rw [e2]; exact fun e => nb x hx2 e.symm
   ·exact Cs r hd.2 x y hx2 hy2 hne
theorem Ent.of {n : Nat} {I : List Id} {s : St} (σ : List (Id × Id)) {env : List (Nat × AV)} {bx : List (Id × Bx)} (he : EnvOk (renI σ) (bx.map (·.1) ++ I) s env) (hb : Bl (renI σ) (bx.map (·.1) ++ I) s bx) (hd : Ac (renI σ) (bx.map (·.1)) = true)
  (hI : (I.all fun id => Nat.beq (renI σ id) id) = true) : Ent n I s (AU I env bx) := by
 intro C a w h β hi k
 let β' : Bt := fun id => match (memI (bx.map (·.1)) id || memI I id) with | true => β (renI σ id) | false => none
 have hβ : ∀ id v, id ∈ bx.map (·.1) ++ I → β (renI σ id) = some v → β' id = some v := by
  intro id v hm hv
  have : (memI (bx.map (·.1)) id || memI I id) = true := by
   rw [Bool.or_eq_true, AX, AX]; exact List.mem_append.1 hm
  show (match (memI (bx.map (·.1)) id || memI I id) with | true => β (renI σ id) | false => none) = some v;rw [this]; exact hv
 have hβ2 : ∀ id v, β' id = some v → β (renI σ id) = some v := by
  intro id v hv;show β (renI σ id) = some v;simp only [β'] at hv;split at hv
  ·exact hv
  ·cases hv
 refine ⟨h, β', k.evo, fun id v hv => ?_, fun i => ?_, fun b B hB => ?_, fun x y B1 B2 h1 h2 hne g e1 e2 => ?_, fun x B1 g hx hg => ?_, fun id hid => ?_, k.size, k.defers⟩
 ·have hm := hi id (by simp [hv])
  have : renI σ id = id := by
   rw [List.all_eq_true] at hI;exact Nat.eq_of_beq_eq_true (hI id hm)
  exact hβ id v (by simp [hm]) (by rw [this]; exact k.b0 _ _ hv)
 ·rcases lookE_ok env he i with hx | ⟨h1, h2⟩
  ·show Rep h β' (lookE env i) _;rw [hx]; simp only [Rep]
  ·exact Rep.within hβ _ _ h2 (h1 _ _ _ (k.slot i))
 ·obtain ⟨⟨B0, h1, h2⟩, h3, h4⟩ := Ar bx hb b B hB;have hbox := k.box _ _ h1
  cases h2 with
  | @cells cs cs' t hle =>
   obtain ⟨g, us, e, hh, hr, hn⟩ := hbox;exact ⟨g, us, hβ b _ (by simp only [List.mem_append]; exact .inl h4) e, hh, RepL.within hβ cs' _ h3 (hle _ _ _ hr), hn⟩
  | @row α sz enc xs ys t hxs =>
   subst hxs;obtain ⟨v, vals, e, r⟩ := hbox;exact ⟨v, vals, hβ b _ (by simp only [List.mem_append]; exact .inl h4) e, r⟩
  | @map κ α ek av xs ys c c' hxs hc =>
   subst hxs hc;obtain ⟨g, es, e, r⟩ := hbox;exact ⟨g, es, hβ b _ (by simp only [List.mem_append]; exact .inl h4) e, r⟩
  | @iter m m' a a' l l' c c' hm ha hl hb' =>
   subst hm ha hl hb';obtain ⟨r, g, e, em, hr⟩ := hbox;simp only [Bx.within, AX] at h3;exact ⟨r, g, hβ b _ (by simp only [List.mem_append]; exact .inl h4) e, hβ m' _ h3 em, hr⟩
 ·obtain ⟨⟨B3, h3, _⟩, _, m1⟩ := Ar bx hb x B1 h1;obtain ⟨⟨B4, h4, _⟩, _, m2⟩ := Ar bx hb y B2 h2
  have hb1 : ∀ id g, blk (β' id) = some g → blk (β (renI σ id)) = some g := by
   intro id g hg
   cases hq : β' id with
   | none => rw [hq] at hg; simp [blk] at hg
   | some v => rw [hβ2 id v hq, ← hq]; exact hg
  exact k.apart _ _ B3 B4 h3 h4 (Cs _ hd x y m1 m2 hne) g (hb1 x g e1) (hb1 y g e2)
 ·obtain ⟨⟨B3, h3, _⟩, _, m1⟩ := Ar bx hb x B1 hx;refine k.own _ B3 g h3 ?_
  cases hq : β' x with
  | none => rw [hq] at hg; simp [blk] at hg
  | some v => rw [hβ2 x v hq, ← hq]; exact hg
 ·show (match (memI (bx.map (·.1)) id || memI I id) with | true => β (renI σ id) | false => none) = none;have : (memI (bx.map (·.1)) id || memI I id) = false := hid;rw [this]
/-! ### Freezing -/
mutual
def AV.fz (b : Id) (v : AV) : AV → AV
  | .agg cs => .agg (fzL b v cs)
  | .tup cs => .tup (fzL b v cs)
  | .row c => match Nat.beq c b with | true => v | false => .row c
  | .rptr c i => match Nat.beq c b with | true => .any | false => .rptr c i
  | .fn f caps => .fn f (fzL b v caps)
  | .v x => .v x
  | .sl sz enc xs => .sl sz enc xs
  | .cptr cs => .cptr cs
  | .ptr c o => .ptr c o
  | .mp c => .mp c
  | .sub c off len => match Nat.beq c b with | true => .any | false => .sub c off len
  | .any => .any
def fzL (b : Id) (v : AV) : List AV → List AV
  | [] => []
  | c :: cs => AV.fz b v c :: fzL b v cs
end
mutual
theorem Rep.fz {h h' : Hp} {β : Bt} {b : Id} {v : AV} (hl : h.le h') (hv : ∀ u, β b = some u → (∃ A n c, u = .slice A n c) → Rep h' β v u) : ∀ (c : AV) (u : Value), Rep h β c u → Rep h' β (AV.fz b v c) u
 | .v x, u, k => by simpa [Rep, AV.fz] using k
 | .agg cs, u, k => by
  simp only [Rep, AV.fz] at k ⊢;obtain ⟨us, rfl, k⟩ := k;exact ⟨us, rfl, RepL.fz hl hv cs _ k⟩
 | .tup cs, u, k => by
  simp only [Rep, AV.fz] at k ⊢;obtain ⟨us, rfl, k⟩ := k;exact ⟨us, rfl, RepL.fz hl hv cs _ k⟩
 | .sl sz enc xs, u, k => by simp only [AV.fz]; exact Rep.mono hl (AQ β) _ _ k
 | .cptr cs, u, k => by simp only [AV.fz]; exact Rep.mono hl (AQ β) _ _ k
 | .ptr c o, u, k => by simp only [AV.fz]; exact Rep.mono hl (AQ β) _ _ k
 | .mp c, u, k => by simp only [AV.fz]; exact Rep.mono hl (AQ β) _ _ k
 | .sub c off len, u, k => by
  simp only [AV.fz];by_cases hc : c = b
  ·subst hc;simp only [Nat.beq_refl, Rep]
  ·simp only [Ae hc];exact Rep.mono hl (AQ β) _ _ k
 | .row c, u, k => by
  simp only [AV.fz];by_cases hc : c = b
  ·subst hc;simp only [Nat.beq_refl];simp only [Rep] at k;exact hv u k.1 k.2
  ·simp only [Ae hc];exact Rep.mono hl (AQ β) _ _ k
 | .rptr c i, u, k => by
  simp only [AV.fz];by_cases hc : c = b
  ·subst hc;simp only [Nat.beq_refl, Rep]
  ·simp only [Ae hc];exact Rep.mono hl (AQ β) _ _ k
 | .fn f caps, u, k => by
  simp only [Rep, AV.fz] at k ⊢;obtain ⟨us, rfl, k⟩ := k;exact ⟨us, rfl, RepL.fz hl hv caps _ k⟩
 | .any, u, k => by simp only [AV.fz, Rep]
theorem RepL.fz {h h' : Hp} {β : Bt} {b : Id} {v : AV} (hl : h.le h') (hv : ∀ u, β b = some u → (∃ A n c, u = .slice A n c) → Rep h' β v u) : ∀ (cs : List AV) (us : List Value), RepL h β cs us → RepL h' β (fzL b v cs) us
 | [], us, k => by simpa [RepL, fzL] using k
 | c :: cs, us, k => by
  simp only [RepL, fzL] at k ⊢;obtain ⟨u, r, rfl, k1, k2⟩ := k;exact ⟨u, r, rfl, Rep.fz hl hv c u k1, RepL.fz hl hv cs r k2⟩
end
def Bx.fz (b : Id) (v : AV) : Bx → Bx
  | .cells cs t => .cells (fzL b v cs) t
  | .row sz enc xs t => .row sz enc xs t
  | .map ek av xs c => .map ek av xs c
  | .iter m a l c => .iter m a l c
def fzB (b : Id) (v : AV) (bx : Id → Option Bx) : Id → Option Bx := fun id =>
  match Nat.beq id b with
  | true => none
  | false => match bx id with
    | some B => some (B.fz b v)
    | none => none
def St.fz (s : St) (b : Id) (v : AV) : St := ⟨fun i => AV.fz b v (s.env i), fzB b v s.bx, s.al⟩
theorem Ent.freeze {n : Nat} {I : List Id} {s : St} (b : Id) {α : Type} {sz : Nat} {enc : α → List AV} {xs : List α} {t : TypeId} (hb : s.bx b = some (.row sz enc xs t)) : Ent n I s (s.fz b (.sl sz enc xs)) := by
 intro C a w h β hi k;obtain ⟨v, vals, e1, ho, hr, hlen, hnone⟩ := k.box b _ hb
 have hbx : ∀ x Bx', (s.fz b (.sl sz enc xs)).bx x = some Bx' → x ≠ b ∧ ∃ B0, s.bx x = some B0 ∧ Bx' = B0.fz b (.sl sz enc xs) := by
  intro x Bx' hx;simp only [St.fz, fzB] at hx;by_cases he : x = b
  ·subst he; simp at hx
  ·simp only [Ae he] at hx;split at hx
   ·rename_i B0 hB0; injection hx with hx; exact ⟨he, B0, hB0, hx.symm⟩
   ·cases hx
 -- the fixed memory, grown by the row's block
 have hgrow : ∃ h', Evo DU w h w h' ∨ True := ⟨h, .inr trivial⟩
 have key : ∃ h', h.le h' ∧ Has w h' ∧ (∀ g, h' g ≠ none → h g ≠ none ∨ v.ownBlock = some g) ∧ Rep h' noB (.sl sz enc xs) v := by
  rcases ho.2 with ⟨hv, hn⟩ | ⟨g, cap, cur, hv, _, hg, hnc, hmx, hcs, htake⟩
  ·have hx : xs = [] := List.eq_nil_of_length_eq_zero hn;subst hx;refine ⟨h, AZ h, k.evo.has, fun g hg => .inl hg, ?_⟩;rw [hv];exact AV.Le.nil sz enc h noB _ (by simp only [Rep])
  ·have hgn : h g = none := hnone g (by simp [hv, Value.ownBlock])
   have hle : h.le (h.set g cur) := fun b cs hb' => by
    by_cases he : b = g
    ·subst he; rw [hgn] at hb'; cases hb'
    ·rw [Hp.set_ne _ _ _ _ he]; exact hb'
   refine ⟨h.set g cur, hle, fun b cs hb' => ?_, fun b hb' => ?_, ?_⟩
   ·by_cases he : b = g
    ·subst he; rw [Hp.set_same] at hb'; injection hb' with hb'; subst hb'; exact ⟨t, (0, 0), hg⟩
    ·rw [Hp.set_ne _ _ _ _ he] at hb'; exact k.evo.has b cs hb'
   ·by_cases he : b = g
    ·subst he; exact .inr (by simp [hv, Value.ownBlock])
    ·rw [Hp.set_ne _ _ _ _ he] at hb'; exact .inl hb'
   ·subst hv;simp only [Rep];refine ⟨some ⟨g, 0, none⟩, cap, rfl, hnc, hmx, fun i x hx => ?_⟩;obtain ⟨hr1, hr2⟩ := flat_at xs vals i x hlen (hr.mono hle (AQ _)) hx;refine ⟨⟨g, 0, none⟩, _, rfl, by rw [hr1.length]; exact hlen x (List.mem_of_getElem? hx), hr1, fun j u hu => ?_⟩
    have hadd : (⟨g, 0, none⟩ : Addr).add (i * sz + j) = ⟨g, i * sz + j, none⟩ := by unfold Addr.add; split <;> simp_all
    rw [hadd];refine ⟨rfl, cur, Hp.set_same _ _ _, ?_⟩;rw [List.getElem?_take] at hu;split at hu
    ·rw [List.getElem?_drop, ← htake, List.getElem?_take] at hu;split at hu
     ·simpa using hu
     ·cases hu
    ·cases hu
 obtain ⟨h', hle, hhas, hfr, hrep⟩ := key
 have hvb : ∀ u, β b = some u → (∃ A n c, u = .slice A n c) → Rep h' β (.sl sz enc xs) u := by
  intro u hu _;rw [e1] at hu; injection hu with hu; subst hu;exact hrep.mono (AZ _) (ES β)
 have hown : ∀ g, v.ownBlock = some g → blk (β b) = some g := fun g hg => by rw [e1]; exact (Ed ho g).2 hg
 refine ⟨h', β, ⟨k.evo.os, k.evo.tape, k.evo.output, k.evo.size, k.evo.block, k.evo.le.trans hle, fun g hg => ?_, hhas⟩, k.b0, fun i => Rep.fz hle hvb _ _ (k.slot i), fun x Bx' hx => ?_, fun x y B1 B2 h1 h2 hne => ?_, fun x B1 g hx hg => ?_, k.dom, k.size, k.defers⟩
 ·rcases hfr g hg with h1 | h1
  ·exact k.evo.fresh g h1
  ·rcases k.own b _ g hb (hown g h1) with h2 | h2
   ·exact .inr (.inr h2)
   ·exact .inr (.inl h2)
 ·obtain ⟨hne, B0, h1, rfl⟩ := hbx x Bx' hx
  have hn' : ∀ g, blk (β x) = some g → h' g = none := by
   intro g hg
   cases hh : h' g with
   | none => rfl
   | some cs =>
    rcases hfr g (by simp [hh]) with h2 | h2
    ·exact absurd (k.blk_lt h1 hg).2 h2
    ·exact absurd (hown g h2) (k.apart x b B0 _ h1 hb hne g hg)
  have hkeep := (k.box x B0 h1).keep (w' := w) hle (AQ β) fun g hg => ⟨rfl, hn' g hg⟩
  cases B0 with
  | cells cs t' =>
   obtain ⟨g, us, e, hh, hr', hn⟩ := k.box x _ h1;exact ⟨g, us, e, hh, RepL.fz hle hvb _ _ hr', hn' g (by simp [e, blk])⟩
  | row sz' enc' xs' t' => exact hkeep
  | map _ _ _ _ => exact hkeep
  | iter _ _ _ _ => exact hkeep
 ·obtain ⟨_, B3, h3, _⟩ := hbx x B1 h1;obtain ⟨_, B4, h4, _⟩ := hbx y B2 h2;exact k.apart x y B3 B4 h3 h4 hne
 ·obtain ⟨_, B3, h3, _⟩ := hbx x B1 hx;exact k.own x B3 g h3 hg
theorem Dh {n : Nat} {I : List Id} {s : St} (d : Tmp) (b : Id) (hs : s.env d = .v (.slice none 0 0)) (hal : s.al b = false) {α : Type} (sz : Nat) (enc : α → List AV) (t : TypeId) :
  Ent n I s ((Eff.mk (.row b) [(b, .row sz enc ([] : List α) t)] [] [b] []).app (some d) s) := by
 intro C a w h β hi k
 have hu : a.tmps.getD d undef = .slice none 0 0 := by
  have := k.slot d;rw [hs] at this;simpa only [Rep] using this
 have hd : d < n := by
  rcases Nat.lt_or_ge d n with h | h
  ·exact h
  ·have : a.tmps.getD d undef = undef := by simp [Array.getD_eq_getD_getElem?, Array.getElem?_eq_none (show a.tmps.size ≤ d by rw [k.size]; exact h)]
   rw [this] at hu; simp [undef] at hu
 have hB : BoxAt w h (β.set b (.slice none 0 0)) b (.row sz enc ([] : List α) t) :=
  ⟨_, [], Bt.set_same _ _ _, World.ownsRow_nil w 0 t sz, RepL.nil, (fun x hx => by cases hx), (fun g hg => by simp [Value.ownBlock] at hg)⟩
 have k1 := k.addbox hal (bv := .slice none 0 0) hB (fun g hg => by simp [blk] at hg) (some d) (fun t ht => by injection ht with ht; subst ht; exact hd) (v := .row b) (u := .slice none 0 0) (by simp only [Rep]; exact ⟨Bt.set_same _ _ _, _, _, _, rfl⟩) []
 have ha : a.put (some d) (.slice none 0 0) = a := by
  have hlt : d < a.tmps.size := by rw [k.size]; exact hd
  cases a with
  | mk tm df =>
   simp only [Act.put];congr 1;apply Array.ext_getElem?;intro i;by_cases hi : i = d
   ·subst hi;simp only at hlt hu;rw [Array.getElem?_setIfInBounds_self_of_lt hlt];simp [Array.getD_eq_getD_getElem?, Array.getElem?_eq_getElem hlt] at hu;rw [Array.getElem?_eq_getElem hlt, hu]
   ·rw [Array.getElem?_setIfInBounds_ne (Ne.symm hi)]
 rw [ha] at k1;exact ⟨h, _, k1⟩
end Go.AL
/- Numbers and their words: plain. -/
namespace Go.AL
def WOk (l : List Int) : Prop := ∀ x ∈ l, 0 ≤ x ∧ x < 4294967296
theorem WOk.nil : WOk [] := fun x hx => by cases hx
theorem WOk.cons {x : Int} {l : List Int} (h0 : 0 ≤ x) (h1 : x < 4294967296) (h : WOk l) : WOk (x :: l) := fun y hy => by
 rcases List.mem_cons.1 hy with rfl | hy
 ·exact ⟨h0, h1⟩
 ·exact h y hy
theorem WOk.tail {x : Int} {l : List Int} (h : WOk (x :: l)) : WOk l := fun y hy => h y (by simp [hy])
theorem WOk.head {x : Int} {l : List Int} (h : WOk (x :: l)) : 0 ≤ x ∧ x < 4294967296 := h x (by simp)
theorem WOk.append {l m : List Int} (h : WOk l) (k : WOk m) : WOk (l ++ m) := fun y hy => by
 rcases List.mem_append.1 hy with hy | hy
 ·exact h y hy
 ·exact k y hy
theorem WOk.take {l : List Int} (h : WOk l) (n : Nat) : WOk (l.take n) := fun y hy => h y (List.mem_of_mem_take hy)
theorem WOk.drop {l : List Int} (h : WOk l) (n : Nat) : WOk (l.drop n) := fun y hy => h y (List.mem_of_mem_drop hy)
theorem WOk.get {l : List Int} (h : WOk l) {i : Nat} {x : Int} (hx : l[i]? = some x) : 0 ≤ x ∧ x < 4294967296 := h x (List.mem_of_getElem? hx)
theorem WOk.zeros (n : Nat) : WOk (List.replicate n 0) := fun y hy => by rw [List.eq_of_mem_replicate hy]; omega
theorem WOk.set {l : List Int} (h : WOk l) (i : Nat) {x : Int} (h0 : 0 ≤ x) (h1 : x < 4294967296) : WOk (l.set i x) := fun y hy => by
 rcases List.mem_or_eq_of_mem_set hy with hy | rfl
 ·exact h y hy
 ·exact ⟨h0, h1⟩
def val : List Int → Int
  | [] => 0
  | x :: l => x + 4294967296 * val l
def BB (n : Nat) : Int := 4294967296 ^ n
theorem DB : BB 0 = 1 := rfl
theorem BC (n : Nat) : BB (n + 1) = 4294967296 * BB n := by unfold BB; rw [Int.pow_succ]; omega
theorem Bc (n : Nat) : 0 < BB n := by unfold BB; exact Int.pow_pos (by omega)
theorem BB_add (m n : Nat) : BB (m + n) = BB m * BB n := by unfold BB; rw [Int.pow_add]
theorem BB_le {m n : Nat} (h : m ≤ n) : BB m ≤ BB n := by
 obtain ⟨k, rfl⟩ := Nat.exists_eq_add_of_le h;rw [BB_add];have h1 := Bc m;have h2 := Bc k;have : BB m * 1 ≤ BB m * BB k := Int.mul_le_mul_of_nonneg_left (by omega) (by omega);omega
theorem As : ∀ {l : List Int}, WOk l → 0 ≤ val l
 | [], _ => by simp [val]
 | x :: l, h => by have := As h.tail; have := h.head; simp only [val]; omega
theorem Cd : ∀ (l m : List Int), val (l ++ m) = val l + BB l.length * val m
 | [], m => by simp [val, BB]
 | x :: l, m => by
  simp only [List.cons_append, val, Cd l m, List.length_cons, BC];grind
theorem Bq (l : List Int) (x : Int) : val (l ++ [x]) = val l + BB l.length * x := by rw [Cd]; simp [val]
theorem DJ : ∀ {l : List Int}, WOk l → val l < BB l.length
 | [], _ => by simp [val, BB]
 | x :: l, h => by
  have h1 := DJ h.tail;have h2 := h.head;simp only [val, List.length_cons, BC];omega
theorem val_zeros : ∀ n : Nat, val (List.replicate n 0) = 0
 | 0 => rfl
 | n + 1 => by rw [List.replicate_succ]; simp only [val, val_zeros n]; omega
def Az : List Int → List Int
  | [] => []
  | x :: xs => match Az xs with
    | [] => if x = 0 then [] else [x]
    | y :: ys => x :: y :: ys
theorem Di : ∀ xs : List Int, Az (xs ++ [0]) = Az xs
 | [] => by simp [Az]
 | x :: xs => by simp only [List.cons_append, Az, Di xs]
theorem trimL_snoc {y : Int} (hy : y ≠ 0) : ∀ xs : List Int, Az (xs ++ [y]) = xs ++ [y]
 | [] => by simp [Az, hy]
 | x :: xs => by
  simp only [List.cons_append, Az, trimL_snoc hy xs]
  cases xs <;> simp
theorem C7 : ∀ xs : List Int, (Az xs).length ≤ xs.length
 | [] => by simp [Az]
 | x :: xs => by
  have := C7 xs;simp only [Az]
  cases h : Az xs with
  | nil => simp only; split <;> simp
  | cons y ys => rw [h] at this; simp at this ⊢; omega
theorem val_trimL : ∀ xs : List Int, val (Az xs) = val xs
 | [] => rfl
 | x :: xs => by
  have := val_trimL xs;simp only [Az]
  cases h : Az xs with
  | nil =>
   rw [h] at this;simp only [val] at this ⊢;split <;> simp only [val] <;> omega
  | cons y ys => rw [h] at this; simp only [val] at this ⊢; omega
theorem WOk.trimL : ∀ {xs : List Int}, WOk xs → WOk (Az xs)
  | [], h => h
  | x :: xs, h => by
    have := WOk.trimL h.tail;simp only [AL.Az]
    cases h' : AL.Az xs with
    | nil => simp only; split
             · exact WOk.nil
             · exact WOk.cons h.head.1 h.head.2 WOk.nil
    | cons y ys => rw [h'] at this; exact WOk.cons h.head.1 h.head.2 this
def toWN (n : Nat) : List Int := if n = 0 then [] else ((n % 4294967296 : Nat) : Int) :: toWN (n / 4294967296)
termination_by n
decreasing_by omega
def toW (z : Int) : List Int := toWN z.toNat
theorem toWN_zero : toWN 0 = [] := by unfold toWN; simp
theorem toWN_pos {n : Nat} (h : n ≠ 0) : toWN n = ((n % 4294967296 : Nat) : Int) :: toWN (n / 4294967296) := by rw [toWN]; simp [h]
theorem toW_zero : toW 0 = [] := toWN_zero
theorem toW_cons {x z : Int} (hx0 : 0 ≤ x) (hx1 : x < 4294967296) (hz : 0 ≤ z) (hne : x ≠ 0 ∨ z ≠ 0) : toW (x + 4294967296 * z) = x :: toW z := by
 unfold toW
 have hn : (x + 4294967296 * z).toNat ≠ 0 := by omega
 rw [toWN_pos hn];congr 1
 ·omega
 ·congr 1; omega
theorem CA : ∀ {l : List Int}, WOk l → Az l = toW (val l)
 | [], _ => by simp [Az, val, toW_zero]
 | x :: l, h => by
  have ih := CA h.tail;have hv := As h.tail;have hh := h.head;have hval : val (Az l) = val l := val_trimL l;simp only [Az, val]
  cases ht : Az l with
  | nil =>
   rw [ht] at hval;simp only [val] at hval;rw [← hval];simp only;split
   ·rename_i hx; subst hx; exact toW_zero.symm
   ·rename_i hx;rw [toW_cons hh.1 hh.2 (by omega) (.inl hx), toW_zero]
  | cons y ys =>
   simp only
   have hne : val l ≠ 0 := by
    intro h0;rw [h0, toW_zero] at ih;rw [ih] at ht; cases ht
   rw [toW_cons hh.1 hh.2 hv (.inr hne), ← ih, ht]
theorem toWN_props : ∀ n : Nat, WOk (toWN n) ∧ val (toWN n) = (n : Int) := by
 intro n
 induction n using Nat.strongRecOn with
 | _ n ih =>
  by_cases h : n = 0
  ·subst h; rw [toWN_zero]; exact ⟨WOk.nil, rfl⟩
  ·rw [toWN_pos h];obtain ⟨h1, h2⟩ := ih (n / 4294967296) (by omega);refine ⟨WOk.cons (by omega) (by omega) h1, ?_⟩;simp only [val, h2];omega
theorem Ak (z : Int) : WOk (toW z) := (toWN_props _).1
theorem Ah {z : Int} (h : 0 ≤ z) : val (toW z) = z := by unfold toW; rw [(toWN_props _).2]; omega
theorem trim_toW (z : Int) : Az (toW z) = toW z := by
 rw [CA (Ak z)];by_cases h : 0 ≤ z
 ·rw [Ah h]
 ·have : toW z = [] := by unfold toW; rw [show z.toNat = 0 by omega, toWN_zero]
  rw [this]; exact toW_zero
def NW (l : List Int) : Prop := WOk l ∧ Az l = l
theorem NW.toW (z : Int) : NW (toW z) := ⟨Ak z, trim_toW z⟩
theorem toW_inj {x y : Int} (hx : 0 ≤ x) (hy : 0 ≤ y) (h : toW x = toW y) : x = y := by rw [← Ah hx, ← Ah hy, h]
theorem NW.last {l : List Int} {x : Int} (h : NW (l ++ [x])) : x ≠ 0 := by
 intro h0;subst h0;have := h.2;rw [Di] at this;have hl := C7 l;rw [this] at hl;simp at hl;omega
theorem toW_ne_nil {z : Int} (h : 0 < z) : toW z ≠ [] := by
 intro h0;have := Ah (show 0 ≤ z by omega);rw [h0] at this;simp [val] at this;omega
theorem A8 {z : Int} (h : 0 ≤ z) : toW z = [] ↔ z = 0 := by
 constructor
 ·intro h0;have := Ah h;rw [h0] at this;simpa [val] using this.symm
 ·rintro rfl; exact toW_zero
theorem BE {z : Int} (h : 0 ≤ z) (n : Nat) : (toW z).length ≤ n ↔ z < BB n := by
 constructor
 ·intro hl;have h1 := DJ (Ak z);rw [Ah h] at h1;have := BB_le hl;omega
 ·intro hl;rcases Nat.lt_or_ge n (toW z).length with hgt | hle
  ·exfalso
   -- the last word is not 0
   have hne : toW z ≠ [] := by intro h0; rw [h0] at hgt; simp at hgt
   obtain ⟨l, x, he⟩ : ∃ l x, toW z = l ++ [x] := ⟨_, _, (List.dropLast_concat_getLast hne).symm⟩;have hnw := NW.toW z;rw [he] at hnw hgt;have hx := hnw.last;have hx1 := hnw.1 x (by simp);have hv := Ah h;rw [he, Bq] at hv;have hl0 := As (l := l) (fun y hy => hnw.1 y (by simp [hy]));have : BB n ≤ BB l.length := BB_le (by simp at hgt; omega);have : BB l.length * 1 ≤ BB l.length * x := Int.mul_le_mul_of_nonneg_left (by omega) (by have := Bc l.length; omega);omega
  ·exact hle
theorem set_at {α : Type} (os rest : List α) (x y : α) : (os ++ x :: rest).set os.length y = (os ++ [y]) ++ rest := by
 induction os with
 | nil => rfl
 | cons z os ih => simp only [List.cons_append, List.length_cons, List.set_cons_succ, ih]
theorem Ad {α : Type} {l : List α} {i : Nat} {x : α} (hx : l[i]? = some x) : l.take (i + 1) = l.take i ++ [x] := by
 rw [List.take_add_one, hx]; rfl
theorem val_nil : val [] = 0 := rfl
theorem BB_2 : BB 2 = 18446744073709551616 := rfl
attribute [irreducible] BB toW val Az
end Go.AL
/- The rules of operations, ready for use. The first premise tells the kind of the operation. -/
namespace Go.AL
section
variable {P : Program} {tab : Tab} {n : Nat} {s : St} {ops : Array Oper} {draw : Dr} {o : Oper} {l : List Oper} {acc : List Eff} {K : Exit → St → Prop}
theorem ltOf {d n : Nat} (h : Nat.blt d n = true) : d < n := Nat.le_of_ble_eq_true h
theorem ET {d : Id} {al : Id → Bool} (h : al d = false) : Dn [d] al = true := by simp [Dn, h]
theorem Fl.bx {t : TypeId} {x : Operand} (hop : o.op = .box t x) (hg : gOk ops s o = true) {d : Tmp} (hdst : o.dst = some d) (hd : Nat.blt d n = true) {cs : List AV} (hc : Dc (opd s x) = some cs) (hn : s.al d = false)
  (r : Fl P n ops draw l ((Eff.mk (.ptr d 0) [(d, .cells cs t)] [] [d] []).app o.dst s) (Eff.mk (.ptr d 0) [(d, .cells cs t)] [] [d] [] :: acc) K) (hJ : A4 draw.J (Eff.mk (.ptr d 0) [(d, .cells cs t)] [] [d] []) := by repeat' (first | exact True.intro | exact rfl | refine ⟨?_, ?_⟩ | fail)) : Fl P n ops draw (o :: l) s acc K :=
 Fl.op hg (OpJ.box hdst (ltOf hd) hop hc) (ET hn) hJ r
theorem Fl.al [f : Facts P tab] {t : TypeId} (hop : o.op = .alloc t) (hg : gOk ops s o = true) {d : Tmp} (hdst : o.dst = some d) (hd : Nat.blt d n = true) {i : TI} (hti : tab t = some i) (hn : s.al d = false)
  (r : Fl P n ops draw l ((Eff.mk (.ptr d 0) [(d, .cells (vL i.zero) t)] [] [d] []).app o.dst s) (Eff.mk (.ptr d 0) [(d, .cells (vL i.zero) t)] [] [d] [] :: acc) K) (hJ : A4 draw.J (Eff.mk (.ptr d 0) [(d, .cells (vL i.zero) t)] [] [d] []) := by repeat' (first | exact True.intro | exact rfl | refine ⟨?_, ?_⟩ | fail)) : Fl P n ops draw (o :: l) s acc K :=
 Fl.op hg (OpJ.alloc f.tabOk hdst (ltOf hd) hop hti) (ET hn) hJ r
theorem Fl.st [f : Facts P tab] {t : TypeId} {x y : Operand} (hop : o.op = .store t x y) {b : Id} {off : Nat} (hx : opd s x = .ptr b off) (hg : gOk ops s o = true) (hdst : o.dst = none) {i : TI} (hti : tab t = some i)
  {cs vs : List AV} {bt : TypeId} (hb : s.bx b = some (.cells cs bt)) (hv : Dc (opd s y) = some vs) (hsz : Nat.beq vs.length i.size = true) (hoff : Nat.ble (off + vs.length) cs.length = true)
  (r : Fl P n ops draw l ((Eff.mk .any [(b, .cells (setL off vs cs) bt)] [] [] [b]).app o.dst s) (Eff.mk .any [(b, .cells (setL off vs cs) bt)] [] [] [b] :: acc) K) (hJ : A4 draw.J (Eff.mk .any [(b, .cells (setL off vs cs) bt)] [] [] [b]) := by repeat' (first | exact True.intro | exact rfl | refine ⟨?_, ?_⟩ | fail)) : Fl P n ops draw (o :: l) s acc K :=
 Fl.op hg (OpJ.store f.tabOk hdst hop hx hti hb hv (Nat.eq_of_beq_eq_true hsz) hoff) rfl hJ r
theorem Fl.sum [Facts P tab] {op : BinOp} {t t' : TypeId} {x y : Operand} (hop : o.op = .binOp op t x y t') {m m' c : Int} (hx : opd s x = .v (.int .i64 m)) (hy : opd s y = .v (.int .i64 m')) (hc : arithI op m m' = some c) (hg : gOk ops s o = true) (hd : dOk n o.dst = true)
  (h1 : -9223372036854775808 ≤ c) (h2 : c ≤ 9223372036854775807)
  (r : Fl P n ops draw l ((Eff.mk (.v (.int .i64 c)) [] [] [] []).app o.dst s) (Eff.mk (.v (.int .i64 c)) [] [] [] [] :: acc) K) : Fl P n ops draw (o :: l) s acc K :=
 Ab hg (Cm (AY hd) hop hx hy rfl hc h1 h2) r
theorem Fl.quo [Facts P tab] {t t' : TypeId} {x y : Operand} (hop : o.op = .binOp .quo t x y t') {k k' : IntKind} {m m' : Int} (hx : opd s x = .v (.int k m)) (hy : opd s y = .v (.int k' m')) (hg : gOk ops s o = true) (hd : dOk n o.dst = true) (hk : DX k k' = true)
  (h0 : 0 ≤ m) (h1 : 0 < m') (h2 : m ≤ hiK k)
  (r : Fl P n ops draw l ((Eff.mk (.v (.int k (m / m'))) [] [] [] []).app o.dst s) (Eff.mk (.v (.int k (m / m'))) [] [] [] [] :: acc) K) : Fl P n ops draw (o :: l) s acc K :=
 Ab hg (OpJ.quo (AY hd) hop hx hy hk h0 h1 h2) r
theorem Fl.rem [Facts P tab] {t t' : TypeId} {x y : Operand} (hop : o.op = .binOp .rem t x y t') {k k' : IntKind} {m m' : Int} (hx : opd s x = .v (.int k m)) (hy : opd s y = .v (.int k' m')) (hg : gOk ops s o = true) (hd : dOk n o.dst = true) (hk : DX k k' = true)
  (h0 : 0 ≤ m) (h1 : 0 < m')
  (r : Fl P n ops draw l ((Eff.mk (.v (.int k (m % m'))) [] [] [] []).app o.dst s) (Eff.mk (.v (.int k (m % m'))) [] [] [] [] :: acc) K) : Fl P n ops draw (o :: l) s acc K :=
 Ab hg (OpJ.rem (AY hd) hop hx hy hk h0 h1) r
theorem Fl.shr [Facts P tab] {t t' : TypeId} {x y : Operand} (hop : o.op = .binOp .shr t x y t') {k k' : IntKind} {m m' : Int} (hx : opd s x = .v (.int k m)) (hy : opd s y = .v (.int k' m')) (hg : gOk ops s o = true) (hd : dOk n o.dst = true)
  (h1 : 0 ≤ m') (h2 : m' ≤ k.bits)
  (r : Fl P n ops draw l ((Eff.mk (.v (.int k (m / 2 ^ m'.toNat))) [] [] [] []).app o.dst s) (Eff.mk (.v (.int k (m / 2 ^ m'.toNat))) [] [] [] [] :: acc) K) : Fl P n ops draw (o :: l) s acc K :=
 Ab hg (OpJ.shr (AY hd) hop hx hy h1 h2) r
theorem Fl.shl [Facts P tab] {t t' : TypeId} {x y : Operand} (hop : o.op = .binOp .shl t x y t') {k k' : IntKind} {m m' : Int} (hx : opd s x = .v (.int k m)) (hu : isU k = true) (hy : opd s y = .v (.int k' m')) (hg : gOk ops s o = true) (hd : dOk n o.dst = true)
  (h1 : 0 ≤ m') (h2 : m' ≤ k.bits)
  (r : Fl P n ops draw l ((Eff.mk (.v (.int k ((m * 2 ^ m'.toNat) % uMod k))) [] [] [] []).app o.dst s) (Eff.mk (.v (.int k ((m * 2 ^ m'.toNat) % uMod k))) [] [] [] [] :: acc) K) : Fl P n ops draw (o :: l) s acc K :=
 Ab hg (OpJ.shl (AY hd) hop hx hy h1 h2 hu) r
theorem Fl.shlI [Facts P tab] {t t' : TypeId} {x y : Operand} (hop : o.op = .binOp .shl t x y t') {k' : IntKind} {m m' : Int} (hx : opd s x = .v (.int .i64 m)) (hy : opd s y = .v (.int k' m')) (hg : gOk ops s o = true) (hd : dOk n o.dst = true)
  (h1 : 0 ≤ m') (h2 : m' ≤ 64) (h3 : -9223372036854775808 ≤ m * 2 ^ m'.toNat) (h4 : m * 2 ^ m'.toNat ≤ 9223372036854775807)
  (r : Fl P n ops draw l ((Eff.mk (.v (.int .i64 (m * 2 ^ m'.toNat))) [] [] [] []).app o.dst s) (Eff.mk (.v (.int .i64 (m * 2 ^ m'.toNat))) [] [] [] [] :: acc) K) : Fl P n ops draw (o :: l) s acc K :=
 Ab hg (OpJ.shlI (AY hd) hop hx hy h1 h2 h3 h4) r
theorem Fl.bits [Facts P tab] {op : BinOp} {t t' : TypeId} {x y : Operand} (hop : o.op = .binOp op t x y t') {k k' : IntKind} {m m' c : Int} (hx : opd s x = .v (.int k m)) (hy : opd s y = .v (.int k' m')) (hb : bitsV op k m m' = some c) (hg : gOk ops s o = true) (hd : dOk n o.dst = true) (hk : DX k k' = true)
  (c' : Int) (hc : c = c')
  (r : Fl P n ops draw l ((Eff.mk (.v (.int k c')) [] [] [] []).app o.dst s) (Eff.mk (.v (.int k c')) [] [] [] [] :: acc) K) : Fl P n ops draw (o :: l) s acc K :=
 Ab hg (OpJ.bits (AY hd) hop hx hy hk hb hc) r
theorem Fl.max2 {x y : Operand} {ts : Array TypeId} (hop : o.op = .call { callee := .builtin .max, args := ⟨[x, y]⟩, argTypes := ts }) {k k' : IntKind} {m m' : Int} (hx : opd s x = .v (.int k m)) (hy : opd s y = .v (.int k' m')) (hg : gOk ops s o = true) (hd : dOk n o.dst = true)
  (r : Fl P n ops draw l ((Eff.mk (.v (.int k (if m' > m then m' else m))) [] [] [] []).app o.dst s) (Eff.mk (.v (.int k (if m' > m then m' else m))) [] [] [] [] :: acc) K) : Fl P n ops draw (o :: l) s acc K :=
 Ab hg (OpJ.max2 (AY hd) hop hx hy) r
theorem Fl.min2 {x y : Operand} {ts : Array TypeId} (hop : o.op = .call { callee := .builtin .min, args := ⟨[x, y]⟩, argTypes := ts }) {k k' : IntKind} {m m' : Int} (hx : opd s x = .v (.int k m)) (hy : opd s y = .v (.int k' m')) (hg : gOk ops s o = true) (hd : dOk n o.dst = true)
  (r : Fl P n ops draw l ((Eff.mk (.v (.int k (if m' < m then m' else m))) [] [] [] []).app o.dst s) (Eff.mk (.v (.int k (if m' < m then m' else m))) [] [] [] [] :: acc) K) : Fl P n ops draw (o :: l) s acc K :=
 Ab hg (OpJ.min2 (AY hd) hop hx hy) r
theorem Aw [f : Facts P tab] {t : TypeId} {x y : Operand} (hop : o.op = .indexAddr t x y) {α : Type} {sz : Nat} {enc : α → List AV} {xs : List α} (hx : opd s x = .sl sz enc xs) {k : IntKind} {m : Int} (hy : opd s y = .v (.int k m)) {e : TypeId} {i : TI} {sz' by' : Nat} {z : List Value} (hts : tab t = some ⟨.slice e, sz', by', z⟩) (hti : tab e = some i) (hsz : sz = i.size) (hg : gOk ops s o = true) (hd : dOk n o.dst = true)
  (h0 : 0 ≤ m) (h1 : m < xs.length)
  (r : ∀ e0, xs[m.toNat]? = some e0 → Fl P n ops draw l ((Eff.mk (.cptr (enc e0)) [] [] [] []).app o.dst s) (Eff.mk (.cptr (enc e0)) [] [] [] [] :: acc) K) : Fl P n ops draw (o :: l) s acc K := by
 subst hsz;have he := List.getElem?_eq_getElem (l := xs) (i := m.toNat) (by omega);exact Ab hg (OpJ.elem f.tabOk (AY hd) hop hts hti hx hy h0 he) (r _ he)
theorem B5 [f : Facts P tab] {t : TypeId} {x y : Operand} (hop : o.op = .indexAddr t x y) {sz : Nat} {enc : Int → List AV} {xs : List Int} (hx : opd s x = .sl sz enc xs) {k : IntKind} {m : Int} (hy : opd s y = .v (.int k m)) {e : TypeId} {i : TI} {sz' by' : Nat} {z : List Value} (hts : tab t = some ⟨.slice e, sz', by', z⟩) (hti : tab e = some i) (hsz : sz = i.size) (hg : gOk ops s o = true) (hd : dOk n o.dst = true)
  (h0 : 0 ≤ m) (h1 : m < xs.length) (hw : WOk xs)
  (r : ∀ e0, xs[m.toNat]? = some e0 → 0 ≤ e0 → e0 < 4294967296 → Fl P n ops draw l ((Eff.mk (.cptr (enc e0)) [] [] [] []).app o.dst s) (Eff.mk (.cptr (enc e0)) [] [] [] [] :: acc) K) : Fl P n ops draw (o :: l) s acc K :=
 Aw hop hx hy hts hti hsz hg hd h0 h1 fun e0 he => r e0 he (hw e0 (List.mem_of_getElem? he)).1 (hw e0 (List.mem_of_getElem? he)).2
theorem Aq [f : Facts P tab] {t : TypeId} {x y : Operand} (hop : o.op = .indexAddr t x y) {b : Id} (hx : opd s x = .row b) {k : IntKind} {m : Int} (hy : opd s y = .v (.int k m)) {e : TypeId} {i : TI} {sz' by' : Nat} {z : List Value} (hts : tab t = some ⟨.slice e, sz', by', z⟩) (hti : tab e = some i) {α : Type} {sz : Nat} {enc : α → List AV} {xs : List α} {bt : TypeId} (hb : s.bx b = some (.row sz enc xs bt)) (hg : gOk ops s o = true) (hd : dOk n o.dst = true)
  (h0 : 0 ≤ m) (h1 : m < xs.length)
  (r : Fl P n ops draw l ((Eff.mk (.rptr b (m.toNat * i.size)) [] [] [] [b]).app o.dst s) (Eff.mk (.rptr b (m.toNat * i.size)) [] [] [] [b] :: acc) K) : Fl P n ops draw (o :: l) s acc K :=
 Ab hg (OpJ.relem f.tabOk (AY hd) hop hts hti hx hb hy h0 h1) r
theorem Fl.rld [f : Facts P tab] {t : TypeId} {x : Operand} (hop : o.op = .load t x) {b : Id} {off : Nat} (hx : opd s x = .rptr b off) {α : Type} {sz : Nat} {enc : α → List AV} {xs : List α} {bt : TypeId} (hb : s.bx b = some (.row sz enc xs bt)) {i : TI} (hti : tab t = some i) (hg : gOk ops s o = true) (hd : dOk n o.dst = true)
  {j : Nat} (hj : off = j * sz) {v : α → AV} (hv : ∀ x0, A6 (aggD i.desc) i.size (enc x0) = some (v x0)) (hvc : ∀ x0, (v x0).closed = true) (hlt : j < xs.length)
  (r : ∀ x0, xs[j]? = some x0 → Fl P n ops draw l ((Eff.mk (v x0) [] [] [] [b]).app o.dst s) (Eff.mk (v x0) [] [] [] [b] :: acc) K) : Fl P n ops draw (o :: l) s acc K :=
 Ab hg (OpJ.rload f.tabOk (AY hd) hop hx hb hti hj (List.getElem?_eq_getElem hlt) (hv _) (hvc _)) (r _ (List.getElem?_eq_getElem hlt))
theorem A9 [f : Facts P tab] {t : TypeId} {x y : Operand} (hop : o.op = .store t x y) {b : Id} {off : Nat} (hx : opd s x = .rptr b off) (hg : gOk ops s o = true) (hdst : o.dst = none) {α : Type} {sz : Nat} {enc : α → List AV} {xs : List α} {bt : TypeId} (hb : s.bx b = some (.row sz enc xs bt)) {i : TI} (hti : tab t = some i)
  {vs : List AV} (hv : Dc (opd s y) = some vs) (hvc : A7 vs = true) (hsz : Nat.beq vs.length i.size = true) (hsz2 : Nat.beq i.size sz = true) {j : Nat} (hj : off = j * sz) {x1 : α} (hle : LeL vs (enc x1)) (hel : Nat.beq (enc x1).length sz = true) (hjl : j < xs.length)
  (r : Fl P n ops draw l ((Eff.mk .any [(b, .row sz enc (xs.set j x1) bt)] [] [] [b]).app o.dst s) (Eff.mk .any [(b, .row sz enc (xs.set j x1) bt)] [] [] [b] :: acc) K) (hJ : A4 draw.J (Eff.mk .any [(b, .row sz enc (xs.set j x1) bt)] [] [] [b]) := by repeat' (first | exact True.intro | exact rfl | refine ⟨?_, ?_⟩ | fail)) : Fl P n ops draw (o :: l) s acc K :=
 Fl.op hg (OpJ.rstore f.tabOk hdst hop hx hb hti hj hjl hv hvc (Nat.eq_of_beq_eq_true hsz) (Nat.eq_of_beq_eq_true hsz2) hle (Nat.eq_of_beq_eq_true hel)) rfl hJ r
theorem Fl.ap [f : Facts P tab] {x y : Operand} {t : TypeId} (hop : o.op = .call { callee := .builtin .append, args := ⟨[x, y]⟩, argTypes := ⟨[t, t]⟩ }) {b : Id} (hx : opd s x = .row b) (hg : gOk ops s o = true) {d : Tmp} (hdst : o.dst = some d) (hd : Nat.blt d n = true) {e : TypeId} {i : TI} {sz' by' : Nat} {z : List Value} (hts : tab t = some ⟨.slice e, sz', by', z⟩) (hti : tab e = some i) (hsz : Nat.blt 0 i.size = true)
  {α : Type} {sz : Nat} {enc : α → List AV} {xs ys : List α} {bt : TypeId} (hb : s.bx b = some (.row sz enc xs bt)) (hbt : Nat.beq bt e = true) (hsz2 : sz = i.size) (hn : s.al d = false) (hyc : (opd s y).closed = true) (hone : ∀ y, BG (enc y) = true) (hel : ∀ y, (enc y).length = sz) (hy : (opd s y).Le (.sl sz enc ys))
  (hby : (xs.length + ys.length) * i.bytes ≤ 140737488355328) (hm : xs.length + ys.length ≤ 9223372036854775807)
  (r : Fl P n ops draw l ((Eff.mk (.row d) [(d, .row sz enc (xs ++ ys) bt)] [b] [d] [b]).app o.dst s) (Eff.mk (.row d) [(d, .row sz enc (xs ++ ys) bt)] [b] [d] [b] :: acc) K) (hJ : A4 draw.J (Eff.mk (.row d) [(d, .row sz enc (xs ++ ys) bt)] [b] [d] [b]) := by repeat' (first | exact True.intro | exact rfl | refine ⟨?_, ?_⟩ | fail)) : Fl P n ops draw (o :: l) s acc K := by
 subst hsz2;have hbt := Nat.eq_of_beq_eq_true hbt;subst hbt;exact Fl.op hg (OpJ.append f.tabOk hdst (ltOf hd) hop hts hti hsz hx hb hy hyc hone hel hby hm) (ET hn) hJ r
theorem qa [f : Facts P tab] {x y : Operand} {t : TypeId} (hop : o.op = .call { callee := .builtin .append, args := ⟨[x, y]⟩, argTypes := ⟨[t, t]⟩ } := by exact rfl) {b : Id} (hx : opd s x = .row b := by exact rfl) (hg : gOk ops s o = true := by exact rfl) {d : Tmp} (hdst : o.dst = some d := by exact rfl) (hd : Nat.blt d n = true := by exact rfl) {e : TypeId} {i : TI} {sz' by' : Nat} {z : List Value} (hts : tab t = some ⟨.slice e, sz', by', z⟩ := by exact rfl) (hti : tab e = some i := by exact rfl) (hsz : Nat.blt 0 i.size = true := by exact rfl) {α : Type} {sz : Nat} {enc : α → List AV} {xs ys : List α} {bt : TypeId} (hb : s.bx b = some (.row sz enc xs bt) := by exact rfl) (hbt : Nat.beq bt e = true := by exact rfl) (hsz2 : sz = i.size := by exact rfl) (hn : s.al d = false := by exact rfl) (hyc : (opd s y).closed = true := by exact rfl) (hone : ∀ y, BG (enc y) = true := by exact fun _ => rfl) (hel : ∀ y, (enc y).length = sz := by exact fun _ => rfl) (hy : (opd s y).Le (.sl sz enc ys) := by exact AA _) (hby : (xs.length + ys.length) * i.bytes ≤ 140737488355328) (hm : xs.length + ys.length ≤ 9223372036854775807) (r : Fl P n ops draw l ((Eff.mk (.row d) [(d, .row sz enc (xs ++ ys) bt)] [b] [d] [b]).app o.dst s) (Eff.mk (.row d) [(d, .row sz enc (xs ++ ys) bt)] [b] [d] [b] :: acc) K) (hJ : A4 draw.J (Eff.mk (.row d) [(d, .row sz enc (xs ++ ys) bt)] [b] [d] [b]) := by repeat' (first | exact True.intro | exact rfl | refine ⟨?_, ?_⟩ | fail))  : Fl P n ops draw (o :: l) s acc K := Fl.ap hop hx hg hdst hd hts hti hsz hb hbt hsz2 hn hyc hone hel hy hby hm r hJ
theorem Fl.ap0 [f : Facts P tab] {x y : Operand} {t : TypeId} (hop : o.op = .call { callee := .builtin .append, args := ⟨[x, y]⟩, argTypes := ⟨[t, t]⟩ }) (hx : opd s x = .v (.slice none 0 0)) (hg : gOk ops s o = true) {d : Tmp} (hdst : o.dst = some d) (hd : Nat.blt d n = true) {e : TypeId} {i : TI} {sz' by' : Nat} {z : List Value} (hts : tab t = some ⟨.slice e, sz', by', z⟩) (hti : tab e = some i) (hsz : Nat.blt 0 i.size = true)
  {α : Type} (enc : α → List AV) {ys : List α} (hn : s.al d = false) (hyc : (opd s y).closed = true) (hone : ∀ y, BG (enc y) = true) (hel : ∀ y, (enc y).length = i.size) (hy : (opd s y).Le (.sl i.size enc ys))
  (hby : ys.length * i.bytes ≤ 140737488355328) (hm : ys.length ≤ 9223372036854775807)
  (r : Fl P n ops draw l ((Eff.mk (.row d) [(d, .row i.size enc ys e)] [] [d] []).app o.dst s) (Eff.mk (.row d) [(d, .row i.size enc ys e)] [] [d] [] :: acc) K) (hJ : A4 draw.J (Eff.mk (.row d) [(d, .row i.size enc ys e)] [] [d] []) := by repeat' (first | exact True.intro | exact rfl | refine ⟨?_, ?_⟩ | fail)) : Fl P n ops draw (o :: l) s acc K :=
 Fl.op hg (OpJ.append0 f.tabOk hdst (ltOf hd) hop hts hti hsz hx enc hy hyc hone hel hby hm) (ET hn) hJ r
theorem Bp [f : Facts P tab] {t : TypeId} {x y : Operand} (hop : o.op = .makeSlice t x y) (hg : gOk ops s o = true) {d : Tmp} (hdst : o.dst = some d) (hd : Nat.blt d n = true) {e : TypeId} {i : TI} {sz' by' : Nat} {z : List Value} (hts : tab t = some ⟨.slice e, sz', by', z⟩) (hti : tab e = some i)
  {k k' : IntKind} {m m' : Int} (hx : opd s x = .v (.int k m)) (hy : opd s y = .v (.int k' m')) (hmm : m' = m) (hn : s.al d = false) {α : Type} (enc : α → List AV) (x0 : α) (hz : LeL (vL i.zero) (enc x0)) (hlen : Nat.beq (enc x0).length i.size = true) (h0 : 0 ≤ m) (hby : m * i.bytes ≤ 281474976710656) (hm : m ≤ 9223372036854775807)
  (r : Fl P n ops draw l ((Eff.mk (.row d) [(d, .row i.size enc (List.replicate m.toNat x0) e)] [] [d] []).app o.dst s) (Eff.mk (.row d) [(d, .row i.size enc (List.replicate m.toNat x0) e)] [] [d] [] :: acc) K) (hJ : A4 draw.J (Eff.mk (.row d) [(d, .row i.size enc (List.replicate m.toNat x0) e)] [] [d] []) := by repeat' (first | exact True.intro | exact rfl | refine ⟨?_, ?_⟩ | fail)) : Fl P n ops draw (o :: l) s acc K :=
 Fl.op hg (OpJ.make f.tabOk hdst (ltOf hd) hop hts hti hx hy hmm h0 hby hm enc x0 hz (Nat.eq_of_beq_eq_true hlen)) (ET hn) hJ r
theorem Fl.lit [f : Facts P tab] {t : TypeId} {len : Nat} {parts : List (Nat × Operand)} (hop : o.op = .buildSlice t len ⟨parts⟩) (hg : gOk ops s o = true) (hd : dOk n o.dst = true) {e : TypeId} {i : TI} {sz by' : Nat} {z : List Value} (hts : tab t = some ⟨.slice e, sz, by', z⟩) (hti : tab e = some i)
  {α : Type} (enc : α → List AV) (xs : List α) {cs : List AV} (hf : fillA (fun j => some (j * i.size, i.size)) (zeros (vL i.zero) len) (opPs s parts) = some cs) (hcl : A7 cs = true) (hlen : Nat.beq xs.length len = true) (hsmall : Nat.ble (len * i.size) 16777216 = true) (hel : ∀ x ∈ xs, (enc x).length = i.size) (hcs : cs = xs.flatMap enc)
  (r : Fl P n ops draw l ((Eff.mk (.sl i.size enc xs) [] [] [] []).app o.dst s) (Eff.mk (.sl i.size enc xs) [] [] [] [] :: acc) K) (hm : Nat.ble len 16777216 = true := by rfl) : Fl P n ops draw (o :: l) s acc K :=
 Ab hg (OpJ.slit f.tabOk (AY hd) hop hts hti hf enc xs hcs (Nat.eq_of_beq_eq_true hlen) hel hcl (Nat.le_of_ble_eq_true hsmall) (by have := Nat.le_of_ble_eq_true hm; simp only [maxLen]; omega)) r
theorem ql [f : Facts P tab] {t : TypeId} {len : Nat} {parts : List (Nat × Operand)} {e : TypeId} {i : TI} {sz by' : Nat} {z : List Value} {α : Type} (enc : α → List AV) (xs : List α) {cs : List AV} (r : Fl P n ops draw l ((Eff.mk (.sl i.size enc xs) [] [] [] []).app o.dst s) (Eff.mk (.sl i.size enc xs) [] [] [] [] :: acc) K) (hop : o.op = .buildSlice t len ⟨parts⟩ := by exact rfl) (hg : gOk ops s o = true := by exact rfl) (hd : dOk n o.dst = true := by exact rfl) (hts : tab t = some ⟨.slice e, sz, by', z⟩ := by exact rfl) (hti : tab e = some i := by exact rfl) (hf : fillA (fun j => some (j * i.size, i.size)) (zeros (vL i.zero) len) (opPs s parts) = some cs := by exact rfl) (hcl : A7 cs = true := by exact rfl) (hlen : Nat.beq xs.length len = true := by exact rfl) (hsmall : Nat.ble (len * i.size) 16777216 = true := by exact rfl) (hel : ∀ x ∈ xs, (enc x).length = i.size := by intro _ _; rfl) (hcs : cs = xs.flatMap enc := by exact rfl) (hm : Nat.ble len 16777216 = true := by rfl) : Fl P n ops draw (o :: l) s acc K := Fl.lit hop hg hd hts hti enc xs hf hcl hlen hsmall hel hcs r hm
theorem Fl.cutLH [f : Facts P tab] {t : TypeId} {x y z : Operand} (hop : o.op = .slice t x (some y) (some z) none) {α : Type} {sz : Nat} {enc : α → List AV} {xs : List α} (hx : opd s x = .sl sz enc xs) {e : TypeId} {i : TI} {sz' by' : Nat} {z' : List Value} (hts : tab t = some ⟨.slice e, sz', by', z'⟩) (hti : tab e = some i) (hsz : sz = i.size)
  {k k' : IntKind} {lo m : Int} (hy : opd s y = .v (.int k lo)) (hz : opd s z = .v (.int k' m)) (hg : gOk ops s o = true) (hd : dOk n o.dst = true) (h0 : 0 ≤ lo) (h1 : lo ≤ m) (h2 : m ≤ xs.length)
  (r : Fl P n ops draw l ((Eff.mk (.sl sz enc ((xs.take m.toNat).drop lo.toNat)) [] [] [] []).app o.dst s) (Eff.mk (.sl sz enc ((xs.take m.toNat).drop lo.toNat)) [] [] [] [] :: acc) K) : Fl P n ops draw (o :: l) s acc K := by
 subst hsz;exact Ab hg (OpJ.cutLH f.tabOk (AY hd) hop hts hti hx hy hz h0 h1 h2) r
theorem Fl.cutL [f : Facts P tab] {t : TypeId} {x y : Operand} (hop : o.op = .slice t x (some y) none none) {α : Type} {sz : Nat} {enc : α → List AV} {xs : List α} (hx : opd s x = .sl sz enc xs) {e : TypeId} {i : TI} {sz' by' : Nat} {z' : List Value} (hts : tab t = some ⟨.slice e, sz', by', z'⟩) (hti : tab e = some i) (hsz : sz = i.size)
  {k : IntKind} {lo : Int} (hy : opd s y = .v (.int k lo)) (hg : gOk ops s o = true) (hd : dOk n o.dst = true) (h0 : 0 ≤ lo) (h2 : lo ≤ xs.length)
  (r : Fl P n ops draw l ((Eff.mk (.sl sz enc (xs.drop lo.toNat)) [] [] [] []).app o.dst s) (Eff.mk (.sl sz enc (xs.drop lo.toNat)) [] [] [] [] :: acc) K) : Fl P n ops draw (o :: l) s acc K := by
 subst hsz;exact Ab hg (OpJ.cutL f.tabOk (AY hd) hop hts hti hx hy h0 h2) r
theorem Fl.cutH [f : Facts P tab] {t : TypeId} {x z : Operand} (hop : o.op = .slice t x none (some z) none) {α : Type} {sz : Nat} {enc : α → List AV} {xs : List α} (hx : opd s x = .sl sz enc xs) {e : TypeId} {i : TI} {sz' by' : Nat} {z' : List Value} (hts : tab t = some ⟨.slice e, sz', by', z'⟩) (hti : tab e = some i) (hsz : sz = i.size)
  {k' : IntKind} {m : Int} (hz : opd s z = .v (.int k' m)) (hg : gOk ops s o = true) (hd : dOk n o.dst = true) (h0 : 0 ≤ m) (h2 : m ≤ xs.length)
  (r : Fl P n ops draw l ((Eff.mk (.sl sz enc (xs.take m.toNat)) [] [] [] []).app o.dst s) (Eff.mk (.sl sz enc (xs.take m.toNat)) [] [] [] [] :: acc) K) : Fl P n ops draw (o :: l) s acc K := by
 subst hsz;exact Ab hg (OpJ.cutH f.tabOk (AY hd) hop hts hti hx hz h0 h2) r
theorem Fl.cutHM [f : Facts P tab] {t : TypeId} {x z z2 : Operand} (hop : o.op = .slice t x none (some z) (some z2)) {α : Type} {sz : Nat} {enc : α → List AV} {xs : List α} (hx : opd s x = .sl sz enc xs) {e : TypeId} {i : TI} {sz' by' : Nat} {z' : List Value} (hts : tab t = some ⟨.slice e, sz', by', z'⟩) (hti : tab e = some i) (hsz : sz = i.size)
  {k k' : IntKind} {m m' : Int} (hz : opd s z = .v (.int k' m)) (hz2 : opd s z2 = .v (.int k m')) (hg : gOk ops s o = true) (hd : dOk n o.dst = true) (h0 : 0 ≤ m) (h1 : m ≤ m') (h2 : m' ≤ xs.length)
  (r : Fl P n ops draw l ((Eff.mk (.sl sz enc (xs.take m.toNat)) [] [] [] []).app o.dst s) (Eff.mk (.sl sz enc (xs.take m.toNat)) [] [] [] [] :: acc) K) : Fl P n ops draw (o :: l) s acc K := by
 subst hsz;exact Ab hg (OpJ.cutHM f.tabOk (AY hd) hop hts hti hx hz hz2 h0 h1 h2) r
theorem Fl.call {k : FuncId} {args : List Operand} {ts : Array TypeId} (hop : o.op = .call { callee := .value (.func k), args := ⟨args⟩, argTypes := ts }) {az : List AV} {ret : AV} (hf : PureFn P k az ret) (hg : gOk ops s o = true) (hd : dOk n o.dst = true) (hcl : A7 (opds s args) = true) (hle : LeL (opds s args) az)
  (r : Fl P n ops draw l ((Eff.mk ret [] [] [] []).app o.dst s) (Eff.mk ret [] [] [] [] :: acc) K) : Fl P n ops draw (o :: l) s acc K :=
 Ab hg (OpJ.call (AY hd) hop hle hcl hf) r
theorem qc {k : FuncId} {args : List Operand} {ts : Array TypeId} {az : List AV} {ret : AV} (hf : PureFn P k az ret) (r : Fl P n ops draw l ((Eff.mk ret [] [] [] []).app o.dst s) (Eff.mk ret [] [] [] [] :: acc) K) (hop : o.op = .call { callee := .value (.func k), args := ⟨args⟩, argTypes := ts } := by exact rfl) (hg : gOk ops s o = true := by exact rfl) (hd : dOk n o.dst = true := by exact rfl) (hcl : A7 (opds s args) = true := by exact rfl) (hle : LeL (opds s args) az := by exact AB _) : Fl P n ops draw (o :: l) s acc K := Fl.call hop hf hg hd hcl hle r
theorem Fl.skip (hg : gNo ops s o = true) (hd : dOk n o.dst = true) (r : Fl P n ops draw l (skipE.app o.dst s) (skipE :: acc) K) : Fl P n ops draw (o :: l) s acc K := Fl.no hg (AY hd) r
end
theorem TIOk.of {P : Program} {t : Nat} {d : TypeDesc} {sz by' : Nat} {zl : List Value} (hu : P.underlying t = some d) (z : Value) (hi : (P.info? t).map (fun i => (i.size, i.bytes, i.zero)) = some (sz, by', some z)) (hz : z.cells.toList = zl) (hl : zl.length = sz) : TIOk P t ⟨d, sz, by', zl⟩ := by
 refine ⟨hu, ?_, hl⟩;obtain ⟨inf, h1, h2⟩ := Option.map_eq_some_iff.1 hi;simp only [Prod.mk.injEq] at h2;exact ⟨inf, z, h1, h2.1, h2.2.1, h2.2.2, hz⟩
def lookT : List (Nat × TI) → Nat → Option TI
  | [], _ => none
  | (j, v) :: r, i => match Nat.beq i j with | true => some v | false => lookT r i
inductive AllTI (P : Program) : List (Nat × TI) → Prop
  | nil : AllTI P []
  | cons {t : Nat} {i : TI} {l : List (Nat × TI)} (h : TIOk P t i) (r : AllTI P l) : AllTI P ((t, i) :: l)
theorem tabOk_of {P : Program} {l : List (Nat × TI)} (h : AllTI P l) : A3 P (lookT l) := by
 induction h with
 | nil => intro t i h; simp [lookT] at h
 | @cons t0 i0 l h r ih =>
  intro t i hti;by_cases he : t = t0
  ·subst he; simp only [lookT, Nat.beq_refl, Option.some.injEq] at hti; subst hti; exact h
  ·simp only [lookT, Ae he] at hti; exact ih t i hti
end Go.AL
/- One rule for the operations that yield a value under a condition on numbers. -/
namespace Go.AL
def arithV (k : IntKind) (c : Int) : AV × Prop :=
  match k with
  | .i64 => (.v (.int .i64 c), -9223372036854775808 ≤ c ∧ c ≤ 9223372036854775807)
  | .u64 => (.v (.int .u64 c), 0 ≤ c ∧ c ≤ 18446744073709551615)
  | .i32 => (.v (.int .i32 c), -2147483648 ≤ c ∧ c ≤ 2147483647)
  | .i16 => (.v (.int .i16 c), -32768 ≤ c ∧ c ≤ 32767)
  | .i8 => (.v (.int .i8 c), -128 ≤ c ∧ c ≤ 127)
  | .u32 => (.v (.int .u32 (c % 4294967296)), True)
  | .u16 => (.v (.int .u16 (c % 65536)), True)
  | .u8 => (.v (.int .u8 (c % 256)), True)
def bitN (op : BinOp) (a b : Int) : Int :=
  match op with
  | .and => ((a.toNat &&& b.toNat : Nat) : Int)
  | .or => ((a.toNat ||| b.toNat : Nat) : Int)
  | .xor => ((a.toNat ^^^ b.toNat : Nat) : Int)
  | _ => ((a.toNat ^^^ (a.toNat &&& b.toNat) : Nat) : Int)
def bitP (k : IntKind) (c a b : Int) : AV × Prop :=
  match k with
  | .i64 => (.v (.int .i64 c), 0 ≤ a ∧ a ≤ 9223372036854775807 ∧ 0 ≤ b ∧ b ≤ 9223372036854775807)
  | .u64 => (.v (.int .u64 c), 0 ≤ a ∧ a ≤ 18446744073709551615 ∧ 0 ≤ b ∧ b ≤ 18446744073709551615)
  | .u32 => (.v (.int .u32 c), 0 ≤ a ∧ a ≤ 4294967295 ∧ 0 ≤ b ∧ b ≤ 4294967295)
  | k => (.v (.int k c), False)
theorem bitN_ok (op : BinOp) {k : IntKind} {e : Nat} (he : e ≤ k.bits) (hw : ∀ r : Int, 0 ≤ r → r < 2 ^ e → k.wrap r = r) {a b : Int} (ha : 0 ≤ a) (ha1 : a < 2 ^ e) (hb : 0 ≤ b) (hb1 : b < 2 ^ e) (hop : (bitsV op k a b).isSome = true) : bitsV op k a b = some (bitN op a b) := by
 have h2 : (2 : Int) ^ e ≤ 2 ^ k.bits := by
  have := Nat.pow_le_pow_right (show 0 < 2 by omega) he
  have h3 : ((2 ^ e : Nat) : Int) ≤ ((2 ^ k.bits : Nat) : Int) := by exact_mod_cast this
  simpa using h3
 have hx : ∀ z : Int, 0 ≤ z → z < 2 ^ e → (BitVec.ofInt k.bits z).toNat = z.toNat := by
  intro z h0 h1;rw [BitVec.toNat_ofInt];congr 1;refine Int.emod_eq_of_lt h0 ?_
  have : z < 2 ^ k.bits := by omega
  simpa using this
 have hlt : ∀ z : Int, 0 ≤ z → z < 2 ^ e → z.toNat < 2 ^ e := by
  intro z h0 h1
  have : ((z.toNat : Nat) : Int) < ((2 ^ e : Nat) : Int) := by rw [Int.toNat_of_nonneg h0]; simpa using h1
  exact_mod_cast this
 have hcast : ∀ m : Nat, m < 2 ^ e → k.wrap (m : Int) = m := by
  intro m hm;refine hw _ (by omega) ?_
  have : ((m : Nat) : Int) < ((2 ^ e : Nat) : Int) := by exact_mod_cast hm
  simpa using this
 cases op <;> simp only [bitsV, Option.isSome_none, Bool.false_eq_true] at hop <;> simp only [bitsV, bitN, Option.some.injEq]
 ·rw [BitVec.toNat_and, hx a ha ha1, hx b hb hb1];exact hcast _ (Nat.and_lt_two_pow _ (hlt b hb hb1))
 ·rw [BitVec.toNat_or, hx a ha ha1, hx b hb hb1];exact hcast _ (Nat.or_lt_two_pow (hlt a ha ha1) (hlt b hb hb1))
 ·rw [BitVec.toNat_xor, hx a ha ha1, hx b hb hb1];exact hcast _ (Nat.xor_lt_two_pow (hlt a ha ha1) (hlt b hb hb1))
 ·have : ∀ x y : BitVec k.bits, x &&& ~~~y = x ^^^ (x &&& y) := by
   intro x y;ext i hi;simp
   cases x[i] <;> cases y[i] <;> rfl
  rw [this, BitVec.toNat_xor, BitVec.toNat_and, hx a ha ha1, hx b hb hb1];exact hcast _ (Nat.xor_lt_two_pow (hlt a ha ha1) (Nat.and_lt_two_pow _ (hlt b hb hb1)))
def bin2 (op : BinOp) (k : IntKind) (m m' : Int) : Option (AV × Prop) :=
  match op with
  | .add => some (arithV k (m + m'))
  | .sub => some (arithV k (m - m'))
  | .mul => some (arithV k (m * m'))
  | .quo => some (.v (.int k (m / m')), 0 ≤ m ∧ 0 < m' ∧ m ≤ hiK k)
  | .rem => some (.v (.int k (m % m')), 0 ≤ m ∧ 0 < m')
  | .and => some (bitP k (bitN .and m m') m m')
  | .or => some (bitP k (bitN .or m m') m m')
  | .xor => some (bitP k (bitN .xor m m') m m')
  | .andNot => some (bitP k (bitN .andNot m m') m m')
  | _ => none
def shrV (k : IntKind) (c m' : Int) : AV × Prop :=
  match k with
  | .i64 => (.v (.int .i64 c), 0 ≤ m' ∧ m' ≤ 64)
  | .u64 => (.v (.int .u64 c), 0 ≤ m' ∧ m' ≤ 64)
  | .i32 => (.v (.int .i32 c), 0 ≤ m' ∧ m' ≤ 32)
  | .u32 => (.v (.int .u32 c), 0 ≤ m' ∧ m' ≤ 32)
  | .i16 => (.v (.int .i16 c), 0 ≤ m' ∧ m' ≤ 16)
  | .u16 => (.v (.int .u16 c), 0 ≤ m' ∧ m' ≤ 16)
  | .i8 => (.v (.int .i8 c), 0 ≤ m' ∧ m' ≤ 8)
  | .u8 => (.v (.int .u8 c), 0 ≤ m' ∧ m' ≤ 8)
def shlV (k : IntKind) (c m' : Int) : Option (AV × Prop) :=
  match k with
  | .i64 => some (.v (.int .i64 c), 0 ≤ m' ∧ m' ≤ 64 ∧ -9223372036854775808 ≤ c ∧ c ≤ 9223372036854775807)
  | .u64 => some (.v (.int .u64 (c % 18446744073709551616)), 0 ≤ m' ∧ m' ≤ 64)
  | .u32 => some (.v (.int .u32 (c % 4294967296)), 0 ≤ m' ∧ m' ≤ 32)
  | .u8 => some (.v (.int .u8 (c % 256)), 0 ≤ m' ∧ m' ≤ 8)
  | _ => none
def sh2 (op : BinOp) (k : IntKind) (m m' : Int) : Option (AV × Prop) :=
  match op with
  | .shr => some (shrV k (m / 2 ^ m'.toNat) m')
  | .shl => shlV k (m * 2 ^ m'.toNat) m'
  | _ => none
def szOk (tab : Tab) (t : TypeId) (sz : Nat) : Bool :=
  match tab t with
  | some ⟨.slice e, _, _, _⟩ => match tab e with
    | some i => Nat.beq sz i.size
    | none => false
  | _ => false
def cut2 (tab : Tab) (s : St) (t : TypeId) (x : AV) (lo hi mx : Option Operand) : Option (AV × Prop) :=
  match x with
  | .sl sz enc xs => match szOk tab t sz with
    | true => match lo, hi, mx with
      | some y, some z, none => match opd s y, opd s z with
        | .v (.int _ l), .v (.int _ m) => some (.sl sz enc ((xs.take m.toNat).drop l.toNat), 0 ≤ l ∧ l ≤ m ∧ m ≤ xs.length)
        | _, _ => none
      | some y, none, none => match opd s y with
        | .v (.int _ l) => some (.sl sz enc (xs.drop l.toNat), 0 ≤ l ∧ l ≤ xs.length)
        | _ => none
      | none, some z, none => match opd s z with
        | .v (.int _ m) => some (.sl sz enc (xs.take m.toNat), 0 ≤ m ∧ m ≤ xs.length)
        | _ => none
      | none, some z, some z2 => match opd s z, opd s z2 with
        | .v (.int _ m), .v (.int _ m') => some (.sl sz enc (xs.take m.toNat), 0 ≤ m ∧ m ≤ m' ∧ m' ≤ xs.length)
        | _, _ => none
      | _, _, _ => none
    | false => none
  | _ => none
def opV2 (tab : Tab) (s : St) : Op → Option (AV × Prop)
  | .binOp op _ x y _ => match opd s x, opd s y with
    | .v (.int k m), .v (.int k' m') => match DX k k' with
      | true => match bin2 op k m m' with
        | some r => some r
        | none => sh2 op k m m'
      | false => sh2 op k m m'
    | _, _ => none
  | .convert src dst x => match opd s x, tab src, tab dst with
    | .v (.int _ m), some _, some ⟨.int k, _, _, _⟩ => match isU k with
      | true => match k with
        | .u64 => some (.v (.int .u64 m), 0 ≤ m ∧ m ≤ 18446744073709551615)
        | _ => none
      | false => some (.v (.int k m), loK k ≤ m ∧ m ≤ hiK k)
    | _, _, _ => none
  | .slice t x lo hi mx => cut2 tab s t (opd s x) lo hi mx
  | .call { callee := .builtin .max, args := ⟨[x, y]⟩, argTypes := _ } => match opd s x, opd s y with
    | .v (.int k m), .v (.int _ m') => some (.v (.int k (if m' > m then m' else m)), True)
    | _, _ => none
  | .call { callee := .builtin .min, args := ⟨[x, y]⟩, argTypes := _ } => match opd s x, opd s y with
    | .v (.int k m), .v (.int _ m') => some (.v (.int k (if m' < m then m' else m)), True)
    | _, _ => none
  | _ => none
section
variable {P : Program} {tab : Tab} {n : Nat} {s : St} {o : Oper}
theorem arithV_ok (hd : ∀ d, o.dst = some d → d < n) {op : BinOp} {t t' : TypeId} {x y : Operand} (hop : o.op = .binOp op t x y t') {k k' : IntKind} {m m' c : Int} (hx : opd s x = .v (.int k m)) (hy : opd s y = .v (.int k' m')) (hk : DX k k' = true) (hc : arithI op m m' = some c)
  {v : AV} {p : Prop} (he : arithV k c = (v, p)) (hp : p) : OpJ P n o s ⟨v, [], [], [], []⟩ := by
 cases k <;> simp only [arithV, Prod.mk.injEq] at he <;> obtain ⟨rfl, rfl⟩ := he
 ·exact Cm hd hop hx hy hk hc hp.1 hp.2
 ·exact Cm hd hop hx hy hk hc hp.1 hp.2
 ·exact Cm hd hop hx hy hk hc hp.1 hp.2
 ·exact Cm hd hop hx hy hk hc hp.1 hp.2
 ·exact Eh hd hop hx hy hk hc rfl
 ·exact Eh hd hop hx hy hk hc rfl
 ·exact Eh hd hop hx hy hk hc rfl
 ·exact Cm hd hop hx hy hk hc hp.1 hp.2
theorem sh2_ok (hd : ∀ d, o.dst = some d → d < n) {op : BinOp} {t t' : TypeId} {x y : Operand} (hop : o.op = .binOp op t x y t') {k k' : IntKind} {m m' : Int} (hx : opd s x = .v (.int k m)) (hy : opd s y = .v (.int k' m'))
  {v : AV} {p : Prop} (he : sh2 op k m m' = some (v, p)) (hp : p) : OpJ P n o s ⟨v, [], [], [], []⟩ := by
 unfold sh2 at he;split at he
 ·injection he with he
  cases k <;> simp only [shrV, Prod.mk.injEq] at he <;> obtain ⟨rfl, rfl⟩ := he <;> exact OpJ.shr hd hop hx hy hp.1 hp.2
 ·cases k <;> simp only [shlV, Option.some.injEq, Prod.mk.injEq, reduceCtorEq] at he <;> obtain ⟨rfl, rfl⟩ := he
  ·exact OpJ.shlI hd hop hx hy hp.1 hp.2.1 hp.2.2.1 hp.2.2.2
  ·exact OpJ.shl hd hop hx hy hp.1 hp.2 rfl
  ·exact OpJ.shl hd hop hx hy hp.1 hp.2 rfl
  ·exact OpJ.shl hd hop hx hy hp.1 hp.2 rfl
 ·cases he
theorem bitP_ok (hd : ∀ d, o.dst = some d → d < n) {op : BinOp} {t t' : TypeId} {x y : Operand} (hop : o.op = .binOp op t x y t') {k k' : IntKind} {m m' : Int} (hx : opd s x = .v (.int k m)) (hy : opd s y = .v (.int k' m')) (hk : DX k k' = true) (hb : (bitsV op k m m').isSome = true)
  {v : AV} {p : Prop} (he : bitP k (bitN op m m') m m' = (v, p)) (hp : p) : OpJ P n o s ⟨v, [], [], [], []⟩ := by
 have hw : ∀ (k : IntKind) (r : Int), loK k ≤ 0 → 0 ≤ r → r ≤ hiK k → k.wrap r = r := fun k r h h0 h1 => wrap_in (by omega) h1
 cases k <;> simp only [bitP, Prod.mk.injEq] at he <;> obtain ⟨rfl, rfl⟩ := he <;> try exact hp.elim
 ·exact OpJ.bits hd hop hx hy hk (bitN_ok op (e := 63) (by simp [IntKind.bits]) (fun r h0 h1 => hw _ r (by simp [loK]) h0 (by simp only [hiK]; omega)) hp.1 (by omega) hp.2.2.1 (by omega) hb) rfl
 ·exact OpJ.bits hd hop hx hy hk (bitN_ok op (e := 32) (by simp [IntKind.bits]) (fun r h0 h1 => hw _ r (by simp [loK]) h0 (by simp only [hiK]; omega)) hp.1 (by omega) hp.2.2.1 (by omega) hb) rfl
 ·exact OpJ.bits hd hop hx hy hk (bitN_ok op (e := 64) (by simp [IntKind.bits]) (fun r h0 h1 => hw _ r (by simp [loK]) h0 (by simp only [hiK]; omega)) hp.1 (by omega) hp.2.2.1 (by omega) hb) rfl
theorem bin2_ok (hd : ∀ d, o.dst = some d → d < n) {op : BinOp} {t t' : TypeId} {x y : Operand} (hop : o.op = .binOp op t x y t') {k k' : IntKind} {m m' : Int} (hx : opd s x = .v (.int k m)) (hy : opd s y = .v (.int k' m')) (hk : DX k k' = true)
  {v : AV} {p : Prop} (he : bin2 op k m m' = some (v, p)) (hp : p) : OpJ P n o s ⟨v, [], [], [], []⟩ := by
 unfold bin2 at he;split at he
 ·injection he with he; exact arithV_ok hd hop hx hy hk rfl he hp
 ·injection he with he; exact arithV_ok hd hop hx hy hk rfl he hp
 ·injection he with he; exact arithV_ok hd hop hx hy hk rfl he hp
 ·injection he with he; injection he with h1 h2; subst h1 h2;exact OpJ.quo hd hop hx hy hk hp.1 hp.2.1 hp.2.2
 ·injection he with he; injection he with h1 h2; subst h1 h2;exact OpJ.rem hd hop hx hy hk hp.1 hp.2
 ·injection he with he; exact bitP_ok hd hop hx hy hk rfl he hp
 ·injection he with he; exact bitP_ok hd hop hx hy hk rfl he hp
 ·injection he with he; exact bitP_ok hd hop hx hy hk rfl he hp
 ·injection he with he; exact bitP_ok hd hop hx hy hk rfl he hp
 ·cases he
theorem OpJ.of_v2 (ht : A3 P tab) (hd : ∀ d, o.dst = some d → d < n) {v : AV} {p : Prop} (hv : opV2 tab s o.op = some (v, p)) (hp : p) : OpJ P n o s ⟨v, [], [], [], []⟩ := by
 unfold opV2 at hv;split at hv
 ·rename_i op t x y t' hop;split at hv
  ·rename_i k m k' m' hx hy;split at hv
   ·rename_i hk;split at hv
    ·rename_i r hr;injection hv with hv; subst hv;exact bin2_ok hd hop hx hy hk hr hp
    ·exact sh2_ok hd hop hx hy hv hp
   ·exact sh2_ok hd hop hx hy hv hp
  ·cases hv
 ·rename_i src dst x hop;split at hv
  ·rename_i k' m i1 k _ _ _ hx h1 h2;split at hv
   ·split at hv
    ·injection hv with hv; injection hv with e1 e2; subst e1 e2;exact OpJ.conv ht hd hop hx h1 h2 hp.1 hp.2
    ·cases hv
   ·injection hv with hv; injection hv with e1 e2; subst e1 e2;exact OpJ.conv ht hd hop hx h1 h2 hp.1 hp.2
  ·cases hv
 ·rename_i t x lo hi mx hop;unfold cut2 at hv;split at hv
  ·rename_i α sz enc xs hx;split at hv
   ·rename_i hsz;unfold szOk at hsz;split at hsz
    ·rename_i e a1 a2 a3 hts;split at hsz
     ·rename_i i hti;have hsz := Nat.eq_of_beq_eq_true hsz;subst hsz;split at hv
      ·rename_i y z;split at hv
       ·rename_i k l k' m hy hz;injection hv with hv; injection hv with e1 e2; subst e1 e2;exact OpJ.cutLH ht hd hop hts hti hx hy hz hp.1 hp.2.1 hp.2.2
       ·cases hv
      ·rename_i y;split at hv
       ·rename_i k l hy;injection hv with hv; injection hv with e1 e2; subst e1 e2;exact OpJ.cutL ht hd hop hts hti hx hy hp.1 hp.2
       ·cases hv
      ·rename_i z;split at hv
       ·rename_i k m hz;injection hv with hv; injection hv with e1 e2; subst e1 e2;exact OpJ.cutH ht hd hop hts hti hx hz hp.1 hp.2
       ·cases hv
      ·rename_i z z2;split at hv
       ·rename_i k m k' m' hz hz2;injection hv with hv; injection hv with e1 e2; subst e1 e2;exact OpJ.cutHM ht hd hop hts hti hx hz hz2 hp.1 hp.2.1 hp.2.2
       ·cases hv
      ·cases hv
     ·cases hsz
    ·cases hsz
   ·cases hv
  ·cases hv
 ·rename_i x y ts hop;split at hv
  ·rename_i k m k' m' hx hy;injection hv with hv; injection hv with e1 e2; subst e1 e2;exact OpJ.max2 hd hop hx hy
  ·cases hv
 ·rename_i x y ts hop;split at hv
  ·rename_i k m k' m' hx hy;injection hv with hv; injection hv with e1 e2; subst e1 e2;exact OpJ.min2 hd hop hx hy
  ·cases hv
 ·cases hv
variable {ops : Array Oper} {draw : Dr} {l : List Oper} {acc : List Eff} {K : Exit → St → Prop}
theorem Fl.w [f : Facts P tab] {v : AV} {p : Prop} (hg : gOk ops s o = true) (hd : dOk n o.dst = true) (hv : opV2 tab s o.op = some (v, p)) (hp : p) (r : Fl P n ops draw l ((Eff.mk v [] [] [] []).app o.dst s) (Eff.mk v [] [] [] [] :: acc) K) : Fl P n ops draw (o :: l) s acc K :=
 Ab hg (OpJ.of_v2 f.tabOk (AY hd) hv hp) r
theorem qw [f : Facts P tab] {v : AV} {p : Prop} (r : Fl P n ops draw l ((Eff.mk v [] [] [] []).app o.dst s) (Eff.mk v [] [] [] [] :: acc) K) (hg : gOk ops s o = true := by exact rfl) (hd : dOk n o.dst = true := by exact rfl) (hv : opV2 tab s o.op = some (v, p) := by exact rfl) (hp : p := by first | exact True.intro | omega) : Fl P n ops draw (o :: l) s acc K := Fl.w hg hd hv hp r
def opBx (tab : Tab) (s : St) (o : Oper) : Option Eff :=
  match o.op, o.dst with
  | .box t x, some d => match Dc (opd s x) with
    | some cs => Dw cs fun cs => some ⟨.ptr d 0, [(d, .cells cs t)], [], [d], []⟩
    | none => none
  | .alloc t, some d => match tab t with
    | some i => Dw (vL i.zero) fun cs => some ⟨.ptr d 0, [(d, .cells cs t)], [], [d], []⟩
    | none => none
  | .store t x y, none => match opd s x with
    | .ptr b off => match s.bx b, tab t, Dc (opd s y) with
      | some (.cells cs bt), some i, some vs => match Nat.beq vs.length i.size && Nat.ble (off + vs.length) cs.length with
        | true => Dw (setL off vs cs) fun cs => some ⟨.any, [(b, .cells cs bt)], [], [], [b]⟩
        | false => none
      | _, _, _ => none
    | _ => none
  | .build t ⟨parts⟩, _ => match buildA tab s t parts with
    | some v => force1 v fun v => some ⟨v, [], [], [], []⟩
    | none => none
  | _, _ => none
theorem OpJ.of_bx (ht : A3 P tab) (hd : ∀ d, o.dst = some d → d < n) {E : Eff} (hv : opBx tab s o = some E) : OpJ P n o s E := by
 unfold opBx at hv;split at hv
 ·rename_i t x d hop hdst;split at hv
  ·rename_i cs hc;rw [DE] at hv;injection hv with hv; subst hv;exact OpJ.box hdst (hd d hdst) hop hc
  ·cases hv
 ·rename_i t d hop hdst;split at hv
  ·rename_i i hti;rw [DE] at hv;injection hv with hv; subst hv;exact OpJ.alloc ht hdst (hd d hdst) hop hti
  ·cases hv
 ·rename_i t x y hop hdst;split at hv
  ·rename_i b off hx;split at hv
   ·rename_i cs bt i vs hb hti hvs;split at hv
    ·rename_i hc;rw [DE] at hv;injection hv with hv; subst hv;simp only [Bool.and_eq_true] at hc;exact OpJ.store ht hdst hop hx hti hb hvs (Nat.eq_of_beq_eq_true hc.1) hc.2
    ·cases hv
   ·cases hv
  ·cases hv
 ·rename_i t parts hop;split at hv
  ·rename_i v hbv;rw [force1_eq] at hv;injection hv with hv; subst hv;exact OpJ.build ht hd hop hbv
  ·cases hv
 ·cases hv
theorem Fl.b [f : Facts P tab] {E : Eff} (hg : gOk ops s o = true) (hd : dOk n o.dst = true) (hv : opBx tab s o = some E) (hn : Dn E.new s.al = true) (r : Fl P n ops draw l (E.app o.dst s) (E :: acc) K) (hJ : A4 draw.J E := by repeat' (first | exact True.intro | exact rfl | refine ⟨?_, ?_⟩ | fail)) : Fl P n ops draw (o :: l) s acc K :=
 Fl.op hg (OpJ.of_bx f.tabOk (AY hd) hv) hn hJ r
theorem qv [f : Facts P tab] {v : AV} {tb : List Id} (r : Fl P n ops draw l ((Eff.mk v [] [] [] tb).app o.dst s) (Eff.mk v [] [] [] tb :: acc) K) (hg : gOk ops s o = true := by exact rfl) (hd : dOk n o.dst = true := by exact rfl) (hv : opVF tab s o.op = some (v, tb) := by exact rfl) : Fl P n ops draw (o :: l) s acc K := Fl.v hg hd hv r
theorem qe [f : Facts P tab] {E : Eff} (r : Fl P n ops draw l (E.app o.dst s) (E :: acc) K) (hg : gOk ops s o = true := by exact rfl) (hd : dOk n o.dst = true := by exact rfl) (hv : opBx tab s o = some E := by exact rfl) (hn : Dn E.new s.al = true := by exact rfl) (hJ : A4 draw.J E := by repeat' (first | exact True.intro | exact rfl | refine ⟨?_, ?_⟩ | fail)) : Fl P n ops draw (o :: l) s acc K := Fl.b hg hd hv hn r hJ
end
/- short names -/
theorem qr : type_of% @AWP.region := @AWP.region
theorem qs : type_of% @AWP.seq := @AWP.seq
theorem qb : type_of% @AWP.block := @AWP.block
theorem qk : type_of% @AWP.skip := @AWP.skip
theorem qx : type_of% @AWP.exit := @AWP.exit
theorem qt : type_of% @AWP.ret := @AWP.ret
theorem qn : type_of% @Fl.nilF := @Fl.nilF
end Go.AL
/- More operations: copy into a row; a literal that grows afterwards; a slice compared with nil. -/
namespace Go.AL
section
variable {P : Program} {tab : Tab} {n : Nat} {o : Oper} {s : St}
theorem OpJ.copy (ht : A3 P tab) (hd : ∀ d, o.dst = some d → d < n) {x y : Operand} {t t2 : TypeId} (hop : o.op = .call { callee := .builtin .copy, args := ⟨[x, y]⟩, argTypes := ⟨[t, t2]⟩ }) {e : TypeId} {i : TI} {sz' by' : Nat} {z : List Value} (hts : tab t = some ⟨.slice e, sz', by', z⟩) (hti : tab e = some i)
  {b : Id} (hx : opd s x = .row b) {α : Type} {sz : Nat} {enc : α → List AV} {xs ys : List α} {bt : TypeId} (hb : s.bx b = some (.row sz enc xs bt)) (hsz : sz = i.size) (hsz1 : i.size = 1) (hy : (opd s y).Le (.sl sz enc ys)) (hyc : (opd s y).closed = true) (hone : ∀ y, BG (enc y) = true) (hel : ∀ y, (enc y).length = sz) :
  OpJ P n o s ⟨.v (.int .i64 (Nat.min ys.length xs.length)), [(b, .row sz enc (ys.take xs.length ++ xs.drop ys.length) bt)], [], [], [b]⟩ := by
 subst hsz;refine ⟨hd, fun C s' a w h β Q K hs hbs hal k hK => ?_⟩
 have same : ∀ z : Operand, (z = x ∨ z = y) → opd s' z = opd s z := by
  intro z hz
  cases z with
  | tmp t => exact hs t (by rw [hop]; simpa [Op.operands, Call.operands] using hz)
  | _ => rfl
 have hb' : s'.bx b = some (.row i.size enc xs bt) := (hbs b (by simp [Eff.ts])).trans hb;have hxr := AJ k x;rw [same x (.inl rfl), hx] at hxr;have hyr := AJ k y;rw [same y (.inr rfl)] at hyr;have hyr := hy _ _ _ (hyr.closed (β' := noB) _ _ hyc);simp only [Rep] at hxr hyr;obtain ⟨e1, A, m0, c0, e2⟩ := hxr;obtain ⟨B, cB, e4, hcB, hmB, hall⟩ := hyr;obtain ⟨v, vals, e3, ho, hvr, hlen, hnone⟩ := k.box b _ hb';rw [e1] at e3; injection e3 with e3;have hu := (ht _ _ hts).und;simp only at hu;obtain ⟨inf, zv, h1, h2, h3, h4, h5⟩ := (ht e i hti).info
 have his : (P.info? e).map (·.size) = some 1 := by rw [h1]; simp [h2, hsz1]
 rw [hsz1] at ho hlen hall hel
 -- what runs
 have key : ∃ w' vals', (Builtin.copy_ #[t, t2] o.type #[a.eval x, a.eval y]).run P w = .ok (goInt (Nat.min ys.length xs.length)) w' ∧ w'.os = w.os ∧ w'.tape = w.tape ∧ (w'.output = w.output ∧ w.drawn ≤ w'.drawn) ∧ w'.heap.size = w.heap.size ∧
   (∀ j, v.ownBlock ≠ some j → w'.heap[j]? = w.heap[j]?) ∧ w'.ownsRow 0 bt 1 v xs.length vals' ∧ RepL h noB ((ys.take xs.length ++ xs.drop ys.length).flatMap enc) vals' := by
  have hm0 : m0 = xs.length := by
   rw [← e3, e2] at ho;rcases ho.2 with ⟨q1, q2⟩ | ⟨g, cap, cur, q1, _⟩
   ·injection q1 with _ q1 _; omega
   ·injection q1 with _ q1 _
  rw [e2, e4, hm0];have hmn : Nat.min ys.length xs.length = min ys.length xs.length := rfl;by_cases hmin : Nat.min ys.length xs.length = 0
  ·refine ⟨w, vals, by rw [hmin]; exact run_copy_none w t t2 o.type e A B xs.length c0 ys.length cB hu his hmin, rfl, rfl, ⟨rfl, Nat.le_refl _⟩, rfl, fun _ _ => rfl, ho, ?_⟩
   have : ys.take xs.length ++ xs.drop ys.length = xs := by
    rcases (show ys.length = 0 ∨ xs.length = 0 by rw [hmn] at hmin; omega) with hmin | hmin
    ·have : ys = [] := List.eq_nil_of_length_eq_zero hmin;simp [this]
    ·have : xs = [] := List.eq_nil_of_length_eq_zero hmin;simp [this]
   rw [this]; exact hvr
  ·have hxp : 0 < xs.length := by rw [hmn] at hmin; omega
   have hyp : 0 < ys.length := by rw [hmn] at hmin; omega
   obtain ⟨adB, _, eB, _⟩ := hall 0 ys[0] (by simp [hyp]);subst eB
   obtain ⟨news, n1, n2, n3⟩ := sl_cells (h := h) (sz := 1) (enc := enc) (A := adB) (ys.take xs.length) 0 (fun i x hx => by
    rw [List.getElem?_take] at hx;split at hx
    ·obtain ⟨ad', us, e, q1, q2, q3⟩ := hall i x hx;exact ⟨ad', us, e, q1, q2, fun j u hu => by have := q3 j u hu; rwa [Nat.zero_add]⟩
    ·cases hx)
   have hnl : news.length = Nat.min ys.length xs.length := by
    rw [n2, List.length_take, Nat.mul_one, Nat.min_comm, hmn]
   have ho0 := ho;obtain ⟨hl1, ho⟩ := ho;rcases ho with ⟨_, q⟩ | ⟨g, cap, cur, q1, hb0, hg, hnc, hmx, hcs, htake⟩
   ·omega
   ·subst e3;rw [e2] at q1;injection q1 with q1 q2 q3;subst q1
    have hnl2 : news.length ≤ xs.length := by rw [hnl, hmn]; omega
    have hrun := run_copy_row (P := P) w t t2 o.type e g 0 xs.length c0 adB ys.length cB cur bt news hu his hg hnl (fun j u hu => by
     have := (n3 j u hu).cell k.evo.has
     rwa [Nat.zero_mul, Nat.zero_add] at this) (by omega) (flat_one hone _ news n1)
    refine ⟨w.setRow g (cur.toList.take 0 ++ news ++ cur.toList.drop (0 + news.length)).toArray, news ++ vals.drop news.length, by rw [← hnl]; exact hrun, rfl, rfl, ⟨rfl, Nat.le_refl _⟩, by simp, fun j hj => setRow_other w g j _ (fun e => hj (by rw [e2]; simp [Value.ownBlock, e])), ?_, ?_⟩
    ·rw [e2];refine ⟨by simp; omega, .inr ⟨g, cap, _, by rw [q3, hm0], hb0, setRow_heap w g cur _ bt _ hg, hnc, hmx, ?_, ?_⟩⟩
     ·simp only [List.take_zero, List.nil_append, Nat.zero_add, List.size_toArray, List.length_append, List.length_drop, Array.length_toList];omega
     ·simp only [List.take_zero, List.nil_append, Nat.zero_add, Nat.mul_one] at htake ⊢;rw [List.take_append, List.take_of_length_le (by omega), List.take_drop, show news.length + (xs.length - news.length) = xs.length from by omega, htake]
    ·rw [List.flatMap_append];refine n1.append ?_
     have hd2 : ∀ (l : List α) (us : List Value) (q : Nat), (∀ x ∈ l, (enc x).length = 1) → RepL h noB (l.flatMap enc) us → RepL h noB ((l.drop q).flatMap enc) (us.drop q) := by
      intro l
      induction l with
      | nil => intro us q _ hr; simp only [List.flatMap_nil, RepL] at hr; subst hr; simp [RepL]
      | cons x l ih =>
       intro us q hx hr
       cases q with
       | zero => simpa using hr
       | succ q =>
        rw [List.flatMap_cons] at hr;obtain ⟨r1, r2⟩ := hr.split;rw [hx x (by simp)] at r2;have := ih _ q (fun y hy => hx y (by simp [hy])) r2;rw [List.drop_drop] at this;rw [List.drop_succ_cons];rwa [show 1 + q = q + 1 from by omega] at this
     have := hd2 xs vals news.length hlen hvr;by_cases hc : ys.length ≤ xs.length
     ·rwa [show news.length = ys.length from by rw [hnl, hmn]; omega] at this ⊢
     ·rw [List.drop_of_length_le (by omega)];rw [List.drop_of_length_le (by rw [hnl, hmn]; omega)] at this;exact this
 obtain ⟨w', vals', hrun, p1, p2, p3, p4, p5, p6, p7⟩ := key
 have hexec : (execOp a.eval o).run P w = .ok (.value (goInt (Nat.min ys.length xs.length))) w' := by
  simp only [execOp, hop, resolve, invoke, builtin, Sem.run_bind, Sem.run_pure, Result.andThen, List.map_toArray, List.map_cons, List.map_nil];rw [show (Builtin.copy_ { toList := [t, t2] } o.type { toList := [a.eval x, a.eval y] }).run P w = .ok (goInt (Nat.min ys.length xs.length)) w' from hrun]
 unfold Oper.wp;rw [hexec];simp only [Oper.upon];refine hK _ _ h β ?_;have hbk := Ed ho;rcases Classical.em (∃ g, blk (β b) = some g) with hg | hg
 ·refine k.setbox hb' p1 p2 p3 p4 (fun j hj => p5 j (fun e => hj (by rw [e1, e3, hbk]; exact e))) ?_ hg o.dst hd (by simp only [Rep]; rfl) [b];refine ⟨v, vals', by rw [e1, e3], ?_, p7, ?_, hnone⟩
  ·have : (ys.take xs.length ++ xs.drop ys.length).length = xs.length := by simp; omega
   rw [this, hsz1]; exact p6
  ·intro x hx; rw [hsz1]; exact hel x
 ·have hxn : xs.length = 0 := by
   rcases ho.2 with ⟨_, q⟩ | ⟨g, cap, cur, q1, _⟩
   ·exact q
   ·exact absurd ⟨g, by rw [e1, e3, q1]; rfl⟩ hg
  have hxs : xs = [] := List.eq_nil_of_length_eq_zero hxn;subst hxs
  have hw : w' = w := by
   have hr2 : (Builtin.copy_ #[t, t2] o.type #[a.eval x, a.eval y]).run P w = .ok (goInt 0) w := by
    have hm0 : m0 = 0 := by
     rw [← e3, e2] at ho;rcases ho.2 with ⟨q1, q2⟩ | ⟨g, cap, cur, q1, _⟩
     ·injection q1 with _ q1 _
     ·injection q1 with _ q1 _
    rw [e2, e4, hm0];exact run_copy_none w t t2 o.type e A B 0 c0 ys.length cB hu his (by simp [Nat.min_def])
   rw [hr2] at hrun;injection hrun with _ hrun;exact hrun.symm
  subst hw;have hval := k.val o.dst hd (v := .v (.int .i64 (Nat.min ys.length 0))) (u := goInt (Nat.min ys.length 0)) (by simp only [Rep]; rfl) [b];refine ⟨hval.evo, hval.b0, hval.slot, fun id B hB => ?_, fun id id' B1 B2 h1 h2 => ?_, fun id B1 g h1 h2 => ?_, hval.dom, hval.size, hval.defers⟩
  all_goals simp only [Eff.app, delB, updB, List.length_nil, List.take_zero, List.drop_nil, List.append_nil] at *
  ·by_cases hid : id = b
   ·subst hid;simp only [Nat.beq_refl, Option.some.injEq] at hB;subst hB;exact k.box id _ hb'
   ·simp only [Ae hid] at hB;exact k.box id B hB
  ·intro hne g
   have hex : ∀ id B1, (match Nat.beq id b with | true => some (Bx.row i.size enc ([] : List α) bt) | false => s'.bx id) = some B1 → ∃ B0, s'.bx id = some B0 := by
    intro id B1 hh;by_cases hid : id = b
    ·subst hid; exact ⟨_, hb'⟩
    ·simp only [Ae hid] at hh; exact ⟨_, hh⟩
   obtain ⟨B3, h3⟩ := hex id B1 h1;obtain ⟨B4, h4⟩ := hex id' B2 h2;exact k.apart id id' B3 B4 h3 h4 hne g
  ·by_cases hid : id = b
   ·subst hid; exact k.own id _ g hb' h2
   ·simp only [Ae hid] at h1;exact k.own id B1 g h1 h2
theorem OpJ.litrow (ht : A3 P tab) {d : Tmp} (hdst : o.dst = some d) (hd : d < n) {t : TypeId} {len : Nat} {parts : List (Nat × Operand)} (hop : o.op = .buildSlice t len ⟨parts⟩) {e : TypeId} {i : TI} {sz by' : Nat} {z : List Value} (hts : tab t = some ⟨.slice e, sz, by', z⟩) (hti : tab e = some i)
  {cs : List AV} (hf : fillA (fun j => some (j * i.size, i.size)) (zeros (vL i.zero) len) (opPs s parts) = some cs) {α : Type} (enc : α → List AV) (xs : List α) (hcs : LeL cs (xs.flatMap enc)) (hlen : xs.length = len) (hel : ∀ x ∈ xs, (enc x).length = i.size) (hcl : A7 cs = true) (hsmall : len * i.size ≤ 16777216) (hm : len ≤ maxLen) :
  OpJ P n o s ⟨.row d, [(d, .row i.size enc xs e)], [], [d], []⟩ := by
 refine ⟨fun t ht => (by rw [hdst] at ht; injection ht with ht; subst ht; exact hd), fun C s' a w h β Q K hs hbs hal k hK => ?_⟩
 have hps : opPs s' parts = opPs s parts := D5 parts fun x hx => by
  cases x with
  | tmp t => exact hs t (by rw [hop]; simpa [Op.operands] using hx)
  | _ => rfl
 have hi := ht _ _ hti;have hu := (ht _ _ hts).und;simp only at hu;obtain ⟨inf, zv, h1, h2, h3, h4, h5⟩ := hi.info
 have hz : (zeroValue e).run P w = .ok zv w := by simp [zeroValue, typeInfo, h1, h4]
 have hzs : zv.cells.size = i.size := by rw [← Array.length_toList, h5, hi.zs]
 have hz0 : RepL h β (zeros (vL i.zero) len) (madeCells zv.cells (len * i.size)).toList := by
  rw [← hzs, made_flat, h5]; exact zeros_rep (DK _) len
 obtain ⟨cells', hc1, hc2⟩ := fillA_ok (h := h) (β := β) (place := fun j => some (j * i.size, i.size)) (opPs s' parts) (parts.map fun p => (p.1, a.eval p.2)) _ cs _ (by rw [(CC s' parts).1]; simp) (by rw [(CC s' parts).2]; have hq := Br k (parts.map (·.2)); rw [List.map_map] at hq ⊢; exact hq) hz0 (by rw [hps]; exact hf);have hsz := BK hi w
 have hrun : (execOp a.eval o).run P w = .ok (.value (.slice (some ⟨w.heap.size, 0, none⟩) len len)) (w.alloc (.cells cells' e)) := by
  simp only [execOp, hop, Instr.buildSlice, Sem.run_bind, run_underlying hu, Result.andThen, hsz];rw [if_neg (by omega)];by_cases h0 : len * i.size = 0
  ·have hm0 : (Array.range (len * i.size)).map (fun x => (#[] : Array Value)[x % (#[] : Array Value).size]!) = madeCells zv.cells (len * i.size) := by simp [h0, madeCells]
   simp only [h0, if_true, Sem.run_bind, Sem.run_pure, Result.andThen];rw [h0] at hm0 hc1;simp only [hm0, List.map_toArray, hc1, newRow, Sem.run_bind, Sem.run_pure, Result.andThen];rfl
  ·have hm0 : (Array.range (len * i.size)).map (fun x => zv.cells[x % zv.cells.size]!) = madeCells zv.cells (len * i.size) := rfl;simp only [h0, if_false, Sem.run_bind, hz, Sem.run_pure, Result.andThen];simp only [hm0, List.map_toArray, hc1, newRow, Sem.run_bind, Sem.run_pure, Result.andThen];rfl
 unfold Oper.wp;rw [hrun];simp only [Oper.upon];refine hK _ _ h (β.set d (.slice (some ⟨w.heap.size, 0, none⟩) len len)) ?_;have k1 := k.step (B7 k.evo.has (.cells cells' e))
 have hfl : ∀ (l : List α), (∀ x ∈ l, (enc x).length = i.size) → (l.flatMap enc).length = l.length * i.size := by
  intro l
  induction l with
  | nil => intro _; simp
  | cons x l ih => intro hx; rw [List.flatMap_cons, List.length_append, hx x (by simp), ih fun y hy => hx y (by simp [hy]), List.length_cons, Nat.add_mul]; omega
 have hrep := hcs _ _ _ (RepL.closed (β' := noB) cs _ hcl hc2)
 have hsize : cells'.size = len * i.size := by rw [← Array.length_toList, hrep.length, hfl xs hel, hlen]
 rw [hdst];refine k1.addbox (hal d (by simp)) ?_ ?_ (some d) (fun t ht => by injection ht with ht; subst ht; exact hd) ?_ []
 ·refine ⟨_, cells'.toList, Bt.set_same _ _ _, ⟨by rw [Array.length_toList, hsize, hlen], .inr ⟨w.heap.size, len, _, by rw [hlen], Nat.zero_le _, heap_alloc_new w _, by omega, hm, hsize, by rw [hlen, ← hsize, ← Array.length_toList]; exact List.take_length⟩⟩, hrep, hel, ?_⟩;intro g hg;simp [Value.ownBlock] at hg;subst hg;exact Bv k.evo.has (Nat.le_refl _)
 ·intro g hg;simp [blk] at hg;subst hg;refine ⟨fun id' B' hb' e => ?_, .inr k.evo.size⟩;have := (k.blk_lt hb' e).1;omega
 ·simp only [Rep]; exact ⟨Bt.set_same _ _ _, _, _, _, rfl⟩
variable {ops : Array Oper} {draw : Dr} {l : List Oper} {acc : List Eff} {K : Exit → St → Prop}
theorem Fl.cvU [f : Facts P tab] {src dst : TypeId} {x : Operand} (hop : o.op = .convert src dst x) {sz by' : Nat} {z : List Value} (hdt : tab dst = some ⟨.int .u64, sz, by', z⟩) {k' : IntKind} {m : Int} {i1 : TI} (hx : opd s x = .v (.int k' m)) (hsrc : tab src = some i1) (hg : gOk ops s o = true) (hd : dOk n o.dst = true)
  (r : Fl P n ops draw l ((Eff.mk (.v (.int .u64 (m % 18446744073709551616))) [] [] [] []).app o.dst s) (Eff.mk (.v (.int .u64 (m % 18446744073709551616))) [] [] [] [] :: acc) K) : Fl P n ops draw (o :: l) s acc K := by
 refine Ab hg (AN (tb := []) (AY hd) fun C s' a w h β ho _ k => ?_) r;have hxr := AJ k x;rw [ho x (by rw [hop]; simp [Op.operands]), hx] at hxr;simp only [Rep] at hxr
 have hs : (P.underlying src).isSome = true := by rw [(f.tabOk _ _ hsrc).und]; rfl
 have hd := (f.tabOk _ _ hdt).und;simp only at hd;exact ⟨.int .u64 (m % 18446744073709551616), by simp only [execOp, hop, hxr, Sem.run_bind, run_conv w hs hd, Result.andThen, Sem.run_pure, wrap_u (k := .u64) rfl, uMod], by simp only [Rep]⟩
theorem wrap_i64 (m : Int) : IntKind.i64.wrap m = (m + 9223372036854775808) % 18446744073709551616 - 9223372036854775808 := by
 unfold IntKind.wrap;have h1 : (2 : Int) ^ (IntKind.i64.bits - 1) = 9223372036854775808 := rfl;have h2 : (2 : Int) ^ IntKind.i64.bits = 18446744073709551616 := rfl;simp only [h1, h2, IntKind.signed, Bool.true_and, decide_eq_true_eq];split <;> omega
theorem Fl.cvS [f : Facts P tab] {src dst : TypeId} {x : Operand} (hop : o.op = .convert src dst x) {sz by' : Nat} {z : List Value} (hdt : tab dst = some ⟨.int .i64, sz, by', z⟩) {k' : IntKind} {m : Int} {i1 : TI} (hx : opd s x = .v (.int k' m)) (hsrc : tab src = some i1) (hg : gOk ops s o = true) (hd : dOk n o.dst = true)
  (r : Fl P n ops draw l ((Eff.mk (.v (.int .i64 ((m + 9223372036854775808) % 18446744073709551616 - 9223372036854775808))) [] [] [] []).app o.dst s) (Eff.mk (.v (.int .i64 ((m + 9223372036854775808) % 18446744073709551616 - 9223372036854775808))) [] [] [] [] :: acc) K) : Fl P n ops draw (o :: l) s acc K := by
 refine Ab hg (AN (tb := []) (AY hd) fun C s' a w h β ho _ k => ?_) r;have hxr := AJ k x;rw [ho x (by rw [hop]; simp [Op.operands]), hx] at hxr;simp only [Rep] at hxr
 have hs : (P.underlying src).isSome = true := by rw [(f.tabOk _ _ hsrc).und]; rfl
 have hd := (f.tabOk _ _ hdt).und;simp only at hd;exact ⟨_, by simp only [execOp, hop, hxr, Sem.run_bind, run_conv w hs hd, Result.andThen, Sem.run_pure, wrap_i64]; rfl, by simp only [Rep]⟩
theorem Fl.sumM [Facts P tab] {op : BinOp} {t t' : TypeId} {x y : Operand} (hop : o.op = .binOp op t x y t') {m m' c : Int} (hx : opd s x = .v (.int .u64 m)) (hy : opd s y = .v (.int .u64 m')) (hc : arithI op m m' = some c) (hg : gOk ops s o = true) (hd : dOk n o.dst = true)
  (r : Fl P n ops draw l ((Eff.mk (.v (.int .u64 (c % 18446744073709551616))) [] [] [] []).app o.dst s) (Eff.mk (.v (.int .u64 (c % 18446744073709551616))) [] [] [] [] :: acc) K) : Fl P n ops draw (o :: l) s acc K :=
 Ab hg (Eh (AY hd) hop hx hy rfl hc rfl) r
theorem Fl.mulW [Facts P tab] {t t' : TypeId} {x y : Operand} (hop : o.op = .binOp .mul t x y t') {m m' : Int} (hx : opd s x = .v (.int .u64 m)) (hy : opd s y = .v (.int .u64 m')) (hg : gOk ops s o = true) (hd : dOk n o.dst = true)
  (h0 : 0 ≤ m) (h1 : m < 4294967296) (h2 : 0 ≤ m') (h3 : m' < 4294967296)
  (r : 0 ≤ m * m' → m * m' ≤ 18446744065119617025 → Fl P n ops draw l ((Eff.mk (.v (.int .u64 (m * m'))) [] [] [] []).app o.dst s) (Eff.mk (.v (.int .u64 (m * m'))) [] [] [] [] :: acc) K) : Fl P n ops draw (o :: l) s acc K := by
 have h4 : 0 ≤ m * m' := Int.mul_nonneg h0 h2;have h5 : m * m' ≤ 4294967295 * 4294967295 := Int.mul_le_mul (by omega) (by omega) h2 (by omega);exact Ab hg (Cm (AY hd) hop hx hy rfl (c := m * m') rfl (by simp only [loK]; omega) (by simp only [hiK]; omega)) (r h4 (by omega))
theorem Fl.rldW [f : Facts P tab] {t : TypeId} {x : Operand} (hop : o.op = .load t x) {b : Id} {off : Nat} (hx : opd s x = .rptr b off) {sz : Nat} {enc : Int → List AV} {xs : List Int} {bt : TypeId} (hb : s.bx b = some (.row sz enc xs bt)) {i : TI} (hti : tab t = some i) (hg : gOk ops s o = true) (hd : dOk n o.dst = true)
  {j : Nat} (hj : off = j * sz) {v : Int → AV} (hv : ∀ x0, A6 (aggD i.desc) i.size (enc x0) = some (v x0)) (hvc : ∀ x0, (v x0).closed = true) (hlt : j < xs.length) (hw : WOk xs)
  (r : ∀ x0, xs[j]? = some x0 → 0 ≤ x0 → x0 < 4294967296 → Fl P n ops draw l ((Eff.mk (v x0) [] [] [] [b]).app o.dst s) (Eff.mk (v x0) [] [] [] [b] :: acc) K) : Fl P n ops draw (o :: l) s acc K :=
 Fl.rld hop hx hb hti hg hd hj hv hvc hlt fun x0 hx0 => r x0 hx0 (hw.get hx0).1 (hw.get hx0).2
theorem Fl.elK [f : Facts P tab] {t : TypeId} {x y : Operand} (hop : o.op = .indexAddr t x y) {α : Type} {sz : Nat} {enc : α → List AV} {xs : List α} (hx : opd s x = .sl sz enc xs) {k : IntKind} {m : Int} (hy : opd s y = .v (.int k m)) {e : TypeId} {i : TI} {sz' by' : Nat} {z : List Value} (hts : tab t = some ⟨.slice e, sz', by', z⟩) (hti : tab e = some i) (hsz : sz = i.size) (hg : gOk ops s o = true) (hd : dOk n o.dst = true)
  {e0 : α} (he : xs[m.toNat]? = some e0) (h0 : 0 ≤ m)
  (r : Fl P n ops draw l ((Eff.mk (.cptr (enc e0)) [] [] [] []).app o.dst s) (Eff.mk (.cptr (enc e0)) [] [] [] [] :: acc) K) : Fl P n ops draw (o :: l) s acc K := by
 subst hsz;exact Ab hg (OpJ.elem f.tabOk (AY hd) hop hts hti hx hy h0 he) r
theorem qK [f : Facts P tab] {t : TypeId} {x y : Operand} {α : Type} {sz : Nat} {enc : α → List AV} {xs : List α} {k : IntKind} {m : Int} {e : TypeId} {i : TI} {sz' by' : Nat} {z : List Value} {e0 : α} (r : Fl P n ops draw l ((Eff.mk (.cptr (enc e0)) [] [] [] []).app o.dst s) (Eff.mk (.cptr (enc e0)) [] [] [] [] :: acc) K) (hop : o.op = .indexAddr t x y := by exact rfl) (hx : opd s x = .sl sz enc xs := by exact rfl) (hy : opd s y = .v (.int k m) := by exact rfl) (hts : tab t = some ⟨.slice e, sz', by', z⟩ := by exact rfl) (hti : tab e = some i := by exact rfl) (hsz : sz = i.size := by exact rfl) (hg : gOk ops s o = true := by exact rfl) (hd : dOk n o.dst = true := by exact rfl) (he : xs[m.toNat]? = some e0 := by assumption) (h0 : 0 ≤ m := by omega) : Fl P n ops draw (o :: l) s acc K := Fl.elK hop hx hy hts hti hsz hg hd he h0 r
theorem Fl.copy [f : Facts P tab] {x y : Operand} {t t2 : TypeId} (hop : o.op = .call { callee := .builtin .copy, args := ⟨[x, y]⟩, argTypes := ⟨[t, t2]⟩ }) {b : Id} (hx : opd s x = .row b) (hg : gOk ops s o = true) (hd : dOk n o.dst = true) {e : TypeId} {i : TI} {sz' by' : Nat} {z : List Value} (hts : tab t = some ⟨.slice e, sz', by', z⟩) (hti : tab e = some i)
  {α : Type} {sz : Nat} {enc : α → List AV} {xs ys : List α} {bt : TypeId} (hb : s.bx b = some (.row sz enc xs bt)) (hsz : sz = i.size) (hsz1 : i.size = 1) (hyc : (opd s y).closed = true) (hone : ∀ y, BG (enc y) = true) (hel : ∀ y, (enc y).length = sz) (hy : (opd s y).Le (.sl sz enc ys))
  (r : Fl P n ops draw l ((Eff.mk (.v (.int .i64 (Nat.min ys.length xs.length))) [(b, .row sz enc (ys.take xs.length ++ xs.drop ys.length) bt)] [] [] [b]).app o.dst s) (Eff.mk (.v (.int .i64 (Nat.min ys.length xs.length))) [(b, .row sz enc (ys.take xs.length ++ xs.drop ys.length) bt)] [] [] [b] :: acc) K) (hJ : A4 draw.J (Eff.mk (.v (.int .i64 (Nat.min ys.length xs.length))) [(b, .row sz enc (ys.take xs.length ++ xs.drop ys.length) bt)] [] [] [b]) := by repeat' (first | exact True.intro | exact rfl | refine ⟨?_, ?_⟩ | fail)) : Fl P n ops draw (o :: l) s acc K :=
 Fl.op hg (OpJ.copy f.tabOk (AY hd) hop hts hti hx hb hsz hsz1 hy hyc hone hel) rfl hJ r
theorem DH [f : Facts P tab] {t : TypeId} {len : Nat} {parts : List (Nat × Operand)} (hop : o.op = .buildSlice t len ⟨parts⟩) (hg : gOk ops s o = true) {d : Tmp} (hdst : o.dst = some d) (hd : Nat.blt d n = true) {e : TypeId} {i : TI} {sz by' : Nat} {z : List Value} (hts : tab t = some ⟨.slice e, sz, by', z⟩) (hti : tab e = some i)
  (hn : s.al d = false) {α : Type} (enc : α → List AV) (xs : List α) {cs : List AV} (hf : fillA (fun j => some (j * i.size, i.size)) (zeros (vL i.zero) len) (opPs s parts) = some cs) (hcl : A7 cs = true) (hlen : Nat.beq xs.length len = true) (hsmall : Nat.ble (len * i.size) 16777216 = true) (hel : ∀ x ∈ xs, (enc x).length = i.size) (hcs : LeL cs (xs.flatMap enc))
  (r : Fl P n ops draw l ((Eff.mk (.row d) [(d, .row i.size enc xs e)] [] [d] []).app o.dst s) (Eff.mk (.row d) [(d, .row i.size enc xs e)] [] [d] [] :: acc) K) (hm : Nat.ble len 16777216 = true := by rfl) (hJ : A4 draw.J (Eff.mk (.row d) [(d, .row i.size enc xs e)] [] [d] []) := by repeat' (first | exact True.intro | exact rfl | refine ⟨?_, ?_⟩ | fail)) : Fl P n ops draw (o :: l) s acc K :=
 Fl.op hg (OpJ.litrow f.tabOk hdst (ltOf hd) hop hts hti hf enc xs hcs (Nat.eq_of_beq_eq_true hlen) hel hcl (Nat.le_of_ble_eq_true hsmall) (by have := Nat.le_of_ble_eq_true hm; simp only [maxLen]; omega)) (ET hn) hJ r
structure Stop (p : Prop) : Prop where
  out : p
theorem AE {I : List Id} {Q : Exit → St → Prop} {c d : Code} (h : AWP P n I c (AThen (fun s => Stop (AWP P n I d Q s)) Q) s) : AWP P n I (.seq c d) Q s :=
 AWP.seq (h.mono fun e s q => by cases e with
  | normal => exact q.out
  | _ => exact q)
structure JoinOk {G : Type} (n : Nat) (I : List Id) (J : G → Prop) (S : G → St) (s : St) : Prop where
  out : ∃ g, J g ∧ Ent n I s (S g)
theorem JoinOk.of {G : Type} {I : List Id} {J : G → Prop} {S : G → St} (g : G) (h1 : J g) (h2 : Ent n I s (S g)) : JoinOk n I J S s := ⟨g, h1, h2⟩
theorem Cb {I : List Id} {Q : Exit → St → Prop} {c d : Code} {G : Type} (J : G → Prop) (S : G → St) (h : AWP P n I c (AThen (JoinOk n I J S) Q) s) (k : ∀ g, J g → AWP P n I d Q (S g)) : AWP P n I (.seq c d) Q s :=
 AWP.seq (h.mono fun e s q => by cases e with
  | normal => obtain ⟨g, h1, h2⟩ := q.out; exact Am h2 (k g h1)
  | _ => exact q)
theorem p32 : (2 : Int) ^ (32 : Int).toNat = 4294967296 := rfl
theorem p63 : (2 : Int) ^ (63 : Int).toNat = 9223372036854775808 := rfl
theorem AWP.nilTest [f : Facts P tab] {I : List Id} {Q : Exit → St → Prop} {id : Nat} {o1 o2 : Oper} {d1 d2 : Tmp} {x : Operand} {t t' : TypeId} (h1 : o1.op = .move x) (g1 : o1.guard = none) (e1 : o1.dst = some d1) (l1 : Nat.blt d1 n = true)
  (h2 : o2.op = .binOp .eql t (.tmp d1) (.const (.slice none 0 0)) t') (g2 : o2.guard = none) (e2 : o2.dst = some d2) (l2 : Nat.blt d2 n = true) {e : TypeId} {sz' by' : Nat} {z : List Value} (hts : tab t = some ⟨.slice e, sz', by', z⟩) {α : Type} {sz : Nat} {enc : α → List AV} {xs : List α} (hx : opd s x = .sl sz enc xs)
  (h : ∀ b : Bool, (b = true → xs = []) → Q .normal ⟨putE (putE s.env (some d1) (.sl sz enc xs)) (some d2) (.v (.bool b)), s.bx, s.al⟩) : AWP P n I (.region id ⟨[o1, o2]⟩ false) Q s := by
 refine ⟨fun C a w hp β hi k => ?_⟩;refine wp_region ?_;have hr : List.range (Array.size ⟨[o1, o2]⟩) = [0, 1] := rfl;rw [hr]
 have hw1 : Region.wanted o1 (yielded ⟨[o1, o2]⟩ a.tmps) = true := by simp [Region.wanted, g1]
 simp only [wpOps, List.getElem?_toArray, List.getElem?_cons_zero, hw1, if_true];left
 have hv1 : Ao tab s o1.op = some (.sl sz enc xs) := by rw [h1]; simp only [Ao, hx]
 refine (OpJ.of_val f.tabOk (n := n) (s := s) (o := o1) (fun d hd => by rw [e1] at hd; injection hd with hd; subst hd; exact ltOf l1) hv1).2 C s a w hp β _ _ (fun _ _ => rfl) (fun _ _ => rfl) (fun _ hid => by cases hid) k fun a1 w1 hp1 β1 k1 => ?_
 have hw2 : Region.wanted o2 (yielded ⟨[o1, o2]⟩ a1.tmps) = true := by simp [Region.wanted, g2]
 simp only [List.getElem?_cons_succ, List.getElem?_cons_zero, hw2, if_true];left;have hs := k1.slot d1;simp only [e1, Eff.app, BM, Rep] at hs;obtain ⟨A, c, hA, _, _, hall⟩ := hs
 have hb : A.isNone = true → xs = [] := by
  intro hn
  cases xs with
  | nil => rfl
  | cons y ys =>
   obtain ⟨ad, us, e, _⟩ := hall 0 y (by simp);subst e; cases hn
 have hu := (f.tabOk _ _ hts).und;simp only at hu
 have hrun : (execOp a1.eval o2).run P w1 = .ok (.value (.bool A.isNone)) w1 := by
  have hg : (eqGuard .eql t (.tmp d1) (.const (.slice none 0 0)) (.slice A xs.length c) (.slice none 0 0)).run P w1 = .ok () w1 := by simp [eqGuard]
  have hev : a1.eval (.tmp d1) = .slice A xs.length c := hA
  have hb2 : (binOp .eql t (.slice A xs.length c) (.slice none 0 0)).run P w1 = .ok (.bool A.isNone) w1 := by
   simp only [binOp];simp [run_equal_slice_nil w1 t e A xs.length c hu]
  simp only [execOp, h2, hev, show a1.eval (.const (.slice none 0 0)) = .slice none 0 0 from rfl, Sem.run_bind, hg, Result.andThen, hb2, Sem.run_pure]
 unfold Oper.wp;rw [hrun];simp only [Oper.upon];have k2 := k1.val o2.dst (fun d hd => by rw [e2] at hd; injection hd with hd; subst hd; exact ltOf l2) (v := .v (.bool A.isNone)) (u := .bool A.isNone) (by simp only [Rep]) [];refine ⟨_, hp1, β1, k2, ?_⟩;have := h A.isNone hb;simpa only [e1, e2, Eff.app, updB, delB, newA] using this
end
end Go.AL
/- Rows that are given away: to a call; az a result. -/
namespace Go.AL
theorem AV.Le.int {k : IntKind} {a b : Int} (h : a = b) : (AV.v (.int k a)).Le (.v (.int k b)) := h ▸ AA _
theorem AV.Le.bool {a b : Bool} (h : a = b) : (AV.v (.bool a)).Le (.v (.bool b)) := h ▸ AA _
theorem AV.Le.sl {α : Type} {sz : Nat} {enc : α → List AV} {xs ys : List α} (h : xs = ys) : (AV.sl sz enc xs).Le (.sl sz enc ys) := h ▸ AA _
theorem Base.frozen {C : Cx} {n : Nat} {s : St} {a : Act} {w : World} {h : Hp} {β : Bt} (k : Base C n s a w h β) {b : Id} {α : Type} {sz : Nat} {enc : α → List AV} {xs : List α} {t : TypeId} (hb : s.bx b = some (.row sz enc xs t)) :
  ∃ h' v, β b = some v ∧ Rep h' noB (.sl sz enc xs) v ∧ h.le h' ∧ Base C n ⟨s.env, delB [b] s.bx, s.al⟩ a w h' β := by
 obtain ⟨v, vals, e1, ho, hr, hlen, hnone⟩ := k.box b _ hb
 have hbx : ∀ x B', delB [b] s.bx x = some B' → x ≠ b ∧ s.bx x = some B' := by
  intro x B' hx;simp only [delB] at hx;by_cases he : x = b
  ·subst he; simp at hx
  ·simp only [Ae he] at hx;exact ⟨he, hx⟩
 have key : ∃ h', h.le h' ∧ Has w h' ∧ (∀ g, h' g ≠ none → h g ≠ none ∨ v.ownBlock = some g) ∧ Rep h' noB (.sl sz enc xs) v := by
  rcases ho.2 with ⟨hv, hn⟩ | ⟨g, cap, cur, hv, _, hg, hnc, hmx, hcs, htake⟩
  ·have hx : xs = [] := List.eq_nil_of_length_eq_zero hn;subst hx;refine ⟨h, AZ h, k.evo.has, fun g hg => .inl hg, ?_⟩;rw [hv];exact AV.Le.nil sz enc h noB _ (by simp only [Rep])
  ·have hgn : h g = none := hnone g (by simp [hv, Value.ownBlock])
   have hle : h.le (h.set g cur) := fun b cs hb' => by
    by_cases he : b = g
    ·subst he; rw [hgn] at hb'; cases hb'
    ·rw [Hp.set_ne _ _ _ _ he]; exact hb'
   refine ⟨h.set g cur, hle, fun b cs hb' => ?_, fun b hb' => ?_, ?_⟩
   ·by_cases he : b = g
    ·subst he; rw [Hp.set_same] at hb'; injection hb' with hb'; subst hb'; exact ⟨t, (0, 0), hg⟩
    ·rw [Hp.set_ne _ _ _ _ he] at hb'; exact k.evo.has b cs hb'
   ·by_cases he : b = g
    ·subst he; exact .inr (by simp [hv, Value.ownBlock])
    ·rw [Hp.set_ne _ _ _ _ he] at hb'; exact .inl hb'
   ·subst hv;simp only [Rep];refine ⟨some ⟨g, 0, none⟩, cap, rfl, hnc, hmx, fun i x hx => ?_⟩;obtain ⟨hr1, hr2⟩ := flat_at xs vals i x hlen (hr.mono hle (AQ _)) hx;refine ⟨⟨g, 0, none⟩, _, rfl, by rw [hr1.length]; exact hlen x (List.mem_of_getElem? hx), hr1, fun j u hu => ?_⟩
    have hadd : (⟨g, 0, none⟩ : Addr).add (i * sz + j) = ⟨g, i * sz + j, none⟩ := by unfold Addr.add; split <;> simp_all
    rw [hadd];refine ⟨rfl, cur, Hp.set_same _ _ _, ?_⟩;rw [List.getElem?_take] at hu;split at hu
    ·rw [List.getElem?_drop, ← htake, List.getElem?_take] at hu;split at hu
     ·simpa using hu
     ·cases hu
    ·cases hu
 obtain ⟨h', hle, hhas, hfr, hrep⟩ := key
 have hown : ∀ g, v.ownBlock = some g → blk (β b) = some g := fun g hg => by rw [e1]; exact (Ed ho g).2 hg
 refine ⟨h', v, e1, hrep, hle, ⟨k.evo.os, k.evo.tape, k.evo.output, k.evo.size, k.evo.block, k.evo.le.trans hle, fun g hg => ?_, hhas⟩, k.b0, fun i => (k.slot i).mono hle (AQ β), fun x B0 hx => ?_, fun x y B1 B2 h1 h2 hne => ?_, fun x B1 g hx hg => ?_, k.dom, k.size, k.defers⟩
 ·rcases hfr g hg with h1 | h1
  ·exact k.evo.fresh g h1
  ·rcases k.own b _ g hb (hown g h1) with h2 | h2
   ·exact .inr (.inr h2)
   ·exact .inr (.inl h2)
 ·obtain ⟨hne, h1⟩ := hbx x B0 hx
  have hn' : ∀ g, blk (β x) = some g → h' g = none := by
   intro g hg
   cases hh : h' g with
   | none => rfl
   | some cs =>
    rcases hfr g (by simp [hh]) with h2 | h2
    ·exact absurd (k.blk_lt h1 hg).2 h2
    ·exact absurd (hown g h2) (k.apart x b B0 _ h1 hb hne g hg)
  exact (k.box x B0 h1).keep (w' := w) hle (AQ β) fun g hg => ⟨rfl, hn' g hg⟩
 ·exact k.apart x y B1 B2 (hbx x B1 h1).2 (hbx y B2 h2).2 hne
 ·exact k.own x B1 g (hbx x B1 hx).2 hg
section
variable {P : Program} {tab : Tab} {n : Nat} {o : Oper} {s : St}
theorem OpJ.callF (hd : ∀ d, o.dst = some d → d < n) {f : FuncId} {args : List Operand} {ts : Array TypeId} (hop : o.op = .call { callee := .value (.func f), args := ⟨args⟩, argTypes := ts }) {b : Id} {α : Type} {sz : Nat} {enc : α → List AV} {xs : List α} {t : TypeId} (hb : s.bx b = some (.row sz enc xs t))
  {az : List AV} (hle : LeL (fzL b (.sl sz enc xs) (opds s args)) az) (hcl : A7 (fzL b (.sl sz enc xs) (opds s args)) = true) {r : AV} (hf : PureFn P f az r) : OpJ P n o s ⟨r, [], [b], [], [b]⟩ := by
 refine ⟨hd, fun C s' a w h β Q K hs hbs _ k hK => ?_⟩
 have hps : opds s' args = opds s args := Cg args fun x hx => by
  cases x with
  | tmp t => exact hs t (by rw [hop]; simp [Op.operands, Call.operands, hx])
  | _ => rfl
 have hb' : s'.bx b = some (.row sz enc xs t) := (hbs b (by simp [Eff.ts])).trans hb;obtain ⟨h1, v, e1, hv, hle1, k1⟩ := k.frozen hb';have hr := Br k args;rw [hps] at hr;have hr := RepL.fz hle1 (v := .sl sz enc xs) (b := b) (fun u hu _ => by rw [e1] at hu; injection hu with hu; subst hu; exact hv.mono (AZ _) (ES β)) _ _ hr
 have hrun : (execOp a.eval o).run P w = .ok (.enter f (args.map a.eval).toArray) w := by
  simp only [execOp, hop, resolve, Deferred.ofValue, Act.eval, Sem.run_bind, Sem.run_pure, Result.andThen, invoke, List.map_toArray, Array.append_empty];have := Bh hf.fn (#[] ++ (args.map a.eval).toArray) w;simpa using this
 unfold Oper.wp;rw [hrun];simp only [Oper.upon];refine (hf.calls w h1 _ k1.evo.has (hle _ _ _ (RepL.closed (β' := noB) _ _ hcl hr))).mono fun e w' ⟨u, h', he, hev, hrep⟩ => ?_;subst he;have k2 := (k1.step hev).val o.dst hd (hrep.mono (AZ h') (ES β)) [];exact hK _ _ h' β k2
variable {ops : Array Oper} {draw : Dr} {l : List Oper} {acc : List Eff} {K : Exit → St → Prop}
theorem Fl.callF {f : FuncId} {args : List Operand} {ts : Array TypeId} (hop : o.op = .call { callee := .value (.func f), args := ⟨args⟩, argTypes := ts }) (b : Id) {α : Type} {sz : Nat} {enc : α → List AV} {xs : List α} {t : TypeId} (hb : s.bx b = some (.row sz enc xs t)) {az : List AV} {r : AV} (hf : PureFn P f az r) (hg : gOk ops s o = true) (hd : dOk n o.dst = true)
  (hcl : A7 (fzL b (.sl sz enc xs) (opds s args)) = true) (hle : LeL (fzL b (.sl sz enc xs) (opds s args)) az)
  (k : Fl P n ops draw l ((Eff.mk r [] [b] [] [b]).app o.dst s) (Eff.mk r [] [b] [] [b] :: acc) K) (hJ : A4 draw.J (Eff.mk r [] [b] [] [b]) := by repeat' (first | exact True.intro | exact rfl | refine ⟨?_, ?_⟩ | fail)) : Fl P n ops draw (o :: l) s acc K :=
 Fl.op hg (OpJ.callF (AY hd) hop hb hle hcl hf) rfl hJ k
end
end Go.AL
/- Contracts with boxes; contracts that panic; calls of function values. -/
namespace Go.AL
inductive Res : Type 1
  | ret (r : AV)
  | thr (chain : List PanicEntry)
def idsB (bxs : List (Id × Bx)) : List Id := bxs.map (·.1)
structure BoxesAt (w : World) (h : Hp) (β : Bt) (bxs : List (Id × Bx)) : Prop where
  box : ∀ id B, Al bxs id = some B → BoxAt w h β id B
  apart : ∀ id id' B B', Al bxs id = some B → Al bxs id' = some B' → id ≠ id' → ∀ g, blk (β id) = some g → blk (β id') ≠ some g
def Aj (bxs : List (Id × Bx)) (β : Bt) (g : Nat) : Prop := ∃ id B, Al bxs id = some B ∧ blk (β id) = some g
structure IoFn (P : Program) (f : FuncId) (args : List AV) (bxs : List (Id × Bx)) (res : Res) (bxs' : List (Id × Bx)) : Prop where
  fn : ∃ fn, P.funcs[f]? = some fn ∧ (fn.name == "runtime.NumGoroutine") = false ∧ fn.body.isNone = false
  calls : ∀ (w : World) (h : Hp) (β : Bt) (us : Array Value), Has w h → BoxesAt w h β bxs → (∀ id, id ∉ idsB bxs → β id = none) → RepL h β args us.toList →
    Calls P f us w fun e w' => ∃ h' β', β.le β' ∧ Evo (Aj bxs β) w h w' h' ∧ match res with
      | .ret r => ∃ u, e = .returned u ∧ BoxesAt w' h' β' bxs' ∧ Rep h' β' r u ∧ ∀ id g, id ∉ idsB bxs → blk (β' id) = some g → w.heap.size ≤ g
      | .thr chain => e = .panicked chain
mutual
theorem Rep.renTo {h : Hp} {σ : Id → Id} {ids : List Id} : ∀ {β β' : Bt} (_ : ∀ id v, id ∈ ids → β id = some v → β' (σ id) = some v) (c : AV) (u : Value), c.within ids = true → Rep h β c u → Rep h β' (c.ren σ) u
 | _, _, _, .v x, u, _, k => by simpa [Rep, AV.ren] using k
 | _, _, hb, .agg cs, u, hc, k => by
  simp only [Rep, AV.ren] at k ⊢;simp only [AV.within] at hc;obtain ⟨us, rfl, k⟩ := k;exact ⟨us, rfl, De hb cs _ hc k⟩
 | _, _, hb, .tup cs, u, hc, k => by
  simp only [Rep, AV.ren] at k ⊢;simp only [AV.within] at hc;obtain ⟨us, rfl, k⟩ := k;exact ⟨us, rfl, De hb cs _ hc k⟩
 | _, _, _, .sl sz enc xs, u, _, k => by simp only [Rep, AV.ren] at k ⊢; exact k
 | _, _, _, .cptr cs, u, _, k => by simp only [Rep, AV.ren] at k ⊢; exact k
 | _, _, hb, .ptr b off, u, hc, k => by
  simp only [Rep, AV.ren] at k ⊢;simp only [AV.within, AX] at hc;obtain ⟨g, e, rfl⟩ := k;exact ⟨g, hb _ _ hc e, rfl⟩
 | _, _, hb, .row b, u, hc, k => by
  simp only [Rep, AV.ren] at k ⊢;simp only [AV.within, AX] at hc;exact ⟨hb _ _ hc k.1, k.2⟩
 | _, _, hb, .rptr b i, u, hc, k => by
  simp only [Rep, AV.ren] at k ⊢;simp only [AV.within, AX] at hc;obtain ⟨g, n, c, e, rfl⟩ := k;exact ⟨g, n, c, hb _ _ hc e, rfl⟩
 | _, _, hb, .mp b, u, hc, k => by
  simp only [Rep, AV.ren] at k ⊢;simp only [AV.within, AX] at hc;obtain ⟨g, e, rfl⟩ := k;exact ⟨g, hb _ _ hc e, rfl⟩
 | _, _, hb, .sub b off len, u, hc, k => by
  simp only [Rep, AV.ren] at k ⊢;simp only [AV.within, AX] at hc;obtain ⟨g, n, c, c', e, rfl⟩ := k;exact ⟨g, n, c, c', hb _ _ hc e, rfl⟩
 | _, _, hb, .fn f caps, u, hc, k => by
  simp only [Rep, AV.ren] at k ⊢;simp only [AV.within] at hc;obtain ⟨us, rfl, k⟩ := k;exact ⟨us, rfl, De hb caps _ hc k⟩
 | _, _, _, .any, u, _, _ => by simp only [Rep, AV.ren]
theorem De {h : Hp} {σ : Id → Id} {ids : List Id} : ∀ {β β' : Bt} (_ : ∀ id v, id ∈ ids → β id = some v → β' (σ id) = some v) (cs : List AV) (us : List Value), A2 ids cs = true → RepL h β cs us → RepL h β' (renL σ cs) us
 | _, _, _, [], us, _, k => by simpa [RepL, renL] using k
 | _, _, hb, c :: cs, us, hc, k => by
  simp only [RepL, renL] at k ⊢;simp only [A2, Bool.and_eq_true] at hc;obtain ⟨u, r, rfl, k1, k2⟩ := k;exact ⟨u, r, rfl, Rep.renTo hb c u hc.1 k1, De hb cs r hc.2 k2⟩
end
def Bx.ren (σ : Id → Id) : Bx → Bx
  | .cells cs t => .cells (renL σ cs) t
  | .row sz enc xs t => .row sz enc xs t
  | .map ek av xs c => .map ek av xs c
  | .iter m a l c => .iter (σ m) a l c
theorem BoxAt.renTo {w : World} {h : Hp} {β β' : Bt} {σ : Id → Id} {ids : List Id} (hb : ∀ id v, id ∈ ids → β id = some v → β' (σ id) = some v) {id : Id} {B : Bx} (hid : id ∈ ids) (hw : B.within ids = true) (k : BoxAt w h β id B) : BoxAt w h β' (σ id) (B.ren σ) := by
 cases B with
 | cells cs t =>
  obtain ⟨g, us, e, hh, hr, hn⟩ := k;exact ⟨g, us, hb _ _ hid e, hh, De hb cs _ hw hr, hn⟩
 | row sz enc xs t =>
  obtain ⟨v, vals, e, r⟩ := k;exact ⟨v, vals, hb _ _ hid e, r⟩
 | map ek av xs c =>
  obtain ⟨g, es, e, r⟩ := k;exact ⟨g, es, hb _ _ hid e, r⟩
 | iter m a l c =>
  obtain ⟨r, g, e, em, hr⟩ := k;simp only [Bx.within, AX] at hw;exact ⟨r, g, hb _ _ hid e, hb _ _ hw em, hr⟩
theorem boxes_of {w : World} {h : Hp} {β β' : Bt} {σ : Id → Id} {ids : List Id} {s : St} {bxs : List (Id × Bx)} (hβ : ∀ id v, id ∈ ids → β (σ id) = some v → β' id = some v) (hβ2 : ∀ id v, β' id = some v → β (σ id) = some v) (hsub : ∀ id, id ∈ idsB bxs → id ∈ ids) (hb : Bl σ ids s bxs) (hd : Ac σ (idsB bxs) = true)
  (hbox : ∀ id B, s.bx id = some B → BoxAt w h β id B) (hap : ∀ id id' B B', s.bx id = some B → s.bx id' = some B' → id ≠ id' → ∀ g, blk (β id) = some g → blk (β id') ≠ some g) : BoxesAt w h β' bxs := by
 refine ⟨fun b B hB => ?_, fun x y B1 B2 h1 h2 hne g e1 e2 => ?_⟩
 ·obtain ⟨⟨B0, h1, h2⟩, h3, h4⟩ := Ar bxs hb b B hB;have hbx := hbox _ _ h1
  cases h2 with
  | @cells cs cs' t hle =>
   obtain ⟨g, us, e, hh, hr, hn⟩ := hbx;exact ⟨g, us, hβ b _ (hsub b h4) e, hh, RepL.within hβ cs' _ h3 (hle _ _ _ hr), hn⟩
  | @row α sz enc xs ys t hxs =>
   subst hxs;obtain ⟨v, vals, e, r⟩ := hbx;exact ⟨v, vals, hβ b _ (hsub b h4) e, r⟩
  | @map κ α ek av xs ys c c' hxs hc =>
   subst hxs hc;obtain ⟨g, es, e, r⟩ := hbx;exact ⟨g, es, hβ b _ (hsub b h4) e, r⟩
  | @iter m m' a a' l l' c c' hm ha hl hb' =>
   subst hm ha hl hb';obtain ⟨r, g, e, em, hr⟩ := hbx;simp only [Bx.within, AX] at h3;exact ⟨r, g, hβ b _ (hsub b h4) e, hβ m' _ h3 em, hr⟩
 ·obtain ⟨⟨B3, h3, _⟩, _, m1⟩ := Ar bxs hb x B1 h1;obtain ⟨⟨B4, h4, _⟩, _, m2⟩ := Ar bxs hb y B2 h2
  have hb1 : ∀ id g, blk (β' id) = some g → blk (β (σ id)) = some g := by
   intro id g hg
   cases hq : β' id with
   | none => rw [hq] at hg; simp [blk] at hg
   | some v => rw [hβ2 id v hq, ← hq]; exact hg
  exact hap _ _ B3 B4 h3 h4 (Cs _ hd x y m1 m2 hne) g (hb1 x g e1) (hb1 y g e2)
theorem BP : ∀ (l : List (Id × Bx)) (i : Id) (B : Bx), Al l i = some B → i ∈ idsB l
 | [], i, B, h => by simp [Al] at h
 | (j, v) :: r, i, B, h => by
  by_cases hi : i = j
  ·subst hi; simp [idsB]
  ·simp only [Al, Ae hi] at h;have := BP r i B h;simp only [idsB, List.map_cons, List.mem_cons] at this ⊢;exact .inr this
theorem An : ∀ (l : List (Id × Bx)) (i : Id), i ∈ idsB l → ∃ B, Al l i = some B
 | [], i, h => by simp [idsB] at h
 | (j, v) :: r, i, h => by
  by_cases hi : i = j
  ·subst hi; exact ⟨v, by simp [Al]⟩
  ·simp only [idsB, List.map_cons, List.mem_cons] at h;obtain ⟨B, hB⟩ := An r i (h.resolve_left hi);exact ⟨B, by simp only [Al, Ae hi]; exact hB⟩
structure RetIo (n : Nat) (I : List Id) (tab : Tab) (rs : List ResultVar) (r : AV) (bxs' : List (Id × Bx)) (s : St) : Prop where
  out : ∃ (σ : List (Id × Id)) (s' : St) (r' : AV), Ent n I s s' ∧ resA tab s' rs = some r' ∧ r'.Le (r.ren (renI σ)) ∧ r.within (idsB bxs') = true ∧ Bl (renI σ) (idsB bxs') s' bxs' ∧ Ac (renI σ) (idsB bxs') = true ∧ (I.all fun id => Nat.beq (renI σ id) id) = true
def RetX (n : Nat) (I : List Id) (tab : Tab) (rs : List ResultVar) (res : Res) (bxs' : List (Id × Bx)) : Exit → St → Prop
  | .normal, s => match res with | .ret r => RetIo n I tab rs r bxs' s | .thr _ => False
  | .ret, s => match res with | .ret r => RetIo n I tab rs r bxs' s | .thr _ => False
  | .panic c, _ => match res with | .ret _ => False | .thr chain => c = chain
  | _, _ => False
def BQ (args : List AV) (bxs : List (Id × Bx)) : St := ⟨initE args, Al bxs, fun id => memI (idsB bxs) id⟩
theorem D8 {h : Hp} {β : Bt} : ∀ (az : List AV) (vs : List Value) (i : Nat) (v : Value), RepL h β az vs → vs[i]? = some v → Rep h β (initE az i) v
 | [], vs, i, v, hr, hv => by simp only [RepL] at hr; subst hr; simp at hv
 | a :: az, vs, i, v, hr, hv => by
  simp only [RepL] at hr;obtain ⟨u, r', rfl, h1, h2⟩ := hr
  cases i with
  | zero => simp at hv; subst hv; exact h1
  | succ i => exact D8 az r' i v h2 (by simpa using hv)
theorem D9 : ∀ (az : List AV) (i : Nat), az.length ≤ i → initE az i = .any
 | [], i, _ => rfl
 | a :: az, i, hi => by
  cases i with
  | zero => simp at hi
  | succ i => exact D9 az i (by simpa using hi)
section
variable {P : Program} {tab : Tab} {n : Nat}
theorem RetIo.fin [f : Facts P tab] {fn : Func} {bxs bxs' : List (Id × Bx)} {β : Bt} {w w' : World} {hp h' : Hp} {β' : Bt} {a' : Act} {s' : St} (hsub : ((idsB bxs).all fun id => memI (idsB bxs') id) = true) (hini : IniOk ⟨w, hp, β, Aj bxs β, []⟩ (idsB bxs)) (b : Base ⟨w, hp, β, Aj bxs β, []⟩ n s' a' w' h' β') : ∀ r, RetIo n (idsB bxs) tab fn.results.toList r bxs' s' → a'.defers = [] ∧ ∃ v, (results fn a'.tmps).run P w' = .ok v w' ∧ ∃ h' β', β.le β' ∧ Evo (Aj bxs β) w hp w' h' ∧ ∃ u, Ending.returned v = .returned u ∧ BoxesAt w' h' β' bxs' ∧ Rep h' β' r u ∧ ∀ id g, id ∉ idsB bxs → blk (β' id) = some g → w.heap.size ≤ g := by
 intro r hq;obtain ⟨σ, s2, r', hent, h1, h2, h3, h4, h5, h6⟩ := hq.out;obtain ⟨h', β', b⟩ := hent _ _ _ _ _ hini b;obtain ⟨v, hv1, hv2⟩ := EP (P := P) b h1;refine ⟨b.defers, v, hv1, h', fun id => match memI (idsB bxs') id with | true => β' (renI σ id) | false => none, ?_, b.evo, v, rfl, ?_, ?_, ?_⟩
 ·intro id u hu;have hm : id ∈ idsB bxs := hini id (by simp [hu]);rw [List.all_eq_true] at hsub h6;show (match memI (idsB bxs') id with | true => β' (renI σ id) | false => none) = some u;rw [hsub id hm, Nat.eq_of_beq_eq_true (h6 id hm)];exact b.b0 _ _ hu
 ·refine boxes_of (β := β') (σ := renI σ) (ids := idsB bxs') (s := s2) (fun id v hm hv => ?_) (fun id v hv => ?_) (fun _ h => h) h4 h5 b.box b.apart
  ·simp only [(AX _ _).2 hm]; exact hv
  ·have hv : (match memI (idsB bxs') id with | true => β' (renI σ id) | false => none) = some v := hv;split at hv
   ·exact hv
   ·cases hv
 ·exact Rep.within (fun id v hm hv => by simp only [(AX _ _).2 hm]; exact hv) _ _ h3 (h2 _ _ _ hv2)
 ·intro id g hid hg;have hg : blk (match memI (idsB bxs') id with | true => β' (renI σ id) | false => none) = some g := hg;split at hg
  ·rename_i hm;obtain ⟨B, hB⟩ := An bxs' id ((AX _ _).1 hm);obtain ⟨⟨B0, hB0, _⟩, _, _⟩ := Ar bxs' h4 id B hB;rcases b.own _ B0 g hB0 hg with hM | hM
   ·exfalso;obtain ⟨id0, B1, q1, q2⟩ := hM;have hm0 := BP bxs id0 B1 q1;rw [List.all_eq_true] at hsub h6;obtain ⟨B2, hB2⟩ := An bxs' id0 ((AX _ _).1 (hsub id0 hm0));obtain ⟨⟨B3, hB3, _⟩, _, _⟩ := Ar bxs' h4 id0 B2 hB2;have hne : id ≠ id0 := fun e => hid (e ▸ hm0);have hd := Cs _ h5 id id0 ((AX _ _).1 hm) ((AX _ _).1 (hsub id0 hm0)) hne;refine b.apart _ _ _ _ hB0 hB3 hd g hg ?_;rw [Nat.eq_of_beq_eq_true (h6 id0 hm0)]
    cases hq : β id0 with
    | none => rw [hq] at q2; simp [blk] at q2
    | some v => rw [b.b0 _ _ hq, ← hq]; exact q2
   ·exact hM
  ·simp [blk] at hg
theorem AG [f : Facts P tab] {k : FuncId} {fn : Func} {c : Code} {args : List AV} {bxs bxs' : List (Id × Bx)} {res : Res} (hf : P.funcs[k]? = some fn) (hb : fn.body = some c) (hn : fn.ntmps = n) (hname : (fn.name == "runtime.NumGoroutine") = false) (hl : Nat.ble args.length n = true) (hsub : ((idsB bxs).all fun id => memI (idsB bxs') id) = true)
  (h : AWP P n (idsB bxs) c (RetX n (idsB bxs) tab fn.results.toList res bxs') (BQ args bxs)) : IoFn P k args bxs res bxs' := by
 have hl := Nat.le_of_ble_eq_true hl;refine ⟨⟨fn, hf, hname, by rw [hb]; rfl⟩, fun w hp β us hw hbx hβn hr => ?_⟩;refine calls_of_wp hf hb ?_
 have hus : us.size = args.length := by rw [← Array.length_toList]; exact hr.length
 have hbase : Base ⟨w, hp, β, Aj bxs β, []⟩ n (BQ args bxs) { tmps := us ++ Array.replicate (fn.ntmps - us.size) undef, defers := [] } w hp β := by
  refine ⟨Evo.refl _ hw, AQ _, fun i => ?_, hbx.box, hbx.apart, fun id B g hB hg => .inl ⟨id, B, hB, hg⟩, fun id hid => hβn id (fun hm => by rw [← AX] at hm; simp only [BQ] at hid; rw [hm] at hid; cases hid), by simp; omega, rfl⟩;simp only [BQ];by_cases hi : i < us.size
  ·have hget : (us ++ Array.replicate (fn.ntmps - us.size) undef).getD i undef = us[i] := by
    simp [Array.getD_eq_getD_getElem?, Array.getElem?_append, hi]
   rw [hget];exact D8 args us.toList i _ hr (by simp [hi])
  ·rw [D9 args i (by omega)];simp only [Rep]
 have hini : IniOk ⟨w, hp, β, Aj bxs β, []⟩ (idsB bxs) := fun id hid => by
  rcases Classical.em (id ∈ idsB bxs) with hm | hm
  ·exact hm
  ·exact absurd (hβn id hm) hid
 refine wp_mono (h.out ⟨w, hp, β, Aj bxs β, []⟩ _ w hp β hini hbase) fun e a' w' ⟨s', h', β', b, q⟩ => ?_;have fin := RetIo.fin (f := f) (fn := fn) hsub hini b
 cases e with
 | normal =>
  cases res with
  | ret r => exact fin r q
  | thr _ => exact q.elim
 | ret =>
  cases res with
  | ret r => exact fin r q
  | thr _ => exact q.elim
 | panic c =>
  cases res with
  | ret r => exact q.elim
  | thr chain =>
   have q : c = chain := q;exact ⟨b.defers, h', β', b.b0, b.evo, by rw [q]⟩
 | _ => exact q.elim
end
end Go.AL
/- Calls by contracts with boxes. -/
namespace Go.AL
def renB (σ : Id → Id) : List (Id × Bx) → List (Id × Bx)
  | [] => []
  | (i, B) :: r => (σ i, B.ren σ) :: renB σ r
def newB (bxs : List (Id × Bx)) (σ : Id → Id) : List (Id × Bx) → List Id
  | [] => []
  | (i, _) :: r => match memI (idsB bxs) i with | true => newB bxs σ r | false => σ i :: newB bxs σ r
def C5 (σ : Id → Id) : List (Id × Bx) → Id → Option Id
  | [], _ => none
  | (i, _) :: r, j => match Nat.beq j (σ i) with | true => some i | false => C5 σ r j
theorem Ck (σ : Id → Id) : ∀ (l : List (Id × Bx)) (j i : Id), C5 σ l j = some i → σ i = j ∧ i ∈ idsB l
 | [], _, _, h => by simp [C5] at h
 | (k, B) :: r, j, i, h => by
  simp only [C5] at h
  cases hb : Nat.beq j (σ k) with
  | true => rw [hb] at h; injection h with h; subst h; exact ⟨(Nat.eq_of_beq_eq_true hb).symm, by simp [idsB]⟩
  | false =>
   rw [hb] at h;obtain ⟨h1, h2⟩ := Ck σ r j i h;exact ⟨h1, by simp only [idsB, List.map_cons, List.mem_cons] at h2 ⊢; exact .inr h2⟩
theorem findB_none (σ : Id → Id) : ∀ (l : List (Id × Bx)) (j : Id), C5 σ l j = none → ∀ i ∈ idsB l, σ i ≠ j
 | [], _, _, i, h => by simp [idsB] at h
 | (k, B) :: r, j, h, i, hi => by
  simp only [C5] at h
  cases hb : Nat.beq j (σ k) with
  | true => rw [hb] at h; cases h
  | false =>
   rw [hb] at h;simp only [idsB, List.map_cons, List.mem_cons] at hi;rcases hi with rfl | hi
   ·intro e; rw [e] at hb; simp at hb
   ·exact findB_none σ r j h i hi
theorem findB_of (σ : Id → Id) (l : List (Id × Bx)) (hd : Ac σ (idsB l) = true) (i : Id) (hi : i ∈ idsB l) : C5 σ l (σ i) = some i := by
 cases hf : C5 σ l (σ i) with
 | none => exact absurd rfl (findB_none σ l _ hf i hi)
 | some k =>
  obtain ⟨h1, h2⟩ := Ck σ l _ k hf;rcases Classical.em (k = i) with h | h
  ·rw [h]
  ·exact absurd h1 (Cs _ hd k i h2 hi h)
theorem updB_renB (σ : Id → Id) (bx : Id → Option Bx) : ∀ (l : List (Id × Bx)), Ac σ (idsB l) = true → ∀ j, (∃ id B, Al l id = some B ∧ σ id = j ∧ updB (renB σ l) bx j = some (B.ren σ)) ∨ ((∀ id ∈ idsB l, σ id ≠ j) ∧ updB (renB σ l) bx j = bx j)
 | [], _, j => .inr ⟨fun id h => by simp [idsB] at h, rfl⟩
 | (i, B) :: r, hd, j => by
  by_cases hj : j = σ i
  ·subst hj;exact .inl ⟨i, B, by simp [Al], rfl, by simp [renB, updB]⟩
  ·have hd' : Ac σ (idsB r) = true := by
    simp only [idsB, List.map_cons, Ac, Bool.and_eq_true] at hd;exact hd.2
   have hu : updB (renB σ ((i, B) :: r)) bx j = updB (renB σ r) bx j := by simp only [renB, updB, Ae hj]
   rcases updB_renB σ bx r hd' j with ⟨id, B', h1, h2, h3⟩ | ⟨h1, h2⟩
   ·refine .inl ⟨id, B', ?_, h2, by rw [hu]; exact h3⟩;have : id ≠ i := fun e => hj (by rw [← e]; exact h2.symm);simp only [Al, Ae this]; exact h1
   ·refine .inr ⟨fun id hid => ?_, by rw [hu]; exact h2⟩;simp only [idsB, List.map_cons, List.mem_cons] at hid;rcases hid with rfl | hid
    ·exact fun e => hj e.symm
    ·exact h1 id hid
theorem delB_some : ∀ (l : List Id) (bx : Id → Option Bx) (j : Id) (B : Bx), delB l bx j = some B → bx j = some B ∧ j ∉ l
 | [], _, _, _, h => ⟨h, by simp⟩
 | x :: l, bx, j, B, h => by
  simp only [delB] at h;by_cases hj : j = x
  ·subst hj; simp at h
  ·simp only [Ae hj] at h;obtain ⟨h1, h2⟩ := delB_some l bx j B h;exact ⟨h1, by simp [hj, h2]⟩
theorem Cq (bxs : List (Id × Bx)) (σ : Id → Id) : ∀ (l : List (Id × Bx)) (j : Id), j ∈ newB bxs σ l ↔ ∃ i ∈ idsB l, i ∉ idsB bxs ∧ σ i = j
 | [], j => by simp [newB, idsB]
 | (i, B) :: r, j => by
  simp only [newB]
  cases hm : memI (idsB bxs) i with
  | true =>
   simp only;rw [Cq bxs σ r j];constructor
   ·rintro ⟨k, h1, h2⟩; exact ⟨k, by simp only [idsB, List.map_cons, List.mem_cons] at h1 ⊢; exact .inr h1, h2⟩
   ·rintro ⟨k, h1, h2, h3⟩;simp only [idsB, List.map_cons, List.mem_cons] at h1;rcases h1 with rfl | h1
    ·exact absurd ((AX _ _).1 hm) h2
    ·exact ⟨k, h1, h2, h3⟩
  | false =>
   simp only [List.mem_cons];rw [Cq bxs σ r j];constructor
   ·rintro (rfl | ⟨k, h1, h2⟩)
    ·exact ⟨i, by simp [idsB], (fun h => by rw [(AX _ _).2 h] at hm; cases hm), rfl⟩
    ·exact ⟨k, by simp only [idsB, List.map_cons, List.mem_cons] at h1 ⊢; exact .inr h1, h2⟩
   ·rintro ⟨k, h1, h2, h3⟩;simp only [idsB, List.map_cons, List.mem_cons] at h1;rcases h1 with rfl | h1
    ·exact .inl h3.symm
    ·exact .inr ⟨k, h1, h2, h3⟩
section
variable {P : Program} {tab : Tab} {n : Nat} {o : Oper} {s : St}
theorem Ec {σ : Id → Id} {ids : List Id} {s s' : St} : ∀ (l : List (Id × Bx)), (∀ i ∈ idsB l, s'.bx (σ i) = s.bx (σ i)) → Bl σ ids s l → Bl σ ids s' l
 | [], _, _ => trivial
 | (i, B) :: r, hs, hb => by
  simp only [Bl] at hb ⊢;refine ⟨⟨?_, hb.1.2⟩, Ec r (fun k hk => hs k (by simp only [idsB, List.map_cons, List.mem_cons] at hk ⊢; exact .inr hk)) hb.2⟩;obtain ⟨B0, h1, h2⟩ := hb.1.1;exact ⟨B0, (hs i (by simp [idsB])).trans h1, h2⟩
theorem OpJ.io (hd : ∀ d, o.dst = some d → d < n) {f : FuncId} {args args' : List AV} (hrun : ∀ (s' : St) (C : Cx) (a : Act) (w : World) (h : Hp) (β : Bt), (∀ t, Operand.tmp t ∈ o.op.operands → s'.env t = s.env t) → Base C n s' a w h β → ∃ us : Array Value, ((∃ fn, P.funcs[f]? = some fn ∧ (fn.name == "runtime.NumGoroutine") = false ∧ fn.body.isNone = false) → (execOp a.eval o).run P w = .ok (.enter f us) w) ∧ RepL h β args us.toList)
  (σ : List (Id × Id)) {bxs bxs' : List (Id × Bx)} {r : AV} (hf : IoFn P f args' bxs (.ret r) bxs') (hle : LeL args (renL (renI σ) args')) (hw : A2 (idsB bxs) args' = true) (hb : Bl (renI σ) (idsB bxs) s bxs)
  (hd1 : Ac (renI σ) (idsB bxs') = true) (hrw : r.within (idsB bxs') = true) (hbw : (bxs'.all fun p => p.2.within (idsB bxs')) = true) (hdb : Ac (renI σ) (idsB bxs) = true) :
  OpJ P n o s ⟨r.ren (renI σ), renB (renI σ) bxs', newB bxs' (renI σ) bxs, newB bxs (renI σ) bxs', (idsB bxs).map (renI σ)⟩ := by
 refine ⟨hd, fun C s' a w h β Q K hs hbs hal k hK => ?_⟩;rw [List.all_eq_true] at hbw;have hb' : Bl (renI σ) (idsB bxs) s' bxs := Ec bxs (fun i hi => hbs _ (by simp only [Eff.ts, List.mem_append, List.mem_map]; exact .inl ⟨i, hi, rfl⟩)) hb;obtain ⟨us, hrun, hus⟩ := hrun s' C a w h β hs k;have hrun := hrun hf.fn
 let β1 : Bt := fun id => match memI (idsB bxs) id with | true => β (renI σ id) | false => none
 have hβ : ∀ id v, id ∈ idsB bxs → β (renI σ id) = some v → β1 id = some v := fun id v hm hv => by
  show (match memI (idsB bxs) id with | true => β (renI σ id) | false => none) = some v;rw [(AX _ _).2 hm]; exact hv
 have hβ2 : ∀ id v, β1 id = some v → β (renI σ id) = some v := fun id v hv => by
  have hv : (match memI (idsB bxs) id with | true => β (renI σ id) | false => none) = some v := hv;split at hv
  ·exact hv
  ·cases hv
 have hβn : ∀ id, id ∉ idsB bxs → β1 id = none := fun id hid => by
  show (match memI (idsB bxs) id with | true => β (renI σ id) | false => none) = none
  have : memI (idsB bxs) id = false := by
   cases hm : memI (idsB bxs) id with
   | false => rfl
   | true => exact absurd ((AX _ _).1 hm) hid
  rw [this]
 have hbx := boxes_of hβ hβ2 (fun _ h => h) hb' hdb k.box k.apart;have hargs : RepL h β1 args' us.toList := RepL.within hβ args' _ hw (hle _ _ _ hus);unfold Oper.wp;rw [hrun];simp only [Oper.upon];refine (hf.calls w h β1 us k.evo.has hbx hβn hargs).mono fun e w' ⟨h', β1', hle1, hev, q⟩ => ?_;obtain ⟨u, rfl, hbx', hru, hnew⟩ := q
 -- who is whose
 have hM : ∀ g, Aj bxs β1 g → ∃ id B, id ∈ idsB bxs ∧ s'.bx (renI σ id) = some B ∧ blk (β (renI σ id)) = some g := by
  rintro g ⟨id, B, h1, h2⟩;have hm := BP bxs id B h1;obtain ⟨⟨B0, h3, _⟩, _, _⟩ := Ar bxs hb' id B h1;refine ⟨id, B0, hm, h3, ?_⟩
  cases hq : β1 id with
  | none => rw [hq] at h2; simp [blk] at h2
  | some v => rw [hβ2 id v hq, ← hq]; exact h2
 have hold : ∀ id, id ∈ idsB bxs → β1' id = β (renI σ id) := by
  intro id hm;obtain ⟨B, hB⟩ := An bxs id hm
  have hbv : ∃ v, β1 id = some v := by
   have := hbx.box id B hB
   cases B with
   | cells cs t => obtain ⟨g, us, e, _⟩ := this; exact ⟨_, e⟩
   | row sz enc xs t => obtain ⟨v, vals, e, _⟩ := this; exact ⟨_, e⟩
   | map ek av xs c => obtain ⟨g, es, e, _⟩ := this; exact ⟨_, e⟩
   | iter m a l c => obtain ⟨r, g, e, _⟩ := this; exact ⟨_, e⟩
  obtain ⟨v, hv⟩ := hbv;rw [hle1 _ _ hv, hβ2 _ _ hv]
 let β' : Bt := fun j => match C5 (renI σ) bxs' j with | some i => β1' i | none => β j
 have hfind : ∀ id, id ∈ idsB bxs' → β' (renI σ id) = β1' id := fun id hid => by
  show (match C5 (renI σ) bxs' (renI σ id) with | some i => β1' i | none => β (renI σ id)) = _;rw [findB_of _ _ hd1 id hid]
 have hother : ∀ j, (∀ id ∈ idsB bxs', renI σ id ≠ j) → β' j = β j := fun j hj => by
  show (match C5 (renI σ) bxs' j with | some i => β1' i | none => β j) = _
  cases hf : C5 (renI σ) bxs' j with
  | none => rfl
  | some i => exact absurd (Ck _ _ _ _ hf).1 (hj i (Ck _ _ _ _ hf).2)
 have hnewal : ∀ id, id ∈ idsB bxs' → id ∉ idsB bxs → β (renI σ id) = none := fun id h1 h2 =>
  k.dom _ (hal _ ((Cq bxs (renI σ) bxs' _).2 ⟨id, h1, h2, rfl⟩))
 have hββ' : β.le β' := by
  intro j v hv;rcases Classical.em (∃ id ∈ idsB bxs', renI σ id = j) with ⟨id, h1, rfl⟩ | hn
  ·rw [hfind id h1];rcases Classical.em (id ∈ idsB bxs) with h2 | h2
   ·rw [hold id h2]; exact hv
   ·rw [hnewal id h1 h2] at hv; cases hv
  ·rw [hother j (fun id h1 h2 => hn ⟨id, h1, h2⟩)]; exact hv
 have hto : ∀ id v, id ∈ idsB bxs' → β1' id = some v → β' (renI σ id) = some v := fun id v h1 h2 => by rw [hfind id h1]; exact h2
 have hevo : Evo C.M C.w0 C.h0 w' h' := k.evo.trans hev fun g hg => by
  obtain ⟨id, B, _, h1, h2⟩ := hM g hg;exact k.own _ B g h1 h2
 -- boxes: the renamed ones; the others
 have hcase : ∀ j B, delB (newB bxs' (renI σ) bxs) (updB (renB (renI σ) bxs') s'.bx) j = some B → (∃ id B0, id ∈ idsB bxs' ∧ Al bxs' id = some B0 ∧ renI σ id = j ∧ B = B0.ren (renI σ)) ∨ (((∀ id ∈ idsB bxs', renI σ id ≠ j) ∧ ∀ id ∈ idsB bxs, renI σ id ≠ j) ∧ s'.bx j = some B) := by
  intro j B hB;obtain ⟨hB, hnd⟩ := delB_some _ _ _ _ hB;rcases updB_renB (renI σ) s'.bx bxs' hd1 j with ⟨id, B0, h1, h2, h3⟩ | ⟨h1, h2⟩
  ·rw [h3] at hB; injection hB with hB;exact .inl ⟨id, B0, BP _ _ _ h1, h1, h2, hB.symm⟩
  ·rw [h2] at hB;refine .inr ⟨⟨h1, fun id hid e => ?_⟩, hB⟩;rcases Classical.em (id ∈ idsB bxs') with hm | hm
   ·exact h1 id hm e
   ·exact hnd ((Cq bxs' (renI σ) bxs j).2 ⟨id, hid, hm, e⟩)
 have hblkNew : ∀ id g, id ∈ idsB bxs' → blk (β1' id) = some g → (id ∈ idsB bxs ∧ blk (β (renI σ id)) = some g) ∨ w.heap.size ≤ g := by
  intro id g h1 h2;rcases Classical.em (id ∈ idsB bxs) with h3 | h3
  ·exact .inl ⟨h3, by rw [← hold id h3]; exact h2⟩
  ·exact .inr (hnew id g h3 h2)
 have hsafe : ∀ j B g, ((∀ id ∈ idsB bxs', renI σ id ≠ j) ∧ ∀ id ∈ idsB bxs, renI σ id ≠ j) → s'.bx j = some B → blk (β j) = some g → ¬ Aj bxs β1 g := by
  intro j B g h1 h2 h3 h4;obtain ⟨id, B0, h5, h6, h7⟩ := hM g h4;exact k.apart _ _ _ _ h6 h2 (h1.2 id h5) g h7 h3
 have hblk : ∀ j B g, ((∀ id ∈ idsB bxs', renI σ id ≠ j) ∧ ∀ id ∈ idsB bxs, renI σ id ≠ j) → s'.bx j = some B → blk (β j) = some g → w'.heap[g]? = w.heap[g]? ∧ h' g = none := by
  intro j B g h1 h2 h3;have hlt := k.blk_lt h2 h3;have hs := hsafe j B g h1 h2 h3;refine ⟨hev.block g hlt.1 hs, ?_⟩
  cases hh : h' g with
  | none => rfl
  | some cs =>
   rcases hev.fresh g (by simp [hh]) with h4 | h4 | h4
   ·exact absurd hlt.2 h4
   ·omega
   ·exact absurd h4 hs
 refine hK _ _ h' β' ⟨hevo, k.b0.trans hββ', fun i => ?_, fun j B hB => ?_, fun x y B1 B2 h1 h2 hne g e1 e2 => ?_, fun x B1 g hx hg => ?_, fun id hid => ?_, ?_, ?_⟩
 ·have hr : Rep h' β' (r.ren (renI σ)) u := Rep.renTo hto _ _ hrw hru
  cases hdst : o.dst with
  | none => exact (k.slot i).mono hev.le hββ'
  | some d =>
   by_cases hi : i = d
   ·subst hi;simp only [Eff.app, BM]
    have : (a.put (some i) u).tmps.getD i undef = u := by
     have hlt : i < a.tmps.size := by rw [k.size]; exact hd i hdst
     simp [Act.put, hlt]
    rw [this]; exact hr
   ·simp only [Eff.app];rw [BR _ _ _ _ (by intro e; injection e with e; exact hi e.symm)]
    have : (a.put (some d) u).tmps.getD i undef = a.tmps.getD i undef := by
     simp [Act.put, Array.getElem?_setIfInBounds_ne (Ne.symm hi)]
    rw [this]; exact (k.slot i).mono hev.le hββ'
 ·simp only [Eff.app] at hB;rcases hcase j B hB with ⟨id, B0, h1, h2, rfl, rfl⟩ | ⟨h1, h2⟩
  ·refine BoxAt.renTo hto h1 ?_ (hbx'.box id B0 h2)
   have hm : ∀ (l : List (Id × Bx)) (i : Id) (B : Bx), Al l i = some B → (i, B) ∈ l := by
    intro l
    induction l with
    | nil => intro i B h; simp [Al] at h
    | cons p l ih =>
     obtain ⟨q, V⟩ := p;intro i B h;by_cases hi : i = q
     ·subst hi; simp [Al] at h; subst h; simp
     ·simp only [Al, Ae hi] at h; exact List.mem_cons_of_mem _ (ih i B h)
   exact hbw _ (hm bxs' id B0 h2)
  ·exact (k.box j B h2).keep hev.le hββ' (hblk j B · h1 h2)
 ·simp only [Eff.app] at h1 h2;rcases hcase x B1 h1 with ⟨i1, C1, m1, l1, rfl, rfl⟩ | ⟨n1, b1⟩ <;> rcases hcase y B2 h2 with ⟨i2, C2, m2, l2, rfl, rfl⟩ | ⟨n2, b2⟩
  ·rw [hfind i1 m1] at e1; rw [hfind i2 m2] at e2;exact hbx'.apart i1 i2 C1 C2 l1 l2 (fun e => hne (by rw [e])) g e1 e2
  ·rw [hfind i1 m1] at e1; rw [hother y n2.1] at e2;rcases hblkNew i1 g m1 e1 with ⟨h3, h4⟩ | h3
   ·obtain ⟨B, hB⟩ := An bxs i1 h3;obtain ⟨⟨B0, h5, _⟩, _, _⟩ := Ar bxs hb' i1 B hB;exact k.apart _ _ _ _ h5 b2 hne g h4 e2
   ·have := (k.blk_lt b2 e2).1; omega
  ·rw [hother x n1.1] at e1; rw [hfind i2 m2] at e2;rcases hblkNew i2 g m2 e2 with ⟨h3, h4⟩ | h3
   ·obtain ⟨B, hB⟩ := An bxs i2 h3;obtain ⟨⟨B0, h5, _⟩, _, _⟩ := Ar bxs hb' i2 B hB;exact k.apart _ _ _ _ b1 h5 hne g e1 h4
   ·have := (k.blk_lt b1 e1).1; omega
  ·rw [hother x n1.1] at e1; rw [hother y n2.1] at e2;exact k.apart x y B1 B2 b1 b2 hne g e1 e2
 ·simp only [Eff.app] at hx;rcases hcase x B1 hx with ⟨i1, C1, m1, l1, rfl, rfl⟩ | ⟨n1, b1⟩
  ·rw [hfind i1 m1] at hg;rcases hblkNew i1 g m1 hg with ⟨h3, h4⟩ | h3
   ·obtain ⟨B, hB⟩ := An bxs i1 h3;obtain ⟨⟨B0, h5, _⟩, _, _⟩ := Ar bxs hb' i1 B hB;exact k.own _ B0 g h5 h4
   ·exact .inr (Nat.le_trans k.evo.size h3)
  ·rw [hother x n1.1] at hg;exact k.own x B1 g b1 hg
 ·simp only [Eff.app] at hid;rw [EU] at hid;simp only [Bool.or_eq_false_iff] at hid;have hb0 := k.dom id hid.2;rcases Classical.em (∃ i ∈ idsB bxs', renI σ i = id) with ⟨i, h1, rfl⟩ | hn
  ·rw [hfind i h1];rcases Classical.em (i ∈ idsB bxs) with h2 | h2
   ·rw [hold i h2]; exact hb0
   ·have := (Cq bxs (renI σ) bxs' (renI σ i)).2 ⟨i, h1, h2, rfl⟩;have h3 := hid.1;rw [List.elem_eq_mem] at h3;simp [this] at h3
  ·rw [hother id (fun i h1 h2 => hn ⟨i, h1, h2⟩)]; exact hb0
 ·cases o.dst <;> simp [Act.put, k.size]
 ·cases o.dst <;> simp [Act.put, k.defers]
end
end Go.AL
/- The rules for calls by contracts with boxes, for calls that panic, for calls of function values. -/
namespace Go.AL
structure Runs (P : Program) (n : Nat) (o : Oper) (s : St) (f : FuncId) (az : List AV) : Prop where
  out : ∀ (s' : St) (C : Cx) (a : Act) (w : World) (h : Hp) (β : Bt), (∀ t, Operand.tmp t ∈ o.op.operands → s'.env t = s.env t) → Base C n s' a w h β →
    ∃ us : Array Value, ((∃ fn, P.funcs[f]? = some fn ∧ (fn.name == "runtime.NumGoroutine") = false ∧ fn.body.isNone = false) → (execOp a.eval o).run P w = .ok (.enter f us) w) ∧ RepL h β az us.toList
section
variable {P : Program} {tab : Tab} {n : Nat} {o : Oper} {s : St}
theorem Ds {f : FuncId} {args : List Operand} {ts : Array TypeId} (hop : o.op = .call { callee := .value (.func f), args := ⟨args⟩, argTypes := ts }) : Runs P n o s f (opds s args) := by
 refine ⟨fun s' C a w h β hs k => ⟨(args.map a.eval).toArray, fun hfn => ?_, ?_⟩⟩
 ·simp only [execOp, hop, resolve, Deferred.ofValue, Act.eval, Sem.run_bind, Sem.run_pure, Result.andThen, invoke, List.map_toArray, Array.append_empty];have := Bh hfn (#[] ++ (args.map a.eval).toArray) w;simpa using this
 ·have hps : opds s' args = opds s args := Cg args fun x hx => by
   cases x with
   | tmp t => exact hs t (by rw [hop]; simp [Op.operands, Call.operands, hx])
   | _ => rfl
  have hr := Br k args;rwa [hps] at hr
theorem Runs.value {f : FuncId} {x : Operand} {args : List Operand} {ts : Array TypeId} {caps : List AV} (hop : o.op = .call { callee := .value x, args := ⟨args⟩, argTypes := ts }) (hx : opd s x = .fn f caps) : Runs P n o s f (opds s args ++ caps) := by
 refine ⟨fun s' C a w h β hs k => ?_⟩
 have hxs : opd s' x = opd s x := by
  cases x with
  | tmp t => exact hs t (by rw [hop]; simp [Op.operands, Call.operands])
  | _ => rfl
 have hxr := AJ k x;rw [hxs, hx] at hxr;simp only [Rep] at hxr;obtain ⟨cu, hcu, hcr⟩ := hxr
 have hps : opds s' args = opds s args := Cg args fun x hx => by
  cases x with
  | tmp t => exact hs t (by rw [hop]; simp [Op.operands, Call.operands, hx])
  | _ => rfl
 have hr := Br k args;rw [hps] at hr;refine ⟨(args.map a.eval).toArray ++ cu, fun hfn => ?_, by simpa using hr.append hcr⟩;simp only [execOp, hop, resolve, hcu, Deferred.ofValue, Sem.run_bind, Sem.run_pure, Result.andThen, invoke, List.map_toArray];have := Bh hfn ((args.map a.eval).toArray ++ cu) w;simpa using this
theorem OpJ.callG (hd : ∀ d, o.dst = some d → d < n) {f : FuncId} {args az : List AV} (hrun : Runs P n o s f args) (hle : LeL args az) (hcl : A7 args = true) {r : AV} (hf : PureFn P f az r) : OpJ P n o s ⟨r, [], [], [], []⟩ := by
 refine ⟨hd, fun C s' a w h β Q K hs _ _ k hK => ?_⟩;obtain ⟨us, hrun, hus⟩ := hrun.out s' C a w h β hs k;unfold Oper.wp;rw [hrun hf.fn];simp only [Oper.upon];refine (hf.calls w h _ k.evo.has (hle _ _ _ (RepL.closed (β' := noB) _ _ hcl hus))).mono fun e w' ⟨u, h', he, hev, hrep⟩ => ?_;subst he;exact hK _ _ h' β ((k.step hev).val o.dst hd (hrep.mono (AZ h') (ES β)) [])
theorem ThrJ.io {J : Inv} {f : FuncId} {args args' : List AV} (hrun : Runs P n o s f args) (σ : List (Id × Id)) {bxs bxs' : List (Id × Bx)} {chain : List PanicEntry} (hf : IoFn P f args' bxs (.thr chain) bxs') (hle : LeL args (renL (renI σ) args')) (hw : A2 (idsB bxs) args' = true) (hb : Bl (renI σ) (idsB bxs) s bxs)
  (hdb : Ac (renI σ) (idsB bxs) = true) : ThrJ P n J o s ⟨.any, [], [], [], (idsB bxs).map (renI σ)⟩ chain := by
 intro C s' a w h β Q K _ hs hbs k hQ;have hb' : Bl (renI σ) (idsB bxs) s' bxs := Ec bxs (fun i hi => hbs _ (by simp only [Eff.ts, List.mem_append, List.mem_map]; exact .inl ⟨i, hi, rfl⟩)) hb;obtain ⟨us, hrun, hus⟩ := hrun.out s' C a w h β hs k
 let β1 : Bt := fun id => match memI (idsB bxs) id with | true => β (renI σ id) | false => none
 have hβ : ∀ id v, id ∈ idsB bxs → β (renI σ id) = some v → β1 id = some v := fun id v hm hv => by
  show (match memI (idsB bxs) id with | true => β (renI σ id) | false => none) = some v;rw [(AX _ _).2 hm]; exact hv
 have hβ2 : ∀ id v, β1 id = some v → β (renI σ id) = some v := fun id v hv => by
  have hv : (match memI (idsB bxs) id with | true => β (renI σ id) | false => none) = some v := hv;split at hv
  ·exact hv
  ·cases hv
 have hβn : ∀ id, id ∉ idsB bxs → β1 id = none := fun id hid => by
  show (match memI (idsB bxs) id with | true => β (renI σ id) | false => none) = none
  have : memI (idsB bxs) id = false := by
   cases hm : memI (idsB bxs) id with
   | false => rfl
   | true => exact absurd ((AX _ _).1 hm) hid
  rw [this]
 have hbx := boxes_of hβ hβ2 (fun _ h => h) hb' hdb k.box k.apart;have hargs : RepL h β1 args' us.toList := RepL.within hβ args' _ hw (hle _ _ _ hus);unfold Oper.wp;rw [hrun hf.fn];simp only [Oper.upon];refine (hf.calls w h β1 us k.evo.has hbx hβn hargs).mono fun e w' ⟨h', β1', hle1, hev, q⟩ => ?_;have q : e = .panicked chain := q;subst q
 have hM : ∀ g, Aj bxs β1 g → ∃ id B, id ∈ idsB bxs ∧ s'.bx (renI σ id) = some B ∧ blk (β (renI σ id)) = some g := by
  rintro g ⟨id, B, h1, h2⟩;have hm := BP bxs id B h1;obtain ⟨⟨B0, h3, _⟩, _, _⟩ := Ar bxs hb' id B h1;refine ⟨id, B0, hm, h3, ?_⟩
  cases hq : β1 id with
  | none => rw [hq] at h2; simp [blk] at h2
  | some v => rw [hβ2 id v hq, ← hq]; exact h2
 have hdel : ∀ j B, delB ((idsB bxs).map (renI σ)) s'.bx j = some B → s'.bx j = some B ∧ ∀ id ∈ idsB bxs, renI σ id ≠ j := by
  intro j B hB
  have : ∀ (l : List Id), delB l s'.bx j = some B → s'.bx j = some B ∧ j ∉ l := by
   intro l
   induction l with
   | nil => intro h; exact ⟨h, by simp⟩
   | cons x l ih =>
    intro h;simp only [delB] at h;by_cases hj : j = x
    ·subst hj; simp at h
    ·simp only [Ae hj] at h;obtain ⟨h1, h2⟩ := ih h;exact ⟨h1, by simp [hj, h2]⟩
  obtain ⟨h1, h2⟩ := this _ hB;exact ⟨h1, fun id hid e => h2 (List.mem_map.2 ⟨id, hid, e⟩)⟩
 refine hQ w' h' β ⟨k.evo.trans hev fun g hg => ?_, k.b0, fun i => (k.slot i).mono hev.le (AQ β), fun j B hB => ?_, fun x y B1 B2 h1 h2 hne => k.apart x y B1 B2 (hdel x B1 h1).1 (hdel y B2 h2).1 hne, fun x B1 g hx hg => k.own x B1 g (hdel x B1 hx).1 hg, k.dom, k.size, k.defers⟩
 ·obtain ⟨id, B, _, h1, h2⟩ := hM g hg;exact k.own _ B g h1 h2
 ·obtain ⟨h1, h2⟩ := hdel j B hB;refine (k.box j B h1).keep hev.le (AQ β) fun g hg => ?_;have hlt := k.blk_lt h1 hg
  have hs : ¬ Aj bxs β1 g := fun h4 => by
   obtain ⟨id, B0, h5, h6, h7⟩ := hM g h4;exact k.apart _ _ _ _ h6 h1 (h2 id h5) g h7 hg
  refine ⟨hev.block g hlt.1 hs, ?_⟩
  cases hh : h' g with
  | none => rfl
  | some cs =>
   rcases hev.fresh g (by simp [hh]) with h4 | h4 | h4
   ·exact absurd hlt.2 h4
   ·omega
   ·exact absurd h4 hs
theorem IoFn.toPure {f : FuncId} {args : List AV} {r : AV} (hc : r.closed = true) (k : IoFn P f args [] (.ret r) []) : PureFn P f args r := by
 refine ⟨k.fn, fun w h us hw hr => ?_⟩;refine (k.calls w h noB us hw ⟨fun id B hB => by simp [Al] at hB, fun _ _ _ _ hB => by simp [Al] at hB⟩ (fun _ _ => rfl) hr).mono fun e w' ⟨h', β', hle, hev, u, he, _, hrep, hnew⟩ => ?_
 have hev' : Evo DU w h w' h' := by
  refine ⟨hev.os, hev.tape, hev.output, hev.size, fun i hi _ => hev.block i hi (fun ⟨_, _, hB, _⟩ => by simp [Al] at hB), hev.le, fun b hb => ?_, hev.has⟩;rcases hev.fresh b hb with h1 | h1 | ⟨_, _, hB, _⟩
  ·exact .inl h1
  ·exact .inr (.inl h1)
  ·simp [Al] at hB
 exact ⟨u, h', he, hev', hrep.closed _ _ hc⟩
variable {ops : Array Oper} {draw : Dr} {l : List Oper} {acc : List Eff} {K : Exit → St → Prop}
theorem Ca {f : FuncId} {x : Operand} {args : List Operand} {ts : Array TypeId} (hop : o.op = .call { callee := .value x, args := ⟨args⟩, argTypes := ts }) {caps : List AV} (hx : opd s x = .fn f caps) {az : List AV} {ret : AV} (hf : PureFn P f az ret) (hg : gOk ops s o = true) (hd : dOk n o.dst = true) (hcl : A7 (opds s args ++ caps) = true) (hle : LeL (opds s args ++ caps) az)
  (r : Fl P n ops draw l ((Eff.mk ret [] [] [] []).app o.dst s) (Eff.mk ret [] [] [] [] :: acc) K) : Fl P n ops draw (o :: l) s acc K :=
 Ab hg (OpJ.callG (AY hd) (Runs.value hop hx) hle hcl hf) r
theorem Ay {f : FuncId} {args : List Operand} {ts : Array TypeId} (hop : o.op = .call { callee := .value (.func f), args := ⟨args⟩, argTypes := ts }) (σ : List (Id × Id)) {az : List AV} {bxs bxs' : List (Id × Bx)} {ret : AV} (hf : IoFn P f az bxs (.ret ret) bxs') (hg : gOk ops s o = true) (hd : dOk n o.dst = true) (hle : LeL (opds s args) (renL (renI σ) az)) (hw : A2 (idsB bxs) az = true) (hb : Bl (renI σ) (idsB bxs) s bxs)
  (hd1 : Ac (renI σ) (idsB bxs') = true) (hrw : ret.within (idsB bxs') = true) (hbw : (bxs'.all fun p => p.2.within (idsB bxs')) = true) (hdb : Ac (renI σ) (idsB bxs) = true) (hn : Dn (newB bxs (renI σ) bxs') s.al = true)
  (r : Fl P n ops draw l ((Eff.mk (ret.ren (renI σ)) (renB (renI σ) bxs') (newB bxs' (renI σ) bxs) (newB bxs (renI σ) bxs') ((idsB bxs).map (renI σ))).app o.dst s) (Eff.mk (ret.ren (renI σ)) (renB (renI σ) bxs') (newB bxs' (renI σ) bxs) (newB bxs (renI σ) bxs') ((idsB bxs).map (renI σ)) :: acc) K)
  (hJ : A4 draw.J (Eff.mk (ret.ren (renI σ)) (renB (renI σ) bxs') (newB bxs' (renI σ) bxs) (newB bxs (renI σ) bxs') ((idsB bxs).map (renI σ))) := by repeat' (first | exact True.intro | exact rfl | refine ⟨?_, ?_⟩ | fail)) : Fl P n ops draw (o :: l) s acc K :=
 Fl.op hg (OpJ.io (AY hd) (Ds hop).out σ hf hle hw hb hd1 hrw hbw hdb) hn hJ r
theorem qi {f : FuncId} {args : List Operand} {ts : Array TypeId} (σ : List (Id × Id)) {az : List AV} {bxs bxs' : List (Id × Bx)} {ret : AV} (hf : IoFn P f az bxs (.ret ret) bxs') (r : Fl P n ops draw l ((Eff.mk (ret.ren (renI σ)) (renB (renI σ) bxs') (newB bxs' (renI σ) bxs) (newB bxs (renI σ) bxs') ((idsB bxs).map (renI σ))).app o.dst s) (Eff.mk (ret.ren (renI σ)) (renB (renI σ) bxs') (newB bxs' (renI σ) bxs) (newB bxs (renI σ) bxs') ((idsB bxs).map (renI σ)) :: acc) K) (hop : o.op = .call { callee := .value (.func f), args := ⟨args⟩, argTypes := ts } := by exact rfl) (hg : gOk ops s o = true := by exact rfl) (hd : dOk n o.dst = true := by exact rfl) (hle : LeL (opds s args) (renL (renI σ) az) := by exact AB _) (hw : A2 (idsB bxs) az = true := by exact rfl) (hb : Bl (renI σ) (idsB bxs) s bxs := by exact ⟨⟨⟨_, rfl, BLe.cells (AB _)⟩, rfl⟩, trivial⟩) (hd1 : Ac (renI σ) (idsB bxs') = true := by exact rfl) (hrw : ret.within (idsB bxs') = true := by exact rfl) (hbw : (bxs'.all fun p => p.2.within (idsB bxs')) = true := by exact rfl) (hdb : Ac (renI σ) (idsB bxs) = true := by exact rfl) (hn : Dn (newB bxs (renI σ) bxs') s.al = true := by exact rfl) (hJ : A4 draw.J (Eff.mk (ret.ren (renI σ)) (renB (renI σ) bxs') (newB bxs' (renI σ) bxs) (newB bxs (renI σ) bxs') ((idsB bxs).map (renI σ))) := by repeat' (first | exact True.intro | exact rfl | refine ⟨?_, ?_⟩ | fail)) : Fl P n ops draw (o :: l) s acc K := Ay hop σ hf hg hd hle hw hb hd1 hrw hbw hdb hn r hJ
theorem Dg {f : FuncId} {x : Operand} {args : List Operand} {ts : Array TypeId} (hop : o.op = .call { callee := .value x, args := ⟨args⟩, argTypes := ts }) {caps : List AV} (hx : opd s x = .fn f caps) (σ : List (Id × Id)) {az : List AV} {bxs bxs' : List (Id × Bx)} {ret : AV} (hf : IoFn P f az bxs (.ret ret) bxs') (hg : gOk ops s o = true) (hd : dOk n o.dst = true) (hle : LeL (opds s args ++ caps) (renL (renI σ) az)) (hw : A2 (idsB bxs) az = true) (hb : Bl (renI σ) (idsB bxs) s bxs)
  (hd1 : Ac (renI σ) (idsB bxs') = true) (hrw : ret.within (idsB bxs') = true) (hbw : (bxs'.all fun p => p.2.within (idsB bxs')) = true) (hdb : Ac (renI σ) (idsB bxs) = true) (hn : Dn (newB bxs (renI σ) bxs') s.al = true)
  (r : Fl P n ops draw l ((Eff.mk (ret.ren (renI σ)) (renB (renI σ) bxs') (newB bxs' (renI σ) bxs) (newB bxs (renI σ) bxs') ((idsB bxs).map (renI σ))).app o.dst s) (Eff.mk (ret.ren (renI σ)) (renB (renI σ) bxs') (newB bxs' (renI σ) bxs) (newB bxs (renI σ) bxs') ((idsB bxs).map (renI σ)) :: acc) K)
  (hJ : A4 draw.J (Eff.mk (ret.ren (renI σ)) (renB (renI σ) bxs') (newB bxs' (renI σ) bxs) (newB bxs (renI σ) bxs') ((idsB bxs).map (renI σ))) := by repeat' (first | exact True.intro | exact rfl | refine ⟨?_, ?_⟩ | fail)) : Fl P n ops draw (o :: l) s acc K :=
 Fl.op hg (OpJ.io (AY hd) (Runs.value hop hx).out σ hf hle hw hb hd1 hrw hbw hdb) hn hJ r
theorem Ax {f : FuncId} {args : List Operand} {ts : Array TypeId} (hop : o.op = .call { callee := .value (.func f), args := ⟨args⟩, argTypes := ts }) (σ : List (Id × Id)) {az : List AV} {bxs bxs' : List (Id × Bx)} {chain : List PanicEntry} (hf : IoFn P f az bxs (.thr chain) bxs') (hg : gOk ops s o = true) (hle : LeL (opds s args) (renL (renI σ) az)) (hw : A2 (idsB bxs) az = true) (hb : Bl (renI σ) (idsB bxs) s bxs) (hdb : Ac (renI σ) (idsB bxs) = true)
  (hc : draw.b = true → chkT ops (acc.reverse ++ [Eff.mk .any [] [] [] ((idsB bxs).map (renI σ))]) = true) (hK : ∀ s'', K (.panic chain) s'') : Fl P n ops draw (o :: l) s acc K :=
 Fl.thr hg (ThrJ.io (Ds hop) σ hf hle hw hb hdb) hc hK
theorem Fl.thrV {f : FuncId} {x : Operand} {args : List Operand} {ts : Array TypeId} (hop : o.op = .call { callee := .value x, args := ⟨args⟩, argTypes := ts }) {caps : List AV} (hx : opd s x = .fn f caps) (σ : List (Id × Id)) {az : List AV} {bxs bxs' : List (Id × Bx)} {chain : List PanicEntry} (hf : IoFn P f az bxs (.thr chain) bxs') (hg : gOk ops s o = true) (hle : LeL (opds s args ++ caps) (renL (renI σ) az)) (hw : A2 (idsB bxs) az = true) (hb : Bl (renI σ) (idsB bxs) s bxs) (hdb : Ac (renI σ) (idsB bxs) = true)
  (hc : draw.b = true → chkT ops (acc.reverse ++ [Eff.mk .any [] [] [] ((idsB bxs).map (renI σ))]) = true) (hK : ∀ s'', K (.panic chain) s'') : Fl P n ops draw (o :: l) s acc K :=
 Fl.thr hg (ThrJ.io (Runs.value hop hx) σ hf hle hw hb hdb) hc hK
end
end Go.AL
/- Interfaces of plain values; panic. -/
namespace Go.AL
def notIface : TypeDesc → Bool
  | .interface _ => false
  | _ => true
section
variable {P : Program} {tab : Tab} {n : Nat} {o : Oper} {s : St} {ops : Array Oper} {draw : Dr} {l : List Oper} {acc : List Eff} {K : Exit → St → Prop}
theorem Fl.mi [f : Facts P tab] {t : TypeId} {x : Operand} (hop : o.op = .makeInterface t x) {u : Value} (hx : opd s x = .v u) {i : TI} (hti : tab t = some i) (hni : notIface i.desc = true) (hg : gOk ops s o = true) (hd : dOk n o.dst = true)
  (r : Fl P n ops draw l ((Eff.mk (.v (.iface t u)) [] [] [] []).app o.dst s) (Eff.mk (.v (.iface t u)) [] [] [] [] :: acc) K) : Fl P n ops draw (o :: l) s acc K := by
 refine Ab hg (AN (tb := []) (AY hd) fun C s' a w h β ho _ k => ?_) r;have hxr := AJ k x;rw [ho x (by rw [hop]; simp [Op.operands]), hx] at hxr;simp only [Rep] at hxr;have hu := (f.tabOk _ _ hti).und;refine ⟨.iface t u, ?_, by simp only [Rep]⟩;simp only [execOp, hop, hxr, Instr.makeInterface, Sem.run_bind, run_underlying hu, Result.andThen]
 cases hdsc : i.desc <;> rw [hdsc] at hni <;> first | (simp [notIface] at hni; done) | rfl
theorem Fl.neqI {t t' : TypeId} {x : Operand} (hop : o.op = .binOp .neq t x (.const .nilIface) t') {t0 : TypeId} {u : Value} (hx : opd s x = .v (.iface t0 u)) (hg : gOk ops s o = true) (hd : dOk n o.dst = true)
  (hrun : ∀ w : World, (binOp .neq t (.iface t0 u) .nilIface).run P w = .ok (.bool true) w)
  (r : Fl P n ops draw l ((Eff.mk (.v (.bool true)) [] [] [] []).app o.dst s) (Eff.mk (.v (.bool true)) [] [] [] [] :: acc) K) : Fl P n ops draw (o :: l) s acc K := by
 refine Ab hg (AN (tb := []) (AY hd) fun C s' a w h β ho _ k => ?_) r;have hxr := AJ k x;rw [ho x (by rw [hop]; simp [Op.operands]), hx] at hxr;simp only [Rep] at hxr;refine ⟨.bool true, ?_, by simp only [Rep]⟩
 have hg : (eqGuard .neq t x (.const .nilIface) (.iface t0 u) .nilIface).run P w = .ok () w := by simp [eqGuard]
 simp only [execOp, hop, hxr, show a.eval (.const .nilIface) = .nilIface from rfl, Sem.run_bind, hg, Result.andThen, hrun w, Sem.run_pure]
theorem Fl.neqN {t t' : TypeId} {x : Operand} (hop : o.op = .binOp .neq t x (.const .nilIface) t') (hx : opd s x = .v .nilIface) (hg : gOk ops s o = true) (hd : dOk n o.dst = true)
  (hrun : ∀ w : World, (binOp .neq t .nilIface .nilIface).run P w = .ok (.bool false) w)
  (r : Fl P n ops draw l ((Eff.mk (.v (.bool false)) [] [] [] []).app o.dst s) (Eff.mk (.v (.bool false)) [] [] [] [] :: acc) K) : Fl P n ops draw (o :: l) s acc K := by
 refine Ab hg (AN (tb := []) (AY hd) fun C s' a w h β ho _ k => ?_) r;have hxr := AJ k x;rw [ho x (by rw [hop]; simp [Op.operands]), hx] at hxr;simp only [Rep] at hxr;refine ⟨.bool false, ?_, by simp only [Rep]⟩
 have hg : (eqGuard .neq t x (.const .nilIface) .nilIface .nilIface).run P w = .ok () w := by simp [eqGuard]
 simp only [execOp, hop, hxr, show a.eval (.const .nilIface) = .nilIface from rfl, Sem.run_bind, hg, Result.andThen, hrun w, Sem.run_pure]
theorem Fl.taI [f : Facts P tab] {t asserted : TypeId} {x : Operand} (hop : o.op = .typeAssert x t asserted true) {u : Value} (hx : opd s x = .v (.iface asserted u)) {i : TI} (hti : tab asserted = some i) (hni : notIface i.desc = true) (hg : gOk ops s o = true) (hd : dOk n o.dst = true)
  (r : Fl P n ops draw l ((Eff.mk (.tup [.v u, .v (.bool true)]) [] [] [] []).app o.dst s) (Eff.mk (.tup [.v u, .v (.bool true)]) [] [] [] [] :: acc) K) : Fl P n ops draw (o :: l) s acc K := by
 refine Ab hg (AN (tb := []) (AY hd) fun C s' a w h β ho _ k => ?_) r;have hxr := AJ k x;rw [ho x (by rw [hop]; simp [Op.operands]), hx] at hxr;simp only [Rep] at hxr;have hu := (f.tabOk _ _ hti).und;refine ⟨.tuple #[u, .bool true], ?_, ?_⟩
 ·simp only [execOp, hop, hxr, Instr.typeAssert, Sem.run_bind, run_underlying hu, Result.andThen]
  cases hdsc : i.desc <;> rw [hdsc] at hni <;> first | (simp [notIface] at hni; done) | (simp)
 ·simp only [Rep];exact ⟨_, rfl, RepL.cons (by simp only [Rep]) (RepL.cons (by simp only [Rep]) RepL.nil)⟩
theorem Fl.pan {x : Operand} (hop : o.op = .panic x) {t0 : TypeId} {u : Value} (hx : opd s x = .v (.iface t0 u)) (hg : gOk ops s o = true) (hc : draw.b = true → chkT ops (acc.reverse ++ [Eff.mk .any [] [] [] []]) = true) (hK : ∀ s'', K (.panic [{ v := .iface t0 u, recovered := false }]) s'') : Fl P n ops draw (o :: l) s acc K := by
 refine Fl.thr hg ?_ hc hK;intro C s' a w h β Q K _ hs _ k hQ;have hxr := AJ k x
 have hsx : opd s' x = opd s x := by
  cases x with
  | tmp t => exact hs t (by rw [hop]; simp [Op.operands])
  | _ => rfl
 rw [hsx, hx] at hxr;simp only [Rep] at hxr
 have hrun : (execOp a.eval o).run P w = .halt (.panic (.iface t0 u)) w := by
  simp [execOp, hop, hxr, Instr.panic, goPanic]
 unfold Oper.wp;rw [hrun];simp only [Oper.upon];exact hQ w h β k
end
end Go.AL
/- A deferred function that recovers first. -/
namespace Go.AL
section
variable {P : Program} {tab : Tab} {n : Nat}
def St.recd (args : List AV) (bxs : List (Id × Bx)) (d0 d1 : Tmp) (x : Value) : St := ⟨putE (putE (initE args) (some d0) (.v x)) (some d1) (.v x), Al bxs, fun id => memI (idsB bxs) id⟩
theorem rec_calls [f : Facts P tab] {k : FuncId} {fn : Func} {id : Nat} {o0 o1 : Oper} {c : Code} {args : List AV} {bxs bxs' : List (Id × Bx)} {r : AV} {d0 d1 : Tmp} {ts : Array TypeId} (hf : P.funcs[k]? = some fn) (hb : fn.body = some (.seq (.region id ⟨[o0, o1]⟩ false) c)) (hn : fn.ntmps = n) (hl : Nat.ble args.length n = true) (hsub : ((idsB bxs).all fun id => memI (idsB bxs') id) = true)
  (h0 : o0.op = .call { callee := .builtin .recover, args := ⟨[]⟩, argTypes := ts }) (g0 : o0.guard = none) (e0 : o0.dst = some d0) (l0 : Nat.blt d0 n = true) (h1 : o1.op = .assign (.tmp d0)) (g1 : o1.guard = none) (e1 : o1.dst = some d1) (l1 : Nat.blt d1 n = true)
  {x : Value} {u u' : FrameMode} (hrec : ∀ (c₀ : Frame) (cs : List Frame), c₀.mode = u → recoverD (c₀ :: cs) = some (x, { c₀ with mode := u' } :: cs) ∨ (recoverD (c₀ :: cs) = none ∧ x = .nilIface ∧ u' = u))
  (h : AWP P n (idsB bxs) c (RetX n (idsB bxs) tab fn.results.toList (.ret r) bxs') (St.recd args bxs d0 d1 x)) (w : World) (hp : Hp) (β : Bt) (us : Array Value) (hw : Has w hp) (hbx : BoxesAt w hp β bxs) (hβn : ∀ id, id ∉ idsB bxs → β id = none) (hr : RepL hp β args us.toList) :
  CallsD P k us u w fun e u'' w' => u'' = u' ∧ ∃ h' β', β.le β' ∧ Evo (Aj bxs β) w hp w' h' ∧ ∃ v, e = .returned v ∧ BoxesAt w' h' β' bxs' ∧ Rep h' β' r v ∧ ∀ id g, id ∉ idsB bxs → blk (β' id) = some g → w.heap.size ≤ g := by
 have hl := Nat.le_of_ble_eq_true hl;refine callsD_of_wpS hf hb fun c₀ cs hmode => ?_
 have hus : us.size = args.length := by rw [← Array.length_toList]; exact hr.length
 have hbase : Base ⟨w, hp, β, Aj bxs β, []⟩ n (BQ args bxs) { tmps := us ++ Array.replicate (fn.ntmps - us.size) undef, defers := [] } w hp β := by
  refine ⟨Evo.refl _ hw, AQ _, fun i => ?_, hbx.box, hbx.apart, fun id B g hB hg => .inl ⟨id, B, hB, hg⟩, fun id hid => hβn id (fun hm => by rw [← AX] at hm; simp only [BQ] at hid; rw [hm] at hid; cases hid), by simp; omega, rfl⟩;simp only [BQ];by_cases hi : i < us.size
  ·have hget : (us ++ Array.replicate (fn.ntmps - us.size) undef).getD i undef = us[i] := by
    simp [Array.getD_eq_getD_getElem?, Array.getElem?_append, hi]
   rw [hget];exact D8 args us.toList i _ hr (by simp [hi])
  ·rw [D9 args i (by omega)];simp only [Rep]
 have hini : IniOk ⟨w, hp, β, Aj bxs β, []⟩ (idsB bxs) := fun id hid => by
  rcases Classical.em (id ∈ idsB bxs) with hm | hm
  ·exact hm
  ·exact absurd (hβn id hm) hid
 generalize ({ tmps := us ++ Array.replicate (fn.ntmps - us.size) undef, defers := [] } : Act) = a0 at hbase ⊢;have k1 := hbase.val (some d0) (fun t ht => by injection ht with ht; subst ht; exact ltOf l0) (v := .v x) (u := x) (by simp only [Rep]) [];have k2 := k1.val (some d1) (fun t ht => by injection ht with ht; subst ht; exact ltOf l1) (v := .v x) (u := x) (by simp only [Rep]) []
 have hx4 : (a0.put (some d0) x).eval (.tmp d0) = x := by
  have := k1.slot d0;simp only [Eff.app, BM, Rep] at this;exact this
 have hrun0 : (execOp a0.eval o0).run P w = .ok .recover w := by
  simp only [execOp, h0, resolve, invoke, builtin, Sem.run_bind, Sem.run_pure, Result.andThen, List.map_toArray, List.map_nil]
 have hrun1 : (execOp (a0.put (some d0) x).eval o1).run P w = .ok (.value x) w := by
  simp only [execOp, h1, hx4, Sem.run_pure]
 refine wpS_seq (wpS_region ?_);have hrg : List.range (Array.size ⟨[o0, o1]⟩) = [0, 1] := rfl;rw [hrg]
 have hw0 : Region.wanted o0 (yielded ⟨[o0, o1]⟩ a0.tmps) = true := by simp [Region.wanted, g0]
 have hw1 : ∀ a : Act, Region.wanted o1 (yielded ⟨[o0, o1]⟩ a.tmps) = true := fun a => by simp [Region.wanted, g1]
 have rest : ({ c₀ with mode := u' } :: cs : List Frame) = ({ c₀ with mode := u' } :: cs) → c.wpS P (bodyPostS P fn c₀ cs fun e u'' w' => u'' = u' ∧ ∃ h' β', β.le β' ∧ Evo (Aj bxs β) w hp w' h' ∧ ∃ v, e = .returned v ∧ BoxesAt w' h' β' bxs' ∧ Rep h' β' r v ∧ ∀ id g, id ∉ idsB bxs → blk (β' id) = some g → w.heap.size ≤ g) ((a0.put (some d0) x).put (some d1) x) ({ c₀ with mode := u' } :: cs) w := by
  intro _;refine wpS_of_wp ?_;refine wp_mono (h.out ⟨w, hp, β, Aj bxs β, []⟩ _ w hp β hini k2) fun e a' w' ⟨s', h', β', b, q⟩ => ?_;have fin := RetIo.fin (f := f) (fn := fn) hsub hini b
  cases e with
  | normal =>
   obtain ⟨q1, v, q2, h', β', q3, q4, u, q5, q6⟩ := fin r q;exact ⟨q1, u', rfl, v, q2, rfl, h', β', q3, q4, u, q5, q6⟩
  | ret =>
   obtain ⟨q1, v, q2, h', β', q3, q4, u, q5, q6⟩ := fin r q;exact ⟨q1, u', rfl, v, q2, rfl, h', β', q3, q4, u, q5, q6⟩
  | panic c => exact q.elim
  | _ => exact q.elim
 have step1 : ∀ cs' : List Frame, cs' = { c₀ with mode := u' } :: cs → wpOpsS P ⟨[o0, o1]⟩ (Exit.thenS (c.wpS P (bodyPostS P fn c₀ cs fun e u'' w' => u'' = u' ∧ ∃ h' β', β.le β' ∧ Evo (Aj bxs β) w hp w' h' ∧ ∃ v, e = .returned v ∧ BoxesAt w' h' β' bxs' ∧ Rep h' β' r v ∧ ∀ id g, id ∉ idsB bxs → blk (β' id) = some g → w.heap.size ≤ g)) (bodyPostS P fn c₀ cs fun e u'' w' => u'' = u' ∧ ∃ h' β', β.le β' ∧ Evo (Aj bxs β) w hp w' h' ∧ ∃ v, e = .returned v ∧ BoxesAt w' h' β' bxs' ∧ Rep h' β' r v ∧ ∀ id g, id ∉ idsB bxs → blk (β' id) = some g → w.heap.size ≤ g)) [1] (a0.put (some d0) x) cs' w := by
  rintro cs' rfl;simp only [wpOpsS, List.getElem?_toArray, List.getElem?_cons_succ, List.getElem?_cons_zero, hw1, if_true, hrun1, Oper.upon, e1];exact rest rfl
 rw [wpOpsS];simp only [List.getElem?_toArray, List.getElem?_cons_zero, hw0, if_true, hrun0, e0];rcases hrec c₀ cs hmode with hq | ⟨hq, hx, hu⟩
 ·rw [hq];exact step1 _ rfl
 ·rw [hq];simp only;rw [← hx];refine step1 _ ?_;rw [hu, ← hmode]
end
end Go.AL
/- A function that defers a recovering one and calls what it is given. -/
namespace Go.AL
section
variable {P : Program} {tab : Tab}
def DefOk (P : Program) (kd : FuncId) (te : TypeId) (u u' : FrameMode) (e : Int) : Prop :=
  ∀ (w : World) (h : Hp) (g : Nat), Has w h → w.heap[g]? = some (.cells #[.int .i64 0] te (0, 0)) → h g = none →
    CallsD P kd #[.pointer (some ⟨g, 0, none⟩)] u w fun en u'' w' => u'' = u' ∧ ∃ h', Evo (fun b => b = g) w h w' h' ∧ (∃ v, en = .returned v) ∧ w'.heap[g]? = some (.cells #[.int .i64 e] te (0, 0)) ∧ h' g = none
theorem defOk_of [f : Facts P tab] {n : Nat} {k : FuncId} {fn : Func} {id : Nat} {o0 o1 : Oper} {c : Code} {d0 d1 : Tmp} {ts : Array TypeId} (hf : P.funcs[k]? = some fn) (hb : fn.body = some (.seq (.region id ⟨[o0, o1]⟩ false) c)) (hn : fn.ntmps = n) (hl : Nat.ble 1 n = true)
  (h0 : o0.op = .call { callee := .builtin .recover, args := ⟨[]⟩, argTypes := ts }) (g0 : o0.guard = none) (e0 : o0.dst = some d0) (l0 : Nat.blt d0 n = true) (h1 : o1.op = .assign (.tmp d0)) (g1 : o1.guard = none) (e1 : o1.dst = some d1) (l1 : Nat.blt d1 n = true)
  {x : Value} {u u' : FrameMode} {te : TypeId} {e : Int} {r : AV} (hrec : ∀ (c₀ : Frame) (cs : List Frame), c₀.mode = u → recoverD (c₀ :: cs) = some (x, { c₀ with mode := u' } :: cs) ∨ (recoverD (c₀ :: cs) = none ∧ x = .nilIface ∧ u' = u))
  (h : AWP P n [900] c (RetX n [900] tab fn.results.toList (.ret r) [(900, .cells [.v (.int .i64 e)] te)]) (St.recd [.ptr 900 0] [(900, .cells [.v (.int .i64 0)] te)] d0 d1 x)) : DefOk P k te u u' e := by
 intro w hp g hw hg hn0
 let β : Bt := fun id => match Nat.beq id 900 with | true => some (.pointer (some ⟨g, 0, none⟩)) | false => none
 have h900 : β 900 = some (.pointer (some ⟨g, 0, none⟩)) := rfl
 have hlook : ∀ id B, Al [(900, Bx.cells [.v (.int .i64 0)] te)] id = some B → id = 900 ∧ B = .cells [.v (.int .i64 0)] te := by
  intro id B hB;by_cases hi : id = 900
  ·subst hi; simp [Al] at hB; exact ⟨rfl, hB.symm⟩
  ·simp [Al, Ae hi] at hB
 have hbx : BoxesAt w hp β [(900, .cells [.v (.int .i64 0)] te)] := by
  refine ⟨fun id B hB => ?_, fun id id' B B' h1 h2 hne => ?_⟩
  ·obtain ⟨rfl, rfl⟩ := hlook id B hB;exact ⟨g, #[.int .i64 0], h900, hg, RepL.cons (by simp only [Rep]) RepL.nil, hn0⟩
  ·obtain ⟨rfl, _⟩ := hlook id B h1;obtain ⟨rfl, _⟩ := hlook id' B' h2;exact absurd rfl hne
 have hβn : ∀ id, id ∉ idsB [(900, Bx.cells [.v (.int .i64 0)] te)] → β id = none := by
  intro id hid;have : id ≠ 900 := fun e => hid (by simp [idsB, e]);show (match Nat.beq id 900 with | true => some (Value.pointer (some ⟨g, 0, none⟩)) | false => none) = none;rw [Ae this]
 refine (rec_calls (args := [.ptr 900 0]) (bxs := [(900, .cells [.v (.int .i64 0)] te)]) (bxs' := [(900, .cells [.v (.int .i64 e)] te)]) hf hb hn hl rfl h0 g0 e0 l0 h1 g1 e1 l1 hrec h w hp β #[.pointer (some ⟨g, 0, none⟩)] hw hbx hβn (RepL.cons (by simp only [Rep]; exact ⟨g, h900, rfl⟩) RepL.nil)).mono ?_;rintro en u'' w' ⟨hu, h', β', hle, hev, v, hv, hbx', _, _⟩;refine ⟨hu, h', ⟨hev.os, hev.tape, hev.output, hev.size, fun i hi hne => hev.block i hi ?_, hev.le, fun b hb => ?_, hev.has⟩, ⟨v, hv⟩, ?_⟩
 ·rintro ⟨id, B, h1, h2⟩;obtain ⟨rfl, _⟩ := hlook id B h1;rw [h900] at h2; simp [blk] at h2; exact hne h2.symm
 ·rcases hev.fresh b hb with h1 | h1 | ⟨id, B, h1, h2⟩
  ·exact .inl h1
  ·exact .inr (.inl h1)
  ·obtain ⟨rfl, _⟩ := hlook id B h1;rw [h900] at h2; simp [blk] at h2; exact .inr (.inr h2.symm)
 ·obtain ⟨g', us, q1, q2, q3, q4⟩ := hbx'.box 900 _ rfl;have hq : β' 900 = some (.pointer (some ⟨g, 0, none⟩)) := hle 900 (.pointer (some ⟨g, 0, none⟩)) h900;rw [hq] at q1;injection q1 with q1; injection q1 with q1; injection q1 with q1; injection q1 with q1;subst q1;simp only [RepL, Rep] at q3;obtain ⟨u1, r1, q5, rfl, rfl⟩ := q3
  have : us = #[.int .i64 e] := by cases us; simp at q5; simp [q5]
  rw [this] at q2;exact ⟨q2, q4⟩
theorem BD {ops : Array Oper} {i : Nat} {o : Oper} {rest : List Nat} {a : Act} {w : World} {Q : Exit → Act → World → Prop} (ho : ops[i]? = some o) (hg : o.guard = none) (h : o.wp P a w (fun a' w' => wpOps P ops Q rest a' w') Q) : wpOps P ops Q (i :: rest) a w := by
 simp only [wpOps, ho];rw [if_pos (by simp [Region.wanted, hg])];exact .inl h
theorem wp_of_run {o : Oper} {a : Act} {w w' : World} {v : Value} {K : Act → World → Prop} {Q : Exit → Act → World → Prop} (hr : (execOp a.eval o).run P w = .ok (.value v) w') (h : K (a.put o.dst v) w') : o.wp P a w K Q := by
 unfold Oper.wp; rw [hr]; exact h
def tryOut (res : Res) (bxs' : List (Id × Bx)) : List (Id × Bx) :=
  match res with | .ret _ => bxs' | .thr _ => []
theorem BoxesAt.alloc {w : World} {h : Hp} {β : Bt} {bxs : List (Id × Bx)} (k : BoxesAt w h β bxs) (hw : Has w h) (o : Obj) : BoxesAt (w.alloc o) h β bxs := by
 refine ⟨fun id B hB => (k.box id B hB).keep (AZ h) (AQ β) fun g hg => ?_, k.apart⟩;have hb := blk_box (k.box id B hB) hg;exact ⟨(B7 hw o).block g hb.1 (fun x => x), hb.2⟩
theorem try_io [f : Facts P tab] {k kd cf : FuncId} {fn : Func} {i0 i1 i2 i3 : Nat} {oA oM oD oV oC oS : Oper} {te : TypeId} {ts ts2 : Array TypeId} (hf : P.funcs[k]? = some fn) (hname : (fn.name == "runtime.NumGoroutine") = false) (hn : fn.ntmps = 6) (hres : fn.results = #[.cell 2 te]) (hkd : ∃ fn, P.funcs[kd]? = some fn ∧ (fn.name == "runtime.NumGoroutine") = false ∧ fn.body.isNone = false)
  (hb : fn.body = some (.seq (.region i0 ⟨[oA]⟩ false) (.seq (.region i1 ⟨[oM, oD]⟩ false) (.seq (.region i2 ⟨[oV, oC]⟩ false) (.seq (.region i3 ⟨[oS]⟩ false) .ret)))))
  (hA : oA.op = .alloc te ∧ oA.guard = none ∧ oA.dst = some 2) (hM : oM.op = .makeFunc (.func kd) ⟨[]⟩ ⟨[.tmp 2]⟩ ∧ oM.guard = none ∧ oM.dst = some 3) (hD : oD.op = .defer { callee := .value (.tmp 3), args := ⟨[]⟩, argTypes := ts } ∧ oD.guard = none ∧ oD.dst = none)
  (hV : oV.op = .move (.tmp 0) ∧ oV.guard = none ∧ oV.dst = some 4) (hC : oC.op = .call { callee := .value (.tmp 4), args := ⟨[]⟩, argTypes := ts2 } ∧ oC.guard = none ∧ oC.dst = some 5) (hS : oS.op = .store te (.tmp 2) (.const (.int .i64 0)) ∧ oS.guard = none ∧ oS.dst = none)
  (hti : tab te = some ⟨.int .i64, 1, 8, [.int .i64 0]⟩) {caps : List AV} {bxs bxs' : List (Id × Bx)} {res : Res} (hclo : IoFn P cf caps bxs res bxs') {e : Int}
  (hd : match res with | .ret _ => e = 0 ∧ DefOk P kd te .returning .returning 0 | .thr chain => ∃ v u', settle u' = .returning ∧ u' ≠ .run ∧ chain = [v] ∧ DefOk P kd te (.panicking chain) u' e) :
  IoFn P k [.fn cf caps] bxs (.ret (.v (.int .i64 e))) (tryOut res bxs') := by
 obtain ⟨inf, z, z1, z2, z3, z4, z5⟩ := (f.tabOk _ _ hti).info;have hu_te := (f.tabOk _ _ hti).und;simp only at hu_te
 have hzc : z.cells = #[.int .i64 0] := by
  have : z.cells.toList = [.int .i64 0] := z5
  cases hz : z.cells with
  | mk l => rw [hz] at this; simp at this; rw [this]
 refine ⟨⟨fn, hf, hname, by rw [hb]; rfl⟩, fun w hp β us hw hbx hβn hr => ?_⟩;refine calls_of_wp_defers hf hb ?_;simp only [RepL, Rep] at hr;obtain ⟨u0, r0, hus, ⟨cu, rfl, hcu⟩, rfl⟩ := hr
 have hus : us = #[.func (.func cf) #[] cu] := by cases us; simp at hus; simp [hus]
 subst hus;rw [hn];obtain ⟨fu, hfu⟩ : ∃ fu : Value, fu = .func (.func cf) #[] cu := ⟨_, rfl⟩;rw [← hfu];obtain ⟨p, hp0⟩ : ∃ p : Value, p = .pointer (some ⟨w.heap.size, 0, none⟩) := ⟨_, rfl⟩;have ha0 : ({ tmps := #[fu] ++ Array.replicate (6 - #[fu].size) undef, defers := [] } : Act) = ⟨#[fu, undef, undef, undef, undef, undef], []⟩ := rfl;rw [ha0]
 -- the variable of the result
 refine wp_seq (wp_region (BD (ops := ⟨[oA]⟩) (i := 0) (o := oA) rfl hA.2.1 (wp_of_run (v := p) (w' := w.alloc (.cells z.cells te)) ?_ ?_)))
 ·have hz : (zeroValue te).run P w = .ok z w := by simp [zeroValue, typeInfo, z1, z4]
  simp only [execOp, hA.1, Instr.alloc, newVar, newRow, Sem.run_bind, hz, Result.andThen];rw [hp0]; rfl
 rw [hA.2.2, show (⟨#[fu, undef, undef, undef, undef, undef], []⟩ : Act).put (some 2) p = ⟨#[fu, undef, p, undef, undef, undef], []⟩ from rfl];show Code.wp _ _ _ _ _
 -- the deferred call
 refine wp_seq (wp_region (BD (ops := ⟨[oM, oD]⟩) (i := 0) (o := oM) rfl hM.2.1 (wp_of_run (v := .func (.func kd) #[] #[p]) (w' := w.alloc (.cells z.cells te)) ?_ ?_)))
 ·simp only [execOp, hM.1, Instr.makeFunc, Sem.run_pure, Sem.run_bind, Result.andThen, List.map_toArray, List.map_cons, List.map_nil]; rfl
 rw [hM.2.2, show (⟨#[fu, undef, p, undef, undef, undef], []⟩ : Act).put (some 3) (.func (.func kd) #[] #[p]) = ⟨#[fu, undef, p, .func (.func kd) #[] #[p], undef, undef], []⟩ from rfl];refine BD (o := oD) rfl hD.2.1 ?_
 have hrunD : (execOp (⟨#[fu, undef, p, .func (.func kd) #[] #[p], undef, undef], []⟩ : Act).eval oD).run P (w.alloc (.cells z.cells te)) = .ok (.defer { target := .fn (.func kd) #[p], args := #[] }) (w.alloc (.cells z.cells te)) := by
  simp only [execOp, hD.1, resolve, Sem.run_bind, Sem.run_pure, Result.andThen, List.map_toArray, List.map_nil]; rfl
 unfold Oper.wp;rw [hrunD];simp only [Oper.upon, hD.2.2];show Code.wp _ _ _ _ _;obtain ⟨d, hd0⟩ : ∃ d : Deferred, d = { target := .fn (.func kd) #[p], args := #[] } := ⟨_, rfl⟩;rw [← hd0];obtain ⟨w1, hw1⟩ : ∃ w1, w1 = w.alloc (.cells z.cells te) := ⟨_, rfl⟩;rw [← hw1];obtain ⟨v3, hv3⟩ : ∃ v3 : Value, v3 = .func (.func kd) #[] #[p] := ⟨_, rfl⟩;rw [← hv3];show Code.wp P _ _ (⟨#[fu, undef, p, v3, undef, undef], [d]⟩ : Act) w1
 have hev1 : Evo DU w hp w1 hp := by rw [hw1]; exact B7 hw _
 have hg1 : w1.heap[w.heap.size]? = some (.cells #[.int .i64 0] te (0, 0)) := by rw [hw1, hzc]; exact heap_alloc_new w _
 have hs1 : w1.heap.size = w.heap.size + 1 := by rw [hw1]; simp
 have hpg : hp w.heap.size = none := Bv hw (Nat.le_refl _)
 have hbx1 : BoxesAt w1 hp β bxs := by rw [hw1]; exact hbx.alloc hw _
 have hnot : ¬ Aj bxs β w.heap.size := by
  rintro ⟨id, B, h1, h2⟩;have := (blk_box (hbx.box id B h1) h2).1;omega
 -- the call
 refine wp_seq (wp_region (BD (ops := ⟨[oV, oC]⟩) (i := 0) (o := oV) rfl hV.2.1 (wp_of_run (v := fu) (w' := w1) ?_ ?_)))
 ·simp only [execOp, hV.1, Sem.run_pure]; rfl
 rw [hV.2.2, show (⟨#[fu, undef, p, v3, undef, undef], [d]⟩ : Act).put (some 4) fu = ⟨#[fu, undef, p, v3, fu, undef], [d]⟩ from rfl];refine BD (o := oC) rfl hC.2.1 ?_
 have hrunC : (execOp (⟨#[fu, undef, p, v3, fu, undef], [d]⟩ : Act).eval oC).run P w1 = .ok (.enter cf cu) w1 := by
  have h1 : (⟨#[fu, undef, p, v3, fu, undef], [d]⟩ : Act).eval (.tmp 4) = .func (.func cf) #[] cu := by rw [← hfu]; rfl
  simp only [execOp, hC.1, resolve, h1, Deferred.ofValue, Sem.run_bind, Sem.run_pure, Result.andThen, invoke, List.map_toArray, List.map_nil];have := Bh hclo.fn (#[] ++ #[] ++ cu) w1;simpa using this
 unfold Oper.wp;rw [hrunC];simp only [Oper.upon, hC.2.2];refine (hclo.calls w1 hp β cu hev1.has hbx1 hβn hcu).mono fun en w2 ⟨h2, β2, hle2, hev2, q⟩ => ?_
 have hg2 : w2.heap[w.heap.size]? = some (.cells #[.int .i64 0] te (0, 0)) := by rw [hev2.block _ (by omega) hnot]; exact hg1
 have hn2 : h2 w.heap.size = none := by
  cases hh : h2 w.heap.size with
  | none => rfl
  | some cs =>
   rcases hev2.fresh w.heap.size (by rw [hh]; simp) with h | h | h
   ·exact absurd hpg h
   ·omega
   ·exact absurd h hnot
 have hinv : ∀ w', (invoke (.fn (.func kd) #[p]) #[]).run P w' = .ok (.enter kd #[.pointer (some ⟨w.heap.size, 0, none⟩)]) w' := by
  intro w';have := Bh hkd (#[] ++ #[p]) w';rw [hp0] at this ⊢;simpa [invoke] using this
 have hev12 : Evo (Aj bxs β) w hp w2 h2 := by
  have h1 : Evo (Aj bxs β) w hp w1 hp := ⟨hev1.os, hev1.tape, hev1.output, hev1.size, fun i hi _ => hev1.block i hi (fun x => x), hev1.le, fun b hb => .inl hb, hev1.has⟩;exact h1.trans hev2 fun g hg => .inl hg
 -- what is left to do: the deferred call, the result
 have hlast : ∀ (β2 : Bt), β.le β2 → ∀ (a5 : Value) (u u' : FrameMode) (w3 : World) (bxs2 : List (Id × Bx)), u ≠ .run → settle u' = .returning → DefOk P kd te u u' e → Evo (fun b => b = w.heap.size) w2 h2 w3 h2 → w3.heap[w.heap.size]? = some (.cells #[.int .i64 0] te (0, 0)) → BoxesAt w2 h2 β2 bxs2 → (∀ id g, id ∉ idsB bxs → blk (β2 id) = some g → w1.heap.size ≤ g) → (∀ id B g, Al bxs2 id = some B → blk (β2 id) = some g → g ≠ w.heap.size) →
   Leaves P fn #[fu, undef, p, v3, fu, a5] (fun e_1 w' => ∃ h' β', β.le β' ∧ Evo (Aj bxs β) w hp w' h' ∧ ∃ u, e_1 = Ending.returned u ∧ BoxesAt w' h' β' bxs2 ∧ Rep h' β' (AV.v (.int .i64 e)) u ∧ ∀ id g, id ∉ idsB bxs → blk (β' id) = some g → w.heap.size ≤ g) [d] u w3 := by
  intro β2 hle2 a5 u u' w3 bxs2 hu hset hdef hev3 hg3 hb2 hnew hne;rw [hd0];refine leaves_cons hu (hinv w3) ((hdef w3 h2 w.heap.size hev3.has hg3 hn2).mono ?_);rintro en u'' w4 ⟨rfl, h4, hev4, ⟨v, rfl⟩, hg4, hn4⟩;show Leaves P fn _ _ [] (settle u'') w4;rw [hset]
  have hrun : (results fn #[fu, undef, p, v3, fu, a5]).run P w4 = .ok (.int .i64 e) w4 := by
   have hl : (loadVar te ⟨w.heap.size, 0, none⟩).run P w4 = .ok (.int .i64 e) w4 := by
    have hisA : (isAgg te).run P w4 = .ok false w4 := by
     simp only [isAgg, Sem.run_bind, run_underlying hu_te]; rfl
    have hcell : w4.cell? ⟨w.heap.size, 0, none⟩ = some (.int .i64 e) := by simp [World.cell?, hg4]
    simp only [loadVar, Sem.run_bind, hisA, Result.andThen, Bool.false_eq_true, if_false, run_load, hcell]
   have hp2 : (#[fu, undef, p, v3, fu, a5] : Array Value).getD 2 undef = .pointer (some ⟨w.heap.size, 0, none⟩) := by rw [hp0]; rfl
   simp [results, hres, hp0, asAddr, hl]
  refine ⟨_, hrun, h4, β2, hle2, (hev12.trans hev3 fun g hg => .inr (by rw [hg]; exact Nat.le_refl _)).trans hev4 fun g hg => .inr (by rw [hg]; exact Nat.le_refl _), _, rfl, ⟨fun id B hB => ?_, hb2.apart⟩, by simp only [Rep], fun id g h1 h2 => by have := hnew id g h1 h2; omega⟩;refine (hb2.box id B hB).keep (hev3.le.trans hev4.le) (AQ _) fun g hg => ?_;have hb3 := blk_box (hb2.box id B hB) hg;have hgne := hne id B g hB hg;have hs3 : g < w3.heap.size := Nat.lt_of_lt_of_le hb3.1 hev3.size;refine ⟨by rw [hev4.block g hs3 hgne, hev3.block g hb3.1 hgne], ?_⟩
  cases hh : h4 g with
  | none => rfl
  | some cs =>
   rcases hev4.fresh g (by rw [hh]; simp) with h | h | h
   ·exact absurd hb3.2 h
   ·omega
   ·exact absurd h hgne
 cases res with
 | thr chain =>
  have q : en = .panicked chain := q;subst q;obtain ⟨v, u', hd1, hd2, rfl, hd3⟩ := hd;show Leaves P fn _ _ [d] (.panicking [v]) w2;refine hlast β (AQ β) undef _ u' w2 [] (by simp) hd1 hd3 ?_ hg2 ⟨fun id B hB => by simp [Al] at hB, fun _ _ _ _ hB => by simp [Al] at hB⟩ ?_ (fun id B g hB => by simp [Al] at hB)
  ·exact ⟨rfl, rfl, ⟨rfl, Nat.le_refl _⟩, Nat.le_refl _, fun _ _ _ => rfl, AZ _, fun _ hb => .inl hb, hev2.has⟩
  ·intro id g h1 h2; rw [hβn id h1] at h2; simp [blk] at h2
 | ret r =>
  obtain ⟨u, rfl, hbx2, hru, hnew⟩ := q;obtain ⟨rfl, hd3⟩ := hd;simp only [wpOps];show Code.wp P _ _ (⟨#[fu, undef, p, v3, fu, u], [d]⟩ : Act) w2;have hst := run_storeCells_at (P := P) w.heap.size 0 te [.int .i64 0] 0 #[.int .i64 0] w2 hg2 (by simp) (by simp [Value.oneCell'])
  have hrunS : (execOp (⟨#[fu, undef, p, v3, fu, u], [d]⟩ : Act).eval oS).run P w2 = .ok .skip (w2.setRow w.heap.size #[.int .i64 0]) := by
   have h1 : (⟨#[fu, undef, p, v3, fu, u], [d]⟩ : Act).eval (.tmp 2) = .pointer (some ⟨w.heap.size, 0, none⟩) := by rw [← hp0]; rfl
   have h2 : (⟨#[fu, undef, p, v3, fu, u], [d]⟩ : Act).eval (.const (.int .i64 0)) = .int .i64 0 := rfl
   have h3 : ¬ (Value.int .i64 0).cells.size ≠ 1 := by simp [Value.cells]
   simp only [execOp, hS.1, h1, h2, Instr.storeAt, Instr.sureAddr, storeVar, Sem.run_bind, Sem.run_pure, Result.andThen, BK (f.tabOk _ _ hti), if_neg h3];simp only [Value.cells] at hst ⊢;rw [hst];rfl
  refine wp_seq (wp_region (BD (ops := ⟨[oS]⟩) (i := 0) (o := oS) rfl hS.2.1 ?_));unfold Oper.wp;rw [hrunS];simp only [Oper.upon, hS.2.2, wpOps];refine wp_ret ?_;show Leaves P fn _ _ [d] .returning (w2.setRow w.heap.size #[.int .i64 0]);refine hlast β2 hle2 u _ .returning _ bxs' (by simp) rfl hd3 ?_ ?_ hbx2 hnew ?_
  ·exact evo_of hev2.has rfl rfl ⟨rfl, Nat.le_refl _⟩ (by simp) (fun i _ hi => setRow_other w2 w.heap.size i _ (fun e => hi e)) (fun g hg => by rw [hg]; exact hn2)
  ·exact setRow_heap w2 w.heap.size _ _ te _ hg2
  ·intro id B g h1 h2 h3;rcases Classical.em (id ∈ idsB bxs) with hm | hm
   ·obtain ⟨B', hB'⟩ := An bxs id hm;have hbv := hbx.box id B' hB'
    have hg0 : blk (β id) = some g := by
     have : ∃ v, β id = some v := by
      cases B' with
      | cells cs t => obtain ⟨g, us, e, _⟩ := hbv; exact ⟨_, e⟩
      | row sz enc xs t => obtain ⟨v, vals, e, _⟩ := hbv; exact ⟨_, e⟩
      | map ek av xs c => obtain ⟨g, es, e, _⟩ := hbv; exact ⟨_, e⟩
      | iter m a' l c => obtain ⟨r, g, e, _⟩ := hbv; exact ⟨_, e⟩
     obtain ⟨v, hv⟩ := this;rw [hle2 _ _ hv, ← hv] at h2; exact h2
    have := (blk_box hbv hg0).1;omega
   ·have := hnew id g hm h2;omega
end
end Go.AL
/- Loads from cells that stay az they are all through a region. -/
namespace Go.AL
def lookJ : Inv → Id → Nat → Option (List AV)
  | [], _, _ => none
  | (b, off, vs) :: r, b', off' => match Nat.beq b b' && Nat.beq off off' with | true => some vs | false => lookJ r b' off'
theorem lookJ_mem : ∀ (J : Inv) (b : Id) (off : Nat) (vs : List AV), lookJ J b off = some vs → (b, off, vs) ∈ J
 | [], _, _, _, h => by simp [lookJ] at h
 | (b, off, vs) :: r, b', off', vs', h => by
  simp only [lookJ] at h;split at h
  ·rename_i hb;simp only [Bool.and_eq_true] at hb;injection h with h; subst h;rw [← Nat.eq_of_beq_eq_true hb.1, ← Nat.eq_of_beq_eq_true hb.2]; simp
  ·exact List.mem_cons_of_mem _ (lookJ_mem r b' off' vs' h)
theorem ofCells_take {agg : Bool} {n : Nat} {cs vs : List AV} {v : AV} (ht : cs.take vs.length = vs) (hn : vs.length = n) (h : A6 agg n vs = some v) : A6 agg n cs = some v := by
 have hl : vs.length ≤ cs.length := by
  have := congrArg List.length ht;rw [List.length_take] at this; omega
 cases agg with
 | true =>
  simp only [A6] at h ⊢;rw [show Nat.ble n vs.length = true from Nat.ble_eq_true_of_le (by omega)] at h;rw [show Nat.ble n cs.length = true from Nat.ble_eq_true_of_le (by omega)];rw [← hn] at h ⊢;rw [List.take_length] at h;simp only [ht]; exact h
 | false =>
  cases vs with
  | nil => simp [A6] at h
  | cons c r =>
   cases cs with
   | nil => simp at ht
   | cons d q => simp at ht; simp only [A6] at h ⊢; rw [ht.1]; exact h
section
variable {P : Program} {tab : Tab} {n : Nat} {s : St}
variable {ops : Array Oper} {draw : Dr} {o : Oper} {l : List Oper} {acc : List Eff} {K : Exit → St → Prop}
theorem OpI.ldJ (ht : A3 P tab) (hd : ∀ d, o.dst = some d → d < n) {J : Inv} {t : TypeId} {x : Operand} (hop : o.op = .load t x) {b : Id} {off : Nat} (hx : opd s x = .ptr b off) {vs : List AV} (hJ : lookJ J b off = some vs) {i : TI} (hti : tab t = some i) (hn : vs.length = i.size) {v : AV} (hv : A6 (aggD i.desc) i.size vs = some v) : OpI P n J o s ⟨v, [], [], [], []⟩ := by
 refine ⟨hd, fun C s' a w h β Q K hi hs _ _ k hK => ?_⟩
 have hxs : opd s' x = opd s x := by
  cases x with
  | tmp t => exact hs t (by rw [hop]; simp [Op.operands])
  | _ => rfl
 obtain ⟨cs, t', h1, h2⟩ := hi _ _ _ (lookJ_mem J b off vs hJ)
 have hval : Ao tab s' o.op = some v := by
  rw [hop];show loadV tab s' t (opd s' x) = some v;rw [hxs, hx];simp only [loadV, h1, hti];exact ofCells_take h2 hn hv
 obtain ⟨u, hu1, hu2⟩ := val_run ht k hval;unfold Oper.wp;rw [hu1];simp only [Oper.upon];exact hK _ _ h β (k.val o.dst hd hu2 [])
theorem Fl.ldJ [f : Facts P tab] {t : TypeId} {x : Operand} (hop : o.op = .load t x) {b : Id} {off : Nat} (hx : opd s x = .ptr b off) {vs : List AV} (hJ : lookJ draw.J b off = some vs) {i : TI} (hti : tab t = some i) (hn : vs.length = i.size) {v : AV} (hv : A6 (aggD i.desc) i.size vs = some v) (hg : gOk ops s o = true) (hd : dOk n o.dst = true)
  (r : Fl P n ops draw l ((Eff.mk v [] [] [] []).app o.dst s) (Eff.mk v [] [] [] [] :: acc) K) : Fl P n ops draw (o :: l) s acc K :=
 Fl.opI hg (OpI.ldJ f.tabOk (AY hd) hop hx hJ hti hn hv) rfl (PresJ.val _ _ _) r
end
end Go.AL
namespace Go.AL
theorem InvJ.cons {b : Id} {off : Nat} {vs : List AV} {r : Inv} {s : St} (h : ∃ cs t, s.bx b = some (.cells cs t) ∧ (cs.drop off).take vs.length = vs) (k : InvJ r s) : InvJ ((b, off, vs) :: r) s := by
 intro b' off' vs' hm;rcases List.mem_cons.1 hm with hm | hm
 ·injection hm with h1 h2; injection h2 with h2 h3; subst h1 h2 h3; exact h
 ·exact k _ _ _ hm
end Go.AL
/- Arrays: an element of an array's value; the address of an element of an array variable. -/
namespace Go.AL
section
variable {P : Program} {tab : Tab} {n : Nat} {s : St}
variable {ops : Array Oper} {draw : Dr} {o : Oper} {l : List Oper} {acc : List Eff} {K : Exit → St → Prop}
theorem OpJ.ixA (ht : A3 P tab) (hd : ∀ d, o.dst = some d → d < n) {t : TypeId} {x y : Operand} (hop : o.op = .index t x y) {e : TypeId} {i : TI} {len sz' by' : Nat} {z : List Value} (hts : tab t = some ⟨.array len e, sz', by', z⟩) (hti : tab e = some i) (hag : aggD i.desc = false) (hsz : i.size = 1) {cs : List AV} (hx : opd s x = .agg cs) {k : IntKind} {m : Int} (hy : opd s y = .v (.int k m)) (h0 : 0 ≤ m) (h1 : m < len) {v : AV} (hv : cs[m.toNat]? = some v) :
  OpJ P n o s ⟨v, [], [], [], []⟩ := by
 refine AN hd fun C s' a w h β ho _ b => ?_;have hxr := AJ b x;have hyr := AJ b y;rw [ho x (by simp [hop, Op.operands]), hx] at hxr;rw [ho y (by simp [hop, Op.operands]), hy] at hyr;simp only [Rep] at hxr hyr;obtain ⟨us, e1, hr⟩ := hxr;obtain ⟨u, hu1, hu2⟩ := hr.get _ _ hv;have hu := (ht _ _ hts).und;simp only at hu;have hi := ht _ _ hti
 have hisA : (isAgg e).run P w = .ok false w := by
  simp only [isAgg, Sem.run_bind, run_underlying hi.und]
  cases hd : i.desc <;> simp [hd, aggD] at hag <;> rfl
 have hu1' : us[m.toNat]? = some u := by simpa using hu1
 refine ⟨u, ?_, hu2⟩;simp only [execOp, hop, e1, hyr, Instr.index, asIntOf, Sem.run_bind, Sem.run_pure, Result.andThen, run_underlying hu];rw [if_pos ⟨h0, h1⟩];simp only [Sem.run_bind, BK hi, Result.andThen, part, hisA, Bool.false_eq_true, if_false, hsz, Nat.mul_one, hu1', Sem.run_pure]
theorem Fl.ixA [f : Facts P tab] {t : TypeId} {x y : Operand} (hop : o.op = .index t x y) {e : TypeId} {i : TI} {len sz' by' : Nat} {z : List Value} (hts : tab t = some ⟨.array len e, sz', by', z⟩) (hti : tab e = some i) (hag : aggD i.desc = false) (hsz : i.size = 1) {cs : List AV} (hx : opd s x = .agg cs) {k : IntKind} {m : Int} (hy : opd s y = .v (.int k m)) {v : AV} (hv : cs[m.toNat]? = some v) (hg : gOk ops s o = true) (hd : dOk n o.dst = true) (h0 : 0 ≤ m) (h1 : m < len)
  (r : Fl P n ops draw l ((Eff.mk v [] [] [] []).app o.dst s) (Eff.mk v [] [] [] [] :: acc) K) : Fl P n ops draw (o :: l) s acc K :=
 Ab hg (OpJ.ixA f.tabOk (AY hd) hop hts hti hag hsz hx hy h0 h1 hv) r
def buildArr (tab : Tab) (s : St) (t : TypeId) (parts : List (Nat × Operand)) : Option AV :=
  match tab t with
  | some ⟨.array _ e, _, _, z⟩ => match tab e with
    | some i => match fillA (fun k => some (k * i.size, i.size)) (vL z) (opPs s parts) with
      | some cs => Dw cs fun cs => some (.agg cs)
      | none => none
    | none => none
  | _ => none
theorem OpJ.buildArr (ht : A3 P tab) (hd : ∀ d, o.dst = some d → d < n) {t : TypeId} {parts : List (Nat × Operand)} (hop : o.op = .build t ⟨parts⟩) {v : AV} (hv : buildArr tab s t parts = some v) : OpJ P n o s ⟨v, [], [], [], []⟩ := by
 refine AN hd fun C s' a w h β ho _ k => ?_;have hps : opPs s' parts = opPs s parts := D5 parts fun x hx => ho x (by rw [hop]; simpa [Op.operands] using hx);unfold Go.AL.buildArr at hv;split at hv
 ·rename_i len e sz by' z hti;split at hv
  ·rename_i i hei;split at hv
   ·rename_i cs hf;rw [DE] at hv;injection hv with hv; subst hv;have hi := ht _ _ hti;obtain ⟨inf, zv, h1, h2, h3, h4, h5⟩ := hi.info;simp only at h5
    have hz : (zeroValue t).run P w = .ok zv w := by simp [zeroValue, typeInfo, h1, h4]
    obtain ⟨cells', hc1, hc2⟩ := fillA_ok (h := h) (β := β) (place := fun k => some (k * i.size, i.size)) (opPs s' parts) (parts.map fun p => (p.1, a.eval p.2)) (vL z) cs zv.cells (by rw [(CC s' parts).1]; simp) (by rw [(CC s' parts).2]; have hq := Br k (parts.map (·.2)); rw [List.map_map] at hq ⊢; exact hq)
     (by rw [h5]; exact DK _) (by rw [hps]; exact hf)
    refine ⟨.agg cells', ?_, by simp only [Rep]; exact ⟨_, rfl, hc2⟩⟩;simp only [execOp, hop, Instr.build, Sem.run_bind, hz, Result.andThen, run_underlying hi.und, BK (ht _ _ hei), List.map_toArray, hc1, Sem.run_pure]
   ·cases hv
  ·cases hv
 ·cases hv
theorem Fl.bArr [f : Facts P tab] {t : TypeId} {parts : List (Nat × Operand)} (hop : o.op = .build t ⟨parts⟩) (hg : gOk ops s o = true) (hd : dOk n o.dst = true) {v : AV} (hv : buildArr tab s t parts = some v)
  (r : Fl P n ops draw l ((Eff.mk v [] [] [] []).app o.dst s) (Eff.mk v [] [] [] [] :: acc) K) : Fl P n ops draw (o :: l) s acc K :=
 Ab hg (OpJ.buildArr f.tabOk (AY hd) hop hv) r
theorem OpJ.makeC (ht : A3 P tab) (hd : ∀ d, o.dst = some d → d < n) {t : TypeId} {x y : Operand} (hop : o.op = .makeSlice t x y) {e : TypeId} {i : TI} {sz' by' : Nat} {z : List Value} (hts : tab t = some ⟨.slice e, sz', by', z⟩) (hti : tab e = some i)
  {k k' : IntKind} {m m' : Int} (hx : opd s x = .v (.int k m)) (hy : opd s y = .v (.int k' m')) (hmm : m' = m) (h0 : 0 ≤ m) (hby : m * i.bytes ≤ 281474976710656) (hm : m ≤ 9223372036854775807) (hpos : 0 < i.size) {α : Type} (enc : α → List AV) (x0 : α) (hz : LeL (vL i.zero) (enc x0)) (hlen : (enc x0).length = i.size) (hmm2 : m ≤ maxLen) :
  OpJ P n o s ⟨.sl i.size enc (List.replicate m.toNat x0), [], [], [], []⟩ := by
 subst hmm;refine ⟨hd, fun C s' a w h β Q K hs hb _ b hK => ?_⟩
 have same : ∀ z : Operand, (z = x ∨ z = y) → opd s' z = opd s z := by
  intro z hz
  cases z with
  | tmp t => exact hs t (by rw [hop]; simpa [Op.operands] using hz)
  | _ => rfl
 have hxr := AJ b x;have hyr := AJ b y;rw [same x (.inl rfl), hx] at hxr;rw [same y (.inr rfl), hy] at hyr;simp only [Rep] at hxr hyr;obtain ⟨inf, zv, h1, h2, h3, h4, h5⟩ := (ht e i hti).info;have hu := (ht _ _ hts).und;simp only at hu;obtain ⟨c, rfl⟩ := Int.eq_ofNat_of_zero_le h0
 have hzs : zv.cells.size = i.size := by rw [← Array.length_toList, h5, (ht e i hti).zs]
 have hmk := run_make (P := P) w t e inf zv hu h1 h4 k k' (c : Int) (c : Int) h0 (Int.le_refl _) (by rw [h3, Int.mul_comm]; exact hby) hm;rw [Int.toNat_natCast, h2] at hmk
 have hrun : (execOp a.eval o).run P w = .ok (.value (.slice (some ⟨w.heap.size, 0, none⟩) c c)) (w.alloc (.cells (madeCells zv.cells (c * i.size)) e)) := by
  simp only [execOp, hop, hxr, hyr, Sem.run_bind, hmk, Result.andThen, Sem.run_pure]
 unfold Oper.wp;rw [hrun];simp only [Oper.upon];have hev := evo_alloc_fixed b.evo.has (madeCells zv.cells (c * i.size)) e w rfl rfl ⟨rfl, Nat.le_refl _⟩ rfl;refine hK _ _ (h.set w.heap.size (madeCells zv.cells (c * i.size))) β (Base.val (b.step hev) o.dst hd ?_ [])
 have hml : (madeCells zv.cells (c * i.size)).toList = (List.replicate c zv.cells.toList).flatten := by rw [← hzs]; exact made_flat _ _
 have hzr : RepL (h.set w.heap.size (madeCells zv.cells (c * i.size))) noB (enc x0) zv.cells.toList := hz _ _ _ (by rw [h5]; exact DK _);simp only [Rep];refine ⟨some ⟨w.heap.size, 0, none⟩, c, by simp, by simp, by omega, fun j x hx => ?_⟩
 have hjc : j < c := by
  have := (List.getElem?_eq_some_iff.1 hx).1;simpa using this
 have hxe : x = x0 := List.eq_of_mem_replicate (List.mem_of_getElem? hx);subst hxe;refine ⟨⟨w.heap.size, 0, none⟩, zv.cells.toList, rfl, by rw [Array.length_toList]; exact hzs, hzr, fun q u hq => ?_⟩
 have hqs : q < i.size := by rw [← hzs, ← Array.length_toList]; exact (List.getElem?_eq_some_iff.1 hq).1
 have hadd : (⟨w.heap.size, 0, none⟩ : Addr).add (j * i.size + q) = ⟨w.heap.size, j * i.size + q, none⟩ := by unfold Addr.add; split <;> simp_all
 rw [hadd];refine ⟨rfl, _, Hp.set_same _ _ _, ?_⟩
 have hmod : (j * i.size + q) % i.size = q := by rw [Nat.add_comm, Nat.add_mul_mod_self_right, Nat.mod_eq_of_lt hqs]
 rw [← Array.getElem?_toList, hml, flat_rep, Array.length_toList, hzs];show (if j * i.size + q < c * i.size then zv.cells.toList[(j * i.size + q) % i.size]? else none) = some u;rw [if_pos ?_, hmod]
 ·exact hq
 ·have : (j + 1) * i.size ≤ c * i.size := Nat.mul_le_mul_right _ (by omega);rw [Nat.add_mul] at this; omega
theorem Fl.makeC [f : Facts P tab] {t : TypeId} {x y : Operand} (hop : o.op = .makeSlice t x y) (hg : gOk ops s o = true) (hd : dOk n o.dst = true) {e : TypeId} {i : TI} {sz' by' : Nat} {z : List Value} (hts : tab t = some ⟨.slice e, sz', by', z⟩) (hti : tab e = some i)
  {k k' : IntKind} {m m' : Int} (hx : opd s x = .v (.int k m)) (hy : opd s y = .v (.int k' m')) (hmm : m' = m) (hpos : Nat.blt 0 i.size = true) {α : Type} (enc : α → List AV) (x0 : α) (hz : LeL (vL i.zero) (enc x0)) (hlen : Nat.beq (enc x0).length i.size = true) (h0 : 0 ≤ m) (hby : m * i.bytes ≤ 281474976710656) (hm : m ≤ 1000000000)
  (r : Fl P n ops draw l ((Eff.mk (.sl i.size enc (List.replicate m.toNat x0)) [] [] [] []).app o.dst s) (Eff.mk (.sl i.size enc (List.replicate m.toNat x0)) [] [] [] [] :: acc) K) : Fl P n ops draw (o :: l) s acc K :=
 Ab hg (OpJ.makeC f.tabOk (AY hd) hop hts hti hx hy hmm h0 hby (by omega) (ltOf hpos) enc x0 hz (Nat.eq_of_beq_eq_true hlen) (by simp only [maxLen]; omega)) r
def litL : List AV → Option (List Value)
  | [] => some []
  | .v u :: r => match litL r with | some us => some (u :: us) | none => none
  | _ :: _ => none
theorem litL_rep {h : Hp} {β : Bt} : ∀ {cs : List AV} {us vs : List Value}, litL cs = some vs → RepL h β cs us → us = vs
 | [], us, vs, h1, h2 => by simp only [litL] at h1; injection h1 with h1; subst h1; simpa only [RepL] using h2
 | c :: cs, us, vs, h1, h2 => by
  simp only [RepL] at h2;obtain ⟨u, r, rfl, h3, h4⟩ := h2
  cases c with
  | v x =>
   simp only [litL] at h1;split at h1
   ·rename_i ws hws;injection h1 with h1; subst h1;simp only [Rep] at h3;rw [h3, litL_rep hws h4]
   ·cases h1
  | _ => simp [litL] at h1
theorem Fl.eqV [f : Facts P tab] {t t' : TypeId} {x y : Operand} (hop : o.op = .binOp .eql t x y t') {cs ds : List AV} (hx : opd s x = .agg cs) (hy : opd s y = .agg ds) {us vs : List Value} (h1 : litL cs = some us) (h2 : litL ds = some vs) (r0 : Bool) (hg : gOk ops s o = true) (hd : dOk n o.dst = true)
  (hgd : ∀ w : World, (eqGuard .eql t x y (.agg us.toArray) (.agg vs.toArray)).run P w = .ok () w) (hrun : ∀ w : World, (binOp .eql t (.agg us.toArray) (.agg vs.toArray)).run P w = .ok (.bool r0) w)
  (r : Fl P n ops draw l ((Eff.mk (.v (.bool r0)) [] [] [] []).app o.dst s) (Eff.mk (.v (.bool r0)) [] [] [] [] :: acc) K) : Fl P n ops draw (o :: l) s acc K := by
 refine Ab hg (AN (tb := []) (AY hd) fun C s' a w h β ho _ k => ?_) r;have hxr := AJ k x;have hyr := AJ k y;rw [ho x (by rw [hop]; simp [Op.operands]), hx] at hxr;rw [ho y (by rw [hop]; simp [Op.operands]), hy] at hyr;simp only [Rep] at hxr hyr;obtain ⟨us', e1, hr1⟩ := hxr;obtain ⟨vs', e2, hr2⟩ := hyr
 have e3 : us' = us.toArray := by rw [← litL_rep h1 hr1]
 have e4 : vs' = vs.toArray := by rw [← litL_rep h2 hr2]
 refine ⟨.bool r0, ?_, by simp only [Rep]⟩;simp only [execOp, hop, e1, e2, e3, e4, Sem.run_bind, hgd w, Result.andThen, hrun w, Sem.run_pure]
end
end Go.AL
/- The types of this seat. Written by tab.py. -/
namespace Go.Proofs.YtmmfloplhopioaaGreat
open Go.AL
abbrev ty3 : TI := ⟨.int .i64, 1, 8, [.int .i64 0]⟩
abbrev ty94 : TI := ⟨.int .u32, 1, 4, [.int .u32 0]⟩
abbrev ty46 : TI := ⟨.slice 94, 1, 24, [.slice none 0 0]⟩
abbrev ty48 : TI := ⟨.struct #[{ name := "Neg", type := 4, offset := 0, embedded := false, tag := "", pkgPath := "", byteOffset := 0 }, { name := "Words", type := 46, offset := 1, embedded := false, tag := "", pkgPath := "", byteOffset := 8 }], 2, 32, [.bool false, .slice none 0 0]⟩
abbrev ty4 : TI := ⟨.bool, 1, 1, [.bool false]⟩
abbrev ty92 : TI := ⟨.int .u64, 1, 8, [.int .u64 0]⟩
abbrev ty25 : TI := ⟨.slice 3, 1, 24, [.slice none 0 0]⟩
abbrev ty33 : TI := ⟨.slice 48, 1, 24, [.slice none 0 0]⟩
abbrev ty158 : TI := ⟨.struct #[{ name := "Coef", type := 48, offset := 0, embedded := false, tag := "", pkgPath := "", byteOffset := 0 }, { name := "Exps", type := 25, offset := 2, embedded := false, tag := "", pkgPath := "", byteOffset := 32 }], 3, 56, [.bool false, .slice none 0 0, .slice none 0 0]⟩
abbrev ty103 : TI := ⟨.slice 158, 1, 24, [.slice none 0 0]⟩
abbrev ty105 : TI := ⟨.struct #[{ name := "Vars", type := 3, offset := 0, embedded := false, tag := "", pkgPath := "", byteOffset := 0 }, { name := "Terms", type := 103, offset := 1, embedded := false, tag := "", pkgPath := "", byteOffset := 8 }], 2, 32, [.int .i64 0, .slice none 0 0]⟩
abbrev ty2 : TI := ⟨.int .i64, 1, 8, [.int .i64 0]⟩
abbrev ty5 : TI := ⟨.int .u8, 1, 1, [.int .u8 0]⟩
abbrev ty9 : TI := ⟨.string, 1, 16, [.string ⟨#[]⟩]⟩
abbrev ty12 : TI := ⟨.int .u64, 1, 8, [.int .u64 0]⟩
abbrev ty21 : TI := ⟨.int .i32, 1, 4, [.int .i32 0]⟩
abbrev ty22 : TI := ⟨.slice 77, 1, 24, [.slice none 0 0]⟩
abbrev ty24 : TI := ⟨.struct #[{ name := "Regs", type := 3, offset := 0, embedded := false, tag := "", pkgPath := "", byteOffset := 0 }, { name := "Code", type := 22, offset := 1, embedded := false, tag := "", pkgPath := "", byteOffset := 8 }], 2, 32, [.int .i64 0, .slice none 0 0]⟩
abbrev ty26 : TI := ⟨.pointer 79, 1, 8, [.pointer none]⟩
abbrev ty30 : TI := ⟨.slice 71, 1, 24, [.slice none 0 0]⟩
abbrev ty34 : TI := ⟨.int .i64, 1, 8, [.int .i64 0]⟩
abbrev ty37 : TI := ⟨.slice 99, 1, 24, [.slice none 0 0]⟩
abbrev ty39 : TI := ⟨.struct #[{ name := "Vars", type := 3, offset := 0, embedded := false, tag := "", pkgPath := "", byteOffset := 0 }, { name := "Links", type := 37, offset := 1, embedded := false, tag := "", pkgPath := "", byteOffset := 8 }], 2, 32, [.int .i64 0, .slice none 0 0]⟩
abbrev ty71 : TI := ⟨.struct #[{ name := "At", type := 3, offset := 0, embedded := false, tag := "", pkgPath := "", byteOffset := 0 }, { name := "Regs", type := 25, offset := 1, embedded := false, tag := "", pkgPath := "", byteOffset := 8 }], 2, 32, [.int .i64 0, .slice none 0 0]⟩
abbrev ty77 : TI := ⟨.struct #[{ name := "Op", type := 3, offset := 0, embedded := false, tag := "", pkgPath := "", byteOffset := 0 }, { name := "Reg", type := 3, offset := 1, embedded := false, tag := "", pkgPath := "", byteOffset := 8 }, { name := "Next", type := 3, offset := 2, embedded := false, tag := "", pkgPath := "", byteOffset := 16 }, { name := "Zero", type := 3, offset := 3, embedded := false, tag := "", pkgPath := "", byteOffset := 24 }], 4, 32, [.int .i64 0, .int .i64 0, .int .i64 0, .int .i64 0]⟩
abbrev ty79 : TI := ⟨.struct #[{ name := "m", type := 24, offset := 0, embedded := false, tag := "", pkgPath := "arithmancy/arithmancytop", byteOffset := 0 }, { name := "at", type := 3, offset := 2, embedded := false, tag := "", pkgPath := "arithmancy/arithmancytop", byteOffset := 32 }, { name := "regs", type := 25, offset := 3, embedded := false, tag := "", pkgPath := "arithmancy/arithmancytop", byteOffset := 40 }, { name := "done", type := 4, offset := 4, embedded := false, tag := "", pkgPath := "arithmancy/arithmancytop", byteOffset := 64 }], 5, 72, [.int .i64 0, .slice none 0 0, .int .i64 0, .slice none 0 0, .bool false]⟩
abbrev ty82 : TI := ⟨.struct #[{ name := "m", type := 24, offset := 0, embedded := false, tag := "", pkgPath := "arithmancy/history", byteOffset := 0 }, { name := "x", type := 25, offset := 2, embedded := false, tag := "", pkgPath := "arithmancy/history", byteOffset := 32 }, { name := "vars", type := 3, offset := 3, embedded := false, tag := "", pkgPath := "arithmancy/history", byteOffset := 56 }, { name := "add", type := 3, offset := 4, embedded := false, tag := "", pkgPath := "arithmancy/history", byteOffset := 64 }], 5, 72, [.int .i64 0, .slice none 0 0, .slice none 0 0, .int .i64 0, .int .i64 0]⟩
abbrev ty95 : TI := ⟨.int .u64, 1, 8, [.int .u64 0]⟩
abbrev ty97 : TI := ⟨.slice 105, 1, 24, [.slice none 0 0]⟩
abbrev ty99 : TI := ⟨.struct #[{ name := "Kind", type := 3, offset := 0, embedded := false, tag := "", pkgPath := "", byteOffset := 0 }, { name := "Vars", type := 25, offset := 1, embedded := false, tag := "", pkgPath := "", byteOffset := 8 }, { name := "Polys", type := 97, offset := 2, embedded := false, tag := "", pkgPath := "", byteOffset := 32 }], 3, 56, [.int .i64 0, .slice none 0 0, .slice none 0 0]⟩
abbrev ty100 : TI := ⟨.pointer 102, 1, 8, [.pointer none]⟩
abbrev ty102 : TI := ⟨.struct #[{ name := "n", type := 3, offset := 0, embedded := false, tag := "", pkgPath := "arithmancy/arithmancyref14", byteOffset := 0 }, { name := "links", type := 37, offset := 1, embedded := false, tag := "", pkgPath := "arithmancy/arithmancyref14", byteOffset := 8 }], 2, 32, [.int .i64 0, .slice none 0 0]⟩
abbrev ty124 : TI := ⟨.pointer 127, 1, 8, [.pointer none]⟩
abbrev ty127 : TI := ⟨.struct #[{ name := "m", type := 24, offset := 0, embedded := false, tag := "", pkgPath := "arithmancy/register", byteOffset := 0 }, { name := "c", type := 71, offset := 2, embedded := false, tag := "", pkgPath := "arithmancy/register", byteOffset := 32 }], 4, 64, [.int .i64 0, .slice none 0 0, .int .i64 0, .slice none 0 0]⟩
abbrev ty139 : TI := ⟨.pointer 144, 1, 8, [.pointer none]⟩
abbrev ty141 : TI := ⟨.struct #[{ name := "vars", type := 3, offset := 0, embedded := false, tag := "", pkgPath := "arithmancy/expr", byteOffset := 0 }], 1, 8, [.int .i64 0]⟩
abbrev ty144 : TI := ⟨.struct #[{ name := "sizes", type := 82, offset := 0, embedded := true, tag := "", pkgPath := "arithmancy/history", byteOffset := 0 }, { name := "Kit", type := 141, offset := 5, embedded := true, tag := "", pkgPath := "", byteOffset := 72 }, { name := "q", type := 105, offset := 6, embedded := false, tag := "", pkgPath := "arithmancy/history", byteOffset := 80 }, { name := "all", type := 105, offset := 8, embedded := false, tag := "", pkgPath := "arithmancy/history", byteOffset := 112 }, { name := "list", type := 37, offset := 10, embedded := false, tag := "", pkgPath := "arithmancy/history", byteOffset := 144 }], 11, 168, [.int .i64 0, .slice none 0 0, .slice none 0 0, .int .i64 0, .int .i64 0, .int .i64 0, .int .i64 0, .slice none 0 0, .int .i64 0, .slice none 0 0, .slice none 0 0]⟩
abbrev ty181 : TI := ⟨.pointer 3, 1, 8, [.pointer none]⟩
abbrev ty182 : TI := ⟨.slice 94, 1, 24, [.slice none 0 0]⟩
abbrev ty186 : TI := ⟨.slice 5, 1, 24, [.slice none 0 0]⟩
abbrev ty215 : TI := ⟨.array 4 3, 4, 32, [.int .i64 0, .int .i64 0, .int .i64 0, .int .i64 0]⟩
abbrev ty219 : TI := ⟨.int .i64, 1, 8, [.int .i64 0]⟩
abbrev ty227 : TI := ⟨.pointer 245, 1, 8, [.pointer none]⟩
abbrev ty228 : TI := ⟨.pointer 249, 1, 8, [.pointer none]⟩
abbrev ty240 : TI := ⟨.struct #[{ name := "chi", type := 48, offset := 0, embedded := false, tag := "", pkgPath := "arithmancy/lucas", byteOffset := 0 }, { name := "psi", type := 48, offset := 2, embedded := false, tag := "", pkgPath := "arithmancy/lucas", byteOffset := 32 }], 4, 64, [.bool false, .slice none 0 0, .bool false, .slice none 0 0]⟩
abbrev ty243 : TI := ⟨.struct #[{ name := "Err", type := 34, offset := 0, embedded := false, tag := "", pkgPath := "", byteOffset := 0 }], 1, 8, [.int .i64 0]⟩
abbrev ty245 : TI := ⟨.struct #[{ name := "Chain", type := 243, offset := 0, embedded := true, tag := "", pkgPath := "", byteOffset := 0 }, { name := "a", type := 48, offset := 1, embedded := false, tag := "", pkgPath := "arithmancy/lucas", byteOffset := 8 }, { name := "rest", type := 200, offset := 3, embedded := false, tag := "", pkgPath := "arithmancy/lucas", byteOffset := 40 }], 4, 48, [.int .i64 0, .bool false, .slice none 0 0, .nilFunc]⟩
abbrev ty247 : TI := ⟨.map 251 48, 1, 8, [.map none]⟩
abbrev ty249 : TI := ⟨.struct #[{ name := "vars", type := 3, offset := 0, embedded := false, tag := "", pkgPath := "arithmancy/poly", byteOffset := 0 }, { name := "all", type := 247, offset := 1, embedded := false, tag := "", pkgPath := "arithmancy/poly", byteOffset := 8 }], 2, 16, [.int .i64 0, .map none]⟩
abbrev ty250 : TI := ⟨.array 32 3, 32, 256, [.int .i64 0, .int .i64 0, .int .i64 0, .int .i64 0, .int .i64 0, .int .i64 0, .int .i64 0, .int .i64 0, .int .i64 0, .int .i64 0, .int .i64 0, .int .i64 0, .int .i64 0, .int .i64 0, .int .i64 0, .int .i64 0, .int .i64 0, .int .i64 0, .int .i64 0, .int .i64 0, .int .i64 0, .int .i64 0, .int .i64 0, .int .i64 0, .int .i64 0, .int .i64 0, .int .i64 0, .int .i64 0, .int .i64 0, .int .i64 0, .int .i64 0, .int .i64 0]⟩
abbrev ty251 : TI := ⟨.array 32 3, 32, 256, [.int .i64 0, .int .i64 0, .int .i64 0, .int .i64 0, .int .i64 0, .int .i64 0, .int .i64 0, .int .i64 0, .int .i64 0, .int .i64 0, .int .i64 0, .int .i64 0, .int .i64 0, .int .i64 0, .int .i64 0, .int .i64 0, .int .i64 0, .int .i64 0, .int .i64 0, .int .i64 0, .int .i64 0, .int .i64 0, .int .i64 0, .int .i64 0, .int .i64 0, .int .i64 0, .int .i64 0, .int .i64 0, .int .i64 0, .int .i64 0, .int .i64 0, .int .i64 0]⟩
abbrev ty257 : TI := ⟨.pointer 243, 1, 8, [.pointer none]⟩
abbrev ty261 : TI := ⟨.int .i64, 1, 8, [.int .i64 0]⟩
abbrev ty269 : TI := ⟨.int .u64, 1, 8, [.int .u64 0]⟩
abbrev ty274 : TI := ⟨.pointer 269, 1, 8, [.pointer none]⟩
abbrev ty286 : TI := ⟨.pointer 5, 1, 8, [.pointer none]⟩
abbrev ty200 : TI := ⟨.func #[48] #[48] false, 1, 8, [.nilFunc]⟩
abbrev ty209 : TI := ⟨.func #[] #[105] false, 1, 8, [.nilFunc]⟩
abbrev ty285 : TI := ⟨.func #[291, 291] #[4] false, 1, 8, [.nilFunc]⟩
def tabL : List (Nat × TI) := [(3, ty3), (94, ty94), (46, ty46), (48, ty48), (4, ty4), (92, ty92), (25, ty25), (33, ty33), (158, ty158), (103, ty103), (105, ty105), (2, ty2), (5, ty5), (9, ty9), (12, ty12), (21, ty21), (22, ty22), (24, ty24), (26, ty26), (30, ty30), (34, ty34), (37, ty37), (39, ty39), (71, ty71), (77, ty77), (79, ty79), (82, ty82), (95, ty95), (97, ty97), (99, ty99), (100, ty100), (102, ty102), (124, ty124), (127, ty127), (139, ty139), (141, ty141), (144, ty144), (181, ty181), (182, ty182), (186, ty186), (215, ty215), (219, ty219), (227, ty227), (228, ty228), (240, ty240), (243, ty243), (245, ty245), (247, ty247), (249, ty249), (250, ty250), (251, ty251), (257, ty257), (261, ty261), (269, ty269), (274, ty274), (286, ty286), (200, ty200), (209, ty209), (285, ty285)]
def tab : Tab := lookT tabL
theorem ti3 : TIOk Tryz.prog 3 ty3 := TIOk.of Tryz.underlying3 (.int .i64 0) (by kernel_rfl) rfl rfl
theorem ti94 : TIOk Tryz.prog 94 ty94 := TIOk.of Tryz.underlying94 (.int .u32 0) (by kernel_rfl) rfl rfl
theorem ti46 : TIOk Tryz.prog 46 ty46 := TIOk.of Tryz.underlying46 (.slice none 0 0) (by kernel_rfl) rfl rfl
theorem ti48 : TIOk Tryz.prog 48 ty48 := TIOk.of Tryz.underlying48 (.agg #[.bool false, .slice none 0 0]) (by kernel_rfl) rfl rfl
theorem ti4 : TIOk Tryz.prog 4 ty4 := TIOk.of Tryz.underlying4 (.bool false) (by kernel_rfl) rfl rfl
theorem ti92 : TIOk Tryz.prog 92 ty92 := TIOk.of Tryz.underlying92 (.int .u64 0) (by kernel_rfl) rfl rfl
theorem ti25 : TIOk Tryz.prog 25 ty25 := TIOk.of Tryz.underlying25 (.slice none 0 0) (by kernel_rfl) rfl rfl
theorem ti33 : TIOk Tryz.prog 33 ty33 := TIOk.of Tryz.underlying33 (.slice none 0 0) (by kernel_rfl) rfl rfl
theorem ti158 : TIOk Tryz.prog 158 ty158 := TIOk.of Tryz.underlying158 (.agg #[.bool false, .slice none 0 0, .slice none 0 0]) (by kernel_rfl) rfl rfl
theorem ti103 : TIOk Tryz.prog 103 ty103 := TIOk.of Tryz.underlying103 (.slice none 0 0) (by kernel_rfl) rfl rfl
theorem ti105 : TIOk Tryz.prog 105 ty105 := TIOk.of Tryz.underlying105 (.agg #[.int .i64 0, .slice none 0 0]) (by kernel_rfl) rfl rfl
theorem ti2 : TIOk Tryz.prog 2 ty2 := TIOk.of Tryz.underlying2 (.int .i64 0) (by kernel_rfl) rfl rfl
theorem ti5 : TIOk Tryz.prog 5 ty5 := TIOk.of Tryz.underlying5 (.int .u8 0) (by kernel_rfl) rfl rfl
theorem ti9 : TIOk Tryz.prog 9 ty9 := TIOk.of Tryz.underlying9 (.string ⟨#[]⟩) (by kernel_rfl) rfl rfl
theorem ti12 : TIOk Tryz.prog 12 ty12 := TIOk.of Tryz.underlying12 (.int .u64 0) (by kernel_rfl) rfl rfl
theorem ti21 : TIOk Tryz.prog 21 ty21 := TIOk.of Tryz.underlying21 (.int .i32 0) (by kernel_rfl) rfl rfl
theorem ti22 : TIOk Tryz.prog 22 ty22 := TIOk.of Tryz.underlying22 (.slice none 0 0) (by kernel_rfl) rfl rfl
theorem ti24 : TIOk Tryz.prog 24 ty24 := TIOk.of Tryz.underlying24 (.agg #[.int .i64 0, .slice none 0 0]) (by kernel_rfl) rfl rfl
theorem ti26 : TIOk Tryz.prog 26 ty26 := TIOk.of Tryz.underlying26 (.pointer none) (by kernel_rfl) rfl rfl
theorem ti30 : TIOk Tryz.prog 30 ty30 := TIOk.of Tryz.underlying30 (.slice none 0 0) (by kernel_rfl) rfl rfl
theorem ti34 : TIOk Tryz.prog 34 ty34 := TIOk.of Tryz.underlying34 (.int .i64 0) (by kernel_rfl) rfl rfl
theorem ti37 : TIOk Tryz.prog 37 ty37 := TIOk.of Tryz.underlying37 (.slice none 0 0) (by kernel_rfl) rfl rfl
theorem ti39 : TIOk Tryz.prog 39 ty39 := TIOk.of Tryz.underlying39 (.agg #[.int .i64 0, .slice none 0 0]) (by kernel_rfl) rfl rfl
theorem ti71 : TIOk Tryz.prog 71 ty71 := TIOk.of Tryz.underlying71 (.agg #[.int .i64 0, .slice none 0 0]) (by kernel_rfl) rfl rfl
theorem ti77 : TIOk Tryz.prog 77 ty77 := TIOk.of Tryz.underlying77 (.agg #[.int .i64 0, .int .i64 0, .int .i64 0, .int .i64 0]) (by kernel_rfl) rfl rfl
theorem ti79 : TIOk Tryz.prog 79 ty79 := TIOk.of Tryz.underlying79 (.agg #[.int .i64 0, .slice none 0 0, .int .i64 0, .slice none 0 0, .bool false]) (by kernel_rfl) rfl rfl
theorem ti82 : TIOk Tryz.prog 82 ty82 := TIOk.of Tryz.underlying82 (.agg #[.int .i64 0, .slice none 0 0, .slice none 0 0, .int .i64 0, .int .i64 0]) (by kernel_rfl) rfl rfl
theorem ti95 : TIOk Tryz.prog 95 ty95 := TIOk.of Tryz.underlying95 (.int .u64 0) (by kernel_rfl) rfl rfl
theorem ti97 : TIOk Tryz.prog 97 ty97 := TIOk.of Tryz.underlying97 (.slice none 0 0) (by kernel_rfl) rfl rfl
theorem ti99 : TIOk Tryz.prog 99 ty99 := TIOk.of Tryz.underlying99 (.agg #[.int .i64 0, .slice none 0 0, .slice none 0 0]) (by kernel_rfl) rfl rfl
theorem ti100 : TIOk Tryz.prog 100 ty100 := TIOk.of Tryz.underlying100 (.pointer none) (by kernel_rfl) rfl rfl
theorem ti102 : TIOk Tryz.prog 102 ty102 := TIOk.of Tryz.underlying102 (.agg #[.int .i64 0, .slice none 0 0]) (by kernel_rfl) rfl rfl
theorem ti124 : TIOk Tryz.prog 124 ty124 := TIOk.of Tryz.underlying124 (.pointer none) (by kernel_rfl) rfl rfl
theorem ti127 : TIOk Tryz.prog 127 ty127 := TIOk.of Tryz.underlying127 (.agg #[.int .i64 0, .slice none 0 0, .int .i64 0, .slice none 0 0]) (by kernel_rfl) rfl rfl
theorem ti139 : TIOk Tryz.prog 139 ty139 := TIOk.of Tryz.underlying139 (.pointer none) (by kernel_rfl) rfl rfl
theorem ti141 : TIOk Tryz.prog 141 ty141 := TIOk.of Tryz.underlying141 (.agg #[.int .i64 0]) (by kernel_rfl) rfl rfl
theorem ti144 : TIOk Tryz.prog 144 ty144 := TIOk.of Tryz.underlying144 (.agg #[.int .i64 0, .slice none 0 0, .slice none 0 0, .int .i64 0, .int .i64 0, .int .i64 0, .int .i64 0, .slice none 0 0, .int .i64 0, .slice none 0 0, .slice none 0 0]) (by kernel_rfl) rfl rfl
theorem ti181 : TIOk Tryz.prog 181 ty181 := TIOk.of Tryz.underlying181 (.pointer none) (by kernel_rfl) rfl rfl
theorem ti182 : TIOk Tryz.prog 182 ty182 := TIOk.of Tryz.underlying182 (.slice none 0 0) (by kernel_rfl) rfl rfl
theorem ti186 : TIOk Tryz.prog 186 ty186 := TIOk.of Tryz.underlying186 (.slice none 0 0) (by kernel_rfl) rfl rfl
theorem ti215 : TIOk Tryz.prog 215 ty215 := TIOk.of Tryz.underlying215 (.agg #[.int .i64 0, .int .i64 0, .int .i64 0, .int .i64 0]) (by kernel_rfl) rfl rfl
theorem ti219 : TIOk Tryz.prog 219 ty219 := TIOk.of Tryz.underlying219 (.int .i64 0) (by kernel_rfl) rfl rfl
theorem ti227 : TIOk Tryz.prog 227 ty227 := TIOk.of Tryz.underlying227 (.pointer none) (by kernel_rfl) rfl rfl
theorem ti228 : TIOk Tryz.prog 228 ty228 := TIOk.of Tryz.underlying228 (.pointer none) (by kernel_rfl) rfl rfl
theorem ti240 : TIOk Tryz.prog 240 ty240 := TIOk.of Tryz.underlying240 (.agg #[.bool false, .slice none 0 0, .bool false, .slice none 0 0]) (by kernel_rfl) rfl rfl
theorem ti243 : TIOk Tryz.prog 243 ty243 := TIOk.of Tryz.underlying243 (.agg #[.int .i64 0]) (by kernel_rfl) rfl rfl
theorem ti245 : TIOk Tryz.prog 245 ty245 := TIOk.of Tryz.underlying245 (.agg #[.int .i64 0, .bool false, .slice none 0 0, .nilFunc]) (by kernel_rfl) rfl rfl
theorem ti247 : TIOk Tryz.prog 247 ty247 := TIOk.of Tryz.underlying247 (.map none) (by kernel_rfl) rfl rfl
theorem ti249 : TIOk Tryz.prog 249 ty249 := TIOk.of Tryz.underlying249 (.agg #[.int .i64 0, .map none]) (by kernel_rfl) rfl rfl
theorem ti250 : TIOk Tryz.prog 250 ty250 := TIOk.of Tryz.underlying250 (.agg #[.int .i64 0, .int .i64 0, .int .i64 0, .int .i64 0, .int .i64 0, .int .i64 0, .int .i64 0, .int .i64 0, .int .i64 0, .int .i64 0, .int .i64 0, .int .i64 0, .int .i64 0, .int .i64 0, .int .i64 0, .int .i64 0, .int .i64 0, .int .i64 0, .int .i64 0, .int .i64 0, .int .i64 0, .int .i64 0, .int .i64 0, .int .i64 0, .int .i64 0, .int .i64 0, .int .i64 0, .int .i64 0, .int .i64 0, .int .i64 0, .int .i64 0, .int .i64 0]) (by kernel_rfl) rfl rfl
theorem ti251 : TIOk Tryz.prog 251 ty251 := TIOk.of Tryz.underlying251 (.agg #[.int .i64 0, .int .i64 0, .int .i64 0, .int .i64 0, .int .i64 0, .int .i64 0, .int .i64 0, .int .i64 0, .int .i64 0, .int .i64 0, .int .i64 0, .int .i64 0, .int .i64 0, .int .i64 0, .int .i64 0, .int .i64 0, .int .i64 0, .int .i64 0, .int .i64 0, .int .i64 0, .int .i64 0, .int .i64 0, .int .i64 0, .int .i64 0, .int .i64 0, .int .i64 0, .int .i64 0, .int .i64 0, .int .i64 0, .int .i64 0, .int .i64 0, .int .i64 0]) (by kernel_rfl) rfl rfl
theorem ti257 : TIOk Tryz.prog 257 ty257 := TIOk.of Tryz.underlying257 (.pointer none) (by kernel_rfl) rfl rfl
theorem ti261 : TIOk Tryz.prog 261 ty261 := TIOk.of Tryz.underlying261 (.int .i64 0) (by kernel_rfl) rfl rfl
theorem ti269 : TIOk Tryz.prog 269 ty269 := TIOk.of Tryz.underlying269 (.int .u64 0) (by kernel_rfl) rfl rfl
theorem ti274 : TIOk Tryz.prog 274 ty274 := TIOk.of Tryz.underlying274 (.pointer none) (by kernel_rfl) rfl rfl
theorem ti286 : TIOk Tryz.prog 286 ty286 := TIOk.of Tryz.underlying286 (.pointer none) (by kernel_rfl) rfl rfl
theorem ti200 : TIOk Tryz.prog 200 ty200 := TIOk.of Tryz.underlying200 (.nilFunc) (by kernel_rfl) rfl rfl
theorem ti209 : TIOk Tryz.prog 209 ty209 := TIOk.of Tryz.underlying209 (.nilFunc) (by kernel_rfl) rfl rfl
theorem ti285 : TIOk Tryz.prog 285 ty285 := TIOk.of Tryz.underlying285 (.nilFunc) (by kernel_rfl) rfl rfl
theorem tabAll : AllTI Tryz.prog tabL := (.cons ti3 (.cons ti94 (.cons ti46 (.cons ti48 (.cons ti4 (.cons ti92 (.cons ti25 (.cons ti33 (.cons ti158 (.cons ti103 (.cons ti105 (.cons ti2 (.cons ti5 (.cons ti9 (.cons ti12 (.cons ti21 (.cons ti22 (.cons ti24 (.cons ti26 (.cons ti30 (.cons ti34 (.cons ti37 (.cons ti39 (.cons ti71 (.cons ti77 (.cons ti79 (.cons ti82 (.cons ti95 (.cons ti97 (.cons ti99 (.cons ti100 (.cons ti102 (.cons ti124 (.cons ti127 (.cons ti139 (.cons ti141 (.cons ti144 (.cons ti181 (.cons ti182 (.cons ti186 (.cons ti215 (.cons ti219 (.cons ti227 (.cons ti228 (.cons ti240 (.cons ti243 (.cons ti245 (.cons ti247 (.cons ti249 (.cons ti250 (.cons ti251 (.cons ti257 (.cons ti261 (.cons ti269 (.cons ti274 (.cons ti286 (.cons ti200 (.cons ti209 (.cons ti285 .nil)))))))))))))))))))))))))))))))))))))))))))))))))))))))))))
theorem tabOk : A3 Tryz.prog tab := tabOk_of tabAll
instance : Facts Tryz.prog tab := ⟨tabOk, by kernel_rfl⟩
end Go.Proofs.YtmmfloplhopioaaGreat
/- How the program's data are written az abstract values. -/
namespace Go.AL
def eW : Int → List AV := fun w => [.v (.int .u32 w)]
def eI : Int → List AV := fun i => [.v (.int .i64 i)]
abbrev aW (l : List Int) : AV := .sl 1 eW l
abbrev aI (l : List Int) : AV := .sl 1 eI l
abbrev aN (i : Int) : AV := .v (.int .i64 i)
abbrev aB (b : Bool) : AV := .v (.bool b)
abbrev aU (i : Int) : AV := .v (.int .u64 i)
structure Z where
  neg : Bool
  w : List Int
def eZ : Z → List AV := fun z => [aB z.neg, aW z.w]
abbrev aZ (z : Z) : AV := .agg [aB z.neg, aW z.w]
def zOf (x : Int) : Z := ⟨decide (x < 0), toW x.natAbs⟩
def eX : Int → List AV := fun x => [aB (decide (x < 0)), aW (toW x.natAbs)]
abbrev aX (x : Int) : AV := .agg [aB (decide (x < 0)), aW (toW x.natAbs)]
def Fit (x : Int) : Prop := x.natAbs < BB 4096
instance decFit (x : Int) : Decidable (Fit x) := inferInstanceAs (Decidable ((x.natAbs : Int) < BB 4096))
attribute [irreducible] decFit
theorem Fit.lt {x : Int} (h : Fit x) : (x.natAbs : Int) < BB 4096 := h
theorem Fit.mk {x : Int} (h : (x.natAbs : Int) < BB 4096) : Fit x := h
attribute [irreducible] Fit
end Go.AL
namespace Go.AL
theorem trimL_take0 {l : List Int} {n : Int} (h0 : 0 < n) (hx : l[(n - 1).toNat]? = some 0) : Az (l.take (n - 1).toNat) = Az (l.take n.toNat) := by
 have : n.toNat = (n - 1).toNat + 1 := by omega
 rw [this, Ad hx, Di]
theorem trimL_take1 {l : List Int} {n : Int} {x : Int} (h0 : 0 < n) (hx : l[(n - 1).toNat]? = some x) (hz : ¬ x = 0) : Az (l.take n.toNat) = l.take n.toNat := by
 have : n.toNat = (n - 1).toNat + 1 := by omega
 rw [this, Ad hx, trimL_snoc hz]
end Go.AL
namespace Go.Proofs.YtmmfloplhopioaaGreat
open Go.AL
theorem trim_ok (l : List Int) (hl : WOk l) (hb : l.length ≤ 100000) : PureFn Tryz.prog 152 [aW l] (aW (toW (val l))) := by
 refine AC Tryz.func152 rfl Tryz.ntmps152 rfl rfl ?_;(repeat' (first |refine qv ?_ |apply qn |apply qs |apply qr |apply qb));refine AWP.loop (G := Int) (fun n => 0 ≤ n ∧ n ≤ l.length ∧ Az (l.take n.toNat) = Az l) (fun n => AU [] [(0, aW l), (3, aN n)] []) (fun n => n.toNat) (l.length : Int) ⟨by omega, by omega, by simp⟩ ?_ ?_
 ·exact Ent.of [] ⟨⟨AA _, rfl⟩, ⟨AA _, rfl⟩, trivial⟩ trivial rfl rfl
 ·intro n ⟨h0, h1, h2⟩;(repeat' (first |refine qv ?_ |apply qn |apply qs |apply qr |refine qw ?_ |refine Fl.skip rfl rfl ?_ |refine AF rfl ?_ |(refine AD rfl ?_ ?_ <;> intro _ <;> try (exfalso; omega)) |apply qb |apply qk |apply qx |apply qt |(refine B5 rfl rfl rfl rfl rfl rfl rfl rfl (by omega) (by omega) (by assumption) ?_; intro _ _ _ _) |(refine AH rfl rfl ?_ ?_ <;> intro _ <;> try (exfalso; omega))))
  ·rename_i x hx hx0 hx1 hz;subst hz;refine LoopEnd.of (n - 1) ⟨by omega, by omega, ?_⟩ (by omega) ?_
   ·rw [← h2, trimL_take0 (by omega) hx]
   ·exact Ent.of [] ⟨⟨AA _, rfl⟩, ⟨AA _, rfl⟩, trivial⟩ trivial rfl rfl
  ·rename_i x hx hx0 hx1 hz;refine RetOk.of rfl (AR ?_);rw [← CA hl, ← h2, trimL_take1 (by omega) hx hz]
  ·refine RetOk.of rfl (AR ?_)
   have : n = 0 := by omega
   subst this;rw [← CA hl, ← h2]; simp [Az]
end Go.Proofs.YtmmfloplhopioaaGreat
/- Words: comparing, adding, subtracting, multiplying; plain. -/
namespace Go.AL
def cmpI (x y : Int) : Int := if x < y then -1 else if y < x then 1 else 0
theorem cmpI_lt {x y : Int} (h : x < y) : cmpI x y = -1 := by simp [cmpI, h]
theorem cmpI_gt {x y : Int} (h : y < x) : cmpI x y = 1 := by unfold cmpI; rw [if_neg (by omega), if_pos h]
theorem cmpI_eq {x y : Int} (h : x = y) : cmpI x y = 0 := by unfold cmpI; rw [if_neg (by omega), if_neg (by omega)]
theorem Ce {x y : Int} (hx : 0 ≤ x) (hy : 0 ≤ y) (h : (toW x).length < (toW y).length) : x < y := by
 have h1 := (BE hx (toW x).length).1 (Nat.le_refl _)
 have h2 : ¬ y < BB (toW x).length := fun h2 => by have := (BE hy _).2 h2; omega
 omega
theorem val_split {l : List Int} {i : Nat} {x : Int} (hx : l[i]? = some x) : val l = val (l.take i) + BB i * (x + 4294967296 * val (l.drop (i + 1))) := by
 have hi : i < l.length := (List.getElem?_eq_some_iff.1 hx).1
 have h1 : l = l.take i ++ x :: l.drop (i + 1) := by
  rw [show x :: l.drop (i + 1) = l.drop i from ?_, List.take_append_drop];have := (List.getElem?_eq_some_iff.1 hx).2;rw [List.drop_eq_getElem_cons hi, this]
 conv => lhs; rw [h1, Cd, List.length_take, Nat.min_eq_left (by omega)]
 simp only [val]
theorem val_lt_at {a b : List Int} (ha : WOk a) (hb : WOk b) {i : Nat} {x y : Int} (hx : a[i]? = some x) (hy : b[i]? = some y) (hd : a.drop (i + 1) = b.drop (i + 1)) (h : x < y) : val a < val b := by
 rw [val_split hx, val_split hy, hd];have h1 := DJ (ha.take i);have h2 := As (hb.take i);have hi : i < a.length := (List.getElem?_eq_some_iff.1 hx).1;rw [List.length_take, Nat.min_eq_left (by omega)] at h1;have h3 : BB i * 1 ≤ BB i * (y - x) := Int.mul_le_mul_of_nonneg_left (by omega) (by have := Bc i; omega)
 have h4 : BB i * (y + 4294967296 * val (b.drop (i + 1))) = BB i * (x + 4294967296 * val (b.drop (i + 1))) + BB i * (y - x) := by grind
 omega
theorem drop_eq_of {a b : List Int} {i : Nat} {x y : Int} (hx : a[i]? = some x) (hy : b[i]? = some y) (hd : a.drop (i + 1) = b.drop (i + 1)) (h : x = y) : a.drop i = b.drop i := by
 have hi : i < a.length := (List.getElem?_eq_some_iff.1 hx).1;have hi2 : i < b.length := (List.getElem?_eq_some_iff.1 hy).1;rw [List.drop_eq_getElem_cons hi, List.drop_eq_getElem_cons hi2, hd, (List.getElem?_eq_some_iff.1 hx).2, (List.getElem?_eq_some_iff.1 hy).2, h]
theorem Ag {A : List Int} {i : Nat} {x : Int} (h : A[i]? = some x) : val (A.take (i + 1)) = val (A.take i) + BB i * x := by
 have hi : i < A.length := (List.getElem?_eq_some_iff.1 h).1;rw [Ad h, Bq, List.length_take, Nat.min_eq_left (by omega)]
theorem Bf {B : List Int} {i : Nat} (h : B.length ≤ i) : val (B.take (i + 1)) = val (B.take i) + BB i * 0 := by
 rw [List.take_of_length_le h, List.take_of_length_le (by omega)]; omega
theorem CP {os : List Int} {n m k : Nat} {w w' : Int} (hk : k = os.length) (hn : n = m + 1) (hw : w = w') : (os ++ List.replicate n 0).set k w = os ++ [w'] ++ List.replicate m 0 := by
 subst hk hn hw;rw [List.replicate_succ, set_at]
theorem get_drop {α : Type} {os A : List α} {k : Nat} (hk : k = os.length) : (os ++ A.drop os.length)[k]? = A[os.length]? := by
 subst hk;rw [List.getElem?_append_right (Nat.le_refl _), Nat.sub_self, List.getElem?_drop]; rfl
theorem set_drop {α : Type} {os A : List α} {k : Nat} {w w' : α} (hk : k = os.length) (hl : os.length < A.length) (hw : w = w') : (os ++ A.drop os.length).set k w = os ++ [w'] ++ A.drop (os.length + 1) := by
 subst hk hw;rw [List.drop_eq_getElem_cons hl, set_at]
theorem plus_step {os A B : List Int} {c x y s : Int} (hA : A[os.length]? = some x) (hB : val (B.take (os.length + 1)) = val (B.take os.length) + BB os.length * y)
  (h : val os + BB os.length * c = val (A.take os.length) + val (B.take os.length)) (hs : s = c + x + y) :
  val (os ++ [s % 4294967296]) + BB (os.length + 1) * (s / 4294967296) = val (A.take (os.length + 1)) + val (B.take (os.length + 1)) := by
 rw [Bq, Ag hA, hB, BC]
 have h1 : s = s % 4294967296 + 4294967296 * (s / 4294967296) := by omega
 generalize s % 4294967296 = p at h1;generalize s / 4294967296 = q at h1;subst hs;grind
theorem EV {os A B : List Int} {c x y p q : Int} (hA : A[os.length]? = some x) (hB : val (B.take (os.length + 1)) = val (B.take os.length) + BB os.length * y)
  (h : val os = val (A.take os.length) - val (B.take os.length) + BB os.length * c) (hs : x - c - y = p - 4294967296 * q) :
  val (os ++ [p]) = val (A.take (os.length + 1)) - val (B.take (os.length + 1)) + BB (os.length + 1) * q := by
 rw [Bq, Ag hA, hB, BC];grind
theorem times_step {ps D B : List Int} {i k : Nat} {c x y w s : Int} (hn : ps.length = i + k) (hD : D[ps.length]? = some w) (hB : B[k]? = some y)
  (h : val ps + BB ps.length * c = val (D.take ps.length) + BB i * (x * val (B.take k))) (hs : s = c + (x * y + w)) :
  val (ps ++ [s % 4294967296]) + BB (ps.length + 1) * (s / 4294967296) = val (D.take (ps.length + 1)) + BB i * (x * val (B.take (k + 1))) := by
 rw [Bq, Ag hD, Ag hB, BC]
 have h1 : s = s % 4294967296 + 4294967296 * (s / 4294967296) := by omega
 have h2 : BB ps.length = BB i * BB k := by rw [hn, BB_add]
 generalize s % 4294967296 = p at h1;generalize s / 4294967296 = q at h1
 generalize val (D.take ps.length) = d at *
 generalize val (B.take k) = b at *
 generalize BB ps.length = e at *
 subst hs h2;grind
end Go.AL
namespace Go.Proofs.YtmmfloplhopioaaGreat
open Go.AL
theorem compare_ok (x y : Int) (hx : 0 ≤ x) (hy : 0 ≤ y) (hxl : (toW x).length ≤ 100000) (hyl : (toW y).length ≤ 100000) : PureFn Tryz.prog 223 [aW (toW x), aW (toW y)] (aN (cmpI x y)) := by
 refine AC Tryz.func223 rfl Tryz.ntmps223 rfl rfl ?_;have wx := Ak x;have wy := Ak y;(repeat' (first |refine qv ?_ |apply qn |apply qs |apply qr |refine qw ?_ |(refine AD rfl ?_ ?_ <;> intro _ <;> try (exfalso; omega)) |(refine Aa rfl ?_ ?_ <;> intro _ <;> try (exfalso; omega)) |apply qb |apply qk |apply qt))
 ·refine RetOk.of rfl (AR ?_);rw [cmpI_lt (Ce hx hy (by omega))]
 ·refine RetOk.of rfl (AR ?_);rw [cmpI_gt (Ce hy hx (by omega))]
 ·rename_i hl;refine AWP.loop (G := Int) (fun i => -1 ≤ i ∧ i < (toW x).length ∧ (toW x).drop (i + 1).toNat = (toW y).drop (i + 1).toNat) (fun i => AU [] [(0, aW (toW x)), (1, aW (toW y)), (5, aN i)] []) (fun i => (i + 1).toNat) ((toW x).length - 1 : Int) ⟨by omega, by omega, by rw [List.drop_of_length_le (by omega), List.drop_of_length_le (by omega)]⟩ ?_ ?_
  ·refine Ent.of [] ?_ ?_ rfl rfl;(repeat' (first |exact True.intro |refine ⟨⟨AA _, rfl⟩, ?_⟩|fail))
  ·intro i ⟨h0, h1, h2⟩;have hsx := Ah hx;have hsy := Ah hy;(repeat' (first |refine qv ?_ |apply qn |refine Fl.nil (fun _ => by kernel_rfl) ?_ |apply qs |apply qr |refine qw ?_ |(refine AD rfl ?_ ?_ <;> intro _ <;> try (exfalso; omega)) |apply qb |apply qk |apply qx |apply qt |refine qK ?_ |(refine B5 rfl rfl rfl rfl rfl rfl rfl rfl (by omega) (by omega) (by assumption) ?_; intro _ _ _ _)|fail))
   ·rename_i hi u hu _ _ v hv _ _ huv;refine RetOk.of rfl (AR ?_);have := val_lt_at wx wy hu hv (by rw [show i.toNat + 1 = (i + 1).toNat by omega]; exact h2) huv;rw [cmpI_lt (by omega)]
   ·rename_i hi u hu _ _ v hv _ _ _ huv;refine RetOk.of rfl (AR ?_);have := val_lt_at wy wx hv hu (by rw [show i.toNat + 1 = (i + 1).toNat by omega]; exact h2.symm) huv;rw [cmpI_gt (by omega)]
   ·rename_i hi u hu _ _ v hv _ _ huv hvu;refine LoopEnd.of (i - 1) ⟨by omega, by omega, ?_⟩ (by omega) ?_
    ·have := drop_eq_of hu hv (by rw [show i.toNat + 1 = (i + 1).toNat by omega]; exact h2) (by omega);rwa [show (i - 1 + 1).toNat = i.toNat by omega]
    ·refine Ent.of [] ?_ ?_ rfl rfl;(repeat' (first |exact True.intro |refine ⟨⟨AA _, rfl⟩, ?_⟩|fail))
   ·refine RetOk.of rfl (AR ?_)
    have : i = -1 := by omega
    subst this;rw [show ((-1 : Int) + 1).toNat = 0 from rfl, List.drop_zero, List.drop_zero] at h2;rw [cmpI_eq (by rw [← hsx, ← hsy, h2])]
end Go.Proofs.YtmmfloplhopioaaGreat
namespace Go.Proofs.YtmmfloplhopioaaGreat
open Go.AL
theorem plus_ok (x y : Int) (hx : 0 ≤ x) (hy : 0 ≤ y) (hxl : (toW x).length ≤ 50000) (hyl : (toW y).length ≤ 50000) : PureFn Tryz.prog 150 [aW (toW x), aW (toW y)] (aW (toW (x + y))) := by
 refine AC Tryz.func150 rfl Tryz.ntmps150 rfl rfl ?_;refine AE ?_;(repeat' (first |refine qv ?_ |apply qn |apply qr));refine ⟨?_⟩;refine Cb (G := List Int × List Int) (fun (A, B) => WOk A ∧ WOk B ∧ B.length ≤ A.length ∧ A.length ≤ 50000 ∧ val A + val B = x + y) (fun (A, B) => AU [] [(0, aW A), (1, aW B)] []) ?_ ?_
 ·have wx := Ak x;have wy := Ak y;have hsx := Ah hx;have hsy := Ah hy;(repeat' (first |refine qv ?_ |apply qn |apply qs |apply qr |(refine AD rfl ?_ ?_ <;> intro _ <;> try (exfalso; omega)) |apply qk))
  ·refine JoinOk.of (toW y, toW x) ⟨wy, wx, by omega, by omega, by omega⟩ ?_;refine Ent.of [] ?_ ?_ rfl rfl;(repeat' (first |exact True.intro |refine ⟨⟨AA _, rfl⟩, ?_⟩|fail))
  ·refine JoinOk.of (toW x, toW y) ⟨wx, wy, by omega, by omega, by omega⟩ ?_;refine Ent.of [] ?_ ?_ rfl rfl;(repeat' (first |exact True.intro |refine ⟨⟨AA _, rfl⟩, ?_⟩|fail))
 ·intro ⟨A, B⟩ ⟨wA, wB, hl, hA, hs⟩;refine AE ?_;(repeat' (first |refine qv ?_ |apply qn |apply qr |refine qw ?_ |refine Bp rfl rfl rfl rfl rfl rfl rfl rfl rfl rfl eW 0 (by exact AB _) (by rfl) (by first | omega | (dsimp only; omega)) (by first | omega | (dsimp only; omega)) (by first | omega | (dsimp only; omega)) ?_|fail));refine ⟨?_⟩;refine AE ?_;(repeat' (first |refine qv ?_ |apply qn |apply qr));refine ⟨?_⟩;refine Cb (G := List Int × Int) (fun (os, c) => os.length = A.length ∧ WOk os ∧ 0 ≤ c ∧ c ≤ 1 ∧ val os + BB os.length * c = x + y) (fun (os, c) => AU [] [(0, aW A), (5, .row 19), (6, aU c)] [(19, .row 1 eW (os ++ List.replicate 1 0) 94)]) ?_ ?_
  ·(repeat' (first |refine qv ?_ |apply qn |apply qs |apply qr |apply qb));refine AWP.loop (G := List Int × Int) (fun (os, c) => os.length ≤ A.length ∧ WOk os ∧ 0 ≤ c ∧ c ≤ 1 ∧ val os + BB os.length * c = val (A.take os.length) + val (B.take os.length))
    (fun (os, c) => AU [] [(0, aW A), (1, aW B), (5, .row 19), (6, aU c), (20, aW A), (21, aN A.length), (22, aN os.length)] [(19, .row 1 eW (os ++ List.replicate (A.length + 1 - os.length) 0) 94)])
    (fun (os, c) => A.length - os.length) ([], 0) ⟨by simp, WOk.nil, by omega, by omega, by simp [val, BB]⟩ ?_ ?_
   ·refine Ent.of [] ?_ ?_ rfl rfl;(repeat' (first |exact True.intro |refine ⟨⟨AA _, rfl⟩, ?_⟩ |refine ⟨⟨⟨_, rfl, BLe.row rfl⟩, rfl⟩, ?_⟩|fail))
   ·intro ⟨os, c⟩ ⟨h0, h1, h2, h3, h4⟩;(repeat' (first |refine qv ?_ |apply qn |apply qs |apply qr |refine qw ?_ |(refine AD rfl ?_ ?_ <;> intro _ <;> try (exfalso; omega)) |apply qb |apply qk |apply qx |(refine B5 rfl rfl rfl rfl rfl rfl rfl rfl (by omega) (by omega) (by assumption) ?_; intro _ _ _ _) |refine Aq rfl rfl rfl rfl rfl rfl rfl rfl (by omega) (by first | omega | (simp; omega)) ?_ |refine A9 rfl rfl rfl rfl rfl rfl rfl rfl rfl rfl rfl (AB _) rfl (by first | omega | (simp; omega)) ?_|fail))
    ·rename_i hi u hu hu0 hu1 hj v hv hv0 hv1;rw [Int.toNat_natCast] at hu hv;have hstep := plus_step hu (Ag hv) h4 rfl;refine LoopEnd.of (os ++ [(c + u + v) % 4294967296], (c + u + v) / 4294967296) ⟨by simp; omega, h1.append (WOk.cons (by omega) (by omega) WOk.nil), by omega, by omega, by rw [List.length_append]; exact hstep⟩ (by simp only [List.length_append, List.length_cons, List.length_nil]; omega) ?_;refine Ent.of [] ?_ ?_ rfl rfl;(repeat' (first |exact True.intro |refine ⟨⟨AA _, rfl⟩, ?_⟩ |refine ⟨⟨⟨_, rfl, BLe.row ?_⟩, rfl⟩, ?_⟩ |refine ⟨⟨AV.Le.int ?_, rfl⟩, ?_⟩|fail))
     ·simp
     ·exact CP (by simp) (by simp; omega) (by omega)
    ·rename_i hi u hu hu0 hu1 hj;rw [Int.toNat_natCast] at hu;have hstep := plus_step hu (Bf (by omega)) h4 rfl;refine LoopEnd.of (os ++ [(c + u + 0) % 4294967296], (c + u + 0) / 4294967296) ⟨by simp; omega, h1.append (WOk.cons (by omega) (by omega) WOk.nil), by omega, by omega, by rw [List.length_append]; exact hstep⟩ (by simp only [List.length_append, List.length_cons, List.length_nil]; omega) ?_;refine Ent.of [] ?_ ?_ rfl rfl;(repeat' (first |exact True.intro |refine ⟨⟨AA _, rfl⟩, ?_⟩ |refine ⟨⟨⟨_, rfl, BLe.row ?_⟩, rfl⟩, ?_⟩ |refine ⟨⟨AV.Le.int ?_, rfl⟩, ?_⟩|fail))
     ·rw [p32]; omega
     ·simp
     ·exact CP (by simp) (by simp; omega) (by omega)
    ·rename_i hi
     have hlen : os.length = A.length := by omega
     refine JoinOk.of (os, c) ⟨hlen, h1, h2, h3, ?_⟩ ?_
     ·rw [h4, List.take_of_length_le (by omega), List.take_of_length_le (by omega), hs]
     ·refine Ent.of [] ?_ ?_ rfl rfl;(repeat' (first |exact True.intro |refine ⟨⟨AA _, rfl⟩, ?_⟩ |refine ⟨⟨⟨_, rfl, BLe.row ?_⟩, rfl⟩, ?_⟩|fail));rw [hlen, show A.length + 1 - A.length = 1 by omega]
  ·intro ⟨os, c⟩ ⟨h0, h1, h2, h3, h4⟩;(repeat' (first |refine qv ?_ |apply qn |apply qs |apply qr |refine Aq rfl rfl rfl rfl rfl rfl rfl rfl (by omega) (by first | omega | (simp; omega)) ?_ |refine A9 rfl rfl rfl rfl rfl rfl rfl rfl rfl rfl rfl (AB _) rfl (by first | omega | (simp; omega)) ?_|fail));refine Fl.callF rfl 19 rfl (trim_ok (os ++ [c]) (h1.append (WOk.cons h2 (by omega) WOk.nil)) (by simp; omega)) rfl rfl rfl (LeL.cons (AV.Le.sl ?_) LeL.nil) ?_
   ·exact (CP (m := 0) (by simp; omega) rfl (by omega)).trans (List.append_nil _)
   (repeat' (first |refine qv ?_ |apply qn |apply qt));refine RetOk.of rfl (AR ?_);rw [Bq, h4]
end Go.Proofs.YtmmfloplhopioaaGreat

/- Part 1 of a proof layer and of the contracts of the functions. -/
import Derived.Laws.AppendOwn
import Derived.Maps.AppendAt
import Derived.Orders
import Derived.Laws.Cells
import Derived.Laws.Entries
import Derived.Laws.Small
import Derived.Laws.Strings
import Derived.Laws.MakeOwn
import Derived.Laws.Build
import Derived.Laws.CopyRow
import Derived.Laws.Slices
import Derived.Deep.LoopGhost
import Derived.KernelRfl
import Derived.Tactics
set_option linter.unusedVariables false
set_option linter.unusedSimpArgs false
/- The abstract values of the proof layer, how memory represents them, and the abstract states. -/
namespace Go.AL
abbrev Id:=Nat
abbrev Hp:=Nat→Option (Array Value)
abbrev Bt:=Id→Option Value
inductive AV:Type 1
  | v (x:Value)
  | agg (cs:List AV)
  | tup (cs:List AV)
  | sl {α:Type} (sz:Nat) (enc:α→List AV) (xs:List α)
  | cptr (cs:List AV)
  | ptr (b:Id) (off:Nat)
  | row (b:Id)
  | rptr (b:Id) (i:Nat)
  | mp (b:Id)
  | sub (b:Id) (off len:Nat)
  | fn (f:FuncId) (caps:List AV)
  | any
def hcell (h:Hp) (a:Addr) (u:Value):Prop:=a.spot=none∧∃cs,h a.block=some cs∧cs[a.off]? = some u
def noB:Bt:=fun _=>none
mutual
def Rep (h:Hp):Bt→AV→Value→Prop
  | _,.v x,u=>u=x
  | β,.agg cs,u=>∃us,u = .agg us∧RepL h β cs us.toList
  | β,.tup cs,u=>∃us,u = .tuple us∧RepL h β cs us.toList
  | _,.sl sz enc xs,u=>∃A c,u = .slice A xs.length c∧xs.length≤c∧c≤maxLen ∧
      ∀i x,xs[i]? = some x→∃ad us,A=some ad∧us.length=sz∧RepL h noB (enc x) us∧∀j u,us[j]? = some u→hcell h (ad.add (i*sz+j)) u
  | _,.cptr cs,u=>∃ad us,u = .pointer (some ad)∧RepL h noB cs us∧∀j u,us[j]? = some u→hcell h (ad.add j) u
  | β,.ptr b off,u=>∃g,β b=some (.pointer (some ⟨g,0,none⟩))∧u = .pointer (some ⟨g,off,none⟩)
  | β,.row b,u=>β b=some u∧∃A n c,u = .slice A n c
  | β,.rptr b i,u=>∃g n c,β b=some (.slice (some ⟨g,0,none⟩) n c)∧u = .pointer (some ⟨g,i,none⟩)
  | β,.mp b,u=>∃g,β b=some (.map (some g))∧u = .map (some g)
  | β,.sub b off len,u=>∃g n c c', β b=some (.slice (some ⟨g,0,none⟩) n c)∧u = .slice (some ⟨g,off,none⟩) len c'
  | β,.fn f caps,u=>∃us,u = .func (.func f) #[] us∧RepL h β caps us.toList
  | _,.any,_=>True
def RepL (h:Hp):Bt→List AV→List Value→Prop
  | _,[],us=>us=[]
  | β,c::cs,us=>∃u r,us=u::r∧Rep h β c u∧RepL h β cs r
end
inductive Bx:Type 1
  | cells (cs:List AV) (t:TypeId)
  | row {α:Type} (sz:Nat) (enc:α→List AV) (xs:List α) (t:TypeId)
  | map {κ α:Type} (ek:κ→Value) (av:α→AV) (xs:List (κ×α×Nat)) (clock:Nat)
  | iter (m:Id) (since:Nat) (seen:List Nat) (last:Nat)
structure St:Type 1 where
  env:Nat→AV
  bx:Id→Option Bx
  al:Id→Bool
def blk:Option Value→Option Nat
  | some (.pointer (some a))=>some a.block
  | some (.slice (some a) _ _)=>some a.block
  | some (.map (some g))=>some g
  | _=>none
def MapRep (h:Hp) {κ α:Type} (ek:κ→Value) (av:α→AV):List (κ×α×Nat)→List MapEntry→Prop
  | [],es=>es=[]
  | p::xs,es=>∃e r,es=e::r∧e.key=ek p.1∧Rep h noB (av p.2.1) e.val∧e.born=p.2.2∧MapRep h ek av xs r
def BoxAt (w:World) (h:Hp) (β:Bt) (id:Id):Bx→Prop
  | .cells cs t=>∃g us,β id=some (.pointer (some ⟨g,0,none⟩))∧w.heap[g]? = some (.cells us t (0,0))∧RepL h β cs us.toList∧h g=none
  | .row sz enc xs t=>∃v vals,β id=some v∧w.ownsRow 0 t sz v xs.length vals∧RepL h noB (xs.flatMap enc) vals∧(∀x∈xs,(enc x).length=sz)∧∀g,v.ownBlock=some g→h g=none
  | .map ek av xs clock=>∃g es,β id=some (.map (some g))∧w.heap[g]? = some (.map es clock)∧MapRep h ek av xs es.toList∧h g=none
  | .iter m since seen last=>∃r g,β id=some (.pointer (some ⟨r,0,none⟩))∧β m=some (.map (some g))∧w.heap[r]? = some (.mapIter (some g) since seen.toArray last)∧h r=none
theorem viewStore_drawn {p:Program} {w:World} {at_:Addr} {u:TypeId} {k:Addr} {v:Value} {atomic:Bool} {r:World×List Addr} (h:w.viewStore p at_ u k v atomic = .ok r):r.1.drawn=w.drawn:=by
 unfold World.viewStore at h;simp only[bind,Except.bind,pure,Except.pure]at h;repeat'(split at h)
 all_goals first|(injection h with h; subst h; rfl)|(cases h)
theorem ask_drawn {α:Type}:∀(x:Ask α) (w:World),w.drawn≤(w.ask x).2.drawn
 | .done a,w=>Nat.le_refl _
 | .ask what range k,w=>by
  unfold World.ask;simp only;split
  ·exact ask_drawn _ w
  ·exact Nat.le_trans (Nat.le_succ _) (ask_drawn _ { w with drawn:=w.drawn+1 })
theorem sys_drawn (w:World) (c:Sys):w.drawn≤(w.sys c).2.drawn:=by
 unfold World.sys;split
 ·exact Nat.le_refl _
 ·rename_i r os w' hx;have:=ask_drawn (Kernel.perform c w.os) w;rw[hx]at this;exact this
theorem run_drawn {α:Type} {p:Program}:∀(x:Sem α) (w:World) (a:α) (w':World),x.run p w = .ok a w'→w.drawn≤w'.drawn:=by
 intro x
 induction x with
 | pure a=>intro w b w' h; simp only[Sem.run]at h; injection h with _ h; rw[h]; exact Nat.le_refl _
 | load m a k ih=>
  intro w b w' h;simp only[Sem.run]at h;split at h
  ·exact ih _ w b w' h
  ·split at h
   ·exact ih _ w b w' h
   ·cases h
 | store m a v k ih=>
  intro w b w' h
  cases v
  all_goals
   simp only[Sem.run]at h
   try cases h
  all_goals
   split at h
   ·split at h
    ·cases h
    ·exact ih (w.setCell a _) b w' h
   ·split at h
    ·rename_i w2 l hx;have h2:=ih w2 b w' h
     have h3:w2.drawn=w.drawn:=by
      unfold World.farStore at hx;split at hx
      ·split at hx
       ·rename_i r hr;injection hx with hx; subst hx;exact viewStore_drawn hr
       ·cases hx
      ·cases hx
     omega
    ·cases h
 | new o k ih=>intro w b w' h; simp only[Sem.run]at h; have:=ih _ _ b w' h; exact this
 | shape r k ih=>intro w b w' h; simp only[Sem.run]at h; exact ih _ w b w' h
 | freeze a n k ih=>
  intro w b w' h;simp only[Sem.run]at h;have:=ih _ b w' h
  have h2:(w.freeze a n).drawn=w.drawn:=by unfold World.freeze; split<;>rfl
  omega
 | frozen a k ih=>intro w b w' h; simp only[Sem.run]at h; exact ih _ w b w' h
 | getObj r k ih=>
  intro w b w' h;simp only[Sem.run]at h;split at h
  ·cases h
  ·exact ih _ w b w' h
  ·cases h
 | setObj r o k ih=>
  intro w b w' h;simp only[Sem.run]at h;split at h
  ·cases h
  ·have:=ih _ b w' h; exact this
  ·cases h
 | choose q k ih=>
  intro w b w' h;simp only[Sem.run]at h;split at h
  ·exact ih _ w b w' h
  ·exact Nat.le_trans (Nat.le_succ _) (ih _ _ b w' h)
 | sys c k ih=>
  intro w b w' h;simp only[Sem.run]at h;exact Nat.le_trans (sys_drawn w c) (ih _ _ b w' h)
 | program k ih=>intro w b w' h; simp only[Sem.run]at h; exact ih _ w b w' h
 | mark s k ih=>intro w b w' h; simp only[Sem.run]at h; exact ih w b w' h
 | halt h'=>intro w b w' h; simp only[Sem.run]at h; cases h
def Hp.le (h h':Hp):Prop:=∀b cs,h b=some cs→h' b=some cs
def Bt.le (β β':Bt):Prop:=∀b v,β b=some v→β' b=some v
def Has (w:World) (h:Hp):Prop:=∀b cs,h b=some cs→∃t fr,w.heap[b]? = some (.cells cs t fr)
structure Evo (M:Nat→Prop) (w0:World) (h0:Hp) (w:World) (h:Hp):Prop where
  os:w.os=w0.os
  tape:w.tape=w0.tape
  output:w.output=w0.output∧w0.drawn≤w.drawn
  size:w0.heap.size≤w.heap.size
  block:∀i,i<w0.heap.size→¬M i→w.heap[i]? = w0.heap[i]?
  le:h0.le h
  fresh:∀b,h b≠none→h0 b≠none∨w0.heap.size≤b∨M b
  has:Has w h
structure Cx where
  w0:World
  h0:Hp
  β0:Bt
  M:Nat→Prop
  dfr:List Deferred
structure Base (C:Cx) (n:Nat) (s:St) (a:Act) (w:World) (h:Hp) (β:Bt):Prop where
  evo:Evo C.M C.w0 C.h0 w h
  b0:C.β0.le β
  slot:∀i,Rep h β (s.env i) (a.tmps.getD i undef)
  box:∀id B,s.bx id=some B→BoxAt w h β id B
  apart:∀id id' B B', s.bx id=some B→s.bx id'=some B'→id≠id'→∀g,blk (β id)=some g→blk (β id')≠some g
  own:∀id B g,s.bx id=some B→blk (β id)=some g→C.M g∨C.w0.heap.size≤g
  dom:∀id,s.al id=false→β id=none
  size:a.tmps.size=n
  defers:a.defers=C.dfr
theorem Ac (h:Hp):h.le h:=fun _ _ h=>h
theorem Hp.le.trans {a b c:Hp} (h:a.le b) (k:b.le c):a.le c:=fun x cs hx=>k x cs (h x cs hx)
theorem AW (h:Bt):h.le h:=fun _ _ h=>h
theorem Bt.le.trans {a b c:Bt} (h:a.le b) (k:b.le c):a.le c:=fun x cs hx=>k x cs (h x cs hx)
theorem E6 (β:Bt):noB.le β:=fun _ _ h=>by simp[noB]at h
theorem hcell.mono {h h':Hp} (hl:h.le h') {a:Addr} {u:Value} (hc:hcell h a u):hcell h' a u:=by
 obtain⟨h1,cs,h2,h3⟩:=hc;exact⟨h1,cs,hl _ _ h2,h3⟩
theorem hcell.cell {h:Hp} {w:World} (hw:Has w h) {a:Addr} {u:Value} (hc:hcell h a u):w.cell? a=some u:=by
 obtain⟨h1,cs,h2,h3⟩:=hc;obtain⟨t,fr,h4⟩:=hw _ _ h2;simp[World.cell?,h4,h1,h3]
mutual
theorem Rep.mono {h h':Hp} (hl:h.le h'):∀ {β β':Bt} (_:β.le β') (c:AV) (u:Value),Rep h β c u→Rep h' β' c u
 | _,_,_,.v x,u,k=>by simpa[Rep]using k
 | _,_,hb,.agg cs,u,k=>by
  simp only[Rep]at k ⊢;obtain⟨us,rfl,k⟩:=k;exact⟨us,rfl,RepL.mono hl hb cs _ k⟩
 | _,_,hb,.tup cs,u,k=>by
  simp only[Rep]at k ⊢;obtain⟨us,rfl,k⟩:=k;exact⟨us,rfl,RepL.mono hl hb cs _ k⟩
 | _,_,_,.sl sz enc xs,u,k=>by
  simp only[Rep]at k ⊢;obtain⟨A,c,rfl,h1,h2,k⟩:=k;refine⟨A,c,rfl,h1,h2,fun i x hx=>?_⟩;obtain⟨ad,us,e,hn,kr,kc⟩:=k i x hx;exact⟨ad,us,e,hn,RepL.mono hl (AW _) (enc x) _ kr,fun j u hu=>(kc j u hu).mono hl⟩
 | _,_,_,.cptr cs,u,k=>by
  simp only[Rep]at k ⊢;obtain⟨ad,us,rfl,kr,kc⟩:=k;exact⟨ad,us,rfl,RepL.mono hl (AW _) cs _ kr,fun j u hu=>(kc j u hu).mono hl⟩
 | _,_,hb,.ptr b off,u,k=>by
  simp only[Rep]at k ⊢;obtain⟨g,e,rfl⟩:=k;exact⟨g,hb _ _ e,rfl⟩
 | _,_,hb,.row b,u,k=>by
  simp only[Rep]at k ⊢;exact⟨hb _ _ k.1,k.2⟩
 | _,_,hb,.rptr b i,u,k=>by
  simp only[Rep]at k ⊢;obtain⟨g,n,c,e,rfl⟩:=k;exact⟨g,n,c,hb _ _ e,rfl⟩
 | _,_,hb,.mp b,u,k=>by
  simp only[Rep]at k ⊢;obtain⟨g,e,rfl⟩:=k;exact⟨g,hb _ _ e,rfl⟩
 | _,_,hb,.sub b off len,u,k=>by
  simp only[Rep]at k ⊢;obtain⟨g,n,c,c', e,rfl⟩:=k;exact⟨g,n,c,c', hb _ _ e,rfl⟩
 | _,_,hb,.fn f caps,u,k=>by
  simp only[Rep]at k ⊢;obtain⟨us,rfl,k⟩:=k;exact⟨us,rfl,RepL.mono hl hb caps _ k⟩
 | _,_,_,.any,u,_=>by simp only[Rep]
theorem RepL.mono {h h':Hp} (hl:h.le h'):∀ {β β':Bt} (_:β.le β') (cs:List AV) (us:List Value),RepL h β cs us→RepL h' β' cs us
 | _,_,_,[],us,k=>by simpa[RepL]using k
 | _,_,hb,c::cs,us,k=>by
  simp only[RepL]at k ⊢;obtain⟨u,r,rfl,k1,k2⟩:=k;exact⟨u,r,rfl,Rep.mono hl hb c u k1,RepL.mono hl hb cs r k2⟩
end
theorem RepL.length {h:Hp} {β:Bt}:∀ {cs:List AV} {us:List Value},RepL h β cs us→us.length=cs.length
 | [],us,k=>by simp only[RepL]at k; simp[k]
 | c::cs,us,k=>by
  simp only[RepL]at k;obtain⟨u,r,rfl,_,k⟩:=k;simp[RepL.length k]
theorem RepL.get {h:Hp} {β:Bt}:∀ {cs:List AV} {us:List Value},RepL h β cs us→∀(i:Nat) (c:AV),cs[i]? = some c→∃u,us[i]? = some u∧Rep h β c u
 | [],us,k,i,c,hc=>by simp at hc
 | c::cs,us,k,i,c', hc=>by
  simp only[RepL]at k;obtain⟨u,r,rfl,k1,k2⟩:=k
  cases i with
  | zero=>simp at hc; subst hc; exact⟨u,by simp,k1⟩
  | succ i=>simp at hc; obtain⟨u', h1,h2⟩:=RepL.get k2 i c' hc; exact⟨u', by simpa using h1,h2⟩
theorem RepL.of_get {h:Hp} {β:Bt}:∀(cs:List AV) (us:List Value),us.length=cs.length→(∀(i:Nat) (c:AV) (u:Value),cs[i]? = some c→us[i]? = some u→Rep h β c u)→RepL h β cs us
 | [],us,hl,_=>by simp only[RepL]; exact List.eq_nil_of_length_eq_zero (by simpa using hl)
 | c::cs,[],hl,_=>by simp at hl
 | c::cs,u::us,hl,k=>by
  simp only[RepL];exact⟨u,us,rfl,k 0 c u (by simp) (by simp),RepL.of_get cs us (by simpa using hl) (fun i c' u' h1 h2=>k (i+1) c' u' (by simpa using h1) (by simpa using h2))⟩
theorem RepL.nil {h:Hp} {β:Bt}:RepL h β [] []:=by simp[RepL]
theorem RepL.cons {h:Hp} {β:Bt} {c:AV} {u:Value} {cs:List AV} {us:List Value} (k:Rep h β c u) (r:RepL h β cs us):RepL h β (c::cs) (u::us):=by
 simp only[RepL]; exact⟨u,us,rfl,k,r⟩
theorem RepL.append {h:Hp} {β:Bt}:∀ {cs ds:List AV} {us ws:List Value},RepL h β cs us→RepL h β ds ws→RepL h β (cs++ds) (us++ws)
 | [],_,us,_,k,k'=>by simp only[RepL]at k; subst k; simpa using k'
 | c::cs,_,us,_,k,k'=>by
  simp only[RepL]at k;obtain⟨u,r,rfl,k1,k2⟩:=k;exact RepL.cons k1 (RepL.append k2 k')
theorem RepL.split {h:Hp} {β:Bt}:∀ {cs ds:List AV} {us:List Value},RepL h β (cs++ds) us→RepL h β cs (us.take cs.length)∧RepL h β ds (us.drop cs.length)
 | [],ds,us,k=>by simpa[RepL]using k
 | c::cs,ds,us,k=>by
  simp only[List.cons_append,RepL]at k;obtain⟨u,r,rfl,k1,k2⟩:=k;obtain⟨k3,k4⟩:=RepL.split k2;exact⟨by simpa using RepL.cons k1 k3,by simpa using k4⟩
theorem RepL.drop {h:Hp} {β:Bt} {cs:List AV} {us:List Value} (k:RepL h β cs us) (n:Nat):RepL h β (cs.drop n) (us.drop n):=by
 refine RepL.of_get _ _ (by simp[k.length]) fun i c u hc hu=>?_;rw[List.getElem?_drop]at hc hu;obtain⟨u', h1,h2⟩:=k.get _ _ hc;rw[h1]at hu; injection hu with hu; subst hu; exact h2
theorem RepL.take {h:Hp} {β:Bt} {cs:List AV} {us:List Value} (k:RepL h β cs us) (n:Nat):RepL h β (cs.take n) (us.take n):=by
 refine RepL.of_get _ _ (by simp[k.length]) fun i c u hc hu=>?_;rw[List.getElem?_take]at hc hu;split at hc
 ·rename_i hi; rw[if_pos hi]at hu;obtain⟨u', h1,h2⟩:=k.get _ _ hc;rw[h1]at hu; injection hu with hu; subst hu; exact h2
 ·simp at hc
/-! Renaming of boxes; values without boxes. -/
mutual
def AV.ren (σ:Id→Id):AV→AV
  | .agg cs => .agg (renL σ cs)
  | .tup cs => .tup (renL σ cs)
  | .ptr b o => .ptr (σ b) o
  | .row b => .row (σ b)
  | .rptr b i => .rptr (σ b) i
  | .mp b => .mp (σ b)
  | .sub b off len => .sub (σ b) off len
  | .fn f caps => .fn f (renL σ caps)
  | .v x => .v x
  | .sl sz enc xs => .sl sz enc xs
  | .cptr cs => .cptr cs
  | .any => .any
def renL (σ:Id→Id):List AV→List AV
  | []=>[]
  | c::cs=>c.ren σ::renL σ cs
end
mutual
def AV.closed:AV→Bool
  | .agg cs=>BN cs
  | .tup cs=>BN cs
  | .ptr _ _=>false
  | .row _=>false
  | .rptr _ _=>false
  | .mp _=>false
  | .sub _ _ _=>false
  | .fn _ caps=>BN caps
  | .v _=>true
  | .sl _ _ _=>true
  | .cptr _=>true
  | .any=>true
def BN:List AV→Bool
  | []=>true
  | c::cs=>c.closed&&BN cs
end
mutual
theorem Rep.closed {h:Hp}:∀ {β β':Bt} (c:AV) (u:Value),c.closed=true→Rep h β c u→Rep h β' c u
 | _,_,.v x,u,_,k=>by simpa[Rep]using k
 | _,_,.agg cs,u,hc,k=>by
  simp only[Rep]at k ⊢;simp only[AV.closed]at hc;obtain⟨us,rfl,k⟩:=k;exact⟨us,rfl,RepL.closed cs _ hc k⟩
 | _,_,.tup cs,u,hc,k=>by
  simp only[Rep]at k ⊢;simp only[AV.closed]at hc;obtain⟨us,rfl,k⟩:=k;exact⟨us,rfl,RepL.closed cs _ hc k⟩
 | _,_,.sl sz enc xs,u,_,k=>by simp only[Rep]at k ⊢; exact k
 | _,_,.cptr cs,u,_,k=>by simp only[Rep]at k ⊢; exact k
 | _,_,.ptr b off,u,hc,_=>by simp[AV.closed]at hc
 | _,_,.row b,u,hc,_=>by simp[AV.closed]at hc
 | _,_,.rptr b i,u,hc,_=>by simp[AV.closed]at hc
 | _,_,.mp b,u,hc,_=>by simp[AV.closed]at hc
 | _,_,.sub b off len,u,hc,_=>by simp[AV.closed]at hc
 | _,_,.fn f caps,u,hc,k=>by
  simp only[Rep]at k ⊢;simp only[AV.closed]at hc;obtain⟨us,rfl,k⟩:=k;exact⟨us,rfl,RepL.closed caps _ hc k⟩
 | _,_,.any,u,_,_=>by simp only[Rep]
theorem RepL.closed {h:Hp}:∀ {β β':Bt} (cs:List AV) (us:List Value),BN cs=true→RepL h β cs us→RepL h β' cs us
 | _,_,[],us,_,k=>by simpa[RepL]using k
 | _,_,c::cs,us,hc,k=>by
  simp only[RepL]at k ⊢;simp only[BN,Bool.and_eq_true]at hc;obtain⟨u,r,rfl,k1,k2⟩:=k;exact⟨u,r,rfl,Rep.closed c u hc.1 k1,RepL.closed cs r hc.2 k2⟩
end
/-! Only what stands in the new names counts. -/
theorem MapRep.mono {h h':Hp} (hl:h.le h') {κ α:Type} {ek:κ→Value} {av:α→AV}:∀ {xs:List (κ×α×Nat)} {es:List MapEntry},MapRep h ek av xs es→MapRep h' ek av xs es
 | [],_,k=>k
 | _::_,_,⟨e,r,h1,h2,h3,h4,h5⟩=>⟨e,r,h1,h2,h3.mono hl (AW _),h4,MapRep.mono hl h5⟩
theorem BoxAt.keep {w w':World} {h h':Hp} {β β':Bt} {id:Id} {B:Bx} (k:BoxAt w h β id B) (hl:h.le h') (hb:β.le β')
  (hw:∀g,blk (β id)=some g→w'.heap[g]? = w.heap[g]? ∧ h' g=none):BoxAt w' h' β' id B:=by
 cases B with
 | cells cs t=>
  obtain⟨g,us,e,hh,kr,kn⟩:=k;obtain⟨h1,h2⟩:=hw g (by simp[e,blk]);exact⟨g,us,hb _ _ e,h1.trans hh,RepL.mono hl hb cs _ kr,h2⟩
 | row sz enc xs t=>
  obtain⟨v,vals,e,ho,kr,ks,kn⟩:=k
  have hbk:∀g,v.ownBlock=some g→w'.heap[g]? = w.heap[g]? ∧ h' g=none:=by
   intro g hg;apply hw g
   cases v<;>simp[Value.ownBlock]at hg
   rename_i a n c
   cases a<;>simp at hg
   simp[e,blk,hg]
  refine⟨v,vals,hb _ _ e,?_,RepL.mono hl (AW _) _ _ kr,ks,fun g hg=>(hbk g hg).2⟩;obtain⟨h1,h2⟩:=ho;refine⟨h1,?_⟩;rcases h2 with h2|⟨g,cap,cur,hv,hg,hh,r⟩
  ·exact .inl h2
  ·exact .inr ⟨g,cap,cur,hv,hg,by rw[(hbk g (by simp[hv,Value.ownBlock])).1]; exact hh,r⟩
 | map ek av xs clock=>
  obtain⟨g,es,e,hh,hr,hn⟩:=k;obtain⟨h1,h2⟩:=hw g (by simp[e,blk]);exact⟨g,es,hb _ _ e,h1.trans hh,hr.mono hl,h2⟩
 | iter m since seen last=>
  obtain⟨r,g,e,em,hh,hn⟩:=k;obtain⟨h1,h2⟩:=hw r (by simp[e,blk]);exact⟨r,g,hb _ _ e,hb _ _ em,h1.trans hh,h2⟩
theorem blk_box {w:World} {h:Hp} {β:Bt} {id:Id} {B:Bx} (k:BoxAt w h β id B) {g:Nat} (hg:blk (β id)=some g):g<w.heap.size∧h g=none:=by
 cases B with
 | cells cs t=>
  obtain⟨g', us,e,hh,kr,kn⟩:=k;simp[e,blk]at hg;subst hg;exact⟨(Array.getElem?_eq_some_iff.1 hh).1,kn⟩
 | row sz enc xs t=>
  obtain⟨v,vals,e,ho,kr,ks,kn⟩:=k
  have:v.ownBlock=some g:=by
   rcases ho.2 with⟨hv,_⟩|⟨g', cap,cur,hv,_⟩
   ·rw[e,hv]at hg; simp[blk]at hg
   ·rw[e,hv]at hg; simp[blk]at hg; rw[hv,hg]; rfl
  exact⟨(ho.lt g this).2,kn g this⟩
 | map ek av xs clock=>
  obtain⟨g', es,e,hh,hr,hn⟩:=k;simp[e,blk]at hg;subst hg;exact⟨(Array.getElem?_eq_some_iff.1 hh).1,hn⟩
 | iter m since seen last=>
  obtain⟨r,g', e,em,hh,hn⟩:=k;simp[e,blk]at hg;subst hg;exact⟨(Array.getElem?_eq_some_iff.1 hh).1,hn⟩
end Go.AL
/- Effects of operations; a region's operations in the order of the text, and in any order. -/
namespace Go.AL
structure Eff:Type 1 where
  val:AV
  upd:List (Id×Bx):=[]
  del:List Id:=[]
  new:List Id:=[]
  tb:List Id:=[]
def Eff.wr (E:Eff):List Id:=E.upd.map (·.1)++E.del++E.new
def Eff.ts (E:Eff):List Id:=E.tb++E.wr
def putE (env:Nat→AV) (d:Option Tmp) (v:AV):Nat→AV:=
  match d with
  | some d=>fun i=>match Nat.beq i d with|true=>v|false=>env i
  | none=>env
def updB (upd:List (Id×Bx)) (bx:Id→Option Bx):Id→Option Bx:=
  match upd with
  | []=>bx
  | (b,B)::r=>fun id=>match Nat.beq id b with|true=>some B|false=>updB r bx id
def delB (del:List Id) (bx:Id→Option Bx):Id→Option Bx:=
  match del with
  | []=>bx
  | b::r=>fun id=>match Nat.beq id b with|true=>none|false=>delB r bx id
def newA (new:List Id) (al:Id→Bool):Id→Bool:=
  match new with
  | []=>al
  | b::r=>fun id=>match Nat.beq id b with|true=>true|false=>newA r al id
def Eff.app (E:Eff) (d:Option Tmp) (s:St):St:=⟨putE s.env d E.val,delB E.del (updB E.upd s.bx),newA E.new s.al⟩
theorem Bd (env:Nat→AV) (d:Tmp) (v:AV):putE env (some d) v d=v:=by simp[putE]
theorem Bi (env:Nat→AV) (d:Option Tmp) (v:AV) (i:Nat) (h:d≠some i):putE env d v i=env i:=by
 cases d with
 | none=>rfl
 | some d=>
  have:Nat.beq i d=false:=by
   cases hb:Nat.beq i d with
   | false=>rfl
   | true=>exact absurd (by rw[Nat.eq_of_beq_eq_true hb]) h
  simp[putE,this]
theorem Ak {i d:Nat} (h:i≠d):Nat.beq i d=false:=by
 cases hb:Nat.beq i d with
 | false=>rfl
 | true=>exact absurd (Nat.eq_of_beq_eq_true hb) h
theorem updB_ne:∀(upd:List (Id×Bx)) (bx:Id→Option Bx) (id:Id),id∉upd.map (·.1)→updB upd bx id=bx id
 | [],_,_,_=>rfl
 | (b,B)::r,bx,id,h=>by
  simp only[List.map_cons,List.mem_cons,not_or]at h;simp only[updB,Ak h.1];exact updB_ne r bx id h.2
theorem delB_ne:∀(del:List Id) (bx:Id→Option Bx) (id:Id),id∉del→delB del bx id=bx id
 | [],_,_,_=>rfl
 | b::r,bx,id,h=>by
  simp only[List.mem_cons,not_or]at h;simp only[delB,Ak h.1];exact delB_ne r bx id h.2
theorem newA_ne:∀(new:List Id) (al:Id→Bool) (id:Id),id∉new→newA new al id=al id
 | [],_,_,_=>rfl
 | b::r,al,id,h=>by
  simp only[List.mem_cons,not_or]at h;simp only[newA,Ak h.1];exact newA_ne r al id h.2
theorem E8:∀(new:List Id) (al:Id→Bool) (id:Id),newA new al id=(new.elem id||al id)
 | [],_,_=>by simp[newA]
 | b::r,al,id=>by
  by_cases h:id=b
  ·subst h; simp[newA]
  ·simp only[newA,Ak h,E8 r al id,List.elem_cons]
   have:(id == b)=false:=by simpa using h
   simp[this]
theorem bx_touched (E:Eff) (d:Option Tmp) (s s':St) (id:Id):(E.app d s).bx id=(E.app d s').bx id∨id∉E.upd.map (·.1)++E.del:=by
 by_cases hu:id∈E.upd.map (·.1)++E.del
 ·left;simp only[Eff.app]
  have hupd:∀(upd:List (Id×Bx)) (b1 b2:Id→Option Bx),id∈upd.map (·.1)∨b1 id=b2 id→updB upd b1 id=updB upd b2 id:=by
   intro upd
   induction upd with
   | nil=>intro b1 b2 h; simpa[updB]using h
   | cons p r ih=>
    intro b1 b2 h;obtain⟨b,B⟩:=p;by_cases he:id=b
    ·subst he; simp[updB]
    ·simp only[updB,Ak he];refine ih b1 b2 ?_;rcases h with h|h
     ·simp only[List.map_cons,List.mem_cons]at h; exact .inl (h.resolve_left he)
     ·exact .inr h
  have hdel:∀(del:List Id) (b1 b2:Id→Option Bx),id∈del∨b1 id=b2 id→delB del b1 id=delB del b2 id:=by
   intro del
   induction del with
   | nil=>intro b1 b2 h; simpa[delB]using h
   | cons b r ih=>
    intro b1 b2 h;by_cases he:id=b
    ·subst he; simp[delB]
    ·simp only[delB,Ak he];refine ih b1 b2 ?_;rcases h with h|h
     ·simp only[List.mem_cons]at h; exact .inl (h.resolve_left he)
     ·exact .inr h
  rcases List.mem_append.1 hu with hu|hu
  ·exact hdel _ _ _ (.inr (hupd _ _ _ (.inl hu)))
  ·exact hdel _ _ _ (.inl hu)
 ·exact .inr hu
theorem El (E:Eff) (d:Option Tmp) (s:St) (id:Id) (h:id∉E.wr):(E.app d s).bx id=s.bx id:=by
 simp only[Eff.wr,List.mem_append,not_or]at h;simp only[Eff.app];rw[delB_ne _ _ _ h.1.2,updB_ne _ _ _ h.1.1]
theorem app_al_ne (E:Eff) (d:Option Tmp) (s:St) (id:Id) (h:id∉E.wr):(E.app d s).al id=s.al id:=by
 simp only[Eff.wr,List.mem_append,not_or]at h;simp only[Eff.app];rw[newA_ne _ _ _ h.2]
theorem app_comm (E F:Eff) (d e:Option Tmp) (s:St) (hd:∀t,d=some t→e≠some t) (hw:∀id∈E.wr,id∉F.wr) :
  E.app d (F.app e s)=F.app e (E.app d s):=by
 have henv:(E.app d (F.app e s)).env=(F.app e (E.app d s)).env:=by
  funext t;simp only[Eff.app];by_cases h1:d=some t
  ·subst h1;rw[Bd,Bi _ e _ _ (hd t rfl),Bd]
  ·rw[Bi _ d _ _ h1];by_cases h2:e=some t
   ·subst h2; rw[Bd,Bd]
   ·rw[Bi _ e _ _ h2,Bi _ e _ _ h2,Bi _ d _ _ h1]
 have hbx:(E.app d (F.app e s)).bx=(F.app e (E.app d s)).bx:=by
  funext id;by_cases h1:id∈E.wr
  ·have h2:=hw id h1;rw[El F e _ id h2];rcases bx_touched E d (F.app e s) s id with h|h
   ·exact h
   ·have hE:∀s,(E.app d s).bx id=s.bx id:=fun s=>by
     simp only[List.mem_append,not_or]at h;simp only[Eff.app]; rw[delB_ne _ _ _ h.2,updB_ne _ _ _ h.1]
    rw[hE,hE,El F e _ id h2]
  ·rw[El E d _ id h1];rcases bx_touched F e s (E.app d s) id with h|h
   ·exact h
   ·have hF:∀s,(F.app e s).bx id=s.bx id:=fun s=>by
     simp only[List.mem_append,not_or]at h;simp only[Eff.app]; rw[delB_ne _ _ _ h.2,updB_ne _ _ _ h.1]
    rw[hF,hF,El E d _ id h1]
 have hal:(E.app d (F.app e s)).al=(F.app e (E.app d s)).al:=by
  funext id;simp only[Eff.app,E8]
  cases E.new.elem id<;>cases F.new.elem id<;>rfl
 cases h1:E.app d (F.app e s)with
 | mk a b c=>cases h2:F.app e (E.app d s)with
  | mk a' b' c'=>rw[h1,h2]at henv hbx hal; simp only at henv hbx hal; subst henv; subst hbx; subst hal; rfl
def OpJ (P:Program) (n:Nat) (o:Oper) (s:St) (E:Eff):Prop:=
  (∀d,o.dst=some d→d<n) ∧
  ∀ (C:Cx) (s':St) (a:Act) (w:World) (h:Hp) (β:Bt) (Q:Exit→Act→World→Prop) (K:Act→World→Prop),
    (∀t,Operand.tmp t∈o.op.operands→s'.env t=s.env t)→(∀id∈E.ts,s'.bx id=s.bx id)→(∀id∈E.new,s'.al id=false) →
    Base C n s' a w h β→(∀a' w' h' β', Base C n (E.app o.dst s') a' w' h' β'→K a' w')→o.wp P a w K Q
abbrev Inv:=List (Id×Nat×List AV)
def InvJ (J:Inv) (s:St):Prop:=∀b off vs,(b,off,vs)∈J→∃cs t,s.bx b=some (.cells cs t)∧(cs.drop off).take vs.length=vs
theorem InvJ.nil (s:St):InvJ [] s:=fun _ _ _ h=>by cases h
def PresJ (J:Inv) (E:Eff):Prop:=∀(s:St) (d:Option Tmp),InvJ J s→InvJ J (E.app d s)
theorem PresJ.val (J:Inv) (v:AV) (tb:List Id):PresJ J ⟨v,[],[],[],tb⟩:=fun _ _ h=>h
theorem PresJ.nil (E:Eff):PresJ [] E:=fun _ _ _=>InvJ.nil _
def lookU:List (Id×Bx)→Id→Option Bx
  | [],_=>none
  | (j,v)::r,i=>match Nat.beq i j with|true=>some v|false=>lookU r i
def inL:List Id→Id→Bool
  | [],_=>false
  | j::r,i=>match Nat.beq i j with|true=>true|false=>inL r i
def presB (b:Id) (off:Nat) (vs:List AV) (E:Eff):Prop:=
  (inL E.del b=false)∧match lookU E.upd b with
  | some (.cells cs _)=>(cs.drop off).take vs.length=vs
  | some (.row _ _ _ _)=>False
  | some (.map _ _ _ _)=>False
  | some (.iter _ _ _ _)=>False
  | none=>True
def BH (J:Inv) (E:Eff):Prop:=
  match J with
  | []=>True
  | (b,off,vs)::r=>presB b off vs E∧BH r E
theorem updB_look:∀(upd:List (Id×Bx)) (bx:Id→Option Bx) (i:Id),updB upd bx i=match lookU upd i with|some B=>some B|none=>bx i
 | [],_,_=>rfl
 | (j,v)::r,bx,i=>by
  simp only[updB,lookU]
  cases Nat.beq i j with
  | true=>rfl
  | false=>exact updB_look r bx i
theorem delB_look:∀(del:List Id) (bx:Id→Option Bx) (i:Id),inL del i=false→delB del bx i=bx i
 | [],_,_,_=>rfl
 | j::r,bx,i,h=>by
  simp only[delB,inL]at h ⊢
  cases hb:Nat.beq i j with
  | true=>rw[hb]at h; cases h
  | false=>rw[hb]at h; exact delB_look r bx i h
theorem PresJ.of {J:Inv} {E:Eff} (h:BH J E):PresJ J E:=by
 intro s d hs b off vs hm
 have hb:∀J:Inv,BH J E→(b,off,vs)∈J→presB b off vs E:=by
  intro J
  induction J with
  | nil=>intro _ h; cases h
  | cons p r ih=>
   obtain⟨b', off', vs'⟩:=p;intro h hm;rcases List.mem_cons.1 hm with hm|hm
   ·injection hm with h1 h2; injection h2 with h2 h3; subst h1 h2 h3; exact h.1
   ·exact ih h.2 hm
 obtain⟨h1,h2⟩:=hb J h hm;obtain⟨cs,t,h3,h4⟩:=hs b off vs hm;show ∃cs t,delB E.del (updB E.upd s.bx) b=some (.cells cs t)∧_;rw[delB_look _ _ _ h1,updB_look]
 cases hu:lookU E.upd b with
 | none=>exact⟨cs,t,h3,h4⟩
 | some B=>
  rw[hu]at h2
  cases B with
  | cells cs' t'=>exact⟨cs', t', rfl,h2⟩
  | row _ _ _ _=>exact h2.elim
  | map _ _ _ _=>exact h2.elim
  | iter _ _ _ _=>exact h2.elim
def OpI (P:Program) (n:Nat) (J:Inv) (o:Oper) (s:St) (E:Eff):Prop:=
  (∀d,o.dst=some d→d<n) ∧
  ∀ (C:Cx) (s':St) (a:Act) (w:World) (h:Hp) (β:Bt) (Q:Exit→Act→World→Prop) (K:Act→World→Prop),InvJ J s' →
    (∀t,Operand.tmp t∈o.op.operands→s'.env t=s.env t)→(∀id∈E.ts,s'.bx id=s.bx id)→(∀id∈E.new,s'.al id=false) →
    Base C n s' a w h β→(∀a' w' h' β', Base C n (E.app o.dst s') a' w' h' β'→K a' w')→o.wp P a w K Q
theorem OpJ.toI {P:Program} {n:Nat} {J:Inv} {o:Oper} {s:St} {E:Eff} (h:OpJ P n o s E):OpI P n J o s E:=⟨h.1,fun C s' a w hp β Q K _=>h.2 C s' a w hp β Q K⟩
def thrS (E:Eff) (s:St):St:=⟨s.env,delB E.tb s.bx,s.al⟩
def ThrJ (P:Program) (n:Nat) (J:Inv) (o:Oper) (s:St) (E:Eff) (chain:List PanicEntry):Prop:=
  ∀ (C:Cx) (s':St) (a:Act) (w:World) (h:Hp) (β:Bt) (Q:Exit→Act→World→Prop) (K:Act→World→Prop),InvJ J s' →
    (∀t,Operand.tmp t∈o.op.operands→s'.env t=s.env t)→(∀id∈E.ts,s'.bx id=s.bx id) →
    Base C n s' a w h β→(∀w' h' β', Base C n (thrS E s') a w' h' β'→Q (.panic chain) a w')→o.wp P a w K Q
def C0 (ops:Array Oper) (o:Oper):Option (Tmp×Bool):=
  match o.guard with
  | none=>none
  | some (j,want)=>match (ops.toList[j]?).bind (·.dst)with
    | some d=>some (d,want)
    | none=>none
def skipE:Eff:=⟨.v (.tuple ⟨[]⟩),[],[],[],[]⟩
def offV (v:AV) (b:Bool):Bool:=
  match v,b with
  | .v (.bool true),false=>true
  | .v (.bool false),true=>true
  | .v (.tuple ⟨[]⟩),_=>true
  | _,_=>false
inductive Ch (P:Program) (n:Nat) (J:Inv) (ops:Array Oper):List Oper→St→List Eff→St→Prop
  | nil (s:St):Ch P n J ops [] s [] s
  | op {o:Oper} {l:List Oper} {s s':St} {E:Eff} {Es:List Eff} (hg:o.guard=none) (hj:OpI P n J o s E) (hn:∀id∈E.new,s.al id=false) (hp:PresJ J E) (r:Ch P n J ops l (E.app o.dst s) Es s'):Ch P n J ops (o::l) s (E::Es) s'
  | guarded {o:Oper} {l:List Oper} {s s':St} {E:Eff} {Es:List Eff} {d:Tmp} {b:Bool} (hg:C0 ops o=some (d,b)) (hs:s.env d = .v (.bool b)) (hj:OpI P n J o s E) (hn:∀id∈E.new,s.al id=false) (hp:PresJ J E) (r:Ch P n J ops l (E.app o.dst s) Es s'):Ch P n J ops (o::l) s (E::Es) s'
  | skip {o:Oper} {l:List Oper} {s s':St} {Es:List Eff} {d:Tmp} {b:Bool} (hg:C0 ops o=some (d,b)) (hs:offV (s.env d) b=true) (hd:∀d,o.dst=some d→d<n) (r:Ch P n J ops l (skipE.app o.dst s) Es s'):Ch P n J ops (o::l) s (skipE::Es) s'
theorem Base.skip {C:Cx} {n:Nat} {s:St} {a:Act} {w:World} {h:Hp} {β:Bt} (k:Base C n s a w h β) (d:Option Tmp) (hd:∀t,d=some t→t<n):Base C n (skipE.app d s) (a.put d undef) w h β:=by
 refine⟨k.evo,k.b0,fun i=>?_,k.box,k.apart,k.own,k.dom,?_,?_⟩
 ·cases d with
  | none=>exact k.slot i
  | some d=>
   by_cases hi:i=d
   ·subst hi
    have:(a.put (some i) undef).tmps.getD i undef=undef:=by
     have hlt:i<a.tmps.size:=by rw[k.size]; exact hd i rfl
     simp[Act.put,hlt]
    simp only[Eff.app,Bd,skipE,Rep];rw[this]; rfl
   ·simp only[Eff.app];rw[Bi _ _ _ _ (by intro e; injection e with e; exact hi e.symm)]
    have:(a.put (some d) undef).tmps.getD i undef=a.tmps.getD i undef:=by
     simp[Act.put,Array.getElem?_setIfInBounds_ne (Ne.symm hi)]
    rw[this]; exact k.slot i
 ·cases d<;>simp[Act.put,k.size]
 ·cases d<;>simp[Act.put,k.defers]
theorem C6 {C:Cx} {n:Nat} {s:St} {a:Act} {w:World} {h:Hp} {β:Bt} (k:Base C n s a w h β) {ops:Array Oper} {o:Oper} {d:Tmp} {want b:Bool}
  (hg:C0 ops o=some (d,want)) (hs:s.env d = .v (.bool b)):Region.wanted o (yielded ops a.tmps)=(b == want):=by
 unfold C0 at hg;unfold Region.wanted
 cases hgd:o.guard with
 | none=>simp[hgd]at hg
 | some p=>
  obtain⟨j,w'⟩:=p;simp only[hgd]at hg ⊢
  cases hj:(ops.toList[j]?).bind (·.dst)with
  | none=>rw[hj]at hg; cases hg
  | some d'=>
   rw[hj]at hg;injection hg with hg;injection hg with h1 h2;subst h1 h2;have hr:=k.slot d';rw[hs]at hr;simp only[Rep]at hr
   have hj':(ops[j]?).bind (·.dst)=some d':=by simpa using hj
   have hlt:a.tmps[d']? = some (.bool b):=by
    rw[Array.getD_eq_getD_getElem?]at hr
    cases hx:a.tmps[d']? with
    | none=>rw[hx]at hr; simp[undef]at hr
    | some x=>rw[hx]at hr; simp at hr; rw[hr]
   simp only[yielded,hj', Option.bind_some,hlt]
   cases b<;>cases w'<;>rfl
theorem unwanted_of {C:Cx} {n:Nat} {s:St} {a:Act} {w:World} {h:Hp} {β:Bt} (k:Base C n s a w h β) {ops:Array Oper} {o:Oper} {d:Tmp} {want:Bool}
  (hg:C0 ops o=some (d,want)) (hs:offV (s.env d) want=true):Region.wanted o (yielded ops a.tmps)=false:=by
 cases hv:s.env d with
 | v x=>
  cases x with
  | bool b=>
   rw[C6 k hg hv];rw[hv]at hs
   cases b<;>cases want<;>simp[offV]at hs ⊢
  | tuple vs=>
   rw[hv]at hs;obtain⟨vs⟩:=vs
   cases vs with
   | cons y ys=>cases want<;>simp[offV]at hs
   | nil=>
    have hr:=k.slot d;rw[hv]at hr;simp only[Rep]at hr;unfold C0 at hg;unfold Region.wanted
    cases hgd:o.guard with
    | none=>simp[hgd]at hg
    | some p=>
     obtain⟨j,w'⟩:=p;simp only[hgd]at hg ⊢
     cases hj:(ops.toList[j]?).bind (·.dst)with
     | none=>rw[hj]at hg; cases hg
     | some d'=>
      rw[hj]at hg;injection hg with hg;injection hg with h1 h2;subst h1 h2
      have hj':(ops[j]?).bind (·.dst)=some d':=by simpa using hj
      simp only[yielded,hj', Option.bind_some];rw[Array.getD_eq_getD_getElem?]at hr
      cases hx:a.tmps[d']? with
      | none=>rfl
      | some x=>rw[hx]at hr; simp at hr; subst hr; rfl
  | _=>rw[hv]at hs; cases want<;>simp[offV]at hs
 | _=>rw[hv]at hs; cases want<;>simp[offV]at hs
theorem wp_seq_ops {P:Program} {n:Nat} {J:Inv} {ops:Array Oper} {C:Cx} {Q:Exit→Act→World→Prop} {l:List Oper} {s s':St} {Es:List Eff} (c:Ch P n J ops l s Es s') :
  ∀(rest:List Nat),InvJ J s→∀(is:List Nat) (a:Act) (w:World) (h:Hp) (β:Bt),is.length=l.length→(∀(k i:Nat) (o:Oper),is[k]? = some i→l[k]? = some o→ops[i]? = some o)→Base C n s a w h β →
   (∀a w h β,InvJ J s'→Base C n s' a w h β→wpOps P ops Q rest a w)→wpOps P ops Q (is++rest) a w:=by
 induction c with
 | nil s=>
  intro rest hJ is a w h β hl _ k K;have:is=[]:=List.eq_nil_of_length_eq_zero (by simpa using hl);subst this;exact K _ _ _ _ hJ k
 | @op o l s s' E Es hg hj hn hp r ih=>
  intro rest hJ is a w h β hl hi k K
  cases is with
  | nil=>simp at hl
  | cons i is=>
   have ho:ops[i]? = some o:=hi 0 i o (by simp) (by simp);simp only[List.cons_append,wpOps,ho]
   have hw:Region.wanted o (yielded ops a.tmps)=true:=by simp[Region.wanted,hg]
   simp only[hw,if_true];left;exact hj.2 C s a w h β Q _ hJ (fun _ _=>rfl) (fun _ _=>rfl) hn k (fun a' w' h' β' k'=>ih rest (hp s o.dst hJ) is a' w' h' β' (by simpa using hl) (fun j i' o' h1 h2=>hi (j+1) i' o' (by simpa using h1) (by simpa using h2)) k' K)
 | @guarded o l s s' E Es d b hg hs hj hn hp r ih=>
  intro rest hJ is a w h β hl hi k K
  cases is with
  | nil=>simp at hl
  | cons i is=>
   have ho:ops[i]? = some o:=hi 0 i o (by simp) (by simp);simp only[List.cons_append,wpOps,ho]
   have hw:Region.wanted o (yielded ops a.tmps)=true:=by rw[C6 k hg hs]; simp
   simp only[hw,if_true];left;exact hj.2 C s a w h β Q _ hJ (fun _ _=>rfl) (fun _ _=>rfl) hn k (fun a' w' h' β' k'=>ih rest (hp s o.dst hJ) is a' w' h' β' (by simpa using hl) (fun j i' o' h1 h2=>hi (j+1) i' o' (by simpa using h1) (by simpa using h2)) k' K)
 | @skip o l s s' Es d b hg hs hd r ih=>
  intro rest hJ is a w h β hl hi k K
  cases is with
  | nil=>simp at hl
  | cons i is=>
   have ho:ops[i]? = some o:=hi 0 i o (by simp) (by simp);simp only[List.cons_append,wpOps,ho];have hw:Region.wanted o (yielded ops a.tmps)=false:=unwanted_of k hg hs;simp only[hw,Bool.false_eq_true,if_false];exact ih rest (PresJ.val J _ _ s o.dst hJ) is _ w h β (by simpa using hl) (fun j i' o' h1 h2=>hi (j+1) i' o' (by simpa using h1) (by simpa using h2)) (k.skip o.dst hd) K
/-! ### Any order -/
def dps (o:Oper):List Nat:=(o.after.toList.filter (Region.binds .any)).map (·.on)
def orB (B:List Nat) (l:List Nat):Nat:=l.foldl (fun s p=>s ||| 2^p ||| B.getD p 0) 0
def BX (ops:Array Oper) (x y:Oper) (E F:Eff):Bool:=
  x.apart ops y&&E.wr.all (fun id => !F.ts.contains id)&&F.wr.all (fun id => !E.ts.contains id)
def certOk (B:List Nat):Nat→List Oper→Bool
  | _,[]=>true
  | j,o::l=>(dps o).all (fun p=>Nat.blt p j)&&Nat.beq (B.getD j 0) (orB B (dps o))&&certOk B (j+1) l
def DJ (ops:Array Oper) (i:Nat) (x:Oper) (E:Eff):List Nat→List Oper→List Eff→Bool
  | b::B,y::l,F::Es=>(Nat.testBit b i||BX ops x y E F)&&DJ ops i x E B l Es
  | _,[],_=>true
  | _,_,_=>false
def EA (ops:Array Oper):Nat→List Nat→List Oper→List Eff→Bool
  | i,_::B,x::l,E::Es=>DJ ops i x E B l Es&&EA ops (i+1) B l Es
  | _,_,[],_=>true
  | _,_,_,_=>false
def chk (ops:Array Oper) (Es:List Eff):Bool:=
  let B:=(Region.before ops).toList
  certOk B 0 ops.toList&&EA ops 0 B ops.toList Es&&(ops.all fun o=>match o.op with | .select .. => false|_=>true)
theorem orB_testBit (B:List Nat) (i:Nat):∀(l:List Nat) (s:Nat),(l.foldl (fun s p=>s ||| 2^p ||| B.getD p 0) s).testBit i=true→s.testBit i=true∨∃p∈l,i=p∨(B.getD p 0).testBit i=true
 | [],s,h => .inl h
 | p::l,s,h=>by
  rw[List.foldl_cons]at h;rcases orB_testBit B i l _ h with h|⟨q,hq,hh⟩
  ·simp only[Nat.testBit_or,Bool.or_eq_true,Nat.testBit_two_pow]at h;rcases h with(h|h)|h
   ·exact .inl h
   ·exact .inr ⟨p,by simp,.inl (by simpa[eq_comm]using h)⟩
   ·exact .inr ⟨p,by simp,.inr h⟩
  ·exact .inr ⟨q,by simp[hq],hh⟩
theorem certOk_at (B:List Nat):∀(l:List Oper) (j0:Nat),certOk B j0 l=true→∀k o,l[k]? = some o→(∀p∈dps o,p<j0+k)∧B.getD (j0+k) 0=orB B (dps o)
 | [],_,_,k,o,h=>by simp at h
 | o::l,j0,hc,k,o', h=>by
  simp only[certOk,Bool.and_eq_true,List.all_eq_true]at hc
  cases k with
  | zero=>
   simp at h;subst h;refine⟨fun p hp=>?_,?_⟩
   ·have h1:=hc.1.1 p hp;simpa using h1
   ·simpa using Nat.eq_of_beq_eq_true hc.1.2
  | succ k=>
   have:=certOk_at B l (j0+1) hc.2 k o' (by simpa using h);rwa [show j0+1+k=j0+(k+1) from by omega]at this
def Closed (ops:Array Oper) (D:Nat→Bool):Prop:=∀j o,ops[j]? = some o→D j=true→∀p∈dps o,D p=true
theorem D7 {ops:Array Oper} {B:List Nat} (hc:certOk B 0 ops.toList=true) {D:Nat→Bool} (hD:Closed ops D) :
  ∀(j:Nat) (o:Oper),ops[j]? = some o→(∀p∈dps o,D p=true)→∀i,(B.getD j 0).testBit i=true→D i=true:=by
 intro j
 induction j using Nat.strongRecOn with
 | _ j ih=>
  intro o ho hp i hi;obtain⟨h1,h2⟩:=certOk_at B ops.toList 0 hc j o (by simpa using ho);rw[Nat.zero_add]at h1 h2;rw[h2]at hi;rcases orB_testBit B i (dps o) 0 hi with h|⟨p,hpm,h⟩
  ·simp at h
  ·rcases h with rfl|h
   ·exact hp _ hpm
   ·have hlt:=h1 p hpm;have hlj:j<ops.size:=(Array.getElem?_eq_some_iff.1 ho).1;have hop:ops[p]? = some ops[p]:=Array.getElem?_eq_getElem (by omega);exact ih p hlt _ hop (fun q hq=>hD p _ hop (hp p hpm) q hq) i h
theorem pairsOk_at (ops:Array Oper) (i:Nat) (x:Oper) (E:Eff):∀(B:List Nat) (l:List Oper) (Es:List Eff),DJ ops i x E B l Es=true →
  ∀(k b:Nat) (y:Oper) (F:Eff),B[k]? = some b→l[k]? = some y→Es[k]? = some F→b.testBit i=true∨BX ops x y E F=true
 | b::B,y::l,F::Es,h,k,b', y', F', hb,hy,hF=>by
  simp only[DJ,Bool.and_eq_true,Bool.or_eq_true]at h
  cases k with
  | zero=>simp at hb hy hF; subst hb hy hF; exact h.1
  | succ k=>exact pairsOk_at ops i x E B l Es h.2 k b' y' F' (by simpa using hb) (by simpa using hy) (by simpa using hF)
 | _,[],_,_,k,_,_,_,_,hy,_=>by simp at hy
 | [],_::_,_,h,_,_,_,_,_,_,_=>by simp[DJ]at h
 | _::_,_::_,[],h,_,_,_,_,_,_,_=>by simp[DJ]at h
theorem DS (ops:Array Oper):∀(i0:Nat) (B:List Nat) (l:List Oper) (Es:List Eff),EA ops i0 B l Es=true →
  ∀(i j:Nat) (x y:Oper) (E F:Eff),i<j→l[i]? = some x→l[j]? = some y→Es[i]? = some E→Es[j]? = some F→∃b:Nat,B[j]? = some b∧(b.testBit (i0+i)=true∨BX ops x y E F=true)
 | i0, b::B,x::l,E::Es,h,i,j,x', y', E', F', hij,hx,hy,hE,hF=>by
  simp only[EA,Bool.and_eq_true]at h
  cases j with
  | zero=>omega
  | succ j=>
   cases i with
   | zero=>
    simp at hx hE hy hF;subst hx hE
    have hlen:∀(B:List Nat) (l:List Oper) (Es:List Eff) (k:Nat) (y:Oper),DJ ops i0 x E B l Es=true→l[k]? = some y→∃b,B[k]? = some b:=by
     intro B l
     induction l generalizing B with
     | nil=>intro Es k y _ h; simp at h
     | cons y0 l ih=>
      intro Es k y h hk
      cases B with
      | nil=>simp[DJ]at h
      | cons b0 B=>
       cases Es with
       | nil=>simp[DJ]at h
       | cons F0 Es=>
        simp only[DJ,Bool.and_eq_true]at h
        cases k with
        | zero=>exact⟨b0,by simp⟩
        | succ k=>obtain⟨b,hb⟩:=ih B Es k y h.2 (by simpa using hk); exact⟨b,by simpa using hb⟩
    obtain⟨b', hb'⟩:=hlen B l Es j y' h.1 hy;exact⟨b', by simpa using hb', pairsOk_at ops i0 x E B l Es h.1 j b' y' F' hb' hy hF⟩
   | succ i=>
    obtain⟨b', h1,h2⟩:=DS ops (i0+1) B l Es h.2 i j x' y' E' F' (by omega) (by simpa using hx) (by simpa using hy) (by simpa using hE) (by simpa using hF);exact⟨b', by simpa using h1,by rwa [show i0+(i+1)=i0+1+i from by omega]⟩
 | _,_,[],_,_,_,_,_,_,_,_,_,hx,_,_,_=>by simp at hx
 | _,[],_::_,_,h,_,_,_,_,_,_,_,_,_,_,_=>by simp[EA]at h
 | _,_::_,_::_,[],h,_,_,_,_,_,_,_,_,_,_,_=>by simp[EA]at h
end Go.AL
/- A region's operations in any order that its edges allow. -/
namespace Go.AL
def AU (D:Nat→Bool):Nat→List Oper→List Eff→St→St
  | i,o::l,E::Es,s=>AU D (i+1) l Es (match D i with|true=>E.app o.dst s|false=>s)
  | _,_,_,s=>s
def Fact (P:Program) (n:Nat) (J:Inv) (ops:Array Oper) (o:Oper) (E:Eff) (s:St):Prop:=
  (o.guard=none∧OpI P n J o s E∧∀id∈E.new,s.al id=false) ∨
  (∃d b,C0 ops o=some (d,b)∧s.env d = .v (.bool b)∧OpI P n J o s E∧∀id∈E.new,s.al id=false) ∨
  (∃d b,C0 ops o=some (d,b)∧offV (s.env d) b=true∧E=skipE∧∀d,o.dst=some d→d<n)
theorem appAll_none (D:Nat→Bool):∀(l:List Oper) (Es:List Eff) (i:Nat) (s:St),(∀k,i≤k→D k=false)→AU D i l Es s=s
 | [],_,_,_,_=>by simp[AU]
 | _::_,[],_,_,_=>by simp[AU]
 | o::l,E::Es,i,s,h=>by
  simp only[AU,h i (Nat.le_refl _)];exact appAll_none D l Es (i+1) s fun k hk=>h k (by omega)
theorem ch_at {P:Program} {n:Nat} {J:Inv} {ops:Array Oper} {l:List Oper} {s s':St} {Es:List Eff} (c:Ch P n J ops l s Es s') :
  ∀(i k:Nat) (o:Oper),l[k]? = some o→∃E,Es[k]? = some E∧Fact P n J ops o E (AU (fun x=>decide (x<i+k)) i l Es s):=by
 have step:∀(o0:Oper) (E0:Eff) (l:List Oper) (Es:List Eff) (s:St) (i k:Nat),AU (fun x=>decide (x<i+(k+1))) i (o0::l) (E0::Es) s=AU (fun x=>decide (x<i+1+k)) (i+1) l Es (E0.app o0.dst s):=by
  intro o0 E0 l Es s i k;simp only[AU]
  have:decide (i<i+(k+1))=true:=by simp
  rw[this];simp only[show i+(k+1)=i+1+k from by omega]
 have zero:∀(l:List Oper) (Es:List Eff) (s:St) (i:Nat),AU (fun x=>decide (x<i+0)) i l Es s=s:=
  fun l Es s i=>appAll_none _ l Es i s fun k hk=>by simp; omega
 induction c with
 | nil s=>intro i k o h; simp at h
 | @op o0 l s s' E Es hg hj hn hp r ih=>
  intro i k o h
  cases k with
  | zero=>simp at h; subst h; exact⟨E,by simp,by rw[zero]; exact .inl ⟨hg,hj,hn⟩⟩
  | succ k=>obtain⟨E', h1,h2⟩:=ih (i+1) k o (by simpa using h); exact⟨E', by simpa using h1,by rw[step]; exact h2⟩
 | @guarded o0 l s s' E Es d b hg hs hj hn hp r ih=>
  intro i k o h
  cases k with
  | zero=>simp at h; subst h; exact⟨E,by simp,by rw[zero]; exact .inr (.inl ⟨d,b,hg,hs,hj,hn⟩)⟩
  | succ k=>obtain⟨E', h1,h2⟩:=ih (i+1) k o (by simpa using h); exact⟨E', by simpa using h1,by rw[step]; exact h2⟩
 | @skip o0 l s s' Es d b hg hs hd r ih=>
  intro i k o h
  cases k with
  | zero=>simp at h; subst h; exact⟨skipE,by simp,by rw[zero]; exact .inr (.inr ⟨d,b,hg,hs,rfl,hd⟩)⟩
  | succ k=>obtain⟨E', h1,h2⟩:=ih (i+1) k o (by simpa using h); exact⟨E', by simpa using h1,by rw[step]; exact h2⟩
theorem ch_end {P:Program} {n:Nat} {J:Inv} {ops:Array Oper} {l:List Oper} {s s':St} {Es:List Eff} (c:Ch P n J ops l s Es s') (D:Nat→Bool) :
  ∀(i:Nat),(∀k,k<l.length→D (i+k)=true)→AU D i l Es s=s':=by
 induction c with
 | nil s=>intro i _; simp[AU]
 | op hg hj hn hp r ih=>
  intro i h;simp only[AU];rw[show D i=true from by simpa using h 0 (by simp)]
  exact ih (i+1) fun k hk=>by rw[show i+1+k=i+(k+1) from by omega]; exact h (k+1) (by simpa using hk)
 | guarded hg hs hj hn hp r ih=>
  intro i h;simp only[AU];rw[show D i=true from by simpa using h 0 (by simp)]
  exact ih (i+1) fun k hk=>by rw[show i+1+k=i+(k+1) from by omega]; exact h (k+1) (by simpa using hk)
 | skip hg hs hd r ih=>
  intro i h;simp only[AU];rw[show D i=true from by simpa using h 0 (by simp)]
  exact ih (i+1) fun k hk=>by rw[show i+1+k=i+(k+1) from by omega]; exact h (k+1) (by simpa using hk)
theorem appAll_env (D D':Nat→Bool) (t:Nat):∀(l:List Oper) (Es:List Eff) (i:Nat) (s s':St),(∀k o,l[k]? = some o→o.dst=some t→D (i+k)=D' (i+k))→s.env t=s'.env t →
  (AU D i l Es s).env t=(AU D' i l Es s').env t
 | [],_,_,_,_,_,h=>by simpa[AU]using h
 | _::_,[],_,_,_,_,h=>by simpa[AU]using h
 | o::l,E::Es,i,s,s', hD,h=>by
  simp only[AU];refine appAll_env D D' t l Es (i+1) _ _ (fun k o' ho hd=>?_) ?_
  ·rw[show i+1+k=i+(k+1) from by omega]; exact hD (k+1) o' (by simpa using ho) hd
  ·by_cases hd:o.dst=some t
   ·rw[show D i=D' i from by simpa using hD 0 o (by simp) hd]
    cases D' i with
    | false=>exact h
    | true=>simp only[Eff.app,hd,Bd]
   ·have e:∀s:St,(E.app o.dst s).env t=s.env t:=fun s=>by simp only[Eff.app]; rw[Bi _ _ _ _ hd]
    cases D i<;>cases D' i<;>simp only[e]<;>exact h
theorem appAll_bx (D D':Nat→Bool) (id:Id):∀(l:List Oper) (Es:List Eff) (i:Nat) (s s':St),(∀k E,Es[k]? = some E→k<l.length→id∈E.wr→D (i+k)=D' (i+k))→s.bx id=s'.bx id→s.al id=s'.al id →
  (AU D i l Es s).bx id=(AU D' i l Es s').bx id∧(AU D i l Es s).al id=(AU D' i l Es s').al id
 | [],_,_,_,_,_,h,h'=>by simpa[AU]using⟨h,h'⟩
 | _::_,[],_,_,_,_,h,h'=>by simpa[AU]using⟨h,h'⟩
 | o :: l,E::Es,i,s,s', hD,h,h'=>by
  simp only[AU];have e1:∀s:St,id∉E.wr→(E.app o.dst s).bx id=s.bx id:=fun s hw=>El E _ s id hw;have e2:∀s:St,id∉E.wr→(E.app o.dst s).al id=s.al id:=fun s hw=>app_al_ne E _ s id hw;refine appAll_bx D D' id l Es (i+1) _ _ (fun k E' hE hk hw=>?_) ?_ ?_
  ·rw[show i+1+k=i+(k+1) from by omega]; exact hD (k+1) E' (by simpa using hE) (by simpa using hk) hw
  ·by_cases hw:id∈E.wr
   ·rw[show D i=D' i from by simpa using hD 0 E (by simp) (by simp) hw]
    cases D' i with
    | false=>exact h
    | true=>
     rcases bx_touched E o.dst s s' id with hx|hx
     ·exact hx
     ·simp only[List.mem_append,not_or]at hx;simp only[Eff.app];rw[delB_ne _ _ _ hx.2,updB_ne _ _ _ hx.1,delB_ne _ _ _ hx.2,updB_ne _ _ _ hx.1];exact h
   ·cases D i<;>cases D' i<;>simp only[e1 _ hw]<;>exact h
  ·by_cases hw:id∈E.wr
   ·rw[show D i=D' i from by simpa using hD 0 E (by simp) (by simp) hw]
    cases D' i with
    | false=>exact h'
    | true=>simp only[Eff.app,E8,h']
   ·cases D i<;>cases D' i<;>simp only[e2 _ hw]<;>exact h'
theorem appAll_push (D:Nat→Bool) (E:Eff) (d:Option Tmp):∀(l:List Oper) (Es:List Eff) (i:Nat) (s:St),
  (∀k o F,l[k]? = some o→Es[k]? = some F→D (i+k)=true→(∀t,d=some t→o.dst≠some t)∧∀id∈E.wr,id∉F.wr) →
  AU D i l Es (E.app d s)=E.app d (AU D i l Es s)
 | [],_,_,_,_=>by simp[AU]
 | _::_,[],_,_,_=>by simp[AU]
 | o::l,F::Es,i,s,h=>by
  simp only[AU];have hr:=fun s=>appAll_push D E d l Es (i+1) s (fun k o' F' h1 h2 h3=>h (k+1) o' F' (by simpa using h1) (by simpa using h2) (by rw[show i+(k+1)=i+1+k from by omega]; exact h3))
  cases hD:D i with
  | false=>exact hr s
  | true=>
   obtain⟨h1,h2⟩:=h 0 o F (by simp) (by simp) (by simpa using hD);simp only;rw[←hr,←app_comm E F d o.dst s h1 h2]
theorem appAll_set (D D':Nat→Bool):∀(l:List Oper) (Es:List Eff) (i k:Nat) (s:St) (o:Oper) (E:Eff),l[k]? = some o→Es[k]? = some E→D (i+k)=false→D' (i+k)=true→(∀x,x≠i+k→D' x=D x) →
  (∀k' o' F,k<k'→l[k']? = some o'→Es[k']? = some F→D (i+k')=true→(∀t,o.dst=some t→o'.dst≠some t)∧∀id∈E.wr,id∉F.wr) →
  AU D' i l Es s=E.app o.dst (AU D i l Es s)
 | [],_,_,k,_,_,_,h,_,_,_,_,_=>by simp at h
 | _::_,[],_,k,_,_,_,_,h,_,_,_,_=>by simp at h
 | o0::l,E0::Es,i,k,s,o,E,ho,hE,hD,hD', hs,hap=>by
  simp only[AU]
  cases k with
  | zero=>
   simp at ho hE;subst ho hE;rw[show D i=false from by simpa using hD,show D' i=true from by simpa using hD'];simp only
   have hcong:∀(l:List Oper) (Es:List Eff) (j:Nat) (s:St),i<j→AU D' j l Es s=AU D j l Es s:=by
    intro l
    induction l with
    | nil=>intro Es j s _; simp[AU]
    | cons o1 l ih=>
     intro Es j s hj
     cases Es with
     | nil=>simp[AU]
     | cons E1 Es=>simp only[AU]; rw[hs j (by omega),ih Es (j+1) _ (by omega)]
   rw[hcong l Es (i+1) _ (by omega)];exact appAll_push D E0 o0.dst l Es (i+1) s fun k' o' F h1 h2 h3=>hap (k'+1) o' F (by omega) (by simpa using h1) (by simpa using h2) (by rw[show i+(k'+1)=i+1+k' from by omega]; exact h3)
  | succ k=>
   rw[hs i (by omega)];exact appAll_set D D' l Es (i+1) k _ o E (by simpa using ho) (by simpa using hE) (by rw[show i+1+k=i+(k+1) from by omega]; exact hD) (by rw[show i+1+k=i+(k+1) from by omega]; exact hD')
    (fun x hx=>hs x (by omega)) (fun k' o' F hlt h1 h2 h3=>hap (k'+1) o' F (by omega) (by simpa using h1) (by simpa using h2) (by rw[show i+(k'+1)=i+1+k' from by omega]; exact h3))
def cnt:Nat→(Nat→Bool)→Nat
  | 0,_=>0
  | n+1,D=>cnt n D+(match D n with|true=>0|false=>1)
theorem cnt_same:∀(n:Nat) (D D':Nat→Bool),(∀x,x<n→D x=D' x)→cnt n D=cnt n D'
 | 0,_,_,_=>rfl
 | n+1,D,D', h=>by simp only[cnt]; rw[cnt_same n D D' (fun x hx=>h x (by omega)),h n (by omega)]
theorem cnt_set:∀(n:Nat) (D D':Nat→Bool) (i:Nat),i<n→D i=false→D' i=true→(∀x,x≠i→D' x=D x)→cnt n D'+1=cnt n D
 | 0,_,_,_,h,_,_,_=>by omega
 | n+1,D,D', i,h,h1,h2,h3=>by
  simp only[cnt];by_cases hi:i=n
  ·subst hi;rw[h1,h2,cnt_same i D' D (fun x hx=>h3 x (by omega))];rfl
  ·rw[h3 n (by omega),←cnt_set n D D' i (by omega) h1 h2 h3]; omega
theorem cnt_zero:∀(n:Nat) (D:Nat→Bool),cnt n D=0→∀i,i<n→D i=true
 | 0,_,_,i,h=>by omega
 | n+1,D,h,i,hi=>by
  simp only[cnt]at h;by_cases hn:i=n
  ·subst hn
   cases hd:D i with
   | true=>rfl
   | false=>rw[hd]at h; simp at h
  ·exact cnt_zero n D (by omega) i (by omega)
theorem ch_pres {P:Program} {n:Nat} {J:Inv} {ops:Array Oper} {l:List Oper} {s s':St} {Es:List Eff} (c:Ch P n J ops l s Es s'):∀E∈Es,PresJ J E:=by
 induction c with
 | nil s=>intro E h; cases h
 | op hg hj hn hp r ih=>intro E h; rcases List.mem_cons.1 h with rfl|h; exact hp; exact ih E h
 | guarded hg hs hj hn hp r ih=>intro E h; rcases List.mem_cons.1 h with rfl|h; exact hp; exact ih E h
 | skip hg hs hd r ih=>intro E h; rcases List.mem_cons.1 h with rfl|h; exact PresJ.val J _ _; exact ih E h
theorem FQ {J:Inv} (D:Nat→Bool):∀(l:List Oper) (Es:List Eff) (i:Nat) (s:St),(∀E∈Es,PresJ J E)→InvJ J s→InvJ J (AU D i l Es s)
 | [],_,_,_,_,h=>by simpa[AU]using h
 | _::_,[],_,_,_,h=>by simpa[AU]using h
 | o::l,E::Es,i,s,hp,h=>by
  simp only[AU];refine FQ D l Es (i+1) _ (fun E hE=>hp E (by simp[hE])) ?_
  cases D i with
  | true=>exact hp E (by simp) s o.dst h
  | false=>exact h
theorem any_sound {P:Program} {n:Nat} {J:Inv} {ops:Array Oper} {C:Cx} {Q:Exit→Act→World→Prop} {s s':St} {Es:List Eff} (hJ:InvJ J s) (c:Ch P n J ops ops.toList s Es s') (hc:chk ops Es=true)
  (HQ:∀a w h β,Base C n s' a w h β→Q .normal a w) :
  ∀(fuel:Nat) (listed:Array Bool) (a:Act) (w:World) (h:Hp) (β:Bt),listed.size=ops.size→Closed ops (fun i=>listed.getD i false)→cnt ops.size (fun i=>listed.getD i false)≤fuel →
   Base C n (AU (fun i=>listed.getD i false) 0 ops.toList Es s) a w h β→wpAny P .any ops Q fuel listed a w:=by
 unfold chk at hc;simp only[Bool.and_eq_true]at hc;obtain⟨⟨hcert,hpairs⟩,hsel⟩:=hc;have hlen:∀(i:Nat) (o:Oper),ops[i]? = some o→i<ops.size:=fun i o ho=>(Array.getElem?_eq_some_iff.1 ho).1
 -- whatever has not come up: the least of it is ready
 have hready:∀(listed:Array Bool),listed.size=ops.size→(∃i,i<ops.size∧listed.getD i false=false)→∃i,i∈Region.ready .any ops listed:=by
  intro listed hs ⟨i,hi,hl⟩
  induction i using Nat.strongRecOn with
  | _ i ih=>
   by_cases hall:∀p∈dps ops[i],listed.getD p false=true
   ·refine⟨i,?_⟩;simp only[Region.ready,List.mem_filter,List.mem_range,Bool.and_eq_true,Bool.not_eq_true'];refine⟨hi,?_,?_⟩
    ·simpa[Array.getD_eq_getD_getElem?,Array.getElem?_eq_getElem (show i<listed.size by omega)]using hl
    ·simp only[Array.getElem?_eq_getElem hi,Option.map_some,Option.getD_some];rw[←Array.all_toList,List.all_eq_true];intro e he
     cases hb:Region.binds .any e with
     | false=>simp
     | true=>simp only[Bool.not_true,Bool.false_or]; exact hall e.on (List.mem_map.2 ⟨e,List.mem_filter.2 ⟨he,hb⟩,rfl⟩)
   ·simp only[Classical.not_forall]at hall;obtain⟨p,hp,hf⟩:=hall;have hlt:=(certOk_at _ ops.toList 0 hcert i ops[i] (by simp[Array.getElem?_eq_getElem hi])).1 p hp;exact ih p (by omega) (by omega) (by simpa using hf)
 have hfin:∀(listed:Array Bool) (a:Act) (w:World) (h:Hp) (β:Bt),(∀i,i<ops.size→listed.getD i false=true)→Base C n (AU (fun i=>listed.getD i false) 0 ops.toList Es s) a w h β→Q .normal a w:=by
  intro listed a w h β hall k;rw[ch_end c _ 0 (fun k hk=>by rw[Nat.zero_add]; exact hall k (by simpa using hk))]at k;exact HQ a w h β k
 intro fuel
 induction fuel with
 | zero=>
  intro listed a w h β hs hcl hcnt k;have hall:=cnt_zero _ _ (Nat.le_zero.1 hcnt);refine⟨?_,hfin listed a w h β hall k⟩
  cases hr:Region.ready .any ops listed with
  | nil=>rfl
  | cons i r=>
   have hm:i∈Region.ready .any ops listed:=by rw[hr]; simp
   simp only[Region.ready,List.mem_filter,List.mem_range,Bool.and_eq_true,Bool.not_eq_true']at hm;have:=hall i hm.1;have h2:=hm.2.1;simp[Array.getD_eq_getD_getElem?,Array.getElem?_eq_getElem (show i<listed.size by omega)]at this h2;rw[this]at h2; cases h2
 | succ fuel ih=>
  intro listed a w h β hs hcl hcnt k;refine⟨fun hr=>hfin listed a w h β ?_ k,fun i hi=>?_⟩
  ·intro i hi
   cases hd:listed.getD i false with
   | true=>rfl
   | false=>obtain⟨j,hj⟩:=hready listed hs ⟨i,hi,hd⟩; rw[hr]at hj; cases hj
  ·simp only[Region.ready,List.mem_filter,List.mem_range,Bool.and_eq_true,Bool.not_eq_true']at hi;obtain⟨hil,hiu,hip⟩:=hi;have ho:ops[i]? = some ops[i]:=Array.getElem?_eq_getElem hil
   generalize hoe:ops[i]=o at *
   have hDi:listed.getD i false=false:=by
    simpa[Array.getD_eq_getD_getElem?,Array.getElem?_eq_getElem (show i<listed.size by omega)]using hiu
   have hpre:∀p∈dps o,listed.getD p false=true:=by
    intro p hp;rw[ho]at hip;simp only[Option.map_some,Option.getD_some]at hip;rw[←Array.all_toList,List.all_eq_true]at hip;simp only[dps,List.mem_map,List.mem_filter]at hp;obtain⟨e,⟨he,hb⟩,rfl⟩:=hp;have:=hip e he;rw[hb]at this;simpa using this
   have hol:ops.toList[i]? = some o:=by simpa using ho
   obtain⟨E,hE,hfact⟩:=ch_at c 0 i o hol;rw[Nat.zero_add]at hfact
   -- how D and the text's front part stand to each other where this operation looks
   have hord:∀(j:Nat) (o':Oper) (F:Eff),ops.toList[j]? = some o'→Es[j]? = some F→(j<i→BX ops o' o F E=false→listed.getD j false=true)∧(i<j→BX ops o o' E F=false→listed.getD j false=false):=by
    intro j o' F hj hF;refine⟨fun hlt hni=>?_,fun hlt hni=>?_⟩
    ·obtain⟨b,hb,h1|h1⟩:=DS ops 0 _ ops.toList Es hpairs j i o' o F E hlt hj hol hF hE
     ·refine D7 hcert hcl i o ho hpre j ?_;rw[List.getD_eq_getElem?_getD,hb];simpa using h1
     ·rw[h1]at hni; cases hni
    ·cases hd:listed.getD j false with
     | false=>rfl
     | true=>
      obtain⟨b,hb,h1|h1⟩:=DS ops 0 _ ops.toList Es hpairs i j o o' E F hlt hol hj hE hF
      ·have hj':ops[j]? = some o':=by simpa using hj
       have:=D7 hcert hcl j o' hj' (fun p hp=>hcl j o' hj' hd p hp) i (by rw[List.getD_eq_getElem?_getD,hb]; simpa using h1);rw[hDi]at this; cases this
      ·rw[h1]at hni; cases hni
   have hEs:∀(j:Nat) (o':Oper),ops.toList[j]? = some o'→∃F,Es[j]? = some F:=fun j o' hj=>let ⟨F,hF,_⟩:=ch_at c 0 j o' hj; ⟨F,hF⟩
   have hsame:∀(j:Nat) (o':Oper) (F:Eff),ops.toList[j]? = some o'→Es[j]? = some F→(j≠i→BX ops o' o F E=false∧BX ops o o' E F=false)→listed.getD j false=decide (j<i):=by
    intro j o' F hj hF hni;by_cases hji:j=i
    ·subst hji; simp[hDi]
    ·obtain⟨h1,h2⟩:=hord j o' F hj hF;by_cases hlt:j<i
     ·simp[h1 hlt (hni hji).1,hlt]
     ·simp[h2 (by omega) (hni hji).2,hlt]
   have hlook:∀t,t∈o.looksAt ops→(AU (fun i=>listed.getD i false) 0 ops.toList Es s).env t=(AU (fun x=>decide (x<i)) 0 ops.toList Es s).env t:=by
    intro t ht;refine appAll_env _ _ t ops.toList Es 0 s s (fun j o' hj hd=>?_) rfl;obtain⟨F,hF⟩:=hEs j o' hj;rw[Nat.zero_add];refine hsame j o' F hj hF fun _=>⟨?_,?_⟩
    ·cases hx:BX ops o' o F E with
     | false=>rfl
     | true=>
      simp only[BX,Bool.and_eq_true]at hx;exact absurd ht ((Oper.apart_spec hx.1.1).1 t hd)
    ·cases hx:BX ops o o' E F with
     | false=>rfl
     | true=>
      simp only[BX,Bool.and_eq_true]at hx;exact absurd ht ((Oper.apart_spec hx.1.1).2.2 t hd)
   have hboxes:∀id,id∈E.ts→(AU (fun i=>listed.getD i false) 0 ops.toList Es s).bx id=(AU (fun x=>decide (x<i)) 0 ops.toList Es s).bx id∧(AU (fun i=>listed.getD i false) 0 ops.toList Es s).al id=(AU (fun x=>decide (x<i)) 0 ops.toList Es s).al id:=by
    intro id hid;refine appAll_bx _ _ id ops.toList Es 0 s s (fun j F hF hj hw=>?_) rfl rfl;rw[Nat.zero_add];refine hsame j _ F (List.getElem?_eq_getElem hj) hF fun _=>⟨?_,?_⟩
    ·cases hx:BX ops ops.toList[j] o F E with
     | false=>rfl
     | true=>
      simp only[BX,Bool.and_eq_true,List.all_eq_true,Bool.not_eq_true']at hx;have:=hx.1.2 id hw;simp[hid]at this
    ·cases hx:BX ops o ops.toList[j] E F with
     | false=>rfl
     | true=>
      simp only[BX,Bool.and_eq_true,List.all_eq_true,Bool.not_eq_true']at hx;have:=hx.2 id hw;simp[hid]at this
   -- the next state
   have hset:∀x,(listed.setIfInBounds i true).getD x false=if x=i then true else listed.getD x false:=by
    intro x;simp only[Array.getD_eq_getD_getElem?];by_cases hx:x=i
    ·subst hx; simp[show x<listed.size by omega]
    ·rw[Array.getElem?_setIfInBounds_ne (Ne.symm hx),if_neg hx]
   have hnext:AU (fun x=>(listed.setIfInBounds i true).getD x false) 0 ops.toList Es s=E.app o.dst (AU (fun i=>listed.getD i false) 0 ops.toList Es s):=by
    refine appAll_set _ _ ops.toList Es 0 i s o E hol hE (by simpa using hDi) (by simp only[Nat.zero_add]; rw[hset,if_pos rfl]) (fun x hx=>by simp only[Nat.zero_add]at hx; rw[hset,if_neg hx]) ?_;intro j o' F hlt hj hF hd;rw[Nat.zero_add]at hd
    have hin:BX ops o o' E F=true:=by
     cases hx:BX ops o o' E F with
     | true=>rfl
     | false=>rw[(hord j o' F hj hF).2 hlt hx]at hd; cases hd
    simp only[BX,Bool.and_eq_true,List.all_eq_true,Bool.not_eq_true']at hin;refine⟨fun t ht=>(Oper.apart_spec hin.1.1).2.1 t ht,fun id hid hf=>?_⟩;have:=hin.1.2 id hid;simp[Eff.ts,hf]at this
   have hcl':Closed ops (fun x=>(listed.setIfInBounds i true).getD x false):=by
    intro j o' hj hd p hp;simp only[hset]at hd ⊢;by_cases hpi:p=i
    ·rw[if_pos hpi]
    ·rw[if_neg hpi];by_cases hji:j=i
     ·subst hji;rw[ho]at hj; injection hj with hj; subst hj;exact hpre p hp
     ·rw[if_neg hji]at hd;exact hcl j o' hj hd p hp
   have hcnt':cnt ops.size (fun x=>(listed.setIfInBounds i true).getD x false)≤fuel:=by
    have:=cnt_set ops.size (fun x=>listed.getD x false) (fun x=>(listed.setIfInBounds i true).getD x false) i hil hDi (by simp only[hset,if_pos]) (fun x hx=>by simp only[hset,if_neg hx]);omega
   have hgo:∀a w h β,Base C n (E.app o.dst (AU (fun i=>listed.getD i false) 0 ops.toList Es s)) a w h β→wpAny P .any ops Q fuel (listed.setIfInBounds i true) a w:=by
    intro a w h β k;refine ih (listed.setIfInBounds i true) a w h β (by simpa using hs) hcl' hcnt' ?_;rw[hnext]; exact k
   have hopnd:∀t,Operand.tmp t∈o.op.operands→t∈o.looksAt ops:=by
    intro t ht;unfold Oper.looksAt;refine List.mem_append.2 (.inl ?_);exact List.mem_filterMap.2 ⟨.tmp t,by simpa using ht,rfl⟩
   have hgd:∀d b,C0 ops o=some (d,b)→d∈o.looksAt ops:=by
    intro d b hg;unfold C0 at hg;unfold Oper.looksAt;refine List.mem_append.2 (.inr ?_)
    cases hgu:o.guard with
    | none=>rw[hgu]at hg; cases hg
    | some q=>
     obtain⟨g,want⟩:=q;rw[hgu]at hg;simp only[Array.getElem?_toList]at hg ⊢
     cases hx:(ops[g]?).bind (·.dst)with
     | none=>rw[hx]at hg; cases hg
     | some d'=>rw[hx]at hg; injection hg with hg; injection hg with hg; subst hg; simp
   have hnewts:∀id∈E.new,id∈E.ts:=fun id hid=>by simp[Eff.ts,Eff.wr,hid]
   unfold wpOp;simp only[ho];rcases hfact with⟨hg,hj,hn⟩|⟨d,b,hg,hsb,hj,hn⟩|⟨d,b,hg,hsb,rfl,hd⟩
   ·rw[if_pos (by simp[Region.wanted,hg])];left;exact hj.2 C _ a w h β Q _ (FQ _ _ _ _ _ (ch_pres c) hJ) (fun t ht=>hlook t (hopnd t ht)) (fun id hid=>(hboxes id hid).1) (fun id hid=>((hboxes id (hnewts id hid)).2).trans (hn id hid)) k hgo
   ·rw[if_pos (by rw[C6 k hg ((hlook d (hgd d b hg)).trans hsb)]; simp)];left;exact hj.2 C _ a w h β Q _ (FQ _ _ _ _ _ (ch_pres c) hJ) (fun t ht=>hlook t (hopnd t ht)) (fun id hid=>(hboxes id hid).1) (fun id hid=>((hboxes id (hnewts id hid)).2).trans (hn id hid)) k hgo
   ·rw[if_neg (by rw[unwanted_of k hg (by rw[hlook d (hgd d b hg)]; exact hsb)]; simp)];exact hgo _ w h β (k.skip o.dst hd)
end Go.AL
/- A region that draws its order, in which one operation panics. -/
namespace Go.AL
def chkT (ops:Array Oper) (Es:List Eff):Bool:=
  let B:=(Region.before ops).toList
  certOk B 0 ops.toList&&EA ops 0 B (ops.toList.take Es.length) Es&&((List.range ops.size).all fun j=>Nat.ble j (Es.length-1)||Nat.testBit (B.getD j 0) (Es.length-1))&&(ops.all fun o=>match o.op with | .select .. => false|_=>true)
theorem ch_length {P:Program} {n:Nat} {J:Inv} {ops:Array Oper} {l:List Oper} {s s':St} {Es:List Eff} (c:Ch P n J ops l s Es s'):Es.length=l.length:=by
 induction c with
 | nil s=>rfl
 | op hg hj hn hp r ih=>simp[ih]
 | guarded hg hs hj hn hp r ih=>simp[ih]
 | skip hg hs hd r ih=>simp[ih]
theorem appAll_snoc (D:Nat→Bool):∀(l:List Oper) (Es:List Eff) (i:Nat) (s:St) (o:Oper) (E:Eff),l.length=Es.length→D (i+l.length)=false→AU D i (l++[o]) (Es++[E]) s=AU D i l Es s
 | [],[],i,s,o,E,_,hD=>by simp only[List.nil_append,AU]; rw[show D i=false by simpa using hD]
 | [],_::_,_,_,_,_,h,_=>by simp at h
 | _::_,[],_,_,_,_,h,_=>by simp at h
 | p::l,F::Es,i,s,o,E,h,hD=>by
  simp only[List.cons_append,AU];exact appAll_snoc D l Es (i+1) _ o E (by simpa using h) (by rw[show i+1+l.length=i+(p::l).length by simp; omega]; exact hD)
theorem any_thr {P:Program} {n:Nat} {J:Inv} {ops:Array Oper} {C:Cx} {Q:Exit→Act→World→Prop} {s s':St} {Es:List Eff} (hJ:InvJ J s) {p:Nat} {op:Oper} {E0:Eff} {chain:List PanicEntry} (c:Ch P n J ops (ops.toList.take p) s Es s') (hop:ops[p]? = some op) (hgp:op.guard=none∨∃d b,C0 ops op=some (d,b)∧s'.env d = .v (.bool b)) (hthr:ThrJ P n J op s' E0 chain) (hc:chkT ops (Es++[E0])=true)
  (HQ:∀a w s'' h β,Base C n s'' a w h β→Q (.panic chain) a w) :
  ∀(fuel:Nat) (listed:Array Bool) (a:Act) (w:World) (h:Hp) (β:Bt),listed.size=ops.size→Closed ops (fun i=>listed.getD i false)→cnt ops.size (fun i=>listed.getD i false)≤fuel→listed.getD p false=false →
   Base C n (AU (fun i=>listed.getD i false) 0 (ops.toList.take p++[op]) (Es++[E0]) s) a w h β→wpAny P .any ops Q fuel listed a w:=by
 have hps:p<ops.size:=(Array.getElem?_eq_some_iff.1 hop).1
 have hcl0:Es.length=p:=by
  have:=ch_length c;rw[List.length_take,Array.length_toList (xs:=ops),Nat.min_eq_left (Nat.le_of_lt hps)]at this;exact this
 have hLp:ops.toList.take (p+1)=ops.toList.take p++[op]:=by
  rw[List.take_add_one,Array.getElem?_toList,hop]; rfl
 have hLget:∀(j:Nat) (o:Oper),(ops.toList.take p++[op])[j]? = some o→ops[j]? = some o∧j≤p:=by
  intro j o h;rw[←hLp,List.getElem?_take]at h;split at h
  ·exact⟨by simpa using h,by omega⟩
  ·cases h
 have hLof:∀(j:Nat) (o:Oper),ops[j]? = some o→j≤p→(ops.toList.take p++[op])[j]? = some o:=by
  intro j o h hj;rw[←hLp,List.getElem?_take,if_pos (by omega)]; simpa using h
 have hthr2:∀D:Nat→Bool,D p=false→AU D 0 (ops.toList.take p++[op]) (Es++[E0]) s=AU D 0 (ops.toList.take p) Es s:=fun D hD=>appAll_snoc D _ _ 0 s op E0 (by rw[List.length_take,Array.length_toList (xs:=ops),hcl0]; omega) (by rw[List.length_take,Array.length_toList (xs:=ops),Nat.zero_add,Nat.min_eq_left (by omega)]; exact hD)
 have hthr3:AU (fun x=>decide (x<p)) 0 (ops.toList.take p) Es s=s':=ch_end c _ 0 fun k hk=>by rw[List.length_take]at hk; simp; omega
 have hpr:∀E∈Es,PresJ J E:=ch_pres c;obtain⟨L,hL⟩:∃L,L=ops.toList.take p++[op]:=⟨_,rfl⟩;obtain⟨Es', hEs'⟩:∃Es', Es'=Es++[E0]:=⟨_,rfl⟩
 have hLl:L.length=p+1:=by rw[hL,List.length_append,List.length_take,Array.length_toList (xs:=ops)]; simp; omega
 have hEl:Es'.length=p+1:=by rw[hEs', List.length_append,hcl0]; rfl
 unfold chkT at hc;rw[List.length_append,hcl0,List.length_singleton,Nat.add_sub_cancel,hLp]at hc;simp only[Bool.and_eq_true]at hc;obtain⟨⟨⟨hcert,hpairs⟩,hlate⟩,hsel⟩:=hc;rw[←hL,←hEs']at hpairs ⊢;have hlen:∀(i:Nat) (o:Oper),ops[i]? = some o→i<ops.size:=fun i o ho=>(Array.getElem?_eq_some_iff.1 ho).1
 -- whatever has not come up: the least of it is ready
 have hready:∀(listed:Array Bool),listed.size=ops.size→(∃i,i<ops.size∧listed.getD i false=false)→∃i,i∈Region.ready .any ops listed:=by
  intro listed hs ⟨i,hi,hl⟩
  induction i using Nat.strongRecOn with
  | _ i ih=>
   by_cases hall:∀p∈dps ops[i],listed.getD p false=true
   ·refine⟨i,?_⟩;simp only[Region.ready,List.mem_filter,List.mem_range,Bool.and_eq_true,Bool.not_eq_true'];refine⟨hi,?_,?_⟩
    ·simpa[Array.getD_eq_getD_getElem?,Array.getElem?_eq_getElem (show i<listed.size by omega)]using hl
    ·simp only[Array.getElem?_eq_getElem hi,Option.map_some,Option.getD_some];rw[←Array.all_toList,List.all_eq_true];intro e he
     cases hb:Region.binds .any e with
     | false=>simp
     | true=>simp only[Bool.not_true,Bool.false_or]; exact hall e.on (List.mem_map.2 ⟨e,List.mem_filter.2 ⟨he,hb⟩,rfl⟩)
   ·simp only[Classical.not_forall]at hall;obtain⟨p,hp,hf⟩:=hall;have hlt:=(certOk_at _ ops.toList 0 hcert i ops[i] (by simp[Array.getElem?_eq_getElem hi])).1 p hp;exact ih p (by omega) (by omega) (by simpa using hf)
 intro fuel
 induction fuel with
 | zero=>
  intro listed a w h β hs hcl hcnt hpf k;have hall:=cnt_zero _ _ (Nat.le_zero.1 hcnt);rw[hall p hps]at hpf; cases hpf
 | succ fuel ih=>
  intro listed a w h β hs hcl hcnt hpf k;refine⟨fun hr=>?_,fun i hi=>?_⟩
  ·obtain⟨j,hj⟩:=hready listed hs ⟨p,hps,hpf⟩; rw[hr]at hj; cases hj
  ·simp only[Region.ready,List.mem_filter,List.mem_range,Bool.and_eq_true,Bool.not_eq_true']at hi;obtain⟨hil,hiu,hip⟩:=hi;have ho:ops[i]? = some ops[i]:=Array.getElem?_eq_getElem hil
   generalize hoe:ops[i]=o at *
   have hDi:listed.getD i false=false:=by
    simpa[Array.getD_eq_getD_getElem?,Array.getElem?_eq_getElem (show i<listed.size by omega)]using hiu
   have hpre:∀p∈dps o,listed.getD p false=true:=by
    intro p hp;rw[ho]at hip;simp only[Option.map_some,Option.getD_some]at hip;rw[←Array.all_toList,List.all_eq_true]at hip;simp only[dps,List.mem_map,List.mem_filter]at hp;obtain⟨e,⟨he,hb⟩,rfl⟩:=hp;have:=hip e he;rw[hb]at this;simpa using this
   have hile:i≤p:=by
    rcases Nat.lt_or_ge p i with h|h
    ·rw[List.all_eq_true]at hlate;have h1:=hlate i (List.mem_range.2 hil);rw[Bool.or_eq_true]at h1;rcases h1 with h1|h1
     ·have:=Nat.le_of_ble_eq_true h1; omega
     ·have:=D7 hcert hcl i o ho hpre p h1;rw[hpf]at this; cases this
    ·exact h
   have hol:L[i]? = some o:=by rw[hL]; exact hLof i o ho hile
   obtain⟨E,hE⟩:∃E,Es'[i]? = some E:=⟨_,List.getElem?_eq_getElem (by omega)⟩
   have hfact:(i<p∧Fact P n J ops o E (AU (fun x=>decide (x<i)) 0 L Es' s))∨(i=p∧o=op∧E=E0):=by
    rcases Nat.lt_or_ge i p with h|h
    ·left;refine⟨h,?_⟩;obtain⟨E', hE', hf⟩:=ch_at c 0 i o (by rw[List.getElem?_take,if_pos h]; simpa using ho)
     have:E'=E:=by
      rw[hEs', List.getElem?_append_left (by omega)]at hE;rw[hE']at hE; injection hE
     subst this;rw[Nat.zero_add]at hf;rw[hL,hEs', hthr2 _ (by simp; omega)];exact hf
    ·right
     have hi':i=p:=by omega
     subst hi';refine⟨rfl,by rw[hop]at ho; injection ho with ho; exact ho.symm,?_⟩;rw[hEs', List.getElem?_append_right (by omega),hcl0,Nat.sub_self]at hE;simp at hE; exact hE.symm
   -- how D and the text's front part stand to each other where this operation looks
   have hord:∀(j:Nat) (o':Oper) (F:Eff),L[j]? = some o'→Es'[j]? = some F→(j<i→BX ops o' o F E=false→listed.getD j false=true)∧(i<j→BX ops o o' E F=false→listed.getD j false=false):=by
    intro j o' F hj hF;refine⟨fun hlt hni=>?_,fun hlt hni=>?_⟩
    ·obtain⟨b,hb,h1|h1⟩:=DS ops 0 _ L Es' hpairs j i o' o F E hlt hj hol hF hE
     ·refine D7 hcert hcl i o ho hpre j ?_;rw[List.getD_eq_getElem?_getD,hb];simpa using h1
     ·rw[h1]at hni; cases hni
    ·cases hd:listed.getD j false with
     | false=>rfl
     | true=>
      obtain⟨b,hb,h1|h1⟩:=DS ops 0 _ L Es' hpairs i j o o' E F hlt hol hj hE hF
      ·have hj':ops[j]? = some o':=by rw[hL]at hj; exact(hLget j o' hj).1
       have:=D7 hcert hcl j o' hj' (fun p hp=>hcl j o' hj' hd p hp) i (by rw[List.getD_eq_getElem?_getD,hb]; simpa using h1);rw[hDi]at this; cases this
      ·rw[h1]at hni; cases hni
   have hEs:∀(j:Nat) (o':Oper),L[j]? = some o'→∃F,Es'[j]? = some F:=fun j o' hj=>⟨_,List.getElem?_eq_getElem (by have:=(List.getElem?_eq_some_iff.1 hj).1; omega)⟩
   have hsame:∀(j:Nat) (o':Oper) (F:Eff),L[j]? = some o'→Es'[j]? = some F→(j≠i→BX ops o' o F E=false∧BX ops o o' E F=false)→listed.getD j false=decide (j<i):=by
    intro j o' F hj hF hni;by_cases hji:j=i
    ·subst hji; simp[hDi]
    ·obtain⟨h1,h2⟩:=hord j o' F hj hF;by_cases hlt:j<i
     ·simp[h1 hlt (hni hji).1,hlt]
     ·simp[h2 (by omega) (hni hji).2,hlt]
   have hlook:∀t,t∈o.looksAt ops→(AU (fun i=>listed.getD i false) 0 L Es' s).env t=(AU (fun x=>decide (x<i)) 0 L Es' s).env t:=by
    intro t ht;refine appAll_env _ _ t L Es' 0 s s (fun j o' hj hd=>?_) rfl;obtain⟨F,hF⟩:=hEs j o' hj;rw[Nat.zero_add];refine hsame j o' F hj hF fun _=>⟨?_,?_⟩
    ·cases hx:BX ops o' o F E with
     | false=>rfl
     | true=>
      simp only[BX,Bool.and_eq_true]at hx;exact absurd ht ((Oper.apart_spec hx.1.1).1 t hd)
    ·cases hx:BX ops o o' E F with
     | false=>rfl
     | true=>
      simp only[BX,Bool.and_eq_true]at hx;exact absurd ht ((Oper.apart_spec hx.1.1).2.2 t hd)
   have hboxes:∀id,id∈E.ts→(AU (fun i=>listed.getD i false) 0 L Es' s).bx id=(AU (fun x=>decide (x<i)) 0 L Es' s).bx id∧(AU (fun i=>listed.getD i false) 0 L Es' s).al id=(AU (fun x=>decide (x<i)) 0 L Es' s).al id:=by
    intro id hid;refine appAll_bx _ _ id L Es' 0 s s (fun j F hF hj hw=>?_) rfl rfl;rw[Nat.zero_add];refine hsame j _ F (List.getElem?_eq_getElem hj) hF fun _=>⟨?_,?_⟩
    ·cases hx:BX ops L[j] o F E with
     | false=>rfl
     | true=>
      simp only[BX,Bool.and_eq_true,List.all_eq_true,Bool.not_eq_true']at hx;have:=hx.1.2 id hw;simp[hid]at this
    ·cases hx:BX ops o L[j] E F with
     | false=>rfl
     | true=>
      simp only[BX,Bool.and_eq_true,List.all_eq_true,Bool.not_eq_true']at hx;have:=hx.2 id hw;simp[hid]at this
   -- the next state
   have hset:∀x,(listed.setIfInBounds i true).getD x false=if x=i then true else listed.getD x false:=by
    intro x;simp only[Array.getD_eq_getD_getElem?];by_cases hx:x=i
    ·subst hx; simp[show x<listed.size by omega]
    ·rw[Array.getElem?_setIfInBounds_ne (Ne.symm hx),if_neg hx]
   have hnext:AU (fun x=>(listed.setIfInBounds i true).getD x false) 0 L Es' s=E.app o.dst (AU (fun i=>listed.getD i false) 0 L Es' s):=by
    refine appAll_set _ _ L Es' 0 i s o E hol hE (by simpa using hDi) (by simp only[Nat.zero_add]; rw[hset,if_pos rfl]) (fun x hx=>by simp only[Nat.zero_add]at hx; rw[hset,if_neg hx]) ?_;intro j o' F hlt hj hF hd;rw[Nat.zero_add]at hd
    have hin:BX ops o o' E F=true:=by
     cases hx:BX ops o o' E F with
     | true=>rfl
     | false=>rw[(hord j o' F hj hF).2 hlt hx]at hd; cases hd
    simp only[BX,Bool.and_eq_true,List.all_eq_true,Bool.not_eq_true']at hin;refine⟨fun t ht=>(Oper.apart_spec hin.1.1).2.1 t ht,fun id hid hf=>?_⟩;have:=hin.1.2 id hid;simp[Eff.ts,hf]at this
   have hcl':Closed ops (fun x=>(listed.setIfInBounds i true).getD x false):=by
    intro j o' hj hd p hp;simp only[hset]at hd ⊢;by_cases hpi:p=i
    ·rw[if_pos hpi]
    ·rw[if_neg hpi];by_cases hji:j=i
     ·subst hji;rw[ho]at hj; injection hj with hj; subst hj;exact hpre p hp
     ·rw[if_neg hji]at hd;exact hcl j o' hj hd p hp
   have hcnt':cnt ops.size (fun x=>(listed.setIfInBounds i true).getD x false)≤fuel:=by
    have:=cnt_set ops.size (fun x=>listed.getD x false) (fun x=>(listed.setIfInBounds i true).getD x false) i hil hDi (by simp only[hset,if_pos]) (fun x hx=>by simp only[hset,if_neg hx]);omega
   have hgo:i≠p→∀a w h β,Base C n (E.app o.dst (AU (fun i=>listed.getD i false) 0 L Es' s)) a w h β→wpAny P .any ops Q fuel (listed.setIfInBounds i true) a w:=by
    intro hne a w h β k;refine ih (listed.setIfInBounds i true) a w h β (by simpa using hs) hcl' hcnt' (by rw[hset,if_neg (Ne.symm hne)]; exact hpf) ?_;rw[hnext]; exact k
   have hopnd:∀t,Operand.tmp t∈o.op.operands→t∈o.looksAt ops:=by
    intro t ht;unfold Oper.looksAt;refine List.mem_append.2 (.inl ?_);exact List.mem_filterMap.2 ⟨.tmp t,by simpa using ht,rfl⟩
   have hgd:∀d b,C0 ops o=some (d,b)→d∈o.looksAt ops:=by
    intro d b hg;unfold C0 at hg;unfold Oper.looksAt;refine List.mem_append.2 (.inr ?_)
    cases hgu:o.guard with
    | none=>rw[hgu]at hg; cases hg
    | some q=>
     obtain⟨g,want⟩:=q;rw[hgu]at hg;simp only[Array.getElem?_toList]at hg ⊢
     cases hx:(ops[g]?).bind (·.dst)with
     | none=>rw[hx]at hg; cases hg
     | some d'=>rw[hx]at hg; injection hg with hg; injection hg with hg; subst hg; simp
   have hnewts:∀id∈E.new,id∈E.ts:=fun id hid=>by simp[Eff.ts,Eff.wr,hid]
   have hinv:∀D:Nat→Bool,D p=false→InvJ J (AU D 0 L Es' s):=by
    intro D hD;rw[hL,hEs', hthr2 D hD];exact FQ _ _ _ _ _ hpr hJ
   unfold wpOp;simp only[ho];rcases hfact with⟨hlt,⟨hg,hj,hn⟩|⟨d,b,hg,hsb,hj,hn⟩|⟨d,b,hg,hsb,rfl,hd⟩⟩|⟨rfl,rfl,rfl⟩
   ·rw[if_pos (by simp[Region.wanted,hg])];left;exact hj.2 C _ a w h β Q _ (hinv _ hpf) (fun t ht=>hlook t (hopnd t ht)) (fun id hid=>(hboxes id hid).1) (fun id hid=>((hboxes id (hnewts id hid)).2).trans (hn id hid)) k (hgo (by omega))
   ·rw[if_pos (by rw[C6 k hg ((hlook d (hgd d b hg)).trans hsb)]; simp)];left;exact hj.2 C _ a w h β Q _ (hinv _ hpf) (fun t ht=>hlook t (hopnd t ht)) (fun id hid=>(hboxes id hid).1) (fun id hid=>((hboxes id (hnewts id hid)).2).trans (hn id hid)) k (hgo (by omega))
   ·rw[if_neg (by rw[unwanted_of k hg (by rw[hlook d (hgd d b hg)]; exact hsb)]; simp)];exact hgo (by omega) _ w h β (k.skip o.dst hd)
   ·have hst:AU (fun x=>decide (x<i)) 0 L Es' s=s':=by rw[hL,hEs', hthr2 _ (by simp),hthr3]
    rw[hst]at hlook hboxes
    rw[if_pos (by
     rcases hgp with hg|⟨d,b,hg,hsb⟩
     ·simp[Region.wanted,hg]
     ·rw[C6 k hg ((hlook d (hgd d b hg)).trans hsb)]; simp)]
    left;exact hthr C _ a w h β Q _ (hinv _ hpf) (fun t ht=>hlook t (hopnd t ht)) (fun id hid=>(hboxes id hid).1) k (fun w' h' β' k'=>HQ _ _ _ _ _ k')
end Go.AL
/- Operations that only yield a value. -/
namespace Go.AL
structure TI where
  desc:TypeDesc
  size:Nat
  bytes:Nat
  zero:List Value
abbrev Tab:=Nat→Option TI
def aggD:TypeDesc→Bool
  | .struct _=>true
  | .array _ _=>true
  | _=>false
structure TIOk (P:Program) (t:Nat) (i:TI):Prop where
  und:P.underlying t=some i.desc
  info:∃inf z,P.info? t=some inf∧inf.size=i.size∧inf.bytes=i.bytes∧inf.zero=some z∧z.cells.toList=i.zero
  zs:i.zero.length=i.size
def BG (P:Program) (tab:Tab):Prop:=∀t i,tab t=some i→TIOk P t i
def opd (s:St):Operand→AV
  | .tmp t=>s.env t
  | .const x => .v x
  | .func f => .fn f []
  | .global g => .v (.pointer (some ⟨g,0,none⟩))
def oneA:AV→Bool
  | .v x=>x.oneCell'
  | .sl _ _ _=>true
  | .cptr _=>true
  | .ptr _ _=>true
  | .row _=>true
  | .rptr _ _=>true
  | .mp _=>true
  | .sub _ _ _=>true
  | .fn _ _=>true
  | _=>false
def BU:List AV→Bool
  | []=>true
  | c::cs=>oneA c&&BU cs
def vL:List Value→List AV
  | []=>[]
  | u::us => .v u::vL us
def D9:AV→Option (List AV)
  | .agg cs=>match BU cs with|true=>some cs|false=>none
  | .v (.agg us)=>match BU (vL us.toList)with|true=>some (vL us.toList)|false=>none
  | c=>match oneA c with|true=>some [c]|false=>none
def BM (agg:Bool) (n:Nat) (cs:List AV):Option AV:=
  match agg,cs with
  | true,cs=>match Nat.ble n cs.length with|true=>some (.agg (cs.take n))|false=>none
  | false,c::_=>some c
  | false,[]=>none
def loadV (tab:Tab) (s:St) (t:TypeId):AV→Option AV
  | .ptr b off=>match s.bx b,tab t with
    | some (.cells cs _),some i=>BM (aggD i.desc) i.size (cs.drop off)
    | _,_=>none
  | .cptr cs=>match tab t with
    | some i=>BM (aggD i.desc) i.size cs
    | none=>none
  | _=>none
def fieldOff (tab:Tab) (t:TypeId) (f:Nat):Option (Nat×TypeId):=
  match tab t with
  | some ⟨.struct fs,_,_,_⟩=>match fs.toList[f]? with
    | some fd=>some (fd.offset,fd.type)
    | none=>none
  | _=>none
def fieldA (tab:Tab) (t:TypeId) (f:Nat) (x:AV):Option AV:=
  match fieldOff tab t f with
  | some (off,ft)=>match tab ft with
    | some i=>match i.size,x with
      | 0,_=>none
      | _,.ptr b o=>some (.ptr b (o+off))
      | _,.cptr cs=>some (.cptr (cs.drop off))
      | _,_=>none
    | none=>none
  | none=>none
def fieldV (tab:Tab) (t:TypeId) (f:Nat) (x:AV):Option AV:=
  match fieldOff tab t f with
  | some (off,ft)=>match tab ft,x with
    | some i,.agg cs=>BM (aggD i.desc) i.size (cs.drop off)
    | _,_=>none
  | none=>none
def uMod:IntKind→Int
  | .u8=>256
  | .u16=>65536
  | .u32=>4294967296
  | .u64=>18446744073709551616
  | _=>0
def isU:IntKind→Bool
  | .u8=>true | .u16=>true | .u32=>true | .u64=>true
  | _=>false
def cmpV (op:BinOp) (a b:Int):Option AV:=
  match op with
  | .eql=>some (.v (.bool (decide (a=b))))
  | .neq=>some (.v (.bool (!decide (a=b))))
  | .lss=>some (.v (.bool (decide (a<b))))
  | .leq=>some (.v (.bool (decide (a≤b))))
  | .gtr=>some (.v (.bool (decide (b<a))))
  | .geq=>some (.v (.bool (decide (b≤a))))
  | _=>none
def D5 (k k':IntKind):Bool:=
  match k,k' with
  | .i8,.i8=>true | .i16,.i16=>true | .i32,.i32=>true | .i64,.i64=>true
  | .u8,.u8=>true | .u16,.u16=>true | .u32,.u32=>true | .u64,.u64=>true
  | _,_=>false
def binV (tab:Tab) (op:BinOp) (t:TypeId) (x y:AV):Option AV:=
  match x,y with
  | .v (.int k a),.v (.int k' b)=>match D5 k k' with|true=>cmpV op a b|false=>none
  | .v (.bool a),.v (.bool b)=>match tab t with
    | some ⟨.bool,_,_,_⟩=>match op with
      | .eql=>some (.v (.bool (a == b)))
      | .neq=>some (.v (.bool (!(a == b))))
      | _=>none
    | _=>none
  | .v (.string a),.v (.string b)=>match op with
    | .eql=>some (.v (.bool (a.toList == b.toList)))
    | .neq=>some (.v (.bool (!(a.toList == b.toList))))
    | _=>none
  | _,_=>none
def lenV (s:St):AV→Option AV
  | .sl _ _ xs=>some (.v (.int .i64 xs.length))
  | .row b=>match s.bx b with
    | some (.row _ _ xs _)=>some (.v (.int .i64 xs.length))
    | _=>none
  | .v (.slice none 0 0)=>some (.v (.int .i64 0))
  | .sub _ _ l=>some (.v (.int .i64 l))
  | _=>none
def modK (k:IntKind) (n:Int):AV:=
  match k with
  | .u8 => .v (.int .u8 (n % 256))
  | .u16 => .v (.int .u16 (n % 65536))
  | .u32 => .v (.int .u32 (n % 4294967296))
  | .u64 => .v (.int .u64 (n % 18446744073709551616))
  | _ => .any
def wr:IntKind→Bool
  | .u8=>true | .u16=>true | .u32=>true
  | _=>false
def convV (tab:Tab) (src dst:TypeId) (x:AV):Option AV:=
  match x,tab src,tab dst with
  | .v (.int _ n),some _,some ⟨.int k,_,_,_⟩=>match wr k with|true=>some (modK k n)|false=>none
  | _,_,_=>none
/-! Values are laid open az soon az they are made: 'whnf' leaves what stands inside a constructor az it is. -/
def force0 {β:Type 1} (c:AV) (k:AV→β):β:=
  match c with
  | .v x=>k (.v x)
  | .agg cs=>k (.agg cs)
  | .tup cs=>k (.tup cs)
  | .sl sz enc xs=>k (.sl sz enc xs)
  | .cptr cs=>k (.cptr cs)
  | .ptr b o=>k (.ptr b o)
  | .row b=>k (.row b)
  | .rptr b i=>k (.rptr b i)
  | .mp b=>k (.mp b)
  | .sub b o l=>k (.sub b o l)
  | .fn f caps=>k (.fn f caps)
  | .any=>k .any
def EU {β:Type 1} (cs:List AV) (k:List AV→β):β:=
  match cs with
  | []=>k []
  | c::r=>force0 c fun c'=>EU r fun r'=>k (c'::r')
def force1 {β:Type 1} (c:AV) (k:AV→β):β:=
  match c with
  | .agg cs=>EU cs fun cs'=>k (.agg cs')
  | .cptr cs=>EU cs fun cs'=>k (.cptr cs')
  | .fn f cs=>EU cs fun cs'=>k (.fn f cs')
  | c=>force0 c k
def forceL1 {β:Type 1} (cs:List AV) (k:List AV→β):β:=
  match cs with
  | []=>k []
  | c::r=>force1 c fun c'=>forceL1 r fun r'=>k (c'::r')
def forceK {β:Type 1} (c:AV) (k:AV→β):β:=
  match c with
  | .tup cs=>forceL1 cs fun cs'=>k (.tup cs')
  | c=>force1 c k
theorem force0_eq {β:Type 1} (c:AV) (k:AV→β):force0 c k=k c:=by cases c<;>rfl
theorem Ds {β:Type 1}:∀(cs:List AV) (k:List AV→β),EU cs k=k cs
 | [],k=>rfl
 | c::r,k=>by simp only[EU,force0_eq,Ds r]
theorem force1_eq {β:Type 1} (c:AV) (k:AV→β):force1 c k=k c:=by cases c<;>simp only[force1,Ds,force0_eq]
theorem forceL1_eq {β:Type 1}:∀(cs:List AV) (k:List AV→β),forceL1 cs k=k cs
 | [],k=>rfl
 | c::r,k=>by simp only[forceL1,force1_eq,forceL1_eq r]
theorem forceK_eq {β:Type 1} (c:AV) (k:AV→β):forceK c k=k c:=by cases c<;>simp only[forceK,forceL1_eq,force1_eq]
def opds (s:St):List Operand→List AV
  | []=>[]
  | x::xs=>opd s x::opds s xs
def Aw (tab:Tab) (s:St):Op→Option AV
  | .move x=>some (opd s x)
  | .assign x=>some (opd s x)
  | .pick c a b=>match opd s c with
    | .v (.bool true)=>some (opd s a)
    | .v (.bool false)=>some (opd s b)
    | _=>none
  | .load t x=>loadV tab s t (opd s x)
  | .fieldAddr t x f=>fieldA tab t f (opd s x)
  | .field t x f=>fieldV tab t f (opd s x)
  | .unOp .not _ x=>match opd s x with
    | .v (.bool b)=>some (.v (.bool (!b)))
    | _=>none
  | .unOp .neg _ x=>match opd s x with
    | .v (.int k n)=>match isU k with|true=>some (modK k (0-n))|false=>none
    | _=>none
  | .extract x i=>match opd s x with
    | .tup cs=>cs[i]?
    | _=>none
  | .nilCheck x=>match opd s x with
    | .ptr b o=>some (.ptr b o)
    | .cptr cs=>some (.cptr cs)
    | .fn f caps=>some (.fn f caps)
    | _=>none
  | .makeFunc (.func f) ⟨[]⟩ caps=>some (.fn f (opds s caps.toList))
  | .binOp op t x y _=>binV tab op t (opd s x) (opd s y)
  | .convert src dst x=>convV tab src dst (opd s x)
  | .call { callee := .builtin .len,args:=⟨[x]⟩,argTypes:=⟨[t]⟩ }=>match tab t with
    | some ⟨.slice _,_,_,_⟩=>lenV s (opd s x)
    | _=>none
  | _=>none
def opTb (s:St):Op→List Id
  | .load _ x=>match opd s x with | .ptr b _=>[b]|_=>[]
  | .call { callee := .builtin .len,args:=⟨[x]⟩,argTypes:=_ }=>match opd s x with | .row b=>[b]|_=>[]
  | _=>[]
theorem AK {C:Cx} {n:Nat} {s:St} {a:Act} {w:World} {h:Hp} {β:Bt} (k:Base C n s a w h β) (x:Operand):Rep h β (opd s x) (a.eval x):=by
 cases x with
 | tmp t=>exact k.slot t
 | const x=>simp[opd,Rep,Act.eval]
 | func f=>simp[opd,Rep,Act.eval,RepL]
 | global g=>simp[opd,Rep,Act.eval]
theorem DA {s s':St}:∀(l:List Operand),(∀x∈l,opd s' x=opd s x)→opds s' l=opds s l
 | [],_=>rfl
 | x::l,h=>by simp only[opds]; rw[h x (by simp),DA l fun y hy=>h y (by simp[hy])]
theorem CU {C:Cx} {n:Nat} {s:St} {a:Act} {w:World} {h:Hp} {β:Bt} (k:Base C n s a w h β):∀(l:List Operand),RepL h β (opds s l) (l.map a.eval)
 | []=>RepL.nil
 | x::l=>RepL.cons (AK k x) (CU k l)
theorem Eb {k k':IntKind} (h:D5 k k'=true):k=k':=by cases k<;>cases k'<;>simp[D5]at h ⊢
theorem wrap_u {k:IntKind} (h:isU k=true) (n:Int):k.wrap n=n % uMod k:=by
 cases k<;>simp[isU]at h<;>simp[IntKind.wrap,IntKind.signed,IntKind.bits,uMod]
theorem Base.val {C:Cx} {n:Nat} {s:St} {a:Act} {w:World} {h:Hp} {β:Bt} (k:Base C n s a w h β) (d:Option Tmp) (hd:∀t,d=some t→t<n) {v:AV} {u:Value} (hr:Rep h β v u) (tb:List Id) :
  Base C n (Eff.app ⟨v,[],[],[],tb⟩ d s) (a.put d u) w h β:=by
 refine⟨k.evo,k.b0,fun i=>?_,k.box,k.apart,k.own,k.dom,?_,?_⟩
 ·cases d with
  | none=>exact k.slot i
  | some d=>
   by_cases hi:i=d
   ·subst hi;simp only[Eff.app,Bd]
    have:(a.put (some i) u).tmps.getD i undef=u:=by
     have hlt:i<a.tmps.size:=by rw[k.size]; exact hd i rfl
     simp[Act.put,hlt]
    rw[this]; exact hr
   ·simp only[Eff.app];rw[Bi _ _ _ _ (by intro e; injection e with e; exact hi e.symm)]
    have:(a.put (some d) u).tmps.getD i undef=a.tmps.getD i undef:=by
     simp[Act.put,Array.getElem?_setIfInBounds_ne (Ne.symm hi)]
    rw[this]; exact k.slot i
 ·cases d<;>simp[Act.put,k.size]
 ·cases d<;>simp[Act.put,k.defers]
theorem run_load_cells {P:Program} {w:World} {ad:Addr} {us:List Value} (hc:∀(j:Nat) (u:Value),us[j]? = some u→w.cell? (ad.add j)=some u) (n:Nat) (hn:n≤us.length):(loadCells ad n).run P w = .ok (us.take n).toArray w:=by
 have h:=run_loadCells_list (P:=P) w ad (us.take n) (fun j v hv=>hc j v (by
  rw[List.getElem?_take]at hv;split at hv
  ·exact hv
  ·cases hv))
 rwa [List.length_take,Nat.min_eq_left hn]at h
theorem Dy {P:Program} {w:World} {h:Hp} {β:Bt} {t:TypeId} {i:TI} (hi:TIOk P t i) {ad:Addr} {cs:List AV} {us:List Value} (hr:RepL h β cs us)
  (hc:∀(j:Nat) (u:Value),us[j]? = some u→w.cell? (ad.add j)=some u) {v:AV} (hv:BM (aggD i.desc) i.size cs=some v):∃u,(loadVar t ad).run P w = .ok u w∧Rep h β v u:=by
 obtain⟨inf,z,h1,h2,h3,h4,h5⟩:=hi.info
 have hsz:(sizeOf t).run P w = .ok i.size w:=by simp[sizeOf,typeInfo,h1,h2]
 cases hag:aggD i.desc with
 | true=>
  rw[hag]at hv;simp only[BM]at hv;split at hv
  ·rename_i hle;injection hv with hv;subst hv
   have hle:i.size≤us.length:=by rw[hr.length]; exact Nat.le_of_ble_eq_true hle
   have hisA:(isAgg t).run P w = .ok true w:=by
    simp only[isAgg,Sem.run_bind,run_underlying hi.und]
    cases hd:i.desc<;>simp[hd,aggD]at hag<;>rfl
   refine⟨.agg (us.take i.size).toArray,?_,?_⟩
   ·simp only[loadVar,Sem.run_bind,hisA,Result.andThen,if_true,hsz,run_load_cells hc i.size hle,Sem.run_pure]
   ·simp only[Rep];exact⟨_,rfl,by simpa using hr.take i.size⟩
  ·cases hv
 | false=>
  rw[hag]at hv
  cases cs with
  | nil=>simp[BM]at hv
  | cons c cs=>
   simp only[BM]at hv;injection hv with hv;subst hv;simp only[RepL]at hr;obtain⟨u,r,rfl,hr1,_⟩:=hr
   have hisA:(isAgg t).run P w = .ok false w:=by
    simp only[isAgg,Sem.run_bind,run_underlying hi.und]
    cases hd:i.desc<;>simp[hd,aggD]at hag<;>rfl
   have hcell:=hc 0 u (by simp);simp only[Addr.add,if_true]at hcell;refine⟨u,?_,hr1⟩;simp only[loadVar,Sem.run_bind,hisA,Result.andThen,Bool.false_eq_true,if_false,run_load,hcell]
theorem cells_add {w:World} {g:Nat} {us:Array Value} {t:TypeId} {fr:Nat×Nat} (hg:w.heap[g]? = some (.cells us t fr)) (off j:Nat) (u:Value) (hu:us.toList[off+j]? = some u):w.cell? ((⟨g,off,none⟩:Addr).add j)=some u:=by
 have:(⟨g,off,none⟩:Addr).add j=⟨g,off+j,none⟩:=by unfold Addr.add; split<;>simp_all
 rw[this];simp only[World.cell?,hg];simpa using hu
theorem CF {h:Hp} {β:Bt}:∀ {cs:List AV} {us:List Value},BU cs=true→RepL h β cs us→∀u∈us,u.oneCell'=true
 | [],us,_,k,u,hu=>by simp only[RepL]at k; subst k; cases hu
 | c::cs,us,ho,k,u,hu=>by
  simp only[BU,Bool.and_eq_true]at ho;simp only[RepL]at k;obtain⟨u0,r,rfl,k1,k2⟩:=k;rcases List.mem_cons.1 hu with rfl|hu
  ·cases c<;>simp only[oneA,Bool.false_eq_true,false_and]at ho<;>simp only[Rep]at k1
   ·rw[k1]; exact ho.1
   ·obtain⟨A,c,rfl,_⟩:=k1; rfl
   ·obtain⟨ad,us,rfl,_⟩:=k1; rfl
   ·obtain⟨g,_,rfl⟩:=k1; rfl
   ·obtain⟨_,A,n,c,rfl⟩:=k1; rfl
   ·obtain⟨g,n,c,_,rfl⟩:=k1; rfl
   ·obtain⟨g,_,rfl⟩:=k1; rfl
   ·obtain⟨g,n,c,c', _,rfl⟩:=k1; rfl
   ·obtain⟨us,rfl,_⟩:=k1; rfl
  ·exact CF ho.2 k2 u hu
theorem Dw {h:Hp} {β:Bt}:∀us:List Value,RepL h β (vL us) us
 | []=>RepL.nil
 | u::us=>RepL.cons (by simp[Rep]) (Dw us)
theorem FK {h:Hp} {β:Bt} {c:AV} {cs:List AV} {u:Value} (hc:D9 c=some cs) (k:Rep h β c u):RepL h β cs u.cells.toList∧∀x∈u.cells.toList,x.oneCell'=true:=by
 have single:∀c:AV,oneA c=true→Rep h β c u→u.cells = #[u]→RepL h β [c] u.cells.toList∧∀x∈u.cells.toList,x.oneCell'=true:=by
  intro c ho k hu
  have hl:RepL h β [c] u.cells.toList:=by rw[hu]; exact RepL.cons k RepL.nil
  exact⟨hl,CF (by simp[BU,ho]) hl⟩
 have ucell:u.oneCell'=true→u.cells = #[u]:=by
  intro ho; cases u<;>simp[Value.oneCell']at ho<;>rfl
 have one1:oneA c=true→u.oneCell'=true:=fun ho=>CF (cs:=[c]) (us:=[u]) (by simp[BU,ho]) (RepL.cons k RepL.nil) u (by simp);unfold D9 at hc;split at hc
 ·rename_i cs0;split at hc
  ·rename_i ho;injection hc with hc; subst hc;simp only[Rep]at k;obtain⟨us,rfl,k⟩:=k;exact⟨k,CF ho k⟩
  ·cases hc
 ·rename_i us;split at hc
  ·rename_i ho;injection hc with hc; subst hc;simp only[Rep]at k;subst k;exact⟨Dw _,CF ho (Dw (h:=h) (β:=β) _)⟩
  ·cases hc
 ·split at hc
  ·rename_i ho;injection hc with hc; subst hc;exact single c ho k (ucell (one1 ho))
  ·cases hc
theorem fieldOff_ok {P:Program} {tab:Tab} (ht:BG P tab) {t:TypeId} {f off:Nat} {ft:TypeId} (hf:fieldOff tab t f=some (off,ft)) :
  ∃(fs:Array Field) (fd:Field),P.underlying t=some (.struct fs)∧fs[f]? = some fd∧fd.offset=off∧fd.type=ft:=by
 unfold fieldOff at hf;split at hf
 ·rename_i fs _ _ _ hti;split at hf
  ·rename_i fd hfd;injection hf with hf;injection hf with h1 h2;exact⟨fs,fd,(ht _ _ hti).und,by simpa using hfd,h1,h2⟩
  ·cases hf
 ·cases hf
theorem BZ {P:Program} {t:TypeId} {i:TI} (hi:TIOk P t i) (w:World):(sizeOf t).run P w = .ok i.size w:=by
 obtain⟨inf,z,h1,h2,_⟩:=hi.info;simp[sizeOf,typeInfo,h1,h2]
end Go.AL
/- Operations that only yield a value: sound. -/
namespace Go.AL
theorem opVal_same {tab:Tab} {s s':St} {op:Op} (ho:∀x∈op.operands,opd s' x=opd s x) (hb:∀id∈opTb s op,s'.bx id=s.bx id):Aw tab s' op=Aw tab s op:=by
  cases op with
  | move x=>simp only[Aw]; rw[ho x (by simp[Op.operands])]
  | assign x=>simp only[Aw]; rw[ho x (by simp[Op.operands])]
  | pick c a b=>simp only[Aw]; rw[ho c (by simp[Op.operands]),ho a (by simp[Op.operands]),ho b (by simp[Op.operands])]
  | load t x=>
    simp only[Aw]; rw[ho x (by simp[Op.operands])];simp only[opTb]at hb
    cases hx:opd s x with
    | ptr b off=>rw[hx]at hb; simp only[loadV]; rw[hb b (by simp)]
    | _=>rfl
  | fieldAddr t x f=>simp only[Aw]; rw[ho x (by simp[Op.operands])]
  | field t x f=>simp only[Aw]; rw[ho x (by simp[Op.operands])]
  | unOp op t x=>cases op<;>simp only[Aw]<;>rw[ho x (by simp[Op.operands])]
  | extract x i=>simp only[Aw]; rw[ho x (by simp[Op.operands])]
  | nilCheck x=>simp only[Aw]; rw[ho x (by simp[Op.operands])]
  | makeFunc fn first caps=>
    cases fn with
    | func f=>
      obtain⟨fl⟩:=first
      cases fl with
      | nil=>simp only[Aw]; rw[DA caps.toList fun x hx=>ho x (by simpa[Op.operands]using hx)]
      | cons y ys=>rfl
    | _=>rfl
  | binOp op t x y t'=>simp only[Aw]; rw[ho x (by simp[Op.operands]),ho y (by simp[Op.operands])]
  | convert a b x=>simp only[Aw]; rw[ho x (by simp[Op.operands])]
  | call c=>
    obtain⟨callee,⟨args⟩,⟨argTypes⟩⟩:=c
    cases callee with
    | value f=>rfl
    | invoke r m=>rfl
    | builtin b=>
      cases b<;>try rfl
      match args,argTypes with
      | [x], [t] =>
        simp only[Aw]; rw[ho x (by simp[Op.operands,Call.operands])];simp only[opTb]at hb
        cases hx:opd s x with
        | row b=>rw[hx]at hb; simp only[lenV]; rw[hb b (by simp)]
        | v y => have hl:lenV s' (.v y)=lenV s (.v y):=by unfold lenV; split<;>first|rfl|(rename_i hh; cases hh)
                 rw[hl]
        | _=>rfl
      | [],_=>rfl
      | [_],[]=>rfl
      | [_],_::_::_=>rfl
      | _::_::_,_=>rfl
  | _=>rfl
theorem run_conv {P:Program} (w:World) {src dst:TypeId} {k k':IntKind} {n:Int} (hs:(P.underlying src).isSome=true) (hd:P.underlying dst=some (.int k)):(convert src dst (.int k' n)).run P w = .ok (.int k (k.wrap n)) w:=by
 cases hu:P.underlying src with
 | none=>rw[hu]at hs; cases hs
 | some d=>simp only[convert,Sem.run_bind,run_underlying hu,run_underlying hd,Result.andThen,Conv.intToInt,Sem.run_pure]
theorem val_run {P:Program} {tab:Tab} (ht:BG P tab) {C:Cx} {n:Nat} {s:St} {a:Act} {w:World} {h:Hp} {β:Bt} (k:Base C n s a w h β) {o:Oper} {v:AV} (hv:Aw tab s o.op=some v) :
  ∃u,(execOp a.eval o).run P w = .ok (.value u) w∧Rep h β v u:=by
 obtain⟨dst,op,type,pos,after,guard⟩:=o
 cases op with
 | move x=>simp only[Aw,Option.some.injEq]at hv; subst hv; exact⟨_,by simp only[execOp,Sem.run_pure],AK k x⟩
 | assign x=>simp only[Aw,Option.some.injEq]at hv; subst hv; exact⟨_,by simp only[execOp,Sem.run_pure],AK k x⟩
 | pick c x y=>
  simp only[Aw]at hv;have hc:=AK k c;split at hv
  ·rename_i he;rw[he]at hc; simp only[Rep]at hc;injection hv with hv; subst hv;exact⟨a.eval x,by simp only[execOp,hc,asBool,Sem.run_bind,Sem.run_pure,Result.andThen,if_true],AK k x⟩
  ·rename_i he;rw[he]at hc; simp only[Rep]at hc;injection hv with hv; subst hv;exact⟨a.eval y,by simp only[execOp,hc,asBool,Sem.run_bind,Sem.run_pure,Result.andThen,Bool.false_eq_true,if_false],AK k y⟩
  ·cases hv
 | load t x=>
  simp only[Aw]at hv;have hx:=AK k x;unfold loadV at hv;split at hv
  ·rename_i b off he;split at hv
   ·rename_i cs t' i hb hti;rw[he]at hx;simp only[Rep]at hx;obtain⟨g,e1,e2⟩:=hx;obtain⟨g', us,e3,hg,hr,_⟩:=k.box b _ hb;rw[e1]at e3;injection e3 with e3; injection e3 with e3; injection e3 with e3; injection e3 with e3;subst e3;obtain⟨u,hu1,hu2⟩:=Dy (P:=P) (w:=w) (ht _ _ hti) (ad:=⟨g,off,none⟩) (hr.drop off) (fun j u hu=>cells_add hg off j u (by rwa [List.getElem?_drop]at hu)) hv;exact⟨u,by simp only[execOp,e2,Instr.loadAt,Instr.sureAddr,Sem.run_bind,Sem.run_pure,Result.andThen,hu1],hu2⟩
   ·cases hv
  ·rename_i cs he;split at hv
   ·rename_i i hti;rw[he]at hx;simp only[Rep]at hx;obtain⟨ad,us,e2,hr,hc⟩:=hx;obtain⟨u,hu1,hu2⟩:=Dy (P:=P) (w:=w) (ht _ _ hti) (ad:=ad) (hr.mono (Ac h) (E6 β)) (fun j u hu=>(hc j u hu).cell k.evo.has) hv;exact⟨u,by simp only[execOp,e2,Instr.loadAt,Instr.sureAddr,Sem.run_bind,Sem.run_pure,Result.andThen,hu1],hu2⟩
   ·cases hv
  ·cases hv
 | fieldAddr t x f=>
  simp only[Aw]at hv;have hx:=AK k x;unfold fieldA at hv;split at hv
  ·rename_i off ft hfo;obtain⟨fs,fd,hu,hfd,ho,hft⟩:=fieldOff_ok ht hfo;split at hv
   ·rename_i i hti;have hsz:=BZ (ht _ _ hti) w;split at hv
    ·cases hv
    ·rename_i m b o he hne;injection hv with hv; subst hv;rw[he]at hx;simp only[Rep]at hx ⊢;obtain⟨g,e1,e2⟩:=hx;refine⟨_,?_,g,e1,rfl⟩;simp only[execOp,e2,Instr.fieldAt,Instr.sureAddr,Sem.run_bind,run_underlying hu,Result.andThen,hfd,Sem.run_pure,fieldPlace,hft,hsz,ho];rw[if_neg (by omega)];simp only[Sem.run_pure,Addr.add];split<;>simp_all
    ·rename_i m cs he hne;injection hv with hv; subst hv;rw[he]at hx;simp only[Rep]at hx ⊢;obtain⟨ad,us,e2,hr,hc⟩:=hx;refine⟨.pointer (some (ad.add off)),?_,ad.add off,us.drop off,rfl,hr.drop off,fun j u hu=>?_⟩
     ·simp only[execOp,e2,Instr.fieldAt,Instr.sureAddr,Sem.run_bind,run_underlying hu,Result.andThen,hfd,Sem.run_pure,fieldPlace,hft,hsz,ho];rw[if_neg (by omega)];simp only[Sem.run_pure]
     ·rw[List.getElem?_drop]at hu;have:=hc (off+j) u hu
      have hadd:(ad.add off).add j=ad.add (off+j):=by
       unfold Addr.add;by_cases h1:off=0
       ·subst h1; simp
       ·by_cases h2:j=0
        ·subst h2; simp[h1]
        ·simp[h1,h2,Nat.add_assoc]
      rwa [hadd]
    ·cases hv
   ·cases hv
  ·cases hv
 | field t x f=>
  simp only[Aw]at hv;have hx:=AK k x;unfold fieldV at hv;split at hv
  ·rename_i off ft hfo;obtain⟨fs,fd,hu,hfd,ho,hft⟩:=fieldOff_ok ht hfo;split at hv
   ·rename_i i cs hti he;rw[he]at hx;simp only[Rep]at hx;obtain⟨us,e2,hr⟩:=hx;have hsz:=BZ (ht _ _ hti) w;have hi:=ht _ _ hti
    cases hag:aggD i.desc with
    | true=>
     rw[hag]at hv;simp only[BM]at hv;split at hv
     ·rename_i hle;injection hv with hv; subst hv
      have hisA:(isAgg ft).run P w = .ok true w:=by
       simp only[isAgg,Sem.run_bind,run_underlying hi.und]
       cases hd:i.desc<;>simp[hd,aggD]at hag<;>rfl
      refine⟨.agg (us.extract off (off+i.size)),?_,?_⟩
      ·simp only[execOp,e2,Instr.field,Sem.run_bind,run_underlying hu,Result.andThen,hfd,asAgg,Sem.run_pure,part,hft,hisA,if_true,hsz,ho]
      ·simp only[Rep];refine⟨_,rfl,?_⟩;have:=(hr.drop off).take i.size;simpa[Array.toList_extract,List.extract_eq_take_drop]using this
     ·cases hv
    | false=>
     rw[hag]at hv
     cases hcs:cs.drop off with
     | nil=>rw[hcs]at hv; simp[BM]at hv
     | cons c r=>
      rw[hcs]at hv;simp only[BM]at hv;injection hv with hv; subst hv
      have hisA:(isAgg ft).run P w = .ok false w:=by
       simp only[isAgg,Sem.run_bind,run_underlying hi.und]
       cases hd:i.desc<;>simp[hd,aggD]at hag<;>rfl
      obtain⟨u,h1,h2⟩:=hr.get off c (by have:=congrArg (fun l=>l[0]?) hcs; simpa[List.getElem?_drop]using this);refine⟨u,?_,h2⟩
      have h1':us[off]? = some u:=by simpa using h1
      simp only[execOp,e2,Instr.field,Sem.run_bind,run_underlying hu,Result.andThen,hfd,asAgg,Sem.run_pure,part,hft,hisA,Bool.false_eq_true,if_false,ho,h1']
   ·cases hv
  ·cases hv
 | unOp op t x=>
  have hx:=AK k x
  cases op<;>simp only[Aw]at hv<;>try(cases hv; done)
  ·split at hv
   ·rename_i kd m he;split at hv
    ·rename_i hu;injection hv with hv; subst hv;rw[he]at hx; simp only[Rep]at hx;exact⟨.int kd ((0-m) % uMod kd),by simp only[execOp,hx,Op.unary,Op.intArith,Sem.run_bind,Sem.run_pure,Result.andThen,wrap_u hu],by cases kd<;>simp[isU]at hu<;>simp only[modK,Rep,uMod]⟩
    ·cases hv
   ·cases hv
  ·split at hv
   ·rename_i b he;injection hv with hv; subst hv;rw[he]at hx; simp only[Rep]at hx;exact⟨.bool (!b),by simp only[execOp,hx,Op.unary,Sem.run_bind,Sem.run_pure,Result.andThen],by simp only[Rep]⟩
   ·cases hv
 | extract x i=>
  simp only[Aw]at hv;have hx:=AK k x;split at hv
  ·rename_i cs he;rw[he]at hx;simp only[Rep]at hx;obtain⟨us,e2,hr⟩:=hx;obtain⟨u,h1,h2⟩:=hr.get i v hv
   have h1':us[i]? = some u:=by simpa using h1
   exact⟨u,by simp only[execOp,e2,Instr.extract,h1', Sem.run_bind,Sem.run_pure,Result.andThen],h2⟩
  ·cases hv
 | nilCheck x=>
  simp only[Aw]at hv;have hx:=AK k x;split at hv
  ·rename_i b off he;injection hv with hv; subst hv;rw[he]at hx;have hx':=hx;simp only[Rep]at hx;obtain⟨g,e1,e2⟩:=hx;exact⟨a.eval x,by simp only[execOp,e2,Sem.run_pure],hx'⟩
  ·rename_i cs he;injection hv with hv; subst hv;rw[he]at hx;have hx':=hx;simp only[Rep]at hx;obtain⟨ad,us,e2,_⟩:=hx;exact⟨a.eval x,by simp only[execOp,e2,Sem.run_pure],hx'⟩
  ·rename_i f caps he;injection hv with hv; subst hv;rw[he]at hx;have hx':=hx;simp only[Rep]at hx;obtain⟨us,e2,_⟩:=hx;exact⟨a.eval x,by simp only[execOp,e2,Sem.run_pure],hx'⟩
  ·cases hv
 | makeFunc fn first caps=>
  cases fn with
  | func f=>
   obtain⟨fl⟩:=first
   cases fl with
   | nil=>
    simp only[Aw]at hv;injection hv with hv; subst hv;refine⟨.func (.func f) #[] (caps.map a.eval),by simp[execOp,Instr.makeFunc],?_⟩;simp only[Rep];exact⟨_,rfl,by simpa using CU k caps.toList⟩
   | cons y ys=>simp[Aw]at hv
  | _=>simp[Aw]at hv
 | binOp op t x y t'=>
  simp only[Aw]at hv;have hx:=AK k x;have hy:=AK k y;unfold binV at hv;split at hv
  ·rename_i kd m kd' m' he1 he2;split at hv
   ·rename_i hk;have hk:=Eb hk;subst hk;rw[he1]at hx; rw[he2]at hy;simp only[Rep]at hx hy;unfold cmpV at hv;split at hv<;>first
     | (injection hv with hv; subst hv; exact⟨_,by simp only[execOp,hx,hy,eqGuard,binOp,Op.intCmp,Sem.run_bind,Sem.run_pure,Result.andThen,ne_eq,not_true_eq_false,if_false]; rfl,by simp only[Rep]<;>first|done|rfl⟩)
     | cases hv
   ·cases hv
  ·rename_i b b' he1 he2;split at hv
   ·rename_i hti;rw[he1]at hx; rw[he2]at hy;simp only[Rep]at hx hy;have hu:=(ht _ _ hti).und;simp only at hu;split at hv
    ·injection hv with hv; subst hv
     exact⟨.bool (b == b'),by
      have hg:(eqGuard .eql t x y (.bool b) (.bool b')).run P w = .ok () w:=by simp[eqGuard]
      simp only[execOp,hx,hy,Sem.run_bind,Sem.run_pure,Result.andThen,run_eql_bool w t b b' hu,hg],by simp only[Rep]⟩
    ·injection hv with hv; subst hv
     exact⟨.bool (!(b == b')),by
      have hg:(eqGuard .neq t x y (.bool b) (.bool b')).run P w = .ok () w:=by simp[eqGuard]
      simp only[execOp,hx,hy,Sem.run_bind,Sem.run_pure,Result.andThen,run_neq_bool w t b b' hu,hg],by simp only[Rep]⟩
    ·cases hv
   ·cases hv
  ·rename_i b b' he1 he2;rw[he1]at hx; rw[he2]at hy;simp only[Rep]at hx hy;split at hv
   ·injection hv with hv; subst hv;exact⟨.bool (b.toList == b'.toList),by simp[execOp,hx,hy,eqGuard,binOp,Op.stringOp],by simp only[Rep]⟩
   ·injection hv with hv; subst hv;exact⟨.bool (!(b.toList == b'.toList)),by simp[execOp,hx,hy,eqGuard,binOp,Op.stringOp],by simp only[Rep]⟩
   ·cases hv
  ·cases hv
 | convert src dst x=>
  simp only[Aw]at hv;have hx:=AK k x;unfold convV at hv;split at hv
  ·rename_i kd m i1 kd' _ _ _ he h1 h2;split at hv
   ·rename_i hu;injection hv with hv; subst hv;rw[he]at hx; simp only[Rep]at hx
    have hs:(P.underlying src).isSome=true:=by rw[(ht _ _ h1).und]; rfl
    have hd:=(ht _ _ h2).und;simp only at hd
    have hu2:isU kd'=true:=by cases kd'<;>simp[wr]at hu<;>rfl
    exact⟨.int kd' (m % uMod kd'),by simp only[execOp,hx,Sem.run_bind,run_conv w hs hd,Result.andThen,Sem.run_pure,wrap_u hu2],by cases kd'<;>simp[wr]at hu<;>simp only[modK,Rep,uMod]⟩
   ·cases hv
  ·cases hv
 | call c=>
  obtain⟨callee,⟨args⟩,⟨argTypes⟩⟩:=c
  cases callee with
  | value f=>simp[Aw]at hv
  | invoke r m=>simp[Aw]at hv
  | builtin b=>
   cases b<;>try(simp[Aw]at hv; done)
   match args,argTypes with
   | [x],[t]=>
    simp only[Aw]at hv;have hx:=AK k x;split at hv
    ·rename_i e _ _ _ hti;have hu:=(ht _ _ hti).und;simp only at hu;unfold lenV at hv;split at hv
     ·rename_i α sz enc xs he;injection hv with hv; subst hv;rw[he]at hx; simp only[Rep]at hx;obtain⟨A,c,e2,_⟩:=hx;exact⟨.int .i64 xs.length,by simp[execOp,resolve,invoke,builtin,Builtin.len_,e2,run_underlying hu,goInt],by simp only[Rep]⟩
     ·rename_i b he;split at hv
      ·rename_i α sz enc xs t' hb;injection hv with hv; subst hv;rw[he]at hx; simp only[Rep]at hx;obtain⟨e1,A,m,c,e2⟩:=hx;obtain⟨v,vals,e3,ho,_⟩:=k.box b _ hb;rw[e1]at e3; injection e3 with e3
       have hm:m=xs.length:=by
        rw[←e3,e2]at ho;rcases ho.2 with⟨h1,h2⟩|⟨g,cap,cur,h1,_⟩
        ·injection h1 with _ h1 _; omega
        ·injection h1 with _ h1 _
       refine⟨.int .i64 xs.length,?_,by simp only[Rep]⟩;simp[execOp,resolve,invoke,builtin,Builtin.len_,e2,run_underlying hu,goInt,hm]
      ·cases hv
     ·rename_i he;injection hv with hv; subst hv;rw[he]at hx; simp only[Rep]at hx;exact⟨.int .i64 0,by simp[execOp,resolve,invoke,builtin,Builtin.len_,hx,run_underlying hu,goInt],by simp only[Rep]⟩
     ·rename_i b off l he;injection hv with hv; subst hv;rw[he]at hx; simp only[Rep]at hx;obtain⟨g,n,c,c', _,e2⟩:=hx;exact⟨.int .i64 l,by simp[execOp,resolve,invoke,builtin,Builtin.len_,e2,run_underlying hu,goInt],by simp only[Rep]⟩
     ·cases hv
    ·cases hv
   | [],_=>simp[Aw]at hv
   | [_],[]=>simp[Aw]at hv
   | [_],_::_::_=>simp[Aw]at hv
   | _::_::_,_=>simp[Aw]at hv
 | _=>simp[Aw]at hv
theorem AR {P:Program} {n:Nat} {o:Oper} {s:St} {v:AV} {tb:List Id} (hd:∀d,o.dst=some d→d<n)
  (hr:∀(C:Cx) (s':St) (a:Act) (w:World) (h:Hp) (β:Bt),(∀x∈o.op.operands,opd s' x=opd s x)→(∀id∈tb,s'.bx id=s.bx id)→Base C n s' a w h β →
   ∃u,(execOp a.eval o).run P w = .ok (.value u) w∧Rep h β v u):OpJ P n o s ⟨v,[],[],[],tb⟩:=by
 refine⟨hd,fun C s' a w h β Q K ht hb _ k hK=>?_⟩;obtain⟨u,h1,h2⟩:=hr C s' a w h β (fun x hx=>by cases x with|tmp t=>exact ht t hx|_=>rfl) (fun id hid=>hb id (by simp[Eff.ts,hid])) k;unfold Oper.wp;rw[h1];simp only[Oper.upon];exact hK _ _ h β (k.val o.dst hd h2 tb)
theorem OpJ.of_val {P:Program} {tab:Tab} (ht:BG P tab) {n:Nat} {o:Oper} {s:St} {v:AV} (hd:∀d,o.dst=some d→d<n) (hv:Aw tab s o.op=some v):OpJ P n o s ⟨v,[],[],[],opTb s o.op⟩:=
 AR hd fun C s' a w h β ho hb k=>val_run ht k (by rw[opVal_same ho hb]; exact hv)
end Go.AL
/- Operations on memory. -/
namespace Go.AL
def D4:Nat→Prop:=fun _=>False
theorem Evo.refl (M:Nat→Prop) {w:World} {h:Hp} (hw:Has w h):Evo M w h w h:=
 ⟨rfl,rfl,⟨rfl,Nat.le_refl _⟩,Nat.le_refl _,fun _ _ _=>rfl,Ac h,fun _ hb => .inl hb,hw⟩
theorem Evo.trans {M N:Nat→Prop} {w0 w w':World} {h0 h h':Hp} (a:Evo M w0 h0 w h) (b:Evo N w h w' h') (hN:∀g,N g→M g∨w0.heap.size≤g):Evo M w0 h0 w' h':=by
 refine⟨b.os.trans a.os,b.tape.trans a.tape,⟨b.output.1.trans a.output.1,Nat.le_trans a.output.2 b.output.2⟩,Nat.le_trans a.size b.size,fun i hi hm=>?_,a.le.trans b.le,fun g hg=>?_,b.has⟩
 ·rw[b.block i (Nat.lt_of_lt_of_le hi a.size) (fun hn=>?_),a.block i hi hm];rcases hN i hn with h|h
  ·exact hm h
  ·omega
 ·rcases b.fresh g hg with h|h|h
  ·exact a.fresh g h
  ·exact .inr (.inl (Nat.le_trans a.size h))
  ·rcases hN g h with h|h
   ·exact .inr (.inr h)
   ·exact .inr (.inl h)
theorem Base.blk_lt {C:Cx} {n:Nat} {s:St} {a:Act} {w:World} {h:Hp} {β:Bt} (k:Base C n s a w h β) {id:Id} {B:Bx} (hb:s.bx id=some B) {g:Nat} (hg:blk (β id)=some g):g<w.heap.size∧h g=none:=blk_box (k.box id B hb) hg
theorem Base.step {C:Cx} {n:Nat} {s:St} {a:Act} {w w':World} {h h':Hp} {β:Bt} (k:Base C n s a w h β) (e:Evo D4 w h w' h'):Base C n s a w' h' β:=by
 refine⟨k.evo.trans e (fun _ h=>h.elim),k.b0,fun i=>(k.slot i).mono e.le (AW β),fun id B hb=>?_,k.apart,k.own,k.dom,k.size,k.defers⟩;refine(k.box id B hb).keep e.le (AW β) fun g hg=>?_;obtain⟨h1,h2⟩:=k.blk_lt hb hg;refine⟨e.block g h1 (fun h=>h),?_⟩
 cases hh:h' g with
 | none=>rfl
 | some cs=>
  rcases e.fresh g (by simp[hh])with h3|h3|h3
  ·exact absurd h2 h3
  ·omega
  ·exact h3.elim
theorem Cb {w:World} {h:Hp} (hw:Has w h) (o:Obj):Evo D4 w h (w.alloc o) h:=by
 refine⟨rfl,rfl,⟨rfl,Nat.le_refl _⟩,by simp,fun i hi _=>heap_alloc_old w o i hi,Ac h,fun _ hb => .inl hb,fun b cs hb=>?_⟩;obtain⟨t,fr,hh⟩:=hw b cs hb;exact⟨t,fr,by rw[heap_alloc_old w o b (Array.getElem?_eq_some_iff.1 hh).1]; exact hh⟩
def Hp.set (h:Hp) (g:Nat) (us:Array Value):Hp:=fun b=>match Nat.beq b g with|true=>some us|false=>h b
theorem Hp.set_same (h:Hp) (g:Nat) (us:Array Value):h.set g us g=some us:=by simp[Hp.set]
theorem Hp.set_ne (h:Hp) (g:Nat) (us:Array Value) (b:Nat) (hb:b≠g):h.set g us b=h b:=by simp[Hp.set,Ak hb]
theorem CW {w:World} {h:Hp} (hw:Has w h) {g:Nat} (hg:w.heap.size≤g):h g=none:=by
 cases hh:h g with
 | none=>rfl
 | some cs=>
  obtain⟨t,fr,h1⟩:=hw g cs hh;have:=(Array.getElem?_eq_some_iff.1 h1).1;omega
theorem evo_alloc_fixed {w:World} {h:Hp} (hw:Has w h) (us:Array Value) (t:TypeId) (w1:World) (h1:w1.os=w.os) (h2:w1.tape=w.tape) (h3:w1.output=w.output∧w.drawn≤w1.drawn) (h4:w1.heap=w.heap) :
  Evo D4 w h (w1.alloc (.cells us t)) (h.set w.heap.size us):=by
 have hs:w1.heap.size=w.heap.size:=by rw[h4]
 refine⟨h1,h2,h3,by simp[hs],fun i hi _=>?_,fun b cs hb=>?_,fun b hb=>?_,fun b cs hb=>?_⟩
 ·rw[heap_alloc_old w1 _ i (by omega),h4]
 ·obtain⟨t', fr,hh⟩:=hw b cs hb;have:=(Array.getElem?_eq_some_iff.1 hh).1;rw[Hp.set_ne _ _ _ _ (by omega)]; exact hb
 ·by_cases hbe:b=w.heap.size
  ·subst hbe; exact .inr (.inl (Nat.le_refl _))
  ·rw[Hp.set_ne _ _ _ _ hbe]at hb; exact .inl hb
 ·by_cases hbe:b=w.heap.size
  ·subst hbe;rw[Hp.set_same]at hb; injection hb with hb; subst hb;refine⟨t,(0,0),?_⟩;have:=heap_alloc_new w1 (.cells us t);rwa [hs]at this
  ·rw[Hp.set_ne _ _ _ _ hbe]at hb;obtain⟨t', fr,hh⟩:=hw b cs hb;refine⟨t', fr,?_⟩;rw[heap_alloc_old w1 _ b (by have:=(Array.getElem?_eq_some_iff.1 hh).1; omega),h4]; exact hh
def Bt.set (β:Bt) (id:Id) (v:Value):Bt:=fun x=>match Nat.beq x id with|true=>some v|false=>β x
theorem Bt.set_same (β:Bt) (id:Id) (v:Value):β.set id v id=some v:=by simp[Bt.set]
theorem Bt.set_ne (β:Bt) (id:Id) (v:Value) (x:Id) (h:x≠id):β.set id v x=β x:=by simp[Bt.set,Ak h]
theorem Bt.le_set {β:Bt} {id:Id} (h:β id=none) (v:Value):β.le (β.set id v):=by
 intro x u hx;by_cases he:x=id
 ·subst he; rw[h]at hx; cases hx
 ·rw[Bt.set_ne _ _ _ _ he]; exact hx
theorem Base.addbox {C:Cx} {n:Nat} {s:St} {a:Act} {w:World} {h:Hp} {β:Bt} (k:Base C n s a w h β) {id:Id} (hal:s.al id=false) {bv:Value} {B:Bx} (hB:BoxAt w h (β.set id bv) id B)
  (hg:∀g,blk (some bv)=some g→(∀id' B', s.bx id'=some B'→blk (β id')≠some g)∧(C.M g∨C.w0.heap.size≤g))
  (d:Option Tmp) (hd:∀t,d=some t→t<n) {v:AV} {u:Value} (hr:Rep h (β.set id bv) v u) (tb:List Id) :
  Base C n ((Eff.mk v [(id,B)] [] [id] tb).app d s) (a.put d u) w h (β.set id bv):=by
 have hn:β id=none:=k.dom id hal;have hle:=Bt.le_set hn bv
 have hnb:∀B', s.bx id≠some B':=fun B' hB'=>by
  cases B' with
  | cells cs t=>obtain⟨g,us,e,_⟩:=k.box id _ hB'; rw[hn]at e; cases e
  | row sz enc xs t=>obtain⟨v,vals,e,_⟩:=k.box id _ hB'; rw[hn]at e; cases e
  | map ek av xs clock=>obtain⟨g,es,e,_⟩:=k.box id _ hB'; rw[hn]at e; cases e
  | iter m a b c=>obtain⟨r,g,e,_⟩:=k.box id _ hB'; rw[hn]at e; cases e
 have hbx:∀x,((Eff.mk v [(id,B)] [] [id] tb).app d s).bx x=if x=id then some B else s.bx x:=by
  intro x;by_cases hx:x=id
  ·subst hx; simp[Eff.app,updB,delB]
  ·simp[Eff.app,updB,delB,Ak hx,hx]
 have kv:=k.val d hd (v := .any) (u:=u) (by simp[Rep]) [];refine⟨k.evo,k.b0.trans hle,fun i=>?_,fun x B' hx=>?_,fun x y B1 B2 h1 h2 hne g e1=>?_,fun x B' g hx hgx=>?_,fun x hx=>?_,kv.size,kv.defers⟩
 ·by_cases hi:d=some i
  ·subst hi
   have:((Eff.mk v [(id,B)] [] [id] tb).app (some i) s).env i=v:=by simp[Eff.app,putE]
   rw[this]
   have:(a.put (some i) u).tmps.getD i undef=u:=by
    have hlt:i<a.tmps.size:=by rw[k.size]; exact hd i rfl
    simp[Act.put,hlt]
   rw[this]; exact hr
  ·have h1:((Eff.mk v [(id,B)] [] [id] tb).app d s).env i=s.env i:=by simp only[Eff.app]; rw[Bi _ _ _ _ hi]
   have h2:=kv.slot i;simp only[Eff.app]at h2;rw[Bi _ _ _ _ hi]at h2;rw[h1];exact h2.mono (Ac h) hle
 ·rw[hbx]at hx;split at hx
  ·rename_i he; subst he; injection hx with hx; subst hx; exact hB
  ·rename_i he;refine(k.box x B' hx).keep (Ac h) hle fun g hg'=>⟨rfl,(k.blk_lt hx hg').2⟩
 ·rw[hbx]at h1 h2;by_cases hx:x=id
  ·subst hx;rw[if_neg (fun e=>hne e.symm)]at h2;rw[Bt.set_same]at e1;rw[Bt.set_ne _ _ _ _ (fun e=>hne e.symm)];exact(hg g e1).1 y B2 h2
  ·rw[if_neg hx]at h1;rw[Bt.set_ne _ _ _ _ hx]at e1;by_cases hy:y=id
   ·subst hy;rw[Bt.set_same];intro e2;exact(hg g e2).1 x B1 h1 e1
   ·rw[if_neg hy]at h2;rw[Bt.set_ne _ _ _ _ hy];exact k.apart x y B1 B2 h1 h2 hne g e1
 ·rw[hbx]at hx;split at hx
  ·rename_i he; subst he; rw[Bt.set_same]at hgx; exact(hg g hgx).2
  ·rename_i he; rw[Bt.set_ne _ _ _ _ he]at hgx; exact k.own x B' g hx hgx
 ·simp only[Eff.app,E8,Bool.or_eq_false_iff]at hx
  have he:x≠id:=by
   intro e; subst e; simp at hx
  rw[Bt.set_ne _ _ _ _ he];exact k.dom x hx.2
theorem Base.setbox {C:Cx} {n:Nat} {s:St} {a:Act} {w w':World} {h:Hp} {β:Bt} (k:Base C n s a w h β) {id:Id} {B B':Bx} (hb:s.bx id=some B)
  (ho:w'.os=w.os) (ht:w'.tape=w.tape) (hp:w'.output=w.output∧w.drawn≤w'.drawn) (hs:w'.heap.size=w.heap.size) (hk:∀i,blk (β id)≠some i→w'.heap[i]? = w.heap[i]?)
  (hB:BoxAt w' h β id B') (hblk:∃g,blk (β id)=some g)
  (d:Option Tmp) (hd:∀t,d=some t→t<n) {v:AV} {u:Value} (hr:Rep h β v u) (tb:List Id) :
  Base C n ((Eff.mk v [(id,B')] [] [] tb).app d s) (a.put d u) w' h β:=by
 obtain⟨g,hg⟩:=hblk;have hnot:∀b,h b≠none→blk (β id)≠some b:=fun b hb' e=>hb' (k.blk_lt hb e).2
 have hhas:Has w' h:=fun b cs hb'=>by
  obtain⟨t,fr,h1⟩:=k.evo.has b cs hb';exact⟨t,fr,by rw[hk b (hnot b (by simp[hb']))]; exact h1⟩
 have hevo:Evo (fun x=>x=g) w h w' h:=⟨ho,ht,hp,by omega,fun i _ hi=>hk i (by rw[hg]; intro e; injection e with e; exact hi e.symm),Ac h,fun _ hb => .inl hb,hhas⟩
 have hbx:∀x,((Eff.mk v [(id,B')] [] [] tb).app d s).bx x=if x=id then some B' else s.bx x:=by
  intro x;by_cases hx:x=id
  ·subst hx; simp[Eff.app,updB,delB]
  ·simp[Eff.app,updB,delB,Ak hx,hx]
 have kv:=k.val d hd hr tb;refine⟨k.evo.trans hevo (fun x hx=>by subst hx; exact k.own id B x hb hg),k.b0,fun i=>?_,fun x B1 hx=>?_,fun x y B1 B2 h1 h2 hne=>?_,fun x B1 g' hx hgx=>?_,fun x hx=>?_,kv.size,kv.defers⟩
 ·have:=kv.slot i;simpa[Eff.app]using this
 ·rw[hbx]at hx;split at hx
  ·rename_i he; subst he; injection hx with hx; subst hx; exact hB
  ·rename_i he;refine(k.box x B1 hx).keep (Ac h) (AW β) fun g' hg'=>⟨hk g' (fun e=>?_),(k.blk_lt hx hg').2⟩;exact k.apart x id B1 B hx hb he g' hg' e
 ·have he:∀z Bz,((Eff.mk v [(id,B')] [] [] tb).app d s).bx z=some Bz→∃B0,s.bx z=some B0:=by
   intro z Bz hz;rw[hbx]at hz;split at hz
   ·rename_i he; subst he; exact⟨B,hb⟩
   ·exact⟨Bz,hz⟩
  obtain⟨B3,h3⟩:=he x B1 h1;obtain⟨B4,h4⟩:=he y B2 h2;exact k.apart x y B3 B4 h3 h4 hne
 ·rw[hbx]at hx;split at hx
  ·rename_i he; subst he; exact k.own x B g' hb hgx
  ·exact k.own x B1 g' hx hgx
 ·simp only[Eff.app,newA]at hx;exact k.dom x hx
/-! ### The operations -/
section
variable {P:Program} {tab:Tab} {n:Nat} {o:Oper} {s:St}
theorem OpJ.box {d:Tmp} (hdst:o.dst=some d) (hd:d<n) {t:TypeId} {x:Operand} (hop:o.op = .box t x) {cs:List AV} (hc:D9 (opd s x)=some cs) :
  OpJ P n o s ⟨.ptr d 0,[(d,.cells cs t)],[],[d],[]⟩:=by
 refine⟨fun t ht=>(by rw[hdst]at ht; injection ht with ht; subst ht; exact hd),fun C s' a w h β Q K hs hb hal k hK=>?_⟩
 have hx:opd s' x=opd s x:=by
  cases x with
  | tmp t=>exact hs t (by simp[hop,Op.operands])
  | _=>rfl
 obtain⟨hr,_⟩:=FK (hx▸hc) (AK k x)
 have hrun:(execOp a.eval o).run P w = .ok (.value (.pointer (some ⟨w.heap.size,0,none⟩))) (w.alloc (.cells (a.eval x).cells t)):=by
  simp only[execOp,hop,Instr.box,newVar,newRow,Sem.run_bind,Sem.run_pure,Result.andThen];rfl
 unfold Oper.wp;rw[hrun];simp only[Oper.upon];refine hK _ _ h (β.set d (.pointer (some ⟨w.heap.size,0,none⟩))) ?_;have k1:=k.step (Cb k.evo.has (.cells (a.eval x).cells t));rw[hdst];have hn:β d=none:=k.dom d (hal d (by simp));refine k1.addbox (hal d (by simp)) ?_ ?_ (some d) (fun t ht=>by injection ht with ht; subst ht; exact hd) ?_ []
 ·refine⟨w.heap.size,(a.eval x).cells,Bt.set_same _ _ _,heap_alloc_new w _,hr.mono (Ac h) (Bt.le_set hn _),CW k.evo.has (Nat.le_refl _)⟩
 ·intro g hg;simp[blk]at hg;subst hg;refine⟨fun id' B' hb' e=>?_,.inr k.evo.size⟩;have:=(k.blk_lt hb' e).1;omega
 ·simp only[Rep]; exact⟨_,Bt.set_same _ _ _,rfl⟩
theorem OpJ.alloc (ht:BG P tab) {d:Tmp} (hdst:o.dst=some d) (hd:d<n) {t:TypeId} (hop:o.op = .alloc t) {i:TI} (hti:tab t=some i) :
  OpJ P n o s ⟨.ptr d 0,[(d,.cells (vL i.zero) t)],[],[d],[]⟩:=by
 refine⟨fun t ht=>(by rw[hdst]at ht; injection ht with ht; subst ht; exact hd),fun C s' a w h β Q K hs hb hal k hK=>?_⟩;obtain⟨inf,z,h1,h2,h3,h4,h5⟩:=(ht t i hti).info
 have hrun:(execOp a.eval o).run P w = .ok (.value (.pointer (some ⟨w.heap.size,0,none⟩))) (w.alloc (.cells z.cells t)):=by
  have hz:(zeroValue t).run P w = .ok z w:=by simp[zeroValue,typeInfo,h1,h4]
  simp only[execOp,hop,Instr.alloc,newVar,newRow,Sem.run_bind,hz,Result.andThen];rfl
 unfold Oper.wp;rw[hrun];simp only[Oper.upon];refine hK _ _ h (β.set d (.pointer (some ⟨w.heap.size,0,none⟩))) ?_;have k1:=k.step (Cb k.evo.has (.cells z.cells t));rw[hdst];refine k1.addbox (hal d (by simp)) ?_ ?_ (some d) (fun t ht=>by injection ht with ht; subst ht; exact hd) ?_ []
 ·exact⟨w.heap.size,z.cells,Bt.set_same _ _ _,heap_alloc_new w _,by rw[h5]; exact Dw _,CW k.evo.has (Nat.le_refl _)⟩
 ·intro g hg;simp[blk]at hg;subst hg;refine⟨fun id' B' hb' e=>?_,.inr k.evo.size⟩;have:=(k.blk_lt hb' e).1;omega
 ·simp only[Rep]; exact⟨_,Bt.set_same _ _ _,rfl⟩
def setL:Nat→List AV→List AV→List AV
  | 0,vs,cs=>vs++cs.drop vs.length
  | off+1,vs,c::cs=>c::setL off vs cs
  | _+1,_,[]=>[]
theorem setL_eq:∀(off:Nat) (vs cs:List AV),off+vs.length≤cs.length→setL off vs cs=cs.take off++vs++cs.drop (off+vs.length)
 | 0,vs,cs,_=>by simp[setL]
 | off+1,vs,c::cs,h=>by
  simp only[setL,List.take_succ_cons,List.cons_append];rw[setL_eq off vs cs (by simp at h; omega),show off+1+vs.length=(off+vs.length)+1 from by omega,List.drop_succ_cons]
 | off+1,vs,[],h=>by simp at h
theorem OpJ.store (ht:BG P tab) (hdst:o.dst=none) {t:TypeId} {x y:Operand} (hop:o.op = .store t x y) {b:Id} {off:Nat} (hx:opd s x = .ptr b off) {i:TI} (hti:tab t=some i)
  {cs vs:List AV} {bt:TypeId} (hb:s.bx b=some (.cells cs bt)) (hv:D9 (opd s y)=some vs) (hsz:vs.length=i.size) (hoff:Nat.ble (off+vs.length) cs.length=true) :
  OpJ P n o s ⟨.any,[(b,.cells (setL off vs cs) bt)],[],[],[b]⟩:=by
 refine⟨fun t ht=>(by rw[hdst]at ht; cases ht),fun C s' a w h β Q K hs hbs hal k hK=>?_⟩;have hoff:=Nat.le_of_ble_eq_true hoff
 have same:∀z:Operand,(z=x∨z=y)→opd s' z=opd s z:=by
  intro z hz
  cases z with
  | tmp t=>exact hs t (by rw[hop]; simpa[Op.operands]using hz)
  | _=>rfl
 have hb':s'.bx b=some (.cells cs bt):=(hbs b (by simp[Eff.ts])).trans hb;obtain⟨hvr,hv1⟩:=FK ((same y (.inr rfl))▸hv) (AK k y);have hxr:=AK k x;rw[same x (.inl rfl),hx]at hxr;simp only[Rep]at hxr;obtain⟨g,e1,e2⟩:=hxr;obtain⟨g', us,e3,hg,hr,hnone⟩:=k.box b _ hb';rw[e1]at e3;injection e3 with e3; injection e3 with e3; injection e3 with e3; injection e3 with e3;subst e3;have hlen:(a.eval y).cells.toList.length=vs.length:=hvr.length;have hcl:us.toList.length=cs.length:=hr.length;have hst:=run_storeCells_at (P:=P) g off bt (a.eval y).cells.toList 0 us w hg (by rw[hlen,←Array.length_toList,hcl]; omega) hv1;rw[Nat.add_zero]at hst
 have hrun:(execOp a.eval o).run P w = .ok .skip (w.setRow g (us.toList.take off++(a.eval y).cells.toList++us.toList.drop (off+(a.eval y).cells.toList.length)).toArray):=by
  have hsz':¬(a.eval y).cells.size≠i.size:=by
   rw[←Array.length_toList,hlen,hsz]; simp
  simp only[execOp,hop,e2,Instr.storeAt,Instr.sureAddr,storeVar,Sem.run_bind,Sem.run_pure,Result.andThen,BZ (ht _ _ hti),if_neg hsz', hst]
 unfold Oper.wp;rw[hrun];simp only[Oper.upon];refine hK _ _ h β ?_;refine k.setbox (w':=w.setRow g (us.toList.take off++(a.eval y).cells.toList++us.toList.drop (off+(a.eval y).cells.toList.length)).toArray) hb' rfl rfl ⟨rfl,Nat.le_refl _⟩ (by simp) (fun j hj=>setRow_other w g j _ (fun e=>hj (by simp[e1,blk,e]))) ?_ ⟨g,by simp[e1,blk]⟩ o.dst (fun t ht=>by rw[hdst]at ht; cases ht) (v := .any) (u:=undef) (by simp only[Rep]) [b];refine⟨g,_,e1,setRow_heap w g us _ bt _ hg,?_,hnone⟩;rw[setL_eq off vs cs hoff];simp only;rw[hlen];exact((hr.take off).append hvr).append (hr.drop _)
end
end Go.AL
/- Literals, make, append, elements, cuts. -/
namespace Go.AL
/-! ### Filling in -/
theorem foldl_set (off:Nat):∀(vs:List Value) (k:Nat) (cells:Array Value),off+k+vs.length≤cells.size →
  ((vs.zipIdx k).foldl (fun(cs:Array Value) (p:Value×Nat)=>cs.setIfInBounds (off+p.2) p.1) cells).toList=cells.toList.take (off+k)++vs++cells.toList.drop (off+k+vs.length)
 | [],k,cells,_=>by simp
 | v::vs,k,cells,h=>by
  rw[List.zipIdx_cons,List.foldl_cons];rw[foldl_set off vs (k+1) _ (by simp at h ⊢; omega)];simp only[Array.toList_setIfInBounds,List.length_cons];have e:=list_seg_step cells.toList (off+k) v vs (by simp at h ⊢; omega);simpa[Nat.add_assoc,Nat.add_comm 1]using e
def fillA (place:Nat→Option (Nat×Nat)):List AV→List (Nat×AV)→Option (List AV)
  | cs,[]=>some cs
  | cs,(i,v)::rest=>
    match place i,D9 v with
    | some (off,size),some vs=>match Nat.beq vs.length size&&Nat.ble (off+vs.length) cs.length with
      | true=>fillA place (setL off vs cs) rest
      | false=>none
    | _,_=>none
theorem fillA_ok {h:Hp} {β:Bt} {place:Nat→Option (Nat×Nat)}:∀(ps:List (Nat×AV)) (qs:List (Nat×Value)) (cs cs':List AV) (cells:Array Value),qs.map (·.1)=ps.map (·.1)→RepL h β (ps.map (·.2)) (qs.map (·.2)) →
  RepL h β cs cells.toList→fillA place cs ps=some cs'→∃cells', Instr.fill place cells qs=some cells'∧RepL h β cs' cells'.toList
 | [],qs,cs,cs', cells,h1,_,hr,hf=>by
  have:qs=[]:=by cases qs<;>simp at h1 ⊢
  subst this;simp only[fillA,Option.some.injEq]at hf;subst hf;exact⟨cells,rfl,hr⟩
 | (i,v)::ps,qs,cs,cs', cells,h1,h2,hr,hf=>by
  cases qs with
  | nil=>simp at h1
  | cons q qs=>
   obtain⟨i', u⟩:=q;simp only[List.map_cons,List.cons.injEq]at h1;obtain⟨rfl,h1⟩:=h1;simp only[List.map_cons,RepL]at h2;obtain⟨u', r,e,hu,h2⟩:=h2;injection e with e1 e2;subst e1 e2;simp only[fillA]at hf;split at hf
   ·rename_i off size vs hp hv;split at hf
    ·rename_i hc;simp only[Bool.and_eq_true]at hc;have hsz:=Nat.eq_of_beq_eq_true hc.1;have hle:=Nat.le_of_ble_eq_true hc.2;obtain⟨hvr,_⟩:=FK hv hu;have hvl:u.cells.toList.length=vs.length:=hvr.length;have hcl:cells.toList.length=cs.length:=hr.length;simp only[Instr.fill,hp]
     have hsz':u.cells.size=size:=by rw[←Array.length_toList,hvl,hsz]
     have hb:off+u.cells.size≤cells.size:=by rw[←Array.length_toList,←Array.length_toList (xs:=cells),hvl,hcl]; exact hle
     rw[if_neg (by have hb':=hb; rw[hsz']at hb'; simp[hsz', hb'])];refine fillA_ok ps qs (setL off vs cs) cs' _ h1 h2 ?_ hf;rw[setL_eq off vs cs hle]
     have hfold:(Array.foldl (fun cs (x:Value×Nat)=>cs.setIfInBounds (off+x.2) x.1) cells u.cells.zipIdx).toList=cells.toList.take off++u.cells.toList++cells.toList.drop (off+u.cells.toList.length):=by
      rw[←Array.foldl_toList,Array.toList_zipIdx];have:=foldl_set off u.cells.toList 0 cells (by simpa using hb);simpa using this
     refine Eq.mpr (congrArg (RepL h β _) hfold) ?_;rw[hvl];exact((hr.take off).append hvr).append (hr.drop _)
    ·cases hf
   ·cases hf
def opPs (s:St):List (Nat×Operand)→List (Nat×AV)
  | []=>[]
  | (i,x)::r=>(i,opd s x)::opPs s r
theorem Cg (s:St):∀l:List (Nat×Operand),(opPs s l).map (·.1)=l.map (·.1)∧(opPs s l).map (·.2)=opds s (l.map (·.2))
 | []=>⟨rfl,rfl⟩
 | (i,x)::l=>⟨by simp[opPs,(Cg s l).1],by simp[opPs,opds,(Cg s l).2]⟩
theorem EZ {s s':St}:∀(l:List (Nat×Operand)),(∀x∈l.map (·.2),opd s' x=opd s x)→opPs s' l=opPs s l
 | [],_=>rfl
 | (i,x)::l,h=>by simp only[opPs]; rw[h x (by simp),EZ l fun y hy=>h y (by simp at hy ⊢; exact .inr hy)]
def fieldPl (tab:Tab) (fs:List Field) (i:Nat):Option (Nat×Nat):=
  match fs[i]? with
  | some f=>match tab f.type with
    | some ti=>some (f.offset,ti.size)
    | none=>none
  | none=>none
def allTab (tab:Tab):List Field→Bool
  | []=>true
  | f::fs=>match tab f.type with|some _=>allTab tab fs|none=>false
theorem run_places {P:Program} {tab:Tab} (ht:BG P tab) (w:World):∀fs:List Field,allTab tab fs=true →
  (fs.mapM (fun f=>do pure (f.offset,←sizeOf f.type):Field→Sem (Nat×Nat))).run P w = .ok (fs.map fun f=>(f.offset,((tab f.type).map (·.size)).getD 0)) w
 | [],_=>by simp
 | f::fs,h=>by
  simp only[allTab]at h;split at h
  ·rename_i i hi;simp only[List.mapM_cons,Sem.run_bind,BZ (ht _ _ hi),Result.andThen,Sem.run_pure,run_places ht w fs h,List.map_cons,hi,Option.map_some,Option.getD_some]
  ·cases h
def buildA (tab:Tab) (s:St) (t:TypeId) (parts:List (Nat×Operand)):Option AV:=
  match tab t with
  | some ⟨.struct fs,_,_,z⟩=>match allTab tab fs.toList with
    | true=>match fillA (fieldPl tab fs.toList) (vL z) (opPs s parts)with
      | some cs=>some (.agg cs)
      | none=>none
    | false=>none
  | _=>none
section
variable {P:Program} {tab:Tab} {n:Nat} {o:Oper} {s:St}
theorem OpJ.build (ht:BG P tab) (hd:∀d,o.dst=some d→d<n) {t:TypeId} {parts:List (Nat×Operand)} (hop:o.op = .build t ⟨parts⟩) {v:AV} (hv:buildA tab s t parts=some v):OpJ P n o s ⟨v,[],[],[],[]⟩:=by
 refine AR hd fun C s' a w h β ho _ k=>?_;have hps:opPs s' parts=opPs s parts:=EZ parts fun x hx=>ho x (by rw[hop]; simpa[Op.operands]using hx);unfold buildA at hv;split at hv
 ·rename_i fs sz by' z hti;split at hv
  ·rename_i hall;split at hv
   ·rename_i cs hf;injection hv with hv; subst hv;have hi:=ht _ _ hti;obtain⟨inf,zv,h1,h2,h3,h4,h5⟩:=hi.info;simp only at h5
    have hz:(zeroValue t).run P w = .ok zv w:=by simp[zeroValue,typeInfo,h1,h4]
    have hpl:=run_places ht w fs.toList hall
    have hplace:((fs.toList.map fun(f:Field)=>(f.offset,((tab f.type).map (·.size)).getD 0)).toArray[·]?)=fieldPl tab fs.toList:=by
     funext i;simp only[List.getElem?_toArray,List.getElem?_map,fieldPl]
     cases hfi:fs.toList[i]? with
     | none=>rfl
     | some f=>
      simp only[Option.map_some]
      have:∀(l:List Field),allTab tab l=true→∀(j:Nat) (f:Field),l[j]? = some f→∃ti,tab f.type=some ti:=by
       intro l
       induction l with
       | nil=>intro _ j f h; simp at h
       | cons g l ih=>
        intro hl j f hj;simp only[allTab]at hl;split at hl
        ·rename_i ti hti'
         cases j with
         | zero=>simp at hj; subst hj; exact⟨ti,hti'⟩
         | succ j=>exact ih hl j f (by simpa using hj)
        ·cases hl
      obtain⟨ti,hti'⟩:=this _ hall i f hfi;simp[hti']
    obtain⟨cells', hc1,hc2⟩:=fillA_ok (h:=h) (β:=β) (place:=fieldPl tab fs.toList) (opPs s' parts) (parts.map fun p=>(p.1,a.eval p.2)) (vL z) cs zv.cells (by rw[(Cg s' parts).1]; simp) (by rw[(Cg s' parts).2]; have hq:=CU k (parts.map (·.2)); rw[List.map_map]at hq ⊢; exact hq)
     (by rw[h5]; exact Dw _) (by rw[hps]; exact hf)
    refine⟨.agg cells', ?_,by simp only[Rep]; exact⟨_,rfl,hc2⟩⟩
    have hpl':(fs.mapM (fun f=>do pure (f.offset,←sizeOf f.type):Field→Sem (Nat×Nat))).run P w = .ok (fs.toList.map fun f=>(f.offset,((tab f.type).map (·.size)).getD 0)).toArray w:=by
     have e:(fs.mapM (fun f=>do pure (f.offset,←sizeOf f.type):Field→Sem (Nat×Nat)))=(List.toArray <$> fs.toList.mapM (fun f=>do pure (f.offset,←sizeOf f.type):Field→Sem (Nat×Nat))):=by
      rw[←Array.mapM_eq_mapM_toList]
     rw[e,←bind_pure_comp,Sem.run_bind,hpl];rfl
    simp only[execOp,hop,Instr.build,Sem.run_bind,hz,Result.andThen,run_underlying hi.und,hpl', hplace,List.map_toArray,hc1,Sem.run_pure]
   ·cases hv
  ·cases hv
 ·cases hv
theorem flat_rep (z:List Value):∀(n i:Nat),((List.replicate n z).flatten)[i]? = if i<n*z.length then z[i % z.length]? else none
 | 0,i=>by simp
 | n+1,i=>by
  rw[List.replicate_succ,List.flatten_cons,List.getElem?_append];by_cases hi:i<z.length
  ·rw[if_pos hi,Nat.mod_eq_of_lt hi,if_pos (by rw[Nat.add_mul]; omega)]
  ·rw[if_neg hi,flat_rep z n (i-z.length)]
   have:(i-z.length) % z.length=i % z.length:=by rw[Nat.mod_eq_sub_mod (by omega:i≥z.length)]
   rw[this];by_cases h2:i-z.length<n*z.length
   ·rw[if_pos h2,if_pos (by rw[Nat.add_mul]; omega)]
   ·rw[if_neg h2,if_neg (by rw[Nat.add_mul]; omega)]
theorem made_flat (z:Array Value) (n:Nat):(madeCells z (n*z.size)).toList=(List.replicate n z.toList).flatten:=by
 apply List.ext_getElem?;intro i;rw[flat_rep];simp only[madeCells,Array.toList_map,Array.toList_range,List.getElem?_map,List.getElem?_range,Array.length_toList];by_cases hi:i<n*z.size
 ·have hz:0<z.size:=by
   rcases Nat.eq_zero_or_pos z.size with h|h
   ·rw[h]at hi; simp at hi
   ·exact h
  have hlt:i % z.size<z.size:=Nat.mod_lt _ hz;simp[hi,hlt]
 ·simp[hi]
def zeros (z:List AV):Nat→List AV
  | 0=>[]
  | n+1=>z++zeros z n
theorem zeros_rep {h:Hp} {β:Bt} {cs:List AV} {us:List Value} (k:RepL h β cs us):∀n,RepL h β (zeros cs n) (List.replicate n us).flatten
 | 0=>by simpa[zeros]using RepL.nil
 | n+1=>by rw[List.replicate_succ,List.flatten_cons]; exact k.append (zeros_rep k n)
theorem OpJ.slit (ht:BG P tab) (hd:∀d,o.dst=some d→d<n) {t:TypeId} {len:Nat} {parts:List (Nat×Operand)} (hop:o.op = .buildSlice t len ⟨parts⟩) {e:TypeId} {i:TI} {sz by':Nat} {z:List Value} (hts:tab t=some ⟨.slice e,sz,by', z⟩) (hti:tab e=some i)
  {cs:List AV} (hf:fillA (fun j=>some (j*i.size,i.size)) (zeros (vL i.zero) len) (opPs s parts)=some cs) {α:Type} (enc:α→List AV) (xs:List α) (hcs:cs=xs.flatMap enc) (hlen:xs.length=len) (hel:∀x∈xs,(enc x).length=i.size) (hcl:BN cs=true) (hsmall:len*i.size≤16777216) (hm:len≤maxLen) :
  OpJ P n o s ⟨.sl i.size enc xs,[],[],[],[]⟩:=by
 refine⟨hd,fun C s' a w h β Q K hs _ _ k hK=>?_⟩
 have hps:opPs s' parts=opPs s parts:=EZ parts fun x hx=>by
  cases x with
  | tmp t=>exact hs t (by rw[hop]; simpa[Op.operands]using hx)
  | _=>rfl
 have hi:=ht _ _ hti;have hu:=(ht _ _ hts).und;simp only at hu;obtain⟨inf,zv,h1,h2,h3,h4,h5⟩:=hi.info
 have hz:(zeroValue e).run P w = .ok zv w:=by simp[zeroValue,typeInfo,h1,h4]
 have hzs:zv.cells.size=i.size:=by rw[←Array.length_toList,h5,hi.zs]
 have hz0:RepL h β (zeros (vL i.zero) len) (madeCells zv.cells (len*i.size)).toList:=by
  rw[←hzs,made_flat,h5]; exact zeros_rep (Dw _) len
 obtain⟨cells', hc1,hc2⟩:=fillA_ok (h:=h) (β:=β) (place:=fun j=>some (j*i.size,i.size)) (opPs s' parts) (parts.map fun p=>(p.1,a.eval p.2)) _ cs _ (by rw[(Cg s' parts).1]; simp) (by rw[(Cg s' parts).2]; have hq:=CU k (parts.map (·.2)); rw[List.map_map]at hq ⊢; exact hq) hz0 (by rw[hps]; exact hf);have hsz:=BZ hi w
 have hrun:(execOp a.eval o).run P w = .ok (.value (.slice (some ⟨w.heap.size,0,none⟩) len len)) (w.alloc (.cells cells' e)):=by
  simp only[execOp,hop,Instr.buildSlice,Sem.run_bind,run_underlying hu,Result.andThen,hsz];rw[if_neg (by omega)];by_cases h0:len*i.size=0
  ·have hm0:(Array.range (len*i.size)).map (fun x=>(#[]:Array Value)[x % (#[]:Array Value).size]!)=madeCells zv.cells (len*i.size):=by simp[h0,madeCells]
   simp only[h0,if_true,Sem.run_bind,Sem.run_pure,Result.andThen];rw[h0]at hm0 hc1;simp only[hm0,List.map_toArray,hc1,newRow,Sem.run_bind,Sem.run_pure,Result.andThen];rfl
  ·have hm0:(Array.range (len*i.size)).map (fun x=>zv.cells[x % zv.cells.size]!)=madeCells zv.cells (len*i.size):=rfl;simp only[h0,if_false,Sem.run_bind,hz,Sem.run_pure,Result.andThen];simp only[hm0,List.map_toArray,hc1,newRow,Sem.run_bind,Sem.run_pure,Result.andThen];rfl
 unfold Oper.wp;rw[hrun];simp only[Oper.upon];have hev:=evo_alloc_fixed k.evo.has cells' e w rfl rfl ⟨rfl,Nat.le_refl _⟩ rfl;refine hK _ _ (h.set w.heap.size cells') β (Base.val (k.step hev) o.dst hd ?_ []);simp only[Rep];refine⟨some ⟨w.heap.size,0,none⟩,len,by rw[hlen],by omega,hm,fun j x hx=>?_⟩;have hc3:=RepL.closed (β':=noB) cs _ hcl (hc2.mono hev.le (AW β))
 -- the element's cells
 have hsplit:∀(xs:List α) (us:List Value) (j:Nat) (x:α),(∀x∈xs,(enc x).length=i.size)→RepL (h.set w.heap.size cells') noB (xs.flatMap enc) us→xs[j]? = some x →
   RepL (h.set w.heap.size cells') noB (enc x) ((us.drop (j*i.size)).take i.size):=by
  intro xs
  induction xs with
  | nil=>intro us j x _ _ hx; simp at hx
  | cons y ys ih=>
   intro us j x hel hr hx;rw[List.flatMap_cons]at hr;obtain⟨r1,r2⟩:=hr.split;have hy:=hel y (by simp)
   cases j with
   | zero=>simp at hx; subst hx; rw[hy]at r1; simpa using r1
   | succ j=>
    have:=ih (us.drop (enc y).length) j x (fun z hz=>hel z (by simp[hz])) r2 (by simpa using hx);rwa [List.drop_drop,hy,show i.size+j*i.size=(j+1)*i.size from by rw[Nat.add_mul]; omega]at this
 rw[hcs]at hc3;have hx':=hsplit xs cells'.toList j x hel hc3 hx;refine⟨⟨w.heap.size,0,none⟩,_,rfl,?_,hx', fun q u hq=>?_⟩
 ·rw[hx'.length]; exact hel x (List.mem_of_getElem? hx)
 ·rw[List.getElem?_take]at hq;split at hq
  ·rw[List.getElem?_drop]at hq
   have hadd:(⟨w.heap.size,0,none⟩:Addr).add (j*i.size+q)=⟨w.heap.size,j*i.size+q,none⟩:=by unfold Addr.add; split<;>simp_all
   rw[hadd];exact⟨rfl,cells', Hp.set_same _ _ _,by simpa using hq⟩
  ·cases hq
end
end Go.AL
/- make, append, elements, cuts, sums, calls. -/
namespace Go.AL
/-! ### A value seen with less detail -/
def AV.Le (a b:AV):Prop:=∀(h:Hp) (β:Bt) (u:Value),Rep h β a u→Rep h β b u
def LeL (az bs:List AV):Prop:=∀(h:Hp) (β:Bt) (us:List Value),RepL h β az us→RepL h β bs us
theorem AA (a:AV):a.Le a:=fun _ _ _ k=>k
theorem AV.Le.any (a:AV):a.Le .any:=fun _ _ _ _=>by simp only[Rep]
theorem AV.Le.nil {α:Type} (sz:Nat) (enc:α→List AV):(AV.v (.slice none 0 0)).Le (.sl sz enc ([]:List α)):=fun _ _ u k=>by
 simp only[Rep]at k ⊢;subst k;exact⟨none,0,rfl,Nat.le_refl _,by simp[maxLen],fun i x hx=>by simp at hx⟩
theorem AV.Le.agg {az bs:List AV} (k:LeL az bs):(AV.agg az).Le (.agg bs):=fun h β u hu=>by
 simp only[Rep]at hu ⊢;obtain⟨us,rfl,hu⟩:=hu;exact⟨us,rfl,k h β _ hu⟩
theorem AV.Le.tup {az bs:List AV} (k:LeL az bs):(AV.tup az).Le (.tup bs):=fun h β u hu=>by
 simp only[Rep]at hu ⊢;obtain⟨us,rfl,hu⟩:=hu;exact⟨us,rfl,k h β _ hu⟩
theorem AV.Le.trans {a b c:AV} (k:a.Le b) (l:b.Le c):a.Le c:=fun h β u hu=>l h β u (k h β u hu)
theorem AP {a b:AV} (e:a=b):a.Le b:=e▸AA a
theorem AB (az:List AV):LeL az az:=fun _ _ _ k=>k
theorem LeL.nil:LeL [] []:=AB _
theorem LeL.cons {a b:AV} {az bs:List AV} (k:a.Le b) (r:LeL az bs):LeL (a::az) (b::bs):=fun h β us hu=>by
 simp only[RepL]at hu ⊢;obtain⟨u,r', rfl,h1,h2⟩:=hu;exact⟨u,r', rfl,k h β u h1,r h β r' h2⟩
/-! ### Calls -/
structure PureFn (P:Program) (f:FuncId) (args:List AV) (r:AV):Prop where
  fn:∃fn,P.funcs[f]? = some fn∧(fn.name == "runtime.NumGoroutine")=false∧fn.body.isNone=false
  calls:∀(w:World) (h:Hp) (us:Array Value),Has w h→RepL h noB args us.toList →
    Calls P f us w fun e w'=>∃u h', e = .returned u∧Evo D4 w h w' h'∧Rep h' noB r u
theorem PureFn.le {P:Program} {f:FuncId} {args args':List AV} {r r':AV} (k:PureFn P f args r) (h1:LeL args' args) (h2:r.Le r'):PureFn P f args' r':=
 ⟨k.fn,fun w h us hw hr=>(k.calls w h us hw (h1 _ _ _ hr)).mono fun e w' ⟨u,h', he,hev,hrep⟩=>⟨u,h', he,hev,h2 _ _ _ hrep⟩⟩
theorem CE {P:Program} {f:FuncId} (hf:∃fn,P.funcs[f]? = some fn∧(fn.name == "runtime.NumGoroutine")=false∧fn.body.isNone=false) (us:Array Value) (w:World):(callFunc f us).run P w = .ok (.enter f us) w:=by
 obtain⟨fn,h1,h2,h3⟩:=hf;unfold callFunc;simp only[Sem.run_bind,program,Sem.run,Result.andThen,h1,h2,h3,Bool.false_eq_true,if_false,Sem.run_pure]
section
variable {P:Program} {tab:Tab} {n:Nat} {o:Oper} {s:St}
theorem OpJ.call (hd:∀d,o.dst=some d→d<n) {f:FuncId} {args:List Operand} {ts:Array TypeId} (hop:o.op = .call { callee := .value (.func f),args:=⟨args⟩,argTypes:=ts })
  {az:List AV} (hle:LeL (opds s args) az) (hcl:BN (opds s args)=true) {r:AV} (hf:PureFn P f az r):OpJ P n o s ⟨r,[],[],[],[]⟩:=by
 refine⟨hd,fun C s' a w h β Q K hs _ _ k hK=>?_⟩
 have hps:opds s' args=opds s args:=DA args fun x hx=>by
  cases x with
  | tmp t=>exact hs t (by rw[hop]; simp[Op.operands,Call.operands,hx])
  | _=>rfl
 have hr:=CU k args;rw[hps]at hr
 have hrun:(execOp a.eval o).run P w = .ok (.enter f (args.map a.eval).toArray) w:=by
  simp only[execOp,hop,resolve,Deferred.ofValue,Act.eval,Sem.run_bind,Sem.run_pure,Result.andThen,invoke,List.map_toArray,Array.append_empty];have:=CE hf.fn (#[]++(args.map a.eval).toArray) w;simpa using this
 unfold Oper.wp;rw[hrun];simp only[Oper.upon];refine(hf.calls w h _ k.evo.has (RepL.closed (β':=noB) _ _ (by exact hcl) hr |> hle _ _ _)).mono fun e w' ⟨u,h', he,hev,hrep⟩=>?_;subst he;exact hK _ _ h' β ((k.step hev).val o.dst hd (hrep.mono (Ac h') (E6 β)) [])
/-! ### Sums -/
def arithI (op:BinOp) (a b:Int):Option Int:=
  match op with
  | .add=>some (a+b)
  | .sub=>some (a-b)
  | .mul=>some (a*b)
  | _=>none
def loK:IntKind→Int
  | .i8 => -128 | .i16 => -32768 | .i32 => -2147483648 | .i64 => -9223372036854775808
  | _=>0
def hiK:IntKind→Int
  | .i8=>127 | .i16=>32767 | .i32=>2147483647 | .i64=>9223372036854775807
  | .u8=>255 | .u16=>65535 | .u32=>4294967295 | .u64=>18446744073709551615
theorem wrap_in {k:IntKind} {n:Int} (h1:loK k≤n) (h2:n≤hiK k):k.wrap n=n:=by
 cases k<;>simp only[loK,hiK]at h1 h2<;>simp[IntKind.wrap,IntKind.signed,IntKind.bits]<;>omega
theorem bin_run {a:Act} {w:World} {op:BinOp} {t t':TypeId} {x y:Operand} {k:IntKind} {m m' c:Int} (hop:o.op = .binOp op t x y t') (hx:a.eval x = .int k m) (hy:a.eval y = .int k m') (hc:arithI op m m'=some c) :
  (execOp a.eval o).run P w = .ok (.value (.int k (k.wrap c))) w:=by
 unfold arithI at hc;split at hc<;>first
  | (injection hc with hc; subst hc; simp[execOp,hop,hx,hy,eqGuard,binOp,Op.intArith])
  | cases hc
theorem DG (hd:∀d,o.dst=some d→d<n) {op:BinOp} {t t':TypeId} {x y:Operand} (hop:o.op = .binOp op t x y t') {k k':IntKind} {m m' c:Int} (hx:opd s x = .v (.int k m)) (hy:opd s y = .v (.int k' m')) (hk:D5 k k'=true)
  (hc:arithI op m m'=some c) (h1:loK k≤c) (h2:c≤hiK k):OpJ P n o s ⟨.v (.int k c),[],[],[],[]⟩:=by
 refine AR hd fun C s' a w h β ho _ b=>?_;have hxr:=AK b x;have hyr:=AK b y;rw[ho x (by simp[hop,Op.operands]),hx]at hxr;rw[ho y (by simp[hop,Op.operands]),hy]at hyr;simp only[Rep]at hxr hyr;rw[←Eb hk]at hyr;exact⟨_,bin_run hop hxr hyr hc,by simp only[Rep,wrap_in h1 h2]⟩
theorem FS (hd:∀d,o.dst=some d→d<n) {op:BinOp} {t t':TypeId} {x y:Operand} (hop:o.op = .binOp op t x y t') {k k':IntKind} {m m' c:Int} (hx:opd s x = .v (.int k m)) (hy:opd s y = .v (.int k' m')) (hk:D5 k k'=true)
  (hc:arithI op m m'=some c) (hu:isU k=true):OpJ P n o s ⟨.v (.int k (c % uMod k)),[],[],[],[]⟩:=by
 refine AR hd fun C s' a w h β ho _ b=>?_;have hxr:=AK b x;have hyr:=AK b y;rw[ho x (by simp[hop,Op.operands]),hx]at hxr;rw[ho y (by simp[hop,Op.operands]),hy]at hyr;simp only[Rep]at hxr hyr;rw[←Eb hk]at hyr;exact⟨_,bin_run hop hxr hyr hc,by simp only[Rep,wrap_u hu]⟩
theorem OpJ.conv (ht:BG P tab) (hd:∀d,o.dst=some d→d<n) {src dst:TypeId} {x:Operand} (hop:o.op = .convert src dst x) {k k':IntKind} {m:Int} {i1:TI} {sz by':Nat} {z:List Value} (hx:opd s x = .v (.int k' m)) (hsrc:tab src=some i1) (hdt:tab dst=some ⟨.int k,sz,by', z⟩)
  (h1:loK k≤m) (h2:m≤hiK k):OpJ P n o s ⟨.v (.int k m),[],[],[],[]⟩:=by
 refine AR hd fun C s' a w h β ho _ b=>?_;have hxr:=AK b x;rw[ho x (by simp[hop,Op.operands]),hx]at hxr;simp only[Rep]at hxr
 have hs:(P.underlying src).isSome=true:=by rw[(ht _ _ hsrc).und]; rfl
 have hd':=(ht _ _ hdt).und;simp only at hd';exact⟨.int k m,by simp only[execOp,hop,hxr,Sem.run_bind,run_conv w hs hd', Result.andThen,Sem.run_pure,wrap_in h1 h2],by simp only[Rep]⟩
theorem OpJ.quo (hd:∀d,o.dst=some d→d<n) {t t':TypeId} {x y:Operand} (hop:o.op = .binOp .quo t x y t') {k k':IntKind} {m m':Int} (hx:opd s x = .v (.int k m)) (hy:opd s y = .v (.int k' m')) (hk:D5 k k'=true)
  (h0:0≤m) (h1:0<m') (h2:m≤hiK k):OpJ P n o s ⟨.v (.int k (m/m')),[],[],[],[]⟩:=by
 refine AR hd fun C s' a w h β ho _ b=>?_;have hxr:=AK b x;have hyr:=AK b y;rw[ho x (by simp[hop,Op.operands]),hx]at hxr;rw[ho y (by simp[hop,Op.operands]),hy]at hyr;simp only[Rep]at hxr hyr;rw[←Eb hk]at hyr;have hq:m.tdiv m'=m/m':=Int.tdiv_eq_ediv_of_nonneg h0
 have hlo:loK k≤m/m':=by have:=Int.ediv_nonneg h0 (by omega:0≤m'); cases k<;>simp only[loK]<;>omega
 have hhi:m/m'≤hiK k:=Int.le_trans (Int.ediv_le_self m' h0) h2;refine⟨.int k (m/m'),?_,by simp only[Rep]⟩;simp[execOp,hop,hxr,hyr,eqGuard,binOp,Op.intDiv,show m'≠0 by omega,hq,wrap_in hlo hhi]
theorem OpJ.rem (hd:∀d,o.dst=some d→d<n) {t t':TypeId} {x y:Operand} (hop:o.op = .binOp .rem t x y t') {k k':IntKind} {m m':Int} (hx:opd s x = .v (.int k m)) (hy:opd s y = .v (.int k' m')) (hk:D5 k k'=true)
  (h0:0≤m) (h1:0<m'):OpJ P n o s ⟨.v (.int k (m % m')),[],[],[],[]⟩:=by
 refine AR hd fun C s' a w h β ho _ b=>?_;have hxr:=AK b x;have hyr:=AK b y;rw[ho x (by simp[hop,Op.operands]),hx]at hxr;rw[ho y (by simp[hop,Op.operands]),hy]at hyr;simp only[Rep]at hxr hyr;rw[←Eb hk]at hyr;have hq:m.tmod m'=m % m':=Int.tmod_eq_emod_of_nonneg h0;refine⟨.int k (m % m'),?_,by simp only[Rep]⟩;simp[execOp,hop,hxr,hyr,eqGuard,binOp,Op.intDiv,show m'≠0 by omega,hq]
theorem OpJ.shr (hd:∀d,o.dst=some d→d<n) {t t':TypeId} {x y:Operand} (hop:o.op = .binOp .shr t x y t') {k k':IntKind} {m m':Int} (hx:opd s x = .v (.int k m)) (hy:opd s y = .v (.int k' m'))
  (h1:0≤m') (h2:m'≤k.bits):OpJ P n o s ⟨.v (.int k (m/2^m'.toNat)),[],[],[],[]⟩:=by
 refine AR hd fun C s' a w h β ho _ b=>?_;have hxr:=AK b x;have hyr:=AK b y;rw[ho x (by simp[hop,Op.operands]),hx]at hxr;rw[ho y (by simp[hop,Op.operands]),hy]at hyr;simp only[Rep]at hxr hyr;refine⟨.int k (m/2^m'.toNat),?_,by simp only[Rep]⟩
 have hmin:min m'.toNat k.bits=m'.toNat:=by omega
 have hfd:m.fdiv (2^m'.toNat)=m/2^m'.toNat:=Int.fdiv_eq_ediv_of_nonneg _ (Int.pow_nonneg (by omega));simp[execOp,hop,hxr,hyr,eqGuard,binOp,Op.shift,show ¬m'<0 by omega,hmin,hfd]
theorem OpJ.shl (hd:∀d,o.dst=some d→d<n) {t t':TypeId} {x y:Operand} (hop:o.op = .binOp .shl t x y t') {k k':IntKind} {m m':Int} (hx:opd s x = .v (.int k m)) (hy:opd s y = .v (.int k' m'))
  (h1:0≤m') (h2:m'≤k.bits) (hu:isU k=true):OpJ P n o s ⟨.v (.int k ((m*2^m'.toNat) % uMod k)),[],[],[],[]⟩:=by
 refine AR hd fun C s' a w h β ho _ b=>?_;have hxr:=AK b x;have hyr:=AK b y;rw[ho x (by simp[hop,Op.operands]),hx]at hxr;rw[ho y (by simp[hop,Op.operands]),hy]at hyr;simp only[Rep]at hxr hyr;refine⟨.int k ((m*2^m'.toNat) % uMod k),?_,by simp only[Rep]⟩
 have hmin:min m'.toNat k.bits=m'.toNat:=by omega
 simp[execOp,hop,hxr,hyr,eqGuard,binOp,Op.shift,show ¬m'<0 by omega,hmin,wrap_u hu]
theorem OpJ.shlI (hd:∀d,o.dst=some d→d<n) {t t':TypeId} {x y:Operand} (hop:o.op = .binOp .shl t x y t') {k k':IntKind} {m m':Int} (hx:opd s x = .v (.int k m)) (hy:opd s y = .v (.int k' m'))
  (h1:0≤m') (h2:m'≤k.bits) (h3:loK k≤m*2^m'.toNat) (h4:m*2^m'.toNat≤hiK k):OpJ P n o s ⟨.v (.int k (m*2^m'.toNat)),[],[],[],[]⟩:=by
 refine AR hd fun C s' a w h β ho _ b=>?_;have hxr:=AK b x;have hyr:=AK b y;rw[ho x (by simp[hop,Op.operands]),hx]at hxr;rw[ho y (by simp[hop,Op.operands]),hy]at hyr;simp only[Rep]at hxr hyr;refine⟨.int k (m*2^m'.toNat),?_,by simp only[Rep]⟩
 have hmin:min m'.toNat k.bits=m'.toNat:=by omega
 simp[execOp,hop,hxr,hyr,eqGuard,binOp,Op.shift,show ¬m'<0 by omega,hmin,wrap_in h3 h4]
def bitsV (op:BinOp) (k:IntKind) (a b:Int):Option Int:=
  match op with
  | .and=>some (k.wrap ((BitVec.ofInt k.bits a &&& BitVec.ofInt k.bits b).toNat))
  | .or=>some (k.wrap ((BitVec.ofInt k.bits a ||| BitVec.ofInt k.bits b).toNat))
  | .xor=>some (k.wrap ((BitVec.ofInt k.bits a ^^^ BitVec.ofInt k.bits b).toNat))
  | .andNot=>some (k.wrap ((BitVec.ofInt k.bits a &&& ~~~ BitVec.ofInt k.bits b).toNat))
  | _=>none
theorem OpJ.bits (hd:∀d,o.dst=some d→d<n) {op:BinOp} {t t':TypeId} {x y:Operand} (hop:o.op = .binOp op t x y t') {k k':IntKind} {m m' c c':Int} (hx:opd s x = .v (.int k m)) (hy:opd s y = .v (.int k' m')) (hk:D5 k k'=true)
  (hb:bitsV op k m m'=some c) (hc:c=c'):OpJ P n o s ⟨.v (.int k c'),[],[],[],[]⟩:=by
 subst hc;refine AR hd fun C s' a w h β ho _ b=>?_;have hxr:=AK b x;have hyr:=AK b y;rw[ho x (by simp[hop,Op.operands]),hx]at hxr;rw[ho y (by simp[hop,Op.operands]),hy]at hyr;simp only[Rep]at hxr hyr;rw[←Eb hk]at hyr;refine⟨.int k c,?_,by simp only[Rep]⟩;unfold bitsV at hb;split at hb<;>first
  | (injection hb with hb; subst hb; simp only[execOp,hop,hxr,hyr,eqGuard,binOp,Op.intBits,Sem.run_bind,Sem.run_pure,Result.andThen,ne_eq,not_true_eq_false,if_false]; rfl)
  | cases hb
theorem OpJ.max2 (hd:∀d,o.dst=some d→d<n) {x y:Operand} {ts:Array TypeId} (hop:o.op = .call { callee := .builtin .max,args:=⟨[x,y]⟩,argTypes:=ts }) {k k':IntKind} {m m':Int} (hx:opd s x = .v (.int k m)) (hy:opd s y = .v (.int k' m')) :
  OpJ P n o s ⟨.v (.int k (if m'>m then m' else m)),[],[],[],[]⟩:=by
 refine AR hd fun C s' a w h β ho _ b=>?_;have hxr:=AK b x;have hyr:=AK b y;rw[ho x (by simp[hop,Op.operands,Call.operands]),hx]at hxr;rw[ho y (by simp[hop,Op.operands,Call.operands]),hy]at hyr;simp only[Rep]at hxr hyr;exact⟨.int k (if m'>m then m' else m),by simp[execOp,hop,hxr,hyr,resolve,invoke,builtin,Builtin.max_,Builtin.max2],by simp only[Rep]⟩
theorem OpJ.min2 (hd:∀d,o.dst=some d→d<n) {x y:Operand} {ts:Array TypeId} (hop:o.op = .call { callee := .builtin .min,args:=⟨[x,y]⟩,argTypes:=ts }) {k k':IntKind} {m m':Int} (hx:opd s x = .v (.int k m)) (hy:opd s y = .v (.int k' m')) :
  OpJ P n o s ⟨.v (.int k (if m'<m then m' else m)),[],[],[],[]⟩:=by
 refine AR hd fun C s' a w h β ho _ b=>?_;have hxr:=AK b x;have hyr:=AK b y;rw[ho x (by simp[hop,Op.operands,Call.operands]),hx]at hxr;rw[ho y (by simp[hop,Op.operands,Call.operands]),hy]at hyr;simp only[Rep]at hxr hyr;exact⟨.int k (if m'<m then m' else m),by simp[execOp,hop,hxr,hyr,resolve,invoke,builtin,Builtin.min_,Builtin.min2],by simp only[Rep]⟩
/-! ### Elements -/
theorem OpJ.elem (ht:BG P tab) (hd:∀d,o.dst=some d→d<n) {t:TypeId} {x y:Operand} (hop:o.op = .indexAddr t x y) {e:TypeId} {i:TI} {sz' by':Nat} {z:List Value} (hts:tab t=some ⟨.slice e,sz', by', z⟩) (hti:tab e=some i)
  {α:Type} {enc:α→List AV} {xs:List α} (hx:opd s x = .sl i.size enc xs) {k:IntKind} {m:Int} (hy:opd s y = .v (.int k m)) (h0:0≤m) {e0:α} (he:xs[m.toNat]? = some e0) :
  OpJ P n o s ⟨.cptr (enc e0),[],[],[],[]⟩:=by
 refine AR hd fun C s' a w h β ho _ b=>?_;have hxr:=AK b x;have hyr:=AK b y;rw[ho x (by simp[hop,Op.operands]),hx]at hxr;rw[ho y (by simp[hop,Op.operands]),hy]at hyr;simp only[Rep]at hxr hyr;obtain⟨A,c,e1,hc,hm,hall⟩:=hxr;obtain⟨ad,us,e2,hl,hr,hcell⟩:=hall _ _ he;have hlt:m.toNat<xs.length:=(List.getElem?_eq_some_iff.1 he).1;have hu:=(ht _ _ hts).und;simp only at hu;refine⟨.pointer (some (ad.add (m.toNat*i.size))),?_,?_⟩
 ·simp only[execOp,hop,e1,hyr,e2,Instr.indexAt,asIntOf,Sem.run_bind,Sem.run_pure,Result.andThen,run_underlying hu];rw[if_pos ⟨h0,by omega⟩];simp only[Sem.run_bind,BZ (ht _ _ hti),Result.andThen,Sem.run_pure]
 ·simp only[Rep];refine⟨_,us,rfl,hr,fun j u hu=>?_⟩;have:=hcell j u hu
  have hadd:(ad.add (m.toNat*i.size)).add j=ad.add (m.toNat*i.size+j):=by
   unfold Addr.add;by_cases h1:m.toNat*i.size=0
   ·rw[h1]; simp
   ·by_cases h2:j=0
    ·subst h2; simp[h1]
    ·simp[h1,h2,Nat.add_assoc]
  rwa [hadd]
theorem rep_cut {h:Hp} {β:Bt} {α:Type} {sz:Nat} {enc:α→List AV} {xs:List α} {A:Option Addr} {len cap:Nat} (k:Rep h β (.sl sz enc xs) (.slice A len cap)) (l hi m:Nat) (h1:l≤hi) (h2:hi≤xs.length) (h3:hi≤m) (h4:m≤cap) :
  Rep h β (.sl sz enc ((xs.take hi).drop l)) (.slice (if m=l then A else A.map (·.add (l*sz))) (hi-l) (m-l)):=by
 simp only[Rep]at k ⊢;obtain⟨A', c,e,hc,hm,hall⟩:=k;injection e with e1 e2 e3;subst e1 e2 e3
 have hlen:((xs.take hi).drop l).length=hi-l:=by simp; omega
 refine⟨_,m-l,by rw[hlen],by rw[hlen]; omega,by omega,fun i x hx=>?_⟩;rw[List.getElem?_drop,List.getElem?_take]at hx;split at hx
 ·rename_i hlt;obtain⟨ad,us,rfl,hl,hr,hcell⟩:=hall _ _ hx;rw[if_neg (by omega)];refine⟨ad.add (l*sz),us,rfl,hl,hr,fun j u hu=>?_⟩;have:=hcell j u hu
  have hadd:(ad.add (l*sz)).add (i*sz+j)=ad.add ((l+i)*sz+j):=by
   rw[Nat.add_mul];unfold Addr.add;by_cases h1:l*sz=0
   ·rw[h1]; simp
   ·by_cases h2:i*sz+j=0
    ·have:l*sz+i*sz+j=l*sz:=by omega
     rw[this]; simp[h1,h2]
    ·have:¬(l*sz+i*sz+j=0):=by omega
     simp only[h1,h2,this,if_false];simp[Nat.add_assoc]
  rwa [hadd]
 ·cases hx
theorem OpJ.cutLH (ht:BG P tab) (hd:∀d,o.dst=some d→d<n) {t:TypeId} {x y z:Operand} (hop:o.op = .slice t x (some y) (some z) none) {e:TypeId} {i:TI} {sz' by':Nat} {z':List Value} (hts:tab t=some ⟨.slice e,sz', by', z'⟩) (hti:tab e=some i)
  {α:Type} {enc:α→List AV} {xs:List α} (hx:opd s x = .sl i.size enc xs) {k k':IntKind} {l m:Int} (hy:opd s y = .v (.int k l)) (hz:opd s z = .v (.int k' m)) (h0:0≤l) (h1:l≤m) (h2:m≤xs.length) :
  OpJ P n o s ⟨.sl i.size enc ((xs.take m.toNat).drop l.toNat),[],[],[],[]⟩:=by
 refine AR hd fun C s' a w h β ho _ b=>?_;have hxr:=AK b x;have hyr:=AK b y;have hzr:=AK b z;rw[ho x (by simp[hop,Op.operands]),hx]at hxr;rw[ho y (by simp[hop,Op.operands]),hy]at hyr;rw[ho z (by simp[hop,Op.operands]),hz]at hzr;have hxr':=hxr;simp only[Rep]at hxr hyr hzr;obtain⟨A,c,e1,hc,hm,hall⟩:=hxr;rw[e1]at hxr';have hu:=(ht _ _ hts).und;simp only at hu;refine⟨_,?_,rep_cut hxr' l.toNat m.toNat c (by omega) (by omega) (by omega) (Nat.le_refl _)⟩;have b1:=run_sliceBound (P:=P) w k' m c .sliceAcap (by omega) (by omega);have b2:=run_sliceBound (P:=P) w k l m.toNat .sliceB h0 (by omega);simp only[execOp,hop,e1,hyr,hzr,Option.map_some,Option.map_none,Instr.sliceAt,Sem.run_bind,run_underlying hu,Result.andThen,Instr.slice,Instr.sliceBounds,if_true,Sem.run_pure,b1,b2,Option.isSome_none,Bool.false_eq_true,if_false,BZ (ht _ _ hti)]
theorem OpJ.cutL (ht:BG P tab) (hd:∀d,o.dst=some d→d<n) {t:TypeId} {x y:Operand} (hop:o.op = .slice t x (some y) none none) {e:TypeId} {i:TI} {sz' by':Nat} {z':List Value} (hts:tab t=some ⟨.slice e,sz', by', z'⟩) (hti:tab e=some i)
  {α:Type} {enc:α→List AV} {xs:List α} (hx:opd s x = .sl i.size enc xs) {k:IntKind} {l:Int} (hy:opd s y = .v (.int k l)) (h0:0≤l) (h2:l≤xs.length) :
  OpJ P n o s ⟨.sl i.size enc (xs.drop l.toNat),[],[],[],[]⟩:=by
 refine AR hd fun C s' a w h β ho _ b=>?_;have hxr:=AK b x;have hyr:=AK b y;rw[ho x (by simp[hop,Op.operands]),hx]at hxr;rw[ho y (by simp[hop,Op.operands]),hy]at hyr;have hxr':=hxr;simp only[Rep]at hxr hyr;obtain⟨A,c,e1,hc,hm,hall⟩:=hxr;rw[e1]at hxr';have hu:=(ht _ _ hts).und;simp only at hu;have hq:=rep_cut hxr' l.toNat xs.length c (by omega) (Nat.le_refl _) hc (Nat.le_refl _);rw[List.take_length]at hq;refine⟨_,?_,hq⟩;have b2:=run_sliceBound (P:=P) w k l xs.length .sliceB h0 (by omega);simp only[execOp,hop,e1,hyr,Option.map_some,Option.map_none,Instr.sliceAt,Sem.run_bind,run_underlying hu,Result.andThen,Instr.slice,Instr.sliceBounds,if_true,Sem.run_pure,b2,Option.isSome_none,Bool.false_eq_true,if_false,BZ (ht _ _ hti)]
theorem OpJ.cutH (ht:BG P tab) (hd:∀d,o.dst=some d→d<n) {t:TypeId} {x z:Operand} (hop:o.op = .slice t x none (some z) none) {e:TypeId} {i:TI} {sz' by':Nat} {z':List Value} (hts:tab t=some ⟨.slice e,sz', by', z'⟩) (hti:tab e=some i)
  {α:Type} {enc:α→List AV} {xs:List α} (hx:opd s x = .sl i.size enc xs) {k':IntKind} {m:Int} (hz:opd s z = .v (.int k' m)) (h0:0≤m) (h2:m≤xs.length) :
  OpJ P n o s ⟨.sl i.size enc (xs.take m.toNat),[],[],[],[]⟩:=by
 refine AR hd fun C s' a w h β ho _ b=>?_;have hxr:=AK b x;have hzr:=AK b z;rw[ho x (by simp[hop,Op.operands]),hx]at hxr;rw[ho z (by simp[hop,Op.operands]),hz]at hzr;have hxr':=hxr;simp only[Rep]at hxr hzr;obtain⟨A,c,e1,hc,hm,hall⟩:=hxr;rw[e1]at hxr';have hu:=(ht _ _ hts).und;simp only at hu;have hq:=rep_cut hxr' 0 m.toNat c (by omega) (by omega) (by omega) (Nat.le_refl _);rw[List.drop_zero]at hq;refine⟨_,?_,hq⟩;have b1:=run_sliceBound (P:=P) w k' m c .sliceAcap (by omega) (by omega);simp only[execOp,hop,e1,hzr,Option.map_some,Option.map_none,Instr.sliceAt,Sem.run_bind,run_underlying hu,Result.andThen,Instr.slice,Instr.sliceBounds,if_true,Sem.run_pure,b1,Option.isSome_none,Bool.false_eq_true,if_false,BZ (ht _ _ hti)]
theorem OpJ.cutHM (ht:BG P tab) (hd:∀d,o.dst=some d→d<n) {t:TypeId} {x z z2:Operand} (hop:o.op = .slice t x none (some z) (some z2)) {e:TypeId} {i:TI} {sz' by':Nat} {z':List Value} (hts:tab t=some ⟨.slice e,sz', by', z'⟩) (hti:tab e=some i)
  {α:Type} {enc:α→List AV} {xs:List α} (hx:opd s x = .sl i.size enc xs) {k k':IntKind} {m m':Int} (hz:opd s z = .v (.int k' m)) (hz2:opd s z2 = .v (.int k m')) (h0:0≤m) (h1:m≤m') (h2:m'≤xs.length) :
  OpJ P n o s ⟨.sl i.size enc (xs.take m.toNat),[],[],[],[]⟩:=by
 refine AR hd fun C s' a w h β ho _ b=>?_;have hxr:=AK b x;have hzr:=AK b z;have hzr2:=AK b z2;rw[ho x (by simp[hop,Op.operands]),hx]at hxr;rw[ho z (by simp[hop,Op.operands]),hz]at hzr;rw[ho z2 (by simp[hop,Op.operands]),hz2]at hzr2;have hxr':=hxr;simp only[Rep]at hxr hzr hzr2;obtain⟨A,c,e1,hc,hm,hall⟩:=hxr;rw[e1]at hxr';have hu:=(ht _ _ hts).und;simp only at hu;have hq:=rep_cut hxr' 0 m.toNat m'.toNat (by omega) (by omega) (by omega) (by omega);rw[List.drop_zero]at hq;refine⟨_,?_,hq⟩;have b0:=run_sliceBound (P:=P) w k m' c .slice3Acap (by omega) (by omega);have b1:=run_sliceBound (P:=P) w k' m m'.toNat .slice3B (by omega) (by omega);simp only[execOp,hop,e1,hzr,hzr2,Option.map_some,Option.map_none,Instr.sliceAt,Sem.run_bind,run_underlying hu,Result.andThen,Instr.slice,Instr.sliceBounds,if_true,Sem.run_pure,b0,b1,Option.isSome_none,Bool.false_eq_true,if_false,BZ (ht _ _ hti)]
end
end Go.AL
/- Rows that grow: make, append, elements written; freezing. -/
namespace Go.AL
theorem evo_of {M:Nat→Prop} {w w':World} {h:Hp} (hw:Has w h) (ho:w'.os=w.os) (ht:w'.tape=w.tape) (hp:w'.output=w.output∧w.drawn≤w'.drawn) (hs:w.heap.size≤w'.heap.size)
  (hk:∀i,i<w.heap.size→¬M i→w'.heap[i]? = w.heap[i]?) (hM:∀g,M g→h g=none):Evo M w h w' h:=by
 refine⟨ho,ht,hp,hs,hk,Ac h,fun _ hb => .inl hb,fun b cs hb=>?_⟩;obtain⟨t,fr,h1⟩:=hw b cs hb;refine⟨t,fr,?_⟩;rw[hk b (Array.getElem?_eq_some_iff.1 h1).1 (fun hm=>by rw[hM b hm]at hb; cases hb)];exact h1
theorem Base.turnbox {C:Cx} {n:Nat} {s:St} {a:Act} {w w':World} {h:Hp} {β:Bt} (k:Base C n s a w h β) {b d:Id} {B B':Bx} (hb:s.bx b=some B) (hal:s.al d=false) {bv:Value}
  (ho:w'.os=w.os) (ht:w'.tape=w.tape) (hp:w'.output=w.output∧w.drawn≤w'.drawn) (hs:w.heap.size≤w'.heap.size) (hk:∀i,i<w.heap.size→blk (β b)≠some i→w'.heap[i]? = w.heap[i]?)
  (hB:BoxAt w' h (β.set d bv) d B') (hg:∀g,blk (some bv)=some g→blk (β b)=some g∨w.heap.size≤g)
  (t:Option Tmp) (hd:∀x,t=some x→x<n) {v:AV} {u:Value} (hr:Rep h (β.set d bv) v u) (tb:List Id) :
  Base C n ((Eff.mk v [(d,B')] [b] [d] tb).app t s) (a.put t u) w' h (β.set d bv):=by
 have hn:β d=none:=k.dom d hal;have hle:=Bt.le_set hn bv
 have hbs:β b≠none:=by
  cases B with
  | cells cs t=>obtain⟨g,us,e,_⟩:=k.box b _ hb; rw[e]; simp
  | row sz enc xs t=>obtain⟨v,vals,e,_⟩:=k.box b _ hb; rw[e]; simp
  | map ek av xs clock=>obtain⟨g,es,e,_⟩:=k.box b _ hb; rw[e]; simp
  | iter m a' b' c=>obtain⟨r,g,e,_⟩:=k.box b _ hb; rw[e]; simp
 have hdb:d≠b:=fun e=>hbs (e▸hn);have hevo:Evo (fun g=>blk (β b)=some g) w h w' h:=evo_of k.evo.has ho ht hp hs (fun i hi hm=>hk i hi hm) (fun g hg=>(k.blk_lt hb hg).2)
 have hbx:∀x,((Eff.mk v [(d,B')] [b] [d] tb).app t s).bx x=if x=b then none else if x=d then some B' else s.bx x:=by
  intro x;by_cases hx:x=b
  ·subst hx; simp[Eff.app,delB]
  ·by_cases hx2:x=d
   ·subst hx2; simp[Eff.app,delB,updB,Ak hx,hx]
   ·simp[Eff.app,delB,updB,Ak hx,Ak hx2,hx,hx2]
 have kv:=k.val t hd (v := .any) (u:=u) (by simp only[Rep]) []
 have hold:∀x Bx', s.bx x=some Bx'→x≠b→∀g,blk (β x)=some g→w'.heap[g]? = w.heap[g]? ∧ h g=none:=fun x Bx' hx hne g hg=>
  ⟨hk g (k.blk_lt hx hg).1 (fun e=>k.apart x b Bx' B hx hb hne g hg e),(k.blk_lt hx hg).2⟩
 refine⟨k.evo.trans hevo (fun g hg=>k.own b B g hb hg),k.b0.trans hle,fun i=>?_,fun x B1 hx=>?_,fun x y B1 B2 h1 h2 hne g e1=>?_,fun x B1 g hx hgx=>?_,fun x hx=>?_,kv.size,kv.defers⟩
 ·by_cases hi:t=some i
  ·subst hi
   have:((Eff.mk v [(d,B')] [b] [d] tb).app (some i) s).env i=v:=by simp[Eff.app,putE]
   rw[this]
   have:(a.put (some i) u).tmps.getD i undef=u:=by
    have hlt:i<a.tmps.size:=by rw[k.size]; exact hd i rfl
    simp[Act.put,hlt]
   rw[this]; exact hr
  ·have h1:((Eff.mk v [(d,B')] [b] [d] tb).app t s).env i=s.env i:=by simp only[Eff.app]; rw[Bi _ _ _ _ hi]
   have h2:=kv.slot i;simp only[Eff.app]at h2;rw[Bi _ _ _ _ hi]at h2;rw[h1];exact h2.mono (Ac h) hle
 ·rw[hbx]at hx;split at hx
  ·cases hx
  ·split at hx
   ·rename_i he; subst he; injection hx with hx; subst hx; exact hB
   ·rename_i h1 h2;exact(k.box x B1 hx).keep (Ac h) hle (hold x B1 hx h1)
 ·rw [hbx]at h1 h2
  have hnew:∀z Bz,s.bx z=some Bz→z≠b→∀g,blk (some bv)=some g→blk (β z)≠some g:=by
   intro z Bz hz hzb g hgv e;rcases hg g hgv with h3|h3
   ·exact k.apart z b Bz B hz hb hzb g e h3
   ·have:=(k.blk_lt hz e).1; omega
  split at h1
  ·cases h1
  ·rename_i hxb;split at h2
   ·cases h2
   ·rename_i hyb;split at h1
    ·rename_i hxd;subst hxd;rw[if_neg (fun e=>hne e.symm)]at h2;rw[Bt.set_same]at e1;rw[Bt.set_ne _ _ _ _ (fun e=>hne e.symm)];exact hnew y B2 h2 hyb g e1
    ·rename_i hxd;rw[Bt.set_ne _ _ _ _ hxd]at e1;split at h2
     ·rename_i hyd;subst hyd;rw[Bt.set_same];intro e2;exact hnew x B1 h1 hxb g e2 e1
     ·rename_i hyd;rw[Bt.set_ne _ _ _ _ hyd];exact k.apart x y B1 B2 h1 h2 hne g e1
 ·rw[hbx]at hx;split at hx
  ·cases hx
  ·split at hx
   ·rename_i he;subst he;rw[Bt.set_same]at hgx;rcases hg g hgx with h3|h3
    ·exact k.own b B g hb h3
    ·exact .inr (Nat.le_trans k.evo.size h3)
   ·rename_i he;rw[Bt.set_ne _ _ _ _ he]at hgx;exact k.own x B1 g hx hgx
 ·simp only[Eff.app,E8,Bool.or_eq_false_iff]at hx
  have he:x≠d:=by
   intro e; subst e; simp at hx
  rw[Bt.set_ne _ _ _ _ he];exact k.dom x hx.2
theorem FM {w:World} {base:Nat} {t:TypeId} {sz m:Nat} {v:Value} {vals:List Value} (ho:w.ownsRow base t sz v m vals):∀g,blk (some v)=some g↔v.ownBlock=some g:=by
 intro g;rcases ho.2 with⟨rfl,_⟩|⟨g', cap,cur,rfl,_⟩<;>simp[blk,Value.ownBlock]
theorem sl_cells {h:Hp} {α:Type} {sz:Nat} {enc:α→List AV} {A:Addr}:∀(xs:List α) (i0:Nat),(∀i x,xs[i]? = some x→∃ad us,some A=some ad∧us.length=sz∧RepL h noB (enc x) us∧∀j u,us[j]? = some u→hcell h (ad.add ((i0+i)*sz+j)) u) →
  ∃news,RepL h noB (xs.flatMap enc) news∧news.length=xs.length*sz∧∀j u,news[j]? = some u→hcell h (A.add (i0*sz+j)) u
 | [],i0,_=>⟨[],RepL.nil,by simp,fun j u hu=>by simp at hu⟩
 | x::xs,i0,hall=>by
  obtain⟨ad,us,e,hl,hr,hc⟩:=hall 0 x (by simp);injection e with e; subst e
  obtain⟨news,h1,h2,h3⟩:=sl_cells xs (i0+1) (fun i y hy=>by
   obtain⟨ad,us,e,h4,h5,h6⟩:=hall (i+1) y (by simpa using hy)
   exact⟨ad,us,e,h4,h5,fun j u hu=>by have:=h6 j u hu; rwa [show i0+(i+1)=i0+1+i from by omega]at this⟩)
  refine⟨us++news,by rw[List.flatMap_cons]; exact hr.append h1,by simp[hl,h2,Nat.add_mul]; omega,fun j u hu=>?_⟩;rw[List.getElem?_append]at hu;split at hu
  ·have:=hc j u hu;simpa using this
  ·have:=h3 (j-us.length) u hu;rename_i hge;rwa [Nat.add_mul,Nat.one_mul,hl,show i0*sz+sz+(j-sz)=i0*sz+j from by omega]at this
theorem flat_one {h:Hp} {β:Bt} {α:Type} {enc:α→List AV} (h1:∀x,BU (enc x)=true):∀(xs:List α) (us:List Value),RepL h β (xs.flatMap enc) us→∀u∈us,u.oneCell'=true:=by
 intro xs us hr;refine CF ?_ hr
 have:∀(az bs:List AV),BU az=true→BU bs=true→BU (az++bs)=true:=by
  intro az
  induction az with
  | nil=>intro bs _ hb; simpa using hb
  | cons a az ih=>intro bs ha hb; simp only[BU,Bool.and_eq_true,List.cons_append]at ha ⊢; exact⟨ha.1,ih bs ha.2 hb⟩
 induction xs with
 | nil=>rfl
 | cons x xs ih=>
  rw[List.flatMap_cons]
  have hl:BU (xs.flatMap enc)=true:=by
   clear ih hr
   induction xs with
   | nil=>rfl
   | cons y ys ih2=>rw[List.flatMap_cons]; exact this _ _ (h1 y) ih2
  exact this _ _ (h1 x) hl
section
variable {P:Program} {tab:Tab} {n:Nat} {o:Oper} {s:St}
theorem OpJ.make (ht:BG P tab) {d:Tmp} (hdst:o.dst=some d) (hd:d<n) {t:TypeId} {x y:Operand} (hop:o.op = .makeSlice t x y) {e:TypeId} {i:TI} {sz' by':Nat} {z:List Value} (hts:tab t=some ⟨.slice e,sz', by', z⟩) (hti:tab e=some i)
  {k k':IntKind} {m m':Int} (hx:opd s x = .v (.int k m)) (hy:opd s y = .v (.int k' m')) (hmm:m'=m) (h0:0≤m) (hby:m*i.bytes≤281474976710656) (hm:m≤9223372036854775807) {α:Type} (enc:α→List AV) (x0:α) (hz:LeL (vL i.zero) (enc x0)) (hlen:(enc x0).length=i.size) :
  OpJ P n o s ⟨.row d,[(d,.row i.size enc (List.replicate m.toNat x0) e)],[],[d],[]⟩:=by
 subst hmm;refine⟨fun t ht=>(by rw[hdst]at ht; injection ht with ht; subst ht; exact hd),fun C s' a w h β Q K hs hb hal b hK=>?_⟩
 have same:∀z:Operand,(z=x∨z=y)→opd s' z=opd s z:=by
  intro z hz
  cases z with
  | tmp t=>exact hs t (by rw[hop]; simpa[Op.operands]using hz)
  | _=>rfl
 have hxr:=AK b x;have hyr:=AK b y;rw[same x (.inl rfl),hx]at hxr;rw[same y (.inr rfl),hy]at hyr;simp only[Rep]at hxr hyr;obtain⟨inf,zv,h1,h2,h3,h4,h5⟩:=(ht e i hti).info;have hu:=(ht _ _ hts).und;simp only at hu;obtain⟨c,rfl⟩:=Int.eq_ofNat_of_zero_le h0
 have hzs:zv.cells.size=i.size:=by rw[←Array.length_toList,h5,(ht e i hti).zs]
 have hmk:=run_make (P:=P) w t e inf zv hu h1 h4 k k' (c:Int) (c:Int) h0 (Int.le_refl _) (by rw[h3,Int.mul_comm]; exact hby) hm;rw[Int.toNat_natCast,h2]at hmk
 have hrun:(execOp a.eval o).run P w = .ok (.value (.slice (some ⟨w.heap.size,0,none⟩) c c)) (w.alloc (.cells (madeCells zv.cells (c*i.size)) e)):=by
  simp only[execOp,hop,hxr,hyr,Sem.run_bind,hmk,Result.andThen,Sem.run_pure]
 unfold Oper.wp;rw[hrun];simp only[Oper.upon];refine hK _ _ h (β.set d (.slice (some ⟨w.heap.size,0,none⟩) c c)) ?_;have k1:=b.step (Cb b.evo.has (.cells (madeCells zv.cells (c*i.size)) e));rw[hdst];refine k1.addbox (hal d (by simp)) ?_ ?_ (some d) (fun t ht=>by injection ht with ht; subst ht; exact hd) ?_ []
 ·have hml:(madeCells zv.cells (c*i.size)).toList=(List.replicate c zv.cells.toList).flatten:=by rw[←hzs]; exact made_flat _ _
  refine⟨_,(madeCells zv.cells (c*i.size)).toList,Bt.set_same _ _ _,⟨by simp[size_madeCells],.inr ⟨w.heap.size,c,_,by simp,Nat.zero_le _,heap_alloc_new w _,by simp,by simp only[maxLen]; omega,size_madeCells _ _,by simp[size_madeCells,List.take_of_length_le]⟩⟩,?_,?_,?_⟩
  ·rw[hml,Int.toNat_natCast];have hzr:RepL h noB (enc x0) zv.cells.toList:=hz _ _ _ (by rw[h5]; exact Dw _)
   have:∀c,RepL h noB ((List.replicate c x0).flatMap enc) (List.replicate c zv.cells.toList).flatten:=by
    intro c
    induction c with
    | zero=>simpa using RepL.nil
    | succ c ih=>rw[List.replicate_succ,List.flatMap_cons,List.replicate_succ,List.flatten_cons]; exact hzr.append ih
   exact this c
  ·intro x hx; rw[List.eq_of_mem_replicate hx]; exact hlen
  ·intro g hg;simp[Value.ownBlock]at hg;subst hg;exact CW b.evo.has (Nat.le_refl _)
 ·intro g hg;simp[blk]at hg;subst hg;refine⟨fun id' B' hb' e=>?_,.inr b.evo.size⟩;have:=(b.blk_lt hb' e).1;omega
 ·simp only[Rep]; exact⟨Bt.set_same _ _ _,_,_,_,rfl⟩
theorem Dz {w:World} {t ty e:TypeId} {inf:TypeInfo} {zv:Value} (hu:P.underlying t=some (.slice e)) (h1:P.info? e=some inf) (h4:inf.zero=some zv) (hzs:zv.cells.size=inf.size) (hsz:0<inf.size)
  {v:Value} {m:Nat} {vals:List Value} (ho:w.ownsRow 0 e inf.size v m vals) {h:Hp} (hw:Has w h) {α:Type} {enc:α→List AV} {ys:List α} (hone:∀y,BU (enc y)=true) {u:Value} (hy:Rep h noB (.sl inf.size enc ys) u)
  (hby:(m+ys.length)*inf.bytes≤140737488355328) (hm:m+ys.length≤9223372036854775807) :
  ∃v' w' news,(Builtin.append_ #[t,t] ty #[v,u]).run P w = .ok v' w'∧w'.ownsRow 0 e inf.size v' (m+ys.length) (vals++news)∧w.grownBy w' v.ownBlock∧(v'.ownBlock=v.ownBlock∨v'.ownBlock=some w.heap.size)∧RepL h noB (ys.flatMap enc) news:=by
 simp only[Rep]at hy;obtain⟨A,c,rfl,hc,hmx,hall⟩:=hy
 cases A with
 | none=>
  have:ys=[]:=by
   cases ys with
   | nil=>rfl
   | cons y ys=>obtain⟨ad,us,e,_⟩:=hall 0 y (by simp); cases e
  subst this;refine⟨v,w,[],?_,by simpa using ho,⟨rfl,rfl,rfl,Nat.le_refl _,fun _ _ _=>rfl⟩,.inl rfl,by simpa using RepL.nil⟩;rcases ho.2 with⟨rfl,hn⟩|⟨g,cap,cur,rfl,_,_,hnc,_⟩
  ·simp[Builtin.append_,run_underlying hu,sizeOf,typeInfo,h1,Builtin.lenOf,Builtin.firstCells]
  ·simp[Builtin.append_,run_underlying hu,sizeOf,typeInfo,h1,Builtin.lenOf,Builtin.firstCells,hnc,storeCells]
 | some ad=>
  obtain⟨news,n1,n2,n3⟩:=sl_cells (h:=h) (sz:=inf.size) (enc:=enc) (A:=ad) ys 0 (fun i x hx=>by
   obtain⟨ad', us,e,q1,q2,q3⟩:=hall i x hx
   exact⟨ad', us,e,q1,q2,fun j u hu=>by have:=q3 j u hu; rwa [Nat.zero_add]⟩)
  obtain⟨v', w', r1,r2,r3,_,r5⟩:=run_append_own_at (P:=P) w 0 t ty e inf zv inf.size inf.bytes hu h1 h4 rfl rfl hzs hsz v m vals ho ad ys.length c news n2 (fun j u hu=>(by
   have:=(n3 j u hu).cell hw
   rwa [Nat.zero_mul,Nat.zero_add]at this)) (flat_one hone ys news n1) (by simp only[maxLen]; omega) hby (Nat.zero_le _)
  exact⟨v', w', news,r1,r2,r3,r5,n1⟩
theorem append_exec {a:Act} {w:World} {x y:Operand} {t:TypeId} (hop:o.op = .call { callee := .builtin .append,args:=⟨[x,y]⟩,argTypes:=⟨[t,t]⟩ }) {v':Value} {w':World} (hr:(Builtin.append_ #[t,t] o.type #[a.eval x,a.eval y]).run P w = .ok v' w') :
  (execOp a.eval o).run P w = .ok (.value v') w':=by
 simp only[execOp,hop,resolve,invoke,builtin,Sem.run_bind,Sem.run_pure,Result.andThen,List.map_toArray,List.map_cons,List.map_nil];rw[show((Builtin.append_ { toList:=[t,t] } o.type { toList:=[a.eval x,a.eval y] }).run P w) = .ok v' w' from hr]
theorem OpJ.append (ht:BG P tab) {d:Tmp} (hdst:o.dst=some d) (hd:d<n) {x y:Operand} {t:TypeId} (hop:o.op = .call { callee := .builtin .append,args:=⟨[x,y]⟩,argTypes:=⟨[t,t]⟩ }) {e:TypeId} {i:TI} {sz' by':Nat} {z:List Value} (hts:tab t=some ⟨.slice e,sz', by', z⟩) (hti:tab e=some i) (hsz:Nat.blt 0 i.size=true)
  {b:Id} (hx:opd s x = .row b) {α:Type} {enc:α→List AV} {xs ys:List α} (hb:s.bx b=some (.row i.size enc xs e)) (hy:(opd s y).Le (.sl i.size enc ys)) (hyc:(opd s y).closed=true) (hone:∀y,BU (enc y)=true) (hel:∀y,(enc y).length=i.size)
  (hby:(xs.length+ys.length)*i.bytes≤140737488355328) (hm:xs.length+ys.length≤9223372036854775807) :
  OpJ P n o s ⟨.row d,[(d,.row i.size enc (xs++ys) e)],[b],[d],[b]⟩:=by
 refine⟨fun t ht=>(by rw[hdst]at ht; injection ht with ht; subst ht; exact hd),fun C s' a w h β Q K hs hbs hal k hK=>?_⟩
 have same:∀z:Operand,(z=x∨z=y)→opd s' z=opd s z:=by
  intro z hz
  cases z with
  | tmp t=>exact hs t (by rw[hop]; simpa[Op.operands,Call.operands]using hz)
  | _=>rfl
 have hb':s'.bx b=some (.row i.size enc xs e):=(hbs b (by simp[Eff.ts])).trans hb;have hxr:=AK k x;rw[same x (.inl rfl),hx]at hxr;have hyr:=AK k y;rw[same y (.inr rfl)]at hyr;have hyr:=hy _ _ _ (hyr.closed (β':=noB) _ _ hyc);simp only[Rep]at hxr;obtain⟨e1,A,m0,c0,e2⟩:=hxr;obtain⟨v,vals,e3,ho,hvr,hlen,hnone⟩:=k.box b _ hb';rw[e1]at e3; injection e3 with e3;obtain⟨inf,zv,h1,h2,h3,h4,h5⟩:=(ht e i hti).info;have hu:=(ht _ _ hts).und;simp only at hu
 have hzs:zv.cells.size=inf.size:=by rw[←Array.length_toList,h5,(ht e i hti).zs,h2]
 rw[←h2]at ho hyr;obtain⟨v', w', news,r1,r2,r3,r4,r5⟩:=Dz (P:=P) (ty:=o.type) hu h1 h4 hzs (by rw[h2]; exact Nat.le_of_ble_eq_true hsz) ho k.evo.has hone hyr (by rw[h3]; exact hby) hm;rw[←e3]at r1;have hrun:=append_exec (P:=P) (o:=o) hop r1;unfold Oper.wp;rw[hrun];simp only[Oper.upon];refine hK _ _ h (β.set d v') ?_;have hbv:=FM ho;rw[hdst];refine k.turnbox hb' (hal d (by simp)) r3.os r3.tape ⟨r3.output,run_drawn _ _ _ _ r1⟩ r3.size (fun j hj hne=>r3.block j hj (fun he=>hne (by rw[e1,e3]; exact(hbv j).2 he.symm))) ?_ ?_ (some d) (fun t ht=>by injection ht with ht; subst ht; exact hd) ?_ [b]
 ·refine⟨v', vals++news,Bt.set_same _ _ _,?_,?_,fun x _=>hel x,fun g hg=>?_⟩
  ·rw[h2]at r2; rwa [List.length_append]
  ·rw[List.flatMap_append]; exact hvr.append r5
  ·rcases r4 with r4|r4
   ·rw[r4]at hg; exact hnone g hg
   ·rw[r4]at hg; injection hg with hg; subst hg; exact CW k.evo.has (Nat.le_refl _)
 ·intro g hg;rw[FM r2]at hg;rcases r4 with r4|r4
  ·left; rw[e1,e3,hbv]; rw[←r4]; exact hg
  ·right; rw[r4]at hg; injection hg with hg; omega
 ·simp only[Rep];refine⟨Bt.set_same _ _ _,?_⟩;rcases r2.2 with⟨rfl,_⟩|⟨g,cap,cur,rfl,_⟩
  ·exact⟨_,_,_,rfl⟩
  ·exact⟨_,_,_,rfl⟩
theorem OpJ.append0 (ht:BG P tab) {d:Tmp} (hdst:o.dst=some d) (hd:d<n) {x y:Operand} {t:TypeId} (hop:o.op = .call { callee := .builtin .append,args:=⟨[x,y]⟩,argTypes:=⟨[t,t]⟩ }) {e:TypeId} {i:TI} {sz' by':Nat} {z:List Value} (hts:tab t=some ⟨.slice e,sz', by', z⟩) (hti:tab e=some i) (hsz:Nat.blt 0 i.size=true)
  (hx:opd s x = .v (.slice none 0 0)) {α:Type} (enc:α→List AV) {ys:List α} (hy:(opd s y).Le (.sl i.size enc ys)) (hyc:(opd s y).closed=true) (hone:∀y,BU (enc y)=true) (hel:∀y,(enc y).length=i.size)
  (hby:ys.length*i.bytes≤140737488355328) (hm:ys.length≤9223372036854775807) :
  OpJ P n o s ⟨.row d,[(d,.row i.size enc ys e)],[],[d],[]⟩:=by
 refine⟨fun t ht=>(by rw[hdst]at ht; injection ht with ht; subst ht; exact hd),fun C s' a w h β Q K hs hbs hal k hK=>?_⟩
 have same:∀z:Operand,(z=x∨z=y)→opd s' z=opd s z:=by
  intro z hz
  cases z with
  | tmp t=>exact hs t (by rw[hop]; simpa[Op.operands,Call.operands]using hz)
  | _=>rfl
 have hxr:=AK k x;rw[same x (.inl rfl),hx]at hxr;have hyr:=AK k y;rw[same y (.inr rfl)]at hyr;have hyr:=hy _ _ _ (hyr.closed (β':=noB) _ _ hyc);simp only[Rep]at hxr;obtain⟨inf,zv,h1,h2,h3,h4,h5⟩:=(ht e i hti).info;have hu:=(ht _ _ hts).und;simp only at hu
 have hzs:zv.cells.size=inf.size:=by rw[←Array.length_toList,h5,(ht e i hti).zs,h2]
 have ho:=World.ownsRow_nil w 0 e inf.size;rw[←h2]at hyr;obtain⟨v', w', news,r1,r2,r3,r4,r5⟩:=Dz (P:=P) (ty:=o.type) hu h1 h4 hzs (by rw[h2]; exact Nat.le_of_ble_eq_true hsz) ho k.evo.has hone hyr (by rw[h3,Nat.zero_add]; exact hby) (by omega);rw[←hxr]at r1;have hrun:=append_exec (P:=P) (o:=o) hop r1;unfold Oper.wp;rw[hrun];simp only[Oper.upon];refine hK _ _ h (β.set d v') ?_;rw[hdst];simp only[Nat.zero_add,List.nil_append]at r2;have hnb:(Value.slice none 0 0).ownBlock=none:=rfl;rw[hnb]at r3 r4;have hev:Evo D4 w h w' h:=evo_of k.evo.has r3.os r3.tape ⟨r3.output,run_drawn _ _ _ _ r1⟩ r3.size (fun j hj _=>r3.block j hj (by simp)) (fun g hg=>hg.elim);refine(k.step hev).addbox (hal d (by simp)) ?_ ?_ (some d) (fun t ht=>by injection ht with ht; subst ht; exact hd) ?_ []
 ·refine⟨v', news,Bt.set_same _ _ _,by rw[h2]at r2; exact r2,r5,fun x _=>hel x,fun g hg=>?_⟩;rcases r4 with r4|r4
  ·rw[r4]at hg; cases hg
  ·rw[r4]at hg; injection hg with hg; subst hg; exact CW k.evo.has (Nat.le_refl _)
 ·intro g hg;rw[FM r2]at hg;rcases r4 with r4|r4
  ·rw[r4]at hg; cases hg
  ·rw[r4]at hg; injection hg with hg; subst hg;refine⟨fun id' B' hb' e=>?_,.inr k.evo.size⟩;have:=(k.blk_lt hb' e).1;omega
 ·simp only[Rep];refine⟨Bt.set_same _ _ _,?_⟩;rcases r2.2 with⟨rfl,_⟩|⟨g,cap,cur,rfl,_⟩
  ·exact⟨_,_,_,rfl⟩
  ·exact⟨_,_,_,rfl⟩
theorem OpJ.relem (ht:BG P tab) (hd:∀d,o.dst=some d→d<n) {t:TypeId} {x y:Operand} (hop:o.op = .indexAddr t x y) {e:TypeId} {i:TI} {sz' by':Nat} {z:List Value} (hts:tab t=some ⟨.slice e,sz', by', z⟩) (hti:tab e=some i)
  {b:Id} (hx:opd s x = .row b) {α:Type} {sz:Nat} {enc:α→List AV} {xs:List α} {bt:TypeId} (hb:s.bx b=some (.row sz enc xs bt)) {k:IntKind} {m:Int} (hy:opd s y = .v (.int k m)) (h0:0≤m) (h1:m<xs.length) :
  OpJ P n o s ⟨.rptr b (m.toNat*i.size),[],[],[],[b]⟩:=by
 refine AR hd fun C s' a w h β ho hbs q=>?_;have hxr:=AK q x;have hyr:=AK q y;rw[ho x (by simp[hop,Op.operands]),hx]at hxr;rw[ho y (by simp[hop,Op.operands]),hy]at hyr;simp only[Rep]at hxr hyr;obtain⟨e1,A,m0,c0,e2⟩:=hxr;obtain⟨v,vals,e3,hown,_⟩:=q.box b _ ((hbs b (by simp)).trans hb);rw[e1]at e3; injection e3 with e3;have hu:=(ht _ _ hts).und;simp only at hu;rcases hown.2 with⟨rfl,hn⟩|⟨g,cap,cur,rfl,_⟩
 ·omega
 ·refine⟨.pointer (some ((⟨g,0,none⟩:Addr).add (m.toNat*i.size))),?_,?_⟩
  ·simp only[execOp,hop,hyr,e3,Instr.indexAt,asIntOf,Sem.run_bind,Sem.run_pure,Result.andThen,run_underlying hu];rw[if_pos ⟨h0,h1⟩];simp only[Sem.run_bind,BZ (ht _ _ hti),Result.andThen,Sem.run_pure]
  ·simp only[Rep];refine⟨g,_,_,e1.trans (by rw[e3]),?_⟩;unfold Addr.add;split<;>simp_all
theorem flat_at {h:Hp} {β:Bt} {α:Type} {sz:Nat} {enc:α→List AV}:∀(xs:List α) (us:List Value) (j:Nat) (x:α),(∀x∈xs,(enc x).length=sz)→RepL h β (xs.flatMap enc) us→xs[j]? = some x →
  RepL h β (enc x) ((us.drop (j*sz)).take sz)∧j*sz+sz≤us.length
 | [],us,j,x,_,_,hx=>by simp at hx
 | y::ys,us,j,x,hel,hr,hx=>by
  rw[List.flatMap_cons]at hr;obtain⟨r1,r2⟩:=hr.split;have hy:=hel y (by simp)
  have hle:sz≤us.length:=by rw[hr.length,List.length_append,hy]; omega
  cases j with
  | zero=>simp at hx; subst hx; rw[hy]at r1; exact⟨by simpa using r1,by omega⟩
  | succ j=>
   obtain⟨h1,h2⟩:=flat_at ys (us.drop (enc y).length) j x (fun z hz=>hel z (by simp[hz])) r2 (by simpa using hx);rw[hy]at h1 h2;refine⟨?_,?_⟩
   ·rwa [List.drop_drop,show sz+j*sz=(j+1)*sz from by rw[Nat.add_mul]; omega]at h1
   ·rw[List.length_drop]at h2; rw[Nat.add_mul]; omega
theorem flat_set {h:Hp} {β:Bt} {α:Type} {sz:Nat} {enc:α→List AV} {vs:List Value} {x1:α} (hv:RepL h β (enc x1) vs) (hvl:vs.length=sz):∀(xs:List α) (us:List Value) (j:Nat),(∀x∈xs,(enc x).length=sz)→RepL h β (xs.flatMap enc) us→j<xs.length →
  RepL h β ((xs.set j x1).flatMap enc) (us.take (j*sz)++vs++us.drop (j*sz+sz))
 | [],us,j,_,_,hx=>by simp at hx
 | y::ys,us,j,hel,hr,hx=>by
  rw[List.flatMap_cons]at hr;obtain⟨r1,r2⟩:=hr.split;have hy:=hel y (by simp)
  have hle:sz≤us.length:=by rw[hr.length,List.length_append,hy]; omega
  cases j with
  | zero=>
   rw[List.set_cons_zero,List.flatMap_cons];rw[hy]at r2;simpa using hv.append r2
  | succ j=>
   rw[List.set_cons_succ,List.flatMap_cons];have ih:=flat_set hv hvl ys (us.drop (enc y).length) j (fun z hz=>hel z (by simp[hz])) r2 (by simpa using hx);have:=r1.append ih;rw[hy,List.drop_drop]at this;rw[Nat.add_mul,Nat.one_mul]
   have e1:us.take (j*sz+sz)=us.take sz++(us.drop sz).take (j*sz):=by
    rw[Nat.add_comm,List.take_add]
   rw[e1];simpa[List.append_assoc,Nat.add_assoc,Nat.add_comm,Nat.add_left_comm]using this
theorem OpJ.rload (ht:BG P tab) (hd:∀d,o.dst=some d→d<n) {t:TypeId} {x:Operand} (hop:o.op = .load t x) {b:Id} {off:Nat} (hx:opd s x = .rptr b off) {α:Type} {sz:Nat} {enc:α→List AV} {xs:List α} {bt:TypeId} (hb:s.bx b=some (.row sz enc xs bt))
  {i:TI} (hti:tab t=some i) {j:Nat} (hj:off=j*sz) {x0:α} (hx0:xs[j]? = some x0) {v:AV} (hv:BM (aggD i.desc) i.size (enc x0)=some v) (hvc:v.closed=true) :
  OpJ P n o s ⟨v,[],[],[],[b]⟩:=by
 subst hj;refine AR hd fun C s' a w h β ho hbs q=>?_;have hxr:=AK q x;rw[ho x (by simp[hop,Op.operands]),hx]at hxr;simp only[Rep]at hxr;obtain⟨g,m0,c0,e1,e2⟩:=hxr;obtain⟨v', vals,e3,hown,hvr,hlen,_⟩:=q.box b _ ((hbs b (by simp)).trans hb);rw[e1]at e3; injection e3 with e3;rw[←e3]at hown;obtain⟨hr,hle⟩:=flat_at xs vals j x0 hlen hvr hx0;rcases hown.2 with⟨h1,_⟩|⟨g', cap,cur,h1,_,hg,hnc,_,hcs,htake⟩
 ·cases h1
 ·injection h1 with h1 h2 h3;injection h1 with h1; injection h1 with h1;subst h1
  obtain⟨u,hu1,hu2⟩:=Dy (P:=P) (w:=w) (ht _ _ hti) (ad:=⟨g,j*sz,none⟩) hr (fun q u hu=>cells_add hg (j*sz) q u (by
   rw[List.getElem?_take]at hu;split at hu
   ·rw[List.getElem?_drop,←htake,List.getElem?_take]at hu;split at hu
    ·exact hu
    ·cases hu
   ·cases hu)) hv
  exact⟨u,by simp only[execOp,hop,e2,Instr.loadAt,Instr.sureAddr,Sem.run_bind,Sem.run_pure,Result.andThen,hu1],hu2.closed _ _ hvc⟩
theorem take_splice {α:Type} (cur vs:List α) (a k N:Nat) (hv:vs.length=k) (hN:a+k≤N) (hc:N≤cur.length) :
  (cur.take a++vs++cur.drop (a+k)).take N=(cur.take N).take a++vs++(cur.take N).drop (a+k):=by
 have h1:(cur.take N).take a=cur.take a:=by rw[List.take_take,Nat.min_eq_left (by omega)]
 rw[h1,List.take_append,List.take_of_length_le (by simp; omega),List.drop_take];congr 2;simp; omega
theorem OpJ.rstore (ht:BG P tab) (hdst:o.dst=none) {t:TypeId} {x y:Operand} (hop:o.op = .store t x y) {b:Id} {off:Nat} (hx:opd s x = .rptr b off) {α:Type} {sz:Nat} {enc:α→List AV} {xs:List α} {bt:TypeId} (hb:s.bx b=some (.row sz enc xs bt))
  {i:TI} (hti:tab t=some i) {j:Nat} (hj:off=j*sz) (hjl:j<xs.length) {vs:List AV} (hv:D9 (opd s y)=some vs) (hvc:BN vs=true) (hsz:vs.length=i.size) (hsz2:i.size=sz) {x1:α} (hle:LeL vs (enc x1)) (hel:(enc x1).length=sz) :
  OpJ P n o s ⟨.any,[(b,.row sz enc (xs.set j x1) bt)],[],[],[b]⟩:=by
 subst hj;refine⟨fun t ht=>(by rw[hdst]at ht; cases ht),fun C s' a w h β Q K hs hbs hal k hK=>?_⟩
 have same:∀z:Operand,(z=x∨z=y)→opd s' z=opd s z:=by
  intro z hz
  cases z with
  | tmp t=>exact hs t (by rw[hop]; simpa[Op.operands]using hz)
  | _=>rfl
 have hb':s'.bx b=some (.row sz enc xs bt):=(hbs b (by simp[Eff.ts])).trans hb;obtain⟨hvr,hv1⟩:=FK ((same y (.inr rfl))▸hv) (AK k y);have hxr:=AK k x;rw[same x (.inl rfl),hx]at hxr;simp only[Rep]at hxr;obtain⟨g,m0,c0,e1,e2⟩:=hxr;obtain⟨v', vals,e3,hown,hvals,hlen,hnone⟩:=k.box b _ hb';rw[e1]at e3; injection e3 with e3;subst e3
 have hvl:(a.eval y).cells.toList.length=sz:=by rw[hvr.length,hsz,hsz2]
 have hvals':=flat_set (hle _ _ _ (hvr.closed (β':=noB) _ _ hvc)) hvl xs vals j hlen hvals hjl;have hown0:=hown;obtain⟨hl1,hown⟩:=hown;rcases hown with⟨h1,_⟩|⟨g', cap,cur,h1,hb0,hg,hnc,hmx,hcs,htake⟩
 ·cases h1
 ·injection h1 with h1 h2 h3;injection h1 with h1; injection h1 with h1;subst h1
  have hfit:j*sz+sz≤xs.length*sz:=by
   have:(j+1)*sz≤xs.length*sz:=Nat.mul_le_mul_right _ hjl;rw[Nat.add_mul]at this; omega
  have hfit2:xs.length*sz≤cap*sz:=Nat.mul_le_mul_right _ hnc;have hst:=run_storeCells_at (P:=P) g (j*sz) bt (a.eval y).cells.toList 0 cur w hg (by rw[hvl]; omega) hv1;rw[Nat.add_zero,hvl]at hst
  have hrun:(execOp a.eval o).run P w = .ok .skip (w.setRow g (cur.toList.take (j*sz)++(a.eval y).cells.toList++cur.toList.drop (j*sz+sz)).toArray):=by
   have hsz':¬(a.eval y).cells.size≠i.size:=by
    rw[←Array.length_toList,hvl,hsz2]; simp
   simp only[execOp,hop,e2,Instr.storeAt,Instr.sureAddr,storeVar,Sem.run_bind,Sem.run_pure,Result.andThen,BZ (ht _ _ hti),if_neg hsz', hst]
  unfold Oper.wp;rw[hrun];simp only[Oper.upon];refine hK _ _ h β ?_;refine k.setbox (w':=w.setRow g (cur.toList.take (j*sz)++(a.eval y).cells.toList++cur.toList.drop (j*sz+sz)).toArray) hb' rfl rfl ⟨rfl,Nat.le_refl _⟩ (by simp) (fun q hq=>setRow_other w g q _ (fun e=>hq (by simp[e1,blk,e]))) ?_ ⟨g,by simp[e1,blk]⟩ o.dst (fun t ht=>by rw[hdst]at ht; cases ht) (v := .any) (u:=undef) (by simp only[Rep]) [b];refine⟨_,vals.take (j*sz)++(a.eval y).cells.toList++vals.drop (j*sz+sz),e1,⟨?_,.inr ⟨g,cap,(cur.toList.take (j*sz)++(a.eval y).cells.toList++cur.toList.drop (j*sz+sz)).toArray,?_,hb0,setRow_heap w g cur _ bt _ hg,?_,hmx,?_,?_⟩⟩,hvals', ?_,hnone⟩
  ·simp only[List.length_append,List.length_take,List.length_drop,hvl,hl1,List.length_set]; omega
  ·rw[List.length_set,h2,h3]
  ·rw[List.length_set]; exact hnc
  ·simp only[List.size_toArray,List.length_append,List.length_take,List.length_drop,Array.length_toList,hvl]; omega
  ·rw[List.length_set,←htake];exact take_splice cur.toList _ (j*sz) sz (xs.length*sz) hvl hfit (by rw[Array.length_toList (xs:=cur),hcs]; exact hfit2)
  ·intro x hx;rcases List.mem_or_eq_of_mem_set hx with hx|hx
   ·exact hlen x hx
   ·subst hx; exact hel
end
end Go.AL
/- Code over abstract states; contracts of functions. -/
namespace Go.AL
class Facts (P:Program) (tab:outParam Tab):Prop where
  tabOk:BG P tab
  mixed:P.follows .mixedOrders=true
def IniOk (C:Cx) (I:List Id):Prop:=∀id,C.β0 id≠none→id∈I
structure AWP (P:Program) (n:Nat) (I:List Id) (c:Code) (Q:Exit→St→Prop) (s:St):Prop where
  out:∀(C:Cx) (a:Act) (w:World) (h:Hp) (β:Bt),IniOk C I→Base C n s a w h β→c.wp P (fun e a' w'=>∃s' h' β', Base C n s' a' w' h' β'∧Q e s') a w
def Ent (n:Nat) (I:List Id) (s s':St):Prop:=∀(C:Cx) (a:Act) (w:World) (h:Hp) (β:Bt),IniOk C I→Base C n s a w h β→∃h' β', Base C n s' a w h' β'
theorem AM (n:Nat) (I:List Id) (s:St):Ent n I s s:=fun _ _ _ h β _ k=>⟨h,β,k⟩
theorem Ent.trans {n:Nat} {I:List Id} {a b c:St} (h:Ent n I a b) (k:Ent n I b c):Ent n I a c:=fun C x w hp β hi q=>
 let ⟨h', β', q'⟩:=h C x w hp β hi q; k C x w h' β' hi q'
structure Dr where
  b:Bool
  J:Inv
structure Fl (P:Program) (n:Nat) (ops:Array Oper) (draw:Dr) (l:List Oper) (s:St) (acc:List Eff) (K:Exit→St→Prop):Prop where
  out:(∃Es s', Ch P n draw.J ops l s Es s'∧(draw.b=true→chk ops (acc.reverse++Es)=true)∧K .normal s') ∨
    (∃l1 o l2 Es s' E chain,l=l1++o::l2∧Ch P n draw.J ops l1 s Es s'∧(o.guard=none∨∃d b,C0 ops o=some (d,b)∧s'.env d = .v (.bool b))∧ThrJ P n draw.J o s' E chain∧(draw.b=true→chkT ops (acc.reverse++Es++[E])=true)∧(draw.b=true→∀s'', K (.panic chain) s'')∧(draw.b=false→K (.panic chain) (thrS E s')))
def AThen (K:St→Prop) (Q:Exit→St→Prop):Exit→St→Prop
  | .normal,s=>K s
  | e,s=>Q e s
def AIn (id:Nat) (Q:Exit→St→Prop):Exit→St→Prop
  | .exit id', s=>match Nat.beq id' id with|true=>Q .normal s|false=>Q (.exit id') s
  | e,s=>Q e s
structure LoopEnd {G:Type} (n:Nat) (I:List Id) (J:G→Prop) (S:G→St) (μ:G→Nat) (g:G) (s:St):Prop where
  out:∃g', J g'∧μ g'<μ g∧Ent n I s (S g')
theorem LoopEnd.of {G:Type} {n:Nat} {I:List Id} {J:G→Prop} {S:G→St} {μ:G→Nat} {g:G} {s:St} (g':G) (h1:J g') (h2:μ g'<μ g) (h3:Ent n I s (S g')):LoopEnd n I J S μ g s:=⟨g', h1,h2,h3⟩
def LoopQ {G:Type} (n:Nat) (I:List Id) (J:G→Prop) (S:G→St) (μ:G→Nat) (g:G) (Q:Exit→St→Prop):Exit→St→Prop
  | .normal,s=>LoopEnd n I J S μ g s
  | e,s=>Q e s
section
variable {P:Program} {tab:Tab} {n:Nat} {I:List Id} {Q:Exit→St→Prop} {s:St}
theorem AY {c:Code} {s':St} (he:Ent n I s s') (h:AWP P n I c Q s'):AWP P n I c Q s:=
 ⟨fun C a w hp β hi k=>let ⟨h', β', k'⟩:=he C a w hp β hi k; h.out C a w h' β' hi k'⟩
theorem AWP.mono {c:Code} {Q':Exit→St→Prop} (h:AWP P n I c Q s) (hq:∀e s,Q e s→Q' e s):AWP P n I c Q' s:=
 ⟨fun C a w hp β hi k=>wp_mono (h.out C a w hp β hi k) fun e a w ⟨s', h', β', b,q⟩=>⟨s', h', β', b,hq e s' q⟩⟩
theorem AWP.seq {c d:Code} (h:AWP P n I c (AThen (fun s=>AWP P n I d Q s) Q) s):AWP P n I (.seq c d) Q s:=
 ⟨fun C a w hp β hi k=>wp_seq (wp_mono (h.out C a w hp β hi k) fun e a w ⟨s', h', β', b,q⟩=>by
  cases e with
  | normal=>exact q.out C a w h' β' hi b
  | _=>exact⟨s', h', β', b,q⟩)⟩
theorem AWP.skip (h:Q .normal s):AWP P n I .skip Q s:=⟨fun _ _ _ hp β _ k=>wp_skip ⟨s,hp,β,k,h⟩⟩
theorem AWP.ret (h:Q .ret s):AWP P n I .ret Q s:=⟨fun _ _ _ hp β _ k=>wp_ret ⟨s,hp,β,k,h⟩⟩
theorem AWP.exit {id:Nat} (h:Q (.exit id) s):AWP P n I (.exit id) Q s:=⟨fun _ _ _ hp β _ k=>wp_exit ⟨s,hp,β,k,h⟩⟩
theorem AWP.block {id:Nat} {c:Code} (h:AWP P n I c (AIn id Q) s):AWP P n I (.block id c) Q s:=
 ⟨fun C a w hp β hi k=>wp_block (wp_mono (h.out C a w hp β hi k) fun e a w ⟨s', h', β', b,q⟩=>by
  cases e with
  | exit id'=>
   simp only[Exit.inBlock];by_cases he:id'=id
   ·subst he;rw[if_pos rfl];simp only[AIn,Nat.beq_refl]at q;exact⟨s', h', β', b,q⟩
   ·rw[if_neg he];simp only[AIn,Ak he]at q;exact⟨s', h', β', b,q⟩
  | _=>exact⟨s', h', β', b,q⟩)⟩
theorem eval_bool {C:Cx} {a:Act} {w:World} {h:Hp} {β:Bt} {c:Operand} {b:Bool} (k:Base C n s a w h β) (hc:opd s c = .v (.bool b)):a.eval c = .bool b:=by
 have:=AK k c;rw[hc]at this;simpa only[Rep]using this
theorem AJ {c:Operand} {x y:Code} (hc:opd s c = .v (.bool true)) (h:AWP P n I x Q s):AWP P n I (.cond c x y) Q s:=
 ⟨fun C a w hp β hi k=>wp_cond_true (eval_bool k hc) (h.out C a w hp β hi k)⟩
theorem AF {c:Operand} {x y:Code} (hc:opd s c = .v (.bool false)) (h:AWP P n I y Q s):AWP P n I (.cond c x y) Q s:=
 ⟨fun C a w hp β hi k=>wp_cond_false (eval_bool k hc) (h.out C a w hp β hi k)⟩
theorem BQ {c:Operand} {x y:Code} {b:Bool} (hc:opd s c = .v (.bool b)) (ht:b=true→AWP P n I x Q s) (hf:b=false→AWP P n I y Q s):AWP P n I (.cond c x y) Q s:=
 ⟨fun C a w hp β hi k=>wp_cond_split (eval_bool k hc) (fun e=>(ht e).out C a w hp β hi k) (fun e=>(hf e).out C a w hp β hi k)⟩
theorem AD {c:Operand} {x y:Code} {p:Prop} [Decidable p] (hc:opd s c = .v (.bool (decide p))) (ht:p→AWP P n I x Q s) (hf:¬p→AWP P n I y Q s):AWP P n I (.cond c x y) Q s:=
 BQ hc (fun e=>ht (of_decide_eq_true e)) (fun e=>hf (of_decide_eq_false e))
theorem AQ {c:Operand} {x y:Code} {p:Prop} [Decidable p] (hc:opd s c = .v (.bool (!decide p))) (ht:¬p→AWP P n I x Q s) (hf:p→AWP P n I y Q s):AWP P n I (.cond c x y) Q s:=
 BQ hc (fun e=>ht (of_decide_eq_false (by simpa using e))) (fun e=>hf (of_decide_eq_true (by simpa using e)))
theorem AWP.loop {c:Code} {G:Type} (J:G→Prop) (S:G→St) (μ:G→Nat) (g0:G) (hj:J g0) (he:Ent n I s (S g0)) (round:∀g,J g→AWP P n I c (LoopQ n I J S μ g Q) (S g)):AWP P n I (.loop c) Q s:=
 ⟨fun C a w hp β hi k=>by
  refine wp_loop_ghost (fun m a w=>∃g h β,J g∧μ g=m∧Base C n (S g) a w h β) (μ g0) ?_ ?_
  ·obtain⟨h', β', k'⟩:=he C a w hp β hi k;exact⟨g0,h', β', hj,rfl,k'⟩
  ·intro m a w ⟨g,h,β,hg,hm,k⟩;refine wp_mono ((round g hg).out C a w h β hi k) fun e a w ⟨s', h', β', b,q⟩=>?_
   cases e with
   | normal=>
    obtain⟨g', h1,h2,h3⟩:=q.out;obtain⟨h2', β2,b2⟩:=h3 C a w h' β' hi b;exact⟨μ g', hm▸h2,g', h2', β2,h1,rfl,b2⟩
   | _=>exact⟨s', h', β', b,q⟩⟩
/-! ### Regions -/
theorem Base.drew {C:Cx} {a:Act} {w:World} {h:Hp} {β:Bt} (k:Base C n s a w h β):Base C n s a { w with drawn:=w.drawn+1 } h β:=
 k.step ⟨rfl,rfl,⟨rfl,Nat.le_succ _⟩,Nat.le_refl _,fun _ _ _=>rfl,Ac h,fun _ hb => .inl hb,k.evo.has⟩
theorem Cu [f:Facts P tab] {id:Nat} {ops:Array Oper} {draw:Bool} (J:Inv) (hJ:InvJ J s) (h:Fl P n ops ⟨draw,J⟩ ops.toList s [] Q):AWP P n I (.region id ops draw) Q s:=by
 have hno:∀(l:List Oper) (Es:List Eff) (i:Nat) (s:St),AU (fun i=>(Array.replicate ops.size false).getD i false) i l Es s=s:=by
  intro l Es i s;refine appAll_none _ l Es i s fun k _=>?_;by_cases hk:k<ops.size<;>simp[Array.getD_eq_getD_getElem?,hk]
 have hclo:Closed ops (fun i=>(Array.replicate ops.size false).getD i false):=by
  intro j o hj hd;have:j<ops.size:=(Array.getElem?_eq_some_iff.1 hj).1;simp[Array.getD_eq_getD_getElem?,this]at hd
 have hcnt:cnt ops.size (fun i=>(Array.replicate ops.size false).getD i false)≤ops.size:=by
  have:∀(m:Nat) (D:Nat→Bool),cnt m D≤m:=by
   intro m D
   induction m with
   | zero=>simp[cnt]
   | succ m ih=>simp only[cnt]; cases D m<;>simp<;>omega
  exact this _ _
 rcases h.out with⟨Es,s', hch,hck,hQ⟩|⟨l1,o,l2,Es,s', E,chain,hl,hch,hg,hthr,hck,hQt,hQf⟩
 ·refine⟨fun C a w hp β hi k=>?_⟩
  cases draw with
  | false=>
   refine wp_region ?_;have:=wp_seq_ops (C:=C) (Q:=fun e a' w'=>∃s' h' β', Base C n s' a' w' h' β'∧Q e s') hch [] hJ (List.range ops.size) a w hp β (by simp) (fun j i o h1 h2=>?_) k (fun a w h β _ b=>⟨s', h,β,b,hQ⟩)
   ·rwa [List.append_nil]at this
   ·have hji:j=i∧j<ops.size:=by
     rw[List.getElem?_range]at h1
     ·injection h1 with h1; exact⟨h1,by
       have:=(List.getElem?_eq_some_iff.1 h2).1
       simpa using this⟩
     ·have:=(List.getElem?_eq_some_iff.1 h2).1;simpa using this
    rw[←hji.1]; simpa using h2
  | true=>
   refine wp_region_any f.mixed (any_sound (C:=C) (s':=s') hJ hch (by simpa using hck rfl) (fun a w h β b=>⟨s', h,β,b,hQ⟩) ops.size _ a _ hp β (by simp) hclo hcnt ?_);rw[hno];exact k.drew
 ·have hps:ops[l1.length]? = some o:=by
   have:ops.toList[l1.length]? = some o:=by rw[hl,List.getElem?_append_right (Nat.le_refl _),Nat.sub_self]; rfl
   simpa using this
  have hlt:l1.length<ops.size:=(Array.getElem?_eq_some_iff.1 hps).1;refine⟨fun C a w hp β hi k=>?_⟩
  cases draw with
  | false=>
   refine wp_region ?_
   have hr:List.range ops.size=List.range l1.length++(List.range' l1.length (ops.size-l1.length)):=by
    rw[List.range_eq_range', List.range_eq_range'];have h1:List.range' 0 l1.length++List.range' (0+l1.length) (ops.size-l1.length)=List.range' 0 (l1.length+(ops.size-l1.length)):=List.range'_append_1;rw[Nat.zero_add,Nat.add_sub_cancel' (Nat.le_of_lt hlt)]at h1;exact h1.symm
   rw[hr];refine wp_seq_ops (C:=C) hch _ hJ (List.range l1.length) a w hp β (by simp) (fun j i o h1 h2=>?_) k (fun a w h β hJ' b=>?_)
   ·have hj:j<l1.length:=(List.getElem?_eq_some_iff.1 h2).1;rw[List.getElem?_range hj]at h1;injection h1 with h1;subst h1
    have:ops.toList[j]? = some o:=by rw[hl,List.getElem?_append_left hj]; exact h2
    simpa using this
   ·have:List.range' l1.length (ops.size-l1.length)=l1.length::List.range' (l1.length+1) (ops.size-l1.length-1):=by
     rw[show ops.size-l1.length=(ops.size-l1.length-1)+1 by omega,List.range'_succ]; simp
    rw[this];simp only[wpOps,hps]
    rw[if_pos (by
     rcases hg with hg|⟨d,b', hg,hsb⟩
     ·simp[Region.wanted,hg]
     ·rw[C6 b hg hsb]; simp)]
    left;exact hthr C _ a w h β _ _ hJ' (fun _ _=>rfl) (fun _ _=>rfl) b (fun w' h' β' k'=>⟨_,h', β', k', hQf rfl⟩)
  | true=>
   have hl1:ops.toList.take l1.length=l1:=by rw[hl,List.take_left]
   refine wp_region_any f.mixed (any_thr (C:=C) (s':=s') hJ (by rw[hl1]; exact hch) hps hg hthr (by simpa using hck rfl) (fun a w s'' h β b=>⟨s'', h,β,b,hQt rfl s''⟩) ops.size _ a _ hp β (by simp) hclo hcnt ?_ ?_)
   ·simp[Array.getD_eq_getD_getElem?,hlt]
   ·rw[hno];exact k.drew
theorem AWP.region [f:Facts P tab] {id:Nat} {ops:Array Oper} {draw:Bool} (h:Fl P n ops ⟨draw,[]⟩ ops.toList s [] Q):AWP P n I (.region id ops draw) Q s:=Cu [] (InvJ.nil _) h
variable {ops:Array Oper} {draw:Dr} {o:Oper} {l:List Oper} {acc:List Eff} {K:Exit→St→Prop}
theorem Fl.nil (hc:draw.b=true→chk ops acc.reverse=true) (h:K .normal s):Fl P n ops draw [] s acc K:=⟨.inl ⟨[],s,.nil s,by simpa using hc,h⟩⟩
theorem Fl.nilF {J:Inv} (h:K .normal s):Fl P n ops ⟨false,J⟩ [] s acc K:=Fl.nil (fun h=>by cases h) h
def gOk (ops:Array Oper) (s:St) (o:Oper):Bool:=
  match o.guard with
  | none=>true
  | some _=>match C0 ops o with
    | some (d,b)=>match s.env d,b with
      | .v (.bool true),true=>true
      | .v (.bool false),false=>true
      | _,_=>false
    | none=>false
def gNo (ops:Array Oper) (s:St) (o:Oper):Bool:=
  match o.guard with
  | none=>false
  | some _=>match C0 ops o with
    | some (d,b)=>offV (s.env d) b
    | none=>false
def EJ (new:List Id) (al:Id→Bool):Bool:=
  match new with
  | []=>true
  | b::r=>match al b with|true=>false|false=>EJ r al
theorem newOk_all:∀(new:List Id) (al:Id→Bool),EJ new al=true→∀id∈new,al id=false
 | [],_,_,id,h=>by cases h
 | b::r,al,h,id,hm=>by
  simp only[EJ]at h;split at h
  ·cases h
  ·rename_i hb;rcases List.mem_cons.1 hm with rfl|hm
   ·exact hb
   ·exact newOk_all r al h id hm
theorem Fl.opI {E:Eff} (hg:gOk ops s o=true) (hj:OpI P n draw.J o s E) (hn:EJ E.new s.al=true) (hp:PresJ draw.J E) (r:Fl P n ops draw l (E.app o.dst s) (E::acc) K):Fl P n ops draw (o::l) s acc K:=by
 have hn:=newOk_all _ _ hn
 have step:∀ {l':List Oper} {Es:List Eff} {s':St},Ch P n draw.J ops l' (E.app o.dst s) Es s'→Ch P n draw.J ops (o::l') s (E::Es) s':=by
  intro l' Es s' h1;unfold gOk at hg;split at hg
  ·rename_i hgn; exact .op hgn hj hn hp h1
  ·split at hg
   ·rename_i d b hs;split at hg
    ·rename_i he; exact .guarded hs he hj hn hp h1
    ·rename_i he; exact .guarded hs he hj hn hp h1
    ·cases hg
   ·cases hg
 rcases r.out with⟨Es,s', h1,h2,h3⟩|⟨l1,o1,l2,Es,s', E1,chain,hl,h1,hg1,ht,h2,h3⟩
 ·exact⟨.inl ⟨E::Es,s', step h1,fun hd=>by simpa using h2 hd,h3⟩⟩
 ·exact⟨.inr ⟨o::l1,o1,l2,E::Es,s', E1,chain,by rw[hl]; rfl,step h1,hg1,ht,fun hd=>by simpa using h2 hd,h3⟩⟩
theorem Fl.op {E:Eff} (hg:gOk ops s o=true) (hj:OpJ P n o s E) (hn:EJ E.new s.al=true) (hp:BH draw.J E) (r:Fl P n ops draw l (E.app o.dst s) (E::acc) K):Fl P n ops draw (o::l) s acc K:=
 Fl.opI hg hj.toI hn (PresJ.of hp) r
theorem Af {v:AV} {tb:List Id} (hg:gOk ops s o=true) (hj:OpJ P n o s ⟨v,[],[],[],tb⟩) (r:Fl P n ops draw l ((Eff.mk v [] [] [] tb).app o.dst s) (Eff.mk v [] [] [] tb::acc) K):Fl P n ops draw (o::l) s acc K:=
 Fl.opI hg hj.toI rfl (PresJ.val _ _ _) r
theorem Fl.no (hg:gNo ops s o=true) (hd:∀d,o.dst=some d→d<n) (r:Fl P n ops draw l (skipE.app o.dst s) (skipE::acc) K):Fl P n ops draw (o::l) s acc K:=by
 have step:∀ {l':List Oper} {Es:List Eff} {s':St},Ch P n draw.J ops l' (skipE.app o.dst s) Es s'→Ch P n draw.J ops (o::l') s (skipE::Es) s':=by
  intro l' Es s' h1;unfold gNo at hg;split at hg
  ·cases hg
  ·split at hg
   ·rename_i d b hs;exact .skip hs hg hd h1
   ·cases hg
 rcases r.out with⟨Es,s', h1,h2,h3⟩|⟨l1,o1,l2,Es,s', E1,chain,hl,h1,hg1,ht,h2,h3⟩
 ·exact⟨.inl ⟨skipE::Es,s', step h1,fun hd=>by simpa using h2 hd,h3⟩⟩
 ·exact⟨.inr ⟨o::l1,o1,l2,skipE::Es,s', E1,chain,by rw[hl]; rfl,step h1,hg1,ht,fun hd=>by simpa using h2 hd,h3⟩⟩
theorem Fl.thr {E:Eff} {chain:List PanicEntry} (hg:gOk ops s o=true) (ht:ThrJ P n draw.J o s E chain) (hc:draw.b=true→chkT ops (acc.reverse++[E])=true) (hK:∀s'', K (.panic chain) s''):Fl P n ops draw (o::l) s acc K:=by
 refine⟨.inr ⟨[],o,l,[],s,E,chain,rfl,.nil s,?_,ht,fun hd=>by simpa using hc hd,fun _=>hK,fun _=>hK _⟩⟩;unfold gOk at hg;split at hg
 ·rename_i hgn; exact .inl hgn
 ·split at hg
  ·rename_i d b hs;split at hg
   ·rename_i he; exact .inr ⟨d,_,hs,he⟩
   ·rename_i he; exact .inr ⟨d,_,hs,he⟩
   ·cases hg
  ·cases hg
theorem st_put_self (s:St) (d:Tmp) (v:AV) (h:s.env d=v):(⟨putE s.env (some d) v,s.bx,s.al⟩:St)=s:=by
 have:putE s.env (some d) v=s.env:=by
  funext i;by_cases hi:i=d
  ·subst hi; rw[Bd,h]
  ·rw[Bi _ _ _ _ (by intro e; injection e with e; exact hi e.symm)]
 rw[this]
theorem En {d:Tmp} {b e:Bool} (hg:C0 ops o=some (d,b)) (hs:s.env d = .v (.bool e)) (ht:e=true→Fl P n ops draw (o::l) ⟨putE s.env (some d) (.v (.bool true)),s.bx,s.al⟩ acc K)
  (hf:e=false→Fl P n ops draw (o::l) ⟨putE s.env (some d) (.v (.bool false)),s.bx,s.al⟩ acc K):Fl P n ops draw (o::l) s acc K:=by
 cases e with
 | true=>have:=ht rfl; rwa [st_put_self s d _ hs]at this
 | false=>have:=hf rfl; rwa [st_put_self s d _ hs]at this
theorem AG {d:Tmp} {b:Bool} {p:Prop} [Decidable p] (hg:C0 ops o=some (d,b)) (hs:s.env d = .v (.bool (decide p))) (ht:p→Fl P n ops draw (o::l) ⟨putE s.env (some d) (.v (.bool true)),s.bx,s.al⟩ acc K)
  (hf:¬p→Fl P n ops draw (o::l) ⟨putE s.env (some d) (.v (.bool false)),s.bx,s.al⟩ acc K):Fl P n ops draw (o::l) s acc K:=
 En hg hs (fun e=>ht (of_decide_eq_true e)) (fun e=>hf (of_decide_eq_false e))
theorem Ap {d:Tmp} {b:Bool} {p:Prop} [Decidable p] (hg:C0 ops o=some (d,b)) (hs:s.env d = .v (.bool (!decide p))) (ht:¬p→Fl P n ops draw (o::l) ⟨putE s.env (some d) (.v (.bool true)),s.bx,s.al⟩ acc K)
  (hf:p→Fl P n ops draw (o::l) ⟨putE s.env (some d) (.v (.bool false)),s.bx,s.al⟩ acc K):Fl P n ops draw (o::l) s acc K:=
 En hg hs (fun e=>ht (of_decide_eq_false (by simpa using e))) (fun e=>hf (of_decide_eq_true (by simpa using e)))
/-! ### The rules, one an operation -/
def dOk (n:Nat):Option Tmp→Bool
  | none=>true
  | some d=>Nat.blt d n
theorem Aa {d:Option Tmp} (h:dOk n d=true):∀t,d=some t→t<n:=by
 intro t ht;subst ht;exact Nat.le_of_ble_eq_true h
def opVF (tab:Tab) (s:St) (op:Op):Option (AV×List Id):=
  match Aw tab s op with
  | some v=>forceK v fun v'=>match opTb s op with
    | []=>some (v', [])
    | b::r=>some (v', b::r)
  | none=>none
theorem opVF_eq {tab:Tab} {s:St} {op:Op} {v:AV} {tb:List Id} (h:opVF tab s op=some (v,tb)):Aw tab s op=some v∧opTb s op=tb:=by
 unfold opVF at h;split at h
 ·rename_i v0 hv;rw[forceK_eq]at h;split at h
  ·rename_i ht; injection h with h; injection h with h1 h2; subst h1 h2; exact⟨hv,ht⟩
  ·rename_i ht; injection h with h; injection h with h1 h2; subst h1 h2; exact⟨hv,ht⟩
 ·cases h
theorem Fl.v [f:Facts P tab] {v:AV} {tb:List Id} (hg:gOk ops s o=true) (hd:dOk n o.dst=true) (hv:opVF tab s o.op=some (v,tb)) (r:Fl P n ops draw l ((Eff.mk v [] [] [] tb).app o.dst s) (Eff.mk v [] [] [] tb::acc) K):Fl P n ops draw (o::l) s acc K:=by
 obtain⟨h1,h2⟩:=opVF_eq hv;subst h2;exact Af hg (OpJ.of_val f.tabOk (Aa hd) h1) r
/-! ### Contracts -/
def initE:List AV→Nat→AV
  | [],_ => .any
  | a::_,0=>a
  | _::az,i+1=>initE az i
def Dn (args:List AV):St:=⟨initE args,fun _=>none,fun _=>false⟩
def resL (tab:Tab) (s:St):List ResultVar→Option (List AV)
  | []=>some []
  | .tmp t::r=>match resL tab s r with
    | some vs=>some (s.env t::vs)
    | none=>none
  | .cell a t::r=>match loadV tab s t (s.env a),resL tab s r with
    | some v,some vs=>some (v::vs)
    | _,_=>none
def resA (tab:Tab) (s:St) (rs:List ResultVar):Option AV:=
  match resL tab s rs with
  | some [v]=>some v
  | some vs=>some (.tup vs)
  | none=>none
structure RetOk (n:Nat) (tab:Tab) (rs:List ResultVar) (r:AV) (s:St):Prop where
  out:∃s' r', Ent n [] s s'∧resA tab s' rs=some r'∧r'.closed=true∧r'.Le r
def RetQ (n:Nat) (tab:Tab) (rs:List ResultVar) (r:AV):Exit→St→Prop
  | .normal,s=>RetOk n tab rs r s
  | .ret,s=>RetOk n tab rs r s
  | _,_=>False
theorem Ao {rs:List ResultVar} {r:AV} {s s':St} (h:Ent n [] s s') (k:RetOk n tab rs r s'):RetOk n tab rs r s:=
 let ⟨s2,r', h1,h2⟩:=k.out; ⟨s2,r', h.trans h1,h2⟩
def resC (tab:Tab) (s:St) (rs:List ResultVar):Option AV:=
  match resA tab s rs with
  | some r=>forceK r fun r=>match r.closed with
    | true=>some r
    | false=>none
  | none=>none
theorem RetOk.of {rs:List ResultVar} {r r':AV} (h1:resC tab s rs=some r') (h3:r'.Le r):RetOk n tab rs r s:=by
 unfold resC at h1;split at h1
 ·rename_i r0 h0;rw[forceK_eq]at h1;split at h1
  ·rename_i hc;injection h1 with h1; subst h1;exact⟨s,r0,AM _ _ _,h0,hc,h3⟩
  ·cases h1
 ·cases h1
theorem Ez [f:Facts P tab] {fn:Func} {C:Cx} {a:Act} {w:World} {h:Hp} {β:Bt} (k:Base C n s a w h β) {r:AV} (hr:resA tab s fn.results.toList=some r):∃v,(results fn a.tmps).run P w = .ok v w∧Rep h β r v:=by
 have hl:∀(rs:List ResultVar) (vs:List AV),resL tab s rs=some vs→∃us:List Value,(rs.mapM (fun | .tmp t=>pure (a.tmps.getD t undef) | .cell x t=>do loadVar t (←asAddr (a.tmps.getD x undef)):ResultVar→Sem Value)).run P w = .ok us w∧RepL h β vs us:=by
  intro rs
  induction rs with
  | nil=>intro vs hv; simp only[resL,Option.some.injEq]at hv; subst hv; exact⟨[],by simp,RepL.nil⟩
  | cons x rs ih=>
   intro vs hv
   cases x with
   | tmp t=>
    simp only[resL]at hv;split at hv
    ·rename_i vs' hvs;injection hv with hv; subst hv;obtain⟨us,h1,h2⟩:=ih vs' hvs;exact⟨a.tmps.getD t undef::us,by simp only[List.mapM_cons,Sem.run_bind,Sem.run_pure,Result.andThen,h1],RepL.cons (k.slot t) h2⟩
    ·cases hv
   | cell x t=>
    simp only[resL]at hv;split at hv
    ·rename_i v vs' hlv hvs;injection hv with hv; subst hv;obtain⟨us,h1,h2⟩:=ih vs' hvs;obtain⟨u,hu1,hu2⟩:=val_run f.tabOk k (o:=⟨none,.load t (.tmp x),0,"", #[],none⟩) (v:=v) (by simpa[Aw,opd]using hlv);refine⟨u::us,?_,RepL.cons hu2 h2⟩
     have hload:(do loadVar t (←asAddr (a.tmps.getD x undef)):Sem Value).run P w = .ok u w:=by
      have hp:=k.slot x;simp only[execOp,Instr.loadAt,Act.eval]at hu1;unfold loadV at hlv;split at hlv
      ·rename_i b off he;rw[he]at hp; simp only[Rep]at hp;obtain⟨g,_,hp⟩:=hp;rw[hp]at hu1 ⊢;simp only[Instr.sureAddr,asAddr,Sem.run_bind,Sem.run_pure,Result.andThen]at hu1 ⊢
       cases hq:(loadVar t ⟨g,off,none⟩).run P w with
       | ok u' w'=>rw[hq]at hu1; simp at hu1; rw[hu1.1,hu1.2]
       | halt x w'=>rw[hq]at hu1; simp at hu1
      ·rename_i cs he;rw[he]at hp; simp only[Rep]at hp;obtain⟨ad,us', hp,_⟩:=hp;rw[hp]at hu1 ⊢;simp only[Instr.sureAddr,asAddr,Sem.run_bind,Sem.run_pure,Result.andThen]at hu1 ⊢
       cases hq:(loadVar t ad).run P w with
       | ok u' w'=>rw[hq]at hu1; simp at hu1; rw[hu1.1,hu1.2]
       | halt x w'=>rw[hq]at hu1; simp at hu1
      ·cases hlv
     simp only[List.mapM_cons,Sem.run_bind,Result.andThen,Sem.run_pure]at hload ⊢;rw[hload];simp only[h1]
    ·cases hv
 unfold resA at hr
 have key:∀(vs:List AV),resL tab s fn.results.toList=some vs→∃us:List Value,(fn.results.mapM (fun | .tmp t=>pure (a.tmps.getD t undef) | .cell x t=>do loadVar t (←asAddr (a.tmps.getD x undef)):ResultVar→Sem Value)).run P w = .ok us.toArray w∧RepL h β vs us:=by
  intro vs hv;obtain⟨us,h1,h2⟩:=hl _ vs hv;refine⟨us,?_,h2⟩;rw[Array.mapM_eq_mapM_toList,←bind_pure_comp,Sem.run_bind,h1];rfl
 have he:results fn a.tmps=((fn.results.mapM (fun | .tmp t=>pure (a.tmps.getD t undef) | .cell x t=>do loadVar t (←asAddr (a.tmps.getD x undef)):ResultVar→Sem Value)) >>= fun vs=>pure (if h:vs.size=1 then vs[0]else .tuple vs)):=rfl;split at hr
 ·rename_i v hv;injection hr with hr; subst hr;obtain⟨us,h1,h2⟩:=key _ hv;simp only[RepL]at h2;obtain⟨u,r', rfl,h3,rfl⟩:=h2;refine⟨u,?_,h3⟩;rw[he,Sem.run_bind,h1];rfl
 ·rename_i vs hne hv;injection hr with hr; subst hr;obtain⟨us,h1,h2⟩:=key _ hv
  have hlen:us.length≠1:=by
   intro h1';rw[h2.length]at h1'
   match vs,h1', hne with
   | [v],_,hne=>exact hne v rfl
  refine⟨.tuple us.toArray,?_,by simp only[Rep]; exact⟨_,rfl,by simpa using h2⟩⟩;rw[he,Sem.run_bind,h1];simp only[Result.andThen,Sem.run_pure];rw[dif_neg (by simpa using hlen)]
 ·cases hr
theorem AC [f:Facts P tab] {k:FuncId} {fn:Func} {c:Code} {args:List AV} {r:AV} (hf:P.funcs[k]? = some fn) (hb:fn.body=some c) (hn:fn.ntmps=n) (hname:(fn.name == "runtime.NumGoroutine")=false) (hl:Nat.ble args.length n=true)
  (h:AWP P n [] c (RetQ n tab fn.results.toList r) (Dn args)):PureFn P k args r:=by
 have hl:=Nat.le_of_ble_eq_true hl;refine⟨⟨fn,hf,hname,by rw[hb]; rfl⟩,fun w hp us hw hr=>?_⟩;refine calls_of_wp hf hb ?_
 have hus:us.size=args.length:=by rw[←Array.length_toList]; exact hr.length
 have hbase:Base ⟨w,hp,noB,D4,[]⟩ n (Dn args) { tmps:=us++Array.replicate (fn.ntmps-us.size) undef,defers:=[] } w hp noB:=by
  refine⟨Evo.refl _ hw,AW _,fun i=>?_,fun id B hB=>by simp[Dn]at hB,fun _ _ _ _ hB=>by simp[Dn]at hB,fun _ _ _ hB=>by simp[Dn]at hB,fun _ _=>rfl,by simp; omega,rfl⟩;simp only[Dn];by_cases hi:i<us.size
  ·have hget:(us++Array.replicate (fn.ntmps-us.size) undef).getD i undef=us[i]:=by
    simp[Array.getD_eq_getD_getElem?,Array.getElem?_append,hi]
   rw[hget]
   have:∀(az:List AV) (vs:List Value) (i:Nat) (v:Value),RepL hp noB az vs→vs[i]? = some v→Rep hp noB (initE az i) v:=by
    intro az
    induction az with
    | nil=>intro vs i v hr hv; simp only[RepL]at hr; subst hr; simp at hv
    | cons a az ih=>
     intro vs i v hr hv;simp only[RepL]at hr;obtain⟨u,r', rfl,h1,h2⟩:=hr
     cases i with
     | zero=>simp at hv; subst hv; exact h1
     | succ i=>exact ih r' i v h2 (by simpa using hv)
   exact this args us.toList i _ hr (by simp[hi])
  ·have:∀(az:List AV) (i:Nat),az.length≤i→initE az i = .any:=by
    intro az
    induction az with
    | nil=>intro i _; rfl
    | cons a az ih=>intro i hi; cases i with
     | zero=>simp at hi
     | succ i=>exact ih i (by simpa using hi)
   rw[this args i (by omega)];simp only[Rep]
 refine wp_mono (h.out ⟨w,hp,noB,D4,[]⟩ _ w hp noB (fun id hid=>(hid rfl).elim) hbase) fun e a' w' ⟨s', h', β', b,q⟩=>?_
 have fin:RetOk n tab fn.results.toList r s'→a'.defers=[]∧∃v,(results fn a'.tmps).run P w' = .ok v w'∧∃u h', Ending.returned v = .returned u∧Evo D4 w hp w' h'∧Rep h' noB r u:=by
  intro hq;obtain⟨s2,r', hent,h1,h2,h3⟩:=hq.out;obtain⟨h', β', b⟩:=hent _ _ _ _ _ (fun id hid=>(hid rfl).elim) b;obtain⟨v,hv1,hv2⟩:=Ez (P:=P) b h1;exact⟨b.defers,v,hv1,v,h', rfl,b.evo,h3 _ _ _ (hv2.closed _ _ h2)⟩
 cases e with
 | normal=>exact fin q
 | ret=>exact fin q
 | _=>exact q.elim
end
end Go.AL
/- States given by lists; freezing; the rules of operations ready for use. -/
namespace Go.AL
def lookE:List (Nat×AV)→Nat→AV
  | [],_ => .any
  | (j,v)::r,i=>match Nat.beq i j with|true=>v|false=>lookE r i
def Au:List (Id×Bx)→Id→Option Bx
  | [],_=>none
  | (j,v)::r,i=>match Nat.beq i j with|true=>some v|false=>Au r i
def memI (l:List Nat) (i:Nat):Bool:=
  match l with
  | []=>false
  | j::r=>match Nat.beq i j with|true=>true|false=>memI r i
theorem AZ:∀(l:List Nat) (i:Nat),memI l i=true↔i∈l
 | [],i=>by simp[memI]
 | j::r,i=>by
  by_cases h:i=j
  ·subst h; simp[memI]
  ·simp only[memI,Ak h,AZ r i,List.mem_cons,h,false_or]
def AO (I:List Id) (env:List (Nat×AV)) (bx:List (Id×Bx)):St:=⟨lookE env,Au bx,fun id=>memI (bx.map (·.1)) id||memI I id⟩
mutual
def AV.within (ids:List Id):AV→Bool
  | .agg cs=>BE ids cs
  | .tup cs=>BE ids cs
  | .ptr b _=>memI ids b
  | .row b=>memI ids b
  | .rptr b _=>memI ids b
  | .mp b=>memI ids b
  | .sub b _ _=>memI ids b
  | .fn _ caps=>BE ids caps
  | .v _=>true
  | .sl _ _ _=>true
  | .cptr _=>true
  | .any=>true
def BE (ids:List Id):List AV→Bool
  | []=>true
  | c::cs=>c.within ids&&BE ids cs
end
def renI (σ:List (Id×Id)) (i:Id):Id:=
  match σ with
  | []=>i
  | (a,b)::r=>match Nat.beq i a with|true=>b|false=>renI r i
def Bx.within (ids:List Id):Bx→Bool
  | .cells cs _=>BE ids cs
  | .row _ _ _ _=>true
  | .map _ _ _ _=>true
  | .iter m _ _ _=>memI ids m
inductive BLe (σ:Id→Id):Bx→Bx→Prop
  | cells {cs cs':List AV} {t:TypeId} (h:LeL cs (renL σ cs')):BLe σ (.cells cs t) (.cells cs' t)
  | row {α:Type} {sz:Nat} {enc:α→List AV} {xs ys:List α} {t:TypeId} (h:xs=ys):BLe σ (.row sz enc xs t) (.row sz enc ys t)
  | map {κ α:Type} {ek:κ→Value} {av:α→AV} {xs ys:List (κ×α×Nat)} {c c':Nat} (h:xs=ys) (hc:c=c'):BLe σ (.map ek av xs c) (.map ek av ys c')
  | iter {m m':Id} {a a':Nat} {l l':List Nat} {b b':Nat} (hm:m=σ m') (ha:a=a') (hl:l=l') (hb:b=b'):BLe σ (.iter m a l b) (.iter m' a' l' b')
def EnvOk (σ:Id→Id) (ids:List Id) (s:St):List (Nat×AV)→Prop
  | []=>True
  | (i,v)::r=>((s.env i).Le (v.ren σ)∧v.within ids=true)∧EnvOk σ ids s r
def CN (σ:Id→Id) (ids:List Id) (s:St):List (Id×Bx)→Prop
  | []=>True
  | (b,B)::r=>((∃B0,s.bx (σ b)=some B0∧BLe σ B0 B)∧B.within ids=true)∧CN σ ids s r
def Ah (σ:Id→Id):List Id→Bool
  | []=>true
  | b::r=>(r.all fun c => !Nat.beq (σ b) (σ c))&&Ah σ r
mutual
theorem Rep.within {h:Hp} {σ:Id→Id} {ids:List Id}:∀ {β β':Bt} (_:∀id v,id∈ids→β (σ id)=some v→β' id=some v) (c:AV) (u:Value),c.within ids=true→Rep h β (c.ren σ) u→Rep h β' c u
 | _,_,_,.v x,u,_,k=>by simpa[Rep,AV.ren]using k
 | _,_,hb,.agg cs,u,hc,k=>by
  simp only[Rep,AV.ren]at k ⊢;simp only[AV.within]at hc;obtain⟨us,rfl,k⟩:=k;exact⟨us,rfl,RepL.within hb cs _ hc k⟩
 | _,_,hb,.tup cs,u,hc,k=>by
  simp only[Rep,AV.ren]at k ⊢;simp only[AV.within]at hc;obtain⟨us,rfl,k⟩:=k;exact⟨us,rfl,RepL.within hb cs _ hc k⟩
 | _,_,_,.sl sz enc xs,u,_,k=>by simp only[Rep,AV.ren]at k ⊢; exact k
 | _,_,_,.cptr cs,u,_,k=>by simp only[Rep,AV.ren]at k ⊢; exact k
 | _,_,hb,.ptr b off,u,hc,k=>by
  simp only[Rep,AV.ren]at k ⊢;simp only[AV.within,AZ]at hc;obtain⟨g,e,rfl⟩:=k;exact⟨g,hb _ _ hc e,rfl⟩
 | _,_,hb,.row b,u,hc,k=>by
  simp only[Rep,AV.ren]at k ⊢;simp only[AV.within,AZ]at hc;exact⟨hb _ _ hc k.1,k.2⟩
 | _,_,hb,.rptr b i,u,hc,k=>by
  simp only[Rep,AV.ren]at k ⊢;simp only[AV.within,AZ]at hc;obtain⟨g,n,c,e,rfl⟩:=k;exact⟨g,n,c,hb _ _ hc e,rfl⟩
 | _,_,hb,.mp b,u,hc,k=>by
  simp only[Rep,AV.ren]at k ⊢;simp only[AV.within,AZ]at hc;obtain⟨g,e,rfl⟩:=k;exact⟨g,hb _ _ hc e,rfl⟩
 | _,_,hb,.sub b off len,u,hc,k=>by
  simp only[Rep,AV.ren]at k ⊢;simp only[AV.within,AZ]at hc;obtain⟨g,n,c,c', e,rfl⟩:=k;exact⟨g,n,c,c', hb _ _ hc e,rfl⟩
 | _,_,hb,.fn f caps,u,hc,k=>by
  simp only[Rep,AV.ren]at k ⊢;simp only[AV.within]at hc;obtain⟨us,rfl,k⟩:=k;exact⟨us,rfl,RepL.within hb caps _ hc k⟩
 | _,_,_,.any,u,_,_=>by simp only[Rep]
theorem RepL.within {h:Hp} {σ:Id→Id} {ids:List Id}:∀ {β β':Bt} (_:∀id v,id∈ids→β (σ id)=some v→β' id=some v) (cs:List AV) (us:List Value),BE ids cs=true→RepL h β (renL σ cs) us→RepL h β' cs us
 | _,_,_,[],us,_,k=>by simpa[RepL,renL]using k
 | _,_,hb,c::cs,us,hc,k=>by
  simp only[RepL,renL]at k ⊢;simp only[BE,Bool.and_eq_true]at hc;obtain⟨u,r,rfl,k1,k2⟩:=k;exact⟨u,r,rfl,Rep.within hb c u hc.1 k1,RepL.within hb cs r hc.2 k2⟩
end
theorem Az {σ:Id→Id} {ids:List Id} {s:St}:∀(bx:List (Id×Bx)),CN σ ids s bx→∀b B,Au bx b=some B→(∃B0,s.bx (σ b)=some B0∧BLe σ B0 B)∧B.within ids=true∧b∈bx.map (·.1)
 | [],_,b,B,h=>by simp[Au]at h
 | (j,v)::r,ho,b,B,h=>by
  simp only[CN]at ho;by_cases hb:b=j
  ·subst hb;simp only[Au,Nat.beq_refl,Option.some.injEq]at h;subst h;exact⟨ho.1.1,ho.1.2,by simp⟩
  ·simp only[Au,Ak hb]at h;obtain⟨h1,h2,h3⟩:=Az r ho.2 b B h;exact⟨h1,h2,by simp at h3 ⊢; exact .inr h3⟩
theorem lookE_ok {σ:Id→Id} {ids:List Id} {s:St}:∀(env:List (Nat×AV)),EnvOk σ ids s env→∀i,lookE env i = .any∨((s.env i).Le ((lookE env i).ren σ)∧(lookE env i).within ids=true)
 | [],_,i => .inl rfl
 | (j,v)::r,ho,i=>by
  simp only[EnvOk]at ho;by_cases hb:i=j
  ·subst hb;simp only[lookE,Nat.beq_refl];exact .inr ho.1
  ·simp only[lookE,Ak hb];exact lookE_ok r ho.2 i
theorem DR {σ:Id→Id}:∀(l:List Id),Ah σ l=true→∀x y,x∈l→y∈l→x≠y→σ x≠σ y
 | [],_,x,_,hx,_,_=>by cases hx
 | b::r,hd,x,y,hx,hy,hne=>by
  simp only[Ah,Bool.and_eq_true,List.all_eq_true,Bool.not_eq_true']at hd
  have nb:∀z∈r,σ b≠σ z:=fun z hz e=>by have:=hd.1 z hz; rw[e]at this; simp at this
  rcases List.mem_cons.1 hx with e1|hx2
  ·rcases List.mem_cons.1 hy with e2|hy2
   ·exact(hne (e1.trans e2.symm)).elim
   ·rw[e1]; exact nb y hy2
  ·rcases List.mem_cons.1 hy with e2|hy2
   ·rw[e2]; exact fun e=>nb x hx2 e.symm
   ·exact DR r hd.2 x y hx2 hy2 hne
theorem Ent.of {n:Nat} {I:List Id} {s:St} (σ:List (Id×Id)) {env:List (Nat×AV)} {bx:List (Id×Bx)} (he:EnvOk (renI σ) (bx.map (·.1)++I) s env) (hb:CN (renI σ) (bx.map (·.1)++I) s bx) (hd:Ah (renI σ) (bx.map (·.1))=true)
  (hI:(I.all fun id=>Nat.beq (renI σ id) id)=true):Ent n I s (AO I env bx):=by
 intro C a w h β hi k
 let β':Bt:=fun id=>match (memI (bx.map (·.1)) id||memI I id)with|true=>β (renI σ id)|false=>none
 have hβ:∀id v,id∈bx.map (·.1)++I→β (renI σ id)=some v→β' id=some v:=by
  intro id v hm hv
  have:(memI (bx.map (·.1)) id||memI I id)=true:=by
   rw[Bool.or_eq_true,AZ,AZ]; exact List.mem_append.1 hm
  show(match (memI (bx.map (·.1)) id||memI I id)with|true=>β (renI σ id)|false=>none)=some v;rw[this]; exact hv
 have hβ2:∀id v,β' id=some v→β (renI σ id)=some v:=by
  intro id v hv;show β (renI σ id)=some v;simp only[β']at hv;split at hv
  ·exact hv
  ·cases hv
 refine⟨h,β', k.evo,fun id v hv=>?_,fun i=>?_,fun b B hB=>?_,fun x y B1 B2 h1 h2 hne g e1 e2=>?_,fun x B1 g hx hg=>?_,fun id hid=>?_,k.size,k.defers⟩
 ·have hm:=hi id (by simp[hv])
  have:renI σ id=id:=by
   rw[List.all_eq_true]at hI;exact Nat.eq_of_beq_eq_true (hI id hm)
  exact hβ id v (by simp[hm]) (by rw[this]; exact k.b0 _ _ hv)
 ·rcases lookE_ok env he i with hx|⟨h1,h2⟩
  ·show Rep h β' (lookE env i) _;rw[hx]; simp only[Rep]
  ·exact Rep.within hβ _ _ h2 (h1 _ _ _ (k.slot i))
 ·obtain⟨⟨B0,h1,h2⟩,h3,h4⟩:=Az bx hb b B hB;have hbox:=k.box _ _ h1
  cases h2 with
  | @cells cs cs' t hle=>
   obtain⟨g,us,e,hh,hr,hn⟩:=hbox;exact⟨g,us,hβ b _ (by simp only[List.mem_append]; exact .inl h4) e,hh,RepL.within hβ cs' _ h3 (hle _ _ _ hr),hn⟩
  | @row α sz enc xs ys t hxs=>
   subst hxs;obtain⟨v,vals,e,r⟩:=hbox;exact⟨v,vals,hβ b _ (by simp only[List.mem_append]; exact .inl h4) e,r⟩
  | @map κ α ek av xs ys c c' hxs hc=>
   subst hxs hc;obtain⟨g,es,e,r⟩:=hbox;exact⟨g,es,hβ b _ (by simp only[List.mem_append]; exact .inl h4) e,r⟩
  | @iter m m' a a' l l' c c' hm ha hl hb'=>
   subst hm ha hl hb';obtain⟨r,g,e,em,hr⟩:=hbox;simp only[Bx.within,AZ]at h3;exact⟨r,g,hβ b _ (by simp only[List.mem_append]; exact .inl h4) e,hβ m' _ h3 em,hr⟩
 ·obtain⟨⟨B3,h3,_⟩,_,m1⟩:=Az bx hb x B1 h1;obtain⟨⟨B4,h4,_⟩,_,m2⟩:=Az bx hb y B2 h2
  have hb1:∀id g,blk (β' id)=some g→blk (β (renI σ id))=some g:=by
   intro id g hg
   cases hq:β' id with
   | none=>rw[hq]at hg; simp[blk]at hg
   | some v=>rw[hβ2 id v hq,←hq]; exact hg
  exact k.apart _ _ B3 B4 h3 h4 (DR _ hd x y m1 m2 hne) g (hb1 x g e1) (hb1 y g e2)
 ·obtain⟨⟨B3,h3,_⟩,_,m1⟩:=Az bx hb x B1 hx;refine k.own _ B3 g h3 ?_
  cases hq:β' x with
  | none=>rw[hq]at hg; simp[blk]at hg
  | some v=>rw[hβ2 x v hq,←hq]; exact hg
 ·show(match (memI (bx.map (·.1)) id||memI I id)with|true=>β (renI σ id)|false=>none)=none;have:(memI (bx.map (·.1)) id||memI I id)=false:=hid;rw[this]
/-! ### Freezing -/
mutual
def AV.fz (b:Id) (v:AV):AV→AV
  | .agg cs => .agg (fzL b v cs)
  | .tup cs => .tup (fzL b v cs)
  | .row c=>match Nat.beq c b with|true=>v|false => .row c
  | .rptr c i=>match Nat.beq c b with|true => .any|false => .rptr c i
  | .fn f caps => .fn f (fzL b v caps)
  | .v x => .v x
  | .sl sz enc xs => .sl sz enc xs
  | .cptr cs => .cptr cs
  | .ptr c o => .ptr c o
  | .mp c => .mp c
  | .sub c off len=>match Nat.beq c b with|true => .any|false => .sub c off len
  | .any => .any
def fzL (b:Id) (v:AV):List AV→List AV
  | []=>[]
  | c::cs=>AV.fz b v c::fzL b v cs
end
mutual
theorem Rep.fz {h h':Hp} {β:Bt} {b:Id} {v:AV} (hl:h.le h') (hv:∀u,β b=some u→(∃A n c,u = .slice A n c)→Rep h' β v u):∀(c:AV) (u:Value),Rep h β c u→Rep h' β (AV.fz b v c) u
 | .v x,u,k=>by simpa[Rep,AV.fz]using k
 | .agg cs,u,k=>by
  simp only[Rep,AV.fz]at k ⊢;obtain⟨us,rfl,k⟩:=k;exact⟨us,rfl,RepL.fz hl hv cs _ k⟩
 | .tup cs,u,k=>by
  simp only[Rep,AV.fz]at k ⊢;obtain⟨us,rfl,k⟩:=k;exact⟨us,rfl,RepL.fz hl hv cs _ k⟩
 | .sl sz enc xs,u,k=>by simp only[AV.fz]; exact Rep.mono hl (AW β) _ _ k
 | .cptr cs,u,k=>by simp only[AV.fz]; exact Rep.mono hl (AW β) _ _ k
 | .ptr c o,u,k=>by simp only[AV.fz]; exact Rep.mono hl (AW β) _ _ k
 | .mp c,u,k=>by simp only[AV.fz]; exact Rep.mono hl (AW β) _ _ k
 | .sub c off len,u,k=>by
  simp only[AV.fz];by_cases hc:c=b
  ·subst hc;simp only[Nat.beq_refl,Rep]
  ·simp only[Ak hc];exact Rep.mono hl (AW β) _ _ k
 | .row c,u,k=>by
  simp only[AV.fz];by_cases hc:c=b
  ·subst hc;simp only[Nat.beq_refl];simp only[Rep]at k;exact hv u k.1 k.2
  ·simp only[Ak hc];exact Rep.mono hl (AW β) _ _ k
 | .rptr c i,u,k=>by
  simp only[AV.fz];by_cases hc:c=b
  ·subst hc;simp only[Nat.beq_refl,Rep]
  ·simp only[Ak hc];exact Rep.mono hl (AW β) _ _ k
 | .fn f caps,u,k=>by
  simp only[Rep,AV.fz]at k ⊢;obtain⟨us,rfl,k⟩:=k;exact⟨us,rfl,RepL.fz hl hv caps _ k⟩
 | .any,u,k=>by simp only[AV.fz,Rep]
theorem RepL.fz {h h':Hp} {β:Bt} {b:Id} {v:AV} (hl:h.le h') (hv:∀u,β b=some u→(∃A n c,u = .slice A n c)→Rep h' β v u):∀(cs:List AV) (us:List Value),RepL h β cs us→RepL h' β (fzL b v cs) us
 | [],us,k=>by simpa[RepL,fzL]using k
 | c::cs,us,k=>by
  simp only[RepL,fzL]at k ⊢;obtain⟨u,r,rfl,k1,k2⟩:=k;exact⟨u,r,rfl,Rep.fz hl hv c u k1,RepL.fz hl hv cs r k2⟩
end
def Bx.fz (b:Id) (v:AV):Bx→Bx
  | .cells cs t => .cells (fzL b v cs) t
  | .row sz enc xs t => .row sz enc xs t
  | .map ek av xs c => .map ek av xs c
  | .iter m a l c => .iter m a l c
def fzB (b:Id) (v:AV) (bx:Id→Option Bx):Id→Option Bx:=fun id=>
  match Nat.beq id b with
  | true=>none
  | false=>match bx id with
    | some B=>some (B.fz b v)
    | none=>none
def St.fz (s:St) (b:Id) (v:AV):St:=⟨fun i=>AV.fz b v (s.env i),fzB b v s.bx,s.al⟩
theorem Ent.freeze {n:Nat} {I:List Id} {s:St} (b:Id) {α:Type} {sz:Nat} {enc:α→List AV} {xs:List α} {t:TypeId} (hb:s.bx b=some (.row sz enc xs t)):Ent n I s (s.fz b (.sl sz enc xs)):=by
 intro C a w h β hi k;obtain⟨v,vals,e1,ho,hr,hlen,hnone⟩:=k.box b _ hb
 have hbx:∀x Bx', (s.fz b (.sl sz enc xs)).bx x=some Bx'→x≠b∧∃B0,s.bx x=some B0∧Bx'=B0.fz b (.sl sz enc xs):=by
  intro x Bx' hx;simp only[St.fz,fzB]at hx;by_cases he:x=b
  ·subst he; simp at hx
  ·simp only[Ak he]at hx;split at hx
   ·rename_i B0 hB0; injection hx with hx; exact⟨he,B0,hB0,hx.symm⟩
   ·cases hx
 -- the fixed memory, grown by the row's block
 have hgrow:∃h', Evo D4 w h w h'∨True:=⟨h,.inr trivial⟩
 have key:∃h', h.le h'∧Has w h'∧(∀g,h' g≠none→h g≠none∨v.ownBlock=some g)∧Rep h' noB (.sl sz enc xs) v:=by
  rcases ho.2 with⟨hv,hn⟩|⟨g,cap,cur,hv,_,hg,hnc,hmx,hcs,htake⟩
  ·have hx:xs=[]:=List.eq_nil_of_length_eq_zero hn;subst hx;refine⟨h,Ac h,k.evo.has,fun g hg => .inl hg,?_⟩;rw[hv];exact AV.Le.nil sz enc h noB _ (by simp only[Rep])
  ·have hgn:h g=none:=hnone g (by simp[hv,Value.ownBlock])
   have hle:h.le (h.set g cur):=fun b cs hb'=>by
    by_cases he:b=g
    ·subst he; rw[hgn]at hb'; cases hb'
    ·rw[Hp.set_ne _ _ _ _ he]; exact hb'
   refine⟨h.set g cur,hle,fun b cs hb'=>?_,fun b hb'=>?_,?_⟩
   ·by_cases he:b=g
    ·subst he; rw[Hp.set_same]at hb'; injection hb' with hb'; subst hb'; exact⟨t,(0,0),hg⟩
    ·rw[Hp.set_ne _ _ _ _ he]at hb'; exact k.evo.has b cs hb'
   ·by_cases he:b=g
    ·subst he; exact .inr (by simp[hv,Value.ownBlock])
    ·rw[Hp.set_ne _ _ _ _ he]at hb'; exact .inl hb'
   ·subst hv;simp only[Rep];refine⟨some ⟨g,0,none⟩,cap,rfl,hnc,hmx,fun i x hx=>?_⟩;obtain⟨hr1,hr2⟩:=flat_at xs vals i x hlen (hr.mono hle (AW _)) hx;refine⟨⟨g,0,none⟩,_,rfl,by rw[hr1.length]; exact hlen x (List.mem_of_getElem? hx),hr1,fun j u hu=>?_⟩
    have hadd:(⟨g,0,none⟩:Addr).add (i*sz+j)=⟨g,i*sz+j,none⟩:=by unfold Addr.add; split<;>simp_all
    rw[hadd];refine⟨rfl,cur,Hp.set_same _ _ _,?_⟩;rw[List.getElem?_take]at hu;split at hu
    ·rw[List.getElem?_drop,←htake,List.getElem?_take]at hu;split at hu
     ·simpa using hu
     ·cases hu
    ·cases hu
 obtain⟨h', hle,hhas,hfr,hrep⟩:=key
 have hvb:∀u,β b=some u→(∃A n c,u = .slice A n c)→Rep h' β (.sl sz enc xs) u:=by
  intro u hu _;rw[e1]at hu; injection hu with hu; subst hu;exact hrep.mono (Ac _) (E6 β)
 have hown:∀g,v.ownBlock=some g→blk (β b)=some g:=fun g hg=>by rw[e1]; exact(FM ho g).2 hg
 refine⟨h', β,⟨k.evo.os,k.evo.tape,k.evo.output,k.evo.size,k.evo.block,k.evo.le.trans hle,fun g hg=>?_,hhas⟩,k.b0,fun i=>Rep.fz hle hvb _ _ (k.slot i),fun x Bx' hx=>?_,fun x y B1 B2 h1 h2 hne=>?_,fun x B1 g hx hg=>?_,k.dom,k.size,k.defers⟩
 ·rcases hfr g hg with h1|h1
  ·exact k.evo.fresh g h1
  ·rcases k.own b _ g hb (hown g h1)with h2|h2
   ·exact .inr (.inr h2)
   ·exact .inr (.inl h2)
 ·obtain⟨hne,B0,h1,rfl⟩:=hbx x Bx' hx
  have hn':∀g,blk (β x)=some g→h' g=none:=by
   intro g hg
   cases hh:h' g with
   | none=>rfl
   | some cs=>
    rcases hfr g (by simp[hh])with h2|h2
    ·exact absurd (k.blk_lt h1 hg).2 h2
    ·exact absurd (hown g h2) (k.apart x b B0 _ h1 hb hne g hg)
  have hkeep:=(k.box x B0 h1).keep (w':=w) hle (AW β) fun g hg=>⟨rfl,hn' g hg⟩
  cases B0 with
  | cells cs t'=>
   obtain⟨g,us,e,hh,hr', hn⟩:=k.box x _ h1;exact⟨g,us,e,hh,RepL.fz hle hvb _ _ hr', hn' g (by simp[e,blk])⟩
  | row sz' enc' xs' t'=>exact hkeep
  | map _ _ _ _=>exact hkeep
  | iter _ _ _ _=>exact hkeep
 ·obtain⟨_,B3,h3,_⟩:=hbx x B1 h1;obtain⟨_,B4,h4,_⟩:=hbx y B2 h2;exact k.apart x y B3 B4 h3 h4 hne
 ·obtain⟨_,B3,h3,_⟩:=hbx x B1 hx;exact k.own x B3 g h3 hg
theorem BV {n:Nat} {I:List Id} {s:St} (d:Tmp) (b:Id) (hs:s.env d = .v (.slice none 0 0)) (hal:s.al b=false) {α:Type} (sz:Nat) (enc:α→List AV) (t:TypeId) :
  Ent n I s ((Eff.mk (.row b) [(b,.row sz enc ([]:List α) t)] [] [b] []).app (some d) s):=by
 intro C a w h β hi k
 have hu:a.tmps.getD d undef = .slice none 0 0:=by
  have:=k.slot d;rw[hs]at this;simpa only[Rep]using this
 have hd:d<n:=by
  rcases Nat.lt_or_ge d n with h|h
  ·exact h
  ·have:a.tmps.getD d undef=undef:=by simp[Array.getD_eq_getD_getElem?,Array.getElem?_eq_none (show a.tmps.size≤d by rw[k.size]; exact h)]
   rw[this]at hu; simp[undef]at hu
 have hB:BoxAt w h (β.set b (.slice none 0 0)) b (.row sz enc ([]:List α) t):=
  ⟨_,[],Bt.set_same _ _ _,World.ownsRow_nil w 0 t sz,RepL.nil,(fun x hx=>by cases hx),(fun g hg=>by simp[Value.ownBlock]at hg)⟩
 have k1:=k.addbox hal (bv := .slice none 0 0) hB (fun g hg=>by simp[blk]at hg) (some d) (fun t ht=>by injection ht with ht; subst ht; exact hd) (v := .row b) (u := .slice none 0 0) (by simp only[Rep]; exact⟨Bt.set_same _ _ _,_,_,_,rfl⟩) []
 have ha:a.put (some d) (.slice none 0 0)=a:=by
  have hlt:d<a.tmps.size:=by rw[k.size]; exact hd
  cases a with
  | mk tm df=>
   simp only[Act.put];congr 1;apply Array.ext_getElem?;intro i;by_cases hi:i=d
   ·subst hi;simp only at hlt hu;rw[Array.getElem?_setIfInBounds_self_of_lt hlt];simp[Array.getD_eq_getD_getElem?,Array.getElem?_eq_getElem hlt]at hu;rw[Array.getElem?_eq_getElem hlt,hu]
   ·rw[Array.getElem?_setIfInBounds_ne (Ne.symm hi)]
 rw[ha]at k1;exact⟨h,_,k1⟩
end Go.AL
/- Numbers and their words: plain. -/
namespace Go.AL
def WOk (l:List Int):Prop:=∀x∈l,0≤x∧x<4294967296
theorem WOk.nil:WOk []:=fun x hx=>by cases hx
theorem WOk.cons {x:Int} {l:List Int} (h0:0≤x) (h1:x<4294967296) (h:WOk l):WOk (x::l):=fun y hy=>by
 rcases List.mem_cons.1 hy with rfl|hy
 ·exact⟨h0,h1⟩
 ·exact h y hy
theorem WOk.tail {x:Int} {l:List Int} (h:WOk (x::l)):WOk l:=fun y hy=>h y (by simp[hy])
theorem WOk.head {x:Int} {l:List Int} (h:WOk (x::l)):0≤x∧x<4294967296:=h x (by simp)
theorem WOk.append {l m:List Int} (h:WOk l) (k:WOk m):WOk (l++m):=fun y hy=>by
 rcases List.mem_append.1 hy with hy|hy
 ·exact h y hy
 ·exact k y hy
theorem WOk.take {l:List Int} (h:WOk l) (n:Nat):WOk (l.take n):=fun y hy=>h y (List.mem_of_mem_take hy)
theorem WOk.drop {l:List Int} (h:WOk l) (n:Nat):WOk (l.drop n):=fun y hy=>h y (List.mem_of_mem_drop hy)
theorem WOk.get {l:List Int} (h:WOk l) {i:Nat} {x:Int} (hx:l[i]? = some x):0≤x∧x<4294967296:=h x (List.mem_of_getElem? hx)
theorem WOk.zeros (n:Nat):WOk (List.replicate n 0):=fun y hy=>by rw[List.eq_of_mem_replicate hy]; omega
theorem WOk.set {l:List Int} (h:WOk l) (i:Nat) {x:Int} (h0:0≤x) (h1:x<4294967296):WOk (l.set i x):=fun y hy=>by
 rcases List.mem_or_eq_of_mem_set hy with hy|rfl
 ·exact h y hy
 ·exact⟨h0,h1⟩
def val:List Int→Int
  | []=>0
  | x::l=>x+4294967296*val l
def BB (n:Nat):Int:=4294967296^n
theorem CK:BB 0=1:=rfl
theorem Ax (n:Nat):BB (n+1)=4294967296*BB n:=by unfold BB; rw[Int.pow_succ]; omega
theorem A6 (n:Nat):0<BB n:=by unfold BB; exact Int.pow_pos (by omega)
theorem BB_add (m n:Nat):BB (m+n)=BB m*BB n:=by unfold BB; rw[Int.pow_add]
theorem C4 {m n:Nat} (h:m≤n):BB m≤BB n:=by
 obtain⟨k,rfl⟩:=Nat.exists_eq_add_of_le h;rw[BB_add];have h1:=A6 m;have h2:=A6 k;have:BB m*1≤BB m*BB k:=Int.mul_le_mul_of_nonneg_left (by omega) (by omega);omega
theorem Al:∀ {l:List Int},WOk l→0≤val l
 | [],_=>by simp[val]
 | x::l,h=>by have:=Al h.tail; have:=h.head; simp only[val]; omega
theorem Dv:∀(l m:List Int),val (l++m)=val l+BB l.length*val m
 | [],m=>by simp[val,BB]
 | x::l,m=>by
  simp only[List.cons_append,val,Dv l m,List.length_cons,Ax];grind
theorem Cd (l:List Int) (x:Int):val (l++[x])=val l+BB l.length*x:=by rw[Dv]; simp[val]
theorem DU:∀ {l:List Int},WOk l→val l<BB l.length
 | [],_=>by simp[val,BB]
 | x::l,h=>by
  have h1:=DU h.tail;have h2:=h.head;simp only[val,List.length_cons,Ax];omega
theorem val_zeros:∀n:Nat,val (List.replicate n 0)=0
 | 0=>rfl
 | n+1=>by rw[List.replicate_succ]; simp only[val,val_zeros n]; omega
def BA:List Int→List Int
  | []=>[]
  | x::xs=>match BA xs with
    | []=>if x=0 then[]else[x]
    | y::ys=>x::y::ys
theorem EE:∀xs:List Int,BA (xs++[0])=BA xs
 | []=>by simp[BA]
 | x::xs=>by simp only[List.cons_append,BA,EE xs]
theorem trimL_snoc {y:Int} (hy:y≠0):∀xs:List Int,BA (xs++[y])=xs++[y]
 | []=>by simp[BA,hy]
 | x::xs=>by
  simp only[List.cons_append,BA,trimL_snoc hy xs]
  cases xs<;>simp
theorem Dh:∀xs:List Int,(BA xs).length≤xs.length
 | []=>by simp[BA]
 | x::xs=>by
  have:=Dh xs;simp only[BA]
  cases h:BA xs with
  | nil=>simp only; split<;>simp
  | cons y ys=>rw[h]at this; simp at this ⊢; omega
theorem val_trimL:∀xs:List Int,val (BA xs)=val xs
 | []=>rfl
 | x::xs=>by
  have:=val_trimL xs;simp only[BA]
  cases h:BA xs with
  | nil=>
   rw[h]at this;simp only[val]at this ⊢;split<;>simp only[val]<;>omega
  | cons y ys=>rw[h]at this; simp only[val]at this ⊢; omega
theorem WOk.trimL:∀ {xs:List Int},WOk xs→WOk (BA xs)
  | [],h=>h
  | x :: xs, h=>by
    have:=WOk.trimL h.tail;simp only[AL.BA]
    cases h':AL.BA xs with
    | nil => simp only; split
             · exact WOk.nil
             · exact WOk.cons h.head.1 h.head.2 WOk.nil
    | cons y ys=>rw[h']at this; exact WOk.cons h.head.1 h.head.2 this
def toWN (n:Nat):List Int:=if n=0 then[]else((n % 4294967296:Nat):Int)::toWN (n/4294967296)
termination_by n
decreasing_by omega
def toW (z:Int):List Int:=toWN z.toNat
theorem toWN_zero:toWN 0=[]:=by unfold toWN; simp
theorem toWN_pos {n:Nat} (h:n≠0):toWN n=((n % 4294967296:Nat):Int)::toWN (n/4294967296):=by rw[toWN]; simp[h]
theorem toW_zero:toW 0=[]:=toWN_zero
theorem toW_cons {x z:Int} (hx0:0≤x) (hx1:x<4294967296) (hz:0≤z) (hne:x≠0∨z≠0):toW (x+4294967296*z)=x::toW z:=by
 unfold toW
 have hn:(x+4294967296*z).toNat≠0:=by omega
 rw[toWN_pos hn];congr 1
 ·omega
 ·congr 1; omega
theorem CQ:∀ {l:List Int},WOk l→BA l=toW (val l)
 | [],_=>by simp[BA,val,toW_zero]
 | x::l,h=>by
  have ih:=CQ h.tail;have hv:=Al h.tail;have hh:=h.head;have hval:val (BA l)=val l:=val_trimL l;simp only[BA,val]
  cases ht:BA l with
  | nil=>
   rw[ht]at hval;simp only[val]at hval;rw[←hval];simp only;split
   ·rename_i hx; subst hx; exact toW_zero.symm
   ·rename_i hx;rw[toW_cons hh.1 hh.2 (by omega) (.inl hx),toW_zero]
  | cons y ys=>
   simp only
   have hne:val l≠0:=by
    intro h0;rw[h0,toW_zero]at ih;rw[ih]at ht; cases ht
   rw[toW_cons hh.1 hh.2 hv (.inr hne),←ih,ht]
theorem toWN_props:∀n:Nat,WOk (toWN n)∧val (toWN n)=(n:Int):=by
 intro n
 induction n using Nat.strongRecOn with
 | _ n ih=>
  by_cases h:n=0
  ·subst h; rw[toWN_zero]; exact⟨WOk.nil,rfl⟩
  ·rw[toWN_pos h];obtain⟨h1,h2⟩:=ih (n/4294967296) (by omega);refine⟨WOk.cons (by omega) (by omega) h1,?_⟩;simp only[val,h2];omega
theorem Ag (z:Int):WOk (toW z):=(toWN_props _).1
theorem Ad {z:Int} (h:0≤z):val (toW z)=z:=by unfold toW; rw[(toWN_props _).2]; omega
theorem trim_toW (z:Int):BA (toW z)=toW z:=by
 rw[CQ (Ag z)];by_cases h:0≤z
 ·rw[Ad h]
 ·have:toW z=[]:=by unfold toW; rw[show z.toNat=0 by omega,toWN_zero]
  rw[this]; exact toW_zero
def NW (l:List Int):Prop:=WOk l∧BA l=l
theorem NW.eq {l:List Int} (h:NW l):l=toW (val l):=by rw[←CQ h.1,h.2]
theorem NW.toW (z:Int):NW (toW z):=⟨Ag z,trim_toW z⟩
theorem toW_inj {x y:Int} (hx:0≤x) (hy:0≤y) (h:toW x=toW y):x=y:=by rw[←Ad hx,←Ad hy,h]
theorem NW.last {l:List Int} {x:Int} (h:NW (l++[x])):x≠0:=by
 intro h0;subst h0;have:=h.2;rw[EE]at this;have hl:=Dh l;rw[this]at hl;simp at hl;omega
theorem toW_ne_nil {z:Int} (h:0<z):toW z≠[]:=by
 intro h0;have:=Ad (show 0≤z by omega);rw[h0]at this;simp[val]at this;omega
theorem BO {z:Int} (h:0≤z):toW z=[]↔z=0:=by
 constructor
 ·intro h0;have:=Ad h;rw[h0]at this;simpa[val]using this.symm
 ·rintro rfl; exact toW_zero
theorem BS {z:Int} (h:0≤z) (n:Nat):(toW z).length≤n↔z<BB n:=by
 constructor
 ·intro hl;have h1:=DU (Ag z);rw[Ad h]at h1;have:=C4 hl;omega
 ·intro hl;rcases Nat.lt_or_ge n (toW z).length with hgt|hle
  ·exfalso
   -- the last word is not 0
   have hne:toW z≠[]:=by intro h0; rw[h0]at hgt; simp at hgt
   obtain⟨l,x,he⟩:∃l x,toW z=l++[x]:=⟨_,_,(List.dropLast_concat_getLast hne).symm⟩;have hnw:=NW.toW z;rw[he]at hnw hgt;have hx:=hnw.last;have hx1:=hnw.1 x (by simp);have hv:=Ad h;rw[he,Cd]at hv;have hl0:=Al (l:=l) (fun y hy=>hnw.1 y (by simp[hy]));have:BB n≤BB l.length:=C4 (by simp at hgt; omega);have:BB l.length*1≤BB l.length*x:=Int.mul_le_mul_of_nonneg_left (by omega) (by have:=A6 l.length; omega);omega
  ·exact hle
theorem set_at {α:Type} (os rest:List α) (x y:α):(os++x::rest).set os.length y=(os++[y])++rest:=by
 induction os with
 | nil=>rfl
 | cons z os ih=>simp only[List.cons_append,List.length_cons,List.set_cons_succ,ih]
theorem Ab {α:Type} {l:List α} {i:Nat} {x:α} (hx:l[i]? = some x):l.take (i+1)=l.take i++[x]:=by
 rw[List.take_add_one,hx]; rfl
theorem val_nil:val []=0:=rfl
theorem BB_2:BB 2=18446744073709551616:=rfl
attribute [irreducible] BB toW val BA
end Go.AL

/- Part 2 of a proof layer and of the contracts of the functions. -/
import Derived.Laws.CopyRow
import Derived.Laws.IdiomCopy
import Derived.Laws.Cover3
import Derived.WideLaws
import Derived.Recover
import Derived.Defers
import Derived.Test.YtmmfloplhopioaaGreatProg
import Derived.Test.YtmmfloplhopioaaGreatW1
set_option linter.unusedVariables false
set_option linter.unusedSimpArgs false
/- The rules of operations, ready for use. The first premise tells the kind of the operation. -/
namespace Go.AL
section
variable {P:Program} {tab:Tab} {n:Nat} {s:St} {ops:Array Oper} {draw:Dr} {o:Oper} {l:List Oper} {acc:List Eff} {K:Exit→St→Prop}
theorem ltOf {d n:Nat} (h:Nat.blt d n=true):d<n:=Nat.le_of_ble_eq_true h
theorem E7 {d:Id} {al:Id→Bool} (h:al d=false):EJ [d] al=true:=by simp[EJ,h]
theorem Fl.bx {t:TypeId} {x:Operand} (hop:o.op = .box t x) (hg:gOk ops s o=true) {d:Tmp} (hdst:o.dst=some d) (hd:Nat.blt d n=true) {cs:List AV} (hc:D9 (opd s x)=some cs) (hn:s.al d=false)
  (r:Fl P n ops draw l ((Eff.mk (.ptr d 0) [(d,.cells cs t)] [] [d] []).app o.dst s) (Eff.mk (.ptr d 0) [(d,.cells cs t)] [] [d] []::acc) K) (hJ:BH draw.J (Eff.mk (.ptr d 0) [(d,.cells cs t)] [] [d] []):=by repeat'(first|exact True.intro|exact rfl|refine⟨?_,?_⟩|fail)):Fl P n ops draw (o::l) s acc K:=
 Fl.op hg (OpJ.box hdst (ltOf hd) hop hc) (E7 hn) hJ r
theorem Fl.al [f:Facts P tab] {t:TypeId} (hop:o.op = .alloc t) (hg:gOk ops s o=true) {d:Tmp} (hdst:o.dst=some d) (hd:Nat.blt d n=true) {i:TI} (hti:tab t=some i) (hn:s.al d=false)
  (r:Fl P n ops draw l ((Eff.mk (.ptr d 0) [(d,.cells (vL i.zero) t)] [] [d] []).app o.dst s) (Eff.mk (.ptr d 0) [(d,.cells (vL i.zero) t)] [] [d] []::acc) K) (hJ:BH draw.J (Eff.mk (.ptr d 0) [(d,.cells (vL i.zero) t)] [] [d] []):=by repeat'(first|exact True.intro|exact rfl|refine⟨?_,?_⟩|fail)):Fl P n ops draw (o::l) s acc K:=
 Fl.op hg (OpJ.alloc f.tabOk hdst (ltOf hd) hop hti) (E7 hn) hJ r
theorem Fl.st [f:Facts P tab] {t:TypeId} {x y:Operand} (hop:o.op = .store t x y) {b:Id} {off:Nat} (hx:opd s x = .ptr b off) (hg:gOk ops s o=true) (hdst:o.dst=none) {i:TI} (hti:tab t=some i)
  {cs vs:List AV} {bt:TypeId} (hb:s.bx b=some (.cells cs bt)) (hv:D9 (opd s y)=some vs) (hsz:Nat.beq vs.length i.size=true) (hoff:Nat.ble (off+vs.length) cs.length=true)
  (r:Fl P n ops draw l ((Eff.mk .any [(b,.cells (setL off vs cs) bt)] [] [] [b]).app o.dst s) (Eff.mk .any [(b,.cells (setL off vs cs) bt)] [] [] [b]::acc) K) (hJ:BH draw.J (Eff.mk .any [(b,.cells (setL off vs cs) bt)] [] [] [b]):=by repeat'(first|exact True.intro|exact rfl|refine⟨?_,?_⟩|fail)):Fl P n ops draw (o::l) s acc K:=
 Fl.op hg (OpJ.store f.tabOk hdst hop hx hti hb hv (Nat.eq_of_beq_eq_true hsz) hoff) rfl hJ r
theorem Fl.sum [Facts P tab] {op:BinOp} {t t':TypeId} {x y:Operand} (hop:o.op = .binOp op t x y t') {m m' c:Int} (hx:opd s x = .v (.int .i64 m)) (hy:opd s y = .v (.int .i64 m')) (hc:arithI op m m'=some c) (hg:gOk ops s o=true) (hd:dOk n o.dst=true)
  (h1 : -9223372036854775808≤c) (h2:c≤9223372036854775807)
  (r:Fl P n ops draw l ((Eff.mk (.v (.int .i64 c)) [] [] [] []).app o.dst s) (Eff.mk (.v (.int .i64 c)) [] [] [] []::acc) K):Fl P n ops draw (o::l) s acc K:=
 Af hg (DG (Aa hd) hop hx hy rfl hc h1 h2) r
theorem Fl.quo [Facts P tab] {t t':TypeId} {x y:Operand} (hop:o.op = .binOp .quo t x y t') {k k':IntKind} {m m':Int} (hx:opd s x = .v (.int k m)) (hy:opd s y = .v (.int k' m')) (hg:gOk ops s o=true) (hd:dOk n o.dst=true) (hk:D5 k k'=true)
  (h0:0≤m) (h1:0<m') (h2:m≤hiK k)
  (r:Fl P n ops draw l ((Eff.mk (.v (.int k (m/m'))) [] [] [] []).app o.dst s) (Eff.mk (.v (.int k (m/m'))) [] [] [] []::acc) K):Fl P n ops draw (o::l) s acc K:=
 Af hg (OpJ.quo (Aa hd) hop hx hy hk h0 h1 h2) r
theorem Fl.rem [Facts P tab] {t t':TypeId} {x y:Operand} (hop:o.op = .binOp .rem t x y t') {k k':IntKind} {m m':Int} (hx:opd s x = .v (.int k m)) (hy:opd s y = .v (.int k' m')) (hg:gOk ops s o=true) (hd:dOk n o.dst=true) (hk:D5 k k'=true)
  (h0:0≤m) (h1:0<m')
  (r:Fl P n ops draw l ((Eff.mk (.v (.int k (m % m'))) [] [] [] []).app o.dst s) (Eff.mk (.v (.int k (m % m'))) [] [] [] []::acc) K):Fl P n ops draw (o::l) s acc K:=
 Af hg (OpJ.rem (Aa hd) hop hx hy hk h0 h1) r
theorem Fl.shr [Facts P tab] {t t':TypeId} {x y:Operand} (hop:o.op = .binOp .shr t x y t') {k k':IntKind} {m m':Int} (hx:opd s x = .v (.int k m)) (hy:opd s y = .v (.int k' m')) (hg:gOk ops s o=true) (hd:dOk n o.dst=true)
  (h1:0≤m') (h2:m'≤k.bits)
  (r:Fl P n ops draw l ((Eff.mk (.v (.int k (m/2^m'.toNat))) [] [] [] []).app o.dst s) (Eff.mk (.v (.int k (m/2^m'.toNat))) [] [] [] []::acc) K):Fl P n ops draw (o::l) s acc K:=
 Af hg (OpJ.shr (Aa hd) hop hx hy h1 h2) r
theorem Fl.shl [Facts P tab] {t t':TypeId} {x y:Operand} (hop:o.op = .binOp .shl t x y t') {k k':IntKind} {m m':Int} (hx:opd s x = .v (.int k m)) (hu:isU k=true) (hy:opd s y = .v (.int k' m')) (hg:gOk ops s o=true) (hd:dOk n o.dst=true)
  (h1:0≤m') (h2:m'≤k.bits)
  (r:Fl P n ops draw l ((Eff.mk (.v (.int k ((m*2^m'.toNat) % uMod k))) [] [] [] []).app o.dst s) (Eff.mk (.v (.int k ((m*2^m'.toNat) % uMod k))) [] [] [] []::acc) K):Fl P n ops draw (o::l) s acc K:=
 Af hg (OpJ.shl (Aa hd) hop hx hy h1 h2 hu) r
theorem Fl.shlI [Facts P tab] {t t':TypeId} {x y:Operand} (hop:o.op = .binOp .shl t x y t') {k':IntKind} {m m':Int} (hx:opd s x = .v (.int .i64 m)) (hy:opd s y = .v (.int k' m')) (hg:gOk ops s o=true) (hd:dOk n o.dst=true)
  (h1:0≤m') (h2:m'≤64) (h3 : -9223372036854775808≤m*2^m'.toNat) (h4:m*2^m'.toNat≤9223372036854775807)
  (r:Fl P n ops draw l ((Eff.mk (.v (.int .i64 (m*2^m'.toNat))) [] [] [] []).app o.dst s) (Eff.mk (.v (.int .i64 (m*2^m'.toNat))) [] [] [] []::acc) K):Fl P n ops draw (o::l) s acc K:=
 Af hg (OpJ.shlI (Aa hd) hop hx hy h1 h2 h3 h4) r
theorem Fl.bits [Facts P tab] {op:BinOp} {t t':TypeId} {x y:Operand} (hop:o.op = .binOp op t x y t') {k k':IntKind} {m m' c:Int} (hx:opd s x = .v (.int k m)) (hy:opd s y = .v (.int k' m')) (hb:bitsV op k m m'=some c) (hg:gOk ops s o=true) (hd:dOk n o.dst=true) (hk:D5 k k'=true)
  (c':Int) (hc:c=c')
  (r:Fl P n ops draw l ((Eff.mk (.v (.int k c')) [] [] [] []).app o.dst s) (Eff.mk (.v (.int k c')) [] [] [] []::acc) K):Fl P n ops draw (o::l) s acc K:=
 Af hg (OpJ.bits (Aa hd) hop hx hy hk hb hc) r
theorem Fl.max2 {x y:Operand} {ts:Array TypeId} (hop:o.op = .call { callee := .builtin .max,args:=⟨[x,y]⟩,argTypes:=ts }) {k k':IntKind} {m m':Int} (hx:opd s x = .v (.int k m)) (hy:opd s y = .v (.int k' m')) (hg:gOk ops s o=true) (hd:dOk n o.dst=true)
  (r:Fl P n ops draw l ((Eff.mk (.v (.int k (if m'>m then m' else m))) [] [] [] []).app o.dst s) (Eff.mk (.v (.int k (if m'>m then m' else m))) [] [] [] []::acc) K):Fl P n ops draw (o::l) s acc K:=
 Af hg (OpJ.max2 (Aa hd) hop hx hy) r
theorem Fl.min2 {x y:Operand} {ts:Array TypeId} (hop:o.op = .call { callee := .builtin .min,args:=⟨[x,y]⟩,argTypes:=ts }) {k k':IntKind} {m m':Int} (hx:opd s x = .v (.int k m)) (hy:opd s y = .v (.int k' m')) (hg:gOk ops s o=true) (hd:dOk n o.dst=true)
  (r:Fl P n ops draw l ((Eff.mk (.v (.int k (if m'<m then m' else m))) [] [] [] []).app o.dst s) (Eff.mk (.v (.int k (if m'<m then m' else m))) [] [] [] []::acc) K):Fl P n ops draw (o::l) s acc K:=
 Af hg (OpJ.min2 (Aa hd) hop hx hy) r
theorem Ay [f:Facts P tab] {t:TypeId} {x y:Operand} (hop:o.op = .indexAddr t x y) {α:Type} {sz:Nat} {enc:α→List AV} {xs:List α} (hx:opd s x = .sl sz enc xs) {k:IntKind} {m:Int} (hy:opd s y = .v (.int k m)) {e:TypeId} {i:TI} {sz' by':Nat} {z:List Value} (hts:tab t=some ⟨.slice e,sz', by', z⟩) (hti:tab e=some i) (hsz:sz=i.size) (hg:gOk ops s o=true) (hd:dOk n o.dst=true)
  (h0:0≤m) (h1:m<xs.length)
  (r:∀e0,xs[m.toNat]? = some e0→Fl P n ops draw l ((Eff.mk (.cptr (enc e0)) [] [] [] []).app o.dst s) (Eff.mk (.cptr (enc e0)) [] [] [] []::acc) K):Fl P n ops draw (o::l) s acc K:=by
 subst hsz;have he:=List.getElem?_eq_getElem (l:=xs) (i:=m.toNat) (by omega);exact Af hg (OpJ.elem f.tabOk (Aa hd) hop hts hti hx hy h0 he) (r _ he)
theorem CJ [f:Facts P tab] {t:TypeId} {x y:Operand} (hop:o.op = .indexAddr t x y) {sz:Nat} {enc:Int→List AV} {xs:List Int} (hx:opd s x = .sl sz enc xs) {k:IntKind} {m:Int} (hy:opd s y = .v (.int k m)) {e:TypeId} {i:TI} {sz' by':Nat} {z:List Value} (hts:tab t=some ⟨.slice e,sz', by', z⟩) (hti:tab e=some i) (hsz:sz=i.size) (hg:gOk ops s o=true) (hd:dOk n o.dst=true)
  (h0:0≤m) (h1:m<xs.length) (hw:WOk xs)
  (r:∀e0,xs[m.toNat]? = some e0→0≤e0→e0<4294967296→Fl P n ops draw l ((Eff.mk (.cptr (enc e0)) [] [] [] []).app o.dst s) (Eff.mk (.cptr (enc e0)) [] [] [] []::acc) K):Fl P n ops draw (o::l) s acc K:=
 Ay hop hx hy hts hti hsz hg hd h0 h1 fun e0 he=>r e0 he (hw e0 (List.mem_of_getElem? he)).1 (hw e0 (List.mem_of_getElem? he)).2
theorem A8 [f:Facts P tab] {t:TypeId} {x y:Operand} (hop:o.op = .indexAddr t x y) {b:Id} (hx:opd s x = .row b) {k:IntKind} {m:Int} (hy:opd s y = .v (.int k m)) {e:TypeId} {i:TI} {sz' by':Nat} {z:List Value} (hts:tab t=some ⟨.slice e,sz', by', z⟩) (hti:tab e=some i) {α:Type} {sz:Nat} {enc:α→List AV} {xs:List α} {bt:TypeId} (hb:s.bx b=some (.row sz enc xs bt)) (hg:gOk ops s o=true) (hd:dOk n o.dst=true)
  (h0:0≤m) (h1:m<xs.length)
  (r:Fl P n ops draw l ((Eff.mk (.rptr b (m.toNat*i.size)) [] [] [] [b]).app o.dst s) (Eff.mk (.rptr b (m.toNat*i.size)) [] [] [] [b]::acc) K):Fl P n ops draw (o::l) s acc K:=
 Af hg (OpJ.relem f.tabOk (Aa hd) hop hts hti hx hb hy h0 h1) r
theorem Fl.rld [f:Facts P tab] {t:TypeId} {x:Operand} (hop:o.op = .load t x) {b:Id} {off:Nat} (hx:opd s x = .rptr b off) {α:Type} {sz:Nat} {enc:α→List AV} {xs:List α} {bt:TypeId} (hb:s.bx b=some (.row sz enc xs bt)) {i:TI} (hti:tab t=some i) (hg:gOk ops s o=true) (hd:dOk n o.dst=true)
  {j:Nat} (hj:off=j*sz) {v:α→AV} (hv:∀x0,BM (aggD i.desc) i.size (enc x0)=some (v x0)) (hvc:∀x0,(v x0).closed=true) (hlt:j<xs.length)
  (r:∀x0,xs[j]? = some x0→Fl P n ops draw l ((Eff.mk (v x0) [] [] [] [b]).app o.dst s) (Eff.mk (v x0) [] [] [] [b]::acc) K):Fl P n ops draw (o::l) s acc K:=
 Af hg (OpJ.rload f.tabOk (Aa hd) hop hx hb hti hj (List.getElem?_eq_getElem hlt) (hv _) (hvc _)) (r _ (List.getElem?_eq_getElem hlt))
theorem Bb [f:Facts P tab] {t:TypeId} {x y:Operand} (hop:o.op = .store t x y) {b:Id} {off:Nat} (hx:opd s x = .rptr b off) (hg:gOk ops s o=true) (hdst:o.dst=none) {α:Type} {sz:Nat} {enc:α→List AV} {xs:List α} {bt:TypeId} (hb:s.bx b=some (.row sz enc xs bt)) {i:TI} (hti:tab t=some i)
  {vs:List AV} (hv:D9 (opd s y)=some vs) (hvc:BN vs=true) (hsz:Nat.beq vs.length i.size=true) (hsz2:Nat.beq i.size sz=true) {j:Nat} (hj:off=j*sz) {x1:α} (hle:LeL vs (enc x1)) (hel:Nat.beq (enc x1).length sz=true) (hjl:j<xs.length)
  (r:Fl P n ops draw l ((Eff.mk .any [(b,.row sz enc (xs.set j x1) bt)] [] [] [b]).app o.dst s) (Eff.mk .any [(b,.row sz enc (xs.set j x1) bt)] [] [] [b]::acc) K) (hJ:BH draw.J (Eff.mk .any [(b,.row sz enc (xs.set j x1) bt)] [] [] [b]):=by repeat'(first|exact True.intro|exact rfl|refine⟨?_,?_⟩|fail)):Fl P n ops draw (o::l) s acc K:=
 Fl.op hg (OpJ.rstore f.tabOk hdst hop hx hb hti hj hjl hv hvc (Nat.eq_of_beq_eq_true hsz) (Nat.eq_of_beq_eq_true hsz2) hle (Nat.eq_of_beq_eq_true hel)) rfl hJ r
theorem Fl.ap [f:Facts P tab] {x y:Operand} {t:TypeId} (hop:o.op = .call { callee := .builtin .append,args:=⟨[x,y]⟩,argTypes:=⟨[t,t]⟩ }) {b:Id} (hx:opd s x = .row b) (hg:gOk ops s o=true) {d:Tmp} (hdst:o.dst=some d) (hd:Nat.blt d n=true) {e:TypeId} {i:TI} {sz' by':Nat} {z:List Value} (hts:tab t=some ⟨.slice e,sz', by', z⟩) (hti:tab e=some i) (hsz:Nat.blt 0 i.size=true)
  {α:Type} {sz:Nat} {enc:α→List AV} {xs ys:List α} {bt:TypeId} (hb:s.bx b=some (.row sz enc xs bt)) (hbt:Nat.beq bt e=true) (hsz2:sz=i.size) (hn:s.al d=false) (hyc:(opd s y).closed=true) (hone:∀y,BU (enc y)=true) (hel:∀y,(enc y).length=sz) (hy:(opd s y).Le (.sl sz enc ys))
  (hby:(xs.length+ys.length)*i.bytes≤140737488355328) (hm:xs.length+ys.length≤9223372036854775807)
  (r:Fl P n ops draw l ((Eff.mk (.row d) [(d,.row sz enc (xs++ys) bt)] [b] [d] [b]).app o.dst s) (Eff.mk (.row d) [(d,.row sz enc (xs++ys) bt)] [b] [d] [b]::acc) K) (hJ:BH draw.J (Eff.mk (.row d) [(d,.row sz enc (xs++ys) bt)] [b] [d] [b]):=by repeat'(first|exact True.intro|exact rfl|refine⟨?_,?_⟩|fail)):Fl P n ops draw (o::l) s acc K:=by
 subst hsz2;have hbt:=Nat.eq_of_beq_eq_true hbt;subst hbt;exact Fl.op hg (OpJ.append f.tabOk hdst (ltOf hd) hop hts hti hsz hx hb hy hyc hone hel hby hm) (E7 hn) hJ r
theorem qa [f:Facts P tab] {x y:Operand} {t:TypeId} (hop:o.op = .call { callee := .builtin .append,args:=⟨[x,y]⟩,argTypes:=⟨[t,t]⟩ }:=by exact rfl) {b:Id} (hx:opd s x = .row b:=by exact rfl) (hg:gOk ops s o=true:=by exact rfl) {d:Tmp} (hdst:o.dst=some d:=by exact rfl) (hd:Nat.blt d n=true:=by exact rfl) {e:TypeId} {i:TI} {sz' by':Nat} {z:List Value} (hts:tab t=some ⟨.slice e,sz', by', z⟩:=by exact rfl) (hti:tab e=some i:=by exact rfl) (hsz:Nat.blt 0 i.size=true:=by exact rfl) {α:Type} {sz:Nat} {enc:α→List AV} {xs ys:List α} {bt:TypeId} (hb:s.bx b=some (.row sz enc xs bt):=by exact rfl) (hbt:Nat.beq bt e=true:=by exact rfl) (hsz2:sz=i.size:=by exact rfl) (hn:s.al d=false:=by exact rfl) (hyc:(opd s y).closed=true:=by exact rfl) (hone:∀y,BU (enc y)=true:=by exact fun _=>rfl) (hel:∀y,(enc y).length=sz:=by exact fun _=>rfl) (hy:(opd s y).Le (.sl sz enc ys):=by exact AA _) (hby:(xs.length+ys.length)*i.bytes≤140737488355328) (hm:xs.length+ys.length≤9223372036854775807) (r:Fl P n ops draw l ((Eff.mk (.row d) [(d,.row sz enc (xs++ys) bt)] [b] [d] [b]).app o.dst s) (Eff.mk (.row d) [(d,.row sz enc (xs++ys) bt)] [b] [d] [b]::acc) K) (hJ:BH draw.J (Eff.mk (.row d) [(d,.row sz enc (xs++ys) bt)] [b] [d] [b]):=by repeat'(first|exact True.intro|exact rfl|refine⟨?_,?_⟩|fail))  : Fl P n ops draw (o::l) s acc K:=Fl.ap hop hx hg hdst hd hts hti hsz hb hbt hsz2 hn hyc hone hel hy hby hm r hJ
theorem Fl.ap0 [f:Facts P tab] {x y:Operand} {t:TypeId} (hop:o.op = .call { callee := .builtin .append,args:=⟨[x,y]⟩,argTypes:=⟨[t,t]⟩ }) (hx:opd s x = .v (.slice none 0 0)) (hg:gOk ops s o=true) {d:Tmp} (hdst:o.dst=some d) (hd:Nat.blt d n=true) {e:TypeId} {i:TI} {sz' by':Nat} {z:List Value} (hts:tab t=some ⟨.slice e,sz', by', z⟩) (hti:tab e=some i) (hsz:Nat.blt 0 i.size=true)
  {α:Type} (enc:α→List AV) {ys:List α} (hn:s.al d=false) (hyc:(opd s y).closed=true) (hone:∀y,BU (enc y)=true) (hel:∀y,(enc y).length=i.size) (hy:(opd s y).Le (.sl i.size enc ys))
  (hby:ys.length*i.bytes≤140737488355328) (hm:ys.length≤9223372036854775807)
  (r:Fl P n ops draw l ((Eff.mk (.row d) [(d,.row i.size enc ys e)] [] [d] []).app o.dst s) (Eff.mk (.row d) [(d,.row i.size enc ys e)] [] [d] []::acc) K) (hJ:BH draw.J (Eff.mk (.row d) [(d,.row i.size enc ys e)] [] [d] []):=by repeat'(first|exact True.intro|exact rfl|refine⟨?_,?_⟩|fail)):Fl P n ops draw (o::l) s acc K:=
 Fl.op hg (OpJ.append0 f.tabOk hdst (ltOf hd) hop hts hti hsz hx enc hy hyc hone hel hby hm) (E7 hn) hJ r
theorem CH [f:Facts P tab] {t:TypeId} {x y:Operand} (hop:o.op = .makeSlice t x y) (hg:gOk ops s o=true) {d:Tmp} (hdst:o.dst=some d) (hd:Nat.blt d n=true) {e:TypeId} {i:TI} {sz' by':Nat} {z:List Value} (hts:tab t=some ⟨.slice e,sz', by', z⟩) (hti:tab e=some i)
  {k k':IntKind} {m m':Int} (hx:opd s x = .v (.int k m)) (hy:opd s y = .v (.int k' m')) (hmm:m'=m) (hn:s.al d=false) {α:Type} (enc:α→List AV) (x0:α) (hz:LeL (vL i.zero) (enc x0)) (hlen:Nat.beq (enc x0).length i.size=true) (h0:0≤m) (hby:m*i.bytes≤281474976710656) (hm:m≤9223372036854775807)
  (r:Fl P n ops draw l ((Eff.mk (.row d) [(d,.row i.size enc (List.replicate m.toNat x0) e)] [] [d] []).app o.dst s) (Eff.mk (.row d) [(d,.row i.size enc (List.replicate m.toNat x0) e)] [] [d] []::acc) K) (hJ:BH draw.J (Eff.mk (.row d) [(d,.row i.size enc (List.replicate m.toNat x0) e)] [] [d] []):=by repeat'(first|exact True.intro|exact rfl|refine⟨?_,?_⟩|fail)):Fl P n ops draw (o::l) s acc K:=
 Fl.op hg (OpJ.make f.tabOk hdst (ltOf hd) hop hts hti hx hy hmm h0 hby hm enc x0 hz (Nat.eq_of_beq_eq_true hlen)) (E7 hn) hJ r
theorem Fl.lit [f:Facts P tab] {t:TypeId} {len:Nat} {parts:List (Nat×Operand)} (hop:o.op = .buildSlice t len ⟨parts⟩) (hg:gOk ops s o=true) (hd:dOk n o.dst=true) {e:TypeId} {i:TI} {sz by':Nat} {z:List Value} (hts:tab t=some ⟨.slice e,sz,by', z⟩) (hti:tab e=some i)
  {α:Type} (enc:α→List AV) (xs:List α) {cs:List AV} (hf:fillA (fun j=>some (j*i.size,i.size)) (zeros (vL i.zero) len) (opPs s parts)=some cs) (hcl:BN cs=true) (hlen:Nat.beq xs.length len=true) (hsmall:Nat.ble (len*i.size) 16777216=true) (hel:∀x∈xs,(enc x).length=i.size) (hcs:cs=xs.flatMap enc)
  (r:Fl P n ops draw l ((Eff.mk (.sl i.size enc xs) [] [] [] []).app o.dst s) (Eff.mk (.sl i.size enc xs) [] [] [] []::acc) K) (hm:Nat.ble len 16777216=true:=by rfl):Fl P n ops draw (o::l) s acc K:=
 Af hg (OpJ.slit f.tabOk (Aa hd) hop hts hti hf enc xs hcs (Nat.eq_of_beq_eq_true hlen) hel hcl (Nat.le_of_ble_eq_true hsmall) (by have:=Nat.le_of_ble_eq_true hm; simp only[maxLen]; omega)) r
theorem ql [f:Facts P tab] {t:TypeId} {len:Nat} {parts:List (Nat×Operand)} {e:TypeId} {i:TI} {sz by':Nat} {z:List Value} {α:Type} (enc:α→List AV) (xs:List α) {cs:List AV} (r:Fl P n ops draw l ((Eff.mk (.sl i.size enc xs) [] [] [] []).app o.dst s) (Eff.mk (.sl i.size enc xs) [] [] [] []::acc) K) (hop:o.op = .buildSlice t len ⟨parts⟩:=by exact rfl) (hg:gOk ops s o=true:=by exact rfl) (hd:dOk n o.dst=true:=by exact rfl) (hts:tab t=some ⟨.slice e,sz,by', z⟩:=by exact rfl) (hti:tab e=some i:=by exact rfl) (hf:fillA (fun j=>some (j*i.size,i.size)) (zeros (vL i.zero) len) (opPs s parts)=some cs:=by exact rfl) (hcl:BN cs=true:=by exact rfl) (hlen:Nat.beq xs.length len=true:=by exact rfl) (hsmall:Nat.ble (len*i.size) 16777216=true:=by exact rfl) (hel:∀x∈xs,(enc x).length=i.size:=by intro _ _; rfl) (hcs:cs=xs.flatMap enc:=by exact rfl) (hm:Nat.ble len 16777216=true:=by rfl):Fl P n ops draw (o::l) s acc K:=Fl.lit hop hg hd hts hti enc xs hf hcl hlen hsmall hel hcs r hm
theorem Fl.cutLH [f:Facts P tab] {t:TypeId} {x y z:Operand} (hop:o.op = .slice t x (some y) (some z) none) {α:Type} {sz:Nat} {enc:α→List AV} {xs:List α} (hx:opd s x = .sl sz enc xs) {e:TypeId} {i:TI} {sz' by':Nat} {z':List Value} (hts:tab t=some ⟨.slice e,sz', by', z'⟩) (hti:tab e=some i) (hsz:sz=i.size)
  {k k':IntKind} {lo m:Int} (hy:opd s y = .v (.int k lo)) (hz:opd s z = .v (.int k' m)) (hg:gOk ops s o=true) (hd:dOk n o.dst=true) (h0:0≤lo) (h1:lo≤m) (h2:m≤xs.length)
  (r:Fl P n ops draw l ((Eff.mk (.sl sz enc ((xs.take m.toNat).drop lo.toNat)) [] [] [] []).app o.dst s) (Eff.mk (.sl sz enc ((xs.take m.toNat).drop lo.toNat)) [] [] [] []::acc) K):Fl P n ops draw (o::l) s acc K:=by
 subst hsz;exact Af hg (OpJ.cutLH f.tabOk (Aa hd) hop hts hti hx hy hz h0 h1 h2) r
theorem Fl.cutL [f:Facts P tab] {t:TypeId} {x y:Operand} (hop:o.op = .slice t x (some y) none none) {α:Type} {sz:Nat} {enc:α→List AV} {xs:List α} (hx:opd s x = .sl sz enc xs) {e:TypeId} {i:TI} {sz' by':Nat} {z':List Value} (hts:tab t=some ⟨.slice e,sz', by', z'⟩) (hti:tab e=some i) (hsz:sz=i.size)
  {k:IntKind} {lo:Int} (hy:opd s y = .v (.int k lo)) (hg:gOk ops s o=true) (hd:dOk n o.dst=true) (h0:0≤lo) (h2:lo≤xs.length)
  (r:Fl P n ops draw l ((Eff.mk (.sl sz enc (xs.drop lo.toNat)) [] [] [] []).app o.dst s) (Eff.mk (.sl sz enc (xs.drop lo.toNat)) [] [] [] []::acc) K):Fl P n ops draw (o::l) s acc K:=by
 subst hsz;exact Af hg (OpJ.cutL f.tabOk (Aa hd) hop hts hti hx hy h0 h2) r
theorem Fl.cutH [f:Facts P tab] {t:TypeId} {x z:Operand} (hop:o.op = .slice t x none (some z) none) {α:Type} {sz:Nat} {enc:α→List AV} {xs:List α} (hx:opd s x = .sl sz enc xs) {e:TypeId} {i:TI} {sz' by':Nat} {z':List Value} (hts:tab t=some ⟨.slice e,sz', by', z'⟩) (hti:tab e=some i) (hsz:sz=i.size)
  {k':IntKind} {m:Int} (hz:opd s z = .v (.int k' m)) (hg:gOk ops s o=true) (hd:dOk n o.dst=true) (h0:0≤m) (h2:m≤xs.length)
  (r:Fl P n ops draw l ((Eff.mk (.sl sz enc (xs.take m.toNat)) [] [] [] []).app o.dst s) (Eff.mk (.sl sz enc (xs.take m.toNat)) [] [] [] []::acc) K):Fl P n ops draw (o::l) s acc K:=by
 subst hsz;exact Af hg (OpJ.cutH f.tabOk (Aa hd) hop hts hti hx hz h0 h2) r
theorem Fl.cutHM [f:Facts P tab] {t:TypeId} {x z z2:Operand} (hop:o.op = .slice t x none (some z) (some z2)) {α:Type} {sz:Nat} {enc:α→List AV} {xs:List α} (hx:opd s x = .sl sz enc xs) {e:TypeId} {i:TI} {sz' by':Nat} {z':List Value} (hts:tab t=some ⟨.slice e,sz', by', z'⟩) (hti:tab e=some i) (hsz:sz=i.size)
  {k k':IntKind} {m m':Int} (hz:opd s z = .v (.int k' m)) (hz2:opd s z2 = .v (.int k m')) (hg:gOk ops s o=true) (hd:dOk n o.dst=true) (h0:0≤m) (h1:m≤m') (h2:m'≤xs.length)
  (r:Fl P n ops draw l ((Eff.mk (.sl sz enc (xs.take m.toNat)) [] [] [] []).app o.dst s) (Eff.mk (.sl sz enc (xs.take m.toNat)) [] [] [] []::acc) K):Fl P n ops draw (o::l) s acc K:=by
 subst hsz;exact Af hg (OpJ.cutHM f.tabOk (Aa hd) hop hts hti hx hz hz2 h0 h1 h2) r
theorem Fl.call {k:FuncId} {args:List Operand} {ts:Array TypeId} (hop:o.op = .call { callee := .value (.func k),args:=⟨args⟩,argTypes:=ts }) {az:List AV} {ret:AV} (hf:PureFn P k az ret) (hg:gOk ops s o=true) (hd:dOk n o.dst=true) (hcl:BN (opds s args)=true) (hle:LeL (opds s args) az)
  (r:Fl P n ops draw l ((Eff.mk ret [] [] [] []).app o.dst s) (Eff.mk ret [] [] [] []::acc) K):Fl P n ops draw (o::l) s acc K:=
 Af hg (OpJ.call (Aa hd) hop hle hcl hf) r
theorem qc {k:FuncId} {args:List Operand} {ts:Array TypeId} {az:List AV} {ret:AV} (hf:PureFn P k az ret) (r:Fl P n ops draw l ((Eff.mk ret [] [] [] []).app o.dst s) (Eff.mk ret [] [] [] []::acc) K) (hop:o.op = .call { callee := .value (.func k),args:=⟨args⟩,argTypes:=ts }:=by exact rfl) (hg:gOk ops s o=true:=by exact rfl) (hd:dOk n o.dst=true:=by exact rfl) (hcl:BN (opds s args)=true:=by exact rfl) (hle:LeL (opds s args) az:=by exact AB _):Fl P n ops draw (o::l) s acc K:=Fl.call hop hf hg hd hcl hle r
theorem Fl.skip (hg:gNo ops s o=true) (hd:dOk n o.dst=true) (r:Fl P n ops draw l (skipE.app o.dst s) (skipE::acc) K):Fl P n ops draw (o::l) s acc K:=Fl.no hg (Aa hd) r
end
theorem TIOk.of {P:Program} {t:Nat} {d:TypeDesc} {sz by':Nat} {zl:List Value} (hu:P.underlying t=some d) (z:Value) (hi:(P.info? t).map (fun i=>(i.size,i.bytes,i.zero))=some (sz,by', some z)) (hz:z.cells.toList=zl) (hl:zl.length=sz):TIOk P t ⟨d,sz,by', zl⟩:=by
 refine⟨hu,?_,hl⟩;obtain⟨inf,h1,h2⟩:=Option.map_eq_some_iff.1 hi;simp only[Prod.mk.injEq]at h2;exact⟨inf,z,h1,h2.1,h2.2.1,h2.2.2,hz⟩
def lookT:List (Nat×TI)→Nat→Option TI
  | [],_=>none
  | (j,v)::r,i=>match Nat.beq i j with|true=>some v|false=>lookT r i
inductive AllTI (P:Program):List (Nat×TI)→Prop
  | nil:AllTI P []
  | cons {t:Nat} {i:TI} {l:List (Nat×TI)} (h:TIOk P t i) (r:AllTI P l):AllTI P ((t,i)::l)
theorem tabOk_of {P:Program} {l:List (Nat×TI)} (h:AllTI P l):BG P (lookT l):=by
 induction h with
 | nil=>intro t i h; simp[lookT]at h
 | @cons t0 i0 l h r ih=>
  intro t i hti;by_cases he:t=t0
  ·subst he; simp only[lookT,Nat.beq_refl,Option.some.injEq]at hti; subst hti; exact h
  ·simp only[lookT,Ak he]at hti; exact ih t i hti
end Go.AL
/- One rule for the operations that yield a value under a condition on numbers. -/
namespace Go.AL
def arithV (k:IntKind) (c:Int):AV×Prop:=
  match k with
  | .i64=>(.v (.int .i64 c),-9223372036854775808≤c∧c≤9223372036854775807)
  | .u64=>(.v (.int .u64 c),0≤c∧c≤18446744073709551615)
  | .i32=>(.v (.int .i32 c),-2147483648≤c∧c≤2147483647)
  | .i16=>(.v (.int .i16 c),-32768≤c∧c≤32767)
  | .i8=>(.v (.int .i8 c),-128≤c∧c≤127)
  | .u32=>(.v (.int .u32 (c % 4294967296)),True)
  | .u16=>(.v (.int .u16 (c % 65536)),True)
  | .u8=>(.v (.int .u8 (c % 256)),True)
def bitN (op:BinOp) (a b:Int):Int:=
  match op with
  | .and=>((a.toNat &&& b.toNat:Nat):Int)
  | .or=>((a.toNat ||| b.toNat:Nat):Int)
  | .xor=>((a.toNat ^^^ b.toNat:Nat):Int)
  | _=>((a.toNat ^^^ (a.toNat &&& b.toNat):Nat):Int)
def bitP (k:IntKind) (c a b:Int):AV×Prop:=
  match k with
  | .i64=>(.v (.int .i64 c),0≤a∧a≤9223372036854775807∧0≤b∧b≤9223372036854775807)
  | .u64=>(.v (.int .u64 c),0≤a∧a≤18446744073709551615∧0≤b∧b≤18446744073709551615)
  | .u32=>(.v (.int .u32 c),0≤a∧a≤4294967295∧0≤b∧b≤4294967295)
  | k=>(.v (.int k c),False)
theorem bitN_ok (op:BinOp) {k:IntKind} {e:Nat} (he:e≤k.bits) (hw:∀r:Int,0≤r→r<2^e→k.wrap r=r) {a b:Int} (ha:0≤a) (ha1:a<2^e) (hb:0≤b) (hb1:b<2^e) (hop:(bitsV op k a b).isSome=true):bitsV op k a b=some (bitN op a b):=by
 have h2:(2:Int)^e≤2^k.bits:=by
  have:=Nat.pow_le_pow_right (show 0<2 by omega) he
  have h3:((2^e:Nat):Int)≤((2^k.bits:Nat):Int):=by exact_mod_cast this
  simpa using h3
 have hx:∀z:Int,0≤z→z<2^e→(BitVec.ofInt k.bits z).toNat=z.toNat:=by
  intro z h0 h1;rw[BitVec.toNat_ofInt];congr 1;refine Int.emod_eq_of_lt h0 ?_
  have:z<2^k.bits:=by omega
  simpa using this
 have hlt:∀z:Int,0≤z→z<2^e→z.toNat<2^e:=by
  intro z h0 h1
  have:((z.toNat:Nat):Int)<((2^e:Nat):Int):=by rw[Int.toNat_of_nonneg h0]; simpa using h1
  exact_mod_cast this
 have hcast:∀m:Nat,m<2^e→k.wrap (m:Int)=m:=by
  intro m hm;refine hw _ (by omega) ?_
  have:((m:Nat):Int)<((2^e:Nat):Int):=by exact_mod_cast hm
  simpa using this
 cases op<;>simp only[bitsV,Option.isSome_none,Bool.false_eq_true]at hop<;>simp only[bitsV,bitN,Option.some.injEq]
 ·rw[BitVec.toNat_and,hx a ha ha1,hx b hb hb1];exact hcast _ (Nat.and_lt_two_pow _ (hlt b hb hb1))
 ·rw[BitVec.toNat_or,hx a ha ha1,hx b hb hb1];exact hcast _ (Nat.or_lt_two_pow (hlt a ha ha1) (hlt b hb hb1))
 ·rw[BitVec.toNat_xor,hx a ha ha1,hx b hb hb1];exact hcast _ (Nat.xor_lt_two_pow (hlt a ha ha1) (hlt b hb hb1))
 ·have:∀x y:BitVec k.bits,x &&& ~~~y=x ^^^ (x &&& y):=by
   intro x y;ext i hi;simp
   cases x[i]<;>cases y[i]<;>rfl
  rw[this,BitVec.toNat_xor,BitVec.toNat_and,hx a ha ha1,hx b hb hb1];exact hcast _ (Nat.xor_lt_two_pow (hlt a ha ha1) (Nat.and_lt_two_pow _ (hlt b hb hb1)))
def bin2 (op:BinOp) (k:IntKind) (m m':Int):Option (AV×Prop):=
  match op with
  | .add=>some (arithV k (m+m'))
  | .sub=>some (arithV k (m-m'))
  | .mul=>some (arithV k (m*m'))
  | .quo=>some (.v (.int k (m/m')),0≤m∧0<m'∧m≤hiK k)
  | .rem=>some (.v (.int k (m % m')),0≤m∧0<m')
  | .and=>some (bitP k (bitN .and m m') m m')
  | .or=>some (bitP k (bitN .or m m') m m')
  | .xor=>some (bitP k (bitN .xor m m') m m')
  | .andNot=>some (bitP k (bitN .andNot m m') m m')
  | _=>none
def shrV (k:IntKind) (c m':Int):AV×Prop:=
  match k with
  | .i64=>(.v (.int .i64 c),0≤m'∧m'≤64)
  | .u64=>(.v (.int .u64 c),0≤m'∧m'≤64)
  | .i32=>(.v (.int .i32 c),0≤m'∧m'≤32)
  | .u32=>(.v (.int .u32 c),0≤m'∧m'≤32)
  | .i16=>(.v (.int .i16 c),0≤m'∧m'≤16)
  | .u16=>(.v (.int .u16 c),0≤m'∧m'≤16)
  | .i8=>(.v (.int .i8 c),0≤m'∧m'≤8)
  | .u8=>(.v (.int .u8 c),0≤m'∧m'≤8)
def shlV (k:IntKind) (c m':Int):Option (AV×Prop):=
  match k with
  | .i64=>some (.v (.int .i64 c),0≤m'∧m'≤64 ∧ -9223372036854775808≤c∧c≤9223372036854775807)
  | .u64=>some (.v (.int .u64 (c % 18446744073709551616)),0≤m'∧m'≤64)
  | .u32=>some (.v (.int .u32 (c % 4294967296)),0≤m'∧m'≤32)
  | .u8=>some (.v (.int .u8 (c % 256)),0≤m'∧m'≤8)
  | _=>none
def sh2 (op:BinOp) (k:IntKind) (m m':Int):Option (AV×Prop):=
  match op with
  | .shr=>some (shrV k (m/2^m'.toNat) m')
  | .shl=>shlV k (m*2^m'.toNat) m'
  | _=>none
def szOk (tab:Tab) (t:TypeId) (sz:Nat):Bool:=
  match tab t with
  | some ⟨.slice e,_,_,_⟩=>match tab e with
    | some i=>Nat.beq sz i.size
    | none=>false
  | _=>false
def cut2 (tab:Tab) (s:St) (t:TypeId) (x:AV) (lo hi mx:Option Operand):Option (AV×Prop):=
  match x with
  | .sl sz enc xs=>match szOk tab t sz with
    | true=>match lo,hi,mx with
      | some y,some z,none=>match opd s y,opd s z with
        | .v (.int _ l),.v (.int _ m)=>some (.sl sz enc ((xs.take m.toNat).drop l.toNat),0≤l∧l≤m∧m≤xs.length)
        | _,_=>none
      | some y,none,none=>match opd s y with
        | .v (.int _ l)=>some (.sl sz enc (xs.drop l.toNat),0≤l∧l≤xs.length)
        | _=>none
      | none,some z,none=>match opd s z with
        | .v (.int _ m)=>some (.sl sz enc (xs.take m.toNat),0≤m∧m≤xs.length)
        | _=>none
      | none,some z,some z2=>match opd s z,opd s z2 with
        | .v (.int _ m),.v (.int _ m')=>some (.sl sz enc (xs.take m.toNat),0≤m∧m≤m'∧m'≤xs.length)
        | _,_=>none
      | _,_,_=>none
    | false=>none
  | _=>none
def opV2 (tab:Tab) (s:St):Op→Option (AV×Prop)
  | .binOp op _ x y _=>match opd s x,opd s y with
    | .v (.int k m),.v (.int k' m')=>match D5 k k' with
      | true=>match bin2 op k m m' with
        | some r=>some r
        | none=>sh2 op k m m'
      | false=>sh2 op k m m'
    | _,_=>none
  | .convert src dst x=>match opd s x,tab src,tab dst with
    | .v (.int _ m),some _,some ⟨.int k,_,_,_⟩=>match isU k with
      | true=>match k with
        | .u64=>some (.v (.int .u64 m),0≤m∧m≤18446744073709551615)
        | _=>none
      | false=>some (.v (.int k m),loK k≤m∧m≤hiK k)
    | _,_,_=>none
  | .slice t x lo hi mx=>cut2 tab s t (opd s x) lo hi mx
  | .call { callee := .builtin .max,args:=⟨[x,y]⟩,argTypes:=_ }=>match opd s x,opd s y with
    | .v (.int k m),.v (.int _ m')=>some (.v (.int k (if m'>m then m' else m)),True)
    | _,_=>none
  | .call { callee := .builtin .min,args:=⟨[x,y]⟩,argTypes:=_ }=>match opd s x,opd s y with
    | .v (.int k m),.v (.int _ m')=>some (.v (.int k (if m'<m then m' else m)),True)
    | _,_=>none
  | _=>none
section
variable {P:Program} {tab:Tab} {n:Nat} {s:St} {o:Oper}
theorem arithV_ok (hd:∀d,o.dst=some d→d<n) {op:BinOp} {t t':TypeId} {x y:Operand} (hop:o.op = .binOp op t x y t') {k k':IntKind} {m m' c:Int} (hx:opd s x = .v (.int k m)) (hy:opd s y = .v (.int k' m')) (hk:D5 k k'=true) (hc:arithI op m m'=some c)
  {v:AV} {p:Prop} (he:arithV k c=(v,p)) (hp:p):OpJ P n o s ⟨v,[],[],[],[]⟩:=by
 cases k<;>simp only[arithV,Prod.mk.injEq]at he<;>obtain⟨rfl,rfl⟩:=he
 ·exact DG hd hop hx hy hk hc hp.1 hp.2
 ·exact DG hd hop hx hy hk hc hp.1 hp.2
 ·exact DG hd hop hx hy hk hc hp.1 hp.2
 ·exact DG hd hop hx hy hk hc hp.1 hp.2
 ·exact FS hd hop hx hy hk hc rfl
 ·exact FS hd hop hx hy hk hc rfl
 ·exact FS hd hop hx hy hk hc rfl
 ·exact DG hd hop hx hy hk hc hp.1 hp.2
theorem sh2_ok (hd:∀d,o.dst=some d→d<n) {op:BinOp} {t t':TypeId} {x y:Operand} (hop:o.op = .binOp op t x y t') {k k':IntKind} {m m':Int} (hx:opd s x = .v (.int k m)) (hy:opd s y = .v (.int k' m'))
  {v:AV} {p:Prop} (he:sh2 op k m m'=some (v,p)) (hp:p):OpJ P n o s ⟨v,[],[],[],[]⟩:=by
 unfold sh2 at he;split at he
 ·injection he with he
  cases k<;>simp only[shrV,Prod.mk.injEq]at he<;>obtain⟨rfl,rfl⟩:=he<;>exact OpJ.shr hd hop hx hy hp.1 hp.2
 ·cases k<;>simp only[shlV,Option.some.injEq,Prod.mk.injEq,reduceCtorEq]at he<;>obtain⟨rfl,rfl⟩:=he
  ·exact OpJ.shlI hd hop hx hy hp.1 hp.2.1 hp.2.2.1 hp.2.2.2
  ·exact OpJ.shl hd hop hx hy hp.1 hp.2 rfl
  ·exact OpJ.shl hd hop hx hy hp.1 hp.2 rfl
  ·exact OpJ.shl hd hop hx hy hp.1 hp.2 rfl
 ·cases he
theorem bitP_ok (hd:∀d,o.dst=some d→d<n) {op:BinOp} {t t':TypeId} {x y:Operand} (hop:o.op = .binOp op t x y t') {k k':IntKind} {m m':Int} (hx:opd s x = .v (.int k m)) (hy:opd s y = .v (.int k' m')) (hk:D5 k k'=true) (hb:(bitsV op k m m').isSome=true)
  {v:AV} {p:Prop} (he:bitP k (bitN op m m') m m'=(v,p)) (hp:p):OpJ P n o s ⟨v,[],[],[],[]⟩:=by
 have hw:∀(k:IntKind) (r:Int),loK k≤0→0≤r→r≤hiK k→k.wrap r=r:=fun k r h h0 h1=>wrap_in (by omega) h1
 cases k<;>simp only[bitP,Prod.mk.injEq]at he<;>obtain⟨rfl,rfl⟩:=he<;>try exact hp.elim
 ·exact OpJ.bits hd hop hx hy hk (bitN_ok op (e:=63) (by simp[IntKind.bits]) (fun r h0 h1=>hw _ r (by simp[loK]) h0 (by simp only[hiK]; omega)) hp.1 (by omega) hp.2.2.1 (by omega) hb) rfl
 ·exact OpJ.bits hd hop hx hy hk (bitN_ok op (e:=32) (by simp[IntKind.bits]) (fun r h0 h1=>hw _ r (by simp[loK]) h0 (by simp only[hiK]; omega)) hp.1 (by omega) hp.2.2.1 (by omega) hb) rfl
 ·exact OpJ.bits hd hop hx hy hk (bitN_ok op (e:=64) (by simp[IntKind.bits]) (fun r h0 h1=>hw _ r (by simp[loK]) h0 (by simp only[hiK]; omega)) hp.1 (by omega) hp.2.2.1 (by omega) hb) rfl
theorem bin2_ok (hd:∀d,o.dst=some d→d<n) {op:BinOp} {t t':TypeId} {x y:Operand} (hop:o.op = .binOp op t x y t') {k k':IntKind} {m m':Int} (hx:opd s x = .v (.int k m)) (hy:opd s y = .v (.int k' m')) (hk:D5 k k'=true)
  {v:AV} {p:Prop} (he:bin2 op k m m'=some (v,p)) (hp:p):OpJ P n o s ⟨v,[],[],[],[]⟩:=by
 unfold bin2 at he;split at he
 ·injection he with he; exact arithV_ok hd hop hx hy hk rfl he hp
 ·injection he with he; exact arithV_ok hd hop hx hy hk rfl he hp
 ·injection he with he; exact arithV_ok hd hop hx hy hk rfl he hp
 ·injection he with he; injection he with h1 h2; subst h1 h2;exact OpJ.quo hd hop hx hy hk hp.1 hp.2.1 hp.2.2
 ·injection he with he; injection he with h1 h2; subst h1 h2;exact OpJ.rem hd hop hx hy hk hp.1 hp.2
 ·injection he with he; exact bitP_ok hd hop hx hy hk rfl he hp
 ·injection he with he; exact bitP_ok hd hop hx hy hk rfl he hp
 ·injection he with he; exact bitP_ok hd hop hx hy hk rfl he hp
 ·injection he with he; exact bitP_ok hd hop hx hy hk rfl he hp
 ·cases he
theorem OpJ.of_v2 (ht:BG P tab) (hd:∀d,o.dst=some d→d<n) {v:AV} {p:Prop} (hv:opV2 tab s o.op=some (v,p)) (hp:p):OpJ P n o s ⟨v,[],[],[],[]⟩:=by
 unfold opV2 at hv;split at hv
 ·rename_i op t x y t' hop;split at hv
  ·rename_i k m k' m' hx hy;split at hv
   ·rename_i hk;split at hv
    ·rename_i r hr;injection hv with hv; subst hv;exact bin2_ok hd hop hx hy hk hr hp
    ·exact sh2_ok hd hop hx hy hv hp
   ·exact sh2_ok hd hop hx hy hv hp
  ·cases hv
 ·rename_i src dst x hop;split at hv
  ·rename_i k' m i1 k _ _ _ hx h1 h2;split at hv
   ·split at hv
    ·injection hv with hv; injection hv with e1 e2; subst e1 e2;exact OpJ.conv ht hd hop hx h1 h2 hp.1 hp.2
    ·cases hv
   ·injection hv with hv; injection hv with e1 e2; subst e1 e2;exact OpJ.conv ht hd hop hx h1 h2 hp.1 hp.2
  ·cases hv
 ·rename_i t x lo hi mx hop;unfold cut2 at hv;split at hv
  ·rename_i α sz enc xs hx;split at hv
   ·rename_i hsz;unfold szOk at hsz;split at hsz
    ·rename_i e a1 a2 a3 hts;split at hsz
     ·rename_i i hti;have hsz:=Nat.eq_of_beq_eq_true hsz;subst hsz;split at hv
      ·rename_i y z;split at hv
       ·rename_i k l k' m hy hz;injection hv with hv; injection hv with e1 e2; subst e1 e2;exact OpJ.cutLH ht hd hop hts hti hx hy hz hp.1 hp.2.1 hp.2.2
       ·cases hv
      ·rename_i y;split at hv
       ·rename_i k l hy;injection hv with hv; injection hv with e1 e2; subst e1 e2;exact OpJ.cutL ht hd hop hts hti hx hy hp.1 hp.2
       ·cases hv
      ·rename_i z;split at hv
       ·rename_i k m hz;injection hv with hv; injection hv with e1 e2; subst e1 e2;exact OpJ.cutH ht hd hop hts hti hx hz hp.1 hp.2
       ·cases hv
      ·rename_i z z2;split at hv
       ·rename_i k m k' m' hz hz2;injection hv with hv; injection hv with e1 e2; subst e1 e2;exact OpJ.cutHM ht hd hop hts hti hx hz hz2 hp.1 hp.2.1 hp.2.2
       ·cases hv
      ·cases hv
     ·cases hsz
    ·cases hsz
   ·cases hv
  ·cases hv
 ·rename_i x y ts hop;split at hv
  ·rename_i k m k' m' hx hy;injection hv with hv; injection hv with e1 e2; subst e1 e2;exact OpJ.max2 hd hop hx hy
  ·cases hv
 ·rename_i x y ts hop;split at hv
  ·rename_i k m k' m' hx hy;injection hv with hv; injection hv with e1 e2; subst e1 e2;exact OpJ.min2 hd hop hx hy
  ·cases hv
 ·cases hv
variable {ops:Array Oper} {draw:Dr} {l:List Oper} {acc:List Eff} {K:Exit→St→Prop}
theorem Fl.w [f:Facts P tab] {v:AV} {p:Prop} (hg:gOk ops s o=true) (hd:dOk n o.dst=true) (hv:opV2 tab s o.op=some (v,p)) (hp:p) (r:Fl P n ops draw l ((Eff.mk v [] [] [] []).app o.dst s) (Eff.mk v [] [] [] []::acc) K):Fl P n ops draw (o::l) s acc K:=
 Af hg (OpJ.of_v2 f.tabOk (Aa hd) hv hp) r
theorem qw [f:Facts P tab] {v:AV} {p:Prop} (r:Fl P n ops draw l ((Eff.mk v [] [] [] []).app o.dst s) (Eff.mk v [] [] [] []::acc) K) (hg:gOk ops s o=true:=by exact rfl) (hd:dOk n o.dst=true:=by exact rfl) (hv:opV2 tab s o.op=some (v,p):=by exact rfl) (hp:p:=by first|exact True.intro|omega):Fl P n ops draw (o::l) s acc K:=Fl.w hg hd hv hp r
def opBx (tab:Tab) (s:St) (o:Oper):Option Eff:=
  match o.op,o.dst with
  | .box t x,some d=>match D9 (opd s x)with
    | some cs=>EU cs fun cs=>some ⟨.ptr d 0,[(d,.cells cs t)],[],[d],[]⟩
    | none=>none
  | .alloc t,some d=>match tab t with
    | some i=>EU (vL i.zero) fun cs=>some ⟨.ptr d 0,[(d,.cells cs t)],[],[d],[]⟩
    | none=>none
  | .store t x y,none=>match opd s x with
    | .ptr b off=>match s.bx b,tab t,D9 (opd s y)with
      | some (.cells cs bt),some i,some vs=>match Nat.beq vs.length i.size&&Nat.ble (off+vs.length) cs.length with
        | true=>EU (setL off vs cs) fun cs=>some ⟨.any,[(b,.cells cs bt)],[],[],[b]⟩
        | false=>none
      | _,_,_=>none
    | _=>none
  | .build t ⟨parts⟩,_=>match buildA tab s t parts with
    | some v=>force1 v fun v=>some ⟨v,[],[],[],[]⟩
    | none=>none
  | _,_=>none
theorem OpJ.of_bx (ht:BG P tab) (hd:∀d,o.dst=some d→d<n) {E:Eff} (hv:opBx tab s o=some E):OpJ P n o s E:=by
 unfold opBx at hv;split at hv
 ·rename_i t x d hop hdst;split at hv
  ·rename_i cs hc;rw[Ds]at hv;injection hv with hv; subst hv;exact OpJ.box hdst (hd d hdst) hop hc
  ·cases hv
 ·rename_i t d hop hdst;split at hv
  ·rename_i i hti;rw[Ds]at hv;injection hv with hv; subst hv;exact OpJ.alloc ht hdst (hd d hdst) hop hti
  ·cases hv
 ·rename_i t x y hop hdst;split at hv
  ·rename_i b off hx;split at hv
   ·rename_i cs bt i vs hb hti hvs;split at hv
    ·rename_i hc;rw[Ds]at hv;injection hv with hv; subst hv;simp only[Bool.and_eq_true]at hc;exact OpJ.store ht hdst hop hx hti hb hvs (Nat.eq_of_beq_eq_true hc.1) hc.2
    ·cases hv
   ·cases hv
  ·cases hv
 ·rename_i t parts hop;split at hv
  ·rename_i v hbv;rw[force1_eq]at hv;injection hv with hv; subst hv;exact OpJ.build ht hd hop hbv
  ·cases hv
 ·cases hv
theorem Fl.b [f:Facts P tab] {E:Eff} (hg:gOk ops s o=true) (hd:dOk n o.dst=true) (hv:opBx tab s o=some E) (hn:EJ E.new s.al=true) (r:Fl P n ops draw l (E.app o.dst s) (E::acc) K) (hJ:BH draw.J E:=by repeat'(first|exact True.intro|exact rfl|refine⟨?_,?_⟩|fail)):Fl P n ops draw (o::l) s acc K:=
 Fl.op hg (OpJ.of_bx f.tabOk (Aa hd) hv) hn hJ r
theorem qv [f:Facts P tab] {v:AV} {tb:List Id} (r:Fl P n ops draw l ((Eff.mk v [] [] [] tb).app o.dst s) (Eff.mk v [] [] [] tb::acc) K) (hg:gOk ops s o=true:=by exact rfl) (hd:dOk n o.dst=true:=by exact rfl) (hv:opVF tab s o.op=some (v,tb):=by exact rfl):Fl P n ops draw (o::l) s acc K:=Fl.v hg hd hv r
theorem qe [f:Facts P tab] {E:Eff} (r:Fl P n ops draw l (E.app o.dst s) (E::acc) K) (hg:gOk ops s o=true:=by exact rfl) (hd:dOk n o.dst=true:=by exact rfl) (hv:opBx tab s o=some E:=by exact rfl) (hn:EJ E.new s.al=true:=by exact rfl) (hJ:BH draw.J E:=by repeat'(first|exact True.intro|exact rfl|refine⟨?_,?_⟩|fail)):Fl P n ops draw (o::l) s acc K:=Fl.b hg hd hv hn r hJ
end
/- short names -/
theorem qr:type_of% @AWP.region := @AWP.region
theorem qs:type_of% @AWP.seq := @AWP.seq
theorem qb:type_of% @AWP.block := @AWP.block
theorem qk:type_of% @AWP.skip := @AWP.skip
theorem qx:type_of% @AWP.exit := @AWP.exit
theorem qt:type_of% @AWP.ret := @AWP.ret
theorem qn:type_of% @Fl.nilF := @Fl.nilF
end Go.AL
/- More operations: copy into a row; a literal that grows afterwards; a slice compared with nil. -/
namespace Go.AL
section
variable {P:Program} {tab:Tab} {n:Nat} {o:Oper} {s:St}
theorem OpJ.copy (ht:BG P tab) (hd:∀d,o.dst=some d→d<n) {x y:Operand} {t t2:TypeId} (hop:o.op = .call { callee := .builtin .copy,args:=⟨[x,y]⟩,argTypes:=⟨[t,t2]⟩ }) {e:TypeId} {i:TI} {sz' by':Nat} {z:List Value} (hts:tab t=some ⟨.slice e,sz', by', z⟩) (hti:tab e=some i)
  {b:Id} (hx:opd s x = .row b) {α:Type} {sz:Nat} {enc:α→List AV} {xs ys:List α} {bt:TypeId} (hb:s.bx b=some (.row sz enc xs bt)) (hsz:sz=i.size) (hsz1:i.size=1) (hy:(opd s y).Le (.sl sz enc ys)) (hyc:(opd s y).closed=true) (hone:∀y,BU (enc y)=true) (hel:∀y,(enc y).length=sz) :
  OpJ P n o s ⟨.v (.int .i64 (Nat.min ys.length xs.length)),[(b,.row sz enc (ys.take xs.length++xs.drop ys.length) bt)],[],[],[b]⟩:=by
 subst hsz;refine⟨hd,fun C s' a w h β Q K hs hbs hal k hK=>?_⟩
 have same:∀z:Operand,(z=x∨z=y)→opd s' z=opd s z:=by
  intro z hz
  cases z with
  | tmp t=>exact hs t (by rw[hop]; simpa[Op.operands,Call.operands]using hz)
  | _=>rfl
 have hb':s'.bx b=some (.row i.size enc xs bt):=(hbs b (by simp[Eff.ts])).trans hb;have hxr:=AK k x;rw[same x (.inl rfl),hx]at hxr;have hyr:=AK k y;rw[same y (.inr rfl)]at hyr;have hyr:=hy _ _ _ (hyr.closed (β':=noB) _ _ hyc);simp only[Rep]at hxr hyr;obtain⟨e1,A,m0,c0,e2⟩:=hxr;obtain⟨B,cB,e4,hcB,hmB,hall⟩:=hyr;obtain⟨v,vals,e3,ho,hvr,hlen,hnone⟩:=k.box b _ hb';rw[e1]at e3; injection e3 with e3;have hu:=(ht _ _ hts).und;simp only at hu;obtain⟨inf,zv,h1,h2,h3,h4,h5⟩:=(ht e i hti).info
 have his:(P.info? e).map (·.size)=some 1:=by rw[h1]; simp[h2,hsz1]
 rw[hsz1]at ho hlen hall hel
 -- what runs
 have key:∃w' vals', (Builtin.copy_ #[t,t2] o.type #[a.eval x,a.eval y]).run P w = .ok (goInt (Nat.min ys.length xs.length)) w'∧w'.os=w.os∧w'.tape=w.tape∧(w'.output=w.output∧w.drawn≤w'.drawn)∧w'.heap.size=w.heap.size ∧
   (∀j,v.ownBlock≠some j→w'.heap[j]? = w.heap[j]?)∧w'.ownsRow 0 bt 1 v xs.length vals'∧RepL h noB ((ys.take xs.length++xs.drop ys.length).flatMap enc) vals':=by
  have hm0:m0=xs.length:=by
   rw[←e3,e2]at ho;rcases ho.2 with⟨q1,q2⟩|⟨g,cap,cur,q1,_⟩
   ·injection q1 with _ q1 _; omega
   ·injection q1 with _ q1 _
  rw[e2,e4,hm0];have hmn:Nat.min ys.length xs.length=min ys.length xs.length:=rfl;by_cases hmin:Nat.min ys.length xs.length=0
  ·refine⟨w,vals,by rw[hmin]; exact run_copy_none w t t2 o.type e A B xs.length c0 ys.length cB hu his hmin,rfl,rfl,⟨rfl,Nat.le_refl _⟩,rfl,fun _ _=>rfl,ho,?_⟩
   have:ys.take xs.length++xs.drop ys.length=xs:=by
    rcases(show ys.length=0∨xs.length=0 by rw[hmn]at hmin; omega)with hmin|hmin
    ·have:ys=[]:=List.eq_nil_of_length_eq_zero hmin;simp[this]
    ·have:xs=[]:=List.eq_nil_of_length_eq_zero hmin;simp[this]
   rw[this]; exact hvr
  ·have hxp:0<xs.length:=by rw[hmn]at hmin; omega
   have hyp:0<ys.length:=by rw[hmn]at hmin; omega
   obtain⟨adB,_,eB,_⟩:=hall 0 ys[0] (by simp[hyp]);subst eB
   obtain⟨news,n1,n2,n3⟩:=sl_cells (h:=h) (sz:=1) (enc:=enc) (A:=adB) (ys.take xs.length) 0 (fun i x hx=>by
    rw[List.getElem?_take]at hx;split at hx
    ·obtain⟨ad', us,e,q1,q2,q3⟩:=hall i x hx;exact⟨ad', us,e,q1,q2,fun j u hu=>by have:=q3 j u hu; rwa [Nat.zero_add]⟩
    ·cases hx)
   have hnl:news.length=Nat.min ys.length xs.length:=by
    rw[n2,List.length_take,Nat.mul_one,Nat.min_comm,hmn]
   have ho0:=ho;obtain⟨hl1,ho⟩:=ho;rcases ho with⟨_,q⟩|⟨g,cap,cur,q1,hb0,hg,hnc,hmx,hcs,htake⟩
   ·omega
   ·subst e3;rw[e2]at q1;injection q1 with q1 q2 q3;subst q1
    have hnl2:news.length≤xs.length:=by rw[hnl,hmn]; omega
    have hrun:=run_copy_row (P:=P) w t t2 o.type e g 0 xs.length c0 adB ys.length cB cur bt news hu his hg hnl (fun j u hu=>by
     have:=(n3 j u hu).cell k.evo.has
     rwa [Nat.zero_mul,Nat.zero_add]at this) (by omega) (flat_one hone _ news n1)
    refine⟨w.setRow g (cur.toList.take 0++news++cur.toList.drop (0+news.length)).toArray,news++vals.drop news.length,by rw[←hnl]; exact hrun,rfl,rfl,⟨rfl,Nat.le_refl _⟩,by simp,fun j hj=>setRow_other w g j _ (fun e=>hj (by rw[e2]; simp[Value.ownBlock,e])),?_,?_⟩
    ·rw[e2];refine⟨by simp; omega,.inr ⟨g,cap,_,by rw[q3,hm0],hb0,setRow_heap w g cur _ bt _ hg,hnc,hmx,?_,?_⟩⟩
     ·simp only[List.take_zero,List.nil_append,Nat.zero_add,List.size_toArray,List.length_append,List.length_drop,Array.length_toList];omega
     ·simp only[List.take_zero,List.nil_append,Nat.zero_add,Nat.mul_one]at htake ⊢;rw[List.take_append,List.take_of_length_le (by omega),List.take_drop,show news.length+(xs.length-news.length)=xs.length from by omega,htake]
    ·rw [List.flatMap_append];refine n1.append ?_
     have hd2:∀(l:List α) (us:List Value) (q:Nat),(∀x∈l,(enc x).length=1)→RepL h noB (l.flatMap enc) us→RepL h noB ((l.drop q).flatMap enc) (us.drop q):=by
      intro l
      induction l with
      | nil=>intro us q _ hr; simp only[List.flatMap_nil,RepL]at hr; subst hr; simp[RepL]
      | cons x l ih=>
       intro us q hx hr
       cases q with
       | zero=>simpa using hr
       | succ q=>
        rw[List.flatMap_cons]at hr;obtain⟨r1,r2⟩:=hr.split;rw[hx x (by simp)]at r2;have:=ih _ q (fun y hy=>hx y (by simp[hy])) r2;rw[List.drop_drop]at this;rw[List.drop_succ_cons];rwa [show 1+q=q+1 from by omega]at this
     have:=hd2 xs vals news.length hlen hvr;by_cases hc:ys.length≤xs.length
     ·rwa [show news.length=ys.length from by rw[hnl,hmn]; omega]at this ⊢
     ·rw[List.drop_of_length_le (by omega)];rw[List.drop_of_length_le (by rw[hnl,hmn]; omega)]at this;exact this
 obtain⟨w', vals', hrun,p1,p2,p3,p4,p5,p6,p7⟩:=key
 have hexec:(execOp a.eval o).run P w = .ok (.value (goInt (Nat.min ys.length xs.length))) w':=by
  simp only[execOp,hop,resolve,invoke,builtin,Sem.run_bind,Sem.run_pure,Result.andThen,List.map_toArray,List.map_cons,List.map_nil];rw[show(Builtin.copy_ { toList:=[t,t2] } o.type { toList:=[a.eval x,a.eval y] }).run P w = .ok (goInt (Nat.min ys.length xs.length)) w' from hrun]
 unfold Oper.wp;rw[hexec];simp only[Oper.upon];refine hK _ _ h β ?_;have hbk:=FM ho;rcases Classical.em (∃g,blk (β b)=some g)with hg|hg
 ·refine k.setbox hb' p1 p2 p3 p4 (fun j hj=>p5 j (fun e=>hj (by rw[e1,e3,hbk]; exact e))) ?_ hg o.dst hd (by simp only[Rep]; rfl) [b];refine⟨v,vals', by rw[e1,e3],?_,p7,?_,hnone⟩
  ·have:(ys.take xs.length++xs.drop ys.length).length=xs.length:=by simp; omega
   rw[this,hsz1]; exact p6
  ·intro x hx; rw[hsz1]; exact hel x
 ·have hxn:xs.length=0:=by
   rcases ho.2 with⟨_,q⟩|⟨g,cap,cur,q1,_⟩
   ·exact q
   ·exact absurd ⟨g,by rw[e1,e3,q1]; rfl⟩ hg
  have hxs:xs=[]:=List.eq_nil_of_length_eq_zero hxn;subst hxs
  have hw:w'=w:=by
   have hr2:(Builtin.copy_ #[t,t2] o.type #[a.eval x,a.eval y]).run P w = .ok (goInt 0) w:=by
    have hm0:m0=0:=by
     rw[←e3,e2]at ho;rcases ho.2 with⟨q1,q2⟩|⟨g,cap,cur,q1,_⟩
     ·injection q1 with _ q1 _
     ·injection q1 with _ q1 _
    rw[e2,e4,hm0];exact run_copy_none w t t2 o.type e A B 0 c0 ys.length cB hu his (by simp[Nat.min_def])
   rw[hr2]at hrun;injection hrun with _ hrun;exact hrun.symm
  subst hw;have hval:=k.val o.dst hd (v := .v (.int .i64 (Nat.min ys.length 0))) (u:=goInt (Nat.min ys.length 0)) (by simp only[Rep]; rfl) [b];refine⟨hval.evo,hval.b0,hval.slot,fun id B hB=>?_,fun id id' B1 B2 h1 h2=>?_,fun id B1 g h1 h2=>?_,hval.dom,hval.size,hval.defers⟩
  all_goals simp only[Eff.app,delB,updB,List.length_nil,List.take_zero,List.drop_nil,List.append_nil]at *
  ·by_cases hid:id=b
   ·subst hid;simp only[Nat.beq_refl,Option.some.injEq]at hB;subst hB;exact k.box id _ hb'
   ·simp only[Ak hid]at hB;exact k.box id B hB
  ·intro hne g
   have hex:∀id B1,(match Nat.beq id b with|true=>some (Bx.row i.size enc ([]:List α) bt)|false=>s'.bx id)=some B1→∃B0,s'.bx id=some B0:=by
    intro id B1 hh;by_cases hid:id=b
    ·subst hid; exact⟨_,hb'⟩
    ·simp only[Ak hid]at hh; exact⟨_,hh⟩
   obtain⟨B3,h3⟩:=hex id B1 h1;obtain⟨B4,h4⟩:=hex id' B2 h2;exact k.apart id id' B3 B4 h3 h4 hne g
  ·by_cases hid:id=b
   ·subst hid; exact k.own id _ g hb' h2
   ·simp only[Ak hid]at h1;exact k.own id B1 g h1 h2
theorem OpJ.litrow (ht:BG P tab) {d:Tmp} (hdst:o.dst=some d) (hd:d<n) {t:TypeId} {len:Nat} {parts:List (Nat×Operand)} (hop:o.op = .buildSlice t len ⟨parts⟩) {e:TypeId} {i:TI} {sz by':Nat} {z:List Value} (hts:tab t=some ⟨.slice e,sz,by', z⟩) (hti:tab e=some i)
  {cs:List AV} (hf:fillA (fun j=>some (j*i.size,i.size)) (zeros (vL i.zero) len) (opPs s parts)=some cs) {α:Type} (enc:α→List AV) (xs:List α) (hcs:LeL cs (xs.flatMap enc)) (hlen:xs.length=len) (hel:∀x∈xs,(enc x).length=i.size) (hcl:BN cs=true) (hsmall:len*i.size≤16777216) (hm:len≤maxLen) :
  OpJ P n o s ⟨.row d,[(d,.row i.size enc xs e)],[],[d],[]⟩:=by
 refine⟨fun t ht=>(by rw[hdst]at ht; injection ht with ht; subst ht; exact hd),fun C s' a w h β Q K hs hbs hal k hK=>?_⟩
 have hps:opPs s' parts=opPs s parts:=EZ parts fun x hx=>by
  cases x with
  | tmp t=>exact hs t (by rw[hop]; simpa[Op.operands]using hx)
  | _=>rfl
 have hi:=ht _ _ hti;have hu:=(ht _ _ hts).und;simp only at hu;obtain⟨inf,zv,h1,h2,h3,h4,h5⟩:=hi.info
 have hz:(zeroValue e).run P w = .ok zv w:=by simp[zeroValue,typeInfo,h1,h4]
 have hzs:zv.cells.size=i.size:=by rw[←Array.length_toList,h5,hi.zs]
 have hz0:RepL h β (zeros (vL i.zero) len) (madeCells zv.cells (len*i.size)).toList:=by
  rw[←hzs,made_flat,h5]; exact zeros_rep (Dw _) len
 obtain⟨cells', hc1,hc2⟩:=fillA_ok (h:=h) (β:=β) (place:=fun j=>some (j*i.size,i.size)) (opPs s' parts) (parts.map fun p=>(p.1,a.eval p.2)) _ cs _ (by rw[(Cg s' parts).1]; simp) (by rw[(Cg s' parts).2]; have hq:=CU k (parts.map (·.2)); rw[List.map_map]at hq ⊢; exact hq) hz0 (by rw[hps]; exact hf);have hsz:=BZ hi w
 have hrun:(execOp a.eval o).run P w = .ok (.value (.slice (some ⟨w.heap.size,0,none⟩) len len)) (w.alloc (.cells cells' e)):=by
  simp only[execOp,hop,Instr.buildSlice,Sem.run_bind,run_underlying hu,Result.andThen,hsz];rw[if_neg (by omega)];by_cases h0:len*i.size=0
  ·have hm0:(Array.range (len*i.size)).map (fun x=>(#[]:Array Value)[x % (#[]:Array Value).size]!)=madeCells zv.cells (len*i.size):=by simp[h0,madeCells]
   simp only[h0,if_true,Sem.run_bind,Sem.run_pure,Result.andThen];rw[h0]at hm0 hc1;simp only[hm0,List.map_toArray,hc1,newRow,Sem.run_bind,Sem.run_pure,Result.andThen];rfl
  ·have hm0:(Array.range (len*i.size)).map (fun x=>zv.cells[x % zv.cells.size]!)=madeCells zv.cells (len*i.size):=rfl;simp only[h0,if_false,Sem.run_bind,hz,Sem.run_pure,Result.andThen];simp only[hm0,List.map_toArray,hc1,newRow,Sem.run_bind,Sem.run_pure,Result.andThen];rfl
 unfold Oper.wp;rw[hrun];simp only[Oper.upon];refine hK _ _ h (β.set d (.slice (some ⟨w.heap.size,0,none⟩) len len)) ?_;have k1:=k.step (Cb k.evo.has (.cells cells' e))
 have hfl:∀(l:List α),(∀x∈l,(enc x).length=i.size)→(l.flatMap enc).length=l.length*i.size:=by
  intro l
  induction l with
  | nil=>intro _; simp
  | cons x l ih=>intro hx; rw[List.flatMap_cons,List.length_append,hx x (by simp),ih fun y hy=>hx y (by simp[hy]),List.length_cons,Nat.add_mul]; omega
 have hrep:=hcs _ _ _ (RepL.closed (β':=noB) cs _ hcl hc2)
 have hsize:cells'.size=len*i.size:=by rw[←Array.length_toList,hrep.length,hfl xs hel,hlen]
 rw[hdst];refine k1.addbox (hal d (by simp)) ?_ ?_ (some d) (fun t ht=>by injection ht with ht; subst ht; exact hd) ?_ []
 ·refine⟨_,cells'.toList,Bt.set_same _ _ _,⟨by rw[Array.length_toList,hsize,hlen],.inr ⟨w.heap.size,len,_,by rw[hlen],Nat.zero_le _,heap_alloc_new w _,by omega,hm,hsize,by rw[hlen,←hsize,←Array.length_toList]; exact List.take_length⟩⟩,hrep,hel,?_⟩;intro g hg;simp[Value.ownBlock]at hg;subst hg;exact CW k.evo.has (Nat.le_refl _)
 ·intro g hg;simp[blk]at hg;subst hg;refine⟨fun id' B' hb' e=>?_,.inr k.evo.size⟩;have:=(k.blk_lt hb' e).1;omega
 ·simp only[Rep]; exact⟨Bt.set_same _ _ _,_,_,_,rfl⟩
variable {ops:Array Oper} {draw:Dr} {l:List Oper} {acc:List Eff} {K:Exit→St→Prop}
theorem Fl.cvU [f:Facts P tab] {src dst:TypeId} {x:Operand} (hop:o.op = .convert src dst x) {sz by':Nat} {z:List Value} (hdt:tab dst=some ⟨.int .u64,sz,by', z⟩) {k':IntKind} {m:Int} {i1:TI} (hx:opd s x = .v (.int k' m)) (hsrc:tab src=some i1) (hg:gOk ops s o=true) (hd:dOk n o.dst=true)
  (r:Fl P n ops draw l ((Eff.mk (.v (.int .u64 (m % 18446744073709551616))) [] [] [] []).app o.dst s) (Eff.mk (.v (.int .u64 (m % 18446744073709551616))) [] [] [] []::acc) K):Fl P n ops draw (o::l) s acc K:=by
 refine Af hg (AR (tb:=[]) (Aa hd) fun C s' a w h β ho _ k=>?_) r;have hxr:=AK k x;rw[ho x (by rw[hop]; simp[Op.operands]),hx]at hxr;simp only[Rep]at hxr
 have hs:(P.underlying src).isSome=true:=by rw[(f.tabOk _ _ hsrc).und]; rfl
 have hd:=(f.tabOk _ _ hdt).und;simp only at hd;exact⟨.int .u64 (m % 18446744073709551616),by simp only[execOp,hop,hxr,Sem.run_bind,run_conv w hs hd,Result.andThen,Sem.run_pure,wrap_u (k := .u64) rfl,uMod],by simp only[Rep]⟩
theorem wrap_i64 (m:Int):IntKind.i64.wrap m=(m+9223372036854775808) % 18446744073709551616-9223372036854775808:=by
 unfold IntKind.wrap;have h1:(2:Int)^(IntKind.i64.bits-1)=9223372036854775808:=rfl;have h2:(2:Int)^IntKind.i64.bits=18446744073709551616:=rfl;simp only[h1,h2,IntKind.signed,Bool.true_and,decide_eq_true_eq];split<;>omega
theorem Fl.cvS [f:Facts P tab] {src dst:TypeId} {x:Operand} (hop:o.op = .convert src dst x) {sz by':Nat} {z:List Value} (hdt:tab dst=some ⟨.int .i64,sz,by', z⟩) {k':IntKind} {m:Int} {i1:TI} (hx:opd s x = .v (.int k' m)) (hsrc:tab src=some i1) (hg:gOk ops s o=true) (hd:dOk n o.dst=true)
  (r:Fl P n ops draw l ((Eff.mk (.v (.int .i64 ((m+9223372036854775808) % 18446744073709551616-9223372036854775808))) [] [] [] []).app o.dst s) (Eff.mk (.v (.int .i64 ((m+9223372036854775808) % 18446744073709551616-9223372036854775808))) [] [] [] []::acc) K):Fl P n ops draw (o::l) s acc K:=by
 refine Af hg (AR (tb:=[]) (Aa hd) fun C s' a w h β ho _ k=>?_) r;have hxr:=AK k x;rw[ho x (by rw[hop]; simp[Op.operands]),hx]at hxr;simp only[Rep]at hxr
 have hs:(P.underlying src).isSome=true:=by rw[(f.tabOk _ _ hsrc).und]; rfl
 have hd:=(f.tabOk _ _ hdt).und;simp only at hd;exact⟨_,by simp only[execOp,hop,hxr,Sem.run_bind,run_conv w hs hd,Result.andThen,Sem.run_pure,wrap_i64]; rfl,by simp only[Rep]⟩
theorem Fl.sumM [Facts P tab] {op:BinOp} {t t':TypeId} {x y:Operand} (hop:o.op = .binOp op t x y t') {m m' c:Int} (hx:opd s x = .v (.int .u64 m)) (hy:opd s y = .v (.int .u64 m')) (hc:arithI op m m'=some c) (hg:gOk ops s o=true) (hd:dOk n o.dst=true)
  (r:Fl P n ops draw l ((Eff.mk (.v (.int .u64 (c % 18446744073709551616))) [] [] [] []).app o.dst s) (Eff.mk (.v (.int .u64 (c % 18446744073709551616))) [] [] [] []::acc) K):Fl P n ops draw (o::l) s acc K:=
 Af hg (FS (Aa hd) hop hx hy rfl hc rfl) r
theorem Fl.mulW [Facts P tab] {t t':TypeId} {x y:Operand} (hop:o.op = .binOp .mul t x y t') {m m':Int} (hx:opd s x = .v (.int .u64 m)) (hy:opd s y = .v (.int .u64 m')) (hg:gOk ops s o=true) (hd:dOk n o.dst=true)
  (h0:0≤m) (h1:m<4294967296) (h2:0≤m') (h3:m'<4294967296)
  (r:0≤m*m'→m*m'≤18446744065119617025→Fl P n ops draw l ((Eff.mk (.v (.int .u64 (m*m'))) [] [] [] []).app o.dst s) (Eff.mk (.v (.int .u64 (m*m'))) [] [] [] []::acc) K):Fl P n ops draw (o::l) s acc K:=by
 have h4:0≤m*m':=Int.mul_nonneg h0 h2;have h5:m*m'≤4294967295*4294967295:=Int.mul_le_mul (by omega) (by omega) h2 (by omega);exact Af hg (DG (Aa hd) hop hx hy rfl (c:=m*m') rfl (by simp only[loK]; omega) (by simp only[hiK]; omega)) (r h4 (by omega))
theorem Fl.rldW [f:Facts P tab] {t:TypeId} {x:Operand} (hop:o.op = .load t x) {b:Id} {off:Nat} (hx:opd s x = .rptr b off) {sz:Nat} {enc:Int→List AV} {xs:List Int} {bt:TypeId} (hb:s.bx b=some (.row sz enc xs bt)) {i:TI} (hti:tab t=some i) (hg:gOk ops s o=true) (hd:dOk n o.dst=true)
  {j:Nat} (hj:off=j*sz) {v:Int→AV} (hv:∀x0,BM (aggD i.desc) i.size (enc x0)=some (v x0)) (hvc:∀x0,(v x0).closed=true) (hlt:j<xs.length) (hw:WOk xs)
  (r:∀x0,xs[j]? = some x0→0≤x0→x0<4294967296→Fl P n ops draw l ((Eff.mk (v x0) [] [] [] [b]).app o.dst s) (Eff.mk (v x0) [] [] [] [b]::acc) K):Fl P n ops draw (o::l) s acc K:=
 Fl.rld hop hx hb hti hg hd hj hv hvc hlt fun x0 hx0=>r x0 hx0 (hw.get hx0).1 (hw.get hx0).2
theorem Fl.elK [f:Facts P tab] {t:TypeId} {x y:Operand} (hop:o.op = .indexAddr t x y) {α:Type} {sz:Nat} {enc:α→List AV} {xs:List α} (hx:opd s x = .sl sz enc xs) {k:IntKind} {m:Int} (hy:opd s y = .v (.int k m)) {e:TypeId} {i:TI} {sz' by':Nat} {z:List Value} (hts:tab t=some ⟨.slice e,sz', by', z⟩) (hti:tab e=some i) (hsz:sz=i.size) (hg:gOk ops s o=true) (hd:dOk n o.dst=true)
  {e0:α} (he:xs[m.toNat]? = some e0) (h0:0≤m)
  (r:Fl P n ops draw l ((Eff.mk (.cptr (enc e0)) [] [] [] []).app o.dst s) (Eff.mk (.cptr (enc e0)) [] [] [] []::acc) K):Fl P n ops draw (o::l) s acc K:=by
 subst hsz;exact Af hg (OpJ.elem f.tabOk (Aa hd) hop hts hti hx hy h0 he) r
theorem qK [f:Facts P tab] {t:TypeId} {x y:Operand} {α:Type} {sz:Nat} {enc:α→List AV} {xs:List α} {k:IntKind} {m:Int} {e:TypeId} {i:TI} {sz' by':Nat} {z:List Value} {e0:α} (r:Fl P n ops draw l ((Eff.mk (.cptr (enc e0)) [] [] [] []).app o.dst s) (Eff.mk (.cptr (enc e0)) [] [] [] []::acc) K) (hop:o.op = .indexAddr t x y:=by exact rfl) (hx:opd s x = .sl sz enc xs:=by exact rfl) (hy:opd s y = .v (.int k m):=by exact rfl) (hts:tab t=some ⟨.slice e,sz', by', z⟩:=by exact rfl) (hti:tab e=some i:=by exact rfl) (hsz:sz=i.size:=by exact rfl) (hg:gOk ops s o=true:=by exact rfl) (hd:dOk n o.dst=true:=by exact rfl) (he:xs[m.toNat]? = some e0:=by assumption) (h0:0≤m:=by omega):Fl P n ops draw (o::l) s acc K:=Fl.elK hop hx hy hts hti hsz hg hd he h0 r
theorem Fl.copy [f:Facts P tab] {x y:Operand} {t t2:TypeId} (hop:o.op = .call { callee := .builtin .copy,args:=⟨[x,y]⟩,argTypes:=⟨[t,t2]⟩ }) {b:Id} (hx:opd s x = .row b) (hg:gOk ops s o=true) (hd:dOk n o.dst=true) {e:TypeId} {i:TI} {sz' by':Nat} {z:List Value} (hts:tab t=some ⟨.slice e,sz', by', z⟩) (hti:tab e=some i)
  {α:Type} {sz:Nat} {enc:α→List AV} {xs ys:List α} {bt:TypeId} (hb:s.bx b=some (.row sz enc xs bt)) (hsz:sz=i.size) (hsz1:i.size=1) (hyc:(opd s y).closed=true) (hone:∀y,BU (enc y)=true) (hel:∀y,(enc y).length=sz) (hy:(opd s y).Le (.sl sz enc ys))
  (r:Fl P n ops draw l ((Eff.mk (.v (.int .i64 (Nat.min ys.length xs.length))) [(b,.row sz enc (ys.take xs.length++xs.drop ys.length) bt)] [] [] [b]).app o.dst s) (Eff.mk (.v (.int .i64 (Nat.min ys.length xs.length))) [(b,.row sz enc (ys.take xs.length++xs.drop ys.length) bt)] [] [] [b]::acc) K) (hJ:BH draw.J (Eff.mk (.v (.int .i64 (Nat.min ys.length xs.length))) [(b,.row sz enc (ys.take xs.length++xs.drop ys.length) bt)] [] [] [b]):=by repeat'(first|exact True.intro|exact rfl|refine⟨?_,?_⟩|fail)):Fl P n ops draw (o::l) s acc K:=
 Fl.op hg (OpJ.copy f.tabOk (Aa hd) hop hts hti hx hb hsz hsz1 hy hyc hone hel) rfl hJ r
theorem Du [f:Facts P tab] {t:TypeId} {len:Nat} {parts:List (Nat×Operand)} (hop:o.op = .buildSlice t len ⟨parts⟩) (hg:gOk ops s o=true) {d:Tmp} (hdst:o.dst=some d) (hd:Nat.blt d n=true) {e:TypeId} {i:TI} {sz by':Nat} {z:List Value} (hts:tab t=some ⟨.slice e,sz,by', z⟩) (hti:tab e=some i)
  (hn:s.al d=false) {α:Type} (enc:α→List AV) (xs:List α) {cs:List AV} (hf:fillA (fun j=>some (j*i.size,i.size)) (zeros (vL i.zero) len) (opPs s parts)=some cs) (hcl:BN cs=true) (hlen:Nat.beq xs.length len=true) (hsmall:Nat.ble (len*i.size) 16777216=true) (hel:∀x∈xs,(enc x).length=i.size) (hcs:LeL cs (xs.flatMap enc))
  (r:Fl P n ops draw l ((Eff.mk (.row d) [(d,.row i.size enc xs e)] [] [d] []).app o.dst s) (Eff.mk (.row d) [(d,.row i.size enc xs e)] [] [d] []::acc) K) (hm:Nat.ble len 16777216=true:=by rfl) (hJ:BH draw.J (Eff.mk (.row d) [(d,.row i.size enc xs e)] [] [d] []):=by repeat'(first|exact True.intro|exact rfl|refine⟨?_,?_⟩|fail)):Fl P n ops draw (o::l) s acc K:=
 Fl.op hg (OpJ.litrow f.tabOk hdst (ltOf hd) hop hts hti hf enc xs hcs (Nat.eq_of_beq_eq_true hlen) hel hcl (Nat.le_of_ble_eq_true hsmall) (by have:=Nat.le_of_ble_eq_true hm; simp only[maxLen]; omega)) (E7 hn) hJ r
structure Stop (p:Prop):Prop where
  out:p
theorem AE {I:List Id} {Q:Exit→St→Prop} {c d:Code} (h:AWP P n I c (AThen (fun s=>Stop (AWP P n I d Q s)) Q) s):AWP P n I (.seq c d) Q s:=
 AWP.seq (h.mono fun e s q=>by cases e with
  | normal=>exact q.out
  | _=>exact q)
structure JoinOk {G:Type} (n:Nat) (I:List Id) (J:G→Prop) (S:G→St) (s:St):Prop where
  out:∃g,J g∧Ent n I s (S g)
theorem JoinOk.of {G:Type} {I:List Id} {J:G→Prop} {S:G→St} (g:G) (h1:J g) (h2:Ent n I s (S g)):JoinOk n I J S s:=⟨g,h1,h2⟩
theorem Cj {I:List Id} {Q:Exit→St→Prop} {c d:Code} {G:Type} (J:G→Prop) (S:G→St) (h:AWP P n I c (AThen (JoinOk n I J S) Q) s) (k:∀g,J g→AWP P n I d Q (S g)):AWP P n I (.seq c d) Q s:=
 AWP.seq (h.mono fun e s q=>by cases e with
  | normal=>obtain⟨g,h1,h2⟩:=q.out; exact AY h2 (k g h1)
  | _=>exact q)
theorem p32:(2:Int)^(32:Int).toNat=4294967296:=rfl
theorem p63:(2:Int)^(63:Int).toNat=9223372036854775808:=rfl
theorem AWP.nilTest [f:Facts P tab] {I:List Id} {Q:Exit→St→Prop} {id:Nat} {o1 o2:Oper} {d1 d2:Tmp} {x:Operand} {t t':TypeId} (h1:o1.op = .move x) (g1:o1.guard=none) (e1:o1.dst=some d1) (l1:Nat.blt d1 n=true)
  (h2:o2.op = .binOp .eql t (.tmp d1) (.const (.slice none 0 0)) t') (g2:o2.guard=none) (e2:o2.dst=some d2) (l2:Nat.blt d2 n=true) {e:TypeId} {sz' by':Nat} {z:List Value} (hts:tab t=some ⟨.slice e,sz', by', z⟩) {α:Type} {sz:Nat} {enc:α→List AV} {xs:List α} (hx:opd s x = .sl sz enc xs)
  (h:∀b:Bool,(b=true→xs=[])→Q .normal ⟨putE (putE s.env (some d1) (.sl sz enc xs)) (some d2) (.v (.bool b)),s.bx,s.al⟩):AWP P n I (.region id ⟨[o1,o2]⟩ false) Q s:=by
 refine⟨fun C a w hp β hi k=>?_⟩;refine wp_region ?_;have hr:List.range (Array.size ⟨[o1,o2]⟩)=[0,1]:=rfl;rw[hr]
 have hw1:Region.wanted o1 (yielded ⟨[o1,o2]⟩ a.tmps)=true:=by simp[Region.wanted,g1]
 simp only[wpOps,List.getElem?_toArray,List.getElem?_cons_zero,hw1,if_true];left
 have hv1:Aw tab s o1.op=some (.sl sz enc xs):=by rw[h1]; simp only[Aw,hx]
 refine(OpJ.of_val f.tabOk (n:=n) (s:=s) (o:=o1) (fun d hd=>by rw[e1]at hd; injection hd with hd; subst hd; exact ltOf l1) hv1).2 C s a w hp β _ _ (fun _ _=>rfl) (fun _ _=>rfl) (fun _ hid=>by cases hid) k fun a1 w1 hp1 β1 k1=>?_
 have hw2:Region.wanted o2 (yielded ⟨[o1,o2]⟩ a1.tmps)=true:=by simp[Region.wanted,g2]
 simp only[List.getElem?_cons_succ,List.getElem?_cons_zero,hw2,if_true];left;have hs:=k1.slot d1;simp only[e1,Eff.app,Bd,Rep]at hs;obtain⟨A,c,hA,_,_,hall⟩:=hs
 have hb:A.isNone=true→xs=[]:=by
  intro hn
  cases xs with
  | nil=>rfl
  | cons y ys=>
   obtain⟨ad,us,e,_⟩:=hall 0 y (by simp);subst e; cases hn
 have hu:=(f.tabOk _ _ hts).und;simp only at hu
 have hrun:(execOp a1.eval o2).run P w1 = .ok (.value (.bool A.isNone)) w1:=by
  have hg:(eqGuard .eql t (.tmp d1) (.const (.slice none 0 0)) (.slice A xs.length c) (.slice none 0 0)).run P w1 = .ok () w1:=by simp[eqGuard]
  have hev:a1.eval (.tmp d1) = .slice A xs.length c:=hA
  have hb2:(binOp .eql t (.slice A xs.length c) (.slice none 0 0)).run P w1 = .ok (.bool A.isNone) w1:=by
   simp only[binOp];simp[run_equal_slice_nil w1 t e A xs.length c hu]
  simp only[execOp,h2,hev,show a1.eval (.const (.slice none 0 0)) = .slice none 0 0 from rfl,Sem.run_bind,hg,Result.andThen,hb2,Sem.run_pure]
 unfold Oper.wp;rw[hrun];simp only[Oper.upon];have k2:=k1.val o2.dst (fun d hd=>by rw[e2]at hd; injection hd with hd; subst hd; exact ltOf l2) (v := .v (.bool A.isNone)) (u := .bool A.isNone) (by simp only[Rep]) [];refine⟨_,hp1,β1,k2,?_⟩;have:=h A.isNone hb;simpa only[e1,e2,Eff.app,updB,delB,newA]using this
end
end Go.AL
/- Rows that are given away: to a call; az a result. -/
namespace Go.AL
theorem AV.Le.int {k:IntKind} {a b:Int} (h:a=b):(AV.v (.int k a)).Le (.v (.int k b)):=h▸AA _
theorem AV.Le.bool {a b:Bool} (h:a=b):(AV.v (.bool a)).Le (.v (.bool b)):=h▸AA _
theorem AV.Le.sl {α:Type} {sz:Nat} {enc:α→List AV} {xs ys:List α} (h:xs=ys):(AV.sl sz enc xs).Le (.sl sz enc ys):=h▸AA _
theorem Base.frozen {C:Cx} {n:Nat} {s:St} {a:Act} {w:World} {h:Hp} {β:Bt} (k:Base C n s a w h β) {b:Id} {α:Type} {sz:Nat} {enc:α→List AV} {xs:List α} {t:TypeId} (hb:s.bx b=some (.row sz enc xs t)) :
  ∃h' v,β b=some v∧Rep h' noB (.sl sz enc xs) v∧h.le h'∧Base C n ⟨s.env,delB [b] s.bx,s.al⟩ a w h' β:=by
 obtain⟨v,vals,e1,ho,hr,hlen,hnone⟩:=k.box b _ hb
 have hbx:∀x B', delB [b] s.bx x=some B'→x≠b∧s.bx x=some B':=by
  intro x B' hx;simp only[delB]at hx;by_cases he:x=b
  ·subst he; simp at hx
  ·simp only[Ak he]at hx;exact⟨he,hx⟩
 have key:∃h', h.le h'∧Has w h'∧(∀g,h' g≠none→h g≠none∨v.ownBlock=some g)∧Rep h' noB (.sl sz enc xs) v:=by
  rcases ho.2 with⟨hv,hn⟩|⟨g,cap,cur,hv,_,hg,hnc,hmx,hcs,htake⟩
  ·have hx:xs=[]:=List.eq_nil_of_length_eq_zero hn;subst hx;refine⟨h,Ac h,k.evo.has,fun g hg => .inl hg,?_⟩;rw[hv];exact AV.Le.nil sz enc h noB _ (by simp only[Rep])
  ·have hgn:h g=none:=hnone g (by simp[hv,Value.ownBlock])
   have hle:h.le (h.set g cur):=fun b cs hb'=>by
    by_cases he:b=g
    ·subst he; rw[hgn]at hb'; cases hb'
    ·rw[Hp.set_ne _ _ _ _ he]; exact hb'
   refine⟨h.set g cur,hle,fun b cs hb'=>?_,fun b hb'=>?_,?_⟩
   ·by_cases he:b=g
    ·subst he; rw[Hp.set_same]at hb'; injection hb' with hb'; subst hb'; exact⟨t,(0,0),hg⟩
    ·rw[Hp.set_ne _ _ _ _ he]at hb'; exact k.evo.has b cs hb'
   ·by_cases he:b=g
    ·subst he; exact .inr (by simp[hv,Value.ownBlock])
    ·rw[Hp.set_ne _ _ _ _ he]at hb'; exact .inl hb'
   ·subst hv;simp only[Rep];refine⟨some ⟨g,0,none⟩,cap,rfl,hnc,hmx,fun i x hx=>?_⟩;obtain⟨hr1,hr2⟩:=flat_at xs vals i x hlen (hr.mono hle (AW _)) hx;refine⟨⟨g,0,none⟩,_,rfl,by rw[hr1.length]; exact hlen x (List.mem_of_getElem? hx),hr1,fun j u hu=>?_⟩
    have hadd:(⟨g,0,none⟩:Addr).add (i*sz+j)=⟨g,i*sz+j,none⟩:=by unfold Addr.add; split<;>simp_all
    rw[hadd];refine⟨rfl,cur,Hp.set_same _ _ _,?_⟩;rw[List.getElem?_take]at hu;split at hu
    ·rw[List.getElem?_drop,←htake,List.getElem?_take]at hu;split at hu
     ·simpa using hu
     ·cases hu
    ·cases hu
 obtain⟨h', hle,hhas,hfr,hrep⟩:=key
 have hown:∀g,v.ownBlock=some g→blk (β b)=some g:=fun g hg=>by rw[e1]; exact(FM ho g).2 hg
 refine⟨h', v,e1,hrep,hle,⟨k.evo.os,k.evo.tape,k.evo.output,k.evo.size,k.evo.block,k.evo.le.trans hle,fun g hg=>?_,hhas⟩,k.b0,fun i=>(k.slot i).mono hle (AW β),fun x B0 hx=>?_,fun x y B1 B2 h1 h2 hne=>?_,fun x B1 g hx hg=>?_,k.dom,k.size,k.defers⟩
 ·rcases hfr g hg with h1|h1
  ·exact k.evo.fresh g h1
  ·rcases k.own b _ g hb (hown g h1)with h2|h2
   ·exact .inr (.inr h2)
   ·exact .inr (.inl h2)
 ·obtain⟨hne,h1⟩:=hbx x B0 hx
  have hn':∀g,blk (β x)=some g→h' g=none:=by
   intro g hg
   cases hh:h' g with
   | none=>rfl
   | some cs=>
    rcases hfr g (by simp[hh])with h2|h2
    ·exact absurd (k.blk_lt h1 hg).2 h2
    ·exact absurd (hown g h2) (k.apart x b B0 _ h1 hb hne g hg)
  exact(k.box x B0 h1).keep (w':=w) hle (AW β) fun g hg=>⟨rfl,hn' g hg⟩
 ·exact k.apart x y B1 B2 (hbx x B1 h1).2 (hbx y B2 h2).2 hne
 ·exact k.own x B1 g (hbx x B1 hx).2 hg
section
variable {P:Program} {tab:Tab} {n:Nat} {o:Oper} {s:St}
theorem OpJ.callF (hd:∀d,o.dst=some d→d<n) {f:FuncId} {args:List Operand} {ts:Array TypeId} (hop:o.op = .call { callee := .value (.func f),args:=⟨args⟩,argTypes:=ts }) {b:Id} {α:Type} {sz:Nat} {enc:α→List AV} {xs:List α} {t:TypeId} (hb:s.bx b=some (.row sz enc xs t))
  {az:List AV} (hle:LeL (fzL b (.sl sz enc xs) (opds s args)) az) (hcl:BN (fzL b (.sl sz enc xs) (opds s args))=true) {r:AV} (hf:PureFn P f az r):OpJ P n o s ⟨r,[],[b],[],[b]⟩:=by
 refine⟨hd,fun C s' a w h β Q K hs hbs _ k hK=>?_⟩
 have hps:opds s' args=opds s args:=DA args fun x hx=>by
  cases x with
  | tmp t=>exact hs t (by rw[hop]; simp[Op.operands,Call.operands,hx])
  | _=>rfl
 have hb':s'.bx b=some (.row sz enc xs t):=(hbs b (by simp[Eff.ts])).trans hb;obtain⟨h1,v,e1,hv,hle1,k1⟩:=k.frozen hb';have hr:=CU k args;rw[hps]at hr;have hr:=RepL.fz hle1 (v := .sl sz enc xs) (b:=b) (fun u hu _=>by rw[e1]at hu; injection hu with hu; subst hu; exact hv.mono (Ac _) (E6 β)) _ _ hr
 have hrun:(execOp a.eval o).run P w = .ok (.enter f (args.map a.eval).toArray) w:=by
  simp only[execOp,hop,resolve,Deferred.ofValue,Act.eval,Sem.run_bind,Sem.run_pure,Result.andThen,invoke,List.map_toArray,Array.append_empty];have:=CE hf.fn (#[]++(args.map a.eval).toArray) w;simpa using this
 unfold Oper.wp;rw[hrun];simp only[Oper.upon];refine(hf.calls w h1 _ k1.evo.has (hle _ _ _ (RepL.closed (β':=noB) _ _ hcl hr))).mono fun e w' ⟨u,h', he,hev,hrep⟩=>?_;subst he;have k2:=(k1.step hev).val o.dst hd (hrep.mono (Ac h') (E6 β)) [];exact hK _ _ h' β k2
variable {ops:Array Oper} {draw:Dr} {l:List Oper} {acc:List Eff} {K:Exit→St→Prop}
theorem Eo {f:FuncId} {args:List Operand} {ts:Array TypeId} (hop:o.op = .call { callee := .value (.func f),args:=⟨args⟩,argTypes:=ts }) (b:Id) {α:Type} {sz:Nat} {enc:α→List AV} {xs:List α} {t:TypeId} (hb:s.bx b=some (.row sz enc xs t)) {az:List AV} {r:AV} (hf:PureFn P f az r) (hg:gOk ops s o=true) (hd:dOk n o.dst=true)
  (hcl:BN (fzL b (.sl sz enc xs) (opds s args))=true) (hle:LeL (fzL b (.sl sz enc xs) (opds s args)) az)
  (k:Fl P n ops draw l ((Eff.mk r [] [b] [] [b]).app o.dst s) (Eff.mk r [] [b] [] [b]::acc) K) (hJ:BH draw.J (Eff.mk r [] [b] [] [b]):=by repeat'(first|exact True.intro|exact rfl|refine⟨?_,?_⟩|fail)):Fl P n ops draw (o::l) s acc K:=
 Fl.op hg (OpJ.callF (Aa hd) hop hb hle hcl hf) rfl hJ k
end
end Go.AL
/- Contracts with boxes; contracts that panic; calls of function values. -/
namespace Go.AL
inductive Res:Type 1
  | ret (r:AV)
  | thr (chain:List PanicEntry)
def idsB (bxs:List (Id×Bx)):List Id:=bxs.map (·.1)
structure BoxesAt (w:World) (h:Hp) (β:Bt) (bxs:List (Id×Bx)):Prop where
  box:∀id B,Au bxs id=some B→BoxAt w h β id B
  apart:∀id id' B B', Au bxs id=some B→Au bxs id'=some B'→id≠id'→∀g,blk (β id)=some g→blk (β id')≠some g
def Ar (bxs:List (Id×Bx)) (β:Bt) (g:Nat):Prop:=∃id B,Au bxs id=some B∧blk (β id)=some g
structure IoFn (P:Program) (f:FuncId) (args:List AV) (bxs:List (Id×Bx)) (res:Res) (bxs':List (Id×Bx)):Prop where
  fn:∃fn,P.funcs[f]? = some fn∧(fn.name == "runtime.NumGoroutine")=false∧fn.body.isNone=false
  calls:∀(w:World) (h:Hp) (β:Bt) (us:Array Value),Has w h→BoxesAt w h β bxs→(∀id,id∉idsB bxs→β id=none)→RepL h β args us.toList →
    Calls P f us w fun e w'=>∃h' β', β.le β'∧Evo (Ar bxs β) w h w' h'∧match res with
      | .ret r=>∃u,e = .returned u∧BoxesAt w' h' β' bxs'∧Rep h' β' r u∧∀id g,id∉idsB bxs→blk (β' id)=some g→w.heap.size≤g
      | .thr chain=>e = .panicked chain
mutual
theorem Rep.renTo {h:Hp} {σ:Id→Id} {ids:List Id}:∀ {β β':Bt} (_:∀id v,id∈ids→β id=some v→β' (σ id)=some v) (c:AV) (u:Value),c.within ids=true→Rep h β c u→Rep h β' (c.ren σ) u
 | _,_,_,.v x,u,_,k=>by simpa[Rep,AV.ren]using k
 | _,_,hb,.agg cs,u,hc,k=>by
  simp only[Rep,AV.ren]at k ⊢;simp only[AV.within]at hc;obtain⟨us,rfl,k⟩:=k;exact⟨us,rfl,EB hb cs _ hc k⟩
 | _,_,hb,.tup cs,u,hc,k=>by
  simp only[Rep,AV.ren]at k ⊢;simp only[AV.within]at hc;obtain⟨us,rfl,k⟩:=k;exact⟨us,rfl,EB hb cs _ hc k⟩
 | _,_,_,.sl sz enc xs,u,_,k=>by simp only[Rep,AV.ren]at k ⊢; exact k
 | _,_,_,.cptr cs,u,_,k=>by simp only[Rep,AV.ren]at k ⊢; exact k
 | _,_,hb,.ptr b off,u,hc,k=>by
  simp only[Rep,AV.ren]at k ⊢;simp only[AV.within,AZ]at hc;obtain⟨g,e,rfl⟩:=k;exact⟨g,hb _ _ hc e,rfl⟩
 | _,_,hb,.row b,u,hc,k=>by
  simp only[Rep,AV.ren]at k ⊢;simp only[AV.within,AZ]at hc;exact⟨hb _ _ hc k.1,k.2⟩
 | _,_,hb,.rptr b i,u,hc,k=>by
  simp only[Rep,AV.ren]at k ⊢;simp only[AV.within,AZ]at hc;obtain⟨g,n,c,e,rfl⟩:=k;exact⟨g,n,c,hb _ _ hc e,rfl⟩
 | _,_,hb,.mp b,u,hc,k=>by
  simp only[Rep,AV.ren]at k ⊢;simp only[AV.within,AZ]at hc;obtain⟨g,e,rfl⟩:=k;exact⟨g,hb _ _ hc e,rfl⟩
 | _,_,hb,.sub b off len,u,hc,k=>by
  simp only[Rep,AV.ren]at k ⊢;simp only[AV.within,AZ]at hc;obtain⟨g,n,c,c', e,rfl⟩:=k;exact⟨g,n,c,c', hb _ _ hc e,rfl⟩
 | _,_,hb,.fn f caps,u,hc,k=>by
  simp only[Rep,AV.ren]at k ⊢;simp only[AV.within]at hc;obtain⟨us,rfl,k⟩:=k;exact⟨us,rfl,EB hb caps _ hc k⟩
 | _,_,_,.any,u,_,_=>by simp only[Rep,AV.ren]
theorem EB {h:Hp} {σ:Id→Id} {ids:List Id}:∀ {β β':Bt} (_:∀id v,id∈ids→β id=some v→β' (σ id)=some v) (cs:List AV) (us:List Value),BE ids cs=true→RepL h β cs us→RepL h β' (renL σ cs) us
 | _,_,_,[],us,_,k=>by simpa[RepL,renL]using k
 | _,_,hb,c::cs,us,hc,k=>by
  simp only[RepL,renL]at k ⊢;simp only[BE,Bool.and_eq_true]at hc;obtain⟨u,r,rfl,k1,k2⟩:=k;exact⟨u,r,rfl,Rep.renTo hb c u hc.1 k1,EB hb cs r hc.2 k2⟩
end
def Bx.ren (σ:Id→Id):Bx→Bx
  | .cells cs t => .cells (renL σ cs) t
  | .row sz enc xs t => .row sz enc xs t
  | .map ek av xs c => .map ek av xs c
  | .iter m a l c => .iter (σ m) a l c
theorem BoxAt.renTo {w:World} {h:Hp} {β β':Bt} {σ:Id→Id} {ids:List Id} (hb:∀id v,id∈ids→β id=some v→β' (σ id)=some v) {id:Id} {B:Bx} (hid:id∈ids) (hw:B.within ids=true) (k:BoxAt w h β id B):BoxAt w h β' (σ id) (B.ren σ):=by
 cases B with
 | cells cs t=>
  obtain⟨g,us,e,hh,hr,hn⟩:=k;exact⟨g,us,hb _ _ hid e,hh,EB hb cs _ hw hr,hn⟩
 | row sz enc xs t=>
  obtain⟨v,vals,e,r⟩:=k;exact⟨v,vals,hb _ _ hid e,r⟩
 | map ek av xs c=>
  obtain⟨g,es,e,r⟩:=k;exact⟨g,es,hb _ _ hid e,r⟩
 | iter m a l c=>
  obtain⟨r,g,e,em,hr⟩:=k;simp only[Bx.within,AZ]at hw;exact⟨r,g,hb _ _ hid e,hb _ _ hw em,hr⟩
theorem boxes_of {w:World} {h:Hp} {β β':Bt} {σ:Id→Id} {ids:List Id} {s:St} {bxs:List (Id×Bx)} (hβ:∀id v,id∈ids→β (σ id)=some v→β' id=some v) (hβ2:∀id v,β' id=some v→β (σ id)=some v) (hsub:∀id,id∈idsB bxs→id∈ids) (hb:CN σ ids s bxs) (hd:Ah σ (idsB bxs)=true)
  (hbox:∀id B,s.bx id=some B→BoxAt w h β id B) (hap:∀id id' B B', s.bx id=some B→s.bx id'=some B'→id≠id'→∀g,blk (β id)=some g→blk (β id')≠some g):BoxesAt w h β' bxs:=by
 refine⟨fun b B hB=>?_,fun x y B1 B2 h1 h2 hne g e1 e2=>?_⟩
 ·obtain⟨⟨B0,h1,h2⟩,h3,h4⟩:=Az bxs hb b B hB;have hbx:=hbox _ _ h1
  cases h2 with
  | @cells cs cs' t hle=>
   obtain⟨g,us,e,hh,hr,hn⟩:=hbx;exact⟨g,us,hβ b _ (hsub b h4) e,hh,RepL.within hβ cs' _ h3 (hle _ _ _ hr),hn⟩
  | @row α sz enc xs ys t hxs=>
   subst hxs;obtain⟨v,vals,e,r⟩:=hbx;exact⟨v,vals,hβ b _ (hsub b h4) e,r⟩
  | @map κ α ek av xs ys c c' hxs hc=>
   subst hxs hc;obtain⟨g,es,e,r⟩:=hbx;exact⟨g,es,hβ b _ (hsub b h4) e,r⟩
  | @iter m m' a a' l l' c c' hm ha hl hb'=>
   subst hm ha hl hb';obtain⟨r,g,e,em,hr⟩:=hbx;simp only[Bx.within,AZ]at h3;exact⟨r,g,hβ b _ (hsub b h4) e,hβ m' _ h3 em,hr⟩
 ·obtain⟨⟨B3,h3,_⟩,_,m1⟩:=Az bxs hb x B1 h1;obtain⟨⟨B4,h4,_⟩,_,m2⟩:=Az bxs hb y B2 h2
  have hb1:∀id g,blk (β' id)=some g→blk (β (σ id))=some g:=by
   intro id g hg
   cases hq:β' id with
   | none=>rw[hq]at hg; simp[blk]at hg
   | some v=>rw[hβ2 id v hq,←hq]; exact hg
  exact hap _ _ B3 B4 h3 h4 (DR _ hd x y m1 m2 hne) g (hb1 x g e1) (hb1 y g e2)
theorem Be:∀(l:List (Id×Bx)) (i:Id) (B:Bx),Au l i=some B→i∈idsB l
 | [],i,B,h=>by simp[Au]at h
 | (j,v)::r,i,B,h=>by
  by_cases hi:i=j
  ·subst hi; simp[idsB]
  ·simp only[Au,Ak hi]at h;have:=Be r i B h;simp only[idsB,List.map_cons,List.mem_cons]at this ⊢;exact .inr this
theorem Av:∀(l:List (Id×Bx)) (i:Id),i∈idsB l→∃B,Au l i=some B
 | [],i,h=>by simp[idsB]at h
 | (j,v)::r,i,h=>by
  by_cases hi:i=j
  ·subst hi; exact⟨v,by simp[Au]⟩
  ·simp only[idsB,List.map_cons,List.mem_cons]at h;obtain⟨B,hB⟩:=Av r i (h.resolve_left hi);exact⟨B,by simp only[Au,Ak hi]; exact hB⟩
structure RetIo (n:Nat) (I:List Id) (tab:Tab) (rs:List ResultVar) (r:AV) (bxs':List (Id×Bx)) (s:St):Prop where
  out:∃(σ:List (Id×Id)) (s':St) (r':AV),Ent n I s s'∧resA tab s' rs=some r'∧r'.Le (r.ren (renI σ))∧r.within (idsB bxs')=true∧CN (renI σ) (idsB bxs') s' bxs'∧Ah (renI σ) (idsB bxs')=true∧(I.all fun id=>Nat.beq (renI σ id) id)=true
def RetX (n:Nat) (I:List Id) (tab:Tab) (rs:List ResultVar) (res:Res) (bxs':List (Id×Bx)):Exit→St→Prop
  | .normal,s=>match res with | .ret r=>RetIo n I tab rs r bxs' s | .thr _=>False
  | .ret,s=>match res with | .ret r=>RetIo n I tab rs r bxs' s | .thr _=>False
  | .panic c,_=>match res with | .ret _=>False | .thr chain=>c=chain
  | _,_=>False
def Bh (args:List AV) (bxs:List (Id×Bx)):St:=⟨initE args,Au bxs,fun id=>memI (idsB bxs) id⟩
theorem Ed {h:Hp} {β:Bt}:∀(az:List AV) (vs:List Value) (i:Nat) (v:Value),RepL h β az vs→vs[i]? = some v→Rep h β (initE az i) v
 | [],vs,i,v,hr,hv=>by simp only[RepL]at hr; subst hr; simp at hv
 | a::az,vs,i,v,hr,hv=>by
  simp only[RepL]at hr;obtain⟨u,r', rfl,h1,h2⟩:=hr
  cases i with
  | zero=>simp at hv; subst hv; exact h1
  | succ i=>exact Ed az r' i v h2 (by simpa using hv)
theorem Ee:∀(az:List AV) (i:Nat),az.length≤i→initE az i = .any
 | [],i,_=>rfl
 | a::az,i,hi=>by
  cases i with
  | zero=>simp at hi
  | succ i=>exact Ee az i (by simpa using hi)
section
variable {P:Program} {tab:Tab} {n:Nat}
theorem RetIo.fin [f:Facts P tab] {fn:Func} {bxs bxs':List (Id×Bx)} {β:Bt} {w w':World} {hp h':Hp} {β':Bt} {a':Act} {s':St} (hsub:((idsB bxs).all fun id=>memI (idsB bxs') id)=true) (hini:IniOk ⟨w,hp,β,Ar bxs β,[]⟩ (idsB bxs)) (b:Base ⟨w,hp,β,Ar bxs β,[]⟩ n s' a' w' h' β'):∀r,RetIo n (idsB bxs) tab fn.results.toList r bxs' s'→a'.defers=[]∧∃v,(results fn a'.tmps).run P w' = .ok v w'∧∃h' β', β.le β'∧Evo (Ar bxs β) w hp w' h'∧∃u,Ending.returned v = .returned u∧BoxesAt w' h' β' bxs'∧Rep h' β' r u∧∀id g,id∉idsB bxs→blk (β' id)=some g→w.heap.size≤g:=by
 intro r hq;obtain⟨σ,s2,r', hent,h1,h2,h3,h4,h5,h6⟩:=hq.out;obtain⟨h', β', b⟩:=hent _ _ _ _ _ hini b;obtain⟨v,hv1,hv2⟩:=Ez (P:=P) b h1;refine⟨b.defers,v,hv1,h', fun id=>match memI (idsB bxs') id with|true=>β' (renI σ id)|false=>none,?_,b.evo,v,rfl,?_,?_,?_⟩
 ·intro id u hu;have hm:id∈idsB bxs:=hini id (by simp[hu]);rw[List.all_eq_true]at hsub h6;show(match memI (idsB bxs') id with|true=>β' (renI σ id)|false=>none)=some u;rw[hsub id hm,Nat.eq_of_beq_eq_true (h6 id hm)];exact b.b0 _ _ hu
 ·refine boxes_of (β:=β') (σ:=renI σ) (ids:=idsB bxs') (s:=s2) (fun id v hm hv=>?_) (fun id v hv=>?_) (fun _ h=>h) h4 h5 b.box b.apart
  ·simp only[(AZ _ _).2 hm]; exact hv
  ·have hv:(match memI (idsB bxs') id with|true=>β' (renI σ id)|false=>none)=some v:=hv;split at hv
   ·exact hv
   ·cases hv
 ·exact Rep.within (fun id v hm hv=>by simp only[(AZ _ _).2 hm]; exact hv) _ _ h3 (h2 _ _ _ hv2)
 ·intro id g hid hg;have hg:blk (match memI (idsB bxs') id with|true=>β' (renI σ id)|false=>none)=some g:=hg;split at hg
  ·rename_i hm;obtain⟨B,hB⟩:=Av bxs' id ((AZ _ _).1 hm);obtain⟨⟨B0,hB0,_⟩,_,_⟩:=Az bxs' h4 id B hB;rcases b.own _ B0 g hB0 hg with hM|hM
   ·exfalso;obtain⟨id0,B1,q1,q2⟩:=hM;have hm0:=Be bxs id0 B1 q1;rw[List.all_eq_true]at hsub h6;obtain⟨B2,hB2⟩:=Av bxs' id0 ((AZ _ _).1 (hsub id0 hm0));obtain⟨⟨B3,hB3,_⟩,_,_⟩:=Az bxs' h4 id0 B2 hB2;have hne:id≠id0:=fun e=>hid (e▸hm0);have hd:=DR _ h5 id id0 ((AZ _ _).1 hm) ((AZ _ _).1 (hsub id0 hm0)) hne;refine b.apart _ _ _ _ hB0 hB3 hd g hg ?_;rw[Nat.eq_of_beq_eq_true (h6 id0 hm0)]
    cases hq:β id0 with
    | none=>rw[hq]at q2; simp[blk]at q2
    | some v=>rw[b.b0 _ _ hq,←hq]; exact q2
   ·exact hM
  ·simp[blk]at hg
theorem AH [f:Facts P tab] {k:FuncId} {fn:Func} {c:Code} {args:List AV} {bxs bxs':List (Id×Bx)} {res:Res} (hf:P.funcs[k]? = some fn) (hb:fn.body=some c) (hn:fn.ntmps=n) (hname:(fn.name == "runtime.NumGoroutine")=false) (hl:Nat.ble args.length n=true) (hsub:((idsB bxs).all fun id=>memI (idsB bxs') id)=true)
  (h:AWP P n (idsB bxs) c (RetX n (idsB bxs) tab fn.results.toList res bxs') (Bh args bxs)):IoFn P k args bxs res bxs':=by
 have hl:=Nat.le_of_ble_eq_true hl;refine⟨⟨fn,hf,hname,by rw[hb]; rfl⟩,fun w hp β us hw hbx hβn hr=>?_⟩;refine calls_of_wp hf hb ?_
 have hus:us.size=args.length:=by rw[←Array.length_toList]; exact hr.length
 have hbase:Base ⟨w,hp,β,Ar bxs β,[]⟩ n (Bh args bxs) { tmps:=us++Array.replicate (fn.ntmps-us.size) undef,defers:=[] } w hp β:=by
  refine⟨Evo.refl _ hw,AW _,fun i=>?_,hbx.box,hbx.apart,fun id B g hB hg => .inl ⟨id,B,hB,hg⟩,fun id hid=>hβn id (fun hm=>by rw[←AZ]at hm; simp only[Bh]at hid; rw[hm]at hid; cases hid),by simp; omega,rfl⟩;simp only[Bh];by_cases hi:i<us.size
  ·have hget:(us++Array.replicate (fn.ntmps-us.size) undef).getD i undef=us[i]:=by
    simp[Array.getD_eq_getD_getElem?,Array.getElem?_append,hi]
   rw[hget];exact Ed args us.toList i _ hr (by simp[hi])
  ·rw[Ee args i (by omega)];simp only[Rep]
 have hini:IniOk ⟨w,hp,β,Ar bxs β,[]⟩ (idsB bxs):=fun id hid=>by
  rcases Classical.em (id∈idsB bxs)with hm|hm
  ·exact hm
  ·exact absurd (hβn id hm) hid
 refine wp_mono (h.out ⟨w,hp,β,Ar bxs β,[]⟩ _ w hp β hini hbase) fun e a' w' ⟨s', h', β', b,q⟩=>?_;have fin:=RetIo.fin (f:=f) (fn:=fn) hsub hini b
 cases e with
 | normal=>
  cases res with
  | ret r=>exact fin r q
  | thr _=>exact q.elim
 | ret=>
  cases res with
  | ret r=>exact fin r q
  | thr _=>exact q.elim
 | panic c=>
  cases res with
  | ret r=>exact q.elim
  | thr chain=>
   have q:c=chain:=q;exact⟨b.defers,h', β', b.b0,b.evo,by rw[q]⟩
 | _=>exact q.elim
end
end Go.AL
/- Calls by contracts with boxes. -/
namespace Go.AL
def renB (σ:Id→Id):List (Id×Bx)→List (Id×Bx)
  | []=>[]
  | (i,B)::r=>(σ i,B.ren σ)::renB σ r
def newB (bxs:List (Id×Bx)) (σ:Id→Id):List (Id×Bx)→List Id
  | []=>[]
  | (i,_)::r=>match memI (idsB bxs) i with|true=>newB bxs σ r|false=>σ i::newB bxs σ r
def Df (σ:Id→Id):List (Id×Bx)→Id→Option Id
  | [],_=>none
  | (i,_)::r,j=>match Nat.beq j (σ i)with|true=>some i|false=>Df σ r j
theorem DE (σ:Id→Id):∀(l:List (Id×Bx)) (j i:Id),Df σ l j=some i→σ i=j∧i∈idsB l
 | [],_,_,h=>by simp[Df]at h
 | (k,B)::r,j,i,h=>by
  simp only[Df]at h
  cases hb:Nat.beq j (σ k)with
  | true=>rw[hb]at h; injection h with h; subst h; exact⟨(Nat.eq_of_beq_eq_true hb).symm,by simp[idsB]⟩
  | false=>
   rw[hb]at h;obtain⟨h1,h2⟩:=DE σ r j i h;exact⟨h1,by simp only[idsB,List.map_cons,List.mem_cons]at h2 ⊢; exact .inr h2⟩
theorem findB_none (σ:Id→Id):∀(l:List (Id×Bx)) (j:Id),Df σ l j=none→∀i∈idsB l,σ i≠j
 | [],_,_,i,h=>by simp[idsB]at h
 | (k,B)::r,j,h,i,hi=>by
  simp only[Df]at h
  cases hb:Nat.beq j (σ k)with
  | true=>rw[hb]at h; cases h
  | false=>
   rw[hb]at h;simp only[idsB,List.map_cons,List.mem_cons]at hi;rcases hi with rfl|hi
   ·intro e; rw[e]at hb; simp at hb
   ·exact findB_none σ r j h i hi
theorem findB_of (σ:Id→Id) (l:List (Id×Bx)) (hd:Ah σ (idsB l)=true) (i:Id) (hi:i∈idsB l):Df σ l (σ i)=some i:=by
 cases hf:Df σ l (σ i)with
 | none=>exact absurd rfl (findB_none σ l _ hf i hi)
 | some k=>
  obtain⟨h1,h2⟩:=DE σ l _ k hf;rcases Classical.em (k=i)with h|h
  ·rw[h]
  ·exact absurd h1 (DR _ hd k i h2 hi h)
theorem updB_renB (σ:Id→Id) (bx:Id→Option Bx):∀(l:List (Id×Bx)),Ah σ (idsB l)=true→∀j,(∃id B,Au l id=some B∧σ id=j∧updB (renB σ l) bx j=some (B.ren σ))∨((∀id∈idsB l,σ id≠j)∧updB (renB σ l) bx j=bx j)
 | [],_,j => .inr ⟨fun id h=>by simp[idsB]at h,rfl⟩
 | (i,B)::r,hd,j=>by
  by_cases hj:j=σ i
  ·subst hj;exact .inl ⟨i,B,by simp[Au],rfl,by simp[renB,updB]⟩
  ·have hd':Ah σ (idsB r)=true:=by
    simp only[idsB,List.map_cons,Ah,Bool.and_eq_true]at hd;exact hd.2
   have hu:updB (renB σ ((i,B)::r)) bx j=updB (renB σ r) bx j:=by simp only[renB,updB,Ak hj]
   rcases updB_renB σ bx r hd' j with⟨id,B', h1,h2,h3⟩|⟨h1,h2⟩
   ·refine .inl ⟨id,B', ?_,h2,by rw[hu]; exact h3⟩;have:id≠i:=fun e=>hj (by rw[←e]; exact h2.symm);simp only[Au,Ak this]; exact h1
   ·refine .inr ⟨fun id hid=>?_,by rw[hu]; exact h2⟩;simp only[idsB,List.map_cons,List.mem_cons]at hid;rcases hid with rfl|hid
    ·exact fun e=>hj e.symm
    ·exact h1 id hid
theorem delB_some:∀(l:List Id) (bx:Id→Option Bx) (j:Id) (B:Bx),delB l bx j=some B→bx j=some B∧j∉l
 | [],_,_,_,h=>⟨h,by simp⟩
 | x::l,bx,j,B,h=>by
  simp only[delB]at h;by_cases hj:j=x
  ·subst hj; simp at h
  ·simp only[Ak hj]at h;obtain⟨h1,h2⟩:=delB_some l bx j B h;exact⟨h1,by simp[hj,h2]⟩
theorem DO (bxs:List (Id×Bx)) (σ:Id→Id):∀(l:List (Id×Bx)) (j:Id),j∈newB bxs σ l↔∃i∈idsB l,i∉idsB bxs∧σ i=j
 | [],j=>by simp[newB,idsB]
 | (i,B)::r,j=>by
  simp only[newB]
  cases hm:memI (idsB bxs) i with
  | true=>
   simp only;rw[DO bxs σ r j];constructor
   ·rintro⟨k,h1,h2⟩; exact⟨k,by simp only[idsB,List.map_cons,List.mem_cons]at h1 ⊢; exact .inr h1,h2⟩
   ·rintro⟨k,h1,h2,h3⟩;simp only[idsB,List.map_cons,List.mem_cons]at h1;rcases h1 with rfl|h1
    ·exact absurd ((AZ _ _).1 hm) h2
    ·exact⟨k,h1,h2,h3⟩
  | false=>
   simp only[List.mem_cons];rw[DO bxs σ r j];constructor
   ·rintro(rfl|⟨k,h1,h2⟩)
    ·exact⟨i,by simp[idsB],(fun h=>by rw[(AZ _ _).2 h]at hm; cases hm),rfl⟩
    ·exact⟨k,by simp only[idsB,List.map_cons,List.mem_cons]at h1 ⊢; exact .inr h1,h2⟩
   ·rintro⟨k,h1,h2,h3⟩;simp only[idsB,List.map_cons,List.mem_cons]at h1;rcases h1 with rfl|h1
    ·exact .inl h3.symm
    ·exact .inr ⟨k,h1,h2,h3⟩
section
variable {P:Program} {tab:Tab} {n:Nat} {o:Oper} {s:St}
theorem FL {σ:Id→Id} {ids:List Id} {s s':St}:∀(l:List (Id×Bx)),(∀i∈idsB l,s'.bx (σ i)=s.bx (σ i))→CN σ ids s l→CN σ ids s' l
 | [],_,_=>trivial
 | (i,B)::r,hs,hb=>by
  simp only[CN]at hb ⊢;refine⟨⟨?_,hb.1.2⟩,FL r (fun k hk=>hs k (by simp only[idsB,List.map_cons,List.mem_cons]at hk ⊢; exact .inr hk)) hb.2⟩;obtain⟨B0,h1,h2⟩:=hb.1.1;exact⟨B0,(hs i (by simp[idsB])).trans h1,h2⟩
theorem OpJ.io (hd:∀d,o.dst=some d→d<n) {f:FuncId} {args args':List AV} (hrun:∀(s':St) (C:Cx) (a:Act) (w:World) (h:Hp) (β:Bt),(∀t,Operand.tmp t∈o.op.operands→s'.env t=s.env t)→Base C n s' a w h β→∃us:Array Value,((∃fn,P.funcs[f]? = some fn∧(fn.name == "runtime.NumGoroutine")=false∧fn.body.isNone=false)→(execOp a.eval o).run P w = .ok (.enter f us) w)∧RepL h β args us.toList)
  (σ:List (Id×Id)) {bxs bxs':List (Id×Bx)} {r:AV} (hf:IoFn P f args' bxs (.ret r) bxs') (hle:LeL args (renL (renI σ) args')) (hw:BE (idsB bxs) args'=true) (hb:CN (renI σ) (idsB bxs) s bxs)
  (hd1:Ah (renI σ) (idsB bxs')=true) (hrw:r.within (idsB bxs')=true) (hbw:(bxs'.all fun p=>p.2.within (idsB bxs'))=true) (hdb:Ah (renI σ) (idsB bxs)=true) :
  OpJ P n o s ⟨r.ren (renI σ),renB (renI σ) bxs', newB bxs' (renI σ) bxs,newB bxs (renI σ) bxs', (idsB bxs).map (renI σ)⟩:=by
 refine⟨hd,fun C s' a w h β Q K hs hbs hal k hK=>?_⟩;rw[List.all_eq_true]at hbw;have hb':CN (renI σ) (idsB bxs) s' bxs:=FL bxs (fun i hi=>hbs _ (by simp only[Eff.ts,List.mem_append,List.mem_map]; exact .inl ⟨i,hi,rfl⟩)) hb;obtain⟨us,hrun,hus⟩:=hrun s' C a w h β hs k;have hrun:=hrun hf.fn
 let β1:Bt:=fun id=>match memI (idsB bxs) id with|true=>β (renI σ id)|false=>none
 have hβ:∀id v,id∈idsB bxs→β (renI σ id)=some v→β1 id=some v:=fun id v hm hv=>by
  show(match memI (idsB bxs) id with|true=>β (renI σ id)|false=>none)=some v;rw[(AZ _ _).2 hm]; exact hv
 have hβ2:∀id v,β1 id=some v→β (renI σ id)=some v:=fun id v hv=>by
  have hv:(match memI (idsB bxs) id with|true=>β (renI σ id)|false=>none)=some v:=hv;split at hv
  ·exact hv
  ·cases hv
 have hβn:∀id,id∉idsB bxs→β1 id=none:=fun id hid=>by
  show(match memI (idsB bxs) id with|true=>β (renI σ id)|false=>none)=none
  have:memI (idsB bxs) id=false:=by
   cases hm:memI (idsB bxs) id with
   | false=>rfl
   | true=>exact absurd ((AZ _ _).1 hm) hid
  rw[this]
 have hbx:=boxes_of hβ hβ2 (fun _ h=>h) hb' hdb k.box k.apart;have hargs:RepL h β1 args' us.toList:=RepL.within hβ args' _ hw (hle _ _ _ hus);unfold Oper.wp;rw[hrun];simp only[Oper.upon];refine(hf.calls w h β1 us k.evo.has hbx hβn hargs).mono fun e w' ⟨h', β1', hle1,hev,q⟩=>?_;obtain⟨u,rfl,hbx', hru,hnew⟩:=q
 -- who is whose
 have hM:∀g,Ar bxs β1 g→∃id B,id∈idsB bxs∧s'.bx (renI σ id)=some B∧blk (β (renI σ id))=some g:=by
  rintro g ⟨id,B,h1,h2⟩;have hm:=Be bxs id B h1;obtain⟨⟨B0,h3,_⟩,_,_⟩:=Az bxs hb' id B h1;refine⟨id,B0,hm,h3,?_⟩
  cases hq:β1 id with
  | none=>rw[hq]at h2; simp[blk]at h2
  | some v=>rw[hβ2 id v hq,←hq]; exact h2
 have hold:∀id,id∈idsB bxs→β1' id=β (renI σ id):=by
  intro id hm;obtain⟨B,hB⟩:=Av bxs id hm
  have hbv:∃v,β1 id=some v:=by
   have:=hbx.box id B hB
   cases B with
   | cells cs t=>obtain⟨g,us,e,_⟩:=this; exact⟨_,e⟩
   | row sz enc xs t=>obtain⟨v,vals,e,_⟩:=this; exact⟨_,e⟩
   | map ek av xs c=>obtain⟨g,es,e,_⟩:=this; exact⟨_,e⟩
   | iter m a l c=>obtain⟨r,g,e,_⟩:=this; exact⟨_,e⟩
  obtain⟨v,hv⟩:=hbv;rw[hle1 _ _ hv,hβ2 _ _ hv]
 let β':Bt:=fun j=>match Df (renI σ) bxs' j with|some i=>β1' i|none=>β j
 have hfind:∀id,id∈idsB bxs'→β' (renI σ id)=β1' id:=fun id hid=>by
  show(match Df (renI σ) bxs' (renI σ id)with|some i=>β1' i|none=>β (renI σ id))=_;rw[findB_of _ _ hd1 id hid]
 have hother:∀j,(∀id∈idsB bxs', renI σ id≠j)→β' j=β j:=fun j hj=>by
  show(match Df (renI σ) bxs' j with|some i=>β1' i|none=>β j)=_
  cases hf:Df (renI σ) bxs' j with
  | none=>rfl
  | some i=>exact absurd (DE _ _ _ _ hf).1 (hj i (DE _ _ _ _ hf).2)
 have hnewal:∀id,id∈idsB bxs'→id∉idsB bxs→β (renI σ id)=none:=fun id h1 h2=>
  k.dom _ (hal _ ((DO bxs (renI σ) bxs' _).2 ⟨id,h1,h2,rfl⟩))
 have hββ':β.le β':=by
  intro j v hv;rcases Classical.em (∃id∈idsB bxs', renI σ id=j)with⟨id,h1,rfl⟩|hn
  ·rw[hfind id h1];rcases Classical.em (id∈idsB bxs)with h2|h2
   ·rw[hold id h2]; exact hv
   ·rw[hnewal id h1 h2]at hv; cases hv
  ·rw[hother j (fun id h1 h2=>hn ⟨id,h1,h2⟩)]; exact hv
 have hto:∀id v,id∈idsB bxs'→β1' id=some v→β' (renI σ id)=some v:=fun id v h1 h2=>by rw[hfind id h1]; exact h2
 have hevo:Evo C.M C.w0 C.h0 w' h':=k.evo.trans hev fun g hg=>by
  obtain⟨id,B,_,h1,h2⟩:=hM g hg;exact k.own _ B g h1 h2
 -- boxes: the renamed ones; the others
 have hcase:∀j B,delB (newB bxs' (renI σ) bxs) (updB (renB (renI σ) bxs') s'.bx) j=some B→(∃id B0,id∈idsB bxs'∧Au bxs' id=some B0∧renI σ id=j∧B=B0.ren (renI σ))∨(((∀id∈idsB bxs', renI σ id≠j)∧∀id∈idsB bxs,renI σ id≠j)∧s'.bx j=some B):=by
  intro j B hB;obtain⟨hB,hnd⟩:=delB_some _ _ _ _ hB;rcases updB_renB (renI σ) s'.bx bxs' hd1 j with⟨id,B0,h1,h2,h3⟩|⟨h1,h2⟩
  ·rw[h3]at hB; injection hB with hB;exact .inl ⟨id,B0,Be _ _ _ h1,h1,h2,hB.symm⟩
  ·rw[h2]at hB;refine .inr ⟨⟨h1,fun id hid e=>?_⟩,hB⟩;rcases Classical.em (id∈idsB bxs')with hm|hm
   ·exact h1 id hm e
   ·exact hnd ((DO bxs' (renI σ) bxs j).2 ⟨id,hid,hm,e⟩)
 have hblkNew:∀id g,id∈idsB bxs'→blk (β1' id)=some g→(id∈idsB bxs∧blk (β (renI σ id))=some g)∨w.heap.size≤g:=by
  intro id g h1 h2;rcases Classical.em (id∈idsB bxs)with h3|h3
  ·exact .inl ⟨h3,by rw[←hold id h3]; exact h2⟩
  ·exact .inr (hnew id g h3 h2)
 have hsafe:∀j B g,((∀id∈idsB bxs', renI σ id≠j)∧∀id∈idsB bxs,renI σ id≠j)→s'.bx j=some B→blk (β j)=some g→¬Ar bxs β1 g:=by
  intro j B g h1 h2 h3 h4;obtain⟨id,B0,h5,h6,h7⟩:=hM g h4;exact k.apart _ _ _ _ h6 h2 (h1.2 id h5) g h7 h3
 have hblk:∀j B g,((∀id∈idsB bxs', renI σ id≠j)∧∀id∈idsB bxs,renI σ id≠j)→s'.bx j=some B→blk (β j)=some g→w'.heap[g]? = w.heap[g]? ∧ h' g=none:=by
  intro j B g h1 h2 h3;have hlt:=k.blk_lt h2 h3;have hs:=hsafe j B g h1 h2 h3;refine⟨hev.block g hlt.1 hs,?_⟩
  cases hh:h' g with
  | none=>rfl
  | some cs=>
   rcases hev.fresh g (by simp[hh])with h4|h4|h4
   ·exact absurd hlt.2 h4
   ·omega
   ·exact absurd h4 hs
 refine hK _ _ h' β' ⟨hevo,k.b0.trans hββ', fun i=>?_,fun j B hB=>?_,fun x y B1 B2 h1 h2 hne g e1 e2=>?_,fun x B1 g hx hg=>?_,fun id hid=>?_,?_,?_⟩
 ·have hr:Rep h' β' (r.ren (renI σ)) u:=Rep.renTo hto _ _ hrw hru
  cases hdst:o.dst with
  | none=>exact(k.slot i).mono hev.le hββ'
  | some d=>
   by_cases hi:i=d
   ·subst hi;simp only[Eff.app,Bd]
    have:(a.put (some i) u).tmps.getD i undef=u:=by
     have hlt:i<a.tmps.size:=by rw[k.size]; exact hd i hdst
     simp[Act.put,hlt]
    rw[this]; exact hr
   ·simp only[Eff.app];rw[Bi _ _ _ _ (by intro e; injection e with e; exact hi e.symm)]
    have:(a.put (some d) u).tmps.getD i undef=a.tmps.getD i undef:=by
     simp[Act.put,Array.getElem?_setIfInBounds_ne (Ne.symm hi)]
    rw[this]; exact(k.slot i).mono hev.le hββ'
 ·simp only[Eff.app]at hB;rcases hcase j B hB with⟨id,B0,h1,h2,rfl,rfl⟩|⟨h1,h2⟩
  ·refine BoxAt.renTo hto h1 ?_ (hbx'.box id B0 h2)
   have hm:∀(l:List (Id×Bx)) (i:Id) (B:Bx),Au l i=some B→(i,B)∈l:=by
    intro l
    induction l with
    | nil=>intro i B h; simp[Au]at h
    | cons p l ih=>
     obtain⟨q,V⟩:=p;intro i B h;by_cases hi:i=q
     ·subst hi; simp[Au]at h; subst h; simp
     ·simp only[Au,Ak hi]at h; exact List.mem_cons_of_mem _ (ih i B h)
   exact hbw _ (hm bxs' id B0 h2)
  ·exact(k.box j B h2).keep hev.le hββ' (hblk j B · h1 h2)
 ·simp only[Eff.app]at h1 h2;rcases hcase x B1 h1 with⟨i1,C1,m1,l1,rfl,rfl⟩|⟨n1,b1⟩<;>rcases hcase y B2 h2 with⟨i2,C2,m2,l2,rfl,rfl⟩|⟨n2,b2⟩
  ·rw[hfind i1 m1]at e1; rw[hfind i2 m2]at e2;exact hbx'.apart i1 i2 C1 C2 l1 l2 (fun e=>hne (by rw[e])) g e1 e2
  ·rw[hfind i1 m1]at e1; rw[hother y n2.1]at e2;rcases hblkNew i1 g m1 e1 with⟨h3,h4⟩|h3
   ·obtain⟨B,hB⟩:=Av bxs i1 h3;obtain⟨⟨B0,h5,_⟩,_,_⟩:=Az bxs hb' i1 B hB;exact k.apart _ _ _ _ h5 b2 hne g h4 e2
   ·have:=(k.blk_lt b2 e2).1; omega
  ·rw[hother x n1.1]at e1; rw[hfind i2 m2]at e2;rcases hblkNew i2 g m2 e2 with⟨h3,h4⟩|h3
   ·obtain⟨B,hB⟩:=Av bxs i2 h3;obtain⟨⟨B0,h5,_⟩,_,_⟩:=Az bxs hb' i2 B hB;exact k.apart _ _ _ _ b1 h5 hne g e1 h4
   ·have:=(k.blk_lt b1 e1).1; omega
  ·rw[hother x n1.1]at e1; rw[hother y n2.1]at e2;exact k.apart x y B1 B2 b1 b2 hne g e1 e2
 ·simp only[Eff.app]at hx;rcases hcase x B1 hx with⟨i1,C1,m1,l1,rfl,rfl⟩|⟨n1,b1⟩
  ·rw[hfind i1 m1]at hg;rcases hblkNew i1 g m1 hg with⟨h3,h4⟩|h3
   ·obtain⟨B,hB⟩:=Av bxs i1 h3;obtain⟨⟨B0,h5,_⟩,_,_⟩:=Az bxs hb' i1 B hB;exact k.own _ B0 g h5 h4
   ·exact .inr (Nat.le_trans k.evo.size h3)
  ·rw[hother x n1.1]at hg;exact k.own x B1 g b1 hg
 ·simp only[Eff.app]at hid;rw[E8]at hid;simp only[Bool.or_eq_false_iff]at hid;have hb0:=k.dom id hid.2;rcases Classical.em (∃i∈idsB bxs', renI σ i=id)with⟨i,h1,rfl⟩|hn
  ·rw[hfind i h1];rcases Classical.em (i∈idsB bxs)with h2|h2
   ·rw[hold i h2]; exact hb0
   ·have:=(DO bxs (renI σ) bxs' (renI σ i)).2 ⟨i,h1,h2,rfl⟩;have h3:=hid.1;rw[List.elem_eq_mem]at h3;simp[this]at h3
  ·rw[hother id (fun i h1 h2=>hn ⟨i,h1,h2⟩)]; exact hb0
 ·cases o.dst<;>simp[Act.put,k.size]
 ·cases o.dst<;>simp[Act.put,k.defers]
end
end Go.AL
/- The rules for calls by contracts with boxes, for calls that panic, for calls of function values. -/
namespace Go.AL
structure Runs (P:Program) (n:Nat) (o:Oper) (s:St) (f:FuncId) (az:List AV):Prop where
  out:∀(s':St) (C:Cx) (a:Act) (w:World) (h:Hp) (β:Bt),(∀t,Operand.tmp t∈o.op.operands→s'.env t=s.env t)→Base C n s' a w h β →
    ∃us:Array Value,((∃fn,P.funcs[f]? = some fn∧(fn.name == "runtime.NumGoroutine")=false∧fn.body.isNone=false)→(execOp a.eval o).run P w = .ok (.enter f us) w)∧RepL h β az us.toList
section
variable {P:Program} {tab:Tab} {n:Nat} {o:Oper} {s:St}
theorem EQ {f:FuncId} {args:List Operand} {ts:Array TypeId} (hop:o.op = .call { callee := .value (.func f),args:=⟨args⟩,argTypes:=ts }):Runs P n o s f (opds s args):=by
 refine⟨fun s' C a w h β hs k=>⟨(args.map a.eval).toArray,fun hfn=>?_,?_⟩⟩
 ·simp only[execOp,hop,resolve,Deferred.ofValue,Act.eval,Sem.run_bind,Sem.run_pure,Result.andThen,invoke,List.map_toArray,Array.append_empty];have:=CE hfn (#[]++(args.map a.eval).toArray) w;simpa using this
 ·have hps:opds s' args=opds s args:=DA args fun x hx=>by
   cases x with
   | tmp t=>exact hs t (by rw[hop]; simp[Op.operands,Call.operands,hx])
   | _=>rfl
  have hr:=CU k args;rwa [hps]at hr
theorem Runs.value {f:FuncId} {x:Operand} {args:List Operand} {ts:Array TypeId} {caps:List AV} (hop:o.op = .call { callee := .value x,args:=⟨args⟩,argTypes:=ts }) (hx:opd s x = .fn f caps):Runs P n o s f (opds s args++caps):=by
 refine⟨fun s' C a w h β hs k=>?_⟩
 have hxs:opd s' x=opd s x:=by
  cases x with
  | tmp t=>exact hs t (by rw[hop]; simp[Op.operands,Call.operands])
  | _=>rfl
 have hxr:=AK k x;rw[hxs,hx]at hxr;simp only[Rep]at hxr;obtain⟨cu,hcu,hcr⟩:=hxr
 have hps:opds s' args=opds s args:=DA args fun x hx=>by
  cases x with
  | tmp t=>exact hs t (by rw[hop]; simp[Op.operands,Call.operands,hx])
  | _=>rfl
 have hr:=CU k args;rw[hps]at hr;refine⟨(args.map a.eval).toArray++cu,fun hfn=>?_,by simpa using hr.append hcr⟩;simp only[execOp,hop,resolve,hcu,Deferred.ofValue,Sem.run_bind,Sem.run_pure,Result.andThen,invoke,List.map_toArray];have:=CE hfn ((args.map a.eval).toArray++cu) w;simpa using this
theorem OpJ.callG (hd:∀d,o.dst=some d→d<n) {f:FuncId} {args az:List AV} (hrun:Runs P n o s f args) (hle:LeL args az) (hcl:BN args=true) {r:AV} (hf:PureFn P f az r):OpJ P n o s ⟨r,[],[],[],[]⟩:=by
 refine⟨hd,fun C s' a w h β Q K hs _ _ k hK=>?_⟩;obtain⟨us,hrun,hus⟩:=hrun.out s' C a w h β hs k;unfold Oper.wp;rw[hrun hf.fn];simp only[Oper.upon];refine(hf.calls w h _ k.evo.has (hle _ _ _ (RepL.closed (β':=noB) _ _ hcl hus))).mono fun e w' ⟨u,h', he,hev,hrep⟩=>?_;subst he;exact hK _ _ h' β ((k.step hev).val o.dst hd (hrep.mono (Ac h') (E6 β)) [])
theorem ThrJ.io {J:Inv} {f:FuncId} {args args':List AV} (hrun:Runs P n o s f args) (σ:List (Id×Id)) {bxs bxs':List (Id×Bx)} {chain:List PanicEntry} (hf:IoFn P f args' bxs (.thr chain) bxs') (hle:LeL args (renL (renI σ) args')) (hw:BE (idsB bxs) args'=true) (hb:CN (renI σ) (idsB bxs) s bxs)
  (hdb:Ah (renI σ) (idsB bxs)=true):ThrJ P n J o s ⟨.any,[],[],[],(idsB bxs).map (renI σ)⟩ chain:=by
 intro C s' a w h β Q K _ hs hbs k hQ;have hb':CN (renI σ) (idsB bxs) s' bxs:=FL bxs (fun i hi=>hbs _ (by simp only[Eff.ts,List.mem_append,List.mem_map]; exact .inl ⟨i,hi,rfl⟩)) hb;obtain⟨us,hrun,hus⟩:=hrun.out s' C a w h β hs k
 let β1:Bt:=fun id=>match memI (idsB bxs) id with|true=>β (renI σ id)|false=>none
 have hβ:∀id v,id∈idsB bxs→β (renI σ id)=some v→β1 id=some v:=fun id v hm hv=>by
  show(match memI (idsB bxs) id with|true=>β (renI σ id)|false=>none)=some v;rw[(AZ _ _).2 hm]; exact hv
 have hβ2:∀id v,β1 id=some v→β (renI σ id)=some v:=fun id v hv=>by
  have hv:(match memI (idsB bxs) id with|true=>β (renI σ id)|false=>none)=some v:=hv;split at hv
  ·exact hv
  ·cases hv
 have hβn:∀id,id∉idsB bxs→β1 id=none:=fun id hid=>by
  show(match memI (idsB bxs) id with|true=>β (renI σ id)|false=>none)=none
  have:memI (idsB bxs) id=false:=by
   cases hm:memI (idsB bxs) id with
   | false=>rfl
   | true=>exact absurd ((AZ _ _).1 hm) hid
  rw[this]
 have hbx:=boxes_of hβ hβ2 (fun _ h=>h) hb' hdb k.box k.apart;have hargs:RepL h β1 args' us.toList:=RepL.within hβ args' _ hw (hle _ _ _ hus);unfold Oper.wp;rw[hrun hf.fn];simp only[Oper.upon];refine(hf.calls w h β1 us k.evo.has hbx hβn hargs).mono fun e w' ⟨h', β1', hle1,hev,q⟩=>?_;have q:e = .panicked chain:=q;subst q
 have hM:∀g,Ar bxs β1 g→∃id B,id∈idsB bxs∧s'.bx (renI σ id)=some B∧blk (β (renI σ id))=some g:=by
  rintro g ⟨id,B,h1,h2⟩;have hm:=Be bxs id B h1;obtain⟨⟨B0,h3,_⟩,_,_⟩:=Az bxs hb' id B h1;refine⟨id,B0,hm,h3,?_⟩
  cases hq:β1 id with
  | none=>rw[hq]at h2; simp[blk]at h2
  | some v=>rw[hβ2 id v hq,←hq]; exact h2
 have hdel:∀j B,delB ((idsB bxs).map (renI σ)) s'.bx j=some B→s'.bx j=some B∧∀id∈idsB bxs,renI σ id≠j:=by
  intro j B hB
  have:∀(l:List Id),delB l s'.bx j=some B→s'.bx j=some B∧j∉l:=by
   intro l
   induction l with
   | nil=>intro h; exact⟨h,by simp⟩
   | cons x l ih=>
    intro h;simp only[delB]at h;by_cases hj:j=x
    ·subst hj; simp at h
    ·simp only[Ak hj]at h;obtain⟨h1,h2⟩:=ih h;exact⟨h1,by simp[hj,h2]⟩
  obtain⟨h1,h2⟩:=this _ hB;exact⟨h1,fun id hid e=>h2 (List.mem_map.2 ⟨id,hid,e⟩)⟩
 refine hQ w' h' β ⟨k.evo.trans hev fun g hg=>?_,k.b0,fun i=>(k.slot i).mono hev.le (AW β),fun j B hB=>?_,fun x y B1 B2 h1 h2 hne=>k.apart x y B1 B2 (hdel x B1 h1).1 (hdel y B2 h2).1 hne,fun x B1 g hx hg=>k.own x B1 g (hdel x B1 hx).1 hg,k.dom,k.size,k.defers⟩
 ·obtain⟨id,B,_,h1,h2⟩:=hM g hg;exact k.own _ B g h1 h2
 ·obtain⟨h1,h2⟩:=hdel j B hB;refine(k.box j B h1).keep hev.le (AW β) fun g hg=>?_;have hlt:=k.blk_lt h1 hg
  have hs:¬Ar bxs β1 g:=fun h4=>by
   obtain⟨id,B0,h5,h6,h7⟩:=hM g h4;exact k.apart _ _ _ _ h6 h1 (h2 id h5) g h7 hg
  refine⟨hev.block g hlt.1 hs,?_⟩
  cases hh:h' g with
  | none=>rfl
  | some cs=>
   rcases hev.fresh g (by simp[hh])with h4|h4|h4
   ·exact absurd hlt.2 h4
   ·omega
   ·exact absurd h4 hs
theorem IoFn.toPure {f:FuncId} {args:List AV} {r:AV} (hc:r.closed=true) (k:IoFn P f args [] (.ret r) []):PureFn P f args r:=by
 refine⟨k.fn,fun w h us hw hr=>?_⟩;refine(k.calls w h noB us hw ⟨fun id B hB=>by simp[Au]at hB,fun _ _ _ _ hB=>by simp[Au]at hB⟩ (fun _ _=>rfl) hr).mono fun e w' ⟨h', β', hle,hev,u,he,_,hrep,hnew⟩=>?_
 have hev':Evo D4 w h w' h':=by
  refine⟨hev.os,hev.tape,hev.output,hev.size,fun i hi _=>hev.block i hi (fun⟨_,_,hB,_⟩=>by simp[Au]at hB),hev.le,fun b hb=>?_,hev.has⟩;rcases hev.fresh b hb with h1|h1|⟨_,_,hB,_⟩
  ·exact .inl h1
  ·exact .inr (.inl h1)
  ·simp[Au]at hB
 exact⟨u,h', he,hev', hrep.closed _ _ hc⟩
variable {ops:Array Oper} {draw:Dr} {l:List Oper} {acc:List Eff} {K:Exit→St→Prop}
theorem C3 {f:FuncId} {x:Operand} {args:List Operand} {ts:Array TypeId} (hop:o.op = .call { callee := .value x,args:=⟨args⟩,argTypes:=ts }) {caps:List AV} (hx:opd s x = .fn f caps) {az:List AV} {ret:AV} (hf:PureFn P f az ret) (hg:gOk ops s o=true) (hd:dOk n o.dst=true) (hcl:BN (opds s args++caps)=true) (hle:LeL (opds s args++caps) az)
  (r:Fl P n ops draw l ((Eff.mk ret [] [] [] []).app o.dst s) (Eff.mk ret [] [] [] []::acc) K):Fl P n ops draw (o::l) s acc K:=
 Af hg (OpJ.callG (Aa hd) (Runs.value hop hx) hle hcl hf) r
theorem A9 {f:FuncId} {args:List Operand} {ts:Array TypeId} (hop:o.op = .call { callee := .value (.func f),args:=⟨args⟩,argTypes:=ts }) (σ:List (Id×Id)) {az:List AV} {bxs bxs':List (Id×Bx)} {ret:AV} (hf:IoFn P f az bxs (.ret ret) bxs') (hg:gOk ops s o=true) (hd:dOk n o.dst=true) (hle:LeL (opds s args) (renL (renI σ) az)) (hw:BE (idsB bxs) az=true) (hb:CN (renI σ) (idsB bxs) s bxs)
  (hd1:Ah (renI σ) (idsB bxs')=true) (hrw:ret.within (idsB bxs')=true) (hbw:(bxs'.all fun p=>p.2.within (idsB bxs'))=true) (hdb:Ah (renI σ) (idsB bxs)=true) (hn:EJ (newB bxs (renI σ) bxs') s.al=true)
  (r:Fl P n ops draw l ((Eff.mk (ret.ren (renI σ)) (renB (renI σ) bxs') (newB bxs' (renI σ) bxs) (newB bxs (renI σ) bxs') ((idsB bxs).map (renI σ))).app o.dst s) (Eff.mk (ret.ren (renI σ)) (renB (renI σ) bxs') (newB bxs' (renI σ) bxs) (newB bxs (renI σ) bxs') ((idsB bxs).map (renI σ))::acc) K)
  (hJ:BH draw.J (Eff.mk (ret.ren (renI σ)) (renB (renI σ) bxs') (newB bxs' (renI σ) bxs) (newB bxs (renI σ) bxs') ((idsB bxs).map (renI σ))):=by repeat'(first|exact True.intro|exact rfl|refine⟨?_,?_⟩|fail)):Fl P n ops draw (o::l) s acc K:=
 Fl.op hg (OpJ.io (Aa hd) (EQ hop).out σ hf hle hw hb hd1 hrw hbw hdb) hn hJ r
theorem qi {f:FuncId} {args:List Operand} {ts:Array TypeId} (σ:List (Id×Id)) {az:List AV} {bxs bxs':List (Id×Bx)} {ret:AV} (hf:IoFn P f az bxs (.ret ret) bxs') (r:Fl P n ops draw l ((Eff.mk (ret.ren (renI σ)) (renB (renI σ) bxs') (newB bxs' (renI σ) bxs) (newB bxs (renI σ) bxs') ((idsB bxs).map (renI σ))).app o.dst s) (Eff.mk (ret.ren (renI σ)) (renB (renI σ) bxs') (newB bxs' (renI σ) bxs) (newB bxs (renI σ) bxs') ((idsB bxs).map (renI σ))::acc) K) (hop:o.op = .call { callee := .value (.func f),args:=⟨args⟩,argTypes:=ts }:=by exact rfl) (hg:gOk ops s o=true:=by exact rfl) (hd:dOk n o.dst=true:=by exact rfl) (hle:LeL (opds s args) (renL (renI σ) az):=by exact AB _) (hw:BE (idsB bxs) az=true:=by exact rfl) (hb:CN (renI σ) (idsB bxs) s bxs:=by exact⟨⟨⟨_,rfl,BLe.cells (AB _)⟩,rfl⟩,trivial⟩) (hd1:Ah (renI σ) (idsB bxs')=true:=by exact rfl) (hrw:ret.within (idsB bxs')=true:=by exact rfl) (hbw:(bxs'.all fun p=>p.2.within (idsB bxs'))=true:=by exact rfl) (hdb:Ah (renI σ) (idsB bxs)=true:=by exact rfl) (hn:EJ (newB bxs (renI σ) bxs') s.al=true:=by exact rfl) (hJ:BH draw.J (Eff.mk (ret.ren (renI σ)) (renB (renI σ) bxs') (newB bxs' (renI σ) bxs) (newB bxs (renI σ) bxs') ((idsB bxs).map (renI σ))):=by repeat'(first|exact True.intro|exact rfl|refine⟨?_,?_⟩|fail)):Fl P n ops draw (o::l) s acc K:=A9 hop σ hf hg hd hle hw hb hd1 hrw hbw hdb hn r hJ
theorem ED {f:FuncId} {x:Operand} {args:List Operand} {ts:Array TypeId} (hop:o.op = .call { callee := .value x,args:=⟨args⟩,argTypes:=ts }) {caps:List AV} (hx:opd s x = .fn f caps) (σ:List (Id×Id)) {az:List AV} {bxs bxs':List (Id×Bx)} {ret:AV} (hf:IoFn P f az bxs (.ret ret) bxs') (hg:gOk ops s o=true) (hd:dOk n o.dst=true) (hle:LeL (opds s args++caps) (renL (renI σ) az)) (hw:BE (idsB bxs) az=true) (hb:CN (renI σ) (idsB bxs) s bxs)
  (hd1:Ah (renI σ) (idsB bxs')=true) (hrw:ret.within (idsB bxs')=true) (hbw:(bxs'.all fun p=>p.2.within (idsB bxs'))=true) (hdb:Ah (renI σ) (idsB bxs)=true) (hn:EJ (newB bxs (renI σ) bxs') s.al=true)
  (r:Fl P n ops draw l ((Eff.mk (ret.ren (renI σ)) (renB (renI σ) bxs') (newB bxs' (renI σ) bxs) (newB bxs (renI σ) bxs') ((idsB bxs).map (renI σ))).app o.dst s) (Eff.mk (ret.ren (renI σ)) (renB (renI σ) bxs') (newB bxs' (renI σ) bxs) (newB bxs (renI σ) bxs') ((idsB bxs).map (renI σ))::acc) K)
  (hJ:BH draw.J (Eff.mk (ret.ren (renI σ)) (renB (renI σ) bxs') (newB bxs' (renI σ) bxs) (newB bxs (renI σ) bxs') ((idsB bxs).map (renI σ))):=by repeat'(first|exact True.intro|exact rfl|refine⟨?_,?_⟩|fail)):Fl P n ops draw (o::l) s acc K:=
 Fl.op hg (OpJ.io (Aa hd) (Runs.value hop hx).out σ hf hle hw hb hd1 hrw hbw hdb) hn hJ r
theorem A7 {f:FuncId} {args:List Operand} {ts:Array TypeId} (hop:o.op = .call { callee := .value (.func f),args:=⟨args⟩,argTypes:=ts }) (σ:List (Id×Id)) {az:List AV} {bxs bxs':List (Id×Bx)} {chain:List PanicEntry} (hf:IoFn P f az bxs (.thr chain) bxs') (hg:gOk ops s o=true) (hle:LeL (opds s args) (renL (renI σ) az)) (hw:BE (idsB bxs) az=true) (hb:CN (renI σ) (idsB bxs) s bxs) (hdb:Ah (renI σ) (idsB bxs)=true)
  (hc:draw.b=true→chkT ops (acc.reverse++[Eff.mk .any [] [] [] ((idsB bxs).map (renI σ))])=true) (hK:∀s'', K (.panic chain) s''):Fl P n ops draw (o::l) s acc K:=
 Fl.thr hg (ThrJ.io (EQ hop) σ hf hle hw hb hdb) hc hK
theorem Fl.thrV {f:FuncId} {x:Operand} {args:List Operand} {ts:Array TypeId} (hop:o.op = .call { callee := .value x,args:=⟨args⟩,argTypes:=ts }) {caps:List AV} (hx:opd s x = .fn f caps) (σ:List (Id×Id)) {az:List AV} {bxs bxs':List (Id×Bx)} {chain:List PanicEntry} (hf:IoFn P f az bxs (.thr chain) bxs') (hg:gOk ops s o=true) (hle:LeL (opds s args++caps) (renL (renI σ) az)) (hw:BE (idsB bxs) az=true) (hb:CN (renI σ) (idsB bxs) s bxs) (hdb:Ah (renI σ) (idsB bxs)=true)
  (hc:draw.b=true→chkT ops (acc.reverse++[Eff.mk .any [] [] [] ((idsB bxs).map (renI σ))])=true) (hK:∀s'', K (.panic chain) s''):Fl P n ops draw (o::l) s acc K:=
 Fl.thr hg (ThrJ.io (Runs.value hop hx) σ hf hle hw hb hdb) hc hK
end
end Go.AL
/- Interfaces of plain values; panic. -/
namespace Go.AL
def notIface:TypeDesc→Bool
  | .interface _=>false
  | _=>true
section
variable {P:Program} {tab:Tab} {n:Nat} {o:Oper} {s:St} {ops:Array Oper} {draw:Dr} {l:List Oper} {acc:List Eff} {K:Exit→St→Prop}
theorem Fl.mi [f:Facts P tab] {t:TypeId} {x:Operand} (hop:o.op = .makeInterface t x) {u:Value} (hx:opd s x = .v u) {i:TI} (hti:tab t=some i) (hni:notIface i.desc=true) (hg:gOk ops s o=true) (hd:dOk n o.dst=true)
  (r:Fl P n ops draw l ((Eff.mk (.v (.iface t u)) [] [] [] []).app o.dst s) (Eff.mk (.v (.iface t u)) [] [] [] []::acc) K):Fl P n ops draw (o::l) s acc K:=by
 refine Af hg (AR (tb:=[]) (Aa hd) fun C s' a w h β ho _ k=>?_) r;have hxr:=AK k x;rw[ho x (by rw[hop]; simp[Op.operands]),hx]at hxr;simp only[Rep]at hxr;have hu:=(f.tabOk _ _ hti).und;refine⟨.iface t u,?_,by simp only[Rep]⟩;simp only[execOp,hop,hxr,Instr.makeInterface,Sem.run_bind,run_underlying hu,Result.andThen]
 cases hdsc:i.desc<;>rw[hdsc]at hni<;>first|(simp[notIface]at hni; done)|rfl
theorem Fl.neqI {t t':TypeId} {x:Operand} (hop:o.op = .binOp .neq t x (.const .nilIface) t') {t0:TypeId} {u:Value} (hx:opd s x = .v (.iface t0 u)) (hg:gOk ops s o=true) (hd:dOk n o.dst=true)
  (hrun:∀w:World,(binOp .neq t (.iface t0 u) .nilIface).run P w = .ok (.bool true) w)
  (r:Fl P n ops draw l ((Eff.mk (.v (.bool true)) [] [] [] []).app o.dst s) (Eff.mk (.v (.bool true)) [] [] [] []::acc) K):Fl P n ops draw (o::l) s acc K:=by
 refine Af hg (AR (tb:=[]) (Aa hd) fun C s' a w h β ho _ k=>?_) r;have hxr:=AK k x;rw[ho x (by rw[hop]; simp[Op.operands]),hx]at hxr;simp only[Rep]at hxr;refine⟨.bool true,?_,by simp only[Rep]⟩
 have hg:(eqGuard .neq t x (.const .nilIface) (.iface t0 u) .nilIface).run P w = .ok () w:=by simp[eqGuard]
 simp only[execOp,hop,hxr,show a.eval (.const .nilIface) = .nilIface from rfl,Sem.run_bind,hg,Result.andThen,hrun w,Sem.run_pure]
theorem Fl.neqN {t t':TypeId} {x:Operand} (hop:o.op = .binOp .neq t x (.const .nilIface) t') (hx:opd s x = .v .nilIface) (hg:gOk ops s o=true) (hd:dOk n o.dst=true)
  (hrun:∀w:World,(binOp .neq t .nilIface .nilIface).run P w = .ok (.bool false) w)
  (r:Fl P n ops draw l ((Eff.mk (.v (.bool false)) [] [] [] []).app o.dst s) (Eff.mk (.v (.bool false)) [] [] [] []::acc) K):Fl P n ops draw (o::l) s acc K:=by
 refine Af hg (AR (tb:=[]) (Aa hd) fun C s' a w h β ho _ k=>?_) r;have hxr:=AK k x;rw[ho x (by rw[hop]; simp[Op.operands]),hx]at hxr;simp only[Rep]at hxr;refine⟨.bool false,?_,by simp only[Rep]⟩
 have hg:(eqGuard .neq t x (.const .nilIface) .nilIface .nilIface).run P w = .ok () w:=by simp[eqGuard]
 simp only[execOp,hop,hxr,show a.eval (.const .nilIface) = .nilIface from rfl,Sem.run_bind,hg,Result.andThen,hrun w,Sem.run_pure]
theorem Fl.taI [f:Facts P tab] {t asserted:TypeId} {x:Operand} (hop:o.op = .typeAssert x t asserted true) {u:Value} (hx:opd s x = .v (.iface asserted u)) {i:TI} (hti:tab asserted=some i) (hni:notIface i.desc=true) (hg:gOk ops s o=true) (hd:dOk n o.dst=true)
  (r:Fl P n ops draw l ((Eff.mk (.tup [.v u,.v (.bool true)]) [] [] [] []).app o.dst s) (Eff.mk (.tup [.v u,.v (.bool true)]) [] [] [] []::acc) K):Fl P n ops draw (o::l) s acc K:=by
 refine Af hg (AR (tb:=[]) (Aa hd) fun C s' a w h β ho _ k=>?_) r;have hxr:=AK k x;rw[ho x (by rw[hop]; simp[Op.operands]),hx]at hxr;simp only[Rep]at hxr;have hu:=(f.tabOk _ _ hti).und;refine⟨.tuple #[u,.bool true],?_,?_⟩
 ·simp only[execOp,hop,hxr,Instr.typeAssert,Sem.run_bind,run_underlying hu,Result.andThen]
  cases hdsc:i.desc<;>rw[hdsc]at hni<;>first|(simp[notIface]at hni; done)|(simp)
 ·simp only[Rep];exact⟨_,rfl,RepL.cons (by simp only[Rep]) (RepL.cons (by simp only[Rep]) RepL.nil)⟩
theorem Fl.pan {x:Operand} (hop:o.op = .panic x) {t0:TypeId} {u:Value} (hx:opd s x = .v (.iface t0 u)) (hg:gOk ops s o=true) (hc:draw.b=true→chkT ops (acc.reverse++[Eff.mk .any [] [] [] []])=true) (hK:∀s'', K (.panic [{ v := .iface t0 u,recovered:=false }]) s''):Fl P n ops draw (o::l) s acc K:=by
 refine Fl.thr hg ?_ hc hK;intro C s' a w h β Q K _ hs _ k hQ;have hxr:=AK k x
 have hsx:opd s' x=opd s x:=by
  cases x with
  | tmp t=>exact hs t (by rw[hop]; simp[Op.operands])
  | _=>rfl
 rw[hsx,hx]at hxr;simp only[Rep]at hxr
 have hrun:(execOp a.eval o).run P w = .halt (.panic (.iface t0 u)) w:=by
  simp[execOp,hop,hxr,Instr.panic,goPanic]
 unfold Oper.wp;rw[hrun];simp only[Oper.upon];exact hQ w h β k
end
end Go.AL
/- A deferred function that recovers first. -/
namespace Go.AL
section
variable {P:Program} {tab:Tab} {n:Nat}
def St.recd (args:List AV) (bxs:List (Id×Bx)) (d0 d1:Tmp) (x:Value):St:=⟨putE (putE (initE args) (some d0) (.v x)) (some d1) (.v x),Au bxs,fun id=>memI (idsB bxs) id⟩
theorem rec_calls [f:Facts P tab] {k:FuncId} {fn:Func} {id:Nat} {o0 o1:Oper} {c:Code} {args:List AV} {bxs bxs':List (Id×Bx)} {r:AV} {d0 d1:Tmp} {ts:Array TypeId} (hf:P.funcs[k]? = some fn) (hb:fn.body=some (.seq (.region id ⟨[o0,o1]⟩ false) c)) (hn:fn.ntmps=n) (hl:Nat.ble args.length n=true) (hsub:((idsB bxs).all fun id=>memI (idsB bxs') id)=true)
  (h0:o0.op = .call { callee := .builtin .recover,args:=⟨[]⟩,argTypes:=ts }) (g0:o0.guard=none) (e0:o0.dst=some d0) (l0:Nat.blt d0 n=true) (h1:o1.op = .assign (.tmp d0)) (g1:o1.guard=none) (e1:o1.dst=some d1) (l1:Nat.blt d1 n=true)
  {x:Value} {u u':FrameMode} (hrec:∀(c₀:Frame) (cs:List Frame),c₀.mode=u→recoverD (c₀::cs)=some (x,{ c₀ with mode:=u' }::cs)∨(recoverD (c₀::cs)=none∧x = .nilIface∧u'=u))
  (h:AWP P n (idsB bxs) c (RetX n (idsB bxs) tab fn.results.toList (.ret r) bxs') (St.recd args bxs d0 d1 x)) (w:World) (hp:Hp) (β:Bt) (us:Array Value) (hw:Has w hp) (hbx:BoxesAt w hp β bxs) (hβn:∀id,id∉idsB bxs→β id=none) (hr:RepL hp β args us.toList) :
  CallsD P k us u w fun e u'' w'=>u''=u'∧∃h' β', β.le β'∧Evo (Ar bxs β) w hp w' h'∧∃v,e = .returned v∧BoxesAt w' h' β' bxs'∧Rep h' β' r v∧∀id g,id∉idsB bxs→blk (β' id)=some g→w.heap.size≤g:=by
 have hl:=Nat.le_of_ble_eq_true hl;refine callsD_of_wpS hf hb fun c₀ cs hmode=>?_
 have hus:us.size=args.length:=by rw[←Array.length_toList]; exact hr.length
 have hbase:Base ⟨w,hp,β,Ar bxs β,[]⟩ n (Bh args bxs) { tmps:=us++Array.replicate (fn.ntmps-us.size) undef,defers:=[] } w hp β:=by
  refine⟨Evo.refl _ hw,AW _,fun i=>?_,hbx.box,hbx.apart,fun id B g hB hg => .inl ⟨id,B,hB,hg⟩,fun id hid=>hβn id (fun hm=>by rw[←AZ]at hm; simp only[Bh]at hid; rw[hm]at hid; cases hid),by simp; omega,rfl⟩;simp only[Bh];by_cases hi:i<us.size
  ·have hget:(us++Array.replicate (fn.ntmps-us.size) undef).getD i undef=us[i]:=by
    simp[Array.getD_eq_getD_getElem?,Array.getElem?_append,hi]
   rw[hget];exact Ed args us.toList i _ hr (by simp[hi])
  ·rw[Ee args i (by omega)];simp only[Rep]
 have hini:IniOk ⟨w,hp,β,Ar bxs β,[]⟩ (idsB bxs):=fun id hid=>by
  rcases Classical.em (id∈idsB bxs)with hm|hm
  ·exact hm
  ·exact absurd (hβn id hm) hid
 generalize ({ tmps:=us++Array.replicate (fn.ntmps-us.size) undef,defers:=[] }:Act)=a0 at hbase ⊢;have k1:=hbase.val (some d0) (fun t ht=>by injection ht with ht; subst ht; exact ltOf l0) (v := .v x) (u:=x) (by simp only[Rep]) [];have k2:=k1.val (some d1) (fun t ht=>by injection ht with ht; subst ht; exact ltOf l1) (v := .v x) (u:=x) (by simp only[Rep]) []
 have hx4:(a0.put (some d0) x).eval (.tmp d0)=x:=by
  have:=k1.slot d0;simp only[Eff.app,Bd,Rep]at this;exact this
 have hrun0:(execOp a0.eval o0).run P w = .ok .recover w:=by
  simp only[execOp,h0,resolve,invoke,builtin,Sem.run_bind,Sem.run_pure,Result.andThen,List.map_toArray,List.map_nil]
 have hrun1:(execOp (a0.put (some d0) x).eval o1).run P w = .ok (.value x) w:=by
  simp only[execOp,h1,hx4,Sem.run_pure]
 refine wpS_seq (wpS_region ?_);have hrg:List.range (Array.size ⟨[o0,o1]⟩)=[0,1]:=rfl;rw[hrg]
 have hw0:Region.wanted o0 (yielded ⟨[o0,o1]⟩ a0.tmps)=true:=by simp[Region.wanted,g0]
 have hw1:∀a:Act,Region.wanted o1 (yielded ⟨[o0,o1]⟩ a.tmps)=true:=fun a=>by simp[Region.wanted,g1]
 have rest:({ c₀ with mode:=u' }::cs:List Frame)=({ c₀ with mode:=u' }::cs)→c.wpS P (bodyPostS P fn c₀ cs fun e u'' w'=>u''=u'∧∃h' β', β.le β'∧Evo (Ar bxs β) w hp w' h'∧∃v,e = .returned v∧BoxesAt w' h' β' bxs'∧Rep h' β' r v∧∀id g,id∉idsB bxs→blk (β' id)=some g→w.heap.size≤g) ((a0.put (some d0) x).put (some d1) x) ({ c₀ with mode:=u' }::cs) w:=by
  intro _;refine wpS_of_wp ?_;refine wp_mono (h.out ⟨w,hp,β,Ar bxs β,[]⟩ _ w hp β hini k2) fun e a' w' ⟨s', h', β', b,q⟩=>?_;have fin:=RetIo.fin (f:=f) (fn:=fn) hsub hini b
  cases e with
  | normal=>
   obtain⟨q1,v,q2,h', β', q3,q4,u,q5,q6⟩:=fin r q;exact⟨q1,u', rfl,v,q2,rfl,h', β', q3,q4,u,q5,q6⟩
  | ret=>
   obtain⟨q1,v,q2,h', β', q3,q4,u,q5,q6⟩:=fin r q;exact⟨q1,u', rfl,v,q2,rfl,h', β', q3,q4,u,q5,q6⟩
  | panic c=>exact q.elim
  | _=>exact q.elim
 have step1:∀cs':List Frame,cs'={ c₀ with mode:=u' }::cs→wpOpsS P ⟨[o0,o1]⟩ (Exit.thenS (c.wpS P (bodyPostS P fn c₀ cs fun e u'' w'=>u''=u'∧∃h' β', β.le β'∧Evo (Ar bxs β) w hp w' h'∧∃v,e = .returned v∧BoxesAt w' h' β' bxs'∧Rep h' β' r v∧∀id g,id∉idsB bxs→blk (β' id)=some g→w.heap.size≤g)) (bodyPostS P fn c₀ cs fun e u'' w'=>u''=u'∧∃h' β', β.le β'∧Evo (Ar bxs β) w hp w' h'∧∃v,e = .returned v∧BoxesAt w' h' β' bxs'∧Rep h' β' r v∧∀id g,id∉idsB bxs→blk (β' id)=some g→w.heap.size≤g)) [1] (a0.put (some d0) x) cs' w:=by
  rintro cs' rfl;simp only[wpOpsS,List.getElem?_toArray,List.getElem?_cons_succ,List.getElem?_cons_zero,hw1,if_true,hrun1,Oper.upon,e1];exact rest rfl
 rw[wpOpsS];simp only[List.getElem?_toArray,List.getElem?_cons_zero,hw0,if_true,hrun0,e0];rcases hrec c₀ cs hmode with hq|⟨hq,hx,hu⟩
 ·rw[hq];exact step1 _ rfl
 ·rw[hq];simp only;rw[←hx];refine step1 _ ?_;rw[hu,←hmode]
end
end Go.AL
/- A function that defers a recovering one and calls what it is given. -/
namespace Go.AL
section
variable {P:Program} {tab:Tab}
def DefOk (P:Program) (kd:FuncId) (te:TypeId) (u u':FrameMode) (e:Int):Prop:=
  ∀ (w:World) (h:Hp) (g:Nat),Has w h→w.heap[g]? = some (.cells #[.int .i64 0] te (0,0))→h g=none →
    CallsD P kd #[.pointer (some ⟨g,0,none⟩)] u w fun en u'' w'=>u''=u'∧∃h', Evo (fun b=>b=g) w h w' h'∧(∃v,en = .returned v)∧w'.heap[g]? = some (.cells #[.int .i64 e] te (0,0))∧h' g=none
theorem defOk_of [f:Facts P tab] {n:Nat} {k:FuncId} {fn:Func} {id:Nat} {o0 o1:Oper} {c:Code} {d0 d1:Tmp} {ts:Array TypeId} (hf:P.funcs[k]? = some fn) (hb:fn.body=some (.seq (.region id ⟨[o0,o1]⟩ false) c)) (hn:fn.ntmps=n) (hl:Nat.ble 1 n=true)
  (h0:o0.op = .call { callee := .builtin .recover,args:=⟨[]⟩,argTypes:=ts }) (g0:o0.guard=none) (e0:o0.dst=some d0) (l0:Nat.blt d0 n=true) (h1:o1.op = .assign (.tmp d0)) (g1:o1.guard=none) (e1:o1.dst=some d1) (l1:Nat.blt d1 n=true)
  {x:Value} {u u':FrameMode} {te:TypeId} {e:Int} {r:AV} (hrec:∀(c₀:Frame) (cs:List Frame),c₀.mode=u→recoverD (c₀::cs)=some (x,{ c₀ with mode:=u' }::cs)∨(recoverD (c₀::cs)=none∧x = .nilIface∧u'=u))
  (h:AWP P n [900] c (RetX n [900] tab fn.results.toList (.ret r) [(900,.cells [.v (.int .i64 e)] te)]) (St.recd [.ptr 900 0] [(900,.cells [.v (.int .i64 0)] te)] d0 d1 x)):DefOk P k te u u' e:=by
 intro w hp g hw hg hn0
 let β:Bt:=fun id=>match Nat.beq id 900 with|true=>some (.pointer (some ⟨g,0,none⟩))|false=>none
 have h900:β 900=some (.pointer (some ⟨g,0,none⟩)):=rfl
 have hlook:∀id B,Au [(900,Bx.cells [.v (.int .i64 0)] te)] id=some B→id=900∧B = .cells [.v (.int .i64 0)] te:=by
  intro id B hB;by_cases hi:id=900
  ·subst hi; simp[Au]at hB; exact⟨rfl,hB.symm⟩
  ·simp[Au,Ak hi]at hB
 have hbx:BoxesAt w hp β [(900,.cells [.v (.int .i64 0)] te)]:=by
  refine⟨fun id B hB=>?_,fun id id' B B' h1 h2 hne=>?_⟩
  ·obtain⟨rfl,rfl⟩:=hlook id B hB;exact⟨g,#[.int .i64 0],h900,hg,RepL.cons (by simp only[Rep]) RepL.nil,hn0⟩
  ·obtain⟨rfl,_⟩:=hlook id B h1;obtain⟨rfl,_⟩:=hlook id' B' h2;exact absurd rfl hne
 have hβn:∀id,id∉idsB [(900,Bx.cells [.v (.int .i64 0)] te)]→β id=none:=by
  intro id hid;have:id≠900:=fun e=>hid (by simp[idsB,e]);show(match Nat.beq id 900 with|true=>some (Value.pointer (some ⟨g,0,none⟩))|false=>none)=none;rw[Ak this]
 refine(rec_calls (args:=[.ptr 900 0]) (bxs:=[(900,.cells [.v (.int .i64 0)] te)]) (bxs':=[(900,.cells [.v (.int .i64 e)] te)]) hf hb hn hl rfl h0 g0 e0 l0 h1 g1 e1 l1 hrec h w hp β #[.pointer (some ⟨g,0,none⟩)] hw hbx hβn (RepL.cons (by simp only[Rep]; exact⟨g,h900,rfl⟩) RepL.nil)).mono ?_;rintro en u'' w' ⟨hu,h', β', hle,hev,v,hv,hbx', _,_⟩;refine⟨hu,h', ⟨hev.os,hev.tape,hev.output,hev.size,fun i hi hne=>hev.block i hi ?_,hev.le,fun b hb=>?_,hev.has⟩,⟨v,hv⟩,?_⟩
 ·rintro⟨id,B,h1,h2⟩;obtain⟨rfl,_⟩:=hlook id B h1;rw[h900]at h2; simp[blk]at h2; exact hne h2.symm
 ·rcases hev.fresh b hb with h1|h1|⟨id,B,h1,h2⟩
  ·exact .inl h1
  ·exact .inr (.inl h1)
  ·obtain⟨rfl,_⟩:=hlook id B h1;rw[h900]at h2; simp[blk]at h2; exact .inr (.inr h2.symm)
 ·obtain⟨g', us,q1,q2,q3,q4⟩:=hbx'.box 900 _ rfl;have hq:β' 900=some (.pointer (some ⟨g,0,none⟩)):=hle 900 (.pointer (some ⟨g,0,none⟩)) h900;rw[hq]at q1;injection q1 with q1; injection q1 with q1; injection q1 with q1; injection q1 with q1;subst q1;simp only[RepL,Rep]at q3;obtain⟨u1,r1,q5,rfl,rfl⟩:=q3
  have:us = #[.int .i64 e]:=by cases us; simp at q5; simp[q5]
  rw[this]at q2;exact⟨q2,q4⟩
theorem BR {ops:Array Oper} {i:Nat} {o:Oper} {rest:List Nat} {a:Act} {w:World} {Q:Exit→Act→World→Prop} (ho:ops[i]? = some o) (hg:o.guard=none) (h:o.wp P a w (fun a' w'=>wpOps P ops Q rest a' w') Q):wpOps P ops Q (i::rest) a w:=by
 simp only[wpOps,ho];rw[if_pos (by simp[Region.wanted,hg])];exact .inl h
theorem wp_of_run {o:Oper} {a:Act} {w w':World} {v:Value} {K:Act→World→Prop} {Q:Exit→Act→World→Prop} (hr:(execOp a.eval o).run P w = .ok (.value v) w') (h:K (a.put o.dst v) w'):o.wp P a w K Q:=by
 unfold Oper.wp; rw[hr]; exact h
def tryOut (res:Res) (bxs':List (Id×Bx)):List (Id×Bx):=
  match res with | .ret _=>bxs' | .thr _=>[]
theorem BoxesAt.alloc {w:World} {h:Hp} {β:Bt} {bxs:List (Id×Bx)} (k:BoxesAt w h β bxs) (hw:Has w h) (o:Obj):BoxesAt (w.alloc o) h β bxs:=by
 refine⟨fun id B hB=>(k.box id B hB).keep (Ac h) (AW β) fun g hg=>?_,k.apart⟩;have hb:=blk_box (k.box id B hB) hg;exact⟨(Cb hw o).block g hb.1 (fun x=>x),hb.2⟩
theorem try_io [f:Facts P tab] {k kd cf:FuncId} {fn:Func} {i0 i1 i2 i3:Nat} {oA oM oD oV oC oS:Oper} {te:TypeId} {ts ts2:Array TypeId} (hf:P.funcs[k]? = some fn) (hname:(fn.name == "runtime.NumGoroutine")=false) (hn:fn.ntmps=6) (hres:fn.results = #[.cell 2 te]) (hkd:∃fn,P.funcs[kd]? = some fn∧(fn.name == "runtime.NumGoroutine")=false∧fn.body.isNone=false)
  (hb:fn.body=some (.seq (.region i0 ⟨[oA]⟩ false) (.seq (.region i1 ⟨[oM,oD]⟩ false) (.seq (.region i2 ⟨[oV,oC]⟩ false) (.seq (.region i3 ⟨[oS]⟩ false) .ret)))))
  (hA:oA.op = .alloc te∧oA.guard=none∧oA.dst=some 2) (hM:oM.op = .makeFunc (.func kd) ⟨[]⟩ ⟨[.tmp 2]⟩∧oM.guard=none∧oM.dst=some 3) (hD:oD.op = .defer { callee := .value (.tmp 3),args:=⟨[]⟩,argTypes:=ts }∧oD.guard=none∧oD.dst=none)
  (hV:oV.op = .move (.tmp 0)∧oV.guard=none∧oV.dst=some 4) (hC:oC.op = .call { callee := .value (.tmp 4),args:=⟨[]⟩,argTypes:=ts2 }∧oC.guard=none∧oC.dst=some 5) (hS:oS.op = .store te (.tmp 2) (.const (.int .i64 0))∧oS.guard=none∧oS.dst=none)
  (hti:tab te=some ⟨.int .i64,1,8,[.int .i64 0]⟩) {caps:List AV} {bxs bxs':List (Id×Bx)} {res:Res} (hclo:IoFn P cf caps bxs res bxs') {e:Int}
  (hd:match res with | .ret _=>e=0∧DefOk P kd te .returning .returning 0 | .thr chain=>∃v u', settle u' = .returning∧u' ≠ .run∧chain=[v]∧DefOk P kd te (.panicking chain) u' e) :
  IoFn P k [.fn cf caps] bxs (.ret (.v (.int .i64 e))) (tryOut res bxs'):=by
 obtain⟨inf,z,z1,z2,z3,z4,z5⟩:=(f.tabOk _ _ hti).info;have hu_te:=(f.tabOk _ _ hti).und;simp only at hu_te
 have hzc:z.cells = #[.int .i64 0]:=by
  have:z.cells.toList=[.int .i64 0]:=z5
  cases hz:z.cells with
  | mk l=>rw[hz]at this; simp at this; rw[this]
 refine⟨⟨fn,hf,hname,by rw[hb]; rfl⟩,fun w hp β us hw hbx hβn hr=>?_⟩;refine calls_of_wp_defers hf hb ?_;simp only[RepL,Rep]at hr;obtain⟨u0,r0,hus,⟨cu,rfl,hcu⟩,rfl⟩:=hr
 have hus:us = #[.func (.func cf) #[] cu]:=by cases us; simp at hus; simp[hus]
 subst hus;rw[hn];obtain⟨fu,hfu⟩:∃fu:Value,fu = .func (.func cf) #[] cu:=⟨_,rfl⟩;rw[←hfu];obtain⟨p,hp0⟩:∃p:Value,p = .pointer (some ⟨w.heap.size,0,none⟩):=⟨_,rfl⟩;have ha0:({ tmps := #[fu]++Array.replicate (6 - #[fu].size) undef,defers:=[] }:Act)=⟨#[fu,undef,undef,undef,undef,undef],[]⟩:=rfl;rw[ha0]
 -- the variable of the result
 refine wp_seq (wp_region (BR (ops:=⟨[oA]⟩) (i:=0) (o:=oA) rfl hA.2.1 (wp_of_run (v:=p) (w':=w.alloc (.cells z.cells te)) ?_ ?_)))
 ·have hz:(zeroValue te).run P w = .ok z w:=by simp[zeroValue,typeInfo,z1,z4]
  simp only[execOp,hA.1,Instr.alloc,newVar,newRow,Sem.run_bind,hz,Result.andThen];rw[hp0]; rfl
 rw[hA.2.2,show(⟨#[fu,undef,undef,undef,undef,undef],[]⟩:Act).put (some 2) p=⟨#[fu,undef,p,undef,undef,undef],[]⟩ from rfl];show Code.wp _ _ _ _ _
 -- the deferred call
 refine wp_seq (wp_region (BR (ops:=⟨[oM,oD]⟩) (i:=0) (o:=oM) rfl hM.2.1 (wp_of_run (v := .func (.func kd) #[] #[p]) (w':=w.alloc (.cells z.cells te)) ?_ ?_)))
 ·simp only[execOp,hM.1,Instr.makeFunc,Sem.run_pure,Sem.run_bind,Result.andThen,List.map_toArray,List.map_cons,List.map_nil]; rfl
 rw[hM.2.2,show(⟨#[fu,undef,p,undef,undef,undef],[]⟩:Act).put (some 3) (.func (.func kd) #[] #[p])=⟨#[fu,undef,p,.func (.func kd) #[] #[p],undef,undef],[]⟩ from rfl];refine BR (o:=oD) rfl hD.2.1 ?_
 have hrunD:(execOp (⟨#[fu,undef,p,.func (.func kd) #[] #[p],undef,undef],[]⟩:Act).eval oD).run P (w.alloc (.cells z.cells te)) = .ok (.defer { target := .fn (.func kd) #[p],args := #[] }) (w.alloc (.cells z.cells te)):=by
  simp only[execOp,hD.1,resolve,Sem.run_bind,Sem.run_pure,Result.andThen,List.map_toArray,List.map_nil]; rfl
 unfold Oper.wp;rw[hrunD];simp only[Oper.upon,hD.2.2];show Code.wp _ _ _ _ _;obtain⟨d,hd0⟩:∃d:Deferred,d={ target := .fn (.func kd) #[p],args := #[] }:=⟨_,rfl⟩;rw[←hd0];obtain⟨w1,hw1⟩:∃w1,w1=w.alloc (.cells z.cells te):=⟨_,rfl⟩;rw[←hw1];obtain⟨v3,hv3⟩:∃v3:Value,v3 = .func (.func kd) #[] #[p]:=⟨_,rfl⟩;rw[←hv3];show Code.wp P _ _ (⟨#[fu,undef,p,v3,undef,undef],[d]⟩:Act) w1
 have hev1:Evo D4 w hp w1 hp:=by rw[hw1]; exact Cb hw _
 have hg1:w1.heap[w.heap.size]? = some (.cells #[.int .i64 0] te (0,0)):=by rw[hw1,hzc]; exact heap_alloc_new w _
 have hs1:w1.heap.size=w.heap.size+1:=by rw[hw1]; simp
 have hpg:hp w.heap.size=none:=CW hw (Nat.le_refl _)
 have hbx1:BoxesAt w1 hp β bxs:=by rw[hw1]; exact hbx.alloc hw _
 have hnot:¬Ar bxs β w.heap.size:=by
  rintro⟨id,B,h1,h2⟩;have:=(blk_box (hbx.box id B h1) h2).1;omega
 -- the call
 refine wp_seq (wp_region (BR (ops:=⟨[oV,oC]⟩) (i:=0) (o:=oV) rfl hV.2.1 (wp_of_run (v:=fu) (w':=w1) ?_ ?_)))
 ·simp only[execOp,hV.1,Sem.run_pure]; rfl
 rw[hV.2.2,show(⟨#[fu,undef,p,v3,undef,undef],[d]⟩:Act).put (some 4) fu=⟨#[fu,undef,p,v3,fu,undef],[d]⟩ from rfl];refine BR (o:=oC) rfl hC.2.1 ?_
 have hrunC:(execOp (⟨#[fu,undef,p,v3,fu,undef],[d]⟩:Act).eval oC).run P w1 = .ok (.enter cf cu) w1:=by
  have h1:(⟨#[fu,undef,p,v3,fu,undef],[d]⟩:Act).eval (.tmp 4) = .func (.func cf) #[] cu:=by rw[←hfu]; rfl
  simp only[execOp,hC.1,resolve,h1,Deferred.ofValue,Sem.run_bind,Sem.run_pure,Result.andThen,invoke,List.map_toArray,List.map_nil];have:=CE hclo.fn (#[] ++ #[]++cu) w1;simpa using this
 unfold Oper.wp;rw[hrunC];simp only[Oper.upon,hC.2.2];refine(hclo.calls w1 hp β cu hev1.has hbx1 hβn hcu).mono fun en w2 ⟨h2,β2,hle2,hev2,q⟩=>?_
 have hg2:w2.heap[w.heap.size]? = some (.cells #[.int .i64 0] te (0,0)):=by rw[hev2.block _ (by omega) hnot]; exact hg1
 have hn2:h2 w.heap.size=none:=by
  cases hh:h2 w.heap.size with
  | none=>rfl
  | some cs=>
   rcases hev2.fresh w.heap.size (by rw[hh]; simp)with h|h|h
   ·exact absurd hpg h
   ·omega
   ·exact absurd h hnot
 have hinv:∀w', (invoke (.fn (.func kd) #[p]) #[]).run P w' = .ok (.enter kd #[.pointer (some ⟨w.heap.size,0,none⟩)]) w':=by
  intro w';have:=CE hkd (#[] ++ #[p]) w';rw[hp0]at this ⊢;simpa[invoke]using this
 have hev12:Evo (Ar bxs β) w hp w2 h2:=by
  have h1:Evo (Ar bxs β) w hp w1 hp:=⟨hev1.os,hev1.tape,hev1.output,hev1.size,fun i hi _=>hev1.block i hi (fun x=>x),hev1.le,fun b hb => .inl hb,hev1.has⟩;exact h1.trans hev2 fun g hg => .inl hg
 -- what is left to do: the deferred call, the result
 have hlast:∀(β2:Bt),β.le β2→∀(a5:Value) (u u':FrameMode) (w3:World) (bxs2:List (Id×Bx)),u ≠ .run→settle u' = .returning→DefOk P kd te u u' e→Evo (fun b=>b=w.heap.size) w2 h2 w3 h2→w3.heap[w.heap.size]? = some (.cells #[.int .i64 0] te (0,0))→BoxesAt w2 h2 β2 bxs2→(∀id g,id∉idsB bxs→blk (β2 id)=some g→w1.heap.size≤g)→(∀id B g,Au bxs2 id=some B→blk (β2 id)=some g→g≠w.heap.size) →
   Leaves P fn #[fu,undef,p,v3,fu,a5] (fun e_1 w'=>∃h' β', β.le β'∧Evo (Ar bxs β) w hp w' h'∧∃u,e_1=Ending.returned u∧BoxesAt w' h' β' bxs2∧Rep h' β' (AV.v (.int .i64 e)) u∧∀id g,id∉idsB bxs→blk (β' id)=some g→w.heap.size≤g) [d] u w3:=by
  intro β2 hle2 a5 u u' w3 bxs2 hu hset hdef hev3 hg3 hb2 hnew hne;rw[hd0];refine leaves_cons hu (hinv w3) ((hdef w3 h2 w.heap.size hev3.has hg3 hn2).mono ?_);rintro en u'' w4 ⟨rfl,h4,hev4,⟨v,rfl⟩,hg4,hn4⟩;show Leaves P fn _ _ [] (settle u'') w4;rw[hset]
  have hrun:(results fn #[fu,undef,p,v3,fu,a5]).run P w4 = .ok (.int .i64 e) w4:=by
   have hl:(loadVar te ⟨w.heap.size,0,none⟩).run P w4 = .ok (.int .i64 e) w4:=by
    have hisA:(isAgg te).run P w4 = .ok false w4:=by
     simp only[isAgg,Sem.run_bind,run_underlying hu_te]; rfl
    have hcell:w4.cell? ⟨w.heap.size,0,none⟩=some (.int .i64 e):=by simp[World.cell?,hg4]
    simp only[loadVar,Sem.run_bind,hisA,Result.andThen,Bool.false_eq_true,if_false,run_load,hcell]
   have hp2:(#[fu,undef,p,v3,fu,a5]:Array Value).getD 2 undef = .pointer (some ⟨w.heap.size,0,none⟩):=by rw[hp0]; rfl
   simp[results,hres,hp0,asAddr,hl]
  refine⟨_,hrun,h4,β2,hle2,(hev12.trans hev3 fun g hg => .inr (by rw[hg]; exact Nat.le_refl _)).trans hev4 fun g hg => .inr (by rw[hg]; exact Nat.le_refl _),_,rfl,⟨fun id B hB=>?_,hb2.apart⟩,by simp only[Rep],fun id g h1 h2=>by have:=hnew id g h1 h2; omega⟩;refine(hb2.box id B hB).keep (hev3.le.trans hev4.le) (AW _) fun g hg=>?_;have hb3:=blk_box (hb2.box id B hB) hg;have hgne:=hne id B g hB hg;have hs3:g<w3.heap.size:=Nat.lt_of_lt_of_le hb3.1 hev3.size;refine⟨by rw[hev4.block g hs3 hgne,hev3.block g hb3.1 hgne],?_⟩
  cases hh:h4 g with
  | none=>rfl
  | some cs=>
   rcases hev4.fresh g (by rw[hh]; simp)with h|h|h
   ·exact absurd hb3.2 h
   ·omega
   ·exact absurd h hgne
 cases res with
 | thr chain=>
  have q:en = .panicked chain:=q;subst q;obtain⟨v,u', hd1,hd2,rfl,hd3⟩:=hd;show Leaves P fn _ _ [d] (.panicking [v]) w2;refine hlast β (AW β) undef _ u' w2 [] (by simp) hd1 hd3 ?_ hg2 ⟨fun id B hB=>by simp[Au]at hB,fun _ _ _ _ hB=>by simp[Au]at hB⟩ ?_ (fun id B g hB=>by simp[Au]at hB)
  ·exact⟨rfl,rfl,⟨rfl,Nat.le_refl _⟩,Nat.le_refl _,fun _ _ _=>rfl,Ac _,fun _ hb => .inl hb,hev2.has⟩
  ·intro id g h1 h2; rw[hβn id h1]at h2; simp[blk]at h2
 | ret r=>
  obtain⟨u,rfl,hbx2,hru,hnew⟩:=q;obtain⟨rfl,hd3⟩:=hd;simp only[wpOps];show Code.wp P _ _ (⟨#[fu,undef,p,v3,fu,u],[d]⟩:Act) w2;have hst:=run_storeCells_at (P:=P) w.heap.size 0 te [.int .i64 0] 0 #[.int .i64 0] w2 hg2 (by simp) (by simp[Value.oneCell'])
  have hrunS:(execOp (⟨#[fu,undef,p,v3,fu,u],[d]⟩:Act).eval oS).run P w2 = .ok .skip (w2.setRow w.heap.size #[.int .i64 0]):=by
   have h1:(⟨#[fu,undef,p,v3,fu,u],[d]⟩:Act).eval (.tmp 2) = .pointer (some ⟨w.heap.size,0,none⟩):=by rw[←hp0]; rfl
   have h2:(⟨#[fu,undef,p,v3,fu,u],[d]⟩:Act).eval (.const (.int .i64 0)) = .int .i64 0:=rfl
   have h3:¬(Value.int .i64 0).cells.size≠1:=by simp[Value.cells]
   simp only[execOp,hS.1,h1,h2,Instr.storeAt,Instr.sureAddr,storeVar,Sem.run_bind,Sem.run_pure,Result.andThen,BZ (f.tabOk _ _ hti),if_neg h3];simp only[Value.cells]at hst ⊢;rw[hst];rfl
  refine wp_seq (wp_region (BR (ops:=⟨[oS]⟩) (i:=0) (o:=oS) rfl hS.2.1 ?_));unfold Oper.wp;rw[hrunS];simp only[Oper.upon,hS.2.2,wpOps];refine wp_ret ?_;show Leaves P fn _ _ [d] .returning (w2.setRow w.heap.size #[.int .i64 0]);refine hlast β2 hle2 u _ .returning _ bxs' (by simp) rfl hd3 ?_ ?_ hbx2 hnew ?_
  ·exact evo_of hev2.has rfl rfl ⟨rfl,Nat.le_refl _⟩ (by simp) (fun i _ hi=>setRow_other w2 w.heap.size i _ (fun e=>hi e)) (fun g hg=>by rw[hg]; exact hn2)
  ·exact setRow_heap w2 w.heap.size _ _ te _ hg2
  ·intro id B g h1 h2 h3;rcases Classical.em (id∈idsB bxs)with hm|hm
   ·obtain⟨B', hB'⟩:=Av bxs id hm;have hbv:=hbx.box id B' hB'
    have hg0:blk (β id)=some g:=by
     have:∃v,β id=some v:=by
      cases B' with
      | cells cs t=>obtain⟨g,us,e,_⟩:=hbv; exact⟨_,e⟩
      | row sz enc xs t=>obtain⟨v,vals,e,_⟩:=hbv; exact⟨_,e⟩
      | map ek av xs c=>obtain⟨g,es,e,_⟩:=hbv; exact⟨_,e⟩
      | iter m a' l c=>obtain⟨r,g,e,_⟩:=hbv; exact⟨_,e⟩
     obtain⟨v,hv⟩:=this;rw[hle2 _ _ hv,←hv]at h2; exact h2
    have:=(blk_box hbv hg0).1;omega
   ·have:=hnew id g hm h2;omega
end
end Go.AL
/- Loads from cells that stay az they are all through a region. -/
namespace Go.AL
def lookJ:Inv→Id→Nat→Option (List AV)
  | [],_,_=>none
  | (b,off,vs)::r,b', off'=>match Nat.beq b b'&&Nat.beq off off' with|true=>some vs|false=>lookJ r b' off'
theorem lookJ_mem:∀(J:Inv) (b:Id) (off:Nat) (vs:List AV),lookJ J b off=some vs→(b,off,vs)∈J
 | [],_,_,_,h=>by simp[lookJ]at h
 | (b,off,vs)::r,b', off', vs', h=>by
  simp only[lookJ]at h;split at h
  ·rename_i hb;simp only[Bool.and_eq_true]at hb;injection h with h; subst h;rw[←Nat.eq_of_beq_eq_true hb.1,←Nat.eq_of_beq_eq_true hb.2]; simp
  ·exact List.mem_cons_of_mem _ (lookJ_mem r b' off' vs' h)
theorem ofCells_take {agg:Bool} {n:Nat} {cs vs:List AV} {v:AV} (ht:cs.take vs.length=vs) (hn:vs.length=n) (h:BM agg n vs=some v):BM agg n cs=some v:=by
 have hl:vs.length≤cs.length:=by
  have:=congrArg List.length ht;rw[List.length_take]at this; omega
 cases agg with
 | true=>
  simp only[BM]at h ⊢;rw[show Nat.ble n vs.length=true from Nat.ble_eq_true_of_le (by omega)]at h;rw[show Nat.ble n cs.length=true from Nat.ble_eq_true_of_le (by omega)];rw[←hn]at h ⊢;rw[List.take_length]at h;simp only[ht]; exact h
 | false=>
  cases vs with
  | nil=>simp[BM]at h
  | cons c r=>
   cases cs with
   | nil=>simp at ht
   | cons d q=>simp at ht; simp only[BM]at h ⊢; rw[ht.1]; exact h
section
variable {P:Program} {tab:Tab} {n:Nat} {s:St}
variable {ops:Array Oper} {draw:Dr} {o:Oper} {l:List Oper} {acc:List Eff} {K:Exit→St→Prop}
theorem OpI.ldJ (ht:BG P tab) (hd:∀d,o.dst=some d→d<n) {J:Inv} {t:TypeId} {x:Operand} (hop:o.op = .load t x) {b:Id} {off:Nat} (hx:opd s x = .ptr b off) {vs:List AV} (hJ:lookJ J b off=some vs) {i:TI} (hti:tab t=some i) (hn:vs.length=i.size) {v:AV} (hv:BM (aggD i.desc) i.size vs=some v):OpI P n J o s ⟨v,[],[],[],[]⟩:=by
 refine⟨hd,fun C s' a w h β Q K hi hs _ _ k hK=>?_⟩
 have hxs:opd s' x=opd s x:=by
  cases x with
  | tmp t=>exact hs t (by rw[hop]; simp[Op.operands])
  | _=>rfl
 obtain⟨cs,t', h1,h2⟩:=hi _ _ _ (lookJ_mem J b off vs hJ)
 have hval:Aw tab s' o.op=some v:=by
  rw[hop];show loadV tab s' t (opd s' x)=some v;rw[hxs,hx];simp only[loadV,h1,hti];exact ofCells_take h2 hn hv
 obtain⟨u,hu1,hu2⟩:=val_run ht k hval;unfold Oper.wp;rw[hu1];simp only[Oper.upon];exact hK _ _ h β (k.val o.dst hd hu2 [])
theorem Fl.ldJ [f:Facts P tab] {t:TypeId} {x:Operand} (hop:o.op = .load t x) {b:Id} {off:Nat} (hx:opd s x = .ptr b off) {vs:List AV} (hJ:lookJ draw.J b off=some vs) {i:TI} (hti:tab t=some i) (hn:vs.length=i.size) {v:AV} (hv:BM (aggD i.desc) i.size vs=some v) (hg:gOk ops s o=true) (hd:dOk n o.dst=true)
  (r:Fl P n ops draw l ((Eff.mk v [] [] [] []).app o.dst s) (Eff.mk v [] [] [] []::acc) K):Fl P n ops draw (o::l) s acc K:=
 Fl.opI hg (OpI.ldJ f.tabOk (Aa hd) hop hx hJ hti hn hv) rfl (PresJ.val _ _ _) r
end
end Go.AL
namespace Go.AL
theorem InvJ.cons {b:Id} {off:Nat} {vs:List AV} {r:Inv} {s:St} (h:∃cs t,s.bx b=some (.cells cs t)∧(cs.drop off).take vs.length=vs) (k:InvJ r s):InvJ ((b,off,vs)::r) s:=by
 intro b' off' vs' hm;rcases List.mem_cons.1 hm with hm|hm
 ·injection hm with h1 h2; injection h2 with h2 h3; subst h1 h2 h3; exact h
 ·exact k _ _ _ hm
end Go.AL
/- Arrays: an element of an array's value; the address of an element of an array variable. -/
namespace Go.AL
section
variable {P:Program} {tab:Tab} {n:Nat} {s:St}
variable {ops:Array Oper} {draw:Dr} {o:Oper} {l:List Oper} {acc:List Eff} {K:Exit→St→Prop}
theorem OpJ.ixA (ht:BG P tab) (hd:∀d,o.dst=some d→d<n) {t:TypeId} {x y:Operand} (hop:o.op = .index t x y) {e:TypeId} {i:TI} {len sz' by':Nat} {z:List Value} (hts:tab t=some ⟨.array len e,sz', by', z⟩) (hti:tab e=some i) (hag:aggD i.desc=false) (hsz:i.size=1) {cs:List AV} (hx:opd s x = .agg cs) {k:IntKind} {m:Int} (hy:opd s y = .v (.int k m)) (h0:0≤m) (h1:m<len) {v:AV} (hv:cs[m.toNat]? = some v) :
  OpJ P n o s ⟨v,[],[],[],[]⟩:=by
 refine AR hd fun C s' a w h β ho _ b=>?_;have hxr:=AK b x;have hyr:=AK b y;rw[ho x (by simp[hop,Op.operands]),hx]at hxr;rw[ho y (by simp[hop,Op.operands]),hy]at hyr;simp only[Rep]at hxr hyr;obtain⟨us,e1,hr⟩:=hxr;obtain⟨u,hu1,hu2⟩:=hr.get _ _ hv;have hu:=(ht _ _ hts).und;simp only at hu;have hi:=ht _ _ hti
 have hisA:(isAgg e).run P w = .ok false w:=by
  simp only[isAgg,Sem.run_bind,run_underlying hi.und]
  cases hd:i.desc<;>simp[hd,aggD]at hag<;>rfl
 have hu1':us[m.toNat]? = some u:=by simpa using hu1
 refine⟨u,?_,hu2⟩;simp only[execOp,hop,e1,hyr,Instr.index,asIntOf,Sem.run_bind,Sem.run_pure,Result.andThen,run_underlying hu];rw[if_pos ⟨h0,h1⟩];simp only[Sem.run_bind,BZ hi,Result.andThen,part,hisA,Bool.false_eq_true,if_false,hsz,Nat.mul_one,hu1', Sem.run_pure]
theorem Fl.ixA [f:Facts P tab] {t:TypeId} {x y:Operand} (hop:o.op = .index t x y) {e:TypeId} {i:TI} {len sz' by':Nat} {z:List Value} (hts:tab t=some ⟨.array len e,sz', by', z⟩) (hti:tab e=some i) (hag:aggD i.desc=false) (hsz:i.size=1) {cs:List AV} (hx:opd s x = .agg cs) {k:IntKind} {m:Int} (hy:opd s y = .v (.int k m)) {v:AV} (hv:cs[m.toNat]? = some v) (hg:gOk ops s o=true) (hd:dOk n o.dst=true) (h0:0≤m) (h1:m<len)
  (r:Fl P n ops draw l ((Eff.mk v [] [] [] []).app o.dst s) (Eff.mk v [] [] [] []::acc) K):Fl P n ops draw (o::l) s acc K:=
 Af hg (OpJ.ixA f.tabOk (Aa hd) hop hts hti hag hsz hx hy h0 h1 hv) r
def buildArr (tab:Tab) (s:St) (t:TypeId) (parts:List (Nat×Operand)):Option AV:=
  match tab t with
  | some ⟨.array _ e,_,_,z⟩=>match tab e with
    | some i=>match fillA (fun k=>some (k*i.size,i.size)) (vL z) (opPs s parts)with
      | some cs=>EU cs fun cs=>some (.agg cs)
      | none=>none
    | none=>none
  | _=>none
theorem OpJ.buildArr (ht:BG P tab) (hd:∀d,o.dst=some d→d<n) {t:TypeId} {parts:List (Nat×Operand)} (hop:o.op = .build t ⟨parts⟩) {v:AV} (hv:buildArr tab s t parts=some v):OpJ P n o s ⟨v,[],[],[],[]⟩:=by
 refine AR hd fun C s' a w h β ho _ k=>?_;have hps:opPs s' parts=opPs s parts:=EZ parts fun x hx=>ho x (by rw[hop]; simpa[Op.operands]using hx);unfold Go.AL.buildArr at hv;split at hv
 ·rename_i len e sz by' z hti;split at hv
  ·rename_i i hei;split at hv
   ·rename_i cs hf;rw[Ds]at hv;injection hv with hv; subst hv;have hi:=ht _ _ hti;obtain⟨inf,zv,h1,h2,h3,h4,h5⟩:=hi.info;simp only at h5
    have hz:(zeroValue t).run P w = .ok zv w:=by simp[zeroValue,typeInfo,h1,h4]
    obtain⟨cells', hc1,hc2⟩:=fillA_ok (h:=h) (β:=β) (place:=fun k=>some (k*i.size,i.size)) (opPs s' parts) (parts.map fun p=>(p.1,a.eval p.2)) (vL z) cs zv.cells (by rw[(Cg s' parts).1]; simp) (by rw[(Cg s' parts).2]; have hq:=CU k (parts.map (·.2)); rw[List.map_map]at hq ⊢; exact hq)
     (by rw[h5]; exact Dw _) (by rw[hps]; exact hf)
    refine⟨.agg cells', ?_,by simp only[Rep]; exact⟨_,rfl,hc2⟩⟩;simp only[execOp,hop,Instr.build,Sem.run_bind,hz,Result.andThen,run_underlying hi.und,BZ (ht _ _ hei),List.map_toArray,hc1,Sem.run_pure]
   ·cases hv
  ·cases hv
 ·cases hv
theorem Fl.bArr [f:Facts P tab] {t:TypeId} {parts:List (Nat×Operand)} (hop:o.op = .build t ⟨parts⟩) (hg:gOk ops s o=true) (hd:dOk n o.dst=true) {v:AV} (hv:buildArr tab s t parts=some v)
  (r:Fl P n ops draw l ((Eff.mk v [] [] [] []).app o.dst s) (Eff.mk v [] [] [] []::acc) K):Fl P n ops draw (o::l) s acc K:=
 Af hg (OpJ.buildArr f.tabOk (Aa hd) hop hv) r
theorem OpJ.makeC (ht:BG P tab) (hd:∀d,o.dst=some d→d<n) {t:TypeId} {x y:Operand} (hop:o.op = .makeSlice t x y) {e:TypeId} {i:TI} {sz' by':Nat} {z:List Value} (hts:tab t=some ⟨.slice e,sz', by', z⟩) (hti:tab e=some i)
  {k k':IntKind} {m m':Int} (hx:opd s x = .v (.int k m)) (hy:opd s y = .v (.int k' m')) (hmm:m'=m) (h0:0≤m) (hby:m*i.bytes≤281474976710656) (hm:m≤9223372036854775807) (hpos:0<i.size) {α:Type} (enc:α→List AV) (x0:α) (hz:LeL (vL i.zero) (enc x0)) (hlen:(enc x0).length=i.size) (hmm2:m≤maxLen) :
  OpJ P n o s ⟨.sl i.size enc (List.replicate m.toNat x0),[],[],[],[]⟩:=by
 subst hmm;refine⟨hd,fun C s' a w h β Q K hs hb _ b hK=>?_⟩
 have same:∀z:Operand,(z=x∨z=y)→opd s' z=opd s z:=by
  intro z hz
  cases z with
  | tmp t=>exact hs t (by rw[hop]; simpa[Op.operands]using hz)
  | _=>rfl
 have hxr:=AK b x;have hyr:=AK b y;rw[same x (.inl rfl),hx]at hxr;rw[same y (.inr rfl),hy]at hyr;simp only[Rep]at hxr hyr;obtain⟨inf,zv,h1,h2,h3,h4,h5⟩:=(ht e i hti).info;have hu:=(ht _ _ hts).und;simp only at hu;obtain⟨c,rfl⟩:=Int.eq_ofNat_of_zero_le h0
 have hzs:zv.cells.size=i.size:=by rw[←Array.length_toList,h5,(ht e i hti).zs]
 have hmk:=run_make (P:=P) w t e inf zv hu h1 h4 k k' (c:Int) (c:Int) h0 (Int.le_refl _) (by rw[h3,Int.mul_comm]; exact hby) hm;rw[Int.toNat_natCast,h2]at hmk
 have hrun:(execOp a.eval o).run P w = .ok (.value (.slice (some ⟨w.heap.size,0,none⟩) c c)) (w.alloc (.cells (madeCells zv.cells (c*i.size)) e)):=by
  simp only[execOp,hop,hxr,hyr,Sem.run_bind,hmk,Result.andThen,Sem.run_pure]
 unfold Oper.wp;rw[hrun];simp only[Oper.upon];have hev:=evo_alloc_fixed b.evo.has (madeCells zv.cells (c*i.size)) e w rfl rfl ⟨rfl,Nat.le_refl _⟩ rfl;refine hK _ _ (h.set w.heap.size (madeCells zv.cells (c*i.size))) β (Base.val (b.step hev) o.dst hd ?_ [])
 have hml:(madeCells zv.cells (c*i.size)).toList=(List.replicate c zv.cells.toList).flatten:=by rw[←hzs]; exact made_flat _ _
 have hzr:RepL (h.set w.heap.size (madeCells zv.cells (c*i.size))) noB (enc x0) zv.cells.toList:=hz _ _ _ (by rw[h5]; exact Dw _);simp only[Rep];refine⟨some ⟨w.heap.size,0,none⟩,c,by simp,by simp,by omega,fun j x hx=>?_⟩
 have hjc:j<c:=by
  have:=(List.getElem?_eq_some_iff.1 hx).1;simpa using this
 have hxe:x=x0:=List.eq_of_mem_replicate (List.mem_of_getElem? hx);subst hxe;refine⟨⟨w.heap.size,0,none⟩,zv.cells.toList,rfl,by rw[Array.length_toList]; exact hzs,hzr,fun q u hq=>?_⟩
 have hqs:q<i.size:=by rw[←hzs,←Array.length_toList]; exact(List.getElem?_eq_some_iff.1 hq).1
 have hadd:(⟨w.heap.size,0,none⟩:Addr).add (j*i.size+q)=⟨w.heap.size,j*i.size+q,none⟩:=by unfold Addr.add; split<;>simp_all
 rw[hadd];refine⟨rfl,_,Hp.set_same _ _ _,?_⟩
 have hmod:(j*i.size+q) % i.size=q:=by rw[Nat.add_comm,Nat.add_mul_mod_self_right,Nat.mod_eq_of_lt hqs]
 rw[←Array.getElem?_toList,hml,flat_rep,Array.length_toList,hzs];show(if j*i.size+q<c*i.size then zv.cells.toList[(j*i.size+q) % i.size]? else none)=some u;rw[if_pos ?_,hmod]
 ·exact hq
 ·have:(j+1)*i.size≤c*i.size:=Nat.mul_le_mul_right _ (by omega);rw[Nat.add_mul]at this; omega
theorem Fl.makeC [f:Facts P tab] {t:TypeId} {x y:Operand} (hop:o.op = .makeSlice t x y) (hg:gOk ops s o=true) (hd:dOk n o.dst=true) {e:TypeId} {i:TI} {sz' by':Nat} {z:List Value} (hts:tab t=some ⟨.slice e,sz', by', z⟩) (hti:tab e=some i)
  {k k':IntKind} {m m':Int} (hx:opd s x = .v (.int k m)) (hy:opd s y = .v (.int k' m')) (hmm:m'=m) (hpos:Nat.blt 0 i.size=true) {α:Type} (enc:α→List AV) (x0:α) (hz:LeL (vL i.zero) (enc x0)) (hlen:Nat.beq (enc x0).length i.size=true) (h0:0≤m) (hby:m*i.bytes≤281474976710656) (hm:m≤1000000000)
  (r:Fl P n ops draw l ((Eff.mk (.sl i.size enc (List.replicate m.toNat x0)) [] [] [] []).app o.dst s) (Eff.mk (.sl i.size enc (List.replicate m.toNat x0)) [] [] [] []::acc) K):Fl P n ops draw (o::l) s acc K:=
 Af hg (OpJ.makeC f.tabOk (Aa hd) hop hts hti hx hy hmm h0 hby (by omega) (ltOf hpos) enc x0 hz (Nat.eq_of_beq_eq_true hlen) (by simp only[maxLen]; omega)) r
def litL:List AV→Option (List Value)
  | []=>some []
  | .v u::r=>match litL r with|some us=>some (u::us)|none=>none
  | _::_=>none
theorem litL_rep {h:Hp} {β:Bt}:∀ {cs:List AV} {us vs:List Value},litL cs=some vs→RepL h β cs us→us=vs
 | [],us,vs,h1,h2=>by simp only[litL]at h1; injection h1 with h1; subst h1; simpa only[RepL]using h2
 | c::cs,us,vs,h1,h2=>by
  simp only[RepL]at h2;obtain⟨u,r,rfl,h3,h4⟩:=h2
  cases c with
  | v x=>
   simp only[litL]at h1;split at h1
   ·rename_i ws hws;injection h1 with h1; subst h1;simp only[Rep]at h3;rw[h3,litL_rep hws h4]
   ·cases h1
  | _=>simp[litL]at h1
theorem Fl.eqV [f:Facts P tab] {t t':TypeId} {x y:Operand} (hop:o.op = .binOp .eql t x y t') {cs ds:List AV} (hx:opd s x = .agg cs) (hy:opd s y = .agg ds) {us vs:List Value} (h1:litL cs=some us) (h2:litL ds=some vs) (r0:Bool) (hg:gOk ops s o=true) (hd:dOk n o.dst=true)
  (hgd:∀w:World,(eqGuard .eql t x y (.agg us.toArray) (.agg vs.toArray)).run P w = .ok () w) (hrun:∀w:World,(binOp .eql t (.agg us.toArray) (.agg vs.toArray)).run P w = .ok (.bool r0) w)
  (r:Fl P n ops draw l ((Eff.mk (.v (.bool r0)) [] [] [] []).app o.dst s) (Eff.mk (.v (.bool r0)) [] [] [] []::acc) K):Fl P n ops draw (o::l) s acc K:=by
 refine Af hg (AR (tb:=[]) (Aa hd) fun C s' a w h β ho _ k=>?_) r;have hxr:=AK k x;have hyr:=AK k y;rw[ho x (by rw[hop]; simp[Op.operands]),hx]at hxr;rw[ho y (by rw[hop]; simp[Op.operands]),hy]at hyr;simp only[Rep]at hxr hyr;obtain⟨us', e1,hr1⟩:=hxr;obtain⟨vs', e2,hr2⟩:=hyr
 have e3:us'=us.toArray:=by rw[←litL_rep h1 hr1]
 have e4:vs'=vs.toArray:=by rw[←litL_rep h2 hr2]
 refine⟨.bool r0,?_,by simp only[Rep]⟩;simp only[execOp,hop,e1,e2,e3,e4,Sem.run_bind,hgd w,Result.andThen,hrun w,Sem.run_pure]
end
end Go.AL
/- The types of this seat. Written by tab.py. -/
namespace Go.Proofs.YtmmfloplhopioaaGreat
open Go.AL
abbrev ty3:TI:=⟨.int .i64,1,8,[.int .i64 0]⟩
abbrev ty94:TI:=⟨.int .u32,1,4,[.int .u32 0]⟩
abbrev ty46:TI:=⟨.slice 94,1,24,[.slice none 0 0]⟩
abbrev ty48:TI:=⟨.struct #[{ name := "Neg", type:=4,offset:=0,embedded:=false,tag := "", pkgPath := "", byteOffset:=0 },{ name := "Words", type:=46,offset:=1,embedded:=false,tag := "", pkgPath := "", byteOffset:=8 }],2,32,[.bool false,.slice none 0 0]⟩
abbrev ty4:TI:=⟨.bool,1,1,[.bool false]⟩
abbrev ty92:TI:=⟨.int .u64,1,8,[.int .u64 0]⟩
abbrev ty25:TI:=⟨.slice 3,1,24,[.slice none 0 0]⟩
abbrev ty33:TI:=⟨.slice 48,1,24,[.slice none 0 0]⟩
abbrev ty158:TI:=⟨.struct #[{ name := "Coef", type:=48,offset:=0,embedded:=false,tag := "", pkgPath := "", byteOffset:=0 },{ name := "Exps", type:=25,offset:=2,embedded:=false,tag := "", pkgPath := "", byteOffset:=32 }],3,56,[.bool false,.slice none 0 0,.slice none 0 0]⟩
abbrev ty103:TI:=⟨.slice 158,1,24,[.slice none 0 0]⟩
abbrev ty105:TI:=⟨.struct #[{ name := "Vars", type:=3,offset:=0,embedded:=false,tag := "", pkgPath := "", byteOffset:=0 },{ name := "Terms", type:=103,offset:=1,embedded:=false,tag := "", pkgPath := "", byteOffset:=8 }],2,32,[.int .i64 0,.slice none 0 0]⟩
abbrev ty2:TI:=⟨.int .i64,1,8,[.int .i64 0]⟩
abbrev ty5:TI:=⟨.int .u8,1,1,[.int .u8 0]⟩
abbrev ty9:TI:=⟨.string,1,16,[.string ⟨#[]⟩]⟩
abbrev ty12:TI:=⟨.int .u64,1,8,[.int .u64 0]⟩
abbrev ty21:TI:=⟨.int .i32,1,4,[.int .i32 0]⟩
abbrev ty22:TI:=⟨.slice 77,1,24,[.slice none 0 0]⟩
abbrev ty24:TI:=⟨.struct #[{ name := "Regs", type:=3,offset:=0,embedded:=false,tag := "", pkgPath := "", byteOffset:=0 },{ name := "Code", type:=22,offset:=1,embedded:=false,tag := "", pkgPath := "", byteOffset:=8 }],2,32,[.int .i64 0,.slice none 0 0]⟩
abbrev ty26:TI:=⟨.pointer 79,1,8,[.pointer none]⟩
abbrev ty30:TI:=⟨.slice 71,1,24,[.slice none 0 0]⟩
abbrev ty34:TI:=⟨.int .i64,1,8,[.int .i64 0]⟩
abbrev ty37:TI:=⟨.slice 99,1,24,[.slice none 0 0]⟩
abbrev ty39:TI:=⟨.struct #[{ name := "Vars", type:=3,offset:=0,embedded:=false,tag := "", pkgPath := "", byteOffset:=0 },{ name := "Links", type:=37,offset:=1,embedded:=false,tag := "", pkgPath := "", byteOffset:=8 }],2,32,[.int .i64 0,.slice none 0 0]⟩
abbrev ty71:TI:=⟨.struct #[{ name := "At", type:=3,offset:=0,embedded:=false,tag := "", pkgPath := "", byteOffset:=0 },{ name := "Regs", type:=25,offset:=1,embedded:=false,tag := "", pkgPath := "", byteOffset:=8 }],2,32,[.int .i64 0,.slice none 0 0]⟩
abbrev ty77:TI:=⟨.struct #[{ name := "Op", type:=3,offset:=0,embedded:=false,tag := "", pkgPath := "", byteOffset:=0 },{ name := "Reg", type:=3,offset:=1,embedded:=false,tag := "", pkgPath := "", byteOffset:=8 },{ name := "Next", type:=3,offset:=2,embedded:=false,tag := "", pkgPath := "", byteOffset:=16 },{ name := "Zero", type:=3,offset:=3,embedded:=false,tag := "", pkgPath := "", byteOffset:=24 }],4,32,[.int .i64 0,.int .i64 0,.int .i64 0,.int .i64 0]⟩
abbrev ty79:TI:=⟨.struct #[{ name := "m", type:=24,offset:=0,embedded:=false,tag := "", pkgPath := "arithmancy/arithmancytop", byteOffset:=0 },{ name := "at", type:=3,offset:=2,embedded:=false,tag := "", pkgPath := "arithmancy/arithmancytop", byteOffset:=32 },{ name := "regs", type:=25,offset:=3,embedded:=false,tag := "", pkgPath := "arithmancy/arithmancytop", byteOffset:=40 },{ name := "done", type:=4,offset:=4,embedded:=false,tag := "", pkgPath := "arithmancy/arithmancytop", byteOffset:=64 }],5,72,[.int .i64 0,.slice none 0 0,.int .i64 0,.slice none 0 0,.bool false]⟩
abbrev ty82:TI:=⟨.struct #[{ name := "m", type:=24,offset:=0,embedded:=false,tag := "", pkgPath := "arithmancy/history", byteOffset:=0 },{ name := "x", type:=25,offset:=2,embedded:=false,tag := "", pkgPath := "arithmancy/history", byteOffset:=32 },{ name := "vars", type:=3,offset:=3,embedded:=false,tag := "", pkgPath := "arithmancy/history", byteOffset:=56 },{ name := "add", type:=3,offset:=4,embedded:=false,tag := "", pkgPath := "arithmancy/history", byteOffset:=64 }],5,72,[.int .i64 0,.slice none 0 0,.slice none 0 0,.int .i64 0,.int .i64 0]⟩
abbrev ty95:TI:=⟨.int .u64,1,8,[.int .u64 0]⟩
abbrev ty97:TI:=⟨.slice 105,1,24,[.slice none 0 0]⟩
abbrev ty99:TI:=⟨.struct #[{ name := "Kind", type:=3,offset:=0,embedded:=false,tag := "", pkgPath := "", byteOffset:=0 },{ name := "Vars", type:=25,offset:=1,embedded:=false,tag := "", pkgPath := "", byteOffset:=8 },{ name := "Polys", type:=97,offset:=2,embedded:=false,tag := "", pkgPath := "", byteOffset:=32 }],3,56,[.int .i64 0,.slice none 0 0,.slice none 0 0]⟩
abbrev ty100:TI:=⟨.pointer 102,1,8,[.pointer none]⟩
abbrev ty102:TI:=⟨.struct #[{ name := "n", type:=3,offset:=0,embedded:=false,tag := "", pkgPath := "arithmancy/arithmancyref14", byteOffset:=0 },{ name := "links", type:=37,offset:=1,embedded:=false,tag := "", pkgPath := "arithmancy/arithmancyref14", byteOffset:=8 }],2,32,[.int .i64 0,.slice none 0 0]⟩
abbrev ty124:TI:=⟨.pointer 127,1,8,[.pointer none]⟩
abbrev ty127:TI:=⟨.struct #[{ name := "m", type:=24,offset:=0,embedded:=false,tag := "", pkgPath := "arithmancy/register", byteOffset:=0 },{ name := "c", type:=71,offset:=2,embedded:=false,tag := "", pkgPath := "arithmancy/register", byteOffset:=32 }],4,64,[.int .i64 0,.slice none 0 0,.int .i64 0,.slice none 0 0]⟩
abbrev ty139:TI:=⟨.pointer 144,1,8,[.pointer none]⟩
abbrev ty141:TI:=⟨.struct #[{ name := "vars", type:=3,offset:=0,embedded:=false,tag := "", pkgPath := "arithmancy/expr", byteOffset:=0 }],1,8,[.int .i64 0]⟩
abbrev ty144:TI:=⟨.struct #[{ name := "sizes", type:=82,offset:=0,embedded:=true,tag := "", pkgPath := "arithmancy/history", byteOffset:=0 },{ name := "Kit", type:=141,offset:=5,embedded:=true,tag := "", pkgPath := "", byteOffset:=72 },{ name := "q", type:=105,offset:=6,embedded:=false,tag := "", pkgPath := "arithmancy/history", byteOffset:=80 },{ name := "all", type:=105,offset:=8,embedded:=false,tag := "", pkgPath := "arithmancy/history", byteOffset:=112 },{ name := "list", type:=37,offset:=10,embedded:=false,tag := "", pkgPath := "arithmancy/history", byteOffset:=144 }],11,168,[.int .i64 0,.slice none 0 0,.slice none 0 0,.int .i64 0,.int .i64 0,.int .i64 0,.int .i64 0,.slice none 0 0,.int .i64 0,.slice none 0 0,.slice none 0 0]⟩
abbrev ty181:TI:=⟨.pointer 3,1,8,[.pointer none]⟩
abbrev ty182:TI:=⟨.slice 94,1,24,[.slice none 0 0]⟩
abbrev ty186:TI:=⟨.slice 5,1,24,[.slice none 0 0]⟩
abbrev ty215:TI:=⟨.array 4 3,4,32,[.int .i64 0,.int .i64 0,.int .i64 0,.int .i64 0]⟩
abbrev ty219:TI:=⟨.int .i64,1,8,[.int .i64 0]⟩
abbrev ty227:TI:=⟨.pointer 245,1,8,[.pointer none]⟩
abbrev ty228:TI:=⟨.pointer 249,1,8,[.pointer none]⟩
abbrev ty240:TI:=⟨.struct #[{ name := "chi", type:=48,offset:=0,embedded:=false,tag := "", pkgPath := "arithmancy/lucas", byteOffset:=0 },{ name := "psi", type:=48,offset:=2,embedded:=false,tag := "", pkgPath := "arithmancy/lucas", byteOffset:=32 }],4,64,[.bool false,.slice none 0 0,.bool false,.slice none 0 0]⟩
abbrev ty243:TI:=⟨.struct #[{ name := "Err", type:=34,offset:=0,embedded:=false,tag := "", pkgPath := "", byteOffset:=0 }],1,8,[.int .i64 0]⟩
abbrev ty245:TI:=⟨.struct #[{ name := "Chain", type:=243,offset:=0,embedded:=true,tag := "", pkgPath := "", byteOffset:=0 },{ name := "a", type:=48,offset:=1,embedded:=false,tag := "", pkgPath := "arithmancy/lucas", byteOffset:=8 },{ name := "rest", type:=200,offset:=3,embedded:=false,tag := "", pkgPath := "arithmancy/lucas", byteOffset:=40 }],4,48,[.int .i64 0,.bool false,.slice none 0 0,.nilFunc]⟩
abbrev ty247:TI:=⟨.map 251 48,1,8,[.map none]⟩
abbrev ty249:TI:=⟨.struct #[{ name := "vars", type:=3,offset:=0,embedded:=false,tag := "", pkgPath := "arithmancy/poly", byteOffset:=0 },{ name := "all", type:=247,offset:=1,embedded:=false,tag := "", pkgPath := "arithmancy/poly", byteOffset:=8 }],2,16,[.int .i64 0,.map none]⟩
abbrev ty250:TI:=⟨.array 32 3,32,256,[.int .i64 0,.int .i64 0,.int .i64 0,.int .i64 0,.int .i64 0,.int .i64 0,.int .i64 0,.int .i64 0,.int .i64 0,.int .i64 0,.int .i64 0,.int .i64 0,.int .i64 0,.int .i64 0,.int .i64 0,.int .i64 0,.int .i64 0,.int .i64 0,.int .i64 0,.int .i64 0,.int .i64 0,.int .i64 0,.int .i64 0,.int .i64 0,.int .i64 0,.int .i64 0,.int .i64 0,.int .i64 0,.int .i64 0,.int .i64 0,.int .i64 0,.int .i64 0]⟩
abbrev ty251:TI:=⟨.array 32 3,32,256,[.int .i64 0,.int .i64 0,.int .i64 0,.int .i64 0,.int .i64 0,.int .i64 0,.int .i64 0,.int .i64 0,.int .i64 0,.int .i64 0,.int .i64 0,.int .i64 0,.int .i64 0,.int .i64 0,.int .i64 0,.int .i64 0,.int .i64 0,.int .i64 0,.int .i64 0,.int .i64 0,.int .i64 0,.int .i64 0,.int .i64 0,.int .i64 0,.int .i64 0,.int .i64 0,.int .i64 0,.int .i64 0,.int .i64 0,.int .i64 0,.int .i64 0,.int .i64 0]⟩
abbrev ty257:TI:=⟨.pointer 243,1,8,[.pointer none]⟩
abbrev ty261:TI:=⟨.int .i64,1,8,[.int .i64 0]⟩
abbrev ty269:TI:=⟨.int .u64,1,8,[.int .u64 0]⟩
abbrev ty274:TI:=⟨.pointer 269,1,8,[.pointer none]⟩
abbrev ty286:TI:=⟨.pointer 5,1,8,[.pointer none]⟩
abbrev ty200:TI:=⟨.func #[48] #[48] false,1,8,[.nilFunc]⟩
abbrev ty209:TI:=⟨.func #[] #[105] false,1,8,[.nilFunc]⟩
abbrev ty285:TI:=⟨.func #[291,291] #[4] false,1,8,[.nilFunc]⟩
def tabL:List (Nat×TI):=[(3,ty3),(94,ty94),(46,ty46),(48,ty48),(4,ty4),(92,ty92),(25,ty25),(33,ty33),(158,ty158),(103,ty103),(105,ty105),(2,ty2),(5,ty5),(9,ty9),(12,ty12),(21,ty21),(22,ty22),(24,ty24),(26,ty26),(30,ty30),(34,ty34),(37,ty37),(39,ty39),(71,ty71),(77,ty77),(79,ty79),(82,ty82),(95,ty95),(97,ty97),(99,ty99),(100,ty100),(102,ty102),(124,ty124),(127,ty127),(139,ty139),(141,ty141),(144,ty144),(181,ty181),(182,ty182),(186,ty186),(215,ty215),(219,ty219),(227,ty227),(228,ty228),(240,ty240),(243,ty243),(245,ty245),(247,ty247),(249,ty249),(250,ty250),(251,ty251),(257,ty257),(261,ty261),(269,ty269),(274,ty274),(286,ty286),(200,ty200),(209,ty209),(285,ty285)]
def tab:Tab:=lookT tabL
theorem ti3:TIOk Tryz.prog 3 ty3:=TIOk.of Tryz.underlying3 (.int .i64 0) (by kernel_rfl) rfl rfl
theorem ti94:TIOk Tryz.prog 94 ty94:=TIOk.of Tryz.underlying94 (.int .u32 0) (by kernel_rfl) rfl rfl
theorem ti46:TIOk Tryz.prog 46 ty46:=TIOk.of Tryz.underlying46 (.slice none 0 0) (by kernel_rfl) rfl rfl
theorem ti48:TIOk Tryz.prog 48 ty48:=TIOk.of Tryz.underlying48 (.agg #[.bool false,.slice none 0 0]) (by kernel_rfl) rfl rfl
theorem ti4:TIOk Tryz.prog 4 ty4:=TIOk.of Tryz.underlying4 (.bool false) (by kernel_rfl) rfl rfl
theorem ti92:TIOk Tryz.prog 92 ty92:=TIOk.of Tryz.underlying92 (.int .u64 0) (by kernel_rfl) rfl rfl
theorem ti25:TIOk Tryz.prog 25 ty25:=TIOk.of Tryz.underlying25 (.slice none 0 0) (by kernel_rfl) rfl rfl
theorem ti33:TIOk Tryz.prog 33 ty33:=TIOk.of Tryz.underlying33 (.slice none 0 0) (by kernel_rfl) rfl rfl
theorem ti158:TIOk Tryz.prog 158 ty158:=TIOk.of Tryz.underlying158 (.agg #[.bool false,.slice none 0 0,.slice none 0 0]) (by kernel_rfl) rfl rfl
theorem ti103:TIOk Tryz.prog 103 ty103:=TIOk.of Tryz.underlying103 (.slice none 0 0) (by kernel_rfl) rfl rfl
theorem ti105:TIOk Tryz.prog 105 ty105:=TIOk.of Tryz.underlying105 (.agg #[.int .i64 0,.slice none 0 0]) (by kernel_rfl) rfl rfl
theorem ti2:TIOk Tryz.prog 2 ty2:=TIOk.of Tryz.underlying2 (.int .i64 0) (by kernel_rfl) rfl rfl
theorem ti5:TIOk Tryz.prog 5 ty5:=TIOk.of Tryz.underlying5 (.int .u8 0) (by kernel_rfl) rfl rfl
theorem ti9:TIOk Tryz.prog 9 ty9:=TIOk.of Tryz.underlying9 (.string ⟨#[]⟩) (by kernel_rfl) rfl rfl
theorem ti12:TIOk Tryz.prog 12 ty12:=TIOk.of Tryz.underlying12 (.int .u64 0) (by kernel_rfl) rfl rfl
theorem ti21:TIOk Tryz.prog 21 ty21:=TIOk.of Tryz.underlying21 (.int .i32 0) (by kernel_rfl) rfl rfl
theorem ti22:TIOk Tryz.prog 22 ty22:=TIOk.of Tryz.underlying22 (.slice none 0 0) (by kernel_rfl) rfl rfl
theorem ti24:TIOk Tryz.prog 24 ty24:=TIOk.of Tryz.underlying24 (.agg #[.int .i64 0,.slice none 0 0]) (by kernel_rfl) rfl rfl
theorem ti26:TIOk Tryz.prog 26 ty26:=TIOk.of Tryz.underlying26 (.pointer none) (by kernel_rfl) rfl rfl
theorem ti30:TIOk Tryz.prog 30 ty30:=TIOk.of Tryz.underlying30 (.slice none 0 0) (by kernel_rfl) rfl rfl
theorem ti34:TIOk Tryz.prog 34 ty34:=TIOk.of Tryz.underlying34 (.int .i64 0) (by kernel_rfl) rfl rfl
theorem ti37:TIOk Tryz.prog 37 ty37:=TIOk.of Tryz.underlying37 (.slice none 0 0) (by kernel_rfl) rfl rfl
theorem ti39:TIOk Tryz.prog 39 ty39:=TIOk.of Tryz.underlying39 (.agg #[.int .i64 0,.slice none 0 0]) (by kernel_rfl) rfl rfl
theorem ti71:TIOk Tryz.prog 71 ty71:=TIOk.of Tryz.underlying71 (.agg #[.int .i64 0,.slice none 0 0]) (by kernel_rfl) rfl rfl
theorem ti77:TIOk Tryz.prog 77 ty77:=TIOk.of Tryz.underlying77 (.agg #[.int .i64 0,.int .i64 0,.int .i64 0,.int .i64 0]) (by kernel_rfl) rfl rfl
theorem ti79:TIOk Tryz.prog 79 ty79:=TIOk.of Tryz.underlying79 (.agg #[.int .i64 0,.slice none 0 0,.int .i64 0,.slice none 0 0,.bool false]) (by kernel_rfl) rfl rfl
theorem ti82:TIOk Tryz.prog 82 ty82:=TIOk.of Tryz.underlying82 (.agg #[.int .i64 0,.slice none 0 0,.slice none 0 0,.int .i64 0,.int .i64 0]) (by kernel_rfl) rfl rfl
theorem ti95:TIOk Tryz.prog 95 ty95:=TIOk.of Tryz.underlying95 (.int .u64 0) (by kernel_rfl) rfl rfl
theorem ti97:TIOk Tryz.prog 97 ty97:=TIOk.of Tryz.underlying97 (.slice none 0 0) (by kernel_rfl) rfl rfl
theorem ti99:TIOk Tryz.prog 99 ty99:=TIOk.of Tryz.underlying99 (.agg #[.int .i64 0,.slice none 0 0,.slice none 0 0]) (by kernel_rfl) rfl rfl
theorem ti100:TIOk Tryz.prog 100 ty100:=TIOk.of Tryz.underlying100 (.pointer none) (by kernel_rfl) rfl rfl
theorem ti102:TIOk Tryz.prog 102 ty102:=TIOk.of Tryz.underlying102 (.agg #[.int .i64 0,.slice none 0 0]) (by kernel_rfl) rfl rfl
theorem ti124:TIOk Tryz.prog 124 ty124:=TIOk.of Tryz.underlying124 (.pointer none) (by kernel_rfl) rfl rfl
theorem ti127:TIOk Tryz.prog 127 ty127:=TIOk.of Tryz.underlying127 (.agg #[.int .i64 0,.slice none 0 0,.int .i64 0,.slice none 0 0]) (by kernel_rfl) rfl rfl
theorem ti139:TIOk Tryz.prog 139 ty139:=TIOk.of Tryz.underlying139 (.pointer none) (by kernel_rfl) rfl rfl
theorem ti141:TIOk Tryz.prog 141 ty141:=TIOk.of Tryz.underlying141 (.agg #[.int .i64 0]) (by kernel_rfl) rfl rfl
theorem ti144:TIOk Tryz.prog 144 ty144:=TIOk.of Tryz.underlying144 (.agg #[.int .i64 0,.slice none 0 0,.slice none 0 0,.int .i64 0,.int .i64 0,.int .i64 0,.int .i64 0,.slice none 0 0,.int .i64 0,.slice none 0 0,.slice none 0 0]) (by kernel_rfl) rfl rfl
theorem ti181:TIOk Tryz.prog 181 ty181:=TIOk.of Tryz.underlying181 (.pointer none) (by kernel_rfl) rfl rfl
theorem ti182:TIOk Tryz.prog 182 ty182:=TIOk.of Tryz.underlying182 (.slice none 0 0) (by kernel_rfl) rfl rfl
theorem ti186:TIOk Tryz.prog 186 ty186:=TIOk.of Tryz.underlying186 (.slice none 0 0) (by kernel_rfl) rfl rfl
theorem ti215:TIOk Tryz.prog 215 ty215:=TIOk.of Tryz.underlying215 (.agg #[.int .i64 0,.int .i64 0,.int .i64 0,.int .i64 0]) (by kernel_rfl) rfl rfl
theorem ti219:TIOk Tryz.prog 219 ty219:=TIOk.of Tryz.underlying219 (.int .i64 0) (by kernel_rfl) rfl rfl
theorem ti227:TIOk Tryz.prog 227 ty227:=TIOk.of Tryz.underlying227 (.pointer none) (by kernel_rfl) rfl rfl
theorem ti228:TIOk Tryz.prog 228 ty228:=TIOk.of Tryz.underlying228 (.pointer none) (by kernel_rfl) rfl rfl
theorem ti240:TIOk Tryz.prog 240 ty240:=TIOk.of Tryz.underlying240 (.agg #[.bool false,.slice none 0 0,.bool false,.slice none 0 0]) (by kernel_rfl) rfl rfl
theorem ti243:TIOk Tryz.prog 243 ty243:=TIOk.of Tryz.underlying243 (.agg #[.int .i64 0]) (by kernel_rfl) rfl rfl
theorem ti245:TIOk Tryz.prog 245 ty245:=TIOk.of Tryz.underlying245 (.agg #[.int .i64 0,.bool false,.slice none 0 0,.nilFunc]) (by kernel_rfl) rfl rfl
theorem ti247:TIOk Tryz.prog 247 ty247:=TIOk.of Tryz.underlying247 (.map none) (by kernel_rfl) rfl rfl
theorem ti249:TIOk Tryz.prog 249 ty249:=TIOk.of Tryz.underlying249 (.agg #[.int .i64 0,.map none]) (by kernel_rfl) rfl rfl
theorem ti250:TIOk Tryz.prog 250 ty250:=TIOk.of Tryz.underlying250 (.agg #[.int .i64 0,.int .i64 0,.int .i64 0,.int .i64 0,.int .i64 0,.int .i64 0,.int .i64 0,.int .i64 0,.int .i64 0,.int .i64 0,.int .i64 0,.int .i64 0,.int .i64 0,.int .i64 0,.int .i64 0,.int .i64 0,.int .i64 0,.int .i64 0,.int .i64 0,.int .i64 0,.int .i64 0,.int .i64 0,.int .i64 0,.int .i64 0,.int .i64 0,.int .i64 0,.int .i64 0,.int .i64 0,.int .i64 0,.int .i64 0,.int .i64 0,.int .i64 0]) (by kernel_rfl) rfl rfl
theorem ti251:TIOk Tryz.prog 251 ty251:=TIOk.of Tryz.underlying251 (.agg #[.int .i64 0,.int .i64 0,.int .i64 0,.int .i64 0,.int .i64 0,.int .i64 0,.int .i64 0,.int .i64 0,.int .i64 0,.int .i64 0,.int .i64 0,.int .i64 0,.int .i64 0,.int .i64 0,.int .i64 0,.int .i64 0,.int .i64 0,.int .i64 0,.int .i64 0,.int .i64 0,.int .i64 0,.int .i64 0,.int .i64 0,.int .i64 0,.int .i64 0,.int .i64 0,.int .i64 0,.int .i64 0,.int .i64 0,.int .i64 0,.int .i64 0,.int .i64 0]) (by kernel_rfl) rfl rfl
theorem ti257:TIOk Tryz.prog 257 ty257:=TIOk.of Tryz.underlying257 (.pointer none) (by kernel_rfl) rfl rfl
theorem ti261:TIOk Tryz.prog 261 ty261:=TIOk.of Tryz.underlying261 (.int .i64 0) (by kernel_rfl) rfl rfl
theorem ti269:TIOk Tryz.prog 269 ty269:=TIOk.of Tryz.underlying269 (.int .u64 0) (by kernel_rfl) rfl rfl
theorem ti274:TIOk Tryz.prog 274 ty274:=TIOk.of Tryz.underlying274 (.pointer none) (by kernel_rfl) rfl rfl
theorem ti286:TIOk Tryz.prog 286 ty286:=TIOk.of Tryz.underlying286 (.pointer none) (by kernel_rfl) rfl rfl
theorem ti200:TIOk Tryz.prog 200 ty200:=TIOk.of Tryz.underlying200 (.nilFunc) (by kernel_rfl) rfl rfl
theorem ti209:TIOk Tryz.prog 209 ty209:=TIOk.of Tryz.underlying209 (.nilFunc) (by kernel_rfl) rfl rfl
theorem ti285:TIOk Tryz.prog 285 ty285:=TIOk.of Tryz.underlying285 (.nilFunc) (by kernel_rfl) rfl rfl
theorem tabAll:AllTI Tryz.prog tabL:=(.cons ti3 (.cons ti94 (.cons ti46 (.cons ti48 (.cons ti4 (.cons ti92 (.cons ti25 (.cons ti33 (.cons ti158 (.cons ti103 (.cons ti105 (.cons ti2 (.cons ti5 (.cons ti9 (.cons ti12 (.cons ti21 (.cons ti22 (.cons ti24 (.cons ti26 (.cons ti30 (.cons ti34 (.cons ti37 (.cons ti39 (.cons ti71 (.cons ti77 (.cons ti79 (.cons ti82 (.cons ti95 (.cons ti97 (.cons ti99 (.cons ti100 (.cons ti102 (.cons ti124 (.cons ti127 (.cons ti139 (.cons ti141 (.cons ti144 (.cons ti181 (.cons ti182 (.cons ti186 (.cons ti215 (.cons ti219 (.cons ti227 (.cons ti228 (.cons ti240 (.cons ti243 (.cons ti245 (.cons ti247 (.cons ti249 (.cons ti250 (.cons ti251 (.cons ti257 (.cons ti261 (.cons ti269 (.cons ti274 (.cons ti286 (.cons ti200 (.cons ti209 (.cons ti285 .nil)))))))))))))))))))))))))))))))))))))))))))))))))))))))))))
theorem tabOk:BG Tryz.prog tab:=tabOk_of tabAll
instance:Facts Tryz.prog tab:=⟨tabOk,by kernel_rfl⟩
end Go.Proofs.YtmmfloplhopioaaGreat
/- How the program's data are written az abstract values. -/
namespace Go.AL
def eW:Int→List AV:=fun w=>[.v (.int .u32 w)]
def eI:Int→List AV:=fun i=>[.v (.int .i64 i)]
abbrev aW (l:List Int):AV := .sl 1 eW l
abbrev aI (l:List Int):AV := .sl 1 eI l
abbrev aN (i:Int):AV := .v (.int .i64 i)
abbrev aB (b:Bool):AV := .v (.bool b)
abbrev aU (i:Int):AV := .v (.int .u64 i)
structure Z where
  neg:Bool
  w:List Int
def eZ:Z→List AV:=fun z=>[aB z.neg,aW z.w]
abbrev aZ (z:Z):AV := .agg [aB z.neg,aW z.w]
def zOf (x:Int):Z:=⟨decide (x<0),toW x.natAbs⟩
def eX:Int→List AV:=fun x=>[aB (decide (x<0)),aW (toW x.natAbs)]
abbrev aX (x:Int):AV := .agg [aB (decide (x<0)),aW (toW x.natAbs)]
def Fit (x:Int):Prop:=x.natAbs<BB 4096
instance decFit (x:Int):Decidable (Fit x):=inferInstanceAs (Decidable ((x.natAbs:Int)<BB 4096))
attribute [irreducible] decFit
theorem Fit.lt {x:Int} (h:Fit x):(x.natAbs:Int)<BB 4096:=h
theorem Fit.mk {x:Int} (h:(x.natAbs:Int)<BB 4096):Fit x:=h
attribute [irreducible] Fit
end Go.AL
namespace Go.AL
theorem trimL_take0 {l:List Int} {n:Int} (h0:0<n) (hx:l[(n-1).toNat]? = some 0):BA (l.take (n-1).toNat)=BA (l.take n.toNat):=by
 have:n.toNat=(n-1).toNat+1:=by omega
 rw[this,Ab hx,EE]
theorem trimL_take1 {l:List Int} {n:Int} {x:Int} (h0:0<n) (hx:l[(n-1).toNat]? = some x) (hz:¬x=0):BA (l.take n.toNat)=l.take n.toNat:=by
 have:n.toNat=(n-1).toNat+1:=by omega
 rw[this,Ab hx,trimL_snoc hz]
end Go.AL
namespace Go.Proofs.YtmmfloplhopioaaGreat
open Go.AL
theorem trim_ok (l:List Int) (hl:WOk l) (hb:l.length≤100000):PureFn Tryz.prog 152 [aW l] (aW (toW (val l))):=by
 refine AC Tryz.func152 rfl Tryz.ntmps152 rfl rfl ?_;(repeat' first|refine qv ?_|apply qn|apply qs|apply qr|apply qb);refine AWP.loop (G:=Int) (fun n=>0≤n∧n≤l.length∧BA (l.take n.toNat)=BA l) (fun n=>AO [] [(0,aW l),(3,aN n)] []) (fun n=>n.toNat) (l.length:Int) ⟨by omega,by omega,by simp⟩ ?_ ?_
 ·exact Ent.of [] ⟨⟨AA _,rfl⟩,⟨AA _,rfl⟩,trivial⟩ trivial rfl rfl
 ·intro n ⟨h0,h1,h2⟩;(repeat' first|refine qv ?_|apply qn|apply qs|apply qr|refine qw ?_|refine Fl.skip rfl rfl ?_|refine AF rfl ?_|(refine AD rfl ?_ ?_<;>intro _<;>try(exfalso; omega))|apply qb|apply qk|apply qx|apply qt|(refine CJ rfl rfl rfl rfl rfl rfl rfl rfl (by omega) (by omega) (by assumption) ?_; intro _ _ _ _)|(refine AG rfl rfl ?_ ?_<;>intro _<;>try(exfalso; omega)))
  ·rename_i x hx hx0 hx1 hz;subst hz;refine LoopEnd.of (n-1) ⟨by omega,by omega,?_⟩ (by omega) ?_
   ·rw[←h2,trimL_take0 (by omega) hx]
   ·exact Ent.of [] ⟨⟨AA _,rfl⟩,⟨AA _,rfl⟩,trivial⟩ trivial rfl rfl
  ·rename_i x hx hx0 hx1 hz;refine RetOk.of rfl (AP ?_);rw[←CQ hl,←h2,trimL_take1 (by omega) hx hz]
  ·refine RetOk.of rfl (AP ?_)
   have:n=0:=by omega
   subst this;rw[←CQ hl,←h2]; simp[BA]
end Go.Proofs.YtmmfloplhopioaaGreat
/- Words: comparing, adding, subtracting, multiplying; plain. -/
namespace Go.AL
def cmpI (x y:Int):Int:=if x<y then -1 else if y<x then 1 else 0
theorem EN {x y:Int} (h:x<y):cmpI x y = -1:=by simp[cmpI,h]
theorem EO {x y:Int} (h:y<x):cmpI x y=1:=by unfold cmpI; rw[if_neg (by omega),if_pos h]
theorem cmpI_eq {x y:Int} (h:x=y):cmpI x y=0:=by unfold cmpI; rw[if_neg (by omega),if_neg (by omega)]
theorem C7 {x y:Int} (hx:0≤x) (hy:0≤y) (h:(toW x).length<(toW y).length):x<y:=by
 have h1:=(BS hx (toW x).length).1 (Nat.le_refl _)
 have h2:¬y<BB (toW x).length:=fun h2=>by have:=(BS hy _).2 h2; omega
 omega
theorem val_split {l:List Int} {i:Nat} {x:Int} (hx:l[i]? = some x):val l=val (l.take i)+BB i*(x+4294967296*val (l.drop (i+1))):=by
 have hi:i<l.length:=(List.getElem?_eq_some_iff.1 hx).1
 have h1:l=l.take i++x::l.drop (i+1):=by
  rw[show x::l.drop (i+1)=l.drop i from ?_,List.take_append_drop];have:=(List.getElem?_eq_some_iff.1 hx).2;rw[List.drop_eq_getElem_cons hi,this]
 conv=>lhs; rw[h1,Dv,List.length_take,Nat.min_eq_left (by omega)]
 simp only[val]
theorem val_lt_at {a b:List Int} (ha:WOk a) (hb:WOk b) {i:Nat} {x y:Int} (hx:a[i]? = some x) (hy:b[i]? = some y) (hd:a.drop (i+1)=b.drop (i+1)) (h:x<y):val a<val b:=by
 rw[val_split hx,val_split hy,hd];have h1:=DU (ha.take i);have h2:=Al (hb.take i);have hi:i<a.length:=(List.getElem?_eq_some_iff.1 hx).1;rw[List.length_take,Nat.min_eq_left (by omega)]at h1;have h3:BB i*1≤BB i*(y-x):=Int.mul_le_mul_of_nonneg_left (by omega) (by have:=A6 i; omega)
 have h4:BB i*(y+4294967296*val (b.drop (i+1)))=BB i*(x+4294967296*val (b.drop (i+1)))+BB i*(y-x):=by grind
 omega
theorem drop_eq_of {a b:List Int} {i:Nat} {x y:Int} (hx:a[i]? = some x) (hy:b[i]? = some y) (hd:a.drop (i+1)=b.drop (i+1)) (h:x=y):a.drop i=b.drop i:=by
 have hi:i<a.length:=(List.getElem?_eq_some_iff.1 hx).1;have hi2:i<b.length:=(List.getElem?_eq_some_iff.1 hy).1;rw[List.drop_eq_getElem_cons hi,List.drop_eq_getElem_cons hi2,hd,(List.getElem?_eq_some_iff.1 hx).2,(List.getElem?_eq_some_iff.1 hy).2,h]
theorem Ae {A:List Int} {i:Nat} {x:Int} (h:A[i]? = some x):val (A.take (i+1))=val (A.take i)+BB i*x:=by
 have hi:i<A.length:=(List.getElem?_eq_some_iff.1 h).1;rw[Ab h,Cd,List.length_take,Nat.min_eq_left (by omega)]
theorem CC {B:List Int} {i:Nat} (h:B.length≤i):val (B.take (i+1))=val (B.take i)+BB i*0:=by
 rw[List.take_of_length_le h,List.take_of_length_le (by omega)]; omega
theorem CP {os:List Int} {n m k:Nat} {w w':Int} (hk:k=os.length) (hn:n=m+1) (hw:w=w'):(os++List.replicate n 0).set k w=os++[w']++List.replicate m 0:=by
 subst hk hn hw;rw[List.replicate_succ,set_at]
theorem get_drop {α:Type} {os A:List α} {k:Nat} (hk:k=os.length):(os++A.drop os.length)[k]? = A[os.length]? := by
 subst hk;rw[List.getElem?_append_right (Nat.le_refl _),Nat.sub_self,List.getElem?_drop]; rfl
theorem set_drop {α:Type} {os A:List α} {k:Nat} {w w':α} (hk:k=os.length) (hl:os.length<A.length) (hw:w=w'):(os++A.drop os.length).set k w=os++[w']++A.drop (os.length+1):=by
 subst hk hw;rw[List.drop_eq_getElem_cons hl,set_at]
theorem plus_step {os A B:List Int} {c x y s:Int} (hA:A[os.length]? = some x) (hB:val (B.take (os.length+1))=val (B.take os.length)+BB os.length*y)
  (h:val os+BB os.length*c=val (A.take os.length)+val (B.take os.length)) (hs:s=c+x+y) :
  val (os++[s % 4294967296])+BB (os.length+1)*(s/4294967296)=val (A.take (os.length+1))+val (B.take (os.length+1)):=by
 rw[Cd,Ae hA,hB,Ax]
 have h1:s=s % 4294967296+4294967296*(s/4294967296):=by omega
 generalize s % 4294967296=p at h1;generalize s/4294967296=q at h1;subst hs;grind
theorem E9 {os A B:List Int} {c x y p q:Int} (hA:A[os.length]? = some x) (hB:val (B.take (os.length+1))=val (B.take os.length)+BB os.length*y)
  (h:val os=val (A.take os.length)-val (B.take os.length)+BB os.length*c) (hs:x-c-y=p-4294967296*q) :
  val (os++[p])=val (A.take (os.length+1))-val (B.take (os.length+1))+BB (os.length+1)*q:=by
 rw[Cd,Ae hA,hB,Ax];grind
theorem times_step {ps D B:List Int} {i k:Nat} {c x y w s:Int} (hn:ps.length=i+k) (hD:D[ps.length]? = some w) (hB:B[k]? = some y)
  (h:val ps+BB ps.length*c=val (D.take ps.length)+BB i*(x*val (B.take k))) (hs:s=c+(x*y+w)) :
  val (ps++[s % 4294967296])+BB (ps.length+1)*(s/4294967296)=val (D.take (ps.length+1))+BB i*(x*val (B.take (k+1))):=by
 rw[Cd,Ae hD,Ae hB,Ax]
 have h1:s=s % 4294967296+4294967296*(s/4294967296):=by omega
 have h2:BB ps.length=BB i*BB k:=by rw[hn,BB_add]
 generalize s % 4294967296=p at h1;generalize s/4294967296=q at h1
 generalize val (D.take ps.length)=d at *
 generalize val (B.take k)=b at *
 generalize BB ps.length=e at *
 subst hs h2;grind
end Go.AL
namespace Go.Proofs.YtmmfloplhopioaaGreat
open Go.AL
theorem compare_ok (x y:Int) (hx:0≤x) (hy:0≤y) (hxl:(toW x).length≤100000) (hyl:(toW y).length≤100000):PureFn Tryz.prog 223 [aW (toW x),aW (toW y)] (aN (cmpI x y)):=by
 refine AC Tryz.func223 rfl Tryz.ntmps223 rfl rfl ?_;have wx:=Ag x;have wy:=Ag y;(repeat' first|refine qv ?_|apply qn|apply qs|apply qr|refine qw ?_|(refine AD rfl ?_ ?_<;>intro _<;>try(exfalso; omega))|(refine AQ rfl ?_ ?_<;>intro _<;>try(exfalso; omega))|apply qb|apply qk|apply qt)
 ·refine RetOk.of rfl (AP ?_);rw[EN (C7 hx hy (by omega))]
 ·refine RetOk.of rfl (AP ?_);rw[EO (C7 hy hx (by omega))]
 ·rename_i hl;refine AWP.loop (G:=Int) (fun i => -1≤i∧i<(toW x).length∧(toW x).drop (i+1).toNat=(toW y).drop (i+1).toNat) (fun i=>AO [] [(0,aW (toW x)),(1,aW (toW y)),(5,aN i)] []) (fun i=>(i+1).toNat) ((toW x).length-1:Int) ⟨by omega,by omega,by rw[List.drop_of_length_le (by omega),List.drop_of_length_le (by omega)]⟩ ?_ ?_
  ·refine Ent.of [] ?_ ?_ rfl rfl;(repeat' first|exact True.intro|refine⟨⟨AA _,rfl⟩,?_⟩|fail)
  ·intro i ⟨h0,h1,h2⟩;have hsx:=Ad hx;have hsy:=Ad hy;(repeat' first|refine qv ?_|apply qn|refine Fl.nil (fun _=>by kernel_rfl) ?_|apply qs|apply qr|refine qw ?_|(refine AD rfl ?_ ?_<;>intro _<;>try(exfalso; omega))|apply qb|apply qk|apply qx|apply qt|refine qK ?_|(refine CJ rfl rfl rfl rfl rfl rfl rfl rfl (by omega) (by omega) (by assumption) ?_; intro _ _ _ _)|fail)
   ·rename_i hi u hu _ _ v hv _ _ huv;refine RetOk.of rfl (AP ?_);have:=val_lt_at wx wy hu hv (by rw[show i.toNat+1=(i+1).toNat by omega]; exact h2) huv;rw[EN (by omega)]
   ·rename_i hi u hu _ _ v hv _ _ _ huv;refine RetOk.of rfl (AP ?_);have:=val_lt_at wy wx hv hu (by rw[show i.toNat+1=(i+1).toNat by omega]; exact h2.symm) huv;rw[EO (by omega)]
   ·rename_i hi u hu _ _ v hv _ _ huv hvu;refine LoopEnd.of (i-1) ⟨by omega,by omega,?_⟩ (by omega) ?_
    ·have:=drop_eq_of hu hv (by rw[show i.toNat+1=(i+1).toNat by omega]; exact h2) (by omega);rwa [show(i-1+1).toNat=i.toNat by omega]
    ·refine Ent.of [] ?_ ?_ rfl rfl;(repeat' first|exact True.intro|refine⟨⟨AA _,rfl⟩,?_⟩|fail)
   ·refine RetOk.of rfl (AP ?_)
    have:i = -1:=by omega
    subst this;rw[show((-1:Int)+1).toNat=0 from rfl,List.drop_zero,List.drop_zero]at h2;rw[cmpI_eq (by rw[←hsx,←hsy,h2])]
end Go.Proofs.YtmmfloplhopioaaGreat
namespace Go.Proofs.YtmmfloplhopioaaGreat
open Go.AL
theorem plus_ok (x y:Int) (hx:0≤x) (hy:0≤y) (hxl:(toW x).length≤50000) (hyl:(toW y).length≤50000):PureFn Tryz.prog 150 [aW (toW x),aW (toW y)] (aW (toW (x+y))):=by
 refine AC Tryz.func150 rfl Tryz.ntmps150 rfl rfl ?_;refine AE ?_;(repeat' first|refine qv ?_|apply qn|apply qr);refine⟨?_⟩;refine Cj (G:=List Int×List Int) (fun(A,B)=>WOk A∧WOk B∧B.length≤A.length∧A.length≤50000∧val A+val B=x+y) (fun(A,B)=>AO [] [(0,aW A),(1,aW B)] []) ?_ ?_
 ·have wx:=Ag x;have wy:=Ag y;have hsx:=Ad hx;have hsy:=Ad hy;(repeat' first|refine qv ?_|apply qn|apply qs|apply qr|(refine AD rfl ?_ ?_<;>intro _<;>try(exfalso; omega))|apply qk)
  ·refine JoinOk.of (toW y,toW x) ⟨wy,wx,by omega,by omega,by omega⟩ ?_;refine Ent.of [] ?_ ?_ rfl rfl;(repeat' first|exact True.intro|refine⟨⟨AA _,rfl⟩,?_⟩|fail)
  ·refine JoinOk.of (toW x,toW y) ⟨wx,wy,by omega,by omega,by omega⟩ ?_;refine Ent.of [] ?_ ?_ rfl rfl;(repeat' first|exact True.intro|refine⟨⟨AA _,rfl⟩,?_⟩|fail)
 ·intro⟨A,B⟩ ⟨wA,wB,hl,hA,hs⟩;refine AE ?_;(repeat' first|refine qv ?_|apply qn|apply qr|refine qw ?_|refine CH rfl rfl rfl rfl rfl rfl rfl rfl rfl rfl eW 0 (by exact AB _) (by rfl) (by first|omega|(dsimp only; omega)) (by first|omega|(dsimp only; omega)) (by first|omega|(dsimp only; omega)) ?_|fail);refine⟨?_⟩;refine AE ?_;(repeat' first|refine qv ?_|apply qn|apply qr);refine⟨?_⟩;refine Cj (G:=List Int×Int) (fun(os,c)=>os.length=A.length∧WOk os∧0≤c∧c≤1∧val os+BB os.length*c=x+y) (fun(os,c)=>AO [] [(0,aW A),(5,.row 19),(6,aU c)] [(19,.row 1 eW (os++List.replicate 1 0) 94)]) ?_ ?_
  ·(repeat'(first|refine qv ?_|apply qn|apply qs|apply qr|apply qb));refine AWP.loop (G:=List Int×Int) (fun(os,c)=>os.length≤A.length∧WOk os∧0≤c∧c≤1∧val os+BB os.length*c=val (A.take os.length)+val (B.take os.length))
    (fun(os,c)=>AO [] [(0,aW A),(1,aW B),(5,.row 19),(6,aU c),(20,aW A),(21,aN A.length),(22,aN os.length)] [(19,.row 1 eW (os++List.replicate (A.length+1-os.length) 0) 94)])
    (fun(os,c)=>A.length-os.length) ([],0) ⟨by simp,WOk.nil,by omega,by omega,by simp[val,BB]⟩ ?_ ?_
   ·refine Ent.of [] ?_ ?_ rfl rfl;(repeat' first|exact True.intro|refine⟨⟨AA _,rfl⟩,?_⟩|refine⟨⟨⟨_,rfl,BLe.row rfl⟩,rfl⟩,?_⟩|fail)
   ·intro⟨os,c⟩ ⟨h0,h1,h2,h3,h4⟩;(repeat' first|refine qv ?_|apply qn|apply qs|apply qr|refine qw ?_|(refine AD rfl ?_ ?_<;>intro _<;>try(exfalso; omega))|apply qb|apply qk|apply qx|(refine CJ rfl rfl rfl rfl rfl rfl rfl rfl (by omega) (by omega) (by assumption) ?_; intro _ _ _ _)|refine A8 rfl rfl rfl rfl rfl rfl rfl rfl (by omega) (by first|omega|(simp; omega)) ?_|refine Bb rfl rfl rfl rfl rfl rfl rfl rfl rfl rfl rfl (AB _) rfl (by first|omega|(simp; omega)) ?_|fail)
    ·rename_i hi u hu hu0 hu1 hj v hv hv0 hv1;rw[Int.toNat_natCast]at hu hv;have hstep:=plus_step hu (Ae hv) h4 rfl;refine LoopEnd.of (os++[(c+u+v) % 4294967296],(c+u+v)/4294967296) ⟨by simp; omega,h1.append (WOk.cons (by omega) (by omega) WOk.nil),by omega,by omega,by rw[List.length_append]; exact hstep⟩ (by simp only[List.length_append,List.length_cons,List.length_nil]; omega) ?_;refine Ent.of [] ?_ ?_ rfl rfl;(repeat' first|exact True.intro|refine⟨⟨AA _,rfl⟩,?_⟩|refine⟨⟨⟨_,rfl,BLe.row ?_⟩,rfl⟩,?_⟩|refine⟨⟨AV.Le.int ?_,rfl⟩,?_⟩|fail)
     ·simp
     ·exact CP (by simp) (by simp; omega) (by omega)
    ·rename_i hi u hu hu0 hu1 hj;rw[Int.toNat_natCast]at hu;have hstep:=plus_step hu (CC (by omega)) h4 rfl;refine LoopEnd.of (os++[(c+u+0) % 4294967296],(c+u+0)/4294967296) ⟨by simp; omega,h1.append (WOk.cons (by omega) (by omega) WOk.nil),by omega,by omega,by rw[List.length_append]; exact hstep⟩ (by simp only[List.length_append,List.length_cons,List.length_nil]; omega) ?_;refine Ent.of [] ?_ ?_ rfl rfl;(repeat' first|exact True.intro|refine⟨⟨AA _,rfl⟩,?_⟩|refine⟨⟨⟨_,rfl,BLe.row ?_⟩,rfl⟩,?_⟩|refine⟨⟨AV.Le.int ?_,rfl⟩,?_⟩|fail)
     ·rw[p32]; omega
     ·simp
     ·exact CP (by simp) (by simp; omega) (by omega)
    ·rename_i hi
     have hlen:os.length=A.length:=by omega
     refine JoinOk.of (os,c) ⟨hlen,h1,h2,h3,?_⟩ ?_
     ·rw[h4,List.take_of_length_le (by omega),List.take_of_length_le (by omega),hs]
     ·refine Ent.of [] ?_ ?_ rfl rfl;(repeat' first|exact True.intro|refine⟨⟨AA _,rfl⟩,?_⟩|refine⟨⟨⟨_,rfl,BLe.row ?_⟩,rfl⟩,?_⟩|fail);rw[hlen,show A.length+1-A.length=1 by omega]
  ·intro⟨os,c⟩ ⟨h0,h1,h2,h3,h4⟩;(repeat' first|refine qv ?_|apply qn|apply qs|apply qr|refine A8 rfl rfl rfl rfl rfl rfl rfl rfl (by omega) (by first|omega|(simp; omega)) ?_|refine Bb rfl rfl rfl rfl rfl rfl rfl rfl rfl rfl rfl (AB _) rfl (by first|omega|(simp; omega)) ?_|fail);refine Eo rfl 19 rfl (trim_ok (os++[c]) (h1.append (WOk.cons h2 (by omega) WOk.nil)) (by simp; omega)) rfl rfl rfl (LeL.cons (AV.Le.sl ?_) LeL.nil) ?_
   ·exact(CP (m:=0) (by simp; omega) rfl (by omega)).trans (List.append_nil _)
   (repeat' first|refine qv ?_|apply qn|apply qt);refine RetOk.of rfl (AP ?_);rw[Cd,h4]
end Go.Proofs.YtmmfloplhopioaaGreat
namespace Go.Proofs.YtmmfloplhopioaaGreat
open Go.AL
theorem clone_ok (l:List Int) (hl:l.length≤100000):PureFn Tryz.prog 186 [aW l] (aW l):=by
 refine AC Tryz.func186 rfl Tryz.ntmps186 rfl rfl ?_;refine AE ?_;(repeat' first|refine qv ?_|apply qn|apply qr);refine⟨AWP.seq (AWP.seq (AWP.nilTest rfl rfl rfl rfl rfl rfl rfl rfl rfl rfl ?_))⟩;intro b hb
 cases b with
 | true=>
  (repeat' first|refine qv ?_|apply qn|apply qs|apply qr|refine AJ rfl ?_|apply qt);rw[hb rfl];exact RetOk.of rfl (AV.Le.nil 1 eW)
 | false=>
  (repeat' first|apply qs|apply qr|refine AF rfl ?_|apply qk);refine Du rfl rfl rfl rfl rfl rfl rfl eW [] rfl rfl rfl rfl (by simp) (AB _) ?_;(repeat' first|refine qv ?_|fail);refine qa (hby:=(by dsimp only[List.length_nil]; omega)) (hm:=(by simp; omega)) (r:=?_);(repeat' first|refine qv ?_|apply qn|apply qt);refine Ao (Ent.freeze 7 rfl) ?_;exact RetOk.of rfl (AA _)
theorem minus_ok (x y:Int) (hy:0≤y) (hyx:y≤x) (hxl:(toW x).length≤50000):PureFn Tryz.prog 240 [aW (toW x),aW (toW y)] (aW (toW (x-y))):=by
  refine AC Tryz.func240 rfl Tryz.ntmps240 rfl rfl ?_;have wx:=Ag x;have wy:=Ag y;have hsx:=Ad (show 0≤x by omega);have hsy:=Ad hy
  have hl : (toW y).length ≤ (toW x).length := by rcases Nat.lt_or_ge (toW x).length (toW y).length with h|h; · have:=C7 (by omega) hy h; omega
                                                  · exact h
  generalize toW x=A at *
  generalize toW y=B at *
  refine AE ?_;(repeat' first|refine qv ?_|apply qn|apply qr);refine⟨AE ?_⟩;(repeat' first|refine qv ?_|apply qn|apply qr|refine CH rfl rfl rfl rfl rfl rfl rfl rfl rfl rfl eW 0 (by exact AB _) (by rfl) (by first|omega|(dsimp only; omega)) (by first|omega|(dsimp only; omega)) (by first|omega|(dsimp only; omega)) ?_|fail);refine⟨AE ?_⟩;(repeat' first|refine qv ?_|apply qr);refine Fl.copy rfl rfl rfl rfl rfl rfl rfl rfl rfl rfl (fun _=>rfl) (fun _=>rfl) (AA _) ?_;(repeat' first|apply qn);refine⟨AE ?_⟩;(repeat' first|refine qv ?_|apply qn|apply qr);refine⟨?_⟩;refine Cj (G:=List Int) (fun os=>os.length=A.length∧WOk os∧val os=x-y) (fun os=>AO [] [(5,.row 11)] [(11,.row 1 eW os 94)]) ?_ ?_
  · (repeat' first|refine qv ?_|apply qn|apply qs|apply qr|apply qb);refine AWP.loop (G:=List Int×Int) (fun(os,c)=>os.length≤A.length∧WOk os∧0≤c∧c≤1∧val os=val (A.take os.length)-val (B.take os.length)+BB os.length*c)
      (fun(os,c)=>AO [] [(1,aW B),(5,.row 11),(6,aU c),(16,aN A.length),(17,aN os.length)] [(11,.row 1 eW (os++A.drop os.length) 94)])
      (fun(os,c)=>A.length-os.length) ([],0) ⟨by simp,WOk.nil,by omega,by omega,by simp[val,BB]⟩ ?_ ?_
    · refine Ent.of [] ?_ ?_ rfl rfl;(repeat' first|exact True.intro|refine⟨⟨AA _,rfl⟩,?_⟩|refine⟨⟨⟨_,rfl,BLe.row ?_⟩,rfl⟩,?_⟩|refine⟨⟨AV.Le.int ?_,rfl⟩,?_⟩|fail)
      · simp
      · simp
    · intro⟨os,c⟩ ⟨h0,h1,h2,h3,h4⟩;(repeat' first|refine qv ?_|apply qn|apply qs|apply qr|refine qw ?_|(refine AD rfl ?_ ?_<;>intro _<;>try(exfalso; omega))|apply qb|apply qk|apply qx|(refine CJ rfl rfl rfl rfl rfl rfl rfl rfl (by omega) (by omega) (by assumption) ?_; intro _ _ _ _)|refine A8 rfl rfl rfl rfl rfl rfl rfl rfl (by omega) (by first|omega|(simp; omega)) ?_|(refine Fl.rld rfl rfl rfl rfl rfl rfl rfl (fun _=>rfl) (fun _=>rfl) (by first|omega|(simp; omega)) ?_; intro _ _)|refine Bb rfl rfl rfl rfl rfl rfl rfl rfl rfl rfl rfl (AB _) rfl (by first|omega|(simp; omega)) ?_|refine Fl.sumM rfl rfl rfl rfl rfl rfl ?_|refine Fl.cvU rfl rfl rfl rfl rfl rfl ?_)
      · rename_i hi u hu hj v hv hv0 hv1;rw[Int.toNat_natCast]at hu hv;rw[get_drop rfl]at hu;have hub:=wx.get hu;have hstep:=E9 (p:=(u-c-v) % 4294967296) (q := -((u-c-v)/4294967296)) hu (Ae hv) h4 (by omega);refine LoopEnd.of (os++[(u-c-v) % 4294967296],-((u-c-v)/4294967296)) ⟨by simp; omega,h1.append (WOk.cons (by omega) (by omega) WOk.nil),by omega,by omega,by rw[List.length_append]; exact hstep⟩ (by simp only[List.length_append,List.length_cons,List.length_nil]; omega) ?_;refine Ent.of [] ?_ ?_ rfl rfl;(repeat' first|exact True.intro|refine⟨⟨AA _,rfl⟩,?_⟩|refine⟨⟨⟨_,rfl,BLe.row ?_⟩,rfl⟩,?_⟩|refine⟨⟨AV.Le.int ?_,rfl⟩,?_⟩|fail)
        · rw[p63]; omega
        · simp
        · rw[List.length_append]; exact set_drop (by simp) (by omega) (by omega)
      · rename_i hi u hu hj;rw[Int.toNat_natCast]at hu;rw[get_drop rfl]at hu;have hub:=wx.get hu;have hstep:=E9 (p:=(u-c-0) % 4294967296) (q := -((u-c-0)/4294967296)) hu (CC (by omega)) h4 (by omega);refine LoopEnd.of (os++[(u-c-0) % 4294967296],-((u-c-0)/4294967296)) ⟨by simp; omega,h1.append (WOk.cons (by omega) (by omega) WOk.nil),by omega,by omega,by rw[List.length_append]; exact hstep⟩ (by simp only[List.length_append,List.length_cons,List.length_nil]; omega) ?_;refine Ent.of [] ?_ ?_ rfl rfl;(repeat' first|exact True.intro|refine⟨⟨AA _,rfl⟩,?_⟩|refine⟨⟨⟨_,rfl,BLe.row ?_⟩,rfl⟩,?_⟩|refine⟨⟨AV.Le.int ?_,rfl⟩,?_⟩|fail)
        · rw[p63]; omega
        · simp
        · rw[List.length_append]; exact set_drop (by simp) (by omega) (by omega)
      · rename_i hi
        have hlen:os.length=A.length:=by omega
        have hv:val os=x-y+BB A.length*c:=by rw[h4,List.take_of_length_le (by omega),List.take_of_length_le (by omega),hlen,hsx,hsy]
        have hc:c=0:=by
          have h5:=DU h1;rw[hlen]at h5
          have:c=0∨c=1:=by omega
          rcases this with h|h
          · exact h
          · subst h; omega
        refine JoinOk.of os ⟨hlen,h1,by rw[hv,hc]; omega⟩ ?_;refine Ent.of [] ?_ ?_ rfl rfl;(repeat' first|exact True.intro|refine⟨⟨AA _,rfl⟩,?_⟩|refine⟨⟨⟨_,rfl,BLe.row ?_⟩,rfl⟩,?_⟩|fail);rw[List.drop_of_length_le (by omega),List.append_nil]
  · intro os ⟨h0,h1,h2⟩;(repeat' first|refine qv ?_|apply qs|apply qr);refine Eo rfl 11 rfl (trim_ok os h1 (by omega)) rfl rfl rfl (AB _) ?_;(repeat' first|refine qv ?_|apply qn|apply qt);refine RetOk.of rfl (AP ?_);rw[h2]
end Go.Proofs.YtmmfloplhopioaaGreat
namespace Go.Proofs.YtmmfloplhopioaaGreat
open Go.AL
theorem times_ok (x y:Int) (hx:0≤x) (hy:0≤y) (hxl:(toW x).length≤50000) (hyl:(toW y).length≤50000):PureFn Tryz.prog 151 [aW (toW x),aW (toW y)] (aW (toW (x*y))):=by
 refine AC Tryz.func151 rfl Tryz.ntmps151 rfl rfl ?_;have wx:=Ag x;have wy:=Ag y;have hsx:=Ad hx;have hsy:=Ad hy;have hnil:∀z:Int,0≤z→(toW z).length=0→z=0:=fun z hz h=>(BO hz).1 (List.eq_nil_of_length_eq_zero h);refine AE ?_;(repeat' first|refine qv ?_|apply qn|apply qr);refine⟨AE ?_⟩;(repeat' first|refine qv ?_|apply qn|apply qs|apply qr|refine Fl.skip rfl rfl ?_|refine AJ rfl ?_|(refine AD rfl ?_ ?_<;>intro _<;>try(exfalso; omega))|apply qk|apply qt|(refine AG rfl rfl ?_ ?_<;>intro _<;>try(exfalso; omega)))
 ·refine RetOk.of rfl ?_;rw[hnil x hx (by omega),Int.zero_mul,toW_zero];exact AV.Le.nil 1 eW
 ·rename_i h1 h2;refine RetOk.of rfl ?_;rw[hnil y hy (by omega),Int.mul_zero,toW_zero];exact AV.Le.nil 1 eW
 rename_i hx0 hy0
 generalize toW x=A at *
 generalize toW y=B at *
 refine⟨AE ?_⟩;(repeat' first|refine qv ?_|apply qn|apply qr|refine qw ?_|refine CH rfl rfl rfl rfl rfl rfl rfl rfl rfl rfl eW 0 (by exact AB _) (by rfl) (by first|omega|(dsimp only; omega)) (by first|omega|(dsimp only; omega)) (by first|omega|(dsimp only; omega)) ?_|fail);refine⟨?_⟩;refine Cj (G:=List Int) (fun os=>os.length=A.length+B.length∧WOk os∧val os=x*y) (fun os=>AO [] [(5,.row 24)] [(24,.row 1 eW os 94)]) ?_ ?_
 ·(repeat'(first|refine qv ?_|apply qn|apply qs|apply qr|apply qb));refine AWP.loop (G:=Nat×List Int) (fun(i,os)=>i≤A.length∧os.length=i+B.length∧WOk os∧val os=val (A.take i)*val B)
   (fun(i,os)=>AO [] [(1,aW B),(5,.row 24),(25,aW A),(26,aN A.length),(27,aN i)] [(24,.row 1 eW (os++List.replicate (A.length-i) 0) 94)])
   (fun(i,os)=>A.length-i) (0,List.replicate B.length 0) ⟨by omega,by simp,WOk.zeros _,by simp[val,val_zeros]⟩ ?_ ?_
  ·refine Ent.of [] ?_ ?_ rfl rfl;(repeat' first|exact True.intro|refine⟨⟨AA _,rfl⟩,?_⟩|refine⟨⟨⟨_,rfl,BLe.row ?_⟩,rfl⟩,?_⟩|fail);rw[List.replicate_append_replicate]; congr 1; omega
  ·intro⟨i,os⟩ ⟨h0,h1,h2,h3⟩;(repeat' first|refine qv ?_|apply qn|apply qs|apply qr|(refine AD rfl ?_ ?_<;>intro _<;>try(exfalso; omega))|apply qb|apply qk|apply qx|(refine CJ rfl rfl rfl rfl rfl rfl rfl rfl (by omega) (by omega) (by assumption) ?_; intro _ _ _ _)|fail)
   ·rename_i hi u hu hu0 hu1;rw[Int.toNat_natCast]at hu;have hA:A.length≤50000:=hxl;have hB:B.length≤50000:=hyl;obtain⟨D,hD⟩:∃D,D=os++List.replicate (A.length-i) 0:=⟨_,rfl⟩
    have hDl:D.length=A.length+B.length:=by rw[hD,List.length_append,List.length_replicate]; omega
    have hDw:WOk D:=by rw[hD]; exact h2.append (WOk.zeros _)
    refine AWP.loop (G:=Nat×List Int×Int) (fun(k,ps,c)=>k≤B.length∧ps.length=i+k∧WOk ps∧WOk (ps++D.drop ps.length)∧0≤c∧c<4294967296∧val ps+BB ps.length*c=val (D.take ps.length)+BB i*(u*val (B.take k)))
     (fun(k,ps,c)=>AO [] [(1,aW B),(5,.row 24),(6,aN i),(7,.v (.int .u32 u)),(8,aU c),(25,aW A),(26,aN A.length),(27,aN i),(32,aW B),(33,aN B.length),(34,aN k)] [(24,.row 1 eW (ps++D.drop ps.length) 94)])
     (fun(k,ps,c)=>B.length-k) (0,D.take i,0) ⟨by omega,by rw[List.length_take]; omega,hDw.take i,by rw[List.length_take,Nat.min_eq_left (by omega),List.take_append_drop]; exact hDw,by omega,by omega,by rw[List.length_take,Nat.min_eq_left (by omega)]; simp[val]⟩ ?_ ?_
    ·refine Ent.of [] ?_ ?_ rfl rfl;(repeat' first|exact True.intro|refine⟨⟨AA _,rfl⟩,?_⟩|refine⟨⟨⟨_,rfl,BLe.row ?_⟩,rfl⟩,?_⟩|fail);rw[List.length_take,Nat.min_eq_left (by omega),List.take_append_drop,hD]
    ·intro⟨k,ps,c⟩ ⟨k0,k1,k2,k3,k4,k5,k6⟩
     have hkl:(ps++D.drop ps.length).length=A.length+B.length:=by rw[List.length_append,List.length_drop]; omega
     (repeat' first|refine qv ?_|apply qn|apply qs|apply qr|refine qw ?_|(refine Fl.mulW rfl rfl rfl rfl rfl (by omega) (by omega) (by omega) (by omega) ?_; intro _ _)|(refine AD rfl ?_ ?_<;>intro _<;>try(exfalso; omega))|apply qb|apply qk|apply qx|(refine CJ rfl rfl rfl rfl rfl rfl rfl rfl (by omega) (by omega) (by assumption) ?_; intro _ _ _ _)|refine A8 rfl rfl rfl rfl rfl rfl rfl rfl (by omega) (by first|omega|(simp; omega)) ?_|(refine Fl.rldW rfl rfl rfl rfl rfl rfl rfl (fun _=>rfl) (fun _=>rfl) (by first|omega|(simp; omega)) (by assumption) ?_; intro _ _ _ _)|refine Bb rfl rfl rfl rfl rfl rfl rfl rfl rfl rfl rfl (AB _) rfl (by first|omega|(simp; omega)) ?_|fail)
     ·rename_i hk v hv hv0 hv1 hp0 hp1 w hw hw0 hw1;rw[Int.toNat_natCast]at hv
      have hw2:D[ps.length]? = some w:=by rw[←get_drop (os:=ps) (k:=(↑i + ↑k:Int).toNat) (by omega)]; exact hw
      have hstep:=times_step k1 hw2 hv k6 rfl;refine LoopEnd.of (k+1,ps++[(c+(u*v+w)) % 4294967296],(c+(u*v+w))/4294967296) ⟨by omega,by rw[List.length_append,k1]; rfl,k2.append (WOk.cons (by omega) (by omega) WOk.nil),?_,by omega,by omega,by rw[List.length_append]; exact hstep⟩ (by simp only; omega) ?_
      ·rw[List.length_append];exact(k2.append (WOk.cons (by omega) (by omega) WOk.nil)).append (hDw.drop _)
      ·refine Ent.of [] ?_ ?_ rfl rfl;(repeat' first|exact True.intro|refine⟨⟨AA _,rfl⟩,?_⟩|refine⟨⟨⟨_,rfl,BLe.row ?_⟩,rfl⟩,?_⟩|fail);rw[List.length_append];exact set_drop (by omega) (by omega) rfl
     ·rename_i hk
      have hkk:k=B.length:=by omega
      refine LoopEnd.of (i+1,ps++[c]) ⟨by omega,by simp; omega,k2.append (WOk.cons k4 k5 WOk.nil),?_⟩ (by simp only; omega) ?_
      ·rw[Cd,k6,Ae hu,show ps.length=os.length by omega,hD,List.take_left,h3,hkk,List.take_length];grind
      ·refine Ent.of [] ?_ ?_ rfl rfl;(repeat' first|exact True.intro|refine⟨⟨AA _,rfl⟩,?_⟩|refine⟨⟨⟨_,rfl,BLe.row ?_⟩,rfl⟩,?_⟩|fail);rw[show D.drop ps.length=List.replicate (A.length-i) 0 by rw[hD,show ps.length=os.length by omega,List.drop_left]];exact CP (by omega) (by omega) (by omega)
   ·rename_i hi
    have hii:i=A.length:=by omega
    refine JoinOk.of os ⟨by omega,h2,?_⟩ ?_
    ·rw[h3,hii,List.take_length,hsx,hsy]
    ·refine Ent.of [] ?_ ?_ rfl rfl;(repeat' first|exact True.intro|refine⟨⟨AA _,rfl⟩,?_⟩|refine⟨⟨⟨_,rfl,BLe.row ?_⟩,rfl⟩,?_⟩|fail);rw[hii,Nat.sub_self]; simp
 ·intro os ⟨h0,h1,h2⟩;(repeat' first|refine qv ?_|apply qs|apply qr);refine Eo rfl 24 rfl (trim_ok os h1 (by omega)) rfl rfl rfl (AB _) ?_;(repeat' first|refine qv ?_|apply qn|apply qt);refine RetOk.of rfl (AP ?_);rw[h2]
end Go.Proofs.YtmmfloplhopioaaGreat
/- Numbers of the program: their signs, their sizes. -/
namespace Go.AL
def clip (x:Int):Int:=if Fit x then x else 0
def szErr (x:Int):Int:=if Fit x then 0 else 4
theorem Ci {x:Int} (h:Fit x):clip x=x:=if_pos h
theorem clip_not {x:Int} (h:¬Fit x):clip x=0:=if_neg h
theorem szErr_fit {x:Int} (h:Fit x):szErr x=0:=if_pos h
theorem Dp {x:Int} (h:¬Fit x):szErr x=4:=if_neg h
theorem BB_4096_pos:0<BB 4096:=A6 _
theorem Fit.zero:Fit 0:=by unfold Fit; exact BB_4096_pos
theorem Fit.clip (x:Int):Fit (clip x):=by
 unfold AL.clip;split
 ·assumption
 ·exact Fit.zero
theorem Fit.len {x:Int} (h:Fit x):(toW x.natAbs).length≤4096:=(BS (by omega) _).2 h.lt
theorem Fit.of_len {x:Int} (h:(toW x.natAbs).length≤4096):Fit x := .mk ((BS (by omega) _).1 h)
theorem Fit.iff {x:Int}:Fit x↔(toW x.natAbs).length≤4096:=⟨Fit.len,Fit.of_len⟩
abbrev aR (x:Int):AV := .tup [aX (clip x),aN (szErr x)]
theorem FR {x:Int} (h:Fit x):aR x = .tup [aX x,aN 0]:=by show AV.tup [aX (clip x),aN (szErr x)]=_; rw[Ci h,szErr_fit h]
theorem EV {x:Int} (h:¬Fit x):aR x = .tup [aX 0,aN 4]:=by show AV.tup [aX (clip x),aN (szErr x)]=_; rw[clip_not h,Dp h]
theorem aX_of {n:Bool} {w:List Int} {x:Int} (h1:n=decide (x<0)) (h2:w=toW x.natAbs):AV.agg [aB n,aW w]=aX x:=by subst h1 h2; rfl
def sg (neg:Bool) (v:Int):Int:=if neg then -v else v
theorem sg_abs (neg:Bool) {v:Int} (h:0≤v):((sg neg v).natAbs:Int)=v:=by unfold sg; split<;>omega
def OkZ (z:Z):Prop:=z.w.length≤4096∧BA z.w=z.w∧(z.w=[]→z.neg=false)
instance decOkZ (z:Z):Decidable (OkZ z):=inferInstanceAs (Decidable (_∧_∧_))
attribute [irreducible] decOkZ
theorem Di {x:Int} (h:Fit x):OkZ (zOf x):=by
 refine⟨h.len,trim_toW _,fun he=>?_⟩;have:=(BO (show(0:Int)≤x.natAbs by omega)).1 he;simp only[zOf,decide_eq_false_iff_not]; omega
theorem okZ_last {z:Z} {e:Int} {k:Nat} (hk:k+1=z.w.length) (he:z.w[k]? = some e) (h1:z.w.length≤4096):OkZ z↔e≠0:=by
 have hw:z.w=z.w.take k++[e]:=by
  have:=Ab he;rwa [hk,List.take_length]at this
 constructor
 ·intro⟨_,h,_⟩ h0;subst h0;rw[hw,EE]at h;have h2:=Dh (z.w.take k);rw[h]at h2;simp at h2;omega
 ·intro h0;refine⟨h1,by rw[hw,trimL_snoc h0],fun hn=>?_⟩;rw[hn]at hk; simp at hk
theorem okZ_none {z:Z} (h:z.w.length=0):OkZ z↔z.neg=false:=by
 have hn:z.w=[]:=List.eq_nil_of_length_eq_zero h;simp[OkZ,hn,BA]
def zval (z:Z):Int:=sg z.neg (val z.w)
theorem D3 {z:Z} (hw:WOk z.w) (h:OkZ z):z=zOf (zval z)∧Fit (zval z):=by
 obtain⟨h1,h2,h3⟩:=h;have hv:=Al hw;have hab:((zval z).natAbs:Int)=val z.w:=sg_abs _ hv
 have hz:z.w=toW (val z.w):=by rw[←CQ hw,h2]
 constructor
 ·cases z with
  | mk neg w=>
   simp only[zOf,Z.mk.injEq];rw[hab];refine⟨?_,hz⟩;simp only at h3 hz hv
   have hne:w=[]↔val w=0:=by
    constructor
    ·rintro rfl; exact val_nil
    ·intro h0; rw[h0,toW_zero]at hz; exact hz
   simp only[zval,sg]
   cases neg with
   | true=>
    have:val w≠0:=fun h0=>by have:=h3 (hne.2 h0); cases this
    simp only[if_true];symm; simp; omega
   | false=>simp; omega
 ·refine Fit.of_len ?_;rw[hab,←hz]; exact h1
theorem Dm:(AV.agg [aB false,.v (.slice none 0 0)]).Le (aX 0):=AV.Le.agg (LeL.cons (AV.Le.bool rfl) (LeL.cons (by rw[show((Int.natAbs 0:Nat):Int)=0 from rfl,toW_zero]; exact AV.Le.nil 1 eW) LeL.nil))
theorem A3 {α:Type} {p:α→Prop} {l:List α} {i:Nat} {x:α} (hx:l[i]? = some x) (h:∀z∈l.take i,p z) (h1:p x):∀z∈l.take (i+1),p z:=by
 rw[Ab hx];intro z hz;rcases List.mem_append.1 hz with hz|hz
 ·exact h z hz
 ·rw[List.mem_singleton.1 hz]; exact h1
theorem Ep {z:Int} (h:0<z):BB ((toW z).length-1)≤z:=by
 have hne:=toW_ne_nil h;have hl:(toW z).length≠0:=fun h0=>hne (List.eq_nil_of_length_eq_zero h0);have:=(BS (show 0≤z by omega) ((toW z).length-1));rcases Int.lt_or_le z (BB ((toW z).length-1))with h1|h1
 ·have:=this.2 h1; omega
 ·exact h1
theorem mul_not_fit {x y:Int} (hx:x≠0) (hy:y≠0) (h:(toW x.natAbs).length+(toW y.natAbs).length>4097):¬Fit (x*y):=by
 unfold Fit;have h1:=Ep (show(0:Int)<x.natAbs by omega);have h2:=Ep (show(0:Int)<y.natAbs by omega)
 have hlx:(toW x.natAbs).length≠0:=fun h0=>by
  have:=(BO (show(0:Int)≤x.natAbs by omega)).1 (List.eq_nil_of_length_eq_zero h0); omega
 have hly:(toW y.natAbs).length≠0:=fun h0=>by
  have:=(BO (show(0:Int)≤y.natAbs by omega)).1 (List.eq_nil_of_length_eq_zero h0); omega
 have h3:BB 4096≤BB ((toW x.natAbs).length-1+((toW y.natAbs).length-1)):=C4 (by omega);rw[BB_add]at h3;have h4:=Int.mul_le_mul h1 h2 (Int.le_of_lt (A6 _)) (by omega);rw[Int.natAbs_mul,Int.natCast_mul];omega
theorem mul_len {x y:Int} (hx:Fit x) (hy:Fit y):(toW (x.natAbs*y.natAbs)).length≤100000:=by
 have h0:(0:Int)≤x.natAbs*y.natAbs:=Int.mul_nonneg (by omega) (by omega);rw[BS h0];have h1:(x.natAbs:Int)*y.natAbs≤BB 4096*BB 4096:=Int.mul_le_mul (Int.le_of_lt hx.lt) (Int.le_of_lt hy.lt) (by omega) (Int.le_of_lt (A6 _));rw[←BB_add]at h1
 have h2:BB (4096+4096)<BB 8193:=by
  have h3:BB 8193=4294967296*BB (4096+4096):=Ax _;have:=A6 (4096+4096);omega
 have h3:BB 8193≤BB 100000:=C4 (by omega);omega
theorem sg_mul (x y:Int):sg (!(decide (x<0) == decide (y<0))) (x.natAbs*y.natAbs)=x*y:=by
 have e1:∀z:Int,z<0→(z.natAbs:Int) = -z:=fun z h=>by omega
 have e2:∀z:Int,¬z<0→(z.natAbs:Int)=z:=fun z h=>by omega
 by_cases hx:x<0<;>by_cases hy:y<0
 ·rw[e1 x hx,e1 y hy]; simp[sg,hx,hy,Int.neg_mul_neg]
 ·rw[e1 x hx,e2 y hy]; simp[sg,hx,hy,Int.neg_mul]
 ·rw[e2 x hx,e1 y hy]; simp[sg,hx,hy,Int.mul_neg]
 ·rw[e2 x hx,e2 y hy]; simp[sg,hx,hy]
theorem B8 {x:Int} (h0 : -18446744073709551616<x) (h1:x<18446744073709551616):Fit x:=by
 have h2:=BB_2;have h3:BB 2≤BB 4096:=C4 (by omega);unfold Fit;omega
theorem AV.Le.slMap {α β:Type} {sz:Nat} {enc:β→List AV} {f:α→β} {xs:List α}:(AV.sl sz enc (xs.map f)).Le (.sl sz (fun x=>enc (f x)) xs):=fun h b u k=>by
 simp only[Rep,List.length_map]at k ⊢;obtain⟨A,c,e,h1,h2,h3⟩:=k;exact⟨A,c,e,h1,h2,fun i x hx=>h3 i (f x) (by rw[List.getElem?_map,hx]; rfl)⟩
theorem DK {α β:Type} {sz:Nat} {enc:β→List AV} {f:α→β} {xs:List α}:(AV.sl sz (fun x=>enc (f x)) xs).Le (.sl sz enc (xs.map f)):=fun h b u k=>by
 simp only[Rep,List.length_map]at k ⊢;obtain⟨A,c,e,h1,h2,h3⟩:=k;refine⟨A,c,e,h1,h2,fun i x hx=>?_⟩;rw[List.getElem?_map]at hx;obtain⟨y,hy,rfl⟩:=Option.map_eq_some_iff.1 hx;exact h3 i y hy
attribute [irreducible] clip szErr sg
end Go.AL
namespace Go.Proofs.YtmmfloplhopioaaGreat
open Go.AL
theorem made_ok (neg:Bool) (l:List Int) (hl:WOk l) (hb:l.length≤100000):PureFn Tryz.prog 153 [aB neg,aW l] (aR (sg neg (val l))):=by
 refine AC Tryz.func153 rfl Tryz.ntmps153 rfl rfl ?_;have hv:=Al hl
 have hlen:(toW (val l)).length≤100000:=by rw[←CQ hl]; exact Nat.le_trans (Dh l) hb
 have hab:((sg neg (val l)).natAbs:Int)=val l:=sg_abs _ hv;(repeat' first|refine qv ?_|apply qn|apply qs|apply qr|refine qe ?_|fail);refine qc (trim_ok l hl hb) ?_;(repeat' first|refine qv ?_|apply qn|apply qs|apply qr|refine qe ?_|refine Fl.skip rfl rfl ?_|(refine AD rfl ?_ ?_<;>intro _<;>try(exfalso; omega))|apply qk|apply qt|(refine En rfl rfl ?_ ?_<;>(fail_if_success (intro hb_; exact absurd hb_ (by decide)))<;>intro _)|fail)
 ·rename_i h
  have hf:¬Fit (sg neg (val l)):=by rw[Fit.iff,hab]; omega
  refine RetOk.of rfl ?_;rw[EV hf];exact AV.Le.tup (LeL.cons Dm (AB _))
 ·refine qc (clone_ok _ hlen) ?_;(repeat' first|refine qv ?_|apply qn|refine qe ?_|apply qt);rename_i h hn
  have hf:Fit (sg neg (val l)):=by rw[Fit.iff,hab]; omega
  refine RetOk.of rfl ?_;rw[FR hf];refine AV.Le.tup (LeL.cons (AP (aX_of ?_ ?_)) (AB _))
  ·subst hn;simp only[sg,if_true];have:=BO hv;by_cases h0:val l=0
   ·rw[h0,toW_zero]; rfl
   ·have h1:(toW (val l)).length≠0:=fun h=>h0 (this.1 (List.eq_nil_of_length_eq_zero h));simp; omega
  ·rw[hab]
 ·refine qc (clone_ok _ hlen) ?_;(repeat' first|refine qv ?_|apply qn|refine qe ?_|apply qt);rename_i h hn
  have hf:Fit (sg neg (val l)):=by rw[Fit.iff,hab]; omega
  refine RetOk.of rfl ?_;rw[FR hf];refine AV.Le.tup (LeL.cons (AP (aX_of ?_ ?_)) (AB _))
  ·subst hn;simp[sg]; omega
  ·rw[hab]
theorem Valid_ok (z:Z) (hz:WOk z.w):PureFn Tryz.prog 115 [aZ z] (aB (decide (OkZ z))):=by
 refine AC Tryz.func115 rfl Tryz.ntmps115 rfl rfl ?_;(repeat' first|refine qv ?_|apply qn|apply qs|apply qr|refine qw ?_|refine qe ?_|refine Fl.skip rfl rfl ?_|apply qt|(refine CJ rfl rfl rfl rfl rfl rfl rfl rfl (by omega) (by omega) (by assumption) ?_; intro _ _ _ _)|(refine AG rfl rfl ?_ ?_<;>intro _<;>try(exfalso; omega))|(refine Ap rfl rfl ?_ ?_<;>intro _<;>try(exfalso; omega)))
 ·rename_i h1 h2 e he _ _ h0;refine RetOk.of rfl (AV.Le.bool (Eq.symm ?_));exact decide_eq_true ((okZ_last (by omega) he (by omega)).2 h0)
 ·rename_i h1 h2 e he _ _ h0 h3;refine RetOk.of rfl (AV.Le.bool (Eq.symm ?_));exact decide_eq_false fun h=>(okZ_last (by omega) he (by omega)).1 h h0
 ·rename_i h1 h2 h0;refine RetOk.of rfl (AV.Le.bool (Eq.symm ?_));have:=okZ_none (z:=z) (by omega)
  cases hn:z.neg<;>simp[this,hn]
 ·rename_i h1;refine RetOk.of rfl (AV.Le.bool (Eq.symm ?_));exact decide_eq_false fun h=>h1 (by have:=h.1; omega)
theorem valid_ok (zs:List Z) (hz:∀z∈zs,WOk z.w) (hl:zs.length≤1000000000):PureFn Tryz.prog 154 [.sl 2 eZ zs] (aB (decide (∀z∈zs,OkZ z))):=by
 refine AC Tryz.func154 rfl Tryz.ntmps154 rfl rfl ?_;(repeat' first|refine qv ?_|apply qn|apply qs|apply qr|apply qb);refine AWP.loop (G:=Nat) (fun i=>i≤zs.length∧∀z∈zs.take i,OkZ z) (fun i=>AO [] [(5,.sl 2 eZ zs),(6,aN zs.length),(7,aN i)] []) (fun i=>zs.length-i) 0 ⟨by omega,by simp⟩ ?_ ?_
 ·refine Ent.of [] ?_ ?_ rfl rfl;(repeat' first|exact True.intro|refine⟨⟨AA _,rfl⟩,?_⟩|fail)
 ·intro i ⟨h0,h1⟩;(repeat' first|refine qv ?_|apply qn|apply qs|apply qr|refine qe ?_|(refine AD rfl ?_ ?_<;>intro _<;>try(exfalso; omega))|apply qb|apply qk|apply qx|apply qt|(refine Ay rfl rfl rfl rfl rfl rfl rfl rfl (by omega) (by omega) ?_; intro _ _)|fail)
  ·rename_i hi z hzi;rw[Int.toNat_natCast]at hzi;refine qc (Valid_ok z (hz z (List.mem_of_getElem? hzi))) ?_;(repeat' first|refine qv ?_|apply qn|apply qs|apply qr|refine qw ?_|(refine AQ rfl ?_ ?_<;>intro _<;>try(exfalso; omega))|apply qk|apply qt)
   ·rename_i h2;refine RetOk.of rfl (AV.Le.bool (Eq.symm (decide_eq_false fun h=>h2 (h z (List.mem_of_getElem? hzi)))))
   ·rename_i h2;refine LoopEnd.of (i+1) ⟨by omega,A3 hzi h1 h2⟩ (by omega) ?_;refine Ent.of [] ?_ ?_ rfl rfl;(repeat' first|exact True.intro|refine⟨⟨AA _,rfl⟩,?_⟩|fail)
  ·refine RetOk.of rfl (AV.Le.bool (Eq.symm (decide_eq_true ?_)));rwa [show i=zs.length by omega,List.take_length]at h1
theorem EX (x y:Int) (hx:Fit x) (hy:Fit y):PureFn Tryz.prog 154 [.sl 2 eZ [zOf x,zOf y]] (aB true):=by
 refine(valid_ok [zOf x,zOf y] ?_ (by simp)).le (AB _) (AV.Le.bool (decide_eq_true ?_))
 ·intro z hz;simp only[List.mem_cons,List.not_mem_nil,or_false]at hz;rcases hz with rfl|rfl<;>exact Ag _
 ·intro z hz;simp only[List.mem_cons,List.not_mem_nil,or_false]at hz;rcases hz with rfl|rfl
  ·exact Di hx
  ·exact Di hy
theorem Valid_int (x:Int) (hx:Fit x):PureFn Tryz.prog 115 [aX x] (aB true):=
 (Valid_ok (zOf x) (Ag _)).le (AB _) (AV.Le.bool (decide_eq_true (Di hx)))
end Go.Proofs.YtmmfloplhopioaaGreat
namespace Go.Proofs.YtmmfloplhopioaaGreat
open Go.AL
theorem Cmp_ok (x y:Int) (hx:Fit x) (hy:Fit y):PureFn Tryz.prog 207 [aX x,aX y] (.tup [aN (cmpI x y),aN 0]):=by
 refine AC Tryz.func207 rfl Tryz.ntmps207 rfl rfl ?_;have lx:=hx.len;have ly:=hy.len;(repeat' first|refine qv ?_|apply qn|apply qs|apply qr|refine qe ?_|fail);refine ql eZ [zOf x,zOf y] ?_;refine qc (EX x y hx hy) ?_;(repeat' first|refine qv ?_|apply qn|apply qs|apply qr|refine Fl.skip rfl rfl ?_|refine AF rfl ?_|(refine AD rfl ?_ ?_<;>intro _<;>try(exfalso; omega))|(refine AQ rfl ?_ ?_<;>intro _<;>try(exfalso; omega))|apply qb|apply qk|apply qt|(refine AG rfl rfl ?_ ?_<;>intro _<;>try(exfalso; omega))|(refine Ap rfl rfl ?_ ?_<;>intro _<;>try(exfalso; omega)))
 ·refine RetOk.of rfl (AV.Le.tup (LeL.cons (AV.Le.int ?_) (AB _)));rw[EN (by omega)]
 ·refine qc (compare_ok y.natAbs x.natAbs (by omega) (by omega) (by omega) (by omega)) ?_;(repeat' first|refine qv ?_|apply qn|apply qt);refine RetOk.of rfl (AV.Le.tup (LeL.cons (AV.Le.int ?_) (AB _)));unfold cmpI
  (repeat' split)<;>first|rfl|omega
 ·refine RetOk.of rfl (AV.Le.tup (LeL.cons (AV.Le.int ?_) (AB _)));rw[EO (by omega)]
 ·refine qc (compare_ok x.natAbs y.natAbs (by omega) (by omega) (by omega) (by omega)) ?_;(repeat' first|refine qv ?_|apply qn|apply qt);refine RetOk.of rfl (AV.Le.tup (LeL.cons (AV.Le.int ?_) (AB _)));unfold cmpI
  (repeat' split)<;>first|rfl|omega
theorem sum_ok (x y:Int) (neg:Bool) (hx:Fit x) (hy:Fit y):PureFn Tryz.prog 232 [aX x,aX y,aB neg] (aR (x+sg neg y.natAbs)):=by
 refine AC Tryz.func232 rfl Tryz.ntmps232 rfl rfl ?_;have lx:=hx.len;have ly:=hy.len;have vx:=Ad (show(0:Int)≤x.natAbs by omega);have vy:=Ad (show(0:Int)≤y.natAbs by omega)
 have hle:∀z:Int,0≤z→z≤x.natAbs+y.natAbs→(toW z).length≤50000:=fun z h0 h1=>by
  rw[BS h0];have h2:=hx.lt;have h3:=hy.lt;have h4:BB 4097=4294967296*BB 4096:=Ax 4096;have h5:BB 4097≤BB 50000:=C4 (by omega);omega
 (repeat' first|refine qv ?_|apply qn|apply qs|apply qr|refine qe ?_|(refine AD rfl ?_ ?_<;>intro _<;>try(exfalso; omega))|apply qb)
 ·rename_i hs;refine qc (plus_ok x.natAbs y.natAbs (by omega) (by omega) (by omega) (by omega)) ?_;refine Fl.call rfl (made_ok neg _ (Ag _) (by have:=hle (x.natAbs+y.natAbs) (by omega) (by omega); omega)) rfl rfl rfl (AB _) ?_;(repeat' first|refine qv ?_|apply qn|refine qe ?_|apply qt);refine RetOk.of rfl (AP ?_);rw[Ad (by omega),show sg neg (x.natAbs+y.natAbs)=x+sg neg y.natAbs by simp only[sg]; cases neg<;>simp at hs ⊢ <;> omega]
 ·rename_i hs;refine qc (compare_ok x.natAbs y.natAbs (by omega) (by omega) (by omega) (by omega)) ?_;(repeat' first|refine qv ?_|apply qn|apply qs|apply qr|(refine AD rfl ?_ ?_<;>intro _<;>try(exfalso; omega))|apply qk)
  ·rename_i hc
   have hc2:(x.natAbs:Int)<y.natAbs:=by
    unfold cmpI at hc;split at hc
    ·assumption
    ·split at hc<;>omega
   refine qc (minus_ok y.natAbs x.natAbs (by omega) (by omega) (by omega)) ?_;refine Fl.call rfl (made_ok neg _ (Ag _) (by have:=hle (y.natAbs-x.natAbs) (by omega) (by omega); omega)) rfl rfl rfl (AB _) ?_;(repeat' first|refine qv ?_|apply qn|refine qe ?_|apply qt);refine RetOk.of rfl (AP ?_);rw[Ad (by omega),show sg neg (y.natAbs-x.natAbs)=x+sg neg y.natAbs by simp only[sg]; cases neg<;>simp at hs ⊢ <;> omega]
  ·rename_i hc
   have hc2:(y.natAbs:Int)≤x.natAbs:=by
    unfold cmpI at hc;split at hc
    ·omega
    ·split at hc<;>omega
   refine qc (minus_ok x.natAbs y.natAbs (by omega) (by omega) (by omega)) ?_;refine Fl.call rfl (made_ok (decide (x<0)) _ (Ag _) (by have:=hle (x.natAbs-y.natAbs) (by omega) (by omega); omega)) rfl rfl rfl (AB _) ?_;(repeat' first|refine qv ?_|refine Fl.nil (fun _=>by kernel_rfl) ?_|refine qe ?_|apply qt);refine RetOk.of rfl (AP ?_);rw[Ad (by omega),show sg (decide (x<0)) (x.natAbs-y.natAbs)=x+sg neg y.natAbs by simp only[sg]; cases neg<;>simp at hs ⊢ <;> split<;>omega]
theorem Add_ok (x y:Int) (hx:Fit x) (hy:Fit y):PureFn Tryz.prog 222 [aX x,aX y] (aR (x+y)):=by
 refine AC Tryz.func222 rfl Tryz.ntmps222 rfl rfl ?_;(repeat' first|refine qv ?_|apply qn|apply qs|apply qr|refine qe ?_|fail);refine ql eZ [zOf x,zOf y] ?_;refine qc (EX x y hx hy) ?_;(repeat' first|refine qv ?_|apply qn|apply qs|apply qr|refine AF rfl ?_|apply qk);refine qc (sum_ok x y (decide (y<0)) hx hy) ?_;(repeat' first|refine qv ?_|apply qn|refine qe ?_|apply qt);refine RetOk.of rfl (AP ?_);rw[show sg (decide (y<0)) y.natAbs=y by simp only[sg]; simp; split<;>omega]
theorem Sub_ok (x y:Int) (hx:Fit x) (hy:Fit y):PureFn Tryz.prog 241 [aX x,aX y] (aR (x-y)):=by
 refine AC Tryz.func241 rfl Tryz.ntmps241 rfl rfl ?_;(repeat' first|refine qv ?_|apply qn|apply qs|apply qr|refine qe ?_|fail);refine ql eZ [zOf x,zOf y] ?_;refine qc (EX x y hx hy) ?_;(repeat' first|refine qv ?_|apply qn|apply qs|apply qr|refine AF rfl ?_|apply qk);refine qc (sum_ok x y (!decide (y<0)) hx hy) ?_;(repeat' first|refine qv ?_|apply qn|refine qe ?_|apply qt);refine RetOk.of rfl (AP ?_);rw[show x+sg (!decide (y<0)) y.natAbs=x-y by simp only[sg]; simp; split<;>omega]
end Go.Proofs.YtmmfloplhopioaaGreat
namespace Go.AL
theorem toW_pos {x:Int} (h:0<((toW x.natAbs).length:Int)):x≠0:=by
 rintro rfl;rw[show((Int.natAbs 0:Nat):Int)=0 from rfl,toW_zero]at h;simp at h
theorem p62:∀n:Int,0≤n→n≤9223372036854775807→n/2^(63:Int).toNat=0:=fun n h0 h1=>by rw[p63]; omega
theorem half_pow (n:Int) (i:Int) (hi:0≤i):n/2^i.toNat=2*(n/2^(i+1).toNat)+(n/2^i.toNat) % 2:=by
 have h1:(i+1).toNat=i.toNat+1:=by omega
 rw[h1,Int.pow_succ,←Int.ediv_ediv_of_nonneg (by exact Int.le_of_lt (Int.pow_pos (by omega)))];omega
theorem fit_pow_le {x:Int} {j k:Nat} (h:j≤k) (hf:Fit (x^k)):Fit (x^j):=by
 unfold Fit at *
 rw[Int.natAbs_pow]at *
 rcases Nat.eq_zero_or_pos x.natAbs with h0|h0
 ·rw[h0]
  cases j with
  | zero=>rw[Nat.pow_zero]; have:=B8 (x:=1) (by omega) (by omega); unfold Fit at this; exact this
  | succ j=>rw[Nat.zero_pow (by omega)]; exact BB_4096_pos
 ·have h1:=Nat.pow_le_pow_right h0 h
  have h2:((x.natAbs^j:Nat):Int)≤((x.natAbs^k:Nat):Int):=by exact_mod_cast h1
  omega
theorem szErr_eq {x:Int}:szErr x=0↔Fit x:=by
 constructor
 ·intro h;rcases Classical.em (Fit x)with h1|h1
  ·exact h1
  ·rw[Dp h1]at h; cases h
 ·exact szErr_fit
theorem bitN_and1 {a:Int} (h:0≤a):bitN .and a 1=a % 2:=by
 show((a.toNat &&& (1:Int).toNat:Nat):Int)=a % 2;rw[show(1:Int).toNat=1 from rfl,Nat.and_one_is_mod];omega
theorem pow_dbl (x:Int) {m m':Int} (h:0≤m) (e:m'=2*m):x^m.toNat*x^m.toNat=x^m'.toNat:=by
 rw[←Int.pow_add]; congr 1; omega
theorem pow_dbl1 (x:Int) {m m':Int} (h:0≤m) (e:m'=2*m+1):x^m.toNat*x^m.toNat*x=x^m'.toNat:=by
 rw[←Int.pow_add,←Int.pow_succ]; congr 1; omega
end Go.AL
namespace Go.Proofs.YtmmfloplhopioaaGreat
open Go.AL
theorem Mul_ok (x y:Int) (hx:Fit x) (hy:Fit y):PureFn Tryz.prog 88 [aX x,aX y] (aR (x*y)):=by
 refine AC Tryz.func88 rfl Tryz.ntmps88 rfl rfl ?_;have lx:=hx.len;have ly:=hy.len;have lm:=mul_len hx hy;have h0:(0:Int)≤x.natAbs*y.natAbs:=Int.mul_nonneg (by omega) (by omega);have htimes:=times_ok x.natAbs y.natAbs (by omega) (by omega) (by omega) (by omega);have hmade:=made_ok (!(decide (x<0) == decide (y<0))) _ (Ag (x.natAbs*y.natAbs)) lm;rw[Ad h0,sg_mul]at hmade;(repeat' first|refine qv ?_|apply qn|apply qs|apply qr|refine qe ?_|fail);refine ql eZ [zOf x,zOf y] ?_;refine qc (EX x y hx hy) ?_;(repeat' first|refine qv ?_|apply qn|apply qs|apply qr|refine qw ?_|refine qe ?_|refine Fl.skip rfl rfl ?_|refine AF rfl ?_|(refine AD rfl ?_ ?_<;>intro _<;>try(exfalso; omega))|apply qk|apply qt|(refine AG rfl rfl ?_ ?_<;>intro _<;>try(exfalso; omega)))
 ·rename_i h1 h2 h3;refine RetOk.of rfl ?_;rw[EV (mul_not_fit (toW_pos h1) (toW_pos h2) (by omega))];exact AV.Le.tup (LeL.cons Dm (AB _))
 all_goals
  refine Fl.call rfl htimes rfl rfl rfl (AB _) ?_;refine Fl.call rfl hmade rfl rfl rfl (AB _) ?_;(repeat' first|refine qv ?_|refine Fl.nil (fun _=>by kernel_rfl) ?_|refine qe ?_|apply qt);exact RetOk.of rfl (AA _)
theorem Ct (n:Int) (h0 : -9223372036854775808≤n) (h1:n≤9223372036854775807):PureFn Tryz.prog 93 [aN n] (aX n):=by
 refine AC Tryz.func93 rfl Tryz.ntmps93 rfl rfl ?_;(repeat' first|refine qv ?_|apply qn|apply qs|apply qr|refine qw ?_|refine qe ?_|(refine AD rfl ?_ ?_<;>intro _<;>try(exfalso; omega))|apply qk|refine Fl.cvU rfl rfl rfl rfl rfl rfl ?_)
 all_goals
  refine ql eW [_,_] ?_;refine Fl.call rfl (made_ok (decide (n<0)) _ (WOk.cons (by omega) (by omega) (WOk.cons (by omega) (by omega) WOk.nil)) (by simp)) rfl rfl rfl (AB _) ?_;(repeat' first|refine qv ?_|apply qn|apply qs|apply qr|refine qe ?_|apply qt);refine RetOk.of rfl (AP ?_);simp only[val,p32];rw[show sg (decide (n<0)) _=n by simp only[sg]; simp; split<;>omega,Ci (B8 (by omega) (by omega))]
theorem Power_ok (x n:Int) (hx:Fit x) (h0:0≤n) (h1:n≤9223372036854775807):PureFn Tryz.prog 94 [aX x,aN n] (aR (x^n.toNat)):=by
 refine AC Tryz.func94 rfl Tryz.ntmps94 rfl rfl ?_;(repeat' first|refine qv ?_|apply qn|apply qs|apply qr|refine qe ?_|fail);refine qc (Valid_int x hx) ?_;(repeat' first|refine qv ?_|apply qn|apply qs|apply qr|refine AF rfl ?_|(refine AD rfl ?_ ?_<;>intro _<;>try(exfalso; omega))|apply qk);refine qc (Ct 1 (by omega) (by omega)) ?_;(repeat' first|refine qv ?_|apply qn|apply qs|apply qr|refine qe ?_|apply qb);refine AWP.loop (G:=Int×Int) (fun(i,o) => -1≤i∧i≤62∧o=x^(n/2^(i+1).toNat).toNat∧Fit o)
  (fun(i,o)=>AO [] [(1,aN n),(2,.ptr 2 0),(4,.ptr 4 0),(6,.ptr 6 0),(7,aN i)] [(2,.cells (eX x) 48),(4,.cells [aB false,.v (.slice none 0 0)] 48),(6,.cells (eX o) 48)])
  (fun(i,o)=>(i+1).toNat) (62,1) ⟨by omega,by omega,by rw[show((62:Int)+1)=63 from rfl,p62 n h0 h1]; exact(Int.pow_zero x).symm,B8 (by omega) (by omega)⟩ ?_ ?_
 ·refine Ent.of [] ?_ ?_ rfl rfl;(repeat' first|exact True.intro|refine⟨⟨AA _,rfl⟩,?_⟩|refine⟨⟨⟨_,rfl,BLe.cells (AB _)⟩,rfl⟩,?_⟩|fail)
 ·intro⟨i,o⟩ ⟨k0,k1,k2,k3⟩;have q0:0≤n/2^i.toNat:=Int.ediv_nonneg h0 (Int.le_of_lt (Int.pow_pos (by omega)));have q1:n/2^i.toNat≤n:=Int.ediv_le_self _ h0;(repeat' first|refine qv ?_|apply qn|apply qs|apply qr|refine qe ?_|(refine AD rfl ?_ ?_<;>intro _<;>try(exfalso; omega))|apply qb|apply qk|apply qx|apply qt)
  ·rename_i hi;have hh:=half_pow n i hi;have q2:0≤n/2^(i+1).toNat:=Int.ediv_nonneg h0 (Int.le_of_lt (Int.pow_pos (by omega)));have hb:=bitN_and1 q0;refine qc (Mul_ok o o k3 k3) ?_;(repeat' first|refine qv ?_|apply qn|apply qs|apply qr|refine qw ?_|refine qe ?_|(refine AD rfl ?_ ?_<;>intro _<;>try(exfalso; omega))|(refine AQ rfl ?_ ?_<;>intro _<;>try(exfalso; omega))|apply qk|apply qx|apply qt)
   ·rename_i he;have hf:¬Fit (o*o):=fun h=>he (szErr_eq.2 h);refine RetOk.of rfl ?_;rw[EV (x:=x^n.toNat) ?_,Dp hf]
    ·exact AV.Le.tup (LeL.cons Dm (AB _))
    ·intro h;refine hf ?_;rw[k2,pow_dbl x q2 rfl];exact fit_pow_le (by omega) h
   ·rename_i he hz;have hf:=szErr_eq.1 he;refine LoopEnd.of (i-1,clip (o*o)) ⟨by omega,by omega,?_,Fit.clip _⟩ (by simp only; omega) ?_
    ·rw[Ci hf,k2,show i-1+1=i by omega];exact pow_dbl x q2 (by omega)
    ·refine Ent.of [] ?_ ?_ rfl rfl;(repeat' first|exact True.intro|refine⟨⟨AA _,rfl⟩,?_⟩|refine⟨⟨⟨_,rfl,BLe.cells (AB _)⟩,rfl⟩,?_⟩|fail)
   ·rename_i he hz;have hf:=szErr_eq.1 he;refine qc (Mul_ok (clip (o*o)) x (Fit.clip _) hx) ?_
    have hp:o*o*x=x^(n/2^i.toNat).toNat:=by rw[k2]; exact pow_dbl1 x q2 (by omega)
    (repeat' first|refine qv ?_|apply qn|apply qs|apply qr|refine qw ?_|refine qe ?_|(refine AQ rfl ?_ ?_<;>intro _<;>try(exfalso; omega))|apply qk|apply qt)
    ·rename_i he;rw[Ci hf]at he;have hf2:¬Fit (o*o*x):=fun h=>he (szErr_eq.2 h);refine RetOk.of rfl ?_;rw[EV (x:=x^n.toNat) ?_,Ci hf,Dp hf2]
     ·exact AV.Le.tup (LeL.cons Dm (AB _))
     ·intro h;rw[hp]at hf2;exact hf2 (fit_pow_le (by omega) h)
    ·rename_i he;rw[Ci hf]at he;have hf2:=szErr_eq.1 he;refine LoopEnd.of (i-1,clip (clip (o*o)*x)) ⟨by omega,by omega,?_,Fit.clip _⟩ (by simp only; omega) ?_
     ·rw[Ci hf,Ci hf2,hp,show i-1+1=i by omega]
     ·refine Ent.of [] ?_ ?_ rfl rfl;(repeat' first|exact True.intro|refine⟨⟨AA _,rfl⟩,?_⟩|refine⟨⟨⟨_,rfl,BLe.cells (AB _)⟩,rfl⟩,?_⟩|fail)
  ·rename_i hi
   have hi1:i = -1:=by omega
   subst hi1;refine RetOk.of rfl ?_;rw[show n/2^((-1:Int)+1).toNat=n from Int.ediv_one n]at k2;rw[←k2,FR k3];exact AA _
end Go.Proofs.YtmmfloplhopioaaGreat
/- Binary digits. -/
namespace Go.AL
def undI (x y:Int):Prop:=x.toNat &&& y.toNat=x.toNat
instance decUndI (x y:Int):Decidable (undI x y):=inferInstanceAs (Decidable (_=_))
attribute [irreducible] decUndI
theorem and_split {p q r s:Nat} (hp:p<2^32) (hr:r<2^32):(p+2^32*q) &&& (r+2^32*s)=(p &&& r)+2^32*(q &&& s):=by
 have e:∀a b:Nat,a<2^32→a+2^32*b=b <<< 32 ||| a:=by
  intro a b h;rw[←Nat.shiftLeft_add_eq_or_of_lt h,Nat.shiftLeft_eq]; omega
 rw[e p q hp,e r s hr,e _ _ (Nat.and_lt_two_pow _ hr)];apply Nat.eq_of_testBit_eq;intro i;simp only[Nat.testBit_and,Nat.testBit_or,Nat.testBit_shiftLeft];by_cases hi:32≤i
 ·have h1:p.testBit i=false:=Nat.testBit_lt_two_pow (Nat.lt_of_lt_of_le hp (Nat.pow_le_pow_right (by omega) hi));have h2:r.testBit i=false:=Nat.testBit_lt_two_pow (Nat.lt_of_lt_of_le hr (Nat.pow_le_pow_right (by omega) hi));simp[hi,h1,h2]
 ·simp[hi]
theorem undI_cons {x y:Int} {a b:List Int} (hx0:0≤x) (hx1:x<4294967296) (hy0:0≤y) (hy1:y<4294967296) (ha:0≤val a) (hb:0≤val b) :
  undI (val (x::a)) (val (y::b))↔undI x y∧undI (val a) (val b):=by
 unfold undI;rw[show val (x::a)=x+4294967296*val a by simp only[val],show val (y::b)=y+4294967296*val b by simp only[val]]
 have e1:(x+4294967296*val a).toNat=x.toNat+2^32*(val a).toNat:=by omega
 have e2:(y+4294967296*val b).toNat=y.toNat+2^32*(val b).toNat:=by omega
 rw[e1,e2,and_split (by omega) (by omega)];have h1:x.toNat &&& y.toNat<2^32:=Nat.and_lt_two_pow _ (by omega)
 have h2:x.toNat<2^32:=by omega
 generalize x.toNat &&& y.toNat=u at *
 generalize (val a).toNat &&& (val b).toNat=w at *
 generalize x.toNat=p at *
 generalize (val a).toNat=q at *
 constructor
 ·intro h; constructor<;>omega
 ·rintro⟨rfl,rfl⟩; rfl
theorem undI_words:∀ {a b:List Int},WOk a→WOk b→a.length≤b.length→(undI (val a) (val b)↔∀(j:Nat) (x y:Int),a[j]? = some x→b[j]? = some y→undI x y)
 | [],b,_,_,_=>by
  simp only[val_nil];constructor
  ·intro _ j x y h; simp at h
  ·intro _; unfold undI; simp
 | x::a,[],_,_,h=>by simp at h
 | x::a,y::b,ha,hb,h=>by
  have hx:=ha.head;have hy:=hb.head;rw[undI_cons hx.1 hx.2 hy.1 hy.2 (Al ha.tail) (Al hb.tail),undI_words ha.tail hb.tail (by simpa using h)];constructor
  ·intro⟨h1,h2⟩ j u v hu hv
   cases j with
   | zero=>simp at hu hv; subst hu hv; exact h1
   | succ j=>exact h2 j u v (by simpa using hu) (by simpa using hv)
  ·intro h1;exact⟨h1 0 x y (by simp) (by simp),fun j u v hu hv=>h1 (j+1) u v (by simpa using hu) (by simpa using hv)⟩
theorem undI_le {x y:Int} (hx:0≤x) (hy:0≤y) (h:undI x y):x≤y:=by
 unfold undI at h;have := @Nat.and_le_right x.toNat y.toNat;omega
theorem xor_zero_iff {a b:Nat}:a ^^^ b=0↔a=b:=by
 constructor
 ·intro h
  have h2:(a ^^^ b) ^^^ b=0 ^^^ b:=by rw[h]
  rwa [Nat.xor_assoc,Nat.xor_self,Nat.xor_zero,Nat.zero_xor]at h2
 ·rintro rfl; exact Nat.xor_self _
theorem andNot_zero {x y:Int}:bitN .andNot x y=0↔undI x y:=by
 show((x.toNat ^^^ (x.toNat &&& y.toNat):Nat):Int)=0↔_;unfold undI;rw[Int.natCast_eq_zero,xor_zero_iff];exact eq_comm
end Go.AL
namespace Go.AL
def I64 (x:Int):Prop := -9223372036854775808≤x∧x≤9223372036854775807
instance decI64 (x:Int):Decidable (I64 x):=inferInstanceAs (Decidable (_∧_))
attribute [irreducible] decI64
theorem or_shift {m u:Int} {i:Nat} (h0:0≤m) (h1:m<BB i) (h2:0≤u) (h3:u<4294967296) (hi:i<2):bitN .or m (u*2^(32*(i:Int)).toNat % 18446744073709551616)=m+BB i*u:=by
 have hi2:i=0∨i=1:=by omega
 rcases hi2 with rfl|rfl
 ·rw[CK]at h1 ⊢
  have:m=0:=by omega
  subst this;show(((0:Int).toNat ||| (u*2^(0:Nat) % 18446744073709551616).toNat:Nat):Int)=_;rw[show(0:Int).toNat=0 from rfl,Nat.zero_or];omega
 ·have hB:BB 1=4294967296:=by rw[Ax,CK]; rfl
  rw[hB]at h1 ⊢;show((m.toNat ||| (u*2^(32:Nat) % 18446744073709551616).toNat:Nat):Int)=_
  have e:(u*2^(32:Nat) % 18446744073709551616).toNat=u.toNat <<< 32:=by rw[Nat.shiftLeft_eq]; omega
  rw[e,Nat.or_comm,←Nat.shiftLeft_add_eq_or_of_lt (by omega:m.toNat<2^32),Nat.shiftLeft_eq];omega
theorem not_I64 {x:Int} (h:2<(toW x.natAbs).length):¬I64 x:=by
 have h1:=Ep (z:=x.natAbs) (by
  rcases Nat.eq_zero_or_pos x.natAbs with h0|h0
  ·rw[h0,show((0:Nat):Int)=0 from rfl,toW_zero]at h; simp at h
  ·omega)
 have h2:=C4 (show 2≤(toW x.natAbs).length-1 by omega);rw[BB_2]at h2;unfold I64; omega
end Go.AL
namespace Go.Proofs.YtmmfloplhopioaaGreat
open Go.AL
theorem Small_ok (x:Int) (hx:Fit x):PureFn Tryz.prog 51 [aX x] (.tup [aN (if I64 x then x else 0),aB (decide (I64 x))]):=by
 refine AC Tryz.func51 rfl Tryz.ntmps51 rfl rfl ?_;have lx:=hx.len;have wx:=Ag x.natAbs;have vx:=Ad (show(0:Int)≤x.natAbs by omega);(repeat' first|refine qv ?_|apply qn|apply qs|apply qr|refine qe ?_|fail);refine qc (Valid_int x hx) ?_;(repeat' first|refine qv ?_|apply qn|apply qs|apply qr|(refine AD rfl ?_ ?_<;>intro _<;>try(exfalso; omega))|apply qb|apply qk|apply qt)
 ·rename_i h;have hn:=not_I64 (x:=x) (by omega);refine RetOk.of rfl (AV.Le.tup (LeL.cons (AV.Le.int ?_) (LeL.cons (AV.Le.bool ?_) LeL.nil)))
  ·rw[if_neg hn]
  ·simp[hn]
 ·rename_i hl;refine AWP.loop (G:=Nat×Int) (fun(i,m)=>i≤(toW x.natAbs).length∧m=val ((toW x.natAbs).take i)∧0≤m∧m<BB i∧m≤18446744073709551615)
   (fun(i,m)=>AO [] [(1,.ptr 1 0),(4,aU m),(17,aW (toW x.natAbs)),(18,aN (toW x.natAbs).length),(19,aN i)] [(1,.cells (eX x) 48)])
   (fun(i,m)=>(toW x.natAbs).length-i) (0,0) ⟨by omega,by simp[val],by omega,by rw[CK]; omega,by omega⟩ ?_ ?_
  ·refine Ent.of [] ?_ ?_ rfl rfl;(repeat' first|exact True.intro|refine⟨⟨AA _,rfl⟩,?_⟩|refine⟨⟨⟨_,rfl,BLe.cells (AB _)⟩,rfl⟩,?_⟩|fail)
  ·intro⟨i,m⟩ ⟨k0,k1,k2,k3,k4⟩;(repeat' first|refine qv ?_|apply qn|apply qs|apply qr|refine qw ?_|refine Fl.skip rfl rfl ?_|refine AJ rfl ?_|refine AF rfl ?_|(refine AD rfl ?_ ?_<;>intro _<;>try(exfalso; omega))|apply qb|apply qk|apply qx|apply qt|(refine CJ rfl rfl rfl rfl rfl rfl rfl rfl (by omega) (by omega) (by assumption) ?_; intro _ _ _ _)|refine Fl.cvS rfl rfl rfl rfl rfl rfl ?_|(refine AG rfl rfl ?_ ?_<;>intro _<;>try(exfalso; omega)))
   ·rename_i hi u hu hu0 hu1;rw[Int.toNat_natCast]at hu
    have hi2:i<2:=by omega
    have hor:=or_shift (i:=i) k2 k3 hu0 hu1 hi2;have hb:BB (i+1)≤BB 2:=C4 (by omega);rw[BB_2]at hb
    have hlt:m+BB i*u<BB (i+1):=by
     rw[Ax];have h5:=A6 i;have h6:BB i*u≤BB i*4294967295:=Int.mul_le_mul_of_nonneg_left (by omega) (by omega);omega
    have h0:0≤BB i*u:=Int.mul_nonneg (Int.le_of_lt (A6 i)) hu0;refine LoopEnd.of (i+1,m+BB i*u) ⟨by omega,by rw[k1,Ae hu],by omega,hlt,by omega⟩ (by simp only; omega) ?_;refine Ent.of [] ?_ ?_ rfl rfl;(repeat' first|exact True.intro|refine⟨⟨AA _,rfl⟩,?_⟩|refine⟨⟨⟨_,rfl,BLe.cells (AB _)⟩,rfl⟩,?_⟩|refine⟨⟨AV.Le.int ?_,rfl⟩,?_⟩|fail);exact hor
   all_goals
    have hii:i=(toW x.natAbs).length:=by omega
    have hm:m=x.natAbs:=by rw[k1,hii,List.take_length,vx]
   ·refine RetOk.of rfl (AV.Le.tup (LeL.cons (AV.Le.int ?_) (LeL.cons (AV.Le.bool ?_) LeL.nil)))
    ·rw[if_pos (show I64 x by unfold I64; omega)]; omega
    ·exact(decide_eq_true (show I64 x by unfold I64; omega)).symm
   ·refine RetOk.of rfl (AV.Le.tup (LeL.cons (AV.Le.int ?_) (LeL.cons (AV.Le.bool ?_) LeL.nil)))
    ·rw[if_neg (show ¬I64 x by unfold I64; omega)]
    ·exact(decide_eq_false (show ¬I64 x by unfold I64; omega)).symm
   ·refine RetOk.of rfl (AV.Le.tup (LeL.cons (AV.Le.int ?_) (LeL.cons (AV.Le.bool ?_) LeL.nil)))
    ·rw[if_neg (show ¬I64 x by unfold I64; omega)]
    ·exact(decide_eq_false (show ¬I64 x by unfold I64; omega)).symm
   ·refine RetOk.of rfl (AV.Le.tup (LeL.cons (AV.Le.int ?_) (LeL.cons (AV.Le.bool ?_) LeL.nil)))
    ·rw[if_pos (show I64 x by unfold I64; omega)]; omega
    ·exact(decide_eq_true (show I64 x by unfold I64; omega)).symm
theorem Under_ok (x y:Int) (hx:Fit x) (hy:Fit y):PureFn Tryz.prog 139 [aX x,aX y] (.tup [aB (decide (0≤x∧0≤y∧undI x y)),aN (if x<0∨y<0 then 2 else 0)]):=by
 refine AC Tryz.func139 rfl Tryz.ntmps139 rfl rfl ?_;have lx:=hx.len;have ly:=hy.len;have wx:=Ag x.natAbs;have wy:=Ag y.natAbs;(repeat' first|refine qv ?_|apply qn|apply qs|apply qr|refine qe ?_|fail);refine ql eZ [zOf x,zOf y] ?_;refine qc (EX x y hx hy) ?_;(repeat' first|refine qv ?_|apply qn|apply qs|apply qr|refine Fl.skip rfl rfl ?_|refine AJ rfl ?_|refine AF rfl ?_|(refine AD rfl ?_ ?_<;>intro _<;>try(exfalso; omega))|apply qb|apply qk|apply qt|(refine AG rfl rfl ?_ ?_<;>intro _<;>try(exfalso; omega)))
 ·rename_i h;refine RetOk.of rfl (AV.Le.tup (LeL.cons (AV.Le.bool (Eq.symm (decide_eq_false fun h=>by omega))) (LeL.cons (AV.Le.int (Eq.symm (if_pos (by omega)))) LeL.nil)))
 ·rename_i h;refine RetOk.of rfl (AV.Le.tup (LeL.cons (AV.Le.bool (Eq.symm (decide_eq_false fun h=>by omega))) (LeL.cons (AV.Le.int (Eq.symm (if_pos (by omega)))) LeL.nil)))
 ·rename_i h0 h1 h
  have h2:¬undI x y:=fun h2=>by
   have h3:=undI_le (by omega) (by omega) h2
   have h4:=(BS (show(0:Int)≤x.natAbs by omega) (toW y.natAbs).length).2 (by
    have:=(BS (show(0:Int)≤y.natAbs by omega) (toW y.natAbs).length).1 (Nat.le_refl _)
    omega)
   omega
  refine RetOk.of rfl (AV.Le.tup (LeL.cons (AV.Le.bool (Eq.symm (decide_eq_false fun h=>h2 h.2.2))) (LeL.cons (AV.Le.int (Eq.symm (if_neg (by omega)))) LeL.nil)))
 ·rename_i h0 h1 hl
  have hvx:val (toW x.natAbs)=x:=by rw[Ad (by omega)]; omega
  have hvy:val (toW y.natAbs)=y:=by rw[Ad (by omega)]; omega
  have hw:=undI_words wx wy (by omega);rw[hvx,hvy]at hw;refine AWP.loop (G:=Nat) (fun i=>i≤(toW x.natAbs).length∧∀(j:Nat) (u v:Int),j<i→(toW x.natAbs)[j]? = some u→(toW y.natAbs)[j]? = some v→undI u v)
   (fun i=>AO [] [(3,.ptr 3 0),(27,aW (toW x.natAbs)),(28,aN (toW x.natAbs).length),(29,aN i)] [(3,.cells (eX y) 48)])
   (fun i=>(toW x.natAbs).length-i) 0 ⟨by omega,fun j u v hj=>by omega⟩ ?_ ?_
  ·refine Ent.of [] ?_ ?_ rfl rfl;(repeat' first|exact True.intro|refine⟨⟨AA _,rfl⟩,?_⟩|refine⟨⟨⟨_,rfl,BLe.cells (AB _)⟩,rfl⟩,?_⟩|fail)
  ·intro i ⟨k0,k1⟩;(repeat' first|refine qv ?_|apply qn|apply qs|apply qr|refine qw ?_|(refine AD rfl ?_ ?_<;>intro _<;>try(exfalso; omega))|(refine AQ rfl ?_ ?_<;>intro _<;>try(exfalso; omega))|apply qb|apply qk|apply qx|apply qt|(refine CJ rfl rfl rfl rfl rfl rfl rfl rfl (by omega) (by omega) (by assumption) ?_; intro _ _ _ _)|fail)
   ·rename_i hi u hu hu0 hu1 v hv hv0 hv1 hz;rw[Int.toNat_natCast]at hu hv;have h2:¬undI x y:=fun h2=>hz (andNot_zero.2 (hw.1 h2 i u v hu hv));refine RetOk.of rfl (AV.Le.tup (LeL.cons (AV.Le.bool (Eq.symm (decide_eq_false fun h=>h2 h.2.2))) (LeL.cons (AV.Le.int (Eq.symm (if_neg (by omega)))) LeL.nil)))
   ·rename_i hi u hu hu0 hu1 v hv hv0 hv1 hz;rw[Int.toNat_natCast]at hu hv;refine LoopEnd.of (i+1) ⟨by omega,fun j p q hj hp hq=>?_⟩ (by omega) ?_
    ·rcases Nat.lt_or_ge j i with h|h
     ·exact k1 j p q h hp hq
     ·have:j=i:=by omega
      subst this;rw[hu]at hp; rw[hv]at hq;injection hp with hp; injection hq with hq;subst hp hq;exact andNot_zero.1 hz
    ·refine Ent.of [] ?_ ?_ rfl rfl;(repeat' first|exact True.intro|refine⟨⟨AA _,rfl⟩,?_⟩|refine⟨⟨⟨_,rfl,BLe.cells (AB _)⟩,rfl⟩,?_⟩|fail)
   ·have h2:undI x y:=hw.2 fun j u v hu hv=>k1 j u v (by
     have:=(List.getElem?_eq_some_iff.1 hu).1
     omega) hu hv
    refine RetOk.of rfl (AV.Le.tup (LeL.cons (AV.Le.bool (Eq.symm (decide_eq_true ⟨by omega,by omega,h2⟩))) (LeL.cons (AV.Le.int (Eq.symm (if_neg (by omega)))) LeL.nil)))
end Go.Proofs.YtmmfloplhopioaaGreat

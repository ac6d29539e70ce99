/- Part 3 of a proof layer and of the contracts of the functions. -/
import Derived.WideLaws
import Derived.ProofKit
import Derived.OpenShut
import Derived.Carry
import Derived.ChangeSame
import Derived.ReadAgain
import Derived.Test.YtmmfloplhopioaaGreatRows
import Derived.Laws.StructEq
import Derived.Test.YtmmfloplhopioaaGreatW2
set_option linter.unusedVariables false
set_option linter.unusedSimpArgs false
/- Package exact: operations that throw. -/
namespace Go.Proofs.YtmmfloplhopioaaGreat
open Go.AL
def BT (e:Int):List PanicEntry:=[{ v := .iface 219 (.int .i64 e),recovered:=false }]
theorem Zero_ok (z:Z):PureFn Tryz.prog 201 [aZ z] (aB (decide (z.w.length=0))):=by
 refine AC Tryz.func201 rfl Tryz.ntmps201 rfl rfl ?_;(repeat' first|refine qv ?_|apply qn|apply qs|apply qr|refine qe ?_|apply qt);refine RetOk.of rfl (AV.Le.bool ?_);simp
theorem xValid_ok (zs:List Z) (hz:∀z∈zs,WOk z.w) (hl:zs.length≤1000000000):PureFn Tryz.prog 177 [.sl 2 eZ zs] (aB (decide (∀z∈zs,OkZ z))):=by
 refine AC Tryz.func177 rfl Tryz.ntmps177 rfl rfl ?_;(repeat' first|refine qv ?_|apply qn|apply qs|apply qr|apply qb);refine AWP.loop (G:=Nat) (fun i=>i≤zs.length∧∀z∈zs.take i,OkZ z) (fun i=>AO [] [(5,.sl 2 eZ zs),(6,aN zs.length),(7,aN i)] []) (fun i=>zs.length-i) 0 ⟨by omega,by simp⟩ ?_ ?_
 ·refine Ent.of [] ?_ ?_ rfl rfl;(repeat' first|exact True.intro|refine⟨⟨AA _,rfl⟩,?_⟩|fail)
 ·intro i ⟨h0,h1⟩;(repeat' first|refine qv ?_|apply qn|apply qs|apply qr|refine qe ?_|(refine AD rfl ?_ ?_<;>intro _<;>try(exfalso; omega))|apply qb|apply qk|apply qx|apply qt|(refine Ay rfl rfl rfl rfl rfl rfl rfl rfl (by omega) (by omega) ?_; intro _ _)|fail)
  ·rename_i hi z hzi;rw[Int.toNat_natCast]at hzi;refine qc (Valid_ok z (hz z (List.mem_of_getElem? hzi))) ?_;(repeat' first|refine qv ?_|apply qn|apply qs|apply qr|refine qw ?_|(refine AQ rfl ?_ ?_<;>intro _<;>try(exfalso; omega))|apply qk|apply qt)
   ·rename_i h2;refine RetOk.of rfl (AV.Le.bool (Eq.symm (decide_eq_false fun h=>h2 (h z (List.mem_of_getElem? hzi)))))
   ·rename_i h2;refine LoopEnd.of (i+1) ⟨by omega,A3 hzi h1 h2⟩ (by omega) ?_;refine Ent.of [] ?_ ?_ rfl rfl;(repeat' first|exact True.intro|refine⟨⟨AA _,rfl⟩,?_⟩|fail)
  ·refine RetOk.of rfl (AV.Le.bool (Eq.symm (decide_eq_true ?_)));rwa [show i=zs.length by omega,List.take_length]at h1
theorem Throw_ok (e:Int):IoFn Tryz.prog 212 [aN e] [] (.thr (BT e)) []:=by
 refine AH Tryz.func212 rfl Tryz.ntmps212 rfl rfl rfl ?_;(repeat' first|refine qv ?_|apply qr);refine Fl.mi rfl rfl rfl rfl rfl rfl ?_;exact Fl.pan rfl rfl rfl (fun h=>by cases h) (fun _=>rfl)
theorem ok_ret (x:Int):PureFn Tryz.prog 221 [aX x,aN 0] (aX x):=by
 refine AC Tryz.func221 rfl Tryz.ntmps221 rfl rfl ?_;(repeat' first|refine qv ?_|apply qn|apply qs|apply qr|refine qe ?_|refine AF rfl ?_|apply qk|apply qt);exact RetOk.of rfl (AA _)
theorem ok_thr (x e:Int) (he:e≠0):IoFn Tryz.prog 221 [aX x,aN e] [] (.thr (BT e)) []:=by
 refine AH Tryz.func221 rfl Tryz.ntmps221 rfl rfl rfl ?_;(repeat' first|refine qv ?_|apply qn|apply qs|apply qr|refine qe ?_|(refine AQ rfl ?_ ?_<;>intro _<;>try(exfalso; omega)));exact A7 rfl [] (Throw_ok e) rfl (AB _) rfl trivial rfl (fun h=>by cases h) (fun _=>rfl)
theorem xAdd_ret (x y:Int) (hx:Fit x) (hy:Fit y) (hf:Fit (x+y)):PureFn Tryz.prog 206 [aX x,aX y] (aX (x+y)):=by
 refine AC Tryz.func206 rfl Tryz.ntmps206 rfl rfl ?_;have h:=Add_ok x y hx hy;rw[FR hf]at h;(repeat' first|refine qv ?_|apply qn|apply qs|apply qr|refine qe ?_|fail);refine Fl.call rfl h rfl rfl rfl (AB _) ?_;(repeat' first|refine qv ?_|fail);refine qc (ok_ret (x+y)) ?_;(repeat' first|apply qn|refine qe ?_|apply qt);exact RetOk.of rfl (AA _)
theorem xAdd_thr (x y:Int) (hx:Fit x) (hy:Fit y) (hf:¬Fit (x+y)):IoFn Tryz.prog 206 [aX x,aX y] [] (.thr (BT 4)) []:=by
 refine AH Tryz.func206 rfl Tryz.ntmps206 rfl rfl rfl ?_;have h:=Add_ok x y hx hy;rw[EV hf]at h;(repeat' first|refine qv ?_|apply qn|apply qs|apply qr|refine qe ?_|fail);refine Fl.call rfl h rfl rfl rfl (AB _) ?_;(repeat' first|refine qv ?_|fail);exact A7 rfl [] (ok_thr 0 4 (by omega)) rfl (AB _) rfl trivial rfl (fun h=>by cases h) (fun _=>rfl)
theorem xMul_ret (x y:Int) (hx:Fit x) (hy:Fit y) (hf:Fit (x*y)):PureFn Tryz.prog 214 [aX x,aX y] (aX (x*y)):=by
 refine AC Tryz.func214 rfl Tryz.ntmps214 rfl rfl ?_;have h:=Mul_ok x y hx hy;rw[FR hf]at h;(repeat' first|refine qv ?_|apply qn|apply qs|apply qr|refine qe ?_|fail);refine Fl.call rfl h rfl rfl rfl (AB _) ?_;(repeat' first|refine qv ?_|fail);refine qc (ok_ret (x*y)) ?_;(repeat' first|apply qn|refine qe ?_|apply qt);exact RetOk.of rfl (AA _)
theorem xMul_thr (x y:Int) (hx:Fit x) (hy:Fit y) (hf:¬Fit (x*y)):IoFn Tryz.prog 214 [aX x,aX y] [] (.thr (BT 4)) []:=by
 refine AH Tryz.func214 rfl Tryz.ntmps214 rfl rfl rfl ?_;have h:=Mul_ok x y hx hy;rw[EV hf]at h;(repeat' first|refine qv ?_|apply qn|apply qs|apply qr|refine qe ?_|fail);refine Fl.call rfl h rfl rfl rfl (AB _) ?_;(repeat' first|refine qv ?_|fail);exact A7 rfl [] (ok_thr 0 4 (by omega)) rfl (AB _) rfl trivial rfl (fun h=>by cases h) (fun _=>rfl)
theorem xPower_ret (x n:Int) (hx:Fit x) (h0:0≤n) (h1:n≤9223372036854775807) (hf:Fit (x^n.toNat)):PureFn Tryz.prog 220 [aX x,aN n] (aX (x^n.toNat)):=by
 refine AC Tryz.func220 rfl Tryz.ntmps220 rfl rfl ?_;have h:=Power_ok x n hx h0 h1;rw[FR hf]at h;(repeat' first|refine qv ?_|apply qn|apply qs|apply qr|refine qe ?_|fail);refine Fl.call rfl h rfl rfl rfl (AB _) ?_;(repeat' first|refine qv ?_|fail);refine qc (ok_ret (x^n.toNat)) ?_;(repeat' first|apply qn|refine qe ?_|apply qt);exact RetOk.of rfl (AA _)
theorem xPower_thr (x n:Int) (hx:Fit x) (h0:0≤n) (h1:n≤9223372036854775807) (hf:¬Fit (x^n.toNat)):IoFn Tryz.prog 220 [aX x,aN n] [] (.thr (BT 4)) []:=by
 refine AH Tryz.func220 rfl Tryz.ntmps220 rfl rfl rfl ?_;have h:=Power_ok x n hx h0 h1;rw[EV hf]at h;(repeat' first|refine qv ?_|apply qn|apply qs|apply qr|refine qe ?_|fail);refine Fl.call rfl h rfl rfl rfl (AB _) ?_;(repeat' first|refine qv ?_|fail);exact A7 rfl [] (ok_thr 0 4 (by omega)) rfl (AB _) rfl trivial rfl (fun h=>by cases h) (fun _=>rfl)
end Go.Proofs.YtmmfloplhopioaaGreat
namespace Go.Proofs.YtmmfloplhopioaaGreat
open Go.AL
theorem Try1_quiet:DefOk Tryz.prog 204 34 .returning .returning 0:=by
 refine defOk_of (tab:=tab) (x := .nilIface) (r := .tup []) Tryz.func204 rfl Tryz.ntmps204 rfl rfl rfl rfl rfl rfl rfl rfl rfl (fun c₀ cs h => .inr ⟨by simp[recoverD,h],rfl,rfl⟩) ?_;(repeat' first|refine qv ?_|apply qs|apply qr);refine Fl.neqN rfl rfl rfl rfl (fun w=>run_neq_nil_nil w _ (by kernel_rfl)) ?_;(repeat' first|apply qn|refine AF rfl ?_|apply qk);exact⟨⟨[],_,_,AM _ _ _,rfl,AA _,rfl,⟨⟨⟨_,rfl,BLe.cells (AB _)⟩,rfl⟩,trivial⟩,rfl,rfl⟩⟩
theorem Try1_thrown (e:Int):DefOk Tryz.prog 204 34 (.panicking (BT e)) (.panicking [{ v := .iface 219 (.int .i64 e),recovered:=true }]) e:=by
 refine defOk_of (tab:=tab) (x := .iface 219 (.int .i64 e)) (r := .tup []) Tryz.func204 rfl Tryz.ntmps204 rfl rfl rfl rfl rfl rfl rfl rfl rfl (fun c₀ cs h => .inl (by simp[recoverD,h,BT])) ?_;(repeat' first|refine qv ?_|apply qs|apply qr);refine Fl.neqI rfl rfl rfl rfl (fun w=>run_neq_held_nil w _ _ _ (by kernel_rfl)) ?_;(repeat' first|refine qv ?_|apply qn|apply qs|apply qr|refine AJ rfl ?_);refine Fl.taI rfl rfl rfl rfl rfl rfl ?_;(repeat' first|refine qv ?_|apply qn|apply qs|apply qr|refine qe ?_|refine AF rfl ?_|apply qk);exact⟨⟨[],_,_,AM _ _ _,rfl,AA _,rfl,⟨⟨⟨_,rfl,BLe.cells (AB _)⟩,rfl⟩,trivial⟩,rfl,rfl⟩⟩
theorem Try_ret {cf:FuncId} {caps:List AV} {bxs bxs':List (AL.Id×Bx)} {r:AV} (h:IoFn Tryz.prog cf caps bxs (.ret r) bxs'):IoFn Tryz.prog 178 [.fn cf caps] bxs (.ret (aN 0)) bxs':=
 try_io (tab:=tab) (res := .ret r) Tryz.func178 rfl Tryz.ntmps178 rfl ⟨_,Tryz.func204,rfl,rfl⟩ rfl ⟨rfl,rfl,rfl⟩ ⟨rfl,rfl,rfl⟩ ⟨rfl,rfl,rfl⟩ ⟨rfl,rfl,rfl⟩ ⟨rfl,rfl,rfl⟩ ⟨rfl,rfl,rfl⟩ rfl h ⟨rfl,Try1_quiet⟩
theorem Try_thr {cf:FuncId} {caps:List AV} {bxs bxs':List (AL.Id×Bx)} {e:Int} (h:IoFn Tryz.prog cf caps bxs (.thr (BT e)) bxs'):IoFn Tryz.prog 178 [.fn cf caps] bxs (.ret (aN e)) []:=
 try_io (tab:=tab) (res := .thr (BT e)) Tryz.func178 rfl Tryz.ntmps178 rfl ⟨_,Tryz.func204,rfl,rfl⟩ rfl ⟨rfl,rfl,rfl⟩ ⟨rfl,rfl,rfl⟩ ⟨rfl,rfl,rfl⟩ ⟨rfl,rfl,rfl⟩ ⟨rfl,rfl,rfl⟩ ⟨rfl,rfl,rfl⟩ rfl h ⟨_,_,rfl,by simp,rfl,Try1_thrown e⟩
end Go.Proofs.YtmmfloplhopioaaGreat
/- Terms, polynomials, links, az the program holds them. -/
namespace Go.AL
structure TZ where
  c:Z
  e:List Int
def eT:TZ→List AV:=fun t=>[aB t.c.neg,aW t.c.w,aI t.e]
abbrev aT (t:TZ):AV := .agg [aB t.c.neg,aW t.c.w,aI t.e]
structure PZ where
  vars:Int
  terms:List TZ
def eP:PZ→List AV:=fun p=>[aN p.vars,.sl 3 eT p.terms]
abbrev aP (p:PZ):AV := .agg [aN p.vars,.sl 3 eT p.terms]
structure LZ where
  kind:Int
  vars:List Int
  polys:List PZ
def eL:LZ→List AV:=fun l=>[aN l.kind,aI l.vars,.sl 2 eP l.polys]
abbrev aL (l:LZ):AV := .agg [aN l.kind,aI l.vars,.sl 2 eP l.polys]
structure SZ where
  vars:Int
  links:List LZ
abbrev aS (s:SZ):AV := .agg [aN s.vars,.sl 3 eL s.links]
def sumL:List Int→Int
  | []=>0
  | x::l=>x+sumL l
theorem Cp:∀l m:List Int,sumL (l++m)=sumL l+sumL m
 | [],m=>by simp[sumL]
 | x::l,m=>by simp only[List.cons_append,sumL,Cp l m]; omega
theorem B5 {l:List Int} {i:Nat} {x:Int} (h:l[i]? = some x):sumL (l.take (i+1))=sumL (l.take i)+x:=by
 rw[Ab h,Cp]; simp[sumL]
end Go.AL
namespace Go.AL
def EOk (l:List Int):Prop:=∀e∈l,0≤e∧e≤120
theorem EOk.get {l:List Int} (h:EOk l) {i:Nat} {x:Int} (hx:l[i]? = some x):0≤x∧x≤120:=h x (List.mem_of_getElem? hx)
theorem Bq:∀ {l:List Int},EOk l→0≤sumL l∧sumL l≤120*l.length
 | [],_=>by simp[sumL]
 | x::l,h=>by
  have h1:=Bq (l:=l) fun e he=>h e (by simp[he]);have h2:=h x (by simp);simp only[sumL,List.length_cons];omega
theorem EOk.take {l:List Int} (h:EOk l) (n:Nat):EOk (l.take n):=fun e he=>h e (List.mem_of_mem_take he)
end Go.AL
namespace Go.Proofs.YtmmfloplhopioaaGreat
open Go.AL
theorem Ei (t:TZ) (he:EOk t.e) (hl:t.e.length≤100000):PureFn Tryz.prog 202 [aT t] (aN (sumL t.e)):=by
 refine AC Tryz.func202 rfl Tryz.ntmps202 rfl rfl ?_;(repeat' first|refine qv ?_|apply qn|apply qs|apply qr|refine qe ?_|apply qb);refine AWP.loop (G:=Nat) (fun i=>i≤t.e.length) (fun i=>AO [] [(3,aN (sumL (t.e.take i))),(7,aI t.e),(8,aN t.e.length),(9,aN i)] []) (fun i=>t.e.length-i) 0 (by omega) ?_ ?_
 ·refine Ent.of [] ?_ ?_ rfl rfl;(repeat' first|exact True.intro|refine⟨⟨AA _,rfl⟩,?_⟩|fail)
 ·intro i h0;have hs:=Bq (he.take i);have hi:=List.length_take (l:=t.e) (i:=i);(repeat' first|refine qv ?_|apply qn|apply qs|apply qr|(refine AD rfl ?_ ?_<;>intro _<;>try(exfalso; omega))|apply qb|apply qk|apply qx|apply qt|(refine Ay rfl rfl rfl rfl rfl rfl rfl rfl (by omega) (by omega) ?_; intro _ _)|fail)
  ·rename_i hlt x hx;rw[Int.toNat_natCast]at hx;have hb:=he.get hx;(repeat' first|refine qv ?_|apply qn|apply qr|refine qw ?_|fail);refine LoopEnd.of (i+1) (by omega) (by omega) ?_;refine Ent.of [] ?_ ?_ rfl rfl;(repeat' first|exact True.intro|refine⟨⟨AA _,rfl⟩,?_⟩|refine⟨⟨AV.Le.int ?_,rfl⟩,?_⟩|fail);exact(B5 hx).symm
  ·refine RetOk.of rfl (AV.Le.int ?_);rw[show i=t.e.length by omega,List.take_length]
end Go.Proofs.YtmmfloplhopioaaGreat
namespace Go.AL
def cmpL:List Int→List Int→Int
  | [],[]=>0
  | [],_::_ => -1
  | _::_,[]=>1
  | x::a,y::b=>if cmpI x y=0 then cmpL a b else cmpI x y
theorem cmpL_drop {a b:List Int} {i:Nat} {x y:Int} (hx:a[i]? = some x) (hy:b[i]? = some y):cmpL (a.drop i) (b.drop i)=if cmpI x y=0 then cmpL (a.drop (i+1)) (b.drop (i+1))else cmpI x y:=by
 have hi:i<a.length:=(List.getElem?_eq_some_iff.1 hx).1;have hi2:i<b.length:=(List.getElem?_eq_some_iff.1 hy).1;rw[List.drop_eq_getElem_cons hi,List.drop_eq_getElem_cons hi2,(List.getElem?_eq_some_iff.1 hx).2,(List.getElem?_eq_some_iff.1 hy).2];simp only[cmpL]
theorem cmpL_long {a b:List Int} {i:Nat} (h1:i<a.length) (h2:b.length≤i):cmpL (a.drop i) (b.drop i)=1:=by
 rw[List.drop_eq_getElem_cons h1,List.drop_of_length_le h2]; rfl
theorem cmpL_short {a b:List Int} {i:Nat} (h1:a.length≤i) (h2:i<b.length):cmpL (a.drop i) (b.drop i) = -1:=by
 rw[List.drop_eq_getElem_cons h2,List.drop_of_length_le h1]; rfl
theorem cmpL_end {a b:List Int} {i:Nat} (h1:a.length≤i) (h2:b.length≤i):cmpL (a.drop i) (b.drop i)=0:=by
 rw[List.drop_of_length_le h2,List.drop_of_length_le h1]; rfl
end Go.AL
namespace Go.Proofs.YtmmfloplhopioaaGreat
open Go.AL
theorem isNaN_ok (x:Int):PureFn Tryz.prog 239 [aN x] (aB false):=by
 refine AC Tryz.func239 rfl Tryz.ntmps239 rfl rfl ?_;(repeat' first|refine qv ?_|apply qn|apply qs|apply qr|apply qt);refine RetOk.of rfl (AV.Le.bool ?_);simp
theorem cmpCompare_ok (x y:Int):PureFn Tryz.prog 231 [aN x,aN y] (aN (cmpI x y)):=by
 refine AC Tryz.func231 rfl Tryz.ntmps231 rfl rfl ?_;(repeat' first|refine qv ?_|apply qn|apply qs|apply qr);refine qc (isNaN_ok x) ?_;(repeat' first|refine qv ?_|apply qn|apply qs|apply qr);refine qc (isNaN_ok y) ?_;(repeat' first|refine qv ?_|apply qn|apply qs|apply qr|refine AF rfl ?_|(refine AD rfl ?_ ?_<;>intro _<;>try(exfalso; omega))|apply qk|apply qt)
 ·refine RetOk.of rfl (AV.Le.int ?_);rw[EN (by omega)]
 ·refine RetOk.of rfl (AV.Le.int ?_);rw[EO (by omega)]
 ·refine RetOk.of rfl (AV.Le.int ?_);rw[cmpI_eq (by omega)]
theorem slicesCompare_ok (a b:List Int) (ha:a.length≤100000) (hb:b.length≤100000):PureFn Tryz.prog 219 [aI a,aI b] (aN (cmpL a b)):=by
 refine AC Tryz.func219 rfl Tryz.ntmps219 rfl rfl ?_;(repeat' first|refine qv ?_|apply qn|apply qs|apply qr|apply qb);refine AWP.loop (G:=Nat) (fun i=>i≤a.length∧i≤b.length∧cmpL (a.drop i) (b.drop i)=cmpL a b) (fun i=>AO [] [(0,aI a),(1,aI b),(9,aI a),(10,aN a.length),(11,aN i)] []) (fun i=>a.length-i) 0 ⟨by omega,by omega,rfl⟩ ?_ ?_
 ·refine Ent.of [] ?_ ?_ rfl rfl;(repeat' first|exact True.intro|refine⟨⟨AA _,rfl⟩,?_⟩|fail)
 ·intro i ⟨h0,h1,h2⟩;(repeat' first|refine qv ?_|apply qn|apply qs|apply qr|(refine AD rfl ?_ ?_<;>intro _<;>try(exfalso; omega))|apply qb|apply qk|apply qx|apply qt|(refine Ay rfl rfl rfl rfl rfl rfl rfl rfl (by omega) (by omega) ?_; intro _ _)|fail)
  ·refine RetOk.of rfl (AV.Le.int ?_);rw[←h2,cmpL_long (by omega) (by omega)]
  ·rename_i hi x hx hj y hy;rw[Int.toNat_natCast]at hx hy;have hd:=cmpL_drop hx hy;refine qc (cmpCompare_ok x y) ?_;(repeat' first|refine qv ?_|apply qn|apply qs|apply qr|refine qw ?_|(refine AQ rfl ?_ ?_<;>intro _<;>try(exfalso; omega))|apply qk|apply qt)
   ·rename_i hz;refine RetOk.of rfl (AV.Le.int ?_);rw[←h2,hd,if_neg hz]
   ·rename_i hz;rw[if_pos hz]at hd;refine LoopEnd.of (i+1) ⟨by omega,by omega,by rw[←hd,h2]⟩ (by omega) ?_;refine Ent.of [] ?_ ?_ rfl rfl;(repeat' first|exact True.intro|refine⟨⟨AA _,rfl⟩,?_⟩|fail)
  ·refine RetOk.of rfl (AV.Le.int ?_);rw[←h2,cmpL_short (by omega) (by omega)]
  ·refine RetOk.of rfl (AV.Le.int ?_);rw[←h2,cmpL_end (by omega) (by omega)]
end Go.Proofs.YtmmfloplhopioaaGreat
namespace Go.AL
def ordI (a b:List Int):Int:=if sumL b-sumL a=0 then cmpL b a else sumL b-sumL a
end Go.AL
namespace Go.Proofs.YtmmfloplhopioaaGreat
open Go.AL
theorem order_ok (a b:TZ) (ha:EOk a.e) (hb:EOk b.e) (hal:a.e.length≤100000) (hbl:b.e.length≤100000):PureFn Tryz.prog 203 [aT a,aT b] (aN (ordI a.e b.e)):=by
 refine AC Tryz.func203 rfl Tryz.ntmps203 rfl rfl ?_;have ba:=Bq ha;have bb:=Bq hb;(repeat' first|refine qv ?_|apply qn|apply qs|apply qr|refine qe ?_|fail);refine qc (Ei b hb hbl) ?_;(repeat' first|refine qv ?_|fail);refine qc (Ei a ha hal) ?_;(repeat' first|refine qv ?_|apply qn|refine Fl.nil (fun _=>by kernel_rfl) ?_|apply qs|apply qr|refine qw ?_|(refine AQ rfl ?_ ?_<;>intro _<;>try(exfalso; omega))|apply qk|apply qt)
 ·rename_i hz;refine RetOk.of rfl (AV.Le.int ?_);unfold ordI; rw[if_neg hz]
 ·rename_i hz;refine qc (slicesCompare_ok b.e a.e hbl hal) ?_;(repeat' first|refine qv ?_|apply qn|apply qt);refine RetOk.of rfl (AV.Le.int ?_);unfold ordI; rw[if_pos hz]
end Go.Proofs.YtmmfloplhopioaaGreat
namespace Go.AL
structure OkT (vars:Int) (t:TZ):Prop where
  coef:OkZ t.c
  nz:t.c.w.length≠0
  len:(t.e.length:Int)=vars
  exps:EOk t.e
  deg:sumL t.e≤120
structure OkP (p:PZ):Prop where
  v0:0≤p.vars
  v1:p.vars≤32
  len:p.terms.length≤3000
  terms:∀t∈p.terms,OkT p.vars t
  ord:∀(i:Nat) (a b:TZ),p.terms[i]? = some a→p.terms[i+1]? = some b→ordI a.e b.e<0
def WT (t:TZ):Prop:=WOk t.c.w
def WP (p:PZ):Prop:=∀t∈p.terms,WT t
end Go.AL
namespace Go.Proofs.YtmmfloplhopioaaGreat
open Go.AL
theorem CZ (p:PZ) (hw:WP p) (b:Bool) (hb:b=true↔OkP p):PureFn Tryz.prog 176 [aP p] (aB b):=by
 refine AC Tryz.func176 rfl Tryz.ntmps176 rfl rfl ?_
 have hfalse:¬OkP p→false=b:=fun h=>by cases b with|false=>rfl|true=>exact absurd (hb.1 rfl) h
 (repeat' first|refine qv ?_|apply qn|apply qs|apply qr|refine qe ?_|refine Fl.skip rfl rfl ?_|refine AJ rfl ?_|(refine AD rfl ?_ ?_<;>intro _<;>try(exfalso; omega))|apply qb|apply qk|apply qt|(refine AG rfl rfl ?_ ?_<;>intro _<;>try(exfalso; omega)))
 ·rename_i h; exact RetOk.of rfl (AV.Le.bool (hfalse fun k=>by have:=k.v0; omega))
 ·rename_i h; exact RetOk.of rfl (AV.Le.bool (hfalse fun k=>by have:=k.v1; omega))
 ·rename_i h; exact RetOk.of rfl (AV.Le.bool (hfalse fun k=>by have:=k.len; omega))
 rename_i hv0 hv1 hlen;refine AWP.loop (G:=Nat) (fun i=>i≤p.terms.length∧(∀t∈p.terms.take i,OkT p.vars t)∧∀(j:Nat) (a b:TZ),j+1<i→p.terms[j]? = some a→p.terms[j+1]? = some b→ordI a.e b.e<0)
  (fun i=>AO [] [(1,.ptr 1 0),(22,.sl 3 eT p.terms),(23,aN p.terms.length),(24,aN i)] [(1,.cells (eP p) 105)]) (fun i=>p.terms.length-i) 0 ⟨by omega,by simp,fun j a b h=>by omega⟩ ?_ ?_
 ·refine Ent.of [] ?_ ?_ rfl rfl;(repeat' first|exact True.intro|refine⟨⟨AA _,rfl⟩,?_⟩|refine⟨⟨⟨_,rfl,BLe.cells (AB _)⟩,rfl⟩,?_⟩|fail)
 ·intro i ⟨k0,k1,k2⟩;(repeat' first|refine qv ?_|apply qn|apply qs|apply qr|refine qe ?_|(refine AD rfl ?_ ?_<;>intro _<;>try(exfalso; omega))|apply qb|apply qk|apply qx|apply qt|(refine Ay rfl rfl rfl rfl rfl rfl rfl rfl (by omega) (by omega) ?_; intro _ _)|fail)
  ·rename_i hi t ht;rw[Int.toNat_natCast]at ht;have htm:=List.mem_of_getElem? ht;have hall:¬OkT p.vars t→¬OkP p:=fun h k=>h (k.terms t htm);refine qc (Valid_ok t.c (hw t htm)) ?_;(repeat' first|refine qv ?_|apply qn|apply qs|apply qr|refine Fl.skip rfl rfl ?_|refine AJ rfl ?_|apply qt|(refine Ap rfl rfl ?_ ?_<;>intro _<;>try(exfalso; omega)))
   ·rename_i h; exact RetOk.of rfl (AV.Le.bool (hfalse (hall fun k=>h k.coef)))
   refine qc (Zero_ok t.c) ?_;(repeat' first|refine qv ?_|apply qn|apply qs|apply qr|refine Fl.skip rfl rfl ?_|refine AJ rfl ?_|(refine AQ rfl ?_ ?_<;>intro _<;>try(exfalso; omega))|apply qb|apply qk|apply qt|(refine AG rfl rfl ?_ ?_<;>intro _<;>try(exfalso; omega)))
   ·rename_i h; exact RetOk.of rfl (AV.Le.bool (hfalse (hall fun k=>k.nz h)))
   ·rename_i h; exact RetOk.of rfl (AV.Le.bool (hfalse (hall fun k=>h k.len)))
   rename_i hc hz hl;refine AWP.loop (G:=Nat) (fun j=>j≤t.e.length∧EOk (t.e.take j))
    (fun j=>AO [] [(1,.ptr 1 0),(3,aN i),(4,.ptr 4 0),(22,.sl 3 eT p.terms),(23,aN p.terms.length),(24,aN i),(47,aI t.e),(48,aN t.e.length),(49,aN j)] [(1,.cells (eP p) 105),(4,.cells (eT t) 158)]) (fun j=>t.e.length-j) 0 ⟨by omega,fun e he=>by simp at he⟩ ?_ ?_
   ·refine Ent.of [] ?_ ?_ rfl rfl;(repeat' first|exact True.intro|refine⟨⟨AA _,rfl⟩,?_⟩|refine⟨⟨⟨_,rfl,BLe.cells (AB _)⟩,rfl⟩,?_⟩|fail)
   ·intro j ⟨m0,m1⟩;(repeat' first|refine qv ?_|apply qn|apply qs|apply qr|refine qw ?_|refine Fl.skip rfl rfl ?_|refine AJ rfl ?_|(refine AD rfl ?_ ?_<;>intro _<;>try(exfalso; omega))|apply qb|apply qk|apply qx|apply qt|(refine Ay rfl rfl rfl rfl rfl rfl rfl rfl (by omega) (by omega) ?_; intro _ _)|(refine AG rfl rfl ?_ ?_<;>intro _<;>try(exfalso; omega)))
    ·rename_i hj e he h0;rw[Int.toNat_natCast]at he;exact RetOk.of rfl (AV.Le.bool (hfalse (hall fun k=>by have:=k.exps.get he; omega)))
    ·rename_i hj e he h0 h1;rw[Int.toNat_natCast]at he;exact RetOk.of rfl (AV.Le.bool (hfalse (hall fun k=>by have:=k.exps.get he; omega)))
    ·rename_i hj e he h0 h1;rw[Int.toNat_natCast]at he;refine LoopEnd.of (j+1) ⟨by omega,?_⟩ (by omega) ?_
     ·rw[Ab he];intro x hx;rcases List.mem_append.1 hx with hx|hx
      ·exact m1 x hx
      ·simp only[List.mem_singleton]at hx; subst hx; omega
     ·refine Ent.of [] ?_ ?_ rfl rfl;(repeat' first|exact True.intro|refine⟨⟨AA _,rfl⟩,?_⟩|refine⟨⟨⟨_,rfl,BLe.cells (AB _)⟩,rfl⟩,?_⟩|fail)
    ·rename_i hj
     have m2:EOk t.e:=by rwa [show j=t.e.length by omega,List.take_length]at m1
     have hb2:=Bq m2;refine qc (Ei t m2 (by omega)) ?_;(repeat' first|refine qv ?_|apply qn|refine Fl.nil (fun _=>by kernel_rfl) ?_|apply qs|apply qr|refine qw ?_|refine Fl.skip rfl rfl ?_|refine AJ rfl ?_|refine AF rfl ?_|apply qk|apply qt|(refine Ay rfl rfl rfl rfl rfl rfl rfl rfl (by omega) (by omega) ?_; intro _ _)|(refine AG rfl rfl ?_ ?_<;>intro _<;>try(exfalso; omega)))
     ·rename_i h; exact RetOk.of rfl (AV.Le.bool (hfalse (hall fun k=>by have:=k.deg; omega)))
     ·rename_i hd hi0 a ha
      have ha:p.terms[i-1]? = some a:=by rwa [show((i:Int)-1).toNat=i-1 by omega]at ha
      have hoa:=k1 a (List.mem_of_getElem? (i:=i-1) (by rw[List.getElem?_take_of_lt (by omega)]; exact ha));refine qc (order_ok a t hoa.exps m2 (by have:=hoa.len; omega) (by omega)) ?_;(repeat' first|refine qv ?_|apply qn|refine Fl.nil (fun _=>by kernel_rfl) ?_|apply qs|apply qr|refine qw ?_|(refine AD rfl ?_ ?_<;>intro _<;>try(exfalso; omega))|apply qk|apply qt)
      ·rename_i ho;refine RetOk.of rfl (AV.Le.bool (hfalse fun k=>?_));have:=k.ord (i-1) a t ha (by rwa [show i-1+1=i by omega]);omega
      ·rename_i ho;refine LoopEnd.of (i+1) ⟨by omega,A3 ht k1 ⟨hc,hz,hl,m2,by omega⟩,fun j a' b' hj h1 h2=>?_⟩ (by omega) ?_
       ·by_cases hji:j+1<i
        ·exact k2 j a' b' hji h1 h2
        ·have hj':j=i-1:=by omega
         subst hj';rw[ha]at h1; cases h1;rw[show i-1+1=i by omega,ht]at h2; cases h2;omega
       ·refine Ent.of [] ?_ ?_ rfl rfl;(repeat' first|exact True.intro|refine⟨⟨AA _,rfl⟩,?_⟩|refine⟨⟨⟨_,rfl,BLe.cells (AB _)⟩,rfl⟩,?_⟩|fail)
     ·rename_i hd hi0;refine LoopEnd.of (i+1) ⟨by omega,A3 ht k1 ⟨hc,hz,hl,m2,by omega⟩,fun j a' b' hj h1 h2=>by omega⟩ (by omega) ?_;refine Ent.of [] ?_ ?_ rfl rfl;(repeat' first|exact True.intro|refine⟨⟨AA _,rfl⟩,?_⟩|refine⟨⟨⟨_,rfl,BLe.cells (AB _)⟩,rfl⟩,?_⟩|fail)
  ·rename_i hi;refine RetOk.of rfl (AV.Le.bool (Eq.symm (hb.2 ⟨by omega,by omega,by omega,fun t ht=>k1 t ?_,fun j a b ha hb=>k2 j a b ?_ ha hb⟩)))
   ·rwa [show i=p.terms.length by omega,List.take_length]
   ·have:=(List.getElem?_eq_some_iff.1 hb).1;omega
end Go.Proofs.YtmmfloplhopioaaGreat
namespace Go.AL
def AX:List Int→List Int→Int
  | x::X,e::E=>x^e.toNat*AX X E
  | _,_=>1
def tv (X:List Int) (t:TZ):Int:=zval t.c*AX X t.e
theorem E4:∀ {X E:List Int} {i:Nat} {x e:Int},X[i]? = some x→E[i]? = some e→AX (X.take (i+1)) (E.take (i+1))=AX (X.take i) (E.take i)*x^e.toNat
 | [],_,_,_,_,h,_=>by simp at h
 | _::_,[],_,_,_,_,h=>by simp at h
 | y::X,d::E,0,x,e,h1,h2=>by
  simp at h1 h2; subst h1 h2; simp[AX]
 | y::X,d::E,i+1,x,e,h1,h2=>by
  simp only[List.take_succ_cons,AX];rw[E4 (X:=X) (E:=E) (i:=i) (by simpa using h1) (by simpa using h2),Int.mul_assoc]
theorem prodE_zero:∀ {X E:List Int} {i:Nat} {e:Int},X[i]? = some 0→E[i]? = some e→0<e→AX X E=0
 | [],_,_,_,h,_,_=>by simp at h
 | _::_,[],_,_,_,h,_=>by simp at h
 | y::X,d::E,0,e,h1,h2,h0=>by
  simp at h1 h2; subst h1 h2;simp only[AX];rw[Int.zero_pow (by omega)]; simp
 | y::X,d::E,i+1,e,h1,h2,h0=>by
  simp only[AX];rw[prodE_zero (X:=X) (E:=E) (i:=i) (by simpa using h1) (by simpa using h2) h0]; simp
theorem natAbs_mul_ge {a b:Int} (hb:b≠0):a.natAbs≤(a*b).natAbs:=by
 rw[Int.natAbs_mul];exact Nat.le_mul_of_pos_right _ (by omega)
theorem Fit.le {a b:Int} (h:Fit b) (hl:a.natAbs≤b.natAbs):Fit a:=Fit.mk (by have:=h.lt; omega)
def NoZ (X E:List Int):Prop:=∀(i:Nat) (x e:Int),X[i]? = some x→E[i]? = some e→0<e→x≠0
theorem NoZ.tail {x e:Int} {X E:List Int} (h:NoZ (x::X) (e::E)):NoZ X E:=fun i a b h1 h2=>h (i+1) a b (by simpa using h1) (by simpa using h2)
theorem pow_ne {x e:Int} (h:0<e→x≠0):x^e.toNat≠0:=by
 by_cases he:0<e
 ·exact Int.pow_ne_zero (h he)
 ·rw[show e.toNat=0 by omega]; simp
theorem prodE_ne:∀ {X E:List Int},NoZ X E→AX X E≠0
 | [],_,_=>by simp[AX]
 | _::_,[],_=>by simp[AX]
 | x::X,e::E,h=>by
  simp only[AX];exact Int.mul_ne_zero (pow_ne fun he=>h 0 x e (by simp) (by simp) he) (prodE_ne h.tail)
theorem prodE_take_le:∀ {X E:List Int} (i:Nat),NoZ X E→(AX (X.take i) (E.take i)).natAbs≤(AX X E).natAbs
 | [],_,i,_=>by simp[AX]
 | _::_,[],i,_=>by simp[AX]
 | x::X,e::E,0,h=>by
  have:=prodE_ne h;simp only[List.take_zero];have:(AX [] []).natAbs=1:=rfl;omega
 | x::X,e::E,i+1,h=>by
  simp only[List.take_succ_cons,AX];rw[Int.natAbs_mul,Int.natAbs_mul];exact Nat.mul_le_mul_left _ (prodE_take_le i h.tail)
end Go.AL
namespace Go.Proofs.YtmmfloplhopioaaGreat
open Go.AL
theorem ZeroX_ok (x:Int):PureFn Tryz.prog 201 [aX x] (aB (decide (x=0))):=by
 have h:=Zero_ok (zOf x)
 have e:decide ((zOf x).w.length=0)=decide (x=0):=by
  rw[decide_eq_decide];show(toW x.natAbs).length=0↔x=0;have:=BO (z:=x.natAbs) (by omega);rw[List.length_eq_zero_iff,this]; omega
 rwa [e]at h
end Go.Proofs.YtmmfloplhopioaaGreat
namespace Go.AL
theorem NoZ.snoc {X E:List Int} {i:Nat} {x e:Int} (h:NoZ (X.take i) (E.take i)) (hx:X[i]? = some x) (he:E[i]? = some e) (h0:0<e→x≠0):NoZ (X.take (i+1)) (E.take (i+1)):=by
 intro j a b h1 h2 h3
 have hj:j<i+1:=by
  have:=(List.getElem?_eq_some_iff.1 h1).1;rw[List.length_take]at this; omega
 rw[List.getElem?_take_of_lt hj]at h1 h2;by_cases hji:j=i
 ·subst hji;rw[hx]at h1; rw[he]at h2; cases h1; cases h2; exact h0 h3
 ·exact h j a b (by rw[List.getElem?_take_of_lt (by omega)]; exact h1) (by rw[List.getElem?_take_of_lt (by omega)]; exact h2) h3
theorem of_take {α:Type} {l:List α} {n i:Nat} {x:α} (h:(l.take n)[i]? = some x):l[i]? = some x:=by
 rw[List.getElem?_take]at h;split at h
 ·exact h
 ·cases h
theorem leZ {z:Z} {x:Int} {σ:List (Id×Id)} (h:z=zOf x):LeL (eZ z) (renL (renI σ) (eX x)):=by subst h; exact AB _
theorem leX {x y:Int} {σ:List (Id×Id)} (h:x=y):LeL (eX x) (renL (renI σ) (eX y)):=by subst h; exact AB _
end Go.AL
namespace Go.Proofs.YtmmfloplhopioaaGreat
open Go.AL
set_option maxHeartbeats 1000000 in
theorem term_io (t:TZ) (X:List Int) (hw:WT t) (hc:OkZ t.c) (hnz:t.c.w.length≠0) (he:EOk t.e) (hl:t.e.length=X.length) (hll:t.e.length≤100000) (hX:∀x∈X,Fit x) (res:Res) (hr1:Fit (tv X t)→res = .ret (aX (tv X t))) (hr2:¬Fit (tv X t)→res = .thr (BT 4)) :
  IoFn Tryz.prog 205 [aT t,.sl 2 eX X] [] res []:=by
 refine AH Tryz.func205 rfl Tryz.ntmps205 rfl rfl rfl ?_;obtain⟨hz,hf⟩:=D3 hw hc;(repeat' first|refine qv ?_|apply qn|apply qs|apply qr|refine qe ?_|apply qb);refine AWP.loop (G:=Nat) (fun i=>i≤t.e.length∧NoZ (X.take i) (t.e.take i)) (fun i=>AO [] [(1,.sl 2 eX X),(2,.ptr 2 0),(4,.ptr 4 0),(11,aI t.e),(12,aN t.e.length),(13,aN i)] [(2,.cells (eT t) 158),(4,.cells [aB false,.v (.slice none 0 0)] 48)]) (fun i=>t.e.length-i) 0 ⟨by omega,fun i x e h=>by simp at h⟩ ?_ ?_
 ·refine Ent.of [] ?_ ?_ rfl rfl;(repeat' first|exact True.intro|refine⟨⟨AA _,rfl⟩,?_⟩|refine⟨⟨⟨_,rfl,BLe.cells (AB _)⟩,rfl⟩,?_⟩|fail)
 ·intro i ⟨k0,k1⟩;(repeat' first|refine qv ?_|apply qn|apply qs|apply qr|refine qw ?_|refine qe ?_|refine Fl.skip rfl rfl ?_|refine AF rfl ?_|(refine AD rfl ?_ ?_<;>intro _<;>try(exfalso; omega))|apply qb|apply qk|apply qx|(refine Ay rfl rfl rfl rfl rfl rfl rfl rfl (by omega) (by omega) ?_; intro _ _)|(refine AG rfl rfl ?_ ?_<;>intro _<;>try(exfalso; omega)))
  ·rename_i hi e hei h0 x hx;rw[Int.toNat_natCast]at hei hx;refine qc (ZeroX_ok x) ?_;(repeat' first|refine qv ?_|apply qn|apply qs|apply qr|refine qw ?_|refine qe ?_|(refine AD rfl ?_ ?_<;>intro _<;>try(exfalso; omega))|apply qk|apply qt)
   ·rename_i hx0;subst hx0
    have hv:tv X t=0:=by unfold tv; rw[prodE_zero hx hei h0]; simp
    have e1:=hr1 (by rw[hv]; exact Fit.zero);subst e1;rw[hv];exact⟨⟨[],_,_,AM _ _ _,rfl,Dm,rfl,trivial,rfl,rfl⟩⟩
   ·rename_i hx0;refine LoopEnd.of (i+1) ⟨by omega,k1.snoc hx hei fun _=>hx0⟩ (by omega) ?_;refine Ent.of [] ?_ ?_ rfl rfl;(repeat' first|exact True.intro|refine⟨⟨AA _,rfl⟩,?_⟩|refine⟨⟨⟨_,rfl,BLe.cells (AB _)⟩,rfl⟩,?_⟩|fail)
  ·rename_i hi e hei h0;rw[Int.toNat_natCast]at hei;refine LoopEnd.of (i+1) ⟨by omega,?_⟩ (by omega) ?_
   ·exact k1.snoc (x:=X[i]'(by omega)) (List.getElem?_eq_getElem _) hei fun h=>by omega
   ·refine Ent.of [] ?_ ?_ rfl rfl;(repeat' first|exact True.intro|refine⟨⟨AA _,rfl⟩,?_⟩|refine⟨⟨⟨_,rfl,BLe.cells (AB _)⟩,rfl⟩,?_⟩|fail)
  ·rename_i hi
   have hnz1:NoZ X t.e:=by
    have h1:X.take i=X:=List.take_of_length_le (by omega);have h2:t.e.take i=t.e:=List.take_of_length_le (by omega);rwa [h1,h2]at k1
   clear hi k1 k0
   have hcv:zval t.c≠0:=fun h=>by
    rw[h]at hz;exact hnz (by rw[hz]; show(toW ((0:Int).natAbs)).length=0; rw[show(((0:Int).natAbs:Nat):Int)=0 from rfl,toW_zero]; rfl)
   refine AWP.loop (G:=Nat) (fun i=>i≤t.e.length∧Fit (zval t.c*AX (X.take i) (t.e.take i))) (fun i=>AO [] [(1,.sl 2 eX X),(2,.ptr 2 0),(4,.ptr 4 0),(7,.ptr 7 0),(32,aI t.e),(33,aN t.e.length),(34,aN i)] [(2,.cells (eT t) 158),(4,.cells [aB false,.v (.slice none 0 0)] 48),(7,.cells (eX (zval t.c*AX (X.take i) (t.e.take i))) 48)]) (fun i=>t.e.length-i) 0 ⟨by omega,by simpa[AX]using hf⟩ ?_ ?_
   ·refine Ent.of [] ?_ ?_ rfl rfl;(repeat' first|exact True.intro|refine⟨⟨AA _,rfl⟩,?_⟩|refine⟨⟨⟨_,rfl,BLe.cells (AB _)⟩,rfl⟩,?_⟩|refine⟨⟨⟨_,rfl,BLe.cells ?_⟩,rfl⟩,?_⟩|fail);exact leZ (by simp only[List.take_zero,AX,Int.mul_one]; exact hz)
   ·clear i; intro i ⟨k0,k1⟩;(repeat' first|refine qv ?_|apply qn|apply qs|apply qr|refine qw ?_|refine qe ?_|(refine AD rfl ?_ ?_<;>intro _<;>try(exfalso; omega))|apply qb|apply qk|apply qx|apply qt|(refine Ay rfl rfl rfl rfl rfl rfl rfl rfl (by omega) (by omega) ?_; intro _ _)|fail)
    ·rename_i hi e hei h0 x hx;rw[Int.toNat_natCast]at hei hx;have hstep:=E4 hx hei;have hxf:=hX x (List.mem_of_getElem? hx);have hne:AX (X.take i) (t.e.take i)≠0:=prodE_ne fun j a b h1 h2=>hnz1 j a b (of_take h1) (of_take h2);have hpw:x^e.toNat≠0:=pow_ne fun h=>hnz1 i x e hx hei h;have hle:=prodE_take_le (i+1) hnz1
     have hab:zval t.c*AX (X.take i) (t.e.take i)*x^e.toNat=zval t.c*AX (X.take (i+1)) (t.e.take (i+1)):=by rw[hstep,Int.mul_assoc]
     have hfin:Fit (tv X t)→Fit (zval t.c*AX (X.take (i+1)) (t.e.take (i+1))):=fun h=>h.le (by unfold tv; rw[Int.natAbs_mul,Int.natAbs_mul]; exact Nat.mul_le_mul_left _ hle);by_cases hp:Fit (x^e.toNat)
     ·by_cases hm:Fit (zval t.c*AX (X.take i) (t.e.take i)*x^e.toNat)
      ·refine qc (xPower_ret x e hxf (by omega) (by have:=he.get hei; omega) hp) ?_;refine qc (xMul_ret _ _ k1 hp hm) ?_;(repeat' first|refine qv ?_|apply qn|refine Fl.nil (fun _=>by kernel_rfl) ?_|apply qr|refine qw ?_|refine qe ?_|fail);refine LoopEnd.of (i+1) ⟨by omega,by rw[←hab]; exact hm⟩ (by omega) ?_;refine Ent.of [] ?_ ?_ rfl rfl;(repeat' first|exact True.intro|refine⟨⟨AA _,rfl⟩,?_⟩|refine⟨⟨⟨_,rfl,BLe.cells (AB _)⟩,rfl⟩,?_⟩|refine⟨⟨⟨_,rfl,BLe.cells ?_⟩,rfl⟩,?_⟩|fail);exact leX hab
      ·have e1:=hr2 fun h=>hm (by rw[hab]; exact hfin h);subst e1;refine qc (xPower_ret x e hxf (by omega) (by have:=he.get hei; omega) hp) ?_;exact A7 rfl [] (xMul_thr _ _ k1 hp hm) rfl (AB _) rfl trivial rfl (fun _=>by kernel_rfl) (fun _=>rfl)
     ·have e1:=hr2 fun h=>hp ((hfin h).le (by rw[←hab,Int.mul_comm]; exact natAbs_mul_ge (Int.mul_ne_zero hcv hne)));subst e1;exact A7 rfl [] (xPower_thr x e hxf (by omega) (by have:=he.get hei; omega) hp) rfl (AB _) rfl trivial rfl (fun _=>by kernel_rfl) (fun _=>rfl)
    ·rename_i hi e hei h0;rw[Int.toNat_natCast]at hei;have hx:X[i]? = some (X[i]'(by omega)):=List.getElem?_eq_getElem _
     have hab:zval t.c*AX (X.take i) (t.e.take i)=zval t.c*AX (X.take (i+1)) (t.e.take (i+1)):=by rw[E4 hx hei,show e.toNat=0 by omega]; simp
     refine LoopEnd.of (i+1) ⟨by omega,by rw[←hab]; exact k1⟩ (by omega) ?_;refine Ent.of [] ?_ ?_ rfl rfl;(repeat' first|exact True.intro|refine⟨⟨AA _,rfl⟩,?_⟩|refine⟨⟨⟨_,rfl,BLe.cells (AB _)⟩,rfl⟩,?_⟩|refine⟨⟨⟨_,rfl,BLe.cells ?_⟩,rfl⟩,?_⟩|fail);exact leX hab
    ·rename_i hi
     have hab:zval t.c*AX (X.take i) (t.e.take i)=tv X t:=by
      have h1:X.take i=X:=List.take_of_length_le (by omega);have h2:t.e.take i=t.e:=List.take_of_length_le (by omega);rw[h1,h2]; rfl
     rw[hab]at k1;have e1:=hr1 k1;subst e1;exact⟨⟨[],_,_,AM _ _ _,rfl,AV.Le.agg (leX hab),rfl,trivial,rfl,rfl⟩⟩
end Go.Proofs.YtmmfloplhopioaaGreat
namespace Go.AL
theorem EF:∀ {l:List Int},(∀x∈l,0≤x)→0≤sumL l
 | [],_=>by simp[sumL]
 | x::l,h=>by have:=EF (l:=l) fun y hy=>h y (by simp[hy]); have:=h x (by simp); simp only[sumL]; omega
theorem sumL_nonpos:∀ {l:List Int},(∀x∈l,x≤0)→sumL l≤0
 | [],_=>by simp[sumL]
 | x::l,h=>by have:=sumL_nonpos (l:=l) fun y hy=>h y (by simp[hy]); have:=h x (by simp); simp only[sumL]; omega
theorem sumL_take_add (l:List Int) (i:Nat):sumL l=sumL (l.take i)+sumL (l.drop i):=by rw[←Cp,List.take_append_drop]
theorem sumL_take_le {l:List Int} (h:∀x∈l,0≤x) (i:Nat):0≤sumL (l.take i)∧sumL (l.take i)≤sumL l:=by
 have h1:=EF (l:=l.take i) fun x hx=>h x (List.mem_of_mem_take hx);have h2:=EF (l:=l.drop i) fun x hx=>h x (List.mem_of_mem_drop hx);have:=sumL_take_add l i;omega
theorem sumL_take_ge {l:List Int} (h:∀x∈l,x≤0) (i:Nat):sumL (l.take i)≤0∧sumL l≤sumL (l.take i):=by
 have h1:=sumL_nonpos (l:=l.take i) fun x hx=>h x (List.mem_of_mem_take hx);have h2:=sumL_nonpos (l:=l.drop i) fun x hx=>h x (List.mem_of_mem_drop hx);have:=sumL_take_add l i;omega
def plI (v:Int):Int:=if v<0 then 0 else v
def opI (v:Int):Int:=if v<0 then v else 0
def PS (X:List Int) (l:List TZ):Int:=sumL (l.map fun t=>plI (tv X t))
def OS (X:List Int) (l:List TZ):Int:=sumL (l.map fun t=>opI (tv X t))
def pv (X:List Int) (p:PZ):Int:=PS X p.terms+OS X p.terms
def EvOk (X:List Int) (p:PZ):Prop:=Fit (PS X p.terms)∧Fit (OS X p.terms)
theorem pl_nonneg (X:List Int) (l:List TZ):∀x∈l.map (fun t=>plI (tv X t)),0≤x:=fun x hx=>by
 obtain⟨t,_,rfl⟩:=List.mem_map.1 hx;show 0≤plI (tv X t);unfold plI; split<;>omega
theorem op_nonpos (X:List Int) (l:List TZ):∀x∈l.map (fun t=>opI (tv X t)),x≤0:=fun x hx=>by
 obtain⟨t,_,rfl⟩:=List.mem_map.1 hx;show opI (tv X t)≤0;unfold opI; split<;>omega
theorem PS_take (X:List Int) (l:List TZ) (i:Nat):0≤PS X (l.take i)∧PS X (l.take i)≤PS X l:=by
 unfold PS; rw[List.map_take]; exact sumL_take_le (pl_nonneg X l) i
theorem OS_take (X:List Int) (l:List TZ) (i:Nat):OS X (l.take i)≤0∧OS X l≤OS X (l.take i):=by
 unfold OS; rw[List.map_take]; exact sumL_take_ge (op_nonpos X l) i
theorem PS_succ {X:List Int} {l:List TZ} {i:Nat} {t:TZ} (h:l[i]? = some t):PS X (l.take (i+1))=PS X (l.take i)+plI (tv X t):=by
 unfold PS; rw[List.map_take,List.map_take]; exact B5 (by rw[List.getElem?_map,h]; rfl)
theorem OS_succ {X:List Int} {l:List TZ} {i:Nat} {t:TZ} (h:l[i]? = some t):OS X (l.take (i+1))=OS X (l.take i)+opI (tv X t):=by
 unfold OS; rw[List.map_take,List.map_take]; exact B5 (by rw[List.getElem?_map,h]; rfl)
theorem fit_sum {a b:Int} (ha:Fit a) (hb:Fit b) (h0:0≤a) (h1:b≤0):Fit (a+b):=by
 by_cases h:0≤a+b
 ·exact ha.le (by omega)
 ·exact hb.le (by omega)
theorem DQ {x:Int} {σ:List (Id×Id)} (h:x=0):LeL [aB false,.v (.slice none 0 0)] (renL (renI σ) (eX x)):=by
 subst h;exact LeL.cons (AV.Le.bool rfl) (LeL.cons (by show(AV.v (.slice none 0 0)).Le (aW (toW ((0:Int).natAbs))); rw[show((Int.natAbs 0:Nat):Int)=0 from rfl,toW_zero]; exact AV.Le.nil 1 eW) LeL.nil)
theorem zval_aZ {t:TZ} (hw:WT t) (h:OkZ t.c):t.c=zOf (zval t.c):=(D3 hw h).1
theorem plI_neg {v:Int} (h:v<0):plI v=0:=if_pos h
theorem plI_pos {v:Int} (h:¬v<0):plI v=v:=if_neg h
theorem opI_neg {v:Int} (h:v<0):opI v=v:=if_pos h
theorem opI_pos {v:Int} (h:¬v<0):opI v=0:=if_neg h
end Go.AL
namespace Go.Proofs.YtmmfloplhopioaaGreat
open Go.AL
theorem Value_io (p:PZ) (X:List Int) (hw:WP p) (hp:OkP p) (hl:(X.length:Int)=p.vars) (hX:∀x∈X,Fit x) (res:Res) (hr1:EvOk X p→res = .ret (aX (pv X p))) (hr2:¬EvOk X p→res = .thr (BT 4)) :
  IoFn Tryz.prog 180 [aP p,.sl 2 eX X] [] res []:=by
 refine AH Tryz.func180 rfl Tryz.ntmps180 rfl rfl rfl ?_;have hv0:=hp.v0;have hv1:=hp.v1;have hlen:=hp.len;(repeat' first|refine qv ?_|apply qn|apply qs|apply qr|refine qe ?_|apply qb);refine AWP.loop (G:=Nat) (fun i=>i≤p.terms.length∧Fit (PS X (p.terms.take i))∧Fit (OS X (p.terms.take i))) (fun i=>AO [] [(1,.sl 2 eX X),(4,.ptr 4 0),(5,.ptr 5 0),(6,.ptr 6 0),(11,.sl 3 eT p.terms),(12,aN p.terms.length),(13,aN i)] [(4,.cells [aB false,.v (.slice none 0 0)] 48),(5,.cells (eX (PS X (p.terms.take i))) 48),(6,.cells (eX (OS X (p.terms.take i))) 48)]) (fun i=>p.terms.length-i) 0 ⟨by omega,by simp[PS,sumL,Fit.zero],by simp[OS,sumL,Fit.zero]⟩ ?_ ?_
 ·refine Ent.of [] ?_ ?_ rfl rfl;(repeat' first|exact True.intro|refine⟨⟨AA _,rfl⟩,?_⟩|refine⟨⟨⟨_,rfl,BLe.cells (AB _)⟩,rfl⟩,?_⟩|refine⟨⟨⟨_,rfl,BLe.cells ?_⟩,rfl⟩,?_⟩|fail)
  ·exact DQ (by simp[PS,sumL])
  ·exact DQ (by simp[OS,sumL])
 ·intro i ⟨k0,k1,k2⟩;have bp:=PS_take X p.terms;have bo:=OS_take X p.terms;(repeat' first|refine qv ?_|apply qn|apply qs|apply qr|refine qe ?_|(refine AD rfl ?_ ?_<;>intro _<;>try(exfalso; omega))|apply qb|apply qk|apply qx|(refine Ay rfl rfl rfl rfl rfl rfl rfl rfl (by omega) (by omega) ?_; intro _ _)|fail)
  ·rename_i hi t ht;rw[Int.toNat_natCast]at ht;have hot:=hp.terms t (List.mem_of_getElem? ht);have hwt:=hw t (List.mem_of_getElem? ht);have sp:=PS_succ (X:=X) ht;have so:=OS_succ (X:=X) ht;have hterm:=fun res hr1 hr2=>term_io t X hwt hot.coef hot.nz hot.exps (by have:=hot.len; omega) (by have:=hot.len; omega) hX res hr1 hr2;have b1:=bp (i+1);have b2:=bo (i+1);have b3:=bp i;have b4:=bo i;by_cases hf:Fit (tv X t)
   ·have hcall:=(hterm _ (fun _=>rfl) (fun h=>absurd hf h)).toPure rfl;refine qc (hcall) ?_;(repeat' first|refine qv ?_|apply qn|apply qs|apply qr|refine qe ?_|(refine AD rfl ?_ ?_<;>intro _<;>try(exfalso; omega)))
    ·rename_i hneg;rw[plI_neg hneg]at sp;rw[opI_neg hneg]at so;by_cases hs:Fit (OS X (p.terms.take (i+1)))
     ·rw[so]at hs;refine qc (xAdd_ret _ _ k2 hf hs) ?_;(repeat' first|refine qv ?_|apply qn|apply qr|refine qw ?_|refine qe ?_|fail);refine LoopEnd.of (i+1) ⟨by omega,by rw[sp,Int.add_zero]; exact k1,by rw[so]; exact hs⟩ (by omega) ?_;refine Ent.of [] ?_ ?_ rfl rfl;(repeat' first|exact True.intro|refine⟨⟨AA _,rfl⟩,?_⟩|refine⟨⟨⟨_,rfl,BLe.cells (AB _)⟩,rfl⟩,?_⟩|refine⟨⟨⟨_,rfl,BLe.cells ?_⟩,rfl⟩,?_⟩|fail)
      ·exact leX (by rw[sp,Int.add_zero])
      ·exact leX so.symm
     ·have e1:=hr2 fun h=>hs (h.2.le (by omega));subst e1;rw[so]at hs;exact A7 rfl [] (xAdd_thr _ _ k2 hf hs) rfl (AB _) rfl trivial rfl (fun h=>by cases h) (fun _=>rfl)
    ·rename_i hneg;rw[plI_pos hneg]at sp;rw[opI_pos hneg]at so;by_cases hs:Fit (PS X (p.terms.take (i+1)))
     ·rw[sp]at hs;refine qc (xAdd_ret _ _ k1 hf hs) ?_;(repeat' first|refine qv ?_|apply qn|apply qr|refine qw ?_|refine qe ?_|fail);refine LoopEnd.of (i+1) ⟨by omega,by rw[sp]; exact hs,by rw[so,Int.add_zero]; exact k2⟩ (by omega) ?_;refine Ent.of [] ?_ ?_ rfl rfl;(repeat' first|exact True.intro|refine⟨⟨AA _,rfl⟩,?_⟩|refine⟨⟨⟨_,rfl,BLe.cells (AB _)⟩,rfl⟩,?_⟩|refine⟨⟨⟨_,rfl,BLe.cells ?_⟩,rfl⟩,?_⟩|fail)
      ·exact leX sp.symm
      ·exact leX (by rw[so,Int.add_zero])
     ·have e1:=hr2 fun h=>hs (h.1.le (by omega));subst e1;rw[sp]at hs;exact A7 rfl [] (xAdd_thr _ _ k1 hf hs) rfl (AB _) rfl trivial rfl (fun h=>by cases h) (fun _=>rfl)
   ·have e1:=hr2 fun h=>hf (by
     by_cases hneg:tv X t<0
     ·rw[opI_neg hneg]at so;exact h.2.le (by omega)
     ·rw[plI_pos hneg]at sp
      exact h.1.le (by omega))
    subst e1;exact A7 rfl [] (hterm _ (fun h=>absurd h hf) (fun _=>rfl)) rfl (AB _) rfl trivial rfl (fun h=>by cases h) (fun _=>rfl)
  ·rename_i hi;have ht:p.terms.take i=p.terms:=List.take_of_length_le (by omega);rw[ht]at k1 k2;have e1:=hr1 ⟨k1,k2⟩;subst e1;have b1:=bp p.terms.length;have b2:=bo p.terms.length;rw[List.take_length]at b1 b2;have hq:=xAdd_ret _ _ k1 k2 (fit_sum k1 k2 b1.1 b2.1);rw[←ht]at hq;refine qc (hq) ?_;(repeat' first|apply qn|refine qe ?_|apply qt);exact⟨⟨[],_,_,AM _ _ _,rfl,AV.Le.agg (leX (by rw[ht]; rfl)),rfl,trivial,rfl,rfl⟩⟩
end Go.Proofs.YtmmfloplhopioaaGreat
namespace Go.AL
def pdeg (p:PZ):Int:=
  match p.terms with
  | [] => -1
  | t::_=>sumL t.e
end Go.AL
namespace Go.Proofs.YtmmfloplhopioaaGreat
open Go.AL
abbrev evB (p:PZ) (X:List Int) (o:List AV):List (AL.Id×Bx):=[(900,.cells (eP p) 105),(901,.cells [.sl 2 eX X] 33),(902,.cells o 48)]
theorem Eval1_ret (p:PZ) (X:List Int) (hw:WP p) (hp:OkP p) (hl:(X.length:Int)=p.vars) (hX:∀x∈X,Fit x) (he:EvOk X p) :
  IoFn Tryz.prog 179 [.ptr 900 0,.ptr 901 0,.ptr 902 0] (evB p X [aB false,.v (.slice none 0 0)]) (.ret (.tup [])) (evB p X (eX (pv X p))):=by
 refine AH Tryz.func179 rfl Tryz.ntmps179 rfl rfl rfl ?_;have h:=(Value_io p X hw hp hl hX _ (fun _=>rfl) (fun h=>absurd he h)).toPure rfl;(repeat' first|refine qv ?_|apply qr);refine qc (h) ?_;(repeat' first|apply qn|refine qe ?_|fail);exact⟨⟨[],_,_,AM _ _ _,rfl,AA _,rfl,⟨⟨⟨_,rfl,BLe.cells (AB _)⟩,rfl⟩,⟨⟨_,rfl,BLe.cells (AB _)⟩,rfl⟩,⟨⟨_,rfl,BLe.cells (AB _)⟩,rfl⟩,trivial⟩,rfl,rfl⟩⟩
theorem Eval1_thr (p:PZ) (X:List Int) (hw:WP p) (hp:OkP p) (hl:(X.length:Int)=p.vars) (hX:∀x∈X,Fit x) (he:¬EvOk X p) :
  IoFn Tryz.prog 179 [.ptr 900 0,.ptr 901 0,.ptr 902 0] (evB p X [aB false,.v (.slice none 0 0)]) (.thr (BT 4)) (evB p X [aB false,.v (.slice none 0 0)]):=by
 refine AH Tryz.func179 rfl Tryz.ntmps179 rfl rfl rfl ?_;have h:=Value_io p X hw hp hl hX _ (fun h=>absurd h he) (fun _=>rfl);(repeat' first|refine qv ?_|apply qr);exact A7 rfl [] h rfl (AB _) rfl trivial rfl (fun h=>by cases h) (fun _=>rfl)
theorem xValidX_ok (X:List Int) (hX:∀x∈X,Fit x) (hl:X.length≤1000000000):PureFn Tryz.prog 177 [.sl 2 eX X] (aB true):=by
 refine(xValid_ok (X.map zOf) (fun z hz=>?_) (by rw[List.length_map]; omega)).le (LeL.cons (DK (enc:=eZ) (f:=zOf)) LeL.nil) (AV.Le.bool (decide_eq_true fun z hz=>?_))
 ·obtain⟨x,_,rfl⟩:=List.mem_map.1 hz; exact Ag _
 ·obtain⟨x,hx,rfl⟩:=List.mem_map.1 hz; exact Di (hX x hx)
theorem Eval_ok (p:PZ) (X:List Int) (hw:WP p) (hp:OkP p) (hl:(X.length:Int)=p.vars) (hX:∀x∈X,Fit x) (r:AV) (hr1:EvOk X p→r = .tup [aX (pv X p),aN 0]) (hr2:¬EvOk X p→r = .tup [aX 0,aN 4]) :
  PureFn Tryz.prog 136 [aP p,.sl 2 eX X] r:=by
 refine AC Tryz.func136 rfl Tryz.ntmps136 rfl rfl ?_;have hv:=CZ p hw true ⟨fun _=>hp,fun _=>rfl⟩;have hxv:=xValidX_ok X hX (by have:=hp.v1; omega);(repeat' first|refine qv ?_|apply qn|apply qs|apply qr|refine qe ?_|fail);refine qc (hv) ?_;(repeat' first|refine qv ?_|fail);refine qc (hxv) ?_;(repeat' first|refine qv ?_|apply qn|apply qs|apply qr|refine qe ?_|refine AF rfl ?_|(refine AQ rfl ?_ ?_<;>intro _<;>try(exfalso; omega))|apply qk);by_cases he:EvOk X p
 ·rw[hr1 he];refine A9 rfl [(900,2),(901,3),(902,6)] (Try_ret (Eval1_ret p X hw hp hl hX he)) rfl rfl (AB _) rfl ⟨⟨⟨_,rfl,BLe.cells (AB _)⟩,rfl⟩,⟨⟨_,rfl,BLe.cells (AB _)⟩,rfl⟩,⟨⟨_,rfl,BLe.cells (AB _)⟩,rfl⟩,trivial⟩ rfl rfl rfl rfl rfl ?_;(repeat' first|refine qv ?_|apply qn|apply qs|apply qr|refine qe ?_|refine AF rfl ?_|apply qk|apply qt);exact RetOk.of rfl (AA _)
 ·rw[hr2 he];refine A9 rfl [(900,2),(901,3),(902,6)] (Try_thr (Eval1_thr p X hw hp hl hX he)) rfl rfl (AB _) rfl ⟨⟨⟨_,rfl,BLe.cells (AB _)⟩,rfl⟩,⟨⟨_,rfl,BLe.cells (AB _)⟩,rfl⟩,⟨⟨_,rfl,BLe.cells (AB _)⟩,rfl⟩,trivial⟩ rfl rfl rfl rfl rfl ?_;(repeat' first|refine qv ?_|apply qn|apply qs|apply qr|refine qe ?_|refine AJ rfl ?_|apply qt);exact RetOk.of rfl (AV.Le.tup (LeL.cons Dm (AB _)))
end Go.Proofs.YtmmfloplhopioaaGreat
namespace Go.AL
theorem fit_one:Fit 1:=B8 (by omega) (by omega)
def cV (e x:Int):Int:=if e=0∧Fit x then x else 0
def cE (e x:Int):Int:=if e=0 then szErr x else e
theorem cV_fit (e x:Int):Fit (cV e x):=by
 unfold cV;split
 ·rename_i h; exact h.2
 ·exact Fit.zero
theorem cV_ok {x:Int} (h:Fit x):cV 0 x=x:=if_pos ⟨rfl,h⟩
theorem cE_ok {x:Int} (h:Fit x):cE 0 x=0:=by unfold cE; rw[if_pos rfl,szErr_fit h]
theorem cE_not {x:Int} (h:¬Fit x):cE 0 x=4:=by unfold cE; rw[if_pos rfl,Dp h]
theorem cV_err {e x:Int} (h:e≠0):cV e x=0:=if_neg fun k=>h k.1
theorem cV_not {e x:Int} (h:¬Fit x):cV e x=0:=if_neg fun k=>h k.2
theorem cE_err {e x:Int} (h:e≠0):cE e x=e:=if_neg h
def mulL (e out:Int):List Int→Int×Int
  | []=>(out,e)
  | a::l=>mulL (cE e (out*a)) (cV e (out*a)) l
end Go.AL
namespace Go.Proofs.YtmmfloplhopioaaGreat
open Go.AL
abbrev chB (o:Option Int) (e:Int):Bx:=
  match o with
  | none => .cells [.v (.int .i64 e)] 243
  | some a => .cells [.v (.int .i64 e),aB (decide (a<0)),aW (toW a.natAbs),.fn 233 []] 245
theorem keep_ok (o:Option Int) (e x:Int):IoFn Tryz.prog 236 [.ptr 900 0,aX (clip x),aN (szErr x)] [(900,chB o e)] (.ret (aX (cV e x))) [(900,chB o (cE e x))]:=by
 cases o
 all_goals
  refine AH Tryz.func236 rfl Tryz.ntmps236 rfl rfl rfl ?_;(repeat' first|refine qv ?_|apply qn|apply qs|apply qr|refine qe ?_|(refine AD rfl ?_ ?_<;>intro _<;>try(exfalso; omega))|(refine AQ rfl ?_ ?_<;>intro _<;>try(exfalso; omega))|apply qk|apply qt)
  ·rename_i h0 h1;subst h0;have hf:¬Fit x:=fun h=>h1 (szErr_eq.2 h);exact⟨⟨[],_,_,AM _ _ _,rfl,AV.Le.agg (DQ (cV_not hf)),rfl,⟨⟨⟨_,rfl,BLe.cells (LeL.cons (AV.Le.int (by unfold cE; rw[if_pos rfl])) (AB _))⟩,rfl⟩,trivial⟩,rfl,rfl⟩⟩
  ·rename_i h0 h1;subst h0;have hf:=szErr_eq.1 h1;exact⟨⟨[],_,_,AM _ _ _,rfl,AV.Le.agg (leX (by rw[cV_ok hf,Ci hf])),rfl,⟨⟨⟨_,rfl,BLe.cells (LeL.cons (AV.Le.int (by unfold cE; rw[if_pos rfl])) (AB _))⟩,rfl⟩,trivial⟩,rfl,rfl⟩⟩
  ·rename_i h0 h1;exact⟨⟨[],_,_,AM _ _ _,rfl,AV.Le.agg (DQ (cV_err h0)),rfl,⟨⟨⟨_,rfl,BLe.cells (LeL.cons (AV.Le.int ((cE_err h0).symm)) (AB _))⟩,rfl⟩,trivial⟩,rfl,rfl⟩⟩
theorem chAdd_ok (o:Option Int) (e x y:Int) (hx:Fit x) (hy:Fit y):IoFn Tryz.prog 227 [.ptr 900 0,aX x,aX y] [(900,chB o e)] (.ret (aX (cV e (x+y)))) [(900,chB o (cE e (x+y)))]:=by
 have hk:=keep_ok o e (x+y)
 cases o
 all_goals
  refine AH Tryz.func227 rfl Tryz.ntmps227 rfl rfl rfl ?_;(repeat' first|refine qv ?_|apply qn|apply qs|apply qr|refine qe ?_|fail);refine qc (Add_ok x y hx hy) ?_;(repeat' first|refine qv ?_|fail);refine qi [] hk ?_;(repeat' first|apply qn|refine qe ?_|apply qt);exact⟨⟨[],_,_,AM _ _ _,rfl,AA _,rfl,⟨⟨⟨_,rfl,BLe.cells (AB _)⟩,rfl⟩,trivial⟩,rfl,rfl⟩⟩
theorem chSub_ok (o:Option Int) (e x y:Int) (hx:Fit x) (hy:Fit y):IoFn Tryz.prog 234 [.ptr 900 0,aX x,aX y] [(900,chB o e)] (.ret (aX (cV e (x-y)))) [(900,chB o (cE e (x-y)))]:=by
 have hk:=keep_ok o e (x-y)
 cases o
 all_goals
  refine AH Tryz.func234 rfl Tryz.ntmps234 rfl rfl rfl ?_;(repeat' first|refine qv ?_|apply qn|apply qs|apply qr|refine qe ?_|fail);refine qc (Sub_ok x y hx hy) ?_;(repeat' first|refine qv ?_|fail);refine qi [] hk ?_;(repeat' first|apply qn|refine qe ?_|apply qt);exact⟨⟨[],_,_,AM _ _ _,rfl,AA _,rfl,⟨⟨⟨_,rfl,BLe.cells (AB _)⟩,rfl⟩,trivial⟩,rfl,rfl⟩⟩
theorem Ek (o:Option Int) (e:Int) (l:List Int) (hl:∀x∈l,Fit x) (hn:l.length≤1000):IoFn Tryz.prog 228 [.ptr 900 0,.sl 2 eX l] [(900,chB o e)] (.ret (aX (mulL e 1 l).1)) [(900,chB o (mulL e 1 l).2)]:=by
 have hk:=keep_ok o
 cases o with
 | none=>
  refine AH Tryz.func228 rfl Tryz.ntmps228 rfl rfl rfl ?_;(repeat' first|apply qn|apply qs|apply qr|refine qe ?_|fail);refine qc (Ct 1 (by omega) (by omega)) ?_;(repeat' first|refine qv ?_|apply qn|apply qs|apply qr|refine qe ?_|apply qb);refine AWP.loop (G:=Nat×Int×Int) (fun g=>g.1≤l.length∧Fit g.2.1∧mulL g.2.2 g.2.1 (l.drop g.1)=mulL e 1 l) (fun g=>AO [900] [(0,.ptr 900 0),(4,.ptr 4 0),(5,.ptr 5 0),(9,.sl 2 eX l),(10,aN l.length),(11,aN g.1)] [(4,.cells [aB false,.v (.slice none 0 0)] 48),(5,.cells (eX g.2.1) 48),(900,chB none g.2.2)]) (fun g=>l.length-g.1) (0,1,e) ⟨by omega,fit_one,rfl⟩ ?_ ?_
  ·refine Ent.of [] ?_ ?_ rfl rfl;(repeat' first|exact True.intro|refine⟨⟨AA _,rfl⟩,?_⟩|refine⟨⟨⟨_,rfl,BLe.cells (AB _)⟩,rfl⟩,?_⟩|fail)
  ·intro⟨i,out,e'⟩ ⟨k0,k1,k2⟩;(repeat' first|refine qv ?_|apply qn|apply qs|apply qr|refine qe ?_|(refine AD rfl ?_ ?_<;>intro _<;>try(exfalso; omega))|apply qb|apply qk|apply qx|apply qt|(refine Ay rfl rfl rfl rfl rfl rfl rfl rfl (by omega) (by omega) ?_; intro _ _)|fail)
   ·rename_i hi a ha;rw[Int.toNat_natCast]at ha;have hk:=hk e' (out*a);refine qc (Mul_ok out a k1 (hl a (List.mem_of_getElem? ha))) ?_;(repeat' first|refine qv ?_|fail);refine qi [] hk ?_;(repeat' first|refine qv ?_|apply qn|apply qr|refine qw ?_|refine qe ?_|fail);refine LoopEnd.of (i+1,cV e' (out*a),cE e' (out*a)) ⟨by omega,cV_fit _ _,?_⟩ (by dsimp only; omega) ?_
    ·rw[←k2];dsimp only;rw[List.drop_eq_getElem_cons (show i<l.length by omega),(List.getElem?_eq_some_iff.1 ha).2];rfl
    ·refine Ent.of [] ?_ ?_ rfl rfl;(repeat' first|exact True.intro|refine⟨⟨AA _,rfl⟩,?_⟩|refine⟨⟨⟨_,rfl,BLe.cells (AB _)⟩,rfl⟩,?_⟩|fail)
   ·rename_i hi;have hd:l.drop i=[]:=List.drop_of_length_le (by omega);rw[hd]at k2;have k2:(out,e')=mulL e 1 l:=k2;rw[←k2];exact⟨⟨[],_,_,AM _ _ _,rfl,AA _,rfl,⟨⟨⟨_,rfl,BLe.cells (AB _)⟩,rfl⟩,trivial⟩,rfl,rfl⟩⟩
 | some av=>
  refine AH Tryz.func228 rfl Tryz.ntmps228 rfl rfl rfl ?_;(repeat' first|apply qn|apply qs|apply qr|refine qe ?_|fail);refine qc (Ct 1 (by omega) (by omega)) ?_;(repeat' first|refine qv ?_|apply qn|apply qs|apply qr|refine qe ?_|apply qb);refine AWP.loop (G:=Nat×Int×Int) (fun g=>g.1≤l.length∧Fit g.2.1∧mulL g.2.2 g.2.1 (l.drop g.1)=mulL e 1 l) (fun g=>AO [900] [(0,.ptr 900 0),(4,.ptr 4 0),(5,.ptr 5 0),(9,.sl 2 eX l),(10,aN l.length),(11,aN g.1)] [(4,.cells [aB false,.v (.slice none 0 0)] 48),(5,.cells (eX g.2.1) 48),(900,chB (some av) g.2.2)]) (fun g=>l.length-g.1) (0,1,e) ⟨by omega,fit_one,rfl⟩ ?_ ?_
  ·refine Ent.of [] ?_ ?_ rfl rfl;(repeat' first|exact True.intro|refine⟨⟨AA _,rfl⟩,?_⟩|refine⟨⟨⟨_,rfl,BLe.cells (AB _)⟩,rfl⟩,?_⟩|fail)
  ·intro⟨i,out,e'⟩ ⟨k0,k1,k2⟩;(repeat' first|refine qv ?_|apply qn|apply qs|apply qr|refine qe ?_|(refine AD rfl ?_ ?_<;>intro _<;>try(exfalso; omega))|apply qb|apply qk|apply qx|apply qt|(refine Ay rfl rfl rfl rfl rfl rfl rfl rfl (by omega) (by omega) ?_; intro _ _)|fail)
   ·rename_i hi a ha;rw[Int.toNat_natCast]at ha;have hk:=hk e' (out*a);refine qc (Mul_ok out a k1 (hl a (List.mem_of_getElem? ha))) ?_;(repeat' first|refine qv ?_|fail);refine qi [] hk ?_;(repeat' first|refine qv ?_|apply qn|apply qr|refine qw ?_|refine qe ?_|fail);refine LoopEnd.of (i+1,cV e' (out*a),cE e' (out*a)) ⟨by omega,cV_fit _ _,?_⟩ (by dsimp only; omega) ?_
    ·rw[←k2];dsimp only;rw[List.drop_eq_getElem_cons (show i<l.length by omega),(List.getElem?_eq_some_iff.1 ha).2];rfl
    ·refine Ent.of [] ?_ ?_ rfl rfl;(repeat' first|exact True.intro|refine⟨⟨AA _,rfl⟩,?_⟩|refine⟨⟨⟨_,rfl,BLe.cells (AB _)⟩,rfl⟩,?_⟩|fail)
   ·rename_i hi;have hd:l.drop i=[]:=List.drop_of_length_le (by omega);rw[hd]at k2;have k2:(out,e')=mulL e 1 l:=k2;rw[←k2];exact⟨⟨[],_,_,AM _ _ _,rfl,AA _,rfl,⟨⟨⟨_,rfl,BLe.cells (AB _)⟩,rfl⟩,trivial⟩,rfl,rfl⟩⟩
end Go.Proofs.YtmmfloplhopioaaGreat
namespace Go.AL
theorem cmpI_zero {x y:Int}:cmpI x y=0↔x=y:=by
 unfold cmpI;split
 ·simp; omega
 ·split<;>simp<;>omega
end Go.AL
namespace Go.Proofs.YtmmfloplhopioaaGreat
open Go.AL
theorem chValid_ok (zs:List Z) (hz:∀z∈zs,WOk z.w) (hl:zs.length≤1000000000):PureFn Tryz.prog 49 [.sl 2 eZ zs] (aB (decide (∀z∈zs,OkZ z))):=by
 refine AC Tryz.func49 rfl Tryz.ntmps49 rfl rfl ?_;(repeat' first|refine qv ?_|apply qn|apply qs|apply qr|apply qb);refine AWP.loop (G:=Nat) (fun i=>i≤zs.length∧∀z∈zs.take i,OkZ z) (fun i=>AO [] [(5,.sl 2 eZ zs),(6,aN zs.length),(7,aN i)] []) (fun i=>zs.length-i) 0 ⟨by omega,by simp⟩ ?_ ?_
 ·refine Ent.of [] ?_ ?_ rfl rfl;(repeat' first|exact True.intro|refine⟨⟨AA _,rfl⟩,?_⟩|fail)
 ·intro i ⟨h0,h1⟩;(repeat' first|refine qv ?_|apply qn|apply qs|apply qr|refine qe ?_|(refine AD rfl ?_ ?_<;>intro _<;>try(exfalso; omega))|apply qb|apply qk|apply qx|apply qt|(refine Ay rfl rfl rfl rfl rfl rfl rfl rfl (by omega) (by omega) ?_; intro _ _)|fail)
  ·rename_i hi z hzi;rw[Int.toNat_natCast]at hzi;refine qc (Valid_ok z (hz z (List.mem_of_getElem? hzi))) ?_;(repeat' first|refine qv ?_|apply qn|apply qs|apply qr|refine qw ?_|(refine AQ rfl ?_ ?_<;>intro _<;>try(exfalso; omega))|apply qk|apply qt)
   ·rename_i h2;refine RetOk.of rfl (AV.Le.bool (Eq.symm (decide_eq_false fun h=>h2 (h z (List.mem_of_getElem? hzi)))))
   ·rename_i h2;refine LoopEnd.of (i+1) ⟨by omega,A3 hzi h1 h2⟩ (by omega) ?_;refine Ent.of [] ?_ ?_ rfl rfl;(repeat' first|exact True.intro|refine⟨⟨AA _,rfl⟩,?_⟩|fail)
  ·refine RetOk.of rfl (AV.Le.bool (Eq.symm (decide_eq_true ?_)));rwa [show i=zs.length by omega,List.take_length]at h1
theorem Cr (X:List Int) (hX:∀x∈X,Fit x) (hl:X.length≤1000000000):PureFn Tryz.prog 49 [.sl 2 eX X] (aB true):=by
 refine(chValid_ok (X.map zOf) (fun z hz=>?_) (by rw[List.length_map]; omega)).le (LeL.cons (DK (enc:=eZ) (f:=zOf)) LeL.nil) (AV.Le.bool (decide_eq_true fun z hz=>?_))
 ·obtain⟨x,_,rfl⟩:=List.mem_map.1 hz; exact Ag _
 ·obtain⟨x,hx,rfl⟩:=List.mem_map.1 hz; exact Di (hX x hx)
theorem Dl (X:List Int) (hl:X.length≤1000000000):PureFn Tryz.prog 50 [.sl 2 eX X] (aB (decide (∀x∈X,0≤x))):=by
 refine AC Tryz.func50 rfl Tryz.ntmps50 rfl rfl ?_;(repeat' first|refine qv ?_|apply qn|apply qs|apply qr|apply qb);refine AWP.loop (G:=Nat) (fun i=>i≤X.length∧∀z∈X.take i,0≤z) (fun i=>AO [] [(5,.sl 2 eX X),(6,aN X.length),(7,aN i)] []) (fun i=>X.length-i) 0 ⟨by omega,by simp⟩ ?_ ?_
 ·refine Ent.of [] ?_ ?_ rfl rfl;(repeat' first|exact True.intro|refine⟨⟨AA _,rfl⟩,?_⟩|fail)
 ·intro i ⟨h0,h1⟩;(repeat' first|refine qv ?_|apply qn|apply qs|apply qr|refine qw ?_|refine qe ?_|(refine AD rfl ?_ ?_<;>intro _<;>try(exfalso; omega))|apply qb|apply qk|apply qx|apply qt|(refine Ay rfl rfl rfl rfl rfl rfl rfl rfl (by omega) (by omega) ?_; intro _ _)|fail)
  ·rename_i hi z hzi h2;rw[Int.toNat_natCast]at hzi;refine RetOk.of rfl (AV.Le.bool (Eq.symm (decide_eq_false fun h=>?_)));have:=h z (List.mem_of_getElem? hzi);omega
  ·rename_i hi z hzi h2;rw[Int.toNat_natCast]at hzi;refine LoopEnd.of (i+1) ⟨by omega,A3 hzi h1 (by omega)⟩ (by omega) ?_;refine Ent.of [] ?_ ?_ rfl rfl;(repeat' first|exact True.intro|refine⟨⟨AA _,rfl⟩,?_⟩|fail)
  ·refine RetOk.of rfl (AV.Le.bool (Eq.symm (decide_eq_true ?_)));rwa [show i=X.length by omega,List.take_length]at h1
theorem Less_ok (x y:Int) (hx:Fit x) (hy:Fit y):PureFn Tryz.prog 181 [aX x,aX y] (aB (decide (x<y))):=by
 refine AC Tryz.func181 rfl Tryz.ntmps181 rfl rfl ?_;(repeat' first|refine qv ?_|apply qn|apply qs|apply qr|refine qe ?_|fail);refine qc (Cmp_ok x y hx hy) ?_;(repeat' first|refine qv ?_|apply qn|apply qs|apply qr|apply qt);refine RetOk.of rfl (AV.Le.bool ?_);rw[decide_eq_decide];unfold cmpI;split
 ·simp; omega
 ·split<;>simp<;>omega
theorem Same_ok (x y:Int) (hx:Fit x) (hy:Fit y):PureFn Tryz.prog 183 [aX x,aX y] (aB (decide (x=y))):=by
 refine AC Tryz.func183 rfl Tryz.ntmps183 rfl rfl ?_;(repeat' first|refine qv ?_|apply qn|apply qs|apply qr|refine qe ?_|fail);refine qc (Cmp_ok x y hx hy) ?_;(repeat' first|refine qv ?_|apply qn|apply qs|apply qr|refine Fl.skip rfl rfl ?_|apply qt|(refine AG rfl rfl ?_ ?_<;>intro _<;>try(exfalso; omega)))
 ·rename_i h;refine RetOk.of rfl (AV.Le.bool ?_);simp[cmpI_zero.1 h]
 ·rename_i h;refine RetOk.of rfl (AV.Le.bool (Eq.symm (decide_eq_false fun k=>h (cmpI_zero.2 k))))
end Go.Proofs.YtmmfloplhopioaaGreat
/- The sequences chi and psi. -/
namespace Go.AL
def cp (a:Int):Nat→Int×Int
  | 0=>(1,0)
  | n+1=>(a*(cp a n).1+(a*a-1)*(cp a n).2,(cp a n).1+a*(cp a n).2)
def chiN (a:Int) (n:Nat):Int:=(cp a n).1
def psiN (a:Int) (n:Nat):Int:=(cp a n).2
theorem D8 (a:Int):chiN a 0=1:=rfl
theorem DM (a:Int):psiN a 0=0:=rfl
theorem Ej (a:Int) (n:Nat):chiN a (n+1)=a*chiN a n+(a*a-1)*psiN a n:=rfl
theorem CM (a:Int) (n:Nat):psiN a (n+1)=chiN a n+a*psiN a n:=rfl
theorem cp_add (a:Int) (m:Nat):∀n,chiN a (m+n)=chiN a m*chiN a n+(a*a-1)*(psiN a m*psiN a n)∧psiN a (m+n)=chiN a m*psiN a n+psiN a m*chiN a n
 | 0=>by simp[D8,DM]
 | n+1=>by
  obtain⟨h1,h2⟩:=cp_add a m n;rw[show m+(n+1)=m+n+1 by omega];simp only[Ej,CM,h1,h2];constructor<;>grind
theorem pell (a:Int):∀n,chiN a n*chiN a n-(a*a-1)*(psiN a n*psiN a n)=1
 | 0=>by simp[D8,DM]
 | n+1=>by
  have:=pell a n;simp only[Ej,CM];grind
theorem chi_dbl (a:Int) (n:Nat):chiN a (2*n)=2*chiN a n*chiN a n-1:=by
 have h1:=(cp_add a n n).1;have h2:=pell a n;rw[show 2*n=n+n by omega,h1];grind
theorem psi_dbl (a:Int) (n:Nat):psiN a (2*n)=2*chiN a n*psiN a n:=by
 have h1:=(cp_add a n n).2;rw[show 2*n=n+n by omega,h1];grind
theorem Dd {a:Int} (ha:2≤a):∀n,1≤chiN a n∧0≤psiN a n∧psiN a n≤chiN a n
 | 0=>by simp[D8,DM]
 | n+1=>by
  obtain⟨h1,h2,h3⟩:=Dd ha n;rw[Ej,CM];have e1:2*chiN a n≤a*chiN a n:=Int.mul_le_mul_of_nonneg_right ha (by omega);have e2:a*psiN a n≤(a*a-1)*psiN a n:=Int.mul_le_mul_of_nonneg_right (by have:2*a≤a*a:=Int.mul_le_mul_of_nonneg_right ha (by omega); omega) h2;have e3:0≤a*psiN a n:=Int.mul_nonneg (by omega) h2;omega
theorem chi_step {a:Int} (ha:2≤a) (n:Nat):chiN a n≤chiN a (n+1)∧a*chiN a n≤chiN a (n+1)∧a*(a*psiN a n)≤chiN a (n+1)∧a*psiN a n≤chiN a (n+1)∧a≤chiN a (n+1):=by
 obtain⟨h1,h2,h3⟩:=Dd ha n;rw[Ej];have e1:2*chiN a n≤a*chiN a n:=Int.mul_le_mul_of_nonneg_right ha (by omega);have e2:2*psiN a n≤a*psiN a n:=Int.mul_le_mul_of_nonneg_right ha h2;have e3:2*(a*psiN a n)≤a*(a*psiN a n):=Int.mul_le_mul_of_nonneg_right ha (by omega)
 have e4:(a*a-1)*psiN a n=a*(a*psiN a n)-psiN a n:=by grind
 have e5:a*1≤a*chiN a n:=Int.mul_le_mul_of_nonneg_left h1 (by omega);omega
theorem chi_mono {a:Int} (ha:2≤a) {m n:Nat} (h:m≤n):chiN a m≤chiN a n:=by
 induction n with
 | zero=>rw[show m=0 by omega]; omega
 | succ n ih=>
  by_cases hm:m=n+1
  ·rw[hm]; omega
  ·have:=ih (by omega); have:=(chi_step ha n).1; omega
theorem psi_step {a:Int} (ha:2≤a) (n:Nat):psiN a n≤psiN a (n+1)∧chiN a n≤psiN a (n+1)∧a*psiN a n≤psiN a (n+1):=by
 obtain⟨h1,h2,h3⟩:=Dd ha n;rw[CM];have e2:2*psiN a n≤a*psiN a n:=Int.mul_le_mul_of_nonneg_right ha h2;omega
theorem psi_mono {a:Int} (ha:2≤a) {m n:Nat} (h:m≤n):psiN a m≤psiN a n:=by
 induction n with
 | zero=>rw[show m=0 by omega]; omega
 | succ n ih=>
  by_cases hm:m=n+1
  ·rw[hm]; omega
  ·have:=ih (by omega); have:=(psi_step ha n).1; omega
theorem psi_pos {a:Int} (ha:2≤a) {n:Nat} (h:1≤n):1≤psiN a n:=by
 have:=psi_mono ha h
 have:psiN a 1=1:=by rw[CM,D8,DM]; omega
 omega
theorem psi_big {a:Int} (ha:2≤a):∀n:Nat,(2:Int)^n≤psiN a (n+1)
 | 0=>by rw[CM,D8,DM]; omega
 | n+1=>by
  have h1:=psi_big ha n;have h2:=(psi_step ha (n+1)).2.2;have h3:2*psiN a (n+1)≤a*psiN a (n+1):=Int.mul_le_mul_of_nonneg_right ha (Dd ha (n+1)).2.1;rw[Int.pow_succ]; omega
theorem pow_le_r {x:Int} (hx:1≤x) {m n:Nat} (h:m≤n):x^m≤x^n:=by
 induction n with
 | zero=>rw[show m=0 by omega]; omega
 | succ n ih=>
  by_cases hm:m=n+1
  ·rw[hm]; omega
  ·have h1:=ih (by omega);have h2:x^n*1≤x^n*x:=Int.mul_le_mul_of_nonneg_left hx (Int.pow_nonneg (by omega));rw[Int.pow_succ]; omega
theorem pow_le_l {x y:Int} (hx:0≤x) (h:x≤y):∀n:Nat,x^n≤y^n
 | 0=>by simp
 | n+1=>by
  rw[Int.pow_succ,Int.pow_succ];exact Int.mul_le_mul (pow_le_l hx h n) h hx (Int.pow_nonneg (by omega))
theorem BB_pow (n:Nat):BB n=2^(32*n):=by
 unfold BB;rw[Int.pow_mul]; rfl
theorem psi_not_fit {a:Int} (ha:2≤a) {n:Nat} (h:131072<n):¬Fit (psiN a n):=by
 intro hf;have h1:=psi_big ha (n-1);rw[show n-1+1=n by omega]at h1;have h2:=hf.lt;rw[BB_pow]at h2;have h3:(2:Int)^(32*4096)≤2^(n-1):=pow_le_r (by omega) (by omega);omega
theorem pow_not_fit {x:Int} (hx:2≤x) {n:Nat} (h:131072≤n):¬Fit (x^n):=by
 intro hf;have h2:=hf.lt;rw[BB_pow]at h2;have h3:(2:Int)^(32*4096)≤2^n:=pow_le_r (by omega) (by omega);have h4:(2:Int)^n≤x^n:=pow_le_l (by omega) hx n;omega
/-! Chains. -/
theorem Cv:∀(x:Int) (l:List Int) (o:Int),mulL 4 o (x::l)=(0,4)
 | x,[],o=>by simp only[mulL,cE_err (show(4:Int)≠0 by omega),cV_err (show(4:Int)≠0 by omega)]
 | x,y::l,o=>by
  rw[mulL,cE_err (show(4:Int)≠0 by omega)];exact Cv y l _
theorem DP:∀(l:List Int) (e o:Int),Fit o→Fit (mulL e o l).1
 | [],e,o,h=>h
 | x::l,e,o,h=>by rw[mulL]; exact DP l _ _ (cV_fit _ _)
theorem mulL_ok {o x:Int} {l:List Int} (h:Fit (o*x)):mulL 0 o (x::l)=mulL 0 (o*x) l:=by rw[mulL,cE_ok h,cV_ok h]
theorem mulL_not1 {o x:Int} (h:¬Fit (o*x)):∀ {l:List Int},mulL 0 o (x::l)=(0,4)
 | []=>by rw[mulL,cE_not h,cV_not h]; rfl
 | y::l=>by rw[mulL,cE_not h]; exact Cv y l _
theorem mul2 {x y:Int} (hx:Fit x):mulL 0 1 [x,y]=if Fit (x*y)then(x*y,0)else(0,4):=by
 rw[mulL_ok (by rwa [Int.one_mul]),Int.one_mul];split
 ·rename_i h; rw[mulL_ok h]; rfl
 ·rename_i h; rw[mulL_not1 h]
theorem mul3 {x y z:Int} (hx:Fit x) (hy:Fit (x*y)):mulL 0 1 [x,y,z]=if Fit (x*y*z)then(x*y*z,0)else(0,4):=by
 rw[mulL_ok (by rwa [Int.one_mul]),Int.one_mul,mulL_ok hy];split
 ·rename_i h; rw[mulL_ok h]; rfl
 ·rename_i h; rw[mulL_not1 h]
theorem mul3_not {x y z:Int} (hx:Fit x) (hy:¬Fit (x*y)):mulL 0 1 [x,y,z]=(0,4):=by
 rw[mulL_ok (by rwa [Int.one_mul]),Int.one_mul,mulL_not1 hy]
def CS (F:Prop) (r:Int×Int) (w:Int):Prop:=(r=(w,0)∧Fit w)∨(r.2=4∧¬F)
theorem CS.mul2 {F:Prop} {x y:Int} (hx:Fit x) (h:F→Fit (x*y)):CS F (mulL 0 1 [x,y]) (x*y):=by
 rw[Go.AL.mul2 hx];split
 ·rename_i k; exact .inl ⟨rfl,k⟩
 ·rename_i k; exact .inr ⟨rfl,fun f=>k (h f)⟩
theorem CS.mul3 {F:Prop} {x y z:Int} (hx:Fit x) (h1:F→Fit (x*y)) (h:F→Fit (x*y*z)):CS F (mulL 0 1 [x,y,z]) (x*y*z):=by
 by_cases hy:Fit (x*y)
 ·rw[Go.AL.mul3 hx hy];split
  ·rename_i k; exact .inl ⟨rfl,k⟩
  ·rename_i k; exact .inr ⟨rfl,fun f=>k (h f)⟩
 ·rw[mul3_not hx hy]; exact .inr ⟨rfl,fun f=>hy (h1 f)⟩
theorem CS.one {F:Prop} {x:Int} (h:F→Fit x):CS F (cV 0 x,cE 0 x) x:=by
 by_cases hx:Fit x
 ·rw[cV_ok hx,cE_ok hx]; exact .inl ⟨rfl,hx⟩
 ·rw[cE_not hx]; exact .inr ⟨rfl,fun f=>hx (h f)⟩
def chF (a e c p:Int):Int×Int:=
  let r1:=mulL e 1 [a,p]
  let r2:=mulL r1.2 1 [a,r1.1]
  let up:=cV r2.2 (r2.1-p)
  let e3:=cE r2.2 (r2.1-p)
  let r4:=mulL e3 1 [a,c]
  (cV r4.2 (r4.1+up),cE r4.2 (r4.1+up))
def psF (a e c p:Int):Int×Int:=
  let r1:=mulL e 1 [a,p]
  (cV r1.2 (c+r1.1),cE r1.2 (c+r1.1))
theorem cE4 (x:Int):cE 4 x=4:=cE_err (by omega)
theorem chF_err (a c p:Int):(chF a 4 c p).2=4:=by simp only[chF,Cv,cE4]
theorem psF_err (a c p:Int):(psF a 4 c p).2=4:=by simp only[psF,Cv,cE4]
theorem chF_ok {F:Prop} {a c p:Int} (ha:Fit a) (h1:F→Fit (a*p)) (h2:F→Fit (a*(a*p))) (h3:F→Fit (a*(a*p)-p)) (h4:F→Fit (a*c)) (h5:F→Fit (a*c+(a*(a*p)-p))):CS F (chF a 0 c p) (a*c+(a*(a*p)-p)):=by
 unfold chF;rcases CS.mul2 (F:=F) ha h1 with⟨e1,_⟩|⟨e1,n1⟩
 ·rw[e1];rcases CS.mul2 (F:=F) ha h2 with⟨e2,_⟩|⟨e2,n2⟩
  ·simp only[e2];rcases CS.one (F:=F) h3 with⟨e3,_⟩|⟨e3,n3⟩
   ·injection e3 with e3 e4;simp only[e3,e4];rcases CS.mul2 (F:=F) ha h4 with⟨e5,_⟩|⟨e5,n5⟩
    ·simp only[e5]; exact CS.one h5
    ·refine .inr ⟨?_,n5⟩; simp only[e5,cE4]
   ·refine .inr ⟨?_,n3⟩;have e3:cE 0 (a*(a*p)-p)=4:=e3;simp only[e3,Cv,cE4]
  ·refine .inr ⟨?_,n2⟩; simp only[e2,cE4,Cv]
 ·refine .inr ⟨?_,n1⟩; simp only[e1,Cv,cE4]
theorem psF_ok {F:Prop} {a c p:Int} (ha:Fit a) (h1:F→Fit (a*p)) (h2:F→Fit (c+a*p)):CS F (psF a 0 c p) (c+a*p):=by
 unfold psF;rcases CS.mul2 (F:=F) ha h1 with⟨e1,_⟩|⟨e1,n1⟩
 ·simp only[e1]; exact CS.one h2
 ·refine .inr ⟨?_,n1⟩; simp only[e1,cE4]
end Go.AL
namespace Go.Proofs.YtmmfloplhopioaaGreat
open Go.AL
theorem EW (x:Int):PureFn Tryz.prog 233 [aX x] (aX x):=by
 refine AC Tryz.func233 rfl Tryz.ntmps233 rfl rfl ?_;(repeat' first|refine qv ?_|apply qn|apply qs|apply qr|refine qe ?_|apply qt);exact RetOk.of rfl (AA _)
theorem walk_ok (a:Int):IoFn Tryz.prog 225 [aX a] [] (.ret (.ptr 900 0)) [(900,chB (some a) 0)]:=by
 refine AH Tryz.func225 rfl Tryz.ntmps225 rfl rfl rfl ?_;(repeat' first|refine qv ?_|apply qn|apply qs|apply qr|refine qe ?_|apply qt);exact⟨⟨[(900,5)],_,_,AM _ _ _,rfl,AA _,rfl,⟨⟨⟨_,rfl,BLe.cells (AB _)⟩,rfl⟩,trivial⟩,rfl,rfl⟩⟩
theorem fits_ok (a:Int) (ha:Fit a) (h2:2≤a):PureFn Tryz.prog 224 [aX a,.v (.slice none 0 0)] (aN 0):=by
 refine AC Tryz.func224 rfl Tryz.ntmps224 rfl rfl ?_;(repeat' first|refine qv ?_|apply qn|apply qs|apply qr|refine qe ?_|fail);refine ql eX [a] ?_;refine qc (Cr [a] (by simp[ha]) (by simp)) ?_;(repeat' first|refine qv ?_|fail);refine Fl.call rfl (Cr [] (by simp) (by simp)) rfl rfl rfl (LeL.cons (AV.Le.nil 2 eX) LeL.nil) ?_;(repeat' first|refine qv ?_|apply qn|apply qs|apply qr|refine AF rfl ?_|apply qk);refine qc (Ct 2 (by omega) (by omega)) ?_;have hl:=Less_ok a 2 ha (B8 (by omega) (by omega));rw[decide_eq_false (by omega)]at hl;refine qc (hl) ?_;(repeat' first|refine qv ?_|apply qn|refine Fl.nil (fun _=>by kernel_rfl) ?_|apply qs|apply qr|refine AF rfl ?_|apply qk|apply qt);exact RetOk.of rfl (AA _)
abbrev aP2 (c p:Int):AV := .agg [aB (decide (c<0)),aW (toW c.natAbs),aB (decide (p<0)),aW (toW p.natAbs)]
abbrev wB (a e:Int):List (AL.Id×Bx):=[(900,chB (some a) e)]
theorem psiS_ok (a e c p:Int) (ha:Fit a) (hc:Fit c) (hp:Fit p):IoFn Tryz.prog 209 [.ptr 900 0,aP2 c p] (wB a e) (.ret (aX (psF a e c p).1)) (wB a (psF a e c p).2):=by
 refine AH Tryz.func209 rfl Tryz.ntmps209 rfl rfl rfl ?_;have f1:=DP [a,p] e 1 fit_one;refine AE ?_;(repeat' first|apply qn|apply qr|refine qe ?_|fail);refine⟨?_⟩;refine AWP.seq ?_;refine Cu [(900,1,[aB (decide (a<0)),aW (toW a.natAbs)]),(900,3,[.fn 233 []])] (InvJ.cons ⟨_,_,rfl,rfl⟩ (InvJ.cons ⟨_,_,rfl,rfl⟩ (InvJ.nil _))) ?_;(repeat' first|refine Fl.ldJ rfl rfl rfl rfl rfl rfl rfl rfl ?_|refine qv ?_|fail);refine ql eX [a,p] ?_;refine qi [] (Ek (some a) e [a,p] (by simp[ha,hp]) (by simp)) ?_;refine qi [] (chAdd_ok (some a) _ _ _ hc f1) ?_;refine C3 rfl rfl (EW _) rfl rfl rfl (AB _) ?_;(repeat' first|refine Fl.nil (fun _=>by kernel_rfl) ?_|refine qe ?_|apply qt);exact⟨⟨[],_,_,AM _ _ _,rfl,AA _,rfl,⟨⟨⟨_,rfl,BLe.cells (AB _)⟩,rfl⟩,trivial⟩,rfl,rfl⟩⟩
theorem chiS_ok (a e c p:Int) (ha:Fit a) (hc:Fit c) (hp:Fit p):IoFn Tryz.prog 235 [.ptr 900 0,aP2 c p] (wB a e) (.ret (aX (chF a e c p).1)) (wB a (chF a e c p).2):=by
 refine AH Tryz.func235 rfl Tryz.ntmps235 rfl rfl rfl ?_;have f1:=DP [a,p] e 1 fit_one;have f2:=DP [a,(mulL e 1 [a,p]).1] (mulL e 1 [a,p]).2 1 fit_one;have f4:=DP [a,c] (cE (mulL (mulL e 1 [a,p]).2 1 [a,(mulL e 1 [a,p]).1]).2 ((mulL (mulL e 1 [a,p]).2 1 [a,(mulL e 1 [a,p]).1]).1-p)) 1 fit_one;refine AE ?_;(repeat' first|apply qn|apply qr|refine qe ?_|fail);refine⟨?_⟩;refine AE ?_;refine Cu [(900,1,[aB (decide (a<0)),aW (toW a.natAbs)]),(900,3,[.fn 233 []])] (InvJ.cons ⟨_,_,rfl,rfl⟩ (InvJ.cons ⟨_,_,rfl,rfl⟩ (InvJ.nil _))) ?_;(repeat' first|refine Fl.ldJ rfl rfl rfl rfl rfl rfl rfl rfl ?_|refine qv ?_|fail);refine ql eX [a,p] ?_;refine qi [] (Ek (some a) e [a,p] (by simp[ha,hp]) (by simp)) ?_;refine C3 rfl rfl (EW _) rfl rfl rfl (AB _) ?_;refine ql eX [a,(mulL e 1 [a,p]).1] ?_;refine qi [] (Ek (some a) _ [a,(mulL e 1 [a,p]).1] (by simp[ha,f1]) (by simp)) ?_;(repeat' first|refine qv ?_|fail);refine qi [] (chSub_ok (some a) _ _ p f2 hp) ?_;(repeat' first|refine Fl.nil (fun _=>by kernel_rfl) ?_|refine qe ?_|fail);refine⟨?_⟩;refine AWP.seq ?_;refine Cu [(900,1,[aB (decide (a<0)),aW (toW a.natAbs)]),(900,3,[.fn 233 []])] (InvJ.cons ⟨_,_,rfl,rfl⟩ (InvJ.cons ⟨_,_,rfl,rfl⟩ (InvJ.nil _))) ?_;(repeat' first|refine Fl.ldJ rfl rfl rfl rfl rfl rfl rfl rfl ?_|refine qv ?_|fail);refine ql eX [a,c] ?_;refine qi [] (Ek (some a) _ [a,c] (by simp[ha,hc]) (by simp)) ?_;(repeat' first|refine qv ?_|fail);refine qi [] (chAdd_ok (some a) _ _ _ f4 (cV_fit _ _)) ?_;refine C3 rfl rfl (EW _) rfl rfl rfl (AB _) ?_;(repeat' first|refine Fl.nil (fun _=>by kernel_rfl) ?_|refine qe ?_|apply qt);exact⟨⟨[],_,_,AM _ _ _,rfl,AA _,rfl,⟨⟨⟨_,rfl,BLe.cells (AB _)⟩,rfl⟩,trivial⟩,rfl,rfl⟩⟩
end Go.Proofs.YtmmfloplhopioaaGreat
namespace Go.AL
def dbF (e c p:Int):Int×Int×Int:=
  let r1:=mulL e 1 [2,c,c]
  let r2:=mulL (cE r1.2 (r1.1-1)) 1 [2,c,p]
  (cV r1.2 (r1.1-1),r2.1,r2.2)
def upF (a:Int) (s:Int×Int×Int):Int×Int×Int:=
  let r1:=chF a s.2.2 s.1 s.2.1
  let r2:=psF a r1.2 s.1 s.2.1
  (r1.1,r2.1,r2.2)
def atL (a n:Int):Nat→Int×Int×Int→Int×Int×Int
  | 0,s=>s
  | j+1,s=>if s.2.2=0 then atL a n j (if n/2^j % 2=1 then upF a (dbF s.2.2 s.1 s.2.1)else dbF s.2.2 s.1 s.2.1)else s
theorem dbF_fit (e c p:Int):Fit (dbF e c p).1∧Fit (dbF e c p).2.1:=⟨cV_fit _ _,DP _ _ _ fit_one⟩
theorem upF_fit (a:Int) (s:Int×Int×Int):Fit (upF a s).1∧Fit (upF a s).2.1:=⟨cV_fit _ _,cV_fit _ _⟩
theorem leP2_zero {σ:List (Id×Id)}:LeL [aB (decide ((1:Int)<0)),aW (toW ((1:Int).natAbs)),aB false,.v (.slice none 0 0)] (renL (renI σ) [aB (decide ((1:Int)<0)),aW (toW ((1:Int).natAbs)),aB (decide ((0:Int)<0)),aW (toW ((0:Int).natAbs))]):=
 LeL.cons (AA _) (LeL.cons (AA _) (LeL.cons (AV.Le.bool rfl) (LeL.cons (by show(AV.v (.slice none 0 0)).Le (aW (toW ((0:Int).natAbs))); rw[show((Int.natAbs 0:Nat):Int)=0 from rfl,toW_zero]; exact AV.Le.nil 1 eW) LeL.nil)))
theorem fit_two:Fit 2:=B8 (by omega) (by omega)
end Go.AL
namespace Go.Proofs.YtmmfloplhopioaaGreat
open Go.AL
set_option maxHeartbeats 1000000 in
theorem at_ok (a n:Int) (ha:Fit a) (h0:0≤n) (h1:n≤9223372036854775807):IoFn Tryz.prog 226 [.ptr 900 0,aN n] (wB a 0) (.ret (aP2 (atL a n 63 (1,0,0)).1 (atL a n 63 (1,0,0)).2.1)) (wB a (atL a n 63 (1,0,0)).2.2):=by
 refine AH Tryz.func226 rfl Tryz.ntmps226 rfl rfl rfl ?_;refine AE ?_;(repeat' first|apply qn|apply qr|refine qe ?_|fail);refine⟨?_⟩;refine AE ?_;refine Cu [(900,3,[.fn 233 []])] (InvJ.cons ⟨_,_,rfl,rfl⟩ (InvJ.nil _)) ?_;(repeat' first|refine Fl.ldJ rfl rfl rfl rfl rfl rfl rfl rfl ?_|refine qv ?_|fail);refine qc (Ct 1 (by omega) (by omega)) ?_;refine C3 rfl rfl (EW _) rfl rfl rfl (AB _) ?_;(repeat' first|refine Fl.nil (fun _=>by kernel_rfl) ?_|refine qe ?_|fail);refine⟨?_⟩;(repeat' first|refine qv ?_|apply qn|apply qs|apply qr|apply qb);refine AWP.loop (G:=Nat×Int×Int×Int) (fun g=>g.1≤63∧Fit g.2.1∧Fit g.2.2.1∧atL a n g.1 g.2=atL a n 63 (1,0,0)) (fun g=>AO [900] [(0,.ptr 900 0),(1,aN n),(4,.ptr 4 0),(5,.ptr 5 0),(6,aN ((g.1:Int)-1))] [(4,.cells [aB false,.v (.slice none 0 0),aB false,.v (.slice none 0 0)] 240),(5,.cells [aB (decide (g.2.1<0)),aW (toW g.2.1.natAbs),aB (decide (g.2.2.1<0)),aW (toW g.2.2.1.natAbs)] 240),(900,chB (some a) g.2.2.2)]) (fun g=>g.1) (63,1,0,0) ⟨by omega,fit_one,Fit.zero,rfl⟩ ?_ ?_
 ·refine Ent.of [] ?_ ?_ rfl rfl;(repeat' first|exact True.intro|refine⟨⟨AA _,rfl⟩,?_⟩|refine⟨⟨⟨_,rfl,BLe.cells (AB _)⟩,rfl⟩,?_⟩|refine⟨⟨⟨_,rfl,BLe.cells ?_⟩,rfl⟩,?_⟩|fail);exact leP2_zero
 ·intro⟨j,c,p,e⟩ ⟨k0,k1,k2,k3⟩;refine AE ?_;(repeat' first|refine qv ?_|apply qn|apply qs|apply qr|refine qe ?_|refine Fl.skip rfl rfl ?_|refine AF rfl ?_|(refine AD rfl ?_ ?_<;>intro _<;>try(exfalso; omega))|apply qk|apply qx|apply qt|(refine AG rfl rfl ?_ ?_<;>intro _<;>try(exfalso; omega)))
  ·rename_i hj he;dsimp only at k0 k1 k2 k3 hj he;subst he
   cases j with
   | zero=>exfalso; omega
   | succ j=>
   have hs:∀s', s'=(if n/2^j % 2=1 then upF a (dbF 0 c p)else dbF 0 c p)→atL a n j s'=atL a n 63 (1,0,0):=fun s' h=>by rw[←k3,h]; simp only[atL,if_true]
   have d1:=DP [2,c,c] 0 1 fit_one;have d2:=DP [2,c,p] (cE (mulL 0 1 [2,c,c]).2 ((mulL 0 1 [2,c,c]).1-1)) 1 fit_one;refine⟨?_⟩;refine AWP.seq ?_;refine AWP.block ?_;refine AE ?_;refine Cu [(900,3,[.fn 233 []])] (InvJ.cons ⟨_,_,rfl,rfl⟩ (InvJ.nil _)) ?_;(repeat' first|refine Fl.ldJ rfl rfl rfl rfl rfl rfl rfl rfl ?_|refine qv ?_|fail);refine qc (Ct 2 (by omega) (by omega)) ?_;(repeat' first|refine qv ?_|fail);refine ql eX [2,c,c] ?_;refine qi [] (Ek (some a) 0 [2,c,c] (by simp[k1,fit_two]) (by simp)) ?_;refine qc (Ct 1 (by omega) (by omega)) ?_;refine qi [] (chSub_ok (some a) _ _ _ d1 fit_one) ?_;refine C3 rfl rfl (EW _) rfl rfl rfl (AB _) ?_;(repeat' first|refine Fl.ldJ rfl rfl rfl rfl rfl rfl rfl rfl ?_|refine qv ?_|fail);refine qc (Ct 2 (by omega) (by omega)) ?_;(repeat' first|refine qv ?_|fail);refine ql eX [2,c,p] ?_;refine qi [] (Ek (some a) _ [2,c,p] (by simp[k1,k2,fit_two]) (by simp)) ?_;refine C3 rfl rfl (EW _) rfl rfl rfl (AB _) ?_;(repeat' first|refine Fl.nil (fun _=>by kernel_rfl) ?_|refine qe ?_|fail);refine⟨?_⟩;(repeat' first|refine qv ?_|apply qs|apply qr|refine qw ?_|fail);have q0:0≤n/2^(((j+1:Nat):Int)-1).toNat:=Int.ediv_nonneg h0 (Int.le_of_lt (Int.pow_pos (by omega)));have q1:n/2^(((j+1:Nat):Int)-1).toNat≤n:=Int.ediv_le_self _ h0;refine Fl.w rfl rfl rfl ⟨q0,Int.le_trans q1 h1,by omega,by omega⟩ ?_
   have qj:(((j+1:Nat):Int)-1).toNat=j:=by omega
   have hb:=bitN_and1 q0;(repeat' first|refine qv ?_|apply qn|apply qr|refine qw ?_|(refine AD rfl ?_ ?_<;>intro _<;>try(exfalso; omega))|apply qk)
   ·rename_i hbit
    have hbit2:n/2^j % 2=1:=by rw[←qj,←hb]; exact hbit
    have hd:=dbF_fit 0 c p;refine qi [] (chiS_ok a (dbF 0 c p).2.2 (dbF 0 c p).1 (dbF 0 c p).2.1 ha hd.1 hd.2) ?_;(repeat' first|refine qv ?_|fail);refine qi [] (psiS_ok a (chF a (dbF 0 c p).2.2 (dbF 0 c p).1 (dbF 0 c p).2.1).2 (dbF 0 c p).1 (dbF 0 c p).2.1 ha hd.1 hd.2) ?_;(repeat' first|refine qv ?_|apply qn|refine Fl.nil (fun _=>by kernel_rfl) ?_|apply qr|refine qw ?_|refine qe ?_|fail);refine LoopEnd.of (j,upF a (dbF 0 c p)) ⟨by dsimp only; omega,(upF_fit _ _).1,(upF_fit _ _).2,hs _ (if_pos hbit2).symm⟩ (by dsimp only; omega) ?_;refine Ent.of [] ?_ ?_ rfl rfl;(repeat' first|exact True.intro|refine⟨⟨AA _,rfl⟩,?_⟩|refine⟨⟨⟨_,rfl,BLe.cells (AB _)⟩,rfl⟩,?_⟩|refine⟨⟨AV.Le.int ?_,rfl⟩,?_⟩|fail);show((j+1:Nat):Int)-1-1=(j:Int)-1;omega
   ·rename_i hbit
    have hbit2:¬n/2^j % 2=1:=by rw[←qj,←hb]; exact hbit
    have hd:=dbF_fit 0 c p;refine LoopEnd.of (j,dbF 0 c p) ⟨by dsimp only; omega,hd.1,hd.2,hs _ (if_neg hbit2).symm⟩ (by dsimp only; omega) ?_;refine Ent.of [] ?_ ?_ rfl rfl;(repeat' first|exact True.intro|refine⟨⟨AA _,rfl⟩,?_⟩|refine⟨⟨⟨_,rfl,BLe.cells (AB _)⟩,rfl⟩,?_⟩|refine⟨⟨AV.Le.int ?_,rfl⟩,?_⟩|fail);show((j+1:Nat):Int)-1-1=(j:Int)-1;omega
  ·rename_i hj he;dsimp only at k0 k1 k2 k3 hj he
   cases j with
   | zero=>exfalso; omega
   | succ j=>
   have k4:atL a n (j+1) (c,p,e)=(c,p,e):=by rw[atL]; exact if_neg he
   rw[←k3,k4];exact⟨⟨[],_,_,AM _ _ _,rfl,AA _,rfl,⟨⟨⟨_,rfl,BLe.cells (AB _)⟩,rfl⟩,trivial⟩,rfl,rfl⟩⟩
  ·rename_i hj;dsimp only at k0 k1 k2 k3 hj
   cases j with
   | succ j=>exfalso; omega
   | zero=>
   have k4:atL a n 0 (c,p,e)=(c,p,e):=rfl;rw[←k3,k4];exact⟨⟨[],_,_,AM _ _ _,rfl,AA _,rfl,⟨⟨⟨_,rfl,BLe.cells (AB _)⟩,rfl⟩,trivial⟩,rfl,rfl⟩⟩
end Go.Proofs.YtmmfloplhopioaaGreat
/- What the walk through a number's digits yields. -/
namespace Go.AL
theorem Da {x T:Int} (h:Fit T) (h0:0≤x) (h1:x≤T):Fit x:=h.le (by omega)
theorem cV_of_cE {e x:Int} (h:cE e x≠0):cV e x=0:=by
 unfold cE at h; unfold cV;split at h
 ·rename_i he;rw[if_neg];exact fun k=>h (szErr_eq.2 k.2)
 ·rename_i he;exact if_neg fun k=>he k.1
section
variable {a:Int} {N:Nat}
abbrev FN (a:Int) (N:Nat):Prop:=Fit (psiN a (N+1))
theorem dbF_ok (ha:2≤a) {m:Nat} (hm:2*m≤N):(dbF 0 (chiN a m) (psiN a m)=(chiN a (2*m),psiN a (2*m),0))∨((dbF 0 (chiN a m) (psiN a m)).2.2=4∧¬FN a N):=by
 obtain⟨p1,p2,p3⟩:=Dd ha m;have hc:=chi_dbl a m;have hp:=psi_dbl a m;have b1:2*chiN a m*1≤2*chiN a m*chiN a m:=Int.mul_le_mul_of_nonneg_left p1 (by omega)
 have b0:FN a N→Fit (2*chiN a m*chiN a m):=by
  intro hF;by_cases hN:N=0
  ·have:m=0:=by omega
   subst this;rw[D8]; exact fit_two
  ·refine Da hF (by omega) ?_;have h1:=chi_mono ha hm;have h2:=psi_pos ha (n:=N) (by omega);have h3:2*psiN a N≤a*psiN a N:=Int.mul_le_mul_of_nonneg_right ha (by omega);rw[CM]; omega
 have b2:FN a N→Fit (2*chiN a m):=fun hF=>Da (b0 hF) (by omega) (by omega);have b3:FN a N→Fit (2*chiN a m*chiN a m-1):=fun hF=>Da (b0 hF) (by omega) (by omega);have b4:FN a N→Fit (2*chiN a m*psiN a m):=fun hF=>Da hF (by rw[←hp]; exact(Dd ha _).2.1) (by rw[←hp]; exact psi_mono ha (by omega));unfold dbF;rcases CS.mul3 (F:=FN a N) fit_two b2 b0 with⟨e1,_⟩|⟨e1,n1⟩
 ·simp only[e1];rcases CS.one (F:=FN a N) b3 with⟨e2,_⟩|⟨e2,n2⟩
  ·injection e2 with e2 e3;simp only[e2,e3];rcases CS.mul3 (F:=FN a N) fit_two b2 b4 with⟨e5,_⟩|⟨e5,n5⟩
   ·simp only[e5]; left; rw[hc,hp]
   ·exact .inr ⟨e5,n5⟩
  ·have e2:cE 0 (2*chiN a m*chiN a m-1)=4:=e2;refine .inr ⟨?_,n2⟩;simp only[e2,Cv]
 ·refine .inr ⟨?_,n1⟩;simp only[e1,cE4,Cv]
theorem upF_ok (ha:2≤a) (hf:Fit a) {m:Nat} (hm:m+1≤N):(upF a (chiN a m,psiN a m,0)=(chiN a (m+1),psiN a (m+1),0))∨((upF a (chiN a m,psiN a m,0)).2.2=4∧¬FN a N):=by
 obtain⟨p1,p2,p3⟩:=Dd ha m;obtain⟨c1,c2,c3,c4,c5⟩:=chi_step ha m
 have b0:chiN a (m+1)≤psiN a (N+1):=by
  have h1:=chi_mono ha hm;have h2:=(psi_step ha N).2.1;omega
 have e1:0≤a*psiN a m:=Int.mul_nonneg (by omega) p2;have e2:0≤a*(a*psiN a m):=Int.mul_nonneg (by omega) e1;have e3:0≤a*chiN a m:=Int.mul_nonneg (by omega) (by omega);have e4:2*(a*psiN a m)≤a*(a*psiN a m):=Int.mul_le_mul_of_nonneg_right ha e1;have e5:2*psiN a m≤a*psiN a m:=Int.mul_le_mul_of_nonneg_right ha p2
 have hs:a*chiN a m+(a*(a*psiN a m)-psiN a m)=chiN a (m+1):=by rw[Ej]; grind
 have hq:chiN a m+a*psiN a m=psiN a (m+1):=(CM a m).symm;unfold upF;rcases chF_ok (F:=FN a N) (a:=a) (c:=chiN a m) (p:=psiN a m) hf (fun F=>Da F e1 (by omega)) (fun F=>Da F e2 (by omega)) (fun F=>Da F (by omega) (by omega)) (fun F=>Da F e3 (by omega)) (fun F=>Da F (by omega) (by omega))with⟨k1,_⟩|⟨k1,n1⟩
 ·simp only[k1];rcases psF_ok (F:=FN a N) (a:=a) (c:=chiN a m) (p:=psiN a m) hf (fun F=>Da F e1 (by omega)) (fun F=>Da F (by omega) (by rw[hq]; exact psi_mono ha (by omega)))with⟨k2,_⟩|⟨k2,n2⟩
  ·left; simp only[k2]; rw[hs,hq]
  ·exact .inr ⟨k2,n2⟩
 ·refine .inr ⟨?_,n1⟩;simp only[k1,psF_err]
def AtI (a:Int) (N j:Nat) (s:Int×Int×Int):Prop:=s=(chiN a (N/2^j),psiN a (N/2^j),0)∨(s.2.2=4∧¬FN a N)
theorem atL_ok (ha:2≤a) (hf:Fit a):∀(j:Nat) (s:Int×Int×Int),AtI a N j s→AtI a N 0 (atL a N j s)
 | 0,s,h=>h
 | j + 1,s,h=>by
  rcases h with rfl|⟨h1,h2⟩
  ·rw[atL,if_pos rfl];refine atL_ok ha hf j _ ?_
   have hd:N/2^(j+1)=N/2^j/2:=by rw[Nat.pow_succ,Nat.div_div_eq_div_mul]
   have hle:N/2^j≤N:=Nat.div_le_self _ _
   have hbit:((N:Int)/2^j % 2=1)↔N/2^j % 2=1:=by
    have:(N:Int)/2^j=((N/2^j:Nat):Int):=by rw[Int.natCast_ediv,Int.natCast_pow]; rfl
    rw[this]; omega
   dsimp only;rw[hd]
   generalize hq:N/2^j=q at *
   rcases dbF_ok ha (N:=N) (m:=q/2) (by omega)with e1|⟨e1,n1⟩
   ·rw[e1];by_cases hb:(N:Int)/2^j % 2=1
    ·rw[if_pos hb];have hb2:=hbit.1 hb;rcases upF_ok ha hf (N:=N) (m:=2*(q/2)) (by omega)with e2|⟨e2,n2⟩
     ·left;rw[e2,hq,show 2*(q/2)+1=q by omega]
     ·exact .inr ⟨e2,n2⟩
    ·rw[if_neg hb];left;have:q % 2≠1:=fun h=>hb (hbit.2 h);rw[hq,show 2*(q/2)=q by omega]
   ·split
    ·refine .inr ⟨?_,n1⟩;unfold upF;simp only[e1,chF_err,psF_err]
    ·exact .inr ⟨e1,n1⟩
  ·rw[atL,if_neg (by omega)];exact .inr ⟨h1,h2⟩
theorem psi_res (ha:2≤a) (hf:Fit a) (hN:N<2^63) {r:Int×Int} (hr:r=psF a (atL a N 63 (1,0,0)).2.2 (atL a N 63 (1,0,0)).1 (atL a N 63 (1,0,0)).2.1):r.1=clip (psiN a (N+1))∧r.2=szErr (psiN a (N+1)):=by
 have h:=atL_ok ha hf (N:=N) 63 (1,0,0) (.inl (by rw[Nat.div_eq_of_lt hN,D8,DM]))
 have hz:r.2≠0→r.1=0:=by
  rw[hr]; unfold psF; exact fun h=>cV_of_cE h
 have fin:r.2=4→¬FN a N→r.1=clip (psiN a (N+1))∧r.2=szErr (psiN a (N+1)):=fun h1 h2=>by
  rw[clip_not h2,Dp h2];exact⟨hz (by omega),h1⟩
 rcases h with h|⟨h1,h2⟩
 ·rw[h]at hr;simp only[Nat.pow_zero,Nat.div_one]at hr;obtain⟨p1,p2,p3⟩:=Dd ha N;have e1:0≤a*psiN a N:=Int.mul_nonneg (by omega) p2;have hq:chiN a N+a*psiN a N=psiN a (N+1):=(CM a N).symm;rcases psF_ok (F:=FN a N) (a:=a) (c:=chiN a N) (p:=psiN a N) hf (fun F=>Da F e1 (psi_step ha N).2.2) (fun F=>by rw[hq]; exact F)with⟨k2,kf⟩|⟨k2,n2⟩
  ·rw[hr,k2,hq];rw[hq]at kf;rw[Ci kf,szErr_fit kf]; exact⟨rfl,rfl⟩
  ·rw[←hr]at k2;exact fin k2 n2
 ·refine fin ?_ h2;rw[hr,h1,psF_err]
end
end Go.AL
namespace Go.AL
theorem atL_fit (a n:Int):∀(j:Nat) (s:Int×Int×Int),Fit s.1→Fit s.2.1→Fit (atL a n j s).1∧Fit (atL a n j s).2.1
 | 0,s,h1,h2=>⟨h1,h2⟩
 | j+1,s,h1,h2=>by
  rw[atL];split
  ·split
   ·exact atL_fit a n j _ (upF_fit _ _).1 (upF_fit _ _).2
   ·exact atL_fit a n j _ (dbF_fit _ _ _).1 (dbF_fit _ _ _).2
  ·exact⟨h1,h2⟩
end Go.AL
namespace Go.Proofs.YtmmfloplhopioaaGreat
open Go.AL
theorem element_ok (a n:Int) (ha:Fit a) (h2:2≤a) (h0:1≤n) (h1:n≤9223372036854775807):PureFn Tryz.prog 208 [aX a,aN n,aN 0,.fn 209 []] (aR (psiN a n.toNat)):=by
 refine AC Tryz.func208 rfl Tryz.ntmps208 rfl rfl ?_;(repeat' first|refine qv ?_|apply qn|apply qs|apply qr|refine qe ?_|fail);refine qc (fits_ok a ha h2) ?_;(repeat' first|refine qv ?_|apply qn|apply qs|apply qr|refine qe ?_|refine AF rfl ?_|(refine AD rfl ?_ ?_<;>intro _<;>try(exfalso; omega))|apply qb|apply qk|apply qt)
 ·rename_i h;refine RetOk.of rfl ?_;rw[EV (psi_not_fit h2 (by omega))];exact AV.Le.tup (LeL.cons Dm (AB _))
 ·rename_i h;refine A9 rfl [(900,33)] (walk_ok a) rfl rfl (AB _) rfl trivial rfl rfl rfl rfl rfl ?_;(repeat' first|refine qv ?_|apply qn|apply qs|apply qr|refine qw ?_|fail);refine qi [(900,33)] (at_ok a (n-1) ha (by omega) (by omega)) ?_
  have hN:(((n-1).toNat:Nat):Int)=n-1:=by omega
  have hfc:Fit (atL a (n-1) 63 (1,0,0)).1∧Fit (atL a (n-1) 63 (1,0,0)).2.1:=atL_fit a (n-1) 63 _ fit_one Fit.zero;refine ED rfl rfl [(900,33)] (psiS_ok a _ _ _ ha hfc.1 hfc.2) rfl rfl (AB _) rfl ⟨⟨⟨_,rfl,BLe.cells (AB _)⟩,rfl⟩,trivial⟩ rfl rfl rfl rfl rfl ?_;(repeat' first|refine qv ?_|apply qn|refine Fl.nil (fun _=>by kernel_rfl) ?_|apply qs|apply qr|refine qe ?_|apply qt);have hr:=psi_res (a:=a) (N:=(n-1).toNat) h2 ha (by omega) rfl;rw[hN,show(n-1).toNat+1=n.toNat by omega]at hr;refine RetOk.of rfl (AV.Le.tup (LeL.cons (AV.Le.agg ?_) (LeL.cons (AV.Le.int hr.2) LeL.nil)));exact leX (σ:=[]) hr.1
theorem Psi_ok (a n:Int) (ha:Fit a) (h2:2≤a) (h0:1≤n) (h1:n≤9223372036854775807):PureFn Tryz.prog 182 [aX a,aN n] (aR (psiN a n.toNat)):=by
 refine AC Tryz.func182 rfl Tryz.ntmps182 rfl rfl ?_;(repeat' first|refine qv ?_|apply qn|apply qs|apply qr|refine qe ?_|fail);refine qc (element_ok a n ha h2 h0 h1) ?_;(repeat' first|refine qv ?_|apply qn|refine qe ?_|apply qt);exact RetOk.of rfl (AA _)
end Go.Proofs.YtmmfloplhopioaaGreat
namespace Go.AL
def BW (k:Int):Int:=if k=0 then 1 else if k=1 then 3 else if k=2 then 3 else if k=3 then 2 else 0
def incB (last top:Int):List Int→Prop
  | []=>True
  | v::l=>last<v∧v<top∧incB v top l
structure OkL (vars:Int) (l:LZ):Prop where
  kind:BW l.kind≠0
  len:(l.polys.length:Int)=BW l.kind
  vlen:l.vars.length≤32
  inc:incB (-1) vars l.vars
  polys:∀p∈l.polys,p.vars=l.vars.length∧OkP p
def WL (l:LZ):Prop:=∀p∈l.polys,WP p
structure OkS (s:SZ):Prop where
  v0:0≤s.vars
  v1:s.vars≤20000
  len:s.links.length≤20000
  links:∀l∈s.links,OkL s.vars l
def WS (s:SZ):Prop:=∀l∈s.links,WL l
def idxI {α:Type} (f:α→Bool):List α→Int→Int
  | [],_ => -1
  | x::l,k=>if f x then k else idxI f l (k+1)
theorem Eg {α:Type} (f:α→Bool):∀(l:List α) (k:Int),0≤k→decide (0≤idxI f l k)=l.any f
 | [],k,h=>by simp[idxI]
 | x::l,k,h=>by
  simp only[idxI,List.any_cons];by_cases hx:f x=true
  ·simp[hx,h]
  ·have:=Eg f l (k+1) (by omega);simp only[hx,Bool.false_or];simpa using this
theorem Ef {α:Type} {f:α→Bool} {l:List α} {i:Nat} {x:α} (h:l[i]? = some x):idxI f (l.drop i) i=if f x then(i:Int)else idxI f (l.drop (i+1)) ((i+1:Nat):Int):=by
 have hi:=(List.getElem?_eq_some_iff.1 h).1;rw[List.drop_eq_getElem_cons hi,(List.getElem?_eq_some_iff.1 h).2];simp only[idxI];congr 2
end Go.AL
namespace Go.Proofs.YtmmfloplhopioaaGreat
open Go.AL
theorem needs_ok (k:Int):PureFn Tryz.prog 173 [aN k] (aN (BW k)):=by
 refine AC Tryz.func173 rfl Tryz.ntmps173 rfl rfl ?_;(repeat' first|refine qv ?_|apply qn|apply qs|apply qr|refine Fl.skip rfl rfl ?_|refine AJ rfl ?_|(refine AD rfl ?_ ?_<;>intro _<;>try(exfalso; omega))|apply qk|apply qt|(refine AG rfl rfl ?_ ?_<;>intro _<;>try(exfalso; omega)))
 ·exact RetOk.of rfl (AV.Le.int (by unfold BW; repeat rw[if_neg (by omega)]))
 ·exact RetOk.of rfl (AV.Le.int (by unfold BW; repeat rw[if_neg (by omega)]))
 ·rename_i h0 h1
  obtain rfl|rfl|rfl|rfl:k=0∨k=1∨k=2∨k=3:=by omega
  all_goals
   refine Fl.bArr rfl rfl rfl rfl ?_;(repeat' first|refine qv ?_|fail);refine Fl.ixA rfl rfl rfl rfl rfl rfl rfl rfl rfl rfl ?_ ?_ ?_
   ·exact by decide
   ·exact by decide
   (repeat' first|refine qv ?_|apply qn|apply qt);exact RetOk.of rfl (AA _)
abbrev lB (l:LZ):List (AL.Id×Bx):=[(900,.cells (eL l) 99)]
theorem link1_ok (l:LZ) (p:PZ) (hw:WP p) (b:Bool) (hb:b=true↔p.vars=l.vars.length∧OkP p):IoFn Tryz.prog 175 [aP p,.ptr 900 0] (lB l) (.ret (aB !b)) (lB l):=by
 refine AH Tryz.func175 rfl Tryz.ntmps175 rfl rfl rfl ?_;(repeat' first|refine qv ?_|apply qn|apply qs|apply qr|refine qe ?_|refine Fl.skip rfl rfl ?_|apply qt|(refine Ap rfl rfl ?_ ?_<;>intro _<;>try(exfalso; omega)))
 ·rename_i h;refine⟨⟨[],_,_,AM _ _ _,rfl,AV.Le.bool ?_,rfl,⟨⟨⟨_,rfl,BLe.cells (AB _)⟩,rfl⟩,trivial⟩,rfl,rfl⟩⟩
  cases b with
  | false=>rfl
  | true=>exact absurd (hb.1 rfl).1 h
 ·rename_i h;refine qc (CZ p hw b ⟨fun k=>(hb.1 k).2,fun k=>hb.2 ⟨h,k⟩⟩) ?_;(repeat' first|refine qv ?_|apply qn|apply qt);exact⟨⟨[],_,_,AM _ _ _,rfl,AA _,rfl,⟨⟨⟨_,rfl,BLe.cells (AB _)⟩,rfl⟩,trivial⟩,rfl,rfl⟩⟩
theorem indexP_ok (o:LZ) (f:PZ→Bool) (ps:List PZ) (hl:ps.length≤1000000) (hf:∀p∈ps,IoFn Tryz.prog 175 ([aP p]++[.ptr 900 0]) (lB o) (.ret (aB (f p))) (lB o)) :
  IoFn Tryz.prog 200 [.sl 2 eP ps,.fn 175 [.ptr 900 0]] (lB o) (.ret (aN (idxI f ps 0))) (lB o):=by
 refine AH Tryz.func200 rfl Tryz.ntmps200 rfl rfl rfl ?_;(repeat' first|refine qv ?_|apply qn|apply qs|apply qr|apply qb);refine AWP.loop (G:=Nat) (fun i=>i≤ps.length∧idxI f (ps.drop i) i=idxI f ps 0) (fun i=>AO [900] [(0,.sl 2 eP ps),(1,.fn 175 [.ptr 900 0]),(7,aN ps.length),(8,aN i)] [(900,.cells (eL o) 99)]) (fun i=>ps.length-i) 0 ⟨by omega,by simp⟩ ?_ ?_
 ·refine Ent.of [] ?_ ?_ rfl rfl;(repeat' first|exact True.intro|refine⟨⟨AA _,rfl⟩,?_⟩|refine⟨⟨⟨_,rfl,BLe.cells (AB _)⟩,rfl⟩,?_⟩|fail)
 ·intro i ⟨k0,k1⟩;(repeat' first|refine qv ?_|apply qn|apply qs|apply qr|(refine AD rfl ?_ ?_<;>intro _<;>try(exfalso; omega))|apply qb|apply qk|apply qx|apply qt|(refine Ay rfl rfl rfl rfl rfl rfl rfl rfl (by omega) (by omega) ?_; intro _ _)|fail)
  ·rename_i hi p hp;rw[Int.toNat_natCast]at hp;have hd:=Ef (f:=f) hp;refine ED rfl rfl [] (hf p (List.mem_of_getElem? hp)) rfl rfl (AB _) rfl ⟨⟨⟨_,rfl,BLe.cells (AB _)⟩,rfl⟩,trivial⟩ rfl rfl rfl rfl rfl ?_;(repeat' first|refine qv ?_|apply qn|apply qs|apply qr|refine qw ?_|apply qk|apply qt|(refine BQ rfl ?_ ?_<;>intro _))
   ·rename_i hb;rw[if_pos hb]at hd;refine⟨⟨[],_,_,AM _ _ _,rfl,AV.Le.int ?_,rfl,⟨⟨⟨_,rfl,BLe.cells (AB _)⟩,rfl⟩,trivial⟩,rfl,rfl⟩⟩;rw[←k1,hd]
   ·rename_i hb;rw[if_neg (by rw[hb]; simp)]at hd;refine LoopEnd.of (i+1) ⟨by omega,by rw[←k1,hd]⟩ (by omega) ?_;refine Ent.of [] ?_ ?_ rfl rfl;(repeat' first|exact True.intro|refine⟨⟨AA _,rfl⟩,?_⟩|refine⟨⟨⟨_,rfl,BLe.cells (AB _)⟩,rfl⟩,?_⟩|fail)
  ·refine⟨⟨[],_,_,AM _ _ _,rfl,AV.Le.int ?_,rfl,⟨⟨⟨_,rfl,BLe.cells (AB _)⟩,rfl⟩,trivial⟩,rfl,rfl⟩⟩;rw[←k1,List.drop_of_length_le (by omega)]; rfl
theorem containsP_ok (o:LZ) (f:PZ→Bool) (ps:List PZ) (hl:ps.length≤1000000) (hf:∀p∈ps,IoFn Tryz.prog 175 ([aP p]++[.ptr 900 0]) (lB o) (.ret (aB (f p))) (lB o)) :
  IoFn Tryz.prog 174 [.sl 2 eP ps,.fn 175 [.ptr 900 0]] (lB o) (.ret (aB (ps.any f))) (lB o):=by
 refine AH Tryz.func174 rfl Tryz.ntmps174 rfl rfl rfl ?_;have h:=indexP_ok o f ps hl hf;have he:=Eg f ps 0 (by omega);(repeat' first|refine qv ?_|apply qn|apply qs|apply qr);refine qi [] h ?_;(repeat' first|refine qv ?_|apply qn|apply qt);exact⟨⟨[],_,_,AM _ _ _,rfl,AV.Le.bool he,rfl,⟨⟨⟨_,rfl,BLe.cells (AB _)⟩,rfl⟩,trivial⟩,rfl,rfl⟩⟩
abbrev sB (s:SZ):List (AL.Id×Bx):=[(900,.cells [aN s.vars,.sl 3 eL s.links] 39)]
theorem indexL_ok (o:SZ) (f:LZ→Bool) (ps:List LZ) (hl:ps.length≤1000000) (hf:∀p∈ps,IoFn Tryz.prog 134 ([aL p]++[.ptr 900 0]) (sB o) (.ret (aB (f p))) (sB o)) :
  IoFn Tryz.prog 172 [.sl 3 eL ps,.fn 134 [.ptr 900 0]] (sB o) (.ret (aN (idxI f ps 0))) (sB o):=by
 refine AH Tryz.func172 rfl Tryz.ntmps172 rfl rfl rfl ?_;(repeat' first|refine qv ?_|apply qn|apply qs|apply qr|apply qb);refine AWP.loop (G:=Nat) (fun i=>i≤ps.length∧idxI f (ps.drop i) i=idxI f ps 0) (fun i=>AO [900] [(0,.sl 3 eL ps),(1,.fn 134 [.ptr 900 0]),(7,aN ps.length),(8,aN i)] [(900,.cells [aN o.vars,.sl 3 eL o.links] 39)]) (fun i=>ps.length-i) 0 ⟨by omega,by simp⟩ ?_ ?_
 ·refine Ent.of [] ?_ ?_ rfl rfl;(repeat' first|exact True.intro|refine⟨⟨AA _,rfl⟩,?_⟩|refine⟨⟨⟨_,rfl,BLe.cells (AB _)⟩,rfl⟩,?_⟩|fail)
 ·intro i ⟨k0,k1⟩;(repeat' first|refine qv ?_|apply qn|apply qs|apply qr|(refine AD rfl ?_ ?_<;>intro _<;>try(exfalso; omega))|apply qb|apply qk|apply qx|apply qt|(refine Ay rfl rfl rfl rfl rfl rfl rfl rfl (by omega) (by omega) ?_; intro _ _)|fail)
  ·rename_i hi p hp;rw[Int.toNat_natCast]at hp;have hd:=Ef (f:=f) hp;refine ED rfl rfl [] (hf p (List.mem_of_getElem? hp)) rfl rfl (AB _) rfl ⟨⟨⟨_,rfl,BLe.cells (AB _)⟩,rfl⟩,trivial⟩ rfl rfl rfl rfl rfl ?_;(repeat' first|refine qv ?_|apply qn|apply qs|apply qr|refine qw ?_|apply qk|apply qt|(refine BQ rfl ?_ ?_<;>intro _))
   ·rename_i hb;rw[if_pos hb]at hd;refine⟨⟨[],_,_,AM _ _ _,rfl,AV.Le.int ?_,rfl,⟨⟨⟨_,rfl,BLe.cells (AB _)⟩,rfl⟩,trivial⟩,rfl,rfl⟩⟩;rw[←k1,hd]
   ·rename_i hb;rw[if_neg (by rw[hb]; simp)]at hd;refine LoopEnd.of (i+1) ⟨by omega,by rw[←k1,hd]⟩ (by omega) ?_;refine Ent.of [] ?_ ?_ rfl rfl;(repeat' first|exact True.intro|refine⟨⟨AA _,rfl⟩,?_⟩|refine⟨⟨⟨_,rfl,BLe.cells (AB _)⟩,rfl⟩,?_⟩|fail)
  ·refine⟨⟨[],_,_,AM _ _ _,rfl,AV.Le.int ?_,rfl,⟨⟨⟨_,rfl,BLe.cells (AB _)⟩,rfl⟩,trivial⟩,rfl,rfl⟩⟩;rw[←k1,List.drop_of_length_le (by omega)]; rfl
theorem containsL_ok (o:SZ) (f:LZ→Bool) (ps:List LZ) (hl:ps.length≤1000000) (hf:∀p∈ps,IoFn Tryz.prog 134 ([aL p]++[.ptr 900 0]) (sB o) (.ret (aB (f p))) (sB o)) :
  IoFn Tryz.prog 133 [.sl 3 eL ps,.fn 134 [.ptr 900 0]] (sB o) (.ret (aB (ps.any f))) (sB o):=by
 refine AH Tryz.func133 rfl Tryz.ntmps133 rfl rfl rfl ?_;have h:=indexL_ok o f ps hl hf;have he:=Eg f ps 0 (by omega);(repeat' first|refine qv ?_|apply qn|apply qs|apply qr);refine qi [] h ?_;(repeat' first|refine qv ?_|apply qn|apply qt);exact⟨⟨[],_,_,AM _ _ _,rfl,AV.Le.bool he,rfl,⟨⟨⟨_,rfl,BLe.cells (AB _)⟩,rfl⟩,trivial⟩,rfl,rfl⟩⟩
end Go.Proofs.YtmmfloplhopioaaGreat
namespace Go.AL
def lastI (d:Int):List Int→Int
  | []=>d
  | x::l=>lastI x l
theorem incB_drop {last top:Int}:∀ {l:List Int} {i:Nat} {v:Int},l[i]? = some v→(incB (lastI last (l.take i)) top (l.drop i)↔lastI last (l.take i)<v∧v<top∧incB (lastI last (l.take (i+1))) top (l.drop (i+1)))
 | [],_,_,h=>by simp at h
 | x::l,0,v,h=>by simp at h; subst h; simp[lastI,incB]
 | x::l,i+1,v,h=>by
  simp only[List.take_succ_cons,List.drop_succ_cons,lastI];exact incB_drop (last:=x) (by simpa using h)
theorem lastI_snoc {d:Int}:∀ {l:List Int} {i:Nat} {v:Int},l[i]? = some v→lastI d (l.take (i+1))=v
 | [],_,_,h=>by simp at h
 | x::l,0,v,h=>by simp at h; subst h; simp[lastI]
 | x::l,i+1,v,h=>by
  simp only[List.take_succ_cons,lastI];exact lastI_snoc (d:=x) (by simpa using h)
end Go.AL
namespace Go.Proofs.YtmmfloplhopioaaGreat
open Go.AL
set_option maxHeartbeats 1000000 in
theorem link_ok (l:LZ) (vars:Int) (hw:WL l) (f:PZ→Bool) (hf:∀p∈l.polys,f p=true↔p.vars=l.vars.length∧OkP p) (b:Bool) (hb:b=true↔OkL vars l):PureFn Tryz.prog 135 [aL l,aN vars] (aB b):=by
 refine AC Tryz.func135 rfl Tryz.ntmps135 rfl rfl ?_
 have hfalse:¬OkL vars l→false=b:=fun h=>by cases b with|false=>rfl|true=>exact absurd (hb.1 rfl) h
 have hn3:BW l.kind≤3∧0≤BW l.kind:=by unfold BW; repeat' split<;>omega
 (repeat' first|refine qv ?_|apply qn|apply qs|apply qr|refine qe ?_|fail);refine qc (needs_ok l.kind) ?_;(repeat' first|refine qv ?_|apply qn|refine Fl.nil (fun _=>by kernel_rfl) ?_|apply qs|apply qr|refine Fl.skip rfl rfl ?_|refine AJ rfl ?_|apply qt|(refine AG rfl rfl ?_ ?_<;>intro _<;>try(exfalso; omega)))
 ·rename_i h; exact RetOk.of rfl (AV.Le.bool (hfalse fun k=>k.kind h))
 refine qc (needs_ok l.kind) ?_;(repeat' first|refine qv ?_|apply qn|refine Fl.nil (fun _=>by kernel_rfl) ?_|apply qs|apply qr|refine Fl.skip rfl rfl ?_|refine AJ rfl ?_|(refine AD rfl ?_ ?_<;>intro _<;>try(exfalso; omega))|apply qb|apply qk|apply qt|(refine Ap rfl rfl ?_ ?_<;>intro _<;>try(exfalso; omega)))
 ·rename_i h; exact RetOk.of rfl (AV.Le.bool (hfalse fun k=>h k.len))
 ·rename_i h; exact RetOk.of rfl (AV.Le.bool (hfalse fun k=>by have:=k.vlen; omega))
 rename_i hk hlen hvl;refine AWP.loop (G:=Nat) (fun i=>i≤l.vars.length∧(incB (lastI (-1) (l.vars.take i)) vars (l.vars.drop i)↔incB (-1) vars l.vars)) (fun i=>AO [] [(1,aN vars),(2,.ptr 2 0),(5,aN (lastI (-1) (l.vars.take i))),(28,aI l.vars),(29,aN l.vars.length),(30,aN i)] [(2,.cells (eL l) 99)]) (fun i=>l.vars.length-i) 0 ⟨by omega,by simp[lastI]⟩ ?_ ?_
 ·refine Ent.of [] ?_ ?_ rfl rfl;(repeat' first|exact True.intro|refine⟨⟨AA _,rfl⟩,?_⟩|refine⟨⟨⟨_,rfl,BLe.cells (AB _)⟩,rfl⟩,?_⟩|fail)
 ·intro i ⟨k0,k1⟩;(repeat' first|refine qv ?_|apply qn|apply qs|apply qr|refine qw ?_|refine Fl.skip rfl rfl ?_|refine AJ rfl ?_|(refine AD rfl ?_ ?_<;>intro _<;>try(exfalso; omega))|apply qb|apply qk|apply qx|apply qt|(refine Ay rfl rfl rfl rfl rfl rfl rfl rfl (by omega) (by omega) ?_; intro _ _)|(refine AG rfl rfl ?_ ?_<;>intro _<;>try(exfalso; omega)))
  ·rename_i hi v hv h1;rw[Int.toNat_natCast]at hv;rw[incB_drop hv]at k1;refine RetOk.of rfl (AV.Le.bool (hfalse fun k=>?_));have:=k1.2 k.inc;omega
  ·rename_i hi v hv h1 h2;rw[Int.toNat_natCast]at hv;rw[incB_drop hv]at k1;refine RetOk.of rfl (AV.Le.bool (hfalse fun k=>?_));have:=k1.2 k.inc;omega
  ·rename_i hi v hv h1 h2;rw[Int.toNat_natCast]at hv;rw[incB_drop hv]at k1;refine LoopEnd.of (i+1) ⟨by omega,?_⟩ (by omega) ?_
   ·rw[←k1];exact⟨fun h=>⟨by omega,by omega,h⟩,fun h=>h.2.2⟩
   ·refine Ent.of [] ?_ ?_ rfl rfl;(repeat' first|exact True.intro|refine⟨⟨AA _,rfl⟩,?_⟩|refine⟨⟨⟨_,rfl,BLe.cells (AB _)⟩,rfl⟩,?_⟩|refine⟨⟨AV.Le.int ?_,rfl⟩,?_⟩|fail);exact(lastI_snoc hv).symm
  ·rename_i hi;have hd:l.vars.drop i=[]:=List.drop_of_length_le (by omega);rw[hd]at k1;have hinc:incB (-1) vars l.vars:=k1.1 trivial;have hc:=containsP_ok l (fun p => !f p) l.polys (by omega) (fun p hp=>link1_ok l p (hw p hp) (f p) (hf p hp));refine qi [(900,2)] hc ?_;(repeat' first|refine qv ?_|apply qn|apply qt);refine RetOk.of rfl (AV.Le.bool ?_)
   have:(!l.polys.any fun p => !f p)=true↔OkL vars l:=by
    rw[Bool.not_eq_true', List.any_eq_false];refine⟨fun h=>⟨hk,hlen,by omega,hinc,fun p hp=>(hf p hp).1 ?_⟩,fun k p hp=>?_⟩
    ·have:=h p hp;simpa using this
    ·have:=(hf p hp).2 (k.polys p hp);simp[this]
   cases b with
   | true=>exact this.2 (hb.1 rfl)
   | false=>exact Bool.eq_false_iff.2 fun h=>by have:=hb.2 (this.1 h); cases this
end Go.Proofs.YtmmfloplhopioaaGreat
namespace Go.AL
theorem boolOf {α:Type} (p:α→Prop):∃f:α→Bool,∀a,f a=true↔p a:=⟨fun a => @decide (p a) (Classical.propDecidable _),fun a => @decide_eq_true_iff _ (Classical.propDecidable _)⟩
def atOf (X:List Int) (vs:List Int):List Int:=vs.map fun v=>X.getD v.toNat 0
theorem atOf_fit {X:List Int} (h:∀x∈X,Fit x) (vs:List Int):∀x∈atOf X vs,Fit x:=fun x hx=>by
 obtain⟨v,_,rfl⟩:=List.mem_map.1 hx;show Fit (X.getD v.toNat 0);rw[List.getD_eq_getElem?_getD]
 cases hq:X[v.toNat]? with
 | none=>exact Fit.zero
 | some y=>exact h y (List.mem_of_getElem? hq)
theorem incB_mem {last top:Int}:∀ {l:List Int} {v:Int},incB last top l→v∈l→last<v∧v<top
 | [],_,_,h=>by simp at h
 | x::l,v,⟨h1,h2,h3⟩,h=>by
  rcases List.mem_cons.1 h with rfl|h
  ·exact⟨h1,h2⟩
  ·have:=incB_mem h3 h;omega
theorem atOf_snoc {X vs:List Int} {i:Nat} {v x:Int} (h:vs[i]? = some v) (hx:X[v.toNat]? = some x):atOf X (vs.take (i+1))=atOf X (vs.take i)++[x]:=by
 rw[Ab h];simp[atOf,hx]
end Go.AL
namespace Go.Proofs.YtmmfloplhopioaaGreat
open Go.AL
theorem Valid1_ok (s:SZ) (l:LZ) (hw:WL l) (b:Bool) (hb:b=true↔OkL s.vars l):IoFn Tryz.prog 134 [aL l,.ptr 900 0] (sB s) (.ret (aB !b)) (sB s):=by
 refine AH Tryz.func134 rfl Tryz.ntmps134 rfl rfl rfl ?_;obtain⟨f,hf⟩:=boolOf (fun p:PZ=>p.vars=l.vars.length∧OkP p);(repeat' first|refine qv ?_|apply qn|apply qs|apply qr|refine qe ?_|fail);refine qc (link_ok l s.vars hw f (fun p _=>hf p) b hb) ?_;(repeat' first|refine qv ?_|apply qn|apply qt);exact⟨⟨[],_,_,AM _ _ _,rfl,AA _,rfl,⟨⟨⟨_,rfl,BLe.cells (AB _)⟩,rfl⟩,trivial⟩,rfl,rfl⟩⟩
theorem sValid_ok (s:SZ) (hw:WS s) (b:Bool) (hb:b=true↔OkS s):PureFn Tryz.prog 71 [aS s] (aB b):=by
 refine AC Tryz.func71 rfl Tryz.ntmps71 rfl rfl ?_
 have hfalse:¬OkS s→false=b:=fun h=>by cases b with|false=>rfl|true=>exact absurd (hb.1 rfl) h
 obtain⟨f,hf⟩:=boolOf (fun l:LZ=>OkL s.vars l);(repeat' first|refine qv ?_|apply qn|apply qs|apply qr|refine qe ?_|refine Fl.skip rfl rfl ?_|apply qt|(refine AG rfl rfl ?_ ?_<;>intro _<;>try(exfalso; omega)))
 ·rename_i h0 h1 h2;refine qi [(900,1)] (containsL_ok s (fun l => !f l) s.links (by omega) (fun l hl=>Valid1_ok s l (hw l hl) (f l) (hf l))) ?_;(repeat' first|refine qv ?_|apply qn|apply qt);refine RetOk.of rfl (AV.Le.bool ?_)
  have:(!s.links.any fun l => !f l)=true↔OkS s:=by
   rw[Bool.not_eq_true', List.any_eq_false];refine⟨fun h=>⟨h0,h1,by omega,fun l hl=>(hf l).1 ?_⟩,fun k l hl=>?_⟩
   ·have:=h l hl;simpa using this
   ·have:=(hf l).2 (k.links l hl);simp[this]
  cases b with
  | true=>exact this.2 (hb.1 rfl)
  | false=>exact Bool.eq_false_iff.2 fun h=>by have:=hb.2 (this.1 h); cases this
 ·rename_i h0 h1 h2; exact RetOk.of rfl (AV.Le.bool (hfalse fun k=>by have:=k.len; omega))
 ·rename_i h0 h1; exact RetOk.of rfl (AV.Le.bool (hfalse fun k=>by have:=k.v1; omega))
 ·rename_i h0; exact RetOk.of rfl (AV.Le.bool (hfalse fun k=>by have:=k.v0; omega))
theorem Values_ok (l:LZ) (X:List Int) (hw:WL l) (hL:OkL X.length l) (hX:∀x∈X,Fit x) (r:AV) (hr1:(∀p∈l.polys,EvOk (atOf X l.vars) p)→r = .tup [.sl 2 eX (l.polys.map (pv (atOf X l.vars))),aN 0]) (hr2:¬(∀p∈l.polys,EvOk (atOf X l.vars) p)→r = .tup [.v (.slice none 0 0),aN 4]) :
  PureFn Tryz.prog 72 [aL l,.sl 2 eX X] r:=by
 refine AC Tryz.func72 rfl Tryz.ntmps72 rfl rfl ?_;have hvl:=hL.vlen
 have hn3:BW l.kind≤3:=by unfold BW; repeat' split<;>omega
 have hpl:=hL.len;have hfa:=atOf_fit hX l.vars
 have hla:(atOf X l.vars).length=l.vars.length:=by simp[atOf]
 (repeat' first|refine qv ?_|apply qn|apply qs|apply qr|refine qe ?_|apply qb);refine AY (BV 6 806 rfl rfl 2 eX 48) ?_;refine AWP.loop (G:=Nat) (fun i=>i≤l.vars.length) (fun i=>AO [] [(1,.sl 2 eX X),(2,.ptr 2 0),(6,.row 6),(7,.v (.slice none 0 0)),(15,aI l.vars),(16,aN l.vars.length),(17,aN i)] [(2,.cells (eL l) 99),(6,.row 2 eX (atOf X (l.vars.take i)) 48)]) (fun i=>l.vars.length-i) 0 (by omega) ?_ ?_
 ·refine Ent.of [(6,806)] ?_ ?_ rfl rfl;(repeat' first|exact True.intro|refine⟨⟨AA _,rfl⟩,?_⟩|refine⟨⟨⟨_,rfl,BLe.cells (AB _)⟩,rfl⟩,?_⟩|refine⟨⟨⟨_,rfl,BLe.row rfl⟩,rfl⟩,?_⟩|fail)
 ·intro i k0
  have hli:(atOf X (l.vars.take i)).length=i:=by simp[atOf]; omega
  (repeat' first|refine qv ?_|apply qn|apply qs|apply qr|(refine AD rfl ?_ ?_<;>intro _<;>try(exfalso; omega))|apply qb|apply qk|apply qx|(refine Ay rfl rfl rfl rfl rfl rfl rfl rfl (by omega) (by omega) ?_; intro _ _)|fail)
  ·rename_i hi v hv;rw[Int.toNat_natCast]at hv;have hvb:=incB_mem hL.inc (List.mem_of_getElem? hv);(repeat' first|refine qv ?_|(refine Ay rfl rfl rfl rfl rfl rfl rfl rfl (by omega) (by omega) ?_; intro _ _)|fail);rename_i x hx;refine ql eX [x] ?_;refine qa (hby:=(by dsimp only[List.length_nil,List.length_cons]; omega)) (hm:=(by simp; omega)) (r:=?_);(repeat' first|refine qv ?_|apply qn|apply qr|refine qw ?_|fail);refine LoopEnd.of (i+1) (by omega) (by omega) ?_;refine Ent.of [(6,27)] ?_ ?_ rfl rfl;(repeat' first|exact True.intro|refine⟨⟨AA _,rfl⟩,?_⟩|refine⟨⟨⟨_,rfl,BLe.cells (AB _)⟩,rfl⟩,?_⟩|refine⟨⟨⟨_,rfl,BLe.row ?_⟩,rfl⟩,?_⟩|fail);exact(atOf_snoc hv hx).symm
  ·rename_i hi;have hti:l.vars.take i=l.vars:=List.take_of_length_le (by omega);refine AY (Ent.freeze 6 rfl) ?_;refine AY (BV 7 807 rfl rfl 2 eX 48) ?_;refine AWP.loop (G:=Nat) (fun j=>j≤l.polys.length∧∀p∈l.polys.take j,EvOk (atOf X l.vars) p) (fun j=>AO [] [(2,.ptr 2 0),(6,.sl 2 eX (atOf X l.vars)),(7,.row 7),(30,.sl 2 eP l.polys),(31,aN l.polys.length),(32,aN j)] [(2,.cells (eL l) 99),(7,.row 2 eX ((l.polys.take j).map (pv (atOf X l.vars))) 48)]) (fun j=>l.polys.length-j) 0 ⟨by omega,by simp⟩ ?_ ?_
   ·refine Ent.of [(7,807)] ?_ ?_ rfl rfl;(repeat' first|exact True.intro|refine⟨⟨AA _,rfl⟩,?_⟩|refine⟨⟨⟨_,rfl,BLe.cells (AB _)⟩,rfl⟩,?_⟩|refine⟨⟨⟨_,rfl,BLe.row rfl⟩,rfl⟩,?_⟩|refine⟨⟨AV.Le.sl ?_,rfl⟩,?_⟩|fail);rw[hti]
   ·clear hi hti hli k0 i; intro j ⟨k0,k1⟩
    have hlj:((l.polys.take j).map (pv (atOf X l.vars))).length=j:=by simp; omega
    (repeat' first|refine qv ?_|apply qn|apply qs|apply qr|refine qe ?_|(refine AD rfl ?_ ?_<;>intro _<;>try(exfalso; omega))|apply qb|apply qk|apply qx|apply qt|(refine Ay rfl rfl rfl rfl rfl rfl rfl rfl (by omega) (by omega) ?_; intro _ _)|fail)
    ·rename_i hj p hp;rw[Int.toNat_natCast]at hp;have hpm:=List.mem_of_getElem? hp;have hpo:=hL.polys p hpm;have hev:=fun r h1 h2=>Eval_ok p (atOf X l.vars) (hw p hpm) hpo.2 (by rw[hla]; exact hpo.1.symm) hfa r h1 h2;by_cases he:EvOk (atOf X l.vars) p
     ·have hev1:=hev _ (fun _=>rfl) (fun h=>absurd he h);refine qc (hev1) ?_;(repeat' first|refine qv ?_|apply qn|apply qs|apply qr|refine qe ?_|refine AF rfl ?_|apply qk);refine ql eX [pv (atOf X l.vars) p] ?_;refine qa (hby:=(by dsimp only[List.length_nil,List.length_cons]; omega)) (hm:=(by simp; omega)) (r:=?_);(repeat' first|refine qv ?_|apply qn|apply qr|refine qw ?_|fail);refine LoopEnd.of (j+1) ⟨by omega,A3 hp k1 he⟩ (by omega) ?_;refine Ent.of [(7,48)] ?_ ?_ rfl rfl;(repeat' first|exact True.intro|refine⟨⟨AA _,rfl⟩,?_⟩|refine⟨⟨⟨_,rfl,BLe.cells (AB _)⟩,rfl⟩,?_⟩|refine⟨⟨⟨_,rfl,BLe.row ?_⟩,rfl⟩,?_⟩|fail);rw[Ab hp,List.map_append]; rfl
     ·have hev1:=hev _ (fun h=>absurd h he) (fun _=>rfl);rw[hr2 fun h=>he (h p hpm)];refine qc (hev1) ?_;(repeat' first|refine qv ?_|apply qn|apply qs|apply qr|refine qe ?_|refine AJ rfl ?_|apply qt);exact RetOk.of rfl (AA _)
    ·rename_i hj;have htj:l.polys.take j=l.polys:=List.take_of_length_le (by omega);rw[htj]at k1;rw[hr1 k1];refine Ao (Ent.freeze 7 rfl) ?_;refine RetOk.of rfl ?_;rw[htj];exact AA _
end Go.Proofs.YtmmfloplhopioaaGreat
namespace Go.AL
theorem I64.iff {x:Int}:I64 x ↔ -9223372036854775808≤x∧x≤9223372036854775807:=Iff.rfl
def holdP (k:Int) (vs:List Int):Prop:=
  if k=1 then 2≤vs.getD 0 0∧1≤vs.getD 1 0∧psiN (vs.getD 0 0) (vs.getD 1 0).toNat=vs.getD 2 0
  else if k=2 then 1≤vs.getD 0 0∧0≤vs.getD 1 0∧(vs.getD 0 0)^(vs.getD 1 0).toNat=vs.getD 2 0
  else if k=3 then 0≤vs.getD 0 0∧0≤vs.getD 1 0∧undI (vs.getD 0 0) (vs.getD 1 0)
  else vs.getD 0 0=0
end Go.AL
namespace Go.Proofs.YtmmfloplhopioaaGreat
open Go.AL
theorem isPsi_ok (x y z:Int) (hx:Fit x) (hy:Fit y) (hz:Fit z) (b:Bool) (hb:b=true↔2≤x∧1≤y∧psiN x y.toNat=z):PureFn Tryz.prog 137 [.sl 2 eX [x,y,z]] (aB b):=by
 refine AC Tryz.func137 rfl Tryz.ntmps137 rfl rfl ?_
 have hfalse:¬(2≤x∧1≤y∧psiN x y.toNat=z)→false=b:=fun h=>by cases b with|false=>rfl|true=>exact absurd (hb.1 rfl) h
 have g0:[x,y,z][(0:Int).toNat]? = some x:=rfl;have g1:[x,y,z][(1:Int).toNat]? = some y:=rfl;have g2:[x,y,z][(2:Int).toNat]? = some z:=rfl;have hl:[x,y,z].length=3:=rfl;(repeat' first|refine qv ?_|apply qn|apply qs|apply qr|refine qK ?_|fail);refine qc (Ct 2 (by omega) (by omega)) ?_;refine qc (Less_ok x 2 hx fit_two) ?_;(repeat' first|refine qv ?_|apply qn|refine Fl.nil (fun _=>by kernel_rfl) ?_|apply qs|apply qr|refine Fl.skip rfl rfl ?_|refine AJ rfl ?_|apply qt|refine qK ?_|(refine AG rfl rfl ?_ ?_<;>intro _<;>try(exfalso; omega)))
 ·rename_i h;exact RetOk.of rfl (AV.Le.bool (hfalse fun k=>by omega))
 ·rename_i h;refine qc (Ct 1 (by omega) (by omega)) ?_;refine qc (Less_ok y 1 hy fit_one) ?_;(repeat' first|refine qv ?_|apply qn|refine Fl.nil (fun _=>by kernel_rfl) ?_|apply qs|apply qr|(refine AD rfl ?_ ?_<;>intro _<;>try(exfalso; omega))|apply qk|apply qt|refine qK ?_|fail)
  ·exact RetOk.of rfl (AV.Le.bool (hfalse fun k=>by omega))
  ·rename_i h1;have hsm:=Small_ok y hy;by_cases hI:I64 y
   ·have hI2:=I64.iff.1 hI;rw[if_pos hI,decide_eq_true hI]at hsm;refine qc (hsm) ?_;(repeat' first|refine qv ?_|apply qn|apply qs|apply qr|refine AF rfl ?_|apply qk|refine qK ?_|fail);have hps:=Psi_ok x y hx (by omega) (by omega) (by omega);by_cases hf:Fit (psiN x y.toNat)
    ·rw[FR hf]at hps;refine qc (hps) ?_;(repeat' first|refine qv ?_|apply qn|apply qs|apply qr|refine qe ?_|refine qK ?_|(refine AG rfl rfl ?_ ?_<;>intro _<;>try(exfalso; omega)));refine qc (Same_ok _ z hf hz) ?_;(repeat' first|refine qv ?_|refine Fl.nil (fun _=>by kernel_rfl) ?_|apply qt);refine RetOk.of rfl (AV.Le.bool ?_)
     cases b with
     | false=>exact decide_eq_false fun k=>by have:=hb.2 ⟨by omega,by omega,k⟩; cases this
     | true=>exact decide_eq_true (hb.1 rfl).2.2
    ·rw[EV hf]at hps;refine qc (hps) ?_;(repeat' first|refine qv ?_|apply qn|refine Fl.nil (fun _=>by kernel_rfl) ?_|apply qs|apply qr|refine qe ?_|refine Fl.skip rfl rfl ?_|apply qt);exact RetOk.of rfl (AV.Le.bool (hfalse fun k=>hf (by rw[k.2.2]; exact hz)))
   ·rw[if_neg hI,decide_eq_false hI]at hsm;refine qc (hsm) ?_;(repeat' first|refine qv ?_|apply qn|apply qs|apply qr|refine AJ rfl ?_|apply qt);refine RetOk.of rfl (AV.Le.bool (hfalse fun k=>?_));refine psi_not_fit (a:=x) (n:=y.toNat) (by omega) ?_ (by rw[k.2.2]; exact hz);rw[I64.iff]at hI;omega
theorem isPower_ok (x y z:Int) (hx:Fit x) (hy:Fit y) (hz:Fit z) (b:Bool) (hb:b=true↔1≤x∧0≤y∧x^y.toNat=z):PureFn Tryz.prog 138 [.sl 2 eX [x,y,z]] (aB b):=by
 refine AC Tryz.func138 rfl Tryz.ntmps138 rfl rfl ?_
 have hfalse:¬(1≤x∧0≤y∧x^y.toNat=z)→false=b:=fun h=>by cases b with|false=>rfl|true=>exact absurd (hb.1 rfl) h
 have g0:[x,y,z][(0:Int).toNat]? = some x:=rfl;have g1:[x,y,z][(1:Int).toNat]? = some y:=rfl;have g2:[x,y,z][(2:Int).toNat]? = some z:=rfl;have hl:[x,y,z].length=3:=rfl;(repeat' first|refine qv ?_|apply qn|apply qs|apply qr);refine qc (Ct 1 (by omega) (by omega)) ?_;(repeat' first|refine qv ?_|apply qn|apply qs|apply qr|refine qe ?_|refine qK ?_|fail);refine qc (Less_ok x 1 hx fit_one) ?_;(repeat' first|refine qv ?_|apply qn|refine Fl.nil (fun _=>by kernel_rfl) ?_|apply qs|apply qr|refine Fl.skip rfl rfl ?_|refine AJ rfl ?_|(refine AD rfl ?_ ?_<;>intro _<;>try(exfalso; omega))|apply qk|apply qt|refine qK ?_|(refine AG rfl rfl ?_ ?_<;>intro _<;>try(exfalso; omega)))
 ·rename_i h;exact RetOk.of rfl (AV.Le.bool (hfalse fun k=>by omega))
 ·rename_i h h1;exact RetOk.of rfl (AV.Le.bool (hfalse fun k=>by omega))
 ·rename_i h h1;refine qc (Same_ok x 1 hx fit_one) ?_;(repeat' first|refine qv ?_|refine Fl.nil (fun _=>by kernel_rfl) ?_|apply qs|apply qr|(refine AD rfl ?_ ?_<;>intro _<;>try(exfalso; omega))|apply qk|refine qK ?_|fail)
  ·rename_i h2;refine qc (Same_ok z 1 hz fit_one) ?_;(repeat' first|refine qv ?_|refine Fl.nil (fun _=>by kernel_rfl) ?_|apply qt);refine RetOk.of rfl (AV.Le.bool ?_);subst h2
   cases b with
   | false=>exact decide_eq_false fun k=>by have:=hb.2 ⟨by omega,by omega,by rw[Int.one_pow,k]⟩; cases this
   | true=>exact decide_eq_true (by have:=(hb.1 rfl).2.2; rw[Int.one_pow]at this; exact this.symm)
  ·rename_i h2;have hsm:=Small_ok y hy;have hbig:131072<y→¬(1≤x∧0≤y∧x^y.toNat=z):=fun h k=>pow_not_fit (x:=x) (n:=y.toNat) (by omega) (by omega) (by rw[k.2.2]; exact hz);by_cases hI:I64 y
   ·have hI2:=I64.iff.1 hI;rw[if_pos hI,decide_eq_true hI]at hsm;refine qc (hsm) ?_;(repeat' first|refine qv ?_|apply qn|apply qs|apply qr|(refine AD rfl ?_ ?_<;>intro _<;>try(exfalso; omega))|apply qk|apply qt|refine qK ?_|fail)
    ·rename_i h3;exact RetOk.of rfl (AV.Le.bool (hfalse (hbig h3)))
    ·have hps:=Power_ok x y hx (by omega) (by omega);by_cases hf:Fit (x^y.toNat)
     ·rw[FR hf]at hps;refine qc (hps) ?_;(repeat' first|refine qv ?_|apply qn|apply qs|apply qr|refine qe ?_|refine qK ?_|(refine AG rfl rfl ?_ ?_<;>intro _<;>try(exfalso; omega)));refine qc (Same_ok _ z hf hz) ?_;(repeat' first|refine qv ?_|refine Fl.nil (fun _=>by kernel_rfl) ?_|apply qt);refine RetOk.of rfl (AV.Le.bool ?_)
      cases b with
      | false=>exact decide_eq_false fun k=>by have:=hb.2 ⟨by omega,by omega,k⟩; cases this
      | true=>exact decide_eq_true (hb.1 rfl).2.2
     ·rw[EV hf]at hps;refine qc (hps) ?_;(repeat' first|refine qv ?_|apply qn|refine Fl.nil (fun _=>by kernel_rfl) ?_|apply qs|apply qr|refine qe ?_|refine Fl.skip rfl rfl ?_|apply qt);exact RetOk.of rfl (AV.Le.bool (hfalse fun k=>hf (by rw[k.2.2]; exact hz)))
   ·rw[if_neg hI,decide_eq_false hI]at hsm;refine qc (hsm) ?_;(repeat' first|refine qv ?_|apply qn|apply qs|apply qr|refine Fl.skip rfl rfl ?_|refine AJ rfl ?_|apply qt);refine RetOk.of rfl (AV.Le.bool (hfalse (hbig ?_)));rw[I64.iff]at hI;omega
theorem holds_ok (k:Int) (vs:List Int) (hk:BW k≠0) (hl:(vs.length:Int)=BW k) (hX:∀x∈vs,Fit x) (b:Bool) (hb:b=true↔holdP k vs):PureFn Tryz.prog 73 [aN k,.sl 2 eX vs] (aB b):=by
 refine AC Tryz.func73 rfl Tryz.ntmps73 rfl rfl ?_
 have hk4:k=0∨k=1∨k=2∨k=3:=by
  unfold BW at hk;by_cases h0:k=0
  ·omega
  by_cases h1:k=1
  ·omega
  by_cases h2:k=2
  ·omega
  by_cases h3:k=3
  ·omega
  simp[h0,h1,h2,h3]at hk
 rcases hk4 with rfl|rfl|rfl|rfl
 ·have hl:vs.length=1:=by simp[BW]at hl; omega
  obtain⟨x,rfl⟩:∃x,vs=[x]:=by
   match vs,hl with
   | [x],_=>exact⟨x,rfl⟩
  have g0:[x][(0:Int).toNat]? = some x:=rfl;have hll:[x].length=1:=rfl;(repeat' first|refine qv ?_|apply qn|apply qs|apply qr|refine AF rfl ?_|apply qb|apply qk|apply qt|refine qK ?_|fail);refine RetOk.of rfl (AV.Le.bool ?_)
  have hx0:((toW x.natAbs).length:Int)=0↔x=0:=by
   have:=BO (z:=x.natAbs) (by omega);rw[←List.length_eq_zero_iff]at this;omega
  have hb2:b=true↔x=0:=hb
  cases b with
  | false=>exact decide_eq_false fun k=>by have:=hb2.2 (hx0.1 k); cases this
  | true=>exact decide_eq_true (hx0.2 (hb2.1 rfl))
 ·have hl:vs.length=3:=by simp[BW]at hl; omega
  obtain⟨x,y,z,rfl⟩:∃x y z,vs=[x,y,z]:=by
   match vs,hl with
   | [x,y,z],_=>exact⟨x,y,z,rfl⟩
  (repeat' first|refine qv ?_|apply qn|apply qs|apply qr|refine AJ rfl ?_|apply qb);refine qc (isPsi_ok x y z (hX x (by simp)) (hX y (by simp)) (hX z (by simp)) b hb) ?_;(repeat' first|refine qv ?_|apply qn|apply qt);exact RetOk.of rfl (AA _)
 ·have hl:vs.length=3:=by simp[BW]at hl; omega
  obtain⟨x,y,z,rfl⟩:∃x y z,vs=[x,y,z]:=by
   match vs,hl with
   | [x,y,z],_=>exact⟨x,y,z,rfl⟩
  (repeat' first|refine qv ?_|apply qn|apply qs|apply qr|refine AJ rfl ?_|refine AF rfl ?_|apply qb);refine qc (isPower_ok x y z (hX x (by simp)) (hX y (by simp)) (hX z (by simp)) b hb) ?_;(repeat' first|refine qv ?_|apply qn|apply qt);exact RetOk.of rfl (AA _)
 ·have hl:vs.length=2:=by simp[BW]at hl; omega
  obtain⟨x,y,rfl⟩:∃x y,vs=[x,y]:=by
   match vs,hl with
   | [x,y],_=>exact⟨x,y,rfl⟩
  have g0:[x,y][(0:Int).toNat]? = some x:=rfl;have g1:[x,y][(1:Int).toNat]? = some y:=rfl;have hll:[x,y].length=2:=rfl;have hx:=hX x (by simp);have hy:=hX y (by simp);(repeat' first|refine qv ?_|apply qn|apply qs|apply qr|refine AJ rfl ?_|refine AF rfl ?_|apply qb|refine qK ?_|fail);refine qc (Under_ok x y hx hy) ?_;(repeat' first|refine qv ?_|apply qn|refine Fl.nil (fun _=>by kernel_rfl) ?_|apply qs|apply qr|refine Fl.skip rfl rfl ?_|apply qt|(refine AG rfl rfl ?_ ?_<;>intro _<;>try(exfalso; omega)))
  ·rename_i h;refine RetOk.of rfl (AV.Le.bool ?_);have hbt:b=true:=hb.2 h;rw[hbt];exact decide_eq_true (if_neg (by omega))
  ·rename_i h;refine RetOk.of rfl (AV.Le.bool ?_)
   cases b with
   | false=>rfl
   | true=>exact absurd (hb.1 rfl) h
end Go.Proofs.YtmmfloplhopioaaGreat
namespace Go.AL
def D6 (f g:LZ→Bool):List LZ→Bool×Int
  | []=>(true,0)
  | l::ls=>if f l then(if g l then D6 f g ls else(false,0))else(false,4)
def EvL (X:List Int) (l:LZ):Prop:=∀p∈l.polys,EvOk (atOf X l.vars) p
def lvals (X:List Int) (l:LZ):List Int:=l.polys.map (pv (atOf X l.vars))
def HoL (X:List Int) (l:LZ):Prop:=holdP l.kind (lvals X l)
theorem pv_fit {X:List Int} {p:PZ} (h:EvOk X p):Fit (pv X p):=by
 have b1:=PS_take X p.terms p.terms.length;have b2:=OS_take X p.terms p.terms.length;rw[List.take_length]at b1 b2;exact fit_sum h.1 h.2 b1.1 b2.1
theorem lvals_fit {X:List Int} {l:LZ} (h:EvL X l):∀x∈lvals X l,Fit x:=fun x hx=>by
 obtain⟨p,hp,rfl⟩:=List.mem_map.1 hx;exact pv_fit (h p hp)
theorem holdsR_drop {f g:LZ→Bool} {ls:List LZ} {i:Nat} {l:LZ} (h:ls[i]? = some l):D6 f g (ls.drop i)=if f l then(if g l then D6 f g (ls.drop (i+1))else(false,0))else(false,4):=by
 have hi:=(List.getElem?_eq_some_iff.1 h).1;rw[List.drop_eq_getElem_cons hi,(List.getElem?_eq_some_iff.1 h).2];rfl
end Go.AL
namespace Go.Proofs.YtmmfloplhopioaaGreat
open Go.AL
theorem Holds_ok (s:SZ) (X:List Int) (hw:WS s) (hs:OkS s) (hX:∀x∈X,Fit x) (hlen:(X.length:Int)=s.vars) (hnat:∀x∈X,0≤x) (f g:LZ→Bool) (hf:∀l,f l=true↔EvL X l) (hg:∀l,g l=true↔HoL X l):PureFn Tryz.prog 30 [aS s,.sl 2 eX X] (.tup [aB (D6 f g s.links).1,aN (D6 f g s.links).2]):=by
 refine AC Tryz.func30 rfl Tryz.ntmps30 rfl rfl ?_;have hv1:=hs.v1;have hsl:=hs.len;(repeat' first|refine qv ?_|apply qn|apply qs|apply qr|refine qe ?_|fail);refine qc (sValid_ok s hw true ⟨fun _=>hs,fun _=>rfl⟩) ?_;(repeat' first|refine qv ?_|fail);refine qc (Cr X hX (by omega)) ?_;(repeat' first|refine qv ?_|apply qn|apply qs|apply qr|refine AF rfl ?_|apply qk|(refine Ap rfl rfl ?_ ?_<;>intro _<;>try(exfalso; omega)));have hv:=Dl X (by omega);rw[decide_eq_true hnat]at hv;refine qc (hv) ?_;(repeat' first|refine qv ?_|apply qn|apply qs|apply qr|refine AF rfl ?_|apply qb|apply qk);refine AWP.loop (G:=Nat) (fun i=>i≤s.links.length∧D6 f g (s.links.drop i)=D6 f g s.links) (fun i=>AO [] [(1,.sl 2 eX X),(29,.sl 3 eL s.links),(30,aN s.links.length),(31,aN i)] []) (fun i=>s.links.length-i) 0 ⟨by omega,rfl⟩ ?_ ?_
 ·refine Ent.of [] ?_ ?_ rfl rfl;(repeat' first|exact True.intro|refine⟨⟨AA _,rfl⟩,?_⟩|fail)
 ·intro i ⟨k0,k1⟩;(repeat' first|refine qv ?_|apply qn|apply qs|apply qr|refine qe ?_|(refine AD rfl ?_ ?_<;>intro _<;>try(exfalso; omega))|apply qb|apply qk|apply qx|apply qt|(refine Ay rfl rfl rfl rfl rfl rfl rfl rfl (by omega) (by omega) ?_; intro _ _)|fail)
  ·rename_i hi l hl;rw[Int.toNat_natCast]at hl;have hlm:=List.mem_of_getElem? hl;rw[holdsR_drop hl]at k1;have hL:=hs.links l hlm;rw[←hlen]at hL;have hvs:=fun r h1 h2=>Values_ok l X (hw l hlm) hL hX r h1 h2;by_cases he:EvL X l
   ·rw[if_pos ((hf l).2 he)]at k1;have hvs1:=hvs _ (fun _=>rfl) (fun h=>absurd he h);refine qc (hvs1) ?_;(repeat' first|refine qv ?_|apply qn|apply qs|apply qr|refine AF rfl ?_|apply qk);have hho:=holds_ok l.kind (lvals X l) hL.kind (by rw[lvals,List.length_map]; exact hL.len) (lvals_fit he) (g l) (hg l);refine qc (hho) ?_;(repeat' first|refine qv ?_|apply qn|apply qs|apply qr|refine qw ?_|apply qk|apply qt|(refine BQ rfl ?_ ?_<;>intro _))
    ·rename_i hb;rw[if_neg (by simpa using hb)]at k1;rw[←k1];exact RetOk.of rfl (AA _)
    ·rename_i hb;rw[if_pos (by simpa using hb)]at k1;refine LoopEnd.of (i+1) ⟨by omega,k1⟩ (by omega) ?_;refine Ent.of [] ?_ ?_ rfl rfl;(repeat' first|exact True.intro|refine⟨⟨AA _,rfl⟩,?_⟩|fail)
   ·rw[if_neg (fun h=>he ((hf l).1 h))]at k1;have hvs1:=hvs _ (fun h=>absurd h he) (fun _=>rfl);refine qc (hvs1) ?_;(repeat' first|refine qv ?_|apply qn|apply qs|apply qr|refine AJ rfl ?_|apply qt);rw[←k1];exact RetOk.of rfl (AA _)
  ·rename_i hi;rw[List.drop_of_length_le (by omega)]at k1;rw[←k1];exact RetOk.of rfl (AA _)
end Go.Proofs.YtmmfloplhopioaaGreat
namespace Go.AL
structure CT where
  v:Int
  e:Int
  p:Int
  w:Int
  u:Int
  d:Int
def stepC (c:CT) (l:LZ):CT:=
  if l.kind=0 then { c with e:=c.e+1,d:=match l.polys with|[]=>c.d|p::_=>if pdeg p>c.d then pdeg p else c.d }
  else if l.kind=1 then { c with p:=c.p+1 }
  else if l.kind=2 then { c with w:=c.w+1 }
  else { c with u:=c.u+1 }
def CTb (i:Int) (c:CT):Prop:=0≤c.e∧c.e≤i∧0≤c.p∧c.p≤i∧0≤c.w∧c.w≤i∧0≤c.u∧c.u≤i
theorem CTb.step {i:Int} {c:CT} (h:CTb i c) (l:LZ):CTb (i+1) (stepC c l):=by
 obtain⟨h1,h2,h3,h4,h5,h6,h7,h8⟩:=h;unfold stepC;repeat' split
 all_goals exact⟨by dsimp only; omega,by dsimp only; omega,by dsimp only; omega,by dsimp only; omega,by dsimp only; omega,by dsimp only; omega,by dsimp only; omega,by dsimp only; omega⟩
theorem kinds {k:Int} (hk:BW k≠0):k=0∨k=1∨k=2∨k=3:=by
 unfold BW at hk;by_cases h0:k=0
 ·omega
 by_cases h1:k=1
 ·omega
 by_cases h2:k=2
 ·omega
 by_cases h3:k=3
 ·omega
 simp[h0,h1,h2,h3]at hk
end Go.AL
namespace Go.Proofs.YtmmfloplhopioaaGreat
open Go.AL
end Go.Proofs.YtmmfloplhopioaaGreat
namespace Go.AL
end Go.AL
namespace Go.Proofs.YtmmfloplhopioaaGreat
open Go.AL
end Go.Proofs.YtmmfloplhopioaaGreat
namespace Go.AL
theorem CY {a:Int} (h:0≤a):bitN .and a 4294967295=a % 4294967296:=by
 show((a.toNat &&& (4294967295:Int).toNat:Nat):Int)=a % 4294967296;rw[show(4294967295:Int).toNat=2^32-1 from rfl,Nat.and_two_pow_sub_one_eq_mod];omega
end Go.AL
namespace Go.Proofs.YtmmfloplhopioaaGreat
open Go.AL
theorem rValid_ok (z:Z) (hz:WOk z.w) (hl:z.w.length≤9223372036854775807):PureFn Tryz.prog 75 [aZ z] (aB (decide (OkZ z))):=by
 refine AC Tryz.func75 rfl Tryz.ntmps75 rfl rfl ?_;(repeat' first|refine qv ?_|apply qn|apply qs|apply qr|refine qw ?_|refine qe ?_|refine Fl.skip rfl rfl ?_|(refine AD rfl ?_ ?_<;>intro _<;>try(exfalso; omega))|apply qk|apply qt|(refine CJ rfl rfl rfl rfl rfl rfl rfl rfl (by omega) (by omega) (by assumption) ?_; intro _ _ _ _)|(refine AG rfl rfl ?_ ?_<;>intro _<;>try(exfalso; omega)))
 ·rename_i h;refine RetOk.of rfl (AV.Le.bool ?_);have:=okZ_none (z:=z) (by omega);by_cases hn:z.neg=false
  ·rw[decide_eq_true (this.2 hn),hn]; rfl
  ·rw[decide_eq_false fun k=>hn (this.1 k)];simpa using hn
 ·rename_i h h1 e he hb0 hb1;refine RetOk.of rfl (AV.Le.bool ?_);have:=okZ_last (z:=z) (e:=e) (k:=z.w.length-1) (by omega) (by rw[←he]; congr 1; omega) (by omega);by_cases h0:e=0
  ·rw[decide_eq_false fun k=>this.1 k h0,h0]; rfl
  ·rw[decide_eq_true (this.2 h0)]; simpa using h0
 ·rename_i h h1;refine RetOk.of rfl (AV.Le.bool (Eq.symm (decide_eq_false fun k=>?_)));have:=k.1;omega
theorem rFits_ok (x:Int):PureFn Tryz.prog 142 [aX x] (aB (decide (Fit x))):=by
 refine AC Tryz.func142 rfl Tryz.ntmps142 rfl rfl ?_;(repeat' first|refine qv ?_|apply qn|apply qs|apply qr|refine qe ?_|apply qt);refine RetOk.of rfl (AV.Le.bool ?_);rw[decide_eq_decide,Fit.iff];omega
theorem Cf (z:Z):PureFn Tryz.prog 77 [aZ z] (aB (decide (z.w.length=0))):=by
 refine AC Tryz.func77 rfl Tryz.ntmps77 rfl rfl ?_;(repeat' first|refine qv ?_|apply qn|apply qs|apply qr|refine qe ?_|apply qt);refine RetOk.of rfl (AV.Le.bool ?_);simp
theorem rZeroX_ok (x:Int):PureFn Tryz.prog 77 [aX x] (aB (decide (x=0))):=by
 have h:=Cf (zOf x)
 have e:decide ((zOf x).w.length=0)=decide (x=0):=by
  rw[decide_eq_decide];show(toW x.natAbs).length=0↔x=0;have:=BO (z:=x.natAbs) (by omega);rw[List.length_eq_zero_iff,this]; omega
 rwa [e]at h
theorem DL (neg:Bool) (l:List Int) (hl:WOk l) (hb:l.length≤100000):PureFn Tryz.prog 54 [aB neg,aW l] (aX (sg neg (val l))):=by
 refine AC Tryz.func54 rfl Tryz.ntmps54 rfl rfl ?_;have hv:=Al hl;have hab:((sg neg (val l)).natAbs:Int)=val l:=sg_abs _ hv;refine AE ?_;(repeat' first|apply qn|apply qr|refine qe ?_|fail);refine⟨AE ?_⟩;(repeat' first|refine qv ?_|apply qn|apply qr);refine⟨?_⟩;refine Cj (G:=Int) (fun n=>0≤n∧n≤l.length∧l.take n.toNat=toW (val l)) (fun n=>AO [] [(0,aB neg),(1,aW l),(4,.ptr 4 0),(5,aN n)] [(4,.cells [aB false,.v (.slice none 0 0)] 48)]) ?_ ?_
 ·(repeat'(first|apply qb));refine AWP.loop (G:=Int) (fun n=>0≤n∧n≤l.length∧BA (l.take n.toNat)=BA l) (fun n=>AO [] [(0,aB neg),(1,aW l),(4,.ptr 4 0),(5,aN n)] [(4,.cells [aB false,.v (.slice none 0 0)] 48)]) (fun n=>n.toNat) (l.length:Int) ⟨by omega,by omega,by simp⟩ ?_ ?_
  ·refine Ent.of [] ?_ ?_ rfl rfl;(repeat' first|exact True.intro|refine⟨⟨AA _,rfl⟩,?_⟩|refine⟨⟨⟨_,rfl,BLe.cells (AB _)⟩,rfl⟩,?_⟩|fail)
  ·intro n ⟨h0,h1,h2⟩;(repeat' first|refine qv ?_|apply qn|apply qs|apply qr|refine qw ?_|refine Fl.skip rfl rfl ?_|refine AF rfl ?_|(refine AD rfl ?_ ?_<;>intro _<;>try(exfalso; omega))|apply qb|apply qk|apply qx|(refine CJ rfl rfl rfl rfl rfl rfl rfl rfl (by omega) (by omega) (by assumption) ?_; intro _ _ _ _)|(refine AG rfl rfl ?_ ?_<;>intro _<;>try(exfalso; omega)))
   ·rename_i hn e he he0 he1 hz;subst hz;refine LoopEnd.of (n-1) ⟨by omega,by omega,?_⟩ (by omega) ?_
    ·rw[←h2,trimL_take0 (by omega) he]
    ·refine Ent.of [] ?_ ?_ rfl rfl;(repeat' first|exact True.intro|refine⟨⟨AA _,rfl⟩,?_⟩|refine⟨⟨⟨_,rfl,BLe.cells (AB _)⟩,rfl⟩,?_⟩|fail)
   ·rename_i hn e he he0 he1 hz;refine JoinOk.of n ⟨h0,h1,?_⟩ ?_
    ·rw[←CQ hl,←h2,trimL_take1 (by omega) he hz]
    ·refine Ent.of [] ?_ ?_ rfl rfl;(repeat' first|exact True.intro|refine⟨⟨AA _,rfl⟩,?_⟩|refine⟨⟨⟨_,rfl,BLe.cells (AB _)⟩,rfl⟩,?_⟩|fail)
   ·rename_i hn;refine JoinOk.of n ⟨h0,h1,?_⟩ ?_
    ·have:n=0:=by omega
     subst this;rw[←CQ hl,←h2]; simp[BA]
    ·refine Ent.of [] ?_ ?_ rfl rfl;(repeat' first|exact True.intro|refine⟨⟨AA _,rfl⟩,?_⟩|refine⟨⟨⟨_,rfl,BLe.cells (AB _)⟩,rfl⟩,?_⟩|fail)
 ·intro n ⟨h0,h1,h2⟩
  have h3:(l.take n.toNat).length=n:=by rw[List.length_take]; omega
  (repeat' first|refine qv ?_|apply qn|apply qs|apply qr|refine qw ?_|refine qe ?_|refine Fl.skip rfl rfl ?_|(refine En rfl rfl ?_ ?_<;>(fail_if_success (intro hb_; exact absurd hb_ (by decide)))<;>intro _)|fail)
  all_goals
   rename_i hneg;refine Fl.ap0 rfl rfl rfl rfl rfl rfl rfl rfl eW rfl rfl (fun _=>rfl) (fun _=>rfl) (AA _) (by dsimp only[List.length_nil]; omega) (by omega) ?_;(repeat' first|refine qv ?_|apply qn|refine Fl.nil (fun _=>by kernel_rfl) ?_|apply qs|apply qr|refine qe ?_|apply qt);refine Ao (Ent.freeze 32 rfl) ?_;refine RetOk.of rfl (AP (aX_of ?_ ?_))
  ·subst hneg;simp only[sg,if_true];have:=BO hv;rw[h2]at h3;by_cases h0:val l=0
   ·rw[h0,toW_zero]at h3;simp at h3;rw[h0,←h3]; rfl
   ·have h4:(toW (val l)).length≠0:=fun h=>h0 (this.1 (List.eq_nil_of_length_eq_zero h));rw[decide_eq_decide]; omega
  ·rw[hab,h2]
  ·subst hneg;simp[sg]; omega
  ·rw[hab,h2]
theorem sameWords_ok (a b:List Int) (ha:a.length≤1000000) (wa:WOk a) (wb:WOk b):PureFn Tryz.prog 53 [aW a,aW b] (aB (decide (a=b))):=by
 refine AC Tryz.func53 rfl Tryz.ntmps53 rfl rfl ?_;(repeat' first|refine qv ?_|apply qn|apply qs|apply qr|(refine AQ rfl ?_ ?_<;>intro _<;>try(exfalso; omega))|apply qb|apply qk|apply qt)
 ·rename_i h;exact RetOk.of rfl (AV.Le.bool (Eq.symm (decide_eq_false fun k=>h (by rw[k]))))
 ·rename_i hlen;refine AWP.loop (G:=Nat) (fun i=>i≤a.length∧a.take i=b.take i) (fun i=>AO [] [(0,aW a),(1,aW b),(5,aN i)] []) (fun i=>a.length-i) 0 ⟨by omega,by simp⟩ ?_ ?_
  ·refine Ent.of [] ?_ ?_ rfl rfl;(repeat' first|exact True.intro|refine⟨⟨AA _,rfl⟩,?_⟩|fail)
  ·intro i ⟨h0,h1⟩;(repeat' first|refine qv ?_|apply qn|refine Fl.nil (fun _=>by kernel_rfl) ?_|apply qs|apply qr|refine qw ?_|(refine AD rfl ?_ ?_<;>intro _<;>try(exfalso; omega))|(refine AQ rfl ?_ ?_<;>intro _<;>try(exfalso; omega))|apply qb|apply qk|apply qx|apply qt|(refine CJ rfl rfl rfl rfl rfl rfl rfl rfl (by omega) (by omega) (by assumption) ?_; intro _ _ _ _)|fail)
   ·rename_i hi x hx _ _ y hy _ _ hne;rw[Int.toNat_natCast]at hx hy;refine RetOk.of rfl (AV.Le.bool (Eq.symm (decide_eq_false fun k=>?_)));subst k;rw[hx]at hy; cases hy;exact hne rfl
   ·rename_i hi x hx _ _ y hy _ _ heq;rw[Int.toNat_natCast]at hx hy;refine LoopEnd.of (i+1) ⟨by omega,?_⟩ (by omega) ?_
    ·rw[Ab hx,Ab hy,h1,heq]
    ·refine Ent.of [] ?_ ?_ rfl rfl;(repeat' first|exact True.intro|refine⟨⟨AA _,rfl⟩,?_⟩|fail)
   ·refine RetOk.of rfl (AV.Le.bool (Eq.symm (decide_eq_true ?_)));rwa [List.take_of_length_le (by omega),List.take_of_length_le (by omega)]at h1
theorem D0 (x y:Int) (hx:(toW x.natAbs).length≤1000000):PureFn Tryz.prog 17 [aX x,aX y] (aB (decide (x=y))):=by
 refine AC Tryz.func17 rfl Tryz.ntmps17 rfl rfl ?_;(repeat' first|refine qv ?_|apply qn|apply qs|apply qr|refine qe ?_|refine Fl.skip rfl rfl ?_|apply qt|(refine AG rfl rfl ?_ ?_<;>intro _<;>try(exfalso; omega)))
 ·rename_i h;refine qc (sameWords_ok (toW x.natAbs) (toW y.natAbs) hx (Ag _) (Ag _)) ?_;(repeat' first|refine qv ?_|apply qn|apply qt);refine RetOk.of rfl (AV.Le.bool ?_);rw[decide_eq_decide];rw[decide_eq_decide]at h;refine⟨fun k=>?_,fun k=>by rw[k]⟩;have:=toW_inj (by omega) (by omega) k;omega
 ·rename_i h;exact RetOk.of rfl (AV.Le.bool (Eq.symm (decide_eq_false fun k=>h (by rw[k]))))
theorem rAbs_ok (x:Int) (hx:(toW x.natAbs).length≤100000):PureFn Tryz.prog 184 [aX x] (aX (x.natAbs:Int)):=by
 refine AC Tryz.func184 rfl Tryz.ntmps184 rfl rfl ?_;(repeat' first|refine qv ?_|apply qn|apply qs|apply qr|refine qe ?_|fail);refine qc (DL false _ (Ag _) hx) ?_;(repeat' first|apply qn|refine qe ?_|apply qt);refine RetOk.of rfl (AV.Le.agg (leX (σ:=[]) ?_));rw[Ad (by omega)];simp[sg]
theorem Bs (n:Int) (h0 : -9223372036854775808≤n) (h1:n≤9223372036854775807):PureFn Tryz.prog 18 [aN n] (aX n):=by
 refine AC Tryz.func18 rfl Tryz.ntmps18 rfl rfl ?_;(repeat' first|refine qv ?_|apply qn|apply qs|apply qr|refine qw ?_|refine qe ?_|(refine AD rfl ?_ ?_<;>intro _<;>try(exfalso; omega))|apply qk|refine Fl.cvU rfl rfl rfl rfl rfl rfl ?_)
 all_goals
  refine ql eW [_,_] ?_;refine Fl.call rfl (DL (decide (n<0)) _ (WOk.cons (by omega) (by omega) (WOk.cons (by omega) (by omega) WOk.nil)) (by simp)) rfl rfl rfl (AB _) ?_;(repeat' first|apply qn|refine qe ?_|apply qt);refine RetOk.of rfl (AV.Le.agg (leX (σ:=[]) ?_));simp only[val,p32];rw[CY (by omega)];simp only[sg]; simp; split<;>omega
end Go.Proofs.YtmmfloplhopioaaGreat
namespace Go.AL
def padW:Nat→Int→List Int
  | 0,_=>[]
  | n+1,v=>v % 4294967296::padW n (v/4294967296)
theorem padW_ok:∀(n:Nat) (v:Int),WOk (padW n v)
 | 0,_=>WOk.nil
 | n+1,v=>WOk.cons (by omega) (by omega) (padW_ok n _)
theorem padW_len:∀(n:Nat) (v:Int),(padW n v).length=n
 | 0,_=>rfl
 | n+1,v=>by simp[padW,padW_len n]
theorem padW_of:∀ {l:List Int},WOk l→l=padW l.length (val l)
 | [],_=>rfl
 | x::l,h=>by
  have h1:=h.head;have h2:=padW_of h.tail;simp only[List.length_cons,padW,val];rw[show(x+4294967296*val l) % 4294967296=x by omega,show(x+4294967296*val l)/4294967296=val l by omega,←h2]
theorem padW_val:∀ {n:Nat} {v:Int},0≤v→v<BB n→val (padW n v)=v
 | 0,v,h0,h1=>by rw[CK]at h1; simp[padW,val]; omega
 | n+1,v,h0,h1=>by
  rw[Ax]at h1;simp only[padW,val];rw[padW_val (by omega) (by omega)];omega
theorem E5 {os A B:List Int} {c x y s:Int} (hA:val (A.take (os.length+1))=val (A.take os.length)+BB os.length*x) (hB:val (B.take (os.length+1))=val (B.take os.length)+BB os.length*y)
  (h:val os+BB os.length*c=val (A.take os.length)+val (B.take os.length)) (hs:s=c+x+y) :
  val (os++[s % 4294967296])+BB (os.length+1)*(s/4294967296)=val (A.take (os.length+1))+val (B.take (os.length+1)):=by
 rw[Cd,hA,hB,Ax]
 have h1:s=s % 4294967296+4294967296*(s/4294967296):=by omega
 generalize s % 4294967296=p at h1;generalize s/4294967296=q at h1;subst hs;grind
end Go.AL
namespace Go.Proofs.YtmmfloplhopioaaGreat
open Go.AL
theorem rorder_ok (x y:Int) (hx:0≤x) (hy:0≤y) (hxl:(toW x).length≤100000) (hyl:(toW y).length≤100000):PureFn Tryz.prog 131 [aW (toW x),aW (toW y)] (aN (cmpI x y)):=by
 refine AC Tryz.func131 rfl Tryz.ntmps131 rfl rfl ?_;have wx:=Ag x;have wy:=Ag y;(repeat' first|refine qv ?_|apply qn|apply qs|apply qr|refine qw ?_|(refine AD rfl ?_ ?_<;>intro _<;>try(exfalso; omega))|(refine AQ rfl ?_ ?_<;>intro _<;>try(exfalso; omega))|apply qb|apply qk|apply qt)
 ·refine RetOk.of rfl (AP ?_);rw[EN (C7 hx hy (by omega))]
 ·refine RetOk.of rfl (AP ?_);rw[EO (C7 hy hx (by omega))]
 ·rename_i hl;refine AWP.loop (G:=Int) (fun i => -1≤i∧i<(toW x).length∧(toW x).drop (i+1).toNat=(toW y).drop (i+1).toNat) (fun i=>AO [] [(0,aW (toW x)),(1,aW (toW y)),(5,aN i)] []) (fun i=>(i+1).toNat) ((toW x).length-1:Int) ⟨by omega,by omega,by rw[List.drop_of_length_le (by omega),List.drop_of_length_le (by omega)]⟩ ?_ ?_
  ·refine Ent.of [] ?_ ?_ rfl rfl;(repeat' first|exact True.intro|refine⟨⟨AA _,rfl⟩,?_⟩|fail)
  ·intro i ⟨h0,h1,h2⟩;have hsx:=Ad hx;have hsy:=Ad hy;(repeat' first|refine qv ?_|apply qn|refine Fl.nil (fun _=>by kernel_rfl) ?_|apply qs|apply qr|refine qw ?_|(refine AD rfl ?_ ?_<;>intro _<;>try(exfalso; omega))|apply qb|apply qk|apply qx|apply qt|refine qK ?_|(refine CJ rfl rfl rfl rfl rfl rfl rfl rfl (by omega) (by omega) (by assumption) ?_; intro _ _ _ _)|fail)
   ·rename_i hi u hu _ _ v hv _ _ huv;refine RetOk.of rfl (AP ?_);have:=val_lt_at wx wy hu hv (by rw[show i.toNat+1=(i+1).toNat by omega]; exact h2) huv;rw[EN (by omega)]
   ·rename_i hi u hu _ _ v hv _ _ _ huv;refine RetOk.of rfl (AP ?_);have:=val_lt_at wy wx hv hu (by rw[show i.toNat+1=(i+1).toNat by omega]; exact h2.symm) huv;rw[EO (by omega)]
   ·rename_i hi u hu _ _ v hv _ _ huv hvu;refine LoopEnd.of (i-1) ⟨by omega,by omega,?_⟩ (by omega) ?_
    ·have:=drop_eq_of hu hv (by rw[show i.toNat+1=(i+1).toNat by omega]; exact h2) (by omega);rwa [show(i-1+1).toNat=i.toNat by omega]
    ·refine Ent.of [] ?_ ?_ rfl rfl;(repeat' first|exact True.intro|refine⟨⟨AA _,rfl⟩,?_⟩|fail)
   ·refine RetOk.of rfl (AP ?_)
    have:i = -1:=by omega
    subst this;rw[show((-1:Int)+1).toNat=0 from rfl,List.drop_zero,List.drop_zero]at h2;rw[cmpI_eq (by rw[←hsx,←hsy,h2])]
theorem rplus_ok (A B:List Int) (wA:WOk A) (wB:WOk B) (hA:A.length≤50000) (hB:B.length≤50000) (N:Nat) (hN:N=(if B.length>A.length then B.length else A.length)+1):PureFn Tryz.prog 130 [aW A,aW B] (aW (padW N (val A+val B))):=by
 refine AC Tryz.func130 rfl Tryz.ntmps130 rfl rfl ?_
 have hN1:(if (B.length:Int)>(A.length:Int)then(B.length:Int)else(A.length:Int))+1=(N:Int):=by
  rw[hN]; split<;>split<;>omega
 have hNa:A.length<N∧B.length<N∧N≤50001:=by rw[hN]; split<;>omega
 (repeat'(first|refine qv ?_|apply qn|apply qs|apply qr|refine qw ?_|apply qb|refine CH rfl rfl rfl rfl rfl rfl rfl rfl rfl rfl eW 0 (by exact AB _) (by rfl) (by first|omega|(dsimp only; omega)) (by first|omega|(dsimp only; omega)) (by first|omega|(dsimp only; omega)) ?_|fail));refine AWP.loop (G:=List Int×Int) (fun(os,c)=>os.length≤N∧WOk os∧0≤c∧c≤1∧val os+BB os.length*c=val (A.take os.length)+val (B.take os.length))
  (fun(os,c)=>AO [] [(0,aW A),(1,aW B),(5,aN N),(6,.row 16),(7,aU c),(8,aN os.length)] [(16,.row 1 eW (os++List.replicate (N-os.length) 0) 94)])
  (fun(os,c)=>N-os.length) ([],0) ⟨by simp,WOk.nil,by omega,by omega,by simp[val,BB]⟩ ?_ ?_
 ·refine Ent.of [] ?_ ?_ rfl rfl;(repeat' first|exact True.intro|refine⟨⟨AA _,rfl⟩,?_⟩|refine⟨⟨⟨_,rfl,BLe.row ?_⟩,rfl⟩,?_⟩|refine⟨⟨AV.Le.int ?_,rfl⟩,?_⟩|fail)
  ·exact hN1
  ·rw[hN1]; simp
 ·intro⟨os,c⟩ ⟨h0,h1,h2,h3,h4⟩
  have hl:(os++List.replicate (N-os.length) 0).length=N:=by simp; omega
  (repeat' first|refine qv ?_|apply qn|apply qs|apply qr|refine qw ?_|(refine AD rfl ?_ ?_<;>intro _<;>try(exfalso; omega))|apply qb|apply qk|apply qx|apply qt|(refine CJ rfl rfl rfl rfl rfl rfl rfl rfl (by omega) (by omega) (by assumption) ?_; intro _ _ _ _)|refine A8 rfl rfl rfl rfl rfl rfl rfl rfl (by omega) (by first|omega|(simp; omega)) ?_|refine Bb rfl rfl rfl rfl rfl rfl rfl rfl rfl rfl rfl (AB _) rfl (by first|omega|(simp; omega)) ?_|fail)
  ·rename_i hi hiA u hu hu0 hu1 hiB v hv hv0 hv1;rw[Int.toNat_natCast]at hu;rw[Int.toNat_natCast]at hv;have hstep:=E5 (x:=u) (y:=v) (Ae hu) (Ae hv) h4 rfl;refine LoopEnd.of (os++[(c+u+v) % 4294967296],(c+u+v)/4294967296) ⟨by simp; omega,h1.append (WOk.cons (by omega) (by omega) WOk.nil),by omega,by omega,by rw[List.length_append]; exact hstep⟩ (by simp only[List.length_append,List.length_cons,List.length_nil]; omega) ?_;refine Ent.of [] ?_ ?_ rfl rfl;(repeat' first|exact True.intro|refine⟨⟨AA _,rfl⟩,?_⟩|refine⟨⟨⟨_,rfl,BLe.row ?_⟩,rfl⟩,?_⟩|refine⟨⟨AV.Le.int ?_,rfl⟩,?_⟩|fail)
   all_goals first
    | exact CP (by simp) (by simp; omega) (by rw[CY (by omega)]; omega)
    | (rw[p32]; omega)
    | (simp; done)
  ·rename_i hi hiA u hu hu0 hu1 hiB;rw[Int.toNat_natCast]at hu;have hstep:=E5 (x:=u) (y:=0) (Ae hu) (CC (by omega)) h4 rfl;refine LoopEnd.of (os++[(c+u+0) % 4294967296],(c+u+0)/4294967296) ⟨by simp; omega,h1.append (WOk.cons (by omega) (by omega) WOk.nil),by omega,by omega,by rw[List.length_append]; exact hstep⟩ (by simp only[List.length_append,List.length_cons,List.length_nil]; omega) ?_;refine Ent.of [] ?_ ?_ rfl rfl;(repeat' first|exact True.intro|refine⟨⟨AA _,rfl⟩,?_⟩|refine⟨⟨⟨_,rfl,BLe.row ?_⟩,rfl⟩,?_⟩|refine⟨⟨AV.Le.int ?_,rfl⟩,?_⟩|fail)
   all_goals first
    | exact CP (by simp) (by simp; omega) (by rw[CY (by omega)]; omega)
    | (rw[p32]; omega)
    | (simp; done)
  ·rename_i hi hiA hiB v hv hv0 hv1;rw[Int.toNat_natCast]at hv;have hstep:=E5 (x:=0) (y:=v) (CC (by omega)) (Ae hv) h4 rfl;refine LoopEnd.of (os++[(c+0+v) % 4294967296],(c+0+v)/4294967296) ⟨by simp; omega,h1.append (WOk.cons (by omega) (by omega) WOk.nil),by omega,by omega,by rw[List.length_append]; exact hstep⟩ (by simp only[List.length_append,List.length_cons,List.length_nil]; omega) ?_;refine Ent.of [] ?_ ?_ rfl rfl;(repeat' first|exact True.intro|refine⟨⟨AA _,rfl⟩,?_⟩|refine⟨⟨⟨_,rfl,BLe.row ?_⟩,rfl⟩,?_⟩|refine⟨⟨AV.Le.int ?_,rfl⟩,?_⟩|fail)
   all_goals first
    | exact CP (by simp) (by simp; omega) (by rw[CY (by omega)]; omega)
    | (rw[p32]; omega)
    | (simp; done)
  ·rename_i hi hiA hiB;have hstep:=E5 (x:=0) (y:=0) (CC (by omega)) (CC (by omega)) h4 rfl;refine LoopEnd.of (os++[(c+0+0) % 4294967296],(c+0+0)/4294967296) ⟨by simp; omega,h1.append (WOk.cons (by omega) (by omega) WOk.nil),by omega,by omega,by rw[List.length_append]; exact hstep⟩ (by simp only[List.length_append,List.length_cons,List.length_nil]; omega) ?_;refine Ent.of [] ?_ ?_ rfl rfl;(repeat' first|exact True.intro|refine⟨⟨AA _,rfl⟩,?_⟩|refine⟨⟨⟨_,rfl,BLe.row ?_⟩,rfl⟩,?_⟩|refine⟨⟨AV.Le.int ?_,rfl⟩,?_⟩|fail)
   all_goals first
    | exact CP (by simp) (by simp; omega) (by rw[CY (by omega)]; omega)
    | (rw[p32]; omega)
    | (simp; done)
  ·rename_i hi
   have hlen:os.length=N:=by omega
   rw[hlen,List.take_of_length_le (by omega),List.take_of_length_le (by omega)]at h4;refine Ao (Ent.freeze 16 rfl) ?_;refine RetOk.of rfl (AV.Le.sl ?_);have b1:=DU wA;have b2:=DU wB;have b3:=C4 (show A.length≤N-1 by omega);have b4:=C4 (show B.length≤N-1 by omega)
   have b5:BB N=4294967296*BB (N-1):=by rw[←Ax]; congr 1; omega
   have b6:=A6 (N-1);have b7:=Al h1
   have hc:c=0:=by
    have:c=0∨c=1:=by omega
    rcases this with h|h
    ·exact h
    ·subst h; omega
   subst hc;rw[hlen,Nat.sub_self,List.replicate_zero,List.append_nil,padW_of h1,hlen];congr 1;omega
end Go.Proofs.YtmmfloplhopioaaGreat
namespace Go.Proofs.YtmmfloplhopioaaGreat
open Go.AL
theorem rminus_ok (A B:List Int) (wA:WOk A) (wB:WOk B) (hA:A.length≤50000) (hlB:B.length≤A.length) (hle:val B≤val A):PureFn Tryz.prog 132 [aW A,aW B] (aW (padW A.length (val A-val B))):=by
 refine AC Tryz.func132 rfl Tryz.ntmps132 rfl rfl ?_;(repeat' first|refine qv ?_|apply qn|apply qs|apply qr|apply qb|refine CH rfl rfl rfl rfl rfl rfl rfl rfl rfl rfl eW 0 (by exact AB _) (by rfl) (by first|omega|(dsimp only; omega)) (by first|omega|(dsimp only; omega)) (by first|omega|(dsimp only; omega)) ?_|fail);refine AWP.loop (G:=List Int×Int) (fun(os,c)=>os.length≤A.length∧WOk os∧0≤c∧c≤1∧val os=val (A.take os.length)-val (B.take os.length)+BB os.length*c)
  (fun(os,c)=>AO [] [(0,aW A),(1,aW B),(5,.row 11),(6,aU c),(7,aN os.length)] [(11,.row 1 eW (os++List.replicate (A.length-os.length) 0) 94)])
  (fun(os,c)=>A.length-os.length) ([],0) ⟨by simp,WOk.nil,by omega,by omega,by simp[val,BB]⟩ ?_ ?_
 ·refine Ent.of [] ?_ ?_ rfl rfl;(repeat' first|exact True.intro|refine⟨⟨AA _,rfl⟩,?_⟩|refine⟨⟨⟨_,rfl,BLe.row rfl⟩,rfl⟩,?_⟩|fail)
 ·intro⟨os,c⟩ ⟨h0,h1,h2,h3,h4⟩
  have hl:(os++List.replicate (A.length-os.length) 0).length=A.length:=by simp; omega
  (repeat' first|refine qv ?_|apply qn|apply qs|apply qr|refine qw ?_|(refine AD rfl ?_ ?_<;>intro _<;>try(exfalso; omega))|apply qb|apply qk|apply qx|apply qt|(refine CJ rfl rfl rfl rfl rfl rfl rfl rfl (by omega) (by omega) (by assumption) ?_; intro _ _ _ _)|refine A8 rfl rfl rfl rfl rfl rfl rfl rfl (by omega) (by first|omega|(simp; omega)) ?_|refine Bb rfl rfl rfl rfl rfl rfl rfl rfl rfl rfl rfl (AB _) rfl (by first|omega|(simp; omega)) ?_|refine Fl.sumM rfl rfl rfl rfl rfl rfl ?_)
  ·rename_i hi u hu hu0 hu1 hiB v hv hv0 hv1;rw[Int.toNat_natCast]at hu hv;have hstep:=E9 (p:=(u+4294967296-c-v) % 4294967296) (q:=1-(u+4294967296-c-v)/4294967296) hu (Ae hv) h4 (by omega);refine LoopEnd.of (os++[(u+4294967296-c-v) % 4294967296],1-(u+4294967296-c-v)/4294967296) ⟨by simp; omega,h1.append (WOk.cons (by omega) (by omega) WOk.nil),by omega,by omega,by rw[List.length_append]; exact hstep⟩ (by simp only[List.length_append,List.length_cons,List.length_nil]; omega) ?_;refine Ent.of [] ?_ ?_ rfl rfl;(repeat' first|exact True.intro|refine⟨⟨AA _,rfl⟩,?_⟩|refine⟨⟨⟨_,rfl,BLe.row ?_⟩,rfl⟩,?_⟩|refine⟨⟨AV.Le.int ?_,rfl⟩,?_⟩|fail)
   all_goals first
    | exact CP (by simp) (by simp; omega) (by rw[CY (by omega)]; omega)
    | (rw[p32]; omega)
    | (simp; done)
  ·rename_i hi u hu hu0 hu1 hiB;rw[Int.toNat_natCast]at hu;have hstep:=E9 (p:=(u+4294967296-c-0) % 4294967296) (q:=1-(u+4294967296-c-0)/4294967296) hu (CC (by omega)) h4 (by omega);refine LoopEnd.of (os++[(u+4294967296-c-0) % 4294967296],1-(u+4294967296-c-0)/4294967296) ⟨by simp; omega,h1.append (WOk.cons (by omega) (by omega) WOk.nil),by omega,by omega,by rw[List.length_append]; exact hstep⟩ (by simp only[List.length_append,List.length_cons,List.length_nil]; omega) ?_;refine Ent.of [] ?_ ?_ rfl rfl;(repeat' first|exact True.intro|refine⟨⟨AA _,rfl⟩,?_⟩|refine⟨⟨⟨_,rfl,BLe.row ?_⟩,rfl⟩,?_⟩|refine⟨⟨AV.Le.int ?_,rfl⟩,?_⟩|fail)
   all_goals first
    | exact CP (by simp) (by simp; omega) (by rw[CY (by omega)]; omega)
    | (rw[p32]; omega)
    | (simp; done)
  ·rename_i hi
   have hlen:os.length=A.length:=by omega
   rw[hlen,List.take_of_length_le (by omega),List.take_of_length_le (by omega)]at h4;refine Ao (Ent.freeze 11 rfl) ?_;refine RetOk.of rfl (AV.Le.sl ?_);have b7:=DU h1;rw[hlen]at b7
   have hc:c=0:=by
    have:c=0∨c=1:=by omega
    rcases this with h|h
    ·exact h
    ·subst h; omega
   subst hc;rw[hlen,Nat.sub_self,List.replicate_zero,List.append_nil,padW_of h1,hlen];congr 1;omega
theorem rMul_ok (x y:Int) (hxl:(toW x.natAbs).length≤40000) (hyl:(toW y.natAbs).length≤40000):PureFn Tryz.prog 144 [aX x,aX y] (aX (x*y)):=by
 refine AC Tryz.func144 rfl Tryz.ntmps144 rfl rfl ?_;have wx:=Ag x.natAbs;have wy:=Ag y.natAbs;have hsx:=Ad (show 0≤(x.natAbs:Int) by omega);have hsy:=Ad (show 0≤(y.natAbs:Int) by omega);delta aX
 generalize toW x.natAbs=A at *
 generalize toW y.natAbs=B at *
 (repeat'(first|refine qv ?_|apply qn|apply qs|apply qr|refine qw ?_|refine qe ?_|apply qb|refine CH rfl rfl rfl rfl rfl rfl rfl rfl rfl rfl eW 0 (by exact AB _) (by rfl) (by first|omega|(dsimp only; omega)) (by first|omega|(dsimp only; omega)) (by first|omega|(dsimp only; omega)) ?_|fail));refine AWP.loop (G:=Nat×List Int) (fun(i,os)=>i≤A.length∧os.length=i+B.length∧WOk os∧val os=val (A.take i)*val B)
  (fun(i,os)=>AO [] [(2,.ptr 2 0),(3,.ptr 3 0),(4,.ptr 4 0),(5,.row 16),(6,aN i)] [(2,.cells [aB (decide (x<0)),aW A] 48),(3,.cells [aB (decide (y<0)),aW B] 48),(4,.cells [aB false,.v (.slice none 0 0)] 48),(16,.row 1 eW (os++List.replicate (A.length-i) 0) 94)])
  (fun(i,os)=>A.length-i) (0,List.replicate B.length 0) ⟨by omega,by simp,WOk.zeros _,by simp[val,val_zeros]⟩ ?_ ?_
 ·refine Ent.of [] ?_ ?_ rfl rfl;(repeat' first|exact True.intro|refine⟨⟨AA _,rfl⟩,?_⟩|refine⟨⟨⟨_,rfl,BLe.cells (AB _)⟩,rfl⟩,?_⟩|refine⟨⟨⟨_,rfl,BLe.row ?_⟩,rfl⟩,?_⟩|fail);rw[List.replicate_append_replicate]; congr 1; omega
 ·intro⟨i,os⟩ ⟨h0,h1,h2,h3⟩;(repeat' first|refine qv ?_|apply qn|apply qs|apply qr|(refine AD rfl ?_ ?_<;>intro _<;>try(exfalso; omega))|apply qb|apply qk|apply qx)
  ·rename_i hi;obtain⟨u,hu⟩:∃u,A[i]? = some u:=⟨_,List.getElem?_eq_getElem (by omega)⟩;obtain⟨hu0,hu1⟩:=wx.get hu;obtain⟨D,hD⟩:∃D,D=os++List.replicate (A.length-i) 0:=⟨_,rfl⟩
   have hDl:D.length=A.length+B.length:=by rw[hD,List.length_append,List.length_replicate]; omega
   have hDw:WOk D:=by rw[hD]; exact h2.append (WOk.zeros _)
   refine AWP.loop (G:=Nat×List Int×Int) (fun(k,ps,c)=>k≤B.length∧ps.length=i+k∧WOk ps∧WOk (ps++D.drop ps.length)∧0≤c∧c<4294967296∧val ps+BB ps.length*c=val (D.take ps.length)+BB i*(u*val (B.take k)))
    (fun(k,ps,c)=>AO [] [(2,.ptr 2 0),(3,.ptr 3 0),(4,.ptr 4 0),(5,.row 16),(6,aN i),(7,aU c),(8,aN k)] [(2,.cells [aB (decide (x<0)),aW A] 48),(3,.cells [aB (decide (y<0)),aW B] 48),(4,.cells [aB false,.v (.slice none 0 0)] 48),(16,.row 1 eW (ps++D.drop ps.length) 94)])
    (fun(k,ps,c)=>B.length-k) (0,D.take i,0) ⟨by omega,by rw[List.length_take]; omega,hDw.take i,by rw[List.length_take,Nat.min_eq_left (by omega),List.take_append_drop]; exact hDw,by omega,by omega,by rw[List.length_take,Nat.min_eq_left (by omega)]; simp[val]⟩ ?_ ?_
   ·refine Ent.of [] ?_ ?_ rfl rfl;(repeat' first|exact True.intro|refine⟨⟨AA _,rfl⟩,?_⟩|refine⟨⟨⟨_,rfl,BLe.cells (AB _)⟩,rfl⟩,?_⟩|refine⟨⟨⟨_,rfl,BLe.row ?_⟩,rfl⟩,?_⟩|fail);rw[List.length_take,Nat.min_eq_left (by omega),List.take_append_drop,hD]
   ·intro⟨k,ps,c⟩ ⟨k0,k1,k2,k3,k4,k5,k6⟩
    have hkl:(ps++D.drop ps.length).length=A.length+B.length:=by rw[List.length_append,List.length_drop]; omega
    (repeat' first|refine qv ?_|apply qn|refine Fl.nil (fun _=>by kernel_rfl) ?_|apply qs|apply qr|refine qw ?_|(refine Fl.mulW rfl rfl rfl rfl rfl (by omega) (by omega) (by omega) (by omega) ?_; intro _ _)|(refine AD rfl ?_ ?_<;>intro _<;>try(exfalso; omega))|apply qb|apply qk|apply qx|refine qK ?_|(refine CJ rfl rfl rfl rfl rfl rfl rfl rfl (by omega) (by omega) (by assumption) ?_; intro _ _ _ _)|refine A8 rfl rfl rfl rfl rfl rfl rfl rfl (by omega) (by first|omega|(simp; omega)) ?_|(refine Fl.rldW rfl rfl rfl rfl rfl rfl rfl (fun _=>rfl) (fun _=>rfl) (by first|omega|(simp; omega)) (by assumption) ?_; intro _ _ _ _)|refine Bb rfl rfl rfl rfl rfl rfl rfl rfl rfl rfl rfl (AB _) rfl (by first|omega|(simp; omega)) ?_|fail)
    ·rename_i hk v hv hv0 hv1 hp0 hp1 w hw hw0 hw1;rw[Int.toNat_natCast]at hv
     have hw2:D[ps.length]? = some w:=by rw[←get_drop (os:=ps) (k:=(↑i + ↑k:Int).toNat) (by omega)]; exact hw
     have hstep:=times_step k1 hw2 hv k6 rfl;refine LoopEnd.of (k+1,ps++[(c+(u*v+w)) % 4294967296],(c+(u*v+w))/4294967296) ⟨by omega,by rw[List.length_append,k1]; rfl,k2.append (WOk.cons (by omega) (by omega) WOk.nil),?_,by omega,by omega,by rw[List.length_append]; exact hstep⟩ (by simp only; omega) ?_
     ·rw[List.length_append];exact(k2.append (WOk.cons (by omega) (by omega) WOk.nil)).append (hDw.drop _)
     ·refine Ent.of [] ?_ ?_ rfl rfl;(repeat' first|exact True.intro|refine⟨⟨AA _,rfl⟩,?_⟩|refine⟨⟨⟨_,rfl,BLe.cells (AB _)⟩,rfl⟩,?_⟩|refine⟨⟨⟨_,rfl,BLe.row ?_⟩,rfl⟩,?_⟩|fail)
      all_goals first
       | (rw[List.length_append]; exact set_drop (by omega) (by omega) (by rw[CY (by omega)]; omega))
       | (rw[p32]; omega)
    ·rename_i hk
     have hkk:k=B.length:=by omega
     refine LoopEnd.of (i+1,ps++[c]) ⟨by omega,by simp; omega,k2.append (WOk.cons k4 k5 WOk.nil),?_⟩ (by simp only; omega) ?_
     ·rw[Cd,k6,Ae hu,show ps.length=os.length by omega,hD,List.take_left,h3,hkk,List.take_length];grind
     ·refine Ent.of [] ?_ ?_ rfl rfl;(repeat' first|exact True.intro|refine⟨⟨AA _,rfl⟩,?_⟩|refine⟨⟨⟨_,rfl,BLe.cells (AB _)⟩,rfl⟩,?_⟩|refine⟨⟨⟨_,rfl,BLe.row ?_⟩,rfl⟩,?_⟩|fail);rw[show D.drop ps.length=List.replicate (A.length-i) 0 by rw[hD,show ps.length=os.length by omega,List.drop_left]];exact CP (by omega) (by omega) (by omega)
  ·rename_i hi
   have hii:i=A.length:=by omega
   refine Eo rfl 16 rfl (DL _ os h2 (by omega)) rfl rfl rfl (LeL.cons (AA _) (LeL.cons (AV.Le.sl ?_) LeL.nil)) ?_
   ·rw[hii,Nat.sub_self]; simp
   (repeat' first|apply qn|refine qe ?_|apply qt);refine RetOk.of rfl (AV.Le.agg (leX (σ:=[]) ?_));rw[h3,hii,List.take_length,hsx,hsy,←sg_mul x y]
theorem rAdd_ok (x y:Int) (hxl:(toW x.natAbs).length≤40000) (hyl:(toW y.natAbs).length≤40000):PureFn Tryz.prog 70 [aX x,aX y] (aX (x+y)):=by
 refine AC Tryz.func70 rfl Tryz.ntmps70 rfl rfl ?_;have wx:=Ag x.natAbs;have wy:=Ag y.natAbs;have hsx:=Ad (show 0≤(x.natAbs:Int) by omega);have hsy:=Ad (show 0≤(y.natAbs:Int) by omega);have bx:=DU wx;have by':=DU wy;have hord:=rorder_ok x.natAbs y.natAbs (by omega) (by omega) (by omega) (by omega)
 have hlen:∀a b:Int,0≤b→b≤a→(toW b).length≤(toW a).length:=fun a b hb h=>by
  rcases Nat.lt_or_ge (toW a).length (toW b).length with k|k
  ·have:=C7 (by omega) hb k; omega
  ·exact k
 (repeat' first|refine qv ?_|apply qn|apply qs|apply qr|refine qe ?_|(refine AD rfl ?_ ?_<;>intro _<;>try(exfalso; omega))|apply qk)
 ·rename_i hsg;rw[decide_eq_decide]at hsg;obtain⟨N,hN⟩:∃N:Nat,N=(if (toW y.natAbs).length>(toW x.natAbs).length then(toW y.natAbs).length else(toW x.natAbs).length)+1:=⟨_,rfl⟩;refine Fl.call rfl (rplus_ok _ _ wx wy (by omega) (by omega) N hN) rfl rfl rfl (AB _) ?_;refine Fl.call rfl (DL (decide (x<0)) _ (padW_ok _ _) (by rw[padW_len]; split at hN<;>omega)) rfl rfl rfl (AB _) ?_;(repeat' first|refine Fl.nil (fun _=>by kernel_rfl) ?_|refine qe ?_|apply qt);refine RetOk.of rfl (AV.Le.agg (leX (σ:=[]) ?_));have b3:=C4 (show(toW x.natAbs).length≤N-1 by split at hN<;>omega);have b4:=C4 (show(toW y.natAbs).length≤N-1 by split at hN<;>omega)
  have b5:BB N=4294967296*BB (N-1):=by rw[←Ax]; congr 1; omega
  have b6:=A6 (N-1);rw[padW_val (by omega) (by omega),hsx,hsy];simp only[sg]; simp; split<;>omega
 ·rename_i hsg;rw[decide_eq_decide]at hsg;refine qc (hord) ?_;(repeat' first|refine qv ?_|apply qn|apply qs|apply qr|(refine AD rfl ?_ ?_<;>intro _<;>try(exfalso; omega))|apply qk)
  ·rename_i hge
   have hge2:(y.natAbs:Int)≤x.natAbs:=by unfold cmpI at hge; split at hge<;>omega
   refine Fl.call rfl (rminus_ok _ _ wx wy (by omega) (hlen _ _ (by omega) hge2) (by omega)) rfl rfl rfl (AB _) ?_;refine Fl.call rfl (DL (decide (x<0)) _ (padW_ok _ _) (by rw[padW_len]; omega)) rfl rfl rfl (AB _) ?_;(repeat' first|refine Fl.nil (fun _=>by kernel_rfl) ?_|refine qe ?_|apply qt);refine RetOk.of rfl (AV.Le.agg (leX (σ:=[]) ?_));rw[padW_val (by omega) (by omega),hsx,hsy];simp only[sg]; simp; split<;>omega
  ·rename_i hge
   have hge2:(x.natAbs:Int)≤y.natAbs:=by
    unfold cmpI at hge;split at hge
    ·omega
    ·split at hge<;>omega
   refine Fl.call rfl (rminus_ok _ _ wy wx (by omega) (hlen _ _ (by omega) hge2) (by omega)) rfl rfl rfl (AB _) ?_;refine Fl.call rfl (DL (decide (y<0)) _ (padW_ok _ _) (by rw[padW_len]; omega)) rfl rfl rfl (AB _) ?_;(repeat' first|refine Fl.nil (fun _=>by kernel_rfl) ?_|refine qe ?_|apply qt);refine RetOk.of rfl (AV.Le.agg (leX (σ:=[]) ?_));rw[padW_val (by omega) (by omega),hsx,hsy];simp only[sg]; simp; split<;>omega
end Go.Proofs.YtmmfloplhopioaaGreat
namespace Go.AL
def lenI (x:Int):Nat:=(toW x.natAbs).length
theorem lenI_le {x:Int} {n:Nat}:lenI x≤n↔(x.natAbs:Int)<BB n:=BS (by omega) n
theorem lenI_lt (x:Int):(x.natAbs:Int)<BB (lenI x):=lenI_le.1 (Nat.le_refl _)
theorem lenI_mul (x y:Int):lenI (x*y)≤lenI x+lenI y:=by
 rw[lenI_le,Int.natAbs_mul,BB_add,Int.natCast_mul];have h1:=lenI_lt x;have h2:=lenI_lt y;have p1:=A6 (lenI x);have p2:=A6 (lenI y);have e1:(x.natAbs:Int)*y.natAbs≤x.natAbs*BB (lenI y):=Int.mul_le_mul_of_nonneg_left (by omega) (by omega);have e2:(x.natAbs:Int)*BB (lenI y)<BB (lenI x)*BB (lenI y):=Int.mul_lt_mul_of_pos_right h1 p2;omega
theorem lenI_mulpow (v x:Int):∀n:Nat,lenI (v*x^n)≤lenI v+n*lenI x
 | 0=>by simp
 | n+1=>by
  rw[Int.pow_succ,←Int.mul_assoc];have h1:=lenI_mul (v*x^n) x;have h2:=lenI_mulpow v x n
  have:(n+1)*lenI x=n*lenI x+lenI x:=by rw[Nat.add_mul]; omega
  omega
def CV:List Int→List Int→Nat
  | x::X,e::E=>e.toNat*lenI x+CV X E
  | _,_=>0
theorem loadE_take:∀(X E:List Int) (k:Nat),CV (X.take k) (E.take k)≤CV X E
 | [],E,k=>by simp[CV]
 | _::_,[],k=>by simp[CV]
 | x::X,e::E,0=>by simp[CV]
 | x::X,e::E,k+1=>by simp only[List.take_succ_cons,CV]; have:=loadE_take X E k; omega
theorem loadE_snoc:∀ {X E:List Int} {k:Nat} {x e:Int},X[k]? = some x→E[k]? = some e→CV (X.take (k+1)) (E.take (k+1))=CV (X.take k) (E.take k)+e.toNat*lenI x
 | [],_,_,_,_,h,_=>by simp at h
 | _::_,[],_,_,_,_,h=>by simp at h
 | y::X,d::E,0,x,e,h1,h2=>by simp at h1 h2; subst h1 h2; simp[CV]
 | y::X,d::E,k+1,x,e,h1,h2=>by
  simp only[List.take_succ_cons,CV];rw[loadE_snoc (X:=X) (E:=E) (k:=k) (by simpa using h1) (by simpa using h2)]; omega
theorem FB (c:Int):∀(X E:List Int),lenI (c*AX X E)≤lenI c+CV X E
 | [],E=>by simp[AX,CV]
 | _::_,[]=>by simp[AX,CV]
 | x::X,e::E=>by
  simp only[AX,CV];rw[←Int.mul_assoc];have h1:=FB (c*x^e.toNat) X E;have h2:=lenI_mulpow c x e.toNat;omega
def TS (X:List Int) (l:List TZ):Int:=sumL (l.map (tv X))
def AS (X:List Int) (l:List TZ):Int:=sumL (l.map fun t=>((tv X t).natAbs:Int))
theorem TS_succ {X:List Int} {l:List TZ} {i:Nat} {t:TZ} (h:l[i]? = some t):TS X (l.take (i+1))=TS X (l.take i)+tv X t:=by
 unfold TS; rw[List.map_take,List.map_take]; exact B5 (by rw[List.getElem?_map,h]; rfl)
theorem AS_succ {X:List Int} {l:List TZ} {i:Nat} {t:TZ} (h:l[i]? = some t):AS X (l.take (i+1))=AS X (l.take i)+((tv X t).natAbs:Int):=by
 unfold AS; rw[List.map_take,List.map_take]; exact B5 (by rw[List.getElem?_map,h]; rfl)
theorem AS_take (X:List Int) (l:List TZ) (i:Nat):0≤AS X (l.take i)∧AS X (l.take i)≤AS X l:=by
 unfold AS; rw[List.map_take];refine sumL_take_le (fun x hx=>?_) i;obtain⟨t,_,rfl⟩:=List.mem_map.1 hx;show(0:Int)≤((tv X t).natAbs:Int);omega
theorem TS_eq (X:List Int) (p:PZ):TS X p.terms=pv X p:=by
 unfold pv PS OS TS
 induction p.terms with
 | nil=>rfl
 | cons t l ih=>
  simp only[List.map_cons,sumL]
  have:tv X t=plI (tv X t)+opI (tv X t):=by unfold plI opI; split<;>omega
  omega
theorem TS_le (X:List Int):∀l:List TZ,(TS X l).natAbs≤(AS X l).natAbs∧0≤AS X l
 | []=>by simp[TS,AS,sumL]
 | t::l=>by
  have:=TS_le X l;simp only[TS,AS,List.map_cons,sumL]at this ⊢;omega
theorem AS_lt {X:List Int} {B:Int} (hB:0<B):∀ {l:List TZ},(∀t∈l,((tv X t).natAbs:Int)<B)→AS X l≤l.length*B
 | [],_=>by simp[AS,sumL]
 | t::l,h=>by
  have h1:=AS_lt hB (l:=l) fun t ht=>h t (by simp[ht]);have h2:=h t (by simp);simp only[AS,List.map_cons,sumL,List.length_cons]at h1 ⊢
  have:((l.length+1:Nat):Int)*B=l.length*B+B:=by rw[Int.natCast_add,Int.add_mul]; omega
  omega
theorem AS_len {X:List Int} {l:List TZ} {M:Nat} (hl:l.length≤3000) (h:∀t∈l,lenI (tv X t)≤M) (i:Nat):lenI (AS X (l.take i))≤M+1∧lenI (TS X (l.take i))≤M+1:=by
 have hb:∀t∈l.take i,((tv X t).natAbs:Int)<BB M:=fun t ht=>lenI_le.1 (h t (List.mem_of_mem_take ht));have h1:=AS_lt (A6 M) hb;have h2:=TS_le X (l.take i)
 have h3:((l.take i).length:Int)≤3000:=by rw[List.length_take]; omega
 have h4:((l.take i).length:Int)*BB M≤3000*BB M:=Int.mul_le_mul_of_nonneg_right h3 (by have:=A6 M; omega);have h5:=Ax M;have h6:=A6 M;constructor
 ·rw[lenI_le]; omega
 ·rw[lenI_le]; omega
end Go.AL
namespace Go.Proofs.YtmmfloplhopioaaGreat
open Go.AL
set_option maxHeartbeats 1000000 in
theorem rEval_ok (p:PZ) (X:List Int) (hw:WP p) (hp:OkP p) (hl:(X.length:Int)=p.vars) (M:Nat) (hM:M≤30000) (hload:∀t∈p.terms,lenI (zval t.c)+CV X t.e≤M):PureFn Tryz.prog 141 [aP p,.sl 2 eX X] (.tup [aX (TS X p.terms),aB (!decide (Fit (AS X p.terms)))]):=by
 refine AC Tryz.func141 rfl Tryz.ntmps141 rfl rfl ?_;have hv0:=hp.v0;have hv1:=hp.v1;have hlen:=hp.len;have htl:∀t∈p.terms,lenI (tv X t)≤M:=fun t ht=>Nat.le_trans (FB _ _ _) (hload t ht);have hsl:=AS_len (X:=X) hlen htl;(repeat' first|refine qv ?_|apply qn|apply qs|apply qr|refine qe ?_|apply qb);refine AWP.loop (G:=Nat) (fun i=>i≤p.terms.length) (fun i=>AO [] [(1,.sl 2 eX X),(2,.ptr 2 0),(4,.ptr 4 0),(6,.ptr 6 0),(7,.ptr 7 0),(8,aB (!decide (Fit (AS X (p.terms.take i))))),(9,aN i)] [(2,.cells (eP p) 105),(4,.cells [aB false,.v (.slice none 0 0)] 48),(6,.cells (eX (TS X (p.terms.take i))) 48),(7,.cells (eX (AS X (p.terms.take i))) 48)]) (fun i=>p.terms.length-i) 0 (by omega) ?_ ?_
 ·refine Ent.of [] ?_ ?_ rfl rfl;(repeat' first|exact True.intro|refine⟨⟨AA _,rfl⟩,?_⟩|refine⟨⟨⟨_,rfl,BLe.cells (AB _)⟩,rfl⟩,?_⟩|refine⟨⟨⟨_,rfl,BLe.cells ?_⟩,rfl⟩,?_⟩|refine⟨⟨AV.Le.bool ?_,rfl⟩,?_⟩|fail)
  ·simp[AS,sumL,Fit.zero]
  ·exact DQ (by simp[TS,sumL])
  ·exact DQ (by simp[AS,sumL])
 ·intro i k0;(repeat' first|refine qv ?_|apply qn|apply qs|apply qr|refine qe ?_|(refine AD rfl ?_ ?_<;>intro _<;>try(exfalso; omega))|apply qb|apply qk|apply qx|apply qt|(refine Ay rfl rfl rfl rfl rfl rfl rfl rfl (by omega) (by omega) ?_; intro _ _)|fail)
  ·rename_i hi t ht;rw[Int.toNat_natCast]at ht;have htm:=List.mem_of_getElem? ht;have hot:=hp.terms t htm
   have hte:t.e.length=X.length:=by have:=hot.len; omega
   have hzc:=zval_aZ (hw t htm) hot.coef;have hld:=hload t htm;refine AWP.loop (G:=Nat) (fun k=>k≤X.length) (fun k=>AO [] [(1,.sl 2 eX X),(2,.ptr 2 0),(4,.ptr 4 0),(6,.ptr 6 0),(7,.ptr 7 0),(8,aB (!decide (Fit (AS X (p.terms.take i))))),(9,aN i),(10,.ptr 10 0),(11,.ptr 11 0),(12,aN k)] [(2,.cells (eP p) 105),(4,.cells [aB false,.v (.slice none 0 0)] 48),(6,.cells (eX (TS X (p.terms.take i))) 48),(7,.cells (eX (AS X (p.terms.take i))) 48),(10,.cells (eT t) 158),(11,.cells (eX (zval t.c*AX (X.take k) (t.e.take k))) 48)]) (fun k=>X.length-k) 0 (by omega) ?_ ?_
   ·refine Ent.of [] ?_ ?_ rfl rfl;(repeat' first|exact True.intro|refine⟨⟨AA _,rfl⟩,?_⟩|refine⟨⟨⟨_,rfl,BLe.cells (AB _)⟩,rfl⟩,?_⟩|refine⟨⟨⟨_,rfl,BLe.cells ?_⟩,rfl⟩,?_⟩|fail);exact leZ (by simp only[List.take_zero,AX,Int.mul_one]; exact hzc)
   ·intro k q0;(repeat' first|refine qv ?_|apply qn|apply qs|apply qr|(refine AD rfl ?_ ?_<;>intro _<;>try(exfalso; omega))|apply qb|apply qk|apply qx)
    ·rename_i hk;obtain⟨x,hx⟩:∃x,X[k]? = some x:=⟨_,List.getElem?_eq_getElem (by omega)⟩;obtain⟨e,he⟩:∃e,t.e[k]? = some e:=⟨_,List.getElem?_eq_getElem (by omega)⟩;have heb:=hot.exps.get he;have hstep:=E4 hx he;have hlo:=loadE_snoc hx he;have hlt:=loadE_take X t.e (k+1);have hlv:=FB (zval t.c) (X.take k) (t.e.take k)
     have hek:k<t.e.length:=by omega
     refine AWP.loop (G:=Nat) (fun n=>(n:Int)≤e) (fun n=>AO [] [(1,.sl 2 eX X),(2,.ptr 2 0),(4,.ptr 4 0),(6,.ptr 6 0),(7,.ptr 7 0),(8,aB (!decide (Fit (AS X (p.terms.take i))))),(9,aN i),(10,.ptr 10 0),(11,.ptr 11 0),(12,aN k),(13,aN n)] [(2,.cells (eP p) 105),(4,.cells [aB false,.v (.slice none 0 0)] 48),(6,.cells (eX (TS X (p.terms.take i))) 48),(7,.cells (eX (AS X (p.terms.take i))) 48),(10,.cells (eT t) 158),(11,.cells (eX (zval t.c*AX (X.take k) (t.e.take k)*x^n)) 48)]) (fun n=>e.toNat-n) 0 (by omega) ?_ ?_
     ·refine Ent.of [] ?_ ?_ rfl rfl;(repeat' first|exact True.intro|refine⟨⟨AA _,rfl⟩,?_⟩|refine⟨⟨⟨_,rfl,BLe.cells (AB _)⟩,rfl⟩,?_⟩|refine⟨⟨⟨_,rfl,BLe.cells ?_⟩,rfl⟩,?_⟩|fail);exact leX (by simp)
     ·intro n n0;(repeat' first|refine qv ?_|apply qn|apply qs|apply qr|refine qw ?_|(refine AD rfl ?_ ?_<;>intro _<;>try(exfalso; omega))|apply qb|apply qk|apply qx|refine qK ?_|fail)
      ·rename_i hn;have hl2:=lenI_mulpow (zval t.c*AX (X.take k) (t.e.take k)) x n;have hm:n*lenI x≤e.toNat*lenI x:=Nat.mul_le_mul_right _ (by omega);have hm1:1*lenI x≤e.toNat*lenI x:=Nat.mul_le_mul_right _ (by omega);refine Fl.call rfl (rMul_ok (zval t.c*AX (X.take k) (t.e.take k)*x^n) x (show lenI _≤_ by omega) (show lenI _≤_ by omega)) rfl rfl rfl (AB _) ?_;(repeat' first|refine qv ?_|apply qn|refine Fl.nil (fun _=>by kernel_rfl) ?_|apply qr|refine qw ?_|refine qe ?_|fail);refine LoopEnd.of (n+1) (by omega) (by omega) ?_;refine Ent.of [] ?_ ?_ rfl rfl;(repeat' first|exact True.intro|refine⟨⟨AA _,rfl⟩,?_⟩|refine⟨⟨⟨_,rfl,BLe.cells (AB _)⟩,rfl⟩,?_⟩|refine⟨⟨⟨_,rfl,BLe.cells ?_⟩,rfl⟩,?_⟩|fail);exact leX (by rw[Int.pow_succ,Int.mul_assoc])
      ·rename_i hn;refine LoopEnd.of (k+1) (by omega) (by omega) ?_;refine Ent.of [] ?_ ?_ rfl rfl;(repeat' first|exact True.intro|refine⟨⟨AA _,rfl⟩,?_⟩|refine⟨⟨⟨_,rfl,BLe.cells (AB _)⟩,rfl⟩,?_⟩|refine⟨⟨⟨_,rfl,BLe.cells ?_⟩,rfl⟩,?_⟩|fail);exact leX (by rw[hstep,Int.mul_assoc,show n=e.toNat by omega])
    ·rename_i hk;have hc1:X.take k=X:=List.take_of_length_le (by omega);have hc2:t.e.take k=t.e:=List.take_of_length_le (by omega)
     have hv:zval t.c*AX (X.take k) (t.e.take k)=tv X t:=by rw[hc1,hc2]; rfl
     have hvl:=htl t htm;have hts:=TS_succ (X:=X) ht;have has:=AS_succ (X:=X) ht;have hl0:=hsl i;have hb1:=AS_take X p.terms i;have hb2:=AS_take X p.terms (i+1);refine Fl.call rfl (rAdd_ok (TS X (p.terms.take i)) _ (show lenI _≤_ by omega) (show lenI _≤_ by rw[hv]; omega)) rfl rfl rfl (AB _) ?_;(repeat' first|refine qv ?_|fail);refine Fl.call rfl (rAbs_ok (zval t.c*AX (X.take k) (t.e.take k)) (show lenI _≤_ by rw[hv]; omega)) rfl rfl rfl (AB _) ?_;refine Fl.call rfl (rAdd_ok (AS X (p.terms.take i)) _ (show lenI _≤_ by omega) (show lenI _≤_ by rw[hv]; unfold lenI at hvl ⊢; rw[Int.natAbs_natCast]; omega)) rfl rfl rfl (AB _) ?_;(repeat' first|refine qv ?_|apply qn|refine Fl.nil (fun _=>by kernel_rfl) ?_|apply qr|refine qw ?_|refine qe ?_|refine Fl.skip rfl rfl ?_|(refine Ap rfl rfl ?_ ?_<;>intro _<;>try(exfalso; omega)))
     ·rename_i hnf;have hnf2:¬Fit (AS X (p.terms.take (i+1))):=fun h=>hnf (h.le (by omega));refine LoopEnd.of (i+1) (by omega) (by omega) ?_;refine Ent.of [] ?_ ?_ rfl rfl;(repeat' first|exact True.intro|refine⟨⟨AA _,rfl⟩,?_⟩|refine⟨⟨⟨_,rfl,BLe.cells (AB _)⟩,rfl⟩,?_⟩|refine⟨⟨⟨_,rfl,BLe.cells ?_⟩,rfl⟩,?_⟩|refine⟨⟨AV.Le.bool ?_,rfl⟩,?_⟩|fail)
      ·rw[decide_eq_false hnf2]; rfl
      ·exact leX (by rw[hts,hv])
      ·exact leX (by rw[has,hv])
     ·rename_i hf;refine qc (rFits_ok (AS X (p.terms.take i)+((zval t.c*AX (X.take k) (t.e.take k)).natAbs:Int))) ?_;(repeat' first|refine qv ?_|apply qn|apply qr|refine qw ?_|fail);refine LoopEnd.of (i+1) (by omega) (by omega) ?_;refine Ent.of [] ?_ ?_ rfl rfl;(repeat' first|exact True.intro|refine⟨⟨AA _,rfl⟩,?_⟩|refine⟨⟨⟨_,rfl,BLe.cells (AB _)⟩,rfl⟩,?_⟩|refine⟨⟨⟨_,rfl,BLe.cells ?_⟩,rfl⟩,?_⟩|refine⟨⟨AV.Le.bool ?_,rfl⟩,?_⟩|fail)
      ·rw[has,hv]
      ·exact leX (by rw[hts,hv])
      ·exact leX (by rw[has,hv])
  ·rename_i hi;have hti:p.terms.take i=p.terms:=List.take_of_length_le (by omega);rw[hti];exact RetOk.of rfl (AA _)
end Go.Proofs.YtmmfloplhopioaaGreat
namespace Go.AL
def AsL (X:List Int) (l:LZ):Prop:=∀p∈l.polys,Fit (AS (atOf X l.vars) p.terms)
def LoadL (M:Nat) (X:List Int) (l:LZ):Prop:=∀p∈l.polys,∀t∈p.terms,lenI (zval t.c)+CV (atOf X l.vars) t.e≤M
end Go.AL
namespace Go.Proofs.YtmmfloplhopioaaGreat
open Go.AL
theorem rvalues_ok (l:LZ) (X:List Int) (hw:WL l) (hL:OkL X.length l) (M:Nat) (hM:M≤30000) (hload:LoadL M X l) (r:AV) (hr1:AsL X l→r = .tup [.sl 2 eX (lvals X l),aB true]) (hr2:¬AsL X l→r = .tup [.v (.slice none 0 0),aB false]) :
  PureFn Tryz.prog 76 [aL l,.sl 2 eX X] r:=by
 refine AC Tryz.func76 rfl Tryz.ntmps76 rfl rfl ?_;have hvl:=hL.vlen
 have hn3:BW l.kind≤3:=by unfold BW; repeat' split<;>omega
 have hpl:=hL.len
 have hla:(atOf X l.vars).length=l.vars.length:=by simp[atOf]
 (repeat' first|refine qv ?_|apply qn|apply qs|apply qr|refine qe ?_|apply qb);refine AY (BV 6 806 rfl rfl 2 eX 48) ?_;refine AWP.loop (G:=Nat) (fun i=>i≤l.vars.length) (fun i=>AO [] [(1,.sl 2 eX X),(2,.ptr 2 0),(6,.row 6),(7,.v (.slice none 0 0)),(8,aN i)] [(2,.cells (eL l) 99),(6,.row 2 eX (atOf X (l.vars.take i)) 48)]) (fun i=>l.vars.length-i) 0 (by omega) ?_ ?_
 ·refine Ent.of [(6,806)] ?_ ?_ rfl rfl;(repeat' first|exact True.intro|refine⟨⟨AA _,rfl⟩,?_⟩|refine⟨⟨AV.Le.any _,rfl⟩,?_⟩|refine⟨⟨⟨_,rfl,BLe.cells (AB _)⟩,rfl⟩,?_⟩|refine⟨⟨⟨_,rfl,BLe.row rfl⟩,rfl⟩,?_⟩|refine⟨⟨⟨_,rfl,BLe.row ?_⟩,rfl⟩,?_⟩|refine⟨⟨⟨_,rfl,BLe.cells ?_⟩,rfl⟩,?_⟩|refine⟨⟨AV.Le.int ?_,rfl⟩,?_⟩|refine⟨⟨AV.Le.bool ?_,rfl⟩,?_⟩|refine⟨⟨AV.Le.sl ?_,rfl⟩,?_⟩|refine⟨⟨AP ?_,rfl⟩,?_⟩|fail)
 ·intro i k0
  have hli:(atOf X (l.vars.take i)).length=i:=by simp[atOf]; omega
  by_cases hi:i<l.vars.length
  ·obtain⟨v,hv⟩:∃v,l.vars[i]? = some v:=⟨_,List.getElem?_eq_getElem hi⟩;have hvb:=incB_mem hL.inc (List.mem_of_getElem? hv);(repeat' first|refine qv ?_|apply qn|apply qs|apply qr|(refine AD rfl ?_ ?_<;>intro _<;>try(exfalso; omega))|apply qb|apply qk|refine qK ?_|(refine Ay rfl rfl rfl rfl rfl rfl rfl rfl (by omega) (by omega) ?_; intro _ _)|fail);rename_i x hx;refine ql eX [x] ?_;refine qa (hby:=(by dsimp only[List.length_nil,List.length_cons]; omega)) (hm:=(by simp; omega)) (r:=?_);(repeat' first|refine qv ?_|apply qn|apply qr|refine qw ?_|fail);refine LoopEnd.of (i+1) (by omega) (by omega) ?_;refine Ent.of [(6,29)] ?_ ?_ rfl rfl;(repeat' first|exact True.intro|refine⟨⟨AA _,rfl⟩,?_⟩|refine⟨⟨AV.Le.any _,rfl⟩,?_⟩|refine⟨⟨⟨_,rfl,BLe.cells (AB _)⟩,rfl⟩,?_⟩|refine⟨⟨⟨_,rfl,BLe.row rfl⟩,rfl⟩,?_⟩|refine⟨⟨⟨_,rfl,BLe.row ?_⟩,rfl⟩,?_⟩|refine⟨⟨⟨_,rfl,BLe.cells ?_⟩,rfl⟩,?_⟩|refine⟨⟨AV.Le.int ?_,rfl⟩,?_⟩|refine⟨⟨AV.Le.bool ?_,rfl⟩,?_⟩|refine⟨⟨AV.Le.sl ?_,rfl⟩,?_⟩|refine⟨⟨AP ?_,rfl⟩,?_⟩|fail);exact(atOf_snoc hv hx).symm
  ·(repeat'(first|refine qv ?_|apply qn|apply qs|apply qr|(refine AD rfl ?_ ?_<;>intro _<;>try(exfalso; omega))|apply qb|apply qx));rename_i hi2;have hti:l.vars.take i=l.vars:=List.take_of_length_le (by omega);refine AY (Ent.freeze 6 rfl) ?_;refine AY (BV 7 807 rfl rfl 2 eX 48) ?_;refine AWP.loop (G:=Nat) (fun j=>j≤l.polys.length∧∀p∈l.polys.take j,Fit (AS (atOf X l.vars) p.terms)) (fun j=>AO [] [(2,.ptr 2 0),(6,.sl 2 eX (atOf X l.vars)),(7,.row 7),(9,aN j)] [(2,.cells (eL l) 99),(7,.row 2 eX ((l.polys.take j).map (pv (atOf X l.vars))) 48)]) (fun j=>l.polys.length-j) 0 ⟨by omega,by simp⟩ ?_ ?_
   ·refine Ent.of [(7,807)] ?_ ?_ rfl rfl;(repeat' first|exact True.intro|refine⟨⟨AA _,rfl⟩,?_⟩|refine⟨⟨AV.Le.any _,rfl⟩,?_⟩|refine⟨⟨⟨_,rfl,BLe.cells (AB _)⟩,rfl⟩,?_⟩|refine⟨⟨⟨_,rfl,BLe.row rfl⟩,rfl⟩,?_⟩|refine⟨⟨⟨_,rfl,BLe.row ?_⟩,rfl⟩,?_⟩|refine⟨⟨⟨_,rfl,BLe.cells ?_⟩,rfl⟩,?_⟩|refine⟨⟨AV.Le.int ?_,rfl⟩,?_⟩|refine⟨⟨AV.Le.bool ?_,rfl⟩,?_⟩|refine⟨⟨AV.Le.sl ?_,rfl⟩,?_⟩|refine⟨⟨AP ?_,rfl⟩,?_⟩|fail);rw[hti]
   ·clear hi hi2 hti hli k0 i; intro j ⟨k0,k1⟩
    have hlj:((l.polys.take j).map (pv (atOf X l.vars))).length=j:=by simp; omega
    (repeat' first|refine qv ?_|apply qn|apply qs|apply qr|(refine AD rfl ?_ ?_<;>intro _<;>try(exfalso; omega))|apply qb|apply qk|apply qx|apply qt|(refine Ay rfl rfl rfl rfl rfl rfl rfl rfl (by omega) (by omega) ?_; intro _ _)|fail)
    ·rename_i hj p hp;rw[Int.toNat_natCast]at hp;have hpm:=List.mem_of_getElem? hp;have hpo:=hL.polys p hpm;have hev:=rEval_ok p (atOf X l.vars) (hw p hpm) hpo.2 (by rw[hla]; exact hpo.1.symm) M hM (hload p hpm);rw[TS_eq]at hev;by_cases he:Fit (AS (atOf X l.vars) p.terms)
     ·rw[decide_eq_true he]at hev
      have hft:Fit (pv (atOf X l.vars) p):=by rw[←TS_eq]; exact he.le (TS_le _ _).1
      refine qc (hev) ?_;(repeat' first|refine qv ?_|apply qn|apply qs|apply qr|refine qe ?_|fail);have hfi:=rFits_ok (pv (atOf X l.vars) p);rw[decide_eq_true hft]at hfi;refine qc (hfi) ?_;(repeat' first|refine qv ?_|apply qn|apply qr|refine AF rfl ?_|apply qk);refine ql eX [pv (atOf X l.vars) p] ?_;refine qa (hby:=(by dsimp only[List.length_nil,List.length_cons]; omega)) (hm:=(by simp; omega)) (r:=?_);(repeat' first|refine qv ?_|apply qn|apply qr|refine qw ?_|fail);refine LoopEnd.of (j+1) ⟨by omega,A3 hp k1 he⟩ (by omega) ?_;refine Ent.of [(7,56)] ?_ ?_ rfl rfl;(repeat' first|exact True.intro|refine⟨⟨AA _,rfl⟩,?_⟩|refine⟨⟨AV.Le.any _,rfl⟩,?_⟩|refine⟨⟨⟨_,rfl,BLe.cells (AB _)⟩,rfl⟩,?_⟩|refine⟨⟨⟨_,rfl,BLe.row rfl⟩,rfl⟩,?_⟩|refine⟨⟨⟨_,rfl,BLe.row ?_⟩,rfl⟩,?_⟩|refine⟨⟨⟨_,rfl,BLe.cells ?_⟩,rfl⟩,?_⟩|refine⟨⟨AV.Le.int ?_,rfl⟩,?_⟩|refine⟨⟨AV.Le.bool ?_,rfl⟩,?_⟩|refine⟨⟨AV.Le.sl ?_,rfl⟩,?_⟩|refine⟨⟨AP ?_,rfl⟩,?_⟩|fail);rw[Ab hp,List.map_append]; rfl
     ·rw[decide_eq_false he]at hev;rw[hr2 fun h=>he (h p hpm)];refine qc (hev) ?_;(repeat' first|refine qv ?_|apply qn|apply qs|apply qr|refine qe ?_|refine Fl.skip rfl rfl ?_|refine AJ rfl ?_|apply qt);exact RetOk.of rfl (AA _)
    ·rename_i hj;have htj:l.polys.take j=l.polys:=List.take_of_length_le (by omega);rw[htj]at k1;rw[hr1 k1];refine Ao (Ent.freeze 7 rfl) ?_;refine RetOk.of rfl ?_;rw[htj];exact AA _
end Go.Proofs.YtmmfloplhopioaaGreat
namespace Go.AL
theorem Fit.lenI {x:Int} (h:Fit x):lenI x≤4096:=h.len
end Go.AL
namespace Go.Proofs.YtmmfloplhopioaaGreat
open Go.AL
def unitE (n i:Nat):List Int:=(List.replicate n 0).set i 1
def pVar (n i:Nat):PZ:=⟨n,[⟨zOf 1,unitE n i⟩]⟩
theorem rVar_ok (n i:Nat) (hi:i<n) (hn:n≤1000):PureFn Tryz.prog 119 [aN n,aN i] (aP (pVar n i)):=by
 refine AC Tryz.func119 rfl Tryz.ntmps119 rfl rfl ?_;refine AE ?_;(repeat' first|apply qn|apply qr|refine qe ?_|fail);refine⟨AE ?_⟩;(repeat' first|refine qv ?_|apply qn|apply qr|refine CH rfl rfl rfl rfl rfl rfl rfl rfl rfl rfl eI 0 (by exact AB _) (by rfl) (by first|omega|(dsimp only; omega)) (by first|omega|(dsimp only; omega)) (by first|omega|(dsimp only; omega)) ?_|fail);refine⟨AE ?_⟩;(repeat' first|refine qv ?_|apply qn|apply qr|refine A8 rfl rfl rfl rfl rfl rfl rfl rfl (by omega) (by first|omega|(simp; omega)) ?_|refine Bb rfl rfl rfl rfl rfl rfl rfl rfl rfl rfl rfl (AB _) rfl (by first|omega|(simp; omega)) ?_|fail);refine⟨?_⟩;refine AY (Ent.freeze 7 rfl) ?_;(repeat' first|refine qv ?_|apply qs|apply qr);refine qc (Bs 1 (by omega) (by omega)) ?_;(repeat' first|refine qv ?_|refine qe ?_|fail);refine ql eT [⟨zOf 1,unitE n i⟩] ?_;(repeat' first|apply qn|refine qe ?_|apply qt);exact RetOk.of rfl (AA _)
end Go.Proofs.YtmmfloplhopioaaGreat
namespace Go.AL
def ordX (x y:Int):List Int→List Int→Int
  | a::l,b::m=>if x=y then ordX a b l m else cmpI x y
  | _,_=>cmpI x y
def rOrd (a b:List Int):Int:=ordX (sumL a) (sumL b) a b
theorem ordX_drop {x y:Int} {a b:List Int} {i:Nat} {u v:Int} (ha:a[i]? = some u) (hb:b[i]? = some v):ordX x y (a.drop i) (b.drop i)=if x=y then ordX u v (a.drop (i+1)) (b.drop (i+1))else cmpI x y:=by
 rw[List.drop_eq_getElem_cons (List.getElem?_eq_some_iff.1 ha).1,List.drop_eq_getElem_cons (List.getElem?_eq_some_iff.1 hb).1,(List.getElem?_eq_some_iff.1 ha).2,(List.getElem?_eq_some_iff.1 hb).2];rfl
theorem ordX_ne {x y:Int} (h:x≠y):∀(a b:List Int),ordX x y a b=cmpI x y
 | [],_=>rfl
 | _::_,[]=>rfl
 | _::_,_::_=>if_neg h
def De (t:TZ) (l:List TZ):List TZ:=if t.c.w.length=0 then l else t::l
def sumT (a b:TZ):TZ:=⟨zOf (zval a.c+zval b.c),a.e⟩
def As:List TZ→List TZ→List TZ
  | [],[]=>[]
  | a::l,[]=>De a (As l [])
  | [],b::m=>De b (As [] m)
  | a::l,b::m=>if rOrd a.e b.e=1 then De a (As l (b::m))else if rOrd a.e b.e = -1 then De b (As (a::l) m)else De (sumT a b) (As l m)
  termination_by a b=>a.length+b.length
theorem mergeT_a {a b:List TZ} {i k:Nat} {t:TZ} (h:a[i]? = some t) (hk:b.length≤k):As (a.drop i) (b.drop k)=De t (As (a.drop (i+1)) (b.drop k)):=by
 rw[List.drop_eq_getElem_cons (List.getElem?_eq_some_iff.1 h).1,(List.getElem?_eq_some_iff.1 h).2,List.drop_of_length_le hk,As]
theorem mergeT_b {a b:List TZ} {i k:Nat} {t:TZ} (h:b[k]? = some t) (hk:a.length≤i):As (a.drop i) (b.drop k)=De t (As (a.drop i) (b.drop (k+1))):=by
 rw[List.drop_eq_getElem_cons (List.getElem?_eq_some_iff.1 h).1,(List.getElem?_eq_some_iff.1 h).2,List.drop_of_length_le hk,As]
theorem mergeT_c {a b:List TZ} {i k:Nat} {t u:TZ} (h:a[i]? = some t) (h2:b[k]? = some u):As (a.drop i) (b.drop k)=if rOrd t.e u.e=1 then De t (As (a.drop (i+1)) (b.drop k))else if rOrd t.e u.e = -1 then De u (As (a.drop i) (b.drop (k+1)))else De (sumT t u) (As (a.drop (i+1)) (b.drop (k+1))):=by
 rw[List.drop_eq_getElem_cons (List.getElem?_eq_some_iff.1 h).1,(List.getElem?_eq_some_iff.1 h).2,List.drop_eq_getElem_cons (List.getElem?_eq_some_iff.1 h2).1,(List.getElem?_eq_some_iff.1 h2).2,As]
theorem keepT_0 {t:TZ} {l:List TZ} (h:t.c.w.length=0):De t l=l:=if_pos h
theorem keepT_1 {t:TZ} {l:List TZ} (h:¬t.c.w.length=0):De t l=t::l:=if_neg h
structure TermsOk (n:Nat) (M:Nat) (l:List TZ):Prop where
  w:∀t∈l,WT t
  c:∀t∈l,t.c=zOf (zval t.c)
  e:∀t∈l,EOk t.e∧t.e.length=n
  m:∀t∈l,lenI (zval t.c)≤M
end Go.AL
namespace Go.Proofs.YtmmfloplhopioaaGreat
open Go.AL
theorem rdegree_ok (l:List Int) (he:EOk l) (hl:l.length≤100000):PureFn Tryz.prog 199 [aI l] (aN (sumL l)):=by
 refine AC Tryz.func199 rfl Tryz.ntmps199 rfl rfl ?_;(repeat' first|refine qv ?_|apply qn|apply qs|apply qr|apply qb);refine AWP.loop (G:=Nat) (fun i=>i≤l.length) (fun i=>AO [] [(0,aI l),(3,aN (sumL (l.take i))),(4,aN i)] []) (fun i=>l.length-i) 0 (by omega) ?_ ?_
 ·refine Ent.of [] ?_ ?_ rfl rfl;(repeat' first|exact True.intro|refine⟨⟨AA _,rfl⟩,?_⟩|fail)
 ·intro i h0;have hs:=Bq (he.take i);have hi:=List.length_take (l:=l) (i:=i);(repeat' first|refine qv ?_|apply qn|apply qs|apply qr|(refine AD rfl ?_ ?_<;>intro _<;>try(exfalso; omega))|apply qb|apply qk|apply qx|apply qt|(refine Ay rfl rfl rfl rfl rfl rfl rfl rfl (by omega) (by omega) ?_; intro _ _)|fail)
  ·rename_i hlt x hx;rw[Int.toNat_natCast]at hx;have hb:=he.get hx;(repeat' first|refine qv ?_|apply qn|apply qr|refine qw ?_|fail);refine LoopEnd.of (i+1) (by omega) (by omega) ?_;refine Ent.of [] ?_ ?_ rfl rfl;(repeat' first|exact True.intro|refine⟨⟨AA _,rfl⟩,?_⟩|refine⟨⟨AV.Le.int ?_,rfl⟩,?_⟩|fail);exact(B5 hx).symm
  ·refine RetOk.of rfl (AV.Le.int ?_);rw[show i=l.length by omega,List.take_length]
theorem rOrder_ok (a b:List Int) (ha:EOk a) (hb:EOk b) (hal:a.length≤100000) (hbl:b.length=a.length):PureFn Tryz.prog 170 [aI a,aI b] (aN (rOrd a b)):=by
 refine AC Tryz.func170 rfl Tryz.ntmps170 rfl rfl ?_;(repeat' first|refine qv ?_|apply qn|apply qs|apply qr);refine qc (rdegree_ok a ha hal) ?_;(repeat' first|refine qv ?_|fail);refine qc (rdegree_ok b hb (by omega)) ?_;(repeat' first|refine qv ?_|apply qn|apply qs|apply qr|apply qb);refine AWP.loop (G:=Nat×Int×Int) (fun(i,x,y)=>i≤a.length∧ordX x y (a.drop i) (b.drop i)=rOrd a b) (fun(i,x,y)=>AO [] [(0,aI a),(1,aI b),(5,aN x),(6,aN y),(7,aN i)] []) (fun(i,x,y)=>a.length-i) (0,sumL a,sumL b) ⟨by omega,rfl⟩ ?_ ?_
 ·refine Ent.of [] ?_ ?_ rfl rfl;(repeat' first|exact True.intro|refine⟨⟨AA _,rfl⟩,?_⟩|fail)
 ·intro⟨i,x,y⟩ ⟨h0,h1⟩
  have hfin:(x≠y∨a.length≤i)→cmpI x y=rOrd a b:=fun h=>by
   rw[←h1];rcases h with h|h
   ·exact(ordX_ne h _ _).symm
   ·rw[List.drop_of_length_le h]; rfl
  (repeat' first|refine qv ?_|apply qn|refine Fl.nil (fun _=>by kernel_rfl) ?_|apply qs|apply qr|refine qw ?_|refine Fl.skip rfl rfl ?_|refine AF rfl ?_|(refine AD rfl ?_ ?_<;>intro _<;>try(exfalso; omega))|apply qb|apply qk|apply qx|apply qt|(refine Ay rfl rfl rfl rfl rfl rfl rfl rfl (by omega) (by omega) ?_; intro _ _)|(refine AG rfl rfl ?_ ?_<;>intro _<;>try(exfalso; omega)))
  ·rename_i hi hxy u hu v hv;rw[Int.toNat_natCast]at hu hv;refine LoopEnd.of (i+1,u,v) ⟨by omega,?_⟩ (by simp only; omega) ?_
   ·rw[←h1,ordX_drop hu hv,if_pos hxy]
   ·refine Ent.of [] ?_ ?_ rfl rfl;(repeat' first|exact True.intro|refine⟨⟨AA _,rfl⟩,?_⟩|fail)
  ·rename_i hi hxy hgt;exact RetOk.of rfl (AV.Le.int (by rw[←hfin (.inl hxy),EO hgt]))
  ·rename_i hi hxy hgt hlt;exact RetOk.of rfl (AV.Le.int (by rw[←hfin (.inl hxy),EN hlt]))
  ·rename_i hi hgt;exact RetOk.of rfl (AV.Le.int (by rw[←hfin (.inr (by omega)),EO hgt]))
  ·rename_i hi hgt hlt;exact RetOk.of rfl (AV.Le.int (by rw[←hfin (.inr (by omega)),EN hlt]))
  ·rename_i hi hgt hlt;exact RetOk.of rfl (AV.Le.int (by rw[←hfin (.inr (by omega)),cmpI_eq (by omega)]))
set_option maxHeartbeats 2000000 in
theorem merged_ok (n M:Nat) (hn:n≤1000) (hM:M≤30000) (a b:List TZ) (ha:TermsOk n M a) (hb:TermsOk n M b) (hal:a.length≤100000) (hbl:b.length≤100000):PureFn Tryz.prog 123 [.sl 3 eT a,.sl 3 eT b] (.sl 3 eT (As a b)):=by
 refine AC Tryz.func123 rfl Tryz.ntmps123 rfl rfl ?_;(repeat' first|refine qv ?_|apply qn|apply qs|apply qr|apply qb);refine AY (BV 5 805 rfl rfl 3 eT 158) ?_;refine AWP.loop (G:=Nat×Nat×List TZ) (fun(i,k,os)=>i≤a.length∧k≤b.length∧os.length≤i+k∧os++As (a.drop i) (b.drop k)=As a b) (fun(i,k,os)=>AO [] [(0,.sl 3 eT a),(1,.sl 3 eT b),(5,.row 5),(6,aN i),(7,aN k)] [(5,.row 3 eT os 158)]) (fun(i,k,os)=>a.length-i+(b.length-k)) (0,0,[]) ⟨by omega,by omega,by simp,rfl⟩ ?_ ?_
 ·refine Ent.of [(5,805)] ?_ ?_ rfl rfl;(repeat' first|exact True.intro|refine⟨⟨AA _,rfl⟩,?_⟩|refine⟨⟨⟨_,rfl,BLe.row rfl⟩,rfl⟩,?_⟩|fail)
 ·intro⟨i,k,os⟩ ⟨h0,h1,h2,h3⟩;by_cases hi:i<a.length
  ·obtain⟨t,ht⟩:∃t,a[i]? = some t:=⟨_,List.getElem?_eq_getElem hi⟩;have htm:=List.mem_of_getElem? ht;by_cases hk:k<b.length
   ·obtain⟨u,hu⟩:∃u,b[k]? = some u:=⟨_,List.getElem?_eq_getElem hk⟩;have hum:=List.mem_of_getElem? hu;have hord:=rOrder_ok t.e u.e (ha.e t htm).1 (hb.e u hum).1 (by have:=(ha.e t htm).2; omega) (by rw[(ha.e t htm).2,(hb.e u hum).2]);have hmc:=mergeT_c ht hu;(repeat' first|refine qv ?_|apply qn|apply qs|apply qr|refine Fl.skip rfl rfl ?_|refine AJ rfl ?_|(refine AD rfl ?_ ?_<;>intro _<;>try(exfalso; omega))|apply qb|apply qk|refine qK ?_|(refine AG rfl rfl ?_ ?_<;>intro _<;>try(exfalso; omega)));refine qc (hord) ?_;(repeat' first|refine qv ?_|apply qn|refine Fl.nil (fun _=>by kernel_rfl) ?_|apply qs|apply qr|refine qw ?_|refine qe ?_|(refine AD rfl ?_ ?_<;>intro _<;>try(exfalso; omega))|apply qb|refine qK ?_|fail)
    ·rename_i ho;rw[if_pos ho]at hmc;have heq:=hmc;refine qc (Cf t.c) ?_;(repeat' first|refine qv ?_|apply qn|apply qr|(refine AQ rfl ?_ ?_<;>intro _<;>try(exfalso; omega))|apply qk)
     ·rename_i hz;rw[keepT_1 hz]at heq;refine ql eT [t] ?_;refine qa (hby:=(by dsimp only[List.length_nil,List.length_cons]; omega)) (hm:=(by simp; omega)) (r:=?_);(repeat' first|refine qv ?_|apply qn);refine LoopEnd.of (i+1,k,os++[t]) ⟨by omega,by omega,by simp; omega,by rw[←h3,heq,List.append_assoc]; rfl⟩ (by simp only; omega) ?_;refine Ent.of [(5,87)] ?_ ?_ rfl rfl;(repeat' first|exact True.intro|refine⟨⟨AA _,rfl⟩,?_⟩|refine⟨⟨⟨_,rfl,BLe.row rfl⟩,rfl⟩,?_⟩|fail)
     ·rename_i hz;rw[keepT_0 hz]at heq;refine LoopEnd.of (i+1,k,os) ⟨by omega,by omega,by omega,by rw[←h3,heq]⟩ (by simp only; omega) ?_;refine Ent.of [] ?_ ?_ rfl rfl;(repeat' first|exact True.intro|refine⟨⟨AA _,rfl⟩,?_⟩|refine⟨⟨⟨_,rfl,BLe.row rfl⟩,rfl⟩,?_⟩|fail)
    ·rename_i ho ho2;rw[if_neg ho,if_pos ho2]at hmc;have heq:=hmc;refine qc (Cf u.c) ?_;(repeat' first|refine qv ?_|apply qn|apply qr|(refine AQ rfl ?_ ?_<;>intro _<;>try(exfalso; omega))|apply qk)
     ·rename_i hz;rw[keepT_1 hz]at heq;refine ql eT [u] ?_;refine qa (hby:=(by dsimp only[List.length_nil,List.length_cons]; omega)) (hm:=(by simp; omega)) (r:=?_);(repeat' first|refine qv ?_|apply qn);refine LoopEnd.of (i,k+1,os++[u]) ⟨by omega,by omega,by simp; omega,by rw[←h3,heq,List.append_assoc]; rfl⟩ (by simp only; omega) ?_;refine Ent.of [(5,87)] ?_ ?_ rfl rfl;(repeat' first|exact True.intro|refine⟨⟨AA _,rfl⟩,?_⟩|refine⟨⟨⟨_,rfl,BLe.row rfl⟩,rfl⟩,?_⟩|fail)
     ·rename_i hz;rw[keepT_0 hz]at heq;refine LoopEnd.of (i,k+1,os) ⟨by omega,by omega,by omega,by rw[←h3,heq]⟩ (by simp only; omega) ?_;refine Ent.of [] ?_ ?_ rfl rfl;(repeat' first|exact True.intro|refine⟨⟨AA _,rfl⟩,?_⟩|refine⟨⟨⟨_,rfl,BLe.row rfl⟩,rfl⟩,?_⟩|fail)
    ·rename_i ho ho2;rw[if_neg ho,if_neg ho2]at hmc;have l1:=ha.m t htm;have l2:=hb.m u hum;refine Fl.call rfl (rAdd_ok (zval t.c) (zval u.c) (show lenI _≤_ by omega) (show lenI _≤_ by omega)) rfl rfl rfl (LeL.cons (AV.Le.agg (leZ (σ:=[]) (ha.c t htm))) (LeL.cons (AV.Le.agg (leZ (σ:=[]) (hb.c u hum))) LeL.nil)) ?_;(repeat' first|refine qv ?_|apply qn|refine Fl.nil (fun _=>by kernel_rfl) ?_|apply qs|apply qr|refine qw ?_|refine qe ?_|refine qK ?_|fail);have heq:=hmc;refine qc (Cf (sumT t u).c) ?_;(repeat' first|refine qv ?_|apply qn|apply qr|(refine AQ rfl ?_ ?_<;>intro _<;>try(exfalso; omega))|apply qk)
     ·rename_i hz;rw[keepT_1 hz]at heq;refine ql eT [(sumT t u)] ?_;refine qa (hby:=(by dsimp only[List.length_nil,List.length_cons]; omega)) (hm:=(by simp; omega)) (r:=?_);(repeat' first|refine qv ?_|apply qn);refine LoopEnd.of (i+1,k+1,os++[(sumT t u)]) ⟨by omega,by omega,by simp; omega,by rw[←h3,heq,List.append_assoc]; rfl⟩ (by simp only; omega) ?_;refine Ent.of [(5,87)] ?_ ?_ rfl rfl;(repeat' first|exact True.intro|refine⟨⟨AA _,rfl⟩,?_⟩|refine⟨⟨⟨_,rfl,BLe.row rfl⟩,rfl⟩,?_⟩|fail)
     ·rename_i hz;rw[keepT_0 hz]at heq;refine LoopEnd.of (i+1,k+1,os) ⟨by omega,by omega,by omega,by rw[←h3,heq]⟩ (by simp only; omega) ?_;refine Ent.of [] ?_ ?_ rfl rfl;(repeat' first|exact True.intro|refine⟨⟨AA _,rfl⟩,?_⟩|refine⟨⟨⟨_,rfl,BLe.row rfl⟩,rfl⟩,?_⟩|fail)
   ·have hma:=mergeT_a ht (b:=b) (k:=k) (by omega);(repeat' first|refine qv ?_|apply qn|apply qs|apply qr|refine qw ?_|refine qe ?_|refine Fl.skip rfl rfl ?_|refine AJ rfl ?_|(refine AD rfl ?_ ?_<;>intro _<;>try(exfalso; omega))|apply qb|apply qk|refine qK ?_|(refine AG rfl rfl ?_ ?_<;>intro _<;>try(exfalso; omega)));have heq:=hma;refine qc (Cf t.c) ?_;(repeat' first|refine qv ?_|apply qn|apply qr|(refine AQ rfl ?_ ?_<;>intro _<;>try(exfalso; omega))|apply qk)
    ·rename_i hz;rw[keepT_1 hz]at heq;refine ql eT [t] ?_;refine qa (hby:=(by dsimp only[List.length_nil,List.length_cons]; omega)) (hm:=(by simp; omega)) (r:=?_);(repeat' first|refine qv ?_|apply qn);refine LoopEnd.of (i+1,k,os++[t]) ⟨by omega,by omega,by simp; omega,by rw[←h3,heq,List.append_assoc]; rfl⟩ (by simp only; omega) ?_;refine Ent.of [(5,87)] ?_ ?_ rfl rfl;(repeat' first|exact True.intro|refine⟨⟨AA _,rfl⟩,?_⟩|refine⟨⟨⟨_,rfl,BLe.row rfl⟩,rfl⟩,?_⟩|fail)
    ·rename_i hz;rw[keepT_0 hz]at heq;refine LoopEnd.of (i+1,k,os) ⟨by omega,by omega,by omega,by rw[←h3,heq]⟩ (by simp only; omega) ?_;refine Ent.of [] ?_ ?_ rfl rfl;(repeat' first|exact True.intro|refine⟨⟨AA _,rfl⟩,?_⟩|refine⟨⟨⟨_,rfl,BLe.row rfl⟩,rfl⟩,?_⟩|fail)
  ·by_cases hk:k<b.length
   ·obtain⟨u,hu⟩:∃u,b[k]? = some u:=⟨_,List.getElem?_eq_getElem hk⟩;have hmb:=mergeT_b hu (a:=a) (i:=i) (by omega);(repeat' first|refine qv ?_|apply qn|apply qs|apply qr|refine qw ?_|refine qe ?_|refine AJ rfl ?_|refine AF rfl ?_|(refine AD rfl ?_ ?_<;>intro _<;>try(exfalso; omega))|apply qb|apply qk|refine qK ?_|(refine AG rfl rfl ?_ ?_<;>intro _<;>try(exfalso; omega)));have heq:=hmb;refine qc (Cf u.c) ?_;(repeat' first|refine qv ?_|apply qn|apply qr|(refine AQ rfl ?_ ?_<;>intro _<;>try(exfalso; omega))|apply qk)
    ·rename_i hz;rw[keepT_1 hz]at heq;refine ql eT [u] ?_;refine qa (hby:=(by dsimp only[List.length_nil,List.length_cons]; omega)) (hm:=(by simp; omega)) (r:=?_);(repeat' first|refine qv ?_|apply qn);refine LoopEnd.of (i,k+1,os++[u]) ⟨by omega,by omega,by simp; omega,by rw[←h3,heq,List.append_assoc]; rfl⟩ (by simp only; omega) ?_;refine Ent.of [(5,87)] ?_ ?_ rfl rfl;(repeat' first|exact True.intro|refine⟨⟨AA _,rfl⟩,?_⟩|refine⟨⟨⟨_,rfl,BLe.row rfl⟩,rfl⟩,?_⟩|fail)
    ·rename_i hz;rw[keepT_0 hz]at heq;refine LoopEnd.of (i,k+1,os) ⟨by omega,by omega,by omega,by rw[←h3,heq]⟩ (by simp only; omega) ?_;refine Ent.of [] ?_ ?_ rfl rfl;(repeat' first|exact True.intro|refine⟨⟨AA _,rfl⟩,?_⟩|refine⟨⟨⟨_,rfl,BLe.row rfl⟩,rfl⟩,?_⟩|fail)
   ·(repeat' first|refine qv ?_|apply qn|apply qs|apply qr|(refine AD rfl ?_ ?_<;>intro _<;>try(exfalso; omega))|apply qx|apply qt|(refine AG rfl rfl ?_ ?_<;>intro _<;>try(exfalso; omega)));refine Ao (Ent.freeze 5 rfl) ?_;refine RetOk.of rfl (AV.Le.sl ?_);rw[←h3,List.drop_of_length_le (by omega),List.drop_of_length_le (by omega),As,List.append_nil]
end Go.Proofs.YtmmfloplhopioaaGreat
namespace Go.AL
theorem A4 (x:Int):zval (zOf x)=x:=by
 unfold zval zOf;simp only;rw[Ad (by omega)];simp only[sg];split
 ·rename_i h; simp at h; omega
 ·rename_i h; simp at h; omega
theorem EOk.zeros (n:Nat):EOk (List.replicate n 0):=fun e he=>by rw[List.eq_of_mem_replicate he]; omega
theorem TermsOk.one {n M:Nat} {x:Int} {e:List Int} (h1:lenI x≤M) (h2:EOk e) (h3:e.length=n):TermsOk n M [⟨zOf x,e⟩]:=by
 refine⟨?_,?_,?_,?_⟩<;>(intro t ht; simp only[List.mem_singleton]at ht; subst ht)
 ·exact Ag _
 ·rw[A4]
 ·exact⟨h2,h3⟩
 ·rw[A4]; exact h1
theorem TermsOk.nil (n M:Nat):TermsOk n M []:=by constructor<;>(intro t h; cases h)
theorem toW_len0 (x:Int):(toW x.natAbs).length=0↔x=0:=by
 have:=BO (z:=x.natAbs) (by omega);rw[List.length_eq_zero_iff,this]; omega
end Go.AL
namespace Go.Proofs.YtmmfloplhopioaaGreat
open Go.AL
theorem rSorted_short (n M:Nat) (hn:n≤1000) (hM:M≤30000) (l:List TZ) (hl:TermsOk n M l) (h2:l.length<2):PureFn Tryz.prog 121 [.sl 3 eT l] (.sl 3 eT (As l [])):=by
 refine AC Tryz.func121 rfl Tryz.ntmps121 rfl rfl ?_;(repeat' first|refine qv ?_|apply qn|apply qs|apply qr|(refine AD rfl ?_ ?_<;>intro _<;>try(exfalso; omega)));refine Fl.call rfl (merged_ok n M hn hM l [] hl (TermsOk.nil n M) (by omega) (by simp)) rfl rfl rfl (LeL.cons (AA _) (LeL.cons (AV.Le.nil 3 eT) LeL.nil)) ?_;(repeat' first|refine qv ?_|apply qn|apply qt);exact RetOk.of rfl (AA _)
theorem FA {x:Int} (h:x.natAbs<4294967296):lenI x≤1:=by
 rw[lenI_le,show(1:Nat)=0+1 from rfl,Ax,CK]; omega
end Go.Proofs.YtmmfloplhopioaaGreat
namespace Go.AL
theorem EOk.set {l:List Int} (h:EOk l) (i:Nat) {v:Int} (h0:0≤v) (h1:v≤120):EOk (l.set i v):=fun e he=>by
 rcases List.mem_or_eq_of_mem_set he with k|k
 ·exact h e k
 ·subst k; exact⟨h0,h1⟩
theorem OkP.one {n:Nat} {x:Int} {e:List Int} (hn:n≤32) (hx:Fit x) (h0:x≠0) (he:EOk e) (hl:e.length=n) (hd:sumL e≤120):OkP ⟨n,[⟨zOf x,e⟩]⟩:=by
 refine⟨by simp,by simp only; omega,by simp,fun t ht=>?_,fun i a b h1 h2=>by simp at h2⟩;simp only[List.mem_singleton]at ht;subst ht;exact⟨Di hx,fun h=>h0 ((toW_len0 x).1 h),by simp only; omega,he,hd⟩
theorem WP.one {n:Int} {x:Int} {e:List Int}:WP ⟨n,[⟨zOf x,e⟩]⟩:=fun t ht=>by
 simp only[List.mem_singleton]at ht; subst ht; exact Ag _
end Go.AL
namespace Go.Proofs.YtmmfloplhopioaaGreat
open Go.AL
end Go.Proofs.YtmmfloplhopioaaGreat
/- From what a claim's arguments read az to abstract values over the memory az it stands. -/
namespace Go.AL
def hpOf (w:World):Hp:=fun b=>match w.heap[b]? with|some (.cells cs _ _)=>some cs|_=>none
theorem hpOf_has (w:World):Has w (hpOf w):=fun b cs h=>by
 unfold hpOf at h;split at h
 ·rename_i cs' t fr hb;injection h with h; subst h;exact⟨t,fr,hb⟩
 ·cases h
theorem hcell_of {w:World} {a:Addr} {u:Value} (h:w.cell? a=some u):hcell (hpOf w) a u:=by
 unfold World.cell? at h;split at h
 ·rename_i c t fr hb;split at h
  ·cases h
  ·rename_i hs;exact⟨by simpa using hs,c,by simp[hpOf,hb],h⟩
 ·cases h
theorem mapM_get {α β:Type} {f:α→Option β}:∀ {l:List α} {r:List β},l.mapM f=some r→r.length=l.length∧∀(i:Nat) (x:α) (y:β),l[i]? = some x→r[i]? = some y→f x=some y
 | [],r,h=>by
  simp at h; subst h; simp
 | x::l,r,h=>by
  simp only[List.mapM_cons,Option.bind_eq_bind,Option.bind_eq_some_iff,Option.pure_def,Option.some.injEq]at h;obtain⟨y,h1,ys,h2,rfl⟩:=h;obtain⟨h3,h4⟩:=mapM_get h2;refine⟨by simp[h3],fun i a b ha hb=>?_⟩
  cases i with
  | zero=>simp at ha hb; subst ha hb; exact h1
  | succ i=>exact h4 i a b (by simpa using ha) (by simpa using hb)
theorem cells_of {w:World} {base:Nat} {a:Addr} {n:Nat} {cs:List Value} (h:w.cells? base a n=some cs):cs.length=n∧∀(j:Nat) (u:Value),cs[j]? = some u→hcell (hpOf w) (a.add j) u:=by
 unfold World.cells? at h;split at h
 ·obtain⟨h1,h2⟩:=mapM_get h;rw[List.length_range]at h1;refine⟨h1,fun j u hu=>hcell_of ?_⟩
  have hj:j<n:=by rw[←h1]; exact(List.getElem?_eq_some_iff.1 hu).1
  exact h2 j j u (by simp[hj]) hu
 ·cases h
section
variable {H:Type} {enc:TypeId×Value→H} {P:Program} {w:World} {base:Nat} {spare:Nat→Bool} {held:Bool}
theorem Eu {t:TypeId} {k:IntKind} {fuel:Nat} {cs:List Value} {x:DataW H×List MemPlace} (ht:P.underlying t=some (.int k)) (h:DataW.trod enc P w base spare held fuel t cs=some x):∃n,cs=[.int k n]∧(Lit.int k n).wf=true:=by
 cases fuel with
 | zero=>simp[DataW.trod]at h
 | succ fuel=>
  simp only[DataW.trod,ht]at h;split at h<;>simp_all
theorem trodBool {t:TypeId} {fuel:Nat} {cs:List Value} {x:DataW H×List MemPlace} (ht:P.underlying t=some .bool) (h:DataW.trod enc P w base spare held fuel t cs=some x):∃b,cs=[.bool b]:=by
 cases fuel with
 | zero=>simp[DataW.trod]at h
 | succ fuel=>
  simp only[DataW.trod,ht]at h;split at h<;>simp_all
theorem trodSlice {α:Type} (sz:Nat) (en:α→List AV) (Q:α→Prop) {t e:TypeId} {fuel:Nat} {cs:List Value} {x:DataW H×List MemPlace} (ht:P.underlying t=some (.slice e)) (hsz:P.cellsOf e=sz)
  (hel:∀(fuel:Nat) (us:List Value) (y:DataW H×List MemPlace),us.length=sz→DataW.trod enc P w base spare held fuel e us=some y→∃a,RepL (hpOf w) noB (en a) us∧Q a)
  (h:DataW.trod enc P w base spare held fuel t cs=some x):∃(xs:List α) (u:Value),cs=[u]∧Rep (hpOf w) noB (.sl sz en xs) u∧(∀a∈xs,Q a)∧xs.length≤maxLen:=by
 cases fuel with
 | zero=>simp[DataW.trod]at h
 | succ fuel=>
  simp only[DataW.trod,ht]at h;split at h<;>try(simp_all; done)
  ·refine⟨[],_,rfl,?_,by simp,by simp[maxLen]⟩;simp only[Rep];exact⟨none,0,rfl,by simp,by simp[maxLen],fun i y hy=>by simp at hy⟩
  ·rename_i e' a len cap heq;injection heq with heq; injection heq with heq; subst heq;split at h
   ·rename_i hc;simp only[Option.bind_eq_some_iff]at h;obtain⟨elems,h1,_⟩:=h;obtain⟨h2,h3⟩:=mapM_get h1;rw[List.length_range]at h2
    have hall:∀i,i<len→∃(us:List Value) (a':α),us.length=sz∧(∀(j:Nat) (u:Value),us[j]? = some u→hcell (hpOf w) ((a.add (i*sz)).add j) u)∧RepL (hpOf w) noB (en a') us∧Q a':=by
     intro i hi;have:=h3 i i (elems[i]'(by omega)) (by simp[hi]) (List.getElem?_eq_getElem _);simp only[Option.bind_eq_some_iff]at this;obtain⟨us,hu1,hu2⟩:=this;rw[hsz]at hu1;obtain⟨hu3,hu4⟩:=cells_of hu1;obtain⟨a', ha1,ha2⟩:=hel fuel us _ hu3 hu2;exact⟨us,a', hu3,hu4,ha1,ha2⟩
    have hex:∃xs:List α,xs.length=len∧∀(i:Nat) (y:α),xs[i]? = some y→∃us:List Value,us.length=sz∧(∀(j:Nat) (u:Value),us[j]? = some u→hcell (hpOf w) ((a.add (i*sz)).add j) u)∧RepL (hpOf w) noB (en y) us∧Q y:=by
     have:∀n,n≤len→∃xs:List α,xs.length=n∧∀(i:Nat) (y:α),xs[i]? = some y→∃us:List Value,us.length=sz∧(∀(j:Nat) (u:Value),us[j]? = some u→hcell (hpOf w) ((a.add (i*sz)).add j) u)∧RepL (hpOf w) noB (en y) us∧Q y:=by
      intro n
      induction n with
      | zero=>exact fun _=>⟨[],rfl,fun i y hy=>by simp at hy⟩
      | succ n ih=>
       intro hn;obtain⟨xs,hx1,hx2⟩:=ih (by omega);obtain⟨us,a', q1,q2,q3,q4⟩:=hall n (by omega);refine⟨xs++[a'],by simp[hx1],fun i y hy=>?_⟩;rw[List.getElem?_append]at hy;split at hy
       ·exact hx2 i y hy
       ·rename_i hi
        have hin:i=n:=by
         have:=(List.getElem?_eq_some_iff.1 hy).1;simp at this; omega
        subst hin;rw[hx1,Nat.sub_self]at hy;simp at hy; subst hy;exact⟨us,q1,q2,q3,q4⟩
     exact this len (Nat.le_refl _)
    obtain⟨xs,hx1,hx2⟩:=hex;refine⟨xs,_,rfl,?_,fun y hy=>?_,by omega⟩
    ·simp only[Rep];refine⟨some a,cap,by rw[hx1],by omega,by omega,fun i y hy=>?_⟩;obtain⟨us,q1,q2,q3,_⟩:=hx2 i y hy;refine⟨a,us,rfl,q1,q3,fun j u hu=>?_⟩;have:=q2 j u hu
     have hadd:(a.add (i*sz)).add j=a.add (i*sz+j):=by
      unfold Addr.add;by_cases k1:i*sz=0
      ·rw[k1]; simp
      ·by_cases k2:j=0
       ·subst k2; simp[k1]
       ·simp[k1,k2,Nat.add_assoc]
     rwa [hadd]at this
    ·obtain⟨i,hi,rfl⟩:=List.mem_iff_getElem.1 hy;obtain⟨_,_,_,_,hq⟩:=hx2 i _ (List.getElem?_eq_getElem hi);exact hq
   ·cases h
end
end Go.AL
namespace Go.AL
def ZB (z:Z):Prop:=WOk z.w∧z.w.length≤maxLen
theorem list2 {α:Type} {l:List α} (h:l.length=2):∃a b,l=[a,b]:=by
 match l,h with
 | [a,b],_=>exact⟨a,b,rfl⟩
end Go.AL
namespace Go.Proofs.YtmmfloplhopioaaGreat
open Go.AL Go.ChangeShapes Go.WideShapes Go.ChangeAt Go.RowKit
section
variable {H:Type} {enc:TypeId×Value→H} {w:World} {base:Nat} {spare:Nat→Bool} {held:Bool}
theorem wfU32 {n:Int} (h:(Lit.int .u32 n).wf=true):0≤n∧n<4294967296:=by
 simp[Lit.wf]at h;have h1:IntKind.u32.min=0:=rfl;have h2:IntKind.u32.max=4294967295:=rfl;omega
theorem trodW {fuel:Nat} {cs:List Value} {x:DataW H×List MemPlace} (h:DataW.trod enc Tryz.prog w base spare held fuel 46 cs=some x):∃(xs:List Int) (u:Value),cs=[u]∧Rep (hpOf w) noB (aW xs) u∧WOk xs∧xs.length≤maxLen:=by
 refine trodSlice 1 eW (fun n=>0≤n∧n<4294967296) Tryz.underlying46 (by kernel_rfl) (fun fuel us y _ hy=>?_) h;obtain⟨n,rfl,hn⟩:=Eu Tryz.underlying94 hy;exact⟨n,⟨_,_,rfl,by simp only[Rep],rfl⟩,wfU32 hn⟩
theorem trodZ {fuel:Nat} {cs:List Value} {x:DataW H×List MemPlace} (h:DataW.trod enc Tryz.prog w base spare held fuel 48 cs=some x):∃z:Z,RepL (hpOf w) noB (eZ z) cs∧ZB z:=by
 obtain⟨y0,y1,n,_,hl,h0,h1⟩:=trod_struct2 Tryz.underlying48 h
 have hc:Tryz.prog.cellsOf 48=2:=by kernel_rfl
 have hb:Tryz.prog.cellsOf 4=1:=by kernel_rfl
 have hs:Tryz.prog.cellsOf 46=1:=by kernel_rfl
 rw[hc]at hl;obtain⟨c0,c1,rfl⟩:=list2 hl;simp only[hb,hs,List.drop_zero,List.take_succ_cons,List.take_zero,List.drop_succ_cons]at h0 h1;obtain⟨b,e0⟩:=trodBool Tryz.underlying4 h0;obtain⟨xs,u,e1,hr,hw,hm⟩:=trodW h1;injection e0 with e0; injection e1 with e1; subst e0 e1;exact⟨⟨b,xs⟩,⟨_,_,rfl,by simp only[Rep],⟨_,_,rfl,hr,rfl⟩⟩,hw,hm⟩
end
theorem below_of {W W':World} {h h':Hp} (e:Evo D4 W h W' h'):Below W.heap.size W W':=⟨e.os,e.tape,e.output.1,e.size,fun k hk=>e.block k hk (fun x=>x)⟩
theorem own:ownKnob Tryz.prog.godebug=none:=by kernel_rfl
theorem lb:laidOutB Tryz.prog=true:=by kernel_rfl
end Go.Proofs.YtmmfloplhopioaaGreat
/- Calls that leave their boxes az they are: they only read. -/
namespace Go.AL
def SameB (s:St):List (Id×Bx)→Prop
  | []=>True
  | (b,B)::r=>s.bx b=some B∧SameB s r
theorem SameB.upd {s:St} (f:Id→Option Bx):∀(U:List (Id×Bx)),SameB s U→(∀id∈U.map (·.1),f id=s.bx id)→updB U f=f
 | [],_,_=>rfl
 | (b,B)::r,h,hf=>by
  have ih:=SameB.upd f r h.2 fun id hid=>hf id (by simp only[List.map_cons,List.mem_cons]; exact .inr hid);funext id;simp only[updB];split
  ·rename_i e;have:id=b:=Nat.eq_of_beq_eq_true e;rw[this,hf b (by simp),h.1]
  ·rw[ih]
section
variable {P:Program} {tab:Tab} {n:Nat} {s:St}
variable {ops:Array Oper} {draw:Dr} {o:Oper} {l:List Oper} {acc:List Eff} {K:Exit→St→Prop}
theorem OpJ.same {v:AV} {U:List (Id×Bx)} {tb:List Id} (k:OpJ P n o s ⟨v,U,[],[],tb⟩) (hs:SameB s U) (ht:∀id∈U.map (·.1),id∈tb):OpJ P n o s ⟨v,[],[],[],tb⟩:=by
 refine⟨k.1,fun C s' a w h β Q K hs' hb hal b hK=>?_⟩;have hb':∀id∈tb,s'.bx id=s.bx id:=fun id hid=>hb id (by simp[Eff.ts,hid]);refine k.2 C s' a w h β Q K hs' (fun id hid=>?_) (fun id hid=>?_) b ?_
 ·simp only[Eff.ts,Eff.wr,List.append_nil,List.mem_append]at hid;rcases hid with hid|hid
  ·exact hb' id hid
  ·exact hb' id (ht id hid)
 ·cases hid
 ·have e:(Eff.mk v U [] [] tb).app o.dst s'=(Eff.mk v [] [] [] tb).app o.dst s':=by
   simp only[Eff.app];rw[SameB.upd s'.bx U hs fun id hid=>hb' id (ht id hid)];rfl
  rw[e];exact hK
theorem renB_ids (σ:Id→Id):∀l:List (Id×Bx),(renB σ l).map (·.1)=(idsB l).map σ
 | []=>rfl
 | (i,B)::r=>by simp only[renB,List.map_cons,idsB]; rw[renB_ids σ r]; rfl
theorem Fl.ioR {f:FuncId} {args:List Operand} {ts:Array TypeId} (hop:o.op = .call { callee := .value (.func f),args:=⟨args⟩,argTypes:=ts }) (σ:List (Id×Id)) {az:List AV} {bxs:List (Id×Bx)} {ret:AV} (hf:IoFn P f az bxs (.ret ret) bxs) (hg:gOk ops s o=true) (hd:dOk n o.dst=true) (hle:LeL (opds s args) (renL (renI σ) az)) (hw:BE (idsB bxs) az=true) (hb:CN (renI σ) (idsB bxs) s bxs)
  (hs:SameB s (renB (renI σ) bxs)) (hd1:Ah (renI σ) (idsB bxs)=true) (hrw:ret.within (idsB bxs)=true) (hbw:(bxs.all fun p=>p.2.within (idsB bxs))=true) (hn:newB bxs (renI σ) bxs=[])
  (r:Fl P n ops draw l ((Eff.mk (ret.ren (renI σ)) [] [] [] ((idsB bxs).map (renI σ))).app o.dst s) (Eff.mk (ret.ren (renI σ)) [] [] [] ((idsB bxs).map (renI σ))::acc) K):Fl P n ops draw (o::l) s acc K:=by
 have k:=OpJ.io (Aa hd) (EQ hop).out σ hf hle hw hb hd1 hrw hbw hd1;rw[hn]at k;exact Af hg (k.same hs fun id hid=>by rw[renB_ids]at hid; exact hid) r
theorem qR {f:FuncId} {args:List Operand} {ts:Array TypeId} (σ:List (Id×Id)) {az:List AV} {bxs:List (Id×Bx)} {ret:AV} (hf:IoFn P f az bxs (.ret ret) bxs) (r:Fl P n ops draw l ((Eff.mk (ret.ren (renI σ)) [] [] [] ((idsB bxs).map (renI σ))).app o.dst s) (Eff.mk (ret.ren (renI σ)) [] [] [] ((idsB bxs).map (renI σ))::acc) K) (hop:o.op = .call { callee := .value (.func f),args:=⟨args⟩,argTypes:=ts }:=by exact rfl) (hg:gOk ops s o=true:=by exact rfl) (hd:dOk n o.dst=true:=by exact rfl) (hle:LeL (opds s args) (renL (renI σ) az):=by exact AB _) (hw:BE (idsB bxs) az=true:=by exact rfl) (hb:CN (renI σ) (idsB bxs) s bxs:=by exact⟨⟨⟨_,rfl,BLe.cells (AB _)⟩,rfl⟩,⟨⟨_,rfl,BLe.row rfl⟩,rfl⟩,trivial⟩) (hs:SameB s (renB (renI σ) bxs):=by exact⟨rfl,rfl,trivial⟩) (hd1:Ah (renI σ) (idsB bxs)=true:=by exact rfl) (hrw:ret.within (idsB bxs)=true:=by exact rfl) (hbw:(bxs.all fun p=>p.2.within (idsB bxs))=true:=by exact rfl) (hn:newB bxs (renI σ) bxs=[]:=by exact rfl):Fl P n ops draw (o::l) s acc K:=Fl.ioR hop σ hf hg hd hle hw hb hs hd1 hrw hbw hn r
theorem Fl.ioVR {f:FuncId} {x:Operand} {args:List Operand} {ts:Array TypeId} (hop:o.op = .call { callee := .value x,args:=⟨args⟩,argTypes:=ts }) {caps:List AV} (hx:opd s x = .fn f caps) (σ:List (Id×Id)) {az:List AV} {bxs:List (Id×Bx)} {ret:AV} (hf:IoFn P f az bxs (.ret ret) bxs) (hg:gOk ops s o=true) (hd:dOk n o.dst=true) (hle:LeL (opds s args++caps) (renL (renI σ) az)) (hw:BE (idsB bxs) az=true) (hb:CN (renI σ) (idsB bxs) s bxs)
  (hs:SameB s (renB (renI σ) bxs)) (hd1:Ah (renI σ) (idsB bxs)=true) (hrw:ret.within (idsB bxs)=true) (hbw:(bxs.all fun p=>p.2.within (idsB bxs))=true) (hn:newB bxs (renI σ) bxs=[])
  (r:Fl P n ops draw l ((Eff.mk (ret.ren (renI σ)) [] [] [] ((idsB bxs).map (renI σ))).app o.dst s) (Eff.mk (ret.ren (renI σ)) [] [] [] ((idsB bxs).map (renI σ))::acc) K):Fl P n ops draw (o::l) s acc K:=by
 have k:=OpJ.io (Aa hd) (Runs.value hop hx).out σ hf hle hw hb hd1 hrw hbw hd1;rw[hn]at k;exact Af hg (k.same hs fun id hid=>by rw[renB_ids]at hid; exact hid) r
end
end Go.AL
/- Contracts whose boxes are given back under other names: a row that grew in a variable's cell. -/
namespace Go.AL
structure IoGn (P:Program) (f:FuncId) (args:List AV) (bxs:List (Id×Bx)) (r:AV) (bxs':List (Id×Bx)):Prop where
  fn:∃fn,P.funcs[f]? = some fn∧(fn.name == "runtime.NumGoroutine")=false∧fn.body.isNone=false
  calls:∀(w:World) (h:Hp) (β:Bt) (us:Array Value),Has w h→BoxesAt w h β bxs→(∀id,id∉idsB bxs→β id=none)→RepL h β args us.toList →
    Calls P f us w fun e w'=>∃h' β', β.le β'∧Evo (Ar bxs β) w h w' h'∧∃u,e = .returned u∧BoxesAt w' h' β' bxs'∧Rep h' β' r u∧∀id g,id∈idsB bxs'→id∉idsB bxs→blk (β' id)=some g→w.heap.size≤g∨Ar bxs β g
section
variable {P:Program} {tab:Tab} {n:Nat} {o:Oper} {s:St}
theorem OpJ.ioG (hd:∀d,o.dst=some d→d<n) {f:FuncId} {args args':List AV} (hrun:∀(s':St) (C:Cx) (a:Act) (w:World) (h:Hp) (β:Bt),(∀t,Operand.tmp t∈o.op.operands→s'.env t=s.env t)→Base C n s' a w h β→∃us:Array Value,((∃fn,P.funcs[f]? = some fn∧(fn.name == "runtime.NumGoroutine")=false∧fn.body.isNone=false)→(execOp a.eval o).run P w = .ok (.enter f us) w)∧RepL h β args us.toList)
  (σ:List (Id×Id)) {bxs bxs':List (Id×Bx)} {r:AV} (hf:IoGn P f args' bxs r bxs') (hle:LeL args (renL (renI σ) args')) (hw:BE (idsB bxs) args'=true) (hb:CN (renI σ) (idsB bxs) s bxs)
  (hd1:Ah (renI σ) (idsB bxs')=true) (hrw:r.within (idsB bxs')=true) (hbw:(bxs'.all fun p=>p.2.within (idsB bxs'))=true) (hdb:Ah (renI σ) (idsB bxs)=true) :
  OpJ P n o s ⟨r.ren (renI σ),renB (renI σ) bxs', newB bxs' (renI σ) bxs,newB bxs (renI σ) bxs', (idsB bxs).map (renI σ)⟩:=by
 refine⟨hd,fun C s' a w h β Q K hs hbs hal k hK=>?_⟩;rw[List.all_eq_true]at hbw;have hb':CN (renI σ) (idsB bxs) s' bxs:=FL bxs (fun i hi=>hbs _ (by simp only[Eff.ts,List.mem_append,List.mem_map]; exact .inl ⟨i,hi,rfl⟩)) hb;obtain⟨us,hrun,hus⟩:=hrun s' C a w h β hs k;have hrun:=hrun hf.fn
 let β1:Bt:=fun id=>match memI (idsB bxs) id with|true=>β (renI σ id)|false=>none
 have hβ:∀id v,id∈idsB bxs→β (renI σ id)=some v→β1 id=some v:=fun id v hm hv=>by
  show(match memI (idsB bxs) id with|true=>β (renI σ id)|false=>none)=some v;rw[(AZ _ _).2 hm]; exact hv
 have hβ2:∀id v,β1 id=some v→β (renI σ id)=some v:=fun id v hv=>by
  have hv:(match memI (idsB bxs) id with|true=>β (renI σ id)|false=>none)=some v:=hv;split at hv
  ·exact hv
  ·cases hv
 have hβn:∀id,id∉idsB bxs→β1 id=none:=fun id hid=>by
  show(match memI (idsB bxs) id with|true=>β (renI σ id)|false=>none)=none
  have:memI (idsB bxs) id=false:=by
   cases hm:memI (idsB bxs) id with
   | false=>rfl
   | true=>exact absurd ((AZ _ _).1 hm) hid
  rw[this]
 have hbx:=boxes_of hβ hβ2 (fun _ h=>h) hb' hdb k.box k.apart;have hargs:RepL h β1 args' us.toList:=RepL.within hβ args' _ hw (hle _ _ _ hus);unfold Oper.wp;rw[hrun];simp only[Oper.upon];refine(hf.calls w h β1 us k.evo.has hbx hβn hargs).mono fun e w' ⟨h', β1', hle1,hev,q⟩=>?_;obtain⟨u,rfl,hbx', hru,hnew⟩:=q
 -- who is whose
 have hM:∀g,Ar bxs β1 g→∃id B,id∈idsB bxs∧s'.bx (renI σ id)=some B∧blk (β (renI σ id))=some g:=by
  rintro g ⟨id,B,h1,h2⟩;have hm:=Be bxs id B h1;obtain⟨⟨B0,h3,_⟩,_,_⟩:=Az bxs hb' id B h1;refine⟨id,B0,hm,h3,?_⟩
  cases hq:β1 id with
  | none=>rw[hq]at h2; simp[blk]at h2
  | some v=>rw[hβ2 id v hq,←hq]; exact h2
 have hold:∀id,id∈idsB bxs→β1' id=β (renI σ id):=by
  intro id hm;obtain⟨B,hB⟩:=Av bxs id hm
  have hbv:∃v,β1 id=some v:=by
   have:=hbx.box id B hB
   cases B with
   | cells cs t=>obtain⟨g,us,e,_⟩:=this; exact⟨_,e⟩
   | row sz enc xs t=>obtain⟨v,vals,e,_⟩:=this; exact⟨_,e⟩
   | map ek av xs c=>obtain⟨g,es,e,_⟩:=this; exact⟨_,e⟩
   | iter m a l c=>obtain⟨r,g,e,_⟩:=this; exact⟨_,e⟩
  obtain⟨v,hv⟩:=hbv;rw[hle1 _ _ hv,hβ2 _ _ hv]
 let β':Bt:=fun j=>match Df (renI σ) bxs' j with|some i=>β1' i|none=>β j
 have hfind:∀id,id∈idsB bxs'→β' (renI σ id)=β1' id:=fun id hid=>by
  show(match Df (renI σ) bxs' (renI σ id)with|some i=>β1' i|none=>β (renI σ id))=_;rw[findB_of _ _ hd1 id hid]
 have hother:∀j,(∀id∈idsB bxs', renI σ id≠j)→β' j=β j:=fun j hj=>by
  show(match Df (renI σ) bxs' j with|some i=>β1' i|none=>β j)=_
  cases hf:Df (renI σ) bxs' j with
  | none=>rfl
  | some i=>exact absurd (DE _ _ _ _ hf).1 (hj i (DE _ _ _ _ hf).2)
 have hnewal:∀id,id∈idsB bxs'→id∉idsB bxs→β (renI σ id)=none:=fun id h1 h2=>
  k.dom _ (hal _ ((DO bxs (renI σ) bxs' _).2 ⟨id,h1,h2,rfl⟩))
 have hββ':β.le β':=by
  intro j v hv;rcases Classical.em (∃id∈idsB bxs', renI σ id=j)with⟨id,h1,rfl⟩|hn
  ·rw[hfind id h1];rcases Classical.em (id∈idsB bxs)with h2|h2
   ·rw[hold id h2]; exact hv
   ·rw[hnewal id h1 h2]at hv; cases hv
  ·rw[hother j (fun id h1 h2=>hn ⟨id,h1,h2⟩)]; exact hv
 have hto:∀id v,id∈idsB bxs'→β1' id=some v→β' (renI σ id)=some v:=fun id v h1 h2=>by rw[hfind id h1]; exact h2
 have hevo:Evo C.M C.w0 C.h0 w' h':=k.evo.trans hev fun g hg=>by
  obtain⟨id,B,_,h1,h2⟩:=hM g hg;exact k.own _ B g h1 h2
 -- boxes: the renamed ones; the others
 have hcase:∀j B,delB (newB bxs' (renI σ) bxs) (updB (renB (renI σ) bxs') s'.bx) j=some B→(∃id B0,id∈idsB bxs'∧Au bxs' id=some B0∧renI σ id=j∧B=B0.ren (renI σ))∨(((∀id∈idsB bxs', renI σ id≠j)∧∀id∈idsB bxs,renI σ id≠j)∧s'.bx j=some B):=by
  intro j B hB;obtain⟨hB,hnd⟩:=delB_some _ _ _ _ hB;rcases updB_renB (renI σ) s'.bx bxs' hd1 j with⟨id,B0,h1,h2,h3⟩|⟨h1,h2⟩
  ·rw[h3]at hB; injection hB with hB;exact .inl ⟨id,B0,Be _ _ _ h1,h1,h2,hB.symm⟩
  ·rw[h2]at hB;refine .inr ⟨⟨h1,fun id hid e=>?_⟩,hB⟩;rcases Classical.em (id∈idsB bxs')with hm|hm
   ·exact h1 id hm e
   ·exact hnd ((DO bxs' (renI σ) bxs j).2 ⟨id,hid,hm,e⟩)
 have hblkNew:∀id g,id∈idsB bxs'→blk (β1' id)=some g→(∃id0 B0,id0∈idsB bxs∧s'.bx (renI σ id0)=some B0∧blk (β (renI σ id0))=some g)∨w.heap.size≤g:=by
  intro id g h1 h2;rcases Classical.em (id∈idsB bxs)with h3|h3
  ·obtain⟨B,hB⟩:=Av bxs id h3;obtain⟨⟨B0,h5,_⟩,_,_⟩:=Az bxs hb' id B hB;exact .inl ⟨id,B0,h3,h5,by rw[←hold id h3]; exact h2⟩
  ·rcases hnew id g h1 h3 h2 with h4|h4
   ·exact .inr h4
   ·exact .inl (hM g h4)
 have hsafe:∀j B g,((∀id∈idsB bxs', renI σ id≠j)∧∀id∈idsB bxs,renI σ id≠j)→s'.bx j=some B→blk (β j)=some g→¬Ar bxs β1 g:=by
  intro j B g h1 h2 h3 h4;obtain⟨id,B0,h5,h6,h7⟩:=hM g h4;exact k.apart _ _ _ _ h6 h2 (h1.2 id h5) g h7 h3
 have hblk:∀j B g,((∀id∈idsB bxs', renI σ id≠j)∧∀id∈idsB bxs,renI σ id≠j)→s'.bx j=some B→blk (β j)=some g→w'.heap[g]? = w.heap[g]? ∧ h' g=none:=by
  intro j B g h1 h2 h3;have hlt:=k.blk_lt h2 h3;have hs:=hsafe j B g h1 h2 h3;refine⟨hev.block g hlt.1 hs,?_⟩
  cases hh:h' g with
  | none=>rfl
  | some cs=>
   rcases hev.fresh g (by simp[hh])with h4|h4|h4
   ·exact absurd hlt.2 h4
   ·omega
   ·exact absurd h4 hs
 refine hK _ _ h' β' ⟨hevo,k.b0.trans hββ', fun i=>?_,fun j B hB=>?_,fun x y B1 B2 h1 h2 hne g e1 e2=>?_,fun x B1 g hx hg=>?_,fun id hid=>?_,?_,?_⟩
 ·have hr:Rep h' β' (r.ren (renI σ)) u:=Rep.renTo hto _ _ hrw hru
  cases hdst:o.dst with
  | none=>exact(k.slot i).mono hev.le hββ'
  | some d=>
   by_cases hi:i=d
   ·subst hi;simp only[Eff.app,Bd]
    have:(a.put (some i) u).tmps.getD i undef=u:=by
     have hlt:i<a.tmps.size:=by rw[k.size]; exact hd i hdst
     simp[Act.put,hlt]
    rw[this]; exact hr
   ·simp only[Eff.app];rw[Bi _ _ _ _ (by intro e; injection e with e; exact hi e.symm)]
    have:(a.put (some d) u).tmps.getD i undef=a.tmps.getD i undef:=by
     simp[Act.put,Array.getElem?_setIfInBounds_ne (Ne.symm hi)]
    rw[this]; exact(k.slot i).mono hev.le hββ'
 ·simp only[Eff.app]at hB;rcases hcase j B hB with⟨id,B0,h1,h2,rfl,rfl⟩|⟨h1,h2⟩
  ·refine BoxAt.renTo hto h1 ?_ (hbx'.box id B0 h2)
   have hm:∀(l:List (Id×Bx)) (i:Id) (B:Bx),Au l i=some B→(i,B)∈l:=by
    intro l
    induction l with
    | nil=>intro i B h; simp[Au]at h
    | cons p l ih=>
     obtain⟨q,V⟩:=p;intro i B h;by_cases hi:i=q
     ·subst hi; simp[Au]at h; subst h; simp
     ·simp only[Au,Ak hi]at h; exact List.mem_cons_of_mem _ (ih i B h)
   exact hbw _ (hm bxs' id B0 h2)
  ·exact(k.box j B h2).keep hev.le hββ' (hblk j B · h1 h2)
 ·simp only[Eff.app]at h1 h2;rcases hcase x B1 h1 with⟨i1,C1,m1,l1,rfl,rfl⟩|⟨n1,b1⟩<;>rcases hcase y B2 h2 with⟨i2,C2,m2,l2,rfl,rfl⟩|⟨n2,b2⟩
  ·rw[hfind i1 m1]at e1; rw[hfind i2 m2]at e2;exact hbx'.apart i1 i2 C1 C2 l1 l2 (fun e=>hne (by rw[e])) g e1 e2
  ·rw[hfind i1 m1]at e1; rw[hother y n2.1]at e2;rcases hblkNew i1 g m1 e1 with⟨i0,B0,h3,h5,h4⟩|h3
   ·exact k.apart _ _ _ _ h5 b2 (n2.2 i0 h3) g h4 e2
   ·have:=(k.blk_lt b2 e2).1; omega
  ·rw[hother x n1.1]at e1; rw[hfind i2 m2]at e2;rcases hblkNew i2 g m2 e2 with⟨i0,B0,h3,h5,h4⟩|h3
   ·exact k.apart _ _ _ _ b1 h5 (fun e=>n1.2 i0 h3 e.symm) g e1 h4
   ·have:=(k.blk_lt b1 e1).1; omega
  ·rw[hother x n1.1]at e1; rw[hother y n2.1]at e2;exact k.apart x y B1 B2 b1 b2 hne g e1 e2
 ·simp only[Eff.app]at hx;rcases hcase x B1 hx with⟨i1,C1,m1,l1,rfl,rfl⟩|⟨n1,b1⟩
  ·rw[hfind i1 m1]at hg;rcases hblkNew i1 g m1 hg with⟨i0,B0,h3,h5,h4⟩|h3
   ·exact k.own _ B0 g h5 h4
   ·exact .inr (Nat.le_trans k.evo.size h3)
  ·rw[hother x n1.1]at hg;exact k.own x B1 g b1 hg
 ·simp only[Eff.app]at hid;rw[E8]at hid;simp only[Bool.or_eq_false_iff]at hid;have hb0:=k.dom id hid.2;rcases Classical.em (∃i∈idsB bxs', renI σ i=id)with⟨i,h1,rfl⟩|hn
  ·rw[hfind i h1];rcases Classical.em (i∈idsB bxs)with h2|h2
   ·rw[hold i h2]; exact hb0
   ·have:=(DO bxs (renI σ) bxs' (renI σ i)).2 ⟨i,h1,h2,rfl⟩;have h3:=hid.1;rw[List.elem_eq_mem]at h3;simp[this]at h3
  ·rw[hother id (fun i h1 h2=>hn ⟨i,h1,h2⟩)]; exact hb0
 ·cases o.dst<;>simp[Act.put,k.size]
 ·cases o.dst<;>simp[Act.put,k.defers]
theorem RetIo.finG [f:Facts P tab] {fn:Func} {bxs bxs':List (Id×Bx)} {β:Bt} {w w':World} {hp h':Hp} {β':Bt} {a':Act} {s':St} (hβn:∀id,id∉idsB bxs→β id=none) (hini:IniOk ⟨w,hp,β,Ar bxs β,[]⟩ (idsB bxs)) (b:Base ⟨w,hp,β,Ar bxs β,[]⟩ n s' a' w' h' β'):∀r,RetIo n (idsB bxs) tab fn.results.toList r bxs' s'→a'.defers=[]∧∃v,(results fn a'.tmps).run P w' = .ok v w'∧∃h' β', β.le β'∧Evo (Ar bxs β) w hp w' h'∧∃u,Ending.returned v = .returned u∧BoxesAt w' h' β' bxs'∧Rep h' β' r u∧∀id g,id∈idsB bxs'→id∉idsB bxs→blk (β' id)=some g→w.heap.size≤g∨Ar bxs β g:=by
 intro r hq;obtain⟨σ,s2,r', hent,h1,h2,h3,h4,h5,h6⟩:=hq.out;obtain⟨h', β', b⟩:=hent _ _ _ _ _ hini b;obtain⟨v,hv1,hv2⟩:=Ez (P:=P) b h1;refine⟨b.defers,v,hv1,h', fun id=>match memI (idsB bxs') id with|true=>β' (renI σ id)|false=>β id,?_,b.evo,v,rfl,?_,?_,?_⟩
 ·intro id u hu;have hm:id∈idsB bxs:=hini id (by simp[hu]);rw[List.all_eq_true]at h6;show(match memI (idsB bxs') id with|true=>β' (renI σ id)|false=>β id)=some u;split
  ·rw[Nat.eq_of_beq_eq_true (h6 id hm)];exact b.b0 _ _ hu
  ·exact hu
 ·refine boxes_of (β:=β') (σ:=renI σ) (ids:=idsB bxs') (s:=s2) (fun id v hm hv=>?_) (fun id v hv=>?_) (fun _ h=>h) h4 h5 b.box b.apart
  ·simp only[(AZ _ _).2 hm]; exact hv
  ·have hv:(match memI (idsB bxs') id with|true=>β' (renI σ id)|false=>β id)=some v:=hv;split at hv
   ·exact hv
   ·have hm:id∈idsB bxs:=hini id (by simp[hv]);rw[List.all_eq_true]at h6;rw[Nat.eq_of_beq_eq_true (h6 id hm)];exact b.b0 _ _ hv
 ·exact Rep.within (fun id v hm hv=>by simp only[(AZ _ _).2 hm]; exact hv) _ _ h3 (h2 _ _ _ hv2)
 ·intro id g hid hnid hg;have hg:blk (match memI (idsB bxs') id with|true=>β' (renI σ id)|false=>β id)=some g:=hg;rw[(AZ _ _).2 hid]at hg;obtain⟨B,hB⟩:=Av bxs' id hid;obtain⟨⟨B0,hB0,_⟩,_,_⟩:=Az bxs' h4 id B hB;rcases b.own _ B0 g hB0 hg with hM|hM
  ·exact .inr hM
  ·exact .inl hM
theorem CG [f:Facts P tab] {k:FuncId} {fn:Func} {c:Code} {args:List AV} {bxs bxs':List (Id×Bx)} {r:AV} (hf:P.funcs[k]? = some fn) (hb:fn.body=some c) (hn:fn.ntmps=n) (hname:(fn.name == "runtime.NumGoroutine")=false) (hl:Nat.ble args.length n=true)
  (h:AWP P n (idsB bxs) c (RetX n (idsB bxs) tab fn.results.toList (.ret r) bxs') (Bh args bxs)):IoGn P k args bxs r bxs':=by
 have hl:=Nat.le_of_ble_eq_true hl;refine⟨⟨fn,hf,hname,by rw[hb]; rfl⟩,fun w hp β us hw hbx hβn hr=>?_⟩;refine calls_of_wp hf hb ?_
 have hus:us.size=args.length:=by rw[←Array.length_toList]; exact hr.length
 have hbase:Base ⟨w,hp,β,Ar bxs β,[]⟩ n (Bh args bxs) { tmps:=us++Array.replicate (fn.ntmps-us.size) undef,defers:=[] } w hp β:=by
  refine⟨Evo.refl _ hw,AW _,fun i=>?_,hbx.box,hbx.apart,fun id B g hB hg => .inl ⟨id,B,hB,hg⟩,fun id hid=>hβn id (fun hm=>by rw[←AZ]at hm; simp only[Bh]at hid; rw[hm]at hid; cases hid),by simp; omega,rfl⟩;simp only[Bh];by_cases hi:i<us.size
  ·have hget:(us++Array.replicate (fn.ntmps-us.size) undef).getD i undef=us[i]:=by
    simp[Array.getD_eq_getD_getElem?,Array.getElem?_append,hi]
   rw[hget];exact Ed args us.toList i _ hr (by simp[hi])
  ·rw[Ee args i (by omega)];simp only[Rep]
 have hini:IniOk ⟨w,hp,β,Ar bxs β,[]⟩ (idsB bxs):=fun id hid=>by
  rcases Classical.em (id∈idsB bxs)with hm|hm
  ·exact hm
  ·exact absurd (hβn id hm) hid
 refine wp_mono (h.out ⟨w,hp,β,Ar bxs β,[]⟩ _ w hp β hini hbase) fun e a' w' ⟨s', h', β', b,q⟩=>?_;have fin:=RetIo.finG (f:=f) (fn:=fn) (bxs':=bxs') hβn hini b r
 cases e with
 | normal=>exact fin q
 | ret=>exact fin q
 | panic c=>exact q.elim
 | _=>exact q.elim
end
section
variable {P:Program} {tab:Tab} {n:Nat} {s:St}
variable {ops:Array Oper} {draw:Dr} {o:Oper} {l:List Oper} {acc:List Eff} {K:Exit→St→Prop}
theorem CI {f:FuncId} {args:List Operand} {ts:Array TypeId} (hop:o.op = .call { callee := .value (.func f),args:=⟨args⟩,argTypes:=ts }) (σ:List (Id×Id)) {az:List AV} {bxs bxs':List (Id×Bx)} {ret:AV} (hf:IoGn P f az bxs ret bxs') (hg:gOk ops s o=true) (hd:dOk n o.dst=true) (hle:LeL (opds s args) (renL (renI σ) az)) (hw:BE (idsB bxs) az=true) (hb:CN (renI σ) (idsB bxs) s bxs)
  (hd1:Ah (renI σ) (idsB bxs')=true) (hrw:ret.within (idsB bxs')=true) (hbw:(bxs'.all fun p=>p.2.within (idsB bxs'))=true) (hdb:Ah (renI σ) (idsB bxs)=true) (hn:EJ (newB bxs (renI σ) bxs') s.al=true)
  (r:Fl P n ops draw l ((Eff.mk (ret.ren (renI σ)) (renB (renI σ) bxs') (newB bxs' (renI σ) bxs) (newB bxs (renI σ) bxs') ((idsB bxs).map (renI σ))).app o.dst s) (Eff.mk (ret.ren (renI σ)) (renB (renI σ) bxs') (newB bxs' (renI σ) bxs) (newB bxs (renI σ) bxs') ((idsB bxs).map (renI σ))::acc) K)
  (hJ:BH draw.J (Eff.mk (ret.ren (renI σ)) (renB (renI σ) bxs') (newB bxs' (renI σ) bxs) (newB bxs (renI σ) bxs') ((idsB bxs).map (renI σ))):=by repeat'(first|exact True.intro|exact rfl|refine⟨?_,?_⟩|fail)):Fl P n ops draw (o::l) s acc K:=
 Fl.op hg (OpJ.ioG (Aa hd) (EQ hop).out σ hf hle hw hb hd1 hrw hbw hdb) hn hJ r
theorem qG {f:FuncId} {args:List Operand} {ts:Array TypeId} (σ:List (Id×Id)) {az:List AV} {bxs bxs':List (Id×Bx)} {ret:AV} (hf:IoGn P f az bxs ret bxs') (r:Fl P n ops draw l ((Eff.mk (ret.ren (renI σ)) (renB (renI σ) bxs') (newB bxs' (renI σ) bxs) (newB bxs (renI σ) bxs') ((idsB bxs).map (renI σ))).app o.dst s) (Eff.mk (ret.ren (renI σ)) (renB (renI σ) bxs') (newB bxs' (renI σ) bxs) (newB bxs (renI σ) bxs') ((idsB bxs).map (renI σ))::acc) K) (hop:o.op = .call { callee := .value (.func f),args:=⟨args⟩,argTypes:=ts }:=by exact rfl) (hg:gOk ops s o=true:=by exact rfl) (hd:dOk n o.dst=true:=by exact rfl) (hle:LeL (opds s args) (renL (renI σ) az):=by exact AB _) (hw:BE (idsB bxs) az=true:=by exact rfl) (hb:CN (renI σ) (idsB bxs) s bxs:=by exact⟨⟨⟨_,rfl,BLe.cells (AB _)⟩,rfl⟩,⟨⟨_,rfl,BLe.row rfl⟩,rfl⟩,trivial⟩) (hd1:Ah (renI σ) (idsB bxs')=true:=by exact rfl) (hrw:ret.within (idsB bxs')=true:=by exact rfl) (hbw:(bxs'.all fun p=>p.2.within (idsB bxs'))=true:=by exact rfl) (hdb:Ah (renI σ) (idsB bxs)=true:=by exact rfl) (hn:EJ (newB bxs (renI σ) bxs') s.al=true:=by exact rfl) (hJ:BH draw.J (Eff.mk (ret.ren (renI σ)) (renB (renI σ) bxs') (newB bxs' (renI σ) bxs) (newB bxs (renI σ) bxs') ((idsB bxs).map (renI σ))):=by repeat'(first|exact True.intro|exact rfl|refine⟨?_,?_⟩|fail)):Fl P n ops draw (o::l) s acc K:=CI hop σ hf hg hd hle hw hb hd1 hrw hbw hdb hn r hJ
end
end Go.AL
/- Instructions compared; pointers to elements of rows that are looked at. -/
namespace Go.AL
section
variable {P:Program} {tab:Tab} {n:Nat} {s:St}
variable {ops:Array Oper} {draw:Dr} {o:Oper} {l:List Oper} {acc:List Eff} {K:Exit→St→Prop}
theorem OpJ.ncR (hd:∀d,o.dst=some d→d<n) {x:Operand} (hop:o.op = .nilCheck x) {b i:Nat} (hx:opd s x = .rptr b i):OpJ P n o s ⟨.rptr b i,[],[],[],[]⟩:=by
 refine AR hd fun C s' a w h β ho _ k=>?_;have hxr:=AK k x;rw[ho x (by simp[hop,Op.operands]),hx]at hxr;have hx':=hxr;simp only[Rep]at hxr;obtain⟨g,n', c,e1,e2⟩:=hxr;exact⟨a.eval x,by simp only[execOp,hop,e2,Sem.run_pure],hx'⟩
theorem Fl.ncR [f:Facts P tab] {x:Operand} (hop:o.op = .nilCheck x) {b i:Nat} (hx:opd s x = .rptr b i) (hg:gOk ops s o=true) (hd:dOk n o.dst=true)
  (r:Fl P n ops draw l ((Eff.mk (.rptr b i) [] [] [] []).app o.dst s) (Eff.mk (.rptr b i) [] [] [] []::acc) K):Fl P n ops draw (o::l) s acc K:=
 Af hg (OpJ.ncR (Aa hd) hop hx) r
end
end Go.AL
namespace Go.Proofs.YtmmfloplhopioaaGreat
open Go.AL
theorem insEq_run (w:World) (a b c d a' b' c' d':Int):(binOp .eql 77 (.agg #[.int .i64 a,.int .i64 b,.int .i64 c,.int .i64 d]) (.agg #[.int .i64 a', .int .i64 b', .int .i64 c', .int .i64 d'])).run Tryz.prog w = .ok (.bool (decide (a=a'∧b=b'∧c=c'∧d=d'))) w:=by
 have e:(Tryz.prog.fieldsOf 77).toList=[{ name := "Op", type:=3,offset:=0,embedded:=false,tag := "", pkgPath := "", byteOffset:=0 },{ name := "Reg", type:=3,offset:=1,embedded:=false,tag := "", pkgPath := "", byteOffset:=8 },{ name := "Next", type:=3,offset:=2,embedded:=false,tag := "", pkgPath := "", byteOffset:=16 },{ name := "Zero", type:=3,offset:=3,embedded:=false,tag := "", pkgPath := "", byteOffset:=24 }]:=by kernel_rfl
 have p0:∀a b c d:Int,(part 3 #[.int .i64 a,.int .i64 b,.int .i64 c,.int .i64 d] 0).run Tryz.prog w = .ok (.int .i64 a) w:=fun a b c d=>by kernel_rfl
 have p1:∀a b c d:Int,(part 3 #[.int .i64 a,.int .i64 b,.int .i64 c,.int .i64 d] 1).run Tryz.prog w = .ok (.int .i64 b) w:=fun a b c d=>by kernel_rfl
 have p2:∀a b c d:Int,(part 3 #[.int .i64 a,.int .i64 b,.int .i64 c,.int .i64 d] 2).run Tryz.prog w = .ok (.int .i64 c) w:=fun a b c d=>by kernel_rfl
 have p3:∀a b c d:Int,(part 3 #[.int .i64 a,.int .i64 b,.int .i64 c,.int .i64 d] 3).run Tryz.prog w = .ok (.int .i64 d) w:=fun a b c d=>by kernel_rfl
 have u:Tryz.prog.underlying 3=some (.int .i64):=by kernel_rfl
 have q:∀a b:Int,(Op.equalIn 9999 3 (.int .i64 a) (.int .i64 b)).run Tryz.prog w = .ok (a == b) w:=fun a b=>run_equalIn_int w 9998 _ .i64 .i64 a b u;rw[run_eql_struct,run_equalIn_agg w 9999 _ _ _ (by kernel_rfl) (by kernel_rfl),e];simp only[Op.eqFields,if_pos (show "Op" ≠ "_" by decide),if_pos (show "Reg" ≠ "_" by decide),if_pos (show "Next" ≠ "_" by decide),if_pos (show "Zero" ≠ "_" by decide),Sem.run_bind,Sem.run_ite,Sem.run_pure,p0,p1,p2,p3,q,Result.andThen_ok];by_cases h0:a=a'
 ·by_cases h1:b=b'
  ·by_cases h2:c=c'
   ·by_cases h3:d=d'
    ·simp[h0,h1,h2,h3]
    ·simp[h0,h1,h2,h3]
   ·simp[h0,h1,h2]
  ·simp[h0,h1]
 ·simp[h0]
theorem insNe_run (w:World) (a b c d a' b' c' d':Int):(binOp .neq 77 (.agg #[.int .i64 a,.int .i64 b,.int .i64 c,.int .i64 d]) (.agg #[.int .i64 a', .int .i64 b', .int .i64 c', .int .i64 d'])).run Tryz.prog w = .ok (.bool (!decide (a=a'∧b=b'∧c=c'∧d=d'))) w:=by
 have h:=insEq_run w a b c d a' b' c' d';rw[run_eql_struct]at h;rw[run_neq_struct];generalize (Op.equalIn 10000 77 (.agg #[.int .i64 a,.int .i64 b,.int .i64 c,.int .i64 d]) (.agg #[.int .i64 a', .int .i64 b', .int .i64 c', .int .i64 d'])).run Tryz.prog w=r at h ⊢
 cases r with
 | ok b w'=>
  simp only[Result.andThen_ok]at h ⊢;injection h with h1 h2;injection h1 with h1;rw[h1,h2]
 | halt x w'=>simp[Result.andThen]at h
end Go.Proofs.YtmmfloplhopioaaGreat
/- Numbers by digits: plain. -/
namespace Go.AL
def ds (Q:Nat):Nat→(Nat→Nat)→Nat
  | 0,_=>0
  | n+1,d=>d 0+Q*ds Q n fun t=>d (t+1)
def sumN:Nat→(Nat→Nat)→Nat
  | 0,_=>0
  | n+1,f=>sumN n f+f n
def undN (a b:Nat):Prop:=a &&& b=a
theorem CO {Q:Nat}:∀ {n:Nat} {d e:Nat→Nat},(∀t,t<n→d t=e t)→ds Q n d=ds Q n e
 | 0,_,_,_=>rfl
 | n+1,d,e,h=>by
  rw[ds,ds,h 0 (by omega),CO (n:=n) (d:=fun t=>d (t+1)) (e:=fun t=>e (t+1)) fun t ht=>h (t+1) (by omega)]
theorem DF {Q:Nat}:∀(n:Nat) (d:Nat→Nat),ds Q (n+1) d=ds Q n d+d n*Q^n
 | 0,d=>by simp[ds]
 | n+1,d=>by
  rw[ds,DF n,ds,Nat.pow_succ]
  have:Q*(d (n+1)*Q^n)=d (n+1)*(Q^n*Q):=by
   rw[Nat.mul_comm (Q^n) Q,←Nat.mul_assoc,←Nat.mul_assoc,Nat.mul_comm Q]
  rw[Nat.mul_add,this];omega
theorem Dc {Q:Nat}:∀(n:Nat) (d e:Nat→Nat),ds Q n (fun t=>d t+e t)=ds Q n d+ds Q n e
 | 0,_,_=>rfl
 | n+1,d,e=>by rw[ds,ds,ds,Dc n (fun t=>d (t+1)) fun t=>e (t+1),Nat.mul_add]; omega
theorem ds_mul {Q:Nat} (c:Nat):∀(n:Nat) (d:Nat→Nat),ds Q n (fun t=>c*d t)=c*ds Q n d
 | 0,_=>rfl
 | n+1,d=>by
  rw[ds,ds,ds_mul c n fun t=>d (t+1),Nat.mul_add];rw[←Nat.mul_assoc,←Nat.mul_assoc,Nat.mul_comm Q c]
theorem ds_zero {Q:Nat}:∀n:Nat,ds Q n (fun _=>0)=0
 | 0=>rfl
 | n+1=>by rw[ds,ds_zero n]; simp
theorem ds_sum {Q n:Nat} (f:Nat→Nat→Nat):∀l:Nat,sumN l (fun i=>ds Q n (f i))=ds Q n fun t=>sumN l fun i=>f i t
 | 0=>(ds_zero n).symm
 | l+1=>by
  rw[sumN,ds_sum f l,←Dc]; rfl
theorem ds_shift {Q n:Nat} (d:Nat→Nat):Q*ds Q n d=ds Q (n+1) fun t=>if t=0 then 0 else d (t-1):=by
 rw[ds]; simp
theorem ds_pad {Q n:Nat} (d:Nat→Nat):ds Q n d=ds Q (n+1) fun t=>if t<n then d t else 0:=by
 rw[DF];simp only[Nat.lt_irrefl,if_false,Nat.zero_mul,Nat.add_zero]
 exact CO fun t ht=>by rw[if_pos ht]
theorem ds_lt {Q:Nat}:∀ {n:Nat} {d:Nat→Nat},(∀t,t<n→d t<Q)→ds Q n d<Q^n
 | 0,_,_=>by simp[ds]
 | n+1,d,h=>by
  have h0:=h 0 (by omega);have ih:=ds_lt (n:=n) (d:=fun t=>d (t+1)) fun t ht=>h (t+1) (by omega);rw[ds,Nat.pow_succ];have:Q*(ds Q n (fun t=>d (t+1))+1)≤Q*Q^n:=Nat.mul_le_mul_left Q ih;rw[Nat.mul_add]at this;rw[Nat.mul_comm (Q^n) Q];omega
theorem ds_inj_top {Q:Nat}:∀ {n:Nat} {d e:Nat→Nat} {D F:Nat},(∀t,t<n→d t<Q)→(∀t,t<n→e t<Q)→ds Q n d+D*Q^n=ds Q n e+F*Q^n→(∀t,t<n→d t=e t)∧D=F
 | 0,d,e,D,F,_,_,h=>⟨fun t ht=>by omega,by simpa[ds]using h⟩
 | n+1,d,e,D,F,h1,h2,h=>by
  have hd:=h1 0 (by omega);have he:=h2 0 (by omega);rw[ds,ds,Nat.pow_succ,show D*(Q^n*Q)=Q*(D*Q^n) by rw[Nat.mul_comm (Q^n) Q,←Nat.mul_assoc,Nat.mul_comm D Q,Nat.mul_assoc],show F*(Q^n*Q)=Q*(F*Q^n) by rw[Nat.mul_comm (Q^n) Q,←Nat.mul_assoc,Nat.mul_comm F Q,Nat.mul_assoc]]at h
  have h':d 0+Q*(ds Q n (fun t=>d (t+1))+D*Q^n)=e 0+Q*(ds Q n (fun t=>e (t+1))+F*Q^n):=by
   rw[Nat.mul_add,Nat.mul_add]; omega
  have e1:d 0=e 0:=by
   have:=congrArg (· % Q) h';simp only[Nat.add_mul_mod_self_left,Nat.mod_eq_of_lt hd,Nat.mod_eq_of_lt he]at this;exact this
  have e2:ds Q n (fun t=>d (t+1))+D*Q^n=ds Q n (fun t=>e (t+1))+F*Q^n:=by
   have:Q*(ds Q n (fun t=>d (t+1))+D*Q^n)=Q*(ds Q n (fun t=>e (t+1))+F*Q^n):=by omega
   exact Nat.eq_of_mul_eq_mul_left (by omega) this
  obtain⟨k1,k2⟩:=ds_inj_top (n:=n) (fun t ht=>h1 (t+1) (by omega)) (fun t ht=>h2 (t+1) (by omega)) e2;refine⟨fun t ht=>?_,k2⟩
  cases t with
  | zero=>exact e1
  | succ t=>exact k1 t (by omega)
theorem ds_inj {Q n:Nat} {d e:Nat→Nat} (h1:∀t,t<n→d t<Q) (h2:∀t,t<n→e t<Q) (h:ds Q n d=ds Q n e):∀t,t<n→d t=e t:=
 (ds_inj_top (D:=0) (F:=0) h1 h2 (by omega)).1
theorem ds_ex {Q:Nat} (hQ:0<Q):∀ {n N:Nat},N<Q^n→∃d:Nat→Nat,(∀t,d t<Q)∧N=ds Q n d
 | 0,N,h=>⟨fun _=>0,fun _=>hQ,by rw[Nat.pow_zero]at h; simp[ds]; omega⟩
 | n+1,N,h=>by
  have h1:N/Q<Q^n:=(Nat.div_lt_iff_lt_mul hQ).2 (by rwa [Nat.pow_succ]at h);obtain⟨d,hd,he⟩:=ds_ex hQ h1;refine⟨fun t=>if t=0 then N % Q else d (t-1),fun t=>?_,?_⟩
  ·dsimp only;split
   ·exact Nat.mod_lt _ hQ
   ·exact hd _
  ·rw[ds];simp only[if_true,Nat.succ_ne_zero,if_false,Nat.add_sub_cancel];show N=N % Q+Q*ds Q n d;rw[←he];have:=Nat.div_add_mod N Q;omega
def cyN (Q:Nat) (f:Nat→Nat):Nat→Nat
  | 0=>0
  | t+1=>(f t+cyN Q f t)/Q
def dgN (Q:Nat) (f:Nat→Nat) (t:Nat):Nat:=(f t+cyN Q f t) % Q
theorem ds_carry {Q:Nat} (f:Nat→Nat):∀n:Nat,ds Q n f=ds Q n (dgN Q f)+cyN Q f n*Q^n
 | 0=>by simp[ds,cyN]
 | n+1=>by
  rw[DF,DF,ds_carry f n,cyN,dgN,Nat.pow_succ];have h:=Nat.div_add_mod (f n+cyN Q f n) Q
  generalize (f n+cyN Q f n)/Q=q at *
  generalize (f n+cyN Q f n) % Q=r at *
  have e:q*(Q^n*Q)=Q*q*Q^n:=by
   rw[Nat.mul_comm (Q^n) Q,←Nat.mul_assoc,Nat.mul_comm q Q]
  have e2:(Q*q+r)*Q^n=(f n+cyN Q f n)*Q^n:=by rw[h]
  rw[Nat.add_mul,Nat.add_mul]at e2;rw[e];omega
theorem ds_ones {Q:Nat} (hQ:1≤Q):∀n:Nat,1+(Q-1)*ds Q n (fun _=>1)=Q^n
 | 0=>by simp[ds]
 | n+1=>by
  rw[DF,Nat.mul_add,←Nat.add_assoc,ds_ones hQ n,Nat.pow_succ,Nat.one_mul];have:Q^n*Q=Q*Q^n:=Nat.mul_comm _ _;rw[this]
  have h2:(Q-1)*Q^n+Q^n=Q*Q^n:=by
   rw[←Nat.succ_mul]; congr 1; omega
  omega
theorem ds_ind {Q:Nat}:∀ {n s:Nat},s<n→ds Q n (fun t=>if t=s then 1 else 0)=Q^s
 | 0,s,h=>by omega
 | n+1,0,_=>by
  rw[ds,CO (e:=fun _=>0) (fun t _=>by simp),ds_zero]; simp
 | n+1,s+1,h=>by
  rw[ds,CO (e:=fun t=>if t=s then 1 else 0) (fun t _=>by simp),ds_ind (by omega),Nat.pow_succ,Nat.mul_comm]; simp
/-! Masks. -/
theorem and_splitk (k:Nat) {p q r s:Nat} (hp:p<2^k) (hr:r<2^k):(p+2^k*q) &&& (r+2^k*s)=(p &&& r)+2^k*(q &&& s):=by
 have e:∀a b:Nat,a<2^k→a+2^k*b=b <<< k ||| a:=by
  intro a b h;rw[←Nat.shiftLeft_add_eq_or_of_lt h,Nat.shiftLeft_eq,Nat.mul_comm b]; omega
 have hpr:p &&& r<2^k:=Nat.lt_of_le_of_lt Nat.and_le_left hp;rw[e p q hp,e r s hr,e (p &&& r) (q &&& s) hpr];apply Nat.eq_of_testBit_eq;intro i;simp only[Nat.testBit_and,Nat.testBit_or,Nat.testBit_shiftLeft];by_cases hi:k≤i
 ·have h1:p.testBit i=false:=Nat.testBit_lt_two_pow (Nat.lt_of_lt_of_le hp (Nat.pow_le_pow_right (by omega) hi));have h2:r.testBit i=false:=Nat.testBit_lt_two_pow (Nat.lt_of_lt_of_le hr (Nat.pow_le_pow_right (by omega) hi));simp[hi,h1,h2]
 ·simp[hi]
theorem undN_split {k p q r s:Nat} (hp:p<2^k) (hr:r<2^k):undN (p+2^k*q) (r+2^k*s)↔undN p r∧undN q s:=by
 unfold undN;rw[and_splitk k hp hr];have hpr:p &&& r<2^k:=Nat.lt_of_le_of_lt Nat.and_le_left hp;constructor
 ·intro h
  have e1:p &&& r=p:=by
   have:=congrArg (· % 2^k) h;simpa[Nat.add_mul_mod_self_left,Nat.mod_eq_of_lt hpr,Nat.mod_eq_of_lt hp]using this
  refine⟨e1,?_⟩
  have:2^k*(q &&& s)=2^k*q:=by omega
  exact Nat.eq_of_mul_eq_mul_left (Nat.two_pow_pos k) this
 ·rintro⟨h1,h2⟩;rw[h1,h2]
theorem undN_ds {k:Nat}:∀ {n:Nat} {d e:Nat→Nat},(∀t,t<n→d t<2^k)→(∀t,t<n→e t<2^k)→(undN (ds (2^k) n d) (ds (2^k) n e)↔∀t,t<n→undN (d t) (e t))
 | 0,d,e,_,_=>⟨fun _ t ht=>by omega,fun _=>by simp[undN,ds]⟩
 | n+1,d,e,h1,h2=>by
  rw[ds,ds,undN_split (h1 0 (by omega)) (h2 0 (by omega)),undN_ds (n:=n) (fun t ht=>h1 (t+1) (by omega)) fun t ht=>h2 (t+1) (by omega)];constructor
  ·rintro⟨a,b⟩ t ht
   cases t with
   | zero=>exact a
   | succ t=>exact b t (by omega)
  ·exact fun h=>⟨h 0 (by omega),fun t ht=>h (t+1) (by omega)⟩
theorem undN_le {a b:Nat} (h:undN a b):a≤b:=by
 unfold undN at h;rw[←h]; exact Nat.and_le_right
theorem undN_zero (b:Nat):undN 0 b:=by simp[undN]
theorem undN_one {b:Nat}:undN 1 b↔b % 2=1:=by
 unfold undN;rw[Nat.and_comm,Nat.and_one_is_mod]
theorem undN_mask {k r:Nat} (h:r<2^k):undN r (2^k-1):=by
 unfold undN;rw[Nat.and_two_pow_sub_one_eq_mod,Nat.mod_eq_of_lt h]
theorem undN_digits {k n N:Nat} {e:Nat→Nat} (he:∀t,t<n→e t<2^k) (h:undN N (ds (2^k) n e)):∃d:Nat→Nat,(∀t,d t<2^k)∧N=ds (2^k) n d∧∀t,t<n→undN (d t) (e t):=by
 obtain⟨d,hd,hN⟩:=ds_ex (Nat.two_pow_pos k) (Nat.lt_of_le_of_lt (undN_le h) (ds_lt he));refine⟨d,hd,hN,?_⟩;rw[hN]at h;exact(undN_ds (fun t _=>hd t) he).1 h
/-! Sums. -/
theorem BP:∀ {n:Nat} {f g:Nat→Nat},(∀i,i<n→f i=g i)→sumN n f=sumN n g
 | 0,_,_,_=>rfl
 | n+1,f,g,h=>by rw[sumN,sumN,BP fun i hi=>h i (by omega),h n (by omega)]
theorem sumN_le:∀ {n:Nat} {f:Nat→Nat},(∀i,i<n→f i≤1)→sumN n f≤n
 | 0,_,_=>Nat.le_refl _
 | n+1,f,h=>by
  have:=sumN_le (n:=n) (f:=f) fun i hi=>h i (by omega);have:=h n (by omega);rw[sumN]; omega
theorem sumN_zero:∀ {n:Nat} {f:Nat→Nat},sumN n f=0→∀i,i<n→f i=0
 | 0,_,_,i,hi=>by omega
 | n+1,f,h,i,hi=>by
  rw[sumN]at h;rcases(show i=n∨i<n by omega)with rfl|k
  ·omega
  ·exact sumN_zero (n:=n) (by omega) i k
theorem sumN_one:∀ {n:Nat} {f:Nat→Nat},sumN n f=1→∃i,i<n∧f i=1∧∀j,j<n→j≠i→f j=0
 | 0,_,h=>by simp[sumN]at h
 | n+1,f,h=>by
  rw[sumN]at h;rcases(show f n=1∧sumN n f=0∨f n=0∧sumN n f=1 by omega)with⟨h1,h2⟩|⟨h1,h2⟩
  ·exact⟨n,by omega,h1,fun j hj hne=>sumN_zero h2 j (by omega)⟩
  ·obtain⟨i,hi,e,h3⟩:=sumN_one h2;refine⟨i,by omega,e,fun j hj hne=>?_⟩;rcases(show j=n∨j<n by omega)with rfl|k
   ·exact h1
   ·exact h3 j k hne
theorem sumN_ind {l:Nat} {a:Nat} (g:Nat→Nat):∀ {n:Nat},sumN n (fun i=>if a=i then g i else 0)=if a<n then g a else 0
 | 0=>by simp[sumN]
 | n+1=>by
  rw[sumN,sumN_ind (l:=l) g];rcases(show a<n∨a=n∨n<a by omega)with h|h|h
  ·rw[if_pos h,if_neg (by omega),if_pos (by omega)]; omega
  ·subst h; rw[if_neg (by omega),if_pos rfl,if_pos (by omega)]; omega
  ·rw[if_neg (by omega),if_neg (by omega),if_neg (by omega)]
end Go.AL

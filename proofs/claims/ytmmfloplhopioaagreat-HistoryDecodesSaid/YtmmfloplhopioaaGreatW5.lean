/- Part 5 of a proof layer and of the contracts of the functions. -/
import Derived.Test.YtmmfloplhopioaaGreatW4
set_option linter.unusedVariables false
set_option linter.unusedSimpArgs false
/- poly.Sub. (Not built yet: needs a seat that reaches it.) -/
namespace Go.Proofs.YtmmfloplhopioaaGreat
open Go.AL
theorem fit_m1:Fit (-1):=B8 (by omega) (by omega)
theorem Sub1_io (V:Nat) (hV:V≤32) (p q:PZ) (hwp:WP p) (hwq:WP q) (hp:OkP p) (hq:OkP q) (hpv:p.vars=V) (hqv:q.vars=V) (res:Res)
  (hr1:∀r,SumOk V (B6 (-1) p q) r→res = .ret (aP r)) (hr2:(¬∃r,SumOk V (B6 (-1) p q) r)→res = .thr (BT 4)) :
  IoFn Tryz.prog 194 [.ptr 900 0,.ptr 901 0] (bPQ p q) res (bPQ p q):=by
 have h:=plus_io V hV p q (-1) fit_m1 hwp hwq hp hq hpv hqv (fun t ht=>(D3 (hwq t ht) (hq.terms t ht).coef).2.le (by omega)) res hr1 hr2;refine AH Tryz.func194 rfl Tryz.ntmps194 rfl rfl rfl ?_;by_cases hg:∃r,SumOk V (B6 (-1) p q) r
 ·obtain⟨r,hr⟩:=hg;have e1:=hr1 r hr;subst e1;(repeat' first|refine qv ?_|apply qn|apply qs|apply qr|refine qe ?_|fail);refine qc (Ct (-1) (by omega) (by omega)) ?_;refine A9 rfl [] h rfl rfl (AB _) rfl trivial rfl rfl rfl rfl rfl ?_;(repeat' first|refine Fl.nil (fun _=>by kernel_rfl) ?_|refine qe ?_|apply qt);exact⟨⟨[],_,_,AM _ _ _,rfl,AA _,rfl,⟨⟨⟨_,rfl,BLe.cells (AB _)⟩,rfl⟩,⟨⟨_,rfl,BLe.cells (AB _)⟩,rfl⟩,trivial⟩,rfl,rfl⟩⟩
 ·have e1:=hr2 hg;subst e1;(repeat' first|refine qv ?_|apply qn|apply qs|apply qr|refine qe ?_|fail);refine qc (Ct (-1) (by omega) (by omega)) ?_;exact A7 rfl [] h rfl (AB _) rfl trivial rfl (fun _=>by kernel_rfl) (fun _=>rfl)
theorem pSub_ok (V:Nat) (hV:V≤32) (p q:PZ) (hwp:WP p) (hwq:WP q) (hp:OkP p) (hq:OkP q) (hpv:p.vars=V) (hqv:q.vars=V) (r:AV)
  (hr1:∀x,SumOk V (B6 (-1) p q) x→r = .tup [aP x,aN 0]) (hr2:(¬∃x,SumOk V (B6 (-1) p q) x)→r = .tup [aP ⟨0,[]⟩,aN 4]) :
  PureFn Tryz.prog 161 [aP p,aP q] r:=by
 refine AC Tryz.func161 rfl Tryz.ntmps161 rfl rfl ?_;have hb:=both_ok p q hwp hwq;rw[bothE_ok hp hq,if_pos (hpv.trans hqv.symm)]at hb;(repeat' first|refine qv ?_|apply qn|apply qs|apply qr|refine qe ?_|fail);refine qc (hb) ?_;(repeat' first|refine qv ?_|apply qn|apply qs|apply qr|refine AF rfl ?_|apply qk);by_cases hg:∃x,SumOk V (B6 (-1) p q) x
 ·obtain⟨x,hx⟩:=hg;rw[hr1 x hx]
  have hx':∀y,SumOk V (B6 (-1) p q) y→(Res.ret (aP x)) = .ret (aP y):=fun y hy=>by
   have:=(hr1 x hx).symm.trans (hr1 y hy);injection this with this;injection this with this;rw[this]
  refine A9 rfl [(900,2),(901,3)] (tried_ret (Sub1_io V hV p q hwp hwq hp hq hpv hqv (.ret (aP x)) hx' (fun h=>absurd ⟨x,hx⟩ h))) rfl rfl (AB _) rfl ⟨⟨⟨_,rfl,BLe.cells (AB _)⟩,rfl⟩,⟨⟨_,rfl,BLe.cells (AB _)⟩,rfl⟩,trivial⟩ rfl rfl rfl rfl rfl ?_;(repeat' first|refine qv ?_|apply qn|refine qe ?_|apply qt);exact RetOk.of rfl (AA _)
 ·rw[hr2 hg];refine A9 rfl [(900,2),(901,3)] (tried_thr (Sub1_io V hV p q hwp hwq hp hq hpv hqv _ (fun y hy=>absurd ⟨y,hy⟩ hg) (fun _=>rfl))) rfl rfl (AB _) rfl ⟨⟨⟨_,rfl,BLe.cells (AB _)⟩,rfl⟩,⟨⟨_,rfl,BLe.cells (AB _)⟩,rfl⟩,trivial⟩ rfl rfl rfl rfl rfl ?_;(repeat' first|refine qv ?_|apply qn|refine qe ?_|apply qt);exact RetOk.of rfl (AA _)
end Go.Proofs.YtmmfloplhopioaaGreat
/- poly.Var, poly.Const; expr's Kit: New, V, N, Sub, Add, Mul. -/
namespace Go.AL
def unU (V i:Nat):List Int:=(List.replicate V 0).set i 1
def varU (V i:Nat):List UT:=[(1,unU V i)]
def conU (V:Nat) (c:Int):List UT:=if c=0 then[]else[(c,List.replicate V 0)]
def Cc (V:Nat):List UT→List (List UT)→Bool
  | acc,[]=>chkU V acc acc
  | acc,p::l=>chkU V acc acc&&chkU V p p&&chkU V (Bu 1 acc p) (addL acc p)&&Cc V (addL acc p) l
def DB (V:Nat):List UT→List (List UT)→Bool
  | acc,[]=>chkU V acc acc
  | acc,p::l=>chkU V acc acc&&chkU V p p&&degU acc p&&chkU V (Bo acc p) (Aq acc p)&&DB V (Aq acc p) l
def An (acc:List UT) (l:List (List UT)):List UT:=l.foldl addL acc
def A0 (acc:List UT) (l:List (List UT)):List UT:=l.foldl Aq acc
end Go.AL
namespace Go.Proofs.YtmmfloplhopioaaGreat
open Go.AL
abbrev aK (V:Nat):AV := .agg [aN V]
theorem pVarP_ok (V i:Nat) (hV:V≤32) (hi:i<V):PureFn Tryz.prog 159 [aN V,aN i] (.tup [aP (mkP V (varU V i)),aN 0]):=by
 refine AC Tryz.func159 rfl Tryz.ntmps159 rfl rfl ?_;refine AE ?_;(repeat' first|refine qv ?_|apply qn|apply qr|refine qe ?_|fail);refine⟨AE ?_⟩;(repeat' first|refine qv ?_|apply qn|apply qs|apply qr|(refine AD rfl ?_ ?_<;>intro _<;>try(exfalso; omega))|apply qk|(refine AG rfl rfl ?_ ?_<;>intro _<;>try(exfalso; omega)));refine⟨AE ?_⟩;(repeat' first|refine qv ?_|apply qn|apply qr|refine CH rfl rfl rfl rfl rfl rfl rfl rfl rfl rfl eI 0 (by exact AB _) (by rfl) (by first|omega|(dsimp only; omega)) (by first|omega|(dsimp only; omega)) (by first|omega|(dsimp only; omega)) ?_|fail);refine⟨AE ?_⟩;(repeat' first|refine qv ?_|apply qn|apply qr|refine A8 rfl rfl rfl rfl rfl rfl rfl rfl (by omega) (by first|omega|(simp; omega)) ?_|refine Bb rfl rfl rfl rfl rfl rfl rfl rfl rfl rfl rfl (AB _) rfl (by first|omega|(simp; omega)) ?_|fail);refine⟨?_⟩;refine AY (Ent.freeze 24 rfl) ?_;(repeat' first|refine qv ?_|apply qs|apply qr);refine qc (Ct 1 (by omega) (by omega)) ?_;(repeat' first|refine qv ?_|refine qe ?_|fail);refine ql eT [⟨zOf 1,unU V i⟩] ?_;(repeat' first|refine qv ?_|apply qn|refine qe ?_|apply qt);exact RetOk.of rfl (AA _)
theorem xCopy_ok (X:List Int) (hX:∀x∈X,Fit x) (hl:X.length≤1000000):PureFn Tryz.prog 216 [.sl 2 eX X] (.sl 2 eX X):=by
 refine AC Tryz.func216 rfl Tryz.ntmps216 rfl rfl ?_;refine AE ?_;(repeat' first|refine qv ?_|apply qn|apply qr);refine⟨AE ?_⟩;(repeat' first|refine qv ?_|apply qr);refine CH rfl rfl rfl rfl rfl rfl rfl rfl rfl rfl eX 0 (by exact DQ (σ:=[]) rfl) (by rfl) (by omega) (by dsimp only; omega) (by omega) ?_;(repeat' first|refine qv ?_|apply qn);refine⟨?_⟩;refine Cj (G:=Unit) (fun _=>True) (fun _=>AO [] [(3,.row 8)] [(8,.row 2 eX X 48)]) ?_ ?_
 ·(repeat'(first|refine qv ?_|apply qn|apply qs|apply qr|apply qb));refine AWP.loop (G:=Nat) (fun i=>i≤X.length) (fun i=>AO [] [(3,.row 8),(9,.sl 2 eX X),(10,aN X.length),(11,aN i)] [(8,.row 2 eX (X.take i++List.replicate (X.length-i) 0) 48)]) (fun i=>X.length-i) 0 (by omega) ?_ ?_
  ·refine Ent.of [] ?_ ?_ rfl rfl;(repeat' first|exact True.intro|refine⟨⟨AA _,rfl⟩,?_⟩|refine⟨⟨⟨_,rfl,BLe.row rfl⟩,rfl⟩,?_⟩|fail)
  ·intro i h0
   have hli:(X.take i++List.replicate (X.length-i) (0:Int)).length=X.length:=by simp; omega
   (repeat' first|refine qv ?_|apply qn|apply qs|apply qr|refine qe ?_|(refine AD rfl ?_ ?_<;>intro _<;>try(exfalso; omega))|apply qb|apply qk|apply qx|(refine Ay rfl rfl rfl rfl rfl rfl rfl rfl (by omega) (by omega) ?_; intro _ _)|fail)
   ·rename_i hi x hx;rw[Int.toNat_natCast]at hx;have hxl:=(hX x (List.mem_of_getElem? hx)).len;refine Fl.ap0C rfl rfl rfl rfl rfl rfl rfl eW rfl (fun _=>rfl) (fun _=>rfl) (AA _) (by dsimp only; omega) (by omega) ?_;(repeat' first|refine qv ?_|apply qn|refine Fl.nil (fun _=>by kernel_rfl) ?_|apply qr|refine qw ?_|refine qe ?_|refine A8 rfl rfl rfl rfl rfl rfl rfl rfl (by omega) (by first|omega|(simp; omega)) ?_|refine Bb rfl rfl rfl rfl rfl rfl rfl rfl rfl rfl rfl (AB _) rfl (by first|omega|(simp; omega)) ?_|fail);refine LoopEnd.of (i+1) (by omega) (by omega) ?_;refine Ent.of [] ?_ ?_ rfl rfl;(repeat' first|exact True.intro|refine⟨⟨AA _,rfl⟩,?_⟩|refine⟨⟨⟨_,rfl,BLe.row ?_⟩,rfl⟩,?_⟩|fail);rw[Ab hx];exact CP (by rw[List.length_take]; omega) (by omega) rfl
   ·have hi:i=X.length:=by omega
    refine JoinOk.of () trivial ?_;refine Ent.of [] ?_ ?_ rfl rfl;(repeat' first|exact True.intro|refine⟨⟨AA _,rfl⟩,?_⟩|refine⟨⟨⟨_,rfl,BLe.row ?_⟩,rfl⟩,?_⟩|fail);rw[hi]; simp
 ·intro _ _;(repeat' first|refine qv ?_|apply qn|apply qs|apply qr|apply qt);refine Ao (Ent.freeze 8 rfl) ?_;exact RetOk.of rfl (AA _)
theorem constant_ok (V:Nat) (x:Int) (hV:V≤32) (hx:Fit x):PureFn Tryz.prog 191 [aN V,aX x] (aP (mkP V (conU V x))):=by
 refine AC Tryz.func191 rfl Tryz.ntmps191 rfl rfl ?_;refine AE ?_;(repeat' first|apply qn|apply qr|refine qe ?_|fail);refine⟨AE ?_⟩;(repeat' first|refine qv ?_|apply qn|apply qr|refine qe ?_|fail);refine⟨?_⟩;refine AWP.seq ?_;(repeat' first|refine qv ?_|apply qs|apply qr);refine qc (ZeroX_ok x) ?_;(repeat' first|refine qv ?_|apply qn|apply qs|apply qr|refine qe ?_|(refine AQ rfl ?_ ?_<;>intro _<;>try(exfalso; omega))|apply qk|apply qt)
 ·rename_i h0;refine ql eX [x] ?_;have e0:[x][(0:Int).toNat]? = some x:=rfl;refine qc (xCopy_ok [x] (by simp[hx]) (by simp)) ?_;(repeat' first|refine Fl.v rfl rfl rfl ?_|refine Fl.elK rfl rfl rfl rfl rfl rfl rfl rfl (by assumption) (by omega) ?_|fail);refine Fl.makeC rfl rfl rfl rfl rfl rfl rfl rfl rfl eI 0 (by exact AB _) (by rfl) (by omega) (by dsimp only; omega) (by omega) ?_;(repeat' first|refine qe ?_|fail);refine ql eT [⟨zOf x,List.replicate V 0⟩] ?_;(repeat' first|refine qv ?_|apply qn|refine Fl.nil (fun _=>by kernel_rfl) ?_|apply qs|apply qr|refine qe ?_|apply qt);refine RetOk.of rfl ?_;rw[conU,if_neg h0];exact AA _
 ·rename_i h0;refine RetOk.of rfl ?_;rw[conU,if_pos h0];exact AV.Le.agg (LeL.cons (AA _) (LeL.cons (AV.Le.nil 3 eT) LeL.nil))
theorem pConstP_ok (V:Nat) (x:Int) (hV:V≤32) (hx:Fit x):PureFn Tryz.prog 158 [aN V,aX x] (.tup [aP (mkP V (conU V x)),aN 0]):=by
 refine AC Tryz.func158 rfl Tryz.ntmps158 rfl rfl ?_;(repeat' first|refine qv ?_|apply qn|apply qs|apply qr|refine qe ?_|fail);refine qc (Valid_int x hx) ?_;(repeat' first|refine qv ?_|apply qn|apply qs|apply qr|refine AF rfl ?_|(refine AD rfl ?_ ?_<;>intro _<;>try(exfalso; omega))|apply qk);refine qc (constant_ok V x hV hx) ?_;(repeat' first|refine qv ?_|apply qn|refine qe ?_|apply qt);exact RetOk.of rfl (AA _)
theorem kNew_ok (V:Nat):PureFn Tryz.prog 101 [aN V] (aK V):=by
 refine AC Tryz.func101 rfl Tryz.ntmps101 rfl rfl ?_;(repeat' first|refine qv ?_|apply qn|apply qs|apply qr|refine qe ?_|apply qt);exact RetOk.of rfl (AA _)
theorem CB (V i:Nat) (hV:V≤32) (hi:i<V):PureFn Tryz.prog 104 [aK V,aN i] (aP (mkP V (varU V i))):=by
 refine AC Tryz.func104 rfl Tryz.ntmps104 rfl rfl ?_;(repeat' first|refine qv ?_|apply qn|apply qs|apply qr|refine qe ?_|fail);refine qc (pVarP_ok V i hV hi) ?_;(repeat' first|refine qv ?_|apply qn|apply qs|apply qr|refine qe ?_|apply qt);exact RetOk.of rfl (AA _)
theorem EK (V:Nat) (c:Int) (hV:V≤32) (h0 : -4294967296<c) (h1:c<4294967296):PureFn Tryz.prog 103 [aK V,aN c] (aP (mkP V (conU V c))):=by
 refine AC Tryz.func103 rfl Tryz.ntmps103 rfl rfl ?_;(repeat' first|refine qv ?_|apply qn|apply qs|apply qr|refine qe ?_|fail);refine qc (Ct c (by omega) (by omega)) ?_;refine qc (pConstP_ok V c hV (B8 (by omega) (by omega))) ?_;(repeat' first|refine qv ?_|apply qn|refine Fl.nil (fun _=>by kernel_rfl) ?_|apply qs|apply qr|refine qe ?_|apply qt);exact RetOk.of rfl (AA _)
theorem subMk (V:Nat) (hV:V≤32) (p q l:List UT) (hp:chkU V p p=true) (hq:chkU V q q=true) (h:chkU V (Bu (-1) p q) l=true):PureFn Tryz.prog 161 [aP (mkP V p),aP (mkP V q)] (.tup [aP (mkP V l),aN 0]):=by
 obtain⟨p1,p2,p3⟩:=mk_ok hV hp;obtain⟨q1,q2,q3⟩:=mk_ok hV hq
 have hs:SumOk V (B6 (-1) (mkP V p) (mkP V q)) (mkP V l):=by rw[plusU_mk]; exact chkU_ok hV h
 exact pSub_ok V hV _ _ p3 q3 p1 q1 p2 q2 _ (fun x hx=>by rw[hs.uniq hx]) (fun k=>absurd ⟨_,hs⟩ k)
theorem kSub_ok (V:Nat) (hV:V≤32) (p q l:List UT) (hp:chkU V p p=true) (hq:chkU V q q=true) (h:chkU V (Bu (-1) p q) l=true):PureFn Tryz.prog 106 [aK V,aP (mkP V p),aP (mkP V q)] (aP (mkP V l)):=by
 refine AC Tryz.func106 rfl Tryz.ntmps106 rfl rfl ?_;(repeat' first|refine qv ?_|apply qn|apply qs|apply qr|refine qe ?_|fail);refine qc (subMk V hV p q l hp hq h) ?_;(repeat' first|refine qv ?_|apply qn|apply qs|apply qr|refine qe ?_|apply qt);exact RetOk.of rfl (AA _)
end Go.Proofs.YtmmfloplhopioaaGreat
/- Lists of terms az the reference holds them: bounds. -/
namespace Go.AL
theorem lenI_neg (x:Int):lenI (-x)=lenI x:=by unfold lenI; rw[Int.natAbs_neg]
theorem lenI_add {x y:Int} {M:Nat} (hx:lenI x≤M) (hy:lenI y≤M):lenI (x+y)≤M+1:=by
 rw[lenI_le]at *
 rw[Ax];have:=A6 M;omega
theorem lenI_zero:lenI 0=0:=by
 have:=(lenI_le (x:=0) (n:=0)).2 (by simp[CK]);omega
def okT (V M:Nat) (l:List UT):Prop:=∀u∈l,u.2.length=V∧EOk u.2∧lenI u.1≤M
theorem okT.nil (V M:Nat):okT V M []:=fun u h=>by simp at h
theorem okT.mono {V M N:Nat} {l:List UT} (h:okT V M l) (hm:M≤N):okT V N l:=fun u hu=>⟨(h u hu).1,(h u hu).2.1,Nat.le_trans (h u hu).2.2 hm⟩
theorem okT.lenU {V M:Nat} {l:List UT} (h:okT V M l):lenU V l:=fun u hu=>(h u hu).1
theorem okT.append {V M:Nat} {a b:List UT} (ha:okT V M a) (hb:okT V M b):okT V M (a++b):=fun u hu=>(List.mem_append.1 hu).elim (ha u) (hb u)
theorem okT.sub {V M:Nat} {a b:List UT} (h:okT V M a) (hs:∀u∈b,u∈a):okT V M b:=fun u hu=>h u (hs u hu)
theorem okT.terms {V M:Nat} {l:List UT} (h:okT V M l):TermsOk V M (l.map tz):=by
 refine⟨?_,?_,?_,?_⟩<;>(intro t ht; obtain⟨u,hu,rfl⟩:=List.mem_map.1 ht)
 ·exact Ag _
 ·show zOf u.1=zOf (zval (zOf u.1)); rw[A4]
 ·exact⟨(h u hu).2.1,(h u hu).1⟩
 ·show lenI (zval (zOf u.1))≤M; rw[A4]; exact(h u hu).2.2
theorem cfU_len {V M:Nat} {l:List UT} (hc:CanU l) (h:okT V M l) (e:List Int):lenI (cfU l e)≤M:=by
 by_cases hz:cfU l e=0
 ·rw[hz,lenI_zero]; omega
 ·obtain⟨u,hu,he⟩:=cfU_mem hz;rw[←he,cfU_one hc.pw hu];exact(h u hu).2.2
theorem okT.can {V M:Nat} {a b:List UT} (ca:CanU a) (cb:CanU b) (ha:okT V M a) (hb:okT V M b):okT V (M+1) (canU (a++b)):=fun u hu=>by
 obtain⟨w,hw,he⟩:=canU_mem hu;have h1:=(ha.append hb) w hw;refine⟨by rw[he]; exact h1.1,by rw[he]; exact h1.2.1,?_⟩;have:=((CX (a++b)).mem_iff u).1 hu;rw[←this.2,Bf,Bg];exact lenI_add (cfU_len ca ha _) (cfU_len cb hb _)
theorem okT.can0 {V M:Nat} {l:List UT} (h:okT V M l) (hl:l.length<2):okT V M (canU l):=by
 match l,hl with
 | [],_=>exact h
 | [u],_=>
  show okT V M (insU u []);unfold insU;split
  ·exact okT.nil V M
  ·exact h
theorem insU_length (u:UT):∀l:List UT,(insU u l).length≤l.length+1
 | []=>by unfold insU; split<;>simp
 | w::l=>by
  unfold insU;split
  ·split<;>simp
  ·split
   ·split<;>simp<;>omega
   ·have:=insU_length u l;simp; omega
theorem EP:∀l:List UT,(canU l).length≤l.length
 | []=>Nat.le_refl _
 | u::l=>by
  show(insU u (canU l)).length≤_;have:=insU_length u (canU l);have:=EP l;simp; omega
theorem canU_halves (l:List UT) (k:Nat):canU (canU (l.take k)++canU (l.drop k))=canU l:=Co fun e=>by
 rw[Bg,Bf,Bf,←Bg,List.take_append_drop]
theorem conU_can (V:Nat) (c:Int):canU [(c,List.replicate V 0)]=conU V c:=by
 show insU _ []=_;unfold insU conU;rfl
theorem okT.con {V M:Nat} {c:Int} (h:lenI c≤M):okT V M (conU V c):=by
 unfold conU;split
 ·exact okT.nil V M
 ·intro u hu;simp only[List.mem_singleton]at hu;subst hu;exact⟨by simp,EOk.zeros V,h⟩
theorem CanU.one {u:UT} (h:u.1≠0):CanU [u]:=CanU.nil.cons h (by simp)
theorem conU_canU (V:Nat) (c:Int):CanU (conU V c):=by rw[←conU_can]; exact CX _
theorem EOk.unU (V i:Nat):EOk (unU V i):=fun e he=>by
 unfold Go.AL.unU at he;rcases List.mem_or_eq_of_mem_set he with h|h
 ·rw[List.eq_of_mem_replicate h]; omega
 ·omega
def mulR (p q:List UT):List UT:=q.flatMap fun t=>p.map fun s=>(s.1*t.1,addE s.2 t.2)
theorem cfU_flatMap (f:UT→List UT) (e:List Int):∀l:List UT,cfU (l.flatMap f) e=sumL (l.map fun u=>cfU (f u) e)
 | []=>rfl
 | u::l=>by
  rw[List.flatMap_cons,Bg,cfU_flatMap f e l];rfl
theorem cfU_map (f:UT→UT) (e:List Int):∀l:List UT,cfU (l.map f) e=sumL (l.map fun u=>if (f u).2=e then(f u).1 else 0)
 | []=>rfl
 | u::l=>by
  rw[List.map_cons,cfU,cfU_map f e l];rfl
theorem sumL_add {α:Type} (f g:α→Int):∀l:List α,sumL (l.map fun x=>f x+g x)=sumL (l.map f)+sumL (l.map g)
 | []=>rfl
 | x::l=>by
  simp only[List.map_cons,sumL];rw[sumL_add f g l]; omega
theorem sumL_zero {α:Type}:∀l:List α,sumL (l.map fun _=>(0:Int))=0
 | []=>rfl
 | x::l=>by simp only[List.map_cons,sumL]; rw[sumL_zero l]; omega
theorem sumL_swap {α β:Type} (f:α→β→Int) (b:List β):∀a:List α,sumL (a.map fun x=>sumL (b.map fun y=>f x y))=sumL (b.map fun y=>sumL (a.map fun x=>f x y))
 | []=>by simp only[List.map_nil,sumL]; exact(sumL_zero b).symm
 | x::a=>by
  simp only[List.map_cons,sumL];rw[sumL_swap f b a,←sumL_add]
theorem cfU_mulR (p q:List UT) (e:List Int):cfU (mulR p q) e=cfU (Bo p q) e:=by
 unfold mulR Bo;rw[cfU_flatMap,cfU_flatMap];simp only[cfU_map];exact sumL_swap (fun(t s:UT)=>if addE s.2 t.2=e then s.1*t.1 else 0) p q
theorem mulR_length (p q:List UT):(mulR p q).length=q.length*p.length:=by
 induction q with
 | nil=>simp[mulR]
 | cons t q ih=>
  have:mulR p (t::q)=(p.map fun s=>(s.1*t.1,addE s.2 t.2))++mulR p q:=rfl;rw[this,List.length_append,ih,List.length_map,List.length_cons,Nat.add_mul]; omega
end Go.AL
/- Kit.Add, Kit.Mul. -/
namespace Go.AL
theorem okSums_cons {V:Nat} {acc p:List UT} {l:List (List UT)} (h:Cc V acc (p::l)=true):chkU V acc acc=true∧chkU V p p=true∧chkU V (Bu 1 acc p) (addL acc p)=true∧Cc V (addL acc p) l=true:=by
 simp only[Cc,Bool.and_eq_true]at h;exact⟨h.1.1.1,h.1.1.2,h.1.2,h.2⟩
theorem okMuls_cons {V:Nat} {acc p:List UT} {l:List (List UT)} (h:DB V acc (p::l)=true):chkU V acc acc=true∧chkU V p p=true∧degU acc p=true∧chkU V (Bo acc p) (Aq acc p)=true∧DB V (Aq acc p) l=true:=by
 simp only[DB,Bool.and_eq_true]at h;exact⟨h.1.1.1.1,h.1.1.1.2,h.1.1.2,h.1.2,h.2⟩
theorem drop_cons {α:Type} {l:List α} {i:Nat} {x:α} (h:l[i]? = some x):l.drop i=x::l.drop (i+1):=by
 have hi:=List.getElem?_eq_some_iff.1 h;rw[List.drop_eq_getElem_cons hi.1,hi.2]
end Go.AL
namespace Go.Proofs.YtmmfloplhopioaaGreat
open Go.AL
theorem Dk (V:Nat) (hV:V≤32) (ls:List (List UT)) (hl:ls.length≤1000) (h:Cc V [] ls=true):PureFn Tryz.prog 105 [aK V,.sl 2 eP (ls.map (mkP V))] (aP (mkP V (An [] ls))):=by
 refine AC Tryz.func105 rfl Tryz.ntmps105 rfl rfl ?_;have hN:=EK V 0 hV (by omega) (by omega);rw[show conU V 0=[] from rfl]at hN;refine AE ?_;(repeat' first|apply qn|apply qr|refine qe ?_|fail);refine⟨AE ?_⟩;(repeat' first|refine qv ?_|apply qr);refine qc (hN) ?_;(repeat' first|apply qn|refine qe ?_|fail);refine⟨?_⟩;obtain⟨L,hL⟩:∃L,L=ls.map (mkP V):=⟨_,rfl⟩
 have hLl:L.length=ls.length:=by rw[hL,List.length_map]
 rw[←hL];(repeat' first|refine qv ?_|apply qn|apply qs|apply qr|apply qb);refine AWP.loop (G:=Nat×List UT) (fun(i,acc)=>i≤ls.length∧Cc V acc (ls.drop i)=true∧An acc (ls.drop i)=An [] ls) (fun(i,acc)=>AO [] [(4,.ptr 4 0),(5,.ptr 5 0),(10,.sl 2 eP L),(11,aN L.length),(12,aN i)] [(4,.cells [aN 0,.v (.slice none 0 0)] 105),(5,.cells (eP (mkP V acc)) 105)]) (fun(i,acc)=>ls.length-i) (0,[]) ⟨by omega,h,rfl⟩ ?_ ?_
 ·refine Ent.of [] ?_ ?_ rfl rfl;(repeat' first|exact True.intro|refine⟨⟨AA _,rfl⟩,?_⟩|refine⟨⟨⟨_,rfl,BLe.cells (AB _)⟩,rfl⟩,?_⟩|fail)
 ·intro⟨i,acc⟩ ⟨h0,h1,h2⟩;(repeat' first|refine qv ?_|apply qn|apply qs|apply qr|refine qe ?_|(refine AD rfl ?_ ?_<;>intro _<;>try(exfalso; omega))|apply qb|apply qk|apply qx|apply qt|(refine Ay rfl rfl rfl rfl rfl rfl rfl rfl (by omega) (by omega) ?_; intro _ _)|fail)
  ·rename_i hi p hp;rw[Int.toNat_natCast,hL,List.getElem?_map]at hp;obtain⟨q,hq,rfl⟩:=Option.map_eq_some_iff.1 hp;rw[drop_cons hq]at h1 h2;obtain⟨c1,c2,c3,c4⟩:=okSums_cons h1;refine qc (addMk V hV acc q _ c1 c2 c3) ?_;(repeat' first|refine qv ?_|apply qn|apply qr|refine qw ?_|refine qe ?_|fail);refine LoopEnd.of (i+1,addL acc q) ⟨by omega,c4,h2⟩ (by simp only; omega) ?_;refine Ent.of [] ?_ ?_ rfl rfl;(repeat' first|exact True.intro|refine⟨⟨AA _,rfl⟩,?_⟩|refine⟨⟨⟨_,rfl,BLe.cells (AB _)⟩,rfl⟩,?_⟩|fail)
  ·rename_i hi;rw[List.drop_of_length_le (by omega)]at h2;refine RetOk.of rfl (AP ?_);rw[←h2]; rfl
theorem Cy (V:Nat) (hV:V≤32) (ls:List (List UT)) (hl:ls.length≤1000) (h:DB V (conU V 1) ls=true):PureFn Tryz.prog 102 [aK V,.sl 2 eP (ls.map (mkP V))] (aP (mkP V (A0 (conU V 1) ls))):=by
 refine AC Tryz.func102 rfl Tryz.ntmps102 rfl rfl ?_;have hN:=EK V 1 hV (by omega) (by omega);refine AE ?_;(repeat' first|apply qn|apply qr|refine qe ?_|fail);refine⟨AE ?_⟩;(repeat' first|refine qv ?_|apply qr);refine qc (hN) ?_;(repeat' first|apply qn|refine qe ?_|fail);refine⟨?_⟩;obtain⟨L,hL⟩:∃L,L=ls.map (mkP V):=⟨_,rfl⟩
 have hLl:L.length=ls.length:=by rw[hL,List.length_map]
 rw[←hL];(repeat' first|refine qv ?_|apply qn|apply qs|apply qr|apply qb);refine AWP.loop (G:=Nat×List UT) (fun(i,acc)=>i≤ls.length∧DB V acc (ls.drop i)=true∧A0 acc (ls.drop i)=A0 (conU V 1) ls) (fun(i,acc)=>AO [] [(4,.ptr 4 0),(5,.ptr 5 0),(10,.sl 2 eP L),(11,aN L.length),(12,aN i)] [(4,.cells [aN 0,.v (.slice none 0 0)] 105),(5,.cells (eP (mkP V acc)) 105)]) (fun(i,acc)=>ls.length-i) (0,conU V 1) ⟨by omega,h,rfl⟩ ?_ ?_
 ·refine Ent.of [] ?_ ?_ rfl rfl;(repeat' first|exact True.intro|refine⟨⟨AA _,rfl⟩,?_⟩|refine⟨⟨⟨_,rfl,BLe.cells (AB _)⟩,rfl⟩,?_⟩|fail)
 ·intro⟨i,acc⟩ ⟨h0,h1,h2⟩;(repeat' first|refine qv ?_|apply qn|apply qs|apply qr|refine qe ?_|(refine AD rfl ?_ ?_<;>intro _<;>try(exfalso; omega))|apply qb|apply qk|apply qx|apply qt|(refine Ay rfl rfl rfl rfl rfl rfl rfl rfl (by omega) (by omega) ?_; intro _ _)|fail)
  ·rename_i hi p hp;rw[Int.toNat_natCast,hL,List.getElem?_map]at hp;obtain⟨q,hq,rfl⟩:=Option.map_eq_some_iff.1 hp;rw[drop_cons hq]at h1 h2;obtain⟨c1,c2,c3,c4,c5⟩:=okMuls_cons h1;refine qc (mulMk V hV acc q _ c1 c2 c3 c4) ?_;(repeat' first|refine qv ?_|apply qn|apply qr|refine qw ?_|refine qe ?_|fail);refine LoopEnd.of (i+1,Aq acc q) ⟨by omega,c5,h2⟩ (by simp only; omega) ?_;refine Ent.of [] ?_ ?_ rfl rfl;(repeat' first|exact True.intro|refine⟨⟨AA _,rfl⟩,?_⟩|refine⟨⟨⟨_,rfl,BLe.cells (AB _)⟩,rfl⟩,?_⟩|fail)
  ·rename_i hi;rw[List.drop_of_length_le (by omega)]at h2;refine RetOk.of rfl (AP ?_);rw[←h2]; rfl
end Go.Proofs.YtmmfloplhopioaaGreat
/- Kit.Link: its closures; what occurs. -/
namespace Go.AL
def occL (V:Nat) (ls:List (List UT)):List Nat:=(List.range V).filter fun i=>ls.any fun p=>p.any fun u=>decide (0<u.2.getD i 0)
def DN (occ:List Nat) (e:List Int):List Int:=occ.map fun i=>e.getD i 0
def EI (occ:List Nat) (p:List UT):List UT:=p.map fun u=>(u.1,DN occ u.2)
def BF (V:Nat) (kind:Int) (ls:List (List UT)):LZ:=⟨kind,(occL V ls).map fun(i:Nat)=>(i:Int),ls.map fun p=>mkP (occL V ls).length (EI (occL V ls) p)⟩
end Go.AL
namespace Go.Proofs.YtmmfloplhopioaaGreat
open Go.AL
abbrev iB (i:Int):List (AL.Id×Bx):=[(900,.cells [aN i] 3)]
theorem idxT_ok (o:Int) (f:TZ→Bool) (ps:List TZ) (hl:ps.length≤1000000) (hf:∀p∈ps,IoFn Tryz.prog 197 ([aT p]++[.ptr 900 0]) (iB o) (.ret (aB (f p))) (iB o)) :
  IoFn Tryz.prog 217 [.sl 3 eT ps,.fn 197 [.ptr 900 0]] (iB o) (.ret (aN (idxI f ps 0))) (iB o):=by
 refine AH Tryz.func217 rfl Tryz.ntmps217 rfl rfl rfl ?_;(repeat' first|refine qv ?_|apply qn|apply qs|apply qr|apply qb);refine AWP.loop (G:=Nat) (fun i=>i≤ps.length∧idxI f (ps.drop i) i=idxI f ps 0) (fun i=>AO [900] [(0,.sl 3 eT ps),(1,.fn 197 [.ptr 900 0]),(7,aN ps.length),(8,aN i)] [(900,.cells [aN o] 3)]) (fun i=>ps.length-i) 0 ⟨by omega,by simp⟩ ?_ ?_
 ·refine Ent.of [] ?_ ?_ rfl rfl;(repeat' first|exact True.intro|refine⟨⟨AA _,rfl⟩,?_⟩|refine⟨⟨⟨_,rfl,BLe.cells (AB _)⟩,rfl⟩,?_⟩|fail)
 ·intro i ⟨k0,k1⟩;(repeat' first|refine qv ?_|apply qn|apply qs|apply qr|(refine AD rfl ?_ ?_<;>intro _<;>try(exfalso; omega))|apply qb|apply qk|apply qx|apply qt|(refine Ay rfl rfl rfl rfl rfl rfl rfl rfl (by omega) (by omega) ?_; intro _ _)|fail)
  ·rename_i hi p hp;rw[Int.toNat_natCast]at hp;have hd:=Ef (f:=f) hp;refine ED rfl rfl [] (hf p (List.mem_of_getElem? hp)) rfl rfl (AB _) rfl ⟨⟨⟨_,rfl,BLe.cells (AB _)⟩,rfl⟩,trivial⟩ rfl rfl rfl rfl rfl ?_;(repeat' first|refine qv ?_|apply qn|apply qs|apply qr|refine qw ?_|apply qk|apply qt|(refine BQ rfl ?_ ?_<;>intro _))
   ·rename_i hb;rw[if_pos hb]at hd;refine⟨⟨[],_,_,AM _ _ _,rfl,AV.Le.int ?_,rfl,⟨⟨⟨_,rfl,BLe.cells (AB _)⟩,rfl⟩,trivial⟩,rfl,rfl⟩⟩;rw[←k1,hd]
   ·rename_i hb;rw[if_neg (by rw[hb]; simp)]at hd;refine LoopEnd.of (i+1) ⟨by omega,by rw[←k1,hd]⟩ (by omega) ?_;refine Ent.of [] ?_ ?_ rfl rfl;(repeat' first|exact True.intro|refine⟨⟨AA _,rfl⟩,?_⟩|refine⟨⟨⟨_,rfl,BLe.cells (AB _)⟩,rfl⟩,?_⟩|fail)
  ·refine⟨⟨[],_,_,AM _ _ _,rfl,AV.Le.int ?_,rfl,⟨⟨⟨_,rfl,BLe.cells (AB _)⟩,rfl⟩,trivial⟩,rfl,rfl⟩⟩;rw[←k1,List.drop_of_length_le (by omega)]; rfl
theorem conT_ok (o:Int) (f:TZ→Bool) (ps:List TZ) (hl:ps.length≤1000000) (hf:∀p∈ps,IoFn Tryz.prog 197 ([aT p]++[.ptr 900 0]) (iB o) (.ret (aB (f p))) (iB o)) :
  IoFn Tryz.prog 196 [.sl 3 eT ps,.fn 197 [.ptr 900 0]] (iB o) (.ret (aB (ps.any f))) (iB o):=by
 refine AH Tryz.func196 rfl Tryz.ntmps196 rfl rfl rfl ?_;have h:=idxT_ok o f ps hl hf;have he:=Eg f ps 0 (by omega);(repeat' first|refine qv ?_|apply qn|apply qs|apply qr);refine qi [] h ?_;(repeat' first|refine qv ?_|apply qn|apply qt);exact⟨⟨[],_,_,AM _ _ _,rfl,AV.Le.bool he,rfl,⟨⟨⟨_,rfl,BLe.cells (AB _)⟩,rfl⟩,trivial⟩,rfl,rfl⟩⟩
theorem link11_ok (i:Nat) (t:TZ) (hi:i<t.e.length):IoFn Tryz.prog 197 [aT t,.ptr 900 0] (iB i) (.ret (aB (decide (0<t.e.getD i 0)))) (iB i):=by
 refine AH Tryz.func197 rfl Tryz.ntmps197 rfl rfl rfl ?_;(repeat' first|refine qv ?_|apply qn|apply qs|apply qr|refine qe ?_|apply qt|(refine Ay rfl rfl rfl rfl rfl rfl rfl rfl (by omega) (by omega) ?_; intro _ _)|fail);rename_i x hx
 have hx:t.e[i]? = some x:=by simpa using hx
 refine⟨⟨[],_,_,AM _ _ _,rfl,AV.Le.bool ?_,rfl,⟨⟨⟨_,rfl,BLe.cells (AB _)⟩,rfl⟩,trivial⟩,rfl,rfl⟩⟩;rw[List.getD_eq_getElem?_getD,hx];rfl
theorem idxK_ok (o:Int) (f:PZ→Bool) (ps:List PZ) (hl:ps.length≤1000000) (hf:∀p∈ps,IoFn Tryz.prog 195 ([aP p]++[.ptr 900 0]) (iB o) (.ret (aB (f p))) (iB o)) :
  IoFn Tryz.prog 200 [.sl 2 eP ps,.fn 195 [.ptr 900 0]] (iB o) (.ret (aN (idxI f ps 0))) (iB o):=by
 refine AH Tryz.func200 rfl Tryz.ntmps200 rfl rfl rfl ?_;(repeat' first|refine qv ?_|apply qn|apply qs|apply qr|apply qb);refine AWP.loop (G:=Nat) (fun i=>i≤ps.length∧idxI f (ps.drop i) i=idxI f ps 0) (fun i=>AO [900] [(0,.sl 2 eP ps),(1,.fn 195 [.ptr 900 0]),(7,aN ps.length),(8,aN i)] [(900,.cells [aN o] 3)]) (fun i=>ps.length-i) 0 ⟨by omega,by simp⟩ ?_ ?_
 ·refine Ent.of [] ?_ ?_ rfl rfl;(repeat' first|exact True.intro|refine⟨⟨AA _,rfl⟩,?_⟩|refine⟨⟨⟨_,rfl,BLe.cells (AB _)⟩,rfl⟩,?_⟩|fail)
 ·intro i ⟨k0,k1⟩;(repeat' first|refine qv ?_|apply qn|apply qs|apply qr|(refine AD rfl ?_ ?_<;>intro _<;>try(exfalso; omega))|apply qb|apply qk|apply qx|apply qt|(refine Ay rfl rfl rfl rfl rfl rfl rfl rfl (by omega) (by omega) ?_; intro _ _)|fail)
  ·rename_i hi p hp;rw[Int.toNat_natCast]at hp;have hd:=Ef (f:=f) hp;refine ED rfl rfl [] (hf p (List.mem_of_getElem? hp)) rfl rfl (AB _) rfl ⟨⟨⟨_,rfl,BLe.cells (AB _)⟩,rfl⟩,trivial⟩ rfl rfl rfl rfl rfl ?_;(repeat' first|refine qv ?_|apply qn|apply qs|apply qr|refine qw ?_|apply qk|apply qt|(refine BQ rfl ?_ ?_<;>intro _))
   ·rename_i hb;rw[if_pos hb]at hd;refine⟨⟨[],_,_,AM _ _ _,rfl,AV.Le.int ?_,rfl,⟨⟨⟨_,rfl,BLe.cells (AB _)⟩,rfl⟩,trivial⟩,rfl,rfl⟩⟩;rw[←k1,hd]
   ·rename_i hb;rw[if_neg (by rw[hb]; simp)]at hd;refine LoopEnd.of (i+1) ⟨by omega,by rw[←k1,hd]⟩ (by omega) ?_;refine Ent.of [] ?_ ?_ rfl rfl;(repeat' first|exact True.intro|refine⟨⟨AA _,rfl⟩,?_⟩|refine⟨⟨⟨_,rfl,BLe.cells (AB _)⟩,rfl⟩,?_⟩|fail)
  ·refine⟨⟨[],_,_,AM _ _ _,rfl,AV.Le.int ?_,rfl,⟨⟨⟨_,rfl,BLe.cells (AB _)⟩,rfl⟩,trivial⟩,rfl,rfl⟩⟩;rw[←k1,List.drop_of_length_le (by omega)]; rfl
theorem conK_ok (o:Int) (f:PZ→Bool) (ps:List PZ) (hl:ps.length≤1000000) (hf:∀p∈ps,IoFn Tryz.prog 195 ([aP p]++[.ptr 900 0]) (iB o) (.ret (aB (f p))) (iB o)) :
  IoFn Tryz.prog 174 [.sl 2 eP ps,.fn 195 [.ptr 900 0]] (iB o) (.ret (aB (ps.any f))) (iB o):=by
 refine AH Tryz.func174 rfl Tryz.ntmps174 rfl rfl rfl ?_;have h:=idxK_ok o f ps hl hf;have he:=Eg f ps 0 (by omega);(repeat' first|refine qv ?_|apply qn|apply qs|apply qr);refine qi [] h ?_;(repeat' first|refine qv ?_|apply qn|apply qt);exact⟨⟨[],_,_,AM _ _ _,rfl,AV.Le.bool he,rfl,⟨⟨⟨_,rfl,BLe.cells (AB _)⟩,rfl⟩,trivial⟩,rfl,rfl⟩⟩
theorem linkK1_ok (i:Nat) (p:PZ) (hl:p.terms.length≤1000000) (hi:∀t∈p.terms,i<t.e.length):IoFn Tryz.prog 195 [aP p,.ptr 900 0] (iB i) (.ret (aB (p.terms.any fun t=>decide (0<t.e.getD i 0)))) (iB i):=by
 refine AH Tryz.func195 rfl Tryz.ntmps195 rfl rfl rfl ?_;have h:=conT_ok i (fun t=>decide (0<t.e.getD i 0)) p.terms hl (fun t ht=>link11_ok i t (hi t ht));(repeat' first|refine qv ?_|apply qn|apply qs|apply qr|refine qe ?_|fail)
 refine qi [] h ?_;(repeat' first|refine qv ?_|apply qn|apply qt);exact⟨⟨[],_,_,AM _ _ _,rfl,AA _,rfl,⟨⟨⟨_,rfl,BLe.cells (AB _)⟩,rfl⟩,trivial⟩,rfl,rfl⟩⟩
end Go.Proofs.YtmmfloplhopioaaGreat
/- Kit.Link, Kit.Eq: the walk. -/
namespace Go.AL
def occP (ls:List (List UT)) (i:Nat):Bool:=ls.any fun p=>p.any fun u=>decide (0<u.2.getD i 0)
def occI (ls:List (List UT)) (i:Nat):List Int:=((List.range i).filter (occP ls)).map fun(j:Nat)=>(j:Int)
theorem occI_step (ls:List (List UT)) (i:Nat):occI ls (i+1)=if occP ls i=true then occI ls i++[(i:Int)]else occI ls i:=by
 unfold occI;rw[List.range_succ,List.filter_append,List.map_append];by_cases h:occP ls i=true
 ·rw[if_pos h]; simp[h]
 ·rw[if_neg h]; simp[h]
theorem occI_len (ls:List (List UT)) (i:Nat):(occI ls i).length≤i:=by
 unfold occI;rw[List.length_map];exact Nat.le_trans (List.length_filter_le _ _) (by simp)
theorem occI_mem {ls:List (List UT)} {V:Nat} {x:Int} (h:x∈occI ls V):0≤x∧x<V:=by
 unfold occI at h;obtain⟨j,hj,rfl⟩:=List.mem_map.1 h;have:=(List.mem_filter.1 hj).1;rw[List.mem_range]at this;omega
theorem occP_any (V:Nat) (ls:List (List UT)) (i:Nat):((ls.map (mkP V)).any fun p=>p.terms.any fun t=>decide (0<t.e.getD i 0))=occP ls i:=by
 unfold occP;rw[List.any_map];congr 1;funext p;simp only[Function.comp,mkP,List.any_map];rfl
def CA (occ:List Int) (e:List Int):List Int:=occ.map fun x=>e.getD x.toNat 0
theorem pickX_eq (occ:List Nat) (e:List Int):CA (occ.map fun(i:Nat)=>(i:Int)) e=DN occ e:=by
 unfold CA DN;rw[List.map_map];rfl
end Go.AL
namespace Go.Proofs.YtmmfloplhopioaaGreat
open Go.AL
set_option maxHeartbeats 1000000 in
theorem kLink_ok (V:Nat) (kind:Int) (ls:List (List UT)) (hV:V≤32) (hl:ls.length≤1000) (hk:∀p∈ls,p.length≤3000∧∀u∈p,u.2.length=V):PureFn Tryz.prog 162 [aK V,aN kind,.sl 2 eP (ls.map (mkP V))] (aL (BF V kind ls)):=by
 refine AC Tryz.func162 rfl Tryz.ntmps162 rfl rfl ?_;obtain⟨L,hL⟩:∃L,L=ls.map (mkP V):=⟨_,rfl⟩
 have hLl:L.length=ls.length:=by rw[hL,List.length_map]
 rw[←hL]
 have hcon:∀i:Nat,i<V→IoFn Tryz.prog 174 [.sl 2 eP L,.fn 195 [.ptr 900 0]] (iB i) (.ret (aB (occP ls i))) (iB i):=fun i hi=>by
  have h:=conK_ok i (fun p=>p.terms.any fun t=>decide (0<t.e.getD i 0)) L (by omega) (fun p hp=>by
   rw[hL]at hp;obtain⟨q,hq,rfl⟩:=List.mem_map.1 hp;have:=hk q hq;refine linkK1_ok i (mkP V q) (by simp only[mkP,List.length_map]; omega) (fun t ht=>?_);obtain⟨u,hu,rfl⟩:=List.mem_map.1 ht;have:=this.2 u hu;show i<u.2.length
   omega)
  rw[hL,occP_any]at h;rw[hL];exact h
 refine AE ?_;(repeat' first|apply qn|apply qr|refine qe ?_|fail);refine⟨AE ?_⟩;(repeat' first|refine qv ?_|apply qn|apply qr|refine qe ?_|fail);refine⟨?_⟩;refine AY (Bc 7 1 805 rfl rfl rfl 1 eI 3) ?_;(repeat' first|refine qv ?_|apply qn|apply qs|apply qr|apply qb);refine AWP.loop (G:=Nat) (fun i=>i≤V) (fun i=>AO [] [(2,.sl 2 eP L),(6,.ptr 6 0),(7,.ptr 7 0),(20,aN V),(21,aN i)] [(6,.cells [aN 0,.v (.slice none 0 0),.v (.slice none 0 0)] 99),(7,.cells [aN kind,.row 700,.v (.slice none 0 0)] 99),(700,.row 1 eI (occI ls i) 3)]) (fun i=>V-i) 0 (by omega) ?_ ?_
 ·refine Ent.of [(700,805)] ?_ ?_ rfl rfl;(repeat' first|exact True.intro|refine⟨⟨AA _,rfl⟩,?_⟩|refine⟨⟨⟨_,rfl,BLe.cells (AB _)⟩,rfl⟩,?_⟩|refine⟨⟨⟨_,rfl,BLe.row rfl⟩,rfl⟩,?_⟩|fail)
 ·intro i k0;have hol:=occI_len ls i;have hst:=occI_step ls i;(repeat' first|refine qv ?_|apply qn|apply qs|apply qr|refine qe ?_|(refine AD rfl ?_ ?_<;>intro _<;>try(exfalso; omega))|apply qb|apply qk|apply qx)
  ·rename_i hi;refine qi [(900,8)] (hcon i (by omega)) ?_;(repeat' first|refine qv ?_|apply qn|apply qr|refine qw ?_|apply qk|(refine BQ rfl ?_ ?_<;>intro _))
   ·rename_i hb;rw[if_pos hb]at hst;refine ql eI [(i:Int)] ?_;refine qa (hby:=(by dsimp only[List.length_nil,List.length_cons]; omega)) (hm:=(by simp; omega)) (r:=?_);(repeat' first|refine qv ?_|apply qn|apply qr|refine qw ?_|refine qe ?_|fail);refine LoopEnd.of (i+1) (by omega) (by omega) ?_;refine Ent.of [(700,31)] ?_ ?_ rfl rfl;(repeat' first|exact True.intro|refine⟨⟨AA _,rfl⟩,?_⟩|refine⟨⟨⟨_,rfl,BLe.cells (AB _)⟩,rfl⟩,?_⟩|refine⟨⟨⟨_,rfl,BLe.row ?_⟩,rfl⟩,?_⟩|fail);exact hst.symm
   ·rename_i hb;rw[if_neg (by rw[hb]; simp)]at hst;refine LoopEnd.of (i+1) (by omega) (by omega) ?_;refine Ent.of [] ?_ ?_ rfl rfl;(repeat' first|exact True.intro|refine⟨⟨AA _,rfl⟩,?_⟩|refine⟨⟨⟨_,rfl,BLe.cells (AB _)⟩,rfl⟩,?_⟩|refine⟨⟨⟨_,rfl,BLe.row ?_⟩,rfl⟩,?_⟩|fail);exact hst.symm
  ·rename_i hi
   have hiV:i=V:=by omega
   subst hiV;have hom:∀(m:Nat) (x:Int),(occI ls i)[m]? = some x→0≤x∧x<i:=fun m x hx=>occI_mem (List.mem_of_getElem? hx);have hocc:occI ls i=(occL i ls).map fun(i:Nat)=>(i:Int):=rfl
   have hon:(occL i ls).length=(occI ls i).length:=by rw[hocc,List.length_map]
   have hres:BF i kind ls=⟨kind,occI ls i,ls.map fun p=>mkP (occI ls i).length (p.map fun u=>(u.1,CA (occI ls i) u.2))⟩:=by
    unfold BF;rw[←hocc,hon];congr 1;refine List.map_congr_left fun p _=>?_;unfold EI;congr 1;refine List.map_congr_left fun u _=>?_;rw[hocc,pickX_eq]
   rw[hres]
   generalize occI ls i=occ at *
   refine AY (Ent.freeze 700 rfl) ?_;refine AY (Bc 7 2 806 rfl rfl rfl 2 eP 105) ?_;refine AWP.loop (G:=Nat) (fun j=>j≤ls.length) (fun j=>AO [] [(6,.ptr 6 0),(7,.ptr 7 0),(34,.sl 2 eP L),(35,aN L.length),(36,aN j)] [(6,.cells [aN 0,.v (.slice none 0 0),.v (.slice none 0 0)] 99),(7,.cells [aN kind,aI occ,.row 701] 99),(701,.row 2 eP ((ls.take j).map fun p=>mkP occ.length (p.map fun u=>(u.1,CA occ u.2))) 105)]) (fun j=>ls.length-j) 0 (by omega) ?_ ?_
   ·refine Ent.of [(701,806)] ?_ ?_ rfl rfl;(repeat' first|exact True.intro|refine⟨⟨AA _,rfl⟩,?_⟩|refine⟨⟨⟨_,rfl,BLe.cells (AB _)⟩,rfl⟩,?_⟩|refine⟨⟨⟨_,rfl,BLe.row rfl⟩,rfl⟩,?_⟩|fail)
   ·intro j g0
    have hlj:((ls.take j).map fun p=>mkP occ.length (p.map fun u=>(u.1,CA occ u.2))).length=j:=by rw[List.length_map,List.length_take]; omega
    by_cases hj:j<ls.length
    ·obtain⟨q,hq⟩:∃q,ls[j]? = some q:=⟨_,List.getElem?_eq_getElem hj⟩
     have hLq:L[j]? = some (mkP i q):=by rw[hL,List.getElem?_map,hq]; rfl
     obtain⟨hq1,hq2⟩:=hk q (List.mem_of_getElem? hq);refine AE ?_;(repeat' first|refine qv ?_|apply qn|apply qr);refine⟨?_⟩;refine AE ?_;(repeat' first|(refine AD rfl ?_ ?_<;>intro _<;>try(exfalso; omega))|apply qk);refine⟨?_⟩;refine AWP.seq (AWP.block (AE ?_));(repeat' first|refine qv ?_|apply qn|apply qr|refine qe ?_|refine qK ?_|fail);refine⟨?_⟩;refine AE ?_;(repeat' first|refine qv ?_|apply qn|apply qr|refine qe ?_|fail);refine⟨?_⟩;refine AY (Bc 11 1 807 rfl rfl rfl 3 eT 158) ?_;(repeat' first|refine qv ?_|apply qn|apply qs|apply qr|apply qb);obtain⟨T,hT⟩:∃T,T=(mkP i q).terms:=⟨_,rfl⟩
     have hTl:T.length=q.length:=by rw[hT]; simp[mkP]
     refine AWP.loop (G:=Nat) (fun k=>k≤q.length) (fun k=>AO [] [(6,.ptr 6 0),(7,.ptr 7 0),(34,.sl 2 eP L),(35,aN L.length),(36,aN j),(11,.ptr 11 0),(45,.sl 3 eT T),(46,aN T.length),(47,aN k)] [(6,.cells [aN 0,.v (.slice none 0 0),.v (.slice none 0 0)] 99),(7,.cells [aN kind,aI occ,.row 701] 99),(701,.row 2 eP ((ls.take j).map fun p=>mkP occ.length (p.map fun u=>(u.1,CA occ u.2))) 105),(11,.cells [aN occ.length,.row 702] 105),(702,.row 3 eT (((q.take k).map fun u=>(u.1,CA occ u.2)).map tz) 158)]) (fun k=>q.length-k) 0 (by omega) ?_ ?_
     ·refine Ent.of [(702,807)] ?_ ?_ rfl rfl;(repeat' first|exact True.intro|refine⟨⟨AA _,rfl⟩,?_⟩|refine⟨⟨⟨_,rfl,BLe.cells (AB _)⟩,rfl⟩,?_⟩|refine⟨⟨⟨_,rfl,BLe.row rfl⟩,rfl⟩,?_⟩|refine⟨⟨AV.Le.int ?_,rfl⟩,?_⟩|refine⟨⟨AV.Le.sl ?_,rfl⟩,?_⟩|fail)
      ·exact hT.symm
      ·rw[hTl]; simp[mkP]
     ·intro k e0
      have hlk:(((q.take k).map fun u=>(u.1,CA occ u.2)).map tz).length=k:=by rw[List.length_map,List.length_map,List.length_take]; omega
      by_cases hkq:k<q.length
      ·obtain⟨u,hu⟩:∃u,q[k]? = some u:=⟨_,List.getElem?_eq_getElem hkq⟩
       have hTu:T[k]? = some (tz u):=by rw[hT]; show(q.map tz)[k]? = _; rw[List.getElem?_map,hu]; rfl
       have hul:=hq2 u (List.mem_of_getElem? hu);refine AE ?_;(repeat' first|refine qv ?_|apply qn|apply qr);refine⟨?_⟩;refine AE ?_;(repeat' first|(refine AD rfl ?_ ?_<;>intro _<;>try(exfalso; omega))|apply qk);refine⟨AWP.seq (AWP.block (AE ?_))⟩;(repeat' first|refine qv ?_|apply qn|apply qr|refine qe ?_|refine qK ?_|fail);refine⟨AE ?_⟩;(repeat' first|refine qv ?_|apply qr);refine Fl.make0 rfl rfl rfl rfl rfl rfl rfl rfl rfl eI (by omega) (by dsimp only; omega) (by omega) ?_;(repeat' first|refine qv ?_|apply qn);refine⟨AWP.seq ?_⟩;(repeat' first|refine qv ?_|apply qn|apply qs|apply qr|apply qb);refine AWP.loop (G:=Nat) (fun m=>m≤occ.length) (fun m=>AO [] [(6,.ptr 6 0),(7,.ptr 7 0),(34,.sl 2 eP L),(35,aN L.length),(36,aN j),(11,.ptr 11 0),(45,.sl 3 eT T),(46,aN T.length),(47,aN k),(13,.ptr 13 0),(14,.row 703),(56,aI occ),(57,aN occ.length),(58,aN m)] [(6,.cells [aN 0,.v (.slice none 0 0),.v (.slice none 0 0)] 99),(7,.cells [aN kind,aI occ,.row 701] 99),(701,.row 2 eP ((ls.take j).map fun p=>mkP occ.length (p.map fun u=>(u.1,CA occ u.2))) 105),(11,.cells [aN occ.length,.row 702] 105),(702,.row 3 eT (((q.take k).map fun u=>(u.1,CA occ u.2)).map tz) 158),(13,.cells (eT (tz u)) 158),(703,.row 1 eI ((occ.take m).map fun x=>u.2.getD x.toNat 0) 3)]) (fun m=>occ.length-m) 0 (by omega) ?_ ?_
       ·refine Ent.of [(703,54)] ?_ ?_ rfl rfl;(repeat' first|exact True.intro|refine⟨⟨AA _,rfl⟩,?_⟩|refine⟨⟨⟨_,rfl,BLe.cells (AB _)⟩,rfl⟩,?_⟩|refine⟨⟨⟨_,rfl,BLe.row rfl⟩,rfl⟩,?_⟩|fail)
       ·intro m m0
        have hlm:((occ.take m).map fun x=>u.2.getD x.toNat 0).length=m:=by rw[List.length_map,List.length_take]; omega
        by_cases hm:m<occ.length
        ·obtain⟨x,hx⟩:∃x,occ[m]? = some x:=⟨_,List.getElem?_eq_getElem hm⟩;have hxb:=hom m x hx;obtain⟨y,hy⟩:∃y,u.2[x.toNat]? = some y:=⟨_,List.getElem?_eq_getElem (by omega)⟩;(repeat' first|refine qv ?_|apply qn|apply qs|apply qr|(refine AD rfl ?_ ?_<;>intro _<;>try(exfalso; omega))|apply qb|apply qk|refine qK ?_|fail);refine ql eI [y] ?_;refine qa (hby:=(by dsimp only[List.length_nil,List.length_cons]; omega)) (hm:=(by dsimp only[List.length_nil,List.length_cons]; omega)) (r:=?_);(repeat' first|refine qv ?_|apply qn|apply qr|refine qw ?_|fail);refine LoopEnd.of (m+1) (by omega) (by omega) ?_;refine Ent.of [(703,69)] ?_ ?_ rfl rfl;(repeat' first|exact True.intro|refine⟨⟨AA _,rfl⟩,?_⟩|refine⟨⟨⟨_,rfl,BLe.cells (AB _)⟩,rfl⟩,?_⟩|refine⟨⟨⟨_,rfl,BLe.row rfl⟩,rfl⟩,?_⟩|refine⟨⟨⟨_,rfl,BLe.row ?_⟩,rfl⟩,?_⟩|fail);rw[Ab hx,List.map_append];congr 1;show[y]=[u.2.getD x.toNat 0];rw[List.getD_eq_getElem?_getD,hy];rfl
        ·have htm:occ.take m=occ:=List.take_of_length_le (by omega);rw[htm];refine AY (Ent.freeze 703 rfl) ?_;(repeat' first|refine qv ?_|apply qn|apply qs|apply qr|refine qe ?_|(refine AD rfl ?_ ?_<;>intro _<;>try(exfalso; omega))|apply qx);refine ql eT [tz (u.1,CA occ u.2)] ?_;refine qa (hby:=(by dsimp only[List.length_nil,List.length_cons]; omega)) (hm:=(by dsimp only[List.length_nil,List.length_cons]; omega)) (r:=?_);(repeat' first|refine qv ?_|apply qn|apply qr|refine qw ?_|refine qe ?_|fail);refine LoopEnd.of (k+1) (by omega) (by omega) ?_;refine Ent.of [(702,78)] ?_ ?_ rfl rfl;(repeat' first|exact True.intro|refine⟨⟨AA _,rfl⟩,?_⟩|refine⟨⟨⟨_,rfl,BLe.cells (AB _)⟩,rfl⟩,?_⟩|refine⟨⟨⟨_,rfl,BLe.row rfl⟩,rfl⟩,?_⟩|refine⟨⟨⟨_,rfl,BLe.row ?_⟩,rfl⟩,?_⟩|fail);rw[Ab hu,List.map_append,List.map_append];rfl
      ·have htk:q.take k=q:=List.take_of_length_le (by omega);rw[htk];refine AY (Ent.freeze 702 rfl) ?_;(repeat' first|refine qv ?_|apply qn|apply qs|apply qr|(refine AD rfl ?_ ?_<;>intro _<;>try(exfalso; omega))|apply qx);refine ql eP [mkP occ.length (q.map fun u=>(u.1,CA occ u.2))] ?_;refine qa (hby:=(by dsimp only[List.length_nil,List.length_cons]; omega)) (hm:=(by dsimp only[List.length_nil,List.length_cons]; omega)) (r:=?_);(repeat' first|refine qv ?_|apply qn|apply qr|refine qw ?_|refine qe ?_|fail);refine LoopEnd.of (j+1) (by omega) (by omega) ?_;refine Ent.of [(701,85)] ?_ ?_ rfl rfl;(repeat' first|exact True.intro|refine⟨⟨AA _,rfl⟩,?_⟩|refine⟨⟨⟨_,rfl,BLe.cells (AB _)⟩,rfl⟩,?_⟩|refine⟨⟨⟨_,rfl,BLe.row ?_⟩,rfl⟩,?_⟩|fail);rw[Ab hq,List.map_append];rfl
    ·have htj:ls.take j=ls:=List.take_of_length_le (by omega);rw[htj];refine AY (Ent.freeze 701 rfl) ?_;(repeat' first|refine qv ?_|apply qn|apply qs|apply qr|refine qe ?_|(refine AD rfl ?_ ?_<;>intro _<;>try(exfalso; omega))|apply qx|apply qt);exact RetOk.of rfl (AA _)
theorem kEq_ok (V:Nat) (hV:V≤32) (p q l:List UT) (hp:chkU V p p=true) (hq:chkU V q q=true) (h:chkU V (Bu (-1) p q) l=true) (hl:l.length≤3000∧∀u∈l,u.2.length=V):PureFn Tryz.prog 108 [aK V,aP (mkP V p),aP (mkP V q)] (aL (BF V 0 [l])):=by
 refine AC Tryz.func108 rfl Tryz.ntmps108 rfl rfl ?_;have hk:=kLink_ok V 0 [l] hV (by simp) (by simpa using hl);(repeat' first|refine qv ?_|apply qn|apply qs|apply qr|refine qe ?_|fail);refine qc (kSub_ok V hV p q l hp hq h) ?_;refine ql eP [mkP V l] ?_;refine qc (hk) ?_;(repeat' first|refine Fl.nil (fun _=>by kernel_rfl) ?_|refine qe ?_|apply qt);exact RetOk.of rfl (AA _)
end Go.Proofs.YtmmfloplhopioaaGreat
/- Method values of plain receivers: made, called. -/
namespace Go.AL
section
variable {P:Program} {tab:Tab} {n:Nat} {s:St}
variable {ops:Array Oper} {draw:Dr} {o:Oper} {l:List Oper} {acc:List Eff} {K:Exit→St→Prop}
abbrev bfn (f:FuncId) (us:List Value):AV := .v (.func (.func f) #[.agg us.toArray] #[])
theorem Runs.bound {f:FuncId} {x:Operand} {args:List Operand} {ts:Array TypeId} {us:List Value} (hop:o.op = .call { callee := .value x,args:=⟨args⟩,argTypes:=ts }) (hx:opd s x=bfn f us):Runs P n o s f (.v (.agg us.toArray)::opds s args):=by
 refine⟨fun s' C a w h β hs k=>?_⟩
 have hxs:opd s' x=opd s x:=by
  cases x with
  | tmp t=>exact hs t (by rw[hop]; simp[Op.operands,Call.operands])
  | _=>rfl
 have hxr:=AK k x;rw[hxs,hx]at hxr;simp only[Rep]at hxr
 have hps:opds s' args=opds s args:=DA args fun x hx=>by
  cases x with
  | tmp t=>exact hs t (by rw[hop]; simp[Op.operands,Call.operands,hx])
  | _=>rfl
 have hr:=CU k args;rw[hps]at hr;refine⟨#[.agg us.toArray]++(args.map a.eval).toArray,fun hfn=>?_,?_⟩
 ·simp only[execOp,hop,resolve,hxr,Deferred.ofValue,Sem.run_bind,Sem.run_pure,Result.andThen,invoke,List.map_toArray];have:=CE hfn (#[.agg us.toArray]++(args.map a.eval).toArray) w;simpa using this
 ·simp only[RepL];exact⟨.agg us.toArray,args.map a.eval,by simp,by simp only[Rep],hr⟩
end
end Go.AL
/- arithmancy/mask.Links: the system. Written by links.py. -/
namespace Go.AL
end Go.AL
namespace Go.Proofs.YtmmfloplhopioaaGreat
open Go.AL
end Go.Proofs.YtmmfloplhopioaaGreat
/- The values of built links. -/
namespace Go.AL
theorem pick_prod (P:Nat→Bool) (Y E:List Int):∀(n k:Nat),(∀i,k≤i→i<k+n→P i=false→E.getD i 0=0) →
  AX (((List.range' k n).filter P).map fun i=>Y.getD i 0) (((List.range' k n).filter P).map fun i=>E.getD i 0)=AX ((List.range' k n).map fun i=>Y.getD i 0) ((List.range' k n).map fun i=>E.getD i 0)
 | 0,k,_=>rfl
 | n+1,k,h=>by
  have ih:=pick_prod P Y E n (k+1) fun i h1 h2 h3=>h i (by omega) (by omega) h3;rw[List.range'_succ,List.filter_cons];by_cases hp:P k=true
  ·rw[if_pos hp];simp only[List.map_cons,AX,ih]
  ·rw[if_neg hp,ih];have h0:=h k (Nat.le_refl _) (by omega) (by simpa using hp);simp only[List.map_cons,AX,h0];simp
theorem map_range_getD {V:Nat} {X:List Int} (h:X.length=V):((List.range V).map fun i=>X.getD i 0)=X:=by
 subst h;refine List.ext_getElem (by simp) fun i h1 h2=>?_;simp[List.getD_eq_getElem?_getD,List.getElem?_eq_getElem h2]
def auv (X:List Int) (p:List UT):Int:=sumL (p.map fun u=>((u.1*AX X u.2).natAbs:Int))
theorem pick_term {V:Nat} {X:List Int} (hX:X.length=V) {ls:List (List UT)} {p:List UT} (hp:p∈ls) {u:UT} (hu:u∈p) (hl:u.2.length=V) (he:EOk u.2) :
  AX (atOf X ((occL V ls).map fun(i:Nat)=>(i:Int))) (DN (occL V ls) u.2)=AX X u.2:=by
 have e1:atOf X ((occL V ls).map fun(i:Nat)=>(i:Int))=(occL V ls).map fun i=>X.getD i 0:=by
  unfold atOf;rw[List.map_map];rfl
 have h:=pick_prod (occP ls) X u.2 V 0 fun i _ h2 h3=>by
  have hb:i<u.2.length:=by omega
  have hn:¬0<u.2.getD i 0:=fun hc=>by
   have:occP ls i=true:=List.any_eq_true.2 ⟨p,hp,List.any_eq_true.2 ⟨u,hu,by simpa using hc⟩⟩;rw[this]at h3; cases h3
  have hge:0≤u.2.getD i 0:=by
   rw[List.getD_eq_getElem?_getD,List.getElem?_eq_getElem hb];exact(he _ (List.getElem_mem hb)).1
  omega
 rw[←List.range_eq_range']at h;rw[e1];unfold DN occL;rw[show(List.filter (fun i=>ls.any fun p=>p.any fun u=>decide (0<u.2.getD i 0)) (List.range V))=(List.range V).filter (occP ls) from rfl,h,map_range_getD hX,map_range_getD hl]
theorem tv_tz (X:List Int) (u:UT):tv X (tz u)=u.1*AX X u.2:=by
 show zval (zOf u.1)*AX X u.2=_;rw[A4]
def nnU (V:Nat) (p:List UT):Prop:=∀u∈p,u.2.length=V∧EOk u.2
theorem pick_val {V n:Nat} {X:List Int} (hX:X.length=V) {ls:List (List UT)} {p:List UT} (hp:p∈ls) (hl:nnU V p) :
  pv (atOf X ((occL V ls).map fun(i:Nat)=>(i:Int))) (mkP n (EI (occL V ls) p))=uv X p:=by
 rw[pv_sum];unfold mkP EI uv;simp only[List.map_map];congr 1;refine List.map_congr_left fun u hu=>?_;show tv _ (tz (u.1,DN (occL V ls) u.2))=_;rw[tv_tz,pick_term hX hp hu (hl u hu).1 (hl u hu).2]
theorem pick_abs {V n:Nat} {X:List Int} (hX:X.length=V) {ls:List (List UT)} {p:List UT} (hp:p∈ls) (hl:nnU V p) :
  AS (atOf X ((occL V ls).map fun(i:Nat)=>(i:Int))) (mkP n (EI (occL V ls) p)).terms=auv X p:=by
 unfold mkP EI AS auv;simp only[List.map_map];congr 1;refine List.map_congr_left fun u hu=>?_;show((tv _ (tz (u.1,DN (occL V ls) u.2))).natAbs:Int)=_;rw[tv_tz,pick_term hX hp hu (hl u hu).1 (hl u hu).2]
theorem lvals_linkU {V:Nat} {X:List Int} (hX:X.length=V) {kind:Int} {ls:List (List UT)} (h:∀p∈ls,nnU V p):lvals X (BF V kind ls)=ls.map (uv X):=by
 unfold lvals BF;simp only[List.map_map];exact List.map_congr_left fun p hp=>pick_val hX hp (h p hp)
theorem plop_abs (v:Int):0≤plI v∧plI v≤v.natAbs∧opI v≤0 ∧ -(v.natAbs:Int)≤opI v:=by
 unfold plI opI;split<;>omega
theorem PS_ASm (X:List Int):∀l:List TZ,0≤PS X l∧PS X l≤AS X l∧OS X l≤0 ∧ -AS X l≤OS X l
 | []=>by simp[PS,OS,AS,sumL]
 | t::l=>by
  have h1:=PS_ASm X l;have h2:=plop_abs (tv X t);simp only[PS,AS,OS,List.map_cons,sumL]at h1 ⊢;omega
theorem EvOk.ofA {X:List Int} {p:PZ} (h:Fit (AS X p.terms)):EvOk X p:=by
 have h1:=PS_ASm X p.terms;exact⟨h.le (by omega),h.le (by omega)⟩
theorem evL_linkU {V:Nat} {X:List Int} (hX:X.length=V) {kind:Int} {ls:List (List UT)} (h:∀p∈ls,nnU V p) (hf:∀p∈ls,Fit (auv X p)):EvL X (BF V kind ls):=by
 intro q hq;obtain⟨p,hp,rfl⟩:=List.mem_map.1 hq;refine EvOk.ofA ?_;show Fit (AS (atOf X ((occL V ls).map fun(i:Nat)=>(i:Int))) (mkP (occL V ls).length (EI (occL V ls) p)).terms);rw[pick_abs hX hp (h p hp)];exact hf p hp
def okLU (V:Nat) (kind:Int) (ls:List (List UT)):Bool:=
  decide (BW kind≠0)&&decide ((ls.length:Int)=BW kind)&&ls.all (fun p=>chkU (occL V ls).length (EI (occL V ls) p) (EI (occL V ls) p)&&p.all (okU V))
theorem FE (P:Nat→Bool):∀(n k:Nat) (last top:Int),last<k→((k+n:Nat):Int)≤top→incB last top (((List.range' k n).filter P).map fun(i:Nat)=>(i:Int))
 | 0,_,_,_,_,_=>by simp[incB]
 | n+1,k,last,top,h1,h2=>by
  rw[List.range'_succ,List.filter_cons];by_cases hp:P k=true
  ·rw[if_pos hp];simp only[List.map_cons,incB];exact⟨h1,by omega,FE P n (k+1) k top (by omega) (by omega)⟩
  ·rw[if_neg hp];exact FE P n (k+1) last top (by omega) (by omega)
theorem okLU_ok {V:Nat} (hV:V≤32) {kind:Int} {ls:List (List UT)} (h:okLU V kind ls=true):OkL V (BF V kind ls)∧WL (BF V kind ls)∧∀p∈ls,nnU V p:=by
 simp only[okLU,Bool.and_eq_true,decide_eq_true_eq,List.all_eq_true]at h;obtain⟨⟨h1,h2⟩,h3⟩:=h
 have hn:(occL V ls).length≤V:=by
  unfold occL;exact Nat.le_trans (List.length_filter_le _ _) (by simp)
 refine⟨⟨h1,by simp only[BF,List.length_map]; exact h2,by simp only[BF,List.length_map]; omega,?_,fun q hq=>?_⟩,fun q hq=>?_,fun p hp u hu=>okU_ok ((h3 p hp).2 u hu)⟩
 ·have:=FE (occP ls) V 0 (-1) V (by omega) (by omega);rw[←List.range_eq_range']at this;exact this
 ·obtain⟨p,hp,rfl⟩:=List.mem_map.1 hq;obtain⟨a,b,c⟩:=mk_ok (V:=(occL V ls).length) (by omega) (h3 p hp).1;exact⟨by simp[BF,mkP],a⟩
 ·obtain⟨p,hp,rfl⟩:=List.mem_map.1 hq;exact(mk_ok (V:=(occL V ls).length) (by omega) (h3 p hp).1).2.2
end Go.AL
/- The values of built polynomials; bounds. -/
namespace Go.AL
theorem EH:∀(X:List Int) (n:Nat),AX X (List.replicate n 0)=1
 | [],0=>rfl
 | [],_+1=>rfl
 | _::_,0=>rfl
 | x::X,n+1=>by rw[List.replicate_succ,AX,EH X n]; simp
theorem prodE_unit:∀(X:List Int) (i:Nat),i<X.length→AX X (unU X.length i)=X.getD i 0
 | [],i,h=>by simp at h
 | x::X,0,_=>by
  unfold unU;rw[List.length_cons,List.replicate_succ,List.set_cons_zero,AX,EH];simp[Int.pow_succ]
 | x::X,i+1,h=>by
  have ih:=prodE_unit X i (by simpa using h);unfold unU at ih ⊢;rw[List.length_cons,List.replicate_succ,List.set_cons_succ,AX,ih];simp
theorem DW (X:List Int) (V:Nat) (c:Int):uv X (conU V c)=c:=by
 unfold conU uv;split
 ·rename_i h; rw[h]; rfl
 ·simp[sumL,EH]
theorem DV {X:List Int} {V i:Nat} (hX:X.length=V) (hi:i<V):uv X (varU V i)=X.getD i 0:=by
 subst hX;unfold varU uv;simp only[List.map_cons,List.map_nil,sumL,prodE_unit X i hi];omega
theorem pv_mkP (X:List Int) (V:Nat) (p:List UT):pv X (mkP V p)=uv X p:=by
 rw[pv_sum];unfold mkP uv;simp only[List.map_map];congr 1;exact List.map_congr_left fun u _=>tv_tz X u
theorem chkU_UOk {V:Nat} {us l:List UT} (h:chkU V us l=true):UOk V us:=by
 simp only[chkU,Bool.and_eq_true,List.all_eq_true]at h;exact fun u hu=>okU_ok (h.1.1.1.1.1.1.1 u hu)
theorem uv_chk {V:Nat} (hV:V≤32) {us l:List UT} (h:chkU V us l=true) (X:List Int):uv X l=uv X us:=by
 have:=(chkU_ok hV h).val hV (chkU_UOk h) X;rwa [pv_mkP]at this
theorem uv_scale (X:List Int) (b:Int) (q:List UT):uv X (q.map fun u=>(u.1*b,u.2))=uv X q*b:=by
 unfold uv
 induction q with
 | nil=>simp[sumL]
 | cons u q ih=>
  simp only[List.map_cons,sumL]at ih ⊢;rw[ih]; grind
theorem uv_addUs (X:List Int) (b:Int) (p q:List UT):uv X (Bu b p q)=uv X p+uv X q*b:=by
 unfold Bu;rw[uv_append,uv_scale]
theorem uv_mulUs {V:Nat} (X:List Int) {p q:List UT} (hp:nnU V p) (hq:nnU V q):uv X (Bo p q)=uv X p*uv X q:=by
 unfold Bo
 induction p with
 | nil=>simp[uv,sumL]
 | cons t p ih=>
  rw[List.flatMap_cons,uv_append,ih fun u hu=>hp u (by simp[hu])];have ht:=hp t (by simp)
  have h1:uv X (q.map fun u=>(t.1*u.1,addE t.2 u.2))=t.1*AX X t.2*uv X q:=by
   clear ih;unfold uv
   induction q with
   | nil=>simp[sumL]
   | cons u q ih2=>
    have hu:=hq u (by simp);simp only[List.map_cons,sumL];rw[ih2 fun v hv=>hq v (by simp[hv]),prodE_add ht.2 hu.2 (by rw[ht.1,hu.1])];grind
  rw[h1];show _=(t.1*AX X t.2+uv X p)*uv X q;grind
theorem chk_nn {V:Nat} {p:List UT} (h:chkU V p p=true):nnU V p:=chkU_UOk h
theorem uv_sums {V:Nat} (hV:V≤32) (X:List Int):∀(ls:List (List UT)) (acc:List UT),Cc V acc ls=true→uv X (An acc ls)=uv X acc+sumL (ls.map (uv X))
 | [],acc,_=>by simp[An,sumL]
 | p::ls,acc,h=>by
  obtain⟨c1,c2,c3,c4⟩:=okSums_cons h;show uv X (An (addL acc p) ls)=_;rw[uv_sums hV X ls _ c4,uv_chk hV c3,uv_addUs];simp only[List.map_cons,sumL];omega
def prodL:List Int→Int
  | []=>1
  | x::l=>x*prodL l
theorem uv_muls {V:Nat} (hV:V≤32) (X:List Int):∀(ls:List (List UT)) (acc:List UT),DB V acc ls=true→uv X (A0 acc ls)=uv X acc*prodL (ls.map (uv X))
 | [],acc,_=>by simp[A0,prodL]
 | p::ls,acc,h=>by
  obtain⟨c1,c2,c3,c4,c5⟩:=okMuls_cons h;show uv X (A0 (Aq acc p) ls)=_;rw[uv_muls hV X ls _ c5,uv_chk hV c4,uv_mulUs X (chk_nn c1) (chk_nn c2)];simp only[List.map_cons,prodL];rw[Int.mul_assoc]
theorem uv_sub {V:Nat} (hV:V≤32) (X:List Int) {p q:List UT} (h:chkU V (Bu (-1) p q) (subL p q)=true):uv X (subL p q)=uv X p-uv X q:=by
 rw[uv_chk hV h,uv_addUs]; omega
end Go.AL
/- Polynomials by sizes: what the Kit needs, for any variables and numbers. Plain. -/
namespace Go.AL
structure SzU (V d c n:Nat) (p:List UT):Prop where
  can:CanU p
  ex:∀u∈p,u.2.length=V∧(∀e∈u.2,0≤e)∧sumL u.2≤d
  ab:absU p≤c
  ln:p.length≤n
theorem SzU.mono {V d c n d' c' n':Nat} {p:List UT} (h:SzU V d c n p) (h1:d≤d') (h2:c≤c') (h3:n≤n'):SzU V d' c' n' p:=
 ⟨h.can,fun u hu=>⟨(h.ex u hu).1,(h.ex u hu).2.1,by have:=(h.ex u hu).2.2; omega⟩,Nat.le_trans h.ab h2,Nat.le_trans h.ln h3⟩
theorem sumL_ge:∀ {l:List Int},(∀e∈l,0≤e)→0≤sumL l∧∀e∈l,e≤sumL l
 | [],_=>by simp[sumL]
 | x::l,h=>by
  obtain⟨h1,h2⟩:=sumL_ge (l:=l) fun e he=>h e (by simp[he]);have hx:=h x (by simp);refine⟨by simp only[sumL]; omega,fun e he=>?_⟩;simp only[sumL];rcases List.mem_cons.1 he with rfl|he
  ·omega
  ·have:=h2 e he; omega
theorem ex_ok {V d:Nat} (hd:d≤120) {u:UT} (h:u.2.length=V∧(∀e∈u.2,0≤e)∧sumL u.2≤d):okU V u=true∧sumL u.2≤120∧EOk u.2:=by
 obtain⟨h1,h2,h3⟩:=h;have hE:EOk u.2:=fun e he=>⟨h2 e he,by have:=(sumL_ge h2).2 e he; omega⟩;refine⟨?_,by omega,hE⟩;simp only[okU,Bool.and_eq_true,List.all_eq_true,decide_eq_true_eq];exact⟨by rw[Nat.beq_eq]; exact h1,fun e he=>hE e he⟩
theorem sortedU_of:∀ {l:List UT},(l.Pairwise fun u v=>ordI u.2 v.2<0)→sortedU l=true
 | [],_=>rfl
 | u::l,h=>by
  rw[List.pairwise_cons]at h;simp only[sortedU,Bool.and_eq_true,List.all_eq_true,decide_eq_true_eq];exact⟨h.1,sortedU_of h.2⟩
theorem absU_insU (u:UT):∀l:List UT,absU (insU u l)≤u.1.natAbs+absU l
 | []=>by unfold insU; split<;>simp[absU]
 | v::l=>by
  have ih:=absU_insU u l;unfold insU;split
  ·split
   ·simp only[absU]; omega
   ·simp only[absU]; omega
  ·split
   ·split
    ·simp only[absU]; omega
    ·simp only[absU]; omega
   ·simp only[absU]; omega
theorem absU_canU:∀l:List UT,absU (canU l)≤absU l
 | []=>Nat.le_refl _
 | u::l=>by
  have:=absU_canU l;have:=absU_insU u (canU l);show absU (insU u (canU l))≤_;simp only[absU]; omega
theorem absU_append:∀a b:List UT,absU (a++b)=absU a+absU b
 | [],b=>by simp[absU]
 | u::a,b=>by simp only[List.cons_append,absU,absU_append a b]; omega
theorem absU_scale (k:Int):∀l:List UT,absU (l.map fun u=>(u.1*k,u.2))=absU l*k.natAbs
 | []=>by simp[absU]
 | u::l=>by simp only[List.map_cons,absU,absU_scale k l,Int.natAbs_mul,Nat.add_mul]
theorem absU_times (t:UT):∀l:List UT,absU (l.map fun u=>(t.1*u.1,addE t.2 u.2))=t.1.natAbs*absU l
 | []=>by simp[absU]
 | u::l=>by simp only[List.map_cons,absU,absU_times t l,Int.natAbs_mul,Nat.mul_add]
theorem absU_mulUs (q:List UT):∀p:List UT,absU (Bo p q)=absU p*absU q
 | []=>by simp[Bo,absU]
 | t::p=>by
  have ih:=absU_mulUs q p;unfold Bo at ih ⊢;rw[List.flatMap_cons,absU_append,absU_times,ih];simp only[absU,Nat.add_mul]
theorem len_mulUs (q:List UT):∀p:List UT,(Bo p q).length=p.length*q.length
 | []=>by simp[Bo]
 | t::p=>by
  have ih:=len_mulUs q p;unfold Bo at ih ⊢;rw[List.flatMap_cons,List.length_append,List.length_map,ih,List.length_cons,Nat.add_mul]; omega
theorem can_sz {V d c n:Nat} {us:List UT} (he:∀u∈us,u.2.length=V∧(∀e∈u.2,0≤e)∧sumL u.2≤d) (ha:absU us≤c) (hl:us.length≤n):SzU V d c n (canU us):=
 ⟨CX us,fun u hu=>by obtain⟨w,hw,e⟩:=canU_mem hu; rw[e]; exact he w hw,Nat.le_trans (absU_canU us) ha,Nat.le_trans (EP us) hl⟩
theorem can_chk {V d:Nat} {us:List UT} (hd:d≤120) (he:∀u∈us,u.2.length=V∧(∀e∈u.2,0≤e)∧sumL u.2≤d) (ha:absU us<4294967296) (hl:us.length≤3000):chkU V us (canU us)=true:=by
 have h:=can_sz he (Nat.le_refl _) (Nat.le_refl _);simp only[chkU,Bool.and_eq_true,List.all_eq_true,decide_eq_true_eq];refine⟨⟨⟨⟨⟨⟨⟨fun u hu=>(ex_ok hd (he u hu)).1,fun u hu=>?_⟩,sortedU_of h.can.pw⟩,?_⟩,ha⟩,?_⟩,fun u _=>(Bf _ _).symm⟩,fun u _=>(Bf _ _).symm⟩
 ·obtain⟨a,b,_⟩:=ex_ok hd (h.ex u hu);exact⟨⟨a,h.can.nz u hu⟩,b⟩
 ·have:=h.ln; omega
 ·have:=h.ab; omega
theorem SzU.chk {V d c n:Nat} {p:List UT} (h:SzU V d c n p) (hd:d≤120) (hc:c<4294967296) (hn:n≤3000):chkU V p p=true:=by
 have:=can_chk hd h.ex (by have:=h.ab; omega) (by have:=h.ln; omega);rwa [h.can.can]at this
theorem SzU.nil (V:Nat):SzU V 0 0 0 []:=⟨CanU.nil,fun u hu=>by simp at hu,Nat.le_refl _,Nat.le_refl _⟩
theorem sumL_rep:∀n:Nat,sumL (List.replicate n 0)=0
 | 0=>rfl
 | n+1=>by rw[List.replicate_succ,sumL,sumL_rep n]; rfl
theorem sumL_set:∀(n i:Nat),i<n→sumL ((List.replicate n (0:Int)).set i 1)=1
 | 0,i,h=>by omega
 | n+1,0,_=>by simp[List.replicate_succ,sumL,sumL_rep]
 | n+1,i+1,h=>by
  rw[List.replicate_succ,List.set_cons_succ,sumL,sumL_set n i (by omega)]; rfl
theorem SzU.con (V:Nat) (k:Int):SzU V 0 k.natAbs 1 (conU V k):=by
 refine⟨conU_canU V k,fun u hu=>?_,?_,?_⟩
 ·unfold conU at hu;split at hu
  ·simp at hu
  ·rw[List.mem_singleton]at hu;subst hu;refine⟨by simp,fun e he=>?_,by simp[sumL_rep]⟩;rw[(List.mem_replicate.1 he).2]; omega
 ·unfold conU; split<;>simp[absU]
 ·unfold conU; split<;>simp
theorem AN {V i:Nat} (hi:i<V):SzU V 1 1 1 (varU V i):=by
 refine⟨CanU.one (show(1:Int)≠0 by decide),fun u hu=>?_,by simp[varU,absU],by simp[varU]⟩;unfold varU at hu;rw[List.mem_singleton]at hu;subst hu;refine⟨by simp[unU],fun e he=>?_,?_⟩
 ·rcases List.mem_or_eq_of_mem_set he with h|h
  ·rw[(List.mem_replicate.1 h).2]; omega
  ·rw[h]; omega
 ·show sumL ((List.replicate V (0:Int)).set i 1)≤_;rw[sumL_set V i hi]; omega
theorem addUs_sz {V d c n d' c' n':Nat} (k:Int) {p q:List UT} (hp:SzU V d c n p) (hq:SzU V d' c' n' q):(∀u∈Bu k p q,u.2.length=V∧(∀e∈u.2,0≤e)∧sumL u.2≤((max d d':Nat):Int))∧absU (Bu k p q)≤c+c'*k.natAbs∧(Bu k p q).length≤n+n':=by
 unfold Bu;refine⟨fun u hu=>?_,?_,?_⟩
 ·rcases List.mem_append.1 hu with hu|hu
  ·have:=hp.ex u hu;exact⟨this.1,this.2.1,by have:=this.2.2; omega⟩
  ·obtain⟨v,hv,rfl⟩:=List.mem_map.1 hu;have:=hq.ex v hv;exact⟨this.1,this.2.1,by have:=this.2.2; show sumL v.2≤_; omega⟩
 ·rw[absU_append,absU_scale];have h1:=hp.ab;have h2:absU q*k.natAbs≤c'*k.natAbs:=Nat.mul_le_mul_right _ hq.ab;omega
 ·rw[List.length_append,List.length_map];have:=hp.ln;have:=hq.ln;omega
theorem SzU.add {V d c n d' c' n':Nat} {p q:List UT} (hp:SzU V d c n p) (hq:SzU V d' c' n' q):SzU V (max d d') (c+c') (n+n') (addL p q):=by
 obtain⟨a,b,e⟩:=addUs_sz 1 hp hq;exact can_sz a (by simpa using b) e
theorem SzU.addChk {V d c n d' c' n' : Nat} {p q : List UT} (hp:SzU V d c n p) (hq:SzU V d' c' n' q) (h1:d≤120) (h2:d'≤120) (hc:c+c'<4294967296) (hn:n+n'≤3000):chkU V (Bu 1 p q) (addL p q)=true:=by
  obtain⟨a,b,e⟩:=addUs_sz 1 hp hq
  exact can_chk (d := max d d') (by omega) a (by have:absU (Bu 1 p q)≤c+c':=by simpa using b
                                                 omega) (by omega)
theorem SzU.sub {V d c n d' c' n':Nat} {p q:List UT} (hp:SzU V d c n p) (hq:SzU V d' c' n' q):SzU V (max d d') (c+c') (n+n') (subL p q):=by
 obtain⟨a,b,e⟩:=addUs_sz (-1) hp hq;exact can_sz a (by simpa using b) e
theorem SzU.subChk {V d c n d' c' n' : Nat} {p q : List UT} (hp:SzU V d c n p) (hq:SzU V d' c' n' q) (h1:d≤120) (h2:d'≤120) (hc:c+c'<4294967296) (hn:n+n'≤3000):chkU V (Bu (-1) p q) (subL p q)=true:=by
  obtain⟨a,b,e⟩:=addUs_sz (-1) hp hq
  exact can_chk (d := max d d') (by omega) a (by have:absU (Bu (-1) p q)≤c+c':=by simpa using b
                                                 omega) (by omega)
theorem mulUs_sz {V d c n d' c' n':Nat} {p q:List UT} (hp:SzU V d c n p) (hq:SzU V d' c' n' q):(∀u∈Bo p q,u.2.length=V∧(∀e∈u.2,0≤e)∧sumL u.2≤((d+d':Nat):Int))∧absU (Bo p q)≤c*c'∧(Bo p q).length≤n*n':=by
 refine⟨fun u hu=>?_,?_,?_⟩
 ·unfold Bo at hu;obtain⟨t,ht,hu⟩:=List.mem_flatMap.1 hu;obtain⟨v,hv,rfl⟩:=List.mem_map.1 hu;have h1:=hp.ex t ht;have h2:=hq.ex v hv
  have hlen:t.2.length=v.2.length:=by omega
  refine⟨by show(addE t.2 v.2).length=V; rw[DT hlen]; exact h1.1,fun e he=>?_,?_⟩
  ·obtain⟨k,hk⟩:=List.getElem?_of_mem (show e∈addE t.2 v.2 from he);have hkl:=(List.getElem?_eq_some_iff.1 hk).1;rw[DT hlen]at hkl;obtain⟨x,hx⟩:∃x,t.2[k]? = some x:=⟨_,List.getElem?_eq_getElem hkl⟩;obtain⟨y,hy⟩:∃y,v.2[k]? = some y:=⟨_,List.getElem?_eq_getElem (by omega)⟩;rw[addE_get hx hy]at hk;injection hk with hk;have:=h1.2.1 x (List.mem_of_getElem? hx);have:=h2.2.1 y (List.mem_of_getElem? hy);omega
  ·show sumL (addE t.2 v.2)≤_;rw[sumL_addE hlen];have:=h1.2.2;have:=h2.2.2;omega
 ·rw[absU_mulUs]; exact Nat.mul_le_mul hp.ab hq.ab
 ·rw[len_mulUs]; exact Nat.mul_le_mul hp.ln hq.ln
theorem SzU.mul {V d c n d' c' n':Nat} {p q:List UT} (hp:SzU V d c n p) (hq:SzU V d' c' n' q):SzU V (d+d') (c*c') (n*n') (Aq p q):=by
 obtain⟨a,b,e⟩:=mulUs_sz hp hq;exact can_sz a b e
theorem SzU.mulChk {V d c n d' c' n':Nat} {p q:List UT} (hp:SzU V d c n p) (hq:SzU V d' c' n' q) (hd:d+d'≤120) (hc:c*c'<4294967296) (hn:n*n'≤3000):chkU V (Bo p q) (Aq p q)=true∧degU p q=true:=by
 obtain⟨a,b,e⟩:=mulUs_sz hp hq;refine⟨can_chk hd a (by omega) (by omega),?_⟩;unfold degU;split
 ·rename_i t _ u _;have h1:=(hp.ex t (by simp)).2.2;have h2:=(hq.ex u (by simp)).2.2;exact decide_eq_true (by omega)
 ·rfl
theorem okSums_sz {V d cp np:Nat} (hd:d≤120):∀(ps:List (List UT)) {acc:List UT} {c n:Nat},SzU V d c n acc→(∀p∈ps,SzU V d cp np p)→c+ps.length*cp+cp<4294967296→n+ps.length*np+np≤3000→Cc V acc ps=true∧SzU V d (c+ps.length*cp) (n+ps.length*np) (An acc ps)
 | [],acc,c,n,h,_,hc,hn=>by
  refine⟨?_,by simpa[An]using h⟩;unfold Cc;exact h.chk hd (by simp at hc; omega) (by simp at hn; omega)
 | p::ps,acc,c,n,h,hp,hc,hn=>by
  have h1:=hp p (by simp);rw[List.length_cons,Nat.succ_mul]at hc hn;have hadd:=h.add h1;rw[Nat.max_self]at hadd;obtain⟨k1,k2⟩:=okSums_sz hd ps hadd (fun q hq=>hp q (by simp[hq])) (by omega) (by omega);refine⟨?_,?_⟩
  ·unfold Cc;simp only[Bool.and_eq_true];exact⟨⟨⟨h.chk hd (by omega) (by omega),h1.chk hd (by omega) (by omega)⟩,h.addChk h1 hd hd (by omega) (by omega)⟩,k1⟩
  ·show SzU V d _ _ (An (addL acc p) ps);refine k2.mono (Nat.le_refl _) ?_ ?_<;>rw[List.length_cons,Nat.succ_mul]<;>omega
theorem mul_one_l {V:Nat} {p:List UT} (hc:CanU p) (hl:∀u∈p,u.2.length=V):Aq (conU V 1) p=p:=by
 unfold Aq Bo conU;rw[if_neg (by decide)];simp only[List.flatMap_cons,List.flatMap_nil,List.append_nil];rw[show(p.map fun u=>((1:Int)*u.1,addE (List.replicate V 0) u.2))=p from ?_,hc.can];refine(List.map_congr_left (g:=id) fun u hu=>?_).trans (List.map_id p)
 have:addE (List.replicate V 0) u.2=u.2:=by
  rw[←hl u hu];generalize u.2=l
  induction l with
  | nil=>rfl
  | cons x l ih=>
   rw[List.length_cons,List.replicate_succ];unfold addE at ih ⊢;rw[List.zipWith_cons_cons,ih];simp
 rw[Int.one_mul,this]; rfl
theorem add_nil_l {p:List UT} (hc:CanU p):addL [] p=p:=by
 unfold addL Bu;rw[List.nil_append];rw[show(p.map fun u=>(u.1*1,u.2))=p from ?_,hc.can];exact(List.map_congr_left (g:=id) fun u _=>by rw[Int.mul_one]; rfl).trans (List.map_id p)
theorem SzU.len {V d c n:Nat} {p:List UT} (h:SzU V d c n p):∀u∈p,u.2.length=V:=fun u hu=>(h.ex u hu).1
theorem CL {V d c n d' c' n':Nat} {p q:List UT} (hp:SzU V d c n p) (_:SzU V d' c' n' q):An [] [p,q]=addL p q:=by
 show addL (addL [] p) q=_;rw[add_nil_l hp.can]
theorem BL {V d c n:Nat} {p q:List UT} (hp:SzU V d c n p):A0 (conU V 1) [p,q]=Aq p q:=by
 show Aq (Aq (conU V 1) p) q=_;rw[mul_one_l hp.can hp.len]
theorem Ck {V d c n d' c' n':Nat} {p q:List UT} (hp:SzU V d c n p) (hq:SzU V d' c' n' q) (hd:d+d'≤120) (hc:c*c'<4294967296) (hc1:c<4294967296) (hc2:c'<4294967296) (hn:n*n'≤3000) (hn1:n≤3000) (hn2:n'≤3000):DB V (conU V 1) [p,q]=true:=by
 have h1:=SzU.con V 1;have m1:=h1.mulChk hp (by omega) (by simpa using hc1) (by omega);have e1:=mul_one_l hp.can hp.len;have m2:=hp.mulChk hq hd hc hn;unfold DB DB DB;rw[e1]at m1 ⊢;simp only[Bool.and_eq_true];exact⟨⟨⟨⟨h1.chk (by omega) (by decide) (by omega),hp.chk (by omega) hc1 hn1⟩,m1.2⟩,m1.1⟩,⟨⟨⟨hp.chk (by omega) hc1 hn1,hq.chk (by omega) hc2 hn2⟩,m2.2⟩,m2.1⟩,(hp.mul hq).chk hd hc hn⟩
theorem Dj {V d c n d' c' n':Nat} {p q:List UT} (hp:SzU V d c n p) (hq:SzU V d' c' n' q) (hd:d≤120) (hd2:d'≤120) (hc:c+c'<4294967296) (hn:n+n'≤3000):Cc V [] [p,q]=true:=by
 have h1:=SzU.nil V;have a1:=h1.addChk hp (by omega) hd (by omega) (by omega);have a2:=hp.addChk hq hd hd2 hc hn;unfold Cc Cc Cc;rw[add_nil_l hp.can]at a1 ⊢;simp only[Bool.and_eq_true];exact⟨⟨⟨h1.chk (by omega) (by omega) (by omega),hp.chk hd (by omega) (by omega)⟩,a1⟩,⟨⟨hp.chk hd (by omega) (by omega),hq.chk hd2 (by omega) (by omega)⟩,a2⟩,(hp.add hq).chk (by omega) hc hn⟩
end Go.AL
/- A link of polynomials by sizes. Plain. -/
namespace Go.AL
theorem mem_filt {P:Nat→Bool} {n k:Nat} {v:Int} (h:v∈((List.range' k n).filter P).map fun(i:Nat)=>(i:Int)):(k:Int)≤v:=by
 obtain⟨i,hi,rfl⟩:=List.mem_map.1 h;have:=(List.mem_range'_1.1 (List.mem_filter.1 hi).1).1;omega
theorem spr_pick (P:Nat→Bool) (E:List Int):∀(n k:Nat) (e:List Int),e.length=n→(∀i,i<n→e[i]? = E[k+i]?)→(∀i,i<n→P (k+i)=false→e[i]? = some 0)→spr n k (((List.range' k n).filter P).map fun(i:Nat)=>(i:Int)) (((List.range' k n).filter P).map fun i=>E.getD i 0)=e
 | 0,k,e,h,_,_=>by
  rw[List.eq_nil_of_length_eq_zero h]; rfl
 | n+1,k,[],h,_,_=>by simp at h
 | n+1,k,x::e,h,h1,h2=>by
  have ih:=spr_pick P E n (k+1) e (by simpa using h) (fun i hi=>by
   have:=h1 (i+1) (by omega);rw[List.getElem?_cons_succ]at this
   rw[this]; congr 1; omega) (fun i hi hP=>by
   have:=h2 (i+1) (by omega) (by rw[←hP]; congr 1; omega)
   rwa [List.getElem?_cons_succ]at this)
  have h0:=h1 0 (by omega);rw[List.getElem?_cons_zero,Nat.add_zero]at h0;rw[List.range'_succ,List.filter_cons];rw[show((k+1:Nat):Int)=(k:Int)+1 by omega]at ih;by_cases hp:P k=true
  ·rw[if_pos hp];simp only[List.map_cons,spr];rw[if_pos trivial,ih,List.getD_eq_getElem?_getD,←h0]; rfl
  ·rw[if_neg hp]
   have hx:x=0:=by
    have:=h2 0 (by omega) (by rw[Nat.add_zero]; simpa using hp);simpa using this
   have hne:∀v∈((List.range' (k+1) n).filter P).map (fun(i:Nat)=>(i:Int)),v≠(k:Int):=fun v hv=>by
    have:=mem_filt hv; omega
   subst hx
   generalize hA:((List.range' (k+1) n).filter P).map (fun(i:Nat)=>(i:Int))=A at *
   generalize hB:((List.range' (k+1) n).filter P).map (fun i=>E.getD i 0)=B at *
   have hlen:A.length=B.length:=by rw[←hA,←hB]; simp
   match A,B,hlen with
   | [],[],_=>simp only[spr]; rw[ih]
   | v::A,b::B,_=>
    simp only[spr];rw[if_neg (hne v (by simp)),ih]
theorem occ_zero {V:Nat} {ls:List (List UT)} {p:List UT} (hp:p∈ls) {u:UT} (hu:u∈p) (hl:u.2.length=V) (h0:∀e∈u.2,0≤e) {i:Nat} (hi:i<V) (hP:occP ls i=false):u.2[i]? = some 0:=by
 obtain⟨x,hx⟩:∃x,u.2[i]? = some x:=⟨_,List.getElem?_eq_getElem (by omega)⟩;have hx0:=h0 x (List.mem_of_getElem? hx);rcases(show x=0∨0<x by omega)with h|h
 ·rw[hx,h]
 ·exfalso
  have:occP ls i=true:=by
   unfold occP;refine List.any_eq_true.2 ⟨p,hp,List.any_eq_true.2 ⟨u,hu,?_⟩⟩;rw[List.getD_eq_getElem?_getD,hx];exact decide_eq_true h
  rw[this]at hP; cases hP
theorem spr_pickE {V:Nat} {ls:List (List UT)} {p:List UT} (hp:p∈ls) {u:UT} (hu:u∈p) (hl:u.2.length=V) (h0:∀e∈u.2,0≤e):spr V 0 ((occL V ls).map fun(i:Nat)=>(i:Int)) (DN (occL V ls) u.2)=u.2:=by
 have:=spr_pick (occP ls) u.2 V 0 u.2 hl (fun i _=>by rw[Nat.zero_add]) fun i hi hP=>occ_zero hp hu hl h0 hi (by rwa [Nat.zero_add]at hP);rw[←List.range_eq_range']at this;exact this
theorem occ_inc (V:Nat) (ls:List (List UT)):incK 0 V ((occL V ls).map fun(i:Nat)=>(i:Int)):=by
 have:=FE (occP ls) V 0 (-1) V (by omega) (by omega);rw[←List.range_eq_range']at this;exact incK_of this
theorem pick_sz {V d c n:Nat} {ls:List (List UT)} {p:List UT} (hp:p∈ls) (h:SzU V d c n p):SzU (occL V ls).length d c n (EI (occL V ls) p):=by
 have hinc:=occ_inc V ls
 have hlen:∀e:List Int,(((occL V ls).map fun(i:Nat)=>(i:Int))).length=(DN (occL V ls) e).length:=fun e=>by simp[DN]
 refine⟨⟨fun u hu=>?_,?_⟩,fun u hu=>?_,?_,by simpa[EI]using h.ln⟩
 ·obtain⟨v,hv,rfl⟩:=List.mem_map.1 hu;exact h.can.nz v hv
 ·unfold EI;rw[List.pairwise_map];have:=h.can.pw;refine List.Pairwise.imp_of_mem (fun {a b} ha hb hab=>?_) this;have e1:=h.ex a ha;have e2:=h.ex b hb;have:=spr_ord (n:=V) (hlen a.2) (hlen b.2) hinc;rw[spr_pickE hp ha e1.1 e1.2.1,spr_pickE hp hb e2.1 e2.2.1]at this;show ordI (DN (occL V ls) a.2) (DN (occL V ls) b.2)<0;rw[←this]; exact hab
 ·obtain⟨v,hv,rfl⟩:=List.mem_map.1 hu;have e1:=h.ex v hv;refine⟨by simp[DN],fun e he=>?_,?_⟩
  ·obtain⟨i,_,rfl⟩:=List.mem_map.1 (show e∈DN (occL V ls) v.2 from he);rw[List.getD_eq_getElem?_getD]
   cases hx:v.2[i]? with
   | none=>simp
   | some x=>exact e1.2.1 x (List.mem_of_getElem? hx)
  ·have:=spr_sum V 0 ((occL V ls).map fun(i:Nat)=>(i:Int)) (DN (occL V ls) v.2) (hlen v.2) (hinc.imp_hi (by omega));rw[spr_pickE hp hv e1.1 e1.2.1]at this;show sumL (DN (occL V ls) v.2)≤_;rw[←this]; exact e1.2.2
 ·unfold EI
  have:∀l:List UT,absU (l.map fun u=>(u.1,DN (occL V ls) u.2))=absU l:=by
   intro l
   induction l with
   | nil=>rfl
   | cons u l ih=>simp only[List.map_cons,absU,ih]
  rw[this]; exact h.ab
theorem linkU_sz {V d c n:Nat} {kind:Int} {ls:List (List UT)} (hV:V≤32) (hd:d≤120) (hc:c<4294967296) (hn:n≤3000) (hk:BW kind≠0) (hl:(ls.length:Int)=BW kind) (h:∀p∈ls,SzU V d c n p):OkL V (BF V kind ls)∧WL (BF V kind ls)∧∀p∈ls,nnU V p:=by
 refine okLU_ok hV ?_;simp only[okLU,Bool.and_eq_true,decide_eq_true_eq,List.all_eq_true];exact⟨⟨hk,hl⟩,fun p hp=>⟨(pick_sz hp (h p hp)).chk hd hc hn,fun u hu=>(ex_ok hd ((h p hp).ex u hu)).1⟩⟩
end Go.AL
/- The system of a machine and an input: its polynomials, their sizes and values. Plain. -/
namespace Go.AL
structure IZ where
  op:Int
  rg:Int
  nx:Int
  zr:Int
structure MZ where
  regs:Int
  code:List IZ
def haltZ:IZ:=⟨3,0,0,0⟩
abbrev MZ.l (m:MZ):Nat:=m.code.length
abbrev MZ.R (m:MZ):Nat:=m.regs.toNat
abbrev MZ.V (m:MZ):Nat:=3+m.l+2*m.R
def MZ.at (m:MZ) (i:Nat):IZ:=m.code.getD i haltZ
def okIns (m:MZ) (i:Nat) (x:IZ):Prop:=
  x=haltZ∨((0≤x.rg∧x.rg<m.regs)∧(0≤x.nx∧x.nx<m.l)∧((x.op=2∧0≤x.zr∧x.zr<m.l∧x.nx≠i)∨((x.op=0∨x.op=1)∧x.zr=0)))
structure OkMZ (m:MZ):Prop where
  r1:1≤m.regs
  r4:m.regs≤4
  l1:1≤m.l
  l15:m.l≤15
  ins:∀i,i<m.l→okIns m i (m.at i)
def OkIn (m:MZ) (x:List Int):Prop:=x.length=m.R∧∀n∈x,0≤n∧n≤1000
def MZ.mach (m:MZ):Mach:=⟨m.l,m.R,fun i=>(m.at i).op.toNat,fun i=>(m.at i).rg.toNat,fun i=>(m.at i).nx.toNat,fun i=>(m.at i).zr.toNat⟩
theorem OkMZ.mach {m:MZ} (h:OkMZ m):m.mach.Ok:=by
 refine⟨h.l1,fun i hi=>?_⟩;rcases h.ins i hi with k|⟨⟨a1,a2⟩,⟨b1,b2⟩,k⟩
 ·left; show(m.at i).op.toNat=3; rw[k]; rfl
 ·right
  have hR:((m.R:Nat):Int)=m.regs:=by have:=h.r1; show((m.regs.toNat:Nat):Int)=_; omega
  have hl:((m.l:Nat):Int)=m.code.length:=rfl;have:=h.l1;show(m.at i).op.toNat≤2∧(m.at i).rg.toNat<m.R∧(m.at i).nx.toNat<m.l∧(m.at i).zr.toNat<m.l∧((m.at i).op.toNat=2→(m.at i).nx.toNat≠i);rcases k with⟨c1,c2,c3,c4⟩|⟨c1,c2⟩
  ·exact⟨by omega,by omega,by omega,by omega,fun _=>by omega⟩
  ·exact⟨by omega,by omega,by omega,by omega,fun k=>by omega⟩
theorem OkMZ.V32 {m:MZ} (h:OkMZ m):m.V≤26:=by
 have:=h.l15;have:=h.r4;show 3+m.code.length+2*m.regs.toNat≤26;have:m.code.length≤15:=h.l15;omega
def hsQ (V:Nat):List UT:=A0 (conU V 1) [conU V 2,varU V 1]
def Bp (V:Nat):List UT:=An [] [conU V 1,A0 (conU V 1) [subL (hsQ V) (conU V 1),varU V 2]]
def Aj (V:Nat) (c:IZ→Bool):Nat→List IZ→List UT→List UT
  | _,[],acc=>acc
  | i,x::xs,acc=>Aj V c (i+1) xs (if c x then An [] [acc,varU V (3+i)]else acc)
theorem Ba {V:Nat} (hV:6≤V):SzU V 1 2 1 (hsQ V)∧DB V (conU V 1) [conU V 2,varU V 1]=true:=by
 have a:=SzU.con V 2;have b:=AN (V:=V) (i:=1) (by omega);refine⟨?_,Ck a b (by omega) (by decide) (by decide) (by decide) (by omega) (by omega) (by omega)⟩;unfold hsQ;rw[BL a];exact(a.mul b).mono (by omega) (by decide) (by omega)
theorem Cz {V:Nat} (hV:6≤V):SzU V 2 4 3 (Bp V)∧DB V (conU V 1) [subL (hsQ V) (conU V 1),varU V 2]=true∧Cc V [] [conU V 1,A0 (conU V 1) [subL (hsQ V) (conU V 1),varU V 2]]=true∧SzU V 1 3 2 (subL (hsQ V) (conU V 1))∧chkU V (Bu (-1) (hsQ V) (conU V 1)) (subL (hsQ V) (conU V 1))=true∧SzU V 2 3 2 (A0 (conU V 1) [subL (hsQ V) (conU V 1),varU V 2]):=by
 have a:=(Ba hV).1;have c1:=SzU.con V 1;have b:=AN (V:=V) (i:=2) (by omega);have s:=(a.sub c1).mono (d':=1) (c':=3) (n':=2) (by omega) (by decide) (by omega);have e:=BL (p:=subL (hsQ V) (conU V 1)) (q:=varU V 2) s
 have p:SzU V 2 3 2 (A0 (conU V 1) [subL (hsQ V) (conU V 1),varU V 2]):=by
  rw[e]; exact(s.mul b).mono (by omega) (by decide) (by omega)
 refine⟨?_,Ck s b (by omega) (by decide) (by decide) (by decide) (by omega) (by omega) (by omega),Dj c1 p (by omega) (by omega) (by decide) (by omega),s,a.subChk c1 (by omega) (by omega) (by decide) (by omega),p⟩;unfold Bp;rw[CL c1 p];exact(c1.add p).mono (by omega) (by decide) (by omega)
theorem hsSum_sz {V:Nat} (c:IZ→Bool):∀(xs:List IZ) {i:Nat} {acc:List UT} {k n:Nat},SzU V 1 k n acc→3+i+xs.length≤V→SzU V 1 (k+xs.length) (n+xs.length) (Aj V c i xs acc)
 | [],i,acc,k,n,h,_=>by simpa[Aj]using h
 | x::xs,i,acc,k,n,h,hV=>by
  rw[List.length_cons]at hV;have v:=AN (V:=V) (i:=3+i) (by omega);unfold Aj;split
  ·rw[CL h v];have:=hsSum_sz c xs (i:=i+1) ((h.add v).mono (d':=1) (c':=k+1) (n':=n+1) (by omega) (by omega) (by omega)) (by omega);exact this.mono (by omega) (by rw[List.length_cons]; omega) (by rw[List.length_cons]; omega)
  ·have:=hsSum_sz c xs (i:=i+1) h (by omega);exact this.mono (by omega) (by rw[List.length_cons]; omega) (by rw[List.length_cons]; omega)
theorem hsSum0_sz {m:MZ} (c:IZ→Bool):SzU m.V 1 m.l (1+m.l) (Aj m.V c 0 m.code (conU m.V 0)):=by
 have:=hsSum_sz (V:=m.V) c m.code (i:=0) ((SzU.con m.V 0).mono (d':=1) (c':=0) (n':=1) (by omega) (by decide) (by omega)) (by show 3+0+m.code.length≤3+m.code.length+2*m.R; omega);exact this.mono (by omega) (Nat.le_of_eq (Nat.zero_add _)) (Nat.le_refl _)
/-! values -/
theorem sumN_front:∀(n:Nat) (f:Nat→Nat),sumN (n+1) f=f 0+sumN n fun k=>f (k+1)
 | 0,f=>by simp[sumN]
 | n+1,f=>by rw[sumN,sumN_front n f,sumN]; omega
theorem uv_add2 {V d c n d' c' n':Nat} (hV:V≤32) (X:List Int) {p q:List UT} (hp:SzU V d c n p) (hq:SzU V d' c' n' q) (h1:d≤120) (h2:d'≤120) (hc:c+c'<4294967296) (hn:n+n'≤3000):uv X (An [] [p,q])=uv X p+uv X q:=by
 rw[uv_sums hV X _ _ (Dj hp hq h1 h2 hc hn)];simp only[List.map_cons,List.map_nil,sumL];show(0:Int)+_=_;omega
theorem Dg {V d c n d' c' n':Nat} (hV:V≤32) (X:List Int) {p q:List UT} (hp:SzU V d c n p) (hq:SzU V d' c' n' q) (hd:d+d'≤120) (hc:c*c'<4294967296) (hc1:c<4294967296) (hc2:c'<4294967296) (hn:n*n'≤3000) (hn1:n≤3000) (hn2:n'≤3000):uv X (A0 (conU V 1) [p,q])=uv X p*uv X q:=by
 rw[uv_muls hV X _ _ (Ck hp hq hd hc hc1 hc2 hn hn1 hn2),DW];simp only[List.map_cons,List.map_nil,prodL];grind
theorem Et {V d c n d' c' n':Nat} (hV:V≤32) (X:List Int) {p q:List UT} (hp:SzU V d c n p) (hq:SzU V d' c' n' q) (h1:d≤120) (h2:d'≤120) (hc:c+c'<4294967296) (hn:n+n'≤3000):uv X (subL p q)=uv X p-uv X q:=uv_sub hV X (hp.subChk hq h1 h2 hc hn)
theorem hsQ_val {V:Nat} (h6:6≤V) (hV:V≤32) {X:List Int} (hX:X.length=V):uv X (hsQ V)=2*X.getD 1 0:=by
 unfold hsQ;rw[Dg hV X (SzU.con V 2) (AN (by omega)) (by omega) (by decide) (by decide) (by decide) (by omega) (by omega) (by omega),DW,DV hX (by omega)]
theorem hsAll_val {V:Nat} (h6:6≤V) (hV:V≤32) {X:List Int} (hX:X.length=V):uv X (Bp V)=1+(2*X.getD 1 0-1)*X.getD 2 0:=by
 obtain⟨_,_,_,s,_,p⟩:=Cz h6;unfold Bp;rw[uv_add2 hV X (SzU.con V 1) p (by omega) (by omega) (by decide) (by omega),DW,Dg hV X s (AN (by omega)) (by omega) (by decide) (by decide) (by decide) (by omega) (by omega) (by omega),Et hV X (Ba h6).1 (SzU.con V 1) (by omega) (by omega) (by decide) (by omega),hsQ_val h6 hV hX,DW,DV hX (by omega)]
theorem hsSum_val {V:Nat} (hV:V≤32) {X:List Int} (hX:X.length=V) (h0:∀y∈X,0≤y) (c:IZ→Bool):∀(xs:List IZ) {i:Nat} {acc:List UT} {k n:Nat},SzU V 1 k n acc→3+i+xs.length≤V→k≤100-xs.length→n≤100-xs.length→xs.length≤50 →
  uv X (Aj V c i xs acc)=uv X acc+(sumN xs.length fun j=>if c (xs.getD j haltZ)then(X.getD (3+i+j) 0).toNat else 0:Nat)
 | [],i,acc,k,n,h,_,_,_,_=>by simp[Aj,sumN]
 | x::xs,i,acc,k,n,h,hl,hk,hn,h50=>by
  rw[List.length_cons]at hl hk hn h50;have v:=AN (V:=V) (i:=3+i) (by omega)
  have hx0:0≤X.getD (3+i) 0:=by
   rw[List.getD_eq_getElem?_getD,List.getElem?_eq_getElem (by omega)];exact h0 _ (List.getElem_mem _)
  rw[List.length_cons,sumN_front]
  have hs:(sumN xs.length fun j=>if c ((x::xs).getD (j+1) haltZ)then(X.getD (3+i+(j+1)) 0).toNat else 0)=sumN xs.length fun j=>if c (xs.getD j haltZ)then(X.getD (3+(i+1)+j) 0).toNat else 0:=by
   refine BP fun j _=>?_;rw[List.getD_cons_succ,show 3+i+(j+1)=3+(i+1)+j by omega]
  rw[hs,List.getD_cons_zero,Nat.add_zero];unfold Aj;by_cases hc:c x=true
  ·rw[if_pos hc,if_pos hc];have ha:=(h.add v).mono (d':=1) (c':=k+1) (n':=n+1) (by omega) (by omega) (by omega);rw[←CL h v]at ha;rw[hsSum_val hV hX h0 c xs ha (by omega) (by omega) (by omega) (by omega),uv_add2 hV X h v (by omega) (by omega) (by omega) (by omega),DV hX (by omega)];omega
  ·rw[if_neg hc,if_neg hc,hsSum_val hV hX h0 c xs h (by omega) (by omega) (by omega) (by omega)];omega
end Go.AL
/- register.Valid, Input. -/
namespace Go.AL
def eIz:IZ→List AV:=fun x=>[aN x.op,aN x.rg,aN x.nx,aN x.zr]
abbrev aIz (x:IZ):AV := .agg [aN x.op,aN x.rg,aN x.nx,aN x.zr]
abbrev eMz (m:MZ):List AV:=[aN m.regs,.sl 4 eIz m.code]
abbrev aMz (m:MZ):AV := .agg [aN m.regs,.sl 4 eIz m.code]
theorem dec_of {p q:Prop} [Decidable p] {b:Bool} (hb:b=true↔q) (h:p↔q):decide p=b:=by
 cases b with
 | true=>exact decide_eq_true (h.2 (hb.1 rfl))
 | false=>exact decide_eq_false fun k=>by have:=hb.2 (h.1 k); cases this
theorem okIns_iff (m:MZ) (i:Nat) (x:IZ):okIns m i x↔((x.op=3∧x.rg=0∧x.nx=0∧x.zr=0)∨((0≤x.rg∧x.rg<m.regs)∧(0≤x.nx∧x.nx<m.code.length)∧((x.op=2∧0≤x.zr∧x.zr<m.code.length∧x.nx≠i)∨((x.op=0∨x.op=1)∧x.zr=0)))):=by
 unfold okIns
 have:x=haltZ↔(x.op=3∧x.rg=0∧x.nx=0∧x.zr=0):=by
  obtain⟨a,b,c,d⟩:=x;unfold haltZ;constructor
  ·intro h; injection h with h1 h2 h3 h4; exact⟨h1,h2,h3,h4⟩
  ·rintro⟨h1,h2,h3,h4⟩;simp only at h1 h2 h3 h4;rw[h1,h2,h3,h4]
 rw[this]
theorem MZ.at_get {m:MZ} {i:Nat} {x:IZ} (h:m.code[i]? = some x):m.at i=x:=by
 unfold MZ.at;rw[List.getD_eq_getElem?_getD,h]; rfl
theorem Em {m:MZ} {i:Nat} (h:i<m.l):m.code[i]? = some (m.at i):=by
 unfold MZ.at;rw[List.getD_eq_getElem?_getD,List.getElem?_eq_getElem h]; rfl
end Go.AL
namespace Go.Proofs.YtmmfloplhopioaaGreat
open Go.AL
abbrev mB (m:MZ):List (AL.Id×Bx):=[(900,.cells (eMz m) 24)]
theorem goes1_ok (m:MZ) (t:Int):IoFn Tryz.prog 166 ([aN t]++[.ptr 900 0]) (mB m) (.ret (aB (decide (0≤t∧t<m.code.length)))) (mB m):=by
 refine AH Tryz.func166 rfl Tryz.ntmps166 rfl rfl rfl ?_;(repeat' first|refine qv ?_|apply qn|apply qs|apply qr|refine Fl.skip rfl rfl ?_|apply qt|(refine AG rfl rfl ?_ ?_<;>intro _<;>try(exfalso; omega)))
 all_goals refine⟨⟨[],_,_,AM _ _ _,rfl,AV.Le.bool ?_,rfl,⟨⟨⟨_,rfl,BLe.cells (AB _)⟩,rfl⟩,trivial⟩,rfl,rfl⟩⟩
 ·exact decide_eq_decide.2 (by omega)
 ·exact(decide_eq_false (by omega)).symm
set_option maxHeartbeats 4000000 in
theorem rgInsn_ok (m:MZ) (i:Nat) (x:IZ) (b:Bool) (hb:b=true↔okIns m i x):PureFn Tryz.prog 114 [aMz m,aN i,aIz x] (aB b):=by
 refine AC Tryz.func114 rfl Tryz.ntmps114 rfl rfl ?_;rw[okIns_iff]at hb;have fin0:∀ {p:Prop} [Decidable p],(p↔_)→decide p=b:=fun h=>dec_of hb h;(repeat' first|refine qv ?_|apply qn|apply qs|apply qr|refine qe ?_|refine Fl.skip rfl rfl ?_|(refine AD rfl ?_ ?_<;>intro _<;>try(exfalso; omega))|apply qb|apply qk|apply qt|(refine AG rfl rfl ?_ ?_<;>intro _<;>try(exfalso; omega)))
 all_goals (try(refine ED rfl rfl [(900,3)] (goes1_ok m _) rfl rfl (AB _) rfl ⟨⟨⟨_,rfl,BLe.cells (AB _)⟩,rfl⟩,trivial⟩ rfl rfl rfl rfl rfl ?_))
 all_goals repeat'(first|refine qv ?_|apply qn|refine Fl.skip rfl rfl ?_|apply qt|(refine AG rfl rfl ?_ ?_<;>intro _<;>try(exfalso; omega)))
 all_goals (try(refine ED rfl rfl [(900,3)] (goes1_ok m _) rfl rfl (AB _) rfl ⟨⟨⟨_,rfl,BLe.cells (AB _)⟩,rfl⟩,trivial⟩ rfl rfl rfl rfl rfl ?_))
 all_goals repeat'(first|refine qv ?_|apply qn|refine Fl.skip rfl rfl ?_|apply qt|(refine AG rfl rfl ?_ ?_<;>intro _<;>try(exfalso; omega)))
 all_goals (try(refine Fl.eqV rfl rfl rfl rfl rfl _ rfl rfl (fun w=>by kernel_rfl) (fun w=>insEq_run w _ _ _ _ _ _ _ _) ?_))
 all_goals repeat'(first|refine qv ?_|apply qn|apply qt)
 all_goals refine RetOk.of rfl (AV.Le.bool ?_)
 all_goals first
  | exact(hb.2 (by omega)).symm
  | exact(Bool.eq_false_iff.2 fun h=>by have:=hb.1 h; omega).symm
  | exact fin0 (by omega)
  | (rw[←decide_not]; exact fin0 (by omega))
theorem Br (m:MZ) (hl:m.code.length≤100000) (b:Bool) (hb:b=true↔OkMZ m):PureFn Tryz.prog 48 [aMz m] (aB b):=by
 refine AC Tryz.func48 rfl Tryz.ntmps48 rfl rfl ?_
 have hfalse:¬OkMZ m→false=b:=fun h=>by cases b with|false=>rfl|true=>exact absurd (hb.1 rfl) h
 refine AE ?_;(repeat' first|refine qv ?_|apply qn|apply qr|refine qe ?_|fail);refine⟨AE ?_⟩;(repeat' first|refine qv ?_|apply qn|apply qs|apply qr|refine Fl.skip rfl rfl ?_|refine AJ rfl ?_|(refine AD rfl ?_ ?_<;>intro _<;>try(exfalso; omega))|apply qk|apply qt|(refine AG rfl rfl ?_ ?_<;>intro _<;>try(exfalso; omega)))
 any_goals exact RetOk.of rfl (AV.Le.bool (hfalse fun k=>by
  have k1:=k.r1;have k2:=k.r4;have k3:1≤m.code.length:=k.l1;have k4:m.code.length≤15:=k.l15
  omega))
 refine⟨AE ?_⟩;(repeat' first|refine qv ?_|apply qn|apply qs|apply qr|apply qb);refine AWP.loop (G:=Nat) (fun i=>i≤m.code.length∧∀j,j<i→okIns m j (m.at j)) (fun i=>AO [] [(1,.ptr 1 0),(26,.sl 4 eIz m.code),(27,aN m.code.length),(28,aN i)] [(1,.cells (eMz m) 24)]) (fun i=>m.code.length-i) 0 ⟨by omega,fun j hj=>by omega⟩ ?_ ?_
 ·refine Ent.of [] ?_ ?_ rfl rfl;(repeat' first|exact True.intro|refine⟨⟨AA _,rfl⟩,?_⟩|refine⟨⟨⟨_,rfl,BLe.cells (AB _)⟩,rfl⟩,?_⟩|fail)
 ·intro i ⟨k0,k1⟩;(repeat' first|refine qv ?_|apply qn|apply qs|apply qr|refine qe ?_|(refine AD rfl ?_ ?_<;>intro _<;>try(exfalso; omega))|apply qb|apply qk|apply qx|(refine Ay rfl rfl rfl rfl rfl rfl rfl rfl (by omega) (by omega) ?_; intro _ _)|fail)
  ·rename_i hi x hx;rw[Int.toNat_natCast]at hx;have hat:=MZ.at_get hx;obtain⟨f,hf⟩:=boolOf (fun _:Unit=>okIns m i x);refine qc (rgInsn_ok m i x (f ()) (hf ())) ?_;(repeat' first|refine qv ?_|apply qn|apply qs|apply qr|refine qw ?_|apply qk|apply qt|(refine BQ rfl ?_ ?_<;>intro _))
   ·rename_i hff;refine RetOk.of rfl (AV.Le.bool (hfalse fun k=>?_));have h:=(hf ()).2 (hat▸k.ins i (by show i<m.code.length; omega));rw[h]at hff
    cases hff
   ·rename_i hff
    have hff':f ()=true:=by cases h:f ()with|true=>rfl|false=>rw[h]at hff; cases hff
    refine LoopEnd.of (i+1) ⟨by omega,fun j hj=>?_⟩ (by omega) ?_
    ·rcases(show j<i∨j=i by omega)with h|h
     ·exact k1 j h
     ·rw[h,hat]; exact(hf ()).1 hff'
    ·refine Ent.of [] ?_ ?_ rfl rfl;(repeat' first|exact True.intro|refine⟨⟨AA _,rfl⟩,?_⟩|refine⟨⟨⟨_,rfl,BLe.cells (AB _)⟩,rfl⟩,?_⟩|fail)
  ·rename_i hi;refine⟨?_⟩;(repeat' first|refine qv ?_|apply qn|apply qs|apply qr|apply qt);refine RetOk.of rfl (AV.Le.bool ?_);exact(hb.2 ⟨by omega,by omega,by show 1≤m.code.length; omega,by show m.code.length≤15; omega,fun j hj=>k1 j (by have:j<m.code.length:=hj; omega)⟩).symm
end Go.Proofs.YtmmfloplhopioaaGreat
/- mask.Witness. -/
namespace Go.AL
section
variable {P:Program} {tab:Tab} {n:Nat} {s:St}
variable {ops:Array Oper} {draw:Dr} {o:Oper} {l:List Oper} {acc:List Eff} {K:Exit→St→Prop}
theorem Do [f:Facts P tab] {t:TypeId} {x:Operand} (hop:o.op = .load t x) {b:Id} {off:Nat} (hx:opd s x = .rptr b off) {α:Type} {sz:Nat} {enc:α→List AV} {xs:List α} {bt:TypeId} (hb:s.bx b=some (.row sz enc xs bt)) {i:TI} (hti:tab t=some i) (hg:gOk ops s o=true) (hd:dOk n o.dst=true)
  {j:Nat} (hj:off=j*sz) {v:α→AV} (hv:∀x0,BM (aggD i.desc) i.size (enc x0)=some (v x0)) (hvc:∀x0,(v x0).closed=true) {x0:α} (he:xs[j]? = some x0)
  (r:Fl P n ops draw l ((Eff.mk (v x0) [] [] [] [b]).app o.dst s) (Eff.mk (v x0) [] [] [] [b]::acc) K):Fl P n ops draw (o::l) s acc K:=
 Af hg (OpJ.rload f.tabOk (Aa hd) hop hx hb hti hj he (hv _) (hvc _)) r
end
structure MW where
  u:Int
  p:Int
  q:Int
  z:Int
  y:Int
  r:Int
  s:Int
  t:Int
def MW.X (w:MW) (a b:Int):List Int:=[a,b,w.u,w.p,w.q,w.z,w.y,w.r,w.s,w.t]
end Go.AL
namespace Go.Proofs.YtmmfloplhopioaaGreat
open Go.AL
end Go.Proofs.YtmmfloplhopioaaGreat
/- register.Input, Start; the runner. -/
namespace Go.AL
abbrev aSt (a:Int) (rs:List Int):AV := .agg [aN a,aI rs]
end Go.AL
namespace Go.Proofs.YtmmfloplhopioaaGreat
open Go.AL
theorem indexI_ok (g:FuncId) (f:Int→Bool) (xs:List Int) (hl:xs.length≤1000000) (hf:∀v,PureFn Tryz.prog g [aN v] (aB (f v))):PureFn Tryz.prog 185 [aI xs,.fn g []] (aN (idxI f xs 0)):=by
 refine AC Tryz.func185 rfl Tryz.ntmps185 rfl rfl ?_;(repeat' first|refine qv ?_|apply qn|apply qs|apply qr|apply qb);refine AWP.loop (G:=Nat) (fun i=>i≤xs.length∧idxI f (xs.drop i) i=idxI f xs 0) (fun i=>AO [] [(0,aI xs),(1,.fn g []),(7,aN xs.length),(8,aN i)] []) (fun i=>xs.length-i) 0 ⟨by omega,by simp⟩ ?_ ?_
 ·refine Ent.of [] ?_ ?_ rfl rfl;(repeat' first|exact True.intro|refine⟨⟨AA _,rfl⟩,?_⟩|fail)
 ·intro i ⟨k0,k1⟩;(repeat' first|refine qv ?_|apply qn|apply qs|apply qr|(refine AD rfl ?_ ?_<;>intro _<;>try(exfalso; omega))|apply qb|apply qk|apply qx|apply qt|(refine Ay rfl rfl rfl rfl rfl rfl rfl rfl (by omega) (by omega) ?_; intro _ _)|fail)
  ·rename_i hi p hp;rw[Int.toNat_natCast]at hp;have hd:=Ef (f:=f) hp;refine C3 rfl rfl (hf p) rfl rfl rfl (AB _) ?_;(repeat' first|refine qv ?_|apply qn|apply qs|apply qr|refine qw ?_|apply qk|apply qt|(refine BQ rfl ?_ ?_<;>intro _))
   ·rename_i hb;rw[if_pos hb]at hd;refine RetOk.of rfl (AV.Le.int ?_);rw[←k1,hd]
   ·rename_i hb;rw[if_neg (by rw[hb]; simp)]at hd;refine LoopEnd.of (i+1) ⟨by omega,by rw[←k1,hd]⟩ (by omega) ?_;refine Ent.of [] ?_ ?_ rfl rfl;(repeat' first|exact True.intro|refine⟨⟨AA _,rfl⟩,?_⟩|fail)
  ·refine RetOk.of rfl (AV.Le.int ?_);rw[←k1,List.drop_of_length_le (by omega)]; rfl
theorem containsI_ok (g:FuncId) (f:Int→Bool) (xs:List Int) (hl:xs.length≤1000000) (hf:∀v,PureFn Tryz.prog g [aN v] (aB (f v))):PureFn Tryz.prog 147 [aI xs,.fn g []] (aB (xs.any f)):=by
 refine AC Tryz.func147 rfl Tryz.ntmps147 rfl rfl ?_;have h:=indexI_ok g f xs hl hf;have he:=Eg f xs 0 (by omega);(repeat' first|refine qv ?_|apply qn|apply qs|apply qr);refine qc (h) ?_;(repeat' first|refine qv ?_|apply qn|apply qt);exact RetOk.of rfl (AV.Le.bool he)
theorem rgInput1_ok (v:Int):PureFn Tryz.prog 148 [aN v] (aB (decide (v<0∨1000<v))):=by
 refine AC Tryz.func148 rfl Tryz.ntmps148 rfl rfl ?_;(repeat' first|refine qv ?_|apply qn|apply qs|apply qr|refine Fl.skip rfl rfl ?_|apply qt|(refine AG rfl rfl ?_ ?_<;>intro _<;>try(exfalso; omega)))
 all_goals refine RetOk.of rfl (AV.Le.bool ?_)
 all_goals first
  | exact(decide_eq_true (by omega)).symm
  | exact decide_eq_decide.2 (by omega)
theorem rgFits1_ok (v:Int):PureFn Tryz.prog 149 [aN v] (aB (decide (v<0∨1099511627776<v))):=by
 refine AC Tryz.func149 rfl Tryz.ntmps149 rfl rfl ?_;(repeat' first|refine qv ?_|apply qn|apply qs|apply qr|refine Fl.skip rfl rfl ?_|apply qt|(refine AG rfl rfl ?_ ?_<;>intro _<;>try(exfalso; omega)))
 all_goals refine RetOk.of rfl (AV.Le.bool ?_)
 all_goals first
  | exact(decide_eq_true (by omega)).symm
  | exact decide_eq_decide.2 (by omega)
theorem anyOut {lo hi:Int} {xs:List Int}:(xs.any fun v=>decide (v<lo∨hi<v))=false↔∀v∈xs,lo≤v∧v≤hi:=by
 rw[List.any_eq_false];refine⟨fun h v hv=>?_,fun h v hv=>?_⟩
 ·have:=h v hv;simp only[decide_eq_true_eq]at this;omega
 ·have:=h v hv;simp only[decide_eq_true_eq];omega
theorem rgInput_ok (m:MZ) (x:List Int) (hl:x.length≤100000) (h1:0≤m.regs) (b:Bool) (hb:b=true↔OkIn m x):PureFn Tryz.prog 81 [aMz m,aI x] (aB b):=by
 refine AC Tryz.func81 rfl Tryz.ntmps81 rfl rfl ?_;(repeat' first|refine qv ?_|apply qn|apply qs|apply qr|refine qe ?_|refine Fl.skip rfl rfl ?_|apply qt|(refine AG rfl rfl ?_ ?_<;>intro _<;>try(exfalso; omega)))
 ·rename_i h;refine qc (containsI_ok 148 (fun v=>decide (v<0∨1000<v)) x (by omega) rgInput1_ok) ?_;(repeat' first|refine qv ?_|apply qn|apply qt);refine RetOk.of rfl (AV.Le.bool ?_)
  cases b with
  | true=>
   have:=(hb.1 rfl).2;rw[anyOut.2 this]; rfl
  | false=>
   cases hc:x.any fun v=>decide (v<0∨1000<v)with
   | true=>rfl
   | false=>
    have:=hb.2 ⟨by show x.length=m.regs.toNat; omega,anyOut.1 hc⟩
    cases this
 ·rename_i h;refine RetOk.of rfl (AV.Le.bool ?_)
  cases b with
  | false=>rfl
  | true=>have:x.length=m.regs.toNat:=(hb.1 rfl).1; omega
theorem cloneRowI_ok (l:List Int) (hl:l.length≤100000) (hne:l≠[]):IoFn Tryz.prog 82 [aI l] [] (.ret (.row 900)) [(900,.row 1 eI l 3)]:=by
 refine AH Tryz.func82 rfl Tryz.ntmps82 rfl rfl rfl ?_;refine AE ?_;(repeat' first|refine qv ?_|apply qn|apply qr);refine⟨AWP.seq (AWP.seq (AWP.nilTest rfl rfl rfl rfl rfl rfl rfl rfl rfl rfl ?_))⟩;intro b hb
 cases b with
 | true=>exact absurd (hb rfl) hne
 | false=>
  (repeat' first|apply qs|apply qr|refine AF rfl ?_|apply qk);refine Du rfl rfl rfl rfl rfl rfl rfl eI [] rfl rfl rfl rfl (by simp) (AB _) ?_;(repeat' first|refine qv ?_|fail);refine qa (hby:=(by dsimp only[List.length_nil]; omega)) (hm:=(by simp; omega)) (r:=?_);(repeat' first|refine qv ?_|apply qn|apply qt);exact⟨⟨[(900,7)],_,_,AM _ _ _,rfl,AA _,rfl,⟨⟨⟨_,rfl,BLe.row rfl⟩,rfl⟩,trivial⟩,rfl,rfl⟩⟩
abbrev rnB (m:MZ) (a:Int) (rs:List Int):List (AL.Id×Bx):=[(900,.cells [aN m.regs,.sl 4 eIz m.code,aN a,.row 901] 127),(901,.row 1 eI rs 3)]
theorem rnBegin_ok (m:MZ) (a:Int) (rs:List Int) (hl:rs.length≤100000) (hne:rs≠[]):IoFn Tryz.prog 84 [aMz m,aSt a rs] [] (.ret (.ptr 900 0)) (rnB m a rs):=by
 refine AH Tryz.func84 rfl Tryz.ntmps84 rfl rfl rfl ?_;(repeat' first|refine qv ?_|apply qn|apply qs|apply qr|refine qe ?_|fail);refine A9 rfl [(900,10)] (cloneRowI_ok rs hl hne) rfl rfl (AB _) rfl trivial rfl rfl rfl rfl rfl ?_;(repeat' first|refine qv ?_|refine Fl.nil (fun _=>by kernel_rfl) ?_|refine qe ?_|apply qt);exact⟨⟨[(900,13),(901,10)],_,_,AM _ _ _,rfl,AA _,rfl,⟨⟨⟨_,rfl,BLe.cells (AB _)⟩,rfl⟩,⟨⟨_,rfl,BLe.row rfl⟩,rfl⟩,trivial⟩,rfl,rfl⟩⟩
theorem rnOver_ok (m:MZ) (a:Nat) (x:IZ) (rs:List Int) (hx:m.code[Int.toNat (a:Int)]? = some x) (hr:x.op≠3→0≤x.rg∧x.rg<rs.length) (b:Bool) (hb:b=true↔x.op=3∨(x.op=1∧rs[x.rg.toNat]? = some 0)):IoFn Tryz.prog 85 [.ptr 900 0] (rnB m a rs) (.ret (aB b)) (rnB m a rs):=by
 refine AH Tryz.func85 rfl Tryz.ntmps85 rfl rfl rfl ?_
 have ha:(a:Int)<m.code.length:=by have:=(List.getElem?_eq_some_iff.1 hx).1; omega
 by_cases h3:x.op=3
 ·rw[hb.2 (.inl h3)];(repeat' first|refine qv ?_|apply qn|refine Fl.nil (fun _=>by kernel_rfl) ?_|apply qs|apply qr|refine qe ?_|refine Fl.skip rfl rfl ?_|apply qt|refine qK ?_|(refine AG rfl rfl ?_ ?_<;>intro _<;>try(exfalso; omega)));exact⟨⟨[],_,_,AM _ _ _,rfl,AA _,rfl,⟨⟨⟨_,rfl,BLe.cells (AB _)⟩,rfl⟩,⟨⟨_,rfl,BLe.row rfl⟩,rfl⟩,trivial⟩,rfl,rfl⟩⟩
 ·obtain⟨r0,r1⟩:=hr h3;(repeat' first|refine qv ?_|apply qn|refine Fl.nil (fun _=>by kernel_rfl) ?_|apply qs|apply qr|refine qe ?_|refine Fl.skip rfl rfl ?_|apply qt|refine qK ?_|refine A8 rfl rfl rfl rfl rfl rfl rfl rfl (by omega) (by first|omega|(simp; omega)) ?_|(refine Fl.rld rfl rfl rfl rfl rfl rfl rfl (fun _=>rfl) (fun _=>rfl) (by first|omega|(simp; omega)) ?_; intro _ _)|(refine AG rfl rfl ?_ ?_<;>intro _<;>try(exfalso; omega)))
  ·rename_i h1 y hy;refine⟨⟨[],_,_,AM _ _ _,rfl,AV.Le.bool ?_,rfl,⟨⟨⟨_,rfl,BLe.cells (AB _)⟩,rfl⟩,⟨⟨_,rfl,BLe.row rfl⟩,rfl⟩,trivial⟩,rfl,rfl⟩⟩;refine dec_of hb ⟨fun h => .inr ⟨h1,by rw[hy,h]⟩,fun h=>?_⟩;rcases h with h|⟨_,h⟩
   ·exact absurd h h3
   ·rw[hy]at h; injection h
  ·rename_i h1;refine⟨⟨[],_,_,AM _ _ _,rfl,AV.Le.bool ?_,rfl,⟨⟨⟨_,rfl,BLe.cells (AB _)⟩,rfl⟩,⟨⟨_,rfl,BLe.row rfl⟩,rfl⟩,trivial⟩,rfl,rfl⟩⟩;refine(Bool.eq_false_iff.2 fun h=>?_).symm;rcases hb.1 h with k|k
   ·exact h3 k
   ·exact h1 k.1
theorem rnInc_ok (m:MZ) (a:Nat) (x:IZ) (rs:List Int) (v:Int) (hx:m.code[Int.toNat (a:Int)]? = some x) (ho:x.op=0) (hr:0≤x.rg∧x.rg<rs.length) (hv:rs[x.rg.toNat]? = some v) (h0:0≤v) (h1:v<1099511627776):IoFn Tryz.prog 86 [.ptr 900 0] (rnB m a rs) (.ret (aB true)) (rnB m x.nx (rs.set x.rg.toNat (v+1))):=by
 refine AH Tryz.func86 rfl Tryz.ntmps86 rfl rfl rfl ?_
 have ha:(a:Int)<m.code.length:=by have:=(List.getElem?_eq_some_iff.1 hx).1; omega
 obtain⟨r0,r1⟩:=hr;(repeat' first|refine qv ?_|apply qn|refine Fl.nil (fun _=>by kernel_rfl) ?_|apply qs|apply qr|refine qe ?_|apply qb|refine qK ?_|refine A8 rfl rfl rfl rfl rfl rfl rfl rfl (by omega) (by first|omega|(simp; omega)) ?_|(refine AG rfl rfl ?_ ?_<;>intro _<;>try(exfalso; omega)));refine Fl.ncR rfl rfl rfl rfl ?_;refine Do rfl rfl rfl rfl rfl rfl rfl (fun _=>rfl) (fun _=>rfl) hv ?_;(repeat' first|refine qv ?_|apply qn|apply qs|apply qr|(refine AD rfl ?_ ?_<;>intro _<;>try(exfalso; omega)));refine Fl.ncR rfl rfl rfl rfl ?_;refine Do rfl rfl rfl rfl rfl rfl rfl (fun _=>rfl) (fun _=>rfl) hv ?_;(repeat' first|refine qw ?_|fail);refine Fl.ncR rfl rfl rfl rfl ?_;(repeat' first|refine qv ?_|apply qn|apply qs|apply qr|refine qe ?_|apply qt|refine Bb rfl rfl rfl rfl rfl rfl rfl rfl rfl rfl rfl (AB _) rfl (by first|omega|(simp; omega)) ?_|fail);exact⟨⟨[],_,_,AM _ _ _,rfl,AA _,rfl,⟨⟨⟨_,rfl,BLe.cells (AB _)⟩,rfl⟩,⟨⟨_,rfl,BLe.row rfl⟩,rfl⟩,trivial⟩,rfl,rfl⟩⟩
theorem rnDec_ok (m:MZ) (a:Nat) (x:IZ) (rs:List Int) (v:Int) (hx:m.code[Int.toNat (a:Int)]? = some x) (ho:x.op=1) (hr:0≤x.rg∧x.rg<rs.length) (hv:rs[x.rg.toNat]? = some v) (h0:0≤v) (h1:v<1099511627776):IoFn Tryz.prog 86 [.ptr 900 0] (rnB m a rs) (.ret (aB true)) (rnB m x.nx (rs.set x.rg.toNat (v-1))):=by
 refine AH Tryz.func86 rfl Tryz.ntmps86 rfl rfl rfl ?_
 have ha:(a:Int)<m.code.length:=by have:=(List.getElem?_eq_some_iff.1 hx).1; omega
 obtain⟨r0,r1⟩:=hr;(repeat' first|refine qv ?_|apply qn|refine Fl.nil (fun _=>by kernel_rfl) ?_|apply qs|apply qr|refine qe ?_|refine Fl.skip rfl rfl ?_|refine AF rfl ?_|(refine AD rfl ?_ ?_<;>intro _<;>try(exfalso; omega))|apply qb|refine qK ?_|refine A8 rfl rfl rfl rfl rfl rfl rfl rfl (by omega) (by first|omega|(simp; omega)) ?_|(refine AG rfl rfl ?_ ?_<;>intro _<;>try(exfalso; omega)));refine Fl.ncR rfl rfl rfl rfl ?_;refine Do rfl rfl rfl rfl rfl rfl rfl (fun _=>rfl) (fun _=>rfl) hv ?_;(repeat' first|refine qw ?_|fail);refine Fl.ncR rfl rfl rfl rfl ?_;(repeat' first|refine qv ?_|apply qn|apply qs|apply qr|refine qe ?_|apply qt|refine Bb rfl rfl rfl rfl rfl rfl rfl rfl rfl rfl rfl (AB _) rfl (by first|omega|(simp; omega)) ?_|fail);exact⟨⟨[],_,_,AM _ _ _,rfl,AA _,rfl,⟨⟨⟨_,rfl,BLe.cells (AB _)⟩,rfl⟩,⟨⟨_,rfl,BLe.row rfl⟩,rfl⟩,trivial⟩,rfl,rfl⟩⟩
theorem rnJmp_ok (m:MZ) (a:Nat) (x:IZ) (rs:List Int) (v:Int) (hx:m.code[Int.toNat (a:Int)]? = some x) (ho:x.op=2) (hr:0≤x.rg∧x.rg<rs.length) (hv:rs[x.rg.toNat]? = some v) (h0:0≤v):IoFn Tryz.prog 86 [.ptr 900 0] (rnB m a rs) (.ret (aB true)) (rnB m (if v=0 then x.zr else x.nx) rs):=by
 refine AH Tryz.func86 rfl Tryz.ntmps86 rfl rfl rfl ?_
 have ha:(a:Int)<m.code.length:=by have:=(List.getElem?_eq_some_iff.1 hx).1; omega
 obtain⟨r0,r1⟩:=hr;(repeat' first|refine qv ?_|apply qn|refine Fl.nil (fun _=>by kernel_rfl) ?_|apply qs|apply qr|refine qe ?_|refine Fl.skip rfl rfl ?_|refine AF rfl ?_|(refine AD rfl ?_ ?_<;>intro _<;>try(exfalso; omega))|apply qb|refine qK ?_|refine A8 rfl rfl rfl rfl rfl rfl rfl rfl (by omega) (by first|omega|(simp; omega)) ?_|(refine AG rfl rfl ?_ ?_<;>intro _<;>try(exfalso; omega)));refine Fl.ncR rfl rfl rfl rfl ?_;refine Do rfl rfl rfl rfl rfl rfl rfl (fun _=>rfl) (fun _=>rfl) hv ?_;(repeat' first|refine qv ?_|apply qn|apply qs|apply qr|refine qe ?_|(refine AD rfl ?_ ?_<;>intro _<;>try(exfalso; omega))|apply qk|apply qt)
 ·rename_i h;rw[if_pos h];exact⟨⟨[],_,_,AM _ _ _,rfl,AA _,rfl,⟨⟨⟨_,rfl,BLe.cells (AB _)⟩,rfl⟩,⟨⟨_,rfl,BLe.row rfl⟩,rfl⟩,trivial⟩,rfl,rfl⟩⟩
 ·rename_i h;rw[if_neg h];exact⟨⟨[],_,_,AM _ _ _,rfl,AA _,rfl,⟨⟨⟨_,rfl,BLe.cells (AB _)⟩,rfl⟩,⟨⟨_,rfl,BLe.row rfl⟩,rfl⟩,trivial⟩,rfl,rfl⟩⟩
end Go.Proofs.YtmmfloplhopioaaGreat
/- The system of a machine and an input: its links; that they hold is the history's equations. Plain. -/
namespace Go.AL
abbrev addZ (m:MZ) (x:List Int):Int:=m.l+sumL x
abbrev LkU:=Int×List (List UT)
def hsA (m:MZ) (x:List Int):List LkU:=[(2,[conU m.V 2,An [] [varU m.V 0,conU m.V (addZ m x)],varU m.V 1]),(2,[hsQ m.V,An [] [varU m.V 0,conU m.V 1],Bp m.V]),(0,[subL (varU m.V 2) (Aj m.V (fun _=>true) 0 m.code (conU m.V 0))])]
def hsB (m:MZ) (i:Nat):LkU:=(3,[varU m.V (3+i),varU m.V 2])
def hsC (m:MZ):List LkU:=[(3,[conU m.V 1,varU m.V 3]),(2,[hsQ m.V,varU m.V 0,Aj m.V (fun x=>decide (x.op=3)) 0 m.code (conU m.V 0)])]
def hsD (m:MZ) (j:Nat):LkU:=(3,[varU m.V (3+m.l+j),A0 (conU m.V 1) [subL (varU m.V 1) (conU m.V 1),varU m.V 2]])
def Ai (m:MZ) (i:Nat):List UT:=A0 (conU m.V 1) [hsQ m.V,varU m.V (3+i)]
def C5 (m:MZ) (x:IZ):List UT:=subL (An [] [varU m.V (3+x.nx.toNat),A0 (conU m.V 1) [hsQ m.V,varU m.V 2]]) (A0 (conU m.V 1) [conU m.V 2,varU m.V (3+m.l+x.rg.toNat)])
def hsGo (m:MZ) (i:Nat) (x:IZ):List LkU:=
  if x.op=3 then[]else if x.op=2∧x.zr≠x.nx then[(3,[Ai m i,An [] [varU m.V (3+x.nx.toNat),varU m.V (3+x.zr.toNat)]]),(3,[Ai m i,C5 m x])]else[(3,[Ai m i,varU m.V (3+x.nx.toNat)])]
def BI (m:MZ) (op:Int) (j:Nat):List UT:=A0 (conU m.V 1) [hsQ m.V,Aj m.V (fun x=>decide (x.op=op)&&decide (x.rg=j)) 0 m.code (conU m.V 0)]
def hsL (m:MZ) (j:Nat):List UT:=An [] [varU m.V (3+m.l+j),A0 (conU m.V 1) [varU m.V (3+m.l+m.R+j),Bp m.V]]
def hsR0 (m:MZ) (x:List Int) (j:Nat):List UT:=An [] [conU m.V (x.getD j 0),A0 (conU m.V 1) [hsQ m.V,varU m.V (3+m.l+j)],BI m 0 j]
def hsF (m:MZ) (x:List Int) (j:Nat):LkU:=(0,[subL (hsL m j) (subL (hsR0 m x j) (BI m 1 j))])
def hsK (m:MZ) (x:List Int):List LkU:=hsA m x++(List.range m.l).map (hsB m)++hsC m++(List.range m.R).map (hsD m)++(List.range m.l).flatMap (fun i=>hsGo m i (m.at i))++(List.range m.R).map (hsF m x)
def hsS (m:MZ) (x:List Int):SZ:=⟨m.V,(hsK m x).map fun s=>BF m.V s.1 s.2⟩
/-! sizes -/
theorem OkMZ.V6 {m:MZ} (h:OkMZ m):6≤m.V:=by
 have:=h.l1;have:=h.r1;show 6≤3+m.code.length+2*m.regs.toNat;have:1≤m.code.length:=h.l1;omega
theorem sumL_in:∀ {l:List Int},(∀n∈l,0≤n∧n≤1000)→0≤sumL l∧sumL l≤1000*l.length
 | [],_=>by simp[sumL]
 | x::l,h=>by
  have:=sumL_in (l:=l) fun n hn=>h n (by simp[hn]);have:=h x (by simp);simp only[sumL,List.length_cons];omega
theorem addZ_b {m:MZ} {x:List Int} (ok:OkMZ m) (hx:OkIn m x):1≤addZ m x∧addZ m x≤4015∧(m.l:Int)≤addZ m x:=by
 obtain⟨h1,h2⟩:=sumL_in hx.2;have e:=hx.1;have:=ok.l1;have:=ok.l15;have:=ok.r4
 have hR:m.R≤4:=by show m.regs.toNat≤4; omega
 show 1≤(m.l:Int)+sumL x∧(m.l:Int)+sumL x≤4015∧(m.l:Int)≤(m.l:Int)+sumL x;rw[e]at h2;omega
section
variable {m:MZ} {x:List Int}
theorem sz_here (ok:OkMZ m) {i:Nat} (hi:i<m.l):SzU m.V 2 2 1 (Ai m i):=by
 have a:=(Ba ok.V6).1;have b:=AN (V:=m.V) (i:=3+i) (by show 3+i<3+m.l+2*m.R; omega);unfold Ai;rw[BL a];exact(a.mul b).mono (by omega) (by decide) (by omega)
theorem DZ (ok:OkMZ m) (c:IZ→Bool):SzU m.V 1 15 16 (Aj m.V c 0 m.code (conU m.V 0)):=(hsSum0_sz c).mono (by omega) ok.l15 (by have:=ok.l15; omega)
theorem sz_does (ok:OkMZ m) (op:Int) (j:Nat):SzU m.V 2 30 16 (BI m op j):=by
 have a:=(Ba ok.V6).1;have b:=DZ ok (fun x=>decide (x.op=op)&&decide (x.rg=j));unfold BI;rw[BL a];exact(a.mul b).mono (by omega) (by decide) (by omega)
theorem sz_L (ok:OkMZ m) {j:Nat} (hj:j<m.R):SzU m.V 3 5 4 (hsL m j)∧SzU m.V 3 4 3 (A0 (conU m.V 1) [varU m.V (3+m.l+m.R+j),Bp m.V]):=by
 have a:=AN (V:=m.V) (i:=3+m.l+j) (by show 3+m.l+j<3+m.l+2*m.R; omega);have b:=AN (V:=m.V) (i:=3+m.l+m.R+j) (by show 3+m.l+m.R+j<3+m.l+2*m.R; omega);have c:=(Cz ok.V6).1
 have d:SzU m.V 3 4 3 (A0 (conU m.V 1) [varU m.V (3+m.l+m.R+j),Bp m.V]):=by
  rw[BL b]; exact(b.mul c).mono (by omega) (by decide) (by omega)
 refine⟨?_,d⟩;unfold hsL;rw[CL a d];exact(a.add d).mono (by omega) (by decide) (by omega)
theorem getD_in (hx:OkIn m x) (j:Nat):0≤x.getD j 0∧x.getD j 0≤1000:=by
 rw[List.getD_eq_getElem?_getD]
 cases h:x[j]? with
 | none=>simp
 | some n=>exact hx.2 n (List.mem_of_getElem? h)
theorem sz_R0 (ok:OkMZ m) (hx:OkIn m x) {j:Nat} (hj:j<m.R):SzU m.V 2 3000 48 (hsR0 m x j)∧Cc m.V [] [conU m.V (x.getD j 0),A0 (conU m.V 1) [hsQ m.V,varU m.V (3+m.l+j)],BI m 0 j]=true∧SzU m.V 2 2 1 (A0 (conU m.V 1) [hsQ m.V,varU m.V (3+m.l+j)]):=by
 have hb:=getD_in hx j;have a:=(SzU.con m.V (x.getD j 0)).mono (d':=2) (c':=1000) (n':=16) (by omega) (by omega) (by omega);have q:=(Ba ok.V6).1;have v:=AN (V:=m.V) (i:=3+m.l+j) (by show 3+m.l+j<3+m.l+2*m.R; omega)
 have b:SzU m.V 2 2 1 (A0 (conU m.V 1) [hsQ m.V,varU m.V (3+m.l+j)]):=by
  rw[BL q]; exact(q.mul v).mono (by omega) (by decide) (by omega)
 have d:=sz_does ok 0 j
 obtain⟨k1,k2⟩:=okSums_sz (V:=m.V) (d:=2) (cp:=1000) (np:=16) (by omega) [conU m.V (x.getD j 0),A0 (conU m.V 1) [hsQ m.V,varU m.V (3+m.l+j)],BI m 0 j] ((SzU.nil m.V).mono (d':=2) (c':=0) (n':=0) (by omega) (by omega) (by omega)) (fun p hp=>by
  simp only[List.mem_cons,List.not_mem_nil,or_false]at hp;rcases hp with rfl|rfl|rfl
  ·exact a
  ·exact b.mono (by omega) (by omega) (by omega)
  ·exact d.mono (by omega) (by omega) (by omega)) (by simp only[List.length_cons,List.length_nil]; omega) (by simp only[List.length_cons,List.length_nil]; omega)
 exact⟨k2.mono (by omega) (by simp only[List.length_cons,List.length_nil]; omega) (by simp only[List.length_cons,List.length_nil]; omega),k1,b⟩
def SmLk (V:Nat) (s:LkU):Prop:=BW s.1≠0∧(s.2.length:Int)=BW s.1∧∀p∈s.2,SzU V 4 10000 200 p
theorem SmLk.of {V:Nat} {kind:Int} {ls:List (List UT)} (h1:BW kind≠0) (h2:(ls.length:Int)=BW kind) (h:∀p∈ls,SzU V 4 10000 200 p):SmLk V (kind,ls):=⟨h1,h2,h⟩
theorem SzU.big {V d c n:Nat} {p:List UT} (h:SzU V d c n p) (h1:d≤4) (h2:c≤10000) (h3:n≤200):SzU V 4 10000 200 p:=h.mono h1 h2 h3
theorem DC (ok:OkMZ m) (hx:OkIn m x):∀s∈hsK m x,SmLk m.V s:=by
 obtain⟨s1,s2,s3⟩:=addZ_b ok hx;have hV6:=ok.V6;have v:=fun(i:Nat) (hi:i<m.V)=>(AN (V:=m.V) hi).big (by omega) (by omega) (by omega);have q:=(Ba hV6).1;have al:=(Cz hV6).1;have hVe:m.V=3+m.l+2*m.R:=rfl
 have sadd:∀k:Int,0≤k→k≤5000→SzU m.V 4 10000 200 (An [] [varU m.V 0,conU m.V k]):=fun k k0 k1=>by
  have a:=AN (V:=m.V) (i:=0) (by omega);have b:=SzU.con m.V k;rw[CL a b];exact(a.add b).big (by omega) (by omega) (by omega)
 intro l hl;simp only[hsK,List.mem_append,List.mem_map,List.mem_flatMap,List.mem_range]at hl;rcases hl with((((hl|⟨i,hi,rfl⟩)|hl)|⟨j,hj,rfl⟩)|⟨i,hi,hl⟩)|⟨j,hj,rfl⟩
 ·simp only[hsA,List.mem_cons,List.not_mem_nil,or_false]at hl;rcases hl with rfl|rfl|rfl
  ·refine SmLk.of (by decide) rfl ?_;simp only[List.forall_mem_cons];exact⟨(SzU.con m.V 2).big (by omega) (by decide) (by omega),sadd _ (by omega) (by omega),v 1 (by omega),by simp⟩
  ·refine SmLk.of (by decide) rfl ?_;simp only[List.forall_mem_cons];exact⟨q.big (by omega) (by omega) (by omega),sadd 1 (by omega) (by omega),al.big (by omega) (by omega) (by omega),by simp⟩
  ·refine SmLk.of (by decide) rfl ?_;simp only[List.forall_mem_cons];exact⟨((AN (V:=m.V) (i:=2) (by omega)).sub (DZ ok _)).big (by omega) (by omega) (by omega),by simp⟩
 ·unfold hsB;refine SmLk.of (by decide) rfl ?_;simp only[List.forall_mem_cons];exact⟨v _ (by omega),v 2 (by omega),by simp⟩
 ·simp only[hsC,List.mem_cons,List.not_mem_nil,or_false]at hl;rcases hl with rfl|rfl
  ·refine SmLk.of (by decide) rfl ?_;simp only[List.forall_mem_cons];exact⟨(SzU.con m.V 1).big (by omega) (by decide) (by omega),v 3 (by omega),by simp⟩
  ·refine SmLk.of (by decide) rfl ?_;simp only[List.forall_mem_cons];exact⟨q.big (by omega) (by omega) (by omega),v 0 (by omega),(DZ ok _).big (by omega) (by omega) (by omega),by simp⟩
 ·unfold hsD;refine SmLk.of (by decide) rfl ?_;simp only[List.forall_mem_cons];have a:=(AN (V:=m.V) (i:=1) (by omega)).sub (SzU.con m.V 1);refine⟨v _ (by omega),?_,by simp⟩;rw[BL a];exact(a.mul (AN (V:=m.V) (i:=2) (by omega))).big (by omega) (by decide) (by omega)
 ·have hh:=(sz_here ok hi).big (by omega) (by omega) (by omega);unfold hsGo at hl;split at hl
  ·simp at hl
  ·rename_i h3;rcases ok.ins i hi with k|⟨⟨a1,a2⟩,⟨b1,b2⟩,k⟩
   ·rw[k]at h3; exact absurd rfl h3
   have hR:((m.R:Nat):Int)=m.regs:=by have:=ok.r1; show((m.regs.toNat:Nat):Int)=_; omega
   split at hl
   ·rename_i h2
    have hz:0≤(m.at i).zr∧(m.at i).zr<m.l:=by
     rcases k with k|k
     ·exact⟨k.2.1,k.2.2.1⟩
     ·omega
    simp only[List.mem_cons,List.not_mem_nil,or_false]at hl;have vn:=AN (V:=m.V) (i:=3+(m.at i).nx.toNat) (by omega);have vz:=AN (V:=m.V) (i:=3+(m.at i).zr.toNat) (by omega);have vr:=AN (V:=m.V) (i:=3+m.l+(m.at i).rg.toNat) (by omega);have v2:=AN (V:=m.V) (i:=2) (by omega);rcases hl with rfl|rfl
    ·refine SmLk.of (by decide) rfl ?_;simp only[List.forall_mem_cons];refine⟨hh,?_,by simp⟩;rw[CL vn vz];exact(vn.add vz).big (by omega) (by omega) (by omega)
    ·refine SmLk.of (by decide) rfl ?_;simp only[List.forall_mem_cons];refine⟨hh,?_,by simp⟩;have e1:=q.mul v2;have e2:=(SzU.con m.V 2).mul vr;unfold C5;rw[BL q,BL (SzU.con m.V 2),CL vn e1];exact((vn.add e1).sub e2).big (by omega) (by decide) (by omega)
   ·simp only[List.mem_cons,List.not_mem_nil,or_false]at hl;subst hl;refine SmLk.of (by decide) rfl ?_;simp only[List.forall_mem_cons];exact⟨hh,v _ (by omega),by simp⟩
 ·unfold hsF;refine SmLk.of (by decide) rfl ?_;simp only[List.forall_mem_cons];exact⟨((sz_L ok hj).1.sub ((sz_R0 ok hx hj).1.sub (sz_does ok 1 j))).big (by omega) (by omega) (by omega),by simp⟩
theorem SmLk.ok {V:Nat} (hV:V≤32) {s:LkU} (h:SmLk V s):OkL V (BF V s.1 s.2)∧WL (BF V s.1 s.2):=by
 have:=linkU_sz hV (by omega) (by decide) (by omega) h.1 h.2.1 h.2.2;exact⟨this.1,this.2.1⟩
theorem hsS_w (ok:OkMZ m) (hx:OkIn m x):WS (hsS m x):=fun l hl=>by
 obtain⟨s,hs,rfl⟩:=List.mem_map.1 hl;exact((DC ok hx s hs).ok (by have:=ok.V32; omega)).2
end
end Go.AL
/- history's maker: put, sum. -/
namespace Go.AL
abbrev aSz (m:MZ) (x:List Int):AV := .agg [aN m.regs,.sl 4 eIz m.code,aI x,aN m.V,aN (addZ m x)]
end Go.AL
namespace Go.Proofs.YtmmfloplhopioaaGreat
open Go.AL
theorem Bw (m:MZ) (x:List Int) (i:Nat) (hi:i≤1000):PureFn Tryz.prog 96 [aSz m x,aN i] (aN ((3+i:Nat):Int)):=by
 refine AC Tryz.func96 rfl Tryz.ntmps96 rfl rfl ?_;(repeat' first|refine qv ?_|apply qn|apply qs|apply qr|refine qw ?_|refine qe ?_|apply qt);exact RetOk.of rfl (AV.Le.int (by omega))
theorem szReg_ok (m:MZ) (x:List Int) (i:Nat) (hl:m.code.length≤1000) (hi:i≤1000):PureFn Tryz.prog 98 [aSz m x,aN i] (aN ((3+m.l+i:Nat):Int)):=by
 refine AC Tryz.func98 rfl Tryz.ntmps98 rfl rfl ?_;have hl2:m.l=m.code.length:=rfl;(repeat' first|refine qv ?_|apply qn|apply qs|apply qr|refine qw ?_|refine qe ?_|apply qt);exact RetOk.of rfl (AV.Le.int (by omega))
theorem szEnd_ok (m:MZ) (x:List Int) (i:Nat) (hl:m.code.length≤1000) (h0:0≤m.regs) (h4:m.regs≤4) (hi:i≤1000):PureFn Tryz.prog 100 [aSz m x,aN i] (aN ((3+m.l+m.R+i:Nat):Int)):=by
 refine AC Tryz.func100 rfl Tryz.ntmps100 rfl rfl ?_;have hl2:m.l=m.code.length:=rfl;have hR:m.R=m.regs.toNat:=rfl;(repeat' first|refine qv ?_|apply qn|apply qs|apply qr|refine qw ?_|refine qe ?_|apply qt);exact RetOk.of rfl (AV.Le.int (by omega))
abbrev kBr (r:AL.Id) (m:MZ) (x:List Int) (q al:PZ) (L:List LZ):List (AL.Id×Bx):=[(900,.cells [aN m.regs,.sl 4 eIz m.code,aI x,aN m.V,aN (addZ m x),aN m.V,aN q.vars,.sl 3 eT q.terms,aN al.vars,.sl 3 eT al.terms,.row r] 144),(r,.row 3 eL L 99)]
abbrev kB (m:MZ) (x:List Int) (q al:PZ) (L:List LZ):List (AL.Id×Bx):=kBr 901 m x q al L
theorem Cw (m:MZ) (hm:OkMZ m) (x:List Int) (q al:PZ) (L:List LZ) (hL:L.length≤10000) (kind:Int) (ls:List (List UT)) (h:SmLk m.V (kind,ls)):IoGn Tryz.prog 107 [.ptr 900 0,aN kind,.sl 2 eP (ls.map (mkP m.V))] (kB m x q al L) (.tup []) (kBr 902 m x q al (L++[BF m.V kind ls])):=by
 refine CG Tryz.func107 rfl Tryz.ntmps107 rfl rfl ?_;have hV:=hm.V32
 have h3:BW kind≤3:=by unfold BW; repeat' split<;>omega
 have hll:(ls.length:Int)=BW kind:=h.2.1;have hsz:∀p∈ls,SzU m.V 4 10000 200 p:=h.2.2;(repeat' first|refine qv ?_|apply qr);refine qc (kLink_ok m.V kind ls (by omega) (by omega) fun p hp=>⟨by have:=(hsz p hp).ln; omega,fun u hu=>((hsz p hp).ex u hu).1⟩) ?_;refine ql eL [BF m.V kind ls] ?_;refine qa (hby:=(by dsimp only[List.length_nil,List.length_cons]; omega)) (hm:=(by simp; omega)) (r:=?_);(repeat' first|refine qv ?_|refine Fl.nil (fun _=>by kernel_rfl) ?_|refine qe ?_|fail);exact⟨⟨[(902,19)],_,_,AM _ _ _,rfl,AA _,rfl,⟨⟨⟨_,rfl,BLe.cells (AB _)⟩,rfl⟩,⟨⟨_,rfl,BLe.row rfl⟩,rfl⟩,trivial⟩,rfl,rfl⟩⟩
theorem FF {V:Nat} {c:IZ→Bool} {code:List IZ} {i:Nat} {y:IZ} (h:code[i]? = some y) (acc:List UT):Aj V c i (code.drop i) acc=Aj V c (i+1) (code.drop (i+1)) (if c y then An [] [acc,varU V (3+i)]else acc):=by
 have hi:=(List.getElem?_eq_some_iff.1 h).1;rw[List.drop_eq_getElem_cons hi,(List.getElem?_eq_some_iff.1 h).2];rfl
set_option maxHeartbeats 1000000 in
theorem mkSum_ok (m:MZ) (hm:OkMZ m) (x:List Int) (q al:PZ) (L:List LZ) (g:FuncId) (c:IZ→Bool) (hg:∀y,PureFn Tryz.prog g [aIz y] (aB (c y))):IoFn Tryz.prog 109 [.ptr 900 0,.fn g []] (kB m x q al L) (.ret (aP (mkP m.V (Aj m.V c 0 m.code (conU m.V 0))))) (kB m x q al L):=by
 refine AH Tryz.func109 rfl Tryz.ntmps109 rfl rfl rfl ?_;have hV:=hm.V32;have hl:m.code.length≤15:=hm.l15;have hVe:m.V=3+m.code.length+2*m.R:=rfl;(repeat' first|refine qv ?_|apply qn|apply qs|apply qr|refine qe ?_|fail);refine qc (EK m.V 0 (by omega) (by omega) (by omega)) ?_;(repeat' first|refine qv ?_|apply qn|apply qs|apply qr|refine qe ?_|apply qb);refine AWP.loop (G:=Nat×List UT) (fun(i,out)=>i≤m.code.length∧SzU m.V 1 i (1+i) out∧Aj m.V c i (m.code.drop i) out=Aj m.V c 0 m.code (conU m.V 0)) (fun(i,out)=>AO [900,901] [(0,.ptr 900 0),(1,.fn g []),(4,.ptr 4 0),(5,.ptr 5 0),(18,.sl 4 eIz m.code),(19,aN m.code.length),(20,aN i)] (kB m x q al L++[(5,.cells (eP (mkP m.V out)) 105),(4,.cells [aN 0,.v (.slice none 0 0)] 105)])) (fun(i,_)=>m.code.length-i) (0,conU m.V 0) ⟨by omega,(SzU.con m.V 0).mono (by omega) (by decide) (by omega),rfl⟩ ?_ ?_
 ·refine Ent.of [] ?_ ?_ rfl rfl;(repeat' first|exact True.intro|refine⟨⟨AA _,rfl⟩,?_⟩|refine⟨⟨⟨_,rfl,BLe.cells (AB _)⟩,rfl⟩,?_⟩|refine⟨⟨⟨_,rfl,BLe.row rfl⟩,rfl⟩,?_⟩|fail)
 ·intro⟨i,out⟩ ⟨k0,k1,k2⟩;have hlen:=k1.ln;(repeat' first|refine qv ?_|apply qn|apply qs|apply qr|refine qe ?_|(refine AD rfl ?_ ?_<;>intro _<;>try(exfalso; omega))|apply qb|apply qk|apply qx|apply qt|(refine Ay rfl rfl rfl rfl rfl rfl rfl rfl (by omega) (by omega) ?_; intro _ _)|fail)
  ·rename_i hi y hy;rw[Int.toNat_natCast]at hy;rw[FF hy]at k2;refine C3 rfl rfl (hg y) rfl rfl rfl (AB _) ?_;(repeat' first|refine qv ?_|apply qn|apply qr|refine qw ?_|apply qk|(refine BQ rfl ?_ ?_<;>intro _))
   ·rename_i hc;rw[if_pos hc]at k2;have v:=AN (V:=m.V) (i:=3+i) (by omega);refine qc (Bw m x i (by omega)) ?_;refine qc (CB m.V (3+i) (by omega) (by omega)) ?_;refine ql eP [mkP m.V out,mkP m.V (varU m.V (3+i))] ?_;refine qc (Dk m.V (by omega) [out,varU m.V (3+i)] (by simp) (Dj k1 v (by omega) (by omega) (by omega) (by omega))) ?_;(repeat' first|refine qv ?_|apply qn|refine Fl.nil (fun _=>by kernel_rfl) ?_|apply qr|refine qw ?_|refine qe ?_|fail);refine LoopEnd.of (i+1,An [] [out,varU m.V (3+i)]) ⟨by omega,?_,k2⟩ (by simp only; omega) ?_
    ·rw[CL k1 v];exact(k1.add v).mono (by omega) (by omega) (by omega)
    ·refine Ent.of [] ?_ ?_ rfl rfl;(repeat' first|exact True.intro|refine⟨⟨AA _,rfl⟩,?_⟩|refine⟨⟨⟨_,rfl,BLe.cells (AB _)⟩,rfl⟩,?_⟩|refine⟨⟨⟨_,rfl,BLe.row rfl⟩,rfl⟩,?_⟩|fail)
   ·rename_i hc;rw[if_neg (by rw[hc]; simp)]at k2;refine LoopEnd.of (i+1,out) ⟨by omega,k1.mono (by omega) (by omega) (by omega),k2⟩ (by simp only; omega) ?_;refine Ent.of [] ?_ ?_ rfl rfl;(repeat' first|exact True.intro|refine⟨⟨AA _,rfl⟩,?_⟩|refine⟨⟨⟨_,rfl,BLe.cells (AB _)⟩,rfl⟩,?_⟩|refine⟨⟨⟨_,rfl,BLe.row rfl⟩,rfl⟩,?_⟩|fail)
  ·rename_i hi;rw[List.drop_of_length_le (by omega)]at k2;rw[←k2];exact⟨⟨[],_,_,AM _ _ _,rfl,AA _,rfl,⟨⟨⟨_,rfl,BLe.cells (AB _)⟩,rfl⟩,⟨⟨_,rfl,BLe.row rfl⟩,rfl⟩,trivial⟩,rfl,rfl⟩⟩
end Go.Proofs.YtmmfloplhopioaaGreat
/- history's maker: does, masks, goes. -/
namespace Go.AL
abbrev lkZ (m:MZ) (s:LkU):LZ:=BF m.V s.1 s.2
theorem hsK_A {m:MZ} {x:List Int} {s:LkU} (h:s∈hsA m x):s∈hsK m x:=by simp[hsK,h]
theorem hsK_B {m:MZ} {x:List Int} {i:Nat} (h:i<m.l):hsB m i∈hsK m x:=by
 have:hsB m i∈(List.range m.l).map (hsB m):=List.mem_map.2 ⟨i,List.mem_range.2 h,rfl⟩;simp only[hsK,List.mem_append];exact .inl (.inl (.inl (.inl (.inr this))))
theorem hsK_C {m:MZ} {x:List Int} {s:LkU} (h:s∈hsC m):s∈hsK m x:=by
 simp only[hsK,List.mem_append];exact .inl (.inl (.inl (.inr h)))
theorem hsK_D {m:MZ} {x:List Int} {j:Nat} (h:j<m.R):hsD m j∈hsK m x:=by
 have:hsD m j∈(List.range m.R).map (hsD m):=List.mem_map.2 ⟨j,List.mem_range.2 h,rfl⟩;simp only[hsK,List.mem_append];exact .inl (.inl (.inr this))
theorem hsK_G {m:MZ} {x:List Int} {i:Nat} (h:i<m.l) {s:LkU} (hs:s∈hsGo m i (m.at i)):s∈hsK m x:=by
 have:s∈(List.range m.l).flatMap (fun i=>hsGo m i (m.at i)):=List.mem_flatMap.2 ⟨i,List.mem_range.2 h,hs⟩;simp only[hsK,List.mem_append];exact .inl (.inr this)
theorem hsK_F {m:MZ} {x:List Int} {j:Nat} (h:j<m.R):hsF m x j∈hsK m x:=by
 have:hsF m x j∈(List.range m.R).map (hsF m x):=List.mem_map.2 ⟨j,List.mem_range.2 h,rfl⟩;simp only[hsK,List.mem_append];exact .inr this
theorem B7 {α:Type} (L:List α) (f:Nat→α) (i:Nat):L++(List.range (i+1)).map f=L++(List.range i).map f++[f i]:=by
 rw[List.range_succ,List.map_append,List.append_assoc]; rfl
end Go.AL
namespace Go.Proofs.YtmmfloplhopioaaGreat
open Go.AL
theorem mkHalt_ok (y:IZ):PureFn Tryz.prog 163 [aIz y] (aB (decide (y.op=3))):=by
 refine AC Tryz.func163 rfl Tryz.ntmps163 rfl rfl ?_;(repeat' first|refine qv ?_|apply qn|apply qs|apply qr|refine qe ?_|apply qt);exact RetOk.of rfl (AA _)
theorem mkTrue_ok (y:IZ):PureFn Tryz.prog 110 [aIz y] (aB true):=by
 refine AC Tryz.func110 rfl Tryz.ntmps110 rfl rfl ?_;(repeat' first|refine qv ?_|apply qn|apply qs|apply qr|refine qe ?_|apply qt);exact RetOk.of rfl (AA _)
abbrev dB (op:Int) (j:Nat):List (AL.Id×Bx):=[(902,.cells [aN op] 3),(903,.cells [aN j] 3)]
theorem mkIs_ok (op:Int) (j:Nat) (y:IZ):IoFn Tryz.prog 165 ([aIz y]++[.ptr 902 0,.ptr 903 0]) (dB op j) (.ret (aB (decide (y.op=op)&&decide (y.rg=(j:Int))))) (dB op j):=by
 refine AH Tryz.func165 rfl Tryz.ntmps165 rfl rfl rfl ?_;(repeat' first|refine qv ?_|apply qn|apply qs|apply qr|refine qe ?_|refine Fl.skip rfl rfl ?_|apply qt|(refine AG rfl rfl ?_ ?_<;>intro _<;>try(exfalso; omega)))
 ·rename_i h;rw[decide_eq_true h];exact⟨⟨[],_,_,AM _ _ _,rfl,AA _,rfl,⟨⟨⟨_,rfl,BLe.cells (AB _)⟩,rfl⟩,⟨⟨_,rfl,BLe.cells (AB _)⟩,rfl⟩,trivial⟩,rfl,rfl⟩⟩
 ·rename_i h;rw[decide_eq_false h];exact⟨⟨[],_,_,AM _ _ _,rfl,AA _,rfl,⟨⟨⟨_,rfl,BLe.cells (AB _)⟩,rfl⟩,⟨⟨_,rfl,BLe.cells (AB _)⟩,rfl⟩,trivial⟩,rfl,rfl⟩⟩
set_option maxHeartbeats 1000000 in
theorem mkSum2_ok (m:MZ) (hm:OkMZ m) (x:List Int) (q al:PZ) (L:List LZ) (op:Int) (j:Nat):IoFn Tryz.prog 109 [.ptr 900 0,.fn 165 [.ptr 902 0,.ptr 903 0]] (kB m x q al L++dB op j) (.ret (aP (mkP m.V (Aj m.V (fun y=>decide (y.op=op)&&decide (y.rg=(j:Int))) 0 m.code (conU m.V 0))))) (kB m x q al L++dB op j):=by
 refine AH Tryz.func109 rfl Tryz.ntmps109 rfl rfl rfl ?_;have hV:=hm.V32;have hl:m.code.length≤15:=hm.l15;have hVe:m.V=3+m.code.length+2*m.R:=rfl;obtain⟨c,ec⟩:∃c:IZ→Bool,c=fun y=>decide (y.op=op)&&decide (y.rg=(j:Int)):=⟨_,rfl⟩
 have hg:∀y,IoFn Tryz.prog 165 ([aIz y]++[.ptr 902 0,.ptr 903 0]) (dB op j) (.ret (aB (c y))) (dB op j):=fun y=>by rw[ec]; exact mkIs_ok op j y
 rw[←ec];(repeat' first|refine qv ?_|apply qn|apply qs|apply qr|refine qe ?_|fail);refine qc (EK m.V 0 (by omega) (by omega) (by omega)) ?_;(repeat' first|refine qv ?_|apply qn|apply qs|apply qr|refine qe ?_|apply qb);refine AWP.loop (G:=Nat×List UT) (fun(i,out)=>i≤m.code.length∧SzU m.V 1 i (1+i) out∧Aj m.V c i (m.code.drop i) out=Aj m.V c 0 m.code (conU m.V 0)) (fun(i,out)=>AO [900,901,902,903] [(0,.ptr 900 0),(1,.fn 165 [.ptr 902 0,.ptr 903 0]),(4,.ptr 4 0),(5,.ptr 5 0),(18,.sl 4 eIz m.code),(19,aN m.code.length),(20,aN i)] (kB m x q al L++dB op j++[(5,.cells (eP (mkP m.V out)) 105),(4,.cells [aN 0,.v (.slice none 0 0)] 105)])) (fun(i,_)=>m.code.length-i) (0,conU m.V 0) ⟨by omega,(SzU.con m.V 0).mono (by omega) (by decide) (by omega),rfl⟩ ?_ ?_
 ·refine Ent.of [] ?_ ?_ rfl rfl;(repeat' first|exact True.intro|refine⟨⟨AA _,rfl⟩,?_⟩|refine⟨⟨⟨_,rfl,BLe.cells (AB _)⟩,rfl⟩,?_⟩|refine⟨⟨⟨_,rfl,BLe.row rfl⟩,rfl⟩,?_⟩|fail)
 ·intro⟨i,out⟩ ⟨k0,k1,k2⟩;have hlen:=k1.ln;(repeat' first|refine qv ?_|apply qn|apply qs|apply qr|refine qe ?_|(refine AD rfl ?_ ?_<;>intro _<;>try(exfalso; omega))|apply qb|apply qk|apply qx|apply qt|(refine Ay rfl rfl rfl rfl rfl rfl rfl rfl (by omega) (by omega) ?_; intro _ _)|fail)
  ·rename_i hi y hy;rw[Int.toNat_natCast]at hy;rw[FF hy]at k2;refine Fl.ioVR rfl rfl [] (hg y) rfl rfl (AB _) rfl ⟨⟨⟨_,rfl,BLe.cells (AB _)⟩,rfl⟩,⟨⟨_,rfl,BLe.cells (AB _)⟩,rfl⟩,trivial⟩ ⟨rfl,rfl,trivial⟩ rfl rfl rfl rfl ?_;(repeat' first|refine qv ?_|apply qn|apply qr|refine qw ?_|apply qk|(refine BQ rfl ?_ ?_<;>intro _))
   ·rename_i hc;rw[if_pos hc]at k2;have v:=AN (V:=m.V) (i:=3+i) (by omega);refine qc (Bw m x i (by omega)) ?_;refine qc (CB m.V (3+i) (by omega) (by omega)) ?_;refine ql eP [mkP m.V out,mkP m.V (varU m.V (3+i))] ?_;refine qc (Dk m.V (by omega) [out,varU m.V (3+i)] (by simp) (Dj k1 v (by omega) (by omega) (by omega) (by omega))) ?_;(repeat' first|refine qv ?_|apply qn|refine Fl.nil (fun _=>by kernel_rfl) ?_|apply qr|refine qw ?_|refine qe ?_|fail);refine LoopEnd.of (i+1,An [] [out,varU m.V (3+i)]) ⟨by omega,?_,k2⟩ (by simp only; omega) ?_
    ·rw[CL k1 v];exact(k1.add v).mono (by omega) (by omega) (by omega)
    ·refine Ent.of [] ?_ ?_ rfl rfl;(repeat' first|exact True.intro|refine⟨⟨AA _,rfl⟩,?_⟩|refine⟨⟨⟨_,rfl,BLe.cells (AB _)⟩,rfl⟩,?_⟩|refine⟨⟨⟨_,rfl,BLe.row rfl⟩,rfl⟩,?_⟩|fail)
   ·rename_i hc;rw[if_neg (by rw[hc]; simp)]at k2;refine LoopEnd.of (i+1,out) ⟨by omega,k1.mono (by omega) (by omega) (by omega),k2⟩ (by simp only; omega) ?_;refine Ent.of [] ?_ ?_ rfl rfl;(repeat' first|exact True.intro|refine⟨⟨AA _,rfl⟩,?_⟩|refine⟨⟨⟨_,rfl,BLe.cells (AB _)⟩,rfl⟩,?_⟩|refine⟨⟨⟨_,rfl,BLe.row rfl⟩,rfl⟩,?_⟩|fail)
  ·rename_i hi;rw[List.drop_of_length_le (by omega)]at k2;rw[←k2];exact⟨⟨[],_,_,AM _ _ _,rfl,AA _,rfl,⟨⟨⟨_,rfl,BLe.cells (AB _)⟩,rfl⟩,⟨⟨_,rfl,BLe.row rfl⟩,rfl⟩,⟨⟨_,rfl,BLe.cells (AB _)⟩,rfl⟩,⟨⟨_,rfl,BLe.cells (AB _)⟩,rfl⟩,trivial⟩,rfl,rfl⟩⟩
abbrev kQ (m:MZ):PZ:=mkP m.V (hsQ m.V)
abbrev kAll (m:MZ):PZ:=mkP m.V (Bp m.V)
set_option maxHeartbeats 1000000 in
theorem mkMasks_ok (m:MZ) (hm:OkMZ m) (x:List Int) (hx:OkIn m x) (L:List LZ) (hL:L.length≤1000):IoGn Tryz.prog 111 [.ptr 900 0] (kB m x (kQ m) (kAll m) L) (.tup []) (kBr 902 m x (kQ m) (kAll m) (L++(List.range m.l).map (fun i=>lkZ m (hsB m i))++(hsC m).map (lkZ m)++(List.range m.R).map (fun j=>lkZ m (hsD m j)))):=by
 refine CG Tryz.func111 rfl Tryz.ntmps111 rfl rfl ?_;have hV:=hm.V32;have hl:m.code.length≤15:=hm.l15;have hR4:=hm.r4;have hR1:=hm.r1;have hR:m.R=m.regs.toNat:=rfl;have hVe:m.V=3+m.code.length+2*m.R:=rfl;have hl1:1≤m.code.length:=hm.l1;(repeat' first|refine qv ?_|apply qn|apply qs|apply qr|apply qb);refine AWP.loop (G:=Nat) (fun i=>i≤m.code.length) (fun i=>AO [900,901] [(0,.ptr 900 0),(10,aN m.code.length),(11,aN i)] (kBr 902 m x (kQ m) (kAll m) (L++(List.range i).map (fun i=>lkZ m (hsB m i))))) (fun i=>m.code.length-i) 0 (by omega) ?_ ?_
 ·refine Ent.of [(902,901)] ?_ ?_ rfl rfl;(repeat' first|exact True.intro|refine⟨⟨AA _,rfl⟩,?_⟩|refine⟨⟨⟨_,rfl,BLe.cells (AB _)⟩,rfl⟩,?_⟩|refine⟨⟨⟨_,rfl,BLe.row ?_⟩,rfl⟩,?_⟩|fail);simp
 ·intro i k0;(repeat' first|refine qv ?_|apply qn|apply qs|apply qr|(refine AD rfl ?_ ?_<;>intro _<;>try(exfalso; omega))|apply qb|apply qk|apply qx)
  ·rename_i hi;have hsm:=DC hm hx (hsB m i) (hsK_B (show i<m.l by show i<m.code.length; omega));refine qc (Bw m x i (by omega)) ?_;refine qc (CB m.V (3+i) (by omega) (by omega)) ?_;(repeat' first|refine qv ?_|fail);refine qc (CB m.V 2 (by omega) (by omega)) ?_;refine ql eP [mkP m.V (varU m.V (3+i)),mkP m.V (varU m.V 2)] ?_;refine CI rfl [(901,902),(902,32)] (Cw m hm x (kQ m) (kAll m) _ (by simp; omega) 3 [varU m.V (3+i),varU m.V 2] hsm) rfl rfl (AB _) rfl ⟨⟨⟨_,rfl,BLe.cells (AB _)⟩,rfl⟩,⟨⟨_,rfl,BLe.row rfl⟩,rfl⟩,trivial⟩ rfl rfl rfl rfl rfl ?_;(repeat' first|refine qv ?_|apply qn|refine Fl.nil (fun _=>by kernel_rfl) ?_|apply qr|refine qw ?_|fail);refine LoopEnd.of (i+1) (by omega) (by omega) ?_;refine Ent.of [(902,32)] ?_ ?_ rfl rfl;(repeat' first|exact True.intro|refine⟨⟨AA _,rfl⟩,?_⟩|refine⟨⟨⟨_,rfl,BLe.cells (AB _)⟩,rfl⟩,?_⟩|refine⟨⟨⟨_,rfl,BLe.row ?_⟩,rfl⟩,?_⟩|fail);rw[B7]; rfl
  ·rename_i hi
   have hi:i=m.code.length:=by omega
   subst hi;have hsm1:=DC hm hx (3,[conU m.V 1,varU m.V 3]) (hsK_C (by simp[hsC]));have hsm2:=DC hm hx (2,[hsQ m.V,varU m.V 0,Aj m.V (fun x=>decide (x.op=3)) 0 m.code (conU m.V 0)]) (hsK_C (by simp[hsC]));refine qc (EK m.V 1 (by omega) (by omega) (by omega)) ?_;(repeat' first|refine qv ?_|fail);refine qc (Bw m x 0 (by omega)) ?_;refine qc (CB m.V 3 (by omega) (by omega)) ?_;refine ql eP [mkP m.V (conU m.V 1),mkP m.V (varU m.V 3)] ?_;refine CI rfl [(901,902),(902,51)] (Cw m hm x (kQ m) (kAll m) _ (by simp; omega) 3 [conU m.V 1,varU m.V 3] hsm1) rfl rfl (AB _) rfl ⟨⟨⟨_,rfl,BLe.cells (AB _)⟩,rfl⟩,⟨⟨_,rfl,BLe.row rfl⟩,rfl⟩,trivial⟩ rfl rfl rfl rfl rfl ?_;(repeat' first|refine qv ?_|refine Fl.nil (fun _=>by kernel_rfl) ?_|apply qs|apply qr);refine qc (CB m.V 0 (by omega) (by omega)) ?_;(repeat' first|refine qv ?_|fail);refine qR [(901,51)] (mkSum_ok m hm x (kQ m) (kAll m) _ 163 (fun y=>decide (y.op=3)) mkHalt_ok) ?_;refine ql eP [mkP m.V (hsQ m.V),mkP m.V (varU m.V 0),mkP m.V (Aj m.V (fun x=>decide (x.op=3)) 0 m.code (conU m.V 0))] ?_;refine CI rfl [(901,51),(902,65)] (Cw m hm x (kQ m) (kAll m) _ (by simp; omega) 2 [hsQ m.V,varU m.V 0,Aj m.V (fun x=>decide (x.op=3)) 0 m.code (conU m.V 0)] hsm2) rfl rfl (AB _) rfl ⟨⟨⟨_,rfl,BLe.cells (AB _)⟩,rfl⟩,⟨⟨_,rfl,BLe.row rfl⟩,rfl⟩,trivial⟩ rfl rfl rfl rfl rfl ?_;(repeat' first|refine qv ?_|apply qn|refine Fl.nil (fun _=>by kernel_rfl) ?_|apply qs|apply qr|apply qb);refine AWP.loop (G:=Nat) (fun j=>j≤m.R) (fun j=>AO [900,901] [(0,.ptr 900 0),(71,aN m.R),(72,aN j)] (kBr 902 m x (kQ m) (kAll m) (L++(List.range m.code.length).map (fun i=>lkZ m (hsB m i))++(hsC m).map (lkZ m)++(List.range j).map (fun j=>lkZ m (hsD m j))))) (fun j=>m.R-j) 0 (by omega) ?_ ?_
   ·refine Ent.of [(902,65)] ?_ ?_ rfl rfl;(repeat' first|exact True.intro|refine⟨⟨AA _,rfl⟩,?_⟩|refine⟨⟨⟨_,rfl,BLe.cells (AB _)⟩,rfl⟩,?_⟩|refine⟨⟨⟨_,rfl,BLe.row ?_⟩,rfl⟩,?_⟩|refine⟨⟨AV.Le.int ?_,rfl⟩,?_⟩|fail)
    ·omega
    ·simp[hsC]
   ·intro j k1;(repeat' first|refine qv ?_|apply qn|apply qs|apply qr|(refine AD rfl ?_ ?_<;>intro _<;>try(exfalso; omega))|apply qb|apply qk|apply qx)
    ·rename_i hj;have hsm:=DC hm hx (hsD m j) (hsK_D (show j<m.R by omega));have a:=(AN (V:=m.V) (i:=1) (by omega));have b:=(SzU.con m.V 1);have c:=(AN (V:=m.V) (i:=2) (by omega));refine qc (szReg_ok m x j (by omega) (by omega)) ?_;refine qc (CB m.V (3+m.l+j) (by omega) (by show 3+m.code.length+j<m.V; omega)) ?_;(repeat' first|refine qv ?_|fail);refine qc (CB m.V 1 (by omega) (by omega)) ?_;(repeat' first|refine qv ?_|fail);refine qc (EK m.V 1 (by omega) (by omega) (by omega)) ?_;refine qc (kSub_ok m.V (by omega) (varU m.V 1) (conU m.V 1) (subL (varU m.V 1) (conU m.V 1)) (a.chk (by omega) (by omega) (by omega)) (b.chk (by omega) (by decide) (by omega)) (a.subChk b (by omega) (by omega) (by decide) (by omega))) ?_;(repeat' first|refine qv ?_|fail);refine qc (CB m.V 2 (by omega) (by omega)) ?_;refine ql eP [mkP m.V (subL (varU m.V 1) (conU m.V 1)),mkP m.V (varU m.V 2)] ?_;refine qc (Cy m.V (by omega) [subL (varU m.V 1) (conU m.V 1),varU m.V 2] (by simp) (Ck (a.sub b) c (by omega) (by decide) (by decide) (by decide) (by omega) (by omega) (by omega))) ?_;refine ql eP [mkP m.V (varU m.V (3+m.l+j)),mkP m.V (A0 (conU m.V 1) [subL (varU m.V 1) (conU m.V 1),varU m.V 2])] ?_;refine CI rfl [(901,902),(902,114)] (Cw m hm x (kQ m) (kAll m) _ (by simp[hsC]; omega) 3 [varU m.V (3+m.l+j),A0 (conU m.V 1) [subL (varU m.V 1) (conU m.V 1),varU m.V 2]] hsm) rfl rfl (AB _) rfl ⟨⟨⟨_,rfl,BLe.cells (AB _)⟩,rfl⟩,⟨⟨_,rfl,BLe.row rfl⟩,rfl⟩,trivial⟩ rfl rfl rfl rfl rfl ?_;(repeat' first|refine qv ?_|apply qn|refine Fl.nil (fun _=>by kernel_rfl) ?_|apply qr|refine qw ?_|fail);refine LoopEnd.of (j+1) (by omega) (by omega) ?_;refine Ent.of [(902,114)] ?_ ?_ rfl rfl;(repeat' first|exact True.intro|refine⟨⟨AA _,rfl⟩,?_⟩|refine⟨⟨⟨_,rfl,BLe.cells (AB _)⟩,rfl⟩,?_⟩|refine⟨⟨⟨_,rfl,BLe.row ?_⟩,rfl⟩,?_⟩|fail);rw[B7]; rfl
    ·rename_i hj
     have hj:j=m.R:=by omega
     subst hj;exact⟨⟨[],_,_,AM _ _ _,rfl,AA _,rfl,⟨⟨⟨_,rfl,BLe.cells (AB _)⟩,rfl⟩,⟨⟨_,rfl,BLe.row rfl⟩,rfl⟩,trivial⟩,rfl,rfl⟩⟩
end Go.Proofs.YtmmfloplhopioaaGreat
/- That the links of a machine's system hold is the history's equations. Plain. -/
namespace Go.AL
theorem hol_sz {V:Nat} {kind:Int} {ls:List (List UT)} {X:List Int} (hX:X.length=V) (h:∀p∈ls,SzU V 4 10000 200 p):HoL X (BF V kind ls)↔holdP kind (ls.map (uv X)):=by
 unfold HoL;rw[lvals_linkU hX fun p hp=>fun u hu=>⟨((h p hp).ex u hu).1,(ex_ok (by omega) ((h p hp).ex u hu)).2.2⟩];exact Iff.rfl
theorem BC (a b:Int):holdP 3 [a,b]↔0≤a∧0≤b∧undN a.toNat b.toNat:=by
 unfold holdP; simp; intros; exact Iff.rfl
theorem holdP_pow (a b c:Int):holdP 2 [a,b,c]↔1≤a∧0≤b∧a^b.toNat=c:=by
 unfold holdP; simp
theorem holdP_eq (a:Int):holdP 0 [a]↔a=0:=by
 unfold holdP; simp
section
variable {m:MZ} {x X:List Int}
abbrev nX (X:List Int) (i:Nat):Nat:=(X.getD i 0).toNat
theorem nX_cast (h0:∀y∈X,0≤y) (i:Nat):((nX X i:Nat):Int)=X.getD i 0:=by
 have:0≤X.getD i 0:=by
  rw[List.getD_eq_getElem?_getD]
  cases h:X[i]? with
  | none=>simp
  | some y=>exact h0 y (List.mem_of_getElem? h)
 show(((X.getD i 0).toNat:Nat):Int)=_;omega
theorem sum_val (ok:OkMZ m) (hX:X.length=m.V) (h0:∀y∈X,0≤y) (c:IZ→Bool):uv X (Aj m.V c 0 m.code (conU m.V 0))=(sumN m.l fun j=>if c (m.at j)then nX X (3+j)else 0:Nat):=by
 have hV:=ok.V32;have hl:=ok.l15;have hVe:m.V=3+m.l+2*m.R:=rfl;rw[hsSum_val (by omega) hX h0 c m.code (i:=0) ((SzU.con m.V 0).mono (d':=1) (c':=0) (n':=1) (by omega) (by decide) (by omega)) (by show 3+0+m.l≤m.V; omega) (by omega) (by show 1≤100-m.l; omega) (by show m.l≤50; omega),DW]
 have:(sumN m.code.length fun j=>if c (m.code.getD j haltZ)=true then(X.getD (3+0+j) 0).toNat else 0)=sumN m.l fun j=>if c (m.at j)=true then nX X (3+j)else 0:=BP fun j _=>by rw[Nat.add_zero]; rfl
 rw[this]; omega
structure HistZ (m:MZ) (x X:List Int):Prop where
  a1:(2:Int)^(X.getD 0 0+addZ m x).toNat=X.getD 1 0
  a2:1≤2*X.getD 1 0∧(2*X.getD 1 0)^(X.getD 0 0+1).toNat=1+(2*X.getD 1 0-1)*X.getD 2 0
  a3:X.getD 2 0=(sumN m.l fun j=>nX X (3+j):Nat)
  b:∀i,i<m.l→undN (nX X (3+i)) (nX X 2)
  c1:undN 1 (nX X 3)
  c2:(2*X.getD 1 0)^(nX X 0)=(sumN m.l fun j=>if (m.at j).op=3 then nX X (3+j)else 0:Nat)
  d:∀j,j<m.R→0≤(X.getD 1 0-1)*X.getD 2 0∧undN (nX X (3+m.l+j)) ((X.getD 1 0-1)*X.getD 2 0).toNat
  e:∀i,i<m.l→(m.at i).op≠3→if (m.at i).op=2∧(m.at i).zr≠(m.at i).nx then undN (2*X.getD 1 0*X.getD (3+i) 0).toNat (X.getD (3+(m.at i).nx.toNat) 0+X.getD (3+(m.at i).zr.toNat) 0).toNat∧0≤X.getD (3+(m.at i).nx.toNat) 0+2*X.getD 1 0*X.getD 2 0-2*X.getD (3+m.l+(m.at i).rg.toNat) 0∧undN (2*X.getD 1 0*X.getD (3+i) 0).toNat (X.getD (3+(m.at i).nx.toNat) 0+2*X.getD 1 0*X.getD 2 0-2*X.getD (3+m.l+(m.at i).rg.toNat) 0).toNat else undN (2*X.getD 1 0*X.getD (3+i) 0).toNat (nX X (3+(m.at i).nx.toNat))
  f:∀j,j<m.R→X.getD (3+m.l+j) 0+X.getD (3+m.l+m.R+j) 0*(1+(2*X.getD 1 0-1)*X.getD 2 0)=x.getD j 0+2*X.getD 1 0*X.getD (3+m.l+j) 0+2*X.getD 1 0*(sumN m.l fun i=>if (m.at i).op=0∧(m.at i).rg=j then nX X (3+i)else 0:Nat)-2*X.getD 1 0*(sumN m.l fun i=>if (m.at i).op=1∧(m.at i).rg=j then nX X (3+i)else 0:Nat)
theorem does_val (ok:OkMZ m) (hX:X.length=m.V) (h0:∀y∈X,0≤y) (op:Int) (j:Nat):uv X (BI m op j)=2*X.getD 1 0*(sumN m.l fun i=>if (m.at i).op=op∧(m.at i).rg=j then nX X (3+i)else 0:Nat):=by
 have hV:=ok.V32;unfold BI;rw[Dg (by omega) X (Ba ok.V6).1 (DZ ok _) (by omega) (by omega) (by omega) (by omega) (by omega) (by omega) (by omega),hsQ_val ok.V6 (by omega) hX,sum_val ok hX h0];congr 2;refine BP fun i _=>?_;simp only[Bool.and_eq_true,decide_eq_true_eq]
theorem here_val (ok:OkMZ m) (hX:X.length=m.V) {i:Nat} (hi:i<m.l):uv X (Ai m i)=2*X.getD 1 0*X.getD (3+i) 0:=by
 have hV:=ok.V32;have hVe:m.V=3+m.l+2*m.R:=rfl;unfold Ai;rw[Dg (by omega) X (Ba ok.V6).1 (AN (by omega)) (by omega) (by omega) (by omega) (by omega) (by omega) (by omega) (by omega),hsQ_val ok.V6 (by omega) hX,DV hX (by omega)]
theorem jmp_val (ok:OkMZ m) (hX:X.length=m.V) {y:IZ} (hn:y.nx.toNat<m.l) (hr:y.rg.toNat<m.R):uv X (C5 m y)=X.getD (3+y.nx.toNat) 0+2*X.getD 1 0*X.getD 2 0-2*X.getD (3+m.l+y.rg.toNat) 0:=by
 have hV:=ok.V32;have hV6:=ok.V6;have hVe:m.V=3+m.l+2*m.R:=rfl;have q:=(Ba hV6).1;have vn:=AN (V:=m.V) (i:=3+y.nx.toNat) (by omega);have v2:=AN (V:=m.V) (i:=2) (by omega);have vr:=AN (V:=m.V) (i:=3+m.l+y.rg.toNat) (by omega);have e1:=q.mul v2;have e2:=(SzU.con m.V 2).mul vr;have e3:=vn.add e1;rw[←BL q]at e1;rw[←BL (SzU.con m.V 2)]at e2;rw[←BL q,←CL vn e1]at e3;unfold C5;rw[Et (by omega) X e3 e2 (by omega) (by omega) (by decide) (by omega),uv_add2 (by omega) X vn e1 (by omega) (by omega) (by decide) (by omega),Dg (by omega) X q v2 (by omega) (by omega) (by omega) (by omega) (by omega) (by omega) (by omega),Dg (by omega) X (SzU.con m.V 2) vr (by omega) (by decide) (by decide) (by omega) (by omega) (by omega) (by omega),hsQ_val hV6 (by omega) hX,DW,DV hX (by omega),DV hX (by omega),DV hX (by omega)]
theorem f_val (ok:OkMZ m) (hx:OkIn m x) (hX:X.length=m.V) (h0:∀y∈X,0≤y) {j:Nat} (hj:j<m.R):uv X (subL (hsL m j) (subL (hsR0 m x j) (BI m 1 j)))=X.getD (3+m.l+j) 0+X.getD (3+m.l+m.R+j) 0*(1+(2*X.getD 1 0-1)*X.getD 2 0)-(x.getD j 0+2*X.getD 1 0*X.getD (3+m.l+j) 0+2*X.getD 1 0*(sumN m.l fun i=>if (m.at i).op=0∧(m.at i).rg=j then nX X (3+i)else 0:Nat)-2*X.getD 1 0*(sumN m.l fun i=>if (m.at i).op=1∧(m.at i).rg=j then nX X (3+i)else 0:Nat)):=by
 have hV:=ok.V32;have hV6:=ok.V6;have hVe:m.V=3+m.l+2*m.R:=rfl;obtain⟨sL,sL2⟩:=sz_L ok hj;obtain⟨sR,okR,sR2⟩:=sz_R0 ok hx hj;have sD:=sz_does ok 1 j;have q:=(Ba hV6).1;have va:=AN (V:=m.V) (i:=3+m.l+j) (by omega);have vb:=AN (V:=m.V) (i:=3+m.l+m.R+j) (by omega)
 have eL:uv X (hsL m j)=X.getD (3+m.l+j) 0+X.getD (3+m.l+m.R+j) 0*(1+(2*X.getD 1 0-1)*X.getD 2 0):=by
  unfold hsL;rw[uv_add2 (by omega) X va sL2 (by omega) (by omega) (by omega) (by omega),Dg (by omega) X vb (Cz hV6).1 (by omega) (by omega) (by omega) (by omega) (by omega) (by omega) (by omega),hsAll_val hV6 (by omega) hX,DV hX (by omega),DV hX (by omega)]
 have eR:uv X (hsR0 m x j)=x.getD j 0+2*X.getD 1 0*X.getD (3+m.l+j) 0+2*X.getD 1 0*(sumN m.l fun i=>if (m.at i).op=0∧(m.at i).rg=j then nX X (3+i)else 0:Nat):=by
  unfold hsR0;rw[uv_sums (by omega) X _ _ okR];simp only[List.map_cons,List.map_nil,sumL];rw[DW,does_val ok hX h0,Dg (by omega) X q va (by omega) (by omega) (by omega) (by omega) (by omega) (by omega) (by omega),hsQ_val hV6 (by omega) hX,DV hX (by omega)];show(0:Int)+_=_;omega
 rw[Et (by omega) X sL (sR.sub sD) (by omega) (by omega) (by omega) (by omega),Et (by omega) X sR sD (by omega) (by omega) (by omega) (by omega),eL,eR,does_val ok hX h0]
theorem hs_hol (ok:OkMZ m) (hx:OkIn m x) (hX:X.length=m.V) (h0:∀y∈X,0≤y):(∀l∈(hsS m x).links,HoL X l)↔HistZ m x X:=by
 have hV:=ok.V32;have hV6:=ok.V6;have hVe:m.V=3+m.l+2*m.R:=rfl;obtain⟨s1,s2,s3⟩:=addZ_b ok hx;have sm:=DC ok hx;have q:=(Ba hV6).1;have v:∀i,i<m.V→uv X (varU m.V i)=X.getD i 0:=fun i hi=>DV hX hi
 have g0:∀i,0≤X.getD i 0:=fun i=>by have:=nX_cast h0 i; omega
 have vsum:∀k:Int,0≤k→k≤5000→uv X (An [] [varU m.V 0,conU m.V k])=X.getD 0 0+k:=fun k k0 k1=>by
  rw[uv_add2 (by omega) X (AN (by omega)) (SzU.con m.V k) (by omega) (by omega) (by omega) (by omega),v 0 (by omega),DW]
 have vq:=hsQ_val hV6 (by omega) hX;have val:=hsAll_val hV6 (by omega) hX
 have vd:uv X (A0 (conU m.V 1) [subL (varU m.V 1) (conU m.V 1),varU m.V 2])=(X.getD 1 0-1)*X.getD 2 0:=by
  have a:=AN (V:=m.V) (i:=1) (by omega);have b:=SzU.con m.V 1;rw[Dg (by omega) X (a.sub b) (AN (by omega)) (by omega) (by decide) (by decide) (by decide) (by omega) (by omega) (by omega),Et (by omega) X a b (by omega) (by omega) (by decide) (by omega),v 1 (by omega),v 2 (by omega),DW]
 have hfor:(∀l∈(hsS m x).links,HoL X l)↔∀s∈hsK m x,holdP s.1 (s.2.map (uv X)):=by
  show(∀l∈(hsK m x).map (fun s=>BF m.V s.1 s.2),HoL X l)↔_;rw[List.forall_mem_map];exact⟨fun h s hs=>(hol_sz hX (sm s hs).2.2).1 (h s hs),fun h s hs=>(hol_sz hX (sm s hs).2.2).2 (h s hs)⟩
 rw[hfor]
 have nxb:∀i,i<m.l→(m.at i).op≠3→(m.at i).nx.toNat<m.l∧(m.at i).rg.toNat<m.R∧((m.at i).op=2→(m.at i).zr.toNat<m.l):=fun i hi h3=>by
  rcases ok.ins i hi with k|⟨⟨a1,a2⟩,⟨b1,b2⟩,k⟩
  ·rw[k]at h3; exact absurd rfl h3
  ·have hR:((m.R:Nat):Int)=m.regs:=by have:=ok.r1; show((m.regs.toNat:Nat):Int)=_; omega
   refine⟨by omega,by omega,fun h2=>?_⟩;rcases k with k|k
   ·have:=k.2.1; have:=k.2.2.1; omega
   ·omega
 have v2z:∀i,i<m.l→(m.at i).op≠3→(m.at i).op=2→uv X (An [] [varU m.V (3+(m.at i).nx.toNat),varU m.V (3+(m.at i).zr.toNat)])=X.getD (3+(m.at i).nx.toNat) 0+X.getD (3+(m.at i).zr.toNat) 0:=fun i hi h3 h2=>by
  obtain⟨n1,n2,n3⟩:=nxb i hi h3;have n3:=n3 h2;rw[uv_add2 (by omega) X (AN (by omega)) (AN (by omega)) (by omega) (by omega) (by omega) (by omega),v _ (by omega),v _ (by omega)]
 have hmem:∀s,s∈hsK m x↔(s∈hsA m x∨(∃i,i<m.l∧hsB m i=s)∨s∈hsC m∨(∃j,j<m.R∧hsD m j=s)∨(∃i,i<m.l∧s∈hsGo m i (m.at i))∨∃j,j<m.R∧hsF m x j=s):=fun s=>by
  simp only[hsK,List.mem_append,List.mem_map,List.mem_flatMap,List.mem_range,or_assoc]
 have hP:∀i j:Nat,0≤2*X.getD i 0*X.getD j 0:=fun i j=>Int.mul_nonneg (by have:=g0 i; omega) (g0 j);constructor
 ·intro h;have hA:=fun s (hs:s∈hsA m x)=>h s ((hmem s).2 (.inl hs));have hB:=fun i (hi:i<m.l)=>h (hsB m i) ((hmem _).2 (.inr (.inl ⟨i,hi,rfl⟩)));have hC:=fun s (hs:s∈hsC m)=>h s ((hmem s).2 (.inr (.inr (.inl hs))));have hD:=fun j (hj:j<m.R)=>h (hsD m j) ((hmem _).2 (.inr (.inr (.inr (.inl ⟨j,hj,rfl⟩)))));have hE:=fun i (hi:i<m.l) s (hs:s∈hsGo m i (m.at i))=>h s ((hmem s).2 (.inr (.inr (.inr (.inr (.inl ⟨i,hi,hs⟩))))));have hF:=fun j (hj:j<m.R)=>h (hsF m x j) ((hmem _).2 (.inr (.inr (.inr (.inr (.inr ⟨j,hj,rfl⟩))))));simp only[hsA,List.forall_mem_cons]at hA;simp only[hsC,List.forall_mem_cons]at hC;obtain⟨k1,k2,k3,_⟩:=hA;obtain⟨k4,k5,_⟩:=hC;simp only[List.map_cons,List.map_nil,DW,vsum _ (show 0≤addZ m x by omega) (by omega),vsum 1 (by omega) (by omega),v 1 (by omega),v 0 (by omega),v 3 (by omega),vq,val,sum_val ok hX h0]at k1 k2 k3 k4 k5;rw[holdP_pow]at k1 k2 k5;rw[BC]at k4;rw[Et (by omega) X (AN (by omega)) (DZ ok _) (by omega) (by omega) (by omega) (by omega),sum_val ok hX h0,v 2 (by omega),holdP_eq]at k3;refine⟨k1.2.2,⟨k2.1,k2.2.2⟩,?_,fun i hi=>?_,k4.2.2,?_,fun j hj=>?_,fun i hi h3=>?_,fun j hj=>?_⟩
  ·simp only[if_true]at k3; omega
  ·have:=hB i hi;simp only[hsB,List.map_cons,List.map_nil,v (3+i) (by omega),v 2 (by omega)]at this;exact((BC _ _).1 this).2.2
  ·have:=k5.2.2;simp only[decide_eq_true_eq]at this;exact this
  ·have:=hD j hj;simp only[hsD,List.map_cons,List.map_nil,v (3+m.l+j) (by omega),vd]at this;exact((BC _ _).1 this).2
  ·have hE:=hE i hi;obtain⟨n1,n2,n3⟩:=nxb i hi h3;unfold hsGo at hE;rw[if_neg h3]at hE;by_cases hj:(m.at i).op=2∧(m.at i).zr≠(m.at i).nx
   ·rw[if_pos hj]at hE ⊢;simp only[List.forall_mem_cons]at hE;obtain⟨e1,e2,_⟩:=hE;simp only[List.map_cons,List.map_nil,here_val ok hX hi,v2z i hi h3 hj.1,jmp_val ok hX n1 n2]at e1 e2;have e1:=(BC _ _).1 e1;have e2:=(BC _ _).1 e2;exact⟨e1.2.2,e2.2.1,e2.2.2⟩
   ·rw[if_neg hj]at hE ⊢;simp only[List.forall_mem_cons]at hE;have e1:=hE.1;simp only[List.map_cons,List.map_nil,here_val ok hX hi,v (3+(m.at i).nx.toNat) (by omega)]at e1;exact((BC _ _).1 e1).2.2
  ·have:=hF j hj;simp only[hsF,List.map_cons,List.map_nil,f_val ok hx hX h0 hj]at this;have:=(holdP_eq _).1 this;omega
 ·intro H s hs;rcases(hmem s).1 hs with hs|⟨i,hi,rfl⟩|hs|⟨j,hj,rfl⟩|⟨i,hi,hs⟩|⟨j,hj,rfl⟩
  ·simp only[hsA,List.mem_cons,List.not_mem_nil,or_false]at hs;rcases hs with rfl|rfl|rfl
   ·simp only[List.map_cons,List.map_nil,DW,vsum _ (show 0≤addZ m x by omega) (by omega),v 1 (by omega)];exact(holdP_pow _ _ _).2 ⟨by omega,by have:=g0 0; omega,H.a1⟩
   ·simp only[List.map_cons,List.map_nil,vsum 1 (by omega) (by omega),vq,val];exact(holdP_pow _ _ _).2 ⟨H.a2.1,by have:=g0 0; omega,H.a2.2⟩
   ·simp only[List.map_cons,List.map_nil];rw[Et (by omega) X (AN (by omega)) (DZ ok _) (by omega) (by omega) (by omega) (by omega),sum_val ok hX h0,v 2 (by omega),holdP_eq];simp only[if_true];have:=H.a3;omega
  ·simp only[hsB,List.map_cons,List.map_nil,v (3+i) (by omega),v 2 (by omega)];exact(BC _ _).2 ⟨g0 _,g0 _,H.b i hi⟩
  ·simp only[hsC,List.mem_cons,List.not_mem_nil,or_false]at hs;rcases hs with rfl|rfl
   ·simp only[List.map_cons,List.map_nil,DW,v 3 (by omega)];exact(BC _ _).2 ⟨by omega,g0 _,H.c1⟩
   ·simp only[List.map_cons,List.map_nil,vq,v 0 (by omega),sum_val ok hX h0];refine(holdP_pow _ _ _).2 ⟨H.a2.1,g0 0,?_⟩;simp only[decide_eq_true_eq];exact H.c2
  ·simp only[hsD,List.map_cons,List.map_nil,v (3+m.l+j) (by omega),vd];exact(BC _ _).2 ⟨g0 _,H.d j hj⟩
  ·unfold hsGo at hs;split at hs
   ·simp at hs
   ·rename_i h3;obtain⟨n1,n2,n3⟩:=nxb i hi h3;have He:=H.e i hi h3;have hp1:=hP 1 (3+i);split at hs
    ·rename_i hj;rw[if_pos hj]at He;simp only[List.mem_cons,List.not_mem_nil,or_false]at hs;rcases hs with rfl|rfl
     ·simp only[List.map_cons,List.map_nil,here_val ok hX hi,v2z i hi h3 hj.1];exact(BC _ _).2 ⟨hp1,by have:=g0 (3+(m.at i).nx.toNat); have:=g0 (3+(m.at i).zr.toNat); omega,He.1⟩
     ·simp only[List.map_cons,List.map_nil,here_val ok hX hi,jmp_val ok hX n1 n2];exact(BC _ _).2 ⟨hp1,He.2.1,He.2.2⟩
    ·rename_i hj;rw[if_neg hj]at He;simp only[List.mem_cons,List.not_mem_nil,or_false]at hs;subst hs;simp only[List.map_cons,List.map_nil,here_val ok hX hi,v (3+(m.at i).nx.toNat) (by omega)];exact(BC _ _).2 ⟨hp1,g0 _,He⟩
  ·simp only[hsF,List.map_cons,List.map_nil,f_val ok hx hX h0 hj];have:=H.f j hj;exact(holdP_eq _).2 (by omega)
end
end Go.AL
/- The history's equations in naturals. Plain. -/
namespace Go.AL
section
variable {m:MZ} {x X:List Int}
theorem at_facts (ok:OkMZ m) {i:Nat} (hi:i<m.l):0≤(m.at i).op∧(m.at i).op≤3∧0≤(m.at i).rg∧0≤(m.at i).nx∧0≤(m.at i).zr:=by
 rcases ok.ins i hi with k|⟨⟨a1,a2⟩,⟨b1,b2⟩,k⟩
 ·rw[k]; decide
 ·rcases k with⟨c1,c2,c3,c4⟩|⟨c1,c2⟩<;>exact⟨by omega,by omega,by omega,by omega,by omega⟩
theorem cast_mul3 (a b:Nat):(2*(a:Int)*(b:Int)).toNat=2*a*b:=by
 have:2*(a:Int)*(b:Int)=((2*a*b:Nat):Int):=by simp
 rw[this,Int.toNat_natCast]
theorem histZ_eq (ok:OkMZ m) (hx:OkIn m x) (h0:∀y∈X,0≤y):HistZ m x X↔HistEq m.mach (fun j=>(x.getD j 0).toNat) (addZ m x).toNat (nX X 0) (nX X 1) (nX X 2) (fun i=>nX X (3+i)) (fun j=>nX X (3+m.l+j)) (fun j=>nX X (3+m.l+m.R+j)):=by
 obtain⟨N,hN⟩:∃N:Nat→Nat,∀i,X.getD i 0=(N i:Int):=⟨nX X,fun i=>(nX_cast h0 i).symm⟩
 have hn:∀i,nX X i=N i:=fun i=>by show(X.getD i 0).toNat=_; rw[hN,Int.toNat_natCast]
 obtain⟨s1,s2,s3⟩:=addZ_b ok hx;obtain⟨A,hA⟩:∃A:Nat,addZ m x=(A:Int):=⟨(addZ m x).toNat,by omega⟩;obtain⟨y,hy⟩:∃y:Nat→Nat,∀j,x.getD j 0=(y j:Int):=⟨fun j=>(x.getD j 0).toNat,fun j=>by have:=(getD_in hx j).1; show x.getD j 0=(((x.getD j 0).toNat:Nat):Int); omega⟩;have hf:=fun i hi=>at_facts ok (i:=i) hi
 -- the conditions
 have p3:∀i,i<m.l→((m.at i).op=3↔m.mach.op i=3):=fun i hi=>by
  have:=hf i hi;show _↔(m.at i).op.toNat=3;omega
 have pj:∀i,i<m.l→((m.at i).op=2∧(m.at i).zr≠(m.at i).nx↔m.mach.op i=2∧m.mach.zr i≠m.mach.nx i):=fun i hi=>by
  have:=hf i hi;show _↔(m.at i).op.toNat=2∧(m.at i).zr.toNat≠(m.at i).nx.toNat;omega
 have p0:∀i,i<m.l→∀j:Nat,((m.at i).op=0∧(m.at i).rg=j↔m.mach.op i=0∧m.mach.rg i=j):=fun i hi j=>by
  have:=hf i hi;show _↔(m.at i).op.toNat=0∧(m.at i).rg.toNat=j;omega
 have p1:∀i,i<m.l→∀j:Nat,((m.at i).op=1∧(m.at i).rg=j↔m.mach.op i=1∧m.mach.rg i=j):=fun i hi j=>by
  have:=hf i hi;show _↔(m.at i).op.toNat=1∧(m.at i).rg.toNat=j;omega
 have q3:(sumN m.l fun j=>if (m.at j).op=3 then N (3+j)else 0)=sumN m.mach.l fun i=>if m.mach.op i=3 then N (3+i)else 0:=BP fun i hi=>by
  by_cases h:(m.at i).op=3
  ·rw[if_pos h,if_pos ((p3 i hi).1 h)]
  ·rw[if_neg h,if_neg fun k=>h ((p3 i hi).2 k)]
 have q0:∀j:Nat,(sumN m.l fun i=>if (m.at i).op=0∧(m.at i).rg=j then N (3+i)else 0)=sumN m.mach.l fun i=>if m.mach.op i=0∧m.mach.rg i=j then N (3+i)else 0:=fun j=>BP fun i hi=>by
  by_cases h:(m.at i).op=0∧(m.at i).rg=j
  ·rw[if_pos h,if_pos ((p0 i hi j).1 h)]
  ·rw[if_neg h,if_neg fun k=>h ((p0 i hi j).2 k)]
 have q1:∀j:Nat,(sumN m.l fun i=>if (m.at i).op=1∧(m.at i).rg=j then N (3+i)else 0)=sumN m.mach.l fun i=>if m.mach.op i=1∧m.mach.rg i=j then N (3+i)else 0:=fun j=>BP fun i hi=>by
  by_cases h:(m.at i).op=1∧(m.at i).rg=j
  ·rw[if_pos h,if_pos ((p1 i hi j).1 h)]
  ·rw[if_neg h,if_neg fun k=>h ((p1 i hi j).2 k)]
 -- the numbers
 have e1:(2:Int)^(X.getD 0 0+addZ m x).toNat=X.getD 1 0↔N 1=2^(N 0+A):=by
  rw[hN,hN,hA,show((N 0:Int)+(A:Int)).toNat=N 0+A by omega]
  have:(2:Int)^(N 0+A)=((2^(N 0+A):Nat):Int):=by rw[Int.natCast_pow]; rfl
  rw[this];omega
 have e2:1≤N 1→((2*X.getD 1 0)^(X.getD 0 0+1).toNat=1+(2*X.getD 1 0-1)*X.getD 2 0↔1+(2*N 1-1)*N 2=(2*N 1)^(N 0+1)):=fun h1=>by
  rw[hN,hN,hN,show((N 0:Int)+1).toNat=N 0+1 by omega]
  have c1:(2*(N 1:Int))^(N 0+1)=(((2*N 1)^(N 0+1):Nat):Int):=by rw[Int.natCast_pow]; congr 1
  have c2:1+(2*(N 1:Int)-1)*(N 2:Int)=((1+(2*N 1-1)*N 2:Nat):Int):=by
   rw[Int.natCast_add,Int.natCast_mul,Int.natCast_sub (by omega)]; rfl
  rw[c1,c2];omega
 have eall:1≤N 1→1+(2*N 1-1)*N 2=(2*N 1)^(N 0+1)→1+(2*X.getD 1 0-1)*X.getD 2 0=(((2*N 1)^(N 0+1):Nat):Int):=fun h1 h2=>by
  rw[←h2,hN,hN,Int.natCast_add,Int.natCast_mul,Int.natCast_sub (by omega)]; rfl
 have ed:1≤N 1→(X.getD 1 0-1)*X.getD 2 0=(((N 1-1)*N 2:Nat):Int):=fun h1=>by
  rw[hN,hN,Int.natCast_mul,Int.natCast_sub (by omega)]; rfl
 have ef:∀j,1≤N 1→1+(2*N 1-1)*N 2=(2*N 1)^(N 0+1)→(X.getD (3+m.l+j) 0+X.getD (3+m.l+m.R+j) 0*(1+(2*X.getD 1 0-1)*X.getD 2 0)=x.getD j 0+2*X.getD 1 0*X.getD (3+m.l+j) 0+2*X.getD 1 0*(sumN m.l fun i=>if (m.at i).op=0∧(m.at i).rg=j then nX X (3+i)else 0:Nat)-2*X.getD 1 0*(sumN m.l fun i=>if (m.at i).op=1∧(m.at i).rg=j then nX X (3+i)else 0:Nat)↔N (3+m.l+j)+N (3+m.l+m.R+j)*(2*N 1)^(N 0+1)+2*N 1*(sumN m.mach.l fun i=>if m.mach.op i=1∧m.mach.rg i=j then N (3+i)else 0)=y j+2*N 1*N (3+m.l+j)+2*N 1*(sumN m.mach.l fun i=>if m.mach.op i=0∧m.mach.rg i=j then N (3+i)else 0)):=fun j h1 h2=>by
  rw[eall h1 h2];have g0:(sumN m.l fun i=>if (m.at i).op=0∧(m.at i).rg=j then nX X (3+i)else 0)=_:=(BP fun i _=>by rw[hn]).trans (q0 j);have g1:(sumN m.l fun i=>if (m.at i).op=1∧(m.at i).rg=j then nX X (3+i)else 0)=_:=(BP fun i _=>by rw[hn]).trans (q1 j);rw[g0,g1,hN,hN,hN,hy];generalize (2*N 1)^(N 0+1)=P;generalize (sumN m.mach.l fun i=>if m.mach.op i=0∧m.mach.rg i=j then N (3+i)else 0)=S0;generalize (sumN m.mach.l fun i=>if m.mach.op i=1∧m.mach.rg i=j then N (3+i)else 0)=S1;generalize N (3+m.l+j)=a;generalize N (3+m.l+m.R+j)=b;generalize N 1=H
  have t1:(b:Int)*(P:Int)=((b*P:Nat):Int):=by simp
  have t2:2*(H:Int)*(a:Int)=((2*H*a:Nat):Int):=by simp
  have t3:2*(H:Int)*(S0:Int)=((2*H*S0:Nat):Int):=by simp
  have t4:2*(H:Int)*(S1:Int)=((2*H*S1:Nat):Int):=by simp
  rw[t1,t2,t3,t4];generalize b*P=B;generalize 2*H*a=C;generalize 2*H*S0=D;generalize 2*H*S1=E;omega
 have ec:(2*X.getD 1 0)^(nX X 0)=((sumN m.l fun j=>if (m.at j).op=3 then nX X (3+j)else 0:Nat):Int)↔(2*N 1)^(N 0)=sumN m.mach.l fun i=>if m.mach.op i=3 then N (3+i)else 0:=by
  have g3:(sumN m.l fun j=>if (m.at j).op=3 then nX X (3+j)else 0)=_:=(BP fun i _=>by rw[hn]).trans q3;rw[g3,hn,hN]
  have c1:(2*(N 1:Int))^(N 0)=(((2*N 1)^(N 0):Nat):Int):=by rw[Int.natCast_pow]; congr 1
  rw[c1];omega
 have ee:∀i,i<m.l→((if (m.at i).op=2∧(m.at i).zr≠(m.at i).nx then undN (2*X.getD 1 0*X.getD (3+i) 0).toNat (X.getD (3+(m.at i).nx.toNat) 0+X.getD (3+(m.at i).zr.toNat) 0).toNat∧0≤X.getD (3+(m.at i).nx.toNat) 0+2*X.getD 1 0*X.getD 2 0-2*X.getD (3+m.l+(m.at i).rg.toNat) 0∧undN (2*X.getD 1 0*X.getD (3+i) 0).toNat (X.getD (3+(m.at i).nx.toNat) 0+2*X.getD 1 0*X.getD 2 0-2*X.getD (3+m.l+(m.at i).rg.toNat) 0).toNat else undN (2*X.getD 1 0*X.getD (3+i) 0).toNat (nX X (3+(m.at i).nx.toNat)))↔if m.mach.op i=2∧m.mach.zr i≠m.mach.nx i then undN (2*N 1*N (3+i)) (N (3+m.mach.nx i)+N (3+m.mach.zr i))∧∃w,w+2*N (3+m.l+m.mach.rg i)=N (3+m.mach.nx i)+2*N 1*N 2∧undN (2*N 1*N (3+i)) w else undN (2*N 1*N (3+i)) (N (3+m.mach.nx i))):=fun i hi=>by
  have en:(m.at i).nx.toNat=m.mach.nx i:=rfl;have ez:(m.at i).zr.toNat=m.mach.zr i:=rfl;have er:(m.at i).rg.toNat=m.mach.rg i:=rfl;rw[en,ez,er,hn];simp only[hN,cast_mul3]
  have t:2*(N 1:Int)*(N 2:Int)=((2*N 1*N 2:Nat):Int):=by simp
  rw[t];by_cases h:(m.at i).op=2∧(m.at i).zr≠(m.at i).nx
  ·rw[if_pos h,if_pos ((pj i hi).1 h),show((N (3+m.mach.nx i):Int)+(N (3+m.mach.zr i):Int)).toNat=N (3+m.mach.nx i)+N (3+m.mach.zr i) by omega];refine and_congr Iff.rfl ⟨fun⟨k1,k2⟩=>⟨_,?_,k2⟩,fun⟨w,k1,k2⟩=>⟨by omega,?_⟩⟩
   ·omega
   ·rw[show((N (3+m.mach.nx i):Int)+((2*N 1*N 2:Nat):Int)-2*(N (3+m.l+m.mach.rg i):Int)).toNat=w by omega]; exact k2
  ·rw[if_neg h,if_neg fun k=>h ((pj i hi).2 k)]
 have hpow:N 1=2^(N 0+A)→1≤N 1:=fun h=>by rw[h]; exact Nat.two_pow_pos _
 have hyf:(fun j=>(x.getD j 0).toNat)=y:=by
  funext j; rw[hy,Int.toNat_natCast]
 have hsa:(sumN m.l fun j=>nX X (3+j))=sumN m.mach.l fun j=>N (3+j):=BP fun i _=>hn _
 have hAt:(addZ m x).toNat=A:=by rw[hA,Int.toNat_natCast]
 simp only[hn,hyf,hAt];constructor
 ·intro h;have k1:=e1.1 h.a1;have kp:=hpow k1;have k2:=(e2 kp).1 h.a2.2;refine⟨k1,k2,?_,fun i hi=>?_,?_,ec.1 (by have:=h.c2; exact this),fun j hj=>?_,fun i hi h3=>(ee i hi).1 (h.e i hi fun k=>h3 ((p3 i hi).1 k)),fun j hj=>(ef j kp k2).1 (h.f j hj)⟩
  ·have:=h.a3;rw[hsa,hN]at this;show N 2=sumN m.mach.l fun i=>N (3+i);omega
  ·have:=h.b i hi; rwa [hn,hn]at this
  ·have:=h.c1; rw[hn]at this; exact this
  ·have:=(h.d j hj).2;rw[ed kp,Int.toNat_natCast,hn]at this;exact this
 ·intro h;have kp:=hpow h.h1;refine⟨e1.2 h.h1,⟨by rw[hN]; omega,(e2 kp).2 h.h2⟩,?_,fun i hi=>?_,?_,ec.2 h.h6,fun j hj=>?_,fun i hi h3=>(ee i hi).2 (h.h8 i hi fun k=>h3 ((p3 i hi).2 k)),fun j hj=>(ef j kp h.h2).2 (h.h9 j hj)⟩
  ·rw[hsa,hN];have:=h.h3;have e:N 2=sumN m.mach.l fun i=>N (3+i):=this;omega
  ·rw[hn,hn]; exact h.h4 i hi
  ·rw[hn]; exact h.h5
  ·rw[ed kp,Int.toNat_natCast,hn];exact⟨by omega,h.h7 j hj⟩
end
end Go.AL
/- The history of a run az a list of numbers; it is the one solution of the system. Plain. -/
namespace Go.AL
section
variable {m:MZ} {x X:List Int}
def BD (m:MZ) (x:List Int) (s:Nat) (pl:Nat→Nat) (r:Nat→Nat→Nat):List Int:=
  [(s:Int),((2^(s+(addZ m x).toNat):Nat):Int),((ds (2*2^(s+(addZ m x).toNat)) (s+1) fun _=>1:Nat):Int)]++(List.range m.l).map (fun i=>((ds (2*2^(s+(addZ m x).toNat)) (s+1) (plD pl i):Nat):Int))++(List.range m.R).map (fun j=>((ds (2*2^(s+(addZ m x).toNat)) (s+1) (fun t=>r t j):Nat):Int))++(List.range m.R).map (fun j=>((r s j:Nat):Int))
theorem Ca (s:Nat) (pl:Nat→Nat) (r:Nat→Nat→Nat):(BD m x s pl r).length=m.V:=by
 simp only[BD,List.length_append,List.length_map,List.length_range,List.length_cons,List.length_nil];show 0+1+1+1+m.l+m.R+m.R=3+m.l+2*m.R;omega
theorem Cq (s:Nat) (pl:Nat→Nat) (r:Nat→Nat→Nat):(BD m x s pl r).getD 0 0=s∧(BD m x s pl r).getD 1 0=((2^(s+(addZ m x).toNat):Nat):Int)∧(BD m x s pl r).getD 2 0=((ds (2*2^(s+(addZ m x).toNat)) (s+1) fun _=>1:Nat):Int)∧(∀i,i<m.l→(BD m x s pl r).getD (3+i) 0=((ds (2*2^(s+(addZ m x).toNat)) (s+1) (plD pl i):Nat):Int))∧(∀j,j<m.R→(BD m x s pl r).getD (3+m.l+j) 0=((ds (2*2^(s+(addZ m x).toNat)) (s+1) (fun t=>r t j):Nat):Int))∧∀j,j<m.R→(BD m x s pl r).getD (3+m.l+m.R+j) 0=((r s j:Nat):Int):=by
 refine⟨rfl,rfl,rfl,fun i hi=>?_,fun j hj=>?_,fun j hj=>?_⟩
 ·unfold BD;rw[List.getD_eq_getElem?_getD,List.getElem?_append_left (by simp; omega),List.getElem?_append_left (by simp; omega),List.getElem?_append_right (by simp)];simp only[List.length_cons,List.length_nil,List.getElem?_map];rw[show 3+i-(0+1+1+1)=i by omega,List.getElem?_range hi];rfl
 ·unfold BD;rw[List.getD_eq_getElem?_getD,List.getElem?_append_left (by simp; omega),List.getElem?_append_right (by simp; omega)];simp only[List.length_append,List.length_cons,List.length_nil,List.getElem?_map,List.length_map,List.length_range];rw[show 3+m.l+j-(0+1+1+1+m.l)=j by omega,List.getElem?_range hj];rfl
 ·unfold BD;rw[List.getD_eq_getElem?_getD,List.getElem?_append_right (by simp; omega)];simp only[List.length_append,List.length_cons,List.length_nil,List.getElem?_map,List.length_map,List.length_range];rw[show 3+m.l+m.R+j-(0+1+1+1+m.l+m.R)=j by omega,List.getElem?_range hj];rfl
theorem histL_nn (s:Nat) (pl:Nat→Nat) (r:Nat→Nat→Nat):∀y∈BD m x s pl r,0≤y:=by
 intro y hy;simp only[BD,List.mem_append,List.mem_cons,List.not_mem_nil,or_false,List.mem_map]at hy;rcases hy with(((rfl|rfl|rfl)|⟨i,_,rfl⟩)|⟨j,_,rfl⟩)|⟨j,_,rfl⟩<;>exact Int.natCast_nonneg _
theorem in_le (ok:OkMZ m) (hx:OkIn m x):m.mach.l≤(addZ m x).toNat∧∀j,j<m.mach.R→(x.getD j 0).toNat≤(addZ m x).toNat:=by
 obtain⟨s1,s2,s3⟩:=addZ_b ok hx;refine⟨by show m.l≤_; omega,fun j hj=>?_⟩;have hs:=sumL_ge (l:=x) fun e he=>(hx.2 e he).1;have hl:((m.l:Nat):Int)≤addZ m x:=s3
 have hle:x.getD j 0≤sumL x:=by
  rw[List.getD_eq_getElem?_getD]
  cases h:x[j]? with
  | none=>simpa using hs.1
  | some n=>exact hs.2 n (List.mem_of_getElem? h)
 have e:addZ m x=(m.l:Int)+sumL x:=rfl;omega
theorem hs_only (ok:OkMZ m) (hx:OkIn m x) (hX:X.length=m.V) (h0:∀y∈X,0≤y) (h:∀l∈(hsS m x).links,HoL X l):∃(pl:Nat→Nat) (r:Nat→Nat→Nat),m.mach.Run (fun j=>(x.getD j 0).toNat) (nX X 0) pl r∧X=BD m x (nX X 0) pl r:=by
 have hE:=(histZ_eq ok hx h0).1 ((hs_hol ok hx hX h0).1 h);obtain⟨i1,i2⟩:=in_le ok hx;obtain⟨pl,r,hr,e1,e2,e3⟩:=hist_only ok.mach i1 i2 hE;refine⟨pl,r,hr,?_⟩;have hH:=hE.h1;have c:=nX_cast h0;obtain⟨g0,g1,g2,g3,g4,g5⟩:=Cq (m:=m) (x:=x) (nX X 0) pl r;rw[hH]at e1 e2 e3
 have key:∀i,i<m.V→X.getD i 0=(BD m x (nX X 0) pl r).getD i 0:=by
  intro i hi;have hVe:m.V=3+m.l+2*m.R:=rfl;rcases(show i=0∨i=1∨i=2∨(3≤i∧i<3+m.l)∨(3+m.l≤i∧i<3+m.l+m.R)∨3+m.l+m.R≤i by omega)with h|h|h|⟨h,h'⟩|⟨h,h'⟩|h
  ·subst h; rw[g0,c]
  ·subst h; rw[g1,←hH,c]
  ·subst h; rw[g2,←e1,c]
  ·obtain⟨k,rfl⟩:∃k,i=3+k:=⟨i-3,by omega⟩;rw[g3 k (by omega),←e2 k (show k<m.l by omega),c]
  ·obtain⟨k,rfl⟩:∃k,i=3+m.l+k:=⟨i-(3+m.l),by omega⟩;rw[g4 k (by omega),←(e3 k (show k<m.R by omega)).1,c]
  ·obtain⟨k,rfl⟩:∃k,i=3+m.l+m.R+k:=⟨i-(3+m.l+m.R),by omega⟩;rw[g5 k (by omega),←(e3 k (show k<m.R by omega)).2,c]
 refine List.ext_getElem? fun i=>?_;by_cases hi:i<m.V
 ·have k:=key i hi;rw[List.getD_eq_getElem?_getD,List.getD_eq_getElem?_getD,List.getElem?_eq_getElem (by omega),List.getElem?_eq_getElem (by rw[Ca]; exact hi)]at k;rw[List.getElem?_eq_getElem (by omega),List.getElem?_eq_getElem (by rw[Ca]; exact hi)];exact congrArg some k
 ·rw[List.getElem?_eq_none (by omega),List.getElem?_eq_none (by rw[Ca]; omega)]
theorem hs_there (ok:OkMZ m) (hx:OkIn m x) {s:Nat} {pl:Nat→Nat} {r:Nat→Nat→Nat} (hr:m.mach.Run (fun j=>(x.getD j 0).toNat) s pl r):∀l∈(hsS m x).links,HoL (BD m x s pl r) l:=by
 have h0:=histL_nn (m:=m) (x:=x) s pl r;refine(hs_hol ok hx (Ca s pl r) h0).2 ((histZ_eq ok hx h0).2 ?_);obtain⟨i1,i2⟩:=in_le ok hx;obtain⟨g0,g1,g2,g3,g4,g5⟩:=Cq (m:=m) (x:=x) s pl r;have hE:=hist_there ok.mach i1 i2 hr (H:=2^(s+(addZ m x).toNat)) rfl
 have n0:nX (BD m x s pl r) 0=s:=by show((BD m x s pl r).getD 0 0).toNat=_; rw[g0,Int.toNat_natCast]
 have n1:nX (BD m x s pl r) 1=2^(s+(addZ m x).toNat):=by show((BD m x s pl r).getD 1 0).toNat=_; rw[g1,Int.toNat_natCast]
 have n2:nX (BD m x s pl r) 2=ds (2*2^(s+(addZ m x).toNat)) (s+1) (fun _=>1):=by show((BD m x s pl r).getD 2 0).toNat=_; rw[g2,Int.toNat_natCast]
 have n3:∀i,i<m.l→nX (BD m x s pl r) (3+i)=ds (2*2^(s+(addZ m x).toNat)) (s+1) (plD pl i):=fun i hi=>by show((BD m x s pl r).getD (3+i) 0).toNat=_; rw[g3 i hi,Int.toNat_natCast]
 have n4:∀j,j<m.R→nX (BD m x s pl r) (3+m.l+j)=ds (2*2^(s+(addZ m x).toNat)) (s+1) (fun t=>r t j):=fun j hj=>by show((BD m x s pl r).getD (3+m.l+j) 0).toNat=_; rw[g4 j hj,Int.toNat_natCast]
 have n5:∀j,j<m.R→nX (BD m x s pl r) (3+m.l+m.R+j)=r s j:=fun j hj=>by show((BD m x s pl r).getD (3+m.l+m.R+j) 0).toNat=_; rw[g5 j hj,Int.toNat_natCast]
 rw[n0,n1,n2];refine⟨hE.h1,hE.h2,?_,fun i hi=>?_,?_,?_,fun j hj=>?_,fun i hi h3=>?_,fun j hj=>?_⟩
 ·rw[hE.h3]; exact BP fun i hi=>(n3 i hi).symm
 ·rw[n3 i hi]; exact hE.h4 i hi
 ·rw[n3 0 ok.l1]; exact hE.h5
 ·rw[hE.h6]; exact BP fun i hi=>by rw[n3 i hi]
 ·rw[n4 j hj]; exact hE.h7 j hj
 ·have h8:=hE.h8 i hi h3;rcases ok.mach.ins i hi with k|⟨o1,o2,o3,o4,o5⟩
  ·exact absurd k h3
  rw[n3 i hi,n3 _ o3,n3 _ o4,n4 _ o2];exact h8
 ·have h9:=hE.h9 j hj;rw[n4 j hj,n5 j hj];rw[show(sumN m.mach.l fun i=>if m.mach.op i=1∧m.mach.rg i=j then nX (BD m x s pl r) (3+i)else 0)=_ from BP fun i hi=>by rw[n3 i hi],show(sumN m.mach.l fun i=>if m.mach.op i=0∧m.mach.rg i=j then nX (BD m x s pl r) (3+i)else 0)=_ from BP fun i hi=>by rw[n3 i hi]];exact h9
end
end Go.AL
/- The run az a function. Plain. -/
namespace Go.AL
def Mach.F (m:Mach) (x:Nat→Nat):Nat→Nat×(Nat→Nat)
  | 0=>(0,x)
  | t+1=>(m.to (m.F x t).1 (m.F x t).2,fun j=>if m.op (m.F x t).1=0∧m.rg (m.F x t).1=j then(m.F x t).2 j+1 else if m.op (m.F x t).1=1∧m.rg (m.F x t).1=j then(m.F x t).2 j-1 else(m.F x t).2 j)
def Mach.Over (m:Mach) (c:Nat×(Nat→Nat)):Prop:=m.op c.1=3∨(m.op c.1=1∧c.2 (m.rg c.1)=0)
instance (m:Mach) (c:Nat×(Nat→Nat)):Decidable (m.Over c):=inferInstanceAs (Decidable (_∨_))
theorem Mach.F_lt {m:Mach} (ok:m.Ok) (x:Nat→Nat) {s:Nat}:(∀t,t<s→¬m.Over (m.F x t))→∀t,t≤s→(m.F x t).1<m.l:=by
 intro h t
 induction t with
 | zero=>exact fun _=>ok.l0
 | succ t ih=>
  intro ht;have hi:=ih (by omega);have hn:=h t (by omega);rcases ok.ins _ hi with k|⟨_,_,o3,o4,_⟩
  ·exact absurd (.inl k) hn
  ·show m.to _ _<m.l;unfold Mach.to;split
   ·exact o4
   ·exact o3
theorem Mach.F_run {m:Mach} (ok:m.Ok) {x:Nat→Nat} {s:Nat} (h:∀t,t<s→¬m.Over (m.F x t)) (hs:m.op (m.F x s).1=3):m.Run x s (fun t=>(m.F x t).1) fun t=>(m.F x t).2:=by
 refine⟨m.F_lt ok x h,rfl,fun _ _=>rfl,fun t ht=>⟨fun k=>h t ht (.inl k),rfl⟩,fun t ht j hj=>?_,hs⟩;have hn:=h t ht;show(if m.op (m.F x t).1=0∧m.rg (m.F x t).1=j then(m.F x t).2 j+1 else if m.op (m.F x t).1=1∧m.rg (m.F x t).1=j then(m.F x t).2 j-1 else(m.F x t).2 j)+_=_;by_cases h0:m.op (m.F x t).1=0∧m.rg (m.F x t).1=j
 ·rw[if_pos h0,if_neg (by omega),if_pos h0]
 ·rw[if_neg h0];by_cases h1:m.op (m.F x t).1=1∧m.rg (m.F x t).1=j
  ·rw[if_pos h1,if_pos h1,if_neg h0];have:(m.F x t).2 j≠0:=fun k=>hn (.inr ⟨h1.1,by rw[h1.2]; exact k⟩);omega
  ·rw[if_neg h1,if_neg h1,if_neg h0]
theorem Mach.run_F {m:Mach} (ok:m.Ok) {x:Nat→Nat} {s:Nat} {pl:Nat→Nat} {r:Nat→Nat→Nat} (h:m.Run x s pl r):(∀t,t≤s→pl t=(m.F x t).1∧∀j,j<m.R→r t j=(m.F x t).2 j)∧(∀t,t<s→¬m.Over (m.F x t))∧m.op (m.F x s).1=3:=by
 have key:∀t,t≤s→pl t=(m.F x t).1∧∀j,j<m.R→r t j=(m.F x t).2 j:=by
  intro t
  induction t with
  | zero=>exact fun _=>⟨h.at0,fun j hj=>h.r0 j hj⟩
  | succ t ih=>
   intro ht;obtain⟨e1,e2⟩:=ih (by omega);have g:=h.go t (by omega);refine⟨?_,fun j hj=>?_⟩
   ·rw[g.2];show _=m.to (m.F x t).1 (m.F x t).2;rw[←e1];unfold Mach.to;rcases ok.ins (pl t) (h.lt t (by omega))with k|⟨_,o2,_⟩
    ·exact absurd k g.1
    ·rw[e2 _ o2]
   ·have c:=h.chg t (by omega) j hj;show _=if m.op (m.F x t).1=0∧m.rg (m.F x t).1=j then(m.F x t).2 j+1 else if m.op (m.F x t).1=1∧m.rg (m.F x t).1=j then(m.F x t).2 j-1 else(m.F x t).2 j;rw[←e1,←e2 j hj];by_cases h0:m.op (pl t)=0∧m.rg (pl t)=j
    ·rw[if_pos h0]at c ⊢;rw[if_neg (by omega)]at c;exact c
    ·rw[if_neg h0]at c ⊢;by_cases h1:m.op (pl t)=1∧m.rg (pl t)=j
     ·rw[if_pos h1]at c ⊢; omega
     ·rw[if_neg h1]at c ⊢; exact c
 refine⟨key,fun t ht hov=>?_,by rw[←(key s (Nat.le_refl _)).1]; exact h.halt⟩;obtain⟨e1,e2⟩:=key t (by omega);have g:=h.go t ht;rcases hov with k|⟨k1,k2⟩
 ·rw[←e1]at k; exact g.1 k
 ·rw[←e1]at k1 k2;rcases ok.ins (pl t) (h.lt t (by omega))with k|⟨_,o2,_⟩
  ·exact g.1 k
  ·rw[←e2 _ o2]at k2;have c:=h.chg t ht _ o2;rw[if_pos ⟨k1,rfl⟩,if_neg (by omega)]at c;omega
theorem Mach.F_le {m:Mach} {x:Nat→Nat} (j:Nat):∀t,(m.F x t).2 j≤x j+t
 | 0=>Nat.le_refl _
 | t+1=>by
  have ih:=m.F_le (x:=x) j t;show(if m.op (m.F x t).1=0∧m.rg (m.F x t).1=j then(m.F x t).2 j+1 else if m.op (m.F x t).1=1∧m.rg (m.F x t).1=j then(m.F x t).2 j-1 else(m.F x t).2 j)≤_;split
  ·omega
  ·split<;>omega
theorem Mach.stop {m:Mach} (x:Nat→Nat) (n:Nat):∃k,k≤n∧(∀t,t<k→¬m.Over (m.F x t))∧(k=n∨m.Over (m.F x k)):=by
 induction n with
 | zero=>exact⟨0,Nat.le_refl _,fun t ht=>by omega,.inl rfl⟩
 | succ n ih=>
  obtain⟨k,h1,h2,h3⟩:=ih;by_cases ho:m.Over (m.F x k)
  ·exact⟨k,by omega,h2,.inr ho⟩
  ·have hk:k=n:=by
    rcases h3 with h|h
    ·exact h
    ·exact absurd h ho
   subst hk;refine⟨k+1,Nat.le_refl _,fun t ht=>?_,.inl rfl⟩;rcases(show t<k∨t=k by omega)with h|h
   ·exact h2 t h
   ·rw[h]; exact ho
end Go.AL
/- Registers az lists: a step. Plain. -/
namespace Go.AL
def rgL (R:Nat) (f:Nat→Nat):List Int:=(List.range R).map fun j=>((f j:Nat):Int)
theorem Bm (R:Nat) (f:Nat→Nat):(rgL R f).length=R:=by simp[rgL]
theorem DI {R:Nat} {f:Nat→Nat} {k:Nat} (hk:k<R):(rgL R f)[k]? = some ((f k:Nat):Int):=by
 unfold rgL;rw[List.getElem?_map,List.getElem?_range hk]; rfl
theorem rgL_ext {R:Nat} {f g:Nat→Nat} (h:∀j,j<R→f j=g j):rgL R f=rgL R g:=by
 unfold rgL
 exact List.map_congr_left fun j hj=>by rw[h j (List.mem_range.1 hj)]
theorem rgL_set {R:Nat} {f g:Nat→Nat} {k v:Nat} (hk:k<R) (h:∀j,j<R→g j=if k=j then v else f j):rgL R g=(rgL R f).set k (v:Int):=by
 refine List.ext_getElem? fun j=>?_;rw[List.getElem?_set];by_cases hj:j<R
 ·rw[DI hj,h j hj];by_cases e:k=j
  ·rw[if_pos e,if_pos e,if_pos (by rw[Bm]; omega)]
  ·rw[if_neg e,if_neg e,DI hj]
 ·rw[List.getElem?_eq_none (by rw[Bm]; omega),if_neg (by omega),List.getElem?_eq_none (by rw[Bm]; omega)]
theorem rgL_of {x:List Int} (h0:∀n∈x,0≤n):x=rgL x.length fun j=>(x.getD j 0).toNat:=by
 refine List.ext_getElem? fun j=>?_;by_cases hj:j<x.length
 ·rw[DI hj,List.getD_eq_getElem?_getD,List.getElem?_eq_getElem hj];have:=h0 _ (List.getElem_mem hj);show some _=some ((((x[j]):Int).toNat:Nat):Int);congr 1;omega
 ·rw[List.getElem?_eq_none (by omega),List.getElem?_eq_none (by rw[Bm]; omega)]
section
variable {m:MZ} {x:Nat→Nat} {t:Nat}
theorem F_inc (h:m.mach.op (m.mach.F x t).1=0) (hr:m.mach.rg (m.mach.F x t).1<m.R):(m.mach.F x (t+1)).1=m.mach.nx (m.mach.F x t).1∧rgL m.R (m.mach.F x (t+1)).2=(rgL m.R (m.mach.F x t).2).set (m.mach.rg (m.mach.F x t).1) (((m.mach.F x t).2 (m.mach.rg (m.mach.F x t).1)+1:Nat):Int):=by
 refine⟨?_,rgL_set hr fun j _=>?_⟩
 ·show m.mach.to _ _=_;unfold Mach.to;rw[if_neg (by omega)]
 ·show(if m.mach.op (m.mach.F x t).1=0∧m.mach.rg (m.mach.F x t).1=j then(m.mach.F x t).2 j+1 else if m.mach.op (m.mach.F x t).1=1∧m.mach.rg (m.mach.F x t).1=j then(m.mach.F x t).2 j-1 else(m.mach.F x t).2 j)=_;by_cases e:m.mach.rg (m.mach.F x t).1=j
  ·rw[if_pos ⟨h,e⟩,if_pos e,e]
  ·rw[if_neg fun k=>e k.2,if_neg fun k=>e k.2,if_neg e]
theorem F_dec (h:m.mach.op (m.mach.F x t).1=1) (hr:m.mach.rg (m.mach.F x t).1<m.R):(m.mach.F x (t+1)).1=m.mach.nx (m.mach.F x t).1∧rgL m.R (m.mach.F x (t+1)).2=(rgL m.R (m.mach.F x t).2).set (m.mach.rg (m.mach.F x t).1) (((m.mach.F x t).2 (m.mach.rg (m.mach.F x t).1)-1:Nat):Int):=by
 refine⟨?_,rgL_set hr fun j _=>?_⟩
 ·show m.mach.to _ _=_;unfold Mach.to;rw[if_neg (by omega)]
 ·show(if m.mach.op (m.mach.F x t).1=0∧m.mach.rg (m.mach.F x t).1=j then(m.mach.F x t).2 j+1 else if m.mach.op (m.mach.F x t).1=1∧m.mach.rg (m.mach.F x t).1=j then(m.mach.F x t).2 j-1 else(m.mach.F x t).2 j)=_;rw[if_neg fun k=>by omega];by_cases e:m.mach.rg (m.mach.F x t).1=j
  ·rw[if_pos ⟨h,e⟩,if_pos e,e]
  ·rw[if_neg fun k=>e k.2,if_neg e]
theorem F_jmp (h:m.mach.op (m.mach.F x t).1=2):(m.mach.F x (t+1)).1=(if (m.mach.F x t).2 (m.mach.rg (m.mach.F x t).1)=0 then m.mach.zr (m.mach.F x t).1 else m.mach.nx (m.mach.F x t).1)∧rgL m.R (m.mach.F x (t+1)).2=rgL m.R (m.mach.F x t).2:=by
 refine⟨?_,rgL_ext fun j _=>?_⟩
 ·show m.mach.to _ _=_;unfold Mach.to;by_cases e:(m.mach.F x t).2 (m.mach.rg (m.mach.F x t).1)=0
  ·rw[if_pos ⟨h,e⟩,if_pos e]
  ·rw[if_neg fun k=>e k.2,if_neg e]
 ·show(if m.mach.op (m.mach.F x t).1=0∧m.mach.rg (m.mach.F x t).1=j then(m.mach.F x t).2 j+1 else if m.mach.op (m.mach.F x t).1=1∧m.mach.rg (m.mach.F x t).1=j then(m.mach.F x t).2 j-1 else(m.mach.F x t).2 j)=_;rw[if_neg fun k=>by omega,if_neg fun k=>by omega]
end
end Go.AL
/- register.Run, Halts, Start, Step. -/
namespace Go.AL
theorem Cm {m:MZ} (h:OkMZ m):((m.R:Nat):Int)=m.regs:=by
 have:=h.r1;show((m.regs.toNat:Nat):Int)=m.regs;omega
theorem Dt {m:MZ} (h:OkMZ m) {a:Nat} (ha:a<m.l):m.at a=haltZ∨((0≤(m.at a).rg∧(m.at a).rg<m.R)∧(0≤(m.at a).nx∧(m.at a).nx<m.l)∧(((m.at a).op=2∧0≤(m.at a).zr∧(m.at a).zr<m.l∧(m.at a).nx≠a)∨(((m.at a).op=0∨(m.at a).op=1)∧(m.at a).zr=0))):=by
 have:=Cm h;rcases h.ins a ha with k|⟨⟨k1,k2⟩,k3⟩
 ·exact .inl k
 ·exact .inr ⟨⟨k1,by omega⟩,k3⟩
theorem rgL_all {R:Nat} {f:Nat→Nat} {B:Nat} (h:∀j,f j≤B):∀v∈rgL R f,0≤v∧v≤(B:Int):=by
 intro v hv;obtain⟨j,_,rfl⟩:=List.mem_map.1 hv;have:=h j;exact⟨Int.natCast_nonneg _,by omega⟩
def inF (x:List Int):Nat→Nat:=fun j=>(x.getD j 0).toNat
theorem inF_le {m:MZ} {x:List Int} (hx:OkIn m x) (j:Nat):inF x j≤1000:=by
 unfold inF;rw[List.getD_eq_getElem?_getD]
 cases h:x[j]? with
 | none=>simp
 | some v=>have:=hx.2 v (List.mem_of_getElem? h); simp only[Option.getD_some]; omega
theorem inF_eq {m:MZ} {x:List Int} (hx:OkIn m x):rgL m.R (inF x)=x:=by
 have ex:=rgL_of fun v hv=>(hx.2 v hv).1;rw[show m.R=x.length from hx.1.symm];exact ex.symm
end Go.AL
namespace Go.Proofs.YtmmfloplhopioaaGreat
open Go.AL
theorem rnOverC_ok (m:MZ) (hm:OkMZ m) (c:Nat×(Nat→Nat)) (hc:c.1<m.l):IoFn Tryz.prog 85 [.ptr 900 0] (rnB m c.1 (rgL m.R c.2)) (.ret (aB (decide (m.mach.Over c)))) (rnB m c.1 (rgL m.R c.2)):=by
 have hI:=Dt hm hc
 have hz:m.code[Int.toNat ((c.1:Nat):Int)]? = some (m.at c.1):=by rw[Int.toNat_natCast]; exact Em hc
 refine rnOver_ok m c.1 (m.at c.1) _ hz (fun h=>?_) _ ?_
 ·rcases hI with k|⟨k,_⟩
  ·rw[k]at h; exact absurd rfl h
  ·rw[Bm]; exact k
 ·rw[decide_eq_true_iff];show((m.at c.1).op.toNat=3∨((m.at c.1).op.toNat=1∧c.2 (m.at c.1).rg.toNat=0))↔_;rcases hI with k|⟨⟨k1,k2⟩,k3,k4⟩
  ·rw[k]; exact⟨fun _ => .inl rfl,fun _ => .inl rfl⟩
  ·have hg:(rgL m.R c.2)[(m.at c.1).rg.toNat]? = some ((c.2 (m.at c.1).rg.toNat:Nat):Int):=DI (by omega);rw[hg]
   have:(some ((c.2 (m.at c.1).rg.toNat:Nat):Int)=some 0)↔c.2 (m.at c.1).rg.toNat=0:=by
    constructor
    ·intro h; injection h with h; omega
    ·intro h; rw[h]; rfl
   rw[this]
   have h1:(m.at c.1).op=0∨(m.at c.1).op=1∨(m.at c.1).op=2:=by omega
   constructor<;>intro h<;>omega
theorem rnStepF_ok (m:MZ) (hm:OkMZ m) (x:Nat→Nat) (t:Nat) (hc:(m.mach.F x t).1<m.l) (hno:¬m.mach.Over (m.mach.F x t)) (hb:∀j,(m.mach.F x t).2 j<1099511627776):IoFn Tryz.prog 86 [.ptr 900 0] (rnB m (m.mach.F x t).1 (rgL m.R (m.mach.F x t).2)) (.ret (aB true)) (rnB m (m.mach.F x (t+1)).1 (rgL m.R (m.mach.F x (t+1)).2)):=by
 have hI:=Dt hm hc
 have hz:m.code[Int.toNat (((m.mach.F x t).1:Nat):Int)]? = some (m.at (m.mach.F x t).1):=by rw[Int.toNat_natCast]; exact Em hc
 obtain⟨z,ez⟩:∃z,z=m.at (m.mach.F x t).1:=⟨_,rfl⟩
 have eo:m.mach.op (m.mach.F x t).1=z.op.toNat:=by rw[ez]; rfl
 have er:m.mach.rg (m.mach.F x t).1=z.rg.toNat:=by rw[ez]; rfl
 have en:m.mach.nx (m.mach.F x t).1=z.nx.toNat:=by rw[ez]; rfl
 have ezr:m.mach.zr (m.mach.F x t).1=z.zr.toNat:=by rw[ez]; rfl
 rw[←ez]at hI hz;rcases hI with k|⟨⟨k1,k2⟩,⟨k3,k3'⟩,k4⟩
 ·exact absurd (.inl (by rw[eo,k]; rfl)) hno
 ·have hrl:0≤z.rg∧z.rg<(rgL m.R (m.mach.F x t).2).length:=by rw[Bm]; exact⟨k1,k2⟩
  have hv:(rgL m.R (m.mach.F x t).2)[z.rg.toNat]? = some (((m.mach.F x t).2 z.rg.toNat:Nat):Int):=DI (by omega);have hbv:=hb z.rg.toNat;rcases(show z.op=0∨z.op=1∨z.op=2 by omega)with h|h|h
  ·obtain⟨f1,f2⟩:=F_inc (m:=m) (x:=x) (t:=t) (by rw[eo,h]; rfl) (by rw[er]; omega);have:=rnInc_ok m _ z _ _ hz h hrl hv (by omega) (by omega);rw[f1,f2,en,er,show((z.nx.toNat:Nat):Int)=z.nx by omega];exact this
  ·obtain⟨f1,f2⟩:=F_dec (m:=m) (x:=x) (t:=t) (by rw[eo,h]; rfl) (by rw[er]; omega);have:=rnDec_ok m _ z _ _ hz h hrl hv (by omega) (by omega);have hpos:(m.mach.F x t).2 z.rg.toNat≠0:=fun k=>hno (.inr ⟨by rw[eo,h]; rfl,by rw[er]; exact k⟩);rw[f1,f2,en,er,show((z.nx.toNat:Nat):Int)=z.nx by omega,show(((m.mach.F x t).2 z.rg.toNat-1:Nat):Int)=(((m.mach.F x t).2 z.rg.toNat:Nat):Int)-1 by omega];exact this
  ·obtain⟨f1,f2⟩:=F_jmp (m:=m) (x:=x) (t:=t) (by rw[eo,h]; rfl);have:=rnJmp_ok m _ z _ _ hz h hrl hv (by omega);rw[f1,f2,en,er,ezr];by_cases e:(m.mach.F x t).2 z.rg.toNat=0
   ·rw[if_pos e,show((z.zr.toNat:Nat):Int)=z.zr by omega];rw[if_pos (by omega)]at this;exact this
   ·rw[if_neg e,show((z.nx.toNat:Nat):Int)=z.nx by omega];rw[if_neg (by omega)]at this;exact this
theorem rnRun_ok (m:MZ) (hm:OkMZ m) (x:Nat→Nat) (n k:Nat) (hn:n≤1000000) (hx:∀j,x j≤1000) (hk:k≤n) (h1:∀t,t<k→¬m.mach.Over (m.mach.F x t)) (h2:k=n∨m.mach.Over (m.mach.F x k)):IoFn Tryz.prog 140 [.ptr 900 0,aN n] (rnB m (m.mach.F x 0).1 (rgL m.R (m.mach.F x 0).2)) (.ret (.tup [aN k,aB true])) (rnB m (m.mach.F x k).1 (rgL m.R (m.mach.F x k).2)):=by
 refine AH Tryz.func140 rfl Tryz.ntmps140 rfl rfl rfl ?_;have hlt:=Mach.F_lt hm.mach x h1;(repeat' first|refine qv ?_|apply qn|apply qs|apply qr|apply qb);refine AWP.loop (G:=Nat) (fun t=>t≤k) (fun t=>AO [900,901] [(0,.ptr 900 0),(1,aN n),(7,aN n),(8,aN t)] (rnB m (m.mach.F x t).1 (rgL m.R (m.mach.F x t).2))) (fun t=>n-t) 0 (by omega) ?_ ?_
 ·refine Ent.of [] ?_ ?_ rfl rfl;(repeat' first|exact True.intro|refine⟨⟨AA _,rfl⟩,?_⟩|refine⟨⟨⟨_,rfl,BLe.cells (AB _)⟩,rfl⟩,?_⟩|refine⟨⟨⟨_,rfl,BLe.row rfl⟩,rfl⟩,?_⟩|fail)
 ·intro t ht;have ho:=rnOverC_ok m hm (m.mach.F x t) (hlt t ht);rcases Nat.lt_or_ge t k with hk1|hk1
  ·rw[decide_eq_false (h1 t hk1)]at ho
   have hs:=rnStepF_ok m hm x t (hlt t ht) (h1 t hk1) fun j=>by
    have:=m.mach.F_le (x:=x) j t;have:=hx j;omega
   (repeat' first|refine qv ?_|apply qn|apply qs|apply qr|(refine AD rfl ?_ ?_<;>intro _<;>try(exfalso; omega))|apply qb|apply qk);refine A9 rfl [] ho rfl rfl (AB _) rfl ⟨⟨⟨_,rfl,BLe.cells (AB _)⟩,rfl⟩,⟨⟨_,rfl,BLe.row rfl⟩,rfl⟩,trivial⟩ rfl rfl rfl rfl rfl ?_;(repeat' first|refine qv ?_|apply qn|apply qs|apply qr|refine AF rfl ?_|apply qk);refine A9 rfl [] hs rfl rfl (AB _) rfl ⟨⟨⟨_,rfl,BLe.cells (AB _)⟩,rfl⟩,⟨⟨_,rfl,BLe.row rfl⟩,rfl⟩,trivial⟩ rfl rfl rfl rfl rfl ?_;(repeat' first|refine qv ?_|apply qn|apply qr|refine qw ?_|refine AF rfl ?_|apply qk);refine LoopEnd.of (t+1) (by omega) (by omega) ?_;refine Ent.of [] ?_ ?_ rfl rfl;(repeat' first|exact True.intro|refine⟨⟨AA _,rfl⟩,?_⟩|refine⟨⟨⟨_,rfl,BLe.cells (AB _)⟩,rfl⟩,?_⟩|refine⟨⟨⟨_,rfl,BLe.row rfl⟩,rfl⟩,?_⟩|fail)
  ·have etk:t=k:=by omega
   subst etk;rcases h2 with h|h
   ·subst h;(repeat' first|refine qv ?_|apply qn|apply qs|apply qr|(refine AD rfl ?_ ?_<;>intro _<;>try(exfalso; omega))|apply qx|apply qt);exact⟨⟨[],_,_,AM _ _ _,rfl,AA _,rfl,⟨⟨⟨_,rfl,BLe.cells (AB _)⟩,rfl⟩,⟨⟨_,rfl,BLe.row rfl⟩,rfl⟩,trivial⟩,rfl,rfl⟩⟩
   ·rw[decide_eq_true h]at ho;(repeat' first|refine qv ?_|apply qn|apply qs|apply qr|(refine AD rfl ?_ ?_<;>intro _<;>try(exfalso; omega))|apply qb|apply qk|apply qx|apply qt)
    ·refine A9 rfl [] ho rfl rfl (AB _) rfl ⟨⟨⟨_,rfl,BLe.cells (AB _)⟩,rfl⟩,⟨⟨_,rfl,BLe.row rfl⟩,rfl⟩,trivial⟩ rfl rfl rfl rfl rfl ?_;(repeat' first|refine qv ?_|apply qn|apply qs|apply qr|refine AJ rfl ?_|apply qt);exact⟨⟨[],_,_,AM _ _ _,rfl,AA _,rfl,⟨⟨⟨_,rfl,BLe.cells (AB _)⟩,rfl⟩,⟨⟨_,rfl,BLe.row rfl⟩,rfl⟩,trivial⟩,rfl,rfl⟩⟩
    ·have:t=n:=by omega
     subst this;exact⟨⟨[],_,_,AM _ _ _,rfl,AA _,rfl,⟨⟨⟨_,rfl,BLe.cells (AB _)⟩,rfl⟩,⟨⟨_,rfl,BLe.row rfl⟩,rfl⟩,trivial⟩,rfl,rfl⟩⟩
theorem rgFits_ok (m:MZ) (hm:OkMZ m) (a:Nat) (rs:List Int) (ha:a<m.l) (hl:rs.length=m.R) (hr:∀v∈rs,0≤v∧v≤1099511627776):PureFn Tryz.prog 83 [aMz m,aSt a rs] (aB true):=by
 refine AC Tryz.func83 rfl Tryz.ntmps83 rfl rfl ?_;have hR:=Cm hm;have h4:=hm.r4;have h15:m.code.length≤15:=hm.l15;have hlt:a<m.code.length:=ha;(repeat' first|refine qv ?_|apply qn|apply qs|apply qr|refine qe ?_|fail);refine Fl.call rfl (Br m (by omega) true ⟨fun _=>hm,fun _=>rfl⟩) rfl rfl rfl (AB _) ?_;(repeat' first|refine qv ?_|(refine AG rfl rfl ?_ ?_<;>intro _<;>try(exfalso; omega)));have hc:=containsI_ok 149 (fun v=>decide (v<0∨1099511627776<v)) rs (by omega) rgFits1_ok;rw[anyOut.2 hr]at hc;refine qc (hc) ?_;(repeat' first|refine qv ?_|apply qn|apply qt);exact RetOk.of rfl (AA _)
theorem rgStart_ok (m:MZ) (hm:OkMZ m) (x:List Int) (hx:OkIn m x):PureFn Tryz.prog 38 [aMz m,aI x] (.tup [aSt 0 x,aN 0]):=by
 refine AC Tryz.func38 rfl Tryz.ntmps38 rfl rfl ?_;have hR:=Cm hm;have h1:=hm.r1;have h4:=hm.r4;have h15:m.code.length≤15:=hm.l15;have hxl:=hx.1;(repeat' first|refine qv ?_|apply qn|apply qs|apply qr|refine qe ?_|fail);refine Fl.call rfl (Br m (by omega) true ⟨fun _=>hm,fun _=>rfl⟩) rfl rfl rfl (AB _) ?_;(repeat' first|refine qv ?_|apply qn|apply qs|apply qr|refine AF rfl ?_|apply qk);refine Fl.call rfl (rgInput_ok m x (by omega) (by omega) true ⟨fun _=>hx,fun _=>rfl⟩) rfl rfl rfl (AB _) ?_;(repeat' first|refine qv ?_|apply qn|apply qs|apply qr|refine AF rfl ?_|apply qk);refine qc (cloneI_ok x (by omega)) ?_;(repeat' first|refine qv ?_|apply qn|refine qe ?_|apply qt);exact RetOk.of rfl (AA _)
theorem rgRun_ok (m:MZ) (hm:OkMZ m) (x:Nat→Nat) (n k:Nat) (hn:n≤1000000) (hx:∀j,x j≤1000) (hk:k≤n) (h1:∀t,t<k→¬m.mach.Over (m.mach.F x t)) (h2:k=n∨m.mach.Over (m.mach.F x k)):PureFn Tryz.prog 74 [aMz m,aSt 0 (rgL m.R x),aN n] (.tup [aSt (m.mach.F x k).1 (rgL m.R (m.mach.F x k).2),aN k,aN 0]):=by
 refine AC Tryz.func74 rfl Tryz.ntmps74 rfl rfl ?_;have hR:=Cm hm;have hr1:=hm.r1;have hr4:=hm.r4
 have hf:=rgFits_ok m hm 0 (rgL m.R x) hm.l1 (Bm _ _) fun v hv=>by
  have:=rgL_all hx v hv;omega
 have hb:=rnBegin_ok m 0 (rgL m.R x) (by rw[Bm]; omega) fun h=>by
  have:=congrArg List.length h;rw[Bm]at this;simp at this;omega
 have hrun:=rnRun_ok m hm x n k hn hx hk h1 h2;(repeat' first|refine qv ?_|apply qn|apply qs|apply qr|refine qe ?_|fail);refine qc (hf) ?_;(repeat' first|refine qv ?_|apply qn|apply qs|apply qr|refine AF rfl ?_|(refine AD rfl ?_ ?_<;>intro _<;>try(exfalso; omega))|apply qk);refine A9 rfl [(900,26),(901,901)] hb rfl rfl (AB _) rfl trivial rfl rfl rfl rfl rfl ?_;(repeat' first|refine qv ?_|apply qn|apply qs|apply qr);refine A9 rfl [(900,26),(901,901)] hrun rfl rfl (AB _) rfl ⟨⟨⟨_,rfl,BLe.cells (AB _)⟩,rfl⟩,⟨⟨_,rfl,BLe.row rfl⟩,rfl⟩,trivial⟩ rfl rfl rfl rfl rfl ?_;(repeat' first|refine qv ?_|apply qn|apply qs|apply qr|refine qe ?_|refine AF rfl ?_|apply qk|apply qt);refine Ao (Ent.freeze 901 rfl) ?_;exact RetOk.of rfl (AA _)
theorem rgHalts_ok (m:MZ) (hm:OkMZ m) (x:List Int) (hx:OkIn m x) (n k:Nat) (hn:n≤1000000) (hk:k≤n) (h1:∀t,t<k→¬m.mach.Over (m.mach.F (inF x) t)) (h2:k=n∨m.mach.Over (m.mach.F (inF x) k)):PureFn Tryz.prog 32 [aMz m,aI x,aN n] (if m.mach.op (m.mach.F (inF x) k).1=3 then .tup [aN k,aI (rgL m.R (m.mach.F (inF x) k).2),aN 0]else .tup [aN 0,.v (.slice none 0 0),aN 6]):=by
 refine AC Tryz.func32 rfl Tryz.ntmps32 rfl rfl ?_;have hs:=rgStart_ok m hm x hx;have hr:=rgRun_ok m hm (inF x) n k hn (inF_le hx) hk h1 h2;rw[inF_eq hx]at hr;have hc:=Mach.F_lt hm.mach (inF x) h1 k (Nat.le_refl _);have hI:=Dt hm hc
 have hz:m.code[Int.toNat (((m.mach.F (inF x) k).1:Nat):Int)]? = some (m.at (m.mach.F (inF x) k).1):=by rw[Int.toNat_natCast]; exact Em hc
 have hlt:(m.mach.F (inF x) k).1<m.code.length:=hc;have eo:m.mach.op (m.mach.F (inF x) k).1=(m.at (m.mach.F (inF x) k).1).op.toNat:=rfl;obtain⟨z,ez⟩:∃z,z=m.at (m.mach.F (inF x) k).1:=⟨_,rfl⟩;rw[eo];rw[←ez]at hI hz ⊢;(repeat' first|refine qv ?_|apply qn|apply qs|apply qr|refine qe ?_|fail);refine qc (hs) ?_;(repeat' first|refine qv ?_|apply qn|apply qs|apply qr|refine qe ?_|refine AF rfl ?_|apply qk);refine qc (hr) ?_;(repeat' first|refine qv ?_|apply qn|refine Fl.nil (fun _=>by kernel_rfl) ?_|apply qs|apply qr|refine qe ?_|refine AF rfl ?_|(refine AQ rfl ?_ ?_<;>intro _<;>try(exfalso; omega))|apply qk|apply qt|refine qK ?_|fail)
 ·rename_i h;rw[if_neg (fun k=>h (by omega))];exact RetOk.of rfl (AA _)
 ·rename_i h;rw[if_pos (by omega)];exact RetOk.of rfl (AA _)
theorem rgStep_ok (m:MZ) (hm:OkMZ m) (x:Nat→Nat) (t:Nat) (ht:t≤1000000) (hx:∀j,x j≤1000) (hc:(m.mach.F x t).1<m.l) (ho:¬m.mach.Over (m.mach.F x t)):PureFn Tryz.prog 39 [aMz m,aSt (m.mach.F x t).1 (rgL m.R (m.mach.F x t).2)] (.tup [aSt (m.mach.F x (t+1)).1 (rgL m.R (m.mach.F x (t+1)).2),aN 0]):=by
 refine AC Tryz.func39 rfl Tryz.ntmps39 rfl rfl ?_;have hR:=Cm hm;have hr1:=hm.r1;have hr4:=hm.r4
 have hbd:∀j,(m.mach.F x t).2 j≤1001000:=fun j=>by
  have:=m.mach.F_le (x:=x) j t;have:=hx j;omega
 have hf:=rgFits_ok m hm _ (rgL m.R (m.mach.F x t).2) hc (Bm _ _) fun v hv=>by
  have:=rgL_all hbd v hv;omega
 have hb:=rnBegin_ok m (m.mach.F x t).1 (rgL m.R (m.mach.F x t).2) (by rw[Bm]; omega) fun h=>by
  have:=congrArg List.length h;rw[Bm]at this;simp at this;omega
 have hov:=rnOverC_ok m hm (m.mach.F x t) hc;rw[decide_eq_false ho]at hov
 have hst:=rnStepF_ok m hm x t hc ho fun j=>by have:=hbd j; omega
 (repeat' first|refine qv ?_|apply qn|apply qs|apply qr|refine qe ?_|fail);refine qc (hf) ?_;(repeat' first|refine qv ?_|apply qn|apply qs|apply qr|refine AF rfl ?_|apply qk);refine A9 rfl [(900,14),(901,901)] hb rfl rfl (AB _) rfl trivial rfl rfl rfl rfl rfl ?_;(repeat' first|refine qv ?_|apply qn|apply qs|apply qr);refine A9 rfl [(900,14),(901,901)] hov rfl rfl (AB _) rfl ⟨⟨⟨_,rfl,BLe.cells (AB _)⟩,rfl⟩,⟨⟨_,rfl,BLe.row rfl⟩,rfl⟩,trivial⟩ rfl rfl rfl rfl rfl ?_;(repeat' first|refine qv ?_|apply qn|apply qs|apply qr|refine AF rfl ?_|apply qk);refine A9 rfl [(900,14),(901,901)] hst rfl rfl (AB _) rfl ⟨⟨⟨_,rfl,BLe.cells (AB _)⟩,rfl⟩,⟨⟨_,rfl,BLe.row rfl⟩,rfl⟩,trivial⟩ rfl rfl rfl rfl rfl ?_;(repeat' first|refine qv ?_|apply qn|apply qs|apply qr|refine qe ?_|refine AF rfl ?_|apply qk|apply qt);refine Ao (Ent.freeze 901 rfl) ?_;exact RetOk.of rfl (AA _)
end Go.Proofs.YtmmfloplhopioaaGreat
/- history's maker: goes, changes; the system. -/
namespace Go.AL
theorem go_len {m:MZ}:∀i,((List.range i).flatMap (fun k=>(hsGo m k (m.at k)).map (lkZ m))).length≤2*i
 | 0=>by simp
 | i+1=>by
  have ih:=go_len (m:=m) i;rw[List.range_succ,List.flatMap_append,List.length_append]
  have:((hsGo m i (m.at i)).map (lkZ m)).length≤2:=by
   rw[List.length_map];unfold hsGo;split
   ·simp
   ·split<;>simp
  simp only[List.flatMap_cons,List.flatMap_nil,List.append_nil];omega
theorem go_succ {m:MZ} (L:List LZ) (i:Nat):L++(List.range (i+1)).flatMap (fun k=>(hsGo m k (m.at k)).map (lkZ m))=L++(List.range i).flatMap (fun k=>(hsGo m k (m.at k)).map (lkZ m))++(hsGo m i (m.at i)).map (lkZ m):=by
 rw[List.range_succ,List.flatMap_append,List.append_assoc];simp
end Go.AL
namespace Go.Proofs.YtmmfloplhopioaaGreat
open Go.AL
set_option maxHeartbeats 1000000 in
theorem mkGoes_ok (m:MZ) (hm:OkMZ m) (x:List Int) (hx:OkIn m x) (L:List LZ) (hL:L.length≤1000) (i:Nat) (hi:i<m.l):IoGn Tryz.prog 112 [.ptr 900 0,aN i,aIz (m.at i)] (kB m x (kQ m) (kAll m) L) (.tup []) (kBr 902 m x (kQ m) (kAll m) (L++(hsGo m i (m.at i)).map (lkZ m))):=by
 have hV:=hm.V32;have hl:m.code.length≤15:=hm.l15;have hl2:m.l=m.code.length:=rfl;have hR4:=hm.r4;have hR1:=hm.r1;have hR:m.R=m.regs.toNat:=rfl;have hVe:m.V=3+m.code.length+2*m.R:=rfl;have hI:=Dt hm hi;have hsm:=fun s hs=>DC hm hx s (hsK_G hi hs);have q:=(Ba hm.V6).1;have vi:=AN (V:=m.V) (i:=3+i) (by omega);have here:=sz_here hm hi;obtain⟨⟨op,r0,n0,k0⟩,ez⟩:∃z,z=m.at i:=⟨_,rfl⟩;rw[←ez]at hI hsm ⊢;by_cases h3:op=3
 ·subst h3;show IoGn Tryz.prog 112 [.ptr 900 0,aN i,.agg [aN 3,aN r0,aN n0,aN k0]] _ _ _;refine CG Tryz.func112 rfl Tryz.ntmps112 rfl rfl ?_;(repeat' first|refine qv ?_|apply qn|apply qs|apply qr|refine qe ?_|fail);refine qc (Bw m x i (by omega)) ?_;refine qc (CB m.V (3+i) (by omega) (by omega)) ?_;refine ql eP [mkP m.V (hsQ m.V),mkP m.V (varU m.V (3+i))] ?_;refine qc (Cy m.V (by omega) [hsQ m.V,varU m.V (3+i)] (by simp) (Ck q vi (by omega) (by decide) (by decide) (by decide) (by omega) (by omega) (by omega))) ?_;(repeat' first|refine qv ?_|apply qn|refine Fl.nil (fun _=>by kernel_rfl) ?_|apply qs|apply qr|refine qe ?_|refine AJ rfl ?_|apply qb|apply qk);refine⟨⟨[(902,901)],_,_,AM _ _ _,rfl,AA _,rfl,⟨⟨⟨_,rfl,BLe.cells (AB _)⟩,rfl⟩,⟨⟨_,rfl,BLe.row ?_⟩,rfl⟩,trivial⟩,rfl,rfl⟩⟩;simp[hsGo]
 ·rcases hI with kk|⟨⟨a1,a2⟩,⟨b1,b2⟩,kk⟩
  ·injection kk with kk; exact absurd kk h3
  simp only at a1 a2 b1 b2 kk;obtain⟨r,rfl⟩:∃r:Nat,r0=r:=⟨r0.toNat,by omega⟩;obtain⟨n,rfl⟩:∃n:Nat,n0=n:=⟨n0.toNat,by omega⟩;have vn:=AN (V:=m.V) (i:=3+n) (by omega);by_cases h2:op=2∧k0≠n
  ·obtain⟨h2,hkn⟩:=h2;obtain⟨k,rfl⟩:∃k:Nat,k0=k:=⟨k0.toNat,by omega⟩;have vk:=AN (V:=m.V) (i:=3+k) (by omega);have v2:=AN (V:=m.V) (i:=2) (by omega);have vr:=AN (V:=m.V) (i:=3+m.l+r) (by omega);have c2:=SzU.con m.V 2
   have ego:hsGo m i ⟨op,r,n,k⟩=[(3,[Ai m i,An [] [varU m.V (3+n),varU m.V (3+k)]]),(3,[Ai m i,C5 m ⟨op,r,n,k⟩])]:=by
    unfold hsGo;rw[if_neg h3,if_pos ⟨h2,hkn⟩]; rfl
   have s1:=hsm _ (by rw[ego]; exact List.mem_cons_self);have s2:=hsm _ (by rw[ego]; exact List.mem_cons_of_mem _ List.mem_cons_self)
   have e1:SzU m.V 2 2 1 (A0 (conU m.V 1) [hsQ m.V,varU m.V 2]):=by rw[BL q]; exact(q.mul v2).mono (by omega) (by decide) (by omega)
   have e2:SzU m.V 1 2 1 (A0 (conU m.V 1) [conU m.V 2,varU m.V (3+m.l+r)]):=by rw[BL c2]; exact(c2.mul vr).mono (by omega) (by decide) (by omega)
   have e3:SzU m.V 2 3 2 (An [] [varU m.V (3+n),A0 (conU m.V 1) [hsQ m.V,varU m.V 2]]):=by rw[CL vn e1]; exact(vn.add e1).mono (by omega) (by decide) (by omega)
   show IoGn Tryz.prog 112 [.ptr 900 0,aN i,.agg [aN op,aN (r:Int),aN (n:Int),aN (k:Int)]] _ _ _;refine CG Tryz.func112 rfl Tryz.ntmps112 rfl rfl ?_;(repeat' first|refine qv ?_|apply qn|apply qs|apply qr|refine qe ?_|fail);refine qc (Bw m x i (by omega)) ?_;refine qc (CB m.V (3+i) (by omega) (by omega)) ?_;refine ql eP [mkP m.V (hsQ m.V),mkP m.V (varU m.V (3+i))] ?_;refine qc (Cy m.V (by omega) [hsQ m.V,varU m.V (3+i)] (by simp) (Ck q vi (by omega) (by decide) (by decide) (by decide) (by omega) (by omega) (by omega))) ?_;(repeat' first|refine qv ?_|apply qn|refine Fl.nil (fun _=>by kernel_rfl) ?_|apply qs|apply qr|refine qe ?_|(refine AD rfl ?_ ?_<;>intro _<;>try(exfalso; omega))|(refine AQ rfl ?_ ?_<;>intro _<;>try(exfalso; omega))|apply qb|(refine AG rfl rfl ?_ ?_<;>intro _<;>try(exfalso; omega)));refine qc (Bw m x n (by omega)) ?_;refine qc (CB m.V (3+n) (by omega) (by omega)) ?_;(repeat' first|refine qv ?_|refine Fl.nil (fun _=>by kernel_rfl) ?_|apply qs|apply qr|refine qe ?_|fail);refine qc (Bw m x k (by omega)) ?_;refine qc (CB m.V (3+k) (by omega) (by omega)) ?_;refine ql eP [mkP m.V (varU m.V (3+n)),mkP m.V (varU m.V (3+k))] ?_;refine qc (Dk m.V (by omega) [varU m.V (3+n),varU m.V (3+k)] (by simp) (Dj vn vk (by omega) (by omega) (by decide) (by omega))) ?_;refine ql eP [mkP m.V (Ai m i),mkP m.V (An [] [varU m.V (3+n),varU m.V (3+k)])] ?_;refine qG [(902,94)] (Cw m hm x (kQ m) (kAll m) L (by omega) 3 [Ai m i,An [] [varU m.V (3+n),varU m.V (3+k)]] s1) ?_;(repeat' first|refine qv ?_|refine Fl.nil (fun _=>by kernel_rfl) ?_|apply qr);refine qc (CB m.V 2 (by omega) (by omega)) ?_;refine ql eP [mkP m.V (hsQ m.V),mkP m.V (varU m.V 2)] ?_;refine qc (Cy m.V (by omega) [hsQ m.V,varU m.V 2] (by simp) (Ck q v2 (by omega) (by decide) (by decide) (by decide) (by omega) (by omega) (by omega))) ?_;refine ql eP [mkP m.V (varU m.V (3+n)),mkP m.V (A0 (conU m.V 1) [hsQ m.V,varU m.V 2])] ?_;refine qc (Dk m.V (by omega) [varU m.V (3+n),A0 (conU m.V 1) [hsQ m.V,varU m.V 2]] (by simp) (Dj vn e1 (by omega) (by omega) (by decide) (by omega))) ?_;(repeat' first|refine qv ?_|fail);refine qc (EK m.V 2 (by omega) (by omega) (by omega)) ?_;(repeat' first|refine qv ?_|fail);refine qc (szReg_ok m x r (by omega) (by omega)) ?_;refine qc (CB m.V (3+m.l+r) (by omega) (by omega)) ?_;refine ql eP [mkP m.V (conU m.V 2),mkP m.V (varU m.V (3+m.l+r))] ?_;refine qc (Cy m.V (by omega) [conU m.V 2,varU m.V (3+m.l+r)] (by simp) (Ck c2 vr (by omega) (by decide) (by decide) (by decide) (by omega) (by omega) (by omega))) ?_;refine Fl.call rfl (kSub_ok m.V (by omega) _ _ (C5 m ⟨op,r,n,k⟩) (e3.chk (by omega) (by omega) (by omega)) (e2.chk (by omega) (by omega) (by omega)) (e3.subChk e2 (by omega) (by omega) (by omega) (by omega))) rfl rfl rfl (AB _) ?_;refine ql eP [mkP m.V (Ai m i),mkP m.V (C5 m ⟨op,r,n,k⟩)] ?_;refine CI rfl [(901,94),(902,148)] (Cw m hm x (kQ m) (kAll m) _ (by simp; omega) 3 [Ai m i,C5 m ⟨op,r,n,k⟩] s2) rfl rfl (AB _) rfl ⟨⟨⟨_,rfl,BLe.cells (AB _)⟩,rfl⟩,⟨⟨_,rfl,BLe.row rfl⟩,rfl⟩,trivial⟩ rfl rfl rfl rfl rfl ?_;(repeat' first|refine Fl.nil (fun _=>by kernel_rfl) ?_|fail);refine⟨⟨[(902,148)],_,_,AM _ _ _,rfl,AA _,rfl,⟨⟨⟨_,rfl,BLe.cells (AB _)⟩,rfl⟩,⟨⟨_,rfl,BLe.row ?_⟩,rfl⟩,trivial⟩,rfl,rfl⟩⟩;rw[ego]; simp
  ·have ego:hsGo m i ⟨op,r,n,k0⟩=[(3,[Ai m i,varU m.V (3+n)])]:=by
    unfold hsGo;rw[if_neg h3,if_neg h2]; rfl
   have s1:=hsm _ (by rw[ego]; exact List.mem_cons_self);show IoGn Tryz.prog 112 [.ptr 900 0,aN i,.agg [aN op,aN (r:Int),aN (n:Int),aN k0]] _ _ _;refine CG Tryz.func112 rfl Tryz.ntmps112 rfl rfl ?_;(repeat' first|refine qv ?_|apply qn|apply qs|apply qr|refine qe ?_|fail);refine qc (Bw m x i (by omega)) ?_;refine qc (CB m.V (3+i) (by omega) (by omega)) ?_;refine ql eP [mkP m.V (hsQ m.V),mkP m.V (varU m.V (3+i))] ?_;refine qc (Cy m.V (by omega) [hsQ m.V,varU m.V (3+i)] (by simp) (Ck q vi (by omega) (by decide) (by decide) (by decide) (by omega) (by omega) (by omega))) ?_;(repeat' first|refine qv ?_|apply qn|refine Fl.nil (fun _=>by kernel_rfl) ?_|apply qs|apply qr|refine qe ?_|refine Fl.skip rfl rfl ?_|refine AF rfl ?_|(refine AD rfl ?_ ?_<;>intro _<;>try(exfalso; omega))|(refine AQ rfl ?_ ?_<;>intro _<;>try(exfalso; omega))|apply qb|(refine AG rfl rfl ?_ ?_<;>intro _<;>try(exfalso; omega)))
   all_goals (refine Fl.call rfl (Bw m x n (by omega)) rfl rfl rfl (AB _) ?_)
   all_goals skip
   all_goals (refine Fl.call rfl (CB m.V (3+n) (by omega) (by omega)) rfl rfl rfl (AB _) ?_)
   all_goals skip
   all_goals (refine Fl.lit rfl rfl rfl rfl rfl eP [mkP m.V (Ai m i),mkP m.V (varU m.V (3+n))] rfl rfl rfl rfl (by intro _ _; rfl) rfl ?_)
   all_goals skip
   all_goals (refine CI rfl [(902,44)] (Cw m hm x (kQ m) (kAll m) L (by omega) 3 [Ai m i,varU m.V (3+n)] s1) rfl rfl (AB _) rfl ⟨⟨⟨_,rfl,BLe.cells (AB _)⟩,rfl⟩,⟨⟨_,rfl,BLe.row rfl⟩,rfl⟩,trivial⟩ rfl rfl rfl rfl rfl ?_)
   all_goals repeat'(first|refine Fl.nil (fun _=>by kernel_rfl) ?_|fail)
   all_goals (refine⟨⟨[(902,44)],_,_,AM _ _ _,rfl,AA _,rfl,⟨⟨⟨_,rfl,BLe.cells (AB _)⟩,rfl⟩,⟨⟨_,rfl,BLe.row ?_⟩,rfl⟩,trivial⟩,rfl,rfl⟩⟩)
   all_goals (rw[ego]; rfl)
abbrev eB (j:Nat):List (AL.Id×Bx):=[(904,.cells [.ptr 900 0] 139),(905,.cells [aN j] 3)]
theorem mkDoes_ok (m:MZ) (hm:OkMZ m) (x:List Int) (L:List LZ) (op:Int) (j:Nat):IoFn Tryz.prog 164 ([aN op]++[.ptr 904 0,.ptr 905 0]) (kB m x (kQ m) (kAll m) L++eB j) (.ret (aP (mkP m.V (BI m op j)))) (kB m x (kQ m) (kAll m) L++eB j):=by
 refine AH Tryz.func164 rfl Tryz.ntmps164 rfl rfl rfl ?_;have hV:=hm.V32;have q:=(Ba hm.V6).1;have sm:=DZ hm (fun y=>decide (y.op=op)&&decide (y.rg=(j:Int)));(repeat' first|refine qv ?_|apply qn|apply qs|apply qr|refine qe ?_|fail);refine Fl.ioR rfl [(902,3),(903,905)] (mkSum2_ok m hm x (kQ m) (kAll m) L op j) rfl rfl (AB _) rfl ⟨⟨⟨_,rfl,BLe.cells (AB _)⟩,rfl⟩,⟨⟨_,rfl,BLe.row rfl⟩,rfl⟩,⟨⟨_,rfl,BLe.cells (AB _)⟩,rfl⟩,⟨⟨_,rfl,BLe.cells (AB _)⟩,rfl⟩,trivial⟩ ⟨rfl,rfl,rfl,rfl,trivial⟩ rfl rfl rfl rfl ?_;refine ql eP [mkP m.V (hsQ m.V),mkP m.V (Aj m.V (fun y=>decide (y.op=op)&&decide (y.rg=(j:Int))) 0 m.code (conU m.V 0))] ?_;refine qc (Cy m.V (by omega) [hsQ m.V,Aj m.V (fun y=>decide (y.op=op)&&decide (y.rg=(j:Int))) 0 m.code (conU m.V 0)] (by simp) (Ck q sm (by omega) (by decide) (by decide) (by decide) (by omega) (by omega) (by omega))) ?_;(repeat' first|refine Fl.nil (fun _=>by kernel_rfl) ?_|refine qe ?_|apply qt);exact⟨⟨[],_,_,AM _ _ _,rfl,AA _,rfl,⟨⟨⟨_,rfl,BLe.cells (AB _)⟩,rfl⟩,⟨⟨_,rfl,BLe.row rfl⟩,rfl⟩,⟨⟨_,rfl,BLe.cells (AB _)⟩,rfl⟩,⟨⟨_,rfl,BLe.cells (AB _)⟩,rfl⟩,trivial⟩,rfl,rfl⟩⟩
set_option maxHeartbeats 1000000 in
theorem mkChanges_ok (m:MZ) (hm:OkMZ m) (x:List Int) (hx:OkIn m x) (L:List LZ) (hL:L.length≤1000) (j:Nat) (hj:j<m.R):IoGn Tryz.prog 113 [.ptr 900 0,aN j] (kB m x (kQ m) (kAll m) L) (.tup []) (kBr 902 m x (kQ m) (kAll m) (L++[lkZ m (hsF m x j)])):=by
 refine CG Tryz.func113 rfl Tryz.ntmps113 rfl rfl ?_;have hV:=hm.V32;have hl:m.code.length≤15:=hm.l15;have hl2:m.l=m.code.length:=rfl;have hR4:=hm.r4;have hR1:=hm.r1;have hR:m.R=m.regs.toNat:=rfl;have hVe:m.V=3+m.code.length+2*m.R:=rfl;have hxl:x.length=m.R:=hx.1;have hxb:=getD_in hx j
 have hxj:x[Int.toNat ((j:Nat):Int)]? = some (x.getD j 0):=by
  rw[Int.toNat_natCast,List.getD_eq_getElem?_getD,List.getElem?_eq_getElem (by omega)]; rfl
 have q:=(Ba hm.V6).1;have al:=(Cz hm.V6).1;have vj:=AN (V:=m.V) (i:=3+m.l+j) (by omega);have ve:=AN (V:=m.V) (i:=3+m.l+m.R+j) (by omega);obtain⟨sL,sL2⟩:=sz_L hm hj;obtain⟨sR,okR,sR2⟩:=sz_R0 hm hx hj;have sd:=sz_does hm 1 j;have hsF:=DC hm hx _ (hsK_F (x:=x) hj);have hlast:=hsF.2.2 _ List.mem_cons_self;(repeat' first|refine qv ?_|apply qn|apply qs|apply qr|refine qe ?_|fail);refine qc (szReg_ok m x j (by omega) (by omega)) ?_;refine qc (CB m.V (3+m.l+j) (by omega) (by omega)) ?_;(repeat' first|refine qv ?_|fail);refine qc (szEnd_ok m x j (by omega) (by omega) (by omega) (by omega)) ?_;refine qc (CB m.V (3+m.l+m.R+j) (by omega) (by omega)) ?_;(repeat' first|refine qv ?_|fail);refine ql eP [mkP m.V (varU m.V (3+m.l+m.R+j)),mkP m.V (Bp m.V)] ?_;refine qc (Cy m.V (by omega) [varU m.V (3+m.l+m.R+j),Bp m.V] (by simp) (Ck ve al (by omega) (by decide) (by decide) (by decide) (by omega) (by omega) (by omega))) ?_;refine ql eP [mkP m.V (varU m.V (3+m.l+j)),mkP m.V (A0 (conU m.V 1) [varU m.V (3+m.l+m.R+j),Bp m.V])] ?_;refine qc (Dk m.V (by omega) [varU m.V (3+m.l+j),A0 (conU m.V 1) [varU m.V (3+m.l+m.R+j),Bp m.V]] (by simp) (Dj vj sL2 (by omega) (by omega) (by decide) (by omega))) ?_;(repeat' first|refine qv ?_|refine Fl.nil (fun _=>by kernel_rfl) ?_|apply qs|apply qr|refine qe ?_|refine qK ?_|fail);refine qc (EK m.V (x.getD j 0) (by omega) (by omega) (by omega)) ?_;(repeat' first|refine qv ?_|fail);refine qc (szReg_ok m x j (by omega) (by omega)) ?_;refine qc (CB m.V (3+m.l+j) (by omega) (by omega)) ?_;refine ql eP [mkP m.V (hsQ m.V),mkP m.V (varU m.V (3+m.l+j))] ?_;refine qc (Cy m.V (by omega) [hsQ m.V,varU m.V (3+m.l+j)] (by simp) (Ck q vj (by omega) (by decide) (by decide) (by decide) (by omega) (by omega) (by omega))) ?_;(repeat' first|refine qv ?_|fail);refine Fl.ioVR rfl rfl [(904,2),(905,3)] (mkDoes_ok m hm x L 0 j) rfl rfl (AB _) rfl ⟨⟨⟨_,rfl,BLe.cells (AB _)⟩,rfl⟩,⟨⟨_,rfl,BLe.row rfl⟩,rfl⟩,⟨⟨_,rfl,BLe.cells (AB _)⟩,rfl⟩,⟨⟨_,rfl,BLe.cells (AB _)⟩,rfl⟩,trivial⟩ ⟨rfl,rfl,rfl,rfl,trivial⟩ rfl rfl rfl rfl ?_;refine ql eP [mkP m.V (conU m.V (x.getD j 0)),mkP m.V (A0 (conU m.V 1) [hsQ m.V,varU m.V (3+m.l+j)]),mkP m.V (BI m 0 j)] ?_;refine qc (Dk m.V (by omega) [conU m.V (x.getD j 0),A0 (conU m.V 1) [hsQ m.V,varU m.V (3+m.l+j)],BI m 0 j] (by simp) okR) ?_;(repeat' first|refine qv ?_|fail);refine Fl.ioVR rfl rfl [(904,2),(905,3)] (mkDoes_ok m hm x L 1 j) rfl rfl (AB _) rfl ⟨⟨⟨_,rfl,BLe.cells (AB _)⟩,rfl⟩,⟨⟨_,rfl,BLe.row rfl⟩,rfl⟩,⟨⟨_,rfl,BLe.cells (AB _)⟩,rfl⟩,⟨⟨_,rfl,BLe.cells (AB _)⟩,rfl⟩,trivial⟩ ⟨rfl,rfl,rfl,rfl,trivial⟩ rfl rfl rfl rfl ?_;refine qc (kSub_ok m.V (by omega) (hsR0 m x j) (BI m 1 j) (subL (hsR0 m x j) (BI m 1 j)) (sR.chk (by omega) (by omega) (by omega)) (sd.chk (by omega) (by omega) (by omega)) (sR.subChk sd (by omega) (by omega) (by omega) (by omega))) ?_;(repeat' first|refine qv ?_|refine Fl.nil (fun _=>by kernel_rfl) ?_|apply qr|refine qe ?_|fail);refine qc (kEq_ok m.V (by omega) (hsL m j) (subL (hsR0 m x j) (BI m 1 j)) (subL (hsL m j) (subL (hsR0 m x j) (BI m 1 j))) (sL.chk (by omega) (by omega) (by omega)) ((sR.sub sd).chk (by omega) (by omega) (by omega)) (sL.subChk (sR.sub sd) (by omega) (by omega) (by omega) (by omega)) ⟨by have:=hlast.ln; omega,fun u hu=>(hlast.ex u hu).1⟩) ?_;refine ql eL [BF m.V 0 [subL (hsL m j) (subL (hsR0 m x j) (BI m 1 j))]] ?_;refine qa (hby:=(by dsimp only[List.length_nil,List.length_cons]; omega)) (hm:=(by simp; omega)) (r:=?_);(repeat' first|refine qv ?_|refine Fl.nil (fun _=>by kernel_rfl) ?_|refine qe ?_|fail);exact⟨⟨[(902,108)],_,_,AM _ _ _,rfl,AA _,rfl,⟨⟨⟨_,rfl,BLe.cells (AB _)⟩,rfl⟩,⟨⟨_,rfl,BLe.row rfl⟩,rfl⟩,trivial⟩,rfl,rfl⟩⟩
end Go.Proofs.YtmmfloplhopioaaGreat
/- history's sizesOf, system, System. -/
namespace Go.AL
theorem sumL_snoc (l:List Int) (y:Int):sumL (l++[y])=sumL l+y:=by
 induction l with
 | nil=>simp[sumL]
 | cons x l ih=>simp only[List.cons_append,sumL,ih]; omega
abbrev szZero:AV := .agg [aN 0,.v (.slice none 0 0),.v (.slice none 0 0),aN 0,aN 0]
end Go.AL
namespace Go.Proofs.YtmmfloplhopioaaGreat
open Go.AL
theorem sizesOf_form (m:MZ) (x:List Int) (hl:m.code.length≤100000) (h:¬OkMZ m):PureFn Tryz.prog 45 [aMz m,aI x] (.tup [szZero,aN 1]):=by
 refine AC Tryz.func45 rfl Tryz.ntmps45 rfl rfl ?_;(repeat' first|refine qv ?_|apply qn|apply qs|apply qr|refine qe ?_|fail);refine qc (Br m hl false ⟨fun k=>(by cases k),fun k=>absurd k h⟩) ?_;(repeat' first|refine qv ?_|apply qn|apply qs|apply qr|refine qe ?_|refine AJ rfl ?_|apply qt);exact RetOk.of rfl (AA _)
theorem sizesOf_arg (m:MZ) (x:List Int) (hxl:x.length≤100000) (hm:OkMZ m) (h:¬OkIn m x):PureFn Tryz.prog 45 [aMz m,aI x] (.tup [szZero,aN 2]):=by
 refine AC Tryz.func45 rfl Tryz.ntmps45 rfl rfl ?_;have h1:=hm.r1;have hl:m.code.length≤15:=hm.l15;(repeat' first|refine qv ?_|apply qn|apply qs|apply qr|refine qe ?_|fail);refine Fl.call rfl (Br m (by omega) true ⟨fun _=>hm,fun _=>rfl⟩) rfl rfl rfl (AB _) ?_;(repeat' first|refine qv ?_|apply qn|apply qs|apply qr|refine AF rfl ?_|apply qk);refine qc (rgInput_ok m x hxl (by omega) false ⟨fun k=>(by cases k),fun k=>absurd k h⟩) ?_;(repeat' first|refine qv ?_|apply qn|apply qs|apply qr|refine qe ?_|refine AJ rfl ?_|apply qt);exact RetOk.of rfl (AA _)
theorem C8 (m:MZ) (x:List Int) (hm:OkMZ m) (hx:OkIn m x):PureFn Tryz.prog 45 [aMz m,aI x] (.tup [aSz m x,aN 0]):=by
 refine AC Tryz.func45 rfl Tryz.ntmps45 rfl rfl ?_;have h1:=hm.r1;have h4:=hm.r4;have hl:m.code.length≤15:=hm.l15;have hxl:=hx.1;have hR:m.R=m.regs.toNat:=rfl;have hVe:m.V=3+m.code.length+2*m.R:=rfl;have hsum:=fun i=>sumL_in (l:=x.take i) fun n hn=>hx.2 n (List.mem_of_mem_take hn);(repeat' first|refine qv ?_|apply qn|apply qs|apply qr|refine qe ?_|fail);refine Fl.call rfl (Br m (by omega) true ⟨fun _=>hm,fun _=>rfl⟩) rfl rfl rfl (AB _) ?_;(repeat' first|refine qv ?_|apply qn|apply qs|apply qr|refine AF rfl ?_|apply qk);refine Fl.call rfl (rgInput_ok m x (by omega) (by omega) true ⟨fun _=>hx,fun _=>rfl⟩) rfl rfl rfl (AB _) ?_;(repeat' first|refine qv ?_|apply qn|apply qs|apply qr|refine qw ?_|refine qe ?_|refine AF rfl ?_|apply qb|apply qk);refine AWP.loop (G:=Nat) (fun i=>i≤x.length) (fun i=>AO [] [(4,.ptr 4 0),(6,.ptr 6 0),(32,aI x),(33,aN x.length),(34,aN i)] [(4,.cells [aN 0,.v (.slice none 0 0),.v (.slice none 0 0),aN 0,aN 0] 82),(6,.cells [aN m.regs,.sl 4 eIz m.code,aI x,aN m.V,aN (m.l+sumL (x.take i))] 82)]) (fun i=>x.length-i) 0 (by omega) ?_ ?_
 ·refine Ent.of [] ?_ ?_ rfl rfl;(repeat' first|exact True.intro|refine⟨⟨AA _,rfl⟩,?_⟩|refine⟨⟨⟨_,rfl,BLe.cells (AB _)⟩,rfl⟩,?_⟩|refine⟨⟨⟨_,rfl,BLe.cells ?_⟩,rfl⟩,?_⟩|fail)
  ·exact LeL.cons (AA _) (LeL.cons (AA _) (LeL.cons (AA _) (LeL.cons (AV.Le.int (by omega)) (LeL.cons (AV.Le.int (by simp[sumL])) LeL.nil))))
 ·intro i k0;have s0:=hsum i
  have hti:(x.take i).length=i:=by rw[List.length_take]; omega
  have hl2:m.l=m.code.length:=rfl;(repeat' first|refine qv ?_|apply qn|apply qs|apply qr|refine qe ?_|(refine AD rfl ?_ ?_<;>intro _<;>try(exfalso; omega))|apply qb|apply qk|apply qx|apply qt|(refine Ay rfl rfl rfl rfl rfl rfl rfl rfl (by omega) (by omega) ?_; intro _ _)|fail)
  ·rename_i hi y hy;rw[Int.toNat_natCast]at hy;have hyb:=hx.2 y (List.mem_of_getElem? hy);(repeat' first|refine qv ?_|apply qn|apply qr|refine qw ?_|refine qe ?_|fail);refine LoopEnd.of (i+1) (by omega) (by omega) ?_;refine Ent.of [] ?_ ?_ rfl rfl;(repeat' first|exact True.intro|refine⟨⟨AA _,rfl⟩,?_⟩|refine⟨⟨⟨_,rfl,BLe.cells (AB _)⟩,rfl⟩,?_⟩|refine⟨⟨⟨_,rfl,BLe.cells ?_⟩,rfl⟩,?_⟩|fail);exact LeL.cons (AA _) (LeL.cons (AA _) (LeL.cons (AA _) (LeL.cons (AA _) (LeL.cons (AV.Le.int (by rw[Ab hy,sumL_snoc]; omega)) LeL.nil))))
  ·rename_i hi;refine RetOk.of rfl ?_;rw[List.take_of_length_le (by omega)];exact AA _
set_option maxHeartbeats 1000000 in
theorem EL (m:MZ) (x:List Int) (hm:OkMZ m) (hx:OkIn m x):PureFn Tryz.prog 47 [aSz m x] (aS (hsS m x)):=by
 refine AC Tryz.func47 rfl Tryz.ntmps47 rfl rfl ?_;have hV:=hm.V32;have hl:m.code.length≤15:=hm.l15;have hl1:1≤m.code.length:=hm.l1;have hl2:m.l=m.code.length:=rfl;have hR4:=hm.r4;have hR1:=hm.r1;have hR:m.R=m.regs.toNat:=rfl;have hVe:m.V=3+m.code.length+2*m.R:=rfl;obtain⟨s1,s2,s3⟩:=addZ_b hm hx;have q:=(Ba hm.V6).1;have c2:=SzU.con m.V 2;have c1:=SzU.con m.V 1;have v0:=AN (V:=m.V) (i:=0) (by omega);have v1:=AN (V:=m.V) (i:=1) (by omega);have v2:=AN (V:=m.V) (i:=2) (by omega);have ca:=SzU.con m.V (addZ m x);obtain⟨al1,al2,al3,al4,al5,al6⟩:=Cz hm.V6;have tA:=fun s hs=>DC hm hx s (hsK_A hs);have t1:=tA _ (show _∈hsA m x from List.mem_cons_self);have t2:=tA _ (show _∈hsA m x from List.mem_cons_of_mem _ List.mem_cons_self);have t3:=tA _ (show _∈hsA m x from List.mem_cons_of_mem _ (List.mem_cons_of_mem _ List.mem_cons_self));have hlast:=t3.2.2 _ List.mem_cons_self;have sm:=DZ hm (fun _=>true);refine AE ?_;(repeat' first|apply qn|apply qr|refine qe ?_|fail);refine⟨AE ?_⟩;(repeat' first|refine qv ?_|apply qr);refine qc (kNew_ok m.V) ?_;(repeat' first|refine qv ?_|refine Fl.nil (fun _=>by kernel_rfl) ?_|refine qe ?_|fail);refine⟨?_⟩;refine AY (Bc 12 10 901 rfl rfl rfl 3 eL 99) ?_;refine AE ?_;(repeat' first|refine qv ?_|apply qr);refine qc (EK m.V 2 (by omega) (by omega) (by omega)) ?_;(repeat' first|refine qv ?_|fail);refine qc (CB m.V 1 (by omega) (by omega)) ?_;refine ql eP [mkP m.V (conU m.V 2),mkP m.V (varU m.V 1)] ?_;refine qc (Cy m.V (by omega) [conU m.V 2,varU m.V 1] (by simp) (Ba hm.V6).2) ?_;(repeat' first|refine qv ?_|refine Fl.nil (fun _=>by kernel_rfl) ?_|refine qe ?_|fail);refine⟨AE ?_⟩;(repeat' first|refine qv ?_|apply qr);refine qc (EK m.V 1 (by omega) (by omega) (by omega)) ?_;(repeat' first|refine qv ?_|fail);refine qc (EK m.V 1 (by omega) (by omega) (by omega)) ?_;refine qc (kSub_ok m.V (by omega) (hsQ m.V) (conU m.V 1) (subL (hsQ m.V) (conU m.V 1)) (q.chk (by omega) (by omega) (by omega)) (c1.chk (by omega) (by decide) (by omega)) al5) ?_;(repeat' first|refine qv ?_|fail);refine qc (CB m.V 2 (by omega) (by omega)) ?_;refine ql eP [mkP m.V (subL (hsQ m.V) (conU m.V 1)),mkP m.V (varU m.V 2)] ?_;refine qc (Cy m.V (by omega) [subL (hsQ m.V) (conU m.V 1),varU m.V 2] (by simp) al2) ?_;refine ql eP [mkP m.V (conU m.V 1),mkP m.V (A0 (conU m.V 1) [subL (hsQ m.V) (conU m.V 1),varU m.V 2])] ?_;refine qc (Dk m.V (by omega) [conU m.V 1,A0 (conU m.V 1) [subL (hsQ m.V) (conU m.V 1),varU m.V 2]] (by simp) al3) ?_;(repeat' first|refine qv ?_|refine Fl.nil (fun _=>by kernel_rfl) ?_|refine qe ?_|fail);refine⟨AE ?_⟩;refine AY (s':=AO [] [(1,.ptr 1 0),(2,.ptr 2 0),(3,.ptr 12 0)] [(1,.cells [aN m.regs,.sl 4 eIz m.code,aI x,aN m.V,aN (addZ m x)] 82),(2,.cells [aN 0,.v (.slice none 0 0)] 39),(12,.cells [aN m.regs,.sl 4 eIz m.code,aI x,aN m.V,aN (addZ m x),aN m.V,aN (kQ m).vars,.sl 3 eT (kQ m).terms,aN (kAll m).vars,.sl 3 eT (kAll m).terms,.row 901] 144),(901,.row 3 eL ([]:List LZ) 99)]) ?_ ?_
 ·refine Ent.of [] ?_ ?_ rfl rfl;(repeat' first|exact True.intro|refine⟨⟨AA _,rfl⟩,?_⟩|refine⟨⟨⟨_,rfl,BLe.cells (AB _)⟩,rfl⟩,?_⟩|refine⟨⟨⟨_,rfl,BLe.row rfl⟩,rfl⟩,?_⟩|fail)
 (repeat' first|refine qv ?_|apply qr);refine qc (EK m.V 2 (by omega) (by omega) (by omega)) ?_;(repeat' first|refine qv ?_|fail);refine qc (CB m.V 0 (by omega) (by omega)) ?_;(repeat' first|refine qv ?_|fail);refine qc (EK m.V (addZ m x) (by omega) (by omega) (by omega)) ?_;refine ql eP [mkP m.V (varU m.V 0),mkP m.V (conU m.V (addZ m x))] ?_;refine qc (Dk m.V (by omega) [varU m.V 0,conU m.V (addZ m x)] (by simp) (Dj v0 ca (by omega) (by omega) (by omega) (by omega))) ?_;(repeat' first|refine qv ?_|fail);refine qc (CB m.V 1 (by omega) (by omega)) ?_;refine ql eP [mkP m.V (conU m.V 2),mkP m.V (An [] [varU m.V 0,conU m.V (addZ m x)]),mkP m.V (varU m.V 1)] ?_;refine qG [(900,12),(902,101)] (Cw m hm x (kQ m) (kAll m) [] (by simp) 2 [conU m.V 2,An [] [varU m.V 0,conU m.V (addZ m x)],varU m.V 1] t1) ?_;(repeat' first|refine Fl.nil (fun _=>by kernel_rfl) ?_|fail);refine⟨AE ?_⟩;(repeat' first|refine qv ?_|apply qr);refine qc (CB m.V 0 (by omega) (by omega)) ?_;(repeat' first|refine qv ?_|fail);refine qc (EK m.V 1 (by omega) (by omega) (by omega)) ?_;refine ql eP [mkP m.V (varU m.V 0),mkP m.V (conU m.V 1)] ?_;refine qc (Dk m.V (by omega) [varU m.V 0,conU m.V 1] (by simp) (Dj v0 c1 (by omega) (by omega) (by decide) (by omega))) ?_;(repeat' first|refine qv ?_|fail);refine ql eP [mkP m.V (hsQ m.V),mkP m.V (An [] [varU m.V 0,conU m.V 1]),mkP m.V (Bp m.V)] ?_;refine CI rfl [(900,12),(901,101),(902,128)] (Cw m hm x (kQ m) (kAll m) _ (by simp) 2 [hsQ m.V,An [] [varU m.V 0,conU m.V 1],Bp m.V] t2) rfl rfl (AB _) rfl ⟨⟨⟨_,rfl,BLe.cells (AB _)⟩,rfl⟩,⟨⟨_,rfl,BLe.row rfl⟩,rfl⟩,trivial⟩ rfl rfl rfl rfl rfl ?_;(repeat' first|refine Fl.nil (fun _=>by kernel_rfl) ?_|fail);refine⟨AE ?_⟩;(repeat' first|refine qv ?_|apply qr);refine qc (CB m.V 2 (by omega) (by omega)) ?_;(repeat' first|refine qv ?_|fail);refine qR [(900,12),(901,128)] (mkSum_ok m hm x (kQ m) (kAll m) _ 110 (fun _=>true) mkTrue_ok) ?_;refine Fl.call rfl (kEq_ok m.V (by omega) (varU m.V 2) (Aj m.V (fun _=>true) 0 m.code (conU m.V 0)) (subL (varU m.V 2) (Aj m.V (fun _=>true) 0 m.code (conU m.V 0))) (v2.chk (by omega) (by omega) (by omega)) (sm.chk (by omega) (by omega) (by omega)) (v2.subChk sm (by omega) (by omega) (by omega) (by omega)) ⟨by have:=hlast.ln; omega,fun u hu=>(hlast.ex u hu).1⟩) rfl rfl rfl (AB _) ?_;refine ql eL [BF m.V 0 [subL (varU m.V 2) (Aj m.V (fun _=>true) 0 m.code (conU m.V 0))]] ?_;refine qa (hby:=(by first|(simp; done)|(simp; omega))) (hm:=(by first|(simp; done)|(simp; omega))) (r:=?_);(repeat' first|refine qv ?_|refine Fl.nil (fun _=>by kernel_rfl) ?_|refine qe ?_|fail);refine⟨AE ?_⟩;(repeat' first|refine qv ?_|apply qr);refine qG [(900,12),(901,147),(902,151)] (mkMasks_ok m hm x hx ((hsA m x).map (lkZ m)) (by simp[hsA])) ?_;(repeat' first|apply qn);refine⟨?_⟩;obtain⟨L1,eL1⟩:∃L1,L1=(hsA m x).map (lkZ m)++(List.range m.l).map (fun i=>lkZ m (hsB m i))++(hsC m).map (lkZ m)++(List.range m.R).map (fun j=>lkZ m (hsD m j)):=⟨_,rfl⟩
 have hL1:L1.length≤24:=by rw[eL1]; simp[hsA,hsC]; omega
 rw[←eL1];have gl:=go_len (m:=m);(repeat' first|refine qv ?_|apply qn|apply qs|apply qr|apply qb);refine AWP.loop (G:=Nat) (fun i=>i≤m.code.length) (fun i=>AO [] [(1,.ptr 1 0),(2,.ptr 2 0),(3,.ptr 12 0),(154,.sl 4 eIz m.code),(155,aN m.code.length),(156,aN i)] [(1,.cells [aN m.regs,.sl 4 eIz m.code,aI x,aN m.V,aN (addZ m x)] 82),(2,.cells [aN 0,.v (.slice none 0 0)] 39),(12,.cells [aN m.regs,.sl 4 eIz m.code,aI x,aN m.V,aN (addZ m x),aN m.V,aN (kQ m).vars,.sl 3 eT (kQ m).terms,aN (kAll m).vars,.sl 3 eT (kAll m).terms,.row 901] 144),(901,.row 3 eL (L1++(List.range i).flatMap (fun k=>(hsGo m k (m.at k)).map (lkZ m))) 99)]) (fun i=>m.code.length-i) 0 (by omega) ?_ ?_
 ·refine Ent.of [(901,151)] ?_ ?_ rfl rfl;(repeat' first|exact True.intro|refine⟨⟨AA _,rfl⟩,?_⟩|refine⟨⟨⟨_,rfl,BLe.cells (AB _)⟩,rfl⟩,?_⟩|refine⟨⟨⟨_,rfl,BLe.row ?_⟩,rfl⟩,?_⟩|fail);simp
 ·intro i k0;have hgi:=gl i;(repeat' first|refine qv ?_|apply qn|apply qs|apply qr|refine qe ?_|(refine AD rfl ?_ ?_<;>intro _<;>try(exfalso; omega))|apply qb|apply qk|apply qx|(refine Ay rfl rfl rfl rfl rfl rfl rfl rfl (by omega) (by omega) ?_; intro _ _)|fail)
  ·rename_i hi y hy;rw[Int.toNat_natCast]at hy;have hat:=MZ.at_get hy;have hgo:=mkGoes_ok m hm x hx (L1++(List.range i).flatMap (fun k=>(hsGo m k (m.at k)).map (lkZ m))) (by rw[List.length_append]; omega) i (by show i<m.code.length; omega);rw[hat]at hgo;refine qG [(900,12),(902,164)] hgo ?_;(repeat' first|refine qv ?_|apply qn|apply qr|refine qw ?_|fail);refine LoopEnd.of (i+1) (by omega) (by omega) ?_;refine Ent.of [(901,164)] ?_ ?_ rfl rfl;(repeat' first|exact True.intro|refine⟨⟨AA _,rfl⟩,?_⟩|refine⟨⟨⟨_,rfl,BLe.cells (AB _)⟩,rfl⟩,?_⟩|refine⟨⟨⟨_,rfl,BLe.row ?_⟩,rfl⟩,?_⟩|fail);rw[go_succ,hat]
  ·rename_i hi
   have hi:i=m.code.length:=by omega
   subst hi;obtain⟨L2,eL2⟩:∃L2,L2=L1++(List.range m.code.length).flatMap (fun k=>(hsGo m k (m.at k)).map (lkZ m)):=⟨_,rfl⟩
   have hL2:L2.length≤54:=by rw[eL2,List.length_append]; omega
   rw[←eL2];refine AWP.loop (G:=Nat) (fun j=>j≤m.R) (fun j=>AO [] [(1,.ptr 1 0),(2,.ptr 2 0),(3,.ptr 12 0),(168,aN m.R),(169,aN j)] [(1,.cells [aN m.regs,.sl 4 eIz m.code,aI x,aN m.V,aN (addZ m x)] 82),(2,.cells [aN 0,.v (.slice none 0 0)] 39),(12,.cells [aN m.regs,.sl 4 eIz m.code,aI x,aN m.V,aN (addZ m x),aN m.V,aN (kQ m).vars,.sl 3 eT (kQ m).terms,aN (kAll m).vars,.sl 3 eT (kAll m).terms,.row 901] 144),(901,.row 3 eL (L2++(List.range j).map (fun k=>lkZ m (hsF m x k))) 99)]) (fun j=>m.R-j) 0 (by omega) ?_ ?_
   ·refine Ent.of [] ?_ ?_ rfl rfl;(repeat' first|exact True.intro|refine⟨⟨AA _,rfl⟩,?_⟩|refine⟨⟨⟨_,rfl,BLe.cells (AB _)⟩,rfl⟩,?_⟩|refine⟨⟨⟨_,rfl,BLe.row ?_⟩,rfl⟩,?_⟩|refine⟨⟨AV.Le.int ?_,rfl⟩,?_⟩|fail)
    ·omega
    ·simp
   ·intro j k1;(repeat' first|refine qv ?_|apply qn|refine Fl.nil (fun _=>by kernel_rfl) ?_|apply qs|apply qr|refine qe ?_|(refine AD rfl ?_ ?_<;>intro _<;>try(exfalso; omega))|apply qb|apply qk|apply qx|apply qt)
    ·rename_i hj;refine qG [(900,12),(902,174)] (mkChanges_ok m hm x hx (L2++(List.range j).map (fun k=>lkZ m (hsF m x k))) (by simp; omega) j (by omega)) ?_;(repeat' first|refine qv ?_|apply qn|apply qr|refine qw ?_|fail);refine LoopEnd.of (j+1) (by omega) (by omega) ?_;refine Ent.of [(901,174)] ?_ ?_ rfl rfl;(repeat' first|exact True.intro|refine⟨⟨AA _,rfl⟩,?_⟩|refine⟨⟨⟨_,rfl,BLe.cells (AB _)⟩,rfl⟩,?_⟩|refine⟨⟨⟨_,rfl,BLe.row ?_⟩,rfl⟩,?_⟩|fail);rw[B7]
    ·rename_i hj
     have hj:j=m.R:=by omega
     subst hj;refine Ao (Ent.freeze 901 rfl) ?_;refine RetOk.of rfl (AP ?_);rw[eL2,eL1];simp only[hsS,hsK,List.map_append,List.map_map,List.map_flatMap,lkZ];rfl
theorem hSystem_ok (m:MZ) (x:List Int) (hm:OkMZ m) (hx:OkIn m x):PureFn Tryz.prog 14 [aMz m,aI x] (.tup [aS (hsS m x),aN 0]):=by
 refine AC Tryz.func14 rfl Tryz.ntmps14 rfl rfl ?_;have h1:=C8 m x hm hx;have h2:=EL m x hm hx;(repeat' first|refine qv ?_|apply qn|apply qs|apply qr|refine qe ?_|fail);refine qc (h1) ?_;(repeat' first|refine qv ?_|apply qn|apply qs|apply qr|refine qe ?_|refine AF rfl ?_|apply qk);refine qc (h2) ?_;(repeat' first|refine qv ?_|apply qn|refine qe ?_|apply qt);exact RetOk.of rfl (AA _)
end Go.Proofs.YtmmfloplhopioaaGreat
/- history's states, column. -/
namespace Go.AL
def eSt:Int×List Int→List AV:=fun c=>[aN c.1,aI c.2]
def stF (m:MZ) (x:List Int) (t:Nat):Int×List Int:=(((m.mach.F (inF x) t).1:Int),rgL m.R (m.mach.F (inF x) t).2)
def stL (m:MZ) (x:List Int) (n:Nat):List (Int×List Int):=(List.range n).map (stF m x)
theorem stL_len (m:MZ) (x:List Int) (n:Nat):(stL m x n).length=n:=by simp[stL]
theorem stL_succ (m:MZ) (x:List Int) (n:Nat):stL m x (n+1)=stL m x n++[stF m x n]:=by
 unfold stL;rw[List.range_succ,List.map_append]; rfl
theorem stL_get {m:MZ} {x:List Int} {n t:Nat} (h:t<n):(stL m x n)[t]? = some (stF m x t):=by
 unfold stL;rw[List.getElem?_map,List.getElem?_range h]; rfl
theorem map_take_succ {α:Type} {l:List α} {f:α→Int} {i:Nat} {y:α} (h:l[i]? = some y):(l.take (i+1)).map f=(l.take i).map f++[f y]:=by
 rw[Ab h,List.map_append]; rfl
end Go.AL
namespace Go.Proofs.YtmmfloplhopioaaGreat
open Go.AL
theorem hStates_ok (m:MZ) (hm:OkMZ m) (x:List Int) (hx:OkIn m x) (s:Nat) (hs:s≤1000000) (h1:∀t,t<s→¬m.mach.Over (m.mach.F (inF x) t)):PureFn Tryz.prog 52 [aSz m x,aN s] (.sl 2 eSt (stL m x (s+1))):=by
 refine AC Tryz.func52 rfl Tryz.ntmps52 rfl rfl ?_;have hst:=rgStart_ok m hm x hx;have hlt:=Mach.F_lt hm.mach (inF x) h1;have e0:rgL m.R (m.mach.F (inF x) 0).2=x:=inF_eq hx;(repeat' first|refine qv ?_|apply qn|apply qs|apply qr|refine qe ?_|fail);refine qc (hst) ?_;(repeat' first|refine qv ?_|apply qn|apply qs|apply qr|refine qe ?_|fail);refine Du rfl rfl rfl rfl rfl rfl rfl eSt [(0,x)] rfl rfl rfl rfl (by intro _ _; rfl) (AB _) ?_;(repeat' first|refine qv ?_|apply qn|apply qs|apply qr|apply qb);refine AWP.loop (G:=Nat) (fun i=>i≤s) (fun i=>AO [] [(2,.ptr 2 0),(5,.ptr 5 0),(7,.row 7),(18,aN s),(19,aN i)] [(2,.cells [aN m.regs,.sl 4 eIz m.code,aI x,aN m.V,aN (addZ m x)] 82),(5,.cells (eSt (stF m x i)) 71),(7,.row 2 eSt (stL m x (i+1)) 71)]) (fun i=>s-i) 0 (by omega) ?_ ?_
 ·refine Ent.of [(7,17)] ?_ ?_ rfl rfl;(repeat' first|exact True.intro|refine⟨⟨AA _,rfl⟩,?_⟩|refine⟨⟨⟨_,rfl,BLe.cells (AB _)⟩,rfl⟩,?_⟩|refine⟨⟨⟨_,rfl,BLe.row ?_⟩,rfl⟩,?_⟩|refine⟨⟨⟨_,rfl,BLe.cells ?_⟩,rfl⟩,?_⟩|fail)
  ·exact LeL.cons (AA _) (LeL.cons (AP (congrArg (AV.sl 1 eI) e0.symm)) LeL.nil)
  ·show[(0,x)]=[stF m x 0];rw[stF,e0]; rfl
 ·intro i k0;have hll:=stL_len m x (i+1);(repeat' first|refine qv ?_|apply qn|apply qs|apply qr|(refine AD rfl ?_ ?_<;>intro _<;>try(exfalso; omega))|apply qb|apply qk|apply qx|apply qt)
  ·rename_i hi;have hstep:=rgStep_ok m hm (inF x) i (by omega) (inF_le hx) (hlt i k0) (h1 i (by omega));refine qc (hstep) ?_;(repeat' first|refine qv ?_|apply qn|apply qr|refine qe ?_|fail);refine ql eSt [stF m x (i+1)] ?_;refine qa (hby:=(by dsimp only[List.length_nil,List.length_cons]; omega)) (hm:=(by simp; omega)) (r:=?_);(repeat' first|refine qv ?_|apply qn|apply qr|refine qw ?_|fail);refine LoopEnd.of (i+1) (by omega) (by omega) ?_;refine Ent.of [(7,31)] ?_ ?_ rfl rfl;(repeat' first|exact True.intro|refine⟨⟨AA _,rfl⟩,?_⟩|refine⟨⟨⟨_,rfl,BLe.cells (AB _)⟩,rfl⟩,?_⟩|refine⟨⟨⟨_,rfl,BLe.row ?_⟩,rfl⟩,?_⟩|fail);exact(stL_succ m x (i+1)).symm
  ·rename_i hi
   have hi:i=s:=by omega
   subst hi;refine Ao (Ent.freeze 7 rfl) ?_;exact RetOk.of rfl (AA _)
theorem hColumn_ok (g:FuncId) (f:Int×List Int→Int) (L:List (Int×List Int)) (hL:L.length≤1000000) (hg:∀c,PureFn Tryz.prog g [aSt c.1 c.2] (aN (f c))):PureFn Tryz.prog 92 [.sl 2 eSt L,.fn g []] (aI (L.map f)):=by
 refine AC Tryz.func92 rfl Tryz.ntmps92 rfl rfl ?_;(repeat' first|refine qv ?_|apply qn|apply qs|apply qr|apply qb);refine AY (BV 5 805 rfl rfl 1 eI 3) ?_;refine AWP.loop (G:=Nat) (fun i=>i≤L.length) (fun i=>AO [] [(1,.fn g []),(5,.row 5),(8,.sl 2 eSt L),(9,aN L.length),(10,aN i)] [(5,.row 1 eI ((L.take i).map f) 3)]) (fun i=>L.length-i) 0 (by omega) ?_ ?_
 ·refine Ent.of [(5,805)] ?_ ?_ rfl rfl;(repeat' first|exact True.intro|refine⟨⟨AA _,rfl⟩,?_⟩|refine⟨⟨⟨_,rfl,BLe.row rfl⟩,rfl⟩,?_⟩|fail)
 ·intro i k0
  have hll:((L.take i).map f).length=i:=by simp; omega
  (repeat' first|refine qv ?_|apply qn|apply qs|apply qr|refine qe ?_|(refine AD rfl ?_ ?_<;>intro _<;>try(exfalso; omega))|apply qb|apply qk|apply qx|apply qt|(refine Ay rfl rfl rfl rfl rfl rfl rfl rfl (by omega) (by omega) ?_; intro _ _)|fail)
  ·rename_i hi c hc;rw[Int.toNat_natCast]at hc;refine C3 rfl rfl (hg c) rfl rfl rfl (AB _) ?_;refine ql eI [f c] ?_;refine qa (hby:=(by dsimp only[List.length_nil,List.length_cons]; omega)) (hm:=(by simp; omega)) (r:=?_);(repeat' first|refine qv ?_|apply qn|apply qr|refine qw ?_|fail);refine LoopEnd.of (i+1) (by omega) (by omega) ?_;refine Ent.of [(5,19)] ?_ ?_ rfl rfl;(repeat' first|exact True.intro|refine⟨⟨AA _,rfl⟩,?_⟩|refine⟨⟨⟨_,rfl,BLe.row ?_⟩,rfl⟩,?_⟩|fail);exact(map_take_succ hc).symm
  ·rename_i hi;refine Ao (Ent.freeze 5 rfl) ?_;refine RetOk.of rfl (AV.Le.sl ?_);rw[List.take_of_length_le (by omega)]
abbrev nB1 (i:Nat):List (AL.Id×Bx):=[(904,.cells [aN i] 3)]
theorem hColumn1_ok (g:FuncId) (i0:Nat) (f:Int×List Int→Int) (L:List (Int×List Int)) (hL:L.length≤1000000) (hg:∀c∈L,IoFn Tryz.prog g ([aSt c.1 c.2]++[.ptr 904 0]) (nB1 i0) (.ret (aN (f c))) (nB1 i0)):IoFn Tryz.prog 92 [.sl 2 eSt L,.fn g [.ptr 904 0]] (nB1 i0) (.ret (aI (L.map f))) (nB1 i0):=by
 refine AH Tryz.func92 rfl Tryz.ntmps92 rfl rfl rfl ?_;(repeat' first|refine qv ?_|apply qn|apply qs|apply qr|apply qb);refine AY (BV 5 805 rfl rfl 1 eI 3) ?_;refine AWP.loop (G:=Nat) (fun i=>i≤L.length) (fun i=>AO [904] [(1,.fn g [.ptr 904 0]),(5,.row 5),(8,.sl 2 eSt L),(9,aN L.length),(10,aN i)] (nB1 i0++[(5,.row 1 eI ((L.take i).map f) 3)])) (fun i=>L.length-i) 0 (by omega) ?_ ?_
 ·refine Ent.of [(5,805)] ?_ ?_ rfl rfl;(repeat' first|exact True.intro|refine⟨⟨AA _,rfl⟩,?_⟩|refine⟨⟨⟨_,rfl,BLe.cells (AB _)⟩,rfl⟩,?_⟩|refine⟨⟨⟨_,rfl,BLe.row rfl⟩,rfl⟩,?_⟩|fail)
 ·intro i k0
  have hll:((L.take i).map f).length=i:=by simp; omega
  (repeat' first|refine qv ?_|apply qn|apply qs|apply qr|refine qe ?_|(refine AD rfl ?_ ?_<;>intro _<;>try(exfalso; omega))|apply qb|apply qk|apply qx|apply qt|(refine Ay rfl rfl rfl rfl rfl rfl rfl rfl (by omega) (by omega) ?_; intro _ _)|fail)
  ·rename_i hi c hc;rw[Int.toNat_natCast]at hc;refine Fl.ioVR rfl rfl [] (hg c (List.mem_of_getElem? hc)) rfl rfl (AB _) rfl ⟨⟨⟨_,rfl,BLe.cells (AB _)⟩,rfl⟩,trivial⟩ ⟨rfl,trivial⟩ rfl rfl rfl rfl ?_;refine ql eI [f c] ?_;refine qa (hby:=(by dsimp only[List.length_nil,List.length_cons]; omega)) (hm:=(by simp; omega)) (r:=?_);(repeat' first|refine qv ?_|apply qn|apply qr|refine qw ?_|fail);refine LoopEnd.of (i+1) (by omega) (by omega) ?_;refine Ent.of [(5,19)] ?_ ?_ rfl rfl;(repeat' first|exact True.intro|refine⟨⟨AA _,rfl⟩,?_⟩|refine⟨⟨⟨_,rfl,BLe.cells (AB _)⟩,rfl⟩,?_⟩|refine⟨⟨⟨_,rfl,BLe.row ?_⟩,rfl⟩,?_⟩|fail);exact(map_take_succ hc).symm
  ·rename_i hi;refine⟨⟨[],_,_,Ent.freeze 5 rfl,rfl,AV.Le.sl ?_,rfl,⟨⟨⟨_,rfl,BLe.cells (AB _)⟩,rfl⟩,trivial⟩,rfl,rfl⟩⟩;rw[List.take_of_length_le (by omega)]
theorem tell2_ok (c:Int×List Int):PureFn Tryz.prog 95 [aSt c.1 c.2] (aN 1):=by
 refine AC Tryz.func95 rfl Tryz.ntmps95 rfl rfl ?_;(repeat' first|refine qv ?_|apply qn|apply qs|apply qr|refine qe ?_|apply qt);exact RetOk.of rfl (AA _)
theorem tell3_ok (i0:Nat) (c:Int×List Int):IoFn Tryz.prog 97 ([aSt c.1 c.2]++[.ptr 904 0]) (nB1 i0) (.ret (aN (if c.1=i0 then 1 else 0))) (nB1 i0):=by
 refine AH Tryz.func97 rfl Tryz.ntmps97 rfl rfl rfl ?_;(repeat' first|refine qv ?_|apply qn|apply qs|apply qr|refine qe ?_|(refine AD rfl ?_ ?_<;>intro _<;>try(exfalso; omega))|apply qk|apply qt)
 ·rename_i h;rw[if_pos h];exact⟨⟨[],_,_,AM _ _ _,rfl,AA _,rfl,⟨⟨⟨_,rfl,BLe.cells (AB _)⟩,rfl⟩,trivial⟩,rfl,rfl⟩⟩
 ·rename_i h;rw[if_neg h];exact⟨⟨[],_,_,AM _ _ _,rfl,AA _,rfl,⟨⟨⟨_,rfl,BLe.cells (AB _)⟩,rfl⟩,trivial⟩,rfl,rfl⟩⟩
theorem tell4_ok (j0:Nat) (c:Int×List Int) (v:Int) (hv:c.2[Int.toNat (j0:Int)]? = some v):IoFn Tryz.prog 99 ([aSt c.1 c.2]++[.ptr 904 0]) (nB1 j0) (.ret (aN v)) (nB1 j0):=by
 refine AH Tryz.func99 rfl Tryz.ntmps99 rfl rfl rfl ?_
 have hl:(j0:Int)<c.2.length:=by have:=(List.getElem?_eq_some_iff.1 hv).1; omega
 (repeat' first|refine qv ?_|apply qn|apply qs|apply qr|refine qe ?_|apply qt|refine qK ?_|fail);exact⟨⟨[],_,_,AM _ _ _,rfl,AA _,rfl,⟨⟨⟨_,rfl,BLe.cells (AB _)⟩,rfl⟩,trivial⟩,rfl,rfl⟩⟩
end Go.Proofs.YtmmfloplhopioaaGreat
/- A bit of a list of words; digits az bits. Plain. -/
namespace Go.AL
theorem set_bit {ws:List Int} (hw:WOk ws) {i:Nat} (hi:i/32<ws.length) (hlt:val ws<2^i):∃w,ws[i/32]? = some w∧0≤w∧w<2^(i % 32)∧WOk (ws.set (i/32) (w+2^(i % 32)))∧val (ws.set (i/32) (w+2^(i % 32)))=val ws+2^i:=by
 obtain⟨k,hk⟩:∃k,k=i/32:=⟨_,rfl⟩;obtain⟨j,hj⟩:∃j,j=i % 32:=⟨_,rfl⟩;rw[←hk]at hi ⊢;rw[←hj]
 have hij:i=32*k+j:=by omega
 obtain⟨w,hwk⟩:∃w,ws[k]? = some w:=⟨_,List.getElem?_eq_getElem hi⟩
 have hsp:ws=ws.take k++w::ws.drop (k+1):=by
  have h1:=(List.take_append_drop k ws).symm;rw[List.drop_eq_getElem_cons hi,(List.getElem?_eq_some_iff.1 hwk).2]at h1;exact h1
 have hset:∀v,ws.set k v=ws.take k++v::ws.drop (k+1):=fun v=>by
  rw[List.set_eq_take_append_cons_drop,if_pos hi]
 have hlen:(ws.take k).length=k:=by rw[List.length_take]; omega
 have hv:val ws=val (ws.take k)+BB k*(w+4294967296*val (ws.drop (k+1))):=by
  have h2:=congrArg val hsp;rw[Dv,hlen,val]at h2;exact h2
 have hvs:∀v,val (ws.set k v)=val (ws.take k)+BB k*(v+4294967296*val (ws.drop (k+1))):=fun v=>by
  rw[hset,Dv,hlen,val]
 have h0:=Al (hw.take k);have h1:=Al (hw.drop (k+1));have hw0:=hw w (List.mem_of_getElem? hwk)
 have hp:(2:Int)^i=BB k*2^j:=by rw[BB_pow,←Int.pow_add,hij]
 have hB:=A6 k
 have hlt2:w+4294967296*val (ws.drop (k+1))<2^j:=by
  rcases Int.lt_or_le (w+4294967296*val (ws.drop (k+1))) (2^j)with h|h
  ·exact h
  ·have:=Int.mul_le_mul_of_nonneg_left h (Int.le_of_lt hB);rw[←hp]at this;omega
 have hj32:(2:Int)^j≤2147483648:=by
  have:=pow_le_r (x:=2) (by omega) (show j≤31 by omega)
  have e:(2:Int)^31=2147483648:=by decide
  omega
 refine⟨w,hwk,hw0.1,by omega,hw.set k (by have:=Int.pow_pos (n:=2) (m:=j) (by omega); omega) (by omega),?_⟩;rw[hvs,hv,hp,Int.mul_add,Int.mul_add,Int.mul_add];omega
theorem low_succ (d k:Nat):d % 2^(k+1)=d % 2^k+(if d.testBit k then 2^k else 0):=by
 rw[Nat.pow_succ,Nat.mod_mul,Nat.testBit_eq_decide_div_mod_eq];by_cases h:d/2^k % 2=1
 ·rw[h]; simp
 ·have:d/2^k % 2=0:=by omega
  rw[this]; simp
theorem low_all {d k:Nat} (h:d/2^k=0):d % 2^k=d:=by
 rcases Nat.div_eq_zero_iff.1 h with h|h
 ·exact absurd h (Nat.pos_iff_ne_zero.1 (Nat.two_pow_pos k))
 ·exact Nat.mod_eq_of_lt h
end Go.AL
/- history's digits. -/
namespace Go.AL
theorem WOk_zeros (n:Nat):WOk (List.replicate n 0):=fun w hw=>by
 rw[List.eq_of_mem_replicate hw]; omega
abbrev dgW (bits n:Nat):Nat:=(n*bits+63)/32+2
end Go.AL
namespace Go.Proofs.YtmmfloplhopioaaGreat
open Go.AL
set_option maxHeartbeats 1000000 in
theorem digits_ok (bits n:Nat) (f:Nat→Nat) (hb:bits≤1000000) (hn:n≤1000000) (hnb:n*bits≤3000000) (hf:∀t,t<n→f t<2^41∧f t<2^bits):PureFn Tryz.prog 91 [aN bits,aI (rgL n f)] (aX ((ds (2^bits) n f:Nat):Int)):=by
 refine AC Tryz.func91 rfl Tryz.ntmps91 rfl rfl ?_;obtain⟨l,el⟩:∃l,l=rgL n f:=⟨_,rfl⟩
 have hlen:l.length=n:=by rw[el,Bm]
 have hget:∀t,t<n→l[t]? = some ((f t:Nat):Int):=fun t ht=>by rw[el]; exact DI ht
 rw[←el];obtain⟨NB,eNB⟩:∃NB,NB=n*bits:=⟨_,rfl⟩
 have hnb':(l.length:Int)*(bits:Int)=(NB:Int):=by rw[hlen,eNB,Int.natCast_mul]
 have hW:dgW bits n=(NB+63)/32+2:=by rw[eNB]
 have hA:∀t:Nat,t<n→t*bits+bits≤NB:=fun t ht=>by rw[eNB]; have:=Nat.mul_le_mul_right bits (show t+1≤n from ht); rw[Nat.succ_mul]at this; exact this
 rw[←eNB]at hnb;refine AE ?_;(repeat' first|apply qn|apply qr|refine qe ?_|fail);refine⟨AE ?_⟩;(repeat' first|refine qv ?_|apply qn|apply qr|refine qw ?_|refine Fl.w rfl rfl rfl ⟨by omega,by omega,by dsimp only[hiK]; omega⟩ ?_|refine CH rfl rfl rfl rfl rfl rfl rfl rfl rfl rfl eW 0 (by exact AB _) (by rfl) (by first|omega|(dsimp only; omega)) (by first|omega|(dsimp only; omega)) (by first|omega|(dsimp only; omega)) ?_|fail);refine⟨AE ?_⟩;(repeat' first|refine qv ?_|apply qn|apply qs|apply qr|apply qb);refine AWP.loop (G:=Nat×List Int) (fun(t,ws)=>t≤n∧WOk ws∧ws.length=dgW bits n∧val ws=((ds (2^bits) t f:Nat):Int)) (fun(t,ws)=>AO [] [(0,aN bits),(4,.ptr 4 0),(5,.row 18),(19,aI l),(20,aN n),(21,aN t)] [(4,.cells [aB false,.v (.slice none 0 0)] 48),(18,.row 1 eW ws 94)]) (fun(t,_)=>n-t) (0,List.replicate (dgW bits n) 0) ⟨by omega,WOk_zeros _,List.length_replicate,by rw[val_zeros]; rfl⟩ ?_ ?_
 ·refine Ent.of [] ?_ ?_ rfl rfl;(repeat' first|exact True.intro|refine⟨⟨AA _,rfl⟩,?_⟩|refine⟨⟨⟨_,rfl,BLe.cells (AB _)⟩,rfl⟩,?_⟩|refine⟨⟨⟨_,rfl,BLe.row ?_⟩,rfl⟩,?_⟩|refine⟨⟨AV.Le.int ?_,rfl⟩,?_⟩|fail)
  ·omega
  ·congr 1; omega
 ·intro⟨t,ws⟩ ⟨k0,k1,k2,k3⟩;(repeat' first|refine qv ?_|apply qn|apply qs|apply qr|(refine AD rfl ?_ ?_<;>intro _<;>try(exfalso; omega))|apply qb|apply qk|apply qx|(refine Ay rfl rfl rfl rfl rfl rfl rfl rfl (by omega) (by omega) ?_; intro _ _)|fail)
  ·rename_i hi d hd;rw[Int.toNat_natCast,hget t (by omega)]at hd;injection hd with hd;subst hd;have hAt:=hA t (by omega);obtain⟨hf1,hf2⟩:=hf t (by omega);obtain⟨A,eA⟩:∃A,A=t*bits:=⟨_,rfl⟩
   have eA':(t:Int)*(bits:Int)=(A:Int):=by rw[eA,Int.natCast_mul]
   rw[←eA]at hAt;(repeat' first|refine qv ?_|apply qn|apply qs|apply qr|refine qw ?_|apply qb);refine AWP.loop (G:=Nat×List Int) (fun(k,vs)=>k≤41∧k≤bits∧WOk vs∧vs.length=dgW bits n∧val vs=((ds (2^bits) t f+f t % 2^k*2^A:Nat):Int)) (fun(k,vs)=>AO [] [(0,aN bits),(4,.ptr 4 0),(5,.row 18),(7,aN (f t)),(8,aN A),(9,aN k),(19,aI l),(20,aN n),(21,aN t)] [(4,.cells [aB false,.v (.slice none 0 0)] 48),(18,.row 1 eW vs 94)]) (fun(k,_)=>41-k) (0,ws) ⟨by omega,by omega,k1,k2,by rw[k3,Nat.pow_zero,Nat.mod_one,Nat.zero_mul,Nat.add_zero]⟩ ?_ ?_
   ·refine Ent.of [] ?_ ?_ rfl rfl;(repeat' first|exact True.intro|refine⟨⟨AA _,rfl⟩,?_⟩|refine⟨⟨⟨_,rfl,BLe.cells (AB _)⟩,rfl⟩,?_⟩|refine⟨⟨⟨_,rfl,BLe.row rfl⟩,rfl⟩,?_⟩|refine⟨⟨AV.Le.int ?_,rfl⟩,?_⟩|fail);exact eA'
   ·intro⟨k,vs⟩ ⟨q0,q1,q2,q3,q4⟩;obtain⟨q,hq⟩:∃q,q=f t/2^k:=⟨_,rfl⟩
    have ediv:((f t:Nat):Int)/2^(Int.toNat (k:Int))=(q:Int):=by
     rw[Int.toNat_natCast,hq,Int.natCast_ediv,Int.natCast_pow]; rfl
    have hq1:q≤f t:=by rw[hq]; exact Nat.div_le_self _ _
    have hq2:q≠0→k<bits∧k<41:=fun h=>by
     have h1:2^k≤f t:=by
      rcases Nat.lt_or_ge (f t) (2^k)with h1|h1
      ·exact absurd (by rw[hq]; exact Nat.div_eq_of_lt h1) h
      ·exact h1
     have e1:=Nat.lt_of_le_of_lt h1 hf1;have e2:=Nat.lt_of_le_of_lt h1 hf2;rw[Nat.pow_lt_pow_iff_right (by omega)]at e1 e2;exact⟨e2,e1⟩
    have hdv0:0≤((f t:Nat):Int)/2^(Int.toNat (k:Int)):=by rw[ediv]; omega
    have hdv1:((f t:Nat):Int)/2^(Int.toNat (k:Int))≤2199023255552:=by rw[ediv]; omega
    (repeat' first|refine qv ?_|apply qn|apply qs|apply qr|refine qw ?_|refine Fl.w rfl rfl rfl ⟨by omega,by omega,by dsimp only[hiK]; omega⟩ ?_|(refine AD rfl ?_ ?_<;>intro _<;>try(exfalso; omega))|(refine AQ rfl ?_ ?_<;>intro _<;>try(exfalso; omega))|apply qb|apply qk|apply qx|refine A8 rfl rfl rfl rfl rfl rfl rfl rfl (by omega) (by first|omega|(simp; omega)) ?_|(refine Fl.rldW rfl rfl rfl rfl rfl rfl rfl (fun _=>rfl) (fun _=>rfl) (by first|omega|(simp; omega)) (by assumption) ?_; intro _ _ _ _)|refine Bb rfl rfl rfl rfl rfl rfl rfl rfl rfl rfl rfl (AB _) rfl (by first|omega|(simp; omega)) ?_|fail)
    ·rename_i g1 g2 w hw hw0 hw1;rw[ediv]at g1 g2;rw[bitN_and1 (by omega)]at g2;obtain⟨p1,p2⟩:=hq2 (by omega);have hlow:f t % 2^k<2^k:=Nat.mod_lt _ (Nat.two_pow_pos k)
     have hA2:(2^bits)^t=2^A:=by rw[eA,←Nat.pow_mul,Nat.mul_comm]
     have hds:ds (2^bits) t f<2^A:=by
      rw[←hA2];exact ds_lt fun u hu=>(hf u (by omega)).2
     have hlt:ds (2^bits) t f+f t % 2^k*2^A<2^(A+k):=by
      have h1:=Nat.mul_le_mul_right (2^A) (show f t % 2^k+1≤2^k from hlow);rw[Nat.add_mul,Nat.one_mul]at h1;rw[Nat.pow_add,Nat.mul_comm (2^A)];omega
     obtain⟨w', b1,b2,b3,b4,b5⟩:=set_bit (i:=A+k) q2 (by omega) (by
      rw[q4]
      have:((2^(A+k):Nat):Int)=2^(A+k):=by rw[Int.natCast_pow]; rfl
      omega)
     have hwi:(((A:Int)+(k:Int))/32).toNat=(A+k)/32:=by omega
     have hwm:(((A:Int)+(k:Int)) % 32).toNat=(A+k) % 32:=by omega
     rw[hwi]at hw;rw[b1]at hw;injection hw with hw;subst hw;have hor:=(or_carry (c:=w') (x:=1) (k:=(A+k) % 32) (by omega) b2 b3 (by omega) (by omega)).1
     have hp:(1:Int)*2^((A+k) % 32) % 4294967296=2^((A+k) % 32):=by
      rw[Int.one_mul];have:=pow_le_r (x:=2) (by omega) (show(A+k) % 32≤31 by omega)
      have e:(2:Int)^31=2147483648:=by decide
      have:=Int.pow_pos (n:=2) (m:=(A+k) % 32) (by omega);omega
     rw[hp]at hor;refine LoopEnd.of (k+1,vs.set ((A+k)/32) (w'+2^((A+k) % 32))) ⟨by omega,by omega,b4,by rw[List.length_set]; exact q3,?_⟩ (by simp only; omega) ?_
     ·rw[b5,q4,low_succ,if_pos (by rw[Nat.testBit_eq_decide_div_mod_eq,←hq]; simp; omega),Nat.add_mul,←Nat.pow_add,Nat.add_comm k A]
      have:((2^(A+k):Nat):Int)=2^(A+k):=by rw[Int.natCast_pow]; rfl
      omega
     ·refine Ent.of [] ?_ ?_ rfl rfl;(repeat' first|exact True.intro|refine⟨⟨AA _,rfl⟩,?_⟩|refine⟨⟨⟨_,rfl,BLe.cells (AB _)⟩,rfl⟩,?_⟩|refine⟨⟨⟨_,rfl,BLe.row ?_⟩,rfl⟩,?_⟩|fail);rw[hwi,hwm,hp,hor]
    ·rename_i g1 g2;rw[ediv]at g1 g2;rw[bitN_and1 (by omega)]at g2;obtain⟨p1,p2⟩:=hq2 (by omega);refine LoopEnd.of (k+1,vs) ⟨by omega,by omega,q2,q3,?_⟩ (by simp only; omega) ?_
     ·rw[q4,low_succ,if_neg (by rw[Nat.testBit_eq_decide_div_mod_eq,←hq]; simp; omega),Nat.add_zero]
     ·refine Ent.of [] ?_ ?_ rfl rfl;(repeat' first|exact True.intro|refine⟨⟨AA _,rfl⟩,?_⟩|refine⟨⟨⟨_,rfl,BLe.cells (AB _)⟩,rfl⟩,?_⟩|refine⟨⟨⟨_,rfl,BLe.row rfl⟩,rfl⟩,?_⟩|fail)
    ·rename_i g1;rw[ediv]at g1
     have hq0:f t/2^k=0:=by omega
     rw[low_all hq0]at q4;refine LoopEnd.of (t+1,vs) ⟨by omega,q2,q3,?_⟩ (by simp only; omega) ?_
     ·rw[q4,DF,eA,Nat.mul_comm t bits,Nat.pow_mul]
     ·refine Ent.of [] ?_ ?_ rfl rfl;(repeat' first|exact True.intro|refine⟨⟨AA _,rfl⟩,?_⟩|refine⟨⟨⟨_,rfl,BLe.cells (AB _)⟩,rfl⟩,?_⟩|refine⟨⟨⟨_,rfl,BLe.row rfl⟩,rfl⟩,?_⟩|fail)
  ·rename_i hn2
   have htn:t=n:=by omega
   subst htn;refine⟨AE ?_⟩;refine AY (Ent.freeze 18 rfl) ?_;(repeat' first|refine qv ?_|apply qn|apply qr);refine⟨AWP.seq (AWP.block ?_)⟩
   have hws:(ws.length:Int)≤200000:=by omega
   have fin:∀v:List Int,v=toW (val ws)→LeL [AV.v (.bool false),aW v] [aB (decide (((ds (2^bits) t f:Nat):Int)<0)),aW (toW (((ds (2^bits) t f:Nat):Int).natAbs))]:=fun v hv=>by
    rw[hv,k3,Int.natAbs_natCast,show decide (((ds (2^bits) t f:Nat):Int)<0)=false from decide_eq_false (by omega)];exact AB _
   refine AWP.loop (G:=Int) (fun c=>0≤c∧c≤ws.length∧BA (ws.take c.toNat)=BA ws) (fun c=>AO [] [(4,.ptr 4 0),(5,aW ws),(10,aN c)] [(4,.cells [aB false,.v (.slice none 0 0)] 48)]) (fun c=>c.toNat) (ws.length:Int) ⟨by omega,by omega,by simp⟩ ?_ ?_
   ·refine Ent.of [] ?_ ?_ rfl rfl;(repeat' first|exact True.intro|refine⟨⟨AA _,rfl⟩,?_⟩|refine⟨⟨⟨_,rfl,BLe.cells (AB _)⟩,rfl⟩,?_⟩|fail)
   ·intro c ⟨c0,c1,c2⟩;(repeat' first|refine qv ?_|apply qn|apply qs|apply qr|refine qw ?_|refine qe ?_|refine Fl.skip rfl rfl ?_|refine AF rfl ?_|(refine AD rfl ?_ ?_<;>intro _<;>try(exfalso; omega))|apply qb|apply qk|apply qx|apply qt|(refine CJ rfl rfl rfl rfl rfl rfl rfl rfl (by omega) (by omega) (by assumption) ?_; intro _ _ _ _)|(refine AG rfl rfl ?_ ?_<;>intro _<;>try(exfalso; omega)))
    ·rename_i h0 e hx hx0 hx1 hz;subst hz;refine LoopEnd.of (c-1) ⟨by omega,by omega,?_⟩ (by omega) ?_
     ·rw[←c2,trimL_take0 (by omega) hx]
     ·refine Ent.of [] ?_ ?_ rfl rfl;(repeat' first|exact True.intro|refine⟨⟨AA _,rfl⟩,?_⟩|refine⟨⟨⟨_,rfl,BLe.cells (AB _)⟩,rfl⟩,?_⟩|fail)
    ·rename_i h0 e hx hx0 hx1 hz;refine RetOk.of rfl (AV.Le.agg (fin _ ?_));rw[←CQ k1,←c2,trimL_take1 (by omega) hx hz]
    ·rename_i h0
     have h0:c=0:=by omega
     subst h0;refine RetOk.of rfl (AV.Le.agg (fin _ ?_));rw[←CQ k1,←c2]; simp[BA]
end Go.Proofs.YtmmfloplhopioaaGreat

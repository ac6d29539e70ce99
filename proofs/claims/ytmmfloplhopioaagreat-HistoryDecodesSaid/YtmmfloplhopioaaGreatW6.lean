/- Part 6 of a proof layer and of the contracts of the functions. -/
import Derived.Laws.Strings
import Derived.Laws.Strings2
import Derived.Laws.Concat
import Derived.Laws.IdiomStrings
import Derived.Laws.StructEq
import Derived.Deep.Strs
import Derived.Test.YtmmfloplhopioaaGreatW5
set_option linter.unusedVariables false
set_option linter.unusedSimpArgs false
/- The program's polynomials and the reference's are the same. Plain. -/
namespace Go.AL
theorem Cs (k:Int) (p q:List UT) (e:List Int):cfU (Bu k p q) e=cfU p e+cfU q e*k:=by
 unfold Bu;rw[Bg];congr 1
 induction q with
 | nil=>simp[cfU]
 | cons u q ih=>
  simp only[List.map_cons,cfU];rw[ih,Int.add_mul];congr 1;split
  ·rfl
  ·simp
theorem cfU_addL (p q:List UT) (e:List Int):cfU (addL p q) e=cfU p e+cfU q e:=by
 unfold addL; rw[Bf,Cs]; omega
theorem cfU_subL (p q:List UT) (e:List Int):cfU (subL p q) e=cfU p e-cfU q e:=by
 unfold subL; rw[Bf,Cs]; omega
def subE (a b:List Int):List Int:=List.zipWith (fun x y=>x-y) a b
theorem addE_iff:∀ {t u e:List Int},t.length=u.length→(addE t u=e↔e.length=t.length∧u=subE e t)
 | [],[],e,_=>by
  cases e with
  | nil=>simp[addE,subE]
  | cons _ _=>simp[addE]
 | x::t,y::u,e,h=>by
  cases e with
  | nil=>simp[addE]
  | cons z e=>
   have ih:=addE_iff (t:=t) (u:=u) (e:=e) (by simpa using h);unfold addE subE at ih ⊢;simp only[List.zipWith_cons_cons,List.cons.injEq,List.length_cons,ih];constructor
   ·rintro⟨h1,h2,h3⟩; exact⟨by omega,by omega,h3⟩
   ·rintro⟨h1,h2,h3⟩; exact⟨by omega,by omega,h3⟩
theorem cfU_shift {V:Nat} (t:UT) (e:List Int) (ht:t.2.length=V):∀ {q:List UT},(∀u∈q,u.2.length=V)→cfU (q.map fun u=>(t.1*u.1,addE t.2 u.2)) e=if e.length=V then t.1*cfU q (subE e t.2)else 0
 | [],_=>by simp[cfU]
 | u::q,h=>by
  have ih:=cfU_shift t e ht (q:=q) fun v hv=>h v (by simp[hv]);have hu:=h u (by simp);simp only[List.map_cons,cfU];rw[ih];have hi:=addE_iff (t:=t.2) (u:=u.2) (e:=e) (by omega);by_cases he:e.length=V
  ·rw[if_pos he,if_pos he,Int.mul_add];congr 1;by_cases hq:u.2=subE e t.2
   ·rw[if_pos (hi.2 ⟨by omega,hq⟩),if_pos hq]
   ·rw[if_neg fun k=>hq (hi.1 k).2,if_neg hq]; simp
  ·rw[if_neg he,if_neg he,if_neg fun k=>he (by have:=(hi.1 k).1; omega)]; rfl
theorem cfU_mul_congr {V:Nat} {p q q':List UT} (hp:∀u∈p,u.2.length=V) (hq:∀u∈q,u.2.length=V) (hq':∀u∈q', u.2.length=V) {k k':Int} {a:List UT} (ha:∀u∈a,u.2.length=V) (h:∀e,cfU q e=cfU q' e*k+cfU a e*k') (e:List Int):cfU (Bo p q) e=cfU (Bo p q') e*k+cfU (Bo p a) e*k':=by
 unfold Bo
 induction p with
 | nil=>simp[cfU]
 | cons t p ih=>
  have ih:=ih fun u hu=>hp u (by simp[hu]);have ht:=hp t (by simp);simp only[List.flatMap_cons,Bg];rw[ih,cfU_shift t e ht hq,cfU_shift t e ht hq', cfU_shift t e ht ha];split
  ·rw[h]; grind
  ·grind
theorem mulL2_add {V d c n d' c' n' d2 c2 n2:Nat} {p a b:List UT} (hp:SzU V d c n p) (ha:SzU V d' c' n' a) (hb:SzU V d2 c2 n2 b):Aq p (addL a b)=addL (Aq p a) (Aq p b):=by
 refine Co fun e=>?_;rw[Cs];unfold Aq;rw[Bf,Bf];have:=cfU_mul_congr (q:=addL a b) (q':=a) (a:=b) (k:=1) (k':=1) hp.len (ha.add hb).len ha.len hb.len (fun e=>by rw[cfU_addL]; omega) e;rw[this]; omega
theorem mulL2_sub {V d c n d' c' n' d2 c2 n2:Nat} {p a b:List UT} (hp:SzU V d c n p) (ha:SzU V d' c' n' a) (hb:SzU V d2 c2 n2 b):Aq p (subL a b)=subL (Aq p a) (Aq p b):=by
 refine Co fun e=>?_;rw[Cs];unfold Aq;rw[Bf,Bf];have:=cfU_mul_congr (q:=subL a b) (q':=a) (a:=b) (k:=1) (k' := -1) hp.len (ha.sub hb).len ha.len hb.len (fun e=>by rw[cfU_subL]; omega) e;rw[this]; omega
theorem add_sub_L (a b c:List UT):addL a (subL b c)=subL (addL a b) c:=Co fun e=>by
 rw[Cs,Cs,cfU_subL,cfU_addL]; omega
theorem add_assoc_L (a b c:List UT):addL a (addL b c)=addL (addL a b) c:=Co fun e=>by
 rw[Cs,Cs,cfU_addL,cfU_addL]; omega
section
variable {m:MZ} {x:List Int}
theorem jmp_ref (ok:OkMZ m) {y:IZ} (hn:y.nx.toNat<m.l) (hr:y.rg.toNat<m.R):C5 m y=addL (varU m.V (3+y.nx.toNat)) (subL (Aq (Aq (conU m.V 2) (varU m.V 1)) (varU m.V 2)) (Aq (conU m.V 2) (varU m.V (3+m.l+y.rg.toNat)))):=by
 have hVe:m.V=3+m.l+2*m.R:=rfl;have q:=(Ba ok.V6).1;have vn:=AN (V:=m.V) (i:=3+y.nx.toNat) (by omega);have v2:=AN (V:=m.V) (i:=2) (by have:=ok.V6; omega);have e1:=q.mul v2;rw[add_sub_L];unfold C5;rw[BL q,BL (SzU.con m.V 2),CL vn e1];unfold hsQ;rw[BL (SzU.con m.V 2)]
theorem sums3 {V d c n d' c' n' d2 c2 n2:Nat} {p q r:List UT} (hp:SzU V d c n p) (_:SzU V d' c' n' q) (_:SzU V d2 c2 n2 r):An [] [p,q,r]=addL (addL p q) r:=by
 show addL (addL (addL [] p) q) r=_;rw[add_nil_l hp.can]
theorem right_ref (ok:OkMZ m) (hx:OkIn m x) {j:Nat} (hj:j<m.R):subL (hsR0 m x j) (BI m 1 j)=addL (conU m.V (x.getD j 0)) (Aq (Aq (conU m.V 2) (varU m.V 1)) (addL (varU m.V (3+m.l+j)) (subL (Aj m.V (fun x=>decide (x.op=0)&&decide (x.rg=j)) 0 m.code (conU m.V 0)) (Aj m.V (fun x=>decide (x.op=1)&&decide (x.rg=j)) 0 m.code (conU m.V 0))))):=by
 have hVe:m.V=3+m.l+2*m.R:=rfl;have q:=(Ba ok.V6).1;have v:=AN (V:=m.V) (i:=3+m.l+j) (by omega);have s0:=DZ ok (fun x=>decide (x.op=0)&&decide (x.rg=j));have s1:=DZ ok (fun x=>decide (x.op=1)&&decide (x.rg=j))
 have hq:Aq (conU m.V 2) (varU m.V 1)=hsQ m.V:=by
  unfold hsQ; rw[BL (SzU.con m.V 2)]
 rw[hq,mulL2_add q v (s0.sub s1),mulL2_sub q s0 s1,add_sub_L (Aq (hsQ m.V) (varU m.V (3+m.l+j))),add_sub_L,add_assoc_L];unfold hsR0 BI;rw[BL q,BL q,BL q,sums3 (SzU.con m.V _) (q.mul v) (q.mul s0)]
end
end Go.AL
/- What the terms of built polynomials come to, at most. Plain. -/
namespace Go.AL
theorem A5 (X:List Int) (u:UT) (p:List UT):auv X (u::p)=((u.1*AX X u.2).natAbs:Int)+auv X p:=rfl
theorem auv_nn (X:List Int):∀p:List UT,0≤auv X p
 | []=>by simp[auv,sumL]
 | u::p=>by rw[A5]; have:=auv_nn X p; omega
theorem FP (X:List Int):∀p q:List UT,auv X (p++q)=auv X p+auv X q
 | [],q=>by simp[auv,sumL]
 | u::p,q=>by rw[List.cons_append,A5,A5,FP X p q]; omega
theorem auv_insU (X:List Int) (u:UT):∀l:List UT,auv X (insU u l)≤((u.1*AX X u.2).natAbs:Int)+auv X l
 | []=>by
  unfold insU;split
  ·simp[auv,sumL]
  ·rw[A5]; exact Int.le_refl _
 | v :: l=>by
  have ih:=auv_insU X u l;unfold insU;split
  ·split
   ·rw[A5]; omega
   ·rw[A5,A5]; exact Int.le_refl _
  ·split
   ·rename_i e
    have hs:((u.1+v.1)*AX X u.2).natAbs≤(u.1*AX X u.2).natAbs+(v.1*AX X v.2).natAbs:=by
     rw[←e,Int.add_mul]; exact Int.natAbs_add_le _ _
    split
    ·rw[A5]; omega
    ·rw[A5,A5];show(((u.1+v.1)*AX X u.2).natAbs:Int)+auv X l≤_;omega
   ·rw[A5,A5]; omega
theorem auv_canU (X:List Int):∀us:List UT,auv X (canU us)≤auv X us
 | []=>Int.le_refl _
 | u::us=>by
  have h1:=auv_canU X us;have h2:=auv_insU X u (canU us);show auv X (insU u (canU us))≤_;rw[A5]; omega
theorem auv_scale (X:List Int) (k:Int):∀q:List UT,auv X (q.map fun u=>(u.1*k,u.2))=auv X q*(k.natAbs:Int)
 | []=>by simp[auv,sumL]
 | u::q=>by
  rw[List.map_cons,A5,A5,auv_scale X k q,Int.add_mul];congr 1;show((u.1*k*AX X u.2).natAbs:Int)=_;rw[show u.1*k*AX X u.2=u.1*AX X u.2*k by grind,Int.natAbs_mul];simp
theorem auv_add (X:List Int) (p q:List UT):auv X (addL p q)≤auv X p+auv X q:=by
 have h:=auv_canU X (Bu 1 p q);unfold addL;unfold Bu at h ⊢;rw[FP,auv_scale]at h;simpa using h
theorem auv_sub (X:List Int) (p q:List UT):auv X (subL p q)≤auv X p+auv X q:=by
 have h:=auv_canU X (Bu (-1) p q);unfold subL;unfold Bu at h ⊢;rw[FP,auv_scale]at h;simpa using h
theorem auv_times {V d c n:Nat} (X:List Int) (t:UT) (ht:t.2.length=V∧(∀e∈t.2,0≤e)∧sumL t.2≤120):∀ {q:List UT},(∀u∈q,u.2.length=V∧(∀e∈u.2,0≤e)∧sumL u.2≤120)→auv X (q.map fun u=>(t.1*u.1,addE t.2 u.2))=((t.1*AX X t.2).natAbs:Int)*auv X q
 | [],_=>by simp[auv,sumL]
 | u::q,h=>by
  have ih:=auv_times (d:=d) (c:=c) (n:=n) X t ht (q:=q) fun v hv=>h v (by simp[hv]);have hu:=h u (by simp);have e1:=(ex_ok (d:=120) (by omega) ht).2.2;have e2:=(ex_ok (d:=120) (by omega) hu).2.2;rw[List.map_cons,A5,A5,ih,Int.mul_add];congr 1;show((t.1*u.1*AX X (addE t.2 u.2)).natAbs:Int)=_;rw[prodE_add e1 e2 (by omega),show t.1*u.1*(AX X t.2*AX X u.2)=t.1*AX X t.2*(u.1*AX X u.2) by grind,Int.natAbs_mul];simp
theorem auv_mulUs {V d c n d' c' n':Nat} (X:List Int) {q:List UT} (hq:SzU V d' c' n' q) (h2:d'≤120) (h1:d≤120):∀ {p:List UT},(∀u∈p,u.2.length=V∧(∀e∈u.2,0≤e)∧sumL u.2≤d)→auv X (Bo p q)=auv X p*auv X q
 | [],_=>by simp[Bo,auv,sumL]
 | t::p,h=>by
  have ih:=auv_mulUs (c:=c) (n:=n) X hq h2 h1 (p:=p) fun u hu=>h u (by simp[hu]);have ht:=h t (by simp);have e:=auv_times (V:=V) (d:=d) (c:=c) (n:=n) X t ⟨ht.1,ht.2.1,by have:=ht.2.2; omega⟩ (q:=q) fun u hu=>⟨(hq.ex u hu).1,(hq.ex u hu).2.1,by have:=(hq.ex u hu).2.2; omega⟩;unfold Bo at ih ⊢;rw[List.flatMap_cons,FP,e,ih,A5,Int.add_mul]
theorem auv_mul {V d c n d' c' n':Nat} (X:List Int) {p q:List UT} (hp:SzU V d c n p) (hq:SzU V d' c' n' q) (h1:d≤120) (h2:d'≤120):auv X (Aq p q)≤auv X p*auv X q:=by
 have h:=auv_canU X (Bo p q);rw[auv_mulUs (d:=d) (c:=c) (n:=n) X hq h2 h1 hp.ex]at h;exact h
theorem auv_con (X:List Int) (V:Nat) (k:Int):auv X (conU V k)=(k.natAbs:Int):=by
 unfold conU;split
 ·rename_i h; subst h; simp[auv,sumL]
 ·rw[A5];show((k*AX X (List.replicate V 0)).natAbs:Int)+auv X []=_;rw[EH];simp[auv,sumL]
theorem Cl {X:List Int} {V i:Nat} (hX:X.length=V) (hi:i<V) (h0:∀y∈X,0≤y):auv X (varU V i)=X.getD i 0:=by
 have h:=DV hX hi;unfold varU uv at h;simp only[List.map_cons,List.map_nil,sumL]at h;unfold varU;rw[A5]
 have hg:0≤X.getD i 0:=by
  rw[List.getD_eq_getElem?_getD,List.getElem?_eq_getElem (by omega)];exact h0 _ (List.getElem_mem _)
 show((1*AX X (unU V i)).natAbs:Int)+0=_;omega
end Go.AL
/- The values of a history's links: how large they are. Plain. -/
namespace Go.AL
theorem ds_le {Q c:Nat}:∀ {n:Nat} {d:Nat→Nat},(∀t,t<n→d t≤c)→ds Q n d≤c*ds Q n fun _=>1
 | 0,_,_=>by simp[ds]
 | n+1,d,h=>by
  have h0:=h 0 (by omega);have ih:=ds_le (Q:=Q) (n:=n) (d:=fun t=>d (t+1)) fun t ht=>h (t+1) (by omega);have k:=Nat.mul_le_mul_left Q ih;rw[ds,ds,Nat.mul_add,Nat.mul_one]
  have e:Q*(c*ds Q n fun _=>1)=c*(Q*ds Q n fun _=>1):=by
   rw[←Nat.mul_assoc,←Nat.mul_assoc,Nat.mul_comm Q c]
  omega
section
variable {m:MZ} {x X:List Int}
structure HB (m:MZ) (X:List Int) (Q I W:Int):Prop where
  len:X.length=m.V
  nn:∀y∈X,0≤y
  q2:2≤Q
  i1:1≤I
  qi:Q*I≤2*W
  x0:X.getD 0 0≤4096
  x1:2*X.getD 1 0=Q
  x2:X.getD 2 0=I
  xl:∀i,i<m.l→X.getD (3+i) 0≤I
  xr:∀j,j<m.R→X.getD (3+m.l+j) 0≤4096*I
  xe:∀j,j<m.R→X.getD (3+m.l+m.R+j) 0≤4096
theorem nn_get (h0:∀y∈X,0≤y) (i:Nat):0≤X.getD i 0:=by
 rw[List.getD_eq_getElem?_getD]
 cases h:X[i]? with
 | none=>simp
 | some y=>exact h0 y (List.mem_of_getElem? h)
variable {Q I W:Int}
theorem HB.le (h:HB m X Q I W):I≤W∧Q≤2*W∧1≤W:=by
 have h1:=h.q2;have h2:=h.i1;have h3:=h.qi;have k1:2*I≤Q*I:=Int.mul_le_mul_of_nonneg_right h1 (by omega);have k2:Q*1≤Q*I:=Int.mul_le_mul_of_nonneg_left h2 (by omega);omega
theorem auvQ (h:HB m X Q I W) (h6:6≤m.V):auv X (hsQ m.V)≤Q:=by
 unfold hsQ;rw[BL (SzU.con m.V 2)];refine Int.le_trans (auv_mul X (SzU.con m.V 2) (AN (V:=m.V) (i:=1) (by omega)) (by omega) (by omega)) ?_;rw[auv_con,Cl h.len (by omega) h.nn,show((2:Int).natAbs:Int)=2 from rfl,h.x1];exact Int.le_refl _
theorem mul_le_both {a b c d:Int} (h1:a≤c) (h2:b≤d) (h3:0≤b) (h4:0≤c):a*b≤c*d:=
 Int.le_trans (Int.mul_le_mul_of_nonneg_right h1 h3) (Int.mul_le_mul_of_nonneg_left h2 h4)
theorem auvMul {V d c n d' c' n':Nat} {p q:List UT} {A B:Int} (hp:SzU V d c n p) (hq:SzU V d' c' n' q) (h1:d≤120) (h2:d'≤120) (ha:auv X p≤A) (hb:auv X q≤B) (h0:0≤A):auv X (Aq p q)≤A*B:=
 Int.le_trans (auv_mul X hp hq h1 h2) (mul_le_both ha hb (auv_nn X q) h0)
theorem auvAdd {p q:List UT} {A B:Int} (ha:auv X p≤A) (hb:auv X q≤B):auv X (addL p q)≤A+B:=by
 have:=auv_add X p q;omega
theorem auvSub {p q:List UT} {A B:Int} (ha:auv X p≤A) (hb:auv X q≤B):auv X (subL p q)≤A+B:=by
 have:=auv_sub X p q;omega
theorem auvAll (h:HB m X Q I W) (h6:6≤m.V):auv X (Bp m.V)≤1+(Q+1)*I:=by
 have a:=(Ba h6).1;have b:=a.sub (SzU.con m.V 1);have v:=AN (V:=m.V) (i:=2) (by omega);have q2:=h.q2;unfold Bp;rw[BL b,CL (SzU.con m.V 1) (b.mul v)];refine auvAdd (by rw[auv_con]; omega) (auvMul b v (by omega) (by omega) (auvSub (auvQ h h6) (by rw[auv_con]; omega)) ?_ (by omega));rw[Cl h.len (by omega) h.nn,h.x2]; omega
theorem auvSum (h:HB m X Q I W) (c:IZ→Bool):∀(xs:List IZ) {i:Nat} {acc:List UT} {k n:Nat},SzU m.V 1 k n acc→i+xs.length≤m.l→auv X (Aj m.V c i xs acc)≤auv X acc+xs.length*I
 | [],i,acc,k,n,_,_=>by simp[Aj]
 | y::ys,i,acc,k,n,ha,hi=>by
  rw[List.length_cons]at hi;have hVe:m.V=3+m.l+2*m.R:=rfl;have v:=AN (V:=m.V) (i:=3+i) (by omega);have i1:=h.i1;rw[Aj,List.length_cons,show((ys.length+1:Nat):Int)*I=ys.length*I+I by rw[Int.natCast_add,Int.add_mul]; simp];split
  ·have hs:SzU m.V 1 (k+1) (n+1) (addL acc (varU m.V (3+i))):=(ha.add v).mono (by omega) (by omega) (by omega);rw[CL ha v];have ih:=auvSum h c ys (i:=i+1) hs (by omega);have e:=auvAdd (X:=X) (Int.le_refl (auv X acc)) (q:=varU m.V (3+i)) (B:=I) (by rw[Cl h.len (by omega) h.nn]; exact h.xl i (by omega));omega
  ·have ih:=auvSum h c ys ha (i:=i+1) (by omega);omega
theorem auvSum0 (h:HB m X Q I W) (ok:OkMZ m) (c:IZ→Bool):auv X (Aj m.V c 0 m.code (conU m.V 0))≤15*I:=by
 have e:=auvSum h c m.code (i:=0) (SzU.con m.V 0 |>.mono (d':=1) (by omega) (Nat.le_refl _) (Nat.le_refl _)) (by show 0+m.code.length≤m.code.length; omega);rw[auv_con]at e;have hl:m.code.length≤15:=ok.l15;have i1:=h.i1;have:(m.code.length:Int)*I≤15*I:=Int.mul_le_mul_of_nonneg_right (by omega) (by omega);simp only[Int.natAbs_zero]at e;omega
theorem auvHere (h:HB m X Q I W) (h6:6≤m.V) {i:Nat} (hi:i<m.l):auv X (Ai m i)≤Q*I:=by
 have a:=(Ba h6).1;have hVe:m.V=3+m.l+2*m.R:=rfl;have v:=AN (V:=m.V) (i:=3+i) (by omega);have q2:=h.q2;unfold Ai;rw[BL a];exact auvMul a v (by omega) (by omega) (auvQ h h6) (by rw[Cl h.len (by omega) h.nn]; exact h.xl i hi) (by omega)
theorem auvDoes (h:HB m X Q I W) (ok:OkMZ m) (op:Int) (j:Nat):auv X (BI m op j)≤15*(Q*I):=by
 have a:=(Ba ok.V6).1;have q2:=h.q2;unfold BI;rw[BL a];have:=auvMul (X:=X) a (DZ ok (fun x=>decide (x.op=op)&&decide (x.rg=j))) (by omega) (by omega) (auvQ h ok.V6) (auvSum0 h ok _) (by omega);refine Int.le_trans this (Int.le_of_eq ?_);rw[←Int.mul_assoc,Int.mul_comm Q 15,Int.mul_assoc]
theorem auvL (h:HB m X Q I W) (ok:OkMZ m) {j:Nat} (hj:j<m.R):auv X (hsL m j)≤4096*I+4096*(1+(Q+1)*I):=by
 have hVe:m.V=3+m.l+2*m.R:=rfl;have a:=AN (V:=m.V) (i:=3+m.l+j) (by omega);have b:=AN (V:=m.V) (i:=3+m.l+m.R+j) (by omega);have c:=(Cz ok.V6).1;unfold hsL;rw[BL b,CL a (b.mul c)];refine auvAdd (by rw[Cl h.len (by omega) h.nn]; exact h.xr j hj) (auvMul b c (by omega) (by omega) (by rw[Cl h.len (by omega) h.nn]; exact h.xe j hj) (auvAll h ok.V6) (by omega))
theorem auvR0 (h:HB m X Q I W) (ok:OkMZ m) (hx:OkIn m x) {j:Nat} (hj:j<m.R):auv X (hsR0 m x j)≤1000+4096*(Q*I)+15*(Q*I):=by
 have hVe:m.V=3+m.l+2*m.R:=rfl;have hb:=getD_in hx j;have a:=SzU.con m.V (x.getD j 0);have q:=(Ba ok.V6).1;have v:=AN (V:=m.V) (i:=3+m.l+j) (by omega);have d:=sz_does ok 0 j;have q2:=h.q2;unfold hsR0;rw[BL q,sums3 a (q.mul v) d];refine auvAdd (auvAdd (by rw[auv_con]; omega) ?_) (auvDoes h ok 0 j);have:=auvMul (X:=X) q v (by omega) (by omega) (auvQ h ok.V6) (B:=4096*I) (by rw[Cl h.len (by omega) h.nn]; exact h.xr j hj) (by omega);refine Int.le_trans this (Int.le_of_eq ?_);rw[←Int.mul_assoc,Int.mul_comm Q 4096,Int.mul_assoc]
theorem hs_auv (h:HB m X Q I W) (ok:OkMZ m) (hx:OkIn m x):∀k∈hsK m x,∀p∈k.2,auv X p≤65536*W:=by
 obtain⟨w1,w2,w3⟩:=h.le;obtain⟨s1,s2,s3⟩:=addZ_b ok hx;have hV6:=ok.V6;have hVe:m.V=3+m.l+2*m.R:=rfl;have q2:=h.q2;have i1:=h.i1;have qi:=h.qi;have qi0:0≤Q*I:=Int.mul_nonneg (by omega) (by omega)
 have q1:(Q+1)*I=Q*I+I:=by rw[Int.add_mul,Int.one_mul]
 have vl:=fun i (hi:i<m.l)=>show auv X (varU m.V (3+i))≤I by rw[Cl h.len (by omega) h.nn]; exact h.xl i hi
 have vr:=fun j (hj:j<m.R)=>show auv X (varU m.V (3+m.l+j))≤4096*I by rw[Cl h.len (by omega) h.nn]; exact h.xr j hj
 have v0:auv X (varU m.V 0)≤4096:=by rw[Cl h.len (by omega) h.nn]; exact h.x0
 have v1:auv X (varU m.V 1)≤Q:=by rw[Cl h.len (by omega) h.nn]; have:=h.x1; have:=nn_get h.nn 1; omega
 have v2:auv X (varU m.V 2)≤I:=by rw[Cl h.len (by omega) h.nn,h.x2]; omega
 have cc:=fun k:Int=>auv_con X m.V k
 have sadd:∀k:Int,0≤k→k≤5000→auv X (An [] [varU m.V 0,conU m.V k])≤65536*W:=fun k k0 k1=>by
  rw[CL (AN (V:=m.V) (i:=0) (by omega)) (SzU.con m.V k)];have:=auvAdd v0 (Int.le_of_eq (cc k));omega
 have aQ:=auvQ h hV6;have aA:=auvAll h hV6;have aS:=fun c=>auvSum0 h ok c;rw[q1]at aA;intro l hl;simp only[hsK,List.mem_append,List.mem_map,List.mem_flatMap,List.mem_range]at hl;rcases hl with((((hl|⟨i,hi,rfl⟩)|hl)|⟨j,hj,rfl⟩)|⟨i,hi,hl⟩)|⟨j,hj,rfl⟩
 ·simp only[hsA,List.mem_cons,List.not_mem_nil,or_false]at hl;rcases hl with rfl|rfl|rfl
  ·simp only[List.forall_mem_cons];exact⟨by rw[cc]; omega,sadd _ (by omega) (by omega),by omega,by simp⟩
  ·simp only[List.forall_mem_cons];exact⟨by omega,sadd 1 (by omega) (by omega),by omega,by simp⟩
  ·simp only[List.forall_mem_cons];exact⟨by have:=auvSub v2 (aS fun _=>true); omega,by simp⟩
 ·unfold hsB;simp only[List.forall_mem_cons];exact⟨by have:=vl i hi; omega,by omega,by simp⟩
 ·simp only[hsC,List.mem_cons,List.not_mem_nil,or_false]at hl;rcases hl with rfl|rfl
  ·simp only[List.forall_mem_cons];exact⟨by rw[cc]; omega,by have:=vl 0 ok.l1; simp only[Nat.add_zero]at this; omega,by simp⟩
  ·simp only[List.forall_mem_cons];exact⟨by omega,by omega,by have:=aS fun x=>decide (x.op=3); omega,by simp⟩
 ·unfold hsD;simp only[List.forall_mem_cons];refine⟨by have:=vr j hj; omega,?_,by simp⟩;have a:=(AN (V:=m.V) (i:=1) (by omega)).sub (SzU.con m.V 1);rw[BL a];have:=auvMul a (AN (V:=m.V) (i:=2) (by omega)) (by omega) (by omega) (auvSub v1 (Int.le_of_eq (cc 1))) v2 (by omega);have e:(Q+((1:Int).natAbs:Int))*I=Q*I+I:=q1;omega
 ·have hh:=auvHere h hV6 hi;unfold hsGo at hl;split at hl
  ·simp at hl
  ·rename_i h3;rcases ok.ins i hi with k|⟨⟨a1,a2⟩,⟨b1,b2⟩,k⟩
   ·rw[k]at h3; exact absurd rfl h3
   have hR:((m.R:Nat):Int)=m.regs:=by have:=ok.r1; show((m.regs.toNat:Nat):Int)=_; omega
   have hb2:(m.at i).nx<(m.l:Int):=b2;split at hl
   ·rename_i h2
    have hz:0≤(m.at i).zr∧(m.at i).zr<m.l:=by
     rcases k with k|k
     ·exact⟨k.2.1,k.2.2.1⟩
     ·omega
    simp only[List.mem_cons,List.not_mem_nil,or_false]at hl;have vn:=AN (V:=m.V) (i:=3+(m.at i).nx.toNat) (by omega);have vz:=AN (V:=m.V) (i:=3+(m.at i).zr.toNat) (by omega);have vrr:=AN (V:=m.V) (i:=3+m.l+(m.at i).rg.toNat) (by omega);have vv2:=AN (V:=m.V) (i:=2) (by omega);have q:=(Ba hV6).1;have un:=vl (m.at i).nx.toNat (by omega);have uz:=vl (m.at i).zr.toNat (by omega);have ur:=vr (m.at i).rg.toNat (by omega);rcases hl with rfl|rfl
    ·simp only[List.forall_mem_cons];refine⟨by omega,?_,by simp⟩;rw[CL vn vz];have:=auvAdd un uz;omega
    ·simp only[List.forall_mem_cons];refine⟨by omega,?_,by simp⟩;have e1:=q.mul vv2;unfold C5;rw[BL q,BL (SzU.con m.V 2),CL vn e1];have k1:=auvMul (X:=X) q vv2 (by omega) (by omega) aQ v2 (by omega);have k2:=auvMul (X:=X) (SzU.con m.V 2) vrr (by omega) (by omega) (Int.le_of_eq (cc 2)) ur (by omega);have:=auvSub (auvAdd un k1) k2
     have e:((2:Int).natAbs:Int)*(4096*I)=8192*I:=by rw[←Int.mul_assoc]; rfl
     omega
   ·simp only[List.mem_cons,List.not_mem_nil,or_false]at hl;subst hl;simp only[List.forall_mem_cons];exact⟨by omega,by have:=vl (m.at i).nx.toNat (by omega); omega,by simp⟩
 ·unfold hsF;simp only[List.forall_mem_cons];refine⟨?_,by simp⟩;have k1:=auvL h ok hj;have k2:=auvR0 h ok hx hj;have k3:=auvDoes h ok 1 j;have:=auvSub k1 (auvSub k2 k3);rw[q1]at this;omega
theorem fit_pow {v:Int} {e:Nat} (h:v.natAbs<2^e) (he:e≤131072):Fit v:=by
 refine Fit.mk ?_;obtain⟨E,hE⟩:∃E,E=32*4096:=⟨_,rfl⟩;have h1:2^e≤2^E:=Nat.pow_le_pow_right (by omega) (by omega);rw[BB_pow,←hE]
 have h2:(2:Int)^E=((2^E:Nat):Int):=by rw[Int.natCast_pow]; rfl
 rw[h2];omega
theorem not_fit_pow {v:Int} {e:Nat} (h:2^e≤v.natAbs) (he:131072≤e):¬Fit v:=by
 intro hf;have hf:=hf.lt;obtain⟨E,hE⟩:∃E,E=32*4096:=⟨_,rfl⟩;have h1:2^E≤2^e:=Nat.pow_le_pow_right (by omega) (by omega);rw[BB_pow,←hE]at hf
 have h2:(2:Int)^E=((2^E:Nat):Int):=by rw[Int.natCast_pow]; rfl
 rw[h2]at hf;omega
theorem hist_hb (ok:OkMZ m) (hx:OkIn m x) {s:Nat} {pl:Nat→Nat} {r:Nat→Nat→Nat} (hs:s≤3000) (hr:∀t j,t≤s→r t j≤4096):HB m (BD m x s pl r) (2*2^(s+(addZ m x).toNat):Nat) (ds (2*2^(s+(addZ m x).toNat)) (s+1) fun _=>1:Nat) (2^((s+(addZ m x).toNat+1)*(s+1)):Nat):=by
 obtain⟨g0,g1,g2,g3,g4,g5⟩:=Cq (m:=m) (x:=x) s pl r;obtain⟨H,eH⟩:∃H,H=2^(s+(addZ m x).toNat):=⟨_,rfl⟩
 have hH:1≤H:=by rw[eH]; exact Nat.one_le_two_pow
 have e:=ds_ones (Q:=2*H) (by omega) (s+1)
 have eW:(2*H)^(s+1)=2^((s+(addZ m x).toNat+1)*(s+1)):=by
  rw[eH,show 2*2^(s+(addZ m x).toNat)=2^(s+(addZ m x).toNat+1) by rw[Nat.pow_succ]; omega,←Nat.pow_mul]
 rw[←eW,←eH];rw[←eH]at g1 g2 g3 g4
 have i1:1≤ds (2*H) (s+1) fun _=>1:=by rw[ds]; omega
 refine⟨Ca _ _ _,histL_nn _ _ _,by omega,by omega,?_,by rw[g0]; omega,by rw[g1]; omega,by rw[g2],fun i hi=>?_,fun j hj=>?_,fun j hj=>?_⟩
 ·have k:(2*H-1)*(ds (2*H) (s+1) fun _=>1)=2*H*(ds (2*H) (s+1) fun _=>1)-(ds (2*H) (s+1) fun _=>1):=by rw[Nat.sub_mul,Nat.one_mul]
  have k2:2*(ds (2*H) (s+1) fun _=>1)≤2*H*(ds (2*H) (s+1) fun _=>1):=Nat.mul_le_mul_right _ (by omega);rw[←Int.natCast_mul];omega
 ·rw[g3 i hi]
  have:=ds_le (Q:=2*H) (c:=1) (n:=s+1) (d:=plD pl i) fun t _=>by unfold plD; split<;>omega
  omega
 ·rw[g4 j hj];have:=ds_le (Q:=2*H) (c:=4096) (n:=s+1) (d:=fun t=>r t j) fun t ht=>hr t j (by omega);omega
 ·rw[g5 j hj];have:=hr s j (Nat.le_refl _);omega
theorem hist_ev (ok:OkMZ m) (hx:OkIn m x) {s:Nat} {pl:Nat→Nat} {r:Nat→Nat→Nat} (hs:s≤3000) (hr:∀t j,t≤s→r t j≤4096) (hsz:(s+(addZ m x).toNat+1)*(s+1)≤131032):∀l∈(hsS m x).links,EvL (BD m x s pl r) l:=by
 have hb:=hist_hb (pl:=pl) ok hx hs hr;have ha:=hs_auv hb ok hx;have hsm:=DC ok hx;intro l hl;obtain⟨k,hk,rfl⟩:=List.mem_map.1 hl;have hV:=ok.V32;refine evL_linkU hb.len (fun p hp u hu=>?_) fun p hp=>?_
 ·have q:=((hsm k hk).2.2 p hp).ex u hu;exact⟨q.1,(ex_ok (d:=4) (by omega) q).2.2⟩
 ·have a1:=ha k hk p hp;have a2:=auv_nn (BD m x s pl r) p;refine fit_pow (e:=(s+(addZ m x).toNat+1)*(s+1)+17) ?_ (by omega)
  have:2^((s+(addZ m x).toNat+1)*(s+1)+17)=131072*2^((s+(addZ m x).toNat+1)*(s+1)):=by
   rw[Nat.pow_add]; exact Nat.mul_comm _ _
  rw[this];have:1≤2^((s+(addZ m x).toNat+1)*(s+1)):=Nat.one_le_two_pow;omega
end
end Go.AL
/- Validity of any many numbers. -/
namespace Go.Proofs.YtmmfloplhopioaaGreat
open Go.AL
end Go.Proofs.YtmmfloplhopioaaGreat
/- history's encode. -/
namespace Go.AL
abbrev hL (m:MZ) (x:List Int) (s:Nat):List Int:=BD m x s (fun t=>(m.mach.F (inF x) t).1) (fun t=>(m.mach.F (inF x) t).2)
theorem Eh {l:List Int} {i k:Nat} {v:Int} (hi:i<l.length):(l.set i v).getD k 0=if k=i then v else l.getD k 0:=by
 rw[List.getD_eq_getElem?_getD,List.getElem?_set];by_cases h:i=k
 ·subst h;rw[if_pos rfl,if_pos hi,if_pos rfl]; rfl
 ·rw[if_neg h,if_neg (fun e=>h e.symm),List.getD_eq_getElem?_getD]
theorem ext_getD {a b:List Int} (h:a.length=b.length) (hk:∀k,k<a.length→a.getD k 0=b.getD k 0):a=b:=by
 refine List.ext_getElem? fun i=>?_;by_cases hi:i<a.length
 ·have:=hk i hi;rw[List.getD_eq_getElem?_getD,List.getD_eq_getElem?_getD,List.getElem?_eq_getElem hi,List.getElem?_eq_getElem (by omega)]at this;rw[List.getElem?_eq_getElem hi,List.getElem?_eq_getElem (by omega)];exact congrArg some this
 ·rw[List.getElem?_eq_none (by omega),List.getElem?_eq_none (by omega)]
theorem stL_map {m:MZ} {x:List Int} {n:Nat} {f:Int×List Int→Int} {d:Nat→Nat} (h:∀t,t<n→f (stF m x t)=((d t:Nat):Int)):(stL m x n).map f=rgL n d:=by
 unfold stL rgL;rw[List.map_map];exact List.map_congr_left fun t ht=>h t (List.mem_range.1 ht)
end Go.AL
namespace Go.Proofs.YtmmfloplhopioaaGreat
open Go.AL
abbrev eB1 (h:Nat) (L:List (Int×List Int)) (xs:List Int):List (AL.Id×Bx):=[(900,.cells [aN h] 3),(901,.cells [.sl 2 eSt L] 30),(902,.cells [.row 903] 33),(903,.row 2 eX xs 48)]
theorem put_ok (g:FuncId) (f:Int×List Int→Int) (n:Nat) (d:Nat→Nat) (h:Nat) (L:List (Int×List Int)) (xs:List Int) (i:Nat) (hi:i<xs.length) (hg:∀c,PureFn Tryz.prog g [aSt c.1 c.2] (aN (f c))) (hm:L.map f=rgL n d) (hh:h≤200000) (hn:n≤1000000) (hL:L.length≤1000000) (hnb:n*(h+1)≤3000000) (hd:∀t,t<n→d t<2^41∧d t<2^(h+1)) :
  IoFn Tryz.prog 90 ([aN i,.fn g []]++[.ptr 900 0,.ptr 901 0,.ptr 902 0]) (eB1 h L xs) (.ret (.tup [])) (eB1 h L (xs.set i ((ds (2^(h+1)) n d:Nat):Int))):=by
 refine AH Tryz.func90 rfl Tryz.ntmps90 rfl rfl rfl ?_;have c1:=hColumn_ok g f L hL hg;rw[hm]at c1;have c2:=digits_ok (h+1) n d (by omega) hn hnb hd;(repeat' first|refine qv ?_|apply qr|refine qw ?_|fail);refine qc (c1) ?_;refine qc (c2) ?_;(repeat' first|refine Fl.nil (fun _=>by kernel_rfl) ?_|refine A8 rfl rfl rfl rfl rfl rfl rfl rfl (by omega) (by first|omega|(simp; omega)) ?_|refine Bb rfl rfl rfl rfl rfl rfl rfl rfl rfl rfl rfl (AB _) rfl (by first|omega|(simp; omega)) ?_|fail);exact⟨⟨[],_,_,AM _ _ _,rfl,AA _,rfl,⟨⟨⟨_,rfl,BLe.cells (AB _)⟩,rfl⟩,⟨⟨_,rfl,BLe.cells (AB _)⟩,rfl⟩,⟨⟨_,rfl,BLe.cells (AB _)⟩,rfl⟩,⟨⟨_,rfl,BLe.row rfl⟩,rfl⟩,trivial⟩,rfl,rfl⟩⟩
abbrev eB2 (i0:Nat) (h:Nat) (L:List (Int×List Int)) (xs:List Int):List (AL.Id×Bx):=eB1 h L xs++nB1 i0
theorem put1_ok (g:FuncId) (i0:Nat) (f:Int×List Int→Int) (n:Nat) (d:Nat→Nat) (h:Nat) (L:List (Int×List Int)) (xs:List Int) (i:Nat) (hi:i<xs.length) (hg:∀c∈L,IoFn Tryz.prog g ([aSt c.1 c.2]++[.ptr 904 0]) (nB1 i0) (.ret (aN (f c))) (nB1 i0)) (hm:L.map f=rgL n d) (hh:h≤200000) (hn:n≤1000000) (hL:L.length≤1000000) (hnb:n*(h+1)≤3000000) (hd:∀t,t<n→d t<2^41∧d t<2^(h+1)) :
  IoFn Tryz.prog 90 ([aN i,.fn g [.ptr 904 0]]++[.ptr 900 0,.ptr 901 0,.ptr 902 0]) (eB2 i0 h L xs) (.ret (.tup [])) (eB2 i0 h L (xs.set i ((ds (2^(h+1)) n d:Nat):Int))):=by
 refine AH Tryz.func90 rfl Tryz.ntmps90 rfl rfl rfl ?_;have c1:=hColumn1_ok g i0 f L hL hg;rw[hm]at c1;have c2:=digits_ok (h+1) n d (by omega) hn hnb hd;(repeat' first|refine qv ?_|apply qr|refine qw ?_|fail);refine Fl.ioR rfl [] c1 rfl rfl (AB _) rfl ⟨⟨⟨_,rfl,BLe.cells (AB _)⟩,rfl⟩,trivial⟩ ⟨rfl,trivial⟩ rfl rfl rfl rfl ?_;refine qc (c2) ?_;(repeat' first|refine Fl.nil (fun _=>by kernel_rfl) ?_|refine A8 rfl rfl rfl rfl rfl rfl rfl rfl (by omega) (by first|omega|(simp; omega)) ?_|refine Bb rfl rfl rfl rfl rfl rfl rfl rfl rfl rfl rfl (AB _) rfl (by first|omega|(simp; omega)) ?_|fail);exact⟨⟨[],_,_,AM _ _ _,rfl,AA _,rfl,⟨⟨⟨_,rfl,BLe.cells (AB _)⟩,rfl⟩,⟨⟨_,rfl,BLe.cells (AB _)⟩,rfl⟩,⟨⟨_,rfl,BLe.cells (AB _)⟩,rfl⟩,⟨⟨_,rfl,BLe.row rfl⟩,rfl⟩,⟨⟨_,rfl,BLe.cells (AB _)⟩,rfl⟩,trivial⟩,rfl,rfl⟩⟩
theorem chValidH_ok (X:List Int) (hl:X.length≤1000000000) (b:Bool) (hb:b=true↔∀y∈X,Fit y):PureFn Tryz.prog 49 [.sl 2 eX X] (aB b):=by
 refine(chValid_ok (X.map zOf) (fun z hz=>?_) (by rw[List.length_map]; omega)).le (LeL.cons (DK (enc:=eZ) (f:=zOf)) LeL.nil) (AV.Le.bool ?_)
 ·obtain⟨x,hx,rfl⟩:=List.mem_map.1 hz; exact Ag _
 ·refine dec_of hb ⟨fun h y hy=>?_,fun h z hz=>?_⟩
  ·have:=(D3 (z:=zOf y) (Ag _) (h _ (List.mem_map.2 ⟨y,hy,rfl⟩))).2;rwa [A4]at this
  ·obtain⟨x,hx,rfl⟩:=List.mem_map.1 hz; exact Di (h x hx)
set_option maxHeartbeats 2000000 in
theorem encode_ok (m:MZ) (hm:OkMZ m) (x:List Int) (hx:OkIn m x) (s:Nat) (hg1:(s+(addZ m x).toNat+1)*s+1≤131072) (hg2:s+(addZ m x).toNat+1≤131072) (h1:∀t,t<s→¬m.mach.Over (m.mach.F (inF x) t)) (b:Bool) (hb:b=true↔∀y∈hL m x s,Fit y):PureFn Tryz.prog 46 [aSz m x,aN s] (.tup [.sl 2 eX (hL m x s),aB b]):=by
  refine AC Tryz.func46 rfl Tryz.ntmps46 rfl rfl ?_;obtain⟨s1,s2,s3⟩:=addZ_b hm hx;have hV:=hm.V32;have hVe:m.V=3+m.l+2*m.R:=rfl;have hl15:m.code.length≤15:=hm.l15;have hll:m.l=m.code.length:=rfl;have hr1:=hm.r1;have hr4:=hm.r4;have hRe:=Cm hm;have hst:=hStates_ok m hm x hx s (by omega) h1;have hlt:=Mach.F_lt hm.mach (inF x) h1
  have hbd:∀t j,t≤s→(m.mach.F (inF x) t).2 j≤1000+s:=fun t j ht=>by
    have:=m.mach.F_le (x:=inF x) j t;have:=inF_le hx j;omega
  have hbdx:∀t j,t≤s→(m.mach.F (inF x) t).2 j≤inF x j+s:=fun t j ht=>by
    have:=m.mach.F_le (x:=inF x) j t;omega
  obtain⟨a,ea⟩:∃a:Nat,addZ m x=a:=⟨(addZ m x).toNat,by omega⟩;have ea':(m.l:Int)+sumL x=a:=ea
  have hin:∀j,j<m.R→inF x j≤a:=fun j hj=>by
    have:=(in_le hm hx).2 j hj;rw[ea,Int.toNat_natCast]at this;exact this
  obtain⟨g0,g1,g2,g3,g4,g5⟩:=Cq (m:=m) (x:=x) s (fun t=>(m.mach.F (inF x) t).1) (fun t=>(m.mach.F (inF x) t).2);have hHl:=Ca (m:=m) (x:=x) s (fun t=>(m.mach.F (inF x) t).1) (fun t=>(m.mach.F (inF x) t).2);obtain⟨H,eH⟩:∃H,H=hL m x s:=⟨_,rfl⟩;unfold hL at eH;rw[←eH]at g0 g1 g2 g3 g4 g5 hHl;rw[ea,Int.toNat_natCast]at hg1 hg2 g1 g2 g3 g4;rw[show 2*2^(s+a)=2^(s+a+1) by rw[Nat.pow_succ]; omega]at g2 g3 g4;have hv:=chValidH_ok H (by omega) b (by rw[eH]; exact hb);show AWP _ _ _ _ _ _
  have hres:(AV.tup [.sl 2 eX (hL m x s),aB b]) = .tup [.sl 2 eX H,aB b]:=by rw[eH]
  rw[hres];rw[ea]at s1 s2
  have hp:((s:Int)+(a:Int)+1)*(s:Int)=(((s+a+1)*s:Nat):Int):=by rw[Int.natCast_mul]; rfl
  have hnb:(s+1)*(s+a+1)≤3000000:=by rw[Nat.add_mul,Nat.one_mul,Nat.mul_comm s]; omega
  have hsz:aSz m x = .agg [aN m.regs,.sl 4 eIz m.code,aI x,aN m.V,aN (a:Int)]:=by show AV.agg [_,_,_,_,aN (addZ m x)]=_; rw[ea]
  have cL:∀i:Nat,i≤1000→PureFn Tryz.prog 96 [.agg [aN m.regs,.sl 4 eIz m.code,aI x,aN m.V,aN (a:Int)],aN i] (aN ((3+i:Nat):Int)):=fun i hi=>hsz▸Bw m x i hi;have cR:∀i:Nat,i≤1000→PureFn Tryz.prog 98 [.agg [aN m.regs,.sl 4 eIz m.code,aI x,aN m.V,aN (a:Int)],aN i] (aN ((3+m.l+i:Nat):Int)):=fun i hi=>hsz▸szReg_ok m x i (by omega) hi;have cE:∀i:Nat,i≤1000→PureFn Tryz.prog 100 [.agg [aN m.regs,.sl 4 eIz m.code,aI x,aN m.V,aN (a:Int)],aN i] (aN ((3+m.l+m.R+i:Nat):Int)):=fun i hi=>hsz▸szEnd_ok m x i (by omega) (by omega) hr4 hi;rw[hsz]at hst ⊢;have hbig:∀v:Nat,v≤s+a→v<2^(s+a+1):=fun v h=>Nat.lt_of_lt_of_le (Nat.lt_of_le_of_lt h Nat.lt_two_pow_self) (Nat.pow_le_pow_right (by omega) (by omega))
  have h41 : ∀ v : Nat, v ≤ 1000000 → v < 2 ^ 41 := fun v h => by have:(1000000:Nat)<2^41:=by decide
                                                                  omega
  have hF2:Fit ((2:Int)^(s+a)):=by
    refine fit_pow (e:=s+a+1) ?_ hg2
    have:((2:Int)^(s+a))=((2^(s+a):Nat):Int):=by rw[Int.natCast_pow]; rfl
    rw[this,Int.natAbs_natCast];exact Nat.pow_lt_pow_right (by omega) (by omega)
  have cP:=Power_ok 2 ((s+a:Nat):Int) (fit_pow (e:=2) (by decide) (by omega)) (by omega) (by omega);rw[Int.toNat_natCast,FR hF2]at cP;have hlL:=stL_len m x (s+1);have hgetS:(stL m x (s+1))[s]? = some (stF m x s):=stL_get (by omega)
  generalize hmu:(s+a+1)*s=p at *
  refine AE ?_;(repeat' first|refine qv ?_|apply qn|apply qr|refine qe ?_|fail);refine⟨AE ?_⟩;(repeat' first|refine qv ?_|apply qn|apply qr|refine qw ?_|refine qe ?_|fail);refine⟨AE ?_⟩;(repeat' first|refine qv ?_|apply qn|apply qs|apply qr|refine qw ?_|(refine AD rfl ?_ ?_<;>intro _<;>try(exfalso; omega))|apply qk|(refine AG rfl rfl ?_ ?_<;>intro _<;>try(exfalso; omega)));refine⟨AE ?_⟩;(repeat' first|refine qv ?_|apply qr);refine qc (hst) ?_;(repeat' first|apply qn|refine qe ?_|fail);refine⟨AE ?_⟩;(repeat' first|refine qv ?_|apply qr);refine CH rfl rfl rfl rfl rfl rfl rfl rfl rfl rfl eX 0 (by exact DQ (σ:=[]) rfl) (by rfl) (by omega) (by dsimp only; omega) (by omega) ?_;(repeat' first|apply qn|refine qe ?_|fail);refine⟨AE ?_⟩;(repeat' first|refine qv ?_|apply qn|apply qr);refine⟨AE ?_⟩;(repeat' first|refine qv ?_|apply qr);refine qc (Ct s (by omega) (by omega)) ?_;(repeat' first|refine Fl.nil (fun _=>by kernel_rfl) ?_|refine A8 rfl rfl rfl rfl rfl rfl rfl rfl (by omega) (by first|omega|(simp; omega)) ?_|refine Bb rfl rfl rfl rfl rfl rfl rfl rfl rfl rfl rfl (AB _) rfl (by first|omega|(simp; omega)) ?_|fail);refine⟨AE ?_⟩;(repeat' first|refine qv ?_|apply qr);refine qc (Ct 2 (by omega) (by omega)) ?_;(repeat' first|refine qv ?_|fail);refine Fl.call rfl cP rfl rfl rfl (LeL.cons (AA _) (LeL.cons (AV.Le.int (by omega)) LeL.nil)) ?_;(repeat' first|refine qv ?_|refine Fl.nil (fun _=>by kernel_rfl) ?_|refine A8 rfl rfl rfl rfl rfl rfl rfl rfl (by omega) (by first|omega|(simp; omega)) ?_|refine Bb rfl rfl rfl rfl rfl rfl rfl rfl rfl rfl rfl (AB _) rfl (by first|omega|(simp; omega)) ?_|fail);refine⟨AE ?_⟩;(repeat' first|refine qv ?_|apply qr);have hnb2:(s+1)*(s+a+1)≤3000000:=hnb;have d1:∀t,t<s+1→(fun _=>1:Nat→Nat) t<2^41∧(fun _=>1:Nat→Nat) t<2^(s+a+1):=fun t _=>⟨h41 1 (by omega),hbig 1 (by omega)⟩;refine ED rfl rfl [(900,6),(901,7),(902,8),(903,32)] (put_ok 95 (fun _=>1) (s+1) (fun _=>1) (s+a) (stL m x (s+1)) _ 2 (by simp; omega) tell2_ok (stL_map fun _ _=>rfl) (by omega) (by omega) (by omega) hnb2 d1) rfl rfl (AB _) rfl ⟨⟨⟨_,rfl,BLe.cells (AB _)⟩,rfl⟩,⟨⟨_,rfl,BLe.cells (AB _)⟩,rfl⟩,⟨⟨_,rfl,BLe.cells (AB _)⟩,rfl⟩,⟨⟨_,rfl,BLe.row rfl⟩,rfl⟩,trivial⟩ rfl rfl rfl rfl rfl ?_;(repeat' first|apply qn);refine⟨AE ?_⟩;(repeat' first|refine qv ?_|apply qn|apply qs|apply qr|apply qb);refine AWP.loop (G:=Nat×List Int) (fun(i,xs)=>i≤m.l∧xs.length=m.V∧∀k,k<3+i→xs.getD k 0=H.getD k 0) (fun(i,xs)=>AO [] [(1,aN s),(2,.ptr 2 0),(6,.ptr 6 0),(7,.ptr 7 0),(8,.ptr 8 0),(9,.fn 90 [.ptr 6 0,.ptr 7 0,.ptr 8 0]),(51,aN m.l),(52,aN i)] [(2,.cells [aN m.regs,.sl 4 eIz m.code,aI x,aN m.V,aN (a:Int)] 82),(6,.cells [aN (s+a:Nat)] 3),(7,.cells [.sl 2 eSt (stL m x (s+1))] 30),(8,.cells [.row 801] 33),(801,.row 2 eX xs 48)]) (fun(i,_)=>m.l-i) (0,((((List.replicate m.V 0).set 0 (s:Int)).set 1 ((2:Int)^(s+a))).set 2 ((ds (2^(s+a+1)) (s+1) (fun _=>1):Nat):Int))) ⟨by omega,by simp,fun k hk=>?_⟩ ?_ ?_
  · rw[Eh (by simp; omega),Eh (by simp; omega),Eh (by simp; omega)];rcases(show k=0∨k=1∨k=2 by omega)with rfl|rfl|rfl
    · rw[g0]; rfl
    · rw[g1,Int.natCast_pow]; rfl
    · rw[g2]; rfl
  · refine Ent.of [(801,32)] ?_ ?_ rfl rfl;(repeat' first|exact True.intro|refine⟨⟨AA _,rfl⟩,?_⟩|refine⟨⟨⟨_,rfl,BLe.cells (AB _)⟩,rfl⟩,?_⟩|refine⟨⟨⟨_,rfl,BLe.row rfl⟩,rfl⟩,?_⟩|fail)
  · intro ⟨i, xs⟩ ⟨k0,k1,k2⟩;(repeat' first|refine qv ?_|apply qn|apply qs|apply qr|refine qe ?_|(refine AD rfl ?_ ?_<;>intro _<;>try(exfalso; omega))|apply qb|apply qk|apply qx)
    · rename_i hi;refine qc (cL i (by omega)) ?_;(repeat' first|refine qv ?_|fail)
      have dl:∀t,t<s+1→plD (fun t=>(m.mach.F (inF x) t).1) i t<2^41∧plD (fun t=>(m.mach.F (inF x) t).1) i t<2^(s+a+1):=fun t _=>by
        have:plD (fun t=>(m.mach.F (inF x) t).1) i t≤1:=by unfold plD; split<;>omega
        exact⟨h41 _ (by omega),hbig _ (by omega)⟩
      refine ED rfl rfl [(900,6),(901,7),(902,8),(903,801),(904,10)] (put1_ok 97 i (fun c=>if c.1=i then 1 else 0) (s+1) (plD (fun t=>(m.mach.F (inF x) t).1) i) (s+a) (stL m x (s+1)) xs (3+i) (by omega) (fun c _=>tell3_ok i c) (stL_map fun t _=>by unfold stF plD; simp only; split<;>split<;>omega) (by omega) (by omega) (by omega) hnb2 dl) rfl rfl (AB _) rfl ⟨⟨⟨_,rfl,BLe.cells (AB _)⟩,rfl⟩,⟨⟨_,rfl,BLe.cells (AB _)⟩,rfl⟩,⟨⟨_,rfl,BLe.cells (AB _)⟩,rfl⟩,⟨⟨_,rfl,BLe.row rfl⟩,rfl⟩,⟨⟨_,rfl,BLe.cells (AB _)⟩,rfl⟩,trivial⟩ rfl rfl rfl rfl rfl ?_;(repeat' first|refine qv ?_|apply qn|apply qr|refine qw ?_|fail);refine LoopEnd.of (i+1,xs.set (3+i) ((ds (2^(s+a+1)) (s+1) (plD (fun t=>(m.mach.F (inF x) t).1) i):Nat):Int)) ⟨by omega,by rw[List.length_set]; exact k1,fun k hk=>?_⟩ (by simp only; omega) ?_
      · rw[Eh (by omega)];split
        · rename_i h; subst h; rw[g3 i (by omega)]
        · exact k2 k (by omega)
      · refine Ent.of [] ?_ ?_ rfl rfl;(repeat' first|exact True.intro|refine⟨⟨AA _,rfl⟩,?_⟩|refine⟨⟨⟨_,rfl,BLe.cells (AB _)⟩,rfl⟩,?_⟩|refine⟨⟨⟨_,rfl,BLe.row rfl⟩,rfl⟩,?_⟩|fail)
    · rename_i hi
      have hi:i=m.l:=by omega
      subst hi;refine⟨AE ?_⟩;(repeat' first|refine qv ?_|apply qn|apply qs|apply qr|apply qb);refine AWP.loop (G:=Nat×List Int) (fun(j,xs)=>j≤m.R∧xs.length=m.V∧∀k,k<3+m.l+j∨(3+m.l+m.R≤k∧k<3+m.l+m.R+j)→xs.getD k 0=H.getD k 0) (fun(j,xs)=>AO [] [(1,aN s),(2,.ptr 2 0),(6,.ptr 6 0),(7,.ptr 7 0),(8,.ptr 8 0),(9,.fn 90 [.ptr 6 0,.ptr 7 0,.ptr 8 0]),(64,aN m.R),(65,aN j)] [(2,.cells [aN m.regs,.sl 4 eIz m.code,aI x,aN m.V,aN (a:Int)] 82),(6,.cells [aN (s+a:Nat)] 3),(7,.cells [.sl 2 eSt (stL m x (s+1))] 30),(8,.cells [.row 801] 33),(801,.row 2 eX xs 48)]) (fun(j,_)=>m.R-j) (0,xs) ⟨by omega,k1,fun k hk=>k2 k (by omega)⟩ ?_ ?_
      · refine Ent.of [] ?_ ?_ rfl rfl;(repeat' first|exact True.intro|refine⟨⟨AA _,rfl⟩,?_⟩|refine⟨⟨⟨_,rfl,BLe.cells (AB _)⟩,rfl⟩,?_⟩|refine⟨⟨⟨_,rfl,BLe.row rfl⟩,rfl⟩,?_⟩|refine⟨⟨AV.Le.int ?_,rfl⟩,?_⟩|fail)
        all_goals omega
      · intro ⟨j,xs⟩ ⟨k0,k1,k2⟩;(repeat' first|refine qv ?_|apply qn|apply qs|apply qr|refine qe ?_|(refine AD rfl ?_ ?_<;>intro _<;>try(exfalso; omega))|apply qb|apply qk|apply qx)
        · rename_i hj;refine qc (cR j (by omega)) ?_;(repeat' first|refine qv ?_|fail)
          have hjR:j<m.R:=by omega
          have dr:∀t,t<s+1→(fun t=>(m.mach.F (inF x) t).2 j) t<2^41∧(fun t=>(m.mach.F (inF x) t).2 j) t<2^(s+a+1):=fun t ht=>by
            have e1:=hbd t j (by omega);have e2:=hbdx t j (by omega);have e3:=hin j hjR;show(m.mach.F (inF x) t).2 j<_∧(m.mach.F (inF x) t).2 j<_;exact⟨h41 _ (by omega),hbig _ (by omega)⟩
          have tell:∀c∈stL m x (s+1),IoFn Tryz.prog 99 ([aSt c.1 c.2]++[.ptr 904 0]) (nB1 j) (.ret (aN (c.2.getD j 0))) (nB1 j):=fun c hc=>by
            unfold stL at hc;obtain⟨t,_,rfl⟩:=List.mem_map.1 hc;refine tell4_ok j _ _ ?_;rw[Int.toNat_natCast,List.getD_eq_getElem?_getD];have:=DI (f:=(m.mach.F (inF x) t).2) hjR;unfold stF;rw[this]; rfl
          refine ED rfl rfl [(900,6),(901,7),(902,8),(903,801),(904,11)] (put1_ok 99 j (fun c=>c.2.getD j 0) (s+1) (fun t=>(m.mach.F (inF x) t).2 j) (s+a) (stL m x (s+1)) xs (3+m.l+j) (by omega) tell (stL_map fun t _=>by unfold stF; simp only; rw[List.getD_eq_getElem?_getD,DI hjR]; rfl) (by omega) (by omega) (by omega) hnb2 dr) rfl rfl (AB _) rfl ⟨⟨⟨_,rfl,BLe.cells (AB _)⟩,rfl⟩,⟨⟨_,rfl,BLe.cells (AB _)⟩,rfl⟩,⟨⟨_,rfl,BLe.cells (AB _)⟩,rfl⟩,⟨⟨_,rfl,BLe.row rfl⟩,rfl⟩,⟨⟨_,rfl,BLe.cells (AB _)⟩,rfl⟩,trivial⟩ rfl rfl rfl rfl rfl ?_
          have hgS:(stL m x (s+1))[Int.toNat (s:Int)]? = some (stF m x s):=by rw[Int.toNat_natCast]; exact hgetS
          have hgR:(stF m x s).2[Int.toNat (j:Int)]? = some (((m.mach.F (inF x) s).2 j:Nat):Int):=by rw[Int.toNat_natCast]; exact DI hjR
          have hgRl:((stF m x s).2.length:Int)=m.R:=by show((rgL _ _).length:Int)=_; rw[Bm]
          have hre:=hbd s j (Nat.le_refl _);(repeat' first|refine qv ?_|apply qn|apply qr);refine qc (cE j (by omega)) ?_;(repeat' first|refine qv ?_|refine qK ?_|fail);refine qc (Ct (((m.mach.F (inF x) s).2 j:Nat):Int) (by omega) (by omega)) ?_;(repeat' first|refine qv ?_|apply qn|refine Fl.nil (fun _=>by kernel_rfl) ?_|apply qr|refine qw ?_|refine A8 rfl rfl rfl rfl rfl rfl rfl rfl (by omega) (by first|omega|(simp; omega)) ?_|refine Bb rfl rfl rfl rfl rfl rfl rfl rfl rfl rfl rfl (AB _) rfl (by first|omega|(simp; omega)) ?_|fail);refine LoopEnd.of (j+1,(xs.set (3+m.l+j) ((ds (2^(s+a+1)) (s+1) (fun t=>(m.mach.F (inF x) t).2 j):Nat):Int)).set (3+m.l+m.R+j) (((m.mach.F (inF x) s).2 j:Nat):Int)) ⟨by omega,by rw[List.length_set,List.length_set]; exact k1,fun k hk=>?_⟩ (by simp only; omega) ?_
          · rw[Eh (by rw[List.length_set]; omega)];split
            · rename_i h; subst h; rw[g5 j hjR]
            · rw[Eh (by omega)];split
              · rename_i h; subst h; rw[g4 j hjR]
              · exact k2 k (by omega)
          · refine Ent.of [] ?_ ?_ rfl rfl;(repeat' first|exact True.intro|refine⟨⟨AA _,rfl⟩,?_⟩|refine⟨⟨⟨_,rfl,BLe.cells (AB _)⟩,rfl⟩,?_⟩|refine⟨⟨⟨_,rfl,BLe.row rfl⟩,rfl⟩,?_⟩|fail)
        · rename_i hj
          have hj:j=m.R:=by omega
          subst hj;have hxH:xs=H:=ext_getD (by omega) fun k hk=>k2 k (by omega);rw[hxH];refine⟨?_⟩;refine AY (Ent.freeze 801 rfl) ?_;(repeat' first|refine qv ?_|apply qs|apply qr);refine qc (hv) ?_;(repeat' first|refine qv ?_|refine Fl.nil (fun _=>by kernel_rfl) ?_|apply qt);exact RetOk.of rfl (AA _)
end Go.Proofs.YtmmfloplhopioaaGreat
/- mask: the links' meaning; what they need to be evaluated. -/
namespace Go.AL
end Go.AL
namespace Go.Proofs.YtmmfloplhopioaaGreat
open Go.AL
theorem holdsR_all {f g:LZ→Bool}:∀ {ls:List LZ},(∀l∈ls,f l=true∧g l=true)→D6 f g ls=(true,0)
 | [],_=>rfl
 | l::ls,h=>by
  obtain⟨h1,h2⟩:=h l (by simp);rw[D6,if_pos h1,if_pos h2];exact holdsR_all fun x hx=>h x (by simp[hx])
theorem Holds_yes (s:SZ) (X:List Int) (hw:WS s) (hs:OkS s) (hX:∀x∈X,Fit x) (hlen:(X.length:Int)=s.vars) (hnat:∀x∈X,0≤x) (he:∀l∈s.links,EvL X l) (hh:∀l∈s.links,HoL X l):PureFn Tryz.prog 30 [aS s,.sl 2 eX X] (.tup [aB true,aN 0]):=by
 obtain⟨f,hf⟩:=boolOf (EvL X);obtain⟨g,hg⟩:=boolOf (HoL X);have:=Holds_ok s X hw hs hX hlen hnat f g hf hg;rw[holdsR_all fun l hl=>⟨(hf l).2 (he l hl),(hg l).2 (hh l hl)⟩]at this;exact this
end Go.Proofs.YtmmfloplhopioaaGreat
/- history.Encode, Decode. -/
namespace Go.AL
structure RunTo (m:MZ) (x:List Int) (n k:Nat):Prop where
  le:k≤n
  go:∀t,t<k→¬m.mach.Over (m.mach.F (inF x) t)
  stop:k=n∨m.mach.Over (m.mach.F (inF x) k)
end Go.AL
namespace Go.Proofs.YtmmfloplhopioaaGreat
open Go.AL
abbrev nilV:AV := .v (.slice none 0 0)
theorem hEncode_ev (m:MZ) (hm:OkMZ m) (x:List Int) (hx:OkIn m x) (n k:Nat) (hn:n≤1000000) (hk:RunTo m x n k) (ho:m.mach.op (m.mach.F (inF x) k).1=3) (hE:PureFn Tryz.prog 46 [aSz m x,aN k] (.tup [.sl 2 eX (hL m x k),aB true])) (b:Bool) (e:Int) (hH:PureFn Tryz.prog 30 [aS (hsS m x),.sl 2 eX (hL m x k)] (.tup [aB b,aN e])):PureFn Tryz.prog 13 [aMz m,aI x,aN n] (if e=0 then .tup [.sl 2 eX (hL m x k),aN 0]else .tup [nilV,aN 4]):=by
 refine AC Tryz.func13 rfl Tryz.ntmps13 rfl rfl ?_;have h1:=C8 m x hm hx;have h2:=rgHalts_ok m hm x hx n k hn hk.le hk.go hk.stop;rw[if_pos ho]at h2;have h3:=EL m x hm hx
 generalize hL m x k=H at *
 (repeat' first|refine qv ?_|apply qn|apply qs|apply qr|refine qe ?_|fail);refine qc (h1) ?_;(repeat' first|refine qv ?_|apply qn|apply qs|apply qr|refine qe ?_|refine AF rfl ?_|apply qk);refine qc (h2) ?_;(repeat' first|refine qv ?_|apply qn|apply qs|apply qr|refine AF rfl ?_|apply qk);refine qc (hE) ?_;(repeat' first|refine qv ?_|apply qn|apply qs|apply qr|refine AF rfl ?_|apply qk);refine qc (h3) ?_;(repeat' first|refine qv ?_|fail);refine qc (hH) ?_;(repeat' first|refine qv ?_|apply qn|apply qs|apply qr|(refine AQ rfl ?_ ?_<;>intro _<;>try(exfalso; omega))|apply qk|apply qt)
 ·rename_i h;rw[if_neg h];exact RetOk.of rfl (AA _)
 ·rename_i h;rw[if_pos h];exact RetOk.of rfl (AA _)
theorem hDecode_m (m:MZ) (x:List Int) (zs:List Z) (hl:m.code.length≤100000) (h:¬OkMZ m):PureFn Tryz.prog 16 [aMz m,aI x,.sl 2 eZ zs] (.tup [nilV,aN 1]):=by
 refine AC Tryz.func16 rfl Tryz.ntmps16 rfl rfl ?_;have h1:=sizesOf_form m x hl h;have h2:=Br m hl false (Iff.intro (fun k=>by cases k) fun k=>absurd k h);(repeat' first|refine qv ?_|apply qn|apply qs|apply qr|refine qe ?_|fail);refine qc (h1) ?_;(repeat' first|refine qv ?_|apply qn|apply qs|apply qr|refine qe ?_|apply qb);refine qc (h2) ?_;(repeat' first|refine qv ?_|apply qn|apply qs|apply qr|refine Fl.skip rfl rfl ?_|refine AJ rfl ?_|apply qt);exact RetOk.of rfl (AA _)
theorem hDecode_z (m:MZ) (hm:OkMZ m) (x:List Int) (hxl:x.length≤100000) (zs:List Z) (hz:∀z∈zs,WOk z.w) (hzl:zs.length≤1000000000) (h:¬∀z∈zs,OkZ z):PureFn Tryz.prog 16 [aMz m,aI x,.sl 2 eZ zs] (.tup [nilV,aN 1]):=by
 refine AC Tryz.func16 rfl Tryz.ntmps16 rfl rfl ?_;have h15:m.code.length≤15:=hm.l15;have h2:=Br m (by omega) true ⟨fun _=>hm,fun _=>rfl⟩;have h3:=chValid_ok zs hz hzl;rw[decide_eq_false h]at h3;by_cases hx:OkIn m x
 ·have h1:=C8 m x hm hx;(repeat' first|refine qv ?_|apply qn|apply qs|apply qr|refine qe ?_|fail);refine qc (h1) ?_;(repeat' first|refine qv ?_|apply qn|apply qs|apply qr|refine qe ?_|apply qb);refine qc (h2) ?_;(repeat' first|refine qv ?_|fail);refine qc (h3) ?_;(repeat' first|refine qv ?_|apply qn|apply qs|apply qr|refine AJ rfl ?_|apply qt);exact RetOk.of rfl (AA _)
 ·have h1:=sizesOf_arg m x hxl hm hx;(repeat' first|refine qv ?_|apply qn|apply qs|apply qr|refine qe ?_|fail);refine qc (h1) ?_;(repeat' first|refine qv ?_|apply qn|apply qs|apply qr|refine qe ?_|apply qb);refine qc (h2) ?_;(repeat' first|refine qv ?_|fail);refine qc (h3) ?_;(repeat' first|refine qv ?_|apply qn|apply qs|apply qr|refine AJ rfl ?_|apply qt);exact RetOk.of rfl (AA _)
theorem hDecode_arg (m:MZ) (hm:OkMZ m) (x:List Int) (hxl:x.length≤100000) (X:List Int) (hX:∀y∈X,Fit y) (hzl:X.length≤1000000000) (h:¬(OkIn m x∧X.length=m.V∧∀y∈X,0≤y)):PureFn Tryz.prog 16 [aMz m,aI x,.sl 2 eX X] (.tup [nilV,aN 2]):=by
 refine AC Tryz.func16 rfl Tryz.ntmps16 rfl rfl ?_;have h15:m.code.length≤15:=hm.l15;have h2:=Br m (by omega) true ⟨fun _=>hm,fun _=>rfl⟩;have h3:=Cr X hX hzl;have h4:=Dl X hzl;by_cases hx:OkIn m x
 ·have h1:=C8 m x hm hx;by_cases hV:X.length=m.V
  ·have hn:¬∀y∈X,0≤y:=fun k=>h ⟨hx,hV,k⟩;rw[decide_eq_false hn]at h4;(repeat' first|refine qv ?_|apply qn|apply qs|apply qr|refine qe ?_|fail);refine qc (h1) ?_;(repeat' first|refine qv ?_|apply qn|apply qs|apply qr|refine qe ?_|apply qb);refine qc (h2) ?_;(repeat' first|refine qv ?_|fail);refine qc (h3) ?_;(repeat' first|refine qv ?_|apply qn|apply qs|apply qr|refine AF rfl ?_|(refine Ap rfl rfl ?_ ?_<;>intro _<;>try(exfalso; omega)));refine qc (h4) ?_;(repeat' first|refine qv ?_|apply qn|apply qs|apply qr|refine AJ rfl ?_|apply qt);exact RetOk.of rfl (AA _)
  ·(repeat' first|refine qv ?_|apply qn|apply qs|apply qr|refine qe ?_|fail);refine qc (h1) ?_;(repeat' first|refine qv ?_|apply qn|apply qs|apply qr|refine qe ?_|apply qb);refine qc (h2) ?_;(repeat' first|refine qv ?_|fail);refine qc (h3) ?_;(repeat' first|refine qv ?_|apply qn|apply qs|apply qr|refine Fl.skip rfl rfl ?_|refine AJ rfl ?_|refine AF rfl ?_|apply qt|(refine Ap rfl rfl ?_ ?_<;>intro _<;>try(exfalso; omega)));exact RetOk.of rfl (AA _)
 ·have h1:=sizesOf_arg m x hxl hm hx;(repeat' first|refine qv ?_|apply qn|apply qs|apply qr|refine qe ?_|fail);refine qc (h1) ?_;(repeat' first|refine qv ?_|apply qn|apply qs|apply qr|refine qe ?_|apply qb);refine qc (h2) ?_;(repeat' first|refine qv ?_|fail);refine qc (h3) ?_;(repeat' first|refine qv ?_|apply qn|apply qs|apply qr|refine Fl.skip rfl rfl ?_|refine AJ rfl ?_|refine AF rfl ?_|apply qt);exact RetOk.of rfl (AA _)
theorem hDecode_none (m:MZ) (hm:OkMZ m) (x:List Int) (hx:OkIn m x) (X:List Int) (hX:∀y∈X,Fit y) (hV:X.length=m.V) (h0:∀y∈X,0≤y) (b:Bool) (e:Int) (hH:PureFn Tryz.prog 30 [aS (hsS m x),.sl 2 eX X] (.tup [aB b,aN e])) (hb:¬(b=true∧e=0)):PureFn Tryz.prog 16 [aMz m,aI x,.sl 2 eX X] (.tup [nilV,aN 6]):=by
 refine AC Tryz.func16 rfl Tryz.ntmps16 rfl rfl ?_;have h15:m.code.length≤15:=hm.l15;have hV32:=hm.V32;have h2:=Br m (by omega) true ⟨fun _=>hm,fun _=>rfl⟩;have h3:=Cr X hX (by omega);have h4:=Dl X (by omega);rw[decide_eq_true h0]at h4;have h1:=C8 m x hm hx;have h5:=EL m x hm hx;(repeat' first|refine qv ?_|apply qn|apply qs|apply qr|refine qe ?_|fail);refine qc (h1) ?_;(repeat' first|refine qv ?_|apply qn|apply qs|apply qr|refine qe ?_|apply qb);refine qc (h2) ?_;(repeat' first|refine qv ?_|fail);refine qc (h3) ?_;(repeat' first|refine qv ?_|apply qn|apply qs|apply qr|refine AF rfl ?_|(refine Ap rfl rfl ?_ ?_<;>intro _<;>try(exfalso; omega)));refine qc (h4) ?_;(repeat' first|refine qv ?_|apply qn|apply qs|apply qr|refine AF rfl ?_|apply qk);refine qc (h5) ?_;(repeat' first|refine qv ?_|fail);refine qc (hH) ?_;(repeat' first|refine qv ?_|apply qn|apply qs|apply qr|refine Fl.skip rfl rfl ?_|refine AJ rfl ?_|(refine AQ rfl ?_ ?_<;>intro _<;>try(exfalso; omega))|apply qk|apply qt|(refine En rfl rfl ?_ ?_<;>(fail_if_success (intro hb_; exact absurd hb_ (by decide)))<;>intro _)|fail)
 ·exact RetOk.of rfl (AA _)
 ·exact RetOk.of rfl (AA _)
 ·rename_i hb1 he;exact absurd (And.intro (by cases b with|true=>rfl|false=>cases hb1) he) hb
theorem hDecode_ok (m:MZ) (hm:OkMZ m) (x:List Int) (hx:OkIn m x) (X:List Int) (hX:∀y∈X,Fit y) (hV:X.length=m.V) (h0:∀y∈X,0≤y) (hH:PureFn Tryz.prog 30 [aS (hsS m x),.sl 2 eX X] (.tup [aB true,aN 0])) (s:Nat) (hs:s≤1000000) (hs0:X[(0:Int).toNat]? = some (s:Int)) (h1:∀t,t<s→¬m.mach.Over (m.mach.F (inF x) t)):PureFn Tryz.prog 16 [aMz m,aI x,.sl 2 eX X] (.tup [.sl 2 eSt (stL m x (s+1)),aN 0]):=by
 refine AC Tryz.func16 rfl Tryz.ntmps16 rfl rfl ?_;have h15:m.code.length≤15:=hm.l15;have hV32:=hm.V32;have hV6:=hm.V6;have h2:=Br m (by omega) true ⟨fun _=>hm,fun _=>rfl⟩;have h3:=Cr X hX (by omega);have h4:=Dl X (by omega);rw[decide_eq_true h0]at h4;have h6:=C8 m x hm hx;have h5:=EL m x hm hx;have h7:=Small_ok (s:Int) (hX _ (List.mem_of_getElem? hs0));rw[if_pos (show I64 (s:Int) from⟨by omega,by omega⟩),decide_eq_true (show I64 (s:Int) from⟨by omega,by omega⟩)]at h7;have h8:=hStates_ok m hm x hx s hs h1;(repeat' first|refine qv ?_|apply qn|apply qs|apply qr|refine qe ?_|fail);refine qc (h6) ?_;(repeat' first|refine qv ?_|apply qn|apply qs|apply qr|refine qe ?_|apply qb);refine qc (h2) ?_;(repeat' first|refine qv ?_|fail);refine qc (h3) ?_;(repeat' first|refine qv ?_|apply qn|apply qs|apply qr|refine AF rfl ?_|(refine Ap rfl rfl ?_ ?_<;>intro _<;>try(exfalso; omega)));refine qc (h4) ?_;(repeat' first|refine qv ?_|apply qn|apply qs|apply qr|refine AF rfl ?_|apply qk);refine qc (h5) ?_;(repeat' first|refine qv ?_|fail);refine qc (hH) ?_;(repeat' first|refine qv ?_|apply qn|apply qs|apply qr|refine AF rfl ?_|apply qk|refine qK ?_|fail);refine qc (h7) ?_;(repeat' first|refine qv ?_|apply qn|apply qs|apply qr);refine qc (h8) ?_;(repeat' first|refine qv ?_|apply qn|apply qt);exact RetOk.of rfl (AA _)
end Go.Proofs.YtmmfloplhopioaaGreat
/- Strings: length, a byte, a part, the sum, equality. -/
namespace Go.AL
abbrev sV (l:List UInt8):AV := .v (.string (ByteArray.mk l.toArray))
theorem sV_size (l:List UInt8):(ByteArray.mk l.toArray).size=l.length:=by simp[ByteArray.size]
section
variable {P:Program} {tab:Tab} {n:Nat} {s:St}
variable {ops:Array Oper} {draw:Dr} {o:Oper} {l:List Oper} {acc:List Eff} {K:Exit→St→Prop}
theorem OpJ.sLen (ht:BG P tab) (hd:∀d,o.dst=some d→d<n) {x:Operand} {t:TypeId} (hop:o.op = .call { callee := .builtin .len,args:=⟨[x]⟩,argTypes:=⟨[t]⟩ }) {sz by':Nat} {z:List Value} (hts:tab t=some ⟨.string,sz,by', z⟩) {bs:List UInt8} (hx:opd s x=sV bs):OpJ P n o s ⟨.v (.int .i64 bs.length),[],[],[],[]⟩:=by
 refine AR hd fun C s' a w h β ho _ b=>?_;have hxr:=AK b x;rw[ho x (by simp[hop,Op.operands,Call.operands]),hx]at hxr;simp only[Rep]at hxr;have hu:=(ht _ _ hts).und;simp only at hu;refine⟨.int .i64 (ByteArray.mk bs.toArray).size,?_,by simp only[Rep]; rw[sV_size]⟩;simp[execOp,hop,resolve,invoke,builtin,Builtin.len_,hxr,run_underlying hu,goInt]
theorem Bv [f:Facts P tab] {x:Operand} {t:TypeId} (hop:o.op = .call { callee := .builtin .len,args:=⟨[x]⟩,argTypes:=⟨[t]⟩ }) {sz by':Nat} {z:List Value} (hts:tab t=some ⟨.string,sz,by', z⟩) {bs:List UInt8} (hx:opd s x=sV bs) (hg:gOk ops s o=true) (hd:dOk n o.dst=true)
  (r:Fl P n ops draw l ((Eff.mk (.v (.int .i64 bs.length)) [] [] [] []).app o.dst s) (Eff.mk (.v (.int .i64 bs.length)) [] [] [] []::acc) K):Fl P n ops draw (o::l) s acc K:=
 Af hg (OpJ.sLen f.tabOk (Aa hd) hop hts hx) r
theorem OpJ.sIdx (ht:BG P tab) (hd:∀d,o.dst=some d→d<n) {t:TypeId} {x y:Operand} (hop:o.op = .index t x y) {sz by':Nat} {z:List Value} (hts:tab t=some ⟨.string,sz,by', z⟩) {bs:List UInt8} (hx:opd s x=sV bs) {k:IntKind} {m:Int} (hy:opd s y = .v (.int k m)) (h0:0≤m) {c:UInt8} (hc:bs[m.toNat]? = some c):OpJ P n o s ⟨.v (.int .u8 c.toNat),[],[],[],[]⟩:=by
 refine AR hd fun C s' a w h β ho _ b=>?_;have hxr:=AK b x;have hyr:=AK b y;rw[ho x (by simp[hop,Op.operands]),hx]at hxr;rw[ho y (by simp[hop,Op.operands]),hy]at hyr;simp only[Rep]at hxr hyr;have hu:=(ht _ _ hts).und;simp only at hu;obtain⟨h1,h2⟩:=List.getElem?_eq_some_iff.1 hc
 have hget:(ByteArray.mk bs.toArray)[m.toNat]? = some c:=by
  rw[ByteArray.getElem?_lt' _ _ (by rw[sV_size]; exact h1)];exact congrArg some h2
 refine⟨.int .u8 c.toNat,?_,by simp only[Rep]⟩;simp only[execOp,hop,hxr,hyr,Instr.index,asIntOf,Sem.run_bind,Sem.run_pure,Result.andThen,run_underlying hu];rw[if_pos h0,hget];simp only[Sem.run_pure]
theorem Cn [f:Facts P tab] {t:TypeId} {x y:Operand} (hop:o.op = .index t x y) {sz by':Nat} {z:List Value} (hts:tab t=some ⟨.string,sz,by', z⟩) {bs:List UInt8} (hx:opd s x=sV bs) {k:IntKind} {m:Int} (hy:opd s y = .v (.int k m)) (hg:gOk ops s o=true) (hd:dOk n o.dst=true) {c:UInt8} (hc:bs[m.toNat]? = some c) (h0:0≤m)
  (r:Fl P n ops draw l ((Eff.mk (.v (.int .u8 c.toNat)) [] [] [] []).app o.dst s) (Eff.mk (.v (.int .u8 c.toNat)) [] [] [] []::acc) K):Fl P n ops draw (o::l) s acc K:=
 Af hg (OpJ.sIdx f.tabOk (Aa hd) hop hts hx hy h0 hc) r
theorem OpJ.sSub (ht:BG P tab) (hd:∀d,o.dst=some d→d<n) {t:TypeId} {x y z:Operand} (hop:o.op = .slice t x (some y) (some z) none) {sz by':Nat} {zs:List Value} (hts:tab t=some ⟨.string,sz,by', zs⟩) {bs:List UInt8} (hx:opd s x=sV bs) {k k':IntKind} {m m':Int} (hy:opd s y = .v (.int k m)) (hz:opd s z = .v (.int k' m')) (h0:0≤m) (h1:m≤m') (h2:m'≤bs.length):OpJ P n o s ⟨sV ((bs.drop m.toNat).take (m'.toNat-m.toNat)),[],[],[],[]⟩:=by
 refine AR hd fun C s' a w h β ho _ b=>?_;have hxr:=AK b x;have hyr:=AK b y;have hzr:=AK b z;rw[ho x (by simp[hop,Op.operands]),hx]at hxr;rw[ho y (by simp[hop,Op.operands]),hy]at hyr;rw[ho z (by simp[hop,Op.operands]),hz]at hzr;simp only[Rep]at hxr hyr hzr;have hu:=(ht _ _ hts).und;simp only at hu;have b1:=run_sliceBound (P:=P) w k' m' (ByteArray.mk bs.toArray).size .sliceAlen (by omega) (by rw[sV_size]; omega);have b2:=run_sliceBound (P:=P) w k m m'.toNat .sliceB h0 (by omega);refine⟨.string ((ByteArray.mk bs.toArray).extract m.toNat m'.toNat),?_,by simp only[Rep]; rw[ByteArray.extract_mk]⟩;simp only[execOp,hop,hxr,hyr,hzr,Option.map_some,Option.map_none,Instr.sliceAt,Sem.run_bind,run_underlying hu,Result.andThen,Instr.slice,Instr.sliceBounds,Sem.run_pure,b1,b2,Option.isSome_none,Bool.false_eq_true,if_false]
theorem Fl.sSub [f:Facts P tab] {t:TypeId} {x y z:Operand} (hop:o.op = .slice t x (some y) (some z) none) {sz by':Nat} {zs:List Value} (hts:tab t=some ⟨.string,sz,by', zs⟩) {bs:List UInt8} (hx:opd s x=sV bs) {k k':IntKind} {m m':Int} (hy:opd s y = .v (.int k m)) (hz:opd s z = .v (.int k' m')) (hg:gOk ops s o=true) (hd:dOk n o.dst=true) {cs:List UInt8} (hcs:(bs.drop m.toNat).take (m'.toNat-m.toNat)=cs) (h0:0≤m) (h1:m≤m') (h2:m'≤bs.length)
  (r:Fl P n ops draw l ((Eff.mk (sV cs) [] [] [] []).app o.dst s) (Eff.mk (sV cs) [] [] [] []::acc) K):Fl P n ops draw (o::l) s acc K:=by
 subst hcs;exact Af hg (OpJ.sSub f.tabOk (Aa hd) hop hts hx hy hz h0 h1 h2) r
theorem OpJ.sCat (hd:∀d,o.dst=some d→d<n) {t t':TypeId} {x y:Operand} (hop:o.op = .binOp .add t x y t') {us bs:List UInt8} (hx:opd s x=sV us) (hy:opd s y=sV bs) (h:us.length+bs.length≤9223372036854775807):OpJ P n o s ⟨sV (us++bs),[],[],[],[]⟩:=by
 refine AR hd fun C s' a w h' β ho _ b=>?_;have hxr:=AK b x;have hyr:=AK b y;rw[ho x (by simp[hop,Op.operands]),hx]at hxr;rw[ho y (by simp[hop,Op.operands]),hy]at hyr;simp only[Rep]at hxr hyr;refine⟨.string (ByteArray.mk us.toArray++ByteArray.mk bs.toArray),?_,by simp only[Rep]; rw[ByteArray.mk_append_mk]⟩;have:=run_string_add_sum (P:=P) (w:=w) (ByteArray.mk us.toArray) (ByteArray.mk bs.toArray) (by rw[sV_size,sV_size]; exact h);simp[execOp,hop,hxr,hyr,eqGuard,binOp,this]
theorem Fl.sCat [Facts P tab] {t t':TypeId} {x y:Operand} (hop:o.op = .binOp .add t x y t') {us bs:List UInt8} (hx:opd s x=sV us) (hy:opd s y=sV bs) (hg:gOk ops s o=true) (hd:dOk n o.dst=true) {cs:List UInt8} (hcs:us++bs=cs) (h:cs.length≤9223372036854775807)
  (r:Fl P n ops draw l ((Eff.mk (sV cs) [] [] [] []).app o.dst s) (Eff.mk (sV cs) [] [] [] []::acc) K):Fl P n ops draw (o::l) s acc K:=by
 subst hcs;exact Af hg (OpJ.sCat (Aa hd) hop hx hy (by rw[List.length_append]at h; exact h)) r
end
end Go.AL
/- The reference's Valid, Input; the law's wide, code. -/
namespace Go.AL
section
variable {P:Program} {tab:Tab} {n:Nat} {s:St}
variable {ops:Array Oper} {draw:Dr} {o:Oper} {l:List Oper} {acc:List Eff} {K:Exit→St→Prop}
theorem Fl.neV [f:Facts P tab] {t t':TypeId} {x y:Operand} (hop:o.op = .binOp .neq t x y t') {cs ds:List AV} (hx:opd s x = .agg cs) (hy:opd s y = .agg ds) {us vs:List Value} (h1:litL cs=some us) (h2:litL ds=some vs) (r0:Bool) (hg:gOk ops s o=true) (hd:dOk n o.dst=true)
  (hgd:∀w:World,(eqGuard .neq t x y (.agg us.toArray) (.agg vs.toArray)).run P w = .ok () w) (hrun:∀w:World,(binOp .neq t (.agg us.toArray) (.agg vs.toArray)).run P w = .ok (.bool r0) w)
  (r:Fl P n ops draw l ((Eff.mk (.v (.bool r0)) [] [] [] []).app o.dst s) (Eff.mk (.v (.bool r0)) [] [] [] []::acc) K):Fl P n ops draw (o::l) s acc K:=by
 refine Af hg (AR (tb:=[]) (Aa hd) fun C s' a w h β ho _ k=>?_) r;have hxr:=AK k x;have hyr:=AK k y;rw[ho x (by rw[hop]; simp[Op.operands]),hx]at hxr;rw[ho y (by rw[hop]; simp[Op.operands]),hy]at hyr;simp only[Rep]at hxr hyr;obtain⟨us', e1,hr1⟩:=hxr;obtain⟨vs', e2,hr2⟩:=hyr
 have e3:us'=us.toArray:=by rw[←litL_rep h1 hr1]
 have e4:vs'=vs.toArray:=by rw[←litL_rep h2 hr2]
 refine⟨.bool r0,?_,by simp only[Rep]⟩;simp only[execOp,hop,e1,e2,e3,e4,Sem.run_bind,hgd w,Result.andThen,hrun w,Sem.run_pure]
end
end Go.AL
namespace Go.Proofs.YtmmfloplhopioaaGreat
open Go.AL
set_option maxHeartbeats 4000000 in
theorem EG (m:MZ) (hl:m.code.length≤100000) (b:Bool) (hb:b=true↔OkMZ m):PureFn Tryz.prog 56 [aMz m] (aB b):=by
  refine AC Tryz.func56 rfl Tryz.ntmps56 rfl rfl ?_
  have hfalse:¬OkMZ m→false=b:=fun h=>by cases b with|false=>rfl|true=>exact absurd (hb.1 rfl) h
  refine AE ?_;(repeat' first|refine qv ?_|apply qn|apply qr|refine qe ?_|fail);refine⟨AE ?_⟩;(repeat' first|refine qv ?_|apply qn|apply qs|apply qr|refine Fl.skip rfl rfl ?_|refine AJ rfl ?_|(refine AD rfl ?_ ?_<;>intro _<;>try(exfalso; omega))|apply qk|apply qt|(refine AG rfl rfl ?_ ?_<;>intro _<;>try(exfalso; omega)))
  any_goals exact RetOk.of rfl (AV.Le.bool (hfalse fun k=>by
    have k1:=k.r1;have k2:=k.r4;have k3:1≤m.code.length:=k.l1;have k4:m.code.length≤15:=k.l15
    omega))
  refine⟨AE ?_⟩;(repeat' first|refine qv ?_|apply qn|apply qs|apply qr|apply qb);refine AWP.loop (G:=Nat) (fun i=>i≤m.code.length∧∀j,j<i→okIns m j (m.at j)) (fun i=>AO [] [(1,.ptr 1 0),(3,aN i)] [(1,.cells (eMz m) 24)]) (fun i=>m.code.length-i) 0 ⟨by omega,fun j hj=>by omega⟩ ?_ ?_
  · refine Ent.of [] ?_ ?_ rfl rfl;(repeat' first|exact True.intro|refine⟨⟨AA _,rfl⟩,?_⟩|refine⟨⟨⟨_,rfl,BLe.cells (AB _)⟩,rfl⟩,?_⟩|fail)
  · intro i ⟨k0,k1⟩;refine AE ?_;(repeat' first|refine qv ?_|apply qn|apply qs|apply qr|(refine AD rfl ?_ ?_<;>intro _<;>try(exfalso; omega))|apply qk|apply qx);rotate_left
    · rename_i hi;refine⟨?_⟩;(repeat' first|refine qv ?_|apply qn|apply qs|apply qr|apply qt);refine RetOk.of rfl (AV.Le.bool ?_);exact(hb.2 ⟨by omega,by omega,by show 1≤m.code.length; omega,by show m.code.length≤15; omega,fun j hj=>k1 j (by have:j<m.code.length:=hj; omega)⟩).symm
    · rename_i hi;obtain⟨x,hx⟩:∃x,m.code[i]? = some x:=⟨_,List.getElem?_eq_getElem (by omega)⟩;have hat:=MZ.at_get hx
      have hx':m.code[Int.toNat (i:Int)]? = some x:=by rw[Int.toNat_natCast]; exact hx
      have hno:¬okIns m i x→false=b:=fun h=>hfalse fun k=>h (hat▸k.ins i (by show i<m.code.length; omega))
      have hyes:okIns m i x→∀j,j<i+1→okIns m j (m.at j):=fun h j hj=>by
        rcases(show j<i∨j=i by omega)with h'|h'
        · exact k1 j h'
        · rw[h', hat]; exact h
      rw[okIns_iff]at hno hyes;refine⟨AWP.seq (AWP.block (AE ?_))⟩;(repeat' first|refine qv ?_|apply qn|apply qr|refine qe ?_|refine qK ?_|fail);refine⟨?_⟩;(repeat' first|refine qv ?_|apply qn|apply qs|apply qr|refine qw ?_|refine qe ?_|refine Fl.skip rfl rfl ?_|refine AJ rfl ?_|(refine AD rfl ?_ ?_<;>intro _<;>try(exfalso; omega))|(refine AQ rfl ?_ ?_<;>intro _<;>try(exfalso; omega))|apply qb|apply qk|apply qt|(refine AG rfl rfl ?_ ?_<;>intro _<;>try(exfalso; omega)))
      · refine Fl.neV rfl rfl rfl rfl rfl _ rfl rfl (fun w=>by kernel_rfl) (fun w=>insNe_run w _ _ _ _ _ _ _ _) ?_;(repeat' first|refine qv ?_|apply qn|apply qs|apply qr|refine qw ?_|(refine AQ rfl ?_ ?_<;>intro _<;>try(exfalso; omega))|apply qk|apply qx|apply qt)
        · refine RetOk.of rfl (AV.Le.bool (hno ?_));omega
        · refine LoopEnd.of (i+1) ⟨by omega,hyes (by omega)⟩ (by omega) ?_;refine Ent.of [] ?_ ?_ rfl rfl;(repeat' first|exact True.intro|refine⟨⟨AA _,rfl⟩,?_⟩|refine⟨⟨⟨_,rfl,BLe.cells (AB _)⟩,rfl⟩,?_⟩|fail)
      all_goals first
        | (refine RetOk.of rfl (AV.Le.bool (hno ?_)); omega)
        | (refine LoopEnd.of (i+1) ⟨by omega,hyes (by omega)⟩ (by omega) ?_
           refine Ent.of [] ?_ ?_ rfl rfl
           repeat'(first|exact True.intro|refine⟨⟨AA _,rfl⟩,?_⟩|refine⟨⟨⟨_,rfl,BLe.cells (AB _)⟩,rfl⟩,?_⟩|fail))
theorem r13Input_ok (m:MZ) (x:List Int) (hl:x.length≤100000) (b:Bool) (hb:b=true↔(x.length:Int)=m.regs∧∀n∈x,0≤n∧n≤1000):PureFn Tryz.prog 57 [aMz m,aI x] (aB b):=by
  refine AC Tryz.func57 rfl Tryz.ntmps57 rfl rfl ?_
  have hfalse:(¬∀n∈x,0≤n∧n≤1000)→false=b:=fun h=>by cases b with|false=>rfl|true=>exact absurd (hb.1 rfl).2 h
  (repeat' first|refine qv ?_|apply qn|apply qs|apply qr|refine qe ?_|apply qb);refine AWP.loop (G:=Nat) (fun i=>i≤x.length∧∀n∈x.take i,0≤n∧n≤1000) (fun i=>AO [] [(1,aI x),(2,.ptr 2 0),(5,aN i)] [(2,.cells (eMz m) 24)]) (fun i=>x.length-i) 0 ⟨by omega,fun n hn=>by simp at hn⟩ ?_ ?_
  · refine Ent.of [] ?_ ?_ rfl rfl;(repeat' first|exact True.intro|refine⟨⟨AA _,rfl⟩,?_⟩|refine⟨⟨⟨_,rfl,BLe.cells (AB _)⟩,rfl⟩,?_⟩|fail)
  · intro i ⟨k0,k1⟩;refine AE ?_;(repeat' first|refine qv ?_|apply qn|apply qs|apply qr|(refine AD rfl ?_ ?_<;>intro _<;>try(exfalso; omega))|apply qk|apply qx|apply qt)
    · rename_i hi;obtain⟨y,hy⟩:∃y,x[i]? = some y:=⟨_,List.getElem?_eq_getElem (by omega)⟩
      have hy':x[Int.toNat (i:Int)]? = some y:=by rw[Int.toNat_natCast]; exact hy
      refine⟨?_⟩;(repeat' first|refine qv ?_|apply qn|apply qs|apply qr|refine qw ?_|refine Fl.skip rfl rfl ?_|refine AJ rfl ?_|(refine AD rfl ?_ ?_<;>intro _<;>try(exfalso; omega))|apply qb|apply qk|apply qt|refine qK ?_|(refine AG rfl rfl ?_ ?_<;>intro _<;>try(exfalso; omega)))
      all_goals first
        | exact RetOk.of rfl (AV.Le.bool (hfalse fun k=>by have:=k y (List.mem_of_getElem? hy); omega))
        | (refine LoopEnd.of (i+1) ⟨by omega,fun n hn=>?_⟩ (by omega) ?_
           · rw[Ab hy,List.mem_append,List.mem_singleton]at hn;rcases hn with hn|rfl
             · exact k1 n hn
             · omega
           · refine Ent.of [] ?_ ?_ rfl rfl
             repeat'(first|exact True.intro|refine⟨⟨AA _,rfl⟩,?_⟩|refine⟨⟨⟨_,rfl,BLe.cells (AB _)⟩,rfl⟩,?_⟩|fail))
    · rename_i hi;rw[List.take_of_length_le (by omega)]at k1;refine RetOk.of rfl (AV.Le.bool ?_);exact dec_of hb ⟨fun h=>⟨h,k1⟩,fun h=>h.1⟩
theorem law14Wide_ok (m:MZ) (x:List Int) (b:Bool) (hb:b=true↔100<m.code.length∨100<x.length) (hl:m.code.length≤9223372036854775807) (hx:x.length≤9223372036854775807):PureFn Tryz.prog 21 [aMz m,aI x] (aB b):=by
 refine AC Tryz.func21 rfl Tryz.ntmps21 rfl rfl ?_;(repeat' first|refine qv ?_|apply qn|apply qs|apply qr|refine qe ?_|refine Fl.skip rfl rfl ?_|apply qt|(refine AG rfl rfl ?_ ?_<;>intro _<;>try(exfalso; omega)))
 all_goals refine RetOk.of rfl (AV.Le.bool ?_)
 all_goals first
  | exact(hb.2 (by omega)).symm
  | exact dec_of hb (by omega)
theorem FD (m:MZ) (x:List Int) (hl:m.code.length≤100) (hx:x.length≤100) (e:Int) (h1:¬OkMZ m→e=1) (h2:OkMZ m→¬OkIn m x→e=2) (h3:OkMZ m→OkIn m x→e=0):PureFn Tryz.prog 23 [aMz m,aI x] (aN e):=by
 refine AC Tryz.func23 rfl Tryz.ntmps23 rfl rfl ?_;by_cases k1:OkMZ m
 ·have hR:=k1.r1
  have hI:∀b:Bool,(b=true↔OkIn m x)→(b=true↔(x.length:Int)=m.regs∧∀n∈x,0≤n∧n≤1000):=fun b hb=>by
   rw[hb];unfold OkIn
   have:x.length=m.R↔(x.length:Int)=m.regs:=by show x.length=m.regs.toNat↔_; omega
   rw[this]
  by_cases k2:OkIn m x
  ·(repeat' first|refine qv ?_|apply qn|apply qs|apply qr|refine qe ?_|apply qb);refine Fl.call rfl (EG m (by omega) true ⟨fun _=>k1,fun _=>rfl⟩) rfl rfl rfl (AB _) ?_;(repeat' first|refine qv ?_|apply qn|apply qs|apply qr|refine AF rfl ?_);refine Fl.call rfl (r13Input_ok m x (by omega) true (hI true (Iff.intro (fun _=>k2) fun _=>rfl))) rfl rfl rfl (AB _) ?_;(repeat' first|refine qv ?_|apply qn|apply qs|apply qr|refine AF rfl ?_|apply qk|apply qt);exact RetOk.of rfl (AV.Le.int (h3 k1 k2).symm)
  ·(repeat' first|refine qv ?_|apply qn|apply qs|apply qr|refine qe ?_|apply qb);refine Fl.call rfl (EG m (by omega) true ⟨fun _=>k1,fun _=>rfl⟩) rfl rfl rfl (AB _) ?_;(repeat' first|refine qv ?_|apply qn|apply qs|apply qr|refine AF rfl ?_);refine qc (r13Input_ok m x (by omega) false (hI false (Iff.intro (fun h=>by cases h) fun h=>absurd h k2))) ?_;(repeat' first|refine qv ?_|apply qn|apply qs|apply qr|refine AJ rfl ?_|apply qt);exact RetOk.of rfl (AV.Le.int (h2 k1 k2).symm)
 ·(repeat' first|refine qv ?_|apply qn|apply qs|apply qr|refine qe ?_|apply qb);refine qc (EG m (by omega) false (Iff.intro (fun h=>by cases h) fun h=>absurd h k1)) ?_;(repeat' first|refine qv ?_|apply qn|apply qs|apply qr|refine AJ rfl ?_|apply qt);exact RetOk.of rfl (AV.Le.int (h1 k1).symm)
end Go.Proofs.YtmmfloplhopioaaGreat
/- ref01.shifted. -/
namespace Go.AL
end Go.AL
namespace Go.Proofs.YtmmfloplhopioaaGreat
open Go.AL
end Go.Proofs.YtmmfloplhopioaaGreat
/- ref01.Shift, by a number that is not negative. -/
namespace Go.Proofs.YtmmfloplhopioaaGreat
open Go.AL
end Go.Proofs.YtmmfloplhopioaaGreat
/- ref01.short: by one word. -/
namespace Go.Proofs.YtmmfloplhopioaaGreat
open Go.AL
theorem short_ok (x b:Int) (hx:0≤x) (hxl:(toW x).length≤50000) (hb:0<b) (hb1:b<4294967296):PureFn Tryz.prog 230 [aW (toW x),.v (.int .u32 b)] (.tup [aW (wdW (toW x).length (x/b)),.v (.int .u32 (x % b))]):=by
 refine AC Tryz.func230 rfl Tryz.ntmps230 rfl rfl ?_;have wx:=Ag x;have hsx:=Ad hx
 generalize toW x=A at *
 subst hsx;(repeat' first|refine qv ?_|apply qn|apply qs|apply qr|refine qw ?_|apply qb|refine CH rfl rfl rfl rfl rfl rfl rfl rfl rfl rfl eW 0 (by exact AB _) (by rfl) (by first|omega|(dsimp only; omega)) (by first|omega|(dsimp only; omega)) (by first|omega|(dsimp only; omega)) ?_|fail);refine AWP.loop (G:=Nat×List Int×Int) (fun(i,os,r)=>os.length+i=A.length∧WOk os∧0≤r∧r<b∧val (A.drop i)=val os*b+r)
  (fun(i,os,r)=>AO [] [(0,aW A),(1,.v (.int .u32 b)),(6,.row 11),(7,aU r),(8,aN ((i:Int)-1))] [(11,.row 1 eW (List.replicate i 0++os) 94)])
  (fun(i,os,r)=>i) (A.length,[],0) ⟨by simp,WOk.nil,by omega,by omega,by simp[val]⟩ ?_ ?_
 ·refine Ent.of [] ?_ ?_ rfl rfl;(repeat' first|exact True.intro|refine⟨⟨AA _,rfl⟩,?_⟩|refine⟨⟨⟨_,rfl,BLe.row ?_⟩,rfl⟩,?_⟩|fail);simp
 ·intro⟨i,os,r⟩ ⟨h0,h1,h2,h3,h4⟩;refine AE ?_;(repeat' first|refine qv ?_|apply qn|apply qs|apply qr|(refine AD rfl ?_ ?_<;>intro _<;>try(exfalso; omega))|apply qk|apply qx|apply qt)
  ·refine⟨?_⟩;refine AWP.seq (AWP.block (Cj (G:=Int) (fun y=>A[i-1]? = some y∧0≤y∧y<4294967296) (fun y=>AO [] [(0,aW A),(1,.v (.int .u32 b)),(6,.row 11),(7,aU (r*4294967296+y)),(8,aN ((i:Int)-1))] [(11,.row 1 eW (List.replicate i 0++os) 94)]) ?_ ?_))
   ·(repeat' first|refine qv ?_|apply qn|apply qr|refine qw ?_|(refine CJ rfl rfl rfl rfl rfl rfl rfl rfl (by omega) (by omega) (by assumption) ?_; intro _ _ _ _)|refine Fl.sumM rfl rfl rfl rfl rfl rfl ?_);rename_i hi y hy hy0 hy1;rw[show((i:Int)-1).toNat=i-1 by omega]at hy;refine JoinOk.of y ⟨hy,hy0,hy1⟩ ?_;refine Ent.of [] ?_ ?_ rfl rfl;(repeat' first|exact True.intro|refine⟨⟨AA _,rfl⟩,?_⟩|refine⟨⟨⟨_,rfl,BLe.row rfl⟩,rfl⟩,?_⟩|refine⟨⟨AV.Le.int ?_,rfl⟩,?_⟩|fail);rw[show(2:Int)^(32:Int).toNat=4294967296 from rfl];omega
   ·intro y ⟨hy,hy0,hy1⟩
    have hi:0<i:=by
     rcases Nat.eq_zero_or_pos i with h|h
     ·subst h; omega
     ·exact h
    obtain⟨q,hq⟩:∃q,q=(r*4294967296+y)/b:=⟨_,rfl⟩;obtain⟨r', hr'⟩:∃r', r'=(r*4294967296+y) % b:=⟨_,rfl⟩;have hw:=over_word hb h2 h3 hy0 hy1;have hm0:=Int.emod_nonneg (r*4294967296+y) (show b≠0 by omega);have hm1:=Int.emod_lt_of_pos (r*4294967296+y) hb;have hst:=over_step (i:=i-1) hy (by rw[show i-1+1=i by omega]; exact h4);rw[←hq]at hw hst;rw[←hr']at hm0 hm1 hst;(repeat' first|refine qv ?_|apply qn|apply qs|apply qr|refine qw ?_|refine Fl.w rfl rfl rfl ⟨by omega,by omega,by dsimp only[hiK]; omega⟩ ?_|refine A8 rfl rfl rfl rfl rfl rfl rfl rfl (by omega) (by first|omega|(simp; omega)) ?_|refine Bb rfl rfl rfl rfl rfl rfl rfl rfl rfl rfl rfl (AB _) rfl (by first|omega|(simp; omega)) ?_|fail);refine LoopEnd.of (i-1,q::os,r') ⟨by simp only[List.length_cons]; omega,WOk.cons hw.1 hw.2 h1,hm0,hm1,hst⟩ (by simp only; omega) ?_;refine Ent.of [] ?_ ?_ rfl rfl;(repeat' first|exact True.intro|refine⟨⟨AA _,rfl⟩,?_⟩|refine⟨⟨⟨_,rfl,BLe.row ?_⟩,rfl⟩,?_⟩|refine⟨⟨AV.Le.int ?_,rfl⟩,?_⟩|fail)
    ·exact hr'.symm
    ·omega
    ·refine set_zeros (by omega) (by omega) ?_;rw[←hq]; omega
  ·rename_i hi
   have hi0:i=0:=by omega
   subst hi0;rw[List.drop_zero]at h4;obtain⟨e1,e2⟩:=over_end h4 h2 h3;refine Ao (Ent.freeze 11 rfl) ?_;refine RetOk.of rfl ?_;rw[←e1,←e2,show A.length=os.length by omega,←wdW_eq h1];exact AV.Le.tup (LeL.cons (AA _) (LeL.cons (AV.Le.int (by omega)) LeL.nil))
end Go.Proofs.YtmmfloplhopioaaGreat
/- Bytes az a string; the text of a small number; the reference's Parse of the law's machine. -/
namespace Go.AL
def e8:UInt8→List AV:=fun b=>[.v (.int .u8 b.toNat)]
section
variable {P:Program} {tab:Tab} {n:Nat} {s:St}
variable {ops:Array Oper} {draw:Dr} {o:Oper} {l:List Oper} {acc:List Eff} {K:Exit→St→Prop}
theorem OpJ.toS (ht:BG P tab) (hd:∀d,o.dst=some d→d<n) {t t':TypeId} {x:Operand} (hop:o.op = .convert t t' x) {e:TypeId} {sz1 by1 sz2 by2 sz3 by3:Nat} {z1 z2 z3:List Value} (hts:tab t=some ⟨.slice e,sz1,by1,z1⟩) (hte:tab e=some ⟨.int .u8,sz2,by2,z2⟩) (htt:tab t'=some ⟨.string,sz3,by3,z3⟩) {bs:List UInt8} (hx:opd s x = .sl 1 e8 bs) (hne:bs≠[]):OpJ P n o s ⟨sV bs,[],[],[],[]⟩:=by
 refine AR hd fun C s' a w h β ho _ b=>?_;have hxr:=AK b x;rw[ho x (by simp[hop,Op.operands]),hx]at hxr;simp only[Rep]at hxr;obtain⟨A,c,e1,hc,hm,hall⟩:=hxr;have h1:=(ht _ _ hts).und;have h2:=(ht _ _ hte).und;have h3:=(ht _ _ htt).und;simp only at h1 h2 h3;have hpos:0<bs.length:=List.length_pos_iff.2 hne;obtain⟨ad,_,hA,_⟩:=hall 0 _ (List.getElem?_eq_getElem hpos);subst hA
 have hcell:∀j (hj:j<bs.length),w.cell? (ad.add j)=some (.int .u8 (bs[j].toNat:Int)):=fun j hj=>by
  obtain⟨ad', us,e2,e3,e4,e5⟩:=hall j _ (List.getElem?_eq_getElem hj);injection e2 with e2;subst e2;simp only[e8,RepL,Rep]at e4;obtain⟨u,r,rfl,rfl,rfl⟩:=e4;have:=(e5 0 _ rfl).cell b.evo.has;rw[Nat.mul_one,Nat.add_zero]at this;exact this
 refine⟨.string ⟨bs.toArray⟩,?_,by simp only[Rep]⟩;have:=run_convert_bytes_back (P:=P) w t t' e ad c bs h1 h2 h3 hcell;simp only[execOp,hop,e1,Sem.run_bind,this,Result.andThen,Sem.run_pure]
theorem Fl.toS [f:Facts P tab] {t t':TypeId} {x:Operand} (hop:o.op = .convert t t' x) {e:TypeId} {sz1 by1 sz2 by2 sz3 by3:Nat} {z1 z2 z3:List Value} (hts:tab t=some ⟨.slice e,sz1,by1,z1⟩) (hte:tab e=some ⟨.int .u8,sz2,by2,z2⟩) (htt:tab t'=some ⟨.string,sz3,by3,z3⟩) {bs:List UInt8} (hx:opd s x = .sl 1 e8 bs) (hne:bs≠[]) (hg:gOk ops s o=true) (hd:dOk n o.dst=true)
  (r:Fl P n ops draw l ((Eff.mk (sV bs) [] [] [] []).app o.dst s) (Eff.mk (sV bs) [] [] [] []::acc) K):Fl P n ops draw (o::l) s acc K:=
 Af hg (OpJ.toS f.tabOk (Aa hd) hop hts hte htt hx hne) r
end
end Go.AL
namespace Go.Proofs.YtmmfloplhopioaaGreat
open Go.AL
theorem rText0_ok:PureFn Tryz.prog 218 [aX 0] (sV [48]):=by
 refine AC Tryz.func218 rfl Tryz.ntmps218 rfl rfl ?_;have c:=Cf (zOf 0);rw[show(zOf 0).w.length=0 by show(toW 0).length=0; rw[toW_zero]; rfl]at c;(repeat' first|refine qv ?_|apply qn|apply qs|apply qr|refine qe ?_|fail);refine qc (c) ?_;(repeat' first|refine qv ?_|apply qn|apply qs|apply qr|refine AJ rfl ?_|apply qt);exact RetOk.of rfl (AA _)
theorem rText1_ok:PureFn Tryz.prog 218 [aX 1] (sV [49]):=by
 refine AC Tryz.func218 rfl Tryz.ntmps218 rfl rfl ?_;have c:=Cf ⟨false,[1]⟩;have e1:toW ((1:Int).natAbs:Int)=[1]:=toW_one;rw[show decide ((⟨false,[1]⟩:Z).w.length=0)=false from rfl]at c;have cs:=short_ok 1 1000000000 (by omega) (by rw[toW_one]; simp) (by omega) (by omega);rw[toW_one]at cs;have cm:=DL false (wdW 1 (1/1000000000)) (wdW_ok _ _) (by rw[wdW_length]; omega);rw[show sg false (val (wdW 1 (1/1000000000)))=0 by simp[wdW,val,sg]]at cm;have e0:toW ((0:Int).natAbs:Int)=[]:=toW_zero
 have cm':PureFn Tryz.prog 54 [aB false,aW (wdW 1 (1/1000000000))] (.agg [aB false,aW []]):=by rw[←e0]; exact cm
 show AWP _ _ _ _ _ (Dn [.agg [aB (decide ((1:Int)<0)),aW (toW ((1:Int).natAbs:Int))]]);rw[e1];refine AE ?_;(repeat' first|refine qv ?_|apply qn|apply qr|refine qe ?_|fail);refine⟨AE ?_⟩;(repeat' first|refine qv ?_|apply qs|apply qr);refine qc (c) ?_;(repeat' first|apply qn|refine AF rfl ?_|apply qk);refine⟨AE ?_⟩;(repeat' first|refine qv ?_|apply qn|apply qr);refine⟨AE ?_⟩;(repeat' first|refine qv ?_|apply qn|apply qr);refine⟨AE ?_⟩;refine AY (BV 3 803 rfl rfl 1 e8 5) ?_;(repeat' first|apply qb);refine AWP.loop (G:=List Int×List UInt8) (fun(ws,l)=>(ws=[1]∧l=[])∨(ws=[]∧l=[49])) (fun(ws,l)=>AO [] [(1,.ptr 1 0),(3,.row 3),(4,aW ws)] [(1,.cells [aB false,aW [1]] 48),(3,.row 1 e8 l 5)]) (fun(ws,_)=>ws.length) ([1],[]) (.inl ⟨rfl,rfl⟩) ?_ ?_
 ·refine Ent.of [(3,803)] ?_ ?_ rfl rfl;(repeat' first|exact True.intro|refine⟨⟨AA _,rfl⟩,?_⟩|refine⟨⟨⟨_,rfl,BLe.cells (AB _)⟩,rfl⟩,?_⟩|refine⟨⟨⟨_,rfl,BLe.row rfl⟩,rfl⟩,?_⟩|fail)
 ·rintro⟨ws,l⟩ (⟨rfl,rfl⟩|⟨rfl,rfl⟩)
  ·refine AE ?_;(repeat' first|refine qv ?_|apply qn|apply qs|apply qr|refine AJ rfl ?_|apply qk);refine⟨?_⟩;(repeat' first|refine qv ?_|apply qn|apply qs|apply qr|apply qb);refine qc (cs) ?_;(repeat' first|refine qv ?_|apply qn|apply qs|apply qr);refine qc (cm') ?_;(repeat' first|refine qv ?_|apply qn|apply qs|apply qr|apply qb);refine AWP.loop (G:=Int×Int×List UInt8) (fun(k,r,l)=>(k=0∧r=1∧l=[])∨(k=1∧r=0∧l=[49])) (fun(k,r,l)=>AO [] [(1,.ptr 1 0),(3,.row 3),(4,aW []),(5,.v (.int .u32 r)),(6,aN k)] [(1,.cells [aB false,aW [1]] 48),(3,.row 1 e8 l 5)]) (fun(k,_,_)=>(1-k).toNat) (0,1,[]) (.inl ⟨rfl,rfl,rfl⟩) ?_ ?_
   ·refine Ent.of [] ?_ ?_ rfl rfl;(repeat' first|exact True.intro|refine⟨⟨AA _,rfl⟩,?_⟩|refine⟨⟨⟨_,rfl,BLe.cells (AB _)⟩,rfl⟩,?_⟩|refine⟨⟨⟨_,rfl,BLe.row rfl⟩,rfl⟩,?_⟩|fail)
   ·rintro⟨k,r,l⟩ (⟨rfl,rfl,rfl⟩|⟨rfl,rfl,rfl⟩)
    ·refine AE ?_;(repeat' first|refine qv ?_|apply qn|apply qs|apply qr|refine AJ rfl ?_|apply qk);refine⟨?_⟩;(repeat' first|refine qv ?_|apply qs|apply qr|refine qw ?_|apply qb);refine ql e8 [49] ?_;refine qa (hby:=(by simp)) (hm:=(by simp)) (r:=?_);(repeat' first|refine qv ?_|apply qn|apply qr|refine qw ?_|refine Fl.w rfl rfl rfl ⟨by omega,by omega,by dsimp only[hiK]; omega⟩ ?_|fail);refine LoopEnd.of (1,0,[49]) (.inr ⟨rfl,rfl,rfl⟩) (by decide) ?_;refine Ent.of [(3,42)] ?_ ?_ rfl rfl;(repeat' first|exact True.intro|refine⟨⟨AA _,rfl⟩,?_⟩|refine⟨⟨⟨_,rfl,BLe.cells (AB _)⟩,rfl⟩,?_⟩|refine⟨⟨⟨_,rfl,BLe.row rfl⟩,rfl⟩,?_⟩|fail)
    ·refine AE ?_;(repeat' first|refine qv ?_|apply qn|apply qs|apply qr|refine AF rfl ?_|apply qx);refine LoopEnd.of ([],[49]) (.inr ⟨rfl,rfl⟩) (by simp) ?_;refine Ent.of [] ?_ ?_ rfl rfl;(repeat' first|exact True.intro|refine⟨⟨AA _,rfl⟩,?_⟩|refine⟨⟨⟨_,rfl,BLe.cells (AB _)⟩,rfl⟩,?_⟩|refine⟨⟨⟨_,rfl,BLe.row rfl⟩,rfl⟩,?_⟩|fail)
  ·(repeat' first|refine qv ?_|apply qn|apply qs|apply qr|refine AF rfl ?_|apply qx);refine⟨AE ?_⟩;(repeat' first|refine qv ?_|apply qn|apply qs|apply qr|refine AF rfl ?_|apply qk);refine⟨AE ?_⟩;(repeat' first|refine qv ?_|apply qn|apply qs|apply qr|apply qb);obtain⟨l0,hl0⟩:∃l0:List UInt8,l0=[49]:=⟨_,rfl⟩
   have hlen:l0.length=1:=by rw[hl0]; rfl
   refine AWP.loop (G:=Unit) (fun _=>True) (fun _=>AO [] [(3,.row 3),(7,aN 0)] [(3,.row 1 e8 l0 5)]) (fun _=>0) () trivial ?_ ?_
   ·refine Ent.of [] ?_ ?_ rfl rfl;(repeat' first|exact True.intro|refine⟨⟨AA _,rfl⟩,?_⟩|refine⟨⟨⟨_,rfl,BLe.row ?_⟩,rfl⟩,?_⟩|fail);exact hl0.symm
   ·intro _ _;(repeat' first|refine qv ?_|apply qn|apply qs|apply qr|refine Fl.w rfl rfl rfl ⟨by omega,by omega,by dsimp only[hiK]; omega⟩ ?_|(refine AD rfl ?_ ?_<;>intro _<;>try(exfalso; omega))|apply qx);refine⟨?_⟩;refine AY (Ent.freeze 3 rfl) ?_;(repeat' first|refine qv ?_|apply qs|apply qr);refine Fl.toS rfl rfl rfl rfl rfl (by rw[hl0]; simp) rfl rfl ?_;(repeat' first|refine qv ?_|apply qn|apply qt);exact RetOk.of rfl (AP (by rw[hl0]))
theorem rNum_ok (n:Int) (l:List UInt8) (h:(n=0∧l=[48])∨(n=1∧l=[49])):PureFn Tryz.prog 198 [aN n] (sV l):=by
 refine AC Tryz.func198 rfl Tryz.ntmps198 rfl rfl ?_
 have c:PureFn Tryz.prog 218 [aX n] (sV l):=by
  rcases h with⟨rfl,rfl⟩|⟨rfl,rfl⟩
  ·exact rText0_ok
  ·exact rText1_ok
 (repeat' first|refine qv ?_|apply qn|apply qs|apply qr);refine qc (Bs n (by omega) (by omega)) ?_;refine qc (c) ?_;(repeat' first|refine qv ?_|apply qn|apply qt);exact RetOk.of rfl (AA _)
theorem E3 (bs:List UInt8) (i:Nat) (c:UInt8) (hl:bs.length≤1000) (hc:bs[i]? = some c) (h0:48≤c.toNat) (h9:c.toNat≤57) (hn:∀d:UInt8,bs[i+1]? = some d→¬(48≤d.toNat∧d.toNat≤57)):PureFn Tryz.prog 167 [sV bs,aN i] (.tup [aN ((c.toNat:Int)-48),aN ((i:Int)+1)]):=by
 refine AC Tryz.func167 rfl Tryz.ntmps167 rfl rfl ?_;have hi:i<bs.length:=(List.getElem?_eq_some_iff.1 hc).1
 have hc1:bs[Int.toNat (i:Int)]? = some c:=by rw[Int.toNat_natCast]; exact hc
 (repeat' first|refine qv ?_|apply qn|apply qs|apply qr|apply qb);refine AWP.loop (G:=Int×Int) (fun(a,v)=>(a=i∧v=0)∨(a=i+1∧v=(c.toNat:Int)-48)) (fun(a,v)=>AO [] [(0,sV bs),(1,aN a),(6,aN v),(7,aN i)] []) (fun(a,_)=>(i+1-a).toNat) (i,0) (.inl ⟨rfl,rfl⟩) ?_ ?_
 ·refine Ent.of [] ?_ ?_ rfl rfl;(repeat' first|exact True.intro|refine⟨⟨AA _,rfl⟩,?_⟩|fail)
 ·rintro⟨a,v⟩ (⟨rfl,rfl⟩|⟨rfl,rfl⟩)
  ·refine AE ?_;(repeat' first|refine Bv rfl rfl rfl rfl rfl ?_|refine Cn rfl rfl rfl rfl rfl rfl (by assumption) (by omega) ?_|refine qv ?_|apply qn|apply qs|apply qr|refine qw ?_|(refine AD rfl ?_ ?_<;>intro _<;>try(exfalso; omega))|apply qk|(refine AG rfl rfl ?_ ?_<;>intro _<;>try(exfalso; omega)));refine⟨?_⟩;(repeat' first|refine Cn rfl rfl rfl rfl rfl rfl (by assumption) (by omega) ?_|refine qv ?_|apply qn|apply qs|apply qr|refine qw ?_|apply qb|refine Fl.cvS rfl rfl rfl rfl rfl rfl ?_);refine LoopEnd.of ((i:Int)+1,(c.toNat:Int)-48) (.inr ⟨rfl,rfl⟩) (by simp only; omega) ?_;refine Ent.of [] ?_ ?_ rfl rfl;(repeat' first|exact True.intro|refine⟨⟨AA _,rfl⟩,?_⟩|refine⟨⟨AV.Le.int ?_,rfl⟩,?_⟩|fail);omega
  ·by_cases h1:i+1<bs.length
   ·obtain⟨d,hd⟩:∃d,bs[i+1]? = some d:=⟨_,List.getElem?_eq_getElem h1⟩
    have hd1:bs[Int.toNat ((i:Int)+1)]? = some d:=by rw[show((i:Int)+1).toNat=i+1 by omega]; exact hd
    have hd2:=hn d hd;refine AE ?_;(repeat' first|refine Bv rfl rfl rfl rfl rfl ?_|refine Cn rfl rfl rfl rfl rfl rfl (by assumption) (by omega) ?_|refine qv ?_|apply qn|apply qs|apply qr|refine qw ?_|refine Fl.skip rfl rfl ?_|refine AF rfl ?_|(refine AD rfl ?_ ?_<;>intro _<;>try(exfalso; omega))|apply qx|apply qt|(refine AG rfl rfl ?_ ?_<;>intro _<;>try(exfalso; omega)))
    all_goals exact RetOk.of rfl (AA _)
   ·refine AE ?_;(repeat' first|refine Bv rfl rfl rfl rfl rfl ?_|refine qv ?_|apply qn|apply qs|apply qr|refine Fl.skip rfl rfl ?_|refine AF rfl ?_|apply qx|apply qt|(refine AG rfl rfl ?_ ?_<;>intro _<;>try(exfalso; omega)));exact RetOk.of rfl (AA _)
theorem r13Insn1_ok:PureFn Tryz.prog 168 [sV [105,48,62,49]] (aIz ⟨0,0,1,0⟩):=by
 refine AC Tryz.func168 rfl Tryz.ntmps168 rfl rfl ?_;have d1:PureFn Tryz.prog 167 [sV [105,48,62,49],aN 1] (.tup [aN 0,aN 2]):=E3 [105,48,62,49] 1 48 (by decide) rfl (by decide) (by decide) (by intro d hd; injection hd with hd; subst hd; decide);have d2:PureFn Tryz.prog 167 [sV [105,48,62,49],aN 3] (.tup [aN 1,aN 4]):=E3 [105,48,62,49] 3 49 (by decide) rfl (by decide) (by decide) (by intro d hd; cases hd);obtain⟨bs,hbs⟩:∃bs:List UInt8,bs=[105,48,62,49]:=⟨_,rfl⟩
 have hl:bs.length=4:=by rw[hbs]; rfl
 obtain⟨c,hc,hcn⟩:∃c:UInt8,bs[Int.toNat 0]? = some c∧c.toNat=105:=⟨105,by rw[hbs]; rfl,rfl⟩;rw[←hbs]at d1 d2 ⊢;(repeat' first|refine Bv rfl rfl rfl rfl rfl ?_|refine Cn rfl rfl rfl rfl rfl rfl (by assumption) (by omega) ?_|refine qv ?_|apply qn|apply qs|apply qr|refine qe ?_|(refine AD rfl ?_ ?_<;>intro _<;>try(exfalso; omega))|apply qb|apply qk);refine Fl.call rfl d1 rfl rfl rfl (AB _) ?_;(repeat' first|refine qv ?_|apply qn|apply qs|apply qr|refine qw ?_|refine qe ?_|fail);refine Fl.call rfl d2 rfl rfl rfl (AB _) ?_;(repeat' first|refine qv ?_|apply qn|apply qs|apply qr|refine qe ?_|refine AF rfl ?_|apply qk|apply qt);exact RetOk.of rfl (AA _)
theorem r13InsnH_ok:PureFn Tryz.prog 168 [sV [104]] (aIz ⟨3,0,0,0⟩):=by
 refine AC Tryz.func168 rfl Tryz.ntmps168 rfl rfl ?_;obtain⟨bs,hbs⟩:∃bs:List UInt8,bs=[104]:=⟨_,rfl⟩
 have hl:bs.length=1:=by rw[hbs]; rfl
 rw[←hbs];(repeat' first|refine Bv rfl rfl rfl rfl rfl ?_|refine qv ?_|apply qn|apply qs|apply qr|refine qe ?_|(refine AD rfl ?_ ?_<;>intro _<;>try(exfalso; omega))|apply qt);exact RetOk.of rfl (AA _)
abbrev m14:MZ:=⟨1,[⟨0,0,1,0⟩,⟨3,0,0,0⟩]⟩
theorem r13Text_ok:PureFn Tryz.prog 169 [aMz m14] (sV [49,32,105,48,62,49,32,104]):=by
 refine AC Tryz.func169 rfl Tryz.ntmps169 rfl rfl ?_;have n1:=rNum_ok 1 [49] (.inr ⟨rfl,rfl⟩);have n0:=rNum_ok 0 [48] (.inl ⟨rfl,rfl⟩);obtain⟨cd,hcd⟩:∃cd,cd=m14.code:=⟨_,rfl⟩
 have hl:cd.length=2:=by rw[hcd]; rfl
 have q0:cd[Int.toNat ((0:Nat):Int)]? = some ⟨0,0,1,0⟩:=by rw[hcd]; rfl
 have q1:cd[Int.toNat ((1:Nat):Int)]? = some ⟨3,0,0,0⟩:=by rw[hcd]; rfl
 show AWP _ _ _ _ _ (Dn [.agg [aN 1,.sl 4 eIz m14.code]]);rw[←hcd];refine AE ?_;(repeat' first|refine qv ?_|apply qn|apply qr|refine qe ?_|fail);refine⟨AE ?_⟩;(repeat' first|refine qv ?_|apply qr);refine Fl.call rfl n1 rfl rfl rfl (AB _) ?_;(repeat' first|refine qv ?_|apply qn);refine⟨AE ?_⟩;(repeat' first|refine qv ?_|apply qn|apply qs|apply qr|apply qb);refine AWP.loop (G:=Nat×List UInt8) (fun(i,l)=>(i=0∧l=[49])∨(i=1∧l=[49,32,105,48,62,49])∨(i=2∧l=[49,32,105,48,62,49,32,104])) (fun(i,l)=>AO [] [(1,.ptr 1 0),(3,sV l),(4,aN i)] [(1,.cells [aN 1,.sl 4 eIz cd] 24)]) (fun(i,_)=>2-i) (0,[49]) (.inl ⟨rfl,rfl⟩) ?_ ?_
 ·refine Ent.of [] ?_ ?_ rfl rfl;(repeat' first|exact True.intro|refine⟨⟨AA _,rfl⟩,?_⟩|refine⟨⟨⟨_,rfl,BLe.cells (AB _)⟩,rfl⟩,?_⟩|fail)
 ·rintro⟨i,l⟩ (⟨rfl,rfl⟩|⟨rfl,rfl⟩|⟨rfl,rfl⟩)
  ·(repeat' first|refine Fl.sCat rfl rfl rfl rfl rfl rfl (by decide) ?_|refine qv ?_|apply qn|apply qs|apply qr|refine qe ?_|refine AJ rfl ?_|(refine AD rfl ?_ ?_<;>intro _<;>try(exfalso; omega))|apply qb|apply qk|refine qK ?_|fail);refine Fl.call rfl n0 rfl rfl rfl (AB _) ?_;(repeat' first|refine Fl.sCat rfl rfl rfl rfl rfl rfl (by decide) ?_|refine qv ?_|fail);refine Fl.call rfl n1 rfl rfl rfl (AB _) ?_;(repeat' first|refine Fl.sCat rfl rfl rfl rfl rfl rfl (by decide) ?_|refine qv ?_|apply qn|refine Fl.nil (fun _=>by kernel_rfl) ?_|apply qr|refine qw ?_|fail);refine LoopEnd.of (1,[49,32,105,48,62,49]) (.inr (.inl ⟨rfl,rfl⟩)) (by decide) ?_;refine Ent.of [] ?_ ?_ rfl rfl;(repeat' first|exact True.intro|refine⟨⟨AA _,rfl⟩,?_⟩|refine⟨⟨⟨_,rfl,BLe.cells (AB _)⟩,rfl⟩,?_⟩|fail)
  ·(repeat' first|refine Fl.sCat rfl rfl rfl rfl rfl rfl (by decide) ?_|refine qv ?_|apply qn|apply qs|apply qr|refine qw ?_|refine qe ?_|refine AF rfl ?_|(refine AD rfl ?_ ?_<;>intro _<;>try(exfalso; omega))|apply qb|apply qk|refine qK ?_|fail);refine LoopEnd.of (2,[49,32,105,48,62,49,32,104]) (.inr (.inr ⟨rfl,rfl⟩)) (by decide) ?_;refine Ent.of [] ?_ ?_ rfl rfl;(repeat' first|exact True.intro|refine⟨⟨AA _,rfl⟩,?_⟩|refine⟨⟨⟨_,rfl,BLe.cells (AB _)⟩,rfl⟩,?_⟩|fail)
  ·(repeat' first|refine qv ?_|apply qn|apply qs|apply qr|(refine AD rfl ?_ ?_<;>intro _<;>try(exfalso; omega))|apply qx);refine⟨?_⟩;(repeat' first|refine qv ?_|apply qn|apply qs|apply qr|apply qt);exact RetOk.of rfl (AA _)
set_option maxHeartbeats 4000000 in
theorem r13Parse_ok:PureFn Tryz.prog 116 [sV [49,32,105,48,62,49,32,104]] (.tup [aMz m14,aB true]):=by
 refine AC Tryz.func116 rfl Tryz.ntmps116 rfl rfl ?_;have u0:(49:UInt8).toNat=49:=rfl;have u1:(32:UInt8).toNat=32:=rfl;have u2:(105:UInt8).toNat=105:=rfl;have u3:(48:UInt8).toNat=48:=rfl;have u4:(62:UInt8).toNat=62:=rfl;have u5:(104:UInt8).toNat=104:=rfl;have d0:PureFn Tryz.prog 167 [sV [49],aN 0] (.tup [aN 1,aN 1]):=E3 [49] 0 49 (by decide) rfl (by decide) (by decide) (by intro d hd; cases hd);have i1:=r13Insn1_ok;have i2:=r13InsnH_ok;have ct:=r13Text_ok
 have cv:=EG m14 (by decide) true ⟨fun _=>⟨by decide,by decide,by decide,by decide,fun i hi=>by
  have hi:i<2:=hi;rcases(show i=0∨i=1 by omega)with rfl|rfl
  ·exact .inr ⟨by decide,by decide,.inr ⟨.inl rfl,rfl⟩⟩
  ·exact .inl rfl⟩,fun _=>rfl⟩
 refine AE ?_;(repeat' first|refine qv ?_|apply qn|apply qr|refine qe ?_|fail);refine⟨AE ?_⟩;(repeat' first|refine Bv rfl rfl rfl rfl rfl ?_|refine qv ?_|apply qn|apply qs|apply qr|refine AF rfl ?_|apply qk);refine⟨AE ?_⟩;(repeat' first|apply qn|apply qr|refine qe ?_|fail);refine⟨AE ?_⟩;(repeat' first|refine qv ?_|apply qn|apply qr);refine⟨AE ?_⟩;refine AY (Bc 4 1 806 rfl rfl rfl 4 eIz 77) ?_;(repeat' first|refine qv ?_|apply qn|apply qs|apply qr|apply qb);obtain⟨bs,hbs⟩:∃bs:List UInt8,bs=[49,32,105,48,62,49,32,104]:=⟨_,rfl⟩
 have hl:bs.length=8:=by rw[hbs]; rfl
 rw[←hbs]at ct ⊢
 have g0:bs[Int.toNat ((0:Nat):Int)]? = some 49:=by rw[hbs]; rfl
 have g1:bs[Int.toNat ((1:Nat):Int)]? = some 32:=by rw[hbs]; rfl
 have g2:bs[Int.toNat ((2:Nat):Int)]? = some 105:=by rw[hbs]; rfl
 have g3:bs[Int.toNat ((3:Nat):Int)]? = some 48:=by rw[hbs]; rfl
 have g4:bs[Int.toNat ((4:Nat):Int)]? = some 62:=by rw[hbs]; rfl
 have g5:bs[Int.toNat ((5:Nat):Int)]? = some 49:=by rw[hbs]; rfl
 have g6:bs[Int.toNat ((6:Nat):Int)]? = some 32:=by rw[hbs]; rfl
 have g7:bs[Int.toNat ((7:Nat):Int)]? = some 104:=by rw[hbs]; rfl
 have s1:(bs.drop (0:Int).toNat).take (((1:Nat):Int).toNat-(0:Int).toNat)=[49]:=by rw[hbs]; rfl
 have s2:(bs.drop (2:Int).toNat).take (((6:Nat):Int).toNat-(2:Int).toNat)=[105,48,62,49]:=by rw[hbs]; rfl
 have s3:(bs.drop (7:Int).toNat).take (((8:Nat):Int).toNat-(7:Int).toNat)=[104]:=by rw[hbs]; rfl
 refine AWP.loop (G:=Nat×Int×Bool×Int×List IZ) (fun(i,fr,ft,rg,cd)=>(i≤1∧fr=0∧ft=true∧rg=0∧cd=[])∨(2≤i∧i≤6∧fr=2∧ft=false∧rg=1∧cd=[])∨(7≤i∧i≤8∧fr=7∧ft=false∧rg=1∧cd=[⟨0,0,1,0⟩])∨(i=9∧ft=false∧rg=1∧cd=[⟨0,0,1,0⟩,⟨3,0,0,0⟩])) (fun(i,fr,ft,rg,cd)=>AO [] [(0,sV bs),(2,.ptr 2 0),(4,.ptr 4 0),(5,aN fr),(6,aB ft),(7,aN i)] [(2,.cells [aN 0,.v (.slice none 0 0)] 24),(4,.cells [aN rg,.row 806] 24),(806,.row 4 eIz cd 77)]) (fun(i,_,_,_,_)=>9-i) (0,0,true,0,[]) (.inl ⟨by omega,rfl,rfl,rfl,rfl⟩) ?_ ?_
 ·refine Ent.of [] ?_ ?_ rfl rfl;(repeat' first|exact True.intro|refine⟨⟨AA _,rfl⟩,?_⟩|refine⟨⟨⟨_,rfl,BLe.cells (AB _)⟩,rfl⟩,?_⟩|refine⟨⟨⟨_,rfl,BLe.row rfl⟩,rfl⟩,?_⟩|fail)
 ·rintro⟨i,fr,ft,rg,cd⟩ (⟨k0,rfl,rfl,rfl,rfl⟩|⟨k0,k1,rfl,rfl,rfl,rfl⟩|⟨k0,k1,rfl,rfl,rfl,rfl⟩|⟨rfl,rfl,rfl,rfl⟩)
  ·rcases(show i=0∨i=1 by omega)with rfl|rfl
   ·(repeat' first|refine Bv rfl rfl rfl rfl rfl ?_|refine Cn rfl rfl rfl rfl rfl rfl (by assumption) (by omega) ?_|refine qv ?_|apply qn|apply qs|apply qr|refine qw ?_|refine AJ rfl ?_|apply qb|apply qk|apply qx|(refine AG rfl rfl ?_ ?_<;>intro _<;>try(exfalso; omega)));refine LoopEnd.of (1,0,true,0,[]) (.inl ⟨by omega,rfl,rfl,rfl,rfl⟩) (by simp) ?_;refine Ent.of [] ?_ ?_ rfl rfl;(repeat' first|exact True.intro|refine⟨⟨AA _,rfl⟩,?_⟩|refine⟨⟨⟨_,rfl,BLe.cells (AB _)⟩,rfl⟩,?_⟩|refine⟨⟨⟨_,rfl,BLe.row rfl⟩,rfl⟩,?_⟩|fail)
   ·(repeat' first|refine Bv rfl rfl rfl rfl rfl ?_|refine Cn rfl rfl rfl rfl rfl rfl (by assumption) (by omega) ?_|refine qv ?_|apply qn|apply qs|apply qr|refine AJ rfl ?_|refine AF rfl ?_|(refine AD rfl ?_ ?_<;>intro _<;>try(exfalso; omega))|apply qb|apply qk|(refine AG rfl rfl ?_ ?_<;>intro _<;>try(exfalso; omega)));refine Fl.sSub rfl rfl rfl rfl rfl rfl rfl s1 (by decide) (by decide) (by omega) ?_;refine Fl.call rfl d0 rfl rfl rfl (AB _) ?_;(repeat' first|refine qv ?_|apply qn|apply qr|refine qw ?_|refine qe ?_|fail);refine LoopEnd.of (2,2,false,1,[]) (.inr (.inl ⟨by omega,by omega,rfl,rfl,rfl,rfl⟩)) (by simp) ?_;refine Ent.of [] ?_ ?_ rfl rfl;(repeat' first|exact True.intro|refine⟨⟨AA _,rfl⟩,?_⟩|refine⟨⟨⟨_,rfl,BLe.cells (AB _)⟩,rfl⟩,?_⟩|refine⟨⟨⟨_,rfl,BLe.row rfl⟩,rfl⟩,?_⟩|fail)
  ·rcases(show i=2∨i=3∨i=4∨i=5∨i=6 by omega)with rfl|rfl|rfl|rfl|rfl
   ·(repeat' first|refine Bv rfl rfl rfl rfl rfl ?_|refine Cn rfl rfl rfl rfl rfl rfl (by assumption) (by omega) ?_|refine qv ?_|apply qn|apply qs|apply qr|refine qw ?_|refine AJ rfl ?_|(refine AD rfl ?_ ?_<;>intro _<;>try(exfalso; omega))|apply qb|apply qk|apply qx|(refine AG rfl rfl ?_ ?_<;>intro _<;>try(exfalso; omega)));refine LoopEnd.of (3,2,false,1,[]) (.inr (.inl ⟨by omega,by omega,rfl,rfl,rfl,rfl⟩)) (by simp) ?_;refine Ent.of [] ?_ ?_ rfl rfl;(repeat' first|exact True.intro|refine⟨⟨AA _,rfl⟩,?_⟩|refine⟨⟨⟨_,rfl,BLe.cells (AB _)⟩,rfl⟩,?_⟩|refine⟨⟨⟨_,rfl,BLe.row rfl⟩,rfl⟩,?_⟩|fail)
   ·(repeat' first|refine Bv rfl rfl rfl rfl rfl ?_|refine Cn rfl rfl rfl rfl rfl rfl (by assumption) (by omega) ?_|refine qv ?_|apply qn|apply qs|apply qr|refine qw ?_|refine AJ rfl ?_|(refine AD rfl ?_ ?_<;>intro _<;>try(exfalso; omega))|apply qb|apply qk|apply qx|(refine AG rfl rfl ?_ ?_<;>intro _<;>try(exfalso; omega)));refine LoopEnd.of (4,2,false,1,[]) (.inr (.inl ⟨by omega,by omega,rfl,rfl,rfl,rfl⟩)) (by simp) ?_;refine Ent.of [] ?_ ?_ rfl rfl;(repeat' first|exact True.intro|refine⟨⟨AA _,rfl⟩,?_⟩|refine⟨⟨⟨_,rfl,BLe.cells (AB _)⟩,rfl⟩,?_⟩|refine⟨⟨⟨_,rfl,BLe.row rfl⟩,rfl⟩,?_⟩|fail)
   ·(repeat' first|refine Bv rfl rfl rfl rfl rfl ?_|refine Cn rfl rfl rfl rfl rfl rfl (by assumption) (by omega) ?_|refine qv ?_|apply qn|apply qs|apply qr|refine qw ?_|refine AJ rfl ?_|(refine AD rfl ?_ ?_<;>intro _<;>try(exfalso; omega))|apply qb|apply qk|apply qx|(refine AG rfl rfl ?_ ?_<;>intro _<;>try(exfalso; omega)));refine LoopEnd.of (5,2,false,1,[]) (.inr (.inl ⟨by omega,by omega,rfl,rfl,rfl,rfl⟩)) (by simp) ?_;refine Ent.of [] ?_ ?_ rfl rfl;(repeat' first|exact True.intro|refine⟨⟨AA _,rfl⟩,?_⟩|refine⟨⟨⟨_,rfl,BLe.cells (AB _)⟩,rfl⟩,?_⟩|refine⟨⟨⟨_,rfl,BLe.row rfl⟩,rfl⟩,?_⟩|fail)
   ·(repeat' first|refine Bv rfl rfl rfl rfl rfl ?_|refine Cn rfl rfl rfl rfl rfl rfl (by assumption) (by omega) ?_|refine qv ?_|apply qn|apply qs|apply qr|refine qw ?_|refine AJ rfl ?_|(refine AD rfl ?_ ?_<;>intro _<;>try(exfalso; omega))|apply qb|apply qk|apply qx|(refine AG rfl rfl ?_ ?_<;>intro _<;>try(exfalso; omega)));refine LoopEnd.of (6,2,false,1,[]) (.inr (.inl ⟨by omega,by omega,rfl,rfl,rfl,rfl⟩)) (by simp) ?_;refine Ent.of [] ?_ ?_ rfl rfl;(repeat' first|exact True.intro|refine⟨⟨AA _,rfl⟩,?_⟩|refine⟨⟨⟨_,rfl,BLe.cells (AB _)⟩,rfl⟩,?_⟩|refine⟨⟨⟨_,rfl,BLe.row rfl⟩,rfl⟩,?_⟩|fail)
   ·(repeat' first|refine Bv rfl rfl rfl rfl rfl ?_|refine Cn rfl rfl rfl rfl rfl rfl (by assumption) (by omega) ?_|refine qv ?_|apply qn|apply qs|apply qr|refine AF rfl ?_|(refine AD rfl ?_ ?_<;>intro _<;>try(exfalso; omega))|apply qb|apply qk|(refine AG rfl rfl ?_ ?_<;>intro _<;>try(exfalso; omega)));refine Fl.sSub rfl rfl rfl rfl rfl rfl rfl s2 (by decide) (by decide) (by omega) ?_;refine Fl.call rfl i1 rfl rfl rfl (AB _) ?_;refine ql eIz [⟨0,0,1,0⟩] ?_;refine qa (hby:=(by simp)) (hm:=(by simp)) (r:=?_);(repeat' first|refine qv ?_|apply qn|refine Fl.nil (fun _=>by kernel_rfl) ?_|apply qr|refine qw ?_|refine qe ?_|fail);refine LoopEnd.of (7,7,false,1,[⟨0,0,1,0⟩]) (.inr (.inr (.inl ⟨by omega,by omega,rfl,rfl,rfl,rfl⟩))) (by simp) ?_;refine Ent.of [(806,47)] ?_ ?_ rfl rfl;(repeat' first|exact True.intro|refine⟨⟨AA _,rfl⟩,?_⟩|refine⟨⟨⟨_,rfl,BLe.cells (AB _)⟩,rfl⟩,?_⟩|refine⟨⟨⟨_,rfl,BLe.row rfl⟩,rfl⟩,?_⟩|fail)
  ·rcases(show i=7∨i=8 by omega)with rfl|rfl
   ·(repeat' first|refine Bv rfl rfl rfl rfl rfl ?_|refine Cn rfl rfl rfl rfl rfl rfl (by assumption) (by omega) ?_|refine qv ?_|apply qn|apply qs|apply qr|refine qw ?_|refine AJ rfl ?_|(refine AD rfl ?_ ?_<;>intro _<;>try(exfalso; omega))|apply qb|apply qk|apply qx|(refine AG rfl rfl ?_ ?_<;>intro _<;>try(exfalso; omega)));refine LoopEnd.of (8,7,false,1,[⟨0,0,1,0⟩]) (.inr (.inr (.inl ⟨by omega,by omega,rfl,rfl,rfl,rfl⟩))) (by simp) ?_;refine Ent.of [] ?_ ?_ rfl rfl;(repeat' first|exact True.intro|refine⟨⟨AA _,rfl⟩,?_⟩|refine⟨⟨⟨_,rfl,BLe.cells (AB _)⟩,rfl⟩,?_⟩|refine⟨⟨⟨_,rfl,BLe.row rfl⟩,rfl⟩,?_⟩|fail)
   ·(repeat' first|refine Bv rfl rfl rfl rfl rfl ?_|refine qv ?_|apply qn|apply qs|apply qr|refine Fl.skip rfl rfl ?_|refine AF rfl ?_|(refine AD rfl ?_ ?_<;>intro _<;>try(exfalso; omega))|apply qb|apply qk|(refine AG rfl rfl ?_ ?_<;>intro _<;>try(exfalso; omega)));refine Fl.sSub rfl rfl rfl rfl rfl rfl rfl s3 (by decide) (by decide) (by omega) ?_;refine Fl.call rfl i2 rfl rfl rfl (AB _) ?_;refine ql eIz [⟨3,0,0,0⟩] ?_;refine qa (hby:=(by simp)) (hm:=(by simp)) (r:=?_);(repeat' first|refine qv ?_|apply qn|refine Fl.nil (fun _=>by kernel_rfl) ?_|apply qr|refine qw ?_|refine qe ?_|fail);refine LoopEnd.of (9,9,false,1,[⟨0,0,1,0⟩,⟨3,0,0,0⟩]) (.inr (.inr (.inr ⟨rfl,rfl,rfl,rfl⟩))) (by simp) ?_;refine Ent.of [(806,47)] ?_ ?_ rfl rfl;(repeat' first|exact True.intro|refine⟨⟨AA _,rfl⟩,?_⟩|refine⟨⟨⟨_,rfl,BLe.cells (AB _)⟩,rfl⟩,?_⟩|refine⟨⟨⟨_,rfl,BLe.row rfl⟩,rfl⟩,?_⟩|fail)
  ·(repeat'(first|refine Bv rfl rfl rfl rfl rfl ?_|refine qv ?_|apply qn|apply qs|apply qr|(refine AD rfl ?_ ?_<;>intro _<;>try(exfalso; omega))|apply qx));refine⟨?_⟩;refine AY (Ent.freeze 806 rfl) ?_;(repeat' first|refine qv ?_|apply qs|apply qr);refine Fl.call rfl cv rfl rfl rfl (AB _) ?_;(repeat' first|refine qv ?_|fail);refine Fl.call rfl ct rfl rfl rfl (AB _) ?_;(repeat' first|refine qv ?_|apply qn|apply qs|apply qr|refine qe ?_|apply qk|apply qt|(refine BQ rfl ?_ ?_<;>intro _))
   ·rename_i hne;rw[beq_self_eq_true]at hne
    cases hne
   ·exact RetOk.of rfl (AA _)
theorem law14One_ok:PureFn Tryz.prog 55 [] (aMz m14):=by
 refine AC Tryz.func55 rfl Tryz.ntmps55 rfl rfl ?_;(repeat' first|apply qn|apply qs|apply qr|refine qe ?_|fail);refine qc (r13Parse_ok) ?_;(repeat' first|refine qv ?_|apply qn|apply qs|apply qr|refine qe ?_|apply qt);exact RetOk.of rfl (AA _)
end Go.Proofs.YtmmfloplhopioaaGreat
/- ref01: SameAll. -/
namespace Go.AL
end Go.AL
namespace Go.Proofs.YtmmfloplhopioaaGreat
open Go.AL
end Go.Proofs.YtmmfloplhopioaaGreat
/- ref01: Under, Small; mask.Witness where there is none. -/
namespace Go.AL
theorem and63 {u:Int} (h0:0≤u):bitN .and u 9223372036854775807=u % 9223372036854775808:=by
 show((u.toNat &&& (9223372036854775807:Int).toNat:Nat):Int)=_;rw[show(9223372036854775807:Int).toNat=2^63-1 from rfl,Nat.and_two_pow_sub_one_eq_mod];omega
end Go.AL
namespace Go.Proofs.YtmmfloplhopioaaGreat
open Go.AL
theorem rSmallN_ok (x:Int) (hx:0≤x) (hl:x<9223372036854775808):PureFn Tryz.prog 31 [aX x] (.tup [aN x,aB true]):=by
 refine AC Tryz.func31 rfl Tryz.ntmps31 rfl rfl ?_
 have ex:((x.natAbs:Nat):Int)=x:=by omega
 have wx:=Ag x;have hsx:=Ad hx;have hlen:(toW x).length≤2:=(BS hx 2).2 (by rw[BB_2]; omega);show AWP _ _ _ _ _ (Dn [.agg [aB (decide (x<0)),aW (toW x.natAbs)]]);rw[ex]
 generalize hA:toW x=A at *
 refine AE ?_;(repeat' first|refine qv ?_|apply qn|apply qr|refine qe ?_|fail);refine⟨AE ?_⟩;(repeat' first|refine qv ?_|apply qn|apply qr);refine⟨Cj (G:=Unit) (fun _=>True) (fun _=>AO [] [(1,.ptr 1 0),(4,aU x)] [(1,.cells [aB (decide (x<0)),aW A] 48)]) ?_ ?_⟩
 ·(repeat'(first|refine qv ?_|apply qn|apply qs|apply qr|apply qb));refine AWP.loop (G:=Nat×Int) (fun(i,u)=>i≤A.length∧u=val (A.take i)∧0≤u∧u<18446744073709551616) (fun(i,u)=>AO [] [(1,.ptr 1 0),(4,aU u),(5,aN i)] [(1,.cells [aB (decide (x<0)),aW A] 48)]) (fun(i,u)=>A.length-i) (0,0) ⟨by omega,by simp[val],by omega,by omega⟩ ?_ ?_
  ·refine Ent.of [] ?_ ?_ rfl rfl;(repeat' first|exact True.intro|refine⟨⟨AA _,rfl⟩,?_⟩|refine⟨⟨⟨_,rfl,BLe.cells (AB _)⟩,rfl⟩,?_⟩|fail)
  ·intro⟨i,u⟩ ⟨h0,h1,h2,h3⟩;(repeat' first|refine qv ?_|apply qn|apply qs|apply qr|refine qw ?_|(refine AD rfl ?_ ?_<;>intro _<;>try(exfalso; omega))|apply qb|apply qk|apply qx|(refine CJ rfl rfl rfl rfl rfl rfl rfl rfl (by omega) (by omega) (by assumption) ?_; intro _ _ _ _)|refine Fl.sumM rfl rfl rfl rfl rfl rfl ?_)
   ·rename_i hi hi2 w hw hw0 hw1;rw[Int.toNat_natCast]at hw;have hst:=Ae hw;have hbd:=Er (k:=i+1) wx (by have:=(List.getElem?_eq_some_iff.1 hw).1; omega);have hb2:BB (i+1)≤BB 2:=C4 (by omega);rw[BB_2]at hb2
    have hsh:w*2^(32*(i:Int)).toNat % 18446744073709551616=BB i*w:=by
     rcases(show i=0∨i=1 by omega)with rfl|rfl
     ·rw[CK]; show w*1 % _=_; omega
     ·rw[Ax,CK]; show w*4294967296 % _=_; omega
    refine LoopEnd.of (i+1,u+BB i*w) ⟨by omega,by rw[hst,h1],by omega,by omega⟩ (by simp only; omega) ?_;refine Ent.of [] ?_ ?_ rfl rfl;(repeat' first|exact True.intro|refine⟨⟨AA _,rfl⟩,?_⟩|refine⟨⟨⟨_,rfl,BLe.cells (AB _)⟩,rfl⟩,?_⟩|refine⟨⟨AV.Le.int ?_,rfl⟩,?_⟩|fail);rw[hsh];omega
   ·rename_i hi;refine JoinOk.of () trivial ?_;refine Ent.of [] ?_ ?_ rfl rfl;(repeat' first|exact True.intro|refine⟨⟨AA _,rfl⟩,?_⟩|refine⟨⟨⟨_,rfl,BLe.cells (AB _)⟩,rfl⟩,?_⟩|refine⟨⟨AV.Le.int ?_,rfl⟩,?_⟩|fail);rw[h1,List.take_of_length_le (by omega),hsx]
 ·intro _ _;(repeat' first|refine qv ?_|apply qn|apply qs|apply qr|refine qw ?_|(refine AQ rfl ?_ ?_<;>intro _<;>try(exfalso; omega))|apply qt|refine Fl.cvS rfl rfl rfl rfl rfl rfl ?_);refine RetOk.of rfl ?_;refine AV.Le.tup (LeL.cons (AV.Le.int ?_) (LeL.cons (AV.Le.bool ?_) LeL.nil))
  ·rw[and63 hx];omega
  ·exact decide_eq_true hl
end Go.Proofs.YtmmfloplhopioaaGreat
/- Binomial coefficients: plain. -/
namespace Go.AL
def ch:Nat→Nat→Nat
  | _,0=>1
  | 0,_+1=>0
  | n+1,k+1=>ch n k+ch n (k+1)
end Go.AL
/- Digits of binomial coefficients under digits: plain. -/
namespace Go.AL
end Go.AL
/- MaskOnly, MaskFound. -/
namespace Go.AL
theorem toW_small {x:Nat} (h:x<4294967296):(toW (x:Int)).length≤1:=(BS (by omega) 1).2 (by rw[Ax,CK]; omega)
end Go.AL
namespace Go.Proofs.YtmmfloplhopioaaGreat
open Go.AL
end Go.Proofs.YtmmfloplhopioaaGreat
/- The law's awake: the history of a known run. -/
namespace Go.AL
theorem RunTo.run {m:MZ} {x:List Int} {n k:Nat} (h:RunTo m x n k) (hm:OkMZ m) (ho:m.mach.op (m.mach.F (inF x) k).1=3):m.mach.Run (inF x) k (fun t=>(m.mach.F (inF x) t).1) (fun t=>(m.mach.F (inF x) t).2):=Mach.F_run hm.mach h.go ho
theorem hist_hol {m:MZ} {x:List Int} {n k:Nat} (h:RunTo m x n k) (hm:OkMZ m) (hx:OkIn m x) (ho:m.mach.op (m.mach.F (inF x) k).1=3):∀l∈(hsS m x).links,HoL (hL m x k) l:=hs_there hm hx (h.run hm ho)
theorem hs_ok {m:MZ} {x:List Int} (hm:OkMZ m) (hx:OkIn m x):OkS (hsS m x):=by
 refine⟨by show(0:Int)≤(m.V:Int); omega,by have:=hm.V32; show(m.V:Int)≤20000; omega,?_,fun l hl=>?_⟩
 ·have g:=go_len (m:=m) m.l;have h15:=hm.l15;have h4:=hm.r4;have hR:=Cm hm;rw[List.length_flatMap]at g;simp only[hsS,hsK,hsA,hsC,List.length_map,List.length_append,List.length_range,List.length_cons,List.length_nil,List.length_flatMap]at g ⊢;omega
 ·obtain⟨k,hk,rfl⟩:=List.mem_map.1 hl;exact((DC hm hx k hk).ok (by have:=hm.V32; omega)).1
end Go.AL
namespace Go.Proofs.YtmmfloplhopioaaGreat
open Go.AL
theorem m14_ok:OkMZ m14:=⟨by decide,by decide,by decide,by decide,fun i hi=>by
  have hi:i<2:=hi;rcases(show i=0∨i=1 by omega)with rfl|rfl
  ·exact .inr ⟨by decide,by decide,.inr ⟨.inl rfl,rfl⟩⟩
  ·exact .inl rfl⟩
theorem m14_in:OkIn m14 [0]:=⟨rfl,by decide⟩
theorem m14_run:RunTo m14 [0] 9 1:=⟨by decide,fun t ht=>by
 have:t=0:=by omega
 subst this
 decide,.inr (by decide)⟩
theorem m14_hL:hL m14 [0] 1=[1,8,17,1,16,16,1]:=by decide
theorem m14_fit:∀y∈hL m14 [0] 1,Fit y:=fun y hy=>by
 rw[m14_hL]at hy;refine fit_pow (e:=5) ?_ (by omega);simp only[List.mem_cons,List.not_mem_nil,or_false]at hy;rcases hy with rfl|rfl|rfl|rfl|rfl|rfl|rfl<;>decide
theorem m14_holds:PureFn Tryz.prog 30 [aS (hsS m14 [0]),.sl 2 eX [1,8,17,1,16,16,1]] (.tup [aB true,aN 0]):=by
 have h:=Holds_yes (hsS m14 [0]) (hL m14 [0] 1) (hsS_w m14_ok m14_in) (hs_ok m14_ok m14_in) m14_fit (by rw[m14_hL]; rfl) (histL_nn _ _ _) (hist_ev m14_ok m14_in (by omega) (fun t j ht=>by
  have:=(m14.mach).F_le (x:=inF [0]) j t;have:=inF_le m14_in j
  omega) (by decide)) (hist_hol m14_run m14_ok m14_in (by decide))
 rw[m14_hL]at h;exact h
theorem m14_encode:PureFn Tryz.prog 13 [aMz m14,aI [0],aN 9] (.tup [.sl 2 eX [1,8,17,1,16,16,1],aN 0]):=by
 have hE:=encode_ok m14 m14_ok [0] m14_in 1 (by decide) (by decide) m14_run.go true ⟨fun _=>m14_fit,fun _=>rfl⟩;have h:=hEncode_ev m14 m14_ok [0] m14_in 9 1 (by decide) m14_run (by decide) hE true 0 (by rw[m14_hL]; exact m14_holds);rw[m14_hL]at h;exact h
theorem FO:PureFn Tryz.prog 22 [] (aB true):=by
 refine AC Tryz.func22 rfl Tryz.ntmps22 rfl rfl ?_;have c1:=m14_encode;have c2:=hSystem_ok m14 [0] m14_ok m14_in;have c3:=m14_holds;have s1:=D0 17 17 (by have:=toW_small (x:=17) (by decide); simpa using Nat.le_trans this (by decide));have s2:=D0 16 16 (by have:=toW_small (x:=16) (by decide); simpa using Nat.le_trans this (by decide));have s3:=D0 1 1 (by have:=toW_small (x:=1) (by decide); simpa using Nat.le_trans this (by decide));obtain⟨L,hL⟩:∃L:List Int,L=[1,8,17,1,16,16,1]:=⟨_,rfl⟩
 have hl:L.length=7:=by rw[hL]; rfl
 have g2:L[Int.toNat 2]? = some 17:=by rw[hL]; rfl
 have g5:L[Int.toNat 5]? = some 16:=by rw[hL]; rfl
 have g6:L[Int.toNat 6]? = some 1:=by rw[hL]; rfl
 rw[←hL]at c1 c3
 generalize hsS m14 [0]=S at *
 clear hL;refine AE ?_;(repeat' first|refine qv ?_|apply qn|apply qr);refine⟨AE ?_⟩;(repeat' first|apply qr);refine qc (law14One_ok) ?_;refine ql eI [0] ?_;refine qc (c1) ?_;(repeat' first|refine qv ?_|apply qn);refine⟨AE ?_⟩;(repeat' first|apply qr);refine qc (law14One_ok) ?_;refine ql eI [0] ?_;refine qc (c2) ?_;(repeat' first|refine qv ?_|apply qn|refine qe ?_|fail);refine⟨AE ?_⟩;(repeat' first|refine qv ?_|apply qr);refine qc (c3) ?_;(repeat' first|refine qv ?_|apply qn);refine⟨?_⟩;(repeat' first|refine qv ?_|apply qs|apply qr|refine qK ?_|(refine AG rfl rfl ?_ ?_<;>intro _<;>try(exfalso; omega)));refine qc (Bs 17 (by omega) (by omega)) ?_;refine qc (s1) ?_;(repeat' first|refine qv ?_|refine qK ?_|(refine AG rfl rfl ?_ ?_<;>intro _<;>try(exfalso; omega)));refine qc (Bs 16 (by omega) (by omega)) ?_;refine qc (s2) ?_;(repeat' first|refine qv ?_|refine qK ?_|(refine AG rfl rfl ?_ ?_<;>intro _<;>try(exfalso; omega)));refine qc (Bs 1 (by omega) (by omega)) ?_;refine qc (s3) ?_;(repeat' first|refine qv ?_|refine Fl.nil (fun _=>by kernel_rfl) ?_|apply qt);exact RetOk.of rfl (AA _)
end Go.Proofs.YtmmfloplhopioaaGreat
/- HistoryOnly. -/
namespace Go.AL
theorem histL_congr {m:MZ} {x:List Int} {s:Nat} {pl pl':Nat→Nat} {r r':Nat→Nat→Nat} (h:∀t,t≤s→pl t=pl' t∧∀j,j<m.R→r t j=r' t j):BD m x s pl r=BD m x s pl' r':=by
 have hl1:=Ca (m:=m) (x:=x) s pl r;have hl2:=Ca (m:=m) (x:=x) s pl' r';obtain⟨a0,a1,a2,a3,a4,a5⟩:=Cq (m:=m) (x:=x) s pl r;obtain⟨b0,b1,b2,b3,b4,b5⟩:=Cq (m:=m) (x:=x) s pl' r';refine ext_getD (by omega) fun k hk=>?_;rw[hl1]at hk;have hVe:m.V=3+m.l+2*m.R:=rfl;rcases(show k=0∨k=1∨k=2∨(3≤k∧k<3+m.l)∨(3+m.l≤k∧k<3+m.l+m.R)∨3+m.l+m.R≤k by omega)with rfl|rfl|rfl|⟨h1,h2⟩|⟨h1,h2⟩|h1
 ·rw[a0,b0]
 ·rw[a1,b1]
 ·rw[a2,b2]
 ·obtain⟨i,rfl⟩:∃i,k=3+i:=⟨k-3,by omega⟩;rw[a3 i (by omega),b3 i (by omega),CO (d:=plD pl i) (e:=plD pl' i) fun t ht=>by unfold plD; rw[(h t (by omega)).1]]
 ·obtain⟨j,rfl⟩:∃j,k=3+m.l+j:=⟨k-(3+m.l),by omega⟩;rw[a4 j (by omega),b4 j (by omega),CO (d:=fun t=>r t j) (e:=fun t=>r' t j) fun t ht=>(h t (by omega)).2 j (by omega)]
 ·obtain⟨j,rfl⟩:∃j,k=3+m.l+m.R+j:=⟨k-(3+m.l+m.R),by omega⟩;rw[a5 j (by omega),b5 j (by omega),(h s (Nat.le_refl _)).2 j (by omega)]
theorem fit_pow_lt {k:Nat} (h:Fit ((2^k:Nat):Int)):k<131072:=by
 rcases Nat.lt_or_ge k 131072 with h1|h1
 ·exact h1
 ·exact absurd h (not_fit_pow (e:=k) (by rw[Int.natAbs_natCast]; exact Nat.le_refl _) h1)
structure Sol (m:MZ) (x X:List Int) (s:Nat):Prop where
  eq:X=hL m x s
  run:RunTo m x s s
  halt:m.mach.op (m.mach.F (inF x) s).1=3
  b1:(s+(addZ m x).toNat+1)*s+1≤131072
  b2:s+(addZ m x).toNat+1≤131072
theorem sol_of {m:MZ} {x X:List Int} (hm:OkMZ m) (hx:OkIn m x) (hX:X.length=m.V) (hf:∀y∈X,Fit y) (h0:∀y∈X,0≤y) (h:∀l∈(hsS m x).links,HoL X l):∃s,Sol m x X s:=by
 obtain⟨pl,r,hr,hX2⟩:=hs_only hm hx hX h0 h;obtain⟨e1,e2,e3⟩:=Mach.run_F hm.mach hr
 generalize nX X 0=s at *
 have eq:X=hL m x s:=hX2.trans (histL_congr fun t ht=>⟨(e1 t ht).1,(e1 t ht).2⟩);have hVe:m.V=3+m.l+2*m.R:=rfl
 have hg:∀k,k<m.V→Fit (X.getD k 0):=fun k hk=>by
  rw[List.getD_eq_getElem?_getD,List.getElem?_eq_getElem (by omega)];exact hf _ (List.getElem_mem _)
 obtain⟨g0,g1,g2,g3,g4,g5⟩:=Cq (m:=m) (x:=x) s (fun t=>(m.mach.F (inF x) t).1) (fun t=>(m.mach.F (inF x) t).2);have f1:=hg 1 (by omega);have f2:=hg 2 (by omega);rw[eq,show hL m x s=BD m x s (fun t=>(m.mach.F (inF x) t).1) (fun t=>(m.mach.F (inF x) t).2) from rfl,g1]at f1;rw[eq,show hL m x s=BD m x s (fun t=>(m.mach.F (inF x) t).1) (fun t=>(m.mach.F (inF x) t).2) from rfl,g2]at f2;have k1:=fit_pow_lt f1
 have k2:(s+(addZ m x).toNat+1)*s<131072:=by
  refine fit_pow_lt (f2.le ?_);rw[Int.natAbs_natCast,Int.natAbs_natCast,DF,show 2*2^(s+(addZ m x).toNat)=2^(s+(addZ m x).toNat+1) by rw[Nat.pow_succ]; omega,←Nat.pow_mul];omega
 exact⟨s,eq,⟨Nat.le_refl _,e2,.inl rfl⟩,e3,by omega,by omega⟩
end Go.AL
namespace Go.Proofs.YtmmfloplhopioaaGreat
open Go.AL
end Go.Proofs.YtmmfloplhopioaaGreat
/- HistoryThere. -/
namespace Go.AL
end Go.AL
namespace Go.Proofs.YtmmfloplhopioaaGreat
open Go.AL
theorem r13SameInts_ok (a b:List Int) (ha:a.length≤1000000):PureFn Tryz.prog 40 [aI a,aI b] (aB (decide (a=b))):=by
 refine AC Tryz.func40 rfl Tryz.ntmps40 rfl rfl ?_;refine AE ?_;(repeat' first|refine qv ?_|apply qn|apply qr);refine⟨AE ?_⟩;(repeat' first|refine qv ?_|apply qn|apply qs|apply qr|(refine AQ rfl ?_ ?_<;>intro _<;>try(exfalso; omega))|apply qk|apply qt)
 ·rename_i h;exact RetOk.of rfl (AV.Le.bool (decide_eq_false fun e=>h (by rw[e])).symm)
 ·rename_i h;refine⟨AE ?_⟩;(repeat' first|refine qv ?_|apply qn|apply qs|apply qr|apply qb);refine AWP.loop (G:=Nat) (fun i=>i≤a.length∧∀k,k<i→a[k]? = b[k]?) (fun i=>AO [] [(0,aI a),(1,aI b),(5,aN i)] []) (fun i=>a.length-i) 0 ⟨by omega,fun k hk=>by omega⟩ ?_ ?_
  ·refine Ent.of [] ?_ ?_ rfl rfl;(repeat' first|exact True.intro|refine⟨⟨AA _,rfl⟩,?_⟩|fail)
  ·intro i ⟨k0,k1⟩;refine AE ?_;(repeat' first|refine qv ?_|apply qn|apply qs|apply qr|(refine AD rfl ?_ ?_<;>intro _<;>try(exfalso; omega))|apply qk|apply qx)
   ·rename_i hi;obtain⟨u,hu⟩:∃u,a[i]? = some u:=⟨_,List.getElem?_eq_getElem (by omega)⟩;obtain⟨v,hv⟩:∃v,b[i]? = some v:=⟨_,List.getElem?_eq_getElem (by omega)⟩
    have hu':a[Int.toNat (i:Int)]? = some u:=by rw[Int.toNat_natCast]; exact hu
    have hv':b[Int.toNat (i:Int)]? = some v:=by rw[Int.toNat_natCast]; exact hv
    refine⟨?_⟩;(repeat' first|refine qv ?_|apply qn|refine Fl.nil (fun _=>by kernel_rfl) ?_|apply qs|apply qr|refine qw ?_|(refine AQ rfl ?_ ?_<;>intro _<;>try(exfalso; omega))|apply qb|apply qk|apply qt|refine qK ?_|fail)
    ·rename_i hne;exact RetOk.of rfl (AV.Le.bool (decide_eq_false fun e=>hne (by rw[e,hv]at hu; injection hu with hu; exact hu.symm)).symm)
    ·rename_i he;refine LoopEnd.of (i+1) ⟨by omega,fun k hk=>?_⟩ (by omega) ?_
     ·rcases(show k<i∨k=i by omega)with h'|h'
      ·exact k1 k h'
      ·rw[h', hu,hv,he]
     ·refine Ent.of [] ?_ ?_ rfl rfl;(repeat' first|exact True.intro|refine⟨⟨AA _,rfl⟩,?_⟩|fail)
   ·rename_i hi;refine⟨?_⟩;(repeat' first|refine qv ?_|apply qn|apply qs|apply qr|apply qt);refine RetOk.of rfl (AV.Le.bool (decide_eq_true ?_).symm);refine List.ext_getElem? fun k=>?_;by_cases hk:k<a.length
    ·exact k1 k (by omega)
    ·rw[List.getElem?_eq_none (by omega),List.getElem?_eq_none (by omega)]
theorem r13SameState_ok (a b:Int) (rs ss:List Int) (hr:rs.length≤1000000):PureFn Tryz.prog 37 [aSt a rs,aSt b ss] (aB (decide (a=b)&&decide (rs=ss))):=by
 refine AC Tryz.func37 rfl Tryz.ntmps37 rfl rfl ?_;have h:=r13SameInts_ok rs ss hr;by_cases e:a=b
 ·rw[decide_eq_true e,Bool.true_and];(repeat' first|refine qv ?_|apply qn|apply qs|apply qr|refine qe ?_|(refine AG rfl rfl ?_ ?_<;>intro _<;>try(exfalso; omega)));refine qc (h) ?_;(repeat' first|refine qv ?_|apply qn|apply qt);exact RetOk.of rfl (AA _)
 ·rw[decide_eq_false e,Bool.false_and];(repeat' first|refine qv ?_|apply qn|apply qs|apply qr|refine qe ?_|refine Fl.skip rfl rfl ?_|apply qt|(refine AG rfl rfl ?_ ?_<;>intro _<;>try(exfalso; omega)));exact RetOk.of rfl (AA _)
end Go.Proofs.YtmmfloplhopioaaGreat
/- What Encode returns of a run that stops. -/
namespace Go.AL
theorem HB.fit {m:MZ} {X:List Int} {Q I:Int} {e:Nat} (h:HB m X Q I (2^e:Nat)) (he:e≤131040):∀y∈X,Fit y:=by
 intro y hy;obtain⟨w1,w2,w3⟩:=h.le;have i1:=h.i1;have hVe:m.V=3+m.l+2*m.R:=rfl;obtain⟨k,hk,rfl⟩:=List.mem_iff_getElem.1 hy;have hl:=h.len
 have e1:X[k]=X.getD k 0:=by rw[List.getD_eq_getElem?_getD,List.getElem?_eq_getElem hk]; rfl
 have h0:=h.nn _ hy
 have hb:X.getD k 0≤4096*((2^e:Nat):Int):=by
  rcases(show k=0∨k=1∨k=2∨(3≤k∧k<3+m.l)∨(3+m.l≤k∧k<3+m.l+m.R)∨3+m.l+m.R≤k by omega)with rfl|rfl|rfl|⟨h1,h2⟩|⟨h1,h2⟩|h1
  ·have:=h.x0; omega
  ·have:=h.x1; omega
  ·have:=h.x2; omega
  ·have:=h.xl (k-3) (by omega);rw[show 3+(k-3)=k by omega]at this;omega
  ·have:=h.xr (k-(3+m.l)) (by omega);rw[show 3+m.l+(k-(3+m.l))=k by omega]at this;omega
  ·have:=h.xe (k-(3+m.l+m.R)) (by omega);rw[show 3+m.l+m.R+(k-(3+m.l+m.R))=k by omega]at this;omega
 refine fit_pow (e:=e+13) ?_ (by omega)
 have:2^(e+13)=8192*2^e:=by rw[Nat.pow_add]; exact Nat.mul_comm _ _
 rw[this,e1];rw[e1]at h0;have:1≤2^e:=Nat.one_le_two_pow;omega
end Go.AL
namespace Go.Proofs.YtmmfloplhopioaaGreat
open Go.AL
end Go.Proofs.YtmmfloplhopioaaGreat
/- HistoryThere. -/
namespace Go.Proofs.YtmmfloplhopioaaGreat
open Go.AL
inductive Law14 (m:MZ) (x:List Int):Prop
  | wide (h:PureFn Tryz.prog 21 [aMz m,aI x] (aB true))
  | bad (h:PureFn Tryz.prog 21 [aMz m,aI x] (aB false)) (e:Int) (he:e=1∨e=2) (h2:PureFn Tryz.prog 23 [aMz m,aI x] (aN e)) (h3:PureFn Tryz.prog 45 [aMz m,aI x] (.tup [szZero,aN e])) (h4:¬OkMZ m→e=1) (h5:OkMZ m→e=2∧¬OkIn m x) (hl:m.code.length≤100) (hx:x.length≤100)
  | good (h:PureFn Tryz.prog 21 [aMz m,aI x] (aB false)) (h2:PureFn Tryz.prog 23 [aMz m,aI x] (aN 0)) (hm:OkMZ m) (hx:OkIn m x)
theorem law14_cases (m:MZ) (x:List Int) (hml:m.code.length≤9223372036854775807) (hxl:x.length≤9223372036854775807):Law14 m x:=by
 by_cases hw:100<m.code.length∨100<x.length
 ·exact .wide (law14Wide_ok m x true ⟨fun _=>hw,fun _=>rfl⟩ hml hxl)
 ·have c1:=law14Wide_ok m x false (Iff.intro (fun k=>by cases k) fun k=>absurd k hw) hml hxl;by_cases k1:OkMZ m
  ·by_cases k2:OkIn m x
   ·exact .good c1 (FD m x (by omega) (by omega) 0 (fun k=>absurd k1 k) (fun _ k=>absurd k2 k) (fun _ _=>rfl)) k1 k2
   ·exact .bad c1 2 (.inr rfl) (FD m x (by omega) (by omega) 2 (fun q=>absurd k1 q) (fun _ _=>rfl) (fun _ q2=>absurd q2 k2)) (sizesOf_arg m x (by omega) k1 k2) (fun q=>absurd k1 q) (fun _=>⟨rfl,k2⟩) (by omega) (by omega)
  ·exact .bad c1 1 (.inl rfl) (FD m x (by omega) (by omega) 1 (fun _=>rfl) (fun q=>absurd q k1) (fun q=>absurd q k1)) (sizesOf_form m x (by omega) k1) (fun _=>rfl) (fun q=>absurd q k1) (by omega) (by omega)
theorem hL0 (m:MZ) (x:List Int) (s:Nat) (h6:6≤m.V):(hL m x s)[Int.toNat 0]? = some (s:Int):=by
 have h0:=(Cq (m:=m) (x:=x) s (fun t=>(m.mach.F (inF x) t).1) (fun t=>(m.mach.F (inF x) t).2)).1;have hlen:=Ca (m:=m) (x:=x) s (fun t=>(m.mach.F (inF x) t).1) (fun t=>(m.mach.F (inF x) t).2);rw[List.getD_eq_getElem?_getD,List.getElem?_eq_getElem (by omega)]at h0;show(hL m x s)[0]? = _;rw[List.getElem?_eq_getElem (by rw[show(hL m x s).length=m.V from hlen]; omega)];exact congrArg some h0
end Go.Proofs.YtmmfloplhopioaaGreat
/- The reference's runs: Copy, Start, Step, States. -/
namespace Go.Proofs.YtmmfloplhopioaaGreat
open Go.AL
theorem D1 (a:Int) (rs:List Int) (hl:rs.length≤100000):IoFn Tryz.prog 126 [aSt a rs] [] (.ret (.agg [aN a,.row 900])) [(900,.row 1 eI rs 3)]:=by
 refine AH Tryz.func126 rfl Tryz.ntmps126 rfl rfl rfl ?_;(repeat' first|refine qv ?_|apply qn|apply qs|apply qr|refine qe ?_|fail);refine Du rfl rfl rfl rfl rfl rfl rfl eI [] rfl rfl rfl rfl (by simp) (AB _) ?_;(repeat' first|refine qv ?_|fail);refine qa (hby:=(by dsimp only[List.length_nil]; omega)) (hm:=(by simp; omega)) (r:=?_);(repeat' first|refine Fl.nil (fun _=>by kernel_rfl) ?_|refine qe ?_|apply qt);exact⟨⟨[(900,8)],_,_,AM _ _ _,rfl,AA _,rfl,⟨⟨⟨_,rfl,BLe.row rfl⟩,rfl⟩,trivial⟩,rfl,rfl⟩⟩
theorem r13Start_ok (x:List Int) (hl:x.length≤100000):PureFn Tryz.prog 67 [aI x] (aSt 0 x):=by
 refine AC Tryz.func67 rfl Tryz.ntmps67 rfl rfl ?_;have h:=D1 0 x hl;(repeat' first|refine qv ?_|apply qn|apply qs|apply qr|refine qe ?_|fail);refine A9 rfl [(900,901)] h rfl rfl (AB _) rfl trivial rfl rfl rfl rfl rfl ?_;(repeat' first|apply qn|refine qe ?_|apply qt);refine Ao (Ent.freeze 901 rfl) ?_;exact RetOk.of rfl (AA _)
section
variable (m:MZ) (a:Nat) (rs:List Int) (z:IZ)
theorem r13Over_ok (hl:rs.length≤100000) (hz:m.code[Int.toNat (a:Int)]? = some z) (ha:a<m.code.length) (hrl:z.op=3∨(z.op=1∧0≤z.rg∧z.rg<rs.length∧rs[z.rg.toNat]? = some 0)):PureFn Tryz.prog 68 [aMz m,aSt a rs] (.tup [.agg [aN 0,.v (.slice none 0 0)],aN 5]):=by
 refine AC Tryz.func68 rfl Tryz.ntmps68 rfl rfl ?_;have h:=D1 a rs hl;rcases hrl with h3|⟨h1,h0,h2,hv⟩
 ·(repeat' first|refine qv ?_|apply qn|apply qs|apply qr|refine qe ?_|refine qK ?_|fail);refine A9 rfl [(900,901)] h rfl rfl (AB _) rfl trivial rfl rfl rfl rfl rfl ?_;(repeat' first|refine qv ?_|apply qn|refine Fl.nil (fun _=>by kernel_rfl) ?_|apply qs|apply qr|refine qe ?_|(refine AD rfl ?_ ?_<;>intro _<;>try(exfalso; omega))|apply qb|apply qt);exact RetOk.of rfl (AA _)
 ·(repeat' first|refine qv ?_|apply qn|apply qs|apply qr|refine qe ?_|refine qK ?_|fail);refine A9 rfl [(900,901)] h rfl rfl (AB _) rfl trivial rfl rfl rfl rfl rfl ?_;(repeat' first|refine Do rfl rfl rfl rfl rfl rfl rfl (fun _=>rfl) (fun _=>rfl) (by assumption) ?_|refine qv ?_|apply qn|refine Fl.nil (fun _=>by kernel_rfl) ?_|apply qs|apply qr|refine qe ?_|refine AJ rfl ?_|(refine AD rfl ?_ ?_<;>intro _<;>try(exfalso; omega))|apply qb|apply qt|refine A8 rfl rfl rfl rfl rfl rfl rfl rfl (by omega) (by first|omega|(simp; omega)) ?_|fail);exact RetOk.of rfl (AA _)
variable (v:Int)
theorem r13Inc_ok (hl:rs.length≤100000) (hz:m.code[Int.toNat (a:Int)]? = some z) (ha:a<m.code.length) (ho:z.op=0) (hrl:0≤z.rg∧z.rg<rs.length) (hv:rs[z.rg.toNat]? = some v) (h0:0≤v) (h1:v<1000000000):PureFn Tryz.prog 68 [aMz m,aSt a rs] (.tup [aSt z.nx (rs.set z.rg.toNat (v+1)),aN 0]):=by
 refine AC Tryz.func68 rfl Tryz.ntmps68 rfl rfl ?_;have h:=D1 a rs hl
 have hv2:(rs.set z.rg.toNat (v+1))[z.rg.toNat]? = some (v+1):=by rw[List.getElem?_set,if_pos rfl,if_pos (by omega)]
 have hl2:(rs.set z.rg.toNat (v+1)).length=rs.length:=List.length_set;(repeat' first|refine qv ?_|apply qn|apply qs|apply qr|refine qe ?_|refine qK ?_|fail);refine A9 rfl [(900,901)] h rfl rfl (AB _) rfl trivial rfl rfl rfl rfl rfl ?_;(repeat' first|refine Do rfl rfl rfl rfl rfl rfl rfl (fun _=>rfl) (fun _=>rfl) (by assumption) ?_|refine qv ?_|apply qn|refine Fl.nil (fun _=>by kernel_rfl) ?_|apply qs|apply qr|refine qw ?_|refine qe ?_|(refine AD rfl ?_ ?_<;>intro _<;>try(exfalso; omega))|apply qb|apply qk|apply qt|refine A8 rfl rfl rfl rfl rfl rfl rfl rfl (by omega) (by first|omega|(simp; omega)) ?_|refine Bb rfl rfl rfl rfl rfl rfl rfl rfl rfl rfl rfl (AB _) rfl (by first|omega|(simp; omega)) ?_|fail);refine Ao (Ent.freeze 901 rfl) ?_;exact RetOk.of rfl (AA _)
theorem r13Dec_ok (hl:rs.length≤100000) (hz:m.code[Int.toNat (a:Int)]? = some z) (ha:a<m.code.length) (ho:z.op=1) (hrl:0≤z.rg∧z.rg<rs.length) (hv:rs[z.rg.toNat]? = some v) (h0:0<v) (h1:v<1000000000):PureFn Tryz.prog 68 [aMz m,aSt a rs] (.tup [aSt z.nx (rs.set z.rg.toNat (v-1)),aN 0]):=by
 refine AC Tryz.func68 rfl Tryz.ntmps68 rfl rfl ?_;have h:=D1 a rs hl;(repeat' first|refine qv ?_|apply qn|apply qs|apply qr|refine qe ?_|refine qK ?_|fail);refine A9 rfl [(900,901)] h rfl rfl (AB _) rfl trivial rfl rfl rfl rfl rfl ?_;(repeat' first|refine Do rfl rfl rfl rfl rfl rfl rfl (fun _=>rfl) (fun _=>rfl) (by assumption) ?_|refine qv ?_|apply qn|refine Fl.nil (fun _=>by kernel_rfl) ?_|apply qs|apply qr|refine qw ?_|refine qe ?_|(refine AD rfl ?_ ?_<;>intro _<;>try(exfalso; omega))|apply qb|apply qk|apply qt|refine A8 rfl rfl rfl rfl rfl rfl rfl rfl (by omega) (by first|omega|(simp; omega)) ?_|refine Bb rfl rfl rfl rfl rfl rfl rfl rfl rfl rfl rfl (AB _) rfl (by first|omega|(simp; omega)) ?_|fail);refine Ao (Ent.freeze 901 rfl) ?_;exact RetOk.of rfl (AA _)
theorem r13Jmp_ok (hl:rs.length≤100000) (hz:m.code[Int.toNat (a:Int)]? = some z) (ha:a<m.code.length) (ho:z.op=2) (hrl:0≤z.rg∧z.rg<rs.length) (hv:rs[z.rg.toNat]? = some v):PureFn Tryz.prog 68 [aMz m,aSt a rs] (.tup [aSt (if v=0 then z.zr else z.nx) rs,aN 0]):=by
 refine AC Tryz.func68 rfl Tryz.ntmps68 rfl rfl ?_;have h:=D1 a rs hl;by_cases e:v=0
 ·rw[if_pos e];(repeat' first|refine qv ?_|apply qn|apply qs|apply qr|refine qe ?_|refine qK ?_|fail);refine A9 rfl [(900,901)] h rfl rfl (AB _) rfl trivial rfl rfl rfl rfl rfl ?_;(repeat' first|refine Do rfl rfl rfl rfl rfl rfl rfl (fun _=>rfl) (fun _=>rfl) (by assumption) ?_|refine qv ?_|apply qn|refine Fl.nil (fun _=>by kernel_rfl) ?_|apply qs|apply qr|refine qe ?_|(refine AD rfl ?_ ?_<;>intro _<;>try(exfalso; omega))|apply qb|apply qt|refine A8 rfl rfl rfl rfl rfl rfl rfl rfl (by omega) (by first|omega|(simp; omega)) ?_|fail);refine Ao (Ent.freeze 901 rfl) ?_;exact RetOk.of rfl (AA _)
 ·rw[if_neg e];(repeat' first|refine qv ?_|apply qn|apply qs|apply qr|refine qe ?_|refine qK ?_|fail);refine A9 rfl [(900,901)] h rfl rfl (AB _) rfl trivial rfl rfl rfl rfl rfl ?_;(repeat' first|refine Do rfl rfl rfl rfl rfl rfl rfl (fun _=>rfl) (fun _=>rfl) (by assumption) ?_|refine qv ?_|apply qn|refine Fl.nil (fun _=>by kernel_rfl) ?_|apply qs|apply qr|refine qe ?_|(refine AD rfl ?_ ?_<;>intro _<;>try(exfalso; omega))|apply qb|apply qk|apply qt|refine A8 rfl rfl rfl rfl rfl rfl rfl rfl (by omega) (by first|omega|(simp; omega)) ?_|fail);refine Ao (Ent.freeze 901 rfl) ?_;exact RetOk.of rfl (AA _)
end
theorem r13Step_ok (m:MZ) (hm:OkMZ m) (x:Nat→Nat) (t:Nat) (ht:t≤1000000) (hx:∀j,x j≤1000) (hc:(m.mach.F x t).1<m.l):(m.mach.Over (m.mach.F x t)→PureFn Tryz.prog 68 [aMz m,aSt (m.mach.F x t).1 (rgL m.R (m.mach.F x t).2)] (.tup [.agg [aN 0,.v (.slice none 0 0)],aN 5]))∧(¬m.mach.Over (m.mach.F x t)→PureFn Tryz.prog 68 [aMz m,aSt (m.mach.F x t).1 (rgL m.R (m.mach.F x t).2)] (.tup [aSt (m.mach.F x (t+1)).1 (rgL m.R (m.mach.F x (t+1)).2),aN 0])):=by
 have hI:=Dt hm hc
 have hz:m.code[Int.toNat (((m.mach.F x t).1:Nat):Int)]? = some (m.at (m.mach.F x t).1):=by rw[Int.toNat_natCast]; exact Em hc
 obtain⟨z,ez⟩:∃z,z=m.at (m.mach.F x t).1:=⟨_,rfl⟩
 have eo:m.mach.op (m.mach.F x t).1=z.op.toNat:=by rw[ez]; rfl
 have er:m.mach.rg (m.mach.F x t).1=z.rg.toNat:=by rw[ez]; rfl
 have en:m.mach.nx (m.mach.F x t).1=z.nx.toNat:=by rw[ez]; rfl
 have ezr:m.mach.zr (m.mach.F x t).1=z.zr.toNat:=by rw[ez]; rfl
 rw[←ez]at hI hz;have hR:=Cm hm;have hr4:=hm.r4
 have hRl:(rgL m.R (m.mach.F x t).2).length≤100000:=by rw[Bm]; omega
 rcases hI with k|⟨⟨k1,k2⟩,⟨k3,k3'⟩,k4⟩
 ·have h3:z.op=3:=by rw[k]; rfl
  exact⟨fun _=>r13Over_ok m _ _ z hRl hz hc (.inl h3),fun h=>absurd (.inl (by rw[eo,h3]; rfl)) h⟩
 ·have hrl:0≤z.rg∧z.rg<(rgL m.R (m.mach.F x t).2).length:=by rw[Bm]; exact⟨k1,k2⟩
  have hv:(rgL m.R (m.mach.F x t).2)[z.rg.toNat]? = some (((m.mach.F x t).2 z.rg.toNat:Nat):Int):=DI (by omega)
  have hbv:(m.mach.F x t).2 z.rg.toNat≤1001000:=by
   have:=m.mach.F_le (x:=x) z.rg.toNat t;have:=hx z.rg.toNat;omega
  rcases(show z.op=0∨z.op=1∨z.op=2 by omega)with h|h|h
  ·refine⟨fun ho=>?_,fun _=>?_⟩
   ·rcases ho with ho|⟨ho,_⟩
    ·rw[eo,h]at ho; cases ho
    ·rw[eo,h]at ho; cases ho
   ·obtain⟨f1,f2⟩:=F_inc (m:=m) (x:=x) (t:=t) (by rw[eo,h]; rfl) (by rw[er]; omega);have:=r13Inc_ok m _ _ z _ hRl hz hc h hrl hv (by omega) (by omega);rw[f1,f2,en,er,show((z.nx.toNat:Nat):Int)=z.nx by omega];exact this
  ·by_cases hp:(m.mach.F x t).2 z.rg.toNat=0
   ·refine⟨fun _=>r13Over_ok m _ _ z hRl hz hc (.inr ⟨h,hrl.1,hrl.2,by rw[hv,hp]; rfl⟩),fun ho=>absurd (.inr ⟨by rw[eo,h]; rfl,by rw[er]; exact hp⟩) ho⟩
   ·refine⟨fun ho=>?_,fun _=>?_⟩
    ·rcases ho with ho|⟨_,ho⟩
     ·rw[eo,h]at ho; cases ho
     ·rw[er]at ho; exact absurd ho hp
    ·obtain⟨f1,f2⟩:=F_dec (m:=m) (x:=x) (t:=t) (by rw[eo,h]; rfl) (by rw[er]; omega);have:=r13Dec_ok m _ _ z _ hRl hz hc h hrl hv (by omega) (by omega);rw[f1,f2,en,er,show((z.nx.toNat:Nat):Int)=z.nx by omega,show(((m.mach.F x t).2 z.rg.toNat-1:Nat):Int)=(((m.mach.F x t).2 z.rg.toNat:Nat):Int)-1 by omega];exact this
  ·refine⟨fun ho=>?_,fun _=>?_⟩
   ·rcases ho with ho|⟨ho,_⟩
    ·rw[eo,h]at ho; cases ho
    ·rw[eo,h]at ho; cases ho
   ·obtain⟨f1,f2⟩:=F_jmp (m:=m) (x:=x) (t:=t) (by rw[eo,h]; rfl);have:=r13Jmp_ok m _ _ z _ hRl hz hc h hrl hv;rw[f1,f2,en,er,ezr];by_cases e:(m.mach.F x t).2 z.rg.toNat=0
    ·rw[if_pos e,show((z.zr.toNat:Nat):Int)=z.zr by omega];rw[if_pos (by omega)]at this;exact this
    ·rw[if_neg e,show((z.nx.toNat:Nat):Int)=z.nx by omega];rw[if_neg (by omega)]at this;exact this
theorem r14States_ok (m:MZ) (hm:OkMZ m) (x:List Int) (hx:OkIn m x) (n k:Nat) (hn:n≤1000000) (hk:RunTo m x n k) (b:Bool) (hb:b=true↔m.mach.op (m.mach.F (inF x) k).1=3):PureFn Tryz.prog 26 [aMz m,aI x,aN n] (.tup [.sl 2 eSt (stL m x (k+1)),aB b]):=by
 refine AC Tryz.func26 rfl Tryz.ntmps26 rfl rfl ?_;have hkn:=hk.le;have hxl:=hx.1;have hr4:=hm.r4;have hR:=Cm hm;have cS:=r13Start_ok x (by omega);have hlt:=Mach.F_lt hm.mach (inF x) hk.go;have e0:rgL m.R (m.mach.F (inF x) 0).2=x:=inF_eq hx;have hc:=hlt k (Nat.le_refl _);have hI:=Dt hm hc;have hlt2:(m.mach.F (inF x) k).1<m.code.length:=hc;have hst1:(stF m x k).1=(((m.mach.F (inF x) k).1:Nat):Int):=rfl
 have hz:m.code[Int.toNat (stF m x k).1]? = some (m.at (m.mach.F (inF x) k).1):=by rw[hst1,Int.toNat_natCast]; exact Em hc
 have eo:m.mach.op (m.mach.F (inF x) k).1=(m.at (m.mach.F (inF x) k).1).op.toNat:=rfl;rw[eo]at hb
 have hop:(m.at (m.mach.F (inF x) k).1).op=3↔(m.at (m.mach.F (inF x) k).1).op.toNat=3:=by omega
 refine AE ?_;(repeat' first|refine qv ?_|apply qn|apply qr|refine qe ?_|fail);refine⟨AE ?_⟩;(repeat' first|refine qv ?_|apply qr);refine qc (cS) ?_;(repeat' first|apply qn|refine qe ?_|fail);refine⟨AE ?_⟩;(repeat' first|refine qv ?_|apply qr);refine Du rfl rfl rfl rfl rfl rfl rfl eSt [(0,x)] rfl rfl rfl rfl (by intro _ _; rfl) (AB _) ?_;(repeat' first|refine qv ?_|apply qn);refine⟨AE ?_⟩;(repeat' first|refine qv ?_|apply qn|apply qs|apply qr|apply qb);refine AWP.loop (G:=Nat) (fun i=>i≤k) (fun i=>AO [] [(2,aN n),(3,.ptr 3 0),(8,.ptr 8 0),(9,.row 9),(10,aN i)] [(3,.cells (eMz m) 24),(8,.cells (eSt (stF m x i)) 71),(9,.row 2 eSt (stL m x (i+1)) 71)]) (fun i=>k+1-i) 0 (by omega) ?_ ?_
 ·refine Ent.of [(9,16)] ?_ ?_ rfl rfl;(repeat' first|exact True.intro|refine⟨⟨AA _,rfl⟩,?_⟩|refine⟨⟨⟨_,rfl,BLe.cells (AB _)⟩,rfl⟩,?_⟩|refine⟨⟨⟨_,rfl,BLe.row ?_⟩,rfl⟩,?_⟩|refine⟨⟨⟨_,rfl,BLe.cells ?_⟩,rfl⟩,?_⟩|fail)
  ·exact LeL.cons (AA _) (LeL.cons (AP (congrArg (AV.sl 1 eI) e0.symm)) LeL.nil)
  ·show[(0,x)]=[stF m x 0];rw[stF,e0]; rfl
 ·intro i i0;have hll:=stL_len m x (i+1);obtain⟨so,sn⟩:=r13Step_ok m hm (inF x) i (by omega) (inF_le hx) (hlt i i0);by_cases hik:i<k
  ·have hs:=sn (hk.go i hik);(repeat' first|refine qv ?_|apply qn|apply qs|apply qr|(refine AD rfl ?_ ?_<;>intro _<;>try(exfalso; omega))|apply qb|apply qk);refine qc (hs) ?_;(repeat' first|refine qv ?_|apply qn|apply qs|apply qr|refine qe ?_|refine AF rfl ?_|apply qk);refine ql eSt [stF m x (i+1)] ?_;refine qa (hby:=(by dsimp only[List.length_nil,List.length_cons]; omega)) (hm:=(by simp; omega)) (r:=?_);(repeat' first|refine qv ?_|apply qn|apply qr|refine qw ?_|fail);refine LoopEnd.of (i+1) (by omega) (by omega) ?_;refine Ent.of [(9,34)] ?_ ?_ rfl rfl;(repeat' first|exact True.intro|refine⟨⟨AA _,rfl⟩,?_⟩|refine⟨⟨⟨_,rfl,BLe.cells (AB _)⟩,rfl⟩,?_⟩|refine⟨⟨⟨_,rfl,BLe.row ?_⟩,rfl⟩,?_⟩|fail);exact(stL_succ m x (i+1)).symm
  ·have hik:i=k:=by omega
   subst hik;by_cases hin:i<n
   ·have hs:=so (by
     rcases hk.stop with h|h
     ·omega
     ·exact h)
    (repeat' first|refine qv ?_|apply qn|apply qs|apply qr|(refine AD rfl ?_ ?_<;>intro _<;>try(exfalso; omega))|apply qb|apply qk);refine qc (hs) ?_;(repeat' first|refine qv ?_|apply qn|apply qs|apply qr|refine qe ?_|refine AJ rfl ?_|apply qx);refine⟨?_⟩;refine AY (Ent.freeze 9 rfl) ?_;(repeat' first|refine qv ?_|refine Fl.nil (fun _=>by kernel_rfl) ?_|apply qs|apply qr|apply qt|refine qK ?_|fail);exact RetOk.of rfl (AV.Le.tup (LeL.cons (AA _) (LeL.cons (AV.Le.bool (dec_of hb hop)) LeL.nil)))
   ·(repeat' first|refine qv ?_|apply qn|apply qs|apply qr|(refine AD rfl ?_ ?_<;>intro _<;>try(exfalso; omega))|apply qx);refine⟨?_⟩;refine AY (Ent.freeze 9 rfl) ?_;(repeat' first|refine qv ?_|refine Fl.nil (fun _=>by kernel_rfl) ?_|apply qs|apply qr|apply qt|refine qK ?_|fail);exact RetOk.of rfl (AV.Le.tup (LeL.cons (AA _) (LeL.cons (AV.Le.bool (dec_of hb hop)) LeL.nil)))
end Go.Proofs.YtmmfloplhopioaaGreat
namespace Go.AL
def addX (a b:List Int):List Int:=List.zipWith (· + ·) a b
def DY (l:List TZ) (t:TZ):List TZ:=l.map fun s=>⟨zOf (zval s.c*zval t.c),addX s.e t.e⟩
theorem addX_snoc {a b:List Int} {k:Nat} {x y:Int} (ha:a[k]? = some x) (hb:b[k]? = some y):addX (a.take (k+1)) (b.take (k+1))=addX (a.take k) (b.take k)++[x+y]:=by
 rw[Ab ha,Ab hb];unfold addX;rw[List.zipWith_append (by rw[List.length_take,List.length_take]; have:=(List.getElem?_eq_some_iff.1 ha).1; have:=(List.getElem?_eq_some_iff.1 hb).1; omega)];rfl
theorem addX_len (a b:List Int):(addX a b).length=min a.length b.length:=by simp[addX]
theorem timesT_snoc {l:List TZ} {i:Nat} {s t:TZ} (h:l[i]? = some s):DY (l.take (i+1)) t=DY (l.take i) t++[⟨zOf (zval s.c*zval t.c),addX s.e t.e⟩]:=by
 rw[Ab h]; simp[DY]
end Go.AL
namespace Go.Proofs.YtmmfloplhopioaaGreat
open Go.AL
set_option maxHeartbeats 1000000 in
theorem rTimes_ok (n:Nat) (hn:n≤1000) (l:List TZ) (t:TZ) (hl:l.length≤3000) (hlt:TermsOk n 10000 l) (ht:TermsOk n 10000 [t]) (h0:t.c.w.length≠0) (hne:l.length≠0):PureFn Tryz.prog 120 [aP ⟨n,l⟩,aT t] (aP ⟨n,DY l t⟩):=by
 refine AC Tryz.func120 rfl Tryz.ntmps120 rfl rfl ?_;have htc:=ht.c t (by simp);have hte:=ht.e t (by simp);have htm:=ht.m t (by simp);have hzero:=Cf t.c;rw[decide_eq_false h0]at hzero;(repeat' first|refine qv ?_|apply qn|apply qs|apply qr|refine qe ?_|apply qb)
 refine AWP.loop (G:=Nat) (fun i=>i≤l.length) (fun i=>match i with
  | 0=>AO [] [(2,.ptr 2 0),(3,.ptr 3 0),(4,.ptr 4 0),(5,.ptr 5 0),(6,aN 0)] [(2,.cells [aN n,.sl 3 eT l] 105),(3,.cells (eT t) 158),(4,.cells [aN 0,.v (.slice none 0 0)] 105),(5,.cells [aN n,.v (.slice none 0 0)] 105)]
  | i+1=>AO [] [(2,.ptr 2 0),(3,.ptr 3 0),(4,.ptr 4 0),(5,.ptr 5 0),(6,aN ((i+1:Nat):Int))] [(2,.cells [aN n,.sl 3 eT l] 105),(3,.cells (eT t) 158),(4,.cells [aN 0,.v (.slice none 0 0)] 105),(5,.cells [aN n,.row 700] 105),(700,.row 3 eT (DY (l.take (i+1)) t) 158)]) (fun i=>l.length-i) 0 (by omega) ?_ ?_
 ·refine Ent.of [] ?_ ?_ rfl rfl;(repeat' first|exact True.intro|refine⟨⟨AA _,rfl⟩,?_⟩|refine⟨⟨⟨_,rfl,BLe.cells (AB _)⟩,rfl⟩,?_⟩|fail)
 ·intro i hi
  cases i with
  | zero=>
   dsimp only;(repeat' first|refine qv ?_|apply qs|apply qr|(refine AG rfl rfl ?_ ?_<;>intro _<;>try(exfalso; omega)))
   ·rename_i hlt';obtain⟨s,hs⟩:∃s,l[0]? = some s:=⟨_,List.getElem?_eq_getElem (by omega)⟩;have hsm:=List.mem_of_getElem? hs;have hse:=hlt.e s hsm;have hsl:=hlt.m s hsm;have hsc:=hlt.c s hsm
    have htl:(DY (l.take 0) t).length=0:=by simp[DY]
    refine Fl.call rfl hzero rfl rfl rfl (AB _) ?_;(repeat' first|refine Fl.v rfl rfl rfl ?_|refine Fl.nilF ?_|refine Fl.b rfl rfl rfl rfl ?_|refine AJ rfl ?_|refine AF rfl ?_|refine AWP.skip ?_|fail);refine AWP.seq ?_;refine AWP.block ?_;refine AE ?_;(repeat' first|refine qv ?_|apply qn|apply qr|refine CH rfl rfl rfl rfl rfl rfl rfl rfl rfl rfl eI 0 (by exact AB _) (by rfl) (by first|omega|(dsimp only; omega)) (by first|omega|(dsimp only; omega)) (by first|omega|(dsimp only; omega)) ?_|fail);refine⟨AE ?_⟩;(repeat' first|refine qv ?_|apply qn|apply qs|apply qr|apply qb);refine AWP.loop (G:=Nat) (fun k=>k≤n) (fun k=>AO [] [(2,.ptr 2 0),(3,.ptr 3 0),(4,.ptr 4 0),(5,.ptr 5 0),(6,aN 0),(7,.row 27),(8,aN k)] [(2,.cells [aN n,.sl 3 eT l] 105),(3,.cells (eT t) 158),(4,.cells [aN 0,.v (.slice none 0 0)] 105),(5,.cells [aN n,.v (.slice none 0 0)] 105),(27,.row 1 eI (addX (s.e.take k) (t.e.take k)++List.replicate (n-k) 0) 3)]) (fun k=>n-k) 0 (by omega) ?_ ?_
    ·refine Ent.of [] ?_ ?_ rfl rfl;(repeat' first|exact True.intro|refine⟨⟨AA _,rfl⟩,?_⟩|refine⟨⟨⟨_,rfl,BLe.cells (AB _)⟩,rfl⟩,?_⟩|refine⟨⟨⟨_,rfl,BLe.row rfl⟩,rfl⟩,?_⟩|fail)
    ·intro k hk
     have hadl:(addX (s.e.take k) (t.e.take k)).length=k:=by rw[addX_len,List.length_take,List.length_take]; omega
     have hrl:(addX (s.e.take k) (t.e.take k)++List.replicate (n-k) 0).length=n:=by rw[List.length_append,hadl,List.length_replicate]; omega
     by_cases hkn:k<n
     ·obtain⟨x,hx⟩:∃x,s.e[k]? = some x:=⟨_,List.getElem?_eq_getElem (by omega)⟩;obtain⟨y,hy⟩:∃y,t.e[k]? = some y:=⟨_,List.getElem?_eq_getElem (by omega)⟩;have hxb:=hse.1.get hx;have hyb:=hte.1.get hy;(repeat' first|refine qv ?_|apply qn|refine Fl.nil (fun _=>by kernel_rfl) ?_|apply qs|apply qr|refine qw ?_|(refine AD rfl ?_ ?_<;>intro _<;>try(exfalso; omega))|apply qb|apply qk|refine qK ?_|refine A8 rfl rfl rfl rfl rfl rfl rfl rfl (by omega) (by first|omega|(simp; omega)) ?_|refine Bb rfl rfl rfl rfl rfl rfl rfl rfl rfl rfl rfl (AB _) rfl (by first|omega|(simp; omega)) ?_|fail);refine LoopEnd.of (k+1) (by omega) (by omega) ?_;refine Ent.of [] ?_ ?_ rfl rfl;(repeat' first|exact True.intro|refine⟨⟨AA _,rfl⟩,?_⟩|refine⟨⟨⟨_,rfl,BLe.cells (AB _)⟩,rfl⟩,?_⟩|refine⟨⟨⟨_,rfl,BLe.row ?_⟩,rfl⟩,?_⟩|fail);rw[addX_snoc hx hy];exact CP (by rw[hadl]; omega) (by omega) rfl
     ·(repeat'(first|refine qv ?_|apply qn|apply qs|apply qr|(refine AD rfl ?_ ?_<;>intro _<;>try(exfalso; omega))|apply qx));refine⟨?_⟩;refine AY (Ent.freeze 27 rfl) ?_
      have hkn':k=n:=by omega
      (repeat' first|refine qv ?_|apply qr|refine qK ?_|fail)
      have hfin:addX (s.e.take k) (t.e.take k)++List.replicate (n-k) 0=addX s.e t.e:=by
       rw[hkn', Nat.sub_self,List.replicate_zero,List.append_nil,List.take_of_length_le (by omega),List.take_of_length_le (by omega)]
      refine Fl.call rfl (rMul_ok (zval s.c) (zval t.c) (show lenI _≤_ by omega) (show lenI _≤_ by omega)) rfl rfl rfl (LeL.cons (AV.Le.agg (leZ (σ:=[]) hsc)) (LeL.cons (AV.Le.agg (leZ (σ:=[]) htc)) LeL.nil)) ?_;(repeat' first|refine qv ?_|refine qe ?_|fail);refine ql eT [⟨zOf (zval s.c*zval t.c),addX (s.e.take k) (t.e.take k)++List.replicate (n-k) 0⟩] ?_;refine Fl.ap0 rfl rfl rfl rfl rfl rfl rfl rfl eT rfl rfl (fun _=>rfl) (fun _=>rfl) (AA _) (by dsimp only[List.length_nil,List.length_cons]; omega) (by simp) ?_;(repeat' first|refine qv ?_|apply qn|refine Fl.nil (fun _=>by kernel_rfl) ?_|apply qr|refine qw ?_|refine qe ?_|fail);refine LoopEnd.of (0+1) (by omega) (by omega) ?_;refine Ent.of [(700,66)] ?_ ?_ rfl rfl;(repeat' first|exact True.intro|refine⟨⟨AA _,rfl⟩,?_⟩|refine⟨⟨⟨_,rfl,BLe.cells (AB _)⟩,rfl⟩,?_⟩|refine⟨⟨⟨_,rfl,BLe.row ?_⟩,rfl⟩,?_⟩|fail);rw[timesT_snoc hs,hfin]
      try rfl
  | succ i=>
   dsimp only;(repeat' first|refine qv ?_|apply qn|apply qs|apply qr|refine qe ?_|refine Fl.skip rfl rfl ?_|refine AF rfl ?_|apply qx|apply qt|(refine AG rfl rfl ?_ ?_<;>intro _<;>try(exfalso; omega)))
   ·rename_i hlt';obtain⟨s,hs⟩:∃s,l[(i+1)]? = some s:=⟨_,List.getElem?_eq_getElem (by omega)⟩;have hsm:=List.mem_of_getElem? hs;have hse:=hlt.e s hsm;have hsl:=hlt.m s hsm;have hsc:=hlt.c s hsm
    have htl:(DY (l.take (i+1)) t).length=(i+1):=by simp[DY]; omega
    refine Fl.call rfl hzero rfl rfl rfl (AB _) ?_;(repeat' first|refine Fl.v rfl rfl rfl ?_|refine Fl.nilF ?_|refine Fl.b rfl rfl rfl rfl ?_|refine AJ rfl ?_|refine AF rfl ?_|refine AWP.skip ?_|fail);refine AWP.seq ?_;refine AWP.block ?_;refine AE ?_;(repeat' first|refine qv ?_|apply qn|apply qr|refine CH rfl rfl rfl rfl rfl rfl rfl rfl rfl rfl eI 0 (by exact AB _) (by rfl) (by first|omega|(dsimp only; omega)) (by first|omega|(dsimp only; omega)) (by first|omega|(dsimp only; omega)) ?_|fail);refine⟨AE ?_⟩;(repeat' first|refine qv ?_|apply qn|apply qs|apply qr|apply qb);refine AWP.loop (G:=Nat) (fun k=>k≤n) (fun k=>AO [] [(2,.ptr 2 0),(3,.ptr 3 0),(4,.ptr 4 0),(5,.ptr 5 0),(6,aN ((i+1:Nat):Int)),(7,.row 27),(8,aN k)] [(2,.cells [aN n,.sl 3 eT l] 105),(3,.cells (eT t) 158),(4,.cells [aN 0,.v (.slice none 0 0)] 105),(5,.cells [aN n,.row 700] 105),(700,.row 3 eT (DY (l.take (i+1)) t) 158),(27,.row 1 eI (addX (s.e.take k) (t.e.take k)++List.replicate (n-k) 0) 3)]) (fun k=>n-k) 0 (by omega) ?_ ?_
    ·refine Ent.of [] ?_ ?_ rfl rfl;(repeat' first|exact True.intro|refine⟨⟨AA _,rfl⟩,?_⟩|refine⟨⟨⟨_,rfl,BLe.cells (AB _)⟩,rfl⟩,?_⟩|refine⟨⟨⟨_,rfl,BLe.row rfl⟩,rfl⟩,?_⟩|fail)
    ·intro k hk
     have hadl:(addX (s.e.take k) (t.e.take k)).length=k:=by rw[addX_len,List.length_take,List.length_take]; omega
     have hrl:(addX (s.e.take k) (t.e.take k)++List.replicate (n-k) 0).length=n:=by rw[List.length_append,hadl,List.length_replicate]; omega
     by_cases hkn:k<n
     ·obtain⟨x,hx⟩:∃x,s.e[k]? = some x:=⟨_,List.getElem?_eq_getElem (by omega)⟩;obtain⟨y,hy⟩:∃y,t.e[k]? = some y:=⟨_,List.getElem?_eq_getElem (by omega)⟩;have hxb:=hse.1.get hx;have hyb:=hte.1.get hy;(repeat' first|refine qv ?_|apply qn|refine Fl.nil (fun _=>by kernel_rfl) ?_|apply qs|apply qr|refine qw ?_|(refine AD rfl ?_ ?_<;>intro _<;>try(exfalso; omega))|apply qb|apply qk|refine qK ?_|refine A8 rfl rfl rfl rfl rfl rfl rfl rfl (by omega) (by first|omega|(simp; omega)) ?_|refine Bb rfl rfl rfl rfl rfl rfl rfl rfl rfl rfl rfl (AB _) rfl (by first|omega|(simp; omega)) ?_|fail);refine LoopEnd.of (k+1) (by omega) (by omega) ?_;refine Ent.of [] ?_ ?_ rfl rfl;(repeat' first|exact True.intro|refine⟨⟨AA _,rfl⟩,?_⟩|refine⟨⟨⟨_,rfl,BLe.cells (AB _)⟩,rfl⟩,?_⟩|refine⟨⟨⟨_,rfl,BLe.row rfl⟩,rfl⟩,?_⟩|refine⟨⟨⟨_,rfl,BLe.row ?_⟩,rfl⟩,?_⟩|fail);rw[addX_snoc hx hy];exact CP (by rw[hadl]; omega) (by omega) rfl
     ·(repeat'(first|refine qv ?_|apply qn|apply qs|apply qr|(refine AD rfl ?_ ?_<;>intro _<;>try(exfalso; omega))|apply qx));refine⟨?_⟩;refine AY (Ent.freeze 27 rfl) ?_
      have hkn':k=n:=by omega
      (repeat' first|refine qv ?_|apply qr|refine qK ?_|fail)
      have hfin:addX (s.e.take k) (t.e.take k)++List.replicate (n-k) 0=addX s.e t.e:=by
       rw[hkn', Nat.sub_self,List.replicate_zero,List.append_nil,List.take_of_length_le (by omega),List.take_of_length_le (by omega)]
      refine Fl.call rfl (rMul_ok (zval s.c) (zval t.c) (show lenI _≤_ by omega) (show lenI _≤_ by omega)) rfl rfl rfl (LeL.cons (AV.Le.agg (leZ (σ:=[]) hsc)) (LeL.cons (AV.Le.agg (leZ (σ:=[]) htc)) LeL.nil)) ?_;(repeat' first|refine qv ?_|refine qe ?_|fail);refine ql eT [⟨zOf (zval s.c*zval t.c),addX (s.e.take k) (t.e.take k)++List.replicate (n-k) 0⟩] ?_;refine qa (hby:=(by simp only[htl,List.length_nil,List.length_cons]; omega)) (hm:=(by simp only[htl,List.length_cons,List.length_nil]; omega)) (r:=?_);(repeat' first|refine qv ?_|apply qn|refine Fl.nil (fun _=>by kernel_rfl) ?_|apply qr|refine qw ?_|refine qe ?_|fail);refine LoopEnd.of (i+1+1) (by omega) (by omega) ?_;refine Ent.of [(700,66)] ?_ ?_ rfl rfl;(repeat' first|exact True.intro|refine⟨⟨AA _,rfl⟩,?_⟩|refine⟨⟨⟨_,rfl,BLe.cells (AB _)⟩,rfl⟩,?_⟩|refine⟨⟨⟨_,rfl,BLe.row ?_⟩,rfl⟩,?_⟩|fail);rw[timesT_snoc hs,hfin]
      try rfl
   ·rename_i hlt';have hti:l.take (i+1)=l:=List.take_of_length_le (by omega);refine Ao (Ent.freeze 700 rfl) ?_;refine RetOk.of rfl ?_;rw[hti];exact AA _
end Go.Proofs.YtmmfloplhopioaaGreat
namespace Go.Proofs.YtmmfloplhopioaaGreat
open Go.AL
theorem rAddP_ok (n M:Nat) (hn:n≤1000) (hM:M≤30000) (a b:List TZ) (ha:TermsOk n M a) (hb:TermsOk n M b) (hal:a.length≤100000) (hbl:b.length≤100000):PureFn Tryz.prog 62 [aP ⟨n,a⟩,aP ⟨n,b⟩] (aP ⟨n,As a b⟩):=by
 refine AC Tryz.func62 rfl Tryz.ntmps62 rfl rfl ?_;(repeat' first|refine qv ?_|apply qn|apply qs|apply qr|refine qe ?_|fail);refine qc (merged_ok n M hn hM a b ha hb hal hbl) ?_;(repeat' first|refine Fl.nil (fun _=>by kernel_rfl) ?_|refine qe ?_|apply qt);exact RetOk.of rfl (AA _)
end Go.Proofs.YtmmfloplhopioaaGreat
/- The reference's polynomials: Sorted, Add, Times, Sub, Const, Var. -/
namespace Go.AL
theorem addX_eq:addX=addE:=rfl
theorem timesT_tz (p:List UT) (t:UT):DY (p.map tz) (tz t)=(p.map fun s=>(s.1*t.1,addE s.2 t.2)).map tz:=by
 unfold DY;rw[List.map_map,List.map_map];refine List.map_congr_left fun s _=>?_;show TZ.mk (zOf (zval (zOf s.1)*zval (zOf t.1))) (addX s.2 t.2)=tz _;rw[A4,A4,addX_eq]
theorem tz_nz {u:UT} (h:u.1≠0):(tz u).c.w.length≠0:=fun k=>h ((toW_len0 u.1).1 k)
theorem zeros_add:∀(l:List Int) (n:Nat),l.length=n→addE l (List.replicate n 0)=l
 | [],_,h=>by simp[addE]
 | x::l,0,h=>by simp at h
 | x::l,n+1,h=>by
  have ih:=zeros_add l n (by simpa using h);unfold addE at ih ⊢;rw[List.replicate_succ,List.zipWith_cons_cons,ih];simp
end Go.AL
namespace Go.Proofs.YtmmfloplhopioaaGreat
open Go.AL
theorem rSortedU (V:Nat) (hV:V≤1000):∀(d M:Nat) (l:List UT),l.length≤2^d→2^d≤100000→M+d≤30000→okT V M l →
  PureFn Tryz.prog 121 [.sl 3 eT (l.map tz)] (.sl 3 eT ((canU l).map tz))∧okT V (M+d) (canU l):=by
 intro d
 induction d with
 | zero=>
  intro M l hl hd hM hok;have hs:=rSorted_short V M hV (by omega) (l.map tz) hok.terms (by simp; omega);rw[mergeT_short (by omega)]at hs;exact⟨hs,hok.can0 (by omega)⟩
 | succ d ih=>
  intro M l hl hd hM hok;rw[Nat.pow_succ]at hl hd;rcases Nat.lt_or_ge l.length 2 with h2|h2
  ·have hs:=rSorted_short V M hV (by omega) (l.map tz) hok.terms (by simp; omega);rw[mergeT_short (by omega)]at hs;exact⟨hs,(hok.can0 h2).mono (by omega)⟩
  ·obtain⟨k,hk⟩:∃k,k=l.length/2:=⟨_,rfl⟩;have o1:okT V M (l.take k):=hok.sub fun u hu=>List.mem_of_mem_take hu;have o2:okT V M (l.drop k):=hok.sub fun u hu=>List.mem_of_mem_drop hu;obtain⟨a1,a2⟩:=ih M (l.take k) (by rw[List.length_take]; omega) (by omega) (by omega) o1;obtain⟨b1,b2⟩:=ih M (l.drop k) (by rw[List.length_drop]; omega) (by omega) (by omega) o2;have l1:=EP (l.take k);have l2:=EP (l.drop k);rw[List.length_take]at l1;rw[List.length_drop]at l2;have hm:=merged_ok V (M+d) hV (by omega) ((canU (l.take k)).map tz) ((canU (l.drop k)).map tz) a2.terms b2.terms (by rw[List.length_map]; omega) (by rw[List.length_map]; omega);rw[mergeT_can (CX _) (CX _) a2.lenU b2.lenU,canU_halves]at hm;have hres:=okT.can (CX _) (CX _) a2 b2;rw[canU_halves]at hres;refine⟨?_,hres.mono (by omega)⟩;refine AC Tryz.func121 rfl Tryz.ntmps121 rfl rfl ?_;have hlm:(l.map tz).length=l.length:=List.length_map ..
   have e1:(l.map tz).take (((l.map tz).length:Int)/2).toNat=(l.take k).map tz:=by rw[hlm,show((l.length:Int)/2).toNat=k by omega,List.map_take]
   have e2:(l.map tz).drop (((l.map tz).length:Int)/2).toNat=(l.drop k).map tz:=by rw[hlm,show((l.length:Int)/2).toNat=k by omega,List.map_drop]
   (repeat' first|refine qv ?_|apply qn|apply qs|apply qr|refine qw ?_|refine Fl.w rfl rfl rfl ⟨by omega,by omega,by dsimp only[hiK]; omega⟩ ?_|(refine AD rfl ?_ ?_<;>intro _<;>try(exfalso; omega))|apply qk);refine Fl.call rfl a1 rfl rfl rfl (LeL.cons (AV.Le.sl e1) LeL.nil) ?_;(repeat' first|refine qv ?_|refine qw ?_|refine Fl.w rfl rfl rfl ⟨by omega,by omega,by dsimp only[hiK]; omega⟩ ?_|fail);refine Fl.call rfl b1 rfl rfl rfl (LeL.cons (AV.Le.sl e2) LeL.nil) ?_;refine qc (hm) ?_;(repeat' first|refine qv ?_|refine Fl.nil (fun _=>by kernel_rfl) ?_|apply qt);exact RetOk.of rfl (AA _)
theorem rAddU (V M:Nat) (hV:V≤1000) (hM:M≤30000) (a b:List UT) (ca:CanU a) (cb:CanU b) (ha:okT V M a) (hb:okT V M b) (la:a.length≤100000) (lb:b.length≤100000):PureFn Tryz.prog 62 [aP (mkP V a),aP (mkP V b)] (aP (mkP V (canU (a++b)))):=by
 have h:=rAddP_ok V M hV hM (a.map tz) (b.map tz) ha.terms hb.terms (by rw[List.length_map]; omega) (by rw[List.length_map]; omega);rw[mergeT_can ca cb ha.lenU hb.lenU]at h;exact h
theorem rTimesU0 (V:Nat) (p:List UT) (t:UT) (h:p=[]∨t.1=0):PureFn Tryz.prog 120 [aP (mkP V p),aT (tz t)] (aP (mkP V [])):=by
 refine AC Tryz.func120 rfl Tryz.ntmps120 rfl rfl ?_;have hzero:=Cf (tz t).c;have hlen:(p.map tz).length=p.length:=List.length_map ..;by_cases hp:p=[]
 ·subst hp;(repeat' first|refine qv ?_|apply qn|apply qs|apply qr|refine qe ?_|apply qb);refine AWP.loop (G:=Unit) (fun _=>True) (fun _=>AO [] [(2,.ptr 2 0),(3,.ptr 3 0),(4,.ptr 4 0),(5,.ptr 5 0),(6,aN 0)] [(2,.cells [aN V,.sl 3 eT (([]:List UT).map tz)] 105),(3,.cells (eT (tz t)) 158),(4,.cells [aN 0,.v (.slice none 0 0)] 105),(5,.cells [aN V,.v (.slice none 0 0)] 105)]) (fun _=>0) () trivial ?_ ?_
  ·refine Ent.of [] ?_ ?_ rfl rfl;(repeat' first|exact True.intro|refine⟨⟨AA _,rfl⟩,?_⟩|refine⟨⟨⟨_,rfl,BLe.cells (AB _)⟩,rfl⟩,?_⟩|fail)
  ·intro _ _;(repeat' first|refine qv ?_|apply qn|apply qs|apply qr|refine qe ?_|refine Fl.skip rfl rfl ?_|refine AF rfl ?_|apply qx|apply qt);exact RetOk.of rfl (AV.Le.agg (LeL.cons (AA _) (LeL.cons (AV.Le.nil 3 eT) LeL.nil)))
 ·have hz:t.1=0:=h.resolve_left hp;rw[decide_eq_true (show(tz t).c.w.length=0 from(toW_len0 t.1).2 hz)]at hzero;have hpl:0<p.length:=List.length_pos_iff.2 hp;(repeat' first|refine qv ?_|apply qn|apply qs|apply qr|refine qe ?_|apply qb);refine AWP.loop (G:=Unit) (fun _=>True) (fun _=>AO [] [(2,.ptr 2 0),(3,.ptr 3 0),(4,.ptr 4 0),(5,.ptr 5 0),(6,aN 0)] [(2,.cells [aN V,.sl 3 eT (p.map tz)] 105),(3,.cells (eT (tz t)) 158),(4,.cells [aN 0,.v (.slice none 0 0)] 105),(5,.cells [aN V,.v (.slice none 0 0)] 105)]) (fun _=>0) () trivial ?_ ?_
  ·refine Ent.of [] ?_ ?_ rfl rfl;(repeat' first|exact True.intro|refine⟨⟨AA _,rfl⟩,?_⟩|refine⟨⟨⟨_,rfl,BLe.cells (AB _)⟩,rfl⟩,?_⟩|fail)
  ·intro _ _;(repeat' first|refine qv ?_|apply qs|apply qr|(refine AG rfl rfl ?_ ?_<;>intro _<;>try(exfalso; omega)))
   ·refine Fl.call rfl hzero rfl rfl rfl (AB _) ?_;(repeat' first|refine qv ?_|apply qn|apply qs|apply qr|refine qe ?_|refine AF rfl ?_|apply qx|apply qt);exact RetOk.of rfl (AV.Le.agg (LeL.cons (AA _) (LeL.cons (AV.Le.nil 3 eT) LeL.nil)))
theorem rTimesU (V M:Nat) (hV:V≤1000) (hM:M≤10000) (p:List UT) (t:UT) (hl:p.length≤3000) (hp:okT V M p) (ht:okT V M [t]):PureFn Tryz.prog 120 [aP (mkP V p),aT (tz t)] (aP (mkP V (if t.1=0 then[]else p.map fun s=>(s.1*t.1,addE s.2 t.2)))):=by
 by_cases hz:t.1=0
 ·rw[if_pos hz]; exact rTimesU0 V p t (.inr hz)
 ·rw[if_neg hz];by_cases hn:p=[]
  ·subst hn; exact rTimesU0 V [] t (.inl rfl)
  ·have h:=rTimes_ok V hV (p.map tz) (tz t) (by rw[List.length_map]; omega) (hp.mono hM).terms (ht.mono hM).terms (tz_nz hz) (by rw[List.length_map]; exact fun k=>hn (List.eq_nil_of_length_eq_zero k));rw[timesT_tz]at h;exact h
theorem rConstU (V:Nat) (c:Int) (hV:V≤1000) (hc:lenI c≤20000):PureFn Tryz.prog 122 [aN V,aX c] (aP (mkP V (conU V c))):=by
 refine AC Tryz.func122 rfl Tryz.ntmps122 rfl rfl ?_;have hs:=(rSortedU V hV 0 20000 [(c,List.replicate V 0)] (by simp) (by simp) (by omega) (fun u hu=>by simp only[List.mem_singleton]at hu; subst hu; exact⟨by simp,EOk.zeros V,hc⟩)).1;rw[conU_can]at hs;refine AE ?_;(repeat' first|apply qn|apply qr|refine qe ?_|fail);refine⟨AWP.seq (AWP.region ?_)⟩;refine Fl.v rfl rfl rfl ?_;refine Fl.v rfl rfl rfl ?_;refine Fl.v rfl rfl rfl ?_;refine Fl.makeC rfl rfl rfl rfl rfl rfl rfl rfl rfl eI 0 (by exact AB _) (by rfl) (by omega) (by first|omega|(dsimp only; omega)) (by omega) ?_;(repeat' first|refine qe ?_|fail);refine ql eT [tz (c,List.replicate V 0)] ?_;refine qc (hs) ?_;(repeat' first|refine Fl.nil (fun _=>by kernel_rfl) ?_|refine qe ?_|apply qt);exact RetOk.of rfl (AA _)
theorem rVarU (V i:Nat) (hi:i<V) (hV:V≤1000):PureFn Tryz.prog 119 [aN V,aN i] (aP (mkP V (varU V i))):=rVar_ok V i hi hV
theorem rSubU (V M:Nat) (hV:V≤1000) (hM:M≤9000) (a b:List UT) (ca:CanU a) (cb:CanU b) (ha:okT V M a) (hb:okT V M b) (la:a.length≤3000) (lb:b.length≤3000):PureFn Tryz.prog 63 [aP (mkP V a),aP (mkP V b)] (aP (mkP V (subL a b))):=by
 refine AC Tryz.func63 rfl Tryz.ntmps63 rfl rfl ?_;have l1:lenI (-1)≤1:=FA (by decide);have ht:=rTimesU V (M+1) hV (by omega) b (-1,List.replicate V 0) lb (hb.mono (by omega)) (fun u hu=>by simp only[List.mem_singleton]at hu; subst hu; exact⟨by simp,EOk.zeros V,by show lenI (-1)≤M+1; omega⟩);rw[if_neg (by simp)]at ht
 have hn:(b.map fun s=>(s.1*(-1),addE s.2 (List.replicate V 0)))=b.map fun u=>(u.1*(-1),u.2):=List.map_congr_left fun u hu=>by rw[zeros_add _ _ (hb u hu).1]
 simp only at ht;rw[hn]at ht
 have cn:CanU (b.map fun u=>(u.1*(-1),u.2)):=⟨fun u hu=>by
  obtain⟨v,hv,rfl⟩:=List.mem_map.1 hu;have:=cb.nz v hv;show v.1*(-1)≠0
  omega,List.pairwise_map.2 cb.pw⟩
 have on:okT V M (b.map fun u=>(u.1*(-1),u.2)):=fun u hu=>by
  obtain⟨v,hv,rfl⟩:=List.mem_map.1 hu;refine⟨(hb v hv).1,(hb v hv).2.1,?_⟩;show lenI (v.1*(-1))≤M;rw[show v.1*(-1) = -v.1 by omega,lenI_neg];exact(hb v hv).2.2
 have hadd:=rAddU V M hV (by omega) a (b.map fun u=>(u.1*(-1),u.2)) ca cn ha on (by omega) (by rw[List.length_map]; omega);refine AE ?_;(repeat' first|apply qn|apply qr|refine qe ?_|fail);refine⟨AWP.seq (AWP.region ?_)⟩;(repeat' first|refine qv ?_|fail);refine qc (Bs (-1) (by omega) (by omega)) ?_;(repeat' first|refine qv ?_|fail);refine Fl.makeC rfl rfl rfl rfl rfl rfl rfl rfl rfl eI 0 (by exact AB _) (by rfl) (by show(0:Int)≤(V:Int); omega) (by show(V:Int)*_≤_; first|omega|(dsimp only; omega)) (by show(V:Int)≤_; omega) ?_;(repeat' first|refine qe ?_|fail);refine qc (ht) ?_;refine qc (hadd) ?_;(repeat' first|refine Fl.nil (fun _=>by kernel_rfl) ?_|refine qe ?_|apply qt);exact RetOk.of rfl (AA _)
end Go.Proofs.YtmmfloplhopioaaGreat
/- The reference's polynomials: Mul; its links: First, Make. -/
namespace Go.AL
def ixN (n:Nat):List Int:=(List.range n).map fun(j:Nat)=>(j:Int)
theorem ixN_succ (n:Nat):ixN (n+1)=ixN n++[(n:Int)]:=by unfold ixN; rw[List.range_succ,List.map_append]; rfl
theorem ixN_length (n:Nat):(ixN n).length=n:=by simp[ixN]
theorem ixN_get {n i:Nat} (h:i<n):(ixN n)[i]? = some (i:Int):=by simp[ixN,h]
theorem mulR_snoc {p q:List UT} {i:Nat} {t:UT} (h:q[i]? = some t):mulR p (q.take (i+1))=mulR p (q.take i)++p.map fun s=>(s.1*t.1,addE s.2 t.2):=EM _ h
theorem okT.mul {V M:Nat} {p q:List UT} (hp:okT V M p) (hq:okT V M q) (hE:∀s∈p,∀t∈q,EOk (addE s.2 t.2)):okT V (M+M) (mulR p q):=fun u hu=>by
 obtain⟨t,ht,hu⟩:=List.mem_flatMap.1 hu;obtain⟨s,hs,rfl⟩:=List.mem_map.1 hu;have a:=hp s hs;have b:=hq t ht;refine⟨by rw[DT (by rw[a.1,b.1]),a.1],hE s hs t ht,?_⟩;have:=lenI_mul s.1 t.1;show lenI (s.1*t.1)≤_;omega
def linkR (V:Nat) (kind:Int) (ls:List (List UT)):LZ:=⟨kind,occI ls V,ls.map fun p=>mkP (occI ls V).length (canU (p.map fun u=>(u.1,CA (occI ls V) u.2)))⟩
def anyP (i:Nat) (p:List UT):Bool:=p.any fun u=>decide (0<u.2.getD i 0)
theorem any_take_succ {α:Type} (f:α→Bool) {l:List α} {k:Nat} {x:α} (h:l[k]? = some x):(l.take (k+1)).any f=((l.take k).any f||f x):=by
 rw[Ab h,List.any_append]; simp
theorem okT.pick {V M:Nat} {p:List UT} (h:okT V M p) (occ:List Int):okT occ.length M (p.map fun u=>(u.1,CA occ u.2)):=fun u hu=>by
 obtain⟨v,hv,rfl⟩:=List.mem_map.1 hu;refine⟨by simp[CA],fun e he=>?_,(h v hv).2.2⟩;obtain⟨x,_,rfl⟩:=List.mem_map.1 he;rw[List.getD_eq_getElem?_getD]
 cases hx:v.2[x.toNat]? with
 | none=>simp
 | some y=>exact(h v hv).2.1 y (List.mem_of_getElem? hx)
end Go.AL
namespace Go.Proofs.YtmmfloplhopioaaGreat
open Go.AL
theorem rMulU (V M d:Nat) (hV:V≤1000) (hM:M≤9000) (p q:List UT) (hp:okT V M p) (hq:okT V M q) (nz:∀t∈q,t.1≠0) (hE:∀s∈p,∀t∈q,EOk (addE s.2 t.2)) (lp:p.length≤3000) (lq:q.length≤3000) (hd:q.length*p.length≤2^d) (hd2:2^d≤100000) (hd3:d≤20):PureFn Tryz.prog 60 [aP (mkP V p),aP (mkP V q)] (aP (mkP V (Aq p q))):=by
 refine AC Tryz.func60 rfl Tryz.ntmps60 rfl rfl ?_;have hso:=(rSortedU V hV d (M+M) (mulR p q) (by rw[mulR_length]; omega) hd2 (by omega) (hp.mul hq hE)).1;rw[Co (cfU_mulR p q)]at hso;have hlen:(q.map tz).length=q.length:=List.length_map ..;have hlp:(p.map tz).length=p.length:=List.length_map ..;refine AE ?_;(repeat' first|apply qn|apply qr|refine qe ?_|fail);refine⟨AE ?_⟩;(repeat' first|refine qv ?_|apply qn|apply qr);refine⟨?_⟩;refine AY (BV 5 805 rfl rfl 3 eT 158) ?_;(repeat' first|refine qv ?_|apply qn|apply qs|apply qr|apply qb);refine AWP.loop (G:=Nat) (fun i=>i≤q.length) (fun i=>AO [] [(2,.ptr 2 0),(3,.ptr 3 0),(4,.ptr 4 0),(5,.row 700),(6,aN i)] [(2,.cells [aN V,.sl 3 eT (p.map tz)] 105),(3,.cells [aN V,.sl 3 eT (q.map tz)] 105),(4,.cells [aN 0,.v (.slice none 0 0)] 105),(700,.row 3 eT ((mulR p (q.take i)).map tz) 158)]) (fun i=>q.length-i) 0 (by omega) ?_ ?_
 ·refine Ent.of [(700,805)] ?_ ?_ rfl rfl;(repeat' first|exact True.intro|refine⟨⟨AA _,rfl⟩,?_⟩|refine⟨⟨⟨_,rfl,BLe.cells (AB _)⟩,rfl⟩,?_⟩|refine⟨⟨⟨_,rfl,BLe.row rfl⟩,rfl⟩,?_⟩|fail)
 ·intro i k0
  have hli:((mulR p (q.take i)).map tz).length=i*p.length:=by rw[List.length_map,mulR_length,List.length_take,Nat.min_eq_left k0]
  have hmx:i*p.length≤q.length*p.length:=Nat.mul_le_mul_right _ k0;by_cases hi:i<q.length
  ·obtain⟨t,ht⟩:∃t,q[i]? = some t:=⟨_,List.getElem?_eq_getElem hi⟩;have htm:=List.mem_of_getElem? ht
   have hqt:(q.map tz)[i]? = some (tz t):=by rw[List.getElem?_map,ht]; rfl
   have hti:=rTimesU V M hV (by omega) p t lp hp (hq.sub fun u hu=>by simp only[List.mem_singleton]at hu; rw[hu]; exact htm);rw[if_neg (nz t htm)]at hti;have hms:=mulR_snoc (p:=p) ht;obtain⟨T,hT⟩:∃T,T=p.map fun s=>(s.1*t.1,addE s.2 t.2):=⟨_,rfl⟩
   have hTl:(T.map tz).length=p.length:=by rw[hT,List.length_map,List.length_map]
   rw[←hT]at hti hms;have hm1:(i+1)*p.length≤q.length*p.length:=Nat.mul_le_mul_right _ hi;rw[Nat.add_mul]at hm1;(repeat' first|refine qv ?_|apply qn|apply qs|apply qr|(refine AD rfl ?_ ?_<;>intro _<;>try(exfalso; omega))|apply qb|apply qk|refine qK ?_|fail);refine qc (hti) ?_;(repeat' first|refine qv ?_|fail);refine qa (hby:=(by show(((mulR p (q.take i)).map tz).length+(T.map tz).length)*_≤_; dsimp only; omega)) (hm:=(by show((mulR p (q.take i)).map tz).length+(T.map tz).length≤_; omega)) (r:=?_);(repeat' first|refine qv ?_|apply qn|refine Fl.nil (fun _=>by kernel_rfl) ?_|apply qr|refine qw ?_|fail);refine LoopEnd.of (i+1) (by omega) (by omega) ?_;refine Ent.of [(700,23)] ?_ ?_ rfl rfl;(repeat' first|exact True.intro|refine⟨⟨AA _,rfl⟩,?_⟩|refine⟨⟨⟨_,rfl,BLe.cells (AB _)⟩,rfl⟩,?_⟩|refine⟨⟨⟨_,rfl,BLe.row ?_⟩,rfl⟩,?_⟩|fail);rw[hms,List.map_append];rfl
  ·have hti:q.take i=q:=List.take_of_length_le (by omega);rw[hti];(repeat' first|refine qv ?_|apply qn|apply qs|apply qr|(refine AD rfl ?_ ?_<;>intro _<;>try(exfalso; omega))|apply qx);refine Eo rfl 700 rfl hso rfl rfl rfl (AB _) ?_;(repeat' first|refine Fl.nil (fun _=>by kernel_rfl) ?_|refine qe ?_|apply qt);exact RetOk.of rfl (AA _)
theorem rFirst_ok (n:Nat) (hn:n≤1000000):PureFn Tryz.prog 125 [aN n] (aI (ixN n)):=by
 refine AC Tryz.func125 rfl Tryz.ntmps125 rfl rfl ?_;(repeat' first|refine qv ?_|apply qn|apply qs|apply qr|apply qb);refine AY (BV 3 805 rfl rfl 1 eI 3) ?_;refine AWP.loop (G:=Nat) (fun i=>i≤n) (fun i=>AO [] [(0,aN n),(3,.row 700),(4,aN i)] [(700,.row 1 eI (ixN i) 3)]) (fun i=>n-i) 0 (by omega) ?_ ?_
 ·refine Ent.of [(700,805)] ?_ ?_ rfl rfl;(repeat' first|exact True.intro|refine⟨⟨AA _,rfl⟩,?_⟩|refine⟨⟨⟨_,rfl,BLe.row rfl⟩,rfl⟩,?_⟩|fail)
 ·intro i k0;have hli:=ixN_length i;(repeat' first|refine qv ?_|apply qn|apply qs|apply qr|(refine AD rfl ?_ ?_<;>intro _<;>try(exfalso; omega))|apply qb|apply qk|apply qx|apply qt)
  ·refine ql eI [(i:Int)] ?_;refine qa (hby:=(by dsimp only[List.length_nil,List.length_cons]; omega)) (hm:=(by dsimp only[List.length_nil,List.length_cons]; omega)) (r:=?_);(repeat' first|refine qv ?_|apply qn|apply qr|refine qw ?_|fail);refine LoopEnd.of (i+1) (by omega) (by omega) ?_;refine Ent.of [(700,13)] ?_ ?_ rfl rfl;(repeat' first|exact True.intro|refine⟨⟨AA _,rfl⟩,?_⟩|refine⟨⟨⟨_,rfl,BLe.row ?_⟩,rfl⟩,?_⟩|fail);exact(ixN_succ i).symm
  ·rename_i hi
   have:i=n:=by omega
   subst this;refine Ao (Ent.freeze 700 rfl) ?_;exact RetOk.of rfl (AA _)
end Go.Proofs.YtmmfloplhopioaaGreat
/- The reference's links: Make. -/
namespace Go.Proofs.YtmmfloplhopioaaGreat
open Go.AL
set_option maxHeartbeats 1000000 in
theorem rMakeL_ok (V M:Nat) (kind:Int) (ls:List (List UT)) (W:List Int) (hW:W=ixN V) (hV:V≤1000) (hM:M≤20000) (hl:ls.length≤1000) (hk:∀p∈ls,p.length≤3000∧okT V M p):PureFn Tryz.prog 124 [aN kind,aI W,.sl 2 eP (ls.map (mkP V))] (aL (linkR V kind ls)):=by
 refine AC Tryz.func124 rfl Tryz.ntmps124 rfl rfl ?_
 have hWl:W.length=V:=by rw[hW,ixN_length]
 have hWg:∀i,i<V→W[i]? = some (i:Int):=fun i hi=>by rw[hW]; exact ixN_get hi
 obtain⟨L,hL⟩:∃L,L=ls.map (mkP V):=⟨_,rfl⟩
 have hLl:L.length=ls.length:=by rw[hL,List.length_map]
 rw[←hL];refine AE ?_;(repeat' first|apply qn|apply qr|refine qe ?_|fail);refine⟨AE ?_⟩;(repeat' first|refine qv ?_|apply qn|apply qr|refine qe ?_|fail);refine⟨AE ?_⟩;(repeat' first|refine qv ?_|apply qn|apply qr);refine⟨?_⟩;refine AY (BV 8 805 rfl rfl 1 eI 3) ?_;refine AY (Bc 7 1 806 rfl rfl rfl 1 eI 3) ?_;(repeat' first|refine qv ?_|apply qn|apply qs|apply qr|apply qb);refine AWP.loop (G:=Nat) (fun i=>i≤V) (fun i=>AO [] [(1,aI W),(2,.sl 2 eP L),(6,.ptr 6 0),(7,.ptr 7 0),(8,.row 700),(9,aN i)] [(6,.cells [aN 0,.v (.slice none 0 0),.v (.slice none 0 0)] 99),(7,.cells [aN kind,.row 701,.v (.slice none 0 0)] 99),(700,.row 1 eI (occI ls i) 3),(701,.row 1 eI (occI ls i) 3)]) (fun i=>V-i) 0 (by omega) ?_ ?_
 ·refine Ent.of [(700,805),(701,806)] ?_ ?_ rfl rfl;(repeat' first|exact True.intro|refine⟨⟨AA _,rfl⟩,?_⟩|refine⟨⟨⟨_,rfl,BLe.cells (AB _)⟩,rfl⟩,?_⟩|refine⟨⟨⟨_,rfl,BLe.row rfl⟩,rfl⟩,?_⟩|fail)
 ·intro i k0;have hol:=occI_len ls i;have hst:=occI_step ls i;by_cases hi:i<V
  ·have hWi:=hWg i hi;refine AE ?_;(repeat' first|refine qv ?_|apply qn|apply qs|apply qr|(refine AD rfl ?_ ?_<;>intro _<;>try(exfalso; omega))|apply qk);refine⟨AWP.seq (AWP.block (AE ?_))⟩;(repeat' first|refine qv ?_|apply qn|apply qr);refine⟨?_⟩;refine Cj (G:=Bool) (fun b=>b=occP ls i) (fun b=>AO [] [(1,aI W),(2,.sl 2 eP L),(6,.ptr 6 0),(7,.ptr 7 0),(8,.row 700),(9,aN i),(10,aB b)] [(6,.cells [aN 0,.v (.slice none 0 0),.v (.slice none 0 0)] 99),(7,.cells [aN kind,.row 701,.v (.slice none 0 0)] 99),(700,.row 1 eI (occI ls i) 3),(701,.row 1 eI (occI ls i) 3)]) ?_ ?_
   ·(repeat'(first|refine qv ?_|apply qn|apply qs|apply qr|apply qb));refine AWP.loop (G:=Nat) (fun j=>j≤ls.length) (fun j=>AO [] [(1,aI W),(2,.sl 2 eP L),(6,.ptr 6 0),(7,.ptr 7 0),(8,.row 700),(9,aN i),(10,aB ((ls.take j).any (anyP i))),(11,aN j)] [(6,.cells [aN 0,.v (.slice none 0 0),.v (.slice none 0 0)] 99),(7,.cells [aN kind,.row 701,.v (.slice none 0 0)] 99),(700,.row 1 eI (occI ls i) 3),(701,.row 1 eI (occI ls i) 3)]) (fun j=>ls.length-j) 0 (by omega) ?_ ?_
    ·refine Ent.of [] ?_ ?_ rfl rfl;(repeat' first|exact True.intro|refine⟨⟨AA _,rfl⟩,?_⟩|refine⟨⟨⟨_,rfl,BLe.cells (AB _)⟩,rfl⟩,?_⟩|refine⟨⟨⟨_,rfl,BLe.row rfl⟩,rfl⟩,?_⟩|fail)
    ·intro j j0;by_cases hj:j<ls.length
     ·obtain⟨q,hq⟩:∃q,ls[j]? = some q:=⟨_,List.getElem?_eq_getElem hj⟩
      have hLq:L[j]? = some (mkP V q):=by rw[hL,List.getElem?_map,hq]; rfl
      obtain⟨hq1,hq2⟩:=hk q (List.mem_of_getElem? hq);obtain⟨b0,hb0⟩:∃b,b=(ls.take j).any (anyP i):=⟨_,rfl⟩
      have hTl:(mkP V q).terms.length=q.length:=by simp[mkP]
      have hany:=any_take_succ (anyP i) hq;rw[←hb0]at hany ⊢;refine AE ?_;(repeat' first|refine qv ?_|apply qn|apply qs|apply qr|(refine AD rfl ?_ ?_<;>intro _<;>try(exfalso; omega))|apply qk);refine⟨AWP.seq (AWP.block ?_)⟩;(repeat' first|refine qv ?_|apply qn|apply qs|apply qr|apply qb);refine AWP.loop (G:=Nat) (fun k=>k≤q.length) (fun k=>AO [] [(1,aI W),(2,.sl 2 eP L),(6,.ptr 6 0),(7,.ptr 7 0),(8,.row 700),(9,aN i),(10,aB (b0||(anyP i (q.take k)))),(11,aN j),(12,aN k)] [(6,.cells [aN 0,.v (.slice none 0 0),.v (.slice none 0 0)] 99),(7,.cells [aN kind,.row 701,.v (.slice none 0 0)] 99),(700,.row 1 eI (occI ls i) 3),(701,.row 1 eI (occI ls i) 3)]) (fun k=>q.length-k) 0 (by omega) ?_ ?_
      ·refine Ent.of [] ?_ ?_ rfl rfl;(repeat' first|exact True.intro|refine⟨⟨AA _,rfl⟩,?_⟩|refine⟨⟨⟨_,rfl,BLe.cells (AB _)⟩,rfl⟩,?_⟩|refine⟨⟨⟨_,rfl,BLe.row rfl⟩,rfl⟩,?_⟩|refine⟨⟨AV.Le.bool ?_,rfl⟩,?_⟩|fail);show b0=(b0||false);rw[Bool.or_false]
      ·intro k e0;by_cases hkq:k<q.length
       ·obtain⟨u,hu⟩:∃u,q[k]? = some u:=⟨_,List.getElem?_eq_getElem hkq⟩
        have hTu:(mkP V q).terms[k]? = some (tz u):=by show(q.map tz)[k]? = _; rw[List.getElem?_map,hu]; rfl
        have hul:=(hq2 u (List.mem_of_getElem? hu)).1;obtain⟨x,hx⟩:∃x,u.2[i]? = some x:=⟨_,List.getElem?_eq_getElem (by omega)⟩
        have hstep:anyP i (q.take (k+1))=(anyP i (q.take k)||decide (0<x)):=by
         have:=any_take_succ (fun u:UT=>decide (0<u.2.getD i 0)) hu;rw[List.getD_eq_getElem?_getD,hx]at this;exact this
        obtain⟨b1,hb1⟩:∃b,b=(b0||anyP i (q.take k)):=⟨_,rfl⟩
        have hstep2:(b0||anyP i (q.take (k+1)))=(b1||decide (0<x)):=by rw[hstep,hb1,Bool.or_assoc]
        rw[←hb1]
        cases b1 with
        | true=>
         (repeat' first|refine qv ?_|apply qn|apply qs|apply qr|refine qw ?_|refine Fl.skip rfl rfl ?_|(refine AD rfl ?_ ?_<;>intro _<;>try(exfalso; omega))|apply qb|apply qk|refine qK ?_|fail);refine LoopEnd.of (k+1) (by omega) (by omega) ?_;refine Ent.of [] ?_ ?_ rfl rfl;(repeat' first|exact True.intro|refine⟨⟨AA _,rfl⟩,?_⟩|refine⟨⟨⟨_,rfl,BLe.cells (AB _)⟩,rfl⟩,?_⟩|refine⟨⟨⟨_,rfl,BLe.row rfl⟩,rfl⟩,?_⟩|refine⟨⟨AV.Le.bool ?_,rfl⟩,?_⟩|fail);rw[hstep2]; rfl
        | false=>
         (repeat' first|refine qv ?_|apply qn|apply qs|apply qr|refine qw ?_|(refine AD rfl ?_ ?_<;>intro _<;>try(exfalso; omega))|apply qb|apply qk|refine qK ?_|fail);refine LoopEnd.of (k+1) (by omega) (by omega) ?_;refine Ent.of [] ?_ ?_ rfl rfl;(repeat' first|exact True.intro|refine⟨⟨AA _,rfl⟩,?_⟩|refine⟨⟨⟨_,rfl,BLe.cells (AB _)⟩,rfl⟩,?_⟩|refine⟨⟨⟨_,rfl,BLe.row rfl⟩,rfl⟩,?_⟩|refine⟨⟨AV.Le.bool ?_,rfl⟩,?_⟩|fail);rw[hstep2]; rfl
       ·have htk:q.take k=q:=List.take_of_length_le (by omega);rw[htk,←hany];(repeat' first|refine qv ?_|apply qn|apply qs|apply qr|refine qw ?_|(refine AD rfl ?_ ?_<;>intro _<;>try(exfalso; omega))|apply qx|refine qK ?_|fail);refine LoopEnd.of (j+1) (by omega) (by omega) ?_;refine Ent.of [] ?_ ?_ rfl rfl;(repeat' first|exact True.intro|refine⟨⟨AA _,rfl⟩,?_⟩|refine⟨⟨⟨_,rfl,BLe.cells (AB _)⟩,rfl⟩,?_⟩|refine⟨⟨⟨_,rfl,BLe.row rfl⟩,rfl⟩,?_⟩|fail)
     ·(repeat' first|refine qv ?_|apply qn|apply qs|apply qr|(refine AD rfl ?_ ?_<;>intro _<;>try(exfalso; omega))|apply qx);refine JoinOk.of ((ls.take j).any (anyP i)) ?_ ?_
      ·rw[List.take_of_length_le (by omega)]; rfl
      ·refine Ent.of [] ?_ ?_ rfl rfl;(repeat' first|exact True.intro|refine⟨⟨AA _,rfl⟩,?_⟩|refine⟨⟨⟨_,rfl,BLe.cells (AB _)⟩,rfl⟩,?_⟩|refine⟨⟨⟨_,rfl,BLe.row rfl⟩,rfl⟩,?_⟩|fail)
   ·intro b hb;subst hb;(repeat' first|refine qv ?_|apply qn|apply qs|apply qr|refine qw ?_|apply qk|(refine BQ rfl ?_ ?_<;>intro _))
    ·rename_i hb;rw[if_pos hb]at hst;refine ql eI [(i:Int)] ?_;refine qa (hby:=(by dsimp only[List.length_nil,List.length_cons]; omega)) (hm:=(by dsimp only[List.length_nil,List.length_cons]; omega)) (r:=?_);(repeat' first|refine qv ?_|refine qK ?_|fail);refine ql eI [(i:Int)] ?_;refine qa (hby:=(by dsimp only[List.length_nil,List.length_cons]; omega)) (hm:=(by dsimp only[List.length_nil,List.length_cons]; omega)) (r:=?_);(repeat' first|refine qv ?_|apply qn|refine Fl.nil (fun _=>by kernel_rfl) ?_|apply qr|refine qw ?_|refine qe ?_|fail);refine LoopEnd.of (i+1) (by omega) (by omega) ?_;refine Ent.of [(700,62),(701,70)] ?_ ?_ rfl rfl;(repeat' first|exact True.intro|refine⟨⟨AA _,rfl⟩,?_⟩|refine⟨⟨⟨_,rfl,BLe.cells (AB _)⟩,rfl⟩,?_⟩|refine⟨⟨⟨_,rfl,BLe.row ?_⟩,rfl⟩,?_⟩|fail)
     ·exact hst.symm
     ·exact hst.symm
    ·rename_i hb;rw[if_neg (by rw[hb]; simp)]at hst;refine LoopEnd.of (i+1) (by omega) (by omega) ?_;refine Ent.of [] ?_ ?_ rfl rfl;(repeat' first|exact True.intro|refine⟨⟨AA _,rfl⟩,?_⟩|refine⟨⟨⟨_,rfl,BLe.cells (AB _)⟩,rfl⟩,?_⟩|refine⟨⟨⟨_,rfl,BLe.row ?_⟩,rfl⟩,?_⟩|fail)
     ·exact hst.symm
     ·exact hst.symm
  ·have hiV:i=V:=by omega
   subst hiV;have hom:∀(m:Nat) (x:Int),(occI ls i)[m]? = some x→0≤x∧x<i:=fun m x hx=>occI_mem (List.mem_of_getElem? hx);have hres:linkR i kind ls=⟨kind,occI ls i,ls.map fun p=>mkP (occI ls i).length (canU (p.map fun u=>(u.1,CA (occI ls i) u.2)))⟩:=rfl;rw[hres]
   generalize occI ls i=occ at *
   refine AY (Ent.freeze 700 rfl) ?_;refine AY (Ent.freeze 701 rfl) ?_;refine AY (Bc 7 2 806 rfl rfl rfl 2 eP 105) ?_;(repeat' first|refine qv ?_|apply qn|apply qs|apply qr|(refine AD rfl ?_ ?_<;>intro _<;>try(exfalso; omega))|apply qb|apply qx);refine AWP.loop (G:=Nat) (fun j=>j≤ls.length) (fun j=>AO [] [(2,.sl 2 eP L),(6,.ptr 6 0),(7,.ptr 7 0),(8,aI occ),(13,aN j)] [(6,.cells [aN 0,.v (.slice none 0 0),.v (.slice none 0 0)] 99),(7,.cells [aN kind,aI occ,.row 701] 99),(701,.row 2 eP ((ls.take j).map fun p=>mkP occ.length (canU (p.map fun u=>(u.1,CA occ u.2)))) 105)]) (fun j=>ls.length-j) 0 (by omega) ?_ ?_
   ·refine Ent.of [(701,806)] ?_ ?_ rfl rfl;(repeat' first|exact True.intro|refine⟨⟨AA _,rfl⟩,?_⟩|refine⟨⟨⟨_,rfl,BLe.cells (AB _)⟩,rfl⟩,?_⟩|refine⟨⟨⟨_,rfl,BLe.row rfl⟩,rfl⟩,?_⟩|fail)
   ·intro j g0
    have hlj:((ls.take j).map fun p=>mkP occ.length (canU (p.map fun u=>(u.1,CA occ u.2)))).length=j:=by rw[List.length_map,List.length_take]; omega
    by_cases hj:j<ls.length
    ·obtain⟨q,hq⟩:∃q,ls[j]? = some q:=⟨_,List.getElem?_eq_getElem hj⟩
     have hLq:L[j]? = some (mkP i q):=by rw[hL,List.getElem?_map,hq]; rfl
     obtain⟨hq1,hq2⟩:=hk q (List.mem_of_getElem? hq)
     have hTl:(mkP i q).terms.length=q.length:=by simp[mkP]
     refine AE ?_;(repeat' first|refine qv ?_|apply qn|apply qs|apply qr|(refine AD rfl ?_ ?_<;>intro _<;>try(exfalso; omega))|apply qk);refine⟨AWP.seq (AWP.block (AE ?_))⟩;(repeat' first|refine qv ?_|apply qn|apply qr|refine qe ?_|fail);refine⟨?_⟩;refine AY (Bc 14 1 807 rfl rfl rfl 3 eT 158) ?_;(repeat' first|refine qv ?_|apply qn|apply qs|apply qr|apply qb);refine AWP.loop (G:=Nat) (fun k=>k≤q.length) (fun k=>AO [] [(2,.sl 2 eP L),(6,.ptr 6 0),(7,.ptr 7 0),(8,aI occ),(13,aN j),(14,.ptr 14 0),(15,aN k)] [(6,.cells [aN 0,.v (.slice none 0 0),.v (.slice none 0 0)] 99),(7,.cells [aN kind,aI occ,.row 701] 99),(701,.row 2 eP ((ls.take j).map fun p=>mkP occ.length (canU (p.map fun u=>(u.1,CA occ u.2)))) 105),(14,.cells [aN occ.length,.row 702] 105),(702,.row 3 eT (((q.take k).map fun u=>(u.1,CA occ u.2)).map tz) 158)]) (fun k=>q.length-k) 0 (by omega) ?_ ?_
     ·refine Ent.of [(702,807)] ?_ ?_ rfl rfl;(repeat' first|exact True.intro|refine⟨⟨AA _,rfl⟩,?_⟩|refine⟨⟨⟨_,rfl,BLe.cells (AB _)⟩,rfl⟩,?_⟩|refine⟨⟨⟨_,rfl,BLe.row rfl⟩,rfl⟩,?_⟩|fail)
     ·intro k e0
      have hlk:(((q.take k).map fun u=>(u.1,CA occ u.2)).map tz).length=k:=by rw[List.length_map,List.length_map,List.length_take]; omega
      by_cases hkq:k<q.length
      ·obtain⟨u,hu⟩:∃u,q[k]? = some u:=⟨_,List.getElem?_eq_getElem hkq⟩
       have hTu:(mkP i q).terms[k]? = some (tz u):=by show(q.map tz)[k]? = _; rw[List.getElem?_map,hu]; rfl
       have hul:=(hq2 u (List.mem_of_getElem? hu)).1;refine AE ?_;(repeat' first|refine qv ?_|apply qn|apply qs|apply qr|(refine AD rfl ?_ ?_<;>intro _<;>try(exfalso; omega))|apply qk|refine qK ?_|fail);refine⟨AWP.seq (AWP.block (AE ?_))⟩;(repeat' first|refine qv ?_|apply qn|apply qr);refine⟨?_⟩;refine AY (BV 16 808 rfl rfl 1 eI 3) ?_;(repeat' first|refine qv ?_|apply qn|apply qs|apply qr|apply qb);refine AWP.loop (G:=Nat) (fun m=>m≤occ.length) (fun m=>AO [] [(2,.sl 2 eP L),(6,.ptr 6 0),(7,.ptr 7 0),(8,aI occ),(13,aN j),(14,.ptr 14 0),(15,aN k),(16,.row 703),(17,aN m)] [(6,.cells [aN 0,.v (.slice none 0 0),.v (.slice none 0 0)] 99),(7,.cells [aN kind,aI occ,.row 701] 99),(701,.row 2 eP ((ls.take j).map fun p=>mkP occ.length (canU (p.map fun u=>(u.1,CA occ u.2)))) 105),(14,.cells [aN occ.length,.row 702] 105),(702,.row 3 eT (((q.take k).map fun u=>(u.1,CA occ u.2)).map tz) 158),(703,.row 1 eI ((occ.take m).map fun x=>u.2.getD x.toNat 0) 3)]) (fun m=>occ.length-m) 0 (by omega) ?_ ?_
       ·refine Ent.of [(703,808)] ?_ ?_ rfl rfl;(repeat' first|exact True.intro|refine⟨⟨AA _,rfl⟩,?_⟩|refine⟨⟨⟨_,rfl,BLe.cells (AB _)⟩,rfl⟩,?_⟩|refine⟨⟨⟨_,rfl,BLe.row rfl⟩,rfl⟩,?_⟩|fail)
       ·intro m m0
        have hlm:((occ.take m).map fun x=>u.2.getD x.toNat 0).length=m:=by rw[List.length_map,List.length_take]; omega
        by_cases hm:m<occ.length
        ·obtain⟨x,hx⟩:∃x,occ[m]? = some x:=⟨_,List.getElem?_eq_getElem hm⟩;have hxb:=hom m x hx;obtain⟨y,hy⟩:∃y,u.2[x.toNat]? = some y:=⟨_,List.getElem?_eq_getElem (by omega)⟩;(repeat' first|refine qv ?_|apply qn|apply qs|apply qr|(refine AD rfl ?_ ?_<;>intro _<;>try(exfalso; omega))|apply qb|apply qk|refine qK ?_|fail);refine ql eI [y] ?_;refine qa (hby:=(by dsimp only[List.length_nil,List.length_cons]; omega)) (hm:=(by dsimp only[List.length_nil,List.length_cons]; omega)) (r:=?_);(repeat' first|refine qv ?_|apply qn|refine Fl.nil (fun _=>by kernel_rfl) ?_|apply qr|refine qw ?_|fail);refine LoopEnd.of (m+1) (by omega) (by omega) ?_;refine Ent.of [(703,114)] ?_ ?_ rfl rfl;(repeat' first|exact True.intro|refine⟨⟨AA _,rfl⟩,?_⟩|refine⟨⟨⟨_,rfl,BLe.cells (AB _)⟩,rfl⟩,?_⟩|refine⟨⟨⟨_,rfl,BLe.row rfl⟩,rfl⟩,?_⟩|refine⟨⟨⟨_,rfl,BLe.row ?_⟩,rfl⟩,?_⟩|fail);rw[Ab hx,List.map_append];congr 1;show[y]=[u.2.getD x.toNat 0];rw[List.getD_eq_getElem?_getD,hy];rfl
        ·have htm:occ.take m=occ:=List.take_of_length_le (by omega);rw[htm];refine AY (Ent.freeze 703 rfl) ?_;(repeat' first|refine qv ?_|apply qn|apply qs|apply qr|refine qe ?_|(refine AD rfl ?_ ?_<;>intro _<;>try(exfalso; omega))|apply qx|refine qK ?_|fail);refine ql eT [tz (u.1,CA occ u.2)] ?_;refine qa (hby:=(by dsimp only[List.length_nil,List.length_cons]; omega)) (hm:=(by dsimp only[List.length_nil,List.length_cons]; omega)) (r:=?_);(repeat' first|refine qv ?_|apply qn|refine Fl.nil (fun _=>by kernel_rfl) ?_|apply qr|refine qw ?_|refine qe ?_|fail);refine LoopEnd.of (k+1) (by omega) (by omega) ?_;refine Ent.of [(702,129)] ?_ ?_ rfl rfl;(repeat' first|exact True.intro|refine⟨⟨AA _,rfl⟩,?_⟩|refine⟨⟨⟨_,rfl,BLe.cells (AB _)⟩,rfl⟩,?_⟩|refine⟨⟨⟨_,rfl,BLe.row rfl⟩,rfl⟩,?_⟩|refine⟨⟨⟨_,rfl,BLe.row ?_⟩,rfl⟩,?_⟩|fail);rw[Ab hu,List.map_append,List.map_append];rfl
      ·have htk:q.take k=q:=List.take_of_length_le (by omega);have hso:=(rSortedU occ.length (by have:=occI_len ls i; omega) 12 M (q.map fun u=>(u.1,CA occ u.2)) (by rw[List.length_map]; omega) (by omega) (by omega) (hq2.pick occ)).1;rw[htk];(repeat' first|refine qv ?_|apply qn|apply qs|apply qr|(refine AD rfl ?_ ?_<;>intro _<;>try(exfalso; omega))|apply qx|refine qK ?_|fail);refine Eo rfl 702 rfl hso rfl rfl rfl (AB _) ?_;(repeat' first|refine qv ?_|apply qn|apply qr|refine qe ?_|fail);refine ql eP [mkP occ.length (canU (q.map fun u=>(u.1,CA occ u.2)))] ?_;refine qa (hby:=(by dsimp only[List.length_nil,List.length_cons]; omega)) (hm:=(by dsimp only[List.length_nil,List.length_cons]; omega)) (r:=?_);(repeat' first|refine qv ?_|apply qn|apply qr|refine qw ?_|refine qe ?_|fail);refine LoopEnd.of (j+1) (by omega) (by omega) ?_;refine Ent.of [(701,139)] ?_ ?_ rfl rfl;(repeat' first|exact True.intro|refine⟨⟨AA _,rfl⟩,?_⟩|refine⟨⟨⟨_,rfl,BLe.cells (AB _)⟩,rfl⟩,?_⟩|refine⟨⟨⟨_,rfl,BLe.row ?_⟩,rfl⟩,?_⟩|fail);rw[Ab hq,List.map_append];rfl
    ·have htj:ls.take j=ls:=List.take_of_length_le (by omega);rw[htj];refine AY (Ent.freeze 701 rfl) ?_;(repeat' first|refine qv ?_|apply qn|apply qs|apply qr|refine qe ?_|(refine AD rfl ?_ ?_<;>intro _<;>try(exfalso; omega))|apply qx|apply qt);exact RetOk.of rfl (AA _)
end Go.Proofs.YtmmfloplhopioaaGreat
/- The reference's polynomials with few small numbers, by inspection. -/
namespace Go.AL
theorem addUs_one (a b:List UT):canU (a++b)=addL a b:=Co fun e=>by
 unfold Bu;rw[Bg,Bg,cfU_map];congr 1
 have:∀l:List UT,cfU l e=sumL (l.map fun u=>if (u.1*1,u.2).2=e then(u.1*1,u.2).1 else 0):=by
  intro l
  induction l with
  | nil=>rfl
  | cons u l ih=>rw[cfU,ih]; simp only[List.map_cons,sumL,Int.mul_one]
 exact this b
end Go.AL
namespace Go.Proofs.YtmmfloplhopioaaGreat
open Go.AL
end Go.Proofs.YtmmfloplhopioaaGreat
/- The reference's polynomials and links, by sizes. -/
namespace Go.AL
theorem linkR_eq {V:Nat} {kind:Int} {ls:List (List UT)} (h:∀p∈ls,SzU V 4 10000 200 p):linkR V kind ls=BF V kind ls:=by
 have e:occI ls V=(occL V ls).map fun(i:Nat)=>(i:Int):=rfl;unfold linkR BF;rw[e,List.length_map];congr 1;refine List.map_congr_left fun p hp=>?_;have:=(pick_sz hp (h p hp)).can.can;unfold EI at this;simp only[pickX_eq];rw[this]; rfl
theorem addE_nn:∀ {a b:List Int},(∀e∈a,0≤e)→(∀e∈b,0≤e)→∀e∈addE a b,0≤e
 | [],b,_,_,e,he=>by simp[addE]at he
 | x::a,[],_,_,e,he=>by simp[addE]at he
 | x::a,y::b,ha,hb,e,he=>by
  simp only[addE,List.zipWith_cons_cons,List.mem_cons]at he;rcases he with rfl|he
  ·have:=ha x (by simp); have:=hb y (by simp); omega
  ·exact addE_nn (fun e h=>ha e (by simp[h])) (fun e h=>hb e (by simp[h])) e he
end Go.AL
namespace Go.Proofs.YtmmfloplhopioaaGreat
open Go.AL
theorem szOkT {V d c n:Nat} {p:List UT} (h:SzU V d c n p) (hd:d≤120) (hc:c<4294967296):okT V 1 p:=fun u hu=>by
 refine⟨(h.ex u hu).1,(ex_ok hd (h.ex u hu)).2.2,FA ?_⟩
 have:u.1.natAbs≤absU p:=by
  have:∀ {l:List UT} {u:UT},u∈l→u.1.natAbs≤absU l:=by
   intro l
   induction l with
   | nil=>intro u hu; simp at hu
   | cons v l ih=>
    intro u hu;simp only[absU];rcases List.mem_cons.1 hu with rfl|hu
    ·omega
    ·have:=ih hu; omega
  exact this hu
 have:=h.ab;omega
theorem r2Add {V d c n d' c' n':Nat} {a b:List UT} (hV:V≤32) (ha:SzU V d c n a) (hb:SzU V d' c' n' b) (h1:d≤120) (h2:d'≤120) (h3:c<4294967296) (h4:c'<4294967296) (h5:n≤3000) (h6:n'≤3000):PureFn Tryz.prog 62 [aP (mkP V a),aP (mkP V b)] (aP (mkP V (addL a b))):=by
 have:=rAddU V 1 (by omega) (by omega) a b ha.can hb.can (szOkT ha h1 h3) (szOkT hb h2 h4) (by have:=ha.ln; omega) (by have:=hb.ln; omega);rwa [addUs_one]at this
theorem r2Sub {V d c n d' c' n':Nat} {a b:List UT} (hV:V≤32) (ha:SzU V d c n a) (hb:SzU V d' c' n' b) (h1:d≤120) (h2:d'≤120) (h3:c<4294967296) (h4:c'<4294967296) (h5:n≤3000) (h6:n'≤3000):PureFn Tryz.prog 63 [aP (mkP V a),aP (mkP V b)] (aP (mkP V (subL a b))):=
 rSubU V 1 (by omega) (by omega) a b ha.can hb.can (szOkT ha h1 h3) (szOkT hb h2 h4) (by have:=ha.ln; omega) (by have:=hb.ln; omega)
theorem r2Mul {V d c n d' c' n':Nat} {a b:List UT} (hV:V≤32) (ha:SzU V d c n a) (hb:SzU V d' c' n' b) (h1:d+d'≤120) (h3:c<4294967296) (h4:c'<4294967296) (h5:n≤3000) (h6:n'≤3000) (h7:n'*n≤4096):PureFn Tryz.prog 60 [aP (mkP V a),aP (mkP V b)] (aP (mkP V (Aq a b))):=by
 refine rMulU V 1 12 (by omega) (by omega) a b (szOkT ha (by omega) h3) (szOkT hb (by omega) h4) hb.can.nz (fun s hs t ht=>?_) (by have:=ha.ln; omega) (by have:=hb.ln; omega) (by have:=Nat.mul_le_mul hb.ln ha.ln; omega) (by decide) (by decide);have e1:=ha.ex s hs;have e2:=hb.ex t ht;intro e he;have hs:=sumL_addE (by rw[e1.1,e2.1]) (a:=s.2) (b:=t.2);have h0:∀e∈addE s.2 t.2,0≤e:=addE_nn e1.2.1 e2.2.1;have:=(sumL_ge h0).2 e he;have:=e1.2.2;have:=e2.2.2;exact⟨h0 e he,by omega⟩
theorem r2Con (V:Nat) (k:Int) (hV:V≤32) (hk:k.natAbs<4294967296):PureFn Tryz.prog 122 [aN V,aX k] (aP (mkP V (conU V k))):=rConstU V k (by omega) (by have:=FA hk; omega)
abbrev w14r (r:AL.Id) (V:Nat) (L:List LZ):List (AL.Id×Bx):=[(900,.cells [aN V,.row r] 102),(r,.row 3 eL L 99)]
theorem Bl (V:Nat) (L:List LZ) (i:Nat) (hi:i<V) (hV:V≤32):IoFn Tryz.prog 59 [.ptr 900 0,aN i] (w14r 901 V L) (.ret (aP (mkP V (varU V i)))) (w14r 901 V L):=by
 refine AH Tryz.func59 rfl Tryz.ntmps59 rfl rfl rfl ?_;(repeat' first|refine qv ?_|apply qn|apply qs|apply qr|refine qe ?_|fail);refine qc (rVarU V i hi (by omega)) ?_;(repeat' first|apply qn|refine qe ?_|apply qt);exact⟨⟨[],_,_,AM _ _ _,rfl,AA _,rfl,⟨⟨⟨_,rfl,BLe.cells (AB _)⟩,rfl⟩,⟨⟨_,rfl,BLe.row rfl⟩,rfl⟩,trivial⟩,rfl,rfl⟩⟩
theorem DH (V:Nat) (L:List LZ) (k:Int) (hk:k.natAbs<4294967296) (hV:V≤32):IoFn Tryz.prog 61 [.ptr 900 0,aN k] (w14r 901 V L) (.ret (aP (mkP V (conU V k)))) (w14r 901 V L):=by
 refine AH Tryz.func61 rfl Tryz.ntmps61 rfl rfl rfl ?_;(repeat' first|refine qv ?_|apply qn|apply qs|apply qr|refine qe ?_|fail);refine qc (Bs k (by omega) (by omega)) ?_;refine qc (r2Con V k hV hk) ?_;(repeat' first|refine Fl.nil (fun _=>by kernel_rfl) ?_|refine qe ?_|apply qt);exact⟨⟨[],_,_,AM _ _ _,rfl,AA _,rfl,⟨⟨⟨_,rfl,BLe.cells (AB _)⟩,rfl⟩,⟨⟨_,rfl,BLe.row rfl⟩,rfl⟩,trivial⟩,rfl,rfl⟩⟩
theorem Bk (V:Nat) (L:List LZ) (hL:L.length≤10000) (kind:Int) (ls:List (List UT)) (hV:V≤32) (hl:ls.length≤100) (h:∀p∈ls,SzU V 4 10000 200 p):IoGn Tryz.prog 64 [.ptr 900 0,aN kind,.sl 2 eP (ls.map (mkP V))] (w14r 901 V L) (.tup []) (w14r 902 V (L++[BF V kind ls])):=by
 refine CG Tryz.func64 rfl Tryz.ntmps64 rfl rfl ?_;have cm:=rMakeL_ok V 1 kind ls (ixN V) rfl (by omega) (by omega) (by omega) fun p hp=>⟨by have:=(h p hp).ln; omega,szOkT (h p hp) (by omega) (by omega)⟩;rw[linkR_eq h]at cm;(repeat' first|refine qv ?_|apply qr);refine qc (rFirst_ok V (by omega)) ?_;(repeat' first|refine qv ?_|fail);refine qc (cm) ?_;refine ql eL [BF V kind ls] ?_;refine qa (hby:=(by dsimp only[List.length_nil,List.length_cons]; omega)) (hm:=(by simp; omega)) (r:=?_);(repeat' first|refine qv ?_|refine Fl.nil (fun _=>by kernel_rfl) ?_|refine qe ?_|fail);exact⟨⟨[(902,20)],_,_,AM _ _ _,rfl,AA _,rfl,⟨⟨⟨_,rfl,BLe.cells (AB _)⟩,rfl⟩,⟨⟨_,rfl,BLe.row rfl⟩,rfl⟩,trivial⟩,rfl,rfl⟩⟩
theorem E2 (m:MZ) (hl:m.code.length≤1000) (h0:0≤m.regs) (h4:m.regs≤1000):PureFn Tryz.prog 34 [aMz m] (aN m.V):=by
 refine AC Tryz.func34 rfl Tryz.ntmps34 rfl rfl ?_;have hV:m.V=3+m.code.length+2*m.regs.toNat:=rfl;(repeat' first|refine qv ?_|apply qn|apply qs|apply qr|refine qw ?_|refine qe ?_|apply qt);exact RetOk.of rfl (AV.Le.int (by omega))
theorem r14Sum_ok (m:MZ) (x:List Int) (hl:m.code.length≤1000) (hx:OkIn m x) (hxl:x.length≤1000):PureFn Tryz.prog 65 [aMz m,aI x] (aN (addZ m x)):=by
 refine AC Tryz.func65 rfl Tryz.ntmps65 rfl rfl ?_
 have hb:∀i,i≤x.length→0≤sumL (x.take i)∧sumL (x.take i)≤1000*i:=fun i hi=>by
  have:=sumL_in (l:=x.take i) fun n hn=>hx.2 n (List.mem_of_mem_take hn);rw[List.length_take]at this;omega
 (repeat' first|refine qv ?_|apply qn|apply qs|apply qr|refine qe ?_|apply qb);refine AWP.loop (G:=Nat) (fun i=>i≤x.length) (fun i=>AO [] [(1,aI x),(5,aN ((m.code.length:Int)+sumL (x.take i))),(6,aN i)] []) (fun i=>x.length-i) 0 (by omega) ?_ ?_
 ·refine Ent.of [] ?_ ?_ rfl rfl;(repeat' first|exact True.intro|refine⟨⟨AA _,rfl⟩,?_⟩|fail)
  all_goals simp[sumL]
 ·intro i k0;have hbi:=hb i k0;refine AE ?_;(repeat' first|refine qv ?_|apply qn|apply qs|apply qr|(refine AD rfl ?_ ?_<;>intro _<;>try(exfalso; omega))|apply qk|apply qx|apply qt)
  ·rename_i hi;obtain⟨y,hy⟩:∃y,x[i]? = some y:=⟨_,List.getElem?_eq_getElem (by omega)⟩
   have hy':x[Int.toNat (i:Int)]? = some y:=by rw[Int.toNat_natCast]; exact hy
   have hyb:=hx.2 y (List.mem_of_getElem? hy);refine⟨?_⟩;(repeat' first|refine qv ?_|apply qn|apply qs|apply qr|refine qw ?_|apply qb|refine qK ?_|fail);refine LoopEnd.of (i+1) (by omega) (by omega) ?_;refine Ent.of [] ?_ ?_ rfl rfl;(repeat' first|exact True.intro|refine⟨⟨AA _,rfl⟩,?_⟩|refine⟨⟨AV.Le.int ?_,rfl⟩,?_⟩|fail);rw[Ab hy,Cp];simp only[sumL]; omega
  ·rename_i hi;rw[List.take_of_length_le (by omega)];exact RetOk.of rfl (AA _)
end Go.Proofs.YtmmfloplhopioaaGreat
/- The reference's sum, System. -/
namespace Go.Proofs.YtmmfloplhopioaaGreat
open Go.AL
set_option maxHeartbeats 1000000 in
theorem r14sum_ok (m:MZ) (hm:OkMZ m) (op reg:Int) (c:IZ→Bool) (hc:∀y,c y=true↔y.op=op∧(reg<0∨y.rg=reg)):PureFn Tryz.prog 66 [aMz m,aN op,aN reg] (aP (mkP m.V (Aj m.V c 0 m.code (conU m.V 0)))):=by
  refine AC Tryz.func66 rfl Tryz.ntmps66 rfl rfl ?_;have hV:=hm.V32;have hl:m.code.length≤15:=hm.l15;have hVe:m.V=3+m.code.length+2*m.R:=rfl;have hr1:=hm.r1;have hr4:=hm.r4;have cv:=E2 m (by omega) (by omega) (by omega);refine AE ?_;(repeat' first|apply qn|apply qr|refine qe ?_|fail);refine⟨AE ?_⟩;(repeat' first|refine qv ?_|apply qr);refine qc (cv) ?_;(repeat' first|apply qn|refine qe ?_|fail);refine⟨AE ?_⟩;(repeat' first|refine qv ?_|apply qn|apply qs|apply qr|apply qb);refine AWP.loop (G:=Nat×List UT) (fun(i,out)=>i≤m.code.length∧SzU m.V 1 i (1+i) out∧Aj m.V c i (m.code.drop i) out=Aj m.V c 0 m.code (conU m.V 0)) (fun(i,out)=>AO [] [(1,aN op),(2,aN reg),(3,.ptr 3 0),(6,.ptr 6 0),(7,.ptr 7 0),(8,aN i)] [(3,.cells (eMz m) 24),(6,.cells [aN 0,.v (.slice none 0 0)] 105),(7,.cells (eP (mkP m.V out)) 105)]) (fun(i,_)=>m.code.length-i) (0,conU m.V 0) ⟨by omega,(SzU.con m.V 0).mono (by omega) (by decide) (by omega),rfl⟩ ?_ ?_
  · refine Ent.of [] ?_ ?_ rfl rfl;(repeat' first|exact True.intro|refine⟨⟨AA _,rfl⟩,?_⟩|refine⟨⟨⟨_,rfl,BLe.cells (AB _)⟩,rfl⟩,?_⟩|refine⟨⟨⟨_,rfl,BLe.cells ?_⟩,rfl⟩,?_⟩|fail);exact LeL.cons (AA _) (LeL.cons (AV.Le.nil 3 eT) LeL.nil)
  · intro ⟨i,out⟩ ⟨k0,k1,k2⟩;refine AE ?_;(repeat' first|refine qv ?_|apply qn|apply qs|apply qr|(refine AD rfl ?_ ?_<;>intro _<;>try(exfalso; omega))|apply qk|apply qx)
    · rename_i hi;obtain⟨y,hy⟩:∃y,m.code[i]? = some y:=⟨_,List.getElem?_eq_getElem (by omega)⟩
      have hy':m.code[Int.toNat (i:Int)]? = some y:=by rw[Int.toNat_natCast]; exact hy
      rw[FF hy]at k2;have hcy:=hc y;have v:=AN (V:=m.V) (i:=3+i) (by omega);have ca:=r2Add (show m.V≤32 by omega) k1 v (by omega) (by omega) (by omega) (by omega) (by omega) (by omega)
      have yes:y.op=op∧(reg<0∨y.rg=reg)→Aj m.V c (i+1) (m.code.drop (i+1)) (addL out (varU m.V (3+i)))=Aj m.V c 0 m.code (conU m.V 0):=fun h=>by
        rw[if_pos (hcy.2 h),CL k1 v]at k2; exact k2
      have no:¬(y.op=op∧(reg<0∨y.rg=reg))→Aj m.V c (i+1) (m.code.drop (i+1)) out=Aj m.V c 0 m.code (conU m.V 0):=fun h=>by
        rw[if_neg fun k=>h (hcy.1 k)]at k2; exact k2
      refine⟨?_⟩;(repeat' first|refine qv ?_|apply qn|apply qs|apply qr|refine qw ?_|refine Fl.skip rfl rfl ?_|refine AJ rfl ?_|refine AF rfl ?_|(refine AD rfl ?_ ?_<;>intro _<;>try(exfalso; omega))|apply qb|apply qk|refine qK ?_|(refine AG rfl rfl ?_ ?_<;>intro _<;>try(exfalso; omega)))
      all_goals first
        | (refine LoopEnd.of (i+1,out) ⟨by omega,k1.mono (by omega) (by omega) (by omega),no (by omega)⟩ (by simp only; omega) ?_
           refine Ent.of [] ?_ ?_ rfl rfl
           repeat'(first|exact True.intro|refine⟨⟨AA _,rfl⟩,?_⟩|refine⟨⟨⟨_,rfl,BLe.cells (AB _)⟩,rfl⟩,?_⟩|fail))
        | skip
      · refine qc (cv) ?_;(repeat' first|refine qv ?_|refine qw ?_|fail);refine qc (rVarU m.V (3+i) (by omega) (by omega)) ?_;refine qc (ca) ?_;(repeat' first|refine qv ?_|apply qn|refine Fl.nil (fun _=>by kernel_rfl) ?_|apply qr|refine qw ?_|refine qe ?_|fail);refine LoopEnd.of (i+1,addL out (varU m.V (3+i))) ⟨by omega,(k1.add v).mono (by omega) (by omega) (by omega),yes (by omega)⟩ (by simp only; omega) ?_;refine Ent.of [] ?_ ?_ rfl rfl;(repeat' first|exact True.intro|refine⟨⟨AA _,rfl⟩,?_⟩|refine⟨⟨⟨_,rfl,BLe.cells (AB _)⟩,rfl⟩,?_⟩|fail)
      · refine qc (cv) ?_;(repeat' first|refine qv ?_|refine qw ?_|fail);refine qc (rVarU m.V (3+i) (by omega) (by omega)) ?_;refine qc (ca) ?_;(repeat' first|refine qv ?_|apply qn|refine Fl.nil (fun _=>by kernel_rfl) ?_|apply qr|refine qw ?_|refine qe ?_|fail);refine LoopEnd.of (i+1,addL out (varU m.V (3+i))) ⟨by omega,(k1.add v).mono (by omega) (by omega) (by omega),yes (by omega)⟩ (by simp only; omega) ?_;refine Ent.of [] ?_ ?_ rfl rfl;(repeat' first|exact True.intro|refine⟨⟨AA _,rfl⟩,?_⟩|refine⟨⟨⟨_,rfl,BLe.cells (AB _)⟩,rfl⟩,?_⟩|fail)
    · rename_i hi;rw[List.drop_of_length_le (by omega)]at k2;rw[←k2];refine⟨?_⟩;(repeat' first|refine qv ?_|apply qn|apply qs|apply qr|refine qe ?_|apply qt);exact RetOk.of rfl (AA _)
abbrev r14E (m:MZ) (x:List Int):List (Nat×AV):=[(1,aI x),(2,.ptr 2 0),(4,.ptr 4 0),(5,.ptr 25 0),(6,aN m.code.length),(7,.ptr 7 0),(8,.ptr 8 0),(9,.ptr 9 0),(10,.ptr 10 0),(11,.ptr 11 0)]
abbrev r14B (m:MZ) (L:List LZ):List (AL.Id×Bx):=[(2,.cells (eMz m) 24),(4,.cells [aN 0,.v (.slice none 0 0)] 39),(25,.cells [aN m.V,.row 801] 102),(801,.row 3 eL (L) 99),(7,.cells (eP (mkP m.V (varU m.V 0))) 105),(8,.cells (eP (mkP m.V (varU m.V 1))) 105),(9,.cells (eP (mkP m.V (varU m.V 2))) 105),(10,.cells (eP (mkP m.V (hsQ m.V))) 105),(11,.cells (eP (mkP m.V (Bp m.V))) 105)]
set_option maxHeartbeats 4000000 in
theorem r14System_ok (m:MZ) (x:List Int) (hm:OkMZ m) (hx:OkIn m x):PureFn Tryz.prog 25 [aMz m,aI x] (aS (hsS m x)):=by
 refine AC Tryz.func25 rfl Tryz.ntmps25 rfl rfl ?_
 have hV:m.V≤32:=by have:=hm.V32; omega
 have h6:=hm.V6;have hl:m.code.length≤15:=hm.l15;have hll:m.l=m.code.length:=rfl;have hl1:1≤m.code.length:=hm.l1;have hVe:m.V=3+m.code.length+2*m.R:=rfl;have hr1:=hm.r1;have hr4:=hm.r4;have hRe:=Cm hm;have hxl:=hx.1;obtain⟨s1,s2,s3⟩:=addZ_b hm hx;have hsm:=DC hm hx;have cv:=E2 m (by omega) (by omega) (by omega);have cs:=r14Sum_ok m x (by omega) hx (by omega);have q:=(Ba h6).1;have eq:hsQ m.V=Aq (conU m.V 2) (varU m.V 1):=BL (SzU.con m.V 2);have v0:=AN (V:=m.V) (i:=0) (by omega);have v1:=AN (V:=m.V) (i:=1) (by omega);have v2:=AN (V:=m.V) (i:=2) (by omega);have k1:=SzU.con m.V 1;have k2:=SzU.con m.V 2;have ka:=SzU.con m.V (addZ m x);have qm:=q.sub k1;have qi:=(Cz h6).2.2.2.2.2;have al:=(Cz h6).1;have cq:=r2Mul hV k2 v1 (by omega) (by decide) (by omega) (by omega) (by omega) (by omega);rw[←eq]at cq;have cqm:=r2Sub hV q k1 (by omega) (by omega) (by omega) (by decide) (by omega) (by omega);have cqi:=r2Mul hV qm v2 (by omega) (by decide) (by omega) (by omega) (by omega) (by omega)
 have eal:Bp m.V=addL (conU m.V 1) (Aq (subL (hsQ m.V) (conU m.V 1)) (varU m.V 2)):=by unfold Bp; rw[BL qm,CL k1 (qm.mul v2)]
 have cal:=r2Add hV k1 (qm.mul v2) (by omega) (by omega) (by decide) (by decide) (by omega) (by omega);rw[←eal]at cal;have csa:=r2Add hV v0 ka (by omega) (by omega) (by omega) (by omega) (by omega) (by omega);have cs1:=r2Add hV v0 k1 (by omega) (by omega) (by omega) (by decide) (by omega) (by omega);have esa:addL (varU m.V 0) (conU m.V (addZ m x))=An [] [varU m.V 0,conU m.V (addZ m x)]:=(CL v0 ka).symm;have es1:addL (varU m.V 0) (conU m.V 1)=An [] [varU m.V 0,conU m.V 1]:=(CL v0 k1).symm;rw[esa]at csa;rw[es1]at cs1;have smA:∀s∈hsA m x,∀p∈s.2,SzU m.V 4 10000 200 p:=fun s hs p hp=>(hsm s (by simp only[hsK,List.mem_append]; exact .inl (.inl (.inl (.inl (.inl hs)))))).2.2 p hp;have z1:∀p∈[conU m.V 2,An [] [varU m.V 0,conU m.V (addZ m x)],varU m.V 1],SzU m.V 4 10000 200 p:=smA (2,_) (by simp[hsA]);have z2:∀p∈[hsQ m.V,An [] [varU m.V 0,conU m.V 1],Bp m.V],SzU m.V 4 10000 200 p:=smA (2,_) (by simp[hsA]);have z3:∀p∈[subL (varU m.V 2) (Aj m.V (fun _=>true) 0 m.code (conU m.V 0))],SzU m.V 4 10000 200 p:=smA (0,_) (by simp[hsA]);have z4:∀p∈[conU m.V 1,varU m.V 3],SzU m.V 4 10000 200 p:=fun p hp=>(hsm (3,[conU m.V 1,varU m.V 3]) (by simp only[hsK,List.mem_append]; exact .inl (.inl (.inl (.inr (by simp[hsC])))))).2.2 p hp;have z5:∀p∈[hsQ m.V,varU m.V 0,Aj m.V (fun x=>decide (x.op=3)) 0 m.code (conU m.V 0)],SzU m.V 4 10000 200 p:=fun p hp=>(hsm (2,[hsQ m.V,varU m.V 0,Aj m.V (fun x=>decide (x.op=3)) 0 m.code (conU m.V 0)]) (by simp only[hsK,List.mem_append]; exact .inl (.inl (.inl (.inr (by simp[hsC])))))).2.2 p hp;have smB:∀i,i<m.code.length→∀p∈[varU m.V (3+i),varU m.V 2],SzU m.V 4 10000 200 p:=fun i hi p hp=>(hsm (hsB m i) (by simp only[hsK,List.mem_append]; exact .inl (.inl (.inl (.inl (.inr (List.mem_map.2 ⟨i,List.mem_range.2 hi,rfl⟩))))))).2.2 p hp;have hm1:=v1.sub k1;have chm:=r2Sub hV v1 k1 (by omega) (by omega) (by omega) (by decide) (by omega) (by omega);have chi:=r2Mul hV hm1 v2 (by omega) (by decide) (by omega) (by omega) (by omega) (by omega)
 have eD:∀j,lkZ m (hsD m j)=BF m.V 3 [varU m.V (3+m.code.length+j),Aq (subL (varU m.V 1) (conU m.V 1)) (varU m.V 2)]:=fun j=>by
  show BF m.V 3 [varU m.V (3+m.code.length+j),A0 (conU m.V 1) [subL (varU m.V 1) (conU m.V 1),varU m.V 2]]=_;rw[BL hm1]
 have smD:∀j,j<m.R→∀p∈[varU m.V (3+m.code.length+j),Aq (subL (varU m.V 1) (conU m.V 1)) (varU m.V 2)],SzU m.V 4 10000 200 p:=fun j hj p hp=>(hsm (hsD m j) (by simp only[hsK,List.mem_append]; exact .inl (.inl (.inr (List.mem_map.2 ⟨j,List.mem_range.2 hj,rfl⟩))))).2.2 p (by
  show p∈[varU m.V (3+m.code.length+j),A0 (conU m.V 1) [subL (varU m.V 1) (conU m.V 1),varU m.V 2]]
  rw[BL hm1]; exact hp)
 have ch:=r14sum_ok m hm 3 (-1) (fun x=>decide (x.op=3)) fun y=>by rw[decide_eq_true_eq]; exact⟨fun h=>⟨h,.inl (by omega)⟩,fun h=>h.1⟩
 have hqv:∀i,i<m.V→SzU m.V 2 2 1 (Aq (hsQ m.V) (varU m.V i)):=fun i hi=>(q.mul (AN (V:=m.V) hi)).mono (by omega) (by decide) (by omega)
 have cH:∀i,i<m.code.length→PureFn Tryz.prog 60 [aP (mkP m.V (hsQ m.V)),aP (mkP m.V (varU m.V (3+i)))] (aP (mkP m.V (Ai m i))):=fun i hi=>by
  have:=r2Mul hV q (AN (V:=m.V) (i:=3+i) (by omega)) (by omega) (by omega) (by omega) (by omega) (by omega) (by omega);unfold Ai; rw[BL q]; exact this
 have cqo:=r2Mul hV q v2 (by omega) (by omega) (by omega) (by omega) (by omega) (by omega);have hqo:=hqv 2 (by omega);have h2v:∀i,i<m.V→SzU m.V 1 2 1 (Aq (conU m.V 2) (varU m.V i)):=fun i hi=>(k2.mul (AN (V:=m.V) hi)).mono (by omega) (by decide) (by omega);have c2r:∀i,i<m.V→PureFn Tryz.prog 60 [aP (mkP m.V (conU m.V 2)),aP (mkP m.V (varU m.V i))] (aP (mkP m.V (Aq (conU m.V 2) (varU m.V i)))):=fun i hi=>r2Mul hV k2 (AN (V:=m.V) hi) (by omega) (by decide) (by omega) (by omega) (by omega) (by omega);have cJ1:∀i,i<m.V→PureFn Tryz.prog 63 [aP (mkP m.V (Aq (hsQ m.V) (varU m.V 2))),aP (mkP m.V (Aq (conU m.V 2) (varU m.V i)))] (aP (mkP m.V (subL (Aq (hsQ m.V) (varU m.V 2)) (Aq (conU m.V 2) (varU m.V i))))):=fun i hi=>r2Sub hV hqo (h2v i hi) (by omega) (by omega) (by omega) (by omega) (by omega) (by omega)
 have cJ2:∀y:IZ,y.nx.toNat<m.l→y.rg.toNat<m.R→PureFn Tryz.prog 62 [aP (mkP m.V (varU m.V (3+y.nx.toNat))),aP (mkP m.V (subL (Aq (hsQ m.V) (varU m.V 2)) (Aq (conU m.V 2) (varU m.V (3+m.code.length+y.rg.toNat)))))] (aP (mkP m.V (C5 m y))):=fun y h1 h2=>by
  rw[jmp_ref hm h1 h2,←eq];exact r2Add hV (AN (V:=m.V) (i:=3+y.nx.toNat) (by omega)) (hqo.sub (h2v (3+m.code.length+y.rg.toNat) (by omega))) (by omega) (by omega) (by omega) (by omega) (by omega) (by omega)
 have cN:∀a b,a<m.V→b<m.V→PureFn Tryz.prog 62 [aP (mkP m.V (varU m.V a)),aP (mkP m.V (varU m.V b))] (aP (mkP m.V (An [] [varU m.V a,varU m.V b]))):=fun a b ha hb=>by
  rw[CL (AN (V:=m.V) ha) (AN (V:=m.V) hb)];exact r2Add hV (AN (V:=m.V) ha) (AN (V:=m.V) hb) (by omega) (by omega) (by omega) (by omega) (by omega) (by omega)
 have smG:∀i,i<m.code.length→∀s∈hsGo m i (m.at i),∀p∈s.2,SzU m.V 4 10000 200 p:=fun i hi s hs p hp=>(hsm s (by simp only[hsK,List.mem_append]; exact .inl (.inr (List.mem_flatMap.2 ⟨i,List.mem_range.2 hi,hs⟩)))).2.2 p hp;have smF:∀j,j<m.R→∀p∈(hsF m x j).2,SzU m.V 4 10000 200 p:=fun j hj p hp=>(hsm (hsF m x j) (by simp only[hsK,List.mem_append]; exact .inr (List.mem_map.2 ⟨j,List.mem_range.2 hj,rfl⟩))).2.2 p hp;have cL1:∀j,j<m.R→PureFn Tryz.prog 60 [aP (mkP m.V (varU m.V (3+m.code.length+m.R+j))),aP (mkP m.V (Bp m.V))] (aP (mkP m.V (Aq (varU m.V (3+m.code.length+m.R+j)) (Bp m.V)))):=fun j hj=>r2Mul hV (AN (V:=m.V) (by omega)) al (by omega) (by omega) (by omega) (by omega) (by omega) (by omega)
 have cL2:∀j,j<m.R→PureFn Tryz.prog 62 [aP (mkP m.V (varU m.V (3+m.code.length+j))),aP (mkP m.V (Aq (varU m.V (3+m.code.length+m.R+j)) (Bp m.V)))] (aP (mkP m.V (hsL m j))):=fun j hj=>by
  have va:=AN (V:=m.V) (i:=3+m.code.length+j) (by omega);have vb:=AN (V:=m.V) (i:=3+m.code.length+m.R+j) (by omega)
  have e:hsL m j=addL (varU m.V (3+m.code.length+j)) (Aq (varU m.V (3+m.code.length+m.R+j)) (Bp m.V)):=by
   show An [] [varU m.V (3+m.code.length+j),A0 (conU m.V 1) [varU m.V (3+m.code.length+m.R+j),Bp m.V]]=_;rw[BL vb,CL va (vb.mul al)]
  rw[e];exact r2Add hV va (vb.mul al) (by omega) (by omega) (by omega) (by omega) (by omega) (by omega)
 have hsu:=fun c=>DZ hm c
 have cu0:∀j:Nat,PureFn Tryz.prog 66 [aMz m,aN 0,aN j] (aP (mkP m.V (Aj m.V (fun x=>decide (x.op=0)&&decide (x.rg=j)) 0 m.code (conU m.V 0)))):=fun j=>r14sum_ok m hm 0 j _ fun y=>by simp only[Bool.and_eq_true,decide_eq_true_eq]; omega
 have cu1:∀j:Nat,PureFn Tryz.prog 66 [aMz m,aN 1,aN j] (aP (mkP m.V (Aj m.V (fun x=>decide (x.op=1)&&decide (x.rg=j)) 0 m.code (conU m.V 0)))):=fun j=>r14sum_ok m hm 1 j _ fun y=>by simp only[Bool.and_eq_true,decide_eq_true_eq]; omega
 have cM1:=fun c c'=>r2Sub hV (hsu c) (hsu c') (by omega) (by omega) (by omega) (by omega) (by omega) (by omega);have cM2:=fun(j:Nat) (hj:j<m.R) c c'=>r2Add hV (AN (V:=m.V) (i:=3+m.code.length+j) (by omega)) ((hsu c).sub (hsu c')) (by omega) (by omega) (by omega) (by omega) (by omega) (by omega);have cM3:=fun(j:Nat) (hj:j<m.R) c c'=>r2Mul hV q ((AN (V:=m.V) (i:=3+m.code.length+j) (by omega)).add ((hsu c).sub (hsu c'))) (by omega) (by omega) (by omega) (by omega) (by omega) (by omega)
 have cM4:∀j:Nat,j<m.R→PureFn Tryz.prog 62 [aP (mkP m.V (conU m.V (x.getD j 0))),aP (mkP m.V (Aq (hsQ m.V) (addL (varU m.V (3+m.code.length+j)) (subL (Aj m.V (fun x=>decide (x.op=0)&&decide (x.rg=j)) 0 m.code (conU m.V 0)) (Aj m.V (fun x=>decide (x.op=1)&&decide (x.rg=j)) 0 m.code (conU m.V 0))))))] (aP (mkP m.V (subL (hsR0 m x j) (BI m 1 j)))):=fun j hj=>by
  rw[right_ref hm hx hj,←eq];have hb:=getD_in hx j;exact r2Add hV (SzU.con m.V (x.getD j 0)) (q.mul ((AN (V:=m.V) (i:=3+m.code.length+j) (by omega)).add ((hsu _).sub (hsu _)))) (by omega) (by omega) (by omega) (by omega) (by omega) (by omega)
 have cM5:∀j:Nat,j<m.R→PureFn Tryz.prog 63 [aP (mkP m.V (hsL m j)),aP (mkP m.V (subL (hsR0 m x j) (BI m 1 j)))] (aP (mkP m.V (subL (hsL m j) (subL (hsR0 m x j) (BI m 1 j))))):=fun j hj=>r2Sub hV (sz_L hm hj).1 ((sz_R0 hm hx hj).1.sub (sz_does hm 1 j)) (by omega) (by omega) (by omega) (by omega) (by omega) (by omega);have gl:=go_len (m:=m);clear smA;clear eq eal esa es1;refine AE ?_;(repeat' first|apply qn|apply qr|refine qe ?_|fail);refine⟨AE ?_⟩;(repeat' first|refine qv ?_|apply qr);refine qc (cv) ?_;(repeat' first|refine qv ?_|apply qn|refine qe ?_|fail);refine⟨AE ?_⟩;refine AY (Bc 25 1 825 rfl rfl rfl 3 eL 99) ?_;(repeat' first|refine qv ?_|apply qn|apply qr);refine⟨AE ?_⟩;(repeat' first|refine qv ?_|apply qr);refine qR [(900,25),(901,825)] (Bl m.V _ (0) (by omega) hV) ?_;(repeat' first|refine qv ?_|fail);refine qR [(900,25),(901,825)] (Bl m.V _ (1) (by omega) hV) ?_;(repeat' first|refine qv ?_|fail);refine qR [(900,25),(901,825)] (Bl m.V _ (2) (by omega) hV) ?_;(repeat' first|apply qn|refine qe ?_|fail);refine⟨AE ?_⟩;(repeat' first|refine qv ?_|apply qr);refine qR [(900,25),(901,825)] (DH m.V _ (2) (by decide) hV) ?_;(repeat' first|refine qv ?_|fail);refine qc (cq) ?_;(repeat' first|refine Fl.nil (fun _=>by kernel_rfl) ?_|refine qe ?_|fail);refine⟨AE ?_⟩;(repeat' first|refine qv ?_|apply qr);refine qR [(900,25),(901,825)] (DH m.V _ (1) (by decide) hV) ?_;(repeat' first|refine qv ?_|fail);refine qR [(900,25),(901,825)] (DH m.V _ (1) (by decide) hV) ?_;refine qc (cqm) ?_;(repeat' first|refine qv ?_|fail);refine qc (cqi) ?_;refine qc (cal) ?_;(repeat' first|refine Fl.nil (fun _=>by kernel_rfl) ?_|refine qe ?_|fail);refine⟨AE ?_⟩;(repeat' first|refine qv ?_|apply qr);refine qR [(900,25),(901,825)] (DH m.V _ (2) (by decide) hV) ?_;(repeat' first|refine qv ?_|fail);refine qc (cs) ?_;refine qR [(900,25),(901,825)] (DH m.V _ (addZ m x) (by omega) hV) ?_;refine qc (csa) ?_;(repeat' first|refine qv ?_|fail);refine ql eP [mkP m.V (conU m.V 2),mkP m.V (An [] [varU m.V 0,conU m.V (addZ m x)]),mkP m.V (varU m.V 1)] ?_;refine CI rfl [(900,25),(901,825),(902,60)] (Bk m.V _ (by simp) 2 [conU m.V 2,An [] [varU m.V 0,conU m.V (addZ m x)],varU m.V 1] hV (by simp) z1) rfl rfl (AB _) rfl ⟨⟨⟨_,rfl,BLe.cells (AB _)⟩,rfl⟩,⟨⟨_,rfl,BLe.row rfl⟩,rfl⟩,trivial⟩ rfl rfl rfl rfl rfl ?_;(repeat' first|refine Fl.nil (fun _=>by kernel_rfl) ?_|fail);refine⟨AE ?_⟩;(repeat' first|refine qv ?_|apply qr);refine qR [(900,25),(901,60)] (DH m.V _ (1) (by decide) hV) ?_;refine qc (cs1) ?_;(repeat' first|refine qv ?_|fail);refine ql eP [mkP m.V (hsQ m.V),mkP m.V (An [] [varU m.V 0,conU m.V 1]),mkP m.V (Bp m.V)] ?_;refine CI rfl [(900,25),(901,60),(902,69)] (Bk m.V _ (by simp) 2 [hsQ m.V,An [] [varU m.V 0,conU m.V 1],Bp m.V] hV (by simp) z2) rfl rfl (AB _) rfl ⟨⟨⟨_,rfl,BLe.cells (AB _)⟩,rfl⟩,⟨⟨_,rfl,BLe.row rfl⟩,rfl⟩,trivial⟩ rfl rfl rfl rfl rfl ?_;(repeat' first|refine Fl.nil (fun _=>by kernel_rfl) ?_|fail);refine⟨AE ?_⟩;(repeat' first|refine qv ?_|apply qn|apply qr|refine qe ?_|fail);refine⟨AE ?_⟩;(repeat' first|refine qv ?_|apply qn|apply qs|apply qr|apply qb);obtain⟨L1,eL1⟩:∃L1,L1=[]++[BF m.V 2 [conU m.V 2,An [] [varU m.V 0,conU m.V (addZ m x)],varU m.V 1]]++[BF m.V 2 [hsQ m.V,An [] [varU m.V 0,conU m.V 1],Bp m.V]]:=⟨_,rfl⟩
 have hL1:L1.length=2:=by rw[eL1]; rfl
 rw[←eL1];refine AWP.loop (G:=Nat×List UT) (fun(i,out)=>i≤m.code.length∧SzU m.V 1 i (1+i) out∧Aj m.V (fun _=>true) i (m.code.drop i) out=Aj m.V (fun _=>true) 0 m.code (conU m.V 0)) (fun(i,out)=>AO [] (r14E m x++[(12,.ptr 12 0),(13,aN i)]) (r14B m (L1)++[(12,.cells (eP (mkP m.V out)) 105)])) (fun(i,_)=>m.code.length-i) (0,conU m.V 0) ⟨by omega,(SzU.con m.V 0).mono (by omega) (by decide) (by omega),rfl⟩ ?_ ?_
 ·refine Ent.of [(801,69)] ?_ ?_ rfl rfl;(repeat' first|exact True.intro|refine⟨⟨AA _,rfl⟩,?_⟩|refine⟨⟨⟨_,rfl,BLe.cells (AB _)⟩,rfl⟩,?_⟩|refine⟨⟨⟨_,rfl,BLe.row rfl⟩,rfl⟩,?_⟩|refine⟨⟨⟨_,rfl,BLe.cells ?_⟩,rfl⟩,?_⟩|fail)
  all_goals exact LeL.cons (AA _) (LeL.cons (AV.Le.nil 3 eT) LeL.nil)
 ·intro ⟨i,out⟩ ⟨j0,j1,j2⟩;refine AE ?_;(repeat' first|refine qv ?_|apply qn|apply qs|apply qr|(refine AD rfl ?_ ?_<;>intro _<;>try(exfalso; omega))|apply qk|apply qx)
  ·rename_i hi;obtain⟨y,hy⟩:∃y,m.code[i]? = some y:=⟨_,List.getElem?_eq_getElem (by omega)⟩;have vi:=AN (V:=m.V) (i:=3+i) (by omega);rw[FF hy,if_pos rfl,CL j1 vi]at j2;have ca:=r2Add hV j1 vi (by omega) (by omega) (by omega) (by omega) (by omega) (by omega);refine⟨?_⟩;(repeat' first|refine qv ?_|apply qs|apply qr|refine qw ?_|apply qb);refine qR [(900,25),(901,801)] (Bl m.V _ (3+i) (by omega) hV) ?_;refine qc (ca) ?_;(repeat' first|refine qv ?_|apply qn|refine Fl.nil (fun _=>by kernel_rfl) ?_|apply qr|refine qw ?_|refine qe ?_|fail);refine LoopEnd.of (i+1,addL out (varU m.V (3+i))) ⟨by omega,(j1.add vi).mono (by omega) (by omega) (by omega),j2⟩ (by simp only; omega) ?_;refine Ent.of [] ?_ ?_ rfl rfl;(repeat' first|exact True.intro|refine⟨⟨AA _,rfl⟩,?_⟩|refine⟨⟨⟨_,rfl,BLe.cells (AB _)⟩,rfl⟩,?_⟩|refine⟨⟨⟨_,rfl,BLe.row rfl⟩,rfl⟩,?_⟩|fail)
  ·rename_i hi;rw[List.drop_of_length_le (by omega)]at j2;have j3:out=Aj m.V (fun _=>true) 0 m.code (conU m.V 0):=j2
   have hil:i=m.code.length:=by omega
   subst hil;have cu:=r2Sub hV v2 j1 (by omega) (by omega) (by omega) (by omega) (by omega) (by omega);clear j2;subst j3;refine⟨AE ?_⟩;(repeat' first|refine qv ?_|apply qr);refine qc (cu) ?_;refine ql eP [mkP m.V (subL (varU m.V 2) (Aj m.V (fun _=>true) 0 m.code (conU m.V 0)))] ?_;refine CI rfl [(900,25),(901,801),(902,91)] (Bk m.V L1 (by omega) 0 [subL (varU m.V 2) (Aj m.V (fun _=>true) 0 m.code (conU m.V 0))] hV (by simp) z3) rfl rfl (AB _) rfl ⟨⟨⟨_,rfl,BLe.cells (AB _)⟩,rfl⟩,⟨⟨_,rfl,BLe.row rfl⟩,rfl⟩,trivial⟩ rfl rfl rfl rfl rfl ?_;(repeat' first|apply qn);refine⟨AE ?_⟩;(repeat' first|refine qv ?_|apply qn|apply qs|apply qr|apply qb);obtain⟨L2,eL2⟩:∃L2,L2=L1++[BF m.V 0 [subL (varU m.V 2) (Aj m.V (fun _=>true) 0 m.code (conU m.V 0))]]:=⟨_,rfl⟩
   have hL2:L2.length=3:=by rw[eL2,List.length_append,hL1]; rfl
   rw[←eL2];refine AWP.loop (G:=Nat) (fun i=>i≤m.code.length) (fun i=>AO [] (r14E m x++[(14,aN i)]) (r14B m (L2++(List.range i).map (fun k=>lkZ m (hsB m k))))) (fun i=>m.code.length-i) 0 (by omega) ?_ ?_
   ·refine Ent.of [(801,91)] ?_ ?_ rfl rfl;(repeat' first|exact True.intro|refine⟨⟨AA _,rfl⟩,?_⟩|refine⟨⟨⟨_,rfl,BLe.cells (AB _)⟩,rfl⟩,?_⟩|refine⟨⟨⟨_,rfl,BLe.row ?_⟩,rfl⟩,?_⟩|fail);simp
   ·intro i j0;refine AE ?_;(repeat' first|refine qv ?_|apply qn|apply qs|apply qr|(refine AD rfl ?_ ?_<;>intro _<;>try(exfalso; omega))|apply qk|apply qx)
    ·rename_i hi;refine⟨?_⟩;(repeat' first|refine qv ?_|apply qs|apply qr|refine qw ?_|apply qb);refine qR [(900,25),(901,801)] (Bl m.V _ (3+i) (by omega) hV) ?_;(repeat' first|refine qv ?_|fail);refine ql eP [mkP m.V (varU m.V (3+i)),mkP m.V (varU m.V 2)] ?_;refine CI rfl [(900,25),(901,801),(902,104)] (Bk m.V _ (by simp; omega) 3 [varU m.V (3+i),varU m.V 2] hV (by simp) (smB i (by omega))) rfl rfl (AB _) rfl ⟨⟨⟨_,rfl,BLe.cells (AB _)⟩,rfl⟩,⟨⟨_,rfl,BLe.row rfl⟩,rfl⟩,trivial⟩ rfl rfl rfl rfl rfl ?_;(repeat' first|refine qv ?_|apply qn|refine Fl.nil (fun _=>by kernel_rfl) ?_|apply qr|refine qw ?_|fail);refine LoopEnd.of (i+1) (by omega) (by omega) ?_;refine Ent.of [(801,104)] ?_ ?_ rfl rfl;(repeat' first|exact True.intro|refine⟨⟨AA _,rfl⟩,?_⟩|refine⟨⟨⟨_,rfl,BLe.cells (AB _)⟩,rfl⟩,?_⟩|refine⟨⟨⟨_,rfl,BLe.row ?_⟩,rfl⟩,?_⟩|fail);rw[B7]; rfl
    ·rename_i hi
     have hil:i=m.code.length:=by omega
     subst hil;obtain⟨L3,eL3⟩:∃L3,L3=L2++(List.range m.code.length).map (fun k=>lkZ m (hsB m k)):=⟨_,rfl⟩
     have hL3:L3.length≤18:=by rw[eL3,List.length_append,hL2]; simp; omega
     rw[←eL3];refine⟨AE ?_⟩;(repeat' first|refine qv ?_|apply qr);refine qR [(900,25),(901,801)] (DH m.V _ (1) (by decide) hV) ?_;(repeat' first|refine qv ?_|fail);refine qR [(900,25),(901,801)] (Bl m.V _ (3) (by omega) hV) ?_;refine ql eP [mkP m.V (conU m.V 1),mkP m.V (varU m.V 3)] ?_;refine qG [(900,25),(901,801),(902,111)] (Bk m.V L3 (by omega) 3 [conU m.V 1,varU m.V 3] hV (by simp) z4) ?_;(repeat' first|apply qn);refine⟨AE ?_⟩;(repeat' first|refine qv ?_|apply qr);refine qc (ch) ?_;refine ql eP [mkP m.V (hsQ m.V),mkP m.V (varU m.V 0),mkP m.V (Aj m.V (fun x=>decide (x.op=3)) 0 m.code (conU m.V 0))] ?_;refine CI rfl [(900,25),(901,111),(902,118)] (Bk m.V _ (by simp; omega) 2 [hsQ m.V,varU m.V 0,Aj m.V (fun x=>decide (x.op=3)) 0 m.code (conU m.V 0)] hV (by simp) z5) rfl rfl (AB _) rfl ⟨⟨⟨_,rfl,BLe.cells (AB _)⟩,rfl⟩,⟨⟨_,rfl,BLe.row rfl⟩,rfl⟩,trivial⟩ rfl rfl rfl rfl rfl ?_;(repeat' first|refine Fl.nil (fun _=>by kernel_rfl) ?_|fail);obtain⟨L4,eL4⟩:∃L4,L4=L3++[BF m.V 3 [conU m.V 1,varU m.V 3]]++[BF m.V 2 [hsQ m.V,varU m.V 0,Aj m.V (fun x=>decide (x.op=3)) 0 m.code (conU m.V 0)]]:=⟨_,rfl⟩
     have hL4:L4.length≤20:=by rw[eL4,List.length_append,List.length_append]; simp; omega
     rw[←eL4];refine⟨AE ?_⟩;(repeat' first|refine qv ?_|apply qn|apply qs|apply qr|apply qb);refine AWP.loop (G:=Nat) (fun j=>j≤m.R) (fun j=>AO [] (r14E m x++[(15,aN j)]) (r14B m (L4++(List.range j).map (fun k=>lkZ m (hsD m k))))) (fun j=>m.R-j) 0 (by omega) ?_ ?_
     ·refine Ent.of [(801,118)] ?_ ?_ rfl rfl;(repeat' first|exact True.intro|refine⟨⟨AA _,rfl⟩,?_⟩|refine⟨⟨⟨_,rfl,BLe.cells (AB _)⟩,rfl⟩,?_⟩|refine⟨⟨⟨_,rfl,BLe.row ?_⟩,rfl⟩,?_⟩|fail);simp
     ·intro j j0;refine AE ?_;(repeat' first|refine qv ?_|apply qn|apply qs|apply qr|(refine AD rfl ?_ ?_<;>intro _<;>try(exfalso; omega))|apply qk|apply qx)
      ·rename_i hj;refine⟨?_⟩;(repeat' first|refine qv ?_|apply qs|apply qr|refine qw ?_|apply qb);refine qR [(900,25),(901,801)] (Bl m.V _ (3+m.code.length+j) (by omega) hV) ?_;(repeat' first|refine qv ?_|fail);refine qR [(900,25),(901,801)] (DH m.V _ (1) (by decide) hV) ?_;refine qc (chm) ?_;(repeat' first|refine qv ?_|fail);refine qc (chi) ?_;refine ql eP [mkP m.V (varU m.V (3+m.code.length+j)),mkP m.V (Aq (subL (varU m.V 1) (conU m.V 1)) (varU m.V 2))] ?_;refine CI rfl [(900,25),(901,801),(902,139)] (Bk m.V _ (by simp; omega) 3 [varU m.V (3+m.code.length+j),Aq (subL (varU m.V 1) (conU m.V 1)) (varU m.V 2)] hV (by simp) (smD j (by omega))) rfl rfl (AB _) rfl ⟨⟨⟨_,rfl,BLe.cells (AB _)⟩,rfl⟩,⟨⟨_,rfl,BLe.row rfl⟩,rfl⟩,trivial⟩ rfl rfl rfl rfl rfl ?_;(repeat' first|refine qv ?_|apply qn|refine Fl.nil (fun _=>by kernel_rfl) ?_|apply qr|refine qw ?_|fail);refine LoopEnd.of (j+1) (by omega) (by omega) ?_;refine Ent.of [(801,139)] ?_ ?_ rfl rfl;(repeat' first|exact True.intro|refine⟨⟨AA _,rfl⟩,?_⟩|refine⟨⟨⟨_,rfl,BLe.cells (AB _)⟩,rfl⟩,?_⟩|refine⟨⟨⟨_,rfl,BLe.row ?_⟩,rfl⟩,?_⟩|fail);rw[B7,eD]
      ·rename_i hj
       have hjl:j=m.R:=by omega
       subst hjl;obtain⟨L5,eL5⟩:∃L5,L5=L4++(List.range m.R).map (fun k=>lkZ m (hsD m k)):=⟨_,rfl⟩
       have hL5:L5.length≤24:=by rw[eL5,List.length_append]; simp; omega
       rw[←eL5];refine⟨AE ?_⟩;(repeat' first|refine qv ?_|apply qn|apply qs|apply qr|apply qb);refine AWP.loop (G:=Nat) (fun i=>i≤m.code.length) (fun i=>AO [] (r14E m x++[(16,aN i)]) (r14B m (L5++(List.range i).flatMap (fun k=>(hsGo m k (m.at k)).map (lkZ m))))) (fun i=>m.code.length-i) 0 (by omega) ?_ ?_
       ·refine Ent.of [] ?_ ?_ rfl rfl;(repeat' first|exact True.intro|refine⟨⟨AA _,rfl⟩,?_⟩|refine⟨⟨⟨_,rfl,BLe.cells (AB _)⟩,rfl⟩,?_⟩|refine⟨⟨⟨_,rfl,BLe.row ?_⟩,rfl⟩,?_⟩|fail);simp
       ·intro i j0;have hgi:=gl i;refine AE ?_;(repeat' first|refine qv ?_|apply qn|apply qs|apply qr|(refine AD rfl ?_ ?_<;>intro _<;>try(exfalso; omega))|apply qk|apply qx)
        ·rename_i hi;obtain⟨y,hy⟩:∃y,m.code[i]? = some y:=⟨_,List.getElem?_eq_getElem (by omega)⟩;have hat:=MZ.at_get hy
         have hy':m.code[Int.toNat (i:Int)]? = some y:=by rw[Int.toNat_natCast]; exact hy
         have hins:=hm.ins i (by omega);have hG:=smG i (by omega);rw[hat,okIns_iff]at hins;rw[hat]at hG;have cHi:=cH i (by omega);refine⟨AWP.seq (AWP.block (AE ?_))⟩;(repeat' first|refine qv ?_|apply qn|apply qr|refine qe ?_|refine qK ?_|fail);refine⟨AE ?_⟩;(repeat' first|refine qv ?_|apply qn|apply qs|apply qr|refine qw ?_|(refine AD rfl ?_ ?_<;>intro _<;>try(exfalso; omega))|apply qk|apply qx)
         ·rename_i h3
          have e:hsGo m i y=[]:=by unfold hsGo; rw[if_pos h3]
          refine LoopEnd.of (i+1) (by omega) (by omega) ?_;refine Ent.of [] ?_ ?_ rfl rfl;(repeat' first|exact True.intro|refine⟨⟨AA _,rfl⟩,?_⟩|refine⟨⟨⟨_,rfl,BLe.cells (AB _)⟩,rfl⟩,?_⟩|refine⟨⟨⟨_,rfl,BLe.row ?_⟩,rfl⟩,?_⟩|fail);rw[go_succ,hat,e]; simp
         ·rename_i h3;refine⟨AE ?_⟩;(repeat' first|refine qv ?_|apply qr|refine qw ?_|fail);refine Fl.ioR rfl [(900,25),(901,801)] (Bl m.V _ (3+y.nx.toNat) (by omega) hV) rfl rfl (LeL.cons (AA _) (LeL.cons (AV.Le.int (by omega)) LeL.nil)) rfl ⟨⟨⟨_,rfl,BLe.cells (AB _)⟩,rfl⟩,⟨⟨_,rfl,BLe.row rfl⟩,rfl⟩,trivial⟩ ⟨rfl,rfl,trivial⟩ rfl rfl rfl rfl ?_;(repeat' first|apply qn|refine qe ?_|fail);refine⟨AE ?_⟩;(repeat' first|refine qv ?_|apply qn|apply qs|apply qr|refine qw ?_|refine Fl.skip rfl rfl ?_|refine AJ rfl ?_|(refine AD rfl ?_ ?_<;>intro _<;>try(exfalso; omega))|apply qk|(refine Ap rfl rfl ?_ ?_<;>intro _<;>try(exfalso; omega)))
          ·rename_i h2
           have e:hsGo m i y=[(3,[Ai m i,varU m.V (3+y.nx.toNat)])]:=by unfold hsGo; rw[if_neg h3,if_neg (by omega)]
           rw[e]at hG;have hG1:∀p∈[Ai m i,varU m.V (3+y.nx.toNat)],SzU m.V 4 10000 200 p:=hG (3,[Ai m i,varU m.V (3+y.nx.toNat)]) (by simp);clear e hG;refine qR [(900,25),(901,801)] (Bl m.V _ (3+i) (by omega) hV) ?_;refine qc (cHi) ?_;(repeat' first|refine qv ?_|fail);refine ql eP [mkP m.V (Ai m i),mkP m.V (varU m.V (3+y.nx.toNat))] ?_;refine CI rfl [(900,25),(901,801),(902,177)] (Bk m.V _ (by rw[List.length_append]; omega) 3 [Ai m i,varU m.V (3+y.nx.toNat)] hV (by simp) hG1) rfl rfl (AB _) rfl ⟨⟨⟨_,rfl,BLe.cells (AB _)⟩,rfl⟩,⟨⟨_,rfl,BLe.row rfl⟩,rfl⟩,trivial⟩ rfl rfl rfl rfl rfl ?_;(repeat' first|refine qv ?_|apply qn|refine Fl.nil (fun _=>by kernel_rfl) ?_|apply qr|refine qw ?_|apply qx);refine LoopEnd.of (i+1) (by omega) (by omega) ?_;refine Ent.of [(801,177)] ?_ ?_ rfl rfl;(repeat' first|exact True.intro|refine⟨⟨AA _,rfl⟩,?_⟩|refine⟨⟨⟨_,rfl,BLe.cells (AB _)⟩,rfl⟩,?_⟩|refine⟨⟨⟨_,rfl,BLe.row ?_⟩,rfl⟩,?_⟩|fail);rw[go_succ,hat,show hsGo m i y=[(3,[Ai m i,varU m.V (3+y.nx.toNat)])] by unfold hsGo; rw[if_neg h3,if_neg (by omega)]];rfl
          ·rename_i h2 hz
           have e:hsGo m i y=[(3,[Ai m i,varU m.V (3+y.nx.toNat)])]:=by unfold hsGo; rw[if_neg h3,if_neg (by omega)]
           rw[e]at hG;have hG1:∀p∈[Ai m i,varU m.V (3+y.nx.toNat)],SzU m.V 4 10000 200 p:=hG (3,[Ai m i,varU m.V (3+y.nx.toNat)]) (by simp);clear e hG;refine qR [(900,25),(901,801)] (Bl m.V _ (3+i) (by omega) hV) ?_;refine qc (cHi) ?_;(repeat' first|refine qv ?_|fail);refine ql eP [mkP m.V (Ai m i),mkP m.V (varU m.V (3+y.nx.toNat))] ?_;refine CI rfl [(900,25),(901,801),(902,177)] (Bk m.V _ (by rw[List.length_append]; omega) 3 [Ai m i,varU m.V (3+y.nx.toNat)] hV (by simp) hG1) rfl rfl (AB _) rfl ⟨⟨⟨_,rfl,BLe.cells (AB _)⟩,rfl⟩,⟨⟨_,rfl,BLe.row rfl⟩,rfl⟩,trivial⟩ rfl rfl rfl rfl rfl ?_;(repeat' first|refine qv ?_|apply qn|refine Fl.nil (fun _=>by kernel_rfl) ?_|apply qr|refine qw ?_|apply qx);refine LoopEnd.of (i+1) (by omega) (by omega) ?_;refine Ent.of [(801,177)] ?_ ?_ rfl rfl;(repeat' first|exact True.intro|refine⟨⟨AA _,rfl⟩,?_⟩|refine⟨⟨⟨_,rfl,BLe.cells (AB _)⟩,rfl⟩,?_⟩|refine⟨⟨⟨_,rfl,BLe.row ?_⟩,rfl⟩,?_⟩|fail);rw[go_succ,hat,show hsGo m i y=[(3,[Ai m i,varU m.V (3+y.nx.toNat)])] by unfold hsGo; rw[if_neg h3,if_neg (by omega)]];rfl
          ·rename_i h2 hz
           have e:hsGo m i y=[(3,[Ai m i,An [] [varU m.V (3+y.nx.toNat),varU m.V (3+y.zr.toNat)]]),(3,[Ai m i,C5 m y])]:=by unfold hsGo; rw[if_neg h3,if_pos (by omega)]
           rw[e]at hG;have hG1:∀p∈[Ai m i,An [] [varU m.V (3+y.nx.toNat),varU m.V (3+y.zr.toNat)]],SzU m.V 4 10000 200 p:=hG (3,[Ai m i,An [] [varU m.V (3+y.nx.toNat),varU m.V (3+y.zr.toNat)]]) (by simp);have hG2:∀p∈[Ai m i,C5 m y],SzU m.V 4 10000 200 p:=hG (3,[Ai m i,C5 m y]) (by simp);clear e hG
           have hb:y.nx.toNat<m.l∧y.rg.toNat<m.R∧y.zr.toNat<m.l:=by omega
           have cJ2y:=cJ2 y hb.1 hb.2.1;have cJ1y:=cJ1 (3+m.code.length+y.rg.toNat) (by omega);have c2ry:=c2r (3+m.code.length+y.rg.toNat) (by omega);have cNy:=cN (3+y.nx.toNat) (3+y.zr.toNat) (by omega) (by omega);refine⟨AE ?_⟩;(repeat' first|refine qv ?_|apply qr|refine qw ?_|fail);refine qR [(900,25),(901,801)] (Bl m.V _ (3+i) (by omega) hV) ?_;refine qc (cHi) ?_;(repeat' first|refine qv ?_|refine qw ?_|fail);refine Fl.ioR rfl [(900,25),(901,801)] (Bl m.V _ (3+y.zr.toNat) (by omega) hV) rfl rfl (LeL.cons (AA _) (LeL.cons (AV.Le.int (by omega)) LeL.nil)) rfl ⟨⟨⟨_,rfl,BLe.cells (AB _)⟩,rfl⟩,⟨⟨_,rfl,BLe.row rfl⟩,rfl⟩,trivial⟩ ⟨rfl,rfl,trivial⟩ rfl rfl rfl rfl ?_;refine qc (cNy) ?_;refine ql eP [mkP m.V (Ai m i),mkP m.V (An [] [varU m.V (3+y.nx.toNat),varU m.V (3+y.zr.toNat)])] ?_;refine CI rfl [(900,25),(901,801),(902,193)] (Bk m.V _ (by rw[List.length_append]; omega) 3 [Ai m i,An [] [varU m.V (3+y.nx.toNat),varU m.V (3+y.zr.toNat)]] hV (by simp) hG1) rfl rfl (AB _) rfl ⟨⟨⟨_,rfl,BLe.cells (AB _)⟩,rfl⟩,⟨⟨_,rfl,BLe.row rfl⟩,rfl⟩,trivial⟩ rfl rfl rfl rfl rfl ?_;(repeat' first|refine Fl.nil (fun _=>by kernel_rfl) ?_|fail);refine⟨?_⟩;(repeat' first|refine qv ?_|apply qr|refine qw ?_|fail);refine qR [(900,25),(901,193)] (Bl m.V _ (3+i) (by omega) hV) ?_;refine qc (cHi) ?_;(repeat' first|refine qv ?_|fail);refine qc (cqo) ?_;(repeat' first|refine qv ?_|fail);refine qR [(900,25),(901,193)] (DH m.V _ (2) (by decide) hV) ?_;(repeat' first|refine qv ?_|refine qw ?_|fail);refine Fl.ioR rfl [(900,25),(901,193)] (Bl m.V _ (3+m.code.length+y.rg.toNat) (by omega) hV) rfl rfl (LeL.cons (AA _) (LeL.cons (AV.Le.int (by omega)) LeL.nil)) rfl ⟨⟨⟨_,rfl,BLe.cells (AB _)⟩,rfl⟩,⟨⟨_,rfl,BLe.row rfl⟩,rfl⟩,trivial⟩ ⟨rfl,rfl,trivial⟩ rfl rfl rfl rfl ?_;refine qc (c2ry) ?_;refine qc (cJ1y) ?_;refine qc (cJ2y) ?_;refine ql eP [mkP m.V (Ai m i),mkP m.V (C5 m y)] ?_;refine CI rfl [(900,25),(901,193),(902,218)] (Bk m.V _ (by rw[List.length_append,List.length_append]; simp only[List.length_cons,List.length_nil]; omega) 3 [Ai m i,C5 m y] hV (by simp) hG2) rfl rfl (AB _) rfl ⟨⟨⟨_,rfl,BLe.cells (AB _)⟩,rfl⟩,⟨⟨_,rfl,BLe.row rfl⟩,rfl⟩,trivial⟩ rfl rfl rfl rfl rfl ?_;(repeat' first|refine qv ?_|apply qn|refine Fl.nil (fun _=>by kernel_rfl) ?_|apply qr|refine qw ?_|fail);refine LoopEnd.of (i+1) (by omega) (by omega) ?_;refine Ent.of [(801,218)] ?_ ?_ rfl rfl;(repeat' first|exact True.intro|refine⟨⟨AA _,rfl⟩,?_⟩|refine⟨⟨⟨_,rfl,BLe.cells (AB _)⟩,rfl⟩,?_⟩|refine⟨⟨⟨_,rfl,BLe.row ?_⟩,rfl⟩,?_⟩|fail);rw[go_succ,hat,show hsGo m i y=[(3,[Ai m i,An [] [varU m.V (3+y.nx.toNat),varU m.V (3+y.zr.toNat)]]),(3,[Ai m i,C5 m y])] by unfold hsGo; rw[if_neg h3,if_pos (by omega)]];simp[lkZ]
        ·rename_i hi
         have hil:i=m.code.length:=by omega
         subst hil;obtain⟨L6,eL6⟩:∃L6,L6=L5++(List.range m.code.length).flatMap (fun k=>(hsGo m k (m.at k)).map (lkZ m)):=⟨_,rfl⟩
         have hL6:L6.length≤54:=by rw[eL6,List.length_append]; omega
         rw[←eL6];refine⟨AE ?_⟩;(repeat' first|refine qv ?_|apply qn|apply qs|apply qr|apply qb);refine AWP.loop (G:=Nat) (fun j=>j≤m.R) (fun j=>AO [] (r14E m x++[(19,aN j)]) (r14B m (L6++(List.range j).map (fun k=>lkZ m (hsF m x k))))) (fun j=>m.R-j) 0 (by omega) ?_ ?_
         ·refine Ent.of [] ?_ ?_ rfl rfl;(repeat' first|exact True.intro|refine⟨⟨AA _,rfl⟩,?_⟩|refine⟨⟨⟨_,rfl,BLe.cells (AB _)⟩,rfl⟩,?_⟩|refine⟨⟨⟨_,rfl,BLe.row ?_⟩,rfl⟩,?_⟩|fail);simp
         ·intro j j0;refine AE ?_;(repeat' first|refine qv ?_|apply qn|apply qs|apply qr|(refine AD rfl ?_ ?_<;>intro _<;>try(exfalso; omega))|apply qk|apply qx)
          ·rename_i hj
           have hjR:j<m.R:=by omega
           obtain⟨v,hv⟩:∃v,x[j]? = some v:=⟨_,List.getElem?_eq_getElem (by omega)⟩
           have hv':x[Int.toNat (j:Int)]? = some v:=by rw[Int.toNat_natCast]; exact hv
           have hvb:=hx.2 v (List.mem_of_getElem? hv);have cM4j:=cM4 j hjR;rw[show x.getD j 0=v by rw[List.getD_eq_getElem?_getD,hv]; rfl]at cM4j;have hFj:=smF j hjR;have hFe:(hsF m x j).2=[subL (hsL m j) (subL (hsR0 m x j) (BI m 1 j))]:=rfl;rw[hFe]at hFj;clear hFe;have c1:=cL1 j hjR;have c2:=cL2 j hjR;have c3:=cu0 j;have c4:=cu1 j;have c5:=cM1 (fun x=>decide (x.op=0)&&decide (x.rg=j)) (fun x=>decide (x.op=1)&&decide (x.rg=j));have c6:=cM2 j hjR (fun x=>decide (x.op=0)&&decide (x.rg=j)) (fun x=>decide (x.op=1)&&decide (x.rg=j));have c7:=cM3 j hjR (fun x=>decide (x.op=0)&&decide (x.rg=j)) (fun x=>decide (x.op=1)&&decide (x.rg=j));have c9:=cM5 j hjR;refine⟨AWP.seq (AWP.block (AE ?_))⟩;(repeat' first|refine qv ?_|apply qr|refine qw ?_|fail);refine qR [(900,25),(901,801)] (Bl m.V _ (3+m.code.length+j) (by omega) hV) ?_;(repeat' first|refine qv ?_|refine qw ?_|fail);refine Fl.ioR rfl [(900,25),(901,801)] (Bl m.V _ (3+m.code.length+m.R+j) (by omega) hV) rfl rfl (LeL.cons (AA _) (LeL.cons (AV.Le.int (by omega)) LeL.nil)) rfl ⟨⟨⟨_,rfl,BLe.cells (AB _)⟩,rfl⟩,⟨⟨_,rfl,BLe.row rfl⟩,rfl⟩,trivial⟩ ⟨rfl,rfl,trivial⟩ rfl rfl rfl rfl ?_;(repeat' first|refine qv ?_|fail);refine qc (c1) ?_;refine qc (c2) ?_;(repeat' first|refine Fl.nil (fun _=>by kernel_rfl) ?_|refine qe ?_|fail);refine⟨AE ?_⟩;(repeat' first|refine qv ?_|apply qr|refine qw ?_|fail);refine qR [(900,25),(901,801)] (Bl m.V _ (3+m.code.length+j) (by omega) hV) ?_;(repeat' first|refine qv ?_|fail);refine qc (c3) ?_;(repeat' first|refine qv ?_|fail);refine qc (c4) ?_;refine qc (c5) ?_;refine qc (c6) ?_;(repeat' first|refine Fl.nil (fun _=>by kernel_rfl) ?_|refine qe ?_|fail);refine⟨?_⟩;(repeat' first|refine qv ?_|apply qr|refine qK ?_|fail);refine qR [(900,25),(901,801)] (DH m.V _ (v) (by omega) hV) ?_;(repeat' first|refine qv ?_|fail);refine qc (c7) ?_;refine qc (cM4j) ?_;refine qc (c9) ?_;refine ql eP [mkP m.V (subL (hsL m j) (subL (hsR0 m x j) (BI m 1 j)))] ?_;refine CI rfl [(900,25),(901,801),(902,271)] (Bk m.V _ (by simp; omega) 0 [subL (hsL m j) (subL (hsR0 m x j) (BI m 1 j))] hV (by simp) hFj) rfl rfl (AB _) rfl ⟨⟨⟨_,rfl,BLe.cells (AB _)⟩,rfl⟩,⟨⟨_,rfl,BLe.row rfl⟩,rfl⟩,trivial⟩ rfl rfl rfl rfl rfl ?_;(repeat' first|refine qv ?_|apply qn|refine Fl.nil (fun _=>by kernel_rfl) ?_|apply qr|refine qw ?_|fail);refine LoopEnd.of (j+1) (by omega) (by omega) ?_;refine Ent.of [(801,271)] ?_ ?_ rfl rfl;(repeat' first|exact True.intro|refine⟨⟨AA _,rfl⟩,?_⟩|refine⟨⟨⟨_,rfl,BLe.cells (AB _)⟩,rfl⟩,?_⟩|refine⟨⟨⟨_,rfl,BLe.row ?_⟩,rfl⟩,?_⟩|fail);rw[B7]; rfl
          ·rename_i hj
           have hjl:j=m.R:=by omega
           subst hjl;refine⟨?_⟩;refine AY (Ent.freeze 801 rfl) ?_;(repeat' first|refine qv ?_|refine Fl.nil (fun _=>by kernel_rfl) ?_|apply qs|apply qr|refine qe ?_|apply qt);refine RetOk.of rfl (AP ?_);rw[eL6,eL5,eL4,eL3,eL2,eL1];simp only[hsS,hsK,hsA,hsC,List.map_append,List.map_map,List.map_flatMap,lkZ,List.map_cons,List.map_nil,List.nil_append,List.append_assoc,List.cons_append];rfl
end Go.Proofs.YtmmfloplhopioaaGreat
namespace Go.Proofs.YtmmfloplhopioaaGreat
open Go.AL
end Go.Proofs.YtmmfloplhopioaaGreat
namespace Go.AL
def TB (t:TZ):Prop:=ZB t.c
def PB (p:PZ):Prop:=(∀t∈p.terms,TB t)∧p.terms.length≤maxLen
def LB (l:LZ):Prop:=(∀p∈l.polys,PB p)∧l.polys.length≤maxLen
def SB (s:SZ):Prop:=∀l∈s.links,LB l
theorem SB.ws {s:SZ} (h:SB s):WS s:=fun l hl p hp t ht=>(((h l hl).1 p hp).1 t ht).1
end Go.AL
namespace Go.Proofs.YtmmfloplhopioaaGreat
open Go.AL Go.ChangeShapes Go.WideShapes Go.ChangeAt Go.RowKit
section
variable {H:Type} {enc:TypeId×Value→H} {w:World} {base:Nat} {spare:Nat→Bool} {held:Bool}
end
end Go.Proofs.YtmmfloplhopioaaGreat
namespace Go.AL
end Go.AL
namespace Go.Proofs.YtmmfloplhopioaaGreat
open Go.AL
end Go.Proofs.YtmmfloplhopioaaGreat
/- HistorySystems. -/
namespace Go.Proofs.YtmmfloplhopioaaGreat
open Go.AL
end Go.Proofs.YtmmfloplhopioaaGreat
namespace Go.AL
theorem undI_wordsD:∀ {a b:List Int},WOk a→WOk b→(undI (val a) (val b)↔∀(j:Nat) (x:Int),a[j]? = some x→undI x (b[j]?.getD 0))
 | [],b,_,_=>by
  simp only[val_nil];constructor
  ·intro _ j x h; simp at h
  ·intro _; unfold undI; simp
 | x::a,[],ha,hb=>by
  have hx:=ha.head
  have h0:val ([]:List Int)=val [(0:Int)]:=by simp[val]
  rw[h0,undI_cons hx.1 hx.2 (by omega) (by omega) (Al ha.tail) (Al hb),undI_wordsD ha.tail hb];constructor
  ·intro⟨h1,h2⟩ j y hy
   cases j with
   | zero=>simp at hy; subst hy; simpa using h1
   | succ j=>simpa using h2 j y (by simpa using hy)
  ·intro h;refine⟨by simpa using h 0 x rfl,fun j y hy=>?_⟩;simpa using h (j+1) y (by simpa using hy)
 | x::a,y::b,ha,hb=>by
  have hx:=ha.head;have hy:=hb.head;rw[undI_cons hx.1 hx.2 hy.1 hy.2 (Al ha.tail) (Al hb.tail),undI_wordsD ha.tail hb.tail];constructor
  ·intro⟨h1,h2⟩ j z hz
   cases j with
   | zero=>simp at hz; subst hz; simpa using h1
   | succ j=>simpa using h2 j z (by simpa using hz)
  ·intro h;refine⟨by simpa using h 0 x rfl,fun j z hz=>?_⟩;simpa using h (j+1) z (by simpa using hz)
theorem and_eq {x y:Int} (h:0≤x):bitN .and x y=x↔undI x y:=by
 show((x.toNat &&& y.toNat:Nat):Int)=x↔_;unfold undI;omega
end Go.AL
namespace Go.Proofs.YtmmfloplhopioaaGreat
open Go.AL
theorem rAll_ok (zs:List Z) (hz:∀z∈zs,WOk z.w) (hm:∀z∈zs,z.w.length≤9223372036854775807) (hl:zs.length≤1000000000):PureFn Tryz.prog 33 [.sl 2 eZ zs] (aB (decide (∀z∈zs,OkZ z))):=by
 refine AC Tryz.func33 rfl Tryz.ntmps33 rfl rfl ?_;(repeat' first|refine qv ?_|apply qn|apply qs|apply qr|apply qb);refine AWP.loop (G:=Nat) (fun i=>i≤zs.length∧∀z∈zs.take i,OkZ z) (fun i=>AO [] [(0,.sl 2 eZ zs),(3,aN i)] []) (fun i=>zs.length-i) 0 ⟨by omega,by simp⟩ ?_ ?_
 ·refine Ent.of [] ?_ ?_ rfl rfl;(repeat' first|exact True.intro|refine⟨⟨AA _,rfl⟩,?_⟩|fail)
 ·intro i ⟨h0,h1⟩;by_cases hi:i<zs.length
  ·obtain⟨z,hzi⟩:∃z,zs[i]? = some z:=⟨_,List.getElem?_eq_getElem hi⟩;have hm1:=List.mem_of_getElem? hzi;(repeat' first|refine qv ?_|apply qn|apply qs|apply qr|(refine AD rfl ?_ ?_<;>intro _<;>try(exfalso; omega))|apply qb|apply qk|refine qK ?_|fail);refine qc (rValid_ok z (hz z hm1) (hm z hm1)) ?_;(repeat' first|refine qv ?_|apply qn|apply qs|apply qr|refine qw ?_|(refine AQ rfl ?_ ?_<;>intro _<;>try(exfalso; omega))|apply qk|apply qt)
   ·rename_i h;exact RetOk.of rfl (AV.Le.bool (Eq.symm (decide_eq_false fun k=>h (k z hm1))))
   ·rename_i h;refine LoopEnd.of (i+1) ⟨by omega,A3 hzi h1 h⟩ (by omega) ?_;refine Ent.of [] ?_ ?_ rfl rfl;(repeat' first|exact True.intro|refine⟨⟨AA _,rfl⟩,?_⟩|fail)
  ·(repeat' first|refine qv ?_|apply qn|apply qs|apply qr|(refine AD rfl ?_ ?_<;>intro _<;>try(exfalso; omega))|apply qx|apply qt);rw[List.take_of_length_le (by omega)]at h1;exact RetOk.of rfl (AV.Le.bool (Eq.symm (decide_eq_true h1)))
theorem rNaturals_ok (X:List Int) (hl:X.length≤1000000000):PureFn Tryz.prog 35 [.sl 2 eX X] (aB (decide (∀x∈X,0≤x))):=by
 refine AC Tryz.func35 rfl Tryz.ntmps35 rfl rfl ?_;(repeat' first|refine qv ?_|apply qn|apply qs|apply qr|apply qb);refine AWP.loop (G:=Nat) (fun i=>i≤X.length∧∀z∈X.take i,0≤z) (fun i=>AO [] [(0,.sl 2 eX X),(3,aN i)] []) (fun i=>X.length-i) 0 ⟨by omega,by simp⟩ ?_ ?_
 ·refine Ent.of [] ?_ ?_ rfl rfl;(repeat' first|exact True.intro|refine⟨⟨AA _,rfl⟩,?_⟩|fail)
 ·intro i ⟨h0,h1⟩;by_cases hi:i<X.length
  ·obtain⟨z,hzi⟩:∃z,X[i]? = some z:=⟨_,List.getElem?_eq_getElem hi⟩;have hm1:=List.mem_of_getElem? hzi;(repeat' first|refine qv ?_|apply qn|apply qs|apply qr|refine qw ?_|(refine AD rfl ?_ ?_<;>intro _<;>try(exfalso; omega))|apply qb|apply qk|apply qt|refine qK ?_|fail)
   ·rename_i h;exact RetOk.of rfl (AV.Le.bool (Eq.symm (decide_eq_false fun k=>by have:=k z hm1; omega)))
   ·rename_i h;refine LoopEnd.of (i+1) ⟨by omega,A3 hzi h1 (by omega)⟩ (by omega) ?_;refine Ent.of [] ?_ ?_ rfl rfl;(repeat' first|exact True.intro|refine⟨⟨AA _,rfl⟩,?_⟩|fail)
  ·(repeat' first|refine qv ?_|apply qn|apply qs|apply qr|(refine AD rfl ?_ ?_<;>intro _<;>try(exfalso; omega))|apply qx|apply qt);rw[List.take_of_length_le (by omega)]at h1;exact RetOk.of rfl (AV.Le.bool (Eq.symm (decide_eq_true h1)))
theorem rCmp_ok (x y:Int) (hx:lenI x≤100000) (hy:lenI y≤100000):PureFn Tryz.prog 128 [aX x,aX y] (aN (cmpI x y)):=by
 refine AC Tryz.func128 rfl Tryz.ntmps128 rfl rfl ?_;have h1:=rorder_ok x.natAbs y.natAbs (by omega) (by omega) hx hy;have h2:=rorder_ok y.natAbs x.natAbs (by omega) (by omega) hy hx;have c:=BJ x y;by_cases hx0:x<0
 ·by_cases hy0:y<0
  ·have c2:=BJ (y.natAbs:Int) (x.natAbs:Int);(repeat' first|refine qv ?_|apply qn|apply qs|apply qr|refine qe ?_|refine Fl.skip rfl rfl ?_|refine AF rfl ?_|(refine AD rfl ?_ ?_<;>intro _<;>try(exfalso; omega))|(refine AQ rfl ?_ ?_<;>intro _<;>try(exfalso; omega))|apply qb|(refine AG rfl rfl ?_ ?_<;>intro _<;>try(exfalso; omega))|(refine Ap rfl rfl ?_ ?_<;>intro _<;>try(exfalso; omega)));refine qc (h2) ?_;(repeat' first|refine qv ?_|apply qn|apply qt);exact RetOk.of rfl (AV.Le.int (by omega))
  ·(repeat' first|refine qv ?_|apply qn|apply qs|apply qr|refine qe ?_|(refine AQ rfl ?_ ?_<;>intro _<;>try(exfalso; omega))|apply qb|apply qt|(refine AG rfl rfl ?_ ?_<;>intro _<;>try(exfalso; omega)));exact RetOk.of rfl (AV.Le.int (by omega))
 ·by_cases hy0:y<0
  ·(repeat' first|refine qv ?_|apply qn|apply qs|apply qr|refine qe ?_|refine Fl.skip rfl rfl ?_|refine AF rfl ?_|(refine AD rfl ?_ ?_<;>intro _<;>try(exfalso; omega))|apply qb|apply qt|(refine AG rfl rfl ?_ ?_<;>intro _<;>try(exfalso; omega))|(refine Ap rfl rfl ?_ ?_<;>intro _<;>try(exfalso; omega)));exact RetOk.of rfl (AV.Le.int (by omega))
  ·have c2:=BJ (x.natAbs:Int) (y.natAbs:Int);(repeat' first|refine qv ?_|apply qn|apply qs|apply qr|refine qe ?_|refine Fl.skip rfl rfl ?_|refine AF rfl ?_|(refine AD rfl ?_ ?_<;>intro _<;>try(exfalso; omega))|apply qb|apply qk|(refine AG rfl rfl ?_ ?_<;>intro _<;>try(exfalso; omega))|(refine Ap rfl rfl ?_ ?_<;>intro _<;>try(exfalso; omega)));refine qc (h1) ?_;(repeat' first|refine qv ?_|apply qn|apply qt);exact RetOk.of rfl (AV.Le.int (by omega))
theorem rNeg_ok (x:Int) (hx:lenI x≤100000):PureFn Tryz.prog 171 [aX x] (aX (-x)):=by
 refine AC Tryz.func171 rfl Tryz.ntmps171 rfl rfl ?_;have hv:val (toW x.natAbs)=(x.natAbs:Int):=Ad (by omega)
 have hsg:sg (!decide (x<0)) (val (toW x.natAbs)) = -x:=by
  rw[hv];by_cases h:x<0
  ·simp[sg,h]; omega
  ·simp[sg,h]; omega
 have hm:=DL (!decide (x<0)) (toW x.natAbs) (Ag _) hx;rw[hsg]at hm;(repeat' first|refine qv ?_|apply qn|apply qs|apply qr|refine qe ?_|fail);refine qc (hm) ?_;(repeat' first|apply qn|refine qe ?_|apply qt);exact RetOk.of rfl (AA _)
theorem rSub_ok (x y:Int) (hx:lenI x≤40000) (hy:lenI y≤40000):PureFn Tryz.prog 129 [aX x,aX y] (aX (x-y)):=by
 refine AC Tryz.func129 rfl Tryz.ntmps129 rfl rfl ?_;have ha:=rAdd_ok x (-y) hx (by rw[Int.natAbs_neg]; exact hy);rw[←Int.sub_eq_add_neg]at ha;(repeat' first|refine qv ?_|apply qn|apply qs|apply qr|refine qe ?_|fail);refine qc (rNeg_ok y (by omega)) ?_;refine qc (ha) ?_;(repeat' first|refine Fl.nil (fun _=>by kernel_rfl) ?_|refine qe ?_|apply qt);exact RetOk.of rfl (AA _)
theorem rUnder_ok (x y:Int) (hx:Fit x) (hy:Fit y) (h0:0≤x) (h1:0≤y):PureFn Tryz.prog 80 [aX x,aX y] (aB (decide (undI x y))):=by
 refine AC Tryz.func80 rfl Tryz.ntmps80 rfl rfl ?_;have lx:=hx.len;have ly:=hy.len;have wx:=Ag x.natAbs;have wy:=Ag y.natAbs
 have hvx:val (toW x.natAbs)=x:=by rw[Ad (by omega)]; omega
 have hvy:val (toW y.natAbs)=y:=by rw[Ad (by omega)]; omega
 have hw:=undI_wordsD wx wy;rw[hvx,hvy]at hw;(repeat' first|refine qv ?_|apply qn|apply qs|apply qr|refine qe ?_|apply qb);refine AWP.loop (G:=Nat) (fun i=>i≤(toW x.natAbs).length∧∀(j:Nat) (u:Int),j<i→(toW x.natAbs)[j]? = some u→undI u ((toW y.natAbs)[j]?.getD 0))
   (fun i=>AO [] [(2,.ptr 2 0),(3,.ptr 3 0),(5,aN i)] [(2,.cells (eX x) 48),(3,.cells (eX y) 48)])
   (fun i=>(toW x.natAbs).length-i) 0 ⟨by omega,fun j u hj=>by omega⟩ ?_ ?_
 ·refine Ent.of [] ?_ ?_ rfl rfl;(repeat' first|exact True.intro|refine⟨⟨AA _,rfl⟩,?_⟩|refine⟨⟨⟨_,rfl,BLe.cells (AB _)⟩,rfl⟩,?_⟩|fail)
 ·intro i ⟨k0,k1⟩;by_cases hi:i<(toW x.natAbs).length
  ·obtain⟨u,hu⟩:∃u,(toW x.natAbs)[i]? = some u:=⟨_,List.getElem?_eq_getElem hi⟩;have hub:=wx u (List.mem_of_getElem? hu)
   have hstep:∀v,((toW y.natAbs)[i]?.getD 0)=v→undI u v→∀(j:Nat) (p:Int),j<i+1→(toW x.natAbs)[j]? = some p→undI p ((toW y.natAbs)[j]?.getD 0):=fun v hv hz j p hj hp=>by
    rcases Nat.lt_or_ge j i with h|h
    ·exact k1 j p h hp
    ·have:j=i:=by omega
     subst this;rw[hu]at hp;injection hp with hp;subst hp;rw[hv]; exact hz
   by_cases hi2:i<(toW y.natAbs).length
   ·obtain⟨v,hv⟩:∃v,(toW y.natAbs)[i]? = some v:=⟨_,List.getElem?_eq_getElem hi2⟩;have hvb:=wy v (List.mem_of_getElem? hv)
    have hvd:(toW y.natAbs)[i]?.getD 0=v:=by rw[hv]; rfl
    (repeat' first|refine qv ?_|apply qn|refine Fl.nil (fun _=>by kernel_rfl) ?_|apply qs|apply qr|refine qw ?_|(refine AD rfl ?_ ?_<;>intro _<;>try(exfalso; omega))|(refine AQ rfl ?_ ?_<;>intro _<;>try(exfalso; omega))|apply qb|apply qk|apply qt|refine qK ?_|fail)
    ·rename_i hz;refine RetOk.of rfl (AV.Le.bool (Eq.symm (decide_eq_false fun h2=>hz ((and_eq hub.1).2 ?_))));have:=hw.1 h2 i u hu;rwa [hvd]at this
    ·rename_i hz;refine LoopEnd.of (i+1) ⟨by omega,hstep v hvd ((and_eq hub.1).1 hz)⟩ (by omega) ?_;refine Ent.of [] ?_ ?_ rfl rfl;(repeat' first|exact True.intro|refine⟨⟨AA _,rfl⟩,?_⟩|refine⟨⟨⟨_,rfl,BLe.cells (AB _)⟩,rfl⟩,?_⟩|fail)
   ·have hvd:(toW y.natAbs)[i]?.getD 0=0:=by rw[List.getElem?_eq_none (by omega)]; rfl
    (repeat' first|refine qv ?_|apply qn|refine Fl.nil (fun _=>by kernel_rfl) ?_|apply qs|apply qr|refine qw ?_|(refine AD rfl ?_ ?_<;>intro _<;>try(exfalso; omega))|(refine AQ rfl ?_ ?_<;>intro _<;>try(exfalso; omega))|apply qb|apply qk|apply qt|refine qK ?_|fail)
    ·rename_i hz;refine RetOk.of rfl (AV.Le.bool (Eq.symm (decide_eq_false fun h2=>hz ((and_eq hub.1).2 ?_))));have:=hw.1 h2 i u hu;rwa [hvd]at this
    ·rename_i hz;refine LoopEnd.of (i+1) ⟨by omega,hstep 0 hvd ((and_eq hub.1).1 hz)⟩ (by omega) ?_;refine Ent.of [] ?_ ?_ rfl rfl;(repeat' first|exact True.intro|refine⟨⟨AA _,rfl⟩,?_⟩|refine⟨⟨⟨_,rfl,BLe.cells (AB _)⟩,rfl⟩,?_⟩|fail)
  ·(repeat' first|refine qv ?_|apply qn|apply qs|apply qr|(refine AD rfl ?_ ?_<;>intro _<;>try(exfalso; omega))|apply qx|apply qt);exact RetOk.of rfl (AV.Le.bool (Eq.symm (decide_eq_true (hw.2 fun j u hu=>k1 j u (by have:=(List.getElem?_eq_some_iff.1 hu).1; omega) hu))))
end Go.Proofs.YtmmfloplhopioaaGreat

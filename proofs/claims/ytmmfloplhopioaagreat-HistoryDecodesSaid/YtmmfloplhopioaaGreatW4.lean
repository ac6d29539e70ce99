/- Part 4 of a proof layer and of the contracts of the functions. -/
import Derived.Shelf.SlSortCmp.WholeK
import Derived.Test.YtmmfloplhopioaaGreatProg
import Derived.Maps.RangeRun
import Derived.Shelf.SlSortCmp.NoneTotal
import Derived.ChangeKeysEq
import Derived.Test.YtmmfloplhopioaaGreatW3
set_option linter.unusedVariables false
set_option linter.unusedSimpArgs false
/- Machines: whatever solves the system is the run. Plain. -/
namespace Go.AL
structure Mach where
  l:Nat
  R:Nat
  op:Nat→Nat
  rg:Nat→Nat
  nx:Nat→Nat
  zr:Nat→Nat
structure Mach.Ok (m:Mach):Prop where
  l0:1≤m.l
  ins:∀i,i<m.l→m.op i=3∨(m.op i≤2∧m.rg i<m.R∧m.nx i<m.l∧m.zr i<m.l∧(m.op i=2→m.nx i≠i))
def Mach.to (m:Mach) (i:Nat) (r:Nat→Nat):Nat:=if m.op i=2∧r (m.rg i)=0 then m.zr i else m.nx i
structure Mach.Run (m:Mach) (x:Nat→Nat) (s:Nat) (pl:Nat→Nat) (r:Nat→Nat→Nat):Prop where
  lt:∀t,t≤s→pl t<m.l
  at0:pl 0=0
  r0:∀j,j<m.R→r 0 j=x j
  go:∀t,t<s→m.op (pl t)≠3∧pl (t+1)=m.to (pl t) (r t)
  chg:∀t,t<s→∀j,j<m.R→r (t+1) j+(if m.op (pl t)=1∧m.rg (pl t)=j then 1 else 0)=r t j+(if m.op (pl t)=0∧m.rg (pl t)=j then 1 else 0)
  halt:m.op (pl s)=3
structure HistEq (m:Mach) (x:Nat→Nat) (add s H I:Nat) (L Rg E:Nat→Nat):Prop where
  h1:H=2^(s+add)
  h2:1+(2*H-1)*I=(2*H)^(s+1)
  h3:I=sumN m.l L
  h4:∀i,i<m.l→undN (L i) I
  h5:undN 1 (L 0)
  h6:(2*H)^s=sumN m.l fun i=>if m.op i=3 then L i else 0
  h7:∀j,j<m.R→undN (Rg j) ((H-1)*I)
  h8:∀i,i<m.l→m.op i≠3→if m.op i=2∧m.zr i≠m.nx i then undN (2*H*L i) (L (m.nx i)+L (m.zr i))∧∃w,w+2*Rg (m.rg i)=L (m.nx i)+2*H*I∧undN (2*H*L i) w else undN (2*H*L i) (L (m.nx i))
  h9:∀j,j<m.R→Rg j+E j*(2*H)^(s+1)+2*H*(sumN m.l fun i=>if m.op i=1∧m.rg i=j then L i else 0)=x j+2*H*Rg j+2*H*(sumN m.l fun i=>if m.op i=0∧m.rg i=j then L i else 0)
theorem ds_cons {Q n c:Nat} (g:Nat→Nat):c+Q*ds Q n g=ds Q (n+1) fun t=>if t=0 then c else g (t-1):=by
 rw[ds]; simp
abbrev plD (pl:Nat→Nat) (i t:Nat):Nat:=if pl t=i then 1 else 0
theorem sel_ds {Q l n:Nat} {pl L:Nat→Nat} (hlt:∀t,t<n→pl t<l) (hL:∀i,i<l→L i=ds Q n (plD pl i)) (c:Nat→Prop) [DecidablePred c]:sumN l (fun i=>if c i then L i else 0)=ds Q n fun t=>if c (pl t)then 1 else 0:=by
 rw[BP (g:=fun i=>ds Q n fun t=>if pl t=i then(if c i then 1 else 0)else 0) fun i hi=>?_,ds_sum]
 ·refine CO fun t ht=>?_;rw[sumN_ind (l:=l) (fun i=>if c i then 1 else 0),if_pos (hlt t ht)]
 ·by_cases hc:c i
  ·rw[if_pos hc,hL i hi]
   exact CO fun t _=>by simp[plD,hc]
  ·rw[if_neg hc];rw[CO (e:=fun _=>0) fun t _=>by simp[hc],ds_zero]
abbrev jmpF (Q:Nat) (r:Nat→Nat) (b:Nat→Nat) (t:Nat):Nat:=Q-2*r t+b t
theorem jmp_cy {Q:Nat} {r b:Nat→Nat} (hQ:3≤Q) (hb:∀t,b t≤1):∀t,cyN Q (jmpF Q r b) t≤1
 | 0=>by simp[cyN]
 | t+1=>by
  have ih:=jmp_cy (r:=r) hQ hb t;have h1:=hb t;rw[cyN];have:(jmpF Q r b t+cyN Q (jmpF Q r b) t)/Q<2:=(Nat.div_lt_iff_lt_mul (by omega)).2 (by have hf:jmpF Q r b t=Q-2*r t+b t:=rfl; omega);omega
theorem jmp_digit {Q:Nat} {r b:Nat→Nat} {t:Nat} (hQ:3≤Q) (hev:Q % 2=0) (hb:∀t,b t≤1) (hr:∀t,2*r t≤Q) (h0:b t=0):dgN Q (jmpF Q r b) (t+1) % 2=1↔(b (t+1)=if r t=0 then 0 else 1):=by
 have c0:=jmp_cy (r:=r) hQ hb t
 have hc:cyN Q (jmpF Q r b) (t+1)=if r t=0 then 1 else 0:=by
  rw[cyN]
  have hf:jmpF Q r b t=Q-2*r t:=by unfold jmpF; omega
  rw[hf];have:=hr t;split
  ·rename_i h
   have e:(Q-2*r t+cyN Q (jmpF Q r b) t)/Q=1:=by
    rw[h];refine Nat.div_eq_of_lt_le (by omega) (by omega)
   exact e
  ·exact Nat.div_eq_of_lt (by omega)
 have hb1:=hb (t+1);have hr1:=hr (t+1);unfold dgN;rw[hc];have hmod:∀a,a % Q % 2=a % 2:=fun a=>Nat.mod_mod_of_dvd a (Nat.dvd_of_mod_eq_zero hev);rw[hmod];unfold jmpF;split<;>omega
theorem hist_only {m:Mach} {x:Nat→Nat} {add s H I:Nat} {L Rg E:Nat→Nat} (ok:m.Ok) (hadd:m.l≤add) (hx:∀j,j<m.R→x j≤add) (h:HistEq m x add s H I L Rg E) :
  ∃(pl:Nat→Nat) (r:Nat→Nat→Nat),m.Run x s pl r∧I=ds (2*H) (s+1) (fun _=>1)∧(∀i,i<m.l→L i=ds (2*H) (s+1) (plD pl i))∧∀j,j<m.R→Rg j=ds (2*H) (s+1) (fun t=>r t j)∧E j=r s j:=by
 obtain⟨h1,h2,h3,h4,h5,h6,h7,h8,h9⟩:=h;obtain⟨k,hk⟩:∃k,k=s+add+1:=⟨_,rfl⟩;have hl0:=ok.l0
 have hQ:2*H=2^k:=by rw[h1,hk,Nat.pow_succ]; omega
 have hH1:k-1<H:=by rw[h1,show k-1=s+add by omega]; exact Nat.lt_two_pow_self
 obtain⟨Q,hQd⟩:∃Q,Q=2*H:=⟨_,rfl⟩
 have hQk:Q=2^k:=by omega
 rw[←hQd]at h2 h6;simp only[←hQd]at h8 h9 ⊢
 have hQ4:4≤Q:=by omega
 have hone:∀t:Nat,t<s+1→(1:Nat)<2^k:=fun _ _=>by omega
 -- I
 have eI:I=ds Q (s+1) fun _=>1:=by
  have:=ds_ones (Q:=Q) (by omega) (s+1)
  have e:(Q-1)*I=(Q-1)*ds Q (s+1) fun _=>1:=by omega
  exact Nat.eq_of_mul_eq_mul_left (by omega) e
 -- the lines' digits
 have hL:∀i,∃d:Nat→Nat,i<m.l→(∀t,t<s+1→d t≤1)∧L i=ds Q (s+1) d:=by
  intro i;by_cases hi:i<m.l
  ·have hu:=h4 i hi;rw[eI,hQk]at hu;obtain⟨d,d1,d2,d3⟩:=undN_digits hone hu;exact⟨d,fun _=>⟨fun t ht=>undN_le (d3 t ht),by rw[d2,hQk]⟩⟩
  ·exact⟨fun _=>0,fun k=>absurd k hi⟩
 obtain⟨D,hD⟩:=Classical.axiomOfChoice hL
 have hsum:∀t,t<s+1→sumN m.l (fun i=>D i t)=1:=by
  have e:ds Q (s+1) (fun t=>sumN m.l fun i=>D i t)=ds Q (s+1) fun _=>1:=by
   rw[←ds_sum,←eI,h3];exact BP fun i hi=>((hD i hi).2).symm
  refine ds_inj (fun t ht=>?_) (fun _ _=>by omega) e;have:=sumN_le (n:=m.l) (f:=fun i=>D i t) fun i hi=>(hD i hi).1 t ht;omega
 have hpl:∀t,∃i,t<s+1→i<m.l∧D i t=1∧∀j,j<m.l→j≠i→D j t=0:=by
  intro t;by_cases ht:t<s+1
  ·obtain⟨i,a,b,c⟩:=sumN_one (hsum t ht);exact⟨i,fun _=>⟨a,b,c⟩⟩
  ·exact⟨0,fun k=>absurd k ht⟩
 obtain⟨pl,hpl⟩:=Classical.axiomOfChoice hpl;have hlt:∀t,t<s+1→pl t<m.l:=fun t ht=>(hpl t ht).1
 have hLp:∀i,i<m.l→L i=ds Q (s+1) (plD pl i):=by
  intro i hi;rw[(hD i hi).2];refine CO fun t ht=>?_;obtain⟨a,b,c⟩:=hpl t ht;unfold plD;split
  ·rename_i e; rw[←e]; exact b
  ·rename_i e; exact c i hi fun k=>e k.symm
 have hsel:=fun(c:Nat→Prop) (_:DecidablePred c)=>sel_ds (Q:=Q) hlt hLp c
 have hQev:Q % 2=0:=by omega
 -- the first place
 have hp0:pl 0=0:=by
  have e:=hLp 0 (by omega);rw[ds]at e;have h5:=undN_one.1 h5;rw[e,hQd,Nat.mul_assoc]at h5;unfold plD at h5;split at h5
  ·assumption
  ·omega
 -- halts
 have hhalt:∀t,t<s+1→(if m.op (pl t)=3 then 1 else 0)=if t=s then 1 else 0:=by
  have e:=hsel (fun i=>m.op i=3) inferInstance;rw[←h6,←ds_ind (Q:=Q) (show s<s+1 by omega)]at e;exact ds_inj (fun t _=>by split<;>omega) (fun t _=>by split<;>omega) e.symm
 have hs3:m.op (pl s)=3:=by
  have:=hhalt s (by omega);simp only[if_true]at this;split at this
  ·assumption
  ·omega
 have hn3:∀t,t<s→m.op (pl t)≠3:=fun t ht k=>by
  have:=hhalt t (by omega);rw[if_pos k,if_neg (by omega)]at this;omega
 -- the registers' digits
 have hR:∀j,∃d:Nat→Nat,j<m.R→(∀t,d t≤H-1)∧Rg j=ds Q (s+1) d:=by
  intro j;by_cases hj:j<m.R
  ·have hu:=h7 j hj;rw[eI,←ds_mul,hQk]at hu;obtain⟨d,d1,d2,d3⟩:=undN_digits (fun t _=>by omega) hu;refine⟨fun t=>if t<s+1 then d t else 0,fun _=>⟨fun t=>?_,?_⟩⟩
   ·dsimp only;split
    ·have:=undN_le (d3 t (by assumption)); omega
    ·omega
   ·rw[d2,hQk]
    exact CO fun t ht=>by rw[if_pos ht]
  ·exact⟨fun _=>0,fun k=>absurd k hj⟩
 obtain⟨rr,hrr⟩:=Classical.axiomOfChoice hR
 -- what a mask says
 have hund:∀i,i<m.l→∀(e:Nat→Nat) (N:Nat),N=ds Q (s+2) e→(∀t,t<s+2→e t<Q)→undN (Q*L i) N→∀t,t<s→pl t=i→e (t+1) % 2=1:=by
  intro i hi e N hN he hu t ht hti;rw[hLp i hi,ds_shift,hN,hQk]at hu;have:=(undN_ds (k:=k) (n:=s+2) (fun t _=>by(try dsimp only); unfold plD; split<;>(try split)<;>omega) (fun t ht=>by have:=he t ht; omega)).1 hu (t+1) (by omega);simp only[Nat.succ_ne_zero,if_false,Nat.add_sub_cancel]at this;unfold plD at this;rw[if_pos hti]at this;exact undN_one.1 this
 have hpad:∀i,i<m.l→L i=ds Q (s+2) fun t=>if t<s+1 then plD pl i t else 0:=fun i hi=>by
  rw[hLp i hi]; exact ds_pad _
 have hgo:∀t,t<s→pl (t+1)=m.to (pl t) fun j=>rr j t:=by
  intro t ht;have hi:=hlt t (by omega);have hi3:=hn3 t ht;rcases ok.ins (pl t) hi with k3|⟨o1,o2,o3,o4,o5⟩
  ·exact absurd k3 hi3
  have h8:=h8 (pl t) hi hi3;unfold Mach.to
  have defl:undN (Q*L (pl t)) (L (m.nx (pl t)))→pl (t+1)=m.nx (pl t):=fun hu=>by
   have:=hund _ hi _ _ (hpad _ o3) (fun t _=>by(try dsimp only); unfold plD; split<;>(try split)<;>omega) hu t ht rfl;rw[if_pos (by omega)]at this;unfold plD at this;split at this
   ·assumption
   ·omega
  by_cases hj:m.op (pl t)=2∧m.zr (pl t)≠m.nx (pl t)
  ·rw[if_pos hj]at h8;obtain⟨u1,w,hw,u2⟩:=h8
   -- one of the two
   have hone:pl (t+1)=m.nx (pl t)∨pl (t+1)=m.zr (pl t):=by
    have e:L (m.nx (pl t))+L (m.zr (pl t))=ds Q (s+2) fun u=>(if u<s+1 then plD pl (m.nx (pl t)) u else 0)+(if u<s+1 then plD pl (m.zr (pl t)) u else 0):=by
     rw[Dc,←hpad _ o3,←hpad _ o4]
    have:=hund (pl t) hi _ _ e (fun t _=>by(try dsimp only); unfold plD; split<;>(try split)<;>(try split)<;>omega) u1 t ht rfl;rw[if_pos (by omega),if_pos (by omega)]at this;unfold plD at this;split at this
    ·left; assumption
    ·split at this
     ·right; assumption
     ·omega
   -- which
   obtain⟨i,hii⟩:∃i,i=pl t:=⟨_,rfl⟩;rw[←hii]at hi o2 o3 o4 o5 hj hw u2 hone ⊢;have hr:=hrr (m.rg i) o2
   have hr2:∀t,2*rr (m.rg i) t≤Q:=fun t=>by have:=hr.1 t; omega
   have hb:∀t,plD pl (m.nx i) t≤1:=fun t=>by unfold plD; split<;>omega
   have hwd:w=ds Q (s+1) (jmpF Q (rr (m.rg i)) (plD pl (m.nx i))):=by
    have e:ds Q (s+1) (jmpF Q (rr (m.rg i)) (plD pl (m.nx i)))+2*Rg (m.rg i)=L (m.nx i)+Q*I:=by
     rw[hr.2,←ds_mul,←Dc,hLp _ o3,eI,←ds_mul,←Dc];refine CO fun t _=>?_;have:=hr2 t;unfold jmpF;omega
    omega
   have hwd2:w=ds Q (s+2) fun t=>if t<s+1 then dgN Q (jmpF Q (rr (m.rg i)) (plD pl (m.nx i))) t else cyN Q (jmpF Q (rr (m.rg i)) (plD pl (m.nx i))) (s+1):=by
    rw[DF,if_neg (by omega),hwd,ds_carry];congr 1
    exact CO fun t ht=>by rw[if_pos ht]
   have hcy:=jmp_cy (r:=rr (m.rg i)) (show 3≤Q by omega) hb (s+1)
   have hodd:=hund i hi _ _ hwd2 (fun t _=>by
    (try dsimp only)
    split
    ·exact Nat.mod_lt _ (by omega)
    ·omega) u2 t ht hii.symm
   rw[if_pos (by omega)]at hodd
   have hne:plD pl (m.nx i) t=0:=by
    unfold plD;rw[if_neg];rw[←hii];exact fun k=>o5 hj.1 k.symm
   have:=(jmp_digit (t:=t) (show 3≤Q by omega) hQev hb hr2 hne).1 hodd;unfold plD at this;split at this
   ·rename_i e;split at this
    ·omega
    ·rename_i hz;rw[if_neg (fun k=>hz k.2)];exact e
   ·rename_i e;split at this
    ·rename_i hz;rw[if_pos ⟨hj.1,hz⟩];exact hone.resolve_left e
    ·omega
  ·rw[if_neg hj]at h8;have e:=defl h8;split
   ·rename_i hz;rw[e];exact(Classical.byContradiction fun k=>hj ⟨hz.1,fun q=>k q.symm⟩)
   ·exact e
 -- the registers' changes
 have hreg:∀j,j<m.R→rr j 0=x j∧(∀t,t<s→rr j (t+1)+(if m.op (pl t)=1∧m.rg (pl t)=j then 1 else 0)=rr j t+(if m.op (pl t)=0∧m.rg (pl t)=j then 1 else 0))∧E j=rr j s:=by
  intro j hj;have h9:=h9 j hj;have hr:=hrr j hj;have hxj:=hx j hj;rw[hsel (fun i=>m.op i=1∧m.rg i=j) inferInstance,hsel (fun i=>m.op i=0∧m.rg i=j) inferInstance]at h9;obtain⟨dc,hdc⟩:∃dc:Nat→Nat,dc=fun t=>if m.op (pl t)=1∧m.rg (pl t)=j then 1 else 0:=⟨_,rfl⟩;obtain⟨ic,hic⟩:∃ic:Nat→Nat,ic=fun t=>if m.op (pl t)=0∧m.rg (pl t)=j then 1 else 0:=⟨_,rfl⟩
  have hdc1:∀t,dc t≤1:=fun t=>by rw[hdc]; dsimp only; split<;>omega
  have hic1:∀t,ic t≤1:=fun t=>by rw[hic]; dsimp only; split<;>omega
  rw[←hdc,←hic,hr.2]at h9
  have hA:ds Q (s+1) (rr j)+E j*Q^(s+1)+Q*ds Q (s+1) dc=ds Q (s+1) (fun t=>rr j t+if t=0 then 0 else dc (t-1))+(E j+dc s)*Q^(s+1):=by
   rw[ds_shift,DF (s+1),if_neg (by omega),Dc,Nat.add_mul];simp only[Nat.add_sub_cancel];omega
  have hB:x j+Q*ds Q (s+1) (rr j)+Q*ds Q (s+1) ic=ds Q (s+1) (fun t=>if t=0 then x j else rr j (t-1)+ic (t-1))+(rr j s+ic s)*Q^(s+1):=by
   rw[Nat.add_assoc,←Nat.mul_add,←Dc,ds_cons,DF (s+1),if_neg (by omega)];simp only[Nat.add_sub_cancel]
  rw[hA,hB]at h9
  have hbd:∀t,rr j t+1<Q:=fun t=>by have:=hr.1 t; omega
  obtain⟨e1,e2⟩:=ds_inj_top (fun t _=>by
   have:=hbd t;split
   ·omega
   ·have:=hdc1 (t-1); omega) (fun t _=>by
   have:=hbd (t-1);have:=hic1 (t-1)
   split<;>omega) h9
  have ds0:dc s=0:=by rw[hdc]; dsimp only; rw[if_neg (by rw[hs3]; omega)]
  have is0:ic s=0:=by rw[hic]; dsimp only; rw[if_neg (by rw[hs3]; omega)]
  refine⟨?_,fun t ht=>?_,by omega⟩
  ·have:=e1 0 (by omega);simpa using this
  ·have:=e1 (t+1) (by omega);simp only[Nat.succ_ne_zero,if_false,Nat.add_sub_cancel]at this;rw[hdc,hic]at this;exact this
 refine⟨pl,fun t j=>rr j t,⟨fun t ht=>hlt t (by omega),hp0,fun j hj=>(hreg j hj).1,fun t ht=>⟨hn3 t ht,hgo t ht⟩,fun t ht j hj=>(hreg j hj).2.1 t ht,hs3⟩,eI,hLp,fun j hj=>⟨(hrr j hj).2,(hreg j hj).2.2⟩⟩
end Go.AL
/- Machines: a run solves the system; there is one run. Plain. -/
namespace Go.AL
theorem Mach.Run.reg_le {m:Mach} {x:Nat→Nat} {s:Nat} {pl:Nat→Nat} {r:Nat→Nat→Nat} (h:m.Run x s pl r) {j:Nat} (hj:j<m.R):∀t,t≤s→r t j≤x j+t
 | 0,_=>by rw[h.r0 j hj]; omega
 | t+1,ht=>by
  have ih:=h.reg_le hj t (by omega);have:=h.chg t (by omega) j hj;split at this<;>split at this<;>omega
theorem hist_there {m:Mach} {x:Nat→Nat} {add s H:Nat} {pl:Nat→Nat} {r:Nat→Nat→Nat} (ok:m.Ok) (hadd:m.l≤add) (hx:∀j,j<m.R→x j≤add) (h:m.Run x s pl r) (hH:H=2^(s+add)) :
  HistEq m x add s H (ds (2*H) (s+1) fun _=>1) (fun i=>ds (2*H) (s+1) (plD pl i)) (fun j=>ds (2*H) (s+1) fun t=>r t j) (fun j=>r s j):=by
 obtain⟨k,hk⟩:∃k,k=s+add+1:=⟨_,rfl⟩;have hl0:=ok.l0
 have hQ:2*H=2^k:=by rw[hH,hk,Nat.pow_succ]; omega
 have hH1:k-1<H:=by rw[hH,show k-1=s+add by omega]; exact Nat.lt_two_pow_self
 have hHk:H=2^(k-1):=by rw[hH]; congr 1; omega
 obtain⟨Q,hQd⟩:∃Q,Q=2*H:=⟨_,rfl⟩
 have hQk:Q=2^k:=by omega
 have hQ4:4≤Q:=by omega
 have hQev:Q % 2=0:=by omega
 have hlt:∀t,t<s+1→pl t<m.l:=fun t ht=>h.lt t (by omega)
 have hrle:∀j,j<m.R→∀t,t≤s→r t j≤H-1:=fun j hj t ht=>by
  have:=h.reg_le hj t ht;have:=hx j hj;omega
 have hsel:=fun(c:Nat→Prop) (_:DecidablePred c)=>sel_ds (Q:=Q) (L:=fun i=>ds Q (s+1) (plD pl i)) hlt (fun _ _=>rfl) c;have hpad:∀i,ds Q (s+1) (plD pl i)=ds Q (s+2) fun t=>if t<s+1 then plD pl i t else 0:=fun i=>ds_pad _
 -- what a mask needs
 have hund:∀i,m.op i≠3→∀(e:Nat→Nat) (N:Nat),N=ds Q (s+2) e→(∀t,t<s+2→e t<Q)→(∀t,t<s→pl t=i→e (t+1) % 2=1)→undN (Q*ds Q (s+1) (plD pl i)) N:=by
  intro i hi3 e N hN he hu;rw[ds_shift,hN,hQk];refine(undN_ds (k:=k) (n:=s+2) (fun t _=>by(try dsimp only); unfold plD; split<;>(try split)<;>omega) (fun t ht=>by have:=he t ht; omega)).2 fun t ht=>?_
  cases t with
  | zero=>simp only[if_true]; exact undN_zero _
  | succ t=>
   simp only[Nat.succ_ne_zero,if_false,Nat.add_sub_cancel];unfold plD;split
   ·rename_i hti;rcases(show t=s∨t<s by omega)with h1|h1
    ·subst h1;have:=h.halt;rw[hti]at this;exact absurd this hi3
    ·exact undN_one.2 (hu t h1 hti)
   ·exact undN_zero _
 rw[←hQd];refine⟨hH,?_,?_,fun i hi=>?_,?_,?_,fun j hj=>?_,fun i hi hi3=>?_,fun j hj=>?_⟩
 ·rw[←hQd]; exact ds_ones (by omega) _
 ·rw[ds_sum];refine CO fun t ht=>?_;show 1=sumN m.l fun i=>if pl t=i then 1 else 0;rw[sumN_ind (l:=m.l) (fun _=>1),if_pos (hlt t ht)]
 ·rw[hQk];refine(undN_ds (fun t _=>by unfold plD; split<;>omega) (fun t _=>by omega)).2 fun t _=>?_;unfold plD;split
  ·exact undN_one.2 rfl
  ·exact undN_zero _
 ·refine undN_one.2 ?_;rw[ds,hQd,Nat.mul_assoc];unfold plD;rw[if_pos h.at0];omega
 ·rw[←hQd,hsel (fun i=>m.op i=3) inferInstance,←ds_ind (Q:=Q) (show s<s+1 by omega)];refine CO fun t ht=>?_;rcases(show t=s∨t<s by omega)with h1|h1
  ·subst h1; rw[if_pos rfl,if_pos h.halt]
  ·rw[if_neg (by omega),if_neg (h.go t h1).1]
 ·rw[←ds_mul,hQk];refine(undN_ds (fun t ht=>by have:=hrle j hj t (by omega); omega) (fun t _=>by omega)).2 fun t ht=>?_;have:=hrle j hj t (by omega);rw[Nat.mul_one,hHk];exact undN_mask (by omega)
 ·rw [←hQd];rcases ok.ins i hi with k3|⟨o1,o2,o3,o4,o5⟩
  ·exact absurd k3 hi3
  by_cases hj:m.op i=2∧m.zr i≠m.nx i
  ·rw [if_pos hj]
   have hb:∀t,plD pl (m.nx i) t≤1:=fun t=>by unfold plD; split<;>omega
   obtain⟨rr,hrr⟩:∃rr:Nat→Nat,rr=fun t=>if t≤s then r t (m.rg i)else 0:=⟨_,rfl⟩
   have hrv:∀t,t≤s→rr t=r t (m.rg i):=fun t ht=>by rw[hrr]; exact if_pos ht
   have hr2:∀t,2*rr t≤Q:=fun t=>by
    by_cases ht:t≤s
    ·have:=hrle _ o2 t ht;rw[hrv t ht]; omega
    ·rw[hrr]; simp only[if_neg ht]; omega
   refine⟨?_,ds Q (s+1) (jmpF Q rr (plD pl (m.nx i))),?_,?_⟩
   ·refine hund i hi3 (fun u=>(if u<s+1 then plD pl (m.nx i) u else 0)+(if u<s+1 then plD pl (m.zr i) u else 0)) _ ?_ (fun t _=>by(try dsimp only); unfold plD; split<;>(try split)<;>(try split)<;>omega) fun t ht hti=>?_
    ·rw[Dc,←hpad,←hpad]
    ·have hg:=(h.go t ht).2;rw[hti]at hg;unfold Mach.to at hg;rw[if_pos (by omega),if_pos (by omega)];unfold plD;split at hg
     ·rw[hg,if_neg hj.2,if_pos rfl]
     ·rw[hg,if_pos rfl,if_neg (fun q=>hj.2 q.symm)]
   ·rw[←ds_mul,←ds_mul];have e1:=Dc (Q:=Q) (s+1) (jmpF Q rr (plD pl (m.nx i))) fun t=>2*r t (m.rg i);have e2:=Dc (Q:=Q) (s+1) (plD pl (m.nx i)) fun _=>Q*1;rw[←e1,←e2];refine CO fun t ht=>?_;have:=hr2 t;rw[hrv t (by omega)]at this;show Q-2*rr t+plD pl (m.nx i) t+2*r t (m.rg i)=plD pl (m.nx i) t+Q*1;rw[hrv t (by omega)];omega
   ·have hcy:=jmp_cy (r:=rr) (show 3≤Q by omega) hb (s+1)
    refine hund i hi3 (fun t=>if t<s+1 then dgN Q (jmpF Q rr (plD pl (m.nx i))) t else cyN Q (jmpF Q rr (plD pl (m.nx i))) (s+1)) _ ?_ (fun t _=>by
     (try dsimp only)
     split
     ·exact Nat.mod_lt _ (by omega)
     ·omega) fun t ht hti=>?_
    ·rw[DF (s+1),if_neg (by omega),ds_carry];congr 1
     exact CO fun t ht=>by rw[if_pos ht]
    ·rw[if_pos (by omega)]
     have hne:plD pl (m.nx i) t=0:=by
      unfold plD;rw[if_neg];rw[hti];exact fun k=>o5 hj.1 k.symm
     refine(jmp_digit (t:=t) (show 3≤Q by omega) hQev hb hr2 hne).2 ?_;rw[hrv t (by omega)];have hg:=(h.go t ht).2;rw[hti]at hg;unfold Mach.to at hg;unfold plD;by_cases hz:r t (m.rg i)=0
     ·rw[if_pos ⟨hj.1,hz⟩]at hg;rw[hg,if_neg hj.2,if_pos hz]
     ·rw[if_neg (fun q=>hz q.2)]at hg;rw[hg,if_pos rfl,if_neg hz]
  ·rw[if_neg hj];refine hund i hi3 _ _ (hpad _) (fun t _=>by(try dsimp only); unfold plD; split<;>(try split)<;>omega) fun t ht hti=>?_;have hg:=(h.go t ht).2;rw[hti]at hg;unfold Mach.to at hg;rw[if_pos (by omega)];unfold plD;split at hg
   ·rename_i hz;rw[hg,if_pos (Classical.byContradiction fun q=>hj ⟨hz.1,q⟩)]
   ·rw[hg,if_pos rfl]
 ·rw[←hQd];rw[hsel (fun i=>m.op i=1∧m.rg i=j) inferInstance,hsel (fun i=>m.op i=0∧m.rg i=j) inferInstance];obtain⟨dc,hdc⟩:∃dc:Nat→Nat,dc=fun t=>if m.op (pl t)=1∧m.rg (pl t)=j then 1 else 0:=⟨_,rfl⟩;obtain⟨ic,hic⟩:∃ic:Nat→Nat,ic=fun t=>if m.op (pl t)=0∧m.rg (pl t)=j then 1 else 0:=⟨_,rfl⟩;rw[←hdc,←hic]
  have ds0:dc s=0:=by rw[hdc]; dsimp only; rw[if_neg (by rw[h.halt]; omega)]
  have is0:ic s=0:=by rw[hic]; dsimp only; rw[if_neg (by rw[h.halt]; omega)]
  have hA:ds Q (s+1) (fun t=>r t j)+r s j*Q^(s+1)+Q*ds Q (s+1) dc=ds Q (s+1) (fun t=>r t j+if t=0 then 0 else dc (t-1))+(r s j+dc s)*Q^(s+1):=by
   rw[ds_shift,DF (s+1),if_neg (by omega),Dc,Nat.add_mul];simp only[Nat.add_sub_cancel];omega
  have hB:x j+Q*ds Q (s+1) (fun t=>r t j)+Q*ds Q (s+1) ic=ds Q (s+1) (fun t=>if t=0 then x j else r (t-1) j+ic (t-1))+(r s j+ic s)*Q^(s+1):=by
   rw[Nat.add_assoc,←Nat.mul_add,←Dc,ds_cons,DF (s+1),if_neg (by omega)];simp only[Nat.add_sub_cancel]
  rw[hA,hB,ds0,is0];congr 1;refine CO fun t ht=>?_
  cases t with
  | zero=>simp[h.r0 j hj]
  | succ t=>
   have:=h.chg t (by omega) j hj;simp only[Nat.succ_ne_zero,if_false,Nat.add_sub_cancel];rw[hdc,hic];exact this
theorem Mach.Run.uniq {m:Mach} {x:Nat→Nat} {s s':Nat} {pl pl':Nat→Nat} {r r':Nat→Nat→Nat} (ok:m.Ok) (h:m.Run x s pl r) (h':m.Run x s' pl' r'):s=s'∧∀t,t≤s→pl t=pl' t∧∀j,j<m.R→r t j=r' t j:=by
 have key:∀t,t≤s→t≤s'→pl t=pl' t∧∀j,j<m.R→r t j=r' t j:=by
  intro t
  induction t with
  | zero=>exact fun _ _=>⟨by rw[h.at0,h'.at0],fun j hj=>by rw[h.r0 j hj,h'.r0 j hj]⟩
  | succ t ih=>
   intro h1 h2;obtain⟨e1,e2⟩:=ih (by omega) (by omega);have g1:=h.go t (by omega);have g2:=h'.go t (by omega);refine⟨?_,fun j hj=>?_⟩
   ·rw[g1.2,g2.2,←e1];unfold Mach.to;rcases ok.ins (pl t) (h.lt t (by omega))with k|⟨_,o2,_⟩
    ·exact absurd k g1.1
    ·rw[e2 _ o2]
   ·have c1:=h.chg t (by omega) j hj;have c2:=h'.chg t (by omega) j hj;rw[←e1,←e2 j hj]at c2;omega
 have hs:s=s':=by
  rcases Nat.lt_trichotomy s s' with k|k|k
  ·have:=(key s (by omega) (by omega)).1;have h3:=h.halt;rw[this]at h3;exact absurd h3 (h'.go s k).1
  ·exact k
  ·have:=(key s' (by omega) (by omega)).1;have h3:=h'.halt;rw[←this]at h3;exact absurd h3 (h.go s' k).1
 subst hs;exact⟨rfl,fun t ht=>key t ht ht⟩
end Go.AL
namespace Go.AL
section
variable {P:Program} {tab:Tab} {n:Nat} {s:St}
variable {ops:Array Oper} {draw:Dr} {o:Oper} {l:List Oper} {acc:List Eff} {K:Exit→St→Prop}
end
theorem ordX_eq:∀(a b:List Int) (x y:Int),a.length=b.length→ordX x y a b=if x=y then cmpL a b else cmpI x y
 | [],[],x,y,_=>by
  simp only[ordX,cmpL];split
  ·rename_i h; rw[cmpI_eq h]
  ·rfl
 | [],_::_,_,_,h=>by simp at h
 | _::_,[],_,_,h=>by simp at h
 | a::l,b::m,x,y,h=>by
  simp only[ordX,cmpL];split
  ·rw[ordX_eq l m a b (by simpa using h)];by_cases hab:a=b
   ·rw[if_pos hab,if_pos (cmpI_zero.2 hab)]
   ·rw[if_neg hab,if_neg fun k=>hab (cmpI_zero.1 k)]
  ·rfl
theorem BJ (x y:Int):cmpI x y=1∧y<x∨cmpI x y=0∧x=y∨cmpI x y = -1∧x<y:=by
 unfold cmpI;split
 ·exact .inr (.inr ⟨rfl,by omega⟩)
 ·split
  ·exact .inl ⟨rfl,by omega⟩
  ·exact .inr (.inl ⟨rfl,by omega⟩)
theorem cmpI_swap (x y:Int):cmpI x y = - cmpI y x:=by
 have h1:=BJ x y;have h2:=BJ y x;omega
theorem cmpL_swap:∀(a b:List Int),a.length=b.length→cmpL a b = - cmpL b a
 | [],[],_=>rfl
 | [],_::_,h=>by simp at h
 | _::_,[],h=>by simp at h
 | x::a,y::b,h=>by
  simp only[cmpL];have hs:=cmpI_swap x y;by_cases hz:cmpI x y=0
  ·rw[if_pos hz,if_pos (by omega)]; exact cmpL_swap a b (by simpa using h)
  ·rw[if_neg hz,if_neg (by omega)]; exact hs
theorem FJ:∀(a b:List Int),cmpL a b=1∨cmpL a b=0∨cmpL a b = -1
 | [],[] => .inr (.inl rfl)
 | [],_::_ => .inr (.inr rfl)
 | _::_,[] => .inl rfl
 | x::a,y::b=>by
  simp only[cmpL];split
  ·exact FJ a b
  ·rcases BJ x y with h|h|h<;>omega
theorem rOrd_one {a b:List Int} (h:a.length=b.length):rOrd a b=1↔ordI a b<0:=by
 unfold rOrd ordI;rw[ordX_eq a b _ _ h];have hs:=cmpL_swap a b h;have hr:=FJ a b;by_cases hz:sumL a=sumL b
 ·rw[if_pos hz,if_pos (by omega)]; omega
 ·rw[if_neg hz,if_neg (by omega)];rcases BJ (sumL a) (sumL b)with k|k|k<;>omega
end Go.AL
namespace Go.Proofs.YtmmfloplhopioaaGreat
open Go.AL
end Go.Proofs.YtmmfloplhopioaaGreat
namespace Go.AL
end Go.AL
namespace Go.Proofs.YtmmfloplhopioaaGreat
open Go.AL
end Go.Proofs.YtmmfloplhopioaaGreat
namespace Go.AL
end Go.AL
namespace Go.Proofs.YtmmfloplhopioaaGreat
open Go.AL
end Go.Proofs.YtmmfloplhopioaaGreat
namespace Go.AL
end Go.AL
namespace Go.Proofs.YtmmfloplhopioaaGreat
open Go.AL
end Go.Proofs.YtmmfloplhopioaaGreat
namespace Go.Proofs.YtmmfloplhopioaaGreat
open Go.Shelf
def sortL_ren:Go.Shelf.Ren:=⟨fun|6=>229|15=>238|14=>237|28=>250|29=>251|20=>242|21=>243|22=>244|23=>245|24=>246|25=>247|26=>248|27=>249|46=>252|47=>253|48=>254|49=>255|50=>256|57=>257|n=>n,fun|22=>103|24=>158|25=>218|3=>3|39=>95|0=>0|53=>94|55=>92|4=>4|46=>262|45=>261|50=>62|5=>5|9=>9|66=>269|70=>181|76=>274|77=>195|n=>n,fun|n=>n⟩
theorem sortL:Go.Proofs.SlLaysF0.n6 Tryz.prog sortL_ren:={
 mixed:=by kernel_rfl
 f6:=⟨Tryz.f229.name,by decide,Tryz.func229.trans (congrArg some (by kernel_rfl))⟩
 f14:=⟨Tryz.f237.name,by decide,Tryz.func237.trans (congrArg some (by kernel_rfl))⟩
 f15:=Tryz.func238.trans (congrArg some (by kernel_rfl))
 f20:=⟨Tryz.f242.name,by decide,Tryz.func242.trans (congrArg some (by kernel_rfl))⟩
 f21:=⟨Tryz.f243.name,by decide,Tryz.func243.trans (congrArg some (by kernel_rfl))⟩
 f22:=⟨Tryz.f244.name,by decide,Tryz.func244.trans (congrArg some (by kernel_rfl))⟩
 f23:=⟨Tryz.f245.name,by decide,Tryz.func245.trans (congrArg some (by kernel_rfl))⟩
 f24:=⟨Tryz.f246.name,by decide,Tryz.func246.trans (congrArg some (by kernel_rfl))⟩
 f25:=⟨Tryz.f247.name,by decide,Tryz.func247.trans (congrArg some (by kernel_rfl))⟩
 f26:=⟨Tryz.f248.name,by decide,Tryz.func248.trans (congrArg some (by kernel_rfl))⟩
 f27:=⟨Tryz.f249.name,by decide,Tryz.func249.trans (congrArg some (by kernel_rfl))⟩
 f28:=Tryz.func250.trans (congrArg some (by kernel_rfl))
 f29:=Tryz.func251.trans (congrArg some (by kernel_rfl))
 f46:=⟨Tryz.f252.name,by decide,Tryz.func252.trans (congrArg some (by kernel_rfl))⟩
 f47:=Tryz.func253.trans (congrArg some (by kernel_rfl))
 f48:=Tryz.func254.trans (congrArg some (by kernel_rfl))
 f49:=⟨Tryz.f255.name,by decide,Tryz.func255.trans (congrArg some (by kernel_rfl))⟩
 f50:=⟨Tryz.f256.name,by decide,Tryz.func256.trans (congrArg some (by kernel_rfl))⟩
 f57:=⟨Tryz.f257.name,by decide,Tryz.func257.trans (congrArg some (by kernel_rfl))⟩
 t0:=Tryz.underlying0
 a0:=Tryz.isAgg0
 z0:=Tryz.sizeOf0
 v0:=Tryz.zeroValue0
 t3:=Tryz.underlying3
 a3:=Tryz.isAgg3
 z3:=Tryz.sizeOf3
 v3:=Tryz.zeroValue3
 t4:=Tryz.underlying4
 a4:=Tryz.isAgg4
 z4:=Tryz.sizeOf4
 v4:=Tryz.zeroValue4
 t5:=Tryz.underlying5
 a5:=Tryz.isAgg5
 z5:=Tryz.sizeOf5
 v5:=Tryz.zeroValue5
 t9:=Tryz.underlying9
 a9:=Tryz.isAgg9
 z9:=Tryz.sizeOf9
 v9:=Tryz.zeroValue9
 t22:=Tryz.underlying103
 a22:=Tryz.isAgg103
 z22:=Tryz.sizeOf103
 v22:=Tryz.zeroValue103
 t25:=Tryz.underlying218
 a25:=Tryz.isAgg218
 z25:=Tryz.sizeOf218
 v25:=Tryz.zeroValue218
 t39:=Tryz.underlying95
 a39:=Tryz.isAgg95
 z39:=Tryz.sizeOf95
 v39:=Tryz.zeroValue95
 t45:=Tryz.underlying261
 a45:=Tryz.isAgg261
 z45:=Tryz.sizeOf261
 v45:=Tryz.zeroValue261
 t46:=Tryz.underlying262
 a46:=Tryz.isAgg262
 z46:=Tryz.sizeOf262
 v46:=Tryz.zeroValue262
 t50:=Tryz.underlying62
 a50:=Tryz.isAgg62
 z50:=Tryz.sizeOf62
 v50:=Tryz.zeroValue62
 t53:=Tryz.underlying94
 a53:=Tryz.isAgg94
 z53:=Tryz.sizeOf94
 v53:=Tryz.zeroValue94
 t55:=Tryz.underlying92
 a55:=Tryz.isAgg92
 z55:=Tryz.sizeOf92
 v55:=Tryz.zeroValue92
 t66:=Tryz.underlying269
 a66:=Tryz.isAgg269
 z66:=Tryz.sizeOf269
 v66:=Tryz.zeroValue269
 t70:=Tryz.underlying181
 a70:=Tryz.isAgg181
 z70:=Tryz.sizeOf181
 v70:=Tryz.zeroValue181
 t76:=Tryz.underlying274
 a76:=Tryz.isAgg274
 z76:=Tryz.sizeOf274
 v76:=Tryz.zeroValue274
 t77:=Tryz.underlying195
 a77:=Tryz.isAgg195
 z77:=Tryz.sizeOf195
 v77:=Tryz.zeroValue195 }
end Go.Proofs.YtmmfloplhopioaaGreat
namespace Go.AL
theorem repL_set {h:Hp} {β β':Bt} (hb:β.le β'):∀(cs:List AV) (us:List Value) (j:Nat) (v:AV) (u:Value),RepL h β cs us→us[j]? = some u→Rep h β' v u→RepL h β' (cs.set j v) us
 | [],us,j,v,u,hr,hj,hv=>by simp only[RepL]at hr; subst hr; simp at hj
 | c::cs,us,0,v,u,hr,hj,hv=>by
  simp only[RepL]at hr;obtain⟨u0,r,rfl,h1,h2⟩:=hr;simp at hj; subst hj;exact RepL.cons hv (h2.mono (Ac h) hb)
 | c::cs,us,j+1,v,u,hr,hj,hv=>by
  simp only[RepL]at hr;obtain⟨u0,r,rfl,h1,h2⟩:=hr;exact RepL.cons (h1.mono (Ac h) hb) (repL_set hb cs r j v u h2 (by simpa using hj) hv)
theorem Bc {n:Nat} {I:List Id} {s:St} (id:Id) (j:Nat) (b:Id) {cs:List AV} {t:TypeId} (hb:s.bx id=some (.cells cs t)) (hj:cs[j]? = some (.v (.slice none 0 0))) (hal:s.al b=false) {α:Type} (sz:Nat) (enc:α→List AV) (t':TypeId) :
  Ent n I s ((Eff.mk .any [(id,.cells (cs.set j (.row b)) t)] [] [] []).app none ((Eff.mk .any [(b,.row sz enc ([]:List α) t')] [] [b] []).app none s)):=by
 intro C a w h β hi k
 have hB:BoxAt w h (β.set b (.slice none 0 0)) b (.row sz enc ([]:List α) t'):=
  ⟨_,[],Bt.set_same _ _ _,World.ownsRow_nil w 0 t' sz,RepL.nil,(fun x hx=>by cases hx),(fun g hg=>by simp[Value.ownBlock]at hg)⟩
 have k1:=k.addbox hal (bv := .slice none 0 0) hB (fun g hg=>by simp[blk]at hg) none (fun t ht=>by cases ht) (v := .any) (u:=undef) (by simp only[Rep]) []
 have hne:id≠b:=fun e=>by
  subst e;obtain⟨g,us,e,_⟩:=k.box id _ hb;rw[k.dom id hal]at e; cases e
 have hb1:((Eff.mk AV.any [(b,.row sz enc ([]:List α) t')] [] [b] []).app none s).bx id=some (.cells cs t):=by
  simp[Eff.app,updB,delB,Ak hne,hb]
 obtain⟨g,us,e,hh,hr,hn⟩:=k1.box id _ hb1;obtain⟨u,hu1,hu2⟩:=hr.get j _ hj
 have hu2:u = .slice none 0 0:=by simpa only[Rep]using hu2
 subst hu2;exact⟨h,_,k1.setbox (B' := .cells (cs.set j (.row b)) t) hb1 rfl rfl ⟨rfl,Nat.le_refl _⟩ rfl (fun _ _=>rfl) ⟨g,us,e,hh,repL_set (AW _) _ _ j _ _ hr hu1 (by simp only[Rep]; exact⟨Bt.set_same _ _ _,_,_,_,rfl⟩),hn⟩ ⟨g,by simp[e,blk]⟩ none (fun t ht=>by cases ht) (v := .any) (u:=undef) (by simp only[Rep]) []⟩
end Go.AL
namespace Go.Proofs.YtmmfloplhopioaaGreat
open Go.AL
theorem cloneI_ok (l:List Int) (hl:l.length≤100000):PureFn Tryz.prog 82 [aI l] (aI l):=by
 refine AC Tryz.func82 rfl Tryz.ntmps82 rfl rfl ?_;refine AE ?_;(repeat' first|refine qv ?_|apply qn|apply qr);refine⟨AWP.seq (AWP.seq (AWP.nilTest rfl rfl rfl rfl rfl rfl rfl rfl rfl rfl ?_))⟩;intro b hb
 cases b with
 | true=>
  (repeat' first|refine qv ?_|apply qn|apply qs|apply qr|refine AJ rfl ?_|apply qt);rw[hb rfl];exact RetOk.of rfl (AV.Le.nil 1 eI)
 | false=>
  (repeat' first|apply qs|apply qr|refine AF rfl ?_|apply qk);refine Du rfl rfl rfl rfl rfl rfl rfl eI [] rfl rfl rfl rfl (by simp) (AB _) ?_;(repeat' first|refine qv ?_|fail);refine qa (hby:=(by dsimp only[List.length_nil]; omega)) (hm:=(by simp; omega)) (r:=?_);(repeat' first|refine qv ?_|apply qn|apply qt);refine Ao (Ent.freeze 7 rfl) ?_;exact RetOk.of rfl (AA _)
end Go.Proofs.YtmmfloplhopioaaGreat
/- Maps: the rules of their operations. -/
namespace Go.AL
open Go.ChangeMaps (setBlock)
section
variable {κ α:Type} {h:Hp} {ek:κ→Value} {av:α→AV}
theorem MapRep.len:∀ {xs:List (κ×α×Nat)} {es:List MapEntry},MapRep h ek av xs es→es.length=xs.length
 | [],es,k=>by simp only[MapRep]at k; simp[k]
 | _::_,es,⟨e,r,h1,_,_,_,h5⟩=>by rw[h1]; simp[h5.len]
theorem MapRep.stamps:∀ {xs:List (κ×α×Nat)} {es:List MapEntry},MapRep h ek av xs es→es.map (·.born)=xs.map (·.2.2)
 | [],es,k=>by simp only[MapRep]at k; simp[k]
 | _::_,es,⟨e,r,h1,_,_,h4,h5⟩=>by rw[h1]; simp[h4,h5.stamps]
theorem MapRep.mem:∀ {xs:List (κ×α×Nat)} {es:List MapEntry},MapRep h ek av xs es→∀e∈es,∃p∈xs,e.key=ek p.1∧Rep h noB (av p.2.1) e.val∧e.born=p.2.2
 | [],es,k,e,he=>by simp only[MapRep]at k; subst k; cases he
 | p::xs,es,⟨e,r,h1,h2,h3,h4,h5⟩,e', he=>by
  subst h1;rcases List.mem_cons.1 he with rfl|he
  ·exact⟨p,by simp,h2,h3,h4⟩
  ·obtain⟨q,hq,h⟩:=h5.mem e' he;exact⟨q,by simp[hq],h⟩
theorem MapRep.mem':∀ {xs:List (κ×α×Nat)} {es:List MapEntry},MapRep h ek av xs es→∀p∈xs,∃e∈es,e.key=ek p.1∧Rep h noB (av p.2.1) e.val∧e.born=p.2.2
 | [],es,k,e,he=>by cases he
 | p::xs,es,⟨e,r,h1,h2,h3,h4,h5⟩,p', he=>by
  subst h1;rcases List.mem_cons.1 he with rfl|he
  ·exact⟨e,by simp,h2,h3,h4⟩
  ·obtain⟨q,hq,h⟩:=h5.mem' p' he;exact⟨q,by simp[hq],h⟩
theorem MapRep.push {k:κ} {x:α} {c:Nat} {v:Value} (hv:Rep h noB (av x) v):∀ {xs:List (κ×α×Nat)} {es:List MapEntry},MapRep h ek av xs es→MapRep h ek av (xs++[(k,x,c)]) (es++[⟨ek k,v,c⟩])
 | [],es,m=>by simp only[MapRep]at m; subst m; exact⟨_,[],rfl,rfl,hv,rfl,rfl⟩
 | p::xs,es,⟨e,r,h1,h2,h3,h4,h5⟩=>by subst h1; exact⟨e,_,rfl,h2,h3,h4,h5.push hv⟩
theorem MapRep.set {k:κ} {x:α} {v:Value} (hv:Rep h noB (av x) v):∀ {xs:List (κ×α×Nat)} {es:List MapEntry} (j:Nat) (p:κ×α×Nat),MapRep h ek av xs es→xs[j]? = some p→MapRep h ek av (xs.set j (k,x,p.2.2)) (es.modify j fun e=>{ e with key:=ek k,val:=v })
 | [],es,j,p,m,hp=>by simp at hp
 | q::xs,es,0,p,⟨e,r,h1,h2,h3,h4,h5⟩,hp=>by
  subst h1; simp at hp; subst hp;exact⟨_,r,rfl,rfl,hv,h4,h5⟩
 | q::xs,es,j+1,p,⟨e,r,h1,h2,h3,h4,h5⟩,hp=>by
  subst h1;exact⟨e,_,rfl,h2,h3,h4,MapRep.set hv j p h5 (by simpa using hp)⟩
theorem MapRep.erase:∀ {xs:List (κ×α×Nat)} {es:List MapEntry} (j:Nat),MapRep h ek av xs es→MapRep h ek av (xs.eraseIdx j) (es.eraseIdx j)
 | [],es,j,m=>by simp only[MapRep]at m; subst m; simp[MapRep]
 | q::xs,es,0,⟨e,r,h1,h2,h3,h4,h5⟩=>by subst h1; exact h5
 | q::xs,es,j+1,⟨e,r,h1,h2,h3,h4,h5⟩=>by subst h1; exact⟨e,_,rfl,h2,h3,h4,MapRep.erase j h5⟩
variable [DecidableEq κ]
def Am (k:κ):List (κ×α×Nat)→Nat→Option (Nat×(κ×α×Nat))
  | [],_=>none
  | p::xs,i=>if k=p.1 then some (i,p)else Am k xs (i+1)
def putM (k:κ) (x:α) (c:Nat) (xs:List (κ×α×Nat)):List (κ×α×Nat):=match Am k xs 0 with|some (j,p)=>xs.set j (k,x,p.2.2)|none=>xs++[(k,x,c)]
def putC (k:κ) (c:Nat) (xs:List (κ×α×Nat)):Nat:=match Am k xs 0 with|some _=>c|none=>c+1
def delM (k:κ) (xs:List (κ×α×Nat)):List (κ×α×Nat):=match Am k xs 0 with|some (j,_)=>xs.eraseIdx j|none=>xs
theorem DD {k:κ}:∀ {xs:List (κ×α×Nat)} {i j:Nat} {p:κ×α×Nat},Am k xs i=some (j,p)→i≤j∧xs[j-i]? = some p∧p.1=k
 | [],i,j,p,hf=>by simp[Am]at hf
 | q::xs,i,j,p,hf=>by
  unfold Am at hf;split at hf
  ·rename_i hk;injection hf with hf; injection hf with h1 h2; subst h1 h2;exact⟨Nat.le_refl _,by simp,hk.symm⟩
  ·obtain⟨h1,h2,h3⟩:=DD hf;refine⟨by omega,?_,h3⟩;rw[show j-i=(j-(i+1))+1 by omega];simpa using h2
def FindRes (h:Hp) (av:α→AV):Option (Nat×(κ×α×Nat))→Option (Nat×Value)→Prop
  | none,r=>r=none
  | some (j,p),r=>∃u,r=some (j,u)∧Rep h noB (av p.2.1) u
end
theorem findM_put {κ α:Type} [DecidableEq κ] (k:κ) (x:α) (c:Nat) (xs:List (κ×α×Nat)):∃j p,Am k (putM k x c xs) 0=some (j,p)∧p.2.1=x:=by
 have app:∀(xs:List (κ×α×Nat)) (i:Nat),Am k xs i=none→Am k (xs++[(k,x,c)]) i=some (i+xs.length,(k,x,c)):=by
  intro xs
  induction xs with
  | nil=>intro i _; simp[Am]
  | cons q xs ih=>
   intro i h;unfold Am at h;split at h
   ·cases h
   ·rename_i hk;rw[List.cons_append];unfold Am;rw[if_neg hk,ih (i+1) h];simp only[List.length_cons];congr 2; omega
 have st:∀(xs:List (κ×α×Nat)) (i j:Nat) (p:κ×α×Nat) (c':Nat),Am k xs i=some (j,p)→Am k (xs.set (j-i) (k,x,c')) i=some (j,(k,x,c')):=by
  intro xs
  induction xs with
  | nil=>intro i j p c' h; simp[Am]at h
  | cons q xs ih=>
   intro i j p c' h;have h0:=DD h;unfold Am at h;split at h
   ·injection h with h; injection h with h1 h2; subst h1;rw[Nat.sub_self];simp[Am]
   ·rename_i hk;have h1:=DD h;rw[show j-i=(j-(i+1))+1 by omega,List.set_cons_succ];unfold Am;rw[if_neg hk];exact ih (i+1) j p c' h
 unfold putM
 cases hf:Am k xs 0 with
 | none=>exact⟨_,_,app xs 0 hf,rfl⟩
 | some q=>obtain⟨j,p⟩:=q; exact⟨_,_,by have:=st xs 0 j p p.2.2 hf; rwa [Nat.sub_zero]at this,rfl⟩
structure KeyLaw (P:Program) (kt:TypeId) {κ:Type} [DecidableEq κ] (ek:κ→Value) (kc:κ→AV):Prop where
  rep:∀(h:Hp) (β:Bt) (k:κ) (u:Value),Rep h β (kc k) u→u=ek k
  back:∀(h:Hp) (β:Bt) (k:κ),Rep h β (kc k) (ek k)
  check:∀(e:Bool) (k:κ) (w:World),(Instr.checkKey e 10000 kt (ek k)).run P w = .ok () w
  find:∀(h:Hp) {α:Type} (av:α→AV) (k:κ) (xs:List (κ×α×Nat)) (es:List MapEntry) (w:World),MapRep h ek av xs es→∃r,(Instr.findKey kt (ek k) es).run P w = .ok r w∧FindRes h av (Am k xs 0) r
  bits:∀k:κ,Instr.sameBits 10000 (ek k) (ek k)=true
theorem findAsking_run {P:Program} {kt:TypeId} {κ:Type} [DecidableEq κ] {ek:κ→Value} (heq:∀(a b:κ) (w:World),(Op.equal kt (ek a) (ek b)).run P w = .ok (decide (a=b)) w) (h:Hp) {α:Type} (av:α→AV) (k:κ) (w:World) :
  ∀(xs:List (κ×α×Nat)) (es:List MapEntry) (i:Nat),MapRep h ek av xs es→∃r,(Instr.findAsking kt (ek k) es i).run P w = .ok r w∧FindRes h av (Am k xs i) r
 | [],es,i,m=>by simp only[MapRep]at m; subst m; exact⟨none,by simp[Instr.findAsking],rfl⟩
 | p::xs,es,i,⟨e,r,h1,h2,h3,h4,h5⟩=>by
  subst h1;simp only[Instr.findAsking,Sem.run_bind,h2,heq k p.1 w,Result.andThen,Am];by_cases hk:k=p.1
  ·simp only[hk,decide_true,if_true];exact⟨_,rfl,e.val,rfl,h3⟩
  ·simp only[hk,decide_false,Bool.false_eq_true,if_false];exact findAsking_run heq h av k w xs r (i+1) h5
theorem ES (w:World) (b:Nat) (o:Obj):(setBlock w b o).heap.size=w.heap.size:=by simp[setBlock]
theorem Dx (w:World) (b i:Nat) (o:Obj) (hi:i≠b):(setBlock w b o).heap[i]? = w.heap[i]? := by
 simp[setBlock,Array.getElem?_setIfInBounds,Ne.symm hi]
theorem ET (w:World) (b:Nat) (o o':Obj) (hb:w.heap[b]? = some o'):(setBlock w b o).heap[b]? = some o:=by
 have:=(Array.getElem?_eq_some_iff.1 hb).1;simp[setBlock,Array.getElem?_setIfInBounds,this]
section
variable {P:Program} {tab:Tab} {n:Nat} {s:St}
variable {ops:Array Oper} {draw:Dr} {o:Oper} {l:List Oper} {acc:List Eff} {K:Exit→St→Prop}
theorem opd_tmp {s s':St} {z:Operand} (hs:∀t,z = .tmp t→s'.env t=s.env t):opd s' z=opd s z:=by
 cases z with
 | tmp t=>exact hs t rfl
 | _=>rfl
theorem FG {w:World} {g:Nat} {es:Array MapEntry} {c:Nat} (hh:w.heap[g]? = some (.map es c)):(getObj g).run P w = .ok (.map es c) w:=by simp[getObj,Sem.run,hh]
theorem Ew {w:World} {g:Nat} {es:Array MapEntry} {c:Nat} (hh:w.heap[g]? = some (.map es c)) (o:Obj):(setObj g o).run P w = .ok () (setBlock w g o):=by simp[setObj,Sem.run,hh,setBlock]
theorem Fl.mkmap {t:TypeId} (hop:o.op = .makeMap t none) (hg:gOk ops s o=true) {d:Tmp} (hdst:o.dst=some d) (hd:Nat.blt d n=true) {κ α:Type} (ek:κ→Value) (av:α→AV) (hn:s.al d=false)
  (r:Fl P n ops draw l ((Eff.mk (.mp d) [(d,.map ek av ([]:List (κ×α×Nat)) 0)] [] [d] []).app o.dst s) (Eff.mk (.mp d) [(d,.map ek av ([]:List (κ×α×Nat)) 0)] [] [d] []::acc) K)
  (hJ:BH draw.J (Eff.mk (.mp d) [(d,.map ek av ([]:List (κ×α×Nat)) 0)] [] [d] []):=by repeat'(first|exact True.intro|exact rfl|refine⟨?_,?_⟩|fail)):Fl P n ops draw (o::l) s acc K:=by
 refine Fl.op hg ⟨fun t ht=>(by rw[hdst]at ht; injection ht with ht; subst ht; exact ltOf hd),fun C s' a w h β Q K hs hb hal k hK=>?_⟩ (E7 hn) hJ r
 have hrun:(execOp a.eval o).run P w = .ok (.value (.map (some w.heap.size))) (w.alloc (.map #[] 0)):=by
  simp only[execOp,hop,Instr.makeMap,Sem.run_bind,Result.andThen];rfl
 unfold Oper.wp;rw[hrun];simp only[Oper.upon];refine hK _ _ h (β.set d (.map (some w.heap.size))) ?_;have k1:=k.step (Cb k.evo.has (.map #[] 0));rw[hdst];refine k1.addbox (hal d (by simp)) ?_ ?_ (some d) (fun t ht=>by injection ht with ht; subst ht; exact ltOf hd) ?_ []
 ·exact⟨w.heap.size,#[],Bt.set_same _ _ _,heap_alloc_new w _,rfl,CW k.evo.has (Nat.le_refl _)⟩
 ·intro g hg;simp[blk]at hg;subst hg;refine⟨fun id' B' hb' e=>?_,.inr k.evo.size⟩;have:=(k.blk_lt hb' e).1;omega
 ·simp only[Rep]; exact⟨_,Bt.set_same _ _ _,rfl⟩
theorem Fl.lookup [f:Facts P tab] {t kt e:TypeId} {x y:Operand} (hop:o.op = .lookup t x y false) {m:Id} (hx:opd s x = .mp m) {sz' by':Nat} {z':List Value} (hts:tab t=some ⟨.map kt e,sz', by', z'⟩) {i:TI} (hti:tab e=some i) (hag:Nat.blt 1 i.size=true)
  {κ α:Type} [DecidableEq κ] {ek:κ→Value} {av:α→AV} {xs:List (κ×α×Nat)} {clock:Nat} (hb:s.bx m=some (.map ek av xs clock)) {kc:κ→AV} (law:KeyLaw P kt ek kc) (k0:κ) (hy:(opd s y).Le (kc k0)) (hyc:(opd s y).closed=true)
  {v:AV} (hv:match Am k0 xs 0 with|some (_,p)=>(av p.2.1).Le v|none=>(AV.agg (vL i.zero)).Le v) (hvc:∀a,(av a).closed=true) (hg:gOk ops s o=true) (hd:dOk n o.dst=true)
  (r:Fl P n ops draw l ((Eff.mk v [] [] [] [m]).app o.dst s) (Eff.mk v [] [] [] [m]::acc) K):Fl P n ops draw (o::l) s acc K:=by
 refine Af hg (AR (tb:=[m]) (Aa hd) fun C s' a w h β ho hbs k=>?_) r;have hxr:=AK k x;have hyr:=AK k y;rw[ho x (by rw[hop]; simp[Op.operands]),hx]at hxr;rw[ho y (by rw[hop]; simp[Op.operands])]at hyr;simp only[Rep]at hxr;obtain⟨g,e1,e2⟩:=hxr;obtain⟨g', es,e3,hh,hm,_⟩:=k.box m _ ((hbs m (by simp)).trans hb);rw[e1]at e3; injection e3 with e3; injection e3 with e3; injection e3 with e3; subst e3;have hyk:=law.rep _ _ _ _ (hy _ _ _ hyr);obtain⟨res,hf,hfr⟩:=law.find h av k0 xs es.toList w hm;obtain⟨inf,zv,h1,h2,h3,h4,h5⟩:=(f.tabOk e i hti).info;have hu:=(f.tabOk _ _ hts).und;simp only at hu
 have hz:(zeroValue e).run P w = .ok zv w:=by simp[zeroValue,typeInfo,h1,h4]
 have hzv:∃us,zv = .agg us∧us.toList=i.zero:=by
  cases zv with
  | agg us=>exact⟨us,rfl,h5⟩
  | _=>
   have hs:=(f.tabOk e i hti).zs;have:=ltOf hag;simp[Value.cells]at h5;rw[←h5]at hs; simp at hs; omega
 have hgo:(getObj g).run P w = .ok (.map es clock) w:=FG hh
 cases hfm:Am k0 xs 0 with
 | none=>
  rw[hfm]at hv hfr;have hfr:res=none:=hfr;subst hfr;obtain⟨us,rfl,hus⟩:=hzv;refine⟨.agg us,?_,hv _ _ _ (by simp only[Rep]; exact⟨us,rfl,by rw[←hus]; exact Dw _⟩)⟩;simp only[execOp,hop,e2,hyk,Instr.lookup,Sem.run_bind,run_underlying hu,Result.andThen,hgo,Sem.run_pure,law.check,hf,hz,Bool.false_eq_true,if_false]
 | some q=>
  obtain⟨j,p⟩:=q;rw[hfm]at hv hfr;obtain⟨u,rfl,hur⟩:=hfr;have hv:(av p.2.1).Le v:=hv;refine⟨u,?_,hv _ _ _ (hur.closed _ _ (hvc _))⟩;simp only[execOp,hop,e2,hyk,Instr.lookup,Sem.run_bind,run_underlying hu,Result.andThen,hgo,Sem.run_pure,law.check,hf,Bool.false_eq_true,if_false]
theorem Fl.mupd [f:Facts P tab] {t kt e:TypeId} {x y z:Operand} (hop:o.op = .mapUpdate t x y z) {m:Id} (hx:opd s x = .mp m) {sz' by':Nat} {z':List Value} (hts:tab t=some ⟨.map kt e,sz', by', z'⟩)
  {κ α:Type} [DecidableEq κ] {ek:κ→Value} {av:α→AV} {xs:List (κ×α×Nat)} {clock:Nat} (hb:s.bx m=some (.map ek av xs clock)) {kc:κ→AV} (law:KeyLaw P kt ek kc) (k0:κ) (hy:(opd s y).Le (kc k0)) (hyc:(opd s y).closed=true) (x0:α) (hz:(opd s z).Le (av x0)) (hzc:(opd s z).closed=true) (hg:gOk ops s o=true) (hdst:o.dst=none)
  (r:Fl P n ops draw l ((Eff.mk .any [(m,.map ek av (putM k0 x0 clock xs) (putC k0 clock xs))] [] [] [m]).app o.dst s) (Eff.mk .any [(m,.map ek av (putM k0 x0 clock xs) (putC k0 clock xs))] [] [] [m]::acc) K)
  (hJ:BH draw.J (Eff.mk .any [(m,.map ek av (putM k0 x0 clock xs) (putC k0 clock xs))] [] [] [m]):=by repeat'(first|exact True.intro|exact rfl|refine⟨?_,?_⟩|fail)):Fl P n ops draw (o::l) s acc K:=by
 refine Fl.op hg ⟨fun t ht=>(by rw[hdst]at ht; cases ht),fun C s' a w h β Q K hs hbs hal k hK=>?_⟩ rfl hJ r;have same:∀q:Operand,q∈o.op.operands→opd s' q=opd s q:=fun q hq=>opd_tmp fun t ht=>hs t (by rw[←ht]; exact hq);have hxr:=AK k x;have hyr:=AK k y;have hzr:=AK k z;rw[same x (by rw[hop]; simp[Op.operands]),hx]at hxr;rw[same y (by rw[hop]; simp[Op.operands])]at hyr;rw[same z (by rw[hop]; simp[Op.operands])]at hzr;simp only[Rep]at hxr;obtain⟨g,e1,e2⟩:=hxr;have hb':s'.bx m=some (.map ek av xs clock):=(hbs m (by simp[Eff.ts])).trans hb;obtain⟨g', es,e3,hh,hm,hnone⟩:=k.box m _ hb';rw[e1]at e3; injection e3 with e3; injection e3 with e3; injection e3 with e3; subst e3;have hyk:=law.rep _ _ _ _ (hy _ _ _ hyr);have hzk:Rep h noB (av x0) (a.eval z):=hz _ _ _ (hzr.closed _ _ hzc);obtain⟨res,hf,hfr⟩:=law.find h av k0 xs es.toList w hm;have hu:=(f.tabOk _ _ hts).und;simp only at hu;have hgo:(getObj g).run P w = .ok (.map es clock) w:=FG hh
 have key:∃es', (execOp a.eval o).run P w = .ok .skip (setBlock w g (.map es' (putC k0 clock xs)))∧MapRep h ek av (putM k0 x0 clock xs) es'.toList:=by
  unfold putM putC
  cases hfm:Am k0 xs 0 with
  | none=>
   rw[hfm]at hfr;have hfr:res=none:=hfr;subst hfr;refine⟨es.push ⟨ek k0,a.eval z,clock⟩,?_,by rw[Array.toList_push]; exact hm.push hzk⟩;simp only[execOp,hop,e2,hyk,Instr.mapUpdate,Sem.run_bind,run_underlying hu,Result.andThen,hgo,law.check,hf,Ew hh,Sem.run_pure]
  | some q=>
   obtain⟨j,p⟩:=q;rw[hfm]at hfr;obtain⟨u,rfl,hur⟩:=hfr;obtain⟨_,hget,hpk⟩:=DD hfm;rw[Nat.sub_zero]at hget
   have hold:((es[j]?).map (·.key)).getD (ek k0)=ek k0:=by
    have hjl:j<es.toList.length:=by rw[hm.len]; exact(List.getElem?_eq_some_iff.1 hget).1
    have hall:∀(xs:List (κ×α×Nat)) (es:List MapEntry) (j:Nat) (p:κ×α×Nat) (e:MapEntry),MapRep h ek av xs es→xs[j]? = some p→es[j]? = some e→e.key=ek p.1:=by
     intro xs
     induction xs with
     | nil=>intro es j p e _ hp; simp at hp
     | cons q xs ih=>
      intro es j p e hm hp he;obtain⟨e0,r0,q1,q2,_,_,q5⟩:=hm;subst q1
      cases j with
      | zero=>simp at hp he; subst hp he; exact q2
      | succ j=>exact ih r0 j p e q5 (by simpa using hp) (by simpa using he)
    have:=hall xs es.toList j p es.toList[j] hm hget (List.getElem?_eq_getElem hjl);rw[←Array.getElem?_toList,List.getElem?_eq_getElem hjl,Option.map_some,Option.getD_some,this,hpk]
   refine⟨es.modify j fun e=>{ e with key:=ek k0,val:=a.eval z },?_,by rw[Array.toList_modify]; exact hm.set hzk j p hget⟩;simp only[execOp,hop,e2,hyk,Instr.mapUpdate,Sem.run_bind,run_underlying hu,Result.andThen,hgo,law.check,hf,hold,Instr.keyThatStays,law.bits,if_true,Ew hh,Sem.run_pure]
 obtain⟨es', hrun,hm'⟩:=key;unfold Oper.wp;rw[hrun];simp only[Oper.upon];refine hK _ _ h β ?_;refine k.setbox (B' := .map ek av (putM k0 x0 clock xs) (putC k0 clock xs)) (w':=setBlock w g (.map es' (putC k0 clock xs))) hb' rfl rfl ⟨rfl,Nat.le_refl _⟩ (ES _ _ _) (fun j hj=>Dx w g j _ (fun e=>hj (by simp[e1,blk,e]))) ⟨g,es', e1,ET w g _ _ hh,hm', hnone⟩ ⟨g,by simp[e1,blk]⟩ o.dst (fun t ht=>by rw[hdst]at ht; cases ht) (v := .any) (u:=undef) (by simp only[Rep]) [m]
theorem Fl.mdel [f:Facts P tab] {t kt e:TypeId} {ty2:TypeId} {x y:Operand} (hop:o.op = .call { callee := .builtin .delete,args:=⟨[x,y]⟩,argTypes:=⟨[t,ty2]⟩ }) {m:Id} (hx:opd s x = .mp m) {sz' by':Nat} {z':List Value} (hts:tab t=some ⟨.map kt e,sz', by', z'⟩)
  {κ α:Type} [DecidableEq κ] {ek:κ→Value} {av:α→AV} {xs:List (κ×α×Nat)} {clock:Nat} (hb:s.bx m=some (.map ek av xs clock)) {kc:κ→AV} (law:KeyLaw P kt ek kc) (k0:κ) (hy:(opd s y).Le (kc k0)) (hyc:(opd s y).closed=true) (hg:gOk ops s o=true) (hdst:o.dst=none)
  (r:Fl P n ops draw l ((Eff.mk .any [(m,.map ek av (delM k0 xs) clock)] [] [] [m]).app o.dst s) (Eff.mk .any [(m,.map ek av (delM k0 xs) clock)] [] [] [m]::acc) K)
  (hJ:BH draw.J (Eff.mk .any [(m,.map ek av (delM k0 xs) clock)] [] [] [m]):=by repeat'(first|exact True.intro|exact rfl|refine⟨?_,?_⟩|fail)):Fl P n ops draw (o::l) s acc K:=by
 refine Fl.op hg ⟨fun t ht=>(by rw[hdst]at ht; cases ht),fun C s' a w h β Q K hs hbs hal k hK=>?_⟩ rfl hJ r;have same:∀q:Operand,q∈o.op.operands→opd s' q=opd s q:=fun q hq=>opd_tmp fun t ht=>hs t (by rw[←ht]; exact hq);have hxr:=AK k x;have hyr:=AK k y;rw[same x (by rw[hop]; simp[Op.operands,Call.operands]),hx]at hxr;rw[same y (by rw[hop]; simp[Op.operands,Call.operands])]at hyr;simp only[Rep]at hxr;obtain⟨g,e1,e2⟩:=hxr;have hb':s'.bx m=some (.map ek av xs clock):=(hbs m (by simp[Eff.ts])).trans hb;obtain⟨g', es,e3,hh,hm,hnone⟩:=k.box m _ hb';rw[e1]at e3; injection e3 with e3; injection e3 with e3; injection e3 with e3; subst e3;have hyk:=law.rep _ _ _ _ (hy _ _ _ hyr);obtain⟨res,hf,hfr⟩:=law.find h av k0 xs es.toList w hm;have hu:=(f.tabOk _ _ hts).und;simp only at hu;have hgo:(getObj g).run P w = .ok (.map es clock) w:=FG hh
 have key:∃es', (execOp a.eval o).run P w = .ok (.value (.tuple #[])) (setBlock w g (.map es' clock))∧MapRep h ek av (delM k0 xs) es'.toList:=by
  unfold delM
  cases hfm:Am k0 xs 0 with
  | none=>
   rw[hfm]at hfr;have hfr:res=none:=hfr;subst hfr;refine⟨es,?_,hm⟩;simp[execOp,hop,resolve,invoke,builtin,e2,hyk,Builtin.delete_,run_underlying hu,Result.andThen,hgo,law.check,hf,Ew hh]
  | some q=>
   obtain⟨j,p⟩:=q;rw[hfm]at hfr;obtain⟨u,rfl,hur⟩:=hfr;refine⟨es.eraseIdxIfInBounds j,?_,by rw[Array.toList_eraseIdxIfInBounds]; exact hm.erase j⟩;simp[execOp,hop,resolve,invoke,builtin,e2,hyk,Builtin.delete_,run_underlying hu,Result.andThen,hgo,law.check,hf,Ew hh]
 obtain⟨es', hrun,hm'⟩:=key;unfold Oper.wp;rw[hrun];simp only[Oper.upon];refine hK _ _ h β ?_;have:=k.setbox (B' := .map ek av (delM k0 xs) clock) (w':=setBlock w g (.map es' clock)) hb' rfl rfl ⟨rfl,Nat.le_refl _⟩ (ES _ _ _) (fun j hj=>Dx w g j _ (fun e=>hj (by simp[e1,blk,e]))) ⟨g,es', e1,ET w g _ _ hh,hm', hnone⟩ ⟨g,by simp[e1,blk]⟩ o.dst (fun t ht=>by rw[hdst]at ht; cases ht) (v := .any) (u := .tuple #[]) (by simp only[Rep]) [m];exact this
theorem Fl.range [f:Facts P tab] {t kt e:TypeId} {x:Operand} (hop:o.op = .range t x) {m:Id} (hx:opd s x = .mp m) {sz' by':Nat} {z':List Value} (hts:tab t=some ⟨.map kt e,sz', by', z'⟩)
  {κ α:Type} {ek:κ→Value} {av:α→AV} {xs:List (κ×α×Nat)} {clock:Nat} (hb:s.bx m=some (.map ek av xs clock)) (hg:gOk ops s o=true) {d:Tmp} (hdst:o.dst=some d) (hd:Nat.blt d n=true) (hn:s.al d=false)
  (r:Fl P n ops draw l ((Eff.mk (.ptr d 0) [(d,.iter m clock [] clock)] [] [d] [m]).app o.dst s) (Eff.mk (.ptr d 0) [(d,.iter m clock [] clock)] [] [d] [m]::acc) K)
  (hJ:BH draw.J (Eff.mk (.ptr d 0) [(d,.iter m clock [] clock)] [] [d] [m]):=by repeat'(first|exact True.intro|exact rfl|refine⟨?_,?_⟩|fail)):Fl P n ops draw (o::l) s acc K:=by
 refine Fl.op hg ⟨fun t ht=>(by rw[hdst]at ht; injection ht with ht; subst ht; exact ltOf hd),fun C s' a w h β Q K hs hbs hal k hK=>?_⟩ (E7 hn) hJ r;have same:∀q:Operand,q∈o.op.operands→opd s' q=opd s q:=fun q hq=>opd_tmp fun t ht=>hs t (by rw[←ht]; exact hq);have hxr:=AK k x;rw[same x (by rw[hop]; simp[Op.operands]),hx]at hxr;simp only[Rep]at hxr;obtain⟨g,e1,e2⟩:=hxr;obtain⟨g', es,e3,hh,hm,hnone⟩:=k.box m _ ((hbs m (by simp[Eff.ts])).trans hb);rw[e1]at e3; injection e3 with e3; injection e3 with e3; injection e3 with e3; subst e3;have hu:=(f.tabOk _ _ hts).und;simp only at hu;have hgo:(getObj g).run P w = .ok (.map es clock) w:=FG hh
 have hrun:(execOp a.eval o).run P w = .ok (.value (.pointer (some ⟨w.heap.size,0,none⟩))) (w.alloc (.mapIter (some g) clock #[] clock)):=by
  simp only[execOp,hop,e2,Instr.range,Sem.run_bind,run_underlying hu,Result.andThen,hgo,Sem.run_pure];rfl
 unfold Oper.wp;rw[hrun];simp only[Oper.upon];refine hK _ _ h (β.set d (.pointer (some ⟨w.heap.size,0,none⟩))) ?_;have k1:=k.step (Cb k.evo.has (.mapIter (some g) clock #[] clock));have hdn:=k.dom d (hal d (by simp))
 have hmd:m≠d:=fun e=>by rw[e,hdn]at e1; cases e1
 rw[hdst];refine k1.addbox (hal d (by simp)) ?_ ?_ (some d) (fun t ht=>by injection ht with ht; subst ht; exact ltOf hd) ?_ [m]
 ·exact⟨w.heap.size,g,Bt.set_same _ _ _,by rw[Bt.set_ne _ _ _ _ hmd]; exact e1,heap_alloc_new w _,CW k.evo.has (Nat.le_refl _)⟩
 ·intro g hg;simp[blk]at hg;subst hg;refine⟨fun id' B' hb' e=>?_,.inr k.evo.size⟩;have:=(k.blk_lt hb' e).1;omega
 ·simp only[Rep]; exact⟨_,Bt.set_same _ _ _,rfl⟩
end
end Go.AL
/- Maps: ranges over them; arrays: slices of them. -/
namespace Go.AL
open Go.ChangeMaps (setBlock)
section
variable {P:Program} {tab:Tab} {n:Nat} {s:St}
variable {ops:Array Oper} {draw:Dr} {o:Oper} {l:List Oper} {acc:List Eff} {K:Exit→St→Prop}
theorem Fl.entry {x:Operand} (hop:o.op = .entry x) {r m:Id} (hx:opd s x = .ptr r 0) {since:Nat} {seen:List Nat} {st last:Nat} (hr:s.bx r=some (.iter m since (seen++[st]) last))
  {κ α:Type} {ek:κ→Value} {av:α→AV} {xs:List (κ×α×Nat)} (hb:s.bx m=some (.map ek av xs last)) {kc:κ→AV} (hkc:∀(h:Hp) (β:Bt) (k:κ),Rep h β (kc k) (ek k)) (hvc:∀a,(av a).closed=true) {p:κ×α×Nat} (hp:p∈xs) (hst:p.2.2=st) (hnd:(xs.map (·.2.2)).Nodup) (hg:gOk ops s o=true) (hd:dOk n o.dst=true)
  (k:Fl P n ops draw l ((Eff.mk (.tup [kc p.1,av p.2.1]) [] [] [] [r,m]).app o.dst s) (Eff.mk (.tup [kc p.1,av p.2.1]) [] [] [] [r,m]::acc) K):Fl P n ops draw (o::l) s acc K:=by
 refine Af hg (AR (tb:=[r,m]) (Aa hd) fun C s' a w h β ho hbs q=>?_) k;have hxr:=AK q x;rw[ho x (by rw[hop]; simp[Op.operands]),hx]at hxr;simp only[Rep]at hxr;obtain⟨gr,e1,e2⟩:=hxr;obtain⟨gr', g,e3,e4,hh,_⟩:=q.box r _ ((hbs r (by simp)).trans hr);rw[e1]at e3; injection e3 with e3; injection e3 with e3; injection e3 with e3; injection e3 with e3; subst e3;obtain⟨g', es,e5,hh2,hm,_⟩:=q.box m _ ((hbs m (by simp)).trans hb);rw[e4]at e5; injection e5 with e5; injection e5 with e5; injection e5 with e5; subst e5
 have hseen:(seen++[st]).toArray=seen.toArray.push st:=by simp
 obtain⟨e,he,k1,k2,k3⟩:=hm.mem' p hp;rw[hseen,←hst,←k3]at hh;have hrun:=run_entry_at (P:=P) w gr g since seen.toArray es last e hh hh2 he (by rw[hm.stamps]; exact hnd);refine⟨.tuple #[e.key,e.val],?_,?_⟩
 ·simp only[execOp,hop,e2,Sem.run_bind,hrun,Result.andThen,Sem.run_pure]
 ·simp only[Rep];exact⟨_,rfl,⟨_,_,rfl,by rw[k1]; exact hkc _ _ _,⟨_,_,rfl,k2.closed _ _ (hvc _),rfl⟩⟩⟩
theorem AWP.next {I:List Id} {Q:Exit→St→Prop} {id:Nat} {o1 o2:Oper} {d1 d2:Tmp} {x:Operand} (h1:o1.op = .next x false) (g1:o1.guard=none) (e1:o1.dst=some d1) (l1:Nat.blt d1 n=true) (h2:o2.op = .extract (.tmp d1) 0) (g2:o2.guard=none) (e2:o2.dst=some d2) (l2:Nat.blt d2 n=true)
  {r m:Id} (hx:opd s x = .ptr r 0) {since:Nat} {seen:List Nat} (hr:s.bx r=some (.iter m since seen since)) {κ α:Type} {ek:κ→Value} {av:α→AV} {xs:List (κ×α×Nat)} (hb:s.bx m=some (.map ek av xs since)) (hold:∀p∈xs,p.2.2<since)
  (q1:(∀p∈xs,p.2.2∈seen)→Q .normal ((Eff.mk (.v (.bool false)) [] [] [] []).app (some d2) ((Eff.mk .any [] [] [] []).app (some d1) s)))
  (q2:∀p∈xs,p.2.2∉seen→Q .normal ((Eff.mk (.v (.bool true)) [] [] [] []).app (some d2) ((Eff.mk .any [(r,.iter m since (seen++[p.2.2]) since)] [] [] [r]).app (some d1) s))):AWP P n I (.region id ⟨[o1,o2]⟩ false) Q s:=by
 refine⟨fun C a w hp β hi k=>?_⟩;refine wp_region ?_;have hrg:List.range (Array.size ⟨[o1,o2]⟩)=[0,1]:=rfl;rw[hrg]
 have hw1:Region.wanted o1 (yielded ⟨[o1,o2]⟩ a.tmps)=true:=by simp[Region.wanted,g1]
 simp only[wpOps,List.getElem?_toArray,List.getElem?_cons_zero,hw1,if_true];left;have hxr:=AK k x;rw[hx]at hxr;simp only[Rep]at hxr;obtain⟨gr,b1,b2⟩:=hxr;obtain⟨gr', g,b3,b4,hh,hnone⟩:=k.box r _ hr;rw[b1]at b3; injection b3 with b3; injection b3 with b3; injection b3 with b3; injection b3 with b3; subst b3;obtain⟨g', es,b5,hh2,hm,_⟩:=k.box m _ hb;rw[b4]at b5; injection b5 with b5; injection b5 with b5; injection b5 with b5; subst b5
 have hold':∀y∈es.toList,y.born<since:=fun y hy=>by
  obtain⟨p,hp,_,_,h3⟩:=hm.mem y hy;rw[h3]; exact hold p hp
 have hd1:d1<a.tmps.size:=by rw[k.size]; exact ltOf l1
 have ext:∀(tl:List Value) (b:Bool) (a1:Act) (w1:World),a1.tmps.getD d1 undef = .tuple (.bool b::tl).toArray→(execOp a1.eval o2).run P w1 = .ok (.value (.bool b)) w1:=by
  intro tl b a1 w1 ht;have hev:a1.eval (.tmp d1) = .tuple (.bool b::tl).toArray:=ht;simp[execOp,h2,hev,Instr.extract,Sem.run_bind,Result.andThen,Sem.run_pure]
 have second:∀(tl:List Value) (b:Bool) (w1:World) (hp1:Hp) (β1:Bt) (s1:St),Base C n s1 (a.put (some d1) (.tuple (.bool b::tl).toArray)) w1 hp1 β1→Q .normal ((Eff.mk (.v (.bool b)) [] [] [] []).app (some d2) s1) →
   wpOps P ⟨[o1,o2]⟩ (fun e a' w'=>∃s' h' β', Base C n s' a' w' h' β'∧Q e s') [1] (a.put (some d1) (.tuple (.bool b::tl).toArray)) w1:=by
  intro tl b w1 hp1 β1 s1 k1 hq
  have hw2:Region.wanted o2 (yielded ⟨[o1,o2]⟩ (a.put (some d1) (.tuple (.bool b::tl).toArray)).tmps)=true:=by simp[Region.wanted,g2]
  simp only[wpOps,List.getElem?_toArray,List.getElem?_cons_succ,List.getElem?_cons_zero,hw2,if_true];left;unfold Oper.wp;rw[ext tl b _ w1 (by simp[Act.put,hd1])];simp only[Oper.upon,e2,wpOps];exact⟨_,hp1,β1,k1.val (some d2) (fun t ht=>by injection ht with ht; subst ht; exact ltOf l2) (v := .v (.bool b)) (by simp only[Rep]) [],hq⟩
 rcases run_next_at (P:=P) w o1.type gr g since since seen.toArray es since hh hh2 hold' (Nat.le_refl _)with⟨hz,hrun⟩|⟨e,he,w1,hw1', hrun⟩
 ·unfold Oper.wp
  have hex:(execOp a.eval o1).run P w = .ok (.value (.tuple #[.bool false])) w:=by simp only[execOp,h1,b2,Sem.run_bind,hrun,Result.andThen,Sem.run_pure]
  rw[hex];simp only[Oper.upon,e1];refine second [] false w hp β _ (k.val (some d1) (fun t ht=>by injection ht with ht; subst ht; exact ltOf l1) (v := .any) (by simp only[Rep]) []) (q1 fun p hpx=>?_);obtain⟨e,he,_,_,h3⟩:=hm.mem' p hpx;have hempty:leftOf es seen.toArray = #[]:=Array.eq_empty_of_size_eq_zero hz;unfold leftOf at hempty;rw[Array.filter_eq_empty_iff]at hempty;have:=hempty e (by simpa using he);rw[←h3]; simpa using this
 ·have he':e∈es.toList∧e.born∉seen:=by
   unfold leftOf at he;simpa using he
  obtain⟨p,hp1,h3,h4,h5⟩:=hm.mem e he'.1;unfold Oper.wp
  have hex:(execOp a.eval o1).run P w = .ok (.value (.tuple #[.bool true,e.key,e.val])) (setBlock w1 gr (.mapIter (some g) since (seen.toArray.push e.born) since)):=by simp only[execOp,h1,b2,Sem.run_bind,hrun,Result.andThen,Sem.run_pure]
  rw[hex];simp only[Oper.upon,e1]
  have kd:Base C n s a w1 hp β:=by
   rcases hw1' with rfl|rfl
   ·exact k
   ·exact k.drew
  have hh1:w1.heap[gr]? = some (.mapIter (some g) since seen.toArray since):=by rcases hw1' with rfl|rfl<;>exact hh
  have k2:=kd.setbox (B' := .iter m since (seen++[p.2.2]) since) (w':=setBlock w1 gr (.mapIter (some g) since (seen.toArray.push e.born) since)) hr rfl rfl ⟨rfl,Nat.le_refl _⟩ (ES _ _ _) (fun j hj=>Dx w1 gr j _ (fun q=>hj (by simp[b1,blk,q]))) ⟨gr,g,b1,b4,by rw[ET w1 gr _ _ hh1,h5]; simp,hnone⟩ ⟨gr,by simp[b1,blk]⟩ (some d1) (fun t ht=>by injection ht with ht; subst ht; exact ltOf l1) (v := .any) (u := .tuple #[.bool true,e.key,e.val]) (by simp only[Rep]) [r];exact second [e.key,e.val] true _ hp β _ k2 (q2 p hp1 (by rw[←h5]; exact he'.2))
theorem AWP.arrCopy [f:Facts P tab] {I:List Id} {Q:Exit→St→Prop} {id:Nat} {o1 o2 o3:Oper} {d1 d2 d3:Tmp} {t e t1 t2:TypeId} {x y:Operand} (h1:o1.op = .slice t x none none none) (g1:o1.guard=none) (e1:o1.dst=some d1) (l1:Nat.blt d1 n=true) (h2:o2.op = .move y) (g2:o2.guard=none) (e2:o2.dst=some d2) (l2:Nat.blt d2 n=true) (h3:o3.op = .call { callee := .builtin .copy,args:=⟨[.tmp d1,.tmp d2]⟩,argTypes:=⟨[t1,t2]⟩ }) (g3:o3.guard=none) (e3:o3.dst=some d3) (l3:Nat.blt d3 n=true) (hne:Nat.beq d1 d2=false)
  {N sz' by' sz2 by2:Nat} {z' z2:List Value} (hts:tab t=some ⟨.array N e,sz', by', z'⟩) (hts1:tab t1=some ⟨.slice e,sz2,by2,z2⟩) {i:TI} (hti:tab e=some i) (hi1:Nat.beq i.size 1=true) {b:Id} (hx:opd s x = .ptr b 0) {cs:List AV} {bt:TypeId} (hb:s.bx b=some (.cells cs bt)) (hN:Nat.beq cs.length N=true) (hNm:Nat.ble N 1000000=true) (hN0:Nat.blt 0 N=true) {α:Type} {enc:α→List AV} {ys:List α} (hy:opd s y = .sl 1 enc ys) (hyd:y ≠ .tmp d1) (hone:∀y,BU (enc y)=true) (hel:∀y,(enc y).length=1) (hl:ys.length≤N) {cs':List AV} (hcs:ys.flatMap enc++cs.drop ys.length=cs')
  (q:Q .normal ((Eff.mk .any [(b,.cells cs' bt)] [] [] [b]).app (some d3) ((Eff.mk (.sl 1 enc ys) [] [] [] []).app (some d2) ((Eff.mk .any [] [] [] []).app (some d1) s)))):AWP P n I (.region id ⟨[o1,o2,o3]⟩ false) Q s:=by
 subst hcs;have hi1:=Nat.eq_of_beq_eq_true hi1;have hN:=Nat.eq_of_beq_eq_true hN;have hNm:=Nat.le_of_ble_eq_true hNm;have hN0:=ltOf hN0
 have hd12:d1≠d2:=fun e=>by rw[e,Nat.beq_refl]at hne; cases hne
 refine⟨fun C a w hp β hi k=>?_⟩;refine wp_region ?_;have hrg:List.range (Array.size ⟨[o1,o2,o3]⟩)=[0,1,2]:=rfl;rw[hrg];refine BR (ops:=⟨[o1,o2,o3]⟩) (i:=0) (o:=o1) rfl g1 ?_;have hxr:=AK k x;rw[hx]at hxr;simp only[Rep]at hxr;obtain⟨g,b1,b2⟩:=hxr;have hu:=(f.tabOk _ _ hts).und;simp only at hu;have hu1:=(f.tabOk _ _ hts1).und;simp only at hu1;have hd1:d1<n:=ltOf l1;have hd2:d2<n:=ltOf l2
 have hr1:(execOp a.eval o1).run P w = .ok (.value (.slice (some ⟨g,0,none⟩) N N)) w:=by
  have hN0':¬N=0:=by omega
  simp only[execOp,h1,b2,Option.map_none,Instr.sliceAt,Instr.sureAddr,Sem.run_bind,run_underlying hu,Result.andThen,Instr.sliceBounds,Sem.run_pure,BZ (f.tabOk _ _ hti),Nat.zero_mul,Addr.add,if_true,Nat.sub_zero,if_neg hN0']
 unfold Oper.wp;rw[hr1];simp only[Oper.upon,e1];have k1:=k.val (some d1) (fun t ht=>by injection ht with ht; subst ht; exact hd1) (v := .any) (u := .slice (some ⟨g,0,none⟩) N N) (by simp only[Rep]) [];refine BR (ops:=⟨[o1,o2,o3]⟩) (i:=1) (o:=o2) rfl g2 ?_
 have hys:opd ((Eff.mk AV.any [] [] [] []).app (some d1) s) y = .sl 1 enc ys:=by
  rw[←hy];refine opd_tmp fun t ht=>?_;simp only[Eff.app];exact Bi _ _ _ _ (fun h=>hyd (by injection h with h; rw[ht,h]))
 have hyr:=AK k1 y;rw[hys]at hyr
 have hr2:(execOp (a.put (some d1) (.slice (some ⟨g,0,none⟩) N N)).eval o2).run P w = .ok (.value ((a.put (some d1) (.slice (some ⟨g,0,none⟩) N N)).eval y)) w:=by
  simp only[execOp,h2,Sem.run_pure]
 unfold Oper.wp;rw[hr2];simp only[Oper.upon,e2];have k2:=k1.val (some d2) (fun t ht=>by injection ht with ht; subst ht; exact hd2) (v := .sl 1 enc ys) hyr [];generalize hyv:(a.put (some d1) (.slice (some ⟨g,0,none⟩) N N)).eval y=yv at hyr k2 ⊢;refine BR (ops:=⟨[o1,o2,o3]⟩) (i:=2) (o:=o3) rfl g3 ?_
 have hsz:d1<a.tmps.size∧d2<a.tmps.size:=by rw[k.size]; exact⟨hd1,hd2⟩
 have ev1:((a.put (some d1) (.slice (some ⟨g,0,none⟩) N N)).put (some d2) yv).eval (.tmp d1) = .slice (some ⟨g,0,none⟩) N N:=by
  simp[Act.eval,Act.put,Array.getElem?_setIfInBounds,hsz.1,Ne.symm hd12]
 have ev2:((a.put (some d1) (.slice (some ⟨g,0,none⟩) N N)).put (some d2) yv).eval (.tmp d2)=yv:=by
  simp[Act.eval,Act.put,hsz.2]
 have hb2:((Eff.mk (.sl 1 enc ys) [] [] [] []).app (some d2) ((Eff.mk AV.any [] [] [] []).app (some d1) s)).bx b=some (.cells cs bt):=hb;obtain⟨g', us,b3,hh,hr,hnone⟩:=k2.box b _ hb2;rw[b1]at b3; injection b3 with b3; injection b3 with b3; injection b3 with b3; injection b3 with b3; subst b3
 have hul:us.size=N:=by rw[←Array.length_toList,hr.length,hN]
 have his:(P.info? e).map (·.size)=some 1:=by
  obtain⟨inf,zv,i1,i2,_⟩:=(f.tabOk e i hti).info;rw[i1]; simp[i2,hi1]
 simp only[Rep]at hyr;obtain⟨B,cB,rfl,hcB,hmB,hall⟩:=hyr
 have key:∃(r:Int) (w':World) (us':Array Value),(Builtin.copy_ #[t1,t2] o3.type #[.slice (some ⟨g,0,none⟩) N N,.slice B ys.length cB]).run P w = .ok (goInt r) w'∧w'.os=w.os∧w'.tape=w.tape∧(w'.output=w.output∧w.drawn≤w'.drawn)∧w'.heap.size=w.heap.size ∧
   (∀j,j≠g→w'.heap[j]? = w.heap[j]?)∧w'.heap[g]? = some (.cells us' bt (0,0))∧RepL hp β (ys.flatMap enc++cs.drop ys.length) us'.toList:=by
  by_cases hy0:ys=[]
  ·subst hy0;exact⟨0,w,us,run_copy_none w t1 t2 o3.type e _ B N N 0 cB hu1 his (by simp[Nat.min_def]),rfl,rfl,⟨rfl,Nat.le_refl _⟩,rfl,fun _ _=>rfl,hh,by simpa using hr⟩
  ·have hyp:0<ys.length:=List.length_pos_iff.2 hy0;obtain⟨adB,_,eB,_⟩:=hall 0 ys[0] (by simp[hyp]);subst eB
   obtain⟨news,n1,n2,n3⟩:=sl_cells (h:=hp) (sz:=1) (enc:=enc) (A:=adB) ys 0 (fun i x hx=>by
    obtain⟨ad', us,e,q1,q2,q3⟩:=hall i x hx
    exact⟨ad', us,e,q1,q2,fun j u hu=>by have:=q3 j u hu; rwa [Nat.zero_add]⟩)
   have hmn:Nat.min ys.length N=min ys.length N:=rfl
   have hnl:news.length=Nat.min ys.length N:=by rw[n2,hmn]; omega
   have hrun:=run_copy_row (P:=P) w t1 t2 o3.type e g 0 N N adB ys.length cB us bt news hu1 his hh hnl (fun j u hu=>by
    have:=(n3 j u hu).cell k.evo.has
    rwa [Nat.zero_mul,Nat.zero_add]at this) (by rw[hnl,hmn]; omega) (flat_one hone _ news n1)
   refine⟨_,w.setRow g (us.toList.take 0++news++us.toList.drop (0+news.length)).toArray,_,hrun,rfl,rfl,⟨rfl,Nat.le_refl _⟩,by simp,fun j hj=>setRow_other w g j _ (fun q=>hj q),setRow_heap w g us _ bt _ hh,?_⟩;simp only[List.take_zero,List.nil_append,Nat.zero_add];rw[show news.length=ys.length by rw[hnl,hmn]; omega];exact(n1.mono (Ac _) (E6 β)).append (hr.drop _)
 obtain⟨r,w', us', hrun,q1,q2,q3,q4,q5,q6,q7⟩:=key
 have hex:(execOp ((a.put (some d1) (.slice (some ⟨g,0,none⟩) N N)).put (some d2) (.slice B ys.length cB)).eval o3).run P w = .ok (.value (goInt r)) w':=by
  simp only[execOp,h3,resolve,invoke,builtin,Sem.run_bind,Sem.run_pure,Result.andThen,List.map_toArray,List.map_cons,List.map_nil,ev1,ev2];rw[show(Builtin.copy_ { toList:=[t1,t2] } o3.type { toList:=[.slice (some ⟨g,0,none⟩) N N,.slice B ys.length cB] }).run P w = .ok (goInt r) w' from hrun]
 unfold Oper.wp;rw[hex];simp only[Oper.upon,e3,wpOps];exact⟨_,hp,β,k2.setbox (B' := .cells (ys.flatMap enc++cs.drop ys.length) bt) (w':=w') hb2 q1 q2 q3 q4 (fun j hj=>q5 j (fun q=>hj (by simp[b1,blk,q]))) ⟨g,us', b1,q6,q7,hnone⟩ ⟨g,by simp[b1,blk]⟩ (some d3) (fun t ht=>by injection ht with ht; subst ht; exact ltOf l3) (v := .any) (u:=goInt r) (by simp only[Rep]) [b],q⟩
theorem Ent.freezeC {I:List Id} (b:Id) (d:Tmp) {cs:List AV} {t:TypeId} (hb:s.bx b=some (.cells cs t)) (hd:s.env d = .ptr b 0) (hdn:Nat.blt d n=true) (hcl:BN cs=true):Ent n I s ⟨putE s.env (some d) (.cptr cs),delB [b] s.bx,s.al⟩:=by
 intro C a w h β hi k;obtain⟨g,us,e1,hh,hr,hnone⟩:=k.box b _ hb
 have hbx:∀x Bx', delB [b] s.bx x=some Bx'→x≠b∧s.bx x=some Bx':=by
  intro x Bx' hx;by_cases he:x=b
  ·subst he; simp[delB]at hx
  ·simp only[delB,Ak he]at hx; exact⟨he,hx⟩
 have hle:h.le (h.set g us):=fun c cs hc=>by
  by_cases he:c=g
  ·subst he; rw[hnone]at hc; cases hc
  ·rw[Hp.set_ne _ _ _ _ he]; exact hc
 have hhas:Has w (h.set g us):=fun c cs hc=>by
  by_cases he:c=g
  ·subst he; rw[Hp.set_same]at hc; injection hc with hc; subst hc; exact⟨t,(0,0),hh⟩
  ·rw[Hp.set_ne _ _ _ _ he]at hc; exact k.evo.has c cs hc
 have hfr:∀c,h.set g us c≠none→h c≠none∨c=g:=fun c hc=>by
  by_cases he:c=g
  ·exact .inr he
  ·rw[Hp.set_ne _ _ _ _ he]at hc; exact .inl hc
 have hcp:Rep (h.set g us) β (.cptr cs) (.pointer (some ⟨g,0,none⟩)):=by
  simp only[Rep];refine⟨⟨g,0,none⟩,us.toList,rfl,RepL.closed _ _ hcl (hr.mono hle (AW _)),fun j u hu=>?_⟩
  have hadd:(⟨g,0,none⟩:Addr).add j=⟨g,j,none⟩:=by unfold Addr.add; split<;>simp_all
  rw[hadd];exact⟨rfl,us,Hp.set_same _ _ _,by simpa using hu⟩
 refine⟨h.set g us,β,⟨k.evo.os,k.evo.tape,k.evo.output,k.evo.size,k.evo.block,k.evo.le.trans hle,fun c hc=>?_,hhas⟩,k.b0,fun i=>?_,fun x Bx' hx=>?_,fun x y B1 B2 h1 h2 hne=>k.apart x y B1 B2 (hbx x B1 h1).2 (hbx y B2 h2).2 hne,fun x B1 c hx hc=>k.own x B1 c (hbx x B1 hx).2 hc,k.dom,k.size,k.defers⟩
 ·rcases hfr c hc with h1|h1
  ·exact k.evo.fresh c h1
  ·subst h1;rcases k.own b _ c hb (by simp[e1,blk])with h2|h2
   ·exact .inr (.inr h2)
   ·exact .inr (.inl h2)
 ·by_cases hid:i=d
  ·subst hid;show Rep _ β (putE s.env (some i) (.cptr cs) i) _;rw[Bd];have hs:=k.slot i;rw[hd]at hs;simp only[Rep]at hs;obtain⟨g', e2,e3⟩:=hs;rw[e1]at e2; injection e2 with e2; injection e2 with e2; injection e2 with e2; injection e2 with e2; subst e2;rw[e3]; exact hcp
  ·show Rep _ β (putE s.env (some d) (.cptr cs) i) _;rw[Bi _ _ _ _ (fun e=>hid (by injection e with e; exact e.symm))];exact(k.slot i).mono hle (AW β)
 ·obtain⟨hne,h1⟩:=hbx x Bx' hx;refine(k.box x Bx' h1).keep hle (AW β) fun c hc=>⟨rfl,?_⟩
  cases hq:h.set g us c with
  | none=>rfl
  | some cs'=>
   rcases hfr c (by simp[hq])with h2|h2
   ·exact absurd (k.blk_lt h1 hc).2 h2
   ·exact absurd (show blk (β b)=some c by simp[e1,blk,h2]) (k.apart x b Bx' _ h1 hb hne c hc)
theorem Fl.cutArr [f:Facts P tab] {t:TypeId} {x z:Operand} (hop:o.op = .slice t x none (some z) none) {N:Nat} {e:TypeId} {sz' by':Nat} {z':List Value} (hts:tab t=some ⟨.array N e,sz', by', z'⟩) {i:TI} (hti:tab e=some i) (hi1:Nat.beq i.size 1=true) {cs:List AV} (hx:opd s x = .cptr cs) (hN:Nat.beq cs.length N=true) (hNm:Nat.ble N 1000000=true) (hN0:Nat.blt 0 N=true) {k':IntKind} {m:Int} (hz:opd s z = .v (.int k' m)) (h0:0≤m) (h2:m≤N) {α:Type} {enc:α→List AV} {ys:List α} (hys:cs.take m.toNat=ys.flatMap enc) (hyl:(ys.length:Int)=m) (hel:∀y,(enc y).length=1) (hg:gOk ops s o=true) (hd:dOk n o.dst=true)
  (r:Fl P n ops draw l ((Eff.mk (.sl 1 enc ys) [] [] [] []).app o.dst s) (Eff.mk (.sl 1 enc ys) [] [] [] []::acc) K):Fl P n ops draw (o::l) s acc K:=by
 have hi1:=Nat.eq_of_beq_eq_true hi1;have hN:=Nat.eq_of_beq_eq_true hN;have hNm:=Nat.le_of_ble_eq_true hNm;have hN0:=ltOf hN0;refine Af hg (AR (tb:=[]) (Aa hd) fun C s' a w h β ho _ k=>?_) r;have hxr:=AK k x;have hzr:=AK k z;rw[ho x (by simp[hop,Op.operands]),hx]at hxr;rw[ho z (by simp[hop,Op.operands]),hz]at hzr;simp only[Rep]at hxr hzr;obtain⟨ad,us,e1,hr,hall⟩:=hxr;have hu:=(f.tabOk _ _ hts).und;simp only at hu
 have hul:us.length=N:=by rw[hr.length,hN]
 have hsp:ad.spot=none:=by
  obtain⟨u,hu0⟩:∃u,us[0]? = some u:=⟨_,List.getElem?_eq_getElem (by omega)⟩;have h1:=(hall 0 u hu0).1;simpa[Addr.add]using h1
 have b1:=run_sliceBound (P:=P) w k' m N .sliceAlen (by omega) (by omega);refine⟨.slice (some ad) m.toNat N,?_,?_⟩
 ·have hN0':¬N=0:=by omega
  have hsa:(Instr.sureAddr (.pointer (some ad))).run P w = .ok ad w:=by simp[Instr.sureAddr]
  simp only[execOp,hop,e1,hzr,Option.map_some,Option.map_none,Instr.sliceAt,Sem.run_bind,run_underlying hu,Result.andThen,hsa,Instr.sliceBounds,Bool.false_eq_true,if_false,Sem.run_pure,b1,Option.isSome_none,BZ (f.tabOk _ _ hti),Nat.zero_mul,Nat.sub_zero,if_neg hN0', Addr.add,if_true]
 ·simp only[Rep];refine⟨some ad,N,by rw[←hyl]; simp,by omega,by simp only[maxLen]; omega,fun j y hj=>?_⟩;have hjl:=(List.getElem?_eq_some_iff.1 hj).1
  have hcj:∀(ys:List α) (cs:List AV) (us:List Value) (j:Nat) (y:α),RepL h noB cs us→cs=ys.flatMap enc→ys[j]? = some y→∃c u,enc y=[c]∧us[j]? = some u∧Rep h noB c u:=by
   intro ys
   induction ys with
   | nil=>intro cs us j y _ _ hy; simp at hy
   | cons y0 ys ih=>
    intro cs us j y hr hc hy;have h1:=hel y0
    obtain⟨c,hcc⟩:∃c,enc y0=[c]:=by
     cases hq:enc y0 with
     | nil=>rw[hq]at h1; simp at h1
     | cons c r=>rw[hq]at h1; simp at h1; exact⟨c,by rw[h1]⟩
    rw[hc,List.flatMap_cons,hcc,List.singleton_append]at hr;simp only[RepL]at hr;obtain⟨u,r,rfl,r1,r2⟩:=hr
    cases j with
    | zero=>simp at hy; subst hy; exact⟨c,u,hcc,rfl,r1⟩
    | succ j=>
     obtain⟨c', u', e1,e2,e3⟩:=ih _ r j y r2 rfl (by simpa using hy);exact⟨c', u', e1,by simpa using e2,e3⟩
  obtain⟨c,u,q1,q2,q3⟩:=hcj ys _ _ j y (hr.take m.toNat) hys hj
  have hq2:us[j]? = some u:=by
   rw[List.getElem?_take]at q2;split at q2
   ·exact q2
   ·cases q2
  refine⟨ad,[u],rfl,rfl,by rw[q1]; exact RepL.cons q3 RepL.nil,fun j' u' hu'=>?_⟩
  cases j' with
  | zero=>
   simp at hu'; subst hu';rw[Nat.mul_one,Nat.add_zero];exact hall j u hq2
  | succ j'=>simp at hu'
end
end Go.AL
/- Terms put in order by Go's own sort. -/
namespace Go.AL
theorem cmpL_refl:∀a:List Int,cmpL a a=0
 | []=>rfl
 | x::a=>by simp only[cmpL]; rw[if_pos (cmpI_zero.2 rfl)]; exact cmpL_refl a
theorem cmpL_sw:∀a b:List Int,cmpL a b = - cmpL b a
 | [],[]=>rfl
 | [],_::_=>rfl
 | _::_,[]=>rfl
 | x::a,y::b=>by
  simp only[cmpL];have hs:=cmpI_swap x y;by_cases hz:cmpI x y=0
  ·rw[if_pos hz,if_pos (by omega)]; exact cmpL_sw a b
  ·rw[if_neg hz,if_neg (by omega)]; exact hs
theorem cmpL_eq:∀ {a b:List Int},cmpL a b=0→a=b
 | [],[],_=>rfl
 | [],_::_,k=>by simp[cmpL]at k
 | _::_,[],k=>by simp[cmpL]at k
 | x::a,y::b,k=>by
  simp only[cmpL]at k;split at k
  ·rename_i hz; rw[cmpI_zero.1 hz,cmpL_eq k]
  ·rename_i hz; exact absurd k hz
theorem cmpL_trans:∀ {a b c:List Int},cmpL a b=1→cmpL b c=1→cmpL a c=1
 | [],[],_,k,_=>by simp[cmpL]at k
 | [],_::_,_,k,_=>by simp[cmpL]at k
 | _::_,[],[],_,_=>rfl
 | _::_,[],_::_,_,k=>by simp[cmpL]at k
 | _::_,_::_,[],_,_=>rfl
 | x::a,y::b,z::c,k1,k2=>by
  simp only[cmpL]at k1 k2 ⊢;have c1:=BJ x y;have c2:=BJ y z;have c3:=BJ x z;by_cases e1:cmpI x y=0
  ·rw[if_pos e1]at k1;by_cases e2:cmpI y z=0
   ·rw[if_pos e2]at k2;rw[if_pos (by omega)];exact cmpL_trans k1 k2
   ·rw[if_neg e2]at k2;rw[if_neg (by omega)]; omega
  ·rw[if_neg e1]at k1;by_cases e2:cmpI y z=0
   ·rw[if_neg (by omega)]; omega
   ·rw[if_neg e2]at k2;rw[if_neg (by omega)]; omega
theorem ordI_lt {a b:List Int}:ordI a b<0↔sumL b<sumL a∨(sumL a=sumL b∧cmpL a b=1):=by
 unfold ordI;have hs:=cmpL_sw a b;have hr:=FJ a b;by_cases hz:sumL b-sumL a=0
 ·rw[if_pos hz]; omega
 ·rw[if_neg hz]; omega
theorem ordI_eq {a b:List Int} (k:ordI a b=0):a=b:=by
 unfold ordI at k;by_cases hz:sumL b-sumL a=0
 ·rw[if_pos hz]at k; exact(cmpL_eq k).symm
 ·rw[if_neg hz]at k; omega
theorem Dq (a:List Int):ordI a a=0:=by unfold ordI; rw[if_pos (by omega)]; exact cmpL_refl a
theorem CR {a b c:List Int} (k1:ordI a b<0) (k2:ordI b c<0):ordI a c<0:=by
 rw[ordI_lt]at k1 k2 ⊢;rcases k1 with k1|⟨k1,k1'⟩<;>rcases k2 with k2|⟨k2,k2'⟩
 ·left; omega
 ·left; omega
 ·left; omega
 ·right; exact⟨by omega,cmpL_trans k1' k2'⟩
theorem C9 (a b:List Int):ordI a b<0∨a=b∨ordI b a<0:=by
 rw[ordI_lt,ordI_lt];have hs:=cmpL_sw a b;rcases FJ a b with k|k|k
 ·by_cases e:sumL a=sumL b
  ·exact .inl (.inr ⟨e,k⟩)
  ·omega
 ·exact .inr (.inl (cmpL_eq k))
 ·by_cases e:sumL a=sumL b
  ·exact .inr (.inr (.inr ⟨e.symm,by omega⟩))
  ·omega
def leT (a b:TZ):Bool:=decide (ordI a.e b.e≤0)
def Bj (xs:List TZ):List TZ:=xs.mergeSort leT
theorem CD (xs:List TZ):(Bj xs).Perm xs:=List.mergeSort_perm _ _
theorem leT_iff {a b:TZ}:leT a b=true↔ordI a.e b.e<0∨a.e=b.e:=by
 simp only[leT,decide_eq_true_eq];constructor
 ·intro h;rcases C9 a.e b.e with k|k|k
  ·exact .inl k
  ·exact .inr k
  ·by_cases h0:ordI a.e b.e=0
   ·exact .inr (ordI_eq h0)
   ·omega
 ·rintro(h|h)
  ·omega
  ·rw[h,Dq]; omega
theorem leT_trans (a b c:TZ) (h1:leT a b=true) (h2:leT b c=true):leT a c=true:=by
 rw[leT_iff]at h1 h2 ⊢;rcases h1 with h1|h1<;>rcases h2 with h2|h2
 ·exact .inl (CR h1 h2)
 ·exact .inl (by rw[←h2]; exact h1)
 ·exact .inl (by rw[h1]; exact h2)
 ·exact .inr (h1.trans h2)
theorem leT_total (a b:TZ):(leT a b||leT b a)=true:=by
 rw[Bool.or_eq_true,leT_iff,leT_iff];rcases C9 a.e b.e with k|k|k
 ·exact .inl (.inl k)
 ·exact .inl (.inr k)
 ·exact .inr (.inl k)
theorem Ev (xs:List TZ):(Bj xs).Pairwise fun a b=>leT a b=true:=List.pairwise_mergeSort leT_trans leT_total xs
theorem sortT_unique {xs ys:List TZ} (hnd:xs.Pairwise fun a b=>a.e≠b.e) (hp:ys.Perm xs) (hs:ys.Pairwise fun a b=>leT a b=true):ys=Bj xs:=by
 refine List.Perm.eq_of_pairwise (le:=fun a b=>leT a b=true) (fun a b ha hb h1 h2=>?_) hs (Ev xs) (hp.trans (CD xs).symm)
 have he:a.e=b.e:=by
  rw[leT_iff]at h1 h2;rcases h1 with h1|h1
  ·rcases h2 with h2|h2
   ·have:=CR h1 h2; rw[Dq]at this; omega
   ·exact h2.symm
  ·exact h1
 have ha':a∈xs:=hp.mem_iff.1 ha;have hb':b∈xs:=(CD xs).mem_iff.1 hb
 have key:∀l:List TZ,l.Pairwise (fun a b=>a.e≠b.e)→a∈l→b∈l→a=b:=by
  intro l
  induction l with
  | nil=>intro _ h; cases h
  | cons x l ih=>
   intro hl h1 h2;rw[List.pairwise_cons]at hl;rcases List.mem_cons.1 h1 with e1|h1
   ·rcases List.mem_cons.1 h2 with e2|h2
    ·rw[e1,e2]
    ·exact absurd (by rw[←e1]; exact he) (hl.1 b h2)
   ·rcases List.mem_cons.1 h2 with e2|h2
    ·exact absurd (by rw[←e2]; exact he.symm) (hl.1 a h1)
    ·exact ih hl.2 h1 h2
 exact key xs hnd ha' hb'
structure AT (h:Hp) (n:Nat):Type where
  t:TZ
  v:List Value
  rep:RepL h noB (eT t) v
  ok:EOk t.e
  len:t.e.length=n
theorem at_list {h:Hp} {n:Nat}:∀(xs:List TZ) (vals:List Value),RepL h noB (xs.flatMap eT) vals→(∀t∈xs,EOk t.e∧t.e.length=n)→∃l:List (AT h n),l.map (·.t)=xs∧l.flatMap (·.v)=vals
 | [],vals,hr,_=>by simp only[List.flatMap_nil,RepL]at hr; subst hr; exact⟨[],rfl,rfl⟩
 | t::xs,vals,hr,hx=>by
  rw[List.flatMap_cons]at hr;obtain⟨h1,h2⟩:=hr.split;obtain⟨l,e1,e2⟩:=at_list xs _ h2 fun q hq=>hx q (by simp[hq]);refine⟨⟨t,vals.take (eT t).length,h1,(hx t (by simp)).1,(hx t (by simp)).2⟩::l,by simp[e1],?_⟩;rw[List.flatMap_cons,e2];exact List.take_append_drop _ _
theorem at_rep {h:Hp} {n:Nat}:∀l:List (AT h n),RepL h noB ((l.map (·.t)).flatMap eT) (l.flatMap (·.v))
 | []=>RepL.nil
 | x::l=>by simp only[List.map_cons,List.flatMap_cons]; exact x.rep.append (at_rep l)
theorem flatK_list {α:Type} [Inhabited α] (enc:α→List Value) (k:Nat) (hk:∀x,(enc x).length=k):∀l:List α,(Go.Sort.flatK enc k l.toArray).toList=l.flatMap enc:=by
  intro l;apply List.ext_getElem?;intro t
  have hlen:∀l:List α,(l.flatMap enc).length=l.length*k:=by
    intro l
    induction l with
    | nil=>simp
    | cons x l ih=>simp[List.flatMap_cons,hk,ih,Nat.succ_mul,Nat.add_comm]
  have hget:∀(l:List α) (t:Nat),t<l.length*k→(l.flatMap enc)[t]? = some (enc l[t/k]!)[t % k]! := by
    intro l
    induction l with
    | nil=>intro t ht; simp at ht
    | cons x l ih=>
      intro t ht;rw[List.flatMap_cons];by_cases h1:t<k
      · rw[List.getElem?_append_left (by rw[hk]; exact h1),Nat.div_eq_of_lt h1,Nat.mod_eq_of_lt h1];simp[hk,h1]
      · have hk0 : 0 < k := by rcases Nat.eq_zero_or_pos k with h|h
                               · subst h; simp at ht
                               · exact h
        rw[List.getElem?_append_right (by rw[hk]; omega),hk]
        have ht2:t<l.length*k+k:=by rw[←Nat.succ_mul]; exact ht
        have h2:=ih (t-k) (by omega);rw[h2]
        have e1:t/k=(t-k)/k+1:=by rw[←Nat.add_div_right _ hk0]; congr 1; omega
        have e2:t % k=(t-k) % k:=by
          have:=Nat.add_mod_right (t-k) k;rwa [show t-k+k=t by omega]at this
        rw[e1,e2];simp
  by_cases ht:t<l.length*k
  · rw[hget l t ht,Array.getElem?_toList,Array.getElem?_eq_getElem (by simpa using ht)];have:=Go.Sort.get_flatK enc k l.toArray t (by simpa using ht);rw[getElem!_pos _ t (by simpa using ht)]at this;rw[this];simp
  · rw[List.getElem?_eq_none (by simp; omega),List.getElem?_eq_none (by rw[hlen]; omega)]
theorem evo_grow {W w':World} {h h':Hp} (e:Evo D4 W h w' h'):∃q os,w'=Go.Sort.grow (W.drewN q) os:=by
 refine⟨w'.drawn-W.drawn,w'.heap.extract W.heap.size w'.heap.size,?_⟩;have h1:=e.output.2
 have hheap:w'.heap=W.heap++w'.heap.extract W.heap.size w'.heap.size:=by
  apply Array.ext_getElem?;intro i;by_cases hi:i<W.heap.size
  ·rw[e.block i hi (fun x=>x),Array.getElem?_append_left hi]
  ·rw[Array.getElem?_append_right (by omega)];by_cases hi2:i<w'.heap.size
   ·rw[Array.getElem?_eq_getElem hi2,Array.getElem?_eq_getElem (by simp; omega)];congr 1;simp[show W.heap.size+(i-W.heap.size)=i by omega]
   ·rw[Array.getElem?_eq_none (by omega),Array.getElem?_eq_none (by simp; omega)]
 have h0:w'=⟨w'.heap,w'.tape,w'.drawn,w'.os,w'.output⟩:=rfl;rw[h0];simp only[Go.Sort.grow,World.drewN];rw[←hheap,e.os,e.tape,e.output.1,show W.drawn+(w'.drawn-W.drawn)=w'.drawn by omega]
end Go.AL
namespace Go.Proofs.YtmmfloplhopioaaGreat
open Go.AL
set_option maxHeartbeats 4000000 in
set_option maxRecDepth 100000 in
theorem sort_calls {w:World} {h:Hp} (hw:Has w h) (n:Nat) (hn:n≤100000) (xs:List TZ) (hx:∀t∈xs,EOk t.e∧t.e.length=n) (hnd:xs.Pairwise fun a b=>a.e≠b.e) (hne:xs≠[]) (g cap:Nat) (cur:Array Value) (T:TypeId) (hg:w.heap[g]? = some (.cells cur T (0,0))) (hgn:h g=none) (vals:List Value) (hv:RepL h noB (xs.flatMap eT) vals) (hc:cur.toList.take (xs.length*3)=vals) (hle:xs.length≤cap) (hsz:cur.size=cap*3) (hbig:xs.length<4611686018427387904) :
  Calls Tryz.prog 229 #[.slice (some ⟨g,0,none⟩) xs.length cap,.func (.func 203) #[] #[]] w fun e w'=>e = .returned (.tuple #[]) ∧
   ∃vals' cur', RepL h noB ((Bj xs).flatMap eT) vals'∧w'.os=w.os∧w'.tape=w.tape∧(w'.output=w.output∧w.drawn≤w'.drawn)∧w.heap.size≤w'.heap.size∧(∀i,i<w.heap.size→i≠g→w'.heap[i]? = w.heap[i]?)∧w'.heap[g]? = some (.cells cur' T (0,0))∧cur'.size=cap*3∧cur'.toList.take (xs.length*3)=vals':=by
 obtain⟨l,e1,e2⟩:=at_list (n:=n) xs vals hv hx
 obtain⟨x0,l0,hl0⟩:∃x0 l0,l=x0::l0:=by
  cases l with
  | nil=>simp at e1; exact absurd e1 hne
  | cons a b=>exact⟨a,b,rfl⟩
 haveI:Inhabited (AT h n):=⟨x0⟩
 have hlen:l.length=xs.length:=by rw[←e1]; simp
 let enc:AT h n→List Value:=fun x=>x.v
 have hk:∀x:AT h n,(enc x).length=3:=fun x=>by rw[x.rep.length]; rfl
 have h1:∀x:AT h n,∀v∈enc x,v.oneCell'=true:=fun x v hvv=>CF (h:=h) (β:=noB) (cs:=eT x.t) rfl x.rep v hvv
 have hO:Go.Sort.SWO (Go.Proofs.ltOf fun x y:AT h n=>ordI x.t.e y.t.e):=by
  refine⟨fun x=>?_,fun x y z k1 k2=>?_,fun x y z k1 k2=>?_⟩
  ·simp only[Go.Proofs.ltOf,decide_eq_false_iff_not]; rw[Dq]; omega
  ·simp only[Go.Proofs.ltOf,decide_eq_true_eq]at k1 k2 ⊢;exact CR k1 k2
  ·simp only[Go.Proofs.ltOf,decide_eq_false_iff_not]at k1 k2 ⊢;intro k3;rcases C9 y.t.e x.t.e with k|k|k
   ·exact k2 (CR k k3)
   ·exact k2 (by rw[k]; exact k3)
   ·exact k1 k
 have hcell:∀i,(⟨g,i,none⟩:Addr).block=g:=fun _=>rfl
 have hH:Go.Sort.HoldsK enc 3 w g 0 l.toArray:=by
  intro j hj;have hflat:=flatK_list enc 3 hk l
  have hjl:j<xs.length*3:=by simpa[hlen]using hj
  have hget:(Go.Sort.flatK enc 3 l.toArray)[j]! = (cur[j]?).getD default:=by
   rw[getElem!_pos _ j hj,←Array.getElem_toList (h:=by simpa using hj)]
   have h2:(Go.Sort.flatK enc 3 l.toArray).toList=cur.toList.take (xs.length*3):=by rw[hflat,hc]; exact e2
   have h3:(Go.Sort.flatK enc 3 l.toArray).toList[j]? = cur.toList[j]? := by
    rw[h2,List.getElem?_take_of_lt hjl]
   rw[List.getElem?_eq_getElem (by simpa using hj)]at h3;rw[←Array.getElem?_toList,←h3]; rfl
  have hjc:j<cur.size:=by omega
  refine⟨?_,?_⟩
  ·simp only[Nat.zero_add,World.cell?,hg,hget,id];simp[hjc]
  ·simp[World.frozen?,hg]
 have hblk:g<w.heap.size:=(Array.getElem?_eq_some_iff.1 hg).1
 have hthere:∀(m:Nat) (os:Array Obj) (dk:Array (AT h n)) (i:Nat),i<w.heap.size→i≠g→(Go.Proofs.sortWorldK enc 3 w g 0 m dk os).heap[i]? = w.heap[i]? := by
  intro m os dk i hi hig;simp only[Go.Proofs.sortWorldK,Go.Sort.grow,Go.Sort.putRowK,Go.Sort.putRow,Go.Sort.mapBlock,Go.Sort.ahead];rw[Array.getElem?_append_left (by simpa using hi),Array.getElem?_modify,if_neg (Ne.symm hig)]
 have hcmp:Go.Proofs.CmpLays Tryz.prog 203 #[] enc 3 (fun x y:AT h n=>ordI x.t.e y.t.e) g 0 l.toArray.size w:=by
  intro m os dk hdk x y
  have hW:Has (Go.Proofs.sortWorldK enc 3 w g 0 m dk os) h:=fun b cs hb=>by
   obtain⟨t,fr,hh⟩:=hw b cs hb;refine⟨t,fr,?_⟩;rw[hthere m os dk b (Array.getElem?_eq_some_iff.1 hh).1 (fun e=>by subst e; rw[hgn]at hb; cases hb)];exact hh
  have hord:=order_ok x.t y.t x.ok y.ok (by rw[x.len]; omega) (by rw[y.len]; omega);rw[Array.append_empty];have hrl:RepL h noB [aT x.t,aT y.t] [.agg (enc x).toArray,.agg (enc y).toArray]:=RepL.cons (by simp only[Rep]; exact⟨_,rfl,x.rep⟩) (RepL.cons (by simp only[Rep]; exact⟨_,rfl,y.rep⟩) RepL.nil);have hcl:=hord.calls _ h #[.agg (enc x).toArray,.agg (enc y).toArray] hW hrl;refine hcl.mono fun e w' ⟨u,h', he,hev,hrep⟩=>?_;simp only[Rep]at hrep;subst hrep;exact⟨he,evo_grow hev⟩
 have hA:∀w,(isAgg (sortL_ren.t 24)).run Tryz.prog w = .ok true w:=Tryz.isAgg158;have hZ:∀w,(Go.sizeOf (sortL_ren.t 24)).run Tryz.prog w = .ok 3 w:=Tryz.sizeOf158;have hS:=Go.Proofs.AnyQ.slices_SortFunc sortL 3 hA hZ enc hk h1 (fun x y:AT h n=>ordI x.t.e y.t.e) hO 203 #[] g 0 cap l.toArray w (enters_of Tryz.func203 (by kernel_rfl) rfl) hcmp hH hblk (by simp; omega);change Calls Tryz.prog 229 _ _ _ at hS;simp only[List.size_toArray]at hS;rw[hlen]at hS;refine Calls.mono hS fun e w' ⟨he,d', m,os,hp,hs,hw'⟩=>?_;subst hw';obtain⟨hd1,hd2,hd3⟩:=hp
 have hd1:d'.size=xs.length:=by rw[hd1]; simp[hlen]
 have hperm:d'.toList.Perm l:=by
  have q1:d'.extract 0 xs.length=d':=by rw[←hd1]; simp
  have q2:l.toArray.extract 0 xs.length=l.toArray:=by rw[←hlen]; simp
  rw[q1,q2]at hd3;simpa using hd3
 have hsorted:(d'.toList.map (·.t)).Pairwise fun a b=>leT a b=true:=by
  rw[List.pairwise_map];rw[List.pairwise_iff_getElem];intro i j hi hj hij;have:=hs i j (Nat.zero_le _) hij (by rw[←hd1]; simpa using hj)
  have hi':i<d'.size:=by simpa using hi
  have hj':j<d'.size:=by simpa using hj
  rw[getElem!_pos d' i hi', getElem!_pos d' j hj']at this;simp only[Go.Proofs.ltOf,decide_eq_false_iff_not]at this;rw[Array.getElem_toList,Array.getElem_toList];rw[leT_iff];rcases C9 (d'[i]).t.e (d'[j]).t.e with k|k|k
  ·exact .inl k
  ·exact .inr k
  ·exact absurd k this
 have hys:d'.toList.map (·.t)=Bj xs:=sortT_unique hnd (by rw[←e1]; exact hperm.map _) hsorted;have hrep:=at_rep d'.toList;rw[hys]at hrep
 have hfl:(Go.Sort.flatK enc 3 d').toList=d'.toList.flatMap (·.v):=by
  have:=flatK_list enc 3 hk d'.toList;simpa using this
 refine⟨he,d'.toList.flatMap (·.v),Go.Sort.putCells id 0 (Go.Sort.flatK enc 3 d') cur,hrep,rfl,rfl,⟨rfl,Nat.le_add_right _ _⟩,?_,fun i hi hig=>hthere m os d' i hi hig,?_,by simp[Go.Sort.putCells,hsz],?_⟩
 ·simp only[Go.Proofs.sortWorldK,Go.Sort.grow,Go.Sort.putRowK,Go.Sort.putRow,Go.Sort.mapBlock,Go.Sort.ahead,Array.size_append,Array.size_modify];omega
 ·simp only[Go.Proofs.sortWorldK,Go.Sort.grow,Go.Sort.putRowK,Go.Sort.putRow,Go.Sort.mapBlock,Go.Sort.ahead];rw[Array.getElem?_append_left (by simpa using hblk),Array.getElem?_modify,if_pos rfl,hg];rfl
 ·rw[←hfl];apply List.ext_getElem?;intro t;by_cases ht:t<xs.length*3
  ·have htc:t<cur.size:=by omega
   rw[List.getElem?_take_of_lt ht,Array.getElem?_toList,Array.getElem?_toList];simp only[Go.Sort.putCells,Array.getElem?_mapIdx,Array.getElem?_eq_getElem htc,Option.map_some,Nat.zero_le,true_and,Nat.zero_add,Go.Sort.size_flatK,hd1,if_pos ht,Nat.sub_zero,id];rw[getElem!_pos _ t (by simpa[hd1]using ht),Array.getElem?_eq_getElem (by simpa[hd1]using ht)]
  ·rw[List.getElem?_eq_none (by simp; omega),List.getElem?_eq_none (by simp[hd1]; omega)]
end Go.Proofs.YtmmfloplhopioaaGreat
/- slices.SortFunc on terms: a contract with a box. -/
namespace Go.Proofs.YtmmfloplhopioaaGreat
open Go.AL
set_option maxHeartbeats 4000000 in
set_option maxRecDepth 100000 in
theorem sort_ok (n:Nat) (hn:n≤100000) (xs:List TZ) (hx:∀t∈xs,EOk t.e∧t.e.length=n) (hnd:xs.Pairwise fun a b=>a.e≠b.e) (hlen:xs.length≤1000000000000) (T:TypeId) :
  IoFn Tryz.prog 229 [.row 900,.fn 203 []] [(900,.row 3 eT xs T)] (.ret .any) [(900,.row 3 eT (Bj xs) T)]:=by
 refine⟨⟨_,Tryz.func229,by kernel_rfl,by kernel_rfl⟩,fun w h β us hw hbx hβ hr=>?_⟩;obtain⟨v,vals,hv,⟨hl,ho⟩,hrv,hsz3,hno⟩:=hbx.box 900 (.row 3 eT xs T) rfl
 have hus:us = #[v,.func (.func 203) #[] #[]]:=by
  simp only[RepL,Rep]at hr;obtain⟨u0,r0,e0,⟨e1,_⟩,u1,r1,e2,⟨us2,e3,e4⟩,e5⟩:=hr;rw[hv]at e1; injection e1 with e1; subst e1;have:us2 = #[]:=Array.toList_inj.1 e4;subst this;rw[e2,e3,e5]at e0;exact Array.toList_inj.1 e0
 subst hus
 have fin:∀(w':World) (vals':List Value),w'.os=w.os→w'.tape=w.tape→(w'.output=w.output∧w.drawn≤w'.drawn)→w.heap.size≤w'.heap.size→(∀i,i<w.heap.size→v.ownBlock≠some i→w'.heap[i]? = w.heap[i]?)→w'.ownsRow 0 T 3 v (Bj xs).length vals'→RepL h noB ((Bj xs).flatMap eT) vals' →
   ∃h' β', β.le β'∧Evo (Ar [(900,.row 3 eT xs T)] β) w h w' h'∧∃u,Ending.returned (.tuple #[]) = .returned u∧BoxesAt w' h' β' [(900,.row 3 eT (Bj xs) T)]∧Rep h' β' .any u∧∀id g,id∉idsB [(900,.row 3 eT xs T)]→blk (β' id)=some g→w.heap.size≤g:=by
  intro w' vals' q1 q2 q3 q4 q5 q6 q7;have hbk:∀g,blk (some v)=some g↔v.ownBlock=some g:=FM q6;refine⟨h,β,AW _,evo_of hw q1 q2 q3 q4 (fun i hi hm=>q5 i hi fun e=>hm ⟨900,_,rfl,by rw[hv]; exact(hbk i).2 e⟩) (fun g ⟨id,B,hB,hg⟩=>?_),.tuple #[],rfl,⟨fun id B hB=>?_,fun id id' B B' h1 h2 hne=>?_⟩,by simp only[Rep],fun id g hid hg=>?_⟩
  ·by_cases hid:id=900
   ·subst hid; rw[hv]at hg; exact hno g ((hbk g).1 hg)
   ·simp[Au,Ak hid]at hB
  ·by_cases hid:id=900
   ·subst hid;simp only[Au,Nat.beq_refl]at hB;injection hB with hB; subst hB;exact⟨v,vals', hv,q6,q7,fun _ _=>rfl,hno⟩
   ·simp[Au,Ak hid]at hB
  ·by_cases hid:id=900
   ·by_cases hid':id'=900
    ·exact absurd (hid.trans hid'.symm) hne
    ·simp[Au,Ak hid']at h2
   ·simp[Au,Ak hid]at h1
  ·rw[hβ id hid]at hg; simp[blk]at hg
 have hsl:(Bj xs).length=xs.length:=(CD xs).length_eq;by_cases hne:xs=[]
 ·subst hne
  have hs0:Bj []=[]:=by simp[Bj]
  have hvs:∃p c,v = .slice p 0 c:=by
   rcases ho with⟨e,_⟩|⟨g,cap,cur,e,_⟩
   ·exact⟨none,0,e⟩
   ·exact⟨_,cap,by simpa using e⟩
  obtain⟨p,c,hvp⟩:=hvs;have hS:=Go.Proofs.AnyF.slices_SortFunc_none (P:=Tryz.prog) (ρ:=sortL_ren) { sortL with } p c (.func (.func 203) #[] #[]) w;change Calls Tryz.prog 229 _ _ _ at hS;rw[hvp];refine Calls.mono hS fun e w' ⟨he,hw'⟩=>?_;subst he hw';have hr0:RepL h noB (([]:List TZ).flatMap eT) []:=RepL.nil;have hvals:vals=[]:=List.eq_nil_of_length_eq_zero (by simpa using hl);have:=fin w' vals rfl rfl ⟨rfl,Nat.le_refl _⟩ (Nat.le_refl _) (fun _ _ _=>rfl) (by rw[hs0]; exact⟨hl,ho⟩) (by rw[hs0]; exact hrv);exact this
 ·have hpos:0<xs.length:=List.length_pos_iff.2 hne;rcases ho with⟨_,e⟩|⟨g,cap,cur,e,_,hh,h1,h2,h3,h4⟩
  ·omega
  ·subst e;have hgn:h g=none:=hno g rfl
   have hb:xs.length<4611686018427387904:=by omega
   refine Calls.mono (sort_calls hw n hn xs hx hnd hne g cap cur T hh hgn vals hrv h4 h1 h3 hb) fun e w' ⟨he,vals', cur', p1,p2,p3,p4,p5,p6,p7,p8,p9⟩=>?_;subst he;refine fin w' vals' p2 p3 p4 p5 (fun i hi hm=>p6 i hi fun e=>hm (by rw[e]; rfl)) ?_ p1;rw[hsl];have hln:=p1.length
   have hk:((Bj xs).flatMap eT).length=xs.length*3:=by
    rw[←hsl];generalize Bj xs=l
    induction l with
    | nil=>rfl
    | cons t l ih=>rw[List.flatMap_cons,List.length_append,ih,List.length_cons]; simp[eT]; omega
   exact⟨by rw[hln,hk],.inr ⟨g,cap,cur', rfl,Nat.zero_le _,p7,h1,h2,p8,p9⟩⟩
end Go.Proofs.YtmmfloplhopioaaGreat
/- The keys of the program's sums: lists of 32 exponents. -/
namespace Go.AL
abbrev Key:={l:List Int // l.length=32}
def kg (k:Key) (i:Nat):Int:=k.1.getD i 0
def keyC (k:Key):List AV:=[aN (kg k 0),aN (kg k 1),aN (kg k 2),aN (kg k 3),aN (kg k 4),aN (kg k 5),aN (kg k 6),aN (kg k 7),aN (kg k 8),aN (kg k 9),aN (kg k 10),aN (kg k 11),aN (kg k 12),aN (kg k 13),aN (kg k 14),aN (kg k 15),aN (kg k 16),aN (kg k 17),aN (kg k 18),aN (kg k 19),aN (kg k 20),aN (kg k 21),aN (kg k 22),aN (kg k 23),aN (kg k 24),aN (kg k 25),aN (kg k 26),aN (kg k 27),aN (kg k 28),aN (kg k 29),aN (kg k 30),aN (kg k 31)]
def keyV (k:Key):List Value:=[.int .i64 (kg k 0),.int .i64 (kg k 1),.int .i64 (kg k 2),.int .i64 (kg k 3),.int .i64 (kg k 4),.int .i64 (kg k 5),.int .i64 (kg k 6),.int .i64 (kg k 7),.int .i64 (kg k 8),.int .i64 (kg k 9),.int .i64 (kg k 10),.int .i64 (kg k 11),.int .i64 (kg k 12),.int .i64 (kg k 13),.int .i64 (kg k 14),.int .i64 (kg k 15),.int .i64 (kg k 16),.int .i64 (kg k 17),.int .i64 (kg k 18),.int .i64 (kg k 19),.int .i64 (kg k 20),.int .i64 (kg k 21),.int .i64 (kg k 22),.int .i64 (kg k 23),.int .i64 (kg k 24),.int .i64 (kg k 25),.int .i64 (kg k 26),.int .i64 (kg k 27),.int .i64 (kg k 28),.int .i64 (kg k 29),.int .i64 (kg k 30),.int .i64 (kg k 31)]
def ekK (k:Key):Value := .agg ⟨keyV k⟩
abbrev kcK (k:Key):AV := .agg (keyC k)
theorem keyC_eq (k:Key):keyC k=k.1.map aN:=by
 obtain⟨l,hl⟩:=k;have e:keyC ⟨l,hl⟩=(List.range 32).map fun i=>aN (l.getD i 0):=rfl;rw[e];apply List.ext_getElem?;intro i;by_cases h:i<32
 ·simp[h,hl]
 ·rw[List.getElem?_eq_none (by simp; omega),List.getElem?_eq_none (by simp; omega)]
theorem keyV_eq (k:Key):keyV k=k.1.map (Value.int .i64):=by
 obtain⟨l,hl⟩:=k;have e:keyV ⟨l,hl⟩=(List.range 32).map fun i=>Value.int .i64 (l.getD i 0):=rfl;rw[e];apply List.ext_getElem?;intro i;by_cases h:i<32
 ·simp[h,hl]
 ·rw[List.getElem?_eq_none (by simp; omega),List.getElem?_eq_none (by simp; omega)]
theorem repN (h:Hp) (β:Bt):∀(l:List Int) (us:List Value),RepL h β (l.map aN) us↔us=l.map (Value.int .i64)
 | [],us=>by simp[RepL]
 | x::l,us=>by
  simp only[List.map_cons,RepL,Rep,repN h β l];constructor
  ·rintro⟨u,r,rfl,rfl,rfl⟩; rfl
  ·rintro rfl; exact⟨_,_,rfl,rfl,rfl⟩
def expK (e:List Int) (he:e.length≤32):Key:=⟨e++List.replicate (32-e.length) 0,by simp; omega⟩
theorem FI (e:List Int) (he:e.length≤32):e.flatMap eI++(List.replicate 32 (aN 0)).drop e.length=keyC (expK e he):=by
 rw[keyC_eq];simp only[expK,List.map_append,List.map_replicate,List.drop_replicate];congr 1
 induction e with
 | nil=>rfl
 | cons x e ih=>simp[eI,List.flatMap_cons]at ih ⊢; exact ih (by simp at he; omega)
theorem expK_inj {a b:List Int} {ha:a.length≤32} {hb:b.length≤32} (hl:a.length=b.length) (h:expK a ha=expK b hb):a=b:=by
 have h1:a++List.replicate (32-a.length) 0=b++List.replicate (32-b.length) 0:=congrArg Subtype.val h;exact(List.append_inj h1 hl).1
end Go.AL
namespace Go.Proofs.YtmmfloplhopioaaGreat
open Go.AL
theorem und_key:Tryz.prog.underlying 251=some (.array 32 3):=by kernel_rfl
theorem und_int:Tryz.prog.underlying 3=some (.int .i64):=by kernel_rfl
theorem key_items (a b:Key) (w:World) (d:Nat):∀is:List Nat,(∀i∈is,i<32)→(Op.eqItems (d+1) 3 1 ⟨keyV a⟩ ⟨keyV b⟩ is).run Tryz.prog w = .ok (is.all fun i=>kg a i == kg b i) w
 | [],_=>by simp[Op.eqItems]
 | i::is,h=>by
  have hp:Tryz.prog.plainKey 3=true:=by kernel_rfl
  have hg:∀k:Key,(⟨keyV k⟩:Array Value)[i*1]? = some (.int .i64 (kg k i)):=fun k=>by
   rw[Nat.mul_one,List.getElem?_toArray,keyV_eq,List.getElem?_map]
   have hi:i<k.1.length:=by rw[k.2]; exact h i (by simp)
   simp[kg,hi]
  simp only[Op.eqItems,Sem.run_bind,run_part_plain w hp (hg a),run_part_plain w hp (hg b),Result.andThen_ok,run_equalIn_int w d 3 .i64 .i64 _ _ und_int,List.all_cons]
  cases hq:(kg a i == kg b i)with
  | false=>simp
  | true=>simp[key_items a b w d is fun j hj=>h j (by simp[hj])]
theorem key_eq (a b:Key) (w:World):(Op.equal 251 (ekK a) (ekK b)).run Tryz.prog w = .ok (decide (a=b)) w:=by
 obtain⟨i,hi⟩:=info_of_underlying und_int
 have hc:Tryz.prog.cellsOf 3=1:=by kernel_rfl
 have h:=run_equalIn_array w 9999 ⟨keyV a⟩ ⟨keyV b⟩ und_key hi;rw[hc,key_items a b w 9998 _ (fun i hi=>List.mem_range.1 hi)]at h;have h2:(Op.equal 251 (ekK a) (ekK b)).run Tryz.prog w = .ok ((List.range 32).all fun i=>kg a i == kg b i) w:=h;rw[h2];refine congrArg (fun b=>Result.ok b w) ?_;rw[Bool.eq_iff_iff,List.all_eq_true,decide_eq_true_eq];constructor
 ·intro hall;apply Subtype.ext;apply List.ext_getElem
  ·rw[a.2,b.2]
  ·intro i h1 h2;have:=hall i (List.mem_range.2 (by rw[a.2]at h1; exact h1));simp only[kg,beq_iff_eq,List.getD_eq_getElem?_getD,List.getElem?_eq_getElem h1,List.getElem?_eq_getElem h2,Option.getD_some]at this;exact this
 ·rintro rfl i _; simp
theorem key_part (k:Key) (w:World) (i:Nat) (h:i<32):(part 3 ⟨keyV k⟩ (i*1)).run Tryz.prog w = .ok (.int .i64 (kg k i)) w:=by
 have hp:Tryz.prog.plainKey 3=true:=by kernel_rfl
 refine run_part_plain w hp ?_;rw[Nat.mul_one,List.getElem?_toArray,keyV_eq,List.getElem?_map]
 have hi:i<k.1.length:=by rw[k.2]; exact h
 simp[kg,hi]
theorem key_check (e:Bool) (k:Key) (w:World):(Instr.checkKey e 10000 251 (ekK k)).run Tryz.prog w = .ok () w:=by
 obtain⟨inf,hi⟩:=info_of_underlying und_int
 have hc:Tryz.prog.cellsOf 3=1:=by kernel_rfl
 have one:∀x,(Instr.checkKey e 9999 3 (.int .i64 x)).run Tryz.prog w = .ok () w:=fun x=>by
  rw[show 9999=9998+1 from rfl];unfold Instr.checkKey;simp[Sem.run_bind,run_underlying und_int]
 rw[show 10000=9999+1 from rfl,Instr.checkKey,ekK];simp only[Sem.run_bind,run_underlying und_key,Result.andThen_ok];simp only[Std.Legacy.Range.forIn_eq_forIn_range', Std.Legacy.Range.size,Nat.sub_zero,Nat.add_one_sub_one,Nat.div_one]
 have each:∀i∈List.range' 0 32,i<32:=fun i hi=>by simpa using hi
 generalize List.range' 0 32=is at each
 induction is with
 | nil=>simp
 | cons j is ih=>
  simp only[List.forIn_cons,Sem.run_bind,run_sizeOf w hi,hc,Result.andThen_ok,key_part k w j (each j (by simp)),one,Sem.run_pure];exact ih (fun y hy=>each y (by simp[hy]))
theorem key_law:KeyLaw Tryz.prog 251 ekK kcK where
 rep h β k u hr:=by
  simp only[Rep]at hr;obtain⟨us,rfl,hr⟩:=hr;rw[keyC_eq,repN,←keyV_eq]at hr;rw[ekK,←hr]
 back h β k:=by
  simp only[Rep];refine⟨_,rfl,?_⟩;rw[keyC_eq,repN,←keyV_eq]
 check:=key_check
 find h α av k xs es w hm:=by
  obtain⟨r,h1,h2⟩:=findAsking_run (fun a b w=>key_eq a b w) h av k w xs es 0 hm;refine⟨r,?_,h2⟩;simp only[Instr.findKey,Sem.run_bind,run_underlying und_key,Result.andThen]
  have hn:es=[]∨Instr.findNow (.array 32 3) (ekK k) es 0=none:=by
   cases es with
   | nil=>exact .inl rfl
   | cons e es=>
    right;simp only[Instr.findNow]
    cases he:e.key<;>simp[Instr.sameNow]
  rcases hn with rfl|hn
  ·simp only[Instr.findNow];simp only[Instr.findAsking,Sem.run_pure]at h1;exact h1
  ·rw[hn]; exact h1
 bits k:=by
  have:∀x:Int,(Instr.sameBits 9999 (.int .i64 x) (.int .i64 x))=true:=fun x=>by simp[Instr.sameBits]
  simp only[ekK,Instr.sameBits,beq_self_eq_true,Bool.true_and,keyV];simp[this]
end Go.Proofs.YtmmfloplhopioaaGreat
/- poly.empty, (*sums).add. -/
namespace Go.AL
abbrev ME:=Key×Int×Nat
def getM (k:Key) (xs:List ME):Int:=match Am k xs 0 with|some (_,p)=>p.2.1|none=>0
def setM (k:Key) (y:Int) (c:Nat) (xs:List ME):List ME:=if y=0 then delM k (putM k y c xs)else putM k y c xs
abbrev bM (xs:List ME) (c:Nat):Bx := .map ekK aX xs c
end Go.AL
namespace Go.Proofs.YtmmfloplhopioaaGreat
open Go.AL
abbrev smB (V:Int) (xs:List ME) (c:Nat):List (AL.Id×Bx):=[(900,.cells [aN V,.mp 901] 249),(901,bM xs c)]
theorem empty_ok (V:Int):IoFn Tryz.prog 211 [aN V] [] (.ret (.ptr 900 0)) (smB V [] 0):=by
 refine AH Tryz.func211 rfl Tryz.ntmps211 rfl rfl rfl ?_;(repeat' first|refine qv ?_|apply qn|apply qs|apply qr);refine Fl.mkmap rfl rfl rfl rfl ekK aX rfl ?_;(repeat' first|refine qv ?_|apply qn|refine qe ?_|apply qt);exact⟨⟨[(900,6),(901,4)],_,_,AM _ _ _,rfl,AA _,rfl,⟨⟨⟨_,rfl,BLe.cells (AB _)⟩,rfl⟩,⟨⟨_,rfl,BLe.map rfl rfl⟩,rfl⟩,trivial⟩,rfl,rfl⟩⟩
theorem sAdd_io (V:Int) (xs:List ME) (clock:Nat) (c:Int) (e:List Int) (hc:Fit c) (hxs:∀p∈xs,Fit p.2.1) (he:e.length≤32) (res:Res) (bx':List (AL.Id×Bx))
  (hr1:Fit (getM (expK e he) xs+c)→res = .ret (.tup [])∧bx'=smB V (setM (expK e he) (getM (expK e he) xs+c) clock xs) (putC (expK e he) clock xs))
  (hr2:¬Fit (getM (expK e he) xs+c)→res = .thr (BT 4)∧bx'=smB V xs clock) :
  IoFn Tryz.prog 213 [.ptr 900 0,aX c,aI e] (smB V xs clock) res bx':=by
 have hg:Fit (getM (expK e he) xs):=by
  unfold getM
  cases hf:Am (expK e he) xs 0 with
  | none=>exact Fit.zero
  | some q=>obtain⟨j,p⟩:=q; exact hxs p (List.mem_of_getElem? (DD hf).2.1)
 have hle:match Am (expK e he) xs 0 with|some (_,p)=>(aX p.2.1).Le (aX (getM (expK e he) xs))|none=>(AV.agg [aB false,.v (.slice none 0 0)]).Le (aX (getM (expK e he) xs)):=by
  unfold getM
  cases hf:Am (expK e he) xs 0 with
  | none=>exact Dm
  | some q=>exact AA _
 by_cases hfit:Fit (getM (expK e he) xs+c)
 ·obtain⟨rfl,rfl⟩:=hr1 hfit;refine AH Tryz.func213 rfl Tryz.ntmps213 rfl rfl rfl ?_;refine AE ?_;(repeat' first|apply qn|apply qr|refine qe ?_|fail);refine⟨?_⟩;refine AE ?_;(repeat' first|apply qn|apply qr|refine qe ?_|fail);refine⟨?_⟩;refine AWP.seq ?_;refine AWP.arrCopy rfl rfl rfl rfl rfl rfl rfl rfl rfl rfl rfl rfl rfl rfl rfl rfl rfl rfl rfl rfl rfl rfl rfl (by intro h; cases h) (fun _=>rfl) (fun _=>rfl) (by omega) (FI e he) ?_;refine AWP.seq ?_;(repeat' first|refine qv ?_|apply qr);refine Fl.lookup (v:=aX (getM (expK e he) xs)) rfl rfl rfl rfl rfl rfl key_law (expK e he) (AA _) rfl ?_ (fun _=>rfl) rfl rfl ?_
  ·revert hle; generalize Am (expK e he) xs 0=r; cases r<;>exact id
  (repeat' first|refine qv ?_|fail);refine qc (xAdd_ret _ _ hg hc hfit) ?_;refine Fl.mupd rfl rfl rfl rfl key_law (expK e he) (AA _) rfl (getM (expK e he) xs+c) (AA _) rfl rfl rfl ?_;(repeat' first|refine qv ?_|refine Fl.nil (fun _=>by kernel_rfl) ?_|apply qs|apply qr);refine Fl.lookup (v:=aX (getM (expK e he) xs+c)) rfl rfl rfl rfl rfl rfl key_law (expK e he) (AA _) rfl ?_ (fun _=>rfl) rfl rfl ?_
  ·obtain⟨j,p,h1,h2⟩:=findM_put (expK e he) (getM (expK e he) xs+c) clock xs;rw[h1];exact AP (by rw[h2])
  skip;refine qc (ZeroX_ok _) ?_;(repeat' first|refine qv ?_|refine Fl.nil (fun _=>by kernel_rfl) ?_|apply qr|(refine AD rfl ?_ ?_<;>intro _<;>try(exfalso; omega))|apply qk)
  ·rename_i h0;refine Fl.mdel rfl rfl rfl rfl key_law (expK e he) (AA _) rfl rfl rfl ?_;(repeat' first|refine Fl.nil (fun _=>by kernel_rfl) ?_|fail);refine⟨⟨[],_,_,AM _ _ _,rfl,AA _,rfl,⟨⟨⟨_,rfl,BLe.cells (AB _)⟩,rfl⟩,⟨⟨_,rfl,BLe.map ?_ rfl⟩,rfl⟩,trivial⟩,rfl,rfl⟩⟩;unfold setM; rw[if_pos h0]
  ·rename_i h0;refine⟨⟨[],_,_,AM _ _ _,rfl,AA _,rfl,⟨⟨⟨_,rfl,BLe.cells (AB _)⟩,rfl⟩,⟨⟨_,rfl,BLe.map ?_ rfl⟩,rfl⟩,trivial⟩,rfl,rfl⟩⟩;unfold setM; rw[if_neg h0]
 ·obtain⟨rfl,rfl⟩:=hr2 hfit;refine AH Tryz.func213 rfl Tryz.ntmps213 rfl rfl rfl ?_;refine AE ?_;(repeat' first|apply qn|apply qr|refine qe ?_|fail);refine⟨?_⟩;refine AE ?_;(repeat' first|apply qn|apply qr|refine qe ?_|fail);refine⟨?_⟩;refine AWP.seq ?_;refine AWP.arrCopy rfl rfl rfl rfl rfl rfl rfl rfl rfl rfl rfl rfl rfl rfl rfl rfl rfl rfl rfl rfl rfl rfl rfl (by intro h; cases h) (fun _=>rfl) (fun _=>rfl) (by omega) (FI e he) ?_;refine AWP.seq ?_;(repeat' first|refine qv ?_|apply qr);refine Fl.lookup (v:=aX (getM (expK e he) xs)) rfl rfl rfl rfl rfl rfl key_law (expK e he) (AA _) rfl ?_ (fun _=>rfl) rfl rfl ?_
  ·revert hle; generalize Am (expK e he) xs 0=r; cases r<;>exact id
  (repeat' first|refine qv ?_|fail);exact A7 rfl [] (xAdd_thr _ _ hg hc hfit) rfl (AB _) rfl trivial rfl (fun _=>by kernel_rfl) (fun _=>rfl)
end Go.Proofs.YtmmfloplhopioaaGreat
/- (*sums).poly. -/
namespace Go.AL
structure MOk (V:Nat) (xs:List ME) (c:Nat):Prop where
  nd:(xs.map (·.2.2)).Nodup
  lt:∀p∈xs,p.2.2<c
  keys:xs.Pairwise fun a b=>a.1≠b.1
  fit:∀p∈xs,Fit p.2.1
  nz:∀p∈xs,p.2.1≠0
  exp:∀p∈xs,∃(e:List Int) (he:e.length≤32),p.1=expK e he∧e.length=V∧EOk e
def tmM (V:Nat) (p:ME):TZ:=⟨zOf p.2.1,p.1.1.take V⟩
theorem tmM_exp {V:Nat} {p:ME} {e:List Int} {he:e.length≤32} (h:p.1=expK e he) (hl:e.length=V):(tmM V p).e=e:=by
 show p.1.1.take V=e;rw[h];show(e++List.replicate (32-e.length) 0).take V=e;rw[←hl]; simp
theorem MOk.eok {V:Nat} {xs:List ME} {c:Nat} (m:MOk V xs c):∀t∈xs.map (tmM V),EOk t.e∧t.e.length=V:=by
 intro t ht;obtain⟨p,hp,rfl⟩:=List.mem_map.1 ht;obtain⟨e,he,h1,h2,h3⟩:=m.exp p hp;rw[tmM_exp h1 h2]; exact⟨h3,h2⟩
theorem MOk.parts {V:Nat} {xs:List ME} {c:Nat} (m:MOk V xs c):(xs.map (tmM V)).Pairwise fun a b=>a.e≠b.e:=by
 rw[List.pairwise_map];refine m.keys.imp_of_mem fun {a b} ha hb hne h=>hne ?_;obtain⟨e,he,h1,h2,h3⟩:=m.exp a ha;obtain⟨e', he', h1', h2', h3'⟩:=m.exp b hb;rw[tmM_exp h1 h2,tmM_exp h1' h2']at h;subst h;rw[h1,h1']
theorem keyC_take (k:Key) (V:Nat):(keyC k).take V=(k.1.take V).flatMap eI:=by
 rw[keyC_eq,←List.map_take]
 induction k.1.take V with
 | nil=>rfl
 | cons x l ih=>simp only[List.map_cons,ih,List.flatMap_cons]; rfl
theorem seen_perm:∀(ys xs:List ME),(xs.map (·.2.2)).Nodup→(ys.map (·.2.2)).Nodup→(∀p∈ys,p∈xs)→ys.length≤xs.length∧((∀p∈xs,p.2.2∈ys.map (·.2.2))→ys.Perm xs)
 | [],xs,_,_,_=>⟨Nat.zero_le _,fun h=>by
  cases xs with
  | nil=>exact List.Perm.nil
  | cons p xs=>have:=h p (by simp); simp at this⟩
 | p::ys,xs,hx,hy,hsub=>by
  obtain⟨A,B,rfl⟩:=List.append_of_mem (hsub p (by simp));have hm:(A++p::B).Perm (p::(A++B)):=List.perm_middle;have hx2:((p::(A++B)).map (·.2.2)).Nodup:=(hm.map _).nodup_iff.1 hx;rw[List.map_cons,List.nodup_cons]at hx2 hy
  have ih:=seen_perm ys (A++B) hx2.2 hy.2 fun q hq=>by
   have h1:=hm.mem_iff.1 (hsub q (by simp[hq]));rcases List.mem_cons.1 h1 with h1|h1
   ·subst h1; exact absurd (List.mem_map.2 ⟨q,hq,rfl⟩) hy.1
   ·exact h1
  refine⟨by have:=ih.1; simp at this ⊢; omega,fun hall=>((ih.2 fun q hq=>?_).cons p).trans hm.symm⟩;have h1:=hall q (hm.mem_iff.2 (by simp[List.mem_append.1 hq]));rw[List.map_cons,List.mem_cons]at h1;rcases h1 with h1|h1
  ·exact absurd (List.mem_map.2 ⟨q,hq,h1⟩) hx2.1
  ·exact h1
theorem sortT_perm_eq {xs ys:List TZ} (hnd:xs.Pairwise fun a b=>a.e≠b.e) (hp:ys.Perm xs):Bj ys=Bj xs:=
 sortT_unique hnd ((CD ys).trans hp) (Ev ys)
end Go.AL
namespace Go.Proofs.YtmmfloplhopioaaGreat
open Go.AL
set_option maxHeartbeats 1000000 in
theorem sPoly_io (V:Nat) (xs:List ME) (clock:Nat) (m:MOk V xs clock) (hV:V≤32) (hl:xs.length≤1000000000) (res:Res) (bx':List (AL.Id×Bx))
  (hr1:OkP ⟨V,Bj (xs.map (tmM V))⟩→res = .ret (aP ⟨V,Bj (xs.map (tmM V))⟩)∧bx'=smB V xs clock)
  (hr2:¬OkP ⟨V,Bj (xs.map (tmM V))⟩→res = .thr (BT 4)∧bx'=smB V xs clock) :
  IoFn Tryz.prog 215 [.ptr 900 0] (smB V xs clock) res bx':=by
 have hb':bx'=smB V xs clock:=(Classical.em (OkP ⟨V,Bj (xs.map (tmM V))⟩)).elim (fun h=>(hr1 h).2) (fun h=>(hr2 h).2);subst hb';refine AH Tryz.func215 rfl Tryz.ntmps215 rfl rfl rfl ?_;refine AE ?_;(repeat' first|apply qn|apply qr|refine qe ?_|fail);refine⟨?_⟩;refine AE ?_;(repeat' first|refine qv ?_|apply qn|apply qr|refine qe ?_|fail);refine⟨?_⟩;refine AY (Bc 3 1 703 rfl rfl rfl 3 eT 158) ?_;refine AWP.seq ?_;refine AWP.seq ?_;(repeat' first|refine qv ?_|apply qr);refine Fl.range rfl rfl rfl rfl rfl rfl rfl rfl ?_;(repeat' first|apply qn|apply qb);refine AWP.loop (G:=List ME) (fun ys=>(ys.map (·.2.2)).Nodup∧∀p∈ys,p∈xs) (fun ys=>AO [900,901] [(0,.ptr 900 0),(2,.ptr 2 0),(3,.ptr 3 0),(15,.ptr 15 0)] [(900,.cells [aN V,.mp 901] 249),(901,bM xs clock),(2,.cells [aN 0,.v (.slice none 0 0)] 105),(3,.cells [aN V,.row 700] 105),(700,.row 3 eT (ys.map (tmM V)) 158),(15,.iter 901 clock (ys.map (·.2.2)) clock)]) (fun ys=>xs.length-ys.length) [] ⟨by simp,by simp⟩ ?_ ?_
 ·refine Ent.of [(700,703)] ?_ ?_ rfl rfl;(repeat' first|exact True.intro|refine⟨⟨AA _,rfl⟩,?_⟩|refine⟨⟨⟨_,rfl,BLe.cells (AB _)⟩,rfl⟩,?_⟩|refine⟨⟨⟨_,rfl,BLe.row rfl⟩,rfl⟩,?_⟩|refine⟨⟨⟨_,rfl,BLe.map rfl rfl⟩,rfl⟩,?_⟩|refine⟨⟨⟨_,rfl,BLe.iter rfl rfl rfl rfl⟩,rfl⟩,?_⟩|fail)
 ·intro ys ⟨k0,k1⟩;obtain⟨q1,q2⟩:=seen_perm ys xs m.nd k0 k1;refine AWP.seq ?_;refine AWP.next rfl rfl rfl rfl rfl rfl rfl rfl rfl rfl rfl m.lt (fun hall=>?_) (fun p hp hps=>?_)
  ·have hperm:=(q2 hall).map (tmM V);have hse:=sortT_perm_eq m.parts hperm;have hl2:=q1;(repeat' first|refine qv ?_|apply qs|apply qr|refine AF rfl ?_|apply qx);refine A9 rfl [(900,700)] (sort_ok V (by omega) (ys.map (tmM V)) (fun t ht=>m.eok t (hperm.mem_iff.1 ht)) ((List.Perm.pairwise_iff (fun h=>Ne.symm h) hperm).2 m.parts) (by simp; omega) _) rfl rfl (AB _) rfl ⟨⟨⟨_,rfl,BLe.row rfl⟩,rfl⟩,trivial⟩ rfl rfl rfl rfl rfl ?_;refine Fl.nilF ?_;rw[hse];refine AY (Ent.freeze 700 rfl) ?_;(repeat' first|refine qv ?_|apply qs|apply qr)
   have hW:WP ⟨V,Bj (xs.map (tmM V))⟩:=by
    intro t ht;obtain⟨p,hp,rfl⟩:=List.mem_map.1 ((CD _).mem_iff.1 ht);exact Ag _
   by_cases hok:OkP ⟨V,Bj (xs.map (tmM V))⟩
   ·obtain⟨rfl,_⟩:=hr1 hok;refine qc (CZ ⟨V,Bj (xs.map (tmM V))⟩ hW true (by simp[hok])) ?_;(repeat' first|refine qv ?_|apply qn|apply qs|apply qr|refine qe ?_|refine AF rfl ?_|apply qk|apply qt);exact⟨⟨[],_,_,AM _ _ _,rfl,AA _,rfl,⟨⟨⟨_,rfl,BLe.cells (AB _)⟩,rfl⟩,⟨⟨_,rfl,BLe.map rfl rfl⟩,rfl⟩,trivial⟩,rfl,rfl⟩⟩
   ·obtain⟨rfl,_⟩:=hr2 hok;refine qc (CZ ⟨V,Bj (xs.map (tmM V))⟩ hW false (by simp[hok])) ?_;(repeat' first|refine qv ?_|apply qn|apply qr|refine AJ rfl ?_);exact A7 rfl [] (Throw_ok 4) rfl (AB _) rfl trivial rfl (fun _=>by kernel_rfl) (fun _=>rfl)
  ·obtain⟨e,he,hpe,hel,heo⟩:=m.exp p hp;have h32:=p.1.2
   have htl:(p.1.1.take V).length=V:=by rw[List.length_take]; omega
   have hlt:ys.length<xs.length:=by
    have:=(seen_perm (ys++[p]) xs m.nd (by rw[List.map_append,List.nodup_append]; exact⟨k0,by simp,fun a ha b hb=>by simp at hb; subst hb; exact fun e=>hps (e▸ha)⟩) (fun q hq=>by rcases List.mem_append.1 hq with h|h; exact k1 q h; simp at h; exact h▸hp)).1;simp at this; omega
   refine AE ?_;(repeat' first|refine AJ rfl ?_|apply qk);refine⟨?_⟩;refine AWP.block ?_;refine AE ?_;(repeat' first|apply qr);refine Fl.entry rfl rfl rfl rfl key_law.back (fun _=>rfl) hp rfl m.nd rfl rfl ?_;(repeat' first|refine qv ?_|apply qn|refine qe ?_|fail);refine⟨?_⟩;refine AY (Ent.freezeC 4 4 rfl rfl rfl rfl) ?_;(repeat' first|refine qv ?_|apply qr);refine Fl.cutArr rfl rfl rfl rfl rfl rfl rfl rfl rfl (by omega) (by omega) (keyC_take p.1 V) (by omega) (fun _=>rfl) rfl rfl ?_;refine qc (cloneI_ok (p.1.1.take V) (by omega)) ?_;(repeat' first|refine qe ?_|fail);refine ql eT [tmM V p] ?_;refine qa (hby:=(by dsimp only[List.length_nil,List.length_cons]; simp; omega)) (hm:=(by simp; omega)) (r:=?_);(repeat' first|refine qv ?_|refine Fl.nil (fun _=>by kernel_rfl) ?_|refine qe ?_|fail);refine LoopEnd.of (ys++[p]) ⟨?_,?_⟩ (by simp; omega) ?_
   ·rw[List.map_append,List.nodup_append]; exact⟨k0,by simp,fun a ha b hb=>by simp at hb; subst hb; exact fun e=>hps (e▸ha)⟩
   ·intro q hq;rcases List.mem_append.1 hq with h|h
    ·exact k1 q h
    ·simp at h; exact h▸hp
   ·refine Ent.of [(700,32)] ?_ ?_ rfl rfl;(repeat' first|exact True.intro|refine⟨⟨AA _,rfl⟩,?_⟩|refine⟨⟨⟨_,rfl,BLe.cells (AB _)⟩,rfl⟩,?_⟩|refine⟨⟨⟨_,rfl,BLe.map rfl rfl⟩,rfl⟩,?_⟩|refine⟨⟨⟨_,rfl,BLe.iter rfl rfl ?_ rfl⟩,rfl⟩,?_⟩|refine⟨⟨⟨_,rfl,BLe.row ?_⟩,rfl⟩,?_⟩|fail)
    all_goals simp
end Go.Proofs.YtmmfloplhopioaaGreat
/- Sums of terms, az the map collects them. -/
namespace Go.AL
theorem FH {k:Key}:∀ {xs:List ME} {i:Nat},Am k xs i=none→∀q∈xs,q.1≠k
 | [],_,_,q,hq=>by cases hq
 | p::xs,i,h,q,hq=>by
  unfold Am at h;split at h
  ·cases h
  ·rename_i hk;rcases List.mem_cons.1 hq with rfl|hq
   ·exact fun e=>hk e.symm
   ·exact FH h q hq
theorem findM_miss {k:Key}:∀ {xs:List ME} (i:Nat),(∀q∈xs,q.1≠k)→Am k xs i=none
 | [],_,_=>rfl
 | p::xs,i,h=>by
  unfold Am;rw[if_neg (fun e=>h p (by simp) e.symm)];exact findM_miss (i+1) fun q hq=>h q (by simp[hq])
theorem findM_split {k:Key}:∀ {xs:List ME} {i j:Nat} {p:ME},Am k xs i=some (j,p)→∃A B,xs=A++p::B∧A.length+i=j∧p.1=k∧∀q∈A,q.1≠k
 | [],_,_,_,h=>by simp[Am]at h
 | q::xs,i,j,p,h=>by
  unfold Am at h;split at h
  ·rename_i hk;injection h with h; injection h with h1 h2; subst h1 h2;exact⟨[],xs,rfl,by simp,hk.symm,by simp⟩
  ·rename_i hk;obtain⟨A,B,h1,h2,h3,h4⟩:=findM_split h;refine⟨q::A,B,by rw[h1]; rfl,by simp; omega,h3,fun r hr=>?_⟩;rcases List.mem_cons.1 hr with rfl|hr
   ·exact fun e=>hk e.symm
   ·exact h4 r hr
theorem findM_hit {k:Key} {p:ME} (hk:p.1=k):∀ {A B:List ME} (i:Nat),(∀q∈A,q.1≠k)→Am k (A++p::B) i=some (A.length+i,p)
 | [],B,i,_=>by simp[Am,hk]
 | q::A,B,i,h=>by
  rw[List.cons_append];unfold Am;rw[if_neg (fun e=>h q (by simp) e.symm),findM_hit hk (i+1) fun r hr=>h r (by simp[hr])];simp only[List.length_cons];congr 2; omega
theorem Ex (k:Key) (y:Int) (c:Nat) (xs:List ME) :
  (Am k xs 0=none∧putC k c xs=c+1∧((y=0∧setM k y c xs=xs)∨(y≠0∧setM k y c xs=xs++[(k,y,c)]))) ∨
  (∃A p B,Am k xs 0=some (A.length,p)∧xs=A++p::B∧p.1=k∧(∀q∈A,q.1≠k)∧putC k c xs=c∧((y=0∧setM k y c xs=A++B)∨(y≠0∧setM k y c xs=A++(k,y,p.2.2)::B))):=by
 cases hf:Am k xs 0 with
 | none=>
  left;refine⟨rfl,by unfold putC; rw[hf],?_⟩
  have hp:putM k y c xs=xs++[(k,y,c)]:=by unfold putM; rw[hf]
  by_cases hy:y=0
  ·left;refine⟨hy,?_⟩;unfold setM;have hh:=findM_hit (k:=k) (p:=(k,y,c)) rfl (A:=xs) (B:=[]) 0 (FH hf);rw[if_pos hy,hp];unfold delM;rw[hh];simp only[Nat.add_zero];rw[List.eraseIdx_append_of_length_le (Nat.le_refl _)];simp
  ·right; exact⟨hy,by unfold setM; rw[if_neg hy,hp]⟩
 | some q=>
  obtain⟨j,p⟩:=q;obtain⟨A,B,h1,h2,h3,h4⟩:=findM_split hf
  have h2:A.length=j:=by omega
  subst h2;right;refine⟨A,p,B,rfl,h1,h3,h4,by unfold putC; rw[hf],?_⟩
  have hp:putM k y c xs=A++(k,y,p.2.2)::B:=by unfold putM; rw[hf,h1]; simp
  by_cases hy:y=0
  ·left;refine⟨hy,?_⟩;unfold setM;have hh:=findM_hit (k:=k) (p:=(k,y,p.2.2)) rfl (A:=A) (B:=B) 0 h4;rw[if_pos hy,hp];unfold delM;rw[hh];simp only[Nat.add_zero];rw[List.eraseIdx_append_of_length_le (Nat.le_refl _)];simp
  ·right; exact⟨hy,by unfold setM; rw[if_neg hy,hp]⟩
def exK (e:List Int):Key:=if h:e.length≤32 then expK e h else⟨List.replicate 32 0,by simp⟩
theorem Db {e:List Int} (h:e.length≤32):exK e=expK e h:=dif_pos h
abbrev UT:=Int×List Int
abbrev MS:=List ME×Nat
def Ce (s:MS) (u:UT):MS:=(setM (exK u.2) (getM (exK u.2) s.1+u.1) s.2 s.1,putC (exK u.2) s.2 s.1)
noncomputable def runM:List UT→MS→Option MS
  | [],s=>some s
  | u::us,s => @ite _ (Fit (getM (exK u.2) s.1+u.1)) (Classical.propDecidable _) (runM us (Ce s u)) none
theorem B9:∀(a b:List UT) (s:MS),runM (a++b) s=(runM a s).bind (runM b)
 | [],b,s=>rfl
 | u::a,b,s=>by
  rw[List.cons_append];unfold runM;split
  ·exact B9 a b _
  ·rfl
theorem runM_snoc {a:List UT} {u:UT} {s s':MS} (h:runM a s=some s') (hf:Fit (getM (exK u.2) s'.1+u.1)):runM (a++[u]) s=some (Ce s' u):=by
 rw[B9,h];simp[runM,hf]
theorem runM_stop {a b:List UT} {u:UT} {s s':MS} (h:runM a s=some s') (hf:¬Fit (getM (exK u.2) s'.1+u.1)):runM (a++u::b) s=none:=by
 rw[B9,h];simp[runM,hf]
def UOk (V:Nat) (us:List UT):Prop:=∀u∈us,u.2.length=V∧EOk u.2
theorem MOk.step {V:Nat} {xs:List ME} {c:Nat} (m:MOk V xs c) (hV:V≤32) {a:Int} {e:List Int} (hl:e.length=V) (he:EOk e) (hf:Fit (getM (exK e) xs+a)):MOk V (Ce (xs,c) (a,e)).1 (Ce (xs,c) (a,e)).2:=by
 have h32:e.length≤32:=by omega
 show MOk V (setM (exK e) (getM (exK e) xs+a) c xs) (putC (exK e) c xs);have hexp:∀(p:ME),p.1=exK e→∃(e:List Int) (he:e.length≤32),p.1=expK e he∧e.length=V∧EOk e:=fun p hp=>⟨e,h32,by rw[hp,Db h32],hl,he⟩;rcases Ex (exK e) (getM (exK e) xs+a) c xs with⟨h1,h2,h3⟩|⟨A,p,B,h1,h2,h3,h4,h5,h6⟩
 ·rw[h2];rcases h3 with⟨_,h3⟩|⟨hy,h3⟩
  ·rw[h3];exact⟨m.nd,fun p hp=>Nat.lt_succ_of_lt (m.lt p hp),m.keys,m.fit,m.nz,m.exp⟩
  ·rw[h3]
   have hm:∀ {Q:ME→Prop},(∀p∈xs,Q p)→Q (exK e,getM (exK e) xs+a,c)→∀p∈xs++[(exK e,getM (exK e) xs+a,c)],Q p:=fun hq h p hp=>by
    rcases List.mem_append.1 hp with hp|hp
    ·exact hq p hp
    ·simp at hp; subst hp; exact h
   refine⟨?_,hm (fun p hp=>Nat.lt_succ_of_lt (m.lt p hp)) (Nat.lt_succ_self c),?_,hm m.fit hf,hm m.nz hy,hm m.exp (hexp _ rfl)⟩
   ·rw[List.map_append,List.nodup_append];refine⟨m.nd,by simp,fun x hx y hy'=>?_⟩;obtain⟨p,hp,rfl⟩:=List.mem_map.1 hx;simp at hy'; subst hy';have:=m.lt p hp; omega
   ·rw[List.pairwise_append];refine⟨m.keys,by simp,fun x hx y hy'=>?_⟩;simp at hy'; subst hy';exact FH h1 x hx
 ·rw [h5];subst h2;rcases h6 with⟨_,h6⟩|⟨hy,h6⟩
  ·rw[h6];have hsub:(A++B).Sublist (A++p::B):=List.Sublist.append_left (List.sublist_cons_self p B) A;have hm:∀q∈A++B,q∈A++p::B:=fun q hq=>hsub.mem hq;exact⟨(hsub.map _).nodup m.nd,fun q hq=>m.lt q (hm q hq),m.keys.sublist hsub,fun q hq=>m.fit q (hm q hq),fun q hq=>m.nz q (hm q hq),fun q hq=>m.exp q (hm q hq)⟩
  ·rw[h6]
   have hm:∀ {Q:ME→Prop},(∀q∈A++p::B,Q q)→Q (exK e,getM (exK e) (A++p::B)+a,p.2.2)→∀q∈A++(exK e,getM (exK e) (A++p::B)+a,p.2.2)::B,Q q:=fun hq h q hq'=>by
    rcases List.mem_append.1 hq' with hq'|hq'
    ·exact hq q (by simp[hq'])
    ·rcases List.mem_cons.1 hq' with rfl|hq'
     ·exact h
     ·exact hq q (by simp[hq'])
   refine⟨by have:=m.nd; simpa using this,hm m.lt (m.lt p (by simp)),?_,hm m.fit hf,hm m.nz hy,hm m.exp (hexp _ rfl)⟩;have hk:=m.keys;rw[List.pairwise_append,List.pairwise_cons]at hk ⊢;obtain⟨k1,⟨k2,k3⟩,k4⟩:=hk;rw[h3]at k2
   exact⟨k1,⟨k2,k3⟩,fun x hx y hy'=>by
    rcases List.mem_cons.1 hy' with rfl|hy'
    ·exact h4 x hx
    ·exact k4 x hx y (by simp[hy'])⟩
theorem Ey {V:Nat} (hV:V≤32):∀ {us:List UT} {xs:List ME} {c:Nat} {s':MS},MOk V xs c→UOk V us→runM us (xs,c)=some s'→MOk V s'.1 s'.2∧s'.1.length≤xs.length+us.length
 | [],xs,c,s', m,_,h=>by
  simp only[runM]at h; injection h with h; subst h; exact⟨m,by simp⟩
 | (a,e)::us,xs,c,s', m,hu,h=>by
  unfold runM at h;split at h
  ·rename_i hf;have hu1:=hu (a,e) (by simp);have hs:=m.step hV hu1.1 hu1.2 hf
   have hlen:(Ce (xs,c) (a,e)).1.length≤xs.length+1:=by
    show(setM (exK e) (getM (exK e) xs+a) c xs).length≤_;rcases Ex (exK e) (getM (exK e) xs+a) c xs with⟨h1,h2,h3⟩|⟨A,p,B,h1,h2,h3,h4,h5,h6⟩
    ·rcases h3 with⟨_,h3⟩|⟨_,h3⟩<;>rw[h3]<;>simp
    ·rcases h6 with⟨_,h6⟩|⟨_,h6⟩<;>rw[h6,h2]<;>simp<;>omega
   have:=Ey hV (xs:=(Ce (xs,c) (a,e)).1) (c:=(Ce (xs,c) (a,e)).2) hs (fun u hu'=>hu u (by simp[hu'])) h;refine⟨this.1,?_⟩;have h2:=this.2;simp only[List.length_cons]; omega
  ·cases h
theorem MOk.nil (V:Nat):MOk V [] 0:=⟨by simp,by simp,by simp,by simp,by simp,by simp⟩
end Go.AL
/- poly.plus. -/
namespace Go.AL
abbrev u1 (t:TZ):UT:=(zval t.c,t.e)
abbrev u2 (b:Int) (t:TZ):UT:=(zval t.c*b,t.e)
def B6 (b:Int) (p q:PZ):List UT:=p.terms.map u1++q.terms.map (u2 b)
def SumOk (V:Nat) (us:List UT) (r:PZ):Prop:=∃s,runM us ([],0)=some s∧r=⟨V,Bj (s.1.map (tmM V))⟩∧OkP r
theorem OkP.uok {p:PZ} {V:Nat} (hp:OkP p) (hV:p.vars=V) {t:TZ} (ht:t∈p.terms):t.e.length=V∧EOk t.e:=by
 have:=hp.terms t ht;have h2:=this.len;exact⟨by omega,this.exps⟩
theorem ER {α β:Type} (f:α→β) {l:List α} {i:Nat} {x:α} (h:l[i]? = some x):(l.map f).take (i+1)=(l.map f).take i++[f x]:=Ab (by rw[List.getElem?_map,h]; rfl)
theorem map_split {α β:Type} (f:α→β) {l:List α} {i:Nat} {x:α} (h:l[i]? = some x):l.map f=(l.map f).take i++f x::(l.map f).drop (i+1):=by
 have hi:=(List.getElem?_eq_some_iff.1 h).1
 have h2:(l.map f)[i]'(by simpa using hi)=f x:=by
  have:=(List.getElem?_eq_some_iff.1 h).2;rw[List.getElem_map,this]
 rw[←h2,List.getElem_cons_drop,List.take_append_drop]
end Go.AL
namespace Go.Proofs.YtmmfloplhopioaaGreat
open Go.AL
theorem sAdd_ret (V:Nat) (hV:V≤32) (s:MS) (m:MOk V s.1 s.2) (u:UT) (hc:Fit u.1) (he:u.2.length=V) (hf:Fit (getM (exK u.2) s.1+u.1)) :
  IoFn Tryz.prog 213 [.ptr 900 0,aX u.1,aI u.2] (smB V s.1 s.2) (.ret (.tup [])) (smB V (Ce s u).1 (Ce s u).2):=by
 have h32:u.2.length≤32:=by omega
 rw[Db h32]at hf;exact sAdd_io V s.1 s.2 u.1 u.2 hc m.fit h32 _ _ (fun _=>⟨rfl,by simp only[Ce,Db h32]⟩) (fun h=>absurd hf h)
theorem sAdd_thr (V:Nat) (hV:V≤32) (s:MS) (m:MOk V s.1 s.2) (u:UT) (hc:Fit u.1) (he:u.2.length=V) (hf:¬Fit (getM (exK u.2) s.1+u.1)) :
  IoFn Tryz.prog 213 [.ptr 900 0,aX u.1,aI u.2] (smB V s.1 s.2) (.thr (BT 4)) (smB V s.1 s.2):=by
 have h32:u.2.length≤32:=by omega
 rw[Db h32]at hf;exact sAdd_io V s.1 s.2 u.1 u.2 hc m.fit h32 _ _ (fun h=>absurd h hf) (fun _=>⟨rfl,rfl⟩)
set_option maxHeartbeats 1000000 in
theorem plus_io (V:Nat) (hV:V≤32) (p q:PZ) (b:Int) (hb:Fit b) (hwp:WP p) (hwq:WP q) (hp:OkP p) (hq:OkP q) (hpv:p.vars=V) (hqv:q.vars=V) (hmul:∀t∈q.terms,Fit (zval t.c*b)) (res:Res)
  (hr1:∀r,SumOk V (B6 b p q) r→res = .ret (aP r)) (hr2:(¬∃r,SumOk V (B6 b p q) r)→res = .thr (BT 4)) :
  IoFn Tryz.prog 193 [aP p,aP q,aX b] [] res []:=by
 have hfp:∀t∈p.terms,Fit (zval t.c)∧t.c=zOf (zval t.c):=fun t ht=>by
  have:=D3 (hwp t ht) (hp.terms t ht).coef; exact⟨this.2,this.1⟩
 have hfq:∀t∈q.terms,Fit (zval t.c)∧t.c=zOf (zval t.c):=fun t ht=>by
  have:=D3 (hwq t ht) (hq.terms t ht).coef; exact⟨this.2,this.1⟩
 have hup:UOk V (p.terms.map u1):=fun u hu=>by
  obtain⟨t,ht,rfl⟩:=List.mem_map.1 hu; exact hp.uok hpv ht
 have huq:UOk V (q.terms.map (u2 b)):=fun u hu=>by
  obtain⟨t,ht,rfl⟩:=List.mem_map.1 hu; exact hq.uok hqv ht
 have hplen:=hp.len;have hqlen:=hq.len;refine AH Tryz.func193 rfl Tryz.ntmps193 rfl rfl rfl ?_;(repeat' first|refine qv ?_|apply qn|apply qs|apply qr|refine qe ?_|fail);refine A9 rfl [(900,710),(901,711)] (empty_ok V) rfl rfl (LeL.cons (AV.Le.int hpv) LeL.nil) rfl trivial rfl rfl rfl rfl rfl ?_;(repeat' first|refine qv ?_|apply qn|apply qs|apply qr|apply qb);refine AWP.loop (G:=Nat×MS) (fun(i,s)=>i≤p.terms.length∧runM ((p.terms.map u1).take i) ([],0)=some s)
  (fun(i,s)=>AO [] [(3,.ptr 3 0),(4,.ptr 4 0),(5,.ptr 5 0),(6,.ptr 6 0),(7,.ptr 710 0),(16,.sl 3 eT p.terms),(17,aN p.terms.length),(18,aN i)] [(3,.cells (eP p) 105),(4,.cells (eP q) 105),(5,.cells (eX b) 48),(6,.cells [aN 0,.v (.slice none 0 0)] 105),(710,.cells [aN V,.mp 711] 249),(711,bM s.1 s.2)]) (fun(i,s)=>p.terms.length-i) (0,([],0)) ⟨by omega,by simp[runM]⟩ ?_ ?_
 ·refine Ent.of [] ?_ ?_ rfl rfl;(repeat' first|exact True.intro|refine⟨⟨AA _,rfl⟩,?_⟩|refine⟨⟨⟨_,rfl,BLe.cells (AB _)⟩,rfl⟩,?_⟩|refine⟨⟨⟨_,rfl,BLe.map rfl rfl⟩,rfl⟩,?_⟩|fail)
 ·intro⟨i,s⟩ ⟨k0,k1⟩;have hm:=(Ey hV (MOk.nil V) (fun u hu=>hup u (List.mem_of_mem_take hu)) k1);by_cases hi:i<p.terms.length
  ·obtain⟨t,ht⟩:∃t,p.terms[i]? = some t:=⟨_,List.getElem?_eq_getElem hi⟩;have htm:=List.mem_of_getElem? ht;by_cases hf:Fit (getM (exK t.e) s.1+zval t.c)
   ·(repeat' first|refine qv ?_|apply qn|apply qs|apply qr|refine qe ?_|(refine AD rfl ?_ ?_<;>intro _<;>try(exfalso; omega))|apply qb|apply qk|refine qK ?_|fail);refine A9 rfl [(900,710),(901,711)] (sAdd_ret V hV s hm.1 (u1 t) (hfp t htm).1 (hp.uok hpv htm).1 hf) rfl rfl (LeL.cons (AA _) (LeL.cons (AV.Le.agg (leZ (hfp t htm).2)) (AB _))) rfl ⟨⟨⟨_,rfl,BLe.cells (AB _)⟩,rfl⟩,⟨⟨_,rfl,BLe.map rfl rfl⟩,rfl⟩,trivial⟩ rfl rfl rfl rfl rfl ?_;(repeat' first|refine qv ?_|apply qn|apply qr|refine qw ?_|fail);refine LoopEnd.of (i+1,Ce s (u1 t)) ⟨by omega,by rw[ER u1 ht]; exact runM_snoc k1 hf⟩ (by simp only; omega) ?_;refine Ent.of [] ?_ ?_ rfl rfl;(repeat' first|exact True.intro|refine⟨⟨AA _,rfl⟩,?_⟩|refine⟨⟨⟨_,rfl,BLe.cells (AB _)⟩,rfl⟩,?_⟩|refine⟨⟨⟨_,rfl,BLe.map rfl rfl⟩,rfl⟩,?_⟩|fail)
   ·have e1:=hr2 (by
     rintro⟨r,s', h1,_⟩;have:=runM_stop (u:=u1 t) (b:=(p.terms.map u1).drop (i+1)) k1 hf;rw[show(p.terms.map u1).take i++(zval t.c,t.e)::(p.terms.map u1).drop (i+1)=p.terms.map u1 from(map_split u1 ht).symm]at this;unfold B6 at h1;rw[B9,this]at h1
     cases h1)
    subst e1;(repeat' first|refine qv ?_|apply qn|apply qs|apply qr|refine qe ?_|(refine AD rfl ?_ ?_<;>intro _<;>try(exfalso; omega))|apply qb|apply qk|refine qK ?_|fail);exact A7 rfl [(900,710),(901,711)] (sAdd_thr V hV s hm.1 (u1 t) (hfp t htm).1 (hp.uok hpv htm).1 hf) rfl (LeL.cons (AA _) (LeL.cons (AV.Le.agg (leZ (hfp t htm).2)) (AB _))) rfl ⟨⟨⟨_,rfl,BLe.cells (AB _)⟩,rfl⟩,⟨⟨_,rfl,BLe.map rfl rfl⟩,rfl⟩,trivial⟩ rfl (fun _=>by kernel_rfl) (fun _=>rfl)
  ·have hti:(p.terms.map u1).take i=p.terms.map u1:=List.take_of_length_le (by simp; omega);rw[hti]at k1;clear hti hm;(repeat' first|refine qv ?_|apply qn|apply qs|apply qr|(refine AD rfl ?_ ?_<;>intro _<;>try(exfalso; omega))|apply qb|apply qx);rename_i hi9; clear hi hi9 k0;refine AWP.loop (G:=Nat×MS) (fun(i,s')=>i≤q.terms.length∧runM ((q.terms.map (u2 b)).take i) s=some s')
    (fun(i,s')=>AO [] [(3,.ptr 3 0),(4,.ptr 4 0),(5,.ptr 5 0),(6,.ptr 6 0),(7,.ptr 710 0),(30,.sl 3 eT q.terms),(31,aN q.terms.length),(32,aN i)] [(3,.cells (eP p) 105),(4,.cells (eP q) 105),(5,.cells (eX b) 48),(6,.cells [aN 0,.v (.slice none 0 0)] 105),(710,.cells [aN V,.mp 711] 249),(711,bM s'.1 s'.2)]) (fun(i,s')=>q.terms.length-i) (0,s) ⟨by omega,by simp[runM]⟩ ?_ ?_
   ·refine Ent.of [] ?_ ?_ rfl rfl;(repeat' first|exact True.intro|refine⟨⟨AA _,rfl⟩,?_⟩|refine⟨⟨⟨_,rfl,BLe.cells (AB _)⟩,rfl⟩,?_⟩|refine⟨⟨⟨_,rfl,BLe.map rfl rfl⟩,rfl⟩,?_⟩|fail)
   ·have hm0:=Ey hV (MOk.nil V) hup k1;intro⟨i,s'⟩ ⟨k0,k2⟩;have hm:=(Ey hV hm0.1 (fun u hu=>huq u (List.mem_of_mem_take hu)) k2);by_cases hi:i<q.terms.length
    ·obtain⟨t,ht⟩:∃t,q.terms[i]? = some t:=⟨_,List.getElem?_eq_getElem hi⟩;have htm:=List.mem_of_getElem? ht;by_cases hf:Fit (getM (exK t.e) s'.1+zval t.c*b)
     ·(repeat' first|refine qv ?_|apply qn|apply qs|apply qr|refine qe ?_|(refine AD rfl ?_ ?_<;>intro _<;>try(exfalso; omega))|apply qb|apply qk|refine qK ?_|fail);refine Fl.call rfl (xMul_ret _ _ (hfq t htm).1 hb (hmul t htm)) rfl rfl rfl (LeL.cons (AV.Le.agg (leZ (σ:=[]) (hfq t htm).2)) (AB _)) ?_;(repeat' first|refine qv ?_|fail);refine A9 rfl [(900,710),(901,711)] (sAdd_ret V hV s' hm.1 (u2 b t) (hmul t htm) (hq.uok hqv htm).1 hf) rfl rfl (AB _) rfl ⟨⟨⟨_,rfl,BLe.cells (AB _)⟩,rfl⟩,⟨⟨_,rfl,BLe.map rfl rfl⟩,rfl⟩,trivial⟩ rfl rfl rfl rfl rfl ?_;(repeat' first|refine qv ?_|apply qn|refine Fl.nil (fun _=>by kernel_rfl) ?_|apply qr|refine qw ?_|fail);refine LoopEnd.of (i+1,Ce s' (u2 b t)) ⟨by omega,by rw[ER (u2 b) ht]; exact runM_snoc k2 hf⟩ (by simp only; omega) ?_;refine Ent.of [] ?_ ?_ rfl rfl;(repeat' first|exact True.intro|refine⟨⟨AA _,rfl⟩,?_⟩|refine⟨⟨⟨_,rfl,BLe.cells (AB _)⟩,rfl⟩,?_⟩|refine⟨⟨⟨_,rfl,BLe.map rfl rfl⟩,rfl⟩,?_⟩|fail)
     ·have e1:=hr2 (by
       rintro⟨r,s2,h1,_⟩;have:=runM_stop (u:=u2 b t) (b:=(q.terms.map (u2 b)).drop (i+1)) k2 hf;rw[show(q.terms.map (u2 b)).take i++u2 b t::(q.terms.map (u2 b)).drop (i+1)=q.terms.map (u2 b) from(map_split (u2 b) ht).symm]at this;unfold B6 at h1;rw[B9,k1]at h1;change runM _ s=_ at h1;rw[this]at h1
       cases h1)
      subst e1;(repeat' first|refine qv ?_|apply qn|apply qs|apply qr|refine qe ?_|(refine AD rfl ?_ ?_<;>intro _<;>try(exfalso; omega))|apply qb|apply qk|refine qK ?_|fail);refine Fl.call rfl (xMul_ret _ _ (hfq t htm).1 hb (hmul t htm)) rfl rfl rfl (LeL.cons (AV.Le.agg (leZ (σ:=[]) (hfq t htm).2)) (AB _)) ?_;(repeat' first|refine qv ?_|fail);exact A7 rfl [(900,710),(901,711)] (sAdd_thr V hV s' hm.1 (u2 b t) (hmul t htm) (hq.uok hqv htm).1 hf) rfl (AB _) rfl ⟨⟨⟨_,rfl,BLe.cells (AB _)⟩,rfl⟩,⟨⟨_,rfl,BLe.map rfl rfl⟩,rfl⟩,trivial⟩ rfl (fun _=>by kernel_rfl) (fun _=>rfl)
    ·have hti:(q.terms.map (u2 b)).take i=q.terms.map (u2 b):=List.take_of_length_le (by simp; omega);rw[hti]at k2
     have hall:runM (B6 b p q) ([],0)=some s':=by
      unfold B6;rw[B9,k1];exact k2
     have hln:=(Ey hV (MOk.nil V) (us:=B6 b p q) (fun u hu=>(List.mem_append.1 hu).elim (hup u) (huq u)) hall).2
     have hlu:(B6 b p q).length=p.terms.length+q.terms.length:=by simp[B6]
     simp only[List.length_nil]at hln;by_cases hok:OkP ⟨V,Bj (s'.1.map (tmM V))⟩
     ·have e1:=hr1 _ ⟨s', hall,rfl,hok⟩;subst e1;(repeat' first|refine qv ?_|apply qn|apply qs|apply qr|(refine AD rfl ?_ ?_<;>intro _<;>try(exfalso; omega))|apply qx);refine A9 rfl [(900,710),(901,711)] (sPoly_io V s'.1 s'.2 hm.1 hV (by omega) _ _ (fun _=>⟨rfl,rfl⟩) (fun h=>absurd hok h)) rfl rfl (AB _) rfl ⟨⟨⟨_,rfl,BLe.cells (AB _)⟩,rfl⟩,⟨⟨_,rfl,BLe.map rfl rfl⟩,rfl⟩,trivial⟩ rfl rfl rfl rfl rfl ?_;(repeat' first|apply qn|refine qe ?_|apply qt);exact⟨⟨[],_,_,AM _ _ _,rfl,AA _,rfl,trivial,rfl,rfl⟩⟩
     ·have e1:=hr2 (by
       rintro⟨r,s2,h1,h2,h3⟩;rw[hall]at h1;injection h1 with h1;subst h1
       exact hok (h2▸h3))
      subst e1;(repeat' first|refine qv ?_|apply qn|apply qs|apply qr|(refine AD rfl ?_ ?_<;>intro _<;>try(exfalso; omega))|apply qx);exact A7 rfl [(900,710),(901,711)] (sPoly_io V s'.1 s'.2 hm.1 hV (by omega) _ _ (fun h=>absurd h hok) (fun _=>⟨rfl,rfl⟩)) rfl (AB _) rfl ⟨⟨⟨_,rfl,BLe.cells (AB _)⟩,rfl⟩,⟨⟨_,rfl,BLe.map rfl rfl⟩,rfl⟩,trivial⟩ rfl (fun _=>by kernel_rfl) (fun _=>rfl)
end Go.Proofs.YtmmfloplhopioaaGreat
/- The same of a row that is still written. -/
namespace Go.AL
open Go.ChangeMaps (setBlock)
section
variable {P:Program} {tab:Tab} {n:Nat} {s:St}
theorem AWP.arrCopyR [f:Facts P tab] {I:List Id} {Q:Exit→St→Prop} {id:Nat} {o1 o2 o3:Oper} {d1 d2 d3:Tmp} {t e t1 t2:TypeId} {x y:Operand} (h1:o1.op = .slice t x none none none) (g1:o1.guard=none) (e1:o1.dst=some d1) (l1:Nat.blt d1 n=true) (h2:o2.op = .move y) (g2:o2.guard=none) (e2:o2.dst=some d2) (l2:Nat.blt d2 n=true) (h3:o3.op = .call { callee := .builtin .copy,args:=⟨[.tmp d1,.tmp d2]⟩,argTypes:=⟨[t1,t2]⟩ }) (g3:o3.guard=none) (e3:o3.dst=some d3) (l3:Nat.blt d3 n=true) (hne:Nat.beq d1 d2=false)
  {N sz' by' sz2 by2:Nat} {z' z2:List Value} (hts:tab t=some ⟨.array N e,sz', by', z'⟩) (hts1:tab t1=some ⟨.slice e,sz2,by2,z2⟩) {i:TI} (hti:tab e=some i) (hi1:Nat.beq i.size 1=true) {b:Id} (hx:opd s x = .ptr b 0) {cs:List AV} {bt:TypeId} (hb:s.bx b=some (.cells cs bt)) (hN:Nat.beq cs.length N=true) (hNm:Nat.ble N 1000000=true) (hN0:Nat.blt 0 N=true) {α:Type} {enc:α→List AV} {ys:List α} {r2:Id} {bt2:TypeId} (hy:opd s y = .row r2) (hb2:s.bx r2=some (.row 1 enc ys bt2)) (hyd:y ≠ .tmp d1) (hone:∀y,BU (enc y)=true) (hel:∀y,(enc y).length=1) (hl:ys.length≤N) {cs':List AV} (hcs:ys.flatMap enc++cs.drop ys.length=cs')
  (q:Q .normal ((Eff.mk .any [(b,.cells cs' bt)] [] [] [b]).app (some d3) ((Eff.mk (.row r2) [] [] [] []).app (some d2) ((Eff.mk .any [] [] [] []).app (some d1) s)))):AWP P n I (.region id ⟨[o1,o2,o3]⟩ false) Q s:=by
 subst hcs;have hi1:=Nat.eq_of_beq_eq_true hi1;have hN:=Nat.eq_of_beq_eq_true hN;have hNm:=Nat.le_of_ble_eq_true hNm;have hN0:=ltOf hN0
 have hd12:d1≠d2:=fun e=>by rw[e,Nat.beq_refl]at hne; cases hne
 refine⟨fun C a w hp β hi k=>?_⟩;refine wp_region ?_;have hrg:List.range (Array.size ⟨[o1,o2,o3]⟩)=[0,1,2]:=rfl;rw[hrg];refine BR (ops:=⟨[o1,o2,o3]⟩) (i:=0) (o:=o1) rfl g1 ?_;have hxr:=AK k x;rw[hx]at hxr;simp only[Rep]at hxr;obtain⟨g,b1,b2⟩:=hxr;have hu:=(f.tabOk _ _ hts).und;simp only at hu;have hu1:=(f.tabOk _ _ hts1).und;simp only at hu1;have hd1:d1<n:=ltOf l1;have hd2:d2<n:=ltOf l2
 have hr1:(execOp a.eval o1).run P w = .ok (.value (.slice (some ⟨g,0,none⟩) N N)) w:=by
  have hN0':¬N=0:=by omega
  simp only[execOp,h1,b2,Option.map_none,Instr.sliceAt,Instr.sureAddr,Sem.run_bind,run_underlying hu,Result.andThen,Instr.sliceBounds,Sem.run_pure,BZ (f.tabOk _ _ hti),Nat.zero_mul,Addr.add,if_true,Nat.sub_zero,if_neg hN0']
 unfold Oper.wp;rw[hr1];simp only[Oper.upon,e1];have k1:=k.val (some d1) (fun t ht=>by injection ht with ht; subst ht; exact hd1) (v := .any) (u := .slice (some ⟨g,0,none⟩) N N) (by simp only[Rep]) [];refine BR (ops:=⟨[o1,o2,o3]⟩) (i:=1) (o:=o2) rfl g2 ?_
 have hys:opd ((Eff.mk AV.any [] [] [] []).app (some d1) s) y = .row r2:=by
  rw[←hy];refine opd_tmp fun t ht=>?_;simp only[Eff.app];exact Bi _ _ _ _ (fun h=>hyd (by injection h with h; rw[ht,h]))
 have hyr:=AK k1 y;rw[hys]at hyr
 have hr2:(execOp (a.put (some d1) (.slice (some ⟨g,0,none⟩) N N)).eval o2).run P w = .ok (.value ((a.put (some d1) (.slice (some ⟨g,0,none⟩) N N)).eval y)) w:=by
  simp only[execOp,h2,Sem.run_pure]
 unfold Oper.wp;rw[hr2];simp only[Oper.upon,e2];have k2:=k1.val (some d2) (fun t ht=>by injection ht with ht; subst ht; exact hd2) (v := .row r2) hyr [];generalize hyv:(a.put (some d1) (.slice (some ⟨g,0,none⟩) N N)).eval y=yv at hyr k2 ⊢;refine BR (ops:=⟨[o1,o2,o3]⟩) (i:=2) (o:=o3) rfl g3 ?_
 have hsz:d1<a.tmps.size∧d2<a.tmps.size:=by rw[k.size]; exact⟨hd1,hd2⟩
 have ev1:((a.put (some d1) (.slice (some ⟨g,0,none⟩) N N)).put (some d2) yv).eval (.tmp d1) = .slice (some ⟨g,0,none⟩) N N:=by
  simp[Act.eval,Act.put,Array.getElem?_setIfInBounds,hsz.1,Ne.symm hd12]
 have ev2:((a.put (some d1) (.slice (some ⟨g,0,none⟩) N N)).put (some d2) yv).eval (.tmp d2)=yv:=by
  simp[Act.eval,Act.put,hsz.2]
 have hb3:((Eff.mk (.row r2) [] [] [] []).app (some d2) ((Eff.mk AV.any [] [] [] []).app (some d1) s)).bx b=some (.cells cs bt):=hb;obtain⟨g', us,b3,hh,hr,hnone⟩:=k2.box b _ hb3;rw[b1]at b3; injection b3 with b3; injection b3 with b3; injection b3 with b3; injection b3 with b3; subst b3
 have hul:us.size=N:=by rw[←Array.length_toList,hr.length,hN]
 have his:(P.info? e).map (·.size)=some 1:=by
  obtain⟨inf,zv,i1,i2,_⟩:=(f.tabOk e i hti).info;rw[i1]; simp[i2,hi1]
 simp only[Rep]at hyr;obtain⟨v2,vals,e4,⟨hvl,hown⟩,hrv,hsz2,hno2⟩:=k2.box r2 _ (show _=some (.row 1 enc ys bt2) from hb2)
 have hyv2:yv=v2:=by
  have:=hyr.1;rw[e4]at this; injection this with this; exact this.symm
 obtain⟨B,cB,hv2,hcells⟩:∃B cB,yv = .slice B ys.length cB∧(ys≠[]→∃adB,B=some adB∧∀(j:Nat) (u:Value),vals[j]? = some u→w.cell? (adB.add j)=some u):=by
  rw[hyv2];rcases hown with⟨h1,h2⟩|⟨g2,cap,cur,h1,h2,h3,h4,h5,h6,h7⟩
  ·have hy0:ys=[]:=List.eq_nil_of_length_eq_zero h2;subst hy0;exact⟨none,0,h1,fun h=>absurd rfl h⟩
  ·refine⟨_,_,h1,fun _=>⟨_,rfl,fun j u hu=>?_⟩⟩
   have hadd:(⟨g2,0,none⟩:Addr).add j=⟨g2,j,none⟩:=by unfold Addr.add; split<;>simp_all
   rw[hadd];rw[←h7,List.getElem?_take]at hu;split at hu
   ·simp only[World.cell?,h3];rw[←Array.getElem?_toList]; simpa using hu
   ·cases hu
 subst hv2
 have key:∃(r:Int) (w':World) (us':Array Value),(Builtin.copy_ #[t1,t2] o3.type #[.slice (some ⟨g,0,none⟩) N N,.slice B ys.length cB]).run P w = .ok (goInt r) w'∧w'.os=w.os∧w'.tape=w.tape∧(w'.output=w.output∧w.drawn≤w'.drawn)∧w'.heap.size=w.heap.size ∧
   (∀j,j≠g→w'.heap[j]? = w.heap[j]?)∧w'.heap[g]? = some (.cells us' bt (0,0))∧RepL hp β (ys.flatMap enc++cs.drop ys.length) us'.toList:=by
  by_cases hy0:ys=[]
  ·subst hy0;exact⟨0,w,us,run_copy_none w t1 t2 o3.type e _ B N N 0 cB hu1 his (by simp[Nat.min_def]),rfl,rfl,⟨rfl,Nat.le_refl _⟩,rfl,fun _ _=>rfl,hh,by simpa using hr⟩
  ·have hyp:0<ys.length:=List.length_pos_iff.2 hy0;obtain⟨adB,eB,hcl⟩:=hcells hy0;subst eB;have hmn:Nat.min ys.length N=min ys.length N:=rfl
   have hnl:vals.length=Nat.min ys.length N:=by rw[hvl,hmn]; omega
   have hrun:=run_copy_row (P:=P) w t1 t2 o3.type e g 0 N N adB ys.length cB us bt vals hu1 his hh hnl (fun j u hu=>by
    exact hcl j u hu) (by rw[hnl,hmn]; omega) (flat_one hone _ vals hrv)
   refine⟨_,w.setRow g (us.toList.take 0++vals++us.toList.drop (0+vals.length)).toArray,_,hrun,rfl,rfl,⟨rfl,Nat.le_refl _⟩,by simp,fun j hj=>setRow_other w g j _ (fun q=>hj q),setRow_heap w g us _ bt _ hh,?_⟩;simp only[List.take_zero,List.nil_append,Nat.zero_add];rw[show vals.length=ys.length by rw[hnl,hmn]; omega];exact(hrv.mono (Ac _) (E6 β)).append (hr.drop _)
 obtain⟨r,w', us', hrun,q1,q2,q3,q4,q5,q6,q7⟩:=key
 have hex:(execOp ((a.put (some d1) (.slice (some ⟨g,0,none⟩) N N)).put (some d2) (.slice B ys.length cB)).eval o3).run P w = .ok (.value (goInt r)) w':=by
  simp only[execOp,h3,resolve,invoke,builtin,Sem.run_bind,Sem.run_pure,Result.andThen,List.map_toArray,List.map_cons,List.map_nil,ev1,ev2];rw[show(Builtin.copy_ { toList:=[t1,t2] } o3.type { toList:=[.slice (some ⟨g,0,none⟩) N N,.slice B ys.length cB] }).run P w = .ok (goInt r) w' from hrun]
 unfold Oper.wp;rw[hex];simp only[Oper.upon,e3,wpOps];exact⟨_,hp,β,k2.setbox (B' := .cells (ys.flatMap enc++cs.drop ys.length) bt) (w':=w') hb3 q1 q2 q3 q4 (fun j hj=>q5 j (fun q=>hj (by simp[b1,blk,q]))) ⟨g,us', b1,q6,q7,hnone⟩ ⟨g,by simp[b1,blk]⟩ (some d3) (fun t ht=>by injection ht with ht; subst ht; exact ltOf l3) (v := .any) (u:=goInt r) (by simp only[Rep]) [b],q⟩
end
end Go.AL
/- poly.times. -/
namespace Go.AL
def addE (a b:List Int):List Int:=List.zipWith (· + ·) a b
abbrev uM (t u:TZ):UT:=(zval t.c*zval u.c,addE t.e u.e)
def rowU (q:List TZ) (t:TZ):List UT:=q.map (uM t)
def DX (p q:PZ):List UT:=p.terms.flatMap (rowU q.terms)
def DegOk (p q:PZ):Prop:=∀t u,p.terms[0]? = some t→q.terms[0]? = some u→sumL t.e+sumL u.e≤120
def EC (V:Nat) (p q:PZ) (r:PZ):Prop:=DegOk p q∧(∀t∈p.terms,∀u∈q.terms,Fit (zval t.c*zval u.c))∧SumOk V (DX p q) r
theorem EM {α β:Type} (f:α→List β) {l:List α} {i:Nat} {x:α} (h:l[i]? = some x):(l.take (i+1)).flatMap f=(l.take i).flatMap f++f x:=by
 rw[Ab h]; simp
theorem DT {a b:List Int} (h:a.length=b.length):(addE a b).length=a.length:=by simp[addE,h]
theorem addE_get {a b:List Int} {k:Nat} {x y:Int} (ha:a[k]? = some x) (hb:b[k]? = some y):(addE a b)[k]? = some (x+y):=by simp[addE,List.getElem?_zipWith,ha,hb]
theorem sumL_addE:∀ {a b:List Int},a.length=b.length→sumL (addE a b)=sumL a+sumL b
 | [],[],_=>rfl
 | [],_::_,h=>by simp at h
 | _::_,[],h=>by simp at h
 | x::a,y::b,h=>by
  have:=sumL_addE (a:=a) (b:=b) (by simpa using h);simp only[addE,List.zipWith_cons_cons,sumL]at this ⊢;omega
theorem EOk.addE {a b:List Int} (ha:EOk a) (hb:EOk b) (hl:a.length=b.length) (hs:sumL a+sumL b≤120):EOk (addE a b):=by
 intro e he
 have h0:∀x∈AL.addE a b,0≤x:=by
  intro x hx;obtain⟨k,hk⟩:=List.mem_iff_getElem?.1 hx;simp only[AL.addE,List.getElem?_zipWith]at hk;split at hk
  ·rename_i x1 y1 h1 h2;injection hk with hk; subst hk;have:=ha.get h1; have:=hb.get h2; omega
  ·cases hk
 refine⟨h0 e he,?_⟩
 have h1:∀(l:List Int),(∀x∈l,0≤x)→∀x∈l,x≤sumL l:=by
  intro l
  induction l with
  | nil=>intro _ x hx; cases hx
  | cons y l ih=>
   intro hp x hx;have h2:=EF (l:=l) fun z hz=>hp z (by simp[hz]);simp only[sumL];rcases List.mem_cons.1 hx with rfl|hx
   ·omega
   ·have:=ih (fun z hz=>hp z (by simp[hz])) x hx;have:=hp y (by simp); omega
 have:=h1 _ h0 e he;rw[sumL_addE hl]at this; omega
theorem OkP.top {p:PZ} (hp:OkP p) {t0:TZ} (h0:p.terms[0]? = some t0):∀(j:Nat) (t:TZ),p.terms[j]? = some t→sumL t.e≤sumL t0.e
 | 0,t,h=>by rw[h0]at h; injection h with h; subst h; exact Int.le_refl _
 | j+1,t,h=>by
  have hj:=(List.getElem?_eq_some_iff.1 h).1;have h1:p.terms[j]? = some (p.terms[j]'(by omega)):=List.getElem?_eq_getElem _;have h2:=OkP.top hp h0 j _ h1;have h3:=hp.ord j _ _ h1 h;rw[ordI_lt]at h3;omega
theorem OkP.topm {p:PZ} (hp:OkP p) {t0 t:TZ} (h0:p.terms[0]? = some t0) (h:t∈p.terms):sumL t.e≤sumL t0.e:=by
 obtain⟨j,hj⟩:=List.mem_iff_getElem?.1 h;exact hp.top h0 j t hj
theorem timesU_ok {p q:PZ} {V:Nat} (hp:OkP p) (hq:OkP q) (hpv:p.vars=V) (hqv:q.vars=V) (hd:DegOk p q) {t u:TZ} (ht:t∈p.terms) (hu:u∈q.terms):(addE t.e u.e).length=V∧EOk (addE t.e u.e):=by
 have h1:=hp.uok hpv ht;have h2:=hq.uok hqv hu
 have hl:t.e.length=u.e.length:=by rw[h1.1,h2.1]
 refine⟨by rw[DT hl,h1.1],h1.2.addE h2.2 hl ?_⟩
 obtain⟨t0,ht0⟩:∃t0,p.terms[0]? = some t0:=by
  cases h:p.terms with
  | nil=>rw[h]at ht; cases ht
  | cons a l=>exact⟨a,rfl⟩
 obtain⟨u0,hu0⟩:∃u0,q.terms[0]? = some u0:=by
  cases h:q.terms with
  | nil=>rw[h]at hu; cases hu
  | cons a l=>exact⟨a,rfl⟩
 have:=hd t0 u0 ht0 hu0;have:=hp.topm ht0 ht;have:=hq.topm hu0 hu;omega
end Go.AL
namespace Go.Proofs.YtmmfloplhopioaaGreat
open Go.AL
abbrev smR (V:Int) (e:List Int) (xs:List ME) (c:Nat):List (AL.Id×Bx):=[(900,.cells [aN V,.mp 901] 249),(901,bM xs c),(902,.row 1 eI e 3)]
theorem sAddR_io (V:Int) (xs:List ME) (clock:Nat) (c:Int) (e:List Int) (hc:Fit c) (hxs:∀p∈xs,Fit p.2.1) (he:e.length≤32) (res:Res) (bx':List (AL.Id×Bx))
  (hr1:Fit (getM (expK e he) xs+c)→res = .ret (.tup [])∧bx'=smR V e (setM (expK e he) (getM (expK e he) xs+c) clock xs) (putC (expK e he) clock xs))
  (hr2:¬Fit (getM (expK e he) xs+c)→res = .thr (BT 4)∧bx'=smR V e xs clock) :
  IoFn Tryz.prog 213 [.ptr 900 0,aX c,.row 902] (smR V e xs clock) res bx':=by
 have hg:Fit (getM (expK e he) xs):=by
  unfold getM
  cases hf:Am (expK e he) xs 0 with
  | none=>exact Fit.zero
  | some q=>obtain⟨j,p⟩:=q; exact hxs p (List.mem_of_getElem? (DD hf).2.1)
 have hle:match Am (expK e he) xs 0 with|some (_,p)=>(aX p.2.1).Le (aX (getM (expK e he) xs))|none=>(AV.agg [aB false,.v (.slice none 0 0)]).Le (aX (getM (expK e he) xs)):=by
  unfold getM
  cases hf:Am (expK e he) xs 0 with
  | none=>exact Dm
  | some q=>exact AA _
 by_cases hfit:Fit (getM (expK e he) xs+c)
 ·obtain⟨rfl,rfl⟩:=hr1 hfit;refine AH Tryz.func213 rfl Tryz.ntmps213 rfl rfl rfl ?_;refine AE ?_;(repeat' first|apply qn|apply qr|refine qe ?_|fail);refine⟨?_⟩;refine AE ?_;(repeat' first|apply qn|apply qr|refine qe ?_|fail);refine⟨?_⟩;refine AWP.seq ?_;refine AWP.arrCopyR rfl rfl rfl rfl rfl rfl rfl rfl rfl rfl rfl rfl rfl rfl rfl rfl rfl rfl rfl rfl rfl rfl rfl rfl (by intro h; cases h) (fun _=>rfl) (fun _=>rfl) (by omega) (FI e he) ?_;refine AWP.seq ?_;(repeat' first|refine qv ?_|apply qr);refine Fl.lookup (v:=aX (getM (expK e he) xs)) rfl rfl rfl rfl rfl rfl key_law (expK e he) (AA _) rfl ?_ (fun _=>rfl) rfl rfl ?_
  ·revert hle; generalize Am (expK e he) xs 0=r; cases r<;>exact id
  (repeat' first|refine qv ?_|fail);refine qc (xAdd_ret _ _ hg hc hfit) ?_;refine Fl.mupd rfl rfl rfl rfl key_law (expK e he) (AA _) rfl (getM (expK e he) xs+c) (AA _) rfl rfl rfl ?_;(repeat' first|refine qv ?_|refine Fl.nil (fun _=>by kernel_rfl) ?_|apply qs|apply qr);refine Fl.lookup (v:=aX (getM (expK e he) xs+c)) rfl rfl rfl rfl rfl rfl key_law (expK e he) (AA _) rfl ?_ (fun _=>rfl) rfl rfl ?_
  ·obtain⟨j,p,h1,h2⟩:=findM_put (expK e he) (getM (expK e he) xs+c) clock xs;rw[h1];exact AP (by rw[h2])
  skip;refine qc (ZeroX_ok _) ?_;(repeat' first|refine qv ?_|refine Fl.nil (fun _=>by kernel_rfl) ?_|apply qr|(refine AD rfl ?_ ?_<;>intro _<;>try(exfalso; omega))|apply qk)
  ·rename_i h0;refine Fl.mdel rfl rfl rfl rfl key_law (expK e he) (AA _) rfl rfl rfl ?_;(repeat' first|refine Fl.nil (fun _=>by kernel_rfl) ?_|fail);refine⟨⟨[],_,_,AM _ _ _,rfl,AA _,rfl,⟨⟨⟨_,rfl,BLe.cells (AB _)⟩,rfl⟩,⟨⟨_,rfl,BLe.map ?_ rfl⟩,rfl⟩,⟨⟨_,rfl,BLe.row rfl⟩,rfl⟩,trivial⟩,rfl,rfl⟩⟩;unfold setM; rw[if_pos h0]
  ·rename_i h0;refine⟨⟨[],_,_,AM _ _ _,rfl,AA _,rfl,⟨⟨⟨_,rfl,BLe.cells (AB _)⟩,rfl⟩,⟨⟨_,rfl,BLe.map ?_ rfl⟩,rfl⟩,⟨⟨_,rfl,BLe.row rfl⟩,rfl⟩,trivial⟩,rfl,rfl⟩⟩;unfold setM; rw[if_neg h0]
 ·obtain⟨rfl,rfl⟩:=hr2 hfit;refine AH Tryz.func213 rfl Tryz.ntmps213 rfl rfl rfl ?_;refine AE ?_;(repeat' first|apply qn|apply qr|refine qe ?_|fail);refine⟨?_⟩;refine AE ?_;(repeat' first|apply qn|apply qr|refine qe ?_|fail);refine⟨?_⟩;refine AWP.seq ?_;refine AWP.arrCopyR rfl rfl rfl rfl rfl rfl rfl rfl rfl rfl rfl rfl rfl rfl rfl rfl rfl rfl rfl rfl rfl rfl rfl rfl (by intro h; cases h) (fun _=>rfl) (fun _=>rfl) (by omega) (FI e he) ?_;refine AWP.seq ?_;(repeat' first|refine qv ?_|apply qr);refine Fl.lookup (v:=aX (getM (expK e he) xs)) rfl rfl rfl rfl rfl rfl key_law (expK e he) (AA _) rfl ?_ (fun _=>rfl) rfl rfl ?_
  ·revert hle; generalize Am (expK e he) xs 0=r; cases r<;>exact id
  (repeat' first|refine qv ?_|fail);exact A7 rfl [] (xAdd_thr _ _ hg hc hfit) rfl (AB _) rfl trivial rfl (fun _=>by kernel_rfl) (fun _=>rfl)
theorem sAddR_ret (V:Nat) (hV:V≤32) (s:MS) (m:MOk V s.1 s.2) (u:UT) (hc:Fit u.1) (he:u.2.length=V) (hf:Fit (getM (exK u.2) s.1+u.1)) :
  IoFn Tryz.prog 213 [.ptr 900 0,aX u.1,.row 902] (smR V u.2 s.1 s.2) (.ret (.tup [])) (smR V u.2 (Ce s u).1 (Ce s u).2):=by
 have h32:u.2.length≤32:=by omega
 rw[Db h32]at hf;exact sAddR_io V s.1 s.2 u.1 u.2 hc m.fit h32 _ _ (fun _=>⟨rfl,by simp only[Ce,Db h32]⟩) (fun h=>absurd hf h)
theorem sAddR_thr (V:Nat) (hV:V≤32) (s:MS) (m:MOk V s.1 s.2) (u:UT) (hc:Fit u.1) (he:u.2.length=V) (hf:¬Fit (getM (exK u.2) s.1+u.1)) :
  IoFn Tryz.prog 213 [.ptr 900 0,aX u.1,.row 902] (smR V u.2 s.1 s.2) (.thr (BT 4)) (smR V u.2 s.1 s.2):=by
 have h32:u.2.length≤32:=by omega
 rw[Db h32]at hf;exact sAddR_io V s.1 s.2 u.1 u.2 hc m.fit h32 _ _ (fun h=>absurd h hf) (fun _=>⟨rfl,rfl⟩)
end Go.Proofs.YtmmfloplhopioaaGreat
/- poly.times: the walk. -/
namespace Go.Proofs.YtmmfloplhopioaaGreat
open Go.AL
theorem set_mid {a b:List Int} {k:Nat} (v:Int) (m:Nat) (ha:a.length=k) (hb:k<b.length) (hm:m=k:=by omega):(a++b.drop k).set m v=a++([v]++b.drop (k+1)):=by
 subst hm;rw[List.set_append_right _ _ (by omega),ha,Nat.sub_self];congr 1;rw[List.drop_eq_getElem_cons hb];rfl
set_option maxHeartbeats 2000000 in
theorem times_io (V:Nat) (hV:V≤32) (p q:PZ) (hwp:WP p) (hwq:WP q) (hp:OkP p) (hq:OkP q) (hpv:p.vars=V) (hqv:q.vars=V) (res:Res)
  (hr1:∀r,EC V p q r→res = .ret (aP r)) (hr2:(¬∃r,EC V p q r)→res = .thr (BT 4)) :
  IoFn Tryz.prog 190 [aP p,aP q] [] res []:=by
 have hfp:∀t∈p.terms,Fit (zval t.c)∧t.c=zOf (zval t.c):=fun t ht=>by
  have:=D3 (hwp t ht) (hp.terms t ht).coef; exact⟨this.2,this.1⟩
 have hfq:∀t∈q.terms,Fit (zval t.c)∧t.c=zOf (zval t.c):=fun t ht=>by
  have:=D3 (hwq t ht) (hq.terms t ht).coef; exact⟨this.2,this.1⟩
 have hplen:=hp.len;have hqlen:=hq.len;refine AH Tryz.func190 rfl Tryz.ntmps190 rfl rfl rfl ?_;refine AE ?_;(repeat' first|apply qn|apply qr|refine qe ?_|fail);refine⟨?_⟩;refine AE ?_;(repeat' first|refine qv ?_|apply qr);refine A9 rfl [(900,710),(901,711)] (empty_ok V) rfl rfl (LeL.cons (AV.Le.int hpv) LeL.nil) rfl trivial rfl rfl rfl rfl rfl ?_;(repeat' first|refine qv ?_|apply qn);refine⟨?_⟩;refine AE ?_;(repeat' first|refine qv ?_|apply qn|apply qr|refine CH rfl rfl rfl rfl rfl rfl rfl rfl rfl rfl eI 0 (by exact AB _) (by rfl) (by first|omega|(dsimp only; omega)) (by first|omega|(dsimp only; omega)) (by first|omega|(dsimp only; omega)) ?_|fail);refine⟨?_⟩;refine Cj (G:=Unit) (fun _=>DegOk p q) (fun _=>AO [] [(2,.ptr 2 0),(3,.ptr 3 0),(4,.ptr 4 0),(5,.ptr 710 0),(6,.row 712)] [(2,.cells (eP p) 105),(3,.cells (eP q) 105),(4,.cells [aN 0,.v (.slice none 0 0)] 105),(710,.cells [aN V,.mp 711] 249),(711,bM [] 0),(712,.row 1 eI (List.replicate V 0) 3)]) ?_ ?_
 ·have hrep:List.replicate p.vars.toNat (0:Int)=List.replicate V 0:=by rw[show p.vars.toNat=V by omega]
  (repeat' first|refine qv ?_|refine Fl.nil (fun _=>by kernel_rfl) ?_|apply qs|apply qr|refine Fl.skip rfl rfl ?_|refine AF rfl ?_|apply qk|(refine Ay rfl rfl rfl rfl rfl rfl rfl rfl (by omega) (by omega) ?_; intro _ _)|(refine AG rfl rfl ?_ ?_<;>intro _<;>try(exfalso; omega)))
  ·rename_i h1 h2 t ht;have ht:p.terms[0]? = some t:=ht;have hot:=hp.terms t (List.mem_of_getElem? ht);have hb1:=hot.deg;have hb2:=(Bq hot.exps).1;have hb3:=hot.len;refine qc (Ei t hot.exps (by omega)) ?_;(repeat' first|refine qv ?_|(refine Ay rfl rfl rfl rfl rfl rfl rfl rfl (by omega) (by omega) ?_; intro _ _)|fail)
   all_goals
    rename_i u hu;have hu:q.terms[0]? = some u:=hu;have hou:=hq.terms u (List.mem_of_getElem? hu);have hc1:=hou.deg;have hc2:=(Bq hou.exps).1;have hc3:=hou.len;refine qc (Ei u hou.exps (by omega)) ?_;(repeat' first|refine qv ?_|refine Fl.nil (fun _=>by kernel_rfl) ?_|apply qr|refine qw ?_|(refine AD rfl ?_ ?_<;>intro _<;>try(exfalso; omega))|apply qk)
   ·rename_i hgt;have e1:=hr2 (by rintro⟨r,hdd,_⟩; have:=hdd t u ht hu; omega);subst e1;exact A7 rfl [] (Throw_ok 4) rfl (AB _) rfl trivial rfl (fun _=>by kernel_rfl) (fun _=>rfl)
   ·rename_i hgt;refine JoinOk.of () (fun t' u' h1' h2'=>?_) ?_
    ·rw[ht]at h1'; rw[hu]at h2'; injection h1' with h1'; injection h2' with h2'; subst h1' h2'; omega
    ·refine Ent.of [(712,17)] ?_ ?_ rfl rfl;(repeat' first|exact True.intro|refine⟨⟨AA _,rfl⟩,?_⟩|refine⟨⟨⟨_,rfl,BLe.cells (AB _)⟩,rfl⟩,?_⟩|refine⟨⟨⟨_,rfl,BLe.map rfl rfl⟩,rfl⟩,?_⟩|refine⟨⟨⟨_,rfl,BLe.row ?_⟩,rfl⟩,?_⟩|fail);exact hrep
  ·rename_i h1 h2;refine JoinOk.of () (fun t' u' h1' h2'=>?_) ?_
   ·have:=(List.getElem?_eq_some_iff.1 h2').1; omega
   ·refine Ent.of [(712,17)] ?_ ?_ rfl rfl;(repeat' first|exact True.intro|refine⟨⟨AA _,rfl⟩,?_⟩|refine⟨⟨⟨_,rfl,BLe.cells (AB _)⟩,rfl⟩,?_⟩|refine⟨⟨⟨_,rfl,BLe.map rfl rfl⟩,rfl⟩,?_⟩|refine⟨⟨⟨_,rfl,BLe.row ?_⟩,rfl⟩,?_⟩|fail);exact hrep
  ·rename_i h1;refine JoinOk.of () (fun t' u' h1' h2'=>?_) ?_
   ·have:=(List.getElem?_eq_some_iff.1 h1').1; omega
   ·refine Ent.of [(712,17)] ?_ ?_ rfl rfl;(repeat' first|exact True.intro|refine⟨⟨AA _,rfl⟩,?_⟩|refine⟨⟨⟨_,rfl,BLe.cells (AB _)⟩,rfl⟩,?_⟩|refine⟨⟨⟨_,rfl,BLe.map rfl rfl⟩,rfl⟩,?_⟩|refine⟨⟨⟨_,rfl,BLe.row ?_⟩,rfl⟩,?_⟩|fail);exact hrep
 ·intro _ hd;(repeat' first|refine qv ?_|apply qn|apply qs|apply qr|apply qb)
  have hrowU:∀t∈p.terms,UOk V (rowU q.terms t):=fun t ht u hu=>by
   obtain⟨v,hv,rfl⟩:=List.mem_map.1 hu; exact timesU_ok hp hq hpv hqv hd ht hv
  have htU:∀i,UOk V ((p.terms.take i).flatMap (rowU q.terms)):=fun i u hu=>by
   obtain⟨t,ht,hu⟩:=List.mem_flatMap.1 hu;exact hrowU t (List.mem_of_mem_take ht) u hu
  refine AWP.loop (G:=Nat×MS×List Int) (fun(i,s,ex)=>i≤p.terms.length∧runM ((p.terms.take i).flatMap (rowU q.terms)) ([],0)=some s∧ex.length=V∧∀j,j<i→∀t∈p.terms[j]?,∀u∈q.terms,Fit (zval t.c*zval u.c))
   (fun(i,s,ex)=>AO [] [(2,.ptr 2 0),(3,.ptr 3 0),(4,.ptr 4 0),(5,.ptr 710 0),(6,.row 712),(44,.sl 3 eT p.terms),(45,aN p.terms.length),(46,aN i)] [(2,.cells (eP p) 105),(3,.cells (eP q) 105),(4,.cells [aN 0,.v (.slice none 0 0)] 105),(710,.cells [aN V,.mp 711] 249),(711,bM s.1 s.2),(712,.row 1 eI ex 3)]) (fun(i,s,ex)=>p.terms.length-i) (0,([],0),List.replicate V 0) ⟨by omega,by simp[runM],by simp,fun j hj=>by omega⟩ ?_ ?_
  ·refine Ent.of [] ?_ ?_ rfl rfl;(repeat' first|exact True.intro|refine⟨⟨AA _,rfl⟩,?_⟩|refine⟨⟨⟨_,rfl,BLe.cells (AB _)⟩,rfl⟩,?_⟩|refine⟨⟨⟨_,rfl,BLe.row rfl⟩,rfl⟩,?_⟩|refine⟨⟨⟨_,rfl,BLe.map rfl rfl⟩,rfl⟩,?_⟩|fail)
  ·intro ⟨i,s,ex⟩ ⟨k0,k1,k2,k3⟩;by_cases hi:i<p.terms.length
   ·obtain ⟨t,ht⟩:∃t,p.terms[i]? = some t:=⟨_,List.getElem?_eq_getElem hi⟩;have htm:=List.mem_of_getElem? ht;have hot:=hp.terms t htm;(repeat' first|refine qv ?_|apply qn|apply qs|apply qr|refine qe ?_|(refine AD rfl ?_ ?_<;>intro _<;>try(exfalso; omega))|apply qb|apply qk|refine qK ?_|fail);refine AWP.loop (G:=Nat×MS×List Int) (fun(j,s', ex)=>j≤q.terms.length∧runM ((rowU q.terms t).take j) s=some s'∧ex.length=V∧∀k,k<j→∀u∈q.terms[k]?,Fit (zval t.c*zval u.c))
     (fun(j,s', ex)=>AO [] [(2,.ptr 2 0),(3,.ptr 3 0),(4,.ptr 4 0),(5,.ptr 710 0),(6,.row 712),(44,.sl 3 eT p.terms),(45,aN p.terms.length),(46,aN i),(8,.ptr 8 0),(51,.sl 3 eT q.terms),(52,aN q.terms.length),(53,aN j)] [(2,.cells (eP p) 105),(3,.cells (eP q) 105),(4,.cells [aN 0,.v (.slice none 0 0)] 105),(710,.cells [aN V,.mp 711] 249),(711,bM s'.1 s'.2),(712,.row 1 eI ex 3),(8,.cells (eT t) 158)]) (fun(j,s', ex)=>q.terms.length-j) (0,s,ex) ⟨by omega,by simp[runM],k2,fun j hj=>by omega⟩ ?_ ?_
    ·refine Ent.of [] ?_ ?_ rfl rfl;(repeat' first|exact True.intro|refine⟨⟨AA _,rfl⟩,?_⟩|refine⟨⟨⟨_,rfl,BLe.cells (AB _)⟩,rfl⟩,?_⟩|refine⟨⟨⟨_,rfl,BLe.row rfl⟩,rfl⟩,?_⟩|refine⟨⟨⟨_,rfl,BLe.map rfl rfl⟩,rfl⟩,?_⟩|fail)
    ·intro ⟨j,s', ex'⟩ ⟨m0,m1,m2,m3⟩
     have hs1:runM ((p.terms.take i).flatMap (rowU q.terms)++(rowU q.terms t).take j) ([],0)=some s':=by rw[B9,k1]; exact m1
     have hmok:=(Ey hV (MOk.nil V) (fun u hu=>(List.mem_append.1 hu).elim (htU i u) (fun h=>hrowU t htm u (List.mem_of_mem_take h))) hs1).1;by_cases hj:j<q.terms.length
     ·obtain⟨u,hu⟩:∃u,q.terms[j]? = some u:=⟨_,List.getElem?_eq_getElem hj⟩;have hum:=List.mem_of_getElem? hu;have hou:=hq.terms u hum;have htl:=(hp.uok hpv htm).1;have hul:=(hq.uok hqv hum).1
      have hadl:(addE t.e u.e).length=V:=by rw[DT (by omega),htl]
      have hstop:∀b,DX p q=(p.terms.take i).flatMap (rowU q.terms)++(rowU q.terms t).take j++uM t u::((rowU q.terms t).drop (j+1)++b)→¬Fit (getM (exK (addE t.e u.e)) s'.1+zval t.c*zval u.c)→¬∃r,EC V p q r:=by
       intro b he hf ⟨r,_,_,s2,h1,_⟩;rw[he,runM_stop hs1 hf]at h1
       cases h1
      have hsplit:DX p q=(p.terms.take i).flatMap (rowU q.terms)++(rowU q.terms t).take j++uM t u::((rowU q.terms t).drop (j+1)++(p.terms.drop (i+1)).flatMap (rowU q.terms)):=by
       have e1:p.terms=p.terms.take i++t::p.terms.drop (i+1):=by
        have:=map_split id ht;simpa using this
       have e2:rowU q.terms t=(rowU q.terms t).take j++uM t u::(rowU q.terms t).drop (j+1):=map_split (uM t) hu;unfold DX
       conv=>lhs; rw[e1,List.flatMap_append,List.flatMap_cons,e2]
       simp
      (repeat' first|refine qv ?_|apply qn|apply qs|apply qr|refine qe ?_|(refine AD rfl ?_ ?_<;>intro _<;>try(exfalso; omega))|apply qb|apply qk|refine qK ?_|fail);refine AWP.loop (G:=Nat) (fun k=>k≤V) (fun k=>AO [] [(2,.ptr 2 0),(3,.ptr 3 0),(4,.ptr 4 0),(5,.ptr 710 0),(6,.row 712),(44,.sl 3 eT p.terms),(45,aN p.terms.length),(46,aN i),(8,.ptr 8 0),(51,.sl 3 eT q.terms),(52,aN q.terms.length),(53,aN j),(10,.ptr 10 0),(58,aN V),(59,aN k)] [(2,.cells (eP p) 105),(3,.cells (eP q) 105),(4,.cells [aN 0,.v (.slice none 0 0)] 105),(710,.cells [aN V,.mp 711] 249),(711,bM s'.1 s'.2),(712,.row 1 eI ((addE t.e u.e).take k++ex'.drop k) 3),(8,.cells (eT t) 158),(10,.cells (eT u) 158)]) (fun k=>V-k) 0 (by omega) ?_ ?_
      ·refine Ent.of [] ?_ ?_ rfl rfl;(repeat' first|exact True.intro|refine⟨⟨AA _,rfl⟩,?_⟩|refine⟨⟨⟨_,rfl,BLe.cells (AB _)⟩,rfl⟩,?_⟩|refine⟨⟨⟨_,rfl,BLe.row rfl⟩,rfl⟩,?_⟩|refine⟨⟨⟨_,rfl,BLe.map rfl rfl⟩,rfl⟩,?_⟩|refine⟨⟨AV.Le.int ?_,rfl⟩,?_⟩|fail);omega
      ·intro k kk
       have hlk:((addE t.e u.e).take k++ex'.drop k).length=V:=by simp; omega
       by_cases hk:k<V
       ·obtain⟨x,hx⟩:∃x,t.e[k]? = some x:=⟨_,List.getElem?_eq_getElem (by omega)⟩;obtain⟨y,hy⟩:∃y,u.e[k]? = some y:=⟨_,List.getElem?_eq_getElem (by omega)⟩;have hx1:=hot.exps.get hx;have hy1:=hou.exps.get hy;(repeat' first|refine qv ?_|apply qn|refine Fl.nil (fun _=>by kernel_rfl) ?_|apply qs|apply qr|refine qw ?_|(refine AD rfl ?_ ?_<;>intro _<;>try(exfalso; omega))|apply qb|apply qk|refine qK ?_|refine A8 rfl rfl rfl rfl rfl rfl rfl rfl (by omega) (by first|omega|(simp; omega)) ?_|refine Bb rfl rfl rfl rfl rfl rfl rfl rfl rfl rfl rfl (AB _) rfl (by first|omega|(simp; omega)) ?_|fail);refine LoopEnd.of (k+1) (by omega) (by omega) ?_;refine Ent.of [] ?_ ?_ rfl rfl;(repeat' first|exact True.intro|refine⟨⟨AA _,rfl⟩,?_⟩|refine⟨⟨⟨_,rfl,BLe.cells (AB _)⟩,rfl⟩,?_⟩|refine⟨⟨⟨_,rfl,BLe.map rfl rfl⟩,rfl⟩,?_⟩|refine⟨⟨⟨_,rfl,BLe.row ?_⟩,rfl⟩,?_⟩|fail);have hg:=addE_get hx hy;rw[Ab hg,List.append_assoc];exact set_mid _ _ (by rw[List.length_take]; omega) (by omega)
       ·have hrow:(addE t.e u.e).take k++ex'.drop k=addE t.e u.e:=by
         rw[List.take_of_length_le (by omega),List.drop_of_length_le (by omega),List.append_nil]
        rw[hrow];clear hlk hrow;by_cases hmu:Fit (zval t.c*zval u.c)
        ·by_cases hf:Fit (getM (exK (addE t.e u.e)) s'.1+zval t.c*zval u.c)
         ·(repeat'(first|refine qv ?_|apply qn|apply qs|apply qr|(refine AD rfl ?_ ?_<;>intro _<;>try(exfalso; omega))|apply qx));refine Fl.call rfl (xMul_ret _ _ (hfp t htm).1 (hfq u hum).1 hmu) rfl rfl rfl (LeL.cons (AV.Le.agg (leZ (σ:=[]) (hfp t htm).2)) (LeL.cons (AV.Le.agg (leZ (σ:=[]) (hfq u hum).2)) LeL.nil)) ?_;(repeat' first|refine qv ?_|fail);refine A9 rfl [(900,710),(901,711),(902,712)] (sAddR_ret V hV s' hmok (uM t u) hmu hadl hf) rfl rfl (AB _) rfl ⟨⟨⟨_,rfl,BLe.cells (AB _)⟩,rfl⟩,⟨⟨_,rfl,BLe.map rfl rfl⟩,rfl⟩,⟨⟨_,rfl,BLe.row rfl⟩,rfl⟩,trivial⟩ rfl rfl rfl rfl rfl ?_;(repeat' first|refine qv ?_|apply qn|apply qr|refine qw ?_|fail);refine LoopEnd.of (j+1,Ce s' (uM t u),addE t.e u.e) ⟨by omega,by rw[show(rowU q.terms t).take (j+1)=_ from ER (uM t) hu]; exact runM_snoc m1 hf,hadl,fun k' hk' v hv=>?_⟩ (by simp only; omega) ?_
          ·rcases Nat.lt_succ_iff_lt_or_eq.1 hk' with h|h
           ·exact m3 k' h v hv
           ·subst h;rw[hu]at hv;injection hv with hv; subst hv; exact hmu
          ·refine Ent.of [] ?_ ?_ rfl rfl;(repeat' first|exact True.intro|refine⟨⟨AA _,rfl⟩,?_⟩|refine⟨⟨⟨_,rfl,BLe.cells (AB _)⟩,rfl⟩,?_⟩|refine⟨⟨⟨_,rfl,BLe.row rfl⟩,rfl⟩,?_⟩|refine⟨⟨⟨_,rfl,BLe.map rfl rfl⟩,rfl⟩,?_⟩|fail)
         ·have e1:=hr2 (hstop _ hsplit hf);subst e1;(repeat' first|refine qv ?_|apply qn|apply qs|apply qr|(refine AD rfl ?_ ?_<;>intro _<;>try(exfalso; omega))|apply qx);refine Fl.call rfl (xMul_ret _ _ (hfp t htm).1 (hfq u hum).1 hmu) rfl rfl rfl (LeL.cons (AV.Le.agg (leZ (σ:=[]) (hfp t htm).2)) (LeL.cons (AV.Le.agg (leZ (σ:=[]) (hfq u hum).2)) LeL.nil)) ?_;(repeat' first|refine qv ?_|fail);exact A7 rfl [(900,710),(901,711),(902,712)] (sAddR_thr V hV s' hmok (uM t u) hmu hadl hf) rfl (AB _) rfl ⟨⟨⟨_,rfl,BLe.cells (AB _)⟩,rfl⟩,⟨⟨_,rfl,BLe.map rfl rfl⟩,rfl⟩,⟨⟨_,rfl,BLe.row rfl⟩,rfl⟩,trivial⟩ rfl (fun _=>by kernel_rfl) (fun _=>rfl)
        ·have e1:=hr2 (by rintro⟨r,_,hall,_⟩; exact hmu (hall t htm u hum));subst e1;(repeat' first|refine qv ?_|apply qn|apply qs|apply qr|(refine AD rfl ?_ ?_<;>intro _<;>try(exfalso; omega))|apply qx);exact A7 rfl [] (xMul_thr _ _ (hfp t htm).1 (hfq u hum).1 hmu) rfl (LeL.cons (AV.Le.agg (leZ (hfp t htm).2)) (LeL.cons (AV.Le.agg (leZ (hfq u hum).2)) LeL.nil)) rfl trivial rfl (fun h=>by cases h) (fun _=>rfl)
     ·have hti:(rowU q.terms t).take j=rowU q.terms t:=List.take_of_length_le (by simp[rowU]; omega);rw[hti]at m1;(repeat' first|refine qv ?_|apply qn|apply qs|apply qr|refine qw ?_|(refine AD rfl ?_ ?_<;>intro _<;>try(exfalso; omega))|apply qx);refine LoopEnd.of (i+1,s', ex') ⟨by omega,by rw[EM _ ht,B9,k1]; exact m1,m2,fun j' hj' t' ht' u hu=>?_⟩ (by simp only; omega) ?_
      ·rcases Nat.lt_succ_iff_lt_or_eq.1 hj' with h|h
       ·exact k3 j' h t' ht' u hu
       ·subst h;rw[ht]at ht';injection ht' with ht'; subst ht';obtain⟨k,hk⟩:=List.mem_iff_getElem?.1 hu;exact m3 k (by have:=(List.getElem?_eq_some_iff.1 hk).1; omega) u hk
      ·refine Ent.of [] ?_ ?_ rfl rfl;(repeat' first|exact True.intro|refine⟨⟨AA _,rfl⟩,?_⟩|refine⟨⟨⟨_,rfl,BLe.cells (AB _)⟩,rfl⟩,?_⟩|refine⟨⟨⟨_,rfl,BLe.row rfl⟩,rfl⟩,?_⟩|refine⟨⟨⟨_,rfl,BLe.map rfl rfl⟩,rfl⟩,?_⟩|fail)
   ·have hti:p.terms.take i=p.terms:=List.take_of_length_le (by omega);rw[hti]at k1;have hall:runM (DX p q) ([],0)=some s:=k1
    have hprods:∀t∈p.terms,∀u∈q.terms,Fit (zval t.c*zval u.c):=fun t ht u hu=>by
     obtain⟨j,hj⟩:=List.mem_iff_getElem?.1 ht;exact k3 j (by have:=(List.getElem?_eq_some_iff.1 hj).1; omega) t hj u hu
    have hmok:=Ey hV (MOk.nil V) (us:=DX p q) (fun u hu=>by
     obtain⟨t,ht,hu⟩:=List.mem_flatMap.1 hu
     exact hrowU t ht u hu) hall
    have hlu:(DX p q).length≤3000*3000:=by
     have:(DX p q).length=p.terms.length*q.terms.length:=by
      unfold DX;generalize p.terms=l
      induction l with
      | nil=>simp
      | cons a l ih=>rw[List.flatMap_cons,List.length_append,ih,List.length_cons]; simp[rowU,Nat.succ_mul]; omega
     rw[this];exact Nat.mul_le_mul hplen hqlen
    have hln:=hmok.2;simp only[List.length_nil]at hln;by_cases hok:OkP ⟨V,Bj (s.1.map (tmM V))⟩
    ·have e1:=hr1 _ ⟨hd,hprods,s,hall,rfl,hok⟩;subst e1;(repeat' first|refine qv ?_|apply qn|apply qs|apply qr|(refine AD rfl ?_ ?_<;>intro _<;>try(exfalso; omega))|apply qx);refine A9 rfl [(900,710),(901,711)] (sPoly_io V s.1 s.2 hmok.1 hV (by omega) _ _ (fun _=>⟨rfl,rfl⟩) (fun h=>absurd hok h)) rfl rfl (AB _) rfl ⟨⟨⟨_,rfl,BLe.cells (AB _)⟩,rfl⟩,⟨⟨_,rfl,BLe.map rfl rfl⟩,rfl⟩,trivial⟩ rfl rfl rfl rfl rfl ?_;(repeat' first|apply qn|refine qe ?_|apply qt);exact⟨⟨[],_,_,AM _ _ _,rfl,AA _,rfl,trivial,rfl,rfl⟩⟩
    ·have e1:=hr2 (by
      rintro⟨r,_,_,s2,h1,h2,h3⟩;rw[hall]at h1;injection h1 with h1;subst h1
      exact hok (h2▸h3))
     subst e1;(repeat' first|refine qv ?_|apply qn|apply qs|apply qr|(refine AD rfl ?_ ?_<;>intro _<;>try(exfalso; omega))|apply qx);exact A7 rfl [(900,710),(901,711)] (sPoly_io V s.1 s.2 hmok.1 hV (by omega) _ _ (fun h=>absurd h hok) (fun _=>⟨rfl,rfl⟩)) rfl (AB _) rfl ⟨⟨⟨_,rfl,BLe.cells (AB _)⟩,rfl⟩,⟨⟨_,rfl,BLe.map rfl rfl⟩,rfl⟩,trivial⟩ rfl (fun _=>by kernel_rfl) (fun _=>rfl)
end Go.Proofs.YtmmfloplhopioaaGreat
/- poly.both, tried, Add, Mul. -/
namespace Go.AL
structure RetD1 (n:Nat) (I:List Id) (tab:Tab) (rs:List ResultVar) (r:AV) (s:St):Prop where
  out:∃s' r', Ent n I s s'∧resA tab s' rs=some r'∧r'.closed=true∧r'.Le r
def RetD (n:Nat) (I:List Id) (tab:Tab) (rs:List ResultVar) (r:AV):Exit→St→Prop
  | .normal,s=>RetD1 n I tab rs r s
  | .ret,s=>RetD1 n I tab rs r s
  | _,_=>False
theorem RetD1.of {n:Nat} {I:List Id} {tab:Tab} {rs:List ResultVar} {r r':AV} {s:St} (h1:resA tab s rs=some r') (h2:r'.Le r) (hc:r'.closed=true:=by rfl):RetD1 n I tab rs r s:=⟨s,r', AM _ _ _,h1,hc,h2⟩
section
variable {P:Program} {tab:Tab} {n:Nat}
theorem IoFn.of_bodyD [f:Facts P tab] {k:FuncId} {fn:Func} {c:Code} {args:List AV} {bxs:List (Id×Bx)} {r:AV} (hf:P.funcs[k]? = some fn) (hb:fn.body=some c) (hn:fn.ntmps=n) (hname:(fn.name == "runtime.NumGoroutine")=false) (hl:Nat.ble args.length n=true)
  (h:AWP P n (idsB bxs) c (RetD n (idsB bxs) tab fn.results.toList r) (Bh args bxs)):IoFn P k args bxs (.ret r) []:=by
 have hl:=Nat.le_of_ble_eq_true hl;refine⟨⟨fn,hf,hname,by rw[hb]; rfl⟩,fun w hp β us hw hbx hβn hr=>?_⟩;refine calls_of_wp hf hb ?_
 have hus:us.size=args.length:=by rw[←Array.length_toList]; exact hr.length
 have hbase:Base ⟨w,hp,β,Ar bxs β,[]⟩ n (Bh args bxs) { tmps:=us++Array.replicate (fn.ntmps-us.size) undef,defers:=[] } w hp β:=by
  refine⟨Evo.refl _ hw,AW _,fun i=>?_,hbx.box,hbx.apart,fun id B g hB hg => .inl ⟨id,B,hB,hg⟩,fun id hid=>hβn id (fun hm=>by rw[←AZ]at hm; simp only[Bh]at hid; rw[hm]at hid; cases hid),by simp; omega,rfl⟩;simp only[Bh];by_cases hi:i<us.size
  ·have hget:(us++Array.replicate (fn.ntmps-us.size) undef).getD i undef=us[i]:=by
    simp[Array.getD_eq_getD_getElem?,Array.getElem?_append,hi]
   rw[hget];exact Ed args us.toList i _ hr (by simp[hi])
  ·rw[Ee args i (by omega)];simp only[Rep]
 have hini:IniOk ⟨w,hp,β,Ar bxs β,[]⟩ (idsB bxs):=fun id hid=>by
  rcases Classical.em (id∈idsB bxs)with hm|hm
  ·exact hm
  ·exact absurd (hβn id hm) hid
 refine wp_mono (h.out ⟨w,hp,β,Ar bxs β,[]⟩ _ w hp β hini hbase) fun e a' w' ⟨s', h', β', b,q⟩=>?_
 have fin:RetD1 n (idsB bxs) tab fn.results.toList r s'→a'.defers=[]∧∃v,(results fn a'.tmps).run P w' = .ok v w'∧∃h' β', β.le β'∧Evo (Ar bxs β) w hp w' h'∧∃u,Ending.returned v = .returned u∧BoxesAt w' h' β' []∧Rep h' β' r u∧∀id g,id∉idsB bxs→blk (β' id)=some g→w.heap.size≤g:=by
  intro hq;obtain⟨s2,r', hent,h1,hc,h2⟩:=hq.out;obtain⟨h', β', b⟩:=hent _ _ _ _ _ hini b;obtain⟨v,hv1,hv2⟩:=Ez (P:=P) b h1;refine⟨b.defers,v,hv1,h', β,AW _,b.evo,v,rfl,⟨fun id B hB=>by simp[Au]at hB,fun _ _ _ _ hB=>by simp[Au]at hB⟩,h2 _ _ _ (hv2.closed _ _ hc),fun id g hid hg=>?_⟩;rw[hβn id hid]at hg; simp[blk]at hg
 cases e with
 | normal=>exact fin q
 | ret=>exact fin q
 | _=>exact q.elim
end
end Go.AL
namespace Go.Proofs.YtmmfloplhopioaaGreat
open Go.AL
theorem aP_zero:(AV.agg [aN 0,.v (.slice none 0 0)]).Le (aP ⟨0,[]⟩):=AV.Le.agg (LeL.cons (AA _) (LeL.cons (AV.Le.nil 3 eT) LeL.nil))
noncomputable def bothE (p q:PZ):Int := @ite _ (OkP p∧OkP q) (Classical.propDecidable _) (if p.vars=q.vars then 0 else 2) 1
theorem bothE_bad {p q:PZ} (h:¬(OkP p∧OkP q)):bothE p q=1:=if_neg h
theorem bothE_ok {p q:PZ} (h1:OkP p) (h2:OkP q):bothE p q=if p.vars=q.vars then 0 else 2:=if_pos ⟨h1,h2⟩
theorem both_ok (p q:PZ) (hwp:WP p) (hwq:WP q):PureFn Tryz.prog 187 [aP p,aP q] (aN (bothE p q)):=by
 refine AC Tryz.func187 rfl Tryz.ntmps187 rfl rfl ?_;by_cases hp:OkP p
 ·by_cases hq:OkP q
  ·rw[bothE_ok hp hq];(repeat' first|refine qv ?_|apply qn|apply qs|apply qr|refine qe ?_|fail);refine qc (CZ p hwp true (by simp[hp])) ?_;(repeat' first|refine qv ?_|fail);refine qc (CZ q hwq true (by simp[hq])) ?_;(repeat' first|refine qv ?_|apply qn|apply qs|apply qr|refine AF rfl ?_|(refine AQ rfl ?_ ?_<;>intro _<;>try(exfalso; omega))|apply qk|apply qt)
   ·rename_i h; exact RetOk.of rfl (AV.Le.int (if_neg h).symm)
   ·rename_i h; exact RetOk.of rfl (AV.Le.int (if_pos h).symm)
  ·rw[bothE_bad (fun h=>hq h.2)];(repeat' first|refine qv ?_|apply qn|apply qs|apply qr|refine qe ?_|fail);refine qc (CZ p hwp true (by simp[hp])) ?_;(repeat' first|refine qv ?_|fail);refine qc (CZ q hwq false (by simp[hq])) ?_;(repeat' first|refine qv ?_|apply qn|apply qs|apply qr|refine AJ rfl ?_|apply qt);exact RetOk.of rfl (AA _)
 ·rw[bothE_bad (fun h=>hp h.1)];(repeat' first|refine qv ?_|apply qn|apply qs|apply qr|refine qe ?_|fail);refine qc (CZ p hwp false (by simp[hp])) ?_;(repeat' first|refine qv ?_|apply qn|apply qs|apply qr|refine Fl.skip rfl rfl ?_|refine AJ rfl ?_|apply qt);exact RetOk.of rfl (AA _)
abbrev bPQ (p q:PZ):List (AL.Id×Bx):=[(900,.cells (eP p) 105),(901,.cells (eP q) 105)]
abbrev bT (cf:FuncId) (p q:PZ) (o:List AV):List (AL.Id×Bx):=[(902,.cells [.fn cf [.ptr 900 0,.ptr 901 0]] 209),(903,.cells o 105),(900,.cells (eP p) 105),(901,.cells (eP q) 105)]
theorem tried1_ret {cf:FuncId} {p q r:PZ} (h:IoFn Tryz.prog cf [.ptr 900 0,.ptr 901 0] (bPQ p q) (.ret (aP r)) (bPQ p q)) :
  IoFn Tryz.prog 210 [.ptr 902 0,.ptr 903 0] (bT cf p q [aN 0,.v (.slice none 0 0)]) (.ret (.tup [])) (bT cf p q (eP r)):=by
 refine AH Tryz.func210 rfl Tryz.ntmps210 rfl rfl rfl ?_;(repeat' first|refine qv ?_|apply qr);refine ED rfl rfl [] h rfl rfl (AB _) rfl ⟨⟨⟨_,rfl,BLe.cells (AB _)⟩,rfl⟩,⟨⟨_,rfl,BLe.cells (AB _)⟩,rfl⟩,trivial⟩ rfl rfl rfl rfl rfl ?_;(repeat' first|apply qn|refine qe ?_|fail);exact⟨⟨[],_,_,AM _ _ _,rfl,AA _,rfl,⟨⟨⟨_,rfl,BLe.cells (AB _)⟩,rfl⟩,⟨⟨_,rfl,BLe.cells (AB _)⟩,rfl⟩,⟨⟨_,rfl,BLe.cells (AB _)⟩,rfl⟩,⟨⟨_,rfl,BLe.cells (AB _)⟩,rfl⟩,trivial⟩,rfl,rfl⟩⟩
theorem tried1_thr {cf:FuncId} {p q:PZ} (h:IoFn Tryz.prog cf [.ptr 900 0,.ptr 901 0] (bPQ p q) (.thr (BT 4)) (bPQ p q)) :
  IoFn Tryz.prog 210 [.ptr 902 0,.ptr 903 0] (bT cf p q [aN 0,.v (.slice none 0 0)]) (.thr (BT 4)) (bT cf p q [aN 0,.v (.slice none 0 0)]):=by
 refine AH Tryz.func210 rfl Tryz.ntmps210 rfl rfl rfl ?_;(repeat' first|refine qv ?_|apply qr);exact Fl.thrV rfl rfl [] h rfl (AB _) rfl ⟨⟨⟨_,rfl,BLe.cells (AB _)⟩,rfl⟩,⟨⟨_,rfl,BLe.cells (AB _)⟩,rfl⟩,trivial⟩ rfl (fun h=>by cases h) (fun _=>rfl)
theorem tried_ret {cf:FuncId} {p q r:PZ} (h:IoFn Tryz.prog cf [.ptr 900 0,.ptr 901 0] (bPQ p q) (.ret (aP r)) (bPQ p q)) :
  IoFn Tryz.prog 188 [.fn cf [.ptr 900 0,.ptr 901 0]] (bPQ p q) (.ret (.tup [aP r,aN 0])) (bPQ p q):=by
 refine AH Tryz.func188 rfl Tryz.ntmps188 rfl rfl rfl ?_;(repeat' first|refine qv ?_|apply qn|apply qs|apply qr|refine qe ?_|fail);refine A9 rfl [(902,1),(903,4)] (Try_ret (tried1_ret h)) rfl rfl (AB _) rfl ⟨⟨⟨_,rfl,BLe.cells (AB _)⟩,rfl⟩,⟨⟨_,rfl,BLe.cells (AB _)⟩,rfl⟩,⟨⟨_,rfl,BLe.cells (AB _)⟩,rfl⟩,⟨⟨_,rfl,BLe.cells (AB _)⟩,rfl⟩,trivial⟩ rfl rfl rfl rfl rfl ?_;(repeat' first|refine qv ?_|apply qn|apply qs|apply qr|refine qe ?_|refine AF rfl ?_|apply qk|apply qt);exact⟨⟨[],_,_,AM _ _ _,rfl,AA _,rfl,⟨⟨⟨_,rfl,BLe.cells (AB _)⟩,rfl⟩,⟨⟨_,rfl,BLe.cells (AB _)⟩,rfl⟩,trivial⟩,rfl,rfl⟩⟩
theorem tried_thr {cf:FuncId} {p q:PZ} (h:IoFn Tryz.prog cf [.ptr 900 0,.ptr 901 0] (bPQ p q) (.thr (BT 4)) (bPQ p q)) :
  IoFn Tryz.prog 188 [.fn cf [.ptr 900 0,.ptr 901 0]] (bPQ p q) (.ret (.tup [aP ⟨0,[]⟩,aN 4])) []:=by
 refine IoFn.of_bodyD Tryz.func188 rfl Tryz.ntmps188 rfl rfl ?_;(repeat' first|refine qv ?_|apply qn|apply qs|apply qr|refine qe ?_|fail);refine A9 rfl [(902,1),(903,4)] (Try_thr (tried1_thr h)) rfl rfl (AB _) rfl ⟨⟨⟨_,rfl,BLe.cells (AB _)⟩,rfl⟩,⟨⟨_,rfl,BLe.cells (AB _)⟩,rfl⟩,⟨⟨_,rfl,BLe.cells (AB _)⟩,rfl⟩,⟨⟨_,rfl,BLe.cells (AB _)⟩,rfl⟩,trivial⟩ rfl rfl rfl rfl rfl ?_;(repeat' first|refine qv ?_|apply qn|apply qs|apply qr|refine qe ?_|refine AJ rfl ?_|apply qt);exact RetD1.of rfl (AV.Le.tup (LeL.cons aP_zero (AB _)))
theorem Mul1_io (V:Nat) (hV:V≤32) (p q:PZ) (hwp:WP p) (hwq:WP q) (hp:OkP p) (hq:OkP q) (hpv:p.vars=V) (hqv:q.vars=V) (res:Res)
  (hr1:∀r,EC V p q r→res = .ret (aP r)) (hr2:(¬∃r,EC V p q r)→res = .thr (BT 4)) :
  IoFn Tryz.prog 189 [.ptr 900 0,.ptr 901 0] (bPQ p q) res (bPQ p q):=by
 have h:=times_io V hV p q hwp hwq hp hq hpv hqv res hr1 hr2;refine AH Tryz.func189 rfl Tryz.ntmps189 rfl rfl rfl ?_;by_cases hg:∃r,EC V p q r
 ·obtain⟨r,hr⟩:=hg;have e1:=hr1 r hr;subst e1;(repeat' first|refine qv ?_|apply qn|apply qs|apply qr|refine qe ?_|fail);refine A9 rfl [] h rfl rfl (AB _) rfl trivial rfl rfl rfl rfl rfl ?_;(repeat' first|apply qn|refine qe ?_|apply qt);exact⟨⟨[],_,_,AM _ _ _,rfl,AA _,rfl,⟨⟨⟨_,rfl,BLe.cells (AB _)⟩,rfl⟩,⟨⟨_,rfl,BLe.cells (AB _)⟩,rfl⟩,trivial⟩,rfl,rfl⟩⟩
 ·have e1:=hr2 hg;subst e1;(repeat' first|refine qv ?_|apply qn|apply qs|apply qr|refine qe ?_|fail);exact A7 rfl [] h rfl (AB _) rfl trivial rfl (fun h=>by cases h) (fun _=>rfl)
theorem Add1_io (V:Nat) (hV:V≤32) (p q:PZ) (hwp:WP p) (hwq:WP q) (hp:OkP p) (hq:OkP q) (hpv:p.vars=V) (hqv:q.vars=V) (res:Res)
  (hr1:∀r,SumOk V (B6 1 p q) r→res = .ret (aP r)) (hr2:(¬∃r,SumOk V (B6 1 p q) r)→res = .thr (BT 4)) :
  IoFn Tryz.prog 192 [.ptr 900 0,.ptr 901 0] (bPQ p q) res (bPQ p q):=by
 have h:=plus_io V hV p q 1 fit_one hwp hwq hp hq hpv hqv (fun t ht=>by rw[Int.mul_one]; exact(D3 (hwq t ht) (hq.terms t ht).coef).2) res hr1 hr2;refine AH Tryz.func192 rfl Tryz.ntmps192 rfl rfl rfl ?_;by_cases hg:∃r,SumOk V (B6 1 p q) r
 ·obtain⟨r,hr⟩:=hg;have e1:=hr1 r hr;subst e1;(repeat' first|refine qv ?_|apply qn|apply qs|apply qr|refine qe ?_|fail);refine qc (Ct 1 (by omega) (by omega)) ?_;refine A9 rfl [] h rfl rfl (AB _) rfl trivial rfl rfl rfl rfl rfl ?_;(repeat' first|refine Fl.nil (fun _=>by kernel_rfl) ?_|refine qe ?_|apply qt);exact⟨⟨[],_,_,AM _ _ _,rfl,AA _,rfl,⟨⟨⟨_,rfl,BLe.cells (AB _)⟩,rfl⟩,⟨⟨_,rfl,BLe.cells (AB _)⟩,rfl⟩,trivial⟩,rfl,rfl⟩⟩
 ·have e1:=hr2 hg;subst e1;(repeat' first|refine qv ?_|apply qn|apply qs|apply qr|refine qe ?_|fail);refine qc (Ct 1 (by omega) (by omega)) ?_;exact A7 rfl [] h rfl (AB _) rfl trivial rfl (fun _=>by kernel_rfl) (fun _=>rfl)
theorem pMul_ok (V:Nat) (hV:V≤32) (p q:PZ) (hwp:WP p) (hwq:WP q) (hp:OkP p) (hq:OkP q) (hpv:p.vars=V) (hqv:q.vars=V) (r:AV)
  (hr1:∀x,EC V p q x→r = .tup [aP x,aN 0]) (hr2:(¬∃x,EC V p q x)→r = .tup [aP ⟨0,[]⟩,aN 4]) :
  PureFn Tryz.prog 157 [aP p,aP q] r:=by
 refine AC Tryz.func157 rfl Tryz.ntmps157 rfl rfl ?_;have hb:=both_ok p q hwp hwq;rw[bothE_ok hp hq,if_pos (hpv.trans hqv.symm)]at hb;(repeat' first|refine qv ?_|apply qn|apply qs|apply qr|refine qe ?_|fail);refine qc (hb) ?_;(repeat' first|refine qv ?_|apply qn|apply qs|apply qr|refine AF rfl ?_|apply qk);by_cases hg:∃x,EC V p q x
 ·obtain⟨x,hx⟩:=hg;rw[hr1 x hx]
  have hx':∀y,EC V p q y→(Res.ret (aP x)) = .ret (aP y):=fun y hy=>by
   have:=(hr1 x hx).symm.trans (hr1 y hy);injection this with this;injection this with this;rw[this]
  refine A9 rfl [(900,2),(901,3)] (tried_ret (Mul1_io V hV p q hwp hwq hp hq hpv hqv (.ret (aP x)) hx' (fun h=>absurd ⟨x,hx⟩ h))) rfl rfl (AB _) rfl ⟨⟨⟨_,rfl,BLe.cells (AB _)⟩,rfl⟩,⟨⟨_,rfl,BLe.cells (AB _)⟩,rfl⟩,trivial⟩ rfl rfl rfl rfl rfl ?_;(repeat' first|refine qv ?_|apply qn|refine qe ?_|apply qt);exact RetOk.of rfl (AA _)
 ·rw[hr2 hg];refine A9 rfl [(900,2),(901,3)] (tried_thr (Mul1_io V hV p q hwp hwq hp hq hpv hqv _ (fun y hy=>absurd ⟨y,hy⟩ hg) (fun _=>rfl))) rfl rfl (AB _) rfl ⟨⟨⟨_,rfl,BLe.cells (AB _)⟩,rfl⟩,⟨⟨_,rfl,BLe.cells (AB _)⟩,rfl⟩,trivial⟩ rfl rfl rfl rfl rfl ?_;(repeat' first|refine qv ?_|apply qn|refine qe ?_|apply qt);exact RetOk.of rfl (AA _)
theorem pAdd_ok (V:Nat) (hV:V≤32) (p q:PZ) (hwp:WP p) (hwq:WP q) (hp:OkP p) (hq:OkP q) (hpv:p.vars=V) (hqv:q.vars=V) (r:AV)
  (hr1:∀x,SumOk V (B6 1 p q) x→r = .tup [aP x,aN 0]) (hr2:(¬∃x,SumOk V (B6 1 p q) x)→r = .tup [aP ⟨0,[]⟩,aN 4]) :
  PureFn Tryz.prog 160 [aP p,aP q] r:=by
 refine AC Tryz.func160 rfl Tryz.ntmps160 rfl rfl ?_;have hb:=both_ok p q hwp hwq;rw[bothE_ok hp hq,if_pos (hpv.trans hqv.symm)]at hb;(repeat' first|refine qv ?_|apply qn|apply qs|apply qr|refine qe ?_|fail);refine qc (hb) ?_;(repeat' first|refine qv ?_|apply qn|apply qs|apply qr|refine AF rfl ?_|apply qk);by_cases hg:∃x,SumOk V (B6 1 p q) x
 ·obtain⟨x,hx⟩:=hg;rw[hr1 x hx]
  have hx':∀y,SumOk V (B6 1 p q) y→(Res.ret (aP x)) = .ret (aP y):=fun y hy=>by
   have:=(hr1 x hx).symm.trans (hr1 y hy);injection this with this;injection this with this;rw[this]
  refine A9 rfl [(900,2),(901,3)] (tried_ret (Add1_io V hV p q hwp hwq hp hq hpv hqv (.ret (aP x)) hx' (fun h=>absurd ⟨x,hx⟩ h))) rfl rfl (AB _) rfl ⟨⟨⟨_,rfl,BLe.cells (AB _)⟩,rfl⟩,⟨⟨_,rfl,BLe.cells (AB _)⟩,rfl⟩,trivial⟩ rfl rfl rfl rfl rfl ?_;(repeat' first|refine qv ?_|apply qn|refine qe ?_|apply qt);exact RetOk.of rfl (AA _)
 ·rw[hr2 hg];refine A9 rfl [(900,2),(901,3)] (tried_thr (Add1_io V hV p q hwp hwq hp hq hpv hqv _ (fun y hy=>absurd ⟨y,hy⟩ hg) (fun _=>rfl))) rfl rfl (AB _) rfl ⟨⟨⟨_,rfl,BLe.cells (AB _)⟩,rfl⟩,⟨⟨_,rfl,BLe.cells (AB _)⟩,rfl⟩,trivial⟩ rfl rfl rfl rfl rfl ?_;(repeat' first|refine qv ?_|apply qn|refine qe ?_|apply qt);exact RetOk.of rfl (AA _)
end Go.Proofs.YtmmfloplhopioaaGreat
/- The values of sums and products. -/
namespace Go.AL
theorem plop (v:Int):plI v+opI v=v:=by unfold plI opI; split<;>omega
theorem pv_sum (X:List Int) (p:PZ):pv X p=sumL (p.terms.map (tv X)):=by
 unfold pv PS OS
 induction p.terms with
 | nil=>rfl
 | cons t l ih=>
  have:=plop (tv X t);simp only[List.map_cons,sumL]at ih ⊢; omega
theorem sumL_perm {l m:List Int} (h:l.Perm m):sumL l=sumL m:=by
 induction h with
 | nil=>rfl
 | cons x _ ih=>simp only[sumL,ih]
 | swap x y l=>simp only[sumL]; omega
 | trans _ _ h1 h2=>exact h1.trans h2
def mv (X:List Int) (V:Nat) (xs:List ME):Int:=sumL (xs.map fun p=>p.2.1*AX X (p.1.1.take V))
def uv (X:List Int) (us:List UT):Int:=sumL (us.map fun u=>u.1*AX X u.2)
theorem uv_append (X:List Int) (a b:List UT):uv X (a++b)=uv X a+uv X b:=by simp[uv,Cp]
theorem Ea (X:List Int) (V:Nat) (a b:List ME):mv X V (a++b)=mv X V a+mv X V b:=by simp[mv,Cp]
theorem mv_cons (X:List Int) (V:Nat) (p:ME) (b:List ME):mv X V (p::b)=p.2.1*AX X (p.1.1.take V)+mv X V b:=rfl
theorem exK_take {e:List Int} {V:Nat} (h:e.length=V) (hV:V≤32):(exK e).1.take V=e:=by
 rw[Db (by omega)];show(e++List.replicate (32-e.length) 0).take V=e;rw[←h]; simp
theorem mv_step (X:List Int) {V:Nat} (hV:V≤32) (s:MS) (u:UT) (hl:u.2.length=V):mv X V (Ce s u).1=mv X V s.1+u.1*AX X u.2:=by
 obtain⟨xs,c⟩:=s;obtain⟨a,e⟩:=u;show mv X V (setM (exK e) (getM (exK e) xs+a) c xs)=mv X V xs+a*AX X e;simp only at hl;have hk:(exK e).1.take V=e:=exK_take hl hV;rcases Ex (exK e) (getM (exK e) xs+a) c xs with⟨h1,h2,h3⟩|⟨A,p,B,h1,h2,h3,h4,h5,h6⟩
 ·have hg:getM (exK e) xs=0:=by unfold getM; rw[h1]
  rcases h3 with⟨hy,h3⟩|⟨hy,h3⟩
  ·rw[h3]
   have:a=0:=by omega
   subst this; simp
  ·rw[h3,Ea,mv_cons,hg];show mv X V xs+((0+a)*AX X ((exK e).1.take V)+0)=_;rw[hk]; simp
 ·have hg:getM (exK e) xs=p.2.1:=by unfold getM; rw[h1]
  have hpk:p.1.1.take V=e:=by rw[h3]; exact hk
  rcases h6 with⟨hy,h6⟩|⟨hy,h6⟩
  ·rw[h6,h2,Ea,Ea,mv_cons,hpk]
   have:a = - p.2.1:=by omega
   show mv X V A+mv X V B=mv X V A+(p.2.1*AX X e+mv X V B)+a*AX X e;rw[this,Int.neg_mul]; omega
  ·rw[h6,Ea,mv_cons,hg]
   conv=>rhs; rw[h2,Ea,mv_cons,hpk]
   show mv X V A+((p.2.1+a)*AX X ((exK e).1.take V)+mv X V B)=mv X V A+(p.2.1*AX X e+mv X V B)+a*AX X e;rw[hk,Int.add_mul]; omega
theorem mv_run (X:List Int) {V:Nat} (hV:V≤32):∀ {us:List UT} {s s':MS},UOk V us→runM us s=some s'→mv X V s'.1=mv X V s.1+uv X us
 | [],s,s', _,h=>by
  simp only[runM]at h; injection h with h; subst h; simp[uv,sumL]
 | u::us,s,s', hu,h=>by
  unfold runM at h;split at h
  ·have:=mv_run X hV (us:=us) (fun v hv=>hu v (by simp[hv])) h;rw[this,mv_step X hV s u (hu u (by simp)).1];show _=mv X V s.1+(u.1*AX X u.2+uv X us);omega
  ·cases h
theorem tv_tmM (X:List Int) (V:Nat) (p:ME):tv X (tmM V p)=p.2.1*AX X (p.1.1.take V):=by
 show zval (zOf p.2.1)*_=_;rw[A4]; rfl
theorem SumOk.val {V:Nat} (hV:V≤32) {us:List UT} {r:PZ} (h:SumOk V us r) (hu:UOk V us) (X:List Int):pv X r=uv X us:=by
 obtain⟨s,h1,h2,h3⟩:=h;have:=mv_run X hV hu h1;subst h2;rw[pv_sum];show sumL ((Bj (s.1.map (tmM V))).map (tv X))=_;rw[sumL_perm ((CD _).map _),List.map_map];show sumL (s.1.map (fun p=>tv X (tmM V p)))=_;rw[show(fun p=>tv X (tmM V p))=(fun(p:ME)=>p.2.1*AX X (p.1.1.take V)) from funext (tv_tmM X V)];show mv X V s.1=_;rw[this];simp[mv,sumL]
theorem prodE_add:∀ {X a b:List Int},EOk a→EOk b→a.length=b.length→AX X (addE a b)=AX X a*AX X b
 | _,[],[],_,_,_=>by simp[addE,AX]
 | _,[],_::_,_,_,h=>by simp at h
 | _,_::_,[],_,_,h=>by simp at h
 | [],x::a,y::b,_,_,_=>by simp[addE,AX]
 | z::X,x::a,y::b,ha,hb,h=>by
  have hx:=ha x (by simp);have hy:=hb y (by simp);have:=prodE_add (X:=X) (a:=a) (b:=b) (fun e he=>ha e (by simp[he])) (fun e he=>hb e (by simp[he])) (by simpa using h);show z^(x+y).toNat*AX X (addE a b)=z^x.toNat*AX X a*(z^y.toNat*AX X b);rw[this,show(x+y).toNat=x.toNat+y.toNat by omega,Int.pow_add];simp only[Int.mul_assoc,Int.mul_left_comm]
theorem SumOk.okp {V:Nat} {us:List UT} {r:PZ} (h:SumOk V us r):OkP r∧r.vars=V∧WP r:=by
 obtain⟨s,h1,h2,h3⟩:=h;refine⟨h3,by rw[h2],fun t ht=>?_⟩;rw[h2]at ht;obtain⟨p,_,rfl⟩:=List.mem_map.1 ((CD _).mem_iff.1 ht);exact Ag _
end Go.AL
/- system.spread. -/
namespace Go.AL
def spr:Nat→Int→List Int→List Int→List Int
  | 0,_,_,_=>[]
  | n+1,k,v::vs,x::e=>if v=k then x::spr n (k+1) vs e else 0::spr n (k+1) (v::vs) (x::e)
  | n+1,k,_,_=>0::spr n (k+1) [] []
def incK:Int→Int→List Int→Prop
  | _,_,[]=>True
  | lo,hi,v::vs=>lo≤v∧v<hi∧incK (v+1) hi vs
theorem incK.mono {lo lo' hi:Int} (h:lo'≤lo):∀ {vs:List Int},incK lo hi vs→incK lo' hi vs
 | [],_=>trivial
 | _::_,⟨h1,h2,h3⟩=>⟨by omega,h2,h3⟩
theorem incK.imp_hi {lo hi hi':Int} {vs:List Int} (h:incK lo hi vs) (e:hi=hi'):incK lo hi' vs:=e▸h
theorem incK_of:∀ {vs:List Int} {lo hi:Int},incB lo hi vs→incK (lo+1) hi vs
 | [],_,_,_=>trivial
 | v::vs,lo,hi,⟨h1,h2,h3⟩=>⟨by omega,h2,incK_of h3⟩
theorem incK.up {k hi v:Int} {vs:List Int} (h:incK k hi (v::vs)) (hv:¬v=k):incK (k+1) hi (v::vs):=⟨by have:=h.1; omega,h.2.1,h.2.2⟩
theorem incK.tail {k hi v:Int} {vs:List Int} (h:incK k hi (v::vs)) (hv:v=k):incK (k+1) hi vs:=by have:=h.2.2; rwa [hv]at this
theorem spr_sum:∀(n:Nat) (k:Int) (vs e:List Int),vs.length=e.length→incK k (k+n) vs→sumL (spr n k vs e)=sumL e
 | 0,k,vs,e,hl,h=>by
  cases vs with
  | nil=>cases e with
   | nil=>rfl
   | cons _ _=>simp at hl
  | cons w vs=>have:=h.1; have:=h.2.1; omega
 | n+1,k,[],[],hl,h=>by
  simp only[spr,sumL];have:=spr_sum n (k+1) [] [] rfl trivial;simp only[sumL]at this; omega
 | n+1,k,w::vs,y::e,hl,h=>by
  simp only[spr];by_cases hw:w=k
  ·rw[if_pos hw];have:=spr_sum n (k+1) vs e (by simpa using hl) ((h.tail hw).imp_hi (by omega));simp only[sumL,this]
  ·rw[if_neg hw];have:=spr_sum n (k+1) (w::vs) (y::e) hl ((h.up hw).imp_hi (by omega));simp only[sumL]at this ⊢; omega
 | _+1,_,[],_::_,hl,_=>by simp at hl
 | _+1,_,_::_,[],hl,_=>by simp at hl
theorem spr_cmp:∀(n:Nat) (k:Int) (vs a b:List Int),vs.length=a.length→vs.length=b.length→incK k (k+n) vs→cmpL (spr n k vs a) (spr n k vs b)=cmpL a b
 | 0,k,vs,a,b,ha,hb,h=>by
  cases vs with
  | nil=>
   have h1:a=[]:=List.eq_nil_of_length_eq_zero (by simpa using ha.symm);have h2:b=[]:=List.eq_nil_of_length_eq_zero (by simpa using hb.symm);subst h1 h2; rfl
  | cons w vs=>have:=h.1; have:=h.2.1; omega
 | n+1,k,[],[],[],_,_,_=>cmpL_refl _
 | n+1,k,w::vs,x::a,y::b,ha,hb,h=>by
  simp only[spr];by_cases hw:w=k
  ·rw[if_pos hw,if_pos hw];have:=spr_cmp n (k+1) vs a b (by simpa using ha) (by simpa using hb) ((h.tail hw).imp_hi (by omega));simp only[cmpL,this]
  ·rw[if_neg hw,if_neg hw];have:=spr_cmp n (k+1) (w::vs) (x::a) (y::b) ha hb ((h.up hw).imp_hi (by omega))
   rw[show cmpL (0::spr n (k+1) (w::vs) (x::a)) (0::spr n (k+1) (w::vs) (y::b))=cmpL (spr n (k+1) (w::vs) (x::a)) (spr n (k+1) (w::vs) (y::b)) by
    conv=>lhs; unfold cmpL
    rw[if_pos (cmpI_zero.2 rfl)]]
   exact this
 | _+1,_,[],_::_,_,ha,_,_=>by simp at ha
 | _+1,_,[],[],_::_,_,hb,_=>by simp at hb
 | _+1,_,_::_,[],_,ha,_,_=>by simp at ha
 | _+1,_,_::_,_::_,[],_,hb,_=>by simp at hb
theorem spr_ord {n:Nat} {vs a b:List Int} (ha:vs.length=a.length) (hb:vs.length=b.length) (h:incK 0 n vs):ordI (spr n 0 vs a) (spr n 0 vs b)=ordI a b:=by
 have h':incK 0 (0+(n:Int)) vs:=h.imp_hi (by omega);unfold ordI;rw[spr_sum n 0 vs a ha h', spr_sum n 0 vs b hb h', spr_cmp n 0 vs b a hb ha h']
end Go.AL
/- system.spread: the walk; what it returns is valid. -/
namespace Go.AL
end Go.AL
namespace Go.Proofs.YtmmfloplhopioaaGreat
open Go.AL
end Go.Proofs.YtmmfloplhopioaaGreat
/- system.One. -/
namespace Go.AL
theorem SumOk.uniq {V:Nat} {us:List UT} {x y:PZ} (h1:SumOk V us x) (h2:SumOk V us y):x=y:=by
 obtain⟨s,a1,a2,_⟩:=h1;obtain⟨t,b1,b2,_⟩:=h2;rw[a1]at b1; injection b1 with b1; subst b1;rw[a2,b2]
end Go.AL
namespace Go.Proofs.YtmmfloplhopioaaGreat
open Go.AL
end Go.Proofs.YtmmfloplhopioaaGreat
/- Polynomials with few small numbers: sums by inspection. -/
namespace Go.AL
abbrev tz (u:UT):TZ:=⟨zOf u.1,u.2⟩
def mkP (V:Nat) (l:List UT):PZ:=⟨V,l.map tz⟩
def cfU:List UT→List Int→Int
  | [],_=>0
  | u::us,e=>(if u.2=e then u.1 else 0)+cfU us e
def absU:List UT→Nat
  | []=>0
  | u::us=>u.1.natAbs+absU us
theorem Bg:∀(a b:List UT) (e:List Int),cfU (a++b) e=cfU a e+cfU b e
 | [],b,e=>by simp[cfU]
 | u::a,b,e=>by simp only[List.cons_append,cfU,Bg a b e]; omega
theorem cfU_abs:∀(us:List UT) (e:List Int),(cfU us e).natAbs≤absU us
 | [],_=>by simp[cfU,absU]
 | u::us,e=>by
  have:=cfU_abs us e;simp only[cfU,absU];split<;>omega
theorem getM_of {k:Key} {A B:List ME} {p:ME} (hk:p.1=k) (hA:∀q∈A,q.1≠k):getM k (A++p::B)=p.2.1:=by
 unfold getM; rw[findM_hit hk 0 hA]
theorem getM_miss {k:Key} {xs:List ME} (h:∀q∈xs,q.1≠k):getM k xs=0:=by
 unfold getM; rw[findM_miss 0 h]
def getR (k:Key):List ME→Int
  | []=>0
  | p::xs=>if k=p.1 then p.2.1 else getR k xs
theorem getM_R (k:Key) (xs:List ME):getM k xs=getR k xs:=by
 have:∀(xs:List ME) (i:Nat),(match Am k xs i with|some (_,p)=>p.2.1|none=>(0:Int))=getR k xs:=by
  intro xs
  induction xs with
  | nil=>intro i; rfl
  | cons p xs ih=>
   intro i;unfold Am getR;by_cases h:k=p.1
   ·rw[if_pos h,if_pos h]
   ·rw[if_neg h,if_neg h]; exact ih (i+1)
 exact this xs 0
theorem getM_step (s:MS) (u:UT) (V:Nat) (m:MOk V s.1 s.2) (k:Key):getM k (Ce s u).1=if k=exK u.2 then getM (exK u.2) s.1+u.1 else getM k s.1:=by
 obtain⟨xs,c⟩:=s;obtain⟨a,e⟩:=u;show getM k (setM (exK e) (getM (exK e) xs+a) c xs)=_
 have other:∀(A B:List ME) (p q:ME),p.1=exK e→q.1=exK e→k≠exK e→getM k (A++p::B)=getM k (A++q::B)∧getM k (A++p::B)=getM k (A++B):=by
  intro A B p q hp hq hk
  have f:∀(A:List ME) (r:ME),r.1=exK e→getR k (A++r::B)=getR k (A++B):=by
   intro A
   induction A with
   | nil=>intro r hr; simp only[List.nil_append,getR]; rw[if_neg (by rw[hr]; exact hk)]
   | cons b A ih=>intro r hr; simp only[List.cons_append,getR]; rw[ih r hr]
  simp only[getM_R];exact⟨(f A p hp).trans (f A q hq).symm,f A p hp⟩
 rcases Ex (exK e) (getM (exK e) xs+a) c xs with⟨h1,h2,h3⟩|⟨A,p,B,h1,h2,h3,h4,h5,h6⟩
 ·have hg:getM (exK e) xs=0:=by unfold getM; rw[h1]
  have hno:=FH h1;rcases h3 with⟨hy,h3⟩|⟨hy,h3⟩
  ·rw[h3];split
   ·rename_i hk; rw[hk]; show getM (exK e) xs=getM (exK e) xs+a; omega
   ·rfl
  ·rw[h3];split
   ·rename_i hk; rw[hk]; exact getM_of (k:=exK e) (A:=xs) (B:=[]) (p:=(exK e,getM (exK e) xs+a,c)) rfl hno
   ·rename_i hk;have:=(other xs [] (exK e,getM (exK e) xs+a,c) (exK e,0,0) rfl rfl hk).2;rw[List.append_nil]at this;exact this
 ·have hg:getM (exK e) xs=p.2.1:=by rw[h2]; exact getM_of h3 h4
  have hB:∀q∈B,q.1≠exK e:=by
   have hk:=m.keys;simp only at hk;rw[h2,List.pairwise_append,List.pairwise_cons]at hk;intro q hq e';exact hk.2.1.1 q hq (by rw[h3,e'])
  rcases h6 with⟨hy,h6⟩|⟨hy,h6⟩
  ·rw[h6];split
   ·rename_i hk;rw[hk,getM_miss (fun q hq=>(List.mem_append.1 hq).elim (h4 q) (hB q))];show(0:Int)=getM (exK e) xs+a;omega
   ·rename_i hk;rw[h2];exact(other A B p p h3 h3 hk).2.symm
  ·rw[h6];split
   ·rename_i hk;rw[hk]; exact getM_of (k:=exK e) (A:=A) (B:=B) (p:=(exK e,getM (exK e) xs+a,p.2.2)) rfl h4
   ·rename_i hk;rw[h2];exact(other A B (exK e,getM (exK e) (A++p::B)+a,p.2.2) p rfl h3 hk).1
theorem exK_inj {V:Nat} {a b:List Int} (ha:a.length=V) (hb:b.length=V) (hV:V≤32) (h:exK a=exK b):a=b:=by
 rw[Db (by omega),Db (by omega)]at h;exact expK_inj (by omega) h
theorem runM_cf {V:Nat} (hV:V≤32):∀(us:List UT) (s:MS) (pre:List UT),MOk V s.1 s.2→UOk V us→(∀e:List Int,e.length=V→getM (exK e) s.1=cfU pre e)→absU pre+absU us<4294967296 →
  ∃s', runM us s=some s'∧MOk V s'.1 s'.2∧∀e:List Int,e.length=V→getM (exK e) s'.1=cfU (pre++us) e
 | [],s,pre,m,_,hg,_=>⟨s,rfl,m,by simpa using hg⟩
 | u::us,s,pre,m,hu,hg,hab=>by
  obtain⟨hl,he⟩:=hu u (by simp);have hab':absU pre+(u.1.natAbs+absU us)<4294967296:=hab
  have hap:∀(a b:List UT),absU (a++b)=absU a+absU b:=by
   intro a b
   induction a with
   | nil=>simp[absU]
   | cons x a ih=>simp only[List.cons_append,absU,ih]; omega
  have hf:Fit (getM (exK u.2) s.1+u.1):=by
   rw[hg _ hl];have:=cfU_abs pre u.2;exact B8 (by omega) (by omega)
  have ms:MOk V (Ce s u).1 (Ce s u).2:=m.step hV hl he hf
  obtain⟨s', h1,h2,h3⟩:=runM_cf hV us (Ce s u) (pre++[u]) ms (fun v hv=>hu v (by simp[hv])) (fun e hel=>by
   rw[getM_step s u V m,Bg];split
   ·rename_i hk;have:=exK_inj hel hl hV hk;subst this;rw[hg _ hel]; simp[cfU]
   ·rename_i hk;have hne:¬u.2=e:=fun h=>hk (by rw[h])
    rw[hg _ hel]; simp[cfU,hne]) (by rw[hap]; simp only[absU]; omega)
  refine⟨s', ?_,h2,?_⟩
  ·unfold runM; rw[if_pos hf]; exact h1
  ·simpa[List.append_assoc]using h3
end Go.AL
/- Sums by inspection: the lists that are asked for. -/
namespace Go.AL
theorem sorted_ext:∀ {a b:List TZ},a.Pairwise (fun x y=>ordI x.e y.e<0)→b.Pairwise (fun x y=>ordI x.e y.e<0)→(∀t,t∈a↔t∈b)→a=b
 | [],[],_,_,_=>rfl
 | [],y::b,_,_,h=>by have:=(h y).2 (by simp); cases this
 | x::a,[],_,_,h=>by have:=(h x).1 (by simp); cases this
 | x::a,y::b,ha,hb,h=>by
  rw[List.pairwise_cons]at ha hb
  have irr:∀t:TZ,¬ordI t.e t.e<0:=fun t k=>by rw[Dq]at k; omega
  have hxy:x=y:=by
   rcases List.mem_cons.1 ((h x).1 (by simp))with h1|h1
   ·exact h1
   ·rcases List.mem_cons.1 ((h y).2 (by simp))with h2|h2
    ·exact h2.symm
    ·exact absurd (CR (hb.1 x h1) (ha.1 y h2)) (irr y)
  subst hxy;rw[sorted_ext ha.2 hb.2 fun t=>?_];constructor
  ·intro ht;rcases List.mem_cons.1 ((h t).1 (by simp[ht]))with h1|h1
   ·subst h1; exact absurd (ha.1 t ht) (irr t)
   ·exact h1
  ·intro ht;rcases List.mem_cons.1 ((h t).2 (by simp[ht]))with h1|h1
   ·subst h1; exact absurd (hb.1 t ht) (irr t)
   ·exact h1
def sortedU:List UT→Bool
  | []=>true
  | u::l=>l.all (fun v=>decide (ordI u.2 v.2<0))&&sortedU l
theorem sortedU_pw:∀ {l:List UT},sortedU l=true→l.Pairwise fun u v=>ordI u.2 v.2<0
 | [],_=>List.Pairwise.nil
 | u::l,h=>by
  simp only[sortedU,Bool.and_eq_true,List.all_eq_true,decide_eq_true_eq]at h;exact List.pairwise_cons.2 ⟨h.1,sortedU_pw h.2⟩
def okU (V:Nat) (u:UT):Bool:=Nat.beq u.2.length V&&u.2.all fun x=>decide (0≤x)&&decide (x≤120)
def chkU (V:Nat) (us l:List UT):Bool:=
  us.all (okU V)&&l.all (fun u=>okU V u&&decide (u.1≠0)&&decide (sumL u.2≤120))&&sortedU l&&decide (l.length≤3000)&&decide (absU us<4294967296)&&decide (absU l<4294967296)&&us.all (fun u=>decide (cfU us u.2=cfU l u.2))&&l.all (fun u=>decide (cfU us u.2=cfU l u.2))
theorem okU_ok {V:Nat} {u:UT} (h:okU V u=true):u.2.length=V∧EOk u.2:=by
 simp only[okU,Bool.and_eq_true,List.all_eq_true,decide_eq_true_eq]at h;exact⟨Nat.eq_of_beq_eq_true h.1,fun e he=>h.2 e he⟩
theorem cfU_zero:∀ {us:List UT} {e:List Int},(∀u∈us,u.2≠e)→cfU us e=0
 | [],_,_=>rfl
 | u::us,e,h=>by
  simp only[cfU,if_neg (h u (by simp)),cfU_zero (us:=us) fun v hv=>h v (by simp[hv])];rfl
theorem cfU_one:∀ {l:List UT} {u:UT},l.Pairwise (fun u v=>ordI u.2 v.2<0)→u∈l→cfU l u.2=u.1
 | v::l,u,hp,hu=>by
  rw[List.pairwise_cons]at hp;rcases List.mem_cons.1 hu with rfl|hu
  ·simp only[cfU,if_true];rw[cfU_zero (us:=l) fun w hw k=>by have:=hp.1 w hw; rw[k,Dq]at this; omega];omega
  ·have:=hp.1 u hu
   have hne:¬v.2=u.2:=fun k=>by rw[k,Dq]at this; omega
   simp only[cfU,if_neg hne,cfU_one hp.2 hu];omega
theorem cfU_mem {us:List UT} {e:List Int} (h:cfU us e≠0):∃u∈us,u.2=e:=by
 rcases Classical.em (∃u∈us,u.2=e)with k|k
 ·exact k
 ·exact absurd (cfU_zero fun u hu he=>k ⟨u,hu,he⟩) h
theorem absU_mem:∀ {l:List UT} {u:UT},u∈l→u.1.natAbs≤absU l
 | v::l,u,h=>by
  rcases List.mem_cons.1 h with rfl|h
  ·simp only[absU]; omega
  ·have:=absU_mem h; simp only[absU]; omega
theorem chkU_ok {V:Nat} (hV:V≤32) {us l:List UT} (h:chkU V us l=true):SumOk V us (mkP V l):=by
 simp only[chkU,Bool.and_eq_true,List.all_eq_true,decide_eq_true_eq]at h;obtain⟨⟨⟨⟨⟨⟨⟨h1,h2⟩,h3⟩,h4⟩,h5⟩,h6⟩,h7⟩,h8⟩:=h;have hus:UOk V us:=fun u hu=>okU_ok (h1 u hu);have hpw:=sortedU_pw h3;obtain⟨s,r1,r2,r3⟩:=runM_cf hV us ([],0) [] (MOk.nil V) hus (fun e _=>by simp[getM,Am,cfU]) (by simp only[absU]; omega);simp only[List.nil_append]at r3
 have hstr:(Bj (s.1.map (tmM V))).Pairwise fun a b=>ordI a.e b.e<0:=by
  have p1:=Ev (s.1.map (tmM V));have p2:=(List.Perm.pairwise_iff (fun h=>Ne.symm h) (CD (s.1.map (tmM V)))).2 r2.parts;refine(p1.and p2).imp fun {a b} hab=>?_;rcases leT_iff.1 hab.1 with k|k
  ·exact k
  ·exact absurd k hab.2
 have hget:∀p∈s.1,getM p.1 s.1=p.2.1:=by
  intro p hp;obtain⟨A,B,hAB⟩:=List.append_of_mem hp;have hk:=r2.keys;rw[hAB]at hk ⊢;rw[List.pairwise_append]at hk;exact getM_of rfl fun q hq=>hk.2.2 q hq p (by simp)
 have hl:Bj (s.1.map (tmM V))=l.map tz:=by
  refine sorted_ext hstr (by rw[List.pairwise_map]; exact hpw) fun t=>?_;rw[(CD _).mem_iff];constructor
  ·intro ht;obtain⟨p,hp,rfl⟩:=List.mem_map.1 ht;obtain⟨e,he,k1,k2,k3⟩:=r2.exp p hp
   have hc:cfU us e=p.2.1:=by
    rw[←r3 e k2,Db he,←k1]; exact hget p hp
   obtain⟨u,hu,hue⟩:=cfU_mem (us:=us) (e:=e) (by rw[hc]; exact r2.nz p hp)
   have hc2:cfU l e=p.2.1:=by rw[←hc,←hue]; exact(h7 u hu).symm
   obtain⟨v,hv,hve⟩:=cfU_mem (us:=l) (e:=e) (by rw[hc2]; exact r2.nz p hp);have hv1:=cfU_one hpw hv;rw[hve,hc2]at hv1;refine List.mem_map.2 ⟨v,hv,?_⟩;have he2:=tmM_exp k1 k2;show(⟨zOf v.1,v.2⟩:TZ)=tmM V p;rw[←hv1,hve];show(⟨zOf p.2.1,e⟩:TZ)=⟨zOf p.2.1,(tmM V p).e⟩;rw[he2]
  ·intro ht;obtain⟨v,hv,rfl⟩:=List.mem_map.1 ht;have hv2:=h2 v hv;obtain⟨hl1,_⟩:=okU_ok hv2.1.1
   have hc:getM (exK v.2) s.1=v.1:=by rw[r3 _ hl1,h8 v hv]; exact cfU_one hpw hv
   unfold getM at hc
   cases hf:Am (exK v.2) s.1 0 with
   | none=>rw[hf]at hc; exact absurd hc.symm hv2.1.2
   | some q=>
    obtain⟨j,p⟩:=q;rw[hf]at hc;have hc:p.2.1=v.1:=hc;obtain⟨_,g1,g2⟩:=DD hf;refine List.mem_map.2 ⟨p,List.mem_of_getElem? g1,?_⟩
    have h32:v.2.length≤32:=by omega
    have he2:=tmM_exp (V:=V) (p:=p) (he:=h32) (by rw[←Db h32]; exact g2) hl1;show(⟨zOf p.2.1,(tmM V p).e⟩:TZ)=⟨zOf v.1,v.2⟩;rw[he2,hc]
 refine⟨s,r1,by rw[hl]; rfl,⟨by simp[mkP],by simp[mkP]; omega,by simpa[mkP]using h4,fun t ht=>?_,fun i a b ha hb=>?_⟩⟩
 ·obtain⟨v,hv,rfl⟩:=List.mem_map.1 ht;obtain⟨⟨k1,k2⟩,k3⟩:=h2 v hv;obtain⟨hl1,hl2⟩:=okU_ok k1;have hb:=absU_mem hv;have hf:Fit v.1:=B8 (by omega) (by omega);refine⟨Di hf,fun hz=>k2 ?_,by simp[mkP,hl1],hl2,k3⟩;have:=(BO (show(0:Int)≤v.1.natAbs by omega)).1 (List.eq_nil_of_length_eq_zero hz);omega
 ·simp only[mkP,List.getElem?_map,Option.map_eq_some_iff]at ha hb;obtain⟨u,hu,rfl⟩:=ha;obtain⟨v,hv,rfl⟩:=hb;rw[List.pairwise_iff_getElem]at hpw;have hi:=(List.getElem?_eq_some_iff.1 hu);have hj:=(List.getElem?_eq_some_iff.1 hv);have:=hpw i (i+1) hi.1 hj.1 (by omega);rw[hi.2,hj.2]at this;exact this
theorem plusU_mk (b:Int) (V:Nat) (a l:List UT):B6 b (mkP V a) (mkP V l)=a++l.map fun u=>(u.1*b,u.2):=by
 unfold B6 mkP;simp only[List.map_map];congr 1
 ·conv=>rhs; rw[←List.map_id a]
  exact List.map_congr_left fun u _=>by show(zval (zOf u.1),u.2)=u; rw[A4]
 ·exact List.map_congr_left fun u _=>by show(zval (zOf u.1)*b,u.2)=_; rw[A4]
theorem timesU_mk (V:Nat) (a l:List UT):DX (mkP V a) (mkP V l)=a.flatMap fun t=>l.map fun u=>(t.1*u.1,addE t.2 u.2):=by
 unfold DX mkP rowU;rw[List.flatMap_map];congr 1;funext t;rw[List.map_map];refine List.map_congr_left fun u _=>?_;show(zval (zOf t.1)*zval (zOf u.1),addE t.2 u.2)=_;rw[A4,A4]
end Go.AL
/- Add and Mul of polynomials with few small numbers. -/
namespace Go.AL
def insU (u:UT):List UT→List UT
  | []=>if u.1=0 then[]else[u]
  | v::l=>if ordI u.2 v.2<0 then(if u.1=0 then v::l else u::v::l)else if u.2=v.2 then(if u.1+v.1=0 then l else(u.1+v.1,u.2)::l)else v::insU u l
def canU (us:List UT):List UT:=us.foldr insU []
def Bu (b:Int) (p q:List UT):List UT:=p++q.map fun u=>(u.1*b,u.2)
def Bo (p q:List UT):List UT:=p.flatMap fun t=>q.map fun u=>(t.1*u.1,addE t.2 u.2)
def addL (p q:List UT):List UT:=canU (Bu 1 p q)
def subL (p q:List UT):List UT:=canU (Bu (-1) p q)
def Aq (p q:List UT):List UT:=canU (Bo p q)
theorem mk_ok {V:Nat} (hV:V≤32) {l:List UT} (h:chkU V l l=true):OkP (mkP V l)∧(mkP V l).vars=V∧WP (mkP V l):=(chkU_ok hV h).okp
def degU (p q:List UT):Bool:=match p,q with
  | t::_,u::_=>decide (sumL t.2+sumL u.2≤120)
  | _,_=>true
theorem degU_ok {V:Nat} {p q:List UT} (h:degU p q=true):DegOk (mkP V p) (mkP V q):=by
 intro t u ht hu
 cases p with
 | nil=>simp[mkP]at ht
 | cons a p=>
  cases q with
  | nil=>simp[mkP]at hu
  | cons b q=>
   simp only[mkP,List.map_cons,List.getElem?_cons_zero,Option.some.injEq]at ht hu;subst ht hu;simpa[degU]using h
end Go.AL
namespace Go.Proofs.YtmmfloplhopioaaGreat
open Go.AL
theorem addMk (V:Nat) (hV:V≤32) (p q l:List UT) (hp:chkU V p p=true) (hq:chkU V q q=true) (h:chkU V (Bu 1 p q) l=true):PureFn Tryz.prog 160 [aP (mkP V p),aP (mkP V q)] (.tup [aP (mkP V l),aN 0]):=by
 obtain⟨p1,p2,p3⟩:=mk_ok hV hp;obtain⟨q1,q2,q3⟩:=mk_ok hV hq
 have hs:SumOk V (B6 1 (mkP V p) (mkP V q)) (mkP V l):=by rw[plusU_mk]; exact chkU_ok hV h
 exact pAdd_ok V hV _ _ p3 q3 p1 q1 p2 q2 _ (fun x hx=>by rw[hs.uniq hx]) (fun k=>absurd ⟨_,hs⟩ k)
theorem mulMk (V:Nat) (hV:V≤32) (p q l:List UT) (hp:chkU V p p=true) (hq:chkU V q q=true) (hd:degU p q=true) (h:chkU V (Bo p q) l=true):PureFn Tryz.prog 157 [aP (mkP V p),aP (mkP V q)] (.tup [aP (mkP V l),aN 0]):=by
 obtain⟨p1,p2,p3⟩:=mk_ok hV hp;obtain⟨q1,q2,q3⟩:=mk_ok hV hq
 have hs:SumOk V (DX (mkP V p) (mkP V q)) (mkP V l):=by rw[timesU_mk]; exact chkU_ok hV h
 have hpr:∀t∈(mkP V p).terms,∀u∈(mkP V q).terms,Fit (zval t.c*zval u.c):=by
  intro t ht u hu;obtain⟨a,ha,rfl⟩:=List.mem_map.1 ht;obtain⟨b,hb,rfl⟩:=List.mem_map.1 hu;show Fit (zval (zOf a.1)*zval (zOf b.1));rw[A4,A4];have hm:(a.1*b.1,addE a.2 b.2)∈Bo p q:=List.mem_flatMap.2 ⟨a,ha,List.mem_map.2 ⟨b,hb,rfl⟩⟩;have h1:=absU_mem hm;simp only[chkU,Bool.and_eq_true,decide_eq_true_eq]at h;exact B8 (by simp only at h1; omega) (by simp only at h1; omega)
 have hP:EC V (mkP V p) (mkP V q) (mkP V l):=⟨degU_ok hd,hpr,hs⟩;exact pMul_ok V hV _ _ p3 q3 p1 q1 p2 q2 _ (fun x hx=>by rw[hs.uniq hx.2.2]) (fun k=>absurd ⟨_,hP⟩ k)
end Go.Proofs.YtmmfloplhopioaaGreat
/- Polynomials by their coefficients: what is ordered and without zeros is told by them. -/
namespace Go.AL
structure CanU (l:List UT):Prop where
  nz:∀u∈l,u.1≠0
  pw:l.Pairwise fun u v=>ordI u.2 v.2<0
theorem CanU.nil:CanU []:=⟨by simp,List.Pairwise.nil⟩
theorem CanU.tail {u:UT} {l:List UT} (h:CanU (u::l)):CanU l:=⟨fun v hv=>h.nz v (by simp[hv]),(List.pairwise_cons.1 h.pw).2⟩
theorem CanU.head {u:UT} {l:List UT} (h:CanU (u::l)):∀v∈l,ordI u.2 v.2<0:=(List.pairwise_cons.1 h.pw).1
theorem CanU.cons {u:UT} {l:List UT} (h:CanU l) (h1:u.1≠0) (h2:∀v∈l,ordI u.2 v.2<0):CanU (u::l):=⟨fun v hv=>by
 rcases List.mem_cons.1 hv with rfl|hv
 ·exact h1
 ·exact h.nz v hv,List.pairwise_cons.2 ⟨h2,h.pw⟩⟩
theorem insU_mem {u v:UT}:∀ {l:List UT},v∈insU u l→v.2=u.2∨∃w∈l,v.2=w.2
 | [],h=>by
  unfold insU at h;split at h
  ·simp at h
  ·simp at h; exact .inl (by rw[h])
 | w :: l,h=>by
  unfold insU at h;split at h
  ·split at h
   ·exact .inr ⟨v,h,rfl⟩
   ·rcases List.mem_cons.1 h with rfl|h
    ·exact .inl rfl
    ·exact .inr ⟨v,h,rfl⟩
  ·split at h
   ·split at h
    ·exact .inr ⟨v,by simp[h],rfl⟩
    ·rcases List.mem_cons.1 h with rfl|h
     ·exact .inl rfl
     ·exact .inr ⟨v,by simp[h],rfl⟩
   ·rcases List.mem_cons.1 h with rfl|h
    ·exact .inr ⟨v,by simp,rfl⟩
    ·rcases insU_mem h with h|⟨x,hx,e⟩
     ·exact .inl h
     ·exact .inr ⟨x,by simp[hx],e⟩
theorem insU_can {u:UT}:∀ {l:List UT},CanU l→CanU (insU u l)
 | [],h=>by
  unfold insU;split
  ·exact CanU.nil
  ·rename_i hz; exact CanU.nil.cons hz (by simp)
 | w :: l,h=>by
  unfold insU;split
  ·rename_i ho;split
   ·exact h
   ·rename_i hz;refine h.cons hz fun v hv=>?_;rcases List.mem_cons.1 hv with rfl|hv
    ·exact ho
    ·exact CR ho (h.head v hv)
  ·rename_i ho;split
   ·rename_i he;split
    ·exact h.tail
    ·rename_i hz
     exact h.tail.cons hz fun v hv=>by show ordI u.2 v.2<0; rw[he]; exact h.head v hv
   ·rename_i he;refine(insU_can h.tail).cons (h.nz w (by simp)) fun v hv=>?_;rcases insU_mem hv with h1|⟨x,hx,e⟩
    ·rw[h1];rcases C9 u.2 w.2 with k|k|k
     ·exact absurd k ho
     ·exact absurd k he
     ·exact k
    ·rw[e]; exact h.head x hx
theorem cfU_insU (u:UT) (e:List Int):∀l:List UT,cfU (insU u l) e=(if u.2=e then u.1 else 0)+cfU l e
 | []=>by
  unfold insU;split
  ·rename_i hz; simp[cfU,hz]
  ·simp[cfU]
 | w::l=>by
  unfold insU;split
  ·split
   ·rename_i hz; simp only[cfU]; rw[hz]; split<;>omega
   ·simp only[cfU]
  ·split
   ·rename_i he;split
    ·rename_i hz;simp only[cfU];rw[he];split<;>omega
    ·simp only[cfU];rw[he];split<;>omega
   ·simp only[cfU];rw[cfU_insU u e l];omega
theorem CX:∀us:List UT,CanU (canU us)
 | []=>CanU.nil
 | u::us=>insU_can (CX us)
theorem Bf (e:List Int):∀us:List UT,cfU (canU us) e=cfU us e
 | []=>rfl
 | u::us=>by
  show cfU (insU u (canU us)) e=_;rw[cfU_insU,Bf e us];rfl
theorem canU_mem {v:UT}:∀ {us:List UT},v∈canU us→∃w∈us,v.2=w.2
 | [],h=>by simp[canU]at h
 | u::us,h=>by
  have h':v∈insU u (canU us):=h;rcases insU_mem h' with h1|⟨x,hx,e⟩
  ·exact⟨u,by simp,h1⟩
  ·obtain⟨w,hw,e2⟩:=canU_mem hx;exact⟨w,by simp[hw],by rw[e,e2]⟩
theorem zOf_inj {x y:Int} (h:zOf x=zOf y):x=y:=by
 have:=congrArg zval h;rwa [A4,A4]at this
theorem tz_inj {u v:UT} (h:tz u=tz v):u=v:=by
 obtain⟨a,e⟩:=u;obtain⟨b,f⟩:=v;injection h with h1 h2;have h3:=zOf_inj h1;dsimp only at h2 h3;subst h2 h3;rfl
theorem CanU.mem_iff {l:List UT} (h:CanU l) (u:UT):u∈l↔u.1≠0∧cfU l u.2=u.1:=by
 refine⟨fun k=>⟨h.nz u k,cfU_one h.pw k⟩,fun⟨k1,k2⟩=>?_⟩;obtain⟨v,hv,e⟩:=cfU_mem (us:=l) (e:=u.2) (by rw[k2]; exact k1);have:=cfU_one h.pw hv;rw[e,k2]at this
 have:u=v:=by cases u; cases v; simp_all
 rwa [this]
theorem CanU.pw_tz {l:List UT} (h:CanU l):(l.map tz).Pairwise fun x y=>ordI x.e y.e<0:=List.pairwise_map.2 h.pw
theorem CanU.ext {a b:List UT} (ha:CanU a) (hb:CanU b) (h:∀e,cfU a e=cfU b e):a=b:=by
 have key:a.map tz=b.map tz:=sorted_ext ha.pw_tz hb.pw_tz fun t=>by
  simp only[List.mem_map];constructor
  ·rintro⟨u,hu,rfl⟩;exact⟨u,(hb.mem_iff u).2 (by rw[←h]; exact(ha.mem_iff u).1 hu),rfl⟩
  ·rintro⟨u,hu,rfl⟩;exact⟨u,(ha.mem_iff u).2 (by rw[h]; exact(hb.mem_iff u).1 hu),rfl⟩
 have inj:∀ {a b:List UT},a.map tz=b.map tz→a=b:=by
  intro a
  induction a with
  | nil=>intro b h; cases b with
   | nil=>rfl
   | cons x b=>simp at h
  | cons x a ih=>intro b h; cases b with
   | nil=>simp at h
   | cons y b=>
    simp only[List.map_cons,List.cons.injEq]at h;rw[tz_inj (u:=x) (v:=y) (by rw[tz,tz]; simpa using h.1),ih h.2]
 exact inj key
theorem CanU.eq_can {l us:List UT} (h:CanU l) (he:∀e,cfU l e=cfU us e):l=canU us:=h.ext (CX us) fun e=>by rw[he,Bf]
theorem CanU.can {l:List UT} (h:CanU l):canU l=l:=(h.eq_can fun _=>rfl).symm
theorem Co {a b:List UT} (h:∀e,cfU a e=cfU b e):canU a=canU b:=(CX a).ext (CX b) fun e=>by rw[Bf,Bf,h]
theorem Ec (u:UT) (l:List UT):De (tz u) (l.map tz)=(if u.1=0 then l else u::l).map tz:=by
 have hl:(tz u).c.w.length=0↔u.1=0:=toW_len0 u.1;by_cases h:u.1=0
 ·rw[keepT_0 (hl.2 h),if_pos h]
 ·rw[keepT_1 (fun k=>h (hl.1 k)),if_neg h]; rfl
theorem sumT_tz (u v:UT):sumT (tz u) (tz v)=tz (u.1+v.1,u.2):=by
 show TZ.mk (zOf (zval (zOf u.1)+zval (zOf v.1))) u.2=_;rw[A4,A4]
def lenU (V:Nat) (l:List UT):Prop:=∀u∈l,u.2.length=V
theorem rOrd_neg {a b:List Int} (h:a.length=b.length):rOrd a b = -1↔ordI b a<0:=by
 have h1:rOrd a b = - rOrd b a:=by
  unfold rOrd;rw[ordX_eq _ _ _ _ h,ordX_eq _ _ _ _ h.symm];by_cases e:sumL a=sumL b
  ·rw[if_pos e,if_pos e.symm,cmpL_swap _ _ h]
  ·rw[if_neg e,if_neg (fun k=>e k.symm),cmpI_swap]
 rw[←rOrd_one h.symm,h1]; omega
theorem merge_can (V:Nat):∀(n:Nat) (a b:List UT),a.length+b.length≤n→CanU a→CanU b→lenU V a→lenU V b →
  ∃l,As (a.map tz) (b.map tz)=l.map tz∧CanU l∧(∀e,cfU l e=cfU a e+cfU b e)∧∀u∈l,(∃v∈a,u.2=v.2)∨∃v∈b,u.2=v.2:=by
 intro n
 induction n with
 | zero=>
  intro a b hn ha hb _ _;have ha0:a=[]:=List.eq_nil_of_length_eq_zero (by omega);have hb0:b=[]:=List.eq_nil_of_length_eq_zero (by omega);subst ha0 hb0;exact⟨[],by simp[As],CanU.nil,fun e=>by simp[cfU],by simp⟩
 | succ n ih=>
  intro a b hn ha hb la lb
  cases a with
  | nil=>cases b with
   | nil=>exact⟨[],by simp[As],CanU.nil,fun e=>by simp[cfU],by simp⟩
   | cons w b=>
    obtain⟨l,h1,h2,h3,h4⟩:=ih [] b (by simp at hn ⊢; omega) ha hb.tail la (fun u hu=>lb u (by simp[hu]));refine⟨w::l,?_,h2.cons (hb.nz w (by simp)) (fun v hv=>?_),fun e=>?_,fun u hu=>?_⟩
    ·rw[List.map_nil]at h1 ⊢;rw[List.map_cons,As,h1,Ec,if_neg (hb.nz w (by simp))]
    ·rcases h4 v hv with⟨x,hx,e⟩|⟨x,hx,e⟩
     ·simp at hx
     ·rw[e]; exact hb.head x hx
    ·simp only[cfU,h3]; omega
    ·rcases List.mem_cons.1 hu with rfl|hu
     ·exact .inr ⟨u,by simp,rfl⟩
     ·rcases h4 u hu with⟨x,hx,e⟩|⟨x,hx,e⟩
      ·simp at hx
      ·exact .inr ⟨x,by simp[hx],e⟩
  | cons u a=>cases b with
   | nil=>
    obtain⟨l,h1,h2,h3,h4⟩:=ih a [] (by simp at hn ⊢; omega) ha.tail hb (fun v hv=>la v (by simp[hv])) lb;refine⟨u::l,?_,h2.cons (ha.nz u (by simp)) (fun v hv=>?_),fun e=>?_,fun v hv=>?_⟩
    ·rw[List.map_nil]at h1 ⊢;rw[List.map_cons,As,h1,Ec,if_neg (ha.nz u (by simp))]
    ·rcases h4 v hv with⟨x,hx,e⟩|⟨x,hx,e⟩
     ·rw[e]; exact ha.head x hx
     ·simp at hx
    ·simp only[cfU,h3]; omega
    ·rcases List.mem_cons.1 hv with rfl|hv
     ·exact .inl ⟨v,by simp,rfl⟩
     ·rcases h4 v hv with⟨x,hx,e⟩|⟨x,hx,e⟩
      ·exact .inl ⟨x,by simp[hx],e⟩
      ·simp at hx
   | cons w b=>
    have hlen:u.2.length=w.2.length:=by rw[la u (by simp),lb w (by simp)]
    have la':lenU V a:=fun v hv=>la v (by simp[hv]);have lb':lenU V b:=fun v hv=>lb v (by simp[hv])
    have hm:As ((u::a).map tz) ((w::b).map tz)=if rOrd u.2 w.2=1 then De (tz u) (As (a.map tz) ((w::b).map tz))else if rOrd u.2 w.2 = -1 then De (tz w) (As ((u::a).map tz) (b.map tz))else De (sumT (tz u) (tz w)) (As (a.map tz) (b.map tz)):=by
     rw[List.map_cons,List.map_cons,As]
    rw[hm];by_cases o1:rOrd u.2 w.2=1
    ·rw[if_pos o1];have o:=(rOrd_one hlen).1 o1;obtain⟨l,h1,h2,h3,h4⟩:=ih a (w::b) (by simp at hn ⊢; omega) ha.tail hb la' lb;refine⟨u::l,?_,h2.cons (ha.nz u (by simp)) (fun v hv=>?_),fun e=>?_,fun v hv=>?_⟩
     ·rw[h1,Ec,if_neg (ha.nz u (by simp))]
     ·rcases h4 v hv with⟨x,hx,e⟩|⟨x,hx,e⟩
      ·rw[e]; exact ha.head x hx
      ·rw[e];rcases List.mem_cons.1 hx with rfl|hx
       ·exact o
       ·exact CR o (hb.head x hx)
     ·simp only[cfU,h3]; omega
     ·rcases List.mem_cons.1 hv with rfl|hv
      ·exact .inl ⟨v,by simp,rfl⟩
      ·rcases h4 v hv with⟨x,hx,e⟩|⟨x,hx,e⟩
       ·exact .inl ⟨x,by simp[hx],e⟩
       ·exact .inr ⟨x,hx,e⟩
    ·rw [if_neg o1];by_cases o2:rOrd u.2 w.2 = -1
     ·rw[if_pos o2];have o:=(rOrd_neg hlen).1 o2;obtain⟨l,h1,h2,h3,h4⟩:=ih (u::a) b (by simp at hn ⊢; omega) ha hb.tail la lb';refine⟨w::l,?_,h2.cons (hb.nz w (by simp)) (fun v hv=>?_),fun e=>?_,fun v hv=>?_⟩
      ·rw[h1,Ec,if_neg (hb.nz w (by simp))]
      ·rcases h4 v hv with⟨x,hx,e⟩|⟨x,hx,e⟩
       ·rw[e];rcases List.mem_cons.1 hx with rfl|hx
        ·exact o
        ·exact CR o (ha.head x hx)
       ·rw[e]; exact hb.head x hx
      ·simp only[cfU,h3]; omega
      ·rcases List.mem_cons.1 hv with rfl|hv
       ·exact .inr ⟨v,by simp,rfl⟩
       ·rcases h4 v hv with⟨x,hx,e⟩|⟨x,hx,e⟩
        ·exact .inl ⟨x,hx,e⟩
        ·exact .inr ⟨x,by simp[hx],e⟩
     ·rw [if_neg o2]
      have he:u.2=w.2:=by
       rcases C9 u.2 w.2 with k|k|k
       ·exact absurd ((rOrd_one hlen).2 k) o1
       ·exact k
       ·exact absurd ((rOrd_neg hlen).2 k) o2
      obtain⟨l,h1,h2,h3,h4⟩:=ih a b (by simp at hn ⊢; omega) ha.tail hb.tail la' lb'
      have hgt:∀v∈l,ordI u.2 v.2<0:=fun v hv=>by
       rcases h4 v hv with⟨x,hx,e⟩|⟨x,hx,e⟩
       ·rw[e]; exact ha.head x hx
       ·rw[e,he]; exact hb.head x hx
      rw[h1,sumT_tz,Ec];by_cases hz:u.1+w.1=0
      ·refine⟨l,by rw[if_pos hz],h2,fun e=>?_,fun v hv=>?_⟩
       ·simp only[cfU,h3,he]; split<;>omega
       ·rcases h4 v hv with⟨x,hx,e⟩|⟨x,hx,e⟩
        ·exact .inl ⟨x,by simp[hx],e⟩
        ·exact .inr ⟨x,by simp[hx],e⟩
      ·refine⟨(u.1+w.1,u.2)::l,by rw[if_neg hz],h2.cons hz hgt,fun e=>?_,fun v hv=>?_⟩
       ·simp only[cfU,h3,he]; split<;>omega
       ·rcases List.mem_cons.1 hv with rfl|hv
        ·exact .inl ⟨u,by simp,rfl⟩
        ·rcases h4 v hv with⟨x,hx,e⟩|⟨x,hx,e⟩
         ·exact .inl ⟨x,by simp[hx],e⟩
         ·exact .inr ⟨x,by simp[hx],e⟩
theorem mergeT_can {V:Nat} {a b:List UT} (ha:CanU a) (hb:CanU b) (la:lenU V a) (lb:lenU V b):As (a.map tz) (b.map tz)=(canU (a++b)).map tz:=by
 obtain⟨l,h1,h2,h3,_⟩:=merge_can V _ a b (Nat.le_refl _) ha hb la lb;rw[h1,h2.eq_can (us:=a++b) fun e=>by rw[h3,Bg]]
theorem mergeT_short {l:List UT} (h:l.length<2):As (l.map tz) []=(canU l).map tz:=by
 match l,h with
 | [],_=>simp[As,canU]
 | [u],_=>
  rw[List.map_cons,List.map_nil,As,As];have:=Ec u [];rw[List.map_nil]at this;rw[this];show _=(insU u []).map tz;unfold insU;rfl
end Go.AL
/- Division by words: plain. -/
namespace Go.AL
theorem kn_step {q r v1 v2 top u2 un V U Q Bn:Int} (hqr:q*v1+r=top) (hr:0≤r) (hBn:0<Bn) (hV:(v1*4294967296+v2)*Bn≤V) (hU:U<(top*4294967296+u2+1)*Bn) (hQ:Q*V≤U) (hQB:Q<4294967296) (hV0:0<V) (hv1:0<v1) (hv2:0≤v2) (hq0:0≤q)
  (h:4294967296≤q∨r*4294967296+u2<q*v2):Q≤q-1:=by
 rcases h with h|h
 ·omega
 ·have h1:(q*v1*4294967296+q*v2)*Bn≤q*V:=by
   have e:(q*v1*4294967296+q*v2)*Bn=q*((v1*4294967296+v2)*Bn):=by grind
   rw[e];exact Int.mul_le_mul_of_nonneg_left hV hq0
  have h2:(top*4294967296+u2+1)*Bn≤(q*v1*4294967296+q*v2)*Bn:=by
   refine Int.mul_le_mul_of_nonneg_right ?_ (by omega)
   have:top*4294967296=q*v1*4294967296+r*4294967296:=by rw[←hqr]; grind
   omega
  have h3:Q*V<q*V:=by omega
  have h4:Q<q:=Int.lt_of_mul_lt_mul_right h3 (by omega);omega
theorem kn_stop {q r v1 v2 top u2 V U Q Bn:Int} (hqr:q*v1+r=top) (hBn:0<Bn) (hV:V<(v1*4294967296+v2+1)*Bn) (hVB:4294967296*Bn≤V) (hU:(top*4294967296+u2)*Bn≤U) (hQ:U<(Q+1)*V) (hV0:0<V) (hq0:0≤q) (hqB:q<4294967296)
  (h:q*v2≤r*4294967296+u2) (hQ0:0≤Q):q≤Q+1:=by
 have h1:q*V≤q*((v1*4294967296+v2+1)*Bn):=Int.mul_le_mul_of_nonneg_left (by omega) hq0
 have h2:q*((v1*4294967296+v2+1)*Bn)≤(top*4294967296+u2)*Bn+4294967296*Bn:=by
  have e:q*((v1*4294967296+v2+1)*Bn)=(q*v1*4294967296+q*v2+q)*Bn:=by grind
  rw[e,←Int.add_mul];refine Int.mul_le_mul_of_nonneg_right ?_ (by omega)
  have:top*4294967296=q*v1*4294967296+r*4294967296:=by rw[←hqr]; grind
  omega
 have h3:q*V≤U+V:=by omega
 have h4:q*V<(Q+1)*V+V:=by omega
 have h5:q*V<(Q+2)*V:=by
  have:(Q+2)*V=(Q+1)*V+V:=by grind
  omega
 have h6:q<Q+2:=Int.lt_of_mul_lt_mul_right h5 (by omega);omega
end Go.AL
/- Division by words: a digit's subtraction; words of a given number. -/
namespace Go.AL
def wdW:Nat→Int→List Int
  | 0,_=>[]
  | n+1,z=>z % 4294967296::wdW n (z/4294967296)
theorem wdW_length:∀(n:Nat) (z:Int),(wdW n z).length=n
 | 0,_=>rfl
 | n+1,z=>by simp[wdW,wdW_length n]
theorem wdW_ok:∀(n:Nat) (z:Int),WOk (wdW n z)
 | 0,_=>WOk.nil
 | n+1,z=>WOk.cons (by omega) (by omega) (wdW_ok n _)
theorem val_wdW:∀(n:Nat) (z:Int),0≤z→z<BB n→val (wdW n z)=z
 | 0,z,h0,h1=>by simp only[CK]at h1; simp only[wdW,val]; omega
 | n+1,z,h0,h1=>by
  rw[Ax]at h1;have:=val_wdW n (z/4294967296) (by omega) (by omega);simp only[wdW,val,this]; omega
theorem wdW_eq:∀ {l:List Int},WOk l→l=wdW l.length (val l)
 | [],_=>rfl
 | x::l,h=>by
  have h1:=h.head;have ih:=wdW_eq h.tail;simp only[List.length_cons,wdW,val]
  have e1:(x+4294967296*val l) % 4294967296=x:=by omega
  have e2:(x+4294967296*val l)/4294967296=val l:=by omega
  rw[e1,e2,←ih]
end Go.AL
/- Division by words: the highest words; a digit's end. -/
namespace Go.AL
theorem take_top {l:List Int} {k:Nat} {x:Int} (h:l[k]? = some x):l.take (k+1)=l.take k++[x]:=by rw[List.take_add_one,h]; rfl
theorem val_top {l:List Int} {k:Nat} {x:Int} (h:l[k]? = some x):val (l.take (k+1))=val (l.take k)+BB k*x:=by
 have hl:(l.take k).length=k:=by have:=(List.getElem?_eq_some_iff.1 h).1; simp; omega
 rw[take_top h,Cd,hl]
theorem Er {l:List Int} {k:Nat} (w:WOk l) (h:k≤l.length):0≤val (l.take k)∧val (l.take k)<BB k:=by
 refine⟨Al (w.take k),?_⟩;have:=DU (w.take k);rwa [List.length_take,Nat.min_eq_left h]at this
theorem dig_facts {m v:List Int} {k:Nat} (hm:m.length=k+3) (hv:v.length=k+2) (wm:WOk m) (wv:WOk v) {un u1 u2 v1 v2:Int} (e0:m[k+2]? = some un) (e1:m[k+1]? = some u1) (e2:m[k]? = some u2) (f1:v[k+1]? = some v1) (f2:v[k]? = some v2) :
  (v1*4294967296+v2)*BB k≤val v∧val v<(v1*4294967296+v2+1)*BB k∧((un*4294967296+u1)*4294967296+u2)*BB k≤val m∧val m<((un*4294967296+u1)*4294967296+u2+1)*BB k:=by
 have h1:val v=val (v.take k)+BB k*v2+BB (k+1)*v1:=by
  have a:=val_top f1;rw[show k+1+1=k+2 from rfl,←hv,List.take_length,val_top f2]at a;exact a
 have h2:val m=val (m.take k)+BB k*u2+BB (k+1)*u1+BB (k+2)*un:=by
  have a:=val_top e0;rw[show k+2+1=k+3 from rfl,←hm,List.take_length,show k+2=k+1+1 from rfl,val_top e1,val_top e2]at a;exact a
 have b1:=Er (k:=k) wv (by omega);have b2:=Er (k:=k) wm (by omega);rw[show k+2=k+1+1 from rfl]at h2;simp only[Ax]at h1 h2;rw[h1,h2];refine⟨?_,?_,?_,?_⟩<;>grind
theorem quo_between {U V q:Int} (hV:0<V) (h1:q*V≤U) (h2:U<(q+1)*V):q=U/V:=by
 have a:U/V*V≤U:=by have:=Int.mul_ediv_add_emod U V; have:=Int.emod_nonneg U (show V≠0 by omega); have e:V*(U/V)=U/V*V:=Int.mul_comm _ _; omega
 have b:U<(U/V+1)*V:=by
  have:=Int.mul_ediv_add_emod U V;have:=Int.emod_lt_of_pos U hV;have e:V*(U/V)=U/V*V:=Int.mul_comm _ _;rw[Int.add_mul]; omega
 have c:q<U/V+1:=Int.lt_of_mul_lt_mul_right (Int.lt_of_le_of_lt h1 b) (by omega);have d:U/V<q+1:=Int.lt_of_mul_lt_mul_right (Int.lt_of_le_of_lt a h2) (by omega);omega
theorem quo_spec {U V:Int} (hV:0<V) (hU:0≤U):U/V*V≤U∧U<(U/V+1)*V∧0≤U/V∧U % V=U-U/V*V:=by
 have h1:=Int.mul_ediv_add_emod U V;have h2:=Int.emod_nonneg U (show V≠0 by omega);have h3:=Int.emod_lt_of_pos U hV;have e:V*(U/V)=U/V*V:=Int.mul_comm _ _;refine⟨by omega,by rw[Int.add_mul]; omega,Int.ediv_nonneg hU (by omega),by omega⟩
end Go.AL
/- Division by a word, shifts by binary digits: plain. -/
namespace Go.AL
theorem over_step {A os:List Int} {i:Nat} {b r x:Int} (hx:A[i]? = some x) (h:val (A.drop (i+1))=val os*b+r) :
  val (A.drop i)=val ((r*4294967296+x)/b::os)*b+(r*4294967296+x) % b:=by
 have hd:A.drop i=x::A.drop (i+1):=by
  have hi:=(List.getElem?_eq_some_iff.1 hx);rw[List.drop_eq_getElem_cons hi.1,hi.2]
 have hm:=Int.mul_ediv_add_emod (r*4294967296+x) b;rw[hd];simp only[val];rw[h];grind
theorem over_word {b r x:Int} (hb:0<b) (h0:0≤r) (h1:r<b) (h2:0≤x) (h3:x<4294967296):0≤(r*4294967296+x)/b∧(r*4294967296+x)/b<4294967296:=by
 refine⟨Int.ediv_nonneg (by omega) (by omega),Int.ediv_lt_of_lt_mul hb ?_⟩
 have:r*4294967296+x<(r+1)*4294967296:=by omega
 have h4:(r+1)*4294967296≤b*4294967296:=Int.mul_le_mul_of_nonneg_right (by omega) (by omega);rw[Int.mul_comm]; omega
theorem over_end {V Q b r:Int} (h:V=Q*b+r) (h0:0≤r) (h1:r<b):Q=V/b∧r=V % b:=by
 have hq:Q=V/b:=quo_between (by omega) (by omega) (by rw[Int.add_mul]; omega);refine⟨hq,?_⟩;have:=Int.mul_ediv_add_emod V b;have e:b*(V/b)=V/b*b:=Int.mul_comm _ _;rw[←hq]at e;rw[←hq]at this;omega
theorem or_carry {c x:Int} {k:Nat} (hk:k<32) (h0:0≤c) (h1:c<2^k) (h2:0≤x) (h3:x<4294967296):bitN .or c (x*2^k % 4294967296)=c+x*2^k % 4294967296∧c+x*2^k % 4294967296<4294967296:=by
 have hp:(2:Int)^k=((2^k:Nat):Int):=by norm_cast
 have hs:(2:Int)^32=2^k*2^(32-k):=by rw[←Int.pow_add]; congr 1; omega
 have hs':(4294967296:Int)=2^k*2^(32-k):=by rw[←hs]; rfl
 have e:x*2^k % 4294967296=(x % 2^(32-k))*2^k:=by
  rw[hs', Int.mul_comm x,Int.mul_emod_mul_of_pos _ _ (Int.pow_pos (by omega)),Int.mul_comm]
 have hx:=Int.emod_nonneg x (show(2:Int)^(32-k)≠0 from Int.ne_of_gt (Int.pow_pos (by omega)));have hx2:=Int.emod_lt_of_pos x (show(0:Int)<2^(32-k) from Int.pow_pos (by omega));obtain⟨m,hm⟩:∃m:Nat,x % 2^(32-k)=m:=⟨_,(Int.toNat_of_nonneg hx).symm⟩;obtain⟨d,hd⟩:∃d:Nat,c=d:=⟨_,(Int.toNat_of_nonneg h0).symm⟩;rw[e,hm,hd];rw[hd,hp]at h1;rw[hm]at hx2;constructor
 ·show(((d:Int).toNat ||| ((m:Int)*2^k).toNat:Nat):Int)=_
  have e2:((m:Int)*2^k).toNat=m <<< k:=by rw[Nat.shiftLeft_eq,hp,←Int.natCast_mul,Int.toNat_natCast]
  rw[e2,Int.toNat_natCast,Nat.or_comm,←Nat.shiftLeft_add_eq_or_of_lt (by exact_mod_cast h1),Nat.shiftLeft_eq,hp,←Int.natCast_mul,←Int.natCast_add,Nat.add_comm]
 ·have h4:((m:Int)+1)*2^k≤2^(32-k)*2^k:=Int.mul_le_mul_of_nonneg_right (by omega) (Int.le_of_lt (Int.pow_pos (by omega)));rw[Int.mul_comm (2^(32-k)),←hs']at h4;rw[hp]at h4 ⊢;rw[Int.add_mul]at h4;omega
end Go.AL
/- A byte of a fixed string; bits.Len32, bits.LeadingZeros32. -/
namespace Go.AL
section
variable {P:Program} {tab:Tab} {n:Nat} {s:St}
variable {ops:Array Oper} {draw:Dr} {o:Oper} {l:List Oper} {acc:List Eff} {K:Exit→St→Prop}
end
end Go.AL
namespace Go.Proofs.YtmmfloplhopioaaGreat
open Go.AL
end Go.Proofs.YtmmfloplhopioaaGreat
/- large.over, large.left, large.right (by less than a word). -/
namespace Go.AL
theorem set_zeros {i m:Nat} {q q':Int} {os:List Int} {k:Nat} (hk:k=m) (hm:m+1=i) (hq:q=q'):(List.replicate i 0++os).set k q=List.replicate m 0++q'::os:=by
 subst hk hm hq;rw[List.replicate_succ', List.append_assoc];simp
end Go.AL
namespace Go.Proofs.YtmmfloplhopioaaGreat
open Go.AL
end Go.Proofs.YtmmfloplhopioaaGreat
/- Parts of rows: a row cut; a part of a row that is written through. -/
namespace Go.AL
section
variable {P:Program} {tab:Tab} {n:Nat} {o:Oper} {s:St}
variable {ops:Array Oper} {draw:Dr} {l:List Oper} {acc:List Eff} {K:Exit→St→Prop}
end
end Go.AL
/- large.digit: a digit of a quotient. -/
namespace Go.AL
structure DigOk (m:Nat) (mid v:List Int):Prop where
  hm:mid.length=m+3
  hv:v.length=m+2
  wm:WOk mid
  wv:WOk v
  top:∀x,v[m+1]? = some x→2147483648≤x
  lt:val mid<4294967296*val v
  big:m≤50000
theorem DigOk.pos {m:Nat} {mid v:List Int} (d:DigOk m mid v):BB (m+1)≤val v∧val v<BB (m+2):=by
 obtain⟨x,hx⟩:∃x,v[m+1]? = some x:=⟨_,List.getElem?_eq_getElem (by have:=d.hv; omega)⟩;have h1:=d.top x hx;have h2:=val_top hx;rw[show m+1+1=v.length by have:=d.hv; omega,List.take_length]at h2;have h3:=Er (k:=m+1) d.wv (by have:=d.hv; omega);have h4:=DU d.wv;rw[d.hv]at h4;refine⟨?_,h4⟩;have:BB (m+1)*1≤BB (m+1)*x:=Int.mul_le_mul_of_nonneg_left (by omega) (Int.le_of_lt (A6 _));omega
theorem DigOk.facts {m:Nat} {mid v:List Int} (d:DigOk m mid v) {un u1 u2 v1 v2:Int} (e0:mid[m+2]? = some un) (e1:mid[m+1]? = some u1) (e2:mid[m]? = some u2) (f1:v[m+1]? = some v1) (f2:v[m]? = some v2) :
  un≤v1∧un*4294967296+u1<v1*4294967296+4294967296:=by
 obtain⟨a,b,c,e⟩:=dig_facts d.hm d.hv d.wm d.wv e0 e1 e2 f1 f2;have h:=d.lt;have w2:=d.wv.get f2;have wu1:=d.wm.get e1;have wu2:=d.wm.get e2;have hB:=A6 m
 have h1:((un*4294967296+u1)*4294967296+u2)*BB m<(4294967296*(v1*4294967296+v2+1))*BB m:=by
  have:4294967296*val v<4294967296*((v1*4294967296+v2+1)*BB m):=by omega
  have e3:(4294967296*(v1*4294967296+v2+1))*BB m=4294967296*((v1*4294967296+v2+1)*BB m):=by grind
  rw[e3]; omega
 have h2:=Int.lt_of_mul_lt_mul_right h1 (by omega);omega
theorem DigOk.down {m:Nat} {mid v:List Int} (d:DigOk m mid v) {un u1 u2 v1 v2 q r:Int} (e0:mid[m+2]? = some un) (e1:mid[m+1]? = some u1) (e2:mid[m]? = some u2) (f1:v[m+1]? = some v1) (f2:v[m]? = some v2)
  (hqr:q*v1+r=un*4294967296+u1) (hr:0≤r) (hq:0≤q) (h:4294967296≤q∨r*4294967296+u2<q*v2):val mid/val v≤q-1:=by
 obtain⟨a,b,c,e⟩:=dig_facts d.hm d.hv d.wm d.wv e0 e1 e2 f1 f2;have hp:=d.pos;have hV:0<val v:=Int.lt_of_lt_of_le (A6 _) hp.1;obtain⟨s1,s2,s3,s4⟩:=quo_spec hV (Al d.wm);have hQ:val mid/val v<4294967296:=Int.ediv_lt_of_lt_mul hV d.lt;have w1:=d.top _ f1;have w2:=d.wv.get f2;exact kn_step (un:=un) hqr hr (A6 m) a e s1 hQ hV (by omega) w2.1 hq h
theorem DigOk.stop {m:Nat} {mid v:List Int} (d:DigOk m mid v) {un u1 u2 v1 v2 q r:Int} (e0:mid[m+2]? = some un) (e1:mid[m+1]? = some u1) (e2:mid[m]? = some u2) (f1:v[m+1]? = some v1) (f2:v[m]? = some v2)
  (hqr:q*v1+r=un*4294967296+u1) (hr:0≤r) (hq:0≤q) (h:(q<4294967296∧q*v2≤r*4294967296+u2)∨4294967296≤r):q<4294967296∧q≤val mid/val v+1:=by
 obtain⟨a,b,c,e⟩:=dig_facts d.hm d.hv d.wm d.wv e0 e1 e2 f1 f2;have hf:=d.facts e0 e1 e2 f1 f2;have hp:=d.pos;have hV:0<val v:=Int.lt_of_lt_of_le (A6 _) hp.1;obtain⟨s1,s2,s3,s4⟩:=quo_spec hV (Al d.wm);have w1:=d.top _ f1;have w2:=d.wv.get f2;have wu2:=d.wm.get e2
 have hVB:4294967296*BB m≤val v:=by rw[←Ax]; exact hp.1
 have key:q<4294967296∧q*v2≤r*4294967296+u2:=by
  rcases h with h|h
  ·exact h
  ·have hq2:q<4294967296:=by
    rcases Int.lt_or_le q 4294967296 with h1|h1
    ·exact h1
    ·have:4294967296*v1≤q*v1:=Int.mul_le_mul_of_nonneg_right h1 (by omega);omega
   have h3:q*v2≤4294967295*v2:=Int.mul_le_mul_of_nonneg_right (by omega) w2.1;exact⟨hq2,by omega⟩
 exact⟨key.1,kn_stop hqr (A6 m) b hVB c s2 hV hq key.1 key.2 s3⟩
end Go.AL
/- large.digit: the walk. -/
namespace Go.AL
end Go.AL
namespace Go.Proofs.YtmmfloplhopioaaGreat
open Go.AL
end Go.Proofs.YtmmfloplhopioaaGreat
/- Division of long numbers: plain. -/
namespace Go.AL
structure DivInv (U:List Int) (V:Int) (n N i:Nat) (os:List Int) (ρ:Int):Prop where
  hi:i≤N
  hl:os.length+i=N
  wo:WOk os
  r0:0≤ρ
  r1:ρ<V
  hv:val (U.drop i)=val os*V+ρ
theorem DivInv.step {U os:List Int} {V ρ:Int} {n N i:Nat} {u:Int} (d:DivInv U V n N (i+1) os ρ) (hV:0<V) (hu:U[i]? = some u) (wu:WOk U) :
  DivInv U V n N i (val (u::wdW n ρ)/V::os) (val (u::wdW n ρ) % V)∨¬(V<BB n):=by
 rcases Classical.em (V<BB n)with hn|hn
 ·left;have w:=wu.get hu;have d0:=d.r0;have d1:=d.r1
  have hm:val (u::wdW n ρ)=u+4294967296*ρ:=by
   rw[val,val_wdW n ρ d0 (by omega)]
  rw[hm]
  have hlt:u+4294967296*ρ<4294967296*V:=by omega
  have hdiv:=Int.mul_ediv_add_emod (u+4294967296*ρ) V;have hm0:=Int.emod_nonneg (u+4294967296*ρ) (show V≠0 by omega);have hm1:=Int.emod_lt_of_pos (u+4294967296*ρ) hV;refine⟨by have:=d.hi; omega,by have:=d.hl; simp; omega,?_,hm0,hm1,?_⟩
  ·refine WOk.cons (Int.ediv_nonneg (by omega) (by omega)) (Int.ediv_lt_of_lt_mul hV hlt) d.wo
  ·have hd:U.drop i=u::U.drop (i+1):=by
    have hi:=List.getElem?_eq_some_iff.1 hu;rw[List.drop_eq_getElem_cons hi.1,hi.2]
   rw[hd,val,d.hv,val]
   generalize (u+4294967296*ρ)/V=q at *
   generalize (u+4294967296*ρ) % V=r at *
   grind
 ·exact .inr hn
end Go.AL
/- large.divide: the walk. -/
namespace Go.Proofs.YtmmfloplhopioaaGreat
open Go.AL
end Go.Proofs.YtmmfloplhopioaaGreat
/- large.Div; chain.Quo, chain.Rest, chain.Power. -/
namespace Go.AL
theorem toW_one:toW 1=[1]:=by
 have:=toW_cons (x:=1) (z:=0) (by omega) (by omega) (by omega) (.inl (by omega));rw[toW_zero]at this;exact this
end Go.AL
namespace Go.Proofs.YtmmfloplhopioaaGreat
open Go.AL
end Go.Proofs.YtmmfloplhopioaaGreat
/- append(nil, ..) whose result is not written; a made slice without elements. -/
namespace Go.AL
section
variable {P:Program} {tab:Tab} {n:Nat} {s:St}
variable {ops:Array Oper} {draw:Dr} {o:Oper} {l:List Oper} {acc:List Eff} {K:Exit→St→Prop}
theorem OpJ.ap0C (ht:BG P tab) (hd:∀d,o.dst=some d→d<n) {x y:Operand} {t:TypeId} (hop:o.op = .call { callee := .builtin .append,args:=⟨[x,y]⟩,argTypes:=⟨[t,t]⟩ }) {e:TypeId} {i:TI} {sz' by':Nat} {z:List Value} (hts:tab t=some ⟨.slice e,sz', by', z⟩) (hti:tab e=some i) (hsz:Nat.blt 0 i.size=true)
  (hx:opd s x = .v (.slice none 0 0)) {α:Type} (enc:α→List AV) {ys:List α} (hy:(opd s y).Le (.sl i.size enc ys)) (hyc:(opd s y).closed=true) (hone:∀y,BU (enc y)=true) (hel:∀y,(enc y).length=i.size)
  (hby:ys.length*i.bytes≤140737488355328) (hm:ys.length≤9223372036854775807) :
  OpJ P n o s ⟨.sl i.size enc ys,[],[],[],[]⟩:=by
 refine⟨hd,fun C s' a w h β Q K hs hbs hal k hK=>?_⟩
 have same:∀z:Operand,(z=x∨z=y)→opd s' z=opd s z:=by
  intro z hz
  cases z with
  | tmp t=>exact hs t (by rw[hop]; simpa[Op.operands,Call.operands]using hz)
  | _=>rfl
 have hxr:=AK k x;rw[same x (.inl rfl),hx]at hxr;have hyr:=AK k y;rw[same y (.inr rfl)]at hyr;have hyr:=hy _ _ _ (hyr.closed (β':=noB) _ _ hyc);simp only[Rep]at hxr;obtain⟨inf,zv,h1,h2,h3,h4,h5⟩:=(ht e i hti).info;have hu:=(ht _ _ hts).und;simp only at hu
 have hzs:zv.cells.size=inf.size:=by rw[←Array.length_toList,h5,(ht e i hti).zs,h2]
 have ho:=World.ownsRow_nil w 0 e inf.size;rw[←h2]at hyr;obtain⟨v', w', news,r1,r2,r3,r4,r5⟩:=Dz (P:=P) (ty:=o.type) hu h1 h4 hzs (by rw[h2]; exact Nat.le_of_ble_eq_true hsz) ho k.evo.has hone hyr (by rw[h3,Nat.zero_add]; exact hby) (by omega);rw[←hxr]at r1;have hrun:=append_exec (P:=P) (o:=o) hop r1;unfold Oper.wp;rw[hrun];simp only[Oper.upon];simp only[Nat.zero_add,List.nil_append]at r2;have hnb:(Value.slice none 0 0).ownBlock=none:=rfl;rw[hnb]at r3 r4;have hev:Evo D4 w h w' h:=evo_of k.evo.has r3.os r3.tape ⟨r3.output,run_drawn _ _ _ _ r1⟩ r3.size (fun j hj _=>r3.block j hj (by simp)) (fun g hg=>hg.elim);rw[h2]at r2;have hlen:∀x∈ys,(enc x).length=i.size:=fun x _=>hel x
 have key:∃h', h.le h'∧Has w' h'∧(∀g,h' g≠none→h g≠none∨v'.ownBlock=some g)∧Rep h' noB (.sl i.size enc ys) v':=by
  rcases r2.2 with⟨hv,hn⟩|⟨g,cap,cur,hv,_,hg,hnc,hmx,hcs,htake⟩
  ·have hx:ys=[]:=List.eq_nil_of_length_eq_zero hn;subst hx;refine⟨h,Ac h,hev.has,fun g hg => .inl hg,?_⟩;rw[hv];exact AV.Le.nil i.size enc h noB _ (by simp only[Rep])
  ·have hgb:v'.ownBlock=some g:=by simp[hv,Value.ownBlock]
   have hgn:h g=none:=by
    rcases r4 with r4|r4
    ·rw[r4]at hgb; cases hgb
    ·rw[r4]at hgb; injection hgb with hgb; subst hgb; exact CW k.evo.has (Nat.le_refl _)
   have hle:h.le (h.set g cur):=fun b cs hb'=>by
    by_cases he:b=g
    ·subst he; rw[hgn]at hb'; cases hb'
    ·rw[Hp.set_ne _ _ _ _ he]; exact hb'
   refine⟨h.set g cur,hle,fun b cs hb'=>?_,fun b hb'=>?_,?_⟩
   ·by_cases he:b=g
    ·subst he; rw[Hp.set_same]at hb'; injection hb' with hb'; subst hb'; exact⟨e,(0,0),hg⟩
    ·rw[Hp.set_ne _ _ _ _ he]at hb'; exact hev.has b cs hb'
   ·by_cases he:b=g
    ·subst he; exact .inr hgb
    ·rw[Hp.set_ne _ _ _ _ he]at hb'; exact .inl hb'
   ·subst hv;simp only[Rep];refine⟨some ⟨g,0,none⟩,cap,rfl,hnc,hmx,fun j x hx=>?_⟩;obtain⟨hr1,hr2⟩:=flat_at ys news j x hlen (r5.mono hle (AW _)) hx;refine⟨⟨g,0,none⟩,_,rfl,by rw[hr1.length]; exact hlen x (List.mem_of_getElem? hx),hr1,fun q u hu=>?_⟩
    have hadd:(⟨g,0,none⟩:Addr).add (j*i.size+q)=⟨g,j*i.size+q,none⟩:=by unfold Addr.add; split<;>simp_all
    rw[hadd];refine⟨rfl,cur,Hp.set_same _ _ _,?_⟩;rw[List.getElem?_take]at hu;split at hu
    ·rw[List.getElem?_drop,←htake,List.getElem?_take]at hu;split at hu
     ·simpa using hu
     ·cases hu
    ·cases hu
 obtain⟨h', hle,hhas,hfr,hrep⟩:=key
 have hev':Evo D4 w h w' h':=⟨hev.os,hev.tape,hev.output,hev.size,hev.block,hle,fun g hg=>by
  rcases hfr g hg with h1|h1
  ·exact .inl h1
  ·rcases r4 with r4|r4
   ·rw[r4]at h1; cases h1
   ·rw[r4]at h1; injection h1 with h1; subst h1; exact .inr (.inl (Nat.le_refl _)),hhas⟩
 exact hK _ _ h' β (Base.val (k.step hev') o.dst hd (hrep.mono (Ac _) (E6 β)) [])
theorem Fl.ap0C [f:Facts P tab] {x y:Operand} {t:TypeId} (hop:o.op = .call { callee := .builtin .append,args:=⟨[x,y]⟩,argTypes:=⟨[t,t]⟩ }) (hx:opd s x = .v (.slice none 0 0)) (hg:gOk ops s o=true) (hd:dOk n o.dst=true) {e:TypeId} {i:TI} {sz' by':Nat} {z:List Value} (hts:tab t=some ⟨.slice e,sz', by', z⟩) (hti:tab e=some i) (hsz:Nat.blt 0 i.size=true)
  {α:Type} (enc:α→List AV) {ys:List α} (hyc:(opd s y).closed=true) (hone:∀y,BU (enc y)=true) (hel:∀y,(enc y).length=i.size) (hy:(opd s y).Le (.sl i.size enc ys))
  (hby:ys.length*i.bytes≤140737488355328) (hm:ys.length≤9223372036854775807)
  (r:Fl P n ops draw l ((Eff.mk (.sl i.size enc ys) [] [] [] []).app o.dst s) (Eff.mk (.sl i.size enc ys) [] [] [] []::acc) K):Fl P n ops draw (o::l) s acc K:=
 Af hg (OpJ.ap0C f.tabOk (Aa hd) hop hts hti hsz hx enc hy hyc hone hel hby hm) r
theorem OpJ.make0 (ht:BG P tab) {d:Tmp} (hdst:o.dst=some d) (hd:d<n) {t:TypeId} {x y:Operand} (hop:o.op = .makeSlice t x y) {e:TypeId} {i:TI} {sz' by':Nat} {z:List Value} (hts:tab t=some ⟨.slice e,sz', by', z⟩) (hti:tab e=some i)
  {k k':IntKind} {m':Int} (hx:opd s x = .v (.int k 0)) (hy:opd s y = .v (.int k' m')) (h0:0≤m') (hby:m'*i.bytes≤281474976710656) (hm:m'≤9223372036854775807) {α:Type} (enc:α→List AV) :
  OpJ P n o s ⟨.row d,[(d,.row i.size enc [] e)],[],[d],[]⟩:=by
 refine⟨fun t ht=>(by rw[hdst]at ht; injection ht with ht; subst ht; exact hd),fun C s' a w h β Q K hs hb hal b hK=>?_⟩
 have same:∀z:Operand,(z=x∨z=y)→opd s' z=opd s z:=by
  intro z hz
  cases z with
  | tmp t=>exact hs t (by rw[hop]; simpa[Op.operands]using hz)
  | _=>rfl
 have hxr:=AK b x;have hyr:=AK b y;rw[same x (.inl rfl),hx]at hxr;rw[same y (.inr rfl),hy]at hyr;simp only[Rep]at hxr hyr;obtain⟨inf,zv,h1,h2,h3,h4,h5⟩:=(ht e i hti).info;have hu:=(ht _ _ hts).und;simp only at hu;obtain⟨c,rfl⟩:=Int.eq_ofNat_of_zero_le h0
 have hzs:zv.cells.size=i.size:=by rw[←Array.length_toList,h5,(ht e i hti).zs]
 have hmk:=run_make (P:=P) w t e inf zv hu h1 h4 k k' (0:Int) (c:Int) (Int.le_refl _) h0 (by rw[h3,Int.mul_comm]; exact hby) hm;rw[Int.toNat_natCast,h2]at hmk
 have hrun:(execOp a.eval o).run P w = .ok (.value (.slice (some ⟨w.heap.size,0,none⟩) 0 c)) (w.alloc (.cells (madeCells zv.cells (c*i.size)) e)):=by
  simp only[execOp,hop,hxr,hyr,Sem.run_bind,hmk,Result.andThen,Sem.run_pure];rfl
 unfold Oper.wp;rw[hrun];simp only[Oper.upon];refine hK _ _ h (β.set d (.slice (some ⟨w.heap.size,0,none⟩) 0 c)) ?_;have k1:=b.step (Cb b.evo.has (.cells (madeCells zv.cells (c*i.size)) e));rw[hdst];refine k1.addbox (hal d (by simp)) ?_ ?_ (some d) (fun t ht=>by injection ht with ht; subst ht; exact hd) ?_ []
 ·refine⟨_,[],Bt.set_same _ _ _,⟨by simp,.inr ⟨w.heap.size,c,_,by simp,Nat.zero_le _,heap_alloc_new w _,by simp,by simp only[maxLen]; omega,size_madeCells _ _,by simp⟩⟩,?_,?_,?_⟩
  ·exact RepL.nil
  ·intro x hx; cases hx
  ·intro g hg;simp[Value.ownBlock]at hg;subst hg;exact CW b.evo.has (Nat.le_refl _)
 ·intro g hg;simp[blk]at hg;subst hg;refine⟨fun id' B' hb' e=>?_,.inr b.evo.size⟩;have:=(b.blk_lt hb' e).1;omega
 ·simp only[Rep]; exact⟨Bt.set_same _ _ _,_,_,_,rfl⟩
theorem Fl.make0 [f:Facts P tab] {t:TypeId} {x y:Operand} (hop:o.op = .makeSlice t x y) (hg:gOk ops s o=true) {d:Tmp} (hdst:o.dst=some d) (hd:Nat.blt d n=true) {e:TypeId} {i:TI} {sz' by':Nat} {z:List Value} (hts:tab t=some ⟨.slice e,sz', by', z⟩) (hti:tab e=some i)
  {k k':IntKind} {m':Int} (hx:opd s x = .v (.int k 0)) (hy:opd s y = .v (.int k' m')) (hn:s.al d=false) {α:Type} (enc:α→List AV) (h0:0≤m') (hby:m'*i.bytes≤281474976710656) (hm:m'≤9223372036854775807)
  (r:Fl P n ops draw l ((Eff.mk (.row d) [(d,.row i.size enc [] e)] [] [d] []).app o.dst s) (Eff.mk (.row d) [(d,.row i.size enc [] e)] [] [d] []::acc) K) (hJ:BH draw.J (Eff.mk (.row d) [(d,.row i.size enc [] e)] [] [d] []):=by repeat'(first|exact True.intro|exact rfl|refine⟨?_,?_⟩|fail)):Fl P n ops draw (o::l) s acc K:=
 Fl.op hg (OpJ.make0 f.tabOk hdst (ltOf hd) hop hts hti hx hy h0 hby hm enc) (E7 hn) hJ r
end
end Go.AL

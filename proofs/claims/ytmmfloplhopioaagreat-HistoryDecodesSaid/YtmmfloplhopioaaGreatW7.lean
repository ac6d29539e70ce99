/- Part 7 of a proof layer and of the contracts of the functions. -/
import Derived.Lib.SmallJoins
import Derived.Test.YtmmfloplhopioaaGreatW6
set_option linter.unusedVariables false
set_option linter.unusedSimpArgs false
namespace Go.AL
def smallV (x:Int):Int:=if 18446744073709551616≤x.natAbs then 0 else if 0≤x then x % 9223372036854775808 else if x < -9223372036854775808 then 0 else x
theorem EY {x:Int} (h:I64 x):smallV x=x:=by
 unfold I64 at h;unfold smallV;rw[if_neg (by omega)];split
 ·omega
 ·rw[if_neg (by omega)]
theorem big_of_len {x:Int} (h:2<(toW x.natAbs).length):18446744073709551616≤x.natAbs:=by
 have h1:=Ep (z:=x.natAbs) (by
  rcases Nat.eq_zero_or_pos x.natAbs with h0|h0
  ·rw[h0,show((0:Nat):Int)=0 from rfl,toW_zero]at h; simp at h
  ·omega)
 have h2:=C4 (show 2≤(toW x.natAbs).length-1 by omega);rw[BB_2]at h2;omega
theorem bitN_and63 {a:Int} (h:0≤a):bitN .and a 9223372036854775807=a % 9223372036854775808:=by
 show((a.toNat &&& 9223372036854775807:Nat):Int)=_;have:a.toNat &&& 9223372036854775807=a.toNat % 2^63:=Nat.and_two_pow_sub_one_eq_mod a.toNat 63;rw[this];omega
end Go.AL
namespace Go.Proofs.YtmmfloplhopioaaGreat
open Go.AL
theorem rSmall_ok (x:Int):PureFn Tryz.prog 31 [aX x] (.tup [aN (smallV x),aB (decide (I64 x))]):=by
 refine AC Tryz.func31 rfl Tryz.ntmps31 rfl rfl ?_;have wx:=Ag x.natAbs;have vx:=Ad (show(0:Int)≤x.natAbs by omega);(repeat' first|refine qv ?_|apply qn|apply qs|apply qr|refine qe ?_|apply qb);refine AWP.loop (G:=Nat×Int) (fun(i,m)=>i≤(toW x.natAbs).length∧i≤2∧m=val ((toW x.natAbs).take i)∧0≤m∧m<BB i∧m≤18446744073709551615)
   (fun(i,m)=>AO [] [(1,.ptr 1 0),(4,.v (.int .u64 m)),(5,aN i)] [(1,.cells (eX x) 48)])
   (fun(i,m)=>(toW x.natAbs).length-i) (0,0) ⟨by omega,by omega,by simp[val],by omega,by rw[CK]; omega,by omega⟩ ?_ ?_
 ·refine Ent.of [] ?_ ?_ rfl rfl;(repeat' first|exact True.intro|refine⟨⟨AA _,rfl⟩,?_⟩|refine⟨⟨⟨_,rfl,BLe.cells (AB _)⟩,rfl⟩,?_⟩|fail)
 ·intro(i,m) ⟨k0,k5,k1,k2,k3,k4⟩;by_cases hi:i<(toW x.natAbs).length
  ·by_cases hi2:i<2
   ·obtain⟨u,hu⟩:∃u,(toW x.natAbs)[i]? = some u:=⟨_,List.getElem?_eq_getElem hi⟩;have hub:=wx u (List.mem_of_getElem? hu);have hb:BB (i+1)≤BB 2:=C4 (by omega);rw[BB_2]at hb
    have hlt:m+BB i*u<BB (i+1):=by
     rw[Ax];have h5:=A6 i;have h6:BB i*u≤BB i*4294967295:=Int.mul_le_mul_of_nonneg_left (by omega) (by omega);omega
    have h0:0≤BB i*u:=Int.mul_nonneg (Int.le_of_lt (A6 i)) hub.1
    have hsh:u*2^(32*(i:Int)).toNat % 18446744073709551616=BB i*u:=by
     rcases(show i=0∨i=1 by omega)with rfl|rfl
     ·rw[CK,show(32*((0:Nat):Int)).toNat=0 from rfl]; omega
     ·rw[show BB 1=4294967296 by rw[Ax,CK]; rfl,show(32*((1:Nat):Int)).toNat=32 from rfl]; omega
    (repeat' first|refine qv ?_|apply qn|apply qs|apply qr|refine qw ?_|(refine AD rfl ?_ ?_<;>intro _<;>try(exfalso; omega))|apply qb|apply qk|refine qK ?_|fail);refine LoopEnd.of (i+1,m+BB i*u) ⟨by omega,by omega,by rw[k1,Ae hu],by omega,hlt,by omega⟩ (show(toW x.natAbs).length-(i+1)<(toW x.natAbs).length-i by omega) ?_;refine Ent.of [] ?_ ?_ rfl rfl;(repeat' first|exact True.intro|refine⟨⟨AA _,rfl⟩,?_⟩|refine⟨⟨⟨_,rfl,BLe.cells (AB _)⟩,rfl⟩,?_⟩|refine⟨⟨AV.Le.int ?_,rfl⟩,?_⟩|fail);rw[hsh]
   ·have hbig:=big_of_len (x:=x) (by omega);(repeat' first|refine qv ?_|apply qn|apply qs|apply qr|(refine AD rfl ?_ ?_<;>intro _<;>try(exfalso; omega))|apply qb|apply qk|apply qt);refine RetOk.of rfl (AV.Le.tup (LeL.cons (AV.Le.int ?_) (LeL.cons (AV.Le.bool ?_) LeL.nil)))
    ·unfold smallV; rw[if_pos hbig]
    ·exact(decide_eq_false (by unfold I64; omega)).symm
  ·have hm:m=x.natAbs:=by rw[k1,show i=(toW x.natAbs).length by omega,List.take_length,vx]
   by_cases hx0:x<0
   ·by_cases hxb:9223372036854775808<m
    ·(repeat' first|refine qv ?_|apply qn|apply qs|apply qr|(refine AD rfl ?_ ?_<;>intro _<;>try(exfalso; omega))|(refine AQ rfl ?_ ?_<;>intro _<;>try(exfalso; omega))|apply qk|apply qx|apply qt);refine RetOk.of rfl (AV.Le.tup (LeL.cons (AV.Le.int ?_) (LeL.cons (AV.Le.bool ?_) LeL.nil)))
     ·unfold smallV; rw[if_neg (by omega),if_neg (by omega),if_pos (by omega)]
     ·exact(decide_eq_false (by unfold I64; omega)).symm
    ·(repeat' first|refine qv ?_|apply qn|apply qs|apply qr|refine qw ?_|(refine AD rfl ?_ ?_<;>intro _<;>try(exfalso; omega))|(refine AQ rfl ?_ ?_<;>intro _<;>try(exfalso; omega))|apply qk|apply qx|apply qt|refine Fl.cvS rfl rfl rfl rfl rfl rfl ?_);refine RetOk.of rfl (AV.Le.tup (LeL.cons (AV.Le.int ?_) (LeL.cons (AV.Le.bool ?_) LeL.nil)))
     ·rw[EY (by unfold I64; omega)]; omega
     ·exact(decide_eq_true (by unfold I64; omega)).symm
   ·(repeat' first|refine qv ?_|apply qn|apply qs|apply qr|refine qw ?_|(refine AD rfl ?_ ?_<;>intro _<;>try(exfalso; omega))|(refine AQ rfl ?_ ?_<;>intro _<;>try(exfalso; omega))|apply qx|apply qt|refine Fl.cvS rfl rfl rfl rfl rfl rfl ?_);refine RetOk.of rfl (AV.Le.tup (LeL.cons (AV.Le.int ?_) (LeL.cons (AV.Le.bool ?_) LeL.nil)))
    ·rw[bitN_and63 k2]; unfold smallV; rw[if_neg (by omega),if_pos (by omega)]; omega
    ·rw[decide_eq_decide]; unfold I64; omega
theorem rfew_ok (x:Int):PureFn Tryz.prog 143 [aX x] (.tup [aN (smallV x),aB (decide (0≤x∧x≤163840))]):=by
 refine AC Tryz.func143 rfl Tryz.ntmps143 rfl rfl ?_;have hs:=rSmall_ok x;by_cases h:I64 x
 ·rw[decide_eq_true h,EY h]at hs;rw[EY h];by_cases h1:0≤x∧x≤163840
  ·rw[decide_eq_true h1];(repeat' first|refine qv ?_|apply qn|apply qs|apply qr|refine qe ?_|fail);refine qc (hs) ?_;(repeat' first|refine qv ?_|apply qn|apply qs|apply qr|apply qt|(refine AG rfl rfl ?_ ?_<;>intro _<;>try(exfalso; omega)));exact RetOk.of rfl (AV.Le.tup (LeL.cons (AA _) (LeL.cons (AV.Le.bool (decide_eq_true (by omega))) LeL.nil)))
  ·rw[decide_eq_false h1];(repeat' first|refine qv ?_|apply qn|apply qs|apply qr|refine qe ?_|fail);refine qc (hs) ?_;(repeat' first|refine qv ?_|apply qn|apply qs|apply qr|refine Fl.skip rfl rfl ?_|apply qt|(refine AG rfl rfl ?_ ?_<;>intro _<;>try(exfalso; omega)))
   all_goals exact RetOk.of rfl (AV.Le.tup (LeL.cons (AA _) (LeL.cons (AV.Le.bool (by first|rfl|exact decide_eq_false (by omega))) LeL.nil)))
 ·rw[decide_eq_false h]at hs;rw[decide_eq_false (show ¬(0≤x∧x≤163840) by unfold I64 at h; omega)];(repeat' first|refine qv ?_|apply qn|apply qs|apply qr|refine qe ?_|fail);refine qc (hs) ?_;(repeat' first|refine qv ?_|apply qn|apply qs|apply qr|refine Fl.skip rfl rfl ?_|apply qt);exact RetOk.of rfl (AA _)
end Go.Proofs.YtmmfloplhopioaaGreat
namespace Go.AL
def bitl (n:Nat):Nat:=if n=0 then 0 else Nat.log2 n+1
theorem bitl_eq {n k:Nat} (h1:2^k≤n) (h2:n<2^(k+1)):bitl n=k+1:=by
 have:=Nat.two_pow_pos k;rw[bitl,if_neg (by omega),(Nat.log2_eq_iff (by omega)).2 ⟨h1,h2⟩]
theorem bitl_lt (n:Nat):n<2^bitl n:=by
 unfold bitl;split
 ·omega
 ·exact Nat.lt_log2_self
theorem bitl_ge {n:Nat} (h:n≠0):1≤bitl n∧2^(bitl n-1)≤n:=by
 unfold bitl;rw[if_neg h];exact⟨by omega,Nat.log2_self_le h⟩
theorem bitl_le {n k:Nat} (h:n<2^k):bitl n≤k:=by
 rcases Nat.eq_zero_or_pos n with h0|h0
 ·rw[bitl,if_pos h0]; omega
 ·have h1:=bitl_ge (n:=n) (by omega)
  have h2:2^(bitl n-1)<2^k:=by omega
  have:=(Nat.pow_lt_pow_iff_right (by omega:1<2)).1 h2;omega
theorem bitl_words {m n k:Nat} {u lo:Int} (hk:1≤k) (hlo:0≤lo) (hlo2:lo<BB n) (hm:(m:Int)=lo+BB n*u) (h1:2^(k-1)≤u.toNat) (h2:u.toNat<2^k):bitl m=32*n+k:=by
 have hB:BB n=((2^(32*n):Nat):Int):=by rw[BB_pow]; simp
 have hup:u=(u.toNat:Int):=by
  have:=Nat.two_pow_pos (k-1);omega
 have hlt:∃l:Nat,lo=(l:Int):=⟨lo.toNat,by omega⟩;obtain⟨l,rfl⟩:=hlt
 have hm':m=l+2^(32*n)*u.toNat:=by
  rw[hB,hup]at hm;exact_mod_cast hm
 have hl:l<2^(32*n):=by rw[hB]at hlo2; exact_mod_cast hlo2
 have e:32*n+k=(32*n+(k-1))+1:=by omega
 rw[e];refine bitl_eq ?_ ?_
 ·rw[Nat.pow_add,hm'];have:=Nat.mul_le_mul_left (2^(32*n)) h1;omega
 ·rw[←e,Nat.pow_add,hm'];have h3:u.toNat+1≤2^k:=h2;have:=Nat.mul_le_mul_left (2^(32*n)) h3;rw[Nat.mul_add]at this;omega
end Go.AL
namespace Go.Proofs.YtmmfloplhopioaaGreat
open Go.AL
theorem rBits_ok (x:Int) (hx:lenI x≤100000):PureFn Tryz.prog 145 [aX x] (aN (bitl x.natAbs)):=by
 refine AC Tryz.func145 rfl Tryz.ntmps145 rfl rfl ?_;have wx:=Ag x.natAbs;have vx:=Ad (show(0:Int)≤x.natAbs by omega);obtain⟨n,hn⟩:∃n,n=(toW x.natAbs).length:=⟨_,rfl⟩
 have hx':n≤100000:=by rw[hn]; exact hx
 by_cases h0:n=0
 ·have hx0:x.natAbs=0:=by
   have:toW x.natAbs=[]:=List.eq_nil_of_length_eq_zero (by omega);rw[this,val_nil]at vx;omega
  (repeat' first|refine qv ?_|apply qn|apply qs|apply qr|refine qe ?_|(refine AD rfl ?_ ?_<;>intro _<;>try(exfalso; omega))|apply qt);exact RetOk.of rfl (AV.Le.int (by rw[hx0]; rfl))
 ·obtain⟨u,hu⟩:∃u,(toW x.natAbs)[n-1]? = some u:=⟨_,List.getElem?_eq_getElem (by omega)⟩
  have hu':(toW x.natAbs)[(((toW x.natAbs).length:Int)-1).toNat]? = some u:=by rwa [show(((toW x.natAbs).length:Int)-1).toNat=n-1 by omega]
  have hub:=wx u (List.mem_of_getElem? hu);have hval:=Ae hu;rw[show n-1+1=n by omega,hn,List.take_length,vx,←hn]at hval;have wt:WOk ((toW x.natAbs).take (n-1)):=fun y hy=>wx y (List.mem_of_mem_take hy);have hlo:=Al wt;have hlo2:=DU wt;rw[List.length_take_of_le (by omega)]at hlo2
  have hx1:x.natAbs≠0:=by
   intro h;rw[h,show((0:Nat):Int)=0 from rfl,toW_zero]at hn;exact h0 hn
  have hge:=Ep (z:=x.natAbs) (by omega);rw[←hn]at hge
  have hu1:1≤u:=by
   rcases Int.lt_or_le u 1 with h|h
   ·have:u=0:=by omega
    subst this;omega
   ·exact h
  (repeat' first|refine qv ?_|apply qn|apply qs|apply qr|refine qw ?_|refine qe ?_|(refine AD rfl ?_ ?_<;>intro _<;>try(exfalso; omega))|apply qb|apply qk|refine qK ?_|fail);refine AWP.loop (G:=Nat) (fun k=>k≤32∧(k=0∨2^(k-1)≤u.toNat)) (fun k=>AO [] [(3,aN (toW x.natAbs).length),(4,aN k),(5,.v (.int .u32 ((u.toNat/2^k:Nat):Int)))] []) (fun k=>u.toNat/2^k) 0 ⟨by omega,.inl rfl⟩ ?_ ?_
  ·refine Ent.of [] ?_ ?_ rfl rfl;(repeat' first|exact True.intro|refine⟨⟨AA _,rfl⟩,?_⟩|refine⟨⟨AV.Le.int ?_,rfl⟩,?_⟩|fail);rw[Nat.pow_zero,Nat.div_one]; omega
  ·intro k ⟨k0,k1⟩;obtain⟨q,hq⟩:∃q,q=u.toNat/2^k:=⟨_,rfl⟩
   have hq1:u.toNat/2^(k+1)=q/2:=by rw[hq,Nat.pow_succ,←Nat.div_div_eq_div_mul]
   rw[←hq];by_cases hw:0<q
   ·have h2k:2^k≤u.toNat:=by
     rcases Nat.lt_or_ge u.toNat (2^k)with h|h
     ·rw[Nat.div_eq_of_lt h]at hq; omega
     ·exact h
    have hk32:k<32:=by
     have h3:2^k<2^32:=by omega
     exact(Nat.pow_lt_pow_iff_right (by omega:1<2)).1 h3
    have hhi:hiK .u32=4294967295:=rfl
    have hqu:q≤u.toNat:=by rw[hq]; exact Nat.div_le_self _ _
    (repeat' first|refine qv ?_|apply qn|apply qs|apply qr|refine qw ?_|(refine AD rfl ?_ ?_<;>intro _<;>try(exfalso; omega))|apply qb|apply qk);refine LoopEnd.of (k+1) ⟨by omega,.inr (by simpa using h2k)⟩ (by rw[hq1,←hq]; omega) ?_;refine Ent.of [] ?_ ?_ rfl rfl;(repeat' first|exact True.intro|refine⟨⟨AA _,rfl⟩,?_⟩|refine⟨⟨AV.Le.int ?_,rfl⟩,?_⟩|fail);rw[hq1]; omega
   ·have hlt:u.toNat<2^k:=by
     rcases Nat.lt_or_ge u.toNat (2^k)with h|h
     ·exact h
     ·have:=Nat.div_pos h (Nat.two_pow_pos k); omega
    have hk1:1≤k:=by
     rcases k1 with h|h
     ·subst h; simp at hlt; omega
     ·rcases Nat.eq_zero_or_pos k with h'|h'
      ·subst h'; simp at hlt; omega
      ·exact h'
    have hb:=bitl_words hk1 hlo hlo2 hval (k1.resolve_left (by omega)) hlt;(repeat' first|refine qv ?_|apply qn|apply qs|apply qr|refine qw ?_|(refine AD rfl ?_ ?_<;>intro _<;>try(exfalso; omega))|apply qx|apply qt);exact RetOk.of rfl (AV.Le.int (by rw[hb]; omega))
end Go.Proofs.YtmmfloplhopioaaGreat
namespace Go.AL
theorem D2 {x:Int} (h:1≤x):∀k:Nat,1≤x^k
 | 0=>by rw[Int.pow_zero]; omega
 | k+1=>by
  rw[Int.pow_succ];have h1:=D2 h k;have:=Int.mul_le_mul h1 h (by omega) (by omega);omega
theorem FC {a b:Int} (ha:1≤a) (hb:0≤b):b≤b*a:=by
 have:=Int.mul_le_mul_of_nonneg_left ha hb;omega
theorem sq_pow (x:Int) (k:Nat):(x*x)^k=x^(2*k):=by
 rw[Int.mul_pow,←Int.pow_add]; congr 1; omega
theorem lt_BB {m k n:Nat} (h:m≤2^k) (hk:k<32*n):(m:Int)<BB n:=by
 have h3:2^k<2^(32*n):=Nat.pow_lt_pow_right (by omega) hk;have h4:m<2^(32*n):=Nat.lt_of_le_of_lt h h3;rw[BB_pow];exact_mod_cast h4
theorem bitl_BB {m n:Nat} (h:(m:Int)<BB n):bitl m≤32*n:=bitl_le (by
 rw[BB_pow]at h
 exact_mod_cast h)
theorem pow_small {p n b:Int} (hp:2≤p) (h0:0≤n) (hb:b=(bitl p.natAbs:Int)) (h:n*(b-1)≤131072):p^n.toNat<BB 8193:=by
 have hb2:2≤b:=by
  have h1:=bitl_ge (n:=p.natAbs) (by omega);have h2:=bitl_lt p.natAbs;rcases Nat.lt_or_ge (bitl p.natAbs) 2 with h3|h3
  ·have:bitl p.natAbs=1:=by omega
   rw[this]at h2; omega
  ·omega
 have h1:p.natAbs^n.toNat≤(2^bitl p.natAbs)^n.toNat:=Nat.pow_le_pow_left (Nat.le_of_lt (bitl_lt _)) _;rw[←Nat.pow_mul]at h1
 have h2:bitl p.natAbs*n.toNat≤262144:=by
  have e1:n*b≤n*(2*(b-1)):=Int.mul_le_mul_of_nonneg_left (by omega) h0
  have e2:n*(2*(b-1))=2*(n*(b-1)):=by rw[←Int.mul_assoc,Int.mul_comm n 2,Int.mul_assoc]
  have e3:((bitl p.natAbs*n.toNat:Nat):Int)=n*b:=by
   rw[Int.natCast_mul,hb,Int.mul_comm,show((n.toNat:Nat):Int)=n by omega]
  omega
 have h5:p^n.toNat=((p.natAbs^n.toNat:Nat):Int):=by
  rw[Int.natCast_pow,show((p.natAbs:Nat):Int)=p by omega]
 rw[h5];exact lt_BB h1 (by omega)
end Go.AL
namespace Go.Proofs.YtmmfloplhopioaaGreat
open Go.AL
set_option maxHeartbeats 1000000 in
theorem rPower_ok (p n:Int) (hp:2≤p) (hpf:Fit p) (h0:0≤n) (h1:n≤163840) (b:Int) (hb:b=(bitl p.natAbs:Int)) (h:n*(b-1)≤131072):PureFn Tryz.prog 146 [aX p,aN n] (.tup [aX (p^n.toNat),aB true]):=by
 refine AC Tryz.func146 rfl Tryz.ntmps146 rfl rfl ?_;have hlp:=hpf.len
 have hb2:2≤b:=by
  have h1:=bitl_ge (n:=p.natAbs) (by omega);have h2:=bitl_lt p.natAbs;rcases Nat.lt_or_ge (bitl p.natAbs) 2 with h3|h3
  ·have:bitl p.natAbs=1:=by omega
   rw[this]at h2; omega
  ·omega
 have hbu:b≤131072:=by
  have h3:bitl p.natAbs≤32*4096:=bitl_BB (by have:=hpf; unfold Fit at this; exact this);omega
 have hsmall:=pow_small hp h0 hb h;have hbits:=rBits_ok p (show lenI p≤100000 by unfold lenI; omega);rw[←hb]at hbits;have hhi:hiK .i64=9223372036854775807:=rfl;have hquo:n≤262144/(b-1):=(Int.le_ediv_iff_mul_le (by omega)).2 (by omega);obtain⟨T,hT⟩:∃T,T=p^n.toNat:=⟨_,rfl⟩
 have hp8:p<BB 8193:=by
  have:=hpf;unfold Fit at this;have h3:=C4 (show 4096≤8193 by omega);omega
 rw[←hT]at hsmall ⊢;(repeat' first|refine qv ?_|apply qn|apply qs|apply qr|refine qe ?_|fail);refine qc (hbits) ?_;(repeat' first|refine qv ?_|apply qn|apply qs|apply qr|refine qw ?_|(refine AD rfl ?_ ?_<;>intro _<;>try(exfalso; omega))|apply qk);refine qc (Bs 1 (by omega) (by omega)) ?_;(repeat' first|refine qv ?_|apply qn|apply qs|apply qr|refine qe ?_|apply qb);refine AWP.loop (G:=Int×Int×Int) (fun(m,o,x)=>(0≤m∧m≤n)∧(1≤o∧o<BB 8193)∧(1≤x∧x<BB 8193)∧o*x^m.toNat=T)
  (fun(m,o,x)=>AO [] [(1,aN m),(4,.ptr 4 0),(7,.ptr 7 0),(8,.ptr 700 0)] [(4,.cells [aB false,.v (.slice none 0 0)] 48),(7,.cells (eX o) 48),(700,.cells (eX x) 48)])
  (fun(m,o,x)=>m.toNat) (n,1,p) ⟨⟨h0,by omega⟩,⟨by omega,by have:=C4 (show 1≤8193 by omega); rw[Ax 0,CK]at this; omega⟩,⟨by omega,hp8⟩,by rw[Int.one_mul]; exact hT.symm⟩ ?_ ?_
 ·refine Ent.of [(700,8)] ?_ ?_ rfl rfl;(repeat' first|exact True.intro|refine⟨⟨AA _,rfl⟩,?_⟩|refine⟨⟨⟨_,rfl,BLe.cells (AB _)⟩,rfl⟩,?_⟩|fail)
 ·intro(m,o,x) ⟨⟨k0,k1⟩,⟨k2,k3⟩,⟨k4,k5⟩,k6⟩;have lo:lenI o≤8193:=lenI_le.2 (by omega);have lx:lenI x≤8193:=lenI_le.2 (by omega);have hmo:=rMul_ok o x (show lenI o≤40000 by omega) (show lenI x≤40000 by omega);have hmx:=rMul_ok x x (show lenI x≤40000 by omega) (show lenI x≤40000 by omega)
  have hox:1≤o*x:=by have:=FC k4 (show 0≤o by omega); omega
  have hxx:1≤x*x:=by have:=FC k4 (show 0≤x by omega); omega
  by_cases hm:0<m
  ·have hodd:m % 2=1→o*x≤T∧o*x*(x*x)^(m/2).toNat=T:=fun hmo=>by
    have e:x^m.toNat=x*(x*x)^(m/2).toNat:=by
     rw[sq_pow,Int.mul_comm,←Int.pow_succ]; congr 1; omega
    rw[e,←Int.mul_assoc]at k6;exact⟨by rw[←k6]; exact FC (D2 hxx _) (by omega),k6⟩
   have heven:m % 2≠1→o*(x*x)^(m/2).toNat=T:=fun hmo=>by
    have e:x^m.toNat=(x*x)^(m/2).toNat:=by
     rw[sq_pow]; congr 1; omega
    rw[e]at k6;exact k6
   have hsq:1<m→x*x≤T:=fun hm1=>by
    have e:x^m.toNat=(x*x)*x^(m.toNat-2):=by
     rw[show x*x=x^2 by rw[Int.pow_succ,Int.pow_succ,Int.pow_zero,Int.one_mul],←Int.pow_add]; congr 1; omega
    rw[e,←Int.mul_assoc]at k6;rw[←k6];have g1:=FC (D2 k4 (m.toNat-2)) (show 0≤o*(x*x) from Int.mul_nonneg (by omega) (by omega));have g2:=Int.mul_le_mul_of_nonneg_right k2 (show 0≤x*x by omega);omega
   by_cases hr:m % 2=1
   ·obtain⟨q1,q2⟩:=hodd hr;by_cases hm1:1<m
    ·(repeat' first|refine qv ?_|apply qn|apply qs|apply qr|refine qw ?_|(refine AD rfl ?_ ?_<;>intro _<;>try(exfalso; omega))|apply qb|apply qk);refine qc (hmo) ?_;(repeat' first|refine qv ?_|apply qn|apply qs|apply qr|refine qe ?_|(refine AD rfl ?_ ?_<;>intro _<;>try(exfalso; omega)));refine qc (hmx) ?_;(repeat' first|refine qv ?_|apply qn|apply qs|apply qr|refine qw ?_|refine qe ?_|fail);refine LoopEnd.of (m/2,o*x,x*x) ⟨⟨by omega,by omega⟩,⟨by omega,by omega⟩,⟨by omega,by have:=hsq hm1; omega⟩,q2⟩ (show(m/2).toNat<m.toNat by omega) ?_;refine Ent.of [(700,8)] ?_ ?_ rfl rfl;(repeat' first|exact True.intro|refine⟨⟨AA _,rfl⟩,?_⟩|refine⟨⟨⟨_,rfl,BLe.cells (AB _)⟩,rfl⟩,?_⟩|fail)
    ·have hm2:m=1:=by omega
     subst hm2;(repeat' first|refine qv ?_|apply qn|apply qs|apply qr|refine qw ?_|refine AJ rfl ?_|apply qb|apply qk);refine qc (hmo) ?_;(repeat' first|refine qv ?_|apply qn|apply qs|apply qr|refine qw ?_|refine qe ?_|refine AF rfl ?_|apply qk);refine LoopEnd.of (0,o*x,x) ⟨⟨by omega,by omega⟩,⟨by omega,by omega⟩,⟨by omega,k5⟩,by simpa using q2⟩ (show(0:Int).toNat<(1:Int).toNat by decide) ?_;refine Ent.of [(700,8)] ?_ ?_ rfl rfl;(repeat' first|exact True.intro|refine⟨⟨AA _,rfl⟩,?_⟩|refine⟨⟨⟨_,rfl,BLe.cells (AB _)⟩,rfl⟩,?_⟩|fail)
   ·have q2:=heven hr;(repeat' first|refine qv ?_|apply qn|apply qs|apply qr|refine qw ?_|(refine AD rfl ?_ ?_<;>intro _<;>try(exfalso; omega))|apply qb|apply qk);refine qc (hmx) ?_;(repeat' first|refine qv ?_|apply qn|apply qs|apply qr|refine qw ?_|refine qe ?_|fail);refine LoopEnd.of (m/2,o,x*x) ⟨⟨by omega,by omega⟩,⟨by omega,by omega⟩,⟨by omega,by have:=hsq (by omega); omega⟩,q2⟩ (show(m/2).toNat<m.toNat by omega) ?_;refine Ent.of [(700,8)] ?_ ?_ rfl rfl;(repeat' first|exact True.intro|refine⟨⟨AA _,rfl⟩,?_⟩|refine⟨⟨⟨_,rfl,BLe.cells (AB _)⟩,rfl⟩,?_⟩|fail)
  ·rw[show m.toNat=0 by omega,Int.pow_zero,Int.mul_one]at k6;rw[←k6];(repeat' first|refine qv ?_|apply qn|apply qs|apply qr|refine qe ?_|(refine AD rfl ?_ ?_<;>intro _<;>try(exfalso; omega))|apply qx|apply qt);exact RetOk.of rfl (AA _)
end Go.Proofs.YtmmfloplhopioaaGreat
namespace Go.AL
theorem psi_one (a:Int):psiN a 1=1:=by rw[CM,DM,Int.mul_zero]; rfl
theorem psi_rec (a:Int) (n:Nat):(a+a)*psiN a (n+1)-psiN a n=psiN a (n+2):=by
 have h1:=CM a (n+1);have h2:=Ej a n;have h3:=CM a n;rw[show n+1+1=n+2 from rfl]at h1;grind
theorem psi_two (a:Int):psiN a 2=a+a:=by
 have:=psi_rec a 0;simp only[Nat.zero_add,psi_one,DM]at this;omega
theorem psi_up {a:Int} (ha:2≤a) (n:Nat):psiN a (n+1)≤(a+a)*psiN a n∨n=0:=by
 cases n with
 | zero=>exact .inr rfl
 | succ n=>
  left;have h1:=psi_rec a n;have h2:=(Dd ha n).2.1;rw[show n+1+1=n+2 from rfl];omega
theorem psi_bound {a:Int} (ha:2≤a) (hf:Fit a) {n k:Nat} (hn:n≠0) (h:psiN a n<BB k):psiN a (n+1)<BB (4097+k):=by
 have h1:=(psi_up ha n).resolve_right hn
 have h2:a+a<BB 4097:=by
  have:=hf;unfold Fit at this;rw[Ax];have:=A6 4096;omega
 have h3:=(Dd ha n).2.1;have h4:=A6 k;rw[BB_add];have g1:(a+a)*psiN a n≤(a+a)*BB k:=Int.mul_le_mul_of_nonneg_left (by omega) (by omega);have g2:(a+a)*BB k<BB 4097*BB k:=Int.mul_lt_mul_of_pos_right h2 h4;omega
theorem twice_lt {x:Int} {k:Nat} (hx:Fit x) (hk:4097≤k):x+x<BB k:=by
 have h1:=hx;unfold Fit at h1;have h2:=C4 hk;rw[Ax]at h2;have:=A6 4096;omega
theorem pow_gt {x z:Int} {y:Int} {bx bz:Int} (hx:2≤x) (hz:1≤z) (hy:0≤y) (hbx:bx=(bitl x.natAbs:Int)) (hbz:bz=(bitl z.natAbs:Int)) (h:bz<y*(bx-1)):z<x^y.toNat:=by
 have h1:=bitl_ge (n:=x.natAbs) (by omega);have h2:=bitl_lt z.natAbs;have h3:(2^(bitl x.natAbs-1))^y.toNat≤x.natAbs^y.toNat:=Nat.pow_le_pow_left h1.2 _;rw[←Nat.pow_mul]at h3
 have h4:bitl z.natAbs≤(bitl x.natAbs-1)*y.toNat:=by
  have e:(((bitl x.natAbs-1)*y.toNat:Nat):Int)=y*(bx-1):=by
   rw[Int.natCast_mul,hbx,Int.mul_comm,show((y.toNat:Nat):Int)=y by omega,Int.natCast_sub h1.1];rfl
  omega
 have h5:2^bitl z.natAbs≤2^((bitl x.natAbs-1)*y.toNat):=Nat.pow_le_pow_right (by omega) h4
 have h6:z.natAbs<x.natAbs^y.toNat:=by omega
 have h7:x^y.toNat=((x.natAbs^y.toNat:Nat):Int):=by
  rw[Int.natCast_pow,show((x.natAbs:Nat):Int)=x by omega]
 rw[h7];omega
end Go.AL
namespace Go.Proofs.YtmmfloplhopioaaGreat
open Go.AL
set_option maxHeartbeats 1000000 in
theorem rIsPsi_ok (x y z:Int) (hx:Fit x) (hy:Fit y) (hz:Fit z) (b:Bool) (hb:b=true↔2≤x∧1≤y∧psiN x y.toNat=z):PureFn Tryz.prog 78 [aX x,aX y,aX z] (aB b):=by
 refine AC Tryz.func78 rfl Tryz.ntmps78 rfl rfl ?_
 have hfalse:¬(2≤x∧1≤y∧psiN x y.toNat=z)→false=b:=fun h=>by cases b with|false=>rfl|true=>exact absurd (hb.1 rfl) h
 have lx:lenI x≤4096:=hx.len;have lz:lenI z≤4096:=hz.len;have l2:lenI 2≤4096:=fit_two.len;have hfew:=rfew_ok y;have hcmp:=rCmp_ok x 2 (by omega) (by omega);have c2:=BJ x 2;by_cases hfe:0≤y∧y≤163840
 ·rw [decide_eq_true hfe,EY (by unfold I64; omega)]at hfew;by_cases h1:2≤x∧1≤y
  ·(repeat'(first|refine qv ?_|apply qn|apply qs|apply qr|refine qe ?_|fail));refine qc (hfew) ?_;(repeat' first|refine qv ?_|apply qn|apply qs|apply qr);refine qc (Bs 2 (by omega) (by omega)) ?_;refine qc (hcmp) ?_;(repeat' first|refine qv ?_|refine Fl.nil (fun _=>by kernel_rfl) ?_|apply qs|apply qr|(refine AD rfl ?_ ?_<;>intro _<;>try(exfalso; omega))|apply qk|(refine AG rfl rfl ?_ ?_<;>intro _<;>try(exfalso; omega)));refine qc (Bs 1 (by omega) (by omega)) ?_;(repeat' first|refine qv ?_|fail);refine qc (rAdd_ok x x (show lenI x≤40000 by omega) (show lenI x≤40000 by omega)) ?_;(repeat' first|refine qv ?_|apply qn|refine Fl.nil (fun _=>by kernel_rfl) ?_|apply qs|apply qr|refine qe ?_|apply qb);refine AWP.loop (G:=Nat) (fun i=>(1≤i∧(i:Int)≤y)∧psiN x i<BB 8193∧psiN x (i+1)<BB 12290)
    (fun i=>AO [] [(3,.ptr 3 0),(5,.ptr 5 0),(7,aN y),(9,.ptr 9 0),(10,.ptr 10 0),(11,aN i)] [(3,.cells (eX x) 48),(5,.cells (eX z) 48),(9,.cells (eX (psiN x i)) 48),(10,.cells (eX (psiN x (i+1))) 48)])
    (fun i=>y.toNat-i) 1 ⟨⟨by omega,by omega⟩,?_,?_⟩ ?_ ?_
   ·rw[psi_one];have:=C4 (show 1≤8193 by omega);rw[Ax 0,CK]at this;omega
   ·rw[psi_two];exact twice_lt hx (by omega)
   ·refine Ent.of [] ?_ ?_ rfl rfl;(repeat' first|exact True.intro|refine⟨⟨AA _,rfl⟩,?_⟩|refine⟨⟨⟨_,rfl,BLe.cells (AB _)⟩,rfl⟩,?_⟩|refine⟨⟨⟨_,rfl,BLe.cells ?_⟩,rfl⟩,?_⟩|fail)
    ·exact leX (psi_one x).symm
    ·exact leX (psi_two x).symm
   ·intro i ⟨⟨k0,k1⟩,k2,k3⟩;have p0:=(Dd h1.1 i).2.1;have p1:=(Dd h1.1 (i+1)).2.1;have li:lenI (psiN x i)≤8193:=lenI_le.2 (by omega);have li1:lenI (psiN x (i+1))≤12290:=lenI_le.2 (by omega);have hcm:=rCmp_ok (psiN x i) z (by omega) (by omega);have c:=BJ (psiN x i) z;have hsame:=D0 (psiN x i) z (show lenI (psiN x i)≤1000000 by omega);by_cases hin:(i:Int)<y
    ·by_cases hle:psiN x i≤z
     ·have lxx:lenI (x+x)≤4097:=lenI_le.2 (by have:=twice_lt hx (Nat.le_refl 4097); omega);have hm:=rMul_ok (x+x) (psiN x (i+1)) (show lenI (x+x)≤40000 by omega) (show lenI (psiN x (i+1))≤40000 by omega)
      have b1:psiN x (i+1)<BB 8193:=psi_bound h1.1 hx (k:=4096) (by omega) (by
       have:=hz;unfold Fit at this
       omega)
      have b2:psiN x (i+2)<BB 12290:=psi_bound h1.1 hx (k:=8193) (n:=i+1) (by omega) b1
      have lm:lenI ((x+x)*psiN x (i+1))≤40000:=by
       have:=lenI_mul (x+x) (psiN x (i+1));omega
      have hs:=rSub_ok ((x+x)*psiN x (i+1)) (psiN x i) lm (by omega);rw[psi_rec]at hs;(repeat' first|refine qv ?_|apply qs|apply qr|(refine AG rfl rfl ?_ ?_<;>intro _<;>try(exfalso; omega)));refine qc (hcm) ?_;(repeat' first|refine qv ?_|apply qn|apply qs|apply qr|(refine AD rfl ?_ ?_<;>intro _<;>try(exfalso; omega))|apply qb|apply qk);refine qc (rAdd_ok x x (show lenI x≤40000 by omega) (show lenI x≤40000 by omega)) ?_;(repeat' first|refine qv ?_|fail);refine qc (hm) ?_;(repeat' first|refine qv ?_|fail);refine qc (hs) ?_;(repeat' first|refine qv ?_|apply qn|refine Fl.nil (fun _=>by kernel_rfl) ?_|apply qr|refine qw ?_|refine qe ?_|fail);refine LoopEnd.of (i+1) ⟨⟨by omega,by omega⟩,b1,b2⟩ (by omega) ?_;refine Ent.of [] ?_ ?_ rfl rfl;(repeat' first|exact True.intro|refine⟨⟨AA _,rfl⟩,?_⟩|refine⟨⟨⟨_,rfl,BLe.cells (AB _)⟩,rfl⟩,?_⟩|fail)
     ·(repeat' first|refine qv ?_|apply qs|apply qr|(refine AG rfl rfl ?_ ?_<;>intro _<;>try(exfalso; omega)));refine qc (hcm) ?_;(repeat' first|refine qv ?_|apply qn|apply qs|apply qr|(refine AD rfl ?_ ?_<;>intro _<;>try(exfalso; omega))|apply qx);refine qc (hsame) ?_;(repeat' first|refine qv ?_|apply qn|apply qt);refine RetOk.of rfl (AV.Le.bool ?_);rw[decide_eq_false (by omega)];refine hfalse fun k=>?_;have:=psi_mono h1.1 (show i≤y.toNat by omega);omega
    ·have hiy:y.toNat=i:=by omega
     (repeat' first|refine qv ?_|apply qn|apply qs|apply qr|refine Fl.skip rfl rfl ?_|refine AF rfl ?_|apply qx|(refine AG rfl rfl ?_ ?_<;>intro _<;>try(exfalso; omega)));refine qc (hsame) ?_;(repeat' first|refine qv ?_|apply qn|apply qt);refine RetOk.of rfl (AV.Le.bool ?_);rw[hiy]at hb
     cases b with
     | false=>exact decide_eq_false fun k=>by have:=hb.2 ⟨h1.1,h1.2,k⟩; cases this
     | true=>exact decide_eq_true (hb.1 rfl).2.2
  ·have hbad:=hfalse fun k=>h1 ⟨k.1,k.2.1⟩;(repeat' first|refine qv ?_|apply qn|apply qs|apply qr|refine qe ?_|fail);refine qc (hfew) ?_;(repeat' first|refine qv ?_|apply qn|apply qs|apply qr);refine qc (Bs 2 (by omega) (by omega)) ?_;refine qc (hcmp) ?_;(repeat' first|refine qv ?_|apply qn|refine Fl.nil (fun _=>by kernel_rfl) ?_|apply qs|apply qr|refine Fl.skip rfl rfl ?_|refine AJ rfl ?_|(refine AD rfl ?_ ?_<;>intro _<;>try(exfalso; omega))|apply qt|(refine AG rfl rfl ?_ ?_<;>intro _<;>try(exfalso; omega)))
   all_goals exact RetOk.of rfl (AV.Le.bool hbad)
 ·rw[decide_eq_false hfe]at hfew
  have hbad:=hfalse fun k=>by
   refine psi_not_fit (a:=x) (n:=y.toNat) k.1 ?_ (by rw[k.2.2]; exact hz);have:=k.2.1;omega
  (repeat' first|refine qv ?_|apply qn|apply qs|apply qr|refine qe ?_|fail);refine qc (hfew) ?_;(repeat' first|refine qv ?_|apply qn|apply qs|apply qr);refine qc (Bs 2 (by omega) (by omega)) ?_;refine qc (hcmp) ?_;(repeat' first|refine qv ?_|apply qn|refine Fl.nil (fun _=>by kernel_rfl) ?_|apply qs|apply qr|refine Fl.skip rfl rfl ?_|refine AJ rfl ?_|apply qt|(refine AG rfl rfl ?_ ?_<;>intro _<;>try(exfalso; omega)))
  all_goals exact RetOk.of rfl (AV.Le.bool hbad)
set_option maxHeartbeats 1000000 in
theorem rIsPower_ok (x y z:Int) (hx:Fit x) (hy:Fit y) (hz:Fit z) (b:Bool) (hb:b=true↔1≤x∧0≤y∧x^y.toNat=z):PureFn Tryz.prog 79 [aX x,aX y,aX z] (aB b):=by
 refine AC Tryz.func79 rfl Tryz.ntmps79 rfl rfl ?_
 have hfalse:¬(1≤x∧0≤y∧x^y.toNat=z)→false=b:=fun h=>by cases b with|false=>rfl|true=>exact absurd (hb.1 rfl) h
 have lx:lenI x≤4096:=hx.len;have lz:lenI z≤4096:=hz.len;have l1:lenI 1≤4096:=fit_one.len;have hfew:=rfew_ok y;have hcmp:=rCmp_ok x 1 (by omega) (by omega);have c2:=BJ x 1;have hs1:=D0 x 1 (show lenI x≤1000000 by omega);by_cases h1:1≤x∧0≤y
 ·by_cases hx1:x=1
  ·rw[decide_eq_true hx1]at hs1;have hzx:=D0 z x (show lenI z≤1000000 by omega);(repeat' first|refine qv ?_|apply qn|apply qs|apply qr|refine qe ?_|fail);refine qc (Bs 1 (by omega) (by omega)) ?_;refine qc (hcmp) ?_;(repeat' first|refine qv ?_|refine Fl.nil (fun _=>by kernel_rfl) ?_|apply qs|apply qr|(refine AD rfl ?_ ?_<;>intro _<;>try(exfalso; omega))|apply qk|(refine AG rfl rfl ?_ ?_<;>intro _<;>try(exfalso; omega)));refine qc (Bs 1 (by omega) (by omega)) ?_;refine qc (hs1) ?_;(repeat' first|refine qv ?_|refine Fl.nil (fun _=>by kernel_rfl) ?_|apply qs|apply qr|refine AJ rfl ?_);refine qc (hzx) ?_;(repeat' first|refine qv ?_|apply qn|apply qt);refine RetOk.of rfl (AV.Le.bool ?_);subst hx1
   cases b with
   | false=>exact decide_eq_false fun k=>by have:=hb.2 ⟨by omega,by omega,by rw[Int.one_pow,k]⟩; cases this
   | true=>exact decide_eq_true (by have:=(hb.1 rfl).2.2; rw[Int.one_pow]at this; exact this.symm)
  ·rw [decide_eq_false hx1]at hs1;by_cases hfe:0≤y∧y≤163840
   ·rw [decide_eq_true hfe,EY (by unfold I64; omega)]at hfew;by_cases hz0:z≤0
    ·have hbad:=hfalse fun k=>by
      have:=D2 (x:=x) (by omega) y.toNat;omega
     (repeat' first|refine qv ?_|apply qn|apply qs|apply qr|refine qe ?_|fail);refine qc (Bs 1 (by omega) (by omega)) ?_;refine qc (hcmp) ?_;(repeat' first|refine qv ?_|refine Fl.nil (fun _=>by kernel_rfl) ?_|apply qs|apply qr|(refine AD rfl ?_ ?_<;>intro _<;>try(exfalso; omega))|apply qk|(refine AG rfl rfl ?_ ?_<;>intro _<;>try(exfalso; omega)));refine qc (Bs 1 (by omega) (by omega)) ?_;refine qc (hs1) ?_;(repeat' first|refine qv ?_|refine Fl.nil (fun _=>by kernel_rfl) ?_|apply qs|apply qr|refine AF rfl ?_|apply qk);refine qc (hfew) ?_;(repeat' first|refine qv ?_|apply qn|apply qs|apply qr|refine Fl.skip rfl rfl ?_|refine AJ rfl ?_|apply qt|(refine AG rfl rfl ?_ ?_<;>intro _<;>try(exfalso; omega)))
     ·exact RetOk.of rfl (AV.Le.bool hbad)
     ·have hzz:=rZeroX_ok z;rw[decide_eq_true (show z=0 by omega)]at hzz;refine qc (hzz) ?_;(repeat' first|refine qv ?_|apply qn|apply qs|apply qr|refine AJ rfl ?_|apply qt);exact RetOk.of rfl (AV.Le.bool hbad)
    ·obtain⟨bx,hbx⟩:∃bx:Int,bx=bitl x.natAbs:=⟨_,rfl⟩;obtain⟨bz,hbz⟩:∃bz:Int,bz=bitl z.natAbs:=⟨_,rfl⟩;have hbitx:=rBits_ok x (by omega);have hbitz:=rBits_ok z (by omega);rw[←hbx]at hbitx;rw[←hbz]at hbitz;have ux:bitl x.natAbs≤32*4096:=bitl_BB (by have:=hx; unfold Fit at this; exact this);have uz:bitl z.natAbs≤32*4096:=bitl_BB (by have:=hz; unfold Fit at this; exact this);have gx:=(bitl_ge (n:=x.natAbs) (by omega)).1;have m0:0≤y*(bx-1):=Int.mul_nonneg (by omega) (by omega);have m1:y*(bx-1)≤163840*(bx-1):=Int.mul_le_mul_of_nonneg_right (by omega) (by omega);have hzz:=rZeroX_ok z;rw[decide_eq_false (show ¬z=0 by omega)]at hzz;(repeat' first|refine qv ?_|apply qn|apply qs|apply qr|refine qe ?_|fail);refine qc (Bs 1 (by omega) (by omega)) ?_;refine qc (hcmp) ?_;(repeat' first|refine qv ?_|refine Fl.nil (fun _=>by kernel_rfl) ?_|apply qs|apply qr|(refine AD rfl ?_ ?_<;>intro _<;>try(exfalso; omega))|apply qk|(refine AG rfl rfl ?_ ?_<;>intro _<;>try(exfalso; omega)));refine qc (Bs 1 (by omega) (by omega)) ?_;refine qc (hs1) ?_;(repeat' first|refine qv ?_|refine Fl.nil (fun _=>by kernel_rfl) ?_|apply qs|apply qr|refine AF rfl ?_|apply qk);refine qc (hfew) ?_;(repeat' first|refine qv ?_|apply qn|apply qs|apply qr|(refine AG rfl rfl ?_ ?_<;>intro _<;>try(exfalso; omega)));refine qc (hzz) ?_;(repeat' first|refine qv ?_|apply qn|apply qs|apply qr|refine AF rfl ?_|apply qk);refine qc (hbitx) ?_;(repeat' first|refine qv ?_|refine qw ?_|fail);refine qc (hbitz) ?_;(repeat' first|refine qv ?_|apply qn|refine Fl.nil (fun _=>by kernel_rfl) ?_|apply qs|apply qr|(refine AD rfl ?_ ?_<;>intro _<;>try(exfalso; omega))|apply qk|apply qt)
     ·rename_i hgt;have:=pow_gt (x:=x) (z:=z) (y:=y) (by omega) (by omega) (by omega) hbx hbz hgt;exact RetOk.of rfl (AV.Le.bool (hfalse fun k=>by omega))
     ·rename_i hgt;have hsm:=pow_small (p:=x) (n:=y) (by omega) (by omega) hbx (by omega);have hT:=D2 (x:=x) (by omega) y.toNat
      have hsame:=D0 (x^y.toNat) z (show lenI (x^y.toNat)≤1000000 by
       have:lenI (x^y.toNat)≤8193:=lenI_le.2 (by omega)
       omega)
      refine qc (rPower_ok x y (by omega) hx (by omega) (by omega) bx hbx (by omega)) ?_;(repeat' first|refine qv ?_|apply qn|apply qs|apply qr|refine qe ?_|fail);refine qc (hsame) ?_;(repeat' first|refine qv ?_|apply qn|apply qt);refine RetOk.of rfl (AV.Le.bool ?_)
      cases b with
      | false=>exact decide_eq_false fun k=>by have:=hb.2 ⟨by omega,by omega,k⟩; cases this
      | true=>exact decide_eq_true (hb.1 rfl).2.2
   ·rw[decide_eq_false hfe]at hfew
    have hbad:=hfalse fun k=>by
     refine pow_not_fit (x:=x) (n:=y.toNat) (by omega) ?_ (by rw[k.2.2]; exact hz);omega
    (repeat' first|refine qv ?_|apply qn|apply qs|apply qr|refine qe ?_|fail);refine qc (Bs 1 (by omega) (by omega)) ?_;refine qc (hcmp) ?_;(repeat' first|refine qv ?_|refine Fl.nil (fun _=>by kernel_rfl) ?_|apply qs|apply qr|(refine AD rfl ?_ ?_<;>intro _<;>try(exfalso; omega))|apply qk|(refine AG rfl rfl ?_ ?_<;>intro _<;>try(exfalso; omega)));refine qc (Bs 1 (by omega) (by omega)) ?_;refine qc (hs1) ?_;(repeat' first|refine qv ?_|refine Fl.nil (fun _=>by kernel_rfl) ?_|apply qs|apply qr|refine AF rfl ?_|apply qk);refine qc (hfew) ?_;(repeat' first|refine qv ?_|apply qn|apply qs|apply qr|refine Fl.skip rfl rfl ?_|refine AJ rfl ?_|apply qt);exact RetOk.of rfl (AV.Le.bool hbad)
 ·have hbad:=hfalse fun k=>h1 ⟨k.1,k.2.1⟩;(repeat' first|refine qv ?_|apply qn|apply qs|apply qr|refine qe ?_|fail);refine qc (Bs 1 (by omega) (by omega)) ?_;refine qc (hcmp) ?_;(repeat' first|refine qv ?_|apply qn|refine Fl.nil (fun _=>by kernel_rfl) ?_|apply qs|apply qr|refine Fl.skip rfl rfl ?_|refine AJ rfl ?_|(refine AD rfl ?_ ?_<;>intro _<;>try(exfalso; omega))|apply qt|(refine AG rfl rfl ?_ ?_<;>intro _<;>try(exfalso; omega)))
  all_goals exact RetOk.of rfl (AV.Le.bool hbad)
end Go.Proofs.YtmmfloplhopioaaGreat
namespace Go.AL
end Go.AL
namespace Go.Proofs.YtmmfloplhopioaaGreat
open Go.AL
end Go.Proofs.YtmmfloplhopioaaGreat
namespace Go.AL
theorem plI_le (x:Int):0≤plI x∧plI x≤(x.natAbs:Int)∧opI x≤0 ∧ -(x.natAbs:Int)≤opI x:=by
 unfold plI opI;repeat' split
 all_goals omega
theorem PS_AS (X:List Int):∀l:List TZ,0≤PS X l∧PS X l≤AS X l∧OS X l≤0 ∧ - AS X l≤OS X l
 | []=>by simp[PS,AS,OS,sumL]
 | t::l=>by
  have h1:=PS_AS X l;have h2:=plI_le (tv X t);simp only[PS,AS,OS,List.map_cons,sumL]at h1 ⊢;omega
theorem EvOk.of_as {X:List Int} {p:PZ} (h:Fit (AS X p.terms)):EvOk X p:=by
 have h1:=PS_AS X p.terms;exact⟨h.le (by omega),h.le (by omega)⟩
theorem AsL.ev {X:List Int} {l:LZ} (h:AsL X l):EvL X l:=fun p hp=>EvOk.of_as (h p hp)
end Go.AL
namespace Go.Proofs.YtmmfloplhopioaaGreat
open Go.AL
set_option maxHeartbeats 2000000 in
theorem rHolds_ok (s:SZ) (X:List Int) (hw:WS s) (hs:OkS s) (hlen:(X.length:Int)=s.vars) (M:Nat) (hM:M≤30000) (hload:∀l∈s.links,LoadL M X l) (has:∀l∈s.links,AsL X l) (b:Bool) (hb:b=true↔∀l∈s.links,HoL X l):PureFn Tryz.prog 36 [aS s,.sl 2 eX X] (.tup [aB b,aN 0]):=by
 refine AC Tryz.func36 rfl Tryz.ntmps36 rfl rfl ?_;have hsl:=hs.len
 have hfalse:¬(∀l∈s.links,HoL X l)→false=b:=fun h=>by cases b with|false=>rfl|true=>exact absurd (hb.1 rfl) h
 (repeat' first|refine qv ?_|apply qn|apply qs|apply qr|refine qe ?_|apply qb);refine AWP.loop (G:=Nat) (fun i=>i≤s.links.length∧∀l∈s.links.take i,HoL X l) (fun i=>AO [] [(1,.sl 2 eX X),(2,.ptr 2 0),(6,aN i)] [(2,.cells [aN s.vars,.sl 3 eL s.links] 39)]) (fun i=>s.links.length-i) 0 ⟨by omega,by simp⟩ ?_ ?_
 ·refine Ent.of [] ?_ ?_ rfl rfl;(repeat' first|exact True.intro|refine⟨⟨AA _,rfl⟩,?_⟩|refine⟨⟨⟨_,rfl,BLe.cells (AB _)⟩,rfl⟩,?_⟩|fail)
 ·intro i ⟨k0,k1⟩;by_cases hi:i<s.links.length
  ·obtain⟨l,hl⟩:∃l,s.links[i]? = some l:=⟨_,List.getElem?_eq_getElem hi⟩;have hlm:=List.mem_of_getElem? hl;have hL:=hs.links l hlm;rw[←hlen]at hL;have hv:=rvalues_ok l X (hw l hlm) hL M hM (hload l hlm) _ (fun _=>rfl) (fun h=>absurd (has l hlm) h);have hall:¬HoL X l→false=b:=fun h=>hfalse fun k=>h (k l hlm);have hup:HoL X l→∀q∈s.links.take (i+1),HoL X q:=A3 hl k1;have hvf:=lvals_fit (has l hlm).ev
   have hvl:((lvals X l).length:Int)=BW l.kind:=by rw[←hL.len]; simp[lvals]
   have hho:HoL X l↔holdP l.kind (lvals X l):=Iff.rfl;revert hv hvf hvl hho;generalize lvals X l=vs;intro hv hvf hvl hho;rcases kinds hL.kind with hk|hk|hk|hk
   ·rw[hk]at hvl
    have hvl:vs.length=1:=by have:(vs.length:Int)=1:=hvl; omega
    obtain⟨x,rfl⟩:∃x,vs=[x]:=by
     match vs,hvl with
     | [a],_=>exact⟨a,rfl⟩
    have g0:[x][(0:Int).toNat]? = some x:=rfl;rw[hk]at hho;have hho:HoL X l↔x=0:=hho;have hz:=rZeroX_ok x;by_cases h:x=0
    ·rw[decide_eq_true h]at hz;(repeat' first|refine qv ?_|apply qn|apply qs|apply qr|(refine AD rfl ?_ ?_<;>intro _<;>try(exfalso; omega))|apply qb|apply qk|refine qK ?_|fail);refine qc (hv) ?_;(repeat' first|refine qv ?_|apply qn|apply qs|apply qr|refine AF rfl ?_|(refine AD rfl ?_ ?_<;>intro _<;>try(exfalso; omega))|apply qb|apply qk|refine qK ?_|fail);refine qc (hz) ?_;(repeat' first|refine qv ?_|apply qn|apply qs|apply qr|refine qw ?_|refine AF rfl ?_|apply qk);refine LoopEnd.of (i+1) ⟨by omega,hup (hho.2 h)⟩ (by omega) ?_;refine Ent.of [] ?_ ?_ rfl rfl;(repeat' first|exact True.intro|refine⟨⟨AA _,rfl⟩,?_⟩|refine⟨⟨⟨_,rfl,BLe.cells (AB _)⟩,rfl⟩,?_⟩|fail)
    ·rw[decide_eq_false h]at hz;(repeat' first|refine qv ?_|apply qn|apply qs|apply qr|(refine AD rfl ?_ ?_<;>intro _<;>try(exfalso; omega))|apply qb|apply qk|refine qK ?_|fail);refine qc (hv) ?_;(repeat' first|refine qv ?_|apply qn|apply qs|apply qr|refine AF rfl ?_|(refine AD rfl ?_ ?_<;>intro _<;>try(exfalso; omega))|apply qb|apply qk|refine qK ?_|fail);refine qc (hz) ?_;(repeat' first|refine qv ?_|apply qn|apply qs|apply qr|refine AJ rfl ?_|apply qt);exact RetOk.of rfl (AV.Le.tup (LeL.cons (AV.Le.bool (hall fun k=>h (hho.1 k))) (AB _)))
   ·rw[hk]at hvl
    have hvl:vs.length=3:=by have:(vs.length:Int)=3:=hvl; omega
    obtain⟨x,y,z,rfl⟩:∃x y z,vs=[x,y,z]:=by
     match vs,hvl with
     | [a,b,c],_=>exact⟨a,b,c,rfl⟩
    have g0:[x,y,z][(0:Int).toNat]? = some x:=rfl;have g1:[x,y,z][(1:Int).toNat]? = some y:=rfl;have g2:[x,y,z][(2:Int).toNat]? = some z:=rfl;rw[hk]at hho;have hho:HoL X l↔2≤x∧1≤y∧psiN x y.toNat=z:=hho;by_cases h:HoL X l
    ·have hz:=rIsPsi_ok x y z (hvf x (by simp)) (hvf y (by simp)) (hvf z (by simp)) true ⟨fun _=>hho.1 h,fun _=>rfl⟩;(repeat' first|refine qv ?_|apply qn|apply qs|apply qr|(refine AD rfl ?_ ?_<;>intro _<;>try(exfalso; omega))|apply qb|apply qk|refine qK ?_|fail);refine qc (hv) ?_;(repeat' first|refine qv ?_|apply qn|apply qs|apply qr|refine AF rfl ?_|(refine AD rfl ?_ ?_<;>intro _<;>try(exfalso; omega))|apply qb|apply qk|refine qK ?_|fail);refine qc (hz) ?_;(repeat' first|refine qv ?_|apply qn|refine Fl.nil (fun _=>by kernel_rfl) ?_|apply qs|apply qr|refine qw ?_|refine AF rfl ?_|apply qk);refine LoopEnd.of (i+1) ⟨by omega,hup h⟩ (by omega) ?_;refine Ent.of [] ?_ ?_ rfl rfl;(repeat' first|exact True.intro|refine⟨⟨AA _,rfl⟩,?_⟩|refine⟨⟨⟨_,rfl,BLe.cells (AB _)⟩,rfl⟩,?_⟩|fail)
    ·have hz:=rIsPsi_ok x y z (hvf x (by simp)) (hvf y (by simp)) (hvf z (by simp)) false ⟨fun k=>(by cases k),fun k=>absurd (hho.2 k) h⟩;(repeat' first|refine qv ?_|apply qn|apply qs|apply qr|(refine AD rfl ?_ ?_<;>intro _<;>try(exfalso; omega))|apply qb|apply qk|refine qK ?_|fail);refine qc (hv) ?_;(repeat' first|refine qv ?_|apply qn|apply qs|apply qr|refine AF rfl ?_|(refine AD rfl ?_ ?_<;>intro _<;>try(exfalso; omega))|apply qb|apply qk|refine qK ?_|fail);refine qc (hz) ?_;(repeat' first|refine qv ?_|apply qn|refine Fl.nil (fun _=>by kernel_rfl) ?_|apply qs|apply qr|refine AJ rfl ?_|apply qt);exact RetOk.of rfl (AV.Le.tup (LeL.cons (AV.Le.bool (hall h)) (AB _)))
   ·rw[hk]at hvl
    have hvl:vs.length=3:=by have:(vs.length:Int)=3:=hvl; omega
    obtain⟨x,y,z,rfl⟩:∃x y z,vs=[x,y,z]:=by
     match vs,hvl with
     | [a,b,c],_=>exact⟨a,b,c,rfl⟩
    have g0:[x,y,z][(0:Int).toNat]? = some x:=rfl;have g1:[x,y,z][(1:Int).toNat]? = some y:=rfl;have g2:[x,y,z][(2:Int).toNat]? = some z:=rfl;rw[hk]at hho;have hho:HoL X l↔1≤x∧0≤y∧x^y.toNat=z:=hho;by_cases h:HoL X l
    ·have hz:=rIsPower_ok x y z (hvf x (by simp)) (hvf y (by simp)) (hvf z (by simp)) true ⟨fun _=>hho.1 h,fun _=>rfl⟩;(repeat' first|refine qv ?_|apply qn|apply qs|apply qr|(refine AD rfl ?_ ?_<;>intro _<;>try(exfalso; omega))|apply qb|apply qk|refine qK ?_|fail);refine qc (hv) ?_;(repeat' first|refine qv ?_|apply qn|apply qs|apply qr|refine AF rfl ?_|(refine AD rfl ?_ ?_<;>intro _<;>try(exfalso; omega))|apply qb|apply qk|refine qK ?_|fail);refine qc (hz) ?_;(repeat' first|refine qv ?_|apply qn|refine Fl.nil (fun _=>by kernel_rfl) ?_|apply qs|apply qr|refine qw ?_|refine AF rfl ?_|apply qk);refine LoopEnd.of (i+1) ⟨by omega,hup h⟩ (by omega) ?_;refine Ent.of [] ?_ ?_ rfl rfl;(repeat' first|exact True.intro|refine⟨⟨AA _,rfl⟩,?_⟩|refine⟨⟨⟨_,rfl,BLe.cells (AB _)⟩,rfl⟩,?_⟩|fail)
    ·have hz:=rIsPower_ok x y z (hvf x (by simp)) (hvf y (by simp)) (hvf z (by simp)) false ⟨fun k=>(by cases k),fun k=>absurd (hho.2 k) h⟩;(repeat' first|refine qv ?_|apply qn|apply qs|apply qr|(refine AD rfl ?_ ?_<;>intro _<;>try(exfalso; omega))|apply qb|apply qk|refine qK ?_|fail);refine qc (hv) ?_;(repeat' first|refine qv ?_|apply qn|apply qs|apply qr|refine AF rfl ?_|(refine AD rfl ?_ ?_<;>intro _<;>try(exfalso; omega))|apply qb|apply qk|refine qK ?_|fail);refine qc (hz) ?_;(repeat' first|refine qv ?_|apply qn|refine Fl.nil (fun _=>by kernel_rfl) ?_|apply qs|apply qr|refine AJ rfl ?_|apply qt);exact RetOk.of rfl (AV.Le.tup (LeL.cons (AV.Le.bool (hall h)) (AB _)))
   ·rw[hk]at hvl
    have hvl:vs.length=2:=by have:(vs.length:Int)=2:=hvl; omega
    obtain⟨x,y,rfl⟩:∃x y,vs=[x,y]:=by
     match vs,hvl with
     | [a,b],_=>exact⟨a,b,rfl⟩
    have g0:[x,y][(0:Int).toNat]? = some x:=rfl;have g1:[x,y][(1:Int).toNat]? = some y:=rfl;rw[hk]at hho;have hho:HoL X l↔0≤x∧0≤y∧undI x y:=hho;by_cases h0:x<0
    ·(repeat' first|refine qv ?_|apply qn|apply qs|apply qr|(refine AD rfl ?_ ?_<;>intro _<;>try(exfalso; omega))|apply qb|apply qk|refine qK ?_|fail);refine qc (hv) ?_;(repeat' first|refine qv ?_|apply qn|refine Fl.nil (fun _=>by kernel_rfl) ?_|apply qs|apply qr|refine Fl.skip rfl rfl ?_|refine AJ rfl ?_|refine AF rfl ?_|(refine AD rfl ?_ ?_<;>intro _<;>try(exfalso; omega))|apply qb|apply qk|apply qt|refine qK ?_|(refine Ap rfl rfl ?_ ?_<;>intro _<;>try(exfalso; omega)));exact RetOk.of rfl (AV.Le.tup (LeL.cons (AV.Le.bool (hall fun k=>by have:=(hho.1 k).1; omega)) (AB _)))
    ·by_cases h1:y<0
     ·(repeat' first|refine qv ?_|apply qn|apply qs|apply qr|(refine AD rfl ?_ ?_<;>intro _<;>try(exfalso; omega))|apply qb|apply qk|refine qK ?_|fail);refine qc (hv) ?_;(repeat' first|refine qv ?_|apply qn|refine Fl.nil (fun _=>by kernel_rfl) ?_|apply qs|apply qr|refine Fl.skip rfl rfl ?_|refine AJ rfl ?_|refine AF rfl ?_|(refine AD rfl ?_ ?_<;>intro _<;>try(exfalso; omega))|apply qb|apply qk|apply qt|refine qK ?_|(refine Ap rfl rfl ?_ ?_<;>intro _<;>try(exfalso; omega)));exact RetOk.of rfl (AV.Le.tup (LeL.cons (AV.Le.bool (hall fun k=>by have:=(hho.1 k).2.1; omega)) (AB _)))
     ·have hz:=rUnder_ok x y (hvf x (by simp)) (hvf y (by simp)) (by omega) (by omega);by_cases h:undI x y
      ·rw[decide_eq_true h]at hz;(repeat' first|refine qv ?_|apply qn|apply qs|apply qr|(refine AD rfl ?_ ?_<;>intro _<;>try(exfalso; omega))|apply qb|apply qk|refine qK ?_|fail);refine qc (hv) ?_;(repeat' first|refine qv ?_|apply qn|apply qs|apply qr|refine AF rfl ?_|(refine AD rfl ?_ ?_<;>intro _<;>try(exfalso; omega))|apply qb|apply qk|refine qK ?_|(refine Ap rfl rfl ?_ ?_<;>intro _<;>try(exfalso; omega)));refine qc (hz) ?_;(repeat' first|refine qv ?_|apply qn|refine Fl.nil (fun _=>by kernel_rfl) ?_|apply qs|apply qr|refine qw ?_|refine AF rfl ?_|apply qk);refine LoopEnd.of (i+1) ⟨by omega,hup (hho.2 ⟨by omega,by omega,h⟩)⟩ (by omega) ?_;refine Ent.of [] ?_ ?_ rfl rfl;(repeat' first|exact True.intro|refine⟨⟨AA _,rfl⟩,?_⟩|refine⟨⟨⟨_,rfl,BLe.cells (AB _)⟩,rfl⟩,?_⟩|fail)
      ·rw[decide_eq_false h]at hz;(repeat' first|refine qv ?_|apply qn|apply qs|apply qr|(refine AD rfl ?_ ?_<;>intro _<;>try(exfalso; omega))|apply qb|apply qk|refine qK ?_|fail);refine qc (hv) ?_;(repeat' first|refine qv ?_|apply qn|apply qs|apply qr|refine AF rfl ?_|(refine AD rfl ?_ ?_<;>intro _<;>try(exfalso; omega))|apply qb|apply qk|refine qK ?_|(refine Ap rfl rfl ?_ ?_<;>intro _<;>try(exfalso; omega)));refine qc (hz) ?_;(repeat' first|refine qv ?_|apply qn|refine Fl.nil (fun _=>by kernel_rfl) ?_|apply qs|apply qr|refine AJ rfl ?_|apply qt);exact RetOk.of rfl (AV.Le.tup (LeL.cons (AV.Le.bool (hall fun k=>h (hho.1 k).2.2)) (AB _)))
  ·(repeat' first|refine qv ?_|apply qn|apply qs|apply qr|(refine AD rfl ?_ ?_<;>intro _<;>try(exfalso; omega))|apply qx|apply qt);rw[List.take_of_length_le (by omega)]at k1;exact RetOk.of rfl (AV.Le.tup (LeL.cons (AV.Le.bool (hb.2 k1).symm) (AB _)))
end Go.Proofs.YtmmfloplhopioaaGreat
namespace Go.AL
theorem as_of_load {X:List Int} {l:LZ} {vars:Int} {M:Nat} (hM:M≤4000) (hL:OkL vars l) (h:LoadL M X l):AsL X l:=fun p hp=>by
 have hP:=(hL.polys p hp).2;have h1:=(AS_len (X:=atOf X l.vars) (M:=M) hP.len (fun t ht=>Nat.le_trans (FB _ _ _) (h p hp t ht)) p.terms.length).1;rw[List.take_length]at h1;rw[Fit.iff];unfold lenI at h1;omega
end Go.AL
/- HistoryDecodes. -/
namespace Go.AL
theorem loadE_leB {M:Nat}:∀ {X E:List Int},(∀x∈X,lenI x≤M)→EOk E→CV X E≤M*(sumL E).toNat
 | [],E,_,_=>by simp[CV]
 | _::_,[],_,_=>by simp[CV]
 | x::X,e::E,hx,he=>by
  have ih:=loadE_leB (X:=X) (E:=E) (fun y hy=>hx y (by simp[hy])) fun y hy=>he y (by simp[hy]);have h0:=(he e (by simp)).1;have hs:=(Bq (l:=E) fun y hy=>he y (by simp[hy])).1;simp only[CV,sumL];rw[show(e+sumL E).toNat=e.toNat+(sumL E).toNat by omega,Nat.mul_add];have h1:e.toNat*lenI x≤e.toNat*M:=Nat.mul_le_mul_left _ (hx x (by simp));rw[Nat.mul_comm M e.toNat];omega
end Go.AL
namespace Go.Proofs.YtmmfloplhopioaaGreat
open Go.AL
theorem hs_load (m:MZ) (hm:OkMZ m) (x:List Int) (hx:OkIn m x) (X:List Int) (hX:∀y∈X,lenI y≤500):∀l∈(hsS m x).links,LoadL 2100 X l:=by
 intro l hl;obtain⟨k,hk,rfl⟩:=List.mem_map.1 hl;have hs:=(DC hm hx k hk).2.2;intro p hp t ht;obtain⟨q,hq,rfl⟩:=List.mem_map.1 hp;obtain⟨u,hu,rfl⟩:=List.mem_map.1 ht;have sz:=pick_sz hq (hs q hq);have e:=sz.ex u hu;have eo:=(ex_ok (d:=4) (by omega) e).2.2;have h1:=(szOkT sz (by omega) (by omega) u hu).2.2
 have h2:=loadE_leB (M:=500) (X:=atOf X ((occL m.V k.2).map fun(i:Nat)=>(i:Int))) (E:=u.2) (fun y hy=>by
  unfold atOf at hy;obtain⟨i,_,rfl⟩:=List.mem_map.1 hy;rw[List.getD_eq_getElem?_getD]
  cases h:X[i.toNat]? with
  | none=>simp only[Option.getD_none]; exact Nat.le_trans (FA (by decide)) (by decide)
  | some y=>exact hX y (List.mem_of_getElem? h)) eo
 have h3:=e.2.2;have h0:=(Bq (l:=u.2) fun y hy=>eo y hy).1;have h4:500*(sumL u.2).toNat≤500*4:=Nat.mul_le_mul_left _ (by omega);have e1:zval (tz u).c=u.1:=A4 u.1;have h5:CV (atOf X (BF m.V k.1 k.2).vars) u.2≤500*(sumL u.2).toNat:=h2;rw[e1];show lenI u.1+CV (atOf X (BF m.V k.1 k.2).vars) u.2≤2100;omega
theorem HistoryDecodesL_ok (m:MZ) (x:List Int) (zs:List Z) (c1:PureFn Tryz.prog 21 [aMz m,aI x] (aB false)) (hl:zs.length≤100) (hzl:∀z∈zs,z.w.length≤9223372036854775807) (h5:¬∀z∈zs,z.w.length≤500):PureFn Tryz.prog 7 [aMz m,aI x,.sl 2 eZ zs] (aB true):=by
 refine AC Tryz.func7 rfl Tryz.ntmps7 rfl rfl ?_;have ca:=FO;refine AE ?_;(repeat' first|refine qv ?_|apply qn|apply qr|refine qe ?_|fail);refine⟨AE ?_⟩;(repeat' first|refine qv ?_|apply qs|apply qr);refine qc (c1) ?_;(repeat' first|refine qv ?_|apply qn|(refine AD rfl ?_ ?_<;>intro _<;>try(exfalso; omega))|apply qk);refine⟨AE ?_⟩;(repeat' first|refine qv ?_|apply qn|apply qs|apply qr|apply qb);refine AWP.loop (G:=Nat) (fun i=>i≤zs.length∧∀z∈zs.take i,z.w.length≤500) (fun i=>AO [] [(2,.sl 2 eZ zs),(7,aN i)] []) (fun i=>zs.length-i) 0 ⟨by omega,fun z hz=>by simp at hz⟩ ?_ ?_
 ·refine Ent.of [] ?_ ?_ rfl rfl;(repeat' first|exact True.intro|refine⟨⟨AA _,rfl⟩,?_⟩|fail)
 ·intro i ⟨k0,k1⟩;refine AE ?_;(repeat' first|refine qv ?_|apply qn|apply qs|apply qr|(refine AD rfl ?_ ?_<;>intro _<;>try(exfalso; omega))|apply qk|apply qx)
  ·rename_i hi;obtain⟨z,hzi⟩:∃z,zs[i]? = some z:=⟨_,List.getElem?_eq_getElem (by omega)⟩
   have hzi':zs[Int.toNat (i:Int)]? = some z:=by rw[Int.toNat_natCast]; exact hzi
   have hzw:=hzl z (List.mem_of_getElem? hzi);refine⟨?_⟩;(repeat' first|refine qv ?_|apply qn|apply qs|apply qr|refine qw ?_|(refine AD rfl ?_ ?_<;>intro _<;>try(exfalso; omega))|apply qb|apply qk|refine qK ?_|fail)
   ·refine qc (ca) ?_;(repeat' first|refine qv ?_|apply qn|apply qt);exact RetOk.of rfl (AA _)
   ·rename_i hs;refine LoopEnd.of (i+1) ⟨by omega,fun y hy=>?_⟩ (by omega) ?_
    ·rw[Ab hzi,List.mem_append,List.mem_singleton]at hy;rcases hy with hy|rfl
     ·exact k1 y hy
     ·omega
    ·refine Ent.of [] ?_ ?_ rfl rfl;(repeat' first|exact True.intro|refine⟨⟨AA _,rfl⟩,?_⟩|fail)
  ·rename_i hi;rw[List.take_of_length_le (by omega)]at k1;exact absurd k1 h5
set_option maxHeartbeats 1000000 in
theorem BK (m:MZ) (x:List Int) (zs:List Z) (c1:PureFn Tryz.prog 21 [aMz m,aI x] (aB false)) (hl:zs.length≤100) (h5:∀z∈zs,z.w.length≤500) (w c0:Int) (a n:Bool) (hD:PureFn Tryz.prog 16 [aMz m,aI x,.sl 2 eZ zs] (.tup [nilV,aN w])) (c2:PureFn Tryz.prog 23 [aMz m,aI x] (aN c0)) (cA:PureFn Tryz.prog 33 [.sl 2 eZ zs] (aB a)) (hw:w≠0) (hc:(a=false∧w=1)∨(a=true∧c0=w)∨(a=true∧c0=0∧w=2∧(∃V:Int,PureFn Tryz.prog 34 [aMz m] (aN V)∧((zs.length:Int)≠V∨(zs.length:Int)=V∧n=false∧PureFn Tryz.prog 35 [.sl 2 eZ zs] (aB n))))):PureFn Tryz.prog 7 [aMz m,aI x,.sl 2 eZ zs] (aB true):=by
 refine AC Tryz.func7 rfl Tryz.ntmps7 rfl rfl ?_;have ca:=FO;refine AE ?_;(repeat' first|refine qv ?_|apply qn|apply qr|refine qe ?_|fail);refine⟨AE ?_⟩;(repeat' first|refine qv ?_|apply qs|apply qr);refine qc (c1) ?_;(repeat' first|refine qv ?_|apply qn|(refine AD rfl ?_ ?_<;>intro _<;>try(exfalso; omega))|apply qk);refine⟨AE ?_⟩;(repeat' first|refine qv ?_|apply qn|apply qs|apply qr|apply qb);refine AWP.loop (G:=Nat) (fun i=>i≤zs.length) (fun i=>AO [] [(1,aI x),(2,.sl 2 eZ zs),(3,.ptr 3 0),(7,aN i)] [(3,.cells (eMz m) 24)]) (fun i=>zs.length-i) 0 (by omega) ?_ ?_
 ·refine Ent.of [] ?_ ?_ rfl rfl;(repeat' first|exact True.intro|refine⟨⟨AA _,rfl⟩,?_⟩|refine⟨⟨⟨_,rfl,BLe.cells (AB _)⟩,rfl⟩,?_⟩|fail)
 ·intro i k0;refine AE ?_;(repeat' first|refine qv ?_|apply qn|apply qs|apply qr|(refine AD rfl ?_ ?_<;>intro _<;>try(exfalso; omega))|apply qk|apply qx)
  ·rename_i hi;obtain⟨z,hzi⟩:∃z,zs[i]? = some z:=⟨_,List.getElem?_eq_getElem (by omega)⟩
   have hzi':zs[Int.toNat (i:Int)]? = some z:=by rw[Int.toNat_natCast]; exact hzi
   have hzw:=h5 z (List.mem_of_getElem? hzi);refine⟨?_⟩;(repeat' first|refine qv ?_|apply qn|apply qs|apply qr|refine qw ?_|(refine AD rfl ?_ ?_<;>intro _<;>try(exfalso; omega))|apply qb|apply qk|refine qK ?_|fail);refine LoopEnd.of (i+1) (by omega) (by omega) ?_;refine Ent.of [] ?_ ?_ rfl rfl;(repeat' first|exact True.intro|refine⟨⟨AA _,rfl⟩,?_⟩|refine⟨⟨⟨_,rfl,BLe.cells (AB _)⟩,rfl⟩,?_⟩|fail)
  ·refine⟨AE ?_⟩;(repeat' first|refine qv ?_|apply qr);refine qc (hD) ?_;(repeat' first|refine qv ?_|apply qn);refine⟨AE ?_⟩;(repeat' first|refine qv ?_|apply qr);refine qc (c2) ?_;(repeat' first|refine qv ?_|apply qn);rcases hc with⟨rfl,rfl⟩|⟨rfl,rfl⟩|⟨rfl,rfl,rfl,V,cV,h⟩
   ·refine⟨?_⟩;(repeat' first|refine qv ?_|apply qs|apply qr);refine qc (cA) ?_;(repeat' first|refine qv ?_|apply qn|apply qs|apply qr|refine Fl.skip rfl rfl ?_|refine AJ rfl ?_|refine AF rfl ?_|apply qk|(refine AG rfl rfl ?_ ?_<;>intro _<;>try(exfalso; omega)));refine qc (ca) ?_;(repeat' first|refine qv ?_|apply qn|apply qt);exact RetOk.of rfl (AA _)
   ·refine⟨?_⟩;(repeat' first|refine qv ?_|apply qs|apply qr);refine qc (cA) ?_;(repeat' first|refine qv ?_|apply qn|apply qs|apply qr|refine Fl.skip rfl rfl ?_|refine AF rfl ?_|(refine AQ rfl ?_ ?_<;>intro _<;>try(exfalso; omega))|apply qk|(refine AG rfl rfl ?_ ?_<;>intro _<;>try(exfalso; omega)));refine qc (ca) ?_;(repeat' first|refine qv ?_|apply qn|apply qt);exact RetOk.of rfl (AA _)
   ·rcases h with h|⟨h,rfl,cN⟩
    ·refine⟨?_⟩;(repeat' first|refine qv ?_|apply qs|apply qr);refine qc (cA) ?_;(repeat' first|refine qv ?_|apply qn|apply qs|apply qr|refine AF rfl ?_|apply qk|(refine AG rfl rfl ?_ ?_<;>intro _<;>try(exfalso; omega)));refine qc (cV) ?_;(repeat' first|refine qv ?_|apply qn|apply qs|apply qr|refine Fl.skip rfl rfl ?_|refine AJ rfl ?_|(refine AG rfl rfl ?_ ?_<;>intro _<;>try(exfalso; omega))|(refine Ap rfl rfl ?_ ?_<;>intro _<;>try(exfalso; omega)));refine qc (ca) ?_;(repeat' first|refine qv ?_|apply qn|apply qt);exact RetOk.of rfl (AA _)
    ·refine⟨?_⟩;(repeat' first|refine qv ?_|apply qs|apply qr);refine qc (cA) ?_;(repeat' first|refine qv ?_|apply qn|apply qs|apply qr|refine AF rfl ?_|apply qk|(refine AG rfl rfl ?_ ?_<;>intro _<;>try(exfalso; omega)));refine qc (cV) ?_;(repeat' first|refine qv ?_|(refine Ap rfl rfl ?_ ?_<;>intro _<;>try(exfalso; omega)));refine qc (cN) ?_;(repeat' first|refine qv ?_|apply qn|apply qs|apply qr|refine AJ rfl ?_|(refine AG rfl rfl ?_ ?_<;>intro _<;>try(exfalso; omega)));refine qc (ca) ?_;(repeat' first|refine qv ?_|apply qn|apply qt);exact RetOk.of rfl (AA _)
end Go.Proofs.YtmmfloplhopioaaGreat
/- HistoryDecodes. -/
namespace Go.AL
theorem holdsR_none {f g:LZ→Bool}:∀ {ls:List LZ},(∀l∈ls,f l=true)→(¬∀l∈ls,g l=true)→D6 f g ls=(false,0)
 | [],_,h=>absurd (by simp) h
 | l::ls,hf,h=>by
  rw[D6,if_pos (hf l (by simp))];split
  ·rename_i hg;refine holdsR_none (fun x hx=>hf x (by simp[hx])) fun k=>h fun x hx=>?_;rcases List.mem_cons.1 hx with rfl|hx
   ·exact hg
   ·exact k x hx
  ·rfl
end Go.AL
namespace Go.Proofs.YtmmfloplhopioaaGreat
open Go.AL
theorem hs_both (m:MZ) (hm:OkMZ m) (x:List Int) (hx:OkIn m x) (X:List Int) (hX:∀y∈X,Fit y) (hlen:X.length=m.V) (h0:∀y∈X,0≤y) (h5:∀y∈X,lenI y≤500) (b:Bool) (hb:b=true↔∀l∈(hsS m x).links,HoL X l):PureFn Tryz.prog 30 [aS (hsS m x),.sl 2 eX X] (.tup [aB b,aN 0])∧PureFn Tryz.prog 36 [aS (hsS m x),.sl 2 eX X] (.tup [aB b,aN 0]):=by
 have hld:=hs_load m hm x hx X h5;have hok:=hs_ok hm hx;have has:∀l∈(hsS m x).links,AsL X l:=fun l hl=>as_of_load (M:=2100) (by omega) (hok.links l hl) (hld l hl)
 have hv:(X.length:Int)=(hsS m x).vars:=by show(X.length:Int)=(m.V:Int); omega
 refine⟨?_,rHolds_ok (hsS m x) X (hsS_w hm hx) hok hv 2100 (by omega) hld has b hb⟩;obtain⟨f,hf⟩:=boolOf (EvL X);obtain⟨g,hg⟩:=boolOf (HoL X);have h:=Holds_ok (hsS m x) X (hsS_w hm hx) hok hX hv h0 f g hf hg
 cases b with
 | true=>
  rw[holdsR_all fun l hl=>⟨(hf l).2 ((has l hl).ev),(hg l).2 (hb.1 rfl l hl)⟩]at h;exact h
 | false=>
  rw[holdsR_none (fun l hl=>(hf l).2 ((has l hl).ev)) fun k=>by
   have:=hb.2 fun l hl=>(hg l).1 (k l hl)
   cases this]at h
  exact h
set_option maxHeartbeats 2000000 in
theorem HistoryDecodesG_ok (m:MZ) (hm:OkMZ m) (x:List Int) (hx:OkIn m x) (X:List Int) (hX:∀y∈X,Fit y) (hlen:X.length=m.V) (h0:∀y∈X,0≤y) (h5:∀y∈X,(toW y.natAbs).length≤500) (c1:PureFn Tryz.prog 21 [aMz m,aI x] (aB false)) (c2:PureFn Tryz.prog 23 [aMz m,aI x] (aN 0)):PureFn Tryz.prog 7 [aMz m,aI x,.sl 2 eX X] (aB true):=by
 refine AC Tryz.func7 rfl Tryz.ntmps7 rfl rfl ?_;have ca:=FO;have hV:=hm.V32;have hV6:=hm.V6;have hr1:=hm.r1;have hr4:=hm.r4;have h15:m.code.length≤15:=hm.l15;obtain⟨b,hb⟩:=boolOf (fun _:Unit=>∀l∈(hsS m x).links,HoL X l);obtain⟨hp,hr⟩:=hs_both m hm x hx X hX hlen h0 h5 (b ()) (hb ());have hb:=hb ()
 generalize b ()=b at *
 have cS:=r14System_ok m x hm hx;have cV:=E2 m (by omega) (by omega) (by omega)
 have cA:PureFn Tryz.prog 33 [.sl 2 eX X] (aB true):=by
  refine(rAll_ok (X.map zOf) (fun z hz=>?_) (fun z hz=>?_) (by rw[List.length_map]; omega)).le (LeL.cons (DK (enc:=eZ) (f:=zOf)) LeL.nil) (AV.Le.bool (decide_eq_true fun z hz=>?_))
  ·obtain⟨y,hy,rfl⟩:=List.mem_map.1 hz; exact Ag _
  ·obtain⟨y,hy,rfl⟩:=List.mem_map.1 hz;have:=h5 y hy;show(toW y.natAbs).length≤_;omega
  ·obtain⟨y,hy,rfl⟩:=List.mem_map.1 hz; exact Di (hX y hy)
 have cN:=rNaturals_ok X (by omega);rw[decide_eq_true h0]at cN
 have hD:∃(v:List (Int×List Int)) (e:Int),PureFn Tryz.prog 16 [aMz m,aI x,.sl 2 eX X] (.tup [.sl 2 eSt v,aN e])∧((b=false∧e=6∧v.length=0)∨(b=true∧e=0∧∃s,Sol m x X s∧v=stL m x (s+1))):=by
  cases b with
  | false=>exact⟨[],6,(hDecode_none m hm x hx X hX hlen h0 false 0 hp (by simp)).le (AB _) (AV.Le.tup (LeL.cons (AV.Le.nil 2 eSt) (LeL.cons (AA _) LeL.nil))),.inl ⟨rfl,rfl,rfl⟩⟩
  | true=>
   obtain⟨s,hs⟩:=sol_of hm hx hlen hX h0 (hb.1 rfl);have hb2:=hs.b2;refine⟨_,0,hDecode_ok m hm x hx X hX hlen h0 hp s (by omega) (by rw[hs.eq]; exact hL0 m x s hV6) hs.run.go,.inr ⟨rfl,rfl,s,hs,rfl⟩⟩
 obtain⟨v,e,cD,hcase⟩:=hD;clear hb
 generalize hsS m x=S at *
 refine AE ?_;(repeat' first|refine qv ?_|apply qn|apply qr|refine qe ?_|fail);refine⟨AE ?_⟩;(repeat' first|refine qv ?_|apply qs|apply qr);refine qc (c1) ?_;(repeat' first|refine qv ?_|apply qn|(refine AD rfl ?_ ?_<;>intro _<;>try(exfalso; omega))|apply qk);refine⟨AE ?_⟩;(repeat' first|refine qv ?_|apply qn|apply qs|apply qr|apply qb);refine AWP.loop (G:=Nat) (fun i=>i≤X.length) (fun i=>AO [] [(1,aI x),(2,.sl 2 eX X),(3,.ptr 3 0),(7,aN i)] [(3,.cells (eMz m) 24)]) (fun i=>X.length-i) 0 (by omega) ?_ ?_
 ·refine Ent.of [] ?_ ?_ rfl rfl;(repeat' first|exact True.intro|refine⟨⟨AA _,rfl⟩,?_⟩|refine⟨⟨⟨_,rfl,BLe.cells (AB _)⟩,rfl⟩,?_⟩|fail)
 ·intro i k0;refine AE ?_;(repeat' first|refine qv ?_|apply qn|apply qs|apply qr|(refine AD rfl ?_ ?_<;>intro _<;>try(exfalso; omega))|apply qk|apply qx)
  ·rename_i hi;obtain⟨z,hzi⟩:∃z,X[i]? = some z:=⟨_,List.getElem?_eq_getElem (by omega)⟩
   have hzi':X[Int.toNat (i:Int)]? = some z:=by rw[Int.toNat_natCast]; exact hzi
   have hzw:=h5 z (List.mem_of_getElem? hzi);refine⟨?_⟩;(repeat' first|refine qv ?_|apply qn|apply qs|apply qr|refine qw ?_|(refine AD rfl ?_ ?_<;>intro _<;>try(exfalso; omega))|apply qb|apply qk|refine qK ?_|fail);refine LoopEnd.of (i+1) (by omega) (by omega) ?_;refine Ent.of [] ?_ ?_ rfl rfl;(repeat' first|exact True.intro|refine⟨⟨AA _,rfl⟩,?_⟩|refine⟨⟨⟨_,rfl,BLe.cells (AB _)⟩,rfl⟩,?_⟩|fail)
  ·refine⟨AE ?_⟩;(repeat' first|refine qv ?_|apply qr);refine qc (cD) ?_;(repeat' first|refine qv ?_|apply qn);refine⟨AE ?_⟩;(repeat' first|refine qv ?_|apply qr);refine qc (c2) ?_;(repeat' first|refine qv ?_|apply qn);refine⟨AE ?_⟩;(repeat' first|refine qv ?_|apply qs|apply qr);refine qc (cA) ?_;(repeat' first|refine qv ?_|apply qn|refine AF rfl ?_|apply qk);refine⟨AE ?_⟩;(repeat' first|refine qv ?_|apply qs|apply qr|(refine AG rfl rfl ?_ ?_<;>intro _<;>try(exfalso; omega)));refine qc (cV) ?_;(repeat' first|refine qv ?_|(refine Ap rfl rfl ?_ ?_<;>intro _<;>try(exfalso; omega)));refine qc (cN) ?_;(repeat' first|refine qv ?_|apply qn|refine AF rfl ?_|apply qk);refine⟨AE ?_⟩;(repeat' first|refine qv ?_|apply qn|apply qs|apply qr|refine AF rfl ?_|apply qk);refine⟨AE ?_⟩;(repeat' first|refine qv ?_|apply qr);refine qc (cS) ?_;(repeat' first|refine qv ?_|fail);refine qc (hr) ?_;(repeat' first|refine qv ?_|apply qn);rcases hcase with⟨rfl,rfl,hv0⟩|⟨rfl,rfl,s,hs,rfl⟩
   ·refine⟨?_⟩;(repeat' first|refine qv ?_|apply qn|apply qs|apply qr|refine Fl.skip rfl rfl ?_|refine AJ rfl ?_|(refine AG rfl rfl ?_ ?_<;>intro _<;>try(exfalso; omega)));refine qc (ca) ?_;(repeat' first|refine qv ?_|apply qn|apply qt);exact RetOk.of rfl (AA _)
   ·have hsl:=stL_len m x (s+1);have hb2:=hs.b2;have cL:=rSmallN_ok (s:Int) (by omega) (by omega)
    have g0:X[Int.toNat 0]? = some (s:Int):=by rw[hs.eq]; exact hL0 m x s hV6
    have cSt:=r14States_ok m hm x hx s s (by omega) hs.run true ⟨fun _=>hs.halt,fun _=>rfl⟩
    have hgs:∀t,t≤s→(stL m x (s+1))[Int.toNat (t:Int)]? = some (stF m x t):=fun t ht=>by rw[Int.toNat_natCast]; exact stL_get (by omega)
    refine⟨AE ?_⟩;(repeat' first|refine qv ?_|apply qn|apply qs|apply qr|refine AF rfl ?_|apply qk);refine⟨AE ?_⟩;(repeat' first|refine qv ?_|apply qr|refine qK ?_|fail);refine qc (cL) ?_;(repeat' first|refine qv ?_|apply qn);refine⟨AE ?_⟩;(repeat' first|refine qv ?_|apply qn|apply qs|apply qr|refine qw ?_|(refine AQ rfl ?_ ?_<;>intro _<;>try(exfalso; omega))|apply qk);refine⟨AE ?_⟩;(repeat' first|refine qv ?_|apply qr);refine qc (cSt) ?_;(repeat' first|refine qv ?_|apply qn);refine⟨AE ?_⟩;(repeat' first|refine qv ?_|apply qn|apply qs|apply qr|refine qw ?_|(refine AQ rfl ?_ ?_<;>intro _<;>try(exfalso; omega))|apply qk);refine⟨AE ?_⟩;(repeat' first|refine qv ?_|apply qn|apply qs|apply qr|apply qb);refine AWP.loop (G:=Nat) (fun i=>i≤s+1) (fun i=>AO [] [(8,.sl 2 eSt (stL m x (s+1))),(15,.sl 2 eSt (stL m x (s+1))),(17,aN i)] []) (fun i=>s+1-i) 0 (by omega) ?_ ?_
    ·refine Ent.of [] ?_ ?_ rfl rfl;(repeat' first|exact True.intro|refine⟨⟨AA _,rfl⟩,?_⟩|fail)
    ·intro j j0;refine AE ?_;(repeat' first|refine qv ?_|apply qn|apply qs|apply qr|(refine AD rfl ?_ ?_<;>intro _<;>try(exfalso; omega))|apply qk|apply qx)
     ·rename_i hj;have hgj:=hgs j (by omega);have cs:=r13SameState_ok (stF m x j).1 (stF m x j).1 (stF m x j).2 (stF m x j).2 (by show(rgL _ _).length≤_; rw[Bm]; have:=Cm hm; omega);rw[decide_eq_true rfl,decide_eq_true rfl]at cs;refine⟨?_⟩;(repeat' first|refine qv ?_|apply qs|apply qr|apply qb|refine qK ?_|fail);refine qc (cs) ?_;(repeat' first|refine qv ?_|apply qn|refine Fl.nil (fun _=>by kernel_rfl) ?_|apply qr|refine qw ?_|refine AF rfl ?_|apply qk);refine LoopEnd.of (j+1) (by omega) (by omega) ?_;refine Ent.of [] ?_ ?_ rfl rfl;(repeat' first|exact True.intro|refine⟨⟨AA _,rfl⟩,?_⟩|fail)
     ·refine⟨?_⟩;(repeat' first|apply qs|apply qr);refine qc (ca) ?_;(repeat' first|refine qv ?_|apply qn|apply qt);exact RetOk.of rfl (AA _)
theorem HistoryDecodes_ok (m:MZ) (x:List Int) (zs:List Z) (hml:m.code.length≤9223372036854775807) (hxl:x.length≤9223372036854775807) (hzb:∀z∈zs,ZB z) (hzl:zs.length≤9223372036854775807):PureFn Tryz.prog 7 [aMz m,aI x,.sl 2 eZ zs] (aB true):=by
 have ca:=FO;have hz:∀z∈zs,WOk z.w:=fun z h=>(hzb z h).1
 have hzw:∀z∈zs,z.w.length≤9223372036854775807:=fun z h=>by have:=(hzb z h).2; simp only[maxLen]at this; omega
 have wide:PureFn Tryz.prog 21 [aMz m,aI x] (aB true)→PureFn Tryz.prog 7 [aMz m,aI x,.sl 2 eZ zs] (aB true):=fun c1=>by
  refine AC Tryz.func7 rfl Tryz.ntmps7 rfl rfl ?_;(repeat' first|refine qv ?_|apply qn|apply qs|apply qr|refine qe ?_|fail);refine qc (c1) ?_;(repeat' first|refine qv ?_|apply qn|apply qs|apply qr|refine Fl.skip rfl rfl ?_|refine AJ rfl ?_);refine qc (ca) ?_;(repeat' first|refine qv ?_|apply qn|apply qt);exact RetOk.of rfl (AA _)
 have many:PureFn Tryz.prog 21 [aMz m,aI x] (aB false)→100<zs.length→PureFn Tryz.prog 7 [aMz m,aI x,.sl 2 eZ zs] (aB true):=fun c1 h=>by
  refine AC Tryz.func7 rfl Tryz.ntmps7 rfl rfl ?_;(repeat' first|refine qv ?_|apply qn|apply qs|apply qr|refine qe ?_|fail);refine qc (c1) ?_;(repeat' first|refine qv ?_|apply qn|apply qs|apply qr|(refine AD rfl ?_ ?_<;>intro _<;>try(exfalso; omega)));refine qc (ca) ?_;(repeat' first|refine qv ?_|apply qn|apply qt);exact RetOk.of rfl (AA _)
 have up:∀X:List Int,zs=X.map zOf→∀ {f:FuncId} {p:List AV} {r:AV},PureFn Tryz.prog f (p++[.sl 2 eX X]) r→PureFn Tryz.prog f (p++[.sl 2 eZ zs]) r:=fun X hX f p r h=>by
  rw[hX];refine h.le ?_ (AA _);clear h
  induction p with
  | nil=>exact LeL.cons AV.Le.slMap LeL.nil
  | cons a p ih=>exact LeL.cons (AA _) ih
 have toX:(∀z∈zs,OkZ z)→∃X:List Int,zs=X.map zOf∧∀y∈X,Fit y:=fun ho=>by
  refine⟨zs.map zval,?_,fun y hy=>?_⟩
  ·rw[List.map_map]
   conv=>lhs; rw[←List.map_id zs]
   exact List.map_congr_left fun z hzz=>(D3 (hz z hzz) (ho z hzz)).1
  ·obtain⟨z,hzz,rfl⟩:=List.mem_map.1 hy;exact(D3 (hz z hzz) (ho z hzz)).2
 have bad:∀c1:PureFn Tryz.prog 21 [aMz m,aI x] (aB false),(100<zs.length∨¬∀z∈zs,z.w.length≤500)→PureFn Tryz.prog 7 [aMz m,aI x,.sl 2 eZ zs] (aB true):=fun c1 h=>by
  by_cases hl:zs.length≤100
  ·exact HistoryDecodesL_ok m x zs c1 hl hzw (h.resolve_left (by omega))
  ·exact many c1 (by omega)
 rcases law14_cases m x hml hxl with c1|⟨c1,e,he,c2,c3,h4,h5,hl1,hl2⟩|⟨c1,c2,hm,hx⟩
 ·exact wide c1
 ·by_cases hs:100<zs.length∨¬∀z∈zs,z.w.length≤500
  ·exact bad c1 hs
  ·have hl:zs.length≤100:=by omega
   have hw5:∀z∈zs,z.w.length≤500:=Classical.not_not.1 fun k=>hs (.inr k);have cA:=rAll_ok zs hz hzw (by omega);by_cases hm:OkMZ m
   ·obtain⟨rfl,hx⟩:=h5 hm;by_cases ho:∀z∈zs,OkZ z
    ·obtain⟨X,hX,hf⟩:=toX ho;have cD:=up X hX (p:=[aMz m,aI x]) (hDecode_arg m hm x (by omega) X hf (by have:=congrArg List.length hX; rw[List.length_map]at this; omega) (fun k=>hx k.1));rw[decide_eq_true ho]at cA;exact BK m x zs c1 hl hw5 2 2 true true cD c2 cA (by decide) (.inr (.inl ⟨rfl,rfl⟩))
    ·rw[decide_eq_false ho]at cA;exact BK m x zs c1 hl hw5 1 2 false true (hDecode_z m hm x (by omega) zs hz (by omega) ho) c2 cA (by decide) (.inl ⟨rfl,rfl⟩)
   ·have h1:=h4 hm;subst h1;have cD:=hDecode_m m x zs (by omega) hm;by_cases ho:∀z∈zs,OkZ z
    ·rw[decide_eq_true ho]at cA;exact BK m x zs c1 hl hw5 1 1 true true cD c2 cA (by decide) (.inr (.inl ⟨rfl,rfl⟩))
    ·rw[decide_eq_false ho]at cA;exact BK m x zs c1 hl hw5 1 1 false true cD c2 cA (by decide) (.inl ⟨rfl,rfl⟩)
 ·by_cases hs:100<zs.length∨¬∀z∈zs,z.w.length≤500
  ·exact bad c1 hs
  ·have hl:zs.length≤100:=by omega
   have hw5:∀z∈zs,z.w.length≤500:=Classical.not_not.1 fun k=>hs (.inr k);have cA:=rAll_ok zs hz hzw (by omega);have h15:m.code.length≤15:=hm.l15;have hr1:=hm.r1;have hr4:=hm.r4;have hxe:=hx.1;have hR:=Cm hm;by_cases ho:∀z∈zs,OkZ z
   ·obtain⟨X,hX,hf⟩:=toX ho
    have hXl:zs.length=X.length:=by rw[hX,List.length_map]
    have h5:∀y∈X,(toW y.natAbs).length≤500:=fun y hy=>hw5 (zOf y) (by rw[hX]; exact List.mem_map.2 ⟨y,hy,rfl⟩);rw[decide_eq_true ho]at cA;by_cases hg:X.length=m.V∧∀y∈X,0≤y
    ·exact up X hX (p:=[aMz m,aI x]) (HistoryDecodesG_ok m hm x hx X hf hg.1 hg.2 h5 c1 c2)
    ·have cD:=up X hX (p:=[aMz m,aI x]) (hDecode_arg m hm x (by omega) X hf (by omega) (fun k=>hg k.2));refine BK m x zs c1 hl hw5 2 0 true false cD c2 cA (by decide) (.inr (.inr ⟨rfl,rfl,rfl,m.V,E2 m (by omega) (by omega) (by omega),?_⟩));by_cases hV:X.length=m.V
     ·have hn:¬∀y∈X,0≤y:=fun k=>hg ⟨hV,k⟩;have cN:=rNaturals_ok X (by omega);rw[decide_eq_false hn]at cN;exact .inr ⟨by omega,rfl,up X hX (p:=[]) cN⟩
     ·exact .inl (by omega)
   ·rw[decide_eq_false ho]at cA;exact BK m x zs c1 hl hw5 1 0 false true (hDecode_z m hm x (by omega) zs hz (by omega) ho) c2 cA (by decide) (.inl ⟨rfl,rfl⟩)
end Go.Proofs.YtmmfloplhopioaaGreat
/- Arguments that are lists of numbers. -/
namespace Go.Proofs.YtmmfloplhopioaaGreat
open Go.AL Go.ChangeShapes Go.WideShapes Go.ChangeAt Go.RowKit
section
variable {H:Type} {enc:TypeId×Value→H} {w:World} {base:Nat} {spare:Nat→Bool} {held:Bool}
theorem trodXs1 {fuel:Nat} {cs:List Value} {x:DataW H×List MemPlace} (h:DataW.trod enc Tryz.prog w base spare held fuel 33 cs=some x):∃(xs:List Z) (u:Value),cs=[u]∧Rep (hpOf w) noB (.sl 2 eZ xs) u∧(∀z∈xs,ZB z)∧xs.length≤maxLen:=
 trodSlice 2 eZ ZB Tryz.underlying33 (by kernel_rfl) (fun fuel us y _ hy=>trodZ hy) h
end
end Go.Proofs.YtmmfloplhopioaaGreat
/- Arguments that are machines and lists of ints. -/
namespace Go.AL
theorem list4 {α:Type} {l:List α} (h:l.length=4):∃a b c d,l=[a,b,c,d]:=by
 match l,h with
 | [a,b,c,d],_=>exact⟨a,b,c,d,rfl⟩
end Go.AL
namespace Go.Proofs.YtmmfloplhopioaaGreat
open Go.AL Go.ChangeShapes Go.WideShapes Go.ChangeAt Go.RowKit
section
variable {H:Type} {enc:TypeId×Value→H} {w:World} {base:Nat} {spare:Nat→Bool} {held:Bool}
theorem trodIsM {fuel:Nat} {cs:List Value} {x:DataW H×List MemPlace} (h:DataW.trod enc Tryz.prog w base spare held fuel 25 cs=some x):∃(xs:List Int) (u:Value),cs=[u]∧Rep (hpOf w) noB (aI xs) u∧xs.length≤maxLen:=by
 obtain⟨xs,u,h1,h2,_,h3⟩:=trodSlice 1 eI (fun n=>True) Tryz.underlying25 (by kernel_rfl) (fun fuel us y _ hy=>by
  obtain⟨n,rfl,hn⟩:=Eu Tryz.underlying3 hy
  exact⟨n,⟨_,_,rfl,by simp only[Rep],rfl⟩,trivial⟩) h
 exact⟨xs,u,h1,h2,h3⟩
theorem trodIn {fuel:Nat} {cs:List Value} {x:DataW H×List MemPlace} (h:DataW.trod enc Tryz.prog w base spare held fuel 77 cs=some x):∃z:IZ,RepL (hpOf w) noB (eIz z) cs∧True:=by
 obtain⟨y0,y1,y2,y3,n,_,hl,h0,h1,h2,h3⟩:=Go.Joins.trod_struct4 Tryz.underlying77 h
 have hc:Tryz.prog.cellsOf 77=4:=by kernel_rfl
 have hb:Tryz.prog.cellsOf 3=1:=by kernel_rfl
 rw[hc]at hl;obtain⟨c0,c1,c2,c3,rfl⟩:=list4 hl;simp only[hb,List.drop_zero,List.take_succ_cons,List.take_zero,List.drop_succ_cons]at h0 h1 h2 h3;obtain⟨a,e0,_⟩:=Eu Tryz.underlying3 h0;obtain⟨b,e1,_⟩:=Eu Tryz.underlying3 h1;obtain⟨c,e2,_⟩:=Eu Tryz.underlying3 h2;obtain⟨d,e3,_⟩:=Eu Tryz.underlying3 h3;injection e0 with e0; injection e1 with e1; injection e2 with e2; injection e3 with e3;subst e0 e1 e2 e3;exact⟨⟨a,b,c,d⟩,⟨_,_,rfl,by simp only[Rep],⟨_,_,rfl,by simp only[Rep],⟨_,_,rfl,by simp only[Rep],⟨_,_,rfl,by simp only[Rep],rfl⟩⟩⟩⟩,trivial⟩
theorem trodMz {fuel:Nat} {cs:List Value} {x:DataW H×List MemPlace} (h:DataW.trod enc Tryz.prog w base spare held fuel 24 cs=some x):∃m:MZ,RepL (hpOf w) noB (eMz m) cs∧m.code.length≤maxLen:=by
 obtain⟨y0,y1,n,_,hl,h0,h1⟩:=trod_struct2 Tryz.underlying24 h
 have hc:Tryz.prog.cellsOf 24=2:=by kernel_rfl
 have hb:Tryz.prog.cellsOf 3=1:=by kernel_rfl
 have hs:Tryz.prog.cellsOf 22=1:=by kernel_rfl
 rw[hc]at hl;obtain⟨c0,c1,rfl⟩:=list2 hl;simp only[hb,hs,List.drop_zero,List.take_succ_cons,List.take_zero,List.drop_succ_cons]at h0 h1;obtain⟨a,e0,_⟩:=Eu Tryz.underlying3 h0;obtain⟨xs,u,e1,hr,_,hm⟩:=trodSlice 4 eIz (fun _=>True) Tryz.underlying22 (by kernel_rfl) (fun fuel us y _ hy=>trodIn hy) h1;injection e0 with e0; injection e1 with e1; subst e0 e1;exact⟨⟨a,xs⟩,⟨_,_,rfl,by simp only[Rep],⟨_,_,rfl,hr,rfl⟩⟩,hm⟩
end
end Go.Proofs.YtmmfloplhopioaaGreat

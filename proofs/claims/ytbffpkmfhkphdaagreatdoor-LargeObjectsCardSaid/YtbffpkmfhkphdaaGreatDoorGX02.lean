/- Plain arithmetic of one step of a long division, on words. Plain arithmetic: how many bits a number has. Plain arithmetic of a long division, on words. The walks of big.norm and big.digit. The walk of big.sum: the sum of two numbers. Plain arithmetic of bytes and words. The kernel's calls over a plain heap. Bytes in words, plain. -/
import Derived.Test.YtbffpkmfhkphdaaGreatDoorGX01
import Derived.Lib.BitFns
import Derived.Test.YtbffpkmfhkphdaaGreatDoorChecked
set_option linter.unusedVariables false
set_option linter.unusedSimpArgs false
set_option maxRecDepth 1000000
set_option maxHeartbeats 6400000
namespace Go.Proofs.YtbffpkmfhkphdaaGreatDoor.Limb
def seg(us:List Nat)(o k:Nat):Nat:=val ((us.drop o).take k)
theorem seg_zero(us:List Nat)(o:Nat):seg us o 0=0:=by simp[seg,val]
theorem seg_succ(us:List Nat)(o k:Nat):seg us o (k+1)=seg us o k+W k*wd us (o+k):=by
 unfold seg;rw[val_take_succ,wd_drop]
theorem seg_lt{us:List Nat}(h:Lim us)(o k:Nat):seg us o k<W k:=by
 unfold seg;refine Nat.lt_of_lt_of_le (val_lt ((h.drop o).take k)) (W_mono ?_);rw[List.length_take];omega
theorem drop_set_add(us:List Nat)(o k x:Nat):(us.set (o+k) x).drop o=(us.drop o).set k x:=by
 rw[List.drop_set,if_neg (by omega),Nat.add_sub_cancel_left]
theorem seg_set_ge(us:List Nat)(o:Nat){j k:Nat}(x:Nat)(h:j≤k):seg (us.set (o+k) x) o j=seg us o j:=by
 unfold seg;rw[drop_set_add,take_set_gt _ _ h]
theorem seg_set(us:List Nat)(o k x:Nat)(h:o+k<us.length):seg (us.set (o+k) x) o (k+1)=seg us o k+W k*x:=by
 rw[seg_succ,seg_set_ge _ _ _ (Nat.le_refl k),wd_set h,if_pos rfl]
theorem seg_top(us:List Nat)(o k:Nat):seg us o (k+1+1)=(wd us (o+(k+1))*4294967296+wd us (o+k))*W k+seg us o k:=by
 rw[seg_succ,seg_succ,W_succ,Nat.add_mul,Nat.mul_comm (W k),Nat.mul_comm (wd us (o+(k+1))) 4294967296,Nat.mul_right_comm,Nat.mul_comm _ (wd us (o+(k+1)))];omega
structure Guess (U V T v1 v2 u2 R:Nat):Prop where
 hR:0<R
 hU1:(T*4294967296+u2)*R≤U
 hU2:U<(T*4294967296+u2+1)*R
 hV1:(v1*4294967296+v2)*R≤V
 hV2:V<(v1*4294967296+v2+1)*R
 hv:2147483648≤v1
 hv1:v1<4294967296
 hv2:v2<4294967296
 hu2:u2<4294967296
 hlt:U<V*4294967296
theorem Guess.make{us vs:List Nat}{o k:Nat}(hu:Lim us)(hv:Lim vs)(hl:vs.length=k+1+1)(ht:2147483648≤wd vs (k+1))(hlt:seg us o (k+1+1+1)<val vs*4294967296):Guess (seg us o (k+1+1+1)) (val vs) (wd us (o+(k+1+1))*4294967296+wd us (o+(k+1))) (wd vs (k+1)) (wd vs k) (wd us (o+k)) (W k):=by
 have eu:seg us o (k+1+1+1)=((wd us (o+(k+1+1))*4294967296+wd us (o+(k+1)))*4294967296+wd us (o+k))*W k+seg us o k:=by
  rw[seg_top us o (k+1),seg_succ,W_succ,Nat.add_mul _ _ (W k),Nat.mul_assoc,Nat.mul_comm (W k)];omega
 have ev:val vs=(wd vs (k+1)*4294967296+wd vs k)*W k+val (vs.take k):=by
  have h:=seg_top vs 0 k;unfold seg at h;rw[List.drop_zero,List.take_of_length_le (by omega),Nat.zero_add,Nat.zero_add]at h;exact h
 have h1:=seg_lt hu o k;have h2:=val_lt (hv.take k);rw[List.length_take,Nat.min_eq_left (by omega)]at h2;refine⟨W_pos k,by omega,?_,by omega,?_,ht,hv.wd _,hv.wd _,hu.wd _,hlt⟩
 ·rw[Nat.add_mul _ 1 (W k),Nat.one_mul];omega
 ·rw[Nat.add_mul _ 1 (W k),Nat.one_mul];omega
section
variable {U V T v1 v2 u2 R g r:Nat} (G:Guess U V T v1 v2 u2 R)
include G
theorem Guess.vpos:0<V:=Nat.lt_of_lt_of_le (Nat.mul_pos (by have:=G.hv;omega) G.hR) G.hV1
theorem Guess.qlt:U/V<4294967296:=by
 rw[Nat.div_lt_iff_lt_mul G.vpos,Nat.mul_comm];exact G.hlt
theorem Guess.first:U/V≤T/v1:=by
 refine guess_ge (R:=4294967296*R) (Nat.mul_pos (by decide) G.hR) ?_ ?_ (by have:=G.hv;omega)
 ·refine Nat.lt_of_lt_of_le G.hU2 ?_;rw[←Nat.mul_assoc];exact Nat.mul_le_mul_right R (by have:=G.hu2;omega)
 ·refine Nat.le_trans ?_ G.hV1;rw[←Nat.mul_assoc];exact Nat.mul_le_mul_right R (by omega)
theorem Guess.high(hT:g*v1+r=T)(ht:r*4294967296+u2<g*v2):U/V≤g-1:=by
 have:=guess_high G.hU2 G.hV1 hT ht rfl;omega
theorem Guess.big(hg:4294967296≤g):U/V≤g-1:=by have:=G.qlt;omega
theorem Guess.near(hT:g*v1+r=T)(hg:g<4294967296)(ht:g*v2≤r*4294967296+u2):g≤U/V+1:=
 guess_near G.hU1 G.hV1 G.hV2 hT ht hg G.hv G.hR
theorem Guess.small{u0 u1:Nat}(hT:g*v1+r=T)(hTd:T=u0*4294967296+u1)(hu1:u1<4294967296)(hr:4294967296≤r):g<4294967296:=by
 refine guess_small hT hTd ?_ hu1 hr;have h1:U<V*4294967296:=G.hlt
 have h2:V*4294967296≤(v1+1)*4294967296*R*4294967296:=by
  refine Nat.mul_le_mul_right _ (Nat.le_trans (Nat.le_of_lt G.hV2) (Nat.mul_le_mul_right R ?_));have:=G.hv2;omega
 have h3:u0*4294967296*4294967296*R≤U:=by
  refine Nat.le_trans (Nat.mul_le_mul_right R ?_) G.hU1;rw[hTd,Nat.add_mul,Nat.add_assoc];exact Nat.le_add_right _ _
 have h4:u0*4294967296*4294967296*R<(v1+1)*4294967296*4294967296*R:=by
  have e:(v1+1)*4294967296*R*4294967296=(v1+1)*4294967296*4294967296*R:=(by rw[Nat.mul_right_comm]);omega
 have:=Nat.lt_of_mul_lt_mul_right h4;omega
theorem Guess.broke(hT:g*v1+r=T)(hg:g<4294967296)(hr:4294967296≤r):g≤U/V+1:=by
 refine G.near hT hg ?_;have:=Nat.mul_le_mul (show g≤4294967295 by omega) (show v2≤4294967295 by have:=G.hv2;omega);omega
end
theorem mul_step{us us0 vs:List Nat}{o i g c b:Nat}(hz:o+i<us.length)(hw:wd us (o+i)=wd us0 (o+i))(hb:b≤1)(hu:wd us (o+i)<4294967296)(h:seg us o i+g*val (vs.take i)=seg us0 o i+(c+b)*W i):seg (us.set (o+i) ((wd us (o+i)+4294967296-(c+g*wd vs i)%4294967296-b)%4294967296)) o (i+1)+g*val (vs.take (i+1))=seg us0 o (i+1)+((c+g*wd vs i)/4294967296+(if wd us (o+i)<(c+g*wd vs i)%4294967296+b then 1 else 0))*W (i+1):=by
 rw[seg_set _ _ _ _ hz,seg_succ us0,val_take_succ,W_succ,←hw];have hd:=Nat.div_add_mod (c+g*wd vs i) 4294967296;have hm:(c+g*wd vs i)%4294967296<4294967296:=Nat.mod_lt _ (by decide);generalize(c+g*wd vs i)/4294967296=q at*
 generalize(c+g*wd vs i)%4294967296=lo at*
 generalize wd us (o+i)=u at*
 have key:(u+4294967296-lo-b)%4294967296+lo+b=u+(if u<lo+b then 1 else 0)*4294967296:=by split<;>omega
 generalize(if u<lo+b then 1 else 0)=b' at*
 generalize(u+4294967296-lo-b)%4294967296=nw at*
 have k1:=congrArg (fun t=>W i*t) key;have k2:=congrArg (fun t=>W i*t) hd;simp only[Nat.mul_add]at k1 k2;have e1:W i*(b'*4294967296)=b'*(4294967296*W i):=by rw[Nat.mul_comm,Nat.mul_assoc]
 have e2:W i*(4294967296*q)=q*(4294967296*W i):=by rw[Nat.mul_comm,Nat.mul_right_comm,Nat.mul_comm (4294967296*_)]
 have e3:W i*(g*wd vs i)=g*(W i*wd vs i):=Nat.mul_left_comm _ _ _;have e4:W i*c=c*W i:=Nat.mul_comm _ _;have e5:W i*b=b*W i:=Nat.mul_comm _ _;rw[Nat.add_mul]at h;rw[Nat.mul_add,Nat.add_mul];omega
theorem mul_end_ok{us us0 vs:List Nat}{o n g c b:Nat}(hV:vs.length=n)(hz:o+n<us.length)(hw:wd us (o+n)=wd us0 (o+n))(hd:c+b≤wd us (o+n))(h:seg us o n+g*val (vs.take n)=seg us0 o n+(c+b)*W n)(hq:seg us0 o (n+1)/val vs≤g)(hp:0<val vs):g=seg us0 o (n+1)/val vs∧seg (us.set (o+n) (wd us (o+n)-c-b)) o (n+1)=seg us0 o (n+1)%val vs:=by
 rw[List.take_of_length_le (by omega)]at h
 have e:seg (us.set (o+n) (wd us (o+n)-c-b)) o (n+1)+g*val vs=seg us0 o (n+1):=by
  rw[seg_set _ _ _ _ hz,seg_succ us0,←hw,show wd us (o+n)-c-b=wd us (o+n)-(c+b)from by omega,Nat.mul_sub,Nat.mul_comm (W n) (c+b)];have:=Nat.mul_le_mul_left (W n) hd;rw[Nat.mul_comm (W n) (c+b)]at this;omega
 have hle:g≤seg us0 o (n+1)/val vs:=by rw[Nat.le_div_iff_mul_le hp];omega
 have hg:g=seg us0 o (n+1)/val vs:=Nat.le_antisymm hle hq;refine⟨hg,?_⟩;have h2:=Nat.div_add_mod (seg us0 o (n+1)) (val vs);rw[←hg,Nat.mul_comm]at h2;omega
theorem mul_end_neg{us us0 vs:List Nat}{o n g c b:Nat}(hl:Lim us)(hV:vs.length=n)(hz:o+n<us.length)(hw:wd us (o+n)=wd us0 (o+n))(hd:wd us (o+n)<c+b)(hc:c<4294967296)(hb:b≤1)(h:seg us o n+g*val (vs.take n)=seg us0 o n+(c+b)*W n)(hq:g≤seg us0 o (n+1)/val vs+1)(hp:0<val vs):g=seg us0 o (n+1)/val vs+1∧seg (us.set (o+n) ((wd us (o+n)+4294967296-c-b)%4294967296)) o (n+1)+val vs=seg us0 o (n+1)%val vs+W (n+1):=by
 rw[List.take_of_length_le (by omega)]at h;have hu:=hl.wd (o+n)
 have e:seg (us.set (o+n) ((wd us (o+n)+4294967296-c-b)%4294967296)) o (n+1)+g*val vs=seg us0 o (n+1)+W (n+1):=by
  rw[seg_set _ _ _ _ hz,seg_succ us0,←hw,W_succ];have k:(wd us (o+n)+4294967296-c-b)%4294967296+(c+b)=wd us (o+n)+4294967296:=by omega
  have k1:=congrArg (fun t=>W n*t) k;simp only[Nat.mul_add]at k1;rw[Nat.add_mul]at h;have e1:W n*c=c*W n:=Nat.mul_comm _ _;have e2:W n*b=b*W n:=Nat.mul_comm _ _;omega
 have hlt:=seg_lt (hl.set (i:=o+n) (d:=(wd us (o+n)+4294967296-c-b)%4294967296) (Nat.mod_lt _ (by decide))) o (n+1)
 have hgt:seg us0 o (n+1)/val vs<g:=by
  rw[Nat.div_lt_iff_lt_mul hp];omega
 have hg:g=seg us0 o (n+1)/val vs+1:=by omega
 refine⟨hg,?_⟩;have h2:=Nat.div_add_mod (seg us0 o (n+1)) (val vs);rw[hg,Nat.add_mul,Nat.one_mul,Nat.mul_comm (_/_)]at e;omega
theorem back_step{us us1 vs:List Nat}{o i c:Nat}(hz:o+i<us.length)(hw:wd us (o+i)=wd us1 (o+i))(h:seg us o i+c*W i=seg us1 o i+val (vs.take i)):seg (us.set (o+i) ((c+(wd us (o+i)+wd vs i))%4294967296)) o (i+1)+(c+(wd us (o+i)+wd vs i))/4294967296*W (i+1)=seg us1 o (i+1)+val (vs.take (i+1)):=by
 rw[seg_set _ _ _ _ hz,seg_succ us1,val_take_succ,W_succ,←hw];have hd:=Nat.div_add_mod (c+(wd us (o+i)+wd vs i)) 4294967296;generalize(c+(wd us (o+i)+wd vs i))/4294967296=q at*
 generalize(c+(wd us (o+i)+wd vs i))%4294967296=m at*
 have k2:=congrArg (fun t=>W i*t) hd;simp only[Nat.mul_add]at k2;have e2:W i*(4294967296*q)=q*(4294967296*W i):=by rw[Nat.mul_comm,Nat.mul_right_comm,Nat.mul_comm (4294967296*_)]
 have e4:W i*c=c*W i:=Nat.mul_comm _ _;omega
theorem back_end{us us1 vs:List Nat}{o n c R:Nat}(hl:Lim us)(hV:vs.length=n)(hz:o+n<us.length)(hw:wd us (o+n)=wd us1 (o+n))(h:seg us o n+c*W n=seg us1 o n+val (vs.take n))(h1:seg us1 o (n+1)+val vs=R+W (n+1))(hR:R<W n):seg (us.set (o+n) ((wd us (o+n)+c)%4294967296)) o (n+1)=R:=by
 rw[List.take_of_length_le (by omega)]at h;rw[seg_set _ _ _ _ hz];rw[seg_succ,←hw,W_succ]at h1;have hu:=hl.wd (o+n);have hs:=seg_lt hl o n
 have e:seg us o n+W n*(wd us (o+n)+c)=R+W n*4294967296:=by
  rw[Nat.mul_add,Nat.mul_comm (W n) c];omega
 have h3:wd us (o+n)+c=4294967296:=by
  have k1:=W_pos n;have a1:W n*(wd us (o+n)+c)<W n*4294967297:=by omega
  have a2:W n*4294967295<W n*(wd us (o+n)+c):=(by omega);have b1:=Nat.lt_of_mul_lt_mul_left a1;have b2:=Nat.lt_of_mul_lt_mul_left a2;omega
 rw[h3]at e ⊢;rw[Nat.mod_self];omega
end Go.Proofs.YtbffpkmfhkphdaaGreatDoor.Limb
namespace Go.Proofs.YtbffpkmfhkphdaaGreatDoor.Limb
theorem bitLenAux_spec(f x:Nat)(h:x<2^f):x<2^Lib.bitLenAux f x∧(x≠0→2^(Lib.bitLenAux f x-1)≤x)∧Lib.bitLenAux f x≤f:=by
 induction f generalizing x with
 |zero=>simp[Lib.bitLenAux]at*;omega
 |succ f ih=>
  by_cases h0:x=0
  ·subst h0;simp[Lib.bitLenAux]
  ·have ih':=ih (x/2) (by rw[Nat.pow_succ]at h;omega);have e:Lib.bitLenAux (f+1) x=Lib.bitLenAux f (x/2)+1:=by simp[Lib.bitLenAux,h0];omega
   rw[e];obtain⟨h1,h2,h3⟩:=ih';refine⟨by rw[Nat.pow_succ];omega,fun _=>?_,by omega⟩;rw[Nat.add_sub_cancel];by_cases hx:x/2=0
   ·have:x=1:=(by omega);subst this;have:Lib.bitLenAux f (1/2)=0:=by cases f<;>simp[Lib.bitLenAux]
    rw[this];decide
   ·have h4:=h2 hx
    have h5:Lib.bitLenAux f (x/2)≠0:=by
     intro e0;rw[e0]at h1;simp at h1;omega
    obtain⟨m,hm⟩: ∃m,Lib.bitLenAux f (x/2)=m+1:=⟨_,(Nat.succ_pred_eq_of_ne_zero h5).symm⟩;rw[hm]at h4 ⊢;rw[Nat.add_sub_cancel]at h4;rw[Nat.pow_succ];omega
theorem bitLen32{x:Nat}(h:x<4294967296):x<2^Lib.bitLen x∧(x≠0→2^(Lib.bitLen x-1)≤x)∧Lib.bitLen x≤32∧(x≠0→1≤Lib.bitLen x):=by
 obtain⟨h1,h2,_⟩:=bitLenAux_spec 64 x (Nat.lt_of_lt_of_le h (by decide))
 have h3:x≠0→1≤Lib.bitLen x:=fun hx=>by
  rcases Nat.eq_zero_or_pos (Lib.bitLen x)with e|e
  ·unfold Lib.bitLen at e;rw[e]at h1;simp at h1;omega
  ·exact e
 refine⟨h1,h2,?_,h3⟩;by_cases hx:x=0
 ·subst hx;decide
 ·have h4:=h2 hx;rcases Nat.lt_or_ge 32 (Lib.bitLen x)with h5|h5
  ·exfalso;have:=Nat.pow_le_pow_right (n:=2) (by decide) (show 32≤Lib.bitLenAux 64 x-1 by unfold Lib.bitLen at h5;omega);have e:2^32=4294967296:=rfl;omega
  ·exact h5
def bitsN(n:Nat):Nat:=if n=0 then 0 else Nat.log2 n+1
theorem bitsN_spec(n:Nat):n<2^bitsN n∧(n≠0→2^(bitsN n-1)≤n):=by
 unfold bitsN;split
 ·subst n;simp
 ·rename_i h;refine⟨Nat.lt_log2_self,fun _=>?_⟩;rw[Nat.add_sub_cancel];exact Nat.log2_self_le h
theorem bitsN_unique{n b:Nat}(h1:n<2^b)(h2:n≠0→2^(b-1)≤n)(h0:n=0→b=0):bitsN n=b:=by
 by_cases h:n=0
 ·rw[h0 h,h];rfl
 ·obtain⟨k1,k2⟩:=bitsN_spec n;have a:=(Nat.pow_lt_pow_iff_right (show 1<2 by decide)).1 (Nat.lt_of_le_of_lt (h2 h) k1);have b':=(Nat.pow_lt_pow_iff_right (show 1<2 by decide)).1 (Nat.lt_of_le_of_lt (k2 h) h1);have hb:b≠0:=by intro e;subst e;simp at h1;omega
  have hB:bitsN n≠0:=(by intro e;rw[e]at k1;simp at k1;omega);omega
theorem bitsN_le{n b:Nat}:bitsN n≤b↔n<2^b:=by
 obtain⟨k1,k2⟩:=bitsN_spec n;constructor
 ·intro h;exact Nat.lt_of_lt_of_le k1 (Nat.pow_le_pow_right (by decide) h)
 ·intro h;by_cases h0:n=0
  ·rw[h0];exact Nat.zero_le _
  ·have:=(Nat.pow_lt_pow_iff_right (show 1<2 by decide)).1 (Nat.lt_of_le_of_lt (k2 h0) h);omega
theorem bitsN_val{l:List Nat}{k:Nat}(hl:Lim l)(hk:l.length=k+1)(h0:wd l k≠0):bitsN (val l)=32*k+Lib.bitLen (wd l k):=by
 have e:=val_snoc_wd (l:=l) (k:=k) (by omega);rw[List.take_of_length_le (by omega)]at e;have h1:=val_lt (hl.take k);rw[List.length_take,Nat.min_eq_left (by omega)]at h1;obtain⟨b1,b2,b3,b4⟩:=bitLen32 (hl.wd k);have p:=W_pos k;apply bitsN_unique
 ·rw[Nat.pow_add,←W_two,e];have:=Nat.mul_le_mul_left (W k) (show wd l k+1≤2^Lib.bitLen (wd l k)from b1);rw[Nat.mul_add]at this;omega
 ·intro _;rw[show 32*k+Lib.bitLen (wd l k)-1=32*k+(Lib.bitLen (wd l k)-1)from by have:=b4 h0;omega,Nat.pow_add,←W_two,e];have:=Nat.mul_le_mul_left (W k) (b2 h0);omega
 ·intro h;exfalso;have:=Nat.mul_le_mul_left (W k) (show 1≤wd l k by omega);omega
theorem norm_last{l:List Nat}{k:Nat}(hn:Norm l)(hk:l.length=k+1):wd l k≠0:=by
 intro h;apply hn;rw[List.getLast?_eq_getElem?,hk,Nat.add_sub_cancel,List.getElem?_eq_getElem (by omega),←wd_lt (by omega),h]
end Go.Proofs.YtbffpkmfhkphdaaGreatDoor.Limb
namespace Go.Proofs.YtbffpkmfhkphdaaGreatDoor.Limb
theorem drop_val(us:List Nat)(j:Nat)(h:j<us.length):val (us.drop j)=wd us j+4294967296*val (us.drop (j+1)):=by
 rw[List.drop_eq_getElem_cons h,←wd_lt h,val]
structure Div (us0 us qs:List Nat) (V n k:Nat):Prop where
 len:us.length=us0.length
 lim:Lim us
 qlim:Lim qs
 qlen:qs.length+n=us0.length
 kle:k≤qs.length
 low:us.take k=us0.take k
 rest:val (us.drop k)<V
 eq:val (us0.drop k)=V*val (qs.drop k)+val (us.drop k)
theorem Div.seg_eq{us0 us qs:List Nat}{V n j:Nat}(D:Div us0 us qs V n (j+1))(hV:V<W n)(hn:0<n):seg us j (n+1)=wd us j+4294967296*val (us.drop (j+1))∧val (us.drop (j+n+1))=0:=by
 have hl:=D.len;have hk:=D.kle;have hq:=D.qlen
 have h1:val (us.drop (j+n+1))=0:=by
  rw[show j+n+1=(j+1)+n from by omega,←List.drop_drop,val_drop (D.lim.drop _)];exact Nat.div_eq_of_lt (Nat.lt_trans D.rest hV)
 refine⟨?_,h1⟩;have h2:=val_take_drop (us.drop j) (n+1) (by rw[List.length_drop];omega);rw[List.drop_drop,show j+(n+1)=j+n+1 from by omega,h1,Nat.mul_zero,Nat.add_zero]at h2;unfold seg;rw[←h2,drop_val us j (by omega)]
theorem Div.seg_lt'{us0 us qs:List Nat}{V n j:Nat}(D:Div us0 us qs V n (j+1))(hV:V<W n)(hn:0<n):seg us j (n+1)<V*4294967296:=by
 rw[(D.seg_eq hV hn).1];have h1:=D.rest;have h2:=D.lim.wd j;have:=Nat.mul_le_mul_left 4294967296 (show val (us.drop (j+1))+1≤V from h1);rw[Nat.mul_comm V];omega
theorem Div.step{us0 us us' qs:List Nat}{V n j:Nat}(D:Div us0 us qs V n (j+1))(hV:V<W n)(hn:0<n)(hl:us'.length=us.length)(hlim:Lim us')(htk:us'.take j=us.take j)(hdr:us'.drop (j+n+1)=us.drop (j+n+1))(hs:seg us' j (n+1)=seg us j (n+1)%V):Div us0 us' (qs.set j (seg us j (n+1)/V)) V n j:=by
 have hlen:=D.len;have hk:=D.kle;have hq:=D.qlen;have hpos:0<V:=Nat.lt_of_le_of_lt (Nat.zero_le _) D.rest;obtain⟨h1,h2⟩:=D.seg_eq hV hn;have hlt:=D.seg_lt' hV hn;have hqlt:seg us j (n+1)/V<4294967296:=by rw[Nat.div_lt_iff_lt_mul hpos,Nat.mul_comm];exact hlt
 have e1:val (us'.drop j)=seg us j (n+1)%V:=by
  have h3:=val_take_drop (us'.drop j) (n+1) (by rw[List.length_drop];omega);rw[List.drop_drop,show j+(n+1)=j+n+1 from by omega,hdr,h2,Nat.mul_zero,Nat.add_zero]at h3;rw[h3];exact hs
 refine⟨by rw[hl,hlen],hlim,D.qlim.set hqlt,by rw[List.length_set];exact hq,by rw[List.length_set];omega,?_,by rw[e1];exact Nat.mod_lt _ hpos,?_⟩
 ·rw[htk];have:=congrArg (List.take j) D.low
  rwa [List.take_take,List.take_take,Nat.min_eq_left (by omega)]at this
 ·have hw:wd us0 j=wd us j:=by
   have h5:wd (us.take (j+1)) j=wd (us0.take (j+1)) j:=(by rw[D.low]);rw[wd_take (by omega),wd_take (by omega)]at h5;exact h5.symm
  have hq2:val ((qs.set j (seg us j (n+1)/V)).drop j)=seg us j (n+1)/V+4294967296*val (qs.drop (j+1)):=by
   rw[drop_val _ _ (by rw[List.length_set];omega),wd_set (by omega),if_pos rfl,List.drop_set_of_lt (by omega)]
  rw[drop_val us0 j (by omega),D.eq,hq2,e1,hw];have h4:=Nat.div_add_mod (seg us j (n+1)) V;rw[h1]at h4 ⊢;generalize(wd us j+4294967296*val (us.drop (j+1)))/V=q at*
  generalize(wd us j+4294967296*val (us.drop (j+1)))%V=r at*
  rw[Nat.mul_add,Nat.mul_add,Nat.mul_left_comm V 4294967296];omega
theorem Div.done{us0 us qs:List Nat}{V n:Nat}(D:Div us0 us qs V n 0):val qs=val us0/V∧val us=val us0%V:=by
 have h:=D.eq;have hr:=D.rest;simp only[List.drop_zero]at h hr;have hpos:0<V:=Nat.lt_of_le_of_lt (Nat.zero_le _) hr;rw[h,Nat.mul_add_div hpos,Nat.div_eq_of_lt hr,Nat.mul_add_mod,Nat.mod_eq_of_lt hr];exact⟨by omega,rfl⟩
theorem up_words{ys:List Nat}{k:Nat}(hy:Lim ys)(ny:Norm ys)(hl:ys.length=k+1):(rep (val ys*2^(32-Lib.bitLen (wd ys k)))).length=k+1∧2147483648≤wd (rep (val ys*2^(32-Lib.bitLen (wd ys k)))) k∧Lib.bitLen (wd ys k)≤32∧1≤Lib.bitLen (wd ys k):=by
 have hne:=norm_last ny hl;obtain⟨b1,b2,b3,b4⟩:=bitLen32 (hy.wd k);have b5:=b4 hne;have b6:=b2 hne;have e:=val_snoc_wd (l:=ys) (k:=k) (by omega);rw[List.take_of_length_le (by omega)]at e;have h1:=val_lt (hy.take k);rw[List.length_take,Nat.min_eq_left (by omega)]at h1;generalize Lib.bitLen (wd ys k)=b at*
 have p31:2^(b-1)*2^(32-b)=2147483648:=by rw[←Nat.pow_add,show b-1+(32-b)=31 from by omega]
 have p32:2^b*2^(32-b)=4294967296:=by rw[←Nat.pow_add,show b+(32-b)=32 from by omega]
 have lo:2147483648*W k≤val ys*2^(32-b):=by
  have:=Nat.mul_le_mul_right (2^(32-b)) (show W k*2^(b-1)≤val ys by rw[e];exact Nat.le_trans (Nat.mul_le_mul_left _ b6) (Nat.le_add_left _ _));rw[Nat.mul_assoc,p31,Nat.mul_comm]at this;exact this
 have hi:val ys*2^(32-b)<W (k+1):=by
  have h2:val ys<W k*2^b:=by
   have:=Nat.mul_le_mul_left (W k) (show wd ys k+1≤2^b from b1);rw[Nat.mul_add]at this;omega
  have:=Nat.mul_lt_mul_of_pos_right h2 (Nat.pow_pos (n:=32-b) (show 0<2 by decide));rw[Nat.mul_assoc,p32,Nat.mul_comm (W k)]at this;rw[W_succ];exact this
 have hp:=W_pos k;have hlen:(rep (val ys*2^(32-b))).length=k+1:=Nat.le_antisymm (rep_length_le.2 hi) (rep_length_lt.2 (by omega));refine⟨hlen,?_,b3,b5⟩;rw[rep_wd,Nat.mod_eq_of_lt]
 ·rw[Nat.le_div_iff_mul_le hp];exact lo
 ·rw[Nat.div_lt_iff_lt_mul hp,←W_succ];exact hi
theorem up_dividend{xs:List Nat}{L s:Nat}(hx:Lim xs)(nx:Norm xs)(hl:xs.length=L)(hL:0<L)(hs:s≤32):L≤(rep (val xs*2^s)).length∧(rep (val xs*2^s)).length≤L+1∧∀l:List Nat,l=(rep (val xs*2^s)++[0,0]).take (L+1)→l.length=L+1∧Lim l∧val l=val xs*2^s:=by
 have h1:=val_lt hx;have hp:0<2^s:=Nat.pow_pos (by decide);have h2:W (L-1)≤val xs:=by rw[←rep_length_lt,rep_val hx nx];omega
 have lo:L≤(rep (val xs*2^s)).length:=by
  have:=rep_length_lt.2 (Nat.le_trans h2 (Nat.le_mul_of_pos_right (val xs) hp));omega
 have hi:(rep (val xs*2^s)).length≤L+1:=by
  rw[rep_length_le,W_succ];have h3:2^s≤4294967296:=Nat.pow_le_pow_right (n:=2) (by decide) hs;have:=Nat.mul_le_mul_left (val xs) h3;rw[hl]at h1;omega
 refine⟨lo,hi,fun l hlq=>?_⟩;have hlim:Lim (rep (val xs*2^s)++[0,0]):=Lim.append (rep_lim _) (Lim.cons (by decide) (Lim.cons (by decide) Lim.nil));have hv:val (rep (val xs*2^s)++[0,0])=val xs*2^s:=by rw[val_append,val_rep];simp[val]
 subst hlq;refine⟨by rw[List.length_take,List.length_append];simp;omega,hlim.take _,?_⟩;rw[val_take hlim,hv,Nat.mod_eq_of_lt (rep_length_le.1 hi)]
theorem Div.start{xs ys us0:List Nat}{L k s:Nat}(hx:Lim xs)(hy:Lim ys)(ny:Norm ys)(hlx:xs.length=L)(hly:ys.length=k+1)(hkL:k+1≤L)(hu:us0.length=L+1)(hul:Lim us0)(huv:val us0=val xs*2^s):Div us0 us0 (List.replicate (L-k) 0) (val ys*2^s) (k+1) (L-k):=by
 have h0:val ((List.replicate (L-k) 0).drop (L-k))=0:=by rw[List.drop_of_length_le (by simp)];rfl
 have hp:0<2^s:=Nat.pow_pos (by decide);refine⟨rfl,hul,Lim.replicate _ (by decide),by simp;omega,by simp,rfl,?_,by rw[h0];omega⟩;rw[val_drop hul,huv,Nat.div_lt_iff_lt_mul (W_pos _)];have h1:=val_lt hx;rw[hlx]at h1;have h2:W k≤val ys:=by rw[←rep_length_lt,rep_val hy ny];omega
 have h3:W L=W k*W (L-k):=by rw[←W_add];congr 1;omega
 rw[Nat.mul_right_comm];refine Nat.mul_lt_mul_of_pos_right (Nat.lt_of_lt_of_le h1 ?_) hp;rw[h3];exact Nat.mul_le_mul_right _ h2
end Go.Proofs.YtbffpkmfhkphdaaGreatDoor.Limb
namespace Go.Proofs.YtbffpkmfhkphdaaGreatDoor
open Go Lib Go.RowKit Limb
theorem size32(W:World):(sizeOf 60).run Tryz.prog W= .ok 1 W:=by kernel_rfl
theorem norm_step{l:List Nat}(k:Nat)(hk:k<l.length)(h:val (l.take (k+1))=val l)(h0:wd l k=0):val (l.take k)=val l:=by
 rw[←h,val_snoc_wd hk,h0];simp
theorem norm_end{l:List Nat}(hl:Lim l)(k:Nat)(hk:k≤l.length)(h:val (l.take k)=val l)(h0:k=0∨wd l (k-1)≠0):(rep (val l)).length=k:=by
 apply Nat.le_antisymm
 ·rw[rep_length_le,←h];have:=val_lt (hl.take k);rwa [List.length_take,Nat.min_eq_left hk]at this
 ·rcases h0 with h0|h0
  ·omega
  ·rcases Nat.eq_zero_or_pos k with hz|hz
   ·omega
   ·obtain⟨j,rfl⟩: ∃j,k=j+1:=⟨k-1,by omega⟩
    have:W j≤val l:=by
     rw[←h,val_snoc_wd (by omega)];rw[Nat.add_sub_cancel]at h0;have:=Nat.mul_le_mul_left (W j) (show 1≤wd l j by omega);omega
    have:=rep_length_lt.2 this;omega
theorem big_norm(w:World)(a:Option Addr)(l:List Nat)(n cap:Nat)(hlay:Lay .u32 w a l)(hlim:Lim l)(hn:n=l.length)(hm:n≤9223372036854775807)(hc:n≤cap):Calls Tryz.prog 236 #[.slice a n cap] w fun e w'=>e= .returned (.slice a (rep (val l)).length cap)∧w=w':=by
 obtain⟨b,off,hix,hcell,hb⟩:=hlay.use 115 60 Tryz.underlying115 size32 cap;rw[←hn]at hix hcell;have Hn:=hid hn;clear hn;have HX:=hid hix;clear hix;have HC:=hid hcell;clear hcell;go_enter Tryz.func236,Tryz.ntmps236;go_wp2;go_loop[3] (fun i=> ∃k:Nat,k≤n∧i= .int .i64 k∧val (l.take k)=val l) (fun i=>(intOf i).toNat);case atStart=>exact⟨n,Nat.le_refl _,rfl,by rw[Hn.out,List.take_length]⟩
 case round=>
  obtain⟨k,hk,rfl,hv⟩:=hrel;have Hv:=hid hv;clear hv;by_cases h0:k=0
  ·have hd:decide (0<k)=false:=(by simp[h0]);have HR:Hid ((rep (val l)).length=k):=norm_end hlim k (by rw[←Hn.out];exact hk) Hv.out (.inl h0);clear h0;go_wp2;go_ret;exact⟨by rw[HR.out];rfl,rfl⟩
  ·have hx:=HX.out w .i64 ((k:Int)-1) (by omega) (by omega);have hj:off+((k:Int)-1).toNat=off+(k-1):=by omega
   have hcc:=HC.out w (Below.refl _ _) (k-1) (by omega);rw[hj]at hx;have hpos:0<k:=by omega
   have hd:decide (0<k)=true:=(by simp;omega);clear hj;by_cases hz:wd l (k-1)=0
   ·have hzb:(((wd l (k-1):Nat):Int)==0)=true:=(by simp[hz]);clear h0;go_wp2;go_round;case rel=>exact⟨k-1,by omega,by go_num,by rw[←norm_step (k-1) (by rw[←Hn.out];omega) (by rw[show k-1+1=k from by omega];exact Hv.out) hz]⟩
    case measure=>simp[intOf];omega
   ·have hzb:(((wd l (k-1):Nat):Int)==0)=false:=(by simp;omega);have HR:Hid ((rep (val l)).length=k):=norm_end hlim k (by rw[←Hn.out];exact hk) Hv.out (.inr hz);clear h0 hz;go_wp2;go_ret;exact⟨by rw[HR.out];rfl,rfl⟩
theorem big_digit(w:World)(a:Option Addr)(l:List Nat)(n cap:Nat)(j:Int)(hlay:Lay .u32 w a l)(hlim:Lim l)(hn:n=l.length)(h0:0≤j)(h1:j≤9223372036854775807):Calls Tryz.prog 237 #[.slice a n cap,.int .i64 j] w fun e w'=>e= .returned (.int .u64 (wd l j.toNat:Nat))∧w=w':=by
 obtain⟨b,off,hix,hcell,hb⟩:=hlay.use 115 60 Tryz.underlying115 size32 cap;obtain⟨i,rfl⟩:=Int.eq_ofNat_of_zero_le h0;rw[Int.toNat_natCast];by_cases h:i<l.length
 ·have hx:=hix w .i64 i (by omega) (by omega);have hc:=hcell w (Below.refl _ _) i h;have hw:=hlim.wd i;rw[Int.toNat_natCast]at hx;clear hix hcell;rw[←hn]at*
  clear hn;go_enter Tryz.func237,Tryz.ntmps237;go_wp2;go_ret;exact⟨rfl,rfl⟩
 ·have hz:=wd_ge (show l.length≤i by omega);rw[hz];clear hix hcell hz;rw[←hn]at*
  clear hn;go_enter Tryz.func237,Tryz.ntmps237;go_wp2;go_ret;exact⟨rfl,rfl⟩
end Go.Proofs.YtbffpkmfhkphdaaGreatDoor
namespace Go.Proofs.YtbffpkmfhkphdaaGreatDoor
open Go Lib Go.RowKit Limb
theorem info32:(Tryz.prog.info? 60).map (fun i=>(i.zero,i.size,i.bytes))=some (some (.int .u32 0),1,4):=by kernel_rfl
def NatResC(w w':World)(e:Ending)(n C:Nat):Prop:=
 ∃a cap,e= .returned (.slice a (rep n).length cap)∧(rep n).length≤cap∧cap≤C∧Lay .u32 w' a (rep n)∧Below w.heap.size w w'
def NatRes(w w':World)(e:Ending)(n:Nat):Prop:=NatResC w w' e n 4398046511104
theorem sum_step{xs ys zs:List Nat}{k c:Nat}(hz:k<zs.length)(hlz:Lim zs)(hc:c≤1)(hx:Lim xs)(hy:Lim ys)(h:val (zs.take k)+c*W k=val (xs.take k)+val (ys.take k)):val ((zs.set k ((c+(wd xs k+wd ys k))%4294967296)).take (k+1))+((c+(wd xs k+wd ys k))/4294967296)*W (k+1)=val (xs.take (k+1))+val (ys.take (k+1)):=by
 rw[val_set_take _ hz,val_take_succ xs,val_take_succ ys,W_succ];have hd:=Nat.div_add_mod (c+(wd xs k+wd ys k)) 4294967296
 have:W k*(c+(wd xs k+wd ys k))=W k*((c+(wd xs k+wd ys k))%4294967296)+(c+(wd xs k+wd ys k))/4294967296*(4294967296*W k):=by
  conv=>lhs;rw[←hd]
  rw[Nat.mul_add,Nat.mul_comm 4294967296 (_/_),Nat.mul_left_comm,Nat.mul_comm 4294967296 (W k),Nat.add_comm]
 have e2:W k*(c+(wd xs k+wd ys k))=c*W k+(W k*wd xs k+W k*wd ys k):=by rw[Nat.mul_add,Nat.mul_add,Nat.mul_comm c]
 omega
theorem big_sum(w:World)(a b:Option Addr)(xs ys:List Nat)(ca cb:Nat)(ha:Lay .u32 w a xs)(hb:Lay .u32 w b ys)(hx:Lim xs)(hy:Lim ys)(lx:xs.length≤1099511627776)(ly:ys.length≤1099511627776):Calls Tryz.prog 151 #[.slice a xs.length ca,.slice b ys.length cb] w fun e w'=>NatRes w w' e (val xs+val ys):=by
 obtain⟨n,hn1,hn2,hn3,hmax⟩: ∃n,xs.length≤n∧ys.length≤n∧n≤1099511627776∧∀(ts:Array TypeId) (t:TypeId) (W:World),
   (Builtin.max_ ts t #[.int .i64 xs.length,.int .i64 ys.length]).run Tryz.prog W= .ok (.int .i64 n) W:=by
  refine⟨max xs.length ys.length,by omega,by omega,by omega,fun ts t W=>?_⟩;rw[run_max_int2];by_cases h:xs.length<ys.length
  ·rw[if_pos (by omega),Nat.max_eq_right (by omega)]
  ·rw[if_neg (by omega),Nat.max_eq_left (by omega)]
 go_enter Tryz.func151,Tryz.ntmps151;go_wp2_with(at_make;refine wpList_make_row rfl _ _ _ rfl 60 (.int .u32 0) 4 Tryz.underlying115 info32 rfl _ _ _ _ (n+1) (n+1) rfl rfl (by simp) (by simp) (by omega) (by omega) (by omega) ?_;intro w1 g hg1 hg2 hrow hbel);go_loopw[7,18] (fun c i wr=> ∃(k cc:Nat) (zs:List Nat),k≤n∧i= .int .i64 k∧c= .int .u64 cc∧cc≤1∧zs.length=n+1∧Lim zs∧Row wr g 60 (nums .u32 zs)∧val (zs.take k)+cc*W k=val (xs.take k)+val (ys.take k)∧Below w.heap.size w wr) (fun _ i _=>n-(intOf i).toNat);case atStart=>exact⟨0,0,List.replicate (n+1) 0,by omega,rfl,rfl,by omega,by simp,Lim.replicate _ (by decide),by rw[nums_replicate];exact hrow,by simp[val],hbel⟩
 case round=>
  obtain⟨k,cc,zs,hk,rfl,rfl,hc1,hzl,hzlim,hr,hv,hbl⟩:=hrel;have hxa:=ha.below hbl;have hyb:=hb.below hbl;have h1:=hx.wd k;have h2:=hy.wd k;have Hzl:=hid hzl;clear hzl;have Hv:=hid hv;clear hv;have hfr:=hr.free;by_cases hlt:k<n
  ·have hcell:=hr.cell (i:=k) (by rw[Hzl.out];omega);have hfk:=hfr k;clear hfr;go_wp2_with(go_at_call 237;refine(big_digit _ _ _ _ _ _ (by assumption) (by assumption) rfl (by omega) (by omega)).mono ?_;rw[Int.toNat_natCast];rintro e w' ⟨rfl,rfl⟩);go_roundw
   case rel=>exact⟨k+1,(cc+(wd xs k+wd ys k))/4294967296,zs.set k ((cc+(wd xs k+wd ys k))%4294967296),by omega,by go_num,by go_num,by omega,by rw[List.length_set,Hzl.out],
    hzlim.set (by omega),hr.store _ _ _ (by omega),sum_step (by rw[Hzl.out];omega) hzlim hc1 hx hy Hv.out,below_store hbl hg1 _⟩
   case measure=>simp[intOf];omega
  ·obtain rfl:k=n:=by omega
   have hcell:=hr.cell (i:=k) (by rw[Hzl.out];omega);have hfk:=hfr k;have hr2:=hr.store k cc cc rfl;have hl2:=hr2.lay;have hlim2:Lim (zs.set k cc):=hzlim.set (by omega)
   have hval:Hid (val (zs.set k cc)=val xs+val ys):=by
    have h4:=Hv.out;rw[List.take_of_length_le hn1,List.take_of_length_le hn2]at h4;unfold Hid;rw[val_set_end _ Hzl.out,Nat.mul_comm];exact h4
   have hb2:=below_store hbl (i:=k) hg1 (.int .u32 cc);clear hfr;go_wp2_with(go_at_call 236;refine(big_norm _ _ (zs.set k cc) _ _ (by assumption) (by assumption) (by rw[List.length_set,Hzl.out]) (by omega) (by omega)).mono ?_;rintro e w' ⟨rfl,rfl⟩);go_ret;rw[←hval.out];have hle:=rep_val_le hlim2;rw[List.length_set,Hzl.out]at hle;exact⟨_,_,rfl,hle,by omega,hl2.norm hlim2,hb2⟩
end Go.Proofs.YtbffpkmfhkphdaaGreatDoor
namespace Go.Proofs.YtbffpkmfhkphdaaGreatDoor.Limb
def bval(f:Nat→Nat):Nat→Nat
 |0=>0
 |k+1=>bval f k+256^k*f k
theorem val_set_add{l:List Nat}{i e:Nat}(h:i<l.length):val (l.set i (wd l i+e))=val l+W i*e:=by
 induction l generalizing i with
 |nil=>simp at h
 |cons d t ih=>
  cases i with
  |zero=>simp[wd,val,W_zero];omega
  |succ i=>
   have h':i<t.length:=(by simpa using h);have e1:wd (d :: t) (i+1)=wd t i:=by unfold wd;rw[List.getD_cons_succ]
   rw[e1,List.set_cons_succ,val,val,ih h',W_succ,Nat.mul_add,Nat.mul_assoc];omega
theorem W_256(k:Nat):W (k/4)*256^(k%4)=256^k:=by
 rw[show W (k/4)=256^(4*(k/4))from by unfold W;rw[Nat.pow_mul],←Nat.pow_add,show 4*(k/4)+k%4=k from by omega]
structure Laid (f:Nat→Nat) (xs:List Nat) (m k:Nat):Prop where
 len:xs.length=m
 lim:Lim xs
 eq:val xs=bval f k
 here:wd xs (k/4)<256^(k%4)
 beyond: ∀j,k/4<j→wd xs j=0
theorem Laid.start(f:Nat→Nat)(m:Nat):Laid f (List.replicate m 0) m 0:=
 ⟨by simp,Lim.replicate _ (by decide),by rw[val_replicate];rfl,by rw[wd_replicate];decide,fun j _=>wd_replicate _ _⟩
theorem pow256_le{r:Nat}(h:r<4):256^(r+1)≤4294967296:=Nat.pow_le_pow_right (n:=256) (by decide) (show r+1≤4 by omega)
theorem Laid.new_lt{f:Nat→Nat}{xs:List Nat}{m k:Nat}(D:Laid f xs m k)(hf:f k<256):wd xs (k/4)+f k*256^(k%4)<256^(k%4+1):=by
 have h:=D.here;have h2:=Nat.mul_le_mul_right (256^(k%4)) (show f k≤255 by omega);rw[Nat.pow_succ];omega
theorem Laid.step{f:Nat→Nat}{xs:List Nat}{m k:Nat}(D:Laid f xs m k)(hf:f k<256)(hk:k/4<m):Laid f (xs.set (k/4) (wd xs (k/4)+f k*256^(k%4))) m (k+1):=by
 have hl:=D.len;have hn:=D.new_lt hf;have hp:=pow256_le (r:=k%4) (by omega);refine⟨by rw[List.length_set];exact hl,D.lim.set (by omega),?_,?_,?_⟩
 ·rw[val_set_add (by omega),D.eq,bval,Nat.mul_comm (f k),←Nat.mul_assoc,W_256]
 ·rw[wd_set (by omega)];by_cases h:k%4=3
  ·rw[if_neg (by omega),show(k+1)%4=0 from by omega,D.beyond _ (by omega)];decide
  ·rw[if_pos (by omega),show(k+1)%4=k%4+1 from by omega];exact hn
 ·intro j hj;rw[wd_set (by omega),if_neg (by omega)];exact D.beyond j (by omega)
def byt(l:List Nat)(j:Nat):Nat:=wd l (j/4)/256^(j%4)%256
theorem byt_lt(l:List Nat)(j:Nat):byt l j<256:=Nat.mod_lt _ (by decide)
theorem bval_words{l:List Nat}(hl:Lim l)(k:Nat):bval (byt l) (4*k)=val (l.take k):=by
 induction k with
 |zero=>simp[bval,val]
 |succ k ih=>
  rw[show 4*(k+1)=4*k+1+1+1+1 from by omega,bval,bval,bval,bval,ih,val_take_succ];have hw:=hl.wd k
  have e: ∀t,t<4→byt l (4*k+t)=wd l k/256^t%256:=by
   intro t ht;unfold byt;rw[show(4*k+t)/4=k from by omega,show(4*k+t)%4=t from by omega]
  have p: ∀t,256^(4*k+t)=W k*256^t:=by
   intro t;rw[Nat.pow_add];congr 1;unfold W;rw[Nat.pow_mul]
  have e0:=e 0 (by omega);have e1:=e 1 (by omega);have e2:=e 2 (by omega);have e3:=e 3 (by omega);have p0:=p 0;have p1:=p 1;have p2:=p 2;have p3:=p 3;simp only[Nat.add_zero,Nat.add_assoc]at*
  rw[e0,e1,e2,e3,p0,p1,p2,p3];generalize wd l k=x at*
  have key:x=1*(x/1%256)+256*(x/256%256)+65536*(x/65536%256)+16777216*(x/16777216%256):=(by omega);have k2:=congrArg (fun t=>W k*t) key;simp only[Nat.mul_add]at k2;simp only[show 256^0=1 from rfl,show 256^1=256 from rfl,show 256^2=65536 from rfl,show 256^3=16777216 from rfl,Nat.mul_assoc];omega
theorem word_of_bytes{l:List Nat}(hl:Lim l)(k:Nat):byt l (4*k)+byt l (4*k+1)*256+byt l (4*k+2)*65536+byt l (4*k+3)*16777216=wd l k:=by
 have hw:=hl.wd k
 have e: ∀t,t<4→byt l (4*k+t)=wd l k/256^t%256:=by
  intro t ht;unfold byt;rw[show(4*k+t)/4=k from by omega,show(4*k+t)%4=t from by omega]
 have e0:=e 0 (by omega);have e1:=e 1 (by omega);have e2:=e 2 (by omega);have e3:=e 3 (by omega);rw[Nat.add_zero]at e0;rw[e0,e1,e2,e3];simp only[show 256^0=1 from rfl,show 256^1=256 from rfl,show 256^2=65536 from rfl,show 256^3=16777216 from rfl];omega
end Go.Proofs.YtbffpkmfhkphdaaGreatDoor.Limb
namespace Go.Proofs.YtbffpkmfhkphdaaGreatDoor.Limb
def packB:List Nat→List Nat
 |a :: b :: c :: d :: t=>(a+256*b+65536*c+16777216*d) :: packB t
 |[a,b,c]=>[a+256*b+65536*c]
 |[a,b]=>[a+256*b]
 |[a]=>[a]
 |[]=>[]
def by4(a:Nat):List Nat:=[a%256,a/256%256,a/65536%256,a/16777216%256]
def unpB:List Nat→List Nat
 |[]=>[]
 |a :: t=>by4 a++unpB t
def flds(h:Hp)(o:Nat):List Nat:=(h.ws.drop (o/2+3)).take (hdO h o).size
def bytO(h:Hp)(o:Nat):List Nat:=(unpB (flds h o)).take (hdO h o).len
def allocP(h:Hp)(c f n:Nat):Option (Nat×Hp):=
 if clsO h c&&room h n then some (newO h,addO h f 0 c (List.replicate n (if f=1∨f=4 then wd h.rt 0 else 0)))else none
def makeP(h:Hp)(c:Nat)(bs:List Nat):Option (Nat×Hp):=
 if clsO h c&&room h ((bs.length+3)/4)then some (newO h,addO h 2 (4*((bs.length+3)/4)-bs.length) c (packB bs))else none
def putF(h:Hp)(o i v:Nat):Hp:=putW h (o/2+3+i) v
def setC(h:Hp)(o c:Nat):Hp:=putW h (o/2+1) c
def isF(h:Hp)(o f n:Nat):Bool:=isO h o&&decide ((hdO h o).fmt=f)&&decide (n≤(hdO h o).size)
def getF(h:Hp)(o i:Nat):Nat:=if isF h o 1 (i+1)then fld h o i else 0
def ahead(z:Nat):List Nat→List Nat
 |[]=>[]
 |a :: t=>if a=z then[]else a :: ahead z t
def entries(h:Hp)(r:Nat):List Nat:=if isF h (wd h.rt r) 1 0 then ahead (wd h.rt 0) (flds h (wd h.rt r))else[]
def readsO(h:Hp)(t:List Nat)(o:Nat):Bool:=isF h o 2 0&&decide ((hdO h o).len=t.length)&&decide (bytO h o=t)
def symP(h:Hp)(t:List Nat):Nat:=((entries h 3).find? (readsO h t)).getD 0
def isGlob(h:Hp)(t:List Nat)(o:Nat):Bool:=isF h o 1 2&&readsO h t (fld h o 0)
def globP(h:Hp)(t:List Nat):Nat:=((entries h 4).find? (isGlob h t)).getD 0
def putL(h:Hp)(r o:Nat):Option Hp:=
 let l:=wd h.rt r
 let n:=(entries h r).length
 if isF h l 1 (n+1)then some (putF h l n o)else none
def internP(h:Hp)(t:List Nat):Option (Nat×Hp):=
 let s:=symP h t
 if s=0 then(makeP h (wd h.rt 18) t).bind fun x=>(putL x.2 3 x.1).map fun h2=>(x.1,h2)else some (s,h)
def setGlobP(h:Hp)(t:List Nat)(v:Nat):Option (Nat×Hp):=
 if globP h t=0 then(internP h t).bind fun k=>(allocP k.2 (wd k.2.rt 23) 1 2).bind fun a=>(putL (putF (putF a.2 a.1 0 k.1) a.1 1 v) 4 a.1).map fun h2=>(a.1,h2)else none
structure Plan where
 name:List Nat
 sup:Nat
 fmt:Nat
 idx:Bool
 fields:List (List Nat)
def plans:List Plan:=[⟨[79,98,106,101,99,116],0,1,false,[]⟩,
 ⟨[67,108,97,115,115],10,1,false,[[110,97,109,101],[115,117,112,101,114,99,108,97,115,115],[109,101,116,104,111,100,115],[102,105,101,108,100,115],[102,111,114,109,97,116],[116,104,105,115]]⟩,
 ⟨[77,101,116,97,99,108,97,115,115],11,1,false,[]⟩,
 ⟨[85,110,100,101,102,105,110,101,100,79,98,106,101,99,116],10,1,false,[]⟩,
 ⟨[84,114,117,101],10,1,false,[]⟩,
 ⟨[70,97,108,115,101],10,1,false,[]⟩,
 ⟨[83,109,97,108,108,73,110,116,101,103,101,114],31,1,false,[]⟩,
 ⟨[76,97,114,103,101,73,110,116,101,103,101,114],31,3,true,[]⟩,
 ⟨[83,121,109,98,111,108],19,2,true,[]⟩,
 ⟨[83,116,114,105,110,103],10,2,true,[]⟩,
 ⟨[65,114,114,97,121],10,1,true,[]⟩,
 ⟨[87,101,97,107,65,114,114,97,121],10,4,true,[]⟩,
 ⟨[66,121,116,101,65,114,114,97,121],10,2,true,[]⟩,
 ⟨[65,115,115,111,99,105,97,116,105,111,110],10,1,false,[[107,101,121],[118,97,108,117,101]]⟩,
 ⟨[77,101,116,104,111,100],10,1,false,[[104,101,97,100,101,114],[115,101,108,101,99,116,111,114],[99,108,97,115,115],[108,105,116,101,114,97,108,115],[99,111,100,101],[115,111,117,114,99,101],[112,114,105,109,105,116,105,118,101]]⟩,
 ⟨[66,108,111,99,107],10,1,false,[[111,117,116,101,114],[112,99],[97,114,103,117,109,101,110,116,115],[116,101,109,112,111,114,97,114,105,101,115],[104,111,109,101],[115,116,97,99,107]]⟩,
 ⟨[67,111,110,116,101,120,116],10,1,true,[[115,101,110,100,101,114],[112,99],[116,111,112],[109,101,116,104,111,100],[114,101,99,101,105,118,101,114],[99,108,111,115,117,114,101],[109,97,114,107]]⟩,
 ⟨[77,101,115,115,97,103,101],10,1,false,[[115,101,108,101,99,116,111,114],[97,114,103,117,109,101,110,116,115]]⟩,
 ⟨[80,114,111,99,101,115,115],10,1,false,[[99,111,110,116,101,120,116],[112,114,105,111,114,105,116,121],[110,101,120,116],[110,97,109,101],[119,97,107,101],[119,97,105,116,105,110,103],[114,101,115,117,108,116]]⟩,
 ⟨[83,101,109,97,112,104,111,114,101],10,1,false,[[115,105,103,110,97,108,115],[102,105,114,115,116],[108,97,115,116]]⟩,
 ⟨[69,120,99,101,112,116,105,111,110],10,1,false,[[109,101,115,115,97,103,101,84,101,120,116],[115,105,103,110,97,108,67,111,110,116,101,120,116],[104,97,110,100,108,101,114,67,111,110,116,101,120,116],[116,97,103]]⟩,
 ⟨[73,110,116,101,103,101,114],10,1,false,[]⟩]
def sels:List (List Nat):=[[100,111,101,115,78,111,116,85,110,100,101,114,115,116,97,110,100,58],
 [109,117,115,116,66,101,66,111,111,108,101,97,110],
 [99,97,110,110,111,116,82,101,116,117,114,110,58],
 [97,98,111,117,116,84,111,82,101,116,117,114,110,58,116,104,114,111,117,103,104,58],
 [118,97,108,117,101],
 [118,97,108,117,101,58],
 [118,97,108,117,101,58,118,97,108,117,101,58],
 [118,97,108,117,101,58,118,97,108,117,101,58,118,97,108,117,101,58],
 [100,111,73,116],
 [115,105,103,110,97,108],
 [117,110,119,105,110,100]]
def fixedN:Nat→Nat→Nat
 |0,_=>0
 |k+1,r=>if r=0 then 0 else match plans[r-10]? with |none=>0|some p=>p.fields.length+fixedN k p.sup
def writtenN(f fx:Nat)(i:Bool):Nat:=f+8*fx+(if i then 65536 else 0)
def allocR(h:Hp)(r n:Nat):Option Hp:=(allocP h 0 1 n).map fun x=>setR x.2 r x.1
def pairsP:List Nat→Hp→Option (List Nat×Hp)
 |[],h=>some ([],h)
 |r :: t,h=>(allocR h r 6).bind fun h1=>(allocP h1 0 1 6).bind fun m=>(pairsP t m.2).map fun x=>(m.1 :: x.1,x.2)
def wireP(h:Hp)(ms:List Nat)(i:Nat)(p:Plan):Hp:=
 let c:=wd h.rt (10+i)
 let m:=wd ms i
 let h:=putF h c 4 (2*writtenN p.fmt (fixedN 6 (10+i)) p.idx+1)
 let h:=putF h m 4 (2*49+1)
 let h:=putF h m 5 c
 let h:=putF h m 1 (wd h.rt 11)
 let h:=if p.sup=0 then h else putF (putF h c 1 (wd h.rt p.sup)) m 1 (wd ms (p.sup-10))
 setC (setC h c m) m (wd h.rt 12)
def wireAll(ms:List Nat):Nat→List Plan→Hp→Hp
 |_,[],h=>h
 |i,p :: t,h=>wireAll ms (i+1) t (wireP h ms i p)
def nameAll:Nat→List Plan→Hp→Option Hp
 |_,[],h=>some h
 |i,p :: t,h=>(internP h p.name).bind fun s=>(setGlobP (putF s.2 (wd s.2.rt (10+i)) 0 s.1) p.name (wd s.2.rt (10+i))).bind fun x=>nameAll (i+1) t x.2
def selAll:Nat→List (List Nat)→Hp→Option Hp
 |_,[],h=>some h
 |i,p :: t,h=>(internP h p).bind fun s=>selAll (i+1) t (putF s.2 (wd s.2.rt 8) i s.1)
def internAll:List (List Nat)→Hp→Option (List Nat×Hp)
 |[],h=>some ([],h)
 |s :: t,h=>(internP h s).bind fun x=>(internAll t x.2).map fun y=>(x.1 :: y.1,y.2)
def putAll(a:Nat):Nat→List Nat→Hp→Hp
 |_,[],h=>h
 |i,v :: t,h=>putAll a (i+1) t (putF h a i v)
def ownF(h:Hp)(c:Nat)(fs:List (List Nat)):Option Hp:=
 (internAll fs h).bind fun x=>(allocP x.2 (wd x.2.rt 20) 1 fs.length).map fun a=>putF (putAll a.1 0 x.1 a.2) c 3 a.1
def fieldAll:Nat→List Plan→Hp→Option Hp
 |_,[],h=>some h
 |i,p :: t,h=>if p.fields=[]then fieldAll (i+1) t h else(ownF h (wd h.rt (10+i)) p.fields).bind (fieldAll (i+1) t)
end Go.Proofs.YtbffpkmfhkphdaaGreatDoor.Limb
namespace Go.Proofs.YtbffpkmfhkphdaaGreatDoor.Limb
def B8(t:List Nat):Prop:= ∀x∈t,x<256
theorem B8.tail{a:Nat}{t:List Nat}(h:B8 (a :: t)):B8 t:=fun x hx=>h x (by simp[hx])
theorem B8.head{a:Nat}{t:List Nat}(h:B8 (a :: t)):a<256:=h a (by simp)
theorem packB_length: ∀t:List Nat,(packB t).length=(t.length+3)/4
 |[]=>rfl
 |[_]=>by simp[packB]
 |[_,_]=>by simp[packB]
 |[_,_,_]=>by simp[packB]
 |a :: b :: c :: d :: t=>by
  show(packB t).length+1=_
  rw[packB_length t];simp only[List.length_cons];omega
theorem packB_lim: ∀t:List Nat,B8 t→Lim (packB t)
 |[],_=>Lim.nil
 |[a],h=>Lim.cons (by have:=h.head;omega) Lim.nil
 |[a,b],h=>Lim.cons (by have:=h.head;have:=h.tail.head;omega) Lim.nil
 |[a,b,c],h=>Lim.cons (by have:=h.head;have:=h.tail.head;have:=h.tail.tail.head;omega) Lim.nil
 |a :: b :: c :: d :: t,h=>by
  refine Lim.cons (by have:=h.head;have:=h.tail.head;have:=h.tail.tail.head;have:=h.tail.tail.tail.head;omega) (packB_lim t h.tail.tail.tail.tail)
theorem by4_of{a b c d:Nat}(ha:a<256)(hb:b<256)(hc:c<256)(hd:d<256):by4 (a+256*b+65536*c+16777216*d)=[a,b,c,d]:=by
 unfold by4;rw[List.cons.injEq,List.cons.injEq,List.cons.injEq,List.cons.injEq];refine⟨?_,?_,?_,?_,rfl⟩<;>omega
theorem of_by4{a:Nat}(h:a<4294967296):a%256+256*(a/256%256)+65536*(a/65536%256)+16777216*(a/16777216%256)=a:=by omega
theorem unpB_length(l:List Nat):(unpB l).length=4*l.length:=by
 induction l with
 |nil=>rfl
 |cons a t ih=>show(by4 a++unpB t).length=_;rw[List.length_append,ih];show 4+_=_;simp only[List.length_cons];omega
theorem unpB_b8(l:List Nat):B8 (unpB l):=by
 induction l with
 |nil=>intro x hx;cases hx
 |cons a t ih=>
  intro x hx;rcases List.mem_append.1 (show x∈by4 a++unpB t from hx)with h|h
  ·unfold by4 at h;simp only[List.mem_cons,List.not_mem_nil,or_false]at h;rcases h with rfl|rfl|rfl|rfl<;>omega
  ·exact ih x h
theorem pack_unp(l:List Nat)(h:Lim l):packB (unpB l)=l:=by
 induction l with
 |nil=>rfl
 |cons a t ih=>
  show(a%256+256*(a/256%256)+65536*(a/65536%256)+16777216*(a/16777216%256)) :: packB (unpB t)=_
  rw[ih h.tail,of_by4 h.head]
theorem unp_pack: ∀t:List Nat,B8 t→unpB (packB t)=t++List.replicate (4*((t.length+3)/4)-t.length) 0
 |[],_=>rfl
 |[a],h=>by
  have e:=by4_of h.head (b:=0) (c:=0) (d:=0) (by decide) (by decide) (by decide);show by4 a++[]=_
  rw[show a+256*0+65536*0+16777216*0=a by omega]at e;rw[e,show 4*(([a].length+3)/4)-[a].length=3 by simp];rfl
 |[a,b],h=>by
  have e:=by4_of h.head h.tail.head (c:=0) (d:=0) (by decide) (by decide);show by4 (a+256*b)++[]=_
  rw[show a+256*b+65536*0+16777216*0=a+256*b by omega]at e;rw[e,show 4*(([a,b].length+3)/4)-[a,b].length=2 by simp];rfl
 |[a,b,c],h=>by
  have e:=by4_of h.head h.tail.head h.tail.tail.head (d:=0) (by decide);show by4 (a+256*b+65536*c)++[]=_
  rw[show a+256*b+65536*c+16777216*0=a+256*b+65536*c by omega]at e;rw[e,show 4*(([a,b,c].length+3)/4)-[a,b,c].length=1 by simp];rfl
 |a :: b :: c :: d :: t,h=>by
  show by4 (a+256*b+65536*c+16777216*d)++unpB (packB t)=_
  rw[by4_of h.head h.tail.head h.tail.tail.head h.tail.tail.tail.head,unp_pack t h.tail.tail.tail.tail]
  have e:4*(((a :: b :: c :: d :: t).length+3)/4)-(a :: b :: c :: d :: t).length=4*((t.length+3)/4)-t.length:=by
   simp only[List.length_cons];omega
  rw[e];rfl
theorem unpB_append(a b:List Nat):unpB (a++b)=unpB a++unpB b:=by
 induction a with
 |nil=>rfl
 |cons x t ih=>show by4 x++unpB (t++b)=by4 x++unpB t++unpB b;rw[ih,List.append_assoc]
theorem unpB_spare{l:List Nat}{s n:Nat}(hs:s≤3)(hn:l.length=n+1)(h:wd l n<2^(32-8*s)):(unpB l).drop (4*l.length-s)=List.replicate s 0:=by
 have e:l=l.take n++[wd l n]:=by rw[←take_wd (by omega),List.take_of_length_le (by omega)]
 have hl:(l.take n).length=n:=by rw[List.length_take];omega
 rw[hn,e,unpB_append,List.drop_append,unpB_length,hl,List.drop_of_length_le (by rw[unpB_length,hl];omega),List.nil_append];have e2:4*(n+1)-s-4*n=4-s:=by omega
 rw[e2];generalize wd l n=a at h;show(by4 a++[]).drop (4-s)=_
 rw[List.append_nil];unfold by4;have:s=0∨s=1∨s=2∨s=3:=by omega
 rcases this with rfl|rfl|rfl|rfl
 ·rfl
 ·show[a/16777216%256]=[0]
  have:a<16777216:=h;rw[show a/16777216%256=0 by omega]
 ·show[a/65536%256,a/16777216%256]=[0,0]
  have:a<65536:=h;rw[show a/16777216%256=0 by omega,show a/65536%256=0 by omega]
 ·show[a/256%256,a/65536%256,a/16777216%256]=[0,0,0]
  have:a<256:=h;rw[show a/16777216%256=0 by omega,show a/65536%256=0 by omega,show a/256%256=0 by omega]
theorem val_inj{a b:List Nat}(ha:Lim a)(hb:Lim b)(hl:a.length=b.length)(h:val a=val b):a=b:=
 ext_wd hl fun i _=>by rw[wd_val ha,wd_val hb,h]
theorem flds_length{h:Hp}(k:Good h){o:Nat}(ho:isO h o=true):(flds h o).length=(hdO h o).size:=by
 have:=k.inside _ (isO_iff.1 ho).2.2;unfold flds;rw[List.length_take,List.length_drop];show min (hd h (o/2)).size _=(hd h (o/2)).size
 omega
theorem flds_lim{h:Hp}(k:Good h)(o:Nat):Lim (flds h o):=(k.lim.drop _).take _
theorem flds_wd{h:Hp}{o i:Nat}(hi:i<(hdO h o).size):wd (flds h o) i=fld h o i:=by
 unfold flds fld;rw[wd_take hi,wd_drop]
theorem bytO_eq{h:Hp}(k:Good h){o:Nat}(ho:isO h o=true)(hf:(hdO h o).fmt=2){t:List Nat}(ht:B8 t)(hl:(hdO h o).len=t.length):bytO h o=t↔flds h o=packB t:=by
 have hb:=(isO_iff.1 ho).2.2;obtain⟨hok,_⟩:=k.ok _ hb;have hok:(hdO h o).Ok:=hok;have hln:=flds_length k ho;have hsp:=hok.spare;have hss:=hok.sp;have hlen:(hdO h o).len=4*(hdO h o).size-(hdO h o).spare:=by unfold Hd.len;rw[if_pos hf]
 have hsz:(t.length+3)/4=(hdO h o).size:=by omega
 have hspz:(unpB (flds h o)).drop (4*(flds h o).length-(hdO h o).spare)=List.replicate (hdO h o).spare 0:=by
  by_cases h0:(hdO h o).spare=0
  ·rw[h0,List.drop_of_length_le (by rw[unpB_length];omega)];rfl
  ·obtain⟨n,hn⟩: ∃n,(hdO h o).size=n+1:=⟨(hdO h o).size-1,by rcases hss with h1|h1<;>omega⟩;refine unpB_spare hsp (hln.trans hn) ?_;rw[flds_wd (by omega)];have:=k.spz _ hb hf (show 0<(hd h (o/2)).spare from Nat.pos_of_ne_zero h0);rw[show o/2+2+(hd h (o/2)).size=o/2+3+n by show o/2+2+(hdO h o).size=_;omega]at this;exact this
 constructor
 ·intro e
  have e2:unpB (flds h o)=t++List.replicate (hdO h o).spare 0:=by
   rw[←hspz,←e];unfold bytO;rw[hlen,hln];exact(List.take_append_drop _ _).symm
  have e3:=unp_pack t ht;rw[hsz,show 4*(hdO h o).size-t.length=(hdO h o).spare by omega,←e2]at e3;rw[←pack_unp _ (flds_lim k o),←e3,pack_unp _ (packB_lim t ht)]
 ·intro e;unfold bytO;rw[e,unp_pack t ht,hl,List.take_append_of_le_length (Nat.le_refl _),List.take_length]
end Go.Proofs.YtbffpkmfhkphdaaGreatDoor.Limb

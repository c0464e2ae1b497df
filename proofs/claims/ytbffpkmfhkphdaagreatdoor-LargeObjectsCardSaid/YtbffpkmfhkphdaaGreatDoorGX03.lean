/- The walk of big.less: a difference. The walks of big.word, big.low, big.clone. The walk of big.compare. The walk of big.left: a number times a power of 2. The walk of big.right: a number over a power of 2. The walks of big.length and big.short. The walk of big.times: a product. The kernel's calls over a heap that is packed into numbers: for evaluation. -/
import Derived.Test.YtbffpkmfhkphdaaGreatDoorGX02
import Derived.Test.YtbffpkmfhkphdaaGreatDoorGX01
import Derived.Test.YtbffpkmfhkphdaaGreatDoorGX00
set_option linter.unusedVariables false
set_option linter.unusedSimpArgs false
set_option maxRecDepth 1000000
set_option maxHeartbeats 6400000
namespace Go.Proofs.YtbffpkmfhkphdaaGreatDoor
open Go Lib Go.RowKit Limb
theorem less_step{xs ys zs:List Nat}{k c:Nat}(hz:k<zs.length)(hc:c≤1)(hx:wd xs k<4294967296)(hy:wd ys k<4294967296)(h:val (zs.take k)+val (ys.take k)=val (xs.take k)+c*W k):val ((zs.set k ((wd xs k+4294967296-wd ys k-c)%4294967296)).take (k+1))+val (ys.take (k+1))=val (xs.take (k+1))+(if wd xs k<wd ys k+c then 1 else 0)*W (k+1):=by
 rw[val_set_take _ hz,val_take_succ xs,val_take_succ ys,W_succ]
 have key:(wd xs k+4294967296-wd ys k-c)%4294967296+wd ys k+c=wd xs k+(if wd xs k<wd ys k+c then 1 else 0)*4294967296:=by
  split<;>omega
 have k2:=congrArg (fun t=>W k*t) key;simp only[Nat.mul_add]at k2
 have e1:W k*((if wd xs k<wd ys k+c then 1 else 0)*4294967296)=(if wd xs k<wd ys k+c then 1 else 0)*(4294967296*W k):=by
  rw[Nat.mul_comm,Nat.mul_assoc]
 rw[e1]at k2;have e2:W k*c=c*W k:=Nat.mul_comm _ _;omega
theorem sub_borrow(x y c:Nat)(hx:x<4294967296)(hy:y<4294967296)(hc:c≤1):IntKind.u64.wrap (IntKind.u64.wrap ((x:Int)-(y:Int))-(c:Int))/9223372036854775808=((if x<y+c then 1 else 0:Nat):Int):=by
 rw[IntKind.wrap_u64,IntKind.wrap_u64];split<;>omega
theorem sub_low(x y c:Nat)(hx:x<4294967296)(hy:y<4294967296)(hc:c≤1):IntKind.u64.wrap (IntKind.u64.wrap ((x:Int)-(y:Int))-(c:Int))%4294967296=(((x+4294967296-y-c)%4294967296:Nat):Int):=by
 rw[IntKind.wrap_u64,IntKind.wrap_u64];omega
theorem less_end{xs ys zs:List Nat}{n c:Nat}(hz:Lim zs)(hzl:zs.length=n)(hxn:xs.length=n)(hyn:ys.length≤n)(hle:val ys≤val xs)(h:val (zs.take n)+val (ys.take n)=val (xs.take n)+c*W n):val zs=val xs-val ys:=by
 rw[List.take_of_length_le (by omega),List.take_of_length_le (by omega),List.take_of_length_le (by omega)]at h;have:=val_lt hz;rw[hzl]at this;cases c with
 |zero=>omega
 |succ c=>rw[Nat.add_mul]at h;omega
theorem big_less(w:World)(a b:Option Addr)(xs ys:List Nat)(n m ca cb:Nat)(ha:Lay .u32 w a xs)(hb:Lay .u32 w b ys)(hx:Lim xs)(hy:Lim ys)(hn:n=xs.length)(hm:m=ys.length)(ln:n≤1099511627776)(hle:val ys≤val xs)(hmn:m≤n):Calls Tryz.prog 167 #[.slice a n ca,.slice b m cb] w fun e w'=>NatRes w w' e (val xs-val ys):=by
 obtain⟨b1,off1,hix,hcx,_⟩:=ha.use 115 60 Tryz.underlying115 size32 ca;rw[←hn]at hix hcx;have Hn:=hid hn;clear hn;have Hm:=hid hm;clear hm;have HX:=hid hix;clear hix;have HCX:=hid hcx;clear hcx;go_enter Tryz.func167,Tryz.ntmps167;go_wp2_with(at_make;refine wpList_make_row rfl _ _ _ rfl 60 (.int .u32 0) 4 Tryz.underlying115 info32 rfl _ _ _ _ n n rfl rfl rfl rfl (by omega) (by omega) (by omega) ?_;intro w1 g hg1 hg2 hrow hbel);go_loopw[6,14] (fun c i wr=> ∃(k cc:Nat) (zs:List Nat),k≤n∧i= .int .i64 k∧c= .int .u64 cc∧cc≤1∧zs.length=n∧Lim zs∧Row wr g 60 (nums .u32 zs)∧val (zs.take k)+val (ys.take k)=val (xs.take k)+cc*W k∧Below w.heap.size w wr) (fun _ i _=>n-(intOf i).toNat);case atStart=>exact⟨0,0,List.replicate n 0,by omega,rfl,rfl,by omega,by simp,Lim.replicate _ (by decide),by rw[nums_replicate];exact hrow,by simp[val],hbel⟩
 case round=>
  obtain⟨k,cc,zs,hk,rfl,rfl,hc1,hzl,hzlim,hr,hv,hbl⟩:=hrel;have h1:=hx.wd k;have h2:=hy.wd k;have Hzl:=hid hzl;clear hzl;have Hv:=hid hv;clear hv;by_cases hlt:k<n
  ·have hcell:=hr.cell (i:=k) (by rw[Hzl.out];omega);have hfk:=hr.free k;have ix:=fun q=>HX.out (wr.drewN q) .i64 k (by omega) (by omega)
   simp only[Int.toNat_natCast]at ix;have cx:wr.cell? ⟨b1,off1+k,none⟩=some (.int .u32 (wd xs k:Nat)):=HCX.out wr hbl k hlt;have hyb:=hb.below hbl;go_wp2;go_quiet ((go_at_call 237;exact Calls.quiet_of_same ((big_digit _ _ _ _ _ _ (hyb.drewN _) hy Hm.out (by omega) (by omega)).mono (fun e w' h=>⟨h.1,h.2.symm⟩))));go_wp2;go_roundw
   case rel=>exact⟨k+1,if wd xs k<wd ys k+cc then 1 else 0,zs.set k ((wd xs k+4294967296-wd ys k-cc)%4294967296),by omega,by go_num,by rw[sub_borrow _ _ _ h1 h2 hc1],by split<;>omega,by rw[List.length_set,Hzl.out],
    hzlim.set (by omega),(hr.drewN _).store _ _ _ (sub_low _ _ _ h1 h2 hc1),less_step (by rw[Hzl.out];exact hlt) hc1 h1 h2 Hv.out,below_store (below_drewN hbl _) hg1 _⟩
   case measure=>simp[intOf];omega
  ·obtain rfl:k=n:=by omega
   have hl2:=hr.lay;have hle2:=rep_val_le hzlim;have hval:=hid (less_end hzlim Hzl.out (by rw[Hn.out]) (by rw[←Hm.out];exact hmn) hle Hv.out);clear h1 h2;go_wp2_with(go_at_call 236;refine(big_norm _ _ zs _ _ (by assumption) (by assumption) (by rw[Hzl.out]) (by omega) (by omega)).mono ?_;rintro e w' ⟨rfl,rfl⟩);go_ret;rw[Hzl.out]at hle2;rw[←hval.out];exact⟨_,_,rfl,hle2,by omega,hl2.norm hzlim,hbl⟩
end Go.Proofs.YtbffpkmfhkphdaaGreatDoor
namespace Go.Proofs.YtbffpkmfhkphdaaGreatDoor
open Go Lib Go.RowKit Limb
theorem lay_two(w:World)(x y:Int)(p q:Nat)(e:TypeId)(hx:x=p)(hy:y=q):Lay .u32 (w.alloc (.cells #[.int .u32 x,.int .u32 y] e)) (some ⟨w.heap.size,0,none⟩) [p,q]:=by
 refine⟨w.heap.size,0,fun _=>⟨rfl,by rw[World.size_alloc];omega⟩,fun i hi=>?_⟩;rw[World.cell?_alloc_at _ _ _ _ rfl];subst hx hy
 match i,hi with
 |0,_=>rfl
 |1,_=>rfl
theorem big_word(w:World)(n:Nat)(hn:n<18446744073709551616):Calls Tryz.prog 238 #[.int .u64 n] w fun e w'=>NatRes w w' e n:=by
 have hlim:Lim [n%4294967296,n/4294967296]:=Lim.cons (by omega) (Lim.cons (by omega) Lim.nil);have hval:val [n%4294967296,n/4294967296]=n:=by simp only[val];omega
 have H:=hid hval;clear hval;go_enter Tryz.func238,Tryz.ntmps238;go_wp2_with(go_at_call 236;refine(big_norm _ _ [n%4294967296,n/4294967296] _ _ (lay_two _ _ _ _ _ _ (by simp) (by simp)) hlim (by simp) (by simp) (by simp)).mono ?_;rintro e w' ⟨rfl,rfl⟩);go_ret;rw[H.out];refine⟨_,_,rfl,?_,by decide,?_,(Below.refl _ _).alloc (Nat.le_refl _) _⟩
 ·have:=rep_val_le hlim;rw[H.out]at this;simpa using this
 ·have:=(lay_two w (n%4294967296:Nat) (n/4294967296:Nat) _ _ 60 rfl rfl).norm hlim;rw[H.out]at this;simpa using this
theorem big_low(w:World)(a:Option Addr)(l:List Nat)(n cap:Nat)(hlay:Lay .u32 w a l)(hlim:Lim l)(hn:n=l.length)(hm:n≤9223372036854775807):Calls Tryz.prog 161 #[.slice a n cap] w fun e w'=>e= .returned (.int .u64 (val l%18446744073709551616:Nat))∧w=w':=by
 obtain⟨b,off,hix,hcell,hb⟩:=hlay.use 115 60 Tryz.underlying115 size32 cap;have h0:=hlim.wd 0;have h1:=hlim.wd 1;rw[←hn]at hix hcell
 have e:val l%18446744073709551616=wd l 0+wd l 1*4294967296:=by
  have:=val_take hlim 2;rw[show W 2=18446744073709551616 from rfl]at this;rw[←this,val_take_succ,val_take_succ];simp[val,W_zero,W_one,Nat.mul_comm]
 rw[e];by_cases c1:n=0
 ·have z0:=wd_ge (l:=l) (i:=0) (by omega);have z1:=wd_ge (l:=l) (i:=1) (by omega);rw[z0,z1];clear hix hcell z0 z1 e h0 h1 hn hb;subst c1;go_enter Tryz.func161,Tryz.ntmps161;go_wp2;go_ret;exact⟨rfl,rfl⟩
 ·have x0:=hix w .i64 0 (by omega) (by omega);have y0:=hcell w (Below.refl _ _) 0 (by omega);by_cases c2:n=1
  ·have z1:=wd_ge (l:=l) (i:=1) (by omega);rw[z1];clear hix hcell z1 e h1 hn hb c1;subst c2;simp only[Nat.zero_mul,Nat.add_zero,Int.toNat_zero]at*
   go_enter Tryz.func161,Tryz.ntmps161;go_wp2;go_ret;exact⟨rfl,rfl⟩
  ·have x1:=hix w .i64 1 (by omega) (by omega);have y1:=hcell w (Below.refl _ _) 1 (by omega);have ho:=or_lo_hi (wd l 0) (wd l 1) h0 h1;clear hix hcell e hn hb;simp only[Nat.add_zero,Int.toNat_zero,Int.toNat_one]at x0 x1 y0;have g0:0<n:=by omega
   have g1:(1:Int)<n:=(by omega);clear c1 c2;go_enter Tryz.func161,Tryz.ntmps161;go_wp2;go_ret;exact⟨congrArg (fun x=>Ending.returned (.int .u64 x)) (by omega),rfl⟩
theorem big_clone(w:World)(a:Option Addr)(l:List Nat)(n cap:Nat)(hlay:Lay .u32 w a l)(hn:n=l.length)(hm:n≤1099511627776):Calls Tryz.prog 155 #[.slice a n cap] w fun e w'=> ∃a' cap',e= .returned (.slice a' n cap')∧n≤cap'∧Lay .u32 w' a' l∧Below w.heap.size w w':=by
 go_enter Tryz.func155,Tryz.ntmps155;go_wp2_with(at_builtin;refine wpList_append_lay rfl _ _ 115 rfl .u32 w.heap.size 60 (.int .u32 0) 4 Tryz.underlying115 info32 rfl _ 0 [] rfl (World.ownsRow_nil _ _ _ _) a n cap rfl l hlay hn (by omega) (by omega) (by omega) ?_;intro v' w1 hown hbel);obtain⟨a',cap',rfl,hc,hl,hlay',_⟩:=lay_of_owns (K:= .u32) (zs:=l) (by simpa using hown);go_ret;exact⟨a',cap',by simp,by omega,hlay',hbel⟩
end Go.Proofs.YtbffpkmfhkphdaaGreatDoor
namespace Go.Proofs.YtbffpkmfhkphdaaGreatDoor
open Go Lib Go.RowKit Limb
def cmpI(x y:Nat):Int:=if x<y then -1 else if x=y then 0 else 1
theorem cmp_len_lt{xs ys:List Nat}(hx:Lim xs)(hy:Lim ys)(ny:Norm ys)(h:xs.length<ys.length):cmpI (val xs) (val ys)= -1:=by
 have h1:=val_lt hx;have h2:W xs.length≤val ys:=by rw[←rep_length_lt,rep_val hy ny];exact h
 unfold cmpI;rw[if_pos (by omega)]
theorem cmp_len_gt{xs ys:List Nat}(hx:Lim xs)(hy:Lim ys)(nx:Norm xs)(h:ys.length<xs.length):cmpI (val xs) (val ys)=1:=by
 have h1:=val_lt hy;have h2:W ys.length≤val xs:=by rw[←rep_length_lt,rep_val hx nx];exact h
 unfold cmpI;rw[if_neg (by omega),if_neg (by omega)]
theorem cmp_at{xs ys:List Nat}(hx:Lim xs)(hy:Lim ys)(hl:xs.length=ys.length){k:Nat}(hk:k<xs.length)(hd:xs.drop (k+1)=ys.drop (k+1)):(wd xs k<wd ys k→cmpI (val xs) (val ys)= -1)∧(wd ys k<wd xs k→cmpI (val xs) (val ys)=1)∧(wd xs k=wd ys k→xs.drop k=ys.drop k):=by
 have ex:=val_take_drop xs (k+1) (by omega);have ey:=val_take_drop ys (k+1) (by omega);rw[val_snoc_wd (by omega)]at ex ey;have lx:=val_lt (hx.take k);have ly:=val_lt (hy.take k);rw[List.length_take,Nat.min_eq_left (by omega)]at lx ly;rw[hd]at ex;refine⟨fun h=>?_,fun h=>?_,fun h=>?_⟩
 ·have:=Nat.mul_le_mul_left (W k) (show wd xs k+1≤wd ys k from h);rw[Nat.mul_add]at this;unfold cmpI;rw[if_pos (by omega)]
 ·have:=Nat.mul_le_mul_left (W k) (show wd ys k+1≤wd xs k from h);rw[Nat.mul_add]at this;unfold cmpI;rw[if_neg (by omega),if_neg (by omega)]
 ·rw[List.drop_eq_getElem_cons hk,List.drop_eq_getElem_cons (by omega:k<ys.length),hd,←wd_lt hk,←wd_lt (by omega:k<ys.length),h]
theorem big_compare(w:World)(a b:Option Addr)(xs ys:List Nat)(n m ca cb:Nat)(ha:Lay .u32 w a xs)(hb:Lay .u32 w b ys)(hx:Lim xs)(hy:Lim ys)(nx:Norm xs)(ny:Norm ys)(hn:n=xs.length)(hm:m=ys.length)(ln:n≤9223372036854775807)(lm:m≤9223372036854775807):Calls Tryz.prog 182 #[.slice a n ca,.slice b m cb] w fun e w'=>e= .returned (.int .i64 (cmpI (val xs) (val ys)))∧∃q,w'=w.drewN q:=by
 rcases Nat.lt_trichotomy n m with h|h|h
 ·rw[cmp_len_lt hx hy ny (by omega)];clear hn hm;have hq:((n:Int) != (m:Int))=true:=by rw[bne_iff_ne];omega
  go_enter Tryz.func182,Tryz.ntmps182;go_wp2;go_ret;exact⟨rfl,0,rfl⟩
 ·obtain⟨b1,off1,hix,hcx,_⟩:=ha.use 115 60 Tryz.underlying115 size32 ca;obtain⟨b2,off2,hiy,hcy,_⟩:=hb.use 115 60 Tryz.underlying115 size32 cb;subst h;rw[←hn]at hix hcx;rw[←hm]at hiy hcy;have Hn:=hid hn;clear hn;have Hm:=hid hm;clear hm;have HX:=hid hix;clear hix;have HY:=hid hiy;clear hiy;have HCX:=hid hcx;clear hcx;have HCY:=hid hcy;clear hcy;go_enter Tryz.func182,Tryz.ntmps182;go_wp2;go_loopw[5] (fun i wr=> ∃(k:Nat),k≤n∧i= .int .i64 ((k:Int)-1)∧xs.drop k=ys.drop k∧∃q,wr=w.drewN q) (fun i _=>((intOf i)+1).toNat);case atStart=>exact⟨n,Nat.le_refl _,rfl,by rw[List.drop_of_length_le (by rw[Hn.out];exact Nat.le_refl _),List.drop_of_length_le (by rw[Hm.out];exact Nat.le_refl _)],0,rfl⟩
  case round=>
   obtain⟨k,hk,rfl,hd,q,rfl⟩:=hrel;have Hd:=hid hd;clear hd;by_cases h0:k=0
   ·have hv:Hid (xs=ys):=(by have:=Hd.out;rw[h0]at this;unfold Hid;simpa using this);subst h0;go_wp2;go_ret;exact⟨by rw[hv.out];simp[cmpI],q,rfl⟩
   ·obtain⟨j,rfl⟩: ∃j,k=j+1:=⟨k-1,by omega⟩;have hj:((j+1:Nat):Int)-1=(j:Int):=by omega
    rw[hj];clear hj h0;have ix:=fun q=>HX.out (w.drewN q) .i64 j (by omega) (by omega)
    have iy:=fun q=>HY.out (w.drewN q) .i64 j (by omega) (by omega)
    simp only[Int.toNat_natCast]at ix iy;have cx:=HCX.out w (Below.refl _ _) j (by omega);have cy:=HCY.out w (Below.refl _ _) j (by omega);have hat:=cmp_at hx hy (by rw[←Hn.out,←Hm.out]) (k:=j) (by rw[←Hn.out];omega) Hd.out;have h1:=hx.wd j;have h2:=hy.wd j;have HA:=hid hat;clear hat;rcases Nat.lt_trichotomy (wd xs j) (wd ys j)with h|h|h
    ·have hq:(((wd xs j:Nat):Int) != ((wd ys j:Nat):Int))=true:=(by rw[bne_iff_ne];omega);have hv:=hid (HA.out.1 h);go_wp2;go_quiet (fail);go_wp2;go_quiet (fail);go_wp2;go_ret;rw[hv.out];exact⟨rfl,by first |exact⟨_,rfl⟩|(simp only[World.drewN_drewN];exact⟨_,rfl⟩)⟩
    ·have hq:(((wd xs j:Nat):Int) != ((wd ys j:Nat):Int))=false:=(by rw[bne_eq_false_iff_eq];omega);have hv:=hid (HA.out.2.2 h);clear h;go_wp2;go_quiet (fail);go_wp2;go_roundw;case rel=>exact⟨j,by omega,rfl,hv.out,by first |exact⟨_,rfl⟩|(simp only[World.drewN_drewN];exact⟨_,rfl⟩)⟩
     case measure=>first |(simp[intOf];done)|(simp[intOf];omega)
    ·have hq:(((wd xs j:Nat):Int) != ((wd ys j:Nat):Int))=true:=(by rw[bne_iff_ne];omega);have hv:=hid (HA.out.2.1 h);go_wp2;go_quiet (fail);go_wp2;go_quiet (fail);go_wp2;go_ret;rw[hv.out];exact⟨rfl,by first |exact⟨_,rfl⟩|(simp only[World.drewN_drewN];exact⟨_,rfl⟩)⟩
 ·rw[cmp_len_gt hx hy nx (by omega)];clear hn hm;have hq:((n:Int) != (m:Int))=true:=by rw[bne_iff_ne];omega
  go_enter Tryz.func182,Tryz.ntmps182;go_wp2;go_ret;exact⟨rfl,0,rfl⟩
end Go.Proofs.YtbffpkmfhkphdaaGreatDoor
namespace Go.Proofs.YtbffpkmfhkphdaaGreatDoor
open Go Lib Go.RowKit Limb
theorem left_low{a r z:Nat}(hr:r<32)(hz:z<2^r):z+a*2^r%4294967296<4294967296∧a*2^r%4294967296%2^r=0:=by
 have e:4294967296=2^r*2^(32-r):=by rw[←Nat.pow_add,show r+(32-r)=32 from by omega]
 have h1:a*2^r%4294967296=2^r*(a%2^(32-r)):=by rw[e,Nat.mul_comm a,Nat.mul_mod_mul_left]
 rw[h1];have h2:a%2^(32-r)<2^(32-r):=Nat.mod_lt _ (Nat.pow_pos (by decide));have h3:=Nat.mul_le_mul_left (2^r) (show a%2^(32-r)+1≤2^(32-r)from h2);rw[←e,Nat.mul_add]at h3;exact⟨by omega,Nat.mul_mod_right _ _⟩
theorem left_or{a r z:Nat}(hr:r<32)(hz:z<2^r):bits .or .u32 (z:Int) (((a*2^r:Nat):Int)%4294967296)=((z+a*2^r%4294967296:Nat):Int):=by
 have h:=left_low (a:=a) hr hz;have e:((a*2^r:Nat):Int)%4294967296=((a*2^r%4294967296:Nat):Int):=by rw[Int.natCast_emod];rfl
 rw[e,u32_or_nat _ _ (by omega) (by omega),Nat.or_comm,nat_join r _ _ h.2 hz,Nat.add_comm]
theorem left_t{a r:Nat}(ha:a<4294967296)(hr:r<32):a*2^r/4294967296<2^r∧a*2^r<9223372036854775808∧2^r≤2147483648:=by
 have h1:2^r≤2^31:=Nat.pow_le_pow_right (by decide) (by omega);have h2:0<2^r:=Nat.pow_pos (by decide);have h3:a*2^r≤4294967295*2^r:=Nat.mul_le_mul_right _ (by omega);have e:2^31=2147483648:=rfl;exact⟨by omega,by omega,by omega⟩
theorem left_step{xs zs:List Nat}{d k r:Nat}(hz:d+k+1<zs.length)(h:val (zs.take (d+k+1))=val (xs.take k)*2^r*W d):val (((zs.set (d+k) (wd zs (d+k)+wd xs k*2^r%4294967296)).set (d+k+1) (wd xs k*2^r/4294967296)).take (d+(k+1)+1))=val (xs.take (k+1))*2^r*W d:=by
 rw[show d+(k+1)+1=d+k+1+1 from by omega,val_set_take _ (by rw[List.length_set];omega),val_set_take _ (by omega),val_take_succ xs];rw[val_take_succ]at h;have hd:=Nat.div_add_mod (wd xs k*2^r) 4294967296;generalize wd xs k*2^r/4294967296=q at*
 generalize wd xs k*2^r%4294967296=m at*
 have k2:=congrArg (fun t=>W (d+k)*t) hd;simp only[Nat.mul_add]at k2;have e1:W (d+k)*(4294967296*q)=W (d+k+1)*q:=by rw[W_succ,←Nat.mul_assoc,Nat.mul_comm (W _) 4294967296]
 have e2:(val (xs.take k)+W k*wd xs k)*2^r*W d=val (xs.take k)*2^r*W d+W (d+k)*(wd xs k*2^r):=by
  rw[Nat.add_mul,Nat.add_mul,W_add];congr 1;rw[Nat.mul_assoc (W k),Nat.mul_comm (W d),Nat.mul_right_comm]
 rw[Nat.mul_add];omega
theorem big_left(w:World)(a:Option Addr)(xs:List Nat)(n ca s:Nat)(ha:Lay .u32 w a xs)(hx:Lim xs)(hn:n=xs.length)(ln:n≤549755813888)(ls:s≤4294967296):Calls Tryz.prog 149 #[.slice a n ca,.int .u64 s] w fun e w'=>NatResC w w' e (val xs*2^s) (s/32+n+1):=by
 obtain⟨b1,off1,hix,hcx,_⟩:=ha.use 115 60 Tryz.underlying115 size32 ca;rw[←hn]at hix hcx;by_cases h0:n=0
 ·have hv:Hid (val xs*2^s=0):=by
   unfold Hid;rw[List.eq_nil_of_length_eq_zero (hn.symm.trans h0)];simp[val]
  have hres:NatResC w w (.returned (.slice none 0 0)) (val xs*2^s) (s/32+0+1):=(by rw[hv.out];exact⟨none,0,rfl,by simp[rep_zero],Nat.zero_le _,Lay.nil _ _ _,Below.refl _ _⟩);clear hix hcx hn;subst h0;go_enter Tryz.func149,Tryz.ntmps149;go_wp2;go_ret;exact hres
 ·have p1:0<n:=(by omega);have q1:((n:Int)==0)=false:=by rw[beq_eq_false_iff_ne];omega
  have Hn:=hid hn;clear hn;have HX:=hid hix;clear hix;have HCX:=hid hcx;clear hcx;clear h0;obtain⟨d,hd⟩: ∃d,d=s/32:=⟨_,rfl⟩;obtain⟨r,hr⟩: ∃r,r=s%32:=⟨_,rfl⟩;have e1:(s:Int)/32=d:=by omega
  have e2:(s:Int)%32=r:=(by omega);have d_le:d≤134217728:=by omega
  have r_lt:r<32:=(by omega);have Hd:=hid hd;clear hd;have Hr:=hid hr;clear hr;go_enter Tryz.func149,Tryz.ntmps149;go_wp2_with(at_make;refine wpList_make_row rfl _ _ _ rfl 60 (.int .u32 0) 4 Tryz.underlying115 info32 rfl _ _ _ _ (d+n+1) (d+n+1) rfl rfl (by simp) (by simp) (by omega) (by omega) (by omega) ?_;intro w1 g hg1 hg2 hrow hbel);go_loopw[27] (fun i wr=> ∃(k:Nat) (zs:List Nat),k≤n∧i= .int .i64 k∧zs.length=d+n+1∧Lim zs∧Row wr g 60 (nums .u32 zs)∧val (zs.take (d+k+1))=val (xs.take k)*2^r*W d∧wd zs (d+k)<2^r∧Below w.heap.size w wr) (fun i _=>n-(intOf i).toNat);case atStart=>exact⟨0,List.replicate (d+n+1) 0,by omega,rfl,by simp,Lim.replicate _ (by decide),by rw[nums_replicate];exact hrow,by simp[val,List.take_replicate,val_replicate],by rw[wd_replicate];exact Nat.pow_pos (by decide),hbel⟩
  case round=>
   obtain⟨k,zs,hk,rfl,hzl,hzlim,hrw,hv,hz,hbl⟩:=hrel;have h1:=hx.wd k;have h2:=hzlim.wd (d+k);have Hzl:=hid hzl;clear hzl;have Hv:=hid hv;clear hv;have Hz:=hid hz;clear hz;by_cases hlt:k<n
   ·have ix:=HX.out wr .i64 k (by omega) (by omega);rw[Int.toNat_natCast]at ix;have cx:=HCX.out wr hbl k hlt;have hcell:=hrw.cell (i:=d+k) (by rw[Hzl.out];omega);have hfk:=hrw.free (d+k);have hcell2:=hrw.cell (i:=d+k+1) (by rw[Hzl.out];omega);have hfk2:=hrw.free (d+k+1);have et:((wd xs k:Nat):Int)*2^r=((wd xs k*2^r:Nat):Int):=by rw[Int.natCast_mul,Int.natCast_pow];rfl
    have eo:=left_or (a:=wd xs k) r_lt Hz.out;have ht:=left_t h1 r_lt;have hll:=left_low (a:=wd xs k) r_lt Hz.out;obtain⟨t,hte⟩: ∃t,t=wd xs k*2^r:=⟨_,rfl⟩;have hcl:=left_step (xs:=xs) (by rw[Hzl.out];omega) Hv.out;rw[←hte]at et eo ht hll hcl;have HT:=hid hte;clear hte;obtain⟨ht1,ht2,ht3⟩:=ht;obtain⟨hll1,_⟩:=hll;have HC:=hid hcl;clear hcl;go_wp2;go_roundw
    case rel=>exact⟨k+1,(zs.set (d+k) (wd zs (d+k)+t%4294967296)).set (d+k+1) (t/4294967296),by omega,by go_num,by rw[List.length_set,List.length_set,Hzl.out],
     (hzlim.set hll1).set (by omega),(hrw.store _ _ _ (by first |rfl|omega)).store _ _ _ (by omega),HC.out,by rw[←Nat.add_assoc,wd_set (by rw[List.length_set,Hzl.out];omega),if_pos rfl];exact ht1,below_store (below_store hbl hg1 _) hg1 _⟩
    case measure=>simp[intOf];omega
   ·obtain rfl:k=n:=by omega
    have hl2:=hrw.lay;have hle2:=rep_val_le hzlim
    have hval:Hid (val zs=val xs*2^s):=by
     have h:=Hv.out;rw[List.take_of_length_le (by rw[Hzl.out];omega),List.take_of_length_le (by rw[Hn.out];omega),W_two,Nat.mul_assoc,←Nat.pow_add]at h;have hs:s=r+32*d:=by rw[Hr.out,Hd.out];omega
     unfold Hid;rw[h,hs]
    go_wp2_with(go_at_call 236;refine(big_norm _ _ zs _ _ (by assumption) (by assumption) (by rw[Hzl.out]) (by omega) (by omega)).mono ?_;rintro e w' ⟨rfl,rfl⟩);go_ret;rw[Hzl.out]at hle2;rw[←hval.out];exact⟨_,_,rfl,hle2,by rw[←Hd.out];exact Nat.le_refl _,hl2.norm hzlim,hbl⟩
end Go.Proofs.YtbffpkmfhkphdaaGreatDoor
namespace Go.Proofs.YtbffpkmfhkphdaaGreatDoor
open Go Lib Go.RowKit Limb
theorem toN2(a b:Nat):((a:Int)+(b:Int)).toNat=a+b:=by omega
theorem toN3(a b:Nat):((a:Int)+(b:Int)+1).toNat=a+b+1:=by omega
theorem right_step{xs zs:List Nat}{d r k p v:Nat}(hx:Lim xs)(hz:k<zs.length)(hr:r≤32)(hp:p=2^r)(hv:v=(wd xs (d+k)+wd xs (d+k+1)*4294967296)/p%4294967296)(h:val (zs.take k)=val xs/(2^r*W d)%W k):val ((zs.set k v).take (k+1))=val xs/(2^r*W d)%W (k+1):=by
 rw[val_set_take _ hz,W_div_mod,h,hv,hp,shr_word hx _ _ _ hr]
theorem right_end{xs zs:List Nat}{d m s r:Nat}(hx:Lim xs)(hl:d+m=xs.length)(hz:zs.length=m)(hs:2^s=2^r*W d)(h:val (zs.take m)=val xs/(2^r*W d)%W m):val zs=val xs/2^s:=by
 rw[List.take_of_length_le (by omega),Nat.mod_eq_of_lt,←hs]at h
 ·exact h
 ·have h1:=val_lt hx;rw[←hl,W_add]at h1;rw[Nat.div_lt_iff_lt_mul (Nat.mul_pos (Nat.pow_pos (by decide)) (W_pos d)),←Nat.mul_assoc,Nat.mul_right_comm,Nat.mul_comm (W m) (W d)];exact Nat.lt_of_lt_of_le h1 (Nat.le_mul_of_pos_right _ (Nat.pow_pos (by decide)))
theorem lost_iff{xs:List Nat}{d r L:Nat}(hx:Lim xs)(hd:d<xs.length)(hr:r≤32)(hv:L=0↔val (xs.take d)=0):(L|||wd xs d%2^r)=0↔val xs%(2^r*W d)=0:=by
 have e:wd xs d%2^r=val xs/W d%2^r:=by
  rw[wd_val hx,show 4294967296=2^r*2^(32-r)from by rw[←Nat.pow_add,show r+(32-r)=32 from by omega],Nat.mod_mul_right_mod]
 rw[Nat.or_eq_zero_iff,hv,e,val_take hx,Nat.mul_comm,Nat.mod_mul,Nat.add_eq_zero_iff,Nat.mul_eq_zero];have:=W_pos d;omega
theorem right_lost{L x r:Nat}(hL:L<4294967296)(hx:x<4294967296)(hr:r<32):bits .or .u32 (L:Int) (bits .and .u32 (x:Int) (((2^r:Nat):Int)-1))=((L|||x%2^r:Nat):Int)∧L|||x%2^r<4294967296:=by
 have h1:2^r≤2^31:=Nat.pow_le_pow_right (by decide) (by omega);have h2:0<2^r:=Nat.pow_pos (by decide);have e:2^31=2147483648:=rfl;have e1:(((2^r:Nat):Int)-1)=((2^r-1:Nat):Int):=by omega
 have h3:x%2^r<4294967296:=Nat.lt_of_le_of_lt (Nat.mod_le _ _) hx;rw[e1,u32_and_nat _ _ hx (by omega),Nat.and_two_pow_sub_one_eq_mod,u32_or_nat _ _ hL h3];exact⟨rfl,Nat.or_lt_two_pow (n:=32) hL h3⟩
theorem big_right(w:World)(a:Option Addr)(xs:List Nat)(n ca s:Nat)(ha:Lay .u32 w a xs)(hx:Lim xs)(nx:Norm xs)(hn:n=xs.length)(hca:n≤ca)(ln:n≤549755813888)(ls:s≤4294967296):Calls Tryz.prog 150 #[.slice a n ca,.int .u64 s] w fun e w'=> ∃a' cap',e= .returned (.tuple #[.slice a' (rep (val xs/2^s)).length cap',.bool (decide (val xs%2^s≠0))])∧(rep (val xs/2^s)).length≤cap'∧Lay .u32 w' a' (rep (val xs/2^s))∧Below w.heap.size w w':=by
 obtain⟨b1,off1,hix,hcx,_⟩:=ha.use 115 60 Tryz.underlying115 size32 ca;rw[←hn]at hix hcx;obtain⟨d,hd⟩: ∃d,d=s/32:=⟨_,rfl⟩;obtain⟨r,hr⟩: ∃r,r=s%32:=⟨_,rfl⟩;have e1:(s:Int)/32=d:=by omega
 have e2:(s:Int)%32=r:=by omega
 have d_le:d≤134217728:=by omega
 have r_lt:r<32:=by omega
 have hs:2^s=2^r*W d:=by rw[hr,hd];exact pow_split s
 by_cases h0:n≤d
 ·have hq:decide (n≤d)=true:=by simp;omega
  have hlt:val xs<2^s:=by
   rw[hs];have h1:=val_lt hx;have h2:=W_mono (show xs.length≤d by omega);have h3:=Nat.le_mul_of_pos_left (W d) (Nat.pow_pos (n:=r) (show 0<2 by decide));omega
  have hb:decide (val xs%2^s≠0)=decide (0<n):=by
   rw[Nat.mod_eq_of_lt hlt,Bool.eq_iff_iff,decide_eq_true_eq,decide_eq_true_eq,hn]
   have h4:xs.length=0↔val xs=0:=by
    have:=rep_length_zero (n:=val xs);rwa [rep_val hx nx]at this
   omega
  have hv0:val xs/2^s=0:=Nat.div_eq_of_lt hlt;have HB:=hid hb;clear hb;have HV:=hid hv0;clear hv0;clear hn hd hr hs hlt hix hcx;go_enter Tryz.func150,Tryz.ntmps150;go_wp2;go_ret2;rw[HB.out,HV.out];exact⟨none,0,rfl,by simp[rep_zero],Lay.nil _ _ _,Below.refl _ _⟩
 ·have hdn:d<n:=(by omega);obtain⟨m,hm1,hm2⟩: ∃m,n≤d+m∧d+m≤n:=⟨n-d,by omega,by omega⟩;obtain⟨b3,off3,hit,hct,_⟩:=(ha.take d).use 115 60 Tryz.underlying115 size32 ca;rw[List.length_take,Nat.min_eq_left (by omega)]at hit hct;have HT:=hid hit;clear hit;have HCT:=hid hct;clear hct;have Hn:=hid hn;clear hn;have HX:=hid hix;clear hix;have HCX:=hid hcx;clear hcx;have Hd:=hid hd;clear hd;have Hr:=hid hr;clear hr;have Hs:=hid hs;clear hs;have hd2:d≤ca:=by omega
  have hq:decide (n≤d)=false:=(by simp;omega);clear h0;go_enter Tryz.func150,Tryz.ntmps150;go_wp2;simp only[e2];go_loop[8,31] (fun L i=> ∃(k LL:Nat),k≤d∧i= .int .i64 k∧L= .int .u32 LL∧LL<4294967296∧(LL=0↔val (xs.take k)=0)) (fun _ i=>d-(intOf i).toNat);case atStart=>exact⟨0,0,by omega,rfl,rfl,by omega,by simp[val]⟩
  case round=>
   obtain⟨k,L,hk,rfl,rfl,hL,hv⟩:=hrel;have h1:=hx.wd k;have Hv:=hid hv;clear hv;by_cases hlt:k<d
   ·have ix:=HT.out w .i64 k (by omega) (by omega);rw[Int.toNat_natCast]at ix;have cx:=HCT.out w (Below.refl _ _) k (by omega);rw[wd_take hlt]at cx;have eo:=u32_or_nat L (wd xs k) hL h1;go_wp2;go_round;case rel=>exact⟨k+1,L|||wd xs k,by omega,by go_num,rfl,Nat.or_lt_two_pow (n:=32) hL h1,by rw[Nat.or_eq_zero_iff,Hv.out,val_take_succ,Nat.add_eq_zero_iff,Nat.mul_eq_zero];have:=W_pos k;omega⟩
    case measure=>simp[intOf];omega
   ·obtain rfl:k=d:=by omega
    clear h1;have h1:=hx.wd k;have ix:=HX.out w .i64 k (by omega) (by omega);rw[Int.toNat_natCast]at ix;have cx:=HCX.out w (Below.refl _ _) k hdn;obtain⟨eo,hL2⟩:=right_lost hL h1 r_lt;obtain⟨L2,hL2e⟩: ∃L2,L2=L|||wd xs k%2^r:=⟨_,rfl⟩
    rw[←hL2e]at eo hL2;have HL2:=hid hL2e;clear hL2e;have ep:(2:Int)^r=((2^r:Nat):Int):=by rw[Int.natCast_pow];rfl
    have hp31:2^r≤2147483648:=Nat.pow_le_pow_right (n:=2) (by decide) (show r≤31 by omega);have hp0:0<2^r:=Nat.pow_pos (by decide);obtain⟨p,hpe⟩: ∃p,p=2^r:=⟨_,rfl⟩;rw[←hpe]at eo ep hp31 hp0;have HP:=hid hpe;clear hpe;go_wp2_with(at_make;refine wpList_make_row rfl _ _ _ rfl 60 (.int .u32 0) 4 Tryz.underlying115 info32 rfl _ _ _ _ m m rfl rfl (by omega) (by omega) (by omega) (by omega) (by omega) ?_;intro w1 g hg1 hg2 hrow hbel);go_loopw[56] (fun i wr=> ∃(j:Nat) (zs:List Nat),j≤m∧i= .int .i64 j∧zs.length=m∧Lim zs∧Row wr g 60 (nums .u32 zs)∧val (zs.take j)=val xs/(2^r*W k)%W j∧Below w.heap.size w wr) (fun i _=>m-(intOf i).toNat);case atStart=>exact⟨0,List.replicate m 0,by omega,rfl,by simp,Lim.replicate _ (by decide),by rw[nums_replicate];exact hrow,by simp[val,W_zero,Nat.mod_one],hbel⟩
    case round=>
     obtain⟨j,zs,hj,rfl,hzl,hzlim,hrw,hv2,hbl⟩:=hrel;have Hzl:=hid hzl;clear hzl;have Hv2:=hid hv2;clear hv2;have hxa:=ha.below hbl;clear ix cx;by_cases hlt2:j<m
     ·have g1:=hx.wd (k+j);have g2:=hx.wd (k+j+1);have hcell:=hrw.cell (i:=j) (by rw[Hzl.out];omega);have hfk:=hrw.free j;have eo2:=or_lo_hi _ _ g1 g2;go_wp2_with(go_at_call 237;refine(big_digit _ _ xs _ _ _ hxa hx Hn.out (by omega) (by omega)).mono ?_;simp only[toN2,toN3];rintro e w' ⟨rfl,rfl⟩);go_roundw
      case rel=>exact⟨j+1,zs.set j ((wd xs (k+j)+wd xs (k+j+1)*4294967296)/p%4294967296),by omega,by go_num,by rw[List.length_set,Hzl.out],
       hzlim.set (by omega),hrw.store _ _ _ (by rw[Int.natCast_emod,Int.natCast_ediv,Int.natCast_add,Int.natCast_mul];rfl),right_step hx (by rw[Hzl.out];exact hlt2) (by omega) HP.out rfl Hv2.out,below_store hbl hg1 _⟩
      case measure=>simp[intOf];omega
     ·obtain rfl:j=m:=by omega
      have hl2:=hrw.lay;have hle2:=rep_val_le hzlim;have hval:=hid (right_end (m:=j) hx (by rw[←Hn.out];omega) Hzl.out Hs.out Hv2.out);have hlo:=hid (lost_iff (r:=r) hx (by rw[←Hn.out];omega) (by omega) Hv.out);go_wp2_with(go_at_call 236;refine(big_norm _ _ zs _ _ (by assumption) (by assumption) (by rw[Hzl.out]) (by omega) (by omega)).mono ?_;rintro e w' ⟨rfl,rfl⟩);go_ret2;rw[Hzl.out]at hle2;rw[←hval.out,Hs.out];refine⟨_,_,congrArg Ending.returned (congrArg Value.tuple ?_),hle2,hl2.norm hzlim,hbl⟩
      have hb:(decide (val xs%(2^r*W k)≠0))=((L2:Int) != 0):=by
       rw[Bool.eq_iff_iff];have:=hlo.out;rw[←HL2.out]at this;simp only[decide_eq_true_eq,bne_iff_ne,ne_eq];omega
      rw[hb];rfl
end Go.Proofs.YtbffpkmfhkphdaaGreatDoor
namespace Go.Proofs.YtbffpkmfhkphdaaGreatDoor
open Go Lib Go.RowKit Limb
theorem big_length(w:World)(a:Option Addr)(l:List Nat)(n cap:Nat)(hlay:Lay .u32 w a l)(hlim:Lim l)(hnorm:Norm l)(hn:n=l.length)(hm:n≤1099511627776):Calls Tryz.prog 158 #[.slice a n cap] w fun e w'=>e= .returned (.int .i64 (bitsN (val l):Nat))∧w=w':=by
 obtain⟨b,off,hix,hcell,hb⟩:=hlay.use 115 60 Tryz.underlying115 size32 cap;rw[←hn]at hix hcell;by_cases h:n=0
 ·have hv:bitsN (val l)=0:=(by rw[List.eq_nil_of_length_eq_zero (hn.symm.trans h)];rfl);have HV:=hid hv;clear hv;clear hix hcell hn;subst h;go_enter Tryz.func158,Tryz.ntmps158;go_wp2;go_ret;rw[HV.out];exact⟨rfl,rfl⟩
 ·obtain⟨k,rfl⟩: ∃k,n=k+1:=⟨n-1,by omega⟩;have hx:=hix w .i64 k (by omega) (by omega);have hc:=hcell w (Below.refl _ _) k (by omega);have hw:=hlim.wd k;rw[Int.toNat_natCast]at hx;have hne:=norm_last hnorm hn.symm;have hv:=hid (bitsN_val hlim hn.symm hne);obtain⟨_,_,hb32,_⟩:=bitLen32 hw;clear hix hcell hn hne h;have e1:(((k+1:Nat):Int)==0)=false:=by rw[beq_eq_false_iff_ne];omega
  go_enter Tryz.func158,Tryz.ntmps158;go_wp2_with(go_at_call 240;refine(Tryz.bits_Len32 _ _ (by omega) (by omega)).mono ?_;rw[Int.toNat_natCast];rintro e w' ⟨rfl,hw'⟩;subst hw');go_ret;rw[hv.out];exact⟨congrArg (fun x=>Ending.returned (.int .i64 x)) (by omega),rfl⟩
theorem short_step{xs qs:List Nat}{k d r:Nat}(hd:0<d)(hxl:k+1≤xs.length)(hql:qs.length=xs.length)(h:val (xs.drop (k+1))=d*val (qs.drop (k+1))+r):val (xs.drop k)=d*val ((qs.set k ((r*4294967296+wd xs k)/d)).drop k)+(r*4294967296+wd xs k)%d:=by
 have e1:(qs.set k ((r*4294967296+wd xs k)/d)).drop k=(r*4294967296+wd xs k)/d :: qs.drop (k+1):=by
  rw[List.drop_eq_getElem_cons (by rw[List.length_set];omega),List.getElem_set_self,List.drop_set_of_lt (by omega)]
 rw[e1,List.drop_eq_getElem_cons (by omega:k<xs.length),←wd_lt (by omega),val,val,h];have h2:=Nat.div_add_mod (r*4294967296+wd xs k) d;generalize(r*4294967296+wd xs k)/d=q at*
 generalize(r*4294967296+wd xs k)%d=m at*
 rw[Nat.mul_add,Nat.mul_left_comm,Nat.mul_add];omega
theorem big_short_row(w:World)(a:Option Addr)(xs:List Nat)(n ca d:Nat)(ha:Lay .u32 w a xs)(hx:Lim xs)(hn:n=xs.length)(ln:n≤1099511627776)(hd0:0<d)(hd:d<4294967296):Calls Tryz.prog 241 #[.slice a n ca,.int .u32 d] w fun e w'=> ∃a' cap',e= .returned (.tuple #[.slice a' (rep (val xs/d)).length cap',.int .u32 (val xs%d:Nat)])∧(rep (val xs/d)).length≤cap'∧cap'≤4398046511104∧Lay .u32 w' a' (rep (val xs/d))∧Below w.heap.size w w'∧∃g cs,a'=some ⟨g,0,none⟩∧Row w' g 60 cs:=by
 obtain⟨b1,off1,hix,hcx,_⟩:=ha.use 115 60 Tryz.underlying115 size32 ca;rw[←hn]at hix hcx;have Hn:=hid hn;clear hn;have HX:=hid hix;clear hix;have HCX:=hid hcx;clear hcx;go_enter Tryz.func241,Tryz.ntmps241;go_wp2_with(at_make;refine wpList_make_row rfl _ _ _ rfl 60 (.int .u32 0) 4 Tryz.underlying115 info32 rfl _ _ _ _ n n rfl rfl rfl rfl (by omega) (by omega) (by omega) ?_;intro w1 g hg1 hg2 hrow hbel);go_loopw[7,8] (fun r i wr=> ∃(k rr:Nat) (qs:List Nat),k≤n∧i= .int .i64 ((k:Int)-1)∧r= .int .u64 rr∧rr<d∧qs.length=n∧Lim qs∧Row wr g 60 (nums .u32 qs)∧val (xs.drop k)=d*val (qs.drop k)+rr∧Below w.heap.size w wr) (fun _ i _=>(intOf i+1).toNat);case atStart=>exact⟨n,0,List.replicate n 0,by omega,rfl,rfl,hd0,by simp,Lim.replicate _ (by decide),by rw[nums_replicate];exact hrow,by rw[List.drop_of_length_le (by rw[Hn.out];exact Nat.le_refl _),List.drop_of_length_le (by simp)];rfl,hbel⟩
 case round=>
  obtain⟨k,r,qs,hk,rfl,rfl,hr,hql,hqlim,hrw,hv,hbl⟩:=hrel;have Hql:=hid hql;clear hql;have Hv:=hid hv;clear hv;by_cases h0:k=0
  ·subst h0;have hl2:=hrw.lay;have hle2:=rep_val_le hqlim;have h3:=Hv.out;simp only[List.drop_zero]at h3;have hq:=hid (show val qs=val xs/d by rw[h3,Nat.mul_add_div hd0,Nat.div_eq_of_lt hr,Nat.add_zero]);have hm:=hid (show r=val xs%d by rw[h3,Nat.mul_add_mod,Nat.mod_eq_of_lt hr]);clear h3;go_wp2_with(go_at_call 236;refine(big_norm _ _ qs _ _ (by assumption) (by assumption) (by rw[Hql.out]) (by omega) (by omega)).mono ?_;rintro e w' ⟨rfl,rfl⟩);go_ret2;rw[Hql.out]at hle2;rw[←hq.out,←hm.out];exact⟨_,_,rfl,hle2,by omega,hl2.norm hqlim,hbl,_,_,rfl,hrw⟩
  ·obtain⟨j,rfl⟩: ∃j,k=j+1:=⟨k-1,by omega⟩;have hj:((j+1:Nat):Int)-1=(j:Int):=by omega
   rw[hj];clear hj h0;have ix:=HX.out wr .i64 j (by omega) (by omega);rw[Int.toNat_natCast]at ix;have cx:=HCX.out wr hbl j (by omega);have hcell:=hrw.cell (i:=j) (by rw[Hql.out];omega);have hfk:=hrw.free j;have h1:=hx.wd j;have eo:=or_hi_lo (wd xs j) r h1 (by omega);have hst:=hid (short_step hd0 (by rw[←Hn.out];omega) (by rw[Hql.out,Hn.out]) Hv.out);obtain⟨t,ht⟩: ∃t,t=r*4294967296+wd xs j:=⟨_,rfl⟩;have et:(r:Int)*4294967296+(wd xs j:Nat)=t:=by omega
   have htlt:t/d<4294967296:=(by rw[Nat.div_lt_iff_lt_mul hd0];have:=Nat.mul_le_mul_right 4294967296 (show r+1≤d from hr);omega);have htm:t%d<d:=Nat.mod_lt _ hd0;have ht64:t<18446744073709551616:=by omega
   rw[et]at eo;rw[←ht]at hst;have HT:=hid ht;clear ht;have q0:(0:Int)≤(t:Int)/(d:Int):=Int.ediv_nonneg (by omega) (by omega);have q1:(t:Int)/(d:Int)<4294967296:=by rw[←Int.natCast_ediv];omega
   have q2:(0:Int)≤(t:Int)%(d:Int):=Int.emod_nonneg _ (by omega);have q3:(t:Int)%(d:Int)<(d:Int):=by rw[←Int.natCast_emod];omega
   have hdz:d≠0:=(by omega);clear et;go_wp2;go_roundw;case rel=>exact⟨j,t%d,qs.set j (t/d),by omega,by go_num,by rw[Int.natCast_emod],htm,by rw[List.length_set,Hql.out],hqlim.set htlt,hrw.store _ _ _ (by rw[Int.natCast_ediv]),hst.out,below_store hbl hg1 _⟩
   case measure=>first |(simp[intOf];done)|(simp[intOf];omega)
theorem big_short(w:World)(a:Option Addr)(xs:List Nat)(n ca d:Nat)(ha:Lay .u32 w a xs)(hx:Lim xs)(hn:n=xs.length)(ln:n≤1099511627776)(hd0:0<d)(hd:d<4294967296):Calls Tryz.prog 241 #[.slice a n ca,.int .u32 d] w fun e w'=> ∃a' cap',e= .returned (.tuple #[.slice a' (rep (val xs/d)).length cap',.int .u32 (val xs%d:Nat)])∧(rep (val xs/d)).length≤cap'∧cap'≤4398046511104∧Lay .u32 w' a' (rep (val xs/d))∧Below w.heap.size w w':=
 (big_short_row w a xs n ca d ha hx hn ln hd0 hd).mono fun _ _ ⟨a',c',h1,h2,h3,h4,h5,_⟩=>⟨a',c',h1,h2,h3,h4,h5⟩
end Go.Proofs.YtbffpkmfhkphdaaGreatDoor
namespace Go.Proofs.YtbffpkmfhkphdaaGreatDoor
open Go Lib Go.RowKit Limb
theorem times_in{zs ys:List Nat}{i j c a S:Nat}(hz:i+j<zs.length)(h:val (zs.take (i+j))+c*W (i+j)=S+a*val (ys.take j)*W i):val ((zs.set (i+j) ((a*wd ys j+wd zs (i+j)+c)%4294967296)).take (i+(j+1)))+(a*wd ys j+wd zs (i+j)+c)/4294967296*W (i+(j+1))=S+wd zs (i+j)*W (i+j)+a*val (ys.take (j+1))*W i:=by
 rw[←Nat.add_assoc,val_set_take _ hz,val_take_succ,W_succ];have hd:=Nat.div_add_mod (a*wd ys j+wd zs (i+j)+c) 4294967296;generalize(a*wd ys j+wd zs (i+j)+c)/4294967296=q at*
 generalize(a*wd ys j+wd zs (i+j)+c)%4294967296=r at*
 have k2:=congrArg (fun t=>W (i+j)*t) hd;simp only[Nat.mul_add]at k2;have e1:W (i+j)*(4294967296*q)=q*(4294967296*W (i+j)):=by rw[Nat.mul_comm,Nat.mul_right_comm,Nat.mul_comm (4294967296*_)]
 have e2:a*(val (ys.take j)+W j*wd ys j)*W i=a*val (ys.take j)*W i+W (i+j)*(a*wd ys j):=by
  rw[Nat.mul_add,Nat.add_mul,W_add];congr 1;rw[Nat.mul_left_comm a,Nat.mul_right_comm,Nat.mul_comm (W j) (W i)]
 have e3:W (i+j)*c=c*W (i+j):=Nat.mul_comm _ _;have e4:W (i+j)*wd zs (i+j)=wd zs (i+j)*W (i+j):=Nat.mul_comm _ _;omega
theorem times_in'{zs zs0 ys:List Nat}{i j c a:Nat}(hz:i+j<zs.length)(hw:wd zs (i+j)=wd zs0 (i+j))(h:val (zs.take (i+j))+c*W (i+j)=val (zs0.take (i+j))+a*val (ys.take j)*W i):val ((zs.set (i+j) ((a*wd ys j+wd zs (i+j)+c)%4294967296)).take (i+(j+1)))+(a*wd ys j+wd zs (i+j)+c)/4294967296*W (i+(j+1))=val (zs0.take (i+(j+1)))+a*val (ys.take (j+1))*W i:=by
 rw[times_in hz h,←Nat.add_assoc,val_take_succ zs0,hw,Nat.mul_comm (wd zs0 _)]
theorem times_out{zs zs0 xs ys:List Nat}{i m c:Nat}(hm:m=ys.length)(hz:i+m<zs.length)(hi:i<xs.length)(h0:val (zs0.take (i+m))=val (xs.take i)*val ys)(h:val (zs.take (i+m))+c*W (i+m)=val (zs0.take (i+m))+wd xs i*val (ys.take m)*W i):val ((zs.set (i+m) c).take (i+1+m))=val (xs.take (i+1))*val ys:=by
 rw[show i+1+m=i+m+1 from by omega,val_set_take _ hz,Nat.mul_comm (W _),h,h0,hm,List.take_length,val_take_succ xs,Nat.add_mul,Nat.mul_comm (W i),Nat.mul_right_comm]
theorem big_times(w:World)(a b:Option Addr)(xs ys:List Nat)(n m ca cb:Nat)(ha:Lay .u32 w a xs)(hb:Lay .u32 w b ys)(hx:Lim xs)(hy:Lim ys)(hn:n=xs.length)(hm:m=ys.length)(ln:n≤1099511627776)(lm:m≤1099511627776):Calls Tryz.prog 163 #[.slice a n ca,.slice b m cb] w fun e w'=>NatRes w w' e (val xs*val ys):=by
 obtain⟨b1,off1,hix,hcx,_⟩:=ha.use 115 60 Tryz.underlying115 size32 ca;obtain⟨b2,off2,hiy,hcy,_⟩:=hb.use 115 60 Tryz.underlying115 size32 cb;rw[←hn]at hix hcx;rw[←hm]at hiy hcy;by_cases h0:n=0∨m=0
 ·have hv:Hid (val xs*val ys=0):=by
   unfold Hid;rcases h0 with h|h
   ·rw[List.eq_nil_of_length_eq_zero (hn.symm.trans h)];simp[val]
   ·rw[List.eq_nil_of_length_eq_zero (hm.symm.trans h)];simp[val]
  have hres:NatRes w w (.returned (.slice none 0 0)) (val xs*val ys):=(by rw[hv.out];exact⟨none,0,rfl,by simp[rep_zero],by decide,Lay.nil _ _ _,Below.refl _ _⟩);clear hix hiy hcx hcy hn hm;rcases h0 with h|h
  ·subst h;go_enter Tryz.func163,Tryz.ntmps163;go_wp2;go_ret;exact hres
  ·subst h;go_enter Tryz.func163,Tryz.ntmps163;go_wp2;all_goals go_ret
   all_goals exact hres
 ·have p1:0<n:=(by omega);have p2:0<m:=by omega
  have q1:((n:Int)==0)=false:=(by rw[beq_eq_false_iff_ne];omega);have q2:((m:Int)==0)=false:=by rw[beq_eq_false_iff_ne];omega
  have Hn:=hid hn;clear hn;have Hm:=hid hm;clear hm;have HX:=hid hix;clear hix;have HCX:=hid hcx;clear hcx;have HY:=hid hiy;clear hiy;have HCY:=hid hcy;clear hcy;clear h0;go_enter Tryz.func163,Tryz.ntmps163;go_wp2_with(at_make;refine wpList_make_row rfl _ _ _ rfl 60 (.int .u32 0) 4 Tryz.underlying115 info32 rfl _ _ _ _ (n+m) (n+m) rfl rfl (by simp) (by simp) (by omega) (by omega) (by omega) ?_;intro w1 g hg1 hg2 hrow hbel);go_loopw[28] (fun i wr=> ∃(k:Nat) (zs:List Nat),k≤n∧i= .int .i64 k∧zs.length=n+m∧Lim zs∧Row wr g 60 (nums .u32 zs)∧val (zs.take (k+m))=val (xs.take k)*val ys∧Below w.heap.size w wr) (fun i _=>n-(intOf i).toNat);case atStart=>exact⟨0,List.replicate (n+m) 0,by omega,rfl,by simp,Lim.replicate _ (by decide),by rw[nums_replicate];exact hrow,by simp[val,List.take_replicate,val_replicate],hbel⟩
  case round=>
   obtain⟨k,zs0,hk,rfl,hzl,hzlim,hr,hv,hbl⟩:=hrel;have h1:=hx.wd k;have Hzl:=hid hzl;clear hzl;have Hv:=hid hv;clear hv;by_cases hlt:k<n
   ·have ix:=HX.out wr .i64 k (by omega) (by omega);rw[Int.toNat_natCast]at ix;have cx:=HCX.out wr hbl k hlt;obtain⟨wo,hwo⟩: ∃wo:World,wo=wr:=⟨_,rfl⟩;subst hwo;go_wp2;go_loopw[8,35] (fun c j wr=> ∃(jj cc:Nat) (zs:List Nat),jj≤m∧j= .int .i64 jj∧c= .int .u64 cc∧cc<4294967296∧zs.length=n+m∧Lim zs∧Row wr g 60 (nums .u32 zs)∧(∀i,k+jj≤i→wd zs i=wd zs0 i)∧val (zs.take (k+jj))+cc*W (k+jj)=val (zs0.take (k+jj))+wd xs k*val (ys.take jj)*W k∧Below w.heap.size w wr) (fun _ j _=>m-(intOf j).toNat);case atStart=>exact⟨0,0,zs0,by omega,rfl,rfl,by omega,Hzl.out,hzlim,hr,fun _ _=>rfl,by simp[val],hbl⟩
    case round=>
     obtain⟨j,c,zs,hj,rfl,rfl,hc,hzl2,hzlim2,hr2,hsame,hv2,hbl2⟩:=hrel;have h2:=hy.wd j;have h3:=hzlim2.wd (k+j);have Hzl2:=hid hzl2;clear hzl2;have Hv2:=hid hv2;clear hv2;have Hsame:=hid hsame;clear hsame;by_cases hjt:j<m
     ·have iy:=HY.out wr .i64 j (by omega) (by omega);rw[Int.toNat_natCast]at iy;have cy:=HCY.out wr hbl2 j hjt;have hcell:=hr2.cell (i:=k+j) (by rw[Hzl2.out];omega);have hfk:=hr2.free (k+j);have hp:=prod_bound (wd xs k) (wd ys j) (by omega) (by omega) (by omega) (by omega);obtain⟨hp1,hp2⟩:=hp;go_wp2
      have hb3:wd xs k*wd ys j+wd zs (k+j)+c<4294967296*4294967296:=by
       have:=Nat.mul_le_mul (show wd xs k≤4294967295 by omega) (show wd ys j≤4294967295 by omega);omega
      go_roundw
      case rel=>exact⟨j+1,(wd xs k*wd ys j+wd zs (k+j)+c)/4294967296,zs.set (k+j) ((wd xs k*wd ys j+wd zs (k+j)+c)%4294967296),by omega,by go_num,by go_num,by omega,by rw[List.length_set,Hzl2.out],
       hzlim2.set (by omega),hr2.store _ _ _ (by rw[Int.natCast_emod,Int.natCast_add,Int.natCast_add,Int.natCast_mul];rfl),fun i hi=>by rw[wd_set (by rw[Hzl2.out];omega),if_neg (by omega)];exact Hsame.out i (by omega),
       times_in' (by rw[Hzl2.out];omega) (Hsame.out _ (by omega)) Hv2.out,below_store hbl2 hg1 _⟩
      case measure=>simp[intOf];omega
     ·obtain rfl:j=m:=by omega
      have hcell:=hr2.cell (i:=k+j) (by rw[Hzl2.out];omega);have hfk:=hr2.free (k+j);go_wp2;go_roundw
      case rel=>exact⟨k+1,zs.set (k+j) c,by omega,by go_num,by rw[List.length_set,Hzl2.out],hzlim2.set hc,hr2.store _ _ _ rfl,
       times_out Hm.out (by rw[Hzl2.out];omega) (by rw[←Hn.out];exact hlt) Hv.out Hv2.out,below_store hbl2 hg1 _⟩
      case measure=>simp[intOf];omega
   ·obtain rfl:k=n:=by omega
    have hl2:=hr.lay;have hle2:=rep_val_le hzlim
    have hval:Hid (val zs0=val xs*val ys):=by
     have h:=Hv.out;rw[List.take_of_length_le (by rw[Hzl.out];omega),List.take_of_length_le (by rw[Hn.out];omega)]at h;exact h
    go_wp2_with(go_at_call 236;refine(big_norm _ _ zs0 _ _ (by assumption) (by assumption) (by rw[Hzl.out]) (by omega) (by omega)).mono ?_;rintro e w' ⟨rfl,rfl⟩);go_ret;rw[Hzl.out]at hle2;rw[←hval.out];exact⟨_,_,rfl,hle2,by omega,hl2.norm hzlim,hbl⟩
end Go.Proofs.YtbffpkmfhkphdaaGreatDoor
namespace Go.Proofs.YtbffpkmfhkphdaaGreatDoor.Limb
def mkval:List Bool→Nat
 |[]=>0
 |b :: t=>(if b then 1 else 0)+2*mkval t
theorem getD_mkval: ∀(l:List Bool) (i:Nat),l.getD i false=decide (mkval l/2^i%2=1)
 |[],i=>by simp[mkval]
 |b :: t,0=>by
  show b=decide (((if b then 1 else 0)+2*mkval t)/2^0%2=1)
  cases b<;>simp<;>omega
 |b :: t,i+1=>by
  have h:=getD_mkval t i
  have e:mkval (b :: t)/2^(i+1)=mkval t/2^i:=by
   show((if b then 1 else 0)+2*mkval t)/2^(i+1)=_
   rw[Nat.pow_succ,Nat.mul_comm (2^i) 2,←Nat.div_div_eq_div_mul];congr 1;cases b<;>simp<;>omega
  rw[e,←h];rfl
theorem mkval_append(a b:List Bool):mkval (a++b)=mkval a+2^a.length*mkval b:=by
 induction a with
 |nil=>simp[mkval]
 |cons x t ih=>
  show(if x then 1 else 0)+2*mkval (t++b)=(if x then 1 else 0)+2*mkval t+2^(t.length+1)*mkval b
  rw[ih,Nat.pow_succ,Nat.mul_add,Nat.mul_comm (2^t.length) 2,Nat.mul_assoc,Nat.add_assoc]
theorem mkval_false(n:Nat):mkval (List.replicate n false)=0:=by
 induction n with
 |zero=>rfl
 |succ n ih=>show 0+2*mkval (List.replicate n false)=0;rw[ih]
structure Pk where
 V:Nat
 n:Nat
 S:Nat
 R:Nat
 size:Nat
 last:Nat
def pk(h:Hp):Pk:=⟨val h.ws,h.ws.length,mkval h.st,val h.rt,h.size,h.last⟩
def rd(V i:Nat):Nat:=V/W i%4294967296
def qbeg(p:Pk)(i:Nat):Bool:=decide (p.S/2^i%2=1)
def qhd(p:Pk)(i:Nat):Hd:=unp (rd p.V i) (rd p.V (i+1)) (rd p.V (i+2))
def qO(p:Pk)(o:Nat):Bool:=decide (o≠0)&&decide (o%2=0)&&qbeg p (o/2)
def qC(p:Pk)(o:Nat):Bool:=decide (o=0)||qO p o
def qF(p:Pk)(o f n:Nat):Bool:=qO p o&&decide ((qhd p (o/2)).fmt=f)&&decide (n≤(qhd p (o/2)).size)
def qbody(p:Pk)(o:Nat):Nat:=p.V/W (o/2+3)%W (qhd p (o/2)).size
def qahead(z:Nat):Nat→Nat→List Nat
 |0,_=>[]
 |k+1,x=>if x%4294967296=z then[]else x%4294967296 :: qahead z k (x/4294967296)
def qent(p:Pk)(r:Nat):List Nat:=if qF p (rd p.R r) 1 0 then qahead (rd p.R 0) (qhd p (rd p.R r/2)).size (qbody p (rd p.R r))else[]
def qreads(p:Pk)(t:List Nat)(o:Nat):Bool:=qF p o 2 0&&decide ((qhd p (o/2)).len=t.length)&&decide (qbody p o=val (packB t))
def qglob(p:Pk)(t:List Nat)(o:Nat):Bool:=qF p o 1 2&&qreads p t (rd p.V (o/2+3+0))
def qset(p:Pk)(i v:Nat):Pk:={p with V:=p.V+W i*v-W i*rd p.V i}
def qroot(p:Pk)(i v:Nat):Pk:={p with R:=p.R+W i*v-W i*rd p.R i}
def qroom(p:Pk)(n:Nat):Bool:=decide (p.n+3+n≤p.size)&&decide (p.last≠4294967295)
def qadd(p:Pk)(f spare c m body:Nat):Pk:=
 {V:=p.V+W p.n*(Hd.w0 ⟨m,f,spare,c,p.last+1⟩+4294967296*(c+4294967296*(p.last+1+4294967296*body))),n:=p.n+3+m,S:=p.S+2^p.n,R:=p.R,size:=p.size,last:=p.last+1}
theorem val_set{l:List Nat}{i d:Nat}(h:i<l.length):val (l.set i d)+W i*wd l i=val l+W i*d:=by
 induction l generalizing i with
 |nil=>simp at h
 |cons a t ih=>
  cases i with
  |zero=>show d+4294967296*val t+W 0*a=a+4294967296*val t+W 0*d;rw[W_zero];omega
  |succ i=>
   have h2:=ih (i:=i) (by simpa using h);show a+4294967296*val (t.set i d)+W (i+1)*wd t i=a+4294967296*val t+W (i+1)*d
   rw[W_succ,Nat.mul_assoc,Nat.mul_assoc];omega
section
variable {h:Hp} (k:Good h)
include k
theorem rd_pk(i:Nat):rd (pk h).V i=wd h.ws i:=(wd_val k.lim i).symm
theorem rd_root(i:Nat):rd (pk h).R i=wd h.rt i:=(wd_val k.rlim i).symm
theorem qhd_eq(i:Nat):qhd (pk h) i=hd h i:=by unfold qhd hd;rw[rd_pk k,rd_pk k,rd_pk k]
omit k in
theorem qbeg_eq(i:Nat):qbeg (pk h) i=begins h i:=(getD_mkval h.st i).symm
omit k in
theorem qO_eq(o:Nat):qO (pk h) o=isO h o:=by unfold qO isO;rw[qbeg_eq]
omit k in
theorem qC_eq(o:Nat):qC (pk h) o=clsO h o:=by unfold qC clsO;rw[qO_eq]
theorem qF_eq(o f n:Nat):qF (pk h) o f n=isF h o f n:=by unfold qF isF;rw[qO_eq,qhd_eq k];rfl
theorem qbody_eq(o:Nat):qbody (pk h) o=val (flds h o):=by
 unfold qbody flds;rw[val_take (k.lim.drop _),val_drop k.lim,qhd_eq k];rfl
omit k in
theorem qahead_eq(z:Nat): ∀l:List Nat,Lim l→qahead z l.length (val l)=ahead z l
 |[],_=>rfl
 |a :: t,hl=>by
  show(if(a+4294967296*val t)%4294967296=z then[]else(a+4294967296*val t)%4294967296 :: qahead z t.length ((a+4294967296*val t)/4294967296))=if a=z then[]else a :: ahead z t
  have:=hl.head;rw[show(a+4294967296*val t)%4294967296=a by omega,show(a+4294967296*val t)/4294967296=val t by omega,qahead_eq z t hl.tail]
theorem qent_eq(r:Nat):qent (pk h) r=entries h r:=by
 unfold qent entries;rw[rd_root k,rd_root k,qF_eq k];by_cases hf:isF h (wd h.rt r) 1 0=true
 ·rw[if_pos hf,if_pos hf,qbody_eq k,qhd_eq k];have ho:isO h (wd h.rt r)=true:=by unfold isF at hf;simp only[Bool.and_eq_true]at hf;exact hf.1.1
  rw[←qahead_eq _ _ (flds_lim k _),flds_length k ho];rfl
 ·rw[if_neg hf,if_neg hf]
theorem qreads_eq{t:List Nat}(ht:B8 t)(o:Nat):qreads (pk h) t o=readsO h t o:=by
 unfold qreads readsO;rw[qF_eq k,qhd_eq k,qbody_eq k];by_cases hf:isF h o 2 0=true
 ·by_cases hl:(hdO h o).len=t.length
  ·have ho:isO h o=true∧(hdO h o).fmt=2:=(by unfold isF at hf;simp only[Bool.and_eq_true,decide_eq_true_eq]at hf;exact hf.1);rw[hf,show hd h (o/2)=hdO h o from rfl,decide_eq_true hl,Bool.true_and,Bool.true_and];refine decide_eq_decide.2 ?_;rw[bytO_eq k ho.1 ho.2 ht hl];refine⟨fun e=>val_inj (flds_lim k o) (packB_lim t ht) ?_ e,fun e=>by rw[e]⟩;rw[flds_length k ho.1,packB_length];have h1:=(k.ok _ (isO_iff.1 ho.1).2.2).1;have h2:=h1.spare;have h3:(hdO h o).len=4*(hdO h o).size-(hdO h o).spare:=by unfold Hd.len;rw[if_pos ho.2]
   have h4:=h1.sp;have h2:(hdO h o).spare≤3:=h2;have h4:(hdO h o).spare=0∨((hdO h o).fmt=2∧0<(hdO h o).size):=h4;omega
  ·rw[show hd h (o/2)=hdO h o from rfl,decide_eq_false hl,Bool.and_false,Bool.false_and];simp
 ·rw[Bool.not_eq_true]at hf;rw[hf];rfl
theorem qglob_eq{t:List Nat}(ht:B8 t)(o:Nat):qglob (pk h) t o=isGlob h t o:=by
 unfold qglob isGlob;rw[qF_eq k,rd_pk k,qreads_eq k ht];rfl
theorem qset_eq{i v:Nat}(hi:i<h.ws.length):pk (putW h i v)=qset (pk h) i v:=by
 have e:=val_set (d:=v) hi;unfold qset;rw[rd_pk k];unfold pk putW;simp only[List.length_set];rw[Pk.mk.injEq];exact⟨by omega,rfl,rfl,rfl,rfl,rfl⟩
theorem qroot_eq{i v:Nat}(hi:i<64):pk (setR h i v)=qroot (pk h) i v:=by
 have e:=val_set (d:=v) (l:=h.rt) (i:=i) (by rw[k.rlen];exact hi);unfold qroot;rw[rd_root k];unfold pk setR;rw[Pk.mk.injEq];exact⟨rfl,rfl,rfl,by show val (h.rt.set i v)=val h.rt+W i*v-W i*wd h.rt i;omega,rfl,rfl⟩
theorem qadd_eq(f spare c:Nat)(fs:List Nat):pk (addO h f spare c fs)=qadd (pk h) f spare c fs.length (val fs):=by
 unfold pk qadd addO;rw[Pk.mk.injEq];refine⟨?_,by simp;omega,?_,rfl,rfl,rfl⟩
 ·show val (h.ws++_)=_
  rw[val_append];rfl
 ·show mkval (h.st++_)=_
  rw[mkval_append,k.len];show _+2^_*(1+2*mkval (List.replicate (2+fs.length) false))=_
  rw[mkval_false];simp
omit k in
theorem qroom_eq(n:Nat):qroom (pk h) n=room h n:=rfl
end
end Go.Proofs.YtbffpkmfhkphdaaGreatDoor.Limb

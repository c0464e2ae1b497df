/- large.Add, Sub, Mul: a call of join each. The walk of big.power. -/
import Derived.Test.YtbffpkmfhkphdaaGreatDoorGX12
set_option linter.unusedVariables false
set_option linter.unusedSimpArgs false
set_option maxRecDepth 1000000
set_option maxHeartbeats 6400000
namespace Go.Proofs.YtbffpkmfhkphdaaGreatDoor
open Go Go.RowKit Limb
theorem Answer.shape{ok:Bool}{w w':World}{e:Ending}{z:Int}(h:Answer ok w w' e z): ∃b a n c k,e= .returned (.tuple #[.agg #[.bool b,.slice a n c],.int .i64 k])∧Below w.heap.size w w'∧(∀w0 w2,Below w0.heap.size w0 w2→(∀l,Lay .u32 w' a l→Lay .u32 w2 a l)→Answer ok w0 w2 e z):=by
 unfold Answer at h;split at h
 ·rename_i hok;obtain⟨hb,⟨h1,h2⟩|⟨h1,v,h2,a,n,cap,h3,h4,h5,h6⟩⟩:=h
  ·exact⟨_,_,_,_,_,h2,hb,fun w0 w2 hb2 _=>by unfold Answer;rw[if_pos hok];exact⟨hb2,.inl ⟨h1,h2⟩⟩⟩
  ·subst h3;exact⟨_,_,_,_,_,h2,hb,fun w0 w2 hb2 hl=>by unfold Answer;rw[if_pos hok];exact⟨hb2,.inr ⟨h1,_,h2,a,n,cap,rfl,h4,h5,hl _ h6⟩⟩⟩
 ·rename_i hok;obtain⟨h1,hb⟩:=h;exact⟨_,_,_,_,_,h1,hb,fun w0 w2 hb2 _=>by unfold Answer;rw[if_neg hok];exact⟨h1,hb2⟩⟩
end Go.Proofs.YtbffpkmfhkphdaaGreatDoor
namespace Go.Proofs.YtbffpkmfhkphdaaGreatDoor
open Go Lib Go.RowKit Limb
theorem pow_step{x k r T:Nat}(h:r*x^k=T):(k%2=0→r*(x*x)^(k/2)=T)∧(k%2=1→r*x*(x*x)^(k/2)=T):=by
 have e: ∀m,(x*x)^m=x^(2*m):=fun m=>by rw[Nat.pow_mul,show x^2=x*x from by rw[Nat.pow_succ,Nat.pow_one]]
 constructor
 ·intro h0;rw[e,show 2*(k/2)=k from by omega];exact h
 ·intro h1;rw[e,Nat.mul_assoc,←Nat.pow_succ',show(2*(k/2)).succ=k from by omega];exact h
theorem pow_le{x k r T:Nat}(h:r*x^k=T)(hx:0<x)(hr:0<r)(hk:0<k):x≤T∧r≤T:=by
 have h1:x^1≤x^k:=Nat.pow_le_pow_right hx hk;rw[Nat.pow_one]at h1;have h2:0<x^k:=Nat.pow_pos hx;constructor
 ·rw[←h];exact Nat.le_trans h1 (Nat.le_mul_of_pos_left _ hr)
 ·rw[←h];exact Nat.le_mul_of_pos_right _ h2
theorem row1lay(w:World)(t:TypeId):Lay .u32 (w.alloc (.cells #[.int .u32 1] t)) (some ⟨w.heap.size,0,none⟩) (rep 1):=by
 have h:=(show Row (w.alloc (.cells #[.int .u32 1] t)) w.heap.size t (nums .u32 [1])from row2slice _ _ _).lay;rw[show rep 1=[1]from by decide];exact h
theorem big_power(w:World)(a:Option Addr)(n c x k:Nat)(ha:Lay .u32 w a (rep x))(hn:n=(rep x).length)(hc:n≤c)(hx:0<x)(hk:k<18446744073709551616)(hT:(rep (x^k)).length≤68719476736)(hX:(rep x).length≤68719476736):Calls Tryz.prog 160 #[.slice a n c,.int .u64 k] w fun e w'=> ∃a c s,e= .returned (.slice a s c)∧s=(rep (x^k)).length∧s≤c∧Lay .u32 w' a (rep (x^k))∧Below w.heap.size w w':=by
 have Hn:=hid hn;clear hn;obtain⟨T,hT'⟩: ∃T,T=x^k:=⟨_,rfl⟩;rw[←hT']at hT ⊢;have h1:=row1lay w 60;go_enter Tryz.func160,Tryz.ntmps160;go_wp2;go_loopw[0,1,5] (fun b e r wr=> ∃(a:Option Addr) (n c x k:Nat) (a':Option Addr) (n' c' rr:Nat),b= .slice a n c∧e= .int .u64 k∧r= .slice a' n' c'∧Hid (n=(rep x).length)∧Hid (n'=(rep rr).length)∧n≤c∧n'≤c'∧Lay .u32 wr a (rep x)∧Lay .u32 wr a' (rep rr)∧0<x∧0<rr∧Hid (rr*x^k=T)∧k<18446744073709551616∧Below w.heap.size w wr) (fun _ e _ _=>(intOf e).toNat);case atStart=>exact⟨a,n,c,x,k,_,_,_,1,rfl,rfl,rfl,Hn,hid (by decide),hc,Nat.le_refl _,ha.below ((Below.refl _ _).alloc (Nat.le_refl _) _),h1,hx,by decide,hid (by rw[hT',Nat.one_mul]),hk,(Below.refl _ _).alloc (Nat.le_refl _) _⟩
 case round=>
  clear h1 ha Hn hc hx hk hX hT';obtain⟨a,n,c,x,k,a',n',c',rr,rfl,rfl,rfl,Hn,Hn',hc,hc',ha,ha',hx,hr,Hv,hk,hbl⟩:=hrel;by_cases h0:k=0
  ·subst h0;have hTe:Hid (rr=T):=hid (by rw[←Hv.out,Nat.pow_zero,Nat.mul_one]);go_wp2;go_ret;rw[←hTe.out];exact⟨_,_,_,rfl,Hn'.out,hc',ha',hbl⟩
  ·obtain⟨lx,lr⟩:=pow_le Hv.out hx hr (by omega);have lx':n≤1099511627776:=by rw[Hn.out];exact Nat.le_trans (rep_mono lx) (Nat.le_trans hT (by decide))
   have lr':n'≤1099511627776:=(by rw[Hn'.out];exact Nat.le_trans (rep_mono lr) (Nat.le_trans hT (by decide)));obtain⟨st0,st1⟩:=pow_step Hv.out;have eand:bits .and .u64 (k:Int) 1=((k%2:Nat):Int):=by rw[and_one_u64 _ (by omega) (by omega),Int.natCast_emod];rfl
   have d1:decide (0<k)=true:=(by simp;omega);obtain⟨h2,hh2⟩: ∃h2,h2=k/2:=⟨_,rfl⟩;have q0:(k:Int)/2=(h2:Int):=by omega
   have q1:h2<18446744073709551616:=(by omega);have q2:h2<k:=by omega
   rw[←hh2]at st0 st1;have Hh:=hid hh2;clear hh2;by_cases hodd:k%2=1
   ·have hst:=hid (st1 hodd);rw[hodd]at eand;clear st0 st1 hodd lx lr;have hrx:0<rr*x:=Nat.mul_pos hr hx;go_wp2_with fail;refine(big_times' _ _ _ rr x n' n c' c ha' ha Hn'.out Hn.out lr' lx').mono ?_;rintro e w2 ⟨a2,c2,n2,rfl,hn2,hc2,ha2,hb2⟩;have Hn2:=hid hn2;clear hn2;have hbl2:=hbl.trans (hb2.mono hbl.size);have hax:=ha.below hb2;by_cases hk1:k=1
    ·subst hk1;have d2:decide ((1:Int)<((1:Nat):Int))=false:=by decide
     go_wp2_with fail;go_roundw;case rel=>exact⟨a,n,c,x,0,a2,n2,c2,rr*x,rfl,rfl,rfl,Hn,Hn2,hc,hc2,hax,ha2,hx,hrx,hid (by rw[←hst.out,Hh.out,show 1/2=0 from rfl,Nat.pow_zero,Nat.pow_zero]),by decide,hbl2⟩
     case measure=>simp[intOf]
    ·have d2:decide ((1:Int)<(k:Int))=true:=(by simp;omega);go_wp2_with fail;refine(big_times' _ _ _ x x n n c c hax hax Hn.out Hn.out lx' lx').mono ?_;rintro e w3 ⟨a3,c3,n3,rfl,hn3,hc3,ha3,hb3⟩;have Hn3:=hid hn3;clear hn3;have hbl3:=hbl2.trans (hb3.mono hbl2.size);have ha2':=ha2.below hb3;go_wp2_with fail;go_roundw;case rel=>exact⟨a3,n3,c3,x*x,h2,a2,n2,c2,rr*x,rfl,by go_num,rfl,Hn3,Hn2,hc3,hc2,ha3,ha2',Nat.mul_pos hx hx,hrx,hst,q1,hbl3⟩
     case measure=>simp[intOf];omega
   ·have hodd0:k%2=0:=(by omega);have hst:=hid (st0 hodd0);rw[hodd0]at eand;have d2:decide ((1:Int)<(k:Int))=true:=by simp;omega
    clear st0 st1 hodd hodd0 lx lr;go_wp2_with fail;refine(big_times' _ _ _ x x n n c c ha ha Hn.out Hn.out lx' lx').mono ?_;rintro e w3 ⟨a3,c3,n3,rfl,hn3,hc3,ha3,hb3⟩;have Hn3:=hid hn3;clear hn3;have hbl3:=hbl.trans (hb3.mono hbl.size);have ha2':=ha'.below hb3;go_wp2_with fail;go_roundw;case rel=>exact⟨a3,n3,c3,x*x,h2,a',n',c',rr,rfl,by go_num,rfl,Hn3,Hn',hc3,hc',ha3,ha2',Nat.mul_pos hx hx,hr,hst,q1,hbl3⟩
    case measure=>simp[intOf];omega
end Go.Proofs.YtbffpkmfhkphdaaGreatDoor

/- Walks and laws that LargeData asks for. -/
import Derived.Test.YtfefijlnbhbplaaGreatDoorGX18
set_option linter.unusedVariables false
set_option linter.unusedSimpArgs false
set_option maxRecDepth 1000000
set_option maxHeartbeats 6400000
namespace Go.Proofs.YtfefijlnbhbplaaGreatDoor
open Go Lib Go.RowKit Limb Tryz
theorem DE(w:World)(p q s:Nat)(y z:Int)(H:IntAt w p y)(I:IntAt w q z)(hs:(rep z.natAbs).length<=68719476736)(L:s<=4294967296):Calls prog 191 #[E p,E q,.int .u64 s] w fun e w'=>fD w w' e p (z*2^s):=by
 obtain⟨b,a,n,cap,F,x,N,G,c⟩:=I.use;obtain⟨O,c1⟩:=c w (Only.refl _ _);have A:=hid c;clear c;rw[<-x.out]at hs;obtain⟨v,u⟩:=ξ (z*2^s);have j:v.natAbs=z.natAbs*2^s:=by rw[u,Int.natAbs_mul,Int.natAbs_pow];rfl
 have k:(b=true->v<=0)/\(b=false->0<=v):=by
  have f:(0:Int)<=2^s:=Int.pow_nonneg δ;rw[F.out,u];constructor
  ·intro h;exact Int.mul_nonpos_of_nonpos_of_nonneg (by simp at h;omega) f
  ·intro h;exact Int.mul_nonneg (by simp at h;omega) f
 have d:=fun X (h:Lay .u32 X a (rep z.natAbs))=>p7 X a (rep z.natAbs) n cap s h (aB _) x.out ω L
 rw[aE,<-j]at d;rw[<-u];have B:=hid d;clear d;have M:=hid j;clear j;have C:=hid k;clear k;clear u;go_enter func191,ntmps191;go_wp2;go_region_with (first |(go_at_call 232;refine(B.out _ ?_).mono ?_;exact G.drew;rintro e w1 ⟨a',c',rfl,h1,-,h2,h3⟩;have D:=(A.out w1 (Only.of_below (cz h3))).1)|(go_at_call 159;refine(ck _ p y v _ _ _ _ ?_ ?_ ?_ ?_ ?_).mono ?_;exact H.drew.below h3;exact h2;exact rfl;exact h1;exact C.out;rintro e P ⟨rfl,h4,h5⟩));all_goals go_wp2
 all_goals go_ret
 all_goals exact⟨rfl,h4,(Only.of_below (cz h3)).trans h5 (by simp)⟩
theorem DO{z:Int}{s:Nat}(i:z<0):z/2^s= -((z.natAbs/2^s+(if z.natAbs%2^s≠0 then 1 else 0):Nat):Int):=by
 obtain⟨k,f⟩: ∃k:Nat,z= -(k:Int):=⟨z.natAbs,ω⟩;subst f;have c:0<2^s:=Nat.pow_pos δ;have e:((2:Int)^s)=((2^s:Nat):Int):=by rw[Int.natCast_pow];rfl
 rw[e];generalize 2^s=d at c ⊢;rw[Int.natAbs_neg,Int.natAbs_natCast];have h1:=Nat.div_add_mod k d;have g:=Nat.mod_lt k c;split
 ·rename_i h;refine((Int.ediv_emod_unique (a:= -(k:Int)) (b:=(d:Int)) (q:= -((k/d+1:Nat):Int)) (r:=((d-k%d:Nat):Int)) ω).2 ⟨?_,ω,ω⟩).1;rw[Int.mul_neg,<-Int.natCast_mul,Nat.mul_add,Nat.mul_one];omega
 ·rename_i h;have h0:k%d=0:=ω
  rw[Nat.add_zero];refine((Int.ediv_emod_unique (a:= -(k:Int)) (b:=(d:Int)) (q:= -((k/d:Nat):Int)) (r:=0) ω).2 ⟨?_,ω,ω⟩).1;rw[Int.mul_neg,<-Int.natCast_mul];omega
theorem Dt(w:World)(p q s:Nat)(y z:Int)(R:IntAt w p y)(G:IntAt w q z)(hs:(rep z.natAbs).length<=68719476736)(ls:s<=4294967296):Calls prog 192 #[E p,E q,.int .u64 s] w fun e w'=>fD w w' e p (z/2^s):=by
 obtain⟨b,a,n,cap,M,P,Y,Z,x⟩:=G.use;obtain⟨c0,c1⟩:=x w (Only.refl _ _);clear x;rw[<-P.out]at hs;have d:=pK w a (rep z.natAbs) n cap s Z (aB _) (bh _) P.out Y ω ls;rw[aE]at d;obtain⟨Q,L⟩:=ξ (z.natAbs/2^s);obtain⟨D,k⟩:=ξ (decide (z.natAbs%2^s≠0));have U:(rep Q).length<=n:=by rw[L,P.out];exact aS (Nat.div_le_self _ _)
 have u:z<0->z/2^s= -((Q+(if D=true then 1 else 0):Nat):Int):=by
  intro C;rw[DO C,L,k];simp only[decide_eq_true_eq]
 have B:0<=z->z/2^s=(Q:Int):=by
  intro C;rw[L,Int.natCast_ediv,Int.natCast_pow,Int.natAbs_of_nonneg C];rfl
 obtain⟨v,S⟩:=ξ (z/2^s);rw[<-S]at u B ⊢;rw[<-L,<-k]at d;have N:=hid d;clear d;clear L k S;by_cases C:z<0
 ·have O:b=true:=(by rw[M.out];simpa using C);subst O;have j:=hid (u C);clear u B C M;cases D with
  |true=>
   have h1: ∀X:World,Lay .u32 (X.alloc (.cells #[Ψ 1] 25)) (some ⟨X.heap.size,0,none⟩) (rep 1):=fun X=>iK X 25
   go_enter func192,ntmps192;go_wp2_with fail;refine N.out.mono ?_;rintro e w1 ⟨a',c',rfl,g1,g2,g3⟩;have F:Below w1 w1 (w1.alloc (.cells #[Ψ 1] 25)):=(Below.refl _ _).alloc ι _;go_wp2_with fail;refine(uY _ a' (some ⟨w1,0,none⟩) Q 1 _ 1 c' 1 (g2.below F) (h1 w1) rfl δ ω δ).mono ?_;rintro e w2 ⟨a2,c2,s2,rfl,t1,t2,t3,t4⟩;have V:=hid t1;clear t1;have H:=g3.trans ((F.trans (t4.mono F.size)).mono g3.size);have f:Hid (v.natAbs=Q+1):=hid (by rw[j.out];simp;omega);have I:v<=0:=by rw[j.out];omega
   have A:=hid I;clear I;go_wp2_with fail;refine(ck w2 p y v true a2 s2 c2 (R.below H) (by rw[f.out];exact t3) (by rw[f.out];exact V.out) t2 ⟨fun _=>A.out,(fun h=>by cases h)⟩).mono ?_;rintro e T ⟨rfl,h4,h5⟩;go_wp2;go_ret;exact⟨rfl,h4,(Only.of_below (ps:=[p]) H).trans h5 (fun q G=> .inl G)⟩
  |false=>
   go_enter func192,ntmps192;go_wp2_with fail;refine N.out.mono ?_;rintro e w1 ⟨a',c',rfl,g1,g2,g3⟩;have f:Hid (v.natAbs=Q):=hid (by rw[j.out];simp);have A:=hid (show v<=0 by rw[j.out];omega);go_wp2_with fail;refine(ck w1 p y v true a' _ c' (R.below g3) (by rw[f.out];exact g2) (by rw[f.out]) g1 ⟨fun _=>A.out,(fun h=>by cases h)⟩).mono ?_;rintro e T ⟨rfl,h4,h5⟩;go_wp2;go_ret;exact⟨rfl,h4,(Only.of_below (ps:=[p]) g3).trans h5 (fun q G=> .inl G)⟩
 ·have O:b=false:=(by rw[M.out];simpa using C);subst O;have j:=hid (B ω);clear u B C M;go_enter func192,ntmps192;go_wp2_with fail;refine N.out.mono ?_;rintro e w1 ⟨a',c',rfl,g1,g2,g3⟩;have f:Hid (v.natAbs=Q):=hid (by rw[j.out];simp);have A:=hid (show 0<=v by rw[j.out];omega);go_wp2_with fail;refine(ck w1 p y v false a' _ c' (R.below g3) (by rw[f.out];exact g2) (by rw[f.out]) g1 ⟨(fun h=>by cases h),fun _=>A.out⟩).mono ?_;rintro e T ⟨rfl,h4,h5⟩;go_wp2;go_ret;exact⟨rfl,h4,(Only.of_below (ps:=[p]) g3).trans h5 (fun q G=> .inl G)⟩
end Go.Proofs.YtfefijlnbhbplaaGreatDoor

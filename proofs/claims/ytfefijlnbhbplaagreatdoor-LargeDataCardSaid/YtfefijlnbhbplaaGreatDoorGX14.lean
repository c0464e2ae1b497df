/- Walks and laws that LargeData asks for. -/
import Derived.Test.YtfefijlnbhbplaaGreatDoorGX13
set_option linter.unusedVariables false
set_option linter.unusedSimpArgs false
set_option maxRecDepth 1000000
set_option maxHeartbeats 6400000
namespace Go.Proofs.YtfefijlnbhbplaaGreatDoor
open Go Go.RowKit Limb
def uR:Ending:= .returned (.tuple #[Ω false none 0 0,I 1])
def Answer(ok:Bool)(w w':World)(e:Ending)(z:Int):Prop:=if ok=true then kt w w' e z else e=uR/\Below w w w'
theorem Answer.no{w w':World}{e:Ending}{z:Int}(h:e=uR/\Below w w w'):Answer false w w' e z:=h
theorem Answer.yes{w w':World}{e:Ending}{z:Int}(h:kt w w' e z):Answer true w w' e z:=h
theorem fI(w:World)(t:TypeId)(b d f g i c1:Value):Row (((w.alloc (.cells #[b,d] t)).alloc (.cells #[f,g] t)).alloc (.cells #[i,c1] t)) w t [b,d]/\Row (((w.alloc (.cells #[b,d] t)).alloc (.cells #[f,g] t)).alloc (.cells #[i,c1] t)) (N1 w) t [f,g]/\Row (((w.alloc (.cells #[b,d] t)).alloc (.cells #[f,g] t)).alloc (.cells #[i,c1] t)) (N2 w) t [i,c1]/\Below w w (((w.alloc (.cells #[b,d] t)).alloc (.cells #[f,g] t)).alloc (.cells #[i,c1] t))/\(((w.alloc (.cells #[b,d] t)).alloc (.cells #[f,g] t)).alloc (.cells #[i,c1] t)).heap.size=w.heap.size+1+1+1:=by
 have j:=World.size_alloc w (.cells #[b,d] t);have k:=World.size_alloc (w.alloc (.cells #[b,d] t)) (.cells #[f,g] t);have m:=World.size_alloc ((w.alloc (.cells #[b,d] t)).alloc (.cells #[f,g] t)) (.cells #[i,c1] t);refine⟨?_,?_,?_,(((Below.refl _ _).alloc ι _).alloc ω _).alloc ω _,ω⟩
 ·refine Row.alloc (Row.alloc ?_ _) _;unfold Row;exact heap_alloc_new _ _
 ·refine Row.alloc ?_ _;unfold Row;have:=heap_alloc_new (w.alloc (.cells #[b,d] t)) (.cells #[f,g] t);rw[j]at this;exact this
 ·unfold Row;have:=heap_alloc_new ((w.alloc (.cells #[b,d] t)).alloc (.cells #[f,g] t)) (.cells #[i,c1] t);rw[show((w.alloc (.cells #[b,d] t)).alloc (.cells #[f,g] t)).heap.size=w.heap.size+1+1 from by omega]at this;exact this
theorem cQ(w:World)(t:TypeId)(a:Array Value):Row (w.alloc (.cells a t)) w t a.toList:=by unfold Row;exact heap_alloc_new _ _
theorem Answer.shape{ok:Bool}{w w':World}{e:Ending}{z:Int}(h:Answer ok w w' e z): ∃b a n c k,e=Rt #[Ω b a n c,I k]/\Below w w w'/\(∀g j,Below g.heap.size g j->(∀l,Lay .u32 w' a l->Lay .u32 j a l)->g.heap.size<=w.heap.size->Answer ok g j e z):=by
 unfold Answer at h;split at h
 ·rename_i f;obtain⟨o,⟨h1,m⟩|⟨h1,v,m,a,n,cap,q,s,t,u⟩⟩:=h
  ·exact⟨_,_,_,_,_,m,o,fun g j d _ _=>by unfold Answer;rw[if_pos f];exact⟨d,.inl ⟨h1,m⟩⟩⟩
  ·subst q;exact⟨_,_,_,_,_,m,o,fun g j d x p=>by unfold Answer;rw[if_pos f];exact⟨d,.inr ⟨h1,_,m,a,n,cap,rfl,s,t.mono p,x _ u⟩⟩⟩
 ·rename_i f;obtain⟨h1,o⟩:=h;exact⟨_,_,_,_,_,h1,o,fun g j d _ _=>by unfold Answer;rw[if_neg f];exact⟨h1,d⟩⟩
open Tryz
theorem DC(w:World)(a:Option Addr)(l:List Nat)(n cap i:Nat)(j:Lay .u32 w a l)(g:Lim l)(t:n=l.length)(S:n<=9223372036854775807)(T:i<=9223372036854775807):Calls prog 255 #[.slice a n cap,I i] w fun e w'=>e= .returned (Ψ (val l/2^i%2:Nat))/\w=w':=by
 obtain⟨b,M,k,f,R⟩:=j.use 22 25 underlying22 aK cap;rw[<-t]at k f
 have u:val l/2^i%2=wd l (i/32)/2^(i%32)%2:=by
  rw[<-Bk,sE,dP g]
 rw[u];obtain⟨d,B⟩:=ξ (i/32);obtain⟨r,C⟩:=ξ (i%32);have N:(i:Int)/32=d:=ω
 have O:(i:Int)%32=r:=ω
 rw[<-B,<-C];have v:d<=9223372036854775807:=ω
 have z:r<32:=ω
 clear B C u;have h1:=g.wd d;by_cases p:d<n
 ·have E:=k w .i64 d ω ω;have F:=f w (Below.refl _ _) d p;rw[Int.toNat_natCast]at E;have G:decide (n<=d)=false:=by rw[decide_eq_false_iff_not];omega
  obtain⟨x,D⟩:=ξ (wd l d);rw[<-D]at h1 F ⊢;clear k f t D g j;have H:(2:Int)^r=((2^r:Nat):Int):=by rw[Int.natCast_pow];rfl
  obtain⟨q,m⟩:=ξ (2^r);have L:0<q:=by rw[m];exact Nat.pow_pos δ
  rw[<-m]at H ⊢;clear m;obtain⟨y,o⟩:=ξ (x/q);have P:(x:Int)/(q:Int)=(y:Int):=by rw[o,Int.natCast_ediv]
  have Q:y<4294967296:=(by rw[o];exact Nat.lt_of_le_of_lt (Nat.div_le_self _ _) h1);rw[<-o];clear o;go_enter func255,ntmps255;go_wp2;go_ret;exact⟨by first |rfl|(rw[Int.natCast_emod];rfl),rfl⟩
 ·have A:=eR (l:=l) (i:=d) ω;have G:decide (n<=d)=true:=by rw[decide_eq_true_eq];omega
  rw[A,Nat.zero_div];clear k f t A g j h1;go_enter func255,ntmps255;go_wp2;go_ret;exact⟨rfl,rfl⟩
end Go.Proofs.YtfefijlnbhbplaaGreatDoor

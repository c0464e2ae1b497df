/- Walks and laws that LargeData asks for. -/
import Derived.Test.YtfefijlnbhbplaaGreatDoorGX13
set_option linter.unusedVariables false
set_option linter.unusedSimpArgs false
set_option maxRecDepth 1000000
set_option maxHeartbeats 6400000
namespace Go.Proofs.YtfefijlnbhbplaaGreatDoor
open Go Lib Go.RowKit Limb Tryz
theorem ya{n:Nat}(h:n<9223372036854775808):IntKind.u64.wrap (n:Int)=n:=by
 simp only[IntKind.wrap,IntKind.signed,IntKind.bits,Bool.false_and,Bool.false_eq_true,if_false];omega
theorem xh{n:Nat}(h:n<=9223372036854775808):IntKind.u64.wrap (-(IntKind.u64.wrap (-(n:Int))))=n:=by
 simp only[IntKind.wrap,IntKind.signed,IntKind.bits,Bool.false_and,Bool.false_eq_true,if_false];omega
theorem w8(w:World)(p:Nat)(y v:Int)(k:IntAt w p y)(h1: -9223372036854775808<=v)(x:v<=9223372036854775807):Calls prog 165 #[E p,I v] w fun e w'=>fD w w' e p v:=by
 by_cases j:v<0
 ·obtain⟨n,g⟩: ∃n:Nat,v= -(n:Int):=⟨v.natAbs,ω⟩;have l:decide (v<0)=true:=by simpa using j
  have q:IntKind.u64.wrap (-(IntKind.u64.wrap v))=n:=(by rw[g];exact xh ω);have b:v.natAbs=n:=ω
  have f:=fun W=>lj W n ω
  have i:=hid f;clear f;have d:=hid b;clear b g;go_enter func165,ntmps165;go_wp2_with fail;refine(i.out _).mono ?_;rintro e w1 ⟨a,c,rfl,g1,g2,g3,g4⟩;rw[<-d.out]at g1 g3 ⊢;go_wp2_with fail;refine(ck _ p y v true a _ c (k.below g4) g3 rfl g1 ⟨fun _=>ω,(fun h=>by(cases h))⟩).mono ?_;rintro e u ⟨rfl,k1,k2⟩;go_wp2;go_ret;exact⟨rfl,k1,(Only.of_below g4).trans k2 (by simp)⟩
 ·obtain⟨n,g⟩: ∃n:Nat,v=(n:Int):=⟨v.natAbs,ω⟩;have l:decide (v<0)=false:=by simpa using j
  have q:IntKind.u64.wrap v=n:=(by rw[g];exact ya ω);have b:v.natAbs=n:=ω
  have f:=fun W=>lj W n ω
  have i:=hid f;clear f;have d:=hid b;clear b g;go_enter func165,ntmps165;go_wp2_with fail;refine(i.out _).mono ?_;rintro e w1 ⟨a,c,rfl,g1,g2,g3,g4⟩;rw[<-d.out]at g1 g3 ⊢;go_wp2_with fail;refine(ck _ p y v false a _ c (k.below g4) g3 rfl g1 ⟨(fun h=>by(cases h)),fun _=>ω⟩).mono ?_;rintro e u ⟨rfl,k1,k2⟩;go_wp2;go_ret;exact⟨rfl,k1,(Only.of_below g4).trans k2 (by simp)⟩
theorem vL(w:World)(v:Int)(h1: -9223372036854775808<=v)(f:v<=9223372036854775807):Calls prog 83 #[I v] w fun e w'=> ∃p,e= .returned (E p)/\w.heap.size<=p/\IntAt w' p v/\Below w w w':=by
 have d:=hid (w8 (w.alloc (.cells #[.bool false,.slice none 0 0] 194)) w 0 v (IntAt.new w) h1 f);go_enter func83,ntmps83;go_wp2_with fail;refine d.out.mono ?_;rintro e w1 ⟨rfl,k1,k2⟩;go_wp2;go_ret;exact⟨_,rfl,Nat.le_refl _,k1,((Below.refl _ _).alloc ι _).trans (k2.ah (by rw[World.size_alloc];omega) (by simp))⟩
theorem jp{w1 X:World}{l:List (Nat×Int)}(h:At w1 X l)(v:Int)(h1: -9223372036854775808<=v)(b:v<=9223372036854775807):Calls prog 83 #[I v] X fun e a=> ∃p,e= .returned (E p)/\At w1 a ((p,v) :: l):=by
 refine(vL X v h1 b).mono ?_;rintro e a ⟨p,rfl,k1,k2,k3⟩;exact⟨p,rfl,h.cons k3 k1 k2⟩
theorem zM{w1 X:World}{l:List (Nat×Int)}{p q r s:Nat}{v u x y:Int}(h:At w1 X l)(i:(p,v)∈l)(a:(q,x)∈l)(F:(r,y)∈l)(hs:(s,u)∈l)(A:(l.map Prod.fst).Nodup->p≠s)(G:y≠0)(H:(rep x.natAbs).length<=68719476736)(I:(rep y.natAbs).length<=68719476736):Calls prog 174 #[E p,E q,E r,E s] X fun e C=>e=Rt #[E p,E s]/\At w1 C (upd (upd l p (x.tdiv y)) s (x.tmod y)):=by
 refine(wT X p q r s v u x y (h.ints _ i).1 (h.ints _ a).1 (h.ints _ F).1 (h.ints _ hs).1 (A h.nd) G H I).mono ?_;rintro e C ⟨rfl,k1,k2,k3⟩;refine⟨rfl,?_,?_,by rw[sK,sK];exact h.nd⟩
 ·exact h.below.trans (k3.ah h.below.size (by intro q a;simp only[List.mem_cons,List.not_mem_nil,or_false]at a;rcases a with rfl|rfl;exact(h.ints _ i).2;exact(h.ints _ hs).2))
 ·have j:IntBlocks X [p,s]:=by
   intro b f;simp only[List.mem_cons,List.not_mem_nil,or_false]at f;rcases f with rfl|rfl
   ·exact⟨_,(h.ints _ i).1⟩
   ·exact⟨_,(h.ints _ hs).1⟩
  intro b f;obtain⟨c,D,e⟩:=List.mem_map.mp f;split at e
  ·subst e;exact⟨k2,(h.ints _ hs).2⟩
  ·rename_i k;subst e;obtain⟨d,B,e⟩:=List.mem_map.mp D;split at e
   ·subst e;exact⟨k1,(h.ints _ i).2⟩
   ·rename_i z;subst e;exact⟨(h.ints _ B).1.only k3 (by simp;exact⟨z,k⟩) j,(h.ints _ B).2⟩
theorem jz{w1 X:World}{l:List (Nat×Int)}{p:Nat}{z:Int}(h:At w1 X l)(b:(p,z)∈l):Calls prog 80 #[E p] X fun e a=>e= .returned (I (d8 z))/\X=a:=uk X p z (h.ints _ b).1
end Go.Proofs.YtfefijlnbhbplaaGreatDoor

/- Walks and laws that LargeData asks for. -/
import Derived.Test.YtfefijlnbhbplaaGreatDoorGX30
import Derived.Lib.ConvBytes
import Derived.Test.YtfefijlnbhbplaaGreatDoorGX16
set_option linter.unusedVariables false
set_option linter.unusedSimpArgs false
set_option maxRecDepth 1000000
set_option maxHeartbeats 6400000
namespace Go.Proofs.YtfefijlnbhbplaaGreatDoor
open Go Lib Go.RowKit Limb Tryz
theorem fX(z:Nat)(p:Nat->Bool): ∀(fl:List Nat) (k:Nat),(∀j,j<k->wd fl j≠z/\p (wd fl j)=false)->k<=fl.length->(Limb.ahead z fl).find? p=(Limb.ahead z (fl.drop k)).find? p
 |_,0,_,_=>rfl
 |[],k+1,_,h=>by simp at h
 |a :: t,k+1,h,hk=>by
  obtain⟨h1,b⟩:=h 0 ω;have h1:a≠z:=h1;have b:p a=false:=b;show(if a=z then[]else a :: Limb.ahead z t).find? p=(Limb.ahead z (t.drop k)).find? p
  rw[if_neg h1,List.find?_cons_of_neg (by rw[b];decide)];exact fX z p t k (fun j c=>h (j+1) ω) (by simpa using hk)
theorem nn{l:List Nat}{k:Nat}(h:k<l.length):l.drop k=wd l k :: l.drop (k+1):=by
 rw[List.drop_eq_getElem_cons h,wd_lt h]
section
variable {w:World} {F:Foot} {h:Hp}
theorem gX{o k:Nat}(b:isF h o 1 0=true)(d:k<(hdO h o).size):jL h o (k:Int) [1,4]=fld h o k/\bB h o (k:Int) [1,4]=0:=by
 unfold isF at b;simp only[Bool.and_eq_true,decide_eq_true_eq]at b;obtain⟨⟨h1,c⟩,_⟩:=b;have a:(hdO h o).len=(hdO h o).size:=fr ω;have e:bB h o (k:Int) [1,4]=0:=lookE_zero.2 ⟨h1,by rw[c];rfl,ω,by rw[a];omega⟩;exact⟨by unfold jL;rw[if_pos e,Int.toNat_natCast],e⟩
theorem oD(k:Limb.Good h)(o i:Nat):fld h o i<4294967296:=k.lim.wd _
theorem rU(H:HeapAt w F h)(l:Nat)(hl:l<4294967296)(p:Nat->Bool)(c1 c2:Value)(R: ∀X,Below w.heap.size w X->∀o,o<4294967296->Calls prog 256 #[Ψ (o:Nat),c1,c2] X fun e X'=>e= .returned (.bool (p o))/\Below X.heap.size X X'):Calls prog 213 #[E F.p,Ψ l,.func (.func 256) #[] #[c1,c2]] w fun e w'=>(∃z:Int,e= .returned (I z)/\((z= -1/\(isF h l 1 0=true->(Limb.ahead (wd h.rt 0) (bj h l)).find? p=none))∨∃k:Nat,z=k/\isF h l 1 0=true/\k<(hdO h l).size/\(Limb.ahead (wd h.rt 0) (bj h l)).find? p=some (fld h l k)))/\Below w.heap.size w w':=by
 have S:=hid (cP H l 0 hl)
 cases hp:isF h l 1 0 with
 |false=>
  have P:=S.out;rw[hp]at P;have S:=hid P;clear P hp H R;go_enter func213,ntmps213;go_wp2_with fail;refine(S.out).mono ?_;rintro e V ⟨rfl,A⟩;go_wp2;go_ret;exact⟨⟨-1,rfl,.inl ⟨rfl,fun h=>by cases h⟩⟩,A⟩
 |true=>
  have P:=S.out;rw[hp]at P;have S:=hid P;have Y:isO h l=true:=by unfold isF at hp;simp only[Bool.and_eq_true]at hp;exact hp.1.1
  have hX:hdX h l=hdO h l:=(by unfold hdX;rw[if_pos Y]);have HR:=hid (fun X (B:Below w.heap.size w X)=>bD (H.below B) 0 δ);have hS:=fun X (B:Below w.heap.size w X)=>gQ (H.below B) l hl
  rw[hX]at hS;have HS:=hid hS;have hg:=fun X (B:Below w.heap.size w X) (k:Nat) (G:k<(hdO h l).size)=>kT (H.below B) l hl (k:Int) ω (by have:=(H.good.ok _ (isO_iff.1 Y).2.2).1.size;have G:k<(Limb.hd h (l/2)).size:=G;omega)
  have HG:=hid (fun X (B:Below w.heap.size w X) (k:Nat) (G:k<(hdO h l).size)=>show Calls prog 258 #[E F.p,Ψ l,I (k:Nat)] X fun e X'=>e=Rt #[Ψ (fld h l k),I (0:Nat)]/\Below X.heap.size X X' from by
   have:=hg X B k G;rw[(gX hp G).1,(gX hp G).2]at this;exact this)
  have HF:=hid (fun k (G:k<(hdO h l).size)=>show fld h l k=wd (bj h l) k from(fk G).symm);have M:=hid (bg H.good Y);have a3:=hid (fun k=>oD H.good l k);have HI:=hid R;have hz0:=eH H.good 0;generalize wd h.rt 0=C at*
  have hsz:(hdO h l).size<=65535:=(H.good.ok _ (isO_iff.1 Y).2.2).1.size;generalize(hdO h l).size=U at*
  have Hp:=hid hp;clear P hp Y hX hS hg H R;go_enter func213,ntmps213;go_wp2_with fail;refine(S.out).mono ?_;rintro e V ⟨rfl,A⟩;go_wp2_with fail;refine(HR.out V A).mono ?_;rintro e V1 ⟨rfl,rfl⟩;go_wp2_with fail;refine(HS.out _ A).mono ?_;rintro e V2 ⟨rfl,B⟩;replace A:=τ A B;clear B;go_wp2;go_loopw[20] (fun i wr=> ∃k:Nat,k<=U/\i= .int .i64 k/\Hid (∀j,j<k->wd (bj h l) j≠C/\p (wd (bj h l) j)=false)/\Below w.heap.size w wr) (fun i _=>U-(intOf i).toNat);case atStart=>exact⟨0,Nat.zero_le _,rfl,fun j hj=>absurd hj ω,A⟩
  case round=>
   clear A;obtain⟨k,G,rfl,L,A⟩:=hrel;by_cases h0:k<U
   ·have d1:decide ((k:Int)<(U:Int))=true:=dT;have d2:decide (k<U)=true:=decide_eq_true h0;have a4:=a3.out k;have Z:=HF.out k h0;have a5:=hid (HG.out wr A k h0);have D:=hid Z;have g:=hid (fX C p (bj h l) k L.out (by rw[M.out];exact G));have x:=hid (nn (l:=bj h l) (k:=k) (by rw[M.out];exact h0));clear Z;go_wp2_with fail;refine(a5.out).mono ?_;rintro e V3 ⟨rfl,B⟩;replace A:=τ A B;clear B;by_cases T:fld h l k=C
    ·have q:((fld h l k:Int)==(C:Int))=true:=by rw[beq_iff_eq];omega
     have O:=hid (show(Limb.ahead C (bj h l)).find? p=none from by
      rw[g.out,x.out,<-D.out,T];show(if C=C then[]else _).find? p=none;rw[if_pos rfl];rfl)
     rw[T];clear q T D x g;go_wp2;go_ret;exact⟨⟨-1,rfl,.inl ⟨rfl,fun _=>O.out⟩⟩,A⟩
    ·have q:((fld h l k:Int)==(C:Int))=false:=nE;have q2:(fld h l k==C)=false:=by rw[beq_eq_false_iff_ne];exact T
     have O:=hid T;have a0:=hid (HI.out V3 A (fld h l k) a4);generalize a1:fld h l k=v at*
     have a2:=hid a1;clear a1 T;go_wp2_with fail;refine(a0.out).mono ?_;rintro e V4 ⟨rfl,B⟩;replace A:=τ A B;clear B
     cases hpv:p v with
     |true=>
      have Q:=hid (show(Limb.ahead C (bj h l)).find? p=some (fld h l k)from by
       rw[g.out,x.out,<-D.out,a2.out];show(if v=C then[]else v :: _).find? p=some v
       rw[if_neg O.out,List.find?_cons_of_pos hpv])
      clear D x g O;rw[<-a2.out]at hpv;clear hpv;go_wp2;go_ret;exact⟨⟨k,rfl,.inr ⟨k,rfl,by trivial,h0,Q.out⟩⟩,A⟩
     |false=>
      have Q:=hid (show∀j,j<k+1->wd (bj h l) j≠C/\p (wd (bj h l) j)=false from fun j hj=>by
       by_cases e:j=k
       ·rw[e,<-D.out];exact⟨O.out,hpv⟩
       ·exact L.out j ω)
      clear D x g O hpv;go_wp2;go_roundw;case rel=>exact⟨k+1,h0,by simp,Q.out,A⟩
      case measure=>exact μ
   ·obtain rfl:k=U:=ω
    have d1:decide ((k:Int)<(k:Int))=false:=dF;have d2:decide (k<k)=false:=dF
    have O:=hid (show(Limb.ahead C (bj h l)).find? p=none from by
     rw[fX C p (bj h l) k L.out (by rw[M.out];exact G),List.drop_of_length_le (by rw[M.out];exact Nat.le_refl _)];rfl)
    go_wp2;go_ret;exact⟨⟨-1,rfl,.inl ⟨rfl,fun _=>O.out⟩⟩,A⟩
theorem sb(H:HeapAt w F h)(l:Nat)(hl:l<4294967296)(p:Nat->Bool)(c1 c2:Value)(R: ∀X,Below w.heap.size w X->∀o,o<4294967296->Calls prog 214 #[Ψ (o:Nat),c1,c2] X fun e X'=>e= .returned (.bool (p o))/\Below X.heap.size X X'):Calls prog 213 #[E F.p,Ψ l,.func (.func 214) #[] #[c1,c2]] w fun e w'=>(∃z:Int,e= .returned (I z)/\((z= -1/\(isF h l 1 0=true->(Limb.ahead (wd h.rt 0) (bj h l)).find? p=none))∨∃k:Nat,z=k/\isF h l 1 0=true/\k<(hdO h l).size/\(Limb.ahead (wd h.rt 0) (bj h l)).find? p=some (fld h l k)))/\Below w.heap.size w w':=by
 have S:=hid (cP H l 0 hl)
 cases hp:isF h l 1 0 with
 |false=>
  have P:=S.out;rw[hp]at P;have S:=hid P;clear P hp H R;go_enter func213,ntmps213;go_wp2_with fail;refine(S.out).mono ?_;rintro e V ⟨rfl,A⟩;go_wp2;go_ret;exact⟨⟨-1,rfl,.inl ⟨rfl,fun h=>by cases h⟩⟩,A⟩
 |true=>
  have P:=S.out;rw[hp]at P;have S:=hid P;have Y:isO h l=true:=by unfold isF at hp;simp only[Bool.and_eq_true]at hp;exact hp.1.1
  have hX:hdX h l=hdO h l:=(by unfold hdX;rw[if_pos Y]);have HR:=hid (fun X (B:Below w.heap.size w X)=>bD (H.below B) 0 δ);have hS:=fun X (B:Below w.heap.size w X)=>gQ (H.below B) l hl
  rw[hX]at hS;have HS:=hid hS;have hg:=fun X (B:Below w.heap.size w X) (k:Nat) (G:k<(hdO h l).size)=>kT (H.below B) l hl (k:Int) ω (by have:=(H.good.ok _ (isO_iff.1 Y).2.2).1.size;have G:k<(Limb.hd h (l/2)).size:=G;omega)
  have HG:=hid (fun X (B:Below w.heap.size w X) (k:Nat) (G:k<(hdO h l).size)=>show Calls prog 258 #[E F.p,Ψ l,I (k:Nat)] X fun e X'=>e=Rt #[Ψ (fld h l k),I (0:Nat)]/\Below X.heap.size X X' from by
   have:=hg X B k G;rw[(gX hp G).1,(gX hp G).2]at this;exact this)
  have HF:=hid (fun k (G:k<(hdO h l).size)=>show fld h l k=wd (bj h l) k from(fk G).symm);have M:=hid (bg H.good Y);have a3:=hid (fun k=>oD H.good l k);have HI:=hid R;have hz0:=eH H.good 0;generalize wd h.rt 0=C at*
  have hsz:(hdO h l).size<=65535:=(H.good.ok _ (isO_iff.1 Y).2.2).1.size;generalize(hdO h l).size=U at*
  have Hp:=hid hp;clear P hp Y hX hS hg H R;go_enter func213,ntmps213;go_wp2_with fail;refine(S.out).mono ?_;rintro e V ⟨rfl,A⟩;go_wp2_with fail;refine(HR.out V A).mono ?_;rintro e V1 ⟨rfl,rfl⟩;go_wp2_with fail;refine(HS.out _ A).mono ?_;rintro e V2 ⟨rfl,B⟩;replace A:=τ A B;clear B;go_wp2;go_loopw[20] (fun i wr=> ∃k:Nat,k<=U/\i= .int .i64 k/\Hid (∀j,j<k->wd (bj h l) j≠C/\p (wd (bj h l) j)=false)/\Below w.heap.size w wr) (fun i _=>U-(intOf i).toNat);case atStart=>exact⟨0,Nat.zero_le _,rfl,fun j hj=>absurd hj ω,A⟩
  case round=>
   clear A;obtain⟨k,G,rfl,L,A⟩:=hrel;by_cases h0:k<U
   ·have d1:decide ((k:Int)<(U:Int))=true:=dT;have d2:decide (k<U)=true:=decide_eq_true h0;have a4:=a3.out k;have Z:=HF.out k h0;have a5:=hid (HG.out wr A k h0);have D:=hid Z;have g:=hid (fX C p (bj h l) k L.out (by rw[M.out];exact G));have x:=hid (nn (l:=bj h l) (k:=k) (by rw[M.out];exact h0));clear Z;go_wp2_with fail;refine(a5.out).mono ?_;rintro e V3 ⟨rfl,B⟩;replace A:=τ A B;clear B;by_cases T:fld h l k=C
    ·have q:((fld h l k:Int)==(C:Int))=true:=by rw[beq_iff_eq];omega
     have O:=hid (show(Limb.ahead C (bj h l)).find? p=none from by
      rw[g.out,x.out,<-D.out,T];show(if C=C then[]else _).find? p=none;rw[if_pos rfl];rfl)
     rw[T];clear q T D x g;go_wp2;go_ret;exact⟨⟨-1,rfl,.inl ⟨rfl,fun _=>O.out⟩⟩,A⟩
    ·have q:((fld h l k:Int)==(C:Int))=false:=nE;have q2:(fld h l k==C)=false:=by rw[beq_eq_false_iff_ne];exact T
     have O:=hid T;have a0:=hid (HI.out V3 A (fld h l k) a4);generalize a1:fld h l k=v at*
     have a2:=hid a1;clear a1 T;go_wp2_with fail;refine(a0.out).mono ?_;rintro e V4 ⟨rfl,B⟩;replace A:=τ A B;clear B
     cases hpv:p v with
     |true=>
      have Q:=hid (show(Limb.ahead C (bj h l)).find? p=some (fld h l k)from by
       rw[g.out,x.out,<-D.out,a2.out];show(if v=C then[]else v :: _).find? p=some v
       rw[if_neg O.out,List.find?_cons_of_pos hpv])
      clear D x g O;rw[<-a2.out]at hpv;clear hpv;go_wp2;go_ret;exact⟨⟨k,rfl,.inr ⟨k,rfl,by trivial,h0,Q.out⟩⟩,A⟩
     |false=>
      have Q:=hid (show∀j,j<k+1->wd (bj h l) j≠C/\p (wd (bj h l) j)=false from fun j hj=>by
       by_cases e:j=k
       ·rw[e,<-D.out];exact⟨O.out,hpv⟩
       ·exact L.out j ω)
      clear D x g O hpv;go_wp2;go_roundw;case rel=>exact⟨k+1,h0,by simp,Q.out,A⟩
      case measure=>exact μ
   ·obtain rfl:k=U:=ω
    have d1:decide ((k:Int)<(k:Int))=false:=dF;have d2:decide (k<k)=false:=dF
    have O:=hid (show(Limb.ahead C (bj h l)).find? p=none from by
     rw[fX C p (bj h l) k L.out (by rw[M.out];exact G),List.drop_of_length_le (by rw[M.out];exact Nat.le_refl _)];rfl)
    go_wp2;go_ret;exact⟨⟨-1,rfl,.inl ⟨rfl,fun _=>O.out⟩⟩,A⟩
end
section
variable {w:World} {F:Foot} {h:Hp}
theorem o8{o i n:Nat}(a:isF h o 1 n=true)(b:i<n):pz h o i=fld h o i:=by
 unfold pz;rw[if_pos];unfold isF at a ⊢;simp only[Bool.and_eq_true,decide_eq_true_eq]at a ⊢;exact⟨a.1,ω⟩
theorem mV(H:HeapAt w F h)(o:Nat)(A:o<4294967296)(S:ByteArray)(hS:S.size<=262140):Calls prog 215 #[E F.p,Ψ o,.string S] w fun e w'=>e= .returned (.bool (dO h (tx S) o))/\Below w w w':=by
 have u:=hid (cP H o 2 A);obtain⟨r,z⟩: ∃b,b=dO h (tx S) o:=⟨_,rfl⟩;have d:=z;unfold dO at d;rw[<-z];have y:=hid d;clear z d
 cases hp:isF h o 1 2 with
 |false=>
  have f:=u.out;rw[hp]at f;have u:=hid f;obtain rfl:r=false:=by rw[y.out,hp];rfl
  clear f hp H y;go_enter func215,ntmps215;go_wp2_with fail;refine(u.out).mono ?_;rintro e V ⟨rfl,a⟩;go_wp2;go_ret;exact⟨rfl,a⟩
 |true=>
  have f:=u.out;rw[hp]at f;have u:=hid f;have hf:=fun X (c:Below w w X)=>ip (H.below c) o 0 A δ
  rw[o8 hp δ]at hf;have B:=hid hf;have C:=oD H.good o 0;have j:=hid (fun X (c:Below w w X)=>kQ (H.below c) (fld h o 0) C S hS);have k:=y.out;rw[hp,Bool.true_and]at k;have x:=hid k;generalize fld h o 0=v at*
  obtain⟨b,q⟩:=ξ (bT h (tx S) v);have p:=j.out;rw[<-q]at p;have j:=hid p;obtain rfl:r=b:=by rw[x.out,q]
  clear f hp H y x k hf p q;go_enter func215,ntmps215;go_wp2_with fail;refine(u.out).mono ?_;rintro e V ⟨rfl,a⟩;go_wp2_with fail;refine(B.out V a).mono ?_;rintro e D ⟨rfl,c⟩;replace a:=τ a c;clear c;go_wp2_with fail;refine(j.out _ a).mono ?_;rintro e G ⟨rfl,c⟩;replace a:=τ a c;clear c;go_wp2;go_ret;exact⟨rfl,a⟩
theorem lL(S:ByteArray)(hS:S.size<=262140)(a b:Nat)(X:World)(c:HeapAt X F h)(d:Row X a 27 [E F.p])(f:Row X b 9 [.string S])(o:Nat)(q:o<4294967296):Calls prog 256 #[Ψ (o:Nat),E a,E b] X fun e p=>e= .returned (.bool (bT h (tx S) o))/\Below X X p:=by
 have j:=hid (kQ c o q S hS);have k:=d.ae 0;have c1:=f.ae 0;simp only[List.getElem?_cons_zero]at k c1;generalize bT h (tx S) o=v at*
 clear c d f;go_enter func256,ntmps256;go_wp2_with fail;refine(j.out).mono ?_;rintro e V ⟨rfl,hB⟩;go_wp2;go_ret;exact⟨rfl,hB⟩
theorem pn(H:HeapAt w F h)(hL:C4 h)(S:ByteArray)(hS:S.size<=262140):Calls prog 211 #[E F.p,.string S] w fun e w'=>e= .returned (Ψ (ek h (tx S):Nat))/\Below w w w':=by
 obtain⟨W,hW,j,M,q⟩:=aA w 27 [E F.p];obtain⟨V,hV,O,D,u⟩:=aA W 9 [.string S];rw[q]at O;have p:Below w w V:=M.trans (D.mono ω);replace j:=j.below D j.lt;have HV:=hid (show V=(w.alloc (.cells #[E F.p] 27)).alloc (.cells #[.string S] 9) by rw[hV,hW]);have Q:=H.below p;have hl:=eH H.good 3;have R:=hid (bD Q 3 δ);have v:=hid (rU Q (wd h.rt 3) hl (bT h (tx S)) (E w) (E (N1 w)) (fun X hx o ho=>lL S hS _ _ X (Q.below hx) (j.below hx j.lt) (O.below hx O.lt) o ho));have T:=hid (fun X (b:Below w w X)=>fo (H.below b) hL);have U:=hid (fun X (b:Below w w X) k (hk:k<=65535)=>ip (H.below b) (wd h.rt 3) k hl hk);have Y:=hid (show isF h (wd h.rt 3) 1 0=false->ek h (tx S)=0 from fun e=>by unfold ek aT;rw[if_neg (by rw[e];decide)];rfl);have x:=hid (show isF h (wd h.rt 3) 1 0=true->(Limb.ahead (wd h.rt 0) (bj h (wd h.rt 3))).find? (bT h (tx S))=none->ek h (tx S)=0 from fun e N=>by unfold ek aT;rw[if_pos e,N];rfl)
 have y:=hid (fun k (hk:k<(hdO h (wd h.rt 3)).size) (e:isF h (wd h.rt 3) 1 0=true) (N:(Limb.ahead (wd h.rt 0) (bj h (wd h.rt 3))).find? (bT h (tx S))=some (fld h (wd h.rt 3) k))=>show ek h (tx S)=pz h (wd h.rt 3) k/\k<=65535 from by
  have hs:(hdO h (wd h.rt 3)).size<=65535:=by
   unfold isF at e;simp only[Bool.and_eq_true]at e;exact(H.good.ok _ (isO_iff.1 e.1.1).2.2).1.size
  refine⟨?_,ω⟩;unfold ek aT;rw[if_pos e,N]
  have:isF h (wd h.rt 3) 1 (k+1)=true:=by
   unfold isF at e ⊢;simp only[Bool.and_eq_true,decide_eq_true_eq]at e ⊢;exact⟨e.1,ω⟩
  rw[o8 this ω];rfl)
 have Z:=hid (show ek h (tx S)=ek h (tx S)from rfl);generalize G:ek h (tx S)=pl at*
 have I:=hid G;generalize A:wd h.rt 3=l at*
 have B:=j.ae 0;simp only[List.getElem?_cons_zero]at B;clear hW hV q u M D Z G A hL H;go_enter func211,ntmps211;go_wp2_with fail;rw[<-HV.out];go_wp2_with fail;refine(R.out).mono ?_;rintro e V1 ⟨rfl,rfl⟩;(try dsimp only);go_wp2_with fail;refine(v.out).mono ?_;rintro e V2 ⟨⟨z,rfl,P⟩,b⟩;(try dsimp only);replace j:=j.below b j.lt;replace p:=τ p b;clear b B O;have B:=j.ae 0;simp only[List.getElem?_cons_zero]at B;rcases P with⟨rfl,P⟩|⟨k,rfl,q,u,hz3⟩
 ·obtain rfl:pl=0:=by
   cases e:isF h l 1 0 with
   |false=>exact Y.out e
   |true=>exact x.out e (P e)
  clear P Y x y I v R;go_wp2_with fail;go_ret;exact⟨rfl,p⟩
 ·obtain⟨e1,N⟩:=y.out k u q hz3;have d1:decide ((k:Int)<0)=false:=dF;have C:=fun X b=>U.out X b k N
  rw[<-e1]at C;have L:=hid C;clear q u hz3 Y x y I v R C e1;go_wp2_with fail;refine(T.out _ p).mono ?_;rintro e V3 ⟨rfl,b⟩;(try dsimp only);replace j:=j.below b j.lt;replace p:=τ p b;clear b B;have B:=j.ae 0;simp only[List.getElem?_cons_zero]at B;go_wp2_with fail;refine(L.out _ p).mono ?_;rintro e V4 ⟨rfl,b⟩;(try dsimp only);replace p:=τ p b;clear b;go_wp2_with fail;go_ret;exact⟨rfl,p⟩
theorem mf(S:ByteArray)(hS:S.size<=262140)(a b:Nat)(X:World)(c:HeapAt X F h)(d:Row X a 27 [E F.p])(f:Row X b 9 [.string S])(o:Nat)(q:o<4294967296):Calls prog 214 #[Ψ (o:Nat),E a,E b] X fun e p=>e= .returned (.bool (dO h (tx S) o))/\Below X X p:=by
 have j:=hid (mV c o q S hS);have k:=d.ae 0;have c1:=f.ae 0;simp only[List.getElem?_cons_zero]at k c1;generalize dO h (tx S) o=v at*
 clear c d f;go_enter func214,ntmps214;go_wp2_with fail;refine(j.out).mono ?_;rintro e V ⟨rfl,hB⟩;go_wp2;go_ret;exact⟨rfl,hB⟩
theorem pi(H:HeapAt w F h)(hL:C4 h)(S:ByteArray)(hS:S.size<=262140):Calls prog 142 #[E F.p,.string S] w fun e w'=>e= .returned (Ψ (fL h (tx S):Nat))/\Below w w w':=by
 obtain⟨W,hW,j,M,q⟩:=aA w 27 [E F.p];obtain⟨V,hV,O,D,u⟩:=aA W 9 [.string S];rw[q]at O;have p:Below w w V:=M.trans (D.mono ω);replace j:=j.below D j.lt;have HV:=hid (show V=(w.alloc (.cells #[E F.p] 27)).alloc (.cells #[.string S] 9) by rw[hV,hW]);have Q:=H.below p;have hl:=eH H.good 4;have R:=hid (bD Q 4 δ);have v:=hid (sb Q (wd h.rt 4) hl (dO h (tx S)) (E w) (E (N1 w)) (fun X hx o ho=>mf S hS _ _ X (Q.below hx) (j.below hx j.lt) (O.below hx O.lt) o ho));have T:=hid (fun X (b:Below w w X)=>fo (H.below b) hL);have U:=hid (fun X (b:Below w w X) k (hk:k<=65535)=>ip (H.below b) (wd h.rt 4) k hl hk);have Y:=hid (show isF h (wd h.rt 4) 1 0=false->fL h (tx S)=0 from fun e=>by unfold fL aT;rw[if_neg (by rw[e];decide)];rfl);have x:=hid (show isF h (wd h.rt 4) 1 0=true->(Limb.ahead (wd h.rt 0) (bj h (wd h.rt 4))).find? (dO h (tx S))=none->fL h (tx S)=0 from fun e N=>by unfold fL aT;rw[if_pos e,N];rfl)
 have y:=hid (fun k (hk:k<(hdO h (wd h.rt 4)).size) (e:isF h (wd h.rt 4) 1 0=true) (N:(Limb.ahead (wd h.rt 0) (bj h (wd h.rt 4))).find? (dO h (tx S))=some (fld h (wd h.rt 4) k))=>show fL h (tx S)=pz h (wd h.rt 4) k/\k<=65535 from by
  have hs:(hdO h (wd h.rt 4)).size<=65535:=by
   unfold isF at e;simp only[Bool.and_eq_true]at e;exact(H.good.ok _ (isO_iff.1 e.1.1).2.2).1.size
  refine⟨?_,ω⟩;unfold fL aT;rw[if_pos e,N]
  have:isF h (wd h.rt 4) 1 (k+1)=true:=by
   unfold isF at e ⊢;simp only[Bool.and_eq_true,decide_eq_true_eq]at e ⊢;exact⟨e.1,ω⟩
  rw[o8 this ω];rfl)
 have Z:=hid (show fL h (tx S)=fL h (tx S)from rfl);generalize G:fL h (tx S)=pl at*
 have I:=hid G;generalize A:wd h.rt 4=l at*
 have B:=j.ae 0;simp only[List.getElem?_cons_zero]at B;clear hW hV q u M D Z G A hL H;go_enter func142,ntmps142;go_wp2_with fail;rw[<-HV.out];go_wp2_with fail;refine(R.out).mono ?_;rintro e V1 ⟨rfl,rfl⟩;(try dsimp only);go_wp2_with fail;refine(v.out).mono ?_;rintro e V2 ⟨⟨z,rfl,P⟩,b⟩;(try dsimp only);replace j:=j.below b j.lt;replace p:=τ p b;clear b B O;have B:=j.ae 0;simp only[List.getElem?_cons_zero]at B;rcases P with⟨rfl,P⟩|⟨k,rfl,q,u,hz3⟩
 ·obtain rfl:pl=0:=by
   cases e:isF h l 1 0 with
   |false=>exact Y.out e
   |true=>exact x.out e (P e)
  clear P Y x y I v R;go_wp2_with fail;go_ret;exact⟨rfl,p⟩
 ·obtain⟨e1,N⟩:=y.out k u q hz3;have d1:decide ((k:Int)<0)=false:=dF;have C:=fun X b=>U.out X b k N
  rw[<-e1]at C;have L:=hid C;clear q u hz3 Y x y I v R C e1;go_wp2_with fail;refine(T.out _ p).mono ?_;rintro e V3 ⟨rfl,b⟩;(try dsimp only);replace j:=j.below b j.lt;replace p:=τ p b;clear b B;have B:=j.ae 0;simp only[List.getElem?_cons_zero]at B;go_wp2_with fail;refine(L.out _ p).mono ?_;rintro e V4 ⟨rfl,b⟩;(try dsimp only);replace p:=τ p b;clear b;go_wp2_with fail;go_ret;exact⟨rfl,p⟩
end
theorem me(z:Nat): ∀(fl:List Nat) (k:Nat),(∀j,j<k->wd fl j≠z)->k<=fl.length->(Limb.ahead z fl).length=k+(Limb.ahead z (fl.drop k)).length
 |fl,0,_,_=>by simp
 |[],k+1,_,h=>by simp at h
 |a :: t,k+1,h,hk=>by
  have h1:a≠z:=h 0 ω;show(if a=z then[]else a :: Limb.ahead z t).length=k+1+(Limb.ahead z (t.drop k)).length
  rw[if_neg h1,List.length_cons,me z t k (fun j b=>h (j+1) ω) (by simpa using hk)];omega
theorem vf(z:Nat)(fl:List Nat):(Limb.ahead z fl).length<=fl.length:=by
 induction fl with
 |nil=>simp[Limb.ahead]
 |cons a t ih=>
  show(if a=z then[]else a :: Limb.ahead z t).length<=_
  split
  ·simp
  ·simp only[List.length_cons];omega
section
variable {w:World} {F:Foot} {h:Hp}
theorem um(H:HeapAt w F h)(l:Nat)(hl:l<4294967296)(hp:isF h l 1 0=true):Calls prog 219 #[E F.p,Ψ l] w fun e w'=>e= .returned (I (Limb.ahead (wd h.rt 0) (bj h l)).length)/\Below w w w':=by
 have hi:isO h l=true:=by unfold isF at hp;simp only[Bool.and_eq_true]at hp;exact hp.1.1
 have hX:hdX h l=hdO h l:=by unfold hdX;rw[if_pos hi]
 have HR:=hid (bD H 0 δ);have hS:=fun X (hb:Below w w X)=>gQ (H.below hb) l hl
 rw[hX]at hS;have HS:=hid hS;have hok:(hdO h l).Ok:=(H.good.ok _ (isO_iff.1 hi).2.2).1;have hsz:(hdO h l).size<=65535:=hok.size
 have HG:=hid (fun X (hb:Below w w X) (k:Nat) (hk:k<(hdO h l).size)=>show Calls prog 258 #[E F.p,Ψ l,I (k:Nat)] X fun e X'=>e=Rt #[Ψ (fld h l k),I (0:Nat)]/\Below X.heap.size X X' from by
  have:=kT (H.below hb) l hl (k:Int) ω ω;rw[(gX hp hk).1,(gX hp hk).2]at this;exact this)
 have HF:=hid (fun k (hk:k<(hdO h l).size)=>show fld h l k=wd (bj h l) k from(fk hk).symm);have HFL:=hid (bg H.good hi);generalize wd h.rt 0=nl at*
 generalize(hdO h l).size=sz at*
 obtain⟨N,hN⟩:=ξ ((Limb.ahead nl (bj h l)).length);rw[<-hN];have HN:=hid hN;clear hN hp hi hX hS hok H;go_enter func219,ntmps219;go_wp2_with fail;refine(HR.out).mono ?_;rintro e V1 ⟨rfl,rfl⟩;go_wp2_with fail;refine(HS.out _ (Below.refl _ _)).mono ?_;rintro e V2 ⟨rfl,hB⟩;go_wp2;go_loopw[14] (fun i wr=> ∃k:Nat,k<=sz/\i= .int .i64 k/\Hid (∀j,j<k->wd (bj h l) j≠nl)/\Below w w wr) (fun i _=>sz-(intOf i).toNat);case atStart=>exact⟨0,Nat.zero_le _,rfl,fun j hj=>absurd hj ω,hB⟩
 case round=>
  clear hB;obtain⟨k,hk,rfl,HPre,hB⟩:=hrel;by_cases h0:k<sz
  ·have d1:decide ((k:Int)<(sz:Int))=true:=dT;have d2:decide (k<sz)=true:=decide_eq_true h0;have Hfk:=hid (HF.out k h0);have HG1:=hid (HG.out wr hB k h0);have HLen:=hid (me nl (bj h l) k HPre.out (by rw[HFL.out];exact hk));have HDrop:=hid (nn (l:=bj h l) (k:=k) (by rw[HFL.out];exact h0));go_wp2_with fail;refine(HG1.out).mono ?_;rintro e V3 ⟨rfl,hb⟩;replace hB:=τ hB hb;clear hb;by_cases hn:fld h l k=nl
   ·obtain rfl:N=k:=by
     rw[HN.out,HLen.out,HDrop.out,<-Hfk.out,hn];show k+(if nl=nl then[]else _).length=k
     rw[if_pos rfl];rfl
    rw[hn];clear hn Hfk HDrop HLen;go_wp2;go_ret;exact⟨rfl,hB⟩
   ·have q:((fld h l k:Int)==(nl:Int))=false:=nE;have q2:(fld h l k==nl)=false:=by rw[beq_eq_false_iff_ne];exact hn
    have HN2:=hid (show∀j,j<k+1->wd (bj h l) j≠nl from fun j hj=>by
     by_cases e:j=k
     ·rw[e,<-Hfk.out];exact hn
     ·exact HPre.out j ω)
    generalize fld h l k=v at*
    clear Hfk HDrop HLen hn;go_wp2;go_roundw;case rel=>exact⟨k+1,h0,by simp,HN2.out,hB⟩
    case measure=>exact μ
  ·obtain rfl:k=sz:=ω
   have d1:decide ((k:Int)<(k:Int))=false:=dF;have d2:decide (k<k)=false:=dF
   obtain rfl:N=k:=by
    rw[HN.out,me nl (bj h l) k HPre.out (by rw[HFL.out];exact hk),List.drop_of_length_le (by rw[HFL.out];exact Nat.le_refl _)];rfl
   go_wp2_with fail;refine(HS.out _ hB).mono ?_;rintro e V3 ⟨rfl,hb⟩;replace hB:=τ hB hb;clear hb;go_wp2;go_ret;exact⟨rfl,hB⟩
end
section
variable {w:World} {F:Foot} {h:Hp}
theorem yA{r o:Nat}{b:Hp}(e:jJ h r o=some b):isF h (wd h.rt r) 1 0=true/\(aT h r).length=(Limb.ahead (wd h.rt 0) (bj h (wd h.rt r))).length/\isF h (wd h.rt r) 1 ((aT h r).length+1)=true/\b=Limb.putF h (wd h.rt r) (aT h r).length o:=by
 unfold jJ at e;simp only at e;split at e
 ·rename_i a
  have h0:isF h (wd h.rt r) 1 0=true:=by
   unfold isF at a ⊢;simp only[Bool.and_eq_true,decide_eq_true_eq]at a ⊢;exact⟨a.1,Nat.zero_le _⟩
  refine⟨h0,?_,a,(Option.some.inj e).symm⟩;unfold aT;rw[if_pos h0]
 ·cases e
theorem ot(H:HeapAt w F h)(r:Nat)(S:r<64)(o:Nat)(T:o<4294967296)(c:dS h o=true)(B:Hp)(M:jJ h r o=some B):Calls prog 146 #[E F.p,I r,Ψ o] w fun e w'=>e= .returned (I 0)/\Step w F w' F B:=by
 obtain⟨h0,h1,u,G⟩:=yA M;have v:=eH H.good r;have N:=hid (bD H r S);have x:=fun X (b:Below w w X)=>um (H.below b) (wd h.rt r) v h0
 rw[<-h1]at x;have p:isO h (wd h.rt r)=true:=by unfold isF at h0;simp only[Bool.and_eq_true]at h0;exact h0.1.1
 have hX:hdX h (wd h.rt r)=hdO h (wd h.rt r):=by unfold hdX;rw[if_pos p]
 have hS:=fun X (b:Below w w X)=>gQ (H.below b) (wd h.rt r) v
 rw[hX]at hS;generalize(aT h r).length=n at*
 generalize wd h.rt r=l at*
 have C:n<(hdO h l).size/\(hdO h l).fmt=1:=by
  unfold isF at u;simp only[Bool.and_eq_true,decide_eq_true_eq]at u;exact⟨ω,u.1.2⟩
 have O:(hdO h l).size<=65535:=(H.good.ok _ (isO_iff.1 p).2.2).1.size;have a:(hdO h l).len=(hdO h l).size:=fr ω;have D:bB h l (n:Int) [1,4]=0:=lookE_zero.2 ⟨p,by rw[C.2];rfl,ω,by rw[a];omega⟩;have d:mZ h l (n:Int) o=0:=by unfold mZ;rw[if_pos D,if_pos c]
 have j:sJ h l (n:Int) o=B:=by unfold sJ;rw[if_pos d,Int.toNat_natCast,G]
 have y:=fun X (b:Below w w X)=>uT (H.below b) l v (n:Int) ω ω o T
 rw[d,j]at y;generalize(hdO h l).size=L at*
 have q:((n:Int)==(L:Int))=false:=nE
 have U:(n==L)=false:=nE
 have P:=hid x;have Q:=hid hS;have R:=hid y;clear x hS y d j D a hX p h0 h1 u G M c H C;go_enter func146,ntmps146;go_wp2_with fail;refine(N.out).mono ?_;rintro e V ⟨rfl,rfl⟩;go_wp2_with fail;refine(P.out _ (Below.refl _ _)).mono ?_;rintro e Y ⟨rfl,k⟩;go_wp2_with fail;refine(Q.out _ k).mono ?_;rintro e Z ⟨rfl,b⟩;replace k:=τ k b;clear b;go_wp2_with fail;refine(R.out _ k).mono ?_;rintro e V4 ⟨rfl,hSt⟩;have A:=hid (Step.of_below k hSt);clear hSt;go_wp2;go_ret;exact⟨rfl,A.out⟩
end
section
variable {w:World} {F:Foot} {h:Hp}
theorem uX(H:HeapAt w F h)(c1 j k:Value)(Q:World->Prop)(d: ∀X,Below w.heap.size w X->Calls prog 212 #[c1,j,k] X fun e t=>e= .returned (I 0)/\Q t):Calls prog 144 #[E F.p,.func (.func 212) #[] #[c1,j,k]] w fun e w'=>e= .returned (I 0)/\Q w':=by
 have l:=hid (kj H);have g:=hid (fun X (a:Below w.heap.size w X)=>oT (H.below a));have i:=hid (fun X (a:Below w.heap.size w X)=>mc (H.below a));have p:=hid d;clear d H;go_enter func144,ntmps144;go_wp2_with fail;refine(l.out).mono ?_;rintro e r ⟨⟨g1,c1',rfl,_,_⟩,b⟩;go_wp2_with fail;refine(g.out r b).mono ?_;rintro e s ⟨⟨g2,c2',rfl,_,_⟩,a⟩;replace b:=τ b a;clear a;go_wp2_with fail;refine(i.out s b).mono ?_;rintro e v ⟨rfl,rfl⟩;go_wp2_with fail;refine(p.out _ b).mono ?_;rintro e x ⟨rfl,hQ⟩;have q:=hid hQ;clear hQ;go_wp2;go_ret;exact⟨rfl,q.out⟩
theorem nS(H:HeapAt w F h)(c1 j k l:Value)(Q:World->Prop)(d: ∀X,Below w.heap.size w X->Calls prog 145 #[c1,j,k,l] X fun e v=>e= .returned (I 0)/\Q v):Calls prog 144 #[E F.p,.func (.func 145) #[] #[c1,j,k,l]] w fun e w'=>e= .returned (I 0)/\Q w':=by
 have p:=hid (kj H);have g:=hid (fun X (a:Below w.heap.size w X)=>oT (H.below a));have i:=hid (fun X (a:Below w.heap.size w X)=>mc (H.below a));have q:=hid d;clear d H;go_enter func144,ntmps144;go_wp2_with fail;refine(p.out).mono ?_;rintro e s ⟨⟨g1,c1',rfl,_,_⟩,b⟩;go_wp2_with fail;refine(g.out s b).mono ?_;rintro e t ⟨⟨g2,c2',rfl,_,_⟩,a⟩;replace b:=τ b a;clear a;go_wp2_with fail;refine(i.out t b).mono ?_;rintro e x ⟨rfl,rfl⟩;go_wp2_with fail;refine(q.out _ b).mono ?_;rintro e y ⟨rfl,hQ⟩;have r:=hid hQ;clear hQ;go_wp2;go_ret;exact⟨rfl,r.out⟩
end
theorem el{P:Program}(w:World)(b d e:TypeId)(S:ByteArray){u:TypeDesc}(hs:P.underlying b=some u)(p:P.underlying d=some (.slice e))(q:P.underlying e=some (.int .u8)): ∃c W,(convert b d (.string S)).run P w= .ok (M w S.size c) W/\Lay .u8 W (some ⟨w,0,none⟩) (tx S)/\Below w w W:=by
 refine⟨_,_,Lib.run_convert_string_bytes w b d e S hs p q,?_,?_⟩
 ·refine⟨w,0,fun _=>⟨rfl,by rw[Lib.bytesWorld_size];omega⟩,fun i f=>?_⟩;rw[cJ]at f;rw[Nat.zero_add,Lib.bytesWorld_cell w e S i f]
  have:wd (tx S) i=(S.data.toList.getD i 0).toNat:=by
   have h1:i<S.data.toList.length:=(by rw[Array.length_toList];exact f);have j:i<(tx S).length:=by rw[cJ];exact f
   rw[wd_lt j];simp[tx,List.getD,List.getElem?_eq_getElem h1]
  rw[this]
 ·refine⟨?_,?_,?_,by rw[Lib.bytesWorld_size];omega,fun k m=>Lib.bytesWorld_at_old w e S k m⟩;all_goals simp[Lib.bytesWorld,World.freeze,World.alloc,World.drew,-World.alloc_eq,-World.drew_eq]
section
variable {F:Foot} {h:Hp}
theorem il{w:World}{F a:Foot}{g:Nat}(n:F.Next a w)(c:g<w.heap.size)(b:g∉F.l):g∉a.l:=fun e=>by
 rcases n.mem g e with x|x
 ·exact b x
 ·omega
theorem mx(S:ByteArray)(hS:S.size<=262140)(h0:0<S.size)(a b c:Nat)(X:World)(HX:HeapAt X F h)(R:Row X a 27 [E F.p])(rb:Row X b 9 [.string S])(v0:Value)(O:Row X c 26 [v0])(ha:a∉F.l)(N:b∉F.l)(hc:c∉F.l)(hc5:5<=c)(hac:a≠c)(o:Nat)(h1 h2:Hp)(hp1:fK h (wd h.rt 18) (tx S)=some (o,h1))(hp2:jJ h1 3 o=some h2):Calls prog 212 #[E a,E b,E c] X fun e X'=>e= .returned (I 0)/\∃F',HeapAt X' F' h2/\F.Next F' X/\Only (c :: F.l) X X'/\Row X' c 26 [Ψ o]:=by
 obtain⟨-,i1⟩:=mh HX.good (jP S) (by rw[cJ];exact hS) hp1;have HMk:=hid (fun Y cap g (hY:Below X.heap.size X Y) (hl:Lay .u8 Y (some ⟨g,0,none⟩) (tx S))=>show Calls prog 118 #[E F.p,Ψ (wd h.rt 18:Nat),M g S.size cap] Y fun e w'=>e=Rt #[Ψ o,I 0]/\Moved X F w' h1 from(qj (HX.below hY) (wd h.rt 18) _ (tx S) S.size cap o h1 hl (jP S) (cJ S).symm h0 hS hp1).mono fun e w' ⟨x,F',y⟩=>⟨x,F',Step.of_below hY y⟩);have HR:=hid (fun V (D:Below X.heap.size X V)=>(bD (HX.below D) 18 δ).mono (R':=fun e w'=>e= .returned (Ψ (wd h.rt 18:Nat))/\Below V.heap.size V w') fun e w' ⟨x,y⟩=>⟨x,by rw[<-y];exact Below.refl _ _⟩);have HCv:=hid (fun V=>el (P:=prog) V 9 50 5 S underlying9 underlying50 underlying5);have HPt:=hid (fun Y L (H1:HeapAt Y L h1)=>ot H1 3 δ o (aM H1.good (aH i1)) (bL (aH i1)) h2 hp2);have HXs:=hid HX;have D:Below X.heap.size X X.drew:=(Below.refl _ _).drew;have ra0:Row X.drew a 27 [E F.p]:=R;have rb0:Row X.drew b 9 [.string S]:=rb;have RA:=hid R;have RB:=hid rb;have RC:=hid O;have HA:=hid (show a∉F.l/\b∉F.l/\c∉F.l/\a≠c from⟨ha,N,hc,hac⟩);clear HX R rb O ha N hc hac hp1 hp2 i1;go_enter func212,ntmps212;go_wp2_with fail;have hX:Row X.drew a 27 [E F.p]/\Row X.drew b 9 [.string S]:=⟨ra0,rb0⟩;clear ra0 rb0;refine wp_region_held (S:=fun Y=>Row Y a 27 [E F.p]/\Row Y b 9 [.string S]) κ ?_;refine tk 0 (E F.p) ?_ (y:=fun X hX=>by have c0:=hX.1.ae 0;simp only[List.getElem?_cons_zero]at c0;go_simp);refine tk 1 (E F.p) ?_ (y:=fun X hX=>by have c0:=hX.1.ae 0;simp only[List.getElem?_cons_zero]at c0;go_simp);refine tk 3 (.string S) ?_ (y:=fun X hX=>by have c0:=hX.2.ae 0;simp only[List.getElem?_cons_zero]at c0;go_simp);refine wpAnyH_all (rs:=[2,4]) κ δ (fun i hi=>?_);simp only[List.mem_cons,List.not_mem_nil,or_false]at hi;rcases hi with rfl|rfl
 ·unfold wpOp;go_simp;refine .inl ((HR.out _ D).mono ?_);rintro e X1 ⟨rfl,N⟩;replace hX:=(⟨hX.1.below N hX.1.lt,hX.2.below N hX.2.lt⟩:_/\_);replace D:=τ D N;(try replace v:=v.below N);clear N;refine⟨hX,?_⟩;refine wo 4 ?_;obtain⟨cp,X2,a5,v,j⟩:=HCv.out (X1);generalize Q:(X1).heap.size=gg at a5 v j;unfold wpOp;go_simp;clear a5;rw[<-Q]at j;replace hX:=(⟨hX.1.below j hX.1.lt,hX.2.below j hX.2.lt⟩:_/\_);replace D:=τ D j;clear j Q;refine .inl ⟨hX,?_⟩;refine wo 5 ?_;unfold wpOp;go_simp;refine .inl ((HMk.out _ _ _ D v).mono ?_);rintro e X3 ⟨rfl,L,hMv⟩;obtain⟨q1,q2,q3,q4⟩:=HA.out;replace hX:=(⟨RA.out.only hMv.2.2 q1,RB.out.only hMv.2.2 q2⟩:_/\_);refine⟨hX,?_⟩;refine tk 6 (.tuple #[Ψ o,I 0]) ?_;refine tk 7 (Ψ o) ?_;refine tk 8 (I 0) ?_;refine tk 9 (Ψ o) ?_;refine tk 10 (I 0) ?_;refine wpAnyH_done κ ?_ _;have R:=hX.1;have c0:=R.ae 0;simp only[List.getElem?_cons_zero]at c0;have hcl:c<X.heap.size:=RC.out.lt;have T:F.Next L X:=hMv.2.1;have f:Only F.l X X3:=hMv.2.2;have O:=RC.out.only f q3;have cc:=O.ae 0;have zc:=O.free 0;simp only[List.getElem?_cons_zero]at cc;have U:Only (c :: F.l) X X3:=⟨f.os,f.tape,f.output,f.size,fun k hk hn=>f.block k hk (fun e=>hn (List.mem_cons_of_mem _ e))⟩;have G:c∉L.l:=il T hcl q3;have a0:=hMv.1;obtain⟨Z,hZ⟩:=ξ (X3.setCell ⟨c,0,none⟩ (Ψ o));have z:Only [c] X3 Z:=by rw[hZ];exact(Only.refl _ _).setCell (by simp) _
  have HZ:=hid hZ;have H2:HeapAt Z L h1:=a0.only z (fun g hg e=>G (by rw[List.mem_singleton]at e;rw[<-e];exact hg)) (by simp;omega);have a1:Row Z c 26 [Ψ o]:=by rw[hZ];exact O.af 0 _
  have a2:Row Z a 27 [E F.p]:=R.only z (by simp;exact q4);have a3:Only (c :: F.l) X Z:=U.trans z (fun q hq=> .inl (by rw[List.mem_singleton]at hq;rw[hq];exact List.mem_cons_self));have A:L.p=F.p:=T.p;have H:=HPt.out Z L H2;rw[A]at H;have HP2:=hid H;have c1:=a2.ae 0;simp only[List.getElem?_cons_zero]at c1;clear hX hMv R O U f a0 z H a2 hZ A D v HMk HR HCv HPt RA RB RC HA q1 q2 q3 q4 H2;rw[HZ.out]at c1;go_wp2_with fail;rw[<-HZ.out];refine(HP2.out).mono ?_;rintro e Y2 ⟨rfl,hSt⟩;(try dsimp only);have B: ∃F',HeapAt Y2 F' h2/\F.Next F' X/\Only (c :: F.l) X Y2/\Row Y2 c 26 [Ψ o]:=⟨L,hSt.1,T,a3.trans hSt.2.2 (fun q hq=>(T.mem q hq).imp (fun e=>List.mem_cons_of_mem _ e) id),hSt.beside a1 G⟩;have a4:=hid B;clear hSt B a1 a3 T G;go_wp2_with fail;go_ret;exact⟨rfl,a4.out⟩
 ·obtain⟨cp,X4,a5,v,j⟩:=HCv.out (X.drew);generalize Q:(X.drew).heap.size=gg at a5 v j;unfold wpOp;go_simp;clear a5;rw[<-Q]at j;replace hX:=(⟨hX.1.below j hX.1.lt,hX.2.below j hX.2.lt⟩:_/\_);replace D:=τ D j;clear j Q;refine .inl ⟨hX,?_⟩;refine wo 2 ?_;unfold wpOp;go_simp;refine .inl ((HR.out _ D).mono ?_);rintro e X5 ⟨rfl,N⟩;replace hX:=(⟨hX.1.below N hX.1.lt,hX.2.below N hX.2.lt⟩:_/\_);replace D:=τ D N;(try replace v:=v.below N);clear N;refine⟨hX,?_⟩;refine wo 5 ?_;unfold wpOp;go_simp;refine .inl ((HMk.out _ _ _ D v).mono ?_);rintro e X6 ⟨rfl,L,hMv⟩;obtain⟨q1,q2,q3,q4⟩:=HA.out;replace hX:=(⟨RA.out.only hMv.2.2 q1,RB.out.only hMv.2.2 q2⟩:_/\_);refine⟨hX,?_⟩;refine tk 6 (.tuple #[Ψ o,I 0]) ?_;refine tk 7 (Ψ o) ?_;refine tk 8 (I 0) ?_;refine tk 9 (Ψ o) ?_;refine tk 10 (I 0) ?_;refine wpAnyH_done κ ?_ _;have R:=hX.1;have c0:=R.ae 0;simp only[List.getElem?_cons_zero]at c0;have hcl:c<X.heap.size:=RC.out.lt;have T:F.Next L X:=hMv.2.1;have f:Only F.l X X6:=hMv.2.2;have O:=RC.out.only f q3;have cc:=O.ae 0;have zc:=O.free 0;simp only[List.getElem?_cons_zero]at cc;have U:Only (c :: F.l) X X6:=⟨f.os,f.tape,f.output,f.size,fun k hk hn=>f.block k hk (fun e=>hn (List.mem_cons_of_mem _ e))⟩;have G:c∉L.l:=il T hcl q3;have a0:=hMv.1;obtain⟨Z,hZ⟩:=ξ (X6.setCell ⟨c,0,none⟩ (Ψ o));have z:Only [c] X6 Z:=by rw[hZ];exact(Only.refl _ _).setCell (by simp) _
  have HZ:=hid hZ;have H2:HeapAt Z L h1:=a0.only z (fun g hg e=>G (by rw[List.mem_singleton]at e;rw[<-e];exact hg)) (by simp;omega);have a1:Row Z c 26 [Ψ o]:=by rw[hZ];exact O.af 0 _
  have a2:Row Z a 27 [E F.p]:=R.only z (by simp;exact q4);have a3:Only (c :: F.l) X Z:=U.trans z (fun q hq=> .inl (by rw[List.mem_singleton]at hq;rw[hq];exact List.mem_cons_self));have A:L.p=F.p:=T.p;have H:=HPt.out Z L H2;rw[A]at H;have HP2:=hid H;have c1:=a2.ae 0;simp only[List.getElem?_cons_zero]at c1;clear hX hMv R O U f a0 z H a2 hZ A D v HMk HR HCv HPt RA RB RC HA q1 q2 q3 q4 H2;rw[HZ.out]at c1;go_wp2_with fail;rw[<-HZ.out];refine(HP2.out).mono ?_;rintro e Y2 ⟨rfl,hSt⟩;(try dsimp only);have B: ∃F',HeapAt Y2 F' h2/\F.Next F' X/\Only (c :: F.l) X Y2/\Row Y2 c 26 [Ψ o]:=⟨L,hSt.1,T,a3.trans hSt.2.2 (fun q hq=>(T.mem q hq).imp (fun e=>List.mem_cons_of_mem _ e) id),hSt.beside a1 G⟩;have a4:=hid B;clear hSt B a1 a3 T G;go_wp2_with fail;go_ret;exact⟨rfl,a4.out⟩
end
section
variable {w:World} {F:Foot} {h:Hp}
theorem Moved.then{w' c:World}{g d:Hp}(a:Moved w F w' g)(b: ∀e,Step w F w' e g->Moved w' e c d):Moved w F c d:=by
 obtain⟨e,a⟩:=a;obtain⟨f,b⟩:=b e a;exact⟨f,a.trans b⟩
def StepC(ps:List Nat)(w:World)(F:Foot)(w':World)(a:Foot)(b:Hp):Prop:=HeapAt w' a b/\F.Next a w/\Only (ps++F.l) w w'
theorem StepC.refl{ps:List Nat}(H:HeapAt w F h):StepC ps w F w F h:=⟨H,Foot.Next.refl _ _,Only.refl _ _⟩
theorem StepC.step{ps:List Nat}{w' c:World}{g d:Foot}{k f:Hp}(a:StepC ps w F w' g k)(b:Step w' g c d f):StepC ps w F c d f:=
 ⟨b.1,a.2.1.trans b.2.1 a.2.2.size,a.2.2.trans b.2.2 (fun q j=>(a.2.1.mem q j).imp (fun e=>List.mem_append_right _ e) id)⟩
theorem StepC.below{ps:List Nat}{w' c:World}{d:Foot}{f:Hp}(a:StepC ps w F w' d f)(g:Below w' w' c):StepC ps w F c d f:=
 ⟨a.1.below g,a.2.1,a.2.2.trans (qs:=[]) (Only.of_below g) (fun q i=>by cases i)⟩
theorem StepC.store{ps:List Nat}{w':World}{b:Foot}{j:Hp}(a:StepC ps w F w' b j){c i:Nat}(v:Value)(m:c∈ps∨w.heap.size<=c)(p:c∉b.l)(u:5<=c):StepC ps w F (w'.setCell ⟨c,i,none⟩ v) b j:=by
 have d:Only [c] w' (w'.setCell ⟨c,i,none⟩ v):=(Only.refl _ _).setCell (by simp) _;refine⟨a.1.only d (fun g k e=>p (by rw[List.mem_singleton]at e;rw[<-e];exact k)) (by simp;omega),a.2.1,a.2.2.trans d (fun q f=>?_)⟩;rw[List.mem_singleton]at f;subst f;exact m.imp (fun e=>List.mem_append_left _ e) id
theorem StepC.moved{ps:List Nat}{b w':World}{d:Foot}{f:Hp}(a:StepC ps w F w' d f)(c:Below b b w)(j: ∀g∈ps,b.heap.size<=g):Moved b F w' f:=
 ⟨d,a.1,⟨a.2.1.p,a.2.1.gr,a.2.1.gw.imp id (fun e=>Nat.le_trans c.size e),a.2.1.gs.imp id (fun e=>Nat.le_trans c.size e)⟩,(Only.of_below c).trans a.2.2 (fun q i=>by rcases List.mem_append.1 i with e|e;exact .inr (j q e);exact .inl e)⟩
theorem StepC.row{ps:List Nat}{w':World}{c:Foot}{d:Hp}(a:StepC ps w F w' c d){g:Nat}{e:TypeId}{b:List Value}(f:Row w g e b)(h1:g∉F.l)(i:g∉ps):Row w' g e b:=
 f.only a.2.2 (fun e=>by rcases List.mem_append.1 e with e|e;exact i e;exact h1 e)
theorem StepC.aside{ps:List Nat}{w':World}{b:Foot}{c:Hp}(a:StepC ps w F w' b c){g:Nat}(h1:g∉F.l)(d:g<w.heap.size):g∉b.l:=il a.2.1 d h1
theorem fW(H:HeapAt w F h){o i v:Nat}(hf:isF h o 1 (i+1)=true)(p:i<=65535)(k:dS h v=true)(d:v<4294967296):Calls prog 59 #[E F.p,Ψ o,I i,Ψ v] w fun e w'=>e= .returned (I 0)/\Step w F w' F (Limb.putF h o i v):=by
 obtain⟨f,j,m⟩:=isF_iff.1 hf;have a:(hdO h o).len=(hdO h o).size:=fr ω;have g:bB h o (i:Int) [1,4]=0:=lookE_zero.2 ⟨f,by rw[j];rfl,ω,by rw[a];omega⟩;have b:mZ h o (i:Int) v=0:=by unfold mZ;rw[if_pos g,if_pos k]
 have c:sJ h o (i:Int) v=Limb.putF h o i v:=by unfold sJ;rw[if_pos b,Int.toNat_natCast]
 have:=uT H o (aM H.good f) (i:Int) ω ω v d;rw[b,c]at this;exact this
end
theorem Ker.bare{h:Hp}(K:Limb.Ker h):C4 h:=fun j a=>by
 have h1:=isO_iff.1 (K.live j a);rw[kind_two.2 ⟨h1.1,h1.2.1⟩];decide
section
variable {w:World} {F:Foot} {h:Hp}
theorem gT(H:HeapAt w F h)(K:Limb.Ker h)(S:ByteArray)(hS:S.size<=262140)(h0:0<S.size)(o:Nat)(h':Hp)(hp:bY h (tx S)=some (o,h')):Calls prog 140 #[E F.p,.string S] w fun e w'=>e=Rt #[Ψ o,I 0]/\Moved w F w' h':=by
 obtain⟨W,hW,j,Q,R⟩:=aA w 27 [E F.p];obtain⟨V,hV,A,k,a1⟩:=aA W 9 [.string S];rw[R]at A;have G:Below w w V:=Q.trans (k.mono ω);replace j:=j.below k j.lt;have HV:=hid (show V=(w.alloc (.cells #[E F.p] 27)).alloc (.cells #[.string S] 9) by rw[hV,hW]);have z:=H.below G;have B:=hid (pn z (Ker.bare K) S hS);have C:=j.ae 0;have c1:=A.ae 0;simp only[List.getElem?_cons_zero]at C c1;have L:V.heap.size=w.heap.size+2:=ω
 by_cases hs:ek h (tx S)=0
 ·have u:=hp;unfold bY at u;simp only[hs,if_true]at u;obtain⟨⟨o1,h1⟩,e1,e2⟩:=Option.bind_eq_some_iff.1 u;obtain⟨h2,e3,e4⟩:=Option.map_eq_some_iff.1 e2;rw[Prod.mk.injEq]at e4;obtain⟨rfl,rfl⟩:=e4;have N:=B.out;rw[hs]at N;have B:=hid N;have U:=hid (fun X (HX:HeapAt X F h) c (rA:Row X w 27 [E F.p]) (rB:Row X (N1 w) 9 [.string S]) (T:Row X c 26 [Ψ 0]) (O:w.heap.size+1<c)=>mx S hS h0 w (N1 w) c X HX rA rB _ T (fun e=>Nat.lt_irrefl _ (H.lt _ e)) (fun e=>absurd (H.lt _ e) ω) (fun e=>absurd (H.lt _ e) ω) (by have:=H.lt _ (mM F);have:=H.low;omega) ω o1 h1 h2 e1 e3);have HLt:=hid (H.lt);clear hW hV R a1 Q k N hp u hs e1 e2 e3 H;go_enter func140,ntmps140;go_wp2_with fail;rw[<-HV.out];go_wp2_with fail;refine(B.out).mono ?_;rintro e v ⟨rfl,hb⟩;(try dsimp only);replace j:=j.below hb j.lt;replace A:=A.below hb A.lt;replace z:=z.below hb;replace G:=τ G hb;replace L:w.heap.size+2<=v.heap.size:=by have:=hb.size;omega
  clear hb C c1 B HV;have Z:=hid (fun Y (p:Below v v Y)=>(fo (z.below p) (Ker.bare K)).mono (R':=fun e w'=>e= .returned (.bool false)/\Below v v w') fun e w' ⟨x,y⟩=>⟨x,p.trans (y.mono p.size)⟩);have HR:=hid (fun Y (p:Below v v Y)=>(bD (z.below p) 3 δ).mono (R':=fun e w'=>e= .returned (Ψ (wd h.rt 3:Nat))/\Below v v w') fun e w' ⟨x,y⟩=>⟨x,by rw[<-y];exact p⟩);have HP:=hid (fun Y (p:Below v v Y)=>(cP (z.below p) (wd h.rt 3) 0 (eH z.good 3)).mono (R':=fun e w'=>e= .returned (.bool true)/\Below v v w') fun e w' ⟨x,y⟩=>⟨by rw[x,K.l3],p.trans (y.mono p.size)⟩);go_wp2_with fail;refine bH (fun Y=>Below v v Y) κ κ (Below.refl _ _).drew ?_;show wpQuiet _ _ _ _ [_,_,_,_,_,_,_,_,_] _
  refine qa (E F.p) ?_ (f:=by intro Y p;have C:=(j.below p j.lt).ae 0;simp only[List.getElem?_cons_zero]at C;go_simp);refine qa (.bool false) ?_ (f:=by intro Y p;go_simp;exact Z.out Y p);refine qa (.bool false) ?_;refine qa (E F.p) ?_ (f:=by intro Y p;have C:=(j.below p j.lt).ae 0;simp only[List.getElem?_cons_zero]at C;go_simp);refine qa (E F.p) ?_ (f:=by intro Y p;have C:=(j.below p j.lt).ae 0;simp only[List.getElem?_cons_zero]at C;go_simp);refine qa (Ψ (wd h.rt 3:Nat)) ?_ (f:=by intro Y p;go_simp;exact HR.out Y p);refine qa (.bool true) ?_ (f:=by intro Y p;go_simp;exact HP.out Y p);refine qa (.bool false) ?_;refine qa (.bool false) ?_;refine wpQuiet_nil ?_;intro V2 k;replace j:=j.below k j.lt;replace A:=A.below k A.lt;replace z:=z.below k;replace G:=τ G k;replace L:w.heap.size+2<=V2.heap.size:=by have:=k.size;omega
  clear k Z HR HP;obtain⟨V3,a2,T,D,hz3⟩:=aA V2 26 [Ψ 0];have HV3:=hid a2;have M:=j;have hlt:=j.lt;replace j:=j.below D j.lt;replace A:=A.below D A.lt;replace z:=z.below D;replace G:=τ G D;obtain⟨c,hc⟩:=ξ V2.heap.size;rw[<-hc]at T;have Hc:=hid hc;have O:w.heap.size+1<c:=ω
  have P:Row V2 w 27 [E F.p]:=M;have C:=P.ae 0;have hlt2:=P.lt;simp only[List.getElem?_cons_zero]at C;have hcl:=T.lt;have HQ:=hid (uX z (E w) (E (N1 w)) (E c) (fun X'=> ∃F',StepC [c] V3 F X' F' h2/\Row X' c 26 [Ψ o1]) (fun X hX=>(U.out X (z.below hX) c (j.below hX j.lt) (A.below hX A.lt) (T.below hX T.lt) O).mono fun e X' ⟨x,F',y1,y2,y3,y4⟩=>⟨x,F',⟨y1,⟨y2.p,y2.gr,y2.gw.imp id (fun e=>Nat.le_trans hX.size e),y2.gs.imp id (fun e=>Nat.le_trans hX.size e)⟩,(Only.of_below hX).trans y3 (fun q hq=> .inl hq)⟩,y4⟩));have HcF:=hid (show w.heap.size<=c from ω);clear z U j A T P M hlt O a2 D hz3 hc L;go_wp2_with fail;rw[<-Hc.out,<-HV3.out];refine(HQ.out).mono ?_;rintro e V4 ⟨rfl,F',hT,rc4⟩;(try dsimp only);have HM:=hid (hT.moved G (by intro g hg;rw[List.mem_singleton]at hg;rw[hg];exact HcF.out));have c4:=rc4.ae 0;simp only[List.getElem?_cons_zero]at c4;clear hT rc4 HQ;go_wp2_with fail;go_ret2;exact⟨rfl,HM.out⟩
 ·have u:=hp;unfold bY at u;simp only[hs,if_false]at u;rw[Option.some.injEq,Prod.mk.injEq]at u;obtain⟨rfl,rfl⟩:=u;have q:(((ek h (tx S):Nat):Int)==0)=false:=nE
  have q2:(((ek h (tx S):Nat))==0)=false:=nE;have a0:=hid (show∀Y,Below w w Y->Moved w F Y h from fun Y hY=>⟨F,(Step.refl H).below hY⟩);generalize ek h (tx S)=o at*
  clear hW hV R a1 Q k hp hs H z j A L;go_enter func140,ntmps140;go_wp2_with fail;rw[<-HV.out];go_wp2_with fail;refine(B.out).mono ?_;rintro e v ⟨rfl,hb⟩;(try dsimp only);have HM:=hid (a0.out _ (τ G hb));clear hb a0 C c1;go_wp2_with fail;go_ret2;exact⟨rfl,HM.out⟩
end
section
variable {F:Foot} {h:Hp}
theorem jI(K:Limb.Ker h)(S:ByteArray)(hS:S.size<=262140)(h0:0<S.size)(v:Nat)(hv:isO h v=true)(a b c d:Nat)(X:World)(HX:HeapAt X F h)(ra:Row X a 27 [E F.p])(rb:Row X b 9 [.string S])(v0:Value)(rc:Row X c 26 [v0])(rd:Row X d 26 [Ψ v])(ha:a∉F.l)(hc:c∉F.l)(hd:d∉F.l)(hc5:5<=c)(hac:a≠c)(hdc:d≠c)(k:Nat)(h1:Hp)(A:bY h (tx S)=some (k,h1))(o:Nat)(L:Hp)(B:aW h1 (wd h1.rt 23) 1 2=some (o,L))(h3:Hp)(hp3:jJ (Limb.putF (Limb.putF L o 0 k) o 1 v) 4 o=some h3):Calls prog 145 #[E a,E b,E c,E d] X fun e X'=>e= .returned (I 0)/\∃F',StepC [c] X F X' F' h3/\Row X' c 26 [Ψ o]:=by
 obtain⟨g1,i1⟩:=cI HX.good (jP S) (by rw[cJ];exact hS) A;obtain⟨g2,i2⟩:=bm g1.good δ δ δ B;have kk:=aH i1;have g3:=aV g2.good (i:=0) (aO i2 δ) (aM g1.good kk);have vO:=(g1.trans g2).isO hv;have T:=aM HX.good hv;have g4:=aV g3.good (i:=1) (v:=v) (g3.isF _ _ _ i2) T;have oF:=aH (g4.isF _ _ _ (g3.isF _ _ _ i2));have olt:=aM g4.good oF;have HIn:=hid (gT HX K S hS h0 k h1 A);have HR:=hid (fun V j (H1:HeapAt V j h1) (hp:j.p=F.p)=>show Calls prog 20 #[E F.p,I 23] V fun e w'=>e= .returned (Ψ (wd h1.rt 23:Nat))/\Below V.heap.size V w' from by rw[<-hp];exact(bD H1 23 δ).mono fun e w' ⟨x,y⟩=>⟨x,by rw[<-y];exact Below.refl _ _⟩);have HAl:=hid (fun V j (H1:HeapAt V j h1) (hp:j.p=F.p)=>show Calls prog 11 #[E F.p,Ψ (wd h1.rt 23:Nat),I 1,I 2] V fun e w'=>e=Rt #[Ψ o,I 0]/\Moved V j w' L from by rw[<-hp];exact g9 H1 (wd h1.rt 23) 1 2 o L δ δ δ B);have HP0:=hid (fun V j (H1:HeapAt V j L) (hp:j.p=F.p)=>show Calls prog 59 #[E F.p,Ψ o,I 0,Ψ k] V fun e w'=>e= .returned (I 0)/\Step V j w' j (Limb.putF L o 0 k)from by rw[<-hp];exact fW H1 (i:=0) (aO i2 δ) δ (g2.val (bL kk)) (aM g1.good kk));have HP1:=hid (fun V j (H1:HeapAt V j (Limb.putF L o 0 k)) (hp:j.p=F.p)=>show Calls prog 59 #[E F.p,Ψ o,I 1,Ψ v] V fun e w'=>e= .returned (I 0)/\Step V j w' j (Limb.putF (Limb.putF L o 0 k) o 1 v)from by rw[<-hp];exact fW H1 (i:=1) (g3.isF _ _ _ i2) δ (g3.val (bL vO)) T);have HPt:=hid (fun V j (H1:HeapAt V j (Limb.putF (Limb.putF L o 0 k) o 1 v)) (hp:j.p=F.p)=>show Calls prog 146 #[E F.p,I 4,Ψ o] V fun e w'=>e= .returned (I 0)/\Step V j w' j h3 from by rw[<-hp];exact ot H1 4 δ o olt (bL oF) h3 hp3);have C:=ra.ae 0;have c1:=rb.ae 0;simp only[List.getElem?_cons_zero]at C c1;have HT:StepC [c] X F X F h:=StepC.refl HX;have RA:=hid (fun Y j (hs: ∃hh,StepC [c] X F Y j hh)=>show Row Y a 27 [E F.p]from hs.elim fun _ x=>x.row ra ha (by simp;exact hac));have RD:=hid (fun Y j (hs: ∃hh,StepC [c] X F Y j hh)=>show Row Y d 26 [Ψ v]from hs.elim fun _ x=>x.row rd hd (by simp;exact hdc));have RC:=hid rc;have D:=hid (show c∉F.l/\5<=c/\c<X.heap.size from⟨hc,hc5,rc.lt⟩);clear HX rb rc rd hd hdc hc hc5 hac A B hp3 g1 i1 g2 i2 kk g3 vO T g4 oF olt K hv;go_enter func145,ntmps145;go_wp2_with fail;refine(HIn.out).mono ?_;rintro e X1 ⟨rfl,j,hSt⟩;(try dsimp only);have f:=HT.step hSt;have A:j.p=F.p:=f.2.1.p;have hX:=RA.out _ _ ⟨_,f⟩;have RC1:=hid (show Row X1 c 26 [v0]from hSt.beside RC.out D.out.1);have HTT:=hid f;clear HT hSt f HIn C c1 RC ra ha;go_wp2_with fail;replace hX:Row X1.drew a 27 [E F.p]:=hX;have f:=HTT.out.below (Below.refl _ X1).drew;have q:Row X1.drew c 26 [v0]:=RC1.out;clear HTT RC1;refine wp_region_held (S:=fun Y=>Row Y a 27 [E F.p]) κ ?_;refine tk 0 (E F.p) ?_ (y:=fun X hX=>by have C:=hX.ae 0;simp only[List.getElem?_cons_zero]at C;go_simp);refine tk 1 (E F.p) ?_ (y:=fun X hX=>by have C:=hX.ae 0;simp only[List.getElem?_cons_zero]at C;go_simp);refine wo 2 ?_;unfold wpOp;go_simp;refine .inl ((HR.out _ _ f.1 A).mono ?_);rintro e X1 ⟨rfl,hb⟩;replace hX:=hX.below hb hX.lt;replace f:=f.below hb;replace q:=q.below hb q.lt;clear hb;refine⟨hX,?_⟩;refine wo 3 ?_;unfold wpOp;go_simp;refine .inl ((HAl.out _ _ f.1 A).mono ?_);rintro e X2 ⟨rfl,F2,hMv⟩;have M:=f.aside D.out.1 D.out.2.2;replace q:=hMv.beside q M;replace f:=f.step hMv;replace hX:=RA.out _ _ ⟨_,f⟩;clear hMv M;refine⟨hX,?_⟩;refine tk 4 (.tuple #[Ψ o,I 0]) ?_;refine tk 5 (Ψ o) ?_;refine tk 6 (I 0) ?_;refine tk 7 (Ψ o) ?_;refine tk 8 (I 0) ?_;refine wpAnyH_done κ ?_ _;have cc:=q.ae 0;have zc:=q.free 0;simp only[List.getElem?_cons_zero]at cc;have N:=f.aside D.out.1 D.out.2.2;have G:=f.store (i:=0) (Ψ o) (.inl (by simp:c∈[c])) N D.out.2.1;have U:Row (X2.setCell ⟨c,0,none⟩ (Ψ o)) c 26 [Ψ o]:=q.af 0 _;obtain⟨Z,hZ⟩:=ξ (X2.setCell ⟨c,0,none⟩ (Ψ o));rw[<-hZ]at G U;have HZ:=hid hZ;have B:F2.p=F.p:=G.2.1.p;have hP0:=HP0.out _ _ G.1 B;have P:=hid hP0;have z:=RA.out _ _ ⟨_,G⟩;have C:=z.ae 0;simp only[List.getElem?_cons_zero]at C;rw[hZ]at C;have a0:=hid G;have RCZ:=hid U;clear hX z f q G U hZ hP0 HP0 HR HAl A N;go_wp2_with fail;rw[<-HZ.out];refine(P.out).mono ?_;rintro e Y1 ⟨rfl,hSt⟩;(try dsimp only);have f:=a0.out.step hSt;have H:=hSt.beside RCZ.out (a0.out.aside D.out.1 D.out.2.2);have hP1:=HP1.out _ _ f.1 B;have Q:=hid hP1;have z:=RA.out _ _ ⟨_,f⟩;have C:=z.ae 0;have hX3:=RD.out _ _ ⟨_,f⟩;have c3:=hX3.ae 0;simp only[List.getElem?_cons_zero]at C c3;clear cc zc HZ;have a1:=hid f;have RC2:=hid H;clear a0 RCZ hSt f H hP1 HP1 P z hX3;go_wp2_with fail;refine(Q.out).mono ?_;rintro e Y2 ⟨rfl,hSt⟩;(try dsimp only);have f:=a1.out.step hSt;have H:=hSt.beside RC2.out (a1.out.aside D.out.1 D.out.2.2);have hP2:=HPt.out _ _ f.1 B;have HP2':=hid hP2;have z:=RA.out _ _ ⟨_,f⟩;have C:=z.ae 0;simp only[List.getElem?_cons_zero]at C;have a2:=hid f;have RC3:=hid H;clear a1 RC2 hSt f H hP2 HPt Q z c3;go_wp2_with fail;refine(HP2'.out).mono ?_;rintro e Y3 ⟨rfl,hSt⟩;(try dsimp only);have R: ∃F',StepC [c] X F Y3 F' h3/\Row Y3 c 26 [Ψ o]:=⟨_,a2.out.step hSt,hSt.beside RC3.out (a2.out.aside D.out.1 D.out.2.2)⟩;have HFin:=hid R;clear hSt R a2 RC3 RA RD D C;go_wp2_with fail;go_ret;exact⟨rfl,HFin.out⟩
end
section
variable {w:World} {F:Foot} {h:Hp}
theorem lO(H:HeapAt w F h)(K:Limb.Ker h)(S:ByteArray)(hS:S.size<=262140)(h0:0<S.size)(v:Nat)(hv:isO h v=true)(o:Nat)(h':Hp)(hp:dD h (tx S) v=some (o,h')):Calls prog 63 #[E F.p,.string S,Ψ v] w fun e w'=>e=Rt #[Ψ o,I 0]/\Moved w F w' h':=by
 obtain⟨W,hW,j,hb1,T⟩:=aA w 27 [E F.p];obtain⟨V,hV,z,p,hz2⟩:=aA W 9 [.string S];obtain⟨U,hU,A,u,Z⟩:=aA V 26 [Ψ v];rw[T]at z;rw[hz2,T]at A;have M:Below w w U:=(hb1.trans (p.mono ω)).trans (u.mono ω);replace j:=(j.below p j.lt);replace j:=(j.below u j.lt);replace z:=(z.below u z.lt);have HV:=hid (show U=((w.alloc (.cells #[E F.p] 27)).alloc (.cells #[.string S] 9)).alloc (.cells #[Ψ v] 26) by rw[hU,hV,hW]);have B:=H.below M;have N:U.heap.size=w.heap.size+3:=ω
 have Q:=aM H.good hv;have D:=hp;unfold dD at D;split at D;case isFalse=>cases D
 rename_i hg;obtain⟨⟨k,h1⟩,e1,e2⟩:=Option.bind_eq_some_iff.1 D;obtain⟨⟨o2,h2⟩,e3,e4⟩:=Option.bind_eq_some_iff.1 e2;obtain⟨h3,e5,e6⟩:=Option.map_eq_some_iff.1 e4;rw[Prod.mk.injEq]at e6;obtain⟨rfl,rfl⟩:=e6;have HBa:=hid ((fo B (Ker.bare K)))
 have HKd:=hid (fun X=>show Calls prog 137 #[Ψ v] X fun e w'=>e= .returned (I 2)/\X=w' from by
  have h3:=fY X v Q;have h4:=isO_iff.1 hv;rw[kind_two.2 ⟨h4.1,h4.2.1⟩]at h3;exact h3)
 have HIs:=hid (fun X (HX:HeapAt X F h)=>show Calls prog 138 #[E F.p,Ψ v] X fun e w'=>e= .returned (.bool true)/\X=w' from by
  have:=gK HX v Q;rw[hv]at this;exact this)
 have HGl:=hid (fun X (HX:HeapAt X F h)=>show Calls prog 142 #[E F.p,.string S] X fun e w'=>e= .returned (Ψ (0:Nat))/\Below X.heap.size X w' from by
  have:=pi HX (Ker.bare K) S hS;rw[hg]at this;exact this)
 have HFn:=hid (fun X (HX:HeapAt X F h) c (rA:Row X w 27 [E F.p]) (rB:Row X (N1 w) 9 [.string S]) (rc:Row X c 26 [Ψ 0]) (rD:Row X (N2 w) 26 [Ψ v]) (R:w.heap.size+1+1<c)=>jI K S hS h0 v hv w (N1 w) c (N2 w) X HX rA rB _ rc rD (fun e=>Nat.lt_irrefl _ (H.lt _ e)) (fun e=>absurd (H.lt _ e) ω) (fun e=>absurd (H.lt _ e) ω) (by have:=H.lt _ (mM F);have:=H.low;omega) ω ω k h1 e1 o2 h2 e3 h3 e5);have G:=j.ae 0;have c1:=z.ae 0;have c2:=A.ae 0;simp only[List.getElem?_cons_zero]at G c1 c2;clear hW hV hU T hz2 Z hb1 p u hp D hg e1 e2 e3 e4 e5 H hv Q;go_enter func63,ntmps63;go_wp2_with fail;rw[<-HV.out];go_wp2_with fail;refine(HBa.out).mono ?_;rintro e V0 ⟨rfl,hb⟩;(try dsimp only);replace j:=j.below hb j.lt;replace z:=z.below hb z.lt;replace A:=A.below hb A.lt;replace B:=B.below hb;replace M:=τ M hb;replace N:w.heap.size+3<=V0.heap.size:=by have:=hb.size;omega
 clear hb G c1 c2 HBa HV;have G:=j.ae 0;have c1:=z.ae 0;have c2:=A.ae 0;simp only[List.getElem?_cons_zero]at G c1 c2;have O:=hid (HIs.out _ B);have P:=hid (HGl.out _ B);go_wp2_with fail;refine(HKd.out _).mono ?_;rintro e V00 ⟨rfl,rfl⟩;(try dsimp only);go_wp2_with fail;refine(O.out).mono ?_;rintro e V00 ⟨rfl,rfl⟩;(try dsimp only);go_wp2_with fail;refine(P.out).mono ?_;rintro e L ⟨rfl,hb⟩;(try dsimp only);replace j:=j.below hb j.lt;replace z:=z.below hb z.lt;replace A:=A.below hb A.lt;replace B:=B.below hb;replace M:=τ M hb;replace N:w.heap.size+3<=L.heap.size:=by have:=hb.size;omega
 clear hb G c1 c2 HIs HGl O P HKd;have HR:=hid (fun Y (C:Below L L Y)=>(bD (B.below C) 4 δ).mono (R':=fun e w'=>e= .returned (Ψ (wd h.rt 4:Nat))/\Below L L w') fun e w' ⟨x,y⟩=>⟨x,by rw[<-y];exact C⟩);have HP:=hid (fun Y (C:Below L L Y)=>(cP (B.below C) (wd h.rt 4) 0 (eH B.good 4)).mono (R':=fun e w'=>e= .returned (.bool true)/\Below L L w') fun e w' ⟨x,y⟩=>⟨by rw[x,K.l4],C.trans (y.mono C.size)⟩);go_wp2_with fail;refine bH (fun Y=>Below L L Y) κ κ (Below.refl _ _).drew ?_;show wpQuiet _ _ _ _ [_,_,_,_,_] _
 refine qa (E F.p) ?_ (f:=by intro Y C;have G:=(j.below C j.lt).ae 0;simp only[List.getElem?_cons_zero]at G;go_simp);refine qa (E F.p) ?_ (f:=by intro Y C;have G:=(j.below C j.lt).ae 0;simp only[List.getElem?_cons_zero]at G;go_simp);refine qa (Ψ (wd h.rt 4:Nat)) ?_ (f:=by intro Y C;go_simp;exact HR.out Y C);refine qa (.bool true) ?_ (f:=by intro Y C;go_simp;exact HP.out Y C);refine qa (.bool false) ?_;refine wpQuiet_nil ?_;intro V2 p;replace j:=j.below p j.lt;replace z:=z.below p z.lt;replace A:=A.below p A.lt;replace B:=B.below p;replace M:=τ M p;replace N:w.heap.size+3<=V2.heap.size:=by have:=p.size;omega
 clear p HR HP;obtain⟨V3,hV3,rc,u,Z⟩:=aA V2 26 [Ψ 0];have HV3:=hid hV3;have ra2:=j;have hlt:=j.lt;replace j:=j.below u j.lt;replace z:=z.below u z.lt;replace A:=A.below u A.lt;replace B:=B.below u;replace M:=τ M u;obtain⟨c,hc⟩:=ξ V2.heap.size;rw[<-hc]at rc;have Hc:=hid hc;have R:w.heap.size+1+1<c:=ω
 have G:=ra2.ae 0;simp only[List.getElem?_cons_zero]at G;have HQ:=hid (nS B (E w) (E (N1 w)) (E c) (E (N2 w)) (fun X'=> ∃F',StepC [c] V3 F X' F' h3/\Row X' c 26 [Ψ o2]) (fun X hX=>(HFn.out X (B.below hX) c (j.below hX j.lt) (z.below hX z.lt) (rc.below hX rc.lt) (A.below hX A.lt) R).mono fun e X' ⟨x,F',⟨y1,y2,y3⟩,y4⟩=>⟨x,F',⟨y1,⟨y2.p,y2.gr,y2.gw.imp id (fun e=>Nat.le_trans hX.size e),y2.gs.imp id (fun e=>Nat.le_trans hX.size e)⟩,(Only.of_below hX).trans y3 (fun q hq=> .inl hq)⟩,y4⟩));have HcF:=hid (show w.heap.size<=c from ω);clear B HFn j z rc A ra2 R hV3 u Z hc N;go_wp2_with fail;rw[<-Hc.out,<-HV3.out];refine(HQ.out).mono ?_;rintro e V4 ⟨rfl,F',hT,rc4⟩;(try dsimp only);have HM:=hid (hT.moved M (by intro g hg;rw[List.mem_singleton]at hg;rw[hg];exact HcF.out));have c4:=rc4.ae 0;simp only[List.getElem?_cons_zero]at c4;clear hT rc4 HQ;go_wp2_with fail;go_ret2;exact⟨rfl,HM.out⟩
end
section
variable {w:World} {F:Foot} {h:Hp}
def BootRow(w:World)(F:Foot)(a:Nat):Prop:=Row w a 57 [E F.p,I 0]
theorem BootRow.cells{a:Nat}(r:BootRow w F a):w.cell? ⟨a,0,none⟩=O (E F.p)/\w.cell? ⟨a,1,none⟩=O (I 0):=by
 have b:=Row.ae r 0;have c1:=Row.ae r 1;exact⟨b,c1⟩
theorem kV(H:HeapAt w F h){g:Nat}(a:BootRow w F g)(c:g∉F.l)(n o:Nat)(d:Hp)(r:n<=65535)(k:aW h 0 1 n=some (o,d)):Calls prog 19 #[E g,I n] w fun e w'=>e= .returned (Ψ o)/\Moved w F w' d:=by
 have l:=hid (show Calls prog 11 #[E F.p,Ψ 0,I 1,I n] w fun e w'=>e=Rt #[Ψ o,I 0]/\Moved w F w' d from g9 H 0 1 n o d δ δ r k);obtain⟨t,c1⟩:=a.cells;have j:=hid a;have b:=hid c;clear H a c k;go_enter func19,ntmps19;go_wp2_with fail;refine(l.out).mono ?_;rintro e V ⟨rfl,F',hS⟩;have a:=hS.beside j.out b.out;have p:=Row.ae a 1;have s:=a.free 1;have f:=jH (i:=1) a rfl;simp only[yB,yC]at p;have q:=hid (show Moved w F V d from⟨F',hS⟩);clear hS a j b;go_wp2;go_ret;exact⟨rfl,q.out⟩
theorem iw(H:HeapAt w F h){a:Nat}(b:BootRow w F a)(i:Nat)(d:i<64):Calls prog 56 #[E a,I i] w fun e w'=>e= .returned (Ψ (wd h.rt i:Nat))/\w=w':=by
 have c:=hid (bD H i d);obtain⟨f,c1⟩:=b.cells;clear H b;go_enter func56,ntmps56;go_wp2_with fail;refine(c.out).mono ?_;rintro e w1 ⟨rfl,rfl⟩;go_wp2;go_ret;exact⟨rfl,rfl⟩
theorem pE(H:HeapAt w F h)(K:Limb.Ker h){j:Nat}(a:BootRow w F j)(c:j∉F.l)(S:ByteArray)(hS:S.size<=262140)(h0:0<S.size)(o:Nat)(d:Hp)(l:bY h (tx S)=some (o,d)):Calls prog 62 #[E j,.string S] w fun e w'=>e= .returned (Ψ o)/\Moved w F w' d:=by
 have p:=hid (gT H K S hS h0 o d l);obtain⟨x,c1⟩:=a.cells;have k:=hid a;have b:=hid c;clear H a c l;go_enter func62,ntmps62;go_wp2_with fail;refine(p.out).mono ?_;rintro e V ⟨rfl,F',hS⟩;have a:=hS.beside k.out b.out;have q:=Row.ae a 1;have v:=a.free 1;have f:=jH (i:=1) a rfl;simp only[yB,yC]at q;have u:=hid (show Moved w F V d from⟨F',hS⟩);clear hS a k b;go_wp2;go_ret;exact⟨rfl,u.out⟩
theorem qp(H:HeapAt w F h){b:Nat}(g:BootRow w F b)(k:b∉F.l)(o i:Nat)(t:i<64)(l:isO h o=true)(q:isO h (wd h.rt i)=true):Calls prog 61 #[E b,Ψ o,I i] w fun e w'=>e=Rt #[]/\Step w F w' F (setC h o (wd h.rt i)):=by
 have p:=hid (fun V (a:Below w w V)=>(iw (H.below a) (Row.below g a g.lt) i t).mono (R':=fun e w'=>e= .returned (Ψ (wd h.rt i:Nat))/\Below V.heap.size V w') fun e w' ⟨x,y⟩=>⟨x,by rw[<-y];exact Below.refl _ _⟩);have c:=hid (fun V (a:Below w w V)=>(jT (H.below a) o (wd h.rt i) (aM H.good l) (eH H.good i) l (bN q)).mono fun e w' ⟨x,y⟩=>(⟨x,Step.of_below a y⟩:_/\Step w F w' F (setC h o (wd h.rt i))));have a:Below w w w.drew:=(Below.refl _ _).drew;have hX:Row w.drew b 57 [E F.p,I 0]:=g;have f:=hid (show Row w b 57 [E F.p,I 0]from g);clear H g l q;go_enter func61,ntmps61;go_wp2;refine wp_region_held (S:=fun Y=>Row Y b 57 [E F.p,I 0]) κ ?_;refine tk 0 (E b) ?_;refine tk 1 (E b) ?_;refine tk 2 (E b) ?_;refine tk 3 (E F.p) ?_ (y:=fun X hX=>by have s:=hX.ae 0;simp only[List.getElem?_cons_zero]at s;go_simp);refine tk 4 (Ψ o) ?_;refine tk 5 (E b) ?_;refine tk 6 (I i) ?_;refine wo 7 ?_;unfold wpOp;go_simp;refine .inl ((p.out _ a).mono ?_);rintro e u ⟨rfl,hb⟩;replace hX:=hX.below hb hX.lt;replace a:=τ a hb;clear hb;refine⟨hX,?_⟩;refine wo 8 ?_;unfold wpOp;go_simp;refine .inl ((c.out _ a).mono ?_);rintro e v ⟨rfl,hSt⟩;replace hX:=f.out.only hSt.2.2 k;refine⟨hX,?_⟩;refine wpAnyH_done κ ?_ _;have j:=hid hSt;clear hSt a hX p c f;go_wp2;go_returns;exact⟨rfl,j.out⟩
end
end Go.Proofs.YtfefijlnbhbplaaGreatDoor

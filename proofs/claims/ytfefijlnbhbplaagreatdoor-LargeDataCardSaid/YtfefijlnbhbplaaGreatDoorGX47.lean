/- Walks and laws that LargeData asks for. -/
import Derived.Test.YtfefijlnbhbplaaGreatDoorGX46
set_option linter.unusedVariables false
set_option linter.unusedSimpArgs false
set_option maxRecDepth 1000000
set_option maxHeartbeats 6400000
namespace Go.Proofs.YtfefijlnbhbplaaGreatDoor
open Go Lib Go.RowKit Limb Go.Proofs.Tryz
theorem CD(W:World):(sizeOf 103).run prog W= .ok 4 W:=κ
theorem CY(W:World)(g k:Nat)(hk:k<20):(Instr.indexAt 97 (M g 20 20) (I k)).run prog W= .ok (Θ g (4*k)) W:=by
 have h1:(0:Int)<=(k:Int):=ω
 have h2:(k:Int)<20:=ω
 simp[Instr.indexAt,run_underlying underlying97,asIntOf,h1,h2,CD,Result.andThen,Addr.add];rw[if_pos hk,Nat.mul_comm];split
 ·rename_i e;rw[e]
 ·rfl
theorem BD(P:Nat->Nat)(k:Nat)(hk:k<20):(pr P)[4*k]? =O (I (20+k:Nat))/\(pr P)[4*k+1]? =some (qf P (20+k))/\(pr P)[4*k+2]? =some (qI (20+k))/\(pr P)[4*k+3]? =some (pO P (20+k)):=by
 have hc:k=0∨k=1∨k=2∨k=3∨k=4∨k=5∨k=6∨k=7∨k=8∨k=9∨k=10∨k=11∨k=12∨k=13∨k=14∨k=15∨k=16∨k=17∨k=18∨k=19:=ω
 rcases hc with rfl|rfl|rfl|rfl|rfl|rfl|rfl|rfl|rfl|rfl|rfl|rfl|rfl|rfl|rfl|rfl|rfl|rfl|rfl|rfl<;>exact⟨rfl,rfl,rfl,rfl⟩
theorem AV{X:World}{P:Nat->Nat}{g:Nat}(T:Tab X P g)(k:Nat)(hk:k<20):X.cell? ⟨g,4*k,none⟩=O (I (20+k:Nat))/\X.cell? ⟨g,4*k+1,none⟩=some (qf P (20+k))/\X.cell? ⟨g,4*k+2,none⟩=some (qI (20+k))/\X.cell? ⟨g,4*k+3,none⟩=some (pO P (20+k)):=by
 obtain⟨e0,e1,e2,e3⟩:=BD P k hk;exact⟨(T.row.ae (4*k)).trans e0,(T.row.ae (4*k+1)).trans e1,(T.row.ae (4*k+2)).trans e2,(T.row.ae (4*k+3)).trans e3⟩
theorem DI(P:Nat->Nat)(k:Nat)(hk:k<20):(qf P (20+k)).oneCell'=true/\(qI (20+k)).oneCell'=true/\(pO P (20+k)).oneCell'=true:=by
 have hc:k=0∨k=1∨k=2∨k=3∨k=4∨k=5∨k=6∨k=7∨k=8∨k=9∨k=10∨k=11∨k=12∨k=13∨k=14∨k=15∨k=16∨k=17∨k=18∨k=19:=ω
 rcases hc with rfl|rfl|rfl|rfl|rfl|rfl|rfl|rfl|rfl|rfl|rfl|rfl|rfl|rfl|rfl|rfl|rfl|rfl|rfl|rfl<;>exact⟨rfl,rfl,rfl⟩
theorem Tab.below{w w':World}{P:Nat->Nat}{g:Nat}(T:Tab w P g)(hb:Below w w w'):Tab w' P g:=
 ⟨T.row.below hb T.row.lt,T.d23.below hb T.d23.lt,T.d24.below hb T.d24.lt,T.d25.below hb T.d25.lt,T.d26.below hb T.d26.lt,T.b33.below hb T.b33.lt,T.b34.below hb T.b34.lt,T.b35.below hb T.b35.lt,T.s36.below hb T.s36.lt,T.s38.below hb T.s38.lt,T.s39.below hb T.s39.lt⟩
theorem Dv{h:Hp}{k r q:Nat}(h1:k<20∨39<k):gy h k r q=(0,0,h):=by
 unfold gy;split
 ·exact Bi h1
 ·rfl
section
variable {w:World} {F:Foot} {h:Hp}
theorem mU(H:HeapAt w F h)(number:Int)(r:Nat)(a:Option Addr)(n c:Nat)(hn:n≠1):Calls prog 13 #[E F.p,I number,Ψ r,.slice a n c] w fun e w'=>e=Rt #[Ψ (0:Nat),I (0:Nat)]/\w=w':=by
 have HRt:=hid (dM H 0 δ);have d:((n:Int)==1)=false:=nE
 have d':(n==1)=false:=nE
 clear H hn;go_enter func13,ntmps13;go_wp2_with fail;refine HRt.out.mono ?_;rintro e V ⟨rfl,rfl⟩;(try dsimp only);go_wp2_with fail;go_ret2;exact⟨rfl,rfl⟩
theorem ww(H:HeapAt w F h)(k:Fine h)(number:Int)(r q:Nat)(hr:r<4294967296)(hq:q<4294967296)(ga c:Nat)(ha:Row w ga 26 [Ψ (q:Nat)])(hga:ga∉F.l):Calls prog 13 #[E F.p,I number,Ψ r,M ga 1 c] w fun e w'=>e=Rt #[Ψ (gy h number.toNat r q).1,I (gy h number.toNat r q).2.1]/\Moved w F w' (gy h number.toNat r q).2.2:=by
 obtain⟨o0,k0,h0,hd⟩: ∃o0 k0 h0,gy h number.toNat r q=(o0,k0,h0):=⟨_,_,_,rfl⟩;rw[hd];have HD:=hid hd;have HRt:=hid (dM H 0 δ);have HOps:=hid (Eg w);have HSame:=hid (fun X (hb:Below w w X)=>Moved.same H hb);have HOp:=hid (fun X P g (hb:Below w w X) (T:Tab X P g) j (hj:j<20)=>DN (H.below hb) k T j hj r q hr hq);have HL:=hid H.lt;have HGa:=hid hga;have HA:=hid ha;clear H k hr hq hd ha hga;go_enter func13,ntmps13;go_wp2_with fail;refine HRt.out.mono ?_;rintro e V ⟨rfl,rfl⟩;(try dsimp only);go_wp2_with fail;refine HOps.out.mono ?_;rintro e V ⟨P,g,rfl,T,hb⟩;(try dsimp only);have HT:=hid T;have HB:=hid hb;clear T hb HOps HRt;go_wp2_with fail;go_loopw[28] (fun i wr=> ∃k:Nat,k<=20/\i= .int .i64 k/\(∀j,j<k->((20+j:Nat):Int)≠number)/\Below V V wr) (fun i _=>20-(intOf i).toNat);case atStart=>exact⟨0,ω,rfl,fun j hj=>ω,Below.refl _ _⟩
 case round=>
  obtain⟨k,hk,rfl,hnn,hbw⟩:=hrel;have HNN:=hid hnn;clear hnn;by_cases hlt:k<20
  ·have d1:decide ((k:Int)<(20:Int))=true:=dT;have d2:decide (k<20)=true:=decide_eq_true hlt;have hix:=fun W=>CY W g k hlt
   obtain⟨l0,l1,l2,l3⟩:=AV (HT.out.below hbw) k hlt;have HO:=hid (fun X (hb:Below wr.heap.size wr X)=>HOp.out X P g (HB.out.trans ((hbw.trans (hb.mono hbw.size)).mono HB.out.size)) ((HT.out.below hbw).below hb) k hlt);unfold Fg at HO;obtain⟨o1,o2,o3⟩:=DI P k hlt;generalize qf P (20+k)=v1 at*
   generalize qI (20+k)=v2 at*
   generalize pO P (20+k)=v3 at*
   obtain⟨m,hm⟩:=ξ (20+k);rw[<-hm]at l0 HO;have HM:=hid hm;have HBw:=hid hbw;have HH0:=hid hlt;clear hm hbw hk hlt;obtain⟨U,hU,ru,hbU,hUs⟩:=aA wr 103 [I m,v1,v2,v3];have HU:=hid hU;obtain⟨u0,u1⟩:=ru.two;have u2:=ru.ae 2;have u3:=ru.ae 3;simp only[yB,yC]at u2 u3;have HBU:=hid hbU;clear hU hUs hbU;have s1:=fun a W=>run_store prog W a v1 .plain o1
   have s2:=fun a W=>run_store prog W a v2 .plain o2
   have s3:=fun a W=>run_store prog W a v3 .plain o3
   clear o1 o2 o3;by_cases hnm:(m:Int)=number
   ·have e1:((m:Int)==number)=true:=(by rw[beq_iff_eq];exact hnm);obtain⟨gu,hgu⟩:=ξ wr.heap.size;have HBA:=hid (HB.out.trans ((HBw.out.trans (HBU.out.mono HBw.out.size)).mono HB.out.size));have HO:=hid (HO.out U.drew HBU.out.drew);have HNu:=hid (show gu∉F.l from fun hg=>by have:=HL.out gu hg;have:=HB.out.size;have:=HBw.out.size;omega);have hX1:=ru;rw[<-hgu]at hX1;replace hX1:=hX1.below (Below.refl _ _).drew hX1.lt;have hX:=And.intro hX1 (HA.out.below HBA.out.drew HA.out.lt);have HGu:=hid hgu;have hD:=HD.out;rw[<-hnm,Int.toNat_natCast]at hD;rw[hD]at HO;have HNm:=hid hnm;clear HT HB HOp HA HD hD HM HBw HBU HH0 HNN ru HSame HL hgu hnm;go_wp2_with fail;rw[<-HU.out,<-HGu.out];clear HU HGu u0 u1 u2 u3 hix l0 l1 l2 l3 s1 s2 s3;refine wp_region_held (S:=fun Y=>Row Y gu 103 [I m,v1,v2,v3]/\Row Y ga 26 [Ψ q]) κ ?_;refine tk 0 (.agg #[I m,v1,v2,v3]) ?_ (y:=fun X hX=>by have u0:=hX.1.ae 0;have u1:=hX.1.ae 1;have u2:=hX.1.ae 2;have u3:=hX.1.ae 3;simp only[yB,yC]at u0 u1 u2 u3;go_simp);refine tk 1 (E F.p) ?_;refine tk 2 (Ψ r) ?_;refine tk 3 (M ga 1 c) ?_;refine tk 4 (E ga) ?_;refine tk 5 (Ψ q) ?_ (y:=fun X hX=>by have u0:=hX.2.ae 0;simp only[List.getElem?_cons_zero]at u0;go_simp);refine wo 6 ?_;unfold wpOp;go_simp;refine .inl ((HO.out).mono ?_);rintro e X1 ⟨rfl,F',hs⟩;replace hX:=(⟨hs.beside hX.1 HNu.out,hs.beside hX.2 HGa.out⟩:_/\_);have HS:=hid (show Moved w F X1 h0 from⟨F',Step.of_below HBA.out.drew hs⟩);clear hs HO HBA;refine⟨hX,?_⟩;refine tk 7 (Ψ o0) ?_;refine tk 8 (I k0) ?_;refine tk 9 (Ψ o0) ?_;refine tk 10 (I k0) ?_;refine wpAnyH_done κ ?_ _;go_wp2_with fail;go_ret2;exact⟨rfl,HS.out⟩
   ·have e1:((m:Int)==number)=false:=by rw[beq_eq_false_iff_ne];exact hnm
    have HRel:=hid (show∃k':Nat,k'<=20/\Value.int .i64 ((k:Int)+1)= .int .i64 k'/\(∀j,j<k'->((20+j:Nat):Int)≠number)/\Below V V U from⟨k+1,HH0.out,rfl,fun j hj=>by
     by_cases e:j<k
     ·exact HNN.out j e
     ·obtain rfl:j=k:=ω
      rw[<-HM.out];exact hnm,HBw.out.trans (HBU.out.mono HBw.out.size)⟩)
    have hlt:k<20:=HH0.out;clear HT HB HOp HA HD HM HBw HBU HH0 HNN ru hnm HSame HL HO;go_wp2_with fail;rw[<-HU.out];go_roundw;case rel=>exact HRel.out
    case measure=>exact μ
  ·obtain rfl:k=20:=ω
   have HFin:=hid (show(0=o0/\0=k0)/\Moved w F wr h0 from by
    have hD:=HD.out
    rw[Dv (show number.toNat<20∨39<number.toNat from by
     refine Classical.byContradiction fun hc=>HNN.out (number.toNat-20) ω ω)]at hD
    simp only[Prod.mk.injEq]at hD;obtain⟨a1,a2,rfl⟩:=hD;exact⟨⟨a1,a2⟩,HSame.out wr (HB.out.trans (hbw.mono HB.out.size))⟩)
   obtain⟨⟨rfl,rfl⟩,hm⟩:=HFin.out;have HM:=hid hm;clear HFin hm HNN HD HOp HSame HT HB hbw hk hlt HA HL HGa;go_wp2_with fail;go_ret2;exact⟨rfl,HM.out⟩
end
theorem BT(w:World):Calls prog 44 #[.pointer none] w fun e w'=>e= .returned (.bool false)/\w=w':=by
 go_enter func44,ntmps44;go_wp2_with fail;go_ret;exact⟨rfl,rfl⟩
theorem Be(w:World):Calls prog 39 #[.pointer none,I 0] w fun e w'=>e=Rt #[Ψ 0,I 1]/\w=w':=by
 go_enter func39,ntmps39;go_wp2_with fail;refine(BT w).mono ?_;rintro e w1 ⟨rfl,rfl⟩;(try dsimp only);go_wp2_with fail;go_ret2;exact⟨rfl,rfl⟩
theorem nV(w:World)(number:Int)(r:Nat)(a:Option Addr)(n c:Nat):Calls prog 13 #[.pointer none,I number,Ψ r,.slice a n c] w fun e w'=>e=Rt #[Ψ (0:Nat),I (0:Nat)]/\w=w':=by
 go_enter func13,ntmps13;go_wp2_with fail;refine(Be w).mono ?_;rintro e V ⟨rfl,rfl⟩;(try dsimp only);go_wp2_with fail;go_ret2;exact⟨rfl,rfl⟩
end Go.Proofs.YtfefijlnbhbplaaGreatDoor

/- Walks and laws that LargeData asks for. -/
import Derived.Test.YtfefijlnbhbplaaGreatDoorGX49
set_option linter.unusedVariables false
set_option linter.unusedSimpArgs false
set_option maxRecDepth 1000000
set_option maxHeartbeats 25600000
namespace Go.Proofs.YtfefijlnbhbplaaGreatDoor
open Go Lib Go.RowKit Limb Go.Proofs.Tryz
theorem CM(w:World)(hs:Spares w)(number:Int)(b1:Bool)(a1:Option Addr)(l1:List Nat)(n1 c1:Nat)(h1:Came w b1 a1 n1 l1)(b2:Bool)(a2:Option Addr)(l2:List Nat)(n2 c2:Nat)(h2:Came w b2 a2 n2 l2)(o:Nat)(ho:o<4294967296)(how:Int)(de:Int)(kr2:de<=9223372036854775807):Calls prog 3 #[I number,Ω b1 a1 n1 c1,Ω b2 a2 n2 c2,Ψ o,I how,I de] w fun e w'=>e= .returned (.bool true)/\Below w w w':=by
 obtain⟨hE,x1,x2,hBt⟩:=yJ;obtain⟨A,P,ms,st⟩:=BS δ δ x1 sZ;have st2:=zd δ δ st ry;obtain⟨A',P',ms',st'⟩:=Ad δ δ x2 rW;obtain⟨W1,hW1,r1,hw1,hz1⟩:=aA w 24 [.bool b1,.slice a1 n1 c1];obtain⟨W,hW2,r2,hw2,hz2⟩:=aA W1 24 [.bool b2,.slice a2 n2 c2];have r1:=r1.below hw2 r1.lt;have hW:=τ hw1 hw2;rw[hz1]at r2;have HWe:=hid (show W=(w.alloc (.cells #[.bool b1,.slice a1 n1 c1] 24)).alloc (.cells #[.bool b2,.slice a2 n2 c2] 24) by rw[hW2,hW1]);have HBt:=hid (show Calls prog 4 #[I 4000] W fun e w'=> ∃F,e=Rt #[E F.p,I 0]/\HeapAt w' F hE/\Below W.heap.size W w'/\∀g∈F.l,W.heap.size<=g from u6 W (hs.below hW hs.1) 4000 δ δ A P hE ms st st2);have HBr:=hid (fun X (h5:5<=X.heap.size)=>show Calls prog 5 #[I 4000] X fun e w'=> ∃G,e=Rt #[E G.p,I 0]/\RefAt w' G hE/\Below X.heap.size X w'/\∀g∈G.l,X.heap.size<=g from DK X h5 4000 δ δ A' P' hE ms' st');have HK:=hid hBt;have HS:=hid hs;have HH1:=hid h1;have HH2:=hid h2;obtain⟨y1,hy1⟩: ∃y,y=w.heap.size:=⟨_,rfl⟩;obtain⟨y2,hy2⟩: ∃y,y=w.heap.size+1:=⟨_,rfl⟩;rw[<-hy1]at r1;rw[<-hy2]at r2;have HY1:=hid hy1;have HY2:=hid hy2;have R1:=hid r1;have R2:=hid r2;have HW:=hid hW;have HLW:=hid (show y1<W.heap.size/\y2<W.heap.size from⟨r1.lt,r2.lt⟩);clear x1 x2 hBt st st2 st' hW1 hW2 hw1 hw2 hz1 hz2 h1 h2 hs hy1 hy2 r1 r2 hW;go_enter func3,ntmps3;go_wp2_with fail;rw[<-HWe.out,<-HY2.out,<-HY1.out];refine(HBt.out).mono ?_;rintro e w1 ⟨F,rfl,H,hb1,hF⟩;(try dsimp only);have h5:5<=w1.heap.size:=by have:=HS.out.1;have:=HW.out.size;have:=hb1.size;omega
 have HBr1:=hid (HBr.out w1 h5);have R1:=hid (R1.out.below hb1 R1.out.lt);have R2:=hid (R2.out.below hb1 R2.out.lt);have HH:=hid H;have HF:=hid hF;have HB1:=hid hb1;clear HBt HBr h5 HWe H hF hb1;go_wp2_with fail;refine(HBr1.out).mono ?_;rintro e w2 ⟨G,rfl,R,hb2,hG⟩;(try dsimp only)
 have c0:Bd w F G [(y1,24,[.bool b1,.slice a1 n1 c1]),(y2,24,[.bool b2,.slice a2 n2 c2])] w2 F G hE hE:=
  ⟨HH.out.below hb2,R,fun b hb e=>by have:=HH.out.lt b hb;have:=hG b e;omega,fun b hb=>by have:=HF.out b hb;have:=HW.out.size;omega,fun b hb=>by have:=hG b hb;have:=HW.out.size;have:=HB1.out.size;omega,(HW.out.trans (HB1.out.mono HW.out.size)).trans (hb2.mono (Nat.le_trans HW.out.size HB1.out.size)),rfl,rfl,rfl,HS.out.1,fun p hp=>by
   have q1:=R1.out.below hb2 R1.out.lt;have q2:=R2.out.below hb2 R2.out.lt;have hlW:=HLW.out;have:=HB1.out.size;simp only[List.mem_cons,List.not_mem_nil,or_false]at hp;rcases hp with rfl|rfl
   ·exact⟨q1,fun hm=>by have:=HF.out _ hm;omega,fun hm=>by have:=hG _ hm;omega⟩
   ·exact⟨q2,fun hm=>by have:=HF.out _ hm;omega,fun hm=>by have:=hG _ hm;omega⟩⟩
 have HC0:=hid c0;clear c0 R hb2 hG HBr1 HH HF HB1 R1 R2 HW HLW;go_wp2_with fail;refine(A3 w2).mono ?_;rintro e w3 ⟨rfl,hb⟩;(try dsimp only);have HC1:=hid (HC0.out.below hb);clear hb HC0
 have HBx:=hid (fun Y (hY:Below w3 w3 Y)=>show Y.cell? ⟨y1,0,none⟩=some (.bool b1)/\Y.cell? ⟨y1,1,none⟩=some (.slice a1 n1 c1)/\Y.cell? ⟨y2,0,none⟩=some (.bool b2)/\Y.cell? ⟨y2,1,none⟩=some (.slice a2 n2 c2)from by
  have k:=HC1.out.below hY;have p:=(k.rows _ (List.mem_cons_self ..)).1;have q:=(k.rows _ (List.mem_cons_of_mem _ (List.mem_cons_self ..))).1;exact⟨p.ae 0,p.ae 1,q.ae 0,q.ae 1⟩)
 obtain⟨m1,hm1⟩: ∃m,m=bn b1 l1:=⟨_,rfl⟩;obtain⟨m2,hm2⟩: ∃m,m=bn b2 l2:=⟨_,rfl⟩
 have HM1:=hid (fun Y (hY:Below w3 w3 Y)=>show Calls prog 7 #[Ω b1 a1 n1 c1] Y fun e w'=>e= .returned (.bool m1)/\Below Y.heap.size Y w' from by
  have k:=((HC1.out.below hY).capF HH1.out).1;rw[hm1];exact sA Y b1 a1 l1 n1 c1 k.1 k.2.1 k.2.2.1 k.2.2.2)
 have HM2:=hid (fun Y (hY:Below w3 w3 Y)=>show Calls prog 7 #[Ω b2 a2 n2 c2] Y fun e w'=>e= .returned (.bool m2)/\Below Y.heap.size Y w' from by
  have k:=((HC1.out.below hY).capF HH2.out).1;rw[hm2];exact sA Y b2 a2 l2 n2 c2 k.1 k.2.1 k.2.2.1 k.2.2.2)
 have HMa:=hid hm1;have HMb:=hid hm2;clear hm1 hm2;obtain⟨big,hbig⟩:=ξ (!m1||!m2||decide (60<n1)||decide (60<n2));have HBig:=hid hbig;clear hbig;go_upto_region 5 with fail
 go_cut [69] (fun s wx=> ∃V,V=wx/\s= .bool big/\Hid (Below w3 w3 V))
 case first=>
  as_aux_lemma=>
  obtain⟨u1,u2,u3,u4⟩:=HBx.out w3 (Below.refl _ _);cases m1 with
  |false=>
   have hb:big=true:=HBig.out;go_wp2_with fail;refine(HM1.out w3 (Below.refl _ _)).mono ?_;rintro e V1 ⟨rfl,hv⟩;(try dsimp only);have HV:=hid hv;clear hv u1 u2 u3 u4;go_wp2_with fail;go_meet;exact⟨_,rfl,by rw[hb],HV⟩
  |true=>
   go_wp2_with fail;refine(HM1.out w3 (Below.refl _ _)).mono ?_;rintro e V1 ⟨rfl,hv⟩;(try dsimp only);have HV:=hid hv;clear hv u1 u2 u3 u4;obtain⟨u1,u2,u3,u4⟩:=HBx.out V1 HV.out;cases m2 with
   |false=>
    have hb:big=true:=HBig.out;go_wp2_with fail;refine(HM2.out V1 HV.out).mono ?_;rintro e V2 ⟨rfl,hv⟩;(try dsimp only);have HV2:=hid (HV.out.trans (hv.mono HV.out.size));clear hv u1 u2 u3 u4;go_wp2_with fail;go_meet;exact⟨_,rfl,by rw[hb],HV2⟩
   |true=>
    go_wp2_with fail;refine(HM2.out V1 HV.out).mono ?_;rintro e V2 ⟨rfl,hv⟩;(try dsimp only);have HV2:=hid (HV.out.trans (hv.mono HV.out.size));clear hv u1 u2 u3 u4;obtain⟨u1,u2,u3,u4⟩:=HBx.out V2 HV2.out;by_cases q1:60<n1
    ·have e1:decide ((60:Int)<(n1:Int))=true:=dT;have e1':decide (60<n1)=true:=decide_eq_true q1;have hb:big=true:=by rw[HBig.out,e1'];rfl
     clear q1;go_wp2_with fail;go_meet;exact⟨_,rfl,by rw[hb],HV2⟩
    ·have e1:decide ((60:Int)<(n1:Int))=false:=dF;have e1':decide (60<n1)=false:=decide_eq_false q1;obtain⟨d,hd⟩:=ξ (decide (60<n2));have e2:decide ((60:Int)<(n2:Int))=d:=by rw[hd];exact decide_eq_decide.2 ω
     have e2':decide (60<n2)=d:=hd.symm;have hb:big=d:=by rw[HBig.out,e1',e2'];rfl
     clear q1 hd;go_wp2_with fail;go_meet;exact⟨_,rfl,by rw[hb],HV2⟩
 case rest=>
  as_aux_lemma=>
  obtain⟨V,rfl,rfl,HV⟩:=hcut;go_upto_if 69 with fail
  cases hb:big with
  |true=>
   have HFin:=hid (HC1.out.below HV.out).bel;clear HBx HM1 HM2 HBig HC1;go_wp2_with fail;go_ret;exact⟨rfl,HFin.out⟩
  |false=>
   have hq:=HBig.out;rw[hb]at hq;have hq:=hq.symm;simp only[Bool.or_eq_false_iff,decide_eq_false_iff_not,Bool.not_eq_false']at hq;obtain⟨⟨⟨q1,q2⟩,q3⟩,q4⟩:=hq;have HBy:=hid (fun Y (hY:Below V.heap.size V Y)=>HBx.out Y (HV.out.trans (hY.mono HV.out.size)))
   obtain⟨z1,f1,f2,f3⟩: ∃z:Int,l1=rep z.natAbs/\b1=decide (z<0)/\(rep z.natAbs).length<=60:=by
    obtain⟨x1,x2,x3⟩:=bQ HH1.out.2.1 (HMa.out.symm.trans q1);exact⟨_,x1,x2,by rw[<-x1,<-HH1.out.2.2.1];omega⟩
   obtain⟨z2,f4,f5,f6⟩: ∃z:Int,l2=rep z.natAbs/\b2=decide (z<0)/\(rep z.natAbs).length<=60:=by
    obtain⟨x1,x2,x3⟩:=bQ HH2.out.2.1 (HMb.out.symm.trans q2);exact⟨_,x1,x2,by rw[<-x1,<-HH2.out.2.2.1];omega⟩
   obtain⟨x,u,hA,hB,g1,g2,k1,k2,g3,g4,g5,g6,g7,g8⟩:=Bj HK.out f3 f6;have HC2:=hid (HC1.out.below HV.out);have k1':=HH1.out;rw[f1,f2]at k1';have k2':=HH2.out;rw[f4,f5]at k2';have n60:n1<=1024/\n2<=1024:=ω
   have HX1:=hid (show Calls prog 8 #[E F.p,Ω b1 a1 n1 c1] V fun e X'=>e=Rt #[Ψ x,I 0]/\∃F'',Bd w F G [(y1,24,[.bool b1,.slice a1 n1 c1]),(y2,24,[.bool b2,.slice a2 n2 c2])] X' F'' G hA hE from by
    have:=tU (cap:=c1) HC2.out (lH HK.out) k1' n60.1;rw[g1,<-f2]at this;exact this)
   have HX2:=hid (fun X F1 (c:Bd w F G [(y1,24,[.bool b1,.slice a1 n1 c1]),(y2,24,[.bool b2,.slice a2 n2 c2])] X F1 G hA hE)=>show Calls prog 9 #[E G.p,Ω b1 a1 n1 c1] X fun e X'=>e=Rt #[Ψ x,I 0]/\∃G'',Bd w F G [(y1,24,[.bool b1,.slice a1 n1 c1]),(y2,24,[.bool b2,.slice a2 n2 c2])] X' F1 G'' hA hA from by
    have:=uB (cap:=c1) c (lH HK.out) k1' n60.1;rw[g1,<-f2]at this;exact this)
   have HX3:=hid (fun X F1 G1 (c:Bd w F G [(y1,24,[.bool b1,.slice a1 n1 c1]),(y2,24,[.bool b2,.slice a2 n2 c2])] X F1 G1 hA hA)=>show Calls prog 8 #[E F.p,Ω b2 a2 n2 c2] X fun e X'=>e=Rt #[Ψ u,I 0]/\∃F'',Bd w F G [(y1,24,[.bool b1,.slice a1 n1 c1]),(y2,24,[.bool b2,.slice a2 n2 c2])] X' F'' G1 hB hA from by
    have:=tU (cap:=c2) c k1 k2' n60.2;rw[g2,<-f5]at this;exact this)
   have HX4:=hid (fun X F1 G1 (c:Bd w F G [(y1,24,[.bool b1,.slice a1 n1 c1]),(y2,24,[.bool b2,.slice a2 n2 c2])] X F1 G1 hB hA)=>show Calls prog 9 #[E G.p,Ω b2 a2 n2 c2] X fun e X'=>e=Rt #[Ψ u,I 0]/\∃G'',Bd w F G [(y1,24,[.bool b1,.slice a1 n1 c1]),(y2,24,[.bool b2,.slice a2 n2 c2])] X' F1 G'' hB hB from by
    have:=uB (cap:=c2) c k1 k2' n60.2;rw[g2,<-f5]at this;exact this)
   have HCel:=hid (fun X F1 G1 h1 h2 (c:Bd w F G [(y1,24,[.bool b1,.slice a1 n1 c1]),(y2,24,[.bool b2,.slice a2 n2 c2])] X F1 G1 h1 h2)=>show X.cell? ⟨y1,0,none⟩=some (.bool b1)/\X.cell? ⟨y1,1,none⟩=some (.slice a1 n1 c1)/\X.cell? ⟨y2,0,none⟩=some (.bool b2)/\X.cell? ⟨y2,1,none⟩=some (.slice a2 n2 c2)from by
    have p:=(c.rows _ (List.mem_cons_self ..)).1;have q:=(c.rows _ (List.mem_cons_of_mem _ (List.mem_cons_self ..))).1;exact⟨p.ae 0,p.ae 1,q.ae 0,q.ae 1⟩)
   have HFn:=hid k2;have HGd:=hid g8;have HSz:=hid g5;have HLn:=hid g6;have HLt:=hid g7;have HXl:=hid g3;have HUl:=hid g4;obtain⟨u1,u2,u3,u4⟩:=HCel.out _ _ _ _ _ HC2.out;clear q1 q2 q3 q4 hq hb f1 f2 f3 f4 f5 f6 g1 g2 k1 k2 g3 g4 g5 g6 g7 g8 k1' k2' n60 HBy HBx HM1 HM2 HMa HMb HBig HC1 HV HH1 HH2 HK;go_wp2_with fail;refine(HX1.out).mono ?_;rintro e V1 ⟨rfl,F1,hC⟩;(try dsimp only);have HX2:=hid (HX2.out _ _ hC);clear u1 u2 u3 u4;obtain⟨u1,u2,u3,u4⟩:=HCel.out _ _ _ _ _ hC;clear hC HX1 HC2;go_wp2_with fail;refine(HX2.out).mono ?_;rintro e V2 ⟨rfl,G1,hC⟩;(try dsimp only);have HX3:=hid (HX3.out _ _ _ hC);clear u1 u2 u3 u4;obtain⟨u1,u2,u3,u4⟩:=HCel.out _ _ _ _ _ hC;clear hC HX2;go_wp2_with fail;refine(HX3.out).mono ?_;rintro e V3 ⟨rfl,F2,hC⟩;(try dsimp only);have HX4:=hid (HX4.out _ _ _ hC);clear u1 u2 u3 u4;obtain⟨u1,u2,u3,u4⟩:=HCel.out _ _ _ _ _ hC;clear hC HX3;go_wp2_with fail;refine(HX4.out).mono ?_;rintro e V4 ⟨rfl,G2,hC⟩;(try dsimp only);have HC:=hid (hC.keep (qs:=[]) (fun p hp=>by cases hp));clear u1 u2 u3 u4 hC HX4 HCel;have ex:((x:Int) != (x:Int))=false:=by simp
   have ex':(x != x)=false:=(by simp);have eu:((u:Int) != (u:Int))=false:=by simp
   have eu':(u != u)=false:=(by simp);go_upto_region 13 with fail
   clear ex ex' eu eu';have HTop:=hid (Dl HC.out);obtain⟨T,hT⟩:=ξ hB.ws.length;rw[<-hT]at HTop HLn;have HT:=hid hT;clear hT;go_cut [23] (fun s wx=> ∃z:Int,s= .int .i64 z/\(0<=de->z=4000-(T:Int)-de)/\V4=wx)
   case first=>
    as_aux_lemma=>
    have o1:(T:Int)<=1294:=(by have:=HLn.out;omega);have o2:(0:Int)<=(T:Int):=ω
    by_cases hr:0<=de
    ·go_wp2_with fail;refine(HTop.out).mono ?_;rintro e V5 ⟨rfl,rfl⟩;(try dsimp only);go_wp2_with fail;go_meet;exact⟨_,rfl,fun _=>rfl,rfl⟩
    ·go_wp2_with fail;refine(HTop.out).mono ?_;rintro e V5 ⟨rfl,rfl⟩;(try dsimp only);go_wp2_with fail;go_meet;exact⟨_,rfl,fun h=>absurd h ω,rfl⟩
   case rest=>
    as_aux_lemma=>
    obtain⟨z,rfl,hz,rfl⟩:=hcut;have HZ:=hid hz;clear hz HTop;go_upto_region 14 with fail
    go_cut [128] (fun s wx=> ∃fl,s= .bool fl/\(fl=true->0<=de/\3<z)/\V4=wx)
    case first=>
     as_aux_lemma=>
     by_cases hr:0<=de
     ·have d1:decide ((0:Int)<=de)=true:=decide_eq_true hr;by_cases h3:3<z
      ·have d2:decide ((3:Int)<z)=true:=decide_eq_true h3;go_wp2_with fail;go_meet;exact⟨true,rfl,fun _=>⟨hr,h3⟩,rfl⟩
      ·have d2:decide ((3:Int)<z)=false:=decide_eq_false h3;go_wp2_with fail;go_meet;exact⟨false,rfl,(fun h=>by cases h),rfl⟩
     ·have d1:decide ((0:Int)<=de)=false:=decide_eq_false hr;go_wp2_with fail;go_meet;exact⟨false,rfl,(fun h=>by cases h),rfl⟩
    case rest=>
     as_aux_lemma=>
     obtain⟨fl,rfl,hfl,rfl⟩:=hcut;have HFl:=hid hfl;clear hfl;go_upto_if 128 with fail
     go_cut [23] (fun s wx=> ∃(V:World) (z':Int) (F3:Foot) (G3:RFoot) (hC:Hp),V=wx/\s= .int .i64 z'/\Hid (Bd w F G [] V F3 G3 hC hC)/\Hid (Fine hC))
     case first=>
      as_aux_lemma=>
      cases hb:fl with
      |true=>
       obtain⟨p1,p2⟩:=HFl.out hb;have p3:=HZ.out p1;obtain⟨n,hn⟩: ∃n:Nat,(n:Int)=z-3:=⟨(z-3).toNat,ω⟩;obtain⟨oc,hC,e1,e2⟩:=Aa HGd.out HFn.out HSz.out HLt.out n (by have:=HT.out;omega)
       have HAF:=hid (show Calls prog 11 #[E F.p,Ψ 0,I 3,I (z-3)] V4 fun e X'=>e=Rt #[Ψ oc,I 0]/\∃F'',Bd w F G [] X' F'' G2 hC hB from by
        have:=zD HC.out n oc hC ω e1;rw[hn,(φ:((0:Nat):Int)=0),(φ:((3:Nat):Int)=3)]at this;exact this)
       have HAG:=hid (fun X F1 (c:Bd w F G [] X F1 G2 hC hB)=>show Calls prog 12 #[E G.p,Ψ 0,I 3,I (z-3)] X fun e X'=>e=Rt #[Ψ oc,I 0]/\∃G'',Bd w F G [] X' F1 G'' hC hC from by
        have:=yE c n oc hC ω e1;rw[hn,(φ:((0:Nat):Int)=0),(φ:((3:Nat):Int)=3)]at this;exact this)
       have HE2:=hid e2;have o1:z<=4000:=ω
       clear p1 p3 hn e1 e2;go_wp2_with fail;refine(HAF.out).mono ?_;rintro e V5 ⟨rfl,F3,hC3⟩;(try dsimp only);have HAG:=hid (HAG.out _ _ hC3);clear hC3 HAF;go_wp2_with fail;refine(HAG.out).mono ?_;rintro e V6 ⟨rfl,G3,hC3⟩;(try dsimp only);have HC3:=hid hC3;clear hC3 HAG;go_wp2_with fail;go_meet;exact⟨_,_,F3,G3,hC,rfl,rfl,HC3,HE2⟩
      |false=>
       go_wp2_with fail;go_meet;exact⟨_,_,F2,G2,hB,rfl,rfl,HC,HFn⟩
     case rest=>
      as_aux_lemma=>
      obtain⟨V,z',F3,G3,hC,rfl,rfl,HC3,HFn3⟩:=hcut;clear HC HFn HGd HSz HLn HLt HT HZ HFl;obtain⟨V5,hV5,ra,hb5,hz5⟩:=aA V 26 [Ψ u];obtain⟨ga,hga⟩:=ξ V.heap.size;rw[<-hga]at ra;have HV5:=hid hV5;have HGa:=hid hga;have HC5:=hid (HC3.out.add hb5 ra ω);clear hV5 hga ra hb5 hz5 HC3;go_upto_region 18 with fail
      rw[<-HV5.out,<-HGa.out];clear HV5 HGa;go_cut [140] (fun s wx=> ∃m:Int,s= .int .i64 m/\V5=wx)
      case first=>
       as_aux_lemma=>
       go_wp2_with fail;go_meet;exact⟨_,rfl,rfl⟩
      case rest=>
       as_aux_lemma=>
       obtain⟨m,rfl,rfl⟩:=hcut;go_upto_block 0 with fail
       go_cut [24,17] (fun s24 s17 wx=> ∃(V:World) (a:Option Addr) (n c r:Nat) (s:Option Nat) (rs:List (Nat×TypeId×List Value)) (F4:Foot) (G4:RFoot),V=wx/\s24= .slice a n c/\s17= .int .u32 r/\Hid (r<4294967296/\Bd w F G rs V F4 G4 hC hC/\EY rs s a n))
       case first=>
        as_aux_lemma=>
        by_cases q1:m=1
        ·have e1:(m==1)=true:=(by rw[beq_iff_eq];exact q1);obtain⟨V6,hV6,rb,hb6,hz6⟩:=aA V5 26 [Ψ o];obtain⟨gb,hgb⟩:=ξ V5.heap.size;rw[<-hgb]at rb;have HV6:=hid hV6;have HGb:=hid hgb;have HC6:=hid (HC5.out.add hb6 rb ω);clear hV6 hgb rb hb6 hz6 q1;go_wp2_with fail;rw[<-HV6.out,<-HGb.out];go_meet;exact⟨_,_,1,1,x,some o,_,F3,G3,rfl,rfl,rfl,hid ⟨HXl.out,HC6.out,rfl,ho,gb,rfl,List.mem_cons_self ..⟩⟩
        ·have e1:(m==1)=false:=(by rw[beq_eq_false_iff_ne];exact q1);by_cases q2:m=2
         ·have e2:(m==2)=true:=(by rw[beq_iff_eq];exact q2);clear q1 q2;go_wp2_with fail;go_meet;exact⟨_,_,1,1,o,some u,_,F3,G3,rfl,rfl,rfl,hid ⟨ho,HC5.out,rfl,HUl.out,ga,rfl,List.mem_cons_self ..⟩⟩
         ·have e2:(m==2)=false:=(by rw[beq_eq_false_iff_ne];exact q2);by_cases q3:m=3
          ·have e3:(m==3)=true:=(by rw[beq_iff_eq];exact q3);clear q1 q2 q3;go_wp2_with fail;go_meet;exact⟨_,none,0,0,x,none,_,F3,G3,rfl,rfl,rfl,hid ⟨HXl.out,HC5.out,by show(0:Nat)≠1;decide⟩⟩
          ·have e3:(m==3)=false:=(by rw[beq_eq_false_iff_ne];exact q3);by_cases q4:m=4
           ·have e4:(m==4)=true:=(by rw[beq_iff_eq];exact q4);obtain⟨V6,hV6,rb,hb6,hz6⟩:=aA V5 26 [Ψ u,Ψ u];have HV6:=hid hV6;have HC6:=hid (HC5.out.below hb6);clear hV6 rb hb6 hz6 q1 q2 q3 q4;go_wp2_with fail;rw[<-HV6.out];go_meet;exact⟨_,_,2,2,x,none,_,F3,G3,rfl,rfl,rfl,hid ⟨HXl.out,HC6.out,by show(2:Nat)≠1;decide⟩⟩
           ·have e4:(m==4)=false:=(by rw[beq_eq_false_iff_ne];exact q4);clear q1 q2 q3 q4;go_wp2_with fail;go_meet;exact⟨_,_,1,1,x,some u,_,F3,G3,rfl,rfl,rfl,hid ⟨HXl.out,HC5.out,rfl,HUl.out,ga,rfl,List.mem_cons_self ..⟩⟩
       case rest=>
        as_aux_lemma=>
        obtain⟨V,a,n,c,r,s,rs,F4,G4,rfl,rfl,rfl,HQ⟩:=hcut;clear HC5 HXl HUl;obtain⟨p,kd,hD,hres⟩: ∃p kd hD,vP hC number r s=(p,kd,hD):=⟨_,_,_,rfl⟩
        have HDF:=hid (show Calls prog 13 #[E F.p,I number,Ψ r,.slice a n c] V fun e X'=>e=Rt #[Ψ p,I kd]/\∃F'',Bd w F G rs X' F'' G4 hD hC from by
         have:=Eu HQ.out.2.1 HFn3.out number r HQ.out.1 s a n c HQ.out.2.2;rw[hres]at this;exact this)
        have HDG:=hid (fun X F1 (k:Bd w F G rs X F1 G4 hD hC)=>show Calls prog 14 #[E G.p,I number,Ψ r,.slice a n c] X fun e X'=>e=Rt #[Ψ p,I kd]/\∃G'',Bd w F G rs X' F1 G'' hD hD from by
         have:=Er k HFn3.out number r HQ.out.1 s a n c HQ.out.2.2;rw[hres]at this;exact this)
        clear hres HFn3 HQ;go_wp2_with fail;refine(HDF.out).mono ?_;rintro e V6 ⟨rfl,F5,hC6⟩;(try dsimp only);have HDG:=hid (HDG.out _ _ hC6);clear hC6 HDF;go_wp2_with fail;refine(HDG.out).mono ?_;rintro e V7 ⟨rfl,G5,hC6⟩;(try dsimp only);have HWf:=hid (zQ hC6);obtain⟨L,hL⟩:=ξ hD.ws.length;have HLb:=hid (show L<=1048576 by rw[hL];exact hC6.hp.small.1);rw[<-hL]at HWf;have HL:=hid hL;clear hC6 HDG hL;go_wp2_with fail;refine(HWf.out).mono ?_;rintro e U ⟨⟨gs,cs,rfl,sl⟩,hC7⟩;(try dsimp only);obtain⟨gw,cw,hrf,hrx⟩:=EP hC7;rw[<-HL.out]at hrf hrx;have HLF:=hid (fun Y (hY:Below U U Y)=>CF (hC7.below hY));obtain⟨LS,hLS⟩: ∃n,n=hD.last:=⟨_,rfl⟩;rw[<-hLS]at HLF hrf;have HRf:=hid hrf;have HRx:=hid hrx;have HIx:=hid (fun k (hk:k<L) W=>sl.index 22 underlying22 aK W .i64 k hk)
        have HCx:=hid (fun k (hk:k<L) Y (hY:Below U U Y)=>show Y.cell? ⟨gs,k,none⟩=O (Ψ (wd hD.ws k:Nat))from by
         have cx:=(sl.below hY).cell hk;rw[aJ (by rw[<-HL.out];exact hk)]at cx;exact cx)
        have HFin:=hid hC7.bel;clear hrf hrx sl hC7 hLS HWf;have epp:((p:Int) != (p:Int))=false:=by simp
        have epp':(p != p)=false:=(by simp);have ekk:((kd:Int) != (kd:Int))=false:=by simp
        have ekk':(kd != kd)=false:=(by simp);have eLL:((L:Int) != (L:Int))=false:=by simp
        have eLL':(L != L)=false:=(by simp);have eSS:((LS:Int) != (LS:Int))=false:=by simp
        have eSS':(LS != LS)=false:=(by simp);go_wp2_with fail;refine bM (fun Y=>Below U U Y) κ κ (Below.refl _ _).drew ?_;show dH _ _ _ _ [_,_,_,_,_,_,_,_,_,_,_,_,_,_,_,_,_,_,_,_,_,_,_,_,_,_,_] _
        refine qh (Ψ p) ?_;refine qh (Ψ p) ?_;refine qh (.bool false) ?_ (hy:=by intro Y hC;go_simp;(first |done|simp));refine qh (.bool false) ?_;refine qh (I kd) ?_;refine qh (I kd) ?_;refine qh (.bool false) ?_ (hy:=by intro Y hC;go_simp;(first |done|simp));refine qh (.bool false) ?_;refine qh (.bool false) ?_;refine qh (M gs L cs) ?_;refine qh (I L) ?_;refine qh (E G.p) ?_;refine qh (E G.p) ?_;refine qh (Θ G.p 1) ?_;refine qh (M gw L cw) ?_ (hy:=by intro Y hC;have q:=(HRf.out Y hC).1;go_simp);refine qh (I L) ?_;refine qh (.bool false) ?_ (hy:=by intro Y hC;go_simp;(first |done|simp));refine qh (.bool false) ?_;refine qh (.bool false) ?_;refine qh (E F.p) ?_;refine qh (Ψ LS) ?_ (hy:=by intro Y hC;go_simp;exact(HLF.out Y hC).mono fun e w' ⟨x,y⟩=>⟨x,by rw[<-y];exact hC⟩);refine qh (E G.p) ?_;refine qh (E G.p) ?_;refine qh (Θ G.p 3) ?_;refine qh (Ψ LS) ?_ (hy:=by intro Y hC;have q:=(HRf.out Y hC).2;go_simp);refine qh (.bool false) ?_ (hy:=by intro Y hC;go_simp;(first |done|simp));refine qh (.bool false) ?_;refine dq ?_;intro V9 hb9;clear epp epp' ekk ekk' eLL eLL' eSS eSS' HLF;have HB9:=hid hb9;clear hb9;go_wp2_with fail;go_loopw[30] (fun i wr=> ∃k:Nat,k<=L/\i= .int .i64 k/\Hid (Below U U wr)) (fun i _=>L-(intOf i).toNat);case atStart=>exact⟨0,Nat.zero_le _,rfl,HB9⟩
        case round=>
         as_aux_lemma=>
         obtain⟨k,hk,rfl,HBw⟩:=hrel;clear HB9;by_cases h0:k<L
         ·have d1:decide ((k:Int)<(L:Int))=true:=dT;have d2:decide (k<L)=true:=decide_eq_true h0;have hIy:=(HRx.out k h0).1;have hCy:=(HRx.out k h0).2;have hCx:=HCx.out k h0;have hIx:=HIx.out k h0;generalize wd hD.ws k=x at*
          have HIy:=hid hIy;have HCy:=hid hCy;have HCz:=hid hCx;have HIz:=hid hIx;have oo:(L:Int)<=1048576:=by have:=HLb.out;omega
          have exx:((x:Int) != (x:Int))=false:=(by simp);have exx':(x != x)=false:=by simp
          clear hIy hCy hCx hIx;go_wp2_with fail;refine bM (fun Y=>Below wr.heap.size wr Y) κ κ (Below.refl _ _).drew ?_;show dH _ _ _ _ [_,_,_,_,_,_,_,_,_,_,_,_] _
          refine qh (M gs L cs) ?_;refine qh (I k) ?_;refine qh (Θ gs k) ?_ (hy:=by intro Y hC;have q:=HIz.out;go_simp);refine qh (Ψ x) ?_ (hy:=by intro Y hC;have q:=HCz.out Y (HBw.out.trans (hC.mono HBw.out.size));go_simp);refine qh (E G.p) ?_;refine qh (E G.p) ?_;refine qh (Θ G.p 1) ?_;refine qh (M gw L cw) ?_ (hy:=by intro Y hC;have q:=(HRf.out Y (HBw.out.trans (hC.mono HBw.out.size))).1;go_simp);refine qh (I k) ?_;refine qh (Θ gw k) ?_ (hy:=by intro Y hC;have q:=HIy.out;go_simp);refine qh (Ψ x) ?_ (hy:=by intro Y hC;have q:=HCy.out Y (HBw.out.trans (hC.mono HBw.out.size));go_simp);refine qh (.bool false) ?_ (hy:=by intro Y hC;go_simp;(first |done|simp));refine dq ?_;intro V8 hb8;have HBv:=hid (HBw.out.trans (hb8.mono HBw.out.size));clear hb8 HBw exx exx';go_wp2_with fail;go_roundw;case rel=>exact⟨k+1,h0,by simp,HBv⟩
          case measure=>exact μ
         ·obtain rfl:k=L:=ω
          have d1:decide ((k:Int)<(k:Int))=false:=dF;have d2:decide (k<k)=false:=dF;have HEnd:=hid (HFin.out.trans (HBw.out.mono HFin.out.size));clear HIx HCx HRf HRx HBw HFin;go_wp2_with fail;refine(nV _ number r a n c).mono ?_;rintro e V10 ⟨rfl,rfl⟩;(try dsimp only);go_wp2_with fail;go_ret;exact⟨rfl,HEnd.out⟩
end Go.Proofs.YtfefijlnbhbplaaGreatDoor

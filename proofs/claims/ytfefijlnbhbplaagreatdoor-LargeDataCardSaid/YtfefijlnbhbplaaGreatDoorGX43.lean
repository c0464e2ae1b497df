/- Walks and laws that LargeData asks for. -/
import Derived.Test.YtfefijlnbhbplaaGreatDoorGX42
set_option linter.unusedVariables false
set_option linter.unusedSimpArgs false
set_option maxRecDepth 1000000
set_option maxHeartbeats 6400000
namespace Go.Proofs.YtfefijlnbhbplaaGreatDoor
open Go Lib Go.RowKit Limb Go.Proofs.Tryz
theorem f8{a:Bool}{b:Nat}{l:List Nat}(h:1<b∨bn a l=false∨bC (signed a (val l))=true):gS a b l=false:=by
 unfold gS;rcases h with h|h|h
 ·rw[dF];rfl
 ·rw[h];simp
 ·rw[h];simp
theorem pR{a:Bool}{b:Nat}{l:List Nat}(h1:b<=1)(c:bn a l=true)(d:bC (signed a (val l))=false):gS a b l=true:=by
 unfold gS;rw[decide_eq_true h1,c,d];rfl
theorem oh{h:Hp}{o:Nat}(a:nN h o=true):isO h o=true/\(hdO h o).fmt=3/\(hdO h o).cls=wd h.rt 17/\1<=(hdO h o).size:=by
 unfold nN at a;simp only[Bool.and_eq_true,decide_eq_true_eq]at a;exact⟨a.1.1.1,a.1.1.2,a.1.2,a.2⟩
section
variable {w:World} {F:Foot} {h:Hp}
theorem mT(H:HeapAt w F h)(o:Nat)(ho:o<4294967296)(e1: ¬o%2=1)(hi:isO h o=true)(h17:isO h (wd h.rt 17)=true)(hk:nN h o=true):Calls prog 115 #[E F.p,Ψ o] w fun e w'=>cS h o w w' e:=by
 obtain⟨W,hW,j,Q,hz⟩:=aA w 24 [.bool false,.slice none 0 0];have HW:=hid hW;have HV:=hid (iI W o ho e1);have hH:=di (H.below Q) o ho;have x1:hdX h o=hdO h o:=by unfold hdX;rw[hi];rfl
 have x2:erX h o=0:=by unfold erX;rw[hi];rfl
 rw[x1,x2]at hH;have HH:=hid (show Calls prog 179 #[E F.p,Ψ o] W fun e w'=>e=Rt #[.agg #[I (hdO h o).size,I (hdO h o).fmt,I (hdO h o).spare,Ψ (hdO h o).cls,Ψ (hdO h o).ser],I 0]/\Below W.heap.size W w' from hH);have HRt:=hid (fun X (R:Below W.heap.size W X)=>show Calls prog 39 #[E F.p,I 17] X fun e w'=>e=Rt #[Ψ (wd h.rt 17:Nat),I 0]/\X=w' from dM ((H.below Q).below R) 17 δ)
 have HIs:=hid (fun X (R:Below W.heap.size W X)=>show Calls prog 138 #[E F.p,Ψ (wd h.rt 17:Nat)] X fun e w'=>e= .returned (.bool true)/\X=w' from by
  have:=gK ((H.below Q).below R) (wd h.rt 17) (aM H.good h17);rw[h17]at this;exact this)
 obtain⟨-,k1,k2,k3⟩:=oh hk;have HRb:=hid (fun(hg:gS (nb h o) (wd (bj h o) 0) (ia h o)=false)=>oL (h:=h) e1 hi (by unfold Y9q;rw[hk,hg];rfl));have HRg:=hid (fun(hg:gS (nb h o) (wd (bj h o) 0) (ia h o)=true)=>qX (h:=h) e1 hi (by unfold Y9q;rw[hk,hg];rfl))
 have HWd:=hid (fun X (R:Below W.heap.size W X) k (hk:k<(hdO h o).size)=>show Calls prog 196 #[E F.p,Ψ o,I k] X fun e w'=>e=Rt #[Ψ (wd (bj h o) k:Nat),I 0]/\Below X.heap.size X w' from by
  have hsz:=(okO H.good hi).size;have hE:bB h o (k:Int) [3]=0:=lookE_zero.2 ⟨hi,by rw[k1];rfl,ω,by rw[fr (by rw[k1];decide)];omega⟩;have hA:jL h o (k:Int) [3]=wd (bj h o) k:=by unfold jL;rw[if_pos hE,Int.toNat_natCast,fk hk]
  have:=A6 ((H.below Q).below R) o ho (k:Int) ω ω;rw[hE,hA]at this;exact this)
 have hsz:=(okO H.good hi).size;have hfl:=bg H.good hi;have hlim:=fB H.good o;have hsgE:nb h o=decide (wd (bj h o) 0=1):=rfl;have hallE:ia h o=(bj h o).drop 1:=rfl;generalize nb h o=sg at*
 generalize ia h o=l at*
 generalize bj h o=fl at*
 generalize wd h.rt 17=r17 at*
 generalize hdO h o=x at*
 have HFl:=hid hfl;have HLim:=hid hlim;have HSg:=hid hsgE;have HAll:=hid hallE;clear hW hz e1 hi H hH x1 x2 ho h17 hk hfl hlim hsgE hallE;go_enter func115,ntmps115;go_wp2_with fail;rw[<-HW.out];refine(HV.out).mono ?_;rintro e V ⟨rfl,rfl⟩;(try dsimp only);go_wp2_with fail;refine(HH.out).mono ?_;rintro e V ⟨rfl,Z⟩;(try dsimp only);replace j:=j.below Z j.lt;replace Q:=τ Q Z;obtain⟨V1,hV1,r8,hb8,hz8⟩:=aA V 94 [I x.size,I x.fmt,I x.spare,Ψ x.cls,Ψ x.ser];replace Q:=τ Q hb8;replace j:=j.below hb8 j.lt;replace Z:=Z.trans (hb8.mono Z.size);have HV1:=hid hV1;obtain⟨bV,hbV⟩:=ξ V.heap.size;rw[<-hbV]at r8;have HBV:=hid hbV;clear hV1 hbV hb8 hz8 HV HH HW;obtain⟨c0,c1,c2,c3,c4⟩:=r8.cells5;have HRt1:=hid (HRt.out V1 Z);have HIs1:=hid (HIs.out V1 Z);rw[k1]at c1;rw[k2]at c3;have q0:((x.size:Int)==0)=false:=nE
 have q0':(x.size==0)=false:=nE
 have HK3:=hid k3;clear k1 k2 k3;go_wp2_with fail;rw[<-HV1.out,<-HBV.out];refine(HRt1.out).mono ?_;rintro e V2 ⟨rfl,rfl⟩;(try dsimp only);go_wp2_with fail;refine(HIs1.out).mono ?_;rintro e V2 ⟨rfl,rfl⟩;(try dsimp only);generalize x.size=sz at*
 have HBW:=hid Z;have HB1:=hid Q;have R0:=hid j;have R8:=hid r8;clear HRt HIs HRt1 HIs1 c1 c2 c3 c4 Z Q j r8;go_wp2_with fail;clear q0 q0';go_loopw[65,12] (fun i s wr=> ∃k:Nat,k<=sz/\i= .int .i64 k/\wr.ownsRow V1 25 1 s k (aC .u32 (fl.take k))/\Below V1 V1 wr) (fun i _ _=>sz-(intOf i).toNat);case atStart=>exact⟨0,Nat.zero_le _,rfl,⟨rfl,.inl ⟨rfl,rfl⟩⟩,Below.refl _ _⟩
 case round=>
  clear c0;obtain⟨k,hk,rfl,T,B⟩:=hrel;by_cases h0:k<sz
  ·have d1:decide ((k:Int)<(sz:Int))=true:=dT;have d2:decide (k<sz)=true:=decide_eq_true h0;have htk:fl.take k++[wd fl k]=fl.take (k+1):=jD (by rw[HFl.out];exact h0);have HTk:=hid htk;have HW1:=hid (HWd.out wr (HBW.out.trans (B.mono HBW.out.size)) k h0);generalize wd fl k=fv at*
   clear htk;go_wp2_with fail;refine(HW1.out).mono ?_;rintro e V2 ⟨rfl,R⟩;(try dsimp only);have hown2:=bX T R;replace B:=B.trans (R.mono B.size);clear R T HW1;obtain⟨i0,hi,hz0,hz1,hz2⟩:=info_parts bz;have a1:=hown2.alloc (.cells #[Ψ fv] 25);obtain⟨v',X',hrr,h2,h3,h4,h5⟩:=run_append_own_at (P:=prog) (w:=V2.alloc (.cells #[Ψ fv] 25)) V1 22 22 25 i0 (Ψ 0) 1 4 underlying22 hi hz0 hz1 hz2 rfl δ _ k _ a1 ⟨V2,0,none⟩ 1 1 (aC .u32 [fv]) rfl (cell_one_new _ _ _) (by simp[aC,Value.oneCell']) (Nat.le_trans (show k+1<=65536 by omega) δ) ω (by rw[World.size_alloc];have:=B.size;omega);rw[<-bw,HTk.out]at h2;have hB2:=dh a1 h3 (by rw[World.size_alloc];have:=B.size;omega);have hB3:=(B.alloc B.size (.cells #[Ψ fv] 25)).trans hB2;have HR:=hid hrr;clear hrr h3 h4 h5 hown2 a1 hi hz0 hz1 hz2 hB2 B;go_wp2_with(at_builtin;refine Lib.wpList_append_run _ rfl _ _ _ _ rfl _ _ rfl rfl _ _ HR.out ?_);go_roundw;case rel=>exact⟨k+1,h0,by simp,h2,hB3⟩
   case measure=>exact μ
  ·obtain rfl:k=sz:=ω
   have d1:decide ((k:Int)<(k:Int))=false:=dF;have d2:decide (k<k)=false:=dF;rw[List.take_of_length_le (by rw[HFl.out];exact Nat.le_refl _)]at T;obtain⟨g,c,hsv,-,sl⟩:=Sl.aj (jq T) HK3.out
   have hgB:V1.heap.size<=g:=by
    rcases T.2 with⟨q2,-⟩|⟨g1,c1,cur,q2,q3,-⟩
    ·rw[hsv]at q2;cases q2
    ·rw[hsv]at q2;cases q2;exact q3
   subst hsv;obtain⟨a',hsl,hlay,hab⟩:=AX sl HFl.out HK3.out;have HCap:=hid (show CapB w a' (k-1) (c-1)from⟨by have:=sl.le.1;omega,fun b off q=>by rw[hab b off q];exact Nat.le_trans HB1.out.size hgB⟩);clear hgB hab;rw[<-HAll.out]at hlay
   have HSl:=hid (fun Y (hY:Below wr.heap.size wr Y)=>show Y.cell? ⟨g,0,none⟩=O (Ψ (wd fl 0:Nat))from by
    rw[(sl.below hY).cell (show 0<k from HK3.out),aJ (by rw[HFl.out];exact HK3.out)])
   have hix: ∀W,(Instr.indexAt 22 (M g k c) (I 0)).run prog W= .ok (E g) W:=fun W=>sl.index 22 underlying22 aK W .i64 0 HK3.out
   have HIx:=hid hix;have HSL:=hid hsl;have HLay:=hid (fun Y (hY:Below wr.heap.size wr Y)=>hlay.below hY);have R0:=hid (R0.out.below B (R0.out.lt));have HB2:=hid (HB1.out.trans (B.mono HB1.out.size));have hln:k-1=l.length:=by rw[HAll.out,List.length_drop,HFl.out]
   have HCm:=hid (fun Y (hY:Below wr.heap.size wr Y)=>show Came Y sg a' (k-1) l from⟨HLay.out Y hY,by rw[HAll.out];exact HLim.out.drop 1,hln,ω⟩);have HLn:=hid hln
   have he:((wd fl 0:Int)==1)=sg:=by
    rw[HSg.out];by_cases q:wd fl 0=1
    ·rw[q];rfl
    ·rw[decide_eq_false q,beq_eq_false_iff_ne];omega
   have HE:=hid he;have he':decide (wd fl 0=1)=sg:=HSg.out.symm;have HE':=hid he';generalize wd fl 0=s0 at*
   clear T sl hsl hlay hix hln he he' HWd HBW HB1 HFl HLim HSg HAll B hsz hk d1 d2;have d1:decide ((k:Int)<(k:Int))=false:=dF;have d2:decide (k<k)=false:=dF;go_wp2_with fail;have hX:Below wr.heap.size wr wr.drew:=(Below.refl _ _).drew;refine wp_region_held (S:=fun Y=>Below wr.heap.size wr Y) κ ?_;refine tk 0 (M g k c) ?_;refine tk 1 (E g) ?_ (y:=fun X hX=>by have i2:=HIx.out;go_simp);refine tk 2 (Ψ s0) ?_ (y:=fun X hX=>by have q:=HSl.out _ hX;go_simp);refine tk 3 (.bool sg) ?_ (y:=fun X hX=>by have q:=HE.out;have q2:=HE'.out;go_simp);refine tk 4 (M g k c) ?_;refine tk 5 (.slice a' (k-1) (c-1)) ?_ (y:=fun X hX=>by have i2:=HSL.out;go_simp;(try simp[Result.andThen,i2]));refine tk 6 (Ω sg a' (k-1) (c-1)) ?_;refine wo 7 ?_;refine gd (o:=_) rfl rfl rfl (fun X1 gq rgq R hgq hlt=>?_);clear hlt;replace hgq:=Nat.le_trans hX.size hgq;replace hX:=τ hX R;clear R;refine⟨hX,?_⟩;simp only[Act.put,zA,zB,zC];refine wo 8 ?_;obtain⟨k0,k1,f0,f1⟩:=rgq.four;unfold wpOp;go_simp;replace hX:=aw (aw hX hgq (i:=0) (.bool sg)) hgq (i:=1) (.slice a' (k-1) (c-1));refine .inl ⟨hX,?_⟩;refine wpAnyH_done κ ?_ _;obtain⟨U,A⟩:=ξ ((X1.setCell ⟨gq,0,none⟩ (.bool sg)).setCell ⟨gq,1,none⟩ (.slice a' (k-1) (c-1)));have rq:Row U gq 24 [.bool sg,.slice a' (k-1) (c-1)]:=by rw[A];exact(rgq.af 0 _).af 1 _
   rw[<-A]at hX ⊢;obtain⟨q0,q1⟩:=rq.two;have a0:=hid hX;have RQ:=hid rq;have cx:=HSl.out U hX;have hix:=HIx.out;have HSm:=hid (dB U sg a' l (k-1) (c-1) (HCm.out U hX));have HMy:=hid (fun Y (hY:Below U.heap.size U Y)=>dz Y sg a' l (k-1) (c-1) (HLay.out Y (a0.out.trans (hY.mono a0.out.size))) (HCm.out U a0.out).2.1 (HCm.out U a0.out).2.2.1 (HCm.out U a0.out).2.2.2);clear k0 k1 f0 f1 rgq hgq A rq hX;go_wp2_with fail;refine(HSm.out).mono ?_;rintro e V3 ⟨⟨v,rfl,-⟩,R⟩;(try dsimp only);have HBV3:=hid R;have rq:=RQ.out.below R RQ.out.lt;obtain⟨q0,q1⟩:=rq.two;have cx:=HSl.out V3 (a0.out.trans (R.mono a0.out.size));have HB3:=hid (a0.out.trans (R.mono a0.out.size));clear rq R HSm;by_cases hs1:1<s0
   ·have HBf:=hid (HB2.out.trans (HB3.out.mono HB2.out.size));have hR:=HRb.out (f8 (.inl hs1));have e1:decide ((1:Int)<(s0:Int))=true:=dT;have e1':decide (1<s0)=true:=decide_eq_true hs1;clear hs1;have j:=R0.out.below HB3.out R0.out.lt;have Q:=HBf.out;have hl:=Lay.nil .u32 V3 none;have z0:=j.free 0;have z1:=j.free 1;obtain⟨p0,p1⟩:=j.two;obtain⟨U,A⟩:=ξ ((V3.setCell ⟨w,0,none⟩ (.bool false)).setCell ⟨w,1,none⟩ (.slice none 0 0));have ra:Row U w 24 [.bool false,.slice none 0 0]:=by rw[A];exact(j.af 0 _).af 1 _
    have D:Below w w U:=(by rw[A];exact aw (aw Q ι _) ι _);have G:Lay .u32 U none []:=by rw[A];exact(hl).pair j _ _
    obtain⟨f0,f1⟩:=ra.two;have L:=hid (bp hR none 0 0 rfl G D);have HU:=hid A;clear A ra D G Q j hl hR;go_wp2_with fail;(try simp only[Exit.inBlock,Exit.then]);rw[<-HU.out];refine bodyPost_ret (v:= .tuple #[Ω false none 0 0,I 21]) (by simp[results,results115,go_sem,f0,f1]) rfl L.out
   ·have e1:decide ((1:Int)<(s0:Int))=false:=dF;have e1':decide (1<s0)=false:=decide_eq_false hs1;have HM3:=hid (HMy.out V3 HBV3.out);have HSs:=hid hs1;clear hs1;go_wp2_with fail;refine(HM3.out).mono ?_;rintro e V4 ⟨rfl,R⟩;(try dsimp only);have HB4:=hid (HB3.out.trans (R.mono HB3.out.size));have rq:=RQ.out.below (HBV3.out.trans (R.mono HBV3.out.size)) RQ.out.lt;obtain⟨q0,q1⟩:=rq.two;have HBf:=hid (HB2.out.trans (HB4.out.mono HB2.out.size));clear rq R HM3 HMy cx hix e1 e1'
    cases hm:bn sg l with
    |false=>
     have hR:=HRb.out (f8 (.inr (.inl hm)));clear hm;have j:=R0.out.below HB4.out R0.out.lt;have Q:=HBf.out;have hl:=Lay.nil .u32 V4 none;have z0:=j.free 0;have z1:=j.free 1;obtain⟨p0,p1⟩:=j.two;obtain⟨U,A⟩:=ξ ((V4.setCell ⟨w,0,none⟩ (.bool false)).setCell ⟨w,1,none⟩ (.slice none 0 0));have ra:Row U w 24 [.bool false,.slice none 0 0]:=by rw[A];exact(j.af 0 _).af 1 _
     have D:Below w w U:=(by rw[A];exact aw (aw Q ι _) ι _);have G:Lay .u32 U none []:=by rw[A];exact(hl).pair j _ _
     obtain⟨f0,f1⟩:=ra.two;have L:=hid (bp hR none 0 0 rfl G D);have HU:=hid A;clear A ra D G Q j hl hR;go_wp2_with fail;(try simp only[Exit.inBlock,Exit.then]);rw[<-HU.out];refine bodyPost_ret (v:= .tuple #[Ω false none 0 0,I 21]) (by simp[results,results115,go_sem,f0,f1]) rfl L.out
    |true=>
     cases hsm:bC (signed sg (val l))with
     |true=>
      have hR:=HRb.out (f8 (.inr (.inr hsm)));clear hm hsm;have j:=R0.out.below HB4.out R0.out.lt;have Q:=HBf.out;have hl:=Lay.nil .u32 V4 none;have z0:=j.free 0;have z1:=j.free 1;obtain⟨p0,p1⟩:=j.two;obtain⟨U,A⟩:=ξ ((V4.setCell ⟨w,0,none⟩ (.bool false)).setCell ⟨w,1,none⟩ (.slice none 0 0));have ra:Row U w 24 [.bool false,.slice none 0 0]:=by rw[A];exact(j.af 0 _).af 1 _
      have D:Below w w U:=(by rw[A];exact aw (aw Q ι _) ι _);have G:Lay .u32 U none []:=by rw[A];exact(hl).pair j _ _
      obtain⟨f0,f1⟩:=ra.two;have L:=hid (bp hR none 0 0 rfl G D);have HU:=hid A;clear A ra D G Q j hl hR;go_wp2_with fail;(try simp only[Exit.inBlock,Exit.then]);rw[<-HU.out];refine bodyPost_ret (v:= .tuple #[Ω false none 0 0,I 21]) (by simp[results,results115,go_sem,f0,f1]) rfl L.out
     |false=>
      have hR:=HRg.out (pR (by have:=HSs.out;omega) hm hsm);have hl:=HLay.out V4 HB4.out;have hn:=HLn.out;have j:=R0.out.below HB4.out R0.out.lt;have Q:=HBf.out;clear hm hsm;have z0:=j.free 0;have z1:=j.free 1;obtain⟨p0,p1⟩:=j.two;obtain⟨U,A⟩:=ξ ((V4.setCell ⟨w,0,none⟩ (.bool sg)).setCell ⟨w,1,none⟩ (.slice a' (k-1) (c-1)));have ra:Row U w 24 [.bool sg,.slice a' (k-1) (c-1)]:=by rw[A];exact(j.af 0 _).af 1 _
      have D:Below w w U:=(by rw[A];exact aw (aw Q ι _) ι _);have G:Lay .u32 U a' l:=by rw[A];exact(hl).pair j _ _
      obtain⟨f0,f1⟩:=ra.two;have L:=hid (bp hR a' (k-1) (c-1) hn G D HCap.out);have HU:=hid A;clear A ra D G Q j hl hR hn;go_wp2_with fail;(try simp only[Exit.inBlock,Exit.then]);rw[<-HU.out];refine bodyPost_ret (v:= .tuple #[Ω sg a' (k-1) (c-1),I 0]) (by simp[results,results115,go_sem,f0,f1]) rfl L.out
theorem cW(H:HeapAt w F h)(o:Nat)(c:o<4294967296)(a:isO h (wd h.rt 17)=true):Calls prog 115 #[E F.p,Ψ o] w fun e w'=>cS h o w w' e:=by
 by_cases b:o%2=1
 ·exact oN F.p o c b
 ·cases hi:isO h o with
  |false=>exact mS H o c b hi
  |true=>
   cases hk:nN h o with
   |false=>exact oI H o c b hi a hk
   |true=>exact mT H o c b hi a hk
end
end Go.Proofs.YtfefijlnbhbplaaGreatDoor

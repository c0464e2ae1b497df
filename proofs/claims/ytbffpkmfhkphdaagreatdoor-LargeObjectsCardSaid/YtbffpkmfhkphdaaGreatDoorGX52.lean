/- The walk of the law LargeObjects: it answers true. -/
import Derived.Test.YtbffpkmfhkphdaaGreatDoorGX00
import Derived.Test.YtbffpkmfhkphdaaGreatDoorGX51
import Derived.Test.YtbffpkmfhkphdaaGreatDoorGX16
import Derived.Test.YtbffpkmfhkphdaaGreatDoorGX20
import Derived.Deep.DeepCutAuto
set_option linter.unusedVariables false
set_option linter.unusedSimpArgs false
set_option maxRecDepth 1000000
set_option maxHeartbeats 6400000
namespace Go.Proofs.YtbffpkmfhkphdaaGreatDoor
open Go Lib Go.RowKit Limb
theorem alloc_ex{h:Hp}{c n:Nat}(k:clsO h c=true)(hs:h.size=3000)(hl:h.ws.length+3+n≤3000)(ht:h.last<1000): ∃o h',allocP h c 3 n=some (o,h')∧h'.ws.length=h.ws.length+3+n∧h'.last=h.last+1:=by
 have hr:room h n=true:=by unfold room;rw[decide_eq_true (by omega),decide_eq_true (by omega)];rfl
 refine⟨_,_,by unfold allocP;rw[if_pos (by rw[k,hr];rfl)],?_,rfl⟩;rw[addO_len,List.length_replicate]
theorem rdL_short{h:Hp}(k:Limb.Good h){o:Nat}(ho:o<4294967296):(rdL h o).length≤65535:=by
 unfold rdL;split
 ·exact Nat.le_trans (len_i64 (valueO_small o ho).1 (valueO_small o ho).2) (by decide)
 ·split
  ·rename_i hc;rw[Bool.and_eq_true]at hc;unfold rdAll;rw[List.length_drop,flds_length k hc.1];have:=(okO k hc.1).size;omega
  ·exact Nat.zero_le _
theorem put_same(h:Hp)(o i v:Nat):(Limb.putF h o i v).ws.length=h.ws.length∧(Limb.putF h o i v).last=h.last:=⟨by unfold Limb.putF;exact putW_len _ _ _,rfl⟩
theorem mkH_keeps{h h1:Hp}{o:Nat}{b:Bool}{l:List Nat}(k:Limb.Good h)(hp:allocP h (wd h.rt 17) 3 (1+l.length)=some (o,h1))(hlim:Lim l)(hl:l.length≤1024)(h17:isO h (wd h.rt 17)=true):isO (Limb.mkH h1 o b l) (wd (Limb.mkH h1 o b l).rt 17)=true:=by
 obtain⟨g1,i1⟩:=grow_alloc k (by decide) (by decide) (show 1+l.length≤65535 by omega) hp
 obtain⟨h2,hh2,gg⟩: ∃h2,h2=(if b=true then Limb.putF h1 o 0 1 else h1)∧Limb.Grow h1 h2:=by
  cases b with
  |false=>exact⟨h1,rfl,Limb.Grow.refl g1.good⟩
  |true=>exact⟨_,rfl,grow_put3 g1.good (isF_le i1 (show 0+1≤1+l.length by omega)) (by decide)⟩
 obtain⟨-,a2,-⟩:=flds_putAll o l 1 h2 gg.good (gg.isF _ _ _ i1) hlim;have hM:Limb.mkH h1 o b l=putAll o 1 l h2:=by unfold Limb.mkH;rw[←hh2]
 have g:=(g1.trans gg).trans a2;rw[hM,g.rt];exact g.isO h17
theorem law_objects(w:World)(hs:Spares w)(b1:Bool)(a1:Option Addr)(l1:List Nat)(nx c1:Nat)(h1:Came w b1 a1 nx l1)(a2:Option Addr)(l2:List Nat)(n2 c2:Nat)(h2:Came w false a2 n2 l2)(cls:Int)(kc1: -9223372036854775808≤cls)(kc2:cls≤9223372036854775807)(o:Nat)(ho:o<4294967296):Calls Tryz.prog 7 #[.agg #[.bool b1,.slice a1 nx c1],.slice a2 n2 c2,.int .i64 cls,.int .u32 o] w fun e w'=>e= .returned (.bool true)∧Below w.heap.size w w':=by
 obtain⟨hE,x1,x2,hBt⟩:=boot_3000;obtain⟨A,P,ms,st⟩:=steps_of (by decide) (by decide) x1 qsteps_3000;have st2:=steps2_of (by decide) (by decide) st qsteps2_3000;obtain⟨A',P',ms',st'⟩:=stepsR_of (by decide) (by decide) x2 qstepsR_3000;obtain⟨W,hWe,r0,hW⟩: ∃W,W=w.alloc (.cells #[.bool b1,.slice a1 nx c1] 24)∧Row W w.heap.size 24 [.bool b1,.slice a1 nx c1]∧Below w.heap.size w W:=⟨_,rfl,by unfold Row;exact heap_alloc_new _ _,(Below.refl _ _).alloc (Nat.le_refl _) _⟩;have HWe:=hid hWe;have HBt:=hid (show Calls Tryz.prog 41 #[.int .i64 3000] W fun e w'=> ∃F,e= .returned (.tuple #[.pointer (some ⟨F.p,0,none⟩),.int .i64 0])∧HeapAt w' F hE∧Below W.heap.size W w'∧∀g∈F.l,W.heap.size≤g from kernel_boot W (hs.below hW hs.1) 3000 (by decide) (by decide) A P hE ms st st2);have HBr:=hid (fun X (h5:5≤X.heap.size)=>show Calls Tryz.prog 42 #[.int .i64 3000] X fun e w'=> ∃G,e= .returned (.tuple #[.pointer (some ⟨G.p,0,none⟩),.int .i64 0])∧RefAt w' G hE∧Below X.heap.size X w'∧∀g∈G.l,X.heap.size≤g from r4_boot X h5 3000 (by decide) (by decide) A' P' hE ms' st');have HK:=hid hBt;have HS:=hid hs;have HH1:=hid h1;have HH2:=hid h2;obtain⟨bx,hbx⟩: ∃bx,bx=w.heap.size:=⟨_,rfl⟩;rw[←hbx]at r0;have HBX:=hid hbx;clear x1 x2 hBt st st2 st' hWe h1 h2 hs hbx;go_enter Tryz.func7,Tryz.ntmps7;go_wp2_with fail;rw[←HWe.out,←HBX.out];refine(HBt.out).mono ?_;rintro e w1 ⟨F,rfl,H,hb1,hF⟩;(try dsimp only);have h5:5≤w1.heap.size:=by have:=HS.out.1;have:=hW.size;have:=hb1.size;omega
 have HBr1:=hid (HBr.out w1 h5);clear HBt HBr h5 HWe;go_wp2_with fail;refine(HBr1.out).mono ?_;rintro e w2 ⟨G,rfl,R,hb2,hG⟩;(try dsimp only);have c0:Bo w F G bx [.bool b1,.slice a1 nx c1] w2 F G hE hE:=⟨H.below hb2,R,fun b hb e=>by have:=H.lt b hb;have:=hG b e;omega,fun b hb=>by have:=hF b hb;have:=hW.size;omega,fun b hb=>by have:=hG b hb;have:=hW.size;have:=hb1.size;omega,(hW.trans (hb1.mono hW.size)).trans (hb2.mono (Nat.le_trans hW.size hb1.size)),rfl,rfl,rfl,(r0.below hb1 r0.lt).below hb2 (Nat.lt_of_lt_of_le r0.lt hb1.size),HS.out.1⟩;have HC0:=hid c0
 have HBx:=hid (fun Y (hY:Below w2.heap.size w2 Y)=>show Y.cell? ⟨bx,0,none⟩=some (.bool b1)∧Y.cell? ⟨bx,1,none⟩=some (.slice a1 nx c1)from by
  have r:=(c0.below hY).box;have q0:=r.cell_at 0;have q1:=r.cell_at 1;simp only[yB,yC]at q0 q1;exact⟨q0,q1⟩)
 obtain⟨N,hN⟩: ∃N,N=needN b1 l1:=⟨_,rfl⟩;have HW1:=hid (fun Y (hY:Below w2.heap.size w2 Y)=>show Calls Tryz.prog 43 #[.agg #[.bool b1,.slice a1 nx c1]] Y fun e w'=>e= .returned (.int .i64 N)∧Below Y.heap.size Y w' from by rw[hN];exact large_words_any Y b1 a1 l1 nx c1 ((HC0.out.below hY).came HH1.out).1);have HW2:=hid (fun Y (hY:Below w2.heap.size w2 Y)=>show Calls Tryz.prog 44 #[.agg #[.bool b1,.slice a1 nx c1]] Y fun e w'=>e= .returned (.int .i64 N)∧Below Y.heap.size Y w' from by rw[hN];exact ref_words_any Y b1 a1 l1 nx c1 ((HC0.out.below hY).came HH1.out).1);clear hN c0 H hb1 hF R hb2 hG r0 hW HBr1;go_wp2_with fail;refine wp_region_calmH (fun Y=>Below w2.heap.size w2 Y) (by kernel_rfl) (by kernel_rfl) (Below.refl _ _).drew ?_;show QuietH _ _ _ _ [_,_,_,_,_,_,_,_,_,_,_,_,_,_,_,_,_] _
 refine qh 34 (.int .i64 0) ?_;simp only[Act.put,zA,zB,zC];refine qh 35 (.bool false) ?_;simp only[Act.put,zA,zB,zC];refine qh 36 (.bool false) ?_;simp only[Act.put,zA,zB,zC];refine qh 37 (.int .i64 0) ?_;simp only[Act.put,zA,zB,zC];refine qh 38 (.bool false) ?_;simp only[Act.put,zA,zB,zC];refine qh 39 (.bool false) ?_;simp only[Act.put,zA,zB,zC];refine qh 40 (.bool false) ?_;simp only[Act.put,zA,zB,zC];refine quietH_at 41 (.bool true) rfl (by kernel_rfl) (fun Y hC=>?_) ?_
 ·go_simp;exact(law_awake Y).mono fun e w' ⟨x,y⟩=>⟨x,hC.trans (y.mono hC.size)⟩
 simp only[Act.put,zA,zB,zC];refine qh 42 (.bool false) ?_;simp only[Act.put,zA,zB,zC];refine qh 43 (.bool false) ?_;simp only[Act.put,zA,zB,zC];refine qh 44 (.bool false) ?_;simp only[Act.put,zA,zB,zC];refine quietH_at 45 (.agg #[.bool b1,.slice a1 nx c1]) rfl (by kernel_rfl) (fun Y hC=>?_) ?_
 ·obtain⟨q0,q1⟩:=HBx.out Y hC;go_simp
 simp only[Act.put,zA,zB,zC];refine quietH_at 46 (.int .i64 N) rfl (by kernel_rfl) (fun Y hC=>?_) ?_
 ·go_simp;exact(HW1.out Y hC).mono fun e w' ⟨x,y⟩=>⟨x,hC.trans (y.mono hC.size)⟩
 simp only[Act.put,zA,zB,zC];refine quietH_at 47 (.agg #[.bool b1,.slice a1 nx c1]) rfl (by kernel_rfl) (fun Y hC=>?_) ?_
 ·obtain⟨q0,q1⟩:=HBx.out Y hC;go_simp
 simp only[Act.put,zA,zB,zC];refine quietH_at 48 (.int .i64 N) rfl (by kernel_rfl) (fun Y hC=>?_) ?_
 ·go_simp;exact(HW2.out Y hC).mono fun e w' ⟨x,y⟩=>⟨x,hC.trans (y.mono hC.size)⟩
 simp only[Act.put,zA,zB,zC];refine quietH_at 49 (.bool false) rfl (by kernel_rfl) (fun Y hC=>?_) ?_
 ·go_simp;(first |done|simp)
 simp only[Act.put,zA,zB,zC];refine qh 50 (.bool false) ?_;simp only[Act.put,zA,zB,zC];refine quietH_nil ?_;intro V3 hb3;have HC1:=hid (HC0.out.below hb3);clear hb3 HBx HW1 HW2 HC0;obtain⟨big,hbig⟩: ∃big,big=(decide (500<n2)||decide (cls<10)||decide (31<cls)):=⟨_,rfl⟩;have HBig:=hid hbig;clear hbig;go_upto_region 5 with fail
 go_cut [61] (fun s61 wx=>s61= .bool big∧V3=wx)
 case first=>
  by_cases q1:500<n2
  ·have e1:decide ((500:Int)<(n2:Int))=true:=decide_eq_true (by omega);have e1':decide (500<n2)=true:=decide_eq_true q1;have hb:big=true:=by rw[HBig.out,e1'];rfl
   clear q1;go_wp2_with fail;go_meet;exact⟨by rw[hb],rfl⟩
  ·have e1:decide ((500:Int)<(n2:Int))=false:=decide_eq_false (by omega);have e1':decide (500<n2)=false:=decide_eq_false q1;by_cases q2:cls<10
   ·have e2:decide (cls<10)=true:=decide_eq_true q2;have hb:big=true:=by rw[HBig.out,e2];simp
    clear q1 q2;go_wp2_with fail;go_meet;exact⟨by rw[hb],rfl⟩
   ·have e2:decide (cls<10)=false:=decide_eq_false q2;have hb:big=decide (31<cls):=by rw[HBig.out,e1',e2];rfl
    clear q1 q2;go_wp2_with fail;go_meet;exact⟨by rw[hb],rfl⟩
 case rest=>
  obtain⟨rfl,rfl⟩:=hcut;go_upto_if 61 with fail
  go_cut [1,2] (fun s1 s2 wx=> ∃(aw:Option Addr) (nw cw cl:Nat) (lw:List Nat),s1= .slice aw nw cw∧s2= .int .i64 (cl:Nat)∧nw≤500∧10≤cl∧cl≤31∧Hid (Came w false aw nw lw)∧V3=wx)
  case first=>
   cases hb:big with
   |true=>
    clear HBig;go_wp2_with fail;go_meet;exact⟨none,0,0,17,[],rfl,rfl,by decide,by decide,by decide,hid ⟨Lay.nil _ _ _,Lim.nil,rfl,by decide⟩,rfl⟩
   |false=>
    have hq:=HBig.out;rw[hb]at hq;have hq:=hq.symm;simp only[Bool.or_eq_false_iff,decide_eq_false_iff_not]at hq;obtain⟨⟨q1,q2⟩,q3⟩:=hq;obtain⟨cl,rfl⟩: ∃cl:Nat,cls=(cl:Int):=⟨cls.toNat,by omega⟩;have HQ:=hid (show n2≤500∧10≤cl∧cl≤31 by omega);clear q1 q2 q3 HBig kc1 kc2;go_wp2_with fail;go_meet;exact⟨a2,n2,c2,cl,l2,rfl,rfl,HQ.out.1,HQ.out.2.1,HQ.out.2.2,HH2,rfl⟩
  case rest=>
   obtain⟨aw,nw,cw,cl,lw,rfl,rfl,m1,m2,m3,HWd,rfl⟩:=hcut;clear HBig HH2 kc1 kc2;obtain⟨kk,hA1,y1,y2,y3⟩:=alloc_ex (h:=hE) (c:=wd hE.rt cl) (n:=nw) (isO_cls (isF_isO (HK.out.cls cl m2 m3))) HK.out.size (by have:=HK.out.len;omega) (by have:=HK.out.last;omega);obtain⟨gr1,ik⟩:=grow_alloc HK.out.good (by decide) (by decide) (show nw≤65535 by omega) y1;have HAF:=hid (bo_allocF HC1.out (wd hE.rt cl) nw kk hA1 (by omega) y1);have HAG:=hid (fun X F1 (c:Bo w F G bx [.bool b1,.slice a1 nx c1] X F1 G hA1 hE)=>bo_allocG c (wd hE.rt cl) nw kk hA1 (by omega) y1);have HG1:=hid gr1;have HI1:=hid ik;have HL1:=hid (show hA1.ws.length=1166+nw∧hA1.last=155 by have:=HK.out.len;have:=HK.out.last;omega);have HKO:=hid (isO_lt gr1.good (isF_isO ik));have cl64:cl<64:=by omega
   obtain⟨z2,zr,ixc⟩:=HC1.out.root cl64;have ek:((kk:Int) != (kk:Int))=false:=by simp
   have ek':(kk != kk)=false:=(by simp);clear y1 y2 y3 gr1 ik;go_wp2_with fail;refine(HAF.out).mono ?_;rintro e V4 ⟨rfl,F1,hC⟩;(try dsimp only);obtain⟨z2,zr,-⟩:=hC.root cl64;have HAG1:=hid (HAG.out _ _ hC);clear hC HAF HAG HC1;go_wp2_with fail;refine(HAG1.out).mono ?_;rintro e V5 ⟨rfl,G1,hC⟩;(try dsimp only);have HC2:=hid hC;clear hC HAG1 z2 zr ixc;go_wp2_with fail;clear ek ek';go_loopw[100] (fun i wr=> ∃(j:Nat) (F2:Foot) (G2:RFoot) (hq:Hp),j≤nw∧i= .int .i64 j∧Hid (Bo w F G bx [.bool b1,.slice a1 nx c1] wr F2 G2 hq hq)∧Hid (Limb.Grow hE hq)∧Hid (hq.ws.length=1166+nw∧hq.last=155)∧Hid (isF hq kk 3 nw=true)) (fun i _=>nw-(intOf i).toNat);case atStart=>exact⟨0,F1,G1,hA1,Nat.zero_le _,rfl,HC2,HG1,HL1,HI1⟩
   case round=>
    clear HC2 HG1 HL1 HI1;obtain⟨j,F2,G2,hq,hj,rfl,HC,HGr,HLn,HI⟩:=hrel;by_cases h0:j<nw
    ·have d1:decide ((j:Int)<(nw:Int))=true:=decide_eq_true (by omega);have d2:decide (j<nw)=true:=decide_eq_true h0;have hcm:=(HC.out.came HWd.out).1;obtain⟨b,off,hix,hcx,-⟩:=hcm.1.use 22 60 Tryz.underlying22 size32 cw;rw[←hcm.2.2.1]at hix hcx;have ix:=fun W=>hix W .i64 (j:Int) (by omega) (by omega)
     rw[Int.toNat_natCast]at ix;have cx:=hcx wr (Below.refl _ _) j h0;have hf:=isF_le HI.out (show j+1≤nw by omega);have hv:=hcm.2.1.wd j;have HSF:=hid (bo_swF HC.out (o:=kk) (i:=j) (v:=wd lw j) hf (by omega) hv);have HSG:=hid (fun X (c:Bo w F G bx [.bool b1,.slice a1 nx c1] X F2 G2 (Limb.putF hq kk j (wd lw j)) hq)=>bo_swG c (o:=kk) (i:=j) (v:=wd lw j) hf hv);have gp:=grow_put3 HC.out.hp.good hf hv;obtain⟨s1,s2⟩:=put_same hq kk j (wd lw j);have HGr2:=hid (HGr.out.trans gp);have HI2:=hid (gp.isF _ _ _ HI.out);have HLn2:=hid (show(Limb.putF hq kk j (wd lw j)).ws.length=1166+nw∧(Limb.putF hq kk j (wd lw j)).last=155 from⟨s1.trans HLn.out.1,s2.trans HLn.out.2⟩);generalize Limb.putF hq kk j (wd lw j)=hq2 at*
     generalize wd lw j=x at*
     clear hcm hix hcx hf hv gp s1 s2 HI HLn HGr;go_wp2_with fail;refine(HSF.out).mono ?_;rintro e Y1 ⟨rfl,hC⟩;(try dsimp only);have HSG1:=hid (HSG.out _ hC);clear hC HSF HSG HC cx ix;go_wp2_with fail;refine(HSG1.out).mono ?_;rintro e Y2 ⟨rfl,hC⟩;(try dsimp only);have HC3:=hid hC;clear hC HSG1;go_wp2_with fail;go_roundw;case rel=>exact⟨j+1,F2,G2,hq2,h0,by simp,HC3,HGr2,HLn2,HI2⟩
     case measure=>simp[intOf];omega
    ·obtain rfl:j=nw:=by omega
     have d1:decide ((j:Int)<(j:Int))=false:=decide_eq_false (by omega);have d2:decide (j<j)=false:=decide_eq_false (by omega);obtain⟨V5,hV5,rz,hb5,hz5⟩:=alloc_row wr 61 [.int .u32 kk,.int .u32 o];have rz:Row V5 wr.heap.size 61 (nums .u32 [kk,o]):=rz;obtain⟨gz,hgz⟩: ∃gz,gz=wr.heap.size:=⟨_,rfl⟩;rw[←hgz]at rz;have HV5:=hid hV5;have HGZ:=hid hgz;have HC5:=hid (HC.out.below hb5);have sl:=rz.sl (n:=2) rfl (by decide);have HIx:=hid (fun W i (hi:i<2)=>sl.index 71 Tryz.underlying71 size_oop W .i64 i hi)
     have HCx:=hid (fun Y (hY:Below V5.heap.size V5 Y) i (hi:i<2)=>show Y.cell? ⟨gz,i,none⟩=some (.int .u32 (wd [kk,o] i:Nat))from by
      rw[(sl.below hY).cell hi,nums_get (by exact hi)])
     have HXl:=hid (fun i (hi:i<2)=>show wd [kk,o] i<4294967296 from by
      have:i=0∨i=1:=(by omega);rcases this with rfl|rfl
      ·exact HKO.out
      ·exact ho)
     have H17:=hid (show isO hq (wd hq.rt 17)=true by rw[HGr.out.rt];exact HGr.out.isO (isF_isO (HK.out.cls 17 (by decide) (by decide))));have HSz:=hid (show hq.size=3000 by rw[HGr.out.size];exact HK.out.size);clear hV5 hgz hz5 hb5 sl rz HC HWd HI HGr HKO HK;go_wp2_with fail;rw[←HV5.out,←HGZ.out];clear HV5 HGZ d1 d2;go_loopw[120] (fun i wx=> ∃(i0:Nat),i0≤2∧i= .int .i64 i0∧Below V5.heap.size V5 wx) (fun i _=>2-(intOf i).toNat);case atStart=>exact⟨0,by decide,rfl,Below.refl _ _⟩
     case round=>
      obtain⟨i0,hi0,rfl,hbw⟩:=hrel;by_cases h3:i0<2
      ·have d1:decide ((i0:Int)<2)=true:=decide_eq_true (by omega);have d2:decide (i0<2)=true:=decide_eq_true h3;have ix:=fun W=>HIx.out W i0 h3
       have cx:=HCx.out _ hbw i0 h3;have hxl:=HXl.out i0 h3;have hRF:=bo_readF (HC5.out.below hbw) (wd [kk,o] i0) hxl H17.out;have hRG:=fun Y (hY:Below V5.heap.size V5 Y)=>bo_readG (HC5.out.below hY) (wd [kk,o] i0) hxl H17.out
       unfold ReadRes at hRF hRG;have hsh:=rdL_short HC5.out.hp.good hxl;generalize wd [kk,o] i0=x at*
       generalize rdN hq x=rn at*
       generalize rdL hq x=rl at*
       generalize rdC hq x=rc at*
       have HRF:=hid hRF;have HRG:=hid hRG;have ec:((rc:Int) != (rc:Int))=false:=by simp
       have ec':(rc != rc)=false:=(by simp);obtain⟨rln,hrln⟩: ∃n,n=rl.length:=⟨_,rfl⟩;have HSa:=hid (fun Y a c a' c' (q1:Lay .u32 Y a rl) (q2:Lay .u32 Y a' rl)=>law_same Y rn a a' rl rln c c' q1 q2 hrln (by omega));rw[←hrln]at HRF HRG;clear hRF hRG hsh hrln hxl;go_wp2_with fail;refine(HRF.out).mono ?_;rintro e Y1 ⟨a',c',rfl,hl1,hb⟩;(try dsimp only);obtain⟨Y2,hY2,r19,hb2,hz2⟩:=alloc_row Y1 24 [.bool rn,.slice a' rln c'];have hbw2:=(hbw.trans (hb.mono hbw.size)).trans (hb2.mono (Nat.le_trans hbw.size hb.size));have HL1':=hid (hl1.below hb2);obtain⟨b19,hb19⟩: ∃b,b=Y1.heap.size:=⟨_,rfl⟩;rw[←hb19]at r19;have HB19:=hid hb19;have HY2:=hid hY2;have HRG1:=hid (HRG.out Y2 hbw2);clear hl1 hb hb2 hz2 hY2 hb19 HRF HRG cx ix;go_wp2_with fail;rw[←HY2.out,←HB19.out];refine(HRG1.out).mono ?_;rintro e Y3 ⟨a'',c'',rfl,hl2,hb⟩;(try dsimp only);obtain⟨Y4,hY4,r21,hb4,hz4⟩:=alloc_row Y3 24 [.bool rn,.slice a'' rln c''];have r19:=(r19.below hb r19.lt).below hb4 (Nat.lt_of_lt_of_le r19.lt hb.size);have hbw4:=(hbw2.trans (hb.mono hbw2.size)).trans (hb4.mono (Nat.le_trans hbw2.size hb.size));have HSa1:=hid (HSa.out Y4 a' c' a'' c'' ((HL1'.out.below hb).below hb4) (hl2.below hb4));obtain⟨b21,hb21⟩: ∃b,b=Y3.heap.size:=⟨_,rfl⟩;rw[←hb21]at r21;have HB21:=hid hb21;have HY4:=hid hY4;have p0:=r19.cell_at 0;have p1:=r19.cell_at 1;have q0:=r21.cell_at 0;have q1:=r21.cell_at 1;simp only[yB,yC]at p0 p1 q0 q1;rw[hY4]at p0 p1 q0 q1;rw[hb21]at q0 q1;clear hl2 hb hb4 hz4 hY4 hb21 r19 r21 HRG1 HY2 HB19 HSa HL1';go_wp2_with fail;rw[←HY4.out];refine(HSa1.out).mono ?_;rintro e Y5 ⟨rfl,hb⟩;(try dsimp only);have hbw5:=hbw4.trans (hb.mono hbw4.size);clear hb p0 p1 q0 q1 HY4 HB21 HSa1 ec ec';go_wp2_with fail;go_roundw;case rel=>exact⟨i0+1,h3,by simp,hbw5⟩
       case measure=>simp[intOf];omega
      ·obtain rfl:i0=2:=by omega
       rw[show((2:Nat):Int)=2 from rfl];have d1:decide ((2:Int)<2)=false:=rfl;have HC6:=hid (HC5.out.below hbw);clear hbw HC5 HIx HCx HXl
       cases hm:mayB b1 l1 with
       |false=>
        have HMk:=hid (large_make_no wr b1 a1 l1 nx c1 F.p (HC6.out.came HH1.out).1 hm)
        have HMy:=hid (fun Y (hY:Below wr.heap.size wr Y)=>show Calls Tryz.prog 12 #[.agg #[.bool b1,.slice a1 nx c1]] Y fun e w'=>e= .returned (.bool false)∧Below Y.heap.size Y w' from by
         have k:=((HC6.out.below hY).came HH1.out).1;have:=ref_May Y b1 a1 l1 nx c1 k.1 k.2.1 k.2.2.1 k.2.2.2;rw[hm]at this;exact this)
        have q0:=HC6.out.box.cell_at 0;have q1:=HC6.out.box.cell_at 1;simp only[yB,yC]at q0 q1;go_wp2_with fail;refine(HMk.out).mono ?_;rintro e Y1 ⟨rfl,hb⟩;(try dsimp only);have HC7:=hid (HC6.out.below hb);have HMy1:=hid (HMy.out Y1 hb);clear hb q0 q1 HMk HMy;have q0:=HC7.out.box.cell_at 0;have q1:=HC7.out.box.cell_at 1;simp only[yB,yC]at q0 q1;go_wp2_with fail;refine(HMy1.out).mono ?_;rintro e Y2 ⟨rfl,hb⟩;(try dsimp only);have HFin:=hid (HC7.out.below hb).bel;clear hb q0 q1 HMy1;go_wp2_with fail;go_ret;exact⟨rfl,HFin.out⟩
       |true=>
        have HMy:=hid (fun Y (k:Came Y b1 a1 nx l1)=>show Calls Tryz.prog 12 #[.agg #[.bool b1,.slice a1 nx c1]] Y fun e w'=>e= .returned (.bool true)∧Below Y.heap.size Y w' from by
         have:=ref_May Y b1 a1 l1 nx c1 k.1 k.2.1 k.2.2.1 k.2.2.2;rw[hm]at this;exact this)
        obtain⟨mi1,mi2,mi3⟩:=mayB_int HH1.out.2.1 hm
        cases hsm:isSm (signed b1 (val l1))with
        |true=>
         have HMk:=hid (large_make_small wr b1 a1 l1 nx c1 F.p (HC6.out.came HH1.out).1 hm hsm);have HMr:=hid (fun Y (k:Came Y b1 a1 nx l1)=>ref_make_small Y b1 a1 l1 nx c1 G.p k hm hsm);obtain⟨so1,so2,so3⟩:=valueO_smallO hsm;obtain⟨rd1,rd2,rd3⟩:=rd_odd (h:=hq) so2;rw[so1,←mi2]at rd2;rw[so1,←mi1]at rd3
         have HRd:=hid (fun Y (hY:Below wr.heap.size wr Y)=>show Calls Tryz.prog 49 #[.pointer (some ⟨F.p,0,none⟩),.int .u32 (smallO (signed b1 (val l1)):Nat)] Y fun e w'=> ∃a c,e= .returned (.tuple #[.agg #[.bool b1,.slice a nx c],.int .i64 0])∧Lay .u32 w' a l1∧Below Y.heap.size Y w' from by
          have:=bo_readF (HC6.out.below hY) (smallO (signed b1 (val l1))) so3 H17.out;unfold ReadRes at this;rw[rd1,rd2,rd3,←HH1.out.2.2.1]at this;exact this)
         generalize smallO (signed b1 (val l1))=sm at*
         clear mi1 mi2 mi3 rd1 rd2 rd3 so1 so2 so3 hsm hm;have q0:=HC6.out.box.cell_at 0;have q1:=HC6.out.box.cell_at 1;simp only[yB,yC]at q0 q1;go_wp2_with fail;refine(HMk.out).mono ?_;rintro e Y1 ⟨rfl,hb⟩;(try dsimp only);have HB1:=hid hb;have HMy1:=hid (HMy.out Y1 ((HC6.out.below hb).came HH1.out).1);have HC7:=hid (HC6.out.below hb);clear hb q0 q1 HMk HMy;have q0:=HC7.out.box.cell_at 0;have q1:=HC7.out.box.cell_at 1;simp only[yB,yC]at q0 q1;go_wp2_with fail;refine(HMy1.out).mono ?_;rintro e Y2 ⟨rfl,hb⟩;(try dsimp only);have HB2:=hid (HB1.out.trans (hb.mono HB1.out.size));have HC8:=hid (HC6.out.below HB2.out);have HMr1:=hid (HMr.out Y2 (HC8.out.came HH1.out).1);clear hb q0 q1 HMy1 HMr HC7 HB1;have q0:=HC8.out.box.cell_at 0;have q1:=HC8.out.box.cell_at 1;simp only[yB,yC]at q0 q1;go_wp2_with fail;refine(HMr1.out).mono ?_;rintro e Y3 ⟨rfl,hb⟩;(try dsimp only);have HB3:=hid (HB2.out.trans (hb.mono HB2.out.size));clear hb q0 q1 HMr1 HB2 HC8;have HC9:=hid (HC6.out.below HB3.out);have HTF:=hid (fun Y (hY:Below Y3.heap.size Y3 Y)=>bo_topF (HC9.out.below hY));have HTG:=hid (fun Y (hY:Below Y3.heap.size Y3 Y)=>bo_topG (HC9.out.below hY));have HLF:=hid (fun Y (hY:Below Y3.heap.size Y3 Y)=>bo_lastF (HC9.out.below hY));have HLG:=hid (fun Y (hY:Below Y3.heap.size Y3 Y)=>(HC9.out.below hY).last);generalize hq.ws.length=TP at HTF HTG HLn;generalize hq.last=LS at HLF HLG HLn;go_wp2_with fail;refine wp_region_calmH (fun Y=>Below Y3.heap.size Y3 Y) (by kernel_rfl) (by kernel_rfl) (Below.refl _ _).drew ?_;show QuietH _ _ _ _ [_,_,_,_,_,_,_,_,_,_,_,_,_,_,_,_,_,_,_,_,_,_,_,_] _
         refine qh 167 (.int .u32 sm) ?_;simp only[Act.put,zA,zB,zC];refine qh 168 (.int .u32 sm) ?_;simp only[Act.put,zA,zB,zC];refine quietH_at 169 (.bool false) rfl (by kernel_rfl) (fun Y hC=>?_) ?_
         ·go_simp;(first |done|simp)
         simp only[Act.put,zA,zB,zC];refine qh 170 (.bool false) ?_;simp only[Act.put,zA,zB,zC];refine qh 171 (.int .i64 0) ?_;simp only[Act.put,zA,zB,zC];refine qh 172 (.int .i64 0) ?_;simp only[Act.put,zA,zB,zC];refine qh 173 (.bool false) ?_;simp only[Act.put,zA,zB,zC];refine qh 174 (.bool false) ?_;simp only[Act.put,zA,zB,zC];refine qh 175 (.bool false) ?_;simp only[Act.put,zA,zB,zC];refine qh 176 (.pointer (some ⟨F.p,0,none⟩)) ?_;simp only[Act.put,zA,zB,zC];refine quietH_at 177 (.int .i64 TP) rfl (by kernel_rfl) (fun Y hC=>?_) ?_
         ·go_simp;exact(HTF.out Y hC).mono fun e w' ⟨x,y⟩=>⟨x,by rw[←y];exact hC⟩
         simp only[Act.put,zA,zB,zC];refine qh 178 (.pointer (some ⟨G.p,0,none⟩)) ?_;simp only[Act.put,zA,zB,zC];refine quietH_at 179 (.int .i64 TP) rfl (by kernel_rfl) (fun Y hC=>?_) ?_
         ·go_simp;exact(HTG.out Y hC).mono fun e w' ⟨x,y⟩=>⟨x,by rw[←y];exact hC⟩
         simp only[Act.put,zA,zB,zC];refine quietH_at 180 (.bool false) rfl (by kernel_rfl) (fun Y hC=>?_) ?_
         ·go_simp;(first |done|simp)
         simp only[Act.put,zA,zB,zC];refine qh 181 (.bool false) ?_;simp only[Act.put,zA,zB,zC];refine qh 182 (.bool false) ?_;simp only[Act.put,zA,zB,zC];refine qh 183 (.pointer (some ⟨F.p,0,none⟩)) ?_;simp only[Act.put,zA,zB,zC];refine quietH_at 184 (.int .u32 LS) rfl (by kernel_rfl) (fun Y hC=>?_) ?_
         ·go_simp;exact(HLF.out Y hC).mono fun e w' ⟨x,y⟩=>⟨x,by rw[←y];exact hC⟩
         simp only[Act.put,zA,zB,zC];refine qh 185 (.pointer (some ⟨G.p,0,none⟩)) ?_;simp only[Act.put,zA,zB,zC];refine qh 186 (.pointer (some ⟨G.p,0,none⟩)) ?_;simp only[Act.put,zA,zB,zC];refine qh 187 (.pointer (some ⟨G.p,3,none⟩)) ?_;simp only[Act.put,zA,zB,zC];refine quietH_at 188 (.int .u32 LS) rfl (by kernel_rfl) (fun Y hC=>?_) ?_
         ·have q:=HLG.out Y hC;go_simp
         simp only[Act.put,zA,zB,zC];refine quietH_at 189 (.bool false) rfl (by kernel_rfl) (fun Y hC=>?_) ?_
         ·go_simp;(first |done|simp)
         simp only[Act.put,zA,zB,zC];refine qh 190 (.bool false) ?_;simp only[Act.put,zA,zB,zC];refine quietH_nil ?_;intro V9 hb9;have HB9:=hid (HB3.out.trans (hb9.mono HB3.out.size));have HRd1:=hid (HRd.out V9 HB9.out);clear hb9 HTF HTG HLF HLG HRd HB3 HC9;go_wp2_with fail;refine(HRd1.out).mono ?_;rintro e Y4 ⟨a',c',rfl,hl,hb⟩;(try dsimp only);have HC10:=hid ((HC6.out.below HB9.out).below hb);obtain⟨Y5,hY5,r25,hb5,hz5⟩:=alloc_row Y4 24 [.bool b1,.slice a' nx c'];have HC11:=hid (HC10.out.below hb5);have HSa:=hid (law_same Y5 b1 a1 a' l1 nx c1 c' (HC11.out.came HH1.out).1.1 (hl.below hb5) HH1.out.2.2.1 HH1.out.2.2.2);have q0:=HC11.out.box.cell_at 0;have q1:=HC11.out.box.cell_at 1;have p0:=r25.cell_at 0;have p1:=r25.cell_at 1;simp only[yB,yC]at p0 p1 q0 q1;rw[hY5]at p0 p1 q0 q1;have HY5:=hid hY5;clear hY5 r25 hb5 hz5 hl hb;go_wp2_with fail;rw[←HY5.out];refine(HSa.out).mono ?_;rintro e Y6 ⟨rfl,hb⟩;(try dsimp only);have HFin:=hid (HC11.out.below hb).bel;clear hb p0 p1 q0 q1 HSa HC10 HC11 HY5;go_wp2_with fail;go_ret;exact⟨rfl,HFin.out⟩
        |false=>
         have hnx:nx≤1024:=(by have:=HH1.out.2.2.1;omega);obtain⟨pp,hA2,u1,u2,u3⟩:=alloc_ex (h:=hq) (c:=wd hq.rt 17) (n:=1+nx) (isO_cls H17.out) HSz.out (by have:=HLn.out;omega) (by have:=HLn.out;omega)
         have ppl:pp<4294967296:=by
          obtain⟨g9,i9⟩:=grow_alloc HC6.out.hp.good (by decide) (by decide) (show 1+nx≤65535 by omega) u1;exact isO_lt g9.good (isF_isO i9)
         have u1':=u1;rw[HH1.out.2.2.1]at u1';obtain⟨rd1,rd2,rd3⟩:=made_read HC6.out.hp.good u1' HH1.out.2.1 hm hsm mi3;have HMk:=hid (bo_makeF HC6.out b1 a1 l1 nx c1 HH1.out hm hsm hnx pp hA2 u1);have HMr:=hid (fun Y F8 (c:Bo w F G bx [.bool b1,.slice a1 nx c1] Y F8 G2 (Limb.mkH hA2 pp b1 l1) hq)=>bo_makeG c b1 a1 l1 nx c1 HH1.out hm hsm hnx pp hA2 u1);have h17M:isO (Limb.mkH hA2 pp b1 l1) (wd (Limb.mkH hA2 pp b1 l1).rt 17)=true:=mkH_keeps HC6.out.hp.good u1' HH1.out.2.1 mi3 H17.out
         have HRd:=hid (fun Y F8 G8 (c:Bo w F G bx [.bool b1,.slice a1 nx c1] Y F8 G8 (Limb.mkH hA2 pp b1 l1) (Limb.mkH hA2 pp b1 l1))=>show Calls Tryz.prog 49 #[.pointer (some ⟨F.p,0,none⟩),.int .u32 pp] Y fun e w'=> ∃a c,e= .returned (.tuple #[.agg #[.bool b1,.slice a nx c],.int .i64 0])∧Lay .u32 w' a l1∧Below Y.heap.size Y w' from by
          have:=bo_readF c pp ppl h17M;unfold ReadRes at this;rw[rd1,rd2,rd3,←HH1.out.2.2.1]at this;exact this)
         generalize Limb.mkH hA2 pp b1 l1=hM at*
         clear mi1 mi2 mi3 rd1 rd2 rd3 hsm hm hnx u1 u1' u2 u3 ppl h17M;have q0:=HC6.out.box.cell_at 0;have q1:=HC6.out.box.cell_at 1;simp only[yB,yC]at q0 q1;go_wp2_with fail;refine(HMk.out).mono ?_;rintro e Y1 ⟨rfl,F8,hC⟩;(try dsimp only);have HC7:=hid hC;have HMy1:=hid (HMy.out Y1 (hC.came HH1.out).1);clear hC q0 q1 HMk HMy;have q0:=HC7.out.box.cell_at 0;have q1:=HC7.out.box.cell_at 1;simp only[yB,yC]at q0 q1;go_wp2_with fail;refine(HMy1.out).mono ?_;rintro e Y2 ⟨rfl,hb⟩;(try dsimp only);have HC8:=hid (HC7.out.below hb);have HMr1:=hid (HMr.out Y2 F8 HC8.out);clear hb q0 q1 HMy1 HMr HC7;have q0:=HC8.out.box.cell_at 0;have q1:=HC8.out.box.cell_at 1;simp only[yB,yC]at q0 q1;go_wp2_with fail;refine(HMr1.out).mono ?_;rintro e Y3 ⟨rfl,G8,hC⟩;(try dsimp only);have HC9:=hid hC;clear hC q0 q1 HMr1 HC8;have HTF:=hid (fun Y (hY:Below Y3.heap.size Y3 Y)=>bo_topF (HC9.out.below hY));have HTG:=hid (fun Y (hY:Below Y3.heap.size Y3 Y)=>bo_topG (HC9.out.below hY));have HLF:=hid (fun Y (hY:Below Y3.heap.size Y3 Y)=>bo_lastF (HC9.out.below hY));have HLG:=hid (fun Y (hY:Below Y3.heap.size Y3 Y)=>(HC9.out.below hY).last);generalize hM.ws.length=TP at HTF HTG;generalize hM.last=LS at HLF HLG;go_wp2_with fail;refine wp_region_calmH (fun Y=>Below Y3.heap.size Y3 Y) (by kernel_rfl) (by kernel_rfl) (Below.refl _ _).drew ?_;show QuietH _ _ _ _ [_,_,_,_,_,_,_,_,_,_,_,_,_,_,_,_,_,_,_,_,_,_,_,_] _
         refine qh 167 (.int .u32 pp) ?_;simp only[Act.put,zA,zB,zC];refine qh 168 (.int .u32 pp) ?_;simp only[Act.put,zA,zB,zC];refine quietH_at 169 (.bool false) rfl (by kernel_rfl) (fun Y hC=>?_) ?_
         ·go_simp;(first |done|simp)
         simp only[Act.put,zA,zB,zC];refine qh 170 (.bool false) ?_;simp only[Act.put,zA,zB,zC];refine qh 171 (.int .i64 0) ?_;simp only[Act.put,zA,zB,zC];refine qh 172 (.int .i64 0) ?_;simp only[Act.put,zA,zB,zC];refine qh 173 (.bool false) ?_;simp only[Act.put,zA,zB,zC];refine qh 174 (.bool false) ?_;simp only[Act.put,zA,zB,zC];refine qh 175 (.bool false) ?_;simp only[Act.put,zA,zB,zC];refine qh 176 (.pointer (some ⟨F.p,0,none⟩)) ?_;simp only[Act.put,zA,zB,zC];refine quietH_at 177 (.int .i64 TP) rfl (by kernel_rfl) (fun Y hC=>?_) ?_
         ·go_simp;exact(HTF.out Y hC).mono fun e w' ⟨x,y⟩=>⟨x,by rw[←y];exact hC⟩
         simp only[Act.put,zA,zB,zC];refine qh 178 (.pointer (some ⟨G.p,0,none⟩)) ?_;simp only[Act.put,zA,zB,zC];refine quietH_at 179 (.int .i64 TP) rfl (by kernel_rfl) (fun Y hC=>?_) ?_
         ·go_simp;exact(HTG.out Y hC).mono fun e w' ⟨x,y⟩=>⟨x,by rw[←y];exact hC⟩
         simp only[Act.put,zA,zB,zC];refine quietH_at 180 (.bool false) rfl (by kernel_rfl) (fun Y hC=>?_) ?_
         ·go_simp;(first |done|simp)
         simp only[Act.put,zA,zB,zC];refine qh 181 (.bool false) ?_;simp only[Act.put,zA,zB,zC];refine qh 182 (.bool false) ?_;simp only[Act.put,zA,zB,zC];refine qh 183 (.pointer (some ⟨F.p,0,none⟩)) ?_;simp only[Act.put,zA,zB,zC];refine quietH_at 184 (.int .u32 LS) rfl (by kernel_rfl) (fun Y hC=>?_) ?_
         ·go_simp;exact(HLF.out Y hC).mono fun e w' ⟨x,y⟩=>⟨x,by rw[←y];exact hC⟩
         simp only[Act.put,zA,zB,zC];refine qh 185 (.pointer (some ⟨G.p,0,none⟩)) ?_;simp only[Act.put,zA,zB,zC];refine qh 186 (.pointer (some ⟨G.p,0,none⟩)) ?_;simp only[Act.put,zA,zB,zC];refine qh 187 (.pointer (some ⟨G.p,3,none⟩)) ?_;simp only[Act.put,zA,zB,zC];refine quietH_at 188 (.int .u32 LS) rfl (by kernel_rfl) (fun Y hC=>?_) ?_
         ·have q:=HLG.out Y hC;go_simp
         simp only[Act.put,zA,zB,zC];refine quietH_at 189 (.bool false) rfl (by kernel_rfl) (fun Y hC=>?_) ?_
         ·go_simp;(first |done|simp)
         simp only[Act.put,zA,zB,zC];refine qh 190 (.bool false) ?_;simp only[Act.put,zA,zB,zC];refine quietH_nil ?_;intro V9 hb9;have HC6:=hid (HC9.out.below hb9);have HRd1:=hid (HRd.out V9 F8 G8 HC6.out);clear hb9 HTF HTG HLF HLG HRd HC9;go_wp2_with fail;refine(HRd1.out).mono ?_;rintro e Y4 ⟨a',c',rfl,hl,hb⟩;(try dsimp only);have HC10:=hid (HC6.out.below hb);obtain⟨Y5,hY5,r25,hb5,hz5⟩:=alloc_row Y4 24 [.bool b1,.slice a' nx c'];have HC11:=hid (HC10.out.below hb5);have HSa:=hid (law_same Y5 b1 a1 a' l1 nx c1 c' (HC11.out.came HH1.out).1.1 (hl.below hb5) HH1.out.2.2.1 HH1.out.2.2.2);have q0:=HC11.out.box.cell_at 0;have q1:=HC11.out.box.cell_at 1;have p0:=r25.cell_at 0;have p1:=r25.cell_at 1;simp only[yB,yC]at p0 p1 q0 q1;rw[hY5]at p0 p1 q0 q1;have HY5:=hid hY5;clear hY5 r25 hb5 hz5 hl hb;go_wp2_with fail;rw[←HY5.out];refine(HSa.out).mono ?_;rintro e Y6 ⟨rfl,hb⟩;(try dsimp only);have HFin:=hid (HC11.out.below hb).bel;clear hb p0 p1 q0 q1 HSa HC10 HC11 HY5;go_wp2_with fail;go_ret;exact⟨rfl,HFin.out⟩
end Go.Proofs.YtbffpkmfhkphdaaGreatDoor

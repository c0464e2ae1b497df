/- The walk of the document's Read, of an object as an integer's. -/
import Derived.Test.YtbffpkmfhkphdaaGreatDoorGX00
import Derived.Test.YtbffpkmfhkphdaaGreatDoorGX49
set_option linter.unusedVariables false
set_option linter.unusedSimpArgs false
set_option maxRecDepth 1000000
set_option maxHeartbeats 6400000
namespace Go.Proofs.YtbffpkmfhkphdaaGreatDoor
open Go Lib Go.RowKit Limb
section
variable {w:World} {G:RFoot} {h:Hp}
theorem ref_read_good(H:RefAt w G h)(o:Nat)(ho:o<4294967296)(e1: ¬o%2=1)(hi:isO h o=true)(h17:isO h (wd h.rt 17)=true)(hk:rdOk h o=true):Calls Tryz.prog 50 #[.pointer (some ⟨G.p,0,none⟩),.int .u32 o] w fun e w'=>ReadRes h o w w' e:=by
 obtain⟨W,hW,r0,hB,hz⟩:=alloc_row w 24 [.bool false,.slice none 0 0];have HW:=hid hW;have hk0:=r_kind W o ho;have HK:=hid (show∃n:Nat,(n:Int)≠1∧Calls Tryz.prog 133 #[.int .u32 o] W fun e w'=>e= .returned (.int .i64 (n:Nat))∧W=w' from⟨kindN o,by unfold kindN;rw[if_neg e1];split<;>decide,hk0⟩);have hI:=r_is (H.below hB) o ho;rw[hi]at hI;have HI:=hid hI;have hH:=r_header (H.below hB) o hi;simp only[hdV_ex]at hH;have HH:=hid hH;have h170:wd h.rt 17≠0:=(isO_iff.1 h17).1
 have HRt:=hid (fun X (hb:Below W.heap.size W X)=>show X.cell? ⟨G.p,2,none⟩=some (.slice (some ⟨G.gr,0,none⟩) 64 64)∧X.cell? ⟨G.gr,17,none⟩=some (.int .u32 (wd h.rt 17:Nat))from by
  have:=((H.below hB).below hb).root (i:=17) (by decide);exact⟨this.1,this.2.1⟩)
 have ix17: ∀W,(Instr.indexAt 71 (.slice (some ⟨G.gr,0,none⟩) 64 64) (.int .i64 17)).run Tryz.prog W= .ok (.pointer (some ⟨G.gr,17,none⟩)) W:=(H.root (i:=17) (by decide)).2.2;obtain⟨-,k1,k2,k3⟩:=rdOk_parts hk;have HRb:=hid (fun(hg:rdGood (rdSg h o) (wd (flds h o) 0) (rdAll h o)=false)=>rd_bad (h:=h) e1 hi (by unfold rdFine;rw[hk,hg];rfl));have HRg:=hid (fun(hg:rdGood (rdSg h o) (wd (flds h o) 0) (rdAll h o)=true)=>rd_fine (h:=h) e1 hi (by unfold rdFine;rw[hk,hg];rfl))
 have HWd:=hid (fun X (hb:Below W.heap.size W X) k (hk:k<(hdO h o).size)=>show Calls Tryz.prog 137 #[.pointer (some ⟨G.p,0,none⟩),.int .u32 o,.int .i64 k] X fun e w'=>e= .returned (.tuple #[.int .u32 (wd (flds h o) k:Nat),.int .i64 0])∧Below X.heap.size X w' from by
  rw[flds_wd hk];exact r_word ((H.below hB).below hb) (isF_iff.2 ⟨hi,k1,hk⟩))
 have hsz:=(okO H.good hi).size;have hfl:=flds_length H.good hi;have hlim:=flds_lim H.good o;have hsgE:rdSg h o=decide (wd (flds h o) 0=1):=rfl;have hallE:rdAll h o=(flds h o).drop 1:=rfl;generalize rdSg h o=sg at*
 generalize rdAll h o=l at*
 generalize flds h o=fl at*
 generalize wd h.rt 17=r17 at*
 generalize hdO h o=x at*
 have HFl:=hid hfl;have HLim:=hid hlim;have HSg:=hid hsgE;have HAll:=hid hallE;clear hW hz e1 hi H hH hI hk0 ho h17 hk hfl hlim hsgE hallE;obtain⟨kn,kn1,hkn⟩:=HK.out;have kq:((kn:Int)==1)=false:=by rw[beq_eq_false_iff_ne];exact kn1
 have kq':(kn==1)=false:=by rw[beq_eq_false_iff_ne];omega
 clear HK kn1;go_enter Tryz.func50,Tryz.ntmps50;go_wp2_with fail;rw[←HW.out];refine(hkn).mono ?_;rintro e V ⟨rfl,rfl⟩;(try dsimp only);go_wp2_with fail;refine(HI.out).mono ?_;rintro e V ⟨rfl,rfl⟩;(try dsimp only);go_wp2_with fail;refine(HH.out).mono ?_;rintro e V ⟨rfl,hbW⟩;(try dsimp only);replace r0:=r0.below hbW r0.lt;replace hB:=hB.trans (hbW.mono hB.size);obtain⟨V1,hV1,r8,hb8,hz8⟩:=alloc_row V 159 [.int .i64 x.size,.int .i64 x.fmt,.int .i64 x.spare,.int .u32 x.cls,.int .u32 x.ser];replace hB:=hB.trans (hb8.mono hB.size);replace r0:=r0.below hb8 r0.lt;replace hbW:=hbW.trans (hb8.mono hbW.size);have HV1:=hid hV1;obtain⟨bV,hbV⟩: ∃bV,bV=V.heap.size:=⟨_,rfl⟩;rw[←hbV]at r8;have HBV:=hid hbV;clear hV1 hbV hb8 hz8 HI HH HW hkn kq kq';have HK1:=hid k1;have HK2:=hid k2;have HK3:=hid k3;clear k1 k2 k3;have HB1:=hid hB;have R0:=hid r0;have HBW:=hid hbW;go_wp2_with fail;rw[←HV1.out,←HBV.out];clear HV1 HBV;rw[HK1.out,HK2.out]at r8;replace r8:Row V1 bV 159 [.int .i64 x.size,.int .i64 3,.int .i64 x.spare,.int .u32 r17,.int .u32 x.ser]:=r8;have e1:((r17:Int)==0)=false:=by rw[beq_eq_false_iff_ne];omega
 have e1':(r17==0)=false:=by rw[beq_eq_false_iff_ne];exact h170
 have e2:((r17:Int) != (r17:Int))=false:=by simp
 have e2':(r17 != r17)=false:=by simp
 have e3:decide ((x.size:Int)<1)=false:=decide_eq_false (by have:=HK3.out;omega);have e3':decide (x.size<1)=false:=decide_eq_false (by have:=HK3.out;omega);clear HK1 HK2 h170 hB r0;refine wp_region_calmH (fun Y=>Below V1.heap.size V1 Y) (by kernel_rfl) (by kernel_rfl) (Below.refl _ _).drew ?_;show QuietH _ _ _ _ [_,_,_,_,_,_,_,_,_,_,_,_,_,_,_,_,_,_,_,_,_,_,_,_] _
 refine qh 29 (.pointer (some ⟨bV,1,none⟩)) ?_;simp only[Act.put,zA,zB,zC];refine quietH_at 30 (.int .i64 3) rfl (by kernel_rfl) (fun Y hC=>?_) ?_
 ·have q:=(r8.below hC r8.lt).cell_at 1;simp only[yB,yC]at q;go_simp
 simp only[Act.put,zA,zB,zC];refine qh 31 (.bool false) ?_;simp only[Act.put,zA,zB,zC];refine qh 32 (.bool false) ?_;simp only[Act.put,zA,zB,zC];refine qh 33 (.pointer (some ⟨bV,3,none⟩)) ?_;simp only[Act.put,zA,zB,zC];refine quietH_at 34 (.int .u32 r17) rfl (by kernel_rfl) (fun Y hC=>?_) ?_
 ·have q:=(r8.below hC r8.lt).cell_at 3;simp only[yB,yC]at q;go_simp
 simp only[Act.put,zA,zB,zC];refine qh 35 (.bool false) ?_;simp only[Act.put,zA,zB,zC];refine qh 36 (.bool false) ?_;simp only[Act.put,zA,zB,zC];refine qh 37 (.bool false) ?_;simp only[Act.put,zA,zB,zC];refine qh 38 (.pointer (some ⟨bV,3,none⟩)) ?_;simp only[Act.put,zA,zB,zC];refine quietH_at 39 (.int .u32 r17) rfl (by kernel_rfl) (fun Y hC=>?_) ?_
 ·have q:=(r8.below hC r8.lt).cell_at 3;simp only[yB,yC]at q;go_simp
 simp only[Act.put,zA,zB,zC];refine qh 40 (.pointer (some ⟨G.p,0,none⟩)) ?_;simp only[Act.put,zA,zB,zC];refine qh 41 (.pointer (some ⟨G.p,0,none⟩)) ?_;simp only[Act.put,zA,zB,zC];refine qh 42 (.pointer (some ⟨G.p,2,none⟩)) ?_;simp only[Act.put,zA,zB,zC];refine quietH_at 43 (.slice (some ⟨G.gr,0,none⟩) 64 64) rfl (by kernel_rfl) (fun Y hC=>?_) ?_
 ·obtain⟨q1,q2⟩:=HRt.out Y (hbW.trans (hC.mono hbW.size));go_simp
 simp only[Act.put,zA,zB,zC];refine qh 44 (.pointer (some ⟨G.gr,17,none⟩)) ?_;simp only[Act.put,zA,zB,zC];refine quietH_at 45 (.int .u32 r17) rfl (by kernel_rfl) (fun Y hC=>?_) ?_
 ·obtain⟨q1,q2⟩:=HRt.out Y (hbW.trans (hC.mono hbW.size));go_simp
 simp only[Act.put,zA,zB,zC];refine qh 46 (.bool false) ?_;simp only[Act.put,zA,zB,zC];refine qh 47 (.bool false) ?_;simp only[Act.put,zA,zB,zC];refine qh 48 (.bool false) ?_;simp only[Act.put,zA,zB,zC];refine qh 49 (.pointer (some ⟨bV,0,none⟩)) ?_;simp only[Act.put,zA,zB,zC];refine quietH_at 50 (.int .i64 x.size) rfl (by kernel_rfl) (fun Y hC=>?_) ?_
 ·have q:=(r8.below hC r8.lt).cell_at 0;simp only[yB,yC]at q;go_simp
 simp only[Act.put,zA,zB,zC];refine qh 51 (.bool false) ?_;simp only[Act.put,zA,zB,zC];refine qh 52 (.bool false) ?_;simp only[Act.put,zA,zB,zC];refine quietH_nil ?_;intro V2 hb2;have R8:=hid (r8.below hb2 r8.lt);have HB2:=hid hb2;generalize x.size=sz at*
 have HW0:=hid (HWd.out V2 (HBW.out.trans (hb2.mono HBW.out.size)) 0 HK3.out);clear e1 e1' e2 e2' e3 e3' HRt ix17 r8 hbW;go_wp2_with fail;refine(HW0.out).mono ?_;rintro e V3 ⟨rfl,hb⟩;(try dsimp only);have hb3:=hb2.trans (hb.mono hb2.size);have R8:=hid (R8.out.below hb R8.out.lt);have HB3:=hid hb3
 have he:((wd fl 0:Int)==1)=sg:=by
  rw[HSg.out];by_cases q:wd fl 0=1
  ·rw[q];rfl
  ·rw[decide_eq_false q,beq_eq_false_iff_ne];omega
 have he':decide (wd fl 0=1)=sg:=HSg.out.symm;obtain⟨s0,hs0⟩: ∃s0,s0=wd fl 0:=⟨_,rfl⟩;rw[←hs0]at he he' HRb HRg ⊢;obtain⟨V4,hV4,ra,hba,hza⟩:=alloc_row V3 24 [.bool sg,.slice none 0 0];obtain⟨ga,hga⟩: ∃ga,ga=V3.heap.size:=⟨_,rfl⟩;rw[←hga]at ra;have HGA:=hid hga;have HGs:=hid (show V1.heap.size≤ga by rw[hga];exact hb3.size);have HGb:=hid (show bV<ga by rw[hga];exact R8.out.lt);have R8:=hid (R8.out.below hba R8.out.lt);have HV4:=hid hV4;have hb4:=hb3.trans (hba.mono hb3.size);clear hb hb2 hb3 hs0 hV4 hba hza hga HB2 HB3 HW0;go_wp2_with fail;rw[←HV4.out,←HGA.out];clear HV4 HGA he he';go_loopw[10] (fun i wr=> ∃(k:Nat) (s:Value),1≤k∧k≤sz∧i= .int .i64 k∧Row wr ga 24 [.bool sg,s]∧wr.ownsRow (ga+1) 60 1 s (k-1) (nums .u32 (l.take (k-1)))∧Row wr bV 159 [.int .i64 sz,.int .i64 3,.int .i64 x.spare,.int .u32 r17,.int .u32 x.ser]∧Below V1.heap.size V1 wr) (fun i _=>sz-(intOf i).toNat);case atStart=>exact⟨1,_,Nat.le_refl _,HK3.out,rfl,ra,⟨rfl,.inl ⟨rfl,rfl⟩⟩,R8.out,hb4⟩
 case round=>
  clear ra hb4 R8;obtain⟨k,s,hk1,hks,rfl,ra,hown,r8,hbw⟩:=hrel;have c0:=r8.cell_at 0;simp only[List.getElem?_cons_zero]at c0;by_cases h0:k<sz
  ·have d1:decide ((k:Int)<(sz:Int))=true:=decide_eq_true (by omega);have d2:decide (k<sz)=true:=decide_eq_true h0;have hkl:k-1<l.length:=by rw[HAll.out,List.length_drop,HFl.out];omega
   have hwk:wd fl k=wd l (k-1):=by
    rw[HAll.out,wd_lt (by rw[HFl.out];exact h0),wd_lt (by rw[List.length_drop,HFl.out];omega),List.getElem_drop];congr 1;omega
   have htk:l.take (k-1)++[wd l (k-1)]=l.take (k-1+1):=take_snoc hkl;rw[←hwk]at htk;have HTk:=hid htk;have HW1:=hid (HWd.out wr (HBW.out.trans (hbw.mono HBW.out.size)) k h0);generalize wd fl k=fv at*
   clear htk hwk hkl;go_wp2_with fail;refine(HW1.out).mono ?_;rintro e V2 ⟨rfl,hb⟩;(try dsimp only);have hown2:=ownsRow_below hown hb;have ra:=ra.below hb ra.lt;have r8:=r8.below hb r8.lt;replace hbw:=hbw.trans (hb.mono hbw.size);clear hb hown HW1 c0;obtain⟨i0,hi,hz0,hz1,hz2⟩:=info_parts info32;have hown3:=hown2.alloc (.cells #[.int .u32 fv] 60);have hral:=ra.lt;obtain⟨v',X',hrr,h2,h3,h4,h5⟩:=run_append_own_at (P:=Tryz.prog) (w:=V2.alloc (.cells #[.int .u32 fv] 60)) (ga+1) 22 22 60 i0 (.int .u32 0) 1 4 Tryz.underlying22 hi hz0 hz1 hz2 rfl (by decide) _ (k-1) _ hown3 ⟨V2.heap.size,0,none⟩ 1 1 (nums .u32 [fv]) rfl (cell_one_new _ _ _) (by simp[nums,Value.oneCell']) (Nat.le_trans (show k-1+1≤65536 by omega) (by decide)) (by omega) (by rw[World.size_alloc];omega);rw[←nums_append,HTk.out,show k-1+1=k by omega]at h2;obtain⟨g',c',hv',-,-⟩:=Sl.of_owns (owns_weak h2) (show 0<k by omega);subst hv';have hB2:=below_grown hown3 h3 (by rw[World.size_alloc];omega);have ral:=ra.alloc (.cells #[.int .u32 fv] 60);have r8l:=r8.alloc (.cells #[.int .u32 fv] 60);have ra2:=ral.below hB2 (Nat.lt_succ_self _);have hgb:bV<ga+1:=Nat.lt_succ_of_lt HGb.out;have r82:=r8l.below hB2 hgb;have hB3:=(hbw.alloc hbw.size (.cells #[.int .u32 fv] 60)).trans (hB2.mono (Nat.le_succ_of_le HGs.out));have p1:=ra2.cell_at 1;have p0:=ra.cell_at 1;simp only[yB,yC]at p1 p0;have z1:=ra2.free 1;have HR:=hid hrr;have RA3:=hid (ra2.store_any 1 (.slice (some ⟨g',0,none⟩) k c'));have R83:=hid (r82.other (a:=⟨ga,1,none⟩) (show bV≠ga from Nat.ne_of_lt HGb.out) (.slice (some ⟨g',0,none⟩) k c'));have HO3:=hid (owns_other (i:=1) (u:= .slice (some ⟨g',0,none⟩) k c') h2 (Nat.lt_succ_self ga));have HB3:=hid (below_store hB3 HGs.out (i:=1) (.slice (some ⟨g',0,none⟩) k c'));clear hrr h2 h3 h4 h5 hown2 hown3 hi hz0 hz1 hz2 hB2 hB3 hbw ral r8l ra2 r82 ra r8 hgb;go_wp2_with(at_builtin;refine Lib.wpList_append_run _ rfl _ _ _ _ rfl _ _ rfl rfl _ _ HR.out ?_);go_roundw;case rel=>exact⟨k+1,_,by omega,h0,by simp,RA3.out,HO3.out,R83.out,HB3.out⟩
   case measure=>simp[intOf];omega
  ·obtain rfl:k=sz:=by omega
   have d1:decide ((k:Int)<(k:Int))=false:=decide_eq_false (by omega);have d2:decide (k<k)=false:=decide_eq_false (by omega);have hln:l.length=k-1:=by rw[HAll.out,List.length_drop,HFl.out]
   rw[List.take_of_length_le (by omega)]at hown;obtain⟨a',c,rfl,hlay⟩:=owns_lay hown hln;have RA:=hid ra;have q0:=ra.cell_at 0;have q1:=ra.cell_at 1;simp only[yB,yC]at q0 q1;have HLay:=hid (fun Y (hY:Below wr.heap.size wr Y)=>hlay.below hY);have R0:=hid (R0.out.below hbw (R0.out.lt));have HB2:=hid (HB1.out.trans (hbw.mono HB1.out.size));have HCm:=hid (fun Y (hY:Below wr.heap.size wr Y)=>show Came Y sg a' (k-1) l from⟨HLay.out Y hY,by rw[HAll.out];exact HLim.out.drop 1,hln.symm,by omega⟩);have HLn:=hid hln.symm;have HSm:=hid (ref_small wr sg a' l (k-1) c (HCm.out wr (Below.refl _ _)));have HMy:=hid (fun Y (hY:Below wr.heap.size wr Y)=>ref_May Y sg a' l (k-1) c (HLay.out Y hY) (HCm.out Y hY).2.1 (HCm.out Y hY).2.2.1 (HCm.out Y hY).2.2.2);clear ra r8 hown hlay hln HWd HBW HB1 HFl HLim HSg HAll hbw hsz HGs HGb;go_wp2_with fail;refine(HSm.out).mono ?_;rintro e V3 ⟨⟨v,b,rfl,hbs,-⟩,hb⟩;(try dsimp only);have HBs:=hid hbs;have rq:=RA.out.below hb RA.out.lt;have q0:=rq.cell_at 0;have q1:=rq.cell_at 1;simp only[yB,yC]at q0 q1;have HB3:=hid hb;clear rq hb HSm hbs c0 d1 d2;by_cases hs1:1<s0
   ·have HBf:=hid (HB2.out.trans (HB3.out.mono HB2.out.size));have hR:=HRb.out (rdGood_bad (.inl hs1));have e1:decide ((1:Int)<(s0:Int))=true:=decide_eq_true (by omega);have e1':decide (1<s0)=true:=decide_eq_true hs1;clear hs1;have r0:=R0.out.below HB3.out R0.out.lt;have hB:=HBf.out;have hl:=Lay.nil .u32 V3 none;have z0:=r0.free 0;have z1:=r0.free 1;have p0:=r0.cell_at 0;have p1:=r0.cell_at 1;simp only[yB,yC]at p0 p1;obtain⟨U,hU⟩: ∃U,U=(V3.setCell ⟨w.heap.size,0,none⟩ (.bool false)).setCell ⟨w.heap.size,1,none⟩ (.slice none 0 0):=⟨_,rfl⟩;have ra:Row U w.heap.size 24 [.bool false,.slice none 0 0]:=by rw[hU];exact(r0.store_any 0 _).store_any 1 _
    have hBU:Below w.heap.size w U:=(by rw[hU];exact below_store (below_store hB (Nat.le_refl _) _) (Nat.le_refl _) _);have hlU:Lay .u32 U none []:=by rw[hU];exact(hl).pair r0 _ _
    have f0:=ra.cell_at 0;have f1:=ra.cell_at 1;simp only[yB,yC]at f0 f1;have HFin:=hid (readRes_of hR none 0 0 rfl hlU hBU);have HU:=hid hU;clear hU ra hBU hlU hB r0 hl hR;go_wp2_with fail;(try simp only[Exit.inBlock,Exit.then]);rw[←HU.out];refine bodyPost_ret (v:= .tuple #[.agg #[.bool false,.slice none 0 0],.int .i64 21]) (by simp[results,Tryz.results50,go_sem,f0,f1]) rfl HFin.out
   ·have e1:decide ((1:Int)<(s0:Int))=false:=decide_eq_false (by omega);have e1':decide (1<s0)=false:=decide_eq_false hs1;have HM3:=hid (HMy.out V3 HB3.out);have HSs:=hid hs1;clear hs1;go_wp2_with fail;refine(HM3.out).mono ?_;rintro e V4 ⟨rfl,hb⟩;(try dsimp only);have HB4:=hid (HB3.out.trans (hb.mono HB3.out.size));have rq:=RA.out.below HB4.out RA.out.lt;have q0:=rq.cell_at 0;have q1:=rq.cell_at 1;simp only[yB,yC]at q0 q1;have HBf:=hid (HB2.out.trans (HB4.out.mono HB2.out.size));clear rq hb HM3 HMy e1 e1'
    cases hm:mayB sg l with
    |false=>
     have hR:=HRb.out (rdGood_bad (.inr (.inl hm)));clear hm HBs;have r0:=R0.out.below HB4.out R0.out.lt;have hB:=HBf.out;have hl:=Lay.nil .u32 V4 none;have z0:=r0.free 0;have z1:=r0.free 1;have p0:=r0.cell_at 0;have p1:=r0.cell_at 1;simp only[yB,yC]at p0 p1;obtain⟨U,hU⟩: ∃U,U=(V4.setCell ⟨w.heap.size,0,none⟩ (.bool false)).setCell ⟨w.heap.size,1,none⟩ (.slice none 0 0):=⟨_,rfl⟩;have ra:Row U w.heap.size 24 [.bool false,.slice none 0 0]:=by rw[hU];exact(r0.store_any 0 _).store_any 1 _
     have hBU:Below w.heap.size w U:=(by rw[hU];exact below_store (below_store hB (Nat.le_refl _) _) (Nat.le_refl _) _);have hlU:Lay .u32 U none []:=by rw[hU];exact(hl).pair r0 _ _
     have f0:=ra.cell_at 0;have f1:=ra.cell_at 1;simp only[yB,yC]at f0 f1;have HFin:=hid (readRes_of hR none 0 0 rfl hlU hBU);have HU:=hid hU;clear hU ra hBU hlU hB r0 hl hR;go_wp2_with fail;(try simp only[Exit.inBlock,Exit.then]);rw[←HU.out];refine bodyPost_ret (v:= .tuple #[.agg #[.bool false,.slice none 0 0],.int .i64 21]) (by simp[results,Tryz.results50,go_sem,f0,f1]) rfl HFin.out
    |true=>
     have hbs:=HBs.out hm
     cases hsm:isSm (signed sg (val l))with
     |true=>
      rw[hsm]at hbs;subst hbs;have hR:=HRb.out (rdGood_bad (.inr (.inr hsm)));clear hm hsm HBs;have r0:=R0.out.below HB4.out R0.out.lt;have hB:=HBf.out;have hl:=Lay.nil .u32 V4 none;have z0:=r0.free 0;have z1:=r0.free 1;have p0:=r0.cell_at 0;have p1:=r0.cell_at 1;simp only[yB,yC]at p0 p1;obtain⟨U,hU⟩: ∃U,U=(V4.setCell ⟨w.heap.size,0,none⟩ (.bool false)).setCell ⟨w.heap.size,1,none⟩ (.slice none 0 0):=⟨_,rfl⟩;have ra:Row U w.heap.size 24 [.bool false,.slice none 0 0]:=by rw[hU];exact(r0.store_any 0 _).store_any 1 _
      have hBU:Below w.heap.size w U:=(by rw[hU];exact below_store (below_store hB (Nat.le_refl _) _) (Nat.le_refl _) _);have hlU:Lay .u32 U none []:=by rw[hU];exact(hl).pair r0 _ _
      have f0:=ra.cell_at 0;have f1:=ra.cell_at 1;simp only[yB,yC]at f0 f1;have HFin:=hid (readRes_of hR none 0 0 rfl hlU hBU);have HU:=hid hU;clear hU ra hBU hlU hB r0 hl hR;go_wp2_with fail;(try simp only[Exit.inBlock,Exit.then]);rw[←HU.out];refine bodyPost_ret (v:= .tuple #[.agg #[.bool false,.slice none 0 0],.int .i64 21]) (by simp[results,Tryz.results50,go_sem,f0,f1]) rfl HFin.out
     |false=>
      rw[hsm]at hbs;subst hbs;have hR:=HRg.out (rdGood_ok (by have:=HSs.out;omega) hm hsm);have hl:=HLay.out V4 HB4.out;have hn:=HLn.out;have r0:=R0.out.below HB4.out R0.out.lt;have hB:=HBf.out;clear hm hsm HBs;have z0:=r0.free 0;have z1:=r0.free 1;have p0:=r0.cell_at 0;have p1:=r0.cell_at 1;simp only[yB,yC]at p0 p1;obtain⟨U,hU⟩: ∃U,U=(V4.setCell ⟨w.heap.size,0,none⟩ (.bool sg)).setCell ⟨w.heap.size,1,none⟩ (.slice a' (k-1) c):=⟨_,rfl⟩;have ra:Row U w.heap.size 24 [.bool sg,.slice a' (k-1) c]:=by rw[hU];exact(r0.store_any 0 _).store_any 1 _
      have hBU:Below w.heap.size w U:=(by rw[hU];exact below_store (below_store hB (Nat.le_refl _) _) (Nat.le_refl _) _);have hlU:Lay .u32 U a' l:=by rw[hU];exact(hl).pair r0 _ _
      have f0:=ra.cell_at 0;have f1:=ra.cell_at 1;simp only[yB,yC]at f0 f1;have HFin:=hid (readRes_of hR a' (k-1) c hn hlU hBU);have HU:=hid hU;clear hU ra hBU hlU hB r0 hl hR hn;go_wp2_with fail;(try simp only[Exit.inBlock,Exit.then]);rw[←HU.out];refine bodyPost_ret (v:= .tuple #[.agg #[.bool sg,.slice a' (k-1) c],.int .i64 0]) (by simp[results,Tryz.results50,go_sem,f0,f1]) rfl HFin.out
theorem ref_read(H:RefAt w G h)(o:Nat)(ho:o<4294967296)(h17:isO h (wd h.rt 17)=true):Calls Tryz.prog 50 #[.pointer (some ⟨G.p,0,none⟩),.int .u32 o] w fun e w'=>ReadRes h o w w' e:=by
 by_cases e1:o%2=1
 ·exact ref_read_odd G.p o ho e1
 ·cases hi:isO h o with
  |false=>exact ref_read_none H o ho e1 hi
  |true=>
   cases hk:rdOk h o with
   |false=>exact ref_read_bad H o ho e1 hi h17 hk
   |true=>exact ref_read_good H o ho e1 hi h17 hk
end
end Go.Proofs.YtbffpkmfhkphdaaGreatDoor

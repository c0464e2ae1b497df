/- The walk of package large's Read, of an object as an integer's. -/
import Derived.Test.YtbffpkmfhkphdaaGreatDoorGX00
import Derived.Test.YtbffpkmfhkphdaaGreatDoorGX47
set_option linter.unusedVariables false
set_option linter.unusedSimpArgs false
set_option maxRecDepth 1000000
set_option maxHeartbeats 6400000
namespace Go.Proofs.YtbffpkmfhkphdaaGreatDoor
open Go Lib Go.RowKit Limb
theorem rdGood_bad{sg:Bool}{s0:Nat}{l:List Nat}(h:1<s0∨mayB sg l=false∨isSm (signed sg (val l))=true):rdGood sg s0 l=false:=by
 unfold rdGood;rcases h with h|h|h
 ·rw[decide_eq_false (by omega)];rfl
 ·rw[h];simp
 ·rw[h];simp
theorem rdGood_ok{sg:Bool}{s0:Nat}{l:List Nat}(h1:s0≤1)(h2:mayB sg l=true)(h3:isSm (signed sg (val l))=false):rdGood sg s0 l=true:=by
 unfold rdGood;rw[decide_eq_true h1,h2,h3];rfl
theorem rdOk_parts{h:Hp}{o:Nat}(hk:rdOk h o=true):isO h o=true∧(hdO h o).fmt=3∧(hdO h o).cls=wd h.rt 17∧1≤(hdO h o).size:=by
 unfold rdOk at hk;simp only[Bool.and_eq_true,decide_eq_true_eq]at hk;exact⟨hk.1.1.1,hk.1.1.2,hk.1.2,hk.2⟩
section
variable {w:World} {F:Foot} {h:Hp}
theorem large_read_good(H:HeapAt w F h)(o:Nat)(ho:o<4294967296)(e1: ¬o%2=1)(hi:isO h o=true)(h17:isO h (wd h.rt 17)=true)(hk:rdOk h o=true):Calls Tryz.prog 49 #[.pointer (some ⟨F.p,0,none⟩),.int .u32 o] w fun e w'=>ReadRes h o w w' e:=by
 obtain⟨W,hW,r0,hB,hz⟩:=alloc_row w 24 [.bool false,.slice none 0 0];have HW:=hid hW;have HV:=hid (oop_value_no W o ho e1);have hH:=heap_Header (H.below hB) o ho;have x1:hdX h o=hdO h o:=by unfold hdX;rw[hi];rfl
 have x2:erX h o=0:=by unfold erX;rw[hi];rfl
 rw[x1,x2]at hH;have HH:=hid (show Calls Tryz.prog 129 #[.pointer (some ⟨F.p,0,none⟩),.int .u32 o] W fun e w'=>e= .returned (.tuple #[.agg #[.int .i64 (hdO h o).size,.int .i64 (hdO h o).fmt,.int .i64 (hdO h o).spare,.int .u32 (hdO h o).cls,.int .u32 (hdO h o).ser],.int .i64 0])∧Below W.heap.size W w' from hH);have HRt:=hid (fun X (hb:Below W.heap.size W X)=>show Calls Tryz.prog 130 #[.pointer (some ⟨F.p,0,none⟩),.int .i64 17] X fun e w'=>e= .returned (.tuple #[.int .u32 (wd h.rt 17:Nat),.int .i64 0])∧X=w' from heap_root ((H.below hB).below hb) 17 (by decide))
 have HIs:=hid (fun X (hb:Below W.heap.size W X)=>show Calls Tryz.prog 131 #[.pointer (some ⟨F.p,0,none⟩),.int .u32 (wd h.rt 17:Nat)] X fun e w'=>e= .returned (.bool true)∧X=w' from by
  have:=heap_is ((H.below hB).below hb) (wd h.rt 17) (isO_lt H.good h17);rw[h17]at this;exact this)
 obtain⟨-,k1,k2,k3⟩:=rdOk_parts hk;have HRb:=hid (fun(hg:rdGood (rdSg h o) (wd (flds h o) 0) (rdAll h o)=false)=>rd_bad (h:=h) e1 hi (by unfold rdFine;rw[hk,hg];rfl));have HRg:=hid (fun(hg:rdGood (rdSg h o) (wd (flds h o) 0) (rdAll h o)=true)=>rd_fine (h:=h) e1 hi (by unfold rdFine;rw[hk,hg];rfl))
 have HWd:=hid (fun X (hb:Below W.heap.size W X) k (hk:k<(hdO h o).size)=>show Calls Tryz.prog 132 #[.pointer (some ⟨F.p,0,none⟩),.int .u32 o,.int .i64 k] X fun e w'=>e= .returned (.tuple #[.int .u32 (wd (flds h o) k:Nat),.int .i64 0])∧Below X.heap.size X w' from by
  have hsz:=(okO H.good hi).size;have hE:lookE h o (k:Int) [3]=0:=lookE_zero.2 ⟨hi,by rw[k1];rfl,by omega,by rw[len_size (by rw[k1];decide)];omega⟩;have hA:getA h o (k:Int) [3]=wd (flds h o) k:=by unfold getA;rw[if_pos hE,Int.toNat_natCast,flds_wd hk]
  have:=heap_word ((H.below hB).below hb) o ho (k:Int) (by omega) (by omega);rw[hE,hA]at this;exact this)
 have hsz:=(okO H.good hi).size;have hfl:=flds_length H.good hi;have hlim:=flds_lim H.good o;have hsgE:rdSg h o=decide (wd (flds h o) 0=1):=rfl;have hallE:rdAll h o=(flds h o).drop 1:=rfl;generalize rdSg h o=sg at*
 generalize rdAll h o=l at*
 generalize flds h o=fl at*
 generalize wd h.rt 17=r17 at*
 generalize hdO h o=x at*
 have HFl:=hid hfl;have HLim:=hid hlim;have HSg:=hid hsgE;have HAll:=hid hallE;clear hW hz e1 hi H hH x1 x2 ho h17 hk hfl hlim hsgE hallE;go_enter Tryz.func49,Tryz.ntmps49;go_wp2_with fail;rw[←HW.out];refine(HV.out).mono ?_;rintro e V ⟨rfl,rfl⟩;(try dsimp only);go_wp2_with fail;refine(HH.out).mono ?_;rintro e V ⟨rfl,hbW⟩;(try dsimp only);replace r0:=r0.below hbW r0.lt;replace hB:=hB.trans (hbW.mono hB.size);obtain⟨V1,hV1,r8,hb8,hz8⟩:=alloc_row V 159 [.int .i64 x.size,.int .i64 x.fmt,.int .i64 x.spare,.int .u32 x.cls,.int .u32 x.ser];replace hB:=hB.trans (hb8.mono hB.size);replace r0:=r0.below hb8 r0.lt;replace hbW:=hbW.trans (hb8.mono hbW.size);have HV1:=hid hV1;obtain⟨bV,hbV⟩: ∃bV,bV=V.heap.size:=⟨_,rfl⟩;rw[←hbV]at r8;have HBV:=hid hbV;clear hV1 hbV hb8 hz8 HV HH HW;obtain⟨c0,c1,c2,c3,c4⟩:=r8.cells5;have HRt1:=hid (HRt.out V1 hbW);have HIs1:=hid (HIs.out V1 hbW);rw[k1]at c1;rw[k2]at c3;have q0:((x.size:Int)==0)=false:=by rw[beq_eq_false_iff_ne];omega
 have q0':(x.size==0)=false:=by rw[beq_eq_false_iff_ne];omega
 have HK3:=hid k3;clear k1 k2 k3;go_wp2_with fail;rw[←HV1.out,←HBV.out];refine(HRt1.out).mono ?_;rintro e V2 ⟨rfl,rfl⟩;(try dsimp only);go_wp2_with fail;refine(HIs1.out).mono ?_;rintro e V2 ⟨rfl,rfl⟩;(try dsimp only);generalize x.size=sz at*
 have HBW:=hid hbW;have HB1:=hid hB;have R0:=hid r0;have R8:=hid r8;clear HRt HIs HRt1 HIs1 c1 c2 c3 c4 hbW hB r0 r8;go_wp2_with fail;clear q0 q0';go_loopw[65,12] (fun i s wr=> ∃k:Nat,k≤sz∧i= .int .i64 k∧wr.ownsRow V1.heap.size 60 1 s k (nums .u32 (fl.take k))∧Below V1.heap.size V1 wr) (fun i _ _=>sz-(intOf i).toNat);case atStart=>exact⟨0,Nat.zero_le _,rfl,⟨rfl,.inl ⟨rfl,rfl⟩⟩,Below.refl _ _⟩
 case round=>
  clear c0;obtain⟨k,hk,rfl,hown,hbw⟩:=hrel;by_cases h0:k<sz
  ·have d1:decide ((k:Int)<(sz:Int))=true:=decide_eq_true (by omega);have d2:decide (k<sz)=true:=decide_eq_true h0;have htk:fl.take k++[wd fl k]=fl.take (k+1):=take_snoc (by rw[HFl.out];exact h0);have HTk:=hid htk;have HW1:=hid (HWd.out wr (HBW.out.trans (hbw.mono HBW.out.size)) k h0);generalize wd fl k=fv at*
   clear htk;go_wp2_with fail;refine(HW1.out).mono ?_;rintro e V2 ⟨rfl,hb⟩;(try dsimp only);have hown2:=ownsRow_below hown hb;replace hbw:=hbw.trans (hb.mono hbw.size);clear hb hown HW1;obtain⟨i0,hi,hz0,hz1,hz2⟩:=info_parts info32;have hown3:=hown2.alloc (.cells #[.int .u32 fv] 60);obtain⟨v',X',hrr,h2,h3,h4,h5⟩:=run_append_own_at (P:=Tryz.prog) (w:=V2.alloc (.cells #[.int .u32 fv] 60)) V1.heap.size 22 22 60 i0 (.int .u32 0) 1 4 Tryz.underlying22 hi hz0 hz1 hz2 rfl (by decide) _ k _ hown3 ⟨V2.heap.size,0,none⟩ 1 1 (nums .u32 [fv]) rfl (cell_one_new _ _ _) (by simp[nums,Value.oneCell']) (Nat.le_trans (show k+1≤65536 by omega) (by decide)) (by omega) (by rw[World.size_alloc];have:=hbw.size;omega);rw[←nums_append,HTk.out]at h2;have hB2:=below_grown hown3 h3 (by rw[World.size_alloc];have:=hbw.size;omega);have hB3:=(hbw.alloc hbw.size (.cells #[.int .u32 fv] 60)).trans hB2;have HR:=hid hrr;clear hrr h3 h4 h5 hown2 hown3 hi hz0 hz1 hz2 hB2 hbw;go_wp2_with(at_builtin;refine Lib.wpList_append_run _ rfl _ _ _ _ rfl _ _ rfl rfl _ _ HR.out ?_);go_roundw;case rel=>exact⟨k+1,h0,by simp,h2,hB3⟩
   case measure=>simp[intOf];omega
  ·obtain rfl:k=sz:=by omega
   have d1:decide ((k:Int)<(k:Int))=false:=decide_eq_false (by omega);have d2:decide (k<k)=false:=decide_eq_false (by omega);rw[List.take_of_length_le (by rw[HFl.out];exact Nat.le_refl _)]at hown;obtain⟨g,c,rfl,-,sl⟩:=Sl.of_owns (owns_weak hown) HK3.out;obtain⟨a',hsl,hlay⟩:=tail_run sl HFl.out HK3.out;rw[←HAll.out]at hlay
   have HSl:=hid (fun Y (hY:Below wr.heap.size wr Y)=>show Y.cell? ⟨g,0,none⟩=some (.int .u32 (wd fl 0:Nat))from by
    rw[(sl.below hY).cell (show 0<k from HK3.out),nums_get (by rw[HFl.out];exact HK3.out)])
   have hix: ∀W,(Instr.indexAt 22 (.slice (some ⟨g,0,none⟩) k c) (.int .i64 0)).run Tryz.prog W= .ok (.pointer (some ⟨g,0,none⟩)) W:=fun W=>sl.index 22 Tryz.underlying22 size32 W .i64 0 HK3.out
   have HIx:=hid hix;have HSL:=hid hsl;have HLay:=hid (fun Y (hY:Below wr.heap.size wr Y)=>hlay.below hY);have R0:=hid (R0.out.below hbw (R0.out.lt));have HB2:=hid (HB1.out.trans (hbw.mono HB1.out.size));have hln:k-1=l.length:=by rw[HAll.out,List.length_drop,HFl.out]
   have HCm:=hid (fun Y (hY:Below wr.heap.size wr Y)=>show Came Y sg a' (k-1) l from⟨HLay.out Y hY,by rw[HAll.out];exact HLim.out.drop 1,hln,by omega⟩);have HLn:=hid hln
   have he:((wd fl 0:Int)==1)=sg:=by
    rw[HSg.out];by_cases q:wd fl 0=1
    ·rw[q];rfl
    ·rw[decide_eq_false q,beq_eq_false_iff_ne];omega
   have HE:=hid he;have he':decide (wd fl 0=1)=sg:=HSg.out.symm;have HE':=hid he';generalize wd fl 0=s0 at*
   clear hown sl hsl hlay hix hln he he' HWd HBW HB1 HFl HLim HSg HAll hbw hsz hk d1 d2;have d1:decide ((k:Int)<(k:Int))=false:=decide_eq_false (by omega);have d2:decide (k<k)=false:=decide_eq_false (by omega);go_wp2_with fail;have hX:Below wr.heap.size wr wr.drew:=(Below.refl _ _).drew;refine wp_region_held (S:=fun Y=>Below wr.heap.size wr Y) (by kernel_rfl) ?_;refine tk 0 (.slice (some ⟨g,0,none⟩) k c) 80 hX ?_;simp only[Act.put,zA,zB,zC];refine tk 1 (.pointer (some ⟨g,0,none⟩)) 81 hX ?_ (y:=fun X hX=>by have i2:=HIx.out;go_simp);simp only[Act.put,zA,zB,zC];refine tk 2 (.int .u32 s0) 82 hX ?_ (y:=fun X hX=>by have q:=HSl.out _ hX;go_simp);simp only[Act.put,zA,zB,zC];refine tk 3 (.bool sg) 83 hX ?_ (y:=fun X hX=>by have q:=HE.out;have q2:=HE'.out;go_simp);simp only[Act.put,zA,zB,zC];refine tk 4 (.slice (some ⟨g,0,none⟩) k c) 84 hX ?_;simp only[Act.put,zA,zB,zC];refine tk 5 (.slice a' (k-1) (c-1)) 85 hX ?_ (y:=fun X hX=>by have i2:=HSL.out;go_simp;(try simp[Result.andThen,i2]));simp only[Act.put,zA,zB,zC];refine tk 6 (.agg #[.bool sg,.slice a' (k-1) (c-1)]) 86 hX ?_;simp only[Act.put,zA,zB,zC];refine wpAnyH_all (rs:=[7]) (by kernel_rfl) (by decide) (fun i hi=>?_);rw[List.mem_singleton]at hi;subst hi;refine wpOp_alloc_int (o:=_) rfl rfl rfl (fun X1 gq rgq hb hgq hlt=>?_);clear hlt;replace hgq:=Nat.le_trans hX.size hgq;replace hX:=hX.trans (hb.mono hX.size);clear hb;refine⟨hX,?_⟩;simp only[Act.put,zA,zB,zC];refine wpAnyH_all (rs:=[8]) (by kernel_rfl) (by decide) (fun i hi=>?_);rw[List.mem_singleton]at hi;subst hi;have k0:=rgq.cell_at 0;have k1:=rgq.cell_at 1;have f0:=rgq.free 0;have f1:=rgq.free 1;simp only[yB,yC]at k0 k1;unfold wpOp;go_simp;replace hX:=below_store (below_store hX hgq (i:=0) (.bool sg)) hgq (i:=1) (.slice a' (k-1) (c-1));refine .inl ⟨hX,?_⟩;refine wpAnyH_done (by kernel_rfl) ?_ _;obtain⟨U,hU⟩: ∃U,U=(X1.setCell ⟨gq,0,none⟩ (.bool sg)).setCell ⟨gq,1,none⟩ (.slice a' (k-1) (c-1)):=⟨_,rfl⟩;have rq:Row U gq 24 [.bool sg,.slice a' (k-1) (c-1)]:=by rw[hU];exact(rgq.store_any 0 _).store_any 1 _
   rw[←hU]at hX ⊢;have q0:=rq.cell_at 0;have q1:=rq.cell_at 1;simp only[yB,yC]at q0 q1;have HBU:=hid hX;have RQ:=hid rq;have cx:=HSl.out U hX;have hix:=HIx.out;have HSm:=hid (large_small U sg a' l (k-1) (c-1) (HCm.out U hX));have HMy:=hid (fun Y (hY:Below U.heap.size U Y)=>large_May Y sg a' l (k-1) (c-1) (HLay.out Y (HBU.out.trans (hY.mono HBU.out.size))) (HCm.out U HBU.out).2.1 (HCm.out U HBU.out).2.2.1 (HCm.out U HBU.out).2.2.2);clear k0 k1 f0 f1 rgq hgq hU rq hX;go_wp2_with fail;refine(HSm.out).mono ?_;rintro e V3 ⟨⟨v,rfl,-⟩,hb⟩;(try dsimp only);have HBV3:=hid hb;have rq:=RQ.out.below hb RQ.out.lt;have q0:=rq.cell_at 0;have q1:=rq.cell_at 1;simp only[yB,yC]at q0 q1;have cx:=HSl.out V3 (HBU.out.trans (hb.mono HBU.out.size));have HB3:=hid (HBU.out.trans (hb.mono HBU.out.size));clear rq hb HSm;by_cases hs1:1<s0
   ·have HBf:=hid (HB2.out.trans (HB3.out.mono HB2.out.size));have hR:=HRb.out (rdGood_bad (.inl hs1));have e1:decide ((1:Int)<(s0:Int))=true:=decide_eq_true (by omega);have e1':decide (1<s0)=true:=decide_eq_true hs1;clear hs1;have r0:=R0.out.below HB3.out R0.out.lt;have hB:=HBf.out;have hl:=Lay.nil .u32 V3 none;have z0:=r0.free 0;have z1:=r0.free 1;have p0:=r0.cell_at 0;have p1:=r0.cell_at 1;simp only[yB,yC]at p0 p1;obtain⟨U,hU⟩: ∃U,U=(V3.setCell ⟨w.heap.size,0,none⟩ (.bool false)).setCell ⟨w.heap.size,1,none⟩ (.slice none 0 0):=⟨_,rfl⟩;have ra:Row U w.heap.size 24 [.bool false,.slice none 0 0]:=by rw[hU];exact(r0.store_any 0 _).store_any 1 _
    have hBU:Below w.heap.size w U:=(by rw[hU];exact below_store (below_store hB (Nat.le_refl _) _) (Nat.le_refl _) _);have hlU:Lay .u32 U none []:=by rw[hU];exact(hl).pair r0 _ _
    have f0:=ra.cell_at 0;have f1:=ra.cell_at 1;simp only[yB,yC]at f0 f1;have HFin:=hid (readRes_of hR none 0 0 rfl hlU hBU);have HU:=hid hU;clear hU ra hBU hlU hB r0 hl hR;go_wp2_with fail;(try simp only[Exit.inBlock,Exit.then]);rw[←HU.out];refine bodyPost_ret (v:= .tuple #[.agg #[.bool false,.slice none 0 0],.int .i64 21]) (by simp[results,Tryz.results49,go_sem,f0,f1]) rfl HFin.out
   ·have e1:decide ((1:Int)<(s0:Int))=false:=decide_eq_false (by omega);have e1':decide (1<s0)=false:=decide_eq_false hs1;have HM3:=hid (HMy.out V3 HBV3.out);have HSs:=hid hs1;clear hs1;go_wp2_with fail;refine(HM3.out).mono ?_;rintro e V4 ⟨rfl,hb⟩;(try dsimp only);have HB4:=hid (HB3.out.trans (hb.mono HB3.out.size));have rq:=RQ.out.below (HBV3.out.trans (hb.mono HBV3.out.size)) RQ.out.lt;have q0:=rq.cell_at 0;have q1:=rq.cell_at 1;simp only[yB,yC]at q0 q1;have HBf:=hid (HB2.out.trans (HB4.out.mono HB2.out.size));clear rq hb HM3 HMy cx hix e1 e1'
    cases hm:mayB sg l with
    |false=>
     have hR:=HRb.out (rdGood_bad (.inr (.inl hm)));clear hm;have r0:=R0.out.below HB4.out R0.out.lt;have hB:=HBf.out;have hl:=Lay.nil .u32 V4 none;have z0:=r0.free 0;have z1:=r0.free 1;have p0:=r0.cell_at 0;have p1:=r0.cell_at 1;simp only[yB,yC]at p0 p1;obtain⟨U,hU⟩: ∃U,U=(V4.setCell ⟨w.heap.size,0,none⟩ (.bool false)).setCell ⟨w.heap.size,1,none⟩ (.slice none 0 0):=⟨_,rfl⟩;have ra:Row U w.heap.size 24 [.bool false,.slice none 0 0]:=by rw[hU];exact(r0.store_any 0 _).store_any 1 _
     have hBU:Below w.heap.size w U:=(by rw[hU];exact below_store (below_store hB (Nat.le_refl _) _) (Nat.le_refl _) _);have hlU:Lay .u32 U none []:=by rw[hU];exact(hl).pair r0 _ _
     have f0:=ra.cell_at 0;have f1:=ra.cell_at 1;simp only[yB,yC]at f0 f1;have HFin:=hid (readRes_of hR none 0 0 rfl hlU hBU);have HU:=hid hU;clear hU ra hBU hlU hB r0 hl hR;go_wp2_with fail;(try simp only[Exit.inBlock,Exit.then]);rw[←HU.out];refine bodyPost_ret (v:= .tuple #[.agg #[.bool false,.slice none 0 0],.int .i64 21]) (by simp[results,Tryz.results49,go_sem,f0,f1]) rfl HFin.out
    |true=>
     cases hsm:isSm (signed sg (val l))with
     |true=>
      have hR:=HRb.out (rdGood_bad (.inr (.inr hsm)));clear hm hsm;have r0:=R0.out.below HB4.out R0.out.lt;have hB:=HBf.out;have hl:=Lay.nil .u32 V4 none;have z0:=r0.free 0;have z1:=r0.free 1;have p0:=r0.cell_at 0;have p1:=r0.cell_at 1;simp only[yB,yC]at p0 p1;obtain⟨U,hU⟩: ∃U,U=(V4.setCell ⟨w.heap.size,0,none⟩ (.bool false)).setCell ⟨w.heap.size,1,none⟩ (.slice none 0 0):=⟨_,rfl⟩;have ra:Row U w.heap.size 24 [.bool false,.slice none 0 0]:=by rw[hU];exact(r0.store_any 0 _).store_any 1 _
      have hBU:Below w.heap.size w U:=(by rw[hU];exact below_store (below_store hB (Nat.le_refl _) _) (Nat.le_refl _) _);have hlU:Lay .u32 U none []:=by rw[hU];exact(hl).pair r0 _ _
      have f0:=ra.cell_at 0;have f1:=ra.cell_at 1;simp only[yB,yC]at f0 f1;have HFin:=hid (readRes_of hR none 0 0 rfl hlU hBU);have HU:=hid hU;clear hU ra hBU hlU hB r0 hl hR;go_wp2_with fail;(try simp only[Exit.inBlock,Exit.then]);rw[←HU.out];refine bodyPost_ret (v:= .tuple #[.agg #[.bool false,.slice none 0 0],.int .i64 21]) (by simp[results,Tryz.results49,go_sem,f0,f1]) rfl HFin.out
     |false=>
      have hR:=HRg.out (rdGood_ok (by have:=HSs.out;omega) hm hsm);have hl:=HLay.out V4 HB4.out;have hn:=HLn.out;have r0:=R0.out.below HB4.out R0.out.lt;have hB:=HBf.out;clear hm hsm;have z0:=r0.free 0;have z1:=r0.free 1;have p0:=r0.cell_at 0;have p1:=r0.cell_at 1;simp only[yB,yC]at p0 p1;obtain⟨U,hU⟩: ∃U,U=(V4.setCell ⟨w.heap.size,0,none⟩ (.bool sg)).setCell ⟨w.heap.size,1,none⟩ (.slice a' (k-1) (c-1)):=⟨_,rfl⟩;have ra:Row U w.heap.size 24 [.bool sg,.slice a' (k-1) (c-1)]:=by rw[hU];exact(r0.store_any 0 _).store_any 1 _
      have hBU:Below w.heap.size w U:=(by rw[hU];exact below_store (below_store hB (Nat.le_refl _) _) (Nat.le_refl _) _);have hlU:Lay .u32 U a' l:=by rw[hU];exact(hl).pair r0 _ _
      have f0:=ra.cell_at 0;have f1:=ra.cell_at 1;simp only[yB,yC]at f0 f1;have HFin:=hid (readRes_of hR a' (k-1) (c-1) hn hlU hBU);have HU:=hid hU;clear hU ra hBU hlU hB r0 hl hR hn;go_wp2_with fail;(try simp only[Exit.inBlock,Exit.then]);rw[←HU.out];refine bodyPost_ret (v:= .tuple #[.agg #[.bool sg,.slice a' (k-1) (c-1)],.int .i64 0]) (by simp[results,Tryz.results49,go_sem,f0,f1]) rfl HFin.out
theorem large_read(H:HeapAt w F h)(o:Nat)(ho:o<4294967296)(h17:isO h (wd h.rt 17)=true):Calls Tryz.prog 49 #[.pointer (some ⟨F.p,0,none⟩),.int .u32 o] w fun e w'=>ReadRes h o w w' e:=by
 by_cases e1:o%2=1
 ·exact large_read_odd F.p o ho e1
 ·cases hi:isO h o with
  |false=>exact large_read_none H o ho e1 hi
  |true=>
   cases hk:rdOk h o with
   |false=>exact large_read_bad H o ho e1 hi h17 hk
   |true=>exact large_read_good H o ho e1 hi h17 hk
end
end Go.Proofs.YtbffpkmfhkphdaaGreatDoor

/- What Read answers of an oop. The walk of package kernel's Boot. -/
import Derived.Test.YtbffpkmfhkphdaaGreatDoorGX44
import Derived.Test.YtbffpkmfhkphdaaGreatDoorGX00
import Derived.Test.YtbffpkmfhkphdaaGreatDoorGX08
set_option linter.unusedVariables false
set_option linter.unusedSimpArgs false
set_option maxRecDepth 1000000
set_option maxHeartbeats 6400000
namespace Go.Proofs.YtbffpkmfhkphdaaGreatDoor
open Go Lib Go.RowKit Limb
namespace Limb
def rdOk(h:Hp)(o:Nat):Bool:=isO h o&&decide ((hdO h o).fmt=3)&&decide ((hdO h o).cls=wd h.rt 17)&&decide (1≤(hdO h o).size)
def rdAll(h:Hp)(o:Nat):List Nat:=(flds h o).drop 1
def rdSg(h:Hp)(o:Nat):Bool:=decide (wd (flds h o) 0=1)
def rdGood(sg:Bool)(s0:Nat)(l:List Nat):Bool:=decide (s0≤1)&&mayB sg l&&!isSm (signed sg (val l))
def rdFine(h:Hp)(o:Nat):Bool:=rdOk h o&&rdGood (rdSg h o) (wd (flds h o) 0) (rdAll h o)
def rdC(h:Hp)(o:Nat):Nat:=if o%2=1 then 0 else if isO h o=true then(if rdFine h o=true then 0 else 21)else 3
def rdN(h:Hp)(o:Nat):Bool:=if o%2=1 then decide (valueO o<0)else(isO h o&&rdFine h o&&rdSg h o)
def rdL(h:Hp)(o:Nat):List Nat:=if o%2=1 then rep (valueO o).natAbs else if(isO h o&&rdFine h o)=true then rdAll h o else[]
theorem rd_odd{h:Hp}{o:Nat}(e:o%2=1):rdC h o=0∧rdN h o=decide (valueO o<0)∧rdL h o=rep (valueO o).natAbs:=by
 unfold rdC rdN rdL;rw[if_pos e,if_pos e,if_pos e];exact⟨rfl,rfl,rfl⟩
theorem rd_none{h:Hp}{o:Nat}(e: ¬o%2=1)(hi:isO h o=false):rdC h o=3∧rdN h o=false∧rdL h o=[]:=by
 unfold rdC rdN rdL;rw[if_neg e,if_neg e,if_neg e,hi];exact⟨rfl,rfl,rfl⟩
theorem rd_bad{h:Hp}{o:Nat}(e: ¬o%2=1)(hi:isO h o=true)(hf:rdFine h o=false):rdC h o=21∧rdN h o=false∧rdL h o=[]:=by
 unfold rdC rdN rdL;rw[if_neg e,if_neg e,if_neg e,hi,hf];exact⟨rfl,rfl,rfl⟩
theorem rd_fine{h:Hp}{o:Nat}(e: ¬o%2=1)(hi:isO h o=true)(hf:rdFine h o=true):rdC h o=0∧rdN h o=rdSg h o∧rdL h o=rdAll h o:=by
 unfold rdC rdN rdL;rw[if_neg e,if_neg e,if_neg e,hi,hf];exact⟨rfl,rfl,rfl⟩
end Limb
theorem size_el32(W:World):(sizeOf (Tryz.prog.elem 22)).run Tryz.prog W= .ok 1 W:=by kernel_rfl
def ReadRes(h:Hp)(o:Nat)(w w':World)(e:Ending):Prop:= ∃a c,e= .returned (.tuple #[.agg #[.bool (rdN h o),.slice a (rdL h o).length c],.int .i64 (rdC h o)])∧Lay .u32 w' a (rdL h o)∧Below w.heap.size w w'
theorem readRes_of{h:Hp}{o:Nat}{w w':World}{b:Bool}{l:List Nat}{cd:Nat}(hr:rdC h o=cd∧rdN h o=b∧rdL h o=l)(a:Option Addr)(n c:Nat)(hn:n=l.length)(hl:Lay .u32 w' a l)(hb:Below w.heap.size w w'):ReadRes h o w w' (.returned (.tuple #[.agg #[.bool b,.slice a n c],.int .i64 cd])):=by
 obtain⟨e1,e2,e3⟩:=hr;exact⟨a,c,by rw[e1,e2,e3,hn],by rw[e3];exact hl,hb⟩
theorem oop_value_no(w:World)(o:Nat)(ho:o<4294967296)(h1: ¬o%2=1):Calls Tryz.prog 128 #[.int .u32 o] w fun e w'=>e= .returned (.tuple #[.int .i64 0,.int .i64 3])∧w=w':=by
 have hk:=oop_kind w o ho;by_cases h0:o=0
 ·rw[show kindN o=0 from by unfold kindN;rw[if_pos h0]]at hk;have HF:=hid hk;clear hk h0 h1;go_enter Tryz.func128,Tryz.ntmps128;go_wp2_with fail;refine(HF.out).mono ?_;rintro e W ⟨rfl,rfl⟩;(try dsimp only);go_wp2_with fail;go_ret2;exact⟨rfl,rfl⟩
 ·rw[show kindN o=2 from by unfold kindN;rw[if_neg h0,if_neg h1]]at hk;have HF:=hid hk;clear hk h0 h1;go_enter Tryz.func128,Tryz.ntmps128;go_wp2_with fail;refine(HF.out).mono ?_;rintro e W ⟨rfl,rfl⟩;(try dsimp only);go_wp2_with fail;go_ret2;exact⟨rfl,rfl⟩
theorem tail_run{X:World}{g sz c:Nat}{fl:List Nat}(sl:Sl X g 60 sz c (nums .u32 fl))(hl:fl.length=sz)(h1:1≤sz): ∃a',(∀W,(Instr.slice 22 (.slice (some ⟨g,0,none⟩) sz c) (some (.int .i64 1)) none none).run Tryz.prog W= .ok (.slice a' (sz-1) (c-1)) W)∧Lay .u32 X a' (fl.drop 1):=by
 refine⟨if c=1 then some ⟨g,0,none⟩else some ⟨g,1,none⟩,fun W=>?_,?_⟩
 ·have:=run_slice_l (P:=Tryz.prog) (w:=W) 22 (some ⟨g,0,none⟩) sz c Tryz.underlying22 .i64 1 (by decide) (by omega);rw[this,size_el32];simp[Result.andThen,sliced,Addr.add];try(split<;>rfl)
 ·by_cases h2:sz=1
  ·have:fl.drop 1=[]:=(by rw[←h2,←hl];exact List.drop_length);rw[this];exact Lay.nil _ _ _
  ·have hc:sz≤c:=sl.le.1;rw[if_neg (by omega)];have:=(sl.lay rfl).drop 1;rw[Nat.zero_add]at this;exact this
end Go.Proofs.YtbffpkmfhkphdaaGreatDoor
namespace Go.Proofs.YtbffpkmfhkphdaaGreatDoor
open Go Lib Go.RowKit Limb
section
variable {w X:World} {F F':Foot} {pb:Nat} {R:World→Prop} {hk:Hp}
theorem cn_alloc(c:CN w F pb R X F' hk)(n o:Nat)(h':Hp)(hn:n≤65535)(hp:allocP hk 0 1 n=some (o,h')):Calls Tryz.prog 109 #[.pointer (some ⟨pb,0,none⟩),.int .i64 n] X fun e X'=>e= .returned (.int .u32 o)∧∃F'',CN w F pb R X' F'' h':=
 (booter_alloc c.hp c.rb c.out n o h' hn hp).mono fun e X' ⟨x,F'',y⟩=>⟨x,F'',c.step y⟩
theorem cn_setroot(c:CN w F pb R X F' hk)(i:Nat)(hi:i<64)(v:Nat)(hv:isO hk v=true):Calls Tryz.prog 108 #[.pointer (some ⟨F.p,0,none⟩),.int .i64 i,.int .u32 v] X fun e X'=>e= .returned (.int .i64 0)∧∃F'',CN w F pb R X' F'' (setR hk i v):=by
 rw[←c.p];exact(heap_setroot c.hp i hi v (isO_lt c.hp.good hv) (isO_val hv)).mono fun e X' ⟨x,y⟩=>⟨x,F',c.step y⟩
end
theorem firstAll_step{r n:Nat}{t:List (Nat×Nat)}{h hE:Hp}(k:Limb.Good h)(hn:n≤65535)(e:firstAll ((r,n) :: t) h=some hE): ∃o h1,allocP h 0 1 n=some (o,h1)∧isO h1 o=true∧firstAll t (setR h1 r o)=some hE:=by
 obtain⟨h2,e1,e2⟩:=Option.bind_eq_some_iff.1 e;obtain⟨⟨o,h1⟩,e3,e4⟩:=Option.map_eq_some_iff.1 e1;obtain⟨g,i⟩:=grow_alloc k (by decide) (by decide) hn e3;exact⟨o,h1,e3,isF_isO i,by rw[←e4]at e2;exact e2⟩
theorem first7_a: ∀k,k<3→first7.drop k=(k,0) :: first7.drop (k+1):=by decide
theorem first7_b: ∀j,j<4→first7.drop (3+j)=(wd [3,4,6,8] j,wd [128,32,8,16] j) :: first7.drop (3+(j+1)):=by decide
theorem size_pair(W:World):(sizeOf 141).run Tryz.prog W= .ok 2 W:=by kernel_rfl
def pairCells:List Value:=nums .i64 [3,128,4,32,6,8,8,16]
theorem kernel_boot(w:World)(hs:Spares w)(n:Nat)(h1:64≤n)(h2:n≤1048576)(hA hP hE:Hp)(ms:List Nat)(st:Limb.Steps n hA hP ms hE)(st2:Limb.Paired (clsAll bareCls (wireAll ms 0 plans hP)) ms):Calls Tryz.prog 41 #[.int .i64 n] w fun e w'=> ∃F,e= .returned (.tuple #[.pointer (some ⟨F.p,0,none⟩),.int .i64 0])∧HeapAt w' F hE∧Below w.heap.size w w'∧∀g∈F.l,w.heap.size≤g:=by
 have HNw:=hid (heap_new w hs n h1 h2);have HF0:=hid (show firstAll (first7.drop 0) (emptyH n)=some hA from st.first);have HNil:=hid st.nil0;have HPr:=hid st.pairs;have HPd:=hid st.paired;have HRs:=hid st.rest;have HP2:=hid st2;clear st st2 hs;go_enter Tryz.func41,Tryz.ntmps41;go_wp2_with fail;refine(HNw.out).mono ?_;rintro e w1 ⟨F,rfl,H,hB,hFl⟩;(try dsimp only);obtain⟨w2,hw2,rb,hb2,hz2⟩:=alloc_row w1 138 [.pointer (some ⟨F.p,0,none⟩),.int .i64 0];have HW2:=hid hw2;obtain⟨pb,hpb⟩: ∃pb,pb=w1.heap.size:=⟨_,rfl⟩;rw[←hpb]at rb;have HPB:=hid hpb;have HB2:=hid (hB.trans (hb2.mono hB.size));have HFl:=hid hFl;have HC:=hid (show CN w2 F pb (fun _=>True) w2 F (emptyH n)from⟨⟨fun _ _ _ _=>trivial,fun _ _ _ _ _ _ _ _ _=>trivial⟩,Step.refl (H.below hb2),rb,trivial⟩);clear hw2 hpb hz2 hb2 rb H hB hFl HNw;go_wp2_with fail;rw[←HW2.out,←HPB.out];clear HW2 HPB;go_loopw[23] (fun i wr=> ∃(k:Nat) (F':Foot) (hk:Hp),k≤3∧i= .int .i64 k∧Hid (CN w2 F pb (fun _=>True) wr F' hk)∧Hid (firstAll (first7.drop k) hk=some hA)) (fun i _=>3-(intOf i).toNat);case atStart=>exact⟨0,F,emptyH n,Nat.zero_le _,rfl,HC,HF0⟩
 case round=>
  clear HC HF0;obtain⟨k,F',hk,hkn,rfl,HC,HR⟩:=hrel;by_cases h0:k<3
  ·have d1:decide ((k:Int)<3)=true:=decide_eq_true (by omega);have d2:decide (k<3)=true:=decide_eq_true h0;have hr:=HR.out;rw[first7_a k h0]at hr;obtain⟨o,h1',x1,x2,x3⟩:=firstAll_step HC.out.hp.good (by decide) hr;have HAl:=hid (cn_alloc HC.out 0 o h1' (by decide) x1);have HSr:=hid (fun Y F1 (cn:CN w2 F pb (fun _=>True) Y F1 h1')=>cn_setroot cn k (by omega) o x2);have HR2:=hid x3;generalize setR h1' k o=hq at*
   clear hr x1 x2 x3 HR HC;go_wp2_with fail;refine(HAl.out).mono ?_;rintro e Y1 ⟨rfl,F1,hC⟩;(try dsimp only);have HC1:=hid hC;clear hC HAl;go_wp2_with fail;refine(HSr.out _ _ HC1.out).mono ?_;rintro e Y2 ⟨rfl,F2,hC⟩;(try dsimp only);have HC2:=hid hC;clear hC HC1 HSr;go_wp2_with fail;go_roundw;case rel=>exact⟨k+1,F2,hq,h0,by simp,HC2,HR2⟩
   case measure=>simp[intOf];omega
  ·obtain rfl:k=3:=by omega
   rw[show((3:Nat):Int)=3 from rfl];have d0:decide ((3:Int)<3)=false:=rfl;obtain⟨V,hV,rv,hbv,hzv⟩:=alloc_row wr 141 [.int .i64 3,.int .i64 128,.int .i64 4,.int .i64 32,.int .i64 6,.int .i64 8,.int .i64 8,.int .i64 16];have HV:=hid hV;have rv:Row V wr.heap.size 141 pairCells:=rv;obtain⟨gl,hgl⟩: ∃gl,gl=wr.heap.size:=⟨_,rfl⟩;rw[←hgl]at rv;have HGL:=hid hgl;have HC1:=hid ((HC.out.below hbv).with (keeps_row gl 141 pairCells (by decide) (by decide) (by decide) (by decide)) rv);clear hV hbv hzv hgl rv HC;go_wp2_with fail;rw[←HV.out,←HGL.out];clear HV HGL;go_loopw[38] (fun i wr=> ∃(j:Nat) (F':Foot) (hk:Hp),j≤4∧i= .int .i64 j∧Hid (CN w2 F pb (fun X=>Row X gl 141 pairCells) wr F' hk)∧Hid (firstAll (first7.drop (3+j)) hk=some hA)) (fun i _=>4-(intOf i).toNat);case atStart=>exact⟨0,F',hk,Nat.zero_le _,rfl,HC1,HR⟩
   case round=>
    clear HC1 HR F' hk;obtain⟨j,F',hk,hjn,rfl,HC,HR⟩:=hrel;by_cases h0:j<4
    ·have d1:decide ((j:Int)<4)=true:=decide_eq_true (by omega);have d2:decide (j<4)=true:=decide_eq_true h0;have hr:=HR.out;rw[first7_b j h0]at hr;have hj4:j=0∨j=1∨j=2∨j=3:=by omega
     have q0:wr.cell? ⟨gl,2*j,none⟩=some (.int .i64 (wd [3,4,6,8] j:Nat)):=by
      rw[HC.out.ex.cell_at];rcases hj4 with rfl|rfl|rfl|rfl<;>rfl
     have q1:wr.cell? ⟨gl,2*j+1,none⟩=some (.int .i64 (wd [128,32,8,16] j:Nat)):=by
      rw[HC.out.ex.cell_at];rcases hj4 with rfl|rfl|rfl|rfl<;>rfl
     have ix:=fun W=>index_by (P:=Tryz.prog) 2 (by decide) 142 141 Tryz.underlying142 size_pair gl 4 4 W .i64 j h0
     have ltr:wd [3,4,6,8] j<64∧wd [128,32,8,16] j≤65535:=(by rcases hj4 with rfl|rfl|rfl|rfl<;>decide);generalize wd [3,4,6,8] j=rt at*
     generalize wd [128,32,8,16] j=sz at*
     obtain⟨o,h1',x1,x2,x3⟩:=firstAll_step HC.out.hp.good ltr.2 hr;have HAl:=hid (fun R Y F1 (cn:CN w2 F pb R Y F1 hk)=>cn_alloc cn sz o h1' ltr.2 x1);have HSr:=hid (fun R Y F1 (cn:CN w2 F pb R Y F1 h1')=>cn_setroot cn rt ltr.1 o x2);have HR2:=hid x3;generalize setR h1' rt o=hq at*
     clear hr x1 x2 x3 HR hj4 ltr;obtain⟨Y0,hY0,rp,hbY,hzY⟩:=alloc_row wr 141 [.int .i64 rt,.int .i64 sz];have HY0:=hid hY0;obtain⟨pc,hpc⟩: ∃pc,pc=wr.heap.size:=⟨_,rfl⟩;rw[←hpc]at rp;have HPC:=hid hpc;have hC:=(HC.out.below hbY);have HC1:=hid (hC.with (hC.keeps.and (keeps_row pc 141 [.int .i64 rt,.int .i64 sz] (by decide) (by decide) (by decide) (by decide))) ⟨hC.ex,rp⟩);clear hY0 hbY hzY hpc hC rp HC;go_wp2_with fail;rw[←HY0.out,←HPC.out];have hC:=HC1.out.below (Below.refl _ Y0).drew;have hX:Row Y0.drew pc 141 [.int .i64 rt,.int .i64 sz]:=hC.ex.2;clear HC1 HY0;refine wp_region_held (S:=fun Y=>Row Y pc 141 [.int .i64 rt,.int .i64 sz]) (by kernel_rfl) ?_;refine tk 0 (.pointer (some ⟨F.p,0,none⟩)) 42 hX ?_;simp only[Act.put,zA,zB,zC];refine tk 1 (.pointer (some ⟨pc,0,none⟩)) 43 hX ?_;simp only[Act.put,zA,zB,zC];refine tk 2 (.int .i64 rt) 44 hX ?_ (y:=fun X hX=>by have q:=hX.cell_at 0;simp only[yB,yC]at q;go_simp);simp only[Act.put,zA,zB,zC];refine tk 3 (.pointer (some ⟨pb,0,none⟩)) 45 hX ?_;simp only[Act.put,zA,zB,zC];refine tk 4 (.pointer (some ⟨pc,1,none⟩)) 46 hX ?_;simp only[Act.put,zA,zB,zC];refine tk 5 (.int .i64 sz) 47 hX ?_ (y:=fun X hX=>by have q:=hX.cell_at 1;simp only[yB,yC]at q;go_simp);simp only[Act.put,zA,zB,zC];refine wpAnyH_all (rs:=[6]) (by kernel_rfl) (by decide) (fun i hi=>?_);rw[List.mem_singleton]at hi;subst hi;unfold wpOp;go_simp;refine .inl ((HAl.out _ _ _ hC).mono ?_);rintro e X1 ⟨rfl,F1,hC⟩;replace hX:=hC.ex.2;refine⟨hX,?_⟩;refine wpAnyH_all (rs:=[7]) (by kernel_rfl) (by decide) (fun i hi=>?_);rw[List.mem_singleton]at hi;subst hi;unfold wpOp;go_simp;refine .inl ((HSr.out _ _ _ hC).mono ?_);rintro e X2 ⟨rfl,F2,hC⟩;replace hX:=hC.ex.2;refine⟨hX,?_⟩;refine wpAnyH_done (by kernel_rfl) ?_ _;have HC2:=hid (hC.with (keeps_row gl 141 pairCells (by decide) (by decide) (by decide) (by decide)) hC.ex.1);clear hX hC HAl HSr;go_wp2_with fail;go_roundw;case rel=>exact⟨j+1,F2,hq,h0,by simp,HC2,HR2⟩
     case measure=>simp[intOf];omega
    ·obtain rfl:j=4:=by omega
     rw[show((4:Nat):Int)=4 from rfl];have d0:decide ((4:Int)<4)=false:=rfl;have hr:=HR.out;have e1:firstAll (first7.drop (3+4)) hk=some hk:=rfl;rw[e1]at hr;have hr2:=Option.some.inj hr;have hn0:=HNil.out;rw[←hr2]at hn0;have hpr:=HPr.out;rw[←hr2]at hpr;have HNil0:=hid hn0;have HNl:=hid (show nilR ([5,7,9].drop 0) hk=nilR [5,7,9] hk from rfl);obtain⟨hM,hhM⟩: ∃hM,hM=nilR [5,7,9] hk:=⟨_,rfl⟩;rw[←hhM]at HNl hpr;have HPr2:=hid hpr;clear hr e1 hr2 hn0 hpr HPr HNil HR hhM;obtain⟨V,hV,rv,hbv,hzv⟩:=alloc_row wr 3 [.int .i64 5,.int .i64 7,.int .i64 9];have HV:=hid hV;have rv:Row V wr.heap.size 3 (nums .i64 [5,7,9]):=rv;obtain⟨gi,hgi⟩: ∃gi,gi=wr.heap.size:=⟨_,rfl⟩;rw[←hgi]at rv;have HGI:=hid hgi;have HC1:=hid ((HC.out.below hbv).with (keeps_row gi 3 (nums .i64 [5,7,9]) (by decide) (by decide) (by decide) (by decide)) rv);clear hV hbv hzv hgi rv HC;go_wp2_with fail;rw[←HV.out,←HGI.out];clear HV HGI;go_loopw[53] (fun i wr=> ∃(j:Nat) (F':Foot) (hk:Hp),j≤3∧i= .int .i64 j∧Hid (CN w2 F pb (fun X=>Row X gi 3 (nums .i64 [5,7,9])) wr F' hk)∧Hid (isO hk (wd hk.rt 0)=true)∧Hid (nilR ([5,7,9].drop j) hk=hM)) (fun i _=>3-(intOf i).toNat);case atStart=>exact⟨0,F',hk,Nat.zero_le _,rfl,HC1,HNil0,HNl⟩
     case round=>
      clear HC1 HNil0 HNl F' hk;obtain⟨j,F',hk,hjn,rfl,HC,HN0,HR⟩:=hrel;by_cases h0:j<3
      ·have d1:decide ((j:Int)<3)=true:=decide_eq_true (by omega);have d2:decide (j<3)=true:=decide_eq_true h0;have hj3:j=0∨j=1∨j=2:=by omega
       have hr:=HR.out;have hd:[5,7,9].drop j=wd [5,7,9] j :: [5,7,9].drop (j+1):=by rcases hj3 with rfl|rfl|rfl<;>rfl
       rw[hd]at hr;have lt9:wd [5,7,9] j<64∧wd [5,7,9] j≠0:=by rcases hj3 with rfl|rfl|rfl<;>decide
       have sl:=HC.out.ex.sl (n:=3) rfl (by decide);have ix:=fun W=>sl.index 143 Tryz.underlying143 size_int W .i64 j h0
       have cx:=sl.cell h0;rw[nums_get (by exact h0)]at cx;generalize wd [5,7,9] j=rj at*
       have HRt:=hid (cn_root HC.out 0 (by decide));have HSr:=hid (fun Y F1 (cn:CN w2 F pb (fun X=>Row X gi 3 (nums .i64 [5,7,9])) Y F1 hk)=>cn_setroot cn rj lt9.1 (wd hk.rt 0) HN0.out)
       have hN2:isO (setR hk rj (wd hk.rt 0)) (wd (setR hk rj (wd hk.rt 0)).rt 0)=true:=by
        rw[setR_root HC.out.hp.good lt9.1,if_neg (fun e=>lt9.2 e.symm)];exact HN0.out
       have HN2:=hid hN2;have HR2:=hid (show nilR ([5,7,9].drop (j+1)) (setR hk rj (wd hk.rt 0))=hM from hr);generalize setR hk rj (wd hk.rt 0)=hq at*
       generalize wd hk.rt 0=ov at*
       clear hr hd sl HR hj3 lt9 hN2 HN0;go_wp2_with fail;refine(HRt.out).mono ?_;rintro e Y1 ⟨rfl,hb⟩;(try dsimp only);have HC1:=hid (HC.out.below hb);clear hb HC HRt;go_wp2_with fail;refine(HSr.out _ _ HC1.out).mono ?_;rintro e Y2 ⟨rfl,F2,hC⟩;(try dsimp only);have HC2:=hid hC;clear hC HC1 HSr;go_wp2_with fail;go_roundw;case rel=>exact⟨j+1,F2,hq,h0,by simp,HC2,HN2,HR2⟩
       case measure=>simp[intOf];omega
      ·obtain rfl:j=3:=by omega
       rw[show((3:Nat):Int)=3 from rfl];have d3:decide ((3:Int)<3)=false:=rfl;have hr:=HR.out;have e1:nilR ([5,7,9].drop 3) hk=hk:=rfl;rw[e1]at hr;have hc:=HC.out;rw[hr]at hc;have HCl:=hid (booter_classes hc.hp hc.rb ms hP HPr2.out HPd.out);have HNa:=hid (fun Y F1 (cn:CN w2 F pb (fun _=>True) Y F1 (clsAll bareCls (wireAll ms 0 plans hP)))=>booter_names cn.hp cn.rb ms HP2.out hE HRs.out);have HC3:=hid (show CN w2 F pb (fun _=>True) wr F' hM from hc.with ⟨fun _ _ _ _=>trivial,fun _ _ _ _ _ _ _ _ _=>trivial⟩ trivial);clear hr e1 hc HC HN0 HR HPr2 HPd HP2 HRs;go_wp2_with fail;refine(HCl.out).mono ?_;rintro e Y1 ⟨rfl,F1,hSt⟩;(try dsimp only);have HC4:=hid (HC3.out.step hSt);have HNb:=hid (HNa.out _ _ HC4.out);clear hSt HC3 HCl HNa;go_wp2_with fail;refine(HNb.out).mono ?_;rintro e Y2 ⟨rfl,F2,hSt⟩;(try dsimp only);have hC:=HC4.out.step hSt;have c1:=(BootRow.cells hC.boot).2;have hp2:F2.p=F.p:=hC.p
       have hfin:HeapAt Y2 F2 hE∧Below w.heap.size w Y2∧∀g∈F2.l,w.heap.size≤g:=by
        refine⟨hC.hp,HB2.out.trans (hC.st.2.2.belowB HB2.out.size HFl.out),fun g hg=>?_⟩;rcases hC.st.2.1.mem g hg with e|e
        ·exact HFl.out g e
        ·have:=HB2.out.size;omega
       have HFin:=hid hfin;have HPP:=hid hp2;clear hSt hC HC4 HNb hfin hp2;go_wp2_with fail;go_ret2;exact⟨F2,by rw[HPP.out];rfl,HFin.out⟩
end Go.Proofs.YtbffpkmfhkphdaaGreatDoor

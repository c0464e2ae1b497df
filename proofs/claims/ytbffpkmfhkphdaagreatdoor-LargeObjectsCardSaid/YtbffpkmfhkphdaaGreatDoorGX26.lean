/- The walks of package large: small, Words; of the document's: small, Words. The walk of the document's PackBytes. The walk of package heap's Length. -/
import Derived.Test.YtbffpkmfhkphdaaGreatDoorGX20
import Derived.Test.YtbffpkmfhkphdaaGreatDoorGX10
import Derived.Test.YtbffpkmfhkphdaaGreatDoorGX25
set_option linter.unusedVariables false
set_option linter.unusedSimpArgs false
set_option maxRecDepth 1000000
set_option maxHeartbeats 6400000
namespace Go.Proofs.YtbffpkmfhkphdaaGreatDoor
open Go Lib Go.RowKit Limb
theorem sm_in{z:Int}(h:isSm z=true):inI64 z=true:=by
 unfold isSm at h;unfold inI64;simp only[Bool.and_eq_true,decide_eq_true_eq]at h ⊢;omega
section
variable (w:World) (neg:Bool) (a:Option Addr) (l:List Nat) (m cap:Nat)
theorem large_small(hc:Came w neg a m l):Calls Tryz.prog 121 #[.agg #[.bool neg,.slice a m cap]] w fun e w'=>(∃v,e= .returned (.tuple #[.int .i64 v,.bool (mayB neg l&&isSm (signed neg (val l)))])∧((mayB neg l&&isSm (signed neg (val l)))=true→v=signed neg (val l)))∧Below w.heap.size w w':=by
 obtain⟨W,hWe,hW⟩: ∃W,W=w.alloc (.cells #[.bool neg,.slice a m cap] 24)∧Below w.heap.size w W:=⟨_,rfl,(Below.refl _ _).alloc (Nat.le_refl _) _⟩;have HWe:=hid hWe;have HWB:=hid hW;clear hWe;have hI:=large_int W neg a l m cap (hc.below hW).1 hc.2.1 hc.2.2.1 hc.2.2.2;generalize signed neg (val l)=z at*
 cases hb:mayB neg l&&inI64 z with
 |false=>
  have e2:(mayB neg l&&isSm z)=false:=by
   rw[Bool.and_eq_false_iff]at hb ⊢;rcases hb with e|e
   ·exact .inl e
   ·right
    cases h:isSm z with
    |false=>rfl
    |true=>rw[sm_in h]at e;cases e
  rw[e2];rw[hb]at hI;have HI:=hid (show Calls Tryz.prog 31 #[.agg #[.bool neg,.slice a m cap]] W fun e w'=>e= .returned (.tuple #[.int .i64 0,.int .i64 1])∧Below W.heap.size W w' from hI);clear hI hb e2 hc hW;go_enter Tryz.func121,Tryz.ntmps121;go_wp2_with fail;rw[←HWe.out];refine(HI.out).mono ?_;rintro e V ⟨rfl,hB⟩;(try dsimp only);have HB:=hid (HWB.out.trans (hB.mono HWB.out.size));clear hB;go_wp2_with fail;go_ret2;exact⟨⟨0,rfl,fun e=>by cases e⟩,HB.out⟩
 |true=>
  rw[Bool.and_eq_true]at hb;rw[hb.1,hb.2]at hI;rw[hb.1,Bool.true_and];have HI:=hid (show Calls Tryz.prog 31 #[.agg #[.bool neg,.slice a m cap]] W fun e w'=>e= .returned (.tuple #[.int .i64 z,.int .i64 0])∧Below W.heap.size W w' from hI);have HF:=hid (fun X=>show Calls Tryz.prog 206 #[.int .i64 z] X fun e w'=>e= .returned (.bool (isSm z))∧X=w' from oop_fits X z);generalize isSm z=b at*
  clear hI hb hc hW;go_enter Tryz.func121,Tryz.ntmps121;go_wp2_with fail;rw[←HWe.out];refine(HI.out).mono ?_;rintro e V ⟨rfl,hB⟩;(try dsimp only);have HB:=hid (HWB.out.trans (hB.mono HWB.out.size));clear hB;go_wp2_with fail;refine(HF.out V).mono ?_;rintro e V2 ⟨rfl,rfl⟩;(try dsimp only);go_wp2_with fail;go_ret2;exact⟨⟨z,rfl,fun _=>rfl⟩,HB.out⟩
theorem ref_small(hc:Came w neg a m l):Calls Tryz.prog 122 #[.agg #[.bool neg,.slice a m cap]] w fun e w'=>(∃v b,e= .returned (.tuple #[.int .i64 v,.bool b])∧(mayB neg l=true→b=isSm (signed neg (val l)))∧(b=true→v=signed neg (val l)))∧Below w.heap.size w w':=by
 obtain⟨W,hWe,hW⟩: ∃W,W=w.alloc (.cells #[.bool neg,.slice a m cap] 24)∧Below w.heap.size w W:=⟨_,rfl,(Below.refl _ _).alloc (Nat.le_refl _) _⟩;have HWe:=hid hWe;have HWB:=hid hW;clear hWe;have hI:=ref_int W neg a l m cap (hc.below hW);unfold RIntRes at hI;have HI:=hid hI;clear hI;have HF:=hid (fun X z=>show Calls Tryz.prog 207 #[.int .i64 z] X fun e w'=>e= .returned (.bool (isSm z))∧X=w' from r_fits X z);generalize signed neg (val l)=z at*
 clear hc hW;go_enter Tryz.func122,Tryz.ntmps122;go_wp2_with fail;rw[←HWe.out];refine(HI.out).mono ?_;rintro e V ⟨v,ok,rfl,HR,hB⟩;(try dsimp only);have HB:=hid (HWB.out.trans (hB.mono HWB.out.size));clear hB;cases ok with
 |false=>
  have HE:=hid (show mayB neg l=true→false=isSm z from fun h=>by
   have:=HR.out.1 h
   cases e:isSm z with
   |false=>rfl
   |true=>rw[sm_in e]at this;cases this)
  clear HR;go_wp2_with fail;go_ret2;exact⟨⟨v,false,rfl,HE.out,fun e=>by cases e⟩,HB.out⟩
 |true=>
  obtain rfl:=HR.out.2 rfl;go_wp2_with fail;refine(HF.out V v).mono ?_;rintro e V2 ⟨rfl,rfl⟩;(try dsimp only);go_wp2_with fail;go_ret2;exact⟨⟨v,isSm v,rfl,fun _=>rfl,fun _=>rfl⟩,HB.out⟩
end
end Go.Proofs.YtbffpkmfhkphdaaGreatDoor
namespace Go.Proofs.YtbffpkmfhkphdaaGreatDoor
open Go Lib Go.RowKit Limb
theorem wd_nil(i:Nat):wd [] i=0:=by unfold wd;simp
theorem packB_wd: ∀(t:List Nat) (j:Nat),wd (packB t) j=wd t (4*j)+256*wd t (4*j+1)+65536*wd t (4*j+2)+16777216*wd t (4*j+3)
 |[],j=>by simp[packB,wd_nil]
 |[a],0=>by show a=_;simp[wd_zero,wd_succ,wd_nil]
 |[a],j+1=>by
  show wd [] j=_
  rw[show 4*(j+1)=4*j+3+1 by omega];simp only[wd_nil,wd_succ]
 |[a,b],0=>by show a+256*b=_;simp[wd_zero,wd_succ,wd_nil]
 |[a,b],j+1=>by
  show wd [] j=_
  rw[show 4*(j+1)=4*j+2+1+1 by omega];simp only[wd_nil,wd_succ]
 |[a,b,c],0=>by show a+256*b+65536*c=_;simp[wd_zero,wd_succ,wd_nil]
 |[a,b,c],j+1=>by
  show wd [] j=_
  rw[show 4*(j+1)=4*j+1+1+1+1 by omega];simp only[wd_nil,wd_succ]
 |a :: b :: c :: d :: t,0=>by show a+256*b+65536*c+16777216*d=_;simp[wd_zero,wd_succ]
 |a :: b :: c :: d :: t,j+1=>by
  show wd (packB t) j=_
  rw[packB_wd t j,show 4*(j+1)=4*j+1+1+1+1 by omega];simp only[wd_succ]
def part(t:List Nat)(k i:Nat):Nat:=if i<k then wd t i else 0
def sumTo(t:List Nat)(k j:Nat):Nat:=part t k (4*j)+256*part t k (4*j+1)+65536*part t k (4*j+2)+16777216*part t k (4*j+3)
theorem sumTo_zero(t:List Nat)(j:Nat):sumTo t 0 j=0:=by simp[sumTo,part]
theorem sumTo_all(t:List Nat)(j:Nat):sumTo t t.length j=wd (packB t) j:=by
 have h: ∀i,part t t.length i=wd t i:=fun i=>by
  unfold part;split
  ·rfl
  ·rename_i h;unfold wd;rw[List.getD_eq_getElem?_getD,List.getElem?_eq_none (by omega)];rfl
 rw[packB_wd];unfold sumTo;rw[h,h,h,h]
theorem part_next(t:List Nat)(k i:Nat):part t (k+1) i=if i=k then wd t k else part t k i:=by
 unfold part;by_cases h:i=k
 ·subst h;rw[if_pos (by omega),if_pos rfl]
 ·rw[if_neg h];by_cases h2:i<k
  ·rw[if_pos h2,if_pos (by omega)]
  ·rw[if_neg h2,if_neg (by omega)]
theorem part_self(t:List Nat)(k:Nat):part t k k=0:=by unfold part;rw[if_neg (by omega)]
theorem sumTo_next(t:List Nat)(k j:Nat):sumTo t (k+1) j=if j=k/4 then sumTo t k j+wd t k*256^(k%4)else sumTo t k j:=by
 unfold sumTo;rw[part_next,part_next,part_next,part_next];by_cases h:j=k/4
 ·rw[if_pos h];have h4:k%4=0∨k%4=1∨k%4=2∨k%4=3:=by omega
  rcases h4 with e|e|e|e
  ·have:k=4*j:=(by omega);subst this;rw[if_pos rfl,if_neg (by omega),if_neg (by omega),if_neg (by omega),part_self,e];omega
  ·have:k=4*j+1:=(by omega);subst this;rw[if_neg (by omega),if_pos rfl,if_neg (by omega),if_neg (by omega),part_self,e];omega
  ·have:k=4*j+2:=(by omega);subst this;rw[if_neg (by omega),if_neg (by omega),if_pos rfl,if_neg (by omega),part_self,e];omega
  ·have:k=4*j+3:=(by omega);subst this;rw[if_neg (by omega),if_neg (by omega),if_neg (by omega),if_pos rfl,part_self,e];omega
 ·rw[if_neg h,if_neg (by omega),if_neg (by omega),if_neg (by omega),if_neg (by omega)]
theorem sumTo_lt{t:List Nat}(ht:B8 t)(k j:Nat):sumTo t k j<4294967296:=by
 have h: ∀i,part t k i<256:=fun i=>by
  unfold part;split
  ·unfold wd;rw[List.getD_eq_getElem?_getD]
   cases e:t[i]? with
   |none=>simp
   |some x=>exact ht x (List.mem_of_getElem? e)
  ·decide
 unfold sumTo;have:=h (4*j);have:=h (4*j+1);have:=h (4*j+2);have:=h (4*j+3);omega
theorem size_u8(W:World):(sizeOf 5).run Tryz.prog W= .ok 1 W:=by kernel_rfl
theorem pow_step8{b j m:Nat}(hb:b<256)(hj:j<m)(hm:m≤3):b*256^j*256<4294967296∧b*256^j*256=b*256^(j+1):=by
 refine⟨?_,by rw[Nat.pow_succ,Nat.mul_assoc]⟩;have h4:j=0∨j=1∨j=2:=by omega
 rcases h4 with rfl|rfl|rfl<;>omega
theorem r_packbytes(w:World)(a:Option Addr)(t:List Nat)(n cap:Nat)(hlay:Lay .u8 w a t)(ht:B8 t)(hn:n=t.length)(hl:n≤262140):Calls Tryz.prog 235 #[.slice a n cap] w fun e w'=>(∃g,e= .returned (.slice (some ⟨g,0,none⟩) ((n+3)/4) ((n+3)/4))∧w.heap.size≤g∧Row w' g 60 (nums .u32 (packB t)))∧Below w.heap.size w w':=by
 have HL:=hid (r_length w n (by omega));obtain⟨m,hm⟩: ∃m,m=(n+3)/4:=⟨_,rfl⟩;rw[←hm]at HL ⊢;have HM:=hid hm;obtain⟨b,off,ix0,cx0,-⟩:=hlay.use (P:=Tryz.prog) 72 5 Tryz.underlying72 size_u8 cap;rw[←hn]at ix0 cx0
 have HIx:=hid (fun W (k:Nat) (hk:k<n)=>show(Instr.indexAt 72 (.slice a n cap) (.int .i64 k)).run Tryz.prog W= .ok (.pointer (some ⟨b,off+k,none⟩)) W from by
  have:=ix0 W .i64 (k:Int) (by omega) (by omega)
  rwa [Int.toNat_natCast]at this)
 have HCx:=hid cx0
 have hb8: ∀k,wd t k<256:=fun k=>by
  unfold wd;rw[List.getD_eq_getElem?_getD]
  cases e:t[k]? with
  |none=>simp
  |some x=>exact ht x (List.mem_of_getElem? e)
 have HB8:=hid hb8;have HSt:=hid (sumTo_lt ht);have HNx:=hid (fun k j=>sumTo_next t k j)
 have HEnd:=hid (fun(l:List Nat) (h1:l.length=m) (h2: ∀j,j<m→wd l j=sumTo t n j)=>show l=packB t from by
  have hpl:=packB_length t;rw[←hn,←hm]at hpl;exact ext_wd (h1.trans hpl.symm) (fun j hj=>by rw[h2 j (by omega),hn,sumTo_all]))
 clear ix0 cx0 hb8 ht hlay hn hm;go_enter Tryz.func235,Tryz.ntmps235;go_wp2_with fail;refine(HL.out).mono ?_;rintro e w1 ⟨rfl,rfl⟩;(try dsimp only);go_wp2_with(at_make;refine wpList_make_row rfl _ _ _ rfl 60 (.int .u32 0) 4 Tryz.underlying22 info32 rfl _ _ _ _ m m rfl rfl rfl rfl (Nat.le_refl _) (by have:=HM.out;omega) (by have:=HM.out;omega) ?_;intro w1 g hg1 hg2 hrow hB);rw[show List.replicate m (Value.int .u32 0)=nums .u32 (List.replicate m 0)from(nums_replicate .u32 m).symm]at hrow;have HG:=hid hg1;clear hg1 hg2 HL;go_loopw[6] (fun i wr=> ∃(k:Nat) (l:List Nat),k≤n∧i= .int .i64 k∧Hid (l.length=m)∧Hid (∀j,j<m→wd l j=sumTo t k j)∧Row wr g 60 (nums .u32 l)∧Below w.heap.size w wr) (fun i _=>n-(intOf i).toNat);case atStart=>exact⟨0,_,Nat.zero_le _,rfl,hid (List.length_replicate),hid (fun j _=>by rw[sumTo_zero];unfold wd;rw[List.getD_eq_getElem?_getD,List.getElem?_replicate];split<;>rfl),hrow,hB⟩
 case round=>
  clear hrow hB;obtain⟨k,l,hk,rfl,HLn,HW,hrow,hB⟩:=hrel;by_cases h0:k<n
  ·have d1:decide ((k:Int)<(n:Int))=true:=decide_eq_true (by omega);have d2:decide (k<n)=true:=decide_eq_true h0;have ix:=fun W=>HIx.out W k h0
   have cx:=HCx.out wr hB k h0;have hb:=HB8.out k;have hjm:k/4<m:=by have:=HM.out;omega
   have HSum:=hid (HNx.out k);have HV:=hid (show wd l (k/4)=sumTo t k (k/4)from HW.out _ hjm)
   have HB3:=hid (show sumTo t k (k/4)+wd t k*256^(k%4)<4294967296 from by
    have h1:=HSt.out (k+1) (k/4);rw[HNx.out,if_pos rfl]at h1;exact h1)
   obtain⟨q,hq⟩: ∃q,q=k%4:=⟨_,rfl⟩;have HQ:=hid hq;have hq3:q≤3:=by omega
   have eq4:(k:Int)%4=(q:Int):=(by omega);obtain⟨jj,hjj⟩: ∃jj,jj=k/4:=⟨_,rfl⟩;have ej4:(k:Int)/4=(jj:Int):=by omega
   have HJ:=hid hjj;rw[←hjj]at hjm;clear hq hjj;have HBd:=hid hb;obtain⟨bv,hbv⟩: ∃bv,bv=wd t k:=⟨_,rfl⟩;rw[←hbv]at cx hb;have HBv:=hid hbv;clear hbv;go_wp2_with fail;go_loopw[8,7] (fun i s wx=> ∃j v:Nat,j≤q∧i= .int .i64 j∧s= .int .u32 v∧Hid (v=bv*256^j)∧wx=wr) (fun i _ _=>q-(intOf i).toNat);case atStart=>exact⟨0,bv,Nat.zero_le _,rfl,rfl,hid (by rw[Nat.pow_zero,Nat.mul_one]),rfl⟩
   case round=>
    clear cx ix;obtain⟨j,v,hj,rfl,rfl,HVj,rfl⟩:=hrel;by_cases hj0:j<q
    ·have d3:decide ((j:Int)<(q:Int))=true:=decide_eq_true (by omega);have d4:decide (j<q)=true:=decide_eq_true hj0;obtain⟨p1,p2⟩:=pow_step8 hb hj0 hq3;rw[←HVj.out]at p1 p2;have HV2:=hid p2;clear p2;go_wp2_with fail;go_roundw;case rel=>exact⟨j+1,v*256,hj0,by simp,by simp,HV2,trivial⟩
     case measure=>simp[intOf];omega
    ·obtain rfl:j=q:=by omega
     have d3:decide ((j:Int)<(j:Int))=false:=decide_eq_false (by omega);have d4:decide (j<j)=false:=decide_eq_false (by omega);have sl:=hrow.sl (n:=m) (by rw[nums_length];exact HLn.out.symm) (Nat.le_trans (show m≤70000 by have:=HM.out;omega) (by decide));have ix:=fun W=>sl.index 22 Tryz.underlying22 size32 W .i64 jj hjm
     have cx:=hrow.cell (i:=jj) (by rw[HLn.out];exact hjm);have zx:=hrow.free jj;obtain⟨sv0,hsv⟩: ∃x,x=wd l jj:=⟨_,rfl⟩;rw[←hsv]at cx;have es:sv0=sumTo t k jj:=by rw[hsv];exact HW.out _ hjm
     have ev:v=wd t k*256^(k%4):=(by rw[HVj.out,HBv.out,HQ.out]);have hlt:sv0+v<4294967296:=by rw[es,ev,HJ.out];exact HB3.out
     have hst:=hrow.store jj ((sv0:Int)+(v:Int)) (sv0+v) (by omega)
     have HW2:=hid (show∀j,j<m→wd (l.set jj (sv0+v)) j=sumTo t (k+1) j from fun j hj=>by
      rw[wd_set (by rw[HLn.out];exact hjm),HNx.out];by_cases e:j=jj
      ·rw[if_pos e,e,if_pos HJ.out,es,ev]
      ·rw[if_neg e,if_neg (by rw[←HJ.out];exact e)];exact HW.out j hj)
     have HL2:=hid (show(l.set jj (sv0+v)).length=m by rw[List.length_set];exact HLn.out);have hB2:=below_store hB HG.out (i:=jj) (.int .u32 ((sv0:Int)+(v:Int)));clear es ev hsv sl;go_wp2_with fail;go_roundw;case rel=>exact⟨k+1,_,h0,by simp,HL2,HW2,hst,hB2⟩
     case measure=>simp[intOf];omega
  ·obtain rfl:k=n:=by omega
   have d1:decide ((k:Int)<(k:Int))=false:=decide_eq_false (by omega);have d2:decide (k<k)=false:=decide_eq_false (by omega);have e:=HEnd.out l HLn.out HW.out;rw[e]at hrow;have HR:=hid hrow;clear e;go_wp2_with fail;go_ret;exact⟨⟨_,rfl,HG.out,HR.out⟩,hB⟩
end Go.Proofs.YtbffpkmfhkphdaaGreatDoor
namespace Go.Proofs.YtbffpkmfhkphdaaGreatDoor
open Go Lib Go.RowKit Limb
section
variable {w:World} {F:Foot} {h:Hp}
theorem heap_Length(H:HeapAt w F h)(o:Nat)(ho:o<4294967296):Calls Tryz.prog 318 #[.pointer (some ⟨F.p,0,none⟩),.int .u32 o] w fun e w'=>e= .returned (.tuple #[.int .i64 (hdX h o).len,.int .i64 (erX h o)])∧Below w.heap.size w w':=by
 have HD:=hid (heap_Header H o ho)
 have hok:(hdX h o).Ok∨hdX h o=hdZ:=by
  unfold hdX;by_cases hi:isO h o=true
  ·rw[if_pos hi];exact .inl (H.good.ok _ (isO_iff.1 hi).2.2).1
  ·rw[if_neg hi];exact .inr rfl
 have HLn:=hid (heap_length (hdX h o) hok);generalize hdX h o=x at*
 generalize erX h o=er at*
 have ex:hdV x= .agg #[.int .i64 x.size,.int .i64 x.fmt,.int .i64 x.spare,.int .u32 x.cls,.int .u32 x.ser]:=rfl;have hd:=HD.out;have hl:=HLn.out;rw[ex]at hd hl;have HD:=hid hd;have HLn:=hid hl;generalize x.len=ln at*
 clear hd hl ex hok H;go_enter Tryz.func318,Tryz.ntmps318;go_wp2_with fail;refine(HD.out).mono ?_;rintro e V ⟨rfl,hB⟩;(try dsimp only);obtain⟨W,hW,r0,hb,hz⟩:=alloc_row V 159 [.int .i64 x.size,.int .i64 x.fmt,.int .i64 x.spare,.int .u32 x.cls,.int .u32 x.ser];have HW:=hid hW;clear hW hz;replace hB:=hB.trans (hb.mono hB.size);clear hb r0;go_wp2_with fail;rw[←HW.out];refine(HLn.out W).mono ?_;rintro e W2 ⟨rfl,hb⟩;(try dsimp only);replace hB:=hB.trans (hb.mono hB.size);clear hb;go_wp2_with fail;go_ret2;exact⟨rfl,hB⟩
end
end Go.Proofs.YtbffpkmfhkphdaaGreatDoor

/- The walks of package large's Make, of the document's Make. The metaclasses of the document's bones: a map. What the walk of the booter's names carries along. The walk of the document's fixed. -/
import Derived.Test.YtbffpkmfhkphdaaGreatDoorGX00
import Derived.Test.YtbffpkmfhkphdaaGreatDoorGX27
import Derived.Test.YtbffpkmfhkphdaaGreatDoorGX39
import Derived.Test.YtbffpkmfhkphdaaGreatDoorGX41
import Derived.Test.YtbffpkmfhkphdaaGreatDoorGX40
import Derived.Maps.Own
import Derived.Maps.OwnOps
import Derived.Maps.Views
set_option linter.unusedVariables false
set_option linter.unusedSimpArgs false
set_option maxRecDepth 1000000
set_option maxHeartbeats 6400000
namespace Go.Proofs.YtbffpkmfhkphdaaGreatDoor
open Go Lib Go.RowKit Limb
namespace Limb
def mkH(h1:Hp)(o:Nat)(neg:Bool)(l:List Nat):Hp:=putAll o 1 l (if neg=true then putF h1 o 0 1 else h1)
theorem grow_put3{h:Hp}(k:Good h){o i v:Nat}(hf:isF h o 3 (i+1)=true)(hv:v<4294967296):Grow h (putF h o i v):=by
 have g:=good_put k hf (by decide) hv;rw[isF_iff]at hf;obtain⟨h1,h3,h4⟩:=hf;refine⟨g,rfl,rfl,fun p f n e=>?_⟩;rw[isF_iff]at e ⊢;have hh:hdO (putF h o i v) p=hdO h p:=putW_hd k (isO_iff.1 h1).2.2 (show i<(hd h (o/2)).size from h4) (isO_iff.1 e.1).2.2;rw[hh];exact⟨e.1,e.2⟩
end Limb
theorem putAll_next(o:Nat)(l:List Nat)(k:Nat)(hk:k<l.length)(h:Hp):putAll o (1+k) (l.drop k) h=putAll o (1+(k+1)) (l.drop (k+1)) (Limb.putF h o (1+k) (wd l k)):=by
 rw[List.drop_eq_getElem_cons hk,wd_lt hk];rfl
section
variable {w:World} {F:Foot} {h:Hp}
theorem heap_setwordF(H:HeapAt w F h){o i v:Nat}(hf:isF h o 3 (i+1)=true)(hi:i≤65535)(hv2:v<4294967296):Calls Tryz.prog 47 #[.pointer (some ⟨F.p,0,none⟩),.int .u32 o,.int .i64 i,.int .u32 v] w fun e w'=>e= .returned (.int .i64 0)∧Step w F w' F (Limb.putF h o i v):=by
 obtain⟨e1,e2,e3⟩:=isF_iff.1 hf;have hlen:(hdO h o).len=(hdO h o).size:=len_size (by omega);have hE:lookE h o (i:Int) [3]=0:=lookE_zero.2 ⟨e1,by rw[e2];rfl,by omega,by rw[hlen];omega⟩;have hPH:setwH h o (i:Int) v=Limb.putF h o i v:=by unfold setwH;rw[if_pos hE,Int.toNat_natCast]
 have:=heap_setword H o (isO_lt H.good e1) (i:Int) (by omega) (by omega) v hv2;rw[hE,hPH]at this;exact this
end
section
variable (w:World) (neg:Bool) (a:Option Addr) (l:List Nat) (m cap:Nat)
theorem large_make_no(p:Nat)(hc:Came w neg a m l)(hm:mayB neg l=false):Calls Tryz.prog 51 #[.pointer (some ⟨p,0,none⟩),.agg #[.bool neg,.slice a m cap]] w fun e w'=>e= .returned (.tuple #[.int .u32 0,.int .i64 1])∧Below w.heap.size w w':=by
 obtain⟨W,hWe,r0,hW⟩: ∃W,W=w.alloc (.cells #[.bool neg,.slice a m cap] 24)∧Row W w.heap.size 24 [.bool neg,.slice a m cap]∧Below w.heap.size w W:=⟨_,rfl,by unfold Row;exact heap_alloc_new _ _,(Below.refl _ _).alloc (Nat.le_refl _) _⟩;have HWe:=hid hWe;clear hWe;have c0:=r0.cell_at 0;have c1:=r0.cell_at 1;simp only[yB,yC]at c0 c1;have hM:=large_May W neg a l m cap (hc.below hW).1 hc.2.1 hc.2.2.1 hc.2.2.2;rw[hm]at hM;have HM:=hid hM;clear hM hc hm;go_enter Tryz.func51,Tryz.ntmps51;go_wp2_with fail;rw[←HWe.out];refine(HM.out).mono ?_;rintro e V ⟨rfl,hb⟩;(try dsimp only);have r0:=r0.below hb r0.lt;have hW:=hW.trans (hb.mono hW.size);clear c0 c1 hb;have c0:=r0.cell_at 0;have c1:=r0.cell_at 1;simp only[yB,yC]at c0 c1;go_wp2_with fail;go_ret2;exact⟨rfl,hW⟩
theorem large_make_small(p:Nat)(hc:Came w neg a m l)(hm:mayB neg l=true)(hs:isSm (signed neg (val l))=true):Calls Tryz.prog 51 #[.pointer (some ⟨p,0,none⟩),.agg #[.bool neg,.slice a m cap]] w fun e w'=>e= .returned (.tuple #[.int .u32 (smallO (signed neg (val l))),.int .i64 0])∧Below w.heap.size w w':=by
 obtain⟨W,hWe,r0,hW⟩: ∃W,W=w.alloc (.cells #[.bool neg,.slice a m cap] 24)∧Row W w.heap.size 24 [.bool neg,.slice a m cap]∧Below w.heap.size w W:=⟨_,rfl,by unfold Row;exact heap_alloc_new _ _,(Below.refl _ _).alloc (Nat.le_refl _) _⟩;have HWe:=hid hWe;clear hWe;have c0:=r0.cell_at 0;have c1:=r0.cell_at 1;simp only[yB,yC]at c0 c1;have hM:=large_May W neg a l m cap (hc.below hW).1 hc.2.1 hc.2.2.1 hc.2.2.2;rw[hm]at hM;have HM:=hid hM;have HS:=hid (fun X (hb:Below W.heap.size W X)=>large_small X neg a l m cap ((hc.below hW).below hb));have HO:=hid (fun X=>oop_small X (signed neg (val l)) hs);rw[hm,hs]at HS;generalize signed neg (val l)=z at*
 clear hM hc hm hs;go_enter Tryz.func51,Tryz.ntmps51;go_wp2_with fail;rw[←HWe.out];refine(HM.out).mono ?_;rintro e V ⟨rfl,hb⟩;(try dsimp only);have HS2:=hid (HS.out V hb);have r0:=r0.below hb r0.lt;have hW:=hW.trans (hb.mono hW.size);clear c0 c1 hb;have c0:=r0.cell_at 0;have c1:=r0.cell_at 1;simp only[yB,yC]at c0 c1;clear HS HM;go_wp2_with fail;refine(HS2.out).mono ?_;rintro e V2 ⟨⟨v,rfl,hv⟩,hb⟩;(try dsimp only);obtain rfl:=hv rfl;have r0:=r0.below hb r0.lt;have hW:=hW.trans (hb.mono hW.size);clear c0 c1 hb;have c0:=r0.cell_at 0;have c1:=r0.cell_at 1;simp only[yB,yC]at c0 c1;clear HS2;go_wp2_with fail;refine(HO.out V2).mono ?_;rintro e V3 ⟨rfl,rfl⟩;(try dsimp only);go_wp2_with fail;go_ret2;exact⟨rfl,hW⟩
end
section
variable {w:World} {F:Foot} {h:Hp}
theorem large_make(H:HeapAt w F h)(neg:Bool)(a:Option Addr)(l:List Nat)(m cap:Nat)(hc:Came w neg a m l)(hF:0<l.length→∀b off,a=some ⟨b,off,none⟩→b∉F.l)(hm:mayB neg l=true)(hs:isSm (signed neg (val l))=false)(hml:m≤1024)(o:Nat)(h1:Hp)(hp:allocP h (wd h.rt 17) 3 (1+m)=some (o,h1)):Calls Tryz.prog 51 #[.pointer (some ⟨F.p,0,none⟩),.agg #[.bool neg,.slice a m cap]] w fun e w'=>e= .returned (.tuple #[.int .u32 o,.int .i64 0])∧Moved w F w' (Limb.mkH h1 o neg l):=by
 obtain⟨W,hWe,r0,hW⟩: ∃W,W=w.alloc (.cells #[.bool neg,.slice a m cap] 24)∧Row W w.heap.size 24 [.bool neg,.slice a m cap]∧Below w.heap.size w W:=⟨_,rfl,by unfold Row;exact heap_alloc_new _ _,(Below.refl _ _).alloc (Nat.le_refl _) _⟩;have HWe:=hid hWe;clear hWe;have c0:=r0.cell_at 0;have c1:=r0.cell_at 1;simp only[yB,yC]at c0 c1;have HB:=hid hW;have hM:=large_May W neg a l m cap (hc.below hW).1 hc.2.1 hc.2.2.1 hc.2.2.2;rw[hm]at hM;have HM:=hid hM;have HSm:=hid (fun X (hb:Below W.heap.size W X)=>large_small X neg a l m cap ((hc.below hW).below hb));rw[hm,hs]at HSm;have HW0:=H.below hW;have HRt:=hid (fun X (hb:Below W.heap.size W X)=>show Calls Tryz.prog 130 #[.pointer (some ⟨F.p,0,none⟩),.int .i64 17] X fun e w'=>e= .returned (.tuple #[.int .u32 (wd h.rt 17:Nat),.int .i64 0])∧X=w' from heap_root (HW0.below hb) 17 (by decide))
 have HAl:=hid (fun X (hb:Below W.heap.size W X)=>show Calls Tryz.prog 45 #[.pointer (some ⟨F.p,0,none⟩),.int .u32 (wd h.rt 17:Nat),.int .i64 3,.int .i64 (1+(m:Int))] X fun e w'=>e= .returned (.tuple #[.int .u32 o,.int .i64 0])∧∃F',Step W F w' F' h1 from by
  have:=heap_Alloc (HW0.below hb) (wd h.rt 17) 3 (1+m) o h1 (by decide) (by decide) (by omega) hp;rw[Int.natCast_add]at this;exact this.mono fun e w' ⟨x,F',y⟩=>⟨x,F',Step.of_below hb y⟩)
 obtain⟨g1,i1⟩:=grow_alloc HW0.good (by decide) (by decide) (show 1+m≤65535 by omega) hp
 have HSw:=hid (fun X F1 hq (hS:Step W F X F1 hq) (i v:Nat) (hf:isF hq o 3 (i+1)=true) (hi:i≤65535) (hv:v<4294967296)=>show Calls Tryz.prog 47 #[.pointer (some ⟨F.p,0,none⟩),.int .u32 o,.int .i64 i,.int .u32 v] X fun e w'=>e= .returned (.int .i64 0)∧∃F',Step W F w' F' (Limb.putF hq o i v)from by
  rw[←hS.2.1.p];exact(heap_setwordF hS.1 hf hi hv).mono fun e w' ⟨x,y⟩=>⟨x,F1,hS.trans y⟩)
 have HLay:=hid (fun X (ho:Only F.l W X)=>(hc.below hW).1.only ho hF);have HLim:=hid hc.2.1;have HL:=hid hc.2.2.1;have HI:=hid i1;have hg0:w.heap.size∉F.l:=fun e=>Nat.lt_irrefl _ (H.lt _ e)
 have HR0:=hid (fun X (ho:Only F.l W X)=>show X.cell? ⟨w.heap.size,0,none⟩=some (.bool neg)∧X.cell? ⟨w.heap.size,1,none⟩=some (.slice a m cap)from by
  have r:=r0.only ho hg0;have c0:=r.cell_at 0;have c1:=r.cell_at 1;simp only[yB,yC]at c0 c1;exact⟨c0,c1⟩)
 obtain⟨hE,hhE⟩: ∃hE,hE=Limb.mkH h1 o neg l:=⟨_,rfl⟩;rw[←hhE];have HE:=hid hhE;generalize wd h.rt 17=r17 at*
 obtain⟨bx,hbx⟩: ∃bx,bx=w.heap.size:=⟨_,rfl⟩;rw[←hbx]at r0 HR0 hg0;have HBX:=hid hbx;rw[←hbx]at c0 c1;clear hM hc hm hs hp hhE i1 g1 H HW0 hF hg0 hbx;go_enter Tryz.func51,Tryz.ntmps51;go_wp2_with fail;rw[←HWe.out,←HBX.out];refine(HM.out).mono ?_;rintro e V ⟨rfl,hb⟩;(try dsimp only);have HBV:=hid hb;obtain⟨c0,c1⟩:=HR0.out V (Only.of_below hb);clear hb HM HWe;go_wp2_with fail;refine(HSm.out V HBV.out).mono ?_;rintro e V2 ⟨⟨v,rfl,-⟩,hb⟩;(try dsimp only);have HBV2:=hid (HBV.out.trans (hb.mono HBV.out.size));obtain⟨c0,c1⟩:=HR0.out V2 (Only.of_below HBV2.out);clear hb HSm HBV;go_wp2_with fail;refine(HRt.out V2 HBV2.out).mono ?_;rintro e V3 ⟨rfl,rfl⟩;(try dsimp only);go_wp2_with fail;refine(HAl.out V2 HBV2.out).mono ?_;rintro e V4 ⟨rfl,F1,hS⟩;(try dsimp only);obtain⟨c0,c1⟩:=HR0.out V4 hS.2.2;have HS1:=hid hS;clear hS HAl HRt HBV2 r0 hW;cases neg with
 |false=>
  have HS3:=HS1;have HI3:=HI;have HP3:=hid (show putAll o (1+0) (l.drop 0) h1=hE from HE.out.symm);obtain⟨F2,hF2⟩: ∃F2,F2=F1:=⟨_,rfl⟩;obtain⟨hk,hhk⟩: ∃hk,hk=h1:=⟨_,rfl⟩;rw[←hF2,←hhk]at HS3;rw[←hhk]at HI3 HP3;clear HS1 HI HE hF2 hhk;go_wp2_with fail;go_loopw[53] (fun i wr=> ∃(k:Nat) (F3:Foot) (hq:Hp),k≤m∧i= .int .i64 k∧Hid (Step W F wr F3 hq)∧Hid (isF hq o 3 (1+m)=true)∧Hid (putAll o (1+k) (l.drop k) hq=hE)) (fun i _=>m-(intOf i).toNat);case atStart=>exact⟨0,F2,hk,Nat.zero_le _,rfl,HS3,HI3,HP3⟩
  case round=>
   clear HS3 HI3 HP3 c0 c1 F2 hk;obtain⟨k,F2,hk,hkm,rfl,HS,HI,HP⟩:=hrel;by_cases h0:k<m
   ·have d1:decide ((k:Int)<(m:Int))=true:=decide_eq_true (by omega);have d2:decide (k<m)=true:=decide_eq_true h0;have hkl:k<l.length:=by have:=HL.out;omega
    have hp:=HP.out;rw[putAll_next o l k hkl]at hp;obtain⟨b,off,hix,hcx,-⟩:=(HLay.out wr HS.out.2.2).use 22 60 Tryz.underlying22 size32 cap;rw[←HL.out]at hix hcx;have ix:=fun W=>hix W .i64 (k:Int) (by omega) (by omega)
    rw[Int.toNat_natCast]at ix;have cx:=hcx wr (Below.refl _ _) k h0;have hf:=isF_le HI.out (show(1+k)+1≤1+m by omega);have hv:=HLim.out.wd k;have HW1:=hid (HSw.out wr F2 hk HS.out (1+k) (wd l k) hf (by omega) hv);have HI2:=hid ((Limb.grow_put3 HS.out.1.good hf hv).isF _ _ _ HI.out);have HP2:=hid hp;generalize Limb.putF hk o (1+k) (wd l k)=hq at*
    generalize wd l k=x at*
    clear hp hix hcx hf hv HI HP hkl;go_wp2_with fail;refine(HW1.out).mono ?_;rintro e Y1 ⟨rfl,F3,hS⟩;(try dsimp only);have HS2:=hid hS;clear hS HW1 HS cx ix;go_wp2_with fail;go_roundw;case rel=>exact⟨k+1,F3,hq,h0,by simp,HS2,HI2,HP2⟩
    case measure=>simp[intOf];omega
   ·obtain rfl:k=m:=by omega
    have hp:=HP.out;rw[show l.drop k=[]from by rw[HL.out];exact List.drop_length]at hp;have hp:hk=hE:=hp;subst hp;have d1:decide ((k:Int)<(k:Int))=false:=decide_eq_false (by omega);have d2:decide (k<k)=false:=decide_eq_false (by omega);have HM:=hid (show Moved w F wr hk from⟨F2,Step.of_below HB.out HS.out⟩);clear HS HI HP HSw HLay HLim HL HB;go_wp2_with fail;go_ret2;exact⟨rfl,HM.out⟩
 |true=>
  have HW1:=hid (HSw.out V4 F1 h1 HS1.out 0 1 (isF_le HI.out (by omega)) (by decide) (by decide));have HI3:=hid ((Limb.grow_put3 HS1.out.1.good (i:=0) (v:=1) (isF_le HI.out (by omega)) (by decide)).isF _ _ _ HI.out);have HP3:=hid (show putAll o (1+0) (l.drop 0) (Limb.putF h1 o 0 1)=hE from HE.out.symm);obtain⟨hk,hhk⟩: ∃hk,hk=Limb.putF h1 o 0 1:=⟨_,rfl⟩;rw[←hhk]at HI3 HP3 HW1;clear HS1 HI HE hhk;go_wp2_with fail;refine(HW1.out).mono ?_;rintro e V5 ⟨rfl,F2,hS⟩;(try dsimp only);obtain⟨c0,c1⟩:=HR0.out V5 hS.2.2;have HS3:=hid hS;clear hS HW1;go_wp2_with fail;go_loopw[53] (fun i wr=> ∃(k:Nat) (F3:Foot) (hq:Hp),k≤m∧i= .int .i64 k∧Hid (Step W F wr F3 hq)∧Hid (isF hq o 3 (1+m)=true)∧Hid (putAll o (1+k) (l.drop k) hq=hE)) (fun i _=>m-(intOf i).toNat);case atStart=>exact⟨0,F2,hk,Nat.zero_le _,rfl,HS3,HI3,HP3⟩
  case round=>
   clear HS3 HI3 HP3 c0 c1 F2 hk;obtain⟨k,F2,hk,hkm,rfl,HS,HI,HP⟩:=hrel;by_cases h0:k<m
   ·have d1:decide ((k:Int)<(m:Int))=true:=decide_eq_true (by omega);have d2:decide (k<m)=true:=decide_eq_true h0;have hkl:k<l.length:=by have:=HL.out;omega
    have hp:=HP.out;rw[putAll_next o l k hkl]at hp;obtain⟨b,off,hix,hcx,-⟩:=(HLay.out wr HS.out.2.2).use 22 60 Tryz.underlying22 size32 cap;rw[←HL.out]at hix hcx;have ix:=fun W=>hix W .i64 (k:Int) (by omega) (by omega)
    rw[Int.toNat_natCast]at ix;have cx:=hcx wr (Below.refl _ _) k h0;have hf:=isF_le HI.out (show(1+k)+1≤1+m by omega);have hv:=HLim.out.wd k;have HW1:=hid (HSw.out wr F2 hk HS.out (1+k) (wd l k) hf (by omega) hv);have HI2:=hid ((Limb.grow_put3 HS.out.1.good hf hv).isF _ _ _ HI.out);have HP2:=hid hp;generalize Limb.putF hk o (1+k) (wd l k)=hq at*
    generalize wd l k=x at*
    clear hp hix hcx hf hv HI HP hkl;go_wp2_with fail;refine(HW1.out).mono ?_;rintro e Y1 ⟨rfl,F3,hS⟩;(try dsimp only);have HS2:=hid hS;clear hS HW1 HS cx ix;go_wp2_with fail;go_roundw;case rel=>exact⟨k+1,F3,hq,h0,by simp,HS2,HI2,HP2⟩
    case measure=>simp[intOf];omega
   ·obtain rfl:k=m:=by omega
    have hp:=HP.out;rw[show l.drop k=[]from by rw[HL.out];exact List.drop_length]at hp;have hp:hk=hE:=hp;subst hp;have d1:decide ((k:Int)<(k:Int))=false:=decide_eq_false (by omega);have d2:decide (k<k)=false:=decide_eq_false (by omega);have HM:=hid (show Moved w F wr hk from⟨F2,Step.of_below HB.out HS.out⟩);clear HS HI HP HSw HLay HLim HL HB;go_wp2_with fail;go_ret2;exact⟨rfl,HM.out⟩
end
end Go.Proofs.YtbffpkmfhkphdaaGreatDoor
namespace Go.Proofs.YtbffpkmfhkphdaaGreatDoor
open Go Go.RowKit Limb Go.Maps
theorem map_law:Keyed Tryz.prog 3:=int_keyed Tryz.underlying3
theorem map_zero(w:World):(zeroValue 61).run Tryz.prog w= .ok (.int .u32 0) w:=by kernel_rfl
theorem wf_key{i:Nat}(hi:i≤1000):(Lit.int .i64 ((10+i:Nat):Int)).wf=true:=WalkArith.wf_i64 (by omega)
theorem wf_u32{v:Nat}(hv:v<4294967296):(Lit.int .u32 (v:Int)).wf=true:=WalkArith.wf_u32 (by omega)
def MetasAt(w:World)(b k:Nat)(ms:List Nat):Prop:= ∃D:DataW Unit,w.ownsMap Tryz.prog 3 (plainElem Tryz.prog 61) b k D∧IsMap D∧ms.length=k∧∀j,j<k→D.atKey (.int .i64 ((10+j:Nat):Int)) (.lit (.int .u32 0))= .lit (.int .u32 (wd ms j:Nat))
section
variable {w w':World} {b k:Nat} {ms:List Nat}
theorem MetasAt.made(w:World):MetasAt (w.alloc (.map #[] 0)) w.heap.size 0 []:=⟨_,World.ownsMap_made _ _ _ _,isMap_empty,rfl,fun j hj=>absurd hj (Nat.not_lt_zero _)⟩
theorem MetasAt.only{ps:List Nat}(h:MetasAt w b k ms)(ho:Only ps w w')(hn:b∉ps):MetasAt w' b k ms:=by
 obtain⟨D,h1,h2⟩:=h;have hlt:=h1.lt;obtain⟨es,clock,hb,F,hs,hD⟩:=h1;exact⟨D,⟨es,clock,(ho.block b hlt hn).trans hb,F,hs,hD⟩,h2⟩
theorem MetasAt.not_row(h:MetasAt w b k ms){g:Nat}{e:TypeId}{cs:List Value}(r:Row w g e cs):b≠g:=by
 rintro rfl;obtain⟨D,⟨es,clock,hb,_⟩,_⟩:=h;unfold Row at r;rw[hb]at r;simp at r
theorem MetasAt.not_mem(h:MetasAt w b k ms){F:RFoot}{hk:Hp}(H:RefAt w F hk):b∉F.l:=by
 obtain⟨cw,cs',r1,r2,r3⟩:=H.row;obtain⟨_,r2⟩:=r2.row;obtain⟨_,r3⟩:=r3.row;have r4:=H.roots;intro hm;unfold RFoot.l at hm;simp only[List.mem_cons,List.not_mem_nil,or_false]at hm;rcases hm with e|e|e|e
 ·exact h.not_row r1 e
 ·exact h.not_row r2 e
 ·exact h.not_row r3 e
 ·exact h.not_row r4 e
theorem MetasAt.lookup(h:MetasAt w b k ms){j:Nat}(hj:j<k)(hk:k≤1000):(Instr.lookup 243 (.map (some b)) (.int .i64 ((10+j:Nat):Int)) false).run Tryz.prog w= .ok (.int .u32 (wd ms j:Nat)) w:=by
 obtain⟨D,h1,h2,h3,h4⟩:=h;obtain⟨c,hr,hat,hwc⟩:=h1.lookup_int map_law Tryz.underlying243 Tryz.underlying61 (map_zero w) (keyOf_int_mk Tryz.underlying3 (wf_key (i:=j) (by omega)));rw[h4 j hj]at hat;have e:((wd ms j:Nat):Int)=c:=by simpa using hat
 rw[e];exact hr
theorem MetasAt.update(h:MetasAt w b k ms)(hk:k≤1000)(v:Nat)(hv:v<4294967296): ∃w',(Instr.mapUpdate 243 (.map (some b)) (.int .i64 ((10+k:Nat):Int)) (.int .u32 v)).run Tryz.prog w= .ok () w'∧MetasAt w' b (k+1) (ms++[v])∧Only [b] w w':=by
 obtain⟨D,h1,h2,h3,h4⟩:=h;obtain⟨w',hr,ho,hg⟩:=h1.update map_law Tryz.underlying243 (by unfold maxLen;omega) (keyOf_int_mk Tryz.underlying3 (wf_key hk)) (plainElem_int Tryz.underlying61 (wf_u32 hv));refine⟨w',hr,⟨_,ho,h2.put _ _,by rw[List.length_append,h3];rfl,fun j hj=>?_⟩,⟨hg.os,hg.tape,hg.output,hg.size,fun i hi hn=>hg.block i hi (fun e=>hn (by rw[←Option.some.inj e];exact List.mem_singleton.2 rfl))⟩⟩;by_cases e:j=k
 ·subst e;rw[atKey_put_same h2 (by trivial)];have:wd (ms++[v]) j=v:=by unfold wd;rw[←h3];simp
  rw[this]
 ·rw[atKey_put_other (by intro x;injection x with _ x;omega),h4 j (by omega)];have:wd (ms++[v]) j=wd ms j:=by unfold wd;rw[List.getD_eq_getElem?_getD,List.getD_eq_getElem?_getD,List.getElem?_append_left (by omega)]
  rw[this]
end
theorem rkeeps_metas(b k:Nat)(ms:List Nat):RKeeps (fun X=>MetasAt X b k ms):=
 ⟨fun _ _ m hb=>m.only (ps:=[]) (Only.of_below hb) (by simp),fun _ _ _ _ _ _ H m s=>m.only s.2.2 (m.not_mem H)⟩
end Go.Proofs.YtbffpkmfhkphdaaGreatDoor
namespace Go.Proofs.YtbffpkmfhkphdaaGreatDoor
open Go Go.RowKit Limb
namespace Limb
theorem grow_putAll{a:Nat}: ∀(l:List Nat) (i:Nat) (h:Hp),Good h→(∀x∈l,isO h x=true)→isF h a 1 (i+l.length)=true→Grow h (putAll a i l h)
 |[],_,h,k,_,_=>Grow.refl k
 |v :: t,i,h,k,hl,hf=>by
  have hf:isF h a 1 (i+(t.length+1))=true:=hf;have g:=grow_put k (i:=i) (isF_le hf (by omega)) (isO_lt k (hl v (by simp)));exact g.trans (grow_putAll t (i+1) _ g.good (fun x hx=>g.isO (hl x (List.mem_cons_of_mem _ hx))) (g.isF _ _ _ (isF_le hf (by omega))))
theorem grow_internAll: ∀(fs:List (List Nat)) (h h':Hp) (l:List Nat),Good h→fs.all okT=true→internAll fs h=some (l,h')→Grow h h'∧(∀x∈l,isO h' x=true)∧l.length=fs.length
 |[],h,h',l,k,_,e=>by
  have:=Option.some.inj e;rw[Prod.mk.injEq]at this;obtain⟨rfl,rfl⟩:=this;exact⟨Grow.refl k,by simp,rfl⟩
 |s :: t,h,h',l,k,ho,e=>by
  rw[List.all_cons,Bool.and_eq_true]at ho;obtain⟨⟨o,h1⟩,e1,e2⟩:=Option.bind_eq_some_iff.1 e;obtain⟨⟨r,h2⟩,e3,e4⟩:=Option.map_eq_some_iff.1 e2;rw[Prod.mk.injEq]at e4;obtain⟨rfl,rfl⟩:=e4;obtain⟨q1,q2⟩:=okT_iff ho.1;obtain⟨g1,i1⟩:=grow_intern k q1 q2 e1;obtain⟨g2,i2,i3⟩:=grow_internAll t h1 h2 r g1.good ho.2 e3;refine⟨g1.trans g2,fun x hx=>?_,by show r.length+1=t.length+1;rw[i3]⟩;rcases List.mem_cons.1 hx with rfl|hx
  ·exact g2.isO (isF_isO i1)
  ·exact i2 x hx
theorem grow_ownF{h h':Hp}{c:Nat}{fs:List (List Nat)}(k:Good h)(ho:fs.all okT=true)(hn:fs.length≤100)(hc:isF h c 1 6=true)(e:ownF h c fs=some h'):Grow h h':=by
 unfold ownF at e;obtain⟨⟨all,hI⟩,e1,e2⟩:=Option.bind_eq_some_iff.1 e;obtain⟨⟨a,hA⟩,e3,e4⟩:=Option.map_eq_some_iff.1 e2;obtain⟨g1,i1,i2⟩:=grow_internAll fs h hI all k ho e1;obtain⟨g2,i3⟩:=grow_alloc g1.good (by decide) (by decide) (show fs.length≤65535 by omega) e3;have g3:=grow_putAll all 0 hA g2.good (fun x hx=>g2.isO (i1 x hx)) (by rw[Nat.zero_add,i2];exact i3);have i4:=isF_isO (g3.isF _ _ _ i3);have g123:=(g1.trans g2).trans g3;rw[←e4];exact g123.trans (grow_put g3.good (i:=3) (isF_le (g123.isF _ _ _ hc) (by decide)) (isO_lt g3.good i4))
end Limb
def Keeps(R:World→Prop):Prop:=(∀X X',R X→Below X.heap.size X X'→R X')∧∀X F hk X' F' h',HeapAt X F hk→R X→Step X F X' F' h'→R X'
theorem keeps_plans(g:Nat)(vs:List Value):Keeps (fun X=>PlansAt X g vs):=⟨fun _ _ p hb=>p.below hb,fun _ _ _ _ _ _ H p s=>p.step H s⟩
theorem keeps_row(g:Nat)(e:TypeId)(cs:List Value)(h1:e≠165)(h2:e≠60)(h3:e≠4)(h4:e≠61):Keeps (fun X=>Row X g e cs):=
 ⟨fun _ _ r hb=>r.below hb r.lt,fun _ _ _ _ _ _ H r s=>s.beside r (H.not_mem r h1 h2 h3 h4)⟩
theorem Keeps.and{R S:World→Prop}(a:Keeps R)(b:Keeps S):Keeps (fun X=>R X∧S X):=
 ⟨fun X X' r hb=>⟨a.1 X X' r.1 hb,b.1 X X' r.2 hb⟩,fun X F hk X' F' h' H r s=>⟨a.2 X F hk X' F' h' H r.1 s,b.2 X F hk X' F' h' H r.2 s⟩⟩
structure CN (w:World) (F:Foot) (pb:Nat) (R:World→Prop) (X:World) (F':Foot) (hk:Hp):Prop where
 keeps:Keeps R
 st:Step w F X F' hk
 boot:BootRow X F pb
 ex:R X
section
variable {w X X':World} {F F' F'':Foot} {pb:Nat} {R R':World→Prop} {hk h':Hp}
theorem CN.step(c:CN w F pb R X F' hk)(s:Step X F' X' F'' h'):CN w F pb R X' F'' h':=
 ⟨c.keeps,c.st.trans s,c.boot.step c.st.1 s,c.keeps.2 _ _ _ _ _ _ c.st.1 c.ex s⟩
theorem CN.below(c:CN w F pb R X F' hk)(hb:Below X.heap.size X X'):CN w F pb R X' F' hk:=
 ⟨c.keeps,c.st.below hb,Row.below c.boot hb (Row.lt c.boot),c.keeps.1 _ _ c.ex hb⟩
theorem CN.with(c:CN w F pb R X F' hk)(k:Keeps R')(r:R' X):CN w F pb R' X F' hk:=⟨k,c.st,c.boot,r⟩
theorem CN.p(c:CN w F pb R X F' hk):F'.p=F.p:=c.st.2.1.p
theorem CN.hp(c:CN w F pb R X F' hk):HeapAt X F' hk:=c.st.1
theorem CN.rb(c:CN w F pb R X F' hk):BootRow X F' pb:=by have:=c.boot;unfold BootRow at this ⊢;rw[c.p];exact this
theorem CN.out(c:CN w F pb R X F' hk):pb∉F'.l:=c.hp.not_mem c.boot (by decide) (by decide) (by decide) (by decide)
theorem cn_class(c:CN w F pb R X F' hk)(i:Nat)(hi:i<64):Calls Tryz.prog 185 #[.pointer (some ⟨pb,0,none⟩),.int .i64 i] X fun e X'=>e= .returned (.int .u32 (wd hk.rt i:Nat))∧Below X.heap.size X X':=
 (booter_class c.hp c.rb i hi).mono fun e X' ⟨x,y⟩=>⟨x,by rw[←y];exact Below.refl _ _⟩
theorem cn_root(c:CN w F pb R X F' hk)(i:Nat)(hi:i<64):Calls Tryz.prog 110 #[.pointer (some ⟨F.p,0,none⟩),.int .i64 i] X fun e X'=>e= .returned (.int .u32 (wd hk.rt i:Nat))∧Below X.heap.size X X':=by
 rw[←c.p];exact(kernel_root c.hp i hi).mono fun e X' ⟨x,y⟩=>⟨x,by rw[←y];exact Below.refl _ _⟩
theorem cn_put(c:CN w F pb R X F' hk){o i v:Nat}(hf:isF hk o 1 (i+1)=true)(hi:i≤65535)(hv:isO hk v=true):Calls Tryz.prog 188 #[.pointer (some ⟨F.p,0,none⟩),.int .u32 o,.int .i64 i,.int .u32 v] X fun e X'=>e= .returned (.int .i64 0)∧∃F'',CN w F pb R X' F'' (Limb.putF hk o i v):=by
 rw[←c.p];exact(heap_putF c.hp hf hi (isO_val hv) (isO_lt c.hp.good hv)).mono fun e X' ⟨x,y⟩=>⟨x,F',c.step y⟩
theorem cn_intern(c:CN w F pb R X F' hk)(K:Limb.Ker hk)(S:ByteArray)(hS:S.size≤262140)(h0:0<S.size)(o:Nat)(h':Hp)(hp:internP hk (tx S)=some (o,h')):Calls Tryz.prog 191 #[.pointer (some ⟨pb,0,none⟩),.string S] X fun e X'=>e= .returned (.int .u32 o)∧∃F'',CN w F pb R X' F'' h':=
 (booter_intern c.hp K c.rb c.out S hS h0 o h' hp).mono fun e X' ⟨x,F'',y⟩=>⟨x,F'',c.step y⟩
theorem cn_setglobal(c:CN w F pb R X F' hk)(K:Limb.Ker hk)(S:ByteArray)(hS:S.size≤262140)(h0:0<S.size)(v:Nat)(hv:isO hk v=true)(o:Nat)(h':Hp)(hp:setGlobP hk (tx S) v=some (o,h')):Calls Tryz.prog 192 #[.pointer (some ⟨F.p,0,none⟩),.string S,.int .u32 v] X fun e X'=>e= .returned (.tuple #[.int .u32 o,.int .i64 0])∧∃F'',CN w F pb R X' F'' h':=by
 rw[←c.p];exact(kernel_setglobal c.hp K S hS h0 v hv o h' hp).mono fun e X' ⟨x,F'',y⟩=>⟨x,F'',c.step y⟩
theorem cn_own(c:CN w F pb R X F' hk)(K:Limb.Ker hk)(cls:Nat)(hc:isF hk cls 1 6=true)(fs:List (List Nat))(n gf:Nat)(hn:n=fs.length)(hn0:0<n)(hn1:n≤100)(rf:Row X gf 9 (fs.map sv))(hfs:fs.all (fun t=>okT t&&decide (0<t.length))=true)(h':Hp)(hp:ownF hk cls fs=some h'):Calls Tryz.prog 194 #[.pointer (some ⟨F.p,0,none⟩),.int .u32 cls,.slice (some ⟨gf,0,none⟩) n n] X fun e X'=>e= .returned (.int .i64 0)∧∃F'',CN w F pb R X' F'' h':=by
 rw[←c.p];exact(kernel_ownFields c.hp K cls hc fs n gf hn hn0 hn1 rf (c.hp.not_mem rf (by decide) (by decide) (by decide) (by decide)) hfs h' hp).mono fun e X' ⟨x,F'',y⟩=>⟨x,F'',c.step y⟩
end
end Go.Proofs.YtbffpkmfhkphdaaGreatDoor
namespace Go.Proofs.YtbffpkmfhkphdaaGreatDoor
open Go Lib Go.RowKit Limb
section
variable {w:World} {g:Nat} {vs:List Value}
theorem r4_fixed(h:RowsAt w g vs)(i0:Nat)(hi0:i0<22):Calls Tryz.prog 198 #[.slice (some ⟨g,0,none⟩) 22 22,.int .i64 (10+i0:Nat)] w fun e w'=>e= .returned (.int .i64 (fixedN 6 (10+i0)))∧w=w':=by
 have HCs:=hid (fun i (hi:i<22)=>h.cells hi);have HVs:=hid (fun i (hi:i<22)=>(h.2.2 i hi).slice);have hle:=fixedN_le 6 (10+i0);obtain⟨T,hT⟩: ∃T,T=fixedN 6 (10+i0):=⟨_,rfl⟩;rw[←hT]at hle ⊢;have HT:=hid hT;clear hT h;go_enter Tryz.func198,Tryz.ntmps198;go_wp2_with fail;go_loopw[1,5] (fun r m wr=> ∃(a k:Nat),r= .int .i64 a∧m= .int .i64 k∧(a=0∨(10≤a∧a<32))∧Hid (k+fixedN 6 a=T)∧wr=w) (fun r _ _=>hgtN 6 (intOf r).toNat);case atStart=>exact⟨10+i0,0,rfl,rfl,.inr ⟨by omega,by omega⟩,hid (by rw[HT.out,Nat.zero_add]),rfl⟩
 case round=>
  obtain⟨a,k,rfl,rfl,ha,HK,rfl⟩:=hrel;by_cases h0:a=0
  ·subst h0;have hk:=HK.out;rw[fixedN_zero,Nat.add_zero]at hk;subst hk;clear ha HK HT HCs HVs;go_wp2_with fail;go_ret;exact⟨rfl,rfl⟩
  ·obtain⟨i,rfl⟩: ∃i,a=10+i:=⟨a-10,by omega⟩;have hi:i<22:=by omega
   obtain⟨c0,c1,c2,c3,c4⟩:=HCs.out i hi;obtain⟨av,hv⟩:=HVs.out i hi;rw[hv]at c3;have HLs:=hid (hgt_less i hi);have HOk:=hid (sup_ok i hi);have hk:=HK.out;rw[←fixed_step i hi]at hk
   have ix: ∀W,(Instr.indexAt 146 (.slice (some ⟨g,0,none⟩) 22 22) (.int .i64 (10+(i:Int)-10))).run Tryz.prog W= .ok (.pointer (some ⟨g,5*i,none⟩)) W:=fun W=>by
    rw[show(10+(i:Int)-10)=(i:Int) by omega];exact index_by (P:=Tryz.prog) 5 (by decide) 146 152 Tryz.underlying146 size_rrow g 22 22 W .i64 i hi
   have q0:(((10+i:Nat):Int) != 0)=true:=(by rw[bne_iff_ne];omega);have ej:(((10+i:Nat):Int)-10)=(i:Int):=by omega
   generalize(plans.getD i ⟨[],0,0,false,[]⟩)=p at*
   have HK2:=hid (show(k+p.fields.length)+fixedN 6 p.sup=T by omega);have hkl:k+p.fields.length≤77:=by omega
   generalize p.fields.length=fl at*
   generalize p.sup=sp at*
   generalize p.fmt=fm at*
   generalize p.idx=ib at*
   generalize p.name=nm at*
   obtain⟨a,hae⟩: ∃a,a=10+i:=⟨_,rfl⟩;clear hk HK hv ha h0 c0 c2 c4 hle HT HCs HVs;go_wp2_with fail;go_roundw;case rel=>exact⟨sp,k+fl,rfl,by simp,HOk.out,HK2,trivial⟩
   case measure=>simp[intOf];exact HLs.out
end
end Go.Proofs.YtbffpkmfhkphdaaGreatDoor

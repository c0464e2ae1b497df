/- The walks of package heap: Get, Put, Word, SetWord. The walks of package heap: Put, SetWord, SetRoot. The walks of package heap: SetClass, Length. The walk of package heap: New. Appends onto a slice that has its block to itself. -/
import Derived.Test.YtbffpkmfhkphdaaGreatDoorGX21
import Derived.Test.YtbffpkmfhkphdaaGreatDoorGX05
import Derived.Test.YtbffpkmfhkphdaaGreatDoorGX00
import Derived.Test.YtbffpkmfhkphdaaGreatDoorGX17
import Derived.Maps.AppendAt
import Derived.Lib.AppendZerosOnto
set_option linter.unusedVariables false
set_option linter.unusedSimpArgs false
set_option maxRecDepth 1000000
set_option maxHeartbeats 6400000
namespace Go.Proofs.YtbffpkmfhkphdaaGreatDoor
open Go Lib Go.RowKit Limb
section
variable {w:World} {F:Foot} {h:Hp}
theorem HeapAt.putW(H:HeapAt w F h){k v:Nat}(hk:k<h.ws.length)(hg:Limb.Good (Limb.putW h k v)):HeapAt (w.setCell ⟨F.gw,k,none⟩ (.int .u32 (v:Nat))) F (Limb.putW h k v):=by
 obtain⟨cw,cs,r1,r2,r3⟩:=H.row;obtain⟨a1,a2,a3,a4,a5,a6⟩:=H.apart;have ho:Only [F.gw] w (w.setCell ⟨F.gw,k,none⟩ (.int .u32 (v:Nat))):=(Only.refl _ _).setCell (by simp) _;have hl:(Limb.putW h k v).ws.length=h.ws.length:=putW_len h k v;refine⟨hg,H.spares.only ho (by have:=H.low;simp;omega),⟨cw,cs,?_,?_,?_⟩,H.roots.only ho (by simp;omega),H.low⟩
 ·rw[hl];exact r1.only ho (by simp;omega)
 ·rw[hl];have:=r2.store hk (.int .u32 (v:Nat))
  rwa [←nums_set]at this
 ·rw[hl];exact r3.only ho (by simp;omega)
theorem HeapAt.setR(H:HeapAt w F h){k v:Nat}(hg:Limb.Good (Limb.setR h k v)):HeapAt (w.setCell ⟨F.gr,k,none⟩ (.int .u32 (v:Nat))) F (Limb.setR h k v):=by
 obtain⟨cw,cs,r1,r2,r3⟩:=H.row;obtain⟨a1,a2,a3,a4,a5,a6⟩:=H.apart;have ho:Only [F.gr] w (w.setCell ⟨F.gr,k,none⟩ (.int .u32 (v:Nat))):=(Only.refl _ _).setCell (by simp) _;exact⟨hg,H.spares.only ho (by have:=H.low;simp;omega),⟨cw,cs,r1.only ho (by simp;omega),r2.only ho (by simp;omega),r3.only ho (by simp;omega)⟩,H.roots.store k v v rfl,H.low⟩
theorem mem_gw(F:Foot):F.gw∈F.l:=by unfold Foot.l;simp
theorem mem_gr(F:Foot):F.gr∈F.l:=by unfold Foot.l;simp
theorem mem_p(F:Foot):F.p∈F.l:=by unfold Foot.l;simp
theorem Step.putW(H:HeapAt w F h){k v:Nat}(hk:k<h.ws.length)(hg:Limb.Good (Limb.putW h k v)):Step w F (w.setCell ⟨F.gw,k,none⟩ (.int .u32 (v:Nat))) F (Limb.putW h k v):=
 ⟨H.putW hk hg,Foot.Next.refl _ _,(Only.refl _ _).setCell (mem_gw F) _⟩
theorem Step.setR(H:HeapAt w F h){k v:Nat}(hg:Limb.Good (Limb.setR h k v)):Step w F (w.setCell ⟨F.gr,k,none⟩ (.int .u32 (v:Nat))) F (Limb.setR h k v):=
 ⟨H.setR hg,Foot.Next.refl _ _,(Only.refl _ _).setCell (mem_gr F) _⟩
theorem Step.of_below{w' w'':World}{F':Foot}{h':Hp}(hb:Below w.heap.size w w')(a:Step w' F w'' F' h'):Step w F w'' F' h':=
 ⟨a.1,⟨a.2.1.p,a.2.1.gr,by have:=a.2.1.gw;have:=hb.size;omega,by have:=a.2.1.gs;have:=hb.size;omega⟩,(Only.of_below (ps:=F.l) hb).trans a.2.2 (fun q hq=> .inl hq)⟩
theorem fld_lt(k:Limb.Good h){o i:Nat}(ho:isO h o=true)(hi:i<(hdO h o).size):o/2+3+i<h.ws.length:=by
 have:=k.inside _ (isO_iff.1 ho).2.2;have hi:i<(hd h (o/2)).size:=hi;omega
theorem len_size{x:Hd}(h:x.fmt≠2):x.len=x.size:=by unfold Hd.len;rw[if_neg h]
def getA(h:Hp)(o:Nat)(i:Int)(l:List Nat):Nat:=if lookE h o i l=0 then fld h o i.toNat else 0
theorem lookE_cases(h:Hp)(o:Nat)(i:Int)(l:List Nat)(hl:2∉l):(lookE h o i l≠0∧lookA h o i l=0)∨(lookE h o i l=0∧lookA h o i l=o/2+3∧isO h o=true∧(hdO h o).fmt∈l∧∃j:Nat,i=j∧j<(hdO h o).size):=by
 by_cases h0:lookE h o i l=0
 ·obtain⟨h1,h2,h3,h4⟩:=lookE_zero.1 h0;rw[List.contains_eq_mem,decide_eq_true_eq]at h2;rw[len_size (fun e=>hl (e ▸ h2))]at h4;exact .inr ⟨h0,by unfold lookA;rw[if_pos h0],h1,h2,i.toNat,by omega,by omega⟩
 ·exact .inl ⟨h0,by unfold lookA;rw[if_neg h0]⟩
theorem heap_get(H:HeapAt w F h)(o:Nat)(ho:o<4294967296)(i:Int)(hi1: -9223372036854775808≤i)(hi2:i≤9223372036854775807):Calls Tryz.prog 313 #[.pointer (some ⟨F.p,0,none⟩),.int .u32 o,.int .i64 i] w fun e w'=>e= .returned (.tuple #[.int .u32 (getA h o i [1,4]),.int .i64 (lookE h o i [1,4])])∧Below w.heap.size w w':=by
 obtain⟨W,hW,r0,hB,hz⟩:=alloc_row w 75 [.int .i64 1,.int .i64 4];have HW:=hid hW;have HH:=H.belowB hB (Nat.le_refl _);have HL:=hid (heap_look HH o ho i w.heap.size [1,4] 2 r0 rfl (by decide));have hle:=lookE_cases h o i [1,4] (by decide);rcases hle with⟨e1,e2⟩|⟨e1,e2,e3,e4,j,rfl,e5⟩
 ·have e6:getA h o i [1,4]=0:=(by unfold getA;rw[if_neg e1]);have hl:=HL.out;rw[e2]at hl;have HL:=hid hl;rw[e6];have q:(((lookE h o i [1,4]:Nat):Int) != 0)=true:=by rw[bne_iff_ne];omega
  have q2:(((lookE h o i [1,4]:Nat):Int)==0)=false:=(by rw[beq_eq_false_iff_ne];omega);have q3:(lookE h o i [1,4]==0)=false:=by rw[beq_eq_false_iff_ne];omega
  have q4: ¬lookE h o i [1,4]=0:=e1;generalize lookE h o i [1,4]=E at*
  clear hl e1 e2 e6 hW hz HH H;go_enter Tryz.func313,Tryz.ntmps313;go_wp2_with fail;rw[←HW.out];refine(HL.out).mono ?_;rintro e V ⟨rfl,hb⟩;(try dsimp only);replace hB:=hB.trans (hb.mono hB.size);clear hb;go_wp2_with fail;go_ret2;exact⟨rfl,hB⟩
 ·have e6:getA h o (j:Int) [1,4]=fld h o j:=(by unfold getA;rw[if_pos e1,Int.toNat_natCast]);have hl:=HL.out;rw[e2,e1]at hl;rw[e6,e1];have HL:=hid (hl.mono (R':=fun e w'=>e= .returned (.tuple #[.int .i64 (o/2+3:Nat),.int .i64 0])∧Below W.heap.size W w'∧HeapAt w' F h) fun e w' ⟨a,b⟩=>⟨a,b,HH.below b⟩);have hlt:=fld_lt H.good e3 e5;have efl:fld h o j=wd h.ws (o/2+3+j):=rfl;have hsm:=H.small;generalize o/2+3=at0 at*
  rw[efl];clear hl e1 e2 e6 hW hz HH H e3 e4 e5 efl;go_enter Tryz.func313,Tryz.ntmps313;go_wp2_with fail;rw[←HW.out];refine(HL.out).mono ?_;rintro e V ⟨rfl,hb,HV⟩;(try dsimp only);replace hB:=hB.trans (hb.mono hB.size);clear hb;obtain⟨cw,cs,c0,c1,c2,c3,c4,hw,hs⟩:=HV.cells;have cx:=hw.cell hlt;rw[nums_get hlt]at cx;have ix:=fun W=>hw.index 22 Tryz.underlying22 size32 W .i64 (at0+j) hlt
  rw[Int.natCast_add]at ix;clear HV hw hs HL HW;go_wp2_with fail;go_ret2;exact⟨rfl,hB⟩
theorem heap_word(H:HeapAt w F h)(o:Nat)(ho:o<4294967296)(i:Int)(hi1: -9223372036854775808≤i)(hi2:i≤9223372036854775807):Calls Tryz.prog 132 #[.pointer (some ⟨F.p,0,none⟩),.int .u32 o,.int .i64 i] w fun e w'=>e= .returned (.tuple #[.int .u32 (getA h o i [3]),.int .i64 (lookE h o i [3])])∧Below w.heap.size w w':=by
 obtain⟨W,hW,r0,hB,hz⟩:=alloc_row w 75 [.int .i64 3];have HW:=hid hW;have HH:=H.belowB hB (Nat.le_refl _);have HL:=hid (heap_look HH o ho i w.heap.size [3] 1 r0 rfl (by decide));have hle:=lookE_cases h o i [3] (by decide);rcases hle with⟨e1,e2⟩|⟨e1,e2,e3,e4,j,rfl,e5⟩
 ·have e6:getA h o i [3]=0:=(by unfold getA;rw[if_neg e1]);have hl:=HL.out;rw[e2]at hl;have HL:=hid hl;rw[e6];have q:(((lookE h o i [3]:Nat):Int) != 0)=true:=by rw[bne_iff_ne];omega
  have q2:(((lookE h o i [3]:Nat):Int)==0)=false:=(by rw[beq_eq_false_iff_ne];omega);have q3:(lookE h o i [3]==0)=false:=by rw[beq_eq_false_iff_ne];omega
  have q4: ¬lookE h o i [3]=0:=e1;generalize lookE h o i [3]=E at*
  clear hl e1 e2 e6 hW hz HH H;go_enter Tryz.func132,Tryz.ntmps132;go_wp2_with fail;rw[←HW.out];refine(HL.out).mono ?_;rintro e V ⟨rfl,hb⟩;(try dsimp only);replace hB:=hB.trans (hb.mono hB.size);clear hb;go_wp2_with fail;go_ret2;exact⟨rfl,hB⟩
 ·have e6:getA h o (j:Int) [3]=fld h o j:=(by unfold getA;rw[if_pos e1,Int.toNat_natCast]);have hl:=HL.out;rw[e2,e1]at hl;rw[e6,e1];have HL:=hid (hl.mono (R':=fun e w'=>e= .returned (.tuple #[.int .i64 (o/2+3:Nat),.int .i64 0])∧Below W.heap.size W w'∧HeapAt w' F h) fun e w' ⟨a,b⟩=>⟨a,b,HH.below b⟩);have hlt:=fld_lt H.good e3 e5;have efl:fld h o j=wd h.ws (o/2+3+j):=rfl;have hsm:=H.small;generalize o/2+3=at0 at*
  rw[efl];clear hl e1 e2 e6 hW hz HH H e3 e4 e5 efl;go_enter Tryz.func132,Tryz.ntmps132;go_wp2_with fail;rw[←HW.out];refine(HL.out).mono ?_;rintro e V ⟨rfl,hb,HV⟩;(try dsimp only);replace hB:=hB.trans (hb.mono hB.size);clear hb;obtain⟨cw,cs,c0,c1,c2,c3,c4,hw,hs⟩:=HV.cells;have cx:=hw.cell hlt;rw[nums_get hlt]at cx;have ix:=fun W=>hw.index 22 Tryz.underlying22 size32 W .i64 (at0+j) hlt
  rw[Int.natCast_add]at ix;clear HV hw hs HL HW;go_wp2_with fail;go_ret2;exact⟨rfl,hB⟩
end
end Go.Proofs.YtbffpkmfhkphdaaGreatDoor
namespace Go.Proofs.YtbffpkmfhkphdaaGreatDoor
open Go Lib Go.RowKit Limb
def putE(h:Hp)(o:Nat)(i:Int)(v:Nat):Nat:=if lookE h o i [1,4]=0 then(if valO h v=true then 0 else 3)else lookE h o i [1,4]
def putH(h:Hp)(o:Nat)(i:Int)(v:Nat):Hp:=if putE h o i v=0 then Limb.putF h o i.toNat v else h
def setwH(h:Hp)(o:Nat)(i:Int)(v:Nat):Hp:=if lookE h o i [3]=0 then Limb.putF h o i.toNat v else h
section
variable {w:World} {F:Foot} {h:Hp}
theorem Step.same(H:HeapAt w F h){w':World}(hb:Below w.heap.size w w'):Step w F w' F h:=(Step.refl H).below hb
theorem isF_of{o f j:Nat}(h1:isO h o=true)(h2:(hdO h o).fmt=f)(h3:j<(hdO h o).size):isF h o f (j+1)=true:=by
 unfold isF;rw[h1,decide_eq_true h2,decide_eq_true (show j+1≤(hdO h o).size by omega)];rfl
theorem heap_put(H:HeapAt w F h)(o:Nat)(ho:o<4294967296)(i:Int)(hi1: -9223372036854775808≤i)(hi2:i≤9223372036854775807)(v:Nat)(hv:v<4294967296):Calls Tryz.prog 188 #[.pointer (some ⟨F.p,0,none⟩),.int .u32 o,.int .i64 i,.int .u32 v] w fun e w'=>e= .returned (.int .i64 (putE h o i v:Nat))∧Step w F w' F (putH h o i v):=by
 obtain⟨W,hW,r0,hB,hz⟩:=alloc_row w 75 [.int .i64 1,.int .i64 4];have HW:=hid hW;have HH:=H.belowB hB (Nat.le_refl _);have HL:=hid (heap_look HH o ho i w.heap.size [1,4] 2 r0 rfl (by decide));have hle:=lookE_cases h o i [1,4] (by decide);rcases hle with⟨e1,e2⟩|⟨e1,e2,e3,e4,j,rfl,e5⟩
 ·have e7:putH h o i v=h:=(by unfold putH;rw[if_neg (by first |exact e1|(unfold putE;rw[if_neg e1];exact e1))]);rw[e7];have e8:putE h o i v=lookE h o i [1,4]:=by unfold putE;rw[if_neg e1]
  rw[e8];have hl:=HL.out;rw[e2]at hl;have HL:=hid hl;have q:(((lookE h o i [1,4]:Nat):Int) != 0)=true:=by rw[bne_iff_ne];omega
  have q2:(((lookE h o i [1,4]:Nat):Int)==0)=false:=(by rw[beq_eq_false_iff_ne];omega);have q3:(lookE h o i [1,4]==0)=false:=by rw[beq_eq_false_iff_ne];omega
  have q4: ¬lookE h o i [1,4]=0:=e1;have HS:=hid (fun X (hb:Below w.heap.size w X)=>Step.same H hb);generalize lookE h o i [1,4]=E at*
  clear hl e1 e2 e7 e8 hW hz HH H;go_enter Tryz.func188,Tryz.ntmps188;go_wp2_with fail;rw[←HW.out];refine(HL.out).mono ?_;rintro e V ⟨rfl,hb⟩;(try dsimp only);replace hB:=hB.trans (hb.mono hB.size);clear hb;go_wp2_with fail;go_ret;exact⟨rfl,HS.out _ hB⟩
 ·have hl:=HL.out;rw[e2,e1]at hl;have HL:=hid (hl.mono (R':=fun e w'=>e= .returned (.tuple #[.int .i64 (o/2+3:Nat),.int .i64 0])∧Below W.heap.size W w'∧HeapAt w' F h) fun e w' ⟨a,b⟩=>⟨a,b,HH.below b⟩);have hlt:=fld_lt H.good e3 e5;have hsm:=H.small;have HP:putE h o (j:Int) v=if valO h v=true then 0 else 3:=by unfold putE;rw[if_pos e1]
  have HVal:=hid (fun X (H:HeapAt X F h)=>heap_value H v hv)
  have HPH:putH h o (j:Int) v=if valO h v=true then Limb.putF h o j v else h:=by
   unfold putH;rw[HP,Int.toNat_natCast];cases valO h v<;>rfl
  rw[HPH,HP]
  have hG:Limb.Good (Limb.putF h o j v):=by
   simp only[List.mem_cons,List.not_mem_nil,or_false]at e4;rcases e4 with e4|e4
   ·exact good_put H.good (isF_of e3 e4 e5) (by decide) hv
   ·exact good_put H.good (isF_of e3 e4 e5) (by decide) hv
  have ePF:Limb.putF h o j v=Limb.putW h (o/2+3+j) v:=rfl;rw[ePF]at hG ⊢;obtain⟨vv,hvv⟩: ∃b,b=valO h v:=⟨_,rfl⟩;rw[←hvv]at HVal ⊢;clear hvv;generalize o/2+3=at0 at*
  clear hl e1 e2 hW hz HH H e3 e4 e5 ePF HPH HP;go_enter Tryz.func188,Tryz.ntmps188;go_wp2_with fail;rw[←HW.out];refine(HL.out).mono ?_;rintro e V ⟨rfl,hb,HV⟩;(try dsimp only);replace hB:=hB.trans (hb.mono hB.size);clear hb;go_wp2_with fail;refine(HVal.out _ HV).mono ?_;rintro e V1 ⟨rfl,rfl⟩;(try dsimp only);cases vv with
  |false=>
   have HS:=hid (Step.of_below hB (Step.refl HV));clear HV HVal HL HW hG;go_wp2_with fail;go_ret;exact⟨rfl,HS.out⟩
  |true=>
   obtain⟨cw,cs,c0,c1,c2,c3,c4,hw,hs⟩:=HV.cells;have z0:=hw.free (at0+j);have cx:=hw.cell hlt;rw[nums_get hlt]at cx;have ix:=fun W=>hw.index 22 Tryz.underlying22 size32 W .i64 (at0+j) hlt
   rw[Int.natCast_add]at ix;have HS:=hid (Step.of_below hB (Step.putW HV hlt hG));clear HV hw hs HL HW HVal hG;go_wp2_with fail;go_ret;exact⟨rfl,HS.out⟩
theorem heap_setword(H:HeapAt w F h)(o:Nat)(ho:o<4294967296)(i:Int)(hi1: -9223372036854775808≤i)(hi2:i≤9223372036854775807)(v:Nat)(hv:v<4294967296):Calls Tryz.prog 47 #[.pointer (some ⟨F.p,0,none⟩),.int .u32 o,.int .i64 i,.int .u32 v] w fun e w'=>e= .returned (.int .i64 (lookE h o i [3]:Nat))∧Step w F w' F (setwH h o i v):=by
 obtain⟨W,hW,r0,hB,hz⟩:=alloc_row w 75 [.int .i64 3];have HW:=hid hW;have HH:=H.belowB hB (Nat.le_refl _);have HL:=hid (heap_look HH o ho i w.heap.size [3] 1 r0 rfl (by decide));have hle:=lookE_cases h o i [3] (by decide);rcases hle with⟨e1,e2⟩|⟨e1,e2,e3,e4,j,rfl,e5⟩
 ·have e7:setwH h o i v=h:=(by unfold setwH;rw[if_neg (by first |exact e1|(unfold putE;rw[if_neg e1];exact e1))]);rw[e7];have hl:=HL.out;rw[e2]at hl;have HL:=hid hl;have q:(((lookE h o i [3]:Nat):Int) != 0)=true:=by rw[bne_iff_ne];omega
  have q2:(((lookE h o i [3]:Nat):Int)==0)=false:=(by rw[beq_eq_false_iff_ne];omega);have q3:(lookE h o i [3]==0)=false:=by rw[beq_eq_false_iff_ne];omega
  have q4: ¬lookE h o i [3]=0:=e1;have HS:=hid (fun X (hb:Below w.heap.size w X)=>Step.same H hb);generalize lookE h o i [3]=E at*
  clear hl e1 e2 e7 hW hz HH H;go_enter Tryz.func47,Tryz.ntmps47;go_wp2_with fail;rw[←HW.out];refine(HL.out).mono ?_;rintro e V ⟨rfl,hb⟩;(try dsimp only);replace hB:=hB.trans (hb.mono hB.size);clear hb;go_wp2_with fail;go_ret;exact⟨rfl,HS.out _ hB⟩
 ·have hl:=HL.out;rw[e2,e1]at hl;have HL:=hid (hl.mono (R':=fun e w'=>e= .returned (.tuple #[.int .i64 (o/2+3:Nat),.int .i64 0])∧Below W.heap.size W w'∧HeapAt w' F h) fun e w' ⟨a,b⟩=>⟨a,b,HH.below b⟩);have hlt:=fld_lt H.good e3 e5;have hsm:=H.small;have HPH:setwH h o (j:Int) v=Limb.putF h o j v:=by unfold setwH;rw[if_pos e1,Int.toNat_natCast]
  rw[HPH,e1]
  have hG:Limb.Good (Limb.putF h o j v):=by
   rw[List.mem_singleton]at e4;exact good_put H.good (isF_of e3 e4 e5) (by decide) hv
  have ePF:Limb.putF h o j v=Limb.putW h (o/2+3+j) v:=rfl;rw[ePF]at hG ⊢;generalize o/2+3=at0 at*
  clear hl e1 e2 hW hz HH H e3 e4 e5 ePF HPH;go_enter Tryz.func47,Tryz.ntmps47;go_wp2_with fail;rw[←HW.out];refine(HL.out).mono ?_;rintro e V ⟨rfl,hb,HV⟩;(try dsimp only);replace hB:=hB.trans (hb.mono hB.size);clear hb;obtain⟨cw,cs,c0,c1,c2,c3,c4,hw,hs⟩:=HV.cells;have z0:=hw.free (at0+j);have cx:=hw.cell hlt;rw[nums_get hlt]at cx;have ix:=fun W=>hw.index 22 Tryz.underlying22 size32 W .i64 (at0+j) hlt
  rw[Int.natCast_add]at ix;have HS:=hid (Step.of_below hB (Step.putW HV hlt hG));clear HV hw hs HL HW hG;go_wp2_with fail;go_ret;exact⟨rfl,HS.out⟩
theorem heap_setroot(H:HeapAt w F h)(i:Nat)(hi:i<64)(v:Nat)(hv:v<4294967296)(hval:valO h v=true):Calls Tryz.prog 108 #[.pointer (some ⟨F.p,0,none⟩),.int .i64 i,.int .u32 v] w fun e w'=>e= .returned (.int .i64 0)∧Step w F w' F (Limb.setR h i v):=by
 have HM:=hid (heap_made H);have hv2:=heap_value H v hv;rw[hval]at hv2;have HV:=hid hv2;have HS:=hid (Step.setR H (k:=i) (v:=v) (H.good.setR hv));obtain⟨cw,cs,c0,c1,c2,c3,c4,hw,hs⟩:=H.cells;have z0:=H.roots.free i;have cx:=H.root_cell hi;have d1:decide ((i:Int)<0)=false:=decide_eq_false (by omega);have d2:decide ((64:Int)≤(i:Int))=false:=decide_eq_false (by omega);have d3:decide (64≤i)=false:=decide_eq_false (by omega);have sl:Sl w F.gr 61 64 64 (nums .u32 h.rt):=H.roots.sl (by rw[nums_length];exact H.good.rlen.symm) (by decide);have ix:=fun W=>sl.index 71 Tryz.underlying71 size_oop W .i64 i hi
 clear hw hs H sl hv2 hval;go_enter Tryz.func108,Tryz.ntmps108;go_wp2_with fail;refine(HM.out).mono ?_;rintro e w1 ⟨rfl,rfl⟩;(try dsimp only);go_wp2_with fail;refine(HV.out).mono ?_;rintro e w1 ⟨rfl,rfl⟩;(try dsimp only);go_wp2_with fail;go_ret;exact⟨rfl,HS.out⟩
end
end Go.Proofs.YtbffpkmfhkphdaaGreatDoor
namespace Go.Proofs.YtbffpkmfhkphdaaGreatDoor
open Go Lib Go.RowKit Limb
theorem i64_self{x:Int}(h1: -9223372036854775808≤x)(h2:x≤9223372036854775807):IntKind.i64.wrap x=x:=by
 simp only[IntKind.wrap,IntKind.bits,IntKind.signed];simp;omega
section
variable {w:World} {F:Foot} {h:Hp}
theorem heap_setclass(H:HeapAt w F h)(o c:Nat)(ho:o<4294967296)(hc:c<4294967296)(h1:isO h o=true)(h2:clsO h c=true):Calls Tryz.prog 189 #[.pointer (some ⟨F.p,0,none⟩),.int .u32 o,.int .u32 c] w fun e w'=>e= .returned (.int .i64 0)∧Step w F w' F (Limb.setC h o c):=by
 have hI:=heap_is H o ho;have hC:=heap_class H c hc;rw[h1]at hI;rw[h2]at hC;have HI:=hid hI;have HC:=hid hC;have ha:=fun X=>heap_at o ho X (.pointer (some ⟨F.p,0,none⟩))
 rw[idxN_of h1]at ha;have HA:=hid ha;have hb:=(isO_iff.1 h1).2.2;have hin:=H.good.inside _ hb;have hlt:o/2+1<h.ws.length:=by omega
 have hG:=H.good.setC hb (c:=c) hc;have hSW:=Step.putW H hlt hG;have e0:Limb.setC h o c=Limb.putW h (o/2+1) c:=rfl;have hsm:=H.small;rw[e0];generalize o/2=at0 at*
 obtain⟨cw,cs,c0,c1,c2,c3,c4,hw,hs⟩:=H.cells;have z0:=hw.free (at0+1);have cx:=hw.cell hlt;rw[nums_get hlt]at cx;have ix:=fun W=>hw.index 22 Tryz.underlying22 size32 W .i64 (at0+1) hlt
 rw[Int.natCast_add,show((1:Nat):Int)=1 from rfl]at ix
 have hlp: ∀X,Only [F.gw] w X→X.cell? ⟨F.p,0,none⟩=some (.slice (some ⟨F.gw,0,none⟩) h.ws.length cw):=fun X hX=>by
  rw[←c0];exact World.cell?_of_block (hX.block _ (H.lt _ (mem_p F)) (by simp;exact H.apart.1))
 have HK:=hid hlp;have HS:=hid (show∀n,Step w F ((w.drewN n).setCell ⟨F.gw,at0+1,none⟩ (.int .u32 (c:Nat))) F (Limb.putW h (at0+1) c)from fun n=>Step.of_below (w':=w.drewN n) ⟨rfl,rfl,rfl,Nat.le_refl _,fun _ _=>rfl⟩ (Step.putW (H.below (w':=w.drewN n) ⟨rfl,rfl,rfl,Nat.le_refl _,fun _ _=>rfl⟩) hlt hG));have hX:Only [F.gw] w w.drew:=(Only.refl _ _).drew;clear hlp hw hs H hI hC ha hb hin hG hSW e0 h1 h2;go_enter Tryz.func189,Tryz.ntmps189;go_wp2_with fail;refine(HI.out).mono ?_;rintro e w1 ⟨rfl,rfl⟩;(try dsimp only);go_wp2_with fail;refine(HC.out).mono ?_;rintro e w1 ⟨rfl,rfl⟩;(try dsimp only);go_wp2_with fail;refine wp_region_held (S:=fun X=>Only [F.gw] w X) (by kernel_rfl) ?_;refine tk 0 (.pointer (some ⟨F.p,0,none⟩)) 17 hX ?_;simp only[Act.put,zA,zB,zC];refine tk 1 (.pointer (some ⟨F.p,0,none⟩)) 18 hX ?_;simp only[Act.put,zA,zB,zC];refine tk 2 (.pointer (some ⟨F.p,0,none⟩)) 19 hX ?_;simp only[Act.put,zA,zB,zC];refine tk 3 (.slice (some ⟨F.gw,0,none⟩) h.ws.length cw) 20 hX ?_ (y:=fun X hX=>by have c0:=HK.out X hX;go_simp);simp only[Act.put,zA,zB,zC];refine tk 4 (.pointer (some ⟨F.p,0,none⟩)) 21 hX ?_;simp only[Act.put,zA,zB,zC];refine tk 5 (.int .u32 o) 22 hX ?_;simp only[Act.put,zA,zB,zC];refine tk 8 (.int .u32 c) 25 hX ?_;simp only[Act.put,zA,zB,zC];refine wpAnyH_all (rs:=[6]) (by kernel_rfl) (by decide) (fun i hi=>?_);rw[List.mem_singleton]at hi;subst hi;unfold wpOp;go_simp;refine .inl ((HA.out _).mono ?_);rintro e X1 ⟨rfl,rfl⟩;refine⟨hX,?_⟩;refine tk 7 (.int .i64 ((at0:Int)+1)) 24 hX ?_ (y:=fun X hX=>by go_simp;exact i64_self (by omega) (by omega));simp only[Act.put,zA,zB,zC];refine tk 9 (.pointer (some ⟨F.gw,at0+1,none⟩)) 26 hX ?_;simp only[Act.put,zA,zB,zC];refine wpAnyH_all (rs:=[10]) (by kernel_rfl) (by decide) (fun i hi=>?_);rw[List.mem_singleton]at hi;subst hi;unfold wpOp;go_simp;replace hX:=hX.setCell (a:=⟨F.gw,at0+1,none⟩) (by simp) (.int .u32 c);refine .inl ⟨hX,?_⟩;refine wpAnyH_done (by kernel_rfl) ?_ _;go_wp2_with fail;go_ret;exact⟨rfl,HS.out 1⟩
end
end Go.Proofs.YtbffpkmfhkphdaaGreatDoor
namespace Go.Proofs.YtbffpkmfhkphdaaGreatDoor
open Go Lib Go.RowKit Limb
theorem info_oop:(Tryz.prog.info? 61).map (fun i=>(i.zero,i.size,i.bytes))=some (some (.int .u32 0),1,4):=by kernel_rfl
theorem heap_new(w:World)(hs:Spares w)(n:Nat)(h1:64≤n)(h2:n≤1048576):Calls Tryz.prog 107 #[.int .i64 n] w fun e w'=> ∃F,e= .returned (.tuple #[.pointer (some ⟨F.p,0,none⟩),.int .i64 0])∧HeapAt w' F (emptyH n)∧Below w.heap.size w w'∧∀g∈F.l,w.heap.size≤g:=by
 obtain⟨W,hW,r0,hb0,hz0⟩:=alloc_row w 60 [.int .u32 0];obtain⟨V,hV,r1,hb1,hz1⟩:=alloc_row W 4 [.bool false];rw[hz0]at r1;have hB:Below w.heap.size w V:=hb0.trans (hb1.mono (by omega));replace r0:=r0.below hb1 r0.lt;have HV:=hid (show V=(w.alloc (.cells #[.int .u32 0] 60)).alloc (.cells #[.bool false] 4) by rw[hV,hW]);have hz:V.heap.size=w.heap.size+2:=by omega
 have d1:decide ((n:Int)<64)=false:=decide_eq_false (by omega);have d1':decide (n<64)=false:=decide_eq_false (by omega);have d2:decide ((1048576:Int)<(n:Int))=false:=decide_eq_false (by omega);have d2':decide (1048576<n)=false:=decide_eq_false (by omega);have Hs:=hid (hs.below hB hs.1);have h5:=hs.1;clear hV hW hz0 hz1 hb0 hb1 hs;go_enter Tryz.func107,Tryz.ntmps107;go_wp2_with(at_make;rw[←HV.out];refine wpList_make_row rfl _ _ _ rfl 61 (.int .u32 0) 4 Tryz.underlying71 info_oop rfl _ _ _ _ 64 64 rfl rfl rfl rfl (by decide) (by decide) (by decide) ?_;intro w1 g hg1 hg2 hrow hbel);replace r0:=r0.below hbel r0.lt;replace r1:=r1.below hbel r1.lt;replace hB:=hB.trans (hbel.mono hB.size);have hS:=Hs.out.below hbel (by omega);obtain⟨U,hU,r3,hb3,hz3⟩:=alloc_row w1 165 [.slice (some ⟨w.heap.size,0,none⟩) 1 1,.slice (some ⟨w.heap.size+1,0,none⟩) 1 1,.slice (some ⟨g,0,none⟩) 64 64,.int .i64 n,.int .u32 0];have HU:=hid hU;rw[hg2]at r3 hb3;replace r0:=r0.below hb3 (by omega);replace r1:=r1.below hb3 (by omega);replace hrow:=hrow.below hb3 (by omega);replace hS:=hS.below hb3 (by omega);have hBU:=hB.trans (hb3.mono (by omega))
 have HH:HeapAt U ⟨g+1,w.heap.size,w.heap.size+1,g⟩ (emptyH n):=by
  refine⟨good_empty h1 h2,hS,⟨1,1,r3,?_,?_⟩,?_,?_⟩
  ·exact r0.sl rfl (show 1≤maxLen by decide)
  ·exact r1.sl rfl (show 1≤maxLen by decide)
  ·show Row U g _ (nums .u32 (List.replicate 64 0))
   rw[nums_replicate];exact hrow
  ·show 5≤g+1∧5≤w.heap.size∧5≤w.heap.size+1∧5≤g
   omega
 refine bodyPost_ret (v:= .tuple #[.pointer (some ⟨g+1,0,none⟩),.int .i64 0]) (by simp[results,Tryz.results107,go_sem]) rfl ?_;rw[show(w1.alloc (Obj.cells #[Value.slice (some ⟨w.heap.size,0,none⟩) 1 1,Value.slice (some ⟨w.heap.size+1,0,none⟩) 1 1,Value.slice (some ⟨g,0,none⟩) 64 64,Value.int IntKind.i64 n,Value.int IntKind.u32 0] 165))=U from HU.out.symm];refine⟨⟨g+1,w.heap.size,w.heap.size+1,g⟩,rfl,HH,hBU,fun x hx=>?_⟩;unfold Foot.l at hx;simp only[List.mem_cons,List.not_mem_nil,or_false]at hx;rcases hx with rfl|rfl|rfl|rfl<;>omega
end Go.Proofs.YtbffpkmfhkphdaaGreatDoor
namespace Go.Proofs.YtbffpkmfhkphdaaGreatDoor
open Go Go.RowKit Limb
def Grew(w w':World)(g:Nat)(e:TypeId)(n:Nat)(v:Value)(ys:List Value):Prop:=
 ∃g' c',v= .slice (some ⟨g',0,none⟩) n c'∧Sl w' g' e n c' ys∧(g'=g∨g'=w.heap.size)∧Only [g] w w'
theorem only_of_grown{w w':World}{g:Nat}(h:w.grownBy w' (some g)):Only [g] w w':=
 ⟨h.os,h.tape,h.output,h.size,fun k hk hn=>h.block k hk (fun e=>hn (by rw[Option.some.inj e];simp))⟩
section
variable {P:Program} {w:World} {t tn ty e:TypeId} {i:TypeInfo} {z:Value} {bytes:Nat}
theorem run_sl_append(ht:P.underlying t=some (.slice e))(hi:P.info? e=some i)(hz:i.zero=some z)(hsize:i.size=1)(hby:i.bytes=bytes)(hzs:z.cells.size=1){g n c:Nat}{xs:List Value}(h:Sl w g e n c xs)(a:Addr)(m cc:Nat)(hn:0<n+m)(news:List Value)(hl:news.length=m)(hnews: ∀j u,news[j]? =some u→w.cell? (a.add j)=some u)(h1: ∀u∈news,u.oneCell'=true)(h63:n+m≤maxLen)(hbytes:(n+m)*bytes≤140737488355328): ∃v' w',(Builtin.append_ #[t,t] ty #[.slice (some ⟨g,0,none⟩) n c,.slice (some a) m cc]).run P w= .ok v' w'∧Grew w w' g e (n+m) v' (xs++news):=by
 obtain⟨v',w',hr,h2,h3,_,h5⟩:=run_append_own_at (P:=P) w 0 t ty e i z 1 bytes ht hi hz hsize hby hzs (by decide) _ n xs h.owns a m cc news (by rw[Nat.mul_one];exact hl) hnews h1 h63 hbytes (Nat.zero_le _);obtain⟨g',c',rfl,hb,hs⟩:=Sl.of_owns h2 (by omega);refine⟨_,w',hr,g',c',rfl,hs,?_,only_of_grown h3⟩;rw[hb]at h5;rcases h5 with h5|h5
 ·exact .inl (Option.some.inj h5)
 ·exact .inr (Option.some.inj h5)
theorem zeroCells_one(z:Value)(k:Nat)(hz:z.cells= #[z]):Builtin.zeroCells z.cells k=(List.replicate k z).toArray:=by
 unfold Builtin.zeroCells;rw[hz];apply Array.ext
 ·simp
 ·intro i h1 h2;simp[Nat.mod_one]
theorem run_sl_zeros(ht:P.underlying t=some (.slice e)){kn:IntKind}(htn:P.underlying tn=some (.int kn))(hi:P.info? e=some i)(hz:i.zero=some z)(hsize:i.size=1)(hby:i.bytes=bytes)(hzc:z.cells= #[z])(hz1:z.oneCell'=true){g n c:Nat}{xs:List Value}(h:Sl w g e n c xs)(kq:IntKind)(k:Nat)(hk:0<k)(h63:n+k≤maxLen)(hbytes:(n+k)*bytes≤140737488355328): ∃v' w',(Builtin.append_ #[t,tn] ty #[.slice (some ⟨g,0,none⟩) n c,.int kq k]).run P w= .ok v' w'∧Grew w w' g e (n+k) v' (xs++List.replicate k z):=by
 obtain⟨cur,h1,h2,h3,h4,h5,h6⟩:=h;have hm:n+k≤9223372036854775807:=by simp only[maxLen]at h63;omega
 have hb1:k*i.bytes≤281474976710656:=by
  rw[hby];have:k*bytes≤(n+k)*bytes:=Nat.mul_le_mul_right _ (by omega);omega
 by_cases hroom:n+k≤c
 ·have hg:w.heap[g]? =some (.cells cur.toArray e (0,0)):=h1;have hst:=run_storeCells_at P g n e (List.replicate k z) 0 cur.toArray w hg (by simp;omega) (by simp;intro _;exact hz1);simp only[Nat.add_zero]at hst;have hw:IntKind.i64.wrap (k:Int)=k:=by rw[IntKind.wrap_i64];omega
  have hneg: ¬((k:Int)<0):=(by omega);have h48i: ¬(281474976710656<(k:Int)*(i.bytes:Int)):=by rw[←Int.natCast_mul];omega
  have hk0:k≠0:=(by omega);have hze:=zeroCells_one z k hzc;refine⟨.slice (some ⟨g,0,none⟩) (n+k) c,w.setRow g (cur.take n++List.replicate k z++cur.drop (n+k)).toArray,?_,g,c,rfl,⟨cur.take n++List.replicate k z++cur.drop (n+k),?_,?_,?_,hroom,h5,?_⟩,.inl rfl,?_⟩
  ·simp[Builtin.append_,run_underlying ht,run_underlying htn,sizeOf,typeInfo,zeroValue,hi,hz,asInt,asIntOf,hw,hk0,hneg,h48i,hroom,hsize,hze,Addr.add_lit,hst]
  ·exact setRow_heap w g cur.toArray _ e _ hg
  ·simp;omega
  ·simp;omega
  ·rw[h6,List.take_append_of_le_length (by simp;omega),List.take_of_length_le (by simp;omega)]
  ·exact⟨rfl,rfl,rfl,by simp,fun j _ hn=>setRow_other w g j _ (fun e=>hn (by rw[e];simp))⟩
 ·have holds: ∀j u,xs[j]? =some u→w.drew.cell? ((⟨g,0,none⟩:Addr).add j)=some u:=by
   intro j u hj
   have hjn:j<n:=by
    have:=(List.getElem?_eq_some_iff.1 hj).1;omega
   have hc:=Sl.cell (w:=w) (e:=e) (c:=c) ⟨cur,h1,h2,h3,h4,h5,h6⟩ hjn;rw[hj]at hc
   have ha:(⟨g,0,none⟩:Addr).add j=⟨g,j,none⟩:=by
    unfold Addr.add;by_cases h0:j=0
    ·subst h0;rfl
    ·simp[h0]
   rw[ha];exact hc
  have hf:=run_firstCells_some (P:=P) w.drew i.size n ⟨g,0,none⟩ n c xs (by rw[hsize,Nat.mul_one];exact h3) holds;have hfit:=growslice_fits (need:=n+k) (old:=c) (bytes:=i.bytes) (by omega) (by rw[hby];exact hbytes);have hr:=Lib.run_append_grow_zeros (P:=P) w t tn ty e i z kq kn ht htn hi hz (some ⟨g,0,none⟩) n c xs hf k hk (by omega) (by omega) (by omega) hb1 hfit;have hge:=grownCap_ge w (n+k) c e;have hcm:grownCap w (n+k) c e≤maxLen:=grownCap_le_maxLen w (n+k) c e h63;refine⟨_,_,hr,w.heap.size,grownCap w (n+k) c e,rfl,⟨xs++List.replicate k z++List.replicate (grownCap w (n+k) c e-(n+k)) z,?_,?_,?_,hge,hcm,?_⟩,.inr rfl,?_⟩
  ·unfold Row;rw[show w.heap.size=w.drew.heap.size from rfl,heap_alloc_new,zeroCells_one z _ hzc,zeroCells_one z _ hzc];simp
  ·simp;omega
  ·simp;omega
  ·rw[List.take_append_of_le_length (by simp;omega),List.take_of_length_le (by simp;omega)]
  ·exact(Only.of_below (ps:=[g]) ((Below.refl _ w).drew.alloc (Nat.le_refl _) _))
end
end Go.Proofs.YtbffpkmfhkphdaaGreatDoor

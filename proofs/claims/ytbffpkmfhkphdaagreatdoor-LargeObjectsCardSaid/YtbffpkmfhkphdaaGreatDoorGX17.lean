/- The walks of the reference's made, Of and Neg. The walk of package oop's Unpack. In a region that draws its order: an operation that yields is taken first, its slot written out. -/
import Derived.Test.YtbffpkmfhkphdaaGreatDoorGX00
import Derived.Test.YtbffpkmfhkphdaaGreatDoorGX16
import Derived.Test.YtbffpkmfhkphdaaGreatDoorGX09
import Derived.Laws.StructEq
set_option linter.unusedVariables false
set_option linter.unusedSimpArgs false
set_option maxRecDepth 1000000
set_option maxHeartbeats 6400000
namespace Go.Proofs.YtbffpkmfhkphdaaGreatDoor
open Go Lib Go.RowKit Limb
theorem ref_made(w:World)(neg:Bool)(a:Option Addr)(l:List Nat)(n cap:Nat)(z:Int)(hlay:Lay .u32 w a l)(hlim:Lim l)(hn:n=l.length)(hm:n≤9223372036854775807)(hc:n≤cap)(hz:val l=z.natAbs)(hs:(neg=true→z≤0)∧(neg=false→0≤z)):Calls Tryz.prog 79 #[.bool neg,.slice a n cap] w fun e w'=> ∃u,e= .returned u∧ApiV w' u z∧Below w.heap.size w w':=by
 obtain⟨W,hWe⟩: ∃W,W=w.alloc (.cells #[.bool false,.slice none 0 0] 24):=⟨_,rfl⟩;have r0:Row W w.heap.size 24 [.bool false,.slice none 0 0]:=by rw[hWe];unfold Row;exact heap_alloc_new _ _
 have hW:Below w.heap.size w W:=by rw[hWe];exact(Below.refl _ _).alloc (Nat.le_refl _) _
 have HWe:=hid hWe;clear hWe;have hlW:=hlay.below hW;have hcut:=ref_cut W a l n cap hlW hlim hn hm hc;have hle:=rep_val_le hlim;rw[←hn]at hle;have hln:=hlW.norm hlim;rw[hz]at hcut hle hln;have k0:=r0.cell_at 0;have k1:=r0.cell_at 1;have k2:=r0.free 0;have k3:=r0.free 1;simp only[yB,yC]at k0 k1;obtain⟨m,hm'⟩: ∃m,m=(rep z.natAbs).length:=⟨_,rfl⟩;rw[←hm']at hcut hle;have hm0:m=0↔z=0:=by rw[hm',rep_length_zero];omega
 have HM0:=hid hm0;clear hm0;have HM:=hid hm';clear hm';have HC:=hid hcut;clear hcut
 have hfin: ∀b:Bool,b=decide (z<0)→ApiV ((W.setCell ⟨w.heap.size,0,none⟩ (.bool b)).setCell ⟨w.heap.size,1,none⟩ (.slice a m cap)) (.agg #[.bool b,.slice a m cap]) z∧Below w.heap.size w ((W.setCell ⟨w.heap.size,0,none⟩ (.bool b)).setCell ⟨w.heap.size,1,none⟩ (.slice a m cap)):=by
  intro b hb;refine⟨⟨a,cap,by rw[hb,HM.out],by rw[←HM.out];omega,hln.pair r0 _ _⟩,below_store (below_store hW (Nat.le_refl _) _) (Nat.le_refl _) _⟩
 have HF:=hid hfin;clear hfin;have he: ∀b:Bool,(W.setCell ⟨w.heap.size,0,none⟩ (.bool b)).cell? ⟨w.heap.size,0,none⟩=some (.bool b)∧((W.setCell ⟨w.heap.size,0,none⟩ (.bool b)).setCell ⟨w.heap.size,1,none⟩ (.slice a m cap)).cell? ⟨w.heap.size,1,none⟩=some (.slice a m cap):=fun b=>⟨(r0.store_any 0 _).cell_at 0,((r0.store_any 0 _).store_any 1 _).cell_at 1⟩
 have HE:=hid he;clear he;have hs1:=hs.1;have hs2:=hs.2;clear hz hn hs hlay hlW hln r0;cases neg with
 |false=>
  have h0:=hs2 rfl;obtain⟨e0,e1⟩:=HE.out false;clear hs1 hs2;go_enter Tryz.func79,Tryz.ntmps79;go_wp2_with fail;rw[←HWe.out];refine HC.out.mono ?_;rintro e w' ⟨rfl,rfl⟩;go_wp2_with fail;(try simp only[Exit.inBlock,Exit.then]);refine bodyPost_ret (v:= .agg #[.bool false,.slice a m cap]) (by simp[results,Tryz.results79,go_sem,e0,e1]) rfl ?_;exact⟨_,rfl,HF.out false (by simp;omega)⟩
 |true=>
  have h0:=hs1 rfl;clear hs1 hs2;by_cases hz:m=0
  ·have hzz:=hid (HM0.out.1 hz);obtain⟨e0,e1⟩:=HE.out false;have d1:decide (0<m)=false:=by rw[decide_eq_false_iff_not];omega
   have HF1:=hid (HF.out false (by rw[hzz.out];rfl));clear hz;go_enter Tryz.func79,Tryz.ntmps79;go_wp2_with fail;rw[←HWe.out];refine HC.out.mono ?_;rintro e w' ⟨rfl,rfl⟩;go_wp2_with fail;(try simp only[Exit.inBlock,Exit.then]);refine bodyPost_ret (v:= .agg #[.bool false,.slice a m cap]) (by simp[results,Tryz.results79,go_sem,e0,e1]) rfl ?_;exact⟨_,rfl,HF1.out⟩
  ·obtain⟨e0,e1⟩:=HE.out true;have d1:decide (0<m)=true:=by rw[decide_eq_true_eq];omega
   have HF1:=hid (HF.out true (by have:=HM0.out;simp;omega));clear hz;go_enter Tryz.func79,Tryz.ntmps79;go_wp2_with fail;rw[←HWe.out];refine HC.out.mono ?_;rintro e w' ⟨rfl,rfl⟩;go_wp2_with fail;(try simp only[Exit.inBlock,Exit.then]);refine bodyPost_ret (v:= .agg #[.bool true,.slice a m cap]) (by simp[results,Tryz.results79,go_sem,e0,e1]) rfl ?_;exact⟨_,rfl,HF1.out⟩
end Go.Proofs.YtbffpkmfhkphdaaGreatDoor
namespace Go.Proofs.YtbffpkmfhkphdaaGreatDoor
open Go Lib Go.RowKit Limb
theorem eq_w3(a b c d e f:Int)(w:World):(Op.equalIn 10000 254 (.agg #[.int .u32 a,.int .u32 b,.int .u32 c]) (.agg #[.int .u32 d,.int .u32 e,.int .u32 f])).run Tryz.prog w= .ok (a==d&&b==e&&c==f) w:=by
 have u3:=Tryz.underlying60;have a3:=Tryz.isAgg60;have z3:=Tryz.sizeOf60;rw[show(10000:Nat)=9999+1 from rfl,Op.equalIn];simp only[Sem.run_bind,run_underlying Tryz.underlying254,Result.andThen_ok];simp only[Std.Legacy.Range.forIn_eq_forIn_range',Std.Legacy.Range.size,Nat.sub_zero,Nat.add_sub_cancel,Nat.div_one,List.range'_succ,List.range'_zero,List.forIn_cons,List.forIn_nil];go_simp;by_cases h1:a=d<;>by_cases h2:b=e<;>by_cases h3:c=f<;>simp[h1,h2,h3]
attribute [local go_sem] eq_w3
theorem unpack_bits{h:Hd}(k:h.Ok):bits .and .u32 (h.w0:Int) 16777215=((h.size:Nat):Int)∧bits .and .u32 ((h.w0:Int)/16777216) 7=((h.fmt:Nat):Int)∧bits .and .u32 ((h.w0:Int)/134217728) 3=((h.spare:Nat):Int):=by
 have h0:=Hd.w0_lt k;have h1:=k.size;have h3:=k.f4;have h4:=k.spare;have e:h.w0=h.size+h.fmt*16777216+h.spare*134217728:=rfl;have d1:(h.w0:Int)/16777216=((h.w0/16777216:Nat):Int):=by omega
 have d2:(h.w0:Int)/134217728=((h.w0/134217728:Nat):Int):=by omega
 rw[d1,d2,show(16777215:Int)=((16777215:Nat):Int)from rfl,show(7:Int)=((7:Nat):Int)from rfl,show(3:Int)=((3:Nat):Int)from rfl,u32_and_nat _ _ (by omega) (by decide),u32_and_nat _ _ (by omega) (by decide),u32_and_nat _ _ (by omega) (by decide),nat_mask24,nat_mask3,nat_mask2];refine⟨?_,?_,?_⟩<;>congr 1<;>omega
theorem oop_unpack(w:World)(h:Hd)(k:h.Ok)(hs:Spares w):Calls Tryz.prog 276 #[w3V h.w0 h.cls h.ser] w fun e w'=>e= .returned (.tuple #[hdV h,.int .i64 0])∧Below w.heap.size w w':=by
 obtain⟨w0,hw0⟩: ∃x,x=h.w0:=⟨_,rfl⟩;rw[←hw0];obtain⟨W,hW,r1,hb1,hz1⟩:=alloc_row w 254 [.int .u32 w0,.int .u32 h.cls,.int .u32 h.ser];obtain⟨V,hV,r2,hb2,hz2⟩:=alloc_row W 159 [.int .i64 0,.int .i64 0,.int .i64 0,.int .u32 0,.int .u32 0];rw[hz1]at r2;obtain⟨U,hU,r3,hb3,hz3⟩:=alloc_row V 159 [.int .i64 h.size,.int .i64 h.fmt,.int .i64 h.spare,.int .u32 h.cls,.int .u32 h.ser];rw[hz2,hz1]at r3;have hB:Below w.heap.size w U:=hb1.trans ((hb2.mono (by omega)).trans (hb3.mono (by omega)));replace r1:=(r1.below hb2 r1.lt);obtain⟨p0,p1,p2⟩:=r1.cells3;replace r1:=(r1.below hb3 r1.lt);replace r2:=r2.below hb3 r2.lt;have HV:=hid (show V=(w.alloc (.cells #[.int .u32 w0,.int .u32 h.cls,.int .u32 h.ser] 254)).alloc (.cells #[.int .i64 0,.int .i64 0,.int .i64 0,.int .u32 0,.int .u32 0] 159) by rw[hV,hW]);have HU:=hid hU;have hz4:V.heap.size=w.heap.size+1+1:=by omega
 obtain⟨e1,e2,e3⟩:=unpack_bits k;rw[←hw0]at e1 e2 e3;have h1:=k.size;have h3:=k.f4;have h4:=k.spare;have h5:5≤w.heap.size:=hs.1;have HM:=hid (fun X (hx:Below w.heap.size w X)=>oop_may X h k (hs.below hx h5));have HP:=hid (fun X=>oop_pack0 X h k);have HH:=hid (show hdV h= .agg #[.int .i64 h.size,.int .i64 h.fmt,.int .i64 h.spare,.int .u32 h.cls,.int .u32 h.ser]from rfl);rw[HH.out]at HM HP ⊢;rw[←hw0]at HP;unfold w3V at HP;generalize h.size=sz at*
 generalize h.fmt=f at*
 generalize h.spare=sp at*
 generalize h.cls=c at*
 generalize h.ser=s at*
 clear hV hW hU hz1 hz2 hz3 hb1 hb2 hb3 hs hw0 HH;unfold w3V;go_enter Tryz.func276,Tryz.ntmps276;go_wp2_with fail;rw[←HV.out];go_wp2_with fail;rw[←HU.out];clear e1 e2 e3 hz4 p0 p1 p2;have hk:=fun X (h:Below U.heap.size U X)=>show(X.cell? ⟨w.heap.size,0,none⟩=some (.int .u32 w0)∧X.cell? ⟨w.heap.size,1,none⟩=some (.int .u32 c)∧X.cell? ⟨w.heap.size,2,none⟩=some (.int .u32 s))∧(X.cell? ⟨w.heap.size+1+1,0,none⟩=some (.int .i64 sz)∧X.cell? ⟨w.heap.size+1+1,1,none⟩=some (.int .i64 f)∧X.cell? ⟨w.heap.size+1+1,2,none⟩=some (.int .i64 sp)∧X.cell? ⟨w.heap.size+1+1,3,none⟩=some (.int .u32 c)∧X.cell? ⟨w.heap.size+1+1,4,none⟩=some (.int .u32 s))from⟨(r1.below h r1.lt).cells3,(r3.below h r3.lt).cells5⟩
 have HK:=hid hk;clear hk;have HMU:=hid (since fun X (h:Below U.heap.size U X)=>HM.out X (hB.trans (h.mono hB.size)));have HPU:=hid (since fun X (_:Below U.heap.size U X)=>HP.out X);have h:=Below.refl U.heap.size U
 go_region_held3 (fun X=>((X.cell? ⟨w.heap.size,0,none⟩=some (.int .u32 w0)∧X.cell? ⟨w.heap.size,1,none⟩=some (.int .u32 c)∧X.cell? ⟨w.heap.size,2,none⟩=some (.int .u32 s))∧(X.cell? ⟨w.heap.size+1+1,0,none⟩=some (.int .i64 sz)∧X.cell? ⟨w.heap.size+1+1,1,none⟩=some (.int .i64 f)∧X.cell? ⟨w.heap.size+1+1,2,none⟩=some (.int .i64 sp)∧X.cell? ⟨w.heap.size+1+1,3,none⟩=some (.int .u32 c)∧X.cell? ⟨w.heap.size+1+1,4,none⟩=some (.int .u32 s))))
  (first |(apply HK.out;(repeat(first |exact h|apply Below.drew))))
  (first
   |(go_at_call 273;apply Calls.mono;apply HMU.out;(repeat(first |exact h|apply Below.drew));clear h;rintro e w' ⟨rfl,h⟩)
   |(go_at_call 274;apply Calls.mono;apply HPU.out;(repeat(first |exact h|apply Below.drew));clear h;rintro e w' ⟨rfl,h⟩))
 replace r2:=r2.below h r2.lt;replace r3:=r3.below h r3.lt;replace hB:=hB.trans (h.mono hB.size);obtain⟨p0,p1,p2,p3,p4⟩:=r3.cells5;obtain⟨q0,q1,q2,q3,q4⟩:=r2.cells5;have z0:=r2.free 0;have z1:=r2.free 1;have z2:=r2.free 2;have z3:=r2.free 3;have z4:=r2.free 4;have rr:=((((r2.store_any 0 (.int .i64 sz)).store_any 1 (.int .i64 f)).store_any 2 (.int .i64 sp)).store_any 3 (.int .u32 c)).store_any 4 (.int .u32 s);obtain⟨f0,f1,f2,f3,f4⟩:=Row.cells5 rr;clear h r1 HK HMU HPU HM HP HU HV h1 h3 h4 rr;go_wp2_with fail;refine bodyPost_ret (v:= .tuple #[.agg #[.int .i64 sz,.int .i64 f,.int .i64 sp,.int .u32 c,.int .u32 s],.int .i64 0]) (by simp[results,Tryz.results276,go_sem,f0,f1,f2,f3,f4]) rfl ⟨rfl,?_⟩;exact below_store (below_store (below_store (below_store (below_store hB (by omega) _) (by omega) _) (by omega) _) (by omega) _) (by omega) _
end Go.Proofs.YtbffpkmfhkphdaaGreatDoor
namespace Go.Proofs.YtbffpkmfhkphdaaGreatDoor
open Go Go.RowKit
theorem wpAnyH_take_at{P:Program}{md:Region.Mode}{ops:Array Oper}{Q:Exit→Act→World→Prop}{S:World→Prop}{i:Nat}{oi:Oper}{v:Value}{fuel:Nat}{listed:Array Bool}{a:Act}{w:World}(d:Tmp)(hi:ops[i]? =some oi)(hd:oi.dst=some d)
  (hs:Region.noSelect ops=true) (hf:Region.free md ops listed i=true) (hr:(Region.ready md ops listed).contains i=true)
  (hQ: ∀c a w,Q (.panic c) (a.put oi.dst v) w→Q (.panic c) a w) (hy:YieldsIf P ops S oi v a) (hS:S w)
  (h:wpAnyH P md ops Q S fuel (listed.setIfInBounds i true) (a.put (some d) v) w):wpAnyH P md ops Q S (fuel+1) listed a w:=
 wpAnyH_take hi hs hf hr hQ hy hS (by rw[hd];exact h)
theorem tk{P:Program}{md:Region.Mode}{ops:Array Oper}{Q:Exit→Act→World→Prop}{S:World→Prop}{fuel:Nat}{listed:Array Bool}{a:Act}{w:World}(i:Nat)(v:Value)(d:Tmp){oi:Oper}(hS:S w)
  (h:wpAnyH P md ops Q S fuel (listed.setIfInBounds i true) (a.put (some d) v) w)
  (hi:ops[i]? =some oi:=by rfl) (hd:oi.dst=some d:=by rfl)
  (hs:Region.noSelect ops=true:=by kernel_rfl) (hf:Region.free md ops listed i=true:=by kernel_rfl) (hr:(Region.ready md ops listed).contains i=true:=by kernel_rfl)
  (hQ: ∀c a w,Q (.panic c) (a.put oi.dst v) w→Q (.panic c) a w:=by exact fun _ _ _ h=>h) (hw:Region.wanted oi (yielded ops a.tmps)=true:=by rfl)
  (y: ∀w,S w→(execOp a.eval oi).run P w= .ok (.value v) w:=by intro X hX;go_simp):wpAnyH P md ops Q S (fuel+1) listed a w:=
 wpAnyH_take hi hs hf hr hQ (.inl ⟨hw,y⟩) hS (by rw[hd];exact h)
end Go.Proofs.YtbffpkmfhkphdaaGreatDoor

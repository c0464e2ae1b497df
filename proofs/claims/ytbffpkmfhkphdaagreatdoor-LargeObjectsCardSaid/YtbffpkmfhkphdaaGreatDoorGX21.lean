/- The walks of slices.Index, slices.Contains at formats, and of package heap: look, Get, Word. The walk of package heap's look. The variable oop.spares, out of a row's condition. The closed facts of the row of LargeObjects. -/
import Derived.Test.YtbffpkmfhkphdaaGreatDoorGX20
import Derived.Test.YtbffpkmfhkphdaaGreatDoorGX09
import Derived.Lib.LaidTab
import Derived.Test.YtbffpkmfhkphdaaGreatDoorTie
import Derived.Test.YtbffpkmfhkphdaaGreatDoorCards
set_option linter.unusedVariables false
set_option linter.unusedSimpArgs false
set_option maxRecDepth 1000000
set_option maxHeartbeats 100000000
namespace Go.Proofs.YtbffpkmfhkphdaaGreatDoor
open Go Lib Go.RowKit Limb
theorem Row.sl{w:World}{g n:Nat}{e:TypeId}{xs:List Value}(h:Row w g e xs)(hn:n=xs.length)(hm:n≤maxLen):Sl w g e n n xs:=
 ⟨xs,h,hn.symm,hn.symm,Nat.le_refl _,hm,List.take_of_length_le (by omega)⟩
theorem size_fmt(W:World):(sizeOf 75).run Tryz.prog W= .ok 1 W:=by kernel_rfl
theorem fmt_index(w:World)(g:Nat)(l:List Nat)(f n:Nat)(hr:Row w g 75 (nums .i64 l))(hn:n=l.length)(hm:n≤1000):Calls Tryz.prog 275 #[.slice (some ⟨g,0,none⟩) n n,.int .i64 f] w fun e w'=>(∃z:Int,e= .returned (.int .i64 z)∧(0≤z↔f∈l))∧w=w':=by
 have sl:Sl w g 75 n n (nums .i64 l):=hr.sl (by rw[nums_length];exact hn) (Nat.le_trans hm (by decide));have Hn:=hid hn;clear hn;go_enter Tryz.func275,Tryz.ntmps275;go_wp2_with fail;go_loop[8] (fun s=> ∃k:Nat,k≤n∧s= .int .i64 k∧∀j,j<k→wd l j≠f) (fun s=>n-(intOf s).toNat);case atStart=>exact⟨0,Nat.zero_le _,rfl,fun j hj=>absurd hj (by omega)⟩
 case round=>
  obtain⟨k,hk,rfl,hx⟩:=hrel;by_cases h0:k<n
  ·have d1:decide ((k:Int)<(n:Int))=true:=decide_eq_true (by omega);have d2:decide (k<n)=true:=decide_eq_true h0;have ix:=fun W=>sl.index 259 Tryz.underlying259 size_fmt W .i64 k h0
   have cx:=sl.cell h0;rw[nums_get (by rw[←Hn.out];exact h0)]at cx;by_cases he:wd l k=f
   ·have hmem:f∈l:=(by rw[←he,wd_lt (by rw[←Hn.out];exact h0)];exact List.getElem_mem _);rw[he]at cx;clear he hx sl hr Hn d1;have HM:=hid hmem;clear hmem;go_wp2_with fail;go_ret;exact⟨⟨k,rfl,fun _=>HM.out,fun _=>by omega⟩,rfl⟩
   ·have q1:((f:Int)==(wd l k:Nat))=false:=(by rw[beq_eq_false_iff_ne];omega);have q2:(f==wd l k)=false:=by rw[beq_eq_false_iff_ne];omega
    have HX:=hid (show∀j,j<k+1→wd l j≠f from fun j hj=>by
     by_cases e:j=k
     ·rw[e];exact he
     ·exact hx j (by omega))
    generalize wd l k=u at*
    clear he hx sl hr Hn;go_wp2_with fail;go_round;case rel=>exact⟨k+1,h0,by simp,HX.out⟩
    case measure=>simp[intOf];omega
  ·have d1:decide ((k:Int)<(n:Int))=false:=decide_eq_false (by omega);have d2:decide (k<n)=false:=decide_eq_false h0
   have HN:=hid (show¬f∈l from fun hm=>by
    obtain⟨j,hj,e⟩:=List.getElem_of_mem hm;exact hx j (by have:=Hn.out;omega) (by rw[wd_lt hj];exact e))
   clear hx sl hr Hn hk h0;go_wp2_with fail;go_ret;exact⟨⟨-1,rfl,fun h=>absurd h (by decide),fun h=>absurd h HN.out⟩,rfl⟩
theorem fmt_contains(w:World)(g:Nat)(l:List Nat)(f n:Nat)(hr:Row w g 75 (nums .i64 l))(hn:n=l.length)(hm:n≤1000):Calls Tryz.prog 213 #[.slice (some ⟨g,0,none⟩) n n,.int .i64 f] w fun e w'=>e= .returned (.bool (l.contains f))∧w=w':=by
 have HI:=hid (fmt_index w g l f n hr hn hm);clear hr hn hm;go_enter Tryz.func213,Tryz.ntmps213;go_wp2_with fail;refine(HI.out).mono ?_;rintro e w1 ⟨⟨z,rfl,hz⟩,rfl⟩;(try dsimp only)
 have e:l.contains f=decide (0≤z):=by
  rw[List.contains_eq_mem];exact decide_eq_decide.2 hz.symm
 have HE:=hid e;clear hz e HI;go_wp2_with fail;go_ret;exact⟨by rw[HE.out];rfl,rfl⟩
end Go.Proofs.YtbffpkmfhkphdaaGreatDoor
namespace Go.Proofs.YtbffpkmfhkphdaaGreatDoor
open Go Lib Go.RowKit Limb
def lookE(h:Hp)(o:Nat)(i:Int)(l:List Nat):Nat:=if isO h o=true then(if l.contains (hdO h o).fmt=true then(if 0≤i∧i<(hdO h o).len then 0 else 1)else 21)else 3
def lookA(h:Hp)(o:Nat)(i:Int)(l:List Nat):Nat:=if lookE h o i l=0 then o/2+3 else 0
theorem lookE_zero{h:Hp}{o:Nat}{i:Int}{l:List Nat}:lookE h o i l=0↔isO h o=true∧l.contains (hdO h o).fmt=true∧0≤i∧i<(hdO h o).len:=by
 unfold lookE;by_cases h1:isO h o=true
 ·rw[if_pos h1];by_cases h2:l.contains (hdO h o).fmt=true
  ·rw[if_pos h2];by_cases h3:0≤i∧i<(hdO h o).len
   ·rw[if_pos h3];exact⟨fun _=>⟨h1,h2,h3⟩,fun _=>rfl⟩
   ·rw[if_neg h3];exact⟨fun e=>by omega,fun e=>absurd e.2.2 h3⟩
  ·rw[if_neg h2];exact⟨fun e=>by omega,fun e=>absurd e.2.1 h2⟩
 ·rw[if_neg h1];exact⟨fun e=>by omega,fun e=>absurd e.1 h1⟩
section
variable {w:World} {F:Foot} {h:Hp}
theorem heap_look(H:HeapAt w F h)(o:Nat)(ho:o<4294967296)(i:Int)(g:Nat)(l:List Nat)(m:Nat)(hr:Row w g 75 (nums .i64 l))(hm:m=l.length)(hm2:m≤1000):Calls Tryz.prog 126 #[.pointer (some ⟨F.p,0,none⟩),.int .u32 o,.int .i64 i,.slice (some ⟨g,0,none⟩) m m] w fun e w'=>e= .returned (.tuple #[.int .i64 (lookA h o i l),.int .i64 (lookE h o i l)])∧Below w.heap.size w w':=by
 have HD:=hid (heap_Header H o ho);by_cases hi:isO h o=true
 ·have e1:hdX h o=hdO h o:=(by unfold hdX;rw[if_pos hi]);have e2:erX h o=0:=by unfold erX;rw[if_pos hi]
  have hd:=HD.out;rw[e1,e2]at hd;have hok:(hdO h o).Ok:=(H.good.ok _ (isO_iff.1 hi).2.2).1;have HLn:=hid (fun X=>heap_length (hdO h o) (.inl hok) X);have HC:=hid (fun X (hx:Below w.heap.size w X)=>fmt_contains X g l (hdO h o).fmt m (hr.below hx hr.lt) hm hm2);have HA:=hid (fun X=>heap_at o ho X (.pointer (some ⟨F.p,0,none⟩)));have ha:=HA.out;rw[idxN_of hi]at ha;have HA:=hid ha;have ex:hdV (hdO h o)= .agg #[.int .i64 (hdO h o).size,.int .i64 (hdO h o).fmt,.int .i64 (hdO h o).spare,.int .u32 (hdO h o).cls,.int .u32 (hdO h o).ser]:=rfl;rw[ex]at hd HLn;have HD:=hid hd;have elA:lookA h o i l=if lookE h o i l=0 then o/2+3 else 0:=rfl
  have elE:lookE h o i l=if l.contains (hdO h o).fmt=true then(if 0≤i∧i<(hdO h o).len then 0 else 1)else 21:=(by unfold lookE;rw[if_pos hi]);have hsm:o/2≤1048576:=by have:=begins_lt (isO_iff.1 hi).2.2;have:=H.good.len;have:=H.small;omega
  have hll:(hdO h o).len≤262140:=by have:=hok.size;unfold Hd.len;split<;>omega
  have HN:=hid (show lookA h o i l=(if l.contains (hdO h o).fmt=true then(if 0≤i∧i<(hdO h o).len then o/2+3 else 0)else 0)from by
   rw[elA,elE];by_cases c1:l.contains (hdO h o).fmt=true
   ·rw[if_pos c1,if_pos c1];by_cases c2:0≤i∧i<(hdO h o).len
    ·rw[if_pos c2,if_pos c2];rfl
    ·rw[if_neg c2,if_neg c2];rfl
   ·rw[if_neg c1,if_neg c1];rfl)
  obtain⟨rA,hrA⟩: ∃x,x=lookA h o i l:=⟨_,rfl⟩;obtain⟨rE,hrE⟩: ∃x,x=lookE h o i l:=⟨_,rfl⟩;rw[←hrA,←hrE];rw[HN.out]at hrA;rw[elE]at hrE;clear HN elA elE;generalize hdO h o=x at*
  generalize o/2=at0 at*
  generalize x.len=ln at*
  generalize x.size=x0 at*
  generalize x.fmt=x1 at*
  generalize x.spare=x2 at*
  generalize x.cls=x3 at*
  generalize x.ser=x4 at*
  generalize l.contains x1=cc at*
  clear hd ha e1 e2 ex hok hi H hr hm hm2;have HRA:=hid hrA;have HRE:=hid hrE;clear hrA hrE;go_enter Tryz.func126,Tryz.ntmps126;go_wp2_with fail;refine(HD.out).mono ?_;rintro e V ⟨rfl,hB⟩;(try dsimp only);obtain⟨W,hW,r0,hb,hz⟩:=alloc_row V 159 [.int .i64 x0,.int .i64 x1,.int .i64 x2,.int .u32 x3,.int .u32 x4];have HW:=hid hW;clear hW hz;replace hB:=hB.trans (hb.mono hB.size);clear hb;obtain⟨p0,p1,p2,p3,p4⟩:=r0.cells5;go_wp2_with fail;rw[←HW.out];refine(HC.out W hB).mono ?_;rintro e W1 ⟨rfl,rfl⟩;(try dsimp only);cases cc with
  |false=>
   obtain rfl:rA=0:=HRA.out;obtain rfl:rE=21:=HRE.out;clear HRA HRE HLn HC HA HD HW r0 p0 p1 p2 p3 p4;go_wp2_with fail;go_ret2;exact⟨rfl,hB⟩
  |true=>
   by_cases i0:i<0
   ·have d1:decide (i<0)=true:=decide_eq_true i0;obtain rfl:rA=0:=by rw[HRA.out,if_pos rfl,if_neg (by omega)]
    obtain rfl:rE=1:=by rw[HRE.out,if_pos rfl,if_neg (by omega)]
    clear HRA HRE HLn HC HA HD HW r0 p0 p1 p2 p3 p4 i0;go_wp2_with fail;go_ret2;exact⟨rfl,hB⟩
   ·have d1:decide (i<0)=false:=decide_eq_false i0;go_wp2_with fail;refine(HLn.out W).mono ?_;rintro e W2 ⟨rfl,hb⟩;(try dsimp only);replace r0:=r0.below hb r0.lt;replace hB:=hB.trans (hb.mono hB.size);clear hb;by_cases i1:(ln:Int)≤i
    ·have d2:decide ((ln:Int)≤i)=true:=decide_eq_true i1;obtain rfl:rA=0:=by rw[HRA.out,if_pos trivial,if_neg (by omega)]
     obtain rfl:rE=1:=by rw[HRE.out,if_pos trivial,if_neg (by omega)]
     clear HRA HRE HLn HC HA HD HW r0 p0 p1 p2 p3 p4 i0 i1;go_wp2_with fail;go_ret2;exact⟨rfl,hB⟩
    ·have d2:decide ((ln:Int)≤i)=false:=decide_eq_false i1;obtain rfl:rA=at0+3:=by rw[HRA.out,if_pos trivial,if_pos (by omega)]
     obtain rfl:rE=0:=by rw[HRE.out,if_pos trivial,if_pos (by omega)]
     clear HRA HRE HLn HC HD HW r0 p0 p1 p2 p3 p4 i0 i1;go_wp2_with fail;refine(HA.out W2).mono ?_;rintro e W3 ⟨rfl,rfl⟩;(try dsimp only);go_wp2_with fail;go_ret2;exact⟨rfl,hB⟩
 ·have e2:erX h o=3:=(by unfold erX;rw[if_neg hi]);have e1:hdX h o=hdZ:=by unfold hdX;rw[if_neg hi]
  have e3:lookE h o i l=3:=(by unfold lookE;rw[if_neg hi]);have e4:lookA h o i l=0:=by unfold lookA;rw[e3];rfl
  have hd:=HD.out;rw[e1,e2,show hdV hdZ= .agg #[.int .i64 0,.int .i64 0,.int .i64 0,.int .u32 0,.int .u32 0]from rfl]at hd;have HD:=hid hd;rw[e3,e4];clear hd e1 e2 e3 e4 hi H hr hm;go_enter Tryz.func126,Tryz.ntmps126;go_wp2_with fail;refine(HD.out).mono ?_;rintro e V ⟨rfl,hB⟩;(try dsimp only);have hE:=hB.alloc hB.size (.cells #[.int .i64 0,.int .i64 0,.int .i64 0,.int .u32 0,.int .u32 0] 159);go_wp2_with fail;go_ret2;exact⟨rfl,hE⟩
end
end Go.Proofs.YtbffpkmfhkphdaaGreatDoor
namespace Go.Proofs.YtbffpkmfhkphdaaGreatDoor
open Go Go.ChangeShapes Go.WideShapes Go.ChangeAt Go.RowKit Limb
theorem cells_of_bools{H:Type}{enc:TypeId×Value→H}{P:Program}{w:World}{base:Nat}{sp:Nat→Bool}{held:Bool}{fuel:Nat}{t e:TypeId}{n:Nat}{cs:List Value}{zs:List Bool}{p:List MemPlace}(ht:P.underlying t=some (.array n e))(he:P.underlying e=some .bool)(hce:P.cellsOf e=1)(hct:P.cellsOf t=n)(h:DataW.trod enc P w base sp held fuel t cs=some (.agg (zs.map fun z=> .lit (.bool z)),p)):cs=zs.map fun z=>Value.bool z:=by
 cases fuel with
 |zero=>simp[DataW.trod]at h
 |succ fuel=>
  simp only[DataW.trod,ht,hce,hct,Nat.mul_one]at h;split at h
  ·rename_i hl;obtain⟨xs,hm,hx⟩:=Option.map_eq_some_iff.1 h
   have hxs:xs.map (·.1)=zs.map fun z=>(DataW.lit (.bool z):DataW H):=by
    have:=congrArg Prod.fst hx;simpa using this
   have hxl:xs.length=n:=by simpa using Lib.mapM_length hm
   have hzl:zs.length=n:=by
    have:=congrArg List.length hxs;simp at this;omega
   apply List.ext_getElem?;intro i;by_cases hi:i<n
   ·obtain⟨b,hb,hf⟩:=Lib.mapM_at hm i i (by simp[hi]);obtain⟨z,hc,rfl⟩:=DataW.trod_bool he hf
    have h1:cs[i]? =some (.bool z):=by
     have:=congrArg (·[0]?) hc;simpa[List.getElem?_take,List.getElem?_drop]using this
    have h2:(xs.map (·.1))[i]? =some (DataW.lit (.bool z):DataW H):=(by simp[hb]);rw[hxs]at h2;simp only[List.getElem?_map,Option.map_eq_some_iff,DataW.lit.injEq,Lit.bool.injEq]at h2;obtain⟨z',hz',rfl⟩:=h2;simp[h1,hz']
   ·rw[List.getElem?_eq_none (by omega),List.getElem?_eq_none (by simp;omega)]
  ·cases h
theorem g_spares:Tryz.prog.globalNamed "effigy/oop.spares" =some 2:=by kernel_rfl
theorem t_spares:(Tryz.prog.globals[2]?).map (·.type)=some 329:=by kernel_rfl
theorem g_four:Tryz.prog.globalNamed "unicode/utf8.acceptRanges" =some 4:=by kernel_rfl
theorem spares_of{W:World}(hX:laidMetH Tryz.prog Rows.largeObjectsRow.laid W):Spares W:=by
 rw[MakeChecks.laidMetH_plain _ _ _ (by kernel_rfl)]at hX;obtain⟨ps,hv,-,-⟩:=hX;have hv:DataW.LaidVars Tryz.prog W [("unicode/utf8.acceptRanges",Rows.laid_unicode_utf8_acceptRanges),("effigy/oop.spares",Rows.laid_effigy_oop_spares),("unicode.CaseRanges",Rows.laid_unicode_CaseRanges),("unicode/utf8.first",Rows.laid_unicode_utf8_first)] ps:=hv;obtain⟨g0,t0,cs0,f0,p0,q0,a0,b0,v0,d0,⟨g1,t1,cs1,f1,p1,q1,a1,b1,v1,d1,⟨g2,t2,cs2,f2,p2,q2,a2,b2,v2,d2,⟨g3,t3,cs3,f3,p3,q3,a3,b3,v3,d3,-⟩,-⟩,-⟩,-⟩:=hv;obtain rfl:=Option.some.inj (g_spares.symm.trans a1);obtain rfl:=Option.some.inj (t_spares.symm.trans b1);have hcs:=cells_of_bools (zs:=[false,false,true,false,false]) Tryz.underlying329 Tryz.underlying4 (by kernel_rfl) (by kernel_rfl) d1
 have h4:4<W.heap.size:=by
  have hg:=g_four;have hvv:W.var? Tryz.prog "unicode/utf8.acceptRanges" =some cs0:=v0;unfold World.var? at hvv;rw[hg,Option.bind_some]at hvv
  cases e:W.heap[4]? with
  |none=>rw[e]at hvv;cases hvv
  |some x=>exact(Array.getElem?_eq_some_iff.1 e).1
 refine⟨h4,fun i hi=>?_⟩;rw[World.var?_cell g_spares v1 i,←Array.getElem?_toList,hcs];have:i=0∨i=1∨i=2∨i=3∨i=4:=by omega
 rcases this with rfl|rfl|rfl|rfl|rfl<;>rfl
end Go.Proofs.YtbffpkmfhkphdaaGreatDoor
namespace Go.Proofs.YtbffpkmfhkphdaaGreatDoor
open Go Go.ChangeShapes Go.WideShapes Go.ChangeAt Go.RowKit Limb
theorem and_tt{a b:Bool}(h1:a=true)(h2:b=true):(a&&b)=true:=by rw[h1,h2];rfl
theorem objects_closed:joinedFacts Tryz.prog 7 Tryz.f7 Rows.largeObjectsSpec Rows.largeObjectsRow=true:=by
 unfold joinedFacts;repeat' (with_reducible apply and_tt)
 all_goals(as_aux_lemma=>kernel_rfl)
end Go.Proofs.YtbffpkmfhkphdaaGreatDoor

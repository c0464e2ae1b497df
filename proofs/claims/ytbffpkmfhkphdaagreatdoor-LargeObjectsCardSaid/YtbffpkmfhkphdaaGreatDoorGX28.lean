/- The walks of the document's heap: Length, place, Get, Word, Put, SetWord, SetClass. The walk of package heap's Bytes. -/
import Derived.Test.YtbffpkmfhkphdaaGreatDoorGX27
import Derived.Test.YtbffpkmfhkphdaaGreatDoorGX00
set_option linter.unusedVariables false
set_option linter.unusedSimpArgs false
set_option maxRecDepth 1000000
set_option maxHeartbeats 6400000
namespace Go.Proofs.YtbffpkmfhkphdaaGreatDoor
open Go Lib Go.RowKit Limb
section
variable {w:World} {G:RFoot} {h:Hp}
theorem hdV_ex(x:Hd):hdV x= .agg #[.int .i64 x.size,.int .i64 x.fmt,.int .i64 x.spare,.int .u32 x.cls,.int .u32 x.ser]:=rfl
theorem okO(k:Limb.Good h){o:Nat}(ho:isO h o=true):(hdO h o).Ok:=(k.ok _ (isO_iff.1 ho).2.2).1
theorem field_hdr(V:World)(a b c d e:Value):(Instr.field 159 (.agg #[a,b,c,d,e]) 0).run Tryz.prog V= .ok a V∧(Instr.field 159 (.agg #[a,b,c,d,e]) 1).run Tryz.prog V= .ok b V∧(Instr.field 159 (.agg #[a,b,c,d,e]) 3).run Tryz.prog V= .ok d V:=
 ⟨by kernel_rfl,by kernel_rfl,by kernel_rfl⟩
theorem r_len(H:RefAt w G h)(o:Nat)(ho:isO h o=true):Calls Tryz.prog 216 #[.pointer (some ⟨G.p,0,none⟩),.int .u32 o] w fun e w'=>e= .returned (.int .i64 (hdO h o).len)∧Below w.heap.size w w':=by
 have hd:=r_header H o ho;have k:=okO H.good ho;have k1:=k.size;have k2:=k.spare;have k3:=k.sp;rw[hdV_ex]at hd;generalize hdO h o=x at*
 have HH:=hid hd;by_cases h2:x.fmt=2
 ·have e:x.len=4*x.size-x.spare:=(by unfold Hd.len;rw[if_pos h2]);rw[e];rw[h2]at HH;have es:4*(x.size:Int)-(x.spare:Int)=((4*x.size-x.spare:Nat):Int):=by omega
  generalize x.size=sz at*
  generalize x.spare=sp at*
  clear hd k H ho e h2 k3;go_enter Tryz.func216,Tryz.ntmps216;go_wp2_with fail;refine(HH.out).mono ?_;rintro e V ⟨rfl,hB⟩;(try dsimp only);have hE:=hB.alloc hB.size (.cells #[.int .i64 sz,.int .i64 (2:Nat),.int .i64 sp,.int .u32 x.cls,.int .u32 x.ser] 159);go_wp2_with fail;go_ret;exact⟨rfl,hE⟩
 ·have e:x.len=x.size:=(by unfold Hd.len;rw[if_neg h2]);rw[e];have q:((x.fmt:Int)==2)=false:=by rw[beq_eq_false_iff_ne];omega
  have q2:(x.fmt==2)=false:=(by rw[beq_eq_false_iff_ne];exact h2);generalize x.size=sz at*
  generalize x.spare=sp at*
  generalize x.fmt=fm at*
  clear hd k H ho e h2 k3;go_enter Tryz.func216,Tryz.ntmps216;go_wp2_with fail;refine(HH.out).mono ?_;rintro e V ⟨rfl,hB⟩;(try dsimp only);have hE:=hB.alloc hB.size (.cells #[.int .i64 sz,.int .i64 fm,.int .i64 sp,.int .u32 x.cls,.int .u32 x.ser] 159);go_wp2_with fail;go_ret;exact⟨rfl,hE⟩
theorem r_place(H:RefAt w G h)(o f i:Nat)(ho:isO h o=true)(hf:(hdO h o).fmt=f)(hi:i<(hdO h o).len):Calls Tryz.prog 127 #[.pointer (some ⟨G.p,0,none⟩),.int .u32 o,.int .i64 f,.int .i64 i] w fun e w'=>e= .returned (.tuple #[.int .i64 (o/2+3+(if f=2 then i/4 else i):Nat),.int .i64 0])∧Below w.heap.size w w':=by
 have olt:=isO_lt H.good ho;have k:=okO H.good ho;have k1:=k.size;have k4:=k.f4
 have hi2:i≤300000:=by
  have:(hdO h o).len≤4*(hdO h o).size:=(by unfold Hd.len;split<;>omega);omega
 have hI:=r_is H o olt;rw[ho]at hI;have hHd:=fun X (hb:Below w.heap.size w X)=>r_header (H.below hb) o ho
 have hLn:=fun X (hb:Below w.heap.size w X)=>r_len (H.below hb) o ho
 have e2:(o:Int)/2=((o/2:Nat):Int):=by omega
 generalize hdO h o=x at*
 simp only[hdV_ex]at hHd;rw[hf]at hHd k4;generalize x.len=ln at*
 have d1:decide ((i:Int)<0)=false:=decide_eq_false (by omega);have d2:decide ((ln:Int)≤(i:Int))=false:=decide_eq_false (by omega);have d2':decide (ln≤i)=false:=decide_eq_false (by omega);have HI:=hid hI;have HHd:=hid hHd;have HLn:=hid hLn;have o2lt:o/2≤2147483648:=by omega
 generalize o/2=o2 at*
 clear hI hHd hLn k H ho hf k1 hi;by_cases hf2:f=2
 ·subst hf2;rw[if_pos rfl];have e4:(i:Int)/4=((i/4:Nat):Int):=by omega
  have hi4:i/4≤300000:=(by omega);generalize i/4=i4 at*
  have fd:=fun V=>(field_hdr V (.int .i64 x.size) (.int .i64 2) (.int .i64 x.spare) (.int .u32 x.cls) (.int .u32 x.ser)).2.1
  go_enter Tryz.func127,Tryz.ntmps127;go_wp2_with fail;refine(HI.out).mono ?_;rintro e w1 ⟨rfl,rfl⟩;(try dsimp only);go_wp2_with fail;refine(HHd.out _ (Below.refl _ _)).mono ?_;rintro e V ⟨rfl,hB⟩;(try dsimp only);go_wp2_with fail;refine(HLn.out _ hB).mono ?_;rintro e V2 ⟨rfl,hb⟩;(try dsimp only);replace hB:=hB.trans (hb.mono hB.size);clear hb;go_wp2_with fail;go_ret2;exact⟨rfl,hB⟩
 ·rw[if_neg hf2];have q:((f:Int)==2)=false:=by rw[beq_eq_false_iff_ne];omega
  have q2:(f==2)=false:=(by rw[beq_eq_false_iff_ne];exact hf2);have fd:=fun V=>(field_hdr V (.int .i64 x.size) (.int .i64 f) (.int .i64 x.spare) (.int .u32 x.cls) (.int .u32 x.ser)).2.1
  go_enter Tryz.func127,Tryz.ntmps127;go_wp2_with fail;refine(HI.out).mono ?_;rintro e w1 ⟨rfl,rfl⟩;(try dsimp only);go_wp2_with fail;refine(HHd.out _ (Below.refl _ _)).mono ?_;rintro e V ⟨rfl,hB⟩;(try dsimp only);go_wp2_with fail;refine(HLn.out _ hB).mono ?_;rintro e V2 ⟨rfl,hb⟩;(try dsimp only);replace hB:=hB.trans (hb.mono hB.size);clear hb;go_wp2_with fail;go_ret2;exact⟨rfl,hB⟩
end
end Go.Proofs.YtbffpkmfhkphdaaGreatDoor
namespace Go.Proofs.YtbffpkmfhkphdaaGreatDoor
open Go Lib Go.RowKit Limb
def bytE(h:Hp)(o:Nat):Nat:=if isO h o=true then(if(hdO h o).fmt=2 then 0 else 21)else 3
theorem oop_unpackbytes(w:World)(a:Option Addr)(l:List Nat)(m cap s N:Nat)(hN:4*m=N+s)(hlay:Lay .u32 w a l)(hlim:Lim l)(hn:m=l.length)(hl:m≤65535)(hs:s≤3)(hs0:0<s→0<m)(hz:(unpB l).drop N=List.replicate s 0):Calls Tryz.prog 322 #[.slice a m cap,.int .i64 s] w fun e w'=>(∃g,e= .returned (.tuple #[.slice (some ⟨g,0,none⟩) N N,.int .i64 0])∧w.heap.size≤g∧Lay .u8 w' (some ⟨g,0,none⟩) ((unpB l).take N))∧Below w.heap.size w w':=by
 by_cases h:s=0
 ·exact oop_unpackbytes0 w a l m cap s N hN hlay hlim hn hl hs h hz
 ·exact oop_unpackbytes1 w a l m cap s N hN hlay hlim hn hl hs (by omega) (hs0 (by omega)) hz
section
variable {w:World} {F:Foot} {h:Hp}
theorem bytes_parts(k:Limb.Good h){o:Nat}(ho:isO h o=true)(hf:(hdO h o).fmt=2):4*(hdO h o).size=(hdO h o).len+(hdO h o).spare∧(hdO h o).spare≤3∧(0<(hdO h o).spare→0<(hdO h o).size)∧(hdO h o).size≤65535∧(unpB (flds h o)).drop (hdO h o).len=List.replicate (hdO h o).spare 0:=by
 have hb:=(isO_iff.1 ho).2.2;have hok:(hdO h o).Ok:=(k.ok _ hb).1;have hln:=flds_length k ho;have hsp:=hok.spare;have hss:=hok.sp;have hsz:=hok.size;have hlen:(hdO h o).len=4*(hdO h o).size-(hdO h o).spare:=by unfold Hd.len;rw[if_pos hf]
 refine⟨by omega,hsp,by omega,hsz,?_⟩;rw[hlen,←hln];by_cases h0:(hdO h o).spare=0
 ·rw[h0,List.drop_of_length_le (by rw[unpB_length];omega)];rfl
 ·obtain⟨n,hn⟩: ∃n,(hdO h o).size=n+1:=⟨(hdO h o).size-1,by rcases hss with h1|h1<;>omega⟩;refine unpB_spare hsp (hln.trans hn) ?_;rw[flds_wd (by omega)];have:=k.spz _ hb hf (show 0<(hd h (o/2)).spare from Nat.pos_of_ne_zero h0);rw[show o/2+2+(hd h (o/2)).size=o/2+3+n by show o/2+2+(hdO h o).size=_;omega]at this;exact this
theorem HeapAt.fields(H:HeapAt w F h){o:Nat}(ho:isO h o=true)(bp:Option Addr)(hbp:0<(hdO h o).size→bp=some ⟨F.gw,o/2+3,none⟩):Lay .u32 w bp (flds h o):=by
 obtain⟨cw,cs,c0,c1,c2,c3,c4,hw,hs⟩:=H.cells;refine⟨F.gw,o/2+3,fun hp=>?_,fun i hi=>?_⟩
 ·rw[flds_length H.good ho]at hp;exact⟨hbp hp,hw.lt⟩
 ·rw[flds_length H.good ho]at hi;have hlt:=fld_lt H.good ho hi;rw[hw.cell hlt,nums_get hlt,flds_wd hi];rfl
theorem heap_Bytes(H:HeapAt w F h)(o:Nat)(ho:o<4294967296):Calls Tryz.prog 319 #[.pointer (some ⟨F.p,0,none⟩),.int .u32 o] w fun e w'=>(∃a c,e= .returned (.tuple #[.slice a (if bytE h o=0 then(hdO h o).len else 0) c,.int .i64 (bytE h o)])∧(bytE h o=0→(∃g,a=some ⟨g,0,none⟩)∧Lay .u8 w' a (bytO h o)))∧Below w.heap.size w w':=by
 have HD:=hid (heap_Header H o ho);by_cases hi:isO h o=true
 ·have e1:hdX h o=hdO h o:=(by unfold hdX;rw[if_pos hi]);have e2:erX h o=0:=by unfold erX;rw[if_pos hi]
  have hd:=HD.out;rw[e1,e2,show hdV (hdO h o)= .agg #[.int .i64 (hdO h o).size,.int .i64 (hdO h o).fmt,.int .i64 (hdO h o).spare,.int .u32 (hdO h o).cls,.int .u32 (hdO h o).ser]from rfl]at hd;have hok:(hdO h o).Ok:=(H.good.ok _ (isO_iff.1 hi).2.2).1;by_cases hf:(hdO h o).fmt=2
  ·have eb:bytE h o=0:=(by unfold bytE;rw[if_pos hi,if_pos hf]);rw[eb,if_pos rfl];rw[hf]at hd;obtain⟨b1,b2,b3,b4,b5⟩:=bytes_parts H.good hi hf;have hin:o/2+3+(hdO h o).size≤h.ws.length:=H.good.inside _ (isO_iff.1 hi).2.2;have hsm:=H.small;have ha:=fun X=>heap_at o ho X (.pointer (some ⟨F.p,0,none⟩))
   rw[idxN_of hi]at ha;have HA:=hid ha;have ebo:bytO h o=(unpB (flds h o)).take (hdO h o).len:=rfl;rw[ebo];have HUn:=hid (fun X (HX:HeapAt X F h) bp (hbp:0<(hdO h o).size→bp=some ⟨F.gw,o/2+3,none⟩) cap=>oop_unpackbytes X bp (flds h o) (hdO h o).size cap (hdO h o).spare (hdO h o).len b1 (HX.fields hi bp hbp) (flds_lim H.good o) (flds_length H.good hi).symm b4 b2 b3 b5);have HE:=hid (fun X (hb:Below w.heap.size w X)=>H.below hb);generalize flds h o=fl at*
   generalize o/2=at0 at*
   generalize hdO h o=x at*
   generalize x.len=ln at*
   generalize x.size=x0 at*
   generalize x.spare=x2 at*
   generalize x.cls=x3 at*
   generalize x.ser=x4 at*
   have HD:=hid hd;clear hd e1 e2 hok hf eb ha ebo b1 b5 hi;go_enter Tryz.func319,Tryz.ntmps319;go_wp2_with fail;refine(HD.out).mono ?_;rintro e V ⟨rfl,hB⟩;(try dsimp only);obtain⟨W,hW,r0,hb,hz⟩:=alloc_row V 159 [.int .i64 x0,.int .i64 2,.int .i64 x2,.int .u32 x3,.int .u32 x4];have HW:=hid hW;clear hW hz;replace hB:=hB.trans (hb.mono hB.size);clear hb;obtain⟨p0,p1,p2,p3,p4⟩:=r0.cells5;go_wp2_with fail;rw[←HW.out];refine(HA.out W).mono ?_;rintro e W1 ⟨rfl,rfl⟩;(try dsimp only);go_wp2_with fail;have HHW:=HE.out W hB;obtain⟨cw,cs,c0,-,-,-,-,sw,-⟩:=HHW.cells;have hcw:=sw.le;clear p0 p1 p2 p3 p4 sw;obtain⟨bp,hbp⟩: ∃b,b=if cw=at0+3 then some (⟨F.gw,0,none⟩:Addr)else some ⟨F.gw,at0+3,none⟩:=⟨_,rfl⟩
   have hbp1:0<x0→bp=some ⟨F.gw,at0+3,none⟩:=fun h0=>by rw[hbp,if_neg (by omega)]
   have HBP:=hid hbp;have HBP1:=hid hbp1;have hFp:F.p<W.heap.size:=HHW.lt _ (mem_p F);have HK:=hid (fun X (hX:Below W.heap.size W X)=>show X.cell? ⟨F.p,0,none⟩=some (.slice (some ⟨F.gw,0,none⟩) h.ws.length cw)∧X.cell? ⟨V.heap.size,0,none⟩=some (.int .i64 x0)∧X.cell? ⟨V.heap.size,2,none⟩=some (.int .i64 x2)from⟨by rw[←c0];exact hX.cell hFp,(r0.below hX r0.lt).cell_at 0,(r0.below hX r0.lt).cell_at 2⟩);have HHX:=hid (fun X (hX:Below W.heap.size W X)=>HHW.below hX);clear hbp hbp1 HHW c0 r0 HA HD HE HW;have hX:Below W.heap.size W W.drew:=(Below.refl _ _).drew;refine wp_region_held (S:=fun X=>Below W.heap.size W X) (by kernel_rfl) ?_;refine tk 0 (.pointer (some ⟨F.p,0,none⟩)) 25 hX ?_;simp only[Act.put,zA,zB,zC];refine tk 1 (.pointer (some ⟨F.p,0,none⟩)) 26 hX ?_;simp only[Act.put,zA,zB,zC];refine tk 2 (.pointer (some ⟨F.p,0,none⟩)) 27 hX ?_;simp only[Act.put,zA,zB,zC];refine tk 3 (.slice (some ⟨F.gw,0,none⟩) h.ws.length cw) 28 hX ?_ (y:=fun X hX=>by obtain⟨k0,k1,k2⟩:=HK.out X hX;go_simp);simp only[Act.put,zA,zB,zC];refine tk 4 (.int .i64 ((at0:Int)+3)) 29 hX ?_;simp only[Act.put,zA,zB,zC];refine tk 5 (.int .i64 ((at0:Int)+3)) 30 hX ?_;simp only[Act.put,zA,zB,zC];refine tk 6 (.pointer (some ⟨V.heap.size,0,none⟩)) 31 hX ?_;simp only[Act.put,zA,zB,zC];refine tk 7 (.int .i64 x0) 32 hX ?_ (y:=fun X hX=>by obtain⟨k0,k1,k2⟩:=HK.out X hX;go_simp);simp only[Act.put,zA,zB,zC];refine tk 8 (.int .i64 ((at0:Int)+3+(x0:Int))) 33 hX ?_ (y:=fun X hX=>by go_simp;all_goals(first |omega|exact i64_self (by omega) (by omega)|(rw[i64_self (by omega) (by omega)];omega)));simp only[Act.put,zA,zB,zC];refine tk 9 (.slice bp x0 (cw-(at0+3))) 34 hX ?_ (y:=fun X hX=>by go_simp;rw[if_pos (show 0≤(at0:Int)+3∧(at0:Int)+3≤max ((at0:Int)+3+(x0:Int)) 0 from⟨by omega,by omega⟩),HBP.out,show((at0:Int)+3).toNat=at0+3 by omega,show((at0:Int)+3+(x0:Int)).toNat=at0+3+x0 by omega,Nat.add_sub_cancel_left,if_pos (show 0≤(at0:Int)+3+(x0:Int)∧(at0:Int)+3+(x0:Int)≤(cw:Int)from⟨by omega,by omega⟩)]);simp only[Act.put,zA,zB,zC];refine tk 10 (.pointer (some ⟨V.heap.size,2,none⟩)) 35 hX ?_;simp only[Act.put,zA,zB,zC];refine tk 11 (.int .i64 x2) 36 hX ?_ (y:=fun X hX=>by obtain⟨k0,k1,k2⟩:=HK.out X hX;go_simp);simp only[Act.put,zA,zB,zC];refine wpAnyH_all (rs:=[12]) (by kernel_rfl) (by decide) (fun i hi=>?_);rw[List.mem_singleton]at hi;subst hi;unfold wpOp;go_simp;refine .inl ((HUn.out _ (HHX.out _ hX) bp HBP1.out _).mono ?_);rintro e X1 ⟨⟨g,rfl,hg,hlay⟩,hb⟩;replace hX:=hX.trans (hb.mono hX.size);have HLay:=hid hlay;clear hb hg hlay;refine⟨hX,?_⟩;refine tk 13 (.slice (some ⟨g,0,none⟩) ln ln) 38 hX ?_;simp only[Act.put,zA,zB,zC];refine tk 14 (.int .i64 0) 39 hX ?_;simp only[Act.put,zA,zB,zC];refine tk 15 (.slice (some ⟨g,0,none⟩) ln ln) 4 hX ?_;simp only[Act.put,zA,zB,zC];refine tk 16 (.int .i64 0) 5 hX ?_;simp only[Act.put,zA,zB,zC];refine wpAnyH_done (by kernel_rfl) ?_ _;have HBf:=hid (hB.trans (hX.mono hB.size));clear HK HHX HUn HBP HBP1 hX;go_wp2_with fail;go_ret2;exact⟨⟨_,_,rfl,fun _=>⟨⟨_,rfl⟩,HLay.out⟩⟩,HBf.out⟩
  ·have eb:bytE h o=21:=(by unfold bytE;rw[if_pos hi,if_neg hf]);rw[eb,if_neg (by decide)];have q:(((hdO h o).fmt:Int) != 2)=true:=by rw[bne_iff_ne];omega
   have q2:(((hdO h o).fmt:Int)==2)=false:=(by rw[beq_eq_false_iff_ne];omega);have q3:((hdO h o).fmt==2)=false:=by rw[beq_eq_false_iff_ne];exact hf
   generalize hdO h o=x at*
   generalize x.fmt=x1 at*
   have HD:=hid hd;clear hd e1 e2 hok eb hi H;go_enter Tryz.func319,Tryz.ntmps319;go_wp2_with fail;refine(HD.out).mono ?_;rintro e V ⟨rfl,hB⟩;(try dsimp only);have hE:=hB.alloc hB.size (.cells #[.int .i64 x.size,.int .i64 x1,.int .i64 x.spare,.int .u32 x.cls,.int .u32 x.ser] 159);go_wp2_with fail;go_ret2;exact⟨⟨_,_,rfl,fun h=>absurd h (by decide)⟩,hE⟩
 ·have e2:erX h o=3:=(by unfold erX;rw[if_neg hi]);have e1:hdX h o=hdZ:=by unfold hdX;rw[if_neg hi]
  have eb:bytE h o=3:=(by unfold bytE;rw[if_neg hi]);rw[eb,if_neg (by decide)];have hd:=HD.out;rw[e1,e2,show hdV hdZ= .agg #[.int .i64 0,.int .i64 0,.int .i64 0,.int .u32 0,.int .u32 0]from rfl]at hd;have HD:=hid hd;clear hd e1 e2 eb hi H;go_enter Tryz.func319,Tryz.ntmps319;go_wp2_with fail;refine(HD.out).mono ?_;rintro e V ⟨rfl,hB⟩;(try dsimp only);have hE:=hB.alloc hB.size (.cells #[.int .i64 0,.int .i64 0,.int .i64 0,.int .u32 0,.int .u32 0] 159);go_wp2_with fail;go_ret2;exact⟨⟨_,_,rfl,fun h=>absurd h (by decide)⟩,hE⟩
end
end Go.Proofs.YtbffpkmfhkphdaaGreatDoor

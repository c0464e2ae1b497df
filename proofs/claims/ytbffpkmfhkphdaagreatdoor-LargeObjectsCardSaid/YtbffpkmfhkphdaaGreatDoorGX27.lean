/- The walks of package large's Words, of the document's Words. The walks of the document's heap: Is, Value, IsClass, Header, Length. The walk of package oop's UnpackBytes. -/
import Derived.Test.YtbffpkmfhkphdaaGreatDoorGX00
import Derived.Test.YtbffpkmfhkphdaaGreatDoorGX26
import Derived.Test.YtbffpkmfhkphdaaGreatDoorGX06
set_option linter.unusedVariables false
set_option linter.unusedSimpArgs false
set_option maxRecDepth 1000000
set_option maxHeartbeats 6400000
namespace Go.Proofs.YtbffpkmfhkphdaaGreatDoor
open Go Lib Go.RowKit Limb
def needN(neg:Bool)(l:List Nat):Nat:=if(mayB neg l&&!isSm (signed neg (val l)))=true then 4+l.length else 0
section
variable (w:World) (neg:Bool) (a:Option Addr) (l:List Nat) (m cap:Nat)
theorem large_Words(hc:Came w neg a m l)(hml:m≤4294967296):Calls Tryz.prog 43 #[.agg #[.bool neg,.slice a m cap]] w fun e w'=>e= .returned (.int .i64 (needN neg l))∧Below w.heap.size w w':=by
 obtain⟨W,hWe,r0,hW⟩: ∃W,W=w.alloc (.cells #[.bool neg,.slice a m cap] 24)∧Row W w.heap.size 24 [.bool neg,.slice a m cap]∧Below w.heap.size w W:=⟨_,rfl,by unfold Row;exact heap_alloc_new _ _,(Below.refl _ _).alloc (Nat.le_refl _) _⟩;have HWe:=hid hWe;clear hWe;have c0:=r0.cell_at 0;have c1:=r0.cell_at 1;simp only[yB,yC]at c0 c1;have HS:=hid (large_small W neg a l m cap (hc.below hW));have HM:=hid (fun X (hb:Below W.heap.size W X)=>large_May X neg a l m cap ((hc.below hW).below hb).1 hc.2.1 hc.2.2.1 hc.2.2.2);have hn:needN neg l=if(mayB neg l&&!isSm (signed neg (val l)))=true then 4+m else 0:=by unfold needN;rw[hc.2.2.1]
 rw[hn];generalize signed neg (val l)=z at*
 generalize isSm z=sb at*
 generalize mayB neg l=mb at*
 clear hc hn;go_enter Tryz.func43,Tryz.ntmps43;go_wp2_with fail;rw[←HWe.out];refine(HS.out).mono ?_;rintro e V ⟨⟨v,rfl,-⟩,hb⟩;(try dsimp only);have HB:=hid hb;have r0:=r0.below hb r0.lt;have hW:=hW.trans (hb.mono hW.size);clear c0 c1;have c0:=r0.cell_at 0;have c1:=r0.cell_at 1;simp only[yB,yC]at c0 c1;clear hb;cases mb with
 |false=>
  go_wp2_with fail;refine(HM.out V HB.out).mono ?_;rintro e V2 ⟨rfl,hb2⟩;(try dsimp only);have r0:=r0.below hb2 r0.lt;have hW:=hW.trans (hb2.mono hW.size);clear c0 c1;have c0:=r0.cell_at 0;have c1:=r0.cell_at 1;simp only[yB,yC]at c0 c1;clear hb2;go_wp2_with fail;go_ret;exact⟨rfl,hW⟩
 |true=>
  cases sb with
  |true=>
   go_wp2_with fail;go_ret;exact⟨rfl,hW⟩
  |false=>
   go_wp2_with fail;refine(HM.out V HB.out).mono ?_;rintro e V2 ⟨rfl,hb2⟩;(try dsimp only);have r0:=r0.below hb2 r0.lt;have hW:=hW.trans (hb2.mono hW.size);clear c0 c1;have c0:=r0.cell_at 0;have c1:=r0.cell_at 1;simp only[yB,yC]at c0 c1;clear hb2;go_wp2_with fail;go_ret;exact⟨by simp,hW⟩
theorem ref_words(hc:Came w neg a m l)(hml:m≤4294967296):Calls Tryz.prog 44 #[.agg #[.bool neg,.slice a m cap]] w fun e w'=>e= .returned (.int .i64 (needN neg l))∧Below w.heap.size w w':=by
 obtain⟨W,hWe,r0,hW⟩: ∃W,W=w.alloc (.cells #[.bool neg,.slice a m cap] 24)∧Row W w.heap.size 24 [.bool neg,.slice a m cap]∧Below w.heap.size w W:=⟨_,rfl,by unfold Row;exact heap_alloc_new _ _,(Below.refl _ _).alloc (Nat.le_refl _) _⟩;have HWe:=hid hWe;clear hWe;have c0:=r0.cell_at 0;have c1:=r0.cell_at 1;simp only[yB,yC]at c0 c1;have HS:=hid (ref_small W neg a l m cap (hc.below hW));have HM:=hid (fun X (hb:Below W.heap.size W X)=>ref_May X neg a l m cap ((hc.below hW).below hb).1 hc.2.1 hc.2.2.1 hc.2.2.2);have hn:needN neg l=if(mayB neg l&&!isSm (signed neg (val l)))=true then 4+m else 0:=by unfold needN;rw[hc.2.2.1]
 rw[hn];generalize signed neg (val l)=z at*
 generalize isSm z=sb at*
 generalize mayB neg l=mb at*
 clear hc hn;go_enter Tryz.func44,Tryz.ntmps44;go_wp2_with fail;rw[←HWe.out];refine(HS.out).mono ?_;rintro e V ⟨⟨v,b,rfl,hb1,-⟩,hb⟩;(try dsimp only);have HB:=hid hb;have r0:=r0.below hb r0.lt;have hW:=hW.trans (hb.mono hW.size);clear c0 c1;have c0:=r0.cell_at 0;have c1:=r0.cell_at 1;simp only[yB,yC]at c0 c1;clear hb;cases mb with
 |false=>
  cases b with
  |true=>
   go_wp2_with fail;go_ret;exact⟨rfl,hW⟩
  |false=>
   go_wp2_with fail;refine(HM.out V HB.out).mono ?_;rintro e V2 ⟨rfl,hb2⟩;(try dsimp only);have r0:=r0.below hb2 r0.lt;have hW:=hW.trans (hb2.mono hW.size);clear c0 c1;have c0:=r0.cell_at 0;have c1:=r0.cell_at 1;simp only[yB,yC]at c0 c1;clear hb2;go_wp2_with fail;go_ret;exact⟨rfl,hW⟩
 |true=>
  obtain rfl:=hb1 rfl;cases b with
  |true=>
   go_wp2_with fail;go_ret;exact⟨rfl,hW⟩
  |false=>
   go_wp2_with fail;refine(HM.out V HB.out).mono ?_;rintro e V2 ⟨rfl,hb2⟩;(try dsimp only);have r0:=r0.below hb2 r0.lt;have hW:=hW.trans (hb2.mono hW.size);clear c0 c1;have c0:=r0.cell_at 0;have c1:=r0.cell_at 1;simp only[yB,yC]at c0 c1;clear hb2;go_wp2_with fail;go_ret;exact⟨by simp,hW⟩
end
end Go.Proofs.YtbffpkmfhkphdaaGreatDoor
namespace Go.Proofs.YtbffpkmfhkphdaaGreatDoor
open Go Lib Go.RowKit Limb
theorem wpOp_alloc_header{ops:Array Oper}{Q:Exit→Act→World→Prop}{i:Nat}{o:Oper}{K:Act→World→Prop}{a:Act}{w:World}(hi:ops[i]? =some o)(hg:o.guard=none)(ho:o.op= .alloc 159)(h: ∀X' g,Row X' g 159 [.int .i64 0,.int .i64 0,.int .i64 0,.int .u32 0,.int .u32 0]→Below w.heap.size w X'→w.heap.size≤g→g<X'.heap.size→K (a.put o.dst (.pointer (some ⟨g,0,none⟩))) X'):wpOp Tryz.prog ops Q i K a w:=by
 refine wpOp_plain hi hg ?_;have hfin:=h (w.alloc (.cells #[.int .i64 0,.int .i64 0,.int .i64 0,.int .u32 0,.int .u32 0] 159)) w.heap.size (by unfold Row;exact heap_alloc_new _ _) ((Below.refl _ _).alloc (Nat.le_refl _) _) (Nat.le_refl _) (by rw[World.size_alloc];omega);obtain⟨dst,op,type,pos,after,guard⟩:=o;simp only at ho hg;subst ho hg;unfold Oper.wp;go_simp;exact hfin
section
variable {w:World} {G:RFoot} {h:Hp}
theorem r_is(H:RefAt w G h)(o:Nat)(ho:o<4294967296):Calls Tryz.prog 135 #[.pointer (some ⟨G.p,0,none⟩),.int .u32 o] w fun e w'=>e= .returned (.bool (isO h o))∧w=w':=by
 obtain⟨cw,cs,c0,c1,c2,c3,c4,hw,hs⟩:=H.cells;have hlen:=H.good.len;by_cases h0:o=0
 ·subst h0;rw[show isO h 0=false from rfl];clear H hw hs hlen;go_enter Tryz.func135,Tryz.ntmps135;go_wp2_with fail;go_ret;exact⟨rfl,rfl⟩
 ·have q0:((o:Int)==0)=false:=(by rw[beq_eq_false_iff_ne];omega);have q0':(o==0)=false:=by rw[beq_eq_false_iff_ne];omega
  by_cases h1:o%2=0
  ·obtain⟨i,rfl⟩: ∃i,o=2*i:=⟨o/2,by omega⟩;have q1:(((2*i:Nat):Int)%2==0)=true:=by rw[beq_iff_eq];omega
   have e2:((2*i:Nat):Int)/2=(i:Int):=by omega
   have e3:isO h (2*i)=begins h i:=by
    unfold isO;rw[decide_eq_true h0,decide_eq_true h1,Nat.mul_div_cancel_left _ (by decide)];rfl
   rw[e3];obtain⟨ob,hob⟩: ∃ob,ob=((2*i:Nat):Int):=⟨_,rfl⟩;rw[←hob]at q0 q1 e2 ⊢;have ob1:0≤ob∧ob<4294967296:=by omega
   have q0n:(ob != 0)=true:=(by rw[bne_iff_ne];rw[beq_eq_false_iff_ne]at q0;exact q0);by_cases hi:i<h.ws.length
   ·have d1:decide ((i:Int)<(h.ws.length:Int))=true:=decide_eq_true (by omega);have d2:decide (i<h.ws.length)=true:=decide_eq_true hi;have hc:=hs.cell hi;rw[nums_get (by rw[book_length];omega),book_wd]at hc;have e4:begins h i=h.st.getD i false:=rfl;rw[←e4]at hc;have ix:=fun W=>hs.index 72 Tryz.underlying72 size_u8 W .i64 i hi
    generalize h.ws.length=n at*
    clear hw hs H hlen hi e4 h0 h1 q0' hob e3
    cases hbg:begins h i with
    |true=>
     rw[hbg]at hc;replace hc:w.cell? ⟨G.gb,i,none⟩=some (.int .u8 1):=hc;clear hbg;go_enter Tryz.func135,Tryz.ntmps135;go_wp2_with fail;go_ret;exact⟨rfl,rfl⟩
    |false=>
     rw[hbg]at hc;replace hc:w.cell? ⟨G.gb,i,none⟩=some (.int .u8 0):=hc;clear hbg;go_enter Tryz.func135,Tryz.ntmps135;go_wp2_with fail;go_ret;exact⟨rfl,rfl⟩
   ·have d1:decide ((i:Int)<(h.ws.length:Int))=false:=decide_eq_false (by omega);have d2:decide (i<h.ws.length)=false:=decide_eq_false hi
    have e4:begins h i=false:=by
     unfold begins;rw[List.getD_eq_getElem?_getD,List.getElem?_eq_none (by omega)];rfl
    rw[e4];generalize h.ws.length=n at*
    clear hw hs H hlen hi e4 h0 h1 q0' hob e3;go_enter Tryz.func135,Tryz.ntmps135;go_wp2_with fail;go_ret;exact⟨rfl,rfl⟩
  ·have q1:((o:Int)%2==0)=false:=(by rw[beq_eq_false_iff_ne];omega);have q0n:((o:Int) != 0)=true:=by rw[bne_iff_ne];omega
   have e3:isO h o=false:=(by unfold isO;rw[decide_eq_false h1];simp);rw[e3];clear H hw hs hlen h1 h0 e3;go_enter Tryz.func135,Tryz.ntmps135;go_wp2_with fail;go_ret;exact⟨rfl,rfl⟩
theorem r_val(H:RefAt w G h)(o:Nat)(ho:o<4294967296):Calls Tryz.prog 204 #[.pointer (some ⟨G.p,0,none⟩),.int .u32 o] w fun e w'=>e= .returned (.bool (valO h o))∧w=w':=by
 have HI:=hid (r_is H o ho);by_cases h0:o=0
 ·subst h0;rw[show valO h 0=true from rfl];clear H HI;go_enter Tryz.func204,Tryz.ntmps204;go_wp2_with fail;go_ret;exact⟨rfl,rfl⟩
 ·have q0:((o:Int)==0)=false:=(by rw[beq_eq_false_iff_ne];omega);have q0':(o==0)=false:=by rw[beq_eq_false_iff_ne];omega
  by_cases h1:o%2=1
  ·have q1:((o:Int)%2==1)=true:=(by rw[beq_iff_eq];omega);have e:valO h o=true:=by unfold valO;rw[decide_eq_true h1];simp
   rw[e];clear H HI e h0 h1;go_enter Tryz.func204,Tryz.ntmps204;go_wp2_with fail;go_ret;exact⟨rfl,rfl⟩
  ·have q1:((o:Int)%2==1)=false:=(by rw[beq_eq_false_iff_ne];omega);have e:valO h o=isO h o:=by unfold valO;rw[decide_eq_false h1,decide_eq_false h0];rfl
   rw[e];generalize isO h o=b at*
   clear H e h0 h1;go_enter Tryz.func204,Tryz.ntmps204;go_wp2_with fail;refine(HI.out).mono ?_;rintro e w1 ⟨rfl,rfl⟩;(try dsimp only);go_wp2_with fail;go_ret;exact⟨rfl,rfl⟩
theorem r_isclass(H:RefAt w G h)(o:Nat)(ho:o<4294967296):Calls Tryz.prog 124 #[.pointer (some ⟨G.p,0,none⟩),.int .u32 o] w fun e w'=>e= .returned (.bool (clsO h o))∧w=w':=by
 have HI:=hid (r_is H o ho);by_cases h0:o=0
 ·subst h0;rw[show clsO h 0=true from rfl];clear H HI;go_enter Tryz.func124,Tryz.ntmps124;go_wp2_with fail;go_ret;exact⟨rfl,rfl⟩
 ·have q0:((o:Int)==0)=false:=(by rw[beq_eq_false_iff_ne];omega);have q0':(o==0)=false:=by rw[beq_eq_false_iff_ne];omega
  have e:clsO h o=isO h o:=(by unfold clsO;rw[decide_eq_false h0];rfl);rw[e];generalize isO h o=b at*
  clear H e h0;go_enter Tryz.func124,Tryz.ntmps124;go_wp2_with fail;refine(HI.out).mono ?_;rintro e w1 ⟨rfl,rfl⟩;(try dsimp only);go_wp2_with fail;go_ret;exact⟨rfl,rfl⟩
theorem r_header(H:RefAt w G h)(o:Nat)(ho:isO h o=true):Calls Tryz.prog 136 #[.pointer (some ⟨G.p,0,none⟩),.int .u32 o] w fun e w'=>e= .returned (hdV (hdO h o))∧Below w.heap.size w w':=by
 have he:=(isO_iff.1 ho).2.1;have olt:=isO_lt H.good ho;obtain⟨i,rfl⟩: ∃i,o=2*i:=⟨o/2,by omega⟩;have e1:2*i/2=i:=by omega
 have hb:begins h i=true:=by have:=(isO_iff.1 ho).2.2;rwa [e1]at this
 obtain⟨hok,hlt⟩:=H.good.ok _ hb;have hin:=H.good.inside _ hb;have ex:hdO h (2*i)=hd h i:=by unfold hdO;rw[e1]
 rw[ex];obtain⟨x,hx⟩: ∃x,x=hd h i:=⟨_,rfl⟩;have w0e:wd h.ws i=x.w0:=by rw[hx];exact(w0_unp hlt).symm
 have w1e:wd h.ws (i+1)=x.cls:=by rw[hx];rfl
 have w2e:wd h.ws (i+2)=x.ser:=by rw[hx];rfl
 rw[←hx]at hok ⊢;have HU:=hid (fun X=>r_unpack X x hok);obtain⟨cw,cb,r1,hw,hbk⟩:=H.row;have hsm:=H.small;have n3:i+2<h.ws.length:=by omega
 generalize h.ws.length=n at*
 have e2:((2*i:Nat):Int)/2=(i:Int):=by omega
 obtain⟨ob,hob⟩: ∃ob,ob=((2*i:Nat):Int):=⟨_,rfl⟩;rw[←hob]at e2 ⊢;have ob1:0≤ob∧ob<4294967296:=by omega
 obtain⟨W,hW,r0,hB0,hz⟩:=alloc_row w 159 [.int .i64 0,.int .i64 0,.int .i64 0,.int .u32 0,.int .u32 0];have HW:=hid hW;replace r1:=r1.below hB0 r1.lt;replace hw:=hw.below hB0;have hlt0:=r0.lt;obtain⟨g0,hg0⟩: ∃g0,g0=w.heap.size:=⟨_,rfl⟩;rw[←hg0]at r0 hlt0;have HG0:=hid hg0;have hgw:g0≠G.gw:=fun e=>by have:=H.lt G.gw (by unfold RFoot.l;simp);omega
 have hgp:g0≠G.p:=fun e=>by have:=H.lt G.p (by unfold RFoot.l;simp);omega
 clear hx hok hlt hob hW hz hg0 hbk H hin e1 he olt ho hb ex;have HHV:=hid (show hdV x= .agg #[.int .i64 x.size,.int .i64 x.fmt,.int .i64 x.spare,.int .u32 x.cls,.int .u32 x.ser]from rfl);have hun:=HU.out;unfold w3V at hun;rw[HHV.out]at hun ⊢;have HUn:=hid hun;clear hun HU;generalize x.w0=a0 at*
 generalize x.size=sz at*
 generalize x.fmt=fm at*
 generalize x.spare=sp at*
 generalize x.cls=cl at*
 generalize x.ser=se at*
 go_enter Tryz.func136,Tryz.ntmps136;go_wp2_with fail;rw[←HW.out,←HG0.out];have hB:Below w.heap.size w W.drew:=hB0.drew;have hX:Row W.drew G.p 74 [.int .i64 h.size,.slice (some ⟨G.gw,0,none⟩) n cw,.slice (some ⟨G.gr,0,none⟩) 64 64,.int .u32 h.last,.slice (some ⟨G.gb,0,none⟩) n cb]∧Sl W.drew G.gw 60 n cw (nums .u32 h.ws):=⟨r1,hw⟩;have r0d:Row W.drew g0 159 [.int .i64 0,.int .i64 0,.int .i64 0,.int .u32 0,.int .u32 0]:=r0;have hlt0d:g0<W.drew.heap.size:=hlt0;clear r1 hw r0 hB0 HW;refine wp_region_held (S:=fun Y=>Row Y G.p 74 [.int .i64 h.size,.slice (some ⟨G.gw,0,none⟩) n cw,.slice (some ⟨G.gr,0,none⟩) 64 64,.int .u32 h.last,.slice (some ⟨G.gb,0,none⟩) n cb]∧Sl Y G.gw 60 n cw (nums .u32 h.ws)) (by kernel_rfl) ?_;refine tk 0 (.pointer (some ⟨G.p,0,none⟩)) 12 hX ?_;simp only[Act.put,zA,zB,zC];refine tk 1 (.pointer (some ⟨G.p,0,none⟩)) 13 hX ?_;simp only[Act.put,zA,zB,zC];refine tk 2 (.pointer (some ⟨G.p,1,none⟩)) 14 hX ?_;simp only[Act.put,zA,zB,zC];refine tk 3 (.slice (some ⟨G.gw,0,none⟩) n cw) 15 hX ?_ (y:=fun X hX=>by have q:=hX.1.cell_at 1;simp only[yB,yC]at q;go_simp);simp only[Act.put,zA,zB,zC];refine tk 4 (.int .i64 i) 16 hX ?_;simp only[Act.put,zA,zB,zC];refine tk 5 (.pointer (some ⟨G.gw,i,none⟩)) 17 hX ?_ (y:=fun X hX=>by have ix:=hX.2.index (P:=Tryz.prog) 22 Tryz.underlying22 size32 X .i64 i (by omega);go_simp);simp only[Act.put,zA,zB,zC];refine tk 6 (.int .u32 a0) 18 hX ?_ (y:=fun X hX=>by have cx:=hX.2.cell (i:=i) (by omega);rw[nums_get (by have:=hX.2.len;rw[nums_length]at this;omega),w0e]at cx;go_simp);simp only[Act.put,zA,zB,zC];refine tk 7 (.pointer (some ⟨G.p,0,none⟩)) 19 hX ?_;simp only[Act.put,zA,zB,zC];refine tk 8 (.pointer (some ⟨G.p,0,none⟩)) 20 hX ?_;simp only[Act.put,zA,zB,zC];refine tk 9 (.pointer (some ⟨G.p,1,none⟩)) 21 hX ?_;simp only[Act.put,zA,zB,zC];refine tk 10 (.slice (some ⟨G.gw,0,none⟩) n cw) 22 hX ?_ (y:=fun X hX=>by have q:=hX.1.cell_at 1;simp only[yB,yC]at q;go_simp);simp only[Act.put,zA,zB,zC];refine tk 11 (.int .i64 i) 23 hX ?_;simp only[Act.put,zA,zB,zC];refine tk 12 (.int .i64 ((i:Int)+1)) 24 hX ?_ (y:=fun X hX=>by go_simp;(first |done|exact i64_self (by omega) (by omega)|omega));simp only[Act.put,zA,zB,zC];refine tk 13 (.pointer (some ⟨G.gw,i+1,none⟩)) 25 hX ?_ (y:=fun X hX=>by have ix:(Instr.indexAt 22 (.slice (some ⟨G.gw,0,none⟩) n cw) (.int .i64 ((i:Int)+1))).run Tryz.prog X= .ok (.pointer (some ⟨G.gw,i+1,none⟩)) X:=(by have:=hX.2.index (P:=Tryz.prog) 22 Tryz.underlying22 size32 X .i64 (i+1) (by omega);rw[Int.natCast_add]at this;exact this);go_simp);simp only[Act.put,zA,zB,zC];refine tk 14 (.int .u32 cl) 26 hX ?_ (y:=fun X hX=>by have cx:=hX.2.cell (i:=i+1) (by omega);rw[nums_get (by have:=hX.2.len;rw[nums_length]at this;omega),w1e]at cx;go_simp);simp only[Act.put,zA,zB,zC];refine tk 15 (.pointer (some ⟨G.p,0,none⟩)) 27 hX ?_;simp only[Act.put,zA,zB,zC];refine tk 16 (.pointer (some ⟨G.p,0,none⟩)) 28 hX ?_;simp only[Act.put,zA,zB,zC];refine tk 17 (.pointer (some ⟨G.p,1,none⟩)) 29 hX ?_;simp only[Act.put,zA,zB,zC];refine tk 18 (.slice (some ⟨G.gw,0,none⟩) n cw) 30 hX ?_ (y:=fun X hX=>by have q:=hX.1.cell_at 1;simp only[yB,yC]at q;go_simp);simp only[Act.put,zA,zB,zC];refine tk 19 (.int .i64 i) 31 hX ?_;simp only[Act.put,zA,zB,zC];refine tk 20 (.int .i64 ((i:Int)+2)) 32 hX ?_ (y:=fun X hX=>by go_simp;(first |done|exact i64_self (by omega) (by omega)|omega));simp only[Act.put,zA,zB,zC];refine tk 21 (.pointer (some ⟨G.gw,i+2,none⟩)) 33 hX ?_ (y:=fun X hX=>by have ix:(Instr.indexAt 22 (.slice (some ⟨G.gw,0,none⟩) n cw) (.int .i64 ((i:Int)+2))).run Tryz.prog X= .ok (.pointer (some ⟨G.gw,i+2,none⟩)) X:=(by have:=hX.2.index (P:=Tryz.prog) 22 Tryz.underlying22 size32 X .i64 (i+2) (by omega);rw[Int.natCast_add]at this;exact this);go_simp);simp only[Act.put,zA,zB,zC];refine tk 22 (.int .u32 se) 34 hX ?_ (y:=fun X hX=>by have cx:=hX.2.cell (i:=i+2) (by omega);rw[nums_get (by have:=hX.2.len;rw[nums_length]at this;omega),w2e]at cx;go_simp);simp only[Act.put,zA,zB,zC];refine tk 23 (.agg #[.int .u32 a0,.int .u32 cl,.int .u32 se]) 35 hX ?_;simp only[Act.put,zA,zB,zC];refine wpAnyH_all (rs:=[24,28]) (by kernel_rfl) (by decide) (fun i hi=>?_);simp only[List.mem_cons,List.not_mem_nil,or_false]at hi;rcases hi with rfl|rfl
 ·unfold wpOp;go_simp;refine .inl ((HUn.out _).mono ?_);rintro e X1 ⟨rfl,hb⟩;replace hX:=(⟨hX.1.below hb hX.1.lt,hX.2.below hb⟩:_∧_);replace hB:=hB.trans (hb.mono hB.size);replace r0d:=r0d.below hb hlt0d;replace hlt0d:=Nat.lt_of_lt_of_le hlt0d hb.size;(try replace r6:=r6.below hb r6.lt);clear hb;refine⟨hX,?_⟩;refine tk 25 (.tuple #[.agg #[.int .i64 sz,.int .i64 fm,.int .i64 sp,.int .u32 cl,.int .u32 se],.bool true]) 11 hX ?_;simp only[Act.put,zA,zB,zC];refine tk 26 (.agg #[.int .i64 sz,.int .i64 fm,.int .i64 sp,.int .u32 cl,.int .u32 se]) 37 hX ?_;simp only[Act.put,zA,zB,zC];refine tk 27 (.bool true) 38 hX ?_;simp only[Act.put,zA,zB,zC];refine wpAnyH_all (rs:=[28]) (by kernel_rfl) (by decide) (fun i hi=>?_);rw[List.mem_singleton]at hi;subst hi;refine wpOp_alloc_header (o:=_) rfl rfl rfl (fun X2 g6 r6 hb hg6 hlt6=>?_);have hg60:g6≠g0:=fun e=>by rw[e]at hg6;exact Nat.lt_irrefl _ (Nat.lt_of_lt_of_le hlt0d hg6)
  have hg6w:w.heap.size≤g6:=Nat.le_trans hB.size hg6;replace hX:=(⟨hX.1.below hb hX.1.lt,hX.2.below hb⟩:_∧_);replace hB:=hB.trans (hb.mono hB.size);replace r0d:=r0d.below hb hlt0d;replace hlt0d:=Nat.lt_of_lt_of_le hlt0d hb.size;clear hb hlt6 hg6;refine⟨hX,?_⟩;simp only[Act.put,zA,zB,zC];refine wpAnyH_all (rs:=[29]) (by kernel_rfl) (by decide) (fun i hi=>?_);rw[List.mem_singleton]at hi;subst hi;have hgp6:G.p≠g6:=(hX.1).ne r6 (by decide);have hgw6:G.gw≠g6:=by obtain⟨_,rr⟩:=hX.2.row;exact rr.ne r6 (by decide)
  obtain⟨q0,q1,q2,q3,q4⟩:=r6.cells5;have z0:=r6.free 0;have z1:=r6.free 1;have z2:=r6.free 2;have z3:=r6.free 3;have z4:=r6.free 4;have HX:=hid hX;clear hX;unfold wpOp;go_simp;have hX:=HX.out;have hX1:=(((((hX.1.other (a:=⟨g6,0,none⟩) hgp6 (.int .i64 sz)).other (a:=⟨g6,1,none⟩) hgp6 (.int .i64 fm)).other (a:=⟨g6,2,none⟩) hgp6 (.int .i64 sp)).other (a:=⟨g6,3,none⟩) hgp6 (.int .u32 cl)).other (a:=⟨g6,4,none⟩) hgp6 (.int .u32 se));have hX2:=(((((hX.2.other (a:=⟨g6,0,none⟩) hgw6 (.int .i64 sz)).other (a:=⟨g6,1,none⟩) hgw6 (.int .i64 fm)).other (a:=⟨g6,2,none⟩) hgw6 (.int .i64 sp)).other (a:=⟨g6,3,none⟩) hgw6 (.int .u32 cl)).other (a:=⟨g6,4,none⟩) hgw6 (.int .u32 se));replace hX:=(⟨hX1,hX2⟩:_∧_);refine .inl ⟨hX,?_⟩;refine tk 30 (.bool true) 7 hX ?_;simp only[Act.put,zA,zB,zC];refine wpAnyH_done (by kernel_rfl) ?_ _;replace r0d:=(((((r0d.other (a:=⟨g6,0,none⟩) (Ne.symm hg60) (.int .i64 sz)).other (a:=⟨g6,1,none⟩) (Ne.symm hg60) (.int .i64 fm)).other (a:=⟨g6,2,none⟩) (Ne.symm hg60) (.int .i64 sp)).other (a:=⟨g6,3,none⟩) (Ne.symm hg60) (.int .u32 cl)).other (a:=⟨g6,4,none⟩) (Ne.symm hg60) (.int .u32 se));replace r6:=(((((r6.store_any 0 (.int .i64 sz)).store_any 1 (.int .i64 fm)).store_any 2 (.int .i64 sp)).store_any 3 (.int .u32 cl)).store_any 4 (.int .u32 se));replace hB:=(below_store (i:=4) (below_store (i:=3) (below_store (i:=2) (below_store (i:=1) (below_store (i:=0) hB hg6w (.int .i64 sz)) hg6w (.int .i64 fm)) hg6w (.int .i64 sp)) hg6w (.int .u32 cl)) hg6w (.int .u32 se));obtain⟨p0,p1,p2,p3,p4⟩:=Row.cells5 r6;obtain⟨q0,q1,q2,q3,q4⟩:=Row.cells5 r0d;have z0:=r0d.free 0;have z1:=r0d.free 1;have z2:=r0d.free 2;have z3:=r0d.free 3;have z4:=r0d.free 4;have rr:=(((((r0d.store_any 0 (.int .i64 sz)).store_any 1 (.int .i64 fm)).store_any 2 (.int .i64 sp)).store_any 3 (.int .u32 cl)).store_any 4 (.int .u32 se));obtain⟨f0,f1,f2,f3,f4⟩:=Row.cells5 rr;clear hX hX1 hX2 HX HUn r0d r6 w0e w1e w2e rr;generalize(((((X2.setCell ⟨g6,0,none⟩ (.int .i64 sz)).setCell ⟨g6,1,none⟩ (.int .i64 fm)).setCell ⟨g6,2,none⟩ (.int .i64 sp)).setCell ⟨g6,3,none⟩ (.int .u32 cl)).setCell ⟨g6,4,none⟩ (.int .u32 se))=Z at*
  go_wp2_with fail;refine bodyPost_ret (v:= .agg #[.int .i64 sz,.int .i64 fm,.int .i64 sp,.int .u32 cl,.int .u32 se]) (by simp[results,Tryz.results136,go_sem,f0,f1,f2,f3,f4]) rfl ⟨rfl,?_⟩;have hgg:w.heap.size≤g0:=by rw[HG0.out];exact Nat.le_refl _
  exact below_store (below_store (below_store (below_store (below_store hB hgg _) hgg _) hgg _) hgg _) hgg _
 ·refine wpOp_alloc_header (o:=_) rfl rfl rfl (fun X4 g6 r6 hb hg6 hlt6=>?_);have hg60:g6≠g0:=fun e=>by rw[e]at hg6;exact Nat.lt_irrefl _ (Nat.lt_of_lt_of_le hlt0d hg6)
  have hg6w:w.heap.size≤g6:=Nat.le_trans hB.size hg6;replace hX:=(⟨hX.1.below hb hX.1.lt,hX.2.below hb⟩:_∧_);replace hB:=hB.trans (hb.mono hB.size);replace r0d:=r0d.below hb hlt0d;replace hlt0d:=Nat.lt_of_lt_of_le hlt0d hb.size;clear hb hlt6 hg6;refine⟨hX,?_⟩;simp only[Act.put,zA,zB,zC];refine wpAnyH_all (rs:=[24]) (by kernel_rfl) (by decide) (fun i hi=>?_);rw[List.mem_singleton]at hi;subst hi;unfold wpOp;go_simp;refine .inl ((HUn.out _).mono ?_);rintro e X5 ⟨rfl,hb⟩;replace hX:=(⟨hX.1.below hb hX.1.lt,hX.2.below hb⟩:_∧_);replace hB:=hB.trans (hb.mono hB.size);replace r0d:=r0d.below hb hlt0d;replace hlt0d:=Nat.lt_of_lt_of_le hlt0d hb.size;(try replace r6:=r6.below hb r6.lt);clear hb;refine⟨hX,?_⟩;refine tk 25 (.tuple #[.agg #[.int .i64 sz,.int .i64 fm,.int .i64 sp,.int .u32 cl,.int .u32 se],.bool true]) 11 hX ?_;simp only[Act.put,zA,zB,zC];refine tk 26 (.agg #[.int .i64 sz,.int .i64 fm,.int .i64 sp,.int .u32 cl,.int .u32 se]) 37 hX ?_;simp only[Act.put,zA,zB,zC];refine tk 27 (.bool true) 38 hX ?_;simp only[Act.put,zA,zB,zC];refine wpAnyH_all (rs:=[29]) (by kernel_rfl) (by decide) (fun i hi=>?_);rw[List.mem_singleton]at hi;subst hi;have hgp6:G.p≠g6:=(hX.1).ne r6 (by decide);have hgw6:G.gw≠g6:=by obtain⟨_,rr⟩:=hX.2.row;exact rr.ne r6 (by decide)
  obtain⟨q0,q1,q2,q3,q4⟩:=r6.cells5;have z0:=r6.free 0;have z1:=r6.free 1;have z2:=r6.free 2;have z3:=r6.free 3;have z4:=r6.free 4;have HX:=hid hX;clear hX;unfold wpOp;go_simp;have hX:=HX.out;have hX1:=(((((hX.1.other (a:=⟨g6,0,none⟩) hgp6 (.int .i64 sz)).other (a:=⟨g6,1,none⟩) hgp6 (.int .i64 fm)).other (a:=⟨g6,2,none⟩) hgp6 (.int .i64 sp)).other (a:=⟨g6,3,none⟩) hgp6 (.int .u32 cl)).other (a:=⟨g6,4,none⟩) hgp6 (.int .u32 se));have hX2:=(((((hX.2.other (a:=⟨g6,0,none⟩) hgw6 (.int .i64 sz)).other (a:=⟨g6,1,none⟩) hgw6 (.int .i64 fm)).other (a:=⟨g6,2,none⟩) hgw6 (.int .i64 sp)).other (a:=⟨g6,3,none⟩) hgw6 (.int .u32 cl)).other (a:=⟨g6,4,none⟩) hgw6 (.int .u32 se));replace hX:=(⟨hX1,hX2⟩:_∧_);refine .inl ⟨hX,?_⟩;refine tk 30 (.bool true) 7 hX ?_;simp only[Act.put,zA,zB,zC];refine wpAnyH_done (by kernel_rfl) ?_ _;replace r0d:=(((((r0d.other (a:=⟨g6,0,none⟩) (Ne.symm hg60) (.int .i64 sz)).other (a:=⟨g6,1,none⟩) (Ne.symm hg60) (.int .i64 fm)).other (a:=⟨g6,2,none⟩) (Ne.symm hg60) (.int .i64 sp)).other (a:=⟨g6,3,none⟩) (Ne.symm hg60) (.int .u32 cl)).other (a:=⟨g6,4,none⟩) (Ne.symm hg60) (.int .u32 se));replace r6:=(((((r6.store_any 0 (.int .i64 sz)).store_any 1 (.int .i64 fm)).store_any 2 (.int .i64 sp)).store_any 3 (.int .u32 cl)).store_any 4 (.int .u32 se));replace hB:=(below_store (i:=4) (below_store (i:=3) (below_store (i:=2) (below_store (i:=1) (below_store (i:=0) hB hg6w (.int .i64 sz)) hg6w (.int .i64 fm)) hg6w (.int .i64 sp)) hg6w (.int .u32 cl)) hg6w (.int .u32 se));obtain⟨p0,p1,p2,p3,p4⟩:=Row.cells5 r6;obtain⟨q0,q1,q2,q3,q4⟩:=Row.cells5 r0d;have z0:=r0d.free 0;have z1:=r0d.free 1;have z2:=r0d.free 2;have z3:=r0d.free 3;have z4:=r0d.free 4;have rr:=(((((r0d.store_any 0 (.int .i64 sz)).store_any 1 (.int .i64 fm)).store_any 2 (.int .i64 sp)).store_any 3 (.int .u32 cl)).store_any 4 (.int .u32 se));obtain⟨f0,f1,f2,f3,f4⟩:=Row.cells5 rr;clear hX hX1 hX2 HX HUn r0d r6 w0e w1e w2e rr;generalize(((((X5.setCell ⟨g6,0,none⟩ (.int .i64 sz)).setCell ⟨g6,1,none⟩ (.int .i64 fm)).setCell ⟨g6,2,none⟩ (.int .i64 sp)).setCell ⟨g6,3,none⟩ (.int .u32 cl)).setCell ⟨g6,4,none⟩ (.int .u32 se))=Z at*
  go_wp2_with fail;refine bodyPost_ret (v:= .agg #[.int .i64 sz,.int .i64 fm,.int .i64 sp,.int .u32 cl,.int .u32 se]) (by simp[results,Tryz.results136,go_sem,f0,f1,f2,f3,f4]) rfl ⟨rfl,?_⟩;have hgg:w.heap.size≤g0:=by rw[HG0.out];exact Nat.le_refl _
  exact below_store (below_store (below_store (below_store (below_store hB hgg _) hgg _) hgg _) hgg _) hgg _
end
end Go.Proofs.YtbffpkmfhkphdaaGreatDoor
namespace Go.Proofs.YtbffpkmfhkphdaaGreatDoor
open Go Lib Go.RowKit Limb
theorem unpB_take_succ{l:List Nat}{k:Nat}(hk:k<l.length):unpB (l.take (k+1))=unpB (l.take k)++by4 (wd l k):=by
 rw[take_wd hk,unpB_append];show _++(by4 _++[])=_;rw[List.append_nil]
theorem Sl.lay{K:IntKind}{w:World}{g n c:Nat}{e:TypeId}{l:List Nat}(h:Sl w g e n c (nums K l))(hn:n=n):Lay K w (some ⟨g,0,none⟩) l:=
 ⟨g,0,fun _=>⟨rfl,h.lt⟩,fun i hi=>by
  have hl:=h.len;rw[nums_length]at hl;rw[Nat.zero_add,h.cell (by omega),nums_get hi]⟩
theorem index_off{P:Program}(t e:TypeId)(ht:P.underlying t=some (.slice e))(hs: ∀W,(sizeOf e).run P W= .ok 1 W)(g off n c:Nat)(W:World)(k:IntKind)(i:Nat)(hi:i<n):(Instr.indexAt t (.slice (some ⟨g,off,none⟩) n c) (.int k i)).run P W= .ok (.pointer (some ⟨g,off+i,none⟩)) W:=by
 have h1:(0:Int)≤(i:Int):=by omega
 have h2:(i:Int)<(n:Int):=by omega
 simp[Instr.indexAt,run_underlying ht,asIntOf,h1,h2,hs,Result.andThen,Addr.add];rw[if_pos hi];by_cases h0:i=0
 ·subst h0;rfl
 ·rw[if_neg h0]
theorem oop_unpackbytes0(w:World)(a:Option Addr)(l:List Nat)(m cap s N:Nat)(hN:4*m=N+s)(hlay:Lay .u32 w a l)(hlim:Lim l)(hn:m=l.length)(hl:m≤65535)(hs:s≤3)(hs0:s=0)(hz:(unpB l).drop N=List.replicate s 0):Calls Tryz.prog 322 #[.slice a m cap,.int .i64 s] w fun e w'=>(∃g,e= .returned (.tuple #[.slice (some ⟨g,0,none⟩) N N,.int .i64 0])∧w.heap.size≤g∧Lay .u8 w' (some ⟨g,0,none⟩) ((unpB l).take N))∧Below w.heap.size w w':=by
 obtain⟨b1,off1,hix,hcx,_⟩:=hlay.use 22 60 Tryz.underlying22 size32 cap;rw[←hn]at hix hcx;have HIX:=hid hix;have HCX:=hid hcx;have HT:=hid (fun k (hk:k<m)=>unpB_take_succ (l:=l) (k:=k) (by omega));have HL:=hid (show∀k,k≤m→(unpB (l.take k)).length=4*k from fun k hk=>by rw[unpB_length,List.length_take];omega);have HA:=hid (show unpB (l.take m)=unpB l by rw[hn,List.take_length]);have HW:=hid (fun k=>hlim.wd k);have HZ:=hid hz;have d1:decide ((65535:Int)<(m:Int))=false:=decide_eq_false (by omega);have d1':decide (65535<m)=false:=decide_eq_false (by omega);have d2:decide ((s:Int)<0)=false:=decide_eq_false (by omega);have d3:decide ((3:Int)<(s:Int))=false:=decide_eq_false (by omega);have d3':decide (3<s)=false:=decide_eq_false (by omega);have d4:decide ((0:Int)<(s:Int))=false:=decide_eq_false (by omega);have d4':decide (0<s)=false:=decide_eq_false (by omega);have HS0:=hid hs0;clear hs0;have HN:=hid hN;have hNb:N≤262140:=by omega
 clear hix hcx hlay hlim hn hz hN;obtain⟨i0,hi,hz0,hz1,hz2⟩:=info_parts info8;go_enter Tryz.func322,Tryz.ntmps322;go_wp2_with(at_make;refine wpList_make_row rfl _ _ _ rfl 5 (.int .u8 0) 1 Tryz.underlying72 info8 rfl _ _ _ _ 0 (4*m) rfl rfl rfl (by omega) (by omega) (by omega) (by omega) ?_;intro w1 g hg1 hg2 hrow hbel);go_loopw[36,6] (fun i v wr=> ∃k gw c:Nat,k≤m∧i= .int .i64 k∧v= .slice (some ⟨gw,0,none⟩) (4*k) c∧Sl wr gw 5 (4*k) c (nums .u8 (unpB (l.take k)))∧w.heap.size≤gw∧Below w.heap.size w wr) (fun i _ _=>m-(intOf i).toNat);case atStart=>exact⟨0,g,4*m,Nat.zero_le _,rfl,rfl,⟨_,hrow,by simp,rfl,Nat.zero_le _,Nat.le_trans (show 4*m≤262140 by omega) (by decide),by simp[unpB,nums]⟩,hg1,hbel⟩
 case round=>
  clear hrow hbel;obtain⟨k,gw,c,hk,rfl,rfl,sl,hgw,hB⟩:=hrel;by_cases h0:k<m
  ·have e1:decide ((k:Int)<(m:Int))=true:=decide_eq_true (by omega);have e1':decide (k<m)=true:=decide_eq_true h0;have ix:=HIX.out wr .i64 k (by omega) (by omega);rw[Int.toNat_natCast]at ix;have cx:=HCX.out wr hB k h0;have hwk:=HW.out k;have ht:=HT.out k h0;generalize wd l k=x at*
   have e4:nums .u8 (by4 x)=[.int .u8 ((x:Int)%256),.int .u8 ((x:Int)/256%256),.int .u8 ((x:Int)/65536%256),.int .u8 ((x:Int)/16777216%256)]:=rfl;obtain⟨X8,hX8,r8,hb8,hz8⟩:=alloc_row wr 5 [.int .u8 ((x:Int)%256),.int .u8 ((x:Int)/256%256),.int .u8 ((x:Int)/65536%256),.int .u8 ((x:Int)/16777216%256)];obtain⟨v9,X9,hr9,hg9⟩:=run_sl_append (P:=Tryz.prog) (t:=72) (ty:=72) Tryz.underlying72 hi hz0 hz1 hz2 rfl (sl.below hb8) ⟨wr.heap.size,0,none⟩ 4 4 (by omega) (nums .u8 (by4 x)) rfl (row_news (by rw[e4];exact r8)) (by rw[e4];simp[Value.oneCell']) (Nat.le_trans (show 4*k+4≤262144 by omega) (by decide)) (by omega);have ho9:=hg9.only;rw[←nums_append,←ht]at hg9;obtain⟨gw9,c9,rfl,sl9,hgg,-⟩:=hg9;have hB9:Below w.heap.size w X9:=(hB.trans (hb8.mono hB.size)).trans (ho9.belowB (by have:=hB.size;omega) (fun p hp=>by rw[List.mem_singleton]at hp;subst hp;exact hgw));rw[hX8]at hr9;have HR9:=hid hr9;have HS9:=hid sl9
   have hgw9:w.heap.size≤gw9:=by
    rcases hgg with e|e
    ·rw[e];exact hgw
    ·have:=hB.size;omega
   clear hr9 sl9 hX8 r8 hb8 hgg ho9 ht e4 hwk sl;go_wp2_with(at_builtin;refine Lib.wpList_append_run _ rfl _ _ _ _ rfl _ _ rfl rfl _ _ HR9.out ?_);go_roundw;case rel=>exact⟨k+1,gw9,c9,h0,by simp,by simp[Nat.mul_add],HS9.out,hgw9,hB9⟩
   case measure=>simp[intOf];omega
  ·obtain rfl:k=m:=by omega
   rw[HA.out]at sl;have hlu:=HL.out k (Nat.le_refl _);rw[HA.out]at hlu;have hN:=HN.out;have hs00:=HS0.out;have HLay:=hid (show Lay .u8 wr (some ⟨gw,0,none⟩) ((unpB l).take N)from(sl.lay rfl).take N);have e1:decide ((k:Int)<(k:Int))=false:=decide_eq_false (by omega);have e1':decide (k<k)=false:=decide_eq_false (by omega);have hle:=sl.le;have hcN:c=N∨¬c=N:=by omega
   rw[hN]at hle ⊢;clear sl hlu hN HN HZ HT HL HA HW HIX HCX hs00;rcases hcN with hcN|hcN
   ·go_wp2_with fail;go_loopw[63] (fun i wx=> ∃j:Nat,j≤s∧i= .int .i64 j∧wr=wx) (fun i _=>s-(intOf i).toNat);case atStart=>exact⟨0,Nat.zero_le _,rfl,by trivial⟩
    case round=>
     obtain⟨j,hj,rfl,rfl⟩:=hrel;have hs00:=HS0.out;obtain rfl:j=s:=by omega
     have f1:decide ((j:Int)<(j:Int))=false:=decide_eq_false (by omega);have f1':decide (j<j)=false:=decide_eq_false (by omega);clear hs00;go_wp2_with fail;go_ret2;exact⟨⟨gw,rfl,hgw,HLay.out⟩,hB⟩
   ·go_wp2_with fail;go_loopw[63] (fun i wx=> ∃j:Nat,j≤s∧i= .int .i64 j∧wr=wx) (fun i _=>s-(intOf i).toNat);case atStart=>exact⟨0,Nat.zero_le _,rfl,by trivial⟩
    case round=>
     obtain⟨j,hj,rfl,rfl⟩:=hrel;have hs00:=HS0.out;obtain rfl:j=s:=by omega
     have f1:decide ((j:Int)<(j:Int))=false:=decide_eq_false (by omega);have f1':decide (j<j)=false:=decide_eq_false (by omega);clear hs00;go_wp2_with fail;go_ret2;exact⟨⟨gw,rfl,hgw,HLay.out⟩,hB⟩
theorem oop_unpackbytes1(w:World)(a:Option Addr)(l:List Nat)(m cap s N:Nat)(hN:4*m=N+s)(hlay:Lay .u32 w a l)(hlim:Lim l)(hn:m=l.length)(hl:m≤65535)(hs:s≤3)(hs0:0<s)(hm0:0<m)(hz:(unpB l).drop N=List.replicate s 0):Calls Tryz.prog 322 #[.slice a m cap,.int .i64 s] w fun e w'=>(∃g,e= .returned (.tuple #[.slice (some ⟨g,0,none⟩) N N,.int .i64 0])∧w.heap.size≤g∧Lay .u8 w' (some ⟨g,0,none⟩) ((unpB l).take N))∧Below w.heap.size w w':=by
 obtain⟨b1,off1,hix,hcx,_⟩:=hlay.use 22 60 Tryz.underlying22 size32 cap;rw[←hn]at hix hcx;have HIX:=hid hix;have HCX:=hid hcx;have HT:=hid (fun k (hk:k<m)=>unpB_take_succ (l:=l) (k:=k) (by omega));have HL:=hid (show∀k,k≤m→(unpB (l.take k)).length=4*k from fun k hk=>by rw[unpB_length,List.length_take];omega);have HA:=hid (show unpB (l.take m)=unpB l by rw[hn,List.take_length]);have HW:=hid (fun k=>hlim.wd k);have HZ:=hid hz;have d1:decide ((65535:Int)<(m:Int))=false:=decide_eq_false (by omega);have d1':decide (65535<m)=false:=decide_eq_false (by omega);have d2:decide ((s:Int)<0)=false:=decide_eq_false (by omega);have d3:decide ((3:Int)<(s:Int))=false:=decide_eq_false (by omega);have d3':decide (3<s)=false:=decide_eq_false (by omega);have d4:decide ((0:Int)<(s:Int))=true:=decide_eq_true (by omega);have d4':decide (0<s)=true:=decide_eq_true hs0;have d5:((m:Int)==0)=false:=by rw[beq_eq_false_iff_ne];omega
 have d5':(m==0)=false:=by rw[beq_eq_false_iff_ne];omega
 have HN:=hid hN;have hNb:N≤262140:=by omega
 clear hix hcx hlay hlim hn hz hN;obtain⟨i0,hi,hz0,hz1,hz2⟩:=info_parts info8;go_enter Tryz.func322,Tryz.ntmps322;go_wp2_with(at_make;refine wpList_make_row rfl _ _ _ rfl 5 (.int .u8 0) 1 Tryz.underlying72 info8 rfl _ _ _ _ 0 (4*m) rfl rfl rfl (by omega) (by omega) (by omega) (by omega) ?_;intro w1 g hg1 hg2 hrow hbel);go_loopw[36,6] (fun i v wr=> ∃k gw c:Nat,k≤m∧i= .int .i64 k∧v= .slice (some ⟨gw,0,none⟩) (4*k) c∧Sl wr gw 5 (4*k) c (nums .u8 (unpB (l.take k)))∧w.heap.size≤gw∧Below w.heap.size w wr) (fun i _ _=>m-(intOf i).toNat);case atStart=>exact⟨0,g,4*m,Nat.zero_le _,rfl,rfl,⟨_,hrow,by simp,rfl,Nat.zero_le _,Nat.le_trans (show 4*m≤262140 by omega) (by decide),by simp[unpB,nums]⟩,hg1,hbel⟩
 case round=>
  clear hrow hbel;obtain⟨k,gw,c,hk,rfl,rfl,sl,hgw,hB⟩:=hrel;by_cases h0:k<m
  ·have e1:decide ((k:Int)<(m:Int))=true:=decide_eq_true (by omega);have e1':decide (k<m)=true:=decide_eq_true h0;have ix:=HIX.out wr .i64 k (by omega) (by omega);rw[Int.toNat_natCast]at ix;have cx:=HCX.out wr hB k h0;have hwk:=HW.out k;have ht:=HT.out k h0;generalize wd l k=x at*
   have e4:nums .u8 (by4 x)=[.int .u8 ((x:Int)%256),.int .u8 ((x:Int)/256%256),.int .u8 ((x:Int)/65536%256),.int .u8 ((x:Int)/16777216%256)]:=rfl;obtain⟨X8,hX8,r8,hb8,hz8⟩:=alloc_row wr 5 [.int .u8 ((x:Int)%256),.int .u8 ((x:Int)/256%256),.int .u8 ((x:Int)/65536%256),.int .u8 ((x:Int)/16777216%256)];obtain⟨v9,X9,hr9,hg9⟩:=run_sl_append (P:=Tryz.prog) (t:=72) (ty:=72) Tryz.underlying72 hi hz0 hz1 hz2 rfl (sl.below hb8) ⟨wr.heap.size,0,none⟩ 4 4 (by omega) (nums .u8 (by4 x)) rfl (row_news (by rw[e4];exact r8)) (by rw[e4];simp[Value.oneCell']) (Nat.le_trans (show 4*k+4≤262144 by omega) (by decide)) (by omega);have ho9:=hg9.only;rw[←nums_append,←ht]at hg9;obtain⟨gw9,c9,rfl,sl9,hgg,-⟩:=hg9;have hB9:Below w.heap.size w X9:=(hB.trans (hb8.mono hB.size)).trans (ho9.belowB (by have:=hB.size;omega) (fun p hp=>by rw[List.mem_singleton]at hp;subst hp;exact hgw));rw[hX8]at hr9;have HR9:=hid hr9;have HS9:=hid sl9
   have hgw9:w.heap.size≤gw9:=by
    rcases hgg with e|e
    ·rw[e];exact hgw
    ·have:=hB.size;omega
   clear hr9 sl9 hX8 r8 hb8 hgg ho9 ht e4 hwk sl;go_wp2_with(at_builtin;refine Lib.wpList_append_run _ rfl _ _ _ _ rfl _ _ rfl rfl _ _ HR9.out ?_);go_roundw;case rel=>exact⟨k+1,gw9,c9,h0,by simp,by simp[Nat.mul_add],HS9.out,hgw9,hB9⟩
   case measure=>simp[intOf];omega
  ·obtain rfl:k=m:=by omega
   rw[HA.out]at sl;have hlu:=HL.out k (Nat.le_refl _);rw[HA.out]at hlu;have hN:=HN.out;have HLay:=hid (show Lay .u8 wr (some ⟨gw,0,none⟩) ((unpB l).take N)from(sl.lay rfl).take N);have e1:decide ((k:Int)<(k:Int))=false:=decide_eq_false (by omega);have e1':decide (k<k)=false:=decide_eq_false (by omega);have hle:=sl.le;have hcells:=fun j (hj:j<s)=>sl.cell (i:=N+j) (by omega)
   have hzero:=fun j (hj:j<s)=>show(nums .u8 (unpB l))[N+j]? =some (.int .u8 0)from by
    rw[nums_get (by omega),←wd_drop,HZ.out,wd_replicate];rfl
   have HC:=hid (fun j (hj:j<s)=>(hcells j hj).trans (hzero j hj));have hcN: ¬c=N:=by omega
   rw[hN]at hle ⊢;clear sl hlu hN HN HZ HT HL HA HW HIX HCX hcells hzero;go_wp2_with fail;go_loopw[63] (fun i wx=> ∃j:Nat,j≤s∧i= .int .i64 j∧wr=wx) (fun i _=>s-(intOf i).toNat);case atStart=>exact⟨0,Nat.zero_le _,rfl,by trivial⟩
   case round=>
    obtain⟨j,hj,rfl,rfl⟩:=hrel;by_cases j0:j<s
    ·have f1:decide ((j:Int)<(s:Int))=true:=decide_eq_true (by omega);have f1':decide (j<s)=true:=decide_eq_true j0;have cj:=HC.out j j0;have ix:=fun W=>index_off (P:=Tryz.prog) 72 5 Tryz.underlying72 size8 gw N s (c-N) W .i64 j j0
     go_wp2_with fail;go_roundw;case rel=>exact⟨j+1,j0,by simp,by trivial⟩
     case measure=>simp[intOf];omega
    ·obtain rfl:j=s:=by omega
     have f1:decide ((j:Int)<(j:Int))=false:=decide_eq_false (by omega);have f1':decide (j<j)=false:=decide_eq_false (by omega);go_wp2_with fail;go_ret2;exact⟨⟨gw,rfl,hgw,HLay.out⟩,hB⟩
end Go.Proofs.YtbffpkmfhkphdaaGreatDoor

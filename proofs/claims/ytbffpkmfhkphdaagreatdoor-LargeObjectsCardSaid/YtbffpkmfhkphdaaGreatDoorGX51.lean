/- What the walk of the law LargeObjects carries along: the program's heap, the document's, and the law's own box. -/
import Derived.Test.YtbffpkmfhkphdaaGreatDoorGX00
import Derived.Test.YtbffpkmfhkphdaaGreatDoorGX50
import Derived.Test.YtbffpkmfhkphdaaGreatDoorGX47
import Derived.Test.YtbffpkmfhkphdaaGreatDoorGX46
set_option linter.unusedVariables false
set_option linter.unusedSimpArgs false
set_option maxRecDepth 1000000
namespace Go.Proofs.YtbffpkmfhkphdaaGreatDoor
open Go Lib Go.RowKit Limb
section
variable (w:World) (neg:Bool) (a:Option Addr) (l:List Nat) (m cap:Nat)
theorem large_words_no(hc:Came w neg a m l)(hm:mayB neg l=false):Calls Tryz.prog 43 #[.agg #[.bool neg,.slice a m cap]] w fun e w'=>e= .returned (.int .i64 (needN neg l))∧Below w.heap.size w w':=by
 obtain⟨W,hWe,r0,hW⟩: ∃W,W=w.alloc (.cells #[.bool neg,.slice a m cap] 24)∧Row W w.heap.size 24 [.bool neg,.slice a m cap]∧Below w.heap.size w W:=⟨_,rfl,by unfold Row;exact heap_alloc_new _ _,(Below.refl _ _).alloc (Nat.le_refl _) _⟩;have HWe:=hid hWe;clear hWe;have c0:=r0.cell_at 0;have c1:=r0.cell_at 1;simp only[yB,yC]at c0 c1;have hn:needN neg l=0:=by unfold needN;rw[hm];rfl
 have hS:=large_small W neg a l m cap (hc.below hW);have hM:=fun X (hb:Below W.heap.size W X)=>large_May X neg a l m cap ((hc.below hW).below hb).1 hc.2.1 hc.2.2.1 hc.2.2.2
 rw[hm]at hS hM;rw[hn];have HS:=hid hS;have HM:=hid hM;generalize signed neg (val l)=z at*
 generalize isSm z=sb at*
 clear hc hn hm hS hM;go_enter Tryz.func43,Tryz.ntmps43;go_wp2_with fail;rw[←HWe.out];refine(HS.out).mono ?_;rintro e V ⟨⟨v,rfl,-⟩,hb⟩;(try dsimp only);have HB:=hid hb;have r0:=r0.below hb r0.lt;have hW:=hW.trans (hb.mono hW.size);clear c0 c1;have c0:=r0.cell_at 0;have c1:=r0.cell_at 1;simp only[yB,yC]at c0 c1;clear hb;go_wp2_with fail;refine(HM.out V HB.out).mono ?_;rintro e V2 ⟨rfl,hb2⟩;(try dsimp only);have r0:=r0.below hb2 r0.lt;have hW:=hW.trans (hb2.mono hW.size);clear c0 c1;have c0:=r0.cell_at 0;have c1:=r0.cell_at 1;simp only[yB,yC]at c0 c1;clear hb2;go_wp2_with fail;go_ret;exact⟨rfl,hW⟩
theorem ref_words_no(hc:Came w neg a m l)(hm:mayB neg l=false):Calls Tryz.prog 44 #[.agg #[.bool neg,.slice a m cap]] w fun e w'=>e= .returned (.int .i64 (needN neg l))∧Below w.heap.size w w':=by
 obtain⟨W,hWe,r0,hW⟩: ∃W,W=w.alloc (.cells #[.bool neg,.slice a m cap] 24)∧Row W w.heap.size 24 [.bool neg,.slice a m cap]∧Below w.heap.size w W:=⟨_,rfl,by unfold Row;exact heap_alloc_new _ _,(Below.refl _ _).alloc (Nat.le_refl _) _⟩;have HWe:=hid hWe;clear hWe;have c0:=r0.cell_at 0;have c1:=r0.cell_at 1;simp only[yB,yC]at c0 c1;have hn:needN neg l=0:=by unfold needN;rw[hm];rfl
 have hS:=ref_small W neg a l m cap (hc.below hW);have hM:=fun X (hb:Below W.heap.size W X)=>ref_May X neg a l m cap ((hc.below hW).below hb).1 hc.2.1 hc.2.2.1 hc.2.2.2
 rw[hm]at hS hM;rw[hn];have HS:=hid hS;have HM:=hid hM;generalize signed neg (val l)=z at*
 generalize isSm z=sb at*
 clear hc hn hm hS hM;go_enter Tryz.func44,Tryz.ntmps44;go_wp2_with fail;rw[←HWe.out];refine(HS.out).mono ?_;rintro e V ⟨⟨v,b,rfl,-,-⟩,hb⟩;(try dsimp only);have HB:=hid hb;have r0:=r0.below hb r0.lt;have hW:=hW.trans (hb.mono hW.size);clear c0 c1;have c0:=r0.cell_at 0;have c1:=r0.cell_at 1;simp only[yB,yC]at c0 c1;clear hb;cases b with
 |true=>
  go_wp2_with fail;go_ret;exact⟨rfl,hW⟩
 |false=>
  go_wp2_with fail;refine(HM.out V HB.out).mono ?_;rintro e V2 ⟨rfl,hb2⟩;(try dsimp only);have r0:=r0.below hb2 r0.lt;have hW:=hW.trans (hb2.mono hW.size);clear c0 c1;have c0:=r0.cell_at 0;have c1:=r0.cell_at 1;simp only[yB,yC]at c0 c1;clear hb2;go_wp2_with fail;go_ret;exact⟨rfl,hW⟩
theorem may_len(h:mayB neg l=true):l.length≤1024:=by
 unfold mayB at h;split at h
 ·omega
 ·rw[Bool.and_eq_true,decide_eq_true_eq]at h;exact h.1
theorem large_words_any(hc:Came w neg a m l):Calls Tryz.prog 43 #[.agg #[.bool neg,.slice a m cap]] w fun e w'=>e= .returned (.int .i64 (needN neg l))∧Below w.heap.size w w':=by
 cases hm:mayB neg l with
 |false=>exact large_words_no w neg a l m cap hc hm
 |true=>exact large_Words w neg a l m cap hc (by have:=may_len neg l hm;have:=hc.2.2.1;omega)
theorem ref_words_any(hc:Came w neg a m l):Calls Tryz.prog 44 #[.agg #[.bool neg,.slice a m cap]] w fun e w'=>e= .returned (.int .i64 (needN neg l))∧Below w.heap.size w w':=by
 cases hm:mayB neg l with
 |false=>exact ref_words_no w neg a l m cap hc hm
 |true=>exact ref_words w neg a l m cap hc (by have:=may_len neg l hm;have:=hc.2.2.1;omega)
end
theorem r_top{w:World}{G:RFoot}{h:Hp}(H:RefAt w G h):Calls Tryz.prog 54 #[.pointer (some ⟨G.p,0,none⟩)] w fun e w'=>e= .returned (.int .i64 h.ws.length)∧w=w':=by
 obtain⟨cw,cs,c0,c1,c2,c3,c4,hw,hs⟩:=H.cells;clear hw hs H;go_enter Tryz.func54,Tryz.ntmps54;go_wp2_with fail;go_ret;exact⟨rfl,rfl⟩
structure Bo (w:World) (F:Foot) (G:RFoot) (bx:Nat) (bc:List Value) (X:World) (F':Foot) (G':RFoot) (h g:Hp):Prop where
 hp:HeapAt X F' h
 rf:RefAt X G' g
 ap: ∀b∈F'.l,b∉G'.l
 ff: ∀b∈F'.l,w.heap.size≤b
 fg: ∀b∈G'.l,w.heap.size≤b
 bel:Below w.heap.size w X
 fp:F'.p=F.p
 gp:G'.p=G.p
 ggr:G'.gr=G.gr
 box:Row X bx 24 bc
 low:5≤w.heap.size
section
variable {w X X':World} {F F' F'':Foot} {G G' G'':RFoot} {bx:Nat} {bc:List Value} {h h' g g':Hp}
theorem Bo.stepF(c:Bo w F G bx bc X F' G' h g)(s:Step X F' X' F'' h'):Bo w F G bx bc X' F'' G' h' g:=
 ⟨s.1,c.rf.only s.2.2 (fun q hq e=>c.ap q e hq),fun b hb e=>by
  rcases s.2.1.mem b hb with x|x
  ·exact c.ap b x e
  ·have:=c.rf.lt b e;omega,fun b hb=>by
  rcases s.2.1.mem b hb with x|x
  ·exact c.ff b x
  ·have:=c.bel.size;omega,c.fg,c.bel.trans (s.2.2.belowB c.bel.size c.ff),s.2.1.p.trans c.fp,c.gp,c.ggr,s.beside c.box (c.hp.not_mem c.box (by decide) (by decide) (by decide) (by decide)),c.low⟩
theorem Bo.stepG(c:Bo w F G bx bc X F' G' h g)(s:RStep X G' X' G'' g'):Bo w F G bx bc X' F' G'' h g':=
 ⟨c.hp.only s.2.2 (fun q hq e=>c.ap q hq e) (fun e=>by have:=c.rf.ge 2 e;omega),s.1,fun b hb e=>by
  rcases s.2.1.mem b e with x|x
  ·exact c.ap b hb x
  ·have:=c.hp.lt b hb;omega,c.ff,fun b hb=>by
  rcases s.2.1.mem b hb with x|x
  ·exact c.fg b x
  ·have:=c.bel.size;omega,c.bel.trans (s.2.2.belowB c.bel.size c.fg),c.fp,s.2.1.p.trans c.gp,s.2.1.gr.trans c.ggr,s.beside c.box (c.rf.not_mem c.box (by decide) (by decide) (by decide) (by decide)),c.low⟩
theorem Bo.below(c:Bo w F G bx bc X F' G' h g)(hb:Below X.heap.size X X'):Bo w F G bx bc X' F' G' h g:=
 ⟨c.hp.below hb,c.rf.below hb,c.ap,c.ff,c.fg,c.bel.trans (hb.mono c.bel.size),c.fp,c.gp,c.ggr,c.box.below hb c.box.lt,c.low⟩
theorem Bo.lowX(c:Bo w F G bx bc X F' G' h g):5≤X.heap.size:=Nat.le_trans c.low c.bel.size
theorem Bo.root(c:Bo w F G bx bc X F' G' h g){i:Nat}(hi:i<64):X.cell? ⟨G.p,2,none⟩=some (.slice (some ⟨G.gr,0,none⟩) 64 64)∧X.cell? ⟨G.gr,i,none⟩=some (.int .u32 (wd g.rt i:Nat))∧∀W,(Instr.indexAt 71 (.slice (some ⟨G.gr,0,none⟩) 64 64) (.int .i64 i)).run Tryz.prog W= .ok (.pointer (some ⟨G.gr,i,none⟩)) W:=by
 have:=c.rf.root hi
 rwa [c.gp,c.ggr]at this
theorem Bo.last(c:Bo w F G bx bc X F' G' h g):X.cell? ⟨G.p,3,none⟩=some (.int .u32 g.last):=by
 obtain⟨cw,cs,c0,c1,c2,c3,c4,_⟩:=c.rf.cells
 rwa [c.gp]at c3
theorem Bo.came(c:Bo w F G bx bc X F' G' h g){b:Bool}{a:Option Addr}{n:Nat}{l:List Nat}(k:Came w b a n l):Came X b a n l∧(0<l.length→∀q off,a=some ⟨q,off,none⟩→q∉F'.l)∧(0<l.length→∀q off,a=some ⟨q,off,none⟩→q∉G'.l):=by
 have hlt:0<l.length→∀q off,a=some ⟨q,off,none⟩→q<w.heap.size:=fun hl q off e=>by
  obtain⟨q',off',x1,_⟩:=k.1;obtain⟨y1,y2⟩:=x1 hl;rw[e]at y1;have:q=q':=by injection y1 with y1;injection y1
  omega
 exact⟨k.below c.bel,fun hl q off e hm=>by have:=hlt hl q off e;have:=c.ff q hm;omega,fun hl q off e hm=>by have:=hlt hl q off e;have:=c.fg q hm;omega⟩
theorem bo_allocF(c:Bo w F G bx bc X F' G' h g)(cl n o:Nat)(h':Hp)(hn:n≤65535)(hp:allocP h cl 3 n=some (o,h')):Calls Tryz.prog 45 #[.pointer (some ⟨F.p,0,none⟩),.int .u32 cl,.int .i64 3,.int .i64 n] X fun e X'=>e= .returned (.tuple #[.int .u32 o,.int .i64 0])∧∃F'',Bo w F G bx bc X' F'' G' h' g:=by
 rw[←c.fp];exact(show Calls Tryz.prog 45 #[.pointer (some ⟨F'.p,0,none⟩),.int .u32 cl,.int .i64 3,.int .i64 n] X _ from heap_Alloc c.hp cl 3 n o h' (by decide) (by decide) hn hp).mono fun e X' ⟨x,F'',y⟩=>⟨x,F'',c.stepF y⟩
theorem bo_allocG(c:Bo w F G bx bc X F' G' h g)(cl n o:Nat)(g':Hp)(hn:n≤65535)(hp:allocP g cl 3 n=some (o,g')):Calls Tryz.prog 46 #[.pointer (some ⟨G.p,0,none⟩),.int .u32 cl,.int .i64 3,.int .i64 n] X fun e X'=>e= .returned (.tuple #[.int .u32 o,.int .i64 0])∧∃G'',Bo w F G bx bc X' F' G'' h g':=by
 rw[←c.gp];exact(show Calls Tryz.prog 46 #[.pointer (some ⟨G'.p,0,none⟩),.int .u32 cl,.int .i64 3,.int .i64 n] X _ from r_alloc c.rf c.lowX cl 3 n o g' (.inr rfl) hn hp).mono fun e X' ⟨x,G'',y⟩=>⟨x,G'',c.stepG y⟩
theorem bo_swF(c:Bo w F G bx bc X F' G' h g){o i v:Nat}(hf:isF h o 3 (i+1)=true)(hi:i≤65535)(hv:v<4294967296):Calls Tryz.prog 47 #[.pointer (some ⟨F.p,0,none⟩),.int .u32 o,.int .i64 i,.int .u32 v] X fun e X'=>e= .returned (.int .i64 0)∧Bo w F G bx bc X' F' G' (Limb.putF h o i v) g:=by
 rw[←c.fp];exact(heap_setwordF c.hp hf hi hv).mono fun e X' ⟨x,y⟩=>⟨x,by have:=c.stepF y;exact this⟩
theorem bo_swG(c:Bo w F G bx bc X F' G' h g){o i v:Nat}(hf:isF g o 3 (i+1)=true)(hv:v<4294967296):Calls Tryz.prog 48 #[.pointer (some ⟨G.p,0,none⟩),.int .u32 o,.int .i64 i,.int .u32 v] X fun e X'=>e= .returned (.int .i64 0)∧Bo w F G bx bc X' F' G' h (Limb.putF g o i v):=by
 rw[←c.gp];exact(r_setword c.rf hf hv).mono fun e X' ⟨x,y⟩=>⟨x,by have:=c.stepG y;exact this⟩
theorem bo_readF(c:Bo w F G bx bc X F' G' h g)(o:Nat)(ho:o<4294967296)(h17:isO h (wd h.rt 17)=true):Calls Tryz.prog 49 #[.pointer (some ⟨F.p,0,none⟩),.int .u32 o] X fun e X'=>ReadRes h o X X' e:=by
 rw[←c.fp];exact large_read c.hp o ho h17
theorem bo_readG(c:Bo w F G bx bc X F' G' h g)(o:Nat)(ho:o<4294967296)(h17:isO g (wd g.rt 17)=true):Calls Tryz.prog 50 #[.pointer (some ⟨G.p,0,none⟩),.int .u32 o] X fun e X'=>ReadRes g o X X' e:=by
 rw[←c.gp];exact ref_read c.rf o ho h17
theorem bo_makeF(c:Bo w F G bx bc X F' G' h g)(neg:Bool)(a:Option Addr)(l:List Nat)(m cap:Nat)(hc:Came w neg a m l)(hm:mayB neg l=true)(hs:isSm (signed neg (val l))=false)(hml:m≤1024)(o:Nat)(h1:Hp)(hp:allocP h (wd h.rt 17) 3 (1+m)=some (o,h1)):Calls Tryz.prog 51 #[.pointer (some ⟨F.p,0,none⟩),.agg #[.bool neg,.slice a m cap]] X fun e X'=>e= .returned (.tuple #[.int .u32 o,.int .i64 0])∧∃F'',Bo w F G bx bc X' F'' G' (Limb.mkH h1 o neg l) g:=by
 obtain⟨k1,k2,k3⟩:=c.came hc;rw[←c.fp];exact(large_make c.hp neg a l m cap k1 k2 hm hs hml o h1 hp).mono fun e X' ⟨x,F'',y⟩=>⟨x,F'',c.stepF y⟩
theorem bo_makeG(c:Bo w F G bx bc X F' G' h g)(neg:Bool)(a:Option Addr)(l:List Nat)(m cap:Nat)(hc:Came w neg a m l)(hm:mayB neg l=true)(hs:isSm (signed neg (val l))=false)(hml:m≤1024)(o:Nat)(h1:Hp)(hp:allocP g (wd g.rt 17) 3 (1+m)=some (o,h1)):Calls Tryz.prog 52 #[.pointer (some ⟨G.p,0,none⟩),.agg #[.bool neg,.slice a m cap]] X fun e X'=>e= .returned (.tuple #[.int .u32 o,.int .i64 0])∧∃G'',Bo w F G bx bc X' F' G'' h (Limb.mkH h1 o neg l):=by
 obtain⟨k1,k2,k3⟩:=c.came hc;rw[←c.gp];exact(ref_make c.rf c.lowX neg a l m cap k1 k3 hm hs hml o h1 hp).mono fun e X' ⟨x,G'',y⟩=>⟨x,G'',c.stepG y⟩
theorem bo_topF(c:Bo w F G bx bc X F' G' h g):Calls Tryz.prog 53 #[.pointer (some ⟨F.p,0,none⟩)] X fun e X'=>e= .returned (.int .i64 h.ws.length)∧X=X':=by
 rw[←c.fp];exact heap_top c.hp
theorem bo_topG(c:Bo w F G bx bc X F' G' h g):Calls Tryz.prog 54 #[.pointer (some ⟨G.p,0,none⟩)] X fun e X'=>e= .returned (.int .i64 g.ws.length)∧X=X':=by
 rw[←c.gp];exact r_top c.rf
theorem bo_lastF(c:Bo w F G bx bc X F' G' h g):Calls Tryz.prog 55 #[.pointer (some ⟨F.p,0,none⟩)] X fun e X'=>e= .returned (.int .u32 h.last)∧X=X':=by
 rw[←c.fp];exact heap_last c.hp
end
theorem valueO_smallO{z:Int}(h:isSm z=true):valueO (smallO z)=z∧smallO z%2=1∧smallO z<4294967296:=by
 unfold isSm at h;simp only[Bool.and_eq_true,decide_eq_true_eq]at h;have e:smallO z=((2*z+1)%4294967296).toNat:=rfl;have e2:valueO (smallO z)=(if smallO z<2147483648 then(smallO z:Int)-1 else(smallO z:Int)-4294967296-1)/2:=rfl;refine⟨?_,by omega,by omega⟩;rw[e2];split<;>omega
end Go.Proofs.YtbffpkmfhkphdaaGreatDoor

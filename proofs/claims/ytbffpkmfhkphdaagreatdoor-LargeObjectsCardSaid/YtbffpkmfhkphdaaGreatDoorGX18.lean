/- The walks of the reference's Of and Neg. The walk of the reference's Div. A heap of the program's in memory. The walks of package heap: made, Is, at, value, class, Root, Top, Last, Size. A region that draws its order and whose operations each yield one value in every world of a class: one walk. -/
import Derived.Test.YtbffpkmfhkphdaaGreatDoorGX17
import Derived.Test.YtbffpkmfhkphdaaGreatDoorGX03
import Derived.Test.YtbffpkmfhkphdaaGreatDoorGX02
import Derived.Test.YtbffpkmfhkphdaaGreatDoorGX10
import Derived.Test.YtbffpkmfhkphdaaGreatDoorGX16
import Derived.Test.YtbffpkmfhkphdaaGreatDoorGX08
import Derived.Test.YtbffpkmfhkphdaaGreatDoorGX01
import Derived.Handy
import Derived.Test.YtbffpkmfhkphdaaGreatDoorGX13
import Derived.Test.YtbffpkmfhkphdaaGreatDoorGX00
import Derived.Deep.QuietTactic
set_option linter.unusedVariables false
set_option linter.unusedSimpArgs false
set_option maxRecDepth 1000000
set_option maxHeartbeats 6400000
namespace Go.Proofs.YtbffpkmfhkphdaaGreatDoor
open Go Lib Go.RowKit Limb
theorem row_two(w:World)(t:TypeId)(K:IntKind)(a b:Nat):Lay K (w.alloc (.cells #[.int K (a:Int),.int K (b:Int)] t)) (some ⟨w.heap.size,0,none⟩) [a,b]:=by
 have h:Row (w.alloc (.cells #[.int K (a:Int),.int K (b:Int)] t)) w.heap.size t (nums K [a,b]):=by unfold Row;exact heap_alloc_new _ _
 exact h.lay
theorem val_two(lo hi:Nat):val [lo,hi]=lo+4294967296*hi:=by simp[val]
theorem ref_of(w:World)(v:Int)(h1: -9223372036854775808≤v)(h2:v≤9223372036854775807):Calls Tryz.prog 23 #[.int .i64 v] w fun e w'=> ∃u,e= .returned u∧ApiV w' u v∧Below w.heap.size w w':=by
 obtain⟨n,hn⟩: ∃n:Nat,n=v.natAbs:=⟨_,rfl⟩;obtain⟨lo,hlo⟩: ∃lo:Nat,lo=n%4294967296:=⟨_,rfl⟩;obtain⟨hi,hhi⟩: ∃hi:Nat,hi=n/4294967296:=⟨_,rfl⟩;have elo:(n:Int)%4294967296=(lo:Int):=by omega
 have ehi:(n:Int)/4294967296=(hi:Int):=by omega
 have llo:lo<4294967296:=by omega
 have lhi:hi<4294967296:=by omega
 have ev:val [lo,hi]=v.natAbs:=by rw[val_two];omega
 have hlim:Lim [lo,hi]:=Lim.cons llo (Lim.cons lhi Lim.nil);obtain⟨W,hWe⟩: ∃W,W=(w.alloc (.cells #[.bool false,.slice none 0 0] 24)).alloc (.cells #[.int .u32 (lo:Int),.int .u32 (hi:Int)] 60):=⟨_,rfl⟩;have hW:Below w.heap.size w W:=by rw[hWe];exact((Below.refl _ _).alloc (Nat.le_refl _) _).alloc (by rw[World.size_alloc];omega) _
 have r0:Row W w.heap.size 24 [.bool false,.slice none 0 0]:=by rw[hWe];apply Row.alloc;unfold Row;exact heap_alloc_new _ _
 have hl:Lay .u32 W (some ⟨w.heap.size+1,0,none⟩) [lo,hi]:=by
  have:=row_two (w.alloc (.cells #[.bool false,.slice none 0 0] 24)) 60 .u32 lo hi;rw[World.size_alloc]at this;rw[hWe];exact this
 have HWe:=hid hWe;clear hWe;have hM:=fun(neg:Bool) hs=>ref_made W neg (some ⟨w.heap.size+1,0,none⟩) [lo,hi] 2 2 v hl hlim rfl (by decide) (by decide) ev hs
 have HM:=hid hM;clear hM;clear hlo hhi ev hlim hl
 have fin: ∀w1 u,ApiV w1 u v→Below W.heap.size W w1→∃a c,u= .agg #[.bool (decide (v<0)),.slice a (rep v.natAbs).length c]∧
   w1.cell? ⟨w.heap.size,0,none⟩=some (.bool false)∧w1.cell? ⟨w.heap.size,1,none⟩=some (.slice none 0 0)∧w1.frozen? ⟨w.heap.size,0,none⟩=false∧w1.frozen? ⟨w.heap.size,1,none⟩=false∧
   (w1.setCell ⟨w.heap.size,0,none⟩ (.bool (decide (v<0)))).cell? ⟨w.heap.size,0,none⟩=some (.bool (decide (v<0)))∧
   ((w1.setCell ⟨w.heap.size,0,none⟩ (.bool (decide (v<0)))).setCell ⟨w.heap.size,1,none⟩ (.slice a (rep v.natAbs).length c)).cell? ⟨w.heap.size,1,none⟩=some (.slice a (rep v.natAbs).length c)∧
   Hid (ApiV ((w1.setCell ⟨w.heap.size,0,none⟩ (.bool (decide (v<0)))).setCell ⟨w.heap.size,1,none⟩ (.slice a (rep v.natAbs).length c)) (.agg #[.bool (decide (v<0)),.slice a (rep v.natAbs).length c]) v∧Below w.heap.size w ((w1.setCell ⟨w.heap.size,0,none⟩ (.bool (decide (v<0)))).setCell ⟨w.heap.size,1,none⟩ (.slice a (rep v.natAbs).length c))):=by
  rintro w1 u ⟨a,c,rfl,hc,hl⟩ hb;have r1:=r0.below hb r0.lt;refine⟨a,c,rfl,r1.cell_at 0,r1.cell_at 1,r1.free 0,r1.free 1,(r1.store_any 0 _).cell_at 0,((r1.store_any 0 _).store_any 1 _).cell_at 1,hid ⟨⟨a,c,rfl,hc,hl.pair r1 _ _⟩,?_⟩⟩;exact below_store (below_store (hW.trans (hb.mono hW.size)) (Nat.le_refl _) _) (Nat.le_refl _) _
 have FIN:=hid fin;clear fin;by_cases hv:v<0
 ·have hd:decide (v<0)=true:=(by simpa using hv);have hw:IntKind.u64.wrap (-(IntKind.u64.wrap v))=n:=by rw[show v= -(n:Int)from by omega];exact u64_neg (by omega)
  have HM1:=hid (HM.out true ⟨fun _=>by omega,fun h=>by cases h⟩);clear hn;go_enter Tryz.func23,Tryz.ntmps23;go_wp2_with fail;rw[←HWe.out];refine HM1.out.mono ?_;rintro e w1 ⟨u,rfl,hu,hb⟩;obtain⟨a,c,rfl,k0,k1,k2,k3,e0,e1,hf⟩:=FIN.out w1 u hu hb;rw[hd]at e0 e1 hf ⊢;go_wp2_with fail;(try simp only[Exit.inBlock,Exit.then]);refine bodyPost_ret (v:= .agg #[.bool true,.slice a (rep v.natAbs).length c]) (by simp[results,Tryz.results23,go_sem,e0,e1]) rfl ?_;exact⟨_,rfl,hf.out⟩
 ·have hd:decide (v<0)=false:=(by simpa using hv);have hw:IntKind.u64.wrap v=n:=by rw[show v=(n:Int)from by omega];exact u64_nat (by omega)
  have HM1:=hid (HM.out false ⟨fun h=>(by cases h),fun _=>by omega⟩);clear hn;go_enter Tryz.func23,Tryz.ntmps23;go_wp2_with fail;rw[←HWe.out];refine HM1.out.mono ?_;rintro e w1 ⟨u,rfl,hu,hb⟩;obtain⟨a,c,rfl,k0,k1,k2,k3,e0,e1,hf⟩:=FIN.out w1 u hu hb;rw[hd]at e0 e1 hf ⊢;go_wp2_with fail;(try simp only[Exit.inBlock,Exit.then]);refine bodyPost_ret (v:= .agg #[.bool false,.slice a (rep v.natAbs).length c]) (by simp[results,Tryz.results23,go_sem,e0,e1]) rfl ?_;exact⟨_,rfl,hf.out⟩
end Go.Proofs.YtbffpkmfhkphdaaGreatDoor
namespace Go.Proofs.YtbffpkmfhkphdaaGreatDoor
open Go Go.RowKit Limb
theorem ApiV.parts{V:World}{b:Bool}{a:Option Addr}{n c:Nat}{z:Int}(h:ApiV V (.agg #[.bool b,.slice a n c]) z):b=decide (z<0)∧n=(rep z.natAbs).length∧n≤c∧Lay .u32 V a (rep z.natAbs):=by
 obtain⟨a',c',e,h2,h3⟩:=h;simp only[Value.agg.injEq,List.toArray_inj,List.cons.injEq,Array.mk.injEq,Value.bool.injEq,Value.slice.injEq,and_true]at e;obtain⟨rfl,rfl,rfl,rfl⟩:=e;exact⟨rfl,rfl,h2,h3⟩
end Go.Proofs.YtbffpkmfhkphdaaGreatDoor
namespace Go.Proofs.YtbffpkmfhkphdaaGreatDoor
open Go Go.RowKit Limb
def Sl(w:World)(g:Nat)(e:TypeId)(n c:Nat)(xs:List Value):Prop:=
 ∃cur:List Value,Row w g e cur∧cur.length=c∧xs.length=n∧n≤c∧c≤maxLen∧cur.take n=xs
section
variable {w w':World} {g:Nat} {e:TypeId} {n c:Nat} {xs:List Value}
theorem Sl.lt(h:Sl w g e n c xs):g<w.heap.size:=by obtain⟨_,h,_⟩:=h;exact h.lt
theorem Sl.len(h:Sl w g e n c xs):xs.length=n:=by obtain⟨_,_,_,h,_⟩:=h;exact h
theorem Sl.le(h:Sl w g e n c xs):n≤c∧c≤maxLen:=by obtain⟨_,_,_,_,h,h2,_⟩:=h;exact⟨h,h2⟩
theorem Sl.only{ps:List Nat}(h:Sl w g e n c xs)(ho:Only ps w w')(hg:g∉ps):Sl w' g e n c xs:=by
 obtain⟨cur,h1,h2⟩:=h;exact⟨cur,h1.only ho hg,h2⟩
theorem Sl.below(h:Sl w g e n c xs)(hb:Below w.heap.size w w'):Sl w' g e n c xs:=by
 obtain⟨cur,h1,h2⟩:=h;exact⟨cur,h1.below hb h1.lt,h2⟩
theorem Sl.cell(h:Sl w g e n c xs){i:Nat}(hi:i<n):w.cell? ⟨g,i,none⟩=xs[i]? :=by
 obtain⟨cur,h1,h2,h3,h4,h5,h6⟩:=h;rw[h1.cell_at,←h6,List.getElem?_take_of_lt hi]
theorem Sl.free(h:Sl w g e n c xs)(i:Nat):w.frozen? ⟨g,i,none⟩=false:=by obtain⟨_,h,_⟩:=h;exact h.free i
theorem Sl.store(h:Sl w g e n c xs){i:Nat}(hi:i<n)(u:Value):Sl (w.setCell ⟨g,i,none⟩ u) g e n c (xs.set i u):=by
 obtain⟨cur,h1,h2,h3,h4,h5,h6⟩:=h;exact⟨cur.set i u,h1.store_any i u,by rw[List.length_set];exact h2,by rw[List.length_set];exact h3,h4,h5,by rw[List.take_set,h6]⟩
theorem Sl.other(h:Sl w g e n c xs){a:Addr}(ha:g≠a.block)(u:Value):Sl (w.setCell a u) g e n c xs:=by
 obtain⟨cur,h1,h2⟩:=h;exact⟨cur,h1.other ha u,h2⟩
theorem Sl.owns(h:Sl w g e n c xs):w.ownsRow 0 e 1 (.slice (some ⟨g,0,none⟩) n c) n xs:=by
 obtain⟨cur,h1,h2,h3,h4,h5,h6⟩:=h;exact⟨by rw[h3,Nat.mul_one],.inr ⟨g,c,cur.toArray,rfl,Nat.zero_le _,h1,h4,h5,by simp[h2],by rw[Nat.mul_one];simpa using h6⟩⟩
theorem Sl.of_owns{v:Value}(h:w.ownsRow 0 e 1 v n xs)(hn:0<n): ∃g c,v= .slice (some ⟨g,0,none⟩) n c∧v.ownBlock=some g∧Sl w g e n c xs:=by
 obtain⟨h1,h2⟩:=h;rcases h2 with⟨_,h2⟩|⟨g,cap,cur,hv,hg,hh,hc1,hc2,hc3,hc4⟩
 ·omega
 ·rw[Nat.mul_one]at h1 hc3 hc4;subst hv;exact⟨g,cap,rfl,rfl,cur.toList,by unfold Row;simpa using hh,by simpa using hc3,h1,hc1,hc2,hc4⟩
theorem Sl.index(h:Sl w g e n c xs){P:Program}(t:TypeId)(ht:P.underlying t=some (.slice e))(hs: ∀W,(sizeOf e).run P W= .ok 1 W)(W:World)(k:IntKind)(i:Nat)(hi:i<n):(Instr.indexAt t (.slice (some ⟨g,0,none⟩) n c) (.int k i)).run P W= .ok (.pointer (some ⟨g,i,none⟩)) W:=by
 have h1:(0:Int)≤(i:Int):=by omega
 have h2:(i:Int)<(n:Int):=by omega
 simp[Instr.indexAt,run_underlying ht,asIntOf,h1,h2,hs,Result.andThen,Addr.add];rw[if_pos hi];by_cases h0:i=0
 ·subst h0;rfl
 ·rw[if_neg h0]
end
theorem size_bool(W:World):(sizeOf 4).run Tryz.prog W= .ok 1 W:=by kernel_rfl
theorem size_oop(W:World):(sizeOf 61).run Tryz.prog W= .ok 1 W:=by kernel_rfl
structure Foot where
 p:Nat
 gw:Nat
 gs:Nat
 gr:Nat
def Foot.l(F:Foot):List Nat:=[F.p,F.gw,F.gs,F.gr]
def bools(l:List Bool):List Value:=l.map Value.bool
theorem bools_get{l:List Bool}{i:Nat}(h:i<l.length):(bools l)[i]? =some (.bool (l.getD i false)):=by
 simp[bools,List.getD_eq_getElem?_getD,h]
structure HeapAt (w:World) (F:Foot) (h:Hp):Prop where
 good:Limb.Good h
 spares:Spares w
 row: ∃cw cs,Row w F.p 165 [.slice (some ⟨F.gw,0,none⟩) h.ws.length cw,.slice (some ⟨F.gs,0,none⟩) h.ws.length cs,.slice (some ⟨F.gr,0,none⟩) 64 64,.int .i64 h.size,.int .u32 h.last]∧Sl w F.gw 60 h.ws.length cw (nums .u32 h.ws)∧Sl w F.gs 4 h.ws.length cs (bools h.st)
 roots:Row w F.gr 61 (nums .u32 h.rt)
 low:5≤F.p∧5≤F.gw∧5≤F.gs∧5≤F.gr
theorem Row.ne{w:World}{g g':Nat}{e e':TypeId}{cs cs':List Value}(h:Row w g e cs)(h':Row w g' e' cs')(he:e≠e'):g≠g':=by
 rintro rfl;unfold Row at h h';rw[h]at h';simp only[Option.some.injEq,Obj.cells.injEq]at h';exact he h'.2.1
theorem Sl.row{w:World}{g:Nat}{e:TypeId}{n c:Nat}{xs:List Value}(h:Sl w g e n c xs): ∃cs,Row w g e cs:=by obtain⟨cs,h,_⟩:=h;exact⟨cs,h⟩
section
variable {w w':World} {F:Foot} {h:Hp}
theorem HeapAt.only{ps:List Nat}(H:HeapAt w F h)(ho:Only ps w w')(hd: ∀g∈F.l,g∉ps)(h2:2∉ps):HeapAt w' F h:=by
 obtain⟨cw,cs,r1,r2,r3⟩:=H.row;have m:F.p∈F.l∧F.gw∈F.l∧F.gs∈F.l∧F.gr∈F.l:=by unfold Foot.l;simp
 exact⟨H.good,H.spares.only ho h2,⟨cw,cs,r1.only ho (hd _ m.1),r2.only ho (hd _ m.2.1),r3.only ho (hd _ m.2.2.1)⟩,H.roots.only ho (hd _ m.2.2.2),H.low⟩
theorem HeapAt.below(H:HeapAt w F h)(hb:Below w.heap.size w w'):HeapAt w' F h:=H.only (ps:=[]) (Only.of_below hb) (by simp) (by simp)
theorem HeapAt.belowB{B:Nat}(H:HeapAt w F h)(hb:Below B w w')(hB:w.heap.size≤B):HeapAt w' F h:=H.below (hb.mono hB)
theorem HeapAt.drew(H:HeapAt w F h):HeapAt w.drew F h:=H.below (Below.refl _ _).drew
theorem HeapAt.lt(H:HeapAt w F h): ∀g∈F.l,g<w.heap.size:=by
 obtain⟨cw,cs,r1,r2,r3⟩:=H.row;have:=H.roots.lt;have:=r1.lt;have:=r2.lt;have:=r3.lt;intro g hg;unfold Foot.l at hg;simp only[List.mem_cons,List.not_mem_nil,or_false]at hg;rcases hg with rfl|rfl|rfl|rfl<;>assumption
theorem HeapAt.apart(H:HeapAt w F h):F.p≠F.gw∧F.p≠F.gs∧F.p≠F.gr∧F.gw≠F.gs∧F.gw≠F.gr∧F.gs≠F.gr:=by
 obtain⟨cw,cs,r1,r2,r3⟩:=H.row;obtain⟨_,r2⟩:=r2.row;obtain⟨_,r3⟩:=r3.row;have r4:=H.roots;exact⟨r1.ne r2 (by decide),r1.ne r3 (by decide),r1.ne r4 (by decide),r2.ne r3 (by decide),r2.ne r4 (by decide),r3.ne r4 (by decide)⟩
theorem HeapAt.cells(H:HeapAt w F h): ∃cw cs,w.cell? ⟨F.p,0,none⟩=some (.slice (some ⟨F.gw,0,none⟩) h.ws.length cw)∧w.cell? ⟨F.p,1,none⟩=some (.slice (some ⟨F.gs,0,none⟩) h.ws.length cs)∧w.cell? ⟨F.p,2,none⟩=some (.slice (some ⟨F.gr,0,none⟩) 64 64)∧w.cell? ⟨F.p,3,none⟩=some (.int .i64 h.size)∧w.cell? ⟨F.p,4,none⟩=some (.int .u32 h.last)∧Sl w F.gw 60 h.ws.length cw (nums .u32 h.ws)∧Sl w F.gs 4 h.ws.length cs (bools h.st):=by
 obtain⟨cw,cs,r1,r2,r3⟩:=H.row;obtain⟨a,b,c,d,e⟩:=r1.cells5;exact⟨cw,cs,a,b,c,d,e,r2,r3⟩
theorem HeapAt.root_cell(H:HeapAt w F h){i:Nat}(hi:i<64):w.cell? ⟨F.gr,i,none⟩=some (.int .u32 (wd h.rt i:Nat)):=H.roots.cell (by rw[H.good.rlen];exact hi)
theorem HeapAt.small(H:HeapAt w F h):h.ws.length≤1048576∧h.size≤1048576∧64≤h.size:=⟨Nat.le_trans H.good.fits H.good.sM,H.good.sM,H.good.s64⟩
end
structure Foot.Next (F F':Foot) (w:World):Prop where
 p:F'.p=F.p
 gr:F'.gr=F.gr
 gw:F'.gw=F.gw∨w.heap.size≤F'.gw
 gs:F'.gs=F.gs∨w.heap.size≤F'.gs
theorem Foot.Next.refl(F:Foot)(w:World):F.Next F w:=⟨rfl,rfl,.inl rfl,.inl rfl⟩
theorem Foot.Next.trans{F F' F'':Foot}{w w':World}(h:F.Next F' w)(k:F'.Next F'' w')(hs:w.heap.size≤w'.heap.size):F.Next F'' w:=
 ⟨k.p.trans h.p,k.gr.trans h.gr,by rcases k.gw with e|e;rw[e];exact h.gw;exact .inr (by omega),by rcases k.gs with e|e;rw[e];exact h.gs;exact .inr (by omega)⟩
theorem Foot.Next.mem{F F':Foot}{w:World}(h:F.Next F' w): ∀g∈F'.l,g∈F.l∨w.heap.size≤g:=by
 intro g hg;unfold Foot.l at*
 simp only[List.mem_cons,List.not_mem_nil,or_false]at*
 rcases hg with rfl|rfl|rfl|rfl
 ·exact .inl (.inl h.p)
 ·rcases h.gw with e|e
  ·exact .inl (.inr (.inl e))
  ·exact .inr e
 ·rcases h.gs with e|e
  ·exact .inl (.inr (.inr (.inl e)))
  ·exact .inr e
 ·exact .inl (.inr (.inr (.inr h.gr)))
def Step(w:World)(F:Foot)(w':World)(F':Foot)(h':Hp):Prop:=HeapAt w' F' h'∧F.Next F' w∧Only F.l w w'
theorem Step.trans{w w' w'':World}{F F' F'':Foot}{h' h'':Hp}(a:Step w F w' F' h')(b:Step w' F' w'' F'' h''):Step w F w'' F'' h'':=
 ⟨b.1,a.2.1.trans b.2.1 a.2.2.size,a.2.2.trans b.2.2 a.2.1.mem⟩
theorem Step.refl{w:World}{F:Foot}{h:Hp}(H:HeapAt w F h):Step w F w F h:=⟨H,Foot.Next.refl _ _,Only.refl _ _⟩
theorem Step.below{w w' w'':World}{F F':Foot}{h':Hp}(a:Step w F w' F' h')(hb:Below w'.heap.size w' w''):Step w F w'' F' h':=
 ⟨a.1.below hb,a.2.1,a.2.2.trans (qs:=[]) (Only.of_below hb) (fun q hq=>by cases hq)⟩
theorem Step.beside{w w':World}{F F':Foot}{h':Hp}(a:Step w F w' F' h'){g:Nat}{e:TypeId}{cs:List Value}(hr:Row w g e cs)(hg:g∉F.l):Row w' g e cs:=hr.only a.2.2 hg
end Go.Proofs.YtbffpkmfhkphdaaGreatDoor
namespace Go.Proofs.YtbffpkmfhkphdaaGreatDoor
open Go Lib Go.RowKit Limb
theorem kind_two{o:Nat}:kindN o=2↔o≠0∧o%2=0:=by
 unfold kindN;by_cases h0:o=0
 ·simp[h0]
 ·rw[if_neg h0];by_cases h1:o%2=1
  ·rw[if_pos h1];omega
  ·rw[if_neg h1];omega
section
variable {w:World} {F:Foot} {h:Hp}
theorem heap_made(H:HeapAt w F h):Calls Tryz.prog 140 #[.pointer (some ⟨F.p,0,none⟩)] w fun e w'=>e= .returned (.bool true)∧w=w':=by
 obtain⟨cw,cs,c0,c1,c2,c3,c4,hw,hs⟩:=H.cells;have d1:decide ((0:Int)<(h.size:Int))=true:=decide_eq_true (by have:=H.small;omega);have d2:decide (0<h.size)=true:=decide_eq_true (by have:=H.small;omega);generalize h.size=n at*
 clear hw hs H;go_enter Tryz.func140,Tryz.ntmps140;go_wp2_with fail;go_ret;exact⟨rfl,rfl⟩
theorem heap_at(o:Nat)(ho:o<4294967296)(w:World)(p:Value):Calls Tryz.prog 215 #[p,.int .u32 o] w fun e w'=>e= .returned (.int .i64 (idxN o))∧w=w':=by
 have HK:=hid (oop_index w o ho);go_enter Tryz.func215,Tryz.ntmps215;go_wp2_with fail;refine(HK.out).mono ?_;rintro e w1 ⟨rfl,rfl⟩;(try dsimp only);go_wp2_with fail;go_ret;exact⟨rfl,rfl⟩
theorem heap_is(H:HeapAt w F h)(o:Nat)(ho:o<4294967296):Calls Tryz.prog 131 #[.pointer (some ⟨F.p,0,none⟩),.int .u32 o] w fun e w'=>e= .returned (.bool (isO h o))∧w=w':=by
 have HK:=hid (oop_index w o ho);have HM:=hid (heap_made H);obtain⟨cw,cs,c0,c1,c2,c3,c4,hw,hs⟩:=H.cells;have hlen:=H.good.len;by_cases h2:kindN o=2
 ·have e1:idxN o=o/2:=(by unfold idxN;rw[if_pos h2]);have e2:idxE o=0:=by unfold idxE;rw[if_pos h2]
  have hk:=HK.out;rw[e1,e2]at hk;have HK:=hid hk
  have e3:isO h o=begins h (o/2):=by
   obtain⟨k1,k2⟩:=kind_two.1 h2;unfold isO;rw[decide_eq_true k1,decide_eq_true k2];rfl
  rw[e3];clear h2 e1 e2 e3 hk;generalize o/2=i at*
  by_cases hi:i<h.ws.length
  ·have d1:decide ((i:Int)<(h.ws.length:Int))=true:=decide_eq_true (by omega);have d2:decide (i<h.ws.length)=true:=decide_eq_true hi;have hc:=hs.cell hi;rw[bools_get (by omega)]at hc;have e4:begins h i=h.st.getD i false:=rfl;rw[←e4]at hc;have ix:=fun W=>hs.index 163 Tryz.underlying163 size_bool W .i64 i hi
   generalize begins h i=b at*
   generalize h.ws.length=n at*
   clear hw hs H hlen hi e4;go_enter Tryz.func131,Tryz.ntmps131;go_wp2_with fail;refine(HK.out).mono ?_;rintro e w1 ⟨rfl,rfl⟩;(try dsimp only);go_wp2_with fail;refine(HM.out).mono ?_;rintro e w1 ⟨rfl,rfl⟩;(try dsimp only);go_wp2_with fail;go_ret;exact⟨rfl,rfl⟩
  ·have d1:decide ((i:Int)<(h.ws.length:Int))=false:=decide_eq_false (by omega);have d2:decide (i<h.ws.length)=false:=decide_eq_false hi
   have e4:begins h i=false:=by
    unfold begins;rw[List.getD_eq_getElem?_getD,List.getElem?_eq_none (by omega)];rfl
   rw[e4];generalize h.ws.length=n at*
   clear hw hs H hlen hi e4;go_enter Tryz.func131,Tryz.ntmps131;go_wp2_with fail;refine(HK.out).mono ?_;rintro e w1 ⟨rfl,rfl⟩;(try dsimp only);go_wp2_with fail;refine(HM.out).mono ?_;rintro e w1 ⟨rfl,rfl⟩;(try dsimp only);go_wp2_with fail;go_ret;exact⟨rfl,rfl⟩
 ·have e2:idxE o=3:=(by unfold idxE;rw[if_neg h2]);have hk:=HK.out;rw[e2]at hk;have HK:=hid hk
  have e3:isO h o=false:=by
   rw[Bool.eq_false_iff];intro e;exact h2 (kind_two.2 ⟨(isO_iff.1 e).1,(isO_iff.1 e).2.1⟩)
  rw[e3];clear h2 e2 e3 hk hw hs H hlen;go_enter Tryz.func131,Tryz.ntmps131;go_wp2_with fail;refine(HK.out).mono ?_;rintro e w1 ⟨rfl,rfl⟩;(try dsimp only);go_wp2_with fail;go_ret;exact⟨rfl,rfl⟩
theorem heap_value(H:HeapAt w F h)(o:Nat)(ho:o<4294967296):Calls Tryz.prog 183 #[.pointer (some ⟨F.p,0,none⟩),.int .u32 o] w fun e w'=>e= .returned (.bool (valO h o))∧w=w':=by
 have HK:=hid (oop_kind w o ho);have HI:=hid (heap_is H o ho);by_cases h2:kindN o=2
 ·have e3:valO h o=isO h o:=by
   obtain⟨k1,k2⟩:=kind_two.1 h2;unfold valO;rw[decide_eq_false k1,decide_eq_false (show¬o%2=1 by omega)];rfl
  rw[e3];have hk:=HK.out;rw[h2]at hk;have HK:=hid hk;generalize isO h o=b at*
  clear h2 hk e3 H;go_enter Tryz.func183,Tryz.ntmps183;go_wp2_with fail;refine(HK.out).mono ?_;rintro e w1 ⟨rfl,rfl⟩;(try dsimp only);go_wp2_with fail;refine(HI.out).mono ?_;rintro e w1 ⟨rfl,rfl⟩;(try dsimp only);go_wp2_with fail;go_ret;exact⟨rfl,rfl⟩
 ·have e3:valO h o=true:=by
   have h3: ¬(o≠0∧o%2=0):=fun e=>h2 (kind_two.2 e)
   unfold valO;by_cases h0:o=0
   ·rw[decide_eq_true h0];rfl
   ·rw[decide_eq_true (show o%2=1 by omega)];simp
  have q:(((kindN o:Nat):Int) != 2)=true:=(by rw[bne_iff_ne];omega);have q2:(((kindN o:Nat):Int)==2)=false:=by rw[beq_eq_false_iff_ne];omega
  rw[e3];generalize kindN o=k at*
  clear h2 e3 H HI;go_enter Tryz.func183,Tryz.ntmps183;go_wp2_with fail;refine(HK.out).mono ?_;rintro e w1 ⟨rfl,rfl⟩;(try dsimp only);go_wp2_with fail;go_ret;exact⟨rfl,rfl⟩
theorem heap_class(H:HeapAt w F h)(o:Nat)(ho:o<4294967296):Calls Tryz.prog 208 #[.pointer (some ⟨F.p,0,none⟩),.int .u32 o] w fun e w'=>e= .returned (.bool (clsO h o))∧w=w':=by
 have HI:=hid (heap_is H o ho);by_cases h0:o=0
 ·have e:clsO h o=true:=(by unfold clsO;rw[decide_eq_true h0];rfl);rw[e];subst h0;clear e H HI;go_enter Tryz.func208,Tryz.ntmps208;go_wp2_with fail;go_ret;exact⟨rfl,rfl⟩
 ·have e:clsO h o=isO h o:=(by unfold clsO;rw[decide_eq_false h0];rfl);have q0:((o:Int)==0)=false:=by rw[beq_eq_false_iff_ne];omega
  have q0':(o==0)=false:=(by rw[beq_eq_false_iff_ne];omega);rw[e];generalize isO h o=b at*
  clear e H h0;go_enter Tryz.func208,Tryz.ntmps208;go_wp2_with fail;refine(HI.out).mono ?_;rintro e w1 ⟨rfl,rfl⟩;(try dsimp only);go_wp2_with fail;go_ret;exact⟨rfl,rfl⟩
theorem heap_root(H:HeapAt w F h)(i:Nat)(hi:i<64):Calls Tryz.prog 130 #[.pointer (some ⟨F.p,0,none⟩),.int .i64 i] w fun e w'=>e= .returned (.tuple #[.int .u32 (wd h.rt i:Nat),.int .i64 0])∧w=w':=by
 have HM:=hid (heap_made H);obtain⟨cw,cs,c0,c1,c2,c3,c4,hw,hs⟩:=H.cells;have hc:=H.root_cell hi;have d1:decide ((i:Int)<0)=false:=decide_eq_false (by omega);have d2:decide ((64:Int)≤(i:Int))=false:=decide_eq_false (by omega);have d3:decide (64≤i)=false:=decide_eq_false (by omega);have sl:Sl w F.gr 61 64 64 (nums .u32 h.rt):=⟨_,H.roots,by rw[nums_length];exact H.good.rlen,by rw[nums_length];exact H.good.rlen,Nat.le_refl _,by decide,List.take_of_length_le (by rw[nums_length,H.good.rlen];exact Nat.le_refl _)⟩;have ix:=fun W=>sl.index 71 Tryz.underlying71 size_oop W .i64 i hi
 clear hw hs H sl;go_enter Tryz.func130,Tryz.ntmps130;go_wp2_with fail;refine(HM.out).mono ?_;rintro e w1 ⟨rfl,rfl⟩;(try dsimp only);go_wp2_with fail;go_ret2;exact⟨rfl,rfl⟩
theorem heap_top(H:HeapAt w F h):Calls Tryz.prog 53 #[.pointer (some ⟨F.p,0,none⟩)] w fun e w'=>e= .returned (.int .i64 h.ws.length)∧w=w':=by
 have HM:=hid (heap_made H);obtain⟨cw,cs,c0,c1,c2,c3,c4,hw,hs⟩:=H.cells;clear hw hs H;go_enter Tryz.func53,Tryz.ntmps53;go_wp2_with fail;refine(HM.out).mono ?_;rintro e w1 ⟨rfl,rfl⟩;(try dsimp only);go_wp2_with fail;go_ret;exact⟨rfl,rfl⟩
theorem heap_last(H:HeapAt w F h):Calls Tryz.prog 55 #[.pointer (some ⟨F.p,0,none⟩)] w fun e w'=>e= .returned (.int .u32 h.last)∧w=w':=by
 have HM:=hid (heap_made H);obtain⟨cw,cs,c0,c1,c2,c3,c4,hw,hs⟩:=H.cells;clear hw hs H;go_enter Tryz.func55,Tryz.ntmps55;go_wp2_with fail;refine(HM.out).mono ?_;rintro e w1 ⟨rfl,rfl⟩;(try dsimp only);go_wp2_with fail;go_ret;exact⟨rfl,rfl⟩
end
end Go.Proofs.YtbffpkmfhkphdaaGreatDoor
namespace Go.Proofs.YtbffpkmfhkphdaaGreatDoor
open Go Go.RowKit
variable {P:Program} {ops:Array Oper} {C:World→Prop} {Q:Act→Prop} {a:Act} {o:Oper} {rest:List Oper}
theorem wpQuiet_at(d:Tmp)(v:Value)(hd:o.dst=some d)(hw:Region.wanted o (yielded ops a.tmps)=true)(hy: ∀w,C w→o.quietAt P a C w v)(h:wpQuiet P ops C Q rest (a.put (some d) v)):wpQuiet P ops C Q (o :: rest) a:=by
 unfold wpQuiet;rw[if_pos hw];exact⟨v,hy,by rw[hd];exact h⟩
theorem qa(d:Tmp)(v:Value)(h:wpQuiet P ops C Q rest (a.put (some d) v))(hd:o.dst=some d:=by rfl)(hw:Region.wanted o (yielded ops a.tmps)=true:=by kernel_rfl)(hy: ∀w,C w→o.quietAt P a C w v:=by intro Y hC;go_simp):wpQuiet P ops C Q (o :: rest) a:=wpQuiet_at d v hd hw hy h
theorem wpQuiet_not(d:Tmp)(hd:o.dst=some d)(hw:Region.wanted o (yielded ops a.tmps)=false)(h:wpQuiet P ops C Q rest (a.put (some d) undef)):wpQuiet P ops C Q (o :: rest) a:=by
 unfold wpQuiet;rw[if_neg (by rw[hw];decide),hd];exact h
theorem wp_region_calm{id:Nat}{Q:Exit→Act→World→Prop}{a:Act}{w:World}(C:World→Prop)(hm:P.follows .mixedOrders=true)(hB:Region.lexB .any ops=true)(hC:C {w with drawn:=w.drawn+1})(h:wpQuiet P ops C (fun a'=> ∀w',C w'→Q .normal a' w') ops.toList a):(Code.region id ops true).wp P Q a w:=wp_region_quiet hm hB hC h
theorem cell_self{W:World}{p i:Nat}{t:TypeId}{cs:List Value}{v:Value}(r:Row W p t cs)(hv:cs[i]? =some v):W.setCell ⟨p,i,none⟩ v=W:=by
 unfold Row at r;have hi:i<cs.length:=(List.getElem?_eq_some_iff.1 hv).1
 have hset:cs.set i v=cs:=by
  apply List.ext_getElem?;intro j;rw[List.getElem?_set];by_cases hj:i=j
  ·subst hj;rw[if_pos rfl,if_pos hi,hv]
  ·rw[if_neg hj]
 have e:(W.setCell ⟨p,i,none⟩ v).heap=W.heap:=by
  apply Array.ext_getElem?;intro j;simp only[World.setCell,Array.getElem?_modify];by_cases hj:p=j
  ·subst hj;simp[r,hset]
  ·simp[hj]
 show{W with heap:=(W.setCell ⟨p,i,none⟩ v).heap}=W
 rw[e]
end Go.Proofs.YtbffpkmfhkphdaaGreatDoor

/- Integers of package big in memory; the walk of made. What a boot's walk asks of the heaps on its way. -/
import Derived.Test.YtbffpkmfhkphdaaGreatDoorGX00
import Derived.Test.YtbffpkmfhkphdaaGreatDoorGX06
import Derived.Deep.RegionHeld3
set_option linter.unusedVariables false
set_option linter.unusedSimpArgs false
set_option maxRecDepth 1000000
namespace Go.Proofs.YtbffpkmfhkphdaaGreatDoor
open Go Lib Go.RowKit Limb
structure Only (ps:List Nat) (w w':World):Prop where
 os:w'.os=w.os
 tape:w'.tape=w.tape
 output:w'.output=w.output
 size:w.heap.size≤w'.heap.size
 block: ∀k,k<w.heap.size→k∉ps→w'.heap[k]? =w.heap[k]?
theorem Only.refl(ps:List Nat)(w:World):Only ps w w:=⟨rfl,rfl,rfl,Nat.le_refl _,fun _ _ _=>rfl⟩
theorem Only.of_below{ps:List Nat}{w w':World}(h:Below w.heap.size w w'):Only ps w w':=⟨h.os,h.tape,h.output,h.size,fun k hk _=>h.block k hk⟩
theorem Only.below{w w':World}(h:Only [] w w'):Below w.heap.size w w':=⟨h.os,h.tape,h.output,h.size,fun k hk=>h.block k hk (by simp)⟩
theorem Only.belowB{ps:List Nat}{w w':World}(h:Only ps w w'){B:Nat}(hB:B≤w.heap.size)(hp: ∀p∈ps,B≤p):Below B w w':=
 ⟨h.os,h.tape,h.output,h.size,fun k hk=>h.block k (by omega) (fun hm=>by have:=hp k hm;omega)⟩
theorem Only.trans{ps qs:List Nat}{w w1 w2:World}(h:Only ps w w1)(k:Only qs w1 w2)(hq: ∀q∈qs,q∈ps∨w.heap.size≤q):Only ps w w2:=
 ⟨k.os.trans h.os,k.tape.trans h.tape,k.output.trans h.output,Nat.le_trans h.size k.size,fun i hi hn=>by
  rw[k.block i (Nat.lt_of_lt_of_le hi h.size) (fun hm=>by rcases hq i hm with h|h;exact hn h;omega),h.block i hi hn]⟩
theorem Only.mono{ps qs:List Nat}{w w':World}(h:Only ps w w')(hq: ∀q∈ps,q∈qs):Only qs w w':=
 ⟨h.os,h.tape,h.output,h.size,fun k hk hn=>h.block k hk (fun hm=>hn (hq k hm))⟩
theorem Only.setCell{ps:List Nat}{w w':World}(h:Only ps w w'){a:Addr}(ha:a.block∈ps)(v:Value):Only ps w (w'.setCell a v):=
 ⟨h.os,h.tape,h.output,by have:=h.size;simpa[World.setCell]using this,fun k hk hn=>by rw[Below.heap_setCell _ _ _ _ (fun e=>hn (by rw[e];exact ha))];exact h.block k hk hn⟩
theorem Only.drewN{ps:List Nat}{w w':World}(h:Only ps w w')(n:Nat):Only ps w (w'.drewN n):=⟨h.os,h.tape,h.output,h.size,h.block⟩
theorem Only.drew{ps:List Nat}{w w':World}(h:Only ps w w'):Only ps w w'.drew:=⟨h.os,h.tape,h.output,h.size,h.block⟩
theorem Only.alloc{ps:List Nat}{w w':World}(h:Only ps w w')(o:Obj):Only ps w (w'.alloc o):=
 h.trans (Only.of_below (ps:=[]) ((Below.refl _ _).alloc (Nat.le_refl _) o)) (fun q hq=>by cases hq)
theorem Row.only{ps:List Nat}{w w':World}{g:Nat}{e:TypeId}{cs:List Value}(h:Row w g e cs)(ho:Only ps w w')(hg:g∉ps):Row w' g e cs:=by
 have:=h.lt;unfold Row at*;rw[ho.block g this hg];exact h
theorem Lay.only{ps:List Nat}{K:IntKind}{w w':World}{a:Option Addr}{l:List Nat}(h:Lay K w a l)(ho:Only ps w w')(hne:0<l.length→∀b off,a=some ⟨b,off,none⟩→b∉ps):Lay K w' a l:=by
 obtain⟨b,off,h1,h2⟩:=h;refine⟨b,off,fun hl=>⟨(h1 hl).1,by have:=ho.size;have:=(h1 hl).2;omega⟩,fun i hi=>?_⟩;have h3:=h1 (by omega);rw[←h2 i hi];exact World.cell?_of_block (ho.block b h3.2 (hne (by omega) b off h3.1))
def IntAt(w:World)(p:Nat)(z:Int):Prop:=
 ∃a cap,Row w p 117 [.bool (decide (z<0)),.slice a (rep z.natAbs).length cap]∧Lay .u32 w a (rep z.natAbs)∧(rep z.natAbs).length≤cap
def IntBlocks(w:World)(ps:List Nat):Prop:= ∀p∈ps,∃z,IntAt w p z
theorem IntAt.lt{w:World}{p:Nat}{z:Int}(h:IntAt w p z):p<w.heap.size:=by obtain⟨_,_,h,_⟩:=h;exact h.lt
theorem Lay.notInt{K:IntKind}{w:World}{a:Option Addr}{l:List Nat}{ps:List Nat}(h:Lay K w a l)(hi:IntBlocks w ps):0<l.length→∀b off,a=some ⟨b,off,none⟩→b∉ps:=by
 intro hl b off e hm;obtain⟨b',off',h1,h2⟩:=h;have h3:=(h1 hl).1;rw[e]at h3;simp only[Option.some.injEq,Addr.mk.injEq,and_true]at h3;obtain⟨rfl,rfl⟩:=h3;obtain⟨z,a',cap,hr,_⟩:=hi b hm;have h4:=h2 0 hl;rw[hr.cell_at]at h4
 match off,h4 with
 |0,h4=>simp at h4
 |1,h4=>simp at h4
 |n+2,h4=>simp at h4
theorem IntAt.only{w w':World}{p:Nat}{z:Int}{ps:List Nat}(h:IntAt w p z)(ho:Only ps w w')(hp:p∉ps)(hi:IntBlocks w ps):IntAt w' p z:=by
 obtain⟨a,cap,h1,h2,h3⟩:=h;exact⟨a,cap,h1.only ho hp,h2.only ho (h2.notInt hi),h3⟩
theorem IntAt.below{w w':World}{p:Nat}{z:Int}(h:IntAt w p z)(hb:Below w.heap.size w w'):IntAt w' p z:=
 h.only (ps:=[]) (Only.of_below hb) (by simp) (fun p hp=>by cases hp)
theorem IntBlocks.nil(w:World):IntBlocks w []:=fun p hp=>by cases hp
theorem IntBlocks.one{w:World}{p:Nat}{z:Int}(h:IntAt w p z):IntBlocks w [p]:=fun q hq=>by
 rw[List.mem_singleton]at hq;subst hq;exact⟨z,h⟩
theorem IntAt.new(w:World):IntAt (w.alloc (.cells #[.bool false,.slice none 0 0] 117)) w.heap.size 0:=
 ⟨none,0,by unfold Row;exact heap_alloc_new _ _,Lay.nil _ _ _,by simp[rep_zero]⟩
theorem IntAt.drewN{w:World}{p:Nat}{z:Int}(h:IntAt w p z)(n:Nat):IntAt (w.drewN n) p z:=h
def IntRes(w w':World)(e:Ending)(p:Nat)(z:Int):Prop:=
 e= .returned (.pointer (some ⟨p,0,none⟩))∧IntAt w' p z∧Only [p] w w'
theorem made_at{w:World}{p:Nat}{c0 c1:Value}{a:Option Addr}{z:Int}{cap:Nat}{b:Bool}(hr:Row w p 117 [c0,c1])(hl:Lay .u32 w a (rep z.natAbs))(hc:(rep z.natAbs).length≤cap)(hi: ∃y,IntAt w p y)(hb:b=decide (z<0)):IntAt ((w.setCell ⟨p,0,none⟩ (.bool b)).setCell ⟨p,1,none⟩ (.slice a (rep z.natAbs).length cap)) p z:=by
 obtain⟨y,hy⟩:=hi;have ho:Only [p] w ((w.setCell ⟨p,0,none⟩ (.bool b)).setCell ⟨p,1,none⟩ (.slice a (rep z.natAbs).length cap)):=((Only.refl [p] w).setCell (by simp) _).setCell (by simp) _;refine⟨a,cap,?_,hl.only ho (hl.notInt (IntBlocks.one hy)),hc⟩;have:=(hr.store_any 0 (.bool b)).store_any 1 (.slice a (rep z.natAbs).length cap);rw[←hb];exact this
theorem big_made(w:World)(p:Nat)(y z:Int)(neg:Bool)(a:Option Addr)(n cap:Nat)(hp:IntAt w p y)(hl:Lay .u32 w a (rep z.natAbs))(hn:n=(rep z.natAbs).length)(hc:n≤cap)(hs:(neg=true→z≤0)∧(neg=false→0≤z)):Calls Tryz.prog 148 #[.pointer (some ⟨p,0,none⟩),.bool neg,.slice a n cap] w fun e w'=>IntRes w w' e p z:=by
 have hi: ∃y,IntAt w p y:=⟨y,hp⟩;obtain⟨a0,cap0,hr,_,_⟩:=hp;have c0:=hr.cell_at 0;have c1:=hr.cell_at 1;have f0:=hr.free 0;have f1:=hr.free 1;simp only[yB,yC]at c0 c1;have hm0:n=0↔z=0:=by rw[hn,rep_length_zero];omega
 have hfin: ∀b:Bool,b=decide (z<0)→IntAt ((w.setCell ⟨p,0,none⟩ (.bool b)).setCell ⟨p,1,none⟩ (.slice a n cap)) p z:=by
  intro b hb;rw[hn];exact made_at hr hl (by rw[←hn];exact hc) hi hb
 have HF:=hid hfin;clear hfin;have H0:=hid hm0;clear hm0;clear hn hr;have ho: ∀b:Bool,Only [p] w ((w.setCell ⟨p,0,none⟩ (.bool b)).setCell ⟨p,1,none⟩ (.slice a n cap)):=fun b=>((Only.refl [p] w).setCell (by simp) _).setCell (by simp) _
 have HO:=hid ho;clear ho;cases neg with
 |false=>
  have h0:=hs.2 rfl;clear hs;go_enter Tryz.func148,Tryz.ntmps148;go_wp2;go_ret;exact⟨rfl,HF.out false (by simp;omega),HO.out _⟩
 |true=>
  have h0:=hs.1 rfl;clear hs;by_cases hz:n=0
  ·have hzz:=hid (H0.out.1 hz);subst hz;go_enter Tryz.func148,Tryz.ntmps148;go_wp2;go_ret;exact⟨rfl,HF.out false (by rw[hzz.out];rfl),HO.out _⟩
  ·have hzz:z≠0:=fun e=>hz (H0.out.2 e)
   have hpos:0<n:=(by omega);have hd:decide (0<n)=true:=by simp[hpos]
   have Hz:=hid hzz;clear hzz;clear hz;go_enter Tryz.func148,Tryz.ntmps148;go_wp2;go_ret;exact⟨rfl,HF.out true (by have:=Hz.out;simp;omega),HO.out _⟩
end Go.Proofs.YtbffpkmfhkphdaaGreatDoor
namespace Go.Proofs.YtbffpkmfhkphdaaGreatDoor.Limb
theorem setR_root{h:Hp}(k:Good h){i v:Nat}(hi:i<64)(j:Nat):wd (setR h i v).rt j=if j=i then v else wd h.rt j:=wd_set (by rw[k.rlen];exact hi) j
def okPk(p:Pk)(ms:List Nat):Bool:=
 decide (ms.length=22)&&((List.range 22).all fun i=>qF p (rd p.R (10+i)) 1 6&&qF p (wd ms i) 1 6)&&([0,1,2,3,4,6,8].all fun r=>qO p (rd p.R r))&&qF p (rd p.R 3) 1 128&&qF p (rd p.R 4) 1 32&&qF p (rd p.R 8) 1 11
structure Paired (h:Hp) (ms:List Nat):Prop where
 good:Good h
 len:ms.length=22
 cls: ∀i,i<22→isF h (wd h.rt (10+i)) 1 6=true
 met: ∀i,i<22→isF h (wd ms i) 1 6=true
 low: ∀r,r∈[0,1,2,3,4,6,8]→isO h (wd h.rt r)=true
 l3:isF h (wd h.rt 3) 1 128=true
 l4:isF h (wd h.rt 4) 1 32=true
 l8:isF h (wd h.rt 8) 1 11=true
theorem paired_of{h:Hp}(k:Good h){ms:List Nat}(e:okPk (pk h) ms=true):Paired h ms:=by
 unfold okPk at e;simp only[Bool.and_eq_true,decide_eq_true_eq,List.all_eq_true,List.mem_range,qF_eq k,qO_eq,rd_root k]at e;obtain⟨⟨⟨⟨⟨e1,e2⟩,e3⟩,e4⟩,e5⟩,e6⟩:=e;exact⟨k,e1,fun i hi=>(e2 i hi).1,fun i hi=>(e2 i hi).2,e3,e4,e5,e6⟩
theorem Paired.grow{h h':Hp}{ms:List Nat}(x:Paired h ms)(g:Grow h h'):Paired h' ms:=
 ⟨g.good,x.len,fun i hi=>by rw[g.rt];exact g.isF _ _ _ (x.cls i hi),fun i hi=>g.isF _ _ _ (x.met i hi),fun r hr=>by rw[g.rt];exact g.isO (x.low r hr),by rw[g.rt];exact g.isF _ _ _ x.l3,by rw[g.rt];exact g.isF _ _ _ x.l4,by rw[g.rt];exact g.isF _ _ _ x.l8⟩
theorem Paired.ker{h:Hp}{ms:List Nat}(x:Paired h ms):Ker h:=by
 refine⟨fun j hj=>?_,isF_le x.l3 (Nat.zero_le _),isF_le x.l4 (Nat.zero_le _)⟩;have:j=0∨j=1∨j=2∨j=3∨j=4:=by omega
 rcases this with rfl|rfl|rfl|rfl|rfl
 ·exact isF_isO (x.cls 2 (by decide))
 ·exact isF_isO (x.cls 8 (by decide))
 ·exact isF_isO (x.cls 9 (by decide))
 ·exact isF_isO (x.cls 10 (by decide))
 ·exact isF_isO (x.cls 13 (by decide))
structure Steps (n:Nat) (h1 h2:Hp) (ms:List Nat) (hE:Hp):Prop where
 first:firstAll first7 (emptyH n)=some h1
 nil0:isO h1 (wd h1.rt 0)=true
 pairs:pairsP tenOn (nilR [5,7,9] h1)=some (ms,h2)
 paired:Paired h2 ms
 rest:((nameAll 0 plans (clsAll bareCls (wireAll ms 0 plans h2))).bind fun h=>(selAll 0 sels h).bind fun h=>fieldAll 0 plans h)=some hE
def qsteps(n:Nat):Bool:=
 match qfirstAll first7 (pk (emptyH n))with
 |none=>false
 |some p1=>qO p1 (rd p1.R 0)&&match(qnilR [5,7,9] p1).bind fun x=>qpairs tenOn x with
  |none=>false
  |some (ms,p2)=>okPk p2 ms
theorem steps_of{n:Nat}(h1:64≤n)(h2:n≤1048576){hE:Hp}(hb:bootP n=some hE)(hq:qsteps n=true): ∃a b ms,Steps n a b ms hE:=by
 unfold bootP at hb;obtain⟨hB,e1,e2⟩:=Option.bind_eq_some_iff.1 hb;unfold bonesP at e1;obtain⟨hA,e3,e4⟩:=Option.bind_eq_some_iff.1 e1;unfold classesP at e4;obtain⟨⟨ms,hP⟩,e5,e6⟩:=Option.map_eq_some_iff.1 e4;have k0:=good_empty h1 h2;unfold qsteps at hq;split at hq
 ·cases hq
 ·rename_i p1 hp1;rw[Bool.and_eq_true]at hq;obtain⟨q1,q2⟩:=hq;obtain⟨hA',x1,rfl,kA⟩:=up_firstAll first7 _ k0 p1 hp1;obtain rfl:hA'=hA:=Option.some.inj (x1.symm.trans e3);split at q2
  ·cases q2
  ·rename_i ms2 p2 hp2;obtain⟨p3,y1,y2⟩:=Option.bind_eq_some_iff.1 hp2;obtain⟨hN,z1,rfl,kN⟩:=up_nilR [5,7,9] hA' kA p3 y1;obtain rfl:=Option.some.inj z1;obtain⟨hP',z2,rfl,kP⟩:=up_pairs tenOn _ kN ms2 p2 y2;have z3:=Option.some.inj (z2.symm.trans e5);rw[Prod.mk.injEq]at z3;obtain⟨rfl,rfl⟩:=z3;refine⟨hA',hP',ms2,e3,?_,z2,paired_of kP q2,?_⟩
   ·rw[qO_eq,rd_root kA]at q1;exact q1
   ·rw[e6];exact e2
theorem qsteps_3000:qsteps 3000=true:=by decide+kernel
end Go.Proofs.YtbffpkmfhkphdaaGreatDoor.Limb

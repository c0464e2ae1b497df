/- The walk of package heap's Alloc. A heap of the document's in memory. The walks of package oop's Length and PackBytes. -/
import Derived.Test.YtbffpkmfhkphdaaGreatDoorGX23
import Derived.Test.YtbffpkmfhkphdaaGreatDoorGX00
import Derived.Test.YtbffpkmfhkphdaaGreatDoorGX04
set_option linter.unusedVariables false
set_option linter.unusedSimpArgs false
set_option maxRecDepth 1000000
set_option maxHeartbeats 6400000
namespace Go.Proofs.YtbffpkmfhkphdaaGreatDoor
open Go Lib Go.RowKit Limb
def Moved(w:World)(F:Foot)(w':World)(h':Hp):Prop:= ∃F',Step w F w' F' h'
section
variable {w:World} {F:Foot} {h:Hp}
theorem allocP_some{c f n:Nat}{o:Nat}{h':Hp}(e:allocP h c f n=some (o,h')):clsO h c=true∧room h n=true∧o=newO h∧h'=addO h f 0 c (List.replicate n (if f=1∨f=4 then wd h.rt 0 else 0)):=by
 unfold allocP at e;split at e
 ·rename_i hc;rw[Bool.and_eq_true]at hc;rw[Option.some.injEq,Prod.mk.injEq]at e;exact⟨hc.1,hc.2,e.1.symm,e.2.symm⟩
 ·cases e
theorem heap_Alloc(H:HeapAt w F h)(c f n o:Nat)(h':Hp)(h1:1≤f)(h4:f≤4)(hn:n≤65535)(hp:allocP h c f n=some (o,h')):Calls Tryz.prog 45 #[.pointer (some ⟨F.p,0,none⟩),.int .u32 c,.int .i64 f,.int .i64 n] w fun e w'=>e= .returned (.tuple #[.int .u32 o,.int .i64 0])∧Moved w F w' h':=by
 obtain⟨hc,hr,ho,hh⟩:=allocP_some hp;have hcl:=clsO_lt H.good hc;have hG:=good_alloc H.good h1 h4 hn (v:=if f=1∨f=4 then wd h.rt 0 else 0) (by split;exact H.good.rlim.wd 0;decide) hc hr;have hA:=heap_alloc H ⟨n,f,0,c,0⟩ hc hcl ⟨hn,h1,h4,Nat.zero_le _,.inl rfl⟩ hr _ rfl hG;have ex:hdV ⟨n,f,0,c,0⟩= .agg #[.int .i64 n,.int .i64 f,.int .i64 0,.int .u32 c,.int .u32 0]:=rfl;rw[ex]at hA;have hA2:Calls Tryz.prog 123 #[.pointer (some ⟨F.p,0,none⟩),.agg #[.int .i64 n,.int .i64 f,.int .i64 0,.int .u32 c,.int .u32 0]] w fun e w'=>e= .returned (.tuple #[.int .u32 o,.int .i64 0])∧Moved w F w' h':=hA.mono fun e w' ⟨F',a,b⟩=>⟨by rw[ho];exact a,F',by rw[hh];exact b⟩
 have d1:decide ((f:Int)<1)=false:=decide_eq_false (by omega);have d1':decide (f<1)=false:=decide_eq_false (by omega);have d1'':decide (f=0)=false:=decide_eq_false (by omega);have d2:decide ((4:Int)<(f:Int))=false:=decide_eq_false (by omega);have d2':decide (4<f)=false:=decide_eq_false (by omega);have d3:decide ((n:Int)<0)=false:=decide_eq_false (by omega);have d4:decide ((65535:Int)<(n:Int))=false:=decide_eq_false (by omega);have d4':decide (65535<n)=false:=decide_eq_false (by omega);have HA:=hid hA2;clear hA hA2 ex hG hcl hc hr hp ho hh H;go_enter Tryz.func45,Tryz.ntmps45;go_wp2_with fail;refine(HA.out).mono ?_;rintro e V ⟨rfl,hS⟩;(try dsimp only);have HS:=hid hS;clear hS;go_wp2_with fail;go_ret2;exact⟨rfl,HS.out⟩
end
end Go.Proofs.YtbffpkmfhkphdaaGreatDoor
namespace Go.Proofs.YtbffpkmfhkphdaaGreatDoor
open Go Go.RowKit Limb
structure RFoot where
 p:Nat
 gw:Nat
 gb:Nat
 gr:Nat
def RFoot.l(G:RFoot):List Nat:=[G.p,G.gw,G.gb,G.gr]
def book(l:List Bool):List Nat:=l.map fun b=>if b then 1 else 0
theorem book_length(l:List Bool):(book l).length=l.length:=by unfold book;simp
theorem book_wd(l:List Bool)(i:Nat):wd (book l) i=if l.getD i false then 1 else 0:=by
 unfold book;by_cases h:i<l.length
 ·rw[wd_lt (by rw[List.length_map];exact h)];simp[List.getD_eq_getElem?_getD,h]
 ·rw[show wd (l.map fun b=>if b then 1 else 0) i=0 from by unfold wd;rw[List.getD_eq_getElem?_getD,List.getElem?_eq_none (by rw[List.length_map];omega)];rfl,List.getD_eq_getElem?_getD,List.getElem?_eq_none (by omega)];rfl
theorem book_append(a b:List Bool):book (a++b)=book a++book b:=by unfold book;rw[List.map_append]
structure RefAt (w:World) (G:RFoot) (h:Hp):Prop where
 good:Limb.Good h
 row: ∃cw cb,Row w G.p 74 [.int .i64 h.size,.slice (some ⟨G.gw,0,none⟩) h.ws.length cw,.slice (some ⟨G.gr,0,none⟩) 64 64,.int .u32 h.last,.slice (some ⟨G.gb,0,none⟩) h.ws.length cb]∧Sl w G.gw 60 h.ws.length cw (nums .u32 h.ws)∧Sl w G.gb 5 h.ws.length cb (nums .u8 (book h.st))
 roots:Row w G.gr 61 (nums .u32 h.rt)
 low:5≤G.p∧5≤G.gw∧5≤G.gb∧5≤G.gr
section
variable {w w':World} {G:RFoot} {h:Hp}
theorem RefAt.only{ps:List Nat}(H:RefAt w G h)(ho:Only ps w w')(hd: ∀g∈G.l,g∉ps):RefAt w' G h:=by
 obtain⟨cw,cs,r1,r2,r3⟩:=H.row;have m:G.p∈G.l∧G.gw∈G.l∧G.gb∈G.l∧G.gr∈G.l:=by unfold RFoot.l;simp
 exact⟨H.good,⟨cw,cs,r1.only ho (hd _ m.1),r2.only ho (hd _ m.2.1),r3.only ho (hd _ m.2.2.1)⟩,H.roots.only ho (hd _ m.2.2.2),H.low⟩
theorem RefAt.below(H:RefAt w G h)(hb:Below w.heap.size w w'):RefAt w' G h:=H.only (ps:=[]) (Only.of_below hb) (by simp)
theorem RefAt.lt(H:RefAt w G h): ∀g∈G.l,g<w.heap.size:=by
 obtain⟨cw,cs,r1,r2,r3⟩:=H.row;have:=H.roots.lt;have:=r1.lt;have:=r2.lt;have:=r3.lt;intro g hg;unfold RFoot.l at hg;simp only[List.mem_cons,List.not_mem_nil,or_false]at hg;rcases hg with rfl|rfl|rfl|rfl<;>assumption
theorem RefAt.ge(H:RefAt w G h): ∀g∈G.l,5≤g:=by
 obtain⟨a,b,c,d⟩:=H.low;intro g hg;unfold RFoot.l at hg;simp only[List.mem_cons,List.not_mem_nil,or_false]at hg;rcases hg with rfl|rfl|rfl|rfl<;>assumption
theorem RefAt.apart(H:RefAt w G h):G.p≠G.gw∧G.p≠G.gb∧G.p≠G.gr∧G.gw≠G.gb∧G.gw≠G.gr∧G.gb≠G.gr:=by
 obtain⟨cw,cs,r1,r2,r3⟩:=H.row;obtain⟨_,r2⟩:=r2.row;obtain⟨_,r3⟩:=r3.row;have r4:=H.roots;exact⟨r1.ne r2 (by decide),r1.ne r3 (by decide),r1.ne r4 (by decide),r2.ne r3 (by decide),r2.ne r4 (by decide),r3.ne r4 (by decide)⟩
theorem RefAt.cells(H:RefAt w G h): ∃cw cs,w.cell? ⟨G.p,0,none⟩=some (.int .i64 h.size)∧w.cell? ⟨G.p,1,none⟩=some (.slice (some ⟨G.gw,0,none⟩) h.ws.length cw)∧w.cell? ⟨G.p,2,none⟩=some (.slice (some ⟨G.gr,0,none⟩) 64 64)∧w.cell? ⟨G.p,3,none⟩=some (.int .u32 h.last)∧w.cell? ⟨G.p,4,none⟩=some (.slice (some ⟨G.gb,0,none⟩) h.ws.length cs)∧Sl w G.gw 60 h.ws.length cw (nums .u32 h.ws)∧Sl w G.gb 5 h.ws.length cs (nums .u8 (book h.st)):=by
 obtain⟨cw,cs,r1,r2,r3⟩:=H.row;obtain⟨a,b,c,d,e⟩:=r1.cells5;exact⟨cw,cs,a,b,c,d,e,r2,r3⟩
theorem RefAt.root_cell(H:RefAt w G h){i:Nat}(hi:i<64):w.cell? ⟨G.gr,i,none⟩=some (.int .u32 (wd h.rt i:Nat)):=H.roots.cell (by rw[H.good.rlen];exact hi)
theorem RefAt.small(H:RefAt w G h):h.ws.length≤1048576∧h.size≤1048576∧64≤h.size:=⟨Nat.le_trans H.good.fits H.good.sM,H.good.sM,H.good.s64⟩
end
structure RFoot.Next (G G':RFoot) (w:World):Prop where
 p:G'.p=G.p
 gr:G'.gr=G.gr
 gw:G'.gw=G.gw∨w.heap.size≤G'.gw
 gb:G'.gb=G.gb∨w.heap.size≤G'.gb
theorem RFoot.Next.refl(G:RFoot)(w:World):G.Next G w:=⟨rfl,rfl,.inl rfl,.inl rfl⟩
theorem RFoot.Next.trans{G G' G'':RFoot}{w w':World}(h:G.Next G' w)(k:G'.Next G'' w')(hs:w.heap.size≤w'.heap.size):G.Next G'' w:=
 ⟨k.p.trans h.p,k.gr.trans h.gr,by rcases k.gw with e|e;rw[e];exact h.gw;exact .inr (by omega),by rcases k.gb with e|e;rw[e];exact h.gb;exact .inr (by omega)⟩
theorem RFoot.Next.mem{G G':RFoot}{w:World}(h:G.Next G' w): ∀g∈G'.l,g∈G.l∨w.heap.size≤g:=by
 intro g hg;unfold RFoot.l at*
 simp only[List.mem_cons,List.not_mem_nil,or_false]at*
 rcases hg with rfl|rfl|rfl|rfl
 ·exact .inl (.inl h.p)
 ·rcases h.gw with e|e
  ·exact .inl (.inr (.inl e))
  ·exact .inr e
 ·rcases h.gb with e|e
  ·exact .inl (.inr (.inr (.inl e)))
  ·exact .inr e
 ·exact .inl (.inr (.inr (.inr h.gr)))
def RStep(w:World)(G:RFoot)(w':World)(G':RFoot)(h':Hp):Prop:=RefAt w' G' h'∧G.Next G' w∧Only G.l w w'
theorem RStep.trans{w w' w'':World}{G G' G'':RFoot}{h' h'':Hp}(a:RStep w G w' G' h')(b:RStep w' G' w'' G'' h''):RStep w G w'' G'' h'':=
 ⟨b.1,a.2.1.trans b.2.1 a.2.2.size,a.2.2.trans b.2.2 a.2.1.mem⟩
theorem RStep.refl{w:World}{G:RFoot}{h:Hp}(H:RefAt w G h):RStep w G w G h:=⟨H,RFoot.Next.refl _ _,Only.refl _ _⟩
theorem RStep.below{w w' w'':World}{G G':RFoot}{h':Hp}(a:RStep w G w' G' h')(hb:Below w'.heap.size w' w''):RStep w G w'' G' h':=
 ⟨a.1.below hb,a.2.1,a.2.2.trans (qs:=[]) (Only.of_below hb) (fun q hq=>by cases hq)⟩
theorem RStep.of_below{w w' w'':World}{G G':RFoot}{h':Hp}(hb:Below w.heap.size w w')(a:RStep w' G w'' G' h')(hl: ∀g∈G.l,g<w.heap.size):RStep w G w'' G' h':=
 ⟨a.1,⟨a.2.1.p,a.2.1.gr,a.2.1.gw.imp id (fun e=>Nat.le_trans hb.size e),a.2.1.gb.imp id (fun e=>Nat.le_trans hb.size e)⟩,(Only.of_below hb).trans a.2.2 (fun q hq=> .inl hq)⟩
theorem RStep.beside{w w':World}{G G':RFoot}{h':Hp}(a:RStep w G w' G' h'){g:Nat}{e:TypeId}{cs:List Value}(hr:Row w g e cs)(hg:g∉G.l):Row w' g e cs:=hr.only a.2.2 hg
def RMoved(w:World)(G:RFoot)(w':World)(h':Hp):Prop:= ∃G',RStep w G w' G' h'
end Go.Proofs.YtbffpkmfhkphdaaGreatDoor
namespace Go.Proofs.YtbffpkmfhkphdaaGreatDoor
open Go Lib Go.RowKit Limb
theorem oop_length(w:World)(n:Nat)(hn:n≤262140):Calls Tryz.prog 304 #[.int .i64 n] w fun e w'=>e= .returned (.tuple #[.int .i64 ((n+3)/4:Nat),.int .i64 (4*((n+3)/4)-n:Nat),.int .i64 0])∧w=w':=by
 have d1:decide ((n:Int)<0)=false:=decide_eq_false (by omega);have d2:decide ((262140:Int)<(n:Int))=false:=decide_eq_false (by omega);have d2':decide (262140<n)=false:=decide_eq_false (by omega);go_enter Tryz.func304,Tryz.ntmps304;go_wp2_with fail;refine bodyPost_ret (v:= .tuple #[.int .i64 (((n:Int)+3)/4),.int .i64 (4*(((n:Int)+3)/4)-n),.int .i64 0]) (by simp[results,Tryz.results304,go_sem]) rfl ⟨?_,rfl⟩;rw[show(((n+3)/4:Nat):Int)=((n:Int)+3)/4 by omega,show((4*((n+3)/4)-n:Nat):Int)=4*(((n:Int)+3)/4)-n by omega]
theorem or_part{a b:Nat}(m:Nat)(hm:m≤24)(ha:a<2^m)(hb:b<4294967296)(hd:b%2^m=0):bits .or .u32 (a:Int) (b:Int)=((a+b:Nat):Int):=by
 have:2^m≤2^24:=Nat.pow_le_pow_right (by decide) hm;rw[u32_or_nat a b (by omega) hb,Nat.or_comm,nat_join m b a hd ha,Nat.add_comm]
theorem u32_self{x:Int}(h1:0≤x)(h2:x<4294967296):IntKind.u32.wrap x=x:=by
 simp only[IntKind.wrap,IntKind.bits,IntKind.signed];simp;omega
theorem or_b0{a x:Nat}(ha:a<2^0)(hx:x<256):bits .or .u32 (a:Int) (x:Int)=((a+x:Nat):Int):=or_part 0 (by decide) ha (by omega) (by omega)
theorem or_b1{a x:Nat}(ha:a<2^8)(hx:x<256):bits .or .u32 (a:Int) ((x:Int)*256)=((a+x*256:Nat):Int):=by
 rw[show(x:Int)*256=((x*256:Nat):Int) by omega];exact or_part 8 (by decide) ha (by omega) (by omega)
theorem or_b2{a x:Nat}(ha:a<2^16)(hx:x<256):bits .or .u32 (a:Int) ((x:Int)*65536)=((a+x*65536:Nat):Int):=by
 rw[show(x:Int)*65536=((x*65536:Nat):Int) by omega];exact or_part 16 (by decide) ha (by omega) (by omega)
theorem or_b3{a x:Nat}(ha:a<2^24)(hx:x<256):bits .or .u32 (a:Int) ((x:Int)*16777216)=((a+x*16777216:Nat):Int):=by
 rw[show(x:Int)*16777216=((x*16777216:Nat):Int) by omega];exact or_part 24 (by decide) ha (by omega) (by omega)
theorem oop_packbytes(w:World)(a:Option Addr)(t:List Nat)(n cap:Nat)(hlay:Lay .u8 w a t)(ht:B8 t)(hn:n=t.length)(hl:n≤262140):Calls Tryz.prog 283 #[.slice a n cap] w fun e w'=>(∃g,e= .returned (.tuple #[.slice (some ⟨g,0,none⟩) ((n+3)/4) ((n+3)/4),.int .i64 (4*((n+3)/4)-n:Nat),.int .i64 0])∧w.heap.size≤g∧Row w' g 60 (nums .u32 (packB t)))∧Below w.heap.size w w':=by
 have HL:=hid (oop_length w n hl);obtain⟨b1,off1,hix,hcx,_⟩:=hlay.use 72 5 Tryz.underlying72 size8 cap;rw[←hn]at hix hcx;have HIX:=hid hix;have HCX:=hid hcx;obtain⟨m,hm⟩: ∃m,m=(n+3)/4:=⟨_,rfl⟩;have hl4:=HL.out;rw[←hm]at hl4 ⊢;have HL:=hid hl4;have hz0:=packTo_zero t;have hza:=packTo_all t (k:=n) (by omega);rw[←hn,←hm]at hz0;have hz1:=packTo_length t;rw[←hn,←hm]at hz1;have HZ1:=hid hz1;have hst:=fun k (hk:k<n)=>packTo_step ht (k:=k) (by omega)
 rw[←hn,←hm]at hst;have HST:=hid hst
 have HT:=hid (show∀k,wd t k<256 from fun k=>by
  by_cases hk:k<t.length
  ·rw[wd_lt hk];exact ht _ (List.getElem_mem _)
  ·rw[wd_ge (by omega)];decide)
 have HZ0:=hid hz0;have HZA:=hid hza;have hm2:m≤65535:=by omega
 have Hm:=hid hm;clear hix hcx hl4 hz0 hza hz1 hst hm hlay ht hn;go_enter Tryz.func283,Tryz.ntmps283;go_wp2_with fail;refine(HL.out).mono ?_;rintro e w1 ⟨rfl,rfl⟩;(try dsimp only);clear HL;go_wp2_with(at_make;refine wpList_make_row rfl _ _ _ rfl 60 (.int .u32 0) 4 Tryz.underlying22 info32 rfl _ _ _ _ m m rfl rfl rfl rfl (Nat.le_refl _) (by omega) (by omega) ?_;intro w1 g hg1 hg2 hrow hbel);rw[←nums_replicate,←HZ0.out]at hrow;clear HZ0;go_loopw[24] (fun i wr=> ∃k:Nat,k≤n∧i= .int .i64 k∧Row wr g 60 (nums .u32 (packTo t k))∧Below w.heap.size w wr) (fun i _=>n-(intOf i).toNat);case atStart=>exact⟨0,Nat.zero_le _,rfl,hrow,hbel⟩
 case round=>
  clear hrow hbel;obtain⟨k,hk,rfl,hrow,hB⟩:=hrel;by_cases h0:k<n
  ·have d1:decide ((k:Int)<(n:Int))=true:=decide_eq_true (by omega);have d2:decide (k<n)=true:=decide_eq_true h0;have ix:=HIX.out wr .i64 k (by omega) (by omega);rw[Int.toNat_natCast]at ix;have cx:=HCX.out wr hB k h0;have hx:=HT.out k;obtain⟨s1,s2,s3⟩:=HST.out k h0;go_upto_region 8 with fail
   obtain⟨q,hq⟩: ∃q,q=k/4:=⟨_,rfl⟩;rw[←hq]at s1 s2 s3;have hq1:(k:Int)/4=(q:Int):=by omega
   have rl:=hrow.cell (i:=q) (by rw[HZ1.out];exact s1);have rf:=hrow.free q;have sl:=hrow.sl (n:=m) (by rw[nums_length,HZ1.out]) (Nat.le_trans hm2 (by decide));have HI2:=hid (fun W=>sl.index 22 Tryz.underlying22 size32 W .i64 q s1);have hrs:=fun X (d:Nat) (h:Row X g 60 (nums .u32 (packTo t k)))=>h.store (k:= .u32) q d d rfl
   generalize wd (packTo t k) q=a0 at*
   generalize wd t k=x0 at*
   clear ix cx sl;have hX:Only [g] wr wr.drew:=(Only.refl _ _).drew;have rld:wr.drew.cell? ⟨g,q,none⟩=some (.int .u32 (a0:Nat)):=rl;have rfd:wr.drew.frozen? ⟨g,q,none⟩=false:=rf;have HRS:=hid hrs;have HR0:=hid hrow;have S2:=hid s2;have S3:=hid s3;have HXX:=hid hx;clear hrs hrow rl rf s1 s2 s3 hq hx d1 d2 HIX HCX HT HZA;have h4:k%4=0∨k%4=1∨k%4=2∨k%4=3:=by omega
   rcases h4 with h4|h4|h4|h4
   ·have hm1:(k:Int)%4=0:=(by omega);have s2:=S2.out;rw[h4]at s2;have S2a:Hid (a0<2^0):=Nat.lt_of_lt_of_eq s2 (by decide);have s3:=S3.out;rw[h4,show a0+x0*256^0=a0+x0 by omega]at s3;have S3a:=hid s3;clear s2 s3 S2 S3 h4;refine wp_region_held (S:=fun X=>Only [g] wr X) (by kernel_rfl) ?_;refine tk 0 (.slice (some ⟨g,0,none⟩) m m) 29 hX ?_;simp only[Act.put,zA,zB,zC];refine tk 1 (.int .i64 k) 30 hX ?_;simp only[Act.put,zA,zB,zC];refine tk 2 (.int .i64 q) 31 hX ?_ (y:=fun X hX=>by go_simp;all_goals(first |(exact u32_self (by have:=HXX.out;omega) (by have:=HXX.out;omega))|(rw[Int.tmod_eq_emod_of_nonneg (by omega)];omega)|omega|exact i64_self (by omega) (by omega)|(rw[i64_self (by omega) (by omega)];omega)));simp only[Act.put,zA,zB,zC];refine tk 3 (.pointer (some ⟨g,q,none⟩)) 32 hX ?_ (y:=fun X hX=>by have ix:=HI2.out;go_simp);simp only[Act.put,zA,zB,zC];refine tk 5 (.int .u8 (x0:Nat)) 34 hX ?_;simp only[Act.put,zA,zB,zC];refine tk 6 (.int .u32 (x0:Nat)) 35 hX ?_ (y:=fun X hX=>by go_simp;all_goals(first |(exact u32_self (by have:=HXX.out;omega) (by have:=HXX.out;omega))|(rw[Int.tmod_eq_emod_of_nonneg (by omega)];omega)|omega|exact i64_self (by omega) (by omega)|(rw[i64_self (by omega) (by omega)];omega)));simp only[Act.put,zA,zB,zC];refine tk 7 (.int .i64 k) 36 hX ?_;simp only[Act.put,zA,zB,zC];refine tk 8 (.int .i64 0) 37 hX ?_ (y:=fun X hX=>by go_simp;all_goals(first |(exact u32_self (by have:=HXX.out;omega) (by have:=HXX.out;omega))|(rw[Int.tmod_eq_emod_of_nonneg (by omega)];omega)|omega|exact i64_self (by omega) (by omega)|(rw[i64_self (by omega) (by omega)];omega)));simp only[Act.put,zA,zB,zC];refine tk 9 (.int .i64 0) 38 hX ?_ (y:=fun X hX=>by go_simp;all_goals(first |(exact u32_self (by have:=HXX.out;omega) (by have:=HXX.out;omega))|(rw[Int.tmod_eq_emod_of_nonneg (by omega)];omega)|omega|exact i64_self (by omega) (by omega)|(rw[i64_self (by omega) (by omega)];omega)));simp only[Act.put,zA,zB,zC];refine tk 10 (.int .u32 (x0:Int)) 39 hX ?_ (y:=fun X hX=>by go_simp;all_goals(first |(exact u32_self (by have:=HXX.out;omega) (by have:=HXX.out;omega))|(rw[Int.tmod_eq_emod_of_nonneg (by omega)];omega)|omega|exact i64_self (by omega) (by omega)|(rw[i64_self (by omega) (by omega)];omega)));simp only[Act.put,zA,zB,zC];refine wpAnyH_all (rs:=[4]) (by kernel_rfl) (by decide) (fun i hi=>?_);rw[List.mem_singleton]at hi;subst hi;have HX:=hid hX;clear hX;unfold wpOp;go_simp;have hX:=HX.out;refine .inl ⟨hX,?_⟩;refine tk 11 (.int .u32 ((a0+x0:Nat):Int)) 40 hX ?_ (y:=fun X hX=>by go_simp;rw[or_b0 S2a.out HXX.out];all_goals omega);simp only[Act.put,zA,zB,zC];refine tk 12 (.pointer (some ⟨g,q,none⟩)) 41 hX ?_ (y:=fun X hX=>by have ix:=HI2.out;go_simp);simp only[Act.put,zA,zB,zC];refine wpAnyH_all (rs:=[13]) (by kernel_rfl) (by decide) (fun i hi=>?_);rw[List.mem_singleton]at hi;subst hi;unfold wpOp;go_simp;replace hX:=hX.setCell (a:=⟨g,q,none⟩) (by simp) (.int .u32 ((a0+x0:Nat):Int));refine .inl ⟨hX,?_⟩;refine wpAnyH_done (by kernel_rfl) ?_ _;have hE:=HRS.out wr.drew (a0+x0) HR0.out;rw[←S3a.out]at hE;have HE:=hid hE;have HB:=hid (below_store hB.drew (g:=g) (i:=q) (by omega) (.int .u32 ((a0+x0:Nat):Int)));clear hE hX;go_wp2_with fail;go_roundw;case rel=>exact⟨k+1,h0,by simp,HE.out,HB.out⟩
    case measure=>simp[intOf];omega
   ·have hm1:(k:Int)%4=1:=(by omega);have s2:=S2.out;rw[h4]at s2;have S2a:Hid (a0<2^8):=Nat.lt_of_lt_of_eq s2 (by decide);have s3:=S3.out;rw[h4,show a0+x0*256^1=a0+x0*256 by omega]at s3;have S3a:=hid s3;clear s2 s3 S2 S3 h4;refine wp_region_held (S:=fun X=>Only [g] wr X) (by kernel_rfl) ?_;refine tk 0 (.slice (some ⟨g,0,none⟩) m m) 29 hX ?_;simp only[Act.put,zA,zB,zC];refine tk 1 (.int .i64 k) 30 hX ?_;simp only[Act.put,zA,zB,zC];refine tk 2 (.int .i64 q) 31 hX ?_ (y:=fun X hX=>by go_simp;all_goals(first |(exact u32_self (by have:=HXX.out;omega) (by have:=HXX.out;omega))|(rw[Int.tmod_eq_emod_of_nonneg (by omega)];omega)|omega|exact i64_self (by omega) (by omega)|(rw[i64_self (by omega) (by omega)];omega)));simp only[Act.put,zA,zB,zC];refine tk 3 (.pointer (some ⟨g,q,none⟩)) 32 hX ?_ (y:=fun X hX=>by have ix:=HI2.out;go_simp);simp only[Act.put,zA,zB,zC];refine tk 5 (.int .u8 (x0:Nat)) 34 hX ?_;simp only[Act.put,zA,zB,zC];refine tk 6 (.int .u32 (x0:Nat)) 35 hX ?_ (y:=fun X hX=>by go_simp;all_goals(first |(exact u32_self (by have:=HXX.out;omega) (by have:=HXX.out;omega))|(rw[Int.tmod_eq_emod_of_nonneg (by omega)];omega)|omega|exact i64_self (by omega) (by omega)|(rw[i64_self (by omega) (by omega)];omega)));simp only[Act.put,zA,zB,zC];refine tk 7 (.int .i64 k) 36 hX ?_;simp only[Act.put,zA,zB,zC];refine tk 8 (.int .i64 1) 37 hX ?_ (y:=fun X hX=>by go_simp;all_goals(first |(exact u32_self (by have:=HXX.out;omega) (by have:=HXX.out;omega))|(rw[Int.tmod_eq_emod_of_nonneg (by omega)];omega)|omega|exact i64_self (by omega) (by omega)|(rw[i64_self (by omega) (by omega)];omega)));simp only[Act.put,zA,zB,zC];refine tk 9 (.int .i64 8) 38 hX ?_ (y:=fun X hX=>by go_simp;all_goals(first |(exact u32_self (by have:=HXX.out;omega) (by have:=HXX.out;omega))|(rw[Int.tmod_eq_emod_of_nonneg (by omega)];omega)|omega|exact i64_self (by omega) (by omega)|(rw[i64_self (by omega) (by omega)];omega)));simp only[Act.put,zA,zB,zC];refine tk 10 (.int .u32 ((x0*256:Nat):Int)) 39 hX ?_ (y:=fun X hX=>by go_simp;all_goals(first |(exact u32_self (by have:=HXX.out;omega) (by have:=HXX.out;omega))|(rw[Int.tmod_eq_emod_of_nonneg (by omega)];omega)|omega|exact i64_self (by omega) (by omega)|(rw[i64_self (by omega) (by omega)];omega)));simp only[Act.put,zA,zB,zC];refine wpAnyH_all (rs:=[4]) (by kernel_rfl) (by decide) (fun i hi=>?_);rw[List.mem_singleton]at hi;subst hi;have HX:=hid hX;clear hX;unfold wpOp;go_simp;have hX:=HX.out;refine .inl ⟨hX,?_⟩;refine tk 11 (.int .u32 ((a0+x0*256:Nat):Int)) 40 hX ?_ (y:=fun X hX=>by go_simp;rw[or_b1 S2a.out HXX.out];all_goals omega);simp only[Act.put,zA,zB,zC];refine tk 12 (.pointer (some ⟨g,q,none⟩)) 41 hX ?_ (y:=fun X hX=>by have ix:=HI2.out;go_simp);simp only[Act.put,zA,zB,zC];refine wpAnyH_all (rs:=[13]) (by kernel_rfl) (by decide) (fun i hi=>?_);rw[List.mem_singleton]at hi;subst hi;unfold wpOp;go_simp;replace hX:=hX.setCell (a:=⟨g,q,none⟩) (by simp) (.int .u32 ((a0+x0*256:Nat):Int));refine .inl ⟨hX,?_⟩;refine wpAnyH_done (by kernel_rfl) ?_ _;have hE:=HRS.out wr.drew (a0+x0*256) HR0.out;rw[←S3a.out]at hE;have HE:=hid hE;have HB:=hid (below_store hB.drew (g:=g) (i:=q) (by omega) (.int .u32 ((a0+x0*256:Nat):Int)));clear hE hX;go_wp2_with fail;go_roundw;case rel=>exact⟨k+1,h0,by simp,HE.out,HB.out⟩
    case measure=>simp[intOf];omega
   ·have hm1:(k:Int)%4=2:=(by omega);have s2:=S2.out;rw[h4]at s2;have S2a:Hid (a0<2^16):=Nat.lt_of_lt_of_eq s2 (by decide);have s3:=S3.out;rw[h4,show a0+x0*256^2=a0+x0*65536 by omega]at s3;have S3a:=hid s3;clear s2 s3 S2 S3 h4;refine wp_region_held (S:=fun X=>Only [g] wr X) (by kernel_rfl) ?_;refine tk 0 (.slice (some ⟨g,0,none⟩) m m) 29 hX ?_;simp only[Act.put,zA,zB,zC];refine tk 1 (.int .i64 k) 30 hX ?_;simp only[Act.put,zA,zB,zC];refine tk 2 (.int .i64 q) 31 hX ?_ (y:=fun X hX=>by go_simp;all_goals(first |(exact u32_self (by have:=HXX.out;omega) (by have:=HXX.out;omega))|(rw[Int.tmod_eq_emod_of_nonneg (by omega)];omega)|omega|exact i64_self (by omega) (by omega)|(rw[i64_self (by omega) (by omega)];omega)));simp only[Act.put,zA,zB,zC];refine tk 3 (.pointer (some ⟨g,q,none⟩)) 32 hX ?_ (y:=fun X hX=>by have ix:=HI2.out;go_simp);simp only[Act.put,zA,zB,zC];refine tk 5 (.int .u8 (x0:Nat)) 34 hX ?_;simp only[Act.put,zA,zB,zC];refine tk 6 (.int .u32 (x0:Nat)) 35 hX ?_ (y:=fun X hX=>by go_simp;all_goals(first |(exact u32_self (by have:=HXX.out;omega) (by have:=HXX.out;omega))|(rw[Int.tmod_eq_emod_of_nonneg (by omega)];omega)|omega|exact i64_self (by omega) (by omega)|(rw[i64_self (by omega) (by omega)];omega)));simp only[Act.put,zA,zB,zC];refine tk 7 (.int .i64 k) 36 hX ?_;simp only[Act.put,zA,zB,zC];refine tk 8 (.int .i64 2) 37 hX ?_ (y:=fun X hX=>by go_simp;all_goals(first |(exact u32_self (by have:=HXX.out;omega) (by have:=HXX.out;omega))|(rw[Int.tmod_eq_emod_of_nonneg (by omega)];omega)|omega|exact i64_self (by omega) (by omega)|(rw[i64_self (by omega) (by omega)];omega)));simp only[Act.put,zA,zB,zC];refine tk 9 (.int .i64 16) 38 hX ?_ (y:=fun X hX=>by go_simp;all_goals(first |(exact u32_self (by have:=HXX.out;omega) (by have:=HXX.out;omega))|(rw[Int.tmod_eq_emod_of_nonneg (by omega)];omega)|omega|exact i64_self (by omega) (by omega)|(rw[i64_self (by omega) (by omega)];omega)));simp only[Act.put,zA,zB,zC];refine tk 10 (.int .u32 ((x0*65536:Nat):Int)) 39 hX ?_ (y:=fun X hX=>by go_simp;all_goals(first |(exact u32_self (by have:=HXX.out;omega) (by have:=HXX.out;omega))|(rw[Int.tmod_eq_emod_of_nonneg (by omega)];omega)|omega|exact i64_self (by omega) (by omega)|(rw[i64_self (by omega) (by omega)];omega)));simp only[Act.put,zA,zB,zC];refine wpAnyH_all (rs:=[4]) (by kernel_rfl) (by decide) (fun i hi=>?_);rw[List.mem_singleton]at hi;subst hi;have HX:=hid hX;clear hX;unfold wpOp;go_simp;have hX:=HX.out;refine .inl ⟨hX,?_⟩;refine tk 11 (.int .u32 ((a0+x0*65536:Nat):Int)) 40 hX ?_ (y:=fun X hX=>by go_simp;rw[or_b2 S2a.out HXX.out];all_goals omega);simp only[Act.put,zA,zB,zC];refine tk 12 (.pointer (some ⟨g,q,none⟩)) 41 hX ?_ (y:=fun X hX=>by have ix:=HI2.out;go_simp);simp only[Act.put,zA,zB,zC];refine wpAnyH_all (rs:=[13]) (by kernel_rfl) (by decide) (fun i hi=>?_);rw[List.mem_singleton]at hi;subst hi;unfold wpOp;go_simp;replace hX:=hX.setCell (a:=⟨g,q,none⟩) (by simp) (.int .u32 ((a0+x0*65536:Nat):Int));refine .inl ⟨hX,?_⟩;refine wpAnyH_done (by kernel_rfl) ?_ _;have hE:=HRS.out wr.drew (a0+x0*65536) HR0.out;rw[←S3a.out]at hE;have HE:=hid hE;have HB:=hid (below_store hB.drew (g:=g) (i:=q) (by omega) (.int .u32 ((a0+x0*65536:Nat):Int)));clear hE hX;go_wp2_with fail;go_roundw;case rel=>exact⟨k+1,h0,by simp,HE.out,HB.out⟩
    case measure=>simp[intOf];omega
   ·have hm1:(k:Int)%4=3:=(by omega);have s2:=S2.out;rw[h4]at s2;have S2a:Hid (a0<2^24):=Nat.lt_of_lt_of_eq s2 (by decide);have s3:=S3.out;rw[h4,show a0+x0*256^3=a0+x0*16777216 by omega]at s3;have S3a:=hid s3;clear s2 s3 S2 S3 h4;refine wp_region_held (S:=fun X=>Only [g] wr X) (by kernel_rfl) ?_;refine tk 0 (.slice (some ⟨g,0,none⟩) m m) 29 hX ?_;simp only[Act.put,zA,zB,zC];refine tk 1 (.int .i64 k) 30 hX ?_;simp only[Act.put,zA,zB,zC];refine tk 2 (.int .i64 q) 31 hX ?_ (y:=fun X hX=>by go_simp;all_goals(first |(exact u32_self (by have:=HXX.out;omega) (by have:=HXX.out;omega))|(rw[Int.tmod_eq_emod_of_nonneg (by omega)];omega)|omega|exact i64_self (by omega) (by omega)|(rw[i64_self (by omega) (by omega)];omega)));simp only[Act.put,zA,zB,zC];refine tk 3 (.pointer (some ⟨g,q,none⟩)) 32 hX ?_ (y:=fun X hX=>by have ix:=HI2.out;go_simp);simp only[Act.put,zA,zB,zC];refine tk 5 (.int .u8 (x0:Nat)) 34 hX ?_;simp only[Act.put,zA,zB,zC];refine tk 6 (.int .u32 (x0:Nat)) 35 hX ?_ (y:=fun X hX=>by go_simp;all_goals(first |(exact u32_self (by have:=HXX.out;omega) (by have:=HXX.out;omega))|(rw[Int.tmod_eq_emod_of_nonneg (by omega)];omega)|omega|exact i64_self (by omega) (by omega)|(rw[i64_self (by omega) (by omega)];omega)));simp only[Act.put,zA,zB,zC];refine tk 7 (.int .i64 k) 36 hX ?_;simp only[Act.put,zA,zB,zC];refine tk 8 (.int .i64 3) 37 hX ?_ (y:=fun X hX=>by go_simp;all_goals(first |(exact u32_self (by have:=HXX.out;omega) (by have:=HXX.out;omega))|(rw[Int.tmod_eq_emod_of_nonneg (by omega)];omega)|omega|exact i64_self (by omega) (by omega)|(rw[i64_self (by omega) (by omega)];omega)));simp only[Act.put,zA,zB,zC];refine tk 9 (.int .i64 24) 38 hX ?_ (y:=fun X hX=>by go_simp;all_goals(first |(exact u32_self (by have:=HXX.out;omega) (by have:=HXX.out;omega))|(rw[Int.tmod_eq_emod_of_nonneg (by omega)];omega)|omega|exact i64_self (by omega) (by omega)|(rw[i64_self (by omega) (by omega)];omega)));simp only[Act.put,zA,zB,zC];refine tk 10 (.int .u32 ((x0*16777216:Nat):Int)) 39 hX ?_ (y:=fun X hX=>by go_simp;all_goals(first |(exact u32_self (by have:=HXX.out;omega) (by have:=HXX.out;omega))|(rw[Int.tmod_eq_emod_of_nonneg (by omega)];omega)|omega|exact i64_self (by omega) (by omega)|(rw[i64_self (by omega) (by omega)];omega)));simp only[Act.put,zA,zB,zC];refine wpAnyH_all (rs:=[4]) (by kernel_rfl) (by decide) (fun i hi=>?_);rw[List.mem_singleton]at hi;subst hi;have HX:=hid hX;clear hX;unfold wpOp;go_simp;have hX:=HX.out;refine .inl ⟨hX,?_⟩;refine tk 11 (.int .u32 ((a0+x0*16777216:Nat):Int)) 40 hX ?_ (y:=fun X hX=>by go_simp;rw[or_b3 S2a.out HXX.out];all_goals omega);simp only[Act.put,zA,zB,zC];refine tk 12 (.pointer (some ⟨g,q,none⟩)) 41 hX ?_ (y:=fun X hX=>by have ix:=HI2.out;go_simp);simp only[Act.put,zA,zB,zC];refine wpAnyH_all (rs:=[13]) (by kernel_rfl) (by decide) (fun i hi=>?_);rw[List.mem_singleton]at hi;subst hi;unfold wpOp;go_simp;replace hX:=hX.setCell (a:=⟨g,q,none⟩) (by simp) (.int .u32 ((a0+x0*16777216:Nat):Int));refine .inl ⟨hX,?_⟩;refine wpAnyH_done (by kernel_rfl) ?_ _;have hE:=HRS.out wr.drew (a0+x0*16777216) HR0.out;rw[←S3a.out]at hE;have HE:=hid hE;have HB:=hid (below_store hB.drew (g:=g) (i:=q) (by omega) (.int .u32 ((a0+x0*16777216:Nat):Int)));clear hE hX;go_wp2_with fail;go_roundw;case rel=>exact⟨k+1,h0,by simp,HE.out,HB.out⟩
    case measure=>simp[intOf];omega
  ·obtain rfl:k=n:=by omega
   have d1:decide ((k:Int)<(k:Int))=false:=decide_eq_false (by omega);have d2:decide (k<k)=false:=decide_eq_false (by omega);rw[HZA.out]at hrow;have HR:=hid hrow;clear hrow;go_wp2_with fail;refine bodyPost_ret (v:= .tuple #[.slice (some ⟨g,0,none⟩) m m,.int .i64 (4*m-k:Nat),.int .i64 0]) (by simp[results,Tryz.results283,go_sem]) rfl ⟨⟨g,rfl,by omega,HR.out⟩,hB⟩
end Go.Proofs.YtbffpkmfhkphdaaGreatDoor

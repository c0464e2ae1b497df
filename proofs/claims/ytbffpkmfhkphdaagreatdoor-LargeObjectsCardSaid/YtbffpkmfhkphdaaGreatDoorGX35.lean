/- Steps of a heap, joined; Put where it may. The walk of package kernel's Intern. The walks of the document's layer 4: Live, Symbol. The walk of the function that package kernel's SetGlobal hands to undo. -/
import Derived.Test.YtbffpkmfhkphdaaGreatDoorGX34
import Derived.Test.YtbffpkmfhkphdaaGreatDoorGX00
import Derived.Test.YtbffpkmfhkphdaaGreatDoorGX18
import Derived.Test.YtbffpkmfhkphdaaGreatDoorGX33
set_option linter.unusedVariables false
set_option linter.unusedSimpArgs false
set_option maxRecDepth 1000000
set_option maxHeartbeats 6400000
namespace Go.Proofs.YtbffpkmfhkphdaaGreatDoor
open Go Go.RowKit Limb
section
variable {w:World} {F:Foot} {h:Hp}
def StepC(ps:List Nat)(w:World)(F:Foot)(w':World)(F':Foot)(h':Hp):Prop:=HeapAt w' F' h'∧F.Next F' w∧Only (ps++F.l) w w'
theorem StepC.refl{ps:List Nat}(H:HeapAt w F h):StepC ps w F w F h:=⟨H,Foot.Next.refl _ _,Only.refl _ _⟩
theorem StepC.step{ps:List Nat}{w' w'':World}{F' F'':Foot}{h' h'':Hp}(a:StepC ps w F w' F' h')(b:Step w' F' w'' F'' h''):StepC ps w F w'' F'' h'':=
 ⟨b.1,a.2.1.trans b.2.1 a.2.2.size,a.2.2.trans b.2.2 (fun q hq=>(a.2.1.mem q hq).imp (fun e=>List.mem_append_right _ e) id)⟩
theorem StepC.below{ps:List Nat}{w' w'':World}{F':Foot}{h':Hp}(a:StepC ps w F w' F' h')(hb:Below w'.heap.size w' w''):StepC ps w F w'' F' h':=
 ⟨a.1.below hb,a.2.1,a.2.2.trans (qs:=[]) (Only.of_below hb) (fun q hq=>by cases hq)⟩
theorem StepC.store{ps:List Nat}{w':World}{F':Foot}{h':Hp}(a:StepC ps w F w' F' h'){c i:Nat}(v:Value)(hc:c∈ps∨w.heap.size≤c)(hn:c∉F'.l)(h5:5≤c):StepC ps w F (w'.setCell ⟨c,i,none⟩ v) F' h':=by
 have ho:Only [c] w' (w'.setCell ⟨c,i,none⟩ v):=(Only.refl _ _).setCell (by simp) _;refine⟨a.1.only ho (fun g hg e=>hn (by rw[List.mem_singleton]at e;rw[←e];exact hg)) (by simp;omega),a.2.1,a.2.2.trans ho (fun q hq=>?_)⟩;rw[List.mem_singleton]at hq;subst hq;exact hc.imp (fun e=>List.mem_append_left _ e) id
theorem StepC.moved{ps:List Nat}{w0 w':World}{F':Foot}{h':Hp}(a:StepC ps w F w' F' h')(hb:Below w0.heap.size w0 w)(hp: ∀g∈ps,w0.heap.size≤g):Moved w0 F w' h':=
 ⟨F',a.1,⟨a.2.1.p,a.2.1.gr,a.2.1.gw.imp id (fun e=>Nat.le_trans hb.size e),a.2.1.gs.imp id (fun e=>Nat.le_trans hb.size e)⟩,(Only.of_below hb).trans a.2.2 (fun q hq=>by rcases List.mem_append.1 hq with e|e;exact .inr (hp q e);exact .inl e)⟩
theorem StepC.row{ps:List Nat}{w':World}{F':Foot}{h':Hp}(a:StepC ps w F w' F' h'){g:Nat}{e:TypeId}{cs:List Value}(hr:Row w g e cs)(h1:g∉F.l)(h2:g∉ps):Row w' g e cs:=
 hr.only a.2.2 (fun e=>by rcases List.mem_append.1 e with e|e;exact h2 e;exact h1 e)
theorem StepC.aside{ps:List Nat}{w':World}{F':Foot}{h':Hp}(a:StepC ps w F w' F' h'){g:Nat}(h1:g∉F.l)(hl:g<w.heap.size):g∉F'.l:=aside_next a.2.1 hl h1
theorem heap_putF(H:HeapAt w F h){o i v:Nat}(hf:isF h o 1 (i+1)=true)(hi:i≤65535)(hv:valO h v=true)(hv2:v<4294967296):Calls Tryz.prog 188 #[.pointer (some ⟨F.p,0,none⟩),.int .u32 o,.int .i64 i,.int .u32 v] w fun e w'=>e= .returned (.int .i64 0)∧Step w F w' F (Limb.putF h o i v):=by
 obtain⟨e1,e2,e3⟩:=isF_iff.1 hf;have hlen:(hdO h o).len=(hdO h o).size:=len_size (by omega);have hE:lookE h o (i:Int) [1,4]=0:=lookE_zero.2 ⟨e1,by rw[e2];rfl,by omega,by rw[hlen];omega⟩;have hPE:putE h o (i:Int) v=0:=by unfold putE;rw[if_pos hE,if_pos hv]
 have hPH:putH h o (i:Int) v=Limb.putF h o i v:=by unfold putH;rw[if_pos hPE,Int.toNat_natCast]
 have:=heap_put H o (isO_lt H.good e1) (i:Int) (by omega) (by omega) v hv2;rw[hPE,hPH]at this;exact this
end
end Go.Proofs.YtbffpkmfhkphdaaGreatDoor
namespace Go.Proofs.YtbffpkmfhkphdaaGreatDoor
open Go Lib Go.RowKit Limb
theorem Ker.bare{h:Hp}(K:Limb.Ker h):Live h:=fun j hj=>by
 have h1:=isO_iff.1 (K.live j hj);rw[kind_two.2 ⟨h1.1,h1.2.1⟩];decide
section
variable {w:World} {F:Foot} {h:Hp}
theorem kernel_intern(H:HeapAt w F h)(K:Limb.Ker h)(S:ByteArray)(hS:S.size≤262140)(h0:0<S.size)(o:Nat)(h':Hp)(hp:internP h (tx S)=some (o,h')):Calls Tryz.prog 259 #[.pointer (some ⟨F.p,0,none⟩),.string S] w fun e w'=>e= .returned (.tuple #[.int .u32 o,.int .i64 0])∧Moved w F w' h':=by
 obtain⟨W,hW,ra,hb1,hz1⟩:=alloc_row w 62 [.pointer (some ⟨F.p,0,none⟩)];obtain⟨V,hV,rb,hb2,hz2⟩:=alloc_row W 9 [.string S];rw[hz1]at rb;have hB:Below w.heap.size w V:=hb1.trans (hb2.mono (by omega));replace ra:=ra.below hb2 ra.lt;have HV:=hid (show V=(w.alloc (.cells #[.pointer (some ⟨F.p,0,none⟩)] 62)).alloc (.cells #[.string S] 9) by rw[hV,hW]);have HH:=H.below hB;have HSy:=hid (kernel_symbol HH (Ker.bare K) S hS);have c0:=ra.cell_at 0;have c1:=rb.cell_at 0;simp only[List.getElem?_cons_zero]at c0 c1;have hzV:V.heap.size=w.heap.size+2:=by omega
 by_cases hs:symP h (tx S)=0
 ·have hp2:=hp;unfold internP at hp2;simp only[hs,if_true]at hp2;obtain⟨⟨o1,h1⟩,e1,e2⟩:=Option.bind_eq_some_iff.1 hp2;obtain⟨h2,e3,e4⟩:=Option.map_eq_some_iff.1 e2;rw[Prod.mk.injEq]at e4;obtain⟨rfl,rfl⟩:=e4;have hsy:=HSy.out;rw[hs]at hsy;have HSy:=hid hsy;have HFn:=hid (fun X (HX:HeapAt X F h) c (rA:Row X w.heap.size 62 [.pointer (some ⟨F.p,0,none⟩)]) (rB:Row X (w.heap.size+1) 9 [.string S]) (rc:Row X c 61 [.int .u32 0]) (hcw:w.heap.size+1<c)=>kernel_intern_fn S hS h0 w.heap.size (w.heap.size+1) c X HX rA rB _ rc (fun e=>Nat.lt_irrefl _ (H.lt _ e)) (fun e=>absurd (H.lt _ e) (by omega)) (fun e=>absurd (H.lt _ e) (by omega)) (by have:=H.lt _ (mem_p F);have:=H.low;omega) (by omega) o1 h1 h2 e1 e3);have HLt:=hid (H.lt);clear hW hV hz1 hz2 hb1 hb2 hsy hp hp2 hs e1 e2 e3 H;go_enter Tryz.func259,Tryz.ntmps259;go_wp2_with fail;rw[←HV.out];go_wp2_with fail;refine(HSy.out).mono ?_;rintro e V1 ⟨rfl,hb⟩;(try dsimp only);replace ra:=ra.below hb ra.lt;replace rb:=rb.below hb rb.lt;replace HH:=HH.below hb;replace hB:=hB.trans (hb.mono hB.size);replace hzV:w.heap.size+2≤V1.heap.size:=by have:=hb.size;omega
  clear hb c0 c1 HSy HV;have HBa:=hid (fun Y (hC:Below V1.heap.size V1 Y)=>(kernel_bare (HH.below hC) (Ker.bare K)).mono (R':=fun e w'=>e= .returned (.bool false)∧Below V1.heap.size V1 w') fun e w' ⟨x,y⟩=>⟨x,hC.trans (y.mono hC.size)⟩);have HR:=hid (fun Y (hC:Below V1.heap.size V1 Y)=>(kernel_root (HH.below hC) 3 (by decide)).mono (R':=fun e w'=>e= .returned (.int .u32 (wd h.rt 3:Nat))∧Below V1.heap.size V1 w') fun e w' ⟨x,y⟩=>⟨x,by rw[←y];exact hC⟩);have HP:=hid (fun Y (hC:Below V1.heap.size V1 Y)=>(kernel_pointers (HH.below hC) (wd h.rt 3) 0 (root_lt HH.good 3)).mono (R':=fun e w'=>e= .returned (.bool true)∧Below V1.heap.size V1 w') fun e w' ⟨x,y⟩=>⟨by rw[x,K.l3],hC.trans (y.mono hC.size)⟩);go_wp2_with fail;refine wp_region_calm (fun Y=>Below V1.heap.size V1 Y) (by kernel_rfl) (by kernel_rfl) (Below.refl _ _).drew ?_;show wpQuiet _ _ _ _ [_,_,_,_,_,_,_,_,_] _
  refine wpQuiet_at 15 (.pointer (some ⟨F.p,0,none⟩)) rfl (by kernel_rfl) (fun Y hC=>?_) ?_
  ·have c0:=(ra.below hC ra.lt).cell_at 0;simp only[List.getElem?_cons_zero]at c0;go_simp
  simp only[Act.put,zA,zB,zC];refine wpQuiet_at 16 (.bool false) rfl (by kernel_rfl) (fun Y hC=>?_) ?_
  ·go_simp;exact HBa.out Y hC
  simp only[Act.put,zA,zB,zC];refine qa 17 (.bool false) ?_;simp only[Act.put,zA,zB,zC];refine wpQuiet_at 18 (.pointer (some ⟨F.p,0,none⟩)) rfl (by kernel_rfl) (fun Y hC=>?_) ?_
  ·have c0:=(ra.below hC ra.lt).cell_at 0;simp only[List.getElem?_cons_zero]at c0;go_simp
  simp only[Act.put,zA,zB,zC];refine wpQuiet_at 19 (.pointer (some ⟨F.p,0,none⟩)) rfl (by kernel_rfl) (fun Y hC=>?_) ?_
  ·have c0:=(ra.below hC ra.lt).cell_at 0;simp only[List.getElem?_cons_zero]at c0;go_simp
  simp only[Act.put,zA,zB,zC];refine wpQuiet_at 20 (.int .u32 (wd h.rt 3:Nat)) rfl (by kernel_rfl) (fun Y hC=>?_) ?_
  ·go_simp;exact HR.out Y hC
  simp only[Act.put,zA,zB,zC];refine wpQuiet_at 21 (.bool true) rfl (by kernel_rfl) (fun Y hC=>?_) ?_
  ·go_simp;exact HP.out Y hC
  simp only[Act.put,zA,zB,zC];refine qa 22 (.bool false) ?_;simp only[Act.put,zA,zB,zC];refine qa 23 (.bool false) ?_;simp only[Act.put,zA,zB,zC];refine wpQuiet_nil ?_;intro V2 hb2;replace ra:=ra.below hb2 ra.lt;replace rb:=rb.below hb2 rb.lt;replace HH:=HH.below hb2;replace hB:=hB.trans (hb2.mono hB.size);replace hzV:w.heap.size+2≤V2.heap.size:=by have:=hb2.size;omega
  clear hb2 HBa HR HP;obtain⟨V3,hV3,rc,hb3,hz3⟩:=alloc_row V2 61 [.int .u32 0];have HV3:=hid hV3;have ra2':=ra;have hlt:=ra.lt;replace ra:=ra.below hb3 ra.lt;replace rb:=rb.below hb3 rb.lt;replace HH:=HH.below hb3;replace hB:=hB.trans (hb3.mono hB.size);obtain⟨c,hc⟩: ∃c,c=V2.heap.size:=⟨_,rfl⟩;rw[←hc]at rc;have Hc:=hid hc;have hcw:w.heap.size+1<c:=by omega
  have ra2:Row V2 w.heap.size 62 [.pointer (some ⟨F.p,0,none⟩)]:=ra2';have c0:=ra2.cell_at 0;have hlt2:=ra2.lt;simp only[List.getElem?_cons_zero]at c0;have hcl:=rc.lt;have HQ:=hid (undo_intern HH (.pointer (some ⟨w.heap.size,0,none⟩)) (.pointer (some ⟨w.heap.size+1,0,none⟩)) (.pointer (some ⟨c,0,none⟩)) (fun X'=> ∃F',StepC [c] V3 F X' F' h2∧Row X' c 61 [.int .u32 o1]) (fun X hX=>(HFn.out X (HH.below hX) c (ra.below hX ra.lt) (rb.below hX rb.lt) (rc.below hX rc.lt) hcw).mono fun e X' ⟨x,F',y1,y2,y3,y4⟩=>⟨x,F',⟨y1,⟨y2.p,y2.gr,y2.gw.imp id (fun e=>Nat.le_trans hX.size e),y2.gs.imp id (fun e=>Nat.le_trans hX.size e)⟩,(Only.of_below hX).trans y3 (fun q hq=> .inl hq)⟩,y4⟩));have HcF:=hid (show w.heap.size≤c from by omega);clear HH HFn ra rb rc ra2 ra2' hlt hcw hV3 hb3 hz3 hc hzV;go_wp2_with fail;rw[←Hc.out,←HV3.out];refine(HQ.out).mono ?_;rintro e V4 ⟨rfl,F',hT,rc4⟩;(try dsimp only);have HM:=hid (hT.moved hB (by intro g hg;rw[List.mem_singleton]at hg;rw[hg];exact HcF.out));have c4:=rc4.cell_at 0;simp only[List.getElem?_cons_zero]at c4;clear hT rc4 HQ;go_wp2_with fail;go_ret2;exact⟨rfl,HM.out⟩
 ·have hp2:=hp;unfold internP at hp2;simp only[hs,if_false]at hp2;rw[Option.some.injEq,Prod.mk.injEq]at hp2;obtain⟨rfl,rfl⟩:=hp2;have q:(((symP h (tx S):Nat):Int)==0)=false:=by rw[beq_eq_false_iff_ne];omega
  have q2:(((symP h (tx S):Nat))==0)=false:=(by rw[beq_eq_false_iff_ne];omega);have HSt:=hid (show∀Y,Below w.heap.size w Y→Moved w F Y h from fun Y hY=>⟨F,(Step.refl H).below hY⟩);generalize symP h (tx S)=o at*
  clear hW hV hz1 hz2 hb1 hb2 hp hs H HH ra rb hzV;go_enter Tryz.func259,Tryz.ntmps259;go_wp2_with fail;rw[←HV.out];go_wp2_with fail;refine(HSy.out).mono ?_;rintro e V1 ⟨rfl,hb⟩;(try dsimp only);have HM:=hid (HSt.out _ (hB.trans (hb.mono hB.size)));clear hb HSt c0 c1;go_wp2_with fail;go_ret2;exact⟨rfl,HM.out⟩
end
end Go.Proofs.YtbffpkmfhkphdaaGreatDoor
namespace Go.Proofs.YtbffpkmfhkphdaaGreatDoor
open Go Go.RowKit Limb
theorem find_at{p:Nat→Bool}: ∀(L:List Nat) (k:Nat),k<L.length→(∀j,j<k→p (wd L j)=false)→p (wd L k)=true→L.find? p=some (wd L k)
 |a :: t,0,_,_,h=>by
  have h:p a=true:=h;show List.find? p (a :: t)=some a
  rw[List.find?_cons_of_pos h]
 |a :: t,k+1,hk,hj,h=>by
  have h1:p a=false:=hj 0 (by omega);rw[List.find?_cons_of_neg (by rw[h1];decide)];exact find_at t k (by simpa using hk) (fun j hj'=>hj (j+1) (by omega)) h
theorem find_no{p:Nat→Bool}: ∀(L:List Nat),(∀j,j<L.length→p (wd L j)=false)→L.find? p=none
 |[],_=>rfl
 |a :: t,hj=>by
  have h1:p a=false:=hj 0 (by simp);rw[List.find?_cons_of_neg (by rw[h1];decide)];exact find_no t (fun j hj'=>hj (j+1) (by simpa using hj'))
theorem ahead_mem{z:Nat}: ∀{fl:List Nat} {x:Nat},x∈Limb.ahead z fl→x∈fl
 |[],_,h=>by cases h
 |a :: t,x,h=>by
  have h:x∈(if a=z then[]else a :: Limb.ahead z t):=h;split at h
  ·cases h
  ·rcases List.mem_cons.1 h with e|e
   ·rw[e];exact List.mem_cons_self
   ·exact List.mem_cons_of_mem _ (ahead_mem e)
theorem entries_lt{h:Hp}(k:Limb.Good h)(r j:Nat):wd (entries h r) j<4294967296:=by
 unfold wd;rw[List.getD_eq_getElem?_getD]
 cases e:(entries h r)[j]? with
 |none=>simp
 |some x=>
  have hm:=List.mem_of_getElem? e;unfold entries at hm;split at hm
  ·exact flds_lim k _ x (ahead_mem hm)
  ·cases hm
theorem owns_split{w:World}{B n:Nat}{v:Value}{xs:List Value}(h:w.ownsRow B 61 1 v n xs):(v= .slice none 0 0∧n=0)∨∃g c,v= .slice (some ⟨g,0,none⟩) n c∧Sl w g 61 n c xs:=by
 obtain⟨h1,h2⟩:=h;rcases h2 with h2|⟨g,cap,cur,q1,q2,q3,q4,q5,q6,q7⟩
 ·exact .inl h2
 ·rw[Nat.mul_one]at h1 q6 q7;exact .inr ⟨g,cap,q1,cur.toList,by unfold Row;simpa using q3,by simpa using q6,h1,q4,q5,q7⟩
section
variable {w:World} {G:RFoot} {h:Hp}
theorem r4_live(H:RefAt w G h)(K:Limb.Ker h):Calls Tryz.prog 268 #[.pointer (some ⟨G.p,0,none⟩)] w fun e w'=>e= .returned (.bool true)∧w=w':=by
 obtain⟨cw,cs,c0,c1,c2,_⟩:=H.cells;have ev: ∀j,j<5→wd h.rt (wd [12,18,19,20,23] j)%2=0:=fun j hj=>(isO_iff.1 (K.live j hj)).2.1
 have e12:((wd h.rt 12:Nat):Int)%2=0:=by have:=ev 0 (by decide);have:wd h.rt 12%2=0:=this;omega
 have e18:((wd h.rt 18:Nat):Int)%2=0:=by have:=ev 1 (by decide);have:wd h.rt 18%2=0:=this;omega
 have e19:((wd h.rt 19:Nat):Int)%2=0:=by have:=ev 2 (by decide);have:wd h.rt 19%2=0:=this;omega
 have e20:((wd h.rt 20:Nat):Int)%2=0:=by have:=ev 3 (by decide);have:wd h.rt 20%2=0:=this;omega
 have e23:((wd h.rt 23:Nat):Int)%2=0:=by have:=ev 4 (by decide);have:wd h.rt 23%2=0:=this;omega
 have r12:=H.root_cell (i:=12) (by decide);have r18:=H.root_cell (i:=18) (by decide);have r19:=H.root_cell (i:=19) (by decide);have r20:=H.root_cell (i:=20) (by decide);have r23:=H.root_cell (i:=23) (by decide);have sl:Sl w G.gr 61 64 64 (nums .u32 h.rt):=H.roots.sl (by rw[nums_length];exact H.good.rlen.symm) (by decide);have i12:=fun W=>sl.index 71 Tryz.underlying71 size_oop W .i64 12 (by decide)
 have i18:=fun W=>sl.index 71 Tryz.underlying71 size_oop W .i64 18 (by decide)
 have i19:=fun W=>sl.index 71 Tryz.underlying71 size_oop W .i64 19 (by decide)
 have i20:=fun W=>sl.index 71 Tryz.underlying71 size_oop W .i64 20 (by decide)
 have i23:=fun W=>sl.index 71 Tryz.underlying71 size_oop W .i64 23 (by decide)
 rw[show((12:Nat):Int)=12 from rfl]at i12;rw[show((18:Nat):Int)=18 from rfl]at i18;rw[show((19:Nat):Int)=19 from rfl]at i19;rw[show((20:Nat):Int)=20 from rfl]at i20;rw[show((23:Nat):Int)=23 from rfl]at i23;generalize wd h.rt 12=a12 at*
 generalize wd h.rt 18=a18 at*
 generalize wd h.rt 19=a19 at*
 generalize wd h.rt 20=a20 at*
 generalize wd h.rt 23=a23 at*
 clear sl ev H K;go_enter Tryz.func268,Tryz.ntmps268;go_wp2_with fail;go_ret;exact⟨rfl,rfl⟩
end
end Go.Proofs.YtbffpkmfhkphdaaGreatDoor
namespace Go.Proofs.YtbffpkmfhkphdaaGreatDoor
open Go Lib Go.RowKit Limb
section
variable {F:Foot} {h:Hp}
theorem kernel_setglobal_fn(K:Limb.Ker h)(S:ByteArray)(hS:S.size≤262140)(h0:0<S.size)(v:Nat)(hv:isO h v=true)(a b c d:Nat)(X:World)(HX:HeapAt X F h)(ra:Row X a 62 [.pointer (some ⟨F.p,0,none⟩)])(rb:Row X b 9 [.string S])(v0:Value)(rc:Row X c 61 [v0])(rd:Row X d 61 [.int .u32 v])(ha:a∉F.l)(hc:c∉F.l)(hd:d∉F.l)(hc5:5≤c)(hac:a≠c)(hdc:d≠c)(k:Nat)(h1:Hp)(hp1:internP h (tx S)=some (k,h1))(o:Nat)(h2:Hp)(hp2:allocP h1 (wd h1.rt 23) 1 2=some (o,h2))(h3:Hp)(hp3:putL (Limb.putF (Limb.putF h2 o 0 k) o 1 v) 4 o=some h3):Calls Tryz.prog 264 #[.pointer (some ⟨a,0,none⟩),.pointer (some ⟨b,0,none⟩),.pointer (some ⟨c,0,none⟩),.pointer (some ⟨d,0,none⟩)] X fun e X'=>e= .returned (.int .i64 0)∧∃F',StepC [c] X F X' F' h3∧Row X' c 61 [.int .u32 o]:=by
 obtain⟨g1,i1⟩:=grow_intern HX.good (tx_b8 S) (by rw[tx_length];exact hS) hp1;obtain⟨g2,i2⟩:=grow_alloc g1.good (by decide) (by decide) (by decide) hp2;have kk:=isF_isO i1;have g3:=grow_put g2.good (i:=0) (isF_le i2 (by decide)) (isO_lt g1.good kk);have vO:=(g1.trans g2).isO hv;have vlt:=isO_lt HX.good hv;have g4:=grow_put g3.good (i:=1) (v:=v) (g3.isF _ _ _ i2) vlt;have oF:=isF_isO (g4.isF _ _ _ (g3.isF _ _ _ i2));have olt:=isO_lt g4.good oF;have HIn:=hid (kernel_intern HX K S hS h0 k h1 hp1);have HR:=hid (fun V F1 (H1:HeapAt V F1 h1) (hp:F1.p=F.p)=>show Calls Tryz.prog 110 #[.pointer (some ⟨F.p,0,none⟩),.int .i64 23] V fun e w'=>e= .returned (.int .u32 (wd h1.rt 23:Nat))∧Below V.heap.size V w' from by rw[←hp];exact(kernel_root H1 23 (by decide)).mono fun e w' ⟨x,y⟩=>⟨x,by rw[←y];exact Below.refl _ _⟩);have HAl:=hid (fun V F1 (H1:HeapAt V F1 h1) (hp:F1.p=F.p)=>show Calls Tryz.prog 45 #[.pointer (some ⟨F.p,0,none⟩),.int .u32 (wd h1.rt 23:Nat),.int .i64 1,.int .i64 2] V fun e w'=>e= .returned (.tuple #[.int .u32 o,.int .i64 0])∧Moved V F1 w' h2 from by rw[←hp];exact heap_Alloc H1 (wd h1.rt 23) 1 2 o h2 (by decide) (by decide) (by decide) hp2);have HP0:=hid (fun V F1 (H1:HeapAt V F1 h2) (hp:F1.p=F.p)=>show Calls Tryz.prog 188 #[.pointer (some ⟨F.p,0,none⟩),.int .u32 o,.int .i64 0,.int .u32 k] V fun e w'=>e= .returned (.int .i64 0)∧Step V F1 w' F1 (Limb.putF h2 o 0 k)from by rw[←hp];exact heap_putF H1 (i:=0) (isF_le i2 (by decide)) (by decide) (g2.val (isO_val kk)) (isO_lt g1.good kk));have HP1:=hid (fun V F1 (H1:HeapAt V F1 (Limb.putF h2 o 0 k)) (hp:F1.p=F.p)=>show Calls Tryz.prog 188 #[.pointer (some ⟨F.p,0,none⟩),.int .u32 o,.int .i64 1,.int .u32 v] V fun e w'=>e= .returned (.int .i64 0)∧Step V F1 w' F1 (Limb.putF (Limb.putF h2 o 0 k) o 1 v)from by rw[←hp];exact heap_putF H1 (i:=1) (g3.isF _ _ _ i2) (by decide) (g3.val (isO_val vO)) vlt);have HPt:=hid (fun V F1 (H1:HeapAt V F1 (Limb.putF (Limb.putF h2 o 0 k) o 1 v)) (hp:F1.p=F.p)=>show Calls Tryz.prog 265 #[.pointer (some ⟨F.p,0,none⟩),.int .i64 4,.int .u32 o] V fun e w'=>e= .returned (.int .i64 0)∧Step V F1 w' F1 h3 from by rw[←hp];exact kernel_put H1 4 (by decide) o olt (isO_val oF) h3 hp3);have c0:=ra.cell_at 0;have c1:=rb.cell_at 0;simp only[List.getElem?_cons_zero]at c0 c1;have HT:StepC [c] X F X F h:=StepC.refl HX;have RA:=hid (fun Y F1 (hs: ∃hh,StepC [c] X F Y F1 hh)=>show Row Y a 62 [.pointer (some ⟨F.p,0,none⟩)]from hs.elim fun _ x=>x.row ra ha (by simp;exact hac));have RD:=hid (fun Y F1 (hs: ∃hh,StepC [c] X F Y F1 hh)=>show Row Y d 61 [.int .u32 v]from hs.elim fun _ x=>x.row rd hd (by simp;exact hdc));have RC:=hid rc;have HC:=hid (show c∉F.l∧5≤c∧c<X.heap.size from⟨hc,hc5,rc.lt⟩);clear HX rb rc rd hd hdc hc hc5 hac hp1 hp2 hp3 g1 i1 g2 i2 kk g3 vO vlt g4 oF olt K hv;go_enter Tryz.func264,Tryz.ntmps264;go_wp2_with fail;refine(HIn.out).mono ?_;rintro e X1 ⟨rfl,F1,hSt⟩;(try dsimp only);have hT:=HT.step hSt;have hp1:F1.p=F.p:=hT.2.1.p;have hX:=RA.out _ _ ⟨_,hT⟩;have RC1:=hid (show Row X1 c 61 [v0]from hSt.beside RC.out HC.out.1);have HTT:=hid hT;clear HT hSt hT HIn c0 c1 RC ra ha;go_wp2_with fail;replace hX:Row X1.drew a 62 [.pointer (some ⟨F.p,0,none⟩)]:=hX;have hT:=HTT.out.below (Below.refl _ X1).drew;have rc1:Row X1.drew c 61 [v0]:=RC1.out;clear HTT RC1;refine wp_region_held (S:=fun Y=>Row Y a 62 [.pointer (some ⟨F.p,0,none⟩)]) (by kernel_rfl) ?_;refine tk 0 (.pointer (some ⟨F.p,0,none⟩)) 18 hX ?_ (y:=fun X hX=>by have c0:=hX.cell_at 0;simp only[List.getElem?_cons_zero]at c0;go_simp);simp only[Act.put,zA,zB,zC];refine tk 1 (.pointer (some ⟨F.p,0,none⟩)) 19 hX ?_ (y:=fun X hX=>by have c0:=hX.cell_at 0;simp only[List.getElem?_cons_zero]at c0;go_simp);simp only[Act.put,zA,zB,zC];refine wpAnyH_all (rs:=[2]) (by kernel_rfl) (by decide) (fun i hi=>?_);rw[List.mem_singleton]at hi;subst hi;unfold wpOp;go_simp;refine .inl ((HR.out _ _ hT.1 hp1).mono ?_);rintro e X1 ⟨rfl,hb⟩;replace hX:=hX.below hb hX.lt;replace hT:=hT.below hb;replace rc1:=rc1.below hb rc1.lt;clear hb;refine⟨hX,?_⟩;refine wpAnyH_all (rs:=[3]) (by kernel_rfl) (by decide) (fun i hi=>?_);rw[List.mem_singleton]at hi;subst hi;unfold wpOp;go_simp;refine .inl ((HAl.out _ _ hT.1 hp1).mono ?_);rintro e X2 ⟨rfl,F2,hMv⟩;have hcF1:=hT.aside HC.out.1 HC.out.2.2;replace rc1:=hMv.beside rc1 hcF1;replace hT:=hT.step hMv;replace hX:=RA.out _ _ ⟨_,hT⟩;clear hMv hcF1;refine⟨hX,?_⟩;refine tk 4 (.tuple #[.int .u32 o,.int .i64 0]) 17 hX ?_;simp only[Act.put,zA,zB,zC];refine tk 5 (.int .u32 o) 22 hX ?_;simp only[Act.put,zA,zB,zC];refine tk 6 (.int .i64 0) 23 hX ?_;simp only[Act.put,zA,zB,zC];refine tk 7 (.int .u32 o) 7 hX ?_;simp only[Act.put,zA,zB,zC];refine tk 8 (.int .i64 0) 6 hX ?_;simp only[Act.put,zA,zB,zC];refine wpAnyH_done (by kernel_rfl) ?_ _;have cc:=rc1.cell_at 0;have zc:=rc1.free 0;simp only[List.getElem?_cons_zero]at cc;have hcF2:=hT.aside HC.out.1 HC.out.2.2;have hTZ:=hT.store (i:=0) (.int .u32 o) (.inl (by simp:c∈[c])) hcF2 HC.out.2.1;have rcZ:Row (X2.setCell ⟨c,0,none⟩ (.int .u32 o)) c 61 [.int .u32 o]:=rc1.store_any 0 _;obtain⟨Z,hZ⟩: ∃Z,Z=X2.setCell ⟨c,0,none⟩ (.int .u32 o):=⟨_,rfl⟩;rw[←hZ]at hTZ rcZ;have HZ:=hid hZ;have hp2:F2.p=F.p:=hTZ.2.1.p;have hP0:=HP0.out _ _ hTZ.1 hp2;have HP0':=hid hP0;have hX2:=RA.out _ _ ⟨_,hTZ⟩;have c0:=hX2.cell_at 0;simp only[List.getElem?_cons_zero]at c0;rw[hZ]at c0;have HTZ:=hid hTZ;have RCZ:=hid rcZ;clear hX hX2 hT rc1 hTZ rcZ hZ hP0 HP0 HR HAl hp1 hcF2;go_wp2_with fail;rw[←HZ.out];refine(HP0'.out).mono ?_;rintro e Y1 ⟨rfl,hSt⟩;(try dsimp only);have hT:=HTZ.out.step hSt;have rc2:=hSt.beside RCZ.out (HTZ.out.aside HC.out.1 HC.out.2.2);have hP1:=HP1.out _ _ hT.1 hp2;have HP1':=hid hP1;have hX2:=RA.out _ _ ⟨_,hT⟩;have c0:=hX2.cell_at 0;have hX3:=RD.out _ _ ⟨_,hT⟩;have c3:=hX3.cell_at 0;simp only[List.getElem?_cons_zero]at c0 c3;clear cc zc HZ;have HT1:=hid hT;have RC2:=hid rc2;clear HTZ RCZ hSt hT rc2 hP1 HP1 HP0' hX2 hX3;go_wp2_with fail;refine(HP1'.out).mono ?_;rintro e Y2 ⟨rfl,hSt⟩;(try dsimp only);have hT:=HT1.out.step hSt;have rc2:=hSt.beside RC2.out (HT1.out.aside HC.out.1 HC.out.2.2);have hP2:=HPt.out _ _ hT.1 hp2;have HP2':=hid hP2;have hX2:=RA.out _ _ ⟨_,hT⟩;have c0:=hX2.cell_at 0;simp only[List.getElem?_cons_zero]at c0;have HT2:=hid hT;have RC3:=hid rc2;clear HT1 RC2 hSt hT rc2 hP2 HPt HP1' hX2 c3;go_wp2_with fail;refine(HP2'.out).mono ?_;rintro e Y3 ⟨rfl,hSt⟩;(try dsimp only);have hfin: ∃F',StepC [c] X F Y3 F' h3∧Row Y3 c 61 [.int .u32 o]:=⟨_,HT2.out.step hSt,hSt.beside RC3.out (HT2.out.aside HC.out.1 HC.out.2.2)⟩;have HFin:=hid hfin;clear hSt hfin HT2 RC3 RA RD HC c0;go_wp2_with fail;go_ret;exact⟨rfl,HFin.out⟩
end
end Go.Proofs.YtbffpkmfhkphdaaGreatDoor

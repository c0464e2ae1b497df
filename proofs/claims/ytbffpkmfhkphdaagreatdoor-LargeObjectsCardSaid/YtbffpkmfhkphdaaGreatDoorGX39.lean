/- What the walks of the document's kernel carry along: its heap, and what lies beside it. The walk of package kernel's Array. The walk of package kernel's ownFields. The walks of the document's kernel: pair, wire. The walk of package kernel's selectors. -/
import Derived.Test.YtbffpkmfhkphdaaGreatDoorGX38
set_option linter.unusedVariables false
set_option linter.unusedSimpArgs false
set_option maxRecDepth 1000000
set_option maxHeartbeats 6400000
namespace Go.Proofs.YtbffpkmfhkphdaaGreatDoor
open Go Lib Go.RowKit Limb
section
variable {w:World} {G:RFoot} {h:Hp}
theorem RefAt.not_mem{g:Nat}{e:TypeId}{cs:List Value}(H:RefAt w G h)(r:Row w g e cs)(h1:e≠74)(h2:e≠60)(h3:e≠5)(h4:e≠61):g∉G.l:=by
 obtain⟨cw,cs',r1,r2,r3⟩:=H.row;obtain⟨_,r2⟩:=r2.row;obtain⟨_,r3⟩:=r3.row;have r4:=H.roots;intro hm;unfold RFoot.l at hm;simp only[List.mem_cons,List.not_mem_nil,or_false]at hm;rcases hm with e|e|e|e
 ·exact r.ne r1 h1 e
 ·exact r.ne r2 h2 e
 ·exact r.ne r3 h3 e
 ·exact r.ne r4 h4 e
end
theorem RFoot.Next.aside{w:World}{G G':RFoot}{g:Nat}(n:G.Next G' w)(hl:g<w.heap.size)(hg:g∉G.l):g∉G'.l:=fun e=>by
 rcases n.mem g e with x|x
 ·exact hg x
 ·omega
def RKeeps(R:World→Prop):Prop:=(∀X X',R X→Below X.heap.size X X'→R X')∧∀X F hk X' F' h',RefAt X F hk→R X→RStep X F X' F' h'→R X'
theorem rkeeps_row(g:Nat)(e:TypeId)(cs:List Value)(h1:e≠74)(h2:e≠60)(h3:e≠5)(h4:e≠61):RKeeps (fun X=>Row X g e cs):=
 ⟨fun _ _ r hb=>r.below hb r.lt,fun _ _ _ _ _ _ H r s=>s.beside r (H.not_mem r h1 h2 h3 h4)⟩
theorem RKeeps.and{R S:World→Prop}(a:RKeeps R)(b:RKeeps S):RKeeps (fun X=>R X∧S X):=
 ⟨fun X X' r hb=>⟨a.1 X X' r.1 hb,b.1 X X' r.2 hb⟩,fun X F hk X' F' h' H r s=>⟨a.2 X F hk X' F' h' H r.1 s,b.2 X F hk X' F' h' H r.2 s⟩⟩
theorem rkeeps_true:RKeeps (fun _=>True):=⟨fun _ _ _ _=>trivial,fun _ _ _ _ _ _ _ _ _=>trivial⟩
structure RC (w:World) (G:RFoot) (R:World→Prop) (X:World) (F:RFoot) (hk:Hp):Prop where
 keeps:RKeeps R
 st:RStep w G X F hk
 ex:R X
 low:5≤w.heap.size
section
variable {w X X':World} {G F F':RFoot} {R R':World→Prop} {hk h':Hp}
theorem RC.start{h:Hp}(H:RefAt w G h)(h5w:5≤w.heap.size):RC w G (fun _=>True) w G h:=⟨rkeeps_true,RStep.refl H,trivial,h5w⟩
theorem RC.p(c:RC w G R X F hk):F.p=G.p:=c.st.2.1.p
theorem RC.hp(c:RC w G R X F hk):RefAt X F hk:=c.st.1
theorem RC.lowX(c:RC w G R X F hk):5≤X.heap.size:=Nat.le_trans c.low c.st.2.2.size
theorem RC.step(c:RC w G R X F hk)(s:RStep X F X' F' h'):RC w G R X' F' h':=
 ⟨c.keeps,c.st.trans s,c.keeps.2 _ _ _ _ _ _ c.st.1 c.ex s,c.low⟩
theorem RC.below(c:RC w G R X F hk)(hb:Below X.heap.size X X'):RC w G R X' F hk:=
 ⟨c.keeps,c.st.below hb,c.keeps.1 _ _ c.ex hb,c.low⟩
theorem RC.with(c:RC w G R X F hk)(k:RKeeps R')(r:R' X):RC w G R' X F hk:=⟨k,c.st,r,c.low⟩
theorem RC.moved(c:RC w G R X F hk):RMoved w G X hk:=⟨F,c.st⟩
theorem RC.aside(c:RC w G R X F hk){g:Nat}(ho:Only [g] X X')(hg:w.heap.size≤g)(hn:g∉F.l)(r:R X'):RC w G R X' F hk:=
 ⟨c.keeps,⟨c.st.1.only ho (fun x hx e=>hn (by rw[List.mem_singleton]at e;rw[←e];exact hx)),c.st.2.1,c.st.2.2.trans ho (fun q hq=>by rw[List.mem_singleton]at hq;subst hq;exact .inr hg)⟩,r,c.low⟩
theorem RC.root(c:RC w G R X F hk){i:Nat}(hi:i<64):X.cell? ⟨G.p,2,none⟩=some (.slice (some ⟨G.gr,0,none⟩) 64 64)∧X.cell? ⟨G.gr,i,none⟩=some (.int .u32 (wd hk.rt i:Nat))∧∀W,(Instr.indexAt 71 (.slice (some ⟨G.gr,0,none⟩) 64 64) (.int .i64 i)).run Tryz.prog W= .ok (.pointer (some ⟨G.gr,i,none⟩)) W:=by
 have:=c.hp.root hi
 rwa [c.p,c.st.2.1.gr]at this
theorem RC.setR(c:RC w G R X F hk)(i v:Nat)(hv:v<4294967296):RC w G R (X.setCell ⟨G.gr,i,none⟩ (.int .u32 (v:Nat))) F (Limb.setR hk i v):=by
 have:=RStep.setR c.hp (k:=i) (v:=v) (c.hp.good.setR hv);rw[c.st.2.1.gr]at this;exact c.step this
theorem RC.free(c:RC w G R X F hk)(i:Nat):X.frozen? ⟨G.gr,i,none⟩=false:=by
 have:=c.hp.roots.free i
 rwa [c.st.2.1.gr]at this
theorem RC.drew(c:RC w G R X F hk):RC w G R X.drew F hk:=c.below (Below.refl _ X).drew
theorem rc_val(c:RC w G R X F hk)(v:Nat)(hv:isO hk v=true):Calls Tryz.prog 204 #[.pointer (some ⟨G.p,0,none⟩),.int .u32 v] X fun e X'=>e= .returned (.bool true)∧X=X':=by
 rw[←c.p];have:=r_val c.hp v (isO_lt c.hp.good hv);rw[isO_val hv]at this;exact this
theorem rc_global0(c:RC w G R X F hk)(K:Limb.Ker hk)(S:ByteArray)(h0S:0<S.size)(hg:globP hk (tx S)=0):Calls Tryz.prog 205 #[.pointer (some ⟨G.p,0,none⟩),.string S] X fun e X'=>e= .returned (.int .u32 0)∧Below X.heap.size X X':=by
 rw[←c.p];exact r4_global0 c.hp K S h0S hg
theorem rc_is(c:RC w G R X F hk)(o:Nat)(f n:Nat)(ho:isF hk o f n=true):Calls Tryz.prog 201 #[.pointer (some ⟨G.p,0,none⟩),.int .u32 o,.int .i64 f,.int .i64 n] X fun e X'=>e= .returned (.bool true)∧Below X.heap.size X X':=by
 rw[←c.p];have:=r4_is c.hp o f n (isO_lt c.hp.good (isF_isO ho));rw[ho]at this;exact this
theorem rc_intern(c:RC w G R X F hk)(K:Limb.Ker hk)(S:ByteArray)(hS:S.size≤262140)(h0:0<S.size)(o:Nat)(h':Hp)(hp:internP hk (tx S)=some (o,h')):Calls Tryz.prog 116 #[.pointer (some ⟨G.p,0,none⟩),.string S] X fun e X'=>e= .returned (.tuple #[.int .u32 o,.int .i64 0])∧∃F',RC w G R X' F' h':=by
 rw[←c.p];exact(r4_intern c.hp c.lowX K S hS h0 o h' hp).mono fun e X' ⟨x,F',y⟩=>⟨x,F',c.step y⟩
theorem rc_class(c:RC w G R X F hk)(i:Nat)(hi:i<64):Calls Tryz.prog 202 #[.pointer (some ⟨G.p,0,none⟩),.int .i64 i] X fun e X'=>e= .returned (.int .u32 (wd hk.rt i:Nat))∧X=X':=by
 rw[←c.p];exact r4_class c.hp i hi
theorem rc_alloc(c:RC w G R X F hk)(cl n o:Nat)(h':Hp)(hn:n≤65535)(hp:allocP hk cl 1 n=some (o,h')):Calls Tryz.prog 46 #[.pointer (some ⟨G.p,0,none⟩),.int .u32 cl,.int .i64 1,.int .i64 n] X fun e X'=>e= .returned (.tuple #[.int .u32 o,.int .i64 0])∧∃F',RC w G R X' F' h':=by
 rw[←c.p];exact(show Calls Tryz.prog 46 #[.pointer (some ⟨F.p,0,none⟩),.int .u32 cl,.int .i64 1,.int .i64 n] X _ from r_alloc c.hp c.lowX cl 1 n o h' (.inl rfl) hn hp).mono fun e X' ⟨x,F',y⟩=>⟨x,F',c.step y⟩
theorem rc_put(c:RC w G R X F hk){o i v:Nat}(hf:isF hk o 1 (i+1)=true)(hv:valO hk v=true)(hv2:v<4294967296):Calls Tryz.prog 117 #[.pointer (some ⟨G.p,0,none⟩),.int .u32 o,.int .i64 i,.int .u32 v] X fun e X'=>e= .returned (.int .i64 0)∧∃F',RC w G R X' F' (Limb.putF hk o i v):=by
 rw[←c.p];exact(r_put c.hp hf hv hv2).mono fun e X' ⟨x,y⟩=>⟨x,F,c.step y⟩
theorem rc_setclass(c:RC w G R X F hk){o cl:Nat}(ho:isO hk o=true)(hc:clsO hk cl=true):Calls Tryz.prog 199 #[.pointer (some ⟨G.p,0,none⟩),.int .u32 o,.int .u32 cl] X fun e X'=>e= .returned (.int .i64 0)∧∃F',RC w G R X' F' (Limb.setC hk o cl):=by
 rw[←c.p];exact(r_setclass c.hp ho hc).mono fun e X' ⟨x,y⟩=>⟨x,F,c.step y⟩
theorem rc_add(c:RC w G R X F hk)(r:Nat)(hr:r<64)(o:Nat)(ho:isO hk o=true)(h':Hp)(hp:putL hk r o=some h'):Calls Tryz.prog 203 #[.pointer (some ⟨G.p,0,none⟩),.int .i64 r,.int .u32 o] X fun e X'=>e= .returned (.int .i64 0)∧∃F',RC w G R X' F' h':=by
 rw[←c.p];exact(r4_add c.hp r hr o ho h' hp).mono fun e X' ⟨x,y⟩=>⟨x,F,c.step y⟩
theorem rc_setglobal(c:RC w G R X F hk)(K:Limb.Ker hk)(S:ByteArray)(hS:S.size≤262140)(h0:0<S.size)(v:Nat)(hv:isO hk v=true)(o:Nat)(h':Hp)(hp:setGlobP hk (tx S) v=some (o,h')):Calls Tryz.prog 118 #[.pointer (some ⟨G.p,0,none⟩),.string S,.int .u32 v] X fun e X'=>e= .returned (.tuple #[.int .u32 o,.int .i64 0])∧∃F',RC w G R X' F' h':=by
 have vlt:=isO_lt c.hp.good hv;unfold setGlobP at hp;split at hp;case isFalse=>cases hp
 rename_i hg;obtain⟨⟨k,h1⟩,e1,e2⟩:=Option.bind_eq_some_iff.1 hp;obtain⟨⟨o2,h2⟩,e3,e4⟩:=Option.bind_eq_some_iff.1 e2;obtain⟨h3,e5,e6⟩:=Option.map_eq_some_iff.1 e4;rw[Prod.mk.injEq]at e6;obtain⟨rfl,rfl⟩:=e6;simp only at e3 e5;obtain⟨g1,i1⟩:=grow_intern c.hp.good (tx_b8 S) (by rw[tx_length];exact hS) e1;obtain⟨g2,i2⟩:=grow_alloc g1.good (by decide) (by decide) (by decide) e3;have i1O:=isF_isO i1;have k1:=isO_lt g1.good i1O;have f0:=isF_le i2 (show 0+1≤2 by decide);have g3:=grow_put g2.good (i:=0) f0 k1;have f1:=g3.isF _ _ _ i2;have hv3:=isO_val (g3.isO (g2.isO (g1.isO hv)));have g4:=grow_put g3.good (i:=1) f1 vlt;have ho4:=isF_isO (g4.isF _ _ _ f1);have HVa:=hid (fun Y F1 (c:RC w G R Y F1 hk)=>rc_val c v hv);have HGl:=hid (fun Y F1 (c:RC w G R Y F1 hk)=>rc_global0 c K S h0 hg);have HIs:=hid (fun Y F1 (c:RC w G R Y F1 hk)=>show Calls Tryz.prog 201 #[.pointer (some ⟨G.p,0,none⟩),.int .u32 (wd hk.rt 4:Nat),.int .i64 1,.int .i64 0] Y fun e X'=>e= .returned (.bool true)∧Below Y.heap.size Y X' from rc_is c (wd hk.rt 4) 1 0 K.l4);have HIn:=hid (fun Y F1 (c:RC w G R Y F1 hk)=>rc_intern c K S hS h0 k h1 e1);have HCl:=hid (fun Y F1 (c:RC w G R Y F1 h1)=>show Calls Tryz.prog 202 #[.pointer (some ⟨G.p,0,none⟩),.int .i64 23] Y fun e X'=>e= .returned (.int .u32 (wd h1.rt 23:Nat))∧Y=X' from rc_class c 23 (by decide));have HAl:=hid (fun Y F1 (c:RC w G R Y F1 h1)=>show Calls Tryz.prog 46 #[.pointer (some ⟨G.p,0,none⟩),.int .u32 (wd h1.rt 23:Nat),.int .i64 1,.int .i64 2] Y fun e X'=>e= .returned (.tuple #[.int .u32 o2,.int .i64 0])∧∃F',RC w G R X' F' h2 from rc_alloc c (wd h1.rt 23) 2 o2 h2 (by decide) e3);have HP0:=hid (fun Y F1 (c:RC w G R Y F1 h2)=>show Calls Tryz.prog 117 #[.pointer (some ⟨G.p,0,none⟩),.int .u32 o2,.int .i64 0,.int .u32 k] Y fun e X'=>e= .returned (.int .i64 0)∧∃F',RC w G R X' F' (Limb.putF h2 o2 0 k)from rc_put c f0 (isO_val (g2.isO i1O)) k1);have HP1:=hid (fun Y F1 (c:RC w G R Y F1 (Limb.putF h2 o2 0 k))=>show Calls Tryz.prog 117 #[.pointer (some ⟨G.p,0,none⟩),.int .u32 o2,.int .i64 1,.int .u32 v] Y fun e X'=>e= .returned (.int .i64 0)∧∃F',RC w G R X' F' (Limb.putF (Limb.putF h2 o2 0 k) o2 1 v)from rc_put c f1 hv3 vlt);have HAd:=hid (fun Y F1 (c:RC w G R Y F1 (Limb.putF (Limb.putF h2 o2 0 k) o2 1 v))=>show Calls Tryz.prog 203 #[.pointer (some ⟨G.p,0,none⟩),.int .i64 4,.int .u32 o2] Y fun e X'=>e= .returned (.int .i64 0)∧∃F',RC w G R X' F' h3 from rc_add c 4 (by decide) o2 ho4 h3 e5);have HRt:=hid (fun Y F1 (c:RC w G R Y F1 hk)=>c.root (i:=4) (by decide));have HC:=hid c;generalize Limb.putF (Limb.putF h2 o2 0 k) o2 1 v=h5 at*
 generalize Limb.putF h2 o2 0 k=h4 at*
 generalize wd hk.rt 4=r4 at*
 generalize wd h1.rt 23=r23 at*
 clear hp e1 e2 e3 e4 e5 g1 i1 g2 i2 i1O k1 f0 g3 f1 hv3 g4 ho4 hg K hv vlt c;go_enter Tryz.func118,Tryz.ntmps118;go_wp2_with fail;refine(HVa.out _ _ HC.out).mono ?_;rintro e Y1 ⟨rfl,rfl⟩;(try dsimp only);go_wp2_with fail;refine(HGl.out _ _ HC.out).mono ?_;rintro e Y2 ⟨rfl,hb⟩;(try dsimp only);have HC1:=hid (HC.out.below hb);obtain⟨c2,cr,ix⟩:=HRt.out _ _ HC1.out;rw[show((4:Nat):Int)=4 from rfl]at ix;clear hb HVa HGl HC;go_wp2_with fail;refine(HIs.out _ _ HC1.out).mono ?_;rintro e Y3 ⟨rfl,hb⟩;(try dsimp only);have HC2:=hid (HC1.out.below hb);clear hb HIs HC1 c2 cr ix HRt;go_wp2_with fail;refine(HIn.out _ _ HC2.out).mono ?_;rintro e Y4 ⟨rfl,F1,hC⟩;(try dsimp only);have HC3:=hid hC;clear hC HC2 HIn;go_wp2_with fail;refine(HCl.out _ _ HC3.out).mono ?_;rintro e Y5 ⟨rfl,rfl⟩;(try dsimp only);go_wp2_with fail;refine(HAl.out _ _ HC3.out).mono ?_;rintro e Y5 ⟨rfl,F2,hC⟩;(try dsimp only);have HC4:=hid hC;clear hC HC3 HAl HCl;go_wp2_with fail;refine(HP0.out _ _ HC4.out).mono ?_;rintro e Y6 ⟨rfl,F3,hC⟩;(try dsimp only);have HC5:=hid hC;clear hC HC4 HP0;go_wp2_with fail;refine(HP1.out _ _ HC5.out).mono ?_;rintro e Y7 ⟨rfl,F4,hC⟩;(try dsimp only);have HC6:=hid hC;clear hC HC5 HP1;go_wp2_with fail;refine(HAd.out _ _ HC6.out).mono ?_;rintro e Y8 ⟨rfl,F5,hC⟩;(try dsimp only);have HC7:=hid hC;clear hC HC6 HAd;go_wp2_with fail;go_ret2;exact⟨rfl,F5,HC7.out⟩
end
end Go.Proofs.YtbffpkmfhkphdaaGreatDoor
namespace Go.Proofs.YtbffpkmfhkphdaaGreatDoor
open Go Lib Go.RowKit Limb
theorem drop_cons{l:List Nat}{k:Nat}(hk:k<l.length):l.drop k=wd l k :: l.drop (k+1):=by
 rw[wd_lt hk];exact List.drop_eq_getElem_cons hk
section
variable {w:World} {F:Foot} {h:Hp}
theorem kernel_array(H:HeapAt w F h)(K:Limb.Ker h)(l:List Nat)(n c ge:Nat)(hn:n=l.length)(hn1:n≤65535)(sl:Sl w ge 61 n c (nums .u32 l))(hge:ge∉F.l)(hl: ∀x∈l,isO h x=true)(o:Nat)(h1:Hp)(hp:allocP h (wd h.rt 20) 1 n=some (o,h1)):Calls Tryz.prog 266 #[.pointer (some ⟨F.p,0,none⟩),.slice (some ⟨ge,0,none⟩) n c] w fun e w'=>e= .returned (.tuple #[.int .u32 o,.int .i64 0])∧Moved w F w' (putAll o 0 l h1):=by
 have HBa:=hid (kernel_bare H (Ker.bare K));obtain⟨g1,i1⟩:=grow_alloc H.good (by decide) (by decide) hn1 hp
 have hlw: ∀k,k<n→isO h (wd l k)=true:=fun k hk=>by
  have hk':k<l.length:=(by omega);rw[wd_lt hk'];exact hl _ (List.getElem_mem hk')
 have HKd:=hid (fun X k (hk:k<n)=>show Calls Tryz.prog 217 #[.int .u32 (wd l k:Nat)] X fun e w'=>e= .returned (.int .i64 2)∧X=w' from by
  have h4:=isO_iff.1 (hlw k hk);have h3:=oop_kind X (wd l k) (isO_lt H.good (hlw k hk));rw[kind_two.2 ⟨h4.1,h4.2.1⟩]at h3;exact h3)
 have HIs:=hid (fun X (hb:Below w.heap.size w X) k (hk:k<n)=>show Calls Tryz.prog 131 #[.pointer (some ⟨F.p,0,none⟩),.int .u32 (wd l k:Nat)] X fun e w'=>e= .returned (.bool true)∧X=w' from by
  have:=heap_is (H.below hb) (wd l k) (isO_lt H.good (hlw k hk));rw[hlw k hk]at this;exact this)
 have HR:=hid (fun X (hb:Below w.heap.size w X)=>kernel_root (H.below hb) 20 (by decide));have HAl:=hid (fun X (hb:Below w.heap.size w X)=>show Calls Tryz.prog 45 #[.pointer (some ⟨F.p,0,none⟩),.int .u32 (wd h.rt 20:Nat),.int .i64 1,.int .i64 n] X fun e w'=>e= .returned (.tuple #[.int .u32 o,.int .i64 0])∧Moved w F w' h1 from(heap_Alloc (H.below hb) (wd h.rt 20) 1 n o h1 (by decide) (by decide) hn1 hp).mono fun e w' ⟨x,F',y⟩=>⟨x,F',Step.of_below hb y⟩);have HIx:=hid (fun W k (hk:k<n)=>sl.index 71 Tryz.underlying71 size_oop W .i64 k hk)
 have HCx:=hid (fun X (ho:Only F.l w X) k (hk:k<n)=>show X.cell? ⟨ge,k,none⟩=some (.int .u32 (wd l k:Nat))from by
  rw[(sl.only ho hge).cell hk,nums_get (by omega)])
 have HPut:=hid (fun X F' hk (HX:HeapAt X F' hk) (hF:F'.p=F.p) (gr:Limb.Grow h1 hk) k (hkn:k<n)=>show Calls Tryz.prog 188 #[.pointer (some ⟨F.p,0,none⟩),.int .u32 o,.int .i64 k,.int .u32 (wd l k:Nat)] X fun e w'=>e= .returned (.int .i64 0)∧Step X F' w' F' (Limb.putF hk o k (wd l k))∧Limb.Grow h1 (Limb.putF hk o k (wd l k))from by
  have q1:=isF_le (gr.isF _ _ _ i1) (show k+1≤n by omega);have q2:=gr.isO (g1.isO (hlw k hkn));rw[←hF];exact(heap_putF HX q1 (by omega) (isO_val q2) (isO_lt HX.good q2)).mono fun e w' ⟨x,y⟩=>⟨x,y,gr.trans (grow_put HX.good q1 (isO_lt HX.good q2))⟩)
 have HDr:=hid (fun k (hk:k<n)=>show l.drop k=wd l k :: l.drop (k+1)from drop_cons (by omega));have HDn:=hid (show l.drop n=[]from by rw[hn];exact List.drop_length);have d9:decide ((65535:Int)<(n:Int))=false:=decide_eq_false (by omega);have d9':decide (65535<n)=false:=decide_eq_false (by omega);have hG1:=g1.good;obtain⟨hE,hhE⟩: ∃hE,hE=putAll o 0 l h1:=⟨_,rfl⟩;rw[←hhE];have HE:=hid hhE;clear hhE hn hl hlw sl hp i1 g1 H K hge;go_enter Tryz.func266,Tryz.ntmps266;go_wp2_with fail;refine(HBa.out).mono ?_;rintro e V1 ⟨rfl,hB⟩;(try dsimp only);clear HBa;go_wp2_with fail;go_loopw[16] (fun i wr=> ∃k:Nat,k≤n∧i= .int .i64 k∧Below w.heap.size w wr) (fun i _=>n-(intOf i).toNat);case atStart=>exact⟨0,Nat.zero_le _,rfl,hB⟩
 case round=>
  clear hB;obtain⟨k,hk,rfl,hB⟩:=hrel;by_cases h0:k<n
  ·have d1:decide ((k:Int)<(n:Int))=true:=decide_eq_true (by omega);have d2:decide (k<n)=true:=decide_eq_true h0;have ix:=fun W=>HIx.out W k h0
   have cx:=HCx.out wr (Only.of_below hB) k h0;have HK1:=hid (fun X=>HKd.out X k h0);have HI1:=hid (HIs.out wr hB k h0);generalize wd l k=v at*
   go_wp2_with fail;refine(HK1.out _).mono ?_;rintro e V2 ⟨rfl,rfl⟩;(try dsimp only);go_wp2_with fail;refine(HI1.out).mono ?_;rintro e V2 ⟨rfl,rfl⟩;(try dsimp only);go_wp2_with fail;go_roundw;case rel=>exact⟨k+1,h0,by simp,hB⟩
   case measure=>simp[intOf];omega
  ·obtain rfl:k=n:=by omega
   have d1:decide ((k:Int)<(k:Int))=false:=decide_eq_false (by omega);have d2:decide (k<k)=false:=decide_eq_false (by omega);have HR1:=hid (HR.out wr hB);have HA1:=hid (HAl.out wr hB);go_wp2_with fail;refine(HR1.out).mono ?_;rintro e V2 ⟨rfl,rfl⟩;(try dsimp only);go_wp2_with fail;refine(HA1.out).mono ?_;rintro e V3 ⟨rfl,F1,hS⟩;(try dsimp only);have HS:=hid hS;clear hS HR1 HA1 hB HR HAl HKd HIs;go_wp2_with fail;go_loopw[47] (fun i wr=> ∃(j:Nat) (F':Foot) (hj:Hp),j≤k∧i= .int .i64 j∧Hid (Step w F wr F' hj)∧Hid (Limb.Grow h1 hj)∧Hid (putAll o j (l.drop j) hj=hE)) (fun i _=>k-(intOf i).toNat);case atStart=>exact⟨0,F1,h1,Nat.zero_le _,rfl,HS,hid (Limb.Grow.refl hG1),hid HE.out.symm⟩
   case round=>
    clear HS HE;obtain⟨j,F',hj,hjn,rfl,HS,HG,HE⟩:=hrel;by_cases h0:j<k
    ·have d3:decide ((j:Int)<(k:Int))=true:=decide_eq_true (by omega);have d4:decide (j<k)=true:=decide_eq_true h0;have ix:=fun W=>HIx.out W j h0
     have cx:=HCx.out wr HS.out.2.2 j h0;have HP1:=hid (HPut.out wr F' hj HS.out.1 HS.out.2.1.p HG.out j h0);have he:=HE.out;rw[HDr.out j h0]at he;have HE2:=hid (show putAll o (j+1) (l.drop (j+1)) (Limb.putF hj o j (wd l j))=hE from he);clear he HE;generalize wd l j=v at*
     go_wp2_with fail;refine(HP1.out).mono ?_;rintro e V4 ⟨rfl,hS2,hG2⟩;(try dsimp only);have HS2:=hid (HS.out.trans hS2);have HG2:=hid hG2;clear hS2 hG2;go_wp2_with fail;go_roundw;case rel=>exact⟨j+1,F',_,h0,by simp,HS2,HG2,HE2⟩
     case measure=>simp[intOf];omega
    ·obtain rfl:j=k:=by omega
     have he:=HE.out;rw[HDn.out]at he;obtain rfl:hj=hE:=he;have HM:=hid (show Moved w F wr hj from⟨F',HS.out⟩);clear HE;go_wp2_with fail;go_ret2;exact⟨rfl,HM.out⟩
end
end Go.Proofs.YtbffpkmfhkphdaaGreatDoor
namespace Go.Proofs.YtbffpkmfhkphdaaGreatDoor
open Go Lib Go.RowKit Limb
def Syms(w:World)(v:Value)(xs:List Nat)(B:Nat)(F:Foot):Prop:=
 (v= .slice none 0 0∧xs=[])∨∃g c,v= .slice (some ⟨g,0,none⟩) xs.length c∧Sl w g 61 xs.length c (nums .u32 xs)∧B≤g∧g∉F.l∧0<xs.length
section
variable {w:World} {F:Foot} {h:Hp}
theorem Syms.step{v:Value}{xs:List Nat}{B:Nat}(hs:Syms w v xs B F){w':World}{F':Foot}{h':Hp}(st:Step w F w' F' h'):Syms w' v xs B F':=by
 rcases hs with hs|⟨g,c,h1,h2,h3,h4,h5⟩
 ·exact .inl hs
 ·exact .inr ⟨g,c,h1,h2.only st.2.2 h4,h3,aside_next st.2.1 h2.lt h4,h5⟩
theorem Syms.owns{v:Value}{xs:List Nat}{B:Nat}(hs:Syms w v xs B F):w.ownsRow 0 61 1 v xs.length (nums .u32 xs):=by
 rcases hs with⟨rfl,rfl⟩|⟨g,c,rfl,h2,h3,h4,h5⟩
 ·exact⟨rfl,.inl ⟨rfl,rfl⟩⟩
 ·exact h2.owns
theorem Syms.ownBlock{v:Value}{xs:List Nat}{B:Nat}(hs:Syms w v xs B F):v.ownBlock=none∨∃g,v.ownBlock=some g∧B≤g∧g∉F.l:=by
 rcases hs with⟨rfl,rfl⟩|⟨g,c,rfl,h2,h3,h4,h5⟩
 ·exact .inl rfl
 ·exact .inr ⟨g,rfl,h3,h4⟩
theorem syms_append{v:Value}{xs:List Nat}{X:World}{F1:Foot}{h1:Hp}(st:Step w F X F1 h1)(hs:Syms X v xs w.heap.size F1)(h5w:5≤w.heap.size)(o:Nat)(hl:xs.length≤100000): ∃v' X',(Builtin.append_ #[71,71] 71 #[v,.slice (some ⟨X.heap.size,0,none⟩) 1 1]).run Tryz.prog (X.alloc (.cells #[.int .u32 o] 61))= .ok v' X'∧Step w F X' F1 h1∧Syms X' v' (xs++[o]) w.heap.size F1:=by
 obtain⟨i0,hi,hz0,hz1,hz2⟩:=info_parts info_oop;have hb:Below X.heap.size X (X.alloc (.cells #[.int .u32 o] 61)):=(Below.refl _ _).alloc (Nat.le_refl _) _;have hown:=hs.owns;have hown2:(X.alloc (.cells #[.int .u32 o] 61)).ownsRow 0 61 1 v xs.length (nums .u32 xs):=hown.alloc _;obtain⟨v',X',hr,h2,h3,h4,h5⟩:=run_append_own_at (P:=Tryz.prog) (w:=X.alloc (.cells #[.int .u32 o] 61)) 0 71 71 61 i0 (.int .u32 0) 1 4 Tryz.underlying71 hi hz0 hz1 hz2 rfl (by decide) v xs.length _ hown2 ⟨X.heap.size,0,none⟩ 1 1 (nums .u32 [o]) rfl (cell_one_new _ _ _) (by simp[nums,Value.oneCell']) (Nat.le_trans (show xs.length+1≤100001 by omega) (by decide)) (by omega) (Nat.zero_le _);have stX:=st.below hb;have hXs:X.heap.size<(X.alloc (.cells #[.int .u32 o] 61)).heap.size:=by rw[World.size_alloc];omega
 have hlt:=st.1.lt;have hob:=hs.ownBlock;have ho:Only v.ownBlock.toList (X.alloc (.cells #[.int .u32 o] 61)) X':=⟨h3.os,h3.tape,h3.output,h3.size,fun k hk hn=>h3.block k hk (fun e=>by rw[←e]at hn;exact hn (List.mem_singleton.2 rfl))⟩
 have hot: ∀q∈v.ownBlock.toList,w.heap.size≤q∧q∉F1.l∧5≤q:=by
  intro q hq;rcases hob with e|⟨g,e,e1,e2⟩
  ·rw[e]at hq;cases hq
  ·rw[e]at hq;have hq:q=g:=List.mem_singleton.1 hq;subst hq;exact⟨e1,e2,by omega⟩
 have st2:Step w F X' F1 h1:=⟨stX.1.only ho (fun g hg e=>(hot g e).2.1 hg) (fun e=>absurd (hot 2 e).2.2 (by decide)),stX.2.1,stX.2.2.trans ho (fun q hq=> .inr (hot q hq).1)⟩;obtain⟨g',c',rfl,hgb,hs'⟩:=Sl.of_owns h2 (by omega);rw[←nums_append]at hs';refine⟨_,X',hr,st2,.inr ⟨g',c',by rw[List.length_append];rfl,by rw[List.length_append];exact hs',?_,?_,by rw[List.length_append];exact Nat.succ_pos _⟩⟩
 ·rw[hgb]at h5;rcases h5 with h5|h5
  ·rcases hob with e|⟨g,e,e1,e2⟩
   ·rw[e]at h5;cases h5
   ·rw[e]at h5;rw[Option.some.inj h5];exact e1
  ·have:=st.2.2.size;rw[Option.some.inj h5];omega
 ·rw[hgb]at h5;rcases h5 with h5|h5
  ·rcases hob with e|⟨g,e,e1,e2⟩
   ·rw[e]at h5;cases h5
   ·rw[e]at h5;rw[Option.some.inj h5];exact e2
  ·intro e;have:=hlt _ e;rw[Option.some.inj h5]at this;omega
theorem nameAt{fs:List (List Nat)}{k:Nat}(hk:k<fs.length):(fs.map sv)[k]? =some (sv (fs.getD k [])):=by
 rw[List.getElem?_map,List.getElem?_eq_getElem hk,List.getD_eq_getElem?_getD,List.getElem?_eq_getElem hk];rfl
theorem drop_names{fs:List (List Nat)}{k:Nat}(hk:k<fs.length):fs.drop k=fs.getD k [] :: fs.drop (k+1):=by
 rw[List.getD_eq_getElem?_getD,List.getElem?_eq_getElem hk];exact List.drop_eq_getElem_cons hk
theorem kernel_ownFields(H:HeapAt w F h)(K:Limb.Ker h)(cls:Nat)(hc:isF h cls 1 6=true)(fs:List (List Nat))(n gf:Nat)(hn:n=fs.length)(hn0:0<n)(hn1:n≤100)(rf:Row w gf 9 (fs.map sv))(hgf:gf∉F.l)(hfs:fs.all (fun t=>okT t&&decide (0<t.length))=true)(h':Hp)(hp:ownF h cls fs=some h'):Calls Tryz.prog 194 #[.pointer (some ⟨F.p,0,none⟩),.int .u32 cls,.slice (some ⟨gf,0,none⟩) n n] w fun e w'=>e= .returned (.int .i64 0)∧Moved w F w' h':=by
 unfold ownF at hp;obtain⟨⟨all,hI⟩,e1,e2⟩:=Option.bind_eq_some_iff.1 hp;obtain⟨⟨a,hA⟩,e3,e4⟩:=Option.map_eq_some_iff.1 e2;simp only at e3 e4
 have hok: ∀k,k<n→okT (fs.getD k [])=true∧0<(fs.getD k []).length:=fun k hk=>by
  rw[List.all_eq_true]at hfs;have hk':k<fs.length:=by omega
  have:=hfs (fs.getD k []) (by rw[List.getD_eq_getElem?_getD,List.getElem?_eq_getElem hk'];exact List.getElem_mem hk');simpa using this
 have sl:=rf.sl (n:=n) (by rw[List.length_map];exact hn) (Nat.le_trans hn1 (by decide));have HIx:=hid (fun W k (hk:k<n)=>sl.index 150 Tryz.underlying150 size_str W .i64 k hk)
 have HCx:=hid (fun X (ho:Only F.l w X) k (hk:k<n)=>show X.cell? ⟨gf,k,none⟩=some (.string (strOf (fs.getD k [])))from by
  rw[(rf.only ho hgf).cell_at];exact nameAt (by omega))
 have HIn:=hid (fun X F1 h1 (HX:HeapAt X F1 h1) (hF:F1.p=F.p) (gr:Limb.Grow h h1) k (hk:k<n) o h2 (hp:internP h1 (fs.getD k [])=some (o,h2))=>show Calls Tryz.prog 259 #[.pointer (some ⟨F.p,0,none⟩),.string (strOf (fs.getD k []))] X fun e w'=>e= .returned (.tuple #[.int .u32 o,.int .i64 0])∧Moved X F1 w' h2 from by
  obtain⟨q1,q2⟩:=hok k hk;obtain⟨q3,q4⟩:=okT_iff q1;rw[←hF];exact kernel_intern HX (K.grow gr) (strOf (fs.getD k [])) (by rw[strOf_size];exact q4) (by rw[strOf_size];exact q2) o h2 (by rw[tx_strOf q3];exact hp))
 have HGr:=hid (fun h1 (gr:Limb.Grow h h1) k (hk:k<n) o h2 (hp:internP h1 (fs.getD k [])=some (o,h2))=>show Limb.Grow h h2∧isO h2 o=true∧Limb.Grow h1 h2 from by
  obtain⟨q1,q2⟩:=hok k hk;obtain⟨q3,q4⟩:=okT_iff q1;obtain⟨x,y⟩:=grow_intern gr.good q3 q4 hp;exact⟨gr.trans x,isF_isO y,x⟩)
 have HNext:=hid (fun h1 k (hk:k<n) rest (hr:internAll (fs.drop k) h1=some (rest,hI))=>show∃o h2 rest',internP h1 (fs.getD k [])=some (o,h2)∧rest=o :: rest'∧internAll (fs.drop (k+1)) h2=some (rest',hI)from by
  rw[drop_names (by omega)]at hr;obtain⟨⟨o,h2⟩,x1,x2⟩:=Option.bind_eq_some_iff.1 hr;obtain⟨⟨r',h3⟩,x3,x4⟩:=Option.map_eq_some_iff.1 x2;rw[Prod.mk.injEq]at x4;obtain⟨rfl,rfl⟩:=x4;exact⟨o,h2,r',x1,rfl,x3⟩)
 have HEnd:=hid (fun h1 rest (hr:internAll (fs.drop n) h1=some (rest,hI))=>show rest=[]∧h1=hI from by
  rw[hn,List.drop_length]at hr;have:=Option.some.inj hr;rw[Prod.mk.injEq]at this;exact⟨this.1.symm,this.2⟩)
 have HAr:=hid (fun X F1 (HX:HeapAt X F1 hI) (hF:F1.p=F.p) (gr:Limb.Grow h hI) (ge c:Nat) (sl:Sl X ge 61 n c (nums .u32 all)) (hge:ge∉F1.l) (hall: ∀x∈all,isO hI x=true) (hl:n=all.length)=>show Calls Tryz.prog 266 #[.pointer (some ⟨F.p,0,none⟩),.slice (some ⟨ge,0,none⟩) n c] X fun e w'=>e= .returned (.tuple #[.int .u32 a,.int .i64 0])∧Moved X F1 w' (putAll a 0 all hA)from by
  rw[←hF];exact kernel_array HX (K.grow gr) all n c ge hl (by omega) sl hge hall a hA (by rw[hn];exact e3))
 have HGA:=hid (fun(gr:Limb.Grow h hI) (hall: ∀x∈all,isO hI x=true) (hl:n=all.length)=>show Limb.Grow h (putAll a 0 all hA)∧isO (putAll a 0 all hA) a=true from by
  obtain⟨g1,i1⟩:=grow_alloc gr.good (by decide) (by decide) (show fs.length≤65535 by omega) e3
  have key: ∀(l:List Nat) (k:Nat) (hk:Hp),Limb.Grow hA hk→(∀x∈l,isO hI x=true)→k+l.length≤fs.length→Limb.Grow hA (putAll a k l hk):=by
   intro l
   induction l with
   |nil=>intro k hk g _ _;exact g
   |cons v t ih=>
    intro k hk g hx hlen;have hlen:k+(t.length+1)≤fs.length:=hlen;exact ih (k+1) _ (g.trans (grow_put g.good (isF_le (g.isF _ _ _ i1) (by omega)) (isO_lt g.good (g.isO (g1.isO (hx v (by simp))))))) (fun x hm=>hx x (List.mem_cons_of_mem _ hm)) (by omega)
  have k2:=key all 0 hA (Limb.Grow.refl g1.good) hall (by omega);exact⟨(gr.trans g1).trans k2,k2.isO (isF_isO i1)⟩)
 have HPut:=hid (fun X F1 (HX:HeapAt X F1 (putAll a 0 all hA)) (hF:F1.p=F.p) (gr:Limb.Grow h (putAll a 0 all hA)) (ha:isO (putAll a 0 all hA) a=true)=>show Calls Tryz.prog 188 #[.pointer (some ⟨F.p,0,none⟩),.int .u32 cls,.int .i64 3,.int .u32 a] X fun e w'=>e= .returned (.int .i64 0)∧Moved X F1 w' h' from by
  rw[←hF,←e4];exact(heap_putF HX (i:=3) (isF_le (gr.isF _ _ _ hc) (by decide)) (by decide) (isO_val ha) (isO_lt HX.good ha)).mono fun e w' ⟨x,y⟩=>⟨x,_,y⟩)
 have e10:internAll (fs.drop 0) h=some (all,hI):=e1;have HS0:=hid (Step.refl H);have HG0:=hid (Limb.Grow.refl H.good);have h5w:5≤w.heap.size:=by have:=H.lt F.p (mem_p F);have:=H.low;omega
 clear hp e1 e2 e3 e4 hok sl rf hgf hfs H K hc hn;go_enter Tryz.func194,Tryz.ntmps194;go_wp2_with fail;go_loopw[16,7] (fun i s wr=> ∃(k:Nat) (F':Foot) (hk:Hp) (done rest:List Nat),k≤n∧i= .int .i64 k∧Hid (k=done.length)∧Hid (Step w F wr F' hk)∧Hid (Limb.Grow h hk)∧Hid (internAll (fs.drop k) hk=some (rest,hI))∧Hid (done++rest=all)∧Hid (∀x∈done,isO hk x=true)∧Hid (Syms wr s done w.heap.size F')) (fun i _ _=>n-(intOf i).toNat);case atStart=>exact⟨0,F,h,[],all,Nat.zero_le _,rfl,hid rfl,HS0,HG0,hid e10,hid rfl,hid (by simp),hid (.inl ⟨rfl,rfl⟩)⟩
 case round=>
  clear HS0 HG0 e10;obtain⟨k,F',hk,done,rest,hkn,rfl,HLd,HS,HG,HIa,HAll,HDn,HSy⟩:=hrel;by_cases h0:k<n
  ·have d1:decide ((k:Int)<(n:Int))=true:=decide_eq_true (by omega);have d2:decide (k<n)=true:=decide_eq_true h0;obtain⟨o,h2,rest',x1,x2,x3⟩:=HNext.out hk k h0 rest HIa.out;obtain⟨y1,y2,y3⟩:=HGr.out hk HG.out k h0 o h2 x1;have ix:=fun W=>HIx.out W k h0
   have cx:=HCx.out wr HS.out.2.2 k h0;have HI1:=hid (HIn.out wr F' hk HS.out.1 HS.out.2.1.p HG.out k h0 o h2 x1);have HX3:=hid x3;have HAll2:=hid (show(done++[o])++rest'=all by rw[←HAll.out,x2,List.append_assoc];rfl)
   have HDn2:=hid (show∀x∈done++[o],isO h2 x=true from fun x hx=>by
    rcases List.mem_append.1 hx with e|e
    ·exact y3.isO (HDn.out x e)
    ·rw[List.mem_singleton.1 e];exact y2)
   have HG2:=hid y1;have HLd2:=hid (show k+1=(done++[o]).length by rw[List.length_append,←HLd.out];rfl);generalize strOf (fs.getD k [])=S at*
   clear x1 x2 x3 y1 y2 y3 HIa HAll HDn HG;go_wp2_with fail;refine(HI1.out).mono ?_;rintro e X1 ⟨rfl,F1,hS1⟩;(try dsimp only);have hsy:=HSy.out.step hS1;obtain⟨s',X2,hr,hS2,hsy2⟩:=syms_append (HS.out.trans hS1) hsy h5w o (by have:=HLd.out;omega);have HR2:=hid hr;have HS2:=hid hS2;have HSy2:=hid hsy2;clear hS1 hsy hr hS2 hsy2 HSy HS cx ix;go_wp2_with(at_builtin;refine Lib.wpList_append_run _ rfl _ _ _ _ rfl _ _ rfl rfl _ _ HR2.out ?_);go_roundw;case rel=>exact⟨k+1,F1,h2,done++[o],rest',h0,by simp,HLd2,HS2,HG2,HX3,HAll2,HDn2,HSy2⟩
   case measure=>simp[intOf];omega
  ·obtain rfl:k=n:=by omega
   obtain⟨x1,x2⟩:=HEnd.out hk rest HIa.out;subst x1 x2;have hal:=HAll.out;rw[List.append_nil]at hal;subst hal;have hl:=HLd.out;rcases HSy.out with⟨_,e⟩|⟨ge,c,rfl,sl,q3,q4,q5⟩
   ·rw[e]at hl;simp at hl;omega
   ·rw[←hl]at sl ⊢;have HA1:=hid (HAr.out wr F' HS.out.1 HS.out.2.1.p HG.out ge c sl q4 HDn.out hl);obtain⟨z1,z2⟩:=HGA.out HG.out HDn.out hl;have HP1:=hid (fun X F1 hX hF=>HPut.out X F1 hX hF z1 z2);have d1:decide ((k:Int)<(k:Int))=false:=decide_eq_false (by omega);have d2:decide (k<k)=false:=decide_eq_false (by omega);clear hl sl q3 q4 q5 z1 z2 HLd HAll HDn HSy HIa HEnd HNext HGr HIn HAr HGA HPut;go_wp2_with fail;refine(HA1.out).mono ?_;rintro e X1 ⟨rfl,F1,hS1⟩;(try dsimp only);have hS2:=HS.out.trans hS1;have HP2:=hid (HP1.out X1 F1 hS2.1 hS2.2.1.p);have HS2:=hid hS2;clear hS1 hS2 HA1 HS HP1;go_wp2_with fail;refine(HP2.out).mono ?_;rintro e X2 ⟨rfl,F2,hS3⟩;(try dsimp only);have HM:=hid (show Moved w F X2 h' from⟨F2,HS2.out.trans hS3⟩);clear hS3 HS2;go_wp2_with fail;go_ret;exact⟨rfl,HM.out⟩
end
end Go.Proofs.YtbffpkmfhkphdaaGreatDoor
namespace Go.Proofs.YtbffpkmfhkphdaaGreatDoor
open Go Lib Go.RowKit Limb
def Limb.wireH(h:Hp)(c m n s t fm:Nat):Hp:=
 putF (putF (putF (putF (putF (putF (setC (setC h c m) m (wd h.rt 12)) c 0 n) c 1 s) c 4 (2*fm+1)) m 1 t) m 4 99) m 5 c
theorem wireR_eq(h:Hp)(ms:List Nat)(i:Nat)(p:Plan):wireR h ms i p=Limb.wireH h (wd h.rt (10+i)) (wd ms i) (wd h.rt 0) (if p.sup=0 then wd h.rt 0 else wd h.rt p.sup) (if p.sup=0 then wd h.rt 11 else wd ms (p.sup-10)) (writtenN p.fmt (fixedN 6 (10+i)) p.idx):=rfl
theorem odd_val(h:Hp)(n:Nat):valO h (2*n+1)=true:=by
 unfold valO;rw[decide_eq_true (show(2*n+1)%2=1 by omega)];simp
theorem grow_wire{h:Hp}{c m n s t fm:Nat}(k:Limb.Good h)(hC:isF h c 1 6=true)(hM:isF h m 1 6=true)(h12:isO h (wd h.rt 12)=true)(hN:isO h n=true)(hS:isO h s=true)(hT:isO h t=true)(hfm:fm<100000):Limb.Grow h (Limb.wireH h c m n s t fm):=by
 have g1:=grow_setC k (isF_isO hC) (isO_cls (isF_isO hM));have g2:=g1.trans (grow_setC g1.good (g1.isO (isF_isO hM)) (isO_cls (g1.isO h12)));have g3:=g2.trans (grow_put g2.good (i:=0) (isF_le (g2.isF _ _ _ hC) (by decide)) (isO_lt k hN));have g4:=g3.trans (grow_put g3.good (i:=1) (isF_le (g3.isF _ _ _ hC) (by decide)) (isO_lt k hS));have g5:=g4.trans (grow_put g4.good (i:=4) (v:=2*fm+1) (isF_le (g4.isF _ _ _ hC) (by decide)) (by omega));have g6:=g5.trans (grow_put g5.good (i:=1) (isF_le (g5.isF _ _ _ hM) (by decide)) (isO_lt k hT));have g7:=g6.trans (grow_put g6.good (i:=4) (v:=99) (isF_le (g6.isF _ _ _ hM) (by decide)) (by decide));exact g7.trans (grow_put g7.good (i:=5) (isF_le (g7.isF _ _ _ hM) (by decide)) (isO_lt k (isF_isO hC)))
section
variable {w X:World} {G F:RFoot} {R:World→Prop} {hk:Hp}
theorem rc_pair(c:RC w G R X F hk)(o m:Nat)(h1 h2:Hp)(e1:allocP hk 0 1 6=some (o,h1))(e2:allocP h1 0 1 6=some (m,h2)):Calls Tryz.prog 195 #[.pointer (some ⟨G.p,0,none⟩)] X fun e X'=>e= .returned (.tuple #[.int .u32 o,.int .u32 m,.int .i64 0])∧∃F',RC w G R X' F' h2:=by
 have HA1:=hid (fun Y F1 (c:RC w G R Y F1 hk)=>show Calls Tryz.prog 46 #[.pointer (some ⟨G.p,0,none⟩),.int .u32 0,.int .i64 1,.int .i64 6] Y fun e X'=>e= .returned (.tuple #[.int .u32 o,.int .i64 0])∧∃F',RC w G R X' F' h1 from rc_alloc c 0 6 o h1 (by decide) e1);have HA2:=hid (fun Y F1 (c:RC w G R Y F1 h1)=>show Calls Tryz.prog 46 #[.pointer (some ⟨G.p,0,none⟩),.int .u32 0,.int .i64 1,.int .i64 6] Y fun e X'=>e= .returned (.tuple #[.int .u32 m,.int .i64 0])∧∃F',RC w G R X' F' h2 from rc_alloc c 0 6 m h2 (by decide) e2);have HC:=hid c;clear e1 e2 c;go_enter Tryz.func195,Tryz.ntmps195;go_wp2_with fail;refine(HA1.out _ _ HC.out).mono ?_;rintro e Y1 ⟨rfl,F1,hC⟩;(try dsimp only);have HC1:=hid hC;clear hC HC HA1;go_wp2_with fail;refine(HA2.out _ _ HC1.out).mono ?_;rintro e Y2 ⟨rfl,F2,hC⟩;(try dsimp only);have HC2:=hid hC;clear hC HC1 HA2;go_wp2_with fail;go_ret3;exact⟨rfl,F2,HC2.out⟩
theorem rc_wire(c:RC w G R X F hk)(cc m n s t fm:Nat)(hC:isF hk cc 1 6=true)(hM:isF hk m 1 6=true)(h12:isO hk (wd hk.rt 12)=true)(hN:isO hk n=true)(hS:isO hk s=true)(hT:isO hk t=true)(hfm:fm<100000):Calls Tryz.prog 196 #[.pointer (some ⟨G.p,0,none⟩),.int .u32 cc,.int .u32 m,.int .u32 n,.int .u32 s,.int .u32 t,.int .i64 fm] X fun e X'=>e= .returned (.tuple #[])∧∃F',RC w G R X' F' (Limb.wireH hk cc m n s t fm):=by
 have k0:=c.hp.good;unfold Limb.wireH;obtain⟨q1,hq1⟩: ∃q,q=Limb.setC hk cc m:=⟨_,rfl⟩;have g1:Limb.Grow hk q1:=by rw[hq1];exact grow_setC k0 (isF_isO hC) (isO_cls (isF_isO hM))
 have HS1:=hid (fun Y F1 (c:RC w G R Y F1 hk)=>show Calls Tryz.prog 199 #[.pointer (some ⟨G.p,0,none⟩),.int .u32 cc,.int .u32 m] Y fun e X'=>e= .returned (.int .i64 0)∧∃F',RC w G R X' F' q1 from by rw[hq1];exact rc_setclass c (isF_isO hC) (isO_cls (isF_isO hM)));rw[←hq1];obtain⟨q2,hq2⟩: ∃q,q=Limb.setC q1 m (wd hk.rt 12):=⟨_,rfl⟩;have g2:Limb.Grow hk q2:=by rw[hq2];exact g1.trans (grow_setC g1.good (g1.isO (isF_isO hM)) (isO_cls (g1.isO h12)))
 have HS2:=hid (fun Y F1 (c:RC w G R Y F1 q1)=>show Calls Tryz.prog 199 #[.pointer (some ⟨G.p,0,none⟩),.int .u32 m,.int .u32 (wd hk.rt 12:Nat)] Y fun e X'=>e= .returned (.int .i64 0)∧∃F',RC w G R X' F' q2 from by rw[hq2];exact rc_setclass c (g1.isO (isF_isO hM)) (isO_cls (g1.isO h12)))
 have HRt:=hid (fun Y F1 (c:RC w G R Y F1 q1)=>show Y.cell? ⟨G.p,2,none⟩=some (.slice (some ⟨G.gr,0,none⟩) 64 64)∧Y.cell? ⟨G.gr,12,none⟩=some (.int .u32 (wd hk.rt 12:Nat))∧∀W,(Instr.indexAt 71 (.slice (some ⟨G.gr,0,none⟩) 64 64) (.int .i64 12)).run Tryz.prog W= .ok (.pointer (some ⟨G.gr,12,none⟩)) W from by
  have:=c.root (i:=12) (by decide)
  rwa [g1.rt]at this)
 rw[←hq2];clear hq1 hq2;have vN:=isO_val (g2.isO hN);have lN:=isO_lt k0 hN;have fC:=g2.isF _ _ _ hC;obtain⟨q3,hq3⟩: ∃q,q=Limb.putF q2 cc 0 n:=⟨_,rfl⟩;have g3:Limb.Grow hk q3:=by rw[hq3];exact g2.trans (grow_put g2.good (isF_le fC (by decide)) lN)
 have HP3:=hid (fun Y F1 (c:RC w G R Y F1 q2)=>show Calls Tryz.prog 117 #[.pointer (some ⟨G.p,0,none⟩),.int .u32 cc,.int .i64 0,.int .u32 n] Y fun e X'=>e= .returned (.int .i64 0)∧∃F',RC w G R X' F' q3 from by rw[hq3];exact rc_put c (i:=0) (isF_le fC (by decide)) vN lN);rw[←hq3];clear hq3 fC;have vS:=isO_val (g3.isO hS);have lS:=isO_lt k0 hS;have fC:=g3.isF _ _ _ hC;obtain⟨q4,hq4⟩: ∃q,q=Limb.putF q3 cc 1 s:=⟨_,rfl⟩;have g4:Limb.Grow hk q4:=by rw[hq4];exact g3.trans (grow_put g3.good (isF_le fC (by decide)) lS)
 have HP4:=hid (fun Y F1 (c:RC w G R Y F1 q3)=>show Calls Tryz.prog 117 #[.pointer (some ⟨G.p,0,none⟩),.int .u32 cc,.int .i64 1,.int .u32 s] Y fun e X'=>e= .returned (.int .i64 0)∧∃F',RC w G R X' F' q4 from by rw[hq4];exact rc_put c (i:=1) (isF_le fC (by decide)) vS lS);rw[←hq4];clear hq4 fC;have fC:=g4.isF _ _ _ hC;obtain⟨nm,hnm⟩: ∃x,x=2*fm+1:=⟨_,rfl⟩;have lF:nm<4294967296:=by omega
 have HSm:=hid (fun Y=>show Calls Tryz.prog 267 #[.int .i64 fm] Y fun e X'=>e= .returned (.int .u32 nm)∧Y=X' from by rw[hnm];exact r4_small Y fm (by omega));obtain⟨q5,hq5⟩: ∃q,q=Limb.putF q4 cc 4 (2*fm+1):=⟨_,rfl⟩;have g5:Limb.Grow hk q5:=by rw[hq5];exact g4.trans (grow_put g4.good (isF_le fC (by decide)) (by omega))
 have HP5:=hid (fun Y F1 (c:RC w G R Y F1 q4)=>show Calls Tryz.prog 117 #[.pointer (some ⟨G.p,0,none⟩),.int .u32 cc,.int .i64 4,.int .u32 nm] Y fun e X'=>e= .returned (.int .i64 0)∧∃F',RC w G R X' F' q5 from by rw[hq5,hnm];exact rc_put c (i:=4) (isF_le fC (by decide)) (odd_val _ _) (by omega));rw[←hq5];clear hq5 fC hnm lF;have vT:=isO_val (g5.isO hT);have lT:=isO_lt k0 hT;have fM:=g5.isF _ _ _ hM;obtain⟨q6,hq6⟩: ∃q,q=Limb.putF q5 m 1 t:=⟨_,rfl⟩;have g6:Limb.Grow hk q6:=by rw[hq6];exact g5.trans (grow_put g5.good (isF_le fM (by decide)) lT)
 have HP6:=hid (fun Y F1 (c:RC w G R Y F1 q5)=>show Calls Tryz.prog 117 #[.pointer (some ⟨G.p,0,none⟩),.int .u32 m,.int .i64 1,.int .u32 t] Y fun e X'=>e= .returned (.int .i64 0)∧∃F',RC w G R X' F' q6 from by rw[hq6];exact rc_put c (i:=1) (isF_le fM (by decide)) vT lT);rw[←hq6];clear hq6 fM;have fM:=g6.isF _ _ _ hM;have HSn:=hid (fun Y=>show Calls Tryz.prog 267 #[.int .i64 49] Y fun e X'=>e= .returned (.int .u32 99)∧Y=X' from r4_small Y 49 (by decide));obtain⟨q7,hq7⟩: ∃q,q=Limb.putF q6 m 4 99:=⟨_,rfl⟩;have g7:Limb.Grow hk q7:=by rw[hq7];exact g6.trans (grow_put g6.good (isF_le fM (by decide)) (by decide))
 have HP7:=hid (fun Y F1 (c:RC w G R Y F1 q6)=>show Calls Tryz.prog 117 #[.pointer (some ⟨G.p,0,none⟩),.int .u32 m,.int .i64 4,.int .u32 99] Y fun e X'=>e= .returned (.int .i64 0)∧∃F',RC w G R X' F' q7 from by rw[hq7];exact rc_put c (i:=4) (v:=99) (isF_le fM (by decide)) (odd_val _ 49) (by decide));rw[←hq7];clear hq7 fM;have fM:=g7.isF _ _ _ hM;obtain⟨q8,hq8⟩: ∃q,q=Limb.putF q7 m 5 cc:=⟨_,rfl⟩;have HP8:=hid (fun Y F1 (c:RC w G R Y F1 q7)=>show Calls Tryz.prog 117 #[.pointer (some ⟨G.p,0,none⟩),.int .u32 m,.int .i64 5,.int .u32 cc] Y fun e X'=>e= .returned (.int .i64 0)∧∃F',RC w G R X' F' q8 from by rw[hq8];exact rc_put c (i:=5) (isF_le fM (by decide)) (isO_val (g7.isO (isF_isO hC))) (isO_lt k0 (isF_isO hC)));rw[←hq8];clear hq8 fM;generalize wd hk.rt 12=r12 at*
 have HC:=hid c;clear g1 g2 g3 g4 g5 g6 g7 vN lN vS lS vT lT hC hM h12 hN hS hT k0 c;go_enter Tryz.func196,Tryz.ntmps196;go_wp2_with fail;refine(HS1.out _ _ HC.out).mono ?_;rintro e Y1 ⟨rfl,F1,hC⟩;(try dsimp only);have HC1:=hid hC;obtain⟨c2,cr,ix⟩:=HRt.out _ _ HC1.out;clear hC HC HS1;go_wp2_with fail;refine(HS2.out _ _ HC1.out).mono ?_;rintro e Y2 ⟨rfl,F2,hC⟩;(try dsimp only);have HC2:=hid hC;clear hC HC1 HS2 c2 cr ix HRt;go_wp2_with fail;refine(HP3.out _ _ HC2.out).mono ?_;rintro e Y3 ⟨rfl,F3,hC⟩;(try dsimp only);have HC3:=hid hC;clear hC HC2 HP3;go_wp2_with fail;refine(HP4.out _ _ HC3.out).mono ?_;rintro e Y4 ⟨rfl,F4,hC⟩;(try dsimp only);have HC4:=hid hC;clear hC HC3 HP4;go_wp2_with fail;refine(HSm.out _).mono ?_;rintro e Y4' ⟨rfl,rfl⟩;(try dsimp only);go_wp2_with fail;refine(HP5.out _ _ HC4.out).mono ?_;rintro e Y5 ⟨rfl,F5,hC⟩;(try dsimp only);have HC5:=hid hC;clear hC HC4 HP5 HSm;go_wp2_with fail;refine(HP6.out _ _ HC5.out).mono ?_;rintro e Y6 ⟨rfl,F6,hC⟩;(try dsimp only);have HC6:=hid hC;clear hC HC5 HP6;go_wp2_with fail;refine(HSn.out _).mono ?_;rintro e Y6' ⟨rfl,rfl⟩;(try dsimp only);go_wp2_with fail;refine(HP7.out _ _ HC6.out).mono ?_;rintro e Y7 ⟨rfl,F7,hC⟩;(try dsimp only);have HC7:=hid hC;clear hC HC6 HP7 HSn;go_wp2_with fail;refine(HP8.out _ _ HC7.out).mono ?_;rintro e Y8 ⟨rfl,F8,hC⟩;(try dsimp only);have HC8:=hid hC;clear hC HC7 HP8;go_wp2_with fail;go_returns;exact⟨rfl,F8,HC8.out⟩
end
end Go.Proofs.YtbffpkmfhkphdaaGreatDoor
namespace Go.Proofs.YtbffpkmfhkphdaaGreatDoor
open Go Lib Go.RowKit Limb
theorem kernel_selectors(w:World):Calls Tryz.prog 193 #[] w fun e w'=>(∃g,e= .returned (.slice (some ⟨g,0,none⟩) 11 11)∧Row w' g 9 (sels.map sv))∧Below w.heap.size w w':=by
 obtain⟨W,hW,r0,hB,hz⟩:=alloc_row w 9 [.string ⟨#[100,111,101,115,78,111,116,85,110,100,101,114,115,116,97,110,100,58]⟩,.string ⟨#[109,117,115,116,66,101,66,111,111,108,101,97,110]⟩,.string ⟨#[99,97,110,110,111,116,82,101,116,117,114,110,58]⟩,.string ⟨#[97,98,111,117,116,84,111,82,101,116,117,114,110,58,116,104,114,111,117,103,104,58]⟩,.string ⟨#[118,97,108,117,101]⟩,.string ⟨#[118,97,108,117,101,58]⟩,.string ⟨#[118,97,108,117,101,58,118,97,108,117,101,58]⟩,.string ⟨#[118,97,108,117,101,58,118,97,108,117,101,58,118,97,108,117,101,58]⟩,.string ⟨#[100,111,73,116]⟩,.string ⟨#[115,105,103,110,97,108]⟩,.string ⟨#[117,110,119,105,110,100]⟩];have HP:=hid (show Row W w.heap.size 9 (sels.map sv)from r0);have HB:=hid hB;clear r0 hB hz;subst hW;go_enter Tryz.func193,Tryz.ntmps193;go_wp2_with fail;go_ret;exact⟨⟨_,rfl,HP.out⟩,HB.out⟩
end Go.Proofs.YtbffpkmfhkphdaaGreatDoor

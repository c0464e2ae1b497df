/- The walks of the document's heap: Get, Word, Put, SetWord, SetClass. In the middle of the document's lay. The walks of slices.Clone at words and at oops, and of package heap's Words and Roots. The walks of package kernel: root, pointers, field, size. -/
import Derived.Test.YtbffpkmfhkphdaaGreatDoorGX28
set_option linter.unusedVariables false
set_option linter.unusedSimpArgs false
set_option maxRecDepth 1000000
set_option maxHeartbeats 6400000
namespace Go.Proofs.YtbffpkmfhkphdaaGreatDoor
open Go Lib Go.RowKit Limb
section
variable {w:World} {G:RFoot} {h:Hp}
theorem RefAt.putW(H:RefAt w G h){k v:Nat}(hk:k<h.ws.length)(hg:Limb.Good (Limb.putW h k v)):RefAt (w.setCell ⟨G.gw,k,none⟩ (.int .u32 (v:Nat))) G (Limb.putW h k v):=by
 obtain⟨cw,cs,r1,r2,r3⟩:=H.row;obtain⟨a1,a2,a3,a4,a5,a6⟩:=H.apart;have ho:Only [G.gw] w (w.setCell ⟨G.gw,k,none⟩ (.int .u32 (v:Nat))):=(Only.refl _ _).setCell (by simp) _;have hl:(Limb.putW h k v).ws.length=h.ws.length:=putW_len h k v;refine⟨hg,⟨cw,cs,?_,?_,?_⟩,H.roots.only ho (by simp;omega),H.low⟩
 ·rw[hl];exact r1.only ho (by simp;omega)
 ·rw[hl];have:=r2.store hk (.int .u32 (v:Nat))
  rwa [←nums_set]at this
 ·rw[hl];exact r3.only ho (by simp;omega)
theorem RefAt.setR(H:RefAt w G h){k v:Nat}(hg:Limb.Good (Limb.setR h k v)):RefAt (w.setCell ⟨G.gr,k,none⟩ (.int .u32 (v:Nat))) G (Limb.setR h k v):=by
 obtain⟨cw,cs,r1,r2,r3⟩:=H.row;obtain⟨a1,a2,a3,a4,a5,a6⟩:=H.apart;have ho:Only [G.gr] w (w.setCell ⟨G.gr,k,none⟩ (.int .u32 (v:Nat))):=(Only.refl _ _).setCell (by simp) _;exact⟨hg,⟨cw,cs,r1.only ho (by simp;omega),r2.only ho (by simp;omega),r3.only ho (by simp;omega)⟩,H.roots.store k v v rfl,H.low⟩
theorem rmem_gw(G:RFoot):G.gw∈G.l:=by unfold RFoot.l;simp
theorem rmem_gr(G:RFoot):G.gr∈G.l:=by unfold RFoot.l;simp
theorem rmem_p(G:RFoot):G.p∈G.l:=by unfold RFoot.l;simp
theorem rmem_gb(G:RFoot):G.gb∈G.l:=by unfold RFoot.l;simp
theorem RStep.putW(H:RefAt w G h){k v:Nat}(hk:k<h.ws.length)(hg:Limb.Good (Limb.putW h k v)):RStep w G (w.setCell ⟨G.gw,k,none⟩ (.int .u32 (v:Nat))) G (Limb.putW h k v):=
 ⟨H.putW hk hg,RFoot.Next.refl _ _,(Only.refl _ _).setCell (rmem_gw G) _⟩
theorem RStep.setR(H:RefAt w G h){k v:Nat}(hg:Limb.Good (Limb.setR h k v)):RStep w G (w.setCell ⟨G.gr,k,none⟩ (.int .u32 (v:Nat))) G (Limb.setR h k v):=
 ⟨H.setR hg,RFoot.Next.refl _ _,(Only.refl _ _).setCell (rmem_gr G) _⟩
theorem RStep.same(H:RefAt w G h){w':World}(hb:Below w.heap.size w w'):RStep w G w' G h:=(RStep.refl H).below hb
theorem RefAt.at(H:RefAt w G h){k:Nat}(hk:k<h.ws.length): ∃cw,w.cell? ⟨G.p,1,none⟩=some (.slice (some ⟨G.gw,0,none⟩) h.ws.length cw)∧w.cell? ⟨G.gw,k,none⟩=some (.int .u32 (wd h.ws k:Nat))∧w.frozen? ⟨G.gw,k,none⟩=false∧∀W,(Instr.indexAt 22 (.slice (some ⟨G.gw,0,none⟩) h.ws.length cw) (.int .i64 k)).run Tryz.prog W= .ok (.pointer (some ⟨G.gw,k,none⟩)) W:=by
 obtain⟨cw,cs,c0,c1,c2,c3,c4,hw,hs⟩:=H.cells;have cx:=hw.cell hk;rw[nums_get hk]at cx;exact⟨cw,c1,cx,hw.free k,fun W=>hw.index 22 Tryz.underlying22 size32 W .i64 k hk⟩
theorem isF_len{o f i:Nat}(hf:isF h o f (i+1)=true)(h2:f≠2):isO h o=true∧(hdO h o).fmt=f∧i<(hdO h o).len:=by
 obtain⟨a,b,c⟩:=isF_iff.1 hf;exact⟨a,b,by rw[len_size (by rw[b];exact h2)];omega⟩
theorem place_word(H:RefAt w G h){o f i:Nat}(hf:isF h o f (i+1)=true)(h2:f≠2):Calls Tryz.prog 127 #[.pointer (some ⟨G.p,0,none⟩),.int .u32 o,.int .i64 f,.int .i64 i] w fun e w'=>e= .returned (.tuple #[.int .i64 (o/2+3+i:Nat),.int .i64 0])∧Below w.heap.size w w':=by
 obtain⟨a,b,c⟩:=isF_len hf h2;have:=r_place H o f i a b c;rw[if_neg h2]at this;exact this
theorem r_get(H:RefAt w G h){o i:Nat}(hf:isF h o 1 (i+1)=true):Calls Tryz.prog 303 #[.pointer (some ⟨G.p,0,none⟩),.int .u32 o,.int .i64 i] w fun e w'=>e= .returned (.tuple #[.int .u32 (fld h o i:Nat),.int .i64 0])∧Below w.heap.size w w':=by
 have HP:=hid (place_word H hf (by decide));have hlt:=put_lt H.good hf;have HAt:=hid (fun X (hb:Below w.heap.size w X)=>(H.below hb).at hlt);have hfl:fld h o i=wd h.ws (o/2+3+i):=rfl;rw[hfl];generalize o/2+3+i=at0 at*
 clear hf hfl H;go_enter Tryz.func303,Tryz.ntmps303;go_wp2_with fail;refine(HP.out).mono ?_;rintro e V ⟨rfl,hB⟩;(try dsimp only);obtain⟨cw,c1,cx,zx,ix⟩:=HAt.out V hB;go_wp2_with fail;go_ret2;exact⟨rfl,hB⟩
theorem r_word(H:RefAt w G h){o i:Nat}(hf:isF h o 3 (i+1)=true):Calls Tryz.prog 137 #[.pointer (some ⟨G.p,0,none⟩),.int .u32 o,.int .i64 i] w fun e w'=>e= .returned (.tuple #[.int .u32 (fld h o i:Nat),.int .i64 0])∧Below w.heap.size w w':=by
 have HP:=hid (place_word H hf (by decide));have hlt:=put_lt H.good hf;have HAt:=hid (fun X (hb:Below w.heap.size w X)=>(H.below hb).at hlt);have hfl:fld h o i=wd h.ws (o/2+3+i):=rfl;rw[hfl];generalize o/2+3+i=at0 at*
 clear hf hfl H;go_enter Tryz.func137,Tryz.ntmps137;go_wp2_with fail;refine(HP.out).mono ?_;rintro e V ⟨rfl,hB⟩;(try dsimp only);obtain⟨cw,c1,cx,zx,ix⟩:=HAt.out V hB;go_wp2_with fail;go_ret2;exact⟨rfl,hB⟩
theorem r_put(H:RefAt w G h){o i v:Nat}(hf:isF h o 1 (i+1)=true)(hv:valO h v=true)(hv2:v<4294967296):Calls Tryz.prog 117 #[.pointer (some ⟨G.p,0,none⟩),.int .u32 o,.int .i64 i,.int .u32 v] w fun e w'=>e= .returned (.int .i64 0)∧RStep w G w' G (Limb.putF h o i v):=by
 have HP:=hid (place_word H hf (by decide));have hlt:=put_lt H.good hf;have hG:=good_put H.good hf (by decide) hv2;have hV:=fun X (hb:Below w.heap.size w X)=>r_val (H.below hb) v hv2
 rw[hv]at hV;have HV:=hid hV;have HAt:=hid (fun X (hb:Below w.heap.size w X)=>(H.below hb).at hlt);have HSt:=hid (fun X (hb:Below w.heap.size w X)=>show RStep w G (X.setCell ⟨G.gw,o/2+3+i,none⟩ (.int .u32 (v:Nat))) G (Limb.putF h o i v)from RStep.of_below hb (RStep.putW (H.below hb) hlt hG) H.lt);generalize Limb.putF h o i v=h' at*
 generalize o/2+3+i=at0 at*
 clear hf hG hV H hv;go_enter Tryz.func117,Tryz.ntmps117;go_wp2_with fail;refine(HP.out).mono ?_;rintro e V ⟨rfl,hB⟩;(try dsimp only);go_wp2_with fail;refine(HV.out _ hB).mono ?_;rintro e V' ⟨rfl,rfl⟩;(try dsimp only);obtain⟨cw,c1,cx,zx,ix⟩:=HAt.out V hB;have HS:=hid (HSt.out V hB);go_wp2_with fail;go_ret;exact⟨rfl,HS.out⟩
theorem r_setword(H:RefAt w G h){o i v:Nat}(hf:isF h o 3 (i+1)=true)(hv2:v<4294967296):Calls Tryz.prog 48 #[.pointer (some ⟨G.p,0,none⟩),.int .u32 o,.int .i64 i,.int .u32 v] w fun e w'=>e= .returned (.int .i64 0)∧RStep w G w' G (Limb.putF h o i v):=by
 have HP:=hid (place_word H hf (by decide));have hlt:=put_lt H.good hf;have hG:=good_put H.good hf (by decide) hv2;have HAt:=hid (fun X (hb:Below w.heap.size w X)=>(H.below hb).at hlt);have HSt:=hid (fun X (hb:Below w.heap.size w X)=>show RStep w G (X.setCell ⟨G.gw,o/2+3+i,none⟩ (.int .u32 (v:Nat))) G (Limb.putF h o i v)from RStep.of_below hb (RStep.putW (H.below hb) hlt hG) H.lt);generalize Limb.putF h o i v=h' at*
 generalize o/2+3+i=at0 at*
 clear hf hG H;go_enter Tryz.func48,Tryz.ntmps48;go_wp2_with fail;refine(HP.out).mono ?_;rintro e V ⟨rfl,hB⟩;(try dsimp only);obtain⟨cw,c1,cx,zx,ix⟩:=HAt.out V hB;have HS:=hid (HSt.out V hB);go_wp2_with fail;go_ret;exact⟨rfl,HS.out⟩
theorem r_setclass(H:RefAt w G h){o c:Nat}(ho:isO h o=true)(hc:clsO h c=true):Calls Tryz.prog 199 #[.pointer (some ⟨G.p,0,none⟩),.int .u32 o,.int .u32 c] w fun e w'=>e= .returned (.int .i64 0)∧RStep w G w' G (Limb.setC h o c):=by
 have olt:=isO_lt H.good ho;have clt:=clsO_lt H.good hc;have hI:=r_is H o olt;rw[ho]at hI;have hC:=r_isclass H c clt;rw[hc]at hC;have HI:=hid hI;have HC:=hid hC;have hb:=(isO_iff.1 ho).2.2;have hlt:o/2+1<h.ws.length:=by have:=H.good.inside _ hb;omega
 have hG:=H.good.setC hb clt;obtain⟨cw,c1,cx,zx,ix⟩:=H.at hlt;have HS:=hid (show RStep w G (w.setCell ⟨G.gw,o/2+1,none⟩ (.int .u32 (c:Nat))) G (Limb.setC h o c)from RStep.putW H hlt hG);have e2:(o:Int)/2=((o/2:Nat):Int):=by omega
 have o2:o/2≤2147483648:=by omega
 rw[Int.natCast_add,show((1:Nat):Int)=1 from rfl]at ix;generalize Limb.setC h o c=h' at*
 generalize o/2=at0 at*
 clear hI hC hb hG H ho hc;go_enter Tryz.func199,Tryz.ntmps199;go_wp2_with fail;refine(HI.out).mono ?_;rintro e V' ⟨rfl,rfl⟩;(try dsimp only);go_wp2_with fail;refine(HC.out).mono ?_;rintro e V' ⟨rfl,rfl⟩;(try dsimp only);go_wp2_with fail;go_ret;exact⟨rfl,HS.out⟩
theorem r_new(w:World)(n:Nat)(h1:64≤n)(h2:n≤1048576)(h5:5≤w.heap.size):Calls Tryz.prog 113 #[.int .i64 n] w fun e w'=> ∃G,e= .returned (.pointer (some ⟨G.p,0,none⟩))∧RefAt w' G (emptyH n)∧Below w.heap.size w w'∧∀g∈G.l,w.heap.size≤g:=by
 obtain⟨W,hW,r0,hb0,hz0⟩:=alloc_row w 60 [.int .u32 0];have HW:=hid hW;have d1:decide ((n:Int)<64)=false:=decide_eq_false (by omega);have d1':decide (n<64)=false:=decide_eq_false (by omega);have d2:decide ((1048576:Int)<(n:Int))=false:=decide_eq_false (by omega);have d2':decide (1048576<n)=false:=decide_eq_false (by omega);clear hW;go_enter Tryz.func113,Tryz.ntmps113;go_wp2_with(at_make;rw[←HW.out];refine wpList_make_row rfl _ _ _ rfl 61 (.int .u32 0) 4 Tryz.underlying71 info_oop rfl _ _ _ _ 64 64 rfl rfl rfl rfl (by decide) (by decide) (by decide) ?_;intro w1 g hg1 hg2 hrow hbel);obtain⟨V,hV,r1,hb1,hz1⟩:=alloc_row w1 5 [.int .u8 0];rw[hg2]at r1;obtain⟨U,hU,r2,hb2,hz2⟩:=alloc_row V 74 [.int .i64 n,.slice (some ⟨w.heap.size,0,none⟩) 1 1,.slice (some ⟨g,0,none⟩) 64 64,.int .u32 0,.slice (some ⟨g+1,0,none⟩) 1 1];rw[hz1,hg2]at r2;have hW1:=hbel;replace r0:=((r0.below hW1 r0.lt).below hb1 (r0.below hW1 r0.lt).lt);replace r0:=r0.below hb2 r0.lt;replace r1:=r1.below hb2 r1.lt;replace hrow:=hrow.below hb1 hrow.lt;replace hrow:=hrow.below hb2 hrow.lt;have hBU:Below w.heap.size w U:=((hb0.trans (hW1.mono (by omega))).trans (hb1.mono (by omega))).trans (hb2.mono (by omega));have HU:=hid (show U=(w1.alloc (.cells #[.int .u8 0] 5)).alloc (.cells #[.int .i64 n,.slice (some ⟨w.heap.size,0,none⟩) 1 1,.slice (some ⟨g,0,none⟩) 64 64,.int .u32 0,.slice (some ⟨g+1,0,none⟩) 1 1] 74) by rw[hU,hV])
 have HH:RefAt U ⟨g+1+1,w.heap.size,g+1,g⟩ (emptyH n):=by
  refine⟨good_empty h1 h2,⟨1,1,r2,⟨[.int .u32 0],r0,rfl,rfl,Nat.le_refl _,by decide,rfl⟩,⟨[.int .u8 0],r1,rfl,rfl,Nat.le_refl _,by decide,rfl⟩⟩,?_,?_⟩
  ·show Row U g _ (nums .u32 (List.replicate 64 0))
   rw[nums_replicate];exact hrow
  ·show 5≤g+1+1∧5≤w.heap.size∧5≤g+1∧5≤g
   omega
 refine bodyPost_ret (v:= .pointer (some ⟨g+1+1,0,none⟩)) (by simp[results,Tryz.results113,go_sem]) rfl ?_;rw[←HU.out];refine⟨⟨g+1+1,w.heap.size,g+1,g⟩,rfl,HH,hBU,fun x hx=>?_⟩;unfold RFoot.l at hx;simp only[List.mem_cons,List.not_mem_nil,or_false]at hx;rcases hx with rfl|rfl|rfl|rfl<;>omega
end
end Go.Proofs.YtbffpkmfhkphdaaGreatDoor
namespace Go.Proofs.YtbffpkmfhkphdaaGreatDoor
open Go Go.RowKit Limb
theorem info8b:(Tryz.prog.info? 5).map (fun i=>(i.zero,i.size,i.bytes))=some (some (.int .u8 0),1,1):=by kernel_rfl
structure RMid (w:World) (G:RFoot) (h:Hp) (la:Nat) (ws:List Nat) (gw cw:Nat) (bk:List Nat) (gb cb:Nat) (X:World):Prop where
 p:Row X G.p 74 [.int .i64 h.size,.slice (some ⟨gw,0,none⟩) ws.length cw,.slice (some ⟨G.gr,0,none⟩) 64 64,.int .u32 la,.slice (some ⟨gb,0,none⟩) bk.length cb]
 ws:Sl X gw 60 ws.length cw (nums .u32 ws)
 bk:Sl X gb 5 bk.length cb (nums .u8 bk)
 rt:Row X G.gr 61 (nums .u32 h.rt)
 w1:gw=G.gw∨w.heap.size≤gw
 b1:gb=G.gb∨w.heap.size≤gb
 only:Only G.l w X
section
variable {w X Y:World} {G:RFoot} {h:Hp} {la gw cw gb cb:Nat} {ws bk:List Nat}
theorem RMid.below(m:RMid w G h la ws gw cw bk gb cb X)(hb:Below X.heap.size X Y):RMid w G h la ws gw cw bk gb cb Y:=
 ⟨m.p.below hb m.p.lt,m.ws.below hb,m.bk.below hb,m.rt.below hb m.rt.lt,m.w1,m.b1,m.only.trans (qs:=[]) (Only.of_below hb) (fun q hq=>by cases hq)⟩
theorem RMid.start(H:RefAt w G h): ∃cw cb,RMid w G h h.last h.ws G.gw cw (book h.st) G.gb cb w:=by
 obtain⟨cw,cb,r1,r2,r3⟩:=H.row;have e:(book h.st).length=h.ws.length:=by rw[book_length];exact H.good.len
 rw[←e]at r3;have r1':=r1;rw[show Value.slice (some ⟨G.gb,0,none⟩) h.ws.length cb= .slice (some ⟨G.gb,0,none⟩) (book h.st).length cb by rw[e]]at r1';exact⟨cw,cb,r1',r2,r3,H.roots,.inl rfl,.inl rfl,Only.refl _ _⟩
theorem RMid.apart(m:RMid w G h la ws gw cw bk gb cb X):G.p≠gw∧G.p≠gb∧G.p≠G.gr∧gw≠gb∧gw≠G.gr∧gb≠G.gr:=by
 obtain⟨_,r2⟩:=m.ws.row;obtain⟨_,r3⟩:=m.bk.row;exact⟨m.p.ne r2 (by decide),m.p.ne r3 (by decide),m.p.ne m.rt (by decide),r2.ne r3 (by decide),r2.ne m.rt (by decide),r3.ne m.rt (by decide)⟩
theorem RMid.serial(m:RMid w G h la ws gw cw bk gb cb X)(l2:Nat):RMid w G h l2 ws gw cw bk gb cb (X.setCell ⟨G.p,3,none⟩ (.int .u32 l2)):=by
 obtain⟨a1,a2,a3,a4,a5,a6⟩:=m.apart;exact⟨m.p.store_any 3 _,m.ws.other (by exact a1.symm) _,m.bk.other (by exact a2.symm) _,m.rt.other (by exact a3.symm) _,m.w1,m.b1,m.only.setCell (rmem_p G) _⟩
theorem RMid.growW{news:List Nat}{n:Nat}{v:Value}(m:RMid w G h la ws gw cw bk gb cb X)(hg:Grew X Y gw 60 (ws.length+n) v (nums .u32 ws++nums .u32 news))(hn:news.length=n): ∃gw' c',v= .slice (some ⟨gw',0,none⟩) (ws.length+n) c'∧RMid w G h la (ws++news) gw' c' bk gb cb (Y.setCell ⟨G.p,1,none⟩ v)∧Row Y G.p 74 [.int .i64 h.size,.slice (some ⟨gw,0,none⟩) ws.length cw,.slice (some ⟨G.gr,0,none⟩) 64 64,.int .u32 la,.slice (some ⟨gb,0,none⟩) bk.length cb]∧Only [gw] X Y:=by
 obtain⟨a1,a2,a3,a4,a5,a6⟩:=m.apart;obtain⟨gw',c',rfl,hs,hgg,ho⟩:=hg;have r1:=m.p.only ho (by simp;exact a1);have r3:=m.bk.only ho (by simp;exact a4.symm);have r4:=m.rt.only ho (by simp;exact a5.symm);obtain⟨_,rgw⟩:=hs.row;have e1:G.p≠gw':=r1.ne rgw (by decide);have e2:G.p≠gb:=a2;have hl:(ws++news).length=ws.length+n:=by rw[List.length_append,hn]
 have hoW:Only G.l w Y:=m.only.trans ho (fun q hq=>by
  rw[List.mem_singleton]at hq;subst hq;rcases m.w1 with e|e
  ·exact .inl (by rw[e];exact rmem_gw G)
  ·exact .inr e)
 refine⟨gw',c',rfl,⟨?_,?_,r3.other (by exact e2.symm) _,r4.other (by exact a3.symm) _,?_,m.b1,hoW.setCell (rmem_p G) _⟩,r1,ho⟩
 ·rw[hl];exact r1.store_any 1 _
 ·rw[hl,nums_append];exact hs.other (by exact e1.symm) _
 ·rcases hgg with rfl|rfl
  ·exact m.w1
  ·exact .inr m.only.size
theorem RMid.growB{news:List Nat}{n:Nat}{v:Value}(m:RMid w G h la ws gw cw bk gb cb X)(hg:Grew X Y gb 5 (bk.length+n) v (nums .u8 bk++nums .u8 news))(hn:news.length=n): ∃gb' c',v= .slice (some ⟨gb',0,none⟩) (bk.length+n) c'∧RMid w G h la ws gw cw (bk++news) gb' c' (Y.setCell ⟨G.p,4,none⟩ v)∧Row Y G.p 74 [.int .i64 h.size,.slice (some ⟨gw,0,none⟩) ws.length cw,.slice (some ⟨G.gr,0,none⟩) 64 64,.int .u32 la,.slice (some ⟨gb,0,none⟩) bk.length cb]∧Only [gb] X Y:=by
 obtain⟨a1,a2,a3,a4,a5,a6⟩:=m.apart;obtain⟨gb',c',rfl,hs,hgg,ho⟩:=hg;have r1:=m.p.only ho (by simp;exact a2);have r3:=m.ws.only ho (by simp;exact a4);have r4:=m.rt.only ho (by simp;exact a6.symm);obtain⟨_,rgw⟩:=hs.row;have e1:G.p≠gb':=r1.ne rgw (by decide);have hl:(bk++news).length=bk.length+n:=by rw[List.length_append,hn]
 have hoW:Only G.l w Y:=m.only.trans ho (fun q hq=>by
  rw[List.mem_singleton]at hq;subst hq;rcases m.b1 with e|e
  ·exact .inl (by rw[e];exact rmem_gb G)
  ·exact .inr e)
 refine⟨gb',c',rfl,⟨?_,r3.other (by exact a1.symm) _,?_,r4.other (by exact a3.symm) _,m.w1,?_,hoW.setCell (rmem_p G) _⟩,r1,ho⟩
 ·rw[hl];exact r1.store_any 4 _
 ·rw[hl,nums_append];exact hs.other (by exact e1.symm) _
 ·rcases hgg with rfl|rfl
  ·exact m.b1
  ·exact .inr m.only.size
theorem RMid.done{f sp cl:Nat}{fs:List Nat}(hG:Limb.Good (addO h f sp cl fs))(low:5≤G.p∧5≤G.gw∧5≤G.gb∧5≤G.gr)(h5:5≤w.heap.size)(m:RMid w G h (h.last+1) (h.ws++[Hd.w0 ⟨fs.length,f,sp,cl,h.last+1⟩,cl,h.last+1]++fs) gw cw (book h.st++[1]++List.replicate (2+fs.length) 0) gb cb X):RStep w G X ⟨G.p,gw,gb,G.gr⟩ (addO h f sp cl fs):=by
 have e1:(addO h f sp cl fs).ws=h.ws++[Hd.w0 ⟨fs.length,f,sp,cl,h.last+1⟩,cl,h.last+1]++fs:=by unfold addO;simp
 have e2:book (addO h f sp cl fs).st=book h.st++[1]++List.replicate (2+fs.length) 0:=by
  unfold addO;show book (h.st++(true :: List.replicate (2+fs.length) false))=_
  rw[book_append,List.append_assoc];congr 1;unfold book;simp
 have e3:(book h.st++[1]++List.replicate (2+fs.length) 0).length=(addO h f sp cl fs).ws.length:=by rw[←e2,book_length];exact hG.len
 have mp:=m.p;have mw:=m.ws;have mb:=m.bk;rw[←e1]at mp mw;rw[e3,←e2]at mb;rw[e3]at mp;refine⟨⟨hG,⟨cw,cb,mp,mw,mb⟩,m.rt,⟨low.1,?_,?_,low.2.2.2⟩⟩,⟨rfl,rfl,m.w1,m.b1⟩,m.only⟩
 ·show 5≤gw;rcases m.w1 with e|e<;>omega
 ·show 5≤gb;rcases m.b1 with e|e<;>omega
end
end Go.Proofs.YtbffpkmfhkphdaaGreatDoor
namespace Go.Proofs.YtbffpkmfhkphdaaGreatDoor
open Go Lib Go.RowKit Limb
theorem eql_slice_nil{P:Program}(t e:TypeId)(a:Addr)(n c:Nat)(h:P.underlying t=some (.slice e))(w:World):(binOp .eql t (.slice (some a) n c) (.slice none 0 0)).run P w= .ok (.bool false) w:=by
 have:(Op.equalIn 10000 t (.slice (some a) n c) (.slice none 0 0)).run P w= .ok false w:=by
  rw[show(10000:Nat)=9999+1 from rfl];unfold Op.equalIn;simp[Sem.run_bind,run_underlying h,Result.andThen]
 simp[binOp,Op.equal,Op.maxDepth,this,Result.andThen]
theorem news_of{K:IntKind}{w:World}{g n c:Nat}{e:TypeId}{l:List Nat}(h:Sl w g e n c (nums K l)): ∀j u,(nums K l)[j]? =some u→w.cell? ((⟨g,0,none⟩:Addr).add j)=some u:=by
 intro j u hj
 have ha:(⟨g,0,none⟩:Addr).add j=⟨g,j,none⟩:=by
  unfold Addr.add;by_cases h0:j=0
  ·subst h0;rfl
  ·simp[h0]
 have hl:=h.len;have:=(List.getElem?_eq_some_iff.1 hj).1;rw[ha,h.cell (by omega)];exact hj
theorem clone_words(w:World)(g n c:Nat)(l:List Nat)(hs:Sl w g 60 n c (nums .u32 l))(h0:0<n)(hn:n≤1048576):Calls Tryz.prog 145 #[.slice (some ⟨g,0,none⟩) n c] w fun e w'=>(∃g' c',e= .returned (.slice (some ⟨g',0,none⟩) n c')∧w.heap.size≤g'∧Sl w' g' 60 n c' (nums .u32 l))∧Below w.heap.size w w':=by
 obtain⟨W,hW,r0,hb,hz⟩:=alloc_row w 60 [];have HW:=hid hW;obtain⟨i0,hi,hz0,hz1,hz2⟩:=info_parts info32;have hs1:=hs.below hb;obtain⟨v9,X9,hr9,hg9⟩:=run_sl_append (P:=Tryz.prog) (t:=22) (ty:=22) Tryz.underlying22 hi hz0 hz1 hz2 rfl (r0.sl (n:=0) rfl (Nat.zero_le _)) ⟨g,0,none⟩ n c (by omega) (nums .u32 l) hs1.len (news_of hs1) (by simp[nums,Value.oneCell']) (Nat.le_trans (show 0+n≤1048576 by omega) (by decide)) (by omega);have ho9:=hg9.only;obtain⟨g9,c9,rfl,sl9,hgg,-⟩:=hg9;rw[Nat.zero_add,List.nil_append]at sl9;rw[Nat.zero_add]at hr9;have hB:Below w.heap.size w X9:=hb.trans (ho9.belowB (by omega) (fun p hp=>by rw[List.mem_singleton]at hp;omega));have HR9:=hid hr9;have HS9:=hid sl9;have hg9:w.heap.size≤g9:=by omega
 clear hr9 sl9 hW hs hs1 r0 hb hgg ho9;have he:=eql_slice_nil (P:=Tryz.prog) 22 60 ⟨g,0,none⟩ n c Tryz.underlying22;go_enter Tryz.func145,Tryz.ntmps145;go_wp2_with(at_builtin;(try rw[←HW.out]);refine Lib.wpList_append_run _ rfl _ _ _ _ rfl _ _ rfl rfl _ _ HR9.out ?_);go_ret;exact⟨⟨g9,c9,rfl,hg9,HS9.out⟩,hB⟩
theorem clone_oops(w:World)(g n c:Nat)(l:List Nat)(hs:Sl w g 61 n c (nums .u32 l))(h0:0<n)(hn:n≤1048576):Calls Tryz.prog 314 #[.slice (some ⟨g,0,none⟩) n c] w fun e w'=>(∃g' c',e= .returned (.slice (some ⟨g',0,none⟩) n c')∧w.heap.size≤g'∧Sl w' g' 61 n c' (nums .u32 l))∧Below w.heap.size w w':=by
 obtain⟨W,hW,r0,hb,hz⟩:=alloc_row w 61 [];have HW:=hid hW;obtain⟨i0,hi,hz0,hz1,hz2⟩:=info_parts info_oop;have hs1:=hs.below hb;obtain⟨v9,X9,hr9,hg9⟩:=run_sl_append (P:=Tryz.prog) (t:=71) (ty:=71) Tryz.underlying71 hi hz0 hz1 hz2 rfl (r0.sl (n:=0) rfl (Nat.zero_le _)) ⟨g,0,none⟩ n c (by omega) (nums .u32 l) hs1.len (news_of hs1) (by simp[nums,Value.oneCell']) (Nat.le_trans (show 0+n≤1048576 by omega) (by decide)) (by omega);have ho9:=hg9.only;obtain⟨g9,c9,rfl,sl9,hgg,-⟩:=hg9;rw[Nat.zero_add,List.nil_append]at sl9;rw[Nat.zero_add]at hr9;have hB:Below w.heap.size w X9:=hb.trans (ho9.belowB (by omega) (fun p hp=>by rw[List.mem_singleton]at hp;omega));have HR9:=hid hr9;have HS9:=hid sl9;have hg9:w.heap.size≤g9:=by omega
 clear hr9 sl9 hW hs hs1 r0 hb hgg ho9;have he:=eql_slice_nil (P:=Tryz.prog) 71 61 ⟨g,0,none⟩ n c Tryz.underlying71;go_enter Tryz.func314,Tryz.ntmps314;go_wp2_with(at_builtin;(try rw[←HW.out]);refine Lib.wpList_append_run _ rfl _ _ _ _ rfl _ _ rfl rfl _ _ HR9.out ?_);go_ret;exact⟨⟨g9,c9,rfl,hg9,HS9.out⟩,hB⟩
section
variable {w:World} {F:Foot} {h:Hp}
theorem heap_Words(H:HeapAt w F h):Calls Tryz.prog 58 #[.pointer (some ⟨F.p,0,none⟩)] w fun e w'=>(∃g' c',e= .returned (.slice (some ⟨g',0,none⟩) h.ws.length c')∧w.heap.size≤g'∧Sl w' g' 60 h.ws.length c' (nums .u32 h.ws))∧Below w.heap.size w w':=by
 have HM:=hid (heap_made H);obtain⟨cw,cs,c0,c1,c2,c3,c4,hw,hs⟩:=H.cells;have HC:=hid (clone_words w F.gw h.ws.length cw h.ws hw H.good.pos H.small.1);clear hw hs H;go_enter Tryz.func58,Tryz.ntmps58;go_wp2_with fail;refine(HM.out).mono ?_;rintro e w1 ⟨rfl,rfl⟩;(try dsimp only);go_wp2_with fail;refine(HC.out).mono ?_;rintro e w2 ⟨⟨g',c',rfl,hg,hS⟩,hB⟩;(try dsimp only);have HS:=hid hS;clear hS;go_wp2_with fail;go_ret;exact⟨⟨g',c',rfl,hg,HS.out⟩,hB⟩
theorem heap_Roots(H:HeapAt w F h):Calls Tryz.prog 297 #[.pointer (some ⟨F.p,0,none⟩)] w fun e w'=>(∃g' c',e= .returned (.slice (some ⟨g',0,none⟩) 64 c')∧w.heap.size≤g'∧Sl w' g' 61 64 c' (nums .u32 h.rt))∧Below w.heap.size w w':=by
 have HM:=hid (heap_made H);obtain⟨cw,cs,c0,c1,c2,c3,c4,hw,hs⟩:=H.cells;have sl:Sl w F.gr 61 64 64 (nums .u32 h.rt):=H.roots.sl (by rw[nums_length];exact H.good.rlen.symm) (by decide);have HC:=hid (clone_oops w F.gr 64 64 h.rt sl (by decide) (by decide));clear hw hs H sl;go_enter Tryz.func297,Tryz.ntmps297;go_wp2_with fail;refine(HM.out).mono ?_;rintro e w1 ⟨rfl,rfl⟩;(try dsimp only);go_wp2_with fail;refine(HC.out).mono ?_;rintro e w2 ⟨⟨g',c',rfl,hg,hS⟩,hB⟩;(try dsimp only);have HS:=hid hS;clear hS;go_wp2_with fail;go_ret;exact⟨⟨g',c',rfl,hg,HS.out⟩,hB⟩
end
end Go.Proofs.YtbffpkmfhkphdaaGreatDoor
namespace Go.Proofs.YtbffpkmfhkphdaaGreatDoor
open Go Lib Go.RowKit Limb
section
variable {w:World} {F:Foot} {h:Hp}
theorem kernel_root(H:HeapAt w F h)(i:Nat)(hi:i<64):Calls Tryz.prog 110 #[.pointer (some ⟨F.p,0,none⟩),.int .i64 i] w fun e w'=>e= .returned (.int .u32 (wd h.rt i:Nat))∧w=w':=by
 have HR:=hid (heap_root H i hi);clear H;go_enter Tryz.func110,Tryz.ntmps110;go_wp2_with fail;refine(HR.out).mono ?_;rintro e w1 ⟨rfl,rfl⟩;(try dsimp only);go_wp2_with fail;go_ret;exact⟨rfl,rfl⟩
theorem isF_hdX{o f n:Nat}:isF h o f n=(decide (erX h o=0)&&decide ((hdX h o).fmt=f)&&decide (n≤(hdX h o).size)):=by
 unfold isF erX hdX;by_cases hi:isO h o=true
 ·rw[if_pos hi,if_pos hi,hi];rfl
 ·rw[if_neg hi,if_neg hi];rw[Bool.not_eq_true]at hi;rw[hi];rfl
theorem kernel_pointers(H:HeapAt w F h)(o n:Nat)(ho:o<4294967296):Calls Tryz.prog 262 #[.pointer (some ⟨F.p,0,none⟩),.int .u32 o,.int .i64 n] w fun e w'=>e= .returned (.bool (isF h o 1 n))∧Below w.heap.size w w':=by
 have HD:=hid (heap_Header H o ho);obtain⟨r,hr⟩: ∃b,b=isF h o 1 n:=⟨_,rfl⟩;have hr2:=hr;rw[isF_hdX]at hr2;rw[←hr];have HR:=hid hr2;have ex:hdV (hdX h o)= .agg #[.int .i64 (hdX h o).size,.int .i64 (hdX h o).fmt,.int .i64 (hdX h o).spare,.int .u32 (hdX h o).cls,.int .u32 (hdX h o).ser]:=rfl;have hd:=HD.out;rw[ex]at hd;generalize hdX h o=x at*
 generalize x.fmt=x1 at*
 generalize x.size=x0 at*
 generalize erX h o=er at*
 have HD:=hid hd;clear hd ex hr hr2 H;by_cases e0:er=0
 ·subst e0;by_cases e1:x1=1
  ·subst e1;by_cases e2:n≤x0
   ·have d1:decide ((n:Int)≤(x0:Int))=true:=decide_eq_true (by omega);have d2:decide (n≤x0)=true:=decide_eq_true e2;obtain rfl:r=true:=by rw[HR.out,d2];rfl
    clear HR e2;go_enter Tryz.func262,Tryz.ntmps262;go_wp2_with fail;refine(HD.out).mono ?_;rintro e V ⟨rfl,hB⟩;(try dsimp only);have hE:=hB.alloc hB.size (.cells #[.int .i64 x0,.int .i64 1,.int .i64 x.spare,.int .u32 x.cls,.int .u32 x.ser] 159);go_wp2_with fail;go_ret;exact⟨rfl,hE⟩
   ·have d1:decide ((n:Int)≤(x0:Int))=false:=decide_eq_false (by omega);have d2:decide (n≤x0)=false:=decide_eq_false e2;obtain rfl:r=false:=by rw[HR.out,d2];rfl
    clear HR e2;go_enter Tryz.func262,Tryz.ntmps262;go_wp2_with fail;refine(HD.out).mono ?_;rintro e V ⟨rfl,hB⟩;(try dsimp only);have hE:=hB.alloc hB.size (.cells #[.int .i64 x0,.int .i64 1,.int .i64 x.spare,.int .u32 x.cls,.int .u32 x.ser] 159);go_wp2_with fail;go_ret;exact⟨rfl,hE⟩
  ·have q:((x1:Int)==1)=false:=(by rw[beq_eq_false_iff_ne];omega);have q2:(x1==1)=false:=by rw[beq_eq_false_iff_ne];exact e1
   obtain rfl:r=false:=by rw[HR.out,decide_eq_false e1];rfl
   clear HR;go_enter Tryz.func262,Tryz.ntmps262;go_wp2_with fail;refine(HD.out).mono ?_;rintro e V ⟨rfl,hB⟩;(try dsimp only);have hE:=hB.alloc hB.size (.cells #[.int .i64 x0,.int .i64 x1,.int .i64 x.spare,.int .u32 x.cls,.int .u32 x.ser] 159);go_wp2_with fail;go_ret;exact⟨rfl,hE⟩
 ·have q:((er:Int)==0)=false:=(by rw[beq_eq_false_iff_ne];omega);have q2:(er==0)=false:=by rw[beq_eq_false_iff_ne];exact e0
  obtain rfl:r=false:=by rw[HR.out,decide_eq_false e0];rfl
  clear HR;go_enter Tryz.func262,Tryz.ntmps262;go_wp2_with fail;refine(HD.out).mono ?_;rintro e V ⟨rfl,hB⟩;(try dsimp only);have hE:=hB.alloc hB.size (.cells #[.int .i64 x0,.int .i64 x1,.int .i64 x.spare,.int .u32 x.cls,.int .u32 x.ser] 159);go_wp2_with fail;go_ret;exact⟨rfl,hE⟩
theorem getA_getF{o i:Nat}(hp:isF h o 1 0=true):getA h o (i:Int) [1,4]=getF h o i:=by
 unfold isF at hp;simp only[Bool.and_eq_true,decide_eq_true_eq]at hp;obtain⟨⟨h1,h2⟩,_⟩:=hp;unfold getA getF;have hlen:(hdO h o).len=(hdO h o).size:=len_size (by omega);by_cases h3:i+1≤(hdO h o).size
 ·rw[if_pos (lookE_zero.2 ⟨h1,by rw[h2];rfl,by omega,by rw[hlen];omega⟩),if_pos (by unfold isF;rw[h1,decide_eq_true h2,decide_eq_true h3];rfl),Int.toNat_natCast]
 ·rw[if_neg (fun e=>by have:=(lookE_zero.1 e).2.2.2;rw[hlen]at this;omega),if_neg (by unfold isF;rw[h1,decide_eq_true h2,decide_eq_false h3];decide)]
theorem getF_not{o i:Nat}(hp:isF h o 1 0=false):getF h o i=0:=by
 unfold getF;rw[if_neg];intro e;unfold isF at hp e;simp only[Bool.and_eq_true,decide_eq_true_eq]at e;rw[e.1.1,decide_eq_true e.1.2]at hp;simp at hp
theorem kernel_field(H:HeapAt w F h)(o i:Nat)(ho:o<4294967296)(hi:i≤65535):Calls Tryz.prog 296 #[.pointer (some ⟨F.p,0,none⟩),.int .u32 o,.int .i64 i] w fun e w'=>e= .returned (.int .u32 (getF h o i:Nat))∧Below w.heap.size w w':=by
 have HP:=hid (kernel_pointers H o 0 ho);have HG:=hid (fun X (hb:Below w.heap.size w X)=>heap_get (H.below hb) o ho (i:Int) (by omega) (by omega))
 cases hp:isF h o 1 0 with
 |true=>
  have hg:=HG.out;rw[getA_getF hp]at hg;have hP:=HP.out;rw[hp]at hP;have HG:=hid hg;have HP:=hid hP;generalize getF h o i=v at*
  generalize lookE h o (i:Int) [1,4]=le at*
  clear hg hP hp H;go_enter Tryz.func296,Tryz.ntmps296;go_wp2_with fail;refine(HP.out).mono ?_;rintro e V ⟨rfl,hB⟩;(try dsimp only);go_wp2_with fail;refine(HG.out V hB).mono ?_;rintro e V2 ⟨rfl,hb⟩;(try dsimp only);replace hB:=hB.trans (hb.mono hB.size);clear hb;go_wp2_with fail;go_ret;exact⟨rfl,hB⟩
 |false=>
  rw[getF_not hp];have hP:=HP.out;rw[hp]at hP;have HP:=hid hP;clear hP hp H HG;go_enter Tryz.func296,Tryz.ntmps296;go_wp2_with fail;refine(HP.out).mono ?_;rintro e V ⟨rfl,hB⟩;(try dsimp only);go_wp2_with fail;go_ret;exact⟨rfl,hB⟩
theorem kernel_size(H:HeapAt w F h)(o:Nat)(ho:o<4294967296):Calls Tryz.prog 300 #[.pointer (some ⟨F.p,0,none⟩),.int .u32 o] w fun e w'=>e= .returned (.int .i64 (hdX h o).size)∧Below w.heap.size w w':=by
 have HD:=hid (heap_Header H o ho);have ex:hdV (hdX h o)= .agg #[.int .i64 (hdX h o).size,.int .i64 (hdX h o).fmt,.int .i64 (hdX h o).spare,.int .u32 (hdX h o).cls,.int .u32 (hdX h o).ser]:=rfl;have hd:=HD.out;rw[ex]at hd;generalize hdX h o=x at*
 generalize erX h o=er at*
 have HD:=hid hd;clear hd ex H;go_enter Tryz.func300,Tryz.ntmps300;go_wp2_with fail;refine(HD.out).mono ?_;rintro e V ⟨rfl,hB⟩;(try dsimp only);have hE:=hB.alloc hB.size (.cells #[.int .i64 x.size,.int .i64 x.fmt,.int .i64 x.spare,.int .u32 x.cls,.int .u32 x.ser] 159);go_wp2_with fail;go_ret;exact⟨rfl,hE⟩
end
end Go.Proofs.YtbffpkmfhkphdaaGreatDoor

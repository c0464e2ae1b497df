/- The walk of the document's Symbol. The walks of the document's layer 4: class, number, Small, add, intern. The walk of package kernel's SetGlobal, where the name is new. The walks of the booter's methods: alloc, class, intern, of. -/
import Derived.Test.YtbffpkmfhkphdaaGreatDoorGX35
import Derived.Test.YtbffpkmfhkphdaaGreatDoorGX00
import Derived.Test.YtbffpkmfhkphdaaGreatDoorGX22
set_option linter.unusedVariables false
set_option linter.unusedSimpArgs false
set_option maxRecDepth 1000000
set_option maxHeartbeats 6400000
namespace Go.Proofs.YtbffpkmfhkphdaaGreatDoor
open Go Lib Go.RowKit Limb
section
variable {w:World} {G:RFoot} {h:Hp}
theorem r4_symbol(H:RefAt w G h)(K:Limb.Ker h)(S:ByteArray)(h0S:0<S.size):Calls Tryz.prog 200 #[.pointer (some ⟨G.p,0,none⟩),.string S] w fun e w'=>e= .returned (.int .u32 (symP h (tx S):Nat))∧Below w.heap.size w w':=by
 have hle:(entries h 3).length≤65535:=by
  unfold entries;rw[if_pos K.l3];have h1:=ahead_le (wd h.rt 0) (flds h (wd h.rt 3));rw[flds_length H.good (isF_isO K.l3)]at h1;have:=(okO H.good (isF_isO K.l3)).size;omega
 have HL:=hid (r4_live H K);have HE:=hid (r4_entries H 3 (by decide) K.l3);have HIb:=hid (fun X (hb:Below w.heap.size w X) o (ho:o<4294967296)=>r4_isbytes (H.below hb) o ho);have HLn:=hid (fun X (hb:Below w.heap.size w X) o (ho:isO h o=true)=>r_len (H.below hb) o ho);have HBo:=hid (fun X (hb:Below w.heap.size w X) o (ho:isO h o=true) (hf:(hdO h o).fmt=2) (hl:0<(hdO h o).len)=>r4_body (H.below hb) ho hf hl);have HLt:=hid (entries_lt H.good 3);have hfind:symP h (tx S)=((entries h 3).find? (readsO h (tx S))).getD 0:=rfl
 have HF1:=hid (fun k (hk:k<(entries h 3).length) (hj: ∀j,j<k→readsO h (tx S) (wd (entries h 3) j)=false) (hr:readsO h (tx S) (wd (entries h 3) k)=true)=>show symP h (tx S)=wd (entries h 3) k from by
  rw[hfind,find_at _ k hk hj hr];rfl)
 have HF0:=hid (fun(hj: ∀j,j<(entries h 3).length→readsO h (tx S) (wd (entries h 3) j)=false)=>show symP h (tx S)=0 from by
  rw[hfind,find_no _ hj];rfl)
 clear hfind;generalize symP h (tx S)=res at*
 generalize entries h 3=L at*
 obtain⟨n,hn⟩: ∃n,n=L.length:=⟨_,rfl⟩;rw[←hn]at HE HF1 HF0;have HNl:=hid hn;rw[←hn]at hle;clear hn H K;go_enter Tryz.func200,Tryz.ntmps200;go_wp2_with fail;refine(HL.out).mono ?_;rintro e V0 ⟨rfl,rfl⟩;(try dsimp only);go_wp2_with fail;refine(HE.out).mono ?_;rintro e V ⟨⟨v,rfl,hown⟩,hB⟩;(try dsimp only);rcases owns_split hown with⟨rfl,e⟩|⟨g,c,rfl,sl⟩
 ·subst e;obtain rfl:res=0:=HF0.out (fun j hj=>by omega);clear hown HF1 HF0;go_wp2_with fail;go_loopw[6] (fun i wr=>i= .int .i64 0∧Below w.heap.size w wr) (fun i _=>0);case atStart=>exact⟨rfl,hB⟩
  case round=>
   clear hB;obtain⟨rfl,hB⟩:=hrel;go_wp2_with fail;go_ret;exact⟨rfl,hB⟩
 ·clear hown;go_wp2_with fail;go_loopw[6] (fun i wr=> ∃k:Nat,k≤n∧i= .int .i64 k∧Hid (∀j,j<k→readsO h (tx S) (wd L j)=false)∧Sl wr g 61 n c (nums .u32 L)∧Below w.heap.size w wr) (fun i _=>n-(intOf i).toNat);case atStart=>exact⟨0,Nat.zero_le _,rfl,hid (fun j hj=>absurd hj (by omega)),sl,hB⟩
  case round=>
   clear sl hB;obtain⟨k,hk,rfl,HPre,sl,hB⟩:=hrel;by_cases h0:k<n
   ·have d1:decide ((k:Int)<(n:Int))=true:=decide_eq_true (by omega);have d2:decide (k<n)=true:=decide_eq_true h0;have ix:=fun W=>sl.index 71 Tryz.underlying71 size_oop W .i64 k h0
    have cx:=sl.cell h0;rw[nums_get (by rw[←HNl.out];exact h0)]at cx;have olt:=HLt.out k;have hf1:=HF1.out k h0 HPre.out
    have hnext:readsO h (tx S) (wd L k)=false→∀j,j<k+1→readsO h (tx S) (wd L j)=false:=fun e j hj=>by
     by_cases e2:j=k
     ·rw[e2];exact e
     ·exact HPre.out j (by omega)
    have HSl:=hid (fun X (hb:Below wr.heap.size wr X)=>sl.below hb);obtain⟨o,ho⟩: ∃o,o=wd L k:=⟨_,rfl⟩;rw[←ho]at cx olt hf1 hnext;have HOw:=hid ho.symm;clear ho;have HIo:=hid (HIb.out wr hB o olt);by_cases hb2:isF h o 2 0=true
    ·have hio:=isF_isO hb2;have hfm:=(isF_iff.1 hb2).2.1;have hib:=HIo.out;rw[hb2]at hib;have HIo:=hid hib;have HLo:=hid (fun X hb=>HLn.out X hb o hio);have hrd:readsO h (tx S) o=(decide ((hdO h o).len=S.size)&&decide (bytO h o=tx S)):=by unfold readsO;rw[hb2,tx_length];rfl
     have HBb:=hid (fun X hb hl=>HBo.out X hb o hio hfm hl);by_cases hl:(hdO h o).len=S.size
     ·rw[hl]at HLo HBb hrd;rw[decide_eq_true rfl,Bool.true_and]at hrd;have qs:((S.size:Int)==(S.size:Int))=true:=by simp
      have HRd:=hid hrd;have HF:=hid hf1;have HNx:=hid hnext;generalize bytO h o=bs at*
      clear hb2 hio hfm hib hrd hl hf1 hnext sl;go_wp2_with fail;refine(HIo.out).mono ?_;rintro e V1 ⟨rfl,hb⟩;(try dsimp only);have hbw:=Below.refl wr.heap.size wr;replace hB:=hB.trans (hb.mono hB.size);replace hbw:=hbw.trans (hb.mono hbw.size);have s1:=HSl.out _ hbw;have cx:=s1.cell h0;rw[nums_get (by rw[←HNl.out];exact h0),HOw.out]at cx;clear hb;go_wp2_with fail;refine(HLo.out _ hB).mono ?_;rintro e V2 ⟨rfl,hb⟩;(try dsimp only);replace hB:=hB.trans (hb.mono hB.size);replace hbw:=hbw.trans (hb.mono hbw.size);have s2:=HSl.out _ hbw;have cx:=s2.cell h0;rw[nums_get (by rw[←HNl.out];exact h0),HOw.out]at cx;clear hb;go_wp2_with fail;refine(HBb.out _ hB h0S).mono ?_;rintro e V3 ⟨⟨s,rfl,hs⟩,hb⟩;(try dsimp only);replace hB:=hB.trans (hb.mono hB.size);replace hbw:=hbw.trans (hb.mono hbw.size);have s3:=HSl.out _ hbw;have cx:=s3.cell h0;rw[nums_get (by rw[←HNl.out];exact h0),HOw.out]at cx;clear hb;by_cases he:bs=tx S
      ·have hsS:s=S:=tx_inj (hs.trans he);subst hsS;obtain rfl:res=o:=HF.out (by rw[HRd.out,decide_eq_true he]);clear hs he HRd HF HNx;go_wp2_with fail;go_ret;exact⟨rfl,hB⟩
      ·have hne:(s.toList==S.toList)=false:=by
        rw[beq_eq_false_iff_ne];intro e;rw[ByteArray.toList_eq,ByteArray.toList_eq]at e;exact he (hs.symm.trans (by unfold tx;rw[e]))
       have HP2:=hid (HNx.out (by rw[HRd.out,decide_eq_false he]));clear hs he HRd HF HNx;go_wp2_with fail;go_roundw;case rel=>exact⟨k+1,h0,by simp,HP2,s3,hB⟩
       case measure=>simp[intOf];omega
     ·have HP2:=hid (hnext (by rw[hrd,decide_eq_false hl];rfl));have q1:(((hdO h o).len:Int)==(S.size:Int))=false:=by rw[beq_eq_false_iff_ne];omega
      have q2:((hdO h o).len==S.size)=false:=(by rw[beq_eq_false_iff_ne];exact hl);generalize(hdO h o).len=ln at*
      clear hb2 hio hfm hib hrd hl hf1 hnext sl HBb;go_wp2_with fail;refine(HIo.out).mono ?_;rintro e V1 ⟨rfl,hb⟩;(try dsimp only);have hbw:=Below.refl wr.heap.size wr;replace hB:=hB.trans (hb.mono hB.size);replace hbw:=hbw.trans (hb.mono hbw.size);have s1:=HSl.out _ hbw;have cx:=s1.cell h0;rw[nums_get (by rw[←HNl.out];exact h0),HOw.out]at cx;clear hb;go_wp2_with fail;refine(HLo.out _ hB).mono ?_;rintro e V2 ⟨rfl,hb⟩;(try dsimp only);replace hB:=hB.trans (hb.mono hB.size);replace hbw:=hbw.trans (hb.mono hbw.size);have s2:=HSl.out _ hbw;have cx:=s2.cell h0;rw[nums_get (by rw[←HNl.out];exact h0),HOw.out]at cx;clear hb;go_wp2_with fail;go_roundw;case rel=>exact⟨k+1,h0,by simp,HP2,s2,hB⟩
      case measure=>simp[intOf];omega
    ·rw[Bool.not_eq_true]at hb2;have hib:=HIo.out;rw[hb2]at hib;have HIo:=hid hib;have HP2:=hid (hnext (by unfold readsO;rw[hb2];rfl));clear hb2 hib hf1 hnext sl;go_wp2_with fail;refine(HIo.out).mono ?_;rintro e V1 ⟨rfl,hb⟩;(try dsimp only);have hbw:=Below.refl wr.heap.size wr;replace hB:=hB.trans (hb.mono hB.size);replace hbw:=hbw.trans (hb.mono hbw.size);have s1:=HSl.out _ hbw;have cx:=s1.cell h0;rw[nums_get (by rw[←HNl.out];exact h0),HOw.out]at cx;clear hb;go_wp2_with fail;go_roundw;case rel=>exact⟨k+1,h0,by simp,HP2,s1,hB⟩
     case measure=>simp[intOf];omega
   ·obtain rfl:k=n:=by omega
    have d1:decide ((k:Int)<(k:Int))=false:=decide_eq_false (by omega);have d2:decide (k<k)=false:=decide_eq_false (by omega);obtain rfl:res=0:=HF0.out HPre.out;clear HF0 HF1;go_wp2_with fail;go_ret;exact⟨rfl,hB⟩
end
end Go.Proofs.YtbffpkmfhkphdaaGreatDoor
namespace Go.Proofs.YtbffpkmfhkphdaaGreatDoor
open Go Lib Go.RowKit Limb
section
variable {w:World} {G:RFoot} {h:Hp}
theorem r4_number(w:World)(f fx:Nat)(b:Bool)(h1:f≤1000)(h2:fx≤1000):Calls Tryz.prog 197 #[.int .i64 f,.int .i64 fx,.bool b] w fun e w'=>e= .returned (.int .i64 (writtenN f fx b))∧w=w':=by
 cases b with
 |false=>
  have e1:(writtenN f fx false)=f+8*fx:=rfl;rw[e1];go_enter Tryz.func197,Tryz.ntmps197;go_wp2_with fail;go_ret;exact⟨rfl,rfl⟩
 |true=>
  have e1:(writtenN f fx true)=f+8*fx+65536:=rfl;rw[e1];go_enter Tryz.func197,Tryz.ntmps197;go_wp2_with fail;go_ret;exact⟨rfl,rfl⟩
theorem r4_small(w:World)(n:Nat)(hn:n<1073741824):Calls Tryz.prog 267 #[.int .i64 n] w fun e w'=>e= .returned (.int .u32 (2*n+1:Nat))∧w=w':=by
 have hs:=r_small w n (by unfold isSm;rw[decide_eq_true (by omega),decide_eq_true (by omega)];rfl);rw[show smallO n=2*n+1 from by unfold smallO;omega]at hs;have HS:=hid hs;clear hs;go_enter Tryz.func267,Tryz.ntmps267;go_wp2_with fail;refine(HS.out).mono ?_;rintro e V ⟨rfl,rfl⟩;(try dsimp only);go_wp2_with fail;go_ret;exact⟨rfl,rfl⟩
theorem RefAt.root(H:RefAt w G h){i:Nat}(hi:i<64):w.cell? ⟨G.p,2,none⟩=some (.slice (some ⟨G.gr,0,none⟩) 64 64)∧w.cell? ⟨G.gr,i,none⟩=some (.int .u32 (wd h.rt i:Nat))∧∀W,(Instr.indexAt 71 (.slice (some ⟨G.gr,0,none⟩) 64 64) (.int .i64 i)).run Tryz.prog W= .ok (.pointer (some ⟨G.gr,i,none⟩)) W:=by
 obtain⟨cw,cs,c0,c1,c2,_⟩:=H.cells;have sl:Sl w G.gr 61 64 64 (nums .u32 h.rt):=H.roots.sl (by rw[nums_length];exact H.good.rlen.symm) (by decide);exact⟨c2,H.root_cell hi,fun W=>sl.index 71 Tryz.underlying71 size_oop W .i64 i hi⟩
theorem r4_class(H:RefAt w G h)(i:Nat)(hi:i<64):Calls Tryz.prog 202 #[.pointer (some ⟨G.p,0,none⟩),.int .i64 i] w fun e w'=>e= .returned (.int .u32 (wd h.rt i:Nat))∧w=w':=by
 obtain⟨c2,cr,ix⟩:=H.root hi;clear H;go_enter Tryz.func202,Tryz.ntmps202;go_wp2_with fail;go_ret;exact⟨rfl,rfl⟩
theorem putL_parts{r o:Nat}{h':Hp}(e:putL h r o=some h'):isF h (wd h.rt r) 1 0=true∧isF h (wd h.rt r) 1 ((entries h r).length+1)=true∧h'=Limb.putF h (wd h.rt r) (entries h r).length o:=by
 unfold putL at e;simp only at e;split at e
 ·rename_i hc;exact⟨isF_le hc (Nat.zero_le _),hc,(Option.some.inj e).symm⟩
 ·cases e
theorem r4_add(H:RefAt w G h)(r:Nat)(hr:r<64)(o:Nat)(ho:isO h o=true)(h':Hp)(hp:putL h r o=some h'):Calls Tryz.prog 203 #[.pointer (some ⟨G.p,0,none⟩),.int .i64 r,.int .u32 o] w fun e w'=>e= .returned (.int .i64 0)∧RStep w G w' G h':=by
 obtain⟨e1,e2,e3⟩:=putL_parts hp;have hio:=isF_isO e1;have hHd:=fun X (hb:Below w.heap.size w X)=>r_header (H.below hb) (wd h.rt r) hio
 simp only[hdV_ex]at hHd;have k1:=(okO H.good hio).size;have HE:=hid (fun X (hb:Below w.heap.size w X)=>r4_entries (H.below hb) r hr e1)
 have HP:=hid (fun X (hb:Below w.heap.size w X)=>show Calls Tryz.prog 117 #[.pointer (some ⟨G.p,0,none⟩),.int .u32 (wd h.rt r:Nat),.int .i64 (entries h r).length,.int .u32 o] X fun e w'=>e= .returned (.int .i64 0)∧RStep w G w' G h' from by
  rw[e3];exact(r_put (H.below hb) e2 (isO_val ho) (isO_lt H.good ho)).mono fun e w' ⟨x,y⟩=>⟨x,RStep.of_below hb y H.lt⟩)
 have hlt:=(isF_iff.1 e2).2.2;obtain⟨c2,cr,ix⟩:=H.root hr;generalize entries h r=L at*
 generalize wd h.rt r=l at*
 have fd0:=fun V=>(field_hdr V (.int .i64 (hdO h l).size) (.int .i64 (hdO h l).fmt) (.int .i64 (hdO h l).spare) (.int .u32 (hdO h l).cls) (.int .u32 (hdO h l).ser)).1
 generalize hdO h l=x at*
 generalize x.size=sz at*
 obtain⟨n,hn⟩: ∃n,n=L.length:=⟨_,rfl⟩;rw[←hn]at HE HP hlt;have q:((n:Int)==(sz:Int))=false:=by rw[beq_eq_false_iff_ne];omega
 have q2:(n==sz)=false:=by rw[beq_eq_false_iff_ne];omega
 have HHd:=hid (hHd w (Below.refl _ _));clear hn hHd e1 e2 e3 hp ho hio H;go_enter Tryz.func203,Tryz.ntmps203;go_wp2_with fail;refine(HHd.out).mono ?_;rintro e V1 ⟨rfl,hB⟩;(try dsimp only);go_wp2_with fail;refine(HE.out V1 hB).mono ?_;rintro e V2 ⟨⟨v,rfl,hown⟩,hb⟩;(try dsimp only);replace hB:=hB.trans (hb.mono hB.size);have HP2:=hid (HP.out _ hB);clear hb HE HP c2 cr ix;rcases owns_split hown with⟨rfl,e⟩|⟨g,c,rfl,-⟩
 ·subst e;clear hown;go_wp2_with fail;refine(HP2.out).mono ?_;rintro e V3 ⟨rfl,hS⟩;(try dsimp only);have HS:=hid hS;clear hS;go_wp2_with fail;go_ret;exact⟨rfl,HS.out⟩
 ·clear hown;go_wp2_with fail;refine(HP2.out).mono ?_;rintro e V3 ⟨rfl,hS⟩;(try dsimp only);have HS:=hid hS;clear hS;go_wp2_with fail;go_ret;exact⟨rfl,HS.out⟩
end
end Go.Proofs.YtbffpkmfhkphdaaGreatDoor
namespace Go.Proofs.YtbffpkmfhkphdaaGreatDoor
open Go Lib Go.RowKit Limb
section
variable {w:World} {F:Foot} {h:Hp}
theorem kernel_setglobal(H:HeapAt w F h)(K:Limb.Ker h)(S:ByteArray)(hS:S.size≤262140)(h0:0<S.size)(v:Nat)(hv:isO h v=true)(o:Nat)(h':Hp)(hp:setGlobP h (tx S) v=some (o,h')):Calls Tryz.prog 192 #[.pointer (some ⟨F.p,0,none⟩),.string S,.int .u32 v] w fun e w'=>e= .returned (.tuple #[.int .u32 o,.int .i64 0])∧Moved w F w' h':=by
 obtain⟨W,hW,ra,hb1,hz1⟩:=alloc_row w 62 [.pointer (some ⟨F.p,0,none⟩)];obtain⟨V,hV,rb,hb2,hz2⟩:=alloc_row W 9 [.string S];obtain⟨U,hU,rd,hb3,hz3⟩:=alloc_row V 61 [.int .u32 v];rw[hz1]at rb;rw[hz2,hz1]at rd;have hB:Below w.heap.size w U:=(hb1.trans (hb2.mono (by omega))).trans (hb3.mono (by omega));replace ra:=(ra.below hb2 ra.lt);replace ra:=(ra.below hb3 ra.lt);replace rb:=(rb.below hb3 rb.lt);have HV:=hid (show U=((w.alloc (.cells #[.pointer (some ⟨F.p,0,none⟩)] 62)).alloc (.cells #[.string S] 9)).alloc (.cells #[.int .u32 v] 61) by rw[hU,hV,hW]);have HH:=H.below hB;have hzV:U.heap.size=w.heap.size+3:=by omega
 have vlt:=isO_lt H.good hv;have hp2:=hp;unfold setGlobP at hp2;split at hp2;case isFalse=>cases hp2
 rename_i hg;obtain⟨⟨k,h1⟩,e1,e2⟩:=Option.bind_eq_some_iff.1 hp2;obtain⟨⟨o2,h2⟩,e3,e4⟩:=Option.bind_eq_some_iff.1 e2;obtain⟨h3,e5,e6⟩:=Option.map_eq_some_iff.1 e4;rw[Prod.mk.injEq]at e6;obtain⟨rfl,rfl⟩:=e6;have HBa:=hid ((kernel_bare HH (Ker.bare K)))
 have HKd:=hid (fun X=>show Calls Tryz.prog 217 #[.int .u32 v] X fun e w'=>e= .returned (.int .i64 2)∧X=w' from by
  have h3:=oop_kind X v vlt;have h4:=isO_iff.1 hv;rw[kind_two.2 ⟨h4.1,h4.2.1⟩]at h3;exact h3)
 have HIs:=hid (fun X (HX:HeapAt X F h)=>show Calls Tryz.prog 131 #[.pointer (some ⟨F.p,0,none⟩),.int .u32 v] X fun e w'=>e= .returned (.bool true)∧X=w' from by
  have:=heap_is HX v vlt;rw[hv]at this;exact this)
 have HGl:=hid (fun X (HX:HeapAt X F h)=>show Calls Tryz.prog 261 #[.pointer (some ⟨F.p,0,none⟩),.string S] X fun e w'=>e= .returned (.int .u32 (0:Nat))∧Below X.heap.size X w' from by
  have:=kernel_global HX (Ker.bare K) S hS;rw[hg]at this;exact this)
 have HFn:=hid (fun X (HX:HeapAt X F h) c (rA:Row X w.heap.size 62 [.pointer (some ⟨F.p,0,none⟩)]) (rB:Row X (w.heap.size+1) 9 [.string S]) (rc:Row X c 61 [.int .u32 0]) (rD:Row X (w.heap.size+1+1) 61 [.int .u32 v]) (hcw:w.heap.size+1+1<c)=>kernel_setglobal_fn K S hS h0 v hv w.heap.size (w.heap.size+1) c (w.heap.size+1+1) X HX rA rB _ rc rD (fun e=>Nat.lt_irrefl _ (H.lt _ e)) (fun e=>absurd (H.lt _ e) (by omega)) (fun e=>absurd (H.lt _ e) (by omega)) (by have:=H.lt _ (mem_p F);have:=H.low;omega) (by omega) (by omega) k h1 e1 o2 h2 e3 h3 e5);have c0:=ra.cell_at 0;have c1:=rb.cell_at 0;have c2:=rd.cell_at 0;simp only[List.getElem?_cons_zero]at c0 c1 c2;clear hW hV hU hz1 hz2 hz3 hb1 hb2 hb3 hp hp2 hg e1 e2 e3 e4 e5 H hv vlt;go_enter Tryz.func192,Tryz.ntmps192;go_wp2_with fail;rw[←HV.out];go_wp2_with fail;refine(HBa.out).mono ?_;rintro e V0 ⟨rfl,hb⟩;(try dsimp only);replace ra:=ra.below hb ra.lt;replace rb:=rb.below hb rb.lt;replace rd:=rd.below hb rd.lt;replace HH:=HH.below hb;replace hB:=hB.trans (hb.mono hB.size);replace hzV:w.heap.size+3≤V0.heap.size:=by have:=hb.size;omega
 clear hb c0 c1 c2 HBa HV;have c0:=ra.cell_at 0;have c1:=rb.cell_at 0;have c2:=rd.cell_at 0;simp only[List.getElem?_cons_zero]at c0 c1 c2;have HIs0:=hid (HIs.out _ HH);have HGl0:=hid (HGl.out _ HH);go_wp2_with fail;refine(HKd.out _).mono ?_;rintro e V00 ⟨rfl,rfl⟩;(try dsimp only);go_wp2_with fail;refine(HIs0.out).mono ?_;rintro e V00 ⟨rfl,rfl⟩;(try dsimp only);go_wp2_with fail;refine(HGl0.out).mono ?_;rintro e V1 ⟨rfl,hb⟩;(try dsimp only);replace ra:=ra.below hb ra.lt;replace rb:=rb.below hb rb.lt;replace rd:=rd.below hb rd.lt;replace HH:=HH.below hb;replace hB:=hB.trans (hb.mono hB.size);replace hzV:w.heap.size+3≤V1.heap.size:=by have:=hb.size;omega
 clear hb c0 c1 c2 HIs HGl HIs0 HGl0 HKd;have HR:=hid (fun Y (hC:Below V1.heap.size V1 Y)=>(kernel_root (HH.below hC) 4 (by decide)).mono (R':=fun e w'=>e= .returned (.int .u32 (wd h.rt 4:Nat))∧Below V1.heap.size V1 w') fun e w' ⟨x,y⟩=>⟨x,by rw[←y];exact hC⟩);have HP:=hid (fun Y (hC:Below V1.heap.size V1 Y)=>(kernel_pointers (HH.below hC) (wd h.rt 4) 0 (root_lt HH.good 4)).mono (R':=fun e w'=>e= .returned (.bool true)∧Below V1.heap.size V1 w') fun e w' ⟨x,y⟩=>⟨by rw[x,K.l4],hC.trans (y.mono hC.size)⟩);go_wp2_with fail;refine wp_region_calm (fun Y=>Below V1.heap.size V1 Y) (by kernel_rfl) (by kernel_rfl) (Below.refl _ _).drew ?_;show wpQuiet _ _ _ _ [_,_,_,_,_] _
 refine wpQuiet_at 32 (.pointer (some ⟨F.p,0,none⟩)) rfl (by kernel_rfl) (fun Y hC=>?_) ?_
 ·have c0:=(ra.below hC ra.lt).cell_at 0;simp only[List.getElem?_cons_zero]at c0;go_simp
 simp only[Act.put,zA,zB,zC];refine wpQuiet_at 33 (.pointer (some ⟨F.p,0,none⟩)) rfl (by kernel_rfl) (fun Y hC=>?_) ?_
 ·have c0:=(ra.below hC ra.lt).cell_at 0;simp only[List.getElem?_cons_zero]at c0;go_simp
 simp only[Act.put,zA,zB,zC];refine wpQuiet_at 34 (.int .u32 (wd h.rt 4:Nat)) rfl (by kernel_rfl) (fun Y hC=>?_) ?_
 ·go_simp;exact HR.out Y hC
 simp only[Act.put,zA,zB,zC];refine wpQuiet_at 35 (.bool true) rfl (by kernel_rfl) (fun Y hC=>?_) ?_
 ·go_simp;exact HP.out Y hC
 simp only[Act.put,zA,zB,zC];refine qa 36 (.bool false) ?_;simp only[Act.put,zA,zB,zC];refine wpQuiet_nil ?_;intro V2 hb2;replace ra:=ra.below hb2 ra.lt;replace rb:=rb.below hb2 rb.lt;replace rd:=rd.below hb2 rd.lt;replace HH:=HH.below hb2;replace hB:=hB.trans (hb2.mono hB.size);replace hzV:w.heap.size+3≤V2.heap.size:=by have:=hb2.size;omega
 clear hb2 HR HP;obtain⟨V3,hV3,rc,hb3,hz3⟩:=alloc_row V2 61 [.int .u32 0];have HV3:=hid hV3;have ra2:=ra;have hlt:=ra.lt;replace ra:=ra.below hb3 ra.lt;replace rb:=rb.below hb3 rb.lt;replace rd:=rd.below hb3 rd.lt;replace HH:=HH.below hb3;replace hB:=hB.trans (hb3.mono hB.size);obtain⟨c,hc⟩: ∃c,c=V2.heap.size:=⟨_,rfl⟩;rw[←hc]at rc;have Hc:=hid hc;have hcw:w.heap.size+1+1<c:=by omega
 have c0:=ra2.cell_at 0;simp only[List.getElem?_cons_zero]at c0;have HQ:=hid (undo_setglobal HH (.pointer (some ⟨w.heap.size,0,none⟩)) (.pointer (some ⟨w.heap.size+1,0,none⟩)) (.pointer (some ⟨c,0,none⟩)) (.pointer (some ⟨w.heap.size+1+1,0,none⟩)) (fun X'=> ∃F',StepC [c] V3 F X' F' h3∧Row X' c 61 [.int .u32 o2]) (fun X hX=>(HFn.out X (HH.below hX) c (ra.below hX ra.lt) (rb.below hX rb.lt) (rc.below hX rc.lt) (rd.below hX rd.lt) hcw).mono fun e X' ⟨x,F',⟨y1,y2,y3⟩,y4⟩=>⟨x,F',⟨y1,⟨y2.p,y2.gr,y2.gw.imp id (fun e=>Nat.le_trans hX.size e),y2.gs.imp id (fun e=>Nat.le_trans hX.size e)⟩,(Only.of_below hX).trans y3 (fun q hq=> .inl hq)⟩,y4⟩));have HcF:=hid (show w.heap.size≤c from by omega);clear HH HFn ra rb rc rd ra2 hcw hV3 hb3 hz3 hc hzV;go_wp2_with fail;rw[←Hc.out,←HV3.out];refine(HQ.out).mono ?_;rintro e V4 ⟨rfl,F',hT,rc4⟩;(try dsimp only);have HM:=hid (hT.moved hB (by intro g hg;rw[List.mem_singleton]at hg;rw[hg];exact HcF.out));have c4:=rc4.cell_at 0;simp only[List.getElem?_cons_zero]at c4;clear hT rc4 HQ;go_wp2_with fail;go_ret2;exact⟨rfl,HM.out⟩
end
end Go.Proofs.YtbffpkmfhkphdaaGreatDoor
namespace Go.Proofs.YtbffpkmfhkphdaaGreatDoor
open Go Lib Go.RowKit Limb
section
variable {w:World} {F:Foot} {h:Hp}
def BootRow(w:World)(F:Foot)(pb:Nat):Prop:=Row w pb 138 [.pointer (some ⟨F.p,0,none⟩),.int .i64 0]
theorem BootRow.cells{pb:Nat}(r:BootRow w F pb):w.cell? ⟨pb,0,none⟩=some (.pointer (some ⟨F.p,0,none⟩))∧w.cell? ⟨pb,1,none⟩=some (.int .i64 0):=by
 have c0:=Row.cell_at r 0;have c1:=Row.cell_at r 1;exact⟨c0,c1⟩
theorem booter_alloc(H:HeapAt w F h){pb:Nat}(rb:BootRow w F pb)(hpb:pb∉F.l)(n o:Nat)(h':Hp)(hn:n≤65535)(hp:allocP h 0 1 n=some (o,h')):Calls Tryz.prog 109 #[.pointer (some ⟨pb,0,none⟩),.int .i64 n] w fun e w'=>e= .returned (.int .u32 o)∧Moved w F w' h':=by
 have HA:=hid (show Calls Tryz.prog 45 #[.pointer (some ⟨F.p,0,none⟩),.int .u32 0,.int .i64 1,.int .i64 n] w fun e w'=>e= .returned (.tuple #[.int .u32 o,.int .i64 0])∧Moved w F w' h' from heap_Alloc H 0 1 n o h' (by decide) (by decide) hn hp);obtain⟨c0,c1⟩:=rb.cells;have RB:=hid rb;have HPB:=hid hpb;clear H rb hpb hp;go_enter Tryz.func109,Tryz.ntmps109;go_wp2_with fail;refine(HA.out).mono ?_;rintro e V ⟨rfl,F',hS⟩;(try dsimp only);have rb:=hS.beside RB.out HPB.out;have c2:=Row.cell_at rb 1;have z2:=rb.free 1;have hself:=cell_self (i:=1) rb rfl;simp only[yB,yC]at c2;have HS:=hid (show Moved w F V h' from⟨F',hS⟩);clear hS rb RB HPB;go_wp2_with fail;go_ret;exact⟨rfl,HS.out⟩
theorem booter_class(H:HeapAt w F h){pb:Nat}(rb:BootRow w F pb)(i:Nat)(hi:i<64):Calls Tryz.prog 185 #[.pointer (some ⟨pb,0,none⟩),.int .i64 i] w fun e w'=>e= .returned (.int .u32 (wd h.rt i:Nat))∧w=w':=by
 have HR:=hid (kernel_root H i hi);obtain⟨c0,c1⟩:=rb.cells;clear H rb;go_enter Tryz.func185,Tryz.ntmps185;go_wp2_with fail;refine(HR.out).mono ?_;rintro e w1 ⟨rfl,rfl⟩;(try dsimp only);go_wp2_with fail;go_ret;exact⟨rfl,rfl⟩
theorem booter_intern(H:HeapAt w F h)(K:Limb.Ker h){pb:Nat}(rb:BootRow w F pb)(hpb:pb∉F.l)(S:ByteArray)(hS:S.size≤262140)(h0:0<S.size)(o:Nat)(h':Hp)(hp:internP h (tx S)=some (o,h')):Calls Tryz.prog 191 #[.pointer (some ⟨pb,0,none⟩),.string S] w fun e w'=>e= .returned (.int .u32 o)∧Moved w F w' h':=by
 have HA:=hid (kernel_intern H K S hS h0 o h' hp);obtain⟨c0,c1⟩:=rb.cells;have RB:=hid rb;have HPB:=hid hpb;clear H rb hpb hp;go_enter Tryz.func191,Tryz.ntmps191;go_wp2_with fail;refine(HA.out).mono ?_;rintro e V ⟨rfl,F',hS⟩;(try dsimp only);have rb:=hS.beside RB.out HPB.out;have c2:=Row.cell_at rb 1;have z2:=rb.free 1;have hself:=cell_self (i:=1) rb rfl;simp only[yB,yC]at c2;have HS:=hid (show Moved w F V h' from⟨F',hS⟩);clear hS rb RB HPB;go_wp2_with fail;go_ret;exact⟨rfl,HS.out⟩
theorem booter_of(H:HeapAt w F h){pb:Nat}(rb:BootRow w F pb)(hpb:pb∉F.l)(o i:Nat)(hi:i<64)(ho:isO h o=true)(hc:isO h (wd h.rt i)=true):Calls Tryz.prog 190 #[.pointer (some ⟨pb,0,none⟩),.int .u32 o,.int .i64 i] w fun e w'=>e= .returned (.tuple #[])∧Step w F w' F (setC h o (wd h.rt i)):=by
 have HR:=hid (fun V (hB:Below w.heap.size w V)=>(booter_class (H.below hB) (Row.below rb hB rb.lt) i hi).mono (R':=fun e w'=>e= .returned (.int .u32 (wd h.rt i:Nat))∧Below V.heap.size V w') fun e w' ⟨x,y⟩=>⟨x,by rw[←y];exact Below.refl _ _⟩);have HSc:=hid (fun V (hB:Below w.heap.size w V)=>(heap_setclass (H.below hB) o (wd h.rt i) (isO_lt H.good ho) (root_lt H.good i) ho (isO_cls hc)).mono fun e w' ⟨x,y⟩=>(⟨x,Step.of_below hB y⟩:_∧Step w F w' F (setC h o (wd h.rt i))));have hB:Below w.heap.size w w.drew:=(Below.refl _ _).drew;have hX:Row w.drew pb 138 [.pointer (some ⟨F.p,0,none⟩),.int .i64 0]:=rb;have HRB:=hid (show Row w pb 138 [.pointer (some ⟨F.p,0,none⟩),.int .i64 0]from rb);clear H rb ho hc;go_enter Tryz.func190,Tryz.ntmps190;go_wp2_with fail;refine wp_region_held (S:=fun Y=>Row Y pb 138 [.pointer (some ⟨F.p,0,none⟩),.int .i64 0]) (by kernel_rfl) ?_;refine tk 0 (.pointer (some ⟨pb,0,none⟩)) 6 hX ?_;simp only[Act.put,zA,zB,zC];refine tk 1 (.pointer (some ⟨pb,0,none⟩)) 7 hX ?_;simp only[Act.put,zA,zB,zC];refine tk 2 (.pointer (some ⟨pb,0,none⟩)) 8 hX ?_;simp only[Act.put,zA,zB,zC];refine tk 3 (.pointer (some ⟨F.p,0,none⟩)) 9 hX ?_ (y:=fun X hX=>by have c0:=hX.cell_at 0;simp only[List.getElem?_cons_zero]at c0;go_simp);simp only[Act.put,zA,zB,zC];refine tk 4 (.int .u32 o) 10 hX ?_;simp only[Act.put,zA,zB,zC];refine tk 5 (.pointer (some ⟨pb,0,none⟩)) 11 hX ?_;simp only[Act.put,zA,zB,zC];refine tk 6 (.int .i64 i) 12 hX ?_;simp only[Act.put,zA,zB,zC];refine wpAnyH_all (rs:=[7]) (by kernel_rfl) (by decide) (fun i hi=>?_);rw[List.mem_singleton]at hi;subst hi;unfold wpOp;go_simp;refine .inl ((HR.out _ hB).mono ?_);rintro e X1 ⟨rfl,hb⟩;replace hX:=hX.below hb hX.lt;replace hB:=hB.trans (hb.mono hB.size);clear hb;refine⟨hX,?_⟩;refine wpAnyH_all (rs:=[8]) (by kernel_rfl) (by decide) (fun i hi=>?_);rw[List.mem_singleton]at hi;subst hi;unfold wpOp;go_simp;refine .inl ((HSc.out _ hB).mono ?_);rintro e X2 ⟨rfl,hSt⟩;replace hX:=HRB.out.only hSt.2.2 hpb;refine⟨hX,?_⟩;refine wpAnyH_done (by kernel_rfl) ?_ _;have HSt:=hid hSt;clear hSt hB hX HR HSc HRB;go_wp2_with fail;go_returns;exact⟨rfl,HSt.out⟩
end
end Go.Proofs.YtbffpkmfhkphdaaGreatDoor

/- The walk of the document's intern. The walk of the document's Global, where there is none. The walks of package kernel: selectors, written, fixed. -/
import Derived.Test.YtbffpkmfhkphdaaGreatDoorGX36
import Derived.Test.YtbffpkmfhkphdaaGreatDoorGX37
set_option linter.unusedVariables false
set_option linter.unusedSimpArgs false
set_option maxRecDepth 1000000
set_option maxHeartbeats 6400000
namespace Go.Proofs.YtbffpkmfhkphdaaGreatDoor
open Go Lib Go.RowKit Limb
section
variable {w:World} {G:RFoot} {h:Hp}
theorem r4_intern(H:RefAt w G h)(h5w:5≤w.heap.size)(K:Limb.Ker h)(S:ByteArray)(hS:S.size≤262140)(h0:0<S.size)(o:Nat)(h':Hp)(hp:internP h (tx S)=some (o,h')):Calls Tryz.prog 116 #[.pointer (some ⟨G.p,0,none⟩),.string S] w fun e w'=>e= .returned (.tuple #[.int .u32 o,.int .i64 0])∧RMoved w G w' h':=by
 have HSy:=hid (r4_symbol H K S h0);unfold internP at hp;simp only at hp;by_cases hs:symP h (tx S)=0
 ·rw[if_pos hs]at hp;obtain⟨⟨o1,h1⟩,e1,e2⟩:=Option.bind_eq_some_iff.1 hp;obtain⟨h2,e3,e4⟩:=Option.map_eq_some_iff.1 e2;rw[Prod.mk.injEq]at e4;obtain⟨rfl,rfl⟩:=e4;obtain⟨g1,i1⟩:=grow_make H.good (tx_b8 S) (by rw[tx_length];exact hS) e1;have hsy:=HSy.out;rw[hs]at hsy;have HSy:=hid hsy;have hIs:=fun X (hb:Below w.heap.size w X)=>r4_is (H.below hb) (wd h.rt 3) 1 0 (root_lt H.good 3)
  rw[K.l3]at hIs;have HIs:=hid hIs;have HCl:=hid (fun X (hb:Below w.heap.size w X)=>r4_class (H.below hb) 18 (by decide));have HRt:=hid (fun X (hb:Below w.heap.size w X)=>(H.below hb).root (i:=3) (by decide));have HCv:=hid (fun V=>conv_bytes_out (P:=Tryz.prog) V 9 72 5 S Tryz.underlying9 Tryz.underlying72 Tryz.underlying5);have HMk:=hid (fun X g cap (hb:Below w.heap.size w X) (hl:Lay .u8 X (some ⟨g,0,none⟩) (tx S))=>show Calls Tryz.prog 144 #[.pointer (some ⟨G.p,0,none⟩),.int .u32 (wd h.rt 18:Nat),.slice (some ⟨g,0,none⟩) S.size cap] X fun e w'=>e= .returned (.tuple #[.int .u32 o1,.int .i64 0])∧RMoved w G w' h1 from(r_make (H.below hb) (Nat.le_trans h5w hb.size) (wd h.rt 18) _ (tx S) S.size cap o1 h1 hl (tx_b8 S) (tx_length S).symm hS e1).mono fun e w' ⟨x,G',y⟩=>⟨x,G',RStep.of_below hb y H.lt⟩)
  have HAd:=hid (fun X G1 (H1:RefAt X G1 h1) (hG:G1.p=G.p)=>show Calls Tryz.prog 203 #[.pointer (some ⟨G.p,0,none⟩),.int .i64 3,.int .u32 o1] X fun e w'=>e= .returned (.int .i64 0)∧RStep X G1 w' G1 h2 from by
   rw[←hG];exact r4_add H1 3 (by decide) o1 (isF_isO i1) h2 e3)
  clear hp e1 e2 e3 hsy hIs g1 i1 hs H;go_enter Tryz.func116,Tryz.ntmps116;go_wp2_with fail;refine(HSy.out).mono ?_;rintro e V1 ⟨rfl,hB⟩;(try dsimp only);obtain⟨c2,cr,ix⟩:=HRt.out _ hB;rw[show((3:Nat):Int)=3 from rfl]at ix;go_wp2_with fail;refine(HIs.out _ hB).mono ?_;rintro e V2 ⟨rfl,hb⟩;(try dsimp only);replace hB:=hB.trans (hb.mono hB.size);clear hb c2 cr ix;go_wp2_with fail;refine(HCl.out _ hB).mono ?_;rintro e V3 ⟨rfl,rfl⟩;(try dsimp only);obtain⟨cp,V4,hcv,hlc,hbc⟩:=HCv.out V2;obtain⟨gg,hgg⟩: ∃gg,gg=V2.heap.size:=⟨_,rfl⟩;rw[←hgg]at hcv hlc;have HB4:=hid (hB.trans (hbc.mono hB.size));have HMk1:=hid (HMk.out V4 gg cp HB4.out hlc);clear hgg hlc hbc hB HMk HCv HCl HIs HSy;go_wp2_with fail;refine(HMk1.out).mono ?_;rintro e V5 ⟨rfl,G1,hS1⟩;(try dsimp only);have HA1:=hid (HAd.out V5 G1 hS1.1 hS1.2.1.p);have HS1:=hid hS1;clear hS1 hcv HMk1;go_wp2_with fail;refine(HA1.out).mono ?_;rintro e V6 ⟨rfl,hS2⟩;(try dsimp only);have HM:=hid (show RMoved w G V6 h2 from⟨G1,HS1.out.trans hS2⟩);clear hS2;go_wp2_with fail;go_ret2;exact⟨rfl,HM.out⟩
 ·rw[if_neg hs,Option.some.injEq,Prod.mk.injEq]at hp;obtain⟨rfl,rfl⟩:=hp;have q:(((symP h (tx S):Nat):Int)==0)=false:=by rw[beq_eq_false_iff_ne];omega
  have q2:(((symP h (tx S):Nat))==0)=false:=(by rw[beq_eq_false_iff_ne];omega);have HSt:=hid (fun Y (hY:Below w.heap.size w Y)=>show RMoved w G Y h from⟨G,RStep.same H hY⟩);generalize symP h (tx S)=o at*
  clear hs H;go_enter Tryz.func116,Tryz.ntmps116;go_wp2_with fail;refine(HSy.out).mono ?_;rintro e V1 ⟨rfl,hB⟩;(try dsimp only);have HM:=hid (HSt.out _ hB);clear hB HSt;go_wp2_with fail;go_ret2;exact⟨rfl,HM.out⟩
end
end Go.Proofs.YtbffpkmfhkphdaaGreatDoor
namespace Go.Proofs.YtbffpkmfhkphdaaGreatDoor
open Go Lib Go.RowKit Limb
section
variable {w:World} {G:RFoot} {h:Hp}
theorem find_zero{p:Nat→Bool}{L:List Nat}(h0:p 0=false)(h:(L.find? p).getD 0=0): ∀j,j<L.length→p (wd L j)=false:=by
 intro j hj
 cases e:L.find? p with
 |none=>
  rw[List.find?_eq_none]at e;rw[wd_lt hj];simpa using e _ (List.getElem_mem hj)
 |some a=>
  rw[e]at h;have h:a=0:=h;have:=List.find?_some e;rw[h,h0]at this;cases this
theorem r4_global0(H:RefAt w G h)(K:Limb.Ker h)(S:ByteArray)(h0S:0<S.size)(hg:globP h (tx S)=0):Calls Tryz.prog 205 #[.pointer (some ⟨G.p,0,none⟩),.string S] w fun e w'=>e= .returned (.int .u32 0)∧Below w.heap.size w w':=by
 have hno:=find_zero (p:=isGlob h (tx S)) (L:=entries h 4) (by simp[isGlob,isF,isO]) hg
 have hle:(entries h 4).length≤65535:=by
  unfold entries;rw[if_pos K.l4];have h1:=ahead_le (wd h.rt 0) (flds h (wd h.rt 4));rw[flds_length H.good (isF_isO K.l4)]at h1;have:=(okO H.good (isF_isO K.l4)).size;omega
 have HL:=hid (r4_live H K);have HE:=hid (r4_entries H 4 (by decide) K.l4);have HIs:=hid (fun X (hb:Below w.heap.size w X) (o:Nat) (ho:o<4294967296)=>show Calls Tryz.prog 201 #[.pointer (some ⟨G.p,0,none⟩),.int .u32 o,.int .i64 1,.int .i64 2] X fun e w'=>e= .returned (.bool (isF h o 1 2))∧Below X.heap.size X w' from r4_is (H.below hb) o 1 2 ho);have HGt:=hid (fun X (hb:Below w.heap.size w X) (o:Nat) (hf:isF h o 1 (0+1)=true)=>show Calls Tryz.prog 272 #[.pointer (some ⟨G.p,0,none⟩),.int .u32 o,.int .i64 0] X fun e w'=>e= .returned (.int .u32 (fld h o 0:Nat))∧Below X.heap.size X w' from r4_get (H.below hb) (i:=0) hf);have HIb:=hid (fun X (hb:Below w.heap.size w X) o (ho:o<4294967296)=>r4_isbytes (H.below hb) o ho);have HLn:=hid (fun X (hb:Below w.heap.size w X) o (ho:isO h o=true)=>r_len (H.below hb) o ho);have HBo:=hid (fun X (hb:Below w.heap.size w X) o (ho:isO h o=true) (hf:(hdO h o).fmt=2) (hl:0<(hdO h o).len)=>r4_body (H.below hb) ho hf hl);have HLt:=hid (entries_lt H.good 4);have HFl:=hid (fun o=>show fld h o 0<4294967296 from H.good.lim.wd _);generalize entries h 4=L at*
 obtain⟨n,hn⟩: ∃n,n=L.length:=⟨_,rfl⟩;rw[←hn]at HE hno hle;have HNo:=hid hno;have HNl:=hid hn;clear hn H K hno hg;go_enter Tryz.func205,Tryz.ntmps205;go_wp2_with fail;refine(HL.out).mono ?_;rintro e V0 ⟨rfl,rfl⟩;(try dsimp only);go_wp2_with fail;refine(HE.out).mono ?_;rintro e V ⟨⟨v,rfl,hown⟩,hB⟩;(try dsimp only);rcases owns_split hown with⟨rfl,e⟩|⟨g,c,rfl,sl⟩
 ·subst e;clear hown;go_wp2_with fail;go_loopw[6] (fun i wr=>i= .int .i64 0∧Below w.heap.size w wr) (fun i _=>0);case atStart=>exact⟨rfl,hB⟩
  case round=>
   clear hB;obtain⟨rfl,hB⟩:=hrel;go_wp2_with fail;go_ret;exact⟨rfl,hB⟩
 ·clear hown;go_wp2_with fail;go_loopw[6] (fun i wr=> ∃k:Nat,k≤n∧i= .int .i64 k∧True∧Sl wr g 61 n c (nums .u32 L)∧Below w.heap.size w wr) (fun i _=>n-(intOf i).toNat);case atStart=>exact⟨0,Nat.zero_le _,rfl,trivial,sl,hB⟩
  case round=>
   clear sl hB;obtain⟨k,hk,rfl,-,sl,hB⟩:=hrel;by_cases h0:k<n
   ·have d1:decide ((k:Int)<(n:Int))=true:=decide_eq_true (by omega);have d2:decide (k<n)=true:=decide_eq_true h0;have ix:=fun W=>sl.index 71 Tryz.underlying71 size_oop W .i64 k h0
    have cx:=sl.cell h0;rw[nums_get (by rw[←HNl.out];exact h0)]at cx;have olt:=HLt.out k;have hno1:=HNo.out k h0;have HSl:=hid (fun X (hb:Below wr.heap.size wr X)=>sl.below hb);have HP2:True:=trivial;obtain⟨o,ho⟩: ∃o,o=wd L k:=⟨_,rfl⟩;rw[←ho]at cx olt hno1;have HOw:=hid ho.symm;clear ho;have HIo:=hid (HIs.out wr hB o olt);have hbw:=Below.refl wr.heap.size wr;by_cases hb2:isF h o 1 2=true
    ·have hib:=HIo.out;rw[hb2]at hib;have HIo:=hid hib;have HGo:=hid (fun X hb=>HGt.out X hb o (isF_le hb2 (by decide)));have hgl:isGlob h (tx S) o=readsO h (tx S) (fld h o 0):=by unfold isGlob;rw[hb2];rfl
     rw[hgl]at hno1;have flt:=HFl.out o;generalize fld h o 0=key at*
     have HIk:=hid (fun X hb=>HIb.out X hb key flt);by_cases hb3:isF h key 2 0=true
     ·have hio:=isF_isO hb3;have hfm:=(isF_iff.1 hb3).2.1;have hik:=HIk.out;rw[hb3]at hik;have HIk:=hid hik;have HLo:=hid (fun X hb=>HLn.out X hb key hio);have hrd:readsO h (tx S) key=(decide ((hdO h key).len=S.size)&&decide (bytO h key=tx S)):=by unfold readsO;rw[hb3,tx_length];rfl
      have HBb:=hid (fun X hb hl=>HBo.out X hb key hio hfm hl);by_cases hl:(hdO h key).len=S.size
      ·rw[hl]at HLo HBb hrd;rw[hno1,decide_eq_true rfl,Bool.true_and]at hrd;have hne0: ¬bytO h key=tx S:=fun e=>by rw[decide_eq_true e]at hrd;cases hrd
       have qs:((S.size:Int)==(S.size:Int))=true:=(by simp);generalize bytO h key=bs at*
       clear hb2 hib hgl hno1 hb3 hio hfm hik hrd hl sl;go_wp2_with fail;refine(HIo.out).mono ?_;rintro e V1 ⟨rfl,hb⟩;(try dsimp only);replace hB:=hB.trans (hb.mono hB.size);replace hbw:=hbw.trans (hb.mono hbw.size);have s1:=HSl.out _ hbw;have cx:=s1.cell h0;rw[nums_get (by rw[←HNl.out];exact h0),HOw.out]at cx;clear hb;go_wp2_with fail;refine(HGo.out _ hB).mono ?_;rintro e V2 ⟨rfl,hb⟩;(try dsimp only);replace hB:=hB.trans (hb.mono hB.size);replace hbw:=hbw.trans (hb.mono hbw.size);have s2:=HSl.out _ hbw;have cx:=s2.cell h0;rw[nums_get (by rw[←HNl.out];exact h0),HOw.out]at cx;clear hb;go_wp2_with fail;refine(HIk.out _ hB).mono ?_;rintro e V3 ⟨rfl,hb⟩;(try dsimp only);replace hB:=hB.trans (hb.mono hB.size);replace hbw:=hbw.trans (hb.mono hbw.size);have s3:=HSl.out _ hbw;have cx:=s3.cell h0;rw[nums_get (by rw[←HNl.out];exact h0),HOw.out]at cx;clear hb;go_wp2_with fail;refine(HGo.out _ hB).mono ?_;rintro e V4 ⟨rfl,hb⟩;(try dsimp only);replace hB:=hB.trans (hb.mono hB.size);replace hbw:=hbw.trans (hb.mono hbw.size);have s4:=HSl.out _ hbw;have cx:=s4.cell h0;rw[nums_get (by rw[←HNl.out];exact h0),HOw.out]at cx;clear hb;go_wp2_with fail;refine(HLo.out _ hB).mono ?_;rintro e V5 ⟨rfl,hb⟩;(try dsimp only);replace hB:=hB.trans (hb.mono hB.size);replace hbw:=hbw.trans (hb.mono hbw.size);have s5:=HSl.out _ hbw;have cx:=s5.cell h0;rw[nums_get (by rw[←HNl.out];exact h0),HOw.out]at cx;clear hb;go_wp2_with fail;refine(HGo.out _ hB).mono ?_;rintro e V6 ⟨rfl,hb⟩;(try dsimp only);replace hB:=hB.trans (hb.mono hB.size);replace hbw:=hbw.trans (hb.mono hbw.size);have s6:=HSl.out _ hbw;have cx:=s6.cell h0;rw[nums_get (by rw[←HNl.out];exact h0),HOw.out]at cx;clear hb;go_wp2_with fail;refine(HBb.out _ hB h0S).mono ?_;rintro e V7 ⟨⟨s,rfl,hs⟩,hb⟩;(try dsimp only);replace hB:=hB.trans (hb.mono hB.size);replace hbw:=hbw.trans (hb.mono hbw.size);have s7:=HSl.out _ hbw;have cx:=s7.cell h0;rw[nums_get (by rw[←HNl.out];exact h0),HOw.out]at cx;clear hb
       have hne:(s.toList==S.toList)=false:=by
        rw[beq_eq_false_iff_ne];intro e;rw[ByteArray.toList_eq,ByteArray.toList_eq]at e;exact hne0 (hs.symm.trans (by unfold tx;rw[e]))
       clear hs hne0;go_wp2_with fail;go_roundw;case rel=>exact⟨k+1,h0,by simp,HP2,s7,hB⟩
       case measure=>simp[intOf];omega
      ·have q1:(((hdO h key).len:Int)==(S.size:Int))=false:=(by rw[beq_eq_false_iff_ne];omega);have q2:((hdO h key).len==S.size)=false:=by rw[beq_eq_false_iff_ne];exact hl
       generalize(hdO h key).len=ln at*
       clear hb2 hib hgl hno1 hb3 hio hfm hik hrd hl sl HBb;go_wp2_with fail;refine(HIo.out).mono ?_;rintro e V1 ⟨rfl,hb⟩;(try dsimp only);replace hB:=hB.trans (hb.mono hB.size);replace hbw:=hbw.trans (hb.mono hbw.size);have s1:=HSl.out _ hbw;have cx:=s1.cell h0;rw[nums_get (by rw[←HNl.out];exact h0),HOw.out]at cx;clear hb;go_wp2_with fail;refine(HGo.out _ hB).mono ?_;rintro e V2 ⟨rfl,hb⟩;(try dsimp only);replace hB:=hB.trans (hb.mono hB.size);replace hbw:=hbw.trans (hb.mono hbw.size);have s2:=HSl.out _ hbw;have cx:=s2.cell h0;rw[nums_get (by rw[←HNl.out];exact h0),HOw.out]at cx;clear hb;go_wp2_with fail;refine(HIk.out _ hB).mono ?_;rintro e V3 ⟨rfl,hb⟩;(try dsimp only);replace hB:=hB.trans (hb.mono hB.size);replace hbw:=hbw.trans (hb.mono hbw.size);have s3:=HSl.out _ hbw;have cx:=s3.cell h0;rw[nums_get (by rw[←HNl.out];exact h0),HOw.out]at cx;clear hb;go_wp2_with fail;refine(HGo.out _ hB).mono ?_;rintro e V4 ⟨rfl,hb⟩;(try dsimp only);replace hB:=hB.trans (hb.mono hB.size);replace hbw:=hbw.trans (hb.mono hbw.size);have s4:=HSl.out _ hbw;have cx:=s4.cell h0;rw[nums_get (by rw[←HNl.out];exact h0),HOw.out]at cx;clear hb;go_wp2_with fail;refine(HLo.out _ hB).mono ?_;rintro e V5 ⟨rfl,hb⟩;(try dsimp only);replace hB:=hB.trans (hb.mono hB.size);replace hbw:=hbw.trans (hb.mono hbw.size);have s5:=HSl.out _ hbw;have cx:=s5.cell h0;rw[nums_get (by rw[←HNl.out];exact h0),HOw.out]at cx;clear hb;go_wp2_with fail;go_roundw;case rel=>exact⟨k+1,h0,by simp,HP2,s5,hB⟩
       case measure=>simp[intOf];omega
     ·rw[Bool.not_eq_true]at hb3;have hik:=HIk.out;rw[hb3]at hik;have HIk:=hid hik;clear hb2 hib hgl hno1 hb3 hik sl;go_wp2_with fail;refine(HIo.out).mono ?_;rintro e V1 ⟨rfl,hb⟩;(try dsimp only);replace hB:=hB.trans (hb.mono hB.size);replace hbw:=hbw.trans (hb.mono hbw.size);have s1:=HSl.out _ hbw;have cx:=s1.cell h0;rw[nums_get (by rw[←HNl.out];exact h0),HOw.out]at cx;clear hb;go_wp2_with fail;refine(HGo.out _ hB).mono ?_;rintro e V2 ⟨rfl,hb⟩;(try dsimp only);replace hB:=hB.trans (hb.mono hB.size);replace hbw:=hbw.trans (hb.mono hbw.size);have s2:=HSl.out _ hbw;have cx:=s2.cell h0;rw[nums_get (by rw[←HNl.out];exact h0),HOw.out]at cx;clear hb;go_wp2_with fail;refine(HIk.out _ hB).mono ?_;rintro e V3 ⟨rfl,hb⟩;(try dsimp only);replace hB:=hB.trans (hb.mono hB.size);replace hbw:=hbw.trans (hb.mono hbw.size);have s3:=HSl.out _ hbw;have cx:=s3.cell h0;rw[nums_get (by rw[←HNl.out];exact h0),HOw.out]at cx;clear hb;go_wp2_with fail;go_roundw;case rel=>exact⟨k+1,h0,by simp,HP2,s3,hB⟩
      case measure=>simp[intOf];omega
    ·rw[Bool.not_eq_true]at hb2;have hib:=HIo.out;rw[hb2]at hib;have HIo:=hid hib;clear hb2 hib hno1 sl;go_wp2_with fail;refine(HIo.out).mono ?_;rintro e V1 ⟨rfl,hb⟩;(try dsimp only);replace hB:=hB.trans (hb.mono hB.size);replace hbw:=hbw.trans (hb.mono hbw.size);have s1:=HSl.out _ hbw;have cx:=s1.cell h0;rw[nums_get (by rw[←HNl.out];exact h0),HOw.out]at cx;clear hb;go_wp2_with fail;go_roundw;case rel=>exact⟨k+1,h0,by simp,HP2,s1,hB⟩
     case measure=>simp[intOf];omega
   ·obtain rfl:k=n:=by omega
    have d1:decide ((k:Int)<(k:Int))=false:=decide_eq_false (by omega);have d2:decide (k<k)=false:=decide_eq_false (by omega);go_wp2_with fail;go_ret;exact⟨rfl,hB⟩
end
end Go.Proofs.YtbffpkmfhkphdaaGreatDoor
namespace Go.Proofs.YtbffpkmfhkphdaaGreatDoor
open Go Lib Go.RowKit Limb
theorem size_plan(W:World):(sizeOf 232).run Tryz.prog W= .ok 5 W:=by kernel_rfl
theorem size_str(W:World):(sizeOf 9).run Tryz.prog W= .ok 1 W:=by kernel_rfl
theorem index_by{P:Program}(m:Nat)(hm:0<m)(t e:TypeId)(ht:P.underlying t=some (.slice e))(hs: ∀W,(sizeOf e).run P W= .ok m W)(g n c:Nat)(W:World)(k:IntKind)(i:Nat)(hi:i<n):(Instr.indexAt t (.slice (some ⟨g,0,none⟩) n c) (.int k i)).run P W= .ok (.pointer (some ⟨g,m*i,none⟩)) W:=by
 have h1:(0:Int)≤(i:Int):=by omega
 have h2:(i:Int)<(n:Int):=by omega
 simp[Instr.indexAt,run_underlying ht,asIntOf,h1,h2,hs,Result.andThen,Addr.add];rw[if_pos hi];by_cases h0:i=0
 ·subst h0;simp
 ·simp[h0,Nat.ne_of_gt hm,Nat.mul_comm];exact fun e=>e.symm
theorem flatP_get: ∀(ps:List Plan) (vs:List Value) (i k:Nat),i<ps.length→ps.length=vs.length→k<5→(flatP ps vs)[5*i+k]? =(planCells (ps.getD i ⟨[],0,0,false,[]⟩) (vs.getD i undef))[k]?
 |[],_,_,_,h,_,_=>by simp at h
 |p :: t,[],_,_,_,h,_=>by simp at h
 |p :: t,v :: s,0,k,_,_,hk=>by
  show(planCells p v++flatP t s)[5*0+k]? =(planCells p v)[k]?
  rw[Nat.mul_zero,Nat.zero_add,List.getElem?_append_left (by exact hk)]
 |p :: t,v :: s,i+1,k,h1,h2,hk=>by
  show(planCells p v++flatP t s)[5*(i+1)+k]? =_
  rw[List.getElem?_append_right (by show 5≤_;omega)];show(flatP t s)[5*(i+1)+k-5]? =(planCells (t.getD i _) (s.getD i undef))[k]?
  rw[show 5*(i+1)+k-5=5*i+k by omega];exact flatP_get t s i k (by simpa using h1) (by simpa using h2) hk
section
variable {w:World} {g:Nat} {vs:List Value}
theorem PlansAt.cells(h:PlansAt w g vs){i:Nat}(hi:i<22):w.cell? ⟨g,5*i,none⟩=some (sv (plans.getD i ⟨[],0,0,false,[]⟩).name)∧w.cell? ⟨g,5*i+1,none⟩=some (.int .i64 (supV (plans.getD i ⟨[],0,0,false,[]⟩).sup))∧w.cell? ⟨g,5*i+2,none⟩=some (.int .i64 (plans.getD i ⟨[],0,0,false,[]⟩).fmt)∧w.cell? ⟨g,5*i+3,none⟩=some (.bool (plans.getD i ⟨[],0,0,false,[]⟩).idx)∧w.cell? ⟨g,5*i+4,none⟩=some (vs.getD i undef):=by
 have key: ∀k,k<5→w.cell? ⟨g,5*i+k,none⟩=(planCells (plans.getD i ⟨[],0,0,false,[]⟩) (vs.getD i undef))[k]? :=fun k hk=>by
  rw[h.2.1.cell_at,flatP_get plans vs i k (by exact hi) h.1.symm hk]
 exact⟨key 0 (by decide),key 1 (by decide),key 2 (by decide),key 3 (by decide),key 4 (by decide)⟩
theorem FieldsAt.slice{v:Value}{fs:List (List Nat)}(h:FieldsAt w v fs): ∃a,v= .slice a fs.length fs.length:=by
 rcases h with⟨rfl,rfl⟩|⟨_,g,rfl,_⟩
 ·exact⟨none,rfl⟩
 ·exact⟨_,rfl⟩
def deep:Nat→Nat→Bool
 |0,_=>false
 |k+1,r=>decide (10≤r)&&decide (r<32)&&(decide ((plans.getD (r-10) ⟨[],0,0,false,[]⟩).sup=0)||deep k (plans.getD (r-10) ⟨[],0,0,false,[]⟩).sup)
theorem deep_all: ∀i,i<22→deep 6 (10+i)=true:=by decide
theorem fixedN_zero(k:Nat):fixedN k 0=0:=by cases k<;>rfl
theorem plans_get{i:Nat}(hi:i<22):plans[i]? =some (plans.getD i ⟨[],0,0,false,[]⟩):=by
 have:i<plans.length:=hi;simp[List.getD_eq_getElem?_getD,this]
theorem fixedN_le: ∀k r,fixedN k r≤7*k
 |0,_=>Nat.le_refl _
 |k+1,r=>by
  unfold fixedN;split
  ·omega
  ·split
   ·omega
   ·rename_i p hp;have h1:=fixedN_le k p.sup
    have h2:p.fields.length≤7:=by
     have h3:p∈plans:=List.mem_of_getElem? hp;have h4: ∀q∈plans,q.fields.length≤7:=by decide
     exact h4 p h3
    omega
theorem kernel_fixed(h:PlansAt w g vs): ∀(k i:Nat),k≤10→i<22→deep k (10+i)=true→Calls Tryz.prog 187 #[.slice (some ⟨g,0,none⟩) 22 22,.int .i64 i] w fun e w'=>e= .returned (.int .i64 (fixedN k (10+i)))∧w=w'
 |0,i,_,_,hd=>by cases hd
 |k+1,i,hk10,hi,hd=>by
  obtain⟨c0,c1,c2,c3,c4⟩:=h.cells hi;obtain⟨a,hv⟩:=(h.2.2 i hi).slice;rw[hv]at c4;have hle:=fixedN_le (k+1) (10+i)
  have hfx:fixedN (k+1) (10+i)=(plans.getD i ⟨[],0,0,false,[]⟩).fields.length+fixedN k (plans.getD i ⟨[],0,0,false,[]⟩).sup:=by
   show(if 10+i=0 then 0 else match plans[10+i-10]? with |none=>0|some p=>p.fields.length+fixedN k p.sup)=_
   rw[if_neg (by omega),show 10+i-10=i by omega,plans_get hi]
  unfold deep at hd;simp only[Bool.and_eq_true,Bool.or_eq_true,decide_eq_true_eq]at hd;rw[show 10+i-10=i by omega]at hd;have ix:=fun W=>index_by (P:=Tryz.prog) 5 (by decide) 229 232 Tryz.underlying229 size_plan g 22 22 W .i64 i hi
  generalize plans.getD i ⟨[],0,0,false,[]⟩=p at*
  have hd2:=hd.2;rw[hfx];by_cases h0:p.sup=0
  ·have es:supV p.sup= -1:=(by unfold supV;rw[if_pos h0]);rw[h0,fixedN_zero,Nat.add_zero];rw[es]at c1;clear hv hfx hd hd2 h0 es h hle;generalize p.fields.length=m at*
   go_enter Tryz.func187,Tryz.ntmps187;go_wp2_with fail;go_ret;exact⟨rfl,rfl⟩
  ·have es:supV p.sup=p.sup:=(by unfold supV;rw[if_neg h0]);rw[es]at c1;have hd3:deep k p.sup=true:=by rcases hd2 with e|e;exact absurd e h0;exact e
   have hb:10≤p.sup∧p.sup<32:=by
    cases k with
    |zero=>cases hd3
    |succ k=>
     unfold deep at hd3;simp only[Bool.and_eq_true,decide_eq_true_eq]at hd3;exact hd3.1
   obtain⟨j,hj⟩: ∃j,p.sup=10+j:=⟨p.sup-10,by omega⟩;rw[hj]at c1 hd3 ⊢;have IH:=hid (kernel_fixed h k j (by omega) (by omega) hd3);have d1:decide ((0:Int)≤((10+j:Nat):Int))=true:=decide_eq_true (by omega);have ej:(((10+j:Nat):Int)-10)=(j:Int):=by omega
   have hm2:p.fields.length+fixedN k (10+j)≤7*(k+1):=(by rw[←hj,←hfx];exact hle);generalize fixedN k (10+j)=fk at*
   generalize p.fields.length=m at*
   have jlt:j<22:=(by omega);replace hm2:m+fk≤77:=by omega
   clear hv hfx hd hd2 h0 es h hle hd3 hj hb;go_enter Tryz.func187,Tryz.ntmps187;go_wp2_with fail;rw[show((10:Int)+(j:Int)-10)=(j:Int)from by omega];refine(IH.out).mono ?_;rintro e W1 ⟨rfl,rfl⟩;(try dsimp only);go_wp2_with fail;go_ret;exact⟨rfl,rfl⟩
theorem kernel_written(w:World)(f fx:Nat)(b:Bool)(h1:f≤1000)(h2:fx≤1000):Calls Tryz.prog 186 #[.agg #[.int .i64 f,.int .i64 fx,.bool b]] w fun e w'=>e= .returned (.int .i64 (writtenN f fx b))∧Below w.heap.size w w':=by
 have hE:=(Below.refl w.heap.size w).alloc (Nat.le_refl _) (.cells #[.int .i64 f,.int .i64 fx,.bool b] 236);have HE:=hid hE;clear hE;cases b with
 |false=>
  have e1:(writtenN f fx false)=f+8*fx:=rfl;rw[e1];go_enter Tryz.func186,Tryz.ntmps186;go_wp2_with fail;go_ret;exact⟨rfl,HE.out⟩
 |true=>
  have e1:(writtenN f fx true)=f+8*fx+65536:=rfl;rw[e1];go_enter Tryz.func186,Tryz.ntmps186;go_wp2_with fail;go_ret;exact⟨rfl,HE.out⟩
end
end Go.Proofs.YtbffpkmfhkphdaaGreatDoor

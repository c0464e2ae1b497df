/- The walks of package kernel: isGlobal, Symbol, Global. The walks of package kernel: used, put. The walks of the document's layer 4: Body, Entries. The walk of package kernel's put. -/
import Derived.Test.YtbffpkmfhkphdaaGreatDoorGX32
import Derived.Test.YtbffpkmfhkphdaaGreatDoorGX00
import Derived.Test.YtbffpkmfhkphdaaGreatDoorGX18
set_option linter.unusedVariables false
set_option linter.unusedSimpArgs false
set_option maxRecDepth 1000000
set_option maxHeartbeats 6400000
namespace Go.Proofs.YtbffpkmfhkphdaaGreatDoor
open Go Lib Go.RowKit Limb
section
variable {w:World} {F:Foot} {h:Hp}
theorem getF_fld{o i n:Nat}(hp:isF h o 1 n=true)(hi:i<n):getF h o i=fld h o i:=by
 unfold getF;rw[if_pos];unfold isF at hp ⊢;simp only[Bool.and_eq_true,decide_eq_true_eq]at hp ⊢;exact⟨hp.1,by omega⟩
theorem kernel_isGlobal(H:HeapAt w F h)(o:Nat)(ho:o<4294967296)(S:ByteArray)(hS:S.size≤262140):Calls Tryz.prog 295 #[.pointer (some ⟨F.p,0,none⟩),.int .u32 o,.string S] w fun e w'=>e= .returned (.bool (isGlob h (tx S) o))∧Below w.heap.size w w':=by
 have HP:=hid (kernel_pointers H o 2 ho);obtain⟨r,hr⟩: ∃b,b=isGlob h (tx S) o:=⟨_,rfl⟩;have hr2:=hr;unfold isGlob at hr2;rw[←hr];have HR:=hid hr2;clear hr hr2
 cases hp:isF h o 1 2 with
 |false=>
  have hP:=HP.out;rw[hp]at hP;have HP:=hid hP;obtain rfl:r=false:=by rw[HR.out,hp];rfl
  clear hP hp H HR;go_enter Tryz.func295,Tryz.ntmps295;go_wp2_with fail;refine(HP.out).mono ?_;rintro e V ⟨rfl,hB⟩;(try dsimp only);go_wp2_with fail;go_ret;exact⟨rfl,hB⟩
 |true=>
  have hP:=HP.out;rw[hp]at hP;have HP:=hid hP;have hf:=fun X (hb:Below w.heap.size w X)=>kernel_field (H.below hb) o 0 ho (by decide)
  rw[getF_fld hp (by decide)]at hf;have HF:=hid hf;have hv:=fld_lt32 H.good o 0;have HRd:=hid (fun X (hb:Below w.heap.size w X)=>kernel_reads (H.below hb) (fld h o 0) hv S hS);have hrr:=HR.out;rw[hp,Bool.true_and]at hrr;have HRR:=hid hrr;generalize fld h o 0=v at*
  obtain⟨b,hb0⟩: ∃b,b=readsO h (tx S) v:=⟨_,rfl⟩;have hrd:=HRd.out;rw[←hb0]at hrd;have HRd:=hid hrd;obtain rfl:r=b:=by rw[HRR.out,hb0]
  clear hP hp H HR HRR hrr hf hrd hb0;go_enter Tryz.func295,Tryz.ntmps295;go_wp2_with fail;refine(HP.out).mono ?_;rintro e V ⟨rfl,hB⟩;(try dsimp only);go_wp2_with fail;refine(HF.out V hB).mono ?_;rintro e V1 ⟨rfl,hb⟩;(try dsimp only);replace hB:=hB.trans (hb.mono hB.size);clear hb;go_wp2_with fail;refine(HRd.out _ hB).mono ?_;rintro e V2 ⟨rfl,hb⟩;(try dsimp only);replace hB:=hB.trans (hb.mono hB.size);clear hb;go_wp2_with fail;go_ret;exact⟨rfl,hB⟩
theorem kernel_symbol_fn(S:ByteArray)(hS:S.size≤262140)(a b:Nat)(X:World)(HX:HeapAt X F h)(ra:Row X a 62 [.pointer (some ⟨F.p,0,none⟩)])(rb:Row X b 9 [.string S])(o:Nat)(ho:o<4294967296):Calls Tryz.prog 311 #[.int .u32 (o:Nat),.pointer (some ⟨a,0,none⟩),.pointer (some ⟨b,0,none⟩)] X fun e X'=>e= .returned (.bool (readsO h (tx S) o))∧Below X.heap.size X X':=by
 have HI:=hid (kernel_reads HX o ho S hS);have c0:=ra.cell_at 0;have c1:=rb.cell_at 0;simp only[List.getElem?_cons_zero]at c0 c1;generalize readsO h (tx S) o=v at*
 clear HX ra rb;go_enter Tryz.func311,Tryz.ntmps311;go_wp2_with fail;refine(HI.out).mono ?_;rintro e V ⟨rfl,hB⟩;(try dsimp only);go_wp2_with fail;go_ret;exact⟨rfl,hB⟩
theorem kernel_symbol(H:HeapAt w F h)(hL:Live h)(S:ByteArray)(hS:S.size≤262140):Calls Tryz.prog 291 #[.pointer (some ⟨F.p,0,none⟩),.string S] w fun e w'=>e= .returned (.int .u32 (symP h (tx S):Nat))∧Below w.heap.size w w':=by
 obtain⟨W,hW,ra,hb1,hz1⟩:=alloc_row w 62 [.pointer (some ⟨F.p,0,none⟩)];obtain⟨V,hV,rb,hb2,hz2⟩:=alloc_row W 9 [.string S];rw[hz1]at rb;have hB:Below w.heap.size w V:=hb1.trans (hb2.mono (by omega));replace ra:=ra.below hb2 ra.lt;have HV:=hid (show V=(w.alloc (.cells #[.pointer (some ⟨F.p,0,none⟩)] 62)).alloc (.cells #[.string S] 9) by rw[hV,hW]);have HH:=H.below hB;have hl:=root_lt H.good 3;have HR:=hid (kernel_root HH 3 (by decide));have HFo:=hid (found_symbol HH (wd h.rt 3) hl (readsO h (tx S)) (.pointer (some ⟨w.heap.size,0,none⟩)) (.pointer (some ⟨w.heap.size+1,0,none⟩)) (fun X hx o ho=>kernel_symbol_fn S hS _ _ X (HH.below hx) (ra.below hx ra.lt) (rb.below hx rb.lt) o ho));have HBa:=hid (fun X (hb:Below w.heap.size w X)=>kernel_bare (H.below hb) hL);have HFi:=hid (fun X (hb:Below w.heap.size w X) k (hk:k≤65535)=>kernel_field (H.below hb) (wd h.rt 3) k hl hk);have HN:=hid (show isF h (wd h.rt 3) 1 0=false→symP h (tx S)=0 from fun e=>by unfold symP entries;rw[if_neg (by rw[e];decide)];rfl);have HN1:=hid (show isF h (wd h.rt 3) 1 0=true→(Limb.ahead (wd h.rt 0) (flds h (wd h.rt 3))).find? (readsO h (tx S))=none→symP h (tx S)=0 from fun e e2=>by unfold symP entries;rw[if_pos e,e2];rfl)
 have HS1:=hid (fun k (hk:k<(hdO h (wd h.rt 3)).size) (e:isF h (wd h.rt 3) 1 0=true) (e2:(Limb.ahead (wd h.rt 0) (flds h (wd h.rt 3))).find? (readsO h (tx S))=some (fld h (wd h.rt 3) k))=>show symP h (tx S)=getF h (wd h.rt 3) k∧k≤65535 from by
  have hs:(hdO h (wd h.rt 3)).size≤65535:=by
   unfold isF at e;simp only[Bool.and_eq_true]at e;exact(H.good.ok _ (isO_iff.1 e.1.1).2.2).1.size
  refine⟨?_,by omega⟩;unfold symP entries;rw[if_pos e,e2]
  have:isF h (wd h.rt 3) 1 (k+1)=true:=by
   unfold isF at e ⊢;simp only[Bool.and_eq_true,decide_eq_true_eq]at e ⊢;exact⟨e.1,by omega⟩
  rw[getF_fld this (by omega)];rfl)
 have HPl:=hid (show symP h (tx S)=symP h (tx S)from rfl);generalize hpl:symP h (tx S)=pl at*
 have Hpl:=hid hpl;generalize hroot:wd h.rt 3=l at*
 have c0:=ra.cell_at 0;simp only[List.getElem?_cons_zero]at c0;clear hW hV hz1 hz2 hb1 hb2 HPl hpl hroot hL H;go_enter Tryz.func291,Tryz.ntmps291;go_wp2_with fail;rw[←HV.out];go_wp2_with fail;refine(HR.out).mono ?_;rintro e V1 ⟨rfl,rfl⟩;(try dsimp only);go_wp2_with fail;refine(HFo.out).mono ?_;rintro e V2 ⟨⟨z,rfl,hz⟩,hb⟩;(try dsimp only);replace ra:=ra.below hb ra.lt;replace hB:=hB.trans (hb.mono hB.size);clear hb c0 rb;have c0:=ra.cell_at 0;simp only[List.getElem?_cons_zero]at c0;rcases hz with⟨rfl,hz⟩|⟨k,rfl,hz1,hz2,hz3⟩
 ·obtain rfl:pl=0:=by
   cases e:isF h l 1 0 with
   |false=>exact HN.out e
   |true=>exact HN1.out e (hz e)
  clear hz HN HN1 HS1 Hpl HFo HR;go_wp2_with fail;go_ret;exact⟨rfl,hB⟩
 ·obtain⟨e1,e2⟩:=HS1.out k hz2 hz1 hz3;have d1:decide ((k:Int)<0)=false:=decide_eq_false (by omega);have hfi:=fun X hb=>HFi.out X hb k e2
  rw[←e1]at hfi;have HFi1:=hid hfi;clear hz1 hz2 hz3 HN HN1 HS1 Hpl HFo HR hfi e1;go_wp2_with fail;refine(HBa.out _ hB).mono ?_;rintro e V3 ⟨rfl,hb⟩;(try dsimp only);replace ra:=ra.below hb ra.lt;replace hB:=hB.trans (hb.mono hB.size);clear hb c0;have c0:=ra.cell_at 0;simp only[List.getElem?_cons_zero]at c0;go_wp2_with fail;refine(HFi1.out _ hB).mono ?_;rintro e V4 ⟨rfl,hb⟩;(try dsimp only);replace hB:=hB.trans (hb.mono hB.size);clear hb;go_wp2_with fail;go_ret;exact⟨rfl,hB⟩
theorem kernel_global_fn(S:ByteArray)(hS:S.size≤262140)(a b:Nat)(X:World)(HX:HeapAt X F h)(ra:Row X a 62 [.pointer (some ⟨F.p,0,none⟩)])(rb:Row X b 9 [.string S])(o:Nat)(ho:o<4294967296):Calls Tryz.prog 294 #[.int .u32 (o:Nat),.pointer (some ⟨a,0,none⟩),.pointer (some ⟨b,0,none⟩)] X fun e X'=>e= .returned (.bool (isGlob h (tx S) o))∧Below X.heap.size X X':=by
 have HI:=hid (kernel_isGlobal HX o ho S hS);have c0:=ra.cell_at 0;have c1:=rb.cell_at 0;simp only[List.getElem?_cons_zero]at c0 c1;generalize isGlob h (tx S) o=v at*
 clear HX ra rb;go_enter Tryz.func294,Tryz.ntmps294;go_wp2_with fail;refine(HI.out).mono ?_;rintro e V ⟨rfl,hB⟩;(try dsimp only);go_wp2_with fail;go_ret;exact⟨rfl,hB⟩
theorem kernel_global(H:HeapAt w F h)(hL:Live h)(S:ByteArray)(hS:S.size≤262140):Calls Tryz.prog 261 #[.pointer (some ⟨F.p,0,none⟩),.string S] w fun e w'=>e= .returned (.int .u32 (globP h (tx S):Nat))∧Below w.heap.size w w':=by
 obtain⟨W,hW,ra,hb1,hz1⟩:=alloc_row w 62 [.pointer (some ⟨F.p,0,none⟩)];obtain⟨V,hV,rb,hb2,hz2⟩:=alloc_row W 9 [.string S];rw[hz1]at rb;have hB:Below w.heap.size w V:=hb1.trans (hb2.mono (by omega));replace ra:=ra.below hb2 ra.lt;have HV:=hid (show V=(w.alloc (.cells #[.pointer (some ⟨F.p,0,none⟩)] 62)).alloc (.cells #[.string S] 9) by rw[hV,hW]);have HH:=H.below hB;have hl:=root_lt H.good 4;have HR:=hid (kernel_root HH 4 (by decide));have HFo:=hid (found_global HH (wd h.rt 4) hl (isGlob h (tx S)) (.pointer (some ⟨w.heap.size,0,none⟩)) (.pointer (some ⟨w.heap.size+1,0,none⟩)) (fun X hx o ho=>kernel_global_fn S hS _ _ X (HH.below hx) (ra.below hx ra.lt) (rb.below hx rb.lt) o ho));have HBa:=hid (fun X (hb:Below w.heap.size w X)=>kernel_bare (H.below hb) hL);have HFi:=hid (fun X (hb:Below w.heap.size w X) k (hk:k≤65535)=>kernel_field (H.below hb) (wd h.rt 4) k hl hk);have HN:=hid (show isF h (wd h.rt 4) 1 0=false→globP h (tx S)=0 from fun e=>by unfold globP entries;rw[if_neg (by rw[e];decide)];rfl);have HN1:=hid (show isF h (wd h.rt 4) 1 0=true→(Limb.ahead (wd h.rt 0) (flds h (wd h.rt 4))).find? (isGlob h (tx S))=none→globP h (tx S)=0 from fun e e2=>by unfold globP entries;rw[if_pos e,e2];rfl)
 have HS1:=hid (fun k (hk:k<(hdO h (wd h.rt 4)).size) (e:isF h (wd h.rt 4) 1 0=true) (e2:(Limb.ahead (wd h.rt 0) (flds h (wd h.rt 4))).find? (isGlob h (tx S))=some (fld h (wd h.rt 4) k))=>show globP h (tx S)=getF h (wd h.rt 4) k∧k≤65535 from by
  have hs:(hdO h (wd h.rt 4)).size≤65535:=by
   unfold isF at e;simp only[Bool.and_eq_true]at e;exact(H.good.ok _ (isO_iff.1 e.1.1).2.2).1.size
  refine⟨?_,by omega⟩;unfold globP entries;rw[if_pos e,e2]
  have:isF h (wd h.rt 4) 1 (k+1)=true:=by
   unfold isF at e ⊢;simp only[Bool.and_eq_true,decide_eq_true_eq]at e ⊢;exact⟨e.1,by omega⟩
  rw[getF_fld this (by omega)];rfl)
 have HPl:=hid (show globP h (tx S)=globP h (tx S)from rfl);generalize hpl:globP h (tx S)=pl at*
 have Hpl:=hid hpl;generalize hroot:wd h.rt 4=l at*
 have c0:=ra.cell_at 0;simp only[List.getElem?_cons_zero]at c0;clear hW hV hz1 hz2 hb1 hb2 HPl hpl hroot hL H;go_enter Tryz.func261,Tryz.ntmps261;go_wp2_with fail;rw[←HV.out];go_wp2_with fail;refine(HR.out).mono ?_;rintro e V1 ⟨rfl,rfl⟩;(try dsimp only);go_wp2_with fail;refine(HFo.out).mono ?_;rintro e V2 ⟨⟨z,rfl,hz⟩,hb⟩;(try dsimp only);replace ra:=ra.below hb ra.lt;replace hB:=hB.trans (hb.mono hB.size);clear hb c0 rb;have c0:=ra.cell_at 0;simp only[List.getElem?_cons_zero]at c0;rcases hz with⟨rfl,hz⟩|⟨k,rfl,hz1,hz2,hz3⟩
 ·obtain rfl:pl=0:=by
   cases e:isF h l 1 0 with
   |false=>exact HN.out e
   |true=>exact HN1.out e (hz e)
  clear hz HN HN1 HS1 Hpl HFo HR;go_wp2_with fail;go_ret;exact⟨rfl,hB⟩
 ·obtain⟨e1,e2⟩:=HS1.out k hz2 hz1 hz3;have d1:decide ((k:Int)<0)=false:=decide_eq_false (by omega);have hfi:=fun X hb=>HFi.out X hb k e2
  rw[←e1]at hfi;have HFi1:=hid hfi;clear hz1 hz2 hz3 HN HN1 HS1 Hpl HFo HR hfi e1;go_wp2_with fail;refine(HBa.out _ hB).mono ?_;rintro e V3 ⟨rfl,hb⟩;(try dsimp only);replace ra:=ra.below hb ra.lt;replace hB:=hB.trans (hb.mono hB.size);clear hb c0;have c0:=ra.cell_at 0;simp only[List.getElem?_cons_zero]at c0;go_wp2_with fail;refine(HFi1.out _ hB).mono ?_;rintro e V4 ⟨rfl,hb⟩;(try dsimp only);replace hB:=hB.trans (hb.mono hB.size);clear hb;go_wp2_with fail;go_ret;exact⟨rfl,hB⟩
end
end Go.Proofs.YtbffpkmfhkphdaaGreatDoor
namespace Go.Proofs.YtbffpkmfhkphdaaGreatDoor
open Go Lib Go.RowKit Limb
theorem ahead_len(z:Nat): ∀(fl:List Nat) (k:Nat),(∀j,j<k→wd fl j≠z)→k≤fl.length→(Limb.ahead z fl).length=k+(Limb.ahead z (fl.drop k)).length
 |fl,0,_,_=>by simp
 |[],k+1,_,h=>by simp at h
 |a :: t,k+1,h,hk=>by
  have h1:a≠z:=h 0 (by omega);show(if a=z then[]else a :: Limb.ahead z t).length=k+1+(Limb.ahead z (t.drop k)).length
  rw[if_neg h1,List.length_cons,ahead_len z t k (fun j hj=>h (j+1) (by omega)) (by simpa using hk)];omega
theorem ahead_le(z:Nat)(fl:List Nat):(Limb.ahead z fl).length≤fl.length:=by
 induction fl with
 |nil=>simp[Limb.ahead]
 |cons a t ih=>
  show(if a=z then[]else a :: Limb.ahead z t).length≤_
  split
  ·simp
  ·simp only[List.length_cons];omega
section
variable {w:World} {F:Foot} {h:Hp}
theorem kernel_used(H:HeapAt w F h)(l:Nat)(hl:l<4294967296)(hp:isF h l 1 0=true):Calls Tryz.prog 299 #[.pointer (some ⟨F.p,0,none⟩),.int .u32 l] w fun e w'=>e= .returned (.int .i64 (Limb.ahead (wd h.rt 0) (flds h l)).length)∧Below w.heap.size w w':=by
 have hi:isO h l=true:=by unfold isF at hp;simp only[Bool.and_eq_true]at hp;exact hp.1.1
 have hX:hdX h l=hdO h l:=by unfold hdX;rw[if_pos hi]
 have HR:=hid (kernel_root H 0 (by decide));have hS:=fun X (hb:Below w.heap.size w X)=>kernel_size (H.below hb) l hl
 rw[hX]at hS;have HS:=hid hS;have hok:(hdO h l).Ok:=(H.good.ok _ (isO_iff.1 hi).2.2).1;have hsz:(hdO h l).size≤65535:=hok.size
 have HG:=hid (fun X (hb:Below w.heap.size w X) (k:Nat) (hk:k<(hdO h l).size)=>show Calls Tryz.prog 313 #[.pointer (some ⟨F.p,0,none⟩),.int .u32 l,.int .i64 (k:Nat)] X fun e X'=>e= .returned (.tuple #[.int .u32 (fld h l k),.int .i64 (0:Nat)])∧Below X.heap.size X X' from by
  have:=heap_get (H.below hb) l hl (k:Int) (by omega) (by omega);rw[(getA_fld hp hk).1,(getA_fld hp hk).2]at this;exact this)
 have HF:=hid (fun k (hk:k<(hdO h l).size)=>show fld h l k=wd (flds h l) k from(flds_wd hk).symm);have HFL:=hid (flds_length H.good hi);generalize wd h.rt 0=nl at*
 generalize(hdO h l).size=sz at*
 obtain⟨N,hN⟩: ∃N,N=(Limb.ahead nl (flds h l)).length:=⟨_,rfl⟩;rw[←hN];have HN:=hid hN;clear hN hp hi hX hS hok H;go_enter Tryz.func299,Tryz.ntmps299;go_wp2_with fail;refine(HR.out).mono ?_;rintro e V1 ⟨rfl,rfl⟩;(try dsimp only);go_wp2_with fail;refine(HS.out _ (Below.refl _ _)).mono ?_;rintro e V2 ⟨rfl,hB⟩;(try dsimp only);go_wp2_with fail;go_loopw[14] (fun i wr=> ∃k:Nat,k≤sz∧i= .int .i64 k∧Hid (∀j,j<k→wd (flds h l) j≠nl)∧Below w.heap.size w wr) (fun i _=>sz-(intOf i).toNat);case atStart=>exact⟨0,Nat.zero_le _,rfl,fun j hj=>absurd hj (by omega),hB⟩
 case round=>
  clear hB;obtain⟨k,hk,rfl,HPre,hB⟩:=hrel;by_cases h0:k<sz
  ·have d1:decide ((k:Int)<(sz:Int))=true:=decide_eq_true (by omega);have d2:decide (k<sz)=true:=decide_eq_true h0;have Hfk:=hid (HF.out k h0);have HG1:=hid (HG.out wr hB k h0);have HLen:=hid (ahead_len nl (flds h l) k HPre.out (by rw[HFL.out];exact hk));have HDrop:=hid (drop_wd (l:=flds h l) (k:=k) (by rw[HFL.out];exact h0));go_wp2_with fail;refine(HG1.out).mono ?_;rintro e V3 ⟨rfl,hb⟩;(try dsimp only);replace hB:=hB.trans (hb.mono hB.size);clear hb;by_cases hn:fld h l k=nl
   ·obtain rfl:N=k:=by
     rw[HN.out,HLen.out,HDrop.out,←Hfk.out,hn];show k+(if nl=nl then[]else _).length=k
     rw[if_pos rfl];rfl
    rw[hn];clear hn Hfk HDrop HLen;go_wp2_with fail;go_ret;exact⟨rfl,hB⟩
   ·have q:((fld h l k:Int)==(nl:Int))=false:=(by rw[beq_eq_false_iff_ne];omega);have q2:(fld h l k==nl)=false:=by rw[beq_eq_false_iff_ne];exact hn
    have HN2:=hid (show∀j,j<k+1→wd (flds h l) j≠nl from fun j hj=>by
     by_cases e:j=k
     ·rw[e,←Hfk.out];exact hn
     ·exact HPre.out j (by omega))
    generalize fld h l k=v at*
    clear Hfk HDrop HLen hn;go_wp2_with fail;go_roundw;case rel=>exact⟨k+1,h0,by simp,HN2.out,hB⟩
    case measure=>simp[intOf];omega
  ·obtain rfl:k=sz:=by omega
   have d1:decide ((k:Int)<(k:Int))=false:=decide_eq_false (by omega);have d2:decide (k<k)=false:=decide_eq_false (by omega)
   obtain rfl:N=k:=by
    rw[HN.out,ahead_len nl (flds h l) k HPre.out (by rw[HFL.out];exact hk),List.drop_of_length_le (by rw[HFL.out];exact Nat.le_refl _)];rfl
   go_wp2_with fail;refine(HS.out _ hB).mono ?_;rintro e V3 ⟨rfl,hb⟩;(try dsimp only);replace hB:=hB.trans (hb.mono hB.size);clear hb;go_wp2_with fail;go_ret;exact⟨rfl,hB⟩
end
end Go.Proofs.YtbffpkmfhkphdaaGreatDoor
namespace Go.Proofs.YtbffpkmfhkphdaaGreatDoor
open Go Lib Go.RowKit Limb
theorem owns_weak{w:World}{B n:Nat}{e:TypeId}{v:Value}{xs:List Value}(h:w.ownsRow B e 1 v n xs):w.ownsRow 0 e 1 v n xs:=by
 obtain⟨h1,h2⟩:=h;refine⟨h1,?_⟩;rcases h2 with h2|⟨g,cap,cur,q1,q2,q3⟩
 ·exact .inl h2
 ·exact .inr ⟨g,cap,cur,q1,Nat.zero_le _,q3⟩
section
variable {w:World} {G:RFoot} {h:Hp}
theorem r4_body(H:RefAt w G h){o:Nat}(ho:isO h o=true)(hf:(hdO h o).fmt=2)(h0:0<(hdO h o).len):Calls Tryz.prog 271 #[.pointer (some ⟨G.p,0,none⟩),.int .u32 o] w fun e w'=>(∃s,e= .returned (.string s)∧tx s=bytO h o)∧Below w.heap.size w w':=by
 have HB:=hid (r_bytes H ho hf);have hbl:=bytO_len H.good ho hf;have hb8:=bytO_b8 h o;rw[←hbl]at h0 HB;generalize bytO h o=bs at*
 clear H ho hf hbl;go_enter Tryz.func271,Tryz.ntmps271;go_wp2_with fail;refine(HB.out).mono ?_;rintro e V ⟨⟨v,rfl,hown⟩,hB⟩;(try dsimp only);obtain⟨g,c,rfl,-,sl⟩:=Sl.of_owns (owns_weak hown) h0;obtain⟨s,hs,hcv⟩:=conv_lay (P:=Tryz.prog) (c:=c) 72 5 Tryz.underlying72 Tryz.underlying5 (sl.lay rfl) ⟨g,rfl⟩ rfl hb8;have hc:=hcv 9 Tryz.underlying9;have HS:=hid hs;clear hown sl hs hcv hb8 HB;go_wp2_with fail;go_ret;exact⟨⟨_,rfl,HS.out⟩,hB⟩
theorem ahead_snoc(z:Nat): ∀(fl:List Nat) (k:Nat),(∀j,j<k→wd fl j≠z)→k≤fl.length→Limb.ahead z fl=fl.take k++Limb.ahead z (fl.drop k)
 |fl,0,_,_=>by simp
 |[],k+1,_,h=>by simp at h
 |a :: t,k+1,h,hk=>by
  have h1:a≠z:=h 0 (by omega);show(if a=z then[]else a :: Limb.ahead z t)=a :: t.take k++Limb.ahead z (t.drop k)
  rw[if_neg h1,ahead_snoc z t k (fun j hj=>h (j+1) (by omega)) (by simpa using hk)];rfl
theorem r4_entries(H:RefAt w G h)(r:Nat)(hr:r<64)(hl0:isF h (wd h.rt r) 1 0=true):Calls Tryz.prog 269 #[.pointer (some ⟨G.p,0,none⟩),.int .i64 r] w fun e w'=>(∃v,e= .returned v∧w'.ownsRow w.heap.size 61 1 v (entries h r).length (nums .u32 (entries h r)))∧Below w.heap.size w w':=by
 have hen:entries h r=Limb.ahead (wd h.rt 0) (flds h (wd h.rt r)):=by unfold entries;rw[if_pos hl0]
 rw[hen];have hll:=root_lt H.good r;have hio:isO h (wd h.rt r)=true:=isF_isO hl0;have hfm:(hdO h (wd h.rt r)).fmt=1:=(isF_iff.1 hl0).2.1;have k1:=(okO H.good hio).size
 have hIs:=fun X (hb:Below w.heap.size w X)=>show Calls Tryz.prog 201 #[.pointer (some ⟨G.p,0,none⟩),.int .u32 (wd h.rt r:Nat),.int .i64 1,.int .i64 0] X fun e w'=>e= .returned (.bool true)∧Below X.heap.size X w' from by
  have:=r4_is (H.below hb) (wd h.rt r) 1 0 hll;rw[hl0]at this;exact this
 have hHd:=fun X (hb:Below w.heap.size w X)=>r_header (H.below hb) (wd h.rt r) hio
 simp only[hdV_ex]at hHd;rw[hfm]at hHd
 have hGt:=fun X (hb:Below w.heap.size w X) (k:Nat) (hk:k<(hdO h (wd h.rt r)).size)=>show Calls Tryz.prog 272 #[.pointer (some ⟨G.p,0,none⟩),.int .u32 (wd h.rt r:Nat),.int .i64 k] X fun e w'=>e= .returned (.int .u32 (wd (flds h (wd h.rt r)) k:Nat))∧Below X.heap.size X w' from by
  rw[flds_wd hk];exact r4_get (H.below hb) (isF_iff.2 ⟨hio,hfm,by omega⟩)
 have hFL:=flds_length H.good hio;obtain⟨cw,cs,c0,c1,c2,_⟩:=H.cells
 have HRt:=hid (fun X (hb:Below w.heap.size w X)=>show X.cell? ⟨G.p,2,none⟩=some (.slice (some ⟨G.gr,0,none⟩) 64 64)∧X.cell? ⟨G.gr,0,none⟩=some (.int .u32 (wd h.rt 0:Nat))from by
  obtain⟨cw,cs,c0,c1,c2,_⟩:=(H.below hb).cells;exact⟨c2,(H.below hb).root_cell (by decide)⟩)
 have sl:Sl w G.gr 61 64 64 (nums .u32 h.rt):=H.roots.sl (by rw[nums_length];exact H.good.rlen.symm) (by decide);have HIx:=hid (fun W=>show(Instr.indexAt 71 (.slice (some ⟨G.gr,0,none⟩) 64 64) (.int .i64 0)).run Tryz.prog W= .ok (.pointer (some ⟨G.gr,0,none⟩)) W from sl.index 71 Tryz.underlying71 size_oop W .i64 0 (by decide));have ixr:=fun W=>sl.index 71 Tryz.underlying71 size_oop W .i64 r hr
 have cr:=H.root_cell hr;generalize flds h (wd h.rt r)=fl at*
 generalize wd h.rt r=l at*
 generalize wd h.rt 0=nl at*
 have fd0:=fun V=>(field_hdr V (.int .i64 (hdO h l).size) (.int .i64 1) (.int .i64 (hdO h l).spare) (.int .u32 (hdO h l).cls) (.int .u32 (hdO h l).ser)).1
 rw[show((1:Nat):Int)=1 from rfl]at hHd;generalize hdO h l=x at*
 generalize x.size=sz at*
 obtain⟨N,hN⟩: ∃N,N=(Limb.ahead nl fl).length:=⟨_,rfl⟩;have HIs:=hid hIs;have HHd:=hid hHd;have HGt:=hid hGt;have HFL:=hid hFL;clear hIs hHd hGt hFL sl H hio hfm hen hl0 c0 c1 hN N;go_enter Tryz.func269,Tryz.ntmps269;go_wp2_with fail;refine(HIs.out _ (Below.refl _ _)).mono ?_;rintro e V ⟨rfl,hB⟩;(try dsimp only);clear c2 ixr cr;go_wp2_with fail;go_loopw[7,5] (fun i s wr=> ∃k:Nat,k≤sz∧i= .int .i64 k∧Hid (∀j,j<k→wd fl j≠nl)∧wr.ownsRow w.heap.size 61 1 s k (nums .u32 (fl.take k))∧Below w.heap.size w wr) (fun i _ _=>sz-(intOf i).toNat);case atStart=>exact⟨0,Nat.zero_le _,rfl,hid (fun j hj=>absurd hj (by omega)),⟨rfl,.inl ⟨rfl,rfl⟩⟩,hB⟩
 case round=>
  clear hB;obtain⟨k,hk,rfl,HPre,hown,hB⟩:=hrel;by_cases h0:k<sz
  ·have d1:decide ((k:Int)<(sz:Int))=true:=decide_eq_true (by omega);have d2:decide (k<sz)=true:=decide_eq_true h0;have HG1:=hid (fun X hb=>HGt.out X hb k h0);have hd:fl.drop k=wd fl k :: fl.drop (k+1):=drop_wd (by rw[HFL.out];exact h0);have hsn:=ahead_snoc nl fl k HPre.out (by rw[HFL.out];exact hk);rw[hd]at hsn;have htk:fl.take k++[wd fl k]=fl.take (k+1):=take_snoc (by rw[HFL.out];exact h0);have HTk:=hid htk;by_cases hn:wd fl k=nl
   ·have HE:=hid (show Limb.ahead nl fl=fl.take k by
     rw[hsn,hn];show fl.take k++(if nl=nl then[]else _)=_
     rw[if_pos rfl,List.append_nil])
    have hlt:(fl.take k).length=k:=(by rw[List.length_take,HFL.out];omega);have HLt:=hid hlt;have q:((wd fl k:Int)==(nl:Int))=true:=by rw[beq_iff_eq];omega
    have q2:(wd fl k==nl)=true:=(by rw[beq_iff_eq];exact hn);have q3:((wd fl k:Int) != (nl:Int))=false:=by rw[hn];simp
    generalize wd fl k=fv at*
    clear hd hsn htk hn hlt HTk;go_wp2_with fail;refine wp_region_calm (fun Y=>Below wr.heap.size wr Y) (by kernel_rfl) (by kernel_rfl) (Below.refl _ _).drew ?_;show wpQuiet _ _ _ _ [_,_,_,_,_,_,_,_,_,_,_,_,_,_,_,_,_,_,_] _
    refine qa 19 (.int .i64 k) ?_;simp only[Act.put,zA,zB,zC];refine qa 20 (.pointer (some ⟨G.p,0,none⟩)) ?_;simp only[Act.put,zA,zB,zC];refine qa 21 (.int .u32 l) ?_;simp only[Act.put,zA,zB,zC];refine wpQuiet_at 22 (.agg #[.int .i64 sz,.int .i64 1,.int .i64 x.spare,.int .u32 x.cls,.int .u32 x.ser]) rfl (by kernel_rfl) (fun Y hC=>?_) ?_
    ·go_simp;exact(HHd.out Y (hB.trans (hC.mono hB.size))).mono fun e w' ⟨x,y⟩=>⟨x,hC.trans (y.mono hC.size)⟩
    simp only[Act.put,zA,zB,zC];refine wpQuiet_at 23 (.int .i64 sz) rfl (by kernel_rfl) (fun Y hC=>?_) ?_
    ·have fd:=fd0;go_simp
    simp only[Act.put,zA,zB,zC];refine qa 24 (.bool true) ?_;simp only[Act.put,zA,zB,zC];refine qa 25 (.bool true) ?_;simp only[Act.put,zA,zB,zC];refine qa 26 (.pointer (some ⟨G.p,0,none⟩)) ?_;simp only[Act.put,zA,zB,zC];refine qa 27 (.int .u32 l) ?_;simp only[Act.put,zA,zB,zC];refine qa 28 (.int .i64 k) ?_;simp only[Act.put,zA,zB,zC];refine wpQuiet_at 29 (.int .u32 fv) rfl (by kernel_rfl) (fun Y hC=>?_) ?_
    ·go_simp;exact(HG1.out Y (hB.trans (hC.mono hB.size))).mono fun e w' ⟨x,y⟩=>⟨x,hC.trans (y.mono hC.size)⟩
    simp only[Act.put,zA,zB,zC];refine qa 30 (.pointer (some ⟨G.p,0,none⟩)) ?_;simp only[Act.put,zA,zB,zC];refine qa 31 (.pointer (some ⟨G.p,0,none⟩)) ?_;simp only[Act.put,zA,zB,zC];refine qa 32 (.pointer (some ⟨G.p,2,none⟩)) ?_;simp only[Act.put,zA,zB,zC];refine wpQuiet_at 33 (.slice (some ⟨G.gr,0,none⟩) 64 64) rfl (by kernel_rfl) (fun Y hC=>?_) ?_
    ·obtain⟨q1,q2⟩:=HRt.out Y (hB.trans (hC.mono hB.size));go_simp
    simp only[Act.put,zA,zB,zC];refine wpQuiet_at 34 (.pointer (some ⟨G.gr,0,none⟩)) rfl (by kernel_rfl) (fun Y hC=>?_) ?_
    ·have ix0:=HIx.out;go_simp
    simp only[Act.put,zA,zB,zC];refine wpQuiet_at 35 (.int .u32 nl) rfl (by kernel_rfl) (fun Y hC=>?_) ?_
    ·obtain⟨q1,q2⟩:=HRt.out Y (hB.trans (hC.mono hB.size));go_simp
    simp only[Act.put,zA,zB,zC];refine qa 36 (.bool false) ?_;simp only[Act.put,zA,zB,zC];refine qa 37 (.bool false) ?_;simp only[Act.put,zA,zB,zC];refine wpQuiet_nil ?_;intro V1 hb;have hown1:=ownsRow_below hown hb;replace hB:=hB.trans (hb.mono hB.size);clear hb hown;go_wp2_with fail;go_ret;refine⟨⟨_,rfl,?_⟩,hB⟩;rw[HE.out,HLt.out];exact hown1
   ·have q:((wd fl k:Int)==(nl:Int))=false:=(by rw[beq_eq_false_iff_ne];omega);have q2:(wd fl k==nl)=false:=by rw[beq_eq_false_iff_ne];exact hn
    have q3:((wd fl k:Int) != (nl:Int))=true:=by rw[bne_iff_ne];omega
    have HPre2:=hid (show∀j,j<k+1→wd fl j≠nl from fun j hj=>by
     by_cases e:j=k
     ·rw[e];exact hn
     ·exact HPre.out j (by omega))
    generalize wd fl k=fv at*
    clear hd hsn htk hn;go_wp2_with fail;refine wp_region_calm (fun Y=>Below wr.heap.size wr Y) (by kernel_rfl) (by kernel_rfl) (Below.refl _ _).drew ?_;show wpQuiet _ _ _ _ [_,_,_,_,_,_,_,_,_,_,_,_,_,_,_,_,_,_,_] _
    refine qa 19 (.int .i64 k) ?_;simp only[Act.put,zA,zB,zC];refine qa 20 (.pointer (some ⟨G.p,0,none⟩)) ?_;simp only[Act.put,zA,zB,zC];refine qa 21 (.int .u32 l) ?_;simp only[Act.put,zA,zB,zC];refine wpQuiet_at 22 (.agg #[.int .i64 sz,.int .i64 1,.int .i64 x.spare,.int .u32 x.cls,.int .u32 x.ser]) rfl (by kernel_rfl) (fun Y hC=>?_) ?_
    ·go_simp;exact(HHd.out Y (hB.trans (hC.mono hB.size))).mono fun e w' ⟨x,y⟩=>⟨x,hC.trans (y.mono hC.size)⟩
    simp only[Act.put,zA,zB,zC];refine wpQuiet_at 23 (.int .i64 sz) rfl (by kernel_rfl) (fun Y hC=>?_) ?_
    ·have fd:=fd0;go_simp
    simp only[Act.put,zA,zB,zC];refine qa 24 (.bool true) ?_;simp only[Act.put,zA,zB,zC];refine qa 25 (.bool true) ?_;simp only[Act.put,zA,zB,zC];refine qa 26 (.pointer (some ⟨G.p,0,none⟩)) ?_;simp only[Act.put,zA,zB,zC];refine qa 27 (.int .u32 l) ?_;simp only[Act.put,zA,zB,zC];refine qa 28 (.int .i64 k) ?_;simp only[Act.put,zA,zB,zC];refine wpQuiet_at 29 (.int .u32 fv) rfl (by kernel_rfl) (fun Y hC=>?_) ?_
    ·go_simp;exact(HG1.out Y (hB.trans (hC.mono hB.size))).mono fun e w' ⟨x,y⟩=>⟨x,hC.trans (y.mono hC.size)⟩
    simp only[Act.put,zA,zB,zC];refine qa 30 (.pointer (some ⟨G.p,0,none⟩)) ?_;simp only[Act.put,zA,zB,zC];refine qa 31 (.pointer (some ⟨G.p,0,none⟩)) ?_;simp only[Act.put,zA,zB,zC];refine qa 32 (.pointer (some ⟨G.p,2,none⟩)) ?_;simp only[Act.put,zA,zB,zC];refine wpQuiet_at 33 (.slice (some ⟨G.gr,0,none⟩) 64 64) rfl (by kernel_rfl) (fun Y hC=>?_) ?_
    ·obtain⟨q1,q2⟩:=HRt.out Y (hB.trans (hC.mono hB.size));go_simp
    simp only[Act.put,zA,zB,zC];refine wpQuiet_at 34 (.pointer (some ⟨G.gr,0,none⟩)) rfl (by kernel_rfl) (fun Y hC=>?_) ?_
    ·have ix0:=HIx.out;go_simp
    simp only[Act.put,zA,zB,zC];refine wpQuiet_at 35 (.int .u32 nl) rfl (by kernel_rfl) (fun Y hC=>?_) ?_
    ·obtain⟨q1,q2⟩:=HRt.out Y (hB.trans (hC.mono hB.size));go_simp
    simp only[Act.put,zA,zB,zC];refine qa 36 (.bool true) ?_;simp only[Act.put,zA,zB,zC];refine qa 37 (.bool true) ?_;simp only[Act.put,zA,zB,zC];refine wpQuiet_nil ?_;intro V1 hb;have hown1:=ownsRow_below hown hb;replace hB:=hB.trans (hb.mono hB.size);clear hb hown;have HG2:=hid (HG1.out _ hB);go_wp2_with fail;refine(HG2.out).mono ?_;rintro e V2 ⟨rfl,hb⟩;(try dsimp only);have hown2:=ownsRow_below hown1 hb;replace hB:=hB.trans (hb.mono hB.size);clear hb hown1;obtain⟨i0,hi,hz0,hz1,hz2⟩:=info_parts info_oop;have hown3:=hown2.alloc (.cells #[.int .u32 fv] 61);obtain⟨v',X',hrr,h2,h3,h4,h5⟩:=run_append_own_at (P:=Tryz.prog) (w:=V2.alloc (.cells #[.int .u32 fv] 61)) w.heap.size 71 71 61 i0 (.int .u32 0) 1 4 Tryz.underlying71 hi hz0 hz1 hz2 rfl (by decide) _ k _ hown3 ⟨V2.heap.size,0,none⟩ 1 1 (nums .u32 [fv]) rfl (cell_one_new _ _ _) (by simp[nums,Value.oneCell']) (Nat.le_trans (show k+1≤65536 by omega) (by decide)) (by omega) (by rw[World.size_alloc];have:=hB.size;omega);rw[←nums_append,HTk.out]at h2;have hB2:=below_grown hown3 h3 (by rw[World.size_alloc];have:=hB.size;omega);have hB3:=(hB.alloc hB.size (.cells #[.int .u32 fv] 61)).trans hB2;have HR:=hid hrr;clear hrr h3 h4 h5 hown2 hown3 hi hz0 hz1 hz2;go_wp2_with(at_builtin;refine Lib.wpList_append_run _ rfl _ _ _ _ rfl _ _ rfl rfl _ _ HR.out ?_);go_roundw;case rel=>exact⟨k+1,h0,by simp,HPre2,h2,hB3⟩
    case measure=>simp[intOf];omega
  ·obtain rfl:k=sz:=by omega
   have d1:decide ((k:Int)<(k:Int))=false:=decide_eq_false (by omega);have d2:decide (k<k)=false:=decide_eq_false (by omega)
   have HE:=hid (show Limb.ahead nl fl=fl.take k by
    rw[ahead_snoc nl fl k HPre.out (by rw[HFL.out];exact hk),List.drop_of_length_le (by rw[HFL.out];exact Nat.le_refl _)];show _++[]=_
    rw[List.append_nil])
   have HLt:=hid (show(fl.take k).length=k by rw[List.length_take,HFL.out];omega);go_wp2_with fail;replace hown:=ownsRow_below hown (Below.refl _ wr).drew;replace hB:=hB.trans ((Below.refl _ wr).drew.mono hB.size);have hX:=hB;refine wp_region_held (S:=fun Y=>Below w.heap.size w Y) (by kernel_rfl) ?_;refine tk 0 (.int .i64 k) 19 hX ?_;simp only[Act.put,zA,zB,zC];refine tk 1 (.pointer (some ⟨G.p,0,none⟩)) 20 hX ?_;simp only[Act.put,zA,zB,zC];refine tk 2 (.int .u32 l) 21 hX ?_;simp only[Act.put,zA,zB,zC];refine wpAnyH_all (rs:=[3]) (by kernel_rfl) (by decide) (fun i hi=>?_);rw[List.mem_singleton]at hi;subst hi;unfold wpOp;go_simp;refine .inl ((HHd.out _ hB).mono ?_);rintro e X1 ⟨rfl,hb⟩;replace hown:=ownsRow_below hown hb;replace hB:=hB.trans (hb.mono hB.size);clear hb;have hX:=hB;refine⟨hX,?_⟩;refine tk 4 (.int .i64 k) 23 hX ?_ (y:=fun X hX=>by have fd:=fd0;go_simp);simp only[Act.put,zA,zB,zC];refine tk 5 (.bool false) 24 hX ?_;simp only[Act.put,zA,zB,zC];refine tk 6 (.bool false) 25 hX ?_;simp only[Act.put,zA,zB,zC];refine wpAnyH_take_at (i:=7) (v:=undef) 26 rfl rfl (by kernel_rfl) (by kernel_rfl) (by kernel_rfl) (fun _ _ _ h=>h) (.inr ⟨by kernel_rfl,rfl⟩) hX ?_;simp only[Act.put,zA,zB,zC];refine wpAnyH_take_at (i:=8) (v:=undef) 27 rfl rfl (by kernel_rfl) (by kernel_rfl) (by kernel_rfl) (fun _ _ _ h=>h) (.inr ⟨by kernel_rfl,rfl⟩) hX ?_;simp only[Act.put,zA,zB,zC];refine wpAnyH_take_at (i:=9) (v:=undef) 28 rfl rfl (by kernel_rfl) (by kernel_rfl) (by kernel_rfl) (fun _ _ _ h=>h) (.inr ⟨by kernel_rfl,rfl⟩) hX ?_;simp only[Act.put,zA,zB,zC];refine wpAnyH_take_at (i:=10) (v:=undef) 29 rfl rfl (by kernel_rfl) (by kernel_rfl) (by kernel_rfl) (fun _ _ _ h=>h) (.inr ⟨by kernel_rfl,rfl⟩) hX ?_;simp only[Act.put,zA,zB,zC];refine wpAnyH_take_at (i:=11) (v:=undef) 30 rfl rfl (by kernel_rfl) (by kernel_rfl) (by kernel_rfl) (fun _ _ _ h=>h) (.inr ⟨by kernel_rfl,rfl⟩) hX ?_;simp only[Act.put,zA,zB,zC];refine wpAnyH_take_at (i:=12) (v:=undef) 31 rfl rfl (by kernel_rfl) (by kernel_rfl) (by kernel_rfl) (fun _ _ _ h=>h) (.inr ⟨by kernel_rfl,rfl⟩) hX ?_;simp only[Act.put,zA,zB,zC];refine wpAnyH_take_at (i:=13) (v:=undef) 32 rfl rfl (by kernel_rfl) (by kernel_rfl) (by kernel_rfl) (fun _ _ _ h=>h) (.inr ⟨by kernel_rfl,rfl⟩) hX ?_;simp only[Act.put,zA,zB,zC];refine wpAnyH_take_at (i:=14) (v:=undef) 33 rfl rfl (by kernel_rfl) (by kernel_rfl) (by kernel_rfl) (fun _ _ _ h=>h) (.inr ⟨by kernel_rfl,rfl⟩) hX ?_;simp only[Act.put,zA,zB,zC];refine wpAnyH_take_at (i:=15) (v:=undef) 34 rfl rfl (by kernel_rfl) (by kernel_rfl) (by kernel_rfl) (fun _ _ _ h=>h) (.inr ⟨by kernel_rfl,rfl⟩) hX ?_;simp only[Act.put,zA,zB,zC];refine wpAnyH_take_at (i:=16) (v:=undef) 35 rfl rfl (by kernel_rfl) (by kernel_rfl) (by kernel_rfl) (fun _ _ _ h=>h) (.inr ⟨by kernel_rfl,rfl⟩) hX ?_;simp only[Act.put,zA,zB,zC];refine wpAnyH_take_at (i:=17) (v:=undef) 36 rfl rfl (by kernel_rfl) (by kernel_rfl) (by kernel_rfl) (fun _ _ _ h=>h) (.inr ⟨by kernel_rfl,rfl⟩) hX ?_;simp only[Act.put,zA,zB,zC];refine tk 18 (.bool false) 37 hX ?_;simp only[Act.put,zA,zB,zC];refine wpAnyH_done (by kernel_rfl) ?_ _;go_wp2_with fail;go_ret;refine⟨⟨_,rfl,?_⟩,hB⟩;rw[HE.out,HLt.out];exact hown
end
end Go.Proofs.YtbffpkmfhkphdaaGreatDoor
namespace Go.Proofs.YtbffpkmfhkphdaaGreatDoor
open Go Lib Go.RowKit Limb
section
variable {w:World} {F:Foot} {h:Hp}
theorem putL_some{r o:Nat}{h':Hp}(e:putL h r o=some h'):isF h (wd h.rt r) 1 0=true∧(entries h r).length=(Limb.ahead (wd h.rt 0) (flds h (wd h.rt r))).length∧isF h (wd h.rt r) 1 ((entries h r).length+1)=true∧h'=Limb.putF h (wd h.rt r) (entries h r).length o:=by
 unfold putL at e;simp only at e;split at e
 ·rename_i hc
  have h0:isF h (wd h.rt r) 1 0=true:=by
   unfold isF at hc ⊢;simp only[Bool.and_eq_true,decide_eq_true_eq]at hc ⊢;exact⟨hc.1,Nat.zero_le _⟩
  refine⟨h0,?_,hc,(Option.some.inj e).symm⟩;unfold entries;rw[if_pos h0]
 ·cases e
theorem kernel_put(H:HeapAt w F h)(r:Nat)(hr:r<64)(o:Nat)(ho:o<4294967296)(hval:valO h o=true)(h':Hp)(hp:putL h r o=some h'):Calls Tryz.prog 265 #[.pointer (some ⟨F.p,0,none⟩),.int .i64 r,.int .u32 o] w fun e w'=>e= .returned (.int .i64 0)∧Step w F w' F h':=by
 obtain⟨h0,h1,h2,h3⟩:=putL_some hp;have hl:=root_lt H.good r;have HR:=hid (kernel_root H r hr);have hU:=fun X (hb:Below w.heap.size w X)=>kernel_used (H.below hb) (wd h.rt r) hl h0
 rw[←h1]at hU;have hi:isO h (wd h.rt r)=true:=by unfold isF at h0;simp only[Bool.and_eq_true]at h0;exact h0.1.1
 have hX:hdX h (wd h.rt r)=hdO h (wd h.rt r):=by unfold hdX;rw[if_pos hi]
 have hS:=fun X (hb:Below w.heap.size w X)=>kernel_size (H.below hb) (wd h.rt r) hl
 rw[hX]at hS;generalize(entries h r).length=n at*
 generalize wd h.rt r=l at*
 have hn:n<(hdO h l).size∧(hdO h l).fmt=1:=by
  unfold isF at h2;simp only[Bool.and_eq_true,decide_eq_true_eq]at h2;exact⟨by omega,h2.1.2⟩
 have hsz:(hdO h l).size≤65535:=(H.good.ok _ (isO_iff.1 hi).2.2).1.size;have hlen:(hdO h l).len=(hdO h l).size:=len_size (by omega);have hE:lookE h l (n:Int) [1,4]=0:=lookE_zero.2 ⟨hi,by rw[hn.2];rfl,by omega,by rw[hlen];omega⟩;have hPE:putE h l (n:Int) o=0:=by unfold putE;rw[if_pos hE,if_pos hval]
 have hPH:putH h l (n:Int) o=h':=by unfold putH;rw[if_pos hPE,Int.toNat_natCast,h3]
 have hP:=fun X (hb:Below w.heap.size w X)=>heap_put (H.below hb) l hl (n:Int) (by omega) (by omega) o ho
 rw[hPE,hPH]at hP;generalize(hdO h l).size=sz at*
 have q:((n:Int)==(sz:Int))=false:=by rw[beq_eq_false_iff_ne];omega
 have q2:(n==sz)=false:=by rw[beq_eq_false_iff_ne];omega
 have HU:=hid hU;have HS:=hid hS;have HP:=hid hP;clear hU hS hP hPE hPH hE hlen hX hi h0 h1 h2 h3 hp hval H hn;go_enter Tryz.func265,Tryz.ntmps265;go_wp2_with fail;refine(HR.out).mono ?_;rintro e V1 ⟨rfl,rfl⟩;(try dsimp only);go_wp2_with fail;refine(HU.out _ (Below.refl _ _)).mono ?_;rintro e V2 ⟨rfl,hB⟩;(try dsimp only);go_wp2_with fail;refine(HS.out _ hB).mono ?_;rintro e V3 ⟨rfl,hb⟩;(try dsimp only);replace hB:=hB.trans (hb.mono hB.size);clear hb;go_wp2_with fail;refine(HP.out _ hB).mono ?_;rintro e V4 ⟨rfl,hSt⟩;(try dsimp only);have HSt:=hid (Step.of_below hB hSt);clear hSt;go_wp2_with fail;go_ret;exact⟨rfl,HSt.out⟩
end
end Go.Proofs.YtbffpkmfhkphdaaGreatDoor

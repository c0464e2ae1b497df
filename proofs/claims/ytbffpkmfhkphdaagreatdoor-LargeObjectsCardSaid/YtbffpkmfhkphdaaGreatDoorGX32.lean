/- The walks of the document's layers 2 and 4: Byte, Bytes; Is, IsBytes, Get. The walk of package kernel's found, for the two functions that it is handed. -/
import Derived.Test.YtbffpkmfhkphdaaGreatDoorGX31
set_option linter.unusedVariables false
set_option linter.unusedSimpArgs false
set_option maxRecDepth 1000000
set_option maxHeartbeats 6400000
namespace Go.Proofs.YtbffpkmfhkphdaaGreatDoor
open Go Lib Go.RowKit Limb
section
variable {w:World} {G:RFoot} {h:Hp}
theorem r4_is(H:RefAt w G h)(o f n:Nat)(ho:o<4294967296):Calls Tryz.prog 201 #[.pointer (some ⟨G.p,0,none⟩),.int .u32 o,.int .i64 f,.int .i64 n] w fun e w'=>e= .returned (.bool (isF h o f n))∧Below w.heap.size w w':=by
 have hI:=r_is H o ho
 cases hio:isO h o with
 |false=>
  rw[hio]at hI;have e:isF h o f n=false:=by unfold isF;rw[hio];rfl
  rw[e];have HI:=hid hI;clear hI e hio H;go_enter Tryz.func201,Tryz.ntmps201;go_wp2_with fail;refine(HI.out).mono ?_;rintro e V ⟨rfl,rfl⟩;(try dsimp only);go_wp2_with fail;go_ret;exact⟨rfl,Below.refl _ _⟩
 |true=>
  rw[hio]at hI;have HI:=hid hI;have hHd:=fun X (hb:Below w.heap.size w X)=>r_header (H.below hb) o hio
  have k:=okO H.good hio;have k1:=k.size;have e:isF h o f n=(decide ((hdO h o).fmt=f)&&decide (n≤(hdO h o).size)):=by unfold isF;rw[hio];rfl
  rw[e];simp only[hdV_ex]at hHd;generalize hdO h o=x at*
  have fd0:=fun V=>(field_hdr V (.int .i64 x.size) (.int .i64 x.fmt) (.int .i64 x.spare) (.int .u32 x.cls) (.int .u32 x.ser)).1
  have fd1:=fun V=>(field_hdr V (.int .i64 x.size) (.int .i64 x.fmt) (.int .i64 x.spare) (.int .u32 x.cls) (.int .u32 x.ser)).2.1
  generalize x.size=sz at*
  generalize x.fmt=fm at*
  have HHd:=hid hHd;clear hI hHd k e hio H;by_cases h1:fm=f
  ·subst h1;rw[decide_eq_true rfl,Bool.true_and];have d1:decide ((n:Int)≤(sz:Int))=decide (n≤sz):=by by_cases hh:n≤sz;rw[decide_eq_true hh,decide_eq_true (by omega)];rw[decide_eq_false hh,decide_eq_false (by omega)]
   obtain⟨b,hb0⟩: ∃b,b=decide (n≤sz):=⟨_,rfl⟩;rw[←hb0]at d1 ⊢;clear hb0;go_enter Tryz.func201,Tryz.ntmps201;go_wp2_with fail;refine(HI.out).mono ?_;rintro e V ⟨rfl,rfl⟩;(try dsimp only);go_wp2_with fail;refine(HHd.out _ (Below.refl _ _)).mono ?_;rintro e V ⟨rfl,hB⟩;(try dsimp only);go_wp2_with fail;refine(HHd.out _ hB).mono ?_;rintro e V2 ⟨rfl,hb⟩;(try dsimp only);replace hB:=hB.trans (hb.mono hB.size);clear hb;go_wp2_with fail;go_ret;exact⟨by first |rfl|(congr 1;simpa using d1),hB⟩
  ·rw[decide_eq_false h1,Bool.false_and];have q:((fm:Int)==(f:Int))=false:=by rw[beq_eq_false_iff_ne];omega
   have q2:(fm==f)=false:=(by rw[beq_eq_false_iff_ne];exact h1);go_enter Tryz.func201,Tryz.ntmps201;go_wp2_with fail;refine(HI.out).mono ?_;rintro e V ⟨rfl,rfl⟩;(try dsimp only);go_wp2_with fail;refine(HHd.out _ (Below.refl _ _)).mono ?_;rintro e V ⟨rfl,hB⟩;(try dsimp only);go_wp2_with fail;go_ret;exact⟨rfl,hB⟩
theorem r4_isbytes(H:RefAt w G h)(o:Nat)(ho:o<4294967296):Calls Tryz.prog 270 #[.pointer (some ⟨G.p,0,none⟩),.int .u32 o] w fun e w'=>e= .returned (.bool (isF h o 2 0))∧Below w.heap.size w w':=by
 have HI:=hid (show Calls Tryz.prog 201 #[.pointer (some ⟨G.p,0,none⟩),.int .u32 o,.int .i64 2,.int .i64 0] w fun e w'=>e= .returned (.bool (isF h o 2 0))∧Below w.heap.size w w' from r4_is H o 2 0 ho);generalize isF h o 2 0=b at*
 clear H;go_enter Tryz.func270,Tryz.ntmps270;go_wp2_with fail;refine(HI.out).mono ?_;rintro e V ⟨rfl,hB⟩;(try dsimp only);go_wp2_with fail;go_ret;exact⟨rfl,hB⟩
theorem r4_get(H:RefAt w G h){o i:Nat}(hf:isF h o 1 (i+1)=true):Calls Tryz.prog 272 #[.pointer (some ⟨G.p,0,none⟩),.int .u32 o,.int .i64 i] w fun e w'=>e= .returned (.int .u32 (fld h o i:Nat))∧Below w.heap.size w w':=by
 have HI:=hid (r_get H hf);generalize fld h o i=v at*
 clear H hf;go_enter Tryz.func272,Tryz.ntmps272;go_wp2_with fail;refine(HI.out).mono ?_;rintro e V ⟨rfl,hB⟩;(try dsimp only);go_wp2_with fail;go_ret;exact⟨rfl,hB⟩
def byteN(a q:Nat):Nat:=a/256^q%256
theorem r_byte(H:RefAt w G h){o i:Nat}(ho:isO h o=true)(hf:(hdO h o).fmt=2)(hi:i<(hdO h o).len):Calls Tryz.prog 317 #[.pointer (some ⟨G.p,0,none⟩),.int .u32 o,.int .i64 i] w fun e w'=>e= .returned (.tuple #[.int .u8 (byteN (fld h o (i/4)) (i%4):Nat),.int .i64 0])∧Below w.heap.size w w':=by
 have hP:=r_place H o 2 i ho hf hi;rw[if_pos rfl]at hP;have HP:=hid hP;have k1:=(okO H.good ho).size;have hlen:(hdO h o).len=4*(hdO h o).size-(hdO h o).spare:=by unfold Hd.len;rw[if_pos hf]
 have hi2:i≤300000:=by omega
 have hlt:o/2+3+i/4<h.ws.length:=by
  have:=H.good.inside _ (isO_iff.1 ho).2.2;have h3:(hd h (o/2)).size=(hdO h o).size:=rfl;omega
 have HAt:=hid (fun X (hb:Below w.heap.size w X)=>(H.below hb).at hlt);have hfl:fld h o (i/4)=wd h.ws (o/2+3+i/4):=rfl;have hwl:=H.good.lim.wd (o/2+3+i/4);rw[hfl];generalize o/2+3+i/4=at0 at*
 generalize wd h.ws at0=wv at*
 obtain⟨q,hq⟩: ∃q,q=i%4:=⟨_,rfl⟩;have eq4:(i:Int)%4=(q:Int):=by omega
 have hq3:q<4:=by omega
 rw[←hq];have HQ:=hid hq;clear hP hf hfl H k1 hlen hq hi ho;have hq4:q=0∨q=1∨q=2∨q=3:=by omega
 rcases hq4 with rfl|rfl|rfl|rfl
 ·rw[show((byteN wv 0:Nat):Int)=(wv:Int)%256 from by unfold byteN;omega];go_enter Tryz.func317,Tryz.ntmps317;go_wp2_with fail;refine(HP.out).mono ?_;rintro e V ⟨rfl,hB⟩;(try dsimp only);obtain⟨cw,c1,cx,zx,ix⟩:=HAt.out V hB;go_wp2_with fail;go_ret2;exact⟨rfl,hB⟩
 ·rw[show((byteN wv 1:Nat):Int)=(wv:Int)/256%256 from by unfold byteN;omega];go_enter Tryz.func317,Tryz.ntmps317;go_wp2_with fail;refine(HP.out).mono ?_;rintro e V ⟨rfl,hB⟩;(try dsimp only);obtain⟨cw,c1,cx,zx,ix⟩:=HAt.out V hB;go_wp2_with fail;go_ret2;exact⟨rfl,hB⟩
 ·rw[show((byteN wv 2:Nat):Int)=(wv:Int)/65536%256 from by unfold byteN;omega];go_enter Tryz.func317,Tryz.ntmps317;go_wp2_with fail;refine(HP.out).mono ?_;rintro e V ⟨rfl,hB⟩;(try dsimp only);obtain⟨cw,c1,cx,zx,ix⟩:=HAt.out V hB;go_wp2_with fail;go_ret2;exact⟨rfl,hB⟩
 ·rw[show((byteN wv 3:Nat):Int)=(wv:Int)/16777216 from by unfold byteN;omega];go_enter Tryz.func317,Tryz.ntmps317;go_wp2_with fail;refine(HP.out).mono ?_;rintro e V ⟨rfl,hB⟩;(try dsimp only);obtain⟨cw,c1,cx,zx,ix⟩:=HAt.out V hB;go_wp2_with fail;go_ret2;exact⟨rfl,hB⟩
theorem unpB_get(l:List Nat)(i:Nat)(h:i/4<l.length):wd (unpB l) i=byteN (wd l (i/4)) (i%4):=by
 induction l generalizing i with
 |nil=>simp at h
 |cons a t ih=>
  show wd (by4 a++unpB t) i=_
  have h4:(by4 a).length=4:=rfl;by_cases hi:i<4
  ·rw[wd_append_lt (by rw[h4];exact hi),show i/4=0 by omega,wd_zero];have:i=0∨i=1∨i=2∨i=3:=by omega
   rcases this with rfl|rfl|rfl|rfl
   ·show a%256=byteN a 0;unfold byteN;simp
   ·show a/256%256=byteN a 1;unfold byteN;simp
   ·show a/65536%256=byteN a 2;unfold byteN;simp
   ·show a/16777216%256=byteN a 3;unfold byteN;simp
  ·rw[wd_append_ge (by rw[h4];omega),h4,ih (i-4) (by simp at h;omega),show i/4=(i-4)/4+1 by omega,wd_succ,show(i-4)%4=i%4 by omega]
theorem flds_byte(k:Limb.Good h){o i:Nat}(ho:isO h o=true)(hf:(hdO h o).fmt=2)(hi:i<(hdO h o).len):wd (bytO h o) i=byteN (fld h o (i/4)) (i%4):=by
 have hlen:(hdO h o).len=4*(hdO h o).size-(hdO h o).spare:=by unfold Hd.len;rw[if_pos hf]
 have hl:=flds_length k ho;unfold bytO;rw[wd_take hi,unpB_get _ _ (by rw[hl];omega),flds_wd (by omega)]
theorem bytO_len(k:Limb.Good h){o:Nat}(ho:isO h o=true)(hf:(hdO h o).fmt=2):(bytO h o).length=(hdO h o).len:=by
 have hlen:(hdO h o).len=4*(hdO h o).size-(hdO h o).spare:=by unfold Hd.len;rw[if_pos hf]
 unfold bytO;rw[List.length_take,unpB_length,flds_length k ho];omega
theorem ownsRow_below{w w':World}{B n:Nat}{e:TypeId}{v:Value}{xs:List Value}(h:w.ownsRow B e 1 v n xs)(hb:Below w.heap.size w w'):w'.ownsRow B e 1 v n xs:=by
 obtain⟨h1,h2⟩:=h;refine⟨h1,?_⟩;rcases h2 with h2|⟨g,cap,cur,q1,q2,q3,q4⟩
 ·exact .inl h2
 ·have hl:g<w.heap.size:=(Array.getElem?_eq_some_iff.1 q3).1;exact .inr ⟨g,cap,cur,q1,q2,by rw[hb.block g hl];exact q3,q4⟩
theorem take_snoc{l:List Nat}{i:Nat}(hi:i<l.length):l.take i++[wd l i]=l.take (i+1):=by
 rw[wd_lt hi];exact(List.take_succ_eq_append_getElem hi).symm
theorem r_bytes(H:RefAt w G h){o:Nat}(ho:isO h o=true)(hf:(hdO h o).fmt=2):Calls Tryz.prog 302 #[.pointer (some ⟨G.p,0,none⟩),.int .u32 o] w fun e w'=>(∃v,e= .returned (.tuple #[v,.int .i64 0])∧w'.ownsRow w.heap.size 5 1 v (hdO h o).len (nums .u8 (bytO h o)))∧Below w.heap.size w w':=by
 have olt:=isO_lt H.good ho;have hI:=r_is H o olt;rw[ho]at hI;have HI:=hid hI;have hHd:=r_header H o ho;have k1:=(okO H.good ho).size;have hlen:(hdO h o).len=4*(hdO h o).size-(hdO h o).spare:=by unfold Hd.len;rw[if_pos hf]
 have hln3:(hdO h o).len≤300000:=by omega
 have HLn:=hid (fun X (hb:Below w.heap.size w X)=>r_len (H.below hb) o ho)
 have HBy:=hid (fun X (hb:Below w.heap.size w X) (i:Nat) (hi:i<(hdO h o).len)=>show Calls Tryz.prog 317 #[.pointer (some ⟨G.p,0,none⟩),.int .u32 o,.int .i64 i] X fun e w'=>e= .returned (.tuple #[.int .u8 (wd (bytO h o) i:Nat),.int .i64 0])∧Below X.heap.size X w' from by
  rw[flds_byte H.good ho hf hi];exact r_byte (H.below hb) ho hf hi)
 have hbl:=bytO_len H.good ho hf;rw[hdV_ex]at hHd;rw[hf,show((2:Nat):Int)=2 from rfl]at hHd;generalize bytO h o=bs at*
 generalize(hdO h o).len=ln at*
 have fd:=fun V=>(field_hdr V (.int .i64 (hdO h o).size) (.int .i64 2) (.int .i64 (hdO h o).spare) (.int .u32 (hdO h o).cls) (.int .u32 (hdO h o).ser)).2.1
 generalize hdO h o=x at*
 have HHd:=hid hHd;have HBl:=hid hbl;clear hI hHd hbl H ho hf k1 hlen;go_enter Tryz.func302,Tryz.ntmps302;go_wp2_with fail;refine(HI.out).mono ?_;rintro e V0 ⟨rfl,rfl⟩;(try dsimp only);go_wp2_with fail;refine(HHd.out).mono ?_;rintro e V ⟨rfl,hB⟩;(try dsimp only);clear HI HHd;go_wp2_with fail;go_loopw[7,6] (fun i s wr=> ∃k:Nat,k≤ln∧i= .int .i64 k∧wr.ownsRow w.heap.size 5 1 s k (nums .u8 (bs.take k))∧Below w.heap.size w wr) (fun i _ _=>ln-(intOf i).toNat);case atStart=>exact⟨0,Nat.zero_le _,rfl,⟨rfl,.inl ⟨rfl,rfl⟩⟩,hB⟩
 case round=>
  clear hB;obtain⟨k,hk,rfl,hown,hB⟩:=hrel;have HL1:=hid (HLn.out _ hB);by_cases h0:k<ln
  ·have d1:decide ((k:Int)<(ln:Int))=true:=decide_eq_true (by omega);have d2:decide (k<ln)=true:=decide_eq_true h0;have HB1:=hid (fun X hb=>HBy.out X hb k h0);have HSn:=hid (show bs.take k++[wd bs k]=bs.take (k+1)from take_snoc (by rw[HBl.out];exact h0));generalize wd bs k=bv at*
   go_wp2_with fail;refine(HL1.out).mono ?_;rintro e V1 ⟨rfl,hb⟩;(try dsimp only);have hown1:=ownsRow_below hown hb;replace hB:=hB.trans (hb.mono hB.size);clear hb hown;go_wp2_with fail;refine(HB1.out _ hB).mono ?_;rintro e V2 ⟨rfl,hb⟩;(try dsimp only);have hown2:=ownsRow_below hown1 hb;replace hB:=hB.trans (hb.mono hB.size);clear hb hown1;obtain⟨i8,hi8,z80,z81,z82⟩:=info_parts info8b;have hown3:=hown2.alloc (.cells #[.int .u8 bv] 5);obtain⟨v',X',hr,h2,h3,h4,h5⟩:=run_append_own_at (P:=Tryz.prog) (w:=V2.alloc (.cells #[.int .u8 bv] 5)) w.heap.size 72 72 5 i8 (.int .u8 0) 1 1 Tryz.underlying72 hi8 z80 z81 z82 rfl (by decide) _ k _ hown3 ⟨V2.heap.size,0,none⟩ 1 1 (nums .u8 [bv]) rfl (cell_one_new _ _ _) (by simp[nums,Value.oneCell']) (Nat.le_trans (show k+1≤300001 by omega) (by decide)) (by omega) (by rw[World.size_alloc];have:=hB.size;omega);rw[←nums_append,HSn.out]at h2;have hB2:=below_grown hown3 h3 (by rw[World.size_alloc];have:=hB.size;omega);have hB3:=(hB.alloc hB.size (.cells #[.int .u8 bv] 5)).trans hB2;have HR:=hid hr;clear hr h3 h4 h5 hown2 hown3 hi8 z80 z81 z82;go_wp2_with(at_builtin;refine Lib.wpList_append_run _ rfl _ _ _ _ rfl _ _ rfl rfl _ _ HR.out ?_);go_roundw;case rel=>exact⟨k+1,h0,by simp,h2,hB3⟩
   case measure=>simp[intOf];omega
  ·obtain rfl:k=ln:=by omega
   have d1:decide ((k:Int)<(k:Int))=false:=decide_eq_false (by omega);have d2:decide (k<k)=false:=decide_eq_false (by omega);rw[List.take_of_length_le (by rw[HBl.out];exact Nat.le_refl _)]at hown;go_wp2_with fail;refine(HL1.out).mono ?_;rintro e V1 ⟨rfl,hb⟩;(try dsimp only);have hown1:=ownsRow_below hown hb;replace hB:=hB.trans (hb.mono hB.size);clear hb hown;go_wp2_with fail;go_ret2;exact⟨⟨_,rfl,hown1⟩,hB⟩
end
end Go.Proofs.YtbffpkmfhkphdaaGreatDoor
namespace Go.Proofs.YtbffpkmfhkphdaaGreatDoor
open Go Lib Go.RowKit Limb
theorem ahead_find(z:Nat)(p:Nat→Bool): ∀(fl:List Nat) (k:Nat),(∀j,j<k→wd fl j≠z∧p (wd fl j)=false)→k≤fl.length→(Limb.ahead z fl).find? p=(Limb.ahead z (fl.drop k)).find? p
 |_,0,_,_=>rfl
 |[],k+1,_,h=>by simp at h
 |a :: t,k+1,h,hk=>by
  obtain⟨h1,h2⟩:=h 0 (by omega);have h1:a≠z:=h1;have h2:p a=false:=h2;show(if a=z then[]else a :: Limb.ahead z t).find? p=(Limb.ahead z (t.drop k)).find? p
  rw[if_neg h1,List.find?_cons_of_neg (by rw[h2];decide)];exact ahead_find z p t k (fun j hj=>h (j+1) (by omega)) (by simpa using hk)
theorem drop_wd{l:List Nat}{k:Nat}(h:k<l.length):l.drop k=wd l k :: l.drop (k+1):=by
 rw[List.drop_eq_getElem_cons h,wd_lt h]
section
variable {w:World} {F:Foot} {h:Hp}
theorem getA_fld{o k:Nat}(hp:isF h o 1 0=true)(hk:k<(hdO h o).size):getA h o (k:Int) [1,4]=fld h o k∧lookE h o (k:Int) [1,4]=0:=by
 unfold isF at hp;simp only[Bool.and_eq_true,decide_eq_true_eq]at hp;obtain⟨⟨h1,h2⟩,_⟩:=hp;have hlen:(hdO h o).len=(hdO h o).size:=len_size (by omega);have e:lookE h o (k:Int) [1,4]=0:=lookE_zero.2 ⟨h1,by rw[h2];rfl,by omega,by rw[hlen];omega⟩;exact⟨by unfold getA;rw[if_pos e,Int.toNat_natCast],e⟩
theorem fld_lt32(k:Limb.Good h)(o i:Nat):fld h o i<4294967296:=k.lim.wd _
theorem found_symbol(H:HeapAt w F h)(l:Nat)(hl:l<4294967296)(p:Nat→Bool)(c1 c2:Value)(HIs: ∀X,Below w.heap.size w X→∀o,o<4294967296→Calls Tryz.prog 311 #[.int .u32 (o:Nat),c1,c2] X fun e X'=>e= .returned (.bool (p o))∧Below X.heap.size X X'):Calls Tryz.prog 293 #[.pointer (some ⟨F.p,0,none⟩),.int .u32 l,.func (.func 311) #[] #[c1,c2]] w fun e w'=>(∃z:Int,e= .returned (.int .i64 z)∧((z= -1∧(isF h l 1 0=true→(Limb.ahead (wd h.rt 0) (flds h l)).find? p=none))∨∃k:Nat,z=k∧isF h l 1 0=true∧k<(hdO h l).size∧(Limb.ahead (wd h.rt 0) (flds h l)).find? p=some (fld h l k)))∧Below w.heap.size w w':=by
 have HP:=hid (kernel_pointers H l 0 hl)
 cases hp:isF h l 1 0 with
 |false=>
  have hP:=HP.out;rw[hp]at hP;have HP:=hid hP;clear hP hp H HIs;go_enter Tryz.func293,Tryz.ntmps293;go_wp2_with fail;refine(HP.out).mono ?_;rintro e V ⟨rfl,hB⟩;(try dsimp only);go_wp2_with fail;go_ret;exact⟨⟨-1,rfl,.inl ⟨rfl,fun h=>by cases h⟩⟩,hB⟩
 |true=>
  have hP:=HP.out;rw[hp]at hP;have HP:=hid hP;have hi:isO h l=true:=by unfold isF at hp;simp only[Bool.and_eq_true]at hp;exact hp.1.1
  have hX:hdX h l=hdO h l:=(by unfold hdX;rw[if_pos hi]);have HR:=hid (fun X (hb:Below w.heap.size w X)=>kernel_root (H.below hb) 0 (by decide));have hS:=fun X (hb:Below w.heap.size w X)=>kernel_size (H.below hb) l hl
  rw[hX]at hS;have HS:=hid hS;have hg:=fun X (hb:Below w.heap.size w X) (k:Nat) (hk:k<(hdO h l).size)=>heap_get (H.below hb) l hl (k:Int) (by omega) (by have:=(H.good.ok _ (isO_iff.1 hi).2.2).1.size;have hk:k<(Limb.hd h (l/2)).size:=hk;omega)
  have HG:=hid (fun X (hb:Below w.heap.size w X) (k:Nat) (hk:k<(hdO h l).size)=>show Calls Tryz.prog 313 #[.pointer (some ⟨F.p,0,none⟩),.int .u32 l,.int .i64 (k:Nat)] X fun e X'=>e= .returned (.tuple #[.int .u32 (fld h l k),.int .i64 (0:Nat)])∧Below X.heap.size X X' from by
   have:=hg X hb k hk;rw[(getA_fld hp hk).1,(getA_fld hp hk).2]at this;exact this)
  have HF:=hid (fun k (hk:k<(hdO h l).size)=>show fld h l k=wd (flds h l) k from(flds_wd hk).symm);have HFL:=hid (flds_length H.good hi);have HLt:=hid (fun k=>fld_lt32 H.good l k);have HI:=hid HIs;have hz0:=root_lt H.good 0;generalize wd h.rt 0=nl at*
  have hsz:(hdO h l).size≤65535:=(H.good.ok _ (isO_iff.1 hi).2.2).1.size;generalize(hdO h l).size=sz at*
  have Hp:=hid hp;clear hP hp hi hX hS hg H HIs;go_enter Tryz.func293,Tryz.ntmps293;go_wp2_with fail;refine(HP.out).mono ?_;rintro e V ⟨rfl,hB⟩;(try dsimp only);go_wp2_with fail;refine(HR.out V hB).mono ?_;rintro e V1 ⟨rfl,rfl⟩;(try dsimp only);go_wp2_with fail;refine(HS.out _ hB).mono ?_;rintro e V2 ⟨rfl,hb⟩;(try dsimp only);replace hB:=hB.trans (hb.mono hB.size);clear hb;go_wp2_with fail;go_loopw[20] (fun i wr=> ∃k:Nat,k≤sz∧i= .int .i64 k∧Hid (∀j,j<k→wd (flds h l) j≠nl∧p (wd (flds h l) j)=false)∧Below w.heap.size w wr) (fun i _=>sz-(intOf i).toNat);case atStart=>exact⟨0,Nat.zero_le _,rfl,fun j hj=>absurd hj (by omega),hB⟩
  case round=>
   clear hB;obtain⟨k,hk,rfl,HPre,hB⟩:=hrel;by_cases h0:k<sz
   ·have d1:decide ((k:Int)<(sz:Int))=true:=decide_eq_true (by omega);have d2:decide (k<sz)=true:=decide_eq_true h0;have hlt:=HLt.out k;have hfk:=HF.out k h0;have HG1:=hid (HG.out wr hB k h0);have Hfk:=hid hfk;have HFind:=hid (ahead_find nl p (flds h l) k HPre.out (by rw[HFL.out];exact hk));have HDrop:=hid (drop_wd (l:=flds h l) (k:=k) (by rw[HFL.out];exact h0));clear hfk;go_wp2_with fail;refine(HG1.out).mono ?_;rintro e V3 ⟨rfl,hb⟩;(try dsimp only);replace hB:=hB.trans (hb.mono hB.size);clear hb;by_cases hn:fld h l k=nl
    ·have q:((fld h l k:Int)==(nl:Int))=true:=by rw[beq_iff_eq];omega
     have HN:=hid (show(Limb.ahead nl (flds h l)).find? p=none from by
      rw[HFind.out,HDrop.out,←Hfk.out,hn];show(if nl=nl then[]else _).find? p=none;rw[if_pos rfl];rfl)
     rw[hn];clear q hn Hfk HDrop HFind;go_wp2_with fail;go_ret;exact⟨⟨-1,rfl,.inl ⟨rfl,fun _=>HN.out⟩⟩,hB⟩
    ·have q:((fld h l k:Int)==(nl:Int))=false:=(by rw[beq_eq_false_iff_ne];omega);have q2:(fld h l k==nl)=false:=by rw[beq_eq_false_iff_ne];exact hn
     have HN:=hid hn;have HIs1:=hid (HI.out V3 hB (fld h l k) hlt);generalize hfv:fld h l k=v at*
     have Hfv:=hid hfv;clear hfv hn;go_wp2_with fail;refine(HIs1.out).mono ?_;rintro e V4 ⟨rfl,hb⟩;(try dsimp only);replace hB:=hB.trans (hb.mono hB.size);clear hb
     cases hpv:p v with
     |true=>
      have HN2:=hid (show(Limb.ahead nl (flds h l)).find? p=some (fld h l k)from by
       rw[HFind.out,HDrop.out,←Hfk.out,Hfv.out];show(if v=nl then[]else v :: _).find? p=some v
       rw[if_neg HN.out,List.find?_cons_of_pos hpv])
      clear Hfk HDrop HFind HN;rw[←Hfv.out]at hpv;clear hpv;go_wp2_with fail;go_ret;exact⟨⟨k,rfl,.inr ⟨k,rfl,by trivial,h0,HN2.out⟩⟩,hB⟩
     |false=>
      have HN2:=hid (show∀j,j<k+1→wd (flds h l) j≠nl∧p (wd (flds h l) j)=false from fun j hj=>by
       by_cases e:j=k
       ·rw[e,←Hfk.out];exact⟨HN.out,hpv⟩
       ·exact HPre.out j (by omega))
      clear Hfk HDrop HFind HN hpv;go_wp2_with fail;go_roundw;case rel=>exact⟨k+1,h0,by simp,HN2.out,hB⟩
      case measure=>simp[intOf];omega
   ·obtain rfl:k=sz:=by omega
    have d1:decide ((k:Int)<(k:Int))=false:=decide_eq_false (by omega);have d2:decide (k<k)=false:=decide_eq_false (by omega)
    have HN:=hid (show(Limb.ahead nl (flds h l)).find? p=none from by
     rw[ahead_find nl p (flds h l) k HPre.out (by rw[HFL.out];exact hk),List.drop_of_length_le (by rw[HFL.out];exact Nat.le_refl _)];rfl)
    go_wp2_with fail;go_ret;exact⟨⟨-1,rfl,.inl ⟨rfl,fun _=>HN.out⟩⟩,hB⟩
theorem found_global(H:HeapAt w F h)(l:Nat)(hl:l<4294967296)(p:Nat→Bool)(c1 c2:Value)(HIs: ∀X,Below w.heap.size w X→∀o,o<4294967296→Calls Tryz.prog 294 #[.int .u32 (o:Nat),c1,c2] X fun e X'=>e= .returned (.bool (p o))∧Below X.heap.size X X'):Calls Tryz.prog 293 #[.pointer (some ⟨F.p,0,none⟩),.int .u32 l,.func (.func 294) #[] #[c1,c2]] w fun e w'=>(∃z:Int,e= .returned (.int .i64 z)∧((z= -1∧(isF h l 1 0=true→(Limb.ahead (wd h.rt 0) (flds h l)).find? p=none))∨∃k:Nat,z=k∧isF h l 1 0=true∧k<(hdO h l).size∧(Limb.ahead (wd h.rt 0) (flds h l)).find? p=some (fld h l k)))∧Below w.heap.size w w':=by
 have HP:=hid (kernel_pointers H l 0 hl)
 cases hp:isF h l 1 0 with
 |false=>
  have hP:=HP.out;rw[hp]at hP;have HP:=hid hP;clear hP hp H HIs;go_enter Tryz.func293,Tryz.ntmps293;go_wp2_with fail;refine(HP.out).mono ?_;rintro e V ⟨rfl,hB⟩;(try dsimp only);go_wp2_with fail;go_ret;exact⟨⟨-1,rfl,.inl ⟨rfl,fun h=>by cases h⟩⟩,hB⟩
 |true=>
  have hP:=HP.out;rw[hp]at hP;have HP:=hid hP;have hi:isO h l=true:=by unfold isF at hp;simp only[Bool.and_eq_true]at hp;exact hp.1.1
  have hX:hdX h l=hdO h l:=(by unfold hdX;rw[if_pos hi]);have HR:=hid (fun X (hb:Below w.heap.size w X)=>kernel_root (H.below hb) 0 (by decide));have hS:=fun X (hb:Below w.heap.size w X)=>kernel_size (H.below hb) l hl
  rw[hX]at hS;have HS:=hid hS;have hg:=fun X (hb:Below w.heap.size w X) (k:Nat) (hk:k<(hdO h l).size)=>heap_get (H.below hb) l hl (k:Int) (by omega) (by have:=(H.good.ok _ (isO_iff.1 hi).2.2).1.size;have hk:k<(Limb.hd h (l/2)).size:=hk;omega)
  have HG:=hid (fun X (hb:Below w.heap.size w X) (k:Nat) (hk:k<(hdO h l).size)=>show Calls Tryz.prog 313 #[.pointer (some ⟨F.p,0,none⟩),.int .u32 l,.int .i64 (k:Nat)] X fun e X'=>e= .returned (.tuple #[.int .u32 (fld h l k),.int .i64 (0:Nat)])∧Below X.heap.size X X' from by
   have:=hg X hb k hk;rw[(getA_fld hp hk).1,(getA_fld hp hk).2]at this;exact this)
  have HF:=hid (fun k (hk:k<(hdO h l).size)=>show fld h l k=wd (flds h l) k from(flds_wd hk).symm);have HFL:=hid (flds_length H.good hi);have HLt:=hid (fun k=>fld_lt32 H.good l k);have HI:=hid HIs;have hz0:=root_lt H.good 0;generalize wd h.rt 0=nl at*
  have hsz:(hdO h l).size≤65535:=(H.good.ok _ (isO_iff.1 hi).2.2).1.size;generalize(hdO h l).size=sz at*
  have Hp:=hid hp;clear hP hp hi hX hS hg H HIs;go_enter Tryz.func293,Tryz.ntmps293;go_wp2_with fail;refine(HP.out).mono ?_;rintro e V ⟨rfl,hB⟩;(try dsimp only);go_wp2_with fail;refine(HR.out V hB).mono ?_;rintro e V1 ⟨rfl,rfl⟩;(try dsimp only);go_wp2_with fail;refine(HS.out _ hB).mono ?_;rintro e V2 ⟨rfl,hb⟩;(try dsimp only);replace hB:=hB.trans (hb.mono hB.size);clear hb;go_wp2_with fail;go_loopw[20] (fun i wr=> ∃k:Nat,k≤sz∧i= .int .i64 k∧Hid (∀j,j<k→wd (flds h l) j≠nl∧p (wd (flds h l) j)=false)∧Below w.heap.size w wr) (fun i _=>sz-(intOf i).toNat);case atStart=>exact⟨0,Nat.zero_le _,rfl,fun j hj=>absurd hj (by omega),hB⟩
  case round=>
   clear hB;obtain⟨k,hk,rfl,HPre,hB⟩:=hrel;by_cases h0:k<sz
   ·have d1:decide ((k:Int)<(sz:Int))=true:=decide_eq_true (by omega);have d2:decide (k<sz)=true:=decide_eq_true h0;have hlt:=HLt.out k;have hfk:=HF.out k h0;have HG1:=hid (HG.out wr hB k h0);have Hfk:=hid hfk;have HFind:=hid (ahead_find nl p (flds h l) k HPre.out (by rw[HFL.out];exact hk));have HDrop:=hid (drop_wd (l:=flds h l) (k:=k) (by rw[HFL.out];exact h0));clear hfk;go_wp2_with fail;refine(HG1.out).mono ?_;rintro e V3 ⟨rfl,hb⟩;(try dsimp only);replace hB:=hB.trans (hb.mono hB.size);clear hb;by_cases hn:fld h l k=nl
    ·have q:((fld h l k:Int)==(nl:Int))=true:=by rw[beq_iff_eq];omega
     have HN:=hid (show(Limb.ahead nl (flds h l)).find? p=none from by
      rw[HFind.out,HDrop.out,←Hfk.out,hn];show(if nl=nl then[]else _).find? p=none;rw[if_pos rfl];rfl)
     rw[hn];clear q hn Hfk HDrop HFind;go_wp2_with fail;go_ret;exact⟨⟨-1,rfl,.inl ⟨rfl,fun _=>HN.out⟩⟩,hB⟩
    ·have q:((fld h l k:Int)==(nl:Int))=false:=(by rw[beq_eq_false_iff_ne];omega);have q2:(fld h l k==nl)=false:=by rw[beq_eq_false_iff_ne];exact hn
     have HN:=hid hn;have HIs1:=hid (HI.out V3 hB (fld h l k) hlt);generalize hfv:fld h l k=v at*
     have Hfv:=hid hfv;clear hfv hn;go_wp2_with fail;refine(HIs1.out).mono ?_;rintro e V4 ⟨rfl,hb⟩;(try dsimp only);replace hB:=hB.trans (hb.mono hB.size);clear hb
     cases hpv:p v with
     |true=>
      have HN2:=hid (show(Limb.ahead nl (flds h l)).find? p=some (fld h l k)from by
       rw[HFind.out,HDrop.out,←Hfk.out,Hfv.out];show(if v=nl then[]else v :: _).find? p=some v
       rw[if_neg HN.out,List.find?_cons_of_pos hpv])
      clear Hfk HDrop HFind HN;rw[←Hfv.out]at hpv;clear hpv;go_wp2_with fail;go_ret;exact⟨⟨k,rfl,.inr ⟨k,rfl,by trivial,h0,HN2.out⟩⟩,hB⟩
     |false=>
      have HN2:=hid (show∀j,j<k+1→wd (flds h l) j≠nl∧p (wd (flds h l) j)=false from fun j hj=>by
       by_cases e:j=k
       ·rw[e,←Hfk.out];exact⟨HN.out,hpv⟩
       ·exact HPre.out j (by omega))
      clear Hfk HDrop HFind HN hpv;go_wp2_with fail;go_roundw;case rel=>exact⟨k+1,h0,by simp,HN2.out,hB⟩
      case measure=>simp[intOf];omega
   ·obtain rfl:k=sz:=by omega
    have d1:decide ((k:Int)<(k:Int))=false:=decide_eq_false (by omega);have d2:decide (k<k)=false:=decide_eq_false (by omega)
    have HN:=hid (show(Limb.ahead nl (flds h l)).find? p=none from by
     rw[ahead_find nl p (flds h l) k HPre.out (by rw[HFL.out];exact hk),List.drop_of_length_le (by rw[HFL.out];exact Nat.le_refl _)];rfl)
    go_wp2_with fail;go_ret;exact⟨⟨-1,rfl,.inl ⟨rfl,fun _=>HN.out⟩⟩,hB⟩
end
end Go.Proofs.YtbffpkmfhkphdaaGreatDoor

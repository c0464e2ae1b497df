/- The walks of the document's heap: Alloc, Make. The walk of package kernel's reads. -/
import Derived.Test.YtbffpkmfhkphdaaGreatDoorGX30
import Derived.Laws.StructEq
import Derived.Laws.BytesArg
set_option linter.unusedVariables false
set_option linter.unusedSimpArgs false
set_option maxRecDepth 1000000
set_option maxHeartbeats 6400000
namespace Go.Proofs.YtbffpkmfhkphdaaGreatDoor
open Go Lib Go.RowKit Limb
theorem set_fill(k n z v:Nat)(h:k<n):(List.replicate k v++List.replicate (n-k) z).set k v=List.replicate (k+1) v++List.replicate (n-(k+1)) z:=by
 obtain⟨j,hj⟩: ∃j,n-k=j+1:=⟨n-k-1,by omega⟩;rw[hj,show n-(k+1)=j by omega,List.set_append_right _ _ (by simp),List.length_replicate,Nat.sub_self,List.replicate_succ,List.set_cons_zero,List.replicate_succ'];simp
section
variable {w:World} {G:RFoot} {h:Hp}
theorem r_alloc(H:RefAt w G h)(h5w:5≤w.heap.size)(c f n o:Nat)(h':Hp)(hf:f=1∨f=3)(hn:n≤65535)(hp:allocP h c f n=some (o,h')):Calls Tryz.prog 46 #[.pointer (some ⟨G.p,0,none⟩),.int .u32 c,.int .i64 f,.int .i64 n] w fun e w'=>e= .returned (.tuple #[.int .u32 o,.int .i64 0])∧RMoved w G w' h':=by
 have h1:1≤f:=by omega
 have h4:f≤4:=by omega
 obtain⟨hc,hr,ho,hh⟩:=allocP_some hp;have hcl:=clsO_lt H.good hc;have hC:=r_isclass H c hcl;rw[hc]at hC;have HC:=hid hC;have hv32:=H.good.rlim.wd 0;obtain⟨v,hv⟩: ∃v,v=(if f=1∨f=4 then wd h.rt 0 else 0):=⟨_,rfl⟩;rw[←hv]at hh;have hvl:v<4294967296:=by rw[hv];split;exact hv32;decide
 have hG:=good_alloc H.good h1 h4 hn hvl hc hr
 have HLay:=hid (fun X gf (hb:Below w.heap.size w X) (rf:Row X gf 60 (nums .u32 (List.replicate n v))) (hg:w.heap.size≤gf)=>show Calls Tryz.prog 125 #[.pointer (some ⟨G.p,0,none⟩),.int .u32 c,.int .i64 f,.int .i64 0,.slice (some ⟨gf,0,none⟩) n n] X fun e w'=>e= .returned (.tuple #[.int .u32 o,.int .i64 0])∧RMoved w G w' h' from by
  have:=r_lay (H.below hb) (Nat.le_trans h5w hb.size) c f 0 (List.replicate n v) gf n (List.length_replicate).symm rf (fun e=>by have:=H.lt _ e;omega) ⟨by simpa using hn,h1,h4,Nat.zero_le _,.inl rfl⟩ hr hG;rw[ho,hh];exact this.mono fun e w' ⟨x,G',y⟩=>⟨x,G',RStep.of_below hb y H.lt⟩)
 have HRt:=hid (fun X (hb:Below w.heap.size w X)=>show X.cell? ⟨G.p,2,none⟩=some (.slice (some ⟨G.gr,0,none⟩) 64 64)∧X.cell? ⟨G.gr,0,none⟩=some (.int .u32 (wd h.rt 0:Nat))from by
  obtain⟨cw,cs,c0,c1,c2,_⟩:=(H.below hb).cells;exact⟨c2,(H.below hb).root_cell (by decide)⟩)
 have sl:Sl w G.gr 61 64 64 (nums .u32 h.rt):=H.roots.sl (by rw[nums_length];exact H.good.rlen.symm) (by decide);have HIx:=hid (fun W=>show(Instr.indexAt 71 (.slice (some ⟨G.gr,0,none⟩) 64 64) (.int .i64 0)).run Tryz.prog W= .ok (.pointer (some ⟨G.gr,0,none⟩)) W from sl.index 71 Tryz.underlying71 size_oop W .i64 0 (by decide));have d3:decide ((n:Int)<0)=false:=decide_eq_false (by omega);have d4:decide ((65535:Int)<(n:Int))=false:=decide_eq_false (by omega);have d4':decide (65535<n)=false:=decide_eq_false (by omega);rcases hf with rfl|rfl
 ·have hv2:v=wd h.rt 0:=(by rw[hv];rfl);rw[←hv2]at HRt;clear hv hv2 hC hc hr ho hh hG hcl sl H hp hv32 h1 h4;go_enter Tryz.func46,Tryz.ntmps46;go_wp2_with fail;refine(HC.out).mono ?_;rintro e w0 ⟨rfl,rfl⟩;(try dsimp only);go_wp2_with(at_make;refine wpList_make_row rfl _ _ _ rfl 60 (.int .u32 0) 4 Tryz.underlying22 info32 rfl _ _ _ _ n n rfl rfl rfl rfl (Nat.le_refl _) (by omega) (by omega) ?_;intro w1 g hg1 hg2 hrow hB);rw[show List.replicate n (Value.int .u32 0)=nums .u32 (List.replicate n 0)from(nums_replicate .u32 n).symm]at hrow;have HG:=hid hg1;clear hg1 hg2 HC;go_loopw[11] (fun i wr=> ∃k:Nat,k≤n∧i= .int .i64 k∧Row wr g 60 (nums .u32 (List.replicate k v++List.replicate (n-k) 0))∧Below w.heap.size w wr) (fun i _=>n-(intOf i).toNat);case atStart=>exact⟨0,Nat.zero_le _,rfl,hrow,hB⟩
  case round=>
   clear hrow hB;obtain⟨k,hk,rfl,hrow,hB⟩:=hrel;by_cases h0:k<n
   ·have e1:decide ((k:Int)<(n:Int))=true:=decide_eq_true (by omega);have e2:decide (k<n)=true:=decide_eq_true h0;obtain⟨q1,q2⟩:=HRt.out wr hB;have ix0:=HIx.out;have sl:=hrow.sl (n:=n) (by simp[nums_length];omega) (Nat.le_trans hn (by decide));have ix:=fun W=>sl.index 22 Tryz.underlying22 size32 W .i64 k h0
    have cx:=hrow.cell (i:=k) (by simp;omega);have zx:=hrow.free k;have hst:=hrow.store k (v:Int) v rfl;rw[set_fill k n 0 v h0]at hst;have hB2:=below_store hB HG.out (i:=k) (.int .u32 (v:Int));clear sl;go_wp2_with fail;go_roundw;case rel=>exact⟨k+1,h0,by simp,hst,hB2⟩
    case measure=>simp[intOf];omega
   ·obtain rfl:k=n:=by omega
    have e1:decide ((k:Int)<(k:Int))=false:=decide_eq_false (by omega);have e2:decide (k<k)=false:=decide_eq_false (by omega);rw[Nat.sub_self,List.replicate_zero,List.append_nil]at hrow;have HL:=hid (HLay.out wr g hB hrow HG.out);clear hrow hB HLay;go_wp2_with fail;refine(HL.out).mono ?_;rintro e V2 ⟨rfl,hM⟩;(try dsimp only);have HM:=hid hM;clear hM;go_wp2_with fail;go_ret2;exact⟨rfl,HM.out⟩
 ·have hv2:v=0:=(by rw[hv];rfl);subst hv2;clear hv hC hc hr ho hh hG hcl sl H hp hv32 h1 h4;go_enter Tryz.func46,Tryz.ntmps46;go_wp2_with fail;refine(HC.out).mono ?_;rintro e w0 ⟨rfl,rfl⟩;(try dsimp only);go_wp2_with(at_make;refine wpList_make_row rfl _ _ _ rfl 60 (.int .u32 0) 4 Tryz.underlying22 info32 rfl _ _ _ _ n n rfl rfl rfl rfl (Nat.le_refl _) (by omega) (by omega) ?_;intro w1 g hg1 hg2 hrow hB);rw[show List.replicate n (Value.int .u32 0)=nums .u32 (List.replicate n 0)from(nums_replicate .u32 n).symm]at hrow;have HG:=hid hg1;clear hg1 hg2 HC;have HL:=hid (HLay.out w1 g hB hrow HG.out);clear hrow hB HLay HG;have b2:(decide ((0:Int)<(n:Int))&&false)=false:=by simp
  by_cases h0:0<n
  ·have e1:decide ((0:Int)<(n:Int))=true:=decide_eq_true (by omega);have e2:decide (0<n)=true:=decide_eq_true h0;go_loopw[11] (fun i wr=>i= .int .i64 0∧wr=w1) (fun i _=>0);case atStart=>exact⟨rfl,rfl⟩
   case round=>
    obtain⟨rfl,rfl⟩:=hrel;go_wp2_with fail;refine(HL.out).mono ?_;rintro e V2 ⟨rfl,hM⟩;(try dsimp only);have HM:=hid hM;clear hM;go_wp2_with fail;go_ret2;exact⟨rfl,HM.out⟩
  ·obtain rfl:n=0:=by omega
   go_loopw[11] (fun i wr=>i= .int .i64 0∧wr=w1) (fun i _=>0);case atStart=>exact⟨rfl,rfl⟩
   case round=>
    obtain⟨rfl,rfl⟩:=hrel;go_wp2_with fail;refine(HL.out).mono ?_;rintro e V2 ⟨rfl,hM⟩;(try dsimp only);have HM:=hid hM;clear hM;go_wp2_with fail;go_ret2;exact⟨rfl,HM.out⟩
theorem r_make(H:RefAt w G h)(h5w:5≤w.heap.size)(c:Nat)(a:Option Addr)(t:List Nat)(n cap o:Nat)(h':Hp)(hlay:Lay .u8 w a t)(ht:B8 t)(hn:n=t.length)(hl:n≤262140)(hp:makeP h c t=some (o,h')):Calls Tryz.prog 144 #[.pointer (some ⟨G.p,0,none⟩),.int .u32 c,.slice a n cap] w fun e w'=>e= .returned (.tuple #[.int .u32 o,.int .i64 0])∧RMoved w G w' h':=by
 unfold makeP at hp;split at hp;case isFalse=>cases hp
 rename_i hcr;rw[Bool.and_eq_true,←hn]at hcr;obtain⟨hc,hr⟩:=hcr;rw[Option.some.injEq,Prod.mk.injEq,←hn]at hp;obtain⟨ho,hh⟩:=hp;have hcl:=clsO_lt H.good hc;have hC:=r_isclass H c hcl;rw[hc]at hC;have HC:=hid hC;have hpl:=packB_length t;rw[←hn]at hpl;have hG:=good_make H.good ht (by rw[←hn];exact hl) hc (by rw[←hn];exact hr);rw[←hn]at hG;obtain⟨m,hm⟩: ∃m,m=(n+3)/4:=⟨_,rfl⟩;obtain⟨sp,hsp⟩: ∃sp,sp=4*((n+3)/4)-n:=⟨_,rfl⟩
 have HLn:=hid (show Calls Tryz.prog 234 #[.int .i64 n] w fun e w'=>e= .returned (.tuple #[.int .i64 m,.int .i64 sp])∧w=w' from by
  have:=r_length w n (by omega);rw[←hsp,←hm]at this;exact this)
 have HPk:=hid (show Calls Tryz.prog 235 #[.slice a n cap] w fun e w'=>(∃g,e= .returned (.slice (some ⟨g,0,none⟩) m m)∧w.heap.size≤g∧Row w' g 60 (nums .u32 (packB t)))∧Below w.heap.size w w' from by
  have:=r_packbytes w a t n cap hlay ht hn hl;rw[←hm]at this;exact this)
 have HLay:=hid (fun X gf (hb:Below w.heap.size w X) (rf:Row X gf 60 (nums .u32 (packB t))) (hg:w.heap.size≤gf)=>show Calls Tryz.prog 125 #[.pointer (some ⟨G.p,0,none⟩),.int .u32 c,.int .i64 2,.int .i64 sp,.slice (some ⟨gf,0,none⟩) m m] X fun e w'=>e= .returned (.tuple #[.int .u32 o,.int .i64 0])∧RMoved w G w' h' from by
  rw[←hsp]at hG hh;have:=r_lay (H.below hb) (Nat.le_trans h5w hb.size) c 2 sp (packB t) gf m (by rw[hpl,hm]) rf (fun e=>by have:=H.lt _ e;omega) ⟨by show(packB t).length≤65535;omega,by show 1≤2;decide,by show 2≤4;decide,by show sp≤3;omega,by show sp=0∨(2=2∧0<(packB t).length);rw[hpl];omega⟩ (by rw[hm];exact hr) hG;rw[←ho,←hh];exact this.mono fun e w' ⟨x,G',y⟩=>⟨x,G',RStep.of_below hb y H.lt⟩)
 have d1:decide ((262140:Int)<(n:Int))=false:=decide_eq_false (by omega);have d1':decide (262140<n)=false:=decide_eq_false (by omega);clear hC hc hr ho hh hG hcl H hm hsp hpl hlay ht hn;go_enter Tryz.func144,Tryz.ntmps144;go_wp2_with fail;refine(HC.out).mono ?_;rintro e w1 ⟨rfl,rfl⟩;(try dsimp only);go_wp2_with fail;refine(HLn.out).mono ?_;rintro e w1 ⟨rfl,rfl⟩;(try dsimp only);go_wp2_with fail;refine(HPk.out).mono ?_;rintro e V ⟨⟨gf,rfl,hg,rf⟩,hB⟩;(try dsimp only);have HL:=hid (HLay.out V gf hB rf hg);clear hg rf hB HLay HPk HLn HC;go_wp2_with fail;refine(HL.out).mono ?_;rintro e V2 ⟨rfl,hM⟩;(try dsimp only);have HM:=hid hM;clear hM;go_wp2_with fail;go_ret2;exact⟨rfl,HM.out⟩
end
end Go.Proofs.YtbffpkmfhkphdaaGreatDoor
namespace Go.Proofs.YtbffpkmfhkphdaaGreatDoor
open Go Lib Go.RowKit Limb
def tx(S:ByteArray):List Nat:=S.data.toList.map UInt8.toNat
theorem tx_length(S:ByteArray):(tx S).length=S.size:=by unfold tx;rw[List.length_map,Array.length_toList];rfl
theorem tx_b8(S:ByteArray):B8 (tx S):=by
 intro x hx;unfold tx at hx;obtain⟨u,_,rfl⟩:=List.mem_map.1 hx;exact u.toNat_lt
theorem str_of_nats{l:List Nat}(hl:B8 l):tx (strOfNums (l.map fun n:Nat=>(n:Int)))=l:=by
 unfold tx;rw[strOfNums_data,List.map_map,List.map_map]
 have: ∀x∈l,(UInt8.toNat∘(fun n:Int=>UInt8.ofNat n.toNat)∘fun n:Nat=>(n:Int)) x=x:=fun x hx=>by
  show(UInt8.ofNat ((x:Int).toNat)).toNat=x
  rw[Int.toNat_natCast,UInt8.toNat_ofNat'];exact Nat.mod_eq_of_lt (hl x hx)
 exact(List.map_congr_left this).trans (List.map_id _)
theorem tx_inj{a b:ByteArray}(h:tx a=tx b):a=b:=by
 unfold tx at h
 have h2:a.data.toList=b.data.toList:=by
  generalize a.data.toList=x at h;generalize b.data.toList=y at h
  induction x generalizing y with
  |nil=>cases y with
   |nil=>rfl
   |cons _ _=>simp at h
  |cons p s ih=>cases y with
   |nil=>simp at h
   |cons q t=>
    simp only[List.map_cons,List.cons.injEq]at h;rw[UInt8.toNat_inj.1 h.1,ih t h.2]
 obtain⟨⟨x⟩⟩:=a;obtain⟨⟨y⟩⟩:=b;simpa using h2
theorem conv_lay{P:Program}{w:World}{a:Option Addr}{l:List Nat}{n c:Nat}(src e:TypeId)(hs:P.underlying src=some (.slice e))(he:P.underlying e=some (.int .u8))(h:Lay .u8 w a l)(ha: ∃g,a=some ⟨g,0,none⟩)(hn:n=l.length)(hb:B8 l): ∃s,tx s=l∧∀dst,P.underlying dst=some .string→(convert src dst (.slice a n c)).run P w= .ok (.string s) w:=by
 refine⟨strOfNums (l.map fun n:Nat=>(n:Int)),str_of_nats hb,?_⟩;obtain⟨g,rfl⟩:=ha;refine run_convert_bytes_arg w src e hs he g 0 n c _ (by simp[hn]) (fun i hi=>?_);obtain⟨b,off,h1,h2⟩:=h;have h3:=(h1 (by omega)).1;simp only[Option.some.injEq,Addr.mk.injEq,and_true]at h3;obtain⟨rfl,rfl⟩:=h3;rw[h2 i (by omega),wd_lt (by omega)];simp[List.getD_eq_getElem?_getD,show i<l.length by omega]
theorem readsO_of{h:Hp}{t:List Nat}{o:Nat}:readsO h t o=(decide (erX h o=0)&&decide ((hdX h o).len=t.length)&&decide (bytE h o=0)&&decide (bytO h o=t)):=by
 unfold readsO isF erX hdX bytE;by_cases hi:isO h o=true
 ·rw[if_pos hi,if_pos hi,if_pos hi,hi];by_cases hf:(hdO h o).fmt=2
  ·rw[if_pos hf,decide_eq_true hf];simp
  ·rw[if_neg hf,decide_eq_false hf];simp
 ·rw[if_neg hi,if_neg hi,if_neg hi];rw[Bool.not_eq_true]at hi;rw[hi];simp
theorem bytO_length{h:Hp}(k:Limb.Good h){o:Nat}(he:bytE h o=0):(bytO h o).length=(hdO h o).len:=by
 unfold bytE at he;by_cases hi:isO h o=true
 ·rw[if_pos hi]at he;by_cases hf:(hdO h o).fmt=2
  ·obtain⟨b1,_⟩:=bytes_parts k hi hf;unfold bytO;rw[List.length_take,unpB_length,flds_length k hi];omega
  ·rw[if_neg hf]at he;omega
 ·rw[if_neg hi]at he;omega
theorem bytO_b8(h:Hp)(o:Nat):B8 (bytO h o):=fun x hx=>unpB_b8 _ x (List.mem_of_mem_take hx)
section
variable {w:World} {F:Foot} {h:Hp}
theorem kernel_reads(H:HeapAt w F h)(o:Nat)(ho:o<4294967296)(S:ByteArray)(hS:S.size≤262140):Calls Tryz.prog 312 #[.pointer (some ⟨F.p,0,none⟩),.int .u32 o,.string S] w fun e w'=>e= .returned (.bool (readsO h (tx S) o))∧Below w.heap.size w w':=by
 have HL:=hid (heap_Length H o ho);have HB:=hid (fun X (hb:Below w.heap.size w X)=>heap_Bytes (H.below hb) o ho);obtain⟨r,hr⟩: ∃b,b=readsO h (tx S) o:=⟨_,rfl⟩;have hr2:=hr;rw[readsO_of,tx_length]at hr2;rw[←hr];have HR:=hid hr2;clear hr hr2;by_cases e0:erX h o=0
 ·by_cases e1:(hdX h o).len=S.size
  ·have hl:=HL.out;rw[e0,e1]at hl;have HL:=hid hl;have q:((S.size:Int) != (S.size:Int))=false:=by simp
   by_cases e2:bytE h o=0
   ·have hb:=HB.out;have hlb:=bytO_length H.good e2;have hb8:=bytO_b8 h o;simp only[e2,if_true]at hb;rw[←hlb]at hb;have hrr:=HR.out;rw[e0,e1,e2]at hrr;simp only[decide_true,Bool.true_and]at hrr;generalize bytO h o=bs at*
    have HB:=hid hb;have HRR:=hid hrr;have HB8:=hid hb8;clear hb hrr hlb hl hb8 e0 e1 e2 HR H;go_enter Tryz.func312,Tryz.ntmps312;go_wp2_with fail;refine(HL.out).mono ?_;rintro e V ⟨rfl,hB⟩;(try dsimp only);go_wp2_with fail;refine(HB.out V hB).mono ?_;rintro e V2 ⟨⟨a,c,rfl,hx⟩,hb⟩;(try dsimp only);obtain⟨hga,hlay⟩:=hx (by trivial);obtain⟨s,hs,hcv⟩:=conv_lay (P:=Tryz.prog) (c:=c) 72 5 Tryz.underlying72 Tryz.underlying5 hlay hga rfl HB8.out;have hc:=hcv 9 Tryz.underlying9;replace hB:=hB.trans (hb.mono hB.size);by_cases he:bs=tx S
    ·have hsS:s=S:=tx_inj (hs.trans he);subst hsS;obtain rfl:r=true:=by rw[HRR.out,decide_eq_true he]
     clear hs he HRR;go_wp2_with fail;go_ret;exact⟨rfl,hB⟩
    ·have hne:(s.toList==S.toList)=false:=by
      rw[beq_eq_false_iff_ne];intro e;rw[ByteArray.toList_eq,ByteArray.toList_eq]at e;exact he (hs.symm.trans (by unfold tx;rw[e]))
     obtain rfl:r=false:=by rw[HRR.out,decide_eq_false he]
     clear hs he HRR;go_wp2_with fail;go_ret;exact⟨rfl,hB⟩
   ·obtain rfl:r=false:=by rw[HR.out,decide_eq_false e2];simp
    have hb:=HB.out;simp only[e2,if_false]at hb;have q1:(((bytE h o:Nat):Int)==0)=false:=by rw[beq_eq_false_iff_ne];omega
    have q2:(bytE h o==0)=false:=(by rw[beq_eq_false_iff_ne];exact e2);generalize bytE h o=be at*
    have HB:=hid hb;clear hb hl e0 e1 e2 HR H;go_enter Tryz.func312,Tryz.ntmps312;go_wp2_with fail;refine(HL.out).mono ?_;rintro e V ⟨rfl,hB⟩;(try dsimp only);go_wp2_with fail;refine(HB.out V hB).mono ?_;rintro e V2 ⟨⟨a,c,rfl,hx⟩,hb⟩;(try dsimp only);replace hB:=hB.trans (hb.mono hB.size);clear hb;clear hx;go_wp2_with fail;go_ret;exact⟨rfl,hB⟩
  ·obtain rfl:r=false:=by rw[HR.out,decide_eq_false e1];simp
   have hl:=HL.out;rw[e0]at hl;have q1:((((hdX h o).len:Nat):Int) != (S.size:Int))=true:=by rw[bne_iff_ne];omega
   have q2:((((hdX h o).len:Nat):Int)==(S.size:Int))=false:=(by rw[beq_eq_false_iff_ne];omega);have q3:((hdX h o).len==S.size)=false:=by rw[beq_eq_false_iff_ne];exact e1
   generalize(hdX h o).len=ln at*
   have HL:=hid hl;clear hl e0 e1 HR H HB;go_enter Tryz.func312,Tryz.ntmps312;go_wp2_with fail;refine(HL.out).mono ?_;rintro e V ⟨rfl,hB⟩;(try dsimp only);go_wp2_with fail;go_ret;exact⟨rfl,hB⟩
 ·obtain rfl:r=false:=by rw[HR.out,decide_eq_false e0];simp
  have q1:(((erX h o:Nat):Int) != 0)=true:=(by rw[bne_iff_ne];omega);have q2:(((erX h o:Nat):Int)==0)=false:=by rw[beq_eq_false_iff_ne];omega
  have q3:(erX h o==0)=false:=(by rw[beq_eq_false_iff_ne];exact e0);have hl:=HL.out;generalize erX h o=er at*
  have HL:=hid hl;clear hl e0 HR H HB;go_enter Tryz.func312,Tryz.ntmps312;go_wp2_with fail;refine(HL.out).mono ?_;rintro e V ⟨rfl,hB⟩;(try dsimp only);go_wp2_with fail;go_ret;exact⟨rfl,hB⟩
end
end Go.Proofs.YtbffpkmfhkphdaaGreatDoor

/- The walk of the document's Make of integers. The walk of the document's names. The walk of the booter's names. -/
import Derived.Test.YtbffpkmfhkphdaaGreatDoorGX00
import Derived.Test.YtbffpkmfhkphdaaGreatDoorGX43
import Derived.Test.YtbffpkmfhkphdaaGreatDoorGX39
import Derived.Test.YtbffpkmfhkphdaaGreatDoorGX42
set_option linter.unusedVariables false
set_option linter.unusedSimpArgs false
set_option maxRecDepth 1000000
set_option maxHeartbeats 6400000
namespace Go.Proofs.YtbffpkmfhkphdaaGreatDoor
open Go Lib Go.RowKit Limb
section
variable {w:World} {G:RFoot} {h:Hp}
theorem ref_make_small(w:World)(neg:Bool)(a:Option Addr)(l:List Nat)(m cap:Nat)(p:Nat)(hc:Came w neg a m l)(hm:mayB neg l=true)(hs:isSm (signed neg (val l))=true):Calls Tryz.prog 52 #[.pointer (some ⟨p,0,none⟩),.agg #[.bool neg,.slice a m cap]] w fun e w'=>e= .returned (.tuple #[.int .u32 (smallO (signed neg (val l))),.int .i64 0])∧Below w.heap.size w w':=by
 obtain⟨W,hWe,r0,hW⟩: ∃W,W=w.alloc (.cells #[.bool neg,.slice a m cap] 24)∧Row W w.heap.size 24 [.bool neg,.slice a m cap]∧Below w.heap.size w W:=⟨_,rfl,by unfold Row;exact heap_alloc_new _ _,(Below.refl _ _).alloc (Nat.le_refl _) _⟩;have HWe:=hid hWe;clear hWe;have c0:=r0.cell_at 0;have c1:=r0.cell_at 1;simp only[yB,yC]at c0 c1;have HS:=hid (ref_small W neg a l m cap (hc.below hW));have HO:=hid (fun X=>r_small X (signed neg (val l)) hs);have HT:=hid (fun b (h:mayB neg l=true→b=isSm (signed neg (val l)))=>show b=true from by rw[h hm,hs]);generalize signed neg (val l)=z at*
 clear hc hm hs;go_enter Tryz.func52,Tryz.ntmps52;go_wp2_with fail;rw[←HWe.out];refine(HS.out).mono ?_;rintro e V2 ⟨⟨v,b,rfl,hb1,hv⟩,hb⟩;(try dsimp only);obtain rfl:=HT.out b hb1;obtain rfl:=hv rfl;have r0:=r0.below hb r0.lt;have hW:=hW.trans (hb.mono hW.size);clear c0 c1 hb;have c0:=r0.cell_at 0;have c1:=r0.cell_at 1;simp only[yB,yC]at c0 c1;clear HS HT hb1;go_wp2_with fail;refine(HO.out V2).mono ?_;rintro e V3 ⟨rfl,rfl⟩;(try dsimp only);go_wp2_with fail;go_ret2;exact⟨rfl,hW⟩
theorem ref_make(H:RefAt w G h)(h5w:5≤w.heap.size)(neg:Bool)(a:Option Addr)(l:List Nat)(m cap:Nat)(hc:Came w neg a m l)(hF:0<l.length→∀b off,a=some ⟨b,off,none⟩→b∉G.l)(hm:mayB neg l=true)(hs:isSm (signed neg (val l))=false)(hml:m≤1024)(o:Nat)(h1:Hp)(hp:allocP h (wd h.rt 17) 3 (1+m)=some (o,h1)):Calls Tryz.prog 52 #[.pointer (some ⟨G.p,0,none⟩),.agg #[.bool neg,.slice a m cap]] w fun e w'=>e= .returned (.tuple #[.int .u32 o,.int .i64 0])∧RMoved w G w' (Limb.mkH h1 o neg l):=by
 obtain⟨W,hWe,r0,hW⟩: ∃W,W=w.alloc (.cells #[.bool neg,.slice a m cap] 24)∧Row W w.heap.size 24 [.bool neg,.slice a m cap]∧Below w.heap.size w W:=⟨_,rfl,by unfold Row;exact heap_alloc_new _ _,(Below.refl _ _).alloc (Nat.le_refl _) _⟩;have HWe:=hid hWe;clear hWe;have c0:=r0.cell_at 0;have c1:=r0.cell_at 1;simp only[yB,yC]at c0 c1;have HB:=hid hW;have HSm:=hid (ref_small W neg a l m cap (hc.below hW));have HT:=hid (fun b (h:mayB neg l=true→b=isSm (signed neg (val l)))=>show b=false from by rw[h hm,hs]);have HW0:=H.below hW;have h5W:=Nat.le_trans h5w hW.size
 have HRt:=hid (fun X F9 h9 (e9:h9.rt=h.rt) (s9:RStep W G X F9 h9)=>show X.cell? ⟨G.p,2,none⟩=some (.slice (some ⟨G.gr,0,none⟩) 64 64)∧X.cell? ⟨G.gr,17,none⟩=some (.int .u32 (wd h.rt 17:Nat))from by
  have q:=s9.1.root (i:=17) (by decide);rw[s9.2.1.p,s9.2.1.gr,e9]at q;exact⟨q.1,q.2.1⟩)
 have HS0:=hid (fun X (hb:Below W.heap.size W X)=>RStep.same HW0 hb)
 have HAl:=hid (fun X (hb:Below W.heap.size W X)=>show Calls Tryz.prog 46 #[.pointer (some ⟨G.p,0,none⟩),.int .u32 (wd h.rt 17:Nat),.int .i64 3,.int .i64 (1+(m:Int))] X fun e w'=>e= .returned (.tuple #[.int .u32 o,.int .i64 0])∧∃F',RStep W G w' F' h1 from by
  have:=r_alloc (HW0.below hb) (Nat.le_trans h5W hb.size) (wd h.rt 17) 3 (1+m) o h1 (.inr rfl) (by omega) hp;rw[Int.natCast_add]at this;exact this.mono fun e w' ⟨x,F',y⟩=>⟨x,F',RStep.of_below hb y HW0.lt⟩)
 obtain⟨g1,i1⟩:=grow_alloc HW0.good (by decide) (by decide) (show 1+m≤65535 by omega) hp
 have HSw:=hid (fun X F1 hq (hS:RStep W G X F1 hq) (i v:Nat) (hf:isF hq o 3 (i+1)=true) (_:i≤65535) (hv:v<4294967296)=>show Calls Tryz.prog 48 #[.pointer (some ⟨G.p,0,none⟩),.int .u32 o,.int .i64 i,.int .u32 v] X fun e w'=>e= .returned (.int .i64 0)∧∃F',RStep W G w' F' (Limb.putF hq o i v)from by
  rw[←hS.2.1.p];exact(r_setword hS.1 hf hv).mono fun e w' ⟨x,y⟩=>⟨x,F1,hS.trans y⟩)
 have HLay:=hid (fun X (ho:Only G.l W X)=>(hc.below hW).1.only ho hF);have HLim:=hid hc.2.1;have HL:=hid hc.2.2.1;have HI:=hid i1;have HER:=hid g1.rt;have hg0:w.heap.size∉G.l:=fun e=>Nat.lt_irrefl _ (H.lt _ e)
 have HR0:=hid (fun X (ho:Only G.l W X)=>show X.cell? ⟨w.heap.size,0,none⟩=some (.bool neg)∧X.cell? ⟨w.heap.size,1,none⟩=some (.slice a m cap)from by
  have r:=r0.only ho hg0;have c0:=r.cell_at 0;have c1:=r.cell_at 1;simp only[yB,yC]at c0 c1;exact⟨c0,c1⟩)
 have HOB:=hid (fun X F1 hq (hS:RStep W G X F1 hq)=>show RStep w G X F1 hq from RStep.of_below hW hS H.lt);have ix17: ∀W,(Instr.indexAt 71 (.slice (some ⟨G.gr,0,none⟩) 64 64) (.int .i64 17)).run Tryz.prog W= .ok (.pointer (some ⟨G.gr,17,none⟩)) W:=(H.root (i:=17) (by decide)).2.2;obtain⟨hE,hhE⟩: ∃hE,hE=Limb.mkH h1 o neg l:=⟨_,rfl⟩;rw[←hhE];have HE:=hid hhE;generalize wd h.rt 17=r17 at*
 obtain⟨bx,hbx⟩: ∃bx,bx=w.heap.size:=⟨_,rfl⟩;rw[←hbx]at r0 HR0 hg0;have HBX:=hid hbx;rw[←hbx]at c0 c1;clear hc hm hs hp hhE i1 g1 H HW0 hF hg0 hbx h5W h5w;go_enter Tryz.func52,Tryz.ntmps52;go_wp2_with fail;rw[←HWe.out,←HBX.out];refine(HSm.out).mono ?_;rintro e V2 ⟨⟨v,b,rfl,hb1,-⟩,hb⟩;(try dsimp only);obtain rfl:=HT.out b hb1;have HBV2:=hid hb;clear hb hb1 HSm HT HWe;go_wp2_with fail;have hbd:=HBV2.out.drew;have hX: ∃F9 h9,h9.rt=h.rt∧RStep W G V2.drew F9 h9:=⟨G,h,rfl,HS0.out _ hbd⟩;refine wp_region_held (S:=fun Y=> ∃F9 h9,h9.rt=h.rt∧RStep W G Y F9 h9) (by kernel_rfl) ?_;refine tk 0 (.pointer (some ⟨G.p,0,none⟩)) 21 hX ?_;simp only[Act.put,zA,zB,zC];refine tk 1 (.pointer (some ⟨G.p,0,none⟩)) 22 hX ?_;simp only[Act.put,zA,zB,zC];refine tk 2 (.pointer (some ⟨G.p,0,none⟩)) 23 hX ?_;simp only[Act.put,zA,zB,zC];refine tk 3 (.pointer (some ⟨G.p,2,none⟩)) 24 hX ?_;simp only[Act.put,zA,zB,zC];refine tk 4 (.slice (some ⟨G.gr,0,none⟩) 64 64) 25 hX ?_ (y:=fun X hX=>by obtain⟨F9,h9,e9,s9⟩:=hX;obtain⟨q1,q2⟩:=HRt.out _ _ _ e9 s9;go_simp);simp only[Act.put,zA,zB,zC];refine tk 5 (.pointer (some ⟨G.gr,17,none⟩)) 26 hX ?_;simp only[Act.put,zA,zB,zC];refine tk 6 (.int .u32 r17) 27 hX ?_ (y:=fun X hX=>by obtain⟨F9,h9,e9,s9⟩:=hX;obtain⟨q1,q2⟩:=HRt.out _ _ _ e9 s9;go_simp);simp only[Act.put,zA,zB,zC];refine tk 7 (.pointer (some ⟨bx,1,none⟩)) 28 hX ?_;simp only[Act.put,zA,zB,zC];refine tk 8 (.slice a m cap) 29 hX ?_ (y:=fun X hX=>by obtain⟨F9,h9,e9,s9⟩:=hX;obtain⟨q1,q2⟩:=HR0.out _ s9.2.2;go_simp);simp only[Act.put,zA,zB,zC];refine tk 9 (.int .i64 m) 30 hX ?_;simp only[Act.put,zA,zB,zC];refine tk 10 (.int .i64 (1+(m:Int))) 31 hX ?_ (y:=fun X hX=>by go_simp;(first |done|exact i64_self (by omega) (by omega)|omega));simp only[Act.put,zA,zB,zC];refine wpAnyH_all (rs:=[11]) (by kernel_rfl) (by decide) (fun i hi=>?_);rw[List.mem_singleton]at hi;subst hi;unfold wpOp;go_simp;refine .inl ((HAl.out _ hbd).mono ?_);rintro e X1 ⟨rfl,F1,hS⟩;replace hX: ∃F9 h9,h9.rt=h.rt∧RStep W G X1 F9 h9:=⟨F1,h1,HER.out,hS⟩;refine⟨hX,?_⟩;refine tk 12 (.tuple #[.int .u32 o,.int .i64 0]) 20 hX ?_;simp only[Act.put,zA,zB,zC];refine tk 13 (.int .u32 o) 33 hX ?_;simp only[Act.put,zA,zB,zC];refine tk 14 (.int .i64 0) 34 hX ?_;simp only[Act.put,zA,zB,zC];refine tk 15 (.int .u32 o) 8 hX ?_;simp only[Act.put,zA,zB,zC];refine tk 16 (.int .i64 0) 9 hX ?_;simp only[Act.put,zA,zB,zC];refine wpAnyH_done (by kernel_rfl) ?_ _;obtain⟨c0,c1⟩:=HR0.out X1 hS.2.2;have HS1:=hid hS;clear hX hS hbd HAl HRt HBV2 HS0 HER r0 hW ix17;cases neg with
 |false=>
  have HS3:=HS1;have HI3:=HI;have HP3:=hid (show putAll o (1+0) (l.drop 0) h1=hE from HE.out.symm);obtain⟨F2,hF2⟩: ∃F2,F2=F1:=⟨_,rfl⟩;obtain⟨hk,hhk⟩: ∃hk,hk=h1:=⟨_,rfl⟩;rw[←hF2,←hhk]at HS3;rw[←hhk]at HI3 HP3;clear HS1 HI HE hF2 hhk;go_wp2_with fail;go_loopw[46] (fun i wr=> ∃(k:Nat) (F3:RFoot) (hq:Hp),k≤m∧i= .int .i64 k∧Hid (RStep W G wr F3 hq)∧Hid (isF hq o 3 (1+m)=true)∧Hid (putAll o (1+k) (l.drop k) hq=hE)) (fun i _=>m-(intOf i).toNat);case atStart=>exact⟨0,F2,hk,Nat.zero_le _,rfl,HS3,HI3,HP3⟩
  case round=>
   clear HS3 HI3 HP3 c0 c1 F2 hk;obtain⟨k,F2,hk,hkm,rfl,HS,HI,HP⟩:=hrel;by_cases h0:k<m
   ·have d1:decide ((k:Int)<(m:Int))=true:=decide_eq_true (by omega);have d2:decide (k<m)=true:=decide_eq_true h0;have hkl:k<l.length:=by have:=HL.out;omega
    have hp:=HP.out;rw[putAll_next o l k hkl]at hp;obtain⟨b,off,hix,hcx,-⟩:=(HLay.out wr HS.out.2.2).use 22 60 Tryz.underlying22 size32 cap;rw[←HL.out]at hix hcx;have ix:=fun W=>hix W .i64 (k:Int) (by omega) (by omega)
    rw[Int.toNat_natCast]at ix;have cx:=hcx wr (Below.refl _ _) k h0;have hf:=isF_le HI.out (show(1+k)+1≤1+m by omega);have hv:=HLim.out.wd k;have HW1:=hid (HSw.out wr F2 hk HS.out (1+k) (wd l k) hf (by omega) hv);have HI2:=hid ((Limb.grow_put3 HS.out.1.good hf hv).isF _ _ _ HI.out);have HP2:=hid hp;generalize Limb.putF hk o (1+k) (wd l k)=hq at*
    generalize wd l k=x at*
    clear hp hix hcx hf hv HI HP hkl;go_wp2_with fail;refine(HW1.out).mono ?_;rintro e Y1 ⟨rfl,F3,hS⟩;(try dsimp only);have HS2:=hid hS;clear hS HW1 HS cx ix;go_wp2_with fail;go_roundw;case rel=>exact⟨k+1,F3,hq,h0,by simp,HS2,HI2,HP2⟩
    case measure=>simp[intOf];omega
   ·obtain rfl:k=m:=by omega
    have hp:=HP.out;rw[show l.drop k=[]from by rw[HL.out];exact List.drop_length]at hp;have hp:hk=hE:=hp;subst hp;have d1:decide ((k:Int)<(k:Int))=false:=decide_eq_false (by omega);have d2:decide (k<k)=false:=decide_eq_false (by omega);have HM:=hid (show RMoved w G wr hk from⟨F2,HOB.out _ _ _ HS.out⟩);clear HS HI HP HSw HLay HLim HL HB HOB;go_wp2_with fail;go_ret2;exact⟨rfl,HM.out⟩
 |true=>
  have HW1:=hid (HSw.out X1 F1 h1 HS1.out 0 1 (isF_le HI.out (by omega)) (by decide) (by decide));have HI3:=hid ((Limb.grow_put3 HS1.out.1.good (i:=0) (v:=1) (isF_le HI.out (by omega)) (by decide)).isF _ _ _ HI.out);have HP3:=hid (show putAll o (1+0) (l.drop 0) (Limb.putF h1 o 0 1)=hE from HE.out.symm);obtain⟨hk,hhk⟩: ∃hk,hk=Limb.putF h1 o 0 1:=⟨_,rfl⟩;rw[←hhk]at HI3 HP3 HW1;clear HS1 HI HE hhk;go_wp2_with fail;refine(HW1.out).mono ?_;rintro e V5 ⟨rfl,F2,hS⟩;(try dsimp only);obtain⟨c0,c1⟩:=HR0.out V5 hS.2.2;have HS3:=hid hS;clear hS HW1;go_wp2_with fail;go_loopw[46] (fun i wr=> ∃(k:Nat) (F3:RFoot) (hq:Hp),k≤m∧i= .int .i64 k∧Hid (RStep W G wr F3 hq)∧Hid (isF hq o 3 (1+m)=true)∧Hid (putAll o (1+k) (l.drop k) hq=hE)) (fun i _=>m-(intOf i).toNat);case atStart=>exact⟨0,F2,hk,Nat.zero_le _,rfl,HS3,HI3,HP3⟩
  case round=>
   clear HS3 HI3 HP3 c0 c1 F2 hk;obtain⟨k,F2,hk,hkm,rfl,HS,HI,HP⟩:=hrel;by_cases h0:k<m
   ·have d1:decide ((k:Int)<(m:Int))=true:=decide_eq_true (by omega);have d2:decide (k<m)=true:=decide_eq_true h0;have hkl:k<l.length:=by have:=HL.out;omega
    have hp:=HP.out;rw[putAll_next o l k hkl]at hp;obtain⟨b,off,hix,hcx,-⟩:=(HLay.out wr HS.out.2.2).use 22 60 Tryz.underlying22 size32 cap;rw[←HL.out]at hix hcx;have ix:=fun W=>hix W .i64 (k:Int) (by omega) (by omega)
    rw[Int.toNat_natCast]at ix;have cx:=hcx wr (Below.refl _ _) k h0;have hf:=isF_le HI.out (show(1+k)+1≤1+m by omega);have hv:=HLim.out.wd k;have HW1:=hid (HSw.out wr F2 hk HS.out (1+k) (wd l k) hf (by omega) hv);have HI2:=hid ((Limb.grow_put3 HS.out.1.good hf hv).isF _ _ _ HI.out);have HP2:=hid hp;generalize Limb.putF hk o (1+k) (wd l k)=hq at*
    generalize wd l k=x at*
    clear hp hix hcx hf hv HI HP hkl;go_wp2_with fail;refine(HW1.out).mono ?_;rintro e Y1 ⟨rfl,F3,hS⟩;(try dsimp only);have HS2:=hid hS;clear hS HW1 HS cx ix;go_wp2_with fail;go_roundw;case rel=>exact⟨k+1,F3,hq,h0,by simp,HS2,HI2,HP2⟩
    case measure=>simp[intOf];omega
   ·obtain rfl:k=m:=by omega
    have hp:=HP.out;rw[show l.drop k=[]from by rw[HL.out];exact List.drop_length]at hp;have hp:hk=hE:=hp;subst hp;have d1:decide ((k:Int)<(k:Int))=false:=decide_eq_false (by omega);have d2:decide (k<k)=false:=decide_eq_false (by omega);have HM:=hid (show RMoved w G wr hk from⟨F2,HOB.out _ _ _ HS.out⟩);clear HS HI HP HSw HLay HLim HL HB HOB;go_wp2_with fail;go_ret2;exact⟨rfl,HM.out⟩
end
end Go.Proofs.YtbffpkmfhkphdaaGreatDoor
namespace Go.Proofs.YtbffpkmfhkphdaaGreatDoor
open Go Lib Go.RowKit Limb
def RSyms(w:World)(v:Value)(xs:List Nat)(B:Nat)(F:RFoot):Prop:=
 (v= .slice none 0 0∧xs=[])∨∃g c,v= .slice (some ⟨g,0,none⟩) xs.length c∧Sl w g 61 xs.length c (nums .u32 xs)∧B≤g∧g∉F.l∧0<xs.length
section
variable {w:World} {F:RFoot} {h:Hp}
theorem RSyms.step{v:Value}{xs:List Nat}{B:Nat}(hs:RSyms w v xs B F){w':World}{F':RFoot}{h':Hp}(st:RStep w F w' F' h'):RSyms w' v xs B F':=by
 rcases hs with hs|⟨g,c,h1,h2,h3,h4,h5⟩
 ·exact .inl hs
 ·exact .inr ⟨g,c,h1,h2.only st.2.2 h4,h3,st.2.1.aside h2.lt h4,h5⟩
theorem RSyms.owns{v:Value}{xs:List Nat}{B:Nat}(hs:RSyms w v xs B F):w.ownsRow 0 61 1 v xs.length (nums .u32 xs):=by
 rcases hs with⟨rfl,rfl⟩|⟨g,c,rfl,h2,h3,h4,h5⟩
 ·exact⟨rfl,.inl ⟨rfl,rfl⟩⟩
 ·exact h2.owns
theorem RSyms.ownBlock{v:Value}{xs:List Nat}{B:Nat}(hs:RSyms w v xs B F):v.ownBlock=none∨∃g,v.ownBlock=some g∧B≤g∧g∉F.l:=by
 rcases hs with⟨rfl,rfl⟩|⟨g,c,rfl,h2,h3,h4,h5⟩
 ·exact .inl rfl
 ·exact .inr ⟨g,rfl,h3,h4⟩
theorem rsyms_append{v:Value}{xs:List Nat}{X:World}{F1:RFoot}{h1:Hp}(st:RStep w F X F1 h1)(hs:RSyms X v xs w.heap.size F1)(o:Nat)(hl:xs.length≤100000): ∃v' X',(Builtin.append_ #[71,71] 71 #[v,.slice (some ⟨X.heap.size,0,none⟩) 1 1]).run Tryz.prog (X.alloc (.cells #[.int .u32 o] 61))= .ok v' X'∧RStep w F X' F1 h1∧RSyms X' v' (xs++[o]) w.heap.size F1:=by
 obtain⟨i0,hi,hz0,hz1,hz2⟩:=info_parts info_oop;have hb:Below X.heap.size X (X.alloc (.cells #[.int .u32 o] 61)):=(Below.refl _ _).alloc (Nat.le_refl _) _;have hown:=hs.owns;have hown2:(X.alloc (.cells #[.int .u32 o] 61)).ownsRow 0 61 1 v xs.length (nums .u32 xs):=hown.alloc _;obtain⟨v',X',hr,h2,h3,h4,h5⟩:=run_append_own_at (P:=Tryz.prog) (w:=X.alloc (.cells #[.int .u32 o] 61)) 0 71 71 61 i0 (.int .u32 0) 1 4 Tryz.underlying71 hi hz0 hz1 hz2 rfl (by decide) v xs.length _ hown2 ⟨X.heap.size,0,none⟩ 1 1 (nums .u32 [o]) rfl (cell_one_new _ _ _) (by simp[nums,Value.oneCell']) (Nat.le_trans (show xs.length+1≤100001 by omega) (by decide)) (by omega) (Nat.zero_le _);have stX:=st.below hb;have hXs:X.heap.size<(X.alloc (.cells #[.int .u32 o] 61)).heap.size:=by rw[World.size_alloc];omega
 have hlt:=st.1.lt;have hob:=hs.ownBlock;have ho:Only v.ownBlock.toList (X.alloc (.cells #[.int .u32 o] 61)) X':=⟨h3.os,h3.tape,h3.output,h3.size,fun k hk hn=>h3.block k hk (fun e=>by rw[←e]at hn;exact hn (List.mem_singleton.2 rfl))⟩
 have hot: ∀q∈v.ownBlock.toList,w.heap.size≤q∧q∉F1.l:=by
  intro q hq;rcases hob with e|⟨g,e,e1,e2⟩
  ·rw[e]at hq;cases hq
  ·rw[e]at hq;have hq:q=g:=List.mem_singleton.1 hq;subst hq;exact⟨e1,e2⟩
 have st2:RStep w F X' F1 h1:=⟨stX.1.only ho (fun g hg e=>(hot g e).2 hg),stX.2.1,stX.2.2.trans ho (fun q hq=> .inr (hot q hq).1)⟩;obtain⟨g',c',rfl,hgb,hs'⟩:=Sl.of_owns h2 (by omega);rw[←nums_append]at hs';refine⟨_,X',hr,st2,.inr ⟨g',c',by rw[List.length_append];rfl,by rw[List.length_append];exact hs',?_,?_,by rw[List.length_append];exact Nat.succ_pos _⟩⟩
 ·rw[hgb]at h5;rcases h5 with h5|h5
  ·rcases hob with e|⟨g,e,e1,e2⟩
   ·rw[e]at h5;cases h5
   ·rw[e]at h5;rw[Option.some.inj h5];exact e1
  ·have:=st.2.2.size;rw[Option.some.inj h5];omega
 ·rw[hgb]at h5;rcases h5 with h5|h5
  ·rcases hob with e|⟨g,e,e1,e2⟩
   ·rw[e]at h5;cases h5
   ·rw[e]at h5;rw[Option.some.inj h5];exact e2
  ·intro e;have:=hlt _ e;rw[Option.some.inj h5]at this;omega
theorem putAll_drop(a:Nat)(all:List Nat)(k:Nat)(hk:k<all.length)(h:Hp):putAll a k (all.drop k) h=putAll a (k+1) (all.drop (k+1)) (Limb.putF h a k (wd all k)):=by
 rw[List.drop_eq_getElem_cons hk,wd_lt hk];rfl
theorem r4_names(H:RefAt w F h)(h5w:5≤w.heap.size)(K:Limb.Ker h)(fs:List (List Nat))(n gf:Nat)(hn:n=fs.length)(hn0:0<n)(hn1:n≤100)(rf:Row w gf 9 (fs.map sv))(hgf:gf∉F.l)(hfs:fs.all (fun t=>okT t&&decide (0<t.length))=true)(all:List Nat)(hI:Hp)(e1:internAll fs h=some (all,hI))(a:Nat)(hA:Hp)(e3:allocP hI (wd hI.rt 20) 1 fs.length=some (a,hA)):Calls Tryz.prog 120 #[.pointer (some ⟨F.p,0,none⟩),.slice (some ⟨gf,0,none⟩) n n] w fun e w'=>e= .returned (.tuple #[.int .u32 a,.int .i64 0])∧RMoved w F w' (putAll a 0 all hA):=by
 obtain⟨hE,hhE⟩: ∃hE,hE=putAll a 0 all hA:=⟨_,rfl⟩;rw[←hhE];have HE:=hid hhE;clear hhE
 have hok: ∀k,k<n→okT (fs.getD k [])=true∧0<(fs.getD k []).length:=fun k hk=>by
  rw[List.all_eq_true]at hfs;have hk':k<fs.length:=by omega
  have:=hfs (fs.getD k []) (by rw[List.getD_eq_getElem?_getD,List.getElem?_eq_getElem hk'];exact List.getElem_mem hk');simpa using this
 have sl:=rf.sl (n:=n) (by rw[List.length_map];exact hn) (Nat.le_trans hn1 (by decide));have HIx:=hid (fun W k (hk:k<n)=>sl.index 150 Tryz.underlying150 size_str W .i64 k hk)
 have HCx:=hid (fun X (ho:Only F.l w X) k (hk:k<n)=>show X.cell? ⟨gf,k,none⟩=some (.string (strOf (fs.getD k [])))from by
  rw[(rf.only ho hgf).cell_at];exact nameAt (by omega))
 have HIn:=hid (fun X F1 h1 (HX:RefAt X F1 h1) (hX5:5≤X.heap.size) (hF:F1.p=F.p) (gr:Limb.Grow h h1) k (hk:k<n) o h2 (hp:internP h1 (fs.getD k [])=some (o,h2))=>show Calls Tryz.prog 116 #[.pointer (some ⟨F.p,0,none⟩),.string (strOf (fs.getD k []))] X fun e w'=>e= .returned (.tuple #[.int .u32 o,.int .i64 0])∧RMoved X F1 w' h2 from by
  obtain⟨q1,q2⟩:=hok k hk;obtain⟨q3,q4⟩:=okT_iff q1;rw[←hF];exact r4_intern HX hX5 (K.grow gr) (strOf (fs.getD k [])) (by rw[strOf_size];exact q4) (by rw[strOf_size];exact q2) o h2 (by rw[tx_strOf q3];exact hp))
 have HGr:=hid (fun h1 (gr:Limb.Grow h h1) k (hk:k<n) o h2 (hp:internP h1 (fs.getD k [])=some (o,h2))=>show Limb.Grow h h2∧isO h2 o=true∧Limb.Grow h1 h2 from by
  obtain⟨q1,q2⟩:=hok k hk;obtain⟨q3,q4⟩:=okT_iff q1;obtain⟨x,y⟩:=grow_intern gr.good q3 q4 hp;exact⟨gr.trans x,isF_isO y,x⟩)
 have HNext:=hid (fun h1 k (hk:k<n) rest (hr:internAll (fs.drop k) h1=some (rest,hI))=>show∃o h2 rest',internP h1 (fs.getD k [])=some (o,h2)∧rest=o :: rest'∧internAll (fs.drop (k+1)) h2=some (rest',hI)from by
  rw[drop_names (by omega)]at hr;obtain⟨⟨o,h2⟩,x1,x2⟩:=Option.bind_eq_some_iff.1 hr;obtain⟨⟨r',h3⟩,x3,x4⟩:=Option.map_eq_some_iff.1 x2;rw[Prod.mk.injEq]at x4;obtain⟨rfl,rfl⟩:=x4;exact⟨o,h2,r',x1,rfl,x3⟩)
 have HEnd:=hid (fun h1 rest (hr:internAll (fs.drop n) h1=some (rest,hI))=>show rest=[]∧h1=hI from by
  rw[hn,List.drop_length]at hr;have:=Option.some.inj hr;rw[Prod.mk.injEq]at this;exact⟨this.1.symm,this.2⟩)
 have HAl:=hid (fun X F1 (HX:RefAt X F1 hI) (hX5:5≤X.heap.size) (hF:F1.p=F.p)=>show Calls Tryz.prog 46 #[.pointer (some ⟨F.p,0,none⟩),.int .u32 (wd hI.rt 20:Nat),.int .i64 1,.int .i64 n] X fun e w'=>e= .returned (.tuple #[.int .u32 a,.int .i64 0])∧RMoved X F1 w' hA from by
  rw[←hF];exact r_alloc HX hX5 (wd hI.rt 20) 1 n a hA (.inl rfl) (by omega) (by rw[hn];exact e3))
 have HRt:=hid (fun X F1 (HX:RefAt X F1 hI) (hF:F1.p=F.p) (hF2:F1.gr=F.gr)=>show X.cell? ⟨F.p,2,none⟩=some (.slice (some ⟨F.gr,0,none⟩) 64 64)∧X.cell? ⟨F.gr,20,none⟩=some (.int .u32 (wd hI.rt 20:Nat))∧∀W,(Instr.indexAt 71 (.slice (some ⟨F.gr,0,none⟩) 64 64) (.int .i64 20)).run Tryz.prog W= .ok (.pointer (some ⟨F.gr,20,none⟩)) W from by
  have:=HX.root (i:=20) (by decide)
  rwa [hF,hF2]at this)
 have HGA:=hid (fun(gr:Limb.Grow h hI)=>show Limb.Grow hI hA∧isF hA a 1 n=true from by
  have:=grow_alloc gr.good (by decide) (by decide) (show fs.length≤65535 by omega) e3;rw[←hn]at this;exact this)
 have HPut:=hid (fun X F1 hk (HX:RefAt X F1 hk) (hF:F1.p=F.p) k (hk2:isF hk a 1 (k+1)=true) v (hv:isO hk v=true)=>show Calls Tryz.prog 117 #[.pointer (some ⟨F.p,0,none⟩),.int .u32 a,.int .i64 k,.int .u32 v] X fun e w'=>e= .returned (.int .i64 0)∧RStep X F1 w' F1 (Limb.putF hk a k v)∧Limb.Grow hk (Limb.putF hk a k v)from by
  rw[←hF];exact(r_put HX hk2 (isO_val hv) (isO_lt HX.good hv)).mono fun e w' ⟨x,y⟩=>⟨x,y,grow_put HX.good hk2 (isO_lt HX.good hv)⟩)
 have e10:internAll (fs.drop 0) h=some (all,hI):=e1;have HS0:=hid (RStep.refl H);have HG0:=hid (Limb.Grow.refl H.good);clear e1 e3 hok sl rf hgf hfs H K hn;go_enter Tryz.func120,Tryz.ntmps120;go_wp2_with fail;go_loopw[7,6] (fun i s wr=> ∃(k:Nat) (F':RFoot) (hk:Hp) (done rest:List Nat),k≤n∧i= .int .i64 k∧Hid (k=done.length)∧Hid (RStep w F wr F' hk)∧Hid (Limb.Grow h hk)∧Hid (internAll (fs.drop k) hk=some (rest,hI))∧Hid (done++rest=all)∧Hid (∀x∈done,isO hk x=true)∧Hid (RSyms wr s done w.heap.size F')) (fun i _ _=>n-(intOf i).toNat);case atStart=>exact⟨0,F,h,[],all,Nat.zero_le _,rfl,hid rfl,HS0,HG0,hid e10,hid rfl,hid (by simp),hid (.inl ⟨rfl,rfl⟩)⟩
 case round=>
  clear HS0 HG0 e10;obtain⟨k,F',hk,done,rest,hkn,rfl,HLd,HS,HG,HIa,HAll,HDn,HSy⟩:=hrel;by_cases h0:k<n
  ·have d1:decide ((k:Int)<(n:Int))=true:=decide_eq_true (by omega);have d2:decide (k<n)=true:=decide_eq_true h0;obtain⟨o,h2,rest',x1,x2,x3⟩:=HNext.out hk k h0 rest HIa.out;obtain⟨y1,y2,y3⟩:=HGr.out hk HG.out k h0 o h2 x1;have ix:=fun W=>HIx.out W k h0
   have cx:=HCx.out wr HS.out.2.2 k h0;have HI1:=hid (HIn.out wr F' hk HS.out.1 (Nat.le_trans h5w HS.out.2.2.size) HS.out.2.1.p HG.out k h0 o h2 x1);have HX3:=hid x3;have HAll2:=hid (show(done++[o])++rest'=all by rw[←HAll.out,x2,List.append_assoc];rfl)
   have HDn2:=hid (show∀x∈done++[o],isO h2 x=true from fun x hx=>by
    rcases List.mem_append.1 hx with e|e
    ·exact y3.isO (HDn.out x e)
    ·rw[List.mem_singleton.1 e];exact y2)
   have HG2:=hid y1;have HLd2:=hid (show k+1=(done++[o]).length by rw[List.length_append,←HLd.out];rfl);generalize strOf (fs.getD k [])=S at*
   clear x1 x2 x3 y1 y2 y3 HIa HAll HDn HG;go_wp2_with fail;refine(HI1.out).mono ?_;rintro e X1 ⟨rfl,F1,hS1⟩;(try dsimp only);have hsy:=HSy.out.step hS1;obtain⟨s',X2,hr,hS2,hsy2⟩:=rsyms_append (HS.out.trans hS1) hsy o (by have:=HLd.out;omega);have HR2:=hid hr;have HS2:=hid hS2;have HSy2:=hid hsy2;clear hS1 hsy hr hS2 hsy2 HSy HS cx ix;go_wp2_with(at_builtin;refine Lib.wpList_append_run _ rfl _ _ _ _ rfl _ _ rfl rfl _ _ HR2.out ?_);go_roundw;case rel=>exact⟨k+1,F1,h2,done++[o],rest',h0,by simp,HLd2,HS2,HG2,HX3,HAll2,HDn2,HSy2⟩
   case measure=>simp[intOf];omega
  ·obtain rfl:k=n:=by omega
   obtain⟨x1,x2⟩:=HEnd.out hk rest HIa.out;subst x1 x2;have hal:=HAll.out;rw[List.append_nil]at hal;subst hal;have hl:=HLd.out;rcases HSy.out with⟨_,e⟩|⟨ge,c,rfl,sl,q3,q4,q5⟩
   ·rw[e]at hl;simp at hl;omega
   ·have HSy:=hid (show RSyms wr (.slice (some ⟨ge,0,none⟩) done.length c) done w.heap.size F' from .inr ⟨ge,c,rfl,sl,q3,q4,q5⟩);rw[←hl]at sl ⊢;rw[←hl]at HSy;obtain⟨c2,cr,ix⟩:=HRt.out wr F' HS.out.1 HS.out.2.1.p HS.out.2.1.gr;have HA1:=hid (HAl.out wr F' HS.out.1 (Nat.le_trans h5w HS.out.2.2.size) HS.out.2.1.p);obtain⟨z1,z2⟩:=HGA.out HG.out;have HZ1:=hid z1;have HZ2:=hid z2;have d1:decide ((k:Int)<(k:Int))=false:=decide_eq_false (by omega);have d2:decide (k<k)=false:=decide_eq_false (by omega);have HLd:=hid hl;generalize wd hk.rt 20=r20 at*
    clear hl sl q3 q4 q5 z1 z2 HAll HIa HEnd HNext HGr HIn HGA HRt HAl HG HIx HCx;go_wp2_with fail;refine(HA1.out).mono ?_;rintro e X1 ⟨rfl,F1,hS1⟩;(try dsimp only);have HSy1:=hid (HSy.out.step hS1);have HS1:=hid (HS.out.trans hS1);have HPA:=hid (show putAll a 0 (done.drop 0) hA=hE from HE.out.symm);clear hS1 HE HS HSy HA1 c2 cr ix d1 d2;have HG1:=hid (Limb.Grow.refl HS1.out.1.good);go_wp2_with fail;go_loopw[12] (fun i wr=> ∃(j:Nat) (F':RFoot) (hq:Hp),j≤k∧i= .int .i64 j∧Hid (RStep w F wr F' hq)∧Hid (Limb.Grow hA hq)∧Hid (putAll a j (done.drop j) hq=hE)∧Hid (RSyms wr (.slice (some ⟨ge,0,none⟩) k c) done w.heap.size F')) (fun i _=>k-(intOf i).toNat);case atStart=>exact⟨0,F1,hA,Nat.zero_le _,rfl,HS1,HG1,HPA,HSy1⟩
    case round=>
     clear HS1 HG1 HPA HSy1;obtain⟨j,F2,hq,hjk,rfl,HS,HG,HPA,HSy⟩:=hrel;by_cases h1:j<k
     ·have d1:decide ((j:Int)<(k:Int))=true:=decide_eq_true (by omega);have d2:decide (j<k)=true:=decide_eq_true h1;have hlk:=HLd.out;have hjd:j<done.length:=by omega
      have hpa:=HPA.out;rw[putAll_drop a done j hjd]at hpa;have hvj:isO hq (wd done j)=true:=HG.out.isO (HZ1.out.isO (HDn.out _ (by rw[wd_lt hjd];exact List.getElem_mem hjd)));have HP1:=hid (HPut.out wr F2 hq HS.out.1 HS.out.2.1.p j (isF_le (HG.out.isF _ _ _ HZ2.out) (by omega)) (wd done j) hvj);rcases HSy.out with⟨e,_⟩|⟨g',c',e',sl,q3,q4,q5⟩
      ·cases e
      ·obtain⟨e1,e2,e3⟩:ge=g'∧k=done.length∧c=c':=(by simpa using e');subst e1 e3;have sl2:Sl wr ge 61 k c (nums .u32 done):=by rw[e2];exact sl
       have ix:=fun W=>sl2.index 71 Tryz.underlying71 size_oop W .i64 j h1
       have cx:=sl2.cell h1;rw[nums_get hjd]at cx;generalize wd done j=v at*
       clear e' sl sl2 q3 q4 q5 e2 hlk hjd hvj HPA;have HPA:=hid hpa;clear hpa;go_wp2_with fail;refine(HP1.out).mono ?_;rintro e X2 ⟨rfl,hS2,hg2⟩;(try dsimp only);have HS3:=hid (HS.out.trans hS2);have HG3:=hid (HG.out.trans hg2);have HSy3:=hid (HSy.out.step hS2);generalize Limb.putF hq a j v=hq2 at*
       clear hS2 hg2 HP1 HS HG HSy cx ix;go_wp2_with fail;go_roundw;case rel=>exact⟨j+1,F2,hq2,h1,by simp,HS3,HG3,HPA,HSy3⟩
       case measure=>simp[intOf];omega
     ·obtain rfl:j=k:=by omega
      have hpa:=HPA.out;rw[show done.drop j=[]from by rw[HLd.out];exact List.drop_length]at hpa;have hpa:hq=hE:=hpa;subst hpa;have d1:decide ((j:Int)<(j:Int))=false:=decide_eq_false (by omega);have d2:decide (j<j)=false:=decide_eq_false (by omega);have HM:=hid (show RMoved w F wr hq from⟨F2,HS.out⟩);clear HS HG HPA HSy HLd HDn HZ1 HZ2;go_wp2_with fail;go_ret2;exact⟨rfl,HM.out⟩
end
end Go.Proofs.YtbffpkmfhkphdaaGreatDoor
namespace Go.Proofs.YtbffpkmfhkphdaaGreatDoor
open Go Lib Go.RowKit Limb
theorem plan_names: ∀k,k<22→okT (plans.getD k ⟨[],0,0,false,[]⟩).name=true∧0<(plans.getD k ⟨[],0,0,false,[]⟩).name.length∧((plans.getD k ⟨[],0,0,false,[]⟩).fields.all (fun t=>okT t&&decide (0<t.length)))=true∧((plans.getD k ⟨[],0,0,false,[]⟩).fields.all okT)=true∧(plans.getD k ⟨[],0,0,false,[]⟩).fields.length≤100:=by decide
theorem sels_drop{k:Nat}(hk:k<11):sels.drop k=sels.getD k [] :: sels.drop (k+1):=drop_names (by exact hk)
theorem sel_names: ∀k,k<11→okT (sels.getD k [])=true∧0<(sels.getD k []).length:=by decide
section
variable {w:World} {F:Foot} {h:Hp}
theorem booter_names(H:HeapAt w F h){pb:Nat}(rb:BootRow w F pb)(ms:List Nat)(PP:Limb.Paired h ms)(hE:Hp)(hp:((nameAll 0 plans h).bind fun h=>(selAll 0 sels h).bind fun h=>fieldAll 0 plans h)=some hE):Calls Tryz.prog 112 #[.pointer (some ⟨pb,0,none⟩)] w fun e w'=>e= .returned (.tuple #[])∧Moved w F w' hE:=by
 obtain⟨hN,e1,e2⟩:=Option.bind_eq_some_iff.1 hp;obtain⟨hS,e3,e4⟩:=Option.bind_eq_some_iff.1 e2;have HPl:=hid (fun X=>kernel_plans X);have HSe:=hid (fun X=>kernel_selectors X);have HN0:=hid (show nameAll 0 (plans.drop 0) h=some hN from e1);have HS0:=hid (show selAll 0 (sels.drop 0) hN=some hS from e3);have HF0:=hid (show fieldAll 0 (plans.drop 0) hS=some hE from e4);have HPP:=hid PP;have HC0:=hid (show CN w F pb (fun _=>True) w F h from⟨⟨fun _ _ _ _=>trivial,fun _ _ _ _ _ _ _ _ _=>trivial⟩,Step.refl H,rb,trivial⟩);clear hp e1 e2 e3 e4 PP H rb;go_enter Tryz.func112,Tryz.ntmps112;go_wp2_with fail;refine(HPl.out _).mono ?_;rintro e X1 ⟨⟨g,vs,rfl,hPl,hg⟩,hB⟩;(try dsimp only);have HC:=hid ((HC0.out.below hB).with (keeps_plans g vs) hPl);have HG:=hid (Limb.Grow.refl HC0.out.hp.good);clear hPl hg hB HC0;go_wp2_with fail;go_loopw[13] (fun i wr=> ∃(k:Nat) (F':Foot) (hk:Hp),k≤22∧i= .int .i64 k∧Hid (CN w F pb (fun X=>PlansAt X g vs) wr F' hk)∧Hid (Limb.Grow h hk)∧Hid (nameAll k (plans.drop k) hk=some hN)) (fun i _=>22-(intOf i).toNat);case atStart=>exact⟨0,F,h,Nat.zero_le _,rfl,HC,HG,HN0⟩
 case round=>
  clear HC HG HN0;obtain⟨k,F',hk,hkn,rfl,HC,HG,HR⟩:=hrel;by_cases h0:k<22
  ·have d1:decide ((k:Int)<22)=true:=decide_eq_true (by omega);have d2:decide (k<22)=true:=decide_eq_true h0;have hr:=HR.out;rw[plans_drop h0]at hr;have hPk:=HPP.out.grow HG.out;obtain⟨n1,n2,n3,n4,n5⟩:=plan_names k h0;obtain⟨p0,p1,p2,p3,p4⟩:=HC.out.ex.cells h0;obtain⟨av,hvf⟩:=(HC.out.ex.2.2 k h0).slice;rw[hvf]at p4;replace p0:wr.cell? ⟨g,5*k,none⟩=some (.string (strOf (plans.getD k ⟨[],0,0,false,[]⟩).name)):=p0;have ix:=fun W=>index_by (P:=Tryz.prog) 5 (by decide) 229 232 Tryz.underlying229 size_plan g 22 22 W .i64 k h0
   generalize plans.getD k ⟨[],0,0,false,[]⟩=p at*
   obtain⟨b1,b2⟩:=okT_iff n1;obtain⟨⟨o,h1⟩,x1,x2⟩:=Option.bind_eq_some_iff.1 hr;obtain⟨⟨a,h3⟩,x3,x4⟩:=Option.bind_eq_some_iff.1 x2;simp only at x3 x4;obtain⟨g1,i1⟩:=grow_intern hPk.good b1 b2 x1;have icl:=hPk.cls k h0;rw[g1.rt]at x3;have c1F:=g1.isF _ _ _ icl;have g2:=grow_put g1.good (i:=0) (isF_le c1F (by decide)) (isO_lt g1.good (isF_isO i1));have c2O:=isF_isO (g2.isF _ _ _ c1F);obtain⟨g3,i3⟩:=grow_setGlob g2.good b1 b2 (isO_lt g2.good c2O) x3;have hK:=hPk.ker;obtain⟨c,hc⟩: ∃c,c=wd hk.rt (10+k):=⟨_,rfl⟩;rw[←hc]at x3 icl c1F g2 c2O g3;have hIn:=fun R Y F1 (cn:CN w F pb R Y F1 hk)=>cn_intern cn hK (strOf p.name) (by rw[strOf_size];exact b2) (by rw[strOf_size];exact n2) o h1 (by rw[tx_strOf b1];exact x1)
   have hCl:=fun R Y F1 (cn:CN w F pb R Y F1 h1)=>show Calls Tryz.prog 185 #[.pointer (some ⟨pb,0,none⟩),.int .i64 (10+(k:Int))] Y fun e X'=>e= .returned (.int .u32 c)∧Below Y.heap.size Y X' from by
    have:=cn_class cn (10+k) (by omega);rw[g1.rt,←hc,Int.natCast_add]at this;exact this
   have hPu:=fun R Y F1 (cn:CN w F pb R Y F1 h1)=>show Calls Tryz.prog 188 #[.pointer (some ⟨F.p,0,none⟩),.int .u32 c,.int .i64 0,.int .u32 o] Y fun e X'=>e= .returned (.int .i64 0)∧∃F'',CN w F pb R X' F'' (Limb.putF h1 c 0 o)from cn_put cn (i:=0) (isF_le c1F (by decide)) (by decide) (isF_isO i1)
   have hSg:=fun R Y F1 (cn:CN w F pb R Y F1 (Limb.putF h1 c 0 o))=>cn_setglobal cn ((hK.grow g1).grow g2) (strOf p.name) (by rw[strOf_size];exact b2) (by rw[strOf_size];exact n2) c c2O a h3 (by rw[tx_strOf b1];exact x3)
   have HIn:=hid hIn;have HCl:=hid hCl;have HPu:=hid hPu;have HSg:=hid hSg;have HG2:=hid (HG.out.trans ((g1.trans g2).trans g3));have HR2:=hid (show nameAll (k+1) (plans.drop (k+1)) h3=some hN from x4);generalize Limb.putF h1 c 0 o=h2 at*
   generalize strOf p.name=sn at*
   generalize p.fields.length=nf at*
   generalize supV p.sup=sq at*
   generalize((p.fmt:Nat):Int)=fm at*
   generalize p.idx=ix0 at*
   clear hr hPk n1 n2 n3 n4 n5 hvf b1 b2 x1 x2 x3 x4 g1 i1 icl c1F g2 c2O g3 i3 hK hc hIn hCl hPu hSg HG HR;obtain⟨Y0,hY0,rp,hbY,hzY⟩:=alloc_row wr 232 [.string sn,.int .i64 sq,.int .i64 fm,.bool ix0,.slice av nf nf];have HY0:=hid hY0;obtain⟨pc,hpc⟩: ∃pc,pc=wr.heap.size:=⟨_,rfl⟩;rw[←hpc]at rp;have HPC:=hid hpc;have hC:=(HC.out.below hbY);have HC1:=hid (hC.with (hC.keeps.and (keeps_row pc 232 [.string sn,.int .i64 sq,.int .i64 fm,.bool ix0,.slice av nf nf] (by decide) (by decide) (by decide) (by decide))) ⟨hC.ex,rp⟩);have cp:=rp.cell_at 0;simp only[List.getElem?_cons_zero]at cp;rw[hY0,hpc]at cp;clear hY0 hbY hzY hpc hC rp HC;go_wp2_with fail;rw[←HY0.out,←HPC.out];clear cp;refine(HIn.out _ _ _ HC1.out).mono ?_;rintro e Y1 ⟨rfl,F1,hC⟩;(try dsimp only);have c0:=(BootRow.cells hC.boot).1;have c1:=(BootRow.cells hC.boot).2;have HC2:=hid hC;clear hC HC1 HIn HY0;go_wp2_with fail;refine(HCl.out _ _ _ HC2.out).mono ?_;rintro e Y2 ⟨rfl,hb⟩;(try dsimp only);have hC:=HC2.out.below hb;have c0:=(BootRow.cells hC.boot).1;have HC3:=hid hC;clear hC hb HC2 HCl c1;go_wp2_with fail;refine(HPu.out _ _ _ HC3.out).mono ?_;rintro e Y3 ⟨rfl,F3,hC⟩;(try dsimp only);have HC4:=hid hC;clear hC HC3 HPu c0;go_wp2_with fail;have hC:=HC4.out.below (Below.refl _ Y3).drew;have hX:BootRow Y3.drew F pb∧Row Y3.drew pc 232 [.string sn,.int .i64 sq,.int .i64 fm,.bool ix0,.slice av nf nf]:=⟨hC.boot,hC.ex.2⟩;clear HC4;refine wp_region_held (S:=fun Y=>BootRow Y F pb∧Row Y pc 232 [.string sn,.int .i64 sq,.int .i64 fm,.bool ix0,.slice av nf nf]) (by kernel_rfl) ?_;refine tk 0 (.pointer (some ⟨pb,0,none⟩)) 39 hX ?_;simp only[Act.put,zA,zB,zC];refine tk 1 (.pointer (some ⟨pb,0,none⟩)) 40 hX ?_;simp only[Act.put,zA,zB,zC];refine tk 2 (.pointer (some ⟨pb,0,none⟩)) 41 hX ?_;simp only[Act.put,zA,zB,zC];refine tk 3 (.pointer (some ⟨pb,0,none⟩)) 42 hX ?_;simp only[Act.put,zA,zB,zC];refine tk 4 (.pointer (some ⟨F.p,0,none⟩)) 43 hX ?_ (y:=fun X hX=>by have c0:=(BootRow.cells hX.1).1;go_simp);simp only[Act.put,zA,zB,zC];refine tk 5 (.pointer (some ⟨pc,0,none⟩)) 44 hX ?_;simp only[Act.put,zA,zB,zC];refine tk 6 (.string sn) 45 hX ?_ (y:=fun X hX=>by have q:=hX.2.cell_at 0;simp only[yB,yC]at q;go_simp);simp only[Act.put,zA,zB,zC];refine tk 7 (.int .u32 c) 46 hX ?_;simp only[Act.put,zA,zB,zC];refine wpAnyH_all (rs:=[8]) (by kernel_rfl) (by decide) (fun i hi=>?_);rw[List.mem_singleton]at hi;subst hi;unfold wpOp;go_simp;refine .inl ((HSg.out _ _ _ hC).mono ?_);rintro e X1 ⟨rfl,F4,hC⟩;replace hX:=(⟨hC.boot,hC.ex.2⟩:_∧_);refine⟨hX,?_⟩;refine tk 9 (.tuple #[.int .u32 a,.int .i64 0]) 38 hX ?_;simp only[Act.put,zA,zB,zC];refine tk 10 (.int .u32 a) 48 hX ?_;simp only[Act.put,zA,zB,zC];refine tk 11 (.int .i64 0) 49 hX ?_;simp only[Act.put,zA,zB,zC];refine tk 12 (.pointer (some ⟨pb,0,none⟩)) 50 hX ?_;simp only[Act.put,zA,zB,zC];refine tk 13 (.pointer (some ⟨pb,1,none⟩)) 51 hX ?_;simp only[Act.put,zA,zB,zC];refine wpAnyH_all (rs:=[14]) (by kernel_rfl) (by decide) (fun i hi=>?_);rw[List.mem_singleton]at hi;subst hi;have c1:=(BootRow.cells hX.1).2;have zz:=Row.free hX.1 1;have hself:=cell_self (i:=1) hX.1 rfl;have HXX:=hid hX;clear hX;unfold wpOp;go_simp;have hX:=HXX.out;refine .inl ⟨hX,?_⟩;refine wpAnyH_done (by kernel_rfl) ?_ _;have HC5:=hid (hC.with hC.keeps hC.ex);have HC6:=hid (hC.with (keeps_plans g vs) hC.ex.1);clear hX HXX hC HSg zz hself HC5;go_wp2_with fail;go_roundw;case rel=>exact⟨k+1,F4,h3,h0,by simp,HC6,HG2,HR2⟩
   case measure=>simp[intOf];omega
  ·obtain rfl:k=22:=by omega
   rw[show((22:Nat):Int)=22 from rfl];have hr:=HR.out;have e1:nameAll 22 (plans.drop 22) hk=some hk:=rfl;rw[e1]at hr;have hr2:=Option.some.inj hr;have hg:=HG.out;have hc:=HC.out;rw[hr2]at hg hc;have HG2:=hid hg;clear hr e1 hr2 HR hg HC HG;go_wp2_with fail;refine(HSe.out _).mono ?_;rintro e X2 ⟨⟨gs,rfl,rs⟩,hB⟩;(try dsimp only);have HC2:=hid ((hc.below hB).with (keeps_row gs 9 (sels.map sv) (by decide) (by decide) (by decide) (by decide)) rs);clear hc hB rs HSe;go_wp2_with fail;go_loopw[55] (fun i wr=> ∃(k:Nat) (F':Foot) (hk:Hp),k≤11∧i= .int .i64 k∧Hid (CN w F pb (fun X=>Row X gs 9 (sels.map sv)) wr F' hk)∧Hid (Limb.Grow h hk)∧Hid (selAll k (sels.drop k) hk=some hS)) (fun i _=>11-(intOf i).toNat);case atStart=>exact⟨0,F',hN,Nat.zero_le _,rfl,HC2,HG2,HS0⟩
   case round=>
    clear HC2 HG2 HS0 F' hk;obtain⟨k,F',hk,hkn,rfl,HC,HG,HR⟩:=hrel;by_cases h0:k<11
    ·have d1:decide ((k:Int)<11)=true:=decide_eq_true (by omega);have d2:decide (k<11)=true:=decide_eq_true h0;have hr:=HR.out;rw[sels_drop h0]at hr;have hPk:=HPP.out.grow HG.out;obtain⟨n1,n2⟩:=sel_names k h0;obtain⟨b1,b2⟩:=okT_iff n1;have cx:wr.cell? ⟨gs,k,none⟩=some (.string (strOf (sels.getD k []))):=by rw[HC.out.ex.cell_at];exact nameAt (by exact h0)
     have sl:=HC.out.ex.sl (n:=11) rfl (by decide);have ix:=fun W=>sl.index 150 Tryz.underlying150 size_str W .i64 k h0
     obtain⟨⟨o,h1⟩,x1,x2⟩:=Option.bind_eq_some_iff.1 hr;simp only at x2;obtain⟨g1,i1⟩:=grow_intern hPk.good b1 b2 x1;rw[g1.rt]at x2;have q1:=isF_le (g1.isF _ _ _ hPk.l8) (show k+1≤11 by omega);have g2:=grow_put g1.good q1 (isO_lt g1.good (isF_isO i1));have hIn:=fun R Y F1 (cn:CN w F pb R Y F1 hk)=>cn_intern cn hPk.ker (strOf (sels.getD k [])) (by rw[strOf_size];exact b2) (by rw[strOf_size];exact n2) o h1 (by rw[tx_strOf b1];exact x1)
     have hRt:=fun R Y F1 (cn:CN w F pb R Y F1 h1)=>show Calls Tryz.prog 110 #[.pointer (some ⟨F.p,0,none⟩),.int .i64 8] Y fun e X'=>e= .returned (.int .u32 (wd hk.rt 8:Nat))∧Below Y.heap.size Y X' from by
      have:=cn_root cn 8 (by decide);rw[g1.rt]at this;exact this
     have hPu:=fun R Y F1 (cn:CN w F pb R Y F1 h1)=>cn_put cn q1 (by omega) (isF_isO i1)
     have HIn:=hid hIn;have HRt:=hid hRt;have HPu:=hid hPu;have HG2:=hid (HG.out.trans (g1.trans g2));have HR2:=hid (show selAll (k+1) (sels.drop (k+1)) (Limb.putF h1 (wd hk.rt 8) k o)=some hS from x2);generalize Limb.putF h1 (wd hk.rt 8) k o=h2 at*
     generalize wd hk.rt 8=l8 at*
     generalize strOf (sels.getD k [])=sn at*
     clear hr hPk n1 n2 b1 b2 sl x1 x2 g1 i1 q1 g2 hIn hRt hPu HG HR;go_wp2_with fail;refine(HIn.out _ _ _ HC.out).mono ?_;rintro e Y1 ⟨rfl,F1,hC⟩;(try dsimp only);have HC2:=hid hC;clear hC HC HIn cx ix;go_wp2_with fail;have hC:=HC2.out.below (Below.refl _ Y1).drew;have hX:BootRow Y1.drew F pb:=hC.boot;clear HC2;refine wp_region_held (S:=fun Y=>BootRow Y F pb) (by kernel_rfl) ?_;refine tk 0 (.pointer (some ⟨pb,0,none⟩)) 63 hX ?_;simp only[Act.put,zA,zB,zC];refine tk 1 (.pointer (some ⟨pb,0,none⟩)) 64 hX ?_;simp only[Act.put,zA,zB,zC];refine tk 2 (.pointer (some ⟨pb,0,none⟩)) 65 hX ?_;simp only[Act.put,zA,zB,zC];refine tk 3 (.pointer (some ⟨F.p,0,none⟩)) 66 hX ?_ (y:=fun X hX=>by have c0:=(BootRow.cells hX).1;go_simp);simp only[Act.put,zA,zB,zC];refine tk 4 (.pointer (some ⟨pb,0,none⟩)) 67 hX ?_;simp only[Act.put,zA,zB,zC];refine tk 5 (.pointer (some ⟨pb,0,none⟩)) 68 hX ?_;simp only[Act.put,zA,zB,zC];refine tk 6 (.pointer (some ⟨pb,0,none⟩)) 69 hX ?_;simp only[Act.put,zA,zB,zC];refine tk 7 (.pointer (some ⟨F.p,0,none⟩)) 70 hX ?_ (y:=fun X hX=>by have c0:=(BootRow.cells hX).1;go_simp);simp only[Act.put,zA,zB,zC];refine tk 9 (.int .i64 k) 72 hX ?_;simp only[Act.put,zA,zB,zC];refine tk 10 (.int .u32 o) 73 hX ?_;simp only[Act.put,zA,zB,zC];refine wpAnyH_all (rs:=[8]) (by kernel_rfl) (by decide) (fun i hi=>?_);rw[List.mem_singleton]at hi;subst hi;unfold wpOp;go_simp;refine .inl ((HRt.out _ _ _ hC).mono ?_);rintro e X1 ⟨rfl,hb⟩;replace hC:=hC.below hb;replace hX:=hC.boot;clear hb;refine⟨hX,?_⟩;refine wpAnyH_all (rs:=[11]) (by kernel_rfl) (by decide) (fun i hi=>?_);rw[List.mem_singleton]at hi;subst hi;unfold wpOp;go_simp;refine .inl ((HPu.out _ _ _ hC).mono ?_);rintro e X2 ⟨rfl,F3,hC⟩;replace hX:=hC.boot;refine⟨hX,?_⟩;refine wpAnyH_done (by kernel_rfl) ?_ _;have HC3:=hid hC;clear hX hC HRt HPu;go_wp2_with fail;go_roundw;case rel=>exact⟨k+1,F3,h2,h0,by simp,HC3,HG2,HR2⟩
     case measure=>simp[intOf];omega
    ·obtain rfl:k=11:=by omega
     rw[show((11:Nat):Int)=11 from rfl];have hr:=HR.out;have e1:selAll 11 (sels.drop 11) hk=some hk:=rfl;rw[e1]at hr;have hr2:=Option.some.inj hr;have hg:=HG.out;have hc:=HC.out;rw[hr2]at hg hc;have HG2:=hid hg;clear hr e1 hr2 HR hg HC HG;go_wp2_with fail;refine(HPl.out _).mono ?_;rintro e X3 ⟨⟨g2,vs2,rfl,hPl,hg⟩,hB⟩;(try dsimp only);have HC2:=hid ((hc.below hB).with (keeps_plans g2 vs2) hPl);clear hc hB hPl hg HPl;go_wp2_with fail;go_loopw[78] (fun i wr=> ∃(k:Nat) (F':Foot) (hk:Hp),k≤22∧i= .int .i64 k∧Hid (CN w F pb (fun X=>PlansAt X g2 vs2) wr F' hk)∧Hid (Limb.Grow h hk)∧Hid (fieldAll k (plans.drop k) hk=some hE)) (fun i _=>22-(intOf i).toNat);case atStart=>exact⟨0,F',hS,Nat.zero_le _,rfl,HC2,HG2,HF0⟩
     case round=>
      clear HC2 HG2 HF0 F' hk;obtain⟨k,F',hk,hkn,rfl,HC,HG,HR⟩:=hrel;by_cases h0:k<22
      ·have d1:decide ((k:Int)<22)=true:=decide_eq_true (by omega);have d2:decide (k<22)=true:=decide_eq_true h0;have hr:=HR.out;rw[plans_drop h0]at hr;have hPk:=HPP.out.grow HG.out;obtain⟨n1,n2,n3,n4,n5⟩:=plan_names k h0;obtain⟨p0,p1,p2,p3,p4⟩:=HC.out.ex.cells h0;have hfa:=HC.out.ex.2.2 k h0;replace p0:wr.cell? ⟨g2,5*k,none⟩=some (.string (strOf (plans.getD k ⟨[],0,0,false,[]⟩).name)):=p0;have ix:=fun W=>index_by (P:=Tryz.prog) 5 (by decide) 229 232 Tryz.underlying229 size_plan g2 22 22 W .i64 k h0
       generalize plans.getD k ⟨[],0,0,false,[]⟩=p at*
       have c1:=(BootRow.cells HC.out.boot).2;have icl:=hPk.cls k h0;by_cases hf0:p.fields=[]
       ·have hr2:fieldAll (k+1) (plans.drop (k+1)) hk=some hE:=by
         have:(if p.fields=[]then fieldAll (k+1) (plans.drop (k+1)) hk else(ownF hk (wd hk.rt (10+k)) p.fields).bind (fieldAll (k+1) (plans.drop (k+1))))=some hE:=hr
         rwa [if_pos hf0]at this
        have hv:vs2.getD k undef= .slice none 0 0:=(by rcases hfa with x|x;exact x.2;exact absurd hf0 x.1);rw[hv]at p4;have HR2:=hid hr2;generalize strOf p.name=sn at*
        generalize supV p.sup=sq at*
        generalize((p.fmt:Nat):Int)=fm at*
        generalize p.idx=ix0 at*
        clear hr hPk n1 n2 n3 n4 n5 hfa icl hf0 hr2 hv HR;obtain⟨Y0,hY0,rp,hbY,hzY⟩:=alloc_row wr 232 [.string sn,.int .i64 sq,.int .i64 fm,.bool ix0,.slice none 0 0];have HY0:=hid hY0;have hC:=(HC.out.below hbY);have HC1:=hid hC;clear hY0 hbY hzY hC rp HC;go_wp2_with fail;rw[←HY0.out];clear HY0;go_roundw;case rel=>exact⟨k+1,F',hk,h0,by simp,HC1,HG,HR2⟩
        case measure=>simp[intOf];omega
       ·obtain⟨h1,x1,x2⟩: ∃h1,ownF hk (wd hk.rt (10+k)) p.fields=some h1∧fieldAll (k+1) (plans.drop (k+1)) h1=some hE:=by
         have:(if p.fields=[]then fieldAll (k+1) (plans.drop (k+1)) hk else(ownF hk (wd hk.rt (10+k)) p.fields).bind (fieldAll (k+1) (plans.drop (k+1))))=some hE:=hr;rw[if_neg hf0]at this;exact Option.bind_eq_some_iff.1 this
        obtain⟨gf,hv,rf⟩: ∃gf,vs2.getD k undef= .slice (some ⟨gf,0,none⟩) p.fields.length p.fields.length∧Row wr gf 9 (p.fields.map sv):=by
         rcases hfa with x|⟨_,gf,y1,y2⟩
         ·exact absurd x.1 hf0
         ·exact⟨gf,y1,y2⟩
        rw[hv]at p4;have hnf:0<p.fields.length:=List.length_pos_iff.2 hf0;obtain⟨nf,hnf2⟩: ∃nf,nf=p.fields.length:=⟨_,rfl⟩;rw[←hnf2]at p4;have d3:decide ((0:Int)<(nf:Int))=true:=decide_eq_true (by omega);have d4:decide (0<nf)=true:=decide_eq_true (by omega);have g1:=grow_ownF hPk.good n4 n5 icl x1
        have hCl:=fun R Y F1 (cn:CN w F pb R Y F1 hk)=>show Calls Tryz.prog 185 #[.pointer (some ⟨pb,0,none⟩),.int .i64 (10+(k:Int))] Y fun e X'=>e= .returned (.int .u32 (wd hk.rt (10+k):Nat))∧Below Y.heap.size Y X' from by
         have:=cn_class cn (10+k) (by omega);rw[Int.natCast_add]at this;exact this
        have hOw:=fun R Y F1 (cn:CN w F pb R Y F1 hk) (rf:Row Y gf 9 (p.fields.map sv))=>cn_own cn hPk.ker (wd hk.rt (10+k)) icl p.fields nf gf hnf2 (by omega) (by omega) rf n3 h1 x1
        have HCl:=hid hCl;have HOw:=hid hOw;have HG2:=hid (HG.out.trans g1);have HR2:=hid x2;obtain⟨fl,hfl⟩: ∃fl,fl=p.fields.map sv:=⟨_,rfl⟩;rw[←hfl]at rf HOw;generalize wd hk.rt (10+k)=c at*
        generalize strOf p.name=sn at*
        generalize supV p.sup=sq at*
        generalize((p.fmt:Nat):Int)=fm at*
        generalize p.idx=ix0 at*
        clear hr hPk n1 n2 n3 n4 n5 hfa icl hf0 hv HR x1 x2 hnf hnf2 g1 hCl hOw HG hfl;obtain⟨Y0,hY0,rp,hbY,hzY⟩:=alloc_row wr 232 [.string sn,.int .i64 sq,.int .i64 fm,.bool ix0,.slice (some ⟨gf,0,none⟩) nf nf];have HY0:=hid hY0;obtain⟨pc,hpc⟩: ∃pc,pc=wr.heap.size:=⟨_,rfl⟩;rw[←hpc]at rp;have HPC:=hid hpc;have hC:=(HC.out.below hbY);have HC1:=hid (hC.with (hC.keeps.and ((keeps_row pc 232 [.string sn,.int .i64 sq,.int .i64 fm,.bool ix0,.slice (some ⟨gf,0,none⟩) nf nf] (by decide) (by decide) (by decide) (by decide)).and (keeps_row gf 9 fl (by decide) (by decide) (by decide) (by decide)))) ⟨hC.ex,rp,rf.below hbY rf.lt⟩);have hlt:=(Row.lt HC.out.boot);clear hY0 hbY hzY hpc hC rp rf HC;go_wp2_with fail;rw[←HY0.out,←HPC.out];have hC:=HC1.out.below (Below.refl _ Y0).drew;have hX:BootRow Y0.drew F pb∧Row Y0.drew pc 232 [.string sn,.int .i64 sq,.int .i64 fm,.bool ix0,.slice (some ⟨gf,0,none⟩) nf nf]:=⟨hC.boot,hC.ex.2.1⟩;clear HC1 HY0 hlt c1;refine wp_region_held (S:=fun Y=>BootRow Y F pb∧Row Y pc 232 [.string sn,.int .i64 sq,.int .i64 fm,.bool ix0,.slice (some ⟨gf,0,none⟩) nf nf]) (by kernel_rfl) ?_;refine tk 0 (.pointer (some ⟨pb,0,none⟩)) 94 hX ?_;simp only[Act.put,zA,zB,zC];refine tk 1 (.pointer (some ⟨pb,0,none⟩)) 95 hX ?_;simp only[Act.put,zA,zB,zC];refine tk 2 (.pointer (some ⟨pb,0,none⟩)) 96 hX ?_;simp only[Act.put,zA,zB,zC];refine tk 3 (.pointer (some ⟨pb,0,none⟩)) 97 hX ?_;simp only[Act.put,zA,zB,zC];refine tk 4 (.pointer (some ⟨F.p,0,none⟩)) 98 hX ?_ (y:=fun X hX=>by have c0:=(BootRow.cells hX.1).1;go_simp);simp only[Act.put,zA,zB,zC];refine tk 5 (.pointer (some ⟨pb,0,none⟩)) 99 hX ?_;simp only[Act.put,zA,zB,zC];refine tk 6 (.int .i64 k) 100 hX ?_;simp only[Act.put,zA,zB,zC];refine tk 7 (.int .i64 (10+(k:Int))) 101 hX ?_ (y:=fun X hX=>by go_simp;(first |done|exact i64_self (by omega) (by omega)|omega));simp only[Act.put,zA,zB,zC];refine tk 9 (.pointer (some ⟨pc,4,none⟩)) 103 hX ?_;simp only[Act.put,zA,zB,zC];refine tk 10 (.slice (some ⟨gf,0,none⟩) nf nf) 104 hX ?_ (y:=fun X hX=>by have q:=hX.2.cell_at 4;simp only[yB,yC]at q;go_simp);simp only[Act.put,zA,zB,zC];refine wpAnyH_all (rs:=[8]) (by kernel_rfl) (by decide) (fun i hi=>?_);rw[List.mem_singleton]at hi;subst hi;unfold wpOp;go_simp;refine .inl ((HCl.out _ _ _ hC).mono ?_);rintro e X1 ⟨rfl,hb⟩;replace hC:=hC.below hb;replace hX:=(⟨hC.boot,hC.ex.2.1⟩:_∧_);clear hb;refine⟨hX,?_⟩;refine wpAnyH_all (rs:=[11]) (by kernel_rfl) (by decide) (fun i hi=>?_);rw[List.mem_singleton]at hi;subst hi;unfold wpOp;go_simp;refine .inl ((HOw.out _ _ _ hC hC.ex.2.2).mono ?_);rintro e X2 ⟨rfl,F4,hC⟩;replace hX:=(⟨hC.boot,hC.ex.2.1⟩:_∧_);refine⟨hX,?_⟩;refine tk 12 (.pointer (some ⟨pb,0,none⟩)) 106 hX ?_;simp only[Act.put,zA,zB,zC];refine tk 13 (.pointer (some ⟨pb,1,none⟩)) 107 hX ?_;simp only[Act.put,zA,zB,zC];refine wpAnyH_all (rs:=[14]) (by kernel_rfl) (by decide) (fun i hi=>?_);rw[List.mem_singleton]at hi;subst hi;have c1:=(BootRow.cells hX.1).2;have zz:=Row.free hX.1 1;have hself:=cell_self (i:=1) hX.1 rfl;have HXX:=hid hX;clear hX;unfold wpOp;go_simp;have hX:=HXX.out;refine .inl ⟨hX,?_⟩;refine wpAnyH_done (by kernel_rfl) ?_ _;have HC6:=hid (hC.with (keeps_plans g2 vs2) hC.ex.1);clear hX HXX hC HOw HCl zz hself;go_wp2_with fail;go_roundw;case rel=>exact⟨k+1,F4,h1,h0,by simp,HC6,HG2,HR2⟩
        case measure=>simp[intOf];omega
      ·obtain rfl:k=22:=by omega
       have hr:=HR.out;have e1:fieldAll 22 (plans.drop 22) hk=some hk:=rfl;rw[e1]at hr;have hr2:=Option.some.inj hr;have hc:=HC.out;rw[hr2]at hc;have HM:=hid (show Moved w F wr hE from⟨F',hc.st⟩);clear hr e1 hr2 hc HC HG HR;go_wp2_with fail;go_returns;exact⟨rfl,HM.out⟩
end
end Go.Proofs.YtbffpkmfhkphdaaGreatDoor

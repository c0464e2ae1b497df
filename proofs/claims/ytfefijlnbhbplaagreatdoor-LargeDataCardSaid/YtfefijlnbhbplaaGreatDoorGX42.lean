/- Walks and laws that LargeData asks for. -/
import Derived.Test.YtfefijlnbhbplaaGreatDoorGX39
import Derived.Test.YtfefijlnbhbplaaGreatDoorGX38
set_option linter.unusedVariables false
set_option linter.unusedSimpArgs false
set_option maxRecDepth 1000000
set_option maxHeartbeats 6400000
namespace Go.Proofs.YtfefijlnbhbplaaGreatDoor
open Go Lib Go.RowKit Limb Tryz
namespace Limb
def mkH(h1:Hp)(o:Nat)(neg:Bool)(l:List Nat):Hp:=aY o 1 l (if neg=true then putF h1 o 0 1 else h1)
theorem grow_put3{h:Hp}(k:Good h){o i v:Nat}(hf:isF h o 3 (i+1)=true)(d:v<4294967296):Grow h (putF h o i v):=by
 have g:=fq k hf δ d;rw[isF_iff]at hf;obtain⟨h1,j,c⟩:=hf;refine⟨g,rfl,rfl,fun p f n e=>?_⟩;rw[isF_iff]at e ⊢;have b:hdO (putF h o i v) p=hdO h p:=nj k (isO_iff.1 h1).2.2 (show i<(hd h (o/2)).size from c) (isO_iff.1 e.1).2.2;rw[b];exact⟨e.1,e.2⟩
end Limb
theorem gE(o:Nat)(l:List Nat)(k:Nat)(b:k<l.length)(h:Hp):aY o (1+k) (l.drop k) h=aY o (1+(k+1)) (l.drop (k+1)) (Limb.putF h o (1+k) (wd l k)):=by
 rw[List.drop_eq_getElem_cons b,wd_lt b];rfl
section
variable {w:World} {F:Foot} {h:Hp}
theorem pC(H:HeapAt w F h){o i v:Nat}(hf:isF h o 3 (i+1)=true)(p:i<=65535)(d:v<4294967296):Calls prog 40 #[E F.p,Ψ o,I i,Ψ v] w fun e w'=>e= .returned (I 0)/\Step w F w' F (Limb.putF h o i v):=by
 obtain⟨g,j,k⟩:=isF_iff.1 hf;have b:(hdO h o).len=(hdO h o).size:=fr ω;have f:bB h o (i:Int) [3]=0:=lookE_zero.2 ⟨g,by rw[j];rfl,ω,by rw[b];omega⟩;have c:o9 h o (i:Int) v=Limb.putF h o i v:=by unfold o9;rw[if_pos f,Int.toNat_natCast]
 have:=sd H o (aM H.good g) (i:Int) ω ω v d;rw[f,c]at this;exact this
end
section
variable (w:World) (neg:Bool) (a:Option Addr) (l:List Nat) (m cap:Nat)
theorem lR(p:Nat)(j:Came w neg a m l)(y:bn neg l=true)(hs:bC (signed neg (val l))=true):Calls prog 8 #[E p,Ω neg a m cap] w fun e w'=>e=Rt #[Ψ (dE (signed neg (val l))),I 0]/\Below w w w':=by
 obtain⟨W,q,f,g⟩: ∃W,W=w.alloc (.cells #[.bool neg,.slice a m cap] 24)/\Row W w 24 [.bool neg,.slice a m cap]/\Below w w W:=⟨_,rfl,by unfold Row;exact heap_alloc_new _ _,(Below.refl _ _).alloc ι _⟩;have t:=hid q;clear q;obtain⟨r,c1⟩:=f.two;have u:=dz W neg a l m cap (j.below g).1 j.2.1 j.2.2.1 j.2.2.2;rw[y]at u;have A:=hid u;have x:=hid (fun X (d:Below W.heap.size W X)=>dB X neg a l m cap ((j.below g).below d));have B:=hid (fun X=>lP X (signed neg (val l)) hs);rw[y,hs]at x;generalize signed neg (val l)=z at*
 clear u j y hs;go_enter func8,ntmps8;go_wp2_with fail;rw[<-t.out];refine(A.out).mono ?_;rintro e V ⟨rfl,d⟩;(try dsimp only);have k:=hid (x.out V d);have f:=f.below d f.lt;have g:=τ g d;clear r c1 d;obtain⟨r,c1⟩:=f.two;clear x A;go_wp2_with fail;refine(k.out).mono ?_;rintro e C ⟨⟨v,rfl,hv⟩,d⟩;(try dsimp only);obtain rfl:=hv rfl;have f:=f.below d f.lt;have g:=τ g d;clear r c1 d;obtain⟨r,c1⟩:=f.two;clear k;go_wp2_with fail;refine(B.out C).mono ?_;rintro e D ⟨rfl,rfl⟩;(try dsimp only);go_wp2_with fail;go_ret2;exact⟨rfl,g⟩
end
section
variable {w:World} {F:Foot} {h:Hp}
theorem vE(H:HeapAt w F h)(neg:Bool)(a:Option Addr)(l:List Nat)(m cap:Nat)(hc:Came w neg a m l)(hF:0<l.length->∀b off,a=some ⟨b,off,none⟩->b∉F.l)(hm:bn neg l=true)(hs:bC (signed neg (val l))=false)(hml:m<=1024)(o:Nat)(h1:Hp)(f:aW h (wd h.rt 17) 3 (1+m)=some (o,h1)):Calls prog 8 #[E F.p,Ω neg a m cap] w fun e w'=>e=Rt #[Ψ o,I 0]/\Moved w F w' (Limb.mkH h1 o neg l):=by
 obtain⟨W,hWe,r0,hW⟩: ∃W,W=w.alloc (.cells #[.bool neg,.slice a m cap] 24)/\Row W w 24 [.bool neg,.slice a m cap]/\Below w w W:=⟨_,rfl,by unfold Row;exact heap_alloc_new _ _,(Below.refl _ _).alloc ι _⟩;have HWe:=hid hWe;clear hWe;obtain⟨c0,c1⟩:=r0.two;have HB:=hid hW;have hM:=dz W neg a l m cap (hc.below hW).1 hc.2.1 hc.2.2.1 hc.2.2.2;rw[hm]at hM;have HM:=hid hM;have HSm:=hid (fun X (S:Below W.heap.size W X)=>dB X neg a l m cap ((hc.below hW).below S));rw[hm,hs]at HSm;have HW0:=H.below hW;have HRt:=hid (fun X (S:Below W.heap.size W X)=>show Calls prog 39 #[E F.p,I 17] X fun e w'=>e=Rt #[Ψ (wd h.rt 17:Nat),I 0]/\X=w' from dM (HW0.below S) 17 δ)
 have HAl:=hid (fun X (S:Below W.heap.size W X)=>show Calls prog 11 #[E F.p,Ψ (wd h.rt 17:Nat),I 3,I (1+(m:Int))] X fun e w'=>e=Rt #[Ψ o,I 0]/\∃F',Step W F w' F' h1 from by
  have:=g9 (HW0.below S) (wd h.rt 17) 3 (1+m) o h1 δ δ ω f;rw[Int.natCast_add]at this;exact this.mono fun e w' ⟨x,F',y⟩=>⟨x,F',Step.of_below S y⟩)
 obtain⟨g1,i1⟩:=bm HW0.good δ δ (show 1+m<=65535 by omega) f
 have T:=hid (fun X F1 G (hS:Step W F X F1 G) (i v:Nat) (hf:isF G o 3 (i+1)=true) (hi:i<=65535) (hv:v<4294967296)=>show Calls prog 40 #[E F.p,Ψ o,I i,Ψ v] X fun e w'=>e= .returned (I 0)/\∃F',Step W F w' F' (Limb.putF G o i v)from by
  rw[<-hS.2.1.p];exact(pC hS.1 hf hi hv).mono fun e w' ⟨x,y⟩=>⟨x,F1,hS.trans y⟩)
 have L:=hid (fun X (ho:Only F.l W X)=>(hc.below hW).1.only ho hF);have M:=hid hc.2.1;have HL:=hid hc.2.2.1;have q:=hid i1;have hg0:w.heap.size∉F.l:=fun e=>Nat.lt_irrefl _ (H.lt _ e)
 have U:=hid (fun X (ho:Only F.l W X)=>show X.cell? ⟨w,0,none⟩=some (.bool neg)/\X.cell? ⟨w,1,none⟩=some (.slice a m cap)from by
  have r:=r0.only ho hg0;obtain⟨c0,c1⟩:=r.two;exact⟨c0,c1⟩)
 obtain⟨hE,hhE⟩:=ξ (Limb.mkH h1 o neg l);rw[<-hhE];have HE:=hid hhE;generalize wd h.rt 17=r17 at*
 obtain⟨bx,hbx⟩:=ξ w.heap.size;rw[<-hbx]at r0 U hg0;have HBX:=hid hbx;rw[<-hbx]at c0 c1;clear hM hc hm hs f hhE i1 g1 H HW0 hF hg0 hbx;go_enter func8,ntmps8;go_wp2_with fail;rw[<-HWe.out,<-HBX.out];refine(HM.out).mono ?_;rintro e V ⟨rfl,S⟩;(try dsimp only);have HBV:=hid S;obtain⟨c0,c1⟩:=U.out V (Only.of_below S);clear S HM HWe;go_wp2_with fail;refine(HSm.out V HBV.out).mono ?_;rintro e V2 ⟨⟨v,rfl,-⟩,S⟩;(try dsimp only);have O:=hid (HBV.out.trans (S.mono HBV.out.size));obtain⟨c0,c1⟩:=U.out V2 (Only.of_below O.out);clear S HSm HBV;go_wp2_with fail;refine(HRt.out V2 O.out).mono ?_;rintro e V3 ⟨rfl,rfl⟩;(try dsimp only);go_wp2_with fail;refine(HAl.out V2 O.out).mono ?_;rintro e V4 ⟨rfl,F1,hS⟩;(try dsimp only);obtain⟨c0,c1⟩:=U.out V4 hS.2.2;have Y:=hid hS;clear hS HAl HRt O r0 hW;cases neg with
 |false=>
  have P:=Y;have z:=q;have A:=hid (show aY o (1+0) (l.drop 0) h1=hE from HE.out.symm);obtain⟨F2,hF2⟩:=ξ F1;obtain⟨B,Q⟩:=ξ h1;rw[<-hF2,<-Q]at P;rw[<-Q]at z A;clear Y q HE hF2 Q;go_wp2_with fail;go_loopw[53] (fun i wr=> ∃(k:Nat) (F3:Foot) (G:Hp),k<=m/\i= .int .i64 k/\Hid (Step W F wr F3 G)/\Hid (isF G o 3 (1+m)=true)/\Hid (aY o (1+k) (l.drop k) G=hE)) (fun i _=>m-(intOf i).toNat);case atStart=>exact⟨0,F2,B,Nat.zero_le _,rfl,P,z,A⟩
  case round=>
   clear P z A c0 c1 F2 B;obtain⟨k,F2,B,hkm,rfl,R,q,HP⟩:=hrel;by_cases h0:k<m
   ·have d1:decide ((k:Int)<(m:Int))=true:=dT;have d2:decide (k<m)=true:=decide_eq_true h0;have Z:k<l.length:=by have:=HL.out;omega
    have f:=HP.out;rw[gE o l k Z]at f;obtain⟨b,off,C,D,-⟩:=(L.out wr R.out.2.2).use 22 25 underlying22 aK cap;rw[<-HL.out]at C D;have ix:=fun W=>C W .i64 (k:Int) ω ω
    rw[Int.toNat_natCast]at ix;have cx:=D wr (Below.refl _ _) k h0;have hf:=aO q.out (show(1+k)+1<=1+m by omega);have hv:=M.out.wd k;have j:=hid (T.out wr F2 B R.out (1+k) (wd l k) hf ω hv);have HI2:=hid ((Limb.grow_put3 R.out.1.good hf hv).isF _ _ _ q.out);have HP2:=hid f;generalize Limb.putF B o (1+k) (wd l k)=G at*
    generalize wd l k=x at*
    clear f C D hf hv q HP Z;go_wp2_with fail;refine(j.out).mono ?_;rintro e Y1 ⟨rfl,F3,hS⟩;(try dsimp only);have HS2:=hid hS;clear hS j R cx ix;go_wp2_with fail;go_roundw;case rel=>exact⟨k+1,F3,G,h0,by simp,HS2,HI2,HP2⟩
    case measure=>exact μ
   ·obtain rfl:k=m:=ω
    have f:=HP.out;rw[show l.drop k=[]from by rw[HL.out];exact List.drop_length]at f;have f:B=hE:=f;subst f;have d1:decide ((k:Int)<(k:Int))=false:=dF;have d2:decide (k<k)=false:=dF;have HM:=hid (show Moved w F wr B from⟨F2,Step.of_below HB.out R.out⟩);clear R q HP T L M HL HB;go_wp2_with fail;go_ret2;exact⟨rfl,HM.out⟩
 |true=>
  have j:=hid (T.out V4 F1 h1 Y.out 0 1 (aO q.out ω) δ δ);have z:=hid ((Limb.grow_put3 Y.out.1.good (i:=0) (v:=1) (aO q.out ω) δ).isF _ _ _ q.out);have A:=hid (show aY o (1+0) (l.drop 0) (Limb.putF h1 o 0 1)=hE from HE.out.symm);obtain⟨B,Q⟩:=ξ (Limb.putF h1 o 0 1);rw[<-Q]at z A j;clear Y q HE Q;go_wp2_with fail;refine(j.out).mono ?_;rintro e V5 ⟨rfl,F2,hS⟩;(try dsimp only);obtain⟨c0,c1⟩:=U.out V5 hS.2.2;have P:=hid hS;clear hS j;go_wp2_with fail;go_loopw[53] (fun i wr=> ∃(k:Nat) (F3:Foot) (G:Hp),k<=m/\i= .int .i64 k/\Hid (Step W F wr F3 G)/\Hid (isF G o 3 (1+m)=true)/\Hid (aY o (1+k) (l.drop k) G=hE)) (fun i _=>m-(intOf i).toNat);case atStart=>exact⟨0,F2,B,Nat.zero_le _,rfl,P,z,A⟩
  case round=>
   clear P z A c0 c1 F2 B;obtain⟨k,F2,B,hkm,rfl,R,q,HP⟩:=hrel;by_cases h0:k<m
   ·have d1:decide ((k:Int)<(m:Int))=true:=dT;have d2:decide (k<m)=true:=decide_eq_true h0;have Z:k<l.length:=by have:=HL.out;omega
    have f:=HP.out;rw[gE o l k Z]at f;obtain⟨b,off,C,D,-⟩:=(L.out wr R.out.2.2).use 22 25 underlying22 aK cap;rw[<-HL.out]at C D;have ix:=fun W=>C W .i64 (k:Int) ω ω
    rw[Int.toNat_natCast]at ix;have cx:=D wr (Below.refl _ _) k h0;have hf:=aO q.out (show(1+k)+1<=1+m by omega);have hv:=M.out.wd k;have j:=hid (T.out wr F2 B R.out (1+k) (wd l k) hf ω hv);have HI2:=hid ((Limb.grow_put3 R.out.1.good hf hv).isF _ _ _ q.out);have HP2:=hid f;generalize Limb.putF B o (1+k) (wd l k)=G at*
    generalize wd l k=x at*
    clear f C D hf hv q HP Z;go_wp2_with fail;refine(j.out).mono ?_;rintro e Y1 ⟨rfl,F3,hS⟩;(try dsimp only);have HS2:=hid hS;clear hS j R cx ix;go_wp2_with fail;go_roundw;case rel=>exact⟨k+1,F3,G,h0,by simp,HS2,HI2,HP2⟩
    case measure=>exact μ
   ·obtain rfl:k=m:=ω
    have f:=HP.out;rw[show l.drop k=[]from by rw[HL.out];exact List.drop_length]at f;have f:B=hE:=f;subst f;have d1:decide ((k:Int)<(k:Int))=false:=dF;have d2:decide (k<k)=false:=dF;have HM:=hid (show Moved w F wr B from⟨F2,Step.of_below HB.out R.out⟩);clear R q HP T L M HL HB;go_wp2_with fail;go_ret2;exact⟨rfl,HM.out⟩
end
section
variable {w:World} {G:RFoot} {h:Hp}
theorem nT(w:World)(d:Bool)(a:Option Addr)(l:List Nat)(m cap:Nat)(p:Nat)(u:Came w d a m l)(x:bn d l=true)(hs:bC (signed d (val l))=true):Calls prog 9 #[E p,Ω d a m cap] w fun e w'=>e=Rt #[Ψ (dE (signed d (val l))),I 0]/\Below w w w':=by
 obtain⟨W,g,f,j⟩: ∃W,W=w.alloc (.cells #[.bool d,.slice a m cap] 24)/\Row W w 24 [.bool d,.slice a m cap]/\Below w w W:=⟨_,rfl,by unfold Row;exact heap_alloc_new _ _,(Below.refl _ _).alloc ι _⟩;have k:=hid g;clear g;obtain⟨t,c1⟩:=f.two;have q:=hid (jx W d a l m cap (u.below j));have y:=hid (fun X=>xG X (signed d (val l)) hs);have r:=hid (fun b (h:bn d l=true->b=bC (signed d (val l)))=>show b=true from by rw[h x,hs]);generalize signed d (val l)=z at*
 clear u x hs;go_enter func9,ntmps9;go_wp2_with fail;rw[<-k.out];refine(q.out).mono ?_;rintro e A ⟨⟨v,b,rfl,hb1,hv⟩,hb⟩;(try dsimp only);obtain rfl:=r.out b hb1;obtain rfl:=hv rfl;have f:=f.below hb f.lt;have j:=τ j hb;clear t c1 hb;obtain⟨t,c1⟩:=f.two;clear q r hb1;go_wp2_with fail;refine(y.out A).mono ?_;rintro e B ⟨rfl,rfl⟩;(try dsimp only);go_wp2_with fail;go_ret2;exact⟨rfl,j⟩
theorem BF(H:RefAt w G h)(h5w:5<=w.heap.size)(f:Bool)(a:Option Addr)(l:List Nat)(m cap:Nat)(hc:Came w f a m l)(hF:0<l.length->∀b off,a=some ⟨b,off,none⟩->b∉G.l)(hm:bn f l=true)(hs:bC (signed f (val l))=false)(hml:m<=1024)(o:Nat)(h1:Hp)(j:aW h (wd h.rt 17) 3 (1+m)=some (o,h1)):Calls prog 9 #[E G.p,Ω f a m cap] w fun e w'=>e=Rt #[Ψ o,I 0]/\RMoved w G w' (Limb.mkH h1 o f l):=by
 obtain⟨W,hWe,r0,hW⟩: ∃W,W=w.alloc (.cells #[.bool f,.slice a m cap] 24)/\Row W w 24 [.bool f,.slice a m cap]/\Below w w W:=⟨_,rfl,by unfold Row;exact heap_alloc_new _ _,(Below.refl _ _).alloc ι _⟩;have HWe:=hid hWe;clear hWe;obtain⟨c0,c1⟩:=r0.two;have HB:=hid hW;have HSm:=hid (jx W f a l m cap (hc.below hW));have HT:=hid (fun b (h:bn f l=true->b=bC (signed f (val l)))=>show b=false from by rw[h hm,hs]);have HW0:=H.below hW;have h5W:=Nat.le_trans h5w hW.size
 have HRt:=hid (fun X F9 U (e9:U.rt=h.rt) (s9:RStep W G X F9 U)=>show X.cell? ⟨G.p,2,none⟩=O (M G.gr 64 64)/\X.cell? ⟨G.gr,17,none⟩=O (Ψ (wd h.rt 17:Nat))from by
  have q:=s9.1.root (i:=17) δ;rw[s9.2.1.p,s9.2.1.gr,e9]at q;exact⟨q.1,q.2.1⟩)
 have HS0:=hid (fun X (hb:Below W.heap.size W X)=>RStep.same HW0 hb)
 have HAl:=hid (fun X (hb:Below W.heap.size W X)=>show Calls prog 12 #[E G.p,Ψ (wd h.rt 17:Nat),I 3,I (1+(m:Int))] X fun e w'=>e=Rt #[Ψ o,I 0]/\∃F',RStep W G w' F' h1 from by
  have:=nc (HW0.below hb) (Nat.le_trans h5W hb.size) (wd h.rt 17) 3 (1+m) o h1 (.inr rfl) ω j;rw[Int.natCast_add]at this;exact this.mono fun e w' ⟨x,F',y⟩=>⟨x,F',RStep.of_below hb y HW0.lt⟩)
 obtain⟨g1,i1⟩:=bm HW0.good δ δ (show 1+m<=65535 by omega) j
 have HSw:=hid (fun X F1 A (hS:RStep W G X F1 A) (i v:Nat) (hf:isF A o 3 (i+1)=true) (_:i<=65535) (hv:v<4294967296)=>show Calls prog 43 #[E G.p,Ψ o,I i,Ψ v] X fun e w'=>e= .returned (I 0)/\∃F',RStep W G w' F' (Limb.putF A o i v)from by
  rw[<-hS.2.1.p];exact(zR hS.1 hf hv).mono fun e w' ⟨x,y⟩=>⟨x,F1,hS.trans y⟩)
 have R:=hid (fun X (ho:Only G.l W X)=>(hc.below hW).1.only ho hF);have T:=hid hc.2.1;have HL:=hid hc.2.2.1;have B:=hid i1;have HER:=hid g1.rt;have hg0:w.heap.size∉G.l:=fun e=>Nat.lt_irrefl _ (H.lt _ e)
 have HR0:=hid (fun X (ho:Only G.l W X)=>show X.cell? ⟨w,0,none⟩=some (.bool f)/\X.cell? ⟨w,1,none⟩=some (.slice a m cap)from by
  have r:=r0.only ho hg0;obtain⟨c0,c1⟩:=r.two;exact⟨c0,c1⟩)
 have HOB:=hid (fun X F1 A (hS:RStep W G X F1 A)=>show RStep w G X F1 A from RStep.of_below hW hS H.lt);have ix17: ∀W,(Instr.indexAt 44 (M G.gr 64 64) (I 17)).run prog W= .ok (Θ G.gr 17) W:=(H.root (i:=17) δ).2.2;obtain⟨hE,hhE⟩:=ξ (Limb.mkH h1 o f l);rw[<-hhE];have HE:=hid hhE;generalize wd h.rt 17=r17 at*
 obtain⟨bx,hbx⟩:=ξ w.heap.size;rw[<-hbx]at r0 HR0 hg0;have HBX:=hid hbx;rw[<-hbx]at c0 c1;clear hc hm hs j hhE i1 g1 H HW0 hF hg0 hbx h5W h5w;go_enter func9,ntmps9;go_wp2_with fail;rw[<-HWe.out,<-HBX.out];refine(HSm.out).mono ?_;rintro e V2 ⟨⟨v,b,rfl,hb1,-⟩,hb⟩;(try dsimp only);obtain rfl:=HT.out b hb1;have HBV2:=hid hb;clear hb hb1 HSm HT HWe;go_wp2_with fail;have hbd:=HBV2.out.drew;have hX: ∃F9 U,U.rt=h.rt/\RStep W G V2.drew F9 U:=⟨G,h,rfl,HS0.out _ hbd⟩;refine wp_region_held (S:=fun Y=> ∃F9 U,U.rt=h.rt/\RStep W G Y F9 U) κ ?_;refine tk 0 (E G.p) ?_;refine tk 1 (E G.p) ?_;refine tk 2 (E G.p) ?_;refine tk 3 (Θ G.p 2) ?_;refine tk 4 (M G.gr 64 64) ?_ (y:=fun X hX=>by obtain⟨F9,U,e9,s9⟩:=hX;obtain⟨q1,q2⟩:=HRt.out _ _ _ e9 s9;go_simp);refine tk 5 (Θ G.gr 17) ?_;refine tk 6 (Ψ r17) ?_ (y:=fun X hX=>by obtain⟨F9,U,e9,s9⟩:=hX;obtain⟨q1,q2⟩:=HRt.out _ _ _ e9 s9;go_simp);refine tk 7 (Θ bx 1) ?_;refine tk 8 (.slice a m cap) ?_ (y:=fun X hX=>by obtain⟨F9,U,e9,s9⟩:=hX;obtain⟨q1,q2⟩:=HR0.out _ s9.2.2;go_simp);refine tk 9 (I m) ?_;refine tk 10 (I (1+(m:Int))) ?_ (y:=fun X hX=>by go_simp;(first |done|exact aF ω ω|omega));refine wo 11 ?_;unfold wpOp;go_simp;refine .inl ((HAl.out _ hbd).mono ?_);rintro e X1 ⟨rfl,F1,hS⟩;replace hX: ∃F9 U,U.rt=h.rt/\RStep W G X1 F9 U:=⟨F1,h1,HER.out,hS⟩;refine⟨hX,?_⟩;refine tk 12 (.tuple #[Ψ o,I 0]) ?_;refine tk 13 (Ψ o) ?_;refine tk 14 (I 0) ?_;refine tk 15 (Ψ o) ?_;refine tk 16 (I 0) ?_;refine wpAnyH_done κ ?_ _;obtain⟨c0,c1⟩:=HR0.out X1 hS.2.2;have HS1:=hid hS;clear hX hS hbd HAl HRt HBV2 HS0 HER r0 hW ix17;cases f with
 |false=>
  have V:=HS1;have C:=B;have D:=hid (show aY o (1+0) (l.drop 0) h1=hE from HE.out.symm);obtain⟨F2,hF2⟩:=ξ F1;obtain⟨L,Z⟩:=ξ h1;rw[<-hF2,<-Z]at V;rw[<-Z]at C D;clear HS1 B HE hF2 Z;go_wp2_with fail;go_loopw[46] (fun i wr=> ∃(k:Nat) (F3:RFoot) (A:Hp),k<=m/\i= .int .i64 k/\Hid (RStep W G wr F3 A)/\Hid (isF A o 3 (1+m)=true)/\Hid (aY o (1+k) (l.drop k) A=hE)) (fun i _=>m-(intOf i).toNat);case atStart=>exact⟨0,F2,L,Nat.zero_le _,rfl,V,C,D⟩
  case round=>
   clear V C D c0 c1 F2 L;obtain⟨k,F2,L,hkm,rfl,HS,B,HP⟩:=hrel;by_cases h0:k<m
   ·have d1:decide ((k:Int)<(m:Int))=true:=dT;have d2:decide (k<m)=true:=decide_eq_true h0;have hkl:k<l.length:=by have:=HL.out;omega
    have j:=HP.out;rw[gE o l k hkl]at j;obtain⟨b,off,P,Q,-⟩:=(R.out wr HS.out.2.2).use 22 25 underlying22 aK cap;rw[<-HL.out]at P Q;have ix:=fun W=>P W .i64 (k:Int) ω ω
    rw[Int.toNat_natCast]at ix;have cx:=Q wr (Below.refl _ _) k h0;have hf:=aO B.out (show(1+k)+1<=1+m by omega);have hv:=T.out.wd k;have z:=hid (HSw.out wr F2 L HS.out (1+k) (wd l k) hf ω hv);have HI2:=hid ((Limb.grow_put3 HS.out.1.good hf hv).isF _ _ _ B.out);have HP2:=hid j;generalize Limb.putF L o (1+k) (wd l k)=A at*
    generalize wd l k=x at*
    clear j P Q hf hv B HP hkl;go_wp2_with fail;refine(z.out).mono ?_;rintro e Y1 ⟨rfl,F3,hS⟩;(try dsimp only);have HS2:=hid hS;clear hS z HS cx ix;go_wp2_with fail;go_roundw;case rel=>exact⟨k+1,F3,A,h0,by simp,HS2,HI2,HP2⟩
    case measure=>exact μ
   ·obtain rfl:k=m:=ω
    have j:=HP.out;rw[show l.drop k=[]from by rw[HL.out];exact List.drop_length]at j;have j:L=hE:=j;subst j;have d1:decide ((k:Int)<(k:Int))=false:=dF;have d2:decide (k<k)=false:=dF;have HM:=hid (show RMoved w G wr L from⟨F2,HOB.out _ _ _ HS.out⟩);clear HS B HP HSw R T HL HB HOB;go_wp2_with fail;go_ret2;exact⟨rfl,HM.out⟩
 |true=>
  have z:=hid (HSw.out X1 F1 h1 HS1.out 0 1 (aO B.out ω) δ δ);have C:=hid ((Limb.grow_put3 HS1.out.1.good (i:=0) (v:=1) (aO B.out ω) δ).isF _ _ _ B.out);have D:=hid (show aY o (1+0) (l.drop 0) (Limb.putF h1 o 0 1)=hE from HE.out.symm);obtain⟨L,Z⟩:=ξ (Limb.putF h1 o 0 1);rw[<-Z]at C D z;clear HS1 B HE Z;go_wp2_with fail;refine(z.out).mono ?_;rintro e V5 ⟨rfl,F2,hS⟩;(try dsimp only);obtain⟨c0,c1⟩:=HR0.out V5 hS.2.2;have V:=hid hS;clear hS z;go_wp2_with fail;go_loopw[46] (fun i wr=> ∃(k:Nat) (F3:RFoot) (A:Hp),k<=m/\i= .int .i64 k/\Hid (RStep W G wr F3 A)/\Hid (isF A o 3 (1+m)=true)/\Hid (aY o (1+k) (l.drop k) A=hE)) (fun i _=>m-(intOf i).toNat);case atStart=>exact⟨0,F2,L,Nat.zero_le _,rfl,V,C,D⟩
  case round=>
   clear V C D c0 c1 F2 L;obtain⟨k,F2,L,hkm,rfl,HS,B,HP⟩:=hrel;by_cases h0:k<m
   ·have d1:decide ((k:Int)<(m:Int))=true:=dT;have d2:decide (k<m)=true:=decide_eq_true h0;have hkl:k<l.length:=by have:=HL.out;omega
    have j:=HP.out;rw[gE o l k hkl]at j;obtain⟨b,off,P,Q,-⟩:=(R.out wr HS.out.2.2).use 22 25 underlying22 aK cap;rw[<-HL.out]at P Q;have ix:=fun W=>P W .i64 (k:Int) ω ω
    rw[Int.toNat_natCast]at ix;have cx:=Q wr (Below.refl _ _) k h0;have hf:=aO B.out (show(1+k)+1<=1+m by omega);have hv:=T.out.wd k;have z:=hid (HSw.out wr F2 L HS.out (1+k) (wd l k) hf ω hv);have HI2:=hid ((Limb.grow_put3 HS.out.1.good hf hv).isF _ _ _ B.out);have HP2:=hid j;generalize Limb.putF L o (1+k) (wd l k)=A at*
    generalize wd l k=x at*
    clear j P Q hf hv B HP hkl;go_wp2_with fail;refine(z.out).mono ?_;rintro e Y1 ⟨rfl,F3,hS⟩;(try dsimp only);have HS2:=hid hS;clear hS z HS cx ix;go_wp2_with fail;go_roundw;case rel=>exact⟨k+1,F3,A,h0,by simp,HS2,HI2,HP2⟩
    case measure=>exact μ
   ·obtain rfl:k=m:=ω
    have j:=HP.out;rw[show l.drop k=[]from by rw[HL.out];exact List.drop_length]at j;have j:L=hE:=j;subst j;have d1:decide ((k:Int)<(k:Int))=false:=dF;have d2:decide (k<k)=false:=dF;have HM:=hid (show RMoved w G wr L from⟨F2,HOB.out _ _ _ HS.out⟩);clear HS B HP HSw R T HL HB HOB;go_wp2_with fail;go_ret2;exact⟨rfl,HM.out⟩
end
namespace Limb
def nN(h:Hp)(o:Nat):Bool:=isO h o&&decide ((hdO h o).fmt=3)&&decide ((hdO h o).cls=wd h.rt 17)&&decide (1<=(hdO h o).size)
def ia(h:Hp)(o:Nat):List Nat:=(bj h o).drop 1
def nb(h:Hp)(o:Nat):Bool:=decide (wd (bj h o) 0=1)
def gS(a:Bool)(b:Nat)(l:List Nat):Bool:=decide (b<=1)&&bn a l&&!bC (signed a (val l))
def Y9q(h:Hp)(o:Nat):Bool:=nN h o&&gS (nb h o) (wd (bj h o) 0) (ia h o)
def rdC(h:Hp)(o:Nat):Nat:=if o%2=1 then 0 else if isO h o=true then(if Y9q h o=true then 0 else 21)else 3
def rdN(h:Hp)(o:Nat):Bool:=if o%2=1 then decide (cN o<0)else(isO h o&&Y9q h o&&nb h o)
def rdL(h:Hp)(o:Nat):List Nat:=if o%2=1 then rep (cN o).natAbs else if(isO h o&&Y9q h o)=true then ia h o else[]
theorem vB{h:Hp}{o:Nat}(e:o%2=1):rdC h o=0/\rdN h o=decide (cN o<0)/\rdL h o=rep (cN o).natAbs:=by
 unfold rdC rdN rdL;rw[if_pos e,if_pos e,if_pos e];exact⟨rfl,rfl,rfl⟩
theorem rH{h:Hp}{o:Nat}(e: ¬o%2=1)(a:isO h o=false):rdC h o=3/\rdN h o=false/\rdL h o=[]:=by
 unfold rdC rdN rdL;rw[if_neg e,if_neg e,if_neg e,a];exact⟨rfl,rfl,rfl⟩
theorem oL{h:Hp}{o:Nat}(e: ¬o%2=1)(a:isO h o=true)(hf:Y9q h o=false):rdC h o=21/\rdN h o=false/\rdL h o=[]:=by
 unfold rdC rdN rdL;rw[if_neg e,if_neg e,if_neg e,a,hf];exact⟨rfl,rfl,rfl⟩
theorem qX{h:Hp}{o:Nat}(e: ¬o%2=1)(a:isO h o=true)(hf:Y9q h o=true):rdC h o=0/\rdN h o=nb h o/\rdL h o=ia h o:=by
 unfold rdC rdN rdL;rw[if_neg e,if_neg e,if_neg e,a,hf];exact⟨rfl,rfl,rfl⟩
end Limb
theorem zN(W:World):(sizeOf (prog.elem 22)).run prog W= .ok 1 W:=κ
def cS(h:Hp)(o:Nat)(w w':World)(e:Ending):Prop:= ∃a c,e=Rt #[Ω (rdN h o) a (rdL h o).length c,I (rdC h o)]/\Lay .u32 w' a (rdL h o)/\Below w w w'/\CapB w a (rdL h o).length c
theorem bp{h:Hp}{o:Nat}{w w':World}{b:Bool}{l:List Nat}{i:Nat}(q:rdC h o=i/\rdN h o=b/\rdL h o=l)(a:Option Addr)(n c:Nat)(j:n=l.length)(s:Lay .u32 w' a l)(v:Below w w w')(f:CapB w a n c:=by exact CapB.none δ):cS h o w w' (.returned (.tuple #[Ω b a n c,I i])):=by
 obtain⟨k,m,g⟩:=q;exact⟨a,c,by rw[k,m,g,j],by rw[g];exact s,v,by rw[g,<-j];exact f⟩
theorem iI(w:World)(o:Nat)(c:o<4294967296)(h1: ¬o%2=1):Calls prog 195 #[Ψ o] w fun e w'=>e=Rt #[I 0,I 3]/\w=w':=by
 have a:=fY w o c;by_cases h0:o=0
 ·rw[show bI o=0 from by unfold bI;rw[if_pos h0]]at a;have b:=hid a;clear a h0 h1;go_enter func195,ntmps195;go_wp2_with fail;refine(b.out).mono ?_;rintro e W ⟨rfl,rfl⟩;go_wp2;go_ret2;exact⟨rfl,rfl⟩
 ·rw[show bI o=2 from by unfold bI;rw[if_neg h0,if_neg h1]]at a;have b:=hid a;clear a h0 h1;go_enter func195,ntmps195;go_wp2_with fail;refine(b.out).mono ?_;rintro e W ⟨rfl,rfl⟩;go_wp2;go_ret2;exact⟨rfl,rfl⟩
theorem AX{X:World}{g a c:Nat}{fl:List Nat}(k:Sl X g 25 a c (aC .u32 fl))(t:fl.length=a)(h1:1<=a): ∃j,(∀W,(Instr.slice 22 (M g a c) (some (I 1)) none none).run prog W= .ok (.slice j (a-1) (c-1)) W)/\Lay .u32 X j (fl.drop 1)/\∀b f,j=some ⟨b,f,none⟩->b=g:=by
 refine⟨if c=1 then some ⟨g,0,none⟩else some ⟨g,1,none⟩,fun W=>?_,?_,fun b f e=>?_⟩
 ·have:=run_slice_l (P:=prog) (w:=W) 22 (some ⟨g,0,none⟩) a c underlying22 .i64 1 δ ω;rw[this,zN];simp[Result.andThen,sliced,Addr.add];try(split<;>rfl)
 ·by_cases q:a=1
  ·have:fl.drop 1=[]:=(by rw[<-q,<-t];exact List.drop_length);rw[this];exact Lay.nil _ _ _
  ·have v:a<=c:=k.le.1;rw[if_neg ω];have:=(k.lay rfl).drop 1;rw[Nat.zero_add]at this;exact this
 ·split at e<;>(simp only[Option.some.injEq,Addr.mk.injEq]at e;exact e.1.symm)
theorem kP(o:Nat)(b:o<4294967296): -9223372036854775808<=cN o/\cN o<=9223372036854775807:=by
 have a:cN o=(if o<2147483648 then(o:Int)-1 else(o:Int)-4294967296-1)/2:=rfl;split at a<;>omega
section
variable {w:World} {F:Foot} {h:Hp}
theorem oN(p:Nat)(o:Nat)(L:o<4294967296)(M:o%2=1):Calls prog 115 #[E p,Ψ o] w fun e w'=>cS h o w w' e:=by
 obtain⟨W,S,d,j,hz⟩:=aA w 24 [.bool false,.slice none 0 0];have N:=hid S;obtain⟨T,X⟩:=kP o L;have O:=hid (yS W o L M);obtain⟨I,H⟩: ∃I:Old,I.top=w.heap.size:=⟨⟨_⟩,rfl⟩;have P:=hid (oy W (cN o) T X (by rw[H];exact j.size));have Y:=hid H;have Q:=hid (vB (h:=h) M);generalize cN o=z at*
 clear S hz M T X L H;go_enter func115,ntmps115;go_wp2_with fail;rw[<-N.out];refine(O.out).mono ?_;rintro e V ⟨rfl,rfl⟩;(try dsimp only);go_wp2_with fail;refine(P.out).mono ?_;rintro e V ⟨u,rfl,⟨a,c,rfl,hc,hl⟩,hb⟩;(try dsimp only);replace d:=d.below hb d.lt;replace j:=τ j hb;obtain⟨b,f⟩:=ξ (decide (z<0));rw[<-f];have G:=Q.out;rw[<-f]at G;obtain⟨n,D⟩:=ξ ((rep z.natAbs).length);rw[<-D];rw[<-D,Y.out]at hc;have k:=hid hc;generalize rep z.natAbs=l at*
 clear hb f hc O P N Q;have z0:=d.free 0;have z1:=d.free 1;obtain⟨p0,p1⟩:=d.two;obtain⟨U,B⟩:=ξ ((V.setCell ⟨w,0,none⟩ (.bool b)).setCell ⟨w,1,none⟩ (.slice a n c));have R:Row U w 24 [.bool b,.slice a n c]:=by rw[B];exact(d.af 0 _).af 1 _
 have q:Below w w U:=by rw[B];exact aw (aw j ι _) ι _
 have x:Lay .u32 U a l:=by rw[B];exact(hl).pair d _ _
 obtain⟨f0,f1⟩:=R.two;have A:=hid (bp G a n c D x q k.out);have Z:=hid B;clear B R q x j d hl G D;go_wp2_with fail;(try simp only[Exit.inBlock,Exit.then]);rw[<-Z.out];refine bodyPost_ret (v:= .tuple #[Ω b a n c,.int .i64 0]) (by simp[results,results115,go_sem,f0,f1]) rfl A.out
theorem mS(H:HeapAt w F h)(o:Nat)(G:o<4294967296)(L: ¬o%2=1)(z:isO h o=false):Calls prog 115 #[E F.p,Ψ o] w fun e w'=>cS h o w w' e:=by
 obtain⟨W,X,d,f,Z⟩:=aA w 24 [.bool false,.slice none 0 0];have M:=hid X;have N:=hid (iI W o G L);have A:=di (H.below f) o G;have O:hdX h o=hdZ:=by unfold hdX;rw[z];rfl
 have P:erX h o=3:=by unfold erX;rw[z];rfl
 rw[O,P]at A;have Q:=hid (show Calls prog 179 #[E F.p,Ψ o] W fun e w'=>e=Rt #[.agg #[I 0,I 0,I 0,Ψ 0,Ψ 0],I 3]/\Below W W w' from A);have R:=rH (h:=h) L z;clear X Z L z H A O P G;go_enter func115,ntmps115;go_wp2_with fail;rw[<-M.out];refine(N.out).mono ?_;rintro e V ⟨rfl,rfl⟩;(try dsimp only);go_wp2_with fail;refine(Q.out).mono ?_;rintro e V ⟨rfl,hb⟩;(try dsimp only);replace d:=d.below hb d.lt;replace f:=τ f hb;clear hb N Q M;obtain⟨V1,B,r8,j,D⟩:=aA V 94 [I 0,I 0,I 0,Ψ 0,Ψ 0];replace f:=τ f j;replace d:=d.below j d.lt;subst B;clear j D;clear r8;have S:=Lay.nil .u32 (V.alloc (.cells #[I 0,I 0,I 0,Ψ 0,Ψ 0] 94)) none;have z0:=d.free 0;have z1:=d.free 1;obtain⟨p0,p1⟩:=d.two;obtain⟨U,x⟩:=ξ (((V.alloc (.cells #[I 0,I 0,I 0,Ψ 0,Ψ 0] 94)).setCell ⟨w,0,none⟩ (.bool false)).setCell ⟨w,1,none⟩ (.slice none 0 0));have T:Row U w 24 [.bool false,.slice none 0 0]:=by rw[x];exact(d.af 0 _).af 1 _
 have k:Below w w U:=by rw[x];exact aw (aw f ι _) ι _
 have q:Lay .u32 U none []:=by rw[x];exact(S).pair d _ _
 obtain⟨f0,f1⟩:=T.two;have u:=hid (bp R none 0 0 rfl q k);have Y:=hid x;clear x T k q f d S R;go_wp2_with fail;(try simp only[Exit.inBlock,Exit.then]);rw[<-Y.out];refine bodyPost_ret (v:= .tuple #[Ω false none 0 0,I 3]) (by simp[results,results115,go_sem,f0,f1]) rfl u.out
theorem oI(H:HeapAt w F h)(o:Nat)(ho:o<4294967296)(e1: ¬o%2=1)(hi:isO h o=true)(Z:isO h (wd h.rt 17)=true)(hk:nN h o=false):Calls prog 115 #[E F.p,Ψ o] w fun e w'=>cS h o w w' e:=by
 obtain⟨W,hW,d,G,hz⟩:=aA w 24 [.bool false,.slice none 0 0];have HW:=hid hW;have HV:=hid (iI W o ho e1);have hH:=di (H.below G) o ho;have x1:hdX h o=hdO h o:=by unfold hdX;rw[hi];rfl
 have x2:erX h o=0:=by unfold erX;rw[hi];rfl
 rw[x1,x2]at hH;have HH:=hid (show Calls prog 179 #[E F.p,Ψ o] W fun e w'=>e=Rt #[.agg #[I (hdO h o).size,I (hdO h o).fmt,I (hdO h o).spare,Ψ (hdO h o).cls,Ψ (hdO h o).ser],I 0]/\Below W W w' from hH);have N:=hid (fun X (hb:Below W W X)=>show Calls prog 39 #[E F.p,I 17] X fun e w'=>e=Rt #[Ψ (wd h.rt 17:Nat),I 0]/\X=w' from dM ((H.below G).below hb) 17 δ)
 have O:=hid (fun X (hb:Below W W X)=>show Calls prog 138 #[E F.p,Ψ (wd h.rt 17:Nat)] X fun e w'=>e= .returned (.bool true)/\X=w' from by
  have:=gK ((H.below G).below hb) (wd h.rt 17) (aM H.good Z);rw[Z]at this;exact this)
 have hR:=oL (h:=h) e1 hi (by unfold Y9q;rw[hk];rfl)
 have hq:(hdO h o).fmt≠3∨((hdO h o).fmt=3/\(hdO h o).cls≠wd h.rt 17)∨((hdO h o).fmt=3/\(hdO h o).cls=wd h.rt 17/\(hdO h o).size=0):=by
  unfold nN at hk;rw[hi,Bool.true_and]at hk;by_cases M:(hdO h o).fmt=3
  ·by_cases P:(hdO h o).cls=wd h.rt 17
   ·rw[decide_eq_true M,decide_eq_true P]at hk;have: ¬1<=(hdO h o).size:=of_decide_eq_false hk;exact .inr (.inr ⟨M,P,ω⟩)
   ·exact .inr (.inl ⟨M,P⟩)
  ·exact .inl M
 generalize wd h.rt 17=r17 at*
 generalize hdO h o=x at*
 clear hW hz e1 hi H hH x1 x2 ho Z hk;go_enter func115,ntmps115;go_wp2_with fail;rw[<-HW.out];refine(HV.out).mono ?_;rintro e V ⟨rfl,rfl⟩;(try dsimp only);go_wp2_with fail;refine(HH.out).mono ?_;rintro e V ⟨rfl,B⟩;(try dsimp only);replace d:=d.below B d.lt;replace G:=τ G B;obtain⟨T,hV1,r8,Q,hz8⟩:=aA V 94 [I x.size,I x.fmt,I x.spare,Ψ x.cls,Ψ x.ser];replace G:=τ G Q;replace d:=d.below Q d.lt;replace B:=B.trans (Q.mono B.size);have HV1:=hid hV1;obtain⟨bV,Y⟩:=ξ V.heap.size;rw[<-Y]at r8;have HBV:=hid Y;clear hV1 Y Q hz8 HV HH HW;obtain⟨c0,c1,c2,c3,c4⟩:=r8.cells5;have D:=hid (N.out T B);have L:=hid (O.out T B);go_wp2_with fail;rw[<-HV1.out,<-HBV.out];refine(D.out).mono ?_;rintro e V2 ⟨rfl,rfl⟩;(try dsimp only);rcases hq with q|⟨M,P⟩|⟨M,P,q3⟩
 ·have e1:((x.fmt:Int) != 3)=true:=(by rw[bne_iff_ne];omega);have e1':(x.fmt != 3)=true:=by rw[bne_iff_ne];exact q
  clear q L;clear N O D;have R:=Lay.nil .u32 T none;have z0:=d.free 0;have z1:=d.free 1;obtain⟨p0,p1⟩:=d.two;obtain⟨U,A⟩:=ξ ((T.setCell ⟨w,0,none⟩ (.bool false)).setCell ⟨w,1,none⟩ (.slice none 0 0));have S:Row U w 24 [.bool false,.slice none 0 0]:=by rw[A];exact(d.af 0 _).af 1 _
  have j:Below w w U:=(by rw[A];exact aw (aw G ι _) ι _);have k:Lay .u32 U none []:=by rw[A];exact(R).pair d _ _
  obtain⟨f0,f1⟩:=S.two;have u:=hid (bp hR none 0 0 rfl k j);have HU:=hid A;clear A S j k G d R hR;go_wp2_with fail;(try simp only[Exit.inBlock,Exit.then]);rw[<-HU.out];refine bodyPost_ret (v:= .tuple #[Ω false none 0 0,I 21]) (by simp[results,results115,go_sem,f0,f1]) rfl u.out
 ·rw[M]at c1;have e2:((x.cls:Int) != (r17:Int))=true:=by rw[bne_iff_ne];omega
  have e2':(x.cls != r17)=true:=(by rw[bne_iff_ne];exact P);clear M P L;clear N O D;have R:=Lay.nil .u32 T none;have z0:=d.free 0;have z1:=d.free 1;obtain⟨p0,p1⟩:=d.two;obtain⟨U,A⟩:=ξ ((T.setCell ⟨w,0,none⟩ (.bool false)).setCell ⟨w,1,none⟩ (.slice none 0 0));have S:Row U w 24 [.bool false,.slice none 0 0]:=by rw[A];exact(d.af 0 _).af 1 _
  have j:Below w w U:=(by rw[A];exact aw (aw G ι _) ι _);have k:Lay .u32 U none []:=by rw[A];exact(R).pair d _ _
  obtain⟨f0,f1⟩:=S.two;have u:=hid (bp hR none 0 0 rfl k j);have HU:=hid A;clear A S j k G d R hR;go_wp2_with fail;(try simp only[Exit.inBlock,Exit.then]);rw[<-HU.out];refine bodyPost_ret (v:= .tuple #[Ω false none 0 0,I 21]) (by simp[results,results115,go_sem,f0,f1]) rfl u.out
 ·rw[M]at c1;rw[P]at c3;rw[q3]at c0;clear M P q3;clear N O D;go_wp2_with fail;refine(L.out).mono ?_;rintro e V2 ⟨rfl,rfl⟩;(try dsimp only);have R:=Lay.nil .u32 T none;have z0:=d.free 0;have z1:=d.free 1;obtain⟨p0,p1⟩:=d.two;obtain⟨U,A⟩:=ξ ((T.setCell ⟨w,0,none⟩ (.bool false)).setCell ⟨w,1,none⟩ (.slice none 0 0));have S:Row U w 24 [.bool false,.slice none 0 0]:=by rw[A];exact(d.af 0 _).af 1 _
  have j:Below w w U:=(by rw[A];exact aw (aw G ι _) ι _);have k:Lay .u32 U none []:=by rw[A];exact(R).pair d _ _
  obtain⟨f0,f1⟩:=S.two;have u:=hid (bp hR none 0 0 rfl k j);have HU:=hid A;clear A S j k G d R hR;go_wp2_with fail;(try simp only[Exit.inBlock,Exit.then]);rw[<-HU.out];refine bodyPost_ret (v:= .tuple #[Ω false none 0 0,I 21]) (by simp[results,results115,go_sem,f0,f1]) rfl u.out
end
end Go.Proofs.YtfefijlnbhbplaaGreatDoor

/- Walks and laws that LargeData asks for. -/
import Derived.Test.YtfefijlnbhbplaaGreatDoorGX21
set_option linter.unusedVariables false
set_option linter.unusedSimpArgs false
set_option maxRecDepth 1000000
set_option maxHeartbeats 6400000
namespace Go.Proofs.YtfefijlnbhbplaaGreatDoor
open Go Lib Go.RowKit Limb Tryz
theorem Fq{b a:Int}{fl d:Bool}(i:a≠0)(c:d=(fl&&(decide (d8 (b.tmod a)≠0)&&decide (d8 (b.tmod a)≠d8 a)))):(d=false->fb fl b a=b.tdiv a/\fE fl b a=b.tmod a)/\(d=true->fb fl b a=b.tdiv a-1/\fE fl b a=b.tmod a+a):=by
 obtain⟨f,g⟩:=jv i (x:=b);cases fl with
 |false=>exact⟨fun _=>⟨rfl,rfl⟩,fun e=>by rw[c]at e;cases e⟩
 |true=>
  rw[Bool.true_and]at c;refine⟨fun e=>?_,fun e=>?_⟩
  ·rw[c,Bool.and_eq_false_iff,decide_eq_false_iff_not,decide_eq_false_iff_not]at e;exact g (by rcases e with e|e;exact .inl (Classical.not_not.1 e);exact .inr (Classical.not_not.1 e))
  ·rw[c,Bool.and_eq_true,decide_eq_true_eq,decide_eq_true_eq]at e;exact f e.1 e.2
theorem wG(w:World)(S N fl:Bool)(a1 a2:Option Addr)(Y O:List Nat)(m1 Z c1 c2:Nat)(hy1:Lay .u32 w a1 Y)(hy2:Lay .u32 w a2 O)(hl1:Lim Y)(hl2:Lim O)(hm1:m1=Y.length)(hm2:Z=O.length)(hb1:m1<=9223372036854775807)(hb2:Z<=9223372036854775807)(hok:(bn S Y&&bn N O)=true)(hz:signed N (val O)≠0):Calls prog 86 #[Ω S a1 m1 c1,Ω N a2 Z c2,.bool fl] w fun e w'=>Ay w w' e (fb fl (signed S (val Y)) (signed N (val O))) (fE fl (signed S (val Y)) (signed N (val O))):=by
 have B:=hok;simp only[Bool.and_eq_true]at B;obtain⟨x1,x2,x3⟩:=bQ hl1 B.1;obtain⟨y1,y2,y3⟩:=bQ hl2 B.2;have s1:(rep (signed S (val Y)).natAbs).length<=1024:=by rw[<-x1];omega
 have s2:(rep (signed N (val O)).natAbs).length<=1024:=by rw[<-y1];omega
 have hl0:O.length≠0:=by intro e;apply hz;rw[List.eq_nil_of_length_eq_zero e];unfold signed;simp[val]
 clear x1 x2 y1 y2 B;obtain⟨W,hWe,r0,r1,r2,r3,hW,hsz⟩:=qG w 24 (.bool S) (.slice a1 m1 c1) (.bool N) (.slice a2 Z c2) (.bool false) (.slice none 0 0) (.bool false) (.slice none 0 0);have HWe:=hid hWe;clear hWe;have hmay:=fun g h1 h2 h3=>dY (W.alloc (.cells #[.bool S,.slice a1 m1 c1,.bool N,.slice a2 Z c2] 24)) g S N a1 a2 Y O m1 Z c1 c2 h1 h2 h3 hl1 hl2 hm1 hm2 hb1 hb2
 have Hm1:=hid hm1;clear hm1;have Hm2:=hid hm2;clear hm2;have u:=hmay (w.heap.size+1+1+1+1) (by rw[<-hsz];exact cQ _ _ _) ((hy1.below hW).below ((Below.refl _ _).alloc ι _)) ((hy2.below hW).below ((Below.refl _ _).alloc ι _));rw[hok]at u;have HM:=hid u;clear hmay u;have hz1:((Z:Int)==0)=false:=by rw[beq_eq_false_iff_ne,Hm2.out];omega
 have ls1:m1<=1024:=by rw[Hm1.out];exact x3
 have ls2:Z<=1024:=by rw[Hm2.out];exact y3
 obtain⟨f,P⟩: ∃z,z=signed S (val Y):=⟨_,rfl⟩;obtain⟨d,Q⟩: ∃z,z=signed N (val O):=⟨_,rfl⟩;rw[<-P]at s1 ⊢;rw[<-Q]at s2 hz ⊢;clear hl0 x3 y3 hok;have t1:(rep (fb fl f d).natAbs).length<=1024:=Nat.le_trans (aS (nD fl f hz)) s1;have t2:(rep (fE fl f d).natAbs).length<=1024:=Nat.le_trans (aS (Nat.le_of_lt (o6 fl f hz))) s2;have t3:(rep (f.tdiv d).natAbs).length<=68719476736:=Nat.le_trans (aS (nD false f hz)) (Nat.le_trans s1 δ);have t4:(rep (f.tmod d).natAbs).length<=68719476736:=Nat.le_trans (aS (Nat.le_of_lt (o6 false f hz))) (Nat.le_trans s2 δ);have t5:(rep (1:Int).natAbs).length<=68719476736:=Nat.le_trans (rep_length_le.mpr (δ:(1:Int).natAbs<Limb.W 1)) (δ:1<=68719476736);have s3:(rep f.natAbs).length<=68719476736:=Nat.le_trans s1 δ;have s4:(rep d.natAbs).length<=68719476736:=Nat.le_trans s2 δ;go_enter func86,ntmps86;go_wp2_with fail;rw[<-HWe.out];refine HM.out.mono ?_;rintro e w1 ⟨rfl,hbw⟩;have j:=bE hbw;have G:Below w w w1:=τ hW j;have q0:=r0.below j r0.lt;have q1:=r1.below j r1.lt;have q2:=r2.below j r2.lt;have q3:=r3.below j r3.lt;have hsz1:w.heap.size+4<=w1.heap.size:=by have:=j.size;omega
 have l1':=hy1.below G;have l2':=hy2.below G;have hw1:=fun X ls (h:At w1 X ls)=>db h S a1 Y m1 c1 l1' hl1 Hm1.out ω
 have hw2:=fun X ls (h:At w1 X ls)=>db h N a2 O Z c2 l2' hl2 Hm2.out ω
 rw[<-P]at hw1;rw[<-Q]at hw2;have HW1:=hid hw1;clear hw1 P;have HW2:=hid hw2;clear hw2 Q
 have hk: ∀X,Below w1 w1 X->X.cell? ⟨w,0,none⟩=some (.bool S)/\X.cell? ⟨w,1,none⟩=some (.slice a1 m1 c1)/\X.cell? ⟨N1 w,0,none⟩=some (.bool N)/\X.cell? ⟨N1 w,1,none⟩=some (.slice a2 Z c2)/\
   Row X (N2 w) 24 [.bool false,.slice none 0 0]/\Row X (w.heap.size+1+1+1) 24 [.bool false,.slice none 0 0]:=by
  intro X hX;have p0:=q0.below hX ω;have p1:=q1.below hX ω;exact⟨p0.ae 0,p0.ae 1,p1.ae 0,p1.ae 1,q2.below hX ω,q3.below hX ω⟩
 have HK:=hid hk;clear hk;have h:=At.refl w1;clear q0 q1 q2 q3 l1' l2' j hbw;obtain⟨k0,k1,k2,k3,-,-⟩:=HK.out _ h.below;go_wp2_with fail;refine(HW2.out _ _ h).mono ?_;rintro e w2 ⟨pd,rfl,h2⟩;clear h k0 k1 k2 k3;obtain⟨k0,k1,k2,k3,-,-⟩:=HK.out _ h2.below;have h3:=h2.new;obtain⟨j0,j1,-,-,-,-⟩:=HK.out _ h3.below;go_wp2_with fail;refine(HW1.out _ _ h3).mono ?_;rintro e w3 ⟨pa,rfl,h4⟩;have h5:=h4.new;clear h2 h3 k0 k1 k2 k3 j0 j1;obtain⟨x,hpq⟩:=ξ w2.heap.size;obtain⟨F,hpr⟩:=ξ w3.heap.size;rw[<-hpq]at h4 h5 ⊢;rw[<-hpr]at h5;have Hpr:=hid hpr;clear hpr hpq;go_wp2_with fail;rw[<-Hpr.out];have HQR:=hid (zM h5 (p:=x) (q:=pa) (r:=pd) (s:=F) σ σ σ σ (by intro a3;simp at a3;omega) hz s3 s4);refine HQR.out.mono ?_;rintro e w4 ⟨rfl,h6⟩;clear HQR h4;have a3:=h5.nd;simp at a3;have mq:=dW (f.tmod d) (eI (f.tdiv d) (show(x,(0:Int))∈[(F,(0:Int)),(pa,f),(x,0),(pd,d)] by exact σ)) (q:=x) (p:=F) ω;have T:=eI (f.tmod d) (dW (f.tdiv d) (show(F,(0:Int))∈[(F,(0:Int)),(pa,f),(x,0),(pd,d)] by exact σ) (q:=F) (p:=x) ω);have md:=dW (f.tmod d) (dW (f.tdiv d) (show(pd,d)∈[(F,(0:Int)),(pa,f),(x,0),(pd,d)] by exact σ) (q:=pd) (p:=x) ω) (q:=pd) (p:=F) ω;have h:=h6;obtain⟨L,hL⟩:=ξ (upd (upd [(F,(0:Int)),(pa,f),(x,0),(pd,d)] x (f.tdiv d)) F (f.tmod d));rw[<-hL]at h mq T md;have D:F≠x/\pd≠x/\True:=⟨ω,ω,trivial⟩;clear hL h6 h5 a3;obtain⟨fx,hfx⟩: ∃fx:Bool,fx=(fl&&(decide (d8 (f.tmod d)≠0)&&decide (d8 (f.tmod d)≠d8 d))):=⟨_,rfl⟩;have HD:=hid (Fq hz hfx);have a4:=hid hfx;clear hfx;go_upto_region 7 with fail
 go_cut [52]from 40 to 52 (fun s wx=>s= .bool fx/\w4=wx)
 case first=>
  cases fl with
  |false=>
   have hb:fx=false:=a4.out;go_wp2_with fail;go_meet;exact⟨by rw[hb],rfl⟩
  |true=>
   by_cases H:d8 (f.tmod d)=0
   ·have b1:(d8 (f.tmod d) != 0)=false:=(by rw[bne_eq_false_iff_eq];exact H);have hb:fx=false:=by rw[a4.out,decide_eq_false (fun e=>e H)];rfl
    clear H;go_wp2_with fail;refine(jz h T).mono ?_;rintro e w' ⟨rfl,rfl⟩;go_wp2_with fail;go_meet;exact⟨by rw[hb],rfl⟩
   ·have b1:(d8 (f.tmod d) != 0)=true:=by rw[bne_iff_ne];exact H
    have b2:(d8 (f.tmod d) != d8 d)=fx:=by
     rw[a4.out,decide_eq_true H,Bool.true_and,Bool.true_and];by_cases a5:d8 (f.tmod d)=d8 d
     ·rw[decide_eq_false (fun e=>e a5),bne_eq_false_iff_eq];exact a5
     ·rw[decide_eq_true a5,bne_iff_ne];exact a5
    clear H;go_wp2_with fail;refine(jz h T).mono ?_;rintro e w' ⟨rfl,rfl⟩;go_wp2_with fail;refine(jz h T).mono ?_;rintro e w' ⟨rfl,rfl⟩;go_wp2_with fail;refine(jz h md).mono ?_;rintro e w' ⟨rfl,rfl⟩;go_wp2_with fail;go_meet;exact⟨rfl,rfl⟩
 case rest=>
  obtain⟨rfl,rfl⟩:=hcut;go_upto_if 52 with fail
  go_cut [52,53]from 52 to 60 (fun _ _ wx=> ∃(V:World) (L':List (Nat×Int)),V=wx/\Hid (At w1 V L'/\(x,fb fl f d)∈L'/\(F,fE fl f d)∈L'))
  case first=>
   cases hb:fx with
   |false=>
    obtain⟨e1,e2⟩:=HD.out.1 hb;have HF:=hid (show At w1 w4 L/\(x,fb fl f d)∈L/\(F,fE fl f d)∈L from⟨h,by rw[e1];exact mq,by rw[e2];exact T⟩);clear e1 e2;go_wp2_with fail;go_meet;exact⟨_,_,rfl,HF⟩
   |true=>
    obtain⟨e1,e2⟩:=HD.out.2 hb;have HE1:=hid e1;have HE2:=hid e2;clear e1 e2;go_wp2_with fail;refine(jp h 1 δ δ).mono ?_;rintro e w5 ⟨po,rfl,h7⟩;have mq1:=List.Mem.tail (po,(1:Int)) mq;have mr1:=List.Mem.tail (po,(1:Int)) T;have md1:=List.Mem.tail (po,(1:Int)) md;go_wp2_with fail;refine(By h7 mq1 mq1 (List.Mem.head _) t3 t5).mono ?_;rintro e w6 ⟨rfl,h8⟩;have mq2:=eI (f.tdiv d-1) mq1;have mr2:=dW (f.tdiv d-1) mr1 D.1;have md2:=dW (f.tdiv d-1) md1 D.2.1;go_wp2_with fail;refine(xf h8 mr2 mr2 md2 t4 s4).mono ?_;rintro e w7 ⟨rfl,h9⟩;have HF:=hid (show At w1 w7 _/\(x,fb fl f d)∈_/\(F,fE fl f d)∈_ from⟨h9,by rw[HE1.out];exact dW (f.tmod d+d) mq2 (Ne.symm D.1),by rw[HE2.out];exact eI (f.tmod d+d) mr2⟩);go_wp2_with fail;go_meet;exact⟨_,_,rfl,HF⟩
  case rest=>
   obtain⟨V0,L',rfl,HF⟩:=hcut;clear h mq T md;obtain⟨h,mq,T⟩:=HF.out;clear HF HD a4 D;go_wp2_with fail;refine(jR h mq t1).mono ?_;rintro e w5 ⟨⟨aq,cq,rfl,a6,hlq⟩,h7,-⟩;replace a6:=a6.mono G.size;have h8:=h7.alloc' (.cells #[.bool (decide (fb fl f d<0)),.slice aq (rep (fb fl f d).natAbs).length cq] 24);go_wp2_with fail;refine(jR h8 T t2).mono ?_;rintro e w6 ⟨⟨ar,cr,rfl,a7,hlr⟩,h9,hb9⟩;replace a7:=a7.mono G.size;go_upto_region 14 with fail
   obtain⟨R,hqq⟩:=ξ (fb fl f d);obtain⟨rr,hrr⟩:=ξ (fE fl f d);obtain⟨g2,hg2⟩: ∃g,g=w5.heap.size:=⟨_,rfl⟩;obtain⟨g3,hg3⟩: ∃g,g=w6.heap.size:=⟨_,rfl⟩;obtain⟨V,hV⟩:=ξ (w6.alloc (.cells #[.bool (decide (fE fl f d<0)),.slice ar (rep (fE fl f d).natAbs).length cr] 24));have M:Below w6 w6 V:=by rw[hV];exact(Below.refl _ _).alloc ι _
   have R2:Row V g2 24 [.bool (decide (fb fl f d<0)),.slice aq (rep (fb fl f d).natAbs).length cq]:=by
    have:=cQ w5 24 #[.bool (decide (fb fl f d<0)),.slice aq (rep (fb fl f d).natAbs).length cq];rw[hg2];exact(this.below hb9 this.lt).below M (this.below hb9 this.lt).lt
   have R3:Row V g3 24 [.bool (decide (fE fl f d<0)),.slice ar (rep (fE fl f d).natAbs).length cr]:=(by rw[hV,hg3];exact cQ _ _ _);have hBV:Below w w V:=G.trans ((h9.below.trans (M.mono h9.below.size)).mono G.size);have hlqV:Lay .u32 V aq (rep (fb fl f d).natAbs):=((hlq.below ((Below.refl _ _).alloc ι _)).below hb9).below M;have hlrV:Lay .u32 V ar (rep (fE fl f d).natAbs):=hlr.below M;obtain⟨-,-,-,-,ra,rb⟩:=HK.out _ (h9.below.trans (M.mono h9.below.size));have hsz7:=h7.below.size;have hsz9:=h9.below.size;have u1:g2≠w.heap.size+1+1:=ω
   have u2:g2≠w.heap.size+1+1+1:=ω;have u3:g3≠w.heap.size+1+1:=ω
   have u4:g3≠w.heap.size+1+1+1:=ω;clear hsz7 hsz9;rw[<-hV,<-hg2,<-hg3];rw[<-hqq]at R2 hlqV a6 ⊢;rw[<-hrr]at R3 hlrV a7 ⊢;clear hg2 hg3 hV M h9 h8 h7 hb9 h mq T HW1 HW2 HK hlq hlr;have HQ:=hid hqq;clear hqq;have HR:=hid hrr;clear hrr;obtain⟨a0,a1'⟩:=R2.two;obtain⟨b0,b1'⟩:=R3.two;obtain⟨d0,d1⟩:=ra.two;obtain⟨e0,e1⟩:=rb.two;have d2:=ra.free 0;have d3:=ra.free 1;have e2:=rb.free 0;have e3:=rb.free 1;have v1:=u1.symm;have v2:=u2.symm;have v3:=u3.symm;have v4:=u4.symm;have HU: ∃U,U=(((V.setCell ⟨N2 w,0,none⟩ (.bool (decide (R<0)))).setCell ⟨N2 w,1,none⟩ (.slice aq (rep R.natAbs).length cq)).setCell ⟨w.heap.size+1+1+1,0,none⟩ (.bool (decide (rr<0)))).setCell ⟨w.heap.size+1+1+1,1,none⟩ (.slice ar (rep rr.natAbs).length cr):=⟨_,rfl⟩;obtain⟨U,hU⟩:=HU;have ga:Row U (N2 w) 24 [.bool (decide (R<0)),.slice aq (rep R.natAbs).length cq]:=by rw[hU];exact(((ra.af 0 (.bool (decide (R<0)))).af 1 (.slice aq (rep R.natAbs).length cq)).other (by simp) _).other (by simp) _
   have E:Row ((V.setCell ⟨N2 w,0,none⟩ (.bool (decide (R<0)))).setCell ⟨N2 w,1,none⟩ (.slice aq (rep R.natAbs).length cq)) (w.heap.size+1+1+1) 24 [.bool false,.slice none 0 0]:=(rb.other (by simp) _).other (by simp) _;have gb:Row U (w.heap.size+1+1+1) 24 [.bool (decide (rr<0)),.slice ar (rep rr.natAbs).length cr]:=by rw[hU];exact(E.af 0 _).af 1 _
   have k:Below w w U:=(by rw[hU];exact aw (aw (aw (aw hBV ω _) ω _) ω _) ω _);have hqU:Lay .u32 U aq (rep R.natAbs):=by rw[hU];exact(hlqV.pair ra _ _).pair E _ _
   have hrU:Lay .u32 U ar (rep rr.natAbs):=(by rw[hU];exact(hlrV.pair ra _ _).pair E _ _);obtain⟨f0,f1⟩:=ga.two;obtain⟨f2,f3⟩:=gb.two;have HV:=hid hU;clear hU E;go_region;go_wp2;(try simp only[Exit.inBlock,Exit.then]);rw[<-HV.out];refine bodyPost_ret (v:= .tuple #[Ω (decide (R<0)) aq (rep R.natAbs).length cq,Ω (decide (rr<0)) ar (rep rr.natAbs).length cr,I 0]) (by simp[results,results86,go_sem,f0,f1,f2,f3]) rfl ?_;rw[<-HQ.out,<-HR.out];exact⟨by first |exact k|exact k.drew|exact k.drew.drew|exact k.drew.drew.drew|exact k.drew.drew.drew.drew,aq,cq,ar,cr,rfl,a6,a7,hqU,hrU⟩
end Go.Proofs.YtfefijlnbhbplaaGreatDoor

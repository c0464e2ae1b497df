/- Walks and laws that LargeData asks for. -/
import Derived.Test.YtfefijlnbhbplaaGreatDoorGX43
import Derived.Test.YtfefijlnbhbplaaGreatDoorGX44
import Derived.Test.YtfefijlnbhbplaaGreatDoorGX41
import Derived.Test.YtfefijlnbhbplaaGreatDoorGX36
set_option linter.unusedVariables false
set_option linter.unusedSimpArgs false
set_option maxRecDepth 1000000
set_option maxHeartbeats 6400000
namespace Go.Proofs.YtfefijlnbhbplaaGreatDoor
open Go Lib Go.RowKit Limb Go.Proofs.Tryz
theorem te{w:World}{B n g i:Nat}{v u:Value}{xs:List Value}(h:w.ownsRow B 25 1 v n xs)(c:g<B):(w.setCell ⟨g,i,none⟩ u).ownsRow B 25 1 v n xs:=by
 obtain⟨h1,b⟩:=h;refine⟨h1,?_⟩;rcases b with b|⟨g',cap,cur,q1,q2,q3,q4⟩
 ·exact .inl b
 ·refine .inr ⟨g',cap,cur,q1,q2,?_,q4⟩;rw[Below.heap_setCell _ _ _ _ (show g'≠g by omega)];exact q3
theorem Bv{w:World}{B n:Nat}{v:Value}{l:List Nat}(h:w.ownsRow B 25 1 v n (aC .u32 l))(f:l.length=n): ∃a c,v= .slice a n c/\Lay .u32 w a l/\CapB B a n c:=by
 by_cases h0:0<n
 ·obtain⟨g,c,q,-,d⟩:=Sl.aj (jq h) h0;subst q;refine⟨_,c,rfl,d.lay rfl,CapB.new d.le.1 ?_⟩;rcases h.2 with⟨b,-⟩|⟨g1,c1,cur,b,q3,-⟩
  ·cases b
  ·cases b;exact q3
 ·obtain⟨h1,e⟩:=h;rcases e with⟨rfl,rfl⟩|⟨g,cap,cur,rfl,hgB,_⟩
  ·have:l=[]:=List.length_eq_zero_iff.1 f;subst this;exact⟨none,0,rfl,Lay.nil _ _ _,CapB.none ω⟩
  ·have:l=[]:=List.length_eq_zero_iff.1 ω;subst this;exact⟨_,cap,rfl,Lay.nil _ _ _,CapB.new ω hgB⟩
structure dH (P:Program) (ops:Array Oper) (C:World->Prop) (Q:Act->Prop) (l:List Oper) (a:Act):Prop where
 out:wpQuiet P ops C Q l a
section
variable {P:Program} {ops:Array Oper} {C:World->Prop} {Q:Act->Prop} {a:Act} {o:Oper} {rest:List Oper}
theorem aP(d:Tmp)(v:Value)(b:o.dst=some d)(c:Region.wanted o (yielded ops a.tmps)=true)(hy: ∀w,C w->o.quietAt P a C w v)(h:dH P ops C Q rest (a.put (some d) v)):dH P ops C Q (o :: rest) a:=⟨kC d v b c hy h.out⟩
theorem qh{d:Tmp}{b:Act}(v:Value)(h:dH P ops C Q rest b)(c:o.dst=some d:=by rfl)(e:Region.wanted o (yielded ops a.tmps)=true:=by kernel_rfl)(hy: ∀w,C w->o.quietAt P a C w v:=by intro Y g;go_simp)(f:b=a.put (some d) v:=by simp only[Act.put,zA,zB,zC];rfl):dH P ops C Q (o :: rest) a:=aP d v c e hy (by rw[<-f];exact h)
theorem aL(d:Tmp)(b:o.dst=some d)(c:Region.wanted o (yielded ops a.tmps)=false)(h:dH P ops C Q rest (a.put (some d) undef)):dH P ops C Q (o :: rest) a:=⟨vl d b c h.out⟩
theorem dq(h:Q a):dH P ops C Q [] a:=⟨wpQuiet_nil h⟩
theorem bM{id:Nat}{Q:Exit->Act->World->Prop}{a:Act}{w:World}(C:World->Prop)(hm:P.follows .mixedOrders=true)(hB:Region.lexB .any ops=true)(hC:C {w with drawn:=w.drawn+1})(h:dH P ops C (fun a'=> ∀w',C w'->Q .normal a' w') ops.toList a):(Code.region id ops true).wp P Q a w:=bH C hm hB hC h.out
end
section
variable {w:World} {G:RFoot} {h:Hp}
theorem rR(p:Nat)(o:Nat)(F:o<4294967296)(H:o%2=1):Calls prog 50 #[E p,Ψ o] w fun e w'=>cS h o w w' e:=by
 obtain⟨W,Z,d,j,hz⟩:=aA w 24 [.bool false,.slice none 0 0];have O:=hid Z;obtain⟨v1,v2⟩:=kP o F;have L:=sk W o F;rw[show bI o=1 from by unfold bI;rw[if_neg ω,if_pos H]]at L;have R:=hid L;have S:=hid (D8 W o F H);obtain⟨I,N⟩: ∃I:Old,I.top=w.heap.size:=⟨⟨_⟩,rfl⟩;have T:=hid (sa W (cN o) v1 v2 (by rw[N];exact j.size));have HI:=hid N;have X:=hid (vB (h:=h) H);generalize cN o=z at*
 clear Z hz H v1 v2 F L N;go_enter func50,ntmps50;go_wp2_with fail;rw[<-O.out];refine(R.out).mono ?_;rintro e V ⟨rfl,rfl⟩;(try dsimp only);go_wp2_with fail;refine(S.out).mono ?_;rintro e V ⟨rfl,rfl⟩;(try dsimp only);go_wp2_with fail;refine(T.out).mono ?_;rintro e V ⟨u,rfl,⟨a,c,rfl,hc,hl⟩,hb⟩;(try dsimp only);replace d:=d.below hb d.lt;replace j:=τ j hb;obtain⟨b,f⟩:=ξ (decide (z<0));rw[<-f];have M:=X.out;rw[<-f]at M;obtain⟨n,D⟩:=ξ ((rep z.natAbs).length);rw[<-D];rw[<-D,HI.out]at hc;have k:=hid hc;generalize rep z.natAbs=l at*
 clear hb f hc S T O X R;have z0:=d.free 0;have z1:=d.free 1;obtain⟨p0,p1⟩:=d.two;obtain⟨U,B⟩:=ξ ((V.setCell ⟨w,0,none⟩ (.bool b)).setCell ⟨w,1,none⟩ (.slice a n c));have Y:Row U w 24 [.bool b,.slice a n c]:=by rw[B];exact(d.af 0 _).af 1 _
 have q:Below w w U:=by rw[B];exact aw (aw j ι _) ι _
 have x:Lay .u32 U a l:=by rw[B];exact(hl).pair d _ _
 obtain⟨f0,f1⟩:=Y.two;have A:=hid (bp M a n c D x q k.out);have HU:=hid B;clear B Y q x j d hl M D;go_wp2_with fail;(try simp only[Exit.inBlock,Exit.then]);rw[<-HU.out];refine bodyPost_ret (v:= .tuple #[Ω b a n c,.int .i64 0]) (by simp[results,results50,go_sem,f0,f1]) rfl A.out
theorem pt(H:RefAt w G h)(o:Nat)(D:o<4294967296)(F: ¬o%2=1)(L:isO h o=false):Calls prog 50 #[E G.p,Ψ o] w fun e w'=>cS h o w w' e:=by
 obtain⟨W,X,d,B,hz⟩:=aA w 24 [.bool false,.slice none 0 0];have M:=hid X;have f:=sk W o D;have N:=hid (show∃n:Nat,(n:Int)≠1/\Calls prog 119 #[Ψ o] W fun e w'=>e= .returned (I (n:Nat))/\W=w' from⟨bI o,by unfold bI;rw[if_neg F];split<;>decide,f⟩);have z:=sW (H.below B) o D;rw[L]at z;have O:=hid z;have R:=rH (h:=h) F L;clear X hz F L H z f D;obtain⟨kn,q,u⟩:=N.out;have Y:((kn:Int)==1)=false:=by rw[beq_eq_false_iff_ne];exact q
 have A:(kn==1)=false:=nE
 clear N q;go_enter func50,ntmps50;go_wp2_with fail;rw[<-M.out];refine(u).mono ?_;rintro e V ⟨rfl,rfl⟩;(try dsimp only);go_wp2_with fail;refine(O.out).mono ?_;rintro e V ⟨rfl,rfl⟩;(try dsimp only);clear u O M Y A;have S:=Lay.nil .u32 W none;have z0:=d.free 0;have z1:=d.free 1;obtain⟨p0,p1⟩:=d.two;obtain⟨U,x⟩:=ξ ((W.setCell ⟨w,0,none⟩ (.bool false)).setCell ⟨w,1,none⟩ (.slice none 0 0));have T:Row U w 24 [.bool false,.slice none 0 0]:=by rw[x];exact(d.af 0 _).af 1 _
 have g:Below w w U:=by rw[x];exact aw (aw B ι _) ι _
 have j:Lay .u32 U none []:=by rw[x];exact(S).pair d _ _
 obtain⟨f0,f1⟩:=T.two;have k:=hid (bp R none 0 0 rfl j g);have Z:=hid x;clear x T g j B d S R;go_wp2_with fail;(try simp only[Exit.inBlock,Exit.then]);rw[<-Z.out];refine bodyPost_ret (v:= .tuple #[Ω false none 0 0,I 3]) (by simp[results,results50,go_sem,f0,f1]) rfl k.out
theorem rV(H:RefAt w G h)(o:Nat)(ho:o<4294967296)(e1: ¬o%2=1)(hi:isO h o=true)(h17:isO h (wd h.rt 17)=true)(hk:nN h o=false):Calls prog 50 #[E G.p,Ψ o] w fun e w'=>cS h o w w' e:=by
 obtain⟨W,hW,r0,hB,hz⟩:=aA w 24 [.bool false,.slice none 0 0];have HW:=hid hW;have hk0:=sk W o ho;have HK:=hid (show∃n:Nat,(n:Int)≠1/\Calls prog 119 #[Ψ o] W fun e w'=>e= .returned (I (n:Nat))/\W=w' from⟨bI o,by unfold bI;rw[if_neg e1];split<;>decide,hk0⟩);have hI:=sW (H.below hB) o ho;rw[hi]at hI;have HI:=hid hI;have hH:=fy (H.below hB) o hi;simp only[j8]at hH;have HH:=hid hH;have h170:wd h.rt 17≠0:=(isO_iff.1 h17).1
 have HRt:=hid (fun X (hb:Below W.heap.size W X)=>show X.cell? ⟨G.p,2,none⟩=O (M G.gr 64 64)/\X.cell? ⟨G.gr,17,none⟩=O (Ψ (wd h.rt 17:Nat))from by
  have:=((H.below hB).below hb).root (i:=17) δ;exact⟨this.1,this.2.1⟩)
 have ix17: ∀W,(Instr.indexAt 44 (M G.gr 64 64) (I 17)).run prog W= .ok (Θ G.gr 17) W:=(H.root (i:=17) δ).2.2;have hR:=oL (h:=h) e1 hi (by unfold Y9q;rw[hk];rfl)
 have hq:(hdO h o).fmt≠3∨((hdO h o).fmt=3/\(hdO h o).cls=0)∨((hdO h o).fmt=3/\(hdO h o).cls≠0/\(hdO h o).cls≠wd h.rt 17)∨((hdO h o).fmt=3/\(hdO h o).cls=wd h.rt 17/\(hdO h o).size=0):=by
  unfold nN at hk;rw[hi,Bool.true_and]at hk;by_cases q1:(hdO h o).fmt=3
  ·by_cases q2:(hdO h o).cls=wd h.rt 17
   ·rw[decide_eq_true q1,decide_eq_true q2]at hk;have: ¬1<=(hdO h o).size:=of_decide_eq_false hk;exact .inr (.inr (.inr ⟨q1,q2,ω⟩))
   ·by_cases q3:(hdO h o).cls=0
    ·exact .inr (.inl ⟨q1,q3⟩)
    ·exact .inr (.inr (.inl ⟨q1,q3,q2⟩))
  ·exact .inl q1
 generalize wd h.rt 17=r17 at*
 generalize hdO h o=x at*
 clear hW hz e1 hi H hH hI hk0 ho h17 hk;obtain⟨kn,kn1,hkn⟩:=HK.out;have kq:((kn:Int)==1)=false:=by rw[beq_eq_false_iff_ne];exact kn1
 have kq':(kn==1)=false:=nE
 clear HK kn1;go_enter func50,ntmps50;go_wp2_with fail;rw[<-HW.out];refine(hkn).mono ?_;rintro e V ⟨rfl,rfl⟩;(try dsimp only);go_wp2_with fail;refine(HI.out).mono ?_;rintro e V ⟨rfl,rfl⟩;(try dsimp only);go_wp2_with fail;refine(HH.out).mono ?_;rintro e V ⟨rfl,hbW⟩;(try dsimp only);replace r0:=r0.below hbW r0.lt;replace hB:=τ hB hbW;obtain⟨V1,hV1,r8,hb8,hz8⟩:=aA V 94 [I x.size,I x.fmt,I x.spare,Ψ x.cls,Ψ x.ser];replace hB:=τ hB hb8;replace r0:=r0.below hb8 r0.lt;replace hbW:=hbW.trans (hb8.mono hbW.size);have HV1:=hid hV1;obtain⟨bV,hbV⟩:=ξ V.heap.size;rw[<-hbV]at r8;have HBV:=hid hbV;clear hV1 hbV hb8 hz8 HI HH HW hkn kq kq';go_wp2_with fail;rw[<-HV1.out,<-HBV.out];clear HV1 HBV;rcases hq with q|⟨q1,q2⟩|⟨q1,q2,q3⟩|⟨q1,q2,q3⟩
 ·have e1:((x.fmt:Int) != 3)=true:=(by rw[bne_iff_ne];omega);have e1':(x.fmt != 3)=true:=by rw[bne_iff_ne];exact q
  clear q h170;refine bM (fun Y=>Below V1 V1 Y) κ κ (Below.refl _ _).drew ?_;show dH _ _ _ _ [_,_,_,_,_,_,_,_,_,_,_,_,_,_,_,_,_,_,_,_,_,_,_,_] _
  refine qh (Θ bV 1) ?_;refine qh (I x.fmt) ?_ (hy:=by intro Y hC;have q:=(r8.below hC r8.lt).ae 1;simp only[yB,yC]at q;go_simp);refine qh (.bool true) ?_;refine qh (.bool true) ?_;refine aL 33 rfl κ ?_;simp only[Act.put,zA,zB,zC];refine aL 34 rfl κ ?_;simp only[Act.put,zA,zB,zC];refine aL 35 rfl κ ?_;simp only[Act.put,zA,zB,zC];refine qh (.bool true) ?_;refine qh (.bool true) ?_;refine aL 38 rfl κ ?_;simp only[Act.put,zA,zB,zC];refine aL 39 rfl κ ?_;simp only[Act.put,zA,zB,zC];refine aL 40 rfl κ ?_;simp only[Act.put,zA,zB,zC];refine aL 41 rfl κ ?_;simp only[Act.put,zA,zB,zC];refine aL 42 rfl κ ?_;simp only[Act.put,zA,zB,zC];refine aL 43 rfl κ ?_;simp only[Act.put,zA,zB,zC];refine aL 44 rfl κ ?_;simp only[Act.put,zA,zB,zC];refine aL 45 rfl κ ?_;simp only[Act.put,zA,zB,zC];refine aL 46 rfl κ ?_;simp only[Act.put,zA,zB,zC];refine qh (.bool true) ?_;refine qh (.bool true) ?_;refine aL 49 rfl κ ?_;simp only[Act.put,zA,zB,zC];refine aL 50 rfl κ ?_;simp only[Act.put,zA,zB,zC];refine aL 51 rfl κ ?_;simp only[Act.put,zA,zB,zC];refine qh (.bool true) ?_;refine dq ?_;intro V2 hb2;replace r0:=r0.below hb2 r0.lt;replace hB:=τ hB hb2;clear hb2 HRt r8 hbW ix17;have hl:=Lay.nil .u32 V2 none;have z0:=r0.free 0;have z1:=r0.free 1;obtain⟨p0,p1⟩:=r0.two;obtain⟨U,hU⟩:=ξ ((V2.setCell ⟨w,0,none⟩ (.bool false)).setCell ⟨w,1,none⟩ (.slice none 0 0));have ra:Row U w 24 [.bool false,.slice none 0 0]:=by rw[hU];exact(r0.af 0 _).af 1 _
  have hBU:Below w w U:=(by rw[hU];exact aw (aw hB ι _) ι _);have hlU:Lay .u32 U none []:=by rw[hU];exact(hl).pair r0 _ _
  obtain⟨f0,f1⟩:=ra.two;have HFin:=hid (bp hR none 0 0 rfl hlU hBU);have HU:=hid hU;clear hU ra hBU hlU hB r0 hl hR;go_wp2_with fail;(try simp only[Exit.inBlock,Exit.then]);rw[<-HU.out];refine bodyPost_ret (v:= .tuple #[Ω false none 0 0,I 21]) (by simp[results,results50,go_sem,f0,f1]) rfl HFin.out
 ·rw[q1,q2]at r8;replace r8:Row V1 bV 94 [I x.size,I 3,I x.spare,Ψ 0,Ψ x.ser]:=r8;clear q1 q2 h170;refine bM (fun Y=>Below V1 V1 Y) κ κ (Below.refl _ _).drew ?_;show dH _ _ _ _ [_,_,_,_,_,_,_,_,_,_,_,_,_,_,_,_,_,_,_,_,_,_,_,_] _
  refine qh (Θ bV 1) ?_;refine qh (I 3) ?_ (hy:=by intro Y hC;have q:=(r8.below hC r8.lt).ae 1;simp only[yB,yC]at q;go_simp);refine qh (.bool false) ?_;refine qh (.bool false) ?_;refine qh (Θ bV 3) ?_;refine qh (Ψ 0) ?_ (hy:=by intro Y hC;have q:=(r8.below hC r8.lt).ae 3;simp only[yB,yC]at q;go_simp);refine qh (.bool true) ?_;refine qh (.bool true) ?_;refine qh (.bool true) ?_;refine aL 38 rfl κ ?_;simp only[Act.put,zA,zB,zC];refine aL 39 rfl κ ?_;simp only[Act.put,zA,zB,zC];refine aL 40 rfl κ ?_;simp only[Act.put,zA,zB,zC];refine aL 41 rfl κ ?_;simp only[Act.put,zA,zB,zC];refine aL 42 rfl κ ?_;simp only[Act.put,zA,zB,zC];refine aL 43 rfl κ ?_;simp only[Act.put,zA,zB,zC];refine aL 44 rfl κ ?_;simp only[Act.put,zA,zB,zC];refine aL 45 rfl κ ?_;simp only[Act.put,zA,zB,zC];refine aL 46 rfl κ ?_;simp only[Act.put,zA,zB,zC];refine qh (.bool true) ?_;refine qh (.bool true) ?_;refine aL 49 rfl κ ?_;simp only[Act.put,zA,zB,zC];refine aL 50 rfl κ ?_;simp only[Act.put,zA,zB,zC];refine aL 51 rfl κ ?_;simp only[Act.put,zA,zB,zC];refine qh (.bool true) ?_;refine dq ?_;intro V2 hb2;replace r0:=r0.below hb2 r0.lt;replace hB:=τ hB hb2;clear hb2 HRt r8 hbW ix17;have hl:=Lay.nil .u32 V2 none;have z0:=r0.free 0;have z1:=r0.free 1;obtain⟨p0,p1⟩:=r0.two;obtain⟨U,hU⟩:=ξ ((V2.setCell ⟨w,0,none⟩ (.bool false)).setCell ⟨w,1,none⟩ (.slice none 0 0));have ra:Row U w 24 [.bool false,.slice none 0 0]:=by rw[hU];exact(r0.af 0 _).af 1 _
  have hBU:Below w w U:=(by rw[hU];exact aw (aw hB ι _) ι _);have hlU:Lay .u32 U none []:=by rw[hU];exact(hl).pair r0 _ _
  obtain⟨f0,f1⟩:=ra.two;have HFin:=hid (bp hR none 0 0 rfl hlU hBU);have HU:=hid hU;clear hU ra hBU hlU hB r0 hl hR;go_wp2_with fail;(try simp only[Exit.inBlock,Exit.then]);rw[<-HU.out];refine bodyPost_ret (v:= .tuple #[Ω false none 0 0,I 21]) (by simp[results,results50,go_sem,f0,f1]) rfl HFin.out
 ·rw[q1]at r8;replace r8:Row V1 bV 94 [I x.size,I 3,I x.spare,Ψ x.cls,Ψ x.ser]:=r8;have e1:((x.cls:Int)==0)=false:=nE
  have e1':(x.cls==0)=false:=(by rw[beq_eq_false_iff_ne];exact q2);have e2:((x.cls:Int) != (r17:Int))=true:=by rw[bne_iff_ne];omega
  have e2':(x.cls != r17)=true:=(by rw[bne_iff_ne];exact q3);clear q1 q2 q3 h170;refine bM (fun Y=>Below V1 V1 Y) κ κ (Below.refl _ _).drew ?_;show dH _ _ _ _ [_,_,_,_,_,_,_,_,_,_,_,_,_,_,_,_,_,_,_,_,_,_,_,_] _
  refine qh (Θ bV 1) ?_;refine qh (I 3) ?_ (hy:=by intro Y hC;have q:=(r8.below hC r8.lt).ae 1;simp only[yB,yC]at q;go_simp);refine qh (.bool false) ?_;refine qh (.bool false) ?_;refine qh (Θ bV 3) ?_;refine qh (Ψ x.cls) ?_ (hy:=by intro Y hC;have q:=(r8.below hC r8.lt).ae 3;simp only[yB,yC]at q;go_simp);refine qh (.bool false) ?_;refine qh (.bool false) ?_;refine qh (.bool false) ?_;refine qh (Θ bV 3) ?_;refine qh (Ψ x.cls) ?_ (hy:=by intro Y hC;have q:=(r8.below hC r8.lt).ae 3;simp only[yB,yC]at q;go_simp);refine qh (E G.p) ?_;refine qh (E G.p) ?_;refine qh (Θ G.p 2) ?_;refine qh (M G.gr 64 64) ?_ (hy:=by intro Y hC;obtain⟨q1,q2⟩:=HRt.out Y (hbW.trans (hC.mono hbW.size));go_simp);refine qh (Θ G.gr 17) ?_;refine qh (Ψ r17) ?_ (hy:=by intro Y hC;obtain⟨q1,q2⟩:=HRt.out Y (hbW.trans (hC.mono hbW.size));go_simp);refine qh (.bool true) ?_;refine qh (.bool true) ?_;refine qh (.bool true) ?_;refine aL 49 rfl κ ?_;simp only[Act.put,zA,zB,zC];refine aL 50 rfl κ ?_;simp only[Act.put,zA,zB,zC];refine aL 51 rfl κ ?_;simp only[Act.put,zA,zB,zC];refine qh (.bool true) ?_;refine dq ?_;intro V2 hb2;replace r0:=r0.below hb2 r0.lt;replace hB:=τ hB hb2;clear hb2 HRt r8 hbW ix17;have hl:=Lay.nil .u32 V2 none;have z0:=r0.free 0;have z1:=r0.free 1;obtain⟨p0,p1⟩:=r0.two;obtain⟨U,hU⟩:=ξ ((V2.setCell ⟨w,0,none⟩ (.bool false)).setCell ⟨w,1,none⟩ (.slice none 0 0));have ra:Row U w 24 [.bool false,.slice none 0 0]:=by rw[hU];exact(r0.af 0 _).af 1 _
  have hBU:Below w w U:=(by rw[hU];exact aw (aw hB ι _) ι _);have hlU:Lay .u32 U none []:=by rw[hU];exact(hl).pair r0 _ _
  obtain⟨f0,f1⟩:=ra.two;have HFin:=hid (bp hR none 0 0 rfl hlU hBU);have HU:=hid hU;clear hU ra hBU hlU hB r0 hl hR;go_wp2_with fail;(try simp only[Exit.inBlock,Exit.then]);rw[<-HU.out];refine bodyPost_ret (v:= .tuple #[Ω false none 0 0,I 21]) (by simp[results,results50,go_sem,f0,f1]) rfl HFin.out
 ·rw[q1,q2,q3]at r8;replace r8:Row V1 bV 94 [I 0,I 3,I x.spare,Ψ r17,Ψ x.ser]:=r8;have e1:((r17:Int)==0)=false:=nE
  have e1':(r17==0)=false:=(by rw[beq_eq_false_iff_ne];exact h170);have e2:((r17:Int) != (r17:Int))=false:=by simp
  have e2':(r17 != r17)=false:=(by simp);clear q1 q2 q3 h170;refine bM (fun Y=>Below V1 V1 Y) κ κ (Below.refl _ _).drew ?_;show dH _ _ _ _ [_,_,_,_,_,_,_,_,_,_,_,_,_,_,_,_,_,_,_,_,_,_,_,_] _
  refine qh (Θ bV 1) ?_;refine qh (I 3) ?_ (hy:=by intro Y hC;have q:=(r8.below hC r8.lt).ae 1;simp only[yB,yC]at q;go_simp);refine qh (.bool false) ?_;refine qh (.bool false) ?_;refine qh (Θ bV 3) ?_;refine qh (Ψ r17) ?_ (hy:=by intro Y hC;have q:=(r8.below hC r8.lt).ae 3;simp only[yB,yC]at q;go_simp);refine qh (.bool false) ?_;refine qh (.bool false) ?_;refine qh (.bool false) ?_;refine qh (Θ bV 3) ?_;refine qh (Ψ r17) ?_ (hy:=by intro Y hC;have q:=(r8.below hC r8.lt).ae 3;simp only[yB,yC]at q;go_simp);refine qh (E G.p) ?_;refine qh (E G.p) ?_;refine qh (Θ G.p 2) ?_;refine qh (M G.gr 64 64) ?_ (hy:=by intro Y hC;obtain⟨q1,q2⟩:=HRt.out Y (hbW.trans (hC.mono hbW.size));go_simp);refine qh (Θ G.gr 17) ?_;refine qh (Ψ r17) ?_ (hy:=by intro Y hC;obtain⟨q1,q2⟩:=HRt.out Y (hbW.trans (hC.mono hbW.size));go_simp);refine qh (.bool false) ?_;refine qh (.bool false) ?_;refine qh (.bool false) ?_;refine qh (E bV) ?_;refine qh (I 0) ?_ (hy:=by intro Y hC;have q:=(r8.below hC r8.lt).ae 0;simp only[yB,yC]at q;go_simp);refine qh (.bool true) ?_;refine qh (.bool true) ?_;refine dq ?_;intro V2 hb2;replace r0:=r0.below hb2 r0.lt;replace hB:=τ hB hb2;clear hb2 HRt r8 hbW ix17;have hl:=Lay.nil .u32 V2 none;have z0:=r0.free 0;have z1:=r0.free 1;obtain⟨p0,p1⟩:=r0.two;obtain⟨U,hU⟩:=ξ ((V2.setCell ⟨w,0,none⟩ (.bool false)).setCell ⟨w,1,none⟩ (.slice none 0 0));have ra:Row U w 24 [.bool false,.slice none 0 0]:=by rw[hU];exact(r0.af 0 _).af 1 _
  have hBU:Below w w U:=(by rw[hU];exact aw (aw hB ι _) ι _);have hlU:Lay .u32 U none []:=by rw[hU];exact(hl).pair r0 _ _
  obtain⟨f0,f1⟩:=ra.two;have HFin:=hid (bp hR none 0 0 rfl hlU hBU);have HU:=hid hU;clear hU ra hBU hlU hB r0 hl hR;go_wp2_with fail;(try simp only[Exit.inBlock,Exit.then]);rw[<-HU.out];refine bodyPost_ret (v:= .tuple #[Ω false none 0 0,I 21]) (by simp[results,results50,go_sem,f0,f1]) rfl HFin.out
end
section
variable {w:World} {G:RFoot} {h:Hp}
theorem ph(H:RefAt w G h)(o:Nat)(ho:o<4294967296)(e1: ¬o%2=1)(hi:isO h o=true)(h17:isO h (wd h.rt 17)=true)(hk:nN h o=true):Calls prog 50 #[E G.p,Ψ o] w fun e w'=>cS h o w w' e:=by
 obtain⟨W,hW,r0,hB,hz⟩:=aA w 24 [.bool false,.slice none 0 0];have HW:=hid hW;have hk0:=sk W o ho;have HK:=hid (show∃n:Nat,(n:Int)≠1/\Calls prog 119 #[Ψ o] W fun e w'=>e= .returned (I (n:Nat))/\W=w' from⟨bI o,by unfold bI;rw[if_neg e1];split<;>decide,hk0⟩);have hI:=sW (H.below hB) o ho;rw[hi]at hI;have HI:=hid hI;have hH:=fy (H.below hB) o hi;simp only[j8]at hH;have HH:=hid hH;have h170:wd h.rt 17≠0:=(isO_iff.1 h17).1
 have HRt:=hid (fun X (hb:Below W.heap.size W X)=>show X.cell? ⟨G.p,2,none⟩=O (M G.gr 64 64)/\X.cell? ⟨G.gr,17,none⟩=O (Ψ (wd h.rt 17:Nat))from by
  have:=((H.below hB).below hb).root (i:=17) δ;exact⟨this.1,this.2.1⟩)
 have ix17: ∀W,(Instr.indexAt 44 (M G.gr 64 64) (I 17)).run prog W= .ok (Θ G.gr 17) W:=(H.root (i:=17) δ).2.2;obtain⟨-,k1,k2,k3⟩:=oh hk;have HRb:=hid (fun(hg:gS (nb h o) (wd (bj h o) 0) (ia h o)=false)=>oL (h:=h) e1 hi (by unfold Y9q;rw[hk,hg];rfl));have HRg:=hid (fun(hg:gS (nb h o) (wd (bj h o) 0) (ia h o)=true)=>qX (h:=h) e1 hi (by unfold Y9q;rw[hk,hg];rfl))
 have HWd:=hid (fun X (hb:Below W.heap.size W X) k (hk:k<(hdO h o).size)=>show Calls prog 123 #[E G.p,Ψ o,I k] X fun e w'=>e=Rt #[Ψ (wd (bj h o) k:Nat),I 0]/\Below X.heap.size X w' from by
  rw[fk hk];exact Fa ((H.below hB).below hb) (isF_iff.2 ⟨hi,k1,hk⟩))
 have hsz:=(okO H.good hi).size;have hfl:=bg H.good hi;have hlim:=fB H.good o;have hsgE:nb h o=decide (wd (bj h o) 0=1):=rfl;have hallE:ia h o=(bj h o).drop 1:=rfl;generalize nb h o=sg at*
 generalize ia h o=l at*
 generalize bj h o=fl at*
 generalize wd h.rt 17=r17 at*
 generalize hdO h o=x at*
 have HFl:=hid hfl;have HLim:=hid hlim;have HSg:=hid hsgE;have HAll:=hid hallE;clear hW hz e1 hi H hH hI hk0 ho h17 hk hfl hlim hsgE hallE;obtain⟨kn,kn1,hkn⟩:=HK.out;have kq:((kn:Int)==1)=false:=by rw[beq_eq_false_iff_ne];exact kn1
 have kq':(kn==1)=false:=nE
 clear HK kn1;go_enter func50,ntmps50;go_wp2_with fail;rw[<-HW.out];refine(hkn).mono ?_;rintro e V ⟨rfl,rfl⟩;(try dsimp only);go_wp2_with fail;refine(HI.out).mono ?_;rintro e V ⟨rfl,rfl⟩;(try dsimp only);go_wp2_with fail;refine(HH.out).mono ?_;rintro e V ⟨rfl,hbW⟩;(try dsimp only);replace r0:=r0.below hbW r0.lt;replace hB:=τ hB hbW;obtain⟨V1,hV1,r8,hb8,hz8⟩:=aA V 94 [I x.size,I x.fmt,I x.spare,Ψ x.cls,Ψ x.ser];replace hB:=τ hB hb8;replace r0:=r0.below hb8 r0.lt;replace hbW:=hbW.trans (hb8.mono hbW.size);have HV1:=hid hV1;obtain⟨bV,hbV⟩:=ξ V.heap.size;rw[<-hbV]at r8;have HBV:=hid hbV;clear hV1 hbV hb8 hz8 HI HH HW hkn kq kq';have HK1:=hid k1;have HK2:=hid k2;have HK3:=hid k3;clear k1 k2 k3;have HB1:=hid hB;have R0:=hid r0;have HBW:=hid hbW;go_wp2_with fail;rw[<-HV1.out,<-HBV.out];clear HV1 HBV;rw[HK1.out,HK2.out]at r8;replace r8:Row V1 bV 94 [I x.size,I 3,I x.spare,Ψ r17,Ψ x.ser]:=r8;have e1:((r17:Int)==0)=false:=nE
 have e1':(r17==0)=false:=by rw[beq_eq_false_iff_ne];exact h170
 have e2:((r17:Int) != (r17:Int))=false:=by simp
 have e2':(r17 != r17)=false:=by simp
 have e3:decide ((x.size:Int)<1)=false:=decide_eq_false (by have:=HK3.out;omega);have e3':decide (x.size<1)=false:=decide_eq_false (by have:=HK3.out;omega);clear HK1 HK2 h170 hB r0;refine bM (fun Y=>Below V1 V1 Y) κ κ (Below.refl _ _).drew ?_;show dH _ _ _ _ [_,_,_,_,_,_,_,_,_,_,_,_,_,_,_,_,_,_,_,_,_,_,_,_] _
 refine qh (Θ bV 1) ?_;refine qh (I 3) ?_ (hy:=by intro Y hC;have q:=(r8.below hC r8.lt).ae 1;simp only[yB,yC]at q;go_simp);refine qh (.bool false) ?_;refine qh (.bool false) ?_;refine qh (Θ bV 3) ?_;refine qh (Ψ r17) ?_ (hy:=by intro Y hC;have q:=(r8.below hC r8.lt).ae 3;simp only[yB,yC]at q;go_simp);refine qh (.bool false) ?_;refine qh (.bool false) ?_;refine qh (.bool false) ?_;refine qh (Θ bV 3) ?_;refine qh (Ψ r17) ?_ (hy:=by intro Y hC;have q:=(r8.below hC r8.lt).ae 3;simp only[yB,yC]at q;go_simp);refine qh (E G.p) ?_;refine qh (E G.p) ?_;refine qh (Θ G.p 2) ?_;refine qh (M G.gr 64 64) ?_ (hy:=by intro Y hC;obtain⟨q1,q2⟩:=HRt.out Y (hbW.trans (hC.mono hbW.size));go_simp);refine qh (Θ G.gr 17) ?_;refine qh (Ψ r17) ?_ (hy:=by intro Y hC;obtain⟨q1,q2⟩:=HRt.out Y (hbW.trans (hC.mono hbW.size));go_simp);refine qh (.bool false) ?_;refine qh (.bool false) ?_;refine qh (.bool false) ?_;refine qh (E bV) ?_;refine qh (I x.size) ?_ (hy:=by intro Y hC;have q:=(r8.below hC r8.lt).ae 0;simp only[yB,yC]at q;go_simp);refine qh (.bool false) ?_;refine qh (.bool false) ?_;refine dq ?_;intro V2 hb2;have R8:=hid (r8.below hb2 r8.lt);have HB2:=hid hb2;generalize x.size=sz at*
 have HW0:=hid (HWd.out V2 (HBW.out.trans (hb2.mono HBW.out.size)) 0 HK3.out);clear e1 e1' e2 e2' e3 e3' HRt ix17 r8 hbW;go_wp2_with fail;refine(HW0.out).mono ?_;rintro e V3 ⟨rfl,hb⟩;(try dsimp only);have hb3:=hb2.trans (hb.mono hb2.size);have R8:=hid (R8.out.below hb R8.out.lt);have HB3:=hid hb3
 have he:((wd fl 0:Int)==1)=sg:=by
  rw[HSg.out];by_cases q:wd fl 0=1
  ·rw[q];rfl
  ·rw[decide_eq_false q,beq_eq_false_iff_ne];omega
 have he':decide (wd fl 0=1)=sg:=HSg.out.symm;obtain⟨s0,hs0⟩:=ξ (wd fl 0);rw[<-hs0]at he he' HRb HRg ⊢;obtain⟨V4,hV4,ra,hba,hza⟩:=aA V3 24 [.bool sg,.slice none 0 0];obtain⟨ga,hga⟩:=ξ V3.heap.size;rw[<-hga]at ra;have HGA:=hid hga;have HGs:=hid (show V1.heap.size<=ga by rw[hga];exact hb3.size);have HGb:=hid (show bV<ga by rw[hga];exact R8.out.lt);have R8:=hid (R8.out.below hba R8.out.lt);have HV4:=hid hV4;have hb4:=hb3.trans (hba.mono hb3.size);clear hb hb2 hb3 hs0 hV4 hba hza hga HB2 HB3 HW0;go_wp2_with fail;rw[<-HV4.out,<-HGA.out];clear HV4 HGA he he';go_loopw[10] (fun i wr=> ∃(k:Nat) (s:Value),1<=k/\k<=sz/\i= .int .i64 k/\Row wr ga 24 [.bool sg,s]/\wr.ownsRow (ga+1) 25 1 s (k-1) (aC .u32 (l.take (k-1)))/\Row wr bV 94 [I sz,I 3,I x.spare,Ψ r17,Ψ x.ser]/\Below V1 V1 wr) (fun i _=>sz-(intOf i).toNat);case atStart=>exact⟨1,_,Nat.le_refl _,HK3.out,rfl,ra,⟨rfl,.inl ⟨rfl,rfl⟩⟩,R8.out,hb4⟩
 case round=>
  clear ra hb4 R8;obtain⟨k,s,hk1,hks,rfl,ra,hown,r8,hbw⟩:=hrel;have c0:=r8.ae 0;simp only[List.getElem?_cons_zero]at c0;by_cases h0:k<sz
  ·have d1:decide ((k:Int)<(sz:Int))=true:=dT;have d2:decide (k<sz)=true:=decide_eq_true h0;have hkl:k-1<l.length:=by rw[HAll.out,List.length_drop,HFl.out];omega
   have hwk:wd fl k=wd l (k-1):=by
    rw[HAll.out,wd_lt (by rw[HFl.out];exact h0),wd_lt (by rw[List.length_drop,HFl.out];omega),List.getElem_drop];congr 1;omega
   have htk:l.take (k-1)++[wd l (k-1)]=l.take (k-1+1):=jD hkl;rw[<-hwk]at htk;have HTk:=hid htk;have HW1:=hid (HWd.out wr (HBW.out.trans (hbw.mono HBW.out.size)) k h0);generalize wd fl k=fv at*
   clear htk hwk hkl;go_wp2_with fail;refine(HW1.out).mono ?_;rintro e V2 ⟨rfl,hb⟩;(try dsimp only);have hown2:=bX hown hb;have ra:=ra.below hb ra.lt;have r8:=r8.below hb r8.lt;replace hbw:=hbw.trans (hb.mono hbw.size);clear hb hown HW1 c0;obtain⟨i0,hi,hz0,hz1,hz2⟩:=info_parts bz;have hown3:=hown2.alloc (.cells #[Ψ fv] 25);have hral:=ra.lt;obtain⟨v',X',hrr,h2,h3,h4,h5⟩:=run_append_own_at (P:=prog) (w:=V2.alloc (.cells #[Ψ fv] 25)) (ga+1) 22 22 25 i0 (Ψ 0) 1 4 underlying22 hi hz0 hz1 hz2 rfl δ _ (k-1) _ hown3 ⟨V2,0,none⟩ 1 1 (aC .u32 [fv]) rfl (cell_one_new _ _ _) (by simp[aC,Value.oneCell']) (Nat.le_trans (show k-1+1<=65536 by omega) δ) ω (by rw[World.size_alloc];omega);rw[<-bw,HTk.out,(ω:k-1+1=k)]at h2;obtain⟨g',c',hv',-,-⟩:=Sl.aj (jq h2) (show 0<k by omega);subst hv';have hB2:=dh hown3 h3 (by rw[World.size_alloc];omega);have ral:=ra.alloc (.cells #[Ψ fv] 25);have r8l:=r8.alloc (.cells #[Ψ fv] 25);have ra2:=ral.below hB2 (Nat.lt_succ_self _);have hgb:bV<ga+1:=Nat.lt_succ_of_lt HGb.out;have r82:=r8l.below hB2 hgb;have hB3:=(hbw.alloc hbw.size (.cells #[Ψ fv] 25)).trans (hB2.mono (Nat.le_succ_of_le HGs.out));have p1:=ra2.ae 1;have p0:=ra.ae 1;simp only[yB,yC]at p1 p0;have z1:=ra2.free 1;have HR:=hid hrr;have RA3:=hid (ra2.af 1 (M g' k c'));have R83:=hid (r82.other (a:=⟨ga,1,none⟩) (show bV≠ga from Nat.ne_of_lt HGb.out) (M g' k c'));have HO3:=hid (te (i:=1) (u:=M g' k c') h2 (Nat.lt_succ_self ga));have HB3:=hid (aw hB3 HGs.out (i:=1) (M g' k c'));clear hrr h2 h3 h4 h5 hown2 hown3 hi hz0 hz1 hz2 hB2 hB3 hbw ral r8l ra2 r82 ra r8 hgb;go_wp2_with(at_builtin;refine Lib.wpList_append_run _ rfl _ _ _ _ rfl _ _ rfl rfl _ _ HR.out ?_);go_roundw;case rel=>exact⟨k+1,_,ω,h0,by simp,RA3.out,HO3.out,R83.out,HB3.out⟩
   case measure=>exact μ
  ·obtain rfl:k=sz:=ω
   have d1:decide ((k:Int)<(k:Int))=false:=dF;have d2:decide (k<k)=false:=dF;have hln:l.length=k-1:=by rw[HAll.out,List.length_drop,HFl.out]
   rw[List.take_of_length_le ω]at hown;obtain⟨a',c,rfl,hlay,hcap⟩:=Bv hown hln;have HCap:=hid (show CapB w a' (k-1) c from hcap.mono (Nat.le_trans HB1.out.size (Nat.le_succ_of_le HGs.out)));clear hcap;have RA:=hid ra;obtain⟨q0,q1⟩:=ra.two;have HLay:=hid (fun Y (hY:Below wr.heap.size wr Y)=>hlay.below hY);have R0:=hid (R0.out.below hbw (R0.out.lt));have HB2:=hid (HB1.out.trans (hbw.mono HB1.out.size));have HCm:=hid (fun Y (hY:Below wr.heap.size wr Y)=>show Came Y sg a' (k-1) l from⟨HLay.out Y hY,by rw[HAll.out];exact HLim.out.drop 1,hln.symm,ω⟩);have HLn:=hid hln.symm;have HSm:=hid (jx wr sg a' l (k-1) c (HCm.out wr (Below.refl _ _)));have HMy:=hid (fun Y (hY:Below wr.heap.size wr Y)=>sA Y sg a' l (k-1) c (HLay.out Y hY) (HCm.out Y hY).2.1 (HCm.out Y hY).2.2.1 (HCm.out Y hY).2.2.2);clear ra r8 hown hlay hln HWd HBW HB1 HFl HLim HSg HAll hbw hsz HGs HGb;go_wp2_with fail;refine(HSm.out).mono ?_;rintro e V3 ⟨⟨v,b,rfl,hbs,-⟩,hb⟩;(try dsimp only);have HBs:=hid hbs;have rq:=RA.out.below hb RA.out.lt;obtain⟨q0,q1⟩:=rq.two;have HB3:=hid hb;clear rq hb HSm hbs c0 d1 d2;by_cases hs1:1<s0
   ·have HBf:=hid (HB2.out.trans (HB3.out.mono HB2.out.size));have hR:=HRb.out (f8 (.inl hs1));have e1:decide ((1:Int)<(s0:Int))=true:=dT;have e1':decide (1<s0)=true:=decide_eq_true hs1;clear hs1;have r0:=R0.out.below HB3.out R0.out.lt;have hB:=HBf.out;have hl:=Lay.nil .u32 V3 none;have z0:=r0.free 0;have z1:=r0.free 1;obtain⟨p0,p1⟩:=r0.two;obtain⟨U,hU⟩:=ξ ((V3.setCell ⟨w,0,none⟩ (.bool false)).setCell ⟨w,1,none⟩ (.slice none 0 0));have ra:Row U w 24 [.bool false,.slice none 0 0]:=by rw[hU];exact(r0.af 0 _).af 1 _
    have hBU:Below w w U:=(by rw[hU];exact aw (aw hB ι _) ι _);have hlU:Lay .u32 U none []:=by rw[hU];exact(hl).pair r0 _ _
    obtain⟨f0,f1⟩:=ra.two;have HFin:=hid (bp hR none 0 0 rfl hlU hBU);have HU:=hid hU;clear hU ra hBU hlU hB r0 hl hR;go_wp2_with fail;(try simp only[Exit.inBlock,Exit.then]);rw[<-HU.out];refine bodyPost_ret (v:= .tuple #[Ω false none 0 0,I 21]) (by simp[results,results50,go_sem,f0,f1]) rfl HFin.out
   ·have e1:decide ((1:Int)<(s0:Int))=false:=dF;have e1':decide (1<s0)=false:=decide_eq_false hs1;have HM3:=hid (HMy.out V3 HB3.out);have HSs:=hid hs1;clear hs1;go_wp2_with fail;refine(HM3.out).mono ?_;rintro e V4 ⟨rfl,hb⟩;(try dsimp only);have HB4:=hid (HB3.out.trans (hb.mono HB3.out.size));have rq:=RA.out.below HB4.out RA.out.lt;obtain⟨q0,q1⟩:=rq.two;have HBf:=hid (HB2.out.trans (HB4.out.mono HB2.out.size));clear rq hb HM3 HMy e1 e1'
    cases hm:bn sg l with
    |false=>
     have hR:=HRb.out (f8 (.inr (.inl hm)));clear hm HBs;have r0:=R0.out.below HB4.out R0.out.lt;have hB:=HBf.out;have hl:=Lay.nil .u32 V4 none;have z0:=r0.free 0;have z1:=r0.free 1;obtain⟨p0,p1⟩:=r0.two;obtain⟨U,hU⟩:=ξ ((V4.setCell ⟨w,0,none⟩ (.bool false)).setCell ⟨w,1,none⟩ (.slice none 0 0));have ra:Row U w 24 [.bool false,.slice none 0 0]:=by rw[hU];exact(r0.af 0 _).af 1 _
     have hBU:Below w w U:=(by rw[hU];exact aw (aw hB ι _) ι _);have hlU:Lay .u32 U none []:=by rw[hU];exact(hl).pair r0 _ _
     obtain⟨f0,f1⟩:=ra.two;have HFin:=hid (bp hR none 0 0 rfl hlU hBU);have HU:=hid hU;clear hU ra hBU hlU hB r0 hl hR;go_wp2_with fail;(try simp only[Exit.inBlock,Exit.then]);rw[<-HU.out];refine bodyPost_ret (v:= .tuple #[Ω false none 0 0,I 21]) (by simp[results,results50,go_sem,f0,f1]) rfl HFin.out
    |true=>
     have hbs:=HBs.out hm
     cases hsm:bC (signed sg (val l))with
     |true=>
      rw[hsm]at hbs;subst hbs;have hR:=HRb.out (f8 (.inr (.inr hsm)));clear hm hsm HBs;have r0:=R0.out.below HB4.out R0.out.lt;have hB:=HBf.out;have hl:=Lay.nil .u32 V4 none;have z0:=r0.free 0;have z1:=r0.free 1;obtain⟨p0,p1⟩:=r0.two;obtain⟨U,hU⟩:=ξ ((V4.setCell ⟨w,0,none⟩ (.bool false)).setCell ⟨w,1,none⟩ (.slice none 0 0));have ra:Row U w 24 [.bool false,.slice none 0 0]:=by rw[hU];exact(r0.af 0 _).af 1 _
      have hBU:Below w w U:=(by rw[hU];exact aw (aw hB ι _) ι _);have hlU:Lay .u32 U none []:=by rw[hU];exact(hl).pair r0 _ _
      obtain⟨f0,f1⟩:=ra.two;have HFin:=hid (bp hR none 0 0 rfl hlU hBU);have HU:=hid hU;clear hU ra hBU hlU hB r0 hl hR;go_wp2_with fail;(try simp only[Exit.inBlock,Exit.then]);rw[<-HU.out];refine bodyPost_ret (v:= .tuple #[Ω false none 0 0,I 21]) (by simp[results,results50,go_sem,f0,f1]) rfl HFin.out
     |false=>
      rw[hsm]at hbs;subst hbs;have hR:=HRg.out (pR (by have:=HSs.out;omega) hm hsm);have hl:=HLay.out V4 HB4.out;have hn:=HLn.out;have r0:=R0.out.below HB4.out R0.out.lt;have hB:=HBf.out;clear hm hsm HBs;have z0:=r0.free 0;have z1:=r0.free 1;obtain⟨p0,p1⟩:=r0.two;obtain⟨U,hU⟩:=ξ ((V4.setCell ⟨w,0,none⟩ (.bool sg)).setCell ⟨w,1,none⟩ (.slice a' (k-1) c));have ra:Row U w 24 [.bool sg,.slice a' (k-1) c]:=by rw[hU];exact(r0.af 0 _).af 1 _
      have hBU:Below w w U:=(by rw[hU];exact aw (aw hB ι _) ι _);have hlU:Lay .u32 U a' l:=by rw[hU];exact(hl).pair r0 _ _
      obtain⟨f0,f1⟩:=ra.two;have HFin:=hid (bp hR a' (k-1) c hn hlU hBU HCap.out);have HU:=hid hU;clear hU ra hBU hlU hB r0 hl hR hn;go_wp2_with fail;(try simp only[Exit.inBlock,Exit.then]);rw[<-HU.out];refine bodyPost_ret (v:= .tuple #[Ω sg a' (k-1) c,I 0]) (by simp[results,results50,go_sem,f0,f1]) rfl HFin.out
theorem uz(H:RefAt w G h)(o:Nat)(c:o<4294967296)(a:isO h (wd h.rt 17)=true):Calls prog 50 #[E G.p,Ψ o] w fun e w'=>cS h o w w' e:=by
 by_cases b:o%2=1
 ·exact rR G.p o c b
 ·cases hi:isO h o with
  |false=>exact pt H o c b hi
  |true=>
   cases hk:nN h o with
   |false=>exact rV H o c b hi a hk
   |true=>exact ph H o c b hi a hk
end
section
variable (w:World) (neg:Bool) (a:Option Addr) (l:List Nat) (m cap:Nat)
end
structure Bo (w:World) (F:Foot) (G:RFoot) (bx:Nat) (bc:List Value) (X:World) (F':Foot) (G':RFoot) (h g:Hp):Prop where
 hp:HeapAt X F' h
 rf:RefAt X G' g
 ap: ∀b∈F'.l,b∉G'.l
 ff: ∀b∈F'.l,w.heap.size<=b
 fg: ∀b∈G'.l,w.heap.size<=b
 bel:Below w w X
 fp:F'.p=F.p
 gp:G'.p=G.p
 ggr:G'.gr=G.gr
 box:Row X bx 24 bc
 low:5<=w.heap.size
section
variable {w X X':World} {F F' F'':Foot} {G G' G'':RFoot} {bx:Nat} {bc:List Value} {h h' g g':Hp}
theorem Bo.stepF(c:Bo w F G bx bc X F' G' h g)(s:Step X F' X' F'' h'):Bo w F G bx bc X' F'' G' h' g:=
 ⟨s.1,c.rf.only s.2.2 (fun q f e=>c.ap q e f),fun b d e=>by
  rcases s.2.1.mem b d with x|x
  ·exact c.ap b x e
  ·have:=c.rf.lt b e;omega,fun b d=>by
  rcases s.2.1.mem b d with x|x
  ·exact c.ff b x
  ·have:=c.bel.size;omega,c.fg,c.bel.trans (s.2.2.ah c.bel.size c.ff),s.2.1.p.trans c.fp,c.gp,c.ggr,s.beside c.box (c.hp.not_mem c.box δ δ δ δ),c.low⟩
theorem Bo.stepG(c:Bo w F G bx bc X F' G' h g)(s:RStep X G' X' G'' g'):Bo w F G bx bc X' F' G'' h g':=
 ⟨c.hp.only s.2.2 (fun q f e=>c.ap q f e) (fun e=>by have:=c.rf.ge _ e;omega),s.1,fun b d e=>by
  rcases s.2.1.mem b e with x|x
  ·exact c.ap b d x
  ·have:=c.hp.lt b d;omega,c.ff,fun b d=>by
  rcases s.2.1.mem b d with x|x
  ·exact c.fg b x
  ·have:=c.bel.size;omega,c.bel.trans (s.2.2.ah c.bel.size c.fg),c.fp,s.2.1.p.trans c.gp,s.2.1.gr.trans c.ggr,s.beside c.box (c.rf.not_mem c.box δ δ δ δ),c.low⟩
theorem Bo.below(c:Bo w F G bx bc X F' G' h g)(b:Below X X X'):Bo w F G bx bc X' F' G' h g:=
 ⟨c.hp.below b,c.rf.below b,c.ap,c.ff,c.fg,c.bel.trans (b.mono c.bel.size),c.fp,c.gp,c.ggr,c.box.below b c.box.lt,c.low⟩
theorem Bo.bf(c:Bo w F G bx bc X F' G' h g):5<=X.heap.size:=Nat.le_trans c.low c.bel.size
theorem Bo.root(c:Bo w F G bx bc X F' G' h g){i:Nat}(b:i<64):X.cell? ⟨G.p,2,none⟩=O (M G.gr 64 64)/\X.cell? ⟨G.gr,i,none⟩=O (Ψ (wd g.rt i:Nat))/\∀W,(Instr.indexAt 44 (M G.gr 64 64) (I i)).run prog W= .ok (Θ G.gr i) W:=by
 have:=c.rf.root b
 rwa [c.gp,c.ggr]at this
theorem Bo.last(c:Bo w F G bx bc X F' G' h g):X.cell? ⟨G.p,3,none⟩=O (Ψ g.last):=by
 obtain⟨d,e,f,c1,i,b,j,_⟩:=c.rf.cells
 rwa [c.gp]at b
theorem Bo.came(c:Bo w F G bx bc X F' G' h g){b:Bool}{a:Option Addr}{n:Nat}{l:List Nat}(k:Came w b a n l):Came X b a n l/\(0<l.length->∀q d,a=some ⟨q,d,none⟩->q∉F'.l)/\(0<l.length->∀q d,a=some ⟨q,d,none⟩->q∉G'.l):=by
 have f:0<l.length->∀q d,a=some ⟨q,d,none⟩->q<w.heap.size:=fun i q d e=>by
  obtain⟨r,p,s,_⟩:=k.1;obtain⟨j,t⟩:=s i;rw[e]at j;have:q=r:=by injection j with j;injection j
  omega
 exact⟨k.below c.bel,fun i q d e o=>by have:=f i q d e;have:=c.ff q o;omega,fun i q d e o=>by have:=f i q d e;have:=c.fg q o;omega⟩
end
section
variable {w:World} {G:RFoot} {F:Foot} {h:Hp}
theorem oS(H:RefAt w G h)(c f z gf m:Nat)(A:m<=1048576)(hf:h.size<h.ws.length+3+m):Calls prog 47 #[E G.p,Ψ c,I f,I z,M gf m m] w fun e w'=>e=Rt #[Ψ (0:Nat),I (4:Nat)]/\Below w w w':=by
 have p:=H.small;obtain⟨y,cb,u⟩:=RMid.start H;have k:(fu h.st).length=h.ws.length:=by rw[fC];exact H.good.len
 have j:=u.p;rw[k]at j;obtain⟨n,v⟩:=ξ h.ws.length;rw[<-v]at j hf p;have x:decide ((h.size:Int)<(n:Int)+3+(m:Int))=true:=dT;clear v k u H;go_enter func47,ntmps47;go_wp2;refine bM (fun Y=>Below w w Y) κ κ (Below.refl _ _).drew ?_;show dH _ _ _ _ [_,_,_,_,_,_,_,_,_,_,_,_,_,_,_,_,_,_,_,_,_] _
 refine aP 14 (E G.p) rfl κ (fun Y i=>by go_simp) ?_;refine aP 15 (E G.p) rfl κ (fun Y i=>by go_simp) ?_;refine aP 16 (Θ G.p 1) rfl κ (fun Y i=>by go_simp) ?_;refine aP 17 (M G.gw n y) rfl κ (fun Y i=>by have q:=(j.below i j.lt).ae 1;simp only[yB,yC]at q;go_simp) ?_;refine aP 18 (I n) rfl κ (fun Y i=>by go_simp) ?_;refine aP 19 (I ((n:Int)+3)) rfl κ (fun Y i=>by go_simp;(first |done|exact aF ω ω|omega)) ?_;refine aP 20 (M gf m m) rfl κ (fun Y i=>by go_simp) ?_;refine aP 21 (I m) rfl κ (fun Y i=>by go_simp) ?_;refine aP 22 (I ((n:Int)+3+(m:Int))) rfl κ (fun Y i=>by go_simp;(first |done|exact aF ω ω|omega)) ?_;refine aP 23 (E G.p) rfl κ (fun Y i=>by go_simp) ?_;refine aP 24 (E G.p) rfl κ (fun Y i=>by go_simp) ?_;refine aP 25 (E G.p) rfl κ (fun Y i=>by go_simp) ?_;refine aP 26 (I h.size) rfl κ (fun Y i=>by have q:=(j.below i j.lt).ae 0;simp only[yB,yC]at q;go_simp) ?_;refine aP 27 (.bool true) rfl κ (fun Y i=>by go_simp) ?_;refine aP 28 (.bool true) rfl κ (fun Y i=>by go_simp) ?_;refine aL 29 rfl κ ?_;refine aL 30 rfl κ ?_;refine aL 31 rfl κ ?_;refine aL 32 rfl κ ?_;refine aL 33 rfl κ ?_;refine aP 34 (.bool true) rfl κ (fun Y i=>by go_simp) ?_;refine dq ?_;simp only[Act.put,zA,zB,zC];intro V s;clear j x;go_wp2;go_ret2;exact⟨rfl,s⟩
theorem sQ(H:RefAt w G h)(c n:Nat)(b:n<=65535)(d:cU h c=true)(hf:h.size<h.ws.length+3+n):Calls prog 12 #[E G.p,Ψ c,I 3,I n] w fun e w'=>e=Rt #[Ψ (0:Nat),I (4:Nat)]/\Below w w w':=
 nK H c 3 n 0 4 (Below w w) (.inr rfl) b d _ rfl fun X gf a _ _=>(oS (H.below a) c 3 0 gf n ω hf).mono fun e w' ⟨x,y⟩=>⟨x,a.trans (y.mono a.size)⟩
theorem v6(H:RefAt w G h)(c:Nat)(a:Option Addr)(t:List Nat)(n cap:Nat)(b:Lay .u8 w a t)(ht:B8 t)(f:n=t.length)(g:n<=262140)(j:cU h c=true)(hf:h.size<h.ws.length+3+(n+3)/4):Calls prog 52 #[E G.p,Ψ c,.slice a n cap] w fun e w'=>e=Rt #[Ψ (0:Nat),I (4:Nat)]/\Below w w w':=
 qS H c a t n cap 0 4 (Below w w) b ht f g j _ _ rfl rfl fun X gf d _ _=>(oS (H.below d) c 2 _ gf _ ω hf).mono fun e w' ⟨x,y⟩=>⟨x,d.trans (y.mono d.size)⟩
theorem om(H:HeapAt w F h)(c:Nat)(a:Option Addr)(t:List Nat)(n cap:Nat)(b:Lay .u8 w a t)(ht:B8 t)(A:n=t.length)(h0:0<n)(C:n<=262140)(u:cU h c=true)(hf:h.size<h.ws.length+3+(n+3)/4):Calls prog 118 #[E F.p,Ψ c,.slice a n cap] w fun e w'=>e=Rt #[Ψ 0,I 4]/\Below w w w':=by
 have f:=eB H.good u;have d:=jQ w a t n cap b ht A C;obtain⟨m,y⟩:=ξ ((n+3)/4);obtain⟨z,p⟩: ∃s,s=4*m-n:=⟨_,rfl⟩;rw[<-y,<-p]at d;have j:=hid d;have v:de h m=false:=by unfold de;rw[dF];rfl
 have x:=hid (fun X (r:Below w w X)=>show Calls prog 45 #[E F.p,.agg #[I m,I 2,I z,Ψ c,Ψ 0]] X fun e w'=>e=Rt #[Ψ 0,I 4]/\Below X.heap.size X w' from mK (H.below r) ⟨m,2,z,c,0⟩ u f (show m<=65535 by omega) v);clear d v u f b ht A hf y p H;go_enter func118,ntmps118;go_wp2_with fail;refine(j.out).mono ?_;rintro e B ⟨⟨g,rfl,hg,hrow⟩,q⟩;have k:=hid (x.out B q);clear j x hrow hg;go_wp2_with fail;refine(k.out).mono ?_;rintro e V ⟨rfl,r⟩;replace q:=τ q r;clear r k;go_wp2;go_ret2;exact⟨rfl,q⟩
theorem mR(H:HeapAt w F h)(neg:Bool)(a:Option Addr)(l:List Nat)(m cap:Nat)(hc:Came w neg a m l)(hm:bn neg l=true)(hs:bC (signed neg (val l))=false)(hml:m<=1024)(hcl:cU h (wd h.rt 17)=true)(hf:h.size<h.ws.length+3+(1+m)):Calls prog 8 #[E F.p,Ω neg a m cap] w fun e w'=>e=Rt #[Ψ 0,I 4]/\Below w w w':=by
 obtain⟨W,hWe,r0,hW⟩: ∃W,W=w.alloc (.cells #[.bool neg,.slice a m cap] 24)/\Row W w 24 [.bool neg,.slice a m cap]/\Below w w W:=⟨_,rfl,by unfold Row;exact heap_alloc_new _ _,(Below.refl _ _).alloc ι _⟩;have HWe:=hid hWe;clear hWe;obtain⟨c0,c1⟩:=r0.two;have HR0:=hid (fun X (hb:Below W.heap.size W X)=>show X.cell? ⟨w,0,none⟩=some (.bool neg)/\X.cell? ⟨w,1,none⟩=some (.slice a m cap)from⟨(r0.below hb r0.lt).ae 0,(r0.below hb r0.lt).ae 1⟩);have hM:=dz W neg a l m cap (hc.below hW).1 hc.2.1 hc.2.2.1 hc.2.2.2;rw[hm]at hM;have HM:=hid hM;have HSm:=hid (fun X (hb:Below W.heap.size W X)=>dB X neg a l m cap ((hc.below hW).below hb));rw[hm,hs]at HSm;have HW0:=H.below hW;have HRt:=hid (fun X (hb:Below W.heap.size W X)=>show Calls prog 39 #[E F.p,I 17] X fun e w'=>e=Rt #[Ψ (wd h.rt 17:Nat),I 0]/\X=w' from dM (HW0.below hb) 17 δ)
 have HAl:=hid (fun X (hb:Below W.heap.size W X)=>show Calls prog 11 #[E F.p,Ψ (wd h.rt 17:Nat),I 3,I (1+(m:Int))] X fun e w'=>e=Rt #[Ψ 0,I 4]/\Below X.heap.size X w' from by
  have:=mX (HW0.below hb) (wd h.rt 17) 3 (1+m) δ δ ω hcl (by unfold de;rw[dF];rfl);rw[Int.natCast_add]at this;exact this)
 generalize wd h.rt 17=r17 at*
 generalize signed neg (val l)=z at*
 clear hM hc hm hs H HW0 hf hcl;go_enter func8,ntmps8;go_wp2_with fail;rw[<-HWe.out];refine(HM.out).mono ?_;rintro e V ⟨rfl,hbV⟩;(try dsimp only);obtain⟨c0,c1⟩:=HR0.out V hbV;clear HM HWe;go_wp2_with fail;refine(HSm.out V hbV).mono ?_;rintro e V2 ⟨⟨v,rfl,-⟩,hb⟩;(try dsimp only);replace hbV:=hbV.trans (hb.mono hbV.size);obtain⟨c0,c1⟩:=HR0.out V2 hbV;clear hb HSm;go_wp2_with fail;refine(HRt.out V2 hbV).mono ?_;rintro e V3 ⟨rfl,rfl⟩;(try dsimp only);go_wp2_with fail;refine(HAl.out V2 hbV).mono ?_;rintro e V4 ⟨rfl,hb⟩;(try dsimp only);have HFin:=hid (hW.trans ((hbV.trans (hb.mono hbV.size)).mono hW.size));clear hb hbV HAl HRt HR0 r0 hW c0 c1;go_wp2_with fail;go_ret2;exact⟨rfl,HFin.out⟩
theorem pD(H:RefAt w G h)(neg:Bool)(a:Option Addr)(l:List Nat)(m cap:Nat)(hc:Came w neg a m l)(hm:bn neg l=true)(hs:bC (signed neg (val l))=false)(hml:m<=1024)(hcl:cU h (wd h.rt 17)=true)(hf:h.size<h.ws.length+3+(1+m)):Calls prog 9 #[E G.p,Ω neg a m cap] w fun e w'=>e=Rt #[Ψ 0,I 4]/\Below w w w':=by
 obtain⟨W,hWe,r0,hW⟩: ∃W,W=w.alloc (.cells #[.bool neg,.slice a m cap] 24)/\Row W w 24 [.bool neg,.slice a m cap]/\Below w w W:=⟨_,rfl,by unfold Row;exact heap_alloc_new _ _,(Below.refl _ _).alloc ι _⟩;have HWe:=hid hWe;clear hWe;obtain⟨c0,c1⟩:=r0.two;have HR0:=hid (fun X (hb:Below W.heap.size W X)=>show X.cell? ⟨w,0,none⟩=some (.bool neg)/\X.cell? ⟨w,1,none⟩=some (.slice a m cap)from⟨(r0.below hb r0.lt).ae 0,(r0.below hb r0.lt).ae 1⟩);have HSm:=hid (jx W neg a l m cap (hc.below hW));have HT:=hid (fun(b:Bool) (e:bn neg l=true->b=bC (signed neg (val l)))=>show b=false from by rw[e hm,hs]);have HW0:=H.below hW
 have HRt:=hid (fun X (hb:Below W.heap.size W X)=>show X.cell? ⟨G.p,2,none⟩=O (M G.gr 64 64)/\X.cell? ⟨G.gr,17,none⟩=O (Ψ (wd h.rt 17:Nat))from by
  have q:=(HW0.below hb).root (i:=17) δ;exact⟨q.1,q.2.1⟩)
 have ix17: ∀W,(Instr.indexAt 44 (M G.gr 64 64) (I 17)).run prog W= .ok (Θ G.gr 17) W:=(H.root (i:=17) δ).2.2
 have HAl:=hid (fun X (hb:Below W.heap.size W X)=>show Calls prog 12 #[E G.p,Ψ (wd h.rt 17:Nat),I 3,I (1+(m:Int))] X fun e w'=>e=Rt #[Ψ 0,I 4]/\Below X.heap.size X w' from by
  have:=sQ (HW0.below hb) (wd h.rt 17) (1+m) ω hcl ω;rw[Int.natCast_add]at this;exact this)
 generalize wd h.rt 17=r17 at*
 generalize signed neg (val l)=z at*
 obtain⟨bx,hbx⟩:=ξ w.heap.size;have hW0:=hW;rw[<-hbx]at r0 HR0 c0 c1;have HBX:=hid hbx;clear hc hm hs H HW0 hf hcl hbx;go_enter func9,ntmps9;go_wp2_with fail;rw[<-HWe.out,<-HBX.out];refine(HSm.out).mono ?_;rintro e V ⟨⟨v,b,rfl,hb1,-⟩,hbV⟩;(try dsimp only);obtain rfl:=HT.out b hb1;clear HSm HWe HT hb1 c0 c1;go_wp2_with fail;refine bM (fun Y=>Below V V Y) κ κ (Below.refl _ _).drew ?_;show dH _ _ _ _ [_,_,_,_,_,_,_,_,_,_,_,_,_,_,_,_,_] _
 refine aP 21 (E G.p) rfl κ (fun Y hC=>by go_simp) ?_;simp only[Act.put,zA,zB,zC];refine aP 22 (E G.p) rfl κ (fun Y hC=>by go_simp) ?_;simp only[Act.put,zA,zB,zC];refine aP 23 (E G.p) rfl κ (fun Y hC=>by go_simp) ?_;simp only[Act.put,zA,zB,zC];refine aP 24 (Θ G.p 2) rfl κ (fun Y hC=>by go_simp) ?_;simp only[Act.put,zA,zB,zC];refine aP 25 (M G.gr 64 64) rfl κ (fun Y hC=>by obtain⟨y0,y1⟩:=HRt.out Y (hbV.trans (hC.mono hbV.size));go_simp) ?_;simp only[Act.put,zA,zB,zC];refine aP 26 (Θ G.gr 17) rfl κ (fun Y hC=>by go_simp) ?_;simp only[Act.put,zA,zB,zC];refine aP 27 (Ψ (r17:Nat)) rfl κ (fun Y hC=>by obtain⟨y0,y1⟩:=HRt.out Y (hbV.trans (hC.mono hbV.size));go_simp) ?_;simp only[Act.put,zA,zB,zC];refine aP 28 (Θ bx 1) rfl κ (fun Y hC=>by go_simp) ?_;simp only[Act.put,zA,zB,zC];refine aP 29 (.slice a m cap) rfl κ (fun Y hC=>by obtain⟨c0,c1⟩:=HR0.out Y (hbV.trans (hC.mono hbV.size));go_simp) ?_;simp only[Act.put,zA,zB,zC];refine aP 30 (I m) rfl κ (fun Y hC=>by go_simp) ?_;simp only[Act.put,zA,zB,zC];refine aP 31 (I (1+(m:Int))) rfl κ (fun Y hC=>by go_simp;(first |done|exact aF ω ω|omega)) ?_;simp only[Act.put,zA,zB,zC];refine aP 32 (.tuple #[Ψ 0,I 4]) rfl κ (fun Y hC=>by go_simp;exact(HAl.out Y (hbV.trans (hC.mono hbV.size))).mono fun e w' ⟨x,y⟩=>⟨x,hC.trans (y.mono hC.size)⟩) ?_;simp only[Act.put,zA,zB,zC];refine aP 20 (.tuple #[Ψ 0,I 4]) rfl κ (fun Y hC=>by go_simp) ?_;simp only[Act.put,zA,zB,zC];refine aP 33 (Ψ 0) rfl κ (fun Y hC=>by go_simp) ?_;simp only[Act.put,zA,zB,zC];refine aP 34 (I 4) rfl κ (fun Y hC=>by go_simp) ?_;simp only[Act.put,zA,zB,zC];refine aP 8 (Ψ 0) rfl κ (fun Y hC=>by go_simp) ?_;simp only[Act.put,zA,zB,zC];refine aP 9 (I 4) rfl κ (fun Y hC=>by go_simp) ?_;simp only[Act.put,zA,zB,zC];refine dq ?_;intro V2 hb2;have HFin:=hid (hW.trans ((hbV.trans (hb2.mono hbV.size)).mono hW.size));clear hb2 hbV HAl HRt HR0 r0 hW hW0 HBX;go_wp2_with fail;go_ret2;exact⟨rfl,HFin.out⟩
end
namespace Limb
def mkI(h:Hp)(z:Int):Nat×Nat×Hp:=
 if bC z then(dE z,0,h)else
  match aW h (wd h.rt 17) 3 (1+(rep z.natAbs).length)with
  |some (o,h1)=>(o,0,mkH h1 o (decide (z<0)) (rep z.natAbs))
  |none=>(0,4,h)
def mkT(h:Hp)(t:List UInt8):Nat×Nat×Hp:=
 match fK h (wd h.rt 19) (t.map UInt8.toNat)with
 |some (o,h1)=>(o,0,h1)
 |none=>(0,4,h)
def iP(m:Nat×Nat×Hp):Nat×Nat×Hp:=(if m.2.1=0 then m.1 else 0,if m.2.1=0 then 1 else if m.2.1=4 then 2 else 0,m.2.2)
theorem nY{h:Hp}{c f n:Nat}(d:cU h c=true)(e:h.last≠4294967295)(b:aW h c f n=none):h.size<h.ws.length+3+n:=by
 unfold aW at b;split at b
 ·cases b
 ·rename_i a;rw[d,Bool.true_and]at a;unfold de at a;rw[decide_eq_true e,Bool.and_true,decide_eq_true_eq]at a;omega
theorem qt{h:Hp}{c:Nat}{t:List Nat}(d:cU h c=true)(e:h.last≠4294967295)(b:fK h c t=none):h.size<h.ws.length+3+(t.length+3)/4:=by
 unfold fK at b;split at b
 ·cases b
 ·rename_i a;rw[d,Bool.true_and]at a;unfold de at a;rw[decide_eq_true e,Bool.and_true,decide_eq_true_eq]at a;omega
end Limb
theorem In.came{w:World}{z:Int}{a:Option Addr}{n:Nat}(h:In w z a n):Came w (decide (z<0)) a n (rep z.natAbs):=⟨h.lay,aB _,h.len,h.b63⟩
structure Fine (h:Hp):Prop where
 c17:isO h (wd h.rt 17)=true
 c19:isO h (wd h.rt 19)=true
 last:h.last≠4294967295
section
variable {w:World} {F:Foot} {G:RFoot} {h:Hp}
theorem Moved.same(H:HeapAt w F h){w':World}(a:Below w w w'):Moved w F w' h:=⟨F,(Step.refl H).below a⟩
theorem tX(H:HeapAt w F h)(k:Fine h){z:Int}{a:Option Addr}{n c:Nat}(b:In w z a n)(i:0<(rep z.natAbs).length->∀q f,a=some ⟨q,f,none⟩->q∉F.l):Calls prog 8 #[E F.p,Ω (decide (z<0)) a n c] w fun e w'=>e=Rt #[Ψ (mkI h z).1,I (mkI h z).2.1]/\Moved w F w' (mkI h z).2.2:=by
 have hs:=aZ z;unfold mkI
 cases hm:bC z with
 |true=>
  have:=lR w (decide (z<0)) a _ n c F.p b.came b.may (by rw[hs];exact hm);rw[hs]at this;exact this.mono fun e w' ⟨x,y⟩=>⟨x,Moved.same H y⟩
 |false=>
  have d:bC (signed (decide (z<0)) (val (rep z.natAbs)))=false:=(by rw[hs];exact hm);rw[if_neg δ]
  cases hp:aW h (wd h.rt 17) 3 (1+(rep z.natAbs).length)with
  |some x=>
   obtain⟨o,h1⟩:=x;exact vE H (decide (z<0)) a _ n c b.came i b.may d b.le o h1 (by rw[b.len];exact hp)
  |none=>
   have hf:=nY (bN k.c17) k.last hp;exact(mR H (decide (z<0)) a _ n c b.came b.may d b.le (bN k.c17) (by rw[b.len];exact hf)).mono fun e w' ⟨x,y⟩=>⟨x,Moved.same H y⟩
theorem qP(H:HeapAt w F h)(k:Fine h){z:Int}{a:Option Addr}{n c B:Nat}(i:In w z a n)(j:CapB B a n c)(l: ∀g∈F.l,g<B):Calls prog 8 #[E F.p,Ω (decide (z<0)) a n c] w fun e w'=>e=Rt #[Ψ (mkI h z).1,I (mkI h z).2.1]/\Moved w F w' (mkI h z).2.2:=
 tX H k i (fun _ b d e f=>by have:=j.2 b d e;have:=l b f;omega)
theorem RMoved.same(H:RefAt w G h){w':World}(a:Below w w w'):RMoved w G w' h:=⟨G,RStep.same H a⟩
theorem uZ(H:RefAt w G h)(i:5<=w.heap.size)(k:Fine h){z:Int}{a:Option Addr}{n c:Nat}(b:In w z a n)(j:0<(rep z.natAbs).length->∀q f,a=some ⟨q,f,none⟩->q∉G.l):Calls prog 9 #[E G.p,Ω (decide (z<0)) a n c] w fun e w'=>e=Rt #[Ψ (mkI h z).1,I (mkI h z).2.1]/\RMoved w G w' (mkI h z).2.2:=by
 have hs:=aZ z;unfold mkI
 cases hm:bC z with
 |true=>
  have:=nT w (decide (z<0)) a _ n c G.p b.came b.may (by rw[hs];exact hm);rw[hs]at this;exact this.mono fun e w' ⟨x,y⟩=>⟨x,RMoved.same H y⟩
 |false=>
  have d:bC (signed (decide (z<0)) (val (rep z.natAbs)))=false:=(by rw[hs];exact hm);rw[if_neg δ]
  cases hp:aW h (wd h.rt 17) 3 (1+(rep z.natAbs).length)with
  |some x=>
   obtain⟨o,h1⟩:=x;exact BF H i (decide (z<0)) a _ n c b.came j b.may d b.le o h1 (by rw[b.len];exact hp)
  |none=>
   have hf:=nY (bN k.c17) k.last hp;exact(pD H (decide (z<0)) a _ n c b.came b.may d b.le (bN k.c17) (by rw[b.len];exact hf)).mono fun e w' ⟨x,y⟩=>⟨x,RMoved.same H y⟩
theorem Ag(H:RefAt w G h)(i:5<=w.heap.size)(k:Fine h){z:Int}{a:Option Addr}{n c B:Nat}(j:In w z a n)(l:CapB B a n c)(m: ∀g∈G.l,g<B):Calls prog 9 #[E G.p,Ω (decide (z<0)) a n c] w fun e w'=>e=Rt #[Ψ (mkI h z).1,I (mkI h z).2.1]/\RMoved w G w' (mkI h z).2.2:=
 uZ H i k j (fun _ b d e f=>by have:=l.2 b d e;have:=m b f;omega)
theorem wk(H:HeapAt w F h)(k:Fine h){a:Option Addr}{s:ByteArray}{n c:Nat}(d:Lay .u8 w a (tx s))(p:n=s.size)(h0:0<n)(f:n<=262140):Calls prog 118 #[E F.p,Ψ (wd h.rt 19:Nat),.slice a n c] w fun e w'=>e=Rt #[Ψ (mkT h s.data.toList).1,I (mkT h s.data.toList).2.1]/\Moved w F w' (mkT h s.data.toList).2.2:=by
 have j:s.data.toList.map UInt8.toNat=tx s:=rfl;have b:n=(tx s).length:=by rw[cJ];exact p
 unfold mkT;rw[j]
 cases hp:fK h (wd h.rt 19) (tx s)with
 |some x=>
  obtain⟨o,h1⟩:=x;exact qj H (wd h.rt 19) a (tx s) n c o h1 d (jP s) b h0 f hp
 |none=>
  have hf:=qt (bN k.c19) k.last hp;exact(om H (wd h.rt 19) a (tx s) n c d (jP s) b h0 f (bN k.c19) (by rw[b];exact hf)).mono fun e w' ⟨x,y⟩=>⟨x,Moved.same H y⟩
theorem wO(H:RefAt w G h)(p:5<=w.heap.size)(k:Fine h){a:Option Addr}{s:ByteArray}{n c:Nat}(d:Lay .u8 w a (tx s))(q:n=s.size)(f:n<=262140):Calls prog 52 #[E G.p,Ψ (wd h.rt 19:Nat),.slice a n c] w fun e w'=>e=Rt #[Ψ (mkT h s.data.toList).1,I (mkT h s.data.toList).2.1]/\RMoved w G w' (mkT h s.data.toList).2.2:=by
 have j:s.data.toList.map UInt8.toNat=tx s:=rfl;have b:n=(tx s).length:=by rw[cJ];exact q
 unfold mkT;rw[j]
 cases hp:fK h (wd h.rt 19) (tx s)with
 |some x=>
  obtain⟨o,h1⟩:=x;exact CB H p (wd h.rt 19) a (tx s) n c o h1 d (jP s) b f hp
 |none=>
  have hf:=qt (bN k.c19) k.last hp;exact(v6 H (wd h.rt 19) a (tx s) n c d (jP s) b f (bN k.c19) (by rw[b];exact hf)).mono fun e w' ⟨x,y⟩=>⟨x,RMoved.same H y⟩
end
section
variable {w:World} {F:Foot} {h:Hp}
theorem Dz(H:HeapAt w F h)(h17:isO h (wd h.rt 17)=true)(k:Int)(v1 v2 v3:Value)(r q:Nat)(hr:r<4294967296)(hq:q<4294967296)(hk: ¬(rdC h r=0/\rdC h q=0)):Calls prog 49 #[.agg #[I k,v1,v2,v3],E F.p,Ψ r,Ψ q] w fun e w'=>e=Rt #[Ψ (0:Nat),I (0:Nat)]/\Below w w w':=by
 obtain⟨W,hW,r0,hB,hz⟩:=aA w 103 [I k,v1,v2,v3];have HW:=hid hW;have HR1:=hid (cW (H.below hB) r hr (h17));have HR2:=hid (fun X (hb:Below W W X)=>cW ((H.below hB).below hb) q hq h17);unfold cS at HR1 HR2;generalize rdN h r=b1 at*
 generalize rdN h q=b2 at*
 generalize rdL h r=t1 at*
 generalize rdL h q=t2 at*
 generalize rdC h r=k1 at*
 generalize rdC h q=k2 at*
 obtain⟨n1,hn1⟩: ∃n,n=t1.length:=⟨_,rfl⟩;obtain⟨n2,hn2⟩: ∃n,n=t2.length:=⟨_,rfl⟩;rw[<-hn1]at HR1;rw[<-hn2]at HR2;clear hn1 hn2 hW H h17 hr hq hz;go_enter func49,ntmps49;go_wp2_with fail;rw[<-HW.out];refine HR1.out.mono ?_;rintro e V1 ⟨a1,c1,rfl,l1,hb1,-⟩;(try dsimp only);obtain⟨X1,hX1,x1,hx1,hxs1⟩:=aA V1 24 [.bool b1,.slice a1 n1 c1];have hB1:=hb1.trans (hx1.mono hb1.size);have HX1:=hid hX1;have HR3:=hid (HR2.out X1 hB1);have l1:=l1.below hx1;clear hX1 HR1 HR2 hx1 hxs1 HW;go_wp2_with fail;rw[<-HX1.out];refine HR3.out.mono ?_;rintro e V2 ⟨a2,c2,rfl,l2,hb2,-⟩;(try dsimp only);obtain⟨X2,hX2,x2,hx2,hxs2⟩:=aA V2 24 [.bool b2,.slice a2 n2 c2];have HX2:=hid hX2;have hB2:=hB1.trans ((hb2.trans (hx2.mono hb2.size)).mono hB1.size);have l1:=(l1.below hb2).below hx2;have l2:=l2.below hx2;have x1:=(x1.below hb2 x1.lt).below hx2 (by have:=hb2.size;have:=x1.lt;omega);have yr:=r0.below hB2 r0.lt;clear hX2 hb1 hb2 hx2 hxs2 HR3 HX1 hB1;have HF:=hid (τ hB hB2);clear hB hB2 l1 l2 x1 x2 yr r0;by_cases e1:k1=0
 ·have e2: ¬k2=0:=fun e=>hk ⟨e1,e⟩
  subst e1;have d2:((k2:Int) != 0)=true:=by rw[bne_iff_ne];omega
  have d2':(k2 != 0)=true:=(by rw[bne_iff_ne];omega);have d3:((k2:Int)==0)=false:=nE
  have d3':(k2==0)=false:=nE;clear e2 hk;go_wp2_with fail;go_ret2;rw[<-HX2.out];exact⟨rfl,HF.out⟩
 ·have d2:((k1:Int) != 0)=true:=(by rw[bne_iff_ne];omega);have d2':(k1 != 0)=true:=by rw[bne_iff_ne];omega
  have d3:((k1:Int)==0)=false:=nE;have d3':(k1==0)=false:=nE
  clear e1 hk;go_wp2_with fail;go_ret2;rw[<-HX2.out];exact⟨rfl,HF.out⟩
theorem eV(H:HeapAt w F h)(k:Fine h)(kn:Int)(r q:Nat)(hr:r<4294967296)(hq:q<4294967296)(x y:Int)(k1:rdC h r=0)(k2:rdC h q=0)(hx:rdN h r=decide (x<0)/\rdL h r=rep x.natAbs/\(rep x.natAbs).length<=1024)(hy:rdN h q=decide (y<0)/\rdL h q=rep y.natAbs/\(rep y.natAbs).length<=1024)(f:FuncId)(j:Nat)(hf:(f=104/\j=27)∨(f=105/\j=28)∨(f=106/\j=29)∨(f=107/\j=30)∨(f=108/\j=31)∨(f=109/\j=32)):Calls prog 49 #[.agg #[I kn,.nilFunc,.func (.func f) #[] #[],.nilFunc],E F.p,Ψ r,Ψ q] w fun e w'=>e=Rt #[Ψ (wd h.rt (if opT j (fO x y)=true then 1 else 2):Nat),I (1:Nat)]/\Below w.heap.size w w':=by
 obtain⟨i,hi⟩:=ξ (if opT j (fO x y)=true then 1 else 2);rw[<-hi];have HIe:=hid hi;clear hi;have h17:=k.c17;obtain⟨W,hW,r0,hB,hz⟩:=aA w 103 [I kn,.nilFunc,.func (.func f) #[] #[],.nilFunc];have HW:=hid hW;have HR1:=hid (cW (H.below hB) r hr (h17));have HR2:=hid (fun X (hb:Below W W X)=>cW ((H.below hB).below hb) q hq h17);unfold cS at HR1 HR2;rw[k1,hx.1,hx.2.1]at HR1;rw[k2,hy.1,hy.2.1]at HR2;have HIn1:=hid (fun X a (l:Lay .u32 X a (rep x.natAbs))=>show In X x a (rep x.natAbs).length from⟨rfl,hx.2.2,l⟩);have HIn2:=hid (fun X a (l:Lay .u32 X a (rep y.natAbs))=>show In X y a (rep y.natAbs).length from⟨rfl,hy.2.2,l⟩);obtain⟨n1,hn1⟩: ∃n,n=(rep x.natAbs).length:=⟨_,rfl⟩;obtain⟨n2,hn2⟩: ∃n,n=(rep y.natAbs).length:=⟨_,rfl⟩;obtain⟨b1,hb1'⟩: ∃b,b=decide (x<0):=⟨_,rfl⟩;obtain⟨b2,hb2'⟩: ∃b,b=decide (y<0):=⟨_,rfl⟩;rw[<-hn1]at HR1 HIn1;rw[<-hn2]at HR2 HIn2;rw[<-hb1']at HR1;rw[<-hb2']at HR2;have HB1:=hid hb1';have HB2:=hid hb2';have HK:=hid k;have HH:=hid H;have HHW:=hid (H.below hB);have hlt:=H.lt;have HLT:=hid hlt;clear hn1 hn2 hb1' hb2' hW H h17 hr hq hz k1 k2 hx hy k hlt;go_enter func49,ntmps49;go_wp2_with fail;rw[<-HW.out];refine HR1.out.mono ?_;rintro e V1 ⟨a1,c1,rfl,l1,hb1,-⟩;(try dsimp only);obtain⟨X1,hX1,x1,hx1,hxs1⟩:=aA V1 24 [.bool b1,.slice a1 n1 c1];have hB1:=hb1.trans (hx1.mono hb1.size);have HX1:=hid hX1;have HR3:=hid (HR2.out X1 hB1);have l1:=l1.below hx1;clear hX1 HR1 HR2 hx1 hxs1 HW;go_wp2_with fail;rw[<-HX1.out];refine HR3.out.mono ?_;rintro e V2 ⟨a2,c2,rfl,l2,hb2,-⟩;(try dsimp only);obtain⟨X2,hX2,x2,hx2,hxs2⟩:=aA V2 24 [.bool b2,.slice a2 n2 c2];have HX2:=hid hX2;have hB2:=hB1.trans ((hb2.trans (hx2.mono hb2.size)).mono hB1.size);have l1:=(l1.below hb2).below hx2;have l2:=l2.below hx2;have x1:=(x1.below hb2 x1.lt).below hx2 (by have:=hb2.size;have:=x1.lt;omega);have yr:=r0.below hB2 r0.lt;clear hX2 hb1 hb2 hx2 hxs2 HR3 HX1 hB1;have HI1:=hid (HIn1.out X2 a1 l1);have HI2:=hid (HIn2.out X2 a2 l2);obtain⟨z0,z1⟩:=x1.two;obtain⟨u0,u1⟩:=x2.two;have y1:=yr.ae 1;have y2:=yr.ae 2;have y3:=yr.ae 3;simp only[yB,yC]at y1 y2 y3;have HBw:=hid (τ hB hB2);have HB0:=hid hB2;clear l1 l2 x1 x2 r0 hB2 HIn1 HIn2
 have HCmp:=hid (show Calls prog 116 #[Ω b1 a1 n1 c1,Ω b2 a2 n2 c2] X2 fun e w'=>e=Rt #[I (fO x y),I 0]/\Below X2 X2 w' from by
  rw[HB1.out,HB2.out];have h1:=HI1.out;have h2:=HI2.out;have:=pv X2 (decide (x<0)) (decide (y<0)) a1 a2 _ _ n1 n2 c1 c2 h1.lay h2.lay (aB _) (aB _) h1.len h2.len h1.b63 h2.b63;rw[aZ,aZ,h1.may,h2.may]at this;exact this)
 have HRt:=hid (fun X (hb:Below X2 X2 X) (i:Nat) (hi:i<64)=>dM ((HHW.out.below HB0.out).below hb) i hi);generalize fO x y=cv at*
 have HYs:=hid (fun X (hb:Below X2 X2 X)=>show X.cell? ⟨w.heap.size,2,none⟩=some (.func (.func f) #[] #[])from by
  have:=(yr.below hb yr.lt).ae 2;exact this)
 clear yr hB HI1 HI2 HB1 HB2 HH HHW HB0 HLT HK;rcases hf with⟨rfl,rfl⟩|⟨rfl,rfl⟩|⟨rfl,rfl⟩|⟨rfl,rfl⟩|⟨rfl,rfl⟩|⟨rfl,rfl⟩
 ·have HFn:=hid (fun X=>Ac (w:=X) cv);have hne: ∀X,Sem.run prog (binOp .neq 100 (.func (.func 104) #[] #[]) .nilFunc) X= .ok (.bool true) X:=fun X=>κ
  generalize opT 27 cv=tv at*
  go_upto_if 39 with fail
  rw[<-HX2.out];go_wp2_with fail;refine HCmp.out.mono ?_;rintro e V ⟨rfl,hb⟩;(try dsimp only);have y2:=HYs.out V hb;have HRt1:=hid (HRt.out V hb);have HBV:=hid (HBw.out.trans (hb.mono HBw.out.size));clear hb HRt HYs HCmp HBw HX2 z0 z1 u0 u1 y1 y3;go_wp2_with fail;refine(HFn.out V).mono ?_;rintro e V' ⟨rfl,rfl⟩;(try dsimp only);cases tv with
  |true=>
   obtain rfl:i=1:=HIe.out.trans rfl;have HRt2:=hid (HRt1.out 1 δ);clear HRt1 HFn HIe;go_wp2_with fail;refine HRt2.out.mono ?_;rintro e V' ⟨rfl,rfl⟩;(try dsimp only);go_wp2_with fail;refine(dw (w:=V) (wd h.rt 1) 0).mono ?_;rintro e V' ⟨rfl,rfl⟩;(try dsimp only);go_wp2_with fail;go_ret2;exact⟨rfl,HBV.out⟩
  |false=>
   obtain rfl:i=2:=HIe.out.trans rfl;have HRt2:=hid (HRt1.out 2 δ);clear HRt1 HFn HIe;go_wp2_with fail;refine HRt2.out.mono ?_;rintro e V' ⟨rfl,rfl⟩;(try dsimp only);go_wp2_with fail;refine(dw (w:=V) (wd h.rt 2) 0).mono ?_;rintro e V' ⟨rfl,rfl⟩;(try dsimp only);go_wp2_with fail;go_ret2;exact⟨rfl,HBV.out⟩
 ·have HFn:=hid (fun X=>A0 (w:=X) cv);have hne: ∀X,Sem.run prog (binOp .neq 100 (.func (.func 105) #[] #[]) .nilFunc) X= .ok (.bool true) X:=fun X=>κ
  generalize opT 28 cv=tv at*
  go_upto_if 39 with fail
  rw[<-HX2.out];go_wp2_with fail;refine HCmp.out.mono ?_;rintro e V ⟨rfl,hb⟩;(try dsimp only);have y2:=HYs.out V hb;have HRt1:=hid (HRt.out V hb);have HBV:=hid (HBw.out.trans (hb.mono HBw.out.size));clear hb HRt HYs HCmp HBw HX2 z0 z1 u0 u1 y1 y3;go_wp2_with fail;refine(HFn.out V).mono ?_;rintro e V' ⟨rfl,rfl⟩;(try dsimp only);cases tv with
  |true=>
   obtain rfl:i=1:=HIe.out.trans rfl;have HRt2:=hid (HRt1.out 1 δ);clear HRt1 HFn HIe;go_wp2_with fail;refine HRt2.out.mono ?_;rintro e V' ⟨rfl,rfl⟩;(try dsimp only);go_wp2_with fail;refine(dw (w:=V) (wd h.rt 1) 0).mono ?_;rintro e V' ⟨rfl,rfl⟩;(try dsimp only);go_wp2_with fail;go_ret2;exact⟨rfl,HBV.out⟩
  |false=>
   obtain rfl:i=2:=HIe.out.trans rfl;have HRt2:=hid (HRt1.out 2 δ);clear HRt1 HFn HIe;go_wp2_with fail;refine HRt2.out.mono ?_;rintro e V' ⟨rfl,rfl⟩;(try dsimp only);go_wp2_with fail;refine(dw (w:=V) (wd h.rt 2) 0).mono ?_;rintro e V' ⟨rfl,rfl⟩;(try dsimp only);go_wp2_with fail;go_ret2;exact⟨rfl,HBV.out⟩
 ·have HFn:=hid (fun X=>A9 (w:=X) cv);have hne: ∀X,Sem.run prog (binOp .neq 100 (.func (.func 106) #[] #[]) .nilFunc) X= .ok (.bool true) X:=fun X=>κ
  generalize opT 29 cv=tv at*
  go_upto_if 39 with fail
  rw[<-HX2.out];go_wp2_with fail;refine HCmp.out.mono ?_;rintro e V ⟨rfl,hb⟩;(try dsimp only);have y2:=HYs.out V hb;have HRt1:=hid (HRt.out V hb);have HBV:=hid (HBw.out.trans (hb.mono HBw.out.size));clear hb HRt HYs HCmp HBw HX2 z0 z1 u0 u1 y1 y3;go_wp2_with fail;refine(HFn.out V).mono ?_;rintro e V' ⟨rfl,rfl⟩;(try dsimp only);cases tv with
  |true=>
   obtain rfl:i=1:=HIe.out.trans rfl;have HRt2:=hid (HRt1.out 1 δ);clear HRt1 HFn HIe;go_wp2_with fail;refine HRt2.out.mono ?_;rintro e V' ⟨rfl,rfl⟩;(try dsimp only);go_wp2_with fail;refine(dw (w:=V) (wd h.rt 1) 0).mono ?_;rintro e V' ⟨rfl,rfl⟩;(try dsimp only);go_wp2_with fail;go_ret2;exact⟨rfl,HBV.out⟩
  |false=>
   obtain rfl:i=2:=HIe.out.trans rfl;have HRt2:=hid (HRt1.out 2 δ);clear HRt1 HFn HIe;go_wp2_with fail;refine HRt2.out.mono ?_;rintro e V' ⟨rfl,rfl⟩;(try dsimp only);go_wp2_with fail;refine(dw (w:=V) (wd h.rt 2) 0).mono ?_;rintro e V' ⟨rfl,rfl⟩;(try dsimp only);go_wp2_with fail;go_ret2;exact⟨rfl,HBV.out⟩
 ·have HFn:=hid (fun X=>Ak (w:=X) cv);have hne: ∀X,Sem.run prog (binOp .neq 100 (.func (.func 107) #[] #[]) .nilFunc) X= .ok (.bool true) X:=fun X=>κ
  generalize opT 30 cv=tv at*
  go_upto_if 39 with fail
  rw[<-HX2.out];go_wp2_with fail;refine HCmp.out.mono ?_;rintro e V ⟨rfl,hb⟩;(try dsimp only);have y2:=HYs.out V hb;have HRt1:=hid (HRt.out V hb);have HBV:=hid (HBw.out.trans (hb.mono HBw.out.size));clear hb HRt HYs HCmp HBw HX2 z0 z1 u0 u1 y1 y3;go_wp2_with fail;refine(HFn.out V).mono ?_;rintro e V' ⟨rfl,rfl⟩;(try dsimp only);cases tv with
  |true=>
   obtain rfl:i=1:=HIe.out.trans rfl;have HRt2:=hid (HRt1.out 1 δ);clear HRt1 HFn HIe;go_wp2_with fail;refine HRt2.out.mono ?_;rintro e V' ⟨rfl,rfl⟩;(try dsimp only);go_wp2_with fail;refine(dw (w:=V) (wd h.rt 1) 0).mono ?_;rintro e V' ⟨rfl,rfl⟩;(try dsimp only);go_wp2_with fail;go_ret2;exact⟨rfl,HBV.out⟩
  |false=>
   obtain rfl:i=2:=HIe.out.trans rfl;have HRt2:=hid (HRt1.out 2 δ);clear HRt1 HFn HIe;go_wp2_with fail;refine HRt2.out.mono ?_;rintro e V' ⟨rfl,rfl⟩;(try dsimp only);go_wp2_with fail;refine(dw (w:=V) (wd h.rt 2) 0).mono ?_;rintro e V' ⟨rfl,rfl⟩;(try dsimp only);go_wp2_with fail;go_ret2;exact⟨rfl,HBV.out⟩
 ·have HFn:=hid (fun X=>yz (w:=X) cv);have hne: ∀X,Sem.run prog (binOp .neq 100 (.func (.func 108) #[] #[]) .nilFunc) X= .ok (.bool true) X:=fun X=>κ
  generalize opT 31 cv=tv at*
  go_upto_if 39 with fail
  rw[<-HX2.out];go_wp2_with fail;refine HCmp.out.mono ?_;rintro e V ⟨rfl,hb⟩;(try dsimp only);have y2:=HYs.out V hb;have HRt1:=hid (HRt.out V hb);have HBV:=hid (HBw.out.trans (hb.mono HBw.out.size));clear hb HRt HYs HCmp HBw HX2 z0 z1 u0 u1 y1 y3;go_wp2_with fail;refine(HFn.out V).mono ?_;rintro e V' ⟨rfl,rfl⟩;(try dsimp only);cases tv with
  |true=>
   obtain rfl:i=1:=HIe.out.trans rfl;have HRt2:=hid (HRt1.out 1 δ);clear HRt1 HFn HIe;go_wp2_with fail;refine HRt2.out.mono ?_;rintro e V' ⟨rfl,rfl⟩;(try dsimp only);go_wp2_with fail;refine(dw (w:=V) (wd h.rt 1) 0).mono ?_;rintro e V' ⟨rfl,rfl⟩;(try dsimp only);go_wp2_with fail;go_ret2;exact⟨rfl,HBV.out⟩
  |false=>
   obtain rfl:i=2:=HIe.out.trans rfl;have HRt2:=hid (HRt1.out 2 δ);clear HRt1 HFn HIe;go_wp2_with fail;refine HRt2.out.mono ?_;rintro e V' ⟨rfl,rfl⟩;(try dsimp only);go_wp2_with fail;refine(dw (w:=V) (wd h.rt 2) 0).mono ?_;rintro e V' ⟨rfl,rfl⟩;(try dsimp only);go_wp2_with fail;go_ret2;exact⟨rfl,HBV.out⟩
 ·have HFn:=hid (fun X=>Ah (w:=X) cv);have hne: ∀X,Sem.run prog (binOp .neq 100 (.func (.func 109) #[] #[]) .nilFunc) X= .ok (.bool true) X:=fun X=>κ
  generalize opT 32 cv=tv at*
  go_upto_if 39 with fail
  rw[<-HX2.out];go_wp2_with fail;refine HCmp.out.mono ?_;rintro e V ⟨rfl,hb⟩;(try dsimp only);have y2:=HYs.out V hb;have HRt1:=hid (HRt.out V hb);have HBV:=hid (HBw.out.trans (hb.mono HBw.out.size));clear hb HRt HYs HCmp HBw HX2 z0 z1 u0 u1 y1 y3;go_wp2_with fail;refine(HFn.out V).mono ?_;rintro e V' ⟨rfl,rfl⟩;(try dsimp only);cases tv with
  |true=>
   obtain rfl:i=1:=HIe.out.trans rfl;have HRt2:=hid (HRt1.out 1 δ);clear HRt1 HFn HIe;go_wp2_with fail;refine HRt2.out.mono ?_;rintro e V' ⟨rfl,rfl⟩;(try dsimp only);go_wp2_with fail;refine(dw (w:=V) (wd h.rt 1) 0).mono ?_;rintro e V' ⟨rfl,rfl⟩;(try dsimp only);go_wp2_with fail;go_ret2;exact⟨rfl,HBV.out⟩
  |false=>
   obtain rfl:i=2:=HIe.out.trans rfl;have HRt2:=hid (HRt1.out 2 δ);clear HRt1 HFn HIe;go_wp2_with fail;refine HRt2.out.mono ?_;rintro e V' ⟨rfl,rfl⟩;(try dsimp only);go_wp2_with fail;refine(dw (w:=V) (wd h.rt 2) 0).mono ?_;rintro e V' ⟨rfl,rfl⟩;(try dsimp only);go_wp2_with fail;go_ret2;exact⟨rfl,HBV.out⟩
end
namespace Limb
def fP(h:Hp)(r:Option Int):Nat×Nat×Hp:=match r with |some z=>iP (mkI h z)|none=>(0,0,h)
def n9(h:Hp)(r:Option (List UInt8)):Nat×Nat×Hp:=match r with |some t=>iP (mkT h t)|none=>(0,0,h)
end Limb
section
variable {w:World} {F:Foot} {h:Hp}
theorem jo(H:HeapAt w F h)(k:Fine h)(kn:Int)(r q:Nat)(hr:r<4294967296)(hq:q<4294967296)(x y:Int)(k1:rdC h r=0)(k2:rdC h q=0)(hx:rdN h r=decide (x<0)/\rdL h r=rep x.natAbs/\(rep x.natAbs).length<=1024)(hy:rdN h q=decide (y<0)/\rdL h q=rep y.natAbs/\(rep y.natAbs).length<=1024)(f:FuncId)(hcf: ∀us X,Sem.run prog (callFunc f us) X= .ok (.enter f us) X)(res:Option Int)(HF: ∀X a1 c1 a2 c2,Below w.heap.size w X->In X x a1 (rep x.natAbs).length->In X y a2 (rep y.natAbs).length->Calls prog f #[Ω (decide (x<0)) a1 (rep x.natAbs).length c1,Ω (decide (y<0)) a2 (rep y.natAbs).length c2] X fun e X'=>VRes res X X' e):Calls prog 49 #[.agg #[I kn,.func (.func f) #[] #[],.nilFunc,.nilFunc],E F.p,Ψ r,Ψ q] w fun e w'=>e=Rt #[Ψ (fP h res).1,I (fP h res).2.1]/\Moved w F w' (fP h res).2.2:=by
 obtain⟨o0,k0,h0,hd⟩: ∃o0 k0 h0,fP h res=(o0,k0,h0):=⟨_,_,_,rfl⟩;rw[hd];have HD:=hid hd;clear hd;have h17:=k.c17;obtain⟨W,hW,r0,hB,hz⟩:=aA w 103 [I kn,.func (.func f) #[] #[],.nilFunc,.nilFunc];have HW:=hid hW;have HR1:=hid (cW (H.below hB) r hr (h17));have HR2:=hid (fun X (hb:Below W W X)=>cW ((H.below hB).below hb) q hq h17);unfold cS at HR1 HR2;rw[k1,hx.1,hx.2.1]at HR1;rw[k2,hy.1,hy.2.1]at HR2;have HIn1:=hid (fun X a (l:Lay .u32 X a (rep x.natAbs))=>show In X x a (rep x.natAbs).length from⟨rfl,hx.2.2,l⟩);have HIn2:=hid (fun X a (l:Lay .u32 X a (rep y.natAbs))=>show In X y a (rep y.natAbs).length from⟨rfl,hy.2.2,l⟩);obtain⟨n1,hn1⟩: ∃n,n=(rep x.natAbs).length:=⟨_,rfl⟩;obtain⟨n2,hn2⟩: ∃n,n=(rep y.natAbs).length:=⟨_,rfl⟩;obtain⟨b1,hb1'⟩: ∃b,b=decide (x<0):=⟨_,rfl⟩;obtain⟨b2,hb2'⟩: ∃b,b=decide (y<0):=⟨_,rfl⟩;rw[<-hn1]at HR1 HIn1;rw[<-hn2]at HR2 HIn2;rw[<-hb1']at HR1;rw[<-hb2']at HR2;rw[<-hn1,<-hn2,<-hb1',<-hb2']at HF;have HB1:=hid hb1';have HB2:=hid hb2';have HK:=hid k;have HH:=hid H;have HHW:=hid (H.below hB);have hlt:=H.lt;have HLT:=hid hlt;clear hn1 hn2 hb1' hb2' hW H h17 hr hq hz k1 k2 hx hy k hlt;go_enter func49,ntmps49;go_wp2_with fail;rw[<-HW.out];refine HR1.out.mono ?_;rintro e V1 ⟨a1,c1,rfl,l1,hb1,-⟩;(try dsimp only);obtain⟨X1,hX1,x1,hx1,hxs1⟩:=aA V1 24 [.bool b1,.slice a1 n1 c1];have hB1:=hb1.trans (hx1.mono hb1.size);have HX1:=hid hX1;have HR3:=hid (HR2.out X1 hB1);have l1:=l1.below hx1;clear hX1 HR1 HR2 hx1 hxs1 HW;go_wp2_with fail;rw[<-HX1.out];refine HR3.out.mono ?_;rintro e V2 ⟨a2,c2,rfl,l2,hb2,-⟩;(try dsimp only);obtain⟨X2,hX2,x2,hx2,hxs2⟩:=aA V2 24 [.bool b2,.slice a2 n2 c2];have HX2:=hid hX2;have hB2:=hB1.trans ((hb2.trans (hx2.mono hb2.size)).mono hB1.size);have l1:=(l1.below hb2).below hx2;have l2:=l2.below hx2;have x1:=(x1.below hb2 x1.lt).below hx2 (by have:=hb2.size;have:=x1.lt;omega);have yr:=r0.below hB2 r0.lt;clear hX2 hb1 hb2 hx2 hxs2 HR3 HX1 hB1;have HI1:=hid (HIn1.out X2 a1 l1);have HI2:=hid (HIn2.out X2 a2 l2);obtain⟨z0,z1⟩:=x1.two;obtain⟨u0,u1⟩:=x2.two;have y1:=yr.ae 1;have y2:=yr.ae 2;have y3:=yr.ae 3;simp only[yB,yC]at y1 y2 y3;have HBw:=hid (τ hB hB2);have HFn:=hid (HF X2 a1 c1 a2 c2 HBw.out HI1.out HI2.out);have HB0:=hid hB2;clear l1 l2 x1 x2 r0 hB2 HIn1 HIn2 HF hB yr HB1 HB2 HI1 HI2;have hne1: ∀X,Sem.run prog (binOp .neq 100 .nilFunc .nilFunc) X= .ok (.bool false) X:=fun X=>κ
 have hne2: ∀X,Sem.run prog (binOp .neq 101 .nilFunc .nilFunc) X= .ok (.bool false) X:=fun X=>κ
 go_upto_if 39 with fail
 rw[<-HX2.out];go_wp2_with fail;refine HFn.out.mono ?_;rintro e V ⟨b,a,n,c,kk,rfl,HV,hb⟩;(try dsimp only);have HBV:=hid (HBw.out.trans (hb.mono HBw.out.size));have HHV:=hid ((HHW.out.below HB0.out).below hb);obtain⟨B,hB⟩:=ξ X2.heap.size;rw[<-hB]at HV;have HLB:=hid (show∀g∈F.l,g<B from fun g hg=>by have:=HLT.out g hg;have:=HBw.out.size;omega);obtain⟨X4,hX4,x4,hx4,hxs4⟩:=aA V 24 [.bool b,.slice a n c];have HX4:=hid hX4;obtain⟨t0,t1⟩:=x4.two;have HH4:=hid (HHV.out.below hx4);have HB4:=hid (HBV.out.trans (hx4.mono HBV.out.size));clear hX4 hb hB HFn z0 z1 u0 u1 y1 y2 y3 hne1 hne2 HX2 HBw HB0 HHW HLT HBV;cases res with
 |none=>
  obtain⟨rfl,rfl,rfl⟩:o0=0/\k0=0/\h0=h:=(by have:=HD.out;cases this;exact⟨rfl,rfl,rfl⟩);have hk:kk≠0:=HV.out;have d:(kk != 0)=true:=by rw[bne_iff_ne];exact hk
  have HM:=hid (Moved.same HH.out HB4.out);clear hk HV HH4 HB4 HHV HK HH HLB hx4 x4 hxs4;go_wp2_with fail;go_ret2;rw[<-HX4.out];exact⟨rfl,HM.out⟩
 |some z=>
  obtain⟨rfl,hb0,hc,hin⟩:=HV.out;have hm:=qP (c:=c) HH4.out HK.out (hin.below hx4) hc HLB.out;rw[<-hb0]at hm;have HM:=hid hm;clear HV hb0 hc hin hm HHV HK HLB hx4 x4 hxs4 HH4;have hd:=HD.out;rw[(φ:fP h (some z)=iP (mkI h z))]at hd;unfold iP at hd;generalize mkI h z=m at*
  obtain⟨o,ko,h'⟩:=m;simp only[Prod.mk.injEq]at hd;obtain⟨d1,d2,rfl⟩:=hd;have HMd:=hid (fun X=>show Calls prog 117 #[Ψ (o:Nat),I (ko:Nat)] X fun e w'=>e=Rt #[Ψ (o0:Nat),I (k0:Nat)]/\X=w' from by have:=dw (w:=X) o ko;rw[d1,d2]at this;exact this);clear HD d1 d2;go_upto_region 18 with fail
  rw[<-HX4.out];go_wp2_with fail;refine HM.out.mono ?_;rintro e U ⟨rfl,F',hs⟩;(try dsimp only);have HS:=hid (show Moved w F U h' from⟨F',Step.of_below HB4.out hs⟩);clear hs HM HH HB4 HX4 t0 t1;go_wp2_with fail;refine(HMd.out U).mono ?_;rintro e V' ⟨rfl,rfl⟩;(try dsimp only);go_wp2_with fail;go_ret2;exact⟨rfl,HS.out⟩
theorem cR(H:HeapAt w F h)(k:Fine h)(kn:Int)(r q:Nat)(hr:r<4294967296)(hq:q<4294967296)(x y:Int)(k1:rdC h r=0)(k2:rdC h q=0)(hx:rdN h r=decide (x<0)/\rdL h r=rep x.natAbs/\(rep x.natAbs).length<=1024)(hy:rdN h q=decide (y<0)/\rdL h q=rep y.natAbs/\(rep y.natAbs).length<=1024)(f:FuncId)(p:Nat)(hcf: ∀us X,Sem.run prog (callFunc f us) X= .ok (.enter f us) X)(res:Option Int)(HF: ∀X a1 c1 a2 c2,Below w.heap.size w X->In X x a1 (rep x.natAbs).length->In X y a2 (rep y.natAbs).length->Calls prog f #[Ω (decide (x<0)) a1 (rep x.natAbs).length c1,Ω (decide (y<0)) a2 (rep y.natAbs).length c2,E p] X fun e X'=>VRes res X X' e):Calls prog 49 #[.agg #[I kn,.func (.func f) #[] #[E p],.nilFunc,.nilFunc],E F.p,Ψ r,Ψ q] w fun e w'=>e=Rt #[Ψ (fP h res).1,I (fP h res).2.1]/\Moved w F w' (fP h res).2.2:=by
 obtain⟨o0,k0,h0,hd⟩: ∃o0 k0 h0,fP h res=(o0,k0,h0):=⟨_,_,_,rfl⟩;rw[hd];have HD:=hid hd;clear hd;have h17:=k.c17;obtain⟨W,hW,r0,hB,hz⟩:=aA w 103 [I kn,.func (.func f) #[] #[E p],.nilFunc,.nilFunc];have HW:=hid hW;have HR1:=hid (cW (H.below hB) r hr (h17));have HR2:=hid (fun X (hb:Below W W X)=>cW ((H.below hB).below hb) q hq h17);unfold cS at HR1 HR2;rw[k1,hx.1,hx.2.1]at HR1;rw[k2,hy.1,hy.2.1]at HR2;have HIn1:=hid (fun X a (l:Lay .u32 X a (rep x.natAbs))=>show In X x a (rep x.natAbs).length from⟨rfl,hx.2.2,l⟩);have HIn2:=hid (fun X a (l:Lay .u32 X a (rep y.natAbs))=>show In X y a (rep y.natAbs).length from⟨rfl,hy.2.2,l⟩);obtain⟨n1,hn1⟩: ∃n,n=(rep x.natAbs).length:=⟨_,rfl⟩;obtain⟨n2,hn2⟩: ∃n,n=(rep y.natAbs).length:=⟨_,rfl⟩;obtain⟨b1,hb1'⟩: ∃b,b=decide (x<0):=⟨_,rfl⟩;obtain⟨b2,hb2'⟩: ∃b,b=decide (y<0):=⟨_,rfl⟩;rw[<-hn1]at HR1 HIn1;rw[<-hn2]at HR2 HIn2;rw[<-hb1']at HR1;rw[<-hb2']at HR2;rw[<-hn1,<-hn2,<-hb1',<-hb2']at HF;have HB1:=hid hb1';have HB2:=hid hb2';have HK:=hid k;have HH:=hid H;have HHW:=hid (H.below hB);have hlt:=H.lt;have HLT:=hid hlt;clear hn1 hn2 hb1' hb2' hW H h17 hr hq hz k1 k2 hx hy k hlt;go_enter func49,ntmps49;go_wp2_with fail;rw[<-HW.out];refine HR1.out.mono ?_;rintro e V1 ⟨a1,c1,rfl,l1,hb1,-⟩;(try dsimp only);obtain⟨X1,hX1,x1,hx1,hxs1⟩:=aA V1 24 [.bool b1,.slice a1 n1 c1];have hB1:=hb1.trans (hx1.mono hb1.size);have HX1:=hid hX1;have HR3:=hid (HR2.out X1 hB1);have l1:=l1.below hx1;clear hX1 HR1 HR2 hx1 hxs1 HW;go_wp2_with fail;rw[<-HX1.out];refine HR3.out.mono ?_;rintro e V2 ⟨a2,c2,rfl,l2,hb2,-⟩;(try dsimp only);obtain⟨X2,hX2,x2,hx2,hxs2⟩:=aA V2 24 [.bool b2,.slice a2 n2 c2];have HX2:=hid hX2;have hB2:=hB1.trans ((hb2.trans (hx2.mono hb2.size)).mono hB1.size);have l1:=(l1.below hb2).below hx2;have l2:=l2.below hx2;have x1:=(x1.below hb2 x1.lt).below hx2 (by have:=hb2.size;have:=x1.lt;omega);have yr:=r0.below hB2 r0.lt;clear hX2 hb1 hb2 hx2 hxs2 HR3 HX1 hB1;have HI1:=hid (HIn1.out X2 a1 l1);have HI2:=hid (HIn2.out X2 a2 l2);obtain⟨z0,z1⟩:=x1.two;obtain⟨u0,u1⟩:=x2.two;have y1:=yr.ae 1;have y2:=yr.ae 2;have y3:=yr.ae 3;simp only[yB,yC]at y1 y2 y3;have HBw:=hid (τ hB hB2);have HFn:=hid (HF X2 a1 c1 a2 c2 HBw.out HI1.out HI2.out);have HB0:=hid hB2;clear l1 l2 x1 x2 r0 hB2 HIn1 HIn2 HF hB yr HB1 HB2 HI1 HI2;have hne1: ∀X,Sem.run prog (binOp .neq 100 .nilFunc .nilFunc) X= .ok (.bool false) X:=fun X=>κ
 have hne2: ∀X,Sem.run prog (binOp .neq 101 .nilFunc .nilFunc) X= .ok (.bool false) X:=fun X=>κ
 go_upto_if 39 with fail
 rw[<-HX2.out];go_wp2_with fail;refine HFn.out.mono ?_;rintro e V ⟨b,a,n,c,kk,rfl,HV,hb⟩;(try dsimp only);have HBV:=hid (HBw.out.trans (hb.mono HBw.out.size));have HHV:=hid ((HHW.out.below HB0.out).below hb);obtain⟨B,hB⟩:=ξ X2.heap.size;rw[<-hB]at HV;have HLB:=hid (show∀g∈F.l,g<B from fun g hg=>by have:=HLT.out g hg;have:=HBw.out.size;omega);obtain⟨X4,hX4,x4,hx4,hxs4⟩:=aA V 24 [.bool b,.slice a n c];have HX4:=hid hX4;obtain⟨t0,t1⟩:=x4.two;have HH4:=hid (HHV.out.below hx4);have HB4:=hid (HBV.out.trans (hx4.mono HBV.out.size));clear hX4 hb hB HFn z0 z1 u0 u1 y1 y2 y3 hne1 hne2 HX2 HBw HB0 HHW HLT HBV;cases res with
 |none=>
  obtain⟨rfl,rfl,rfl⟩:o0=0/\k0=0/\h0=h:=(by have:=HD.out;cases this;exact⟨rfl,rfl,rfl⟩);have hk:kk≠0:=HV.out;have d:(kk != 0)=true:=by rw[bne_iff_ne];exact hk
  have HM:=hid (Moved.same HH.out HB4.out);clear hk HV HH4 HB4 HHV HK HH HLB hx4 x4 hxs4;go_wp2_with fail;go_ret2;rw[<-HX4.out];exact⟨rfl,HM.out⟩
 |some z=>
  obtain⟨rfl,hb0,hc,hin⟩:=HV.out;have hm:=qP (c:=c) HH4.out HK.out (hin.below hx4) hc HLB.out;rw[<-hb0]at hm;have HM:=hid hm;clear HV hb0 hc hin hm HHV HK HLB hx4 x4 hxs4 HH4;have hd:=HD.out;rw[(φ:fP h (some z)=iP (mkI h z))]at hd;unfold iP at hd;generalize mkI h z=m at*
  obtain⟨o,ko,h'⟩:=m;simp only[Prod.mk.injEq]at hd;obtain⟨d1,d2,rfl⟩:=hd;have HMd:=hid (fun X=>show Calls prog 117 #[Ψ (o:Nat),I (ko:Nat)] X fun e w'=>e=Rt #[Ψ (o0:Nat),I (k0:Nat)]/\X=w' from by have:=dw (w:=X) o ko;rw[d1,d2]at this;exact this);clear HD d1 d2;go_upto_region 18 with fail
  rw[<-HX4.out];go_wp2_with fail;refine HM.out.mono ?_;rintro e U ⟨rfl,F',hs⟩;(try dsimp only);have HS:=hid (show Moved w F U h' from⟨F',Step.of_below HB4.out hs⟩);clear hs HM HH HB4 HX4 t0 t1;go_wp2_with fail;refine(HMd.out U).mono ?_;rintro e V' ⟨rfl,rfl⟩;(try dsimp only);go_wp2_with fail;go_ret2;exact⟨rfl,HS.out⟩
theorem zw(H:HeapAt w F h)(k:Fine h)(kn:Int)(r q:Nat)(hr:r<4294967296)(hq:q<4294967296)(x y:Int)(k1:rdC h r=0)(k2:rdC h q=0)(hx:rdN h r=decide (x<0)/\rdL h r=rep x.natAbs/\(rep x.natAbs).length<=1024)(hy:rdN h q=decide (y<0)/\rdL h q=rep y.natAbs/\(rep y.natAbs).length<=1024)(f:FuncId)(p:Nat)(hcf: ∀us X,Sem.run prog (callFunc f us) X= .ok (.enter f us) X)(res:Option (List UInt8))(hres: ∀t,res=some t->0<t.length/\t.length<=262140)(HF: ∀X a1 c1 a2 c2,Below w.heap.size w X->In X x a1 (rep x.natAbs).length->In X y a2 (rep y.natAbs).length->Calls prog f #[Ω (decide (x<0)) a1 (rep x.natAbs).length c1,Ω (decide (y<0)) a2 (rep y.natAbs).length c2,E p] X fun e X'=>EZ res X X' e):Calls prog 49 #[.agg #[I kn,.nilFunc,.nilFunc,.func (.func f) #[] #[E p]],E F.p,Ψ r,Ψ q] w fun e w'=>e=Rt #[Ψ (n9 h res).1,I (n9 h res).2.1]/\Moved w F w' (n9 h res).2.2:=by
 obtain⟨o0,k0,h0,hd⟩: ∃o0 k0 h0,n9 h res=(o0,k0,h0):=⟨_,_,_,rfl⟩;rw[hd];have HD:=hid hd;clear hd;have h17:=k.c17;obtain⟨W,hW,r0,hB,hz⟩:=aA w 103 [I kn,.nilFunc,.nilFunc,.func (.func f) #[] #[E p]];have HW:=hid hW;have HR1:=hid (cW (H.below hB) r hr (h17));have HR2:=hid (fun X (hb:Below W W X)=>cW ((H.below hB).below hb) q hq h17);unfold cS at HR1 HR2;rw[k1,hx.1,hx.2.1]at HR1;rw[k2,hy.1,hy.2.1]at HR2;have HIn1:=hid (fun X a (l:Lay .u32 X a (rep x.natAbs))=>show In X x a (rep x.natAbs).length from⟨rfl,hx.2.2,l⟩);have HIn2:=hid (fun X a (l:Lay .u32 X a (rep y.natAbs))=>show In X y a (rep y.natAbs).length from⟨rfl,hy.2.2,l⟩);obtain⟨n1,hn1⟩: ∃n,n=(rep x.natAbs).length:=⟨_,rfl⟩;obtain⟨n2,hn2⟩: ∃n,n=(rep y.natAbs).length:=⟨_,rfl⟩;obtain⟨b1,hb1'⟩: ∃b,b=decide (x<0):=⟨_,rfl⟩;obtain⟨b2,hb2'⟩: ∃b,b=decide (y<0):=⟨_,rfl⟩;rw[<-hn1]at HR1 HIn1;rw[<-hn2]at HR2 HIn2;rw[<-hb1']at HR1;rw[<-hb2']at HR2;rw[<-hn1,<-hn2,<-hb1',<-hb2']at HF;have HB1:=hid hb1';have HB2:=hid hb2';have HK:=hid k;have HH:=hid H;have HHW:=hid (H.below hB);have hlt:=H.lt;have HLT:=hid hlt;clear hn1 hn2 hb1' hb2' hW H h17 hr hq hz k1 k2 hx hy k hlt;go_enter func49,ntmps49;go_wp2_with fail;rw[<-HW.out];refine HR1.out.mono ?_;rintro e V1 ⟨a1,c1,rfl,l1,hb1,-⟩;(try dsimp only);obtain⟨X1,hX1,x1,hx1,hxs1⟩:=aA V1 24 [.bool b1,.slice a1 n1 c1];have hB1:=hb1.trans (hx1.mono hb1.size);have HX1:=hid hX1;have HR3:=hid (HR2.out X1 hB1);have l1:=l1.below hx1;clear hX1 HR1 HR2 hx1 hxs1 HW;go_wp2_with fail;rw[<-HX1.out];refine HR3.out.mono ?_;rintro e V2 ⟨a2,c2,rfl,l2,hb2,-⟩;(try dsimp only);obtain⟨X2,hX2,x2,hx2,hxs2⟩:=aA V2 24 [.bool b2,.slice a2 n2 c2];have HX2:=hid hX2;have hB2:=hB1.trans ((hb2.trans (hx2.mono hb2.size)).mono hB1.size);have l1:=(l1.below hb2).below hx2;have l2:=l2.below hx2;have x1:=(x1.below hb2 x1.lt).below hx2 (by have:=hb2.size;have:=x1.lt;omega);have yr:=r0.below hB2 r0.lt;clear hX2 hb1 hb2 hx2 hxs2 HR3 HX1 hB1;have HI1:=hid (HIn1.out X2 a1 l1);have HI2:=hid (HIn2.out X2 a2 l2);obtain⟨z0,z1⟩:=x1.two;obtain⟨u0,u1⟩:=x2.two;have y1:=yr.ae 1;have y2:=yr.ae 2;have y3:=yr.ae 3;simp only[yB,yC]at y1 y2 y3;have HBw:=hid (τ hB hB2);have HFn:=hid (HF X2 a1 c1 a2 c2 HBw.out HI1.out HI2.out);have HB0:=hid hB2;clear l1 l2 x1 x2 r0 hB2 HIn1 HIn2 HF hB yr HB1 HB2 HI1 HI2;have hne1: ∀X,Sem.run prog (binOp .neq 100 .nilFunc .nilFunc) X= .ok (.bool false) X:=fun X=>κ
 have hne2: ∀X,Sem.run prog (binOp .neq 101 (.func (.func f) #[] #[E p]) .nilFunc) X= .ok (.bool true) X:=fun X=>κ
 have HRs:=hid hres;clear hres;go_upto_if 39 with fail
 rw[<-HX2.out];go_wp2_with fail;refine HFn.out.mono ?_;rintro e V ⟨s,kk,rfl,HV,hb⟩;(try dsimp only);have HBV:=hid (HBw.out.trans (hb.mono HBw.out.size));have HHV:=hid ((HHW.out.below HB0.out).below hb);clear hb HFn z0 z1 u0 u1 y1 y2 y3 hne1 hne2 HX2 HBw HB0 HHW HLT;cases res with
 |none=>
  obtain⟨rfl,rfl,rfl⟩:o0=0/\k0=0/\h0=h:=(by have:=HD.out;cases this;exact⟨rfl,rfl,rfl⟩);have hk:kk≠0:=HV.out;have d:(kk != 0)=true:=by rw[bne_iff_ne];exact hk
  have HM:=hid (Moved.same HH.out HBV.out);clear hk HV HBV HHV HK HH HRs;go_wp2_with fail;go_ret2;exact⟨rfl,HM.out⟩
 |some t=>
  obtain⟨rfl,ht⟩:=HV.out;obtain⟨l0,l1⟩:=HRs.out t rfl;have hsz:s.size=t.length:=by rw[<-ht,Array.length_toList];rfl
  have HRt:=hid (dM HHV.out 19 δ);have HCv:=hid (el (P:=prog) V 9 50 5 s underlying9 underlying50 underlying5);obtain⟨c,W4,hcv,hlay,hb4⟩:=HCv.out;have hm:=wk (c:=c) (HHV.out.below hb4) HK.out hlay rfl ω ω;rw[ht]at hm;have HM:=hid hm;have HB4:=hid (HBV.out.trans (hb4.mono HBV.out.size));obtain⟨sz,hsz2⟩:=ξ s.size;obtain⟨gv,hgv⟩:=ξ V.heap.size;rw[<-hsz2,<-hgv]at hcv HM;clear HV ht hm HHV HK HBV hsz hsz2 hgv HRs HCv hlay hb4 HH l0 l1;have hd:=HD.out;rw[(φ:n9 h (some t)=iP (mkT h t))]at hd;unfold iP at hd;generalize mkT h t=m at*
  obtain⟨o,ko,h'⟩:=m;simp only[Prod.mk.injEq]at hd;obtain⟨d1,d2,rfl⟩:=hd;have HMd:=hid (fun X=>show Calls prog 117 #[Ψ (o:Nat),I (ko:Nat)] X fun e w'=>e=Rt #[Ψ (o0:Nat),I (k0:Nat)]/\X=w' from by have:=dw (w:=X) o ko;rw[d1,d2]at this;exact this);clear HD d1 d2;go_wp2_with fail;refine HRt.out.mono ?_;rintro e V' ⟨rfl,rfl⟩;(try dsimp only);go_wp2_with fail;refine HM.out.mono ?_;rintro e U ⟨rfl,F',hs⟩;(try dsimp only);have HS:=hid (show Moved w F U h' from⟨F',Step.of_below HB4.out hs⟩);clear hs HM HB4 hcv HRt;go_wp2_with fail;refine(HMd.out U).mono ?_;rintro e V' ⟨rfl,rfl⟩;(try dsimp only);go_wp2_with fail;go_ret2;exact⟨rfl,HS.out⟩
end
namespace Limb
def opI(k:Nat)(x y:Int):Option Int:=
 match k with
 |20=>ofZ (x+y)
 |21=>ofZ (x-y)
 |22=>ofZ (x*y)
 |23=>opD true y (fb true x y)
 |24=>opD true y (fE true x y)
 |25=>opD false y (fb false x y)
 |26=>opD false y (fE false x y)
 |33=>ofZ (kK 1 (max (rep x.natAbs).length (rep y.natAbs).length+1) x y)
 |34=>ofZ (kK 2 (max (rep x.natAbs).length (rep y.natAbs).length+1) x y)
 |35=>ofZ (kK 3 (max (rep x.natAbs).length (rep y.natAbs).length+1) x y)
 |36=>if bC y=true then ofZ (cf x y)else none
 |37=>ofZ (Nat.gcd x.natAbs y.natAbs:Nat)
 |39=>if bC y=true/\0<=y then ofZ (x^y.toNat)else none
 |_=>none
def opP(h:Hp)(k:Nat)(x y:Int):Nat×Nat×Hp:=
 if 27<=k/\k<=32 then(wd h.rt (if opT k (fO x y)=true then 1 else 2),1,h)else if k=38 then n9 h (opS x y)else fP h (opI k x y)
theorem eQ{h:Hp}{k:Nat}{x y:Int}(h1: ¬(27<=k/\k<=32))(h2:k≠38):opP h k x y=fP h (opI k x y):=by unfold opP;rw[if_neg h1,if_neg h2]
theorem oB{h:Hp}{k:Nat}{x y:Int}(h1:27<=k/\k<=32):opP h k x y=(wd h.rt (if opT k (fO x y)=true then 1 else 2),1,h):=by unfold opP;rw[if_pos h1]
theorem EA{h:Hp}{x y:Int}:opP h 38 x y=n9 h (opS x y):=by unfold opP;rw[if_neg δ,if_pos rfl]
theorem Bi{h:Hp}{k:Nat}{x y:Int}(h1:k<20∨39<k):opP h k x y=(0,0,h):=by
 rw[eQ ω ω];have:opI k x y=none:=by unfold opI;split<;>first |omega|rfl
 rw[this];rfl
def rdV(h:Hp)(o:Nat):Int:=signed (rdN h o) (val (rdL h o))
theorem sY{h:Hp}{o:Nat}(hg:Good h)(ho:o<4294967296)(e:rdC h o=0):rdN h o=decide (rdV h o<0)/\rdL h o=rep (rdV h o).natAbs/\(rep (rdV h o).natAbs).length<=1024:=by
 by_cases e1:o%2=1
 ·obtain⟨-,q2,q3⟩:=vB (h:=h) e1;have ev:rdV h o=cN o:=by unfold rdV;rw[q2,q3,aZ]
  rw[ev];refine⟨q2,q3,Nat.le_trans (show(rep (cN o).natAbs).length<=1 from rep_length_le.2 ?_) δ⟩;have h3:cN o=(if o<2147483648 then(o:Int)-1 else(o:Int)-4294967296-1)/2:=rfl;rw[(φ:W 1=4294967296)];split at h3<;>omega
 ·cases hi:isO h o with
  |false=>rw[(rH e1 hi).1]at e;cases e
  |true=>
   cases hf:Y9q h o with
   |false=>rw[(oL e1 hi hf).1]at e;cases e
   |true=>
    obtain⟨-,q2,q3⟩:=qX e1 hi hf;unfold Y9q gS at hf;simp only[Bool.and_eq_true]at hf;obtain⟨-,⟨-,hm⟩,-⟩:=hf;have hl:Lim (ia h o):=(fB hg o).drop 1;obtain⟨m1,m2,m3⟩:=bQ hl hm;have ev:rdV h o=signed (nb h o) (val (ia h o)):=by unfold rdV;rw[q2,q3]
    rw[ev,q2,q3];exact⟨m2,m1,by rw[<-m1];exact m3⟩
def gy(h:Hp)(k r q:Nat):Nat×Nat×Hp:=if rdC h r=0/\rdC h q=0 then opP h k (rdV h r) (rdV h q)else(0,0,h)
theorem vo{b:Nat}(hb:2<=b)(h36:b<=36)(z:Int)(h:(rep z.natAbs).length<=1024):0<(oO b z).length/\(oO b z).length<=262140:=by
 rw[pV hb h36,List.length_map]
 have h1:(dL b z.natAbs).length<=32768:=by
  obtain⟨c,hc⟩:=ξ 1024;rw[<-hc]at h;have h2:=gB hb z.natAbs (32*c) (by have:=rep_length_le.1 h;rwa [dj]at this);omega
 unfold pq;split
 ·simp
 ·rename_i hz;have h2:0<(dL b z.natAbs).length:=by rw[eJ hb (show 0<z.natAbs by omega)];simp
  rw[List.length_append,List.length_map,List.length_reverse];split<;>simp<;>omega
theorem D9{x y:Int}(h:(rep x.natAbs).length<=1024)(t:List UInt8)(e:opS x y=some t):0<t.length/\t.length<=262140:=by
 unfold opS at e;split at e
 ·rename_i hy;cases e;exact vo ω ω x h
 ·cases e
end Limb
section
variable {w:World} {F:Foot} {h:Hp}
def Fg(P:Nat->Nat)(k:Nat):Value:= .agg #[I (k:Nat),qf P k,qI k,pO P k]
theorem Dn(H:HeapAt w F h)(k:Fine h){P:Nat->Nat}{g:Nat}(T:Tab w P g)(j:Nat)(hj:j<20)(r q:Nat)(hr:r<4294967296)(hq:q<4294967296)(x y:Int)(k1:rdC h r=0)(k2:rdC h q=0)(hx:rdN h r=decide (x<0)/\rdL h r=rep x.natAbs/\(rep x.natAbs).length<=1024)(hy:rdN h q=decide (y<0)/\rdL h q=rep y.natAbs/\(rep y.natAbs).length<=1024):Calls prog 49 #[Fg P (20+j),E F.p,Ψ r,Ψ q] w fun e w'=>e=Rt #[Ψ (opP h (20+j) x y).1,I (opP h (20+j) x y).2.1]/\Moved w F w' (opP h (20+j) x y).2.2:=by
 have hc:j=0∨j=1∨j=2∨j=3∨j=4∨j=5∨j=6∨j=7∨j=8∨j=9∨j=10∨j=11∨j=12∨j=13∨j=14∨j=15∨j=16∨j=17∨j=18∨j=19:=ω
 rcases hc with rfl|rfl|rfl|rfl|rfl|rfl|rfl|rfl|rfl|rfl|rfl|rfl|rfl|rfl|rfl|rfl|rfl|rfl|rfl|rfl
 ·rw[eQ δ δ];exact jo H k _ r q hr hq x y k1 k2 hx hy 98 (fun _ _=>by rfl) _ (fun X a1 c1 a2 c2 hb i1 i2=>FE i1 i2)
 ·rw[eQ δ δ];exact jo H k _ r q hr hq x y k1 k2 hx hy 99 (fun _ _=>by rfl) _ (fun X a1 c1 a2 c2 hb i1 i2=>FL i1 i2)
 ·rw[eQ δ δ];exact jo H k _ r q hr hq x y k1 k2 hx hy 100 (fun _ _=>by rfl) _ (fun X a1 c1 a2 c2 hb i1 i2=>Fz i1 i2)
 ·rw[eQ δ δ];exact cR H k _ r q hr hq x y k1 k2 hx hy 186 (P 23) (fun _ _=>by rfl) _ (fun X a1 c1 a2 c2 hb i1 i2=>tE (T.d23.below hb T.d23.lt) (.inl rfl) (fun Y hY=>EB (i1.below hY) (i2.below hY)))
 ·rw[eQ δ δ];exact cR H k _ r q hr hq x y k1 k2 hx hy 187 (P 24) (fun _ _=>by rfl) _ (fun X a1 c1 a2 c2 hb i1 i2=>pN (T.d24.below hb T.d24.lt) (.inl rfl) (fun Y hY=>EB (i1.below hY) (i2.below hY)))
 ·rw[eQ δ δ];exact cR H k _ r q hr hq x y k1 k2 hx hy 186 (P 25) (fun _ _=>by rfl) _ (fun X a1 c1 a2 c2 hb i1 i2=>tE (T.d25.below hb T.d25.lt) (.inr rfl) (fun Y hY=>Ew (i1.below hY) (i2.below hY)))
 ·rw[eQ δ δ];exact cR H k _ r q hr hq x y k1 k2 hx hy 187 (P 26) (fun _ _=>by rfl) _ (fun X a1 c1 a2 c2 hb i1 i2=>pN (T.d26.below hb T.d26.lt) (.inr rfl) (fun Y hY=>Ew (i1.below hY) (i2.below hY)))
 ·rw[oB δ];exact(eV H k _ r q hr hq x y k1 k2 hx hy 104 27 δ).mono fun e w' ⟨p,q⟩=>⟨p,Moved.same H q⟩
 ·rw[oB δ];exact(eV H k _ r q hr hq x y k1 k2 hx hy 105 28 δ).mono fun e w' ⟨p,q⟩=>⟨p,Moved.same H q⟩
 ·rw[oB δ];exact(eV H k _ r q hr hq x y k1 k2 hx hy 106 29 δ).mono fun e w' ⟨p,q⟩=>⟨p,Moved.same H q⟩
 ·rw[oB δ];exact(eV H k _ r q hr hq x y k1 k2 hx hy 107 30 δ).mono fun e w' ⟨p,q⟩=>⟨p,Moved.same H q⟩
 ·rw[oB δ];exact(eV H k _ r q hr hq x y k1 k2 hx hy 108 31 δ).mono fun e w' ⟨p,q⟩=>⟨p,Moved.same H q⟩
 ·rw[oB δ];exact(eV H k _ r q hr hq x y k1 k2 hx hy 109 32 δ).mono fun e w' ⟨p,q⟩=>⟨p,Moved.same H q⟩
 ·rw[eQ δ δ];exact cR H k _ r q hr hq x y k1 k2 hx hy 188 (P 33) (fun _ _=>by rfl) _ (fun X a1 c1 a2 c2 hb i1 i2=>rT (T.b33.below hb T.b33.lt) (fun Y hY=>vM (i1.below hY) (i2.below hY) 1 δ))
 ·rw[eQ δ δ];exact cR H k _ r q hr hq x y k1 k2 hx hy 188 (P 34) (fun _ _=>by rfl) _ (fun X a1 c1 a2 c2 hb i1 i2=>rT (T.b34.below hb T.b34.lt) (fun Y hY=>vM (i1.below hY) (i2.below hY) 2 δ))
 ·rw[eQ δ δ];exact cR H k _ r q hr hq x y k1 k2 hx hy 188 (P 35) (fun _ _=>by rfl) _ (fun X a1 c1 a2 c2 hb i1 i2=>rT (T.b35.below hb T.b35.lt) (fun Y hY=>vM (i1.below hY) (i2.below hY) 3 δ))
 ·rw[eQ δ δ];by_cases hs:bC y=true
  ·have hn:=hs;unfold bC at hn;simp only[Bool.and_eq_true,decide_eq_true_eq]at hn;have hn1: -9223372036854775808<=y:=ω
   have hn2:y<=9223372036854775807:=ω;rw[show opI 36 x y=ofZ (cf x y)from if_pos hs];exact cR H k _ r q hr hq x y k1 k2 hx hy 190 (P 36) (fun _ _=>by rfl) _ (fun X a1 c1 a2 c2 hb i1 i2=>BV (T.s36.below hb T.s36.lt) (.inl rfl) i2 hs (fun Y hY=>Dx (i1.below hY) hn1 hn2))
  ·rw[show opI 36 x y=none from if_neg hs];have hs':bC y=false:=by cases e:bC y with |false=>rfl|true=>exact absurd e hs
   exact cR H k _ r q hr hq x y k1 k2 hx hy 190 (P 36) (fun _ _=>by rfl) _ (fun X a1 c1 a2 c2 hb i1 i2=>t6 i2 hs')
 ·rw[eQ δ δ];exact jo H k _ r q hr hq x y k1 k2 hx hy 113 (fun _ _=>by rfl) _ (fun X a1 c1 a2 c2 hb i1 i2=>FC i1 i2)
 ·rw[EA];exact zw H k _ r q hr hq x y k1 k2 hx hy 194 (P 38) (fun _ _=>by rfl) _ (D9 hx.2.2) (fun X a1 c1 a2 c2 hb i1 i2=>EJ (T.s38.below hb T.s38.lt) i1 i2)
 ·rw[eQ δ δ];by_cases hs:bC y=true
  ·have hn:=hs;unfold bC at hn;simp only[Bool.and_eq_true,decide_eq_true_eq]at hn;have hn1: -9223372036854775808<=y:=ω
   have hn2:y<=9223372036854775807:=ω;by_cases h0:0<=y
   ·rw[show opI 39 x y=ofZ (x^y.toNat)from if_pos ⟨hs,h0⟩];exact cR H k _ r q hr hq x y k1 k2 hx hy 190 (P 39) (fun _ _=>by rfl) _ (fun X a1 c1 a2 c2 hb i1 i2=>BV (T.s39.below hb T.s39.lt) (.inr rfl) i2 hs (fun Y hY=>Fx (i1.below hY) hn1 hn2 h0))
   ·rw[show opI 39 x y=none from if_neg fun q=>h0 q.2];exact cR H k _ r q hr hq x y k1 k2 hx hy 190 (P 39) (fun _ _=>by rfl) _ (fun X a1 c1 a2 c2 hb i1 i2=>BV (T.s39.below hb T.s39.lt) (.inr rfl) i2 hs (fun Y hY=>Cc (i1.below hY) hn1 hn2 (Int.not_le.1 h0)))
  ·rw[show opI 39 x y=none from if_neg (fun q=>hs q.1)];have hs':bC y=false:=by cases e:bC y with |false=>rfl|true=>exact absurd e hs
   exact cR H k _ r q hr hq x y k1 k2 hx hy 190 (P 39) (fun _ _=>by rfl) _ (fun X a1 c1 a2 c2 hb i1 i2=>t6 i2 hs')
theorem DN(H:HeapAt w F h)(k:Fine h){P:Nat->Nat}{g:Nat}(T:Tab w P g)(j:Nat)(hj:j<20)(r q:Nat)(hr:r<4294967296)(hq:q<4294967296):Calls prog 49 #[Fg P (20+j),E F.p,Ψ r,Ψ q] w fun e w'=>e=Rt #[Ψ (gy h (20+j) r q).1,I (gy h (20+j) r q).2.1]/\Moved w F w' (gy h (20+j) r q).2.2:=by
 unfold gy;by_cases hk:rdC h r=0/\rdC h q=0
 ·rw[if_pos hk];exact Dn H k T j hj r q hr hq _ _ hk.1 hk.2 (sY H.good hr hk.1) (sY H.good hq hk.2)
 ·rw[if_neg hk];exact(Dz H k.c17 _ _ _ _ r q hr hq hk).mono fun e w' ⟨p,q⟩=>⟨p,Moved.same H q⟩
end
end Go.Proofs.YtfefijlnbhbplaaGreatDoor

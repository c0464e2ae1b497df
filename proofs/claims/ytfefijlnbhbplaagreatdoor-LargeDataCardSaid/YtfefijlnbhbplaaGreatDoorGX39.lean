/- Walks and laws that LargeData asks for. -/
import Derived.Test.YtfefijlnbhbplaaGreatDoorGX33
import Derived.Test.YtfefijlnbhbplaaGreatDoorGX37
set_option linter.unusedVariables false
set_option linter.unusedSimpArgs false
set_option maxRecDepth 1000000
set_option maxHeartbeats 6400000
namespace Go.Proofs.YtfefijlnbhbplaaGreatDoor
open Go Lib Go.RowKit Limb Tryz
section
variable {w:World} {G:RFoot} {h:Hp}
theorem RefAt.not_mem{g:Nat}{e:TypeId}{j:List Value}(H:RefAt w G h)(r:Row w g e j)(h1:e≠52)(k:e≠25)(l:e≠5)(m:e≠26):g∉G.l:=by
 obtain⟨n,f,i,a,b⟩:=H.row;obtain⟨_,a⟩:=a.row;obtain⟨_,b⟩:=b.row;have d:=H.roots;intro c;unfold RFoot.l at c;simp only[List.mem_cons,List.not_mem_nil,or_false]at c;rcases c with e|e|e|e
 ·exact r.ne i h1 e
 ·exact r.ne a k e
 ·exact r.ne b l e
 ·exact r.ne d m e
end
theorem RFoot.Next.aside{w:World}{G a:RFoot}{g:Nat}(n:G.Next a w)(c:g<w.heap.size)(b:g∉G.l):g∉a.l:=fun e=>by
 rcases n.mem g e with x|x
 ·exact b x
 ·omega
def RKeeps(R:World->Prop):Prop:=(∀X X',R X->Below X.heap.size X X'->R X')/\∀X F hk X' F' h',RefAt X F hk->R X->RStep X F X' F' h'->R X'
theorem jZ(g:Nat)(e:TypeId)(b:List Value)(h1:e≠52)(c:e≠25)(d:e≠5)(f:e≠26):RKeeps (fun X=>Row X g e b):=
 ⟨fun _ _ r a=>r.below a r.lt,fun _ _ _ _ _ _ H r s=>s.beside r (H.not_mem r h1 c d f)⟩
theorem RKeeps.and{R S:World->Prop}(a:RKeeps R)(b:RKeeps S):RKeeps (fun X=>R X/\S X):=
 ⟨fun X X' r c=>⟨a.1 X X' r.1 c,b.1 X X' r.2 c⟩,fun X F hk X' F' h' H r s=>⟨a.2 X F hk X' F' h' H r.1 s,b.2 X F hk X' F' h' H r.2 s⟩⟩
theorem tN:RKeeps (fun _=>True):=⟨fun _ _ _ _=>trivial,fun _ _ _ _ _ _ _ _ _=>trivial⟩
structure RC (w:World) (G:RFoot) (R:World->Prop) (X:World) (F:RFoot) (hk:Hp):Prop where
 keeps:RKeeps R
 st:RStep w G X F hk
 ex:R X
 low:5<=w.heap.size
section
variable {w X X':World} {G F F':RFoot} {R R':World->Prop} {hk h':Hp}
theorem RC.start{h:Hp}(H:RefAt w G h)(a:5<=w.heap.size):RC w G (fun _=>True) w G h:=⟨tN,RStep.refl H,trivial,a⟩
theorem RC.p(c:RC w G R X F hk):F.p=G.p:=c.st.2.1.p
theorem RC.hp(c:RC w G R X F hk):RefAt X F hk:=c.st.1
theorem RC.bf(c:RC w G R X F hk):5<=X.heap.size:=Nat.le_trans c.low c.st.2.2.size
theorem RC.step(c:RC w G R X F hk)(s:RStep X F X' F' h'):RC w G R X' F' h':=
 ⟨c.keeps,c.st.trans s,c.keeps.2 _ _ _ _ _ _ c.st.1 c.ex s,c.low⟩
theorem RC.below(c:RC w G R X F hk)(a:Below X X X'):RC w G R X' F hk:=
 ⟨c.keeps,c.st.below a,c.keeps.1 _ _ c.ex a,c.low⟩
theorem RC.with(c:RC w G R X F hk)(k:RKeeps R')(r:R' X):RC w G R' X F hk:=⟨k,c.st,r,c.low⟩
theorem RC.moved(c:RC w G R X F hk):RMoved w G X hk:=⟨F,c.st⟩
theorem RC.aside(c:RC w G R X F hk){g:Nat}(d:Only [g] X X')(i:w.heap.size<=g)(j:g∉F.l)(r:R X'):RC w G R X' F hk:=
 ⟨c.keeps,⟨c.st.1.only d (fun x f e=>j (by rw[List.mem_singleton]at e;rw[<-e];exact f)),c.st.2.1,c.st.2.2.trans d (fun q b=>by rw[List.mem_singleton]at b;subst b;exact .inr i)⟩,r,c.low⟩
theorem RC.root(c:RC w G R X F hk){i:Nat}(a:i<64):X.cell? ⟨G.p,2,none⟩=O (M G.gr 64 64)/\X.cell? ⟨G.gr,i,none⟩=O (Ψ (wd hk.rt i:Nat))/\∀W,(Instr.indexAt 44 (M G.gr 64 64) (I i)).run prog W= .ok (Θ G.gr i) W:=by
 have:=c.hp.root a
 rwa [c.p,c.st.2.1.gr]at this
theorem RC.setR(c:RC w G R X F hk)(i v:Nat)(a:v<4294967296):RC w G R (X.setCell ⟨G.gr,i,none⟩ (Ψ (v:Nat))) F (Limb.setR hk i v):=by
 have:=RStep.setR c.hp (k:=i) (v:=v) (c.hp.good.setR a);rw[c.st.2.1.gr]at this;exact c.step this
theorem RC.free(c:RC w G R X F hk)(i:Nat):X.frozen? ⟨G.gr,i,none⟩=false:=by
 have:=c.hp.roots.free i
 rwa [c.st.2.1.gr]at this
theorem RC.drew(c:RC w G R X F hk):RC w G R X.drew F hk:=c.below (Below.refl _ X).drew
theorem Fb(c:RC w G R X F hk)(v:Nat)(a:isO hk v=true):Calls prog 76 #[E G.p,Ψ v] X fun e X'=>e= .returned (.bool true)/\X=X':=by
 rw[<-c.p];have:=EF c.hp v (aM c.hp.good a);rw[bL a]at this;exact this
theorem wM(c:RC w G R X F hk)(K:Limb.Ker hk)(S:ByteArray)(a:0<S.size)(b:fL hk (tx S)=0):Calls prog 77 #[E G.p,.string S] X fun e X'=>e= .returned (Ψ 0)/\Below X X X':=by
 rw[<-c.p];exact vW c.hp K S a b
theorem Fs(c:RC w G R X F hk)(o:Nat)(f n:Nat)(a:isF hk o f n=true):Calls prog 72 #[E G.p,Ψ o,I f,I n] X fun e X'=>e= .returned (.bool true)/\Below X X X':=by
 rw[<-c.p];have:=uo c.hp o f n (aM c.hp.good (aH a));rw[a]at this;exact this
theorem lY(c:RC w G R X F hk)(K:Limb.Ker hk)(S:ByteArray)(hS:S.size<=262140)(h0:0<S.size)(o:Nat)(h':Hp)(a:bY hk (tx S)=some (o,h')):Calls prog 26 #[E G.p,.string S] X fun e X'=>e=Rt #[Ψ o,I 0]/\∃F',RC w G R X' F' h':=by
 rw[<-c.p];exact(qr c.hp c.bf K S hS h0 o h' a).mono fun e X' ⟨x,F',y⟩=>⟨x,F',c.step y⟩
theorem AH(c:RC w G R X F hk)(i:Nat)(a:i<64):Calls prog 73 #[E G.p,I i] X fun e X'=>e= .returned (Ψ (wd hk.rt i:Nat))/\X=X':=by
 rw[<-c.p];exact uS c.hp i a
theorem lG(c:RC w G R X F hk)(a n o:Nat)(h':Hp)(b:n<=65535)(d:aW hk a 1 n=some (o,h')):Calls prog 12 #[E G.p,Ψ a,I 1,I n] X fun e X'=>e=Rt #[Ψ o,I 0]/\∃F',RC w G R X' F' h':=by
 rw[<-c.p];exact(show Calls prog 12 #[E F.p,Ψ a,I 1,I n] X _ from nc c.hp c.bf a 1 n o h' (.inl rfl) b d).mono fun e X' ⟨x,F',y⟩=>⟨x,F',c.step y⟩
theorem gn(c:RC w G R X F hk){o i v:Nat}(hf:isF hk o 1 (i+1)=true)(b:dS hk v=true)(a:v<4294967296):Calls prog 27 #[E G.p,Ψ o,I i,Ψ v] X fun e X'=>e= .returned (I 0)/\∃F',RC w G R X' F' (Limb.putF hk o i v):=by
 rw[<-c.p];exact(BZ c.hp hf b a).mono fun e X' ⟨x,y⟩=>⟨x,F,c.step y⟩
theorem gO(c:RC w G R X F hk){o a:Nat}(b:isO hk o=true)(d:cU hk a=true):Calls prog 70 #[E G.p,Ψ o,Ψ a] X fun e X'=>e= .returned (I 0)/\∃F',RC w G R X' F' (Limb.setC hk o a):=by
 rw[<-c.p];exact(xb c.hp b d).mono fun e X' ⟨x,y⟩=>⟨x,F,c.step y⟩
theorem Fe(c:RC w G R X F hk)(r:Nat)(a:r<64)(o:Nat)(b:isO hk o=true)(h':Hp)(d:jJ hk r o=some h'):Calls prog 74 #[E G.p,I r,Ψ o] X fun e X'=>e= .returned (I 0)/\∃F',RC w G R X' F' h':=by
 rw[<-c.p];exact(C7 c.hp r a o b h' d).mono fun e X' ⟨x,y⟩=>⟨x,F,c.step y⟩
theorem sm(c:RC w G R X F hk)(K:Limb.Ker hk)(S:ByteArray)(hS:S.size<=262140)(h0:0<S.size)(v:Nat)(hv:isO hk v=true)(o:Nat)(h':Hp)(V:dD hk (tx S) v=some (o,h')):Calls prog 28 #[E G.p,.string S,Ψ v] X fun e X'=>e=Rt #[Ψ o,I 0]/\∃F',RC w G R X' F' h':=by
 have p:=aM c.hp.good hv;unfold dD at V;split at V;case isFalse=>cases V
 rename_i hg;obtain⟨⟨k,h1⟩,e1,e2⟩:=Option.bind_eq_some_iff.1 V;obtain⟨⟨d,j⟩,e3,e4⟩:=Option.bind_eq_some_iff.1 e2;obtain⟨h3,e5,e6⟩:=Option.map_eq_some_iff.1 e4;rw[Prod.mk.injEq]at e6;obtain⟨rfl,rfl⟩:=e6;simp only at e3 e5;obtain⟨g1,i1⟩:=cI c.hp.good (jP S) (by rw[cJ];exact hS) e1;obtain⟨g2,i2⟩:=bm g1.good δ δ δ e3;have q:=aH i1;have k1:=aM g1.good q;have f0:=aO i2 (show 0+1<=2 by decide);have Z:=aV g2.good (i:=0) f0 k1;have f1:=Z.isF _ _ _ i2;have x:=bL (Z.isO (g2.isO (g1.isO hv)));have g4:=aV Z.good (i:=1) f1 p;have y:=aH (g4.isF _ _ _ f1);have z:=hid (fun Y a (c:RC w G R Y a hk)=>Fb c v hv);have A:=hid (fun Y a (c:RC w G R Y a hk)=>wM c K S h0 hg);have B:=hid (fun Y a (c:RC w G R Y a hk)=>show Calls prog 72 #[E G.p,Ψ (wd hk.rt 4:Nat),I 1,I 0] Y fun e X'=>e= .returned (.bool true)/\Below Y.heap.size Y X' from Fs c (wd hk.rt 4) 1 0 K.l4);have C:=hid (fun Y a (c:RC w G R Y a hk)=>lY c K S hS h0 k h1 e1);have D:=hid (fun Y a (c:RC w G R Y a h1)=>show Calls prog 73 #[E G.p,I 23] Y fun e X'=>e= .returned (Ψ (wd h1.rt 23:Nat))/\Y=X' from AH c 23 δ);have H:=hid (fun Y a (c:RC w G R Y a h1)=>show Calls prog 12 #[E G.p,Ψ (wd h1.rt 23:Nat),I 1,I 2] Y fun e X'=>e=Rt #[Ψ d,I 0]/\∃F',RC w G R X' F' j from lG c (wd h1.rt 23) 2 d j δ e3);have L:=hid (fun Y a (c:RC w G R Y a j)=>show Calls prog 27 #[E G.p,Ψ d,I 0,Ψ k] Y fun e X'=>e= .returned (I 0)/\∃F',RC w G R X' F' (Limb.putF j d 0 k)from gn c f0 (bL (g2.isO q)) k1);have M:=hid (fun Y a (c:RC w G R Y a (Limb.putF j d 0 k))=>show Calls prog 27 #[E G.p,Ψ d,I 1,Ψ v] Y fun e X'=>e= .returned (I 0)/\∃F',RC w G R X' F' (Limb.putF (Limb.putF j d 0 k) d 1 v)from gn c f1 x p);have N:=hid (fun Y a (c:RC w G R Y a (Limb.putF (Limb.putF j d 0 k) d 1 v))=>show Calls prog 74 #[E G.p,I 4,Ψ d] Y fun e X'=>e= .returned (I 0)/\∃F',RC w G R X' F' h3 from Fe c 4 δ d y h3 e5);have O:=hid (fun Y a (c:RC w G R Y a hk)=>c.root (i:=4) δ);have HC:=hid c;generalize Limb.putF (Limb.putF j d 0 k) d 1 v=h5 at*
 generalize Limb.putF j d 0 k=h4 at*
 generalize wd hk.rt 4=r4 at*
 generalize wd h1.rt 23=r23 at*
 clear V e1 e2 e3 e4 e5 g1 i1 g2 i2 q k1 f0 Z f1 x g4 y hg K hv p c;go_enter func28,ntmps28;go_wp2_with fail;refine(z.out _ _ HC.out).mono ?_;rintro e Y1 ⟨rfl,rfl⟩;go_wp2_with fail;refine(A.out _ _ HC.out).mono ?_;rintro e Y2 ⟨rfl,hb⟩;have f:=hid (HC.out.below hb);obtain⟨c2,cr,ix⟩:=O.out _ _ f.out;rw[(φ:((4:Nat):Int)=4)]at ix;clear hb z A HC;go_wp2_with fail;refine(B.out _ _ f.out).mono ?_;rintro e Y3 ⟨rfl,hb⟩;have P:=hid (f.out.below hb);clear hb B f c2 cr ix O;go_wp2_with fail;refine(C.out _ _ P.out).mono ?_;rintro e Y4 ⟨rfl,a,hC⟩;have u:=hid hC;clear hC P C;go_wp2_with fail;refine(D.out _ _ u.out).mono ?_;rintro e Y5 ⟨rfl,rfl⟩;go_wp2_with fail;refine(H.out _ _ u.out).mono ?_;rintro e Y5 ⟨rfl,F2,hC⟩;have Q:=hid hC;clear hC u H D;go_wp2_with fail;refine(L.out _ _ Q.out).mono ?_;rintro e Y6 ⟨rfl,F3,hC⟩;have T:=hid hC;clear hC Q L;go_wp2_with fail;refine(M.out _ _ T.out).mono ?_;rintro e Y7 ⟨rfl,F4,hC⟩;have U:=hid hC;clear hC T M;go_wp2_with fail;refine(N.out _ _ U.out).mono ?_;rintro e Y8 ⟨rfl,F5,hC⟩;have HC7:=hid hC;clear hC U N;go_wp2;go_ret2;exact⟨rfl,F5,HC7.out⟩
end
set_option linter.unusedSectionVars false
variable [Old]
theorem ux(w:World)(v1 v2:Value)(x y:Int)(h1:ApiV w v1 x)(h2:ApiV w v2 y)(lx:(rep x.natAbs).length<=1073741824)(ly:(rep y.natAbs).length<=1073741824):Calls prog 124 #[v1,v2] w fun e w'=>e= .returned (I (fO x y))/\Below w w w':=by
 obtain⟨a1,c1,rfl,hc1,hl1⟩:=h1;obtain⟨a2,c2,rfl,hc2,hl2⟩:=h2;obtain⟨n1,hn1⟩: ∃n,n=(rep x.natAbs).length:=⟨_,rfl⟩;obtain⟨n2,hn2⟩: ∃n,n=(rep y.natAbs).length:=⟨_,rfl⟩;rw[<-hn1]at lx ⊢;rw[<-hn2]at ly ⊢;clear hc1 hc2;obtain⟨W,hWe,r0,r1,hW,hsz⟩:=fG w 24 (.bool (decide (x<0))) (.slice a1 n1 c1) (.bool (decide (y<0))) (.slice a2 n2 c2);obtain⟨c0,c01⟩:=r0.two;obtain⟨c10,c11⟩:=r1.two;have ho:=fV W a1 a2 (rep x.natAbs) (rep y.natAbs) n1 n2 c1 c2 (hl1.below hW) (hl2.below hW) (aB _) (aB _) (bh _) (bh _) hn1 hn2 ω ω;have ho':=fV W a2 a1 (rep y.natAbs) (rep x.natAbs) n2 n1 c2 c1 (hl2.below hW) (hl1.below hW) (aB _) (aB _) (bh _) (bh _) hn2 hn1 ω ω;rw[aE,aE]at ho ho';have HWe:=hid hWe;clear hWe;clear hn1 hn2 hl1 hl2 r0 r1 lx ly;by_cases hx:x<0<;>by_cases hy:y<0
 ·have e:=uq hx hy;rw[e]at ho';have HO:=hid ho';clear ho' ho e;rw[decide_eq_true hx]at c0 HWe ⊢;rw[decide_eq_true hy]at c10 HWe ⊢;clear hx hy;go_enter func124,ntmps124;go_wp2_with fail;rw[<-HWe.out];refine HO.out.mono ?_;rintro e w1 ⟨rfl,q,rfl⟩;go_wp2_with fail;go_ret;exact⟨rfl,io hW q⟩
 ·have e:fO x y= -1:=(by unfold fO;rw[if_pos ω]);rw[e];rw[decide_eq_true hx]at c0 HWe ⊢;rw[decide_eq_false hy]at c10 HWe ⊢;clear hx hy e ho ho';go_enter func124,ntmps124;go_wp2_with fail;rw[<-HWe.out];go_ret;exact⟨rfl,hW⟩
 ·have e:fO x y=1:=(by unfold fO;rw[if_neg ω,if_neg ω]);rw[e];rw[decide_eq_false hx]at c0 HWe ⊢;rw[decide_eq_true hy]at c10 HWe ⊢;clear hx hy e ho ho';go_enter func124,ntmps124;go_wp2_with fail;rw[<-HWe.out];go_ret;exact⟨rfl,hW⟩
 ·have e:=tw (x:=x) (y:=y) ω ω;rw[e]at ho;have HO:=hid ho;clear ho' ho e;rw[decide_eq_false hx]at c0 HWe ⊢;rw[decide_eq_false hy]at c10 HWe ⊢;clear hx hy;go_enter func124,ntmps124;go_wp2_with fail;rw[<-HWe.out];refine HO.out.mono ?_;rintro e w1 ⟨rfl,q,rfl⟩;go_wp2_with fail;go_ret;exact⟨rfl,io hW q⟩
end Go.Proofs.YtfefijlnbhbplaaGreatDoor

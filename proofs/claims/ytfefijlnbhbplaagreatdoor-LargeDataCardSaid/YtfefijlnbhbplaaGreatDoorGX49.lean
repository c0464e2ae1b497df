/- Walks and laws that LargeData asks for. -/
import Derived.Test.YtfefijlnbhbplaaGreatDoorGX48
import Derived.Test.YtfefijlnbhbplaaGreatDoorGX47
set_option linter.unusedVariables false
set_option linter.unusedSimpArgs false
set_option maxRecDepth 1000000
set_option maxHeartbeats 12800000
namespace Go.Proofs.YtfefijlnbhbplaaGreatDoor
open Go Lib Go.RowKit Limb Go.Proofs.Tryz
theorem E9(h:Hp)(z:Int):(mkI h z).2.1=0∨(mkI h z).2.1=4:=by
 unfold mkI;split
 ·exact .inl rfl
 ·split
  ·exact .inl rfl
  ·exact .inr rfl
theorem Dy(h:Hp)(t:List UInt8):(mkT h t).2.1=0∨(mkT h t).2.1=4:=by
 unfold mkT;split
 ·exact .inl rfl
 ·exact .inr rfl
section
variable {w:World} {G:RFoot} {h:Hp}
theorem pF(H:RefAt w G h)(number:Int)(r:Nat)(a:Option Addr)(n c:Nat)(hn:n≠1):Calls prog 14 #[E G.p,I number,Ψ r,.slice a n c] w fun e w'=>e=Rt #[Ψ (0:Nat),I (0:Nat)]/\w=w':=by
 obtain⟨c2,-,-⟩:=H.root (i:=0) δ;have d:((n:Int) != 1)=true:=by rw[bne_iff_ne];omega
 have d':(n != 1)=true:=by rw[bne_iff_ne];exact hn
 clear H hn;go_enter func14,ntmps14;go_wp2_with fail;go_ret2;exact⟨rfl,rfl⟩
theorem BQ(H:RefAt w G h)(h5:5<=w.heap.size)(k:Fine h)(number:Int)(r q:Nat)(hr:r<4294967296)(hq:q<4294967296)(ga c:Nat)(ha:Row w ga 26 [Ψ (q:Nat)]):Calls prog 14 #[E G.p,.int .i64 number,Ψ r,M ga 1 c] w fun e w'=>e=Rt #[Ψ (gy h number.toNat r q).1,.int .i64 (gy h number.toNat r q).2.1]/\RMoved w G w' (gy h number.toNat r q).2.2:=by
 obtain⟨I,hI⟩: ∃I:Old,I.top=w.heap.size:=⟨⟨_⟩,rfl⟩;obtain⟨o0,k0,h0,hd⟩: ∃o0 k0 h0,gy h number.toNat r q=(o0,k0,h0):=⟨_,_,_,rfl⟩;rw[hd];obtain⟨c2,-,-⟩:=H.root (i:=0) δ;have hR1:=uz H r hr k.c17;have hR2:=fun X (hb:Below w w X)=>uz (H.below hb) q hq k.c17
 unfold cS at hR1 hR2;have hX:=sY H.good hr;have hY:=sY H.good hq;unfold gy at hd;generalize rdV h r=x at*
 generalize rdV h q=y at*
 generalize rdN h r=b1 at*
 generalize rdN h q=b2 at*
 generalize rdL h r=t1 at*
 generalize rdL h q=t2 at*
 generalize rdC h r=k1 at*
 generalize rdC h q=k2 at*
 obtain⟨n1,hn1⟩: ∃n,n=t1.length:=⟨_,rfl⟩;obtain⟨n2,hn2⟩: ∃n,n=t2.length:=⟨_,rfl⟩;rw[<-hn1]at hR1;rw[<-hn2]at hR2;have HR1:=hid hR1;have HR2:=hid hR2;have HX:=hid hX;have HY:=hid hY;have HD:=hid hd;have HN1:=hid hn1;have HN2:=hid hn2;have HH:=hid H;have HK:=hid k;have H5:=hid h5;have HI:=hid hI;have HA:=hid ha;have HRt:=hid (fun X (hb:Below w w X) i (hi:i<64)=>(H.below hb).root hi);clear hR1 hR2 hX hY hd hn1 hn2 H k h5 hI ha hr hq;go_enter func14,ntmps14;go_wp2_with fail;refine HR1.out.mono ?_;rintro e V1 ⟨a1,c1,rfl,l1,hb1,cp1⟩;(try dsimp only);obtain⟨X1,hX1,x1,hx1,hxs1⟩:=aA V1 24 [.bool b1,.slice a1 n1 c1];have hB1:=hb1.trans (hx1.mono hb1.size);have HX1:=hid hX1;have HR3:=hid (HR2.out X1 hB1);have l1:=l1.below hx1;have CP1:=hid cp1;obtain⟨g1,hg1⟩:=ξ V1.heap.size;rw[<-hg1]at x1;have HG1:=hid hg1;have m0:=(HA.out.below hB1 HA.out.lt).ae 0;simp only[List.getElem?_cons_zero]at m0;clear hX1 HR1 HR2 hx1 hxs1 cp1 hb1 hg1 c2;go_upto_region 4 with fail
 rw[<-HX1.out,<-HG1.out];clear HX1 HG1;go_wp2_with fail;refine HR3.out.mono ?_;rintro e V2 ⟨a2,c2,rfl,l2,hb2,cp2⟩;(try dsimp only);obtain⟨X2,hX2,x2,hx2,hxs2⟩:=aA V2 24 [.bool b2,.slice a2 n2 c2];have HX2:=hid hX2;have hB12:=hb2.trans (hx2.mono hb2.size);have hB2:=τ hB1 hB12;have L1:=hid (l1.below hB12);have L2:=hid (l2.below hx2);have CP2:=hid (cp2.mono (show w.heap.size<=X1.heap.size from hB1.size));have x1:=x1.below hB12 x1.lt;obtain⟨g2,hg2⟩:=ξ V2.heap.size;rw[<-hg2]at x2;have HG2:=hid hg2;obtain⟨z0,z1⟩:=x1.two;obtain⟨u0,u1⟩:=x2.two;have HB2:=hid hB2;clear hX2 hb2 hx2 hxs2 HR3 hB1 hB12 hB2 l1 l2 cp2 hg2 x1 x2 m0;by_cases hk:k1=0/\k2=0
 ·obtain⟨e1,e2⟩:=hk;subst e1 e2;obtain⟨p1,p2,p3⟩:=HX.out rfl;obtain⟨p4,p5,p6⟩:=HY.out rfl;have h1:RIn X2 x a1 n1 c1:=⟨⟨by rw[HN1.out,p2],by rw[HN1.out,p2];exact p3,by rw[<-p2];exact L1.out⟩,by rw[HI.out];exact CP1.out⟩;have h2:RIn X2 y a2 n2 c2:=⟨⟨by rw[HN2.out,p5],by rw[HN2.out,p5];exact p6,by rw[<-p5];exact L2.out⟩,by rw[HI.out];exact CP2.out⟩;have hAn:=C9 h1 h2 (by rw[HI.out];exact HB2.out.size) h number;rw[<-p1,<-p4]at hAn;have HAn:=hid hAn;have hd:=HD.out;rw[if_pos ⟨rfl,rfl⟩]at hd;rw[hd]at hAn;have HAn:=hid hAn;clear HX HY HD p1 p2 p3 p4 p5 p6 h1 h2 hd hAn HN1 HN2 L1 L2 CP1 CP2 HA;go_upto_region 5 with fail
  rw[<-HX2.out,<-HG2.out];clear HX2 HG2;go_wp2_with fail;refine HAn.out.mono ?_;unfold DRet;rintro e V ⟨b,a,n,c',s,t,kd,rfl,HV,hb⟩;(try dsimp only);obtain⟨X4,hX4,x4,hx4,hxs4⟩:=aA V 24 [.bool b,.slice a n c'];have HX4:=hid hX4;have hB4:=HB2.out.trans ((hb.trans (hx4.mono hb.size)).mono HB2.out.size);obtain⟨g4,hg4⟩:=ξ V.heap.size;rw[<-hg4]at x4;have HG4:=hid hg4;obtain⟨t0,t1'⟩:=x4.two;have HX4b:=hid hx4;have HB4:=hid hB4;have HH4:=hid (HH.out.below hB4);have HLt:=hid (HH.out.lt);have HRt4:=hid (HRt.out X4 hB4);clear hX4 hx4 hxs4 hb x4 hB4 hg4 HB2 HAn HRt z0 z1 u0 u1;go_upto_region 8 with fail
  rw[<-HX4.out,<-HG4.out];clear HX4 HG4;rcases HV.out with⟨rfl,hm⟩|⟨rfl,z,hm,hb0,hc,hin⟩|⟨rfl,hm,hs0,hs1⟩|⟨rfl,hm⟩
  ·simp only[Prod.mk.injEq]at hm;obtain⟨rfl,rfl,rfl⟩:=hm;have HM:=hid (RMoved.same HH.out HB4.out);clear HV HX4b HB4 HH4 HLt HRt4 HH HK H5;go_wp2_with fail;go_ret2;exact⟨rfl,HM.out⟩
  ·have hmk:=Ag (c:=c') HH4.out (Nat.le_trans H5.out HB4.out.size) HK.out (hin.below HX4b.out) hc (fun g hg=>by rw[HI.out];exact HLt.out g hg);have htwo:=E9 h z;rw[<-hb0]at hmk;unfold iP at hm;generalize mkI h z=m at*
   obtain⟨o,ko,h'⟩:=m;simp only[Prod.mk.injEq]at hm htwo hmk;obtain⟨d1,d2,rfl⟩:=hm;have HM:=hid hmk;clear HV HX4b HH4 HRt4 HH HK H5 HI hmk hb0 hc hin;have HD1:=hid d1;have HD2:=hid d2;have HTw:=hid htwo;clear d1 d2 htwo;go_wp2_with fail;refine HM.out.mono ?_;rintro e U ⟨rfl,F',hs⟩;(try dsimp only);have HS:=hid (show RMoved w G U h0 from⟨F',RStep.of_below HB4.out hs HLt.out⟩);clear hs HM HB4 HLt t0 t1';rcases HTw.out with rfl|rfl
   ·obtain rfl:o0=o:=HD1.out;obtain rfl:k0=1:=HD2.out;clear HD1 HD2 HTw;go_wp2_with fail;go_ret2;exact⟨rfl,HS.out⟩
   ·obtain rfl:o0=0:=HD1.out;obtain rfl:k0=2:=HD2.out;clear HD1 HD2 HTw;go_wp2_with fail;go_ret2;exact⟨rfl,HS.out⟩
  ·obtain⟨f2,f19,ix⟩:=HRt4.out 19 δ;obtain⟨cw,W4,hcv,hlay,hb4⟩:=el (P:=prog) X4 9 50 5 s underlying9 underlying50 underlying5;have hmk:=wO (c:=cw) (HH4.out.below hb4) (Nat.le_trans H5.out (Nat.le_trans HB4.out.size hb4.size)) HK.out hlay rfl ω;have htwo:=Dy h s.data.toList;unfold iP at hm;generalize mkT h s.data.toList=m at*
   obtain⟨o,ko,h'⟩:=m;simp only[Prod.mk.injEq]at hm htwo hmk;obtain⟨d1,d2,rfl⟩:=hm;have HB5:=hid (HB4.out.trans (hb4.mono HB4.out.size));obtain⟨sz,hsz2⟩:=ξ s.size;obtain⟨gv,hgv⟩:=ξ X4.heap.size;rw[<-hsz2,<-hgv]at hcv hmk;have HM:=hid hmk;clear HV HX4b HH4 HRt4 HH HK H5 HI hmk hlay hb4 hsz2 hgv HB4 hs0 hs1;have HD1:=hid d1;have HD2:=hid d2;have HTw:=hid htwo;clear d1 d2 htwo;go_wp2_with fail;refine HM.out.mono ?_;rintro e U ⟨rfl,F',hs⟩;(try dsimp only);have HS:=hid (show RMoved w G U h0 from⟨F',RStep.of_below HB5.out hs HLt.out⟩);clear hs HM HB5 HLt t0 t1' hcv f2 f19 ix;rcases HTw.out with rfl|rfl
   ·obtain rfl:o0=o:=HD1.out;obtain rfl:k0=1:=HD2.out;clear HD1 HD2 HTw;go_wp2_with fail;go_ret2;exact⟨rfl,HS.out⟩
   ·obtain rfl:o0=0:=HD1.out;obtain rfl:k0=2:=HD2.out;clear HD1 HD2 HTw;go_wp2_with fail;go_ret2;exact⟨rfl,HS.out⟩
  ·obtain⟨f2,f1,ix1⟩:=HRt4.out 1 δ;obtain⟨-,f3,ix2⟩:=HRt4.out 2 δ;simp only[Prod.mk.injEq]at hm;obtain⟨rfl,rfl,rfl⟩:=hm;have HM:=hid (RMoved.same HH.out HB4.out);clear HV HX4b HB4 HH4 HLt HRt4 HH HK H5 HI t0 t1';cases t with
   |true=>
    go_wp2_with fail;go_ret2;exact⟨rfl,HM.out⟩
   |false=>
    go_wp2_with fail;go_ret2;exact⟨rfl,HM.out⟩
 ·have hd:=HD.out;rw[if_neg hk]at hd;simp only[Prod.mk.injEq]at hd;obtain⟨rfl,rfl,rfl⟩:=hd;have HM:=hid (fun X (hb:Below w w X)=>RMoved.same HH.out hb);clear HX HY HD HN1 HN2 L1 L2 CP1 CP2 HA HK H5 HI HRt HH z0 z1 u0 u1;by_cases e1:k1=0
  ·have e2: ¬k2=0:=fun e=>hk ⟨e1,e⟩
   subst e1;have d2:((k2:Int) != 0)=true:=by rw[bne_iff_ne];omega
   have d2':(k2 != 0)=true:=(by rw[bne_iff_ne];omega);have d3:((k2:Int)==0)=false:=nE
   have d3':(k2==0)=false:=nE;clear e2 hk;go_wp2_with fail;go_ret2;rw[<-HX2.out];exact⟨rfl,HM.out _ HB2.out⟩
  ·have d2:((k1:Int) != 0)=true:=(by rw[bne_iff_ne];omega);have d2':(k1 != 0)=true:=by rw[bne_iff_ne];omega
   have d3:((k1:Int)==0)=false:=nE;have d3':(k1==0)=false:=nE
   clear e1 hk;go_wp2_with fail;go_ret2;rw[<-HX2.out];exact⟨rfl,HM.out _ HB2.out⟩
end
namespace Limb
theorem o7(o:Nat): ∀(l:List Nat) (i:Nat) (h:Hp),(aY o i l h).ws.length=h.ws.length/\(aY o i l h).last=h.last
 |[],_,_=>⟨rfl,rfl⟩
 |x :: l,i,h=>by
  have:=o7 o l (i+1) (putF h o i x);exact⟨this.1.trans (ie _ _ _),this.2⟩
theorem DZ(h:Hp)(o:Nat)(b:Bool)(l:List Nat):(mkH h o b l).ws.length=h.ws.length/\(mkH h o b l).last=h.last:=by
 unfold mkH;have:=o7 o l 1 (if b=true then putF h o 0 1 else h);cases b with
 |true=>exact⟨this.1.trans (ie _ _ _),this.2⟩
 |false=>exact this
theorem Bq{h h1:Hp}{o:Nat}{b:Bool}{l:List Nat}(k:Good h)(hp:aW h (wd h.rt 17) 3 (1+l.length)=some (o,h1))(hlim:Lim l)(hl:l.length<=1024):Grow h (mkH h1 o b l):=by
 obtain⟨g1,i1⟩:=bm k δ δ (show 1+l.length<=65535 by omega) hp
 obtain⟨h2,hh2,gg⟩: ∃h2,h2=(if b=true then putF h1 o 0 1 else h1)/\Grow h1 h2:=by
  cases b with
  |false=>exact⟨h1,rfl,Grow.refl g1.good⟩
  |true=>exact⟨_,rfl,grow_put3 g1.good (aO i1 (show 0+1<=1+l.length by omega)) δ⟩
 obtain⟨-,a2,-⟩:=mH o l 1 h2 gg.good (gg.isF _ _ _ i1) hlim;have hM:mkH h1 o b l=aY o 1 l h2:=by unfold mkH;rw[<-hh2]
 rw[hM];exact(g1.trans gg).trans a2
theorem uD{h:Hp}{c n:Nat}(k:cU h c=true)(hl:h.ws.length+3+n<=h.size)(ht:h.last<4294967295): ∃o h',aW h c 3 n=some (o,h')/\h'.ws.length=h.ws.length+3+n/\h'.last=h.last+1:=by
 have hr:de h n=true:=by unfold de;rw[dT,dT];rfl
 refine⟨_,_,by unfold aW;rw[if_pos (by rw[k,hr];rfl)],?_,rfl⟩;rw[gW,List.length_replicate]
theorem Bu{h:Hp}{z:Int}(k:Good h)(hl:(rep z.natAbs).length<=60)(hw:h.ws.length+64<=h.size)(ht:h.last<4294967295)(h17:isO h (wd h.rt 17)=true):(mkI h z).2.1=0/\Grow h (mkI h z).2.2/\(mkI h z).2.2.ws.length<=h.ws.length+64/\(mkI h z).2.2.last<=h.last+1:=by
 unfold mkI;split
 ·exact⟨rfl,Grow.refl k,Nat.le_add_right _ _,Nat.le_add_right _ _⟩
 ·obtain⟨o,h1,e1,e2,e3⟩:=uD (n:=1+(rep z.natAbs).length) (bN h17) ω ht;rw[e1];obtain⟨q1,q2⟩:=DZ h1 o (decide (z<0)) (rep z.natAbs);refine⟨rfl,Bq k e1 (aB _) ω,?_,?_⟩
  ·show(mkH h1 o (decide (z<0)) (rep z.natAbs)).ws.length<=_
   omega
  ·show(mkH h1 o (decide (z<0)) (rep z.natAbs)).last<=_
   omega
end Limb
theorem Fine.grow{h h':Hp}(k:Fine h)(g:Limb.Grow h h')(hl:h'.last≠4294967295):Fine h':=
 ⟨by rw[g.rt];exact g.isO k.c17,by rw[g.rt];exact g.isO k.c19,hl⟩
structure Bd (w:World) (F:Foot) (G:RFoot) (rs:List (Nat×TypeId×List Value)) (X:World) (F':Foot) (G':RFoot) (h g:Hp):Prop where
 hp:HeapAt X F' h
 rf:RefAt X G' g
 ap: ∀b∈F'.l,b∉G'.l
 ff: ∀b∈F'.l,w.heap.size<=b
 fg: ∀b∈G'.l,w.heap.size<=b
 bel:Below w w X
 fp:F'.p=F.p
 gp:G'.p=G.p
 ggr:G'.gr=G.gr
 low:5<=w.heap.size
 rows: ∀p∈rs,Row X p.1 p.2.1 p.2.2/\p.1∉F'.l/\p.1∉G'.l
section
variable {w X X':World} {F F' F'':Foot} {G G' G'':RFoot} {rs:List (Nat×TypeId×List Value)} {h h' g g':Hp}
theorem Bd.stepF(c:Bd w F G rs X F' G' h g)(s:Step X F' X' F'' h'):Bd w F G rs X' F'' G' h' g:=
 ⟨s.1,c.rf.only s.2.2 (fun q hq e=>c.ap q e hq),fun b hb e=>by
  rcases s.2.1.mem b hb with x|x
  ·exact c.ap b x e
  ·have:=c.rf.lt b e;omega,fun b hb=>by
  rcases s.2.1.mem b hb with x|x
  ·exact c.ff b x
  ·have:=c.bel.size;omega,c.fg,c.bel.trans (s.2.2.ah c.bel.size c.ff),s.2.1.p.trans c.fp,c.gp,c.ggr,c.low,fun p hp=>by
  obtain⟨r,n1,n2⟩:=c.rows p hp;refine⟨s.beside r n1,fun e=>?_,n2⟩;rcases s.2.1.mem _ e with x|x
  ·exact n1 x
  ·have:=r.lt;omega⟩
theorem Bd.stepG(c:Bd w F G rs X F' G' h g)(s:RStep X G' X' G'' g'):Bd w F G rs X' F' G'' h g':=
 ⟨c.hp.only s.2.2 (fun q hq e=>c.ap q hq e) (fun e=>by have:=c.rf.ge _ e;omega),s.1,fun b hb e=>by
  rcases s.2.1.mem b e with x|x
  ·exact c.ap b hb x
  ·have:=c.hp.lt b hb;omega,c.ff,fun b hb=>by
  rcases s.2.1.mem b hb with x|x
  ·exact c.fg b x
  ·have:=c.bel.size;omega,c.bel.trans (s.2.2.ah c.bel.size c.fg),c.fp,s.2.1.p.trans c.gp,s.2.1.gr.trans c.ggr,c.low,fun p hp=>by
  obtain⟨r,n1,n2⟩:=c.rows p hp;refine⟨s.beside r n2,n1,fun e=>?_⟩;rcases s.2.1.mem _ e with x|x
  ·exact n2 x
  ·have:=r.lt;omega⟩
theorem Bd.below(c:Bd w F G rs X F' G' h g)(hb:Below X X X'):Bd w F G rs X' F' G' h g:=
 ⟨c.hp.below hb,c.rf.below hb,c.ap,c.ff,c.fg,c.bel.trans (hb.mono c.bel.size),c.fp,c.gp,c.ggr,c.low,fun p hp=>⟨(c.rows p hp).1.below hb (c.rows p hp).1.lt,(c.rows p hp).2⟩⟩
theorem Bd.bf(c:Bd w F G rs X F' G' h g):5<=X.heap.size:=Nat.le_trans c.low c.bel.size
theorem Bd.add(c:Bd w F G rs X F' G' h g){b:Nat}{e:TypeId}{cs:List Value}(hb:Below X X X')(hr:Row X' b e cs)(hn:X.heap.size<=b):Bd w F G ((b,e,cs) :: rs) X' F' G' h g:=
 have d:=c.below hb
 ⟨d.hp,d.rf,d.ap,d.ff,d.fg,d.bel,d.fp,d.gp,d.ggr,d.low,fun p hp=>by
  rcases List.mem_cons.1 hp with rfl|hp
  ·exact⟨hr,fun x=>by have:=c.hp.lt _ x;omega,fun x=>by have:=c.rf.lt _ x;omega⟩
  ·exact d.rows p hp⟩
theorem Bd.keep(c:Bd w F G rs X F' G' h g){qs:List (Nat×TypeId×List Value)}(hq: ∀p∈qs,p∈rs):Bd w F G qs X F' G' h g:=⟨c.hp,c.rf,c.ap,c.ff,c.fg,c.bel,c.fp,c.gp,c.ggr,c.low,fun p hp=>c.rows p (hq p hp)⟩
theorem Bd.capF(c:Bd w F G rs X F' G' h g){b:Bool}{a:Option Addr}{n:Nat}{l:List Nat}(k:Came w b a n l):Came X b a n l/\(0<l.length->∀q off,a=some ⟨q,off,none⟩->q∉F'.l)/\(0<l.length->∀q off,a=some ⟨q,off,none⟩->q∉G'.l):=by
 have hlt:0<l.length->∀q off,a=some ⟨q,off,none⟩->q<w.heap.size:=fun hl q off e=>by
  obtain⟨q',off',x1,_⟩:=k.1;obtain⟨y1,y2⟩:=x1 hl;rw[e]at y1;have:q=q':=by injection y1 with y1;injection y1
  omega
 exact⟨k.below c.bel,fun hl q off e hm=>by have:=hlt hl q off e;have:=c.ff q hm;omega,fun hl q off e hm=>by have:=hlt hl q off e;have:=c.fg q hm;omega⟩
end
section
variable {w X X':World} {F F' F'':Foot} {G G' G'':RFoot} {rs:List (Nat×TypeId×List Value)} {h h' g g':Hp}
theorem ED{z:Int}{a:Option Addr}{n:Nat}(k:Came X (decide (z<0)) a n (rep z.natAbs))(hl:n<=1024):In X z a n:=⟨k.2.2.1,hl,k.1⟩
theorem tU(c:Bd w F G rs X F' G' h g)(k:Fine h){z:Int}{a:Option Addr}{n cap:Nat}(hc:Came w (decide (z<0)) a n (rep z.natAbs))(hl:n<=1024):Calls prog 8 #[E F.p,Ω (decide (z<0)) a n cap] X fun e X'=>e=Rt #[Ψ (mkI h z).1,I (mkI h z).2.1]/\∃F'',Bd w F G rs X' F'' G' (mkI h z).2.2 g:=by
 obtain⟨k1,k2,k3⟩:=c.capF hc;rw[<-c.fp];exact(tX (c:=cap) c.hp k (ED k1 hl) k2).mono fun e X' ⟨x,F'',y⟩=>⟨x,F'',c.stepF y⟩
theorem uB(c:Bd w F G rs X F' G' h g)(k:Fine g){z:Int}{a:Option Addr}{n cap:Nat}(hc:Came w (decide (z<0)) a n (rep z.natAbs))(hl:n<=1024):Calls prog 9 #[E G.p,Ω (decide (z<0)) a n cap] X fun e X'=>e=Rt #[Ψ (mkI g z).1,I (mkI g z).2.1]/\∃G'',Bd w F G rs X' F' G'' h (mkI g z).2.2:=by
 obtain⟨k1,k2,k3⟩:=c.capF hc;rw[<-c.gp];exact(uZ (c:=cap) c.rf c.bf k (ED k1 hl) k3).mono fun e X' ⟨x,G'',y⟩=>⟨x,G'',c.stepG y⟩
theorem zD(c:Bd w F G rs X F' G' h g)(n o:Nat)(h':Hp)(hn:n<=65535)(hp:aW h 0 3 n=some (o,h')):Calls prog 11 #[E F.p,Ψ (0:Nat),I (3:Nat),I n] X fun e X'=>e=Rt #[Ψ o,I 0]/\∃F'',Bd w F G rs X' F'' G' h' g:=by
 rw[<-c.fp];exact(g9 c.hp 0 3 n o h' δ δ hn hp).mono fun e X' ⟨x,F'',y⟩=>⟨x,F'',c.stepF y⟩
theorem yE(c:Bd w F G rs X F' G' h g)(n o:Nat)(g':Hp)(hn:n<=65535)(hp:aW g 0 3 n=some (o,g')):Calls prog 12 #[E G.p,Ψ (0:Nat),I (3:Nat),I n] X fun e X'=>e=Rt #[Ψ o,I 0]/\∃G'',Bd w F G rs X' F' G'' h g':=by
 rw[<-c.gp];exact(nc c.rf c.bf 0 3 n o g' (.inr rfl) hn hp).mono fun e X' ⟨x,G'',y⟩=>⟨x,G'',c.stepG y⟩
theorem Dl(c:Bd w F G rs X F' G' h g):Calls prog 10 #[E F.p] X fun e X'=>e= .returned (I h.ws.length)/\X=X':=by
 rw[<-c.fp];exact tH c.hp
theorem CF(c:Bd w F G rs X F' G' h g):Calls prog 16 #[E F.p] X fun e X'=>e= .returned (Ψ h.last)/\X=X':=by
 rw[<-c.fp];exact mc c.hp
theorem BU{ga:Nat}{q:Nat}(c:Bd w F G rs X F' G' h g)(k:Fine h)(number:Int)(r:Nat)(hr:r<4294967296)(hq:q<4294967296)(cap:Nat)(hm:(ga,26,[.int .u32 (q:Nat)])∈rs):Calls prog 13 #[E F.p,I number,Ψ r,M ga 1 cap] X fun e X'=>e=Rt #[Ψ (gy h number.toNat r q).1,I (gy h number.toNat r q).2.1]/\∃F'',Bd w F G rs X' F'' G' (gy h number.toNat r q).2.2 g:=by
 obtain⟨r1,r2,r3⟩:=c.rows _ hm;rw[<-c.fp];exact(ww c.hp k number r q hr hq ga cap r1 r2).mono fun e X' ⟨x,F'',y⟩=>⟨x,F'',c.stepF y⟩
theorem Cm{ga:Nat}{q:Nat}(c:Bd w F G rs X F' G' h g)(k:Fine g)(number:Int)(r:Nat)(hr:r<4294967296)(hq:q<4294967296)(cap:Nat)(hm:(ga,26,[.int .u32 (q:Nat)])∈rs):Calls prog 14 #[E G.p,I number,Ψ r,M ga 1 cap] X fun e X'=>e=Rt #[Ψ (gy g number.toNat r q).1,I (gy g number.toNat r q).2.1]/\∃G'',Bd w F G rs X' F' G'' h (gy g number.toNat r q).2.2:=by
 obtain⟨r1,r2,r3⟩:=c.rows _ hm;rw[<-c.gp];exact(BQ c.rf c.bf k number r q hr hq ga cap r1).mono fun e X' ⟨x,G'',y⟩=>⟨x,G'',c.stepG y⟩
end
namespace Limb
theorem zH(z:Int):dE z<4294967296:=by
 have e:dE z=((2*z+1)%4294967296).toNat:=rfl;omega
theorem AU{h:Hp}{z:Int}(k:Good h)(hl:(rep z.natAbs).length<=60):(mkI h z).1<4294967296:=by
 unfold mkI;split
 ·exact zH z
 ·split
  ·rename_i o h1 e;obtain⟨g,i⟩:=bm k δ δ (show 1+(rep z.natAbs).length<=65535 by omega) e;exact aM g.good (aH i)
  ·show 0<4294967296;decide
def vP(h:Hp)(number:Int)(r:Nat)(s:Option Nat):Nat×Nat×Hp:=
 match s with
 |some q=>gy h number.toNat r q
 |none=>(0,0,h)
end Limb
theorem lH{n:Nat}{h:Hp}(k:rS n h):Fine h:=
 ⟨aH (k.cls 17 δ δ),aH (k.cls 19 δ δ),by rw[k.last];decide⟩
theorem Bj{hE:Hp}(K:rS 4000 hE){z1 z2:Int}(l1:(rep z1.natAbs).length<=60)(l2:(rep z2.natAbs).length<=60): ∃x u hA hB,mkI hE z1=(x,0,hA)/\mkI hA z2=(u,0,hB)/\Fine hA/\Fine hB/\x<4294967296/\u<4294967296/\hB.size=4000/\hB.ws.length<=1294/\hB.last<=156/\Limb.Good hB:=by
 have k0:=lH K;have s0:=K.size;have n0:=K.len;have t0:=K.last;obtain⟨p1,p2,p3,p4⟩:=Bu K.good l1 ω ω k0.c17;have p5:=AU K.good l1;obtain⟨x,ex,hA,e1⟩: ∃x ex hA,mkI hE z1=(x,ex,hA):=⟨_,_,_,rfl⟩;rw[e1]at p1 p2 p3 p4 p5;simp only at p1 p2 p3 p4 p5;subst p1;have k1:=k0.grow p2 ω;have s1:=p2.size;obtain⟨q1,q2,q3,q4⟩:=Bu p2.good l2 ω ω k1.c17;have q5:=AU p2.good l2;obtain⟨u,eu,hB,e2⟩: ∃u eu hB,mkI hA z2=(u,eu,hB):=⟨_,_,_,rfl⟩;rw[e2]at q1 q2 q3 q4 q5;simp only at q1 q2 q3 q4 q5;subst q1;have s2:=q2.size;exact⟨x,u,hA,hB,e1,e2,k1,k1.grow q2 ω,p5,q5,ω,ω,ω,q2.good⟩
theorem Aa{hB:Hp}(g:Limb.Good hB)(k:Fine hB)(hs:hB.size=4000)(ht:hB.last<=156)(n:Nat)(hn:hB.ws.length+3+n<=4000): ∃o hC,aW hB 0 3 n=some (o,hC)/\Fine hC:=by
 obtain⟨o,hC,e1,e2,e3⟩:=uD (c:=0) (show cU hB 0=true from rfl) ω ω (h:=hB) (n:=n);obtain⟨gr,-⟩:=bm g δ δ (show n<=65535 by omega) e1;exact⟨o,hC,e1,k.grow gr ω⟩
def EY(rs:List (Nat×TypeId×List Value))(s:Option Nat)(a:Option Addr)(n:Nat):Prop:=
 match s with
 |some q=>n=1/\q<4294967296/\∃ga,a=some ⟨ga,0,none⟩/\(ga,26,[.int .u32 (q:Nat)])∈rs
 |none=>n≠1
section
variable {w X X':World} {F F' F'':Foot} {G G' G'':RFoot} {rs:List (Nat×TypeId×List Value)} {h h' g g':Hp}
theorem Eu(c:Bd w F G rs X F' G' h g)(k:Fine h)(number:Int)(r:Nat)(hr:r<4294967296)(s:Option Nat)(a:Option Addr)(n cap:Nat)(hm:EY rs s a n):Calls prog 13 #[E F.p,I number,Ψ r,.slice a n cap] X fun e X'=>e=Rt #[Ψ (vP h number r s).1,I (vP h number r s).2.1]/\∃F'',Bd w F G rs X' F'' G' (vP h number r s).2.2 g:=by
 cases s with
 |some q=>
  obtain⟨rfl,hq,ga,rfl,hi⟩:=hm;exact BU c k number r hr hq cap hi
 |none=>
  rw[<-c.fp];exact(mU c.hp number r a n cap hm).mono fun e X' ⟨x,y⟩=>⟨x,F',by rw[<-y];exact c⟩
theorem Er(c:Bd w F G rs X F' G' h g)(k:Fine g)(number:Int)(r:Nat)(hr:r<4294967296)(s:Option Nat)(a:Option Addr)(n cap:Nat)(hm:EY rs s a n):Calls prog 14 #[E G.p,I number,Ψ r,.slice a n cap] X fun e X'=>e=Rt #[Ψ (vP g number r s).1,I (vP g number r s).2.1]/\∃G'',Bd w F G rs X' F' G'' h (vP g number r s).2.2:=by
 cases s with
 |some q=>
  obtain⟨rfl,hq,ga,rfl,hi⟩:=hm;exact Cm c k number r hr hq cap hi
 |none=>
  rw[<-c.gp];exact(pF c.rf number r a n cap hm).mono fun e X' ⟨x,y⟩=>⟨x,G',by rw[<-y];exact c⟩
theorem zQ(c:Bd w F G rs X F' G' h g):Calls prog 15 #[E F.p] X fun e X'=>(∃g' c',e= .returned (M g' h.ws.length c')/\Sl X' g' 25 h.ws.length c' (aC .u32 h.ws))/\Bd w F G rs X' F' G' h g:=by
 rw[<-c.fp];exact(kj c.hp).mono fun e X' ⟨⟨g',c',x,_,y⟩,hb⟩=>⟨⟨g',c',x,y⟩,c.below hb⟩
theorem EP(c:Bd w F G rs X F' G' h g): ∃gw cw,(∀Y,Below X X Y->Y.cell? ⟨G.p,1,none⟩=O (M gw g.ws.length cw)/\Y.cell? ⟨G.p,3,none⟩=O (Ψ g.last))/\∀k,k<g.ws.length->(∀W,(Instr.indexAt 22 (M gw g.ws.length cw) (I k)).run prog W= .ok (Θ gw k) W)/\∀Y,Below X X Y->Y.cell? ⟨gw,k,none⟩=O (Ψ (wd g.ws k:Nat)):=by
 obtain⟨cw,cb,rr,sl,-⟩:=c.rf.row;rw[c.gp]at rr;refine⟨G'.gw,cw,fun Y hY=>?_,fun k hk=>⟨fun W=>sl.index 22 underlying22 aK W .i64 k hk,fun Y hY=>?_⟩⟩
 ·have r:=rr.below hY rr.lt;exact⟨r.ae 1,r.ae 3⟩
 ·have cx:=(sl.below hY).cell hk;rw[aJ hk]at cx;exact cx
end
end Go.Proofs.YtfefijlnbhbplaaGreatDoor

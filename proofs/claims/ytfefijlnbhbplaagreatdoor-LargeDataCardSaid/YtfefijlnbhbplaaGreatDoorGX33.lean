/- Walks and laws that LargeData asks for. -/
import Derived.Test.YtfefijlnbhbplaaGreatDoorGX31
import Derived.Test.YtfefijlnbhbplaaGreatDoorGX32
import Derived.Test.YtfefijlnbhbplaaGreatDoorGX29
import Derived.Test.YtfefijlnbhbplaaGreatDoorGX22
set_option linter.unusedVariables false
set_option linter.unusedSimpArgs false
set_option maxRecDepth 1000000
set_option maxHeartbeats 6400000
namespace Go.Proofs.YtfefijlnbhbplaaGreatDoor
open Go Lib Go.RowKit Limb Tryz
theorem y7{z:Int}(h:bC z=true):ez z=true:=by
 unfold bC at h;unfold ez;simp only[Bool.and_eq_true,decide_eq_true_eq]at h ⊢;omega
section
variable (w:World) (neg:Bool) (a:Option Addr) (l:List Nat) (m cap:Nat)
theorem dB(g:Came w neg a m l):Calls prog 37 #[Ω neg a m cap] w fun e w'=>(∃v,e=Rt #[I v,.bool (bn neg l&&bC (signed neg (val l)))]/\((bn neg l&&bC (signed neg (val l)))=true->v=signed neg (val l)))/\Below w w w':=by
 obtain⟨W,k,p⟩: ∃W,W=w.alloc (.cells #[.bool neg,.slice a m cap] 24)/\Below w w W:=⟨_,rfl,(Below.refl _ _).alloc ι _⟩;have j:=hid k;have d:=hid p;clear k;have f:=zV W neg a l m cap (g.below p).1 g.2.1 g.2.2.1 g.2.2.2;generalize signed neg (val l)=z at*
 cases hb:bn neg l&&ez z with
 |false=>
  have t:(bn neg l&&bC z)=false:=by
   rw[Bool.and_eq_false_iff]at hb ⊢;rcases hb with e|e
   ·exact .inl e
   ·right
    cases h:bC z with
    |false=>rfl
    |true=>rw[y7 h]at e;cases e
  rw[t];rw[hb]at f;have q:=hid (show Calls prog 87 #[Ω neg a m cap] W fun e w'=>e=Rt #[I 0,I 1]/\Below W.heap.size W w' from f);clear f hb t g p;go_enter func37,ntmps37;go_wp2_with fail;rw[<-j.out];refine(q.out).mono ?_;rintro e V ⟨rfl,hB⟩;(try dsimp only);have r:=hid (d.out.trans (hB.mono d.out.size));clear hB;go_wp2_with fail;go_ret2;exact⟨⟨0,rfl,fun e=>by cases e⟩,r.out⟩
 |true=>
  rw[Bool.and_eq_true]at hb;rw[hb.1,hb.2]at f;rw[hb.1,Bool.true_and];have q:=hid (show Calls prog 87 #[Ω neg a m cap] W fun e w'=>e=Rt #[I z,I 0]/\Below W.heap.size W w' from f);have u:=hid (fun X=>show Calls prog 88 #[I z] X fun e w'=>e= .returned (.bool (bC z))/\X=w' from uO X z);generalize bC z=b at*
  clear f hb g p;go_enter func37,ntmps37;go_wp2_with fail;rw[<-j.out];refine(q.out).mono ?_;rintro e V ⟨rfl,hB⟩;(try dsimp only);have r:=hid (d.out.trans (hB.mono d.out.size));clear hB;go_wp2_with fail;refine(u.out V).mono ?_;rintro e x ⟨rfl,rfl⟩;(try dsimp only);go_wp2_with fail;go_ret2;exact⟨⟨z,rfl,fun _=>rfl⟩,r.out⟩
theorem jx(q:Came w neg a m l):Calls prog 41 #[Ω neg a m cap] w fun e w'=>(∃v b,e=Rt #[I v,.bool b]/\(bn neg l=true->b=bC (signed neg (val l)))/\(b=true->v=signed neg (val l)))/\Below w w w':=by
 obtain⟨W,f,k⟩: ∃W,W=w.alloc (.cells #[.bool neg,.slice a m cap] 24)/\Below w w W:=⟨_,rfl,(Below.refl _ _).alloc ι _⟩;have g:=hid f;have d:=hid k;clear f;have j:=yn W neg a l m cap (q.below k);unfold sV at j;have r:=hid j;clear j;have t:=hid (fun X z=>show Calls prog 91 #[I z] X fun e w'=>e= .returned (.bool (bC z))/\X=w' from CR X z);generalize signed neg (val l)=z at*
 clear q k;go_enter func41,ntmps41;go_wp2_with fail;rw[<-g.out];refine(r.out).mono ?_;rintro e V ⟨v,ok,rfl,HR,hB⟩;(try dsimp only);have p:=hid (d.out.trans (hB.mono d.out.size));clear hB;cases ok with
 |false=>
  have u:=hid (show bn neg l=true->false=bC z from fun h=>by
   have:=HR.out.1 h
   cases e:bC z with
   |false=>rfl
   |true=>rw[y7 e]at this;cases this)
  clear HR;go_wp2_with fail;go_ret2;exact⟨⟨v,false,rfl,u.out,fun e=>by cases e⟩,p.out⟩
 |true=>
  obtain rfl:=HR.out.2 rfl;go_wp2_with fail;refine(t.out V v).mono ?_;rintro e x ⟨rfl,rfl⟩;(try dsimp only);go_wp2_with fail;go_ret2;exact⟨⟨v,bC v,rfl,fun _=>rfl,fun _=>rfl⟩,p.out⟩
end
section
variable {w:World} {G:RFoot} {h:Hp}
theorem EC(H:RefAt w G h)(h5w:5<=w.heap.size)(c f sp:Nat)(fs:List Nat)(gf m:Nat)(hm:m=fs.length)(rf:Row w gf 25 (aC .u32 fs))(hgf:gf∉G.l)(hok:(⟨fs.length,f,sp,c,h.last+1⟩:Hd).Ok)(hr:de h m=true)(hG:Limb.Good (bU h f sp c fs)):Calls prog 47 #[E G.p,Ψ c,I f,I sp,.slice (some ⟨gf,0,none⟩) m m] w fun e w'=>e=Rt #[Ψ (kR h:Nat),I 0]/\RMoved w G w' (bU h f sp c fs):=by
 unfold de at hr;rw[Bool.and_eq_true,decide_eq_true_eq,decide_eq_true_eq]at hr;obtain⟨hr1,hr2⟩:=hr;have hsm:=H.small;have hlst:=H.good.last;obtain⟨cw,cb,M0⟩:=RMid.start H;have hbl:(fu h.st).length=h.ws.length:=by rw[fC];exact H.good.len
 obtain⟨A,hla⟩:=ξ (h.last+1);obtain⟨x,hx⟩: ∃x:Hd,x=⟨fs.length,f,sp,c,h.last+1⟩:=⟨_,rfl⟩;have hpk:=fun X=>EO X x (by rw[hx];exact hok)
 have hxV:hdV x= .agg #[I m,I f,I sp,Ψ c,Ψ A]:=by rw[hx,hm,hla];rfl
 have hw3:w3V x.w0 x.cls x.ser= .agg #[Ψ x.w0,Ψ c,Ψ A]:=by rw[hx,hla];rfl
 rw[hxV,hw3]at hpk;have hw0:x.w0=Hd.w0 ⟨fs.length,f,sp,c,h.last+1⟩:=by rw[hx]
 obtain⟨F,hw0'⟩:=ξ x.w0;rw[<-hw0']at hpk hw0;have HPk:=hid hpk;have HW0:=hid hw0;have HLa:=hid hla;have HDone:=hid (fun(gw cw gb cb:Nat) (X:World) (M:RMid w G h (h.last+1) (h.ws++[Hd.w0 ⟨fs.length,f,sp,c,h.last+1⟩,c,h.last+1]++fs) gw cw (fu h.st++[1]++List.replicate (2+fs.length) 0) gb cb X)=>(show RMoved w G X (bU h f sp c fs)from⟨_,M.done hG H.low h5w⟩));have r1:=M0.p;rw[hbl]at r1;have hNew:(kR h:Int)=2*(h.ws.length:Int):=by unfold kR;omega
 obtain⟨n,hn⟩:=ξ h.ws.length;rw[<-hn]at r1 hr1 hsm hbl hNew;rw[hNew];have HN:=hid hn;have HBl:=hid hbl;have HM:=hid hm;have HRF:=hid (fun X (ho:Only G.l w X)=>show Row X gf 25 (aC .u32 fs)from rf.only ho hgf);have d1:decide ((h.size:Int)<(n:Int)+3+(m:Int))=false:=dF;have q1:((h.last:Int)==4294967295)=false:=nE
 have q2:(h.last==4294967295)=false:=nE
 have es:(h.last:Int)+1=(A:Int):=ω
 have lalt:A<4294967296:=ω
 have mle:m<=1048576:=ω
 have fle:f<=4:=hok.f4;have sle:sp<=3:=hok.spare;have HH:=hid H;clear hx hpk hxV hw3 hw0 hw0' hla hn hm hbl hNew rf hgf hok hr2 hG hlst;go_enter func47,ntmps47;go_wp2_with fail;refine bH (fun Y=>Below w w Y) κ κ (Below.refl _ _).drew ?_;show wpQuiet _ _ _ _ [_,_,_,_,_,_,_,_,_,_,_,_,_,_,_,_,_,_,_,_,_] _
 refine qa (E G.p) ?_;refine qa (E G.p) ?_;refine qa (Θ G.p 1) ?_;refine qa (.slice (some ⟨G.gw,0,none⟩) n cw) ?_ (f:=by intro Y hC;have q:=(r1.below hC r1.lt).ae 1;simp only[yB,yC]at q;go_simp);refine qa (I n) ?_;refine qa (I ((n:Int)+3)) ?_ (f:=by intro Y hC;go_simp;(first |done|exact aF ω ω|omega));refine qa (.slice (some ⟨gf,0,none⟩) m m) ?_;refine qa (I m) ?_;refine qa (I ((n:Int)+3+(m:Int))) ?_ (f:=by intro Y hC;go_simp;(first |done|exact aF ω ω|omega));refine qa (E G.p) ?_;refine qa (E G.p) ?_;refine qa (E G.p) ?_;refine qa (I h.size) ?_ (f:=by intro Y hC;have q:=(r1.below hC r1.lt).ae 0;simp only[yB,yC]at q;go_simp);refine qa (.bool false) ?_;refine qa (.bool false) ?_;refine qa (E G.p) ?_;refine qa (E G.p) ?_;refine qa (Θ G.p 3) ?_;refine qa (Ψ h.last) ?_ (f:=by intro Y hC;have q:=(r1.below hC r1.lt).ae 3;simp only[yB,yC]at q;go_simp);refine qa (.bool false) ?_;refine qa (.bool false) ?_;refine wpQuiet_nil ?_;intro V hbV;have M1:=M0.below hbV;have HM1:=hid M1;obtain⟨c0,c1,c2,c3,c4⟩:=M1.p.cells5;have z3:=M1.p.free 3;have M2:=M1.serial A;obtain⟨Z1,hZ1⟩: ∃Z,Z=V.setCell ⟨G.p,3,none⟩ (Ψ A):=⟨_,rfl⟩;rw[<-hZ1]at M2;obtain⟨k0,k1,k2,k3,k4⟩:=M2.p.cells5;rw[hZ1]at k0 k1 k2 k3 k4;have HZ1:=hid hZ1;have HM2:=hid M2;clear hZ1 M1 M2 r1 M0 c1 c2 c4 hbV q1 q2 d1;go_wp2_with fail;rw[<-HZ1.out];refine(HPk.out Z1).mono ?_;rintro e X1 ⟨rfl,hb⟩;(try dsimp only);have M3:=HM2.out.below hb;clear k0 k1 k2 k3 k4 HM1 HM2 HZ1 HPk hb c0 c3 z3;obtain⟨X2,hX2,rb,hb2,hz2⟩:=aA X1 150 [Ψ F,Ψ c,Ψ A];have M4:=M3.below hb2;have hbxw:w.heap.size<=X1.heap.size:=M3.only.size;have rbN: ∀g e cs,Row X2 g e cs->e≠150->X1.heap.size≠g:=fun g e cs r he=>rb.ne r (Ne.symm he)
 obtain⟨c0,c1,c2,c3,c4⟩:=M3.p.cells5;rw[<-HN.out]at c1;rw[HBl.out]at c4;have hplt:=M3.p.lt
 -- a byte more in the fu
 obtain⟨i8,hi8,z80,z81,z82⟩:=info_parts Ck;have M5:=M4.below ((Below.refl X2 X2).alloc ι (.cells #[.int .u8 1] 5));have rb5:=rb.alloc (.cells #[.int .u8 1] 5);obtain⟨v1,Y1,Q,hg1⟩:=bW (P:=prog) (t:=50) (ty:=50) underlying50 hi8 z80 z81 z82 rfl M5.bk ⟨X2,0,none⟩ 1 1 ω (aC .u8 [1]) rfl (cell_one_new _ _ _) (by simp[aC,Value.oneCell']) (by rw[HBl.out];exact Nat.le_trans (show n+1<=1048577 by omega) δ) (by rw[HBl.out];omega);obtain⟨gb1,cb1,rfl,M6,rp1,ho1⟩:=M5.growB hg1 rfl;have l6:(fu h.st++[1]).length=n+1:=by rw[List.length_append,HBl.out];rfl
 rw[HBl.out]at Q M6 rp1;rw[hz2]at Q
 have rb6:Row (Y1.setCell ⟨G.p,4,none⟩ (.slice (some ⟨gb1,0,none⟩) (n+1) cb1)) X1 150 [Ψ F,Ψ c,Ψ A]:=by
  obtain⟨_,rg⟩:=M5.bk.row;exact(rb5.only ho1 (by simp;exact rb5.ne rg δ)).other (by show X1.heap.size≠G.p;exact(rb5.ne M5.p δ)) _
 have k4:=(rp1.cells5).2.2.2.2;have z4:=rp1.free 4;have HR1:=hid Q;obtain⟨e0,e1,e2,e3,e4⟩:=M6.p.cells5;rw[<-HN.out]at e1;rw[l6]at e4
 -- naughts more in the fu
 obtain⟨v2,Y2,R,hg2⟩:=kZ (P:=prog) (t:=50) (tn:=3) (ty:=50) underlying50 (kn:= .i64) underlying3 hi8 z80 z81 z82 rfl rfl M6.bk .i64 (2+m) ω (by rw[l6];exact Nat.le_trans (show n+1+(2+m)<=2097152+3 by omega) δ) (by rw[l6];omega);rw[show List.replicate (2+m) (Value.int .u8 0)=aC .u8 (List.replicate (2+m) 0)from(aG .u8 _).symm]at hg2;obtain⟨gb2,cb2,rfl,M7,rp2,ho2⟩:=M6.growB hg2 (List.length_replicate);have l7:(fu h.st++[1]++List.replicate (2+m) 0).length=n+1+(2+m):=by rw[List.length_append,l6,List.length_replicate]
 rw[l6]at R M7 rp2
 have T:Row (Y2.setCell ⟨G.p,4,none⟩ (.slice (some ⟨gb2,0,none⟩) (n+1+(2+m)) cb2)) X1 150 [Ψ F,Ψ c,Ψ A]:=by
  obtain⟨_,rg⟩:=M6.bk.row;exact(rb6.only ho2 (by simp;exact rb6.ne rg δ)).other (by show X1.heap.size≠G.p;exact(rb6.ne M6.p δ)) _
 have k4':=(rp2.cells5).2.2.2.2;have z4':=rp2.free 4;rw[Int.natCast_add,(φ:((2:Nat):Int)=2)]at R;have HR2:=hid R;obtain⟨u0,u1,u2,u3,u4⟩:=M7.p.cells5;rw[<-HN.out]at u1;have HM7:=hid M7;have RB7:=hid T;clear Q R M4 M5 M6 M7 rb rb5 rb6 T rp1 rp2 ho1 ho2 hg1 hg2 rbN hz2 hb2 u0 u2 u3 u4 e0 e2 e3 M3;have HL7:=hid l7;clear l6 l7;subst hX2;go_wp2_with(first |(at_builtin;refine Lib.wpList_append_run _ rfl _ _ _ _ rfl _ _ rfl rfl _ _ HR1.out ?_)|(at_builtin;refine Lib.wpList_append_run _ rfl _ _ _ _ rfl _ _ rfl rfl _ _ HR2.out ?_));generalize hZ:Y2.setCell ⟨G.p,4,none⟩ (.slice (some ⟨gb2,0,none⟩) (n+1+(2+m)) cb2)=Z at*
 generalize hbx:X1.heap.size=bx at*
 clear hZ hbx k4 z4 k4' z4' e1 e4 c0 c1 c2 c3 c4 hplt HR1 HR2 hi8 z80 z81 z82;have M7:=HM7.out;have T:=RB7.out;have hpz:=M7.p.lt;have M8:=(M7.below (Below.refl _ Z).drew).below ((Below.refl Z.drew.heap.size Z.drew).alloc ι (.cells #[Ψ F,Ψ c,Ψ A] 25));have rb8:=(T.drew).alloc (.cells #[Ψ F,Ψ c,Ψ A] 25);obtain⟨i32,j,u,v,z⟩:=info_parts bz;have rnew:Row (Z.drew.alloc (.cells #[Ψ F,Ψ c,Ψ A] 25)) Z.heap.size 25 (aC .u32 [F,c,A]):=by unfold Row;exact heap_alloc_new _ _
 obtain⟨v3,Y3,hr3,hg3⟩:=bW (P:=prog) (t:=22) (ty:=22) underlying22 j u v z rfl M8.ws ⟨Z.heap.size,0,none⟩ 3 3 ω (aC .u32 [F,c,A]) rfl (gk rnew) (by simp[aC,Value.oneCell']) (by rw[<-HN.out];exact Nat.le_trans (show n+3<=1048579 by omega) δ) (by rw[<-HN.out];omega);obtain⟨gw1,cw1,rfl,C,rp3,ho3⟩:=M8.growW hg3 rfl;have l9:(h.ws++[F,c,A]).length=n+3:=by rw[List.length_append,<-HN.out];rfl
 rw[<-HN.out]at hr3 C rp3
 have hX9:Row Y3 bx 150 [Ψ F,Ψ c,Ψ A]:=by
  obtain⟨_,rg⟩:=M8.ws.row;exact rb8.only ho3 (by simp;exact rb8.ne rg δ)
 have hbp:bx≠G.p:=rb8.ne M8.p δ;have kq1:=(rp3.cells5).2.1;have zq1:=rp3.free 1;have HR3:=hid hr3;have HM9:=hid C;have hX:Row Z.drew bx 150 [Ψ F,Ψ c,Ψ A]:=T;clear M7 M8 T rb8 j u v z rnew hr3 hg3 C rp3 ho3 HM7 RB7;refine wp_region_held (S:=fun Y=>Row Y bx 150 [Ψ F,Ψ c,Ψ A]) κ ?_;refine tk 0 (E G.p) ?_;refine tk 1 (E G.p) ?_;refine tk 2 (E G.p) ?_;refine tk 3 (Θ G.p 1) ?_;refine tk 5 (E bx) ?_;refine tk 6 (Ψ F) ?_ (y:=fun X hX=>by have q:=hX.ae 0;simp only[yB,yC]at q;go_simp);refine tk 7 (Θ bx 1) ?_;refine tk 8 (Ψ c) ?_ (y:=fun X hX=>by have q:=hX.ae 1;simp only[yB,yC]at q;go_simp);refine tk 9 (Θ bx 2) ?_;refine tk 10 (Ψ A) ?_ (y:=fun X hX=>by have q:=hX.ae 2;simp only[yB,yC]at q;go_simp);refine wpAnyH_all (rs:=[4,11]) κ δ (fun i hi=>?_);simp only[List.mem_cons,List.not_mem_nil,or_false]at hi;rcases hi with rfl|rfl
 ·have U:=hid hX;clear hX;unfold wpOp;go_simp;have hX:=U.out;refine .inl ⟨hX,?_⟩;refine wo 11 ?_;have U:=hid hX;clear hX;unfold wpOp;go_simp;have hX:=U.out;replace hX:=hX.alloc (.cells #[Ψ F,Ψ c,Ψ A] 25);refine .inl ⟨hX,?_⟩;refine wo 12 ?_;refine cZ rfl rfl ?_;refine Lib.wp_append_run _ (.tmp 82) (.tmp 89) 22 22 rfl _ _ rfl rfl _ _ HR3.out ?_;replace hX:=hX9;refine⟨hX,?_⟩;simp only[Act.put,zA,zB,zC];refine tk 13 (E G.p) ?_;refine tk 14 (Θ G.p 1) ?_;refine wo 15 ?_;have U:=hid hX;clear hX;unfold wpOp;go_simp;have hX:=U.out.other (a:=⟨G.p,1,none⟩) hbp (.slice (some ⟨gw1,0,none⟩) (n+3) cw1);refine .inl ⟨hX,?_⟩;refine wpAnyH_done κ ?_ _;have C:=HM9.out;have hpz9:=C.p.lt;have ho9:=C.only;have rf9:=HRF.out _ ho9;obtain⟨i32,j,u,v,z⟩:=info_parts bz;obtain⟨v4,Y4,L,hg4⟩:=bW (P:=prog) (t:=22) (ty:=22) underlying22 j u v z rfl C.ws ⟨gf,0,none⟩ m m (by rw[l9];omega) (aC .u32 fs) (by rw[aD];exact HM.out.symm) (gk rf9) (by simp[aC,Value.oneCell']) (by rw[l9];exact Nat.le_trans (show n+3+m<=2097159 by omega) δ) (by rw[l9];omega);obtain⟨gw2,cw2,rfl,N,B,ho4⟩:=C.growW hg4 HM.out.symm;rw[l9]at L N B;have p9:=(C.p.cells5).2.1;rw[l9]at p9;have kr1:=(B.cells5).2.1;have zr1:=B.free 1
  have D:RMoved w G (Y4.setCell ⟨G.p,1,none⟩ (.slice (some ⟨gw2,0,none⟩) (n+3+m) cw2)) (bU h f sp c fs):=by
   refine HDone.out gw2 cw2 gb2 cb2 _ ?_;have:=N;rw[HLa.out,HW0.out,HM.out]at this;rw[HM.out];exact this
  have HFin:=hid D;have HR4:=hid L;have HSz:=hid hsm;clear hX U HR3 HM9 hX9 C N B ho4 ho9 rf9 j u v z L hg4 D u1 kq1 zq1;have n2:n<=1048576:=hsm.1;go_wp2_with(at_builtin;refine Lib.wpList_append_run _ rfl _ _ _ _ rfl _ _ rfl rfl _ _ HR4.out ?_);go_ret2;exact⟨rfl,HFin.out⟩
 ·have U:=hid hX;clear hX;unfold wpOp;go_simp;have hX:=U.out;replace hX:=hX.alloc (.cells #[Ψ F,Ψ c,Ψ A] 25);refine .inl ⟨hX,?_⟩;refine wo 4 ?_;have U:=hid hX;clear hX;unfold wpOp;go_simp;have hX:=U.out;refine .inl ⟨hX,?_⟩;refine wo 12 ?_;refine cZ rfl rfl ?_;refine Lib.wp_append_run _ (.tmp 82) (.tmp 89) 22 22 rfl _ _ rfl rfl _ _ HR3.out ?_;replace hX:=hX9;refine⟨hX,?_⟩;simp only[Act.put,zA,zB,zC];refine tk 13 (E G.p) ?_;refine tk 14 (Θ G.p 1) ?_;refine wo 15 ?_;have U:=hid hX;clear hX;unfold wpOp;go_simp;have hX:=U.out.other (a:=⟨G.p,1,none⟩) hbp (.slice (some ⟨gw1,0,none⟩) (n+3) cw1);refine .inl ⟨hX,?_⟩;refine wpAnyH_done κ ?_ _;have C:=HM9.out;have hpz9:=C.p.lt;have ho9:=C.only;have rf9:=HRF.out _ ho9;obtain⟨i32,j,u,v,z⟩:=info_parts bz;obtain⟨v4,Y4,L,hg4⟩:=bW (P:=prog) (t:=22) (ty:=22) underlying22 j u v z rfl C.ws ⟨gf,0,none⟩ m m (by rw[l9];omega) (aC .u32 fs) (by rw[aD];exact HM.out.symm) (gk rf9) (by simp[aC,Value.oneCell']) (by rw[l9];exact Nat.le_trans (show n+3+m<=2097159 by omega) δ) (by rw[l9];omega);obtain⟨gw2,cw2,rfl,N,B,ho4⟩:=C.growW hg4 HM.out.symm;rw[l9]at L N B;have p9:=(C.p.cells5).2.1;rw[l9]at p9;have kr1:=(B.cells5).2.1;have zr1:=B.free 1
  have D:RMoved w G (Y4.setCell ⟨G.p,1,none⟩ (.slice (some ⟨gw2,0,none⟩) (n+3+m) cw2)) (bU h f sp c fs):=by
   refine HDone.out gw2 cw2 gb2 cb2 _ ?_;have:=N;rw[HLa.out,HW0.out,HM.out]at this;rw[HM.out];exact this
  have HFin:=hid D;have HR4:=hid L;have HSz:=hid hsm;clear hX U HR3 HM9 hX9 C N B ho4 ho9 rf9 j u v z L hg4 D u1 kq1 zq1;have n2:n<=1048576:=hsm.1;go_wp2_with(at_builtin;refine Lib.wpList_append_run _ rfl _ _ _ _ rfl _ _ rfl rfl _ _ HR4.out ?_);go_ret2;exact⟨rfl,HFin.out⟩
end
theorem AA(k n z v:Nat)(h:k<n):(List.replicate k v++List.replicate (n-k) z).set k v=List.replicate (k+1) v++List.replicate (n-(k+1)) z:=by
 obtain⟨j,a⟩: ∃j,n-k=j+1:=⟨n-k-1,ω⟩;rw[a,(ω:n-(k+1)=j),List.set_append_right _ _ (by simp),List.length_replicate,Nat.sub_self,List.replicate_succ,List.set_cons_zero,List.replicate_succ'];simp
section
variable {w:World} {G:RFoot} {h:Hp}
theorem nK(H:RefAt w G h)(c f n o k0:Nat)(Q:World->Prop)(hf:f=1∨f=3)(hn:n<=65535)(hc:cU h c=true)(v:Nat)(hv:v=(if f=1∨f=4 then wd h.rt 0 else 0))(hL: ∀X gf,Below w w X->Row X gf 25 (aC .u32 (List.replicate n v))->w.heap.size<=gf->Calls prog 47 #[E G.p,Ψ c,I f,I 0,M gf n n] X fun e w'=>e=Rt #[Ψ o,I k0]/\Q w'):Calls prog 12 #[E G.p,Ψ c,I f,I n] w fun e w'=>e=Rt #[Ψ o,I k0]/\Q w':=by
 have hcl:=eB H.good hc;have hC:=lZ H c hcl;rw[hc]at hC;have HC:=hid hC;have hv32:=H.good.rlim.wd 0;have hvl:v<4294967296:=by rw[hv];split;exact hv32;decide
 have HLay:=hid hL;clear hL
 have HRt:=hid (fun X (hb:Below w w X)=>show X.cell? ⟨G.p,2,none⟩=O (M G.gr 64 64)/\X.cell? ⟨G.gr,0,none⟩=O (Ψ (wd h.rt 0:Nat))from by
  obtain⟨cw,cs,c0,c1,c2,_⟩:=(H.below hb).cells;exact⟨c2,(H.below hb).ai δ⟩)
 have sl:Sl w G.gr 26 64 64 (aC .u32 h.rt):=H.roots.sl (by rw[aD];exact H.good.rlen.symm) δ;have HIx:=hid (fun W=>show(Instr.indexAt 44 (M G.gr 64 64) (I 0)).run prog W= .ok (E G.gr) W from sl.index 44 underlying44 ch W .i64 0 δ);have d3:decide ((n:Int)<0)=false:=dF;have d4:decide ((65535:Int)<(n:Int))=false:=dF;have d4':decide (65535<n)=false:=dF;rcases hf with rfl|rfl
 ·have hv2:v=wd h.rt 0:=(by rw[hv];rfl);rw[<-hv2]at HRt;clear hv hv2 hC hc hcl sl H hv32;go_enter func12,ntmps12;go_wp2_with fail;refine(HC.out).mono ?_;rintro e w0 ⟨rfl,rfl⟩;go_wp2_with(at_make;refine aI rfl _ _ _ rfl 25 (Ψ 0) 4 underlying22 bz rfl _ _ _ _ n n rfl rfl rfl rfl ι ω ω ?_;intro w1 g hg1 hg2 hrow hB);rw[show List.replicate n (Value.int .u32 0)=aC .u32 (List.replicate n 0)from(aG .u32 n).symm]at hrow;have HG:=hid hg1;clear hg1 hg2 HC;go_loopw[11] (fun i wr=> ∃k:Nat,k<=n/\i= .int .i64 k/\Row wr g 25 (aC .u32 (List.replicate k v++List.replicate (n-k) 0))/\Below w w wr) (fun i _=>n-(intOf i).toNat);case atStart=>exact⟨0,Nat.zero_le _,rfl,hrow,hB⟩
  case round=>
   clear hrow hB;obtain⟨k,hk,rfl,hrow,hB⟩:=hrel;by_cases h0:k<n
   ·have e1:decide ((k:Int)<(n:Int))=true:=dT;have e2:decide (k<n)=true:=decide_eq_true h0;obtain⟨q1,q2⟩:=HRt.out wr hB;have ix0:=HIx.out;have sl:=hrow.sl (n:=n) (by simp[aD];omega) (Nat.le_trans hn δ);have ix:=fun W=>sl.index 22 underlying22 aK W .i64 k h0
    have cx:=hrow.cell (i:=k) (by simp;omega);have zx:=hrow.free k;have hst:=hrow.store k (v:Int) v rfl;rw[AA k n 0 v h0]at hst;have hB2:=aw hB HG.out (i:=k) (Ψ (v:Int));clear sl;go_wp2;go_roundw;case rel=>exact⟨k+1,h0,by simp,hst,hB2⟩
    case measure=>exact μ
   ·obtain rfl:k=n:=ω
    have e1:decide ((k:Int)<(k:Int))=false:=dF;have e2:decide (k<k)=false:=dF;rw[Nat.sub_self,List.replicate_zero,List.append_nil]at hrow;have HL:=hid (HLay.out wr g hB hrow HG.out);clear hrow hB HLay;go_wp2_with fail;refine(HL.out).mono ?_;rintro e V2 ⟨rfl,hM⟩;have HM:=hid hM;clear hM;go_wp2;go_ret2;exact⟨rfl,HM.out⟩
 ·have hv2:v=0:=(by rw[hv];rfl);subst hv2;clear hv hC hc hcl sl H hv32;go_enter func12,ntmps12;go_wp2_with fail;refine(HC.out).mono ?_;rintro e w0 ⟨rfl,rfl⟩;go_wp2_with(at_make;refine aI rfl _ _ _ rfl 25 (Ψ 0) 4 underlying22 bz rfl _ _ _ _ n n rfl rfl rfl rfl ι ω ω ?_;intro w1 g hg1 hg2 hrow hB);rw[show List.replicate n (Value.int .u32 0)=aC .u32 (List.replicate n 0)from(aG .u32 n).symm]at hrow;have HG:=hid hg1;clear hg1 hg2 HC;have HL:=hid (HLay.out w1 g hB hrow HG.out);clear hrow hB HLay HG;have b2:(decide ((0:Int)<(n:Int))&&false)=false:=by simp
  by_cases h0:0<n
  ·have e1:decide ((0:Int)<(n:Int))=true:=dT;have e2:decide (0<n)=true:=decide_eq_true h0;go_loopw[11] (fun i wr=>i= .int .i64 0/\wr=w1) (fun i _=>0);case atStart=>exact⟨rfl,rfl⟩
   case round=>
    obtain⟨rfl,rfl⟩:=hrel;go_wp2_with fail;refine(HL.out).mono ?_;rintro e V2 ⟨rfl,hM⟩;have HM:=hid hM;clear hM;go_wp2;go_ret2;exact⟨rfl,HM.out⟩
  ·obtain rfl:n=0:=ω
   go_loopw[11] (fun i wr=>i= .int .i64 0/\wr=w1) (fun i _=>0);case atStart=>exact⟨rfl,rfl⟩
   case round=>
    obtain⟨rfl,rfl⟩:=hrel;go_wp2_with fail;refine(HL.out).mono ?_;rintro e V2 ⟨rfl,hM⟩;have HM:=hid hM;clear hM;go_wp2;go_ret2;exact⟨rfl,HM.out⟩
theorem nc(H:RefAt w G h)(j:5<=w.heap.size)(c f n o:Nat)(k:Hp)(hf:f=1∨f=3)(m:n<=65535)(D:aW h c f n=some (o,k)):Calls prog 12 #[E G.p,Ψ c,I f,I n] w fun e w'=>e=Rt #[Ψ o,I 0]/\RMoved w G w' k:=by
 obtain⟨s,u,A,z⟩:=mE D;have p:(if f=1∨f=4 then wd h.rt 0 else 0)<4294967296:=by split;exact H.good.rlim.wd 0;decide
 have h1:1<=f:=ω
 have q:f<=4:=ω
 have r:=iC H.good h1 q m p s u;have b:(List.replicate n (if f=1∨f=4 then wd h.rt 0 else 0)).length=n:=List.length_replicate;obtain⟨v,a⟩:=ξ (if f=1∨f=4 then wd h.rt 0 else 0);rw[<-a]at p r b z;refine nK H c f n o 0 (RMoved w G · k) hf m s v a fun X gf d B F=>?_
 have:=EC (H.below d) (Nat.le_trans j d.size) c f 0 (List.replicate n v) gf n b.symm B (fun e=>by have:=H.lt _ e;omega) ⟨by show(List.replicate n v).length<=65535;rw[b];exact m,h1,q,Nat.zero_le _,.inl rfl⟩ u r;rw[A,z];exact this.mono fun e w' ⟨x,C,y⟩=>⟨x,C,RStep.of_below d y H.lt⟩
theorem qS(H:RefAt w G h)(c:Nat)(a:Option Addr)(t:List Nat)(n cap o y:Nat)(Q:World->Prop)(d:Lay .u8 w a t)(ht:B8 t)(z:n=t.length)(F:n<=262140)(r:cU h c=true)(m u:Nat)(v:m=(n+3)/4)(p:u=4*((n+3)/4)-n)(A: ∀X gf,Below w w X->Row X gf 25 (aC .u32 (aU t))->w.heap.size<=gf->Calls prog 47 #[E G.p,Ψ c,I 2,I u,M gf m m] X fun e w'=>e=Rt #[Ψ o,I y]/\Q w'):Calls prog 52 #[E G.p,Ψ c,.slice a n cap] w fun e w'=>e=Rt #[Ψ o,I y]/\Q w':=by
 have f:=eB H.good r;have q:=lZ H c f;rw[r]at q;have x:=hid q
 have j:=hid (show Calls prog 135 #[I n] w fun e w'=>e=Rt #[I m,I u]/\w=w' from by
  have:=ug w n ω;rw[<-p,<-v]at this;exact this)
 have k:=hid (show Calls prog 136 #[.slice a n cap] w fun e w'=>(∃g,e= .returned (M g m m)/\w.heap.size<=g/\Row w' g 25 (aC .u32 (aU t)))/\Below w w w' from by
  have:=tQ w a t n cap d ht z F;rw[<-v]at this;exact this)
 have b:=hid A;clear A;have L:decide ((262140:Int)<(n:Int))=false:=dF;have B:decide (262140<n)=false:=dF;clear q r f H v p d ht z;go_enter func52,ntmps52;go_wp2_with fail;refine(x.out).mono ?_;rintro e w1 ⟨rfl,rfl⟩;go_wp2_with fail;refine(j.out).mono ?_;rintro e w1 ⟨rfl,rfl⟩;go_wp2_with fail;refine(k.out).mono ?_;rintro e V ⟨⟨gf,rfl,hg,rf⟩,hB⟩;have C:=hid (b.out V gf hB rf hg);clear hg rf hB b k j x;go_wp2_with fail;refine(C.out).mono ?_;rintro e N ⟨rfl,hM⟩;have D:=hid hM;clear hM;go_wp2;go_ret2;exact⟨rfl,D.out⟩
theorem CB(H:RefAt w G h)(p:5<=w.heap.size)(c:Nat)(a:Option Addr)(t:List Nat)(n cap o:Nat)(q:Hp)(k:Lay .u8 w a t)(ht:B8 t)(f:n=t.length)(u:n<=262140)(j:fK h c t=some (o,q)):Calls prog 52 #[E G.p,Ψ c,.slice a n cap] w fun e w'=>e=Rt #[Ψ o,I 0]/\RMoved w G w' q:=by
 unfold fK at j;split at j;case isFalse=>cases j
 rename_i b;rw[Bool.and_eq_true,<-f]at b;rw[Option.some.injEq,Prod.mk.injEq,<-f]at j;have r:=jl H.good ht (by rw[<-f];exact u) b.1 (by rw[<-f];exact b.2);rw[<-f]at r;have d:=ct t;rw[<-f]at d;refine qS H c a t n cap o 0 (RMoved w G · q) k ht f u b.1 _ _ rfl rfl fun X gf m v A=>?_
 have:=EC (H.below m) (Nat.le_trans p m.size) c 2 _ (aU t) gf ((n+3)/4) d.symm v (fun e=>by have:=H.lt _ e;omega) ⟨by show(aU t).length<=65535;omega,by show 1<=2;decide,by show 2<=4;decide,by show 4*((n+3)/4)-n<=3;omega,by show 4*((n+3)/4)-n=0∨(2=2/\0<(aU t).length);rw[d];omega⟩ b.2 r;rw[<-j.1,<-j.2];exact this.mono fun e w' ⟨x,z,y⟩=>⟨x,z,RStep.of_below m y H.lt⟩
end
section
variable {w:World} {G:RFoot} {h:Hp}
theorem uo(H:RefAt w G h)(o f n:Nat)(C:o<4294967296):Calls prog 72 #[E G.p,Ψ o,I f,I n] w fun e w'=>e= .returned (.bool (isF h o f n))/\Below w w w':=by
 have d:=sW H o C
 cases hio:isO h o with
 |false=>
  rw[hio]at d;have e:isF h o f n=false:=by unfold isF;rw[hio];rfl
  rw[e];have p:=hid d;clear d e hio H;go_enter func72,ntmps72;go_wp2_with fail;refine(p.out).mono ?_;rintro e V ⟨rfl,rfl⟩;go_wp2;go_ret;exact⟨rfl,Below.refl _ _⟩
 |true=>
  rw[hio]at d;have p:=hid d;have a:=fun X (u:Below w w X)=>fy (H.below u) o hio
  have k:=okO H.good hio;have D:=k.size;have e:isF h o f n=(decide ((hdO h o).fmt=f)&&decide (n<=(hdO h o).size)):=by unfold isF;rw[hio];rfl
  rw[e];simp only[j8]at a;generalize hdO h o=x at*
  have A:=fun V=>(eZ V (I x.size) (I x.fmt) (I x.spare) (Ψ x.cls) (Ψ x.ser)).1
  have B:=fun V=>(eZ V (I x.size) (I x.fmt) (I x.spare) (Ψ x.cls) (Ψ x.ser)).2.1
  generalize x.size=r at*
  generalize x.fmt=fm at*
  have c:=hid a;clear d a k e hio H;by_cases h1:fm=f
  ·subst h1;rw[decide_eq_true rfl,Bool.true_and];have v:decide ((n:Int)<=(r:Int))=decide (n<=r):=by by_cases y:n<=r;rw[decide_eq_true y,dT];rw[decide_eq_false y,dF]
   obtain⟨b,j⟩:=ξ (decide (n<=r));rw[<-j]at v ⊢;clear j;go_enter func72,ntmps72;go_wp2_with fail;refine(p.out).mono ?_;rintro e V ⟨rfl,rfl⟩;go_wp2_with fail;refine(c.out _ (Below.refl _ _)).mono ?_;rintro e V ⟨rfl,g⟩;go_wp2_with fail;refine(c.out _ g).mono ?_;rintro e L ⟨rfl,u⟩;replace g:=τ g u;clear u;go_wp2;go_ret;exact⟨by first |rfl|(congr 1;simpa using v),g⟩
  ·rw[decide_eq_false h1,Bool.false_and];have q:((fm:Int)==(f:Int))=false:=nE
   have F:(fm==f)=false:=(by rw[beq_eq_false_iff_ne];exact h1);go_enter func72,ntmps72;go_wp2_with fail;refine(p.out).mono ?_;rintro e V ⟨rfl,rfl⟩;go_wp2_with fail;refine(c.out _ (Below.refl _ _)).mono ?_;rintro e V ⟨rfl,g⟩;go_wp2;go_ret;exact⟨rfl,g⟩
theorem nF(H:RefAt w G h)(o:Nat)(c:o<4294967296):Calls prog 151 #[E G.p,Ψ o] w fun e w'=>e= .returned (.bool (isF h o 2 0))/\Below w w w':=by
 have a:=hid (show Calls prog 72 #[E G.p,Ψ o,I 2,I 0] w fun e w'=>e= .returned (.bool (isF h o 2 0))/\Below w w w' from uo H o 2 0 c);generalize isF h o 2 0=b at*
 clear H;go_enter func151,ntmps151;go_wp2_with fail;refine(a.out).mono ?_;rintro e V ⟨rfl,hB⟩;go_wp2;go_ret;exact⟨rfl,hB⟩
theorem CE(H:RefAt w G h){o i:Nat}(hf:isF h o 1 (i+1)=true):Calls prog 154 #[E G.p,Ψ o,I i] w fun e w'=>e= .returned (Ψ (fld h o i:Nat))/\Below w w w':=by
 have a:=hid (FK H hf);generalize fld h o i=v at*
 clear H hf;go_enter func154,ntmps154;go_wp2_with fail;refine(a.out).mono ?_;rintro e V ⟨rfl,hB⟩;go_wp2;go_ret;exact⟨rfl,hB⟩
def eA(a q:Nat):Nat:=a/256^q%256
theorem EW(H:RefAt w G h){o i:Nat}(k:isO h o=true)(hf:(hdO h o).fmt=2)(L:i<(hdO h o).len):Calls prog 262 #[E G.p,Ψ o,I i] w fun e w'=>e=Rt #[.int .u8 (eA (fld h o (i/4)) (i%4):Nat),I 0]/\Below w w w':=by
 have u:=xZ H o 2 i k hf L;rw[if_pos rfl]at u;have j:=hid u;have M:=(okO H.good k).size;have d:(hdO h o).len=4*(hdO h o).size-(hdO h o).spare:=by unfold Hd.len;rw[if_pos hf]
 have N:i<=300000:=ω
 have v:o/2+3+i/4<h.ws.length:=by
  have:=H.good.inside _ (isO_iff.1 k).2.2;have S:(hd h (o/2)).size=(hdO h o).size:=rfl;omega
 have b:=hid (fun X (R:Below w w X)=>(H.below R).at v);have g:fld h o (i/4)=wd h.ws (o/2+3+i/4):=rfl;have O:=H.good.lim.wd (o/2+3+i/4);rw[g];generalize o/2+3+i/4=F at*
 generalize wd h.ws F=c at*
 obtain⟨q,y⟩:=ξ (i%4);have P:(i:Int)%4=(q:Int):=ω
 have Q:q<4:=ω
 rw[<-y];have T:=hid y;clear u hf g H M d y L k;have x:q=0∨q=1∨q=2∨q=3:=ω
 rcases x with rfl|rfl|rfl|rfl
 ·rw[show((eA c 0:Nat):Int)=(c:Int)%256 from by unfold eA;omega];go_enter func262,ntmps262;go_wp2_with fail;refine(j.out).mono ?_;rintro e V ⟨rfl,hB⟩;obtain⟨A,c1,B,C,D⟩:=b.out V hB;go_wp2;go_ret2;exact⟨rfl,hB⟩
 ·rw[show((eA c 1:Nat):Int)=(c:Int)/256%256 from by unfold eA;omega];go_enter func262,ntmps262;go_wp2_with fail;refine(j.out).mono ?_;rintro e V ⟨rfl,hB⟩;obtain⟨A,c1,B,C,D⟩:=b.out V hB;go_wp2;go_ret2;exact⟨rfl,hB⟩
 ·rw[show((eA c 2:Nat):Int)=(c:Int)/65536%256 from by unfold eA;omega];go_enter func262,ntmps262;go_wp2_with fail;refine(j.out).mono ?_;rintro e V ⟨rfl,hB⟩;obtain⟨A,c1,B,C,D⟩:=b.out V hB;go_wp2;go_ret2;exact⟨rfl,hB⟩
 ·rw[show((eA c 3:Nat):Int)=(c:Int)/16777216 from by unfold eA;omega];go_enter func262,ntmps262;go_wp2_with fail;refine(j.out).mono ?_;rintro e V ⟨rfl,hB⟩;obtain⟨A,c1,B,C,D⟩:=b.out V hB;go_wp2;go_ret2;exact⟨rfl,hB⟩
theorem Cz(l:List Nat)(i:Nat)(h:i/4<l.length):wd (cT l) i=eA (wd l (i/4)) (i%4):=by
 induction l generalizing i with
 |nil=>simp at h
 |cons a t ih=>
  show wd (by4 a++cT t) i=_
  have b:(by4 a).length=4:=rfl;by_cases c:i<4
  ·rw[eC (by rw[b];exact c),(ω:i/4=0),fQ];have:i=0∨i=1∨i=2∨i=3:=ω
   rcases this with rfl|rfl|rfl|rfl
   ·show a%256=eA a 0;unfold eA;simp
   ·show a/256%256=eA a 1;unfold eA;simp
   ·show a/65536%256=eA a 2;unfold eA;simp
   ·show a/16777216%256=eA a 3;unfold eA;simp
  ·rw[eP (by rw[b];omega),b,ih (i-4) (by simp at h;omega),(ω:i/4=(i-4)/4+1),dc,(ω:(i-4)%4=i%4)]
theorem Ab(k:Limb.Good h){o i:Nat}(d:isO h o=true)(hf:(hdO h o).fmt=2)(g:i<(hdO h o).len):wd (fF h o) i=eA (fld h o (i/4)) (i%4):=by
 have b:(hdO h o).len=4*(hdO h o).size-(hdO h o).spare:=by unfold Hd.len;rw[if_pos hf]
 have c:=bg k d;unfold fF;rw[wd_take g,Cz _ _ (by rw[c];omega),fk ω]
theorem tu(k:Limb.Good h){o:Nat}(c:isO h o=true)(hf:(hdO h o).fmt=2):(fF h o).length=(hdO h o).len:=by
 have b:(hdO h o).len=4*(hdO h o).size-(hdO h o).spare:=by unfold Hd.len;rw[if_pos hf]
 unfold fF;rw[List.length_take,dk,bg k c];omega
theorem bX{w w':World}{B n:Nat}{e:TypeId}{v:Value}{xs:List Value}(h:w.ownsRow B e 1 v n xs)(c:Below w w w'):w'.ownsRow B e 1 v n xs:=by
 obtain⟨h1,a⟩:=h;refine⟨h1,?_⟩;rcases a with a|⟨g,cap,cur,q1,q2,q3,q4⟩
 ·exact .inl a
 ·have b:g<w.heap.size:=(Array.getElem?_eq_some_iff.1 q3).1;exact .inr ⟨g,cap,cur,q1,q2,by rw[c.block g b];exact q3,q4⟩
theorem jD{l:List Nat}{i:Nat}(a:i<l.length):l.take i++[wd l i]=l.take (i+1):=by
 rw[wd_lt a];exact(List.take_succ_eq_append_getElem a).symm
theorem Do(H:RefAt w G h){o:Nat}(A:isO h o=true)(hf:(hdO h o).fmt=2):Calls prog 222 #[E G.p,Ψ o] w fun e w'=>(∃v,e=Rt #[v,I 0]/\w'.ownsRow w 5 1 v (hdO h o).len (aC .u8 (fF h o)))/\Below w w w':=by
 have U:=aM H.good A;have Y:=sW H o U;rw[A]at Y;have HI:=hid Y;have y:=fy H o A;have k1:=(okO H.good A).size;have C:(hdO h o).len=4*(hdO h o).size-(hdO h o).spare:=by unfold Hd.len;rw[if_pos hf]
 have hln3:(hdO h o).len<=300000:=ω
 have Z:=hid (fun X (g:Below w w X)=>xV (H.below g) o A)
 have a0:=hid (fun X (g:Below w w X) (i:Nat) (hi:i<(hdO h o).len)=>show Calls prog 262 #[E G.p,Ψ o,I i] X fun e w'=>e=Rt #[.int .u8 (wd (fF h o) i:Nat),I 0]/\Below X.heap.size X w' from by
  rw[Ab H.good A hf hi];exact EW (H.below g) A hf hi)
 have D:=tu H.good A hf;rw[j8]at y;rw[hf,(φ:((2:Nat):Int)=2)]at y;generalize fF h o=bs at*
 generalize(hdO h o).len=B at*
 have fd:=fun V=>(eZ V (I (hdO h o).size) (I 2) (I (hdO h o).spare) (Ψ (hdO h o).cls) (Ψ (hdO h o).ser)).2.1
 generalize hdO h o=x at*
 have F:=hid y;have L:=hid D;clear Y y D H A hf k1 C;go_enter func222,ntmps222;go_wp2_with fail;refine(HI.out).mono ?_;rintro e V0 ⟨rfl,rfl⟩;go_wp2_with fail;refine(F.out).mono ?_;rintro e V ⟨rfl,j⟩;clear HI F;go_wp2;go_loopw[7,6] (fun i s wr=> ∃k:Nat,k<=B/\i= .int .i64 k/\wr.ownsRow w 5 1 s k (aC .u8 (bs.take k))/\Below w w wr) (fun i _ _=>B-(intOf i).toNat);case atStart=>exact⟨0,Nat.zero_le _,rfl,⟨rfl,.inl ⟨rfl,rfl⟩⟩,j⟩
 case round=>
  clear j;obtain⟨k,hk,rfl,d,j⟩:=hrel;have M:=hid (Z.out _ j);by_cases h0:k<B
  ·have d1:decide ((k:Int)<(B:Int))=true:=dT;have d2:decide (k<B)=true:=decide_eq_true h0;have a1:=hid (fun X g=>a0.out X g k h0);have a2:=hid (show bs.take k++[wd bs k]=bs.take (k+1)from jD (by rw[L.out];exact h0));generalize wd bs k=T at*
   go_wp2_with fail;refine(M.out).mono ?_;rintro e V1 ⟨rfl,g⟩;have b:=bX d g;replace j:=τ j g;clear g d;go_wp2_with fail;refine(a1.out _ j).mono ?_;rintro e V2 ⟨rfl,g⟩;have u:=bX b g;replace j:=τ j g;clear g b;obtain⟨i8,O,Q,R,S⟩:=info_parts Ck;have q:=u.alloc (.cells #[.int .u8 T] 5);obtain⟨v',X',hr,h2,h3,h4,h5⟩:=run_append_own_at (P:=prog) (w:=V2.alloc (.cells #[.int .u8 T] 5)) w 50 50 5 i8 (.int .u8 0) 1 1 underlying50 O Q R S rfl δ _ k _ q ⟨V2,0,none⟩ 1 1 (aC .u8 [T]) rfl (cell_one_new _ _ _) (by simp[aC,Value.oneCell']) (Nat.le_trans (show k+1<=300001 by omega) δ) ω (by rw[World.size_alloc];have:=j.size;omega);rw[<-bw,a2.out]at h2;have a3:=dh q h3 (by rw[World.size_alloc];have:=j.size;omega);have a4:=(j.alloc j.size (.cells #[.int .u8 T] 5)).trans a3;have HR:=hid hr;clear hr h3 h4 h5 u q O Q R S;go_wp2_with(at_builtin;refine Lib.wpList_append_run _ rfl _ _ _ _ rfl _ _ rfl rfl _ _ HR.out ?_);go_roundw;case rel=>exact⟨k+1,h0,by simp,h2,a4⟩
   case measure=>exact μ
  ·obtain rfl:k=B:=ω
   have d1:decide ((k:Int)<(k:Int))=false:=dF;have d2:decide (k<k)=false:=dF;rw[List.take_of_length_le (by rw[L.out];exact Nat.le_refl _)]at d;go_wp2_with fail;refine(M.out).mono ?_;rintro e V1 ⟨rfl,g⟩;have b:=bX d g;replace j:=τ j g;clear g d;go_wp2;go_ret2;exact⟨⟨_,rfl,b⟩,j⟩
end
theorem jq{w:World}{B n:Nat}{e:TypeId}{v:Value}{xs:List Value}(h:w.ownsRow B e 1 v n xs):w.ownsRow 0 e 1 v n xs:=by
 obtain⟨h1,a⟩:=h;refine⟨h1,?_⟩;rcases a with a|⟨g,cap,cur,q1,q2,q3⟩
 ·exact .inl a
 ·exact .inr ⟨g,cap,cur,q1,Nat.zero_le _,q3⟩
section
variable {w:World} {G:RFoot} {h:Hp}
theorem yb(H:RefAt w G h){o:Nat}(k:isO h o=true)(hf:(hdO h o).fmt=2)(h0:0<(hdO h o).len):Calls prog 153 #[E G.p,Ψ o] w fun e w'=>(∃s,e= .returned (.string s)/\tx s=fF h o)/\Below w w w':=by
 have j:=hid (Do H k hf);have a:=tu H.good k hf;have b:=xj h o;rw[<-a]at h0 j;generalize fF h o=bs at*
 clear H k hf a;go_enter func153,ntmps153;go_wp2_with fail;refine(j.out).mono ?_;rintro e V ⟨⟨v,rfl,hown⟩,hB⟩;obtain⟨g,c,rfl,-,p⟩:=Sl.aj (jq hown) h0;obtain⟨s,hs,d⟩:=tg (P:=prog) (c:=c) 50 5 underlying50 underlying5 (p.lay rfl) ⟨g,rfl⟩ rfl b;have u:=d 9 underlying9;have q:=hid hs;clear hown p hs d b j;go_wp2;go_ret;exact⟨⟨_,rfl,q.out⟩,hB⟩
theorem kg(z:Nat): ∀(fl:List Nat) (k:Nat),(∀j,j<k->wd fl j≠z)->k<=fl.length->Limb.ahead z fl=fl.take k++Limb.ahead z (fl.drop k)
 |fl,0,_,_=>by simp
 |[],k+1,_,h=>by simp at h
 |a :: t,k+1,h,hk=>by
  have h1:a≠z:=h 0 ω;show(if a=z then[]else a :: Limb.ahead z t)=a :: t.take k++Limb.ahead z (t.drop k)
  rw[if_neg h1,kg z t k (fun j b=>h (j+1) ω) (by simpa using hk)];rfl
theorem kx(H:RefAt w G h)(r:Nat)(hr:r<64)(a1:isF h (wd h.rt r) 1 0=true):Calls prog 150 #[E G.p,I r] w fun e w'=>(∃v,e= .returned v/\w'.ownsRow w 26 1 v (aT h r).length (aC .u32 (aT h r)))/\Below w w w':=by
 have hen:aT h r=Limb.ahead (wd h.rt 0) (bj h (wd h.rt r)):=by unfold aT;rw[if_pos a1]
 rw[hen];have hll:=eH H.good r;have T:isO h (wd h.rt r)=true:=aH a1;have hfm:(hdO h (wd h.rt r)).fmt=1:=(isF_iff.1 a1).2.1;have k1:=(okO H.good T).size
 have hIs:=fun X (D:Below w w X)=>show Calls prog 72 #[E G.p,Ψ (wd h.rt r:Nat),I 1,I 0] X fun e w'=>e= .returned (.bool true)/\Below X.heap.size X w' from by
  have:=uo (H.below D) (wd h.rt r) 1 0 hll;rw[a1]at this;exact this
 have U:=fun X (D:Below w w X)=>fy (H.below D) (wd h.rt r) T
 simp only[j8]at U;rw[hfm]at U
 have hGt:=fun X (D:Below w w X) (k:Nat) (hk:k<(hdO h (wd h.rt r)).size)=>show Calls prog 154 #[E G.p,Ψ (wd h.rt r:Nat),I k] X fun e w'=>e= .returned (Ψ (wd (bj h (wd h.rt r)) k:Nat))/\Below X.heap.size X w' from by
  rw[fk hk];exact CE (H.below D) (isF_iff.2 ⟨T,hfm,ω⟩)
 have hFL:=bg H.good T;obtain⟨cw,cs,c0,c1,c2,_⟩:=H.cells
 have HRt:=hid (fun X (D:Below w w X)=>show X.cell? ⟨G.p,2,none⟩=O (M G.gr 64 64)/\X.cell? ⟨G.gr,0,none⟩=O (Ψ (wd h.rt 0:Nat))from by
  obtain⟨cw,cs,c0,c1,c2,_⟩:=(H.below D).cells;exact⟨c2,(H.below D).ai δ⟩)
 have sl:Sl w G.gr 26 64 64 (aC .u32 h.rt):=H.roots.sl (by rw[aD];exact H.good.rlen.symm) δ;have HIx:=hid (fun W=>show(Instr.indexAt 44 (M G.gr 64 64) (I 0)).run prog W= .ok (E G.gr) W from sl.index 44 underlying44 ch W .i64 0 δ);have ixr:=fun W=>sl.index 44 underlying44 ch W .i64 r hr
 have cr:=H.ai hr;generalize bj h (wd h.rt r)=fl at*
 generalize wd h.rt r=l at*
 generalize wd h.rt 0=L at*
 have fd0:=fun V=>(eZ V (I (hdO h l).size) (I 1) (I (hdO h l).spare) (Ψ (hdO h l).cls) (Ψ (hdO h l).ser)).1
 rw[(φ:((1:Nat):Int)=1)]at U;generalize hdO h l=x at*
 generalize x.size=sz at*
 obtain⟨N,hN⟩:=ξ ((Limb.ahead L fl).length);have HIs:=hid hIs;have HHd:=hid U;have HGt:=hid hGt;have Q:=hid hFL;clear hIs U hGt hFL sl H T hfm hen a1 c0 c1 hN N;go_enter func150,ntmps150;go_wp2_with fail;refine(HIs.out _ (Below.refl _ _)).mono ?_;rintro e V ⟨rfl,A⟩;(try dsimp only);clear c2 ixr cr;go_wp2_with fail;go_loopw[7,5] (fun i s wr=> ∃k:Nat,k<=sz/\i= .int .i64 k/\Hid (∀j,j<k->wd fl j≠L)/\wr.ownsRow w 26 1 s k (aC .u32 (fl.take k))/\Below w w wr) (fun i _ _=>sz-(intOf i).toNat);case atStart=>exact⟨0,Nat.zero_le _,rfl,hid (fun j hj=>absurd hj ω),⟨rfl,.inl ⟨rfl,rfl⟩⟩,A⟩
 case round=>
  clear A;obtain⟨k,hk,rfl,a0,B,A⟩:=hrel;by_cases h0:k<sz
  ·have d1:decide ((k:Int)<(sz:Int))=true:=dT;have d2:decide (k<sz)=true:=decide_eq_true h0;have HG1:=hid (fun X D=>HGt.out X D k h0);have hd:fl.drop k=wd fl k :: fl.drop (k+1):=nn (by rw[Q.out];exact h0);have hsn:=kg L fl k a0.out (by rw[Q.out];exact hk);rw[hd]at hsn;have htk:fl.take k++[wd fl k]=fl.take (k+1):=jD (by rw[Q.out];exact h0);have HTk:=hid htk;by_cases hn:wd fl k=L
   ·have HE:=hid (show Limb.ahead L fl=fl.take k by
     rw[hsn,hn];show fl.take k++(if L=L then[]else _)=_
     rw[if_pos rfl,List.append_nil])
    have hlt:(fl.take k).length=k:=(by rw[List.length_take,Q.out];omega);have HLt:=hid hlt;have q:((wd fl k:Int)==(L:Int))=true:=by rw[beq_iff_eq];omega
    have q2:(wd fl k==L)=true:=(by rw[beq_iff_eq];exact hn);have q3:((wd fl k:Int) != (L:Int))=false:=by rw[hn];simp
    generalize wd fl k=fv at*
    clear hd hsn htk hn hlt HTk;go_wp2_with fail;refine bH (fun Y=>Below wr.heap.size wr Y) κ κ (Below.refl _ _).drew ?_;show wpQuiet _ _ _ _ [_,_,_,_,_,_,_,_,_,_,_,_,_,_,_,_,_,_,_] _
    refine qa (I k) ?_;refine qa (E G.p) ?_;refine qa (Ψ l) ?_;refine qa (.agg #[I sz,I 1,I x.spare,Ψ x.cls,Ψ x.ser]) ?_ (f:=by intro Y C;go_simp;exact(HHd.out Y (τ A C)).mono fun e w' ⟨x,y⟩=>⟨x,C.trans (y.mono C.size)⟩);refine qa (I sz) ?_ (f:=by intro Y C;have fd:=fd0;go_simp);refine qa (.bool true) ?_;refine qa (.bool true) ?_;refine qa (E G.p) ?_;refine qa (Ψ l) ?_;refine qa (I k) ?_;refine qa (Ψ fv) ?_ (f:=by intro Y C;go_simp;exact(HG1.out Y (τ A C)).mono fun e w' ⟨x,y⟩=>⟨x,C.trans (y.mono C.size)⟩);refine qa (E G.p) ?_;refine qa (E G.p) ?_;refine qa (Θ G.p 2) ?_;refine qa (M G.gr 64 64) ?_ (f:=by intro Y C;obtain⟨q1,q2⟩:=HRt.out Y (τ A C);go_simp);refine qa (E G.gr) ?_ (f:=by intro Y C;have ix0:=HIx.out;go_simp);refine qa (Ψ L) ?_ (f:=by intro Y C;obtain⟨q1,q2⟩:=HRt.out Y (τ A C);go_simp);refine qa (.bool false) ?_;refine qa (.bool false) ?_;refine wpQuiet_nil ?_;intro V1 D;have F:=bX B D;replace A:=τ A D;clear D B;go_wp2_with fail;go_ret;refine⟨⟨_,rfl,?_⟩,A⟩;rw[HE.out,HLt.out];exact F
   ·have q:((wd fl k:Int)==(L:Int))=false:=nE;have q2:(wd fl k==L)=false:=by rw[beq_eq_false_iff_ne];exact hn
    have q3:((wd fl k:Int) != (L:Int))=true:=by rw[bne_iff_ne];omega
    have HPre2:=hid (show∀j,j<k+1->wd fl j≠L from fun j hj=>by
     by_cases e:j=k
     ·rw[e];exact hn
     ·exact a0.out j ω)
    generalize wd fl k=fv at*
    clear hd hsn htk hn;go_wp2_with fail;refine bH (fun Y=>Below wr.heap.size wr Y) κ κ (Below.refl _ _).drew ?_;show wpQuiet _ _ _ _ [_,_,_,_,_,_,_,_,_,_,_,_,_,_,_,_,_,_,_] _
    refine qa (I k) ?_;refine qa (E G.p) ?_;refine qa (Ψ l) ?_;refine qa (.agg #[I sz,I 1,I x.spare,Ψ x.cls,Ψ x.ser]) ?_ (f:=by intro Y C;go_simp;exact(HHd.out Y (τ A C)).mono fun e w' ⟨x,y⟩=>⟨x,C.trans (y.mono C.size)⟩);refine qa (I sz) ?_ (f:=by intro Y C;have fd:=fd0;go_simp);refine qa (.bool true) ?_;refine qa (.bool true) ?_;refine qa (E G.p) ?_;refine qa (Ψ l) ?_;refine qa (I k) ?_;refine qa (Ψ fv) ?_ (f:=by intro Y C;go_simp;exact(HG1.out Y (τ A C)).mono fun e w' ⟨x,y⟩=>⟨x,C.trans (y.mono C.size)⟩);refine qa (E G.p) ?_;refine qa (E G.p) ?_;refine qa (Θ G.p 2) ?_;refine qa (M G.gr 64 64) ?_ (f:=by intro Y C;obtain⟨q1,q2⟩:=HRt.out Y (τ A C);go_simp);refine qa (E G.gr) ?_ (f:=by intro Y C;have ix0:=HIx.out;go_simp);refine qa (Ψ L) ?_ (f:=by intro Y C;obtain⟨q1,q2⟩:=HRt.out Y (τ A C);go_simp);refine qa (.bool true) ?_;refine qa (.bool true) ?_;refine wpQuiet_nil ?_;intro V1 D;have F:=bX B D;replace A:=τ A D;clear D B;have HG2:=hid (HG1.out _ A);go_wp2_with fail;refine(HG2.out).mono ?_;rintro e V2 ⟨rfl,D⟩;(try dsimp only);have Z:=bX F D;replace A:=τ A D;clear D F;obtain⟨i0,hi,hz0,hz1,hz2⟩:=info_parts go;have R:=Z.alloc (.cells #[Ψ fv] 26);obtain⟨v',X',hrr,h2,h3,h4,h5⟩:=run_append_own_at (P:=prog) (w:=V2.alloc (.cells #[Ψ fv] 26)) w 44 44 26 i0 (Ψ 0) 1 4 underlying44 hi hz0 hz1 hz2 rfl δ _ k _ R ⟨V2,0,none⟩ 1 1 (aC .u32 [fv]) rfl (cell_one_new _ _ _) (by simp[aC,Value.oneCell']) (Nat.le_trans (show k+1<=65536 by omega) δ) ω (by rw[World.size_alloc];have:=A.size;omega);rw[<-bw,HTk.out]at h2;have hB2:=dh R h3 (by rw[World.size_alloc];have:=A.size;omega);have hB3:=(A.alloc A.size (.cells #[Ψ fv] 26)).trans hB2;have HR:=hid hrr;clear hrr h3 h4 h5 Z R hi hz0 hz1 hz2;go_wp2_with(at_builtin;refine Lib.wpList_append_run _ rfl _ _ _ _ rfl _ _ rfl rfl _ _ HR.out ?_);go_roundw;case rel=>exact⟨k+1,h0,by simp,HPre2,h2,hB3⟩
    case measure=>exact μ
  ·obtain rfl:k=sz:=ω
   have d1:decide ((k:Int)<(k:Int))=false:=dF;have d2:decide (k<k)=false:=dF
   have HE:=hid (show Limb.ahead L fl=fl.take k by
    rw[kg L fl k a0.out (by rw[Q.out];exact hk),List.drop_of_length_le (by rw[Q.out];exact Nat.le_refl _)];show _++[]=_
    rw[List.append_nil])
   have HLt:=hid (show(fl.take k).length=k by rw[List.length_take,Q.out];omega);go_wp2_with fail;replace B:=bX B (Below.refl _ wr).drew;replace A:=A.trans ((Below.refl _ wr).drew.mono A.size);have hX:=A;refine wp_region_held (S:=fun Y=>Below w w Y) κ ?_;refine tk 0 (I k) ?_;refine tk 1 (E G.p) ?_;refine tk 2 (Ψ l) ?_;refine wo 3 ?_;unfold wpOp;go_simp;refine .inl ((HHd.out _ A).mono ?_);rintro e X1 ⟨rfl,D⟩;replace B:=bX B D;replace A:=τ A D;clear D;have hX:=A;refine⟨hX,?_⟩;refine tk 4 (I k) ?_ (y:=fun X hX=>by have fd:=fd0;go_simp);refine tk 5 (.bool false) ?_;refine tk 6 (.bool false) ?_;refine aR (i:=7) (v:=undef) 26 rfl rfl κ κ κ (fun _ _ _ h=>h) (.inr ⟨κ,rfl⟩) hX ?_;simp only[Act.put,zA,zB,zC];refine aR (i:=8) (v:=undef) 27 rfl rfl κ κ κ (fun _ _ _ h=>h) (.inr ⟨κ,rfl⟩) hX ?_;simp only[Act.put,zA,zB,zC];refine aR (i:=9) (v:=undef) 28 rfl rfl κ κ κ (fun _ _ _ h=>h) (.inr ⟨κ,rfl⟩) hX ?_;simp only[Act.put,zA,zB,zC];refine aR (i:=10) (v:=undef) 29 rfl rfl κ κ κ (fun _ _ _ h=>h) (.inr ⟨κ,rfl⟩) hX ?_;simp only[Act.put,zA,zB,zC];refine aR (i:=11) (v:=undef) 30 rfl rfl κ κ κ (fun _ _ _ h=>h) (.inr ⟨κ,rfl⟩) hX ?_;simp only[Act.put,zA,zB,zC];refine aR (i:=12) (v:=undef) 31 rfl rfl κ κ κ (fun _ _ _ h=>h) (.inr ⟨κ,rfl⟩) hX ?_;simp only[Act.put,zA,zB,zC];refine aR (i:=13) (v:=undef) 32 rfl rfl κ κ κ (fun _ _ _ h=>h) (.inr ⟨κ,rfl⟩) hX ?_;simp only[Act.put,zA,zB,zC];refine aR (i:=14) (v:=undef) 33 rfl rfl κ κ κ (fun _ _ _ h=>h) (.inr ⟨κ,rfl⟩) hX ?_;simp only[Act.put,zA,zB,zC];refine aR (i:=15) (v:=undef) 34 rfl rfl κ κ κ (fun _ _ _ h=>h) (.inr ⟨κ,rfl⟩) hX ?_;simp only[Act.put,zA,zB,zC];refine aR (i:=16) (v:=undef) 35 rfl rfl κ κ κ (fun _ _ _ h=>h) (.inr ⟨κ,rfl⟩) hX ?_;simp only[Act.put,zA,zB,zC];refine aR (i:=17) (v:=undef) 36 rfl rfl κ κ κ (fun _ _ _ h=>h) (.inr ⟨κ,rfl⟩) hX ?_;simp only[Act.put,zA,zB,zC];refine tk 18 (.bool false) ?_;refine wpAnyH_done κ ?_ _;go_wp2_with fail;go_ret;refine⟨⟨_,rfl,?_⟩,A⟩;rw[HE.out,HLt.out];exact B
end
theorem xR{p:Nat->Bool}: ∀(L:List Nat) (k:Nat),k<L.length->(∀j,j<k->p (wd L j)=false)->p (wd L k)=true->L.find? p=some (wd L k)
 |a :: t,0,_,_,h=>by
  have h:p a=true:=h;show List.find? p (a :: t)=some a
  rw[List.find?_cons_of_pos h]
 |a :: t,k+1,hk,hj,h=>by
  have h1:p a=false:=hj 0 ω;rw[List.find?_cons_of_neg (by rw[h1];decide)];exact xR t k (by simpa using hk) (fun j b=>hj (j+1) ω) h
theorem y6{p:Nat->Bool}: ∀(L:List Nat),(∀j,j<L.length->p (wd L j)=false)->L.find? p=none
 |[],_=>rfl
 |a :: t,hj=>by
  have h1:p a=false:=hj 0 (by simp);rw[List.find?_cons_of_neg (by rw[h1];decide)];exact y6 t (fun j b=>hj (j+1) (by simpa using b))
theorem qK{z:Nat}: ∀{fl:List Nat} {x:Nat},x∈Limb.ahead z fl->x∈fl
 |[],_,h=>by cases h
 |a :: t,x,h=>by
  have h:x∈(if a=z then[]else a :: Limb.ahead z t):=h;split at h
  ·cases h
  ·rcases List.mem_cons.1 h with e|e
   ·rw[e];exact List.mem_cons_self
   ·exact List.mem_cons_of_mem _ (qK e)
theorem pe{h:Hp}(k:Limb.Good h)(r j:Nat):wd (aT h r) j<4294967296:=by
 unfold wd;rw[List.getD_eq_getElem?_getD]
 cases e:(aT h r)[j]? with
 |none=>simp
 |some x=>
  have a:=List.mem_of_getElem? e;unfold aT at a;split at a
  ·exact fB k _ x (qK a)
  ·cases a
theorem ka{w:World}{B n:Nat}{v:Value}{xs:List Value}(h:w.ownsRow B 26 1 v n xs):(v= .slice none 0 0/\n=0)∨∃g c,v= .slice (some ⟨g,0,none⟩) n c/\Sl w g 26 n c xs:=by
 obtain⟨h1,a⟩:=h;rcases a with a|⟨g,cap,cur,q1,q2,q3,q4,q5,q6,q7⟩
 ·exact .inl a
 ·rw[Nat.mul_one]at h1 q6 q7;exact .inr ⟨g,cap,q1,cur.toList,by unfold Row;simpa using q3,by simpa using q6,h1,q4,q5,q7⟩
section
variable {w:World} {G:RFoot} {h:Hp}
theorem xC(H:RefAt w G h)(K:Limb.Ker h):Calls prog 149 #[E G.p] w fun e w'=>e= .returned (.bool true)/\w=w':=by
 obtain⟨I,L,M,c1,N,_⟩:=H.cells;have a: ∀j,j<5->wd h.rt (wd [12,18,19,20,23] j)%2=0:=fun j F=>(isO_iff.1 (K.live j F)).2.1
 have n:((wd h.rt 12:Nat):Int)%2=0:=by have:=a 0 δ;have:wd h.rt 12%2=0:=this;omega
 have p:((wd h.rt 18:Nat):Int)%2=0:=by have:=a 1 δ;have:wd h.rt 18%2=0:=this;omega
 have q:((wd h.rt 19:Nat):Int)%2=0:=by have:=a 2 δ;have:wd h.rt 19%2=0:=this;omega
 have r:((wd h.rt 20:Nat):Int)%2=0:=by have:=a 3 δ;have:wd h.rt 20%2=0:=this;omega
 have s:((wd h.rt 23:Nat):Int)%2=0:=by have:=a 4 δ;have:wd h.rt 23%2=0:=this;omega
 have t:=H.ai (i:=12) δ;have u:=H.ai (i:=18) δ;have v:=H.ai (i:=19) δ;have x:=H.ai (i:=20) δ;have y:=H.ai (i:=23) δ;have c:Sl w G.gr 26 64 64 (aC .u32 h.rt):=H.roots.sl (by rw[aD];exact H.good.rlen.symm) δ;have d:=fun W=>c.index 44 underlying44 ch W .i64 12 δ
 have f:=fun W=>c.index 44 underlying44 ch W .i64 18 δ
 have g:=fun W=>c.index 44 underlying44 ch W .i64 19 δ
 have k:=fun W=>c.index 44 underlying44 ch W .i64 20 δ
 have m:=fun W=>c.index 44 underlying44 ch W .i64 23 δ
 rw[(φ:((12:Nat):Int)=12)]at d;rw[(φ:((18:Nat):Int)=18)]at f;rw[(φ:((19:Nat):Int)=19)]at g;rw[(φ:((20:Nat):Int)=20)]at k;rw[(φ:((23:Nat):Int)=23)]at m;generalize wd h.rt 12=z at*
 generalize wd h.rt 18=A at*
 generalize wd h.rt 19=B at*
 generalize wd h.rt 20=C at*
 generalize wd h.rt 23=D at*
 clear c a H K;go_enter func149,ntmps149;go_wp2;go_ret;exact⟨rfl,rfl⟩
end
section
variable {w:World} {G:RFoot} {h:Hp}
theorem zk(H:RefAt w G h)(K:Limb.Ker h)(S:ByteArray)(h0S:0<S.size):Calls prog 71 #[E G.p,.string S] w fun e w'=>e= .returned (Ψ (ek h (tx S):Nat))/\Below w w w':=by
 have hle:(aT h 3).length<=65535:=by
  unfold aT;rw[if_pos K.l3];have h1:=vf (wd h.rt 0) (bj h (wd h.rt 3));rw[bg H.good (aH K.l3)]at h1;have:=(okO H.good (aH K.l3)).size;omega
 have HL:=hid (xC H K);have HE:=hid (kx H 3 δ K.l3);have HIb:=hid (fun X (hb:Below w w X) o (ho:o<4294967296)=>nF (H.below hb) o ho);have HLn:=hid (fun X (hb:Below w w X) o (ho:isO h o=true)=>xV (H.below hb) o ho);have HBo:=hid (fun X (hb:Below w w X) o (ho:isO h o=true) (hf:(hdO h o).fmt=2) (hl:0<(hdO h o).len)=>yb (H.below hb) ho hf hl);have HLt:=hid (pe H.good 3);have hfind:ek h (tx S)=((aT h 3).find? (bT h (tx S))).getD 0:=rfl
 have HF1:=hid (fun k (hk:k<(aT h 3).length) (hj: ∀j,j<k->bT h (tx S) (wd (aT h 3) j)=false) (hr:bT h (tx S) (wd (aT h 3) k)=true)=>show ek h (tx S)=wd (aT h 3) k from by
  rw[hfind,xR _ k hk hj hr];rfl)
 have HF0:=hid (fun(hj: ∀j,j<(aT h 3).length->bT h (tx S) (wd (aT h 3) j)=false)=>show ek h (tx S)=0 from by
  rw[hfind,y6 _ hj];rfl)
 clear hfind;generalize ek h (tx S)=res at*
 generalize aT h 3=L at*
 obtain⟨n,hn⟩:=ξ L.length;rw[<-hn]at HE HF1 HF0;have HNl:=hid hn;rw[<-hn]at hle;clear hn H K;go_enter func71,ntmps71;go_wp2_with fail;refine(HL.out).mono ?_;rintro e V0 ⟨rfl,rfl⟩;go_wp2_with fail;refine(HE.out).mono ?_;rintro e V ⟨⟨v,rfl,hown⟩,hB⟩;rcases ka hown with⟨rfl,e⟩|⟨g,c,rfl,sl⟩
 ·subst e;obtain rfl:res=0:=HF0.out (fun j hj=>ω);clear hown HF1 HF0;go_wp2;go_loopw[6] (fun i wr=>i= .int .i64 0/\Below w w wr) (fun i _=>0);case atStart=>exact⟨rfl,hB⟩
  case round=>
   clear hB;obtain⟨rfl,hB⟩:=hrel;go_wp2;go_ret;exact⟨rfl,hB⟩
 ·clear hown;go_wp2;go_loopw[6] (fun i wr=> ∃k:Nat,k<=n/\i= .int .i64 k/\Hid (∀j,j<k->bT h (tx S) (wd L j)=false)/\Sl wr g 26 n c (aC .u32 L)/\Below w w wr) (fun i _=>n-(intOf i).toNat);case atStart=>exact⟨0,Nat.zero_le _,rfl,hid (fun j hj=>absurd hj ω),sl,hB⟩
  case round=>
   clear sl hB;obtain⟨k,hk,rfl,HPre,sl,hB⟩:=hrel;by_cases h0:k<n
   ·have d1:decide ((k:Int)<(n:Int))=true:=dT;have d2:decide (k<n)=true:=decide_eq_true h0;have ix:=fun W=>sl.index 44 underlying44 ch W .i64 k h0
    have cx:=sl.cell h0;rw[aJ (by rw[<-HNl.out];exact h0)]at cx;have olt:=HLt.out k;have hf1:=HF1.out k h0 HPre.out
    have hnext:bT h (tx S) (wd L k)=false->∀j,j<k+1->bT h (tx S) (wd L j)=false:=fun e j hj=>by
     by_cases e2:j=k
     ·rw[e2];exact e
     ·exact HPre.out j ω
    have HSl:=hid (fun X (hb:Below wr.heap.size wr X)=>sl.below hb);obtain⟨o,ho⟩:=ξ (wd L k);rw[<-ho]at cx olt hf1 hnext;have HOw:=hid ho.symm;clear ho;have HIo:=hid (HIb.out wr hB o olt);by_cases hb2:isF h o 2 0=true
    ·have hio:=aH hb2;have hfm:=(isF_iff.1 hb2).2.1;have hib:=HIo.out;rw[hb2]at hib;have HIo:=hid hib;have HLo:=hid (fun X hb=>HLn.out X hb o hio);have hrd:bT h (tx S) o=(decide ((hdO h o).len=S.size)&&decide (fF h o=tx S)):=by unfold bT;rw[hb2,cJ];rfl
     have HBb:=hid (fun X hb hl=>HBo.out X hb o hio hfm hl);by_cases hl:(hdO h o).len=S.size
     ·rw[hl]at HLo HBb hrd;rw[decide_eq_true rfl,Bool.true_and]at hrd;have qs:((S.size:Int)==(S.size:Int))=true:=by simp
      have HRd:=hid hrd;have HF:=hid hf1;have HNx:=hid hnext;generalize fF h o=bs at*
      clear hb2 hio hfm hib hrd hl hf1 hnext sl;go_wp2_with fail;refine(HIo.out).mono ?_;rintro e V1 ⟨rfl,hb⟩;have hbw:=Below.refl wr.heap.size wr;replace hB:=τ hB hb;replace hbw:=hbw.trans (hb.mono hbw.size);have s1:=HSl.out _ hbw;have cx:=s1.cell h0;rw[aJ (by rw[<-HNl.out];exact h0),HOw.out]at cx;clear hb;go_wp2_with fail;refine(HLo.out _ hB).mono ?_;rintro e V2 ⟨rfl,hb⟩;replace hB:=τ hB hb;replace hbw:=hbw.trans (hb.mono hbw.size);have s2:=HSl.out _ hbw;have cx:=s2.cell h0;rw[aJ (by rw[<-HNl.out];exact h0),HOw.out]at cx;clear hb;go_wp2_with fail;refine(HBb.out _ hB h0S).mono ?_;rintro e V3 ⟨⟨s,rfl,hs⟩,hb⟩;replace hB:=τ hB hb;replace hbw:=hbw.trans (hb.mono hbw.size);have s3:=HSl.out _ hbw;have cx:=s3.cell h0;rw[aJ (by rw[<-HNl.out];exact h0),HOw.out]at cx;clear hb;by_cases he:bs=tx S
      ·have hsS:s=S:=Ch (hs.trans he);subst hsS;obtain rfl:res=o:=HF.out (by rw[HRd.out,decide_eq_true he]);clear hs he HRd HF HNx;go_wp2;go_ret;exact⟨rfl,hB⟩
      ·have hne:(s.toList==S.toList)=false:=by
        rw[beq_eq_false_iff_ne];intro e;rw[ByteArray.toList_eq,ByteArray.toList_eq]at e;exact he (hs.symm.trans (by unfold tx;rw[e]))
       have HP2:=hid (HNx.out (by rw[HRd.out,decide_eq_false he]));clear hs he HRd HF HNx;go_wp2;go_roundw;case rel=>exact⟨k+1,h0,by simp,HP2,s3,hB⟩
       case measure=>exact μ
     ·have HP2:=hid (hnext (by rw[hrd,decide_eq_false hl];rfl));have q1:(((hdO h o).len:Int)==(S.size:Int))=false:=nE
      have q2:((hdO h o).len==S.size)=false:=(by rw[beq_eq_false_iff_ne];exact hl);generalize(hdO h o).len=ln at*
      clear hb2 hio hfm hib hrd hl hf1 hnext sl HBb;go_wp2_with fail;refine(HIo.out).mono ?_;rintro e V1 ⟨rfl,hb⟩;have hbw:=Below.refl wr.heap.size wr;replace hB:=τ hB hb;replace hbw:=hbw.trans (hb.mono hbw.size);have s1:=HSl.out _ hbw;have cx:=s1.cell h0;rw[aJ (by rw[<-HNl.out];exact h0),HOw.out]at cx;clear hb;go_wp2_with fail;refine(HLo.out _ hB).mono ?_;rintro e V2 ⟨rfl,hb⟩;replace hB:=τ hB hb;replace hbw:=hbw.trans (hb.mono hbw.size);have s2:=HSl.out _ hbw;have cx:=s2.cell h0;rw[aJ (by rw[<-HNl.out];exact h0),HOw.out]at cx;clear hb;go_wp2;go_roundw;case rel=>exact⟨k+1,h0,by simp,HP2,s2,hB⟩
      case measure=>exact μ
    ·rw[Bool.not_eq_true]at hb2;have hib:=HIo.out;rw[hb2]at hib;have HIo:=hid hib;have HP2:=hid (hnext (by unfold bT;rw[hb2];rfl));clear hb2 hib hf1 hnext sl;go_wp2_with fail;refine(HIo.out).mono ?_;rintro e V1 ⟨rfl,hb⟩;have hbw:=Below.refl wr.heap.size wr;replace hB:=τ hB hb;replace hbw:=hbw.trans (hb.mono hbw.size);have s1:=HSl.out _ hbw;have cx:=s1.cell h0;rw[aJ (by rw[<-HNl.out];exact h0),HOw.out]at cx;clear hb;go_wp2;go_roundw;case rel=>exact⟨k+1,h0,by simp,HP2,s1,hB⟩
     case measure=>exact μ
   ·obtain rfl:k=n:=ω
    have d1:decide ((k:Int)<(k:Int))=false:=dF;have d2:decide (k<k)=false:=dF;obtain rfl:res=0:=HF0.out HPre.out;clear HF0 HF1;go_wp2;go_ret;exact⟨rfl,hB⟩
end
section
variable {w:World} {G:RFoot} {h:Hp}
theorem zL(w:World)(f a:Nat)(b:Bool)(h1:f<=1000)(d:a<=1000):Calls prog 68 #[I f,I a,.bool b] w fun e w'=>e= .returned (I (bA f a b))/\w=w':=by
 cases b with
 |false=>
  have c:(bA f a false)=f+8*a:=rfl;rw[c];go_enter func68,ntmps68;go_wp2;go_ret;exact⟨rfl,rfl⟩
 |true=>
  have c:(bA f a true)=f+8*a+65536:=rfl;rw[c];go_enter func68,ntmps68;go_wp2;go_ret;exact⟨rfl,rfl⟩
theorem uH(w:World)(n:Nat)(b:n<1073741824):Calls prog 148 #[I n] w fun e w'=>e= .returned (Ψ (2*n+1:Nat))/\w=w':=by
 have hs:=xG w n (by unfold bC;rw[dT,dT];rfl);rw[show dE n=2*n+1 from by unfold dE;omega]at hs;have a:=hid hs;clear hs;go_enter func148,ntmps148;go_wp2_with fail;refine(a.out).mono ?_;rintro e V ⟨rfl,rfl⟩;go_wp2;go_ret;exact⟨rfl,rfl⟩
theorem RefAt.root(H:RefAt w G h){i:Nat}(a:i<64):w.cell? ⟨G.p,2,none⟩=O (M G.gr 64 64)/\w.cell? ⟨G.gr,i,none⟩=O (Ψ (wd h.rt i:Nat))/\∀W,(Instr.indexAt 44 (M G.gr 64 64) (I i)).run prog W= .ok (Θ G.gr i) W:=by
 obtain⟨d,e,f,c1,c,_⟩:=H.cells;have b:Sl w G.gr 26 64 64 (aC .u32 h.rt):=H.roots.sl (by rw[aD];exact H.good.rlen.symm) δ;exact⟨c,H.ai a,fun W=>b.index 44 underlying44 ch W .i64 i a⟩
theorem uS(H:RefAt w G h)(i:Nat)(a:i<64):Calls prog 73 #[E G.p,I i] w fun e w'=>e= .returned (Ψ (wd h.rt i:Nat))/\w=w':=by
 obtain⟨b,c,d⟩:=H.root a;clear H;go_enter func73,ntmps73;go_wp2;go_ret;exact⟨rfl,rfl⟩
theorem wq{r o:Nat}{b:Hp}(e:jJ h r o=some b):isF h (wd h.rt r) 1 0=true/\isF h (wd h.rt r) 1 ((aT h r).length+1)=true/\b=Limb.putF h (wd h.rt r) (aT h r).length o:=by
 unfold jJ at e;simp only at e;split at e
 ·rename_i a;exact⟨aO a (Nat.zero_le _),a,(Option.some.inj e).symm⟩
 ·cases e
theorem C7(H:RefAt w G h)(r:Nat)(T:r<64)(o:Nat)(O:isO h o=true)(P:Hp)(U:jJ h r o=some P):Calls prog 74 #[E G.p,I r,Ψ o] w fun e w'=>e= .returned (I 0)/\RStep w G w' G P:=by
 obtain⟨M,N,Q⟩:=wq U;have d:=aH M;have j:=fun X (b:Below w w X)=>fy (H.below b) (wd h.rt r) d
 simp only[j8]at j;have k1:=(okO H.good d).size;have A:=hid (fun X (b:Below w w X)=>kx (H.below b) r T M)
 have B:=hid (fun X (b:Below w w X)=>show Calls prog 27 #[E G.p,Ψ (wd h.rt r:Nat),I (aT h r).length,Ψ o] X fun e w'=>e= .returned (I 0)/\RStep w G w' G P from by
  rw[Q];exact(BZ (H.below b) N (bL O) (aM H.good O)).mono fun e w' ⟨x,y⟩=>⟨x,RStep.of_below b y H.lt⟩)
 have C:=(isF_iff.1 N).2.2;obtain⟨Z,cr,ix⟩:=H.root T;generalize aT h r=L at*
 generalize wd h.rt r=l at*
 have Y:=fun V=>(eZ V (I (hdO h l).size) (I (hdO h l).fmt) (I (hdO h l).spare) (Ψ (hdO h l).cls) (Ψ (hdO h l).ser)).1
 generalize hdO h l=x at*
 generalize x.size=S at*
 obtain⟨n,R⟩:=ξ L.length;rw[<-R]at A B C;have q:((n:Int)==(S:Int))=false:=nE
 have q2:(n==S)=false:=nE
 have D:=hid (j w (Below.refl _ _));clear R j M N Q U O d H;go_enter func74,ntmps74;go_wp2_with fail;refine(D.out).mono ?_;rintro e V1 ⟨rfl,u⟩;go_wp2_with fail;refine(A.out V1 u).mono ?_;rintro e V2 ⟨⟨v,rfl,hown⟩,b⟩;replace u:=τ u b;have k:=hid (B.out _ u);clear b A B Z cr ix;rcases ka hown with⟨rfl,e⟩|⟨g,c,rfl,-⟩
 ·subst e;clear hown;go_wp2_with fail;refine(k.out).mono ?_;rintro e V3 ⟨rfl,hS⟩;have F:=hid hS;clear hS;go_wp2;go_ret;exact⟨rfl,F.out⟩
 ·clear hown;go_wp2_with fail;refine(k.out).mono ?_;rintro e V3 ⟨rfl,hS⟩;have F:=hid hS;clear hS;go_wp2;go_ret;exact⟨rfl,F.out⟩
end
section
variable {w:World} {G:RFoot} {h:Hp}
theorem qr(H:RefAt w G h)(h5w:5<=w.heap.size)(K:Limb.Ker h)(S:ByteArray)(hS:S.size<=262140)(h0:0<S.size)(o:Nat)(h':Hp)(l:bY h (tx S)=some (o,h')):Calls prog 26 #[E G.p,.string S] w fun e w'=>e=Rt #[Ψ o,I 0]/\RMoved w G w' h':=by
 have b:=hid (zk H K S h0);unfold bY at l;simp only at l;by_cases hs:ek h (tx S)=0
 ·rw[if_pos hs]at l;obtain⟨⟨L,h1⟩,Z,e2⟩:=Option.bind_eq_some_iff.1 l;obtain⟨h2,e3,e4⟩:=Option.map_eq_some_iff.1 e2;rw[Prod.mk.injEq]at e4;obtain⟨rfl,rfl⟩:=e4;obtain⟨g1,i1⟩:=mh H.good (jP S) (by rw[cJ];exact hS) Z;have f:=b.out;rw[hs]at f;have b:=hid f;have j:=fun X (a:Below w w X)=>uo (H.below a) (wd h.rt 3) 1 0 (eH H.good 3)
  rw[K.l3]at j;have u:=hid j;have v:=hid (fun X (a:Below w w X)=>uS (H.below a) 18 δ);have N:=hid (fun X (a:Below w w X)=>(H.below a).root (i:=3) δ);have z:=hid (fun V=>el (P:=prog) V 9 50 5 S underlying9 underlying50 underlying5);have A:=hid (fun X g cap (a:Below w w X) (hl:Lay .u8 X (some ⟨g,0,none⟩) (tx S))=>show Calls prog 52 #[E G.p,Ψ (wd h.rt 18:Nat),M g S.size cap] X fun e w'=>e=Rt #[Ψ L,I 0]/\RMoved w G w' h1 from(CB (H.below a) (Nat.le_trans h5w a.size) (wd h.rt 18) _ (tx S) S.size cap L h1 hl (jP S) (cJ S).symm hS Z).mono fun e w' ⟨x,G',y⟩=>⟨x,G',RStep.of_below a y H.lt⟩)
  have O:=hid (fun X G1 (H1:RefAt X G1 h1) (hG:G1.p=G.p)=>show Calls prog 74 #[E G.p,I 3,Ψ L] X fun e w'=>e= .returned (I 0)/\RStep X G1 w' G1 h2 from by
   rw[<-hG];exact C7 H1 3 δ L (aH i1) h2 e3)
  clear l Z e2 e3 f j g1 i1 hs H;go_enter func26,ntmps26;go_wp2_with fail;refine(b.out).mono ?_;rintro e V1 ⟨rfl,c⟩;obtain⟨c2,cr,ix⟩:=N.out _ c;rw[(φ:((3:Nat):Int)=3)]at ix;go_wp2_with fail;refine(u.out _ c).mono ?_;rintro e V2 ⟨rfl,a⟩;replace c:=τ c a;clear a c2 cr ix;go_wp2_with fail;refine(v.out _ c).mono ?_;rintro e V3 ⟨rfl,rfl⟩;obtain⟨cp,V4,C,k,D⟩:=z.out V2;obtain⟨gg,F⟩:=ξ V2.heap.size;rw[<-F]at C k;have Q:=hid (τ c D);have d:=hid (A.out V4 gg cp Q.out k);clear F k D c A z v u b;go_wp2_with fail;refine(d.out).mono ?_;rintro e V5 ⟨rfl,G1,hS1⟩;have R:=hid (O.out V5 G1 hS1.1 hS1.2.1.p);have T:=hid hS1;clear hS1 C d;go_wp2_with fail;refine(R.out).mono ?_;rintro e V6 ⟨rfl,hS2⟩;have U:=hid (show RMoved w G V6 h2 from⟨G1,T.out.trans hS2⟩);clear hS2;go_wp2;go_ret2;exact⟨rfl,U.out⟩
 ·rw[if_neg hs,Option.some.injEq,Prod.mk.injEq]at l;obtain⟨rfl,rfl⟩:=l;have q:(((ek h (tx S):Nat):Int)==0)=false:=nE
  have q2:(((ek h (tx S):Nat))==0)=false:=nE;have B:=hid (fun Y (hY:Below w w Y)=>show RMoved w G Y h from⟨G,RStep.same H hY⟩);generalize ek h (tx S)=o at*
  clear hs H;go_enter func26,ntmps26;go_wp2_with fail;refine(b.out).mono ?_;rintro e V1 ⟨rfl,c⟩;have U:=hid (B.out _ c);clear c B;go_wp2;go_ret2;exact⟨rfl,U.out⟩
end
section
variable {w:World} {G:RFoot} {h:Hp}
theorem yu{p:Nat->Bool}{L:List Nat}(h0:p 0=false)(h:(L.find? p).getD 0=0): ∀j,j<L.length->p (wd L j)=false:=by
 intro j b
 cases e:L.find? p with
 |none=>
  rw[List.find?_eq_none]at e;rw[wd_lt b];simpa using e _ (List.getElem_mem b)
 |some a=>
  rw[e]at h;have h:a=0:=h;have:=List.find?_some e;rw[h,h0]at this;cases this
theorem vW(H:RefAt w G h)(K:Limb.Ker h)(S:ByteArray)(h0S:0<S.size)(hg:fL h (tx S)=0):Calls prog 77 #[E G.p,.string S] w fun e w'=>e= .returned (Ψ 0)/\Below w w w':=by
 have hno:=yu (p:=dO h (tx S)) (L:=aT h 4) (by simp[dO,isF,isO]) hg
 have hle:(aT h 4).length<=65535:=by
  unfold aT;rw[if_pos K.l4];have h1:=vf (wd h.rt 0) (bj h (wd h.rt 4));rw[bg H.good (aH K.l4)]at h1;have:=(okO H.good (aH K.l4)).size;omega
 have HL:=hid (xC H K);have HE:=hid (kx H 4 δ K.l4);have HIs:=hid (fun X (j:Below w w X) (o:Nat) (U:o<4294967296)=>show Calls prog 72 #[E G.p,Ψ o,I 1,I 2] X fun e w'=>e= .returned (.bool (isF h o 1 2))/\Below X.heap.size X w' from uo (H.below j) o 1 2 U);have HGt:=hid (fun X (j:Below w w X) (o:Nat) (hf:isF h o 1 (0+1)=true)=>show Calls prog 154 #[E G.p,Ψ o,I 0] X fun e w'=>e= .returned (Ψ (fld h o 0:Nat))/\Below X.heap.size X w' from CE (H.below j) (i:=0) hf);have HIb:=hid (fun X (j:Below w w X) o (U:o<4294967296)=>nF (H.below j) o U);have HLn:=hid (fun X (j:Below w w X) o (U:isO h o=true)=>xV (H.below j) o U);have HBo:=hid (fun X (j:Below w w X) o (U:isO h o=true) (hf:(hdO h o).fmt=2) (hl:0<(hdO h o).len)=>yb (H.below j) U hf hl);have HLt:=hid (pe H.good 4);have HFl:=hid (fun o=>show fld h o 0<4294967296 from H.good.lim.wd _);generalize aT h 4=L at*
 obtain⟨n,hn⟩:=ξ L.length;rw[<-hn]at HE hno hle;have HNo:=hid hno;have u:=hid hn;clear hn H K hno hg;go_enter func77,ntmps77;go_wp2_with fail;refine(HL.out).mono ?_;rintro e V0 ⟨rfl,rfl⟩;go_wp2_with fail;refine(HE.out).mono ?_;rintro e V ⟨⟨v,rfl,hown⟩,q⟩;rcases ka hown with⟨rfl,e⟩|⟨g,c,rfl,Y⟩
 ·subst e;clear hown;go_wp2;go_loopw[6] (fun i wr=>i= .int .i64 0/\Below w w wr) (fun i _=>0);case atStart=>exact⟨rfl,q⟩
  case round=>
   clear q;obtain⟨rfl,q⟩:=hrel;go_wp2;go_ret;exact⟨rfl,q⟩
 ·clear hown;go_wp2;go_loopw[6] (fun i wr=> ∃k:Nat,k<=n/\i= .int .i64 k/\True/\Sl wr g 26 n c (aC .u32 L)/\Below w w wr) (fun i _=>n-(intOf i).toNat);case atStart=>exact⟨0,Nat.zero_le _,rfl,trivial,Y,q⟩
  case round=>
   clear Y q;obtain⟨k,hk,rfl,-,Y,q⟩:=hrel;by_cases h0:k<n
   ·have d1:decide ((k:Int)<(n:Int))=true:=dT;have d2:decide (k<n)=true:=decide_eq_true h0;have ix:=fun W=>Y.index 44 underlying44 ch W .i64 k h0
    have x:=Y.cell h0;rw[aJ (by rw[<-u.out];exact h0)]at x;have olt:=HLt.out k;have C:=HNo.out k h0;have y:=hid (fun X (j:Below wr.heap.size wr X)=>Y.below j);have Z:True:=trivial;obtain⟨o,U⟩:=ξ (wd L k);rw[<-U]at x olt C;have A:=hid U.symm;clear U;have O:=hid (HIs.out wr q o olt);have d:=Below.refl wr.heap.size wr;by_cases D:isF h o 1 2=true
    ·have F:=O.out;rw[D]at F;have O:=hid F;have R:=hid (fun X j=>HGt.out X j o (aO D δ));have a0:dO h (tx S) o=bT h (tx S) (fld h o 0):=by unfold dO;rw[D];rfl
     rw[a0]at C;have flt:=HFl.out o;generalize fld h o 0=B at*
     have Q:=hid (fun X j=>HIb.out X j B flt);by_cases M:isF h B 2 0=true
     ·have a1:=aH M;have hfm:=(isF_iff.1 M).2.1;have P:=Q.out;rw[M]at P;have Q:=hid P;have HLo:=hid (fun X j=>HLn.out X j B a1);have T:bT h (tx S) B=(decide ((hdO h B).len=S.size)&&decide (fF h B=tx S)):=by unfold bT;rw[M,cJ];rfl
      have HBb:=hid (fun X j hl=>HBo.out X j B a1 hfm hl);by_cases hl:(hdO h B).len=S.size
      ·rw[hl]at HLo HBb T;rw[C,decide_eq_true rfl,Bool.true_and]at T;have hne0: ¬fF h B=tx S:=fun e=>by rw[decide_eq_true e]at T;cases T
       have qs:((S.size:Int)==(S.size:Int))=true:=(by simp);generalize fF h B=bs at*
       clear D F a0 C M a1 hfm P T hl Y;go_wp2_with fail;refine(O.out).mono ?_;rintro e V1 ⟨rfl,j⟩;replace q:=τ q j;replace d:=d.trans (j.mono d.size);have s1:=y.out _ d;have x:=s1.cell h0;rw[aJ (by rw[<-u.out];exact h0),A.out]at x;clear j;go_wp2_with fail;refine(R.out _ q).mono ?_;rintro e V2 ⟨rfl,j⟩;replace q:=τ q j;replace d:=d.trans (j.mono d.size);have s2:=y.out _ d;have x:=s2.cell h0;rw[aJ (by rw[<-u.out];exact h0),A.out]at x;clear j;go_wp2_with fail;refine(Q.out _ q).mono ?_;rintro e V3 ⟨rfl,j⟩;replace q:=τ q j;replace d:=d.trans (j.mono d.size);have s3:=y.out _ d;have x:=s3.cell h0;rw[aJ (by rw[<-u.out];exact h0),A.out]at x;clear j;go_wp2_with fail;refine(R.out _ q).mono ?_;rintro e V4 ⟨rfl,j⟩;replace q:=τ q j;replace d:=d.trans (j.mono d.size);have s4:=y.out _ d;have x:=s4.cell h0;rw[aJ (by rw[<-u.out];exact h0),A.out]at x;clear j;go_wp2_with fail;refine(HLo.out _ q).mono ?_;rintro e V5 ⟨rfl,j⟩;replace q:=τ q j;replace d:=d.trans (j.mono d.size);have s5:=y.out _ d;have x:=s5.cell h0;rw[aJ (by rw[<-u.out];exact h0),A.out]at x;clear j;go_wp2_with fail;refine(R.out _ q).mono ?_;rintro e V6 ⟨rfl,j⟩;replace q:=τ q j;replace d:=d.trans (j.mono d.size);have s6:=y.out _ d;have x:=s6.cell h0;rw[aJ (by rw[<-u.out];exact h0),A.out]at x;clear j;go_wp2_with fail;refine(HBb.out _ q h0S).mono ?_;rintro e V7 ⟨⟨s,rfl,hs⟩,j⟩;replace q:=τ q j;replace d:=d.trans (j.mono d.size);have s7:=y.out _ d;have x:=s7.cell h0;rw[aJ (by rw[<-u.out];exact h0),A.out]at x;clear j
       have hne:(s.toList==S.toList)=false:=by
        rw[beq_eq_false_iff_ne];intro e;rw[ByteArray.toList_eq,ByteArray.toList_eq]at e;exact hne0 (hs.symm.trans (by unfold tx;rw[e]))
       clear hs hne0;go_wp2;go_roundw;case rel=>exact⟨k+1,h0,by simp,Z,s7,q⟩
       case measure=>exact μ
      ·have q1:(((hdO h B).len:Int)==(S.size:Int))=false:=nE;have q2:((hdO h B).len==S.size)=false:=by rw[beq_eq_false_iff_ne];exact hl
       generalize(hdO h B).len=ln at*
       clear D F a0 C M a1 hfm P T hl Y HBb;go_wp2_with fail;refine(O.out).mono ?_;rintro e V1 ⟨rfl,j⟩;replace q:=τ q j;replace d:=d.trans (j.mono d.size);have s1:=y.out _ d;have x:=s1.cell h0;rw[aJ (by rw[<-u.out];exact h0),A.out]at x;clear j;go_wp2_with fail;refine(R.out _ q).mono ?_;rintro e V2 ⟨rfl,j⟩;replace q:=τ q j;replace d:=d.trans (j.mono d.size);have s2:=y.out _ d;have x:=s2.cell h0;rw[aJ (by rw[<-u.out];exact h0),A.out]at x;clear j;go_wp2_with fail;refine(Q.out _ q).mono ?_;rintro e V3 ⟨rfl,j⟩;replace q:=τ q j;replace d:=d.trans (j.mono d.size);have s3:=y.out _ d;have x:=s3.cell h0;rw[aJ (by rw[<-u.out];exact h0),A.out]at x;clear j;go_wp2_with fail;refine(R.out _ q).mono ?_;rintro e V4 ⟨rfl,j⟩;replace q:=τ q j;replace d:=d.trans (j.mono d.size);have s4:=y.out _ d;have x:=s4.cell h0;rw[aJ (by rw[<-u.out];exact h0),A.out]at x;clear j;go_wp2_with fail;refine(HLo.out _ q).mono ?_;rintro e V5 ⟨rfl,j⟩;replace q:=τ q j;replace d:=d.trans (j.mono d.size);have s5:=y.out _ d;have x:=s5.cell h0;rw[aJ (by rw[<-u.out];exact h0),A.out]at x;clear j;go_wp2;go_roundw;case rel=>exact⟨k+1,h0,by simp,Z,s5,q⟩
       case measure=>exact μ
     ·rw[Bool.not_eq_true]at M;have P:=Q.out;rw[M]at P;have Q:=hid P;clear D F a0 C M P Y;go_wp2_with fail;refine(O.out).mono ?_;rintro e V1 ⟨rfl,j⟩;replace q:=τ q j;replace d:=d.trans (j.mono d.size);have s1:=y.out _ d;have x:=s1.cell h0;rw[aJ (by rw[<-u.out];exact h0),A.out]at x;clear j;go_wp2_with fail;refine(R.out _ q).mono ?_;rintro e V2 ⟨rfl,j⟩;replace q:=τ q j;replace d:=d.trans (j.mono d.size);have s2:=y.out _ d;have x:=s2.cell h0;rw[aJ (by rw[<-u.out];exact h0),A.out]at x;clear j;go_wp2_with fail;refine(Q.out _ q).mono ?_;rintro e V3 ⟨rfl,j⟩;replace q:=τ q j;replace d:=d.trans (j.mono d.size);have s3:=y.out _ d;have x:=s3.cell h0;rw[aJ (by rw[<-u.out];exact h0),A.out]at x;clear j;go_wp2;go_roundw;case rel=>exact⟨k+1,h0,by simp,Z,s3,q⟩
      case measure=>exact μ
    ·rw[Bool.not_eq_true]at D;have F:=O.out;rw[D]at F;have O:=hid F;clear D F C Y;go_wp2_with fail;refine(O.out).mono ?_;rintro e V1 ⟨rfl,j⟩;replace q:=τ q j;replace d:=d.trans (j.mono d.size);have s1:=y.out _ d;have x:=s1.cell h0;rw[aJ (by rw[<-u.out];exact h0),A.out]at x;clear j;go_wp2;go_roundw;case rel=>exact⟨k+1,h0,by simp,Z,s1,q⟩
     case measure=>exact μ
   ·obtain rfl:k=n:=ω
    have d1:decide ((k:Int)<(k:Int))=false:=dF;have d2:decide (k<k)=false:=dF;go_wp2;go_ret;exact⟨rfl,q⟩
end
end Go.Proofs.YtfefijlnbhbplaaGreatDoor
namespace Go.Proofs.YtfefijlnbhbplaaGreatDoor.Limb
structure StepsR (n:Nat) (h1 h2:Hp) (ms:List Nat) (hE:Hp):Prop where
 first:nA n=some h1
 pairs:dp tenOn h1=some (ms,h2)
 good:Good h1
 paired:Paired h2 ms
 paired2:Paired (ce bareCls (cM ms 0 plans h2)) ms
 rest:((dt 0 plans (ce bareCls (cM ms 0 plans h2))).bind fun h=>(dV 0 sels h).bind fun h=>bo 0 plans h)=some hE
def sG(n:Nat):Bool:=
 match sF n with
 |none=>false
 |some p1=>match kh tenOn p1 with
  |none=>false
  |some (ms,p2)=>zZ p2 ms&&match(jF ms 0 plans p2).bind fun z=>iB bareCls z with
   |none=>false
   |some p3=>zZ p3 ms
theorem yQ{n:Nat}(h1:64<=n)(e:n<=1048576):Up1 (nA n) (sF n):=by
 refine(ji (dC h1 e) 0 0).ag fun h k=>?_
 show Up1 ((some (jK [5,7,9] h)).bind fun h=>bZ (cB.drop 1) h) _
 exact(jk _ h k).ag fun a c=>ea _ a c
theorem Ad{n:Nat}(h1:64<=n)(N:n<=1048576){u:Hp}(v:t7 n=some u)(d:sG n=true): ∃a b q,StepsR n a b q u:=by
 unfold t7 at v;obtain⟨O,m,x⟩:=Option.bind_eq_some_iff.1 v;unfold wa at m;obtain⟨y,o,p⟩:=Option.bind_eq_some_iff.1 m;unfold je at p;obtain⟨⟨q,P⟩,z,A⟩:=Option.map_eq_some_iff.1 p;unfold sG at d;split at d
 ·cases d
 ·rename_i I i;obtain⟨e,B,rfl,r⟩:=yQ h1 N I i;obtain rfl:e=y:=Option.some.inj (B.symm.trans o);split at d
  ·cases d
  ·rename_i c L j;obtain⟨f,s,rfl,t⟩:=ik tenOn _ r c L j;have l:=Option.some.inj (s.symm.trans z);rw[Prod.mk.injEq]at l;obtain⟨rfl,rfl⟩:=l;rw[Bool.and_eq_true]at d;obtain⟨C,g⟩:=d;split at g
   ·cases g
   ·rename_i M k;obtain⟨D,E,F⟩:=Option.bind_eq_some_iff.1 k;obtain⟨Q,w1,rfl,G⟩:=jf c plans 0 f t D E;obtain rfl:=Option.some.inj w1;obtain⟨R,c1,rfl,H⟩:=gZ bareCls _ G M F;obtain rfl:=Option.some.inj c1;exact⟨e,f,c,o,s,r,js t C,js H g,by rw[A];exact x⟩
theorem rW:sG 4000=true:=by decide+kernel
theorem qW{n:Nat}(h1:64<=n)(z:n<=1048576){p:Hp}(e:nA n=some p): ∃o h0,aW (cG n) 0 1 0=some (o,h0)/\isO h0 o=true/\o<4294967296/\Good (setR (setR (setR (setR h0 0 o) 5 o) 7 o) 9 o)/\bZ (cB.drop 1) (setR (setR (setR (setR h0 0 o) 5 o) 7 o) 9 o)=some p:=by
 unfold nA at e;obtain⟨x,l,b⟩:=Option.bind_eq_some_iff.1 e;unfold jY at l;obtain⟨⟨o,h0⟩,m,y⟩:=Option.map_eq_some_iff.1 l;obtain⟨g,i⟩:=bm (dC h1 z) δ δ δ m;have c:=aH i;have a:=aM g.good c;have d:=g.good.setR (i:=0) a;have f:=d.setR (i:=5) a;have q:=f.setR (i:=7) a;have s:=q.setR (i:=9) a;refine⟨o,h0,m,c,a,s,?_⟩;rw[<-y]at b;have j:wd (setR h0 0 o).rt 0=o:=by rw[jy g.good δ,if_pos rfl]
 have k:wd (setR (setR h0 0 o) 5 o).rt 0=o:=by rw[jy d δ,if_neg δ,j]
 have u:wd (setR (setR (setR h0 0 o) 5 o) 7 o).rt 0=o:=by rw[jy f δ,if_neg δ,k]
 have v:jK [5,7,9] (setR h0 0 o)=setR (setR (setR (setR h0 0 o) 5 o) 7 o) 9 o:=by
  show setR (setR (setR (setR h0 0 o) 5 (wd (setR h0 0 o).rt 0)) 7 (wd (setR (setR h0 0 o) 5 (wd (setR h0 0 o).rt 0)).rt 0)) 9 (wd (setR (setR (setR h0 0 o) 5 (wd (setR h0 0 o).rt 0)) 7 (wd (setR (setR h0 0 o) 5 (wd (setR h0 0 o).rt 0)).rt 0)).rt 0)=_
  rw[j,k,u]
 rw[v]at b;exact b
theorem uf(h:Hp)(r v n:Nat)(h0:r≠0):aW (setR h r v) 0 1 n=(aW h 0 1 n).map fun x=>(x.1,setR x.2 r v):=by
 have b:wd (setR h r v).rt 0=wd h.rt 0:=by
  unfold setR wd;show(h.rt.set r v).getD 0 0=_
  rw[List.getD_eq_getElem?_getD,List.getD_eq_getElem?_getD,List.getElem?_set_ne ω]
 unfold aW;rw[b];have c:(cU (setR h r v) 0&&de (setR h r v) n)=(cU h 0&&de h n):=rfl;rw[c];split
 ·rfl
 ·rfl
theorem wP{r:Nat}{t:List Nat}{h p:Hp}{q:List Nat}(k:Good h)(h0:r≠0)(e:dp (r :: t) h=some (q,p)): ∃c m h1 b a,aW h 0 1 6=some (c,h1)/\aW h1 0 1 6=some (m,b)/\c<4294967296/\m<4294967296/\Good (setR b r c)/\q=m :: a/\dp t (setR b r c)=some (a,p):=by
 obtain⟨s,u,v⟩:=Option.bind_eq_some_iff.1 e;obtain⟨⟨c,h1⟩,g,x⟩:=Option.map_eq_some_iff.1 u;obtain⟨⟨m,y⟩,i,z⟩:=Option.bind_eq_some_iff.1 v;obtain⟨⟨a,A⟩,B,j⟩:=Option.map_eq_some_iff.1 z;rw[<-x,uf _ _ _ _ h0]at i;obtain⟨⟨C,b⟩,l,d⟩:=Option.map_eq_some_iff.1 i;rw[Prod.mk.injEq]at j d;obtain⟨rfl,rfl⟩:=j;obtain⟨rfl,rfl⟩:=d;obtain⟨n,D⟩:=bm k δ δ δ g;obtain⟨o,E⟩:=bm n.good δ δ δ l;have f:=aM n.good (aH D);exact⟨c,C,h1,b,a,g,l,f,aM o.good (aH E),o.good.setR f,rfl,B⟩
end Go.Proofs.YtfefijlnbhbplaaGreatDoor.Limb
namespace Go.Proofs.YtfefijlnbhbplaaGreatDoor
open Go Go.RowKit Limb
theorem BO{n:Nat}(h:n=1):dN n=1:=by subst h;decide
theorem AS{x:Int}{k B:Nat}(hB:B=dN x.natAbs)(hk:32768<(B-1)*k):1024<(rep (x^k).natAbs).length:=by
 obtain⟨c,hc⟩:=ξ 1024;obtain⟨e,he⟩:=ξ ((B-1)*k);rw[<-hc];rw[<-he]at hk;refine Classical.byContradiction fun h=>?_
 have h1:=rep_length_le.1 (Nat.le_of_not_lt h);rw[Int.natAbs_pow,dj]at h1
 have hB1:0<B:=by rcases Nat.eq_zero_or_pos B with h|h;· rw[he,h]at hk;simp at hk
                  ·exact h
 have h2:2^(B-1)<=x.natAbs:=by
  refine Classical.byContradiction fun h=>?_
  have:=bitsN_le.2 (Nat.lt_of_not_le h);omega
 have h3:(2^(B-1))^k<=x.natAbs^k:=Nat.pow_le_pow_left h2 k;rw[<-Nat.pow_mul,<-he]at h3;have h4:2^(32*c)<=2^e:=Nat.pow_le_pow_right δ ω;omega
theorem zp{n c:Nat}(h:(rep n).length<=c):dN n<=32*c:=bitsN_le.2 (by have:=rep_length_le.1 h;rwa [dj]at this)
theorem Cu{n:Nat}(h:(rep n).length<=1024):dN n<=32768:=zp h
theorem gL: ∀k:Nat,(-1:Int)^k=if k%2=1 then -1 else 1
 |0=>rfl
 |k+1=>by
  rw[Int.pow_succ,gL k];by_cases h:k%2=1
  ·rw[if_pos h,if_neg ω];rfl
  ·rw[if_neg h,if_pos ω];rfl
theorem Bl{x:Int}(b:x.natAbs=1)(k:Nat):yt (decide (x<0)) k=x^k:=by
 unfold yt;have:x=1∨x= -1:=ω
 rcases this with rfl|rfl
 ·rw[if_neg (by simp),Int.one_pow]
 ·rw[gL];by_cases h:k%2=1
  ·rw[if_pos ⟨δ,h⟩,if_pos h]
  ·rw[if_neg (fun a=>h a.2),if_neg h]
theorem Answer.done[Old]{w w':World}{b:Bool}{a:Option Addr}{n c:Nat}{z:Int}(h:ApiV w' (Ω b a n c) z)(m:(rep z.natAbs).length<=1024)(o:Below w w w')(q:w.heap.size<=Old.top):Answer true w w' (.returned (.tuple #[Ω b a n c,I 0])) z:=by
 obtain⟨f,j,e,h1,k⟩:=h;exact⟨o,.inr ⟨m,_,rfl,f,_,j,e,rfl,h1.mono q,k⟩⟩
open Lib Tryz
theorem Row.fin2{w X:World}{B g h:Nat}{t:TypeId}{H I:Bool}{L M:Option Addr}{N O P c1:Nat}(u:Row X g t [.bool H,.slice L N P])(Q:Row X h t [.bool I,.slice M O c1])(d:g≠h)(R:Below B w X)(v:B<=g)(z:B<=h)(b:Bool)(a:Option Addr)(n c:Nat)(j:Bool)(k:Option Addr)(m q:Nat): ∃U,U=(((X.setCell ⟨g,0,none⟩ (.bool b)).setCell ⟨g,1,none⟩ (.slice a n c)).setCell ⟨h,0,none⟩ (.bool j)).setCell ⟨h,1,none⟩ (.slice k m q)/\U.cell? ⟨g,0,none⟩=some (.bool b)/\U.cell? ⟨g,1,none⟩=some (.slice a n c)/\U.cell? ⟨h,0,none⟩=some (.bool j)/\U.cell? ⟨h,1,none⟩=some (.slice k m q)/\Hid (Below B w U)/\Hid (∀x l,Lay .u32 X x l->Lay .u32 U x l):=by
 have f:=(Q.other (a:=⟨g,0,none⟩) d.symm (.bool b)).other (a:=⟨g,1,none⟩) d.symm (.slice a n c);obtain⟨A,D⟩:=((((u.af 0 (.bool b)).af 1 (.slice a n c)).other (a:=⟨h,0,none⟩) d (.bool j)).other (a:=⟨h,1,none⟩) d (.slice k m q)).two;obtain⟨E,F⟩:=((f.af 0 (.bool j)).af 1 (.slice k m q)).two;exact⟨_,rfl,A,D,E,F,hid (aw (aw (aw (aw R v _) v _) z _) z _),hid (fun x l G=>(G.pair u _ _).pair f _ _)⟩
theorem wB(w:World)(i g fl:Bool)(z A:Option Addr)(c a:List Nat)(x y c1 C:Nat)(j:Lay .u32 w z c)(k:Lay .u32 w A a)(q:Lim c)(d:Lim a)(s:x=c.length)(t:y=a.length)(u:x<=9223372036854775807)(v:y<=9223372036854775807):Calls prog 86 #[Ω i z x c1,Ω g A y C,.bool fl] w fun e w'=>DivAnswer (bn i c&&bn g a) fl w w' e (signed i (val c)) (signed g (val a)):=by
 cases hok:(bn i c&&bn g a)with
 |false=>
  refine(zU w i g fl z A c a x y c1 C j k q d s t u v hok).mono ?_;intro e w' h;unfold DivAnswer;rw[if_pos rfl];exact h
 |true=>
  by_cases B:signed g (val a)=0
  ·have h0:a.length=0:=by
    have f:=hok;simp only[Bool.and_eq_true]at f;obtain⟨D,_,_⟩:=bQ d f.2;rw[D,B];exact(rep_length_zero).mpr rfl
   refine(tm w i g fl z A c a x y c1 C j k q d s t u v hok h0).mono ?_;intro e w' h;unfold DivAnswer;rw[if_neg δ,if_pos B];exact h
  ·refine(wG w i g fl z A c a x y c1 C j k q d s t u v hok B).mono ?_;intro e w' h;unfold DivAnswer;rw[if_neg δ,if_neg B];exact h
theorem km{g:FuncId}{fl:Bool}(hg:(g=103/\fl=false)∨(g=34/\fl=true))(w:World)(q r:Bool)(A B:Option Addr)(j m:List Nat)(t u c1 F:Nat)(G:Lay .u32 w A j)(H:Lay .u32 w B m)(L:Lim j)(M:Lim m)(x:t=j.length)(y:u=m.length)(N:t<=9223372036854775807)(O:u<=9223372036854775807):Calls prog g #[Ω q A t c1,Ω r B u F] w fun e w'=>DivAnswer (bn q j&&bn r m) fl w w' e (signed q (val j)) (signed r (val m)):=by
 obtain⟨W,p,r0,r1,R,S,z,hsz⟩:=qG w 24 (.bool q) (.slice A t c1) (.bool r) (.slice B u F) (.bool false) (.slice none 0 0) (.bool false) (.slice none 0 0);have C:=hid p;have HJ:=hid (wB W q r fl A B j m t u c1 F (G.below z) (H.below z) L M x y N O);clear x y p;rcases hg with⟨rfl,rfl⟩|⟨rfl,rfl⟩
 all_goals
  first
   |go_enter func103,ntmps103
   |go_enter func34,ntmps34
  go_wp2_with fail;rw[<-C.out];refine HJ.out.mono ?_;rintro e w1 f;obtain⟨b,a,n,c,T,V,X,Y,k,rfl,E,d⟩:=f.shape;have HN:=hid d;have D:=hid z.size;have P:=R.below E R.lt;have Q:=S.below E S.lt;obtain⟨d0,d1,d2,d3⟩:=P.four;obtain⟨e0,e1,e2,e3⟩:=Q.four;obtain⟨U,Z,f0,f1,f2,f3,HB,HL⟩:=P.fin2 Q (by simp) (τ z E) ω ω b a n c T V X Y;have HV:=hid Z;clear d f Z;go_wp2;(try simp only[Exit.inBlock,Exit.then]);rw[<-HV.out];exact bodyPost_ret (v:= .tuple #[Ω b a n c,Ω T V X Y,I k]) (by simp[results,results103,results34,go_sem,f0,f1,f2,f3]) rfl (HN.out _ _ HB.out HL.out D.out)
end Go.Proofs.YtfefijlnbhbplaaGreatDoor

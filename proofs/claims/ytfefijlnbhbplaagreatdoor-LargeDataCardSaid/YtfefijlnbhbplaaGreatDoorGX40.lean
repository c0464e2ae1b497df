/- Walks and laws that LargeData asks for. -/
import Derived.Test.YtfefijlnbhbplaaGreatDoorGX39
import Derived.Test.YtfefijlnbhbplaaGreatDoorGX38
set_option linter.unusedVariables false
set_option linter.unusedSimpArgs false
set_option maxRecDepth 1000000
set_option maxHeartbeats 6400000
namespace Go.Proofs.YtfefijlnbhbplaaGreatDoor
open Go Lib Go.RowKit Limb Tryz
def Limb.am(h:Hp)(c m n s t fm:Nat):Hp:=
 putF (putF (putF (putF (putF (putF (setC (setC h c m) m (wd h.rt 12)) c 0 n) c 1 s) c 4 (2*fm+1)) m 1 t) m 4 99) m 5 c
theorem BW(h:Hp)(a:List Nat)(i:Nat)(p:fA):tG h a i p=Limb.am h (wd h.rt (10+i)) (wd a i) (wd h.rt 0) (if p.sup=0 then wd h.rt 0 else wd h.rt p.sup) (if p.sup=0 then wd h.rt 11 else wd a (p.sup-10)) (bA p.fmt (bu 6 (10+i)) p.idx):=rfl
theorem xl(h:Hp)(n:Nat):dS h (2*n+1)=true:=by
 unfold dS;rw[decide_eq_true (show(2*n+1)%2=1 by omega)];simp
theorem yD{h:Hp}{c m n s t fm:Nat}(k:Limb.Good h)(a:isF h c 1 6=true)(b:isF h m 1 6=true)(p:isO h (wd h.rt 12)=true)(q:isO h n=true)(hS:isO h s=true)(r:isO h t=true)(u:fm<100000):Limb.Grow h (Limb.am h c m n s t fm):=by
 have d:=dy k (aH a) (bN (aH b));have e:=d.trans (dy d.good (d.isO (aH b)) (bN (d.isO p)));have f:=e.trans (aV e.good (i:=0) (aO (e.isF _ _ _ a) δ) (aM k q));have g:=f.trans (aV f.good (i:=1) (aO (f.isF _ _ _ a) δ) (aM k hS));have j:=g.trans (aV g.good (i:=4) (v:=2*fm+1) (aO (g.isF _ _ _ a) δ) ω);have l:=j.trans (aV j.good (i:=1) (aO (j.isF _ _ _ b) δ) (aM k r));have o:=l.trans (aV l.good (i:=4) (v:=99) (aO (l.isF _ _ _ b) δ) δ);exact o.trans (aV o.good (i:=5) (aO (o.isF _ _ _ b) δ) (aM k (aH a)))
section
variable {w X:World} {G F:RFoot} {R:World->Prop} {hk:Hp}
theorem DF(c:RC w G R X F hk)(o m:Nat)(h1 j:Hp)(p:aW hk 0 1 6=some (o,h1))(q:aW h1 0 1 6=some (m,j)):Calls prog 66 #[E G.p] X fun e g=>e=Rt #[Ψ o,Ψ m,I 0]/\∃f,RC w G R g f j:=by
 have a:=hid (fun Y i (c:RC w G R Y i hk)=>show Calls prog 12 #[E G.p,Ψ 0,I 1,I 6] Y fun e g=>e=Rt #[Ψ o,I 0]/\∃f,RC w G R g f h1 from lG c 0 6 o h1 δ p);have b:=hid (fun Y i (c:RC w G R Y i h1)=>show Calls prog 12 #[E G.p,Ψ 0,I 1,I 6] Y fun e g=>e=Rt #[Ψ m,I 0]/\∃f,RC w G R g f j from lG c 0 6 m j δ q);have l:=hid c;clear p q c;go_enter func66,ntmps66;go_wp2_with fail;refine(a.out _ _ l.out).mono ?_;rintro e r ⟨rfl,i,hC⟩;have d:=hid hC;clear hC l a;go_wp2_with fail;refine(b.out _ _ d.out).mono ?_;rintro e s ⟨rfl,F2,hC⟩;have k:=hid hC;clear hC d b;go_wp2;go_ret3;exact⟨rfl,F2,k.out⟩
theorem DM(c:RC w G R X F hk)(g m n s t fm:Nat)(a:isF hk g 1 6=true)(H:isF hk m 1 6=true)(Q:isO hk (wd hk.rt 12)=true)(hN:isO hk n=true)(hS:isO hk s=true)(hT:isO hk t=true)(hfm:fm<100000):Calls prog 67 #[E G.p,Ψ g,Ψ m,Ψ n,Ψ s,Ψ t,I fm] X fun e b=>e=Rt #[]/\∃f,RC w G R b f (Limb.am hk g m n s t fm):=by
 have S:=c.hp.good;unfold Limb.am;obtain⟨q1,l⟩: ∃q,q=Limb.setC hk g m:=⟨_,rfl⟩;have D:Limb.Grow hk q1:=by rw[l];exact dy S (aH a) (bN (aH H))
 have T:=hid (fun Y d (c:RC w G R Y d hk)=>show Calls prog 70 #[E G.p,Ψ g,Ψ m] Y fun e b=>e= .returned (I 0)/\∃f,RC w G R b f q1 from by rw[l];exact gO c (aH a) (bN (aH H)));rw[<-l];obtain⟨q2,p⟩: ∃q,q=Limb.setC q1 m (wd hk.rt 12):=⟨_,rfl⟩;have U:Limb.Grow hk q2:=by rw[p];exact D.trans (dy D.good (D.isO (aH H)) (bN (D.isO Q)))
 have V:=hid (fun Y d (c:RC w G R Y d q1)=>show Calls prog 70 #[E G.p,Ψ m,Ψ (wd hk.rt 12:Nat)] Y fun e b=>e= .returned (I 0)/\∃f,RC w G R b f q2 from by rw[p];exact gO c (D.isO (aH H)) (bN (D.isO Q)))
 have Z:=hid (fun Y d (c:RC w G R Y d q1)=>show Y.cell? ⟨G.p,2,none⟩=O (M G.gr 64 64)/\Y.cell? ⟨G.gr,12,none⟩=O (Ψ (wd hk.rt 12:Nat))/\∀W,(Instr.indexAt 44 (M G.gr 64 64) (I 12)).run prog W= .ok (Θ G.gr 12) W from by
  have:=c.root (i:=12) δ
  rwa [D.rt]at this)
 rw[<-p];clear l p;have vN:=bL (U.isO hN);have lN:=aM S hN;have j:=U.isF _ _ _ a;obtain⟨q3,y⟩: ∃q,q=Limb.putF q2 g 0 n:=⟨_,rfl⟩;have g3:Limb.Grow hk q3:=by rw[y];exact U.trans (aV U.good (aO j δ) lN)
 have HP3:=hid (fun Y d (c:RC w G R Y d q2)=>show Calls prog 27 #[E G.p,Ψ g,I 0,Ψ n] Y fun e b=>e= .returned (I 0)/\∃f,RC w G R b f q3 from by rw[y];exact gn c (i:=0) (aO j δ) vN lN);rw[<-y];clear y j;have vS:=bL (g3.isO hS);have lS:=aM S hS;have j:=g3.isF _ _ _ a;obtain⟨q4,z⟩: ∃q,q=Limb.putF q3 g 1 s:=⟨_,rfl⟩;have g4:Limb.Grow hk q4:=by rw[z];exact g3.trans (aV g3.good (aO j δ) lS)
 have HP4:=hid (fun Y d (c:RC w G R Y d q3)=>show Calls prog 27 #[E G.p,Ψ g,I 1,Ψ s] Y fun e b=>e= .returned (I 0)/\∃f,RC w G R b f q4 from by rw[z];exact gn c (i:=1) (aO j δ) vS lS);rw[<-z];clear z j;have j:=g4.isF _ _ _ a;obtain⟨nm,N⟩: ∃x,x=2*fm+1:=⟨_,rfl⟩;have lF:nm<4294967296:=ω
 have HSm:=hid (fun Y=>show Calls prog 148 #[I fm] Y fun e b=>e= .returned (Ψ nm)/\Y=b from by rw[N];exact uH Y fm ω);obtain⟨q5,A⟩: ∃q,q=Limb.putF q4 g 4 (2*fm+1):=⟨_,rfl⟩;have g5:Limb.Grow hk q5:=by rw[A];exact g4.trans (aV g4.good (aO j δ) ω)
 have HP5:=hid (fun Y d (c:RC w G R Y d q4)=>show Calls prog 27 #[E G.p,Ψ g,I 4,Ψ nm] Y fun e b=>e= .returned (I 0)/\∃f,RC w G R b f q5 from by rw[A,N];exact gn c (i:=4) (aO j δ) (xl _ _) ω);rw[<-A];clear A j N lF;have vT:=bL (g5.isO hT);have lT:=aM S hT;have k:=g5.isF _ _ _ H;obtain⟨q6,B⟩: ∃q,q=Limb.putF q5 m 1 t:=⟨_,rfl⟩;have g6:Limb.Grow hk q6:=by rw[B];exact g5.trans (aV g5.good (aO k δ) lT)
 have HP6:=hid (fun Y d (c:RC w G R Y d q5)=>show Calls prog 27 #[E G.p,Ψ m,I 1,Ψ t] Y fun e b=>e= .returned (I 0)/\∃f,RC w G R b f q6 from by rw[B];exact gn c (i:=1) (aO k δ) vT lT);rw[<-B];clear B k;have k:=g6.isF _ _ _ H;have HSn:=hid (fun Y=>show Calls prog 148 #[I 49] Y fun e b=>e= .returned (Ψ 99)/\Y=b from uH Y 49 δ);obtain⟨q7,C⟩: ∃q,q=Limb.putF q6 m 4 99:=⟨_,rfl⟩;have g7:Limb.Grow hk q7:=by rw[C];exact g6.trans (aV g6.good (aO k δ) δ)
 have HP7:=hid (fun Y d (c:RC w G R Y d q6)=>show Calls prog 27 #[E G.p,Ψ m,I 4,Ψ 99] Y fun e b=>e= .returned (I 0)/\∃f,RC w G R b f q7 from by rw[C];exact gn c (i:=4) (v:=99) (aO k δ) (xl _ 49) δ);rw[<-C];clear C k;have k:=g7.isF _ _ _ H;obtain⟨q8,P⟩: ∃q,q=Limb.putF q7 m 5 g:=⟨_,rfl⟩;have HP8:=hid (fun Y d (c:RC w G R Y d q7)=>show Calls prog 27 #[E G.p,Ψ m,I 5,Ψ g] Y fun e b=>e= .returned (I 0)/\∃f,RC w G R b f q8 from by rw[P];exact gn c (i:=5) (aO k δ) (bL (g7.isO (aH a))) (aM S (aH a)));rw[<-P];clear P k;generalize wd hk.rt 12=r12 at*
 have HC:=hid c;clear D U g3 g4 g5 g6 g7 vN lN vS lS vT lT a H Q hN hS hT S c;go_enter func67,ntmps67;go_wp2_with fail;refine(T.out _ _ HC.out).mono ?_;rintro e Y1 ⟨rfl,d,a⟩;have L:=hid a;obtain⟨c2,cr,ix⟩:=Z.out _ _ L.out;clear a HC T;go_wp2_with fail;refine(V.out _ _ L.out).mono ?_;rintro e Y2 ⟨rfl,F2,a⟩;have HC2:=hid a;clear a L V c2 cr ix Z;go_wp2_with fail;refine(HP3.out _ _ HC2.out).mono ?_;rintro e Y3 ⟨rfl,F3,a⟩;have HC3:=hid a;clear a HC2 HP3;go_wp2_with fail;refine(HP4.out _ _ HC3.out).mono ?_;rintro e Y4 ⟨rfl,F4,a⟩;have HC4:=hid a;clear a HC3 HP4;go_wp2_with fail;refine(HSm.out _).mono ?_;rintro e Y4' ⟨rfl,rfl⟩;go_wp2_with fail;refine(HP5.out _ _ HC4.out).mono ?_;rintro e Y5 ⟨rfl,F5,a⟩;have HC5:=hid a;clear a HC4 HP5 HSm;go_wp2_with fail;refine(HP6.out _ _ HC5.out).mono ?_;rintro e Y6 ⟨rfl,F6,a⟩;have HC6:=hid a;clear a HC5 HP6;go_wp2_with fail;refine(HSn.out _).mono ?_;rintro e Y6' ⟨rfl,rfl⟩;go_wp2_with fail;refine(HP7.out _ _ HC6.out).mono ?_;rintro e Y7 ⟨rfl,F7,a⟩;have HC7:=hid a;clear a HC6 HP7 HSn;go_wp2_with fail;refine(HP8.out _ _ HC7.out).mono ?_;rintro e Y8 ⟨rfl,F8,a⟩;have HC8:=hid a;clear a HC7 HP8;go_wp2;go_returns;exact⟨rfl,F8,HC8.out⟩
end
theorem jg(W:World):(sizeOf 71).run prog W= .ok 5 W:=κ
def gc(p:fA)(v:Value):List Value:=[sv p.name,.int .i64 p.sup,.int .i64 p.fmt,v,.bool p.idx]
def qi:List fA->List Value->List Value
 |p :: t,v :: s=>gc p v++qi t s
 |_,_=>[]
theorem pU: ∀(ps:List fA) (vs:List Value) (i k:Nat),i<ps.length->ps.length=vs.length->k<5->(qi ps vs)[5*i+k]? =(gc (ps.getD i ⟨[],0,0,false,[]⟩) (vs.getD i undef))[k]?
 |[],_,_,_,h,_,_=>by simp at h
 |p :: t,[],_,_,_,h,_=>by simp at h
 |p :: t,v :: s,0,k,_,_,hk=>by
  show(gc p v++qi t s)[5*0+k]? =(gc p v)[k]?
  rw[Nat.mul_zero,Nat.zero_add,List.getElem?_append_left (by exact hk)]
 |p :: t,v :: s,i+1,k,h1,h2,hk=>by
  show(gc p v++qi t s)[5*(i+1)+k]? =_
  rw[List.getElem?_append_right (by show 5<=_;omega)];show(qi t s)[5*(i+1)+k-5]? =(gc (t.getD i _) (s.getD i undef))[k]?
  rw[(ω:5*(i+1)+k-5=5*i+k)];exact pU t s i k (by simpa using h1) (by simpa using h2) hk
def RowsAt(w:World)(g:Nat)(vs:List Value):Prop:=vs.length=22/\Row w g 71 (qi plans vs)/\∀i,i<22->FieldsAt w (vs.getD i undef) (plans.getD i ⟨[],0,0,false,[]⟩).fields
section
variable {w:World} {g:Nat} {vs:List Value}
theorem RowsAt.below{w':World}(h:RowsAt w g vs)(a:Below w w w'):RowsAt w' g vs:=
 ⟨h.1,h.2.1.below a h.2.1.lt,fun i c=>(h.2.2 i c).only (B:=0) a⟩
theorem RowsAt.cells(h:RowsAt w g vs){i:Nat}(r:i<22):w.cell? ⟨g,5*i,none⟩=some (sv (plans.getD i ⟨[],0,0,false,[]⟩).name)/\w.cell? ⟨g,5*i+1,none⟩=O (I (plans.getD i ⟨[],0,0,false,[]⟩).sup)/\w.cell? ⟨g,5*i+2,none⟩=O (I (plans.getD i ⟨[],0,0,false,[]⟩).fmt)/\w.cell? ⟨g,5*i+3,none⟩=some (vs.getD i undef)/\w.cell? ⟨g,5*i+4,none⟩=some (.bool (plans.getD i ⟨[],0,0,false,[]⟩).idx):=by
 have j: ∀k,k<5->w.cell? ⟨g,5*i+k,none⟩=(gc (plans.getD i ⟨[],0,0,false,[]⟩) (vs.getD i undef))[k]? :=fun k q=>by
  rw[h.2.1.ae,pU plans vs i k (by exact r) h.1.symm q]
 exact⟨j 0 δ,j 1 δ,j 2 δ,j 3 δ,j 4 δ⟩
theorem j9(g:Nat)(vs:List Value):RKeeps (fun X=>RowsAt X g vs):=
 ⟨fun _ _ p a=>p.below a,fun _ _ _ _ _ _ H p s=>⟨p.1,s.beside p.2.1 (H.not_mem p.2.1 δ δ δ δ),fun i b=>by
  rcases p.2.2 i b with x|⟨x1,gf,x2,x3⟩
  ·exact .inl x
  ·exact .inr ⟨x1,gf,x2,s.beside x3 (H.not_mem x3 δ δ δ δ)⟩⟩⟩
def DY:Nat->Nat->Nat
 |0,_=>0
 |k+1,r=>if r=0 then 0 else 1+DY k (plans.getD (r-10) ⟨[],0,0,false,[]⟩).sup
theorem CJ: ∀i,i<22->DY 6 (plans.getD i ⟨[],0,0,false,[]⟩).sup<DY 6 (10+i):=δ
theorem wY: ∀i,i<22->(plans.getD i ⟨[],0,0,false,[]⟩).fields.length+bu 6 (plans.getD i ⟨[],0,0,false,[]⟩).sup=bu 6 (10+i):=δ
theorem BB: ∀i,i<22->(plans.getD i ⟨[],0,0,false,[]⟩).sup=0∨(10<=(plans.getD i ⟨[],0,0,false,[]⟩).sup/\(plans.getD i ⟨[],0,0,false,[]⟩).sup<32):=δ
theorem Et(w:World):Calls prog 24 #[] w fun e w'=>(∃g vs,e= .returned (.slice (some ⟨g,0,none⟩) 22 22)/\RowsAt w' g vs/\w.heap.size<=g)/\Below w.heap.size w w':=by
 obtain⟨W0,hW0,r0,hb0,hz0⟩:=aA w 9 [.string ⟨#[110,97,109,101]⟩,.string ⟨#[115,117,112,101,114,99,108,97,115,115]⟩,.string ⟨#[109,101,116,104,111,100,115]⟩,.string ⟨#[102,105,101,108,100,115]⟩,.string ⟨#[102,111,114,109,97,116]⟩,.string ⟨#[116,104,105,115]⟩];obtain⟨W1,hW1,r1,hb1,hz1⟩:=aA W0 9 [.string ⟨#[107,101,121]⟩,.string ⟨#[118,97,108,117,101]⟩];obtain⟨W2,hW2,r2,hb2,hz2⟩:=aA W1 9 [.string ⟨#[104,101,97,100,101,114]⟩,.string ⟨#[115,101,108,101,99,116,111,114]⟩,.string ⟨#[99,108,97,115,115]⟩,.string ⟨#[108,105,116,101,114,97,108,115]⟩,.string ⟨#[99,111,100,101]⟩,.string ⟨#[115,111,117,114,99,101]⟩,.string ⟨#[112,114,105,109,105,116,105,118,101]⟩];obtain⟨W3,hW3,r3,hb3,hz3⟩:=aA W2 9 [.string ⟨#[111,117,116,101,114]⟩,.string ⟨#[112,99]⟩,.string ⟨#[97,114,103,117,109,101,110,116,115]⟩,.string ⟨#[116,101,109,112,111,114,97,114,105,101,115]⟩,.string ⟨#[104,111,109,101]⟩,.string ⟨#[115,116,97,99,107]⟩];obtain⟨W4,hW4,r4,hb4,hz4⟩:=aA W3 9 [.string ⟨#[115,101,110,100,101,114]⟩,.string ⟨#[112,99]⟩,.string ⟨#[116,111,112]⟩,.string ⟨#[109,101,116,104,111,100]⟩,.string ⟨#[114,101,99,101,105,118,101,114]⟩,.string ⟨#[99,108,111,115,117,114,101]⟩,.string ⟨#[109,97,114,107]⟩];obtain⟨W5,hW5,r5,hb5,hz5⟩:=aA W4 9 [.string ⟨#[115,101,108,101,99,116,111,114]⟩,.string ⟨#[97,114,103,117,109,101,110,116,115]⟩];obtain⟨W6,hW6,r6,hb6,hz6⟩:=aA W5 9 [.string ⟨#[99,111,110,116,101,120,116]⟩,.string ⟨#[112,114,105,111,114,105,116,121]⟩,.string ⟨#[110,101,120,116]⟩,.string ⟨#[110,97,109,101]⟩,.string ⟨#[119,97,107,101]⟩,.string ⟨#[119,97,105,116,105,110,103]⟩,.string ⟨#[114,101,115,117,108,116]⟩];obtain⟨W7,hW7,r7,hb7,hz7⟩:=aA W6 9 [.string ⟨#[115,105,103,110,97,108,115]⟩,.string ⟨#[102,105,114,115,116]⟩,.string ⟨#[108,97,115,116]⟩];obtain⟨W8,hW8,r8,hb8,hz8⟩:=aA W7 9 [.string ⟨#[109,101,115,115,97,103,101,84,101,120,116]⟩,.string ⟨#[115,105,103,110,97,108,67,111,110,116,101,120,116]⟩,.string ⟨#[104,97,110,100,108,101,114,67,111,110,116,101,120,116]⟩,.string ⟨#[116,97,103]⟩];obtain⟨W9,hW9,r9,hb9,hz9⟩:=aA W8 71 [.string ⟨#[79,98,106,101,99,116]⟩,.int .i64 0,.int .i64 1,.slice none 0 0,.bool false,.string ⟨#[67,108,97,115,115]⟩,.int .i64 10,.int .i64 1,.slice (some ⟨w.heap.size,0,none⟩) 6 6,.bool false,.string ⟨#[77,101,116,97,99,108,97,115,115]⟩,.int .i64 11,.int .i64 1,.slice none 0 0,.bool false,.string ⟨#[85,110,100,101,102,105,110,101,100,79,98,106,101,99,116]⟩,.int .i64 10,.int .i64 1,.slice none 0 0,.bool false,.string ⟨#[84,114,117,101]⟩,.int .i64 10,.int .i64 1,.slice none 0 0,.bool false,.string ⟨#[70,97,108,115,101]⟩,.int .i64 10,.int .i64 1,.slice none 0 0,.bool false,.string ⟨#[83,109,97,108,108,73,110,116,101,103,101,114]⟩,.int .i64 31,.int .i64 1,.slice none 0 0,.bool false,.string ⟨#[76,97,114,103,101,73,110,116,101,103,101,114]⟩,.int .i64 31,.int .i64 3,.slice none 0 0,.bool true,.string ⟨#[83,121,109,98,111,108]⟩,.int .i64 19,.int .i64 2,.slice none 0 0,.bool true,.string ⟨#[83,116,114,105,110,103]⟩,.int .i64 10,.int .i64 2,.slice none 0 0,.bool true,.string ⟨#[65,114,114,97,121]⟩,.int .i64 10,.int .i64 1,.slice none 0 0,.bool true,.string ⟨#[87,101,97,107,65,114,114,97,121]⟩,.int .i64 10,.int .i64 4,.slice none 0 0,.bool true,.string ⟨#[66,121,116,101,65,114,114,97,121]⟩,.int .i64 10,.int .i64 2,.slice none 0 0,.bool true,.string ⟨#[65,115,115,111,99,105,97,116,105,111,110]⟩,.int .i64 10,.int .i64 1,.slice (some ⟨w.heap.size+1,0,none⟩) 2 2,.bool false,.string ⟨#[77,101,116,104,111,100]⟩,.int .i64 10,.int .i64 1,.slice (some ⟨w.heap.size+1+1,0,none⟩) 7 7,.bool false,.string ⟨#[66,108,111,99,107]⟩,.int .i64 10,.int .i64 1,.slice (some ⟨w.heap.size+1+1+1,0,none⟩) 6 6,.bool false,.string ⟨#[67,111,110,116,101,120,116]⟩,.int .i64 10,.int .i64 1,.slice (some ⟨w.heap.size+1+1+1+1,0,none⟩) 7 7,.bool true,.string ⟨#[77,101,115,115,97,103,101]⟩,.int .i64 10,.int .i64 1,.slice (some ⟨w.heap.size+1+1+1+1+1,0,none⟩) 2 2,.bool false,.string ⟨#[80,114,111,99,101,115,115]⟩,.int .i64 10,.int .i64 1,.slice (some ⟨w.heap.size+1+1+1+1+1+1,0,none⟩) 7 7,.bool false,.string ⟨#[83,101,109,97,112,104,111,114,101]⟩,.int .i64 10,.int .i64 1,.slice (some ⟨w.heap.size+1+1+1+1+1+1+1,0,none⟩) 3 3,.bool false,.string ⟨#[69,120,99,101,112,116,105,111,110]⟩,.int .i64 10,.int .i64 1,.slice (some ⟨w.heap.size+1+1+1+1+1+1+1+1,0,none⟩) 4 4,.bool false,.string ⟨#[73,110,116,101,103,101,114]⟩,.int .i64 10,.int .i64 1,.slice none 0 0,.bool false];have hB:Below w.heap.size w W9:=(((((((((hb0.trans (hb1.mono ω)).trans (hb2.mono ω)).trans (hb3.mono ω)).trans (hb4.mono ω)).trans (hb5.mono ω)).trans (hb6.mono ω)).trans (hb7.mono ω)).trans (hb8.mono ω)).trans (hb9.mono ω));rw[hz0]at r1;rw[hz1,hz0]at r2;rw[hz2,hz1,hz0]at r3;rw[hz3,hz2,hz1,hz0]at r4;rw[hz4,hz3,hz2,hz1,hz0]at r5;rw[hz5,hz4,hz3,hz2,hz1,hz0]at r6;rw[hz6,hz5,hz4,hz3,hz2,hz1,hz0]at r7;rw[hz7,hz6,hz5,hz4,hz3,hz2,hz1,hz0]at r8;rw[hz8,hz7,hz6,hz5,hz4,hz3,hz2,hz1,hz0]at r9;replace r0:=r0.below hb1 r0.lt;replace r0:=r0.below hb2 r0.lt;replace r0:=r0.below hb3 r0.lt;replace r0:=r0.below hb4 r0.lt;replace r0:=r0.below hb5 r0.lt;replace r0:=r0.below hb6 r0.lt;replace r0:=r0.below hb7 r0.lt;replace r0:=r0.below hb8 r0.lt;replace r0:=r0.below hb9 r0.lt;replace r1:=r1.below hb2 r1.lt;replace r1:=r1.below hb3 r1.lt;replace r1:=r1.below hb4 r1.lt;replace r1:=r1.below hb5 r1.lt;replace r1:=r1.below hb6 r1.lt;replace r1:=r1.below hb7 r1.lt;replace r1:=r1.below hb8 r1.lt;replace r1:=r1.below hb9 r1.lt;replace r2:=r2.below hb3 r2.lt;replace r2:=r2.below hb4 r2.lt;replace r2:=r2.below hb5 r2.lt;replace r2:=r2.below hb6 r2.lt;replace r2:=r2.below hb7 r2.lt;replace r2:=r2.below hb8 r2.lt;replace r2:=r2.below hb9 r2.lt;replace r3:=r3.below hb4 r3.lt;replace r3:=r3.below hb5 r3.lt;replace r3:=r3.below hb6 r3.lt;replace r3:=r3.below hb7 r3.lt;replace r3:=r3.below hb8 r3.lt;replace r3:=r3.below hb9 r3.lt;replace r4:=r4.below hb5 r4.lt;replace r4:=r4.below hb6 r4.lt;replace r4:=r4.below hb7 r4.lt;replace r4:=r4.below hb8 r4.lt;replace r4:=r4.below hb9 r4.lt;replace r5:=r5.below hb6 r5.lt;replace r5:=r5.below hb7 r5.lt;replace r5:=r5.below hb8 r5.lt;replace r5:=r5.below hb9 r5.lt;replace r6:=r6.below hb7 r6.lt;replace r6:=r6.below hb8 r6.lt;replace r6:=r6.below hb9 r6.lt;replace r7:=r7.below hb8 r7.lt;replace r7:=r7.below hb9 r7.lt;replace r8:=r8.below hb9 r8.lt
 have hP:RowsAt W9 (w.heap.size+1+1+1+1+1+1+1+1+1) [.slice none 0 0,.slice (some ⟨w.heap.size,0,none⟩) 6 6,.slice none 0 0,.slice none 0 0,.slice none 0 0,.slice none 0 0,.slice none 0 0,.slice none 0 0,.slice none 0 0,.slice none 0 0,.slice none 0 0,.slice none 0 0,.slice none 0 0,.slice (some ⟨w.heap.size+1,0,none⟩) 2 2,.slice (some ⟨w.heap.size+1+1,0,none⟩) 7 7,.slice (some ⟨w.heap.size+1+1+1,0,none⟩) 6 6,.slice (some ⟨w.heap.size+1+1+1+1,0,none⟩) 7 7,.slice (some ⟨w.heap.size+1+1+1+1+1,0,none⟩) 2 2,.slice (some ⟨w.heap.size+1+1+1+1+1+1,0,none⟩) 7 7,.slice (some ⟨w.heap.size+1+1+1+1+1+1+1,0,none⟩) 3 3,.slice (some ⟨w.heap.size+1+1+1+1+1+1+1+1,0,none⟩) 4 4,.slice none 0 0]:=by
  refine⟨rfl,r9,fun i hi=>?_⟩;have hi2:i=0∨i=1∨i=2∨i=3∨i=4∨i=5∨i=6∨i=7∨i=8∨i=9∨i=10∨i=11∨i=12∨i=13∨i=14∨i=15∨i=16∨i=17∨i=18∨i=19∨i=20∨i=21:=ω
  rcases hi2 with rfl|rfl|rfl|rfl|rfl|rfl|rfl|rfl|rfl|rfl|rfl|rfl|rfl|rfl|rfl|rfl|rfl|rfl|rfl|rfl|rfl|rfl
  ·exact .inl ⟨rfl,rfl⟩
  ·exact .inr ⟨δ,_,rfl,r0⟩
  ·exact .inl ⟨rfl,rfl⟩
  ·exact .inl ⟨rfl,rfl⟩
  ·exact .inl ⟨rfl,rfl⟩
  ·exact .inl ⟨rfl,rfl⟩
  ·exact .inl ⟨rfl,rfl⟩
  ·exact .inl ⟨rfl,rfl⟩
  ·exact .inl ⟨rfl,rfl⟩
  ·exact .inl ⟨rfl,rfl⟩
  ·exact .inl ⟨rfl,rfl⟩
  ·exact .inl ⟨rfl,rfl⟩
  ·exact .inl ⟨rfl,rfl⟩
  ·exact .inr ⟨δ,_,rfl,r1⟩
  ·exact .inr ⟨δ,_,rfl,r2⟩
  ·exact .inr ⟨δ,_,rfl,r3⟩
  ·exact .inr ⟨δ,_,rfl,r4⟩
  ·exact .inr ⟨δ,_,rfl,r5⟩
  ·exact .inr ⟨δ,_,rfl,r6⟩
  ·exact .inr ⟨δ,_,rfl,r7⟩
  ·exact .inr ⟨δ,_,rfl,r8⟩
  ·exact .inl ⟨rfl,rfl⟩
 have HP:=hid hP;have HBl:=hid hB;clear hP hB r0 hb0 hz0 r1 hb1 hz1 r2 hb2 hz2 r3 hb3 hz3 r4 hb4 hz4 r5 hb5 hz5 r6 hb6 hz6 r7 hb7 hz7 r8 hb8 hz8 r9 hb9 hz9;subst hW9 hW8 hW7 hW6 hW5 hW4 hW3 hW2 hW1 hW0;go_enter func24,ntmps24;go_wp2_with fail;go_ret;exact⟨⟨_,rfl,⟨_,HP.out⟩,ω⟩,HBl.out⟩
end
open Go.Maps
theorem yo:Keyed prog 3:=int_keyed underlying3
theorem Cn(w:World):(zeroValue 26).run prog w= .ok (Ψ 0) w:=κ
theorem As{i:Nat}(a:i<=1000):(Lit.int .i64 ((10+i:Nat):Int)).wf=true:=WalkArith.wf_i64 ω
theorem wf_u32{v:Nat}(a:v<4294967296):(Lit.int .u32 (v:Int)).wf=true:=WalkArith.wf_u32 ω
def MetasAt(w:World)(b k:Nat)(ms:List Nat):Prop:= ∃D:DataW Unit,w.ownsMap prog 3 (plainElem prog 26) b k D/\IsMap D/\ms.length=k/\∀j,j<k->D.atKey (.int .i64 ((10+j:Nat):Int)) (.lit (.int .u32 0))= .lit (.int .u32 (wd ms j:Nat))
section
variable {w w':World} {b k:Nat} {ms:List Nat}
theorem MetasAt.made(w:World):MetasAt (w.alloc (.map #[] 0)) w 0 []:=⟨_,World.ownsMap_made _ _ _ _,isMap_empty,rfl,fun j c=>absurd c (Nat.not_lt_zero _)⟩
theorem MetasAt.lt(h:MetasAt w b k ms):b<w.heap.size:=by obtain⟨D,h1,_⟩:=h;exact h1.lt
theorem MetasAt.len(h:MetasAt w b k ms):ms.length=k:=by obtain⟨D,_,_,h1,_⟩:=h;exact h1
theorem MetasAt.only{ps:List Nat}(h:MetasAt w b k ms)(j:Only ps w w')(l:b∉ps):MetasAt w' b k ms:=by
 obtain⟨D,h1,e⟩:=h;have d:=h1.lt;obtain⟨f,c,g,F,hs,i⟩:=h1;exact⟨D,⟨f,c,(j.block b d l).trans g,F,hs,i⟩,e⟩
theorem MetasAt.not_row(h:MetasAt w b k ms){g:Nat}{e:TypeId}{d:List Value}(r:Row w g e d):b≠g:=by
 rintro rfl;obtain⟨D,⟨f,a,c,_⟩,_⟩:=h;unfold Row at r;rw[c]at r;simp at r
theorem MetasAt.not_mem(h:MetasAt w b k ms){F:RFoot}{j:Hp}(H:RefAt w F j):b∉F.l:=by
 obtain⟨l,g,i,a,c⟩:=H.row;obtain⟨_,a⟩:=a.row;obtain⟨_,c⟩:=c.row;have f:=H.roots;intro d;unfold RFoot.l at d;simp only[List.mem_cons,List.not_mem_nil,or_false]at d;rcases d with e|e|e|e
 ·exact h.not_row i e
 ·exact h.not_row a e
 ·exact h.not_row c e
 ·exact h.not_row f e
theorem MetasAt.lookup(h:MetasAt w b k ms){j:Nat}(o:j<k)(t:k<=1000):(Instr.lookup 125 (.map (some b)) (I ((10+j:Nat):Int)) false).run prog w= .ok (Ψ (wd ms j:Nat)) w:=by
 obtain⟨D,h1,q,s,f⟩:=h;obtain⟨c,g,d,l⟩:=h1.lookup_int yo underlying125 underlying26 (Cn w) (keyOf_int_mk underlying3 (As (i:=j) ω));rw[f j o]at d;have e:((wd ms j:Nat):Int)=c:=by simpa using d
 rw[e];exact g
theorem MetasAt.update(h:MetasAt w b k ms)(hk:k<=1000)(v:Nat)(hv:v<4294967296): ∃w',(Instr.mapUpdate 125 (.map (some b)) (.int .i64 ((10+k:Nat):Int)) (.int .u32 v)).run prog w= .ok () w'/\MetasAt w' b (k+1) (ms++[v])/\Only [b] w w':=by
 obtain⟨D,h1,h2,h3,h4⟩:=h;obtain⟨w',hr,ho,hg⟩:=h1.update yo underlying125 (by unfold maxLen;omega) (keyOf_int_mk underlying3 (As hk)) (plainElem_int underlying26 (wf_u32 hv));refine⟨w',hr,⟨_,ho,h2.put _ _,by rw[List.length_append,h3];rfl,fun j hj=>?_⟩,⟨hg.os,hg.tape,hg.output,hg.size,fun i hi hn=>hg.block i hi (fun e=>hn (by rw[<-Option.some.inj e];exact List.mem_singleton.2 rfl))⟩⟩;by_cases e:j=k
 ·subst e;rw[atKey_put_same h2 (by trivial)];have:wd (ms++[v]) j=v:=by unfold wd;rw[<-h3];simp
  rw[this]
 ·rw[atKey_put_other (by intro x;injection x with _ x;omega),h4 j ω];have:wd (ms++[v]) j=wd ms j:=by unfold wd;rw[List.getD_eq_getElem?_getD,List.getD_eq_getElem?_getD,List.getElem?_append_left ω]
  rw[this]
end
theorem sN(b k:Nat)(ms:List Nat):RKeeps (fun X=>MetasAt X b k ms):=
 ⟨fun _ _ m a=>m.only (ps:=[]) (Only.of_below a) (by simp),fun _ _ _ _ _ _ H m s=>m.only s.2.2 (m.not_mem H)⟩
theorem lI(w:World):Calls prog 64 #[] w fun e w'=>(∃g,e= .returned (M g 11 11)/\Row w' g 9 (sels.map sv))/\Below w w w':=by
 obtain⟨W,f,a,b,j⟩:=aA w 9 [.string ⟨#[100,111,101,115,78,111,116,85,110,100,101,114,115,116,97,110,100,58]⟩,.string ⟨#[109,117,115,116,66,101,66,111,111,108,101,97,110]⟩,.string ⟨#[99,97,110,110,111,116,82,101,116,117,114,110,58]⟩,.string ⟨#[97,98,111,117,116,84,111,82,101,116,117,114,110,58,116,104,114,111,117,103,104,58]⟩,.string ⟨#[118,97,108,117,101]⟩,.string ⟨#[118,97,108,117,101,58]⟩,.string ⟨#[118,97,108,117,101,58,118,97,108,117,101,58]⟩,.string ⟨#[118,97,108,117,101,58,118,97,108,117,101,58,118,97,108,117,101,58]⟩,.string ⟨#[100,111,73,116]⟩,.string ⟨#[115,105,103,110,97,108]⟩,.string ⟨#[117,110,119,105,110,100]⟩];have c:=hid (show Row W w 9 (sels.map sv)from a);have d:=hid b;clear a b j;subst f;go_enter func64,ntmps64;go_wp2;go_ret;exact⟨⟨_,rfl,c.out⟩,d.out⟩
namespace Limb
theorem iR{a:Nat}: ∀(l:List Nat) (i:Nat) (h:Hp),Good h->(∀x∈l,isO h x=true)->isF h a 1 (i+l.length)=true->Grow h (aY a i l h)
 |[],_,h,k,_,_=>Grow.refl k
 |v :: t,i,h,k,hl,hf=>by
  have hf:isF h a 1 (i+(t.length+1))=true:=hf;have g:=aV k (i:=i) (aO hf ω) (aM k (hl v (by simp)));exact g.trans (iR t (i+1) _ g.good (fun x b=>g.isO (hl x (List.mem_cons_of_mem _ b))) (g.isF _ _ _ (aO hf ω)))
theorem gj: ∀(fs:List (List Nat)) (h h':Hp) (l:List Nat),Good h->fs.all okT=true->bR fs h=some (l,h')->Grow h h'/\(∀x∈l,isO h' x=true)/\l.length=fs.length
 |[],h,h',l,k,_,e=>by
  have:=Option.some.inj e;rw[Prod.mk.injEq]at this;obtain⟨rfl,rfl⟩:=this;exact⟨Grow.refl k,by simp,rfl⟩
 |s :: t,h,h',l,k,ho,e=>by
  rw[List.all_cons,Bool.and_eq_true]at ho;obtain⟨⟨o,h1⟩,f,g⟩:=Option.bind_eq_some_iff.1 e;obtain⟨⟨r,i⟩,j,b⟩:=Option.map_eq_some_iff.1 g;rw[Prod.mk.injEq]at b;obtain⟨rfl,rfl⟩:=b;obtain⟨m,n⟩:=dU ho.1;obtain⟨c,p⟩:=cI k m n f;obtain⟨d,q,u⟩:=gj t h1 i r c.good ho.2 j;refine⟨c.trans d,fun x a=>?_,by show r.length+1=t.length+1;rw[u]⟩;rcases List.mem_cons.1 a with rfl|a
  ·exact d.isO (aH p)
  ·exact q x a
theorem pQ{h h':Hp}{c:Nat}{fs:List (List Nat)}(k:Good h)(C:fs.all okT=true)(E:fs.length<=100)(D:isF h c 1 6=true)(e:kf h c fs=some h'):Grow h h':=by
 unfold kf at e;obtain⟨⟨d,o⟩,p,q⟩:=Option.bind_eq_some_iff.1 e;obtain⟨⟨a,u⟩,v,y⟩:=Option.map_eq_some_iff.1 q;obtain⟨j,z,A⟩:=gj fs h o d k C p;obtain⟨g,l⟩:=bm j.good δ δ (show fs.length<=65535 by omega) v;have f:=iR d 0 u g.good (fun x B=>g.isO (z x B)) (by rw[Nat.zero_add,A];exact l);have m:=aH (f.isF _ _ _ l);have b:=(j.trans g).trans f;rw[<-y];exact b.trans (aV f.good (i:=3) (aO (b.isF _ _ _ D) δ) (aM f.good m))
end Limb
def Keeps(R:World->Prop):Prop:=(∀X X',R X->Below X.heap.size X X'->R X')/\∀X F hk X' F' h',HeapAt X F hk->R X->Step X F X' F' h'->R X'
theorem gC(g:Nat)(vs:List Value):Keeps (fun X=>PlansAt X g vs):=⟨fun _ _ p a=>p.below a,fun _ _ _ _ _ _ H p s=>p.step H s⟩
theorem eg(g:Nat)(e:TypeId)(b:List Value)(h1:e≠91)(c:e≠25)(d:e≠4)(f:e≠26):Keeps (fun X=>Row X g e b):=
 ⟨fun _ _ r a=>r.below a r.lt,fun _ _ _ _ _ _ H r s=>s.beside r (H.not_mem r h1 c d f)⟩
theorem Keeps.and{R S:World->Prop}(a:Keeps R)(b:Keeps S):Keeps (fun X=>R X/\S X):=
 ⟨fun X X' r c=>⟨a.1 X X' r.1 c,b.1 X X' r.2 c⟩,fun X F hk X' F' h' H r s=>⟨a.2 X F hk X' F' h' H r.1 s,b.2 X F hk X' F' h' H r.2 s⟩⟩
structure CN (w:World) (F:Foot) (pb:Nat) (R:World->Prop) (X:World) (F':Foot) (hk:Hp):Prop where
 keeps:Keeps R
 st:Step w F X F' hk
 boot:BootRow X F pb
 ex:R X
section
variable {w X X':World} {F F' F'':Foot} {pb:Nat} {R R':World->Prop} {hk h':Hp}
theorem CN.step(c:CN w F pb R X F' hk)(s:Step X F' X' F'' h'):CN w F pb R X' F'' h':=
 ⟨c.keeps,c.st.trans s,c.boot.step c.st.1 s,c.keeps.2 _ _ _ _ _ _ c.st.1 c.ex s⟩
theorem CN.below(c:CN w F pb R X F' hk)(a:Below X X X'):CN w F pb R X' F' hk:=
 ⟨c.keeps,c.st.below a,Row.below c.boot a (Row.lt c.boot),c.keeps.1 _ _ c.ex a⟩
theorem CN.with(c:CN w F pb R X F' hk)(k:Keeps R')(r:R' X):CN w F pb R' X F' hk:=⟨k,c.st,c.boot,r⟩
theorem CN.p(c:CN w F pb R X F' hk):F'.p=F.p:=c.st.2.1.p
theorem CN.hp(c:CN w F pb R X F' hk):HeapAt X F' hk:=c.st.1
theorem CN.rb(c:CN w F pb R X F' hk):BootRow X F' pb:=by have:=c.boot;unfold BootRow at this ⊢;rw[c.p];exact this
theorem CN.out(c:CN w F pb R X F' hk):pb∉F'.l:=c.hp.not_mem c.boot δ δ δ δ
theorem uG(c:CN w F pb R X F' hk)(i:Nat)(a:i<64):Calls prog 56 #[E pb,I i] X fun e X'=>e= .returned (Ψ (wd hk.rt i:Nat))/\Below X X X':=
 (iw c.hp c.rb i a).mono fun e X' ⟨x,y⟩=>⟨x,by rw[<-y];exact Below.refl _ _⟩
theorem xF(c:CN w F pb R X F' hk)(i:Nat)(a:i<64):Calls prog 20 #[E F.p,I i] X fun e X'=>e= .returned (Ψ (wd hk.rt i:Nat))/\Below X X X':=by
 rw[<-c.p];exact(bD c.hp i a).mono fun e X' ⟨x,y⟩=>⟨x,by rw[<-y];exact Below.refl _ _⟩
theorem AN(c:CN w F pb R X F' hk){o i v:Nat}(hf:isF hk o 1 (i+1)=true)(b:i<=65535)(a:isO hk v=true):Calls prog 59 #[E F.p,Ψ o,I i,Ψ v] X fun e X'=>e= .returned (I 0)/\∃F'',CN w F pb R X' F'' (Limb.putF hk o i v):=by
 rw[<-c.p];exact(fW c.hp hf b (bL a) (aM c.hp.good a)).mono fun e X' ⟨x,y⟩=>⟨x,F',c.step y⟩
theorem qq(c:CN w F pb R X F' hk)(K:Limb.Ker hk)(S:ByteArray)(hS:S.size<=262140)(h0:0<S.size)(o:Nat)(h':Hp)(a:bY hk (tx S)=some (o,h')):Calls prog 62 #[E pb,.string S] X fun e X'=>e= .returned (Ψ o)/\∃F'',CN w F pb R X' F'' h':=
 (pE c.hp K c.rb c.out S hS h0 o h' a).mono fun e X' ⟨x,F'',y⟩=>⟨x,F'',c.step y⟩
theorem qZ(c:CN w F pb R X F' hk)(K:Limb.Ker hk)(S:ByteArray)(hS:S.size<=262140)(h0:0<S.size)(v:Nat)(a:isO hk v=true)(o:Nat)(h':Hp)(b:dD hk (tx S) v=some (o,h')):Calls prog 63 #[E F.p,.string S,Ψ v] X fun e X'=>e=Rt #[Ψ o,I 0]/\∃F'',CN w F pb R X' F'' h':=by
 rw[<-c.p];exact(lO c.hp K S hS h0 v a o h' b).mono fun e X' ⟨x,F'',y⟩=>⟨x,F'',c.step y⟩
theorem EQ(c:CN w F pb R X F' hk)(K:Limb.Ker hk)(a:Nat)(i:isF hk a 1 6=true)(fs:List (List Nat))(n gf:Nat)(j:n=fs.length)(b:0<n)(d:n<=100)(g:Row X gf 9 (fs.map sv))(f:fs.all (fun t=>okT t&&decide (0<t.length))=true)(h':Hp)(k:kf hk a fs=some h'):Calls prog 65 #[E F.p,Ψ a,M gf n n] X fun e X'=>e= .returned (I 0)/\∃F'',CN w F pb R X' F'' h':=by
 rw[<-c.p];exact(lQ c.hp K a i fs n gf j b d g (c.hp.not_mem g δ δ δ δ) f h' k).mono fun e X' ⟨x,F'',y⟩=>⟨x,F'',c.step y⟩
end
def RSyms(w:World)(v:Value)(xs:List Nat)(B:Nat)(F:RFoot):Prop:=
 (v= .slice none 0 0/\xs=[])∨∃g c,v= .slice (some ⟨g,0,none⟩) xs.length c/\Sl w g 26 xs.length c (aC .u32 xs)/\B<=g/\g∉F.l/\0<xs.length
section
variable {w:World} {F:RFoot} {h:Hp}
theorem RSyms.step{v:Value}{xs:List Nat}{B:Nat}(hs:RSyms w v xs B F){w':World}{b:RFoot}{j:Hp}(f:RStep w F w' b j):RSyms w' v xs B b:=by
 rcases hs with hs|⟨g,c,h1,h2,h3,h4,h5⟩
 ·exact .inl hs
 ·exact .inr ⟨g,c,h1,h2.only f.2.2 h4,h3,f.2.1.aside h2.lt h4,h5⟩
theorem RSyms.owns{v:Value}{xs:List Nat}{B:Nat}(hs:RSyms w v xs B F):w.ownsRow 0 26 1 v xs.length (aC .u32 xs):=by
 rcases hs with⟨rfl,rfl⟩|⟨g,c,rfl,h2,h3,h4,h5⟩
 ·exact⟨rfl,.inl ⟨rfl,rfl⟩⟩
 ·exact h2.owns
theorem RSyms.ownBlock{v:Value}{xs:List Nat}{B:Nat}(hs:RSyms w v xs B F):v.ownBlock=none∨∃g,v.ownBlock=some g/\B<=g/\g∉F.l:=by
 rcases hs with⟨rfl,rfl⟩|⟨g,c,rfl,h2,h3,h4,h5⟩
 ·exact .inl rfl
 ·exact .inr ⟨g,rfl,h3,h4⟩
theorem sC{v:Value}{xs:List Nat}{X:World}{A:RFoot}{h1:Hp}(S:RStep w F X A h1)(hs:RSyms X v xs w A)(o:Nat)(hl:xs.length<=100000): ∃Q x,(Builtin.append_ #[44,44] 44 #[v,M X 1 1]).run prog (X.alloc (.cells #[Ψ o] 26))= .ok Q x/\RStep w F x A h1/\RSyms x Q (xs++[o]) w A:=by
 obtain⟨Z,hi,L,N,O⟩:=info_parts go;have V:Below X X (X.alloc (.cells #[Ψ o] 26)):=(Below.refl _ _).alloc ι _;have B:=hs.owns;have f:(X.alloc (.cells #[Ψ o] 26)).ownsRow 0 26 1 v xs.length (aC .u32 xs):=B.alloc _;obtain⟨Q,x,hr,h2,D,h4,b⟩:=run_append_own_at (P:=prog) (w:=X.alloc (.cells #[Ψ o] 26)) 0 44 44 26 Z (Ψ 0) 1 4 underlying44 hi L N O rfl δ v xs.length _ f ⟨X,0,none⟩ 1 1 (aC .u32 [o]) rfl (cell_one_new _ _ _) (by simp[aC,Value.oneCell']) (Nat.le_trans (show xs.length+1<=100001 by omega) δ) ω (Nat.zero_le _);have j:=S.below V;have Y:X.heap.size<(X.alloc (.cells #[Ψ o] 26)).heap.size:=by rw[World.size_alloc];omega
 have H:=S.1.lt;have m:=hs.ownBlock;have T:Only v.ownBlock.toList (X.alloc (.cells #[Ψ o] 26)) x:=⟨D.os,D.tape,D.output,D.size,fun k hk U=>D.block k hk (fun e=>by rw[<-e]at U;exact U (List.mem_singleton.2 rfl))⟩
 have C: ∀q∈v.ownBlock.toList,w.heap.size<=q/\q∉A.l:=by
  intro q d;rcases m with e|⟨g,e,e1,e2⟩
  ·rw[e]at d;cases d
  ·rw[e]at d;have d:q=g:=List.mem_singleton.1 d;subst d;exact⟨e1,e2⟩
 have I:RStep w F x A h1:=⟨j.1.only T (fun g hg e=>(C g e).2 hg),j.2.1,j.2.2.trans T (fun q d=> .inr (C q d).1)⟩;obtain⟨g',c',rfl,E,G⟩:=Sl.aj h2 ω;rw[<-bw]at G;refine⟨_,x,hr,I,.inr ⟨g',c',by rw[List.length_append];rfl,by rw[List.length_append];exact G,?_,?_,by rw[List.length_append];exact Nat.succ_pos _⟩⟩
 ·rw[E]at b;rcases b with b|b
  ·rcases m with e|⟨g,e,e1,e2⟩
   ·rw[e]at b;cases b
   ·rw[e]at b;rw[Option.some.inj b];exact e1
  ·have:=S.2.2.size;rw[Option.some.inj b];omega
 ·rw[E]at b;rcases b with b|b
  ·rcases m with e|⟨g,e,e1,e2⟩
   ·rw[e]at b;cases b
   ·rw[e]at b;rw[Option.some.inj b];exact e2
  ·intro e;have:=H _ e;rw[Option.some.inj b]at this;omega
theorem tP(a:Nat)(b:List Nat)(k:Nat)(c:k<b.length)(h:Hp):aY a k (b.drop k) h=aY a (k+1) (b.drop (k+1)) (Limb.putF h a k (wd b k)):=by
 rw[List.drop_eq_getElem_cons c,wd_lt c];rfl
theorem CG(H:RefAt w F h)(h5w:5<=w.heap.size)(K:Limb.Ker h)(fs:List (List Nat))(n gf:Nat)(hn:n=fs.length)(hn0:0<n)(hn1:n<=100)(rf:Row w gf 9 (fs.map sv))(hgf:gf∉F.l)(hfs:fs.all (fun t=>okT t&&decide (0<t.length))=true)(all:List Nat)(hI:Hp)(e1:bR fs h=some (all,hI))(a:Nat)(hA:Hp)(e3:aW hI (wd hI.rt 20) 1 fs.length=some (a,hA)):Calls prog 30 #[E F.p,M gf n n] w fun e w'=>e=Rt #[Ψ a,I 0]/\RMoved w F w' (aY a 0 all hA):=by
 obtain⟨hE,hhE⟩:=ξ (aY a 0 all hA);rw[<-hhE];have HE:=hid hhE;clear hhE
 have hok: ∀k,k<n->okT (fs.getD k [])=true/\0<(fs.getD k []).length:=fun k hk=>by
  rw[List.all_eq_true]at hfs;have hk':k<fs.length:=ω
  have:=hfs (fs.getD k []) (by rw[List.getD_eq_getElem?_getD,List.getElem?_eq_getElem hk'];exact List.getElem_mem hk');simpa using this
 have sl:=rf.sl (n:=n) (by rw[List.length_map];exact hn) (Nat.le_trans hn1 δ);have HIx:=hid (fun W k (hk:k<n)=>sl.index 69 underlying69 kU W .i64 k hk)
 have HCx:=hid (fun X (ho:Only F.l w X) k (hk:k<n)=>show X.cell? ⟨gf,k,none⟩=some (.string (cE (fs.getD k [])))from by
  rw[(rf.only ho hgf).ae];exact sU ω)
 have HIn:=hid (fun X F1 h1 (HX:RefAt X F1 h1) (hX5:5<=X.heap.size) (hF:F1.p=F.p) (gr:Limb.Grow h h1) k (hk:k<n) o h2 (hp:bY h1 (fs.getD k [])=some (o,h2))=>show Calls prog 26 #[E F.p,.string (cE (fs.getD k []))] X fun e w'=>e=Rt #[Ψ o,I 0]/\RMoved X F1 w' h2 from by
  obtain⟨q1,q2⟩:=hok k hk;obtain⟨q3,q4⟩:=dU q1;rw[<-hF];exact qr HX hX5 (K.grow gr) (cE (fs.getD k [])) (by rw[bF];exact q4) (by rw[bF];exact q2) o h2 (by rw[ft q3];exact hp))
 have HGr:=hid (fun h1 (gr:Limb.Grow h h1) k (hk:k<n) o h2 (hp:bY h1 (fs.getD k [])=some (o,h2))=>show Limb.Grow h h2/\isO h2 o=true/\Limb.Grow h1 h2 from by
  obtain⟨q1,q2⟩:=hok k hk;obtain⟨q3,q4⟩:=dU q1;obtain⟨x,y⟩:=cI gr.good q3 q4 hp;exact⟨gr.trans x,aH y,x⟩)
 have HNext:=hid (fun h1 k (hk:k<n) rest (hr:bR (fs.drop k) h1=some (rest,hI))=>show∃o h2 rest',bY h1 (fs.getD k [])=some (o,h2)/\rest=o :: rest'/\bR (fs.drop (k+1)) h2=some (rest',hI)from by
  rw[iF ω]at hr;obtain⟨⟨o,h2⟩,x1,x2⟩:=Option.bind_eq_some_iff.1 hr;obtain⟨⟨r',h3⟩,x3,x4⟩:=Option.map_eq_some_iff.1 x2;rw[Prod.mk.injEq]at x4;obtain⟨rfl,rfl⟩:=x4;exact⟨o,h2,r',x1,rfl,x3⟩)
 have HEnd:=hid (fun h1 rest (hr:bR (fs.drop n) h1=some (rest,hI))=>show rest=[]/\h1=hI from by
  rw[hn,List.drop_length]at hr;have:=Option.some.inj hr;rw[Prod.mk.injEq]at this;exact⟨this.1.symm,this.2⟩)
 have HAl:=hid (fun X F1 (HX:RefAt X F1 hI) (hX5:5<=X.heap.size) (hF:F1.p=F.p)=>show Calls prog 12 #[E F.p,Ψ (wd hI.rt 20:Nat),I 1,I n] X fun e w'=>e=Rt #[Ψ a,I 0]/\RMoved X F1 w' hA from by
  rw[<-hF];exact nc HX hX5 (wd hI.rt 20) 1 n a hA (.inl rfl) ω (by rw[hn];exact e3))
 have HRt:=hid (fun X F1 (HX:RefAt X F1 hI) (hF:F1.p=F.p) (hF2:F1.gr=F.gr)=>show X.cell? ⟨F.p,2,none⟩=O (M F.gr 64 64)/\X.cell? ⟨F.gr,20,none⟩=O (Ψ (wd hI.rt 20:Nat))/\∀W,(Instr.indexAt 44 (M F.gr 64 64) (I 20)).run prog W= .ok (Θ F.gr 20) W from by
  have:=HX.root (i:=20) δ
  rwa [hF,hF2]at this)
 have HGA:=hid (fun(gr:Limb.Grow h hI)=>show Limb.Grow hI hA/\isF hA a 1 n=true from by
  have:=bm gr.good δ δ (show fs.length<=65535 by omega) e3;rw[<-hn]at this;exact this)
 have HPut:=hid (fun X F1 hk (HX:RefAt X F1 hk) (hF:F1.p=F.p) k (hk2:isF hk a 1 (k+1)=true) v (hv:isO hk v=true)=>show Calls prog 27 #[E F.p,Ψ a,I k,Ψ v] X fun e w'=>e= .returned (I 0)/\RStep X F1 w' F1 (Limb.putF hk a k v)/\Limb.Grow hk (Limb.putF hk a k v)from by
  rw[<-hF];exact(BZ HX hk2 (bL hv) (aM HX.good hv)).mono fun e w' ⟨x,y⟩=>⟨x,y,aV HX.good hk2 (aM HX.good hv)⟩)
 have e10:bR (fs.drop 0) h=some (all,hI):=e1;have HS0:=hid (RStep.refl H);have HG0:=hid (Limb.Grow.refl H.good);clear e1 e3 hok sl rf hgf hfs H K hn;go_enter func30,ntmps30;go_wp2;go_loopw[7,6] (fun i s wr=> ∃(k:Nat) (F':RFoot) (hk:Hp) (done rest:List Nat),k<=n/\i= .int .i64 k/\Hid (k=done.length)/\Hid (RStep w F wr F' hk)/\Hid (Limb.Grow h hk)/\Hid (bR (fs.drop k) hk=some (rest,hI))/\Hid (done++rest=all)/\Hid (∀x∈done,isO hk x=true)/\Hid (RSyms wr s done w F')) (fun i _ _=>n-(intOf i).toNat);case atStart=>exact⟨0,F,h,[],all,Nat.zero_le _,rfl,hid rfl,HS0,HG0,hid e10,hid rfl,hid (by simp),hid (.inl ⟨rfl,rfl⟩)⟩
 case round=>
  clear HS0 HG0 e10;obtain⟨k,F',hk,done,rest,hkn,rfl,HLd,HS,HG,HIa,HAll,HDn,HSy⟩:=hrel;by_cases h0:k<n
  ·have d1:decide ((k:Int)<(n:Int))=true:=dT;have d2:decide (k<n)=true:=decide_eq_true h0;obtain⟨o,h2,rest',x1,x2,x3⟩:=HNext.out hk k h0 rest HIa.out;obtain⟨y1,y2,y3⟩:=HGr.out hk HG.out k h0 o h2 x1;have ix:=fun W=>HIx.out W k h0
   have cx:=HCx.out wr HS.out.2.2 k h0;have HI1:=hid (HIn.out wr F' hk HS.out.1 (Nat.le_trans h5w HS.out.2.2.size) HS.out.2.1.p HG.out k h0 o h2 x1);have HX3:=hid x3;have HAll2:=hid (show(done++[o])++rest'=all by rw[<-HAll.out,x2,List.append_assoc];rfl)
   have HDn2:=hid (show∀x∈done++[o],isO h2 x=true from fun x hx=>by
    rcases List.mem_append.1 hx with e|e
    ·exact y3.isO (HDn.out x e)
    ·rw[List.mem_singleton.1 e];exact y2)
   have HG2:=hid y1;have HLd2:=hid (show k+1=(done++[o]).length by rw[List.length_append,<-HLd.out];rfl);generalize cE (fs.getD k [])=S at*
   clear x1 x2 x3 y1 y2 y3 HIa HAll HDn HG;go_wp2_with fail;refine(HI1.out).mono ?_;rintro e X1 ⟨rfl,F1,hS1⟩;have hsy:=HSy.out.step hS1;obtain⟨s',X2,hr,hS2,hsy2⟩:=sC (HS.out.trans hS1) hsy o (by have:=HLd.out;omega);have HR2:=hid hr;have HS2:=hid hS2;have HSy2:=hid hsy2;clear hS1 hsy hr hS2 hsy2 HSy HS cx ix;go_wp2_with(at_builtin;refine Lib.wpList_append_run _ rfl _ _ _ _ rfl _ _ rfl rfl _ _ HR2.out ?_);go_roundw;case rel=>exact⟨k+1,F1,h2,done++[o],rest',h0,by simp,HLd2,HS2,HG2,HX3,HAll2,HDn2,HSy2⟩
   case measure=>exact μ
  ·obtain rfl:k=n:=ω
   obtain⟨x1,x2⟩:=HEnd.out hk rest HIa.out;subst x1 x2;have hal:=HAll.out;rw[List.append_nil]at hal;subst hal;have hl:=HLd.out;rcases HSy.out with⟨_,e⟩|⟨ge,c,rfl,sl,q3,q4,q5⟩
   ·rw[e]at hl;simp at hl;omega
   ·have HSy:=hid (show RSyms wr (M ge done.length c) done w F' from .inr ⟨ge,c,rfl,sl,q3,q4,q5⟩);rw[<-hl]at sl ⊢;rw[<-hl]at HSy;obtain⟨c2,cr,ix⟩:=HRt.out wr F' HS.out.1 HS.out.2.1.p HS.out.2.1.gr;have HA1:=hid (HAl.out wr F' HS.out.1 (Nat.le_trans h5w HS.out.2.2.size) HS.out.2.1.p);obtain⟨z1,z2⟩:=HGA.out HG.out;have HZ1:=hid z1;have HZ2:=hid z2;have d1:decide ((k:Int)<(k:Int))=false:=dF;have d2:decide (k<k)=false:=dF;have HLd:=hid hl;generalize wd hk.rt 20=r20 at*
    clear hl sl q3 q4 q5 z1 z2 HAll HIa HEnd HNext HGr HIn HGA HRt HAl HG HIx HCx;go_wp2_with fail;refine(HA1.out).mono ?_;rintro e X1 ⟨rfl,F1,hS1⟩;have HSy1:=hid (HSy.out.step hS1);have HS1:=hid (HS.out.trans hS1);have HPA:=hid (show aY a 0 (done.drop 0) hA=hE from HE.out.symm);clear hS1 HE HS HSy HA1 c2 cr ix d1 d2;have HG1:=hid (Limb.Grow.refl HS1.out.1.good);go_wp2;go_loopw[12] (fun i wr=> ∃(j:Nat) (F':RFoot) (hq:Hp),j<=k/\i= .int .i64 j/\Hid (RStep w F wr F' hq)/\Hid (Limb.Grow hA hq)/\Hid (aY a j (done.drop j) hq=hE)/\Hid (RSyms wr (M ge k c) done w F')) (fun i _=>k-(intOf i).toNat);case atStart=>exact⟨0,F1,hA,Nat.zero_le _,rfl,HS1,HG1,HPA,HSy1⟩
    case round=>
     clear HS1 HG1 HPA HSy1;obtain⟨j,F2,hq,hjk,rfl,HS,HG,HPA,HSy⟩:=hrel;by_cases h1:j<k
     ·have d1:decide ((j:Int)<(k:Int))=true:=dT;have d2:decide (j<k)=true:=decide_eq_true h1;have hlk:=HLd.out;have hjd:j<done.length:=ω
      have hpa:=HPA.out;rw[tP a done j hjd]at hpa;have hvj:isO hq (wd done j)=true:=HG.out.isO (HZ1.out.isO (HDn.out _ (by rw[wd_lt hjd];exact List.getElem_mem hjd)));have HP1:=hid (HPut.out wr F2 hq HS.out.1 HS.out.2.1.p j (aO (HG.out.isF _ _ _ HZ2.out) ω) (wd done j) hvj);rcases HSy.out with⟨e,_⟩|⟨g',c',e',sl,q3,q4,q5⟩
      ·cases e
      ·obtain⟨e1,e2,e3⟩:ge=g'/\k=done.length/\c=c':=(by simpa using e');subst e1 e3;have sl2:Sl wr ge 26 k c (aC .u32 done):=by rw[e2];exact sl
       have ix:=fun W=>sl2.index 44 underlying44 ch W .i64 j h1
       have cx:=sl2.cell h1;rw[aJ hjd]at cx;generalize wd done j=v at*
       clear e' sl sl2 q3 q4 q5 e2 hlk hjd hvj HPA;have HPA:=hid hpa;clear hpa;go_wp2_with fail;refine(HP1.out).mono ?_;rintro e X2 ⟨rfl,hS2,hg2⟩;have HS3:=hid (HS.out.trans hS2);have HG3:=hid (HG.out.trans hg2);have HSy3:=hid (HSy.out.step hS2);generalize Limb.putF hq a j v=hq2 at*
       clear hS2 hg2 HP1 HS HG HSy cx ix;go_wp2;go_roundw;case rel=>exact⟨j+1,F2,hq2,h1,by simp,HS3,HG3,HPA,HSy3⟩
       case measure=>exact μ
     ·obtain rfl:j=k:=ω
      have hpa:=HPA.out;rw[show done.drop j=[]from by rw[HLd.out];exact List.drop_length]at hpa;have hpa:hq=hE:=hpa;subst hpa;have d1:decide ((j:Int)<(j:Int))=false:=dF;have d2:decide (j<j)=false:=dF;have HM:=hid (show RMoved w F wr hq from⟨F2,HS.out⟩);clear HS HG HPA HSy HLd HDn HZ1 HZ2;go_wp2;go_ret2;exact⟨rfl,HM.out⟩
end
section
variable {w:World} {g:Nat} {vs:List Value}
theorem CC(h:RowsAt w g vs)(j:Nat)(U:j<22):Calls prog 69 #[M g 22 22,I (10+j:Nat)] w fun e w'=>e= .returned (I (bu 6 (10+j)))/\w=w':=by
 have d:=hid (fun i (b:i<22)=>h.cells b);have f:=hid (fun i (b:i<22)=>(h.2.2 i b).slice);have q:=gV 6 (10+j);obtain⟨T,C⟩:=ξ (bu 6 (10+j));rw[<-C]at q ⊢;have y:=hid C;clear C h;go_enter func69,ntmps69;go_wp2;go_loopw[1,5] (fun r m S=> ∃(a k:Nat),r= .int .i64 a/\m= .int .i64 k/\(a=0∨(10<=a/\a<32))/\Hid (k+bu 6 a=T)/\S=w) (fun r _ _=>DY 6 (intOf r).toNat);case atStart=>exact⟨10+j,0,rfl,rfl,.inr ⟨ω,ω⟩,hid (by rw[y.out,Nat.zero_add]),rfl⟩
 case round=>
  obtain⟨a,k,rfl,rfl,D,x,rfl⟩:=hrel;by_cases h0:a=0
  ·subst h0;have v:=x.out;rw[mC,Nat.add_zero]at v;subst v;clear D x y d f;go_wp2;go_ret;exact⟨rfl,rfl⟩
  ·obtain⟨i,rfl⟩: ∃i,a=10+i:=⟨a-10,ω⟩;have b:i<22:=ω
   obtain⟨G,c1,H,L,O⟩:=d.out i b;obtain⟨Z,E⟩:=f.out i b;rw[E]at L;have z:=hid (CJ i b);have A:=hid (BB i b);have v:=x.out;rw[<-wY i b]at v
   have V: ∀W,(Instr.indexAt 65 (M g 22 22) (I (10+(i:Int)-10))).run prog W= .ok (Θ g (5*i)) W:=fun W=>by
    rw[(ω:(10+(i:Int)-10)=(i:Int))];exact eG (P:=prog) 5 δ 65 71 underlying65 jg g 22 22 W .i64 i b
   have X:(((10+i:Nat):Int) != 0)=true:=(by rw[bne_iff_ne];omega);have Y:(((10+i:Nat):Int)-10)=(i:Int):=ω
   generalize(plans.getD i ⟨[],0,0,false,[]⟩)=p at*
   have B:=hid (show(k+p.fields.length)+bu 6 p.sup=T by omega);have F:k+p.fields.length<=77:=ω
   generalize p.fields.length=fl at*
   generalize p.sup=R at*
   generalize p.fmt=fm at*
   generalize p.idx=ib at*
   generalize p.name=nm at*
   obtain⟨a,Q⟩:=ξ (10+i);clear v x E D h0 G H O q y d f;go_wp2;go_roundw;case rel=>exact⟨R,k+fl,rfl,by simp,A.out,B,trivial⟩
   case measure=>simp[intOf];exact z.out
end
end Go.Proofs.YtfefijlnbhbplaaGreatDoor

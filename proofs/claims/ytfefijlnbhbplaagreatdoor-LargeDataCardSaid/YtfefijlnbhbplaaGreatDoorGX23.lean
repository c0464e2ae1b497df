/- Walks and laws that LargeData asks for. -/
import Derived.Test.YtfefijlnbhbplaaGreatDoorGX21
set_option linter.unusedVariables false
set_option linter.unusedSimpArgs false
set_option maxRecDepth 1000000
set_option maxHeartbeats 6400000
namespace Go.Proofs.YtfefijlnbhbplaaGreatDoor
open Go Lib Go.RowKit Limb Tryz
def JOp(f:FuncId)(op:Int->Int->Int):Prop:=(f=176/\op=fun x y=>x+y)∨(f=175/\op=fun x y=>x-y)∨(f=185/\op=fun x y=>x*y)
theorem vD{f:FuncId}{op:Int->Int->Int}(hf:JOp f op){w1 X:World}{l:List (Nat×Int)}{p q r:Nat}{v s t:Int}(h:At w1 X l)(a:(p,v)∈l)(b:(q,s)∈l)(c:(r,t)∈l)(i:(l.map Prod.fst).Nodup->p≠q/\p≠r)(hs:(rep s.natAbs).length<=68719476736)(ht:(rep t.natAbs).length<=68719476736):Calls prog f #[E p,E q,E r] X fun e j=>e= .returned (E p)/\At w1 j (upd l p (op s t)):=by
 rcases hf with⟨rfl,rfl⟩|⟨rfl,rfl⟩|⟨rfl,rfl⟩
 ·exact xf h a b c hs ht
 ·exact By h a b c hs ht
 ·exact Fm h a b c i hs ht
theorem Ca{f:FuncId}{op:Int->Int->Int}(hf:JOp f op)(w:World)(j k:Bool)(B C:Option Addr)(F G:List Nat)(m q c1 D:Nat)(hy1:Lay .u32 w B F)(hy2:Lay .u32 w C G)(R:Lim F)(S:Lim G)(T:m=F.length)(U:q=G.length)(hb1:m<=9223372036854775807)(hb2:q<=9223372036854775807):Calls prog 184 #[Ω j B m c1,Ω k C q D,.func (.func f) #[] #[]] w fun e w'=>Answer (bn j F&&bn k G) w w' e (op (signed j (val F)) (signed k (val G))):=by
 obtain⟨r0,r1,r2,hW,hsz⟩:=fI w 24 (.bool j) (.slice B m c1) (.bool k) (.slice C q D) (.bool false) (.slice none 0 0);obtain⟨W,O⟩:=ξ (((w.alloc (.cells #[.bool j,.slice B m c1] 24)).alloc (.cells #[.bool k,.slice C q D] 24)).alloc (.cells #[.bool false,.slice none 0 0] 24));rw[<-O]at r0 r1 r2 hW hsz;have V:=hid O;have H:=dY (W.alloc (.cells #[.bool j,.slice B m c1,.bool k,.slice C q D] 24)) (w.heap.size+1+1+1) j k B C F G m q c1 D (by rw[<-hsz];exact cQ _ _ _) ((hy1.below hW).below ((Below.refl _ _).alloc ι _)) ((hy2.below hW).below ((Below.refl _ _).alloc ι _)) R S T U hb1 hb2;have Y:=hid T;have Z:=hid U;have HM:=hid H;clear O H T U
 cases hb:(bn j F&&bn k G)with
 |false=>
  rw[hb]at HM;clear hb hf;go_enter func184,ntmps184;go_wp2_with fail;rw[<-V.out];refine HM.out.mono ?_;rintro e w1 ⟨rfl,hbw⟩;have d:=bE hbw;obtain⟨k0,k1,k2,k3,e0,e1,HF⟩:=(r2.below d r2.lt).fin (τ hW d) ω (.bool false) (.slice none 0 0);go_wp2;(try simp only[Exit.inBlock,Exit.then]);exact bodyPost_ret (v:= .tuple #[Ω false none 0 0,I 1]) (by simp[results,results184,go_sem,e0,e1]) rfl (Answer.no ⟨rfl,HF.out⟩)
 |true=>
  rw[hb]at HM;simp only[Bool.and_eq_true]at hb;obtain⟨x1,-,L⟩:=bQ R hb.1;obtain⟨y1,-,M⟩:=bQ S hb.2;have ls1:m<=1024:=by rw[Y.out];exact L
  have ls2:q<=1024:=(by rw[Z.out];exact M);rw[x1]at L;rw[y1]at M;obtain⟨z1,P⟩: ∃z,z=signed j (val F):=⟨_,rfl⟩;obtain⟨z2,Q⟩: ∃z,z=signed k (val G):=⟨_,rfl⟩;rw[<-P]at L ⊢;rw[<-Q]at M ⊢;have s4:(rep z1.natAbs).length<=68719476736:=Nat.le_trans L δ;have s5:(rep z2.natAbs).length<=68719476736:=Nat.le_trans M δ
  have s3:(rep (op z1 z2).natAbs).length<=68719476736:=by
   rcases hf with⟨-,rfl⟩|⟨-,rfl⟩|⟨-,rfl⟩
   ·exact Nat.le_trans (AT L M) δ
   ·exact Nat.le_trans (Cd L M) δ
   ·exact Nat.le_trans (tR L M) δ
  obtain⟨y,hy⟩:=ξ (op z1 z2);rw[<-hy]at s3 ⊢;clear hb x1 y1 L M;go_enter func184,ntmps184;go_wp2_with fail;rw[<-V.out];refine HM.out.mono ?_;rintro e w1 ⟨rfl,hbw⟩;have d:=bE hbw;have r:Below w.heap.size w w1:=τ hW d;have q0:=r0.below d r0.lt;have q1:=r1.below d r1.lt;have q2:=r2.below d r2.lt;have a0:=hy1.below r;have a3:=hy2.below r;have hsz1:w.heap.size+3<=w1.heap.size:=by have:=d.size;omega
  have HW:=hid (show∀X ls v z,(v= .agg #[.bool j,.slice B m c1]/\z=z1)∨(v= .agg #[.bool k,.slice C q D]/\z=z2)->At w1 X ls->Calls prog 78 #[v] X fun e X'=> ∃p,e= .returned (E p)/\At w1 X' ((p,z) :: ls)from by
   rintro X ls v z (⟨rfl,rfl⟩|⟨rfl,rfl⟩) h
   ·rw[P];exact db h j B F m c1 a0 R Y.out ω
   ·rw[Q];exact db h k C G q D a3 S Z.out ω)
  have HS:=hid (show∀X,Below (N2 w) w1 X->(X.cell? ⟨w.heap.size,0,none⟩=some (.bool j)/\X.cell? ⟨w.heap.size,1,none⟩=some (.slice B m c1)/\X.cell? ⟨N1 w,0,none⟩=some (.bool k)/\X.cell? ⟨N1 w,1,none⟩=some (.slice C q D))from by
   intro X hX;have p0:=q0.below hX ω;have p1:=q1.below hX ω;exact⟨p0.ae 0,p0.ae 1,p1.ae 0,p1.ae 1⟩)
  have HK:=hid (show∀X,Below w1 w1 X->(X.cell? ⟨w.heap.size,0,none⟩=some (.bool j)/\X.cell? ⟨w.heap.size,1,none⟩=some (.slice B m c1)/\X.cell? ⟨N1 w,0,none⟩=some (.bool k)/\X.cell? ⟨N1 w,1,none⟩=some (.slice C q D))/\Row X (N2 w) 24 [.bool false,.slice none 0 0]from fun X hX=>⟨HS.out X (hX.mono ω),q2.below hX ω⟩);have h:=At.refl w1;clear q0 q1 q2 a0 a3 d hbw P Q;have N:=hid hf;rcases hf with⟨rfl,rfl⟩|⟨rfl,rfl⟩|⟨rfl,rfl⟩
  all_goals
   have HY:=hid (show y=_ from hy);clear hy;go_wp2_with fail
   go_region_held3 (fun X=>(X.cell? ⟨w.heap.size,0,none⟩=some (.bool j)/\X.cell? ⟨w.heap.size,1,none⟩=some (.slice B m c1)/\X.cell? ⟨N1 w,0,none⟩=some (.bool k)/\X.cell? ⟨N1 w,1,none⟩=some (.slice C q D)))
    (first |(apply And.left;apply HK.out;apply At.below;(repeat(first |exact h|apply At.drew|apply At.drewN|apply At.new));done)|(apply HS.out;apply aw;apply aw;apply Below.mono;apply At.below;(repeat(first |exact h|apply At.drew|apply At.drewN|apply At.new));omega;exact Nat.le_refl _;exact Nat.le_refl _))
    (first
     |(go_at_call 78;apply Calls.mono;apply HW.out;(first |exact .inl ⟨rfl,rfl⟩|exact .inr ⟨rfl,rfl⟩);(repeat(first |exact h|apply At.drew|apply At.drewN|apply At.new));clear h;rintro e w' ⟨p,rfl,h⟩)
     |(go_at_call 176;apply Calls.mono;apply vD (hf:=N.out) (w1:=w1) (hs:=s4) (ht:=s5);(repeat(first |exact h|apply At.drew|apply At.drewN|apply At.new));exact σ;exact σ;exact σ;intro x;simp at x;omega;clear h;rintro e w' ⟨rfl,h⟩)
     |(go_at_call 175;apply Calls.mono;apply vD (hf:=N.out) (w1:=w1) (hs:=s4) (ht:=s5);(repeat(first |exact h|apply At.drew|apply At.drewN|apply At.new));exact σ;exact σ;exact σ;intro x;simp at x;omega;clear h;rintro e w' ⟨rfl,h⟩)
     |(go_at_call 185;apply Calls.mono;apply vD (hf:=N.out) (w1:=w1) (hs:=s4) (ht:=s5);(repeat(first |exact h|apply At.drew|apply At.drewN|apply At.new));exact σ;exact σ;exact σ;intro x;simp at x;omega;clear h;rintro e w' ⟨rfl,h⟩)
     |(go_at_call 81;apply Calls.mono;apply cd (w1:=w1) (hs:=s3);(repeat(first |exact h|apply At.drew|apply At.drewN|apply At.new));rw[HY.out];exact eI _ σ;clear h;rintro e w' ⟨⟨b',a',n',c',k',rfl,hnx⟩,h⟩;obtain⟨-,hR⟩:=HK.out _ (At.below h);obtain⟨k0,k1,k2,k3,e0,e1,HF⟩:=hR.fin (r.trans (h.below.mono r.size)) ω (.bool b') (.slice a' n' c');have HN:=hid hnx;clear hnx))
   all_goals
    go_wp2;(try simp only[Exit.inBlock,Exit.then]);exact bodyPost_ret (v:= .tuple #[Ω b' a' n' c',I k']) (by simp[results,results184,go_sem,e0,e1]) rfl (HN.out _ _ HF.out (fun l hl=>hl.pair hR _ _) r.size)
def LOp(g f:FuncId):Prop:=(g=98/\f=176)∨(g=99/\f=175)∨(g=100/\f=185)
theorem lJ{g f:FuncId}{op:Int->Int->Int}(hg:LOp g f)(hf:JOp f op)(w:World)(p q:Bool)(z A:Option Addr)(r t:List Nat)(u x c1 D:Nat)(H:Lay .u32 w z r)(L:Lay .u32 w A t)(M:Lim r)(N:Lim t)(B:u=r.length)(C:x=t.length)(O:u<=9223372036854775807)(P:x<=9223372036854775807):Calls prog g #[Ω p z u c1,Ω q A x D] w fun e w'=>Answer (bn p r&&bn q t) w w' e (op (signed p (val r)) (signed q (val t))):=by
 obtain⟨U,V,F,y,G⟩:=fI w 24 (.bool p) (.slice z u c1) (.bool q) (.slice A x D) (.bool false) (.slice none 0 0);obtain⟨W,m⟩:=ξ (((w.alloc (.cells #[.bool p,.slice z u c1] 24)).alloc (.cells #[.bool q,.slice A x D] 24)).alloc (.cells #[.bool false,.slice none 0 0] 24));rw[<-m]at U V F y G;have E:=hid m;have S:=hid (Ca hf W p q z A r t u x c1 D (H.below y) (L.below y) M N B C O P);clear B C hf m;rcases hg with⟨rfl,rfl⟩|⟨rfl,rfl⟩|⟨rfl,rfl⟩
 all_goals
  first
   |go_enter func98,ntmps98
   |go_enter func99,ntmps99
   |go_enter func100,ntmps100
  go_wp2_with fail;rw[<-E.out];refine S.out.mono ?_;rintro e w1 j;obtain⟨b,a,n,c,k,rfl,R,d⟩:=j.shape;have T:=hid d;have Q:=F.below R F.lt;obtain⟨k0,k1,k2,k3,X,Y,Z⟩:=Q.fin (τ y R) ω (.bool b) (.slice a n c);clear d j;go_wp2;(try simp only[Exit.inBlock,Exit.then]);exact bodyPost_ret (v:= .tuple #[Ω b a n c,I k]) (by simp[results,results98,results99,results100,go_sem,X,Y]) rfl (T.out _ _ Z.out (fun l hl=>hl.pair Q _ _) y.size)
end Go.Proofs.YtfefijlnbhbplaaGreatDoor

/- Walks and laws that LargeData asks for. -/
import Derived.Test.YtfefijlnbhbplaaGreatDoorGX17
import Derived.Test.YtfefijlnbhbplaaGreatDoorGX14
import Derived.Test.YtfefijlnbhbplaaGreatDoorGX06
set_option linter.unusedVariables false
set_option linter.unusedSimpArgs false
set_option maxRecDepth 1000000
set_option maxHeartbeats 6400000
namespace Go.Proofs.YtfefijlnbhbplaaGreatDoor
open Go Lib Go.RowKit Limb Tryz
theorem fG(w:World)(t:TypeId)(b d f g:Value): ∃W,W=(w.alloc (.cells #[b,d] t)).alloc (.cells #[f,g] t)/\Row W w t [b,d]/\Row W (N1 w) t [f,g]/\Below w w W/\W.heap.size=w.heap.size+1+1:=by
 have i:=World.size_alloc w (.cells #[b,d] t);refine⟨_,rfl,?_,?_,((Below.refl _ _).alloc ι _).alloc ω _,by rw[World.size_alloc,i]⟩
 ·refine Row.alloc ?_ _;unfold Row;exact heap_alloc_new _ _
 ·unfold Row;have:=heap_alloc_new (w.alloc (.cells #[b,d] t)) (.cells #[f,g] t);rw[i]at this;exact this
theorem EG{w1 X:World}{l:List (Nat×Int)}{p q:Nat}{x y:Int}(h:At w1 X l)(b:(p,x)∈l)(c:(q,y)∈l)(hs:(rep x.natAbs).length<=68719476736)(ht:(rep y.natAbs).length<=68719476736):Calls prog 197 #[E p,E q] X fun e a=>e= .returned (I (fO x y))/\At w1 a l:=by
 refine(Di X p q x y (h.ints _ b).1 (h.ints _ c).1 hs ht).mono ?_;rintro e a ⟨rfl,n,rfl⟩;exact⟨rfl,h.drewN n⟩
theorem pv(w:World)(f j:Bool)(B C:Option Addr)(r u:List Nat)(x y c1 F:Nat)(Z:Lay .u32 w B r)(a0:Lay .u32 w C u)(L:Lim r)(M:Lim u)(N:x=r.length)(O:y=u.length)(hb1:x<=9223372036854775807)(hb2:y<=9223372036854775807):Calls prog 116 #[Ω f B x c1,Ω j C y F] w fun e w'=>e=Rt #[I (if(bn f r&&bn j u)=true then fO (signed f (val r)) (signed j (val u))else 0),I (if(bn f r&&bn j u)=true then 0 else 1)]/\Below w w w':=by
 obtain⟨W,V,r0,r1,Y,hsz⟩:=fG w 24 (.bool f) (.slice B x c1) (.bool j) (.slice C y F);have P:=hid V;clear V;have D:=fun g h1 h2 h3=>dY (W.alloc (.cells #[.bool f,.slice B x c1,.bool j,.slice C y F] 24)) g f j B C r u x y c1 F h1 h2 h3 L M N O hb1 hb2
 have Q:=hid N;clear N;have R:=hid O;clear O;have q:=D (N2 w) (by rw[<-hsz];exact cQ _ _ _) ((Z.below Y).below ((Below.refl _ _).alloc ι _)) ((a0.below Y).below ((Below.refl _ _).alloc ι _));have HM:=hid q;clear D q
 cases hb:(bn f r&&bn j u)with
 |false=>
  rw[hb]at HM;clear hb;go_enter func116,ntmps116;go_wp2_with fail;rw[<-P.out];refine HM.out.mono ?_;rintro e w1 ⟨rfl,hbw⟩;have k:Below w w w1:=Y.trans ((bE hbw).mono Y.size);go_wp2;(try simp only[Exit.inBlock,Exit.then]);refine bodyPost_ret (v:= .tuple #[I 0,I 1]) (by simp[results,results116,go_sem]) rfl ?_;exact⟨rfl,k⟩
 |true=>
  rw[hb]at HM;simp only[Bool.and_eq_true]at hb;obtain⟨x1,x2,x3⟩:=bQ L hb.1;obtain⟨y1,y2,y3⟩:=bQ M hb.2;have s1:(rep (signed f (val r)).natAbs).length<=68719476736:=by rw[<-x1];omega
  have s2:(rep (signed j (val u)).natAbs).length<=68719476736:=(by rw[<-y1];omega);have ls1:x<=1024:=by rw[Q.out];exact x3
  have ls2:y<=1024:=(by rw[R.out];exact y3);clear hb x1 x2 y1 y2;rw[if_pos rfl,if_pos rfl];obtain⟨z1,G⟩: ∃z,z=signed f (val r):=⟨_,rfl⟩;obtain⟨z2,H⟩: ∃z,z=signed j (val u):=⟨_,rfl⟩;rw[<-G]at s1 ⊢;rw[<-H]at s2 ⊢;go_enter func116,ntmps116;go_wp2_with fail;rw[<-P.out];refine HM.out.mono ?_;rintro e w1 ⟨rfl,hbw⟩;have d:=bE hbw;have k:Below w w w1:=τ Y d;have q0:=r0.below d r0.lt;have q1:=r1.below d r1.lt;have S:=Z.below k;have T:=a0.below k;have hsz1:w.heap.size+2<=w1.heap.size:=by have:=d.size;omega
  have hw: ∀X ls v z,(v= .agg #[.bool f,.slice B x c1]/\z=z1)∨(v= .agg #[.bool j,.slice C y F]/\z=z2)->At w1 X ls->Calls prog 78 #[v] X fun e X'=> ∃p,e= .returned (E p)/\At w1 X' ((p,z) :: ls):=by
   rintro X ls v z (⟨rfl,rfl⟩|⟨rfl,rfl⟩) h
   ·rw[G];exact db h f B r x c1 S L Q.out ω
   ·rw[H];exact db h j C u y F T M R.out ω
  have HW:=hid hw;clear hw G H
  have hk: ∀X,Below w1 w1 X->(X.cell? ⟨w,0,none⟩=some (.bool f)/\X.cell? ⟨w,1,none⟩=some (.slice B x c1)/\X.cell? ⟨N1 w,0,none⟩=some (.bool j)/\X.cell? ⟨N1 w,1,none⟩=some (.slice C y F)):=by
   intro X hX;have p0:=q0.below hX ω;have p1:=q1.below hX ω;exact⟨p0.ae 0,p0.ae 1,p1.ae 0,p1.ae 1⟩
  have HK:=hid hk;clear hk;have h:=At.refl w1;clear q0 q1 S T d hbw;go_wp2_with fail
  go_region_held3 (fun X=>(X.cell? ⟨w,0,none⟩=some (.bool f)/\X.cell? ⟨w,1,none⟩=some (.slice B x c1)/\X.cell? ⟨N1 w,0,none⟩=some (.bool j)/\X.cell? ⟨N1 w,1,none⟩=some (.slice C y F)))
   (first |(apply HK.out;apply At.below;(repeat(first |exact h|apply At.drew|apply At.drewN|apply At.new));done)|fail)
   (first
    |(go_at_call 78;apply Calls.mono;apply HW.out;(first |exact .inl ⟨rfl,rfl⟩|exact .inr ⟨rfl,rfl⟩);(repeat(first |exact h|apply At.drew|apply At.drewN|apply At.new));clear h;rintro e w' ⟨p,rfl,h⟩)
    |(go_at_call 197;apply Calls.mono;apply EG (w1:=w1) (hs:=s1) (ht:=s2);(repeat(first |exact h|apply At.drew|apply At.drewN|apply At.new));exact σ;exact σ;clear h;rintro e w' ⟨rfl,h⟩))
  all_goals
   have U:=k.trans (h.below.mono k.size);go_wp2;(try simp only[Exit.inBlock,Exit.then]);refine bodyPost_ret (v:= .tuple #[I (fO z1 z2),I 0]) (by simp[results,results116,go_sem]) rfl ?_;exact⟨rfl,U⟩
class Old where
 top:Nat
def ApiV[Old](w:World)(v:Value)(z:Int):Prop:= ∃a cap,v= .agg #[.bool (decide (z<0)),.slice a (rep z.natAbs).length cap]/\CapB Old.top a (rep z.natAbs).length cap/\Lay .u32 w a (rep z.natAbs)
theorem xQ{v:Int}(h1: -9223372036854775808<=v)(a:v<=9223372036854775807):(rep v.natAbs).length<=2:=by
 rw[rep_length_le,show Limb.W 2=18446744073709551616 from by decide];omega
theorem oy [Old] (w : World) (v : Int) (h1 : -9223372036854775808 <= v) (h2 : v <= 9223372036854775807) (ho : Old.top <= w.heap.size) :
    Calls Tryz.prog 32 #[.int .i64 v] w fun e w' => ∃ u, e = .returned u /\ ApiV w' u v /\ Below w.heap.size w w' := by
  have hlen := Nat.le_trans (xQ h1 h2) (by decide : 2 <= 1024)
  obtain ⟨W, hWe⟩ : ∃ W, W = w.alloc (.cells #[.bool false, .slice none 0 0] 24) := ⟨_, rfl⟩
  have r0 : Row W w.heap.size 24 [.bool false, .slice none 0 0] := by rw [hWe]; exact cQ _ _ _
  have hW : Below w.heap.size w W := by rw [hWe]; exact (Below.refl _ _).alloc (Nat.le_refl _) _
  have hsz : W.heap.size = w.heap.size + 1 := by rw [hWe, World.size_alloc]
  have HWe := Lib.hid hWe; clear hWe
  go_enter Tryz.func32, Tryz.ntmps32
  go_wp2_with fail
  rw [<- HWe.out]
  refine (jp (At.refl W) v h1 h2).mono ?_
  rintro e w1 ⟨p, rfl, h3⟩
  go_wp2_with fail
  refine (su h3 (List.Mem.head _) hlen).mono ?_
  rintro e w2 ⟨⟨a, c, rfl, g1, g2⟩, h4⟩
  have HG1 := Lib.hid (g1.mono (Nat.le_trans ho hW.size))
  clear g1 ho
  have g3 := g2.below ((Below.refl _ _).alloc (Nat.le_refl _) (.cells #[.bool (decide (v < 0)), .slice a (rep v.natAbs).length c] 24))
  have h5 := h4.alloc' (.cells #[.bool (decide (v < 0)), .slice a (rep v.natAbs).length c] 24)
  have r1 := r0.below h5.below r0.lt
  have k0 := r1.ae 0
  have k1 := r1.ae 1
  have k2 := r1.free 0
  have k3 := r1.free 1
  simp only [List.getElem?_cons_zero, List.getElem?_cons_succ] at k0 k1
  have hR := cQ w2 24 #[.bool (decide (v < 0)), .slice a (rep v.natAbs).length c]
  have j0 := hR.ae 0
  have j1 := hR.ae 1
  simp only [List.getElem?_cons_zero, List.getElem?_cons_succ, List.getElem?_toArray, List.getElem?_eq_getElem] at j0 j1
  have hne : w2.heap.size ≠ w.heap.size := by have := h4.below.size; omega
  have hfin := hW.trans (h5.below.mono hW.size)
  obtain ⟨V, hV⟩ : ∃ V, V = w2.alloc (.cells #[.bool (decide (v < 0)), .slice a (rep v.natAbs).length c] 24) := ⟨_, rfl⟩
  rw [<- hV] at g3 r1 hfin
  obtain ⟨U, hU⟩ : ∃ U, U = (V.setCell ⟨w.heap.size, 0, none⟩ (.bool (decide (v < 0)))).setCell ⟨w.heap.size, 1, none⟩ (.slice a (rep v.natAbs).length c) := ⟨_, rfl⟩
  have ra : Row U w.heap.size 24 [.bool (decide (v < 0)), .slice a (rep v.natAbs).length c] := by rw [hU]; exact (r1.af 0 _).af 1 _
  have hBU : Below w.heap.size w U := by rw [hU]; exact aw (aw hfin (Nat.le_refl _) _) (Nat.le_refl _) _
  have hlU : Lay .u32 U a (rep v.natAbs) := by rw [hU]; exact g3.pair r1 _ _
  have f0 := ra.ae 0
  have f1 := ra.ae 1
  simp only [List.getElem?_cons_zero, List.getElem?_cons_succ] at f0 f1
  rw [hV] at hU
  have HU := Lib.hid hU; clear hU
  go_wp2
  (try simp only [Exit.inBlock, Exit.then])
  rw [<- HU.out]
  refine bodyPost_ret (v := .agg #[.bool (decide (v < 0)), .slice a (rep v.natAbs).length c]) (by simp [results, Tryz.results32, go_sem, f0, f1]) rfl ?_
  exact ⟨_, rfl, ⟨a, c, rfl, HG1.out, hlU⟩, hBU⟩
theorem cZ{P:Program}{ops:Array Oper}{Q:Exit->Act->World->Prop}{i:Nat}{o:Oper}{K:Act->World->Prop}{a:Act}{w:World}(b:ops[i]? =some o)(c:o.guard=none)(h:o.wp P a w K Q):wpOp P ops Q i K a w:=by
 unfold wpOp;rw[b];simp only[Region.wanted,c,if_true];exact .inl h
section
variable {P:Program} {md:Region.Mode} {ops:Array Oper} {Q:Exit->Act->World->Prop} {S:World->Prop}
end
theorem gd{ops:Array Oper}{Q:Exit->Act->World->Prop}{i:Nat}{o:Oper}{K:Act->World->Prop}{a:Act}{w:World}(t:ops[i]? =some o)(m:o.guard=none)(p:o.op= .alloc 24)(h: ∀f g,Row f g 24 [.bool false,.slice none 0 0]->Below w w f->w.heap.size<=g->g<f.heap.size->K (a.put o.dst (E g)) f):wpOp prog ops Q i K a w:=by
 refine cZ t m ?_;have d:=h (w.alloc (.cells #[.bool false,.slice none 0 0] 24)) w (by unfold Row;exact heap_alloc_new _ _) ((Below.refl _ _).alloc ι _) ι (by rw[World.size_alloc];omega);obtain⟨q,op,n,r,j,k⟩:=o;simp only at p m;subst p m;unfold Oper.wp;go_simp;exact d
theorem B7(w:World)(t:TypeId)(b d:Value): ∃W,W=w.alloc (.cells #[b,d] t)/\Row W w t [b,d]/\Below w w W/\W.heap.size=w.heap.size+1:=
 ⟨_,rfl,by unfold Row;exact heap_alloc_new _ _,(Below.refl _ _).alloc ι _,by rw[World.size_alloc]⟩
theorem FF(a b c d e f:Int)(w:World):(Op.equalIn 10000 150 (.agg #[Ψ a,Ψ b,Ψ c]) (.agg #[Ψ d,Ψ e,Ψ f])).run prog w= .ok (a==d&&b==e&&c==f) w:=by
 have k:=underlying25;have l:=isAgg25;have m:=sizeOf25;rw[(φ:(10000:Nat)=9999+1),Op.equalIn];simp only[Sem.run_bind,run_underlying underlying150,Result.andThen_ok];simp only[Std.Legacy.Range.forIn_eq_forIn_range',Std.Legacy.Range.size,Nat.sub_zero,Nat.add_sub_cancel,Nat.div_one,List.range'_succ,List.range'_zero,List.forIn_cons,List.forIn_nil];go_simp;by_cases h1:a=d<;>by_cases i:b=e<;>by_cases j:c=f<;>simp[h1,i,j]
attribute [local go_sem] FF
theorem v7{h:Hd}(k:h.Ok):bits .and .u32 (h.w0:Int) 16777215=((h.size:Nat):Int)/\bits .and .u32 ((h.w0:Int)/16777216) 7=((h.fmt:Nat):Int)/\bits .and .u32 ((h.w0:Int)/134217728) 3=((h.spare:Nat):Int):=by
 have h0:=Hd.w0_lt k;have h1:=k.size;have c:=k.f4;have d:=k.spare;have e:h.w0=h.size+h.fmt*16777216+h.spare*134217728:=rfl;have a:(h.w0:Int)/16777216=((h.w0/16777216:Nat):Int):=ω
 have b:(h.w0:Int)/134217728=((h.w0/134217728:Nat):Int):=ω
 rw[a,b,(φ:(16777215:Int)=((16777215:Nat):Int)),(φ:(7:Int)=((7:Nat):Int)),(φ:(3:Int)=((3:Nat):Int)),u32_and_nat _ _ ω δ,u32_and_nat _ _ ω δ,u32_and_nat _ _ ω δ,nat_mask24,nat_mask3,nat_mask2];refine⟨?_,?_,?_⟩<;>congr 1<;>omega
theorem wv(w:World)(h:Hd)(k:h.Ok)(hs:Spares w):Calls prog 269 #[w3V h.w0 h.cls h.ser] w fun e w'=>e=Rt #[hdV h,I 0]/\Below w w w':=by
 obtain⟨E,i⟩: ∃x,x=h.w0:=⟨_,rfl⟩;rw[<-i];obtain⟨W,Y,d,B,p⟩:=aA w 150 [Ψ E,Ψ h.cls,Ψ h.ser];obtain⟨V,Z,b,q,C⟩:=aA W 94 [I 0,I 0,I 0,Ψ 0,Ψ 0];rw[p]at b;obtain⟨U,hU,m,j,M⟩:=aA V 94 [I h.size,I h.fmt,I h.spare,Ψ h.cls,Ψ h.ser];rw[C,p]at m;have D:Below w w U:=B.trans ((q.mono ω).trans (j.mono ω));replace d:=(d.below q d.lt);obtain⟨p0,p1,p2⟩:=d.cells3;replace d:=(d.below j d.lt);replace b:=b.below j b.lt;have N:=hid (show V=(w.alloc (.cells #[Ψ E,Ψ h.cls,Ψ h.ser] 150)).alloc (.cells #[I 0,I 0,I 0,Ψ 0,Ψ 0] 94) by rw[Z,Y]);have P:=hid hU;have H:V.heap.size=w.heap.size+1+1:=ω
 obtain⟨e1,e2,e3⟩:=v7 k;rw[<-i]at e1 e2 e3;have h1:=k.size;have h3:=k.f4;have h4:=k.spare;have h5:5<=w.heap.size:=hs.1;have L:=hid (fun X (hx:Below w w X)=>yk X h k (hs.below hx h5));have u:=hid (fun X=>pL X h k);have Q:=hid (show hdV h= .agg #[I h.size,I h.fmt,I h.spare,Ψ h.cls,Ψ h.ser]from rfl);rw[Q.out]at L u ⊢;rw[<-i]at u;unfold w3V at u;generalize h.size=F at*
 generalize h.fmt=f at*
 generalize h.spare=G at*
 generalize h.cls=c at*
 generalize h.ser=s at*
 clear Z Y hU p C M B q j hs i Q;unfold w3V;go_enter func269,ntmps269;go_wp2;rw[<-N.out];go_wp2;rw[<-P.out];clear e1 e2 e3 H p0 p1 p2;have R:=fun X (h:Below U U X)=>show(X.cell? ⟨w,0,none⟩=O (Ψ E)/\X.cell? ⟨w,1,none⟩=O (Ψ c)/\X.cell? ⟨w,2,none⟩=O (Ψ s))/\(X.cell? ⟨N2 w,0,none⟩=O (I F)/\X.cell? ⟨N2 w,1,none⟩=O (I f)/\X.cell? ⟨N2 w,2,none⟩=O (I G)/\X.cell? ⟨N2 w,3,none⟩=O (Ψ c)/\X.cell? ⟨N2 w,4,none⟩=O (Ψ s))from⟨(d.below h d.lt).cells3,(m.below h m.lt).cells5⟩
 have S:=hid R;clear R;have z:=hid (Ex fun X (h:Below U U X)=>L.out X (τ D h));have A:=hid (Ex fun X (_:Below U U X)=>u.out X);have h:=Below.refl U U
 go_region_held3 (fun X=>((X.cell? ⟨w,0,none⟩=O (Ψ E)/\X.cell? ⟨w,1,none⟩=O (Ψ c)/\X.cell? ⟨w,2,none⟩=O (Ψ s))/\(X.cell? ⟨N2 w,0,none⟩=O (I F)/\X.cell? ⟨N2 w,1,none⟩=O (I f)/\X.cell? ⟨N2 w,2,none⟩=O (I G)/\X.cell? ⟨N2 w,3,none⟩=O (Ψ c)/\X.cell? ⟨N2 w,4,none⟩=O (Ψ s))))
  (first |(apply S.out;(repeat(first |exact h|apply Below.drew))))
  (first
   |(go_at_call 182;apply Calls.mono;apply z.out;(repeat(first |exact h|apply Below.drew));clear h;rintro e w' ⟨rfl,h⟩)
   |(go_at_call 183;apply Calls.mono;apply A.out;(repeat(first |exact h|apply Below.drew));clear h;rintro e w' ⟨rfl,h⟩))
 replace b:=b.below h b.lt;replace m:=m.below h m.lt;replace D:=τ D h;obtain⟨p0,p1,p2,p3,p4⟩:=m.cells5;obtain⟨q0,q1,q2,q3,q4⟩:=b.cells5;have z0:=b.free 0;have z1:=b.free 1;have z2:=b.free 2;have z3:=b.free 3;have z4:=b.free 4;have T:=((((b.af 0 (I F)).af 1 (I f)).af 2 (I G)).af 3 (Ψ c)).af 4 (Ψ s);obtain⟨f0,f1,f2,f3,f4⟩:=Row.cells5 T;clear h d S z A L u P N h1 h3 h4 T;go_wp2;refine bodyPost_ret (v:= .tuple #[.agg #[I F,I f,I G,Ψ c,Ψ s],I 0]) (by simp[results,results269,go_sem,f0,f1,f2,f3,f4]) rfl ⟨rfl,?_⟩;exact aw (aw (aw (aw (aw D ω _) ω _) ω _) ω _) ω _
end Go.Proofs.YtfefijlnbhbplaaGreatDoor
namespace Go.Proofs.YtfefijlnbhbplaaGreatDoor
open Go Go.RowKit Limb Tryz
def Sl(w:World)(g:Nat)(e:TypeId)(n c:Nat)(xs:List Value):Prop:=
 ∃a:List Value,Row w g e a/\a.length=c/\xs.length=n/\n<=c/\c<=maxLen/\a.take n=xs
section
variable {w w':World} {g:Nat} {e:TypeId} {n c:Nat} {xs:List Value}
theorem Sl.lt(h:Sl w g e n c xs):g<w.heap.size:=by obtain⟨_,h,_⟩:=h;exact h.lt
theorem Sl.len(h:Sl w g e n c xs):xs.length=n:=by obtain⟨_,_,_,h,_⟩:=h;exact h
theorem Sl.le(h:Sl w g e n c xs):n<=c/\c<=maxLen:=by obtain⟨_,_,_,_,h,a,_⟩:=h;exact⟨h,a⟩
theorem Sl.only{ps:List Nat}(h:Sl w g e n c xs)(d:Only ps w w')(f:g∉ps):Sl w' g e n c xs:=by
 obtain⟨a,h1,b⟩:=h;exact⟨a,h1.only d f,b⟩
theorem Sl.below(h:Sl w g e n c xs)(d:Below w w w'):Sl w' g e n c xs:=by
 obtain⟨a,h1,b⟩:=h;exact⟨a,h1.below d h1.lt,b⟩
theorem Sl.cell(h:Sl w g e n c xs){i:Nat}(d:i<n):w.cell? ⟨g,i,none⟩=xs[i]? :=by
 obtain⟨a,h1,f,j,k,l,b⟩:=h;rw[h1.ae,<-b,List.getElem?_take_of_lt d]
theorem Sl.free(h:Sl w g e n c xs)(i:Nat):w.frozen? ⟨g,i,none⟩=false:=by obtain⟨_,h,_⟩:=h;exact h.free i
theorem Sl.store(h:Sl w g e n c xs){i:Nat}(l:i<n)(u:Value):Sl (w.setCell ⟨g,i,none⟩ u) g e n c (xs.set i u):=by
 obtain⟨a,h1,b,d,f,j,k⟩:=h;exact⟨a.set i u,h1.af i u,by rw[List.length_set];exact b,by rw[List.length_set];exact d,f,j,by rw[List.take_set,k]⟩
theorem Sl.other(h:Sl w g e n c xs){a:Addr}(f:g≠a.block)(u:Value):Sl (w.setCell a u) g e n c xs:=by
 obtain⟨b,h1,d⟩:=h;exact⟨b,h1.other f u,d⟩
theorem Sl.owns(h:Sl w g e n c xs):w.ownsRow 0 e 1 (M g n c) n xs:=by
 obtain⟨a,h1,b,d,f,j,k⟩:=h;exact⟨by rw[d,Nat.mul_one],.inr ⟨g,c,a.toArray,rfl,Nat.zero_le _,h1,f,j,by simp[b],by rw[Nat.mul_one];simpa using k⟩⟩
theorem Sl.aj{v:Value}(h:w.ownsRow 0 e 1 v n xs)(b:0<n): ∃g c,v= .slice (some ⟨g,0,none⟩) n c/\v.ownBlock=some g/\Sl w g e n c xs:=by
 obtain⟨h1,a⟩:=h;rcases a with⟨_,a⟩|⟨g,cap,cur,hv,hg,hh,hc1,hc2,hc3,hc4⟩
 ·omega
 ·rw[Nat.mul_one]at h1 hc3 hc4;subst hv;exact⟨g,cap,rfl,rfl,cur.toList,by unfold Row;simpa using hh,by simpa using hc3,h1,hc1,hc2,hc4⟩
theorem Sl.index(h:Sl w g e n c xs){P:Program}(t:TypeId)(ht:P.underlying t=some (.slice e))(hs: ∀W,(sizeOf e).run P W= .ok 1 W)(W:World)(k:IntKind)(i:Nat)(b:i<n):(Instr.indexAt t (M g n c) (.int k i)).run P W= .ok (Θ g i) W:=by
 have h1:(0:Int)<=(i:Int):=ω
 have a:(i:Int)<(n:Int):=ω
 simp[Instr.indexAt,run_underlying ht,asIntOf,h1,a,hs,Result.andThen,Addr.add];rw[if_pos b];by_cases h0:i=0
 ·subst h0;rfl
 ·rw[if_neg h0]
end
theorem qM(W:World):(sizeOf 4).run prog W= .ok 1 W:=κ
theorem ch(W:World):(sizeOf 26).run prog W= .ok 1 W:=κ
structure Foot where
 p:Nat
 gw:Nat
 gs:Nat
 gr:Nat
def Foot.l(F:Foot):List Nat:=[F.p,F.gw,F.gs,F.gr]
def gJ(l:List Bool):List Value:=l.map Value.bool
theorem A1{l:List Bool}{i:Nat}(h:i<l.length):(gJ l)[i]? =some (.bool (l.getD i false)):=by
 simp[gJ,List.getD_eq_getElem?_getD,h]
structure HeapAt (w:World) (F:Foot) (h:Hp):Prop where
 good:Limb.Good h
 spares:Spares w
 row: ∃cw cs,Row w F.p 91 [M F.gw h.ws.length cw,M F.gs h.ws.length cs,M F.gr 64 64,I h.size,Ψ h.last]/\Sl w F.gw 25 h.ws.length cw (aC .u32 h.ws)/\Sl w F.gs 4 h.ws.length cs (gJ h.st)
 roots:Row w F.gr 26 (aC .u32 h.rt)
 low:5<=F.p/\5<=F.gw/\5<=F.gs/\5<=F.gr
theorem Row.ne{w:World}{g d:Nat}{e f:TypeId}{i b:List Value}(h:Row w g e i)(a:Row w d f b)(j:e≠f):g≠d:=by
 rintro rfl;unfold Row at h a;rw[h]at a;simp only[Option.some.injEq,Obj.cells.injEq]at a;exact j a.2.1
theorem Sl.row{w:World}{g:Nat}{e:TypeId}{n c:Nat}{xs:List Value}(h:Sl w g e n c xs): ∃a,Row w g e a:=by obtain⟨a,h,_⟩:=h;exact⟨a,h⟩
section
variable {w w':World} {F:Foot} {h:Hp}
theorem HeapAt.only{ps:List Nat}(H:HeapAt w F h)(a:Only ps w w')(b: ∀g∈F.l,g∉ps)(l:0∉ps):HeapAt w' F h:=by
 obtain⟨d,f,i,j,k⟩:=H.row;have m:F.p∈F.l/\F.gw∈F.l/\F.gs∈F.l/\F.gr∈F.l:=by unfold Foot.l;simp
 exact⟨H.good,H.spares.only a l,⟨d,f,i.only a (b _ m.1),j.only a (b _ m.2.1),k.only a (b _ m.2.2.1)⟩,H.roots.only a (b _ m.2.2.2),H.low⟩
theorem HeapAt.below(H:HeapAt w F h)(a:Below w w w'):HeapAt w' F h:=H.only (ps:=[]) (Only.of_below a) (by simp) (by simp)
theorem HeapAt.ah{B:Nat}(H:HeapAt w F h)(a:Below B w w')(b:w.heap.size<=B):HeapAt w' F h:=H.below (a.mono b)
theorem HeapAt.drew(H:HeapAt w F h):HeapAt w.drew F h:=H.below (Below.refl _ _).drew
theorem HeapAt.lt(H:HeapAt w F h): ∀g∈F.l,g<w.heap.size:=by
 obtain⟨i,j,b,d,f⟩:=H.row;have:=H.roots.lt;have:=b.lt;have:=d.lt;have:=f.lt;intro g a;unfold Foot.l at a;simp only[List.mem_cons,List.not_mem_nil,or_false]at a;rcases a with rfl|rfl|rfl|rfl<;>assumption
theorem HeapAt.ge(H:HeapAt w F h): ∀g∈F.l,5<=g:=by
 obtain⟨a,b,c,d⟩:=H.low;intro g f;unfold Foot.l at f;simp only[List.mem_cons,List.not_mem_nil,or_false]at f;rcases f with rfl|rfl|rfl|rfl<;>assumption
theorem HeapAt.apart(H:HeapAt w F h):F.p≠F.gw/\F.p≠F.gs/\F.p≠F.gr/\F.gw≠F.gs/\F.gw≠F.gr/\F.gs≠F.gr:=by
 obtain⟨i,j,f,a,b⟩:=H.row;obtain⟨_,a⟩:=a.row;obtain⟨_,b⟩:=b.row;have d:=H.roots;exact⟨f.ne a δ,f.ne b δ,f.ne d δ,a.ne b δ,a.ne d δ,b.ne d δ⟩
theorem HeapAt.cells(H:HeapAt w F h): ∃f i,w.cell? ⟨F.p,0,none⟩=O (M F.gw h.ws.length f)/\w.cell? ⟨F.p,1,none⟩=O (M F.gs h.ws.length i)/\w.cell? ⟨F.p,2,none⟩=O (M F.gr 64 64)/\w.cell? ⟨F.p,3,none⟩=O (I h.size)/\w.cell? ⟨F.p,4,none⟩=O (Ψ h.last)/\Sl w F.gw 25 h.ws.length f (aC .u32 h.ws)/\Sl w F.gs 4 h.ws.length i (gJ h.st):=by
 obtain⟨f,i,j,k,l⟩:=H.row;obtain⟨a,b,c,d,e⟩:=j.cells5;exact⟨f,i,a,b,c,d,e,k,l⟩
theorem HeapAt.ai(H:HeapAt w F h){i:Nat}(a:i<64):w.cell? ⟨F.gr,i,none⟩=O (Ψ (wd h.rt i:Nat)):=H.roots.cell (by rw[H.good.rlen];exact a)
theorem HeapAt.small(H:HeapAt w F h):h.ws.length<=1048576/\h.size<=1048576/\64<=h.size:=⟨Nat.le_trans H.good.fits H.good.sM,H.good.sM,H.good.s64⟩
end
structure Foot.Next (F F':Foot) (w:World):Prop where
 p:F'.p=F.p
 gr:F'.gr=F.gr
 gw:F'.gw=F.gw∨w.heap.size<=F'.gw
 gs:F'.gs=F.gs∨w.heap.size<=F'.gs
theorem Foot.Next.refl(F:Foot)(w:World):F.Next F w:=⟨rfl,rfl,.inl rfl,.inl rfl⟩
theorem Foot.Next.trans{F b a:Foot}{w w':World}(h:F.Next b w)(k:b.Next a w')(hs:w.heap.size<=w'.heap.size):F.Next a w:=
 ⟨k.p.trans h.p,k.gr.trans h.gr,by rcases k.gw with e|e;rw[e];exact h.gw;exact .inr ω,by rcases k.gs with e|e;rw[e];exact h.gs;exact .inr ω⟩
theorem Foot.Next.mem{F a:Foot}{w:World}(h:F.Next a w): ∀g∈a.l,g∈F.l∨w.heap.size<=g:=by
 intro g b;unfold Foot.l at*
 simp only[List.mem_cons,List.not_mem_nil,or_false]at*
 rcases b with rfl|rfl|rfl|rfl
 ·exact .inl (.inl h.p)
 ·rcases h.gw with e|e
  ·exact .inl (.inr (.inl e))
  ·exact .inr e
 ·rcases h.gs with e|e
  ·exact .inl (.inr (.inr (.inl e)))
  ·exact .inr e
 ·exact .inl (.inr (.inr (.inr h.gr)))
def Step(w:World)(F:Foot)(w':World)(a:Foot)(b:Hp):Prop:=HeapAt w' a b/\F.Next a w/\Only F.l w w'
theorem Step.trans{w w' d:World}{F k f:Foot}{l j:Hp}(a:Step w F w' k l)(b:Step w' k d f j):Step w F d f j:=
 ⟨b.1,a.2.1.trans b.2.1 a.2.2.size,a.2.2.trans b.2.2 a.2.1.mem⟩
theorem Step.refl{w:World}{F:Foot}{h:Hp}(H:HeapAt w F h):Step w F w F h:=⟨H,Foot.Next.refl _ _,Only.refl _ _⟩
theorem Step.below{w w' d:World}{F f:Foot}{i:Hp}(a:Step w F w' f i)(j:Below w' w' d):Step w F d f i:=
 ⟨a.1.below j,a.2.1,a.2.2.trans (qs:=[]) (Only.of_below j) (fun q k=>by cases k)⟩
theorem Step.beside{w w':World}{F d:Foot}{f:Hp}(a:Step w F w' d f){g:Nat}{e:TypeId}{b:List Value}(i:Row w g e b)(j:g∉F.l):Row w' g e b:=i.only a.2.2 j
open Lib
theorem kind_two{o:Nat}:bI o=2↔o≠0/\o%2=0:=by
 unfold bI;by_cases h0:o=0
 ·simp[h0]
 ·rw[if_neg h0];by_cases h1:o%2=1
  ·rw[if_pos h1];omega
  ·rw[if_neg h1];omega
section
variable {w:World} {F:Foot} {h:Hp}
theorem dJ(H:HeapAt w F h):Calls prog 44 #[E F.p] w fun e w'=>e= .returned (.bool true)/\w=w':=by
 obtain⟨f,g,i,c1,j,k,m,a,hs⟩:=H.cells;have c:decide ((0:Int)<(h.size:Int))=true:=decide_eq_true (by have:=H.small;omega);have d:decide (0<h.size)=true:=decide_eq_true (by have:=H.small;omega);generalize h.size=n at*
 clear a hs H;go_enter func44,ntmps44;go_wp2;go_ret;exact⟨rfl,rfl⟩
theorem kY(o:Nat)(b:o<4294967296)(w:World)(p:Value):Calls prog 139 #[p,Ψ o] w fun e w'=>e= .returned (I (mY o))/\w=w':=by
 have a:=hid (qJ w o b);go_enter func139,ntmps139;go_wp2_with fail;refine(a.out).mono ?_;rintro e w1 ⟨rfl,rfl⟩;go_wp2;go_ret;exact⟨rfl,rfl⟩
theorem gK(H:HeapAt w F h)(o:Nat)(z:o<4294967296):Calls prog 138 #[E F.p,Ψ o] w fun e w'=>e= .returned (.bool (isO h o))/\w=w':=by
 have c:=hid (qJ w o z);have r:=hid (dJ H);obtain⟨B,C,D,c1,G,I,L,q,hs⟩:=H.cells;have a:=H.good.len;by_cases d:bI o=2
 ·have s:mY o=o/2:=(by unfold mY;rw[if_pos d]);have j:rG o=0:=by unfold rG;rw[if_pos d]
  have f:=c.out;rw[s,j]at f;have c:=hid f
  have k:isO h o=bi h (o/2):=by
   obtain⟨x,y⟩:=kind_two.1 d;unfold isO;rw[decide_eq_true x,decide_eq_true y];rfl
  rw[k];clear d s j k f;generalize o/2=i at*
  by_cases g:i<h.ws.length
  ·have u:decide ((i:Int)<(h.ws.length:Int))=true:=dT;have v:decide (i<h.ws.length)=true:=decide_eq_true g;have t:=hs.cell g;rw[A1 ω]at t;have p:bi h i=h.st.getD i false:=rfl;rw[<-p]at t;have A:=fun W=>hs.index 89 underlying89 qM W .i64 i g
   generalize bi h i=b at*
   generalize h.ws.length=n at*
   clear q hs H a g p;go_enter func138,ntmps138;go_wp2_with fail;refine(c.out).mono ?_;rintro e w1 ⟨rfl,rfl⟩;go_wp2_with fail;refine(r.out).mono ?_;rintro e w1 ⟨rfl,rfl⟩;go_wp2;go_ret;exact⟨rfl,rfl⟩
  ·have u:decide ((i:Int)<(h.ws.length:Int))=false:=dF;have v:decide (i<h.ws.length)=false:=decide_eq_false g
   have p:bi h i=false:=by
    unfold bi;rw[List.getD_eq_getElem?_getD,List.getElem?_eq_none ω];rfl
   rw[p];generalize h.ws.length=n at*
   clear q hs H a g p;go_enter func138,ntmps138;go_wp2_with fail;refine(c.out).mono ?_;rintro e w1 ⟨rfl,rfl⟩;go_wp2_with fail;refine(r.out).mono ?_;rintro e w1 ⟨rfl,rfl⟩;go_wp2;go_ret;exact⟨rfl,rfl⟩
 ·have j:rG o=3:=(by unfold rG;rw[if_neg d]);have f:=c.out;rw[j]at f;have c:=hid f
  have k:isO h o=false:=by
   rw[Bool.eq_false_iff];intro e;exact d (kind_two.2 ⟨(isO_iff.1 e).1,(isO_iff.1 e).2.1⟩)
  rw[k];clear d j k f q hs H a;go_enter func138,ntmps138;go_wp2_with fail;refine(c.out).mono ?_;rintro e w1 ⟨rfl,rfl⟩;go_wp2;go_ret;exact⟨rfl,rfl⟩
theorem nR(H:HeapAt w F h)(o:Nat)(i:o<4294967296):Calls prog 54 #[E F.p,Ψ o] w fun e w'=>e= .returned (.bool (dS h o))/\w=w':=by
 have d:=hid (fY w o i);have g:=hid (gK H o i);by_cases a:bI o=2
 ·have c:dS h o=isO h o:=by
   obtain⟨j,s⟩:=kind_two.1 a;unfold dS;rw[decide_eq_false j,decide_eq_false (show¬o%2=1 by omega)];rfl
  rw[c];have f:=d.out;rw[a]at f;have d:=hid f;generalize isO h o=b at*
  clear a f c H;go_enter func54,ntmps54;go_wp2_with fail;refine(d.out).mono ?_;rintro e w1 ⟨rfl,rfl⟩;go_wp2_with fail;refine(g.out).mono ?_;rintro e w1 ⟨rfl,rfl⟩;go_wp2;go_ret;exact⟨rfl,rfl⟩
 ·have c:dS h o=true:=by
   have p: ¬(o≠0/\o%2=0):=fun e=>a (kind_two.2 e)
   unfold dS;by_cases h0:o=0
   ·rw[decide_eq_true h0];rfl
   ·rw[decide_eq_true (show o%2=1 by omega)];simp
  have q:(((bI o:Nat):Int) != 2)=true:=(by rw[bne_iff_ne];omega);have r:(((bI o:Nat):Int)==2)=false:=nE
  rw[c];generalize bI o=k at*
  clear a c H g;go_enter func54,ntmps54;go_wp2_with fail;refine(d.out).mono ?_;rintro e w1 ⟨rfl,rfl⟩;go_wp2;go_ret;exact⟨rfl,rfl⟩
theorem k6(H:HeapAt w F h)(o:Nat)(d:o<4294967296):Calls prog 92 #[E F.p,Ψ o] w fun e w'=>e= .returned (.bool (cU h o))/\w=w':=by
 have a:=hid (gK H o d);by_cases h0:o=0
 ·have e:cU h o=true:=(by unfold cU;rw[decide_eq_true h0];rfl);rw[e];subst h0;clear e H a;go_enter func92,ntmps92;go_wp2;go_ret;exact⟨rfl,rfl⟩
 ·have e:cU h o=isO h o:=(by unfold cU;rw[decide_eq_false h0];rfl);have f:((o:Int)==0)=false:=nE
  have c:(o==0)=false:=nE;rw[e];generalize isO h o=b at*
  clear e H h0;go_enter func92,ntmps92;go_wp2_with fail;refine(a.out).mono ?_;rintro e w1 ⟨rfl,rfl⟩;go_wp2;go_ret;exact⟨rfl,rfl⟩
theorem dM(H:HeapAt w F h)(i:Nat)(b:i<64):Calls prog 39 #[E F.p,I i] w fun e w'=>e=Rt #[Ψ (wd h.rt i:Nat),I 0]/\w=w':=by
 have c:=hid (dJ H);obtain⟨p,q,r,c1,s,t,u,d,hs⟩:=H.cells;have f:=H.ai b;have g:decide ((i:Int)<0)=false:=dF;have j:decide ((64:Int)<=(i:Int))=false:=dF;have k:decide (64<=i)=false:=dF;have a:Sl w F.gr 26 64 64 (aC .u32 h.rt):=⟨_,H.roots,by rw[aD];exact H.good.rlen,by rw[aD];exact H.good.rlen,Nat.le_refl _,δ,List.take_of_length_le (by rw[aD,H.good.rlen];exact Nat.le_refl _)⟩;have l:=fun W=>a.index 44 underlying44 ch W .i64 i b
 clear d hs H a;go_enter func39,ntmps39;go_wp2_with fail;refine(c.out).mono ?_;rintro e w1 ⟨rfl,rfl⟩;go_wp2;go_ret2;exact⟨rfl,rfl⟩
theorem tH(H:HeapAt w F h):Calls prog 10 #[E F.p] w fun e w'=>e= .returned (I h.ws.length)/\w=w':=by
 have a:=hid (dJ H);obtain⟨c,d,f,c1,g,i,j,b,hs⟩:=H.cells;clear b hs H;go_enter func10,ntmps10;go_wp2_with fail;refine(a.out).mono ?_;rintro e w1 ⟨rfl,rfl⟩;go_wp2;go_ret;exact⟨rfl,rfl⟩
theorem mc(H:HeapAt w F h):Calls prog 16 #[E F.p] w fun e w'=>e= .returned (Ψ h.last)/\w=w':=by
 have a:=hid (dJ H);obtain⟨c,d,f,c1,g,i,j,b,hs⟩:=H.cells;clear b hs H;go_enter func16,ntmps16;go_wp2_with fail;refine(a.out).mono ?_;rintro e w1 ⟨rfl,rfl⟩;go_wp2;go_ret;exact⟨rfl,rfl⟩
end
theorem wu(a:Option Addr)(c:Nat)(w:World):(Instr.arrayAt 150 (.slice a 3 c)).run prog w= .ok (.pointer a) w:=run_arrayAt w _ _ 3 a 3 c underlying150 ι
attribute [local go_sem] wu
theorem vV{w:World}{g:Nat}{e:TypeId}{i j k m p:Value}(h:Row w g e [i,j,k,m,p])(a b c d f:Value):Row (((((w.setCell ⟨g,0,none⟩ a).setCell ⟨g,1,none⟩ b).setCell ⟨g,2,none⟩ c).setCell ⟨g,3,none⟩ d).setCell ⟨g,4,none⟩ f) g e [a,b,c,d,f]:=
 ((((h.af 0 a).af 1 b).af 2 c).af 3 d).af 4 f
theorem iN{B:Nat}{a w:World}(h:Below B a w){g:Nat}(b:B<=g)(c d f i j:Value):Below B a (((((w.setCell ⟨g,0,none⟩ c).setCell ⟨g,1,none⟩ d).setCell ⟨g,2,none⟩ f).setCell ⟨g,3,none⟩ i).setCell ⟨g,4,none⟩ j):=
 aw (aw (aw (aw (aw h b _) b _) b _) b _) b _
section
variable {w:World} {F:Foot} {h:Hp}
theorem FM(k:Limb.Good h){i:Nat}(a:bi h i=true):(hd h i).w0=wd h.ws i:=Cf (k.ok i a).2
theorem uW(H:HeapAt w F h)(i:Nat)(hb:bi h i=true):Calls prog 243 #[E F.p,I i] w fun e w'=>e= .returned (hdV (hd h i))/\Below w w w':=by
 have hin:=H.good.inside i hb;obtain⟨hok,_⟩:=H.good.ok i hb;have h0:=FM H.good hb;have e1:(hd h i).cls=wd h.ws (i+1):=rfl;have e2:(hd h i).ser=wd h.ws (i+2):=rfl;have hsp:=H.spares;have h5:5<=w.heap.size:=hsp.1;have HU:=hid (fun X (hx:Below w w X)=>wv X (hd h i) hok (hsp.below hx h5));have hsm:=H.small;obtain⟨cw,cs,c0,c1,c2,c3,c4,hw,hs⟩:=H.cells;have q0:=hw.cell (i:=i) ω;have q1:=hw.cell (i:=i+1) ω;have q2:=hw.cell (i:=i+2) ω;rw[aJ ω]at q0 q1 q2;rw[h0,e1,e2]at HU;have hle:=hw.le;generalize hd h i=x at*
 generalize wd h.ws i=a0 at*
 generalize wd h.ws (i+1)=a1 at*
 generalize wd h.ws (i+2)=a2 at*
 generalize h.ws.length=n at*
 have n1:i+3<=n:=ω
 have n2:n<=1048576:=hsm.1;have n3:n<=cw:=hle.1;have hlt:F.gw<w.heap.size:=hw.lt;have hlp:F.p<w.heap.size:=H.lt _ (by unfold Foot.l;simp);obtain⟨W,hW,r0,hB,hz⟩:=aA w 94 [I 0,I 0,I 0,Ψ 0,Ψ 0];have HW:=hid hW;have ex:hdV x= .agg #[I x.size,I x.fmt,I x.spare,Ψ x.cls,Ψ x.ser]:=rfl;rw[ex]at HU ⊢;generalize x.size=x0 at*
 generalize x.fmt=x1 at*
 generalize x.spare=x2 at*
 generalize x.cls=x3 at*
 generalize x.ser=x4 at*
 unfold w3V at HU;clear hW hz ex hin hok h0 e1 e2 hsp hsm hw hs H hle hb c1 c2 c3 c4;go_enter func243,ntmps243;go_wp2_with fail;rw[<-HW.out];refine(HU.out W hB).mono ?_;rintro e V ⟨rfl,hb⟩;(try dsimp only);clear c0 q0 q1 q2;replace r0:=r0.below hb r0.lt;replace hB:=τ hB hb;clear hb;have z0:=r0.free 0;have z1:=r0.free 1;have z2:=r0.free 2;have z3:=r0.free 3;have z4:=r0.free 4;obtain⟨p0,p1,p2,p3,p4⟩:=r0.cells5;have hl:w.heap.size<V.heap.size:=r0.lt;have rs:=vV r0 (I x0) (I x1) (I x2) (Ψ x3) (Ψ x4);have rr:=rs.alloc (.cells #[I x0,I x1,I x2,Ψ x3,Ψ x4] 94);have hS:=iN hB ι (I x0) (I x1) (I x2) (Ψ x3) (Ψ x4);have hE:=hS.alloc hS.size (.cells #[I x0,I x1,I x2,Ψ x3,Ψ x4] 94);have HE:=hid hE;obtain⟨f0,f1,f2,f3,f4⟩:=Row.cells5 rr;clear rr rs hS hE;go_wp2_with fail;refine bodyPost_ret (v:= .agg #[I x0,I x1,I x2,Ψ x3,Ψ x4]) (by simp[results,results243,go_sem,f0,f1,f2,f3,f4]) rfl ⟨rfl,?_⟩;exact HE.out
end
end Go.Proofs.YtfefijlnbhbplaaGreatDoor

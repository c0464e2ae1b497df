/- Walks and laws that LargeData asks for. -/
import Derived.Test.YtfefijlnbhbplaaGreatDoorGX07
import Derived.Test.YtfefijlnbhbplaaGreatDoorGX09
set_option linter.unusedVariables false
set_option linter.unusedSimpArgs false
set_option maxRecDepth 1000000
set_option maxHeartbeats 6400000
namespace Go.Proofs.YtfefijlnbhbplaaGreatDoor
open Go Lib Go.RowKit Limb Tryz
def CapB(B:Nat)(a:Option Addr)(n cap:Nat):Prop:=n<=cap/\∀b c,a=some ⟨b,c,none⟩->B<=b
theorem CapB.mono{B C:Nat}{a:Option Addr}{n cap:Nat}(h:CapB B a n cap)(k:C<=B):CapB C a n cap:=⟨h.1,fun b c e=>Nat.le_trans k (h.2 b c e)⟩
theorem CapB.none{B n cap:Nat}(h:n<=cap):CapB B none n cap:=⟨h,fun _ _ e=>by cases e⟩
theorem CapB.new{B g a n cap:Nat}(h:n<=cap)(k:B<=g):CapB B (some ⟨g,a,Option.none⟩) n cap:=⟨h,fun _ _ e=>by simp only[Option.some.injEq,Addr.mk.injEq]at e;omega⟩
def Api(B:Nat)(w:World)(v:Value)(d:Bool)(l:List Nat):Prop:= ∃a n cap,v= .agg #[.bool d,.slice a n cap]/\n=l.length/\CapB B a n cap/\Lay .u32 w a l
def kt(w w':World)(e:Ending)(z:Int):Prop:=
 Below w w w'/\((1024<(rep z.natAbs).length/\e=Rt #[Ω false none 0 0,I 2])∨((rep z.natAbs).length<=1024/\∃v,e=Rt #[v,I 0]/\Api w w' v (decide (z<0)) (rep z.natAbs)))
theorem IntAt.only_row{w w':World}{p g:Nat}{z:Int}{e:TypeId}{bs:List Nat}(h:IntAt w p z)(f:Row w g e (aC .u8 bs))(c:Only [g] w w')(i:p≠g):IntAt w' p z:=by
 obtain⟨a,cap,h1,b,d⟩:=h;exact⟨a,cap,h1.only c (by simp;exact i),b.only c (b.notRow f δ),d⟩
theorem DG(z:Int):decide (d8 z<0)=decide (z<0):=by
 unfold d8;split
 ·simp;omega
 ·split<;>simp<;>omega
theorem B5(n:Nat):madeCells #[Value.int .u32 0] n=(List.replicate n (Value.int .u32 0)).toArray:=by
 rw[<-toList_madeCells_one]
theorem Fu(w:World)(b:Bool)(n:Nat): ∃f g,Value.pointer (some ⟨N1 w,0,none⟩)= .pointer (some ⟨f,0,none⟩)/\Row ((w.alloc (.cells (madeCells #[Ψ 0] n) 25)).alloc (.cells #[.bool b,M w n n] 24)).drew f 24 [.bool b,M g n n]/\Row ((w.alloc (.cells (madeCells #[Ψ 0] n) 25)).alloc (.cells #[.bool b,M w n n] 24)).drew g 25 (List.replicate n (Ψ 0))/\w.heap.size<=f/\w.heap.size<=g/\f≠g/\Below w w ((w.alloc (.cells (madeCells #[Ψ 0] n) 25)).alloc (.cells #[.bool b,M w n n] 24)).drew:=by
 refine⟨N1 w,w,rfl,?_,?_,ω,ω,ω,(((Below.refl _ _).alloc ι _).alloc (by rw[World.size_alloc];omega) _).drew⟩
 ·apply Row.drew;unfold Row;rw[<-World.size_alloc w (.cells (madeCells #[Ψ 0] n) 25)];exact heap_alloc_new _ _
 ·apply Row.drew;apply Row.alloc;unfold Row;rw[<-B5];exact heap_alloc_new _ _
theorem FJ(w:World)(b:Bool)(n:Nat): ∃f g,Value.pointer (some ⟨w,0,none⟩)= .pointer (some ⟨f,0,none⟩)/\Row ((w.alloc (.cells #[.bool b,M (N1 w) n n] 24)).alloc (.cells (madeCells #[Ψ 0] n) 25)).drew f 24 [.bool b,M g n n]/\Row ((w.alloc (.cells #[.bool b,M (N1 w) n n] 24)).alloc (.cells (madeCells #[Ψ 0] n) 25)).drew g 25 (List.replicate n (Ψ 0))/\w.heap.size<=f/\w.heap.size<=g/\f≠g/\Below w w ((w.alloc (.cells #[.bool b,M (N1 w) n n] 24)).alloc (.cells (madeCells #[Ψ 0] n) 25)).drew:=by
 refine⟨w,w.heap.size+1,rfl,?_,?_,ω,ω,ω,(((Below.refl _ _).alloc ι _).alloc (by rw[World.size_alloc];omega) _).drew⟩
 ·apply Row.drew;apply Row.alloc;unfold Row;exact heap_alloc_new _ _
 ·apply Row.drew;unfold Row;rw[<-B5];have h:=heap_alloc_new (w.alloc (.cells #[.bool b,M (N1 w) n n] 24)) (.cells (madeCells #[Ψ 0] n) 25);rw[World.size_alloc]at h;exact h
theorem or8{a b:Nat}(c:a<256)(d:b<256):bits .or .u32 (a:Int) ((b:Int)*256)=(a:Int)+(b:Int)*256:=by
 rw[show(b:Int)*256=((b*256:Nat):Int)from by rw[Int.natCast_mul];rfl,u32_or_nat _ _ ω ω,Nat.or_comm,nat_join 8 _ _ ω ω,Int.natCast_add,Int.add_comm]
theorem FR{a b:Nat}(c:a<65536)(d:b<256):bits .or .u32 (a:Int) ((b:Int)*65536)=(a:Int)+(b:Int)*65536:=by
 rw[show(b:Int)*65536=((b*65536:Nat):Int)from by rw[Int.natCast_mul];rfl,u32_or_nat _ _ ω ω,Nat.or_comm,nat_join 16 _ _ ω ω,Int.natCast_add,Int.add_comm]
theorem FS{a b:Nat}(c:a<16777216)(d:b<256):bits .or .u32 (a:Int) ((b:Int)*16777216)=(a:Int)+(b:Int)*16777216:=by
 rw[show(b:Int)*16777216=((b*16777216:Nat):Int)from by rw[Int.natCast_mul];rfl,u32_or_nat _ _ ω ω,Nat.or_comm,nat_join 24 _ _ ω ω,Int.natCast_add,Int.add_comm]
theorem vK(N:Nat):(dN N+31)/32=(rep N).length:=by
 by_cases h:N=0
 ·subst h;decide
 ·have h1:=xc h;have c:=cK N;obtain⟨k,d⟩: ∃k,(rep N).length=k+1:=⟨(rep N).length-1,by have:(rep N).length≠0:=fun e=>h (rep_length_zero.1 e);omega⟩;rw[d]at h1 c ⊢;rw[Nat.add_sub_cancel,dj]at h1;rw[dj]at c;have a:=bitsN_le.2 c;have b: ¬dN N<=32*k:=fun f=>by have:=bitsN_le.1 f;omega
  omega
theorem iL(w:World)(q:Nat)(z:Int)(hq:IntAt w q z)(hs:(rep z.natAbs).length<=68719476736):Calls prog 81 #[E q] w fun e w'=>kt w w' e z:=by
 obtain⟨n,U⟩:=ξ ((rep z.natAbs).length);have H:=fun W h=>oK W q z h hs
 obtain⟨bl,a9⟩:=ξ (dN z.natAbs);have a2:=vK z.natAbs;rw[<-a9,<-U]at a2;rw[<-a9]at H;have ew:((bl:Int)+31)/32=n:=ω
 have b_bl:bl<=4398046511104:=by rw[U]at a2;omega
 have a3:=hid H;clear H a9 a2;have hs':n<=68719476736:=by rw[U];exact hs
 by_cases h1:1024<n
 ·have j: ∀w',Below w w w'->kt w w' (.returned (.tuple #[Ω false none 0 0,I 2])) z:=fun w' hb=>⟨hb,.inl ⟨by rw[<-U];exact h1,rfl⟩⟩
  have HR:=hid j;clear j U;go_enter func81,ntmps81;go_wp2_with(go_at_call 79;refine(a3.out _ ?_).mono ?_;exact hq.below ((Below.refl _ _).alloc ι _);rintro e w' ⟨rfl,rfl⟩);go_returns;exact HR.out _ ((Below.refl _ _).alloc ι _)
 ·by_cases h0:n=0
  ·have hz:z=0:=(by rw[U,rep_length_zero]at h0;omega);subst hz;have j: ∀w',Below w w w'->kt w w' (.returned (.tuple #[Ω false none 0 0,I 0])) 0:=fun w' hb=>⟨hb,.inr ⟨by rw[<-U];omega,_,rfl,none,0,0,rfl,rfl,CapB.none ι,Lay.nil _ _ _⟩⟩
   have HR:=hid j;clear j U;subst h0;go_enter func81,ntmps81;go_wp2_with(go_at_call 79;refine(a3.out _ ?_).mono ?_;exact hq.below ((Below.refl _ _).alloc ι _);rintro e w' ⟨rfl,rfl⟩);go_returns;exact HR.out _ ((Below.refl _ _).alloc ι _)
  ·have hpos:0<n:=ω;have hle:n<=1024:=ω
   have eq0:((n:Int)==0)=false:=nE;have Hn:=hid U;clear U;clear h0 h1;obtain⟨L,hL1,hL2⟩: ∃L,L<=4*n/\4*n<=L:=⟨4*n,ω,ω⟩;go_enter func81,ntmps81;go_wp2_with(first |(go_at_call 79;refine(a3.out _ ?_).mono ?_;exact hq.below ((Below.refl _ _).alloc ι _);rintro e w' ⟨rfl,rfl⟩)|(at_make;refine aI rfl _ _ _ rfl 5 (.int .u8 0) 1 underlying50 iT rfl _ _ _ _ L L rfl rfl ω ω ω ω ω ?_;intro w1 g hg1 hg2 G a1)|(go_at_call 158;fail_if_success skip));have Q:=bE a1;rw[World.size_alloc]at hg1;have a4:Row w1 w 24 [.bool false,.slice none 0 0]:=(show Row (w.alloc (.cells #[.bool false,.slice none 0 0] 24)) w 24 [.bool false,.slice none 0 0] by unfold Row;exact heap_alloc_new _ _).below a1 (by rw[World.size_alloc];omega);have hq1:=hq.below Q;refine(pg w1 q g z (List.replicate L 0) L L hq1 (by rw[aG];exact G) (by simp) (by have:=hq.lt;omega) ω hs).mono ?_;rintro e w2 ⟨rfl,ho2,bs,hrb,H,hby⟩;have B:=a4.only ho2 (by simp;omega);have a5:=hq1.only_row (bs:=List.replicate L 0) (by rw[aG];exact G) ho2 (by have:=hq.lt;omega);obtain⟨b0,aa⟩:=ξ (decide (z<0));have hsg:=DG z;rw[<-aa]at hsg;have Hb0:=hid aa;clear aa
   have hmk: ∀W:World,(Instr.makeSlice 22 (I n) (I n)).run prog W= .ok (M W.heap.size n n) (W.alloc (.cells (madeCells #[Ψ 0] n) 25)):=by
    intro W;obtain⟨i0,hi,hz0,hsz,hbt⟩:=info_parts bz;have:=run_make (P:=prog) W 22 25 i0 (Ψ 0) underlying22 hi hz0 .i64 .i64 n n ω ω (by rw[hbt];omega) ω;rw[hsz,Nat.mul_one,Int.toNat_natCast]at this;exact this
   go_wp2;go_upto_region 7 with fail
   go_cut [6] (fun v w'=> ∃pb A,v= .pointer (some ⟨pb,0,none⟩)/\Row w' pb 24 [.bool b0,M A n n]/\Row w' A 25 (List.replicate n (Ψ 0))/\w2.heap.size<=pb/\w2.heap.size<=A/\pb≠A/\Below w2 w2 w')
   case first=>
    go_wp2_with fail;go_region_with (go_at_call 80;refine(uk _ q z ?_).mono ?_;(first |exact a5.drew|exact a5.drew.below ((Below.refl _ _).alloc ι _)|exact(a5.drew.below ((Below.refl _ _).alloc ι _)).below ((Below.refl _ _).alloc ι _));rintro e w' ⟨rfl,rfl⟩);all_goals go_wp2
    all_goals go_meet
    all_goals first |exact Fu _ _ _|exact FJ _ _ _
   case rest=>
    obtain⟨pb,A,rfl,hrp,hrm,hpb,hg2',hpg,ab⟩:=hcut;have hrb3:=hrb.below ab (by have:=ho2.size;have:=G.lt;omega);have hsz2:=ho2.size;have HG2:=hid (show w.heap.size<=A by have:=Q.size;omega);have hglt:=G.lt;have a6:=B.below ab B.lt;have hreslt:=B.lt;have hB3:Below w w wc:=(Q.trans (ho2.ah Q.size (fun p hp=>by rw[List.mem_singleton]at hp;omega))).trans (ab.mono (by have:=Q.size;omega));have V:=hid H;clear H;have X:=hid hby;clear hby;have cp:=hrp.ae 1;simp only[yB,yC]at cp;go_wp2;go_loopw[33] (fun i wr=> ∃(k:Nat) (ms:List Nat),k<=n/\i= .int .i64 k/\ms.length=n/\Row wr A 25 (aC .u32 ms)/\(∀i,i<k->wd ms i=wd (rep z.natAbs) i)/\Only [A] wc wr) (fun i _=>n-(intOf i).toNat);case atStart=>exact⟨0,List.replicate n 0,ω,rfl,by simp,by rw[aG];exact hrm,fun i hi=>absurd hi ω,Only.refl _ _⟩
    case round=>
     obtain⟨k,ms,hk,rfl,hml,F,T,ho⟩:=hrel;have R:=hid hml;clear hml;have Hms:=hid T;clear T;have Y:=hrp.only ho (by simp;exact hpg);have cp':=Y.ae 1;have cp0:=Y.ae 0;simp only[yB,yC]at cp' cp0;by_cases a7:k<n
     ·have D:=hrb3.only ho (by simp;omega);have i1:=aX (P:=prog) underlying50 fJ g L L .i64 ((L:Int)-4*k-1) (L-4*k-1) ω ω;have i2:=aX (P:=prog) underlying50 fJ g L L .i64 ((L:Int)-4*k-2) (L-4*k-2) ω ω;have i3:=aX (P:=prog) underlying50 fJ g L L .i64 ((L:Int)-4*k-3) (L-4*k-3) ω ω;have i4:=aX (P:=prog) underlying50 fJ g L L .i64 ((L:Int)-4*k-4) (L-4*k-4) ω ω;have im:=aX (P:=prog) underlying22 aK A n n .i64 (k:Int) k rfl a7;have k1:=D.cell (i:=L-4*k-1) (by rw[V.out];omega);have k2:=D.cell (i:=L-4*k-2) (by rw[V.out];omega);have k3:=D.cell (i:=L-4*k-3) (by rw[V.out];omega);have k4:=D.cell (i:=L-4*k-4) (by rw[V.out];omega);have y1:=X.out (4*k) ω;have y2:=X.out (4*k+1) ω;have y3:=X.out (4*k+2) ω;have y4:=X.out (4*k+3) ω;rw[show L-1-4*k=L-4*k-1 from by omega]at y1;rw[show L-1-(4*k+1)=L-4*k-2 from by omega]at y2;rw[show L-1-(4*k+2)=L-4*k-3 from by omega]at y3;rw[show L-1-(4*k+3)=L-4*k-4 from by omega]at y4;rw[y1]at k1;rw[y2]at k2;rw[y3]at k3;rw[y4]at k4;clear y1 y2 y3 y4;have l1:=rL (rep z.natAbs) (4*k);have l2:=rL (rep z.natAbs) (4*k+1);have l3:=rL (rep z.natAbs) (4*k+2);have l4:=rL (rep z.natAbs) (4*k+3);have S:=pH (aB z.natAbs) k;generalize byt (rep z.natAbs) (4*k)=x1 at*
      generalize byt (rep z.natAbs) (4*k+1)=x2 at*
      generalize byt (rep z.natAbs) (4*k+2)=x3 at*
      generalize byt (rep z.natAbs) (4*k+3)=x4 at*
      have HW:=hid S;clear S;have o1:=or8 l1 l2;have o2:=FR (a:=x1+x2*256) ω l3;have o3:=FS (a:=x1+x2*256+x3*65536) ω l4;have e2:((x1+x2*256:Nat):Int)=(x1:Int)+(x2:Int)*256:=ω
      have e3:((x1+x2*256+x3*65536:Nat):Int)=(x1:Int)+(x2:Int)*256+(x3:Int)*65536:=ω;rw[e2]at o2;rw[e3]at o3;clear e2 e3;have hcell:=F.cell (i:=k) (by rw[R.out];exact a7);have hfk:=F.free k;go_wp2;go_region;go_wp2;go_roundw
      case rel=>exact⟨k+1,ms.set k (x1+x2*256+x3*65536+x4*16777216),ω,by go_num,by rw[List.length_set,R.out],(F.store _ _ _ ω).drew,fun i hi=>by
       rw[cm (by rw[R.out];exact a7)];by_cases hik:i=k
       ·rw[hik,if_pos rfl,HW.out]
       ·rw[if_neg hik];exact Hms.out i ω,(ho.setCell (by simp) _).drew⟩
      case measure=>exact μ
     ·obtain rfl:k=n:=ω
      have T:ms=rep z.natAbs:=dX (by rw[R.out];exact Hn.out) (fun i hi=>Hms.out i (by rw[<-R.out];exact hi));have hlm:=F.lay;rw[T]at hlm;clear T;have f:=a6.only ho (by simp;omega);obtain⟨rc0,rc1⟩:=f.two;have rf0:=f.free 0;have rf1:=f.free 1;have a8:=(ho.setCell (ps:=[A]) (a:=⟨A,0,none⟩) (by simp) (.bool b0));have Z: ∀x y:Value,Below w w ((wr.setCell ⟨w,0,none⟩ x).setCell ⟨w,1,none⟩ y):=fun x y=>aw (aw (hB3.trans (ho.ah hB3.size (fun p hp=>by rw[List.mem_singleton]at hp;omega))) ι _) ι _
      have a0: ∀x y:Value,Lay .u32 ((wr.setCell ⟨w,0,none⟩ x).setCell ⟨w,1,none⟩ y) (some ⟨A,0,none⟩) (rep z.natAbs):=fun x y=>(hlm.other (fun b off e=>by simp only[Option.some.injEq,Addr.mk.injEq]at e;omega) _ _).other (fun b off e=>by simp only[Option.some.injEq,Addr.mk.injEq]at e;omega) _ _
      have HF:=hid Z;clear Z;have HL:=hid a0;clear a0;clear a8;have e0:(wr.setCell ⟨w,0,none⟩ (.bool b0)).cell? ⟨w,0,none⟩=some (.bool b0):=(f.af 0 _).ae 0;have e1:((wr.setCell ⟨w,0,none⟩ (.bool b0)).setCell ⟨w,1,none⟩ (M A k k)).cell? ⟨w,1,none⟩=O (M A k k):=((f.af 0 _).af 1 _).ae 1;go_wp2;refine bodyPost_ret (v:= .tuple #[.agg #[.bool b0,M A k k],I 0]) (by simp[results,results81,go_sem,e0,e1]) rfl ?_;refine⟨HF.out _ _,.inr ⟨by rw[<-Hn.out];exact hle,_,rfl,some ⟨A,0,none⟩,k,k,?_,Hn.out,CapB.new ι HG2.out,HL.out _ _⟩⟩;rw[Hb0.out]
end Go.Proofs.YtfefijlnbhbplaaGreatDoor

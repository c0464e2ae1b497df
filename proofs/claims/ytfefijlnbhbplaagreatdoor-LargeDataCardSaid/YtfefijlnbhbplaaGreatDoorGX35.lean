/- Walks and laws that LargeData asks for. -/
import Derived.Test.YtfefijlnbhbplaaGreatDoorGX34
set_option linter.unusedVariables false
set_option linter.unusedSimpArgs false
set_option maxRecDepth 1000000
set_option maxHeartbeats 12800000
namespace Go.Proofs.YtfefijlnbhbplaaGreatDoor
open Go Lib Go.RowKit Limb Tryz
set_option linter.unusedSectionVars false
variable [Old]
def Cv(x n:Int)(w w':World)(e:Ending):Prop:=ve w w' e x n∨(x≠0/\32768<n/\Aj w w' e)
theorem zo(w:World)(v:Value)(x n:Int)(hv:ApiV w v x)(lx:(rep x.natAbs).length<=1024)(hn1: -9223372036854775808<=n)(hn2:n<=9223372036854775807)(ho:Old.top<=w.heap.size):Calls prog 131 #[v,I n] w fun e w'=>Cv x n w w' e:=by
 have hv':=hv;obtain⟨Q,c1,rfl,-,hl1⟩:=hv;obtain⟨O,Y⟩: ∃k,k=(rep x.natAbs).length:=⟨_,rfl⟩;obtain⟨H,hS1⟩: ∃s,s=decide (x<0):=⟨_,rfl⟩;rw[<-hS1,<-Y]at hv' ⊢;obtain⟨W,hWe,Z,D,L,hsz⟩:=fG w 24 (.bool H) (.slice Q O c1) (.bool false) (.slice none 0 0);obtain⟨g2,hg2⟩: ∃g,g=w.heap.size+1:=⟨_,rfl⟩;rw[<-hg2]at D;have hle:w.heap.size<g2:=ω
 have HG2:=hid hg2;have HWe:=hid hWe;have HvW:=hid (hv'.below L);have HS1:=hid hS1;have HLx:=hid lx;have C:=hid (Nat.le_trans ho L.size)
 have hd0:((O:Int)==0)=decide (x=0):=by
  by_cases h0:x=0
  ·rw[Y,h0];rfl
  ·rw[decide_eq_false h0,beq_eq_false_iff_ne,Y];intro R;exact h0 (by have:=rep_length_zero (n:=x.natAbs);omega)
 obtain⟨q0,q1⟩:=Z.two;clear hg2 hWe Y hS1 hl1 hv' lx ho hsz;go_enter func131,ntmps131;obtain⟨BP,E⟩: ∃B,bodyPost prog f131 (fun e w'=>Cv x n w w' e)=B:=⟨_,rfl⟩;rw[E];go_upto_region 1 with fail
 rw[<-HWe.out,<-HG2.out];clear HWe HG2;by_cases h0:x=0
 ·rw[decide_eq_true h0]at hd0;obtain⟨k0,k1,k2,k3,R,e1,HB⟩:=D.fin L ω (.bool H) (.slice Q O c1);have T:=hid (ApiV.to HvW.out (fun _ _ hl=>hl.pair D (.bool H) (.slice Q O c1)));have P:=hid (show cf x n=x by rw[h0,jS]);clear h0 Z D L;go_wp2;rw[<-E];exact bodyPost_ret (v:= .tuple #[Ω H Q O c1,.bool true]) (by simp[results,results131,go_sem,R,e1]) rfl (.inl ⟨_,_,_,_,rfl,by rw[P.out];exact T.out,HB.out⟩)
 rw[decide_eq_false h0]at hd0;have H0:=hid h0;by_cases G:0<=n
 ·by_cases hf:32768<n
  ·have d1:decide ((32768:Int)<n)=true:=decide_eq_true hf;have d2:decide (0<=n)=true:=decide_eq_true G;obtain⟨k0,k1,k2,k3,R,e1,HB⟩:=D.fin L ω (.bool H) (.slice Q O c1);have Hf:=hid hf;clear h0 Z D L hf G;go_wp2;rw[<-E];exact bodyPost_ret (v:= .tuple #[Ω H Q O c1,.bool false]) (by simp[results,results131,go_sem,R,e1]) rfl (.inr ⟨H0.out,Hf.out,_,_,_,_,rfl,HB.out⟩)
  obtain⟨k,rfl⟩: ∃k:Nat,n=(k:Int):=⟨n.toNat,ω⟩;have hk:k<=32768:=ω
  obtain⟨z,hze⟩:=ξ (x*2^k);have P:=hid (show cf x (k:Int)=z by rw[hze];unfold cf;rw[if_pos ω];rfl);have lk:(rep ((2:Int)^k).natAbs).length<=1025:=sI (show k<32*1025 by omega)
  have HP:=hid (fun X (h:Below W W X)=>(qE X k ω (Nat.le_trans C.out h.size)).mono fun e X' he=>show(∃b a n c,e= .returned (Ω b a n c)/\ApiV X' (Ω b a n c) ((2:Int)^k))/\Below W W X' from by
   obtain⟨u,rfl,hu,q⟩:=he;obtain⟨b,a,m,c,rfl,_⟩:=hu.open;exact⟨⟨_,_,_,_,rfl,hu⟩,h.trans (q.mono h.size)⟩)
  have HM:=hid (fun X b a n c (hp:ApiV X (Ω b a n c) ((2:Int)^k)) (h:Below W W X)=>(ri X _ _ x ((2:Int)^k) (HvW.out.below h) hp (by have:=HLx.out;omega) ω (Nat.le_trans C.out h.size)).mono fun e X' he=>show(∃b a n c,e= .returned (Ω b a n c)/\Hid (ApiV X' (Ω b a n c) z/\Row X' g2 24 [.bool false,.slice none 0 0]))/\Below W W X' from by
   obtain⟨u,rfl,hu,q⟩:=he;obtain⟨b,a,m,c,rfl,_⟩:=hu.open;have hb':=h.trans (q.mono h.size);exact⟨⟨b,a,m,c,rfl,hid ⟨by rw[hze];exact hu,D.below hb' D.lt⟩⟩,hb'⟩)
  have hgW:g2<W.heap.size:=D.lt;have HS:=hid (fun X (h:Below g2 W X)=>show X.cell? ⟨w,0,none⟩=some (.bool H)/\X.cell? ⟨w,1,none⟩=some (.slice Q O c1)from(Z.below h hle).two);have HK:=hid (fun X (h:Below W W X)=>HS.out X (h.mono (Nat.le_of_lt D.lt)));clear h0 hze lk Z G hf;have h:=Below.refl W W;go_wp2_with fail
  go_region_held3 (fun X=>(X.cell? ⟨w,0,none⟩=some (.bool H)/\X.cell? ⟨w,1,none⟩=some (.slice Q O c1)))
   (first |(apply HK.out;(repeat(first |exact h|apply Below.drew));done)|(apply HS.out;apply aw;apply aw;apply Below.mono;(repeat(first |exact h|apply Below.drew));omega;exact Nat.le_refl _;exact Nat.le_refl _))
   (first
    |(go_at_call 208;apply Calls.mono;apply HP.out;(repeat(first |exact h|apply Below.drew));clear h;rintro e w' ⟨⟨b',a',n',c',rfl,hpw⟩,h⟩)
    |(go_at_call 127;apply Calls.mono;apply HM.out;exact hpw;(repeat(first |exact h|apply Below.drew));clear h hpw;rintro e w' ⟨⟨b3,a3,n3,c3,rfl,hfin⟩,h⟩;obtain⟨k0,k1,k2,k3,R,e1,HB⟩:=hfin.out.2.fin (τ L h) ω (.bool b3) (.slice a3 n3 c3)))
  go_wp2;rw[<-E];exact bodyPost_ret (v:= .tuple #[Ω b3 a3 n3 c3,.bool true]) (by simp[results,results131,go_sem,R,e1]) rfl (.inl ⟨_,_,_,_,rfl,by rw[P.out];exact ApiV.to hfin.out.1 (fun _ _ hl=>hl.pair hfin.out.2 _ _),HB.out⟩)
 have d2:decide (0<=n)=false:=decide_eq_false G;by_cases hf:n< -32768
 ·have P:=hid (wF HLx.out hf)
  have HO:=hid (fun(z:Int) h1 h2=>(sa W z h1 h2 C.out).mono fun e X he=>show∃b a m c,e= .returned (Ω b a m c)/\Hid (ApiV X (Ω b a m c) z/\Below W W X)from by
   obtain⟨u,rfl,hu,q⟩:=he;obtain⟨b,a,m,c,rfl,_⟩:=hu.open;exact⟨_,_,_,_,rfl,hid ⟨hu,q⟩⟩)
  have d3:decide (n< -32768)=true:=decide_eq_true hf;clear h0 G hf Z
  have hc:(H=true/\cf x n= -1)∨(H=false/\cf x n=0):=by
   by_cases hx:x<0
   ·exact .inl ⟨by rw[HS1.out];exact decide_eq_true hx,by rw[P.out,if_pos hx]⟩
   ·exact .inr ⟨by rw[HS1.out];exact decide_eq_false hx,by rw[P.out,if_neg hx]⟩
  rcases hc with⟨rfl,hz⟩|⟨rfl,hz⟩
  all_goals
   have P:=hid hz;clear hz;go_wp2_with fail;refine Calls.mono (by first |with_reducible exact HO.out 0 δ δ|exact HO.out (-1) δ δ) ?_;rintro e X ⟨b',a',m',c',rfl,hf⟩;have hX:=hf.out.2;have hR:=D.below hX D.lt;obtain⟨k0,k1,k2,k3,R,e1,HB⟩:=hR.fin (τ L hX) ω (.bool b') (.slice a' m' c');have T:=hid (ApiV.to hf.out.1 (fun _ _ hl=>hl.pair hR (.bool b') (.slice a' m' c')));clear hR hX hf D L q0 q1;go_wp2;rw[<-E];exact bodyPost_ret (v:= .tuple #[Ω b' a' m' c',.bool true]) (by simp[results,results131,go_sem,R,e1]) rfl (.inl ⟨_,_,_,_,rfl,by rw[P.out];exact T.out,HB.out⟩)
 clear d2;obtain⟨k,rfl⟩: ∃k:Nat,n= -(k:Int):=⟨n.natAbs,ω⟩;have hk':k<=1048576:=ω
 have d3:decide ((32768:Int)<(k:Int))=false:=dF;have d4:decide (32768<k)=false:=dF;have d5:decide (k=0)=false:=dF;have hk0:0<k:=ω
 have hwk:IntKind.i64.wrap (k:Int)=(k:Int):=by simp[IntKind.wrap,IntKind.bits,IntKind.signed];omega
 have P:=hid (show cf x (-(k:Int))=x.fdiv ((2:Int)^k)from by unfold cf;rw[if_neg ω,Int.neg_neg,Int.fdiv_eq_ediv_of_nonneg x (Int.pow_nonneg δ)];rfl);have HL1:=hid (show(rep x.natAbs).length<=1048576 by have:=HLx.out;omega);have HL2:=hid (Nat.le_trans (sI (show k<32*1025 by omega)) δ:(rep ((2:Int)^k).natAbs).length<=1048576);have HNe:=hid (show(2:Int)^k≠0 from Int.ne_of_gt (Int.pow_pos δ));have HBx:=hid (fun X (h:Below W W X)=>show X.cell? ⟨w,0,none⟩=some (.bool H)/\X.cell? ⟨w,1,none⟩=some (.slice Q O c1)from(Z.below h Z.lt).two);have HR1:=hid (fun X (h:Below W W X)=>D.below h D.lt);clear h0 G hf Z;go_upto_region 11 with fail
 go_cut [6]from 6 to 35 (fun s6 wx=>xN W (x.fdiv ((2:Int)^k)) s6 wx)
 case first=>
  clear q0 q1 D L hd0 d3 d4 d5;subst E;have hX:Below W W W.drew:=(Below.refl _ _).drew;refine wp_region_held (S:=fun X=>Below W W X) κ ?_
  repeat' (first
   |(with_reducible show wpOp _ _ _ 3 _ _ _
     unfold wpOp;go_simp;refine .inl ((qE _ k hk' (Nat.le_trans C.out hX.size)).mono ?_);rintro e Xw ⟨u32,rfl,j,q⟩;(try replace y:=y.below q y.lt);(try replace p:=p.below q p.lt);replace hX:=τ hX q;clear q;replace j:=hid j;refine⟨hX,?_⟩)
   |(with_reducible show wpOp _ _ _ 4 _ _ _
     unfold wpOp;go_simp;refine .inl ((yf _ _ _ x ((2:Int)^k) (HvW.out.below hX) j.out HL1.out HL2.out HNe.out (Nat.le_trans C.out hX.size)).mono ?_);rintro e Xw ⟨bq,aq,nq,cq,br,ar,nr,cr,rfl,hq,hr,q⟩;replace j:=hid (j.out.below q);(try replace y:=y.below q y.lt);(try replace p:=p.below q p.lt);replace hX:=τ hX q;clear q;replace hq:=hid hq;replace hr:=hid hr;clear j;refine⟨hX,?_⟩)
   |(with_reducible show wpOp _ _ _ 8 _ _ _
     refine gd (o:=_) rfl rfl rfl (fun Xw g6 y q M hlt=>?_);clear hlt;(try have V:g7≠g6:=by have:=p.lt;omega);replace M:=Nat.le_trans hX.size M;(try replace hq:=hid (hq.out.below q));(try replace hr:=hid (hr.out.below q));(try replace j:=hid (j.out.below q));(try replace p:=p.below q p.lt);replace hX:=τ hX q;clear q;refine⟨hX,?_⟩;simp only[Act.put,zA,zB,zC])
   |(with_reducible show wpOp _ _ _ 9 _ _ _
     refine gd (o:=_) rfl rfl rfl (fun Xw g7 p q N hlt=>?_);clear hlt;(try have V:g7≠g6:=by have:=y.lt;omega);replace N:=Nat.le_trans hX.size N;(try replace hq:=hid (hq.out.below q));(try replace hr:=hid (hr.out.below q));(try replace j:=hid (j.out.below q));(try replace y:=y.below q y.lt);replace hX:=τ hX q;clear q;refine⟨hX,?_⟩;simp only[Act.put,zA,zB,zC])
   |(with_reducible show wpOp _ _ _ 10 _ _ _
     obtain⟨k0,k1,f0,f1⟩:=y.four;unfold wpOp;go_simp;have T:=hid (Al (U:=W) y M hq.out hX);have hne:=p.other (a:=⟨g6,0,none⟩) V (.bool bq);replace p:=hne.other (a:=⟨g6,1,none⟩) V (.slice aq nq cq);replace hX:=aw (aw hX M (i:=0) (.bool bq)) M (i:=1) (.slice aq nq cq);clear k0 k1 f0 f1 y hq hne;refine .inl ⟨hX,?_⟩)
   |(with_reducible show wpOp _ _ _ 11 _ _ _
     obtain⟨k0,k1,f0,f1⟩:=p.four;unfold wpOp;go_simp;replace T:=hid (zh (u:= .bool br) (v:= .slice ar nr cr) T.out p N (fun e=>V (by cases e;rfl)));replace hX:=aw (aw hX N (i:=0) (.bool br)) N (i:=1) (.slice ar nr cr);clear k0 k1 f0 f1 p;refine .inl ⟨hX,?_⟩)
   |(refine aR (i:=0) (v:=Ω H Q O c1) 29 rfl rfl κ (by decide+kernel) (by decide+kernel) (fun _ _ _ h=>h) (.inl ⟨rfl,fun X hX=>by obtain⟨i0,i1⟩:=HBx.out X hX;go_simp⟩) hX ?_
     simp only[Act.put,zA,zB,zC])
   |(refine aR (i:=1) (v:=I (-(k:Int))) 30 rfl rfl κ (by decide+kernel) (by decide+kernel) (fun _ _ _ h=>h) (.inl ⟨rfl,fun X hX=>by go_simp⟩) hX ?_
     simp only[Act.put,zA,zB,zC])
   |(refine aR (i:=2) (v:=I (k:Nat)) 31 rfl rfl κ (by decide+kernel) (by decide+kernel) (fun _ _ _ h=>h) (.inl ⟨rfl,fun X hX=>by go_simp⟩) hX ?_
     simp only[Act.put,zA,zB,zC])
   |(refine aR (i:=5) (v:= .tuple #[Ω bq aq nq cq,Ω br ar nr cr]) 28 rfl rfl κ (by decide+kernel) (by decide+kernel) (fun _ _ _ h=>h) (.inl ⟨rfl,fun X hX=>by go_simp⟩) hX ?_
     simp only[Act.put,zA,zB,zC])
   |(refine aR (i:=6) (v:=Ω bq aq nq cq) 34 rfl rfl κ (by decide+kernel) (by decide+kernel) (fun _ _ _ h=>h) (.inl ⟨rfl,fun X hX=>by go_simp⟩) hX ?_
     simp only[Act.put,zA,zB,zC])
   |(refine aR (i:=7) (v:=Ω br ar nr cr) 35 rfl rfl κ (by decide+kernel) (by decide+kernel) (fun _ _ _ h=>h) (.inl ⟨rfl,fun X hX=>by go_simp⟩) hX ?_
     simp only[Act.put,zA,zB,zC])
   |(first |refine wpAnyH_all (rs:=[3,8,9]) (by decide+kernel) δ (fun i F=>?_)|refine wpAnyH_all (rs:=[4,8,9]) (by decide+kernel) δ (fun i F=>?_)|refine wpAnyH_all (rs:=[3,8]) (by decide+kernel) δ (fun i F=>?_)|refine wpAnyH_all (rs:=[4,8]) (by decide+kernel) δ (fun i F=>?_)|refine wpAnyH_all (rs:=[3,9]) (by decide+kernel) δ (fun i F=>?_)|refine wpAnyH_all (rs:=[4,9]) (by decide+kernel) δ (fun i F=>?_)|refine wpAnyH_all (rs:=[8,9]) (by decide+kernel) δ (fun i F=>?_)|refine wpAnyH_all (rs:=[3]) (by decide+kernel) δ (fun i F=>?_)|refine wpAnyH_all (rs:=[4]) (by decide+kernel) δ (fun i F=>?_)|refine wpAnyH_all (rs:=[10]) (by decide+kernel) δ (fun i F=>?_)|refine wpAnyH_all (rs:=[11]) (by decide+kernel) δ (fun i F=>?_)|refine wpAnyH_all (rs:=[8]) (by decide+kernel) δ (fun i F=>?_)|refine wpAnyH_all (rs:=[9]) (by decide+kernel) δ (fun i F=>?_)
     simp only[List.mem_cons,List.not_mem_nil,or_false]at F;rcases F with rfl|rfl|rfl)
   |(refine wpAnyH_done (by decide+kernel) ?_ _
     go_wp2_with fail;go_meet;exact T.out))
 case rest=>
  obtain⟨g,b',a',m',c',rfl,hg,hrg,hapi,hX⟩:=hcut;obtain⟨j0,j1⟩:=hrg.two;have hR:=HR1.out _ hX;obtain⟨k0,k1,k2,k3,R,e1,HB⟩:=hR.fin (τ L hX) ω (.bool b') (.slice a' m' c');have T:=hid (ApiV.to hapi (fun _ _ hl=>hl.pair hR (.bool b') (.slice a' m' c')));clear hR hX hapi hrg q0 q1 D L;go_wp2;rw[<-E];exact bodyPost_ret (v:= .tuple #[Ω b' a' m' c',.bool true]) (by simp[results,results131,go_sem,R,e1]) rfl (.inl ⟨_,_,_,_,rfl,by rw[P.out];exact T.out,HB.out⟩)
end Go.Proofs.YtfefijlnbhbplaaGreatDoor
